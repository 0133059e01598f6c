/- What the functions of the law compute, each with its proof. -/
import Derived.Test.YtnhjanhaokiahaaSrt
import Derived.Test.YtnhjanhaokiahaaRows
import Derived.KernelRfl
namespace Go.VM
open Go.Proofs Go.Proofs.Ytnhjanhaokiahaa
set_option maxRecDepth 100000
set_option maxHeartbeats 4000000
structure api_Thread where
  fId : Int
  fName : ByteArray
  fDomain : Int
  deriving DecidableEq
structure api_Id where
  fThread : Int
  fSerial : Int
  deriving DecidableEq
structure api_Event where
  fAt : Int
  fKind : Int
  fName : ByteArray
  fN : Int
  fM : Int
  fStack : (List ByteArray)
  deriving DecidableEq
structure api_Interval where
  fLo : Int
  fHi : Int
  deriving DecidableEq
structure api_Timed where
  fId : api_Id
  fEvent : api_Event
  fWhen : api_Interval
  deriving DecidableEq
def t_api_Thread (x : api_Thread) : List T := [tI x.fId, .sc (.string x.fName), tI x.fDomain]
def t_str (x : ByteArray) : List T := [.sc (.string x)]
abbrev m_api_Timed (x : api_Timed) : List C := [.imm (tI x.fId.fThread), .imm (tI x.fId.fSerial), .imm (tI x.fEvent.fAt), .imm (tI x.fEvent.fKind), .imm (.sc (.string x.fEvent.fName)), .imm (tI x.fEvent.fN), .imm (tI x.fEvent.fM), .imm (.sl 1 (List.map t_str x.fEvent.fStack)), .imm (tI x.fWhen.fLo), .imm (tI x.fWhen.fHi)]
def t_api_Timed (x : api_Timed) : List T := [tI x.fId.fThread, tI x.fId.fSerial, tI x.fEvent.fAt, tI x.fEvent.fKind, .sc (.string x.fEvent.fName), tI x.fEvent.fN, tI x.fEvent.fM, .sl 1 (List.map t_str x.fEvent.fStack), tI x.fWhen.fLo, tI x.fWhen.fHi]
structure state_change where
  fat : Int
  fstate : Int
  fcpu : Int
  fon : Int
  fby : Int
  deriving DecidableEq
abbrev m_state_change (x : state_change) : List C := [.imm (tI x.fat), .imm (tI x.fstate), .imm (tI x.fcpu), .imm (tI x.fon), .imm (tI x.fby)]
structure state_track where
  fchanges : (List state_change)
  fnext : Int
  flast : Int
  deriving DecidableEq
def t_state_change (x : state_change) : List T := [tI x.fat, tI x.fstate, tI x.fcpu, tI x.fon, tI x.fby]
def bx_state_track (i : Nat) (x : state_track) : List C := [.slO (952, i), .imm (tI x.fnext), .imm (tI x.flast)]
def ars_state_track (j : Nat) (x : state_track) : Option Ob := match j with | 0 => some (.arr 81 5 (List.map t_state_change x.fchanges)) | _ => none
theorem ars_none_state_track (x : state_track) : ∀ k, 1 ≤ k → ars_state_track k x = none
  | 0, h => absurd h (by decide)
  | _ + 1, _ => rfl
theorem famK_state_track : FamK 950 bx_state_track ars_state_track where
  n := by decide
  c := fun i x o h => by
    simp only [bx_state_track, List.flatMap_cons, List.flatMap_nil, C.refs, List.nil_append, List.append_nil, List.cons_append, List.mem_cons, List.not_mem_nil, or_false] at h
    rcases h with h
    · exact ⟨0, rfl, h⟩
  a := fun j x ob h => by
    match j, h with
    | 0, h => exact ⟨by decide, _, _, _, (Option.some.inj h).symm⟩
    | _ + 1, h => cases h
def t_i64 (x : Int) : List T := [tI x]
structure api_Span where
  fFrom : Int
  fTo : Int
  deriving DecidableEq
structure api_State where
  fThread : Int
  fState : Int
  fSpan : api_Span
  fCpu : Int
  fOn : Int
  fBy : Int
  deriving DecidableEq
abbrev m_api_State (x : api_State) : List C := [.imm (tI x.fThread), .imm (tI x.fState), .imm (tI x.fSpan.fFrom), .imm (tI x.fSpan.fTo), .imm (tI x.fCpu), .imm (tI x.fOn), .imm (tI x.fBy)]
def t_api_State (x : api_State) : List T := [tI x.fThread, tI x.fState, tI x.fSpan.fFrom, tI x.fSpan.fTo, tI x.fCpu, tI x.fOn, tI x.fBy]
def t_api_Span (x : api_Span) : List T := [tI x.fFrom, tI x.fTo]
def v33 : VC := (.seq (rg [vo 1 (.box 58 0), vo 2 (.mv (kI 0))]) (.seq (.seq (rg [vo 3 (.fld 8 1), vo 4 (.fld 0 3), vo 5 (.load 1 false 4), vo 6 (.bin .lss 5 (kI 0))]) (.cond 6 (.seq (rg [vo 2 (.mv (kI 0))]) .ret) .skip)) (.seq (.seq (rg [vo 7 (.fld 8 1), vo 8 (.fld 0 7), vo 9 (.load 1 false 8), vo 10 (.bin .gtr 9 (kI 1000000000000))]) (.cond 10 (.seq (rg [vo 2 (.mv (kI 1000000000000))]) .ret) .skip)) (.seq (rg [vo 11 (.fld 8 1), vo 12 (.fld 0 11), vo 13 (.load 1 false 12), vm 2 13]) .ret))))
theorem c33 : (Try.f33.body.bind fun c => cCode Try.prog 14 c) = some v33 := by kernel_rfl
def v20 : VC := (.seq (rg [vo 2 (.mv (kB false))]) (.seq (.seq (rg [vo 3 (.mv (kI 0))]) (.block 0 (.loop (.seq (.seq (rg [vm 4 3, vm 5 0, vo 6 (.lenS 5), vo 7 (.bin .lss 4 6)]) (.cond 7 .skip (.exit 0))) (.seq (.block 1 (.seq (.region (some [0,0,3,7,15,31,63,127,255,255,1023,2047,4095,8191,16383,32767,65535,131071,262143,524287,1048575,1048575,4194303,8388607,16777215,1048575,1048575,68157439,235929599,504365055,1073741823,2147483647,4294967295,8589934591,1,1,0,0,0,0,0,0,0,0,0,0,0,0,0,0,0,0,0,0,0,0,0,0,0,0,0,0,0,0,0,0,0,0]) [vm 10 0, vm 11 3, vo 12 (.ixA 10 10 11), vo 13 (.fld 0 12), vo 14 (.fld 1 13), vo 15 (.load 1 false 14), vo 16 (.bin .lss 15 (kI 0)), vm 17 16, vg 18 17 false (.mv 0), vg 19 17 false (.mv 3), vg 20 17 false (.ixA 10 18 19), vg 21 17 false (.fld 0 20), vg 22 17 false (.fld 1 21), vg 23 17 false (.load 1 false 22), vg 24 17 false (.bin .gtr 23 (kI 1000000000000000)), vo 25 (.pick 17 (kB true) 24), vm 26 25, vg 27 26 false (.mv 3), vg 28 26 false (.bin .gtr 27 (kI 0)), vg 29 26 false (.mv 28), vg 30 29 true (.mv 0), vg 31 29 true (.mv 3), vg 32 29 true (.ixA 10 30 31), vg 33 29 true (.load 10 true 32), vg 34 29 true (.call 33 [33]), vg 35 29 true (.mv 0), vg 36 29 true (.mv 3), vg 37 29 true (.bin .sub 36 (kI 1)), vg 38 29 true (.ixA 10 35 37), vg 39 29 true (.load 10 true 38), vg 40 29 true (.call 33 [39]), vg 41 29 true (.bin .lss 34 40), vg 42 26 false (.pick 29 41 (kB false)), vo 43 (.pick 26 (kB true) 42)]) (.cond 43 (.seq (rg [vo 2 (.mv (kB false))]) .ret) .skip))) (rg [vm 8 3, vo 9 (.bin .add 8 (kI 1)), vm 3 9])))))) (.seq (rg [vo 2 (.mv (kB true))]) .ret)))
theorem c20 : (Try.f20.body.bind fun c => cCode Try.prog 44 c) = some v20 := by kernel_rfl
def v7 : VC := (.seq (rg [vo 4 (.mv (kB false))]) (.seq (rg [vm 5 0, vo 6 (.lenS 5), vo 7 (.bin .leq 6 (kI 20)), vm 8 7, vg 9 8 true (.mv 1), vg 10 8 true (.lenS 9), vg 11 8 true (.bin .leq 10 (kI 200)), vo 12 (.pick 8 11 (kB false)), vm 13 12, vg 14 13 true (.mv 1), vg 15 13 true (.call 20 [14]), vo 16 (.pick 13 15 (kB false)), vm 4 16]) .ret))
theorem c7 : (Try.f7.body.bind fun c => cCode Try.prog 17 c) = some v7 := by kernel_rfl
def v21 : VC := (.seq (rg [vo 10 (.alloc 58 [(iI 0),(iI 0),(iI 0),(iI 0),iS,(iI 0),(iI 0),.nilS,(iI 0),(iI 0)])]) (.seq (rg [vm 11 0, vm 12 1, vo 13 (.build [(iI 0),(iI 0)] [(0,1,11),(1,1,12)]), vm 14 2, vm 15 3, vm 16 4, vo 17 (.build [(iI 0),(iI 0),iS,(iI 0),(iI 0),.nilS] [(0,1,14),(1,1,15),(3,1,16)]), vm 18 2, vm 19 2, vo 20 (.build [(iI 0),(iI 0)] [(0,1,18),(1,1,19)]), vo 21 (.build [(iI 0),(iI 0),(iI 0),(iI 0),iS,(iI 0),(iI 0),.nilS,(iI 0),(iI 0)] [(0,2,13),(2,6,17),(8,2,20)]), vp (.store 10 10 21)]) .ret))
theorem c21 : (Try.f21.body.bind fun c => cCode Try.prog 22 c) = some v21 := by kernel_rfl
def v30 : VC := (.seq (rg [vo 4 (.mv (kI 0))]) (.seq (.seq (rg [vm 6 0, vo 7 (.lenS 6), vo 8 (.mv (kI 0))]) (.block 0 (.loop (.seq (rg [vo 9 (.bin .lss 8 7)]) (.seq (.cond 9 .skip (.exit 0)) (.seq (.block 1 (.seq (rg [vm 10 8, vm 5 10]) (.seq (rg [vm 11 1, vm 12 0, vm 13 5, vo 14 (.ixA 1 12 13), vo 15 (.load 1 false 14), vo 16 (.bin .eql 11 15)]) (.cond 16 (.seq (rg [vm 17 5, vm 4 17]) .ret) .skip)))) (rg [vo 18 (.bin .add 8 (kI 1)), vm 8 18]))))))) (.seq (rg [vo 4 (.mv (kI (-1)))]) .ret)))
theorem c30 : (Try.f30.body.bind fun c => cCode Try.prog 19 c) = some v30 := by kernel_rfl
def v37 : VC := (.seq (rg [vo 4 (.mv (kB false))]) (.seq (rg [vm 5 0, vm 6 1, vo 7 (.call 30 [5,6]), vo 8 (.bin .geq 7 (kI 0)), vm 4 8]) .ret))
theorem c37 : (Try.f37.body.bind fun c => cCode Try.prog 9 c) = some v37 := by kernel_rfl
def v23 : VC := (.seq (rg [vo 2 (.mv (.con (.c .nilS)))]) (.seq (rg [vo 3 (.mv (.con (.c .nilS)))]) (.seq (.seq (rg [vm 6 0, vo 7 (.lenS 6), vo 8 (.mv (kI 0))]) (.block 0 (.loop (.seq (rg [vo 9 (.bin .lss 8 7)]) (.seq (.cond 9 .skip (.exit 0)) (.seq (.block 1 (.seq (rg [vo 10 (.ixA 3 6 8), vo 11 (.load 3 true 10), vo 5 (.alloc 38 [(iI 0),iS,(iI 0)]), vp (.store 3 5 11)]) (.seq (rg [vm 12 3, vo 13 (.fld 0 5), vo 14 (.load 1 false 13), vo 15 (.call 37 [12,14]), vo 16 (.un .not 15)]) (.cond 16 (rg [vm 17 3, vo 18 (.fld 0 5), vo 19 (.load 1 false 18), vo 20 (.bsl 3 1 1 [(iI 0)] [(0,1,19)]), vo 21 (.app 3 1 8 17 20), vm 3 21]) .skip)))) (rg [vo 22 (.bin .add 8 (kI 1)), vm 8 22]))))))) (.seq (rg [vm 23 3, vm 2 23]) .ret))))
theorem c23 : (Try.f23.body.bind fun c => cCode Try.prog 24 c) = some v23 := by kernel_rfl
def v24 : VC := (rg [vm 12 0, vm 13 0, vo 14 (.nilc 13), vo 15 (.fld 0 14), vo 16 (.load 1 false 15), vm 17 1, vm 18 2, vm 19 3, vm 20 4, vm 21 5, vo 22 (.build [(iI 0),(iI 0),(iI 0),(iI 0),(iI 0)] [(0,1,17),(1,1,18),(2,1,19),(3,1,20),(4,1,21)]), vo 23 (.bsl 81 5 1 [(iI 0),(iI 0),(iI 0),(iI 0),(iI 0)] [(0,5,22)]), vo 24 (.app 81 5 40 16 23), vo 25 (.nilc 12), vo 26 (.fld 0 25), vp (.store 1 26 24)])
theorem c24 : (Try.f24.body.bind fun c => cCode Try.prog 27 c) = some v24 := by kernel_rfl
def v25 : VC := (.seq (rg [vo 1 (.box 58 0), vo 2 (.mv (kI 0))]) (.seq (rg [vo 3 (.fld 8 1), vo 4 (.fld 0 3), vo 5 (.load 1 false 4), vo 6 (.mm false [5,(kI 1000000000000)]), vo 7 (.mm true [(kI 0),6]), vm 2 7]) .ret))
theorem c25 : (Try.f25.body.bind fun c => cCode Try.prog 8 c) = some v25 := by kernel_rfl
def v39 : VC := (.seq (rg [vo 2 (.alloc 81 [(iI 0),(iI 0),(iI 0),(iI 0),(iI 0)])]) (.seq (.region (some [0,1,3,7,0,16,48,112,240,496,1023,2047,4095,1,0,0,0,1,0,0,0,0,0,0,0,0]) [vm 3 0, vo 4 (.nilc 3), vo 5 (.fld 0 4), vo 6 (.load 1 false 5), vm 7 0, vo 8 (.nilc 7), vo 9 (.fld 0 8), vo 10 (.load 1 false 9), vo 11 (.lenS 10), vo 12 (.bin .sub 11 (kI 1)), vo 13 (.ixA 5 6 12), vo 14 (.load 5 true 13), vp (.store 5 2 14)]) .ret))
theorem c39 : (Try.f39.body.bind fun c => cCode Try.prog 15 c) = some v39 := by kernel_rfl
def v27 : VC := (.seq (rg [vm 7 0, vo 8 (.call 39 [7]), vo 9 (.field 1 1 false 8), vm 6 9]) (.seq (rg [vm 10 6, vo 11 (.bin .eql 10 (kI 1)), vm 12 11, vg 13 12 false (.mv 6), vg 14 12 false (.bin .eql 13 (kI 2)), vo 15 (.pick 12 (kB true) 14)]) (.cond 15 (rg [vm 16 0, vm 17 1, vm 18 2, vo 19 (.call 24 [16,17,(kI 0),(kI (-1)),(kI (-1)),18])]) .skip)))
theorem c27 : (Try.f27.body.bind fun c => cCode Try.prog 20 c) = some v27 := by kernel_rfl
def v38 : VC := (.seq (.block 0 (.loop (.seq (.seq (.region (some [0,1,3,7,15,31,63,127,255,511,127,1151,3199,7295,16383,32767,1,0,0,0,0,0,0,0,0,0,0,0,0,0,0,0]) [vm 2 0, vo 3 (.nilc 2), vo 4 (.fld 0 3), vo 5 (.load 1 false 4), vo 6 (.lenS 5), vo 7 (.bin .gtr 6 (kI 1)), vm 8 7, vg 9 8 true (.mv 0), vg 10 8 true (.call 39 [9]), vg 11 8 true (.field 0 1 false 10), vg 12 8 true (.mv 0), vg 13 8 true (.nilc 12), vg 14 8 true (.fld 2 13), vg 15 8 true (.load 1 false 14), vg 16 8 true (.bin .gtr 11 15), vo 17 (.pick 8 16 (kB false))]) (.cond 17 .skip (.exit 0))) (.block 1 (.region (some [0,0,2,6,14,0,32,96,224,480,992,2046,4095,8191,16383,1,1,0,0,0,1,0,0,0,0,0,0,0,0,0]) [vm 18 0, vm 19 0, vo 20 (.nilc 19), vo 21 (.fld 0 20), vo 22 (.load 1 false 21), vm 23 0, vo 24 (.nilc 23), vo 25 (.fld 0 24), vo 26 (.load 1 false 25), vo 27 (.lenS 26), vo 28 (.bin .sub 27 (kI 1)), vo 29 (.sub 5 22 none (some 28)), vo 30 (.nilc 18), vo 31 (.fld 0 30), vp (.store 1 31 29)]))))) (rg [vm 32 0, vm 33 0, vo 34 (.nilc 33), vo 35 (.fld 2 34), vo 36 (.load 1 false 35), vo 37 (.call 24 [32,36,(kI 5),(kI (-1)),(kI (-1)),(kI (-1))])]))
theorem c38 : (Try.f38.body.bind fun c => cCode Try.prog 38 c) = some v38 := by kernel_rfl
def v26 : VC := (.seq (rg [vo 3 (.box 58 1)]) (.seq (rg [vo 6 (.load 10 true 3), vo 7 (.call 25 [6]), vm 4 7]) (.seq (.seq (.region (some [0,1,3,0,8,24,56,127,0,0,0,1,0,0,0,0]) [vo 8 (.fld 0 3), vo 9 (.fld 1 8), vo 10 (.load 1 false 9), vm 11 0, vo 12 (.nilc 11), vo 13 (.fld 1 12), vo 14 (.load 1 false 13), vo 15 (.bin .neq 10 14)]) (.cond 15 (rg [vm 16 0, vo 17 (.call 38 [16])]) .skip)) (.seq (rg [vm 18 0, vm 19 0, vo 20 (.fld 0 3), vo 21 (.fld 1 20), vo 22 (.load 1 false 21), vo 23 (.bin .add 22 (kI 1)), vm 24 4, vo 25 (.nilc 18), vo 26 (.fld 1 25), vp (.store 1 26 23), vo 27 (.nilc 19), vo 28 (.fld 2 27), vp (.store 1 28 24)]) (.seq (rg [vo 29 (.fld 2 3), vo 30 (.fld 1 29), vo 31 (.load 1 false 30)]) (.block 0 (.seq (rg [vo 33 (.bin .eql 31 (kI 8)), vm 32 33]) (.cond 32 (rg [vm 34 0, vm 35 4, vo 36 (.fld 2 3), vo 37 (.fld 3 36), vo 38 (.load 1 false 37), vo 39 (.call 24 [34,35,(kI 4),38,(kI (-1)),(kI (-1))])]) (.seq (rg [vo 41 (.bin .eql 31 (kI 9)), vm 40 41]) (.cond 40 (.seq (rg [vo 5 (.mv (kI (-1)))]) (.seq (.seq (rg [vo 42 (.fld 2 3), vo 43 (.fld 3 42), vo 44 (.load 1 false 43), vo 45 (.bin .eql 44 (kI 2))]) (.cond 45 (rg [vo 46 (.fld 2 3), vo 47 (.fld 4 46), vo 48 (.load 1 false 47), vm 5 48]) .skip)) (rg [vm 49 0, vm 50 4, vo 51 (.fld 2 3), vo 52 (.fld 3 51), vo 53 (.load 1 false 52), vm 54 5, vo 55 (.call 24 [49,50,53,(kI (-1)),54,(kI (-1))])]))) .skip))))))))))
theorem c26 : (Try.f26.body.bind fun c => cCode Try.prog 56 c) = some v26 := by kernel_rfl
def v32 : VC := (.seq (rg [vo 2 (.box 42 0), vo 3 (.box 42 1), vo 4 (.mv (kB false))]) (.seq (rg [vo 5 (.fld 1 2), vo 6 (.load 1 false 5), vo 7 (.fld 1 3), vo 8 (.load 1 false 7), vo 9 (.bin .eql 6 8), vm 10 9, vg 11 10 true (.fld 4 2), vg 12 10 true (.load 1 false 11), vg 13 10 true (.fld 4 3), vg 14 10 true (.load 1 false 13), vg 15 10 true (.bin .eql 12 14), vo 16 (.pick 10 15 (kB false)), vm 17 16, vg 18 17 true (.fld 5 2), vg 19 17 true (.load 1 false 18), vg 20 17 true (.fld 5 3), vg 21 17 true (.load 1 false 20), vg 22 17 true (.bin .eql 19 21), vo 23 (.pick 17 22 (kB false)), vm 4 23]) .ret))
theorem c32 : (Try.f32.body.bind fun c => cCode Try.prog 24 c) = some v32 := by kernel_rfl
def v28 : VC := (.seq (rg [vo 6 (.mv (.con (.c .nilS)))]) (.seq (rg [vo 7 (.mv (.con (.c .nilS)))]) (.seq (.seq (rg [vm 14 0, vo 15 (.nilc 14), vo 16 (.fld 0 15), vo 17 (.load 1 false 16), vo 18 (.lenS 17), vo 19 (.mv (kI 0))]) (.block 0 (.loop (.seq (rg [vo 20 (.bin .lss 19 18)]) (.seq (.cond 20 .skip (.exit 0)) (.seq (.block 1 (.seq (rg [vm 21 19, vo 22 (.ixA 5 17 19), vo 23 (.load 5 true 22), vo 9 (.alloc 81 [(iI 0),(iI 0),(iI 0),(iI 0),(iI 0)]), vm 8 21, vp (.store 5 9 23)]) (.seq (rg [vm 24 2, vm 10 24, vo 11 (.mv (kI (-1)))]) (.seq (.seq (rg [vm 25 8, vo 26 (.bin .add 25 (kI 1)), vm 27 0, vo 28 (.nilc 27), vo 29 (.fld 0 28), vo 30 (.load 1 false 29), vo 31 (.lenS 30), vo 32 (.bin .lss 26 31)]) (.cond 32 (.region (some [0,1,3,7,0,16,63,127,255,0,512,1536,3584,0,8192,32256,65024,130560,511,524287,1,0,0,0,1,0,0,0,0,1,0,0,0,1,0,0,0,0,0,0]) [vm 33 0, vo 34 (.nilc 33), vo 35 (.fld 0 34), vo 36 (.load 1 false 35), vm 37 8, vo 38 (.bin .add 37 (kI 1)), vo 39 (.ixA 5 36 38), vo 40 (.fld 0 39), vo 41 (.load 1 false 40), vm 42 0, vo 43 (.nilc 42), vo 44 (.fld 0 43), vo 45 (.load 1 false 44), vm 46 8, vo 47 (.bin .add 46 (kI 1)), vo 48 (.ixA 5 45 47), vo 49 (.fld 4 48), vo 50 (.load 1 false 49), vm 10 41, vm 11 50]) .skip)) (.seq (rg [vm 51 1, vo 52 (.fld 1 9), vo 53 (.load 1 false 52), vo 54 (.fld 0 9), vo 55 (.load 1 false 54), vm 56 10, vo 57 (.build [(iI 0),(iI 0)] [(0,1,55),(1,1,56)]), vo 58 (.fld 2 9), vo 59 (.load 1 false 58), vo 60 (.fld 3 9), vo 61 (.load 1 false 60), vm 62 11, vo 63 (.build [(iI 0),(iI 0),(iI 0),(iI 0),(iI 0),(iI 0),(iI 0)] [(0,1,51),(1,1,53),(2,2,57),(4,1,59),(5,1,61),(6,1,62)]), vo 12 (.alloc 42 [(iI 0),(iI 0),(iI 0),(iI 0),(iI 0),(iI 0),(iI 0)]), vp (.store 7 12 63)]) (.seq (.seq (rg [vo 64 (.fld 2 12), vo 65 (.fld 0 64), vo 66 (.load 1 false 65), vo 67 (.fld 2 12), vo 68 (.fld 1 67), vo 69 (.load 1 false 68), vo 70 (.bin .geq 66 69)]) (.cond 70 (.exit 1) .skip)) (.seq (.seq (rg [vm 71 7, vo 72 (.lenS 71), vo 73 (.bin .sub 72 (kI 1)), vm 13 73]) (.seq (.region (some [0,1,3,7,7,31,63,7,255,511,1,0,0,0,0,0,0,0,0,0]) [vm 74 13, vo 75 (.bin .geq 74 (kI 0)), vm 76 75, vg 77 76 true (.mv 7), vg 78 76 true (.mv 13), vg 79 76 true (.ixA 7 77 78), vg 80 76 true (.load 7 true 79), vg 81 76 true (.load 7 true 12), vg 82 76 true (.call 32 [80,81]), vo 83 (.pick 76 82 (kB false))]) (.cond 83 (.seq (.region (some [0,0,0,0,0,16,48,0,128,115,627,1651,3699,8191,16383,32767,1,1,1,1,0,0,0,0,0,0,0,0,0,0,0,0]) [vm 84 7, vm 85 13, vm 86 7, vm 87 13, vo 88 (.fld 2 12), vo 89 (.fld 1 88), vo 90 (.load 1 false 89), vo 91 (.fld 6 12), vo 92 (.load 1 false 91), vo 93 (.ixA 7 84 85), vo 94 (.fld 2 93), vo 95 (.fld 1 94), vp (.store 1 95 90), vo 96 (.ixA 7 86 87), vo 97 (.fld 6 96), vp (.store 1 97 92)]) (.exit 1)) .skip))) (rg [vm 98 7, vo 99 (.load 7 true 12), vo 100 (.bsl 42 7 1 [(iI 0),(iI 0),(iI 0),(iI 0),(iI 0),(iI 0),(iI 0)] [(0,7,99)]), vo 101 (.app 42 7 56 98 100), vm 7 101])))))))) (rg [vo 102 (.bin .add 19 (kI 1)), vm 19 102]))))))) (.seq (rg [vm 103 7, vm 6 103]) .ret))))
theorem c28 : (Try.f28.body.bind fun c => cCode Try.prog 104 c) = some v28 := by kernel_rfl
def v10 : VC := (.seq (rg [vo 6 (.mv (.con (.c .nilS)))]) (.seq (rg [vo 19 (.mkmap (.int .i64)), vm 7 19]) (.seq (rg [vm 20 0, vo 21 (.call 23 [20]), vm 8 21]) (.seq (.seq (rg [vm 22 8, vo 23 (.lenS 22), vo 24 (.mv (kI 0))]) (.block 0 (.loop (.seq (rg [vo 25 (.bin .lss 24 23)]) (.seq (.cond 25 .skip (.exit 0)) (.seq (.block 1 (.seq (rg [vo 26 (.ixA 1 22 24), vo 27 (.load 1 false 26), vm 10 27]) (.seq (rg [vo 28 (.build [.nilS,(iI 0),(iI 0)] []), vo 29 (.box 67 28), vm 11 29]) (.seq (rg [vm 30 11, vo 31 (.call 24 [30,(kI 0),(kI 5),(kI (-1)),(kI (-1)),(kI (-1))])]) (rg [vm 32 7, vm 33 10, vm 34 11, vp (.mupd (.int .i64) 32 33 34)]))))) (rg [vo 35 (.bin .add 24 (kI 1)), vm 24 35]))))))) (.seq (.seq (rg [vm 36 1, vo 37 (.lenS 36), vo 38 (.mv (kI 0))]) (.block 2 (.loop (.seq (rg [vo 39 (.bin .lss 38 37)]) (.seq (.cond 39 .skip (.exit 2)) (.seq (.block 3 (.seq (rg [vo 40 (.ixA 10 36 38), vo 41 (.load 10 true 40), vo 13 (.alloc 58 [(iI 0),(iI 0),(iI 0),(iI 0),iS,(iI 0),(iI 0),.nilS,(iI 0),(iI 0)]), vp (.store 10 13 41)]) (.seq (rg [vm 42 2, vo 43 (.load 10 true 13), vo 44 (.call 25 [43]), vo 45 (.mm true [42,44]), vm 2 45]) (.seq (.seq (rg [vm 46 7, vo 47 (.fld 0 13), vo 48 (.fld 0 47), vo 49 (.load 1 false 48), vo 50 (.look (.int .i64) (.c (.imm (.sc (.pointer none)))) false 46 49), vm 14 50]) (.seq (rg [vm 51 14, vo 52 (.peq true 51 (.con (.c (.imm (.sc (.pointer none))))))]) (.cond 52 (rg [vm 53 14, vo 54 (.load 10 true 13), vo 55 (.call 26 [53,54])]) .skip))) (.seq (rg [vm 56 7, vo 57 (.fld 2 13), vo 58 (.fld 3 57), vo 59 (.load 1 false 58), vo 60 (.look (.int .i64) (.c (.imm (.sc (.pointer none)))) false 56 59), vm 15 60]) (.seq (rg [vm 61 15, vo 62 (.peq true 61 (.con (.c (.imm (.sc (.pointer none)))))), vm 63 62, vg 64 63 true (.fld 2 13), vg 65 63 true (.fld 1 64), vg 66 63 true (.load 1 false 65), vg 67 63 true (.bin .eql 66 (kI 10)), vo 68 (.pick 63 67 (kB false))]) (.cond 68 (.region (some [0,0,2,0,8,24,63,1,0,0,0,0,0,0]) [vm 69 15, vo 70 (.load 10 true 13), vo 71 (.call 25 [70]), vo 72 (.fld 0 13), vo 73 (.fld 0 72), vo 74 (.load 1 false 73), vo 75 (.call 27 [69,71,74])]) .skip))))))) (rg [vo 76 (.bin .add 38 (kI 1)), vm 38 76]))))))) (.seq (rg [vm 77 2, vo 78 (.mm false [77,(kI 1000000000000)]), vo 79 (.mm true [(kI 0),78]), vm 2 79]) (.seq (rg [vo 16 (.mv (.con (.c .nilS)))]) (.seq (.seq (rg [vm 80 8, vo 81 (.lenS 80), vo 82 (.mv (kI 0))]) (.block 4 (.loop (.seq (rg [vo 83 (.bin .lss 82 81)]) (.seq (.cond 83 .skip (.exit 4)) (.seq (.block 5 (.seq (rg [vo 84 (.ixA 1 80 82), vo 85 (.load 1 false 84), vm 18 85]) (rg [vm 86 16, vm 87 7, vm 88 18, vo 89 (.look (.int .i64) (.c (.imm (.sc (.pointer none)))) false 87 88), vm 90 18, vm 91 2, vo 92 (.call 28 [89,90,91]), vo 93 (.app 42 7 56 86 92), vm 16 93]))) (rg [vo 94 (.bin .add 82 (kI 1)), vm 82 94]))))))) (.seq (rg [vm 95 16, vm 6 95]) .ret)))))))))
theorem c10 : (Try.f10.body.bind fun c => cCode Try.prog 96 c) = some v10 := by kernel_rfl
def v22 : VC := (.seq (rg [vo 10 (.alloc 42 [(iI 0),(iI 0),(iI 0),(iI 0),(iI 0),(iI 0),(iI 0)])]) (.seq (rg [vm 11 0, vm 12 1, vm 13 2, vo 14 (.build [(iI 0),(iI 0)] [(0,1,12),(1,1,13)]), vm 15 3, vm 16 4, vo 17 (.build [(iI 0),(iI 0),(iI 0),(iI 0),(iI 0),(iI 0),(iI 0)] [(0,1,(kI 1)),(1,1,11),(2,2,14),(4,1,15),(5,1,(kI (-1))),(6,1,16)]), vp (.store 7 10 17)]) .ret))
theorem c22 : (Try.f22.body.bind fun c => cCode Try.prog 18 c) = some v22 := by kernel_rfl
def v9 : VC := (.seq (rg [vo 4 (.mv (kB false))]) (.seq (.seq (rg [vm 6 0, vo 7 (.lenS 6), vm 8 1, vo 9 (.lenS 8), vo 10 (.bin .neq 7 9)]) (.cond 10 (.seq (rg [vo 4 (.mv (kB false))]) .ret) .skip)) (.seq (.seq (rg [vo 5 (.mv (kI 0))]) (.block 0 (.loop (.seq (.seq (rg [vm 11 5, vm 12 0, vo 13 (.lenS 12), vo 14 (.bin .lss 11 13)]) (.cond 14 .skip (.exit 0))) (.seq (.block 1 (.seq (.region (some [0,0,3,7,0,0,48,112,255,1,1,0,0,1,1,0,0,0]) [vm 17 0, vm 18 5, vo 19 (.ixA 7 17 18), vo 20 (.load 7 true 19), vm 21 1, vm 22 5, vo 23 (.ixA 7 21 22), vo 24 (.load 7 true 23), vo 25 (.aeq true 42 20 24)]) (.cond 25 (.seq (rg [vo 4 (.mv (kB false))]) .ret) .skip))) (rg [vm 15 5, vo 16 (.bin .add 15 (kI 1)), vm 5 16])))))) (.seq (rg [vo 4 (.mv (kB true))]) .ret))))
theorem c9 : (Try.f9.body.bind fun c => cCode Try.prog 26 c) = some v9 := by kernel_rfl
def v14 : VC := (.seq (rg [vo 1 (.box 31 0), vo 2 (.mv (kB false))]) (.seq (rg [vo 3 (.fld 0 1), vo 4 (.load 1 false 3), vo 5 (.bin .geq 4 (kI 0)), vm 6 5, vg 7 6 true (.fld 0 1), vg 8 6 true (.load 1 false 7), vg 9 6 true (.fld 1 1), vg 10 6 true (.load 1 false 9), vg 11 6 true (.bin .lss 8 10), vo 12 (.pick 6 11 (kB false)), vm 13 12, vg 14 13 true (.fld 1 1), vg 15 13 true (.load 1 false 14), vg 16 13 true (.bin .leq 15 (kI 1000000000000)), vo 17 (.pick 13 16 (kB false)), vm 2 17]) .ret))
theorem c14 : (Try.f14.body.bind fun c => cCode Try.prog 18 c) = some v14 := by kernel_rfl
def v31 : VC := (.seq (rg [vo 1 (.box 42 0), vo 2 (.mv (kB false))]) (.seq (rg [vo 4 (.fld 1 1), vo 5 (.load 1 false 4), vo 6 (.bin .eql 5 (kI 1)), vm 7 6, vg 8 7 false (.fld 1 1), vg 9 7 false (.load 1 false 8), vg 10 7 false (.bin .eql 9 (kI 2)), vo 11 (.pick 7 (kB true) 10), vm 3 11]) (.seq (.block 0 (.seq (rg [vo 13 (.fld 1 1), vo 14 (.load 1 false 13), vo 15 (.bin .lss 14 (kI 0)), vm 16 15, vg 17 16 false (.fld 1 1), vg 18 16 false (.load 1 false 17), vg 19 16 false (.bin .gtr 18 (kI 5)), vo 20 (.pick 16 (kB true) 19), vm 12 20]) (.cond 12 (.seq (rg [vo 2 (.mv (kB false))]) .ret) (.seq (.seq (rg [vo 22 (.fld 1 1), vo 23 (.load 1 false 22), vo 24 (.bin .eql 23 (kI 4)), vm 25 24, vg 26 25 true (.fld 4 1), vg 27 25 true (.load 1 false 26), vg 28 25 true (.bin .lss 27 (kI 0)), vg 29 25 true (.mv 28), vg 30 29 false (.fld 4 1), vg 31 29 false (.load 1 false 30), vg 32 29 false (.bin .geq 31 (kI 64)), vg 33 25 true (.pick 29 (kB true) 32), vo 34 (.pick 25 33 (kB false)), vm 21 34]) (.cond 21 .skip (rg [vo 35 (.fld 1 1), vo 36 (.load 1 false 35), vo 37 (.bin .neq 36 (kI 4)), vm 38 37, vg 39 38 true (.fld 4 1), vg 40 38 true (.load 1 false 39), vg 41 38 true (.bin .neq 40 (kI (-1))), vo 42 (.pick 38 41 (kB false)), vm 21 42]))) (.cond 21 (.seq (rg [vo 2 (.mv (kB false))]) .ret) (.seq (.seq (rg [vo 44 (.fld 1 1), vo 45 (.load 1 false 44), vo 46 (.bin .eql 45 (kI 2)), vm 47 46, vg 48 47 true (.fld 5 1), vg 49 47 true (.load 1 false 48), vg 50 47 true (.bin .lss 49 (kI 0)), vg 51 47 true (.mv 50), vg 52 51 false (.fld 5 1), vg 53 51 false (.load 1 false 52), vg 54 51 false (.bin .gtr 53 (kI 1000000000000000)), vg 55 47 true (.pick 51 (kB true) 54), vo 56 (.pick 47 55 (kB false)), vm 43 56]) (.cond 43 .skip (rg [vo 57 (.fld 1 1), vo 58 (.load 1 false 57), vo 59 (.bin .neq 58 (kI 2)), vm 60 59, vg 61 60 true (.fld 5 1), vg 62 60 true (.load 1 false 61), vg 63 60 true (.bin .neq 62 (kI (-1))), vo 64 (.pick 60 63 (kB false)), vm 43 64]))) (.cond 43 (.seq (rg [vo 2 (.mv (kB false))]) .ret) .skip))))))) (.seq (rg [vo 65 (.fld 6 1), vo 66 (.load 1 false 65), vo 67 (.bin .eql 66 (kI (-1))), vm 68 67, vg 69 68 false (.mv 3), vg 70 68 false (.mv 69), vg 71 70 true (.fld 6 1), vg 72 70 true (.load 1 false 71), vg 73 70 true (.bin .geq 72 (kI 0)), vg 74 68 false (.pick 70 73 (kB false)), vg 75 68 false (.mv 74), vg 76 75 true (.fld 6 1), vg 77 75 true (.load 1 false 76), vg 78 75 true (.bin .leq 77 (kI 1000000000000000)), vg 79 68 false (.pick 75 78 (kB false)), vo 80 (.pick 68 (kB true) 79), vm 2 80]) .ret))))
theorem c31 : (Try.f31.body.bind fun c => cCode Try.prog 81 c) = some v31 := by kernel_rfl
def v13 : VC := (.seq (rg [vo 4 (.mv (kI 0))]) (.seq (rg [vm 14 0, vo 15 (.call 23 [14]), vm 5 15]) (.seq (rg [vo 6 (.mv (kI (-1)))]) (.seq (.seq (rg [vm 16 1, vo 17 (.lenS 16), vo 18 (.mv (kI 0))]) (.block 0 (.loop (.seq (rg [vo 19 (.bin .lss 18 17)]) (.seq (.cond 19 .skip (.exit 0)) (.seq (.block 1 (.seq (rg [vm 20 18, vo 21 (.ixA 7 16 18), vo 22 (.load 7 true 21), vo 8 (.alloc 42 [(iI 0),(iI 0),(iI 0),(iI 0),(iI 0),(iI 0),(iI 0)]), vm 7 20, vp (.store 7 8 22)]) (.seq (rg [vm 23 5, vo 24 (.fld 0 8), vo 25 (.load 1 false 24), vo 26 (.call 30 [23,25]), vm 9 26]) (.seq (.block 2 (.seq (rg [vm 28 9, vo 29 (.bin .lss 28 (kI 0)), vm 27 29]) (.cond 27 (.seq (rg [vo 4 (.mv (kI 5))]) .ret) (.seq (rg [vo 31 (.fld 2 8), vo 32 (.load 2 true 31), vo 33 (.call 14 [32]), vo 34 (.un .not 33), vm 30 34]) (.cond 30 (.seq (rg [vo 4 (.mv (kI 2))]) .ret) (.seq (rg [vo 36 (.load 7 true 8), vo 37 (.call 31 [36]), vo 38 (.un .not 37), vm 35 38]) (.cond 35 (.seq (rg [vo 4 (.mv (kI 1))]) .ret) (.seq (.region (some [0,0,3,7,15,31,63,15,15,271,911,1935,3983,8079,16383,32767,65535,65535,65535,327679,983039,2031615,4194303,8388607,16777215,33554431,1,1,0,0,0,0,0,0,0,0,0,0,0,0,0,0,0,0,0,0,0,0,0,0,0,0]) [vm 40 9, vm 41 6, vo 42 (.bin .eql 40 41), vm 43 42, vg 44 43 true (.fld 2 8), vg 45 43 true (.fld 0 44), vg 46 43 true (.load 1 false 45), vg 47 43 true (.mv 1), vg 48 43 true (.mv 7), vg 49 43 true (.bin .sub 48 (kI 1)), vg 50 43 true (.ixA 7 47 49), vg 51 43 true (.fld 2 50), vg 52 43 true (.fld 1 51), vg 53 43 true (.load 1 false 52), vg 54 43 true (.bin .neq 46 53), vg 55 43 true (.mv 54), vg 56 55 false (.load 7 true 8), vg 57 55 false (.mv 1), vg 58 55 false (.mv 7), vg 59 55 false (.bin .sub 58 (kI 1)), vg 60 55 false (.ixA 7 57 59), vg 61 55 false (.load 7 true 60), vg 62 55 false (.call 32 [56,61]), vg 63 43 true (.pick 55 (kB true) 62), vo 64 (.pick 43 63 (kB false)), vm 39 64]) (.cond 39 (.seq (rg [vo 4 (.mv (kI 11))]) .ret) (.seq (rg [vm 66 9, vm 67 6, vo 68 (.bin .neq 66 67), vm 69 68, vg 70 69 true (.mv 9), vg 71 69 true (.mv 6), vg 72 69 true (.bin .add 71 (kI 1)), vg 73 69 true (.bin .neq 70 72), vg 74 69 true (.mv 73), vg 75 74 false (.fld 2 8), vg 76 74 false (.fld 0 75), vg 77 74 false (.load 1 false 76), vg 78 74 false (.bin .neq 77 (kI 0)), vg 79 69 true (.pick 74 (kB true) 78), vo 80 (.pick 69 79 (kB false)), vm 65 80]) (.cond 65 (.seq (rg [vo 4 (.mv (kI 11))]) .ret) .skip))))))))))) (rg [vm 81 9, vm 6 81]))))) (rg [vo 82 (.bin .add 18 (kI 1)), vm 18 82]))))))) (.seq (.seq (rg [vm 83 1, vo 84 (.lenS 83), vo 85 (.bin .eql 84 (kI 0))]) (.cond 85 (.seq (rg [vo 4 (.mv (kI 0))]) .ret) .skip)) (.seq (rg [vm 86 1, vm 87 1, vo 88 (.lenS 87), vo 89 (.bin .sub 88 (kI 1)), vo 90 (.ixA 7 86 89), vo 91 (.fld 2 90), vo 92 (.fld 1 91), vo 93 (.load 1 false 92), vm 10 93]) (.seq (.seq (rg [vm 94 1, vo 95 (.lenS 94), vo 96 (.mv (kI 0))]) (.block 3 (.loop (.seq (rg [vo 97 (.bin .lss 96 95)]) (.seq (.cond 97 .skip (.exit 3)) (.seq (.block 4 (.seq (rg [vm 98 96, vo 99 (.ixA 7 94 96), vo 100 (.load 7 true 99), vo 12 (.alloc 42 [(iI 0),(iI 0),(iI 0),(iI 0),(iI 0),(iI 0),(iI 0)]), vm 11 98, vp (.store 7 12 100)]) (.seq (.region (some [0,1,0,4,15,31,63,63,191,511,1023,2047,63,4159,16383,32767,65535,1,0,1,0,0,0,0,0,0,0,0,0,0,0,0,0,0]) [vm 101 11, vo 102 (.bin .add 101 (kI 1)), vm 103 1, vo 104 (.lenS 103), vo 105 (.bin .eql 102 104), vm 106 105, vg 107 106 false (.mv 1), vg 108 106 false (.mv 11), vg 109 106 false (.bin .add 108 (kI 1)), vg 110 106 false (.ixA 7 107 109), vg 111 106 false (.fld 0 110), vg 112 106 false (.load 1 false 111), vg 113 106 false (.fld 0 12), vg 114 106 false (.load 1 false 113), vg 115 106 false (.bin .neq 112 114), vo 116 (.pick 106 (kB true) 115), vm 13 116]) (.seq (rg [vm 117 13, vm 118 117, vg 119 118 true (.fld 2 12), vg 120 118 true (.fld 1 119), vg 121 118 true (.load 1 false 120), vg 122 118 true (.mv 10), vg 123 118 true (.bin .neq 121 122), vo 124 (.pick 118 123 (kB false))]) (.cond 124 (.seq (rg [vo 4 (.mv (kI 11))]) .ret) .skip))))) (rg [vo 125 (.bin .add 96 (kI 1)), vm 96 125]))))))) (.seq (.seq (rg [vm 126 6, vo 127 (.bin .add 126 (kI 1)), vm 128 5, vo 129 (.lenS 128), vo 130 (.bin .neq 127 129)]) (.cond 130 (.seq (rg [vo 4 (.mv (kI 11))]) .ret) .skip)) (.seq (rg [vo 4 (.mv (kI 0))]) .ret)))))))))
theorem c13 : (Try.f13.body.bind fun c => cCode Try.prog 131 c) = some v13 := by kernel_rfl
def v16 : VC := (.seq (rg [vo 7 (.box 31 3), vo 8 (.mv (kI 0))]) (.seq (.seq (rg [vo 12 (.load 2 true 7), vo 13 (.call 14 [12]), vo 14 (.un .not 13)]) (.cond 14 (.seq (rg [vo 8 (.mv (kI 0))]) .ret) .skip)) (.seq (rg [vo 9 (.mv (kI 0))]) (.seq (.seq (rg [vm 15 0, vo 16 (.lenS 15), vo 17 (.mv (kI 0))]) (.block 0 (.loop (.seq (rg [vo 18 (.bin .lss 17 16)]) (.seq (.cond 18 .skip (.exit 0)) (.seq (.block 1 (.seq (rg [vo 19 (.ixA 7 15 17), vo 20 (.load 7 true 19), vo 11 (.alloc 42 [(iI 0),(iI 0),(iI 0),(iI 0),(iI 0),(iI 0),(iI 0)]), vp (.store 7 11 20)]) (.seq (rg [vo 21 (.fld 0 11), vo 22 (.load 1 false 21), vm 23 1, vo 24 (.bin .eql 22 23), vm 25 24, vg 26 25 true (.fld 1 11), vg 27 25 true (.load 1 false 26), vg 28 25 true (.mv 2), vg 29 25 true (.bin .eql 27 28), vo 30 (.pick 25 29 (kB false))]) (.cond 30 (rg [vm 31 9, vo 32 (.fld 2 11), vo 33 (.fld 1 32), vo 34 (.load 1 false 33), vo 35 (.fld 1 7), vo 36 (.load 1 false 35), vo 37 (.mm false [34,36]), vo 38 (.fld 2 11), vo 39 (.fld 0 38), vo 40 (.load 1 false 39), vo 41 (.fld 0 7), vo 42 (.load 1 false 41), vo 43 (.mm true [40,42]), vo 44 (.bin .sub 37 43), vo 45 (.mm true [(kI 0),44]), vo 46 (.bin .add 31 45), vm 9 46]) .skip)))) (rg [vo 47 (.bin .add 17 (kI 1)), vm 17 47]))))))) (.seq (rg [vm 48 9, vm 8 48]) .ret)))))
theorem c16 : (Try.f16.body.bind fun c => cCode Try.prog 49 c) = some v16 := by kernel_rfl
def v8 : VC := (.seq (rg [vo 0 (.mv (kB false))]) (.seq (rg [vo 6 (.build [(iI 0),iS,(iI 0)] [(0,1,(kI 1)),(1,1,(.con (.c (.imm (.sc (.string ⟨#[97]⟩))))))]), vo 7 (.bsl 38 3 1 [(iI 0),iS,(iI 0)] [(0,3,6)]), vm 1 7]) (.seq (rg [vm 8 1, vo 9 (.call 21 [(kI 1),(kI 0),(kI 2),(kI 8),(kI 0)]), vo 10 (.call 21 [(kI 1),(kI 1),(kI 5),(kI 9),(kI 1)]), vo 11 (.call 21 [(kI 7),(kI 0),(kI 9),(kI 10),(kI 1)]), vo 12 (.bsl 58 10 3 [(iI 0),(iI 0),(iI 0),(iI 0),iS,(iI 0),(iI 0),.nilS,(iI 0),(iI 0)] [(0,10,9),(10,10,10),(20,10,11)]), vo 13 (.call 10 [8,12,(kI 10)]), vm 2 13]) (.seq (rg [vm 14 1, vo 15 (.call 21 [(kI 1),(kI 0),(kI 2),(kI 8),(kI 0)]), vo 16 (.call 21 [(kI 1),(kI 2),(kI 8),(kI 9),(kI 1)]), vo 17 (.bsl 58 10 2 [(iI 0),(iI 0),(iI 0),(iI 0),iS,(iI 0),(iI 0),.nilS,(iI 0),(iI 0)] [(0,10,15),(10,10,16)]), vo 18 (.call 10 [14,17,(kI 9)]), vm 3 18]) (.seq (rg [vm 19 1, vo 20 (.call 10 [19,(.con (.c .nilS)),(kI 4)]), vm 4 20]) (.seq (rg [vo 21 (.call 22 [(kI 5),(kI 0),(kI 2),(kI (-1)),(kI (-1))]), vo 22 (.call 22 [(kI 4),(kI 2),(kI 5),(kI 0),(kI (-1))]), vo 23 (.call 22 [(kI 1),(kI 5),(kI 9),(kI (-1)),(kI 7)]), vo 24 (.call 22 [(kI 0),(kI 9),(kI 10),(kI (-1)),(kI (-1))]), vo 25 (.bsl 42 7 4 [(iI 0),(iI 0),(iI 0),(iI 0),(iI 0),(iI 0),(iI 0)] [(0,7,21),(7,7,22),(14,7,23),(21,7,24)]), vm 5 25]) (.seq (rg [vm 26 2, vm 27 5, vo 28 (.call 9 [26,27]), vm 29 28, vg 30 29 true (.mv 3), vg 31 29 true (.call 22 [(kI 5),(kI 0),(kI 8),(kI (-1)),(kI (-1))]), vg 32 29 true (.call 22 [(kI 1),(kI 8),(kI 9),(kI (-1)),(kI (-1))]), vg 33 29 true (.bsl 42 7 2 [(iI 0),(iI 0),(iI 0),(iI 0),(iI 0),(iI 0),(iI 0)] [(0,7,31),(7,7,32)]), vg 34 29 true (.call 9 [30,33]), vo 35 (.pick 29 34 (kB false)), vm 36 35, vg 37 36 true (.mv 4), vg 38 36 true (.call 22 [(kI 5),(kI 0),(kI 4),(kI (-1)),(kI (-1))]), vg 39 36 true (.bsl 42 7 1 [(iI 0),(iI 0),(iI 0),(iI 0),(iI 0),(iI 0),(iI 0)] [(0,7,38)]), vg 40 36 true (.call 9 [37,39]), vo 41 (.pick 36 40 (kB false)), vm 42 41, vg 43 42 true (.mv 1), vg 44 42 true (.call 10 [43,(.con (.c .nilS)),(kI 0)]), vg 45 42 true (.lenS 44), vg 46 42 true (.bin .eql 45 (kI 0)), vo 47 (.pick 42 46 (kB false)), vm 48 47, vg 49 48 true (.mv 1), vg 50 48 true (.mv 2), vg 51 48 true (.call 13 [49,50]), vg 52 48 true (.bin .eql 51 (kI 0)), vo 53 (.pick 48 52 (kB false)), vm 54 53, vg 55 54 true (.mv 2), vg 56 54 true (.build [(iI 0),(iI 0)] [(0,1,(kI 3)),(1,1,(kI 9))]), vg 57 54 true (.call 16 [55,(kI 1),(kI 4),56]), vg 58 54 true (.bin .eql 57 (kI 2)), vo 59 (.pick 54 58 (kB false)), vm 0 59]) .ret)))))))
theorem c8 : (Try.f8.body.bind fun c => cCode Try.prog 60 c) = some v8 := by kernel_rfl
def v17 : VC := (.seq (rg [vo 6 (.alloc 42 [(iI 0),(iI 0),(iI 0),(iI 0),(iI 0),(iI 0),(iI 0)]), vo 7 (.mv (kB false))]) (.seq (.seq (rg [vm 10 0, vo 11 (.lenS 10), vo 12 (.mv (kI 0))]) (.block 0 (.loop (.seq (rg [vo 13 (.bin .lss 12 11)]) (.seq (.cond 13 .skip (.exit 0)) (.seq (.block 1 (.seq (rg [vo 14 (.ixA 7 10 12), vo 15 (.load 7 true 14), vo 9 (.alloc 42 [(iI 0),(iI 0),(iI 0),(iI 0),(iI 0),(iI 0),(iI 0)]), vp (.store 7 9 15)]) (.seq (rg [vo 16 (.fld 0 9), vo 17 (.load 1 false 16), vm 18 1, vo 19 (.bin .eql 17 18), vm 20 19, vg 21 20 true (.fld 2 9), vg 22 20 true (.fld 0 21), vg 23 20 true (.load 1 false 22), vg 24 20 true (.mv 2), vg 25 20 true (.bin .leq 23 24), vo 26 (.pick 20 25 (kB false)), vm 27 26, vg 28 27 true (.mv 2), vg 29 27 true (.fld 2 9), vg 30 27 true (.fld 1 29), vg 31 27 true (.load 1 false 30), vg 32 27 true (.bin .lss 28 31), vo 33 (.pick 27 32 (kB false))]) (.cond 33 (.seq (rg [vo 34 (.load 7 true 9), vp (.store 7 6 34), vo 7 (.mv (kB true))]) .ret) .skip)))) (rg [vo 35 (.bin .add 12 (kI 1)), vm 12 35]))))))) (.seq (rg [vo 36 (.build [(iI 0),(iI 0),(iI 0),(iI 0),(iI 0),(iI 0),(iI 0)] []), vp (.store 7 6 36), vo 7 (.mv (kB false))]) .ret)))
theorem c17 : (Try.f17.body.bind fun c => cCode Try.prog 37 c) = some v17 := by kernel_rfl
def v36 : VC := (.seq (rg [vo 2 (.mv (.con (.c .nilS)))]) (.seq (rg [vo 3 (.mv (.con (.c .nilS))), vo 4 (.mv (.con (.c .nilS)))]) (.seq (.seq (rg [vm 10 0, vo 11 (.lenS 10), vo 12 (.mv (kI 0))]) (.block 0 (.loop (.seq (rg [vo 13 (.bin .lss 12 11)]) (.seq (.cond 13 .skip (.exit 0)) (.seq (.block 1 (.seq (rg [vo 14 (.ixA 2 10 12), vo 15 (.load 2 true 14), vo 6 (.alloc 31 [(iI 0),(iI 0)]), vp (.store 2 6 15)]) (.seq (rg [vo 16 (.load 2 true 6), vo 17 (.call 14 [16])]) (.cond 17 (rg [vm 18 3, vo 19 (.load 2 true 6), vo 20 (.bsl 31 2 1 [(iI 0),(iI 0)] [(0,2,19)]), vo 21 (.app 31 2 16 18 20), vm 3 21]) .skip)))) (rg [vo 22 (.bin .add 12 (kI 1)), vm 12 22]))))))) (.seq (rg [vm 23 3, vo 24 (.call 43 [23,(.fn 44)])]) (.seq (.seq (rg [vm 25 3, vo 26 (.lenS 25), vo 27 (.mv (kI 0))]) (.block 2 (.loop (.seq (rg [vo 28 (.bin .lss 27 26)]) (.seq (.cond 28 .skip (.exit 2)) (.seq (.block 3 (.seq (rg [vo 29 (.ixA 2 25 27), vo 30 (.load 2 true 29), vo 8 (.alloc 31 [(iI 0),(iI 0)]), vp (.store 2 8 30)]) (.seq (rg [vm 31 4, vo 32 (.lenS 31), vm 9 32]) (.seq (.region (some [0,1,3,7,15,7,7,71,231,487,999,2047,4095,1,0,0,0,0,0,0,0,0,0,0,0,0]) [vm 33 9, vo 34 (.bin .gtr 33 (kI 0)), vm 35 34, vg 36 35 true (.fld 0 8), vg 37 35 true (.load 1 false 36), vg 38 35 true (.mv 4), vg 39 35 true (.mv 9), vg 40 35 true (.bin .sub 39 (kI 1)), vg 41 35 true (.ixA 2 38 40), vg 42 35 true (.fld 1 41), vg 43 35 true (.load 1 false 42), vg 44 35 true (.bin .leq 37 43), vo 45 (.pick 35 44 (kB false))]) (.cond 45 (.region (some [0,0,2,0,0,16,56,120,248,0,512,2040,4095,8191,16383,1,1,0,1,1,0,0,0,0,0,0,0,0,0,0]) [vm 46 4, vm 47 9, vo 48 (.bin .sub 47 (kI 1)), vm 49 4, vm 50 9, vo 51 (.bin .sub 50 (kI 1)), vo 52 (.ixA 2 49 51), vo 53 (.fld 1 52), vo 54 (.load 1 false 53), vo 55 (.fld 1 8), vo 56 (.load 1 false 55), vo 57 (.mm true [54,56]), vo 58 (.ixA 2 46 48), vo 59 (.fld 1 58), vp (.store 1 59 57)]) (rg [vm 60 4, vo 61 (.load 2 true 8), vo 62 (.bsl 31 2 1 [(iI 0),(iI 0)] [(0,2,61)]), vo 63 (.app 31 2 16 60 62), vm 4 63])))))) (rg [vo 64 (.bin .add 27 (kI 1)), vm 27 64]))))))) (.seq (rg [vm 65 4, vm 2 65]) .ret))))))
theorem c36 : (Try.f36.body.bind fun c => cCode Try.prog 66 c) = some v36 := by kernel_rfl
def v19 : VC := (.seq (rg [vo 4 (.mv (.con (.c .nilS)))]) (.seq (rg [vo 5 (.mv (.con (.c .nilS)))]) (.seq (.seq (rg [vm 8 0, vo 9 (.lenS 8), vo 10 (.mv (kI 0))]) (.block 0 (.loop (.seq (rg [vo 11 (.bin .lss 10 9)]) (.seq (.cond 11 .skip (.exit 0)) (.seq (.block 1 (.seq (rg [vo 12 (.ixA 7 8 10), vo 13 (.load 7 true 12), vo 7 (.alloc 42 [(iI 0),(iI 0),(iI 0),(iI 0),(iI 0),(iI 0),(iI 0)]), vp (.store 7 7 13)]) (.seq (rg [vo 14 (.fld 1 7), vo 15 (.load 1 false 14), vo 16 (.bin .eql 15 (kI 4)), vm 17 16, vg 18 17 true (.fld 4 7), vg 19 17 true (.load 1 false 18), vg 20 17 true (.mv 1), vg 21 17 true (.bin .eql 19 20), vo 22 (.pick 17 21 (kB false))]) (.cond 22 (rg [vm 23 5, vo 24 (.fld 2 7), vo 25 (.load 2 true 24), vo 26 (.bsl 31 2 1 [(iI 0),(iI 0)] [(0,2,25)]), vo 27 (.app 31 2 16 23 26), vm 5 27]) .skip)))) (rg [vo 28 (.bin .add 10 (kI 1)), vm 10 28]))))))) (.seq (rg [vm 29 5, vo 30 (.call 36 [29]), vm 4 30]) .ret))))
theorem c19 : (Try.f19.body.bind fun c => cCode Try.prog 31 c) = some v19 := by kernel_rfl
def v35 : VC := (.seq (rg [vo 2 (.box 31 0), vo 3 (.mv (kB false))]) (.seq (rg [vo 4 (.load 2 true 2), vo 5 (.call 14 [4]), vm 6 5, vg 7 6 true (.fld 0 2), vg 8 6 true (.load 1 false 7), vg 9 6 true (.load 1 false 1), vg 10 6 true (.bin .leq 8 9), vo 11 (.pick 6 10 (kB false)), vm 12 11, vg 13 12 true (.load 1 false 1), vg 14 12 true (.fld 1 2), vg 15 12 true (.load 1 false 14), vg 16 12 true (.bin .lss 13 15), vo 17 (.pick 12 16 (kB false)), vm 3 17]) .ret))
theorem c35 : (Try.f35.body.bind fun c => cCode Try.prog 18 c) = some v35 := by kernel_rfl
def v42 : VC := (.seq (rg [vo 4 (.mv (kI 0))]) (.seq (.seq (rg [vm 6 0, vo 7 (.lenS 6), vo 8 (.mv (kI 0))]) (.block 0 (.loop (.seq (rg [vo 9 (.bin .lss 8 7)]) (.seq (.cond 9 .skip (.exit 0)) (.seq (.block 1 (.seq (rg [vm 10 8, vm 5 10]) (.seq (rg [vm 11 1, vm 12 0, vm 13 5, vo 14 (.ixA 2 12 13), vo 15 (.load 2 true 14), vo 16 (.callv 11 [15])]) (.cond 16 (.seq (rg [vm 17 5, vm 4 17]) .ret) .skip)))) (rg [vo 18 (.bin .add 8 (kI 1)), vm 8 18]))))))) (.seq (rg [vo 4 (.mv (kI (-1)))]) .ret)))
theorem c42 : (Try.f42.body.bind fun c => cCode Try.prog 19 c) = some v42 := by kernel_rfl
def v34 : VC := (.seq (rg [vo 4 (.mv (kB false))]) (.seq (rg [vm 5 0, vm 6 1, vo 7 (.call 42 [5,6]), vo 8 (.bin .geq 7 (kI 0)), vm 4 8]) .ret))
theorem c34 : (Try.f34.body.bind fun c => cCode Try.prog 9 c) = some v34 := by kernel_rfl
def v18 : VC := (.seq (rg [vo 3 (.box 3 1), vo 4 (.mv (kB false))]) (.seq (rg [vm 5 0, vo 6 (.mkfn 35 [3]), vo 7 (.call 34 [5,6]), vm 4 7]) .ret))
theorem c18 : (Try.f18.body.bind fun c => cCode Try.prog 8 c) = some v18 := by kernel_rfl
def v6 : VC := (.seq (rg [vo 10 (.mv (kB false))]) (.seq (.seq (rg [vm 17 0, vm 18 1, vo 19 (.call 7 [17,18]), vo 20 (.un .not 19)]) (.cond 20 (.seq (rg [vo 21 (.call 8 []), vm 10 21]) .ret) .skip)) (.seq (rg [vm 22 0, vm 23 1, vm 24 2, vo 25 (.call 10 [22,23,24]), vm 11 25]) (.seq (rg [vo 12 (.mv (kB false))]) (.seq (.seq (rg [vm 26 0, vo 27 (.lenS 26), vo 28 (.mv (kI 0))]) (.block 0 (.loop (.seq (rg [vo 29 (.bin .lss 28 27)]) (.seq (.cond 29 .skip (.exit 0)) (.seq (.block 1 (.seq (rg [vo 30 (.ixA 3 26 28), vo 31 (.load 3 true 30), vo 14 (.alloc 38 [(iI 0),iS,(iI 0)]), vp (.store 3 14 31)]) (.seq (rg [vm 33 11, vo 34 (.fld 0 14), vo 35 (.load 1 false 34), vm 36 4, vo 37 (.call 17 [33,35,36]), vm 32 37, vo 38 (.ext 32 0), vo 39 (.ext 32 1), vo 15 (.alloc 42 [(iI 0),(iI 0),(iI 0),(iI 0),(iI 0),(iI 0),(iI 0)]), vp (.store 7 15 38), vm 16 39]) (rg [vm 40 12, vm 41 40, vg 42 41 false (.mv 16), vg 43 41 false (.mv 42), vg 44 43 true (.fld 1 15), vg 45 43 true (.load 1 false 44), vg 46 43 true (.bin .eql 45 (kI 4)), vg 47 41 false (.pick 43 46 (kB false)), vg 48 41 false (.mv 47), vg 49 48 true (.fld 4 15), vg 50 48 true (.load 1 false 49), vg 51 48 true (.mv 3), vg 52 48 true (.bin .eql 50 51), vg 53 41 false (.pick 48 52 (kB false)), vo 54 (.pick 41 (kB true) 53), vm 12 54])))) (rg [vo 55 (.bin .add 28 (kI 1)), vm 28 55]))))))) (.seq (rg [vm 56 11, vm 57 3, vo 58 (.call 19 [56,57]), vm 59 4, vo 60 (.call 18 [58,59]), vm 61 12, vo 62 (.beq false 60 61), vm 63 62, vg 64 63 true (.call 8 []), vo 65 (.pick 63 64 (kB false)), vm 10 65]) .ret))))))
theorem c6 : (Try.f6.body.bind fun c => cCode Try.prog 66 c) = some v6 := by kernel_rfl
theorem fnOk35 : fnOk Try.prog 35 = true := by kernel_rfl
def tracebookref27_Time (p0 : api_Timed) : Option Int :=
  (bif (decide (p0.fWhen.fLo < 0)) then some 0 else (bif (decide (1000000000000 < p0.fWhen.fLo)) then some 1000000000000 else some p0.fWhen.fLo))
theorem tracebookref27_Time_fun (p0 : api_Timed) (r : Int) (hF : tracebookref27_Time p0 = some r) : Fun Try.prog 33 true [] [.agg (m_api_Timed p0)] noHeap (cI r) noHeap := by
 refine Fun.of_walk0 Try.func33 c33 (by kernel_rfl) (rs := [.tmp 2]) (by kernel_rfl) ?_; unfold v33
 unfold tracebookref27_Time at hF
 refine wA rfl ?_; refine W_seq ?_; refine wA rfl ?_; refine wIf hF rfl (fun _ hF => ?_) fun _ hF => ?_
 · refine wA rfl ?_; cases hF
   exact W_ret wR
 refine W_skip ?_; refine W_seq ?_; refine wA rfl ?_; refine wIf hF rfl (fun _ hF => ?_) fun _ hF => ?_
 · refine wA rfl ?_; cases hF
   exact W_ret wR
 refine W_skip ?_; refine wA rfl ?_; cases hF
 exact W_ret wR
def tracebookref27_Ordered_L1 (p0 : (List api_Timed)) : Int → Option (Int ⊕ (Unit ⊕ Bool)) := fun a28 =>
  (bif (decide (a28 < (List.length p0 : Int))) then ((((idx p0 a28).bind fun y43 => (bif (decide (y43.fId.fSerial < 0)) then some true else ((idx p0 a28).bind fun y45 => (bif (decide (1000000000000000 < y45.fId.fSerial)) then some true else (bif (decide (0 < a28)) then ((idx p0 a28).bind fun y48 => ((tracebookref27_Time y48).bind fun r49 => ((idx p0 (w64 (a28 - 1))).bind fun y50 => ((tracebookref27_Time y50).bind fun r51 => some (decide (r49 < r51)))))) else some false))))) : Option Bool).bind fun v41 => (bif v41 then some (.inr (.inr false)) else some (.inl (w64 (a28 + 1))))) else some (.inr (.inl ())))
def tracebookref27_Ordered (p0 : (List api_Timed)) : Option Bool :=
  ((loop (tracebookref27_Ordered_L1 p0) 0).bind fun | .inl _ => some true | .inr rv => some rv)
theorem tracebookref27_Ordered_fun (p0 : (List api_Timed)) (r : Bool) (hF : tracebookref27_Ordered p0 = some r) : Fun Try.prog 20 true [] [cL 10 t_api_Timed p0] noHeap (cB r) noHeap := by
 refine Fun.of_walk0 Try.func20 c20 (by kernel_rfl) (rs := [.tmp 2]) (by kernel_rfl) ?_; unfold v20
 unfold tracebookref27_Ordered at hF
 refine wA rfl ?_; refine W_seq ?_; refine wA rfl ?_; refine W_for (fun _ _ h => h) hF (.inl) (fun a28 => [(0, cL 10 t_api_Timed p0), (3, cI a28)]) (fun a28 => []) (fun _ => []) (fun _ => []) sw ?_ ?_
 · rintro ⟨⟩ hF
   refine wA rfl ?_; cases hF
   exact W_ret wR
 rintro a28 x_0 hF cont_0 brk_0 fin_0
 unfold tracebookref27_Ordered_L1 at hF
 refine W_seq ?_; refine wC 2 rfl ?_; refine rS (T_len (tc := t_api_Timed) p0 .tree ?_); refine QV rfl ?_; refine wIf hF rfl (fun _ hF => ?_) fun _ hF => ?_
 · refine W_skip ?_; refine W_seq ?_; refine W_block ?_; refine W_seq ?_; refine W_join (fun _ _ h => h) hF (fun v41 => [(0, cL 10 t_api_Timed p0), (3, cI a28), (43, cB v41)]) (fun v41 => []) ?_ ?_
   · rintro v41 hF
     refine wIf hF rfl (fun _ hF => ?_) fun _ hF => ?_
     · refine wA rfl ?_; have hF := fin_0 _ (oi hF); cases hF
       exact W_ret wR
     refine W_skip ?_; refine wB rfl ?_; exact cont_0 _ _ _ (oi hF) sw
   intro join hF
   refine W_regD (by decide) (by kernel_rfl) rfl ?_; refine Q_run SP 2 rfl ?_; obtain ⟨y43, hy43, hF⟩ := bB' hF
   refine R_step SP trivial (T_ixT (tc := t_api_Timed) p0 rfl rfl hy43 ?_); refine Q_run SP 5 rfl ?_; cases h44 : (decide (y43.fId.fSerial < 0))
   · have hF := bF' h44 hF; refine Q_run SP 2 rfl ?_; obtain ⟨y45, hy45, hF⟩ := bB' hF
     refine R_step SP rfl (T_ixT (tc := t_api_Timed) p0 rfl rfl hy45 ?_); refine Q_run SP 6 rfl ?_; cases h46 : (decide (1000000000000000 < y45.fId.fSerial))
     · have hF := bF' h46 hF; refine Q_run SP 3 rfl ?_; cases h47 : (decide (0 < a28))
       · have hF := bF' h47 hF; refine QP rfl ?_; exact join false _ _ hF sw
       have hF := bT' h47 hF; refine Q_run SP 2 rfl ?_; obtain ⟨y48, hy48, hF⟩ := bB' hF
       refine R_step SP rfl (T_ixT (tc := t_api_Timed) p0 rfl rfl hy48 ?_); refine Q_run SP 1 rfl ?_; obtain ⟨r49, hr49, hF⟩ := bB' hF
       refine R_step SP rfl (T_call (tracebookref27_Time_fun _ _ hr49) ⟨⟨rfl, rfl, rfl, rfl, rfl, rfl, rfl, rfl, rfl, rfl, trivial⟩, trivial⟩ rfl (.inl rfl) ?_); refine Q_run SP 3 rfl ?_; obtain ⟨y50, hy50, hF⟩ := bB' hF
       refine R_step SP rfl (T_ixT (tc := t_api_Timed) p0 rfl rfl hy50 ?_); refine Q_run SP 1 rfl ?_; obtain ⟨r51, hr51, hF⟩ := bB' hF
       refine R_step SP rfl (T_call (tracebookref27_Time_fun _ _ hr51) ⟨⟨rfl, rfl, rfl, rfl, rfl, rfl, rfl, rfl, rfl, rfl, trivial⟩, trivial⟩ rfl (.inl rfl) ?_); refine QP rfl ?_; exact join (decide (r49 < r51)) _ _ hF sw
     have hF := bT' h46 hF; refine QP rfl ?_; exact join true _ _ hF sw
   have hF := bT' h44 hF; refine QP rfl ?_; exact join true _ _ hF sw
 refine W_exit ?_; refine thenQ_exit ?_; refine thenQ_exit ?_; refine blockQ_hit ?_; exact brk_0 _ _ _ (oi hF) sw
def tracebooklaw27_light (p0 : (List api_Thread)) (p1 : (List api_Timed)) : Option Bool :=
  (((bif (decide ((List.length p0 : Int) ≤ 20)) then (bif (decide ((List.length p1 : Int) ≤ 200)) then ((tracebookref27_Ordered p1).bind fun r4 => some r4) else some false) else some false) : Option Bool).bind fun v1 => some v1)
theorem tracebooklaw27_light_fun (p0 : (List api_Thread)) (p1 : (List api_Timed)) (r : Bool) (hF : tracebooklaw27_light p0 p1 = some r) : Fun Try.prog 7 true [] [cL 3 t_api_Thread p0, cL 10 t_api_Timed p1] noHeap (cB r) noHeap := by
 refine Fun.of_walk0 Try.func7 c7 (by kernel_rfl) (rs := [.tmp 4]) (by kernel_rfl) ?_; unfold v7
 unfold tracebooklaw27_light at hF
 refine wA rfl ?_; refine W_seq ?_; refine W_join (fun _ _ h => h) hF (fun v1 => [(4, cB v1)]) (fun v1 => []) ?_ ?_
 · rintro v1 hF
   cases hF
   exact W_ret wR
 intro join hF
 refine wD 1 rfl ?_; refine rS (T_len (tc := t_api_Thread) p0 .tree ?_); refine Q_run SV 2 rfl ?_; cases h2 : (decide ((List.length p0 : Int) ≤ 20))
 · have hF := bF' h2 hF; refine QV rfl ?_; exact join false _ _ hF sw
 have hF := bT' h2 hF; refine Q_run SV 1 rfl ?_; refine R_step SV rfl (T_len (tc := t_api_Timed) p1 .tree ?_); refine Q_run SV 3 rfl ?_; cases h3 : (decide ((List.length p1 : Int) ≤ 200))
 · have hF := bF' h3 hF; refine QV rfl ?_; exact join false _ _ hF sw
 have hF := bT' h3 hF; refine Q_run SV 1 rfl ?_; obtain ⟨r4, hr4, hF⟩ := bB' hF
 refine R_step SV rfl (T_call (tracebookref27_Ordered_fun _ _ hr4) ⟨rfl, trivial⟩ rfl (.inl rfl) ?_); refine QV rfl ?_; exact join r4 _ _ hF sw
def tracebooklaw27_timed (p0 : Int) (p1 : Int) (p2 : Int) (p3 : Int) (p4 : Int) : Option api_Timed :=
  some ({ fId := ({ fThread := p0, fSerial := p1 } : api_Id), fEvent := ({ fAt := p2, fKind := p3, fName := ⟨#[]⟩, fN := p4, fM := 0, fStack := [] } : api_Event), fWhen := ({ fLo := p2, fHi := p2 } : api_Interval) } : api_Timed)
theorem tracebooklaw27_timed_fun (p0 : Int) (p1 : Int) (p2 : Int) (p3 : Int) (p4 : Int) (r : api_Timed) (hF : tracebooklaw27_timed p0 p1 p2 p3 p4 = some r) : Fun Try.prog 21 true [] [cI p0, cI p1, cI p2, cI p3, cI p4] noHeap (.agg (m_api_Timed r)) noHeap := by
 refine Fun.of_walk0 Try.func21 c21 (by kernel_rfl) (rs := [.cell 10 10 true]) (by kernel_rfl) ?_; unfold v21
 unfold tracebooklaw27_timed at hF
 refine wA rfl ?_; refine wA rfl ?_; cases hF
 exact W_ret ⟨_, rfl, rfl, ⟨⟨rfl, fun _ => rfl⟩, ⟨rfl, fun _ => rfl⟩, ⟨rfl, fun _ => rfl⟩, ⟨rfl, fun _ => rfl⟩, ⟨rfl, fun _ => rfl⟩, ⟨rfl, fun _ => rfl⟩, ⟨rfl, fun _ => rfl⟩, rfl, ⟨rfl, fun _ => rfl⟩, ⟨rfl, fun _ => rfl⟩, trivial⟩, noOut _⟩
def slices_Index_int_int_L1 (p0 : (List Int)) (p1 : Int) : Int → Option (Int ⊕ (Unit ⊕ Int)) := fun a10 =>
  (bif (decide (a10 < (List.length p0 : Int))) then ((idx p0 a10).bind fun y14 => (bif (decide (p1 = y14)) then some (.inr (.inr a10)) else some (.inl (w64 (a10 + 1))))) else some (.inr (.inl ())))
def slices_Index_int_int (p0 : (List Int)) (p1 : Int) : Option Int :=
  ((loop (slices_Index_int_int_L1 p0 p1) 0).bind fun | .inl _ => some (-1) | .inr rv => some rv)
theorem slices_Index_int_int_fun (p0 : (List Int)) (p1 : Int) (r : Int) (hF : slices_Index_int_int p0 p1 = some r) : Fun Try.prog 30 true [] [cL 1 t_i64 p0, cI p1] noHeap (cI r) noHeap := by
 refine Fun.of_walk0 Try.func30 c30 (by kernel_rfl) (rs := [.tmp 4]) (by kernel_rfl) ?_; unfold v30
 unfold slices_Index_int_int at hF
 refine wA rfl ?_; refine W_seq ?_; refine wC 1 rfl ?_; refine rS (T_len (tc := t_i64) p0 .tree ?_); refine QV rfl ?_; refine W_for (fun _ _ h => h) hF (.inl) (fun a10 => [(0, cL 1 t_i64 p0), (1, cI p1), (7, cI (List.length p0 : Int)), (8, cI a10)]) (fun a10 => []) (fun _ => []) (fun _ => []) sw ?_ ?_
 · rintro ⟨⟩ hF
   refine wA rfl ?_; cases hF
   exact W_ret wR
 rintro a10 x_0 hF cont_0 brk_0 fin_0
 unfold slices_Index_int_int_L1 at hF
 refine wA rfl ?_; refine W_seq ?_; refine wIf hF rfl (fun _ hF => ?_) fun _ hF => ?_
 · refine W_skip ?_; refine W_seq ?_; refine W_block ?_; refine wA rfl ?_; refine wC 3 rfl ?_; obtain ⟨y14, hy14, hF⟩ := bB hF
   refine rS (T_ixT (tc := t_i64) p0 rfl rfl hy14 ?_); refine QV rfl ?_; refine wIf hF rfl (fun _ hF => ?_) fun _ hF => ?_
   · refine wA rfl ?_; have hF := fin_0 _ (oi hF); cases hF
     exact W_ret wR
   refine W_skip ?_; refine wB rfl ?_; exact cont_0 _ _ _ (oi hF) sw
 refine W_exit ?_; refine thenQ_exit ?_; refine thenQ_exit ?_; refine blockQ_hit ?_; exact brk_0 _ _ _ (oi hF) sw
def slices_Contains_int_int (p0 : (List Int)) (p1 : Int) : Option Bool :=
  ((slices_Index_int_int p0 p1).bind fun r1 => some (decide (0 ≤ r1)))
theorem slices_Contains_int_int_fun (p0 : (List Int)) (p1 : Int) (r : Bool) (hF : slices_Contains_int_int p0 p1 = some r) : Fun Try.prog 37 true [] [cL 1 t_i64 p0, cI p1] noHeap (cB r) noHeap := by
 refine Fun.of_walk0 Try.func37 c37 (by kernel_rfl) (rs := [.tmp 4]) (by kernel_rfl) ?_; unfold v37
 unfold slices_Contains_int_int at hF
 refine wA rfl ?_; refine wC 2 rfl ?_; obtain ⟨r1, hr1, hF⟩ := bB hF
 refine rS (T_call (slices_Index_int_int_fun _ _ _ hr1) ⟨rfl, rfl, trivial⟩ rfl (.inl rfl) ?_); refine QV rfl ?_; cases hF
 exact W_ret wR
def state_distinct_L1 (p0 : (List api_Thread)) : ((List Int) × Int) → Option (((List Int) × Int) ⊕ (List Int)) := fun (a19, a20) =>
  (bif (decide (a20 < (List.length p0 : Int))) then ((((idx p0 a20).bind fun y29 => ((slices_Contains_int_int a19 y29.fId).bind fun r30 => (bif (!r30) then (bif room 8 (List.length a19 + List.length [y29.fId]) then some (a19 ++ [y29.fId]) else none) else some a19))) : Option (List Int)).bind fun v28 => some (.inl (v28, (w64 (a20 + 1))))) else some (.inr a19))
def state_distinct (p0 : (List api_Thread)) : Option (List Int) :=
  ((loop (state_distinct_L1 p0) ([], 0)).bind fun e27 => some e27)
theorem state_distinct_fun (p0 : (List api_Thread)) (r : (List Int)) (hF : state_distinct p0 = some r) : Fun Try.prog 23 false [] [cL 3 t_api_Thread p0] (heapOf []) (cO (902,920)) (heapOf [((902,920), .arr 3 1 (List.map t_i64 r))]) := by
 refine Fun.of_walkM [] (some []) Try.func23 c23 (by kernel_rfl) (rs := [.tmp 2]) (by kernel_rfl) rfl rfl rfl ?_; unfold v23
 unfold state_distinct at hF
 refine wA rfl ?_; refine wA rfl ?_; refine W_seq ?_; refine wC 1 rfl ?_; refine rS (T_len (tc := t_api_Thread) p0 .tree ?_); refine QV rfl ?_; refine W_for (fun _ _ h => h) hF (id) (fun (a19, a20) => [(3, cO (21,1)), (6, cL 3 t_api_Thread p0), (7, cI (List.length p0 : Int)), (8, cI a20)]) (fun (a19, a20) => [((21,1), .arr 3 1 (List.map t_i64 a19))]) (fun e27 => [(3, cO (21,1))]) (fun e27 => [((21,1), .arr 3 1 (List.map t_i64 e27))]) (S_own 3 (21,1) 3 1 rfl rfl rfl rfl sw) ?_ ?_
 · rintro e27 hF
   refine wA rfl ?_; cases hF
   exact W_ret ⟨_, _, (S_ren (21,1) (902,920) rfl rfl S_refl), _, rfl, rfl, rfl, (AgM.weak ⟨rfl, trivial⟩)⟩
 rintro ⟨a19, a20⟩ x_0 hF cont_0 brk_0 fin_0
 unfold state_distinct_L1 at hF
 refine wA rfl ?_; refine W_seq ?_; refine wIf hF rfl (fun _ hF => ?_) fun _ hF => ?_
 · refine W_skip ?_; refine W_seq ?_; refine W_join (fun _ _ h => h) hF (fun v28 => [(3, cO (21,1)), (6, cL 3 t_api_Thread p0), (7, cI (List.length p0 : Int)), (8, cI a20)]) (fun v28 => [((21,1), .arr 3 1 (List.map t_i64 v28))]) ?_ ?_
   · rintro v28 hF
     refine wB rfl ?_; exact cont_0 _ _ _ (oi hF) sw
   intro join hF
   refine W_block ?_; refine wE ?_; obtain ⟨y29, hy29, hF⟩ := bB' hF
   refine rS (T_ixT (tc := t_api_Thread) p0 rfl rfl hy29 ?_); refine QV rfl ?_; refine wC 3 rfl ?_; obtain ⟨r30, hr30, hF⟩ := bB' hF
   refine rS (T_call (slices_Contains_int_int_fun _ _ _ hr30) ⟨⟨_, rfl⟩, rfl, trivial⟩ rfl (.inl rfl) ?_); refine QV rfl ?_; refine wIf' hF rfl (fun _ hF => ?_) fun _ hF => ?_
   · refine wD 3 rfl ?_; refine rS (T_bsl (tc := t_i64) [y29.fId] rfl ⟨rfl, trivial⟩ rfl (fun _ => rfl) rfl ?_)
     obtain ⟨h31, hF⟩ := roomT' hF
     refine rS (T_appO (tc := t_i64) a19 [y29.fId] rfl rfl (.own _ _ rfl) h31 rfl ?_); refine QV rfl ?_; exact join (a19 ++ [y29.fId]) _ _ hF (S_ren (21,0) (21,1) rfl rfl sw)
   refine W_skip ?_; exact join a19 _ _ hF sw
 refine W_exit ?_; refine thenQ_exit ?_; refine thenQ_exit ?_; refine blockQ_hit ?_; exact brk_0 _ _ _ (oi hF) sw
def state_track_becomes_k1 (p0 : state_track) (p1 : Int) (p2 : Int) (p3 : Int) (p4 : Int) (p5 : Int) : Option state_track :=
  (bif room 40 (List.length p0.fchanges + List.length [({ fat := p1, fstate := p2, fcpu := p3, fon := p4, fby := p5 } : state_change)]) then some ({ fchanges := (p0.fchanges ++ [({ fat := p1, fstate := p2, fcpu := p3, fon := p4, fby := p5 } : state_change)]), fnext := p0.fnext, flast := p0.flast } : state_track) else none)
theorem state_track_becomes_k1_fun (p0 : state_track) (p1 : Int) (p2 : Int) (p3 : Int) (p4 : Int) (p5 : Int) (r : state_track) (hF : state_track_becomes_k1 p0 p1 p2 p3 p4 p5 = some r) : Fun Try.prog 24 false [(1960,0)] [cP (1960,0) 0, cI p1, cI p2, cI p3, cI p4, cI p5] (heapOf [((1960,0), .box [.slO (901,961), jI p0.fnext, jI p0.flast]), ((901,961), .arr 81 5 (List.map t_state_change p0.fchanges))]) (.tup []) (heapOf [((1960,0), .box [.slO (901,961), jI r.fnext, jI r.flast]), ((901,961), .arr 81 5 (List.map t_state_change r.fchanges))]) := by
 refine Fun.of_walkM [(1960,0)] none Try.func24 c24 (by kernel_rfl) (rs := []) (by kernel_rfl) rfl rfl rfl ?_; unfold v24
 unfold state_track_becomes_k1 at hF
 refine wD 11 rfl ?_; refine rS (T_bsl (tc := t_state_change) [({ fat := p1, fstate := p2, fcpu := p3, fon := p4, fby := p5 } : state_change)] rfl ⟨rfl, rfl, rfl, rfl, rfl, trivial⟩ rfl (fun _ => rfl) rfl ?_)
 obtain ⟨h1, hF⟩ := roomT hF
 refine rS (T_appO (tc := t_state_change) p0.fchanges [({ fat := p1, fstate := p2, fcpu := p3, fon := p4, fby := p5 } : state_change)] rfl rfl (.own _ _ rfl) h1 rfl ?_); refine QV rfl ?_; cases hF
 exact ⟨_, _, (S_ren (24,0) (901,961) rfl rfl S_refl), _, rfl, rfl, trivial, (AgM.weak ⟨rfl, rfl, trivial⟩)⟩
def state_time (p0 : api_Timed) : Option Int :=
  some (max 0 (min p0.fWhen.fLo 1000000000000))
theorem state_time_fun (p0 : api_Timed) (r : Int) (hF : state_time p0 = some r) : Fun Try.prog 25 true [] [.agg (m_api_Timed p0)] noHeap (cI r) noHeap := by
 refine Fun.of_walk0 Try.func25 c25 (by kernel_rfl) (rs := [.tmp 2]) (by kernel_rfl) ?_; unfold v25
 unfold state_time at hF
 refine wA rfl ?_; refine wA rfl ?_; cases hF
 exact W_ret wR
def state_track_now_k1 (p0 : state_track) : Option state_change :=
  ((idx p0.fchanges (w64 ((List.length p0.fchanges : Int) - 1))).bind fun y1 => some y1)
theorem state_track_now_k1_fun (p0 : state_track) (r : state_change) (hF : state_track_now_k1 p0 = some r) : Fun Try.prog 39 true [] [.c (.ptrI [.sl 5 (List.map t_state_change p0.fchanges), tI p0.fnext, tI p0.flast])] noHeap (.agg (m_state_change r)) noHeap := by
 refine Fun.of_walk0 Try.func39 c39 (by kernel_rfl) (rs := [.cell 2 5 true]) (by kernel_rfl) ?_; unfold v39
 unfold state_track_now_k1 at hF
 refine wA rfl ?_; refine W_seq ?_; refine W_regD (by decide) (by kernel_rfl) rfl ?_; refine Q_run SP 8 rfl ?_; refine R_step SP trivial (T_len (tc := t_state_change) p0.fchanges .tree ?_); refine Q_run SP 1 rfl ?_
 obtain ⟨y1, hy1, hF⟩ := bB hF
 refine R_step SP trivial (T_ixT (tc := t_state_change) p0.fchanges rfl rfl hy1 ?_); refine QP rfl ?_; cases hF
 exact W_ret ⟨_, rfl, rfl, ⟨⟨rfl, fun _ => rfl⟩, ⟨rfl, fun _ => rfl⟩, ⟨rfl, fun _ => rfl⟩, ⟨rfl, fun _ => rfl⟩, ⟨rfl, fun _ => rfl⟩, trivial⟩, noOut _⟩
def state_track_wake_k1 (p0 : state_track) (p1 : Int) (p2 : Int) : Option state_track :=
  ((state_track_now_k1 p0).bind fun r1 => (((bif (decide (r1.fstate = 1)) then some true else some (decide (r1.fstate = 2))) : Option Bool).bind fun v2 => (bif v2 then ((state_track_becomes_k1 p0 p1 0 (-1) (-1) p2).bind fun r3 => some r3) else some p0)))
theorem state_track_wake_k1_fun (p0 : state_track) (p1 : Int) (p2 : Int) (r : state_track) (hF : state_track_wake_k1 p0 p1 p2 = some r) : Fun Try.prog 27 false [(2080,0)] [cP (2080,0) 0, cI p1, cI p2] (heapOf [((2080,0), .box [.slO (901,1081), jI p0.fnext, jI p0.flast]), ((901,1081), .arr 81 5 (List.map t_state_change p0.fchanges))]) (.tup []) (heapOf [((2080,0), .box [.slO (901,1081), jI r.fnext, jI r.flast]), ((901,1081), .arr 81 5 (List.map t_state_change r.fchanges))]) := by
 refine Fun.of_walkM [(2080,0)] none Try.func27 c27 (by kernel_rfl) (rs := []) (by kernel_rfl) rfl rfl rfl ?_; unfold v27
 unfold state_track_wake_k1 at hF
 refine wC 1 rfl ?_; obtain ⟨r1, hr1, hF⟩ := bB hF
 refine rS (T_call (state_track_now_k1_fun _ _ hr1) ⟨⟨_, rfl, ⟨⟨_, rfl⟩, rfl, rfl, trivial⟩⟩, trivial⟩ rfl (.inl rfl) ?_); refine QV rfl ?_; refine W_seq ?_; refine W_join (fun _ _ h => h) hF (fun v2 => [(0, cP (2080,0) 0), (1, cI p1), (2, cI p2), (15, cB v2)]) (fun v2 => [((2080,0), .box [.slO (901,1081), jI p0.fnext, jI p0.flast]), ((901,1081), .arr 81 5 (List.map t_state_change p0.fchanges))]) ?_ ?_
 · rintro v2 hF
   refine wIf hF rfl (fun _ hF => ?_) fun _ hF => ?_
   · refine wD 3 rfl ?_; obtain ⟨r3, hr3, hF⟩ := bB hF
     refine R_stepX trivial (X_callG [((1960,0),(2080,0)), ((901,961),(901,1081))] rfl (callN _) (state_track_becomes_k1_fun _ _ _ _ _ _ _ hr3) ⟨rfl, rfl, trivial⟩ ⟨.inl rfl, .inl rfl, .inl rfl, .inl rfl, .inl rfl, .inl rfl, trivial⟩ rfl rfl rfl ?_)
     refine QV rfl ?_; cases hF
     exact ⟨_, _, S_refl, _, rfl, rfl, trivial, (AgM.weak ⟨rfl, rfl, trivial⟩)⟩
   refine W_skip ?_; cases hF
   exact ⟨_, _, S_refl, _, rfl, rfl, trivial, (AgM.weak ⟨rfl, rfl, trivial⟩)⟩
 intro join hF
 refine wD 3 rfl ?_; cases h5 : (decide (r1.fstate = 1))
 · have hF := bF' h5 hF; refine QV rfl ?_; exact join (decide (r1.fstate = 2)) _ _ hF sw
 have hF := bT' h5 hF; refine QV rfl ?_; exact join true _ _ hF sw
def state_track_gap_k1_L1 (p0 : state_track) : (List state_change) → Option ((List state_change) ⊕ (List state_change)) := fun a14 =>
  (((bif (decide (1 < (List.length a14 : Int))) then ((state_track_now_k1 ({ fchanges := a14, fnext := p0.fnext, flast := p0.flast } : state_track)).bind fun r26 => some (decide (p0.flast < r26.fat))) else some false) : Option Bool).bind fun v22 => (bif v22 then ((slcPart a14 0 (w64 ((List.length a14 : Int) - 1))).bind fun y23 => some (.inl y23)) else some (.inr a14)))
def state_track_gap_k1 (p0 : state_track) : Option state_track :=
  ((loop (state_track_gap_k1_L1 p0) p0.fchanges).bind fun e20 => ((state_track_becomes_k1 ({ fchanges := e20, fnext := p0.fnext, flast := p0.flast } : state_track) p0.flast 5 (-1) (-1) (-1)).bind fun r21 => some r21))
theorem state_track_gap_k1_fun (p0 : state_track) (r : state_track) (hF : state_track_gap_k1 p0 = some r) : Fun Try.prog 38 false [(2520,0)] [cP (2520,0) 0] (heapOf [((2520,0), .box [.slO (901,1521), jI p0.fnext, jI p0.flast]), ((901,1521), .arr 81 5 (List.map t_state_change p0.fchanges))]) (.tup []) (heapOf [((2520,0), .box [.slO (901,1521), jI r.fnext, jI r.flast]), ((901,1521), .arr 81 5 (List.map t_state_change r.fchanges))]) := by
 refine Fun.of_walkM [(2520,0)] none Try.func38 c38 (by kernel_rfl) (rs := []) (by kernel_rfl) rfl rfl rfl ?_; unfold v38
 unfold state_track_gap_k1 at hF
 refine W_seq ?_; refine W_for (fun _ _ h => h) hF (id) (fun a14 => [(0, cP (2520,0) 0)]) (fun a14 => [((2520,0), .box [.slO (901,1), jI p0.fnext, jI p0.flast]), ((901,1), .arr 81 5 (List.map t_state_change a14))]) (fun e20 => [(0, cP (2520,0) 0)]) (fun e20 => [((2520,0), .box [.slO (901,1), jI p0.fnext, jI p0.flast]), ((901,1), .arr 81 5 (List.map t_state_change e20))]) (S_ren (901,1521) (901,1) rfl rfl sw) ?_ ?_
 · rintro e20 hF
   refine wD 5 rfl ?_; obtain ⟨r21, hr21, hF⟩ := bB hF
   refine R_stepX trivial (X_callG [((1960,0),(2520,0)), ((901,961),(901,1))] rfl (callN _) (state_track_becomes_k1_fun _ _ _ _ _ _ _ hr21) ⟨rfl, rfl, trivial⟩ ⟨.inl rfl, .inl rfl, .inl rfl, .inl rfl, .inl rfl, .inl rfl, trivial⟩ rfl rfl rfl ?_)
   refine QV rfl ?_; cases hF
   exact ⟨_, _, (S_ren (901,1) (901,1521) rfl rfl S_refl), _, rfl, rfl, trivial, (AgM.weak ⟨rfl, rfl, trivial⟩)⟩
 rintro a14 x_0 hF cont_0 brk_0 fin_0
 unfold state_track_gap_k1_L1 at hF
 refine W_seq ?_; refine W_seq ?_; refine W_join (fun _ _ h => h) hF (fun v22 => [(0, cP (2520,0) 0), (17, cB v22)]) (fun v22 => [((2520,0), .box [.slO (901,1), jI p0.fnext, jI p0.flast]), ((901,1), .arr 81 5 (List.map t_state_change a14))]) ?_ ?_
 · rintro v22 hF
   refine wIf hF rfl (fun _ hF => ?_) fun _ hF => ?_
   · refine W_skip ?_; refine W_block ?_; refine W_regDL 11 [0, 1, 5] (by decide) (by kernel_rfl) (by kernel_rfl) rfl ?_; refine Q_run SP 9 rfl ?_; refine R_step SP trivial (T_len (tc := t_state_change) a14 (.own _ _ rfl) ?_)
     refine QP rfl ?_; obtain ⟨y23, hy23, hF⟩ := bB hF
     refine R_stepX trivial (X_subO (tc := t_state_change) a14 rfl rfl rfl hy23 rfl ?_); refine QV rfl ?_; exact cont_0 _ _ _ (oi hF) (S_ren (29,0) (901,1) rfl rfl sw)
   refine W_exit ?_; refine thenQ_exit ?_; refine thenQ_exit ?_; refine blockQ_hit ?_; exact brk_0 _ _ _ (oi hF) sw
 intro join hF
 refine W_regD (by decide) (by kernel_rfl) rfl ?_; refine Q_run SP 4 rfl ?_; refine R_step SP trivial (T_len (tc := t_state_change) a14 (.own _ _ rfl) ?_); refine Q_run SP 2 rfl ?_; cases h25 : (decide (1 < (List.length a14 : Int)))
 · have hF := bF' h25 hF; refine QP rfl ?_; exact join false _ _ hF sw
 have hF := bT' h25 hF; refine Q_run SP 1 rfl ?_; obtain ⟨r26, hr26, hF⟩ := bB' hF
 refine R_step SP rfl (T_call (state_track_now_k1_fun _ _ hr26) ⟨⟨_, rfl, ⟨⟨_, rfl⟩, rfl, rfl, trivial⟩⟩, trivial⟩ rfl (.inl rfl) ?_); refine QP rfl ?_; exact join (decide (p0.flast < r26.fat)) _ _ hF sw
def state_track_event_k1 (p0 : state_track) (p1 : api_Timed) : Option state_track :=
  ((state_time p1).bind fun r1 => (((bif (!decide (p1.fId.fSerial = p0.fnext)) then ((state_track_gap_k1 p0).bind fun r11 => some (r11.fchanges, r11.fnext, r11.flast)) else some (p0.fchanges, p0.fnext, p0.flast)) : Option ((List state_change) × Int × Int)).bind fun (v2, v3, v4) => (bif (decide (p1.fEvent.fKind = 8)) then ((state_track_becomes_k1 ({ fchanges := v2, fnext := (w64 (p1.fId.fSerial + 1)), flast := r1 } : state_track) r1 4 p1.fEvent.fN (-1) (-1)).bind fun r5 => some r5) else (bif (decide (p1.fEvent.fKind = 9)) then (((bif (decide (p1.fEvent.fN = 2)) then some p1.fEvent.fM else some (-1)) : Option Int).bind fun v6 => ((state_track_becomes_k1 ({ fchanges := v2, fnext := (w64 (p1.fId.fSerial + 1)), flast := r1 } : state_track) r1 p1.fEvent.fN (-1) v6 (-1)).bind fun r7 => some r7)) else some ({ fchanges := v2, fnext := (w64 (p1.fId.fSerial + 1)), flast := r1 } : state_track)))))
theorem state_track_event_k1_fun (p0 : state_track) (p1 : api_Timed) (r : state_track) (hF : state_track_event_k1 p0 p1 = some r) : Fun Try.prog 26 false [(2040,0)] [cP (2040,0) 0, .agg (m_api_Timed p1)] (heapOf [((2040,0), .box [.slO (901,1041), jI p0.fnext, jI p0.flast]), ((901,1041), .arr 81 5 (List.map t_state_change p0.fchanges))]) (.tup []) (heapOf [((2040,0), .box [.slO (901,1041), jI r.fnext, jI r.flast]), ((901,1041), .arr 81 5 (List.map t_state_change r.fchanges))]) := by
 refine Fun.of_walkM [(2040,0)] none Try.func26 c26 (by kernel_rfl) (rs := []) (by kernel_rfl) rfl rfl rfl ?_; unfold v26
 unfold state_track_event_k1 at hF
 refine wA rfl ?_; refine wC 1 rfl ?_; obtain ⟨r1, hr1, hF⟩ := bB hF
 refine rS (T_call (state_time_fun _ _ hr1) ⟨⟨rfl, rfl, rfl, rfl, rfl, rfl, rfl, rfl, rfl, rfl, trivial⟩, trivial⟩ rfl (.inl rfl) ?_); refine QV rfl ?_; refine W_seq ?_; refine W_seq ?_; refine W_regD (by decide) (by kernel_rfl) rfl ?_
 refine QP rfl ?_; refine W_join (fun _ _ h => h) hF (fun (v2, v3, v4) => [(0, cP (2040,0) 0), (3, cP (3,0) 0), (4, cI r1)]) (fun (v2, v3, v4) => [((2040,0), .box [.slO (901,1041), jI v3, jI v4]), ((901,1041), .arr 81 5 (List.map t_state_change v2)), ((3,0), .box (m_api_Timed p1))]) ?_ ?_
 · rintro ⟨v2, v3, v4⟩ hF
   refine wA rfl ?_; refine wA rfl ?_; refine W_block ?_; refine wA rfl ?_; refine wIf hF rfl (fun _ hF => ?_) fun _ hF => ?_
   · refine wD 5 rfl ?_; obtain ⟨r5, hr5, hF⟩ := bB hF
     refine R_stepX trivial (X_callG [((1960,0),(2040,0)), ((901,961),(901,1041))] rfl (callN _) (state_track_becomes_k1_fun _ _ _ _ _ _ _ hr5) ⟨rfl, rfl, trivial⟩ ⟨.inl rfl, .inl rfl, .inl rfl, .inl rfl, .inl rfl, .inl rfl, trivial⟩ rfl rfl rfl ?_)
     refine QV rfl ?_; cases hF
     exact ⟨_, _, S_refl, _, rfl, rfl, trivial, (AgM.weak ⟨rfl, rfl, trivial⟩)⟩
   refine wA rfl ?_; refine wIf hF rfl (fun _ hF => ?_) fun _ hF => ?_
   · refine wA rfl ?_; refine W_seq ?_; refine wA rfl ?_; refine W_join (fun _ _ h => h) hF (fun v6 => [(0, cP (2040,0) 0), (3, cP (3,0) 0), (4, cI r1), (5, cI v6)]) (fun v6 => [((2040,0), .box [.slO (901,1041), jI (w64 (p1.fId.fSerial + 1)), jI r1]), ((901,1041), .arr 81 5 (List.map t_state_change v2)), ((3,0), .box (m_api_Timed p1))]) ?_ ?_
     · rintro v6 hF
       refine wD 6 rfl ?_; obtain ⟨r7, hr7, hF⟩ := bB hF
       refine R_stepX trivial (X_callG [((1960,0),(2040,0)), ((901,961),(901,1041))] rfl (callN _) (state_track_becomes_k1_fun _ _ _ _ _ _ _ hr7) ⟨rfl, rfl, trivial⟩ ⟨.inl rfl, .inl rfl, .inl rfl, .inl rfl, .inl rfl, .inl rfl, trivial⟩ rfl rfl rfl ?_)
       refine QV rfl ?_; cases hF
       exact ⟨_, _, S_refl, _, rfl, rfl, trivial, (AgM.weak ⟨rfl, rfl, trivial⟩)⟩
     intro join hF
     refine wIf' hF rfl (fun _ hF => ?_) fun _ hF => ?_
     · refine wB rfl ?_; exact join p1.fEvent.fM _ _ hF sw
     refine W_skip ?_; exact join (-1) _ _ hF sw
   refine W_skip ?_; cases hF
   exact ⟨_, _, S_refl, _, rfl, rfl, trivial, (AgM.weak ⟨rfl, rfl, trivial⟩)⟩
 intro join hF
 refine wIf' hF rfl (fun _ hF => ?_) fun _ hF => ?_
 · refine wD 1 rfl ?_; obtain ⟨r11, hr11, hF⟩ := bB' hF
   refine R_stepX trivial (X_callG [((2520,0),(2040,0)), ((901,1521),(901,1041))] rfl (callN _) (state_track_gap_k1_fun _ _ hr11) ⟨rfl, rfl, trivial⟩ ⟨.inl rfl, trivial⟩ rfl rfl rfl ?_); refine QV rfl ?_
   exact join (r11.fchanges, r11.fnext, r11.flast) _ _ hF sw
 refine W_skip ?_; exact join (p0.fchanges, p0.fnext, p0.flast) _ _ hF sw
def state_same (p0 : api_State) (p1 : api_State) : Option Bool :=
  (((bif (decide (p0.fState = p1.fState)) then (bif (decide (p0.fCpu = p1.fCpu)) then some (decide (p0.fOn = p1.fOn)) else some false) else some false) : Option Bool).bind fun v1 => some v1)
theorem state_same_fun (p0 : api_State) (p1 : api_State) (r : Bool) (hF : state_same p0 p1 = some r) : Fun Try.prog 32 true [] [.agg (m_api_State p0), .agg (m_api_State p1)] noHeap (cB r) noHeap := by
 refine Fun.of_walk0 Try.func32 c32 (by kernel_rfl) (rs := [.tmp 4]) (by kernel_rfl) ?_; unfold v32
 unfold state_same at hF
 refine wA rfl ?_; refine W_seq ?_; refine W_join (fun _ _ h => h) hF (fun v1 => [(4, cB v1)]) (fun v1 => []) ?_ ?_
 · rintro v1 hF
   cases hF
   exact W_ret wR
 intro join hF
 refine wD 6 rfl ?_; cases h2 : (decide (p0.fState = p1.fState))
 · have hF := bF' h2 hF; refine QV rfl ?_; exact join false _ _ hF sw
 have hF := bT' h2 hF; refine Q_run SV 7 rfl ?_; cases h3 : (decide (p0.fCpu = p1.fCpu))
 · have hF := bF' h3 hF; refine QV rfl ?_; exact join false _ _ hF sw
 have hF := bT' h3 hF; refine QV rfl ?_; exact join (decide (p0.fOn = p1.fOn)) _ _ hF sw
def state_track_states_k1_L1 (p0 : state_track) (p1 : Int) (p2 : Int) : ((List api_State) × Int) → Option (((List api_State) × Int) ⊕ (List api_State)) := fun (a35, a36) =>
  (bif (decide (a36 < (List.length p0.fchanges : Int))) then ((((idx p0.fchanges a36).bind fun y56 => (((bif (decide ((w64 (a36 + 1)) < (List.length p0.fchanges : Int))) then ((idx p0.fchanges (w64 (a36 + 1))).bind fun y68 => ((idx p0.fchanges (w64 (a36 + 1))).bind fun y69 => some (y68.fat, y69.fby))) else some (p2, (-1))) : Option (Int × Int)).bind fun (v57, v58) => (bif (decide (v57 ≤ y56.fat)) then some a35 else (((bif (decide (0 ≤ (w64 ((List.length a35 : Int) - 1)))) then ((idx a35 (w64 ((List.length a35 : Int) - 1))).bind fun y65 => ((state_same y65 ({ fThread := p1, fState := y56.fstate, fSpan := ({ fFrom := y56.fat, fTo := v57 } : api_Span), fCpu := y56.fcpu, fOn := y56.fon, fBy := v58 } : api_State)).bind fun r66 => some r66)) else some false) : Option Bool).bind fun v59 => (bif v59 then ((idx a35 (w64 ((List.length a35 : Int) - 1))).bind fun y60 => ((idx (List.set a35 (Int.toNat (w64 ((List.length a35 : Int) - 1))) ({ fThread := y60.fThread, fState := y60.fState, fSpan := ({ fFrom := y60.fSpan.fFrom, fTo := v57 } : api_Span), fCpu := y60.fCpu, fOn := y60.fOn, fBy := y60.fBy } : api_State)) (w64 ((List.length a35 : Int) - 1))).bind fun y61 => some (List.set (List.set a35 (Int.toNat (w64 ((List.length a35 : Int) - 1))) ({ fThread := y60.fThread, fState := y60.fState, fSpan := ({ fFrom := y60.fSpan.fFrom, fTo := v57 } : api_Span), fCpu := y60.fCpu, fOn := y60.fOn, fBy := y60.fBy } : api_State)) (Int.toNat (w64 ((List.length a35 : Int) - 1))) ({ fThread := y61.fThread, fState := y61.fState, fSpan := y61.fSpan, fCpu := y61.fCpu, fOn := y61.fOn, fBy := v58 } : api_State)))) else (bif room 56 (List.length a35 + List.length [({ fThread := p1, fState := y56.fstate, fSpan := ({ fFrom := y56.fat, fTo := v57 } : api_Span), fCpu := y56.fcpu, fOn := y56.fon, fBy := v58 } : api_State)]) then some (a35 ++ [({ fThread := p1, fState := y56.fstate, fSpan := ({ fFrom := y56.fat, fTo := v57 } : api_Span), fCpu := y56.fcpu, fOn := y56.fon, fBy := v58 } : api_State)]) else none)))))) : Option (List api_State)).bind fun v55 => some (.inl (v55, (w64 (a36 + 1))))) else some (.inr a35))
def state_track_states_k1 (p0 : state_track) (p1 : Int) (p2 : Int) : Option (List api_State) :=
  ((loop (state_track_states_k1_L1 p0 p1 p2) ([], 0)).bind fun e54 => some e54)
theorem state_track_states_k1_fun (p0 : state_track) (p1 : Int) (p2 : Int) (r : (List api_State)) (hF : state_track_states_k1 p0 p1 p2 = some r) : Fun Try.prog 28 false [] [.c (.ptrI [.sl 5 (List.map t_state_change p0.fchanges), tI p0.fnext, tI p0.flast]), cI p1, cI p2] (heapOf []) (cO (902,1120)) (heapOf [((902,1120), .arr 42 7 (List.map t_api_State r))]) := by
 refine Fun.of_walkM [] (some []) Try.func28 c28 (by kernel_rfl) (rs := [.tmp 6]) (by kernel_rfl) rfl rfl rfl ?_; unfold v28
 unfold state_track_states_k1 at hF
 refine wA rfl ?_; refine wA rfl ?_; refine W_seq ?_; refine wC 4 rfl ?_; refine rS (T_len (tc := t_state_change) p0.fchanges .tree ?_); refine QV rfl ?_; refine W_for (fun _ _ h => h) hF (id) (fun (a35, a36) => [(0, .c (.ptrI [.sl 5 (List.map t_state_change p0.fchanges), tI p0.fnext, tI p0.flast])), (1, cI p1), (2, cI p2), (7, cO (101,1)), (17, cL 5 t_state_change p0.fchanges), (18, cI (List.length p0.fchanges : Int)), (19, cI a36)]) (fun (a35, a36) => [((101,1), .arr 42 7 (List.map t_api_State a35))]) (fun e54 => [(7, cO (101,1))]) (fun e54 => [((101,1), .arr 42 7 (List.map t_api_State e54))]) (S_own 7 (101,1) 42 7 rfl rfl rfl rfl sw) ?_ ?_
 · rintro e54 hF
   refine wA rfl ?_; cases hF
   exact W_ret ⟨_, _, (S_ren (101,1) (902,1120) rfl rfl S_refl), _, rfl, rfl, rfl, (AgM.weak ⟨rfl, trivial⟩)⟩
 rintro ⟨a35, a36⟩ x_0 hF cont_0 brk_0 fin_0
 unfold state_track_states_k1_L1 at hF
 refine wA rfl ?_; refine W_seq ?_; refine wIf hF rfl (fun _ hF => ?_) fun _ hF => ?_
 · refine W_skip ?_; refine W_seq ?_; refine W_join (fun _ _ h => h) hF (fun v55 => [(0, .c (.ptrI [.sl 5 (List.map t_state_change p0.fchanges), tI p0.fnext, tI p0.flast])), (1, cI p1), (2, cI p2), (7, cO (101,1)), (17, cL 5 t_state_change p0.fchanges), (18, cI (List.length p0.fchanges : Int)), (19, cI a36)]) (fun v55 => [((101,1), .arr 42 7 (List.map t_api_State v55))]) ?_ ?_
   · rintro v55 hF
     refine wB rfl ?_; exact cont_0 _ _ _ (oi hF) sw
   intro join hF
   refine W_block ?_; refine wC 1 rfl ?_; obtain ⟨y56, hy56, hF⟩ := bB' hF
   refine rS (T_ixT (tc := t_state_change) p0.fchanges rfl rfl hy56 ?_); refine QV rfl ?_; refine wA rfl ?_; refine W_seq ?_; refine wC 6 rfl ?_; refine rS (T_len (tc := t_state_change) p0.fchanges .tree ?_)
   refine QV rfl ?_; have hF := bA hF; refine W_join (fun _ _ h => h) hF (fun (v57, v58) => [(0, .c (.ptrI [.sl 5 (List.map t_state_change p0.fchanges), tI p0.fnext, tI p0.flast])), (1, cI p1), (2, cI p2), (7, cO (101,1)), (9, cP (9,0) 0), (10, cI v57), (11, cI v58), (17, cL 5 t_state_change p0.fchanges), (18, cI (List.length p0.fchanges : Int)), (19, cI a36)]) (fun (v57, v58) => [((101,1), .arr 42 7 (List.map t_api_State a35)), ((9,0), .box (m_state_change y56))]) ?_ ?_
   · rintro ⟨v57, v58⟩ hF
     refine wA rfl ?_; refine W_seq ?_; refine wA rfl ?_; refine wIf' hF rfl (fun _ hF => ?_) fun _ hF => ?_
     · refine W_exit ?_; refine thenQ_exit ?_; refine blockQ_hit ?_; exact join a35 _ _ hF sw
     refine W_skip ?_; refine W_seq ?_; refine wC 1 rfl ?_; refine rS (T_len (tc := t_api_State) a35 (.own _ _ rfl) ?_); refine QV rfl ?_; refine W_seq ?_; have hF := bA hF; refine W_join (fun _ _ h => h) hF (fun v59 => [(0, .c (.ptrI [.sl 5 (List.map t_state_change p0.fchanges), tI p0.fnext, tI p0.flast])), (1, cI p1), (2, cI p2), (7, cO (101,1)), (12, cP (12,0) 0), (13, cI (w64 ((List.length a35 : Int) - 1))), (17, cL 5 t_state_change p0.fchanges), (18, cI (List.length p0.fchanges : Int)), (19, cI a36), (83, cB v59)]) (fun v59 => [((101,1), .arr 42 7 (List.map t_api_State a35)), ((12,0), .box [jI p1, jI y56.fstate, jI y56.fat, jI v57, jI y56.fcpu, jI y56.fon, jI v58])]) ?_ ?_
     · rintro v59 hF
       refine wIf' hF rfl (fun _ hF => ?_) fun _ hF => ?_
       · refine W_seq ?_; refine W_regZ [none, none, none, none, none, none, none, none, (some ([(12,0)], [])), none, none, none, (some ([], [(101,1)])), none, none, none] (by decide) rfl (by kernel_rfl) rfl ?_
         refine Z_run 8 rfl rfl ?_; refine Z_step trivial rfl (opF_sound rfl ?_); obtain ⟨y60, hy60, hF⟩ := bB' hF
         refine Z_step trivial rfl (T_ixO (tc := t_api_State) a35 rfl rfl rfl hy60 ?_); refine Z_run 2 rfl rfl ?_; refine Z_step trivial rfl (T_stE (tc := t_api_State) a35 ({ fThread := y60.fThread, fState := y60.fState, fSpan := ({ fFrom := y60.fSpan.fFrom, fTo := v57 } : api_Span), fCpu := y60.fCpu, fOn := y60.fOn, fBy := y60.fBy } : api_State) rfl rfl (idx_get hy60).2.1 rfl rfl rfl rfl rfl ?_)
         obtain ⟨y61, hy61, hF⟩ := bB' hF
         refine Z_step trivial rfl (T_ixO (tc := t_api_State) (List.set a35 (Int.toNat (w64 ((List.length a35 : Int) - 1))) ({ fThread := y60.fThread, fState := y60.fState, fSpan := ({ fFrom := y60.fSpan.fFrom, fTo := v57 } : api_Span), fCpu := y60.fCpu, fOn := y60.fOn, fBy := y60.fBy } : api_State)) rfl rfl rfl hy61 ?_)
         refine Z_run 1 rfl rfl ?_; refine Z_step trivial rfl (T_stE (tc := t_api_State) (List.set a35 (Int.toNat (w64 ((List.length a35 : Int) - 1))) ({ fThread := y60.fThread, fState := y60.fState, fSpan := ({ fFrom := y60.fSpan.fFrom, fTo := v57 } : api_Span), fCpu := y60.fCpu, fOn := y60.fOn, fBy := y60.fBy } : api_State)) ({ fThread := y61.fThread, fState := y61.fState, fSpan := y61.fSpan, fCpu := y61.fCpu, fOn := y61.fOn, fBy := v58 } : api_State) rfl rfl (idx_get hy61).2.1 rfl rfl rfl rfl rfl ?_)
         refine ZE rfl rfl ?_; refine W_exit ?_; refine thenQ_exit ?_; refine blockQ_hit ?_; exact join (List.set (List.set a35 (Int.toNat (w64 ((List.length a35 : Int) - 1))) ({ fThread := y60.fThread, fState := y60.fState, fSpan := ({ fFrom := y60.fSpan.fFrom, fTo := v57 } : api_Span), fCpu := y60.fCpu, fOn := y60.fOn, fBy := y60.fBy } : api_State)) (Int.toNat (w64 ((List.length a35 : Int) - 1))) ({ fThread := y61.fThread, fState := y61.fState, fSpan := y61.fSpan, fCpu := y61.fCpu, fOn := y61.fOn, fBy := v58 } : api_State)) _ _ hF sw
       refine W_skip ?_; refine wD 2 rfl ?_; refine rS (T_bsl (tc := t_api_State) [({ fThread := p1, fState := y56.fstate, fSpan := ({ fFrom := y56.fat, fTo := v57 } : api_Span), fCpu := y56.fcpu, fOn := y56.fon, fBy := v58 } : api_State)] rfl ⟨rfl, rfl, rfl, rfl, rfl, rfl, rfl, trivial⟩ rfl (fun _ => rfl) rfl ?_)
       obtain ⟨h62, hF⟩ := roomT' hF
       refine rS (T_appO (tc := t_api_State) a35 [({ fThread := p1, fState := y56.fstate, fSpan := ({ fFrom := y56.fat, fTo := v57 } : api_Span), fCpu := y56.fcpu, fOn := y56.fon, fBy := v58 } : api_State)] rfl rfl (.own _ _ rfl) h62 rfl ?_)
       refine QV rfl ?_; exact join (a35 ++ [({ fThread := p1, fState := y56.fstate, fSpan := ({ fFrom := y56.fat, fTo := v57 } : api_Span), fCpu := y56.fcpu, fOn := y56.fon, fBy := v58 } : api_State)]) _ _ hF (S_ren (101,0) (101,1) rfl rfl sw)
     intro join hF
     refine W_regD (by decide) (by kernel_rfl) rfl ?_; refine Q_run SP 3 rfl ?_; cases h64 : (decide (0 ≤ (w64 ((List.length a35 : Int) - 1))))
     · have hF := bF' h64 hF; refine QP rfl ?_; exact join false _ _ hF sw
     have hF := bT' h64 hF; refine Q_run SP 2 rfl ?_; obtain ⟨y65, hy65, hF⟩ := bB' hF
     refine R_step SP rfl (T_ixO (tc := t_api_State) a35 rfl rfl rfl hy65 ?_); refine R_step SP rfl (T_ldE (tc := t_api_State) a35 rfl rfl (idx_get hy65).2.1 rfl ?_); refine Q_run SP 1 rfl ?_; obtain ⟨r66, hr66, hF⟩ := bB' hF
     refine R_step SP rfl (T_call (state_same_fun _ _ _ hr66) ⟨⟨rfl, rfl, rfl, rfl, rfl, rfl, rfl, trivial⟩, ⟨rfl, rfl, rfl, rfl, rfl, rfl, rfl, trivial⟩, trivial⟩ rfl (.inl rfl) ?_); refine QP rfl ?_; exact join r66 _ _ hF sw
   intro join hF
   refine wIf' hF rfl (fun _ hF => ?_) fun _ hF => ?_
   · refine W_regD (by decide) (by kernel_rfl) rfl ?_; refine Q_run SP 6 rfl ?_; obtain ⟨y68, hy68, hF⟩ := bB' hF
     refine R_step SP trivial (T_ixT (tc := t_state_change) p0.fchanges rfl rfl hy68 ?_); refine Q_run SP 8 rfl ?_; obtain ⟨y69, hy69, hF⟩ := bB' hF
     refine R_step SP trivial (T_ixT (tc := t_state_change) p0.fchanges rfl rfl hy69 ?_); refine QP rfl ?_; exact join (y68.fat, y69.fby) _ _ hF sw
   refine W_skip ?_; exact join (p2, (-1)) _ _ hF sw
 refine W_exit ?_; refine thenQ_exit ?_; refine thenQ_exit ?_; refine blockQ_hit ?_; exact brk_0 _ _ _ (oi hF) sw
def state_Of_L1 (r1 : (List Int)) (e86 : Int) (e87 : (List (Int × state_track))) : ((List api_State) × Int) → Option (((List api_State) × Int) ⊕ (List api_State)) := fun (a106, a107) =>
  (bif (decide (a107 < (List.length r1 : Int))) then ((idx r1 a107).bind fun y115 => ((lookS y115 e87).bind fun | .inl _ => none | .inr y116_1 => ((state_track_states_k1 y116_1 y115 (max 0 (min e86 1000000000000))).bind fun r118 => (bif room 56 (List.length a106 + List.length r118) then some (.inl ((a106 ++ r118), (w64 (a107 + 1)))) else none)))) else some (.inr a106))
def state_Of_L2 (p1 : (List api_Timed)) : (Int × (List (Int × state_track)) × Int) → Option ((Int × (List (Int × state_track)) × Int) ⊕ (Int × (List (Int × state_track)))) := fun (a65, a66, a67) =>
  (bif (decide (a67 < (List.length p1 : Int))) then ((((idx p1 a67).bind fun y123 => ((state_time y123).bind fun r124 => ((lookS y123.fId.fThread a66).bind fun | .inl _ => ((lookS y123.fEvent.fN a66).bind fun | .inl _ => some ((max a65 r124), a66) | .inr y127_1 => (bif (decide (y123.fEvent.fKind = 10)) then ((state_time y123).bind fun r129 => ((state_track_wake_k1 y127_1 r129 y123.fId.fThread).bind fun r130 => some ((max a65 r124), (mput y123.fEvent.fN r130 a66)))) else some ((max a65 r124), a66))) | .inr y125_1 => ((state_track_event_k1 y125_1 y123).bind fun r132 => ((lookS y123.fEvent.fN (mput y123.fId.fThread r132 a66)).bind fun | .inl _ => some ((max a65 r124), (mput y123.fId.fThread r132 a66)) | .inr y133_1 => (bif (decide (y123.fEvent.fKind = 10)) then ((state_time y123).bind fun r135 => ((state_track_wake_k1 y133_1 r135 y123.fId.fThread).bind fun r136 => some ((max a65 r124), (mput y123.fEvent.fN r136 (mput y123.fId.fThread r132 a66))))) else some ((max a65 r124), (mput y123.fId.fThread r132 a66)))))))) : Option (Int × (List (Int × state_track)))).bind fun (v121, v122) => some (.inl (v121, v122, (w64 (a67 + 1))))) else some (.inr (a65, a66)))
def state_Of_L3 (r1 : (List Int)) : ((List (Int × state_track)) × Int) → Option (((List (Int × state_track)) × Int) ⊕ (List (Int × state_track))) := fun (a14, a15) =>
  (bif (decide (a15 < (List.length r1 : Int))) then ((idx r1 a15).bind fun y139 => ((state_track_becomes_k1 ({ fchanges := [], fnext := 0, flast := 0 } : state_track) 0 5 (-1) (-1) (-1)).bind fun r140 => some (.inl ((mput y139 r140 a14), (w64 (a15 + 1)))))) else some (.inr a14))
def state_Of (p0 : (List api_Thread)) (p1 : (List api_Timed)) (p2 : Int) : Option (List api_State) :=
  ((state_distinct p0).bind fun r1 => ((loop (state_Of_L3 r1) ([], 0)).bind fun e19 => ((loop (state_Of_L2 p1) (p2, e19, 0)).bind fun (e86, e87) => ((loop (state_Of_L1 r1 e86 e87) ([], 0)).bind fun e114 => some e114))))
theorem state_Of_fun (p0 : (List api_Thread)) (p1 : (List api_Timed)) (p2 : Int) (r : (List api_State)) (hF : state_Of p0 p1 p2 = some r) : Fun Try.prog 10 false [] [cL 3 t_api_Thread p0, cL 10 t_api_Timed p1, cI p2] (heapOf []) (cO (902,400)) (heapOf [((902,400), .arr 42 7 (List.map t_api_State r))]) := by
 refine Fun.of_walkM [] (some []) Try.func10 c10 (by kernel_rfl) (rs := [.tmp 6]) (by kernel_rfl) rfl rfl rfl ?_; unfold v10
 unfold state_Of at hF
 refine wA rfl ?_; refine wE ?_; refine R_after trivial (X_mkB (kv := kvI) (bx := bx_state_track) (ars := ars_state_track) (keyI .i64) famK_state_track rfl rfl rfl rfl ?_)
 refine QV rfl ?_; refine wC 1 rfl ?_; obtain ⟨r1, hr1, hF⟩ := bB hF
 refine R_stepX trivial (X_callG [((902,920),(21,1))] rfl (callN _) (state_distinct_fun _ _ hr1) trivial ⟨.inl rfl, trivial⟩ rfl rfl rfl ?_); refine QV rfl ?_; refine W_seq ?_; refine wC 1 rfl ?_; refine rS (T_len (tc := t_i64) r1 (.own _ _ rfl) ?_)
 refine QV rfl ?_; refine W_for (fun _ _ h => h) hF (id) (fun (a14, a15) => [(1, cL 10 t_api_Timed p1), (2, cI p2), (7, cM (950,0)), (8, cO (21,1)), (22, cO (21,1)), (23, cI (List.length r1 : Int)), (24, cI a15)]) (fun (a14, a15) => [((21,1), .arr 3 1 (List.map t_i64 r1)), ((1000000, 0), .fam (mapG 950 (.int .i64) kvI bx_state_track ars_state_track a14))]) (fun e19 => [(1, cL 10 t_api_Timed p1), (2, cI p2), (7, cM (950,0)), (8, cO (21,1))]) (fun e19 => [((21,1), .arr 3 1 (List.map t_i64 r1)), ((1000000, 0), .fam (mapG 950 (.int .i64) kvI bx_state_track ars_state_track e19))]) sw ?_ ?_
 · rintro e19 hF
   refine W_seq ?_; refine wC 1 rfl ?_; refine rS (T_len (tc := t_api_Timed) p1 .tree ?_); refine QV rfl ?_; refine W_for (fun _ _ h => h) hF (id) (fun (a65, a66, a67) => [(2, cI a65), (7, cM (950,0)), (8, cO (21,1)), (36, cL 10 t_api_Timed p1), (37, cI (List.length p1 : Int)), (38, cI a67)]) (fun (a65, a66, a67) => [((21,1), .arr 3 1 (List.map t_i64 r1)), ((1000000, 0), .fam (mapG 950 (.int .i64) kvI bx_state_track ars_state_track a66))]) (fun (e86, e87) => [(2, cI e86), (7, cM (950,0)), (8, cO (21,1))]) (fun (e86, e87) => [((21,1), .arr 3 1 (List.map t_i64 r1)), ((1000000, 0), .fam (mapG 950 (.int .i64) kvI bx_state_track ars_state_track e87))]) sw ?_ ?_
   · rintro ⟨e86, e87⟩ hF
     refine wA rfl ?_; refine wA rfl ?_; refine W_seq ?_; refine wC 1 rfl ?_; refine rS (T_len (tc := t_i64) r1 (.own _ _ rfl) ?_); refine QV rfl ?_; refine W_for (fun _ _ h => h) hF (id) (fun (a106, a107) => [(2, cI (max 0 (min e86 1000000000000))), (7, cM (950,0)), (16, cO (93,1)), (80, cO (21,1)), (81, cI (List.length r1 : Int)), (82, cI a107)]) (fun (a106, a107) => [((93,1), .arr 42 7 (List.map t_api_State a106)), ((21,1), .arr 3 1 (List.map t_i64 r1)), ((1000000, 0), .fam (mapG 950 (.int .i64) kvI bx_state_track ars_state_track e87))]) (fun e114 => [(16, cO (93,1))]) (fun e114 => [((93,1), .arr 42 7 (List.map t_api_State e114))]) (S_own 16 (93,1) 42 7 rfl rfl rfl rfl sw) ?_ ?_
     · rintro e114 hF
       refine wA rfl ?_; cases hF
       exact W_ret ⟨_, _, (S_ren (93,1) (902,400) rfl rfl S_refl), _, rfl, rfl, rfl, (AgM.weak ⟨rfl, trivial⟩)⟩
     rintro ⟨a106, a107⟩ x_0 hF cont_0 brk_0 fin_0
     unfold state_Of_L1 at hF
     refine wA rfl ?_; refine W_seq ?_; refine wIf hF rfl (fun _ hF => ?_) fun _ hF => ?_
     · refine W_skip ?_; refine W_seq ?_; refine W_block ?_; refine wE ?_; obtain ⟨y115, hy115, hF⟩ := bB hF
       refine rS (T_ixO (tc := t_i64) r1 rfl rfl rfl hy115 ?_); refine rS (T_ldE (tc := t_i64) r1 rfl rfl (idx_get hy115).2.1 rfl ?_); refine QV rfl ?_; refine wD 3 rfl ?_; obtain ⟨y116, hy116, hF⟩ := bB hF
       rcases y116 with y116_0 | y116_1
       · have h117 := lookS_none hy116; refine R_stepX trivial (X_lookB_none (keyI .i64) famK_state_track rfl rfl rfl h117 ?_); refine Q_run SV 2 rfl ?_; simp at hF
       have h117 := lookS_some hy116; refine R_stepX trivial (X_lookB_some (keyI .i64) famK_state_track rfl rfl rfl h117 ?_); refine Q_run SV 2 rfl ?_; obtain ⟨r118, hr118, hF⟩ := bB hF
       refine R_stepX trivial (X_callL [((902,1120),(92,1))] rfl (callN _) (state_track_states_k1_fun _ _ _ _ hr118) trivial ⟨.inr ⟨_, MB_box famK_state_track rfl h117, ⟨⟨_, MB_arr famK_state_track rfl h117 (j := 0) rfl⟩, rfl, rfl, trivial⟩⟩, .inr rfl, .inr rfl, trivial⟩ rfl rfl rfl rfl ⟨(flatArr fun _ => rfl), trivial⟩ ?_)
       obtain ⟨h119, hF⟩ := roomT hF
       refine rS (T_appO (tc := t_api_State) a106 r118 rfl rfl (.own _ _ rfl) h119 rfl ?_); refine QV rfl ?_; refine wB rfl ?_; exact cont_0 _ _ _ (oi hF) (S_ren (93,0) (93,1) rfl rfl sw)
     refine W_exit ?_; refine thenQ_exit ?_; refine thenQ_exit ?_; refine blockQ_hit ?_; exact brk_0 _ _ _ (oi hF) sw
   rintro ⟨a65, a66, a67⟩ x_0 hF cont_0 brk_0 fin_0
   unfold state_Of_L2 at hF
   refine wA rfl ?_; refine W_seq ?_; refine wIf hF rfl (fun _ hF => ?_) fun _ hF => ?_
   · refine W_skip ?_; refine W_seq ?_; refine W_join (fun _ _ h => h) hF (fun (v121, v122) => [(2, cI v121), (7, cM (950,0)), (8, cO (21,1)), (36, cL 10 t_api_Timed p1), (37, cI (List.length p1 : Int)), (38, cI a67)]) (fun (v121, v122) => [((21,1), .arr 3 1 (List.map t_i64 r1)), ((1000000, 0), .fam (mapG 950 (.int .i64) kvI bx_state_track ars_state_track v122))]) ?_ ?_
     · rintro ⟨v121, v122⟩ hF
       refine wB rfl ?_; exact cont_0 _ _ _ (oi hF) sw
     intro join hF
     refine W_block ?_; refine wE ?_; obtain ⟨y123, hy123, hF⟩ := bB' hF
     refine rS (T_ixT (tc := t_api_Timed) p1 rfl rfl hy123 ?_); refine QV rfl ?_; refine wC 2 rfl ?_; obtain ⟨r124, hr124, hF⟩ := bB' hF
     refine rS (T_call (state_time_fun _ _ hr124) ⟨⟨rfl, rfl, rfl, rfl, rfl, rfl, rfl, rfl, rfl, rfl, trivial⟩, trivial⟩ rfl (.inl rfl) ?_); refine QV rfl ?_; refine W_seq ?_; refine wC 4 rfl ?_; obtain ⟨y125, hy125, hF⟩ := bB' hF
     rcases y125 with y125_0 | y125_1
     · have h126 := lookS_none hy125; refine R_stepX trivial (X_lookB_none (keyI .i64) famK_state_track rfl rfl rfl h126 ?_); refine QV rfl ?_; refine wA rfl ?_; refine W_condL (t := false) rfl (fun h => (by cases h)) (fun h => ?_)
       refine W_skip ?_; refine wC 4 rfl ?_; obtain ⟨y127, hy127, hF⟩ := bB' hF
       rcases y127 with y127_0 | y127_1
       · have h128 := lookS_none hy127; refine R_stepX trivial (X_lookB_none (keyI .i64) famK_state_track rfl rfl rfl h128 ?_); refine QV rfl ?_; refine wA rfl ?_; refine W_condL (t := false) rfl (fun h => (by cases h)) (fun h => ?_)
         refine W_skip ?_; exact join ((max a65 r124), a66) _ _ hF sw
       have h128 := lookS_some hy127; refine R_stepX trivial (X_lookB_some (keyI .i64) famK_state_track rfl rfl rfl h128 ?_); refine QV rfl ?_; refine wA rfl ?_; refine wIf' hF rfl (fun _ hF => ?_) fun _ hF => ?_
       · refine W_regDL 6 [0] (by decide) (by kernel_rfl) (by kernel_rfl) rfl ?_; refine Q_run SP 2 rfl ?_; obtain ⟨r129, hr129, hF⟩ := bB' hF
         refine R_step SP trivial (T_call (state_time_fun _ _ hr129) ⟨⟨rfl, rfl, rfl, rfl, rfl, rfl, rfl, rfl, rfl, rfl, trivial⟩, trivial⟩ rfl (.inl rfl) ?_); refine QP rfl ?_; obtain ⟨r130, hr130, hF⟩ := bB' hF
         refine R_after trivial (X_callMB famK_state_track rfl rfl rfl r130 h128 [((2080,0), (951, mix y123.fEvent.fN a66)), ((901,1081), (952, mix y123.fEvent.fN a66))] rfl (callN _) (state_track_wake_k1_fun _ _ _ _ hr130) rfl (obs0 := [.arr 81 5 (List.map t_state_change y127_1.fchanges)]) (obs1 := [.arr 81 5 (List.map t_state_change r130.fchanges)]) rfl rfl ⟨rfl, ars_none_state_track _⟩ ⟨rfl, ars_none_state_track _⟩ rfl ⟨.inl rfl, .inl rfl, .inl rfl, trivial⟩ rfl ?_)
         refine QV rfl ?_; exact join ((max a65 r124), (mput y123.fEvent.fN r130 a66)) _ _ hF sw
       refine W_skip ?_; exact join ((max a65 r124), a66) _ _ hF sw
     have h126 := lookS_some hy125; refine R_stepX trivial (X_lookB_some (keyI .i64) famK_state_track rfl rfl rfl h126 ?_); refine QV rfl ?_; refine wA rfl ?_; refine W_condL (t := true) rfl (fun h => ?_) (fun h => (by cases h))
     refine wD 2 rfl ?_; obtain ⟨r132, hr132, hF⟩ := bB' hF
     refine R_after trivial (X_callMB famK_state_track rfl rfl rfl r132 h126 [((2040,0), (951, mix y123.fId.fThread a66)), ((901,1041), (952, mix y123.fId.fThread a66))] rfl (callN _) (state_track_event_k1_fun _ _ _ hr132) rfl (obs0 := [.arr 81 5 (List.map t_state_change y125_1.fchanges)]) (obs1 := [.arr 81 5 (List.map t_state_change r132.fchanges)]) rfl rfl ⟨rfl, ars_none_state_track _⟩ ⟨rfl, ars_none_state_track _⟩ rfl ⟨.inl rfl, .inl rfl, trivial⟩ rfl ?_)
     refine QV rfl ?_; refine wC 4 rfl ?_; obtain ⟨y133, hy133, hF⟩ := bB' hF
     rcases y133 with y133_0 | y133_1
     · have h134 := lookS_none hy133; refine R_stepX trivial (X_lookB_none (keyI .i64) famK_state_track rfl rfl rfl h134 ?_); refine QV rfl ?_; refine wA rfl ?_; refine W_condL (t := false) rfl (fun h => (by cases h)) (fun h => ?_)
       refine W_skip ?_; exact join ((max a65 r124), (mput y123.fId.fThread r132 a66)) _ _ hF sw
     have h134 := lookS_some hy133; refine R_stepX trivial (X_lookB_some (keyI .i64) famK_state_track rfl rfl rfl h134 ?_); refine QV rfl ?_; refine wA rfl ?_; refine wIf' hF rfl (fun _ hF => ?_) fun _ hF => ?_
     · refine W_regDL 6 [0] (by decide) (by kernel_rfl) (by kernel_rfl) rfl ?_; refine Q_run SP 2 rfl ?_; obtain ⟨r135, hr135, hF⟩ := bB' hF
       refine R_step SP trivial (T_call (state_time_fun _ _ hr135) ⟨⟨rfl, rfl, rfl, rfl, rfl, rfl, rfl, rfl, rfl, rfl, trivial⟩, trivial⟩ rfl (.inl rfl) ?_); refine QP rfl ?_; obtain ⟨r136, hr136, hF⟩ := bB' hF
       refine R_after trivial (X_callMB famK_state_track rfl rfl rfl r136 h134 [((2080,0), (951, mix y123.fEvent.fN (mput y123.fId.fThread r132 a66))), ((901,1081), (952, mix y123.fEvent.fN (mput y123.fId.fThread r132 a66)))] rfl (callN _) (state_track_wake_k1_fun _ _ _ _ hr136) rfl (obs0 := [.arr 81 5 (List.map t_state_change y133_1.fchanges)]) (obs1 := [.arr 81 5 (List.map t_state_change r136.fchanges)]) rfl rfl ⟨rfl, ars_none_state_track _⟩ ⟨rfl, ars_none_state_track _⟩ rfl ⟨.inl rfl, .inl rfl, .inl rfl, trivial⟩ rfl ?_)
       refine QV rfl ?_; exact join ((max a65 r124), (mput y123.fEvent.fN r136 (mput y123.fId.fThread r132 a66))) _ _ hF sw
     refine W_skip ?_; exact join ((max a65 r124), (mput y123.fId.fThread r132 a66)) _ _ hF sw
   refine W_exit ?_; refine thenQ_exit ?_; refine thenQ_exit ?_; refine blockQ_hit ?_; exact brk_0 _ _ _ (oi hF) sw
 rintro ⟨a14, a15⟩ x_0 hF cont_0 brk_0 fin_0
 unfold state_Of_L3 at hF
 refine wA rfl ?_; refine W_seq ?_; refine wIf hF rfl (fun _ hF => ?_) fun _ hF => ?_
 · refine W_skip ?_; refine W_seq ?_; refine W_block ?_; refine wE ?_; obtain ⟨y139, hy139, hF⟩ := bB hF
   refine rS (T_ixO (tc := t_i64) r1 rfl rfl rfl hy139 ?_); refine rS (T_ldE (tc := t_i64) r1 rfl rfl (idx_get hy139).2.1 rfl ?_); refine QV rfl ?_; refine wA rfl ?_; refine wC 1 rfl ?_; obtain ⟨r140, hr140, hF⟩ := bB hF
   refine R_shift trivial (S_ownB (29,0) _ 0 (904,1) 81 5 rfl rfl rfl rfl rfl S_refl) (X_callG [((1960,0),(29,0)), ((901,961),(904,1))] rfl (callN _) (state_track_becomes_k1_fun _ _ _ _ _ _ _ hr140) ⟨rfl, rfl, trivial⟩ ⟨.inl rfl, .inl rfl, .inl rfl, .inl rfl, .inl rfl, .inl rfl, trivial⟩ rfl rfl rfl ?_)
   refine QV rfl ?_; refine wD 3 rfl ?_; refine R_after trivial (X_mupdB (keyI .i64) famK_state_track rfl r140 (29,0) [(904,1)] rfl rfl rfl rfl rfl rfl rfl rfl rfl ⟨⟨rfl, rfl⟩, ars_none_state_track _⟩ ?_)
   refine QV rfl ?_; refine wB rfl ?_; exact cont_0 _ _ _ (oi hF) sw
 refine W_exit ?_; refine thenQ_exit ?_; refine thenQ_exit ?_; refine blockQ_hit ?_; exact brk_0 _ _ _ (oi hF) sw
def tracebooklaw27_piece (p0 : Int) (p1 : Int) (p2 : Int) (p3 : Int) (p4 : Int) : Option api_State :=
  some ({ fThread := 1, fState := p0, fSpan := ({ fFrom := p1, fTo := p2 } : api_Span), fCpu := p3, fOn := (-1), fBy := p4 } : api_State)
theorem tracebooklaw27_piece_fun (p0 : Int) (p1 : Int) (p2 : Int) (p3 : Int) (p4 : Int) (r : api_State) (hF : tracebooklaw27_piece p0 p1 p2 p3 p4 = some r) : Fun Try.prog 22 true [] [cI p0, cI p1, cI p2, cI p3, cI p4] noHeap (.agg (m_api_State r)) noHeap := by
 refine Fun.of_walk0 Try.func22 c22 (by kernel_rfl) (rs := [.cell 10 7 true]) (by kernel_rfl) ?_; unfold v22
 unfold tracebooklaw27_piece at hF
 refine wA rfl ?_; refine wA rfl ?_; cases hF
 exact W_ret ⟨_, rfl, rfl, ⟨⟨rfl, fun _ => rfl⟩, ⟨rfl, fun _ => rfl⟩, ⟨rfl, fun _ => rfl⟩, ⟨rfl, fun _ => rfl⟩, ⟨rfl, fun _ => rfl⟩, ⟨rfl, fun _ => rfl⟩, ⟨rfl, fun _ => rfl⟩, trivial⟩, noOut _⟩
def tracebookref27_Same_L1 (p0 : (List api_State)) (p1 : (List api_State)) : Int → Option (Int ⊕ (Unit ⊕ Bool)) := fun a12 =>
  (bif (decide (a12 < (List.length p0 : Int))) then ((idx p0 a12).bind fun y17 => ((idx p1 a12).bind fun y18 => (bif ((decide (y17.fThread = y18.fThread) && (decide (y17.fState = y18.fState) && (decide (y17.fSpan.fFrom = y18.fSpan.fFrom) && (decide (y17.fSpan.fTo = y18.fSpan.fTo) && (decide (y17.fCpu = y18.fCpu) && (decide (y17.fOn = y18.fOn) && (decide (y17.fBy = y18.fBy) && true))))))) != true) then some (.inr (.inr false)) else some (.inl (w64 (a12 + 1)))))) else some (.inr (.inl ())))
def tracebookref27_Same (p0 : (List api_State)) (p1 : (List api_State)) : Option Bool :=
  (bif (!decide ((List.length p0 : Int) = (List.length p1 : Int))) then some false else ((loop (tracebookref27_Same_L1 p0 p1) 0).bind fun | .inl _ => some true | .inr rv => some rv))
theorem tracebookref27_Same_fun (p0 : (List api_State)) (p1 : (List api_State)) (r : Bool) (hF : tracebookref27_Same p0 p1 = some r) : Fun Try.prog 9 true [] [cL 7 t_api_State p0, cL 7 t_api_State p1] noHeap (cB r) noHeap := by
 refine Fun.of_walk0 Try.func9 c9 (by kernel_rfl) (rs := [.tmp 4]) (by kernel_rfl) ?_; unfold v9
 unfold tracebookref27_Same at hF
 refine wA rfl ?_; refine W_seq ?_; refine wC 1 rfl ?_; refine rS (T_len (tc := t_api_State) p0 .tree ?_); refine Q_run SV 1 rfl ?_; refine rS (T_len (tc := t_api_State) p1 .tree ?_); refine QV rfl ?_; refine wIf hF rfl (fun _ hF => ?_) fun _ hF => ?_
 · refine wA rfl ?_; cases hF
   exact W_ret wR
 refine W_skip ?_; refine W_seq ?_; refine wA rfl ?_; refine W_for (fun _ _ h => h) hF (.inl) (fun a12 => [(0, cL 7 t_api_State p0), (1, cL 7 t_api_State p1), (5, cI a12)]) (fun a12 => []) (fun _ => []) (fun _ => []) sw ?_ ?_
 · rintro ⟨⟩ hF
   refine wA rfl ?_; cases hF
   exact W_ret wR
 rintro a12 x_0 hF cont_0 brk_0 fin_0
 unfold tracebookref27_Same_L1 at hF
 refine W_seq ?_; refine wC 2 rfl ?_; refine rS (T_len (tc := t_api_State) p0 .tree ?_); refine QV rfl ?_; refine wIf hF rfl (fun _ hF => ?_) fun _ hF => ?_
 · refine W_skip ?_; refine W_seq ?_; refine W_block ?_; refine W_seq ?_; refine W_regD (by decide) (by kernel_rfl) rfl ?_; refine Q_run SP 2 rfl ?_; obtain ⟨y17, hy17, hF⟩ := bB hF
   refine R_step SP trivial (T_ixT (tc := t_api_State) p0 rfl rfl hy17 ?_); refine Q_run SP 3 rfl ?_; obtain ⟨y18, hy18, hF⟩ := bB hF
   refine R_step SP trivial (T_ixT (tc := t_api_State) p1 rfl rfl hy18 ?_); refine Q_run SP 1 rfl ?_; refine R_step SP trivial (T_aeq (b := (decide (y17.fThread = y18.fThread) && (decide (y17.fState = y18.fState) && (decide (y17.fSpan.fFrom = y18.fSpan.fFrom) && (decide (y17.fSpan.fTo = y18.fSpan.fTo) && (decide (y17.fCpu = y18.fCpu) && (decide (y17.fOn = y18.fOn) && (decide (y17.fBy = y18.fBy) && true)))))))) (eqOk_of (n := 7) (sh := [.int .i64, .int .i64, .int .i64, .int .i64, .int .i64, .int .i64, .int .i64]) Try.underlying41 (by kernel_rfl) (by kernel_rfl)) rfl rfl rfl rfl ?_)
   refine QP rfl ?_; refine wIf hF rfl (fun _ hF => ?_) fun _ hF => ?_
   · refine wA rfl ?_; have hF := fin_0 _ (oi hF); cases hF
     exact W_ret wR
   refine W_skip ?_; refine wB rfl ?_; exact cont_0 _ _ _ (oi hF) sw
 refine W_exit ?_; refine thenQ_exit ?_; refine thenQ_exit ?_; refine blockQ_hit ?_; exact brk_0 _ _ _ (oi hF) sw
def spans_Valid (p0 : api_Span) : Option Bool :=
  (((bif (decide (0 ≤ p0.fFrom)) then (bif (decide (p0.fFrom < p0.fTo)) then some (decide (p0.fTo ≤ 1000000000000)) else some false) else some false) : Option Bool).bind fun v1 => some v1)
theorem spans_Valid_fun (p0 : api_Span) (r : Bool) (hF : spans_Valid p0 = some r) : Fun Try.prog 14 true [] [.agg [jI p0.fFrom, jI p0.fTo]] noHeap (cB r) noHeap := by
 refine Fun.of_walk0 Try.func14 c14 (by kernel_rfl) (rs := [.tmp 2]) (by kernel_rfl) ?_; unfold v14
 unfold spans_Valid at hF
 refine wA rfl ?_; refine W_seq ?_; refine W_join (fun _ _ h => h) hF (fun v1 => [(2, cB v1)]) (fun v1 => []) ?_ ?_
 · rintro v1 hF
   cases hF
   exact W_ret wR
 intro join hF
 refine wD 4 rfl ?_; cases h2 : (decide (0 ≤ p0.fFrom))
 · have hF := bF' h2 hF; refine QV rfl ?_; exact join false _ _ hF sw
 have hF := bT' h2 hF; refine Q_run SV 7 rfl ?_; cases h3 : (decide (p0.fFrom < p0.fTo))
 · have hF := bF' h3 hF; refine QV rfl ?_; exact join false _ _ hF sw
 have hF := bT' h3 hF; refine QV rfl ?_; exact join (decide (p0.fTo ≤ 1000000000000)) _ _ hF sw
def state_fields (p0 : api_State) : Option Bool :=
  (((bif (decide (p0.fState = 1)) then some true else some (decide (p0.fState = 2))) : Option Bool).bind fun v1 => (((bif (decide (p0.fState < 0)) then some true else some (decide (5 < p0.fState))) : Option Bool).bind fun v2 => (bif v2 then some false else (((bif (decide (p0.fState = 4)) then (bif (decide (p0.fCpu < 0)) then some true else some (decide (64 ≤ p0.fCpu))) else some false) : Option Bool).bind fun v3 => (((bif v3 then some v3 else (bif (!decide (p0.fState = 4)) then some (!decide (p0.fCpu = (-1))) else some false)) : Option Bool).bind fun v4 => (bif v4 then some false else (((bif (decide (p0.fState = 2)) then (bif (decide (p0.fOn < 0)) then some true else some (decide (1000000000000000 < p0.fOn))) else some false) : Option Bool).bind fun v5 => (((bif v5 then some v5 else (bif (!decide (p0.fState = 2)) then some (!decide (p0.fOn = (-1))) else some false)) : Option Bool).bind fun v6 => (bif v6 then some false else (((bif (decide (p0.fBy = (-1))) then some true else (bif v1 then (bif (decide (0 ≤ p0.fBy)) then some (decide (p0.fBy ≤ 1000000000000000)) else some false) else some false)) : Option Bool).bind fun v7 => some v7))))))))))
theorem state_fields_fun (p0 : api_State) (r : Bool) (hF : state_fields p0 = some r) : Fun Try.prog 31 true [] [.agg (m_api_State p0)] noHeap (cB r) noHeap := by
 refine Fun.of_walk0 Try.func31 c31 (by kernel_rfl) (rs := [.tmp 2]) (by kernel_rfl) ?_; unfold v31
 unfold state_fields at hF
 refine wA rfl ?_; refine W_seq ?_; refine W_join (fun _ _ h => h) hF (fun v1 => [(1, cP (1,0) 0), (3, cB v1)]) (fun v1 => [((1,0), .box (m_api_State p0))]) ?_ ?_
 · rintro v1 hF
   refine W_seq ?_; refine W_block ?_; refine W_seq ?_; refine W_join (fun _ _ h => h) hF (fun v2 => [(1, cP (1,0) 0), (3, cB v1), (12, cB v2)]) (fun v2 => [((1,0), .box (m_api_State p0))]) ?_ ?_
   · rintro v2 hF
     refine wIf hF rfl (fun _ hF => ?_) fun _ hF => ?_
     · refine wA rfl ?_; cases hF
       exact W_ret wR
     refine W_seq ?_; refine W_seq ?_; refine W_join (fun _ _ h => h) hF (fun v3 => [(1, cP (1,0) 0), (3, cB v1), (21, cB v3)]) (fun v3 => [((1,0), .box (m_api_State p0))]) ?_ ?_
     · rintro v3 hF
       refine W_join (fun _ _ h => h) hF (fun v4 => [(1, cP (1,0) 0), (3, cB v1), (21, cB v4)]) (fun v4 => [((1,0), .box (m_api_State p0))]) ?_ ?_
       · rintro v4 hF
         refine wIf hF rfl (fun _ hF => ?_) fun _ hF => ?_
         · refine wA rfl ?_; cases hF
           exact W_ret wR
         refine W_seq ?_; refine W_seq ?_; refine W_join (fun _ _ h => h) hF (fun v5 => [(1, cP (1,0) 0), (3, cB v1), (43, cB v5)]) (fun v5 => [((1,0), .box (m_api_State p0))]) ?_ ?_
         · rintro v5 hF
           refine W_join (fun _ _ h => h) hF (fun v6 => [(1, cP (1,0) 0), (3, cB v1), (43, cB v6)]) (fun v6 => [((1,0), .box (m_api_State p0))]) ?_ ?_
           · rintro v6 hF
             refine wIf hF rfl (fun _ hF => ?_) fun _ hF => ?_
             · refine wA rfl ?_; cases hF
               exact W_ret wR
             refine W_skip ?_; refine W_seq ?_; refine W_join (fun _ _ h => h) hF (fun v7 => [(2, cB v7)]) (fun v7 => []) ?_ ?_
             · rintro v7 hF
               cases hF
               exact W_ret wR
             intro join hF
             refine wD 4 rfl ?_; cases h8 : (decide (p0.fBy = (-1)))
             · have hF := bF' h8 hF; refine Q_run SV 2 rfl ?_; cases h9 : v1
               · have hF := bF' h9 hF; refine QV rfl ?_; exact join false _ _ hF sw
               have hF := bT' h9 hF; refine Q_run SV 5 rfl ?_; cases h10 : (decide (0 ≤ p0.fBy))
               · have hF := bF' h10 hF; refine QV rfl ?_; exact join false _ _ hF sw
               have hF := bT' h10 hF; refine QV rfl ?_; exact join (decide (p0.fBy ≤ 1000000000000000)) _ _ hF sw
             have hF := bT' h8 hF; refine QV rfl ?_; exact join true _ _ hF sw
           intro join hF
           refine wIf' hF rfl (fun _ hF => ?_) fun _ hF => ?_
           · refine W_skip ?_; exact join v5 _ _ hF sw
           refine wD 4 rfl ?_; cases h12 : (!decide (p0.fState = 2))
           · have hF := bF' h12 hF; refine QV rfl ?_; exact join false _ _ hF sw
           have hF := bT' h12 hF; refine QV rfl ?_; exact join (!decide (p0.fOn = (-1))) _ _ hF sw
         intro join hF
         refine wD 4 rfl ?_; cases h14 : (decide (p0.fState = 2))
         · have hF := bF' h14 hF; refine QV rfl ?_; exact join false _ _ hF sw
         have hF := bT' h14 hF; refine Q_run SV 4 rfl ?_; cases h15 : (decide (p0.fOn < 0))
         · have hF := bF' h15 hF; refine QV rfl ?_; exact join (decide (1000000000000000 < p0.fOn)) _ _ hF sw
         have hF := bT' h15 hF; refine QV rfl ?_; exact join true _ _ hF sw
       intro join hF
       refine wIf' hF rfl (fun _ hF => ?_) fun _ hF => ?_
       · refine W_skip ?_; exact join v3 _ _ hF sw
       refine wD 4 rfl ?_; cases h17 : (!decide (p0.fState = 4))
       · have hF := bF' h17 hF; refine QV rfl ?_; exact join false _ _ hF sw
       have hF := bT' h17 hF; refine QV rfl ?_; exact join (!decide (p0.fCpu = (-1))) _ _ hF sw
     intro join hF
     refine wD 4 rfl ?_; cases h19 : (decide (p0.fState = 4))
     · have hF := bF' h19 hF; refine QV rfl ?_; exact join false _ _ hF sw
     have hF := bT' h19 hF; refine Q_run SV 4 rfl ?_; cases h20 : (decide (p0.fCpu < 0))
     · have hF := bF' h20 hF; refine QV rfl ?_; exact join (decide (64 ≤ p0.fCpu)) _ _ hF sw
     have hF := bT' h20 hF; refine QV rfl ?_; exact join true _ _ hF sw
   intro join hF
   refine wD 4 rfl ?_; cases h22 : (decide (p0.fState < 0))
   · have hF := bF' h22 hF; refine QV rfl ?_; exact join (decide (5 < p0.fState)) _ _ hF sw
   have hF := bT' h22 hF; refine QV rfl ?_; exact join true _ _ hF sw
 intro join hF
 refine wD 4 rfl ?_; cases h23 : (decide (p0.fState = 1))
 · have hF := bF' h23 hF; refine QV rfl ?_; exact join (decide (p0.fState = 2)) _ _ hF sw
 have hF := bT' h23 hF; refine QV rfl ?_; exact join true _ _ hF sw
def state_Check_L1 (p1 : (List api_State)) (y68 : api_State) : Int → Option (Int ⊕ (Unit ⊕ Int)) := fun a88 =>
  (bif (decide (a88 < (List.length p1 : Int))) then ((idx p1 a88).bind fun y98 => (((bif (decide ((w64 (a88 + 1)) = (List.length p1 : Int))) then some true else ((idx p1 (w64 (a88 + 1))).bind fun y104 => some (!decide (y104.fThread = y98.fThread)))) : Option Bool).bind fun v99 => (((bif v99 then some (!decide (y98.fSpan.fTo = y68.fSpan.fTo)) else some false) : Option Bool).bind fun v100 => (bif v100 then some (.inr (.inr 11)) else some (.inl (w64 (a88 + 1))))))) else some (.inr (.inl ())))
def state_Check_L2 (p1 : (List api_State)) (r1 : (List Int)) : (Int × Int) → Option ((Int × Int) ⊕ (Int ⊕ Int)) := fun (a46, a47) =>
  (bif (decide (a47 < (List.length p1 : Int))) then ((idx p1 a47).bind fun y107 => ((slices_Index_int_int r1 y107.fThread).bind fun r108 => (bif (decide (r108 < 0)) then some (.inr (.inr 5)) else ((spans_Valid y107.fSpan).bind fun r109 => (bif (!r109) then some (.inr (.inr 2)) else ((state_fields y107).bind fun r110 => (bif (!r110) then some (.inr (.inr 1)) else (((bif (decide (r108 = a46)) then ((idx p1 (w64 (a47 - 1))).bind fun y118 => (bif (!decide (y107.fSpan.fFrom = y118.fSpan.fTo)) then some true else ((idx p1 (w64 (a47 - 1))).bind fun y120 => ((state_same y107 y120).bind fun r121 => some r121)))) else some false) : Option Bool).bind fun v111 => (bif v111 then some (.inr (.inr 11)) else (((bif (!decide (r108 = a46)) then (bif (!decide (r108 = (w64 (a46 + 1)))) then some true else some (!decide (y107.fSpan.fFrom = 0))) else some false) : Option Bool).bind fun v112 => (bif v112 then some (.inr (.inr 11)) else some (.inl (r108, (w64 (a47 + 1))))))))))))))) else some (.inr (.inl a46)))
def state_Check (p0 : (List api_Thread)) (p1 : (List api_State)) : Option Int :=
  ((state_distinct p0).bind fun r1 => ((loop (state_Check_L2 p1 r1) ((-1), 0)).bind fun | .inl e67 => (bif (decide ((List.length p1 : Int) = 0)) then some 0 else ((idx p1 (w64 ((List.length p1 : Int) - 1))).bind fun y68 => ((loop (state_Check_L1 p1 y68) 0).bind fun | .inl _ => (bif (!decide ((w64 (e67 + 1)) = (List.length r1 : Int))) then some 11 else some 0) | .inr rv => some rv))) | .inr rv => some rv))
theorem state_Check_fun (p0 : (List api_Thread)) (p1 : (List api_State)) (r : Int) (hF : state_Check p0 p1 = some r) : Fun Try.prog 13 true [] [cL 3 t_api_Thread p0, cL 7 t_api_State p1] noHeap (cI r) noHeap := by
 refine Fun.of_walk0 Try.func13 c13 (by kernel_rfl) (rs := [.tmp 4]) (by kernel_rfl) ?_; unfold v13
 unfold state_Check at hF
 refine wA rfl ?_; refine wC 1 rfl ?_; obtain ⟨r1, hr1, hF⟩ := bB hF
 refine R_stepX trivial (X_callG [((902,920),(15,1))] rfl (callN _) (state_distinct_fun _ _ hr1) trivial ⟨.inl rfl, trivial⟩ rfl rfl rfl ?_); refine QV rfl ?_; refine wA rfl ?_; refine W_seq ?_; refine wC 1 rfl ?_
 refine rS (T_len (tc := t_api_State) p1 .tree ?_); refine QV rfl ?_; refine W_for (fun _ _ h => h) hF (.inl) (fun (a46, a47) => [(1, cL 7 t_api_State p1), (5, cO (15,1)), (6, cI a46), (16, cL 7 t_api_State p1), (17, cI (List.length p1 : Int)), (18, cI a47)]) (fun (a46, a47) => [((15,1), .arr 3 1 (List.map t_i64 r1))]) (fun e67 => [(1, cL 7 t_api_State p1), (5, cO (15,1)), (6, cI e67)]) (fun e67 => [((15,1), .arr 3 1 (List.map t_i64 r1))]) sw ?_ ?_
 · rintro e67 hF
   refine W_seq ?_; refine wC 1 rfl ?_; refine rS (T_len (tc := t_api_State) p1 .tree ?_); refine QV rfl ?_; refine wIf hF rfl (fun _ hF => ?_) fun _ hF => ?_
   · refine wA rfl ?_; cases hF
     exact W_ret wR
   refine W_skip ?_; refine wC 2 rfl ?_; refine rS (T_len (tc := t_api_State) p1 .tree ?_); refine Q_run SV 1 rfl ?_; obtain ⟨y68, hy68, hF⟩ := bB hF
   refine rS (T_ixT (tc := t_api_State) p1 rfl rfl hy68 ?_); refine QV rfl ?_; refine W_seq ?_; refine wC 1 rfl ?_; refine rS (T_len (tc := t_api_State) p1 .tree ?_); refine QV rfl ?_; refine W_for (fun _ _ h => h) hF (.inl) (fun a88 => [(1, cL 7 t_api_State p1), (5, cO (15,1)), (6, cI e67), (10, cI y68.fSpan.fTo), (94, cL 7 t_api_State p1), (95, cI (List.length p1 : Int)), (96, cI a88)]) (fun a88 => [((15,1), .arr 3 1 (List.map t_i64 r1))]) (fun _ => [(5, cO (15,1)), (6, cI e67)]) (fun _ => [((15,1), .arr 3 1 (List.map t_i64 r1))]) sw ?_ ?_
   · rintro ⟨⟩ hF
     refine W_seq ?_; refine wC 3 rfl ?_; refine rS (T_len (tc := t_i64) r1 (.own _ _ rfl) ?_); refine QV rfl ?_; refine wIf hF rfl (fun _ hF => ?_) fun _ hF => ?_
     · refine wA rfl ?_; cases hF
       exact W_ret wR
     refine W_skip ?_; refine wA rfl ?_; cases hF
     exact W_ret wR
   rintro a88 x_0 hF cont_0 brk_0 fin_0
   unfold state_Check_L1 at hF
   refine wA rfl ?_; refine W_seq ?_; refine wIf hF rfl (fun _ hF => ?_) fun _ hF => ?_
   · refine W_skip ?_; refine W_seq ?_; refine W_block ?_; refine wC 1 rfl ?_; obtain ⟨y98, hy98, hF⟩ := bB hF
     refine rS (T_ixT (tc := t_api_State) p1 rfl rfl hy98 ?_); refine QV rfl ?_; refine W_seq ?_; refine W_join (fun _ _ h => h) hF (fun v99 => [(1, cL 7 t_api_State p1), (5, cO (15,1)), (6, cI e67), (10, cI y68.fSpan.fTo), (12, cP (12,0) 0), (13, cB v99), (94, cL 7 t_api_State p1), (95, cI (List.length p1 : Int)), (96, cI a88)]) (fun v99 => [((15,1), .arr 3 1 (List.map t_i64 r1)), ((12,0), .box (m_api_State y98))]) ?_ ?_
     · rintro v99 hF
       refine W_seq ?_; refine W_join (fun _ _ h => h) hF (fun v100 => [(1, cL 7 t_api_State p1), (5, cO (15,1)), (6, cI e67), (10, cI y68.fSpan.fTo), (94, cL 7 t_api_State p1), (95, cI (List.length p1 : Int)), (96, cI a88), (124, cB v100)]) (fun v100 => [((15,1), .arr 3 1 (List.map t_i64 r1))]) ?_ ?_
       · rintro v100 hF
         refine wIf hF rfl (fun _ hF => ?_) fun _ hF => ?_
         · refine wA rfl ?_; have hF := fin_0 _ (oi hF); cases hF
           exact W_ret wR
         refine W_skip ?_; refine wB rfl ?_; exact cont_0 _ _ _ (oi hF) sw
       intro join hF
       refine wD 2 rfl ?_; cases h102 : v99
       · have hF := bF' h102 hF; refine QV rfl ?_; exact join false _ _ hF sw
       have hF := bT' h102 hF; refine QV rfl ?_; exact join (!decide (y98.fSpan.fTo = y68.fSpan.fTo)) _ _ hF sw
     intro join hF
     refine W_regD (by decide) (by kernel_rfl) rfl ?_; refine Q_run SP 3 rfl ?_; refine R_step SP trivial (T_len (tc := t_api_State) p1 .tree ?_); refine Q_run SP 2 rfl ?_; cases h103 : (decide ((w64 (a88 + 1)) = (List.length p1 : Int)))
     · have hF := bF' h103 hF; refine Q_run SP 3 rfl ?_; obtain ⟨y104, hy104, hF⟩ := bB' hF
       refine R_step SP rfl (T_ixT (tc := t_api_State) p1 rfl rfl hy104 ?_); refine QP rfl ?_; exact join (!decide (y104.fThread = y98.fThread)) _ _ hF sw
     have hF := bT' h103 hF; refine QP rfl ?_; exact join true _ _ hF sw
   refine W_exit ?_; refine thenQ_exit ?_; refine thenQ_exit ?_; refine blockQ_hit ?_; exact brk_0 _ _ _ (oi hF) sw
 rintro ⟨a46, a47⟩ x_0 hF cont_0 brk_0 fin_0
 unfold state_Check_L2 at hF
 refine wA rfl ?_; refine W_seq ?_; refine wIf hF rfl (fun _ hF => ?_) fun _ hF => ?_
 · refine W_skip ?_; refine W_seq ?_; refine W_block ?_; refine wC 1 rfl ?_; obtain ⟨y107, hy107, hF⟩ := bB hF
   refine rS (T_ixT (tc := t_api_State) p1 rfl rfl hy107 ?_); refine QV rfl ?_; refine wC 3 rfl ?_; obtain ⟨r108, hr108, hF⟩ := bB hF
   refine rS (T_call (slices_Index_int_int_fun _ _ _ hr108) ⟨⟨_, rfl⟩, rfl, trivial⟩ rfl (.inl rfl) ?_); refine QV rfl ?_; refine W_seq ?_; refine W_block ?_; refine wA rfl ?_; refine wIf hF rfl (fun _ hF => ?_) fun _ hF => ?_
   · refine wA rfl ?_; have hF := fin_0 _ (oi hF); cases hF
     exact W_ret wR
   refine wC 2 rfl ?_; obtain ⟨r109, hr109, hF⟩ := bB hF
   refine rS (T_call (spans_Valid_fun _ _ hr109) ⟨⟨rfl, rfl, trivial⟩, trivial⟩ rfl (.inl rfl) ?_); refine QV rfl ?_; refine wIf hF rfl (fun _ hF => ?_) fun _ hF => ?_
   · refine wA rfl ?_; have hF := fin_0 _ (oi hF); cases hF
     exact W_ret wR
   refine wC 1 rfl ?_; obtain ⟨r110, hr110, hF⟩ := bB hF
   refine rS (T_call (state_fields_fun _ _ hr110) ⟨⟨rfl, rfl, rfl, rfl, rfl, rfl, rfl, trivial⟩, trivial⟩ rfl (.inl rfl) ?_); refine QV rfl ?_; refine wIf hF rfl (fun _ hF => ?_) fun _ hF => ?_
   · refine wA rfl ?_; have hF := fin_0 _ (oi hF); cases hF
     exact W_ret wR
   refine W_seq ?_; refine W_join (fun _ _ h => h) hF (fun v111 => [(1, cL 7 t_api_State p1), (5, cO (15,1)), (6, cI a46), (8, cP (8,0) 0), (9, cI r108), (16, cL 7 t_api_State p1), (17, cI (List.length p1 : Int)), (18, cI a47), (39, cB v111)]) (fun v111 => [((15,1), .arr 3 1 (List.map t_i64 r1)), ((8,0), .box (m_api_State y107))]) ?_ ?_
   · rintro v111 hF
     refine wIf hF rfl (fun _ hF => ?_) fun _ hF => ?_
     · refine wA rfl ?_; have hF := fin_0 _ (oi hF); cases hF
       exact W_ret wR
     refine W_seq ?_; refine W_join (fun _ _ h => h) hF (fun v112 => [(1, cL 7 t_api_State p1), (5, cO (15,1)), (9, cI r108), (16, cL 7 t_api_State p1), (17, cI (List.length p1 : Int)), (18, cI a47), (65, cB v112)]) (fun v112 => [((15,1), .arr 3 1 (List.map t_i64 r1))]) ?_ ?_
     · rintro v112 hF
       refine wIf hF rfl (fun _ hF => ?_) fun _ hF => ?_
       · refine wA rfl ?_; have hF := fin_0 _ (oi hF); cases hF
         exact W_ret wR
       refine W_skip ?_; refine wB rfl ?_; refine wB rfl ?_; exact cont_0 _ _ _ (oi hF) sw
     intro join hF
     refine wD 4 rfl ?_; cases h114 : (!decide (r108 = a46))
     · have hF := bF' h114 hF; refine QV rfl ?_; exact join false _ _ hF sw
     have hF := bT' h114 hF; refine Q_run SV 5 rfl ?_; cases h115 : (!decide (r108 = (w64 (a46 + 1))))
     · have hF := bF' h115 hF; refine QV rfl ?_; exact join (!decide (y107.fSpan.fFrom = 0)) _ _ hF sw
     have hF := bT' h115 hF; refine QV rfl ?_; exact join true _ _ hF sw
   intro join hF
   refine W_regD (by decide) (by kernel_rfl) rfl ?_; refine Q_run SP 4 rfl ?_; cases h117 : (decide (r108 = a46))
   · have hF := bF' h117 hF; refine QP rfl ?_; exact join false _ _ hF sw
   have hF := bT' h117 hF; refine Q_run SP 6 rfl ?_; obtain ⟨y118, hy118, hF⟩ := bB' hF
   refine R_step SP rfl (T_ixT (tc := t_api_State) p1 rfl rfl hy118 ?_); refine Q_run SP 5 rfl ?_; cases h119 : (!decide (y107.fSpan.fFrom = y118.fSpan.fTo))
   · have hF := bF' h119 hF; refine Q_run SP 4 rfl ?_; obtain ⟨y120, hy120, hF⟩ := bB' hF
     refine R_step SP rfl (T_ixT (tc := t_api_State) p1 rfl rfl hy120 ?_); refine Q_run SP 1 rfl ?_; obtain ⟨r121, hr121, hF⟩ := bB' hF
     refine R_step SP rfl (T_call (state_same_fun _ _ _ hr121) ⟨⟨rfl, rfl, rfl, rfl, rfl, rfl, rfl, trivial⟩, ⟨rfl, rfl, rfl, rfl, rfl, rfl, rfl, trivial⟩, trivial⟩ rfl (.inl rfl) ?_); refine QP rfl ?_; exact join r121 _ _ hF sw
   have hF := bT' h119 hF; refine QP rfl ?_; exact join true _ _ hF sw
 refine W_exit ?_; refine thenQ_exit ?_; refine thenQ_exit ?_; refine blockQ_hit ?_; exact brk_0 _ _ _ (oi hF) sw
def state_Total_L1 (p0 : (List api_State)) (p1 : Int) (p2 : Int) (p3 : api_Span) : (Int × Int) → Option ((Int × Int) ⊕ Int) := fun (a20, a21) =>
  (bif (decide (a21 < (List.length p0 : Int))) then ((((idx p0 a21).bind fun y30 => (((bif (decide (y30.fThread = p1)) then some (decide (y30.fState = p2)) else some false) : Option Bool).bind fun v31 => (bif v31 then some (w64 (a20 + (max 0 (w64 ((min y30.fSpan.fTo p3.fTo) - (max y30.fSpan.fFrom p3.fFrom)))))) else some a20))) : Option Int).bind fun v29 => some (.inl (v29, (w64 (a21 + 1))))) else some (.inr a20))
def state_Total (p0 : (List api_State)) (p1 : Int) (p2 : Int) (p3 : api_Span) : Option Int :=
  ((spans_Valid p3).bind fun r1 => (bif (!r1) then some 0 else ((loop (state_Total_L1 p0 p1 p2 p3) (0, 0)).bind fun e28 => some e28)))
theorem state_Total_fun (p0 : (List api_State)) (p1 : Int) (p2 : Int) (p3 : api_Span) (r : Int) (hF : state_Total p0 p1 p2 p3 = some r) : Fun Try.prog 16 true [] [cL 7 t_api_State p0, cI p1, cI p2, .agg [jI p3.fFrom, jI p3.fTo]] noHeap (cI r) noHeap := by
 refine Fun.of_walk0 Try.func16 c16 (by kernel_rfl) (rs := [.tmp 8]) (by kernel_rfl) ?_; unfold v16
 unfold state_Total at hF
 refine wA rfl ?_; refine W_seq ?_; refine wC 1 rfl ?_; obtain ⟨r1, hr1, hF⟩ := bB hF
 refine rS (T_call (spans_Valid_fun _ _ hr1) ⟨⟨rfl, rfl, trivial⟩, trivial⟩ rfl (.inl rfl) ?_); refine QV rfl ?_; refine wIf hF rfl (fun _ hF => ?_) fun _ hF => ?_
 · refine wA rfl ?_; cases hF
   exact W_ret wR
 refine W_skip ?_; refine wA rfl ?_; refine W_seq ?_; refine wC 1 rfl ?_; refine rS (T_len (tc := t_api_State) p0 .tree ?_); refine QV rfl ?_; refine W_for (fun _ _ h => h) hF (id) (fun (a20, a21) => [(1, cI p1), (2, cI p2), (7, cP (7,0) 0), (9, cI a20), (15, cL 7 t_api_State p0), (16, cI (List.length p0 : Int)), (17, cI a21)]) (fun (a20, a21) => [((7,0), .box [jI p3.fFrom, jI p3.fTo])]) (fun e28 => [(9, cI e28)]) (fun e28 => []) sw ?_ ?_
 · rintro e28 hF
   refine wA rfl ?_; cases hF
   exact W_ret wR
 rintro ⟨a20, a21⟩ x_0 hF cont_0 brk_0 fin_0
 unfold state_Total_L1 at hF
 refine wA rfl ?_; refine W_seq ?_; refine wIf hF rfl (fun _ hF => ?_) fun _ hF => ?_
 · refine W_skip ?_; refine W_seq ?_; refine W_join (fun _ _ h => h) hF (fun v29 => [(1, cI p1), (2, cI p2), (7, cP (7,0) 0), (9, cI v29), (15, cL 7 t_api_State p0), (16, cI (List.length p0 : Int)), (17, cI a21)]) (fun v29 => [((7,0), .box [jI p3.fFrom, jI p3.fTo])]) ?_ ?_
   · rintro v29 hF
     refine wB rfl ?_; exact cont_0 _ _ _ (oi hF) sw
   intro join hF
   refine W_block ?_; refine wE ?_; obtain ⟨y30, hy30, hF⟩ := bB' hF
   refine rS (T_ixT (tc := t_api_State) p0 rfl rfl hy30 ?_); refine QV rfl ?_; refine W_seq ?_; have hF := bA hF; refine W_join (fun _ _ h => h) hF (fun v31 => [(1, cI p1), (2, cI p2), (7, cP (7,0) 0), (9, cI a20), (11, cP (11,0) 0), (15, cL 7 t_api_State p0), (16, cI (List.length p0 : Int)), (17, cI a21), (30, cB v31)]) (fun v31 => [((7,0), .box [jI p3.fFrom, jI p3.fTo]), ((11,0), .box (m_api_State y30))]) ?_ ?_
   · rintro v31 hF
     refine wIf' hF rfl (fun _ hF => ?_) fun _ hF => ?_
     · refine wB rfl ?_; exact join (w64 (a20 + (max 0 (w64 ((min y30.fSpan.fTo p3.fTo) - (max y30.fSpan.fFrom p3.fFrom)))))) _ _ hF sw
     refine W_skip ?_; exact join a20 _ _ hF sw
   intro join hF
   refine wD 5 rfl ?_; cases h33 : (decide (y30.fThread = p1))
   · have hF := bF' h33 hF; refine QV rfl ?_; exact join false _ _ hF sw
   have hF := bT' h33 hF; refine QV rfl ?_; exact join (decide (y30.fState = p2)) _ _ hF sw
 refine W_exit ?_; refine thenQ_exit ?_; refine thenQ_exit ?_; refine blockQ_hit ?_; exact brk_0 _ _ _ (oi hF) sw
def tracebooklaw27_awake  : Option Bool :=
  ((tracebooklaw27_timed 1 0 2 8 0).bind fun r1 => ((tracebooklaw27_timed 1 1 5 9 1).bind fun r2 => ((tracebooklaw27_timed 7 0 9 10 1).bind fun r3 => ((state_Of [({ fId := 1, fName := ⟨#[97]⟩, fDomain := 0 } : api_Thread)] [r1, r2, r3] 10).bind fun r4 => ((tracebooklaw27_timed 1 0 2 8 0).bind fun r5 => ((tracebooklaw27_timed 1 2 8 9 1).bind fun r6 => ((state_Of [({ fId := 1, fName := ⟨#[97]⟩, fDomain := 0 } : api_Thread)] [r5, r6] 9).bind fun r7 => ((state_Of [({ fId := 1, fName := ⟨#[97]⟩, fDomain := 0 } : api_Thread)] [] 4).bind fun r8 => ((tracebooklaw27_piece 5 0 2 (-1) (-1)).bind fun r9 => ((tracebooklaw27_piece 4 2 5 0 (-1)).bind fun r10 => ((tracebooklaw27_piece 1 5 9 (-1) 7).bind fun r11 => ((tracebooklaw27_piece 0 9 10 (-1) (-1)).bind fun r12 => ((((tracebookref27_Same r4 [r9, r10, r11, r12]).bind fun r14 => (bif r14 then ((tracebooklaw27_piece 5 0 8 (-1) (-1)).bind fun r16 => ((tracebooklaw27_piece 1 8 9 (-1) (-1)).bind fun r17 => ((tracebookref27_Same r7 [r16, r17]).bind fun r18 => (bif r18 then ((tracebooklaw27_piece 5 0 4 (-1) (-1)).bind fun r20 => ((tracebookref27_Same r8 [r20]).bind fun r21 => (bif r21 then ((state_Of [({ fId := 1, fName := ⟨#[97]⟩, fDomain := 0 } : api_Thread)] [] 0).bind fun r23 => (bif (decide ((List.length r23 : Int) = 0)) then ((state_Check [({ fId := 1, fName := ⟨#[97]⟩, fDomain := 0 } : api_Thread)] r4).bind fun r25 => (bif (decide (r25 = 0)) then ((state_Total r4 1 4 ({ fFrom := 3, fTo := 9 } : api_Span)).bind fun r27 => some (decide (r27 = 2))) else some false)) else some false)) else some false))) else some false)))) else some false)) : Option Bool).bind fun v13 => some v13)))))))))))))
theorem tracebooklaw27_awake_fun  (r : Bool) (hF : tracebooklaw27_awake  = some r) : Fun Try.prog 8 true [] [] noHeap (cB r) noHeap := by
 refine Fun.of_walk0 Try.func8 c8 (by kernel_rfl) (rs := [.tmp 0]) (by kernel_rfl) ?_; unfold v8
 unfold tracebooklaw27_awake at hF
 refine wA rfl ?_; refine wC 1 rfl ?_; refine rS (T_bsl (tc := t_api_Thread) [({ fId := 1, fName := ⟨#[97]⟩, fDomain := 0 } : api_Thread)] rfl ⟨rfl, rfl, rfl, trivial⟩ rfl (fun _ => rfl) rfl ?_)
 refine QV rfl ?_; refine wC 1 rfl ?_; obtain ⟨r1, hr1, hF⟩ := bB hF
 refine rS (T_call (tracebooklaw27_timed_fun _ _ _ _ _ _ hr1) ⟨rfl, rfl, rfl, rfl, rfl, trivial⟩ rfl (.inl rfl) ?_); obtain ⟨r2, hr2, hF⟩ := bB hF
 refine rS (T_call (tracebooklaw27_timed_fun _ _ _ _ _ _ hr2) ⟨rfl, rfl, rfl, rfl, rfl, trivial⟩ rfl (.inl rfl) ?_); obtain ⟨r3, hr3, hF⟩ := bB hF
 refine rS (T_call (tracebooklaw27_timed_fun _ _ _ _ _ _ hr3) ⟨rfl, rfl, rfl, rfl, rfl, trivial⟩ rfl (.inl rfl) ?_); refine rS (T_bsl (tc := t_api_Timed) [r1, r2, r3] rfl ⟨rfl, rfl, rfl, rfl, rfl, rfl, rfl, rfl, rfl, rfl, rfl, rfl, rfl, rfl, rfl, rfl, rfl, rfl, rfl, rfl, rfl, rfl, rfl, rfl, rfl, rfl, rfl, rfl, rfl, rfl, trivial⟩ rfl (fun _ => rfl) rfl ?_)
 obtain ⟨r4, hr4, hF⟩ := bB hF
 refine R_stepX trivial (X_callL [((902,400),(13,1))] rfl (callN _) (state_Of_fun _ _ _ _ hr4) trivial ⟨.inr ⟨_, rfl⟩, .inr ⟨_, rfl⟩, .inr rfl, trivial⟩ rfl rfl rfl rfl ⟨(flatArr fun _ => rfl), trivial⟩ ?_)
 refine QV rfl ?_; refine wC 1 rfl ?_; obtain ⟨r5, hr5, hF⟩ := bB hF
 refine rS (T_call (tracebooklaw27_timed_fun _ _ _ _ _ _ hr5) ⟨rfl, rfl, rfl, rfl, rfl, trivial⟩ rfl (.inl rfl) ?_); obtain ⟨r6, hr6, hF⟩ := bB hF
 refine rS (T_call (tracebooklaw27_timed_fun _ _ _ _ _ _ hr6) ⟨rfl, rfl, rfl, rfl, rfl, trivial⟩ rfl (.inl rfl) ?_); refine rS (T_bsl (tc := t_api_Timed) [r5, r6] rfl ⟨rfl, rfl, rfl, rfl, rfl, rfl, rfl, rfl, rfl, rfl, rfl, rfl, rfl, rfl, rfl, rfl, rfl, rfl, rfl, rfl, trivial⟩ rfl (fun _ => rfl) rfl ?_)
 obtain ⟨r7, hr7, hF⟩ := bB hF
 refine R_stepX trivial (X_callL [((902,400),(18,1))] rfl (callN _) (state_Of_fun _ _ _ _ hr7) trivial ⟨.inr ⟨_, rfl⟩, .inr ⟨_, rfl⟩, .inr rfl, trivial⟩ rfl rfl rfl rfl ⟨(flatArr fun _ => rfl), trivial⟩ ?_)
 refine QV rfl ?_; refine wC 1 rfl ?_; obtain ⟨r8, hr8, hF⟩ := bB hF
 refine R_stepX trivial (X_callL [((902,400),(20,1))] rfl (callN _) (state_Of_fun _ _ _ _ hr8) trivial ⟨.inr ⟨_, rfl⟩, .inr rfl, .inr rfl, trivial⟩ rfl rfl rfl rfl ⟨(flatArr fun _ => rfl), trivial⟩ ?_)
 refine QV rfl ?_; refine wE ?_; obtain ⟨r9, hr9, hF⟩ := bB hF
 refine rS (T_call (tracebooklaw27_piece_fun _ _ _ _ _ _ hr9) ⟨rfl, rfl, rfl, rfl, rfl, trivial⟩ rfl (.inl rfl) ?_); obtain ⟨r10, hr10, hF⟩ := bB hF
 refine rS (T_call (tracebooklaw27_piece_fun _ _ _ _ _ _ hr10) ⟨rfl, rfl, rfl, rfl, rfl, trivial⟩ rfl (.inl rfl) ?_); obtain ⟨r11, hr11, hF⟩ := bB hF
 refine rS (T_call (tracebooklaw27_piece_fun _ _ _ _ _ _ hr11) ⟨rfl, rfl, rfl, rfl, rfl, trivial⟩ rfl (.inl rfl) ?_); obtain ⟨r12, hr12, hF⟩ := bB hF
 refine rS (T_call (tracebooklaw27_piece_fun _ _ _ _ _ _ hr12) ⟨rfl, rfl, rfl, rfl, rfl, trivial⟩ rfl (.inl rfl) ?_); refine rS (T_bsl (tc := t_api_State) [r9, r10, r11, r12] rfl ⟨rfl, rfl, rfl, rfl, rfl, rfl, rfl, rfl, rfl, rfl, rfl, rfl, rfl, rfl, rfl, rfl, rfl, rfl, rfl, rfl, rfl, rfl, rfl, rfl, rfl, rfl, rfl, rfl, trivial⟩ rfl (fun _ => rfl) rfl ?_)
 refine QV rfl ?_; refine W_seq ?_; refine W_join (fun _ _ h => h) hF (fun v13 => [(0, cB v13)]) (fun v13 => []) ?_ ?_
 · rintro v13 hF
   cases hF
   exact W_ret wR
 intro join hF
 refine wD 2 rfl ?_; obtain ⟨r14, hr14, hF⟩ := bB' hF
 refine rS (T_call (tracebookref27_Same_fun _ _ _ hr14) ⟨⟨_, rfl⟩, ⟨_, rfl⟩, trivial⟩ rfl (.inl rfl) ?_); refine Q_run SV 1 rfl ?_; cases h15 : r14
 · have hF := bF' h15 hF; refine QV rfl ?_; exact join false _ _ hF sw
 have hF := bT' h15 hF; refine Q_run SV 1 rfl ?_; obtain ⟨r16, hr16, hF⟩ := bB' hF
 refine R_step SV rfl (T_call (tracebooklaw27_piece_fun _ _ _ _ _ _ hr16) ⟨rfl, rfl, rfl, rfl, rfl, trivial⟩ rfl (.inl rfl) ?_); obtain ⟨r17, hr17, hF⟩ := bB' hF
 refine R_step SV rfl (T_call (tracebooklaw27_piece_fun _ _ _ _ _ _ hr17) ⟨rfl, rfl, rfl, rfl, rfl, trivial⟩ rfl (.inl rfl) ?_); refine R_step SV rfl (T_bsl (tc := t_api_State) [r16, r17] rfl ⟨rfl, rfl, rfl, rfl, rfl, rfl, rfl, rfl, rfl, rfl, rfl, rfl, rfl, rfl, trivial⟩ rfl (fun _ => rfl) rfl ?_)
 obtain ⟨r18, hr18, hF⟩ := bB' hF
 refine R_step SV rfl (T_call (tracebookref27_Same_fun _ _ _ hr18) ⟨⟨_, rfl⟩, ⟨_, rfl⟩, trivial⟩ rfl (.inl rfl) ?_); refine Q_run SV 2 rfl ?_; cases h19 : r18
 · have hF := bF' h19 hF; refine QV rfl ?_; exact join false _ _ hF sw
 have hF := bT' h19 hF; refine Q_run SV 1 rfl ?_; obtain ⟨r20, hr20, hF⟩ := bB' hF
 refine R_step SV rfl (T_call (tracebooklaw27_piece_fun _ _ _ _ _ _ hr20) ⟨rfl, rfl, rfl, rfl, rfl, trivial⟩ rfl (.inl rfl) ?_); refine R_step SV rfl (T_bsl (tc := t_api_State) [r20] rfl ⟨rfl, rfl, rfl, rfl, rfl, rfl, rfl, trivial⟩ rfl (fun _ => rfl) rfl ?_)
 obtain ⟨r21, hr21, hF⟩ := bB' hF
 refine R_step SV rfl (T_call (tracebookref27_Same_fun _ _ _ hr21) ⟨⟨_, rfl⟩, ⟨_, rfl⟩, trivial⟩ rfl (.inl rfl) ?_); refine Q_run SV 2 rfl ?_; cases h22 : r21
 · have hF := bF' h22 hF; refine QV rfl ?_; exact join false _ _ hF sw
 have hF := bT' h22 hF; refine Q_run SV 1 rfl ?_; obtain ⟨r23, hr23, hF⟩ := bB' hF
 refine R_stepX rfl (X_callL [((902,400),(44,1))] rfl (callN _) (state_Of_fun _ _ _ _ hr23) trivial ⟨.inr ⟨_, rfl⟩, .inr rfl, .inr rfl, trivial⟩ rfl rfl rfl rfl ⟨(flatArr fun _ => rfl), trivial⟩ ?_)
 refine R_step SV rfl (T_len (tc := t_api_State) r23 (.own _ _ rfl) ?_); refine Q_run SV 3 rfl ?_; cases h24 : (decide ((List.length r23 : Int) = 0))
 · have hF := bF' h24 hF; refine QV rfl ?_; exact join false _ _ hF sw
 have hF := bT' h24 hF; refine Q_run SV 2 rfl ?_; obtain ⟨r25, hr25, hF⟩ := bB' hF
 refine R_step SV rfl (T_call (state_Check_fun _ _ _ hr25) ⟨⟨_, rfl⟩, ⟨_, rfl⟩, trivial⟩ rfl (.inl rfl) ?_); refine Q_run SV 3 rfl ?_; cases h26 : (decide (r25 = 0))
 · have hF := bF' h26 hF; refine QV rfl ?_; exact join false _ _ hF sw
 have hF := bT' h26 hF; refine Q_run SV 2 rfl ?_; obtain ⟨r27, hr27, hF⟩ := bB' hF
 refine R_step SV rfl (T_call (state_Total_fun _ _ _ _ _ hr27) ⟨⟨_, rfl⟩, rfl, rfl, ⟨rfl, rfl, trivial⟩, trivial⟩ rfl (.inl rfl) ?_); refine QV rfl ?_; exact join (decide (r27 = 2)) _ _ hF sw
def state_At_L1 (p0 : (List api_State)) (p1 : Int) (p2 : Int) : Int → Option (Int ⊕ (Unit ⊕ (api_State × Bool))) := fun a16 =>
  (bif (decide (a16 < (List.length p0 : Int))) then ((idx p0 a16).bind fun y23 => (((bif (decide (y23.fThread = p1)) then (bif (decide (y23.fSpan.fFrom ≤ p2)) then some (decide (p2 < y23.fSpan.fTo)) else some false) else some false) : Option Bool).bind fun v24 => (bif v24 then some (.inr (.inr (y23, true))) else some (.inl (w64 (a16 + 1)))))) else some (.inr (.inl ())))
def state_At (p0 : (List api_State)) (p1 : Int) (p2 : Int) : Option (api_State × Bool) :=
  ((loop (state_At_L1 p0 p1 p2) 0).bind fun | .inl _ => some (({ fThread := 0, fState := 0, fSpan := ({ fFrom := 0, fTo := 0 } : api_Span), fCpu := 0, fOn := 0, fBy := 0 } : api_State), false) | .inr rv => some rv)
theorem state_At_fun (p0 : (List api_State)) (p1 : Int) (p2 : Int) (r : (api_State × Bool)) (hF : state_At p0 p1 p2 = some r) : Fun Try.prog 17 true [] [cL 7 t_api_State p0, cI p1, cI p2] noHeap (.tup [.agg (m_api_State r.1), cB r.2]) noHeap := by
 refine Fun.of_walk0 Try.func17 c17 (by kernel_rfl) (rs := [.cell 6 7 true, .tmp 7]) (by kernel_rfl) ?_; unfold v17
 unfold state_At at hF
 refine wA rfl ?_; refine W_seq ?_; refine wC 1 rfl ?_; refine rS (T_len (tc := t_api_State) p0 .tree ?_); refine QV rfl ?_; refine W_for (fun _ _ h => h) hF (.inl) (fun a16 => [(1, cI p1), (2, cI p2), (6, cP (6,0) 0), (10, cL 7 t_api_State p0), (11, cI (List.length p0 : Int)), (12, cI a16)]) (fun a16 => [((6,0), .box [jI 0, jI 0, jI 0, jI 0, jI 0, jI 0, jI 0])]) (fun _ => [(6, cP (6,0) 0)]) (fun _ => [((6,0), .box [jI 0, jI 0, jI 0, jI 0, jI 0, jI 0, jI 0])]) sw ?_ ?_
 · rintro ⟨⟩ hF
   refine wA rfl ?_; cases hF
   exact W_ret ⟨_, rfl, rfl, ⟨⟨⟨rfl, fun _ => rfl⟩, ⟨rfl, fun _ => rfl⟩, ⟨rfl, fun _ => rfl⟩, ⟨rfl, fun _ => rfl⟩, ⟨rfl, fun _ => rfl⟩, ⟨rfl, fun _ => rfl⟩, ⟨rfl, fun _ => rfl⟩, trivial⟩, ⟨rfl, fun _ => rfl⟩, trivial⟩, noOut _⟩
 rintro a16 x_0 hF cont_0 brk_0 fin_0
 unfold state_At_L1 at hF
 refine wA rfl ?_; refine W_seq ?_; refine wIf hF rfl (fun _ hF => ?_) fun _ hF => ?_
 · refine W_skip ?_; refine W_seq ?_; refine W_block ?_; refine wE ?_; obtain ⟨y23, hy23, hF⟩ := bB hF
   refine rS (T_ixT (tc := t_api_State) p0 rfl rfl hy23 ?_); refine QV rfl ?_; refine W_seq ?_; refine W_join (fun _ _ h => h) hF (fun v24 => [(1, cI p1), (2, cI p2), (6, cP (6,0) 0), (9, cP (9,0) 0), (10, cL 7 t_api_State p0), (11, cI (List.length p0 : Int)), (12, cI a16), (33, cB v24)]) (fun v24 => [((6,0), .box [jI 0, jI 0, jI 0, jI 0, jI 0, jI 0, jI 0]), ((9,0), .box (m_api_State y23))]) ?_ ?_
   · rintro v24 hF
     refine wIf hF rfl (fun _ hF => ?_) fun _ hF => ?_
     · refine wA rfl ?_; have hF := fin_0 _ (oi hF); cases hF
       exact W_ret ⟨_, rfl, rfl, ⟨⟨⟨rfl, fun _ => rfl⟩, ⟨rfl, fun _ => rfl⟩, ⟨rfl, fun _ => rfl⟩, ⟨rfl, fun _ => rfl⟩, ⟨rfl, fun _ => rfl⟩, ⟨rfl, fun _ => rfl⟩, ⟨rfl, fun _ => rfl⟩, trivial⟩, ⟨rfl, fun _ => rfl⟩, trivial⟩, noOut _⟩
     refine W_skip ?_; refine wB rfl ?_; exact cont_0 _ _ _ (oi hF) sw
   intro join hF
   refine wD 5 rfl ?_; cases h26 : (decide (y23.fThread = p1))
   · have hF := bF' h26 hF; refine QV rfl ?_; exact join false _ _ hF sw
   have hF := bT' h26 hF; refine Q_run SV 7 rfl ?_; cases h27 : (decide (y23.fSpan.fFrom ≤ p2))
   · have hF := bF' h27 hF; refine QV rfl ?_; exact join false _ _ hF sw
   have hF := bT' h27 hF; refine QV rfl ?_; exact join (decide (p2 < y23.fSpan.fTo)) _ _ hF sw
 refine W_exit ?_; refine thenQ_exit ?_; refine thenQ_exit ?_; refine blockQ_hit ?_; exact brk_0 _ _ _ (oi hF) sw
instance : Inhabited api_Span := ⟨{ fFrom := 0, fTo := 0 }⟩
def slices_SortFunc_api_Span_api_Span_k1 (p0 : (List api_Span)) : Option (List api_Span) := bif decide (p0.length < 4611686018427387904) then some (sortBy (fun x : api_Span => x.fFrom) p0) else none
theorem slices_SortFunc_api_Span_api_Span_k1_fun (p0 : (List api_Span)) (r : (List api_Span)) (hF : slices_SortFunc_api_Span_api_Span_k1 p0 = some r) : Fun Try.prog 43 false [(2720,0)] [cO (2720,0), .c (.fn 44 [])] (heapOf [((2720,0), .arr 31 2 (List.map t_api_Span p0))]) (.tup []) (heapOf [((2720,0), .arr 31 2 (List.map t_api_Span r))]) := by
 obtain ⟨h, hF⟩ := roomT hF
 cases hF
 exact sortFn_fun (fun x : api_Span => x.fFrom) (fun x : api_Span => x.fTo) t_api_Span (fun _ => rfl) p0 (of_decide_eq_true h) (2720,0)
def spans_Normal_L1 (r28 : (List api_Span)) : ((List api_Span) × Int) → Option (((List api_Span) × Int) ⊕ (List api_Span)) := fun (a49, a50) =>
  (bif (decide (a50 < (List.length r28 : Int))) then ((((idx r28 a50).bind fun y63 => (((bif (decide (0 < (List.length a49 : Int))) then ((idx a49 (w64 ((List.length a49 : Int) - 1))).bind fun y70 => some (decide (y63.fFrom ≤ y70.fTo))) else some false) : Option Bool).bind fun v64 => (bif v64 then ((idx a49 (w64 ((List.length a49 : Int) - 1))).bind fun y65 => ((idx a49 (w64 ((List.length a49 : Int) - 1))).bind fun y66 => some (List.set a49 (Int.toNat (w64 ((List.length a49 : Int) - 1))) ({ fFrom := y66.fFrom, fTo := (max y65.fTo y63.fTo) } : api_Span)))) else (bif room 16 (List.length a49 + List.length [y63]) then some (a49 ++ [y63]) else none)))) : Option (List api_Span)).bind fun v62 => some (.inl (v62, (w64 (a50 + 1))))) else some (.inr a49))
def spans_Normal_L2 (p0 : (List api_Span)) : ((List api_Span) × Int) → Option (((List api_Span) × Int) ⊕ (List api_Span)) := fun (a19, a20) =>
  (bif (decide (a20 < (List.length p0 : Int))) then ((((idx p0 a20).bind fun y73 => ((spans_Valid y73).bind fun r74 => (bif r74 then (bif room 16 (List.length a19 + List.length [y73]) then some (a19 ++ [y73]) else none) else some a19))) : Option (List api_Span)).bind fun v72 => some (.inl (v72, (w64 (a20 + 1))))) else some (.inr a19))
def spans_Normal (p0 : (List api_Span)) : Option (List api_Span) :=
  ((loop (spans_Normal_L2 p0) ([], 0)).bind fun e27 => ((slices_SortFunc_api_Span_api_Span_k1 e27).bind fun r28 => ((loop (spans_Normal_L1 r28) ([], 0)).bind fun e61 => some e61)))
theorem spans_Normal_fun (p0 : (List api_Span)) (r : (List api_Span)) (hF : spans_Normal p0 = some r) : Fun Try.prog 36 false [] [cL 2 t_api_Span p0] (heapOf []) (cO (902,1440)) (heapOf [((902,1440), .arr 31 2 (List.map t_api_Span r))]) := by
 refine Fun.of_walkM [] (some []) Try.func36 c36 (by kernel_rfl) (rs := [.tmp 2]) (by kernel_rfl) rfl rfl rfl ?_; unfold v36
 unfold spans_Normal at hF
 refine wA rfl ?_; refine wA rfl ?_; refine W_seq ?_; refine wC 1 rfl ?_; refine rS (T_len (tc := t_api_Span) p0 .tree ?_); refine QV rfl ?_; refine W_for (fun _ _ h => h) hF (id) (fun (a19, a20) => [(3, cO (21,1)), (4, .c (.nilS)), (10, cL 2 t_api_Span p0), (11, cI (List.length p0 : Int)), (12, cI a20)]) (fun (a19, a20) => [((21,1), .arr 31 2 (List.map t_api_Span a19))]) (fun e27 => [(3, cO (21,1)), (4, .c (.nilS))]) (fun e27 => [((21,1), .arr 31 2 (List.map t_api_Span e27))]) (S_own 3 (21,1) 31 2 rfl rfl rfl rfl sw) ?_ ?_
 · rintro e27 hF
   refine wC 1 rfl ?_; obtain ⟨r28, hr28, hF⟩ := bB hF
   refine R_stepX trivial (X_callG [((2720,0),(21,1))] rfl (callN _) (slices_SortFunc_api_Span_api_Span_k1_fun _ _ hr28) ⟨rfl, trivial⟩ ⟨.inl rfl, .inl rfl, trivial⟩ rfl rfl rfl ?_); refine QV rfl ?_; refine W_seq ?_
   refine wC 1 rfl ?_; refine rS (T_len (tc := t_api_Span) r28 (.own _ _ rfl) ?_); refine QV rfl ?_; refine W_for (fun _ _ h => h) hF (id) (fun (a49, a50) => [(4, cO (63,1)), (25, cO (21,1)), (26, cI (List.length r28 : Int)), (27, cI a50)]) (fun (a49, a50) => [((63,1), .arr 31 2 (List.map t_api_Span a49)), ((21,1), .arr 31 2 (List.map t_api_Span r28))]) (fun e61 => [(4, cO (63,1))]) (fun e61 => [((63,1), .arr 31 2 (List.map t_api_Span e61))]) (S_own 4 (63,1) 31 2 rfl rfl rfl rfl sw) ?_ ?_
   · rintro e61 hF
     refine wA rfl ?_; cases hF
     exact W_ret ⟨_, _, (S_ren (63,1) (902,1440) rfl rfl S_refl), _, rfl, rfl, rfl, (AgM.weak ⟨rfl, trivial⟩)⟩
   rintro ⟨a49, a50⟩ x_0 hF cont_0 brk_0 fin_0
   unfold spans_Normal_L1 at hF
   refine wA rfl ?_; refine W_seq ?_; refine wIf hF rfl (fun _ hF => ?_) fun _ hF => ?_
   · refine W_skip ?_; refine W_seq ?_; refine W_join (fun _ _ h => h) hF (fun v62 => [(4, cO (63,1)), (25, cO (21,1)), (26, cI (List.length r28 : Int)), (27, cI a50)]) (fun v62 => [((63,1), .arr 31 2 (List.map t_api_Span v62)), ((21,1), .arr 31 2 (List.map t_api_Span r28))]) ?_ ?_
     · rintro v62 hF
       refine wB rfl ?_; exact cont_0 _ _ _ (oi hF) sw
     intro join hF
     refine W_block ?_; refine wE ?_; obtain ⟨y63, hy63, hF⟩ := bB' hF
     refine rS (T_ixO (tc := t_api_Span) r28 rfl rfl rfl hy63 ?_); refine rS (T_ldE (tc := t_api_Span) r28 rfl rfl (idx_get hy63).2.1 rfl ?_); refine QV rfl ?_; refine wC 1 rfl ?_; refine rS (T_len (tc := t_api_Span) a49 (.own _ _ rfl) ?_)
     refine QV rfl ?_; refine W_seq ?_; have hF := bA hF; refine W_join (fun _ _ h => h) hF (fun v64 => [(4, cO (63,1)), (8, cP (8,0) 0), (9, cI (List.length a49 : Int)), (25, cO (21,1)), (26, cI (List.length r28 : Int)), (27, cI a50), (45, cB v64)]) (fun v64 => [((63,1), .arr 31 2 (List.map t_api_Span a49)), ((8,0), .box [jI y63.fFrom, jI y63.fTo]), ((21,1), .arr 31 2 (List.map t_api_Span r28))]) ?_ ?_
     · rintro v64 hF
       refine wIf' hF rfl (fun _ hF => ?_) fun _ hF => ?_
       · refine W_regD (by decide) (by kernel_rfl) rfl ?_; refine Q_run SP 6 rfl ?_; obtain ⟨y65, hy65, hF⟩ := bB' hF
         refine R_step SP trivial (T_ixO (tc := t_api_Span) a49 rfl rfl rfl hy65 ?_); refine Q_run SP 1 rfl ?_; refine R_step SP trivial (T_ldE (tc := t_api_Span) a49 rfl rfl (idx_get hy65).2.1 rfl ?_); refine Q_run SP 3 rfl ?_
         obtain ⟨y66, hy66, hF⟩ := bB' hF
         refine R_step SP trivial (T_ixO (tc := t_api_Span) a49 rfl rfl rfl hy66 ?_); refine Q_run SP 1 rfl ?_; refine R_step SP trivial (T_stE (tc := t_api_Span) a49 ({ fFrom := y66.fFrom, fTo := (max y65.fTo y63.fTo) } : api_Span) rfl rfl (idx_get hy66).2.1 rfl rfl rfl rfl rfl ?_)
         refine QP rfl ?_; exact join (List.set a49 (Int.toNat (w64 ((List.length a49 : Int) - 1))) ({ fFrom := y66.fFrom, fTo := (max y65.fTo y63.fTo) } : api_Span)) _ _ hF sw
       refine wD 2 rfl ?_; refine rS (T_bsl (tc := t_api_Span) [y63] rfl ⟨rfl, rfl, trivial⟩ rfl (fun _ => rfl) rfl ?_)
       obtain ⟨h67, hF⟩ := roomT' hF
       refine rS (T_appO (tc := t_api_Span) a49 [y63] rfl rfl (.own _ _ rfl) h67 rfl ?_); refine QV rfl ?_; exact join (a49 ++ [y63]) _ _ hF (S_ren (63,0) (63,1) rfl rfl sw)
     intro join hF
     refine W_regD (by decide) (by kernel_rfl) rfl ?_; refine Q_run SP 3 rfl ?_; cases h69 : (decide (0 < (List.length a49 : Int)))
     · have hF := bF' h69 hF; refine QP rfl ?_; exact join false _ _ hF sw
     have hF := bT' h69 hF; refine Q_run SP 5 rfl ?_; obtain ⟨y70, hy70, hF⟩ := bB' hF
     refine R_step SP rfl (T_ixO (tc := t_api_Span) a49 rfl rfl rfl hy70 ?_); refine Q_run SP 1 rfl ?_; refine R_step SP rfl (T_ldE (tc := t_api_Span) a49 rfl rfl (idx_get hy70).2.1 rfl ?_); refine QP rfl ?_
     exact join (decide (y63.fFrom ≤ y70.fTo)) _ _ hF sw
   refine W_exit ?_; refine thenQ_exit ?_; refine thenQ_exit ?_; refine blockQ_hit ?_; exact brk_0 _ _ _ (oi hF) sw
 rintro ⟨a19, a20⟩ x_0 hF cont_0 brk_0 fin_0
 unfold spans_Normal_L2 at hF
 refine wA rfl ?_; refine W_seq ?_; refine wIf hF rfl (fun _ hF => ?_) fun _ hF => ?_
 · refine W_skip ?_; refine W_seq ?_; refine W_join (fun _ _ h => h) hF (fun v72 => [(3, cO (21,1)), (4, .c (.nilS)), (10, cL 2 t_api_Span p0), (11, cI (List.length p0 : Int)), (12, cI a20)]) (fun v72 => [((21,1), .arr 31 2 (List.map t_api_Span v72))]) ?_ ?_
   · rintro v72 hF
     refine wB rfl ?_; exact cont_0 _ _ _ (oi hF) sw
   intro join hF
   refine W_block ?_; refine wE ?_; obtain ⟨y73, hy73, hF⟩ := bB' hF
   refine rS (T_ixT (tc := t_api_Span) p0 rfl rfl hy73 ?_); refine QV rfl ?_; refine wC 1 rfl ?_; obtain ⟨r74, hr74, hF⟩ := bB' hF
   refine rS (T_call (spans_Valid_fun _ _ hr74) ⟨⟨rfl, rfl, trivial⟩, trivial⟩ rfl (.inl rfl) ?_); refine QV rfl ?_; refine wIf' hF rfl (fun _ hF => ?_) fun _ hF => ?_
   · refine wD 2 rfl ?_; refine rS (T_bsl (tc := t_api_Span) [y73] rfl ⟨rfl, rfl, trivial⟩ rfl (fun _ => rfl) rfl ?_)
     obtain ⟨h75, hF⟩ := roomT' hF
     refine rS (T_appO (tc := t_api_Span) a19 [y73] rfl rfl (.own _ _ rfl) h75 rfl ?_); refine QV rfl ?_; exact join (a19 ++ [y73]) _ _ hF (S_ren (21,0) (21,1) rfl rfl sw)
   refine W_skip ?_; exact join a19 _ _ hF sw
 refine W_exit ?_; refine thenQ_exit ?_; refine thenQ_exit ?_; refine blockQ_hit ?_; exact brk_0 _ _ _ (oi hF) sw
def state_Running_L1 (p0 : (List api_State)) (p1 : Int) : ((List api_Span) × Int) → Option (((List api_Span) × Int) ⊕ (List api_Span)) := fun (a21, a22) =>
  (bif (decide (a22 < (List.length p0 : Int))) then ((((idx p0 a22).bind fun y33 => (((bif (decide (y33.fState = 4)) then some (decide (y33.fCpu = p1)) else some false) : Option Bool).bind fun v34 => (bif v34 then (bif room 16 (List.length a21 + List.length [y33.fSpan]) then some (a21 ++ [y33.fSpan]) else none) else some a21))) : Option (List api_Span)).bind fun v32 => some (.inl (v32, (w64 (a22 + 1))))) else some (.inr a21))
def state_Running (p0 : (List api_State)) (p1 : Int) : Option (List api_Span) :=
  ((loop (state_Running_L1 p0 p1) ([], 0)).bind fun e30 => ((spans_Normal e30).bind fun r31 => some r31))
theorem state_Running_fun (p0 : (List api_State)) (p1 : Int) (r : (List api_Span)) (hF : state_Running p0 p1 = some r) : Fun Try.prog 19 false [] [cL 7 t_api_State p0, cI p1] (heapOf []) (cO (902,760)) (heapOf [((902,760), .arr 31 2 (List.map t_api_Span r))]) := by
 refine Fun.of_walkM [] (some []) Try.func19 c19 (by kernel_rfl) (rs := [.tmp 4]) (by kernel_rfl) rfl rfl rfl ?_; unfold v19
 unfold state_Running at hF
 refine wA rfl ?_; refine wA rfl ?_; refine W_seq ?_; refine wC 1 rfl ?_; refine rS (T_len (tc := t_api_State) p0 .tree ?_); refine QV rfl ?_; refine W_for (fun _ _ h => h) hF (id) (fun (a21, a22) => [(1, cI p1), (5, cO (27,1)), (8, cL 7 t_api_State p0), (9, cI (List.length p0 : Int)), (10, cI a22)]) (fun (a21, a22) => [((27,1), .arr 31 2 (List.map t_api_Span a21))]) (fun e30 => [(5, cO (27,1))]) (fun e30 => [((27,1), .arr 31 2 (List.map t_api_Span e30))]) (S_own 5 (27,1) 31 2 rfl rfl rfl rfl sw) ?_ ?_
 · rintro e30 hF
   refine wC 1 rfl ?_; obtain ⟨r31, hr31, hF⟩ := bB hF
   refine R_stepX trivial (X_callL [((902,1440),(30,1))] rfl (callN _) (spans_Normal_fun _ _ hr31) trivial ⟨.inr ⟨_, rfl⟩, trivial⟩ rfl rfl rfl rfl ⟨(flatArr fun _ => rfl), trivial⟩ ?_)
   refine QV rfl ?_; cases hF
   exact W_ret ⟨_, _, (S_ren (30,1) (902,760) rfl rfl S_refl), _, rfl, rfl, rfl, (AgM.weak ⟨rfl, trivial⟩)⟩
 rintro ⟨a21, a22⟩ x_0 hF cont_0 brk_0 fin_0
 unfold state_Running_L1 at hF
 refine wA rfl ?_; refine W_seq ?_; refine wIf hF rfl (fun _ hF => ?_) fun _ hF => ?_
 · refine W_skip ?_; refine W_seq ?_; refine W_join (fun _ _ h => h) hF (fun v32 => [(1, cI p1), (5, cO (27,1)), (8, cL 7 t_api_State p0), (9, cI (List.length p0 : Int)), (10, cI a22)]) (fun v32 => [((27,1), .arr 31 2 (List.map t_api_Span v32))]) ?_ ?_
   · rintro v32 hF
     refine wB rfl ?_; exact cont_0 _ _ _ (oi hF) sw
   intro join hF
   refine W_block ?_; refine wE ?_; obtain ⟨y33, hy33, hF⟩ := bB' hF
   refine rS (T_ixT (tc := t_api_State) p0 rfl rfl hy33 ?_); refine QV rfl ?_; refine W_seq ?_; have hF := bA hF; refine W_join (fun _ _ h => h) hF (fun v34 => [(1, cI p1), (5, cO (27,1)), (7, cP (7,0) 0), (8, cL 7 t_api_State p0), (9, cI (List.length p0 : Int)), (10, cI a22), (22, cB v34)]) (fun v34 => [((27,1), .arr 31 2 (List.map t_api_Span a21)), ((7,0), .box (m_api_State y33))]) ?_ ?_
   · rintro v34 hF
     refine wIf' hF rfl (fun _ hF => ?_) fun _ hF => ?_
     · refine wD 3 rfl ?_; refine rS (T_bsl (tc := t_api_Span) [y33.fSpan] rfl ⟨rfl, rfl, trivial⟩ rfl (fun _ => rfl) rfl ?_)
       obtain ⟨h35, hF⟩ := roomT' hF
       refine rS (T_appO (tc := t_api_Span) a21 [y33.fSpan] rfl rfl (.own _ _ rfl) h35 rfl ?_); refine QV rfl ?_; exact join (a21 ++ [y33.fSpan]) _ _ hF (S_ren (27,0) (27,1) rfl rfl sw)
     refine W_skip ?_; exact join a21 _ _ hF sw
   intro join hF
   refine wD 4 rfl ?_; cases h37 : (decide (y33.fState = 4))
   · have hF := bF' h37 hF; refine QV rfl ?_; exact join false _ _ hF sw
   have hF := bT' h37 hF; refine QV rfl ?_; exact join (decide (y33.fCpu = p1)) _ _ hF sw
 refine W_exit ?_; refine thenQ_exit ?_; refine thenQ_exit ?_; refine blockQ_hit ?_; exact brk_0 _ _ _ (oi hF) sw
def spans_Covers_1_k1 (p0 : api_Span) (p1 : Int) : Option Bool :=
  ((((spans_Valid p0).bind fun r2 => (bif r2 then (bif (decide (p0.fFrom ≤ p1)) then some (decide (p1 < p0.fTo)) else some false) else some false)) : Option Bool).bind fun v1 => some v1)
theorem spans_Covers_1_k1_fun (p0 : api_Span) (p1 : Int) (r : Bool) (hF : spans_Covers_1_k1 p0 p1 = some r) : Fun Try.prog 35 true [] [.agg [jI p0.fFrom, jI p0.fTo], .c (.ptrI [tI p1])] noHeap (cB r) noHeap := by
 refine Fun.of_walk0 Try.func35 c35 (by kernel_rfl) (rs := [.tmp 3]) (by kernel_rfl) ?_; unfold v35
 unfold spans_Covers_1_k1 at hF
 refine wA rfl ?_; refine W_seq ?_; refine W_join (fun _ _ h => h) hF (fun v1 => [(3, cB v1)]) (fun v1 => []) ?_ ?_
 · rintro v1 hF
   cases hF
   exact W_ret wR
 intro join hF
 refine wD 1 rfl ?_; obtain ⟨r2, hr2, hF⟩ := bB' hF
 refine rS (T_call (spans_Valid_fun _ _ hr2) ⟨⟨rfl, rfl, trivial⟩, trivial⟩ rfl (.inl rfl) ?_); refine Q_run SV 1 rfl ?_; cases h3 : r2
 · have hF := bF' h3 hF; refine QV rfl ?_; exact join false _ _ hF sw
 have hF := bT' h3 hF; refine Q_run SV 6 rfl ?_; cases h4 : (decide (p0.fFrom ≤ p1))
 · have hF := bF' h4 hF; refine QV rfl ?_; exact join false _ _ hF sw
 have hF := bT' h4 hF; refine QV rfl ?_; exact join (decide (p1 < p0.fTo)) _ _ hF sw
def slices_IndexFunc_api_Span_api_Span_k1_L1 (p0 : (List api_Span)) (p1_0 : Int) : Int → Option (Int ⊕ (Unit ⊕ Int)) := fun a12 =>
  (bif (decide (a12 < (List.length p0 : Int))) then ((idx p0 a12).bind fun y17 => ((spans_Covers_1_k1 y17 p1_0).bind fun r18 => (bif r18 then some (.inr (.inr a12)) else some (.inl (w64 (a12 + 1)))))) else some (.inr (.inl ())))
def slices_IndexFunc_api_Span_api_Span_k1 (p0 : (List api_Span)) (p1_0 : Int) : Option Int :=
  ((loop (slices_IndexFunc_api_Span_api_Span_k1_L1 p0 p1_0) 0).bind fun | .inl _ => some (-1) | .inr rv => some rv)
theorem slices_IndexFunc_api_Span_api_Span_k1_fun (p0 : (List api_Span)) (p1_0 : Int) (r : Int) (hF : slices_IndexFunc_api_Span_api_Span_k1 p0 p1_0 = some r) : Fun Try.prog 42 false [(2680,0)] [cL 2 t_api_Span p0, .c (.fn 35 [.ptr (2680,0)])] (heapOf [((2680,0), .box [jI p1_0])]) (cI r) (heapOf [((2680,0), .box [jI p1_0])]) := by
 refine Fun.of_walkM [(2680,0)] (some [(2680,0)]) Try.func42 c42 (by kernel_rfl) (rs := [.tmp 4]) (by kernel_rfl) rfl rfl rfl ?_; unfold v42
 unfold slices_IndexFunc_api_Span_api_Span_k1 at hF
 refine wA rfl ?_; refine W_seq ?_; refine wC 1 rfl ?_; refine rS (T_len (tc := t_api_Span) p0 .tree ?_); refine QV rfl ?_; refine W_for (fun _ _ h => h) hF (.inl) (fun a12 => [(0, cL 2 t_api_Span p0), (1, .c (.fn 35 [.ptr (2680,0)])), (7, cI (List.length p0 : Int)), (8, cI a12)]) (fun a12 => [((2680,0), .box [jI p1_0])]) (fun _ => []) (fun _ => [((2680,0), .box [jI p1_0])]) sw ?_ ?_
 · rintro ⟨⟩ hF
   refine wA rfl ?_; cases hF
   exact W_ret ⟨_, _, S_refl, _, rfl, rfl, ⟨rfl, fun _ => rfl⟩, (AgM.weak ⟨rfl, trivial⟩)⟩
 rintro a12 x_0 hF cont_0 brk_0 fin_0
 unfold slices_IndexFunc_api_Span_api_Span_k1_L1 at hF
 refine wA rfl ?_; refine W_seq ?_; refine wIf hF rfl (fun _ hF => ?_) fun _ hF => ?_
 · refine W_skip ?_; refine W_seq ?_; refine W_block ?_; refine wA rfl ?_; refine wC 3 rfl ?_; obtain ⟨y17, hy17, hF⟩ := bB hF
   refine rS (T_ixT (tc := t_api_Span) p0 rfl rfl hy17 ?_); refine Q_run SV 1 rfl ?_; obtain ⟨r18, hr18, hF⟩ := bB hF
   refine R_stepX trivial (X_call (callW _ rfl fnOk35) (spans_Covers_1_k1_fun _ _ _ hr18) ⟨⟨rfl, rfl, trivial⟩, ⟨_, rfl, ⟨rfl, trivial⟩⟩, trivial⟩ rfl (.inl rfl) ?_); refine QV rfl ?_; refine wIf hF rfl (fun _ hF => ?_) fun _ hF => ?_
   · refine wA rfl ?_; have hF := fin_0 _ (oi hF); cases hF
     exact W_ret ⟨_, _, S_refl, _, rfl, rfl, ⟨rfl, fun _ => rfl⟩, (AgM.weak ⟨rfl, trivial⟩)⟩
   refine W_skip ?_; refine wB rfl ?_; exact cont_0 _ _ _ (oi hF) sw
 refine W_exit ?_; refine thenQ_exit ?_; refine thenQ_exit ?_; refine blockQ_hit ?_; exact brk_0 _ _ _ (oi hF) sw
def slices_ContainsFunc_api_Span_api_Span_k1 (p0 : (List api_Span)) (p1_0 : Int) : Option Bool :=
  ((slices_IndexFunc_api_Span_api_Span_k1 p0 p1_0).bind fun r1 => some (decide (0 ≤ r1)))
theorem slices_ContainsFunc_api_Span_api_Span_k1_fun (p0 : (List api_Span)) (p1_0 : Int) (r : Bool) (hF : slices_ContainsFunc_api_Span_api_Span_k1 p0 p1_0 = some r) : Fun Try.prog 34 false [(2360,0)] [cL 2 t_api_Span p0, .c (.fn 35 [.ptr (2360,0)])] (heapOf [((2360,0), .box [jI p1_0])]) (cB r) (heapOf [((2360,0), .box [jI p1_0])]) := by
 refine Fun.of_walkM [(2360,0)] (some [(2360,0)]) Try.func34 c34 (by kernel_rfl) (rs := [.tmp 4]) (by kernel_rfl) rfl rfl rfl ?_; unfold v34
 unfold slices_ContainsFunc_api_Span_api_Span_k1 at hF
 refine wA rfl ?_; refine wC 2 rfl ?_; obtain ⟨r1, hr1, hF⟩ := bB hF
 refine rS (T_callO [((2680,0),(2360,0))] rfl (slices_IndexFunc_api_Span_api_Span_k1_fun _ _ _ hr1) ⟨rfl, trivial⟩ rfl rfl (.inr ⟨.inl rfl, .inl rfl, trivial⟩) ?_); refine QV rfl ?_; cases hF
 exact W_ret ⟨_, _, S_refl, _, rfl, rfl, ⟨rfl, fun _ => rfl⟩, (AgM.weak ⟨rfl, trivial⟩)⟩
def spans_Covers (p0 : (List api_Span)) (p1 : Int) : Option Bool :=
  ((slices_ContainsFunc_api_Span_api_Span_k1 p0 p1).bind fun r1 => some r1)
theorem spans_Covers_fun (p0 : (List api_Span)) (p1 : Int) (r : Bool) (hF : spans_Covers p0 p1 = some r) : Fun Try.prog 18 true [] [cL 2 t_api_Span p0, cI p1] noHeap (cB r) noHeap := by
 refine Fun.of_walk0 Try.func18 c18 (by kernel_rfl) (rs := [.tmp 4]) (by kernel_rfl) ?_; unfold v18
 unfold spans_Covers at hF
 refine wA rfl ?_; refine wC 2 rfl ?_; obtain ⟨r1, hr1, hF⟩ := bB hF
 refine rS (T_callO [((2360,0),(3,0))] rfl (slices_ContainsFunc_api_Span_api_Span_k1_fun _ _ _ hr1) ⟨rfl, trivial⟩ rfl rfl (.inr ⟨.inl rfl, .inl rfl, trivial⟩) ?_); refine QV rfl ?_; cases hF
 exact W_ret wR
def tracebooklaw27_StateRuns_L1 (p0 : (List api_Thread)) (p3 : Int) (p4 : Int) (r3 : (List api_State)) : (Bool × Int) → Option ((Bool × Int) ⊕ Bool) := fun (a28, a29) =>
  (bif (decide (a29 < (List.length p0 : Int))) then ((((idx p0 a29).bind fun y44 => ((state_At r3 y44.fId p4).bind fun r45 => (bif a28 then some true else (bif r45.2 then (bif (decide (r45.1.fState = 4)) then some (decide (r45.1.fCpu = p3)) else some false) else some false)))) : Option Bool).bind fun v43 => some (.inl (v43, (w64 (a29 + 1))))) else some (.inr a28))
def tracebooklaw27_StateRuns (p0 : (List api_Thread)) (p1 : (List api_Timed)) (p2 : Int) (p3 : Int) (p4 : Int) : Option Bool :=
  ((tracebooklaw27_light p0 p1).bind fun r1 => (bif (!r1) then ((tracebooklaw27_awake ).bind fun r2 => some r2) else ((state_Of p0 p1 p2).bind fun r3 => ((loop (tracebooklaw27_StateRuns_L1 p0 p3 p4 r3) (false, 0)).bind fun e37 => ((((state_Running r3 p3).bind fun r39 => ((spans_Covers r39 p4).bind fun r40 => (bif (decide (r40 = e37) != false) then ((tracebooklaw27_awake ).bind fun r42 => some r42) else some false))) : Option Bool).bind fun v38 => some v38)))))
theorem tracebooklaw27_StateRuns_fun (p0 : (List api_Thread)) (p1 : (List api_Timed)) (p2 : Int) (p3 : Int) (p4 : Int) (r : Bool) (hF : tracebooklaw27_StateRuns p0 p1 p2 p3 p4 = some r) : Fun Try.prog 6 true [] [cL 3 t_api_Thread p0, cL 10 t_api_Timed p1, cI p2, cI p3, cI p4] noHeap (cB r) noHeap := by
 refine Fun.of_walk0 Try.func6 c6 (by kernel_rfl) (rs := [.tmp 10]) (by kernel_rfl) ?_; unfold v6
 unfold tracebooklaw27_StateRuns at hF
 refine wA rfl ?_; refine W_seq ?_; refine wC 2 rfl ?_; obtain ⟨r1, hr1, hF⟩ := bB hF
 refine rS (T_call (tracebooklaw27_light_fun _ _ _ hr1) ⟨rfl, rfl, trivial⟩ rfl (.inl rfl) ?_); refine QV rfl ?_; refine wIf hF rfl (fun _ hF => ?_) fun _ hF => ?_
 · refine wE ?_; obtain ⟨r2, hr2, hF⟩ := bB hF
   refine rS (T_call (tracebooklaw27_awake_fun _ hr2) trivial rfl (.inl rfl) ?_); refine QV rfl ?_; cases hF
   exact W_ret wR
 refine W_skip ?_; refine wC 3 rfl ?_; obtain ⟨r3, hr3, hF⟩ := bB hF
 refine R_stepX trivial (X_callG [((902,400),(25,1))] rfl (callN _) (state_Of_fun _ _ _ _ hr3) trivial ⟨.inl rfl, .inl rfl, .inl rfl, trivial⟩ rfl rfl rfl ?_); refine QV rfl ?_; refine wA rfl ?_; refine W_seq ?_
 refine wC 1 rfl ?_; refine rS (T_len (tc := t_api_Thread) p0 .tree ?_); refine QV rfl ?_; refine W_for (fun _ _ h => h) hF (id) (fun (a28, a29) => [(3, cI p3), (4, cI p4), (11, cO (25,1)), (12, cB a28), (26, cL 3 t_api_Thread p0), (27, cI (List.length p0 : Int)), (28, cI a29)]) (fun (a28, a29) => [((25,1), .arr 42 7 (List.map t_api_State r3))]) (fun e37 => [(3, cI p3), (4, cI p4), (11, cO (25,1)), (12, cB e37)]) (fun e37 => [((25,1), .arr 42 7 (List.map t_api_State r3))]) sw ?_ ?_
 · rintro e37 hF
   refine W_seq ?_; refine W_join (fun _ _ h => h) hF (fun v38 => [(10, cB v38)]) (fun v38 => []) ?_ ?_
   · rintro v38 hF
     cases hF
     exact W_ret wR
   intro join hF
   refine wD 2 rfl ?_; obtain ⟨r39, hr39, hF⟩ := bB' hF
   refine R_stepX trivial (X_callL [((902,760),(58,1))] rfl (callN _) (state_Running_fun _ _ _ hr39) trivial ⟨.inr ⟨_, rfl⟩, .inr rfl, trivial⟩ rfl rfl rfl rfl ⟨(flatArr fun _ => rfl), trivial⟩ ?_)
   refine Q_run SV 1 rfl ?_; obtain ⟨r40, hr40, hF⟩ := bB' hF
   refine rS (T_call (spans_Covers_fun _ _ _ hr40) ⟨⟨_, rfl⟩, rfl, trivial⟩ rfl (.inl rfl) ?_); refine Q_run SV 3 rfl ?_; cases h41 : (decide (r40 = e37) != false)
   · have hF := bF' h41 hF; refine QV rfl ?_; exact join false _ _ hF sw
   have hF := bT' h41 hF; obtain ⟨r42, hr42, hF⟩ := bB' hF
   refine R_step SV rfl (T_call (tracebooklaw27_awake_fun _ hr42) trivial rfl (.inl rfl) ?_); refine QV rfl ?_; exact join r42 _ _ hF sw
 rintro ⟨a28, a29⟩ x_0 hF cont_0 brk_0 fin_0
 unfold tracebooklaw27_StateRuns_L1 at hF
 refine wA rfl ?_; refine W_seq ?_; refine wIf hF rfl (fun _ hF => ?_) fun _ hF => ?_
 · refine W_skip ?_; refine W_seq ?_; refine W_join (fun _ _ h => h) hF (fun v43 => [(3, cI p3), (4, cI p4), (11, cO (25,1)), (12, cB v43), (26, cL 3 t_api_Thread p0), (27, cI (List.length p0 : Int)), (28, cI a29)]) (fun v43 => [((25,1), .arr 42 7 (List.map t_api_State r3))]) ?_ ?_
   · rintro v43 hF
     refine wB rfl ?_; exact cont_0 _ _ _ (oi hF) sw
   intro join hF
   refine W_block ?_; refine wE ?_; obtain ⟨y44, hy44, hF⟩ := bB' hF
   refine rS (T_ixT (tc := t_api_Thread) p0 rfl rfl hy44 ?_); refine QV rfl ?_; refine wC 4 rfl ?_; obtain ⟨r45, hr45, hF⟩ := bB' hF
   refine rS (T_call (state_At_fun _ _ _ _ hr45) ⟨⟨_, rfl⟩, rfl, rfl, trivial⟩ rfl (.inl rfl) ?_); refine QV rfl ?_; refine wD 2 rfl ?_; cases h46 : a28
   · have hF := bF' h46 hF; refine Q_run SV 2 rfl ?_; cases h47 : r45.2
     · have hF := bF' h47 hF; refine QV rfl ?_; exact join false _ _ hF sw
     have hF := bT' h47 hF; refine Q_run SV 5 rfl ?_; cases h48 : (decide (r45.1.fState = 4))
     · have hF := bF' h48 hF; refine QV rfl ?_; exact join false _ _ hF sw
     have hF := bT' h48 hF; refine QV rfl ?_; exact join (decide (r45.1.fCpu = p3)) _ _ hF sw
   have hF := bT' h46 hF; refine QV rfl ?_; exact join true _ _ hF sw
 refine W_exit ?_; refine thenQ_exit ?_; refine thenQ_exit ?_; refine blockQ_hit ?_; exact brk_0 _ _ _ (oi hF) sw
end Go.VM
