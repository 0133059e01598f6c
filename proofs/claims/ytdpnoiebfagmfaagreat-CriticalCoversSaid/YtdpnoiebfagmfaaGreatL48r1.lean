/- What the functions of the law compute, each with its proof. -/
import Derived.Test.YtdpnoiebfagmfaaGreatSrt
import Derived.Test.YtdpnoiebfagmfaaGreatRows
import Derived.KernelRfl
import Derived.Lib.Bytealg
import Derived.Laws.Externs
import Derived.WalkKit
namespace Go.VM
open Go.Proofs Go.Proofs.YtdpnoiebfagmfaaGreat
open Go.RowKit
set_option maxRecDepth 100000
set_option maxHeartbeats 4000000
structure api_Span where
  fFrom : Int
  fTo : Int
  deriving DecidableEq
structure api_Thread where
  fId : Int
  fName : ByteArray
  fDomain : Int
  deriving DecidableEq
abbrev m_api_Thread (x : api_Thread) : List C := [.imm (tI x.fId), .imm (.sc (.string x.fName)), .imm (tI x.fDomain)]
structure api_Slice where
  fThread : Int
  fParent : Int
  fDepth : Int
  fName : ByteArray
  fSpan : api_Span
  fSelf : Int
  fOpen : Bool
  deriving DecidableEq
abbrev m_api_Slice (x : api_Slice) : List C := [.imm (tI x.fThread), .imm (tI x.fParent), .imm (tI x.fDepth), .imm (.sc (.string x.fName)), .imm (tI x.fSpan.fFrom), .imm (tI x.fSpan.fTo), .imm (tI x.fSelf), .imm (.sc (.bool x.fOpen))]
structure api_State where
  fThread : Int
  fState : Int
  fSpan : api_Span
  fCpu : Int
  fOn : Int
  fBy : Int
  deriving DecidableEq
abbrev m_api_State (x : api_State) : List C := [.imm (tI x.fThread), .imm (tI x.fState), .imm (tI x.fSpan.fFrom), .imm (tI x.fSpan.fTo), .imm (tI x.fCpu), .imm (tI x.fOn), .imm (tI x.fBy)]
structure api_Id where
  fThread : Int
  fSerial : Int
  deriving DecidableEq
structure api_Flow where
  fId : Int
  fFrom : api_Id
  fTo : api_Id
  fSend : Int
  fRecv : Int
  deriving DecidableEq
abbrev m_api_Flow (x : api_Flow) : List C := [.imm (tI x.fId), .imm (tI x.fFrom.fThread), .imm (tI x.fFrom.fSerial), .imm (tI x.fTo.fThread), .imm (tI x.fTo.fSerial), .imm (tI x.fSend), .imm (tI x.fRecv)]
structure api_Sample where
  fThread : Int
  fAt : Int
  fWeight : Int
  fStack : (List ByteArray)
  deriving DecidableEq
structure api_Step where
  fName : ByteArray
  fAt : Int
  fValue : Int
  deriving DecidableEq
abbrev m_api_Step (x : api_Step) : List C := [.imm (.sc (.string x.fName)), .imm (tI x.fAt), .imm (tI x.fValue)]
structure api_Block where
  fId : Int
  fThread : Int
  fSize : Int
  fSpan : api_Span
  fStack : (List ByteArray)
  fLive : Bool
  deriving DecidableEq
structure api_Loss where
  fThread : Int
  fSpan : api_Span
  fCount : Int
  deriving DecidableEq
structure api_Trace where
  fSpan : api_Span
  fThreads : (List api_Thread)
  fSlices : (List api_Slice)
  fStates : (List api_State)
  fFlows : (List api_Flow)
  fSamples : (List api_Sample)
  fSteps : (List api_Step)
  fBlocks : (List api_Block)
  fLost : (List api_Loss)
  deriving DecidableEq
def t_api_Thread (x : api_Thread) : List T := [tI x.fId, .sc (.string x.fName), tI x.fDomain]
def t_api_Slice (x : api_Slice) : List T := [tI x.fThread, tI x.fParent, tI x.fDepth, .sc (.string x.fName), tI x.fSpan.fFrom, tI x.fSpan.fTo, tI x.fSelf, .sc (.bool x.fOpen)]
def t_api_State (x : api_State) : List T := [tI x.fThread, tI x.fState, tI x.fSpan.fFrom, tI x.fSpan.fTo, tI x.fCpu, tI x.fOn, tI x.fBy]
def t_api_Flow (x : api_Flow) : List T := [tI x.fId, tI x.fFrom.fThread, tI x.fFrom.fSerial, tI x.fTo.fThread, tI x.fTo.fSerial, tI x.fSend, tI x.fRecv]
def t_str (x : ByteArray) : List T := [.sc (.string x)]
abbrev m_api_Block (x : api_Block) : List C := [.imm (tI x.fId), .imm (tI x.fThread), .imm (tI x.fSize), .imm (tI x.fSpan.fFrom), .imm (tI x.fSpan.fTo), .imm (.sl 1 (List.map t_str x.fStack)), .imm (.sc (.bool x.fLive))]
abbrev m_api_Sample (x : api_Sample) : List C := [.imm (tI x.fThread), .imm (tI x.fAt), .imm (tI x.fWeight), .imm (.sl 1 (List.map t_str x.fStack))]
def t_api_Sample (x : api_Sample) : List T := [tI x.fThread, tI x.fAt, tI x.fWeight, .sl 1 (List.map t_str x.fStack)]
def t_api_Step (x : api_Step) : List T := [.sc (.string x.fName), tI x.fAt, tI x.fValue]
def t_api_Block (x : api_Block) : List T := [tI x.fId, tI x.fThread, tI x.fSize, tI x.fSpan.fFrom, tI x.fSpan.fTo, .sl 1 (List.map t_str x.fStack), .sc (.bool x.fLive)]
def t_api_Loss (x : api_Loss) : List T := [tI x.fThread, tI x.fSpan.fFrom, tI x.fSpan.fTo, tI x.fCount]
abbrev m_api_Trace (x : api_Trace) : List C := [.imm (tI x.fSpan.fFrom), .imm (tI x.fSpan.fTo), .imm (.sl 3 (List.map t_api_Thread x.fThreads)), .imm (.sl 8 (List.map t_api_Slice x.fSlices)), .imm (.sl 7 (List.map t_api_State x.fStates)), .imm (.sl 7 (List.map t_api_Flow x.fFlows)), .imm (.sl 4 (List.map t_api_Sample x.fSamples)), .imm (.sl 3 (List.map t_api_Step x.fSteps)), .imm (.sl 7 (List.map t_api_Block x.fBlocks)), .imm (.sl 4 (List.map t_api_Loss x.fLost))]
def t_i64 (x : Int) : List T := [tI x]
structure api_Hop where
  fThread : Int
  fState : Int
  fSpan : api_Span
  deriving DecidableEq
abbrev m_api_Hop (x : api_Hop) : List C := [.imm (tI x.fThread), .imm (tI x.fState), .imm (tI x.fSpan.fFrom), .imm (tI x.fSpan.fTo)]
def t_api_Hop (x : api_Hop) : List T := [tI x.fThread, tI x.fState, tI x.fSpan.fFrom, tI x.fSpan.fTo]
structure T46_2_int where
  a0 : Int
  a1 : Int
  deriving DecidableEq
def t_T46_2_int (x : T46_2_int) : List T := [tI x.a0, tI x.a1]
def v6 : VC := (.seq (rg [vo 1 (.box 33 0), vo 2 (.mv (kB false))]) (.seq (rg [vo 3 (.fld 2 1), vo 4 (.load 1 false 3), vo 5 (.lenS 4), vo 6 (.bin .leq 5 (kI 20)), vm 7 6, vg 8 7 true (.fld 3 1), vg 9 7 true (.load 1 false 8), vg 10 7 true (.lenS 9), vg 11 7 true (.bin .leq 10 (kI 60)), vo 12 (.pick 7 11 (kB false)), vm 13 12, vg 14 13 true (.fld 4 1), vg 15 13 true (.load 1 false 14), vg 16 13 true (.lenS 15), vg 17 13 true (.bin .leq 16 (kI 200)), vo 18 (.pick 13 17 (kB false)), vm 19 18, vg 20 19 true (.fld 5 1), vg 21 19 true (.load 1 false 20), vg 22 19 true (.lenS 21), vg 23 19 true (.bin .leq 22 (kI 60)), vo 24 (.pick 19 23 (kB false)), vm 25 24, vg 26 25 true (.fld 6 1), vg 27 25 true (.load 1 false 26), vg 28 25 true (.lenS 27), vg 29 25 true (.bin .leq 28 (kI 60)), vo 30 (.pick 25 29 (kB false)), vm 31 30, vg 32 31 true (.fld 7 1), vg 33 31 true (.load 1 false 32), vg 34 31 true (.lenS 33), vg 35 31 true (.bin .leq 34 (kI 60)), vo 36 (.pick 31 35 (kB false)), vm 37 36, vg 38 37 true (.fld 8 1), vg 39 37 true (.load 1 false 38), vg 40 37 true (.lenS 39), vg 41 37 true (.bin .leq 40 (kI 60)), vo 42 (.pick 37 41 (kB false)), vm 43 42, vg 44 43 true (.fld 9 1), vg 45 43 true (.load 1 false 44), vg 46 43 true (.lenS 45), vg 47 43 true (.bin .leq 46 (kI 50)), vo 48 (.pick 43 47 (kB false)), vm 2 48]) .ret))
theorem c6 : (Tryz.f6.body.bind fun c => cCode Tryz.prog 49 c) = some v6 := by kernel_rfl
def v18 : VC := (.seq (rg [vo 12 (.alloc 52 [(iI 0),(iI 0),(iI 0),(iI 0),(iI 0),(iI 0),(iI 0)])]) (.seq (rg [vm 14 0, vm 15 1, vm 16 2, vm 17 3, vo 18 (.build [(iI 0),(iI 0)] [(0,1,16),(1,1,17)]), vm 19 4, vm 20 5, vo 21 (.build [(iI 0),(iI 0),(iI 0),(iI 0),(iI 0),(iI 0),(iI 0)] [(0,1,14),(1,1,15),(2,2,18),(4,1,(kI (-1))),(5,1,19),(6,1,20)]), vo 13 (.alloc 52 [(iI 0),(iI 0),(iI 0),(iI 0),(iI 0),(iI 0),(iI 0)]), vp (.store 7 13 21)]) (.seq (.seq (rg [vm 22 1, vo 23 (.bin .eql 22 (kI 4))]) (.cond 23 (rg [vm 24 0, vo 25 (.fld 4 13), vp (.store 1 25 24)]) .skip)) (.seq (rg [vo 26 (.load 7 true 13), vp (.store 7 12 26)]) .ret))))
theorem c18 : (Tryz.f18.body.bind fun c => cCode Tryz.prog 27 c) = some v18 := by kernel_rfl
def v17 : VC := (.seq (rg [vo 2 (.alloc 33 [(iI 0),(iI 0),.nilS,.nilS,.nilS,.nilS,.nilS,.nilS,.nilS,.nilS])]) (.seq (rg [vo 3 (.build [(iI 0),(iI 0)] [(1,1,(kI 10))]), vo 4 (.build [(iI 0),iS,(iI 0)] [(0,1,(kI 1)),(1,1,(.con (.c (.imm (.sc (.string ⟨#[97]⟩))))))]), vo 5 (.build [(iI 0),iS,(iI 0)] [(0,1,(kI 2)),(1,1,(.con (.c (.imm (.sc (.string ⟨#[98]⟩))))))]), vo 6 (.bsl 74 3 2 [(iI 0),iS,(iI 0)] [(0,3,4),(3,3,5)]), vm 7 0, vo 8 (.build [(iI 0),(iI 0),.nilS,.nilS,.nilS,.nilS,.nilS,.nilS,.nilS,.nilS] [(0,2,3),(2,1,6),(4,1,7)]), vp (.store 10 2 8)]) .ret))
theorem c17 : (Tryz.f17.body.bind fun c => cCode Tryz.prog 9 c) = some v17 := by kernel_rfl
def v147 : VC := (.seq (rg [vo 4 (.mv (kI 0))]) (.seq (rg [vm 5 0, vm 6 1, vo 7 (.call 151 [5,6]), vm 4 7]) .ret))
theorem c147 : (Tryz.f147.body.bind fun c => cCode Tryz.prog 8 c) = some v147 := by kernel_rfl
def v130 : VC := (.seq (rg [vo 2 (.mv (kB false))]) (.seq (rg [vm 3 0, vo 4 (.bin .geq 3 (.con (.c (.imm (.sc (.int .u8 97)))))), vm 5 4, vg 6 5 true (.mv 0), vg 7 5 true (.bin .leq 6 (.con (.c (.imm (.sc (.int .u8 122)))))), vo 8 (.pick 5 7 (kB false)), vm 9 8, vg 10 9 false (.mv 0), vg 11 9 false (.bin .geq 10 (.con (.c (.imm (.sc (.int .u8 65)))))), vg 12 9 false (.mv 11), vg 13 12 true (.mv 0), vg 14 12 true (.bin .leq 13 (.con (.c (.imm (.sc (.int .u8 90)))))), vg 15 9 false (.pick 12 14 (kB false)), vo 16 (.pick 9 (kB true) 15), vm 17 16, vg 18 17 false (.mv 0), vg 19 17 false (.bin .geq 18 (.con (.c (.imm (.sc (.int .u8 48)))))), vg 20 17 false (.mv 19), vg 21 20 true (.mv 0), vg 22 20 true (.bin .leq 21 (.con (.c (.imm (.sc (.int .u8 57)))))), vg 23 17 false (.pick 20 22 (kB false)), vo 24 (.pick 17 (kB true) 23), vm 25 24, vg 26 25 false (.mv 0), vg 27 25 false (.call 147 [(.con (.c (.imm (.sc (.string ⟨#[95,46,58,47,60,62,36,42,126,45]⟩))))),26]), vg 28 25 false (.bin .geq 27 (kI 0)), vo 29 (.pick 25 (kB true) 28), vm 2 29]) .ret))
theorem c130 : (Tryz.f130.body.bind fun c => cCode Tryz.prog 30 c) = some v130 := by kernel_rfl
def v99 : VC := (.seq (rg [vo 2 (.mv (kI 0))]) (.seq (.seq (rg [vm 4 0, vo 5 (.bin .eql 4 (.con (.c iS))), vm 6 5, vg 7 6 false (.mv 0), vg 8 6 false (.lenT 7), vg 9 6 false (.bin .gtr 8 (kI 40)), vo 10 (.pick 6 (kB true) 9)]) (.cond 10 (.seq (rg [vo 2 (.mv (kI 3))]) .ret) .skip)) (.seq (.seq (rg [vm 11 0, vo 12 (.lenT 11), vo 13 (.mv (kI 0))]) (.block 0 (.loop (.seq (rg [vo 14 (.bin .lss 13 12)]) (.seq (.cond 14 .skip (.exit 0)) (.seq (.block 1 (.seq (rg [vm 15 13, vm 3 15]) (.seq (rg [vm 16 0, vm 17 3, vo 18 (.ixS 16 17), vo 19 (.call 130 [18]), vo 20 (.un .not 19)]) (.cond 20 (.seq (rg [vo 2 (.mv (kI 3))]) .ret) .skip)))) (rg [vo 21 (.bin .add 13 (kI 1)), vm 13 21]))))))) (.seq (rg [vo 2 (.mv (kI 0))]) .ret))))
theorem c99 : (Tryz.f99.body.bind fun c => cCode Tryz.prog 22 c) = some v99 := by kernel_rfl
def v98 : VC := (.seq (rg [vo 1 (.box 74 0), vo 2 (.mv (kI 0))]) (.seq (.seq (rg [vo 3 (.fld 0 1), vo 4 (.load 1 false 3), vo 5 (.bin .lss 4 (kI 0)), vm 6 5, vg 7 6 false (.fld 0 1), vg 8 6 false (.load 1 false 7), vg 9 6 false (.bin .gtr 8 (kI 1000000000000000)), vo 10 (.pick 6 (kB true) 9), vm 11 10, vg 12 11 false (.fld 2 1), vg 13 11 false (.load 1 false 12), vg 14 11 false (.bin .lss 13 (kI 0)), vo 15 (.pick 11 (kB true) 14), vm 16 15, vg 17 16 false (.fld 2 1), vg 18 16 false (.load 1 false 17), vg 19 16 false (.bin .geq 18 (kI 8)), vo 20 (.pick 16 (kB true) 19)]) (.cond 20 (.seq (rg [vo 2 (.mv (kI 2))]) .ret) .skip)) (.seq (rg [vo 21 (.fld 1 1), vo 22 (.load 1 false 21), vo 23 (.call 99 [22]), vm 2 23]) .ret)))
theorem c98 : (Tryz.f98.body.bind fun c => cCode Tryz.prog 24 c) = some v98 := by kernel_rfl
def v54 : VC := (.seq (rg [vo 1 (.box 33 0), vo 2 (.mv (.con (.c .nilM))), vo 3 (.mv (kI 0))]) (.seq (.seq (rg [vo 10 (.fld 2 1), vo 11 (.load 1 false 10), vo 12 (.lenS 11), vo 13 (.bin .gtr 12 (kI 64))]) (.cond 13 (.seq (rg [vo 2 (.mv (.con (.c .nilM))), vo 3 (.mv (kI 7))]) .ret) .skip)) (.seq (rg [vo 14 (.mkmap (.int .i64)), vm 4 14]) (.seq (.seq (rg [vo 15 (.fld 2 1), vo 16 (.load 1 false 15), vo 17 (.lenS 16), vo 18 (.mv (kI 0))]) (.block 0 (.loop (.seq (rg [vo 19 (.bin .lss 18 17)]) (.seq (.cond 19 .skip (.exit 0)) (.seq (.block 1 (.seq (rg [vo 20 (.ixA 3 16 18), vo 21 (.load 3 true 20), vo 6 (.alloc 74 [(iI 0),iS,(iI 0)]), vp (.store 3 6 21)]) (.seq (.seq (rg [vo 22 (.load 3 true 6), vo 23 (.call 98 [22]), vm 7 23]) (.seq (rg [vm 24 7, vo 25 (.bin .neq 24 (kI 0))]) (.cond 25 (.seq (rg [vm 26 7, vo 2 (.mv (.con (.c .nilM))), vm 3 26]) .ret) .skip))) (.seq (.seq (rg [vm 28 4, vo 29 (.fld 0 6), vo 30 (.load 1 false 29), vo 31 (.look (.int .i64) (.c iS) true 28 30), vm 27 31, vo 32 (.ext 27 0), vo 33 (.ext 27 1), vm 8 32, vm 9 33]) (.seq (rg [vm 34 9]) (.cond 34 (.seq (rg [vo 2 (.mv (.con (.c .nilM))), vo 3 (.mv (kI 4))]) .ret) .skip))) (rg [vm 35 4, vo 36 (.fld 0 6), vo 37 (.load 1 false 36), vo 38 (.fld 1 6), vo 39 (.load 1 false 38), vp (.mupd (.int .i64) 35 37 39)]))))) (rg [vo 40 (.bin .add 18 (kI 1)), vm 18 40]))))))) (.seq (rg [vm 41 4, vm 2 41, vo 3 (.mv (kI 0))]) .ret)))))
theorem c54 : (Tryz.f54.body.bind fun c => cCode Tryz.prog 42 c) = some v54 := by kernel_rfl
def v32 : VC := (.seq (rg [vo 1 (.box 23 0), vo 2 (.mv (kB false))]) (.seq (rg [vo 3 (.fld 0 1), vo 4 (.load 1 false 3), vo 5 (.bin .geq 4 (kI 0)), vm 6 5, vg 7 6 true (.fld 0 1), vg 8 6 true (.load 1 false 7), vg 9 6 true (.fld 1 1), vg 10 6 true (.load 1 false 9), vg 11 6 true (.bin .lss 8 10), vo 12 (.pick 6 11 (kB false)), vm 13 12, vg 14 13 true (.fld 1 1), vg 15 13 true (.load 1 false 14), vg 16 13 true (.bin .leq 15 (kI 1000000000000)), vo 17 (.pick 13 16 (kB false)), vm 2 17]) .ret))
theorem c32 : (Tryz.f32.body.bind fun c => cCode Tryz.prog 18 c) = some v32 := by kernel_rfl
def v43 : VC := (.seq (rg [vo 2 (.mv (kB false))]) (.seq (rg [vm 3 0, vm 4 0, vo 5 (.bin .neq 3 4), vm 2 5]) .ret))
theorem c43 : (Tryz.f43.body.bind fun c => cCode Tryz.prog 6 c) = some v43 := by kernel_rfl
def v30 : VC := (.seq (rg [vo 4 (.mv (kI 0))]) (.seq (rg [vm 7 0, vo 8 (.call 43 [7]), vm 5 8]) (.seq (rg [vm 9 1, vo 10 (.call 43 [9]), vm 6 10]) (.seq (.seq (rg [vm 11 5]) (.cond 11 (.seq (.seq (rg [vm 12 6]) (.cond 12 (.seq (rg [vo 4 (.mv (kI 0))]) .ret) .skip)) (.seq (rg [vo 4 (.mv (kI (-1)))]) .ret)) .skip)) (.seq (.seq (rg [vm 13 6]) (.cond 13 (.seq (rg [vo 4 (.mv (kI 1))]) .ret) .skip)) (.seq (.seq (rg [vm 14 0, vm 15 1, vo 16 (.bin .lss 14 15)]) (.cond 16 (.seq (rg [vo 4 (.mv (kI (-1)))]) .ret) .skip)) (.seq (.seq (rg [vm 17 0, vm 18 1, vo 19 (.bin .gtr 17 18)]) (.cond 19 (.seq (rg [vo 4 (.mv (kI 1))]) .ret) .skip)) (.seq (rg [vo 4 (.mv (kI 0))]) .ret))))))))
theorem c30 : (Tryz.f30.body.bind fun c => cCode Tryz.prog 20 c) = some v30 := by kernel_rfl
def v131 : VC := (.seq (rg [vo 2 (.mv (kI 0))]) (.seq (rg [vo 3 (.mv (kI 0))]) (.seq (.seq (rg [vm 6 0, vo 7 (.lenS 6), vo 8 (.mv (kI 0))]) (.block 0 (.loop (.seq (rg [vo 9 (.bin .lss 8 7)]) (.seq (.cond 9 .skip (.exit 0)) (.seq (.block 1 (.seq (rg [vo 10 (.ixA 1 6 8), vo 11 (.load 1 false 10), vm 5 11]) (.seq (rg [vm 12 5, vm 13 3, vo 14 (.bin .neq 12 13)]) (.cond 14 (.seq (rg [vm 15 5, vm 2 15]) .ret) .skip)))) (rg [vo 16 (.bin .add 8 (kI 1)), vm 8 16]))))))) (.seq (rg [vm 17 3, vm 2 17]) .ret))))
theorem c131 : (Tryz.f131.body.bind fun c => cCode Tryz.prog 18 c) = some v131 := by kernel_rfl
def v100 : VC := (.seq (rg [vo 2 (.box 84 0), vo 3 (.box 84 1), vo 4 (.mv (kI 0))]) (.seq (.region (some [0,1,3,0,8,24,63,0,128,384,0,1024,3072,8191,0,16384,0,65536,262143,524287,1048575,2097151]) [vo 5 (.fld 4 2), vo 6 (.fld 0 5), vo 7 (.load 1 false 6), vo 8 (.fld 4 3), vo 9 (.fld 0 8), vo 10 (.load 1 false 9), vo 11 (.call 30 [7,10]), vo 12 (.fld 4 3), vo 13 (.fld 1 12), vo 14 (.load 1 false 13), vo 15 (.fld 4 2), vo 16 (.fld 1 15), vo 17 (.load 1 false 16), vo 18 (.call 30 [14,17]), vo 19 (.fld 0 2), vo 20 (.load 1 false 19), vo 21 (.fld 0 3), vo 22 (.load 1 false 21), vo 23 (.call 30 [20,22]), vo 24 (.bsl 3 1 3 [(iI 0)] [(0,1,11),(1,1,18),(2,1,23)]), vo 25 (.call 131 [24]), vm 4 25]) .ret))
theorem c100 : (Tryz.f100.body.bind fun c => cCode Tryz.prog 26 c) = some v100 := by kernel_rfl
def v101 : VC := (.seq (rg [vo 2 (.mv (kB false))]) (.seq (.seq (rg [vm 6 0, vo 7 (.lenS 6), vo 8 (.mv (kI 0))]) (.block 0 (.loop (.seq (rg [vo 9 (.bin .lss 8 7)]) (.seq (.cond 9 .skip (.exit 0)) (.seq (.block 1 (.seq (rg [vm 10 8, vo 11 (.ixA 8 6 8), vo 12 (.load 8 true 11), vo 4 (.alloc 84 [(iI 0),(iI 0),(iI 0),iS,(iI 0),(iI 0),(iI 0),(.imm (.sc (.bool false)))]), vm 3 10, vp (.store 8 4 12)]) (.block 2 (.seq (rg [vo 50 (.fld 1 4), vo 51 (.load 1 false 50), vo 52 (.bin .lss 51 (kI (-1))), vm 53 52, vg 54 53 false (.fld 1 4), vg 55 53 false (.load 1 false 54), vg 56 53 false (.mv 3), vg 57 53 false (.bin .geq 55 56), vo 58 (.pick 53 (kB true) 57), vm 49 58]) (.cond 49 (.seq (rg [vo 2 (.mv (kB false))]) .ret) (.seq (rg [vo 60 (.fld 1 4), vo 61 (.load 1 false 60), vo 62 (.bin .eql 61 (kI (-1))), vm 59 62]) (.cond 59 (.seq (rg [vo 63 (.fld 2 4), vo 64 (.load 1 false 63), vo 65 (.bin .neq 64 (kI 0))]) (.cond 65 (.seq (rg [vo 2 (.mv (kB false))]) .ret) .skip)) (.seq (rg [vm 13 0, vo 14 (.fld 1 4), vo 15 (.load 1 false 14), vo 16 (.ixA 8 13 15), vo 17 (.load 8 true 16), vo 5 (.alloc 84 [(iI 0),(iI 0),(iI 0),iS,(iI 0),(iI 0),(iI 0),(.imm (.sc (.bool false)))]), vp (.store 8 5 17)]) (.seq (rg [vo 18 (.fld 0 5), vo 19 (.load 1 false 18), vo 20 (.fld 0 4), vo 21 (.load 1 false 20), vo 22 (.bin .neq 19 21), vm 23 22, vg 24 23 false (.fld 4 5), vg 25 23 false (.fld 0 24), vg 26 23 false (.load 1 false 25), vg 27 23 false (.fld 4 4), vg 28 23 false (.fld 0 27), vg 29 23 false (.load 1 false 28), vg 30 23 false (.bin .gtr 26 29), vo 31 (.pick 23 (kB true) 30), vm 32 31, vg 33 32 false (.fld 4 5), vg 34 32 false (.fld 1 33), vg 35 32 false (.load 1 false 34), vg 36 32 false (.fld 4 4), vg 37 32 false (.fld 1 36), vg 38 32 false (.load 1 false 37), vg 39 32 false (.bin .lss 35 38), vo 40 (.pick 32 (kB true) 39), vm 41 40, vg 42 41 false (.fld 2 4), vg 43 41 false (.load 1 false 42), vg 44 41 false (.fld 2 5), vg 45 41 false (.load 1 false 44), vg 46 41 false (.bin .add 45 (kI 1)), vg 47 41 false (.bin .neq 43 46), vo 48 (.pick 41 (kB true) 47)]) (.cond 48 (.seq (rg [vo 2 (.mv (kB false))]) .ret) .skip)))))))))) (rg [vo 66 (.bin .add 8 (kI 1)), vm 8 66]))))))) (.seq (rg [vo 2 (.mv (kB true))]) .ret)))
theorem c101 : (Tryz.f101.body.bind fun c => cCode Tryz.prog 67 c) = some v101 := by kernel_rfl
def v132 : VC := (.seq (rg [vo 6 (.mv (kB false))]) (.seq (.block 0 (.loop (.seq (.seq (rg [vm 7 2, vo 8 (.bin .geq 7 (kI 0))]) (.cond 8 .skip (.exit 0))) (.seq (.block 1 (.seq (rg [vm 14 1, vm 15 2, vo 16 (.bin .eql 14 15)]) (.cond 16 (.seq (rg [vo 6 (.mv (kB true))]) .ret) .skip))) (rg [vm 9 0, vm 10 2, vo 11 (.ixA 8 9 10), vo 12 (.fld 1 11), vo 13 (.load 1 false 12), vm 2 13]))))) (.seq (rg [vo 6 (.mv (kB false))]) .ret)))
theorem c132 : (Tryz.f132.body.bind fun c => cCode Tryz.prog 17 c) = some v132 := by kernel_rfl
def v102 : VC := (.seq (rg [vo 2 (.mv (kB false))]) (.seq (.seq (rg [vm 8 0, vo 9 (.lenS 8), vo 10 (.mv (kI 0))]) (.block 0 (.loop (.seq (rg [vo 11 (.bin .lss 10 9)]) (.seq (.cond 11 .skip (.exit 0)) (.seq (.block 1 (.seq (rg [vm 12 10, vo 13 (.ixA 8 8 10), vo 14 (.load 8 true 13), vo 4 (.alloc 84 [(iI 0),(iI 0),(iI 0),iS,(iI 0),(iI 0),(iI 0),(.imm (.sc (.bool false)))]), vm 3 12, vp (.store 8 4 14)]) (.seq (rg [vo 15 (.fld 4 4), vo 16 (.fld 1 15), vo 17 (.load 1 false 16), vo 18 (.fld 4 4), vo 19 (.fld 0 18), vo 20 (.load 1 false 19), vo 21 (.bin .sub 17 20), vm 5 21]) (.seq (.seq (rg [vm 22 0, vo 23 (.lenS 22), vo 24 (.mv (kI 0))]) (.block 2 (.loop (.seq (rg [vo 25 (.bin .lss 24 23)]) (.seq (.cond 25 .skip (.exit 2)) (.seq (.block 3 (.seq (rg [vm 26 24, vo 27 (.ixA 8 22 24), vo 28 (.load 8 true 27), vo 7 (.alloc 84 [(iI 0),(iI 0),(iI 0),iS,(iI 0),(iI 0),(iI 0),(.imm (.sc (.bool false)))]), vm 6 26, vp (.store 8 7 28)]) (.seq (.seq (rg [vo 29 (.fld 1 7), vo 30 (.load 1 false 29), vm 31 3, vo 32 (.bin .eql 30 31)]) (.cond 32 (rg [vm 33 5, vo 34 (.fld 4 7), vo 35 (.fld 1 34), vo 36 (.load 1 false 35), vo 37 (.fld 4 7), vo 38 (.fld 0 37), vo 39 (.load 1 false 38), vo 40 (.bin .sub 36 39), vo 41 (.bin .sub 33 40), vm 5 41]) .skip)) (.seq (rg [vm 42 6, vm 43 3, vo 44 (.bin .lss 42 43), vm 45 44, vg 46 45 true (.fld 0 7), vg 47 45 true (.load 1 false 46), vg 48 45 true (.fld 0 4), vg 49 45 true (.load 1 false 48), vg 50 45 true (.bin .eql 47 49), vo 51 (.pick 45 50 (kB false)), vm 52 51, vg 53 52 true (.fld 4 7), vg 54 52 true (.fld 1 53), vg 55 52 true (.load 1 false 54), vg 56 52 true (.fld 4 4), vg 57 52 true (.fld 0 56), vg 58 52 true (.load 1 false 57), vg 59 52 true (.bin .gtr 55 58), vo 60 (.pick 52 59 (kB false)), vm 61 60, vg 62 61 true (.fld 4 4), vg 63 61 true (.fld 1 62), vg 64 61 true (.load 1 false 63), vg 65 61 true (.fld 4 7), vg 66 61 true (.fld 0 65), vg 67 61 true (.load 1 false 66), vg 68 61 true (.bin .gtr 64 67), vo 69 (.pick 61 68 (kB false)), vm 70 69, vg 71 70 true (.mv 0), vg 72 70 true (.mv 6), vg 73 70 true (.mv 3), vg 74 70 true (.call 132 [71,72,73]), vg 75 70 true (.un .not 74), vo 76 (.pick 70 75 (kB false))]) (.cond 76 (.seq (rg [vo 2 (.mv (kB false))]) .ret) .skip))))) (rg [vo 77 (.bin .add 24 (kI 1)), vm 24 77]))))))) (.seq (rg [vo 78 (.fld 6 4), vo 79 (.load 1 false 78), vm 80 5, vo 81 (.bin .neq 79 80)]) (.cond 81 (.seq (rg [vo 2 (.mv (kB false))]) .ret) .skip)))))) (rg [vo 82 (.bin .add 10 (kI 1)), vm 10 82]))))))) (.seq (rg [vo 2 (.mv (kB true))]) .ret)))
theorem c102 : (Tryz.f102.body.bind fun c => cCode Tryz.prog 83 c) = some v102 := by kernel_rfl
def v56 : VC := (.seq (rg [vo 2 (.mv (kI 0))]) (.seq (.seq (rg [vm 6 0, vo 7 (.lenS 6), vo 8 (.mv (kI 0))]) (.block 0 (.loop (.seq (rg [vo 9 (.bin .lss 8 7)]) (.seq (.cond 9 .skip (.exit 0)) (.seq (.block 1 (.seq (rg [vm 10 8, vo 11 (.ixA 8 6 8), vo 12 (.load 8 true 11), vo 4 (.alloc 84 [(iI 0),(iI 0),(iI 0),iS,(iI 0),(iI 0),(iI 0),(.imm (.sc (.bool false)))]), vm 3 10, vp (.store 8 4 12)]) (.seq (.seq (rg [vo 13 (.fld 0 4), vo 14 (.load 1 false 13), vo 15 (.bin .lss 14 (kI 0)), vm 16 15, vg 17 16 false (.fld 0 4), vg 18 16 false (.load 1 false 17), vg 19 16 false (.bin .gtr 18 (kI 1000000000000000)), vo 20 (.pick 16 (kB true) 19), vm 21 20, vg 22 21 false (.fld 4 4), vg 23 21 false (.load 2 true 22), vg 24 21 false (.call 32 [23]), vg 25 21 false (.un .not 24), vo 26 (.pick 21 (kB true) 25)]) (.cond 26 (.seq (rg [vo 2 (.mv (kI 2))]) .ret) .skip)) (.seq (.seq (rg [vo 27 (.fld 3 4), vo 28 (.load 1 false 27), vo 29 (.call 99 [28]), vm 5 29]) (.seq (rg [vm 30 5, vo 31 (.bin .neq 30 (kI 0))]) (.cond 31 (.seq (rg [vm 32 5, vm 2 32]) .ret) .skip))) (.seq (.region (some [0,1,3,7,7,23,63,127,7,511,1023,2047]) [vm 33 3, vo 34 (.bin .gtr 33 (kI 0)), vm 35 34, vg 36 35 true (.mv 0), vg 37 35 true (.mv 3), vg 38 35 true (.bin .sub 37 (kI 1)), vg 39 35 true (.ixA 8 36 38), vg 40 35 true (.load 8 true 39), vg 41 35 true (.load 8 true 4), vg 42 35 true (.call 100 [40,41]), vg 43 35 true (.bin .gtr 42 (kI 0)), vo 44 (.pick 35 43 (kB false))]) (.cond 44 (.seq (rg [vo 2 (.mv (kI 11))]) .ret) .skip)))))) (rg [vo 45 (.bin .add 8 (kI 1)), vm 8 45]))))))) (.seq (.seq (rg [vm 46 0, vo 47 (.call 101 [46]), vo 48 (.un .not 47), vm 49 48, vg 50 49 false (.mv 0), vg 51 49 false (.call 102 [50]), vg 52 49 false (.un .not 51), vo 53 (.pick 49 (kB true) 52)]) (.cond 53 (.seq (rg [vo 2 (.mv (kI 10))]) .ret) .skip)) (.seq (rg [vo 2 (.mv (kI 0))]) .ret))))
theorem c56 : (Tryz.f56.body.bind fun c => cCode Tryz.prog 54 c) = some v56 := by kernel_rfl
def v57 : VC := (.seq (rg [vo 1 (.box 84 0), vo 2 (.mv (kI 0))]) (.seq (rg [vo 3 (.fld 0 1), vo 4 (.load 1 false 3), vm 2 4]) .ret))
theorem c57 : (Tryz.f57.body.bind fun c => cCode Tryz.prog 5 c) = some v57 := by kernel_rfl
def v55 : VC := (.seq (rg [vo 8 (.mv (kI 0))]) (.seq (.seq (rg [vm 13 0, vo 14 (.bin .neq 13 (kI 0))]) (.cond 14 (.seq (rg [vm 15 0, vm 8 15]) .ret) .skip)) (.seq (.seq (rg [vm 16 2, vo 17 (.lenS 16), vo 18 (.mv (kI 0))]) (.block 0 (.loop (.seq (rg [vo 19 (.bin .lss 18 17)]) (.seq (.cond 19 .skip (.exit 0)) (.seq (.block 1 (.seq (rg [vo 20 (.ixA 8 16 18), vo 21 (.load 8 true 20), vo 10 (.alloc 84 [(iI 0),(iI 0),(iI 0),iS,(iI 0),(iI 0),(iI 0),(.imm (.sc (.bool false)))]), vp (.store 8 10 21)]) (.seq (rg [vm 23 1, vm 24 3, vo 25 (.load 8 true 10), vo 26 (.callv 24 [25]), vo 27 (.look (.int .i64) (.c iS) true 23 26), vm 22 27, vo 28 (.ext 22 0), vo 29 (.ext 22 1), vm 11 28, vm 12 29]) (.seq (rg [vm 30 12, vo 31 (.un .not 30)]) (.cond 31 (.seq (rg [vo 8 (.mv (kI 5))]) .ret) .skip))))) (rg [vo 32 (.bin .add 18 (kI 1)), vm 18 32]))))))) (.seq (rg [vo 8 (.mv (kI 0))]) .ret))))
theorem c55 : (Tryz.f55.body.bind fun c => cCode Tryz.prog 33 c) = some v55 := by kernel_rfl
def v104 : VC := (.seq (rg [vo 4 (.mv (kI 0))]) (.seq (.seq (rg [vm 6 0, vo 7 (.lenS 6), vo 8 (.mv (kI 0))]) (.block 0 (.loop (.seq (rg [vo 9 (.bin .lss 8 7)]) (.seq (.cond 9 .skip (.exit 0)) (.seq (.block 1 (.seq (rg [vm 10 8, vm 5 10]) (.seq (rg [vm 11 1, vm 12 0, vm 13 5, vo 14 (.ixA 1 12 13), vo 15 (.load 1 false 14), vo 16 (.bin .eql 11 15)]) (.cond 16 (.seq (rg [vm 17 5, vm 4 17]) .ret) .skip)))) (rg [vo 18 (.bin .add 8 (kI 1)), vm 8 18]))))))) (.seq (rg [vo 4 (.mv (kI (-1)))]) .ret)))
theorem c104 : (Tryz.f104.body.bind fun c => cCode Tryz.prog 19 c) = some v104 := by kernel_rfl
def v133 : VC := (.seq (rg [vo 4 (.mv (kB false))]) (.seq (rg [vm 5 0, vm 6 1, vo 7 (.call 104 [5,6]), vo 8 (.bin .geq 7 (kI 0)), vm 4 8]) .ret))
theorem c133 : (Tryz.f133.body.bind fun c => cCode Tryz.prog 9 c) = some v133 := by kernel_rfl
def v103 : VC := (.seq (rg [vo 2 (.mv (.con (.c .nilS)))]) (.seq (rg [vo 3 (.mv (.con (.c .nilS)))]) (.seq (.seq (rg [vm 6 0, vo 7 (.lenS 6), vo 8 (.mv (kI 0))]) (.block 0 (.loop (.seq (rg [vo 9 (.bin .lss 8 7)]) (.seq (.cond 9 .skip (.exit 0)) (.seq (.block 1 (.seq (rg [vo 10 (.ixA 3 6 8), vo 11 (.load 3 true 10), vo 5 (.alloc 74 [(iI 0),iS,(iI 0)]), vp (.store 3 5 11)]) (.seq (rg [vm 12 3, vo 13 (.fld 0 5), vo 14 (.load 1 false 13), vo 15 (.call 133 [12,14]), vo 16 (.un .not 15)]) (.cond 16 (rg [vm 17 3, vo 18 (.fld 0 5), vo 19 (.load 1 false 18), vo 20 (.bsl 3 1 1 [(iI 0)] [(0,1,19)]), vo 21 (.app 3 1 8 17 20), vm 3 21]) .skip)))) (rg [vo 22 (.bin .add 8 (kI 1)), vm 8 22]))))))) (.seq (rg [vm 23 3, vm 2 23]) .ret))))
theorem c103 : (Tryz.f103.body.bind fun c => cCode Tryz.prog 24 c) = some v103 := by kernel_rfl
def v105 : VC := (.seq (rg [vo 1 (.box 52 0), vo 2 (.mv (kB false))]) (.seq (rg [vo 4 (.fld 1 1), vo 5 (.load 1 false 4), vo 6 (.bin .eql 5 (kI 1)), vm 7 6, vg 8 7 false (.fld 1 1), vg 9 7 false (.load 1 false 8), vg 10 7 false (.bin .eql 9 (kI 2)), vo 11 (.pick 7 (kB true) 10), vm 3 11]) (.seq (.block 0 (.seq (rg [vo 13 (.fld 1 1), vo 14 (.load 1 false 13), vo 15 (.bin .lss 14 (kI 0)), vm 16 15, vg 17 16 false (.fld 1 1), vg 18 16 false (.load 1 false 17), vg 19 16 false (.bin .gtr 18 (kI 5)), vo 20 (.pick 16 (kB true) 19), vm 12 20]) (.cond 12 (.seq (rg [vo 2 (.mv (kB false))]) .ret) (.seq (.seq (rg [vo 22 (.fld 1 1), vo 23 (.load 1 false 22), vo 24 (.bin .eql 23 (kI 4)), vm 25 24, vg 26 25 true (.fld 4 1), vg 27 25 true (.load 1 false 26), vg 28 25 true (.bin .lss 27 (kI 0)), vg 29 25 true (.mv 28), vg 30 29 false (.fld 4 1), vg 31 29 false (.load 1 false 30), vg 32 29 false (.bin .geq 31 (kI 64)), vg 33 25 true (.pick 29 (kB true) 32), vo 34 (.pick 25 33 (kB false)), vm 21 34]) (.cond 21 .skip (rg [vo 35 (.fld 1 1), vo 36 (.load 1 false 35), vo 37 (.bin .neq 36 (kI 4)), vm 38 37, vg 39 38 true (.fld 4 1), vg 40 38 true (.load 1 false 39), vg 41 38 true (.bin .neq 40 (kI (-1))), vo 42 (.pick 38 41 (kB false)), vm 21 42]))) (.cond 21 (.seq (rg [vo 2 (.mv (kB false))]) .ret) (.seq (.seq (rg [vo 44 (.fld 1 1), vo 45 (.load 1 false 44), vo 46 (.bin .eql 45 (kI 2)), vm 47 46, vg 48 47 true (.fld 5 1), vg 49 47 true (.load 1 false 48), vg 50 47 true (.bin .lss 49 (kI 0)), vg 51 47 true (.mv 50), vg 52 51 false (.fld 5 1), vg 53 51 false (.load 1 false 52), vg 54 51 false (.bin .gtr 53 (kI 1000000000000000)), vg 55 47 true (.pick 51 (kB true) 54), vo 56 (.pick 47 55 (kB false)), vm 43 56]) (.cond 43 .skip (rg [vo 57 (.fld 1 1), vo 58 (.load 1 false 57), vo 59 (.bin .neq 58 (kI 2)), vm 60 59, vg 61 60 true (.fld 5 1), vg 62 60 true (.load 1 false 61), vg 63 60 true (.bin .neq 62 (kI (-1))), vo 64 (.pick 60 63 (kB false)), vm 43 64]))) (.cond 43 (.seq (rg [vo 2 (.mv (kB false))]) .ret) .skip))))))) (.seq (rg [vo 65 (.fld 6 1), vo 66 (.load 1 false 65), vo 67 (.bin .eql 66 (kI (-1))), vm 68 67, vg 69 68 false (.mv 3), vg 70 68 false (.mv 69), vg 71 70 true (.fld 6 1), vg 72 70 true (.load 1 false 71), vg 73 70 true (.bin .geq 72 (kI 0)), vg 74 68 false (.pick 70 73 (kB false)), vg 75 68 false (.mv 74), vg 76 75 true (.fld 6 1), vg 77 75 true (.load 1 false 76), vg 78 75 true (.bin .leq 77 (kI 1000000000000000)), vg 79 68 false (.pick 75 78 (kB false)), vo 80 (.pick 68 (kB true) 79), vm 2 80]) .ret))))
theorem c105 : (Tryz.f105.body.bind fun c => cCode Tryz.prog 81 c) = some v105 := by kernel_rfl
def v106 : VC := (.seq (rg [vo 2 (.box 52 0), vo 3 (.box 52 1), vo 4 (.mv (kB false))]) (.seq (rg [vo 5 (.fld 1 2), vo 6 (.load 1 false 5), vo 7 (.fld 1 3), vo 8 (.load 1 false 7), vo 9 (.bin .eql 6 8), vm 10 9, vg 11 10 true (.fld 4 2), vg 12 10 true (.load 1 false 11), vg 13 10 true (.fld 4 3), vg 14 10 true (.load 1 false 13), vg 15 10 true (.bin .eql 12 14), vo 16 (.pick 10 15 (kB false)), vm 17 16, vg 18 17 true (.fld 5 2), vg 19 17 true (.load 1 false 18), vg 20 17 true (.fld 5 3), vg 21 17 true (.load 1 false 20), vg 22 17 true (.bin .eql 19 21), vo 23 (.pick 17 22 (kB false)), vm 4 23]) .ret))
theorem c106 : (Tryz.f106.body.bind fun c => cCode Tryz.prog 24 c) = some v106 := by kernel_rfl
def v58 : VC := (.seq (rg [vo 4 (.mv (kI 0))]) (.seq (rg [vm 14 0, vo 15 (.call 103 [14]), vm 5 15]) (.seq (rg [vo 6 (.mv (kI (-1)))]) (.seq (.seq (rg [vm 16 1, vo 17 (.lenS 16), vo 18 (.mv (kI 0))]) (.block 0 (.loop (.seq (rg [vo 19 (.bin .lss 18 17)]) (.seq (.cond 19 .skip (.exit 0)) (.seq (.block 1 (.seq (rg [vm 20 18, vo 21 (.ixA 7 16 18), vo 22 (.load 7 true 21), vo 8 (.alloc 52 [(iI 0),(iI 0),(iI 0),(iI 0),(iI 0),(iI 0),(iI 0)]), vm 7 20, vp (.store 7 8 22)]) (.seq (rg [vm 23 5, vo 24 (.fld 0 8), vo 25 (.load 1 false 24), vo 26 (.call 104 [23,25]), vm 9 26]) (.seq (.block 2 (.seq (rg [vm 28 9, vo 29 (.bin .lss 28 (kI 0)), vm 27 29]) (.cond 27 (.seq (rg [vo 4 (.mv (kI 5))]) .ret) (.seq (rg [vo 31 (.fld 2 8), vo 32 (.load 2 true 31), vo 33 (.call 32 [32]), vo 34 (.un .not 33), vm 30 34]) (.cond 30 (.seq (rg [vo 4 (.mv (kI 2))]) .ret) (.seq (rg [vo 36 (.load 7 true 8), vo 37 (.call 105 [36]), vo 38 (.un .not 37), vm 35 38]) (.cond 35 (.seq (rg [vo 4 (.mv (kI 1))]) .ret) (.seq (.region (some [0,0,3,7,15,31,63,15,15,271,911,1935,3983,8079,16383,32767,65535,65535,65535,327679,983039,2031615,4194303,8388607,16777215,33554431]) [vm 40 9, vm 41 6, vo 42 (.bin .eql 40 41), vm 43 42, vg 44 43 true (.fld 2 8), vg 45 43 true (.fld 0 44), vg 46 43 true (.load 1 false 45), vg 47 43 true (.mv 1), vg 48 43 true (.mv 7), vg 49 43 true (.bin .sub 48 (kI 1)), vg 50 43 true (.ixA 7 47 49), vg 51 43 true (.fld 2 50), vg 52 43 true (.fld 1 51), vg 53 43 true (.load 1 false 52), vg 54 43 true (.bin .neq 46 53), vg 55 43 true (.mv 54), vg 56 55 false (.load 7 true 8), vg 57 55 false (.mv 1), vg 58 55 false (.mv 7), vg 59 55 false (.bin .sub 58 (kI 1)), vg 60 55 false (.ixA 7 57 59), vg 61 55 false (.load 7 true 60), vg 62 55 false (.call 106 [56,61]), vg 63 43 true (.pick 55 (kB true) 62), vo 64 (.pick 43 63 (kB false)), vm 39 64]) (.cond 39 (.seq (rg [vo 4 (.mv (kI 11))]) .ret) (.seq (rg [vm 66 9, vm 67 6, vo 68 (.bin .neq 66 67), vm 69 68, vg 70 69 true (.mv 9), vg 71 69 true (.mv 6), vg 72 69 true (.bin .add 71 (kI 1)), vg 73 69 true (.bin .neq 70 72), vg 74 69 true (.mv 73), vg 75 74 false (.fld 2 8), vg 76 74 false (.fld 0 75), vg 77 74 false (.load 1 false 76), vg 78 74 false (.bin .neq 77 (kI 0)), vg 79 69 true (.pick 74 (kB true) 78), vo 80 (.pick 69 79 (kB false)), vm 65 80]) (.cond 65 (.seq (rg [vo 4 (.mv (kI 11))]) .ret) .skip))))))))))) (rg [vm 81 9, vm 6 81]))))) (rg [vo 82 (.bin .add 18 (kI 1)), vm 18 82]))))))) (.seq (.seq (rg [vm 83 1, vo 84 (.lenS 83), vo 85 (.bin .eql 84 (kI 0))]) (.cond 85 (.seq (rg [vo 4 (.mv (kI 0))]) .ret) .skip)) (.seq (rg [vm 86 1, vm 87 1, vo 88 (.lenS 87), vo 89 (.bin .sub 88 (kI 1)), vo 90 (.ixA 7 86 89), vo 91 (.fld 2 90), vo 92 (.fld 1 91), vo 93 (.load 1 false 92), vm 10 93]) (.seq (.seq (rg [vm 94 1, vo 95 (.lenS 94), vo 96 (.mv (kI 0))]) (.block 3 (.loop (.seq (rg [vo 97 (.bin .lss 96 95)]) (.seq (.cond 97 .skip (.exit 3)) (.seq (.block 4 (.seq (rg [vm 98 96, vo 99 (.ixA 7 94 96), vo 100 (.load 7 true 99), vo 12 (.alloc 52 [(iI 0),(iI 0),(iI 0),(iI 0),(iI 0),(iI 0),(iI 0)]), vm 11 98, vp (.store 7 12 100)]) (.seq (.region (some [0,1,0,4,15,31,63,63,191,511,1023,2047,63,4159,16383,32767,65535]) [vm 101 11, vo 102 (.bin .add 101 (kI 1)), vm 103 1, vo 104 (.lenS 103), vo 105 (.bin .eql 102 104), vm 106 105, vg 107 106 false (.mv 1), vg 108 106 false (.mv 11), vg 109 106 false (.bin .add 108 (kI 1)), vg 110 106 false (.ixA 7 107 109), vg 111 106 false (.fld 0 110), vg 112 106 false (.load 1 false 111), vg 113 106 false (.fld 0 12), vg 114 106 false (.load 1 false 113), vg 115 106 false (.bin .neq 112 114), vo 116 (.pick 106 (kB true) 115), vm 13 116]) (.seq (rg [vm 117 13, vm 118 117, vg 119 118 true (.fld 2 12), vg 120 118 true (.fld 1 119), vg 121 118 true (.load 1 false 120), vg 122 118 true (.mv 10), vg 123 118 true (.bin .neq 121 122), vo 124 (.pick 118 123 (kB false))]) (.cond 124 (.seq (rg [vo 4 (.mv (kI 11))]) .ret) .skip))))) (rg [vo 125 (.bin .add 96 (kI 1)), vm 96 125]))))))) (.seq (.seq (rg [vm 126 6, vo 127 (.bin .add 126 (kI 1)), vm 128 5, vo 129 (.lenS 128), vo 130 (.bin .neq 127 129)]) (.cond 130 (.seq (rg [vo 4 (.mv (kI 11))]) .ret) .skip)) (.seq (rg [vo 4 (.mv (kI 0))]) .ret)))))))))
theorem c58 : (Tryz.f58.body.bind fun c => cCode Tryz.prog 131 c) = some v58 := by kernel_rfl
def v107 : VC := (.seq (rg [vo 4 (.mv (kB false))]) (.seq (rg [vm 5 0, vo 6 (.bin .lss 5 (kI 0)), vm 7 6, vg 8 7 false (.mv 0), vg 9 7 false (.mv 1), vg 10 7 false (.bin .gtr 8 9), vo 11 (.pick 7 (kB true) 10), vm 4 11]) .ret))
theorem c107 : (Tryz.f107.body.bind fun c => cCode Tryz.prog 12 c) = some v107 := by kernel_rfl
def v60 : VC := (.seq (rg [vo 2 (.mv (kI 0))]) (.seq (.seq (rg [vm 5 0, vo 6 (.lenS 5), vo 7 (.mv (kI 0))]) (.block 0 (.loop (.seq (rg [vo 8 (.bin .lss 7 6)]) (.seq (.cond 8 .skip (.exit 0)) (.seq (.block 1 (.seq (rg [vm 9 7, vo 10 (.ixA 7 5 7), vo 11 (.load 7 true 10), vo 4 (.alloc 92 [(iI 0),(iI 0),(iI 0),(iI 0),(iI 0),(iI 0),(iI 0)]), vm 3 9, vp (.store 7 4 11)]) (.block 2 (.seq (.seq (rg [vo 13 (.fld 0 4), vo 14 (.load 1 false 13), vo 15 (.call 107 [14,(kI 1000000000000000)]), vm 12 15]) (.cond 12 .skip (.seq (rg [vo 16 (.fld 1 4), vo 17 (.fld 0 16), vo 18 (.load 1 false 17), vo 19 (.call 107 [18,(kI 1000000000000000)]), vm 12 19]) (.cond 12 .skip (.seq (rg [vo 20 (.fld 1 4), vo 21 (.fld 1 20), vo 22 (.load 1 false 21), vo 23 (.call 107 [22,(kI 1000000000000000)]), vm 12 23]) (.cond 12 .skip (.seq (rg [vo 24 (.fld 3 4), vo 25 (.fld 0 24), vo 26 (.load 1 false 25), vo 27 (.call 107 [26,(kI 1000000000000000)]), vm 12 27]) (.cond 12 .skip (.seq (rg [vo 28 (.fld 3 4), vo 29 (.fld 1 28), vo 30 (.load 1 false 29), vo 31 (.call 107 [30,(kI 1000000000000000)]), vm 12 31]) (.cond 12 .skip (.seq (rg [vo 32 (.fld 5 4), vo 33 (.load 1 false 32), vo 34 (.call 107 [33,(kI 1000000000000)]), vm 12 34]) (.cond 12 .skip (rg [vo 35 (.fld 6 4), vo 36 (.load 1 false 35), vo 37 (.call 107 [36,(kI 1000000000000)]), vm 12 37]))))))))))))) (.cond 12 (.seq (rg [vo 2 (.mv (kI 2))]) .ret) (.seq (.seq (rg [vo 39 (.fld 5 4), vo 40 (.load 1 false 39), vo 41 (.fld 6 4), vo 42 (.load 1 false 41), vo 43 (.bin .gtr 40 42), vm 38 43]) (.cond 38 .skip (.region (some [0,1,3,7,15,7,7,71,231,487,999,2047,4095,8191]) [vm 44 3, vo 45 (.bin .gtr 44 (kI 0)), vm 46 45, vg 47 46 true (.fld 6 4), vg 48 46 true (.load 1 false 47), vg 49 46 true (.mv 0), vg 50 46 true (.mv 3), vg 51 46 true (.bin .sub 50 (kI 1)), vg 52 46 true (.ixA 7 49 51), vg 53 46 true (.fld 6 52), vg 54 46 true (.load 1 false 53), vg 55 46 true (.bin .lss 48 54), vo 56 (.pick 46 55 (kB false)), vm 38 56]))) (.cond 38 (.seq (rg [vo 2 (.mv (kI 11))]) .ret) .skip))))))) (rg [vo 57 (.bin .add 7 (kI 1)), vm 7 57]))))))) (.seq (rg [vo 2 (.mv (kI 0))]) .ret)))
theorem c60 : (Tryz.f60.body.bind fun c => cCode Tryz.prog 58 c) = some v60 := by kernel_rfl
def v61 : VC := (.seq (rg [vo 1 (.box 92 0), vo 2 (.mv (kI 0))]) (.seq (rg [vo 3 (.fld 1 1), vo 4 (.fld 0 3), vo 5 (.load 1 false 4), vm 2 5]) .ret))
theorem c61 : (Tryz.f61.body.bind fun c => cCode Tryz.prog 6 c) = some v61 := by kernel_rfl
def v59 : VC := (.seq (rg [vo 8 (.mv (kI 0))]) (.seq (.seq (rg [vm 13 0, vo 14 (.bin .neq 13 (kI 0))]) (.cond 14 (.seq (rg [vm 15 0, vm 8 15]) .ret) .skip)) (.seq (.seq (rg [vm 16 2, vo 17 (.lenS 16), vo 18 (.mv (kI 0))]) (.block 0 (.loop (.seq (rg [vo 19 (.bin .lss 18 17)]) (.seq (.cond 19 .skip (.exit 0)) (.seq (.block 1 (.seq (rg [vo 20 (.ixA 7 16 18), vo 21 (.load 7 true 20), vo 10 (.alloc 92 [(iI 0),(iI 0),(iI 0),(iI 0),(iI 0),(iI 0),(iI 0)]), vp (.store 7 10 21)]) (.seq (rg [vm 23 1, vm 24 3, vo 25 (.load 7 true 10), vo 26 (.callv 24 [25]), vo 27 (.look (.int .i64) (.c iS) true 23 26), vm 22 27, vo 28 (.ext 22 0), vo 29 (.ext 22 1), vm 11 28, vm 12 29]) (.seq (rg [vm 30 12, vo 31 (.un .not 30)]) (.cond 31 (.seq (rg [vo 8 (.mv (kI 5))]) .ret) .skip))))) (rg [vo 32 (.bin .add 18 (kI 1)), vm 18 32]))))))) (.seq (rg [vo 8 (.mv (kI 0))]) .ret))))
theorem c59 : (Tryz.f59.body.bind fun c => cCode Tryz.prog 33 c) = some v59 := by kernel_rfl
def v62 : VC := (.seq (rg [vo 1 (.box 92 0), vo 2 (.mv (kI 0))]) (.seq (rg [vo 3 (.fld 3 1), vo 4 (.fld 0 3), vo 5 (.load 1 false 4), vm 2 5]) .ret))
theorem c62 : (Tryz.f62.body.bind fun c => cCode Tryz.prog 6 c) = some v62 := by kernel_rfl
def v108 : VC := (.seq (rg [vo 1 (.box 94 0), vo 2 (.mv (kB false))]) (.seq (rg [vo 3 (.fld 0 1), vo 4 (.load 1 false 3), vo 5 (.bin .geq 4 (kI 0)), vm 6 5, vg 7 6 true (.fld 0 1), vg 8 6 true (.load 1 false 7), vg 9 6 true (.bin .leq 8 (kI 1000000000000000)), vo 10 (.pick 6 9 (kB false)), vm 11 10, vg 12 11 true (.fld 1 1), vg 13 11 true (.load 1 false 12), vg 14 11 true (.bin .geq 13 (kI 0)), vo 15 (.pick 11 14 (kB false)), vm 16 15, vg 17 16 true (.fld 1 1), vg 18 16 true (.load 1 false 17), vg 19 16 true (.bin .leq 18 (kI 1000000000000)), vo 20 (.pick 16 19 (kB false)), vm 21 20, vg 22 21 true (.fld 2 1), vg 23 21 true (.load 1 false 22), vg 24 21 true (.bin .geq 23 (kI 1)), vo 25 (.pick 21 24 (kB false)), vm 26 25, vg 27 26 true (.fld 2 1), vg 28 26 true (.load 1 false 27), vg 29 26 true (.bin .leq 28 (kI 1000000000000)), vo 30 (.pick 26 29 (kB false)), vm 2 30]) .ret))
theorem c108 : (Tryz.f108.body.bind fun c => cCode Tryz.prog 31 c) = some v108 := by kernel_rfl
def v109 : VC := (.seq (rg [vo 2 (.mv (kI 0))]) (.seq (.seq (rg [vm 6 0, vo 7 (.lenS 6), vo 8 (.bin .gtr 7 (kI 32))]) (.cond 8 (.seq (rg [vo 2 (.mv (kI 7))]) .ret) .skip)) (.seq (.seq (rg [vm 9 0, vo 10 (.lenS 9), vo 11 (.mv (kI 0))]) (.block 0 (.loop (.seq (rg [vo 12 (.bin .lss 11 10)]) (.seq (.cond 12 .skip (.exit 0)) (.seq (.block 1 (.seq (rg [vo 13 (.ixA 1 9 11), vo 14 (.load 1 false 13), vm 4 14]) (.seq (rg [vm 15 4, vo 16 (.call 99 [15]), vm 5 16]) (.seq (rg [vm 17 5, vo 18 (.bin .neq 17 (kI 0))]) (.cond 18 (.seq (rg [vm 19 5, vm 2 19]) .ret) .skip))))) (rg [vo 20 (.bin .add 11 (kI 1)), vm 11 20]))))))) (.seq (rg [vo 2 (.mv (kI 0))]) .ret))))
theorem c109 : (Tryz.f109.body.bind fun c => cCode Tryz.prog 21 c) = some v109 := by kernel_rfl
def v64 : VC := (.seq (rg [vo 2 (.mv (kI 0))]) (.seq (.seq (rg [vm 6 0, vo 7 (.lenS 6), vo 8 (.mv (kI 0))]) (.block 0 (.loop (.seq (rg [vo 9 (.bin .lss 8 7)]) (.seq (.cond 9 .skip (.exit 0)) (.seq (.block 1 (.seq (rg [vm 10 8, vo 11 (.ixA 4 6 8), vo 12 (.load 4 true 11), vo 4 (.alloc 94 [(iI 0),(iI 0),(iI 0),.nilS]), vm 3 10, vp (.store 4 4 12)]) (.seq (.seq (rg [vo 13 (.load 4 true 4), vo 14 (.call 108 [13]), vo 15 (.un .not 14)]) (.cond 15 (.seq (rg [vo 2 (.mv (kI 2))]) .ret) .skip)) (.seq (.seq (rg [vo 16 (.fld 3 4), vo 17 (.load 1 false 16), vo 18 (.call 109 [17]), vm 5 18]) (.seq (rg [vm 19 5, vo 20 (.bin .neq 19 (kI 0))]) (.cond 20 (.seq (rg [vm 21 5, vm 2 21]) .ret) .skip))) (.seq (.region (some [0,1,3,7,15,7,7,71,231,487,999,2047,4095]) [vm 22 3, vo 23 (.bin .gtr 22 (kI 0)), vm 24 23, vg 25 24 true (.fld 1 4), vg 26 24 true (.load 1 false 25), vg 27 24 true (.mv 0), vg 28 24 true (.mv 3), vg 29 24 true (.bin .sub 28 (kI 1)), vg 30 24 true (.ixA 4 27 29), vg 31 24 true (.fld 1 30), vg 32 24 true (.load 1 false 31), vg 33 24 true (.bin .lss 26 32), vo 34 (.pick 24 33 (kB false))]) (.cond 34 (.seq (rg [vo 2 (.mv (kI 11))]) .ret) .skip)))))) (rg [vo 35 (.bin .add 8 (kI 1)), vm 8 35]))))))) (.seq (rg [vo 2 (.mv (kI 0))]) .ret)))
theorem c64 : (Tryz.f64.body.bind fun c => cCode Tryz.prog 36 c) = some v64 := by kernel_rfl
def v65 : VC := (.seq (rg [vo 1 (.box 94 0), vo 2 (.mv (kI 0))]) (.seq (rg [vo 3 (.fld 0 1), vo 4 (.load 1 false 3), vm 2 4]) .ret))
theorem c65 : (Tryz.f65.body.bind fun c => cCode Tryz.prog 5 c) = some v65 := by kernel_rfl
def v63 : VC := (.seq (rg [vo 8 (.mv (kI 0))]) (.seq (.seq (rg [vm 13 0, vo 14 (.bin .neq 13 (kI 0))]) (.cond 14 (.seq (rg [vm 15 0, vm 8 15]) .ret) .skip)) (.seq (.seq (rg [vm 16 2, vo 17 (.lenS 16), vo 18 (.mv (kI 0))]) (.block 0 (.loop (.seq (rg [vo 19 (.bin .lss 18 17)]) (.seq (.cond 19 .skip (.exit 0)) (.seq (.block 1 (.seq (rg [vo 20 (.ixA 4 16 18), vo 21 (.load 4 true 20), vo 10 (.alloc 94 [(iI 0),(iI 0),(iI 0),.nilS]), vp (.store 4 10 21)]) (.seq (rg [vm 23 1, vm 24 3, vo 25 (.load 4 true 10), vo 26 (.callv 24 [25]), vo 27 (.look (.int .i64) (.c iS) true 23 26), vm 22 27, vo 28 (.ext 22 0), vo 29 (.ext 22 1), vm 11 28, vm 12 29]) (.seq (rg [vm 30 12, vo 31 (.un .not 30)]) (.cond 31 (.seq (rg [vo 8 (.mv (kI 5))]) .ret) .skip))))) (rg [vo 32 (.bin .add 18 (kI 1)), vm 18 32]))))))) (.seq (rg [vo 8 (.mv (kI 0))]) .ret))))
theorem c63 : (Tryz.f63.body.bind fun c => cCode Tryz.prog 33 c) = some v63 := by kernel_rfl
def v110 : VC := (.seq (rg [vo 2 (.mv (kB false))]) (.seq (rg [vm 3 0, vo 4 (.bin .geq 3 (kI (-1000000000000000))), vm 5 4, vg 6 5 true (.mv 0), vg 7 5 true (.bin .leq 6 (kI 1000000000000000)), vo 8 (.pick 5 7 (kB false)), vm 2 8]) .ret))
theorem c110 : (Tryz.f110.body.bind fun c => cCode Tryz.prog 9 c) = some v110 := by kernel_rfl
def v148 : VC := (.seq (rg [vo 2 (.mv (kB false))]) (.seq (rg [vm 3 0, vm 4 0, vo 5 (.bin .neq 3 4), vm 2 5]) .ret))
theorem c148 : (Tryz.f148.body.bind fun c => cCode Tryz.prog 6 c) = some v148 := by kernel_rfl
def v134 : VC := (.seq (rg [vo 4 (.mv (kI 0))]) (.seq (rg [vm 7 0, vo 8 (.call 148 [7]), vm 5 8]) (.seq (rg [vm 9 1, vo 10 (.call 148 [9]), vm 6 10]) (.seq (.seq (rg [vm 11 5]) (.cond 11 (.seq (.seq (rg [vm 12 6]) (.cond 12 (.seq (rg [vo 4 (.mv (kI 0))]) .ret) .skip)) (.seq (rg [vo 4 (.mv (kI (-1)))]) .ret)) .skip)) (.seq (.seq (rg [vm 13 6]) (.cond 13 (.seq (rg [vo 4 (.mv (kI 1))]) .ret) .skip)) (.seq (.seq (rg [vm 14 0, vm 15 1, vo 16 (.bin .lss 14 15)]) (.cond 16 (.seq (rg [vo 4 (.mv (kI (-1)))]) .ret) .skip)) (.seq (.seq (rg [vm 17 0, vm 18 1, vo 19 (.bin .gtr 17 18)]) (.cond 19 (.seq (rg [vo 4 (.mv (kI 1))]) .ret) .skip)) (.seq (rg [vo 4 (.mv (kI 0))]) .ret))))))))
theorem c134 : (Tryz.f134.body.bind fun c => cCode Tryz.prog 20 c) = some v134 := by kernel_rfl
def v111 : VC := (.seq (rg [vo 2 (.box 96 0), vo 3 (.box 96 1), vo 4 (.mv (kI 0))]) (.seq (.region (some [0,1,0,4,15,0,32,0,128,511,1023,2047,4095]) [vo 5 (.fld 0 2), vo 6 (.load 1 false 5), vo 7 (.fld 0 3), vo 8 (.load 1 false 7), vo 9 (.call 134 [6,8]), vo 10 (.fld 1 2), vo 11 (.load 1 false 10), vo 12 (.fld 1 3), vo 13 (.load 1 false 12), vo 14 (.call 30 [11,13]), vo 15 (.bsl 3 1 2 [(iI 0)] [(0,1,9),(1,1,14)]), vo 16 (.call 131 [15]), vm 4 16]) .ret))
theorem c111 : (Tryz.f111.body.bind fun c => cCode Tryz.prog 17 c) = some v111 := by kernel_rfl
def v66 : VC := (.seq (rg [vo 2 (.mv (kI 0))]) (.seq (.seq (rg [vm 6 0, vo 7 (.lenS 6), vo 8 (.mv (kI 0))]) (.block 0 (.loop (.seq (rg [vo 9 (.bin .lss 8 7)]) (.seq (.cond 9 .skip (.exit 0)) (.seq (.block 1 (.seq (rg [vm 10 8, vo 11 (.ixA 3 6 8), vo 12 (.load 3 true 11), vo 4 (.alloc 96 [iS,(iI 0),(iI 0)]), vm 3 10, vp (.store 3 4 12)]) (.seq (.seq (rg [vo 13 (.fld 0 4), vo 14 (.load 1 false 13), vo 15 (.call 99 [14]), vm 5 15]) (.seq (rg [vm 16 5, vo 17 (.bin .neq 16 (kI 0))]) (.cond 17 (.seq (rg [vm 18 5, vm 2 18]) .ret) .skip))) (.seq (.seq (rg [vo 19 (.fld 1 4), vo 20 (.load 1 false 19), vo 21 (.bin .lss 20 (kI 0)), vm 22 21, vg 23 22 false (.fld 1 4), vg 24 22 false (.load 1 false 23), vg 25 22 false (.bin .gtr 24 (kI 1000000000000)), vo 26 (.pick 22 (kB true) 25), vm 27 26, vg 28 27 false (.fld 2 4), vg 29 27 false (.load 1 false 28), vg 30 27 false (.call 110 [29]), vg 31 27 false (.un .not 30), vo 32 (.pick 27 (kB true) 31)]) (.cond 32 (.seq (rg [vo 2 (.mv (kI 2))]) .ret) .skip)) (.seq (.region (some [0,1,3,7,7,23,63,127,7,511,1023,2047,4095,4095,12287,32767,65535,131071,4095,266239,1048575,2097151,4194303,4194303,12582911,33554431,67108863,134217727,4194303,272629759,1073741823,2147483647,4294967295,8589934591]) [vm 33 3, vo 34 (.bin .gtr 33 (kI 0)), vm 35 34, vg 36 35 true (.mv 0), vg 37 35 true (.mv 3), vg 38 35 true (.bin .sub 37 (kI 1)), vg 39 35 true (.ixA 3 36 38), vg 40 35 true (.load 3 true 39), vg 41 35 true (.load 3 true 4), vg 42 35 true (.call 111 [40,41]), vg 43 35 true (.bin .geq 42 (kI 0)), vg 44 35 true (.mv 43), vg 45 44 false (.mv 0), vg 46 44 false (.mv 3), vg 47 44 false (.bin .sub 46 (kI 1)), vg 48 44 false (.ixA 3 45 47), vg 49 44 false (.fld 0 48), vg 50 44 false (.load 1 false 49), vg 51 44 false (.fld 0 4), vg 52 44 false (.load 1 false 51), vg 53 44 false (.bin .eql 50 52), vg 54 44 false (.mv 53), vg 55 54 true (.mv 0), vg 56 54 true (.mv 3), vg 57 54 true (.bin .sub 56 (kI 1)), vg 58 54 true (.ixA 3 55 57), vg 59 54 true (.fld 2 58), vg 60 54 true (.load 1 false 59), vg 61 54 true (.fld 2 4), vg 62 54 true (.load 1 false 61), vg 63 54 true (.bin .eql 60 62), vg 64 44 false (.pick 54 63 (kB false)), vg 65 35 true (.pick 44 (kB true) 64), vo 66 (.pick 35 65 (kB false))]) (.cond 66 (.seq (rg [vo 2 (.mv (kI 11))]) .ret) .skip)))))) (rg [vo 67 (.bin .add 8 (kI 1)), vm 8 67]))))))) (.seq (rg [vo 2 (.mv (kI 0))]) .ret)))
theorem c66 : (Tryz.f66.body.bind fun c => cCode Tryz.prog 68 c) = some v66 := by kernel_rfl
def v68 : VC := (.seq (rg [vo 2 (.mv (kI 0))]) (.seq (.seq (rg [vm 8 0, vo 9 (.lenS 8), vo 10 (.mv (kI 0))]) (.block 0 (.loop (.seq (rg [vo 11 (.bin .lss 10 9)]) (.seq (.cond 11 .skip (.exit 0)) (.seq (.block 1 (.seq (rg [vm 12 10, vo 13 (.ixA 7 8 10), vo 14 (.load 7 true 13), vo 4 (.alloc 87 [(iI 0),(iI 0),(iI 0),(iI 0),(iI 0),.nilS,(.imm (.sc (.bool false)))]), vm 3 12, vp (.store 7 4 14)]) (.seq (.seq (rg [vo 15 (.fld 0 4), vo 16 (.load 1 false 15), vo 17 (.bin .lss 16 (kI 0)), vm 18 17, vg 19 18 false (.fld 0 4), vg 20 18 false (.load 1 false 19), vg 21 18 false (.bin .gtr 20 (kI 1000000000000000)), vo 22 (.pick 18 (kB true) 21), vm 23 22, vg 24 23 false (.fld 1 4), vg 25 23 false (.load 1 false 24), vg 26 23 false (.bin .lss 25 (kI 0)), vo 27 (.pick 23 (kB true) 26), vm 28 27, vg 29 28 false (.fld 1 4), vg 30 28 false (.load 1 false 29), vg 31 28 false (.bin .gtr 30 (kI 1000000000000000)), vo 32 (.pick 28 (kB true) 31), vm 33 32, vg 34 33 false (.fld 2 4), vg 35 33 false (.load 1 false 34), vg 36 33 false (.bin .lss 35 (kI 1)), vo 37 (.pick 33 (kB true) 36), vm 38 37, vg 39 38 false (.fld 2 4), vg 40 38 false (.load 1 false 39), vg 41 38 false (.bin .gtr 40 (kI 1000000000000)), vo 42 (.pick 38 (kB true) 41), vm 43 42, vg 44 43 false (.fld 3 4), vg 45 43 false (.load 2 true 44), vg 46 43 false (.call 32 [45]), vg 47 43 false (.un .not 46), vo 48 (.pick 43 (kB true) 47)]) (.cond 48 (.seq (rg [vo 2 (.mv (kI 2))]) .ret) .skip)) (.seq (.seq (rg [vo 49 (.fld 5 4), vo 50 (.load 1 false 49), vo 51 (.call 109 [50]), vm 5 51]) (.seq (rg [vm 52 5, vo 53 (.bin .neq 52 (kI 0))]) (.cond 53 (.seq (rg [vm 54 5, vm 2 54]) .ret) .skip))) (.seq (.seq (.region (some [0,1,3,7,15,31,7,7,135,455,967,1991,4039,8191,16383]) [vm 55 3, vo 56 (.bin .gtr 55 (kI 0)), vm 57 56, vg 58 57 true (.fld 3 4), vg 59 57 true (.fld 0 58), vg 60 57 true (.load 1 false 59), vg 61 57 true (.mv 0), vg 62 57 true (.mv 3), vg 63 57 true (.bin .sub 62 (kI 1)), vg 64 57 true (.ixA 7 61 63), vg 65 57 true (.fld 3 64), vg 66 57 true (.fld 0 65), vg 67 57 true (.load 1 false 66), vg 68 57 true (.bin .lss 60 67), vo 69 (.pick 57 68 (kB false))]) (.cond 69 (.seq (rg [vo 2 (.mv (kI 11))]) .ret) .skip)) (.seq (rg [vm 70 0, vm 71 3, vo 72 (.sub 7 70 none (some 71)), vo 73 (.lenS 72), vo 74 (.mv (kI 0))]) (.block 2 (.loop (.seq (rg [vo 75 (.bin .lss 74 73)]) (.seq (.cond 75 .skip (.exit 2)) (.seq (.block 3 (.seq (rg [vo 76 (.ixA 7 72 74), vo 77 (.load 7 true 76), vo 7 (.alloc 87 [(iI 0),(iI 0),(iI 0),(iI 0),(iI 0),.nilS,(.imm (.sc (.bool false)))]), vp (.store 7 7 77)]) (.seq (rg [vo 78 (.fld 0 7), vo 79 (.load 1 false 78), vo 80 (.fld 0 4), vo 81 (.load 1 false 80), vo 82 (.bin .eql 79 81), vm 83 82, vg 84 83 true (.fld 3 7), vg 85 83 true (.fld 0 84), vg 86 83 true (.load 1 false 85), vg 87 83 true (.fld 3 4), vg 88 83 true (.fld 1 87), vg 89 83 true (.load 1 false 88), vg 90 83 true (.bin .lss 86 89), vo 91 (.pick 83 90 (kB false)), vm 92 91, vg 93 92 true (.fld 3 4), vg 94 92 true (.fld 0 93), vg 95 92 true (.load 1 false 94), vg 96 92 true (.fld 3 7), vg 97 92 true (.fld 1 96), vg 98 92 true (.load 1 false 97), vg 99 92 true (.bin .lss 95 98), vo 100 (.pick 92 99 (kB false))]) (.cond 100 (.seq (rg [vo 2 (.mv (kI 4))]) .ret) .skip)))) (rg [vo 101 (.bin .add 74 (kI 1)), vm 74 101])))))))))))) (rg [vo 102 (.bin .add 10 (kI 1)), vm 10 102]))))))) (.seq (rg [vo 2 (.mv (kI 0))]) .ret)))
theorem c68 : (Tryz.f68.body.bind fun c => cCode Tryz.prog 103 c) = some v68 := by kernel_rfl
def v69 : VC := (.seq (rg [vo 1 (.box 87 0), vo 2 (.mv (kI 0))]) (.seq (rg [vo 3 (.fld 1 1), vo 4 (.load 1 false 3), vm 2 4]) .ret))
theorem c69 : (Tryz.f69.body.bind fun c => cCode Tryz.prog 5 c) = some v69 := by kernel_rfl
def v67 : VC := (.seq (rg [vo 8 (.mv (kI 0))]) (.seq (.seq (rg [vm 13 0, vo 14 (.bin .neq 13 (kI 0))]) (.cond 14 (.seq (rg [vm 15 0, vm 8 15]) .ret) .skip)) (.seq (.seq (rg [vm 16 2, vo 17 (.lenS 16), vo 18 (.mv (kI 0))]) (.block 0 (.loop (.seq (rg [vo 19 (.bin .lss 18 17)]) (.seq (.cond 19 .skip (.exit 0)) (.seq (.block 1 (.seq (rg [vo 20 (.ixA 7 16 18), vo 21 (.load 7 true 20), vo 10 (.alloc 87 [(iI 0),(iI 0),(iI 0),(iI 0),(iI 0),.nilS,(.imm (.sc (.bool false)))]), vp (.store 7 10 21)]) (.seq (rg [vm 23 1, vm 24 3, vo 25 (.load 7 true 10), vo 26 (.callv 24 [25]), vo 27 (.look (.int .i64) (.c iS) true 23 26), vm 22 27, vo 28 (.ext 22 0), vo 29 (.ext 22 1), vm 11 28, vm 12 29]) (.seq (rg [vm 30 12, vo 31 (.un .not 30)]) (.cond 31 (.seq (rg [vo 8 (.mv (kI 5))]) .ret) .skip))))) (rg [vo 32 (.bin .add 18 (kI 1)), vm 18 32]))))))) (.seq (rg [vo 8 (.mv (kI 0))]) .ret))))
theorem c67 : (Tryz.f67.body.bind fun c => cCode Tryz.prog 33 c) = some v67 := by kernel_rfl
def v70 : VC := (.seq (rg [vo 4 (.mv (kI 0))]) (.seq (.seq (rg [vm 9 1, vo 10 (.lenS 9), vo 11 (.mv (kI 0))]) (.block 0 (.loop (.seq (rg [vo 12 (.bin .lss 11 10)]) (.seq (.cond 12 .skip (.exit 0)) (.seq (.block 1 (.seq (rg [vo 13 (.ixA 4 9 11), vo 14 (.load 4 true 13), vo 6 (.alloc 156 [(iI 0),(iI 0),(iI 0),(iI 0)]), vp (.store 4 6 14)]) (.seq (.seq (rg [vm 16 0, vo 17 (.fld 0 6), vo 18 (.load 1 false 17), vo 19 (.look (.int .i64) (.c iS) true 16 18), vm 15 19, vo 20 (.ext 15 0), vo 21 (.ext 15 1), vm 7 20, vm 8 21]) (.seq (rg [vm 22 8, vo 23 (.un .not 22)]) (.cond 23 (.seq (rg [vo 4 (.mv (kI 5))]) .ret) .skip))) (.seq (rg [vo 24 (.fld 1 6), vo 25 (.load 2 true 24), vo 26 (.call 32 [25]), vo 27 (.un .not 26), vm 28 27, vg 29 28 false (.fld 3 6), vg 30 28 false (.load 1 false 29), vg 31 28 false (.bin .lss 30 (kI 1)), vo 32 (.pick 28 (kB true) 31), vm 33 32, vg 34 33 false (.fld 3 6), vg 35 33 false (.load 1 false 34), vg 36 33 false (.bin .gtr 35 (kI 1000000000000000)), vo 37 (.pick 33 (kB true) 36)]) (.cond 37 (.seq (rg [vo 4 (.mv (kI 2))]) .ret) .skip))))) (rg [vo 38 (.bin .add 11 (kI 1)), vm 11 38]))))))) (.seq (rg [vo 4 (.mv (kI 0))]) .ret)))
theorem c70 : (Tryz.f70.body.bind fun c => cCode Tryz.prog 39 c) = some v70 := by kernel_rfl
def v44 : VC := (.seq (rg [vo 1 (.box 33 0), vo 2 (.mv (kI 0))]) (.seq (rg [vo 12 (.load 10 true 1), vo 13 (.call 54 [12]), vm 11 13, vo 14 (.ext 11 0), vo 15 (.ext 11 1), vm 3 14, vm 4 15]) (.seq (.seq (rg [vm 16 4, vo 17 (.bin .neq 16 (kI 0))]) (.cond 17 (.seq (rg [vm 18 4, vm 2 18]) .ret) .skip)) (.seq (.seq (.region (some [0,1,3,0,0,16,63,127]) [vo 19 (.fld 3 1), vo 20 (.load 1 false 19), vo 21 (.call 56 [20]), vm 22 3, vo 23 (.fld 3 1), vo 24 (.load 1 false 23), vo 25 (.call 55 [21,22,24,(.fn 57)]), vm 5 25]) (.seq (rg [vm 26 5, vo 27 (.bin .neq 26 (kI 0))]) (.cond 27 (.seq (rg [vm 28 5, vm 2 28]) .ret) .skip))) (.seq (.seq (rg [vo 29 (.fld 2 1), vo 30 (.load 1 false 29), vo 31 (.fld 4 1), vo 32 (.load 1 false 31), vo 33 (.call 58 [30,32]), vm 6 33]) (.seq (rg [vm 34 6, vo 35 (.bin .neq 34 (kI 0))]) (.cond 35 (.seq (rg [vm 36 6, vm 2 36]) .ret) .skip))) (.seq (.region (some [0,1,3,0,0,16,63,127]) [vo 37 (.fld 5 1), vo 38 (.load 1 false 37), vo 39 (.call 60 [38]), vm 40 3, vo 41 (.fld 5 1), vo 42 (.load 1 false 41), vo 43 (.call 59 [39,40,42,(.fn 61)]), vm 4 43]) (.seq (.seq (rg [vm 44 4, vm 45 3, vo 46 (.fld 5 1), vo 47 (.load 1 false 46), vo 48 (.call 59 [44,45,47,(.fn 62)]), vm 7 48]) (.seq (rg [vm 49 7, vo 50 (.bin .neq 49 (kI 0))]) (.cond 50 (.seq (rg [vm 51 7, vm 2 51]) .ret) .skip))) (.seq (.seq (.region (some [0,1,3,0,0,16,63,127]) [vo 52 (.fld 6 1), vo 53 (.load 1 false 52), vo 54 (.call 64 [53]), vm 55 3, vo 56 (.fld 6 1), vo 57 (.load 1 false 56), vo 58 (.call 63 [54,55,57,(.fn 65)]), vm 8 58]) (.seq (rg [vm 59 8, vo 60 (.bin .neq 59 (kI 0))]) (.cond 60 (.seq (rg [vm 61 8, vm 2 61]) .ret) .skip))) (.seq (.seq (rg [vo 62 (.fld 7 1), vo 63 (.load 1 false 62), vo 64 (.call 66 [63]), vm 9 64]) (.seq (rg [vm 65 9, vo 66 (.bin .neq 65 (kI 0))]) (.cond 66 (.seq (rg [vm 67 9, vm 2 67]) .ret) .skip))) (.seq (.seq (.region (some [0,1,3,0,0,16,63,127]) [vo 68 (.fld 8 1), vo 69 (.load 1 false 68), vo 70 (.call 68 [69]), vm 71 3, vo 72 (.fld 8 1), vo 73 (.load 1 false 72), vo 74 (.call 67 [70,71,73,(.fn 69)]), vm 10 74]) (.seq (rg [vm 75 10, vo 76 (.bin .neq 75 (kI 0))]) (.cond 76 (.seq (rg [vm 77 10, vm 2 77]) .ret) .skip))) (.seq (rg [vm 78 3, vo 79 (.fld 9 1), vo 80 (.load 1 false 79), vo 81 (.call 70 [78,80]), vm 2 81]) .ret)))))))))))
theorem c44 : (Tryz.f44.body.bind fun c => cCode Tryz.prog 82 c) = some v44 := by kernel_rfl
def v73 : VC := (.seq (rg [vo 2 (.box 23 0), vo 3 (.box 23 1), vo 4 (.mv (kB false))]) (.seq (rg [vo 5 (.fld 0 3), vo 6 (.load 1 false 5), vo 7 (.fld 0 2), vo 8 (.load 1 false 7), vo 9 (.bin .leq 6 8), vm 10 9, vg 11 10 true (.fld 1 2), vg 12 10 true (.load 1 false 11), vg 13 10 true (.fld 1 3), vg 14 10 true (.load 1 false 13), vg 15 10 true (.bin .leq 12 14), vo 16 (.pick 10 15 (kB false)), vm 4 16]) .ret))
theorem c73 : (Tryz.f73.body.bind fun c => cCode Tryz.prog 17 c) = some v73 := by kernel_rfl
def v72 : VC := (.seq (rg [vo 2 (.box 84 0), vo 3 (.mv (kB false))]) (.seq (rg [vo 4 (.fld 4 2), vo 5 (.load 2 true 4), vo 6 (.load 2 true 1), vo 7 (.call 73 [5,6]), vo 8 (.un .not 7), vm 3 8]) .ret))
theorem c72 : (Tryz.f72.body.bind fun c => cCode Tryz.prog 9 c) = some v72 := by kernel_rfl
def v112 : VC := (.seq (rg [vo 4 (.mv (kI 0))]) (.seq (.seq (rg [vm 6 0, vo 7 (.lenS 6), vo 8 (.mv (kI 0))]) (.block 0 (.loop (.seq (rg [vo 9 (.bin .lss 8 7)]) (.seq (.cond 9 .skip (.exit 0)) (.seq (.block 1 (.seq (rg [vm 10 8, vm 5 10]) (.seq (rg [vm 11 1, vm 12 0, vm 13 5, vo 14 (.ixA 8 12 13), vo 15 (.load 8 true 14), vo 16 (.callv 11 [15])]) (.cond 16 (.seq (rg [vm 17 5, vm 4 17]) .ret) .skip)))) (rg [vo 18 (.bin .add 8 (kI 1)), vm 8 18]))))))) (.seq (rg [vo 4 (.mv (kI (-1)))]) .ret)))
theorem c112 : (Tryz.f112.body.bind fun c => cCode Tryz.prog 19 c) = some v112 := by kernel_rfl
def v71 : VC := (.seq (rg [vo 4 (.mv (kB false))]) (.seq (rg [vm 5 0, vm 6 1, vo 7 (.call 112 [5,6]), vo 8 (.bin .geq 7 (kI 0)), vm 4 8]) .ret))
theorem c71 : (Tryz.f71.body.bind fun c => cCode Tryz.prog 9 c) = some v71 := by kernel_rfl
def v75 : VC := (.seq (rg [vo 2 (.box 52 0), vo 3 (.mv (kB false))]) (.seq (rg [vo 4 (.fld 2 2), vo 5 (.load 2 true 4), vo 6 (.load 2 true 1), vo 7 (.call 73 [5,6]), vo 8 (.un .not 7), vm 3 8]) .ret))
theorem c75 : (Tryz.f75.body.bind fun c => cCode Tryz.prog 9 c) = some v75 := by kernel_rfl
def v113 : VC := (.seq (rg [vo 4 (.mv (kI 0))]) (.seq (.seq (rg [vm 6 0, vo 7 (.lenS 6), vo 8 (.mv (kI 0))]) (.block 0 (.loop (.seq (rg [vo 9 (.bin .lss 8 7)]) (.seq (.cond 9 .skip (.exit 0)) (.seq (.block 1 (.seq (rg [vm 10 8, vm 5 10]) (.seq (rg [vm 11 1, vm 12 0, vm 13 5, vo 14 (.ixA 7 12 13), vo 15 (.load 7 true 14), vo 16 (.callv 11 [15])]) (.cond 16 (.seq (rg [vm 17 5, vm 4 17]) .ret) .skip)))) (rg [vo 18 (.bin .add 8 (kI 1)), vm 8 18]))))))) (.seq (rg [vo 4 (.mv (kI (-1)))]) .ret)))
theorem c113 : (Tryz.f113.body.bind fun c => cCode Tryz.prog 19 c) = some v113 := by kernel_rfl
def v74 : VC := (.seq (rg [vo 4 (.mv (kB false))]) (.seq (rg [vm 5 0, vm 6 1, vo 7 (.call 113 [5,6]), vo 8 (.bin .geq 7 (kI 0)), vm 4 8]) .ret))
theorem c74 : (Tryz.f74.body.bind fun c => cCode Tryz.prog 9 c) = some v74 := by kernel_rfl
def v77 : VC := (.seq (rg [vo 2 (.box 87 0), vo 3 (.mv (kB false))]) (.seq (rg [vo 4 (.fld 3 2), vo 5 (.load 2 true 4), vo 6 (.load 2 true 1), vo 7 (.call 73 [5,6]), vo 8 (.un .not 7), vm 3 8]) .ret))
theorem c77 : (Tryz.f77.body.bind fun c => cCode Tryz.prog 9 c) = some v77 := by kernel_rfl
def v114 : VC := (.seq (rg [vo 4 (.mv (kI 0))]) (.seq (.seq (rg [vm 6 0, vo 7 (.lenS 6), vo 8 (.mv (kI 0))]) (.block 0 (.loop (.seq (rg [vo 9 (.bin .lss 8 7)]) (.seq (.cond 9 .skip (.exit 0)) (.seq (.block 1 (.seq (rg [vm 10 8, vm 5 10]) (.seq (rg [vm 11 1, vm 12 0, vm 13 5, vo 14 (.ixA 7 12 13), vo 15 (.load 7 true 14), vo 16 (.callv 11 [15])]) (.cond 16 (.seq (rg [vm 17 5, vm 4 17]) .ret) .skip)))) (rg [vo 18 (.bin .add 8 (kI 1)), vm 8 18]))))))) (.seq (rg [vo 4 (.mv (kI (-1)))]) .ret)))
theorem c114 : (Tryz.f114.body.bind fun c => cCode Tryz.prog 19 c) = some v114 := by kernel_rfl
def v76 : VC := (.seq (rg [vo 4 (.mv (kB false))]) (.seq (rg [vm 5 0, vm 6 1, vo 7 (.call 114 [5,6]), vo 8 (.bin .geq 7 (kI 0)), vm 4 8]) .ret))
theorem c76 : (Tryz.f76.body.bind fun c => cCode Tryz.prog 9 c) = some v76 := by kernel_rfl
def v80 : VC := (.seq (rg [vo 2 (.box 23 0), vo 4 (.mv (kB false))]) (.seq (rg [vo 5 (.fld 0 2), vo 6 (.load 1 false 5), vm 7 1, vo 8 (.bin .leq 6 7), vm 9 8, vg 10 9 true (.mv 1), vg 11 9 true (.fld 1 2), vg 12 9 true (.load 1 false 11), vg 13 9 true (.bin .lss 10 12), vo 14 (.pick 9 13 (kB false)), vm 4 14]) .ret))
theorem c80 : (Tryz.f80.body.bind fun c => cCode Tryz.prog 15 c) = some v80 := by kernel_rfl
def v79 : VC := (.seq (rg [vo 2 (.box 92 0), vo 3 (.mv (kB false))]) (.seq (rg [vo 4 (.load 2 true 1), vo 5 (.fld 5 2), vo 6 (.load 1 false 5), vo 7 (.call 80 [4,6]), vo 8 (.un .not 7), vm 9 8, vg 10 9 false (.load 2 true 1), vg 11 9 false (.fld 6 2), vg 12 9 false (.load 1 false 11), vg 13 9 false (.call 80 [10,12]), vg 14 9 false (.un .not 13), vo 15 (.pick 9 (kB true) 14), vm 3 15]) .ret))
theorem c79 : (Tryz.f79.body.bind fun c => cCode Tryz.prog 16 c) = some v79 := by kernel_rfl
def v115 : VC := (.seq (rg [vo 4 (.mv (kI 0))]) (.seq (.seq (rg [vm 6 0, vo 7 (.lenS 6), vo 8 (.mv (kI 0))]) (.block 0 (.loop (.seq (rg [vo 9 (.bin .lss 8 7)]) (.seq (.cond 9 .skip (.exit 0)) (.seq (.block 1 (.seq (rg [vm 10 8, vm 5 10]) (.seq (rg [vm 11 1, vm 12 0, vm 13 5, vo 14 (.ixA 7 12 13), vo 15 (.load 7 true 14), vo 16 (.callv 11 [15])]) (.cond 16 (.seq (rg [vm 17 5, vm 4 17]) .ret) .skip)))) (rg [vo 18 (.bin .add 8 (kI 1)), vm 8 18]))))))) (.seq (rg [vo 4 (.mv (kI (-1)))]) .ret)))
theorem c115 : (Tryz.f115.body.bind fun c => cCode Tryz.prog 19 c) = some v115 := by kernel_rfl
def v78 : VC := (.seq (rg [vo 4 (.mv (kB false))]) (.seq (rg [vm 5 0, vm 6 1, vo 7 (.call 115 [5,6]), vo 8 (.bin .geq 7 (kI 0)), vm 4 8]) .ret))
theorem c78 : (Tryz.f78.body.bind fun c => cCode Tryz.prog 9 c) = some v78 := by kernel_rfl
def v82 : VC := (.seq (rg [vo 2 (.box 94 0), vo 3 (.mv (kB false))]) (.seq (rg [vo 4 (.load 2 true 1), vo 5 (.fld 1 2), vo 6 (.load 1 false 5), vo 7 (.call 80 [4,6]), vo 8 (.un .not 7), vm 3 8]) .ret))
theorem c82 : (Tryz.f82.body.bind fun c => cCode Tryz.prog 9 c) = some v82 := by kernel_rfl
def v116 : VC := (.seq (rg [vo 4 (.mv (kI 0))]) (.seq (.seq (rg [vm 6 0, vo 7 (.lenS 6), vo 8 (.mv (kI 0))]) (.block 0 (.loop (.seq (rg [vo 9 (.bin .lss 8 7)]) (.seq (.cond 9 .skip (.exit 0)) (.seq (.block 1 (.seq (rg [vm 10 8, vm 5 10]) (.seq (rg [vm 11 1, vm 12 0, vm 13 5, vo 14 (.ixA 4 12 13), vo 15 (.load 4 true 14), vo 16 (.callv 11 [15])]) (.cond 16 (.seq (rg [vm 17 5, vm 4 17]) .ret) .skip)))) (rg [vo 18 (.bin .add 8 (kI 1)), vm 8 18]))))))) (.seq (rg [vo 4 (.mv (kI (-1)))]) .ret)))
theorem c116 : (Tryz.f116.body.bind fun c => cCode Tryz.prog 19 c) = some v116 := by kernel_rfl
def v81 : VC := (.seq (rg [vo 4 (.mv (kB false))]) (.seq (rg [vm 5 0, vm 6 1, vo 7 (.call 116 [5,6]), vo 8 (.bin .geq 7 (kI 0)), vm 4 8]) .ret))
theorem c81 : (Tryz.f81.body.bind fun c => cCode Tryz.prog 9 c) = some v81 := by kernel_rfl
def v84 : VC := (.seq (rg [vo 2 (.box 96 0), vo 3 (.mv (kB false))]) (.seq (rg [vo 4 (.load 2 true 1), vo 5 (.fld 1 2), vo 6 (.load 1 false 5), vo 7 (.call 80 [4,6]), vo 8 (.un .not 7), vm 3 8]) .ret))
theorem c84 : (Tryz.f84.body.bind fun c => cCode Tryz.prog 9 c) = some v84 := by kernel_rfl
def v117 : VC := (.seq (rg [vo 4 (.mv (kI 0))]) (.seq (.seq (rg [vm 6 0, vo 7 (.lenS 6), vo 8 (.mv (kI 0))]) (.block 0 (.loop (.seq (rg [vo 9 (.bin .lss 8 7)]) (.seq (.cond 9 .skip (.exit 0)) (.seq (.block 1 (.seq (rg [vm 10 8, vm 5 10]) (.seq (rg [vm 11 1, vm 12 0, vm 13 5, vo 14 (.ixA 3 12 13), vo 15 (.load 3 true 14), vo 16 (.callv 11 [15])]) (.cond 16 (.seq (rg [vm 17 5, vm 4 17]) .ret) .skip)))) (rg [vo 18 (.bin .add 8 (kI 1)), vm 8 18]))))))) (.seq (rg [vo 4 (.mv (kI (-1)))]) .ret)))
theorem c117 : (Tryz.f117.body.bind fun c => cCode Tryz.prog 19 c) = some v117 := by kernel_rfl
def v83 : VC := (.seq (rg [vo 4 (.mv (kB false))]) (.seq (rg [vm 5 0, vm 6 1, vo 7 (.call 117 [5,6]), vo 8 (.bin .geq 7 (kI 0)), vm 4 8]) .ret))
theorem c83 : (Tryz.f83.body.bind fun c => cCode Tryz.prog 9 c) = some v83 := by kernel_rfl
def v45 : VC := (.seq (rg [vo 1 (.box 33 0), vo 2 (.mv (kB false))]) (.seq (rg [vo 4 (.fld 0 1), vo 5 (.load 2 true 4), vo 3 (.alloc 23 [(iI 0),(iI 0)]), vp (.store 2 3 5)]) (.seq (rg [vo 6 (.fld 3 1), vo 7 (.load 1 false 6), vo 8 (.mkfn 72 [3]), vo 9 (.call 71 [7,8]), vm 10 9, vg 11 10 false (.fld 4 1), vg 12 10 false (.load 1 false 11), vg 13 10 false (.mkfn 75 [3]), vg 14 10 false (.call 74 [12,13]), vo 15 (.pick 10 (kB true) 14), vm 16 15, vg 17 16 false (.fld 8 1), vg 18 16 false (.load 1 false 17), vg 19 16 false (.mkfn 77 [3]), vg 20 16 false (.call 76 [18,19]), vo 21 (.pick 16 (kB true) 20), vm 22 21, vg 23 22 false (.fld 5 1), vg 24 22 false (.load 1 false 23), vg 25 22 false (.mkfn 79 [3]), vg 26 22 false (.call 78 [24,25]), vo 27 (.pick 22 (kB true) 26), vm 28 27, vg 29 28 false (.fld 6 1), vg 30 28 false (.load 1 false 29), vg 31 28 false (.mkfn 82 [3]), vg 32 28 false (.call 81 [30,31]), vo 33 (.pick 28 (kB true) 32), vm 34 33, vg 35 34 false (.fld 7 1), vg 36 34 false (.load 1 false 35), vg 37 34 false (.mkfn 84 [3]), vg 38 34 false (.call 83 [36,37]), vo 39 (.pick 34 (kB true) 38), vm 2 39]) .ret)))
theorem c45 : (Tryz.f45.body.bind fun c => cCode Tryz.prog 40 c) = some v45 := by kernel_rfl
def v36 : VC := (.seq (rg [vo 1 (.box 33 0), vo 2 (.mv (kI 0))]) (.seq (.seq (rg [vo 4 (.load 10 true 1), vo 5 (.call 44 [4]), vm 3 5]) (.seq (rg [vm 6 3, vo 7 (.bin .neq 6 (kI 0))]) (.cond 7 (.seq (rg [vm 8 3, vm 2 8]) .ret) .skip))) (.seq (.seq (rg [vo 9 (.fld 0 1), vo 10 (.fld 0 9), vo 11 (.load 1 false 10), vo 12 (.bin .lss 11 (kI 0)), vm 13 12, vg 14 13 false (.fld 0 1), vg 15 13 false (.fld 0 14), vg 16 13 false (.load 1 false 15), vg 17 13 false (.fld 0 1), vg 18 13 false (.fld 1 17), vg 19 13 false (.load 1 false 18), vg 20 13 false (.bin .gtr 16 19), vo 21 (.pick 13 (kB true) 20), vm 22 21, vg 23 22 false (.fld 0 1), vg 24 22 false (.fld 1 23), vg 25 22 false (.load 1 false 24), vg 26 22 false (.bin .gtr 25 (kI 1000000000000)), vo 27 (.pick 22 (kB true) 26)]) (.cond 27 (.seq (rg [vo 2 (.mv (kI 2))]) .ret) .skip)) (.seq (.seq (rg [vo 28 (.load 10 true 1), vo 29 (.call 45 [28])]) (.cond 29 (.seq (rg [vo 2 (.mv (kI 10))]) .ret) .skip)) (.seq (rg [vo 2 (.mv (kI 0))]) .ret)))))
theorem c36 : (Tryz.f36.body.bind fun c => cCode Tryz.prog 30 c) = some v36 := by kernel_rfl
def v47 : VC := (.seq (rg [vo 2 (.box 74 0), vo 3 (.mv (kB false))]) (.seq (rg [vo 4 (.fld 0 2), vo 5 (.load 1 false 4), vo 6 (.load 1 false 1), vo 7 (.bin .eql 5 6), vm 3 7]) .ret))
theorem c47 : (Tryz.f47.body.bind fun c => cCode Tryz.prog 8 c) = some v47 := by kernel_rfl
def v85 : VC := (.seq (rg [vo 4 (.mv (kI 0))]) (.seq (.seq (rg [vm 6 0, vo 7 (.lenS 6), vo 8 (.mv (kI 0))]) (.block 0 (.loop (.seq (rg [vo 9 (.bin .lss 8 7)]) (.seq (.cond 9 .skip (.exit 0)) (.seq (.block 1 (.seq (rg [vm 10 8, vm 5 10]) (.seq (rg [vm 11 1, vm 12 0, vm 13 5, vo 14 (.ixA 3 12 13), vo 15 (.load 3 true 14), vo 16 (.callv 11 [15])]) (.cond 16 (.seq (rg [vm 17 5, vm 4 17]) .ret) .skip)))) (rg [vo 18 (.bin .add 8 (kI 1)), vm 8 18]))))))) (.seq (rg [vo 4 (.mv (kI (-1)))]) .ret)))
theorem c85 : (Tryz.f85.body.bind fun c => cCode Tryz.prog 19 c) = some v85 := by kernel_rfl
def v46 : VC := (.seq (rg [vo 4 (.mv (kB false))]) (.seq (rg [vm 5 0, vm 6 1, vo 7 (.call 85 [5,6]), vo 8 (.bin .geq 7 (kI 0)), vm 4 8]) .ret))
theorem c46 : (Tryz.f46.body.bind fun c => cCode Tryz.prog 9 c) = some v46 := by kernel_rfl
def v37 : VC := (.seq (rg [vo 2 (.box 33 0), vo 3 (.box 3 1), vo 4 (.mv (kB false))]) (.seq (rg [vo 5 (.fld 2 2), vo 6 (.load 1 false 5), vo 7 (.mkfn 47 [3]), vo 8 (.call 46 [6,7]), vm 4 8]) .ret))
theorem c37 : (Tryz.f37.body.bind fun c => cCode Tryz.prog 9 c) = some v37 := by kernel_rfl
def v21 : VC := (.seq (rg [vo 6 (.alloc 52 [(iI 0),(iI 0),(iI 0),(iI 0),(iI 0),(iI 0),(iI 0)]), vo 7 (.mv (kB false))]) (.seq (.seq (rg [vm 10 0, vo 11 (.lenS 10), vo 12 (.mv (kI 0))]) (.block 0 (.loop (.seq (rg [vo 13 (.bin .lss 12 11)]) (.seq (.cond 13 .skip (.exit 0)) (.seq (.block 1 (.seq (rg [vo 14 (.ixA 7 10 12), vo 15 (.load 7 true 14), vo 9 (.alloc 52 [(iI 0),(iI 0),(iI 0),(iI 0),(iI 0),(iI 0),(iI 0)]), vp (.store 7 9 15)]) (.seq (rg [vo 16 (.fld 0 9), vo 17 (.load 1 false 16), vm 18 1, vo 19 (.bin .eql 17 18), vm 20 19, vg 21 20 true (.fld 2 9), vg 22 20 true (.fld 0 21), vg 23 20 true (.load 1 false 22), vg 24 20 true (.mv 2), vg 25 20 true (.bin .leq 23 24), vo 26 (.pick 20 25 (kB false)), vm 27 26, vg 28 27 true (.mv 2), vg 29 27 true (.fld 2 9), vg 30 27 true (.fld 1 29), vg 31 27 true (.load 1 false 30), vg 32 27 true (.bin .lss 28 31), vo 33 (.pick 27 32 (kB false))]) (.cond 33 (.seq (rg [vo 34 (.load 7 true 9), vp (.store 7 6 34), vo 7 (.mv (kB true))]) .ret) .skip)))) (rg [vo 35 (.bin .add 12 (kI 1)), vm 12 35]))))))) (.seq (rg [vo 36 (.build [(iI 0),(iI 0),(iI 0),(iI 0),(iI 0),(iI 0),(iI 0)] []), vp (.store 7 6 36), vo 7 (.mv (kB false))]) .ret)))
theorem c21 : (Tryz.f21.body.bind fun c => cCode Tryz.prog 37 c) = some v21 := by kernel_rfl
def v19 : VC := (.seq (rg [vo 3 (.box 33 0), vo 5 (.box 23 2), vo 6 (.mv (kI 0))]) (.seq (.seq (rg [vo 12 (.load 10 true 3), vo 13 (.call 36 [12]), vm 7 13]) (.seq (rg [vm 14 7, vo 15 (.bin .neq 14 (kI 0))]) (.cond 15 (.seq (rg [vm 16 7, vm 6 16]) .ret) .skip))) (.seq (.seq (rg [vo 17 (.load 10 true 3), vm 18 1, vo 19 (.call 37 [17,18]), vo 20 (.un .not 19)]) (.cond 20 (.seq (rg [vo 6 (.mv (kI 5))]) .ret) .skip)) (.seq (rg [vo 22 (.fld 4 3), vo 23 (.load 1 false 22), vm 24 1, vo 25 (.fld 0 5), vo 26 (.load 1 false 25), vo 27 (.call 21 [23,24,26]), vm 21 27, vo 28 (.ext 21 0), vo 29 (.ext 21 1), vo 8 (.alloc 52 [(iI 0),(iI 0),(iI 0),(iI 0),(iI 0),(iI 0),(iI 0)]), vp (.store 7 8 28), vm 9 29]) (.seq (rg [vo 31 (.fld 4 3), vo 32 (.load 1 false 31), vm 33 1, vo 34 (.fld 1 5), vo 35 (.load 1 false 34), vo 36 (.bin .sub 35 (kI 1)), vo 37 (.call 21 [32,33,36]), vm 30 37, vo 38 (.ext 30 0), vo 39 (.ext 30 1), vo 10 (.alloc 52 [(iI 0),(iI 0),(iI 0),(iI 0),(iI 0),(iI 0),(iI 0)]), vp (.store 7 10 38), vm 11 39]) (.seq (.seq (rg [vo 40 (.load 2 true 5), vo 41 (.call 32 [40]), vo 42 (.un .not 41), vm 43 42, vg 44 43 false (.mv 9), vg 45 43 false (.un .not 44), vo 46 (.pick 43 (kB true) 45), vm 47 46, vg 48 47 false (.mv 11), vg 49 47 false (.un .not 48), vo 50 (.pick 47 (kB true) 49)]) (.cond 50 (.seq (rg [vo 6 (.mv (kI 1))]) .ret) .skip)) (.seq (rg [vo 6 (.mv (kI 0))]) .ret)))))))
theorem c19 : (Tryz.f19.body.bind fun c => cCode Tryz.prog 51 c) = some v19 := by kernel_rfl
def v20 : VC := (.seq (rg [vo 3 (.box 33 0), vo 6 (.mv (kI 0)), vo 7 (.mv (kB false))]) (.seq (rg [vo 12 (.fld 4 3), vo 13 (.load 1 false 12), vm 14 1, vm 15 2, vo 16 (.bin .sub 15 (kI 1)), vo 17 (.call 21 [13,14,16]), vm 11 17, vo 18 (.ext 11 0), vo 19 (.ext 11 1), vo 8 (.alloc 52 [(iI 0),(iI 0),(iI 0),(iI 0),(iI 0),(iI 0),(iI 0)]), vp (.store 7 8 18), vm 9 19]) (.seq (rg [vo 20 (.fld 1 8), vo 21 (.load 1 false 20), vo 22 (.bin .eql 21 (kI 1)), vm 23 22, vg 24 23 false (.fld 1 8), vg 25 23 false (.load 1 false 24), vg 26 23 false (.bin .eql 25 (kI 2)), vo 27 (.pick 23 (kB true) 26), vm 10 27]) (.seq (.seq (rg [vm 28 9, vo 29 (.un .not 28), vm 30 29, vg 31 30 false (.mv 10), vg 32 30 false (.un .not 31), vo 33 (.pick 30 (kB true) 32), vm 34 33, vg 35 34 false (.fld 2 8), vg 36 34 false (.fld 1 35), vg 37 34 false (.load 1 false 36), vg 38 34 false (.mv 2), vg 39 34 false (.bin .neq 37 38), vo 40 (.pick 34 (kB true) 39), vm 41 40, vg 42 41 false (.load 10 true 3), vg 43 41 false (.fld 6 8), vg 44 41 false (.load 1 false 43), vg 45 41 false (.call 37 [42,44]), vg 46 41 false (.un .not 45), vo 47 (.pick 41 (kB true) 46)]) (.cond 47 (.seq (rg [vo 6 (.mv (kI 0)), vo 7 (.mv (kB false))]) .ret) .skip)) (.seq (rg [vo 48 (.fld 6 8), vo 49 (.load 1 false 48), vm 6 49, vo 7 (.mv (kB true))]) .ret)))))
theorem c20 : (Tryz.f20.body.bind fun c => cCode Tryz.prog 50 c) = some v20 := by kernel_rfl
def v22 : VC := (.seq (rg [vm 4 0, vo 5 (.lenS 4), vo 6 (.bin .sub 5 (kI 1)), vo 2 (.mv (kI 0)), vm 3 6]) (.block 0 (.loop (.seq (.seq (rg [vm 7 2, vm 8 3, vo 9 (.bin .lss 7 8)]) (.cond 9 .skip (.exit 0))) (.seq (.block 1 (.region (some [0,0,0,0,0,0,48,112,0,0,768,1792,4083,8179,16383,32767]) [vm 14 0, vm 15 2, vm 16 0, vm 17 3, vm 18 0, vm 19 3, vo 20 (.ixA 4 18 19), vo 21 (.load 4 true 20), vm 22 0, vm 23 2, vo 24 (.ixA 4 22 23), vo 25 (.load 4 true 24), vo 26 (.ixA 4 14 15), vp (.store 4 26 21), vo 27 (.ixA 4 16 17), vp (.store 4 27 25)])) (rg [vm 10 2, vo 11 (.bin .add 10 (kI 1)), vm 12 3, vo 13 (.bin .sub 12 (kI 1)), vm 2 11, vm 3 13]))))))
theorem c22 : (Tryz.f22.body.bind fun c => cCode Tryz.prog 28 c) = some v22 := by kernel_rfl
def v8 : VC := (.seq (rg [vo 3 (.box 33 0), vo 5 (.box 23 2), vo 6 (.mv (.con (.c .nilS))), vo 7 (.mv (kI 0))]) (.seq (.seq (rg [vo 17 (.load 10 true 3), vm 18 1, vo 19 (.load 2 true 5), vo 20 (.call 19 [17,18,19]), vm 8 20]) (.seq (rg [vm 21 8, vo 22 (.bin .neq 21 (kI 0))]) (.cond 22 (.seq (rg [vm 23 8, vo 6 (.mv (.con (.c .nilS))), vm 7 23]) .ret) .skip))) (.seq (rg [vo 9 (.mv (.con (.c .nilS)))]) (.seq (.seq (rg [vo 24 (.fld 1 5), vo 25 (.load 1 false 24), vm 10 25]) (.block 0 (.loop (.seq (.seq (rg [vm 26 10, vo 27 (.fld 0 5), vo 28 (.load 1 false 27), vo 29 (.bin .gtr 26 28)]) (.cond 29 .skip (.exit 0))) (.block 1 (.seq (rg [vo 30 (.mkmap (.int .i64)), vm 31 1, vp (.mupd (.int .i64) 30 31 (kB true)), vm 32 30, vm 11 32]) (.seq (.seq (rg [vo 34 (.load 10 true 3), vm 35 1, vm 36 10, vo 37 (.call 20 [34,35,36]), vm 33 37, vo 38 (.ext 33 0), vo 39 (.ext 33 1), vm 12 38, vm 13 39]) (.block 2 (.loop (.seq (.seq (rg [vm 40 13, vm 41 40, vg 42 41 true (.mv 11), vg 43 41 true (.mv 12), vg 44 41 true (.look (.int .i64) (.c (.imm (.sc (.bool false)))) false 42 43), vg 45 41 true (.un .not 44), vo 46 (.pick 41 45 (kB false))]) (.cond 46 .skip (.exit 2))) (.seq (.block 3 (.seq (rg [vm 54 12, vm 1 54]) (rg [vm 55 11, vm 56 12, vp (.mupd (.int .i64) 55 56 (kB true))]))) (rg [vo 48 (.load 10 true 3), vm 49 1, vm 50 10, vo 51 (.call 20 [48,49,50]), vm 47 51, vo 52 (.ext 47 0), vo 53 (.ext 47 1), vm 12 52, vm 13 53])))))) (.seq (rg [vo 58 (.fld 4 3), vo 59 (.load 1 false 58), vm 60 1, vm 61 10, vo 62 (.bin .sub 61 (kI 1)), vo 63 (.call 21 [59,60,62]), vm 57 63, vo 64 (.ext 57 0), vo 65 (.ext 57 1), vo 14 (.alloc 52 [(iI 0),(iI 0),(iI 0),(iI 0),(iI 0),(iI 0),(iI 0)]), vp (.store 7 14 64), vm 15 65]) (.seq (.seq (rg [vm 66 15, vo 67 (.un .not 66)]) (.cond 67 (.seq (rg [vo 6 (.mv (.con (.c .nilS))), vo 7 (.mv (kI 1))]) .ret) .skip)) (.seq (rg [vm 68 1, vo 69 (.fld 1 14), vo 70 (.load 1 false 69), vo 71 (.fld 2 14), vo 72 (.fld 0 71), vo 73 (.load 1 false 72), vo 74 (.fld 0 5), vo 75 (.load 1 false 74), vo 76 (.mm true [73,75]), vm 77 10, vo 78 (.build [(iI 0),(iI 0)] [(0,1,76),(1,1,77)]), vo 79 (.build [(iI 0),(iI 0),(iI 0),(iI 0)] [(0,1,68),(1,1,70),(2,2,78)]), vo 16 (.alloc 49 [(iI 0),(iI 0),(iI 0),(iI 0)]), vp (.store 4 16 79)]) (.seq (rg [vm 80 9, vo 81 (.load 4 true 16), vo 82 (.bsl 49 4 1 [(iI 0),(iI 0),(iI 0),(iI 0)] [(0,4,81)]), vo 83 (.app 49 4 32 80 82), vm 9 83]) (rg [vo 84 (.fld 2 16), vo 85 (.fld 0 84), vo 86 (.load 1 false 85), vm 10 86])))))))))))) (.seq (rg [vm 87 9, vo 88 (.call 22 [87])]) (.seq (rg [vm 89 9, vm 6 89, vo 7 (.mv (kI 0))]) .ret))))))
theorem c8 : (Tryz.f8.body.bind fun c => cCode Tryz.prog 90 c) = some v8 := by kernel_rfl
def v10 : VC := (.seq (rg [vo 4 (.mv (kB false))]) (.seq (.seq (rg [vm 6 0, vo 7 (.lenS 6), vm 8 1, vo 9 (.lenS 8), vo 10 (.bin .neq 7 9)]) (.cond 10 (.seq (rg [vo 4 (.mv (kB false))]) .ret) .skip)) (.seq (.seq (rg [vo 5 (.mv (kI 0))]) (.block 0 (.loop (.seq (.seq (rg [vm 11 5, vm 12 0, vo 13 (.lenS 12), vo 14 (.bin .lss 11 13)]) (.cond 14 .skip (.exit 0))) (.seq (.block 1 (.seq (.region (some [0,0,3,7,0,0,48,112,255]) [vm 17 0, vm 18 5, vo 19 (.ixA 4 17 18), vo 20 (.load 4 true 19), vm 21 1, vm 22 5, vo 23 (.ixA 4 21 22), vo 24 (.load 4 true 23), vo 25 (.aeq true 49 20 24)]) (.cond 25 (.seq (rg [vo 4 (.mv (kB false))]) .ret) .skip))) (rg [vm 15 5, vo 16 (.bin .add 15 (kI 1)), vm 5 16])))))) (.seq (rg [vo 4 (.mv (kB true))]) .ret))))
theorem c10 : (Tryz.f10.body.bind fun c => cCode Tryz.prog 26 c) = some v10 := by kernel_rfl
def v33 : VC := (.seq (rg [vo 2 (.box 33 0), vo 3 (.box 49 1), vo 4 (.mv (kB false))]) (.seq (rg [vo 8 (.fld 4 2), vo 9 (.load 1 false 8), vo 10 (.fld 0 3), vo 11 (.load 1 false 10), vo 12 (.fld 2 3), vo 13 (.fld 0 12), vo 14 (.load 1 false 13), vo 15 (.call 21 [9,11,14]), vm 7 15, vo 16 (.ext 7 0), vo 17 (.ext 7 1), vo 5 (.alloc 52 [(iI 0),(iI 0),(iI 0),(iI 0),(iI 0),(iI 0),(iI 0)]), vp (.store 7 5 16), vm 6 17]) (.seq (rg [vm 18 6, vm 19 18, vg 20 19 true (.fld 1 5), vg 21 19 true (.load 1 false 20), vg 22 19 true (.fld 1 3), vg 23 19 true (.load 1 false 22), vg 24 19 true (.bin .eql 21 23), vo 25 (.pick 19 24 (kB false)), vm 26 25, vg 27 26 true (.fld 2 3), vg 28 26 true (.fld 1 27), vg 29 26 true (.load 1 false 28), vg 30 26 true (.fld 2 5), vg 31 26 true (.fld 1 30), vg 32 26 true (.load 1 false 31), vg 33 26 true (.bin .leq 29 32), vo 34 (.pick 26 33 (kB false)), vm 4 34]) .ret)))
theorem c33 : (Tryz.f33.body.bind fun c => cCode Tryz.prog 35 c) = some v33 := by kernel_rfl
def v34 : VC := (.seq (rg [vo 4 (.box 33 0), vo 8 (.mv (kB false))]) (.seq (.seq (rg [vo 12 (.mkmap (.int .i64)), vm 9 12]) (.block 0 (.loop (.seq (.seq (rg [vm 13 9, vm 14 1, vo 15 (.look (.int .i64) (.c (.imm (.sc (.bool false)))) false 13 14), vo 16 (.un .not 15)]) (.cond 16 .skip (.exit 0))) (.block 1 (.seq (.seq (rg [vm 17 1, vm 18 2, vo 19 (.bin .eql 17 18)]) (.cond 19 (.seq (rg [vo 8 (.mv (kB true))]) .ret) .skip)) (.seq (rg [vm 20 9, vm 21 1, vp (.mupd (.int .i64) 20 21 (kB true))]) (.seq (rg [vo 23 (.load 10 true 4), vm 24 1, vm 25 3, vo 26 (.call 20 [23,24,25]), vm 22 26, vo 27 (.ext 22 0), vo 28 (.ext 22 1), vm 10 27, vm 11 28]) (.seq (.seq (rg [vm 29 11, vo 30 (.un .not 29)]) (.cond 30 (.seq (rg [vo 8 (.mv (kB false))]) .ret) .skip)) (rg [vm 31 10, vm 1 31])))))))))) (.seq (rg [vo 8 (.mv (kB false))]) .ret)))
theorem c34 : (Tryz.f34.body.bind fun c => cCode Tryz.prog 32 c) = some v34 := by kernel_rfl
def v13 : VC := (.seq (rg [vo 4 (.box 33 0), vo 6 (.box 23 2), vo 8 (.mv (kB false))]) (.seq (.seq (.region (some [0,0,0,7,15,31,63,127,255,511,1023,2047,4095,8191,16383,32767,2047,67583,262143,524287,1048575,2097151,2097151,6291455,14680063,33554431,67108863,134217727,268435455,2097151,538968063,2147483647,4294967295]) [vo 12 (.load 10 true 4), vm 13 1, vo 14 (.load 2 true 6), vo 15 (.call 19 [12,13,14]), vo 16 (.bin .neq 15 (kI 0)), vm 17 16, vg 18 17 false (.mv 3), vg 19 17 false (.lenS 18), vg 20 17 false (.bin .eql 19 (kI 0)), vo 21 (.pick 17 (kB true) 20), vm 22 21, vg 23 22 false (.mv 3), vg 24 22 false (.ixA 4 23 (kI 0)), vg 25 22 false (.fld 2 24), vg 26 22 false (.fld 0 25), vg 27 22 false (.load 1 false 26), vg 28 22 false (.fld 0 6), vg 29 22 false (.load 1 false 28), vg 30 22 false (.bin .neq 27 29), vo 31 (.pick 22 (kB true) 30), vm 32 31, vg 33 32 false (.mv 3), vg 34 32 false (.mv 3), vg 35 32 false (.lenS 34), vg 36 32 false (.bin .sub 35 (kI 1)), vg 37 32 false (.ixA 4 33 36), vg 38 32 false (.fld 2 37), vg 39 32 false (.fld 1 38), vg 40 32 false (.load 1 false 39), vg 41 32 false (.fld 1 6), vg 42 32 false (.load 1 false 41), vg 43 32 false (.bin .neq 40 42), vo 44 (.pick 32 (kB true) 43)]) (.cond 44 (.seq (rg [vo 8 (.mv (kB false))]) .ret) .skip)) (.seq (.seq (rg [vm 45 3, vo 46 (.lenS 45), vo 47 (.mv (kI 0))]) (.block 0 (.loop (.seq (rg [vo 48 (.bin .lss 47 46)]) (.seq (.cond 48 .skip (.exit 0)) (.seq (.block 1 (.seq (rg [vm 49 47, vo 50 (.ixA 4 45 47), vo 51 (.load 4 true 50), vo 10 (.alloc 49 [(iI 0),(iI 0),(iI 0),(iI 0)]), vm 9 49, vp (.store 4 10 51)]) (.seq (rg [vm 52 1, vm 11 52]) (.seq (.seq (rg [vm 53 9, vo 54 (.bin .add 53 (kI 1)), vm 55 3, vo 56 (.lenS 55), vo 57 (.bin .lss 54 56)]) (.cond 57 (.seq (rg [vm 58 3, vm 59 9, vo 60 (.bin .add 59 (kI 1)), vo 61 (.ixA 4 58 60), vo 62 (.fld 0 61), vo 63 (.load 1 false 62), vm 11 63]) (.seq (.region (some [0,0,2,7,15,31,63,0,128,384,1023]) [vm 64 3, vm 65 9, vo 66 (.bin .add 65 (kI 1)), vo 67 (.ixA 4 64 66), vo 68 (.fld 2 67), vo 69 (.fld 0 68), vo 70 (.load 1 false 69), vo 71 (.fld 2 10), vo 72 (.fld 1 71), vo 73 (.load 1 false 72), vo 74 (.bin .neq 70 73)]) (.cond 74 (.seq (rg [vo 8 (.mv (kB false))]) .ret) .skip))) .skip)) (.seq (rg [vo 75 (.fld 2 10), vo 76 (.load 2 true 75), vo 77 (.call 32 [76]), vo 78 (.un .not 77), vm 79 78, vg 80 79 false (.load 10 true 4), vg 81 79 false (.load 4 true 10), vg 82 79 false (.call 33 [80,81]), vg 83 79 false (.un .not 82), vo 84 (.pick 79 (kB true) 83), vm 85 84, vg 86 85 false (.load 10 true 4), vg 87 85 false (.mv 11), vg 88 85 false (.fld 0 10), vg 89 85 false (.load 1 false 88), vg 90 85 false (.fld 2 10), vg 91 85 false (.fld 1 90), vg 92 85 false (.load 1 false 91), vg 93 85 false (.call 34 [86,87,89,92]), vg 94 85 false (.un .not 93), vo 95 (.pick 85 (kB true) 94)]) (.cond 95 (.seq (rg [vo 8 (.mv (kB false))]) .ret) .skip)))))) (rg [vo 96 (.bin .add 47 (kI 1)), vm 47 96]))))))) (.seq (rg [vo 8 (.mv (kB true))]) .ret))))
theorem c13 : (Tryz.f13.body.bind fun c => cCode Tryz.prog 97 c) = some v13 := by kernel_rfl
def v7 : VC := (.seq (rg [vo 0 (.mv (kB false))]) (.seq (rg [vo 9 (.call 18 [(kI 1),(kI 4),(kI 0),(kI 5),(kI (-1)),(kI (-1))]), vo 10 (.call 18 [(kI 1),(kI 2),(kI 5),(kI 9),(kI 2),(kI 2)]), vo 11 (.call 18 [(kI 1),(kI 4),(kI 9),(kI 10),(kI (-1)),(kI (-1))]), vo 12 (.call 18 [(kI 2),(kI 1),(kI 0),(kI 3),(kI (-1)),(kI (-1))]), vo 13 (.call 18 [(kI 2),(kI 4),(kI 3),(kI 9),(kI (-1)),(kI (-1))]), vo 14 (.call 18 [(kI 2),(kI 0),(kI 9),(kI 10),(kI (-1)),(kI (-1))]), vo 15 (.bsl 52 7 6 [(iI 0),(iI 0),(iI 0),(iI 0),(iI 0),(iI 0),(iI 0)] [(0,7,9),(7,7,10),(14,7,11),(21,7,12),(28,7,13),(35,7,14)]), vo 16 (.call 17 [15]), vo 1 (.alloc 33 [(iI 0),(iI 0),.nilS,.nilS,.nilS,.nilS,.nilS,.nilS,.nilS,.nilS]), vp (.store 10 1 16)]) (.seq (rg [vo 18 (.load 10 true 1), vo 19 (.build [(iI 0),(iI 0)] [(0,1,(kI 4)),(1,1,(kI 9))]), vo 20 (.call 8 [18,(kI 1),19]), vm 17 20, vo 21 (.ext 17 0), vo 22 (.ext 17 1), vm 2 21, vm 3 22]) (.seq (rg [vo 23 (.call 18 [(kI 1),(kI 2),(kI 0),(kI 6),(kI 2),(kI 2)]), vo 24 (.call 18 [(kI 1),(kI 4),(kI 6),(kI 10),(kI (-1)),(kI (-1))]), vo 25 (.call 18 [(kI 2),(kI 2),(kI 0),(kI 6),(kI 1),(kI 1)]), vo 26 (.call 18 [(kI 2),(kI 4),(kI 6),(kI 10),(kI (-1)),(kI (-1))]), vo 27 (.bsl 52 7 4 [(iI 0),(iI 0),(iI 0),(iI 0),(iI 0),(iI 0),(iI 0)] [(0,7,23),(7,7,24),(14,7,25),(21,7,26)]), vo 28 (.call 17 [27]), vo 4 (.alloc 33 [(iI 0),(iI 0),.nilS,.nilS,.nilS,.nilS,.nilS,.nilS,.nilS,.nilS]), vp (.store 10 4 28)]) (.seq (rg [vo 30 (.load 10 true 4), vo 31 (.build [(iI 0),(iI 0)] [(0,1,(kI 2)),(1,1,(kI 6))]), vo 32 (.call 8 [30,(kI 1),31]), vm 29 32, vo 33 (.ext 29 0), vo 34 (.ext 29 1), vm 5 33, vm 6 34]) (.seq (rg [vo 36 (.load 10 true 4), vo 37 (.build [(iI 0),(iI 0)] [(0,1,(kI 7)),(1,1,(kI 9))]), vo 38 (.call 8 [36,(kI 1),37]), vm 35 38, vo 39 (.ext 35 0), vo 40 (.ext 35 1), vm 7 39, vm 8 40]) (.seq (rg [vm 41 3, vo 42 (.bin .eql 41 (kI 0)), vm 43 42, vg 44 43 true (.mv 2), vg 45 43 true (.build [(iI 0),(iI 0)] [(0,1,(kI 4)),(1,1,(kI 9))]), vg 46 43 true (.build [(iI 0),(iI 0),(iI 0),(iI 0)] [(0,1,(kI 2)),(1,1,(kI 4)),(2,2,45)]), vg 47 43 true (.bsl 49 4 1 [(iI 0),(iI 0),(iI 0),(iI 0)] [(0,4,46)]), vg 48 43 true (.call 10 [44,47]), vo 49 (.pick 43 48 (kB false)), vm 50 49, vg 51 50 true (.mv 6), vg 52 50 true (.bin .eql 51 (kI 0)), vo 53 (.pick 50 52 (kB false)), vm 54 53, vg 55 54 true (.mv 5), vg 56 54 true (.build [(iI 0),(iI 0)] [(0,1,(kI 2)),(1,1,(kI 6))]), vg 57 54 true (.build [(iI 0),(iI 0),(iI 0),(iI 0)] [(0,1,(kI 2)),(1,1,(kI 2)),(2,2,56)]), vg 58 54 true (.bsl 49 4 1 [(iI 0),(iI 0),(iI 0),(iI 0)] [(0,4,57)]), vg 59 54 true (.call 10 [55,58]), vo 60 (.pick 54 59 (kB false)), vm 61 60, vg 62 61 true (.mv 8), vg 63 61 true (.bin .eql 62 (kI 0)), vo 64 (.pick 61 63 (kB false)), vm 65 64, vg 66 65 true (.mv 7), vg 67 65 true (.lenS 66), vg 68 65 true (.bin .eql 67 (kI 1)), vo 69 (.pick 65 68 (kB false)), vm 70 69, vg 71 70 true (.load 10 true 4), vg 72 70 true (.build [(iI 0),(iI 0)] [(0,1,(kI 2)),(1,1,(kI 6))]), vg 73 70 true (.mv 5), vg 74 70 true (.call 13 [71,(kI 1),72,73]), vo 75 (.pick 70 74 (kB false)), vm 0 75]) .ret)))))))
theorem c7 : (Tryz.f7.body.bind fun c => cCode Tryz.prog 76 c) = some v7 := by kernel_rfl
def v27 : VC := (.seq (rg [vo 1 (.box 49 0), vo 2 (.mv (kI 0))]) (.seq (.seq (rg [vo 3 (.fld 2 1), vo 4 (.load 2 true 3), vo 5 (.call 32 [4]), vo 6 (.un .not 5)]) (.cond 6 (.seq (rg [vo 2 (.mv (kI 0))]) .ret) .skip)) (.seq (rg [vo 7 (.fld 2 1), vo 8 (.fld 1 7), vo 9 (.load 1 false 8), vo 10 (.fld 2 1), vo 11 (.fld 0 10), vo 12 (.load 1 false 11), vo 13 (.bin .sub 9 12), vm 2 13]) .ret)))
theorem c27 : (Tryz.f27.body.bind fun c => cCode Tryz.prog 14 c) = some v27 := by kernel_rfl
def v15 : VC := (.seq (rg [vo 4 (.mv (kI 0))]) (.seq (rg [vo 5 (.mv (kI 0))]) (.seq (.seq (rg [vm 8 0, vo 9 (.lenS 8), vo 10 (.mv (kI 0))]) (.block 0 (.loop (.seq (rg [vo 11 (.bin .lss 10 9)]) (.seq (.cond 11 .skip (.exit 0)) (.seq (.block 1 (.seq (rg [vo 12 (.ixA 4 8 10), vo 13 (.load 4 true 12), vo 7 (.alloc 49 [(iI 0),(iI 0),(iI 0),(iI 0)]), vp (.store 4 7 13)]) (.seq (rg [vo 14 (.fld 1 7), vo 15 (.load 1 false 14), vm 16 1, vo 17 (.bin .eql 15 16)]) (.cond 17 (rg [vm 18 5, vo 19 (.load 4 true 7), vo 20 (.call 27 [19]), vo 21 (.bin .add 18 20), vm 5 21]) .skip)))) (rg [vo 22 (.bin .add 10 (kI 1)), vm 10 22]))))))) (.seq (rg [vm 23 5, vm 4 23]) .ret))))
theorem c15 : (Tryz.f15.body.bind fun c => cCode Tryz.prog 24 c) = some v15 := by kernel_rfl
def v11 : VC := (.seq (rg [vo 2 (.mv (.con (.c .nilS)))]) (.seq (rg [vo 10 (.mkmap (.int .i64)), vm 3 10]) (.seq (.seq (rg [vm 11 0, vo 12 (.lenS 11), vo 13 (.mv (kI 0))]) (.block 0 (.loop (.seq (rg [vo 14 (.bin .lss 13 12)]) (.seq (.cond 14 .skip (.exit 0)) (.seq (.block 1 (.seq (rg [vo 15 (.ixA 4 11 13), vo 16 (.load 4 true 15), vo 5 (.alloc 49 [(iI 0),(iI 0),(iI 0),(iI 0)]), vp (.store 4 5 16)]) (.seq (rg [vo 17 (.load 4 true 5), vo 18 (.call 27 [17]), vm 6 18]) (.seq (rg [vm 19 6, vo 20 (.bin .gtr 19 (kI 0))]) (.cond 20 (rg [vm 21 3, vo 22 (.fld 0 5), vo 23 (.load 1 false 22), vo 24 (.look (.int .i64) (.c (iI 0)) false 21 23), vm 25 6, vo 26 (.bin .add 24 25), vp (.mupd (.int .i64) 21 23 26)]) .skip))))) (rg [vo 27 (.bin .add 13 (kI 1)), vm 13 27]))))))) (.seq (rg [vo 7 (.mv (.con (.c .nilS)))]) (.seq (.seq (rg [vm 28 3, vo 29 (.call 29 [28]), vo 30 (.call 28 [29,(.fn 30)]), vo 31 (.lenS 30), vo 32 (.mv (kI 0))]) (.block 2 (.loop (.seq (rg [vo 33 (.bin .lss 32 31)]) (.seq (.cond 33 .skip (.exit 2)) (.seq (.block 3 (.seq (rg [vo 34 (.ixA 1 30 32), vo 35 (.load 1 false 34), vm 9 35]) (rg [vm 36 7, vm 37 9, vm 38 3, vm 39 9, vo 40 (.look (.int .i64) (.c (iI 0)) false 38 39), vo 41 (.build [(iI 0),(iI 0)] [(0,1,37),(1,1,40)]), vo 42 (.bsl 46 2 1 [(iI 0),(iI 0)] [(0,2,41)]), vo 43 (.app 46 2 16 36 42), vm 7 43]))) (rg [vo 44 (.bin .add 32 (kI 1)), vm 32 44]))))))) (.seq (rg [vm 45 7, vm 2 45]) .ret))))))
theorem c11 : (Tryz.f11.body.bind fun c => cCode Tryz.prog 46 c) = some v11 := by kernel_rfl
def v5 : VC := (.seq (rg [vo 3 (.box 33 0), vo 5 (.box 23 2), vo 6 (.mv (kB false))]) (.seq (.seq (rg [vo 17 (.load 10 true 3), vo 18 (.call 6 [17]), vo 19 (.un .not 18)]) (.cond 19 (.seq (rg [vo 20 (.call 7 []), vm 6 20]) .ret) .skip)) (.seq (rg [vo 22 (.load 10 true 3), vm 23 1, vo 24 (.load 2 true 5), vo 25 (.call 8 [22,23,24]), vm 21 25, vo 26 (.ext 21 0), vo 27 (.ext 21 1), vm 7 26, vm 8 27]) (.seq (.seq (rg [vm 28 8, vo 29 (.bin .neq 28 (kI 0))]) (.cond 29 (.seq (rg [vm 30 7, vo 31 (.lenS 30), vo 32 (.bin .eql 31 (kI 0)), vm 33 32, vg 34 33 true (.call 7 []), vo 35 (.pick 33 34 (kB false)), vm 6 35]) .ret) .skip)) (.seq (rg [vo 36 (.fld 0 5), vo 37 (.load 1 false 36), vm 9 37, vo 10 (.mv (kI 0)), vo 11 (.mv (kI 0))]) (.seq (.seq (rg [vm 38 7, vo 39 (.lenS 38), vo 40 (.mv (kI 0))]) (.block 0 (.loop (.seq (rg [vo 41 (.bin .lss 40 39)]) (.seq (.cond 41 .skip (.exit 0)) (.seq (.block 1 (.seq (rg [vo 42 (.ixA 4 38 40), vo 43 (.load 4 true 42), vo 13 (.alloc 49 [(iI 0),(iI 0),(iI 0),(iI 0)]), vp (.store 4 13 43)]) (.seq (.seq (rg [vo 44 (.fld 2 13), vo 45 (.fld 0 44), vo 46 (.load 1 false 45), vm 47 9, vo 48 (.bin .neq 46 47), vm 49 48, vg 50 49 false (.fld 2 13), vg 51 49 false (.fld 1 50), vg 52 49 false (.load 1 false 51), vg 53 49 false (.mv 9), vg 54 49 false (.bin .leq 52 53), vo 55 (.pick 49 (kB true) 54)]) (.cond 55 (.seq (rg [vo 6 (.mv (kB false))]) .ret) .skip)) (rg [vo 56 (.fld 2 13), vo 57 (.fld 1 56), vo 58 (.load 1 false 57), vm 9 58])))) (rg [vo 59 (.bin .add 40 (kI 1)), vm 40 59]))))))) (.seq (.seq (rg [vo 14 (.mv (kI 0))]) (.block 2 (.loop (.seq (.seq (rg [vm 60 14, vo 61 (.bin .leq 60 (kI 5))]) (.cond 61 .skip (.exit 2))) (.seq (.block 3 (rg [vm 64 10, vm 65 7, vm 66 14, vo 67 (.call 15 [65,66]), vo 68 (.bin .add 64 67), vm 10 68])) (rg [vm 62 14, vo 63 (.bin .add 62 (kI 1)), vm 14 63])))))) (.seq (.seq (rg [vm 69 7, vo 70 (.call 11 [69]), vo 71 (.lenS 70), vo 72 (.mv (kI 0))]) (.block 4 (.loop (.seq (rg [vo 73 (.bin .lss 72 71)]) (.seq (.cond 73 .skip (.exit 4)) (.seq (.block 5 (.seq (rg [vo 74 (.ixA 2 70 72), vo 75 (.load 2 true 74), vo 16 (.alloc 46 [(iI 0),(iI 0)]), vp (.store 2 16 75)]) (rg [vm 76 11, vo 77 (.ixAA 2 1 16 (kI 1)), vo 78 (.load 1 false 77), vo 79 (.bin .add 76 78), vm 11 79]))) (rg [vo 80 (.bin .add 72 (kI 1)), vm 72 80]))))))) (.seq (rg [vm 81 9, vo 82 (.fld 1 5), vo 83 (.load 1 false 82), vo 84 (.bin .eql 81 83), vm 85 84, vg 86 85 true (.mv 10), vg 87 85 true (.fld 1 5), vg 88 85 true (.load 1 false 87), vg 89 85 true (.fld 0 5), vg 90 85 true (.load 1 false 89), vg 91 85 true (.bin .sub 88 90), vg 92 85 true (.bin .eql 86 91), vo 93 (.pick 85 92 (kB false)), vm 94 93, vg 95 94 true (.mv 11), vg 96 94 true (.mv 10), vg 97 94 true (.bin .eql 95 96), vo 98 (.pick 94 97 (kB false)), vm 99 98, vg 100 99 true (.call 7 []), vo 101 (.pick 99 100 (kB false)), vm 6 101]) .ret)))))))))
theorem c5 : (Tryz.f5.body.bind fun c => cCode Tryz.prog 102 c) = some v5 := by kernel_rfl
theorem fnOk47 : fnOk Tryz.prog 47 = true := by kernel_rfl
theorem fnOk57 : fnOk Tryz.prog 57 = true := by kernel_rfl
theorem fnOk61 : fnOk Tryz.prog 61 = true := by kernel_rfl
theorem fnOk62 : fnOk Tryz.prog 62 = true := by kernel_rfl
theorem fnOk65 : fnOk Tryz.prog 65 = true := by kernel_rfl
theorem fnOk69 : fnOk Tryz.prog 69 = true := by kernel_rfl
theorem fnOk72 : fnOk Tryz.prog 72 = true := by kernel_rfl
theorem fnOk75 : fnOk Tryz.prog 75 = true := by kernel_rfl
theorem fnOk77 : fnOk Tryz.prog 77 = true := by kernel_rfl
theorem fnOk79 : fnOk Tryz.prog 79 = true := by kernel_rfl
theorem fnOk82 : fnOk Tryz.prog 82 = true := by kernel_rfl
theorem fnOk84 : fnOk Tryz.prog 84 = true := by kernel_rfl
def tracebooklaw48_few (p0 : api_Trace) : Option Bool :=
  (((bif (decide ((List.length p0.fThreads : Int) ≤ 20)) then (bif (decide ((List.length p0.fSlices : Int) ≤ 60)) then (bif (decide ((List.length p0.fStates : Int) ≤ 200)) then (bif (decide ((List.length p0.fFlows : Int) ≤ 60)) then (bif (decide ((List.length p0.fSamples : Int) ≤ 60)) then (bif (decide ((List.length p0.fSteps : Int) ≤ 60)) then (bif (decide ((List.length p0.fBlocks : Int) ≤ 60)) then some (decide ((List.length p0.fLost : Int) ≤ 50)) else some false) else some false) else some false) else some false) else some false) else some false) else some false) : Option Bool).bind fun v1 => some v1)
theorem tracebooklaw48_few_fun (p0 : api_Trace) (r : Bool) (hF : tracebooklaw48_few p0 = some r) : Fun Tryz.prog 6 true [] [.agg (m_api_Trace p0)] noHeap (cB r) noHeap := by
 refine Fun.of_walk0 Tryz.func6 c6 (by kernel_rfl) (rs := [.tmp 2]) (by kernel_rfl) ?_; unfold v6
 unfold tracebooklaw48_few at hF
 refine wA rfl ?_; refine W_seq ?_; refine W_join (fun _ _ h => h) hF (fun v1 => [(2, cB v1)]) (fun v1 => []) ?_ ?_
 · rintro v1 hF
   cases hF
   exact W_ret wR
 intro join hF
 refine wD 2 rfl ?_; refine rS (T_len (tc := t_api_Thread) p0.fThreads .tree ?_); refine Q_run SV 2 rfl ?_; cases h2 : (decide ((List.length p0.fThreads : Int) ≤ 20))
 · have hF := bF' h2 hF; refine QV rfl ?_; exact join false _ _ hF sw
 have hF := bT' h2 hF; refine Q_run SV 2 rfl ?_; refine R_step SV rfl (T_len (tc := t_api_Slice) p0.fSlices .tree ?_); refine Q_run SV 3 rfl ?_; cases h3 : (decide ((List.length p0.fSlices : Int) ≤ 60))
 · have hF := bF' h3 hF; refine QV rfl ?_; exact join false _ _ hF sw
 have hF := bT' h3 hF; refine Q_run SV 2 rfl ?_; refine R_step SV rfl (T_len (tc := t_api_State) p0.fStates .tree ?_); refine Q_run SV 3 rfl ?_; cases h4 : (decide ((List.length p0.fStates : Int) ≤ 200))
 · have hF := bF' h4 hF; refine QV rfl ?_; exact join false _ _ hF sw
 have hF := bT' h4 hF; refine Q_run SV 2 rfl ?_; refine R_step SV rfl (T_len (tc := t_api_Flow) p0.fFlows .tree ?_); refine Q_run SV 3 rfl ?_; cases h5 : (decide ((List.length p0.fFlows : Int) ≤ 60))
 · have hF := bF' h5 hF; refine QV rfl ?_; exact join false _ _ hF sw
 have hF := bT' h5 hF; refine Q_run SV 2 rfl ?_; refine R_step SV rfl (T_len (tc := t_api_Sample) p0.fSamples .tree ?_); refine Q_run SV 3 rfl ?_; cases h6 : (decide ((List.length p0.fSamples : Int) ≤ 60))
 · have hF := bF' h6 hF; refine QV rfl ?_; exact join false _ _ hF sw
 have hF := bT' h6 hF; refine Q_run SV 2 rfl ?_; refine R_step SV rfl (T_len (tc := t_api_Step) p0.fSteps .tree ?_); refine Q_run SV 3 rfl ?_; cases h7 : (decide ((List.length p0.fSteps : Int) ≤ 60))
 · have hF := bF' h7 hF; refine QV rfl ?_; exact join false _ _ hF sw
 have hF := bT' h7 hF; refine Q_run SV 2 rfl ?_; refine R_step SV rfl (T_len (tc := t_api_Block) p0.fBlocks .tree ?_); refine Q_run SV 3 rfl ?_; cases h8 : (decide ((List.length p0.fBlocks : Int) ≤ 60))
 · have hF := bF' h8 hF; refine QV rfl ?_; exact join false _ _ hF sw
 have hF := bT' h8 hF; refine Q_run SV 2 rfl ?_; refine R_step SV rfl (T_len (tc := t_api_Loss) p0.fLost .tree ?_); refine QV rfl ?_; exact join (decide ((List.length p0.fLost : Int) ≤ 50)) _ _ hF sw
def tracebooklaw48_piece (p0 : Int) (p1 : Int) (p2 : Int) (p3 : Int) (p4 : Int) (p5 : Int) : Option api_State :=
  (((bif (decide (p1 = 4)) then some p0 else some (-1)) : Option Int).bind fun v1 => some ({ fThread := p0, fState := p1, fSpan := ({ fFrom := p2, fTo := p3 } : api_Span), fCpu := v1, fOn := p4, fBy := p5 } : api_State))
theorem tracebooklaw48_piece_fun (p0 : Int) (p1 : Int) (p2 : Int) (p3 : Int) (p4 : Int) (p5 : Int) (r : api_State) (hF : tracebooklaw48_piece p0 p1 p2 p3 p4 p5 = some r) : Fun Tryz.prog 18 true [] [cI p0, cI p1, cI p2, cI p3, cI p4, cI p5] noHeap (.agg (m_api_State r)) noHeap := by
 refine Fun.of_walk0 Tryz.func18 c18 (by kernel_rfl) (rs := [.cell 12 7 true]) (by kernel_rfl) ?_; unfold v18
 unfold tracebooklaw48_piece at hF
 refine wA rfl ?_; refine wA rfl ?_; refine W_seq ?_; refine wA rfl ?_; refine W_join (fun _ _ h => h) hF (fun v1 => [(12, cP (12,0) 0), (13, cP (13,0) 0)]) (fun v1 => [((12,0), .box [jI 0, jI 0, jI 0, jI 0, jI 0, jI 0, jI 0]), ((13,0), .box [jI p0, jI p1, jI p2, jI p3, jI v1, jI p4, jI p5])]) ?_ ?_
 · rintro v1 hF
   refine wA rfl ?_; cases hF
   exact W_ret ⟨_, rfl, rfl, ⟨⟨rfl, fun _ => rfl⟩, ⟨rfl, fun _ => rfl⟩, ⟨rfl, fun _ => rfl⟩, ⟨rfl, fun _ => rfl⟩, ⟨rfl, fun _ => rfl⟩, ⟨rfl, fun _ => rfl⟩, ⟨rfl, fun _ => rfl⟩, trivial⟩, noOut _⟩
 intro join hF
 refine wIf' hF rfl (fun _ hF => ?_) fun _ hF => ?_
 · refine wB rfl ?_; exact join p0 _ _ hF sw
 refine W_skip ?_; exact join (-1) _ _ hF sw
def tracebooklaw48_pair (p0 : (List api_State)) : Option api_Trace :=
  some ({ fSpan := ({ fFrom := 0, fTo := 10 } : api_Span), fThreads := [({ fId := 1, fName := ⟨#[97]⟩, fDomain := 0 } : api_Thread), ({ fId := 2, fName := ⟨#[98]⟩, fDomain := 0 } : api_Thread)], fSlices := [], fStates := p0, fFlows := [], fSamples := [], fSteps := [], fBlocks := [], fLost := [] } : api_Trace)
theorem tracebooklaw48_pair_fun (p0 : (List api_State)) (r : api_Trace) (hF : tracebooklaw48_pair p0 = some r) : Fun Tryz.prog 17 false [] [cL 7 t_api_State p0] (heapOf []) (.agg [jI r.fSpan.fFrom, jI r.fSpan.fTo, .slO (902,680), jL 8 t_api_Slice r.fSlices, jL 7 t_api_State r.fStates, jL 7 t_api_Flow r.fFlows, jL 4 t_api_Sample r.fSamples, jL 3 t_api_Step r.fSteps, jL 7 t_api_Block r.fBlocks, jL 4 t_api_Loss r.fLost]) (heapOf [((902,680), .arr 74 3 (List.map t_api_Thread r.fThreads))]) := by
 refine Fun.of_walkM [] (some []) Tryz.func17 c17 (by kernel_rfl) (rs := [.cell 2 10 true]) (by kernel_rfl) rfl rfl rfl ?_; unfold v17
 unfold tracebooklaw48_pair at hF
 refine wA rfl ?_; refine wC 3 rfl ?_; refine rS (T_bsl (tc := t_api_Thread) [({ fId := 1, fName := ⟨#[97]⟩, fDomain := 0 } : api_Thread), ({ fId := 2, fName := ⟨#[98]⟩, fDomain := 0 } : api_Thread)] rfl ⟨rfl, rfl, rfl, rfl, rfl, rfl, trivial⟩ rfl (fun _ => rfl) rfl ?_)
 refine QV rfl ?_; cases hF
 exact W_ret ⟨_, _, (S_ren (6,0) (902,680) rfl rfl S_refl), _, rfl, rfl, ⟨⟨rfl, fun _ => rfl⟩, ⟨rfl, fun _ => rfl⟩, rfl, rfl, ⟨rfl, fun h => (by cases h)⟩, rfl, rfl, rfl, rfl, rfl, trivial⟩, (AgM.weak ⟨rfl, trivial⟩)⟩
def internal_stringslite_IndexByte (p0 : ByteArray) (p1 : Int) : Option Int := some (Go.Lib.indexByte p0.data.toList p1.toNat.toUInt8)
theorem internal_stringslite_IndexByte_fun (p0 : ByteArray) (p1 : Int) (r : Int) (hF : internal_stringslite_IndexByte p0 p1 = some r) : Fun Tryz.prog 151 true [] [.c (jS p0), .c (.imm (.sc (.int .u8 p1)))] noHeap (cI r) noHeap := by
 cases hF
 refine Fun.of_plain [.string p0, .int .u8 p1] (.int .i64 (Go.Lib.indexByte p0.data.toList p1.toNat.toUInt8)) (fun w => ?_) rfl
 go_enter Tryz.func151, Tryz.ntmps151; go_wp2; rw [run_callFunc_extern Tryz.func152 (by kernel_rfl) (by kernel_rfl) (by kernel_rfl) (e := Extern.BytealgIndexByte.indexByte) (by kernel_rfl), Go.Lib.run_indexByteString]
 simp only [Result.andThen]; rw [Oper.upon_value]; go_wp2; go_ret; exact ⟨rfl, rfl⟩
def strings_IndexByte (p0 : ByteArray) (p1 : Int) : Option Int :=
  ((internal_stringslite_IndexByte p0 p1).bind fun r1 => some r1)
theorem strings_IndexByte_fun (p0 : ByteArray) (p1 : Int) (r : Int) (hF : strings_IndexByte p0 p1 = some r) : Fun Tryz.prog 147 true [] [.c (jS p0), .c (.imm (.sc (.int .u8 p1)))] noHeap (cI r) noHeap := by
 refine Fun.of_walk0 Tryz.func147 c147 (by kernel_rfl) (rs := [.tmp 4]) (by kernel_rfl) ?_; unfold v147
 unfold strings_IndexByte at hF
 refine wA rfl ?_; refine wC 2 rfl ?_; obtain ⟨r1, hr1, hF⟩ := bB hF
 refine rS (T_call (internal_stringslite_IndexByte_fun _ _ _ hr1) ⟨rfl, rfl, trivial⟩ rfl (.inl rfl) ?_); refine QV rfl ?_; cases hF
 exact W_ret wR
def intern_letter (p0 : Int) : Option Bool :=
  (((bif (decide (97 ≤ p0)) then (bif (decide (p0 ≤ 122)) then some true else (bif (decide (65 ≤ p0)) then (bif (decide (p0 ≤ 90)) then some true else (bif (decide (48 ≤ p0)) then (bif (decide (p0 ≤ 57)) then some true else ((strings_IndexByte ⟨#[95, 46, 58, 47, 60, 62, 36, 42, 126, 45]⟩ p0).bind fun r23 => some (decide (0 ≤ r23)))) else ((strings_IndexByte ⟨#[95, 46, 58, 47, 60, 62, 36, 42, 126, 45]⟩ p0).bind fun r21 => some (decide (0 ≤ r21))))) else (bif (decide (48 ≤ p0)) then (bif (decide (p0 ≤ 57)) then some true else ((strings_IndexByte ⟨#[95, 46, 58, 47, 60, 62, 36, 42, 126, 45]⟩ p0).bind fun r18 => some (decide (0 ≤ r18)))) else ((strings_IndexByte ⟨#[95, 46, 58, 47, 60, 62, 36, 42, 126, 45]⟩ p0).bind fun r16 => some (decide (0 ≤ r16)))))) else (bif (decide (65 ≤ p0)) then (bif (decide (p0 ≤ 90)) then some true else (bif (decide (48 ≤ p0)) then (bif (decide (p0 ≤ 57)) then some true else ((strings_IndexByte ⟨#[95, 46, 58, 47, 60, 62, 36, 42, 126, 45]⟩ p0).bind fun r12 => some (decide (0 ≤ r12)))) else ((strings_IndexByte ⟨#[95, 46, 58, 47, 60, 62, 36, 42, 126, 45]⟩ p0).bind fun r10 => some (decide (0 ≤ r10))))) else (bif (decide (48 ≤ p0)) then (bif (decide (p0 ≤ 57)) then some true else ((strings_IndexByte ⟨#[95, 46, 58, 47, 60, 62, 36, 42, 126, 45]⟩ p0).bind fun r7 => some (decide (0 ≤ r7)))) else ((strings_IndexByte ⟨#[95, 46, 58, 47, 60, 62, 36, 42, 126, 45]⟩ p0).bind fun r5 => some (decide (0 ≤ r5)))))) : Option Bool).bind fun v1 => some v1)
theorem intern_letter_fun (p0 : Int) (r : Bool) (hF : intern_letter p0 = some r) : Fun Tryz.prog 130 true [] [.c (.imm (.sc (.int .u8 p0)))] noHeap (cB r) noHeap := by
 refine Fun.of_walk0 Tryz.func130 c130 (by kernel_rfl) (rs := [.tmp 2]) (by kernel_rfl) ?_; unfold v130
 unfold intern_letter at hF
 refine wA rfl ?_; refine W_seq ?_; refine W_join (fun _ _ h => h) hF (fun v1 => [(2, cB v1)]) (fun v1 => []) ?_ ?_
 · rintro v1 hF
   cases hF
   exact W_ret wR
 intro join hF
 refine wD 3 rfl ?_; cases h2 : (decide (97 ≤ p0))
 · have hF := bF' h2 hF; refine Q_run SV 7 rfl ?_; cases h3 : (decide (65 ≤ p0))
   · have hF := bF' h3 hF; refine Q_run SV 8 rfl ?_; cases h4 : (decide (48 ≤ p0))
     · have hF := bF' h4 hF; refine Q_run SV 6 rfl ?_; obtain ⟨r5, hr5, hF⟩ := bB' hF
       refine R_step SV rfl (T_call (strings_IndexByte_fun _ _ _ hr5) ⟨rfl, rfl, trivial⟩ rfl (.inl rfl) ?_); refine QV rfl ?_; exact join (decide (0 ≤ r5)) _ _ hF sw
     have hF := bT' h4 hF; refine Q_run SV 5 rfl ?_; cases h6 : (decide (p0 ≤ 57))
     · have hF := bF' h6 hF; refine Q_run SV 1 rfl ?_; obtain ⟨r7, hr7, hF⟩ := bB' hF
       refine R_step SV rfl (T_call (strings_IndexByte_fun _ _ _ hr7) ⟨rfl, rfl, trivial⟩ rfl (.inl rfl) ?_); refine QV rfl ?_; exact join (decide (0 ≤ r7)) _ _ hF sw
     have hF := bT' h6 hF; refine QV rfl ?_; exact join true _ _ hF sw
   have hF := bT' h3 hF; refine Q_run SV 5 rfl ?_; cases h8 : (decide (p0 ≤ 90))
   · have hF := bF' h8 hF; refine Q_run SV 3 rfl ?_; cases h9 : (decide (48 ≤ p0))
     · have hF := bF' h9 hF; refine Q_run SV 6 rfl ?_; obtain ⟨r10, hr10, hF⟩ := bB' hF
       refine R_step SV rfl (T_call (strings_IndexByte_fun _ _ _ hr10) ⟨rfl, rfl, trivial⟩ rfl (.inl rfl) ?_); refine QV rfl ?_; exact join (decide (0 ≤ r10)) _ _ hF sw
     have hF := bT' h9 hF; refine Q_run SV 5 rfl ?_; cases h11 : (decide (p0 ≤ 57))
     · have hF := bF' h11 hF; refine Q_run SV 1 rfl ?_; obtain ⟨r12, hr12, hF⟩ := bB' hF
       refine R_step SV rfl (T_call (strings_IndexByte_fun _ _ _ hr12) ⟨rfl, rfl, trivial⟩ rfl (.inl rfl) ?_); refine QV rfl ?_; exact join (decide (0 ≤ r12)) _ _ hF sw
     have hF := bT' h11 hF; refine QV rfl ?_; exact join true _ _ hF sw
   have hF := bT' h8 hF; refine QV rfl ?_; exact join true _ _ hF sw
 have hF := bT' h2 hF; refine Q_run SV 4 rfl ?_; cases h13 : (decide (p0 ≤ 122))
 · have hF := bF' h13 hF; refine Q_run SV 3 rfl ?_; cases h14 : (decide (65 ≤ p0))
   · have hF := bF' h14 hF; refine Q_run SV 8 rfl ?_; cases h15 : (decide (48 ≤ p0))
     · have hF := bF' h15 hF; refine Q_run SV 6 rfl ?_; obtain ⟨r16, hr16, hF⟩ := bB' hF
       refine R_step SV rfl (T_call (strings_IndexByte_fun _ _ _ hr16) ⟨rfl, rfl, trivial⟩ rfl (.inl rfl) ?_); refine QV rfl ?_; exact join (decide (0 ≤ r16)) _ _ hF sw
     have hF := bT' h15 hF; refine Q_run SV 5 rfl ?_; cases h17 : (decide (p0 ≤ 57))
     · have hF := bF' h17 hF; refine Q_run SV 1 rfl ?_; obtain ⟨r18, hr18, hF⟩ := bB' hF
       refine R_step SV rfl (T_call (strings_IndexByte_fun _ _ _ hr18) ⟨rfl, rfl, trivial⟩ rfl (.inl rfl) ?_); refine QV rfl ?_; exact join (decide (0 ≤ r18)) _ _ hF sw
     have hF := bT' h17 hF; refine QV rfl ?_; exact join true _ _ hF sw
   have hF := bT' h14 hF; refine Q_run SV 5 rfl ?_; cases h19 : (decide (p0 ≤ 90))
   · have hF := bF' h19 hF; refine Q_run SV 3 rfl ?_; cases h20 : (decide (48 ≤ p0))
     · have hF := bF' h20 hF; refine Q_run SV 6 rfl ?_; obtain ⟨r21, hr21, hF⟩ := bB' hF
       refine R_step SV rfl (T_call (strings_IndexByte_fun _ _ _ hr21) ⟨rfl, rfl, trivial⟩ rfl (.inl rfl) ?_); refine QV rfl ?_; exact join (decide (0 ≤ r21)) _ _ hF sw
     have hF := bT' h20 hF; refine Q_run SV 5 rfl ?_; cases h22 : (decide (p0 ≤ 57))
     · have hF := bF' h22 hF; refine Q_run SV 1 rfl ?_; obtain ⟨r23, hr23, hF⟩ := bB' hF
       refine R_step SV rfl (T_call (strings_IndexByte_fun _ _ _ hr23) ⟨rfl, rfl, trivial⟩ rfl (.inl rfl) ?_); refine QV rfl ?_; exact join (decide (0 ≤ r23)) _ _ hF sw
     have hF := bT' h22 hF; refine QV rfl ?_; exact join true _ _ hF sw
   have hF := bT' h19 hF; refine QV rfl ?_; exact join true _ _ hF sw
 have hF := bT' h13 hF; refine QV rfl ?_; exact join true _ _ hF sw
def intern_Name_L1 (p0 : ByteArray) : Int → Option (Int ⊕ (Unit ⊕ Int)) := fun a13 =>
  (bif (decide (a13 < (ByteArray.size p0 : Int))) then ((idx (ByteArray.data p0).toList a13).bind fun y18 => ((intern_letter (UInt8.toNat y18 : Int)).bind fun r19 => (bif (!r19) then some (.inr (.inr 3)) else some (.inl (w64 (a13 + 1)))))) else some (.inr (.inl ())))
def intern_Name (p0 : ByteArray) : Option Int :=
  (((bif (decide (p0 = ⟨#[]⟩)) then some true else some (decide (40 < (ByteArray.size p0 : Int)))) : Option Bool).bind fun v1 => (bif v1 then some 3 else ((loop (intern_Name_L1 p0) 0).bind fun | .inl _ => some 0 | .inr rv => some rv)))
theorem intern_Name_fun (p0 : ByteArray) (r : Int) (hF : intern_Name p0 = some r) : Fun Tryz.prog 99 true [] [.c (jS p0)] noHeap (cI r) noHeap := by
 refine Fun.of_walk0 Tryz.func99 c99 (by kernel_rfl) (rs := [.tmp 2]) (by kernel_rfl) ?_; unfold v99
 unfold intern_Name at hF
 refine wA rfl ?_; refine W_seq ?_; refine W_seq ?_; refine W_join (fun _ _ h => h) hF (fun v1 => [(0, .c (jS p0)), (10, cB v1)]) (fun v1 => []) ?_ ?_
 · rintro v1 hF
   refine wIf hF rfl (fun _ hF => ?_) fun _ hF => ?_
   · refine wA rfl ?_; cases hF
     exact W_ret wR
   refine W_skip ?_; refine W_seq ?_; refine wA rfl ?_; refine W_for (fun _ _ h => h) hF (.inl) (fun a13 => [(0, .c (jS p0)), (12, cI (ByteArray.size p0 : Int)), (13, cI a13)]) (fun a13 => []) (fun _ => []) (fun _ => []) sw ?_ ?_
   · rintro ⟨⟩ hF
     refine wA rfl ?_; cases hF
     exact W_ret wR
   rintro a13 x_0 hF cont_0 brk_0 fin_0
   unfold intern_Name_L1 at hF
   refine wA rfl ?_; refine W_seq ?_; refine wIf hF rfl (fun _ hF => ?_) fun _ hF => ?_
   · refine W_skip ?_; refine W_seq ?_; refine W_block ?_; refine wA rfl ?_; refine wC 2 rfl ?_; obtain ⟨y18, hy18, hF⟩ := bB hF
     refine rS (T_ixS p0 rfl rfl hy18 ?_); obtain ⟨r19, hr19, hF⟩ := bB hF
     refine rS (T_call (intern_letter_fun _ _ hr19) ⟨rfl, trivial⟩ rfl (.inl rfl) ?_); refine QV rfl ?_; refine wIf hF rfl (fun _ hF => ?_) fun _ hF => ?_
     · refine wA rfl ?_; have hF := fin_0 _ (oi hF); cases hF
       exact W_ret wR
     refine W_skip ?_; refine wB rfl ?_; exact cont_0 _ _ _ (oi hF) sw
   refine W_exit ?_; refine thenQ_exit ?_; refine thenQ_exit ?_; refine blockQ_hit ?_; exact brk_0 _ _ _ (oi hF) sw
 intro join hF
 refine wD 3 rfl ?_; cases h23 : (decide (p0 = ⟨#[]⟩))
 · have hF := bF' h23 hF; refine QV rfl ?_; exact join (decide (40 < (ByteArray.size p0 : Int))) _ _ hF sw
 have hF := bT' h23 hF; refine QV rfl ?_; exact join true _ _ hF sw
def producer_Thread (p0 : api_Thread) : Option Int :=
  (((bif (decide (p0.fId < 0)) then some true else (bif (decide (1000000000000000 < p0.fId)) then some true else (bif (decide (p0.fDomain < 0)) then some true else some (decide (8 ≤ p0.fDomain))))) : Option Bool).bind fun v1 => (bif v1 then some 2 else ((intern_Name p0.fName).bind fun r2 => some r2)))
theorem producer_Thread_fun (p0 : api_Thread) (r : Int) (hF : producer_Thread p0 = some r) : Fun Tryz.prog 98 true [] [.agg (m_api_Thread p0)] noHeap (cI r) noHeap := by
 refine Fun.of_walk0 Tryz.func98 c98 (by kernel_rfl) (rs := [.tmp 2]) (by kernel_rfl) ?_; unfold v98
 unfold producer_Thread at hF
 refine wA rfl ?_; refine W_seq ?_; refine W_seq ?_; refine W_join (fun _ _ h => h) hF (fun v1 => [(1, cP (1,0) 0), (20, cB v1)]) (fun v1 => [((1,0), .box (m_api_Thread p0))]) ?_ ?_
 · rintro v1 hF
   refine wIf hF rfl (fun _ hF => ?_) fun _ hF => ?_
   · refine wA rfl ?_; cases hF
     exact W_ret wR
   refine W_skip ?_; refine wC 2 rfl ?_; obtain ⟨r2, hr2, hF⟩ := bB hF
   refine rS (T_call (intern_Name_fun _ _ hr2) ⟨rfl, trivial⟩ rfl (.inl rfl) ?_); refine QV rfl ?_; cases hF
   exact W_ret wR
 intro join hF
 refine wD 4 rfl ?_; cases h4 : (decide (p0.fId < 0))
 · have hF := bF' h4 hF; refine Q_run SV 5 rfl ?_; cases h5 : (decide (1000000000000000 < p0.fId))
   · have hF := bF' h5 hF; refine Q_run SV 5 rfl ?_; cases h6 : (decide (p0.fDomain < 0))
     · have hF := bF' h6 hF; refine QV rfl ?_; exact join (decide (8 ≤ p0.fDomain)) _ _ hF sw
     have hF := bT' h6 hF; refine QV rfl ?_; exact join true _ _ hF sw
   have hF := bT' h5 hF; refine QV rfl ?_; exact join true _ _ hF sw
 have hF := bT' h4 hF; refine QV rfl ?_; exact join true _ _ hF sw
def trace_threads_L1 (p0 : api_Trace) : ((List (Int × ByteArray)) × Int) → Option (((List (Int × ByteArray)) × Int) ⊕ ((List (Int × ByteArray)) ⊕ (((List (Int × ByteArray)) × Int) ⊕ ((List (Int × ByteArray)) × Int)))) := fun (a17, a18) =>
  (bif (decide (a18 < (List.length p0.fThreads : Int))) then ((idx p0.fThreads a18).bind fun y25 => ((producer_Thread y25).bind fun r26 => (bif (!decide (r26 = 0)) then some (.inr (.inr (.inl ([], r26)))) else (bif (Option.isSome (mget y25.fId a17)) then some (.inr (.inr (.inl ([], 4)))) else some (.inl ((mput y25.fId y25.fName a17), (w64 (a18 + 1)))))))) else some (.inr (.inl a17)))
def trace_threads (p0 : api_Trace) : Option (((List (Int × ByteArray)) × Int) ⊕ ((List (Int × ByteArray)) × Int)) :=
  (bif (decide (64 < (List.length p0.fThreads : Int))) then some (.inl ([], 7)) else ((loop (trace_threads_L1 p0) ([], 0)).bind fun | .inl e24 => some (.inr (e24, 0)) | .inr rv => some rv))
def trace_threads_V (p0 : api_Trace) : (((List (Int × ByteArray)) × Int) ⊕ ((List (Int × ByteArray)) × Int)) → V
  | .inl d => .tup [.c (.nilM), .c (.imm (tI d.2))]
  | .inr d => .tup [.c (.mapO (902,2160)), .c (.imm (tI d.2))]
def trace_threads_M (p0 : api_Trace) : (((List (Int × ByteArray)) × Int) ⊕ ((List (Int × ByteArray)) × Int)) → M
  | .inl _ => []
  | .inr d => [((902,2160), mapOb (.int .i64) (fun n : Int => .int .i64 n) (fun y : ByteArray => (.one (.sc (.string y)) : MT)) d.1)]
theorem trace_threads_fun (p0 : api_Trace) (r : (((List (Int × ByteArray)) × Int) ⊕ ((List (Int × ByteArray)) × Int))) (hF : trace_threads p0 = some r) : Fun Tryz.prog 54 false [] [.agg (m_api_Trace p0)] (heapOf []) (trace_threads_V p0 r) (heapOf (trace_threads_M p0 r)) := by
 refine Fun.of_walkM [] (some []) Tryz.func54 c54 (by kernel_rfl) (rs := [.tmp 2, .tmp 3]) (by kernel_rfl) rfl rfl rfl ?_; unfold v54
 unfold trace_threads at hF
 refine wA rfl ?_; refine W_seq ?_; refine wC 2 rfl ?_; refine rS (T_len (tc := t_api_Thread) p0.fThreads .tree ?_); refine QV rfl ?_; refine wIf hF rfl (fun _ hF => ?_) fun _ hF => ?_
 · refine wA rfl ?_; cases hF
   exact W_ret ⟨_, _, S_refl, _, rfl, rfl, ⟨trivial, ⟨rfl, fun _ => rfl⟩, trivial⟩, (AgM.weak trivial)⟩
 refine W_skip ?_; refine wE ?_; refine rS (T_mkmap (kd := (.int .i64)) (kv := kvI) (vv := vvS) rfl ?_)
 refine QV rfl ?_; refine W_seq ?_; refine wC 2 rfl ?_; refine rS (T_len (tc := t_api_Thread) p0.fThreads .tree ?_); refine QV rfl ?_; refine W_for (fun _ _ h => h) hF (.inl) (fun (a17, a18) => [(4, cM (14,0)), (16, cL 3 t_api_Thread p0.fThreads), (17, cI (List.length p0.fThreads : Int)), (18, cI a18)]) (fun (a17, a18) => [((14,0), mapOb (.int .i64) kvI vvS a17)]) (fun e24 => [(4, cM (14,0))]) (fun e24 => [((14,0), mapOb (.int .i64) kvI vvS e24)]) sw ?_ ?_
 · rintro e24 hF
   refine wA rfl ?_; cases hF
   exact W_ret ⟨_, _, (S_ren (14,0) (902,2160) rfl rfl S_refl), _, rfl, rfl, ⟨rfl, ⟨rfl, fun _ => rfl⟩, trivial⟩, (AgM.weak ⟨rfl, trivial⟩)⟩
 rintro ⟨a17, a18⟩ x_0 hF cont_0 brk_0 fin_0
 unfold trace_threads_L1 at hF
 refine wA rfl ?_; refine W_seq ?_; refine wIf hF rfl (fun _ hF => ?_) fun _ hF => ?_
 · refine W_skip ?_; refine W_seq ?_; refine W_block ?_; refine wE ?_; obtain ⟨y25, hy25, hF⟩ := bB hF
   refine rS (T_ixT (tc := t_api_Thread) p0.fThreads rfl rfl hy25 ?_); refine QV rfl ?_; refine W_seq ?_; refine wC 1 rfl ?_; obtain ⟨r26, hr26, hF⟩ := bB hF
   refine rS (T_call (producer_Thread_fun _ _ hr26) ⟨⟨rfl, rfl, rfl, trivial⟩, trivial⟩ rfl (.inl rfl) ?_); refine QV rfl ?_; refine wA rfl ?_; refine wIf hF rfl (fun _ hF => ?_) fun _ hF => ?_
   · refine wA rfl ?_; have hF := fin_0 _ (oi hF); cases hF
     exact W_ret ⟨_, _, S_refl, _, rfl, rfl, ⟨trivial, ⟨rfl, fun _ => rfl⟩, trivial⟩, (AgM.weak trivial)⟩
   refine W_skip ?_; refine W_seq ?_; refine wC 3 rfl ?_; refine rS (T_lookOk (keyI .i64) (vv := vvS) a17 y25.fId ⟨#[]⟩ (.own _ rfl) rfl rfl ?_)
   refine QV rfl ?_; refine wA rfl ?_; refine wIf hF rfl (fun _ hF => ?_) fun _ hF => ?_
   · refine wA rfl ?_; have hF := fin_0 _ (oi hF); cases hF
     exact W_ret ⟨_, _, S_refl, _, rfl, rfl, ⟨trivial, ⟨rfl, fun _ => rfl⟩, trivial⟩, (AgM.weak trivial)⟩
   refine W_skip ?_; refine wD 5 rfl ?_; refine rS (T_mupd (keyI .i64) (vv := vvS) a17 y25.fId y25.fName rfl rfl rfl rfl ?_)
   refine QV rfl ?_; refine wB rfl ?_; exact cont_0 _ _ _ (oi hF) sw
 refine W_exit ?_; refine thenQ_exit ?_; refine thenQ_exit ?_; refine blockQ_hit ?_; exact brk_0 _ _ _ (oi hF) sw
def spans_Valid (p0 : api_Span) : Option Bool :=
  (((bif (decide (0 ≤ p0.fFrom)) then (bif (decide (p0.fFrom < p0.fTo)) then some (decide (p0.fTo ≤ 1000000000000)) else some false) else some false) : Option Bool).bind fun v1 => some v1)
theorem spans_Valid_fun (p0 : api_Span) (r : Bool) (hF : spans_Valid p0 = some r) : Fun Tryz.prog 32 true [] [.agg [jI p0.fFrom, jI p0.fTo]] noHeap (cB r) noHeap := by
 refine Fun.of_walk0 Tryz.func32 c32 (by kernel_rfl) (rs := [.tmp 2]) (by kernel_rfl) ?_; unfold v32
 unfold spans_Valid at hF
 refine wA rfl ?_; refine W_seq ?_; refine W_join (fun _ _ h => h) hF (fun v1 => [(2, cB v1)]) (fun v1 => []) ?_ ?_
 · rintro v1 hF
   cases hF
   exact W_ret wR
 intro join hF
 refine wD 4 rfl ?_; cases h2 : (decide (0 ≤ p0.fFrom))
 · have hF := bF' h2 hF; refine QV rfl ?_; exact join false _ _ hF sw
 have hF := bT' h2 hF; refine Q_run SV 7 rfl ?_; cases h3 : (decide (p0.fFrom < p0.fTo))
 · have hF := bF' h3 hF; refine QV rfl ?_; exact join false _ _ hF sw
 have hF := bT' h3 hF; refine QV rfl ?_; exact join (decide (p0.fTo ≤ 1000000000000)) _ _ hF sw
def cmp_isNaN_int (p0 : Int) : Option Bool :=
  some (!decide (p0 = p0))
theorem cmp_isNaN_int_fun (p0 : Int) (r : Bool) (hF : cmp_isNaN_int p0 = some r) : Fun Tryz.prog 43 true [] [cI p0] noHeap (cB r) noHeap := by
 refine Fun.of_walk0 Tryz.func43 c43 (by kernel_rfl) (rs := [.tmp 2]) (by kernel_rfl) ?_; unfold v43
 unfold cmp_isNaN_int at hF
 refine wA rfl ?_; refine wA rfl ?_; cases hF
 exact W_ret wR
def cmp_Compare_int (p0 : Int) (p1 : Int) : Option Int :=
  ((cmp_isNaN_int p0).bind fun r1 => ((cmp_isNaN_int p1).bind fun r2 => (bif r1 then (bif r2 then some 0 else some (-1)) else (bif r2 then some 1 else (bif (decide (p0 < p1)) then some (-1) else (bif (decide (p1 < p0)) then some 1 else some 0))))))
theorem cmp_Compare_int_fun (p0 : Int) (p1 : Int) (r : Int) (hF : cmp_Compare_int p0 p1 = some r) : Fun Tryz.prog 30 true [] [cI p0, cI p1] noHeap (cI r) noHeap := by
 refine Fun.of_walk0 Tryz.func30 c30 (by kernel_rfl) (rs := [.tmp 4]) (by kernel_rfl) ?_; unfold v30
 unfold cmp_Compare_int at hF
 refine wA rfl ?_; refine wC 1 rfl ?_; obtain ⟨r1, hr1, hF⟩ := bB hF
 refine rS (T_call (cmp_isNaN_int_fun _ _ hr1) ⟨rfl, trivial⟩ rfl (.inl rfl) ?_); refine QV rfl ?_; refine wC 1 rfl ?_; obtain ⟨r2, hr2, hF⟩ := bB hF
 refine rS (T_call (cmp_isNaN_int_fun _ _ hr2) ⟨rfl, trivial⟩ rfl (.inl rfl) ?_); refine QV rfl ?_; refine W_seq ?_; refine wA rfl ?_; refine wIf hF rfl (fun _ hF => ?_) fun _ hF => ?_
 · refine W_seq ?_; refine wA rfl ?_; refine wIf hF rfl (fun _ hF => ?_) fun _ hF => ?_
   · refine wA rfl ?_; cases hF
     exact W_ret wR
   refine W_skip ?_; refine wA rfl ?_; cases hF
   exact W_ret wR
 refine W_skip ?_; refine W_seq ?_; refine wA rfl ?_; refine wIf hF rfl (fun _ hF => ?_) fun _ hF => ?_
 · refine wA rfl ?_; cases hF
   exact W_ret wR
 refine W_skip ?_; refine W_seq ?_; refine wA rfl ?_; refine wIf hF rfl (fun _ hF => ?_) fun _ hF => ?_
 · refine wA rfl ?_; cases hF
   exact W_ret wR
 refine W_skip ?_; refine W_seq ?_; refine wA rfl ?_; refine wIf hF rfl (fun _ hF => ?_) fun _ hF => ?_
 · refine wA rfl ?_; cases hF
   exact W_ret wR
 refine W_skip ?_; refine wA rfl ?_; cases hF
 exact W_ret wR
def cmp_Or_int_L1 (p0 : (List Int)) : Int → Option (Int ⊕ (Unit ⊕ Int)) := fun a10 =>
  (bif (decide (a10 < (List.length p0 : Int))) then ((idx p0 a10).bind fun y14 => (bif (!decide (y14 = 0)) then some (.inr (.inr y14)) else some (.inl (w64 (a10 + 1))))) else some (.inr (.inl ())))
def cmp_Or_int (p0 : (List Int)) : Option Int :=
  ((loop (cmp_Or_int_L1 p0) 0).bind fun | .inl _ => some 0 | .inr rv => some rv)
theorem cmp_Or_int_fun (p0 : (List Int)) (r : Int) (hF : cmp_Or_int p0 = some r) : Fun Tryz.prog 131 true [] [cL 1 t_i64 p0] noHeap (cI r) noHeap := by
 refine Fun.of_walk0 Tryz.func131 c131 (by kernel_rfl) (rs := [.tmp 2]) (by kernel_rfl) ?_; unfold v131
 unfold cmp_Or_int at hF
 refine wA rfl ?_; refine wA rfl ?_; refine W_seq ?_; refine wC 1 rfl ?_; refine rS (T_len (tc := t_i64) p0 .tree ?_); refine QV rfl ?_; refine W_for (fun _ _ h => h) hF (.inl) (fun a10 => [(3, cI 0), (6, cL 1 t_i64 p0), (7, cI (List.length p0 : Int)), (8, cI a10)]) (fun a10 => []) (fun _ => [(3, cI 0)]) (fun _ => []) sw ?_ ?_
 · rintro ⟨⟩ hF
   refine wA rfl ?_; cases hF
   exact W_ret wR
 rintro a10 x_0 hF cont_0 brk_0 fin_0
 unfold cmp_Or_int_L1 at hF
 refine wA rfl ?_; refine W_seq ?_; refine wIf hF rfl (fun _ hF => ?_) fun _ hF => ?_
 · refine W_skip ?_; refine W_seq ?_; refine W_block ?_; refine wE ?_; obtain ⟨y14, hy14, hF⟩ := bB hF
   refine rS (T_ixT (tc := t_i64) p0 rfl rfl hy14 ?_); refine QV rfl ?_; refine wA rfl ?_; refine wIf hF rfl (fun _ hF => ?_) fun _ hF => ?_
   · refine wA rfl ?_; have hF := fin_0 _ (oi hF); cases hF
     exact W_ret wR
   refine W_skip ?_; refine wB rfl ?_; exact cont_0 _ _ _ (oi hF) sw
 refine W_exit ?_; refine thenQ_exit ?_; refine thenQ_exit ?_; refine blockQ_hit ?_; exact brk_0 _ _ _ (oi hF) sw
def slice_compare (p0 : api_Slice) (p1 : api_Slice) : Option Int :=
  ((cmp_Compare_int p0.fSpan.fFrom p1.fSpan.fFrom).bind fun r1 => ((cmp_Compare_int p1.fSpan.fTo p0.fSpan.fTo).bind fun r2 => ((cmp_Compare_int p0.fThread p1.fThread).bind fun r3 => ((cmp_Or_int [r1, r2, r3]).bind fun r4 => some r4))))
theorem slice_compare_fun (p0 : api_Slice) (p1 : api_Slice) (r : Int) (hF : slice_compare p0 p1 = some r) : Fun Tryz.prog 100 true [] [.agg (m_api_Slice p0), .agg (m_api_Slice p1)] noHeap (cI r) noHeap := by
 refine Fun.of_walk0 Tryz.func100 c100 (by kernel_rfl) (rs := [.tmp 4]) (by kernel_rfl) ?_; unfold v100
 unfold slice_compare at hF
 refine wA rfl ?_; refine W_seq ?_; refine W_regD (by decide) (by kernel_rfl) rfl ?_; refine Q_run SP 6 rfl ?_; obtain ⟨r1, hr1, hF⟩ := bB hF
 refine R_step SP trivial (T_call (cmp_Compare_int_fun _ _ _ hr1) ⟨rfl, rfl, trivial⟩ rfl (.inl rfl) ?_); refine Q_run SP 6 rfl ?_; obtain ⟨r2, hr2, hF⟩ := bB hF
 refine R_step SP trivial (T_call (cmp_Compare_int_fun _ _ _ hr2) ⟨rfl, rfl, trivial⟩ rfl (.inl rfl) ?_); refine Q_run SP 4 rfl ?_; obtain ⟨r3, hr3, hF⟩ := bB hF
 refine R_step SP trivial (T_call (cmp_Compare_int_fun _ _ _ hr3) ⟨rfl, rfl, trivial⟩ rfl (.inl rfl) ?_); refine R_step SP trivial (T_bsl (tc := t_i64) [r1, r2, r3] rfl ⟨rfl, rfl, rfl, trivial⟩ rfl (fun _ => rfl) rfl ?_)
 obtain ⟨r4, hr4, hF⟩ := bB hF
 refine R_step SP trivial (T_call (cmp_Or_int_fun _ _ hr4) ⟨⟨_, rfl⟩, trivial⟩ rfl (.inl rfl) ?_); refine QP rfl ?_; cases hF
 exact W_ret wR
def slice_nested_L1 (p0 : (List api_Slice)) : Int → Option (Int ⊕ (Unit ⊕ Bool)) := fun a30 =>
  (bif (decide (a30 < (List.length p0 : Int))) then ((idx p0 a30).bind fun y44 => (((bif (decide (y44.fParent < (-1))) then some true else some (decide (a30 ≤ y44.fParent))) : Option Bool).bind fun v45 => (bif v45 then some (.inr (.inr false)) else (bif (decide (y44.fParent = (-1))) then (bif (!decide (y44.fDepth = 0)) then some (.inr (.inr false)) else some (.inl (w64 (a30 + 1)))) else ((idx p0 y44.fParent).bind fun y47 => (((bif (!decide (y47.fThread = y44.fThread)) then some true else (bif (decide (y44.fSpan.fFrom < y47.fSpan.fFrom)) then some true else (bif (decide (y47.fSpan.fTo < y44.fSpan.fTo)) then some true else some (!decide (y44.fDepth = (w64 (y47.fDepth + 1))))))) : Option Bool).bind fun v48 => (bif v48 then some (.inr (.inr false)) else some (.inl (w64 (a30 + 1)))))))))) else some (.inr (.inl ())))
def slice_nested (p0 : (List api_Slice)) : Option Bool :=
  ((loop (slice_nested_L1 p0) 0).bind fun | .inl _ => some true | .inr rv => some rv)
theorem slice_nested_fun (p0 : (List api_Slice)) (r : Bool) (hF : slice_nested p0 = some r) : Fun Tryz.prog 101 true [] [cL 8 t_api_Slice p0] noHeap (cB r) noHeap := by
 refine Fun.of_walk0 Tryz.func101 c101 (by kernel_rfl) (rs := [.tmp 2]) (by kernel_rfl) ?_; unfold v101
 unfold slice_nested at hF
 refine wA rfl ?_; refine W_seq ?_; refine wC 1 rfl ?_; refine rS (T_len (tc := t_api_Slice) p0 .tree ?_); refine QV rfl ?_; refine W_for (fun _ _ h => h) hF (.inl) (fun a30 => [(0, cL 8 t_api_Slice p0), (6, cL 8 t_api_Slice p0), (7, cI (List.length p0 : Int)), (8, cI a30)]) (fun a30 => []) (fun _ => []) (fun _ => []) sw ?_ ?_
 · rintro ⟨⟩ hF
   refine wA rfl ?_; cases hF
   exact W_ret wR
 rintro a30 x_0 hF cont_0 brk_0 fin_0
 unfold slice_nested_L1 at hF
 refine wA rfl ?_; refine W_seq ?_; refine wIf hF rfl (fun _ hF => ?_) fun _ hF => ?_
 · refine W_skip ?_; refine W_seq ?_; refine W_block ?_; refine wC 1 rfl ?_; obtain ⟨y44, hy44, hF⟩ := bB hF
   refine rS (T_ixT (tc := t_api_Slice) p0 rfl rfl hy44 ?_); refine QV rfl ?_; refine W_block ?_; refine W_seq ?_; refine W_join (fun _ _ h => h) hF (fun v45 => [(0, cL 8 t_api_Slice p0), (4, cP (4,0) 0), (6, cL 8 t_api_Slice p0), (7, cI (List.length p0 : Int)), (8, cI a30), (49, cB v45)]) (fun v45 => [((4,0), .box (m_api_Slice y44))]) ?_ ?_
   · rintro v45 hF
     refine wIf hF rfl (fun _ hF => ?_) fun _ hF => ?_
     · refine wA rfl ?_; have hF := fin_0 _ (oi hF); cases hF
       exact W_ret wR
     refine wA rfl ?_; refine wIf hF rfl (fun _ hF => ?_) fun _ hF => ?_
     · refine wA rfl ?_; refine wIf hF rfl (fun _ hF => ?_) fun _ hF => ?_
       · refine wA rfl ?_; have hF := fin_0 _ (oi hF); cases hF
         exact W_ret wR
       refine W_skip ?_; refine wB rfl ?_; exact cont_0 _ _ _ (oi hF) sw
     refine wC 3 rfl ?_; obtain ⟨y47, hy47, hF⟩ := bB hF
     refine rS (T_ixT (tc := t_api_Slice) p0 rfl rfl hy47 ?_); refine QV rfl ?_; refine W_seq ?_; refine W_join (fun _ _ h => h) hF (fun v48 => [(0, cL 8 t_api_Slice p0), (6, cL 8 t_api_Slice p0), (7, cI (List.length p0 : Int)), (8, cI a30), (48, cB v48)]) (fun v48 => []) ?_ ?_
     · rintro v48 hF
       refine wIf hF rfl (fun _ hF => ?_) fun _ hF => ?_
       · refine wA rfl ?_; have hF := fin_0 _ (oi hF); cases hF
         exact W_ret wR
       refine W_skip ?_; refine wB rfl ?_; exact cont_0 _ _ _ (oi hF) sw
     intro join hF
     refine wD 6 rfl ?_; cases h50 : (!decide (y47.fThread = y44.fThread))
     · have hF := bF' h50 hF; refine Q_run SV 9 rfl ?_; cases h51 : (decide (y44.fSpan.fFrom < y47.fSpan.fFrom))
       · have hF := bF' h51 hF; refine Q_run SV 9 rfl ?_; cases h52 : (decide (y47.fSpan.fTo < y44.fSpan.fTo))
         · have hF := bF' h52 hF; refine QV rfl ?_; exact join (!decide (y44.fDepth = (w64 (y47.fDepth + 1)))) _ _ hF sw
         have hF := bT' h52 hF; refine QV rfl ?_; exact join true _ _ hF sw
       have hF := bT' h51 hF; refine QV rfl ?_; exact join true _ _ hF sw
     have hF := bT' h50 hF; refine QV rfl ?_; exact join true _ _ hF sw
   intro join hF
   refine wD 4 rfl ?_; cases h55 : (decide (y44.fParent < (-1)))
   · have hF := bF' h55 hF; refine QV rfl ?_; exact join (decide (a30 ≤ y44.fParent)) _ _ hF sw
   have hF := bT' h55 hF; refine QV rfl ?_; exact join true _ _ hF sw
 refine W_exit ?_; refine thenQ_exit ?_; refine thenQ_exit ?_; refine blockQ_hit ?_; exact brk_0 _ _ _ (oi hF) sw
def slice_under_L1 (p0 : (List api_Slice)) (p1 : Int) : Int → Option (Int ⊕ (Unit ⊕ Bool)) := fun a10 =>
  (bif (decide (0 ≤ a10)) then (bif (decide (p1 = a10)) then some (.inr (.inr true)) else ((idx p0 a10).bind fun y14 => some (.inl y14.fParent))) else some (.inr (.inl ())))
def slice_under (p0 : (List api_Slice)) (p1 : Int) (p2 : Int) : Option Bool :=
  ((loop (slice_under_L1 p0 p1) p2).bind fun | .inl _ => some false | .inr rv => some rv)
theorem slice_under_fun (p0 : (List api_Slice)) (p1 : Int) (p2 : Int) (r : Bool) (hF : slice_under p0 p1 p2 = some r) : Fun Tryz.prog 132 true [] [cL 8 t_api_Slice p0, cI p1, cI p2] noHeap (cB r) noHeap := by
 refine Fun.of_walk0 Tryz.func132 c132 (by kernel_rfl) (rs := [.tmp 6]) (by kernel_rfl) ?_; unfold v132
 unfold slice_under at hF
 refine wA rfl ?_; refine W_seq ?_; refine W_for (fun _ _ h => h) hF (.inl) (fun a10 => [(0, cL 8 t_api_Slice p0), (1, cI p1), (2, cI a10)]) (fun a10 => []) (fun _ => []) (fun _ => []) sw ?_ ?_
 · rintro ⟨⟩ hF
   refine wA rfl ?_; cases hF
   exact W_ret wR
 rintro a10 x_0 hF cont_0 brk_0 fin_0
 unfold slice_under_L1 at hF
 refine W_seq ?_; refine wA rfl ?_; refine wIf hF rfl (fun _ hF => ?_) fun _ hF => ?_
 · refine W_skip ?_; refine W_seq ?_; refine W_block ?_; refine wA rfl ?_; refine wIf hF rfl (fun _ hF => ?_) fun _ hF => ?_
   · refine wA rfl ?_; have hF := fin_0 _ (oi hF); cases hF
     exact W_ret wR
   refine W_skip ?_; refine wD 2 rfl ?_; obtain ⟨y14, hy14, hF⟩ := bB hF
   refine rS (T_ixT (tc := t_api_Slice) p0 rfl rfl hy14 ?_); refine QV rfl ?_; exact cont_0 _ _ _ (oi hF) sw
 refine W_exit ?_; refine thenQ_exit ?_; refine thenQ_exit ?_; refine blockQ_hit ?_; exact brk_0 _ _ _ (oi hF) sw
def slice_apart_L1 (p0 : (List api_Slice)) (a116 : Int) (y173 : api_Slice) : (Int × Int) → Option ((Int × Int) ⊕ (Int ⊕ (Int ⊕ (Unit ⊕ Bool)))) := fun (a202, a203) =>
  (bif (decide (a203 < (List.length p0 : Int))) then ((idx p0 a203).bind fun y217 => (((bif (decide (y217.fParent = a116)) then some (w64 (a202 - (w64 (y217.fSpan.fTo - y217.fSpan.fFrom)))) else some a202) : Option Int).bind fun v218 => (((bif (decide (a203 < a116)) then (bif (decide (y217.fThread = y173.fThread)) then (bif (decide (y173.fSpan.fFrom < y217.fSpan.fTo)) then (bif (decide (y217.fSpan.fFrom < y173.fSpan.fTo)) then ((slice_under p0 a203 a116).bind fun r225 => some (!r225)) else some false) else some false) else some false) else some false) : Option Bool).bind fun v219 => (bif v219 then some (.inr (.inr (.inr (.inr false)))) else some (.inl (v218, (w64 (a203 + 1)))))))) else some (.inr (.inl a202)))
def slice_apart_L2 (p0 : (List api_Slice)) : Int → Option (Int ⊕ (Unit ⊕ Bool)) := fun a116 =>
  (bif (decide (a116 < (List.length p0 : Int))) then ((idx p0 a116).bind fun y173 => ((loop (slice_apart_L1 p0 a116 y173) ((w64 (y173.fSpan.fTo - y173.fSpan.fFrom)), 0)).bind fun | .inl e215 => (bif (!decide (y173.fSelf = e215)) then some (.inr (.inr false)) else some (.inl (w64 (a116 + 1)))) | .inr rv => some rv)) else some (.inr (.inl ())))
def slice_apart (p0 : (List api_Slice)) : Option Bool :=
  ((loop (slice_apart_L2 p0) 0).bind fun | .inl _ => some true | .inr rv => some rv)
theorem slice_apart_fun (p0 : (List api_Slice)) (r : Bool) (hF : slice_apart p0 = some r) : Fun Tryz.prog 102 true [] [cL 8 t_api_Slice p0] noHeap (cB r) noHeap := by
 refine Fun.of_walk0 Tryz.func102 c102 (by kernel_rfl) (rs := [.tmp 2]) (by kernel_rfl) ?_; unfold v102
 unfold slice_apart at hF
 refine wA rfl ?_; refine W_seq ?_; refine wC 1 rfl ?_; refine rS (T_len (tc := t_api_Slice) p0 .tree ?_); refine QV rfl ?_; refine W_for (fun _ _ h => h) hF (.inl) (fun a116 => [(0, cL 8 t_api_Slice p0), (8, cL 8 t_api_Slice p0), (9, cI (List.length p0 : Int)), (10, cI a116)]) (fun a116 => []) (fun _ => []) (fun _ => []) sw ?_ ?_
 · rintro ⟨⟩ hF
   refine wA rfl ?_; cases hF
   exact W_ret wR
 rintro a116 x_0 hF cont_0 brk_0 fin_0
 unfold slice_apart_L2 at hF
 refine wA rfl ?_; refine W_seq ?_; refine wIf hF rfl (fun _ hF => ?_) fun _ hF => ?_
 · refine W_skip ?_; refine W_seq ?_; refine W_block ?_; refine wC 1 rfl ?_; obtain ⟨y173, hy173, hF⟩ := bB hF
   refine rS (T_ixT (tc := t_api_Slice) p0 rfl rfl hy173 ?_); refine QV rfl ?_; refine wA rfl ?_; refine W_seq ?_; refine wC 1 rfl ?_; refine rS (T_len (tc := t_api_Slice) p0 .tree ?_); refine QV rfl ?_; refine W_for (fun _ _ h => h) hF (.inl) (fun (a202, a203) => [(0, cL 8 t_api_Slice p0), (3, cI a116), (4, cP (4,0) 0), (5, cI a202), (8, cL 8 t_api_Slice p0), (9, cI (List.length p0 : Int)), (10, cI a116), (22, cL 8 t_api_Slice p0), (23, cI (List.length p0 : Int)), (24, cI a203)]) (fun (a202, a203) => [((4,0), .box (m_api_Slice y173))]) (fun e215 => [(0, cL 8 t_api_Slice p0), (4, cP (4,0) 0), (5, cI e215), (8, cL 8 t_api_Slice p0), (9, cI (List.length p0 : Int)), (10, cI a116)]) (fun e215 => [((4,0), .box (m_api_Slice y173))]) sw ?_ ?_
   · rintro e215 hF
     refine wA rfl ?_; refine wIf hF rfl (fun _ hF => ?_) fun _ hF => ?_
     · refine wA rfl ?_; have hF := fin_0 _ (oi hF); cases hF
       exact W_ret wR
     refine W_skip ?_; refine wB rfl ?_; exact cont_0 _ _ _ (oi hF) sw
   rintro ⟨a202, a203⟩ x_1 hF cont_1 brk_1 fin_1
   unfold slice_apart_L1 at hF
   refine wA rfl ?_; refine W_seq ?_; refine wIf hF rfl (fun _ hF => ?_) fun _ hF => ?_
   · refine W_skip ?_; refine W_seq ?_; refine W_block ?_; refine wC 1 rfl ?_; obtain ⟨y217, hy217, hF⟩ := bB hF
     refine rS (T_ixT (tc := t_api_Slice) p0 rfl rfl hy217 ?_); refine QV rfl ?_; refine W_seq ?_; refine wA rfl ?_; refine W_join (fun _ _ h => h) hF (fun v218 => [(0, cL 8 t_api_Slice p0), (3, cI a116), (4, cP (4,0) 0), (5, cI v218), (6, cI a203), (7, cP (7,0) 0), (8, cL 8 t_api_Slice p0), (9, cI (List.length p0 : Int)), (10, cI a116), (22, cL 8 t_api_Slice p0), (23, cI (List.length p0 : Int)), (24, cI a203)]) (fun v218 => [((4,0), .box (m_api_Slice y173)), ((7,0), .box (m_api_Slice y217))]) ?_ ?_
     · rintro v218 hF
       refine W_seq ?_; refine W_join (fun _ _ h => h) hF (fun v219 => [(0, cL 8 t_api_Slice p0), (3, cI a116), (4, cP (4,0) 0), (5, cI v218), (8, cL 8 t_api_Slice p0), (9, cI (List.length p0 : Int)), (10, cI a116), (22, cL 8 t_api_Slice p0), (23, cI (List.length p0 : Int)), (24, cI a203), (76, cB v219)]) (fun v219 => [((4,0), .box (m_api_Slice y173))]) ?_ ?_
       · rintro v219 hF
         refine wIf hF rfl (fun _ hF => ?_) fun _ hF => ?_
         · refine wA rfl ?_; have hF := fin_1 _ (oi hF); have hF := fin_0 _ (oi hF); cases hF
           exact W_ret wR
         refine W_skip ?_; refine wB rfl ?_; exact cont_1 _ _ _ (oi hF) sw
       intro join hF
       refine wD 4 rfl ?_; cases h221 : (decide (a203 < a116))
       · have hF := bF' h221 hF; refine QV rfl ?_; exact join false _ _ hF sw
       have hF := bT' h221 hF; refine Q_run SV 7 rfl ?_; cases h222 : (decide (y217.fThread = y173.fThread))
       · have hF := bF' h222 hF; refine QV rfl ?_; exact join false _ _ hF sw
       have hF := bT' h222 hF; refine Q_run SV 9 rfl ?_; cases h223 : (decide (y173.fSpan.fFrom < y217.fSpan.fTo))
       · have hF := bF' h223 hF; refine QV rfl ?_; exact join false _ _ hF sw
       have hF := bT' h223 hF; refine Q_run SV 9 rfl ?_; cases h224 : (decide (y217.fSpan.fFrom < y173.fSpan.fTo))
       · have hF := bF' h224 hF; refine QV rfl ?_; exact join false _ _ hF sw
       have hF := bT' h224 hF; refine Q_run SV 3 rfl ?_; obtain ⟨r225, hr225, hF⟩ := bB' hF
       refine R_step SV rfl (T_call (slice_under_fun _ _ _ _ hr225) ⟨rfl, rfl, rfl, trivial⟩ rfl (.inl rfl) ?_); refine QV rfl ?_; exact join (!r225) _ _ hF sw
     intro join hF
     refine wIf' hF rfl (fun _ hF => ?_) fun _ hF => ?_
     · refine wB rfl ?_; exact join (w64 (a202 - (w64 (y217.fSpan.fTo - y217.fSpan.fFrom)))) _ _ hF sw
     refine W_skip ?_; exact join a202 _ _ hF sw
   refine W_exit ?_; refine thenQ_exit ?_; refine thenQ_exit ?_; refine blockQ_hit ?_; exact brk_1 _ _ _ (oi hF) sw
 refine W_exit ?_; refine thenQ_exit ?_; refine thenQ_exit ?_; refine blockQ_hit ?_; exact brk_0 _ _ _ (oi hF) sw
def slice_Check_L1 (p0 : (List api_Slice)) : Int → Option (Int ⊕ (Unit ⊕ Int)) := fun a32 =>
  (bif (decide (a32 < (List.length p0 : Int))) then ((idx p0 a32).bind fun y52 => (((bif (decide (y52.fThread < 0)) then some true else (bif (decide (1000000000000000 < y52.fThread)) then some true else ((spans_Valid y52.fSpan).bind fun r64 => some (!r64)))) : Option Bool).bind fun v53 => (bif v53 then some (.inr (.inr 2)) else ((intern_Name y52.fName).bind fun r54 => (bif (!decide (r54 = 0)) then some (.inr (.inr r54)) else (((bif (decide (0 < a32)) then ((idx p0 (w64 (a32 - 1))).bind fun y58 => ((slice_compare y58 y52).bind fun r59 => some (decide (0 < r59)))) else some false) : Option Bool).bind fun v55 => (bif v55 then some (.inr (.inr 11)) else some (.inl (w64 (a32 + 1)))))))))) else some (.inr (.inl ())))
def slice_Check (p0 : (List api_Slice)) : Option Int :=
  ((loop (slice_Check_L1 p0) 0).bind fun | .inl _ => ((((slice_nested p0).bind fun r49 => (bif (!r49) then some true else ((slice_apart p0).bind fun r51 => some (!r51)))) : Option Bool).bind fun v47 => (bif v47 then some 10 else some 0)) | .inr rv => some rv)
theorem slice_Check_fun (p0 : (List api_Slice)) (r : Int) (hF : slice_Check p0 = some r) : Fun Tryz.prog 56 true [] [cL 8 t_api_Slice p0] noHeap (cI r) noHeap := by
 refine Fun.of_walk0 Tryz.func56 c56 (by kernel_rfl) (rs := [.tmp 2]) (by kernel_rfl) ?_; unfold v56
 unfold slice_Check at hF
 refine wA rfl ?_; refine W_seq ?_; refine wC 1 rfl ?_; refine rS (T_len (tc := t_api_Slice) p0 .tree ?_); refine QV rfl ?_; refine W_for (fun _ _ h => h) hF (.inl) (fun a32 => [(0, cL 8 t_api_Slice p0), (6, cL 8 t_api_Slice p0), (7, cI (List.length p0 : Int)), (8, cI a32)]) (fun a32 => []) (fun _ => [(0, cL 8 t_api_Slice p0)]) (fun _ => []) sw ?_ ?_
 · rintro ⟨⟩ hF
   refine W_seq ?_; refine W_seq ?_; refine W_join (fun _ _ h => h) hF (fun v47 => [(53, cB v47)]) (fun v47 => []) ?_ ?_
   · rintro v47 hF
     refine wIf hF rfl (fun _ hF => ?_) fun _ hF => ?_
     · refine wA rfl ?_; cases hF
       exact W_ret wR
     refine W_skip ?_; refine wA rfl ?_; cases hF
     exact W_ret wR
   intro join hF
   refine wD 1 rfl ?_; obtain ⟨r49, hr49, hF⟩ := bB' hF
   refine rS (T_call (slice_nested_fun _ _ hr49) ⟨rfl, trivial⟩ rfl (.inl rfl) ?_); refine Q_run SV 2 rfl ?_; cases h50 : (!r49)
   · have hF := bF' h50 hF; refine Q_run SV 1 rfl ?_; obtain ⟨r51, hr51, hF⟩ := bB' hF
     refine R_step SV rfl (T_call (slice_apart_fun _ _ hr51) ⟨rfl, trivial⟩ rfl (.inl rfl) ?_); refine QV rfl ?_; exact join (!r51) _ _ hF sw
   have hF := bT' h50 hF; refine QV rfl ?_; exact join true _ _ hF sw
 rintro a32 x_0 hF cont_0 brk_0 fin_0
 unfold slice_Check_L1 at hF
 refine wA rfl ?_; refine W_seq ?_; refine wIf hF rfl (fun _ hF => ?_) fun _ hF => ?_
 · refine W_skip ?_; refine W_seq ?_; refine W_block ?_; refine wC 1 rfl ?_; obtain ⟨y52, hy52, hF⟩ := bB hF
   refine rS (T_ixT (tc := t_api_Slice) p0 rfl rfl hy52 ?_); refine QV rfl ?_; refine W_seq ?_; refine W_seq ?_; refine W_join (fun _ _ h => h) hF (fun v53 => [(0, cL 8 t_api_Slice p0), (3, cI a32), (4, cP (4,0) 0), (6, cL 8 t_api_Slice p0), (7, cI (List.length p0 : Int)), (8, cI a32), (26, cB v53)]) (fun v53 => [((4,0), .box (m_api_Slice y52))]) ?_ ?_
   · rintro v53 hF
     refine wIf hF rfl (fun _ hF => ?_) fun _ hF => ?_
     · refine wA rfl ?_; have hF := fin_0 _ (oi hF); cases hF
       exact W_ret wR
     refine W_skip ?_; refine W_seq ?_; refine wC 2 rfl ?_; obtain ⟨r54, hr54, hF⟩ := bB hF
     refine rS (T_call (intern_Name_fun _ _ hr54) ⟨rfl, trivial⟩ rfl (.inl rfl) ?_); refine QV rfl ?_; refine wA rfl ?_; refine wIf hF rfl (fun _ hF => ?_) fun _ hF => ?_
     · refine wA rfl ?_; have hF := fin_0 _ (oi hF); cases hF
       exact W_ret wR
     refine W_skip ?_; refine W_seq ?_; refine W_join (fun _ _ h => h) hF (fun v55 => [(0, cL 8 t_api_Slice p0), (6, cL 8 t_api_Slice p0), (7, cI (List.length p0 : Int)), (8, cI a32), (44, cB v55)]) (fun v55 => []) ?_ ?_
     · rintro v55 hF
       refine wIf hF rfl (fun _ hF => ?_) fun _ hF => ?_
       · refine wA rfl ?_; have hF := fin_0 _ (oi hF); cases hF
         exact W_ret wR
       refine W_skip ?_; refine wB rfl ?_; exact cont_0 _ _ _ (oi hF) sw
     intro join hF
     refine W_regD (by decide) (by kernel_rfl) rfl ?_; refine Q_run SP 3 rfl ?_; cases h57 : (decide (0 < a32))
     · have hF := bF' h57 hF; refine QP rfl ?_; exact join false _ _ hF sw
     have hF := bT' h57 hF; refine Q_run SP 3 rfl ?_; obtain ⟨y58, hy58, hF⟩ := bB' hF
     refine R_step SP rfl (T_ixT (tc := t_api_Slice) p0 rfl rfl hy58 ?_); refine Q_run SP 2 rfl ?_; obtain ⟨r59, hr59, hF⟩ := bB' hF
     refine R_step SP rfl (T_call (slice_compare_fun _ _ _ hr59) ⟨⟨rfl, rfl, rfl, rfl, rfl, rfl, rfl, rfl, trivial⟩, ⟨rfl, rfl, rfl, rfl, rfl, rfl, rfl, rfl, trivial⟩, trivial⟩ rfl (.inl rfl) ?_); refine QP rfl ?_
     exact join (decide (0 < r59)) _ _ hF sw
   intro join hF
   refine wD 4 rfl ?_; cases h62 : (decide (y52.fThread < 0))
   · have hF := bF' h62 hF; refine Q_run SV 5 rfl ?_; cases h63 : (decide (1000000000000000 < y52.fThread))
     · have hF := bF' h63 hF; refine Q_run SV 2 rfl ?_; obtain ⟨r64, hr64, hF⟩ := bB' hF
       refine R_step SV rfl (T_call (spans_Valid_fun _ _ hr64) ⟨⟨rfl, rfl, trivial⟩, trivial⟩ rfl (.inl rfl) ?_); refine QV rfl ?_; exact join (!r64) _ _ hF sw
     have hF := bT' h63 hF; refine QV rfl ?_; exact join true _ _ hF sw
   have hF := bT' h62 hF; refine QV rfl ?_; exact join true _ _ hF sw
 refine W_exit ?_; refine thenQ_exit ?_; refine thenQ_exit ?_; refine blockQ_hit ?_; exact brk_0 _ _ _ (oi hF) sw
def trace_tables_1 (p0 : api_Slice) : Option Int :=
  some p0.fThread
theorem trace_tables_1_fun (p0 : api_Slice) (r : Int) (hF : trace_tables_1 p0 = some r) : Fun Tryz.prog 57 true [] [.agg (m_api_Slice p0)] noHeap (cI r) noHeap := by
 refine Fun.of_walk0 Tryz.func57 c57 (by kernel_rfl) (rs := [.tmp 2]) (by kernel_rfl) ?_; unfold v57
 unfold trace_tables_1 at hF
 refine wA rfl ?_; refine wA rfl ?_; cases hF
 exact W_ret wR
def trace_known_api_Slice_k1_L1 (p1 : (List (Int × ByteArray))) (p2 : (List api_Slice)) : Int → Option (Int ⊕ (Unit ⊕ Int)) := fun a12 =>
  (bif (decide (a12 < (List.length p2 : Int))) then ((idx p2 a12).bind fun y17 => ((trace_tables_1 y17).bind fun r18 => (bif (!(Option.isSome (mget r18 p1))) then some (.inr (.inr 5)) else some (.inl (w64 (a12 + 1)))))) else some (.inr (.inl ())))
def trace_known_api_Slice_k1 (p0 : Int) (p1 : (List (Int × ByteArray))) (p2 : (List api_Slice)) : Option Int :=
  (bif (!decide (p0 = 0)) then some p0 else ((loop (trace_known_api_Slice_k1_L1 p1 p2) 0).bind fun | .inl _ => some 0 | .inr rv => some rv))
theorem trace_known_api_Slice_k1_fun (p0 : Int) (p1 : (List (Int × ByteArray))) (p2 : (List api_Slice)) (r : Int) (hF : trace_known_api_Slice_k1 p0 p1 p2 = some r) : Fun Tryz.prog 55 false [(3200,0)] [cI p0, cM (3200,0), cL 8 t_api_Slice p2, .c (.fn 57 [])] (heapOf [((3200,0), mapOb (.int .i64) kvI vvS p1)]) (cI r) (heapOf [((3200,0), mapOb (.int .i64) kvI vvS p1)]) := by
 refine Fun.of_walkM [(3200,0)] (some [(3200,0)]) Tryz.func55 c55 (by kernel_rfl) (rs := [.tmp 8]) (by kernel_rfl) rfl rfl rfl ?_; unfold v55
 unfold trace_known_api_Slice_k1 at hF
 refine wA rfl ?_; refine W_seq ?_; refine wA rfl ?_; refine wIf hF rfl (fun _ hF => ?_) fun _ hF => ?_
 · refine wA rfl ?_; cases hF
   exact W_ret ⟨_, _, S_refl, _, rfl, rfl, ⟨rfl, fun _ => rfl⟩, (AgM.weak ⟨rfl, trivial⟩)⟩
 refine W_skip ?_; refine W_seq ?_; refine wC 1 rfl ?_; refine rS (T_len (tc := t_api_Slice) p2 .tree ?_); refine QV rfl ?_; refine W_for (fun _ _ h => h) hF (.inl) (fun a12 => [(1, cM (3200,0)), (3, .c (.fn 57 [])), (16, cL 8 t_api_Slice p2), (17, cI (List.length p2 : Int)), (18, cI a12)]) (fun a12 => [((3200,0), mapOb (.int .i64) kvI vvS p1)]) (fun _ => []) (fun _ => [((3200,0), mapOb (.int .i64) kvI vvS p1)]) sw ?_ ?_
 · rintro ⟨⟩ hF
   refine wA rfl ?_; cases hF
   exact W_ret ⟨_, _, S_refl, _, rfl, rfl, ⟨rfl, fun _ => rfl⟩, (AgM.weak ⟨rfl, trivial⟩)⟩
 rintro a12 x_0 hF cont_0 brk_0 fin_0
 unfold trace_known_api_Slice_k1_L1 at hF
 refine wA rfl ?_; refine W_seq ?_; refine wIf hF rfl (fun _ hF => ?_) fun _ hF => ?_
 · refine W_skip ?_; refine W_seq ?_; refine W_block ?_; refine wE ?_; obtain ⟨y17, hy17, hF⟩ := bB hF
   refine rS (T_ixT (tc := t_api_Slice) p2 rfl rfl hy17 ?_); refine QV rfl ?_; refine wC 3 rfl ?_; obtain ⟨r18, hr18, hF⟩ := bB hF
   refine R_stepX trivial (X_call (callW _ rfl fnOk57) (trace_tables_1_fun _ _ hr18) ⟨⟨rfl, rfl, rfl, rfl, rfl, rfl, rfl, rfl, trivial⟩, trivial⟩ rfl (.inl rfl) ?_); refine rS (T_lookOk (keyI .i64) (vv := vvS) p1 r18 ⟨#[]⟩ (.own _ rfl) rfl rfl ?_)
   refine QV rfl ?_; refine wA rfl ?_; refine wIf hF rfl (fun _ hF => ?_) fun _ hF => ?_
   · refine wA rfl ?_; have hF := fin_0 _ (oi hF); cases hF
     exact W_ret ⟨_, _, S_refl, _, rfl, rfl, ⟨rfl, fun _ => rfl⟩, (AgM.weak ⟨rfl, trivial⟩)⟩
   refine W_skip ?_; refine wB rfl ?_; exact cont_0 _ _ _ (oi hF) sw
 refine W_exit ?_; refine thenQ_exit ?_; refine thenQ_exit ?_; refine blockQ_hit ?_; exact brk_0 _ _ _ (oi hF) sw
def slices_Index_int_int_L1 (p0 : (List Int)) (p1 : Int) : Int → Option (Int ⊕ (Unit ⊕ Int)) := fun a10 =>
  (bif (decide (a10 < (List.length p0 : Int))) then ((idx p0 a10).bind fun y14 => (bif (decide (p1 = y14)) then some (.inr (.inr a10)) else some (.inl (w64 (a10 + 1))))) else some (.inr (.inl ())))
def slices_Index_int_int (p0 : (List Int)) (p1 : Int) : Option Int :=
  ((loop (slices_Index_int_int_L1 p0 p1) 0).bind fun | .inl _ => some (-1) | .inr rv => some rv)
theorem slices_Index_int_int_fun (p0 : (List Int)) (p1 : Int) (r : Int) (hF : slices_Index_int_int p0 p1 = some r) : Fun Tryz.prog 104 true [] [cL 1 t_i64 p0, cI p1] noHeap (cI r) noHeap := by
 refine Fun.of_walk0 Tryz.func104 c104 (by kernel_rfl) (rs := [.tmp 4]) (by kernel_rfl) ?_; unfold v104
 unfold slices_Index_int_int at hF
 refine wA rfl ?_; refine W_seq ?_; refine wC 1 rfl ?_; refine rS (T_len (tc := t_i64) p0 .tree ?_); refine QV rfl ?_; refine W_for (fun _ _ h => h) hF (.inl) (fun a10 => [(0, cL 1 t_i64 p0), (1, cI p1), (7, cI (List.length p0 : Int)), (8, cI a10)]) (fun a10 => []) (fun _ => []) (fun _ => []) sw ?_ ?_
 · rintro ⟨⟩ hF
   refine wA rfl ?_; cases hF
   exact W_ret wR
 rintro a10 x_0 hF cont_0 brk_0 fin_0
 unfold slices_Index_int_int_L1 at hF
 refine wA rfl ?_; refine W_seq ?_; refine wIf hF rfl (fun _ hF => ?_) fun _ hF => ?_
 · refine W_skip ?_; refine W_seq ?_; refine W_block ?_; refine wA rfl ?_; refine wC 3 rfl ?_; obtain ⟨y14, hy14, hF⟩ := bB hF
   refine rS (T_ixT (tc := t_i64) p0 rfl rfl hy14 ?_); refine QV rfl ?_; refine wIf hF rfl (fun _ hF => ?_) fun _ hF => ?_
   · refine wA rfl ?_; have hF := fin_0 _ (oi hF); cases hF
     exact W_ret wR
   refine W_skip ?_; refine wB rfl ?_; exact cont_0 _ _ _ (oi hF) sw
 refine W_exit ?_; refine thenQ_exit ?_; refine thenQ_exit ?_; refine blockQ_hit ?_; exact brk_0 _ _ _ (oi hF) sw
def slices_Contains_int_int (p0 : (List Int)) (p1 : Int) : Option Bool :=
  ((slices_Index_int_int p0 p1).bind fun r1 => some (decide (0 ≤ r1)))
theorem slices_Contains_int_int_fun (p0 : (List Int)) (p1 : Int) (r : Bool) (hF : slices_Contains_int_int p0 p1 = some r) : Fun Tryz.prog 133 true [] [cL 1 t_i64 p0, cI p1] noHeap (cB r) noHeap := by
 refine Fun.of_walk0 Tryz.func133 c133 (by kernel_rfl) (rs := [.tmp 4]) (by kernel_rfl) ?_; unfold v133
 unfold slices_Contains_int_int at hF
 refine wA rfl ?_; refine wC 2 rfl ?_; obtain ⟨r1, hr1, hF⟩ := bB hF
 refine rS (T_call (slices_Index_int_int_fun _ _ _ hr1) ⟨rfl, rfl, trivial⟩ rfl (.inl rfl) ?_); refine QV rfl ?_; cases hF
 exact W_ret wR
def state_distinct_L1 (p0 : (List api_Thread)) : ((List Int) × Int) → Option (((List Int) × Int) ⊕ (List Int)) := fun (a19, a20) =>
  (bif (decide (a20 < (List.length p0 : Int))) then ((((idx p0 a20).bind fun y29 => ((slices_Contains_int_int a19 y29.fId).bind fun r30 => (bif (!r30) then (bif room 8 (List.length a19 + List.length [y29.fId]) then some (a19 ++ [y29.fId]) else none) else some a19))) : Option (List Int)).bind fun v28 => some (.inl (v28, (w64 (a20 + 1))))) else some (.inr a19))
def state_distinct (p0 : (List api_Thread)) : Option (List Int) :=
  ((loop (state_distinct_L1 p0) ([], 0)).bind fun e27 => some e27)
theorem state_distinct_fun (p0 : (List api_Thread)) (r : (List Int)) (hF : state_distinct p0 = some r) : Fun Tryz.prog 103 false [] [cL 3 t_api_Thread p0] (heapOf []) (cO (902,4120)) (heapOf [((902,4120), .arr 3 1 (List.map t_i64 r))]) := by
 refine Fun.of_walkM [] (some []) Tryz.func103 c103 (by kernel_rfl) (rs := [.tmp 2]) (by kernel_rfl) rfl rfl rfl ?_; unfold v103
 unfold state_distinct at hF
 refine wA rfl ?_; refine wA rfl ?_; refine W_seq ?_; refine wC 1 rfl ?_; refine rS (T_len (tc := t_api_Thread) p0 .tree ?_); refine QV rfl ?_; refine W_for (fun _ _ h => h) hF (id) (fun (a19, a20) => [(3, cO (21,1)), (6, cL 3 t_api_Thread p0), (7, cI (List.length p0 : Int)), (8, cI a20)]) (fun (a19, a20) => [((21,1), .arr 3 1 (List.map t_i64 a19))]) (fun e27 => [(3, cO (21,1))]) (fun e27 => [((21,1), .arr 3 1 (List.map t_i64 e27))]) (S_own 3 (21,1) 3 1 rfl rfl rfl rfl sw) ?_ ?_
 · rintro e27 hF
   refine wA rfl ?_; cases hF
   exact W_ret ⟨_, _, (S_ren (21,1) (902,4120) rfl rfl S_refl), _, rfl, rfl, rfl, (AgM.weak ⟨rfl, trivial⟩)⟩
 rintro ⟨a19, a20⟩ x_0 hF cont_0 brk_0 fin_0
 unfold state_distinct_L1 at hF
 refine wA rfl ?_; refine W_seq ?_; refine wIf hF rfl (fun _ hF => ?_) fun _ hF => ?_
 · refine W_skip ?_; refine W_seq ?_; refine W_join (fun _ _ h => h) hF (fun v28 => [(3, cO (21,1)), (6, cL 3 t_api_Thread p0), (7, cI (List.length p0 : Int)), (8, cI a20)]) (fun v28 => [((21,1), .arr 3 1 (List.map t_i64 v28))]) ?_ ?_
   · rintro v28 hF
     refine wB rfl ?_; exact cont_0 _ _ _ (oi hF) sw
   intro join hF
   refine W_block ?_; refine wE ?_; obtain ⟨y29, hy29, hF⟩ := bB' hF
   refine rS (T_ixT (tc := t_api_Thread) p0 rfl rfl hy29 ?_); refine QV rfl ?_; refine wC 3 rfl ?_; obtain ⟨r30, hr30, hF⟩ := bB' hF
   refine rS (T_call (slices_Contains_int_int_fun _ _ _ hr30) ⟨⟨_, rfl⟩, rfl, trivial⟩ rfl (.inl rfl) ?_); refine QV rfl ?_; refine wIf' hF rfl (fun _ hF => ?_) fun _ hF => ?_
   · refine wD 3 rfl ?_; refine rS (T_bsl (tc := t_i64) [y29.fId] rfl ⟨rfl, trivial⟩ rfl (fun _ => rfl) rfl ?_)
     obtain ⟨h31, hF⟩ := roomT' hF
     refine rS (T_appO (tc := t_i64) a19 [y29.fId] rfl rfl (.own _ _ rfl) h31 rfl ?_); refine QV rfl ?_; exact join (a19 ++ [y29.fId]) _ _ hF (S_ren (21,0) (21,1) rfl rfl sw)
   refine W_skip ?_; exact join a19 _ _ hF sw
 refine W_exit ?_; refine thenQ_exit ?_; refine thenQ_exit ?_; refine blockQ_hit ?_; exact brk_0 _ _ _ (oi hF) sw
def state_fields (p0 : api_State) : Option Bool :=
  (((bif (decide (p0.fState = 1)) then some true else some (decide (p0.fState = 2))) : Option Bool).bind fun v1 => (((bif (decide (p0.fState < 0)) then some true else some (decide (5 < p0.fState))) : Option Bool).bind fun v2 => (bif v2 then some false else (((bif (decide (p0.fState = 4)) then (bif (decide (p0.fCpu < 0)) then some true else some (decide (64 ≤ p0.fCpu))) else some false) : Option Bool).bind fun v3 => (((bif v3 then some v3 else (bif (!decide (p0.fState = 4)) then some (!decide (p0.fCpu = (-1))) else some false)) : Option Bool).bind fun v4 => (bif v4 then some false else (((bif (decide (p0.fState = 2)) then (bif (decide (p0.fOn < 0)) then some true else some (decide (1000000000000000 < p0.fOn))) else some false) : Option Bool).bind fun v5 => (((bif v5 then some v5 else (bif (!decide (p0.fState = 2)) then some (!decide (p0.fOn = (-1))) else some false)) : Option Bool).bind fun v6 => (bif v6 then some false else (((bif (decide (p0.fBy = (-1))) then some true else (bif v1 then (bif (decide (0 ≤ p0.fBy)) then some (decide (p0.fBy ≤ 1000000000000000)) else some false) else some false)) : Option Bool).bind fun v7 => some v7))))))))))
theorem state_fields_fun (p0 : api_State) (r : Bool) (hF : state_fields p0 = some r) : Fun Tryz.prog 105 true [] [.agg (m_api_State p0)] noHeap (cB r) noHeap := by
 refine Fun.of_walk0 Tryz.func105 c105 (by kernel_rfl) (rs := [.tmp 2]) (by kernel_rfl) ?_; unfold v105
 unfold state_fields at hF
 refine wA rfl ?_; refine W_seq ?_; refine W_join (fun _ _ h => h) hF (fun v1 => [(1, cP (1,0) 0), (3, cB v1)]) (fun v1 => [((1,0), .box (m_api_State p0))]) ?_ ?_
 · rintro v1 hF
   refine W_seq ?_; refine W_block ?_; refine W_seq ?_; refine W_join (fun _ _ h => h) hF (fun v2 => [(1, cP (1,0) 0), (3, cB v1), (12, cB v2)]) (fun v2 => [((1,0), .box (m_api_State p0))]) ?_ ?_
   · rintro v2 hF
     refine wIf hF rfl (fun _ hF => ?_) fun _ hF => ?_
     · refine wA rfl ?_; cases hF
       exact W_ret wR
     refine W_seq ?_; refine W_seq ?_; refine W_join (fun _ _ h => h) hF (fun v3 => [(1, cP (1,0) 0), (3, cB v1), (21, cB v3)]) (fun v3 => [((1,0), .box (m_api_State p0))]) ?_ ?_
     · rintro v3 hF
       refine W_join (fun _ _ h => h) hF (fun v4 => [(1, cP (1,0) 0), (3, cB v1), (21, cB v4)]) (fun v4 => [((1,0), .box (m_api_State p0))]) ?_ ?_
       · rintro v4 hF
         refine wIf hF rfl (fun _ hF => ?_) fun _ hF => ?_
         · refine wA rfl ?_; cases hF
           exact W_ret wR
         refine W_seq ?_; refine W_seq ?_; refine W_join (fun _ _ h => h) hF (fun v5 => [(1, cP (1,0) 0), (3, cB v1), (43, cB v5)]) (fun v5 => [((1,0), .box (m_api_State p0))]) ?_ ?_
         · rintro v5 hF
           refine W_join (fun _ _ h => h) hF (fun v6 => [(1, cP (1,0) 0), (3, cB v1), (43, cB v6)]) (fun v6 => [((1,0), .box (m_api_State p0))]) ?_ ?_
           · rintro v6 hF
             refine wIf hF rfl (fun _ hF => ?_) fun _ hF => ?_
             · refine wA rfl ?_; cases hF
               exact W_ret wR
             refine W_skip ?_; refine W_seq ?_; refine W_join (fun _ _ h => h) hF (fun v7 => [(2, cB v7)]) (fun v7 => []) ?_ ?_
             · rintro v7 hF
               cases hF
               exact W_ret wR
             intro join hF
             refine wD 4 rfl ?_; cases h8 : (decide (p0.fBy = (-1)))
             · have hF := bF' h8 hF; refine Q_run SV 2 rfl ?_; cases h9 : v1
               · have hF := bF' h9 hF; refine QV rfl ?_; exact join false _ _ hF sw
               have hF := bT' h9 hF; refine Q_run SV 5 rfl ?_; cases h10 : (decide (0 ≤ p0.fBy))
               · have hF := bF' h10 hF; refine QV rfl ?_; exact join false _ _ hF sw
               have hF := bT' h10 hF; refine QV rfl ?_; exact join (decide (p0.fBy ≤ 1000000000000000)) _ _ hF sw
             have hF := bT' h8 hF; refine QV rfl ?_; exact join true _ _ hF sw
           intro join hF
           refine wIf' hF rfl (fun _ hF => ?_) fun _ hF => ?_
           · refine W_skip ?_; exact join v5 _ _ hF sw
           refine wD 4 rfl ?_; cases h12 : (!decide (p0.fState = 2))
           · have hF := bF' h12 hF; refine QV rfl ?_; exact join false _ _ hF sw
           have hF := bT' h12 hF; refine QV rfl ?_; exact join (!decide (p0.fOn = (-1))) _ _ hF sw
         intro join hF
         refine wD 4 rfl ?_; cases h14 : (decide (p0.fState = 2))
         · have hF := bF' h14 hF; refine QV rfl ?_; exact join false _ _ hF sw
         have hF := bT' h14 hF; refine Q_run SV 4 rfl ?_; cases h15 : (decide (p0.fOn < 0))
         · have hF := bF' h15 hF; refine QV rfl ?_; exact join (decide (1000000000000000 < p0.fOn)) _ _ hF sw
         have hF := bT' h15 hF; refine QV rfl ?_; exact join true _ _ hF sw
       intro join hF
       refine wIf' hF rfl (fun _ hF => ?_) fun _ hF => ?_
       · refine W_skip ?_; exact join v3 _ _ hF sw
       refine wD 4 rfl ?_; cases h17 : (!decide (p0.fState = 4))
       · have hF := bF' h17 hF; refine QV rfl ?_; exact join false _ _ hF sw
       have hF := bT' h17 hF; refine QV rfl ?_; exact join (!decide (p0.fCpu = (-1))) _ _ hF sw
     intro join hF
     refine wD 4 rfl ?_; cases h19 : (decide (p0.fState = 4))
     · have hF := bF' h19 hF; refine QV rfl ?_; exact join false _ _ hF sw
     have hF := bT' h19 hF; refine Q_run SV 4 rfl ?_; cases h20 : (decide (p0.fCpu < 0))
     · have hF := bF' h20 hF; refine QV rfl ?_; exact join (decide (64 ≤ p0.fCpu)) _ _ hF sw
     have hF := bT' h20 hF; refine QV rfl ?_; exact join true _ _ hF sw
   intro join hF
   refine wD 4 rfl ?_; cases h22 : (decide (p0.fState < 0))
   · have hF := bF' h22 hF; refine QV rfl ?_; exact join (decide (5 < p0.fState)) _ _ hF sw
   have hF := bT' h22 hF; refine QV rfl ?_; exact join true _ _ hF sw
 intro join hF
 refine wD 4 rfl ?_; cases h23 : (decide (p0.fState = 1))
 · have hF := bF' h23 hF; refine QV rfl ?_; exact join (decide (p0.fState = 2)) _ _ hF sw
 have hF := bT' h23 hF; refine QV rfl ?_; exact join true _ _ hF sw
def state_same (p0 : api_State) (p1 : api_State) : Option Bool :=
  (((bif (decide (p0.fState = p1.fState)) then (bif (decide (p0.fCpu = p1.fCpu)) then some (decide (p0.fOn = p1.fOn)) else some false) else some false) : Option Bool).bind fun v1 => some v1)
theorem state_same_fun (p0 : api_State) (p1 : api_State) (r : Bool) (hF : state_same p0 p1 = some r) : Fun Tryz.prog 106 true [] [.agg (m_api_State p0), .agg (m_api_State p1)] noHeap (cB r) noHeap := by
 refine Fun.of_walk0 Tryz.func106 c106 (by kernel_rfl) (rs := [.tmp 4]) (by kernel_rfl) ?_; unfold v106
 unfold state_same at hF
 refine wA rfl ?_; refine W_seq ?_; refine W_join (fun _ _ h => h) hF (fun v1 => [(4, cB v1)]) (fun v1 => []) ?_ ?_
 · rintro v1 hF
   cases hF
   exact W_ret wR
 intro join hF
 refine wD 6 rfl ?_; cases h2 : (decide (p0.fState = p1.fState))
 · have hF := bF' h2 hF; refine QV rfl ?_; exact join false _ _ hF sw
 have hF := bT' h2 hF; refine Q_run SV 7 rfl ?_; cases h3 : (decide (p0.fCpu = p1.fCpu))
 · have hF := bF' h3 hF; refine QV rfl ?_; exact join false _ _ hF sw
 have hF := bT' h3 hF; refine QV rfl ?_; exact join (decide (p0.fOn = p1.fOn)) _ _ hF sw
def state_Check_L1 (p1 : (List api_State)) (y68 : api_State) : Int → Option (Int ⊕ (Unit ⊕ Int)) := fun a88 =>
  (bif (decide (a88 < (List.length p1 : Int))) then ((idx p1 a88).bind fun y98 => (((bif (decide ((w64 (a88 + 1)) = (List.length p1 : Int))) then some true else ((idx p1 (w64 (a88 + 1))).bind fun y104 => some (!decide (y104.fThread = y98.fThread)))) : Option Bool).bind fun v99 => (((bif v99 then some (!decide (y98.fSpan.fTo = y68.fSpan.fTo)) else some false) : Option Bool).bind fun v100 => (bif v100 then some (.inr (.inr 11)) else some (.inl (w64 (a88 + 1))))))) else some (.inr (.inl ())))
def state_Check_L2 (p1 : (List api_State)) (r1 : (List Int)) : (Int × Int) → Option ((Int × Int) ⊕ (Int ⊕ Int)) := fun (a46, a47) =>
  (bif (decide (a47 < (List.length p1 : Int))) then ((idx p1 a47).bind fun y107 => ((slices_Index_int_int r1 y107.fThread).bind fun r108 => (bif (decide (r108 < 0)) then some (.inr (.inr 5)) else ((spans_Valid y107.fSpan).bind fun r109 => (bif (!r109) then some (.inr (.inr 2)) else ((state_fields y107).bind fun r110 => (bif (!r110) then some (.inr (.inr 1)) else (((bif (decide (r108 = a46)) then ((idx p1 (w64 (a47 - 1))).bind fun y118 => (bif (!decide (y107.fSpan.fFrom = y118.fSpan.fTo)) then some true else ((idx p1 (w64 (a47 - 1))).bind fun y120 => ((state_same y107 y120).bind fun r121 => some r121)))) else some false) : Option Bool).bind fun v111 => (bif v111 then some (.inr (.inr 11)) else (((bif (!decide (r108 = a46)) then (bif (!decide (r108 = (w64 (a46 + 1)))) then some true else some (!decide (y107.fSpan.fFrom = 0))) else some false) : Option Bool).bind fun v112 => (bif v112 then some (.inr (.inr 11)) else some (.inl (r108, (w64 (a47 + 1))))))))))))))) else some (.inr (.inl a46)))
def state_Check (p0 : (List api_Thread)) (p1 : (List api_State)) : Option Int :=
  ((state_distinct p0).bind fun r1 => ((loop (state_Check_L2 p1 r1) ((-1), 0)).bind fun | .inl e67 => (bif (decide ((List.length p1 : Int) = 0)) then some 0 else ((idx p1 (w64 ((List.length p1 : Int) - 1))).bind fun y68 => ((loop (state_Check_L1 p1 y68) 0).bind fun | .inl _ => (bif (!decide ((w64 (e67 + 1)) = (List.length r1 : Int))) then some 11 else some 0) | .inr rv => some rv))) | .inr rv => some rv))
theorem state_Check_fun (p0 : (List api_Thread)) (p1 : (List api_State)) (r : Int) (hF : state_Check p0 p1 = some r) : Fun Tryz.prog 58 true [] [cL 3 t_api_Thread p0, cL 7 t_api_State p1] noHeap (cI r) noHeap := by
 refine Fun.of_walk0 Tryz.func58 c58 (by kernel_rfl) (rs := [.tmp 4]) (by kernel_rfl) ?_; unfold v58
 unfold state_Check at hF
 refine wA rfl ?_; refine wC 1 rfl ?_; obtain ⟨r1, hr1, hF⟩ := bB hF
 refine R_stepX trivial (X_callG [((902,4120),(15,1))] rfl (callN _) (state_distinct_fun _ _ hr1) trivial ⟨.inl rfl, trivial⟩ rfl rfl rfl ?_); refine QV rfl ?_; refine wA rfl ?_; refine W_seq ?_; refine wC 1 rfl ?_
 refine rS (T_len (tc := t_api_State) p1 .tree ?_); refine QV rfl ?_; refine W_for (fun _ _ h => h) hF (.inl) (fun (a46, a47) => [(1, cL 7 t_api_State p1), (5, cO (15,1)), (6, cI a46), (16, cL 7 t_api_State p1), (17, cI (List.length p1 : Int)), (18, cI a47)]) (fun (a46, a47) => [((15,1), .arr 3 1 (List.map t_i64 r1))]) (fun e67 => [(1, cL 7 t_api_State p1), (5, cO (15,1)), (6, cI e67)]) (fun e67 => [((15,1), .arr 3 1 (List.map t_i64 r1))]) sw ?_ ?_
 · rintro e67 hF
   refine W_seq ?_; refine wC 1 rfl ?_; refine rS (T_len (tc := t_api_State) p1 .tree ?_); refine QV rfl ?_; refine wIf hF rfl (fun _ hF => ?_) fun _ hF => ?_
   · refine wA rfl ?_; cases hF
     exact W_ret wR
   refine W_skip ?_; refine wC 2 rfl ?_; refine rS (T_len (tc := t_api_State) p1 .tree ?_); refine Q_run SV 1 rfl ?_; obtain ⟨y68, hy68, hF⟩ := bB hF
   refine rS (T_ixT (tc := t_api_State) p1 rfl rfl hy68 ?_); refine QV rfl ?_; refine W_seq ?_; refine wC 1 rfl ?_; refine rS (T_len (tc := t_api_State) p1 .tree ?_); refine QV rfl ?_; refine W_for (fun _ _ h => h) hF (.inl) (fun a88 => [(1, cL 7 t_api_State p1), (5, cO (15,1)), (6, cI e67), (10, cI y68.fSpan.fTo), (94, cL 7 t_api_State p1), (95, cI (List.length p1 : Int)), (96, cI a88)]) (fun a88 => [((15,1), .arr 3 1 (List.map t_i64 r1))]) (fun _ => [(5, cO (15,1)), (6, cI e67)]) (fun _ => [((15,1), .arr 3 1 (List.map t_i64 r1))]) sw ?_ ?_
   · rintro ⟨⟩ hF
     refine W_seq ?_; refine wC 3 rfl ?_; refine rS (T_len (tc := t_i64) r1 (.own _ _ rfl) ?_); refine QV rfl ?_; refine wIf hF rfl (fun _ hF => ?_) fun _ hF => ?_
     · refine wA rfl ?_; cases hF
       exact W_ret wR
     refine W_skip ?_; refine wA rfl ?_; cases hF
     exact W_ret wR
   rintro a88 x_0 hF cont_0 brk_0 fin_0
   unfold state_Check_L1 at hF
   refine wA rfl ?_; refine W_seq ?_; refine wIf hF rfl (fun _ hF => ?_) fun _ hF => ?_
   · refine W_skip ?_; refine W_seq ?_; refine W_block ?_; refine wC 1 rfl ?_; obtain ⟨y98, hy98, hF⟩ := bB hF
     refine rS (T_ixT (tc := t_api_State) p1 rfl rfl hy98 ?_); refine QV rfl ?_; refine W_seq ?_; refine W_join (fun _ _ h => h) hF (fun v99 => [(1, cL 7 t_api_State p1), (5, cO (15,1)), (6, cI e67), (10, cI y68.fSpan.fTo), (12, cP (12,0) 0), (13, cB v99), (94, cL 7 t_api_State p1), (95, cI (List.length p1 : Int)), (96, cI a88)]) (fun v99 => [((15,1), .arr 3 1 (List.map t_i64 r1)), ((12,0), .box (m_api_State y98))]) ?_ ?_
     · rintro v99 hF
       refine W_seq ?_; refine W_join (fun _ _ h => h) hF (fun v100 => [(1, cL 7 t_api_State p1), (5, cO (15,1)), (6, cI e67), (10, cI y68.fSpan.fTo), (94, cL 7 t_api_State p1), (95, cI (List.length p1 : Int)), (96, cI a88), (124, cB v100)]) (fun v100 => [((15,1), .arr 3 1 (List.map t_i64 r1))]) ?_ ?_
       · rintro v100 hF
         refine wIf hF rfl (fun _ hF => ?_) fun _ hF => ?_
         · refine wA rfl ?_; have hF := fin_0 _ (oi hF); cases hF
           exact W_ret wR
         refine W_skip ?_; refine wB rfl ?_; exact cont_0 _ _ _ (oi hF) sw
       intro join hF
       refine wD 2 rfl ?_; cases h102 : v99
       · have hF := bF' h102 hF; refine QV rfl ?_; exact join false _ _ hF sw
       have hF := bT' h102 hF; refine QV rfl ?_; exact join (!decide (y98.fSpan.fTo = y68.fSpan.fTo)) _ _ hF sw
     intro join hF
     refine W_regD (by decide) (by kernel_rfl) rfl ?_; refine Q_run SP 3 rfl ?_; refine R_step SP trivial (T_len (tc := t_api_State) p1 .tree ?_); refine Q_run SP 2 rfl ?_; cases h103 : (decide ((w64 (a88 + 1)) = (List.length p1 : Int)))
     · have hF := bF' h103 hF; refine Q_run SP 3 rfl ?_; obtain ⟨y104, hy104, hF⟩ := bB' hF
       refine R_step SP rfl (T_ixT (tc := t_api_State) p1 rfl rfl hy104 ?_); refine QP rfl ?_; exact join (!decide (y104.fThread = y98.fThread)) _ _ hF sw
     have hF := bT' h103 hF; refine QP rfl ?_; exact join true _ _ hF sw
   refine W_exit ?_; refine thenQ_exit ?_; refine thenQ_exit ?_; refine blockQ_hit ?_; exact brk_0 _ _ _ (oi hF) sw
 rintro ⟨a46, a47⟩ x_0 hF cont_0 brk_0 fin_0
 unfold state_Check_L2 at hF
 refine wA rfl ?_; refine W_seq ?_; refine wIf hF rfl (fun _ hF => ?_) fun _ hF => ?_
 · refine W_skip ?_; refine W_seq ?_; refine W_block ?_; refine wC 1 rfl ?_; obtain ⟨y107, hy107, hF⟩ := bB hF
   refine rS (T_ixT (tc := t_api_State) p1 rfl rfl hy107 ?_); refine QV rfl ?_; refine wC 3 rfl ?_; obtain ⟨r108, hr108, hF⟩ := bB hF
   refine rS (T_call (slices_Index_int_int_fun _ _ _ hr108) ⟨⟨_, rfl⟩, rfl, trivial⟩ rfl (.inl rfl) ?_); refine QV rfl ?_; refine W_seq ?_; refine W_block ?_; refine wA rfl ?_; refine wIf hF rfl (fun _ hF => ?_) fun _ hF => ?_
   · refine wA rfl ?_; have hF := fin_0 _ (oi hF); cases hF
     exact W_ret wR
   refine wC 2 rfl ?_; obtain ⟨r109, hr109, hF⟩ := bB hF
   refine rS (T_call (spans_Valid_fun _ _ hr109) ⟨⟨rfl, rfl, trivial⟩, trivial⟩ rfl (.inl rfl) ?_); refine QV rfl ?_; refine wIf hF rfl (fun _ hF => ?_) fun _ hF => ?_
   · refine wA rfl ?_; have hF := fin_0 _ (oi hF); cases hF
     exact W_ret wR
   refine wC 1 rfl ?_; obtain ⟨r110, hr110, hF⟩ := bB hF
   refine rS (T_call (state_fields_fun _ _ hr110) ⟨⟨rfl, rfl, rfl, rfl, rfl, rfl, rfl, trivial⟩, trivial⟩ rfl (.inl rfl) ?_); refine QV rfl ?_; refine wIf hF rfl (fun _ hF => ?_) fun _ hF => ?_
   · refine wA rfl ?_; have hF := fin_0 _ (oi hF); cases hF
     exact W_ret wR
   refine W_seq ?_; refine W_join (fun _ _ h => h) hF (fun v111 => [(1, cL 7 t_api_State p1), (5, cO (15,1)), (6, cI a46), (8, cP (8,0) 0), (9, cI r108), (16, cL 7 t_api_State p1), (17, cI (List.length p1 : Int)), (18, cI a47), (39, cB v111)]) (fun v111 => [((15,1), .arr 3 1 (List.map t_i64 r1)), ((8,0), .box (m_api_State y107))]) ?_ ?_
   · rintro v111 hF
     refine wIf hF rfl (fun _ hF => ?_) fun _ hF => ?_
     · refine wA rfl ?_; have hF := fin_0 _ (oi hF); cases hF
       exact W_ret wR
     refine W_seq ?_; refine W_join (fun _ _ h => h) hF (fun v112 => [(1, cL 7 t_api_State p1), (5, cO (15,1)), (9, cI r108), (16, cL 7 t_api_State p1), (17, cI (List.length p1 : Int)), (18, cI a47), (65, cB v112)]) (fun v112 => [((15,1), .arr 3 1 (List.map t_i64 r1))]) ?_ ?_
     · rintro v112 hF
       refine wIf hF rfl (fun _ hF => ?_) fun _ hF => ?_
       · refine wA rfl ?_; have hF := fin_0 _ (oi hF); cases hF
         exact W_ret wR
       refine W_skip ?_; refine wB rfl ?_; refine wB rfl ?_; exact cont_0 _ _ _ (oi hF) sw
     intro join hF
     refine wD 4 rfl ?_; cases h114 : (!decide (r108 = a46))
     · have hF := bF' h114 hF; refine QV rfl ?_; exact join false _ _ hF sw
     have hF := bT' h114 hF; refine Q_run SV 5 rfl ?_; cases h115 : (!decide (r108 = (w64 (a46 + 1))))
     · have hF := bF' h115 hF; refine QV rfl ?_; exact join (!decide (y107.fSpan.fFrom = 0)) _ _ hF sw
     have hF := bT' h115 hF; refine QV rfl ?_; exact join true _ _ hF sw
   intro join hF
   refine W_regD (by decide) (by kernel_rfl) rfl ?_; refine Q_run SP 4 rfl ?_; cases h117 : (decide (r108 = a46))
   · have hF := bF' h117 hF; refine QP rfl ?_; exact join false _ _ hF sw
   have hF := bT' h117 hF; refine Q_run SP 6 rfl ?_; obtain ⟨y118, hy118, hF⟩ := bB' hF
   refine R_step SP rfl (T_ixT (tc := t_api_State) p1 rfl rfl hy118 ?_); refine Q_run SP 5 rfl ?_; cases h119 : (!decide (y107.fSpan.fFrom = y118.fSpan.fTo))
   · have hF := bF' h119 hF; refine Q_run SP 4 rfl ?_; obtain ⟨y120, hy120, hF⟩ := bB' hF
     refine R_step SP rfl (T_ixT (tc := t_api_State) p1 rfl rfl hy120 ?_); refine Q_run SP 1 rfl ?_; obtain ⟨r121, hr121, hF⟩ := bB' hF
     refine R_step SP rfl (T_call (state_same_fun _ _ _ hr121) ⟨⟨rfl, rfl, rfl, rfl, rfl, rfl, rfl, trivial⟩, ⟨rfl, rfl, rfl, rfl, rfl, rfl, rfl, trivial⟩, trivial⟩ rfl (.inl rfl) ?_); refine QP rfl ?_; exact join r121 _ _ hF sw
   have hF := bT' h119 hF; refine QP rfl ?_; exact join true _ _ hF sw
 refine W_exit ?_; refine thenQ_exit ?_; refine thenQ_exit ?_; refine blockQ_hit ?_; exact brk_0 _ _ _ (oi hF) sw
def flow_bad (p0 : Int) (p1 : Int) : Option Bool :=
  (((bif (decide (p0 < 0)) then some true else some (decide (p1 < p0))) : Option Bool).bind fun v1 => some v1)
theorem flow_bad_fun (p0 : Int) (p1 : Int) (r : Bool) (hF : flow_bad p0 p1 = some r) : Fun Tryz.prog 107 true [] [cI p0, cI p1] noHeap (cB r) noHeap := by
 refine Fun.of_walk0 Tryz.func107 c107 (by kernel_rfl) (rs := [.tmp 4]) (by kernel_rfl) ?_; unfold v107
 unfold flow_bad at hF
 refine wA rfl ?_; refine W_seq ?_; refine W_join (fun _ _ h => h) hF (fun v1 => [(4, cB v1)]) (fun v1 => []) ?_ ?_
 · rintro v1 hF
   cases hF
   exact W_ret wR
 intro join hF
 refine wD 3 rfl ?_; cases h2 : (decide (p0 < 0))
 · have hF := bF' h2 hF; refine QV rfl ?_; exact join (decide (p1 < p0)) _ _ hF sw
 have hF := bT' h2 hF; refine QV rfl ?_; exact join true _ _ hF sw
def flow_Check_L1 (p0 : (List api_Flow)) : Int → Option (Int ⊕ (Unit ⊕ Int)) := fun a48 =>
  (bif (decide (a48 < (List.length p0 : Int))) then ((idx p0 a48).bind fun y71 => ((flow_bad y71.fId 1000000000000000).bind fun r72 => (((bif r72 then some r72 else ((flow_bad y71.fFrom.fThread 1000000000000000).bind fun r80 => (bif r80 then some r80 else ((flow_bad y71.fFrom.fSerial 1000000000000000).bind fun r81 => (bif r81 then some r81 else ((flow_bad y71.fTo.fThread 1000000000000000).bind fun r82 => (bif r82 then some r82 else ((flow_bad y71.fTo.fSerial 1000000000000000).bind fun r83 => (bif r83 then some r83 else ((flow_bad y71.fSend 1000000000000).bind fun r84 => (bif r84 then some r84 else ((flow_bad y71.fRecv 1000000000000).bind fun r85 => some r85)))))))))))) : Option Bool).bind fun v73 => (bif v73 then some (.inr (.inr 2)) else (((bif (decide (y71.fRecv < y71.fSend)) then some (decide (y71.fRecv < y71.fSend)) else (bif (decide (0 < a48)) then ((idx p0 (w64 (a48 - 1))).bind fun y77 => some (decide (y71.fRecv < y77.fRecv))) else some false)) : Option Bool).bind fun v74 => (bif v74 then some (.inr (.inr 11)) else some (.inl (w64 (a48 + 1))))))))) else some (.inr (.inl ())))
def flow_Check (p0 : (List api_Flow)) : Option Int :=
  ((loop (flow_Check_L1 p0) 0).bind fun | .inl _ => some 0 | .inr rv => some rv)
theorem flow_Check_fun (p0 : (List api_Flow)) (r : Int) (hF : flow_Check p0 = some r) : Fun Tryz.prog 60 true [] [cL 7 t_api_Flow p0] noHeap (cI r) noHeap := by
 refine Fun.of_walk0 Tryz.func60 c60 (by kernel_rfl) (rs := [.tmp 2]) (by kernel_rfl) ?_; unfold v60
 unfold flow_Check at hF
 refine wA rfl ?_; refine W_seq ?_; refine wC 1 rfl ?_; refine rS (T_len (tc := t_api_Flow) p0 .tree ?_); refine QV rfl ?_; refine W_for (fun _ _ h => h) hF (.inl) (fun a48 => [(0, cL 7 t_api_Flow p0), (5, cL 7 t_api_Flow p0), (6, cI (List.length p0 : Int)), (7, cI a48)]) (fun a48 => []) (fun _ => []) (fun _ => []) sw ?_ ?_
 · rintro ⟨⟩ hF
   refine wA rfl ?_; cases hF
   exact W_ret wR
 rintro a48 x_0 hF cont_0 brk_0 fin_0
 unfold flow_Check_L1 at hF
 refine wA rfl ?_; refine W_seq ?_; refine wIf hF rfl (fun _ hF => ?_) fun _ hF => ?_
 · refine W_skip ?_; refine W_seq ?_; refine W_block ?_; refine wC 1 rfl ?_; obtain ⟨y71, hy71, hF⟩ := bB hF
   refine rS (T_ixT (tc := t_api_Flow) p0 rfl rfl hy71 ?_); refine QV rfl ?_; refine W_block ?_; refine W_seq ?_; refine wC 2 rfl ?_; obtain ⟨r72, hr72, hF⟩ := bB hF
   refine rS (T_call (flow_bad_fun _ _ _ hr72) ⟨rfl, rfl, trivial⟩ rfl (.inl rfl) ?_); refine QV rfl ?_; refine W_join (fun _ _ h => h) hF (fun v73 => [(0, cL 7 t_api_Flow p0), (3, cI a48), (4, cP (4,0) 0), (5, cL 7 t_api_Flow p0), (6, cI (List.length p0 : Int)), (7, cI a48), (12, cB v73)]) (fun v73 => [((4,0), .box (m_api_Flow y71))]) ?_ ?_
   · rintro v73 hF
     refine wIf hF rfl (fun _ hF => ?_) fun _ hF => ?_
     · refine wA rfl ?_; have hF := fin_0 _ (oi hF); cases hF
       exact W_ret wR
     refine W_seq ?_; refine wA rfl ?_; refine W_join (fun _ _ h => h) hF (fun v74 => [(0, cL 7 t_api_Flow p0), (5, cL 7 t_api_Flow p0), (6, cI (List.length p0 : Int)), (7, cI a48), (38, cB v74)]) (fun v74 => []) ?_ ?_
     · rintro v74 hF
       refine wIf hF rfl (fun _ hF => ?_) fun _ hF => ?_
       · refine wA rfl ?_; have hF := fin_0 _ (oi hF); cases hF
         exact W_ret wR
       refine W_skip ?_; refine wB rfl ?_; exact cont_0 _ _ _ (oi hF) sw
     intro join hF
     refine wIf' hF rfl (fun _ hF => ?_) fun _ hF => ?_
     · refine W_skip ?_; exact join (decide (y71.fRecv < y71.fSend)) _ _ hF sw
     refine W_regD (by decide) (by kernel_rfl) rfl ?_; refine Q_run SP 3 rfl ?_; cases h76 : (decide (0 < a48))
     · have hF := bF' h76 hF; refine QP rfl ?_; exact join false _ _ hF sw
     have hF := bT' h76 hF; refine Q_run SP 5 rfl ?_; obtain ⟨y77, hy77, hF⟩ := bB' hF
     refine R_step SP rfl (T_ixT (tc := t_api_Flow) p0 rfl rfl hy77 ?_); refine QP rfl ?_; exact join (decide (y71.fRecv < y77.fRecv)) _ _ hF sw
   intro join hF
   refine wIf' hF rfl (fun _ hF => ?_) fun _ hF => ?_
   · refine W_skip ?_; exact join r72 _ _ hF sw
   refine wC 3 rfl ?_; obtain ⟨r80, hr80, hF⟩ := bB' hF
   refine rS (T_call (flow_bad_fun _ _ _ hr80) ⟨rfl, rfl, trivial⟩ rfl (.inl rfl) ?_); refine QV rfl ?_; refine wIf' hF rfl (fun _ hF => ?_) fun _ hF => ?_
   · refine W_skip ?_; exact join r80 _ _ hF sw
   refine wC 3 rfl ?_; obtain ⟨r81, hr81, hF⟩ := bB' hF
   refine rS (T_call (flow_bad_fun _ _ _ hr81) ⟨rfl, rfl, trivial⟩ rfl (.inl rfl) ?_); refine QV rfl ?_; refine wIf' hF rfl (fun _ hF => ?_) fun _ hF => ?_
   · refine W_skip ?_; exact join r81 _ _ hF sw
   refine wC 3 rfl ?_; obtain ⟨r82, hr82, hF⟩ := bB' hF
   refine rS (T_call (flow_bad_fun _ _ _ hr82) ⟨rfl, rfl, trivial⟩ rfl (.inl rfl) ?_); refine QV rfl ?_; refine wIf' hF rfl (fun _ hF => ?_) fun _ hF => ?_
   · refine W_skip ?_; exact join r82 _ _ hF sw
   refine wC 3 rfl ?_; obtain ⟨r83, hr83, hF⟩ := bB' hF
   refine rS (T_call (flow_bad_fun _ _ _ hr83) ⟨rfl, rfl, trivial⟩ rfl (.inl rfl) ?_); refine QV rfl ?_; refine wIf' hF rfl (fun _ hF => ?_) fun _ hF => ?_
   · refine W_skip ?_; exact join r83 _ _ hF sw
   refine wC 2 rfl ?_; obtain ⟨r84, hr84, hF⟩ := bB' hF
   refine rS (T_call (flow_bad_fun _ _ _ hr84) ⟨rfl, rfl, trivial⟩ rfl (.inl rfl) ?_); refine QV rfl ?_; refine wIf' hF rfl (fun _ hF => ?_) fun _ hF => ?_
   · refine W_skip ?_; exact join r84 _ _ hF sw
   refine wD 2 rfl ?_; obtain ⟨r85, hr85, hF⟩ := bB' hF
   refine rS (T_call (flow_bad_fun _ _ _ hr85) ⟨rfl, rfl, trivial⟩ rfl (.inl rfl) ?_); refine QV rfl ?_; exact join r85 _ _ hF sw
 refine W_exit ?_; refine thenQ_exit ?_; refine thenQ_exit ?_; refine blockQ_hit ?_; exact brk_0 _ _ _ (oi hF) sw
def trace_tables_2 (p0 : api_Flow) : Option Int :=
  some p0.fFrom.fThread
theorem trace_tables_2_fun (p0 : api_Flow) (r : Int) (hF : trace_tables_2 p0 = some r) : Fun Tryz.prog 61 true [] [.agg (m_api_Flow p0)] noHeap (cI r) noHeap := by
 refine Fun.of_walk0 Tryz.func61 c61 (by kernel_rfl) (rs := [.tmp 2]) (by kernel_rfl) ?_; unfold v61
 unfold trace_tables_2 at hF
 refine wA rfl ?_; refine wA rfl ?_; cases hF
 exact W_ret wR
def trace_known_api_Flow_k1_L1 (p1 : (List (Int × ByteArray))) (p2 : (List api_Flow)) : Int → Option (Int ⊕ (Unit ⊕ Int)) := fun a12 =>
  (bif (decide (a12 < (List.length p2 : Int))) then ((idx p2 a12).bind fun y17 => ((trace_tables_2 y17).bind fun r18 => (bif (!(Option.isSome (mget r18 p1))) then some (.inr (.inr 5)) else some (.inl (w64 (a12 + 1)))))) else some (.inr (.inl ())))
def trace_known_api_Flow_k1 (p0 : Int) (p1 : (List (Int × ByteArray))) (p2 : (List api_Flow)) : Option Int :=
  (bif (!decide (p0 = 0)) then some p0 else ((loop (trace_known_api_Flow_k1_L1 p1 p2) 0).bind fun | .inl _ => some 0 | .inr rv => some rv))
theorem trace_known_api_Flow_k1_fun (p0 : Int) (p1 : (List (Int × ByteArray))) (p2 : (List api_Flow)) (r : Int) (hF : trace_known_api_Flow_k1 p0 p1 p2 = some r) : Fun Tryz.prog 59 false [(3360,0)] [cI p0, cM (3360,0), cL 7 t_api_Flow p2, .c (.fn 61 [])] (heapOf [((3360,0), mapOb (.int .i64) kvI vvS p1)]) (cI r) (heapOf [((3360,0), mapOb (.int .i64) kvI vvS p1)]) := by
 refine Fun.of_walkM [(3360,0)] (some [(3360,0)]) Tryz.func59 c59 (by kernel_rfl) (rs := [.tmp 8]) (by kernel_rfl) rfl rfl rfl ?_; unfold v59
 unfold trace_known_api_Flow_k1 at hF
 refine wA rfl ?_; refine W_seq ?_; refine wA rfl ?_; refine wIf hF rfl (fun _ hF => ?_) fun _ hF => ?_
 · refine wA rfl ?_; cases hF
   exact W_ret ⟨_, _, S_refl, _, rfl, rfl, ⟨rfl, fun _ => rfl⟩, (AgM.weak ⟨rfl, trivial⟩)⟩
 refine W_skip ?_; refine W_seq ?_; refine wC 1 rfl ?_; refine rS (T_len (tc := t_api_Flow) p2 .tree ?_); refine QV rfl ?_; refine W_for (fun _ _ h => h) hF (.inl) (fun a12 => [(1, cM (3360,0)), (3, .c (.fn 61 [])), (16, cL 7 t_api_Flow p2), (17, cI (List.length p2 : Int)), (18, cI a12)]) (fun a12 => [((3360,0), mapOb (.int .i64) kvI vvS p1)]) (fun _ => []) (fun _ => [((3360,0), mapOb (.int .i64) kvI vvS p1)]) sw ?_ ?_
 · rintro ⟨⟩ hF
   refine wA rfl ?_; cases hF
   exact W_ret ⟨_, _, S_refl, _, rfl, rfl, ⟨rfl, fun _ => rfl⟩, (AgM.weak ⟨rfl, trivial⟩)⟩
 rintro a12 x_0 hF cont_0 brk_0 fin_0
 unfold trace_known_api_Flow_k1_L1 at hF
 refine wA rfl ?_; refine W_seq ?_; refine wIf hF rfl (fun _ hF => ?_) fun _ hF => ?_
 · refine W_skip ?_; refine W_seq ?_; refine W_block ?_; refine wE ?_; obtain ⟨y17, hy17, hF⟩ := bB hF
   refine rS (T_ixT (tc := t_api_Flow) p2 rfl rfl hy17 ?_); refine QV rfl ?_; refine wC 3 rfl ?_; obtain ⟨r18, hr18, hF⟩ := bB hF
   refine R_stepX trivial (X_call (callW _ rfl fnOk61) (trace_tables_2_fun _ _ hr18) ⟨⟨rfl, rfl, rfl, rfl, rfl, rfl, rfl, trivial⟩, trivial⟩ rfl (.inl rfl) ?_); refine rS (T_lookOk (keyI .i64) (vv := vvS) p1 r18 ⟨#[]⟩ (.own _ rfl) rfl rfl ?_)
   refine QV rfl ?_; refine wA rfl ?_; refine wIf hF rfl (fun _ hF => ?_) fun _ hF => ?_
   · refine wA rfl ?_; have hF := fin_0 _ (oi hF); cases hF
     exact W_ret ⟨_, _, S_refl, _, rfl, rfl, ⟨rfl, fun _ => rfl⟩, (AgM.weak ⟨rfl, trivial⟩)⟩
   refine W_skip ?_; refine wB rfl ?_; exact cont_0 _ _ _ (oi hF) sw
 refine W_exit ?_; refine thenQ_exit ?_; refine thenQ_exit ?_; refine blockQ_hit ?_; exact brk_0 _ _ _ (oi hF) sw
def trace_tables_3 (p0 : api_Flow) : Option Int :=
  some p0.fTo.fThread
theorem trace_tables_3_fun (p0 : api_Flow) (r : Int) (hF : trace_tables_3 p0 = some r) : Fun Tryz.prog 62 true [] [.agg (m_api_Flow p0)] noHeap (cI r) noHeap := by
 refine Fun.of_walk0 Tryz.func62 c62 (by kernel_rfl) (rs := [.tmp 2]) (by kernel_rfl) ?_; unfold v62
 unfold trace_tables_3 at hF
 refine wA rfl ?_; refine wA rfl ?_; cases hF
 exact W_ret wR
def trace_known_api_Flow_k2_L1 (p1 : (List (Int × ByteArray))) (p2 : (List api_Flow)) : Int → Option (Int ⊕ (Unit ⊕ Int)) := fun a12 =>
  (bif (decide (a12 < (List.length p2 : Int))) then ((idx p2 a12).bind fun y17 => ((trace_tables_3 y17).bind fun r18 => (bif (!(Option.isSome (mget r18 p1))) then some (.inr (.inr 5)) else some (.inl (w64 (a12 + 1)))))) else some (.inr (.inl ())))
def trace_known_api_Flow_k2 (p0 : Int) (p1 : (List (Int × ByteArray))) (p2 : (List api_Flow)) : Option Int :=
  (bif (!decide (p0 = 0)) then some p0 else ((loop (trace_known_api_Flow_k2_L1 p1 p2) 0).bind fun | .inl _ => some 0 | .inr rv => some rv))
theorem trace_known_api_Flow_k2_fun (p0 : Int) (p1 : (List (Int × ByteArray))) (p2 : (List api_Flow)) (r : Int) (hF : trace_known_api_Flow_k2 p0 p1 p2 = some r) : Fun Tryz.prog 59 false [(3360,0)] [cI p0, cM (3360,0), cL 7 t_api_Flow p2, .c (.fn 62 [])] (heapOf [((3360,0), mapOb (.int .i64) kvI vvS p1)]) (cI r) (heapOf [((3360,0), mapOb (.int .i64) kvI vvS p1)]) := by
 refine Fun.of_walkM [(3360,0)] (some [(3360,0)]) Tryz.func59 c59 (by kernel_rfl) (rs := [.tmp 8]) (by kernel_rfl) rfl rfl rfl ?_; unfold v59
 unfold trace_known_api_Flow_k2 at hF
 refine wA rfl ?_; refine W_seq ?_; refine wA rfl ?_; refine wIf hF rfl (fun _ hF => ?_) fun _ hF => ?_
 · refine wA rfl ?_; cases hF
   exact W_ret ⟨_, _, S_refl, _, rfl, rfl, ⟨rfl, fun _ => rfl⟩, (AgM.weak ⟨rfl, trivial⟩)⟩
 refine W_skip ?_; refine W_seq ?_; refine wC 1 rfl ?_; refine rS (T_len (tc := t_api_Flow) p2 .tree ?_); refine QV rfl ?_; refine W_for (fun _ _ h => h) hF (.inl) (fun a12 => [(1, cM (3360,0)), (3, .c (.fn 62 [])), (16, cL 7 t_api_Flow p2), (17, cI (List.length p2 : Int)), (18, cI a12)]) (fun a12 => [((3360,0), mapOb (.int .i64) kvI vvS p1)]) (fun _ => []) (fun _ => [((3360,0), mapOb (.int .i64) kvI vvS p1)]) sw ?_ ?_
 · rintro ⟨⟩ hF
   refine wA rfl ?_; cases hF
   exact W_ret ⟨_, _, S_refl, _, rfl, rfl, ⟨rfl, fun _ => rfl⟩, (AgM.weak ⟨rfl, trivial⟩)⟩
 rintro a12 x_0 hF cont_0 brk_0 fin_0
 unfold trace_known_api_Flow_k2_L1 at hF
 refine wA rfl ?_; refine W_seq ?_; refine wIf hF rfl (fun _ hF => ?_) fun _ hF => ?_
 · refine W_skip ?_; refine W_seq ?_; refine W_block ?_; refine wE ?_; obtain ⟨y17, hy17, hF⟩ := bB hF
   refine rS (T_ixT (tc := t_api_Flow) p2 rfl rfl hy17 ?_); refine QV rfl ?_; refine wC 3 rfl ?_; obtain ⟨r18, hr18, hF⟩ := bB hF
   refine R_stepX trivial (X_call (callW _ rfl fnOk62) (trace_tables_3_fun _ _ hr18) ⟨⟨rfl, rfl, rfl, rfl, rfl, rfl, rfl, trivial⟩, trivial⟩ rfl (.inl rfl) ?_); refine rS (T_lookOk (keyI .i64) (vv := vvS) p1 r18 ⟨#[]⟩ (.own _ rfl) rfl rfl ?_)
   refine QV rfl ?_; refine wA rfl ?_; refine wIf hF rfl (fun _ hF => ?_) fun _ hF => ?_
   · refine wA rfl ?_; have hF := fin_0 _ (oi hF); cases hF
     exact W_ret ⟨_, _, S_refl, _, rfl, rfl, ⟨rfl, fun _ => rfl⟩, (AgM.weak ⟨rfl, trivial⟩)⟩
   refine W_skip ?_; refine wB rfl ?_; exact cont_0 _ _ _ (oi hF) sw
 refine W_exit ?_; refine thenQ_exit ?_; refine thenQ_exit ?_; refine blockQ_hit ?_; exact brk_0 _ _ _ (oi hF) sw
def sample_good (p0 : api_Sample) : Option Bool :=
  (((bif (decide (0 ≤ p0.fThread)) then (bif (decide (p0.fThread ≤ 1000000000000000)) then (bif (decide (0 ≤ p0.fAt)) then (bif (decide (p0.fAt ≤ 1000000000000)) then (bif (decide (1 ≤ p0.fWeight)) then some (decide (p0.fWeight ≤ 1000000000000)) else some false) else some false) else some false) else some false) else some false) : Option Bool).bind fun v1 => some v1)
theorem sample_good_fun (p0 : api_Sample) (r : Bool) (hF : sample_good p0 = some r) : Fun Tryz.prog 108 true [] [.agg (m_api_Sample p0)] noHeap (cB r) noHeap := by
 refine Fun.of_walk0 Tryz.func108 c108 (by kernel_rfl) (rs := [.tmp 2]) (by kernel_rfl) ?_; unfold v108
 unfold sample_good at hF
 refine wA rfl ?_; refine W_seq ?_; refine W_join (fun _ _ h => h) hF (fun v1 => [(2, cB v1)]) (fun v1 => []) ?_ ?_
 · rintro v1 hF
   cases hF
   exact W_ret wR
 intro join hF
 refine wD 4 rfl ?_; cases h2 : (decide (0 ≤ p0.fThread))
 · have hF := bF' h2 hF; refine QV rfl ?_; exact join false _ _ hF sw
 have hF := bT' h2 hF; refine Q_run SV 5 rfl ?_; cases h3 : (decide (p0.fThread ≤ 1000000000000000))
 · have hF := bF' h3 hF; refine QV rfl ?_; exact join false _ _ hF sw
 have hF := bT' h3 hF; refine Q_run SV 5 rfl ?_; cases h4 : (decide (0 ≤ p0.fAt))
 · have hF := bF' h4 hF; refine QV rfl ?_; exact join false _ _ hF sw
 have hF := bT' h4 hF; refine Q_run SV 5 rfl ?_; cases h5 : (decide (p0.fAt ≤ 1000000000000))
 · have hF := bF' h5 hF; refine QV rfl ?_; exact join false _ _ hF sw
 have hF := bT' h5 hF; refine Q_run SV 5 rfl ?_; cases h6 : (decide (1 ≤ p0.fWeight))
 · have hF := bF' h6 hF; refine QV rfl ?_; exact join false _ _ hF sw
 have hF := bT' h6 hF; refine QV rfl ?_; exact join (decide (p0.fWeight ≤ 1000000000000)) _ _ hF sw
def intern_Frames_L1 (p0 : (List ByteArray)) : Int → Option (Int ⊕ (Unit ⊕ Int)) := fun a12 =>
  (bif (decide (a12 < (List.length p0 : Int))) then ((idx p0 a12).bind fun y17 => ((intern_Name y17).bind fun r18 => (bif (!decide (r18 = 0)) then some (.inr (.inr r18)) else some (.inl (w64 (a12 + 1)))))) else some (.inr (.inl ())))
def intern_Frames (p0 : (List ByteArray)) : Option Int :=
  (bif (decide (32 < (List.length p0 : Int))) then some 7 else ((loop (intern_Frames_L1 p0) 0).bind fun | .inl _ => some 0 | .inr rv => some rv))
theorem intern_Frames_fun (p0 : (List ByteArray)) (r : Int) (hF : intern_Frames p0 = some r) : Fun Tryz.prog 109 true [] [cL 1 t_str p0] noHeap (cI r) noHeap := by
 refine Fun.of_walk0 Tryz.func109 c109 (by kernel_rfl) (rs := [.tmp 2]) (by kernel_rfl) ?_; unfold v109
 unfold intern_Frames at hF
 refine wA rfl ?_; refine W_seq ?_; refine wC 1 rfl ?_; refine rS (T_len (tc := t_str) p0 .tree ?_); refine QV rfl ?_; refine wIf hF rfl (fun _ hF => ?_) fun _ hF => ?_
 · refine wA rfl ?_; cases hF
   exact W_ret wR
 refine W_skip ?_; refine W_seq ?_; refine wC 1 rfl ?_; refine rS (T_len (tc := t_str) p0 .tree ?_); refine QV rfl ?_; refine W_for (fun _ _ h => h) hF (.inl) (fun a12 => [(9, cL 1 t_str p0), (10, cI (List.length p0 : Int)), (11, cI a12)]) (fun a12 => []) (fun _ => []) (fun _ => []) sw ?_ ?_
 · rintro ⟨⟩ hF
   refine wA rfl ?_; cases hF
   exact W_ret wR
 rintro a12 x_0 hF cont_0 brk_0 fin_0
 unfold intern_Frames_L1 at hF
 refine wA rfl ?_; refine W_seq ?_; refine wIf hF rfl (fun _ hF => ?_) fun _ hF => ?_
 · refine W_skip ?_; refine W_seq ?_; refine W_block ?_; refine wE ?_; obtain ⟨y17, hy17, hF⟩ := bB hF
   refine rS (T_ixT (tc := t_str) p0 rfl rfl hy17 ?_); refine QV rfl ?_; refine wC 1 rfl ?_; obtain ⟨r18, hr18, hF⟩ := bB hF
   refine rS (T_call (intern_Name_fun _ _ hr18) ⟨rfl, trivial⟩ rfl (.inl rfl) ?_); refine QV rfl ?_; refine wA rfl ?_; refine wIf hF rfl (fun _ hF => ?_) fun _ hF => ?_
   · refine wA rfl ?_; have hF := fin_0 _ (oi hF); cases hF
     exact W_ret wR
   refine W_skip ?_; refine wB rfl ?_; exact cont_0 _ _ _ (oi hF) sw
 refine W_exit ?_; refine thenQ_exit ?_; refine thenQ_exit ?_; refine blockQ_hit ?_; exact brk_0 _ _ _ (oi hF) sw
def sample_Check_L1 (p0 : (List api_Sample)) : Int → Option (Int ⊕ (Unit ⊕ Int)) := fun a24 =>
  (bif (decide (a24 < (List.length p0 : Int))) then ((idx p0 a24).bind fun y35 => ((sample_good y35).bind fun r36 => (bif (!r36) then some (.inr (.inr 2)) else ((intern_Frames y35.fStack).bind fun r37 => (bif (!decide (r37 = 0)) then some (.inr (.inr r37)) else (((bif (decide (0 < a24)) then ((idx p0 (w64 (a24 - 1))).bind fun y41 => some (decide (y35.fAt < y41.fAt))) else some false) : Option Bool).bind fun v38 => (bif v38 then some (.inr (.inr 11)) else some (.inl (w64 (a24 + 1)))))))))) else some (.inr (.inl ())))
def sample_Check (p0 : (List api_Sample)) : Option Int :=
  ((loop (sample_Check_L1 p0) 0).bind fun | .inl _ => some 0 | .inr rv => some rv)
theorem sample_Check_fun (p0 : (List api_Sample)) (r : Int) (hF : sample_Check p0 = some r) : Fun Tryz.prog 64 true [] [cL 4 t_api_Sample p0] noHeap (cI r) noHeap := by
 refine Fun.of_walk0 Tryz.func64 c64 (by kernel_rfl) (rs := [.tmp 2]) (by kernel_rfl) ?_; unfold v64
 unfold sample_Check at hF
 refine wA rfl ?_; refine W_seq ?_; refine wC 1 rfl ?_; refine rS (T_len (tc := t_api_Sample) p0 .tree ?_); refine QV rfl ?_; refine W_for (fun _ _ h => h) hF (.inl) (fun a24 => [(0, cL 4 t_api_Sample p0), (6, cL 4 t_api_Sample p0), (7, cI (List.length p0 : Int)), (8, cI a24)]) (fun a24 => []) (fun _ => []) (fun _ => []) sw ?_ ?_
 · rintro ⟨⟩ hF
   refine wA rfl ?_; cases hF
   exact W_ret wR
 rintro a24 x_0 hF cont_0 brk_0 fin_0
 unfold sample_Check_L1 at hF
 refine wA rfl ?_; refine W_seq ?_; refine wIf hF rfl (fun _ hF => ?_) fun _ hF => ?_
 · refine W_skip ?_; refine W_seq ?_; refine W_block ?_; refine wC 1 rfl ?_; obtain ⟨y35, hy35, hF⟩ := bB hF
   refine rS (T_ixT (tc := t_api_Sample) p0 rfl rfl hy35 ?_); refine QV rfl ?_; refine W_seq ?_; refine wC 1 rfl ?_; obtain ⟨r36, hr36, hF⟩ := bB hF
   refine rS (T_call (sample_good_fun _ _ hr36) ⟨⟨rfl, rfl, rfl, rfl, trivial⟩, trivial⟩ rfl (.inl rfl) ?_); refine QV rfl ?_; refine wIf hF rfl (fun _ hF => ?_) fun _ hF => ?_
   · refine wA rfl ?_; have hF := fin_0 _ (oi hF); cases hF
     exact W_ret wR
   refine W_skip ?_; refine W_seq ?_; refine wC 2 rfl ?_; obtain ⟨r37, hr37, hF⟩ := bB hF
   refine rS (T_call (intern_Frames_fun _ _ hr37) ⟨rfl, trivial⟩ rfl (.inl rfl) ?_); refine QV rfl ?_; refine wA rfl ?_; refine wIf hF rfl (fun _ hF => ?_) fun _ hF => ?_
   · refine wA rfl ?_; have hF := fin_0 _ (oi hF); cases hF
     exact W_ret wR
   refine W_skip ?_; refine W_seq ?_; refine W_join (fun _ _ h => h) hF (fun v38 => [(0, cL 4 t_api_Sample p0), (6, cL 4 t_api_Sample p0), (7, cI (List.length p0 : Int)), (8, cI a24), (34, cB v38)]) (fun v38 => []) ?_ ?_
   · rintro v38 hF
     refine wIf hF rfl (fun _ hF => ?_) fun _ hF => ?_
     · refine wA rfl ?_; have hF := fin_0 _ (oi hF); cases hF
       exact W_ret wR
     refine W_skip ?_; refine wB rfl ?_; exact cont_0 _ _ _ (oi hF) sw
   intro join hF
   refine W_regD (by decide) (by kernel_rfl) rfl ?_; refine Q_run SP 3 rfl ?_; cases h40 : (decide (0 < a24))
   · have hF := bF' h40 hF; refine QP rfl ?_; exact join false _ _ hF sw
   have hF := bT' h40 hF; refine Q_run SP 5 rfl ?_; obtain ⟨y41, hy41, hF⟩ := bB' hF
   refine R_step SP rfl (T_ixT (tc := t_api_Sample) p0 rfl rfl hy41 ?_); refine QP rfl ?_; exact join (decide (y35.fAt < y41.fAt)) _ _ hF sw
 refine W_exit ?_; refine thenQ_exit ?_; refine thenQ_exit ?_; refine blockQ_hit ?_; exact brk_0 _ _ _ (oi hF) sw
def trace_tables_4 (p0 : api_Sample) : Option Int :=
  some p0.fThread
theorem trace_tables_4_fun (p0 : api_Sample) (r : Int) (hF : trace_tables_4 p0 = some r) : Fun Tryz.prog 65 true [] [.agg (m_api_Sample p0)] noHeap (cI r) noHeap := by
 refine Fun.of_walk0 Tryz.func65 c65 (by kernel_rfl) (rs := [.tmp 2]) (by kernel_rfl) ?_; unfold v65
 unfold trace_tables_4 at hF
 refine wA rfl ?_; refine wA rfl ?_; cases hF
 exact W_ret wR
def trace_known_api_Sample_k1_L1 (p1 : (List (Int × ByteArray))) (p2 : (List api_Sample)) : Int → Option (Int ⊕ (Unit ⊕ Int)) := fun a12 =>
  (bif (decide (a12 < (List.length p2 : Int))) then ((idx p2 a12).bind fun y17 => ((trace_tables_4 y17).bind fun r18 => (bif (!(Option.isSome (mget r18 p1))) then some (.inr (.inr 5)) else some (.inl (w64 (a12 + 1)))))) else some (.inr (.inl ())))
def trace_known_api_Sample_k1 (p0 : Int) (p1 : (List (Int × ByteArray))) (p2 : (List api_Sample)) : Option Int :=
  (bif (!decide (p0 = 0)) then some p0 else ((loop (trace_known_api_Sample_k1_L1 p1 p2) 0).bind fun | .inl _ => some 0 | .inr rv => some rv))
theorem trace_known_api_Sample_k1_fun (p0 : Int) (p1 : (List (Int × ByteArray))) (p2 : (List api_Sample)) (r : Int) (hF : trace_known_api_Sample_k1 p0 p1 p2 = some r) : Fun Tryz.prog 63 false [(3520,0)] [cI p0, cM (3520,0), cL 4 t_api_Sample p2, .c (.fn 65 [])] (heapOf [((3520,0), mapOb (.int .i64) kvI vvS p1)]) (cI r) (heapOf [((3520,0), mapOb (.int .i64) kvI vvS p1)]) := by
 refine Fun.of_walkM [(3520,0)] (some [(3520,0)]) Tryz.func63 c63 (by kernel_rfl) (rs := [.tmp 8]) (by kernel_rfl) rfl rfl rfl ?_; unfold v63
 unfold trace_known_api_Sample_k1 at hF
 refine wA rfl ?_; refine W_seq ?_; refine wA rfl ?_; refine wIf hF rfl (fun _ hF => ?_) fun _ hF => ?_
 · refine wA rfl ?_; cases hF
   exact W_ret ⟨_, _, S_refl, _, rfl, rfl, ⟨rfl, fun _ => rfl⟩, (AgM.weak ⟨rfl, trivial⟩)⟩
 refine W_skip ?_; refine W_seq ?_; refine wC 1 rfl ?_; refine rS (T_len (tc := t_api_Sample) p2 .tree ?_); refine QV rfl ?_; refine W_for (fun _ _ h => h) hF (.inl) (fun a12 => [(1, cM (3520,0)), (3, .c (.fn 65 [])), (16, cL 4 t_api_Sample p2), (17, cI (List.length p2 : Int)), (18, cI a12)]) (fun a12 => [((3520,0), mapOb (.int .i64) kvI vvS p1)]) (fun _ => []) (fun _ => [((3520,0), mapOb (.int .i64) kvI vvS p1)]) sw ?_ ?_
 · rintro ⟨⟩ hF
   refine wA rfl ?_; cases hF
   exact W_ret ⟨_, _, S_refl, _, rfl, rfl, ⟨rfl, fun _ => rfl⟩, (AgM.weak ⟨rfl, trivial⟩)⟩
 rintro a12 x_0 hF cont_0 brk_0 fin_0
 unfold trace_known_api_Sample_k1_L1 at hF
 refine wA rfl ?_; refine W_seq ?_; refine wIf hF rfl (fun _ hF => ?_) fun _ hF => ?_
 · refine W_skip ?_; refine W_seq ?_; refine W_block ?_; refine wE ?_; obtain ⟨y17, hy17, hF⟩ := bB hF
   refine rS (T_ixT (tc := t_api_Sample) p2 rfl rfl hy17 ?_); refine QV rfl ?_; refine wC 3 rfl ?_; obtain ⟨r18, hr18, hF⟩ := bB hF
   refine R_stepX trivial (X_call (callW _ rfl fnOk65) (trace_tables_4_fun _ _ hr18) ⟨⟨rfl, rfl, rfl, rfl, trivial⟩, trivial⟩ rfl (.inl rfl) ?_); refine rS (T_lookOk (keyI .i64) (vv := vvS) p1 r18 ⟨#[]⟩ (.own _ rfl) rfl rfl ?_)
   refine QV rfl ?_; refine wA rfl ?_; refine wIf hF rfl (fun _ hF => ?_) fun _ hF => ?_
   · refine wA rfl ?_; have hF := fin_0 _ (oi hF); cases hF
     exact W_ret ⟨_, _, S_refl, _, rfl, rfl, ⟨rfl, fun _ => rfl⟩, (AgM.weak ⟨rfl, trivial⟩)⟩
   refine W_skip ?_; refine wB rfl ?_; exact cont_0 _ _ _ (oi hF) sw
 refine W_exit ?_; refine thenQ_exit ?_; refine thenQ_exit ?_; refine blockQ_hit ?_; exact brk_0 _ _ _ (oi hF) sw
def num_In (p0 : Int) : Option Bool :=
  (((bif (decide ((-1000000000000000) ≤ p0)) then some (decide (p0 ≤ 1000000000000000)) else some false) : Option Bool).bind fun v1 => some v1)
theorem num_In_fun (p0 : Int) (r : Bool) (hF : num_In p0 = some r) : Fun Tryz.prog 110 true [] [cI p0] noHeap (cB r) noHeap := by
 refine Fun.of_walk0 Tryz.func110 c110 (by kernel_rfl) (rs := [.tmp 2]) (by kernel_rfl) ?_; unfold v110
 unfold num_In at hF
 refine wA rfl ?_; refine W_seq ?_; refine W_join (fun _ _ h => h) hF (fun v1 => [(2, cB v1)]) (fun v1 => []) ?_ ?_
 · rintro v1 hF
   cases hF
   exact W_ret wR
 intro join hF
 refine wD 3 rfl ?_; cases h2 : (decide ((-1000000000000000) ≤ p0))
 · have hF := bF' h2 hF; refine QV rfl ?_; exact join false _ _ hF sw
 have hF := bT' h2 hF; refine QV rfl ?_; exact join (decide (p0 ≤ 1000000000000000)) _ _ hF sw
def cmp_isNaN_string (p0 : ByteArray) : Option Bool :=
  some (!decide (p0 = p0))
theorem cmp_isNaN_string_fun (p0 : ByteArray) (r : Bool) (hF : cmp_isNaN_string p0 = some r) : Fun Tryz.prog 148 true [] [.c (jS p0)] noHeap (cB r) noHeap := by
 refine Fun.of_walk0 Tryz.func148 c148 (by kernel_rfl) (rs := [.tmp 2]) (by kernel_rfl) ?_; unfold v148
 unfold cmp_isNaN_string at hF
 refine wA rfl ?_; refine wA rfl ?_; cases hF
 exact W_ret wR
def cmp_Compare_string (p0 : ByteArray) (p1 : ByteArray) : Option Int :=
  ((cmp_isNaN_string p0).bind fun r1 => ((cmp_isNaN_string p1).bind fun r2 => (bif r1 then (bif r2 then some 0 else some (-1)) else (bif r2 then some 1 else (bif (sLt p0 p1) then some (-1) else (bif (!(sLt p0 p1 || decide (p0 = p1))) then some 1 else some 0))))))
theorem cmp_Compare_string_fun (p0 : ByteArray) (p1 : ByteArray) (r : Int) (hF : cmp_Compare_string p0 p1 = some r) : Fun Tryz.prog 134 true [] [.c (jS p0), .c (jS p1)] noHeap (cI r) noHeap := by
 refine Fun.of_walk0 Tryz.func134 c134 (by kernel_rfl) (rs := [.tmp 4]) (by kernel_rfl) ?_; unfold v134
 unfold cmp_Compare_string at hF
 refine wA rfl ?_; refine wC 1 rfl ?_; obtain ⟨r1, hr1, hF⟩ := bB hF
 refine rS (T_call (cmp_isNaN_string_fun _ _ hr1) ⟨rfl, trivial⟩ rfl (.inl rfl) ?_); refine QV rfl ?_; refine wC 1 rfl ?_; obtain ⟨r2, hr2, hF⟩ := bB hF
 refine rS (T_call (cmp_isNaN_string_fun _ _ hr2) ⟨rfl, trivial⟩ rfl (.inl rfl) ?_); refine QV rfl ?_; refine W_seq ?_; refine wA rfl ?_; refine wIf hF rfl (fun _ hF => ?_) fun _ hF => ?_
 · refine W_seq ?_; refine wA rfl ?_; refine wIf hF rfl (fun _ hF => ?_) fun _ hF => ?_
   · refine wA rfl ?_; cases hF
     exact W_ret wR
   refine W_skip ?_; refine wA rfl ?_; cases hF
   exact W_ret wR
 refine W_skip ?_; refine W_seq ?_; refine wA rfl ?_; refine wIf hF rfl (fun _ hF => ?_) fun _ hF => ?_
 · refine wA rfl ?_; cases hF
   exact W_ret wR
 refine W_skip ?_; refine W_seq ?_; refine wA rfl ?_; refine wIf hF rfl (fun _ hF => ?_) fun _ hF => ?_
 · refine wA rfl ?_; cases hF
   exact W_ret wR
 refine W_skip ?_; refine W_seq ?_; refine wA rfl ?_; refine wIf hF rfl (fun _ hF => ?_) fun _ hF => ?_
 · refine wA rfl ?_; cases hF
   exact W_ret wR
 refine W_skip ?_; refine wA rfl ?_; cases hF
 exact W_ret wR
def counter_order (p0 : api_Step) (p1 : api_Step) : Option Int :=
  ((cmp_Compare_string p0.fName p1.fName).bind fun r1 => ((cmp_Compare_int p0.fAt p1.fAt).bind fun r2 => ((cmp_Or_int [r1, r2]).bind fun r3 => some r3)))
theorem counter_order_fun (p0 : api_Step) (p1 : api_Step) (r : Int) (hF : counter_order p0 p1 = some r) : Fun Tryz.prog 111 true [] [.agg (m_api_Step p0), .agg (m_api_Step p1)] noHeap (cI r) noHeap := by
 refine Fun.of_walk0 Tryz.func111 c111 (by kernel_rfl) (rs := [.tmp 4]) (by kernel_rfl) ?_; unfold v111
 unfold counter_order at hF
 refine wA rfl ?_; refine W_seq ?_; refine W_regD (by decide) (by kernel_rfl) rfl ?_; refine Q_run SP 4 rfl ?_; obtain ⟨r1, hr1, hF⟩ := bB hF
 refine R_step SP trivial (T_call (cmp_Compare_string_fun _ _ _ hr1) ⟨rfl, rfl, trivial⟩ rfl (.inl rfl) ?_); refine Q_run SP 4 rfl ?_; obtain ⟨r2, hr2, hF⟩ := bB hF
 refine R_step SP trivial (T_call (cmp_Compare_int_fun _ _ _ hr2) ⟨rfl, rfl, trivial⟩ rfl (.inl rfl) ?_); refine R_step SP trivial (T_bsl (tc := t_i64) [r1, r2] rfl ⟨rfl, rfl, trivial⟩ rfl (fun _ => rfl) rfl ?_)
 obtain ⟨r3, hr3, hF⟩ := bB hF
 refine R_step SP trivial (T_call (cmp_Or_int_fun _ _ hr3) ⟨⟨_, rfl⟩, trivial⟩ rfl (.inl rfl) ?_); refine QP rfl ?_; cases hF
 exact W_ret wR
def counter_Check_L1 (p0 : (List api_Step)) : Int → Option (Int ⊕ (Unit ⊕ Int)) := fun a40 =>
  (bif (decide (a40 < (List.length p0 : Int))) then ((idx p0 a40).bind fun y59 => ((intern_Name y59.fName).bind fun r60 => (bif (!decide (r60 = 0)) then some (.inr (.inr r60)) else (((bif (decide (y59.fAt < 0)) then some true else (bif (decide (1000000000000 < y59.fAt)) then some true else ((num_In y59.fValue).bind fun r74 => some (!r74)))) : Option Bool).bind fun v61 => (bif v61 then some (.inr (.inr 2)) else (((bif (decide (0 < a40)) then ((idx p0 (w64 (a40 - 1))).bind fun y65 => ((counter_order y65 y59).bind fun r66 => (bif (decide (0 ≤ r66)) then some true else ((idx p0 (w64 (a40 - 1))).bind fun y68 => (bif (decide (y68.fName = y59.fName)) then ((idx p0 (w64 (a40 - 1))).bind fun y70 => some (decide (y70.fValue = y59.fValue))) else some false))))) else some false) : Option Bool).bind fun v62 => (bif v62 then some (.inr (.inr 11)) else some (.inl (w64 (a40 + 1)))))))))) else some (.inr (.inl ())))
def counter_Check (p0 : (List api_Step)) : Option Int :=
  ((loop (counter_Check_L1 p0) 0).bind fun | .inl _ => some 0 | .inr rv => some rv)
theorem counter_Check_fun (p0 : (List api_Step)) (r : Int) (hF : counter_Check p0 = some r) : Fun Tryz.prog 66 true [] [cL 3 t_api_Step p0] noHeap (cI r) noHeap := by
 refine Fun.of_walk0 Tryz.func66 c66 (by kernel_rfl) (rs := [.tmp 2]) (by kernel_rfl) ?_; unfold v66
 unfold counter_Check at hF
 refine wA rfl ?_; refine W_seq ?_; refine wC 1 rfl ?_; refine rS (T_len (tc := t_api_Step) p0 .tree ?_); refine QV rfl ?_; refine W_for (fun _ _ h => h) hF (.inl) (fun a40 => [(0, cL 3 t_api_Step p0), (6, cL 3 t_api_Step p0), (7, cI (List.length p0 : Int)), (8, cI a40)]) (fun a40 => []) (fun _ => []) (fun _ => []) sw ?_ ?_
 · rintro ⟨⟩ hF
   refine wA rfl ?_; cases hF
   exact W_ret wR
 rintro a40 x_0 hF cont_0 brk_0 fin_0
 unfold counter_Check_L1 at hF
 refine wA rfl ?_; refine W_seq ?_; refine wIf hF rfl (fun _ hF => ?_) fun _ hF => ?_
 · refine W_skip ?_; refine W_seq ?_; refine W_block ?_; refine wC 1 rfl ?_; obtain ⟨y59, hy59, hF⟩ := bB hF
   refine rS (T_ixT (tc := t_api_Step) p0 rfl rfl hy59 ?_); refine QV rfl ?_; refine W_seq ?_; refine wC 2 rfl ?_; obtain ⟨r60, hr60, hF⟩ := bB hF
   refine rS (T_call (intern_Name_fun _ _ hr60) ⟨rfl, trivial⟩ rfl (.inl rfl) ?_); refine QV rfl ?_; refine wA rfl ?_; refine wIf hF rfl (fun _ hF => ?_) fun _ hF => ?_
   · refine wA rfl ?_; have hF := fin_0 _ (oi hF); cases hF
     exact W_ret wR
   refine W_skip ?_; refine W_seq ?_; refine W_seq ?_; refine W_join (fun _ _ h => h) hF (fun v61 => [(0, cL 3 t_api_Step p0), (3, cI a40), (4, cP (4,0) 0), (6, cL 3 t_api_Step p0), (7, cI (List.length p0 : Int)), (8, cI a40), (32, cB v61)]) (fun v61 => [((4,0), .box (m_api_Step y59))]) ?_ ?_
   · rintro v61 hF
     refine wIf hF rfl (fun _ hF => ?_) fun _ hF => ?_
     · refine wA rfl ?_; have hF := fin_0 _ (oi hF); cases hF
       exact W_ret wR
     refine W_skip ?_; refine W_seq ?_; refine W_join (fun _ _ h => h) hF (fun v62 => [(0, cL 3 t_api_Step p0), (6, cL 3 t_api_Step p0), (7, cI (List.length p0 : Int)), (8, cI a40), (66, cB v62)]) (fun v62 => []) ?_ ?_
     · rintro v62 hF
       refine wIf hF rfl (fun _ hF => ?_) fun _ hF => ?_
       · refine wA rfl ?_; have hF := fin_0 _ (oi hF); cases hF
         exact W_ret wR
       refine W_skip ?_; refine wB rfl ?_; exact cont_0 _ _ _ (oi hF) sw
     intro join hF
     refine W_regD (by decide) (by kernel_rfl) rfl ?_; refine Q_run SP 3 rfl ?_; cases h64 : (decide (0 < a40))
     · have hF := bF' h64 hF; refine QP rfl ?_; exact join false _ _ hF sw
     have hF := bT' h64 hF; refine Q_run SP 3 rfl ?_; obtain ⟨y65, hy65, hF⟩ := bB' hF
     refine R_step SP rfl (T_ixT (tc := t_api_Step) p0 rfl rfl hy65 ?_); refine Q_run SP 2 rfl ?_; obtain ⟨r66, hr66, hF⟩ := bB' hF
     refine R_step SP rfl (T_call (counter_order_fun _ _ _ hr66) ⟨⟨rfl, rfl, rfl, trivial⟩, ⟨rfl, rfl, rfl, trivial⟩, trivial⟩ rfl (.inl rfl) ?_); refine Q_run SP 2 rfl ?_; cases h67 : (decide (0 ≤ r66))
     · have hF := bF' h67 hF; refine Q_run SP 3 rfl ?_; obtain ⟨y68, hy68, hF⟩ := bB' hF
       refine R_step SP rfl (T_ixT (tc := t_api_Step) p0 rfl rfl hy68 ?_); refine Q_run SP 6 rfl ?_; cases h69 : (decide (y68.fName = y59.fName))
       · have hF := bF' h69 hF; refine QP rfl ?_; exact join false _ _ hF sw
       have hF := bT' h69 hF; refine Q_run SP 3 rfl ?_; obtain ⟨y70, hy70, hF⟩ := bB' hF
       refine R_step SP rfl (T_ixT (tc := t_api_Step) p0 rfl rfl hy70 ?_); refine QP rfl ?_; exact join (decide (y70.fValue = y59.fValue)) _ _ hF sw
     have hF := bT' h67 hF; refine QP rfl ?_; exact join true _ _ hF sw
   intro join hF
   refine wD 4 rfl ?_; cases h72 : (decide (y59.fAt < 0))
   · have hF := bF' h72 hF; refine Q_run SV 5 rfl ?_; cases h73 : (decide (1000000000000 < y59.fAt))
     · have hF := bF' h73 hF; refine Q_run SV 2 rfl ?_; obtain ⟨r74, hr74, hF⟩ := bB' hF
       refine R_step SV rfl (T_call (num_In_fun _ _ hr74) ⟨rfl, trivial⟩ rfl (.inl rfl) ?_); refine QV rfl ?_; exact join (!r74) _ _ hF sw
     have hF := bT' h73 hF; refine QV rfl ?_; exact join true _ _ hF sw
   have hF := bT' h72 hF; refine QV rfl ?_; exact join true _ _ hF sw
 refine W_exit ?_; refine thenQ_exit ?_; refine thenQ_exit ?_; refine blockQ_hit ?_; exact brk_0 _ _ _ (oi hF) sw
def memory_Check_L1 (y143 : api_Block) (y147 : (List api_Block)) : Int → Option (Int ⊕ (Unit ⊕ (Int ⊕ (Unit ⊕ Int)))) := fun a163 =>
  (bif (decide (a163 < (List.length y147 : Int))) then ((idx y147 a163).bind fun y170 => (((bif (decide (y170.fId = y143.fId)) then (bif (decide (y170.fSpan.fFrom < y143.fSpan.fTo)) then some (decide (y143.fSpan.fFrom < y170.fSpan.fTo)) else some false) else some false) : Option Bool).bind fun v171 => (bif v171 then some (.inr (.inr (.inr (.inr 4)))) else some (.inl (w64 (a163 + 1)))))) else some (.inr (.inl ())))
def memory_Check_L2 (p0 : (List api_Block)) : Int → Option (Int ⊕ (Unit ⊕ Int)) := fun a96 =>
  (bif (decide (a96 < (List.length p0 : Int))) then ((idx p0 a96).bind fun y143 => (((bif (decide (y143.fId < 0)) then some true else (bif (decide (1000000000000000 < y143.fId)) then some true else (bif (decide (y143.fThread < 0)) then some true else (bif (decide (1000000000000000 < y143.fThread)) then some true else (bif (decide (y143.fSize < 1)) then some true else (bif (decide (1000000000000 < y143.fSize)) then some true else ((spans_Valid y143.fSpan).bind fun r187 => some (!r187)))))))) : Option Bool).bind fun v144 => (bif v144 then some (.inr (.inr 2)) else ((intern_Frames y143.fStack).bind fun r145 => (bif (!decide (r145 = 0)) then some (.inr (.inr r145)) else (((bif (decide (0 < a96)) then ((idx p0 (w64 (a96 - 1))).bind fun y178 => some (decide (y143.fSpan.fFrom < y178.fSpan.fFrom))) else some false) : Option Bool).bind fun v146 => (bif v146 then some (.inr (.inr 11)) else ((slcPart p0 0 a96).bind fun y147 => ((loop (memory_Check_L1 y143 y147) 0).bind fun | .inl _ => some (.inl (w64 (a96 + 1))) | .inr rv => some rv))))))))) else some (.inr (.inl ())))
def memory_Check (p0 : (List api_Block)) : Option Int :=
  ((loop (memory_Check_L2 p0) 0).bind fun | .inl _ => some 0 | .inr rv => some rv)
theorem memory_Check_fun (p0 : (List api_Block)) (r : Int) (hF : memory_Check p0 = some r) : Fun Tryz.prog 68 true [] [cL 7 t_api_Block p0] noHeap (cI r) noHeap := by
 refine Fun.of_walk0 Tryz.func68 c68 (by kernel_rfl) (rs := [.tmp 2]) (by kernel_rfl) ?_; unfold v68
 unfold memory_Check at hF
 refine wA rfl ?_; refine W_seq ?_; refine wC 1 rfl ?_; refine rS (T_len (tc := t_api_Block) p0 .tree ?_); refine QV rfl ?_; refine W_for (fun _ _ h => h) hF (.inl) (fun a96 => [(0, cL 7 t_api_Block p0), (8, cL 7 t_api_Block p0), (9, cI (List.length p0 : Int)), (10, cI a96)]) (fun a96 => []) (fun _ => []) (fun _ => []) sw ?_ ?_
 · rintro ⟨⟩ hF
   refine wA rfl ?_; cases hF
   exact W_ret wR
 rintro a96 x_0 hF cont_0 brk_0 fin_0
 unfold memory_Check_L2 at hF
 refine wA rfl ?_; refine W_seq ?_; refine wIf hF rfl (fun _ hF => ?_) fun _ hF => ?_
 · refine W_skip ?_; refine W_seq ?_; refine W_block ?_; refine wC 1 rfl ?_; obtain ⟨y143, hy143, hF⟩ := bB hF
   refine rS (T_ixT (tc := t_api_Block) p0 rfl rfl hy143 ?_); refine QV rfl ?_; refine W_seq ?_; refine W_seq ?_; refine W_join (fun _ _ h => h) hF (fun v144 => [(0, cL 7 t_api_Block p0), (3, cI a96), (4, cP (4,0) 0), (8, cL 7 t_api_Block p0), (9, cI (List.length p0 : Int)), (10, cI a96), (48, cB v144)]) (fun v144 => [((4,0), .box (m_api_Block y143))]) ?_ ?_
   · rintro v144 hF
     refine wIf hF rfl (fun _ hF => ?_) fun _ hF => ?_
     · refine wA rfl ?_; have hF := fin_0 _ (oi hF); cases hF
       exact W_ret wR
     refine W_skip ?_; refine W_seq ?_; refine wC 2 rfl ?_; obtain ⟨r145, hr145, hF⟩ := bB hF
     refine rS (T_call (intern_Frames_fun _ _ hr145) ⟨rfl, trivial⟩ rfl (.inl rfl) ?_); refine QV rfl ?_; refine wA rfl ?_; refine wIf hF rfl (fun _ hF => ?_) fun _ hF => ?_
     · refine wA rfl ?_; have hF := fin_0 _ (oi hF); cases hF
       exact W_ret wR
     refine W_skip ?_; refine W_seq ?_; refine W_seq ?_; refine W_join (fun _ _ h => h) hF (fun v146 => [(0, cL 7 t_api_Block p0), (3, cI a96), (4, cP (4,0) 0), (8, cL 7 t_api_Block p0), (9, cI (List.length p0 : Int)), (10, cI a96), (69, cB v146)]) (fun v146 => [((4,0), .box (m_api_Block y143))]) ?_ ?_
     · rintro v146 hF
       refine wIf hF rfl (fun _ hF => ?_) fun _ hF => ?_
       · refine wA rfl ?_; have hF := fin_0 _ (oi hF); cases hF
         exact W_ret wR
       refine W_skip ?_; refine wC 2 rfl ?_; obtain ⟨y147, hy147, hF⟩ := bB hF
       refine rS (T_sub (tc := t_api_Block) p0 rfl rfl rfl hy147 ?_); refine rS (T_len (tc := t_api_Block) y147 .tree ?_); refine QV rfl ?_; refine W_for (fun _ _ h => h) hF (.inl) (fun a163 => [(0, cL 7 t_api_Block p0), (4, cP (4,0) 0), (8, cL 7 t_api_Block p0), (9, cI (List.length p0 : Int)), (10, cI a96), (72, cL 7 t_api_Block y147), (73, cI (List.length y147 : Int)), (74, cI a163)]) (fun a163 => [((4,0), .box (m_api_Block y143))]) (fun _ => [(0, cL 7 t_api_Block p0), (8, cL 7 t_api_Block p0), (9, cI (List.length p0 : Int)), (10, cI a96)]) (fun _ => []) sw ?_ ?_
       · rintro ⟨⟩ hF
         refine wB rfl ?_; exact cont_0 _ _ _ (oi hF) sw
       rintro a163 x_1 hF cont_1 brk_1 fin_1
       unfold memory_Check_L1 at hF
       refine wA rfl ?_; refine W_seq ?_; refine wIf hF rfl (fun _ hF => ?_) fun _ hF => ?_
       · refine W_skip ?_; refine W_seq ?_; refine W_block ?_; refine wE ?_; obtain ⟨y170, hy170, hF⟩ := bB hF
         refine rS (T_ixT (tc := t_api_Block) y147 rfl rfl hy170 ?_); refine QV rfl ?_; refine W_seq ?_; refine W_join (fun _ _ h => h) hF (fun v171 => [(0, cL 7 t_api_Block p0), (4, cP (4,0) 0), (8, cL 7 t_api_Block p0), (9, cI (List.length p0 : Int)), (10, cI a96), (72, cL 7 t_api_Block y147), (73, cI (List.length y147 : Int)), (74, cI a163), (100, cB v171)]) (fun v171 => [((4,0), .box (m_api_Block y143))]) ?_ ?_
         · rintro v171 hF
           refine wIf hF rfl (fun _ hF => ?_) fun _ hF => ?_
           · refine wA rfl ?_; have hF := fin_1 _ (oi hF); have hF := fin_0 _ (oi hF); cases hF
             exact W_ret wR
           refine W_skip ?_; refine wB rfl ?_; exact cont_1 _ _ _ (oi hF) sw
         intro join hF
         refine wD 6 rfl ?_; cases h173 : (decide (y170.fId = y143.fId))
         · have hF := bF' h173 hF; refine QV rfl ?_; exact join false _ _ hF sw
         have hF := bT' h173 hF; refine Q_run SV 9 rfl ?_; cases h174 : (decide (y170.fSpan.fFrom < y143.fSpan.fTo))
         · have hF := bF' h174 hF; refine QV rfl ?_; exact join false _ _ hF sw
         have hF := bT' h174 hF; refine QV rfl ?_; exact join (decide (y143.fSpan.fFrom < y170.fSpan.fTo)) _ _ hF sw
       refine W_exit ?_; refine thenQ_exit ?_; refine thenQ_exit ?_; refine blockQ_hit ?_; exact brk_1 _ _ _ (oi hF) sw
     intro join hF
     refine W_regD (by decide) (by kernel_rfl) rfl ?_; refine Q_run SP 3 rfl ?_; cases h177 : (decide (0 < a96))
     · have hF := bF' h177 hF; refine QP rfl ?_; exact join false _ _ hF sw
     have hF := bT' h177 hF; refine Q_run SP 6 rfl ?_; obtain ⟨y178, hy178, hF⟩ := bB' hF
     refine R_step SP rfl (T_ixT (tc := t_api_Block) p0 rfl rfl hy178 ?_); refine QP rfl ?_; exact join (decide (y143.fSpan.fFrom < y178.fSpan.fFrom)) _ _ hF sw
   intro join hF
   refine wD 4 rfl ?_; cases h181 : (decide (y143.fId < 0))
   · have hF := bF' h181 hF; refine Q_run SV 5 rfl ?_; cases h182 : (decide (1000000000000000 < y143.fId))
     · have hF := bF' h182 hF; refine Q_run SV 5 rfl ?_; cases h183 : (decide (y143.fThread < 0))
       · have hF := bF' h183 hF; refine Q_run SV 5 rfl ?_; cases h184 : (decide (1000000000000000 < y143.fThread))
         · have hF := bF' h184 hF; refine Q_run SV 5 rfl ?_; cases h185 : (decide (y143.fSize < 1))
           · have hF := bF' h185 hF; refine Q_run SV 5 rfl ?_; cases h186 : (decide (1000000000000 < y143.fSize))
             · have hF := bF' h186 hF; refine Q_run SV 2 rfl ?_; obtain ⟨r187, hr187, hF⟩ := bB' hF
               refine R_step SV rfl (T_call (spans_Valid_fun _ _ hr187) ⟨⟨rfl, rfl, trivial⟩, trivial⟩ rfl (.inl rfl) ?_); refine QV rfl ?_; exact join (!r187) _ _ hF sw
             have hF := bT' h186 hF; refine QV rfl ?_; exact join true _ _ hF sw
           have hF := bT' h185 hF; refine QV rfl ?_; exact join true _ _ hF sw
         have hF := bT' h184 hF; refine QV rfl ?_; exact join true _ _ hF sw
       have hF := bT' h183 hF; refine QV rfl ?_; exact join true _ _ hF sw
     have hF := bT' h182 hF; refine QV rfl ?_; exact join true _ _ hF sw
   have hF := bT' h181 hF; refine QV rfl ?_; exact join true _ _ hF sw
 refine W_exit ?_; refine thenQ_exit ?_; refine thenQ_exit ?_; refine blockQ_hit ?_; exact brk_0 _ _ _ (oi hF) sw
def trace_tables_5 (p0 : api_Block) : Option Int :=
  some p0.fThread
theorem trace_tables_5_fun (p0 : api_Block) (r : Int) (hF : trace_tables_5 p0 = some r) : Fun Tryz.prog 69 true [] [.agg (m_api_Block p0)] noHeap (cI r) noHeap := by
 refine Fun.of_walk0 Tryz.func69 c69 (by kernel_rfl) (rs := [.tmp 2]) (by kernel_rfl) ?_; unfold v69
 unfold trace_tables_5 at hF
 refine wA rfl ?_; refine wA rfl ?_; cases hF
 exact W_ret wR
def trace_known_api_Block_k1_L1 (p1 : (List (Int × ByteArray))) (p2 : (List api_Block)) : Int → Option (Int ⊕ (Unit ⊕ Int)) := fun a12 =>
  (bif (decide (a12 < (List.length p2 : Int))) then ((idx p2 a12).bind fun y17 => ((trace_tables_5 y17).bind fun r18 => (bif (!(Option.isSome (mget r18 p1))) then some (.inr (.inr 5)) else some (.inl (w64 (a12 + 1)))))) else some (.inr (.inl ())))
def trace_known_api_Block_k1 (p0 : Int) (p1 : (List (Int × ByteArray))) (p2 : (List api_Block)) : Option Int :=
  (bif (!decide (p0 = 0)) then some p0 else ((loop (trace_known_api_Block_k1_L1 p1 p2) 0).bind fun | .inl _ => some 0 | .inr rv => some rv))
theorem trace_known_api_Block_k1_fun (p0 : Int) (p1 : (List (Int × ByteArray))) (p2 : (List api_Block)) (r : Int) (hF : trace_known_api_Block_k1 p0 p1 p2 = some r) : Fun Tryz.prog 67 false [(3680,0)] [cI p0, cM (3680,0), cL 7 t_api_Block p2, .c (.fn 69 [])] (heapOf [((3680,0), mapOb (.int .i64) kvI vvS p1)]) (cI r) (heapOf [((3680,0), mapOb (.int .i64) kvI vvS p1)]) := by
 refine Fun.of_walkM [(3680,0)] (some [(3680,0)]) Tryz.func67 c67 (by kernel_rfl) (rs := [.tmp 8]) (by kernel_rfl) rfl rfl rfl ?_; unfold v67
 unfold trace_known_api_Block_k1 at hF
 refine wA rfl ?_; refine W_seq ?_; refine wA rfl ?_; refine wIf hF rfl (fun _ hF => ?_) fun _ hF => ?_
 · refine wA rfl ?_; cases hF
   exact W_ret ⟨_, _, S_refl, _, rfl, rfl, ⟨rfl, fun _ => rfl⟩, (AgM.weak ⟨rfl, trivial⟩)⟩
 refine W_skip ?_; refine W_seq ?_; refine wC 1 rfl ?_; refine rS (T_len (tc := t_api_Block) p2 .tree ?_); refine QV rfl ?_; refine W_for (fun _ _ h => h) hF (.inl) (fun a12 => [(1, cM (3680,0)), (3, .c (.fn 69 [])), (16, cL 7 t_api_Block p2), (17, cI (List.length p2 : Int)), (18, cI a12)]) (fun a12 => [((3680,0), mapOb (.int .i64) kvI vvS p1)]) (fun _ => []) (fun _ => [((3680,0), mapOb (.int .i64) kvI vvS p1)]) sw ?_ ?_
 · rintro ⟨⟩ hF
   refine wA rfl ?_; cases hF
   exact W_ret ⟨_, _, S_refl, _, rfl, rfl, ⟨rfl, fun _ => rfl⟩, (AgM.weak ⟨rfl, trivial⟩)⟩
 rintro a12 x_0 hF cont_0 brk_0 fin_0
 unfold trace_known_api_Block_k1_L1 at hF
 refine wA rfl ?_; refine W_seq ?_; refine wIf hF rfl (fun _ hF => ?_) fun _ hF => ?_
 · refine W_skip ?_; refine W_seq ?_; refine W_block ?_; refine wE ?_; obtain ⟨y17, hy17, hF⟩ := bB hF
   refine rS (T_ixT (tc := t_api_Block) p2 rfl rfl hy17 ?_); refine QV rfl ?_; refine wC 3 rfl ?_; obtain ⟨r18, hr18, hF⟩ := bB hF
   refine R_stepX trivial (X_call (callW _ rfl fnOk69) (trace_tables_5_fun _ _ hr18) ⟨⟨rfl, rfl, rfl, rfl, rfl, rfl, rfl, trivial⟩, trivial⟩ rfl (.inl rfl) ?_); refine rS (T_lookOk (keyI .i64) (vv := vvS) p1 r18 ⟨#[]⟩ (.own _ rfl) rfl rfl ?_)
   refine QV rfl ?_; refine wA rfl ?_; refine wIf hF rfl (fun _ hF => ?_) fun _ hF => ?_
   · refine wA rfl ?_; have hF := fin_0 _ (oi hF); cases hF
     exact W_ret ⟨_, _, S_refl, _, rfl, rfl, ⟨rfl, fun _ => rfl⟩, (AgM.weak ⟨rfl, trivial⟩)⟩
   refine W_skip ?_; refine wB rfl ?_; exact cont_0 _ _ _ (oi hF) sw
 refine W_exit ?_; refine thenQ_exit ?_; refine thenQ_exit ?_; refine blockQ_hit ?_; exact brk_0 _ _ _ (oi hF) sw
def trace_losses_k1_L1 (p0 : (List (Int × ByteArray))) (p1 : (List api_Loss)) : Int → Option (Int ⊕ (Unit ⊕ Int)) := fun a20 =>
  (bif (decide (a20 < (List.length p1 : Int))) then ((idx p1 a20).bind fun y29 => (bif (!(Option.isSome (mget y29.fThread p0))) then some (.inr (.inr 5)) else ((((spans_Valid y29.fSpan).bind fun r32 => (bif (!r32) then some true else (bif (decide (y29.fCount < 1)) then some true else some (decide (1000000000000000 < y29.fCount))))) : Option Bool).bind fun v30 => (bif v30 then some (.inr (.inr 2)) else some (.inl (w64 (a20 + 1))))))) else some (.inr (.inl ())))
def trace_losses_k1 (p0 : (List (Int × ByteArray))) (p1 : (List api_Loss)) : Option Int :=
  ((loop (trace_losses_k1_L1 p0 p1) 0).bind fun | .inl _ => some 0 | .inr rv => some rv)
theorem trace_losses_k1_fun (p0 : (List (Int × ByteArray))) (p1 : (List api_Loss)) (r : Int) (hF : trace_losses_k1 p0 p1 = some r) : Fun Tryz.prog 70 false [(3800,0)] [cM (3800,0), cL 4 t_api_Loss p1] (heapOf [((3800,0), mapOb (.int .i64) kvI vvS p0)]) (cI r) (heapOf [((3800,0), mapOb (.int .i64) kvI vvS p0)]) := by
 refine Fun.of_walkM [(3800,0)] (some [(3800,0)]) Tryz.func70 c70 (by kernel_rfl) (rs := [.tmp 4]) (by kernel_rfl) rfl rfl rfl ?_; unfold v70
 unfold trace_losses_k1 at hF
 refine wA rfl ?_; refine W_seq ?_; refine wC 1 rfl ?_; refine rS (T_len (tc := t_api_Loss) p1 .tree ?_); refine QV rfl ?_; refine W_for (fun _ _ h => h) hF (.inl) (fun a20 => [(0, cM (3800,0)), (9, cL 4 t_api_Loss p1), (10, cI (List.length p1 : Int)), (11, cI a20)]) (fun a20 => [((3800,0), mapOb (.int .i64) kvI vvS p0)]) (fun _ => []) (fun _ => [((3800,0), mapOb (.int .i64) kvI vvS p0)]) sw ?_ ?_
 · rintro ⟨⟩ hF
   refine wA rfl ?_; cases hF
   exact W_ret ⟨_, _, S_refl, _, rfl, rfl, ⟨rfl, fun _ => rfl⟩, (AgM.weak ⟨rfl, trivial⟩)⟩
 rintro a20 x_0 hF cont_0 brk_0 fin_0
 unfold trace_losses_k1_L1 at hF
 refine wA rfl ?_; refine W_seq ?_; refine wIf hF rfl (fun _ hF => ?_) fun _ hF => ?_
 · refine W_skip ?_; refine W_seq ?_; refine W_block ?_; refine wE ?_; obtain ⟨y29, hy29, hF⟩ := bB hF
   refine rS (T_ixT (tc := t_api_Loss) p1 rfl rfl hy29 ?_); refine QV rfl ?_; refine W_seq ?_; refine wC 3 rfl ?_; refine rS (T_lookOk (keyI .i64) (vv := vvS) p0 y29.fThread ⟨#[]⟩ (.own _ rfl) rfl rfl ?_)
   refine QV rfl ?_; refine wA rfl ?_; refine wIf hF rfl (fun _ hF => ?_) fun _ hF => ?_
   · refine wA rfl ?_; have hF := fin_0 _ (oi hF); cases hF
     exact W_ret ⟨_, _, S_refl, _, rfl, rfl, ⟨rfl, fun _ => rfl⟩, (AgM.weak ⟨rfl, trivial⟩)⟩
   refine W_skip ?_; refine W_seq ?_; refine W_join (fun _ _ h => h) hF (fun v30 => [(0, cM (3800,0)), (9, cL 4 t_api_Loss p1), (10, cI (List.length p1 : Int)), (11, cI a20), (37, cB v30)]) (fun v30 => [((3800,0), mapOb (.int .i64) kvI vvS p0)]) ?_ ?_
   · rintro v30 hF
     refine wIf hF rfl (fun _ hF => ?_) fun _ hF => ?_
     · refine wA rfl ?_; have hF := fin_0 _ (oi hF); cases hF
       exact W_ret ⟨_, _, S_refl, _, rfl, rfl, ⟨rfl, fun _ => rfl⟩, (AgM.weak ⟨rfl, trivial⟩)⟩
     refine W_skip ?_; refine wB rfl ?_; exact cont_0 _ _ _ (oi hF) sw
   intro join hF
   refine wD 2 rfl ?_; obtain ⟨r32, hr32, hF⟩ := bB' hF
   refine rS (T_call (spans_Valid_fun _ _ hr32) ⟨⟨rfl, rfl, trivial⟩, trivial⟩ rfl (.inl rfl) ?_); refine Q_run SV 2 rfl ?_; cases h33 : (!r32)
   · have hF := bF' h33 hF; refine Q_run SV 5 rfl ?_; cases h34 : (decide (y29.fCount < 1))
     · have hF := bF' h34 hF; refine QV rfl ?_; exact join (decide (1000000000000000 < y29.fCount)) _ _ hF sw
     have hF := bT' h34 hF; refine QV rfl ?_; exact join true _ _ hF sw
   have hF := bT' h33 hF; refine QV rfl ?_; exact join true _ _ hF sw
 refine W_exit ?_; refine thenQ_exit ?_; refine thenQ_exit ?_; refine blockQ_hit ?_; exact brk_0 _ _ _ (oi hF) sw
def trace_tables (p0 : api_Trace) : Option Int :=
  ((trace_threads p0).bind fun | .inl r1_0 => (bif (!decide (r1_0.2 = 0)) then some r1_0.2 else ((slice_Check p0.fSlices).bind fun r2 => none)) | .inr r1_1 => (bif (!decide (r1_1.2 = 0)) then some r1_1.2 else ((slice_Check p0.fSlices).bind fun r4 => ((trace_known_api_Slice_k1 r4 r1_1.1 p0.fSlices).bind fun r5 => (bif (!decide (r5 = 0)) then some r5 else ((state_Check p0.fThreads p0.fStates).bind fun r6 => (bif (!decide (r6 = 0)) then some r6 else ((flow_Check p0.fFlows).bind fun r7 => ((trace_known_api_Flow_k1 r7 r1_1.1 p0.fFlows).bind fun r8 => ((trace_known_api_Flow_k2 r8 r1_1.1 p0.fFlows).bind fun r9 => (bif (!decide (r9 = 0)) then some r9 else ((sample_Check p0.fSamples).bind fun r10 => ((trace_known_api_Sample_k1 r10 r1_1.1 p0.fSamples).bind fun r11 => (bif (!decide (r11 = 0)) then some r11 else ((counter_Check p0.fSteps).bind fun r12 => (bif (!decide (r12 = 0)) then some r12 else ((memory_Check p0.fBlocks).bind fun r13 => ((trace_known_api_Block_k1 r13 r1_1.1 p0.fBlocks).bind fun r14 => (bif (!decide (r14 = 0)) then some r14 else ((trace_losses_k1 r1_1.1 p0.fLost).bind fun r15 => some r15))))))))))))))))))))
theorem trace_tables_fun (p0 : api_Trace) (r : Int) (hF : trace_tables p0 = some r) : Fun Tryz.prog 44 true [] [.agg (m_api_Trace p0)] noHeap (cI r) noHeap := by
 refine Fun.of_walk0 Tryz.func44 c44 (by kernel_rfl) (rs := [.tmp 2]) (by kernel_rfl) ?_; unfold v44
 unfold trace_tables at hF
 refine wA rfl ?_; refine wC 1 rfl ?_; obtain ⟨r1, hr1, hF⟩ := bB hF
 rcases r1 with r1_0 | r1_1
 · refine R_stepX trivial (X_callG [] rfl (callN _) (trace_threads_fun _ _ hr1) trivial ⟨.inr ⟨rfl, rfl, rfl, rfl, rfl, rfl, rfl, rfl, rfl, rfl, trivial⟩, trivial⟩ rfl rfl rfl ?_); refine QV rfl ?_; refine W_seq ?_
   refine wA rfl ?_; refine wIf hF rfl (fun _ hF => ?_) fun _ hF => ?_
   · refine wA rfl ?_; cases hF
     exact W_ret wR
   refine W_skip ?_; refine W_seq ?_; refine W_seq ?_; refine W_regD (by decide) (by kernel_rfl) rfl ?_; refine Q_run SP 2 rfl ?_; obtain ⟨r2, hr2, hF⟩ := bB hF
   refine R_step SP trivial (T_call (slice_Check_fun _ _ hr2) ⟨rfl, trivial⟩ rfl (.inl rfl) ?_); refine Q_run SP 3 rfl ?_; simp at hF
 refine R_stepX trivial (X_callG [((902,2160),(13,1))] rfl (callN _) (trace_threads_fun _ _ hr1) trivial ⟨.inr ⟨rfl, rfl, rfl, rfl, rfl, rfl, rfl, rfl, rfl, rfl, trivial⟩, trivial⟩ rfl rfl rfl ?_); refine QV rfl ?_
 refine W_seq ?_; refine wA rfl ?_; refine wIf hF rfl (fun _ hF => ?_) fun _ hF => ?_
 · refine wA rfl ?_; cases hF
   exact W_ret wR
 refine W_skip ?_; refine W_seq ?_; refine W_seq ?_; refine W_regD (by decide) (by kernel_rfl) rfl ?_; refine Q_run SP 2 rfl ?_; obtain ⟨r4, hr4, hF⟩ := bB hF
 refine R_step SP trivial (T_call (slice_Check_fun _ _ hr4) ⟨rfl, trivial⟩ rfl (.inl rfl) ?_); refine Q_run SP 3 rfl ?_; obtain ⟨r5, hr5, hF⟩ := bB hF
 refine R_step SP trivial (T_callO [((3200,0),(13,1))] rfl (trace_known_api_Slice_k1_fun _ _ _ _ hr5) ⟨rfl, trivial⟩ rfl rfl (.inr ⟨.inl rfl, .inl rfl, .inl rfl, .inl rfl, trivial⟩) ?_); refine QP rfl ?_
 refine wA rfl ?_; refine wIf hF rfl (fun _ hF => ?_) fun _ hF => ?_
 · refine wA rfl ?_; cases hF
   exact W_ret wR
 refine W_skip ?_; refine W_seq ?_; refine wC 4 rfl ?_; obtain ⟨r6, hr6, hF⟩ := bB hF
 refine rS (T_call (state_Check_fun _ _ _ hr6) ⟨rfl, rfl, trivial⟩ rfl (.inl rfl) ?_); refine QV rfl ?_; refine wA rfl ?_; refine wIf hF rfl (fun _ hF => ?_) fun _ hF => ?_
 · refine wA rfl ?_; cases hF
   exact W_ret wR
 refine W_skip ?_; refine W_seq ?_; refine W_regD (by decide) (by kernel_rfl) rfl ?_; refine Q_run SP 2 rfl ?_; obtain ⟨r7, hr7, hF⟩ := bB hF
 refine R_step SP trivial (T_call (flow_Check_fun _ _ hr7) ⟨rfl, trivial⟩ rfl (.inl rfl) ?_); refine Q_run SP 3 rfl ?_; obtain ⟨r8, hr8, hF⟩ := bB hF
 refine R_step SP trivial (T_callO [((3360,0),(13,1))] rfl (trace_known_api_Flow_k1_fun _ _ _ _ hr8) ⟨rfl, trivial⟩ rfl rfl (.inr ⟨.inl rfl, .inl rfl, .inl rfl, .inl rfl, trivial⟩) ?_); refine QP rfl ?_
 refine W_seq ?_; refine wC 4 rfl ?_; obtain ⟨r9, hr9, hF⟩ := bB hF
 refine rS (T_callO [((3360,0),(13,1))] rfl (trace_known_api_Flow_k2_fun _ _ _ _ hr9) ⟨rfl, trivial⟩ rfl rfl (.inr ⟨.inl rfl, .inl rfl, .inl rfl, .inl rfl, trivial⟩) ?_); refine QV rfl ?_; refine wA rfl ?_
 refine wIf hF rfl (fun _ hF => ?_) fun _ hF => ?_
 · refine wA rfl ?_; cases hF
   exact W_ret wR
 refine W_skip ?_; refine W_seq ?_; refine W_seq ?_; refine W_regD (by decide) (by kernel_rfl) rfl ?_; refine Q_run SP 2 rfl ?_; obtain ⟨r10, hr10, hF⟩ := bB hF
 refine R_step SP trivial (T_call (sample_Check_fun _ _ hr10) ⟨rfl, trivial⟩ rfl (.inl rfl) ?_); refine Q_run SP 3 rfl ?_; obtain ⟨r11, hr11, hF⟩ := bB hF
 refine R_step SP trivial (T_callO [((3520,0),(13,1))] rfl (trace_known_api_Sample_k1_fun _ _ _ _ hr11) ⟨rfl, trivial⟩ rfl rfl (.inr ⟨.inl rfl, .inl rfl, .inl rfl, .inl rfl, trivial⟩) ?_); refine QP rfl ?_
 refine wA rfl ?_; refine wIf hF rfl (fun _ hF => ?_) fun _ hF => ?_
 · refine wA rfl ?_; cases hF
   exact W_ret wR
 refine W_skip ?_; refine W_seq ?_; refine wC 2 rfl ?_; obtain ⟨r12, hr12, hF⟩ := bB hF
 refine rS (T_call (counter_Check_fun _ _ hr12) ⟨rfl, trivial⟩ rfl (.inl rfl) ?_); refine QV rfl ?_; refine wA rfl ?_; refine wIf hF rfl (fun _ hF => ?_) fun _ hF => ?_
 · refine wA rfl ?_; cases hF
   exact W_ret wR
 refine W_skip ?_; refine W_seq ?_; refine W_seq ?_; refine W_regD (by decide) (by kernel_rfl) rfl ?_; refine Q_run SP 2 rfl ?_; obtain ⟨r13, hr13, hF⟩ := bB hF
 refine R_step SP trivial (T_call (memory_Check_fun _ _ hr13) ⟨rfl, trivial⟩ rfl (.inl rfl) ?_); refine Q_run SP 3 rfl ?_; obtain ⟨r14, hr14, hF⟩ := bB hF
 refine R_step SP trivial (T_callO [((3680,0),(13,1))] rfl (trace_known_api_Block_k1_fun _ _ _ _ hr14) ⟨rfl, trivial⟩ rfl rfl (.inr ⟨.inl rfl, .inl rfl, .inl rfl, .inl rfl, trivial⟩) ?_); refine QP rfl ?_
 refine wA rfl ?_; refine wIf hF rfl (fun _ hF => ?_) fun _ hF => ?_
 · refine wA rfl ?_; cases hF
   exact W_ret wR
 refine W_skip ?_; refine wC 3 rfl ?_; obtain ⟨r15, hr15, hF⟩ := bB hF
 refine rS (T_callO [((3800,0),(13,1))] rfl (trace_losses_k1_fun _ _ _ hr15) ⟨rfl, trivial⟩ rfl rfl (.inr ⟨.inl rfl, .inl rfl, trivial⟩) ?_); refine QV rfl ?_; cases hF
 exact W_ret wR
def trace_within (p0 : api_Span) (p1 : api_Span) : Option Bool :=
  (((bif (decide (p1.fFrom ≤ p0.fFrom)) then some (decide (p0.fTo ≤ p1.fTo)) else some false) : Option Bool).bind fun v1 => some v1)
theorem trace_within_fun (p0 : api_Span) (p1 : api_Span) (r : Bool) (hF : trace_within p0 p1 = some r) : Fun Tryz.prog 73 true [] [.agg [jI p0.fFrom, jI p0.fTo], .agg [jI p1.fFrom, jI p1.fTo]] noHeap (cB r) noHeap := by
 refine Fun.of_walk0 Tryz.func73 c73 (by kernel_rfl) (rs := [.tmp 4]) (by kernel_rfl) ?_; unfold v73
 unfold trace_within at hF
 refine wA rfl ?_; refine W_seq ?_; refine W_join (fun _ _ h => h) hF (fun v1 => [(4, cB v1)]) (fun v1 => []) ?_ ?_
 · rintro v1 hF
   cases hF
   exact W_ret wR
 intro join hF
 refine wD 6 rfl ?_; cases h2 : (decide (p1.fFrom ≤ p0.fFrom))
 · have hF := bF' h2 hF; refine QV rfl ?_; exact join false _ _ hF sw
 have hF := bT' h2 hF; refine QV rfl ?_; exact join (decide (p0.fTo ≤ p1.fTo)) _ _ hF sw
def trace_outside_1_k1 (p0 : api_Slice) (p1 : api_Span) : Option Bool :=
  ((trace_within p0.fSpan p1).bind fun r1 => some (!r1))
theorem trace_outside_1_k1_fun (p0 : api_Slice) (p1 : api_Span) (r : Bool) (hF : trace_outside_1_k1 p0 p1 = some r) : Fun Tryz.prog 72 true [] [.agg (m_api_Slice p0), .c (.ptrI [tI p1.fFrom, tI p1.fTo])] noHeap (cB r) noHeap := by
 refine Fun.of_walk0 Tryz.func72 c72 (by kernel_rfl) (rs := [.tmp 3]) (by kernel_rfl) ?_; unfold v72
 unfold trace_outside_1_k1 at hF
 refine wA rfl ?_; refine wC 3 rfl ?_; obtain ⟨r1, hr1, hF⟩ := bB hF
 refine rS (T_call (trace_within_fun _ _ _ hr1) ⟨⟨rfl, rfl, trivial⟩, ⟨rfl, rfl, trivial⟩, trivial⟩ rfl (.inl rfl) ?_); refine QV rfl ?_; cases hF
 exact W_ret wR
def slices_IndexFunc_api_Slice_api_Slice_k1_L1 (p0 : (List api_Slice)) (p1_0 : api_Span) : Int → Option (Int ⊕ (Unit ⊕ Int)) := fun a12 =>
  (bif (decide (a12 < (List.length p0 : Int))) then ((idx p0 a12).bind fun y17 => ((trace_outside_1_k1 y17 p1_0).bind fun r18 => (bif r18 then some (.inr (.inr a12)) else some (.inl (w64 (a12 + 1)))))) else some (.inr (.inl ())))
def slices_IndexFunc_api_Slice_api_Slice_k1 (p0 : (List api_Slice)) (p1_0 : api_Span) : Option Int :=
  ((loop (slices_IndexFunc_api_Slice_api_Slice_k1_L1 p0 p1_0) 0).bind fun | .inl _ => some (-1) | .inr rv => some rv)
theorem slices_IndexFunc_api_Slice_api_Slice_k1_fun (p0 : (List api_Slice)) (p1_0 : api_Span) (r : Int) (hF : slices_IndexFunc_api_Slice_api_Slice_k1 p0 p1_0 = some r) : Fun Tryz.prog 112 false [(5480,0)] [cL 8 t_api_Slice p0, .c (.fn 72 [.ptr (5480,0)])] (heapOf [((5480,0), .box [jI p1_0.fFrom, jI p1_0.fTo])]) (cI r) (heapOf [((5480,0), .box [jI p1_0.fFrom, jI p1_0.fTo])]) := by
 refine Fun.of_walkM [(5480,0)] (some [(5480,0)]) Tryz.func112 c112 (by kernel_rfl) (rs := [.tmp 4]) (by kernel_rfl) rfl rfl rfl ?_; unfold v112
 unfold slices_IndexFunc_api_Slice_api_Slice_k1 at hF
 refine wA rfl ?_; refine W_seq ?_; refine wC 1 rfl ?_; refine rS (T_len (tc := t_api_Slice) p0 .tree ?_); refine QV rfl ?_; refine W_for (fun _ _ h => h) hF (.inl) (fun a12 => [(0, cL 8 t_api_Slice p0), (1, .c (.fn 72 [.ptr (5480,0)])), (7, cI (List.length p0 : Int)), (8, cI a12)]) (fun a12 => [((5480,0), .box [jI p1_0.fFrom, jI p1_0.fTo])]) (fun _ => []) (fun _ => [((5480,0), .box [jI p1_0.fFrom, jI p1_0.fTo])]) sw ?_ ?_
 · rintro ⟨⟩ hF
   refine wA rfl ?_; cases hF
   exact W_ret ⟨_, _, S_refl, _, rfl, rfl, ⟨rfl, fun _ => rfl⟩, (AgM.weak ⟨rfl, trivial⟩)⟩
 rintro a12 x_0 hF cont_0 brk_0 fin_0
 unfold slices_IndexFunc_api_Slice_api_Slice_k1_L1 at hF
 refine wA rfl ?_; refine W_seq ?_; refine wIf hF rfl (fun _ hF => ?_) fun _ hF => ?_
 · refine W_skip ?_; refine W_seq ?_; refine W_block ?_; refine wA rfl ?_; refine wC 3 rfl ?_; obtain ⟨y17, hy17, hF⟩ := bB hF
   refine rS (T_ixT (tc := t_api_Slice) p0 rfl rfl hy17 ?_); refine Q_run SV 1 rfl ?_; obtain ⟨r18, hr18, hF⟩ := bB hF
   refine R_stepX trivial (X_call (callW _ rfl fnOk72) (trace_outside_1_k1_fun _ _ _ hr18) ⟨⟨rfl, rfl, rfl, rfl, rfl, rfl, rfl, rfl, trivial⟩, ⟨_, rfl, ⟨rfl, rfl, trivial⟩⟩, trivial⟩ rfl (.inl rfl) ?_); refine QV rfl ?_
   refine wIf hF rfl (fun _ hF => ?_) fun _ hF => ?_
   · refine wA rfl ?_; have hF := fin_0 _ (oi hF); cases hF
     exact W_ret ⟨_, _, S_refl, _, rfl, rfl, ⟨rfl, fun _ => rfl⟩, (AgM.weak ⟨rfl, trivial⟩)⟩
   refine W_skip ?_; refine wB rfl ?_; exact cont_0 _ _ _ (oi hF) sw
 refine W_exit ?_; refine thenQ_exit ?_; refine thenQ_exit ?_; refine blockQ_hit ?_; exact brk_0 _ _ _ (oi hF) sw
def slices_ContainsFunc_api_Slice_api_Slice_k1 (p0 : (List api_Slice)) (p1_0 : api_Span) : Option Bool :=
  ((slices_IndexFunc_api_Slice_api_Slice_k1 p0 p1_0).bind fun r1 => some (decide (0 ≤ r1)))
theorem slices_ContainsFunc_api_Slice_api_Slice_k1_fun (p0 : (List api_Slice)) (p1_0 : api_Span) (r : Bool) (hF : slices_ContainsFunc_api_Slice_api_Slice_k1 p0 p1_0 = some r) : Fun Tryz.prog 71 false [(3840,0)] [cL 8 t_api_Slice p0, .c (.fn 72 [.ptr (3840,0)])] (heapOf [((3840,0), .box [jI p1_0.fFrom, jI p1_0.fTo])]) (cB r) (heapOf [((3840,0), .box [jI p1_0.fFrom, jI p1_0.fTo])]) := by
 refine Fun.of_walkM [(3840,0)] (some [(3840,0)]) Tryz.func71 c71 (by kernel_rfl) (rs := [.tmp 4]) (by kernel_rfl) rfl rfl rfl ?_; unfold v71
 unfold slices_ContainsFunc_api_Slice_api_Slice_k1 at hF
 refine wA rfl ?_; refine wC 2 rfl ?_; obtain ⟨r1, hr1, hF⟩ := bB hF
 refine rS (T_callO [((5480,0),(3840,0))] rfl (slices_IndexFunc_api_Slice_api_Slice_k1_fun _ _ _ hr1) ⟨rfl, trivial⟩ rfl rfl (.inr ⟨.inl rfl, .inl rfl, trivial⟩) ?_); refine QV rfl ?_; cases hF
 exact W_ret ⟨_, _, S_refl, _, rfl, rfl, ⟨rfl, fun _ => rfl⟩, (AgM.weak ⟨rfl, trivial⟩)⟩
def trace_outside_2_k1 (p0 : api_State) (p1 : api_Span) : Option Bool :=
  ((trace_within p0.fSpan p1).bind fun r1 => some (!r1))
theorem trace_outside_2_k1_fun (p0 : api_State) (p1 : api_Span) (r : Bool) (hF : trace_outside_2_k1 p0 p1 = some r) : Fun Tryz.prog 75 true [] [.agg (m_api_State p0), .c (.ptrI [tI p1.fFrom, tI p1.fTo])] noHeap (cB r) noHeap := by
 refine Fun.of_walk0 Tryz.func75 c75 (by kernel_rfl) (rs := [.tmp 3]) (by kernel_rfl) ?_; unfold v75
 unfold trace_outside_2_k1 at hF
 refine wA rfl ?_; refine wC 3 rfl ?_; obtain ⟨r1, hr1, hF⟩ := bB hF
 refine rS (T_call (trace_within_fun _ _ _ hr1) ⟨⟨rfl, rfl, trivial⟩, ⟨rfl, rfl, trivial⟩, trivial⟩ rfl (.inl rfl) ?_); refine QV rfl ?_; cases hF
 exact W_ret wR
def slices_IndexFunc_api_State_api_State_k1_L1 (p0 : (List api_State)) (p1_0 : api_Span) : Int → Option (Int ⊕ (Unit ⊕ Int)) := fun a12 =>
  (bif (decide (a12 < (List.length p0 : Int))) then ((idx p0 a12).bind fun y17 => ((trace_outside_2_k1 y17 p1_0).bind fun r18 => (bif r18 then some (.inr (.inr a12)) else some (.inl (w64 (a12 + 1)))))) else some (.inr (.inl ())))
def slices_IndexFunc_api_State_api_State_k1 (p0 : (List api_State)) (p1_0 : api_Span) : Option Int :=
  ((loop (slices_IndexFunc_api_State_api_State_k1_L1 p0 p1_0) 0).bind fun | .inl _ => some (-1) | .inr rv => some rv)
theorem slices_IndexFunc_api_State_api_State_k1_fun (p0 : (List api_State)) (p1_0 : api_Span) (r : Int) (hF : slices_IndexFunc_api_State_api_State_k1 p0 p1_0 = some r) : Fun Tryz.prog 113 false [(5520,0)] [cL 7 t_api_State p0, .c (.fn 75 [.ptr (5520,0)])] (heapOf [((5520,0), .box [jI p1_0.fFrom, jI p1_0.fTo])]) (cI r) (heapOf [((5520,0), .box [jI p1_0.fFrom, jI p1_0.fTo])]) := by
 refine Fun.of_walkM [(5520,0)] (some [(5520,0)]) Tryz.func113 c113 (by kernel_rfl) (rs := [.tmp 4]) (by kernel_rfl) rfl rfl rfl ?_; unfold v113
 unfold slices_IndexFunc_api_State_api_State_k1 at hF
 refine wA rfl ?_; refine W_seq ?_; refine wC 1 rfl ?_; refine rS (T_len (tc := t_api_State) p0 .tree ?_); refine QV rfl ?_; refine W_for (fun _ _ h => h) hF (.inl) (fun a12 => [(0, cL 7 t_api_State p0), (1, .c (.fn 75 [.ptr (5520,0)])), (7, cI (List.length p0 : Int)), (8, cI a12)]) (fun a12 => [((5520,0), .box [jI p1_0.fFrom, jI p1_0.fTo])]) (fun _ => []) (fun _ => [((5520,0), .box [jI p1_0.fFrom, jI p1_0.fTo])]) sw ?_ ?_
 · rintro ⟨⟩ hF
   refine wA rfl ?_; cases hF
   exact W_ret ⟨_, _, S_refl, _, rfl, rfl, ⟨rfl, fun _ => rfl⟩, (AgM.weak ⟨rfl, trivial⟩)⟩
 rintro a12 x_0 hF cont_0 brk_0 fin_0
 unfold slices_IndexFunc_api_State_api_State_k1_L1 at hF
 refine wA rfl ?_; refine W_seq ?_; refine wIf hF rfl (fun _ hF => ?_) fun _ hF => ?_
 · refine W_skip ?_; refine W_seq ?_; refine W_block ?_; refine wA rfl ?_; refine wC 3 rfl ?_; obtain ⟨y17, hy17, hF⟩ := bB hF
   refine rS (T_ixT (tc := t_api_State) p0 rfl rfl hy17 ?_); refine Q_run SV 1 rfl ?_; obtain ⟨r18, hr18, hF⟩ := bB hF
   refine R_stepX trivial (X_call (callW _ rfl fnOk75) (trace_outside_2_k1_fun _ _ _ hr18) ⟨⟨rfl, rfl, rfl, rfl, rfl, rfl, rfl, trivial⟩, ⟨_, rfl, ⟨rfl, rfl, trivial⟩⟩, trivial⟩ rfl (.inl rfl) ?_); refine QV rfl ?_
   refine wIf hF rfl (fun _ hF => ?_) fun _ hF => ?_
   · refine wA rfl ?_; have hF := fin_0 _ (oi hF); cases hF
     exact W_ret ⟨_, _, S_refl, _, rfl, rfl, ⟨rfl, fun _ => rfl⟩, (AgM.weak ⟨rfl, trivial⟩)⟩
   refine W_skip ?_; refine wB rfl ?_; exact cont_0 _ _ _ (oi hF) sw
 refine W_exit ?_; refine thenQ_exit ?_; refine thenQ_exit ?_; refine blockQ_hit ?_; exact brk_0 _ _ _ (oi hF) sw
def slices_ContainsFunc_api_State_api_State_k1 (p0 : (List api_State)) (p1_0 : api_Span) : Option Bool :=
  ((slices_IndexFunc_api_State_api_State_k1 p0 p1_0).bind fun r1 => some (decide (0 ≤ r1)))
theorem slices_ContainsFunc_api_State_api_State_k1_fun (p0 : (List api_State)) (p1_0 : api_Span) (r : Bool) (hF : slices_ContainsFunc_api_State_api_State_k1 p0 p1_0 = some r) : Fun Tryz.prog 74 false [(3960,0)] [cL 7 t_api_State p0, .c (.fn 75 [.ptr (3960,0)])] (heapOf [((3960,0), .box [jI p1_0.fFrom, jI p1_0.fTo])]) (cB r) (heapOf [((3960,0), .box [jI p1_0.fFrom, jI p1_0.fTo])]) := by
 refine Fun.of_walkM [(3960,0)] (some [(3960,0)]) Tryz.func74 c74 (by kernel_rfl) (rs := [.tmp 4]) (by kernel_rfl) rfl rfl rfl ?_; unfold v74
 unfold slices_ContainsFunc_api_State_api_State_k1 at hF
 refine wA rfl ?_; refine wC 2 rfl ?_; obtain ⟨r1, hr1, hF⟩ := bB hF
 refine rS (T_callO [((5520,0),(3960,0))] rfl (slices_IndexFunc_api_State_api_State_k1_fun _ _ _ hr1) ⟨rfl, trivial⟩ rfl rfl (.inr ⟨.inl rfl, .inl rfl, trivial⟩) ?_); refine QV rfl ?_; cases hF
 exact W_ret ⟨_, _, S_refl, _, rfl, rfl, ⟨rfl, fun _ => rfl⟩, (AgM.weak ⟨rfl, trivial⟩)⟩
def trace_outside_3_k1 (p0 : api_Block) (p1 : api_Span) : Option Bool :=
  ((trace_within p0.fSpan p1).bind fun r1 => some (!r1))
theorem trace_outside_3_k1_fun (p0 : api_Block) (p1 : api_Span) (r : Bool) (hF : trace_outside_3_k1 p0 p1 = some r) : Fun Tryz.prog 77 true [] [.agg (m_api_Block p0), .c (.ptrI [tI p1.fFrom, tI p1.fTo])] noHeap (cB r) noHeap := by
 refine Fun.of_walk0 Tryz.func77 c77 (by kernel_rfl) (rs := [.tmp 3]) (by kernel_rfl) ?_; unfold v77
 unfold trace_outside_3_k1 at hF
 refine wA rfl ?_; refine wC 3 rfl ?_; obtain ⟨r1, hr1, hF⟩ := bB hF
 refine rS (T_call (trace_within_fun _ _ _ hr1) ⟨⟨rfl, rfl, trivial⟩, ⟨rfl, rfl, trivial⟩, trivial⟩ rfl (.inl rfl) ?_); refine QV rfl ?_; cases hF
 exact W_ret wR
def slices_IndexFunc_api_Block_api_Block_k1_L1 (p0 : (List api_Block)) (p1_0 : api_Span) : Int → Option (Int ⊕ (Unit ⊕ Int)) := fun a12 =>
  (bif (decide (a12 < (List.length p0 : Int))) then ((idx p0 a12).bind fun y17 => ((trace_outside_3_k1 y17 p1_0).bind fun r18 => (bif r18 then some (.inr (.inr a12)) else some (.inl (w64 (a12 + 1)))))) else some (.inr (.inl ())))
def slices_IndexFunc_api_Block_api_Block_k1 (p0 : (List api_Block)) (p1_0 : api_Span) : Option Int :=
  ((loop (slices_IndexFunc_api_Block_api_Block_k1_L1 p0 p1_0) 0).bind fun | .inl _ => some (-1) | .inr rv => some rv)
theorem slices_IndexFunc_api_Block_api_Block_k1_fun (p0 : (List api_Block)) (p1_0 : api_Span) (r : Int) (hF : slices_IndexFunc_api_Block_api_Block_k1 p0 p1_0 = some r) : Fun Tryz.prog 114 false [(5560,0)] [cL 7 t_api_Block p0, .c (.fn 77 [.ptr (5560,0)])] (heapOf [((5560,0), .box [jI p1_0.fFrom, jI p1_0.fTo])]) (cI r) (heapOf [((5560,0), .box [jI p1_0.fFrom, jI p1_0.fTo])]) := by
 refine Fun.of_walkM [(5560,0)] (some [(5560,0)]) Tryz.func114 c114 (by kernel_rfl) (rs := [.tmp 4]) (by kernel_rfl) rfl rfl rfl ?_; unfold v114
 unfold slices_IndexFunc_api_Block_api_Block_k1 at hF
 refine wA rfl ?_; refine W_seq ?_; refine wC 1 rfl ?_; refine rS (T_len (tc := t_api_Block) p0 .tree ?_); refine QV rfl ?_; refine W_for (fun _ _ h => h) hF (.inl) (fun a12 => [(0, cL 7 t_api_Block p0), (1, .c (.fn 77 [.ptr (5560,0)])), (7, cI (List.length p0 : Int)), (8, cI a12)]) (fun a12 => [((5560,0), .box [jI p1_0.fFrom, jI p1_0.fTo])]) (fun _ => []) (fun _ => [((5560,0), .box [jI p1_0.fFrom, jI p1_0.fTo])]) sw ?_ ?_
 · rintro ⟨⟩ hF
   refine wA rfl ?_; cases hF
   exact W_ret ⟨_, _, S_refl, _, rfl, rfl, ⟨rfl, fun _ => rfl⟩, (AgM.weak ⟨rfl, trivial⟩)⟩
 rintro a12 x_0 hF cont_0 brk_0 fin_0
 unfold slices_IndexFunc_api_Block_api_Block_k1_L1 at hF
 refine wA rfl ?_; refine W_seq ?_; refine wIf hF rfl (fun _ hF => ?_) fun _ hF => ?_
 · refine W_skip ?_; refine W_seq ?_; refine W_block ?_; refine wA rfl ?_; refine wC 3 rfl ?_; obtain ⟨y17, hy17, hF⟩ := bB hF
   refine rS (T_ixT (tc := t_api_Block) p0 rfl rfl hy17 ?_); refine Q_run SV 1 rfl ?_; obtain ⟨r18, hr18, hF⟩ := bB hF
   refine R_stepX trivial (X_call (callW _ rfl fnOk77) (trace_outside_3_k1_fun _ _ _ hr18) ⟨⟨rfl, rfl, rfl, rfl, rfl, rfl, rfl, trivial⟩, ⟨_, rfl, ⟨rfl, rfl, trivial⟩⟩, trivial⟩ rfl (.inl rfl) ?_); refine QV rfl ?_
   refine wIf hF rfl (fun _ hF => ?_) fun _ hF => ?_
   · refine wA rfl ?_; have hF := fin_0 _ (oi hF); cases hF
     exact W_ret ⟨_, _, S_refl, _, rfl, rfl, ⟨rfl, fun _ => rfl⟩, (AgM.weak ⟨rfl, trivial⟩)⟩
   refine W_skip ?_; refine wB rfl ?_; exact cont_0 _ _ _ (oi hF) sw
 refine W_exit ?_; refine thenQ_exit ?_; refine thenQ_exit ?_; refine blockQ_hit ?_; exact brk_0 _ _ _ (oi hF) sw
def slices_ContainsFunc_api_Block_api_Block_k1 (p0 : (List api_Block)) (p1_0 : api_Span) : Option Bool :=
  ((slices_IndexFunc_api_Block_api_Block_k1 p0 p1_0).bind fun r1 => some (decide (0 ≤ r1)))
theorem slices_ContainsFunc_api_Block_api_Block_k1_fun (p0 : (List api_Block)) (p1_0 : api_Span) (r : Bool) (hF : slices_ContainsFunc_api_Block_api_Block_k1 p0 p1_0 = some r) : Fun Tryz.prog 76 false [(4040,0)] [cL 7 t_api_Block p0, .c (.fn 77 [.ptr (4040,0)])] (heapOf [((4040,0), .box [jI p1_0.fFrom, jI p1_0.fTo])]) (cB r) (heapOf [((4040,0), .box [jI p1_0.fFrom, jI p1_0.fTo])]) := by
 refine Fun.of_walkM [(4040,0)] (some [(4040,0)]) Tryz.func76 c76 (by kernel_rfl) (rs := [.tmp 4]) (by kernel_rfl) rfl rfl rfl ?_; unfold v76
 unfold slices_ContainsFunc_api_Block_api_Block_k1 at hF
 refine wA rfl ?_; refine wC 2 rfl ?_; obtain ⟨r1, hr1, hF⟩ := bB hF
 refine rS (T_callO [((5560,0),(4040,0))] rfl (slices_IndexFunc_api_Block_api_Block_k1_fun _ _ _ hr1) ⟨rfl, trivial⟩ rfl rfl (.inr ⟨.inl rfl, .inl rfl, trivial⟩) ?_); refine QV rfl ?_; cases hF
 exact W_ret ⟨_, _, S_refl, _, rfl, rfl, ⟨rfl, fun _ => rfl⟩, (AgM.weak ⟨rfl, trivial⟩)⟩
def trace_inside (p0 : api_Span) (p1 : Int) : Option Bool :=
  (((bif (decide (p0.fFrom ≤ p1)) then some (decide (p1 < p0.fTo)) else some false) : Option Bool).bind fun v1 => some v1)
theorem trace_inside_fun (p0 : api_Span) (p1 : Int) (r : Bool) (hF : trace_inside p0 p1 = some r) : Fun Tryz.prog 80 true [] [.agg [jI p0.fFrom, jI p0.fTo], cI p1] noHeap (cB r) noHeap := by
 refine Fun.of_walk0 Tryz.func80 c80 (by kernel_rfl) (rs := [.tmp 4]) (by kernel_rfl) ?_; unfold v80
 unfold trace_inside at hF
 refine wA rfl ?_; refine W_seq ?_; refine W_join (fun _ _ h => h) hF (fun v1 => [(4, cB v1)]) (fun v1 => []) ?_ ?_
 · rintro v1 hF
   cases hF
   exact W_ret wR
 intro join hF
 refine wD 5 rfl ?_; cases h2 : (decide (p0.fFrom ≤ p1))
 · have hF := bF' h2 hF; refine QV rfl ?_; exact join false _ _ hF sw
 have hF := bT' h2 hF; refine QV rfl ?_; exact join (decide (p1 < p0.fTo)) _ _ hF sw
def trace_outside_4_k1 (p0 : api_Flow) (p1 : api_Span) : Option Bool :=
  ((((trace_inside p1 p0.fSend).bind fun r2 => (bif (!r2) then some true else ((trace_inside p1 p0.fRecv).bind fun r4 => some (!r4)))) : Option Bool).bind fun v1 => some v1)
theorem trace_outside_4_k1_fun (p0 : api_Flow) (p1 : api_Span) (r : Bool) (hF : trace_outside_4_k1 p0 p1 = some r) : Fun Tryz.prog 79 true [] [.agg (m_api_Flow p0), .c (.ptrI [tI p1.fFrom, tI p1.fTo])] noHeap (cB r) noHeap := by
 refine Fun.of_walk0 Tryz.func79 c79 (by kernel_rfl) (rs := [.tmp 3]) (by kernel_rfl) ?_; unfold v79
 unfold trace_outside_4_k1 at hF
 refine wA rfl ?_; refine W_seq ?_; refine W_join (fun _ _ h => h) hF (fun v1 => [(3, cB v1)]) (fun v1 => []) ?_ ?_
 · rintro v1 hF
   cases hF
   exact W_ret wR
 intro join hF
 refine wD 3 rfl ?_; obtain ⟨r2, hr2, hF⟩ := bB' hF
 refine rS (T_call (trace_inside_fun _ _ _ hr2) ⟨⟨rfl, rfl, trivial⟩, rfl, trivial⟩ rfl (.inl rfl) ?_); refine Q_run SV 2 rfl ?_; cases h3 : (!r2)
 · have hF := bF' h3 hF; refine Q_run SV 3 rfl ?_; obtain ⟨r4, hr4, hF⟩ := bB' hF
   refine R_step SV rfl (T_call (trace_inside_fun _ _ _ hr4) ⟨⟨rfl, rfl, trivial⟩, rfl, trivial⟩ rfl (.inl rfl) ?_); refine QV rfl ?_; exact join (!r4) _ _ hF sw
 have hF := bT' h3 hF; refine QV rfl ?_; exact join true _ _ hF sw
def slices_IndexFunc_api_Flow_api_Flow_k1_L1 (p0 : (List api_Flow)) (p1_0 : api_Span) : Int → Option (Int ⊕ (Unit ⊕ Int)) := fun a12 =>
  (bif (decide (a12 < (List.length p0 : Int))) then ((idx p0 a12).bind fun y17 => ((trace_outside_4_k1 y17 p1_0).bind fun r18 => (bif r18 then some (.inr (.inr a12)) else some (.inl (w64 (a12 + 1)))))) else some (.inr (.inl ())))
def slices_IndexFunc_api_Flow_api_Flow_k1 (p0 : (List api_Flow)) (p1_0 : api_Span) : Option Int :=
  ((loop (slices_IndexFunc_api_Flow_api_Flow_k1_L1 p0 p1_0) 0).bind fun | .inl _ => some (-1) | .inr rv => some rv)
theorem slices_IndexFunc_api_Flow_api_Flow_k1_fun (p0 : (List api_Flow)) (p1_0 : api_Span) (r : Int) (hF : slices_IndexFunc_api_Flow_api_Flow_k1 p0 p1_0 = some r) : Fun Tryz.prog 115 false [(5600,0)] [cL 7 t_api_Flow p0, .c (.fn 79 [.ptr (5600,0)])] (heapOf [((5600,0), .box [jI p1_0.fFrom, jI p1_0.fTo])]) (cI r) (heapOf [((5600,0), .box [jI p1_0.fFrom, jI p1_0.fTo])]) := by
 refine Fun.of_walkM [(5600,0)] (some [(5600,0)]) Tryz.func115 c115 (by kernel_rfl) (rs := [.tmp 4]) (by kernel_rfl) rfl rfl rfl ?_; unfold v115
 unfold slices_IndexFunc_api_Flow_api_Flow_k1 at hF
 refine wA rfl ?_; refine W_seq ?_; refine wC 1 rfl ?_; refine rS (T_len (tc := t_api_Flow) p0 .tree ?_); refine QV rfl ?_; refine W_for (fun _ _ h => h) hF (.inl) (fun a12 => [(0, cL 7 t_api_Flow p0), (1, .c (.fn 79 [.ptr (5600,0)])), (7, cI (List.length p0 : Int)), (8, cI a12)]) (fun a12 => [((5600,0), .box [jI p1_0.fFrom, jI p1_0.fTo])]) (fun _ => []) (fun _ => [((5600,0), .box [jI p1_0.fFrom, jI p1_0.fTo])]) sw ?_ ?_
 · rintro ⟨⟩ hF
   refine wA rfl ?_; cases hF
   exact W_ret ⟨_, _, S_refl, _, rfl, rfl, ⟨rfl, fun _ => rfl⟩, (AgM.weak ⟨rfl, trivial⟩)⟩
 rintro a12 x_0 hF cont_0 brk_0 fin_0
 unfold slices_IndexFunc_api_Flow_api_Flow_k1_L1 at hF
 refine wA rfl ?_; refine W_seq ?_; refine wIf hF rfl (fun _ hF => ?_) fun _ hF => ?_
 · refine W_skip ?_; refine W_seq ?_; refine W_block ?_; refine wA rfl ?_; refine wC 3 rfl ?_; obtain ⟨y17, hy17, hF⟩ := bB hF
   refine rS (T_ixT (tc := t_api_Flow) p0 rfl rfl hy17 ?_); refine Q_run SV 1 rfl ?_; obtain ⟨r18, hr18, hF⟩ := bB hF
   refine R_stepX trivial (X_call (callW _ rfl fnOk79) (trace_outside_4_k1_fun _ _ _ hr18) ⟨⟨rfl, rfl, rfl, rfl, rfl, rfl, rfl, trivial⟩, ⟨_, rfl, ⟨rfl, rfl, trivial⟩⟩, trivial⟩ rfl (.inl rfl) ?_); refine QV rfl ?_
   refine wIf hF rfl (fun _ hF => ?_) fun _ hF => ?_
   · refine wA rfl ?_; have hF := fin_0 _ (oi hF); cases hF
     exact W_ret ⟨_, _, S_refl, _, rfl, rfl, ⟨rfl, fun _ => rfl⟩, (AgM.weak ⟨rfl, trivial⟩)⟩
   refine W_skip ?_; refine wB rfl ?_; exact cont_0 _ _ _ (oi hF) sw
 refine W_exit ?_; refine thenQ_exit ?_; refine thenQ_exit ?_; refine blockQ_hit ?_; exact brk_0 _ _ _ (oi hF) sw
def slices_ContainsFunc_api_Flow_api_Flow_k1 (p0 : (List api_Flow)) (p1_0 : api_Span) : Option Bool :=
  ((slices_IndexFunc_api_Flow_api_Flow_k1 p0 p1_0).bind fun r1 => some (decide (0 ≤ r1)))
theorem slices_ContainsFunc_api_Flow_api_Flow_k1_fun (p0 : (List api_Flow)) (p1_0 : api_Span) (r : Bool) (hF : slices_ContainsFunc_api_Flow_api_Flow_k1 p0 p1_0 = some r) : Fun Tryz.prog 78 false [(4120,0)] [cL 7 t_api_Flow p0, .c (.fn 79 [.ptr (4120,0)])] (heapOf [((4120,0), .box [jI p1_0.fFrom, jI p1_0.fTo])]) (cB r) (heapOf [((4120,0), .box [jI p1_0.fFrom, jI p1_0.fTo])]) := by
 refine Fun.of_walkM [(4120,0)] (some [(4120,0)]) Tryz.func78 c78 (by kernel_rfl) (rs := [.tmp 4]) (by kernel_rfl) rfl rfl rfl ?_; unfold v78
 unfold slices_ContainsFunc_api_Flow_api_Flow_k1 at hF
 refine wA rfl ?_; refine wC 2 rfl ?_; obtain ⟨r1, hr1, hF⟩ := bB hF
 refine rS (T_callO [((5600,0),(4120,0))] rfl (slices_IndexFunc_api_Flow_api_Flow_k1_fun _ _ _ hr1) ⟨rfl, trivial⟩ rfl rfl (.inr ⟨.inl rfl, .inl rfl, trivial⟩) ?_); refine QV rfl ?_; cases hF
 exact W_ret ⟨_, _, S_refl, _, rfl, rfl, ⟨rfl, fun _ => rfl⟩, (AgM.weak ⟨rfl, trivial⟩)⟩
def trace_outside_5_k1 (p0 : api_Sample) (p1 : api_Span) : Option Bool :=
  ((trace_inside p1 p0.fAt).bind fun r1 => some (!r1))
theorem trace_outside_5_k1_fun (p0 : api_Sample) (p1 : api_Span) (r : Bool) (hF : trace_outside_5_k1 p0 p1 = some r) : Fun Tryz.prog 82 true [] [.agg (m_api_Sample p0), .c (.ptrI [tI p1.fFrom, tI p1.fTo])] noHeap (cB r) noHeap := by
 refine Fun.of_walk0 Tryz.func82 c82 (by kernel_rfl) (rs := [.tmp 3]) (by kernel_rfl) ?_; unfold v82
 unfold trace_outside_5_k1 at hF
 refine wA rfl ?_; refine wC 3 rfl ?_; obtain ⟨r1, hr1, hF⟩ := bB hF
 refine rS (T_call (trace_inside_fun _ _ _ hr1) ⟨⟨rfl, rfl, trivial⟩, rfl, trivial⟩ rfl (.inl rfl) ?_); refine QV rfl ?_; cases hF
 exact W_ret wR
def slices_IndexFunc_api_Sample_api_Sample_k1_L1 (p0 : (List api_Sample)) (p1_0 : api_Span) : Int → Option (Int ⊕ (Unit ⊕ Int)) := fun a12 =>
  (bif (decide (a12 < (List.length p0 : Int))) then ((idx p0 a12).bind fun y17 => ((trace_outside_5_k1 y17 p1_0).bind fun r18 => (bif r18 then some (.inr (.inr a12)) else some (.inl (w64 (a12 + 1)))))) else some (.inr (.inl ())))
def slices_IndexFunc_api_Sample_api_Sample_k1 (p0 : (List api_Sample)) (p1_0 : api_Span) : Option Int :=
  ((loop (slices_IndexFunc_api_Sample_api_Sample_k1_L1 p0 p1_0) 0).bind fun | .inl _ => some (-1) | .inr rv => some rv)
theorem slices_IndexFunc_api_Sample_api_Sample_k1_fun (p0 : (List api_Sample)) (p1_0 : api_Span) (r : Int) (hF : slices_IndexFunc_api_Sample_api_Sample_k1 p0 p1_0 = some r) : Fun Tryz.prog 116 false [(5640,0)] [cL 4 t_api_Sample p0, .c (.fn 82 [.ptr (5640,0)])] (heapOf [((5640,0), .box [jI p1_0.fFrom, jI p1_0.fTo])]) (cI r) (heapOf [((5640,0), .box [jI p1_0.fFrom, jI p1_0.fTo])]) := by
 refine Fun.of_walkM [(5640,0)] (some [(5640,0)]) Tryz.func116 c116 (by kernel_rfl) (rs := [.tmp 4]) (by kernel_rfl) rfl rfl rfl ?_; unfold v116
 unfold slices_IndexFunc_api_Sample_api_Sample_k1 at hF
 refine wA rfl ?_; refine W_seq ?_; refine wC 1 rfl ?_; refine rS (T_len (tc := t_api_Sample) p0 .tree ?_); refine QV rfl ?_; refine W_for (fun _ _ h => h) hF (.inl) (fun a12 => [(0, cL 4 t_api_Sample p0), (1, .c (.fn 82 [.ptr (5640,0)])), (7, cI (List.length p0 : Int)), (8, cI a12)]) (fun a12 => [((5640,0), .box [jI p1_0.fFrom, jI p1_0.fTo])]) (fun _ => []) (fun _ => [((5640,0), .box [jI p1_0.fFrom, jI p1_0.fTo])]) sw ?_ ?_
 · rintro ⟨⟩ hF
   refine wA rfl ?_; cases hF
   exact W_ret ⟨_, _, S_refl, _, rfl, rfl, ⟨rfl, fun _ => rfl⟩, (AgM.weak ⟨rfl, trivial⟩)⟩
 rintro a12 x_0 hF cont_0 brk_0 fin_0
 unfold slices_IndexFunc_api_Sample_api_Sample_k1_L1 at hF
 refine wA rfl ?_; refine W_seq ?_; refine wIf hF rfl (fun _ hF => ?_) fun _ hF => ?_
 · refine W_skip ?_; refine W_seq ?_; refine W_block ?_; refine wA rfl ?_; refine wC 3 rfl ?_; obtain ⟨y17, hy17, hF⟩ := bB hF
   refine rS (T_ixT (tc := t_api_Sample) p0 rfl rfl hy17 ?_); refine Q_run SV 1 rfl ?_; obtain ⟨r18, hr18, hF⟩ := bB hF
   refine R_stepX trivial (X_call (callW _ rfl fnOk82) (trace_outside_5_k1_fun _ _ _ hr18) ⟨⟨rfl, rfl, rfl, rfl, trivial⟩, ⟨_, rfl, ⟨rfl, rfl, trivial⟩⟩, trivial⟩ rfl (.inl rfl) ?_); refine QV rfl ?_; refine wIf hF rfl (fun _ hF => ?_) fun _ hF => ?_
   · refine wA rfl ?_; have hF := fin_0 _ (oi hF); cases hF
     exact W_ret ⟨_, _, S_refl, _, rfl, rfl, ⟨rfl, fun _ => rfl⟩, (AgM.weak ⟨rfl, trivial⟩)⟩
   refine W_skip ?_; refine wB rfl ?_; exact cont_0 _ _ _ (oi hF) sw
 refine W_exit ?_; refine thenQ_exit ?_; refine thenQ_exit ?_; refine blockQ_hit ?_; exact brk_0 _ _ _ (oi hF) sw
def slices_ContainsFunc_api_Sample_api_Sample_k1 (p0 : (List api_Sample)) (p1_0 : api_Span) : Option Bool :=
  ((slices_IndexFunc_api_Sample_api_Sample_k1 p0 p1_0).bind fun r1 => some (decide (0 ≤ r1)))
theorem slices_ContainsFunc_api_Sample_api_Sample_k1_fun (p0 : (List api_Sample)) (p1_0 : api_Span) (r : Bool) (hF : slices_ContainsFunc_api_Sample_api_Sample_k1 p0 p1_0 = some r) : Fun Tryz.prog 81 false [(4240,0)] [cL 4 t_api_Sample p0, .c (.fn 82 [.ptr (4240,0)])] (heapOf [((4240,0), .box [jI p1_0.fFrom, jI p1_0.fTo])]) (cB r) (heapOf [((4240,0), .box [jI p1_0.fFrom, jI p1_0.fTo])]) := by
 refine Fun.of_walkM [(4240,0)] (some [(4240,0)]) Tryz.func81 c81 (by kernel_rfl) (rs := [.tmp 4]) (by kernel_rfl) rfl rfl rfl ?_; unfold v81
 unfold slices_ContainsFunc_api_Sample_api_Sample_k1 at hF
 refine wA rfl ?_; refine wC 2 rfl ?_; obtain ⟨r1, hr1, hF⟩ := bB hF
 refine rS (T_callO [((5640,0),(4240,0))] rfl (slices_IndexFunc_api_Sample_api_Sample_k1_fun _ _ _ hr1) ⟨rfl, trivial⟩ rfl rfl (.inr ⟨.inl rfl, .inl rfl, trivial⟩) ?_); refine QV rfl ?_; cases hF
 exact W_ret ⟨_, _, S_refl, _, rfl, rfl, ⟨rfl, fun _ => rfl⟩, (AgM.weak ⟨rfl, trivial⟩)⟩
def trace_outside_6_k1 (p0 : api_Step) (p1 : api_Span) : Option Bool :=
  ((trace_inside p1 p0.fAt).bind fun r1 => some (!r1))
theorem trace_outside_6_k1_fun (p0 : api_Step) (p1 : api_Span) (r : Bool) (hF : trace_outside_6_k1 p0 p1 = some r) : Fun Tryz.prog 84 true [] [.agg (m_api_Step p0), .c (.ptrI [tI p1.fFrom, tI p1.fTo])] noHeap (cB r) noHeap := by
 refine Fun.of_walk0 Tryz.func84 c84 (by kernel_rfl) (rs := [.tmp 3]) (by kernel_rfl) ?_; unfold v84
 unfold trace_outside_6_k1 at hF
 refine wA rfl ?_; refine wC 3 rfl ?_; obtain ⟨r1, hr1, hF⟩ := bB hF
 refine rS (T_call (trace_inside_fun _ _ _ hr1) ⟨⟨rfl, rfl, trivial⟩, rfl, trivial⟩ rfl (.inl rfl) ?_); refine QV rfl ?_; cases hF
 exact W_ret wR
def slices_IndexFunc_api_Step_api_Step_k1_L1 (p0 : (List api_Step)) (p1_0 : api_Span) : Int → Option (Int ⊕ (Unit ⊕ Int)) := fun a12 =>
  (bif (decide (a12 < (List.length p0 : Int))) then ((idx p0 a12).bind fun y17 => ((trace_outside_6_k1 y17 p1_0).bind fun r18 => (bif r18 then some (.inr (.inr a12)) else some (.inl (w64 (a12 + 1)))))) else some (.inr (.inl ())))
def slices_IndexFunc_api_Step_api_Step_k1 (p0 : (List api_Step)) (p1_0 : api_Span) : Option Int :=
  ((loop (slices_IndexFunc_api_Step_api_Step_k1_L1 p0 p1_0) 0).bind fun | .inl _ => some (-1) | .inr rv => some rv)
theorem slices_IndexFunc_api_Step_api_Step_k1_fun (p0 : (List api_Step)) (p1_0 : api_Span) (r : Int) (hF : slices_IndexFunc_api_Step_api_Step_k1 p0 p1_0 = some r) : Fun Tryz.prog 117 false [(5680,0)] [cL 3 t_api_Step p0, .c (.fn 84 [.ptr (5680,0)])] (heapOf [((5680,0), .box [jI p1_0.fFrom, jI p1_0.fTo])]) (cI r) (heapOf [((5680,0), .box [jI p1_0.fFrom, jI p1_0.fTo])]) := by
 refine Fun.of_walkM [(5680,0)] (some [(5680,0)]) Tryz.func117 c117 (by kernel_rfl) (rs := [.tmp 4]) (by kernel_rfl) rfl rfl rfl ?_; unfold v117
 unfold slices_IndexFunc_api_Step_api_Step_k1 at hF
 refine wA rfl ?_; refine W_seq ?_; refine wC 1 rfl ?_; refine rS (T_len (tc := t_api_Step) p0 .tree ?_); refine QV rfl ?_; refine W_for (fun _ _ h => h) hF (.inl) (fun a12 => [(0, cL 3 t_api_Step p0), (1, .c (.fn 84 [.ptr (5680,0)])), (7, cI (List.length p0 : Int)), (8, cI a12)]) (fun a12 => [((5680,0), .box [jI p1_0.fFrom, jI p1_0.fTo])]) (fun _ => []) (fun _ => [((5680,0), .box [jI p1_0.fFrom, jI p1_0.fTo])]) sw ?_ ?_
 · rintro ⟨⟩ hF
   refine wA rfl ?_; cases hF
   exact W_ret ⟨_, _, S_refl, _, rfl, rfl, ⟨rfl, fun _ => rfl⟩, (AgM.weak ⟨rfl, trivial⟩)⟩
 rintro a12 x_0 hF cont_0 brk_0 fin_0
 unfold slices_IndexFunc_api_Step_api_Step_k1_L1 at hF
 refine wA rfl ?_; refine W_seq ?_; refine wIf hF rfl (fun _ hF => ?_) fun _ hF => ?_
 · refine W_skip ?_; refine W_seq ?_; refine W_block ?_; refine wA rfl ?_; refine wC 3 rfl ?_; obtain ⟨y17, hy17, hF⟩ := bB hF
   refine rS (T_ixT (tc := t_api_Step) p0 rfl rfl hy17 ?_); refine Q_run SV 1 rfl ?_; obtain ⟨r18, hr18, hF⟩ := bB hF
   refine R_stepX trivial (X_call (callW _ rfl fnOk84) (trace_outside_6_k1_fun _ _ _ hr18) ⟨⟨rfl, rfl, rfl, trivial⟩, ⟨_, rfl, ⟨rfl, rfl, trivial⟩⟩, trivial⟩ rfl (.inl rfl) ?_); refine QV rfl ?_; refine wIf hF rfl (fun _ hF => ?_) fun _ hF => ?_
   · refine wA rfl ?_; have hF := fin_0 _ (oi hF); cases hF
     exact W_ret ⟨_, _, S_refl, _, rfl, rfl, ⟨rfl, fun _ => rfl⟩, (AgM.weak ⟨rfl, trivial⟩)⟩
   refine W_skip ?_; refine wB rfl ?_; exact cont_0 _ _ _ (oi hF) sw
 refine W_exit ?_; refine thenQ_exit ?_; refine thenQ_exit ?_; refine blockQ_hit ?_; exact brk_0 _ _ _ (oi hF) sw
def slices_ContainsFunc_api_Step_api_Step_k1 (p0 : (List api_Step)) (p1_0 : api_Span) : Option Bool :=
  ((slices_IndexFunc_api_Step_api_Step_k1 p0 p1_0).bind fun r1 => some (decide (0 ≤ r1)))
theorem slices_ContainsFunc_api_Step_api_Step_k1_fun (p0 : (List api_Step)) (p1_0 : api_Span) (r : Bool) (hF : slices_ContainsFunc_api_Step_api_Step_k1 p0 p1_0 = some r) : Fun Tryz.prog 83 false [(4320,0)] [cL 3 t_api_Step p0, .c (.fn 84 [.ptr (4320,0)])] (heapOf [((4320,0), .box [jI p1_0.fFrom, jI p1_0.fTo])]) (cB r) (heapOf [((4320,0), .box [jI p1_0.fFrom, jI p1_0.fTo])]) := by
 refine Fun.of_walkM [(4320,0)] (some [(4320,0)]) Tryz.func83 c83 (by kernel_rfl) (rs := [.tmp 4]) (by kernel_rfl) rfl rfl rfl ?_; unfold v83
 unfold slices_ContainsFunc_api_Step_api_Step_k1 at hF
 refine wA rfl ?_; refine wC 2 rfl ?_; obtain ⟨r1, hr1, hF⟩ := bB hF
 refine rS (T_callO [((5680,0),(4320,0))] rfl (slices_IndexFunc_api_Step_api_Step_k1_fun _ _ _ hr1) ⟨rfl, trivial⟩ rfl rfl (.inr ⟨.inl rfl, .inl rfl, trivial⟩) ?_); refine QV rfl ?_; cases hF
 exact W_ret ⟨_, _, S_refl, _, rfl, rfl, ⟨rfl, fun _ => rfl⟩, (AgM.weak ⟨rfl, trivial⟩)⟩
def trace_outside (p0 : api_Trace) : Option Bool :=
  ((((slices_ContainsFunc_api_Slice_api_Slice_k1 p0.fSlices p0.fSpan).bind fun r2 => (bif r2 then some true else ((slices_ContainsFunc_api_State_api_State_k1 p0.fStates p0.fSpan).bind fun r4 => (bif r4 then some true else ((slices_ContainsFunc_api_Block_api_Block_k1 p0.fBlocks p0.fSpan).bind fun r6 => (bif r6 then some true else ((slices_ContainsFunc_api_Flow_api_Flow_k1 p0.fFlows p0.fSpan).bind fun r8 => (bif r8 then some true else ((slices_ContainsFunc_api_Sample_api_Sample_k1 p0.fSamples p0.fSpan).bind fun r10 => (bif r10 then some true else ((slices_ContainsFunc_api_Step_api_Step_k1 p0.fSteps p0.fSpan).bind fun r12 => some r12))))))))))) : Option Bool).bind fun v1 => some v1)
theorem trace_outside_fun (p0 : api_Trace) (r : Bool) (hF : trace_outside p0 = some r) : Fun Tryz.prog 45 true [] [.agg (m_api_Trace p0)] noHeap (cB r) noHeap := by
 refine Fun.of_walk0 Tryz.func45 c45 (by kernel_rfl) (rs := [.tmp 2]) (by kernel_rfl) ?_; unfold v45
 unfold trace_outside at hF
 refine wA rfl ?_; refine wA rfl ?_; refine W_seq ?_; refine W_join (fun _ _ h => h) hF (fun v1 => [(2, cB v1)]) (fun v1 => []) ?_ ?_
 · rintro v1 hF
   cases hF
   exact W_ret wR
 intro join hF
 refine wD 3 rfl ?_; obtain ⟨r2, hr2, hF⟩ := bB' hF
 refine rS (T_callO [((3840,0),(3,0))] rfl (slices_ContainsFunc_api_Slice_api_Slice_k1_fun _ _ _ hr2) ⟨rfl, trivial⟩ rfl rfl (.inr ⟨.inl rfl, .inl rfl, trivial⟩) ?_); refine Q_run SV 1 rfl ?_; cases h3 : r2
 · have hF := bF' h3 hF; refine Q_run SV 3 rfl ?_; obtain ⟨r4, hr4, hF⟩ := bB' hF
   refine R_step SV rfl (T_callO [((3960,0),(3,0))] rfl (slices_ContainsFunc_api_State_api_State_k1_fun _ _ _ hr4) ⟨rfl, trivial⟩ rfl rfl (.inr ⟨.inl rfl, .inl rfl, trivial⟩) ?_); refine Q_run SV 2 rfl ?_
   cases h5 : r4
   · have hF := bF' h5 hF; refine Q_run SV 3 rfl ?_; obtain ⟨r6, hr6, hF⟩ := bB' hF
     refine R_step SV rfl (T_callO [((4040,0),(3,0))] rfl (slices_ContainsFunc_api_Block_api_Block_k1_fun _ _ _ hr6) ⟨rfl, trivial⟩ rfl rfl (.inr ⟨.inl rfl, .inl rfl, trivial⟩) ?_); refine Q_run SV 2 rfl ?_
     cases h7 : r6
     · have hF := bF' h7 hF; refine Q_run SV 3 rfl ?_; obtain ⟨r8, hr8, hF⟩ := bB' hF
       refine R_step SV rfl (T_callO [((4120,0),(3,0))] rfl (slices_ContainsFunc_api_Flow_api_Flow_k1_fun _ _ _ hr8) ⟨rfl, trivial⟩ rfl rfl (.inr ⟨.inl rfl, .inl rfl, trivial⟩) ?_); refine Q_run SV 2 rfl ?_; cases h9 : r8
       · have hF := bF' h9 hF; refine Q_run SV 3 rfl ?_; obtain ⟨r10, hr10, hF⟩ := bB' hF
         refine R_step SV rfl (T_callO [((4240,0),(3,0))] rfl (slices_ContainsFunc_api_Sample_api_Sample_k1_fun _ _ _ hr10) ⟨rfl, trivial⟩ rfl rfl (.inr ⟨.inl rfl, .inl rfl, trivial⟩) ?_); refine Q_run SV 2 rfl ?_
         cases h11 : r10
         · have hF := bF' h11 hF; refine Q_run SV 3 rfl ?_; obtain ⟨r12, hr12, hF⟩ := bB' hF
           refine R_step SV rfl (T_callO [((4320,0),(3,0))] rfl (slices_ContainsFunc_api_Step_api_Step_k1_fun _ _ _ hr12) ⟨rfl, trivial⟩ rfl rfl (.inr ⟨.inl rfl, .inl rfl, trivial⟩) ?_); refine QV rfl ?_; exact join r12 _ _ hF sw
         have hF := bT' h11 hF; refine QV rfl ?_; exact join true _ _ hF sw
       have hF := bT' h9 hF; refine QV rfl ?_; exact join true _ _ hF sw
     have hF := bT' h7 hF; refine QV rfl ?_; exact join true _ _ hF sw
   have hF := bT' h5 hF; refine QV rfl ?_; exact join true _ _ hF sw
 have hF := bT' h3 hF; refine QV rfl ?_; exact join true _ _ hF sw
def trace_Check (p0 : api_Trace) : Option Int :=
  ((trace_tables p0).bind fun r1 => (bif (!decide (r1 = 0)) then some r1 else (((bif (decide (p0.fSpan.fFrom < 0)) then some true else (bif (decide (p0.fSpan.fTo < p0.fSpan.fFrom)) then some true else some (decide (1000000000000 < p0.fSpan.fTo)))) : Option Bool).bind fun v2 => (bif v2 then some 2 else ((trace_outside p0).bind fun r3 => (bif r3 then some 10 else some 0))))))
theorem trace_Check_fun (p0 : api_Trace) (r : Int) (hF : trace_Check p0 = some r) : Fun Tryz.prog 36 true [] [.agg (m_api_Trace p0)] noHeap (cI r) noHeap := by
 refine Fun.of_walk0 Tryz.func36 c36 (by kernel_rfl) (rs := [.tmp 2]) (by kernel_rfl) ?_; unfold v36
 unfold trace_Check at hF
 refine wA rfl ?_; refine W_seq ?_; refine wC 1 rfl ?_; obtain ⟨r1, hr1, hF⟩ := bB hF
 refine rS (T_call (trace_tables_fun _ _ hr1) ⟨⟨rfl, rfl, rfl, rfl, rfl, rfl, rfl, rfl, rfl, rfl, trivial⟩, trivial⟩ rfl (.inl rfl) ?_); refine QV rfl ?_; refine wA rfl ?_; refine wIf hF rfl (fun _ hF => ?_) fun _ hF => ?_
 · refine wA rfl ?_; cases hF
   exact W_ret wR
 refine W_skip ?_; refine W_seq ?_; refine W_seq ?_; refine W_join (fun _ _ h => h) hF (fun v2 => [(1, cP (1,0) 0), (27, cB v2)]) (fun v2 => [((1,0), .box (m_api_Trace p0))]) ?_ ?_
 · rintro v2 hF
   refine wIf hF rfl (fun _ hF => ?_) fun _ hF => ?_
   · refine wA rfl ?_; cases hF
     exact W_ret wR
   refine W_skip ?_; refine W_seq ?_; refine wC 1 rfl ?_; obtain ⟨r3, hr3, hF⟩ := bB hF
   refine rS (T_call (trace_outside_fun _ _ hr3) ⟨⟨rfl, rfl, rfl, rfl, rfl, rfl, rfl, rfl, rfl, rfl, trivial⟩, trivial⟩ rfl (.inl rfl) ?_); refine QV rfl ?_; refine wIf hF rfl (fun _ hF => ?_) fun _ hF => ?_
   · refine wA rfl ?_; cases hF
     exact W_ret wR
   refine W_skip ?_; refine wA rfl ?_; cases hF
   exact W_ret wR
 intro join hF
 refine wD 5 rfl ?_; cases h6 : (decide (p0.fSpan.fFrom < 0))
 · have hF := bF' h6 hF; refine Q_run SV 9 rfl ?_; cases h7 : (decide (p0.fSpan.fTo < p0.fSpan.fFrom))
   · have hF := bF' h7 hF; refine QV rfl ?_; exact join (decide (1000000000000 < p0.fSpan.fTo)) _ _ hF sw
   have hF := bT' h7 hF; refine QV rfl ?_; exact join true _ _ hF sw
 have hF := bT' h6 hF; refine QV rfl ?_; exact join true _ _ hF sw
def critical_known_1_k1 (p0 : api_Thread) (p1 : Int) : Option Bool :=
  some (decide (p0.fId = p1))
theorem critical_known_1_k1_fun (p0 : api_Thread) (p1 : Int) (r : Bool) (hF : critical_known_1_k1 p0 p1 = some r) : Fun Tryz.prog 47 true [] [.agg (m_api_Thread p0), .c (.ptrI [tI p1])] noHeap (cB r) noHeap := by
 refine Fun.of_walk0 Tryz.func47 c47 (by kernel_rfl) (rs := [.tmp 3]) (by kernel_rfl) ?_; unfold v47
 unfold critical_known_1_k1 at hF
 refine wA rfl ?_; refine wA rfl ?_; cases hF
 exact W_ret wR
def slices_IndexFunc_api_Thread_api_Thread_k1_L1 (p0 : (List api_Thread)) (p1_0 : Int) : Int → Option (Int ⊕ (Unit ⊕ Int)) := fun a12 =>
  (bif (decide (a12 < (List.length p0 : Int))) then ((idx p0 a12).bind fun y17 => ((critical_known_1_k1 y17 p1_0).bind fun r18 => (bif r18 then some (.inr (.inr a12)) else some (.inl (w64 (a12 + 1)))))) else some (.inr (.inl ())))
def slices_IndexFunc_api_Thread_api_Thread_k1 (p0 : (List api_Thread)) (p1_0 : Int) : Option Int :=
  ((loop (slices_IndexFunc_api_Thread_api_Thread_k1_L1 p0 p1_0) 0).bind fun | .inl _ => some (-1) | .inr rv => some rv)
theorem slices_IndexFunc_api_Thread_api_Thread_k1_fun (p0 : (List api_Thread)) (p1_0 : Int) (r : Int) (hF : slices_IndexFunc_api_Thread_api_Thread_k1 p0 p1_0 = some r) : Fun Tryz.prog 85 false [(4400,0)] [cL 3 t_api_Thread p0, .c (.fn 47 [.ptr (4400,0)])] (heapOf [((4400,0), .box [jI p1_0])]) (cI r) (heapOf [((4400,0), .box [jI p1_0])]) := by
 refine Fun.of_walkM [(4400,0)] (some [(4400,0)]) Tryz.func85 c85 (by kernel_rfl) (rs := [.tmp 4]) (by kernel_rfl) rfl rfl rfl ?_; unfold v85
 unfold slices_IndexFunc_api_Thread_api_Thread_k1 at hF
 refine wA rfl ?_; refine W_seq ?_; refine wC 1 rfl ?_; refine rS (T_len (tc := t_api_Thread) p0 .tree ?_); refine QV rfl ?_; refine W_for (fun _ _ h => h) hF (.inl) (fun a12 => [(0, cL 3 t_api_Thread p0), (1, .c (.fn 47 [.ptr (4400,0)])), (7, cI (List.length p0 : Int)), (8, cI a12)]) (fun a12 => [((4400,0), .box [jI p1_0])]) (fun _ => []) (fun _ => [((4400,0), .box [jI p1_0])]) sw ?_ ?_
 · rintro ⟨⟩ hF
   refine wA rfl ?_; cases hF
   exact W_ret ⟨_, _, S_refl, _, rfl, rfl, ⟨rfl, fun _ => rfl⟩, (AgM.weak ⟨rfl, trivial⟩)⟩
 rintro a12 x_0 hF cont_0 brk_0 fin_0
 unfold slices_IndexFunc_api_Thread_api_Thread_k1_L1 at hF
 refine wA rfl ?_; refine W_seq ?_; refine wIf hF rfl (fun _ hF => ?_) fun _ hF => ?_
 · refine W_skip ?_; refine W_seq ?_; refine W_block ?_; refine wA rfl ?_; refine wC 3 rfl ?_; obtain ⟨y17, hy17, hF⟩ := bB hF
   refine rS (T_ixT (tc := t_api_Thread) p0 rfl rfl hy17 ?_); refine Q_run SV 1 rfl ?_; obtain ⟨r18, hr18, hF⟩ := bB hF
   refine R_stepX trivial (X_call (callW _ rfl fnOk47) (critical_known_1_k1_fun _ _ _ hr18) ⟨⟨rfl, rfl, rfl, trivial⟩, ⟨_, rfl, ⟨rfl, trivial⟩⟩, trivial⟩ rfl (.inl rfl) ?_); refine QV rfl ?_; refine wIf hF rfl (fun _ hF => ?_) fun _ hF => ?_
   · refine wA rfl ?_; have hF := fin_0 _ (oi hF); cases hF
     exact W_ret ⟨_, _, S_refl, _, rfl, rfl, ⟨rfl, fun _ => rfl⟩, (AgM.weak ⟨rfl, trivial⟩)⟩
   refine W_skip ?_; refine wB rfl ?_; exact cont_0 _ _ _ (oi hF) sw
 refine W_exit ?_; refine thenQ_exit ?_; refine thenQ_exit ?_; refine blockQ_hit ?_; exact brk_0 _ _ _ (oi hF) sw
def slices_ContainsFunc_api_Thread_api_Thread_k1 (p0 : (List api_Thread)) (p1_0 : Int) : Option Bool :=
  ((slices_IndexFunc_api_Thread_api_Thread_k1 p0 p1_0).bind fun r1 => some (decide (0 ≤ r1)))
theorem slices_ContainsFunc_api_Thread_api_Thread_k1_fun (p0 : (List api_Thread)) (p1_0 : Int) (r : Bool) (hF : slices_ContainsFunc_api_Thread_api_Thread_k1 p0 p1_0 = some r) : Fun Tryz.prog 46 false [(2840,0)] [cL 3 t_api_Thread p0, .c (.fn 47 [.ptr (2840,0)])] (heapOf [((2840,0), .box [jI p1_0])]) (cB r) (heapOf [((2840,0), .box [jI p1_0])]) := by
 refine Fun.of_walkM [(2840,0)] (some [(2840,0)]) Tryz.func46 c46 (by kernel_rfl) (rs := [.tmp 4]) (by kernel_rfl) rfl rfl rfl ?_; unfold v46
 unfold slices_ContainsFunc_api_Thread_api_Thread_k1 at hF
 refine wA rfl ?_; refine wC 2 rfl ?_; obtain ⟨r1, hr1, hF⟩ := bB hF
 refine rS (T_callO [((4400,0),(2840,0))] rfl (slices_IndexFunc_api_Thread_api_Thread_k1_fun _ _ _ hr1) ⟨rfl, trivial⟩ rfl rfl (.inr ⟨.inl rfl, .inl rfl, trivial⟩) ?_); refine QV rfl ?_; cases hF
 exact W_ret ⟨_, _, S_refl, _, rfl, rfl, ⟨rfl, fun _ => rfl⟩, (AgM.weak ⟨rfl, trivial⟩)⟩
def critical_known (p0 : api_Trace) (p1 : Int) : Option Bool :=
  ((slices_ContainsFunc_api_Thread_api_Thread_k1 p0.fThreads p1).bind fun r1 => some r1)
theorem critical_known_fun (p0 : api_Trace) (p1 : Int) (r : Bool) (hF : critical_known p0 p1 = some r) : Fun Tryz.prog 37 true [] [.agg (m_api_Trace p0), cI p1] noHeap (cB r) noHeap := by
 refine Fun.of_walk0 Tryz.func37 c37 (by kernel_rfl) (rs := [.tmp 4]) (by kernel_rfl) ?_; unfold v37
 unfold critical_known at hF
 refine wA rfl ?_; refine wC 3 rfl ?_; obtain ⟨r1, hr1, hF⟩ := bB hF
 refine rS (T_callO [((2840,0),(3,0))] rfl (slices_ContainsFunc_api_Thread_api_Thread_k1_fun _ _ _ hr1) ⟨rfl, trivial⟩ rfl rfl (.inr ⟨.inl rfl, .inl rfl, trivial⟩) ?_); refine QV rfl ?_; cases hF
 exact W_ret wR
def state_At_L1 (p0 : (List api_State)) (p1 : Int) (p2 : Int) : Int → Option (Int ⊕ (Unit ⊕ (api_State × Bool))) := fun a16 =>
  (bif (decide (a16 < (List.length p0 : Int))) then ((idx p0 a16).bind fun y23 => (((bif (decide (y23.fThread = p1)) then (bif (decide (y23.fSpan.fFrom ≤ p2)) then some (decide (p2 < y23.fSpan.fTo)) else some false) else some false) : Option Bool).bind fun v24 => (bif v24 then some (.inr (.inr (y23, true))) else some (.inl (w64 (a16 + 1)))))) else some (.inr (.inl ())))
def state_At (p0 : (List api_State)) (p1 : Int) (p2 : Int) : Option (api_State × Bool) :=
  ((loop (state_At_L1 p0 p1 p2) 0).bind fun | .inl _ => some (({ fThread := 0, fState := 0, fSpan := ({ fFrom := 0, fTo := 0 } : api_Span), fCpu := 0, fOn := 0, fBy := 0 } : api_State), false) | .inr rv => some rv)
theorem state_At_fun (p0 : (List api_State)) (p1 : Int) (p2 : Int) (r : (api_State × Bool)) (hF : state_At p0 p1 p2 = some r) : Fun Tryz.prog 21 true [] [cL 7 t_api_State p0, cI p1, cI p2] noHeap (.tup [.agg (m_api_State r.1), cB r.2]) noHeap := by
 refine Fun.of_walk0 Tryz.func21 c21 (by kernel_rfl) (rs := [.cell 6 7 true, .tmp 7]) (by kernel_rfl) ?_; unfold v21
 unfold state_At at hF
 refine wA rfl ?_; refine W_seq ?_; refine wC 1 rfl ?_; refine rS (T_len (tc := t_api_State) p0 .tree ?_); refine QV rfl ?_; refine W_for (fun _ _ h => h) hF (.inl) (fun a16 => [(1, cI p1), (2, cI p2), (6, cP (6,0) 0), (10, cL 7 t_api_State p0), (11, cI (List.length p0 : Int)), (12, cI a16)]) (fun a16 => [((6,0), .box [jI 0, jI 0, jI 0, jI 0, jI 0, jI 0, jI 0])]) (fun _ => [(6, cP (6,0) 0)]) (fun _ => [((6,0), .box [jI 0, jI 0, jI 0, jI 0, jI 0, jI 0, jI 0])]) sw ?_ ?_
 · rintro ⟨⟩ hF
   refine wA rfl ?_; cases hF
   exact W_ret ⟨_, rfl, rfl, ⟨⟨⟨rfl, fun _ => rfl⟩, ⟨rfl, fun _ => rfl⟩, ⟨rfl, fun _ => rfl⟩, ⟨rfl, fun _ => rfl⟩, ⟨rfl, fun _ => rfl⟩, ⟨rfl, fun _ => rfl⟩, ⟨rfl, fun _ => rfl⟩, trivial⟩, ⟨rfl, fun _ => rfl⟩, trivial⟩, noOut _⟩
 rintro a16 x_0 hF cont_0 brk_0 fin_0
 unfold state_At_L1 at hF
 refine wA rfl ?_; refine W_seq ?_; refine wIf hF rfl (fun _ hF => ?_) fun _ hF => ?_
 · refine W_skip ?_; refine W_seq ?_; refine W_block ?_; refine wE ?_; obtain ⟨y23, hy23, hF⟩ := bB hF
   refine rS (T_ixT (tc := t_api_State) p0 rfl rfl hy23 ?_); refine QV rfl ?_; refine W_seq ?_; refine W_join (fun _ _ h => h) hF (fun v24 => [(1, cI p1), (2, cI p2), (6, cP (6,0) 0), (9, cP (9,0) 0), (10, cL 7 t_api_State p0), (11, cI (List.length p0 : Int)), (12, cI a16), (33, cB v24)]) (fun v24 => [((6,0), .box [jI 0, jI 0, jI 0, jI 0, jI 0, jI 0, jI 0]), ((9,0), .box (m_api_State y23))]) ?_ ?_
   · rintro v24 hF
     refine wIf hF rfl (fun _ hF => ?_) fun _ hF => ?_
     · refine wA rfl ?_; have hF := fin_0 _ (oi hF); cases hF
       exact W_ret ⟨_, rfl, rfl, ⟨⟨⟨rfl, fun _ => rfl⟩, ⟨rfl, fun _ => rfl⟩, ⟨rfl, fun _ => rfl⟩, ⟨rfl, fun _ => rfl⟩, ⟨rfl, fun _ => rfl⟩, ⟨rfl, fun _ => rfl⟩, ⟨rfl, fun _ => rfl⟩, trivial⟩, ⟨rfl, fun _ => rfl⟩, trivial⟩, noOut _⟩
     refine W_skip ?_; refine wB rfl ?_; exact cont_0 _ _ _ (oi hF) sw
   intro join hF
   refine wD 5 rfl ?_; cases h26 : (decide (y23.fThread = p1))
   · have hF := bF' h26 hF; refine QV rfl ?_; exact join false _ _ hF sw
   have hF := bT' h26 hF; refine Q_run SV 7 rfl ?_; cases h27 : (decide (y23.fSpan.fFrom ≤ p2))
   · have hF := bF' h27 hF; refine QV rfl ?_; exact join false _ _ hF sw
   have hF := bT' h27 hF; refine QV rfl ?_; exact join (decide (p2 < y23.fSpan.fTo)) _ _ hF sw
 refine W_exit ?_; refine thenQ_exit ?_; refine thenQ_exit ?_; refine blockQ_hit ?_; exact brk_0 _ _ _ (oi hF) sw
def critical_check (p0 : api_Trace) (p1 : Int) (p2 : api_Span) : Option Int :=
  ((trace_Check p0).bind fun r1 => (bif (!decide (r1 = 0)) then some r1 else ((critical_known p0 p1).bind fun r2 => (bif (!r2) then some 5 else ((state_At p0.fStates p1 p2.fFrom).bind fun r3 => ((state_At p0.fStates p1 (w64 (p2.fTo - 1))).bind fun r4 => ((((spans_Valid p2).bind fun r7 => (bif (!r7) then some true else (bif (!r3.2) then some true else some (!r4.2)))) : Option Bool).bind fun v5 => (bif v5 then some 1 else some 0))))))))
theorem critical_check_fun (p0 : api_Trace) (p1 : Int) (p2 : api_Span) (r : Int) (hF : critical_check p0 p1 p2 = some r) : Fun Tryz.prog 19 true [] [.agg (m_api_Trace p0), cI p1, .agg [jI p2.fFrom, jI p2.fTo]] noHeap (cI r) noHeap := by
 refine Fun.of_walk0 Tryz.func19 c19 (by kernel_rfl) (rs := [.tmp 6]) (by kernel_rfl) ?_; unfold v19
 unfold critical_check at hF
 refine wA rfl ?_; refine W_seq ?_; refine wC 1 rfl ?_; obtain ⟨r1, hr1, hF⟩ := bB hF
 refine rS (T_call (trace_Check_fun _ _ hr1) ⟨⟨rfl, rfl, rfl, rfl, rfl, rfl, rfl, rfl, rfl, rfl, trivial⟩, trivial⟩ rfl (.inl rfl) ?_); refine QV rfl ?_; refine wA rfl ?_; refine wIf hF rfl (fun _ hF => ?_) fun _ hF => ?_
 · refine wA rfl ?_; cases hF
   exact W_ret wR
 refine W_skip ?_; refine W_seq ?_; refine wC 2 rfl ?_; obtain ⟨r2, hr2, hF⟩ := bB hF
 refine rS (T_call (critical_known_fun _ _ _ hr2) ⟨⟨rfl, rfl, rfl, rfl, rfl, rfl, rfl, rfl, rfl, rfl, trivial⟩, rfl, trivial⟩ rfl (.inl rfl) ?_); refine QV rfl ?_; refine wIf hF rfl (fun _ hF => ?_) fun _ hF => ?_
 · refine wA rfl ?_; cases hF
   exact W_ret wR
 refine W_skip ?_; refine wC 5 rfl ?_; obtain ⟨r3, hr3, hF⟩ := bB hF
 refine rS (T_call (state_At_fun _ _ _ _ hr3) ⟨rfl, rfl, rfl, trivial⟩ rfl (.inl rfl) ?_); refine QV rfl ?_; refine wC 6 rfl ?_; obtain ⟨r4, hr4, hF⟩ := bB hF
 refine rS (T_call (state_At_fun _ _ _ _ hr4) ⟨rfl, rfl, rfl, trivial⟩ rfl (.inl rfl) ?_); refine QV rfl ?_; refine W_seq ?_; refine W_seq ?_; refine W_join (fun _ _ h => h) hF (fun v5 => [(50, cB v5)]) (fun v5 => []) ?_ ?_
 · rintro v5 hF
   refine wIf hF rfl (fun _ hF => ?_) fun _ hF => ?_
   · refine wA rfl ?_; cases hF
     exact W_ret wR
   refine W_skip ?_; refine wA rfl ?_; cases hF
   exact W_ret wR
 intro join hF
 refine wD 1 rfl ?_; obtain ⟨r7, hr7, hF⟩ := bB' hF
 refine rS (T_call (spans_Valid_fun _ _ hr7) ⟨⟨rfl, rfl, trivial⟩, trivial⟩ rfl (.inl rfl) ?_); refine Q_run SV 2 rfl ?_; cases h8 : (!r7)
 · have hF := bF' h8 hF; refine Q_run SV 4 rfl ?_; cases h9 : (!r3.2)
   · have hF := bF' h9 hF; refine QV rfl ?_; exact join (!r4.2) _ _ hF sw
   have hF := bT' h9 hF; refine QV rfl ?_; exact join true _ _ hF sw
 have hF := bT' h8 hF; refine QV rfl ?_; exact join true _ _ hF sw
def critical_waker (p0 : api_Trace) (p1 : Int) (p2 : Int) : Option (Int × Bool) :=
  ((state_At p0.fStates p1 (w64 (p2 - 1))).bind fun r1 => (((bif (decide (r1.1.fState = 1)) then some true else some (decide (r1.1.fState = 2))) : Option Bool).bind fun v2 => (((bif (!r1.2) then some true else (bif (!v2) then some true else (bif (!decide (r1.1.fSpan.fTo = p2)) then some true else ((critical_known p0 r1.1.fBy).bind fun r8 => some (!r8))))) : Option Bool).bind fun v3 => (bif v3 then some (0, false) else some (r1.1.fBy, true)))))
theorem critical_waker_fun (p0 : api_Trace) (p1 : Int) (p2 : Int) (r : (Int × Bool)) (hF : critical_waker p0 p1 p2 = some r) : Fun Tryz.prog 20 true [] [.agg (m_api_Trace p0), cI p1, cI p2] noHeap (.tup [cI r.1, cB r.2]) noHeap := by
 refine Fun.of_walk0 Tryz.func20 c20 (by kernel_rfl) (rs := [.tmp 6, .tmp 7]) (by kernel_rfl) ?_; unfold v20
 unfold critical_waker at hF
 refine wA rfl ?_; refine wC 5 rfl ?_; obtain ⟨r1, hr1, hF⟩ := bB hF
 refine rS (T_call (state_At_fun _ _ _ _ hr1) ⟨rfl, rfl, rfl, trivial⟩ rfl (.inl rfl) ?_); refine QV rfl ?_; refine W_seq ?_; refine W_join (fun _ _ h => h) hF (fun v2 => [(2, cI p2), (3, cP (3,0) 0), (8, cP (8,0) 0), (9, cB r1.2), (10, cB v2)]) (fun v2 => [((3,0), .box (m_api_Trace p0)), ((8,0), .box (m_api_State r1.1))]) ?_ ?_
 · rintro v2 hF
   refine W_seq ?_; refine W_seq ?_; refine W_join (fun _ _ h => h) hF (fun v3 => [(8, cP (8,0) 0), (47, cB v3)]) (fun v3 => [((8,0), .box (m_api_State r1.1))]) ?_ ?_
   · rintro v3 hF
     refine wIf hF rfl (fun _ hF => ?_) fun _ hF => ?_
     · refine wA rfl ?_; cases hF
       exact W_ret ⟨_, rfl, rfl, ⟨⟨rfl, fun _ => rfl⟩, ⟨rfl, fun _ => rfl⟩, trivial⟩, noOut _⟩
     refine W_skip ?_; refine wA rfl ?_; cases hF
     exact W_ret ⟨_, rfl, rfl, ⟨⟨rfl, fun _ => rfl⟩, ⟨rfl, fun _ => rfl⟩, trivial⟩, noOut _⟩
   intro join hF
   refine wD 3 rfl ?_; cases h5 : (!r1.2)
   · have hF := bF' h5 hF; refine Q_run SV 4 rfl ?_; cases h6 : (!v2)
     · have hF := bF' h6 hF; refine Q_run SV 7 rfl ?_; cases h7 : (!decide (r1.1.fSpan.fTo = p2))
       · have hF := bF' h7 hF; refine Q_run SV 3 rfl ?_; obtain ⟨r8, hr8, hF⟩ := bB' hF
         refine R_step SV rfl (T_call (critical_known_fun _ _ _ hr8) ⟨⟨rfl, rfl, rfl, rfl, rfl, rfl, rfl, rfl, rfl, rfl, trivial⟩, rfl, trivial⟩ rfl (.inl rfl) ?_); refine QV rfl ?_; exact join (!r8) _ _ hF sw
       have hF := bT' h7 hF; refine QV rfl ?_; exact join true _ _ hF sw
     have hF := bT' h6 hF; refine QV rfl ?_; exact join true _ _ hF sw
   have hF := bT' h5 hF; refine QV rfl ?_; exact join true _ _ hF sw
 intro join hF
 refine wD 4 rfl ?_; cases h9 : (decide (r1.1.fState = 1))
 · have hF := bF' h9 hF; refine QV rfl ?_; exact join (decide (r1.1.fState = 2)) _ _ hF sw
 have hF := bT' h9 hF; refine QV rfl ?_; exact join true _ _ hF sw
def slices_Reverse_api_Hop_api_Hop_k1_L1  : ((List api_Hop) × Int × Int) → Option (((List api_Hop) × Int × Int) ⊕ (List api_Hop)) := fun (a20, a21, a22) =>
  (bif (decide (a21 < a22)) then ((idx a20 a22).bind fun y23 => ((idx a20 a21).bind fun y24 => ((idx a20 a21).bind fun y25 => ((idx (List.set a20 (Int.toNat a21) y23) a22).bind fun y26 => some (.inl ((List.set (List.set a20 (Int.toNat a21) y23) (Int.toNat a22) y24), (w64 (a21 + 1)), (w64 (a22 - 1)))))))) else some (.inr a20))
def slices_Reverse_api_Hop_api_Hop_k1 (p0 : (List api_Hop)) : Option (List api_Hop) :=
  (loop (slices_Reverse_api_Hop_api_Hop_k1_L1) (p0, 0, (w64 ((List.length p0 : Int) - 1))))
theorem slices_Reverse_api_Hop_api_Hop_k1_fun (p0 : (List api_Hop)) (r : (List api_Hop)) (hF : slices_Reverse_api_Hop_api_Hop_k1 p0 = some r) : Fun Tryz.prog 22 false [(1880,0)] [cO (1880,0)] (heapOf [((1880,0), .arr 49 4 (List.map t_api_Hop p0))]) (.tup []) (heapOf [((1880,0), .arr 49 4 (List.map t_api_Hop r))]) := by
 refine Fun.of_walkM [(1880,0)] (some [(1880,0)]) Tryz.func22 c22 (by kernel_rfl) (rs := []) (by kernel_rfl) rfl rfl rfl ?_; unfold v22
 unfold slices_Reverse_api_Hop_api_Hop_k1 at hF
 refine wC 1 rfl ?_; refine rS (T_len (tc := t_api_Hop) p0 (.own _ _ rfl) ?_); refine QV rfl ?_; refine W_for0 hF (fun (a20, a21, a22) => [(0, cO (1880,0)), (2, cI a21), (3, cI a22)]) (fun (a20, a21, a22) => [((1880,0), .arr 49 4 (List.map t_api_Hop a20))]) sw ?_
 rintro ⟨a20, a21, a22⟩ x_0 hF cont_0 fin_0
 unfold slices_Reverse_api_Hop_api_Hop_k1_L1 at hF
 refine W_seq ?_; refine wA rfl ?_; refine wIf hF rfl (fun _ hF => ?_) fun _ hF => ?_
 · refine W_skip ?_; refine W_seq ?_; refine W_block ?_; refine W_regD (by decide) (by kernel_rfl) rfl ?_; refine Q_run SP 6 rfl ?_; obtain ⟨y23, hy23, hF⟩ := bB hF
   refine R_step SP trivial (T_ixO (tc := t_api_Hop) a20 rfl rfl rfl hy23 ?_); refine R_step SP trivial (T_ldE (tc := t_api_Hop) a20 rfl rfl (idx_get hy23).2.1 rfl ?_); refine Q_run SP 2 rfl ?_; obtain ⟨y24, hy24, hF⟩ := bB hF
   refine R_step SP trivial (T_ixO (tc := t_api_Hop) a20 rfl rfl rfl hy24 ?_); refine R_step SP trivial (T_ldE (tc := t_api_Hop) a20 rfl rfl (idx_get hy24).2.1 rfl ?_); obtain ⟨y25, hy25, hF⟩ := bB hF
   refine R_step SP trivial (T_ixO (tc := t_api_Hop) a20 rfl rfl rfl hy25 ?_); refine R_step SP trivial (T_stE (tc := t_api_Hop) a20 y23 rfl rfl (idx_get hy25).2.1 rfl rfl rfl rfl rfl ?_); obtain ⟨y26, hy26, hF⟩ := bB hF
   refine R_step SP trivial (T_ixO (tc := t_api_Hop) (List.set a20 (Int.toNat a21) y23) rfl rfl rfl hy26 ?_); refine R_step SP trivial (T_stE (tc := t_api_Hop) (List.set a20 (Int.toNat a21) y23) y24 rfl rfl (idx_get hy26).2.1 rfl rfl rfl rfl rfl ?_)
   refine QP rfl ?_; refine wB rfl ?_; exact cont_0 _ _ _ (oi hF) sw
 refine W_exit ?_; refine thenQ_exit ?_; refine thenQ_exit ?_; refine blockQ_hit ?_; have hF := fin_0 _ (oi hF); cases hF
 exact ⟨_, _, S_refl, _, rfl, rfl, trivial, (AgM.weak ⟨rfl, trivial⟩)⟩
def critical_Path_L1 (p0 : api_Trace) (a89 : Int) : (Int × (List (Int × Bool)) × Int × Bool) → Option ((Int × (List (Int × Bool)) × Int × Bool) ⊕ Int) := fun (a151, a152, a153, a154) =>
  (((bif a154 then some (!(Option.getD (mget a153 a152) false)) else some false) : Option Bool).bind fun v163 => (bif v163 then ((critical_waker p0 a153 a89).bind fun r164 => some (.inl (a153, (mput a153 true a152), r164.1, r164.2))) else some (.inr a151)))
def critical_Path_L2 (p0 : api_Trace) (p2 : api_Span) : (Int × (List api_Hop) × Int) → Option ((Int × (List api_Hop) × Int) ⊕ ((List api_Hop) ⊕ ((List api_Hop) × Int))) := fun (a87, a88, a89) =>
  (bif (decide (p2.fFrom < a89)) then ((critical_waker p0 a87 a89).bind fun r130 => ((loop (critical_Path_L1 p0 a89) (a87, (mput a87 true []), r130.1, r130.2)).bind fun e159 => ((state_At p0.fStates e159 (w64 (a89 - 1))).bind fun r160 => (bif (!r160.2) then some (.inr (.inr ([], 1))) else (bif room 32 (List.length a88 + List.length [({ fThread := e159, fState := r160.1.fState, fSpan := ({ fFrom := (max r160.1.fSpan.fFrom p2.fFrom), fTo := a89 } : api_Span) } : api_Hop)]) then some (.inl (e159, (a88 ++ [({ fThread := e159, fState := r160.1.fState, fSpan := ({ fFrom := (max r160.1.fSpan.fFrom p2.fFrom), fTo := a89 } : api_Span) } : api_Hop)]), (max r160.1.fSpan.fFrom p2.fFrom))) else none))))) else some (.inr (.inl a88)))
def critical_Path (p0 : api_Trace) (p1 : Int) (p2 : api_Span) : Option ((List api_Hop) × Int) :=
  ((critical_check p0 p1 p2).bind fun r1 => (bif (!decide (r1 = 0)) then some ([], r1) else ((loop (critical_Path_L2 p0 p2) (p1, [], p2.fTo)).bind fun | .inl e128 => ((slices_Reverse_api_Hop_api_Hop_k1 e128).bind fun r129 => some (r129, 0)) | .inr rv => some rv)))
theorem critical_Path_fun (p0 : api_Trace) (p1 : Int) (p2 : api_Span) (r : ((List api_Hop) × Int)) (hF : critical_Path p0 p1 p2 = some r) : Fun Tryz.prog 8 false [] [.agg (m_api_Trace p0), cI p1, .agg [jI p2.fFrom, jI p2.fTo]] (heapOf []) (.tup [cO (902,320), cI r.2]) (heapOf [((902,320), .arr 49 4 (List.map t_api_Hop r.1))]) := by
 refine Fun.of_walkM [] (some []) Tryz.func8 c8 (by kernel_rfl) (rs := [.tmp 6, .tmp 7]) (by kernel_rfl) rfl rfl rfl ?_; unfold v8
 unfold critical_Path at hF
 refine wA rfl ?_; refine W_seq ?_; refine wC 3 rfl ?_; obtain ⟨r1, hr1, hF⟩ := bB hF
 refine rS (T_call (critical_check_fun _ _ _ _ hr1) ⟨⟨rfl, rfl, rfl, rfl, rfl, rfl, rfl, rfl, rfl, rfl, trivial⟩, rfl, ⟨rfl, rfl, trivial⟩, trivial⟩ rfl (.inl rfl) ?_); refine QV rfl ?_; refine wA rfl ?_
 refine wIf hF rfl (fun _ hF => ?_) fun _ hF => ?_
 · refine wA rfl ?_; cases hF
   exact W_ret ⟨_, _, (S_own 6 (902,320) 49 4 rfl rfl rfl rfl S_refl), _, rfl, rfl, ⟨rfl, ⟨rfl, fun _ => rfl⟩, trivial⟩, (AgM.weak ⟨rfl, trivial⟩)⟩
 refine W_skip ?_; refine wA rfl ?_; refine W_seq ?_; refine wA rfl ?_; refine W_for (fun _ _ h => h) hF (.inl) (fun (a87, a88, a89) => [(1, cI a87), (3, cP (3,0) 0), (5, cP (5,0) 0), (9, cO (83,1)), (10, cI a89)]) (fun (a87, a88, a89) => [((3,0), .box (m_api_Trace p0)), ((5,0), .box [jI p2.fFrom, jI p2.fTo]), ((83,1), .arr 49 4 (List.map t_api_Hop a88))]) (fun e128 => [(9, cO (83,1))]) (fun e128 => [((83,1), .arr 49 4 (List.map t_api_Hop e128))]) (S_own 9 (83,1) 49 4 rfl rfl rfl rfl sw) ?_ ?_
 · rintro e128 hF
   refine wC 1 rfl ?_; obtain ⟨r129, hr129, hF⟩ := bB hF
   refine R_stepX trivial (X_callG [((1880,0),(83,1))] rfl (callN _) (slices_Reverse_api_Hop_api_Hop_k1_fun _ _ hr129) ⟨rfl, trivial⟩ ⟨.inl rfl, trivial⟩ rfl rfl rfl ?_); refine QV rfl ?_; refine wA rfl ?_
   cases hF
   exact W_ret ⟨_, _, (S_ren (83,1) (902,320) rfl rfl S_refl), _, rfl, rfl, ⟨rfl, ⟨rfl, fun _ => rfl⟩, trivial⟩, (AgM.weak ⟨rfl, trivial⟩)⟩
 rintro ⟨a87, a88, a89⟩ x_0 hF cont_0 brk_0 fin_0
 unfold critical_Path_L2 at hF
 refine W_seq ?_; refine wA rfl ?_; refine wIf hF rfl (fun _ hF => ?_) fun _ hF => ?_
 · refine W_skip ?_; refine W_block ?_; refine wE ?_; refine rS (T_mkmap (kd := (.int .i64)) (kv := kvI) (vv := vvB) rfl ?_)
   refine Q_run SV 1 rfl ?_; refine rS (T_mupd (keyI .i64) (vv := vvB) [] a87 true rfl rfl rfl rfl ?_)
   refine QV rfl ?_; refine W_seq ?_; refine wC 3 rfl ?_; obtain ⟨r130, hr130, hF⟩ := bB hF
   refine rS (T_call (critical_waker_fun _ _ _ _ hr130) ⟨⟨rfl, rfl, rfl, rfl, rfl, rfl, rfl, rfl, rfl, rfl, trivial⟩, rfl, rfl, trivial⟩ rfl (.inl rfl) ?_); refine QV rfl ?_; refine W_for (fun _ _ h => h) hF (id) (fun (a151, a152, a153, a154) => [(1, cI a151), (3, cP (3,0) 0), (5, cP (5,0) 0), (9, cO (83,1)), (10, cI a89), (11, cM (30,0)), (12, cI a153), (13, cB a154)]) (fun (a151, a152, a153, a154) => [((3,0), .box (m_api_Trace p0)), ((5,0), .box [jI p2.fFrom, jI p2.fTo]), ((83,1), .arr 49 4 (List.map t_api_Hop a88)), ((30,0), mapOb (.int .i64) kvI vvB a152)]) (fun e159 => [(1, cI e159), (3, cP (3,0) 0), (5, cP (5,0) 0), (9, cO (83,1)), (10, cI a89)]) (fun e159 => [((3,0), .box (m_api_Trace p0)), ((5,0), .box [jI p2.fFrom, jI p2.fTo]), ((83,1), .arr 49 4 (List.map t_api_Hop a88))]) sw ?_ ?_
   · rintro e159 hF
     refine wC 5 rfl ?_; obtain ⟨r160, hr160, hF⟩ := bB hF
     refine rS (T_call (state_At_fun _ _ _ _ hr160) ⟨rfl, rfl, rfl, trivial⟩ rfl (.inl rfl) ?_); refine QV rfl ?_; refine W_seq ?_; refine wA rfl ?_; refine wIf hF rfl (fun _ hF => ?_) fun _ hF => ?_
     · refine wA rfl ?_; have hF := fin_0 _ (oi hF); cases hF
       exact W_ret ⟨_, _, (S_own 6 (902,320) 49 4 rfl rfl rfl rfl S_refl), _, rfl, rfl, ⟨rfl, ⟨rfl, fun _ => rfl⟩, trivial⟩, (AgM.weak ⟨rfl, trivial⟩)⟩
     refine W_skip ?_; refine wA rfl ?_; refine wC 2 rfl ?_; refine rS (T_bsl (tc := t_api_Hop) [({ fThread := e159, fState := r160.1.fState, fSpan := ({ fFrom := (max r160.1.fSpan.fFrom p2.fFrom), fTo := a89 } : api_Span) } : api_Hop)] rfl ⟨rfl, rfl, rfl, rfl, trivial⟩ rfl (fun _ => rfl) rfl ?_)
     obtain ⟨h161, hF⟩ := roomT hF
     refine rS (T_appO (tc := t_api_Hop) a88 [({ fThread := e159, fState := r160.1.fState, fSpan := ({ fFrom := (max r160.1.fSpan.fFrom p2.fFrom), fTo := a89 } : api_Span) } : api_Hop)] rfl rfl (.own _ _ rfl) h161 rfl ?_)
     refine QV rfl ?_; refine wB rfl ?_; exact cont_0 _ _ _ (oi hF) (S_ren (83,0) (83,1) rfl rfl sw)
   rintro ⟨a151, a152, a153, a154⟩ x_1 hF cont_1 brk_1 fin_1
   unfold critical_Path_L1 at hF
   refine W_seq ?_; refine W_seq ?_; refine W_join (fun _ _ h => h) hF (fun v163 => [(1, cI a151), (3, cP (3,0) 0), (5, cP (5,0) 0), (9, cO (83,1)), (10, cI a89), (11, cM (30,0)), (12, cI a153), (46, cB v163)]) (fun v163 => [((3,0), .box (m_api_Trace p0)), ((5,0), .box [jI p2.fFrom, jI p2.fTo]), ((83,1), .arr 49 4 (List.map t_api_Hop a88)), ((30,0), mapOb (.int .i64) kvI vvB a152)]) ?_ ?_
   · rintro v163 hF
     refine wIf hF rfl (fun _ hF => ?_) fun _ hF => ?_
     · refine W_skip ?_; refine W_seq ?_; refine W_block ?_; refine wA rfl ?_; refine wD 2 rfl ?_; refine rS (T_mupd (keyI .i64) (vv := vvB) a152 a153 true rfl rfl rfl rfl ?_)
       refine QV rfl ?_; refine wD 3 rfl ?_; obtain ⟨r164, hr164, hF⟩ := bB hF
       refine rS (T_call (critical_waker_fun _ _ _ _ hr164) ⟨⟨rfl, rfl, rfl, rfl, rfl, rfl, rfl, rfl, rfl, rfl, trivial⟩, rfl, rfl, trivial⟩ rfl (.inl rfl) ?_); refine QV rfl ?_; exact cont_1 _ _ _ (oi hF) sw
     refine W_exit ?_; refine thenQ_exit ?_; refine thenQ_exit ?_; refine blockQ_hit ?_; exact brk_1 _ _ _ (oi hF) sw
   intro join hF
   refine wD 2 rfl ?_; cases h166 : a154
   · have hF := bF' h166 hF; refine QV rfl ?_; exact join false _ _ hF sw
   have hF := bT' h166 hF; refine Q_run SV 2 rfl ?_; refine R_step SV rfl (T_look (keyI .i64) (vv := vvB) a152 a153 false (.own _ rfl) rfl rfl ?_)
   refine QV rfl ?_; exact join (!(Option.getD (mget a153 a152) false)) _ _ hF sw
 refine W_exit ?_; refine thenQ_exit ?_; refine thenQ_exit ?_; refine blockQ_hit ?_; exact brk_0 _ _ _ (oi hF) sw
def tracebookref48_Same_L1 (p0 : (List api_Hop)) (p1 : (List api_Hop)) : Int → Option (Int ⊕ (Unit ⊕ Bool)) := fun a12 =>
  (bif (decide (a12 < (List.length p0 : Int))) then ((idx p0 a12).bind fun y17 => ((idx p1 a12).bind fun y18 => (bif ((decide (y17.fThread = y18.fThread) && (decide (y17.fState = y18.fState) && (decide (y17.fSpan.fFrom = y18.fSpan.fFrom) && (decide (y17.fSpan.fTo = y18.fSpan.fTo) && true)))) != true) then some (.inr (.inr false)) else some (.inl (w64 (a12 + 1)))))) else some (.inr (.inl ())))
def tracebookref48_Same (p0 : (List api_Hop)) (p1 : (List api_Hop)) : Option Bool :=
  (bif (!decide ((List.length p0 : Int) = (List.length p1 : Int))) then some false else ((loop (tracebookref48_Same_L1 p0 p1) 0).bind fun | .inl _ => some true | .inr rv => some rv))
theorem tracebookref48_Same_fun (p0 : (List api_Hop)) (p1 : (List api_Hop)) (r : Bool) (hF : tracebookref48_Same p0 p1 = some r) : Fun Tryz.prog 10 true [] [cL 4 t_api_Hop p0, cL 4 t_api_Hop p1] noHeap (cB r) noHeap := by
 refine Fun.of_walk0 Tryz.func10 c10 (by kernel_rfl) (rs := [.tmp 4]) (by kernel_rfl) ?_; unfold v10
 unfold tracebookref48_Same at hF
 refine wA rfl ?_; refine W_seq ?_; refine wC 1 rfl ?_; refine rS (T_len (tc := t_api_Hop) p0 .tree ?_); refine Q_run SV 1 rfl ?_; refine rS (T_len (tc := t_api_Hop) p1 .tree ?_); refine QV rfl ?_; refine wIf hF rfl (fun _ hF => ?_) fun _ hF => ?_
 · refine wA rfl ?_; cases hF
   exact W_ret wR
 refine W_skip ?_; refine W_seq ?_; refine wA rfl ?_; refine W_for (fun _ _ h => h) hF (.inl) (fun a12 => [(0, cL 4 t_api_Hop p0), (1, cL 4 t_api_Hop p1), (5, cI a12)]) (fun a12 => []) (fun _ => []) (fun _ => []) sw ?_ ?_
 · rintro ⟨⟩ hF
   refine wA rfl ?_; cases hF
   exact W_ret wR
 rintro a12 x_0 hF cont_0 brk_0 fin_0
 unfold tracebookref48_Same_L1 at hF
 refine W_seq ?_; refine wC 2 rfl ?_; refine rS (T_len (tc := t_api_Hop) p0 .tree ?_); refine QV rfl ?_; refine wIf hF rfl (fun _ hF => ?_) fun _ hF => ?_
 · refine W_skip ?_; refine W_seq ?_; refine W_block ?_; refine W_seq ?_; refine W_regD (by decide) (by kernel_rfl) rfl ?_; refine Q_run SP 2 rfl ?_; obtain ⟨y17, hy17, hF⟩ := bB hF
   refine R_step SP trivial (T_ixT (tc := t_api_Hop) p0 rfl rfl hy17 ?_); refine Q_run SP 3 rfl ?_; obtain ⟨y18, hy18, hF⟩ := bB hF
   refine R_step SP trivial (T_ixT (tc := t_api_Hop) p1 rfl rfl hy18 ?_); refine Q_run SP 1 rfl ?_; refine R_step SP trivial (T_aeq (b := (decide (y17.fThread = y18.fThread) && (decide (y17.fState = y18.fState) && (decide (y17.fSpan.fFrom = y18.fSpan.fFrom) && (decide (y17.fSpan.fTo = y18.fSpan.fTo) && true))))) (eqOk_of (n := 4) (sh := [.int .i64, .int .i64, .int .i64, .int .i64]) Tryz.underlying48 (by kernel_rfl) (by kernel_rfl)) rfl rfl rfl rfl ?_)
   refine QP rfl ?_; refine wIf hF rfl (fun _ hF => ?_) fun _ hF => ?_
   · refine wA rfl ?_; have hF := fin_0 _ (oi hF); cases hF
     exact W_ret wR
   refine W_skip ?_; refine wB rfl ?_; exact cont_0 _ _ _ (oi hF) sw
 refine W_exit ?_; refine thenQ_exit ?_; refine thenQ_exit ?_; refine blockQ_hit ?_; exact brk_0 _ _ _ (oi hF) sw
def critical_within (p0 : api_Trace) (p1 : api_Hop) : Option Bool :=
  ((state_At p0.fStates p1.fThread p1.fSpan.fFrom).bind fun r1 => (((bif r1.2 then (bif (decide (r1.1.fState = p1.fState)) then some (decide (p1.fSpan.fTo ≤ r1.1.fSpan.fTo)) else some false) else some false) : Option Bool).bind fun v2 => some v2))
theorem critical_within_fun (p0 : api_Trace) (p1 : api_Hop) (r : Bool) (hF : critical_within p0 p1 = some r) : Fun Tryz.prog 33 true [] [.agg (m_api_Trace p0), .agg (m_api_Hop p1)] noHeap (cB r) noHeap := by
 refine Fun.of_walk0 Tryz.func33 c33 (by kernel_rfl) (rs := [.tmp 4]) (by kernel_rfl) ?_; unfold v33
 unfold critical_within at hF
 refine wA rfl ?_; refine wC 7 rfl ?_; obtain ⟨r1, hr1, hF⟩ := bB hF
 refine rS (T_call (state_At_fun _ _ _ _ hr1) ⟨rfl, rfl, rfl, trivial⟩ rfl (.inl rfl) ?_); refine QV rfl ?_; refine W_seq ?_; refine W_join (fun _ _ h => h) hF (fun v2 => [(4, cB v2)]) (fun v2 => []) ?_ ?_
 · rintro v2 hF
   cases hF
   exact W_ret wR
 intro join hF
 refine wD 2 rfl ?_; cases h3 : r1.2
 · have hF := bF' h3 hF; refine QV rfl ?_; exact join false _ _ hF sw
 have hF := bT' h3 hF; refine Q_run SV 7 rfl ?_; cases h4 : (decide (r1.1.fState = p1.fState))
 · have hF := bF' h4 hF; refine QV rfl ?_; exact join false _ _ hF sw
 have hF := bT' h4 hF; refine QV rfl ?_; exact join (decide (p1.fSpan.fTo ≤ r1.1.fSpan.fTo)) _ _ hF sw
def critical_comes_L1 (p0 : api_Trace) (p2 : Int) (p3 : Int) : (Int × (List (Int × Bool))) → Option ((Int × (List (Int × Bool))) ⊕ (Unit ⊕ Bool)) := fun (a15, a16) =>
  (bif (!(Option.getD (mget a15 a16) false)) then (bif (decide (a15 = p2)) then some (.inr (.inr true)) else ((critical_waker p0 a15 p3).bind fun r21 => (bif (!r21.2) then some (.inr (.inr false)) else some (.inl (r21.1, (mput a15 true a16)))))) else some (.inr (.inl ())))
def critical_comes (p0 : api_Trace) (p1 : Int) (p2 : Int) (p3 : Int) : Option Bool :=
  ((loop (critical_comes_L1 p0 p2 p3) (p1, [])).bind fun | .inl _ => some false | .inr rv => some rv)
end Go.VM
