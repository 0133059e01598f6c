/- What the functions of the law compute, each with its proof. -/
import Derived.Test.YtnngonjaoebkfaaGreatSrt
import Derived.Test.YtnngonjaoebkfaaGreatRows
import Derived.KernelRfl
import Derived.Lib.Bytealg
import Derived.Laws.Externs
import Derived.WalkKit
namespace Go.VM
open Go.Proofs Go.Proofs.YtnngonjaoebkfaaGreat
open Go.RowKit
set_option maxRecDepth 100000
set_option maxHeartbeats 4000000
structure api_Span where
  fFrom : Int
  fTo : Int
  deriving DecidableEq
structure api_Thread where
  fId : Int
  fName : ByteArray
  fDomain : Int
  deriving DecidableEq
abbrev m_api_Thread (x : api_Thread) : List C := [.imm (tI x.fId), .imm (.sc (.string x.fName)), .imm (tI x.fDomain)]
structure api_Slice where
  fThread : Int
  fParent : Int
  fDepth : Int
  fName : ByteArray
  fSpan : api_Span
  fSelf : Int
  fOpen : Bool
  deriving DecidableEq
abbrev m_api_Slice (x : api_Slice) : List C := [.imm (tI x.fThread), .imm (tI x.fParent), .imm (tI x.fDepth), .imm (.sc (.string x.fName)), .imm (tI x.fSpan.fFrom), .imm (tI x.fSpan.fTo), .imm (tI x.fSelf), .imm (.sc (.bool x.fOpen))]
structure api_State where
  fThread : Int
  fState : Int
  fSpan : api_Span
  fCpu : Int
  fOn : Int
  fBy : Int
  deriving DecidableEq
abbrev m_api_State (x : api_State) : List C := [.imm (tI x.fThread), .imm (tI x.fState), .imm (tI x.fSpan.fFrom), .imm (tI x.fSpan.fTo), .imm (tI x.fCpu), .imm (tI x.fOn), .imm (tI x.fBy)]
structure api_Id where
  fThread : Int
  fSerial : Int
  deriving DecidableEq
structure api_Flow where
  fId : Int
  fFrom : api_Id
  fTo : api_Id
  fSend : Int
  fRecv : Int
  deriving DecidableEq
abbrev m_api_Flow (x : api_Flow) : List C := [.imm (tI x.fId), .imm (tI x.fFrom.fThread), .imm (tI x.fFrom.fSerial), .imm (tI x.fTo.fThread), .imm (tI x.fTo.fSerial), .imm (tI x.fSend), .imm (tI x.fRecv)]
structure api_Sample where
  fThread : Int
  fAt : Int
  fWeight : Int
  fStack : (List ByteArray)
  deriving DecidableEq
structure api_Step where
  fName : ByteArray
  fAt : Int
  fValue : Int
  deriving DecidableEq
abbrev m_api_Step (x : api_Step) : List C := [.imm (.sc (.string x.fName)), .imm (tI x.fAt), .imm (tI x.fValue)]
structure api_Block where
  fId : Int
  fThread : Int
  fSize : Int
  fSpan : api_Span
  fStack : (List ByteArray)
  fLive : Bool
  deriving DecidableEq
structure api_Loss where
  fThread : Int
  fSpan : api_Span
  fCount : Int
  deriving DecidableEq
structure api_Trace where
  fSpan : api_Span
  fThreads : (List api_Thread)
  fSlices : (List api_Slice)
  fStates : (List api_State)
  fFlows : (List api_Flow)
  fSamples : (List api_Sample)
  fSteps : (List api_Step)
  fBlocks : (List api_Block)
  fLost : (List api_Loss)
  deriving DecidableEq
def t_api_Thread (x : api_Thread) : List T := [tI x.fId, .sc (.string x.fName), tI x.fDomain]
def t_api_Slice (x : api_Slice) : List T := [tI x.fThread, tI x.fParent, tI x.fDepth, .sc (.string x.fName), tI x.fSpan.fFrom, tI x.fSpan.fTo, tI x.fSelf, .sc (.bool x.fOpen)]
def t_api_State (x : api_State) : List T := [tI x.fThread, tI x.fState, tI x.fSpan.fFrom, tI x.fSpan.fTo, tI x.fCpu, tI x.fOn, tI x.fBy]
def t_api_Flow (x : api_Flow) : List T := [tI x.fId, tI x.fFrom.fThread, tI x.fFrom.fSerial, tI x.fTo.fThread, tI x.fTo.fSerial, tI x.fSend, tI x.fRecv]
def t_str (x : ByteArray) : List T := [.sc (.string x)]
abbrev m_api_Block (x : api_Block) : List C := [.imm (tI x.fId), .imm (tI x.fThread), .imm (tI x.fSize), .imm (tI x.fSpan.fFrom), .imm (tI x.fSpan.fTo), .imm (.sl 1 (List.map t_str x.fStack)), .imm (.sc (.bool x.fLive))]
abbrev m_api_Sample (x : api_Sample) : List C := [.imm (tI x.fThread), .imm (tI x.fAt), .imm (tI x.fWeight), .imm (.sl 1 (List.map t_str x.fStack))]
def t_api_Sample (x : api_Sample) : List T := [tI x.fThread, tI x.fAt, tI x.fWeight, .sl 1 (List.map t_str x.fStack)]
def t_api_Step (x : api_Step) : List T := [.sc (.string x.fName), tI x.fAt, tI x.fValue]
def t_api_Block (x : api_Block) : List T := [tI x.fId, tI x.fThread, tI x.fSize, tI x.fSpan.fFrom, tI x.fSpan.fTo, .sl 1 (List.map t_str x.fStack), .sc (.bool x.fLive)]
def t_api_Loss (x : api_Loss) : List T := [tI x.fThread, tI x.fSpan.fFrom, tI x.fSpan.fTo, tI x.fCount]
abbrev m_api_Trace (x : api_Trace) : List C := [.imm (tI x.fSpan.fFrom), .imm (tI x.fSpan.fTo), .imm (.sl 3 (List.map t_api_Thread x.fThreads)), .imm (.sl 8 (List.map t_api_Slice x.fSlices)), .imm (.sl 7 (List.map t_api_State x.fStates)), .imm (.sl 7 (List.map t_api_Flow x.fFlows)), .imm (.sl 4 (List.map t_api_Sample x.fSamples)), .imm (.sl 3 (List.map t_api_Step x.fSteps)), .imm (.sl 7 (List.map t_api_Block x.fBlocks)), .imm (.sl 4 (List.map t_api_Loss x.fLost))]
def t_i64 (x : Int) : List T := [tI x]
def v9 : VC := (.seq (.region none [vo 1 (.box 33 0), vo 2 (.mv (kB false))]) (.seq (.region none [vo 3 (.fld 2 1), vo 4 (.load 1 false 3), vo 5 (.lenS 4), vo 6 (.bin .leq 5 (kI 70)), vo 7 (.mv 6), vg 8 7 true (.fld 3 1), vg 9 7 true (.load 1 false 8), vg 10 7 true (.lenS 9), vg 11 7 true (.fld 4 1), vg 12 7 true (.load 1 false 11), vg 13 7 true (.lenS 12), vg 14 7 true (.bin .add 10 13), vg 15 7 true (.fld 5 1), vg 16 7 true (.load 1 false 15), vg 17 7 true (.lenS 16), vg 18 7 true (.bin .add 14 17), vg 19 7 true (.fld 6 1), vg 20 7 true (.load 1 false 19), vg 21 7 true (.lenS 20), vg 22 7 true (.bin .add 18 21), vg 23 7 true (.fld 7 1), vg 24 7 true (.load 1 false 23), vg 25 7 true (.lenS 24), vg 26 7 true (.bin .add 22 25), vg 27 7 true (.fld 8 1), vg 28 7 true (.load 1 false 27), vg 29 7 true (.lenS 28), vg 30 7 true (.bin .add 26 29), vg 31 7 true (.fld 9 1), vg 32 7 true (.load 1 false 31), vg 33 7 true (.lenS 32), vg 34 7 true (.bin .add 30 33), vg 35 7 true (.bin .leq 34 (kI 300)), vo 36 (.pick 7 35 (kB false)), vo 2 (.mv 36)]) .ret))
theorem c9 : (Tryz.f9.body.bind fun c => cCode Tryz.prog 37 c) = some v9 := by kernel_rfl
def v47 : VC := (.seq (.region none [vo 8 (.alloc 55 [(iI 0),(iI 0),(iI 0),(iI 0),(iI 0),(iI 0),(iI 0)])]) (.seq (.region none [vo 9 (.mv 0), vo 10 (.mv 1), vo 11 (.mv 2), vo 12 (.build [(iI 0),(iI 0)] [(0,1,10),(1,1,11)]), vo 13 (.mv 3), vo 14 (.build [(iI 0),(iI 0),(iI 0),(iI 0),(iI 0),(iI 0),(iI 0)] [(0,1,(kI 1)),(1,1,9),(2,2,12),(4,1,13),(5,1,(kI (-1))),(6,1,(kI (-1)))]), vp (.store 7 8 14)]) .ret))
theorem c47 : (Tryz.f47.body.bind fun c => cCode Tryz.prog 15 c) = some v47 := by kernel_rfl
def v26 : VC := (.seq (.region none [vo 0 (.alloc 33 [(iI 0),(iI 0),.nilS,.nilS,.nilS,.nilS,.nilS,.nilS,.nilS,.nilS])]) (.seq (.region none [vo 1 (.build [(iI 0),(iI 0)] [(0,1,(kI 0)),(1,1,(kI 9))]), vo 2 (.build [(iI 0),iS,(iI 0)] [(0,1,(kI 1)),(1,1,(.con (.c (.imm (.sc (.string ⟨#[120]⟩))))))]), vo 3 (.bsl 52 3 1 [(iI 0),iS,(iI 0)] [(0,3,2)]), vo 4 (.call 47 [(kI 0),(kI 0),(kI 4),(kI (-1))]), vo 5 (.call 47 [(kI 4),(kI 4),(kI 6),(kI 0)]), vo 6 (.call 47 [(kI 0),(kI 6),(kI 7),(kI (-1))]), vo 7 (.call 47 [(kI 3),(kI 7),(kI 9),(kI (-1))]), vo 8 (.bsl 55 7 4 [(iI 0),(iI 0),(iI 0),(iI 0),(iI 0),(iI 0),(iI 0)] [(0,7,4),(7,7,5),(14,7,6),(21,7,7)]), vo 9 (.build [(iI 0),(iI 0),.nilS,.nilS,.nilS,.nilS,.nilS,.nilS,.nilS,.nilS] [(0,2,1),(2,1,3),(4,1,8)]), vp (.store 10 0 9)]) .ret))
theorem c26 : (Tryz.f26.body.bind fun c => cCode Tryz.prog 10 c) = some v26 := by kernel_rfl
def v162 : VC := (.seq (.region none [vo 4 (.mv (kI 0))]) (.seq (.region none [vo 5 (.mv 0), vo 6 (.mv 1), vo 7 (.call 166 [5,6]), vo 4 (.mv 7)]) .ret))
theorem c162 : (Tryz.f162.body.bind fun c => cCode Tryz.prog 8 c) = some v162 := by kernel_rfl
def v144 : VC := (.seq (.region none [vo 2 (.mv (kB false))]) (.seq (.region none [vo 3 (.mv 0), vo 4 (.bin .geq 3 (.con (.c (.imm (.sc (.int .u8 97)))))), vo 5 (.mv 4), vg 6 5 true (.mv 0), vg 7 5 true (.bin .leq 6 (.con (.c (.imm (.sc (.int .u8 122)))))), vo 8 (.pick 5 7 (kB false)), vo 9 (.mv 8), vg 10 9 false (.mv 0), vg 11 9 false (.bin .geq 10 (.con (.c (.imm (.sc (.int .u8 65)))))), vg 12 9 false (.mv 11), vg 13 12 true (.mv 0), vg 14 12 true (.bin .leq 13 (.con (.c (.imm (.sc (.int .u8 90)))))), vg 15 9 false (.pick 12 14 (kB false)), vo 16 (.pick 9 (kB true) 15), vo 17 (.mv 16), vg 18 17 false (.mv 0), vg 19 17 false (.bin .geq 18 (.con (.c (.imm (.sc (.int .u8 48)))))), vg 20 17 false (.mv 19), vg 21 20 true (.mv 0), vg 22 20 true (.bin .leq 21 (.con (.c (.imm (.sc (.int .u8 57)))))), vg 23 17 false (.pick 20 22 (kB false)), vo 24 (.pick 17 (kB true) 23), vo 25 (.mv 24), vg 26 25 false (.mv 0), vg 27 25 false (.call 162 [(.con (.c (.imm (.sc (.string ⟨#[95,46,58,47,60,62,36,42,126,45]⟩))))),26]), vg 28 25 false (.bin .geq 27 (kI 0)), vo 29 (.pick 25 (kB true) 28), vo 2 (.mv 29)]) .ret))
theorem c144 : (Tryz.f144.body.bind fun c => cCode Tryz.prog 30 c) = some v144 := by kernel_rfl
def v109 : VC := (.seq (.region none [vo 2 (.mv (kI 0))]) (.seq (.seq (.region none [vo 4 (.mv 0), vo 5 (.bin .eql 4 (.con (.c iS))), vo 6 (.mv 5), vg 7 6 false (.mv 0), vg 8 6 false (.lenT 7), vg 9 6 false (.bin .gtr 8 (kI 40)), vo 10 (.pick 6 (kB true) 9)]) (.cond 10 (.seq (.region none [vo 2 (.mv (kI 3))]) .ret) .skip)) (.seq (.seq (.region none [vo 11 (.mv 0), vo 12 (.lenT 11), vo 13 (.mv (kI 0))]) (.block 0 (.loop (.seq (.region none [vo 14 (.bin .lss 13 12)]) (.seq (.cond 14 .skip (.exit 0)) (.seq (.block 1 (.seq (.region none [vo 15 (.mv 13), vo 3 (.mv 15)]) (.seq (.region none [vo 16 (.mv 0), vo 17 (.mv 3), vo 18 (.ixS 16 17), vo 19 (.call 144 [18]), vo 20 (.un .not 19)]) (.cond 20 (.seq (.region none [vo 2 (.mv (kI 3))]) .ret) .skip)))) (.region none [vo 21 (.bin .add 13 (kI 1)), vo 13 (.mv 21)]))))))) (.seq (.region none [vo 2 (.mv (kI 0))]) .ret))))
theorem c109 : (Tryz.f109.body.bind fun c => cCode Tryz.prog 22 c) = some v109 := by kernel_rfl
def v108 : VC := (.seq (.region none [vo 1 (.box 52 0), vo 2 (.mv (kI 0))]) (.seq (.seq (.region none [vo 3 (.fld 0 1), vo 4 (.load 1 false 3), vo 5 (.bin .lss 4 (kI 0)), vo 6 (.mv 5), vg 7 6 false (.fld 0 1), vg 8 6 false (.load 1 false 7), vg 9 6 false (.bin .gtr 8 (kI 1000000000000000)), vo 10 (.pick 6 (kB true) 9), vo 11 (.mv 10), vg 12 11 false (.fld 2 1), vg 13 11 false (.load 1 false 12), vg 14 11 false (.bin .lss 13 (kI 0)), vo 15 (.pick 11 (kB true) 14), vo 16 (.mv 15), vg 17 16 false (.fld 2 1), vg 18 16 false (.load 1 false 17), vg 19 16 false (.bin .geq 18 (kI 8)), vo 20 (.pick 16 (kB true) 19)]) (.cond 20 (.seq (.region none [vo 2 (.mv (kI 2))]) .ret) .skip)) (.seq (.region none [vo 21 (.fld 1 1), vo 22 (.load 1 false 21), vo 23 (.call 109 [22]), vo 2 (.mv 23)]) .ret)))
theorem c108 : (Tryz.f108.body.bind fun c => cCode Tryz.prog 24 c) = some v108 := by kernel_rfl
def v61 : VC := (.seq (.region none [vo 1 (.box 33 0), vo 2 (.mv (.con (.c .nilM))), vo 3 (.mv (kI 0))]) (.seq (.seq (.region none [vo 10 (.fld 2 1), vo 11 (.load 1 false 10), vo 12 (.lenS 11), vo 13 (.bin .gtr 12 (kI 64))]) (.cond 13 (.seq (.region none [vo 2 (.mv (.con (.c .nilM))), vo 3 (.mv (kI 7))]) .ret) .skip)) (.seq (.region none [vo 14 (.mkmap (.int .i64)), vo 4 (.mv 14)]) (.seq (.seq (.region none [vo 15 (.fld 2 1), vo 16 (.load 1 false 15), vo 17 (.lenS 16), vo 18 (.mv (kI 0))]) (.block 0 (.loop (.seq (.region none [vo 19 (.bin .lss 18 17)]) (.seq (.cond 19 .skip (.exit 0)) (.seq (.block 1 (.seq (.region none [vo 20 (.ixA 3 16 18), vo 21 (.load 3 true 20), vo 6 (.alloc 52 [(iI 0),iS,(iI 0)]), vp (.store 3 6 21)]) (.seq (.seq (.region none [vo 22 (.load 3 true 6), vo 23 (.call 108 [22]), vo 7 (.mv 23)]) (.seq (.region none [vo 24 (.mv 7), vo 25 (.bin .neq 24 (kI 0))]) (.cond 25 (.seq (.region none [vo 26 (.mv 7), vo 2 (.mv (.con (.c .nilM))), vo 3 (.mv 26)]) .ret) .skip))) (.seq (.seq (.region none [vo 28 (.mv 4), vo 29 (.fld 0 6), vo 30 (.load 1 false 29), vo 31 (.look (.int .i64) (.c iS) true 28 30), vo 27 (.mv 31), vo 32 (.ext 27 0), vo 33 (.ext 27 1), vo 8 (.mv 32), vo 9 (.mv 33)]) (.seq (.region none [vo 34 (.mv 9)]) (.cond 34 (.seq (.region none [vo 2 (.mv (.con (.c .nilM))), vo 3 (.mv (kI 4))]) .ret) .skip))) (.region none [vo 35 (.mv 4), vo 36 (.fld 0 6), vo 37 (.load 1 false 36), vo 38 (.fld 1 6), vo 39 (.load 1 false 38), vp (.mupd (.int .i64) 35 37 39)]))))) (.region none [vo 40 (.bin .add 18 (kI 1)), vo 18 (.mv 40)]))))))) (.seq (.region none [vo 41 (.mv 4), vo 2 (.mv 41), vo 3 (.mv (kI 0))]) .ret)))))
theorem c61 : (Tryz.f61.body.bind fun c => cCode Tryz.prog 42 c) = some v61 := by kernel_rfl
def v46 : VC := (.seq (.region none [vo 1 (.box 23 0), vo 2 (.mv (kB false))]) (.seq (.region none [vo 3 (.fld 0 1), vo 4 (.load 1 false 3), vo 5 (.bin .geq 4 (kI 0)), vo 6 (.mv 5), vg 7 6 true (.fld 0 1), vg 8 6 true (.load 1 false 7), vg 9 6 true (.fld 1 1), vg 10 6 true (.load 1 false 9), vg 11 6 true (.bin .lss 8 10), vo 12 (.pick 6 11 (kB false)), vo 13 (.mv 12), vg 14 13 true (.fld 1 1), vg 15 13 true (.load 1 false 14), vg 16 13 true (.bin .leq 15 (kI 1000000000000)), vo 17 (.pick 13 16 (kB false)), vo 2 (.mv 17)]) .ret))
theorem c46 : (Tryz.f46.body.bind fun c => cCode Tryz.prog 18 c) = some v46 := by kernel_rfl
def v54 : VC := (.seq (.region none [vo 2 (.mv (kB false))]) (.seq (.region none [vo 3 (.mv 0), vo 4 (.mv 0), vo 5 (.bin .neq 3 4), vo 2 (.mv 5)]) .ret))
theorem c54 : (Tryz.f54.body.bind fun c => cCode Tryz.prog 6 c) = some v54 := by kernel_rfl
def v39 : VC := (.seq (.region none [vo 4 (.mv (kI 0))]) (.seq (.region none [vo 7 (.mv 0), vo 8 (.call 54 [7]), vo 5 (.mv 8)]) (.seq (.region none [vo 9 (.mv 1), vo 10 (.call 54 [9]), vo 6 (.mv 10)]) (.seq (.seq (.region none [vo 11 (.mv 5)]) (.cond 11 (.seq (.seq (.region none [vo 12 (.mv 6)]) (.cond 12 (.seq (.region none [vo 4 (.mv (kI 0))]) .ret) .skip)) (.seq (.region none [vo 4 (.mv (kI (-1)))]) .ret)) .skip)) (.seq (.seq (.region none [vo 13 (.mv 6)]) (.cond 13 (.seq (.region none [vo 4 (.mv (kI 1))]) .ret) .skip)) (.seq (.seq (.region none [vo 14 (.mv 0), vo 15 (.mv 1), vo 16 (.bin .lss 14 15)]) (.cond 16 (.seq (.region none [vo 4 (.mv (kI (-1)))]) .ret) .skip)) (.seq (.seq (.region none [vo 17 (.mv 0), vo 18 (.mv 1), vo 19 (.bin .gtr 17 18)]) (.cond 19 (.seq (.region none [vo 4 (.mv (kI 1))]) .ret) .skip)) (.seq (.region none [vo 4 (.mv (kI 0))]) .ret))))))))
theorem c39 : (Tryz.f39.body.bind fun c => cCode Tryz.prog 20 c) = some v39 := by kernel_rfl
def v145 : VC := (.seq (.region none [vo 2 (.mv (kI 0))]) (.seq (.region none [vo 3 (.mv (kI 0))]) (.seq (.seq (.region none [vo 6 (.mv 0), vo 7 (.lenS 6), vo 8 (.mv (kI 0))]) (.block 0 (.loop (.seq (.region none [vo 9 (.bin .lss 8 7)]) (.seq (.cond 9 .skip (.exit 0)) (.seq (.block 1 (.seq (.region none [vo 10 (.ixA 1 6 8), vo 11 (.load 1 false 10), vo 5 (.mv 11)]) (.seq (.region none [vo 12 (.mv 5), vo 13 (.mv 3), vo 14 (.bin .neq 12 13)]) (.cond 14 (.seq (.region none [vo 15 (.mv 5), vo 2 (.mv 15)]) .ret) .skip)))) (.region none [vo 16 (.bin .add 8 (kI 1)), vo 8 (.mv 16)]))))))) (.seq (.region none [vo 17 (.mv 3), vo 2 (.mv 17)]) .ret))))
theorem c145 : (Tryz.f145.body.bind fun c => cCode Tryz.prog 18 c) = some v145 := by kernel_rfl
def v110 : VC := (.seq (.region none [vo 2 (.box 79 0), vo 3 (.box 79 1), vo 4 (.mv (kI 0))]) (.seq (.region (some [0,1,3,0,8,24,63,0,128,384,0,1024,3072,8191,0,16384,0,65536,262143,524287,1048575,2097151]) [vo 5 (.fld 4 2), vo 6 (.fld 0 5), vo 7 (.load 1 false 6), vo 8 (.fld 4 3), vo 9 (.fld 0 8), vo 10 (.load 1 false 9), vo 11 (.call 39 [7,10]), vo 12 (.fld 4 3), vo 13 (.fld 1 12), vo 14 (.load 1 false 13), vo 15 (.fld 4 2), vo 16 (.fld 1 15), vo 17 (.load 1 false 16), vo 18 (.call 39 [14,17]), vo 19 (.fld 0 2), vo 20 (.load 1 false 19), vo 21 (.fld 0 3), vo 22 (.load 1 false 21), vo 23 (.call 39 [20,22]), vo 24 (.bsl 3 1 3 [(iI 0)] [(0,1,11),(1,1,18),(2,1,23)]), vo 25 (.call 145 [24]), vo 4 (.mv 25)]) .ret))
theorem c110 : (Tryz.f110.body.bind fun c => cCode Tryz.prog 26 c) = some v110 := by kernel_rfl
def v111 : VC := (.seq (.region none [vo 2 (.mv (kB false))]) (.seq (.seq (.region none [vo 6 (.mv 0), vo 7 (.lenS 6), vo 8 (.mv (kI 0))]) (.block 0 (.loop (.seq (.region none [vo 9 (.bin .lss 8 7)]) (.seq (.cond 9 .skip (.exit 0)) (.seq (.block 1 (.seq (.region none [vo 10 (.mv 8), vo 11 (.ixA 8 6 8), vo 12 (.load 8 true 11), vo 4 (.alloc 79 [(iI 0),(iI 0),(iI 0),iS,(iI 0),(iI 0),(iI 0),(.imm (.sc (.bool false)))]), vo 3 (.mv 10), vp (.store 8 4 12)]) (.block 2 (.seq (.region none [vo 50 (.fld 1 4), vo 51 (.load 1 false 50), vo 52 (.bin .lss 51 (kI (-1))), vo 53 (.mv 52), vg 54 53 false (.fld 1 4), vg 55 53 false (.load 1 false 54), vg 56 53 false (.mv 3), vg 57 53 false (.bin .geq 55 56), vo 58 (.pick 53 (kB true) 57), vo 49 (.mv 58)]) (.cond 49 (.seq (.region none [vo 2 (.mv (kB false))]) .ret) (.seq (.region none [vo 60 (.fld 1 4), vo 61 (.load 1 false 60), vo 62 (.bin .eql 61 (kI (-1))), vo 59 (.mv 62)]) (.cond 59 (.seq (.region none [vo 63 (.fld 2 4), vo 64 (.load 1 false 63), vo 65 (.bin .neq 64 (kI 0))]) (.cond 65 (.seq (.region none [vo 2 (.mv (kB false))]) .ret) .skip)) (.seq (.region none [vo 13 (.mv 0), vo 14 (.fld 1 4), vo 15 (.load 1 false 14), vo 16 (.ixA 8 13 15), vo 17 (.load 8 true 16), vo 5 (.alloc 79 [(iI 0),(iI 0),(iI 0),iS,(iI 0),(iI 0),(iI 0),(.imm (.sc (.bool false)))]), vp (.store 8 5 17)]) (.seq (.region none [vo 18 (.fld 0 5), vo 19 (.load 1 false 18), vo 20 (.fld 0 4), vo 21 (.load 1 false 20), vo 22 (.bin .neq 19 21), vo 23 (.mv 22), vg 24 23 false (.fld 4 5), vg 25 23 false (.fld 0 24), vg 26 23 false (.load 1 false 25), vg 27 23 false (.fld 4 4), vg 28 23 false (.fld 0 27), vg 29 23 false (.load 1 false 28), vg 30 23 false (.bin .gtr 26 29), vo 31 (.pick 23 (kB true) 30), vo 32 (.mv 31), vg 33 32 false (.fld 4 5), vg 34 32 false (.fld 1 33), vg 35 32 false (.load 1 false 34), vg 36 32 false (.fld 4 4), vg 37 32 false (.fld 1 36), vg 38 32 false (.load 1 false 37), vg 39 32 false (.bin .lss 35 38), vo 40 (.pick 32 (kB true) 39), vo 41 (.mv 40), vg 42 41 false (.fld 2 4), vg 43 41 false (.load 1 false 42), vg 44 41 false (.fld 2 5), vg 45 41 false (.load 1 false 44), vg 46 41 false (.bin .add 45 (kI 1)), vg 47 41 false (.bin .neq 43 46), vo 48 (.pick 41 (kB true) 47)]) (.cond 48 (.seq (.region none [vo 2 (.mv (kB false))]) .ret) .skip)))))))))) (.region none [vo 66 (.bin .add 8 (kI 1)), vo 8 (.mv 66)]))))))) (.seq (.region none [vo 2 (.mv (kB true))]) .ret)))
theorem c111 : (Tryz.f111.body.bind fun c => cCode Tryz.prog 67 c) = some v111 := by kernel_rfl
def v146 : VC := (.seq (.region none [vo 6 (.mv (kB false))]) (.seq (.block 0 (.loop (.seq (.seq (.region none [vo 7 (.mv 2), vo 8 (.bin .geq 7 (kI 0))]) (.cond 8 .skip (.exit 0))) (.seq (.block 1 (.seq (.region none [vo 14 (.mv 1), vo 15 (.mv 2), vo 16 (.bin .eql 14 15)]) (.cond 16 (.seq (.region none [vo 6 (.mv (kB true))]) .ret) .skip))) (.region none [vo 9 (.mv 0), vo 10 (.mv 2), vo 11 (.ixA 8 9 10), vo 12 (.fld 1 11), vo 13 (.load 1 false 12), vo 2 (.mv 13)]))))) (.seq (.region none [vo 6 (.mv (kB false))]) .ret)))
theorem c146 : (Tryz.f146.body.bind fun c => cCode Tryz.prog 17 c) = some v146 := by kernel_rfl
def v112 : VC := (.seq (.region none [vo 2 (.mv (kB false))]) (.seq (.seq (.region none [vo 8 (.mv 0), vo 9 (.lenS 8), vo 10 (.mv (kI 0))]) (.block 0 (.loop (.seq (.region none [vo 11 (.bin .lss 10 9)]) (.seq (.cond 11 .skip (.exit 0)) (.seq (.block 1 (.seq (.region none [vo 12 (.mv 10), vo 13 (.ixA 8 8 10), vo 14 (.load 8 true 13), vo 4 (.alloc 79 [(iI 0),(iI 0),(iI 0),iS,(iI 0),(iI 0),(iI 0),(.imm (.sc (.bool false)))]), vo 3 (.mv 12), vp (.store 8 4 14)]) (.seq (.region none [vo 15 (.fld 4 4), vo 16 (.fld 1 15), vo 17 (.load 1 false 16), vo 18 (.fld 4 4), vo 19 (.fld 0 18), vo 20 (.load 1 false 19), vo 21 (.bin .sub 17 20), vo 5 (.mv 21)]) (.seq (.seq (.region none [vo 22 (.mv 0), vo 23 (.lenS 22), vo 24 (.mv (kI 0))]) (.block 2 (.loop (.seq (.region none [vo 25 (.bin .lss 24 23)]) (.seq (.cond 25 .skip (.exit 2)) (.seq (.block 3 (.seq (.region none [vo 26 (.mv 24), vo 27 (.ixA 8 22 24), vo 28 (.load 8 true 27), vo 7 (.alloc 79 [(iI 0),(iI 0),(iI 0),iS,(iI 0),(iI 0),(iI 0),(.imm (.sc (.bool false)))]), vo 6 (.mv 26), vp (.store 8 7 28)]) (.seq (.seq (.region none [vo 29 (.fld 1 7), vo 30 (.load 1 false 29), vo 31 (.mv 3), vo 32 (.bin .eql 30 31)]) (.cond 32 (.region none [vo 33 (.mv 5), vo 34 (.fld 4 7), vo 35 (.fld 1 34), vo 36 (.load 1 false 35), vo 37 (.fld 4 7), vo 38 (.fld 0 37), vo 39 (.load 1 false 38), vo 40 (.bin .sub 36 39), vo 41 (.bin .sub 33 40), vo 5 (.mv 41)]) .skip)) (.seq (.region none [vo 42 (.mv 6), vo 43 (.mv 3), vo 44 (.bin .lss 42 43), vo 45 (.mv 44), vg 46 45 true (.fld 0 7), vg 47 45 true (.load 1 false 46), vg 48 45 true (.fld 0 4), vg 49 45 true (.load 1 false 48), vg 50 45 true (.bin .eql 47 49), vo 51 (.pick 45 50 (kB false)), vo 52 (.mv 51), vg 53 52 true (.fld 4 7), vg 54 52 true (.fld 1 53), vg 55 52 true (.load 1 false 54), vg 56 52 true (.fld 4 4), vg 57 52 true (.fld 0 56), vg 58 52 true (.load 1 false 57), vg 59 52 true (.bin .gtr 55 58), vo 60 (.pick 52 59 (kB false)), vo 61 (.mv 60), vg 62 61 true (.fld 4 4), vg 63 61 true (.fld 1 62), vg 64 61 true (.load 1 false 63), vg 65 61 true (.fld 4 7), vg 66 61 true (.fld 0 65), vg 67 61 true (.load 1 false 66), vg 68 61 true (.bin .gtr 64 67), vo 69 (.pick 61 68 (kB false)), vo 70 (.mv 69), vg 71 70 true (.mv 0), vg 72 70 true (.mv 6), vg 73 70 true (.mv 3), vg 74 70 true (.call 146 [71,72,73]), vg 75 70 true (.un .not 74), vo 76 (.pick 70 75 (kB false))]) (.cond 76 (.seq (.region none [vo 2 (.mv (kB false))]) .ret) .skip))))) (.region none [vo 77 (.bin .add 24 (kI 1)), vo 24 (.mv 77)]))))))) (.seq (.region none [vo 78 (.fld 6 4), vo 79 (.load 1 false 78), vo 80 (.mv 5), vo 81 (.bin .neq 79 80)]) (.cond 81 (.seq (.region none [vo 2 (.mv (kB false))]) .ret) .skip)))))) (.region none [vo 82 (.bin .add 10 (kI 1)), vo 10 (.mv 82)]))))))) (.seq (.region none [vo 2 (.mv (kB true))]) .ret)))
theorem c112 : (Tryz.f112.body.bind fun c => cCode Tryz.prog 83 c) = some v112 := by kernel_rfl
def v63 : VC := (.seq (.region none [vo 2 (.mv (kI 0))]) (.seq (.seq (.region none [vo 6 (.mv 0), vo 7 (.lenS 6), vo 8 (.mv (kI 0))]) (.block 0 (.loop (.seq (.region none [vo 9 (.bin .lss 8 7)]) (.seq (.cond 9 .skip (.exit 0)) (.seq (.block 1 (.seq (.region none [vo 10 (.mv 8), vo 11 (.ixA 8 6 8), vo 12 (.load 8 true 11), vo 4 (.alloc 79 [(iI 0),(iI 0),(iI 0),iS,(iI 0),(iI 0),(iI 0),(.imm (.sc (.bool false)))]), vo 3 (.mv 10), vp (.store 8 4 12)]) (.seq (.seq (.region none [vo 13 (.fld 0 4), vo 14 (.load 1 false 13), vo 15 (.bin .lss 14 (kI 0)), vo 16 (.mv 15), vg 17 16 false (.fld 0 4), vg 18 16 false (.load 1 false 17), vg 19 16 false (.bin .gtr 18 (kI 1000000000000000)), vo 20 (.pick 16 (kB true) 19), vo 21 (.mv 20), vg 22 21 false (.fld 4 4), vg 23 21 false (.load 2 true 22), vg 24 21 false (.call 46 [23]), vg 25 21 false (.un .not 24), vo 26 (.pick 21 (kB true) 25)]) (.cond 26 (.seq (.region none [vo 2 (.mv (kI 2))]) .ret) .skip)) (.seq (.seq (.region none [vo 27 (.fld 3 4), vo 28 (.load 1 false 27), vo 29 (.call 109 [28]), vo 5 (.mv 29)]) (.seq (.region none [vo 30 (.mv 5), vo 31 (.bin .neq 30 (kI 0))]) (.cond 31 (.seq (.region none [vo 32 (.mv 5), vo 2 (.mv 32)]) .ret) .skip))) (.seq (.region (some [0,1,3,7,7,23,63,127,7,511,1023,2047]) [vo 33 (.mv 3), vo 34 (.bin .gtr 33 (kI 0)), vo 35 (.mv 34), vg 36 35 true (.mv 0), vg 37 35 true (.mv 3), vg 38 35 true (.bin .sub 37 (kI 1)), vg 39 35 true (.ixA 8 36 38), vg 40 35 true (.load 8 true 39), vg 41 35 true (.load 8 true 4), vg 42 35 true (.call 110 [40,41]), vg 43 35 true (.bin .gtr 42 (kI 0)), vo 44 (.pick 35 43 (kB false))]) (.cond 44 (.seq (.region none [vo 2 (.mv (kI 11))]) .ret) .skip)))))) (.region none [vo 45 (.bin .add 8 (kI 1)), vo 8 (.mv 45)]))))))) (.seq (.seq (.region none [vo 46 (.mv 0), vo 47 (.call 111 [46]), vo 48 (.un .not 47), vo 49 (.mv 48), vg 50 49 false (.mv 0), vg 51 49 false (.call 112 [50]), vg 52 49 false (.un .not 51), vo 53 (.pick 49 (kB true) 52)]) (.cond 53 (.seq (.region none [vo 2 (.mv (kI 10))]) .ret) .skip)) (.seq (.region none [vo 2 (.mv (kI 0))]) .ret))))
theorem c63 : (Tryz.f63.body.bind fun c => cCode Tryz.prog 54 c) = some v63 := by kernel_rfl
def v64 : VC := (.seq (.region none [vo 1 (.box 79 0), vo 2 (.mv (kI 0))]) (.seq (.region none [vo 3 (.fld 0 1), vo 4 (.load 1 false 3), vo 2 (.mv 4)]) .ret))
theorem c64 : (Tryz.f64.body.bind fun c => cCode Tryz.prog 5 c) = some v64 := by kernel_rfl
def v62 : VC := (.seq (.region none [vo 8 (.mv (kI 0))]) (.seq (.seq (.region none [vo 13 (.mv 0), vo 14 (.bin .neq 13 (kI 0))]) (.cond 14 (.seq (.region none [vo 15 (.mv 0), vo 8 (.mv 15)]) .ret) .skip)) (.seq (.seq (.region none [vo 16 (.mv 2), vo 17 (.lenS 16), vo 18 (.mv (kI 0))]) (.block 0 (.loop (.seq (.region none [vo 19 (.bin .lss 18 17)]) (.seq (.cond 19 .skip (.exit 0)) (.seq (.block 1 (.seq (.region none [vo 20 (.ixA 8 16 18), vo 21 (.load 8 true 20), vo 10 (.alloc 79 [(iI 0),(iI 0),(iI 0),iS,(iI 0),(iI 0),(iI 0),(.imm (.sc (.bool false)))]), vp (.store 8 10 21)]) (.seq (.region none [vo 23 (.mv 1), vo 24 (.mv 3), vo 25 (.load 8 true 10), vo 26 (.callv 24 [25]), vo 27 (.look (.int .i64) (.c iS) true 23 26), vo 22 (.mv 27), vo 28 (.ext 22 0), vo 29 (.ext 22 1), vo 11 (.mv 28), vo 12 (.mv 29)]) (.seq (.region none [vo 30 (.mv 12), vo 31 (.un .not 30)]) (.cond 31 (.seq (.region none [vo 8 (.mv (kI 5))]) .ret) .skip))))) (.region none [vo 32 (.bin .add 18 (kI 1)), vo 18 (.mv 32)]))))))) (.seq (.region none [vo 8 (.mv (kI 0))]) .ret))))
theorem c62 : (Tryz.f62.body.bind fun c => cCode Tryz.prog 33 c) = some v62 := by kernel_rfl
def v114 : VC := (.seq (.region none [vo 4 (.mv (kI 0))]) (.seq (.seq (.region none [vo 6 (.mv 0), vo 7 (.lenS 6), vo 8 (.mv (kI 0))]) (.block 0 (.loop (.seq (.region none [vo 9 (.bin .lss 8 7)]) (.seq (.cond 9 .skip (.exit 0)) (.seq (.block 1 (.seq (.region none [vo 10 (.mv 8), vo 5 (.mv 10)]) (.seq (.region none [vo 11 (.mv 1), vo 12 (.mv 0), vo 13 (.mv 5), vo 14 (.ixA 1 12 13), vo 15 (.load 1 false 14), vo 16 (.bin .eql 11 15)]) (.cond 16 (.seq (.region none [vo 17 (.mv 5), vo 4 (.mv 17)]) .ret) .skip)))) (.region none [vo 18 (.bin .add 8 (kI 1)), vo 8 (.mv 18)]))))))) (.seq (.region none [vo 4 (.mv (kI (-1)))]) .ret)))
theorem c114 : (Tryz.f114.body.bind fun c => cCode Tryz.prog 19 c) = some v114 := by kernel_rfl
def v147 : VC := (.seq (.region none [vo 4 (.mv (kB false))]) (.seq (.region none [vo 5 (.mv 0), vo 6 (.mv 1), vo 7 (.call 114 [5,6]), vo 8 (.bin .geq 7 (kI 0)), vo 4 (.mv 8)]) .ret))
theorem c147 : (Tryz.f147.body.bind fun c => cCode Tryz.prog 9 c) = some v147 := by kernel_rfl
def v113 : VC := (.seq (.region none [vo 2 (.mv (.con (.c .nilS)))]) (.seq (.region none [vo 3 (.mv (.con (.c .nilS)))]) (.seq (.seq (.region none [vo 6 (.mv 0), vo 7 (.lenS 6), vo 8 (.mv (kI 0))]) (.block 0 (.loop (.seq (.region none [vo 9 (.bin .lss 8 7)]) (.seq (.cond 9 .skip (.exit 0)) (.seq (.block 1 (.seq (.region none [vo 10 (.ixA 3 6 8), vo 11 (.load 3 true 10), vo 5 (.alloc 52 [(iI 0),iS,(iI 0)]), vp (.store 3 5 11)]) (.seq (.region none [vo 12 (.mv 3), vo 13 (.fld 0 5), vo 14 (.load 1 false 13), vo 15 (.call 147 [12,14]), vo 16 (.un .not 15)]) (.cond 16 (.region none [vo 17 (.mv 3), vo 18 (.fld 0 5), vo 19 (.load 1 false 18), vo 20 (.bsl 3 1 1 [(iI 0)] [(0,1,19)]), vo 21 (.app 3 1 8 17 20), vo 3 (.mv 21)]) .skip)))) (.region none [vo 22 (.bin .add 8 (kI 1)), vo 8 (.mv 22)]))))))) (.seq (.region none [vo 23 (.mv 3), vo 2 (.mv 23)]) .ret))))
theorem c113 : (Tryz.f113.body.bind fun c => cCode Tryz.prog 24 c) = some v113 := by kernel_rfl
def v115 : VC := (.seq (.region none [vo 1 (.box 55 0), vo 2 (.mv (kB false))]) (.seq (.region none [vo 4 (.fld 1 1), vo 5 (.load 1 false 4), vo 6 (.bin .eql 5 (kI 1)), vo 7 (.mv 6), vg 8 7 false (.fld 1 1), vg 9 7 false (.load 1 false 8), vg 10 7 false (.bin .eql 9 (kI 2)), vo 11 (.pick 7 (kB true) 10), vo 3 (.mv 11)]) (.seq (.block 0 (.seq (.region none [vo 13 (.fld 1 1), vo 14 (.load 1 false 13), vo 15 (.bin .lss 14 (kI 0)), vo 16 (.mv 15), vg 17 16 false (.fld 1 1), vg 18 16 false (.load 1 false 17), vg 19 16 false (.bin .gtr 18 (kI 5)), vo 20 (.pick 16 (kB true) 19), vo 12 (.mv 20)]) (.cond 12 (.seq (.region none [vo 2 (.mv (kB false))]) .ret) (.seq (.seq (.region none [vo 22 (.fld 1 1), vo 23 (.load 1 false 22), vo 24 (.bin .eql 23 (kI 4)), vo 25 (.mv 24), vg 26 25 true (.fld 4 1), vg 27 25 true (.load 1 false 26), vg 28 25 true (.bin .lss 27 (kI 0)), vg 29 25 true (.mv 28), vg 30 29 false (.fld 4 1), vg 31 29 false (.load 1 false 30), vg 32 29 false (.bin .geq 31 (kI 64)), vg 33 25 true (.pick 29 (kB true) 32), vo 34 (.pick 25 33 (kB false)), vo 21 (.mv 34)]) (.cond 21 .skip (.region none [vo 35 (.fld 1 1), vo 36 (.load 1 false 35), vo 37 (.bin .neq 36 (kI 4)), vo 38 (.mv 37), vg 39 38 true (.fld 4 1), vg 40 38 true (.load 1 false 39), vg 41 38 true (.bin .neq 40 (kI (-1))), vo 42 (.pick 38 41 (kB false)), vo 21 (.mv 42)]))) (.cond 21 (.seq (.region none [vo 2 (.mv (kB false))]) .ret) (.seq (.seq (.region none [vo 44 (.fld 1 1), vo 45 (.load 1 false 44), vo 46 (.bin .eql 45 (kI 2)), vo 47 (.mv 46), vg 48 47 true (.fld 5 1), vg 49 47 true (.load 1 false 48), vg 50 47 true (.bin .lss 49 (kI 0)), vg 51 47 true (.mv 50), vg 52 51 false (.fld 5 1), vg 53 51 false (.load 1 false 52), vg 54 51 false (.bin .gtr 53 (kI 1000000000000000)), vg 55 47 true (.pick 51 (kB true) 54), vo 56 (.pick 47 55 (kB false)), vo 43 (.mv 56)]) (.cond 43 .skip (.region none [vo 57 (.fld 1 1), vo 58 (.load 1 false 57), vo 59 (.bin .neq 58 (kI 2)), vo 60 (.mv 59), vg 61 60 true (.fld 5 1), vg 62 60 true (.load 1 false 61), vg 63 60 true (.bin .neq 62 (kI (-1))), vo 64 (.pick 60 63 (kB false)), vo 43 (.mv 64)]))) (.cond 43 (.seq (.region none [vo 2 (.mv (kB false))]) .ret) .skip))))))) (.seq (.region none [vo 65 (.fld 6 1), vo 66 (.load 1 false 65), vo 67 (.bin .eql 66 (kI (-1))), vo 68 (.mv 67), vg 69 68 false (.mv 3), vg 70 68 false (.mv 69), vg 71 70 true (.fld 6 1), vg 72 70 true (.load 1 false 71), vg 73 70 true (.bin .geq 72 (kI 0)), vg 74 68 false (.pick 70 73 (kB false)), vg 75 68 false (.mv 74), vg 76 75 true (.fld 6 1), vg 77 75 true (.load 1 false 76), vg 78 75 true (.bin .leq 77 (kI 1000000000000000)), vg 79 68 false (.pick 75 78 (kB false)), vo 80 (.pick 68 (kB true) 79), vo 2 (.mv 80)]) .ret))))
theorem c115 : (Tryz.f115.body.bind fun c => cCode Tryz.prog 81 c) = some v115 := by kernel_rfl
def v116 : VC := (.seq (.region none [vo 2 (.box 55 0), vo 3 (.box 55 1), vo 4 (.mv (kB false))]) (.seq (.region none [vo 5 (.fld 1 2), vo 6 (.load 1 false 5), vo 7 (.fld 1 3), vo 8 (.load 1 false 7), vo 9 (.bin .eql 6 8), vo 10 (.mv 9), vg 11 10 true (.fld 4 2), vg 12 10 true (.load 1 false 11), vg 13 10 true (.fld 4 3), vg 14 10 true (.load 1 false 13), vg 15 10 true (.bin .eql 12 14), vo 16 (.pick 10 15 (kB false)), vo 17 (.mv 16), vg 18 17 true (.fld 5 2), vg 19 17 true (.load 1 false 18), vg 20 17 true (.fld 5 3), vg 21 17 true (.load 1 false 20), vg 22 17 true (.bin .eql 19 21), vo 23 (.pick 17 22 (kB false)), vo 4 (.mv 23)]) .ret))
theorem c116 : (Tryz.f116.body.bind fun c => cCode Tryz.prog 24 c) = some v116 := by kernel_rfl
def v65 : VC := (.seq (.region none [vo 4 (.mv (kI 0))]) (.seq (.region none [vo 14 (.mv 0), vo 15 (.call 113 [14]), vo 5 (.mv 15)]) (.seq (.region none [vo 6 (.mv (kI (-1)))]) (.seq (.seq (.region none [vo 16 (.mv 1), vo 17 (.lenS 16), vo 18 (.mv (kI 0))]) (.block 0 (.loop (.seq (.region none [vo 19 (.bin .lss 18 17)]) (.seq (.cond 19 .skip (.exit 0)) (.seq (.block 1 (.seq (.region none [vo 20 (.mv 18), vo 21 (.ixA 7 16 18), vo 22 (.load 7 true 21), vo 8 (.alloc 55 [(iI 0),(iI 0),(iI 0),(iI 0),(iI 0),(iI 0),(iI 0)]), vo 7 (.mv 20), vp (.store 7 8 22)]) (.seq (.region none [vo 23 (.mv 5), vo 24 (.fld 0 8), vo 25 (.load 1 false 24), vo 26 (.call 114 [23,25]), vo 9 (.mv 26)]) (.seq (.block 2 (.seq (.region none [vo 28 (.mv 9), vo 29 (.bin .lss 28 (kI 0)), vo 27 (.mv 29)]) (.cond 27 (.seq (.region none [vo 4 (.mv (kI 5))]) .ret) (.seq (.region none [vo 31 (.fld 2 8), vo 32 (.load 2 true 31), vo 33 (.call 46 [32]), vo 34 (.un .not 33), vo 30 (.mv 34)]) (.cond 30 (.seq (.region none [vo 4 (.mv (kI 2))]) .ret) (.seq (.region none [vo 36 (.load 7 true 8), vo 37 (.call 115 [36]), vo 38 (.un .not 37), vo 35 (.mv 38)]) (.cond 35 (.seq (.region none [vo 4 (.mv (kI 1))]) .ret) (.seq (.region (some [0,0,3,7,15,31,63,15,15,271,911,1935,3983,8079,16383,32767,65535,65535,65535,327679,983039,2031615,4194303,8388607,16777215,33554431]) [vo 40 (.mv 9), vo 41 (.mv 6), vo 42 (.bin .eql 40 41), vo 43 (.mv 42), vg 44 43 true (.fld 2 8), vg 45 43 true (.fld 0 44), vg 46 43 true (.load 1 false 45), vg 47 43 true (.mv 1), vg 48 43 true (.mv 7), vg 49 43 true (.bin .sub 48 (kI 1)), vg 50 43 true (.ixA 7 47 49), vg 51 43 true (.fld 2 50), vg 52 43 true (.fld 1 51), vg 53 43 true (.load 1 false 52), vg 54 43 true (.bin .neq 46 53), vg 55 43 true (.mv 54), vg 56 55 false (.load 7 true 8), vg 57 55 false (.mv 1), vg 58 55 false (.mv 7), vg 59 55 false (.bin .sub 58 (kI 1)), vg 60 55 false (.ixA 7 57 59), vg 61 55 false (.load 7 true 60), vg 62 55 false (.call 116 [56,61]), vg 63 43 true (.pick 55 (kB true) 62), vo 64 (.pick 43 63 (kB false)), vo 39 (.mv 64)]) (.cond 39 (.seq (.region none [vo 4 (.mv (kI 11))]) .ret) (.seq (.region none [vo 66 (.mv 9), vo 67 (.mv 6), vo 68 (.bin .neq 66 67), vo 69 (.mv 68), vg 70 69 true (.mv 9), vg 71 69 true (.mv 6), vg 72 69 true (.bin .add 71 (kI 1)), vg 73 69 true (.bin .neq 70 72), vg 74 69 true (.mv 73), vg 75 74 false (.fld 2 8), vg 76 74 false (.fld 0 75), vg 77 74 false (.load 1 false 76), vg 78 74 false (.bin .neq 77 (kI 0)), vg 79 69 true (.pick 74 (kB true) 78), vo 80 (.pick 69 79 (kB false)), vo 65 (.mv 80)]) (.cond 65 (.seq (.region none [vo 4 (.mv (kI 11))]) .ret) .skip))))))))))) (.region none [vo 81 (.mv 9), vo 6 (.mv 81)]))))) (.region none [vo 82 (.bin .add 18 (kI 1)), vo 18 (.mv 82)]))))))) (.seq (.seq (.region none [vo 83 (.mv 1), vo 84 (.lenS 83), vo 85 (.bin .eql 84 (kI 0))]) (.cond 85 (.seq (.region none [vo 4 (.mv (kI 0))]) .ret) .skip)) (.seq (.region none [vo 86 (.mv 1), vo 87 (.mv 1), vo 88 (.lenS 87), vo 89 (.bin .sub 88 (kI 1)), vo 90 (.ixA 7 86 89), vo 91 (.fld 2 90), vo 92 (.fld 1 91), vo 93 (.load 1 false 92), vo 10 (.mv 93)]) (.seq (.seq (.region none [vo 94 (.mv 1), vo 95 (.lenS 94), vo 96 (.mv (kI 0))]) (.block 3 (.loop (.seq (.region none [vo 97 (.bin .lss 96 95)]) (.seq (.cond 97 .skip (.exit 3)) (.seq (.block 4 (.seq (.region none [vo 98 (.mv 96), vo 99 (.ixA 7 94 96), vo 100 (.load 7 true 99), vo 12 (.alloc 55 [(iI 0),(iI 0),(iI 0),(iI 0),(iI 0),(iI 0),(iI 0)]), vo 11 (.mv 98), vp (.store 7 12 100)]) (.seq (.region (some [0,1,0,4,15,31,63,63,191,511,1023,2047,63,4159,16383,32767,65535]) [vo 101 (.mv 11), vo 102 (.bin .add 101 (kI 1)), vo 103 (.mv 1), vo 104 (.lenS 103), vo 105 (.bin .eql 102 104), vo 106 (.mv 105), vg 107 106 false (.mv 1), vg 108 106 false (.mv 11), vg 109 106 false (.bin .add 108 (kI 1)), vg 110 106 false (.ixA 7 107 109), vg 111 106 false (.fld 0 110), vg 112 106 false (.load 1 false 111), vg 113 106 false (.fld 0 12), vg 114 106 false (.load 1 false 113), vg 115 106 false (.bin .neq 112 114), vo 116 (.pick 106 (kB true) 115), vo 13 (.mv 116)]) (.seq (.region none [vo 117 (.mv 13), vo 118 (.mv 117), vg 119 118 true (.fld 2 12), vg 120 118 true (.fld 1 119), vg 121 118 true (.load 1 false 120), vg 122 118 true (.mv 10), vg 123 118 true (.bin .neq 121 122), vo 124 (.pick 118 123 (kB false))]) (.cond 124 (.seq (.region none [vo 4 (.mv (kI 11))]) .ret) .skip))))) (.region none [vo 125 (.bin .add 96 (kI 1)), vo 96 (.mv 125)]))))))) (.seq (.seq (.region none [vo 126 (.mv 6), vo 127 (.bin .add 126 (kI 1)), vo 128 (.mv 5), vo 129 (.lenS 128), vo 130 (.bin .neq 127 129)]) (.cond 130 (.seq (.region none [vo 4 (.mv (kI 11))]) .ret) .skip)) (.seq (.region none [vo 4 (.mv (kI 0))]) .ret)))))))))
theorem c65 : (Tryz.f65.body.bind fun c => cCode Tryz.prog 131 c) = some v65 := by kernel_rfl
def v117 : VC := (.seq (.region none [vo 4 (.mv (kB false))]) (.seq (.region none [vo 5 (.mv 0), vo 6 (.bin .lss 5 (kI 0)), vo 7 (.mv 6), vg 8 7 false (.mv 0), vg 9 7 false (.mv 1), vg 10 7 false (.bin .gtr 8 9), vo 11 (.pick 7 (kB true) 10), vo 4 (.mv 11)]) .ret))
theorem c117 : (Tryz.f117.body.bind fun c => cCode Tryz.prog 12 c) = some v117 := by kernel_rfl
def v67 : VC := (.seq (.region none [vo 2 (.mv (kI 0))]) (.seq (.seq (.region none [vo 5 (.mv 0), vo 6 (.lenS 5), vo 7 (.mv (kI 0))]) (.block 0 (.loop (.seq (.region none [vo 8 (.bin .lss 7 6)]) (.seq (.cond 8 .skip (.exit 0)) (.seq (.block 1 (.seq (.region none [vo 9 (.mv 7), vo 10 (.ixA 7 5 7), vo 11 (.load 7 true 10), vo 4 (.alloc 87 [(iI 0),(iI 0),(iI 0),(iI 0),(iI 0),(iI 0),(iI 0)]), vo 3 (.mv 9), vp (.store 7 4 11)]) (.block 2 (.seq (.seq (.region none [vo 13 (.fld 0 4), vo 14 (.load 1 false 13), vo 15 (.call 117 [14,(kI 1000000000000000)]), vo 12 (.mv 15)]) (.cond 12 .skip (.seq (.region none [vo 16 (.fld 1 4), vo 17 (.fld 0 16), vo 18 (.load 1 false 17), vo 19 (.call 117 [18,(kI 1000000000000000)]), vo 12 (.mv 19)]) (.cond 12 .skip (.seq (.region none [vo 20 (.fld 1 4), vo 21 (.fld 1 20), vo 22 (.load 1 false 21), vo 23 (.call 117 [22,(kI 1000000000000000)]), vo 12 (.mv 23)]) (.cond 12 .skip (.seq (.region none [vo 24 (.fld 3 4), vo 25 (.fld 0 24), vo 26 (.load 1 false 25), vo 27 (.call 117 [26,(kI 1000000000000000)]), vo 12 (.mv 27)]) (.cond 12 .skip (.seq (.region none [vo 28 (.fld 3 4), vo 29 (.fld 1 28), vo 30 (.load 1 false 29), vo 31 (.call 117 [30,(kI 1000000000000000)]), vo 12 (.mv 31)]) (.cond 12 .skip (.seq (.region none [vo 32 (.fld 5 4), vo 33 (.load 1 false 32), vo 34 (.call 117 [33,(kI 1000000000000)]), vo 12 (.mv 34)]) (.cond 12 .skip (.region none [vo 35 (.fld 6 4), vo 36 (.load 1 false 35), vo 37 (.call 117 [36,(kI 1000000000000)]), vo 12 (.mv 37)]))))))))))))) (.cond 12 (.seq (.region none [vo 2 (.mv (kI 2))]) .ret) (.seq (.seq (.region none [vo 39 (.fld 5 4), vo 40 (.load 1 false 39), vo 41 (.fld 6 4), vo 42 (.load 1 false 41), vo 43 (.bin .gtr 40 42), vo 38 (.mv 43)]) (.cond 38 .skip (.region (some [0,1,3,7,15,7,7,71,231,487,999,2047,4095,8191]) [vo 44 (.mv 3), vo 45 (.bin .gtr 44 (kI 0)), vo 46 (.mv 45), vg 47 46 true (.fld 6 4), vg 48 46 true (.load 1 false 47), vg 49 46 true (.mv 0), vg 50 46 true (.mv 3), vg 51 46 true (.bin .sub 50 (kI 1)), vg 52 46 true (.ixA 7 49 51), vg 53 46 true (.fld 6 52), vg 54 46 true (.load 1 false 53), vg 55 46 true (.bin .lss 48 54), vo 56 (.pick 46 55 (kB false)), vo 38 (.mv 56)]))) (.cond 38 (.seq (.region none [vo 2 (.mv (kI 11))]) .ret) .skip))))))) (.region none [vo 57 (.bin .add 7 (kI 1)), vo 7 (.mv 57)]))))))) (.seq (.region none [vo 2 (.mv (kI 0))]) .ret)))
theorem c67 : (Tryz.f67.body.bind fun c => cCode Tryz.prog 58 c) = some v67 := by kernel_rfl
def v68 : VC := (.seq (.region none [vo 1 (.box 87 0), vo 2 (.mv (kI 0))]) (.seq (.region none [vo 3 (.fld 1 1), vo 4 (.fld 0 3), vo 5 (.load 1 false 4), vo 2 (.mv 5)]) .ret))
theorem c68 : (Tryz.f68.body.bind fun c => cCode Tryz.prog 6 c) = some v68 := by kernel_rfl
def v66 : VC := (.seq (.region none [vo 8 (.mv (kI 0))]) (.seq (.seq (.region none [vo 13 (.mv 0), vo 14 (.bin .neq 13 (kI 0))]) (.cond 14 (.seq (.region none [vo 15 (.mv 0), vo 8 (.mv 15)]) .ret) .skip)) (.seq (.seq (.region none [vo 16 (.mv 2), vo 17 (.lenS 16), vo 18 (.mv (kI 0))]) (.block 0 (.loop (.seq (.region none [vo 19 (.bin .lss 18 17)]) (.seq (.cond 19 .skip (.exit 0)) (.seq (.block 1 (.seq (.region none [vo 20 (.ixA 7 16 18), vo 21 (.load 7 true 20), vo 10 (.alloc 87 [(iI 0),(iI 0),(iI 0),(iI 0),(iI 0),(iI 0),(iI 0)]), vp (.store 7 10 21)]) (.seq (.region none [vo 23 (.mv 1), vo 24 (.mv 3), vo 25 (.load 7 true 10), vo 26 (.callv 24 [25]), vo 27 (.look (.int .i64) (.c iS) true 23 26), vo 22 (.mv 27), vo 28 (.ext 22 0), vo 29 (.ext 22 1), vo 11 (.mv 28), vo 12 (.mv 29)]) (.seq (.region none [vo 30 (.mv 12), vo 31 (.un .not 30)]) (.cond 31 (.seq (.region none [vo 8 (.mv (kI 5))]) .ret) .skip))))) (.region none [vo 32 (.bin .add 18 (kI 1)), vo 18 (.mv 32)]))))))) (.seq (.region none [vo 8 (.mv (kI 0))]) .ret))))
theorem c66 : (Tryz.f66.body.bind fun c => cCode Tryz.prog 33 c) = some v66 := by kernel_rfl
def v69 : VC := (.seq (.region none [vo 1 (.box 87 0), vo 2 (.mv (kI 0))]) (.seq (.region none [vo 3 (.fld 3 1), vo 4 (.fld 0 3), vo 5 (.load 1 false 4), vo 2 (.mv 5)]) .ret))
theorem c69 : (Tryz.f69.body.bind fun c => cCode Tryz.prog 6 c) = some v69 := by kernel_rfl
def v118 : VC := (.seq (.region none [vo 1 (.box 89 0), vo 2 (.mv (kB false))]) (.seq (.region none [vo 3 (.fld 0 1), vo 4 (.load 1 false 3), vo 5 (.bin .geq 4 (kI 0)), vo 6 (.mv 5), vg 7 6 true (.fld 0 1), vg 8 6 true (.load 1 false 7), vg 9 6 true (.bin .leq 8 (kI 1000000000000000)), vo 10 (.pick 6 9 (kB false)), vo 11 (.mv 10), vg 12 11 true (.fld 1 1), vg 13 11 true (.load 1 false 12), vg 14 11 true (.bin .geq 13 (kI 0)), vo 15 (.pick 11 14 (kB false)), vo 16 (.mv 15), vg 17 16 true (.fld 1 1), vg 18 16 true (.load 1 false 17), vg 19 16 true (.bin .leq 18 (kI 1000000000000)), vo 20 (.pick 16 19 (kB false)), vo 21 (.mv 20), vg 22 21 true (.fld 2 1), vg 23 21 true (.load 1 false 22), vg 24 21 true (.bin .geq 23 (kI 1)), vo 25 (.pick 21 24 (kB false)), vo 26 (.mv 25), vg 27 26 true (.fld 2 1), vg 28 26 true (.load 1 false 27), vg 29 26 true (.bin .leq 28 (kI 1000000000000)), vo 30 (.pick 26 29 (kB false)), vo 2 (.mv 30)]) .ret))
theorem c118 : (Tryz.f118.body.bind fun c => cCode Tryz.prog 31 c) = some v118 := by kernel_rfl
def v119 : VC := (.seq (.region none [vo 2 (.mv (kI 0))]) (.seq (.seq (.region none [vo 6 (.mv 0), vo 7 (.lenS 6), vo 8 (.bin .gtr 7 (kI 32))]) (.cond 8 (.seq (.region none [vo 2 (.mv (kI 7))]) .ret) .skip)) (.seq (.seq (.region none [vo 9 (.mv 0), vo 10 (.lenS 9), vo 11 (.mv (kI 0))]) (.block 0 (.loop (.seq (.region none [vo 12 (.bin .lss 11 10)]) (.seq (.cond 12 .skip (.exit 0)) (.seq (.block 1 (.seq (.region none [vo 13 (.ixA 1 9 11), vo 14 (.load 1 false 13), vo 4 (.mv 14)]) (.seq (.region none [vo 15 (.mv 4), vo 16 (.call 109 [15]), vo 5 (.mv 16)]) (.seq (.region none [vo 17 (.mv 5), vo 18 (.bin .neq 17 (kI 0))]) (.cond 18 (.seq (.region none [vo 19 (.mv 5), vo 2 (.mv 19)]) .ret) .skip))))) (.region none [vo 20 (.bin .add 11 (kI 1)), vo 11 (.mv 20)]))))))) (.seq (.region none [vo 2 (.mv (kI 0))]) .ret))))
theorem c119 : (Tryz.f119.body.bind fun c => cCode Tryz.prog 21 c) = some v119 := by kernel_rfl
def v71 : VC := (.seq (.region none [vo 2 (.mv (kI 0))]) (.seq (.seq (.region none [vo 6 (.mv 0), vo 7 (.lenS 6), vo 8 (.mv (kI 0))]) (.block 0 (.loop (.seq (.region none [vo 9 (.bin .lss 8 7)]) (.seq (.cond 9 .skip (.exit 0)) (.seq (.block 1 (.seq (.region none [vo 10 (.mv 8), vo 11 (.ixA 4 6 8), vo 12 (.load 4 true 11), vo 4 (.alloc 89 [(iI 0),(iI 0),(iI 0),.nilS]), vo 3 (.mv 10), vp (.store 4 4 12)]) (.seq (.seq (.region none [vo 13 (.load 4 true 4), vo 14 (.call 118 [13]), vo 15 (.un .not 14)]) (.cond 15 (.seq (.region none [vo 2 (.mv (kI 2))]) .ret) .skip)) (.seq (.seq (.region none [vo 16 (.fld 3 4), vo 17 (.load 1 false 16), vo 18 (.call 119 [17]), vo 5 (.mv 18)]) (.seq (.region none [vo 19 (.mv 5), vo 20 (.bin .neq 19 (kI 0))]) (.cond 20 (.seq (.region none [vo 21 (.mv 5), vo 2 (.mv 21)]) .ret) .skip))) (.seq (.region (some [0,1,3,7,15,7,7,71,231,487,999,2047,4095]) [vo 22 (.mv 3), vo 23 (.bin .gtr 22 (kI 0)), vo 24 (.mv 23), vg 25 24 true (.fld 1 4), vg 26 24 true (.load 1 false 25), vg 27 24 true (.mv 0), vg 28 24 true (.mv 3), vg 29 24 true (.bin .sub 28 (kI 1)), vg 30 24 true (.ixA 4 27 29), vg 31 24 true (.fld 1 30), vg 32 24 true (.load 1 false 31), vg 33 24 true (.bin .lss 26 32), vo 34 (.pick 24 33 (kB false))]) (.cond 34 (.seq (.region none [vo 2 (.mv (kI 11))]) .ret) .skip)))))) (.region none [vo 35 (.bin .add 8 (kI 1)), vo 8 (.mv 35)]))))))) (.seq (.region none [vo 2 (.mv (kI 0))]) .ret)))
theorem c71 : (Tryz.f71.body.bind fun c => cCode Tryz.prog 36 c) = some v71 := by kernel_rfl
def v72 : VC := (.seq (.region none [vo 1 (.box 89 0), vo 2 (.mv (kI 0))]) (.seq (.region none [vo 3 (.fld 0 1), vo 4 (.load 1 false 3), vo 2 (.mv 4)]) .ret))
theorem c72 : (Tryz.f72.body.bind fun c => cCode Tryz.prog 5 c) = some v72 := by kernel_rfl
def v70 : VC := (.seq (.region none [vo 8 (.mv (kI 0))]) (.seq (.seq (.region none [vo 13 (.mv 0), vo 14 (.bin .neq 13 (kI 0))]) (.cond 14 (.seq (.region none [vo 15 (.mv 0), vo 8 (.mv 15)]) .ret) .skip)) (.seq (.seq (.region none [vo 16 (.mv 2), vo 17 (.lenS 16), vo 18 (.mv (kI 0))]) (.block 0 (.loop (.seq (.region none [vo 19 (.bin .lss 18 17)]) (.seq (.cond 19 .skip (.exit 0)) (.seq (.block 1 (.seq (.region none [vo 20 (.ixA 4 16 18), vo 21 (.load 4 true 20), vo 10 (.alloc 89 [(iI 0),(iI 0),(iI 0),.nilS]), vp (.store 4 10 21)]) (.seq (.region none [vo 23 (.mv 1), vo 24 (.mv 3), vo 25 (.load 4 true 10), vo 26 (.callv 24 [25]), vo 27 (.look (.int .i64) (.c iS) true 23 26), vo 22 (.mv 27), vo 28 (.ext 22 0), vo 29 (.ext 22 1), vo 11 (.mv 28), vo 12 (.mv 29)]) (.seq (.region none [vo 30 (.mv 12), vo 31 (.un .not 30)]) (.cond 31 (.seq (.region none [vo 8 (.mv (kI 5))]) .ret) .skip))))) (.region none [vo 32 (.bin .add 18 (kI 1)), vo 18 (.mv 32)]))))))) (.seq (.region none [vo 8 (.mv (kI 0))]) .ret))))
theorem c70 : (Tryz.f70.body.bind fun c => cCode Tryz.prog 33 c) = some v70 := by kernel_rfl
def v120 : VC := (.seq (.region none [vo 2 (.mv (kB false))]) (.seq (.region none [vo 3 (.mv 0), vo 4 (.bin .geq 3 (kI (-1000000000000000))), vo 5 (.mv 4), vg 6 5 true (.mv 0), vg 7 5 true (.bin .leq 6 (kI 1000000000000000)), vo 8 (.pick 5 7 (kB false)), vo 2 (.mv 8)]) .ret))
theorem c120 : (Tryz.f120.body.bind fun c => cCode Tryz.prog 9 c) = some v120 := by kernel_rfl
def v163 : VC := (.seq (.region none [vo 2 (.mv (kB false))]) (.seq (.region none [vo 3 (.mv 0), vo 4 (.mv 0), vo 5 (.bin .neq 3 4), vo 2 (.mv 5)]) .ret))
theorem c163 : (Tryz.f163.body.bind fun c => cCode Tryz.prog 6 c) = some v163 := by kernel_rfl
def v148 : VC := (.seq (.region none [vo 4 (.mv (kI 0))]) (.seq (.region none [vo 7 (.mv 0), vo 8 (.call 163 [7]), vo 5 (.mv 8)]) (.seq (.region none [vo 9 (.mv 1), vo 10 (.call 163 [9]), vo 6 (.mv 10)]) (.seq (.seq (.region none [vo 11 (.mv 5)]) (.cond 11 (.seq (.seq (.region none [vo 12 (.mv 6)]) (.cond 12 (.seq (.region none [vo 4 (.mv (kI 0))]) .ret) .skip)) (.seq (.region none [vo 4 (.mv (kI (-1)))]) .ret)) .skip)) (.seq (.seq (.region none [vo 13 (.mv 6)]) (.cond 13 (.seq (.region none [vo 4 (.mv (kI 1))]) .ret) .skip)) (.seq (.seq (.region none [vo 14 (.mv 0), vo 15 (.mv 1), vo 16 (.bin .lss 14 15)]) (.cond 16 (.seq (.region none [vo 4 (.mv (kI (-1)))]) .ret) .skip)) (.seq (.seq (.region none [vo 17 (.mv 0), vo 18 (.mv 1), vo 19 (.bin .gtr 17 18)]) (.cond 19 (.seq (.region none [vo 4 (.mv (kI 1))]) .ret) .skip)) (.seq (.region none [vo 4 (.mv (kI 0))]) .ret))))))))
theorem c148 : (Tryz.f148.body.bind fun c => cCode Tryz.prog 20 c) = some v148 := by kernel_rfl
def v121 : VC := (.seq (.region none [vo 2 (.box 91 0), vo 3 (.box 91 1), vo 4 (.mv (kI 0))]) (.seq (.region (some [0,1,0,4,15,0,32,0,128,511,1023,2047,4095]) [vo 5 (.fld 0 2), vo 6 (.load 1 false 5), vo 7 (.fld 0 3), vo 8 (.load 1 false 7), vo 9 (.call 148 [6,8]), vo 10 (.fld 1 2), vo 11 (.load 1 false 10), vo 12 (.fld 1 3), vo 13 (.load 1 false 12), vo 14 (.call 39 [11,13]), vo 15 (.bsl 3 1 2 [(iI 0)] [(0,1,9),(1,1,14)]), vo 16 (.call 145 [15]), vo 4 (.mv 16)]) .ret))
theorem c121 : (Tryz.f121.body.bind fun c => cCode Tryz.prog 17 c) = some v121 := by kernel_rfl
def v73 : VC := (.seq (.region none [vo 2 (.mv (kI 0))]) (.seq (.seq (.region none [vo 6 (.mv 0), vo 7 (.lenS 6), vo 8 (.mv (kI 0))]) (.block 0 (.loop (.seq (.region none [vo 9 (.bin .lss 8 7)]) (.seq (.cond 9 .skip (.exit 0)) (.seq (.block 1 (.seq (.region none [vo 10 (.mv 8), vo 11 (.ixA 3 6 8), vo 12 (.load 3 true 11), vo 4 (.alloc 91 [iS,(iI 0),(iI 0)]), vo 3 (.mv 10), vp (.store 3 4 12)]) (.seq (.seq (.region none [vo 13 (.fld 0 4), vo 14 (.load 1 false 13), vo 15 (.call 109 [14]), vo 5 (.mv 15)]) (.seq (.region none [vo 16 (.mv 5), vo 17 (.bin .neq 16 (kI 0))]) (.cond 17 (.seq (.region none [vo 18 (.mv 5), vo 2 (.mv 18)]) .ret) .skip))) (.seq (.seq (.region none [vo 19 (.fld 1 4), vo 20 (.load 1 false 19), vo 21 (.bin .lss 20 (kI 0)), vo 22 (.mv 21), vg 23 22 false (.fld 1 4), vg 24 22 false (.load 1 false 23), vg 25 22 false (.bin .gtr 24 (kI 1000000000000)), vo 26 (.pick 22 (kB true) 25), vo 27 (.mv 26), vg 28 27 false (.fld 2 4), vg 29 27 false (.load 1 false 28), vg 30 27 false (.call 120 [29]), vg 31 27 false (.un .not 30), vo 32 (.pick 27 (kB true) 31)]) (.cond 32 (.seq (.region none [vo 2 (.mv (kI 2))]) .ret) .skip)) (.seq (.region (some [0,1,3,7,7,23,63,127,7,511,1023,2047,4095,4095,12287,32767,65535,131071,4095,266239,1048575,2097151,4194303,4194303,12582911,33554431,67108863,134217727,4194303,272629759,1073741823,2147483647,4294967295,8589934591]) [vo 33 (.mv 3), vo 34 (.bin .gtr 33 (kI 0)), vo 35 (.mv 34), vg 36 35 true (.mv 0), vg 37 35 true (.mv 3), vg 38 35 true (.bin .sub 37 (kI 1)), vg 39 35 true (.ixA 3 36 38), vg 40 35 true (.load 3 true 39), vg 41 35 true (.load 3 true 4), vg 42 35 true (.call 121 [40,41]), vg 43 35 true (.bin .geq 42 (kI 0)), vg 44 35 true (.mv 43), vg 45 44 false (.mv 0), vg 46 44 false (.mv 3), vg 47 44 false (.bin .sub 46 (kI 1)), vg 48 44 false (.ixA 3 45 47), vg 49 44 false (.fld 0 48), vg 50 44 false (.load 1 false 49), vg 51 44 false (.fld 0 4), vg 52 44 false (.load 1 false 51), vg 53 44 false (.bin .eql 50 52), vg 54 44 false (.mv 53), vg 55 54 true (.mv 0), vg 56 54 true (.mv 3), vg 57 54 true (.bin .sub 56 (kI 1)), vg 58 54 true (.ixA 3 55 57), vg 59 54 true (.fld 2 58), vg 60 54 true (.load 1 false 59), vg 61 54 true (.fld 2 4), vg 62 54 true (.load 1 false 61), vg 63 54 true (.bin .eql 60 62), vg 64 44 false (.pick 54 63 (kB false)), vg 65 35 true (.pick 44 (kB true) 64), vo 66 (.pick 35 65 (kB false))]) (.cond 66 (.seq (.region none [vo 2 (.mv (kI 11))]) .ret) .skip)))))) (.region none [vo 67 (.bin .add 8 (kI 1)), vo 8 (.mv 67)]))))))) (.seq (.region none [vo 2 (.mv (kI 0))]) .ret)))
theorem c73 : (Tryz.f73.body.bind fun c => cCode Tryz.prog 68 c) = some v73 := by kernel_rfl
def v75 : VC := (.seq (.region none [vo 2 (.mv (kI 0))]) (.seq (.seq (.region none [vo 8 (.mv 0), vo 9 (.lenS 8), vo 10 (.mv (kI 0))]) (.block 0 (.loop (.seq (.region none [vo 11 (.bin .lss 10 9)]) (.seq (.cond 11 .skip (.exit 0)) (.seq (.block 1 (.seq (.region none [vo 12 (.mv 10), vo 13 (.ixA 7 8 10), vo 14 (.load 7 true 13), vo 4 (.alloc 82 [(iI 0),(iI 0),(iI 0),(iI 0),(iI 0),.nilS,(.imm (.sc (.bool false)))]), vo 3 (.mv 12), vp (.store 7 4 14)]) (.seq (.seq (.region none [vo 15 (.fld 0 4), vo 16 (.load 1 false 15), vo 17 (.bin .lss 16 (kI 0)), vo 18 (.mv 17), vg 19 18 false (.fld 0 4), vg 20 18 false (.load 1 false 19), vg 21 18 false (.bin .gtr 20 (kI 1000000000000000)), vo 22 (.pick 18 (kB true) 21), vo 23 (.mv 22), vg 24 23 false (.fld 1 4), vg 25 23 false (.load 1 false 24), vg 26 23 false (.bin .lss 25 (kI 0)), vo 27 (.pick 23 (kB true) 26), vo 28 (.mv 27), vg 29 28 false (.fld 1 4), vg 30 28 false (.load 1 false 29), vg 31 28 false (.bin .gtr 30 (kI 1000000000000000)), vo 32 (.pick 28 (kB true) 31), vo 33 (.mv 32), vg 34 33 false (.fld 2 4), vg 35 33 false (.load 1 false 34), vg 36 33 false (.bin .lss 35 (kI 1)), vo 37 (.pick 33 (kB true) 36), vo 38 (.mv 37), vg 39 38 false (.fld 2 4), vg 40 38 false (.load 1 false 39), vg 41 38 false (.bin .gtr 40 (kI 1000000000000)), vo 42 (.pick 38 (kB true) 41), vo 43 (.mv 42), vg 44 43 false (.fld 3 4), vg 45 43 false (.load 2 true 44), vg 46 43 false (.call 46 [45]), vg 47 43 false (.un .not 46), vo 48 (.pick 43 (kB true) 47)]) (.cond 48 (.seq (.region none [vo 2 (.mv (kI 2))]) .ret) .skip)) (.seq (.seq (.region none [vo 49 (.fld 5 4), vo 50 (.load 1 false 49), vo 51 (.call 119 [50]), vo 5 (.mv 51)]) (.seq (.region none [vo 52 (.mv 5), vo 53 (.bin .neq 52 (kI 0))]) (.cond 53 (.seq (.region none [vo 54 (.mv 5), vo 2 (.mv 54)]) .ret) .skip))) (.seq (.seq (.region (some [0,1,3,7,15,31,7,7,135,455,967,1991,4039,8191,16383]) [vo 55 (.mv 3), vo 56 (.bin .gtr 55 (kI 0)), vo 57 (.mv 56), vg 58 57 true (.fld 3 4), vg 59 57 true (.fld 0 58), vg 60 57 true (.load 1 false 59), vg 61 57 true (.mv 0), vg 62 57 true (.mv 3), vg 63 57 true (.bin .sub 62 (kI 1)), vg 64 57 true (.ixA 7 61 63), vg 65 57 true (.fld 3 64), vg 66 57 true (.fld 0 65), vg 67 57 true (.load 1 false 66), vg 68 57 true (.bin .lss 60 67), vo 69 (.pick 57 68 (kB false))]) (.cond 69 (.seq (.region none [vo 2 (.mv (kI 11))]) .ret) .skip)) (.seq (.region none [vo 70 (.mv 0), vo 71 (.mv 3), vo 72 (.sub 7 70 none (some 71)), vo 73 (.lenS 72), vo 74 (.mv (kI 0))]) (.block 2 (.loop (.seq (.region none [vo 75 (.bin .lss 74 73)]) (.seq (.cond 75 .skip (.exit 2)) (.seq (.block 3 (.seq (.region none [vo 76 (.ixA 7 72 74), vo 77 (.load 7 true 76), vo 7 (.alloc 82 [(iI 0),(iI 0),(iI 0),(iI 0),(iI 0),.nilS,(.imm (.sc (.bool false)))]), vp (.store 7 7 77)]) (.seq (.region none [vo 78 (.fld 0 7), vo 79 (.load 1 false 78), vo 80 (.fld 0 4), vo 81 (.load 1 false 80), vo 82 (.bin .eql 79 81), vo 83 (.mv 82), vg 84 83 true (.fld 3 7), vg 85 83 true (.fld 0 84), vg 86 83 true (.load 1 false 85), vg 87 83 true (.fld 3 4), vg 88 83 true (.fld 1 87), vg 89 83 true (.load 1 false 88), vg 90 83 true (.bin .lss 86 89), vo 91 (.pick 83 90 (kB false)), vo 92 (.mv 91), vg 93 92 true (.fld 3 4), vg 94 92 true (.fld 0 93), vg 95 92 true (.load 1 false 94), vg 96 92 true (.fld 3 7), vg 97 92 true (.fld 1 96), vg 98 92 true (.load 1 false 97), vg 99 92 true (.bin .lss 95 98), vo 100 (.pick 92 99 (kB false))]) (.cond 100 (.seq (.region none [vo 2 (.mv (kI 4))]) .ret) .skip)))) (.region none [vo 101 (.bin .add 74 (kI 1)), vo 74 (.mv 101)])))))))))))) (.region none [vo 102 (.bin .add 10 (kI 1)), vo 10 (.mv 102)]))))))) (.seq (.region none [vo 2 (.mv (kI 0))]) .ret)))
theorem c75 : (Tryz.f75.body.bind fun c => cCode Tryz.prog 103 c) = some v75 := by kernel_rfl
def v76 : VC := (.seq (.region none [vo 1 (.box 82 0), vo 2 (.mv (kI 0))]) (.seq (.region none [vo 3 (.fld 1 1), vo 4 (.load 1 false 3), vo 2 (.mv 4)]) .ret))
theorem c76 : (Tryz.f76.body.bind fun c => cCode Tryz.prog 5 c) = some v76 := by kernel_rfl
def v74 : VC := (.seq (.region none [vo 8 (.mv (kI 0))]) (.seq (.seq (.region none [vo 13 (.mv 0), vo 14 (.bin .neq 13 (kI 0))]) (.cond 14 (.seq (.region none [vo 15 (.mv 0), vo 8 (.mv 15)]) .ret) .skip)) (.seq (.seq (.region none [vo 16 (.mv 2), vo 17 (.lenS 16), vo 18 (.mv (kI 0))]) (.block 0 (.loop (.seq (.region none [vo 19 (.bin .lss 18 17)]) (.seq (.cond 19 .skip (.exit 0)) (.seq (.block 1 (.seq (.region none [vo 20 (.ixA 7 16 18), vo 21 (.load 7 true 20), vo 10 (.alloc 82 [(iI 0),(iI 0),(iI 0),(iI 0),(iI 0),.nilS,(.imm (.sc (.bool false)))]), vp (.store 7 10 21)]) (.seq (.region none [vo 23 (.mv 1), vo 24 (.mv 3), vo 25 (.load 7 true 10), vo 26 (.callv 24 [25]), vo 27 (.look (.int .i64) (.c iS) true 23 26), vo 22 (.mv 27), vo 28 (.ext 22 0), vo 29 (.ext 22 1), vo 11 (.mv 28), vo 12 (.mv 29)]) (.seq (.region none [vo 30 (.mv 12), vo 31 (.un .not 30)]) (.cond 31 (.seq (.region none [vo 8 (.mv (kI 5))]) .ret) .skip))))) (.region none [vo 32 (.bin .add 18 (kI 1)), vo 18 (.mv 32)]))))))) (.seq (.region none [vo 8 (.mv (kI 0))]) .ret))))
theorem c74 : (Tryz.f74.body.bind fun c => cCode Tryz.prog 33 c) = some v74 := by kernel_rfl
def v77 : VC := (.seq (.region none [vo 4 (.mv (kI 0))]) (.seq (.seq (.region none [vo 9 (.mv 1), vo 10 (.lenS 9), vo 11 (.mv (kI 0))]) (.block 0 (.loop (.seq (.region none [vo 12 (.bin .lss 11 10)]) (.seq (.cond 12 .skip (.exit 0)) (.seq (.block 1 (.seq (.region none [vo 13 (.ixA 4 9 11), vo 14 (.load 4 true 13), vo 6 (.alloc 159 [(iI 0),(iI 0),(iI 0),(iI 0)]), vp (.store 4 6 14)]) (.seq (.seq (.region none [vo 16 (.mv 0), vo 17 (.fld 0 6), vo 18 (.load 1 false 17), vo 19 (.look (.int .i64) (.c iS) true 16 18), vo 15 (.mv 19), vo 20 (.ext 15 0), vo 21 (.ext 15 1), vo 7 (.mv 20), vo 8 (.mv 21)]) (.seq (.region none [vo 22 (.mv 8), vo 23 (.un .not 22)]) (.cond 23 (.seq (.region none [vo 4 (.mv (kI 5))]) .ret) .skip))) (.seq (.region none [vo 24 (.fld 1 6), vo 25 (.load 2 true 24), vo 26 (.call 46 [25]), vo 27 (.un .not 26), vo 28 (.mv 27), vg 29 28 false (.fld 3 6), vg 30 28 false (.load 1 false 29), vg 31 28 false (.bin .lss 30 (kI 1)), vo 32 (.pick 28 (kB true) 31), vo 33 (.mv 32), vg 34 33 false (.fld 3 6), vg 35 33 false (.load 1 false 34), vg 36 33 false (.bin .gtr 35 (kI 1000000000000000)), vo 37 (.pick 33 (kB true) 36)]) (.cond 37 (.seq (.region none [vo 4 (.mv (kI 2))]) .ret) .skip))))) (.region none [vo 38 (.bin .add 11 (kI 1)), vo 11 (.mv 38)]))))))) (.seq (.region none [vo 4 (.mv (kI 0))]) .ret)))
theorem c77 : (Tryz.f77.body.bind fun c => cCode Tryz.prog 39 c) = some v77 := by kernel_rfl
def v44 : VC := (.seq (.region none [vo 1 (.box 33 0), vo 2 (.mv (kI 0))]) (.seq (.region none [vo 12 (.load 10 true 1), vo 13 (.call 61 [12]), vo 11 (.mv 13), vo 14 (.ext 11 0), vo 15 (.ext 11 1), vo 3 (.mv 14), vo 4 (.mv 15)]) (.seq (.seq (.region none [vo 16 (.mv 4), vo 17 (.bin .neq 16 (kI 0))]) (.cond 17 (.seq (.region none [vo 18 (.mv 4), vo 2 (.mv 18)]) .ret) .skip)) (.seq (.seq (.region (some [0,1,3,0,0,16,63,127]) [vo 19 (.fld 3 1), vo 20 (.load 1 false 19), vo 21 (.call 63 [20]), vo 22 (.mv 3), vo 23 (.fld 3 1), vo 24 (.load 1 false 23), vo 25 (.call 62 [21,22,24,(.fn 64)]), vo 5 (.mv 25)]) (.seq (.region none [vo 26 (.mv 5), vo 27 (.bin .neq 26 (kI 0))]) (.cond 27 (.seq (.region none [vo 28 (.mv 5), vo 2 (.mv 28)]) .ret) .skip))) (.seq (.seq (.region none [vo 29 (.fld 2 1), vo 30 (.load 1 false 29), vo 31 (.fld 4 1), vo 32 (.load 1 false 31), vo 33 (.call 65 [30,32]), vo 6 (.mv 33)]) (.seq (.region none [vo 34 (.mv 6), vo 35 (.bin .neq 34 (kI 0))]) (.cond 35 (.seq (.region none [vo 36 (.mv 6), vo 2 (.mv 36)]) .ret) .skip))) (.seq (.region (some [0,1,3,0,0,16,63,127]) [vo 37 (.fld 5 1), vo 38 (.load 1 false 37), vo 39 (.call 67 [38]), vo 40 (.mv 3), vo 41 (.fld 5 1), vo 42 (.load 1 false 41), vo 43 (.call 66 [39,40,42,(.fn 68)]), vo 4 (.mv 43)]) (.seq (.seq (.region none [vo 44 (.mv 4), vo 45 (.mv 3), vo 46 (.fld 5 1), vo 47 (.load 1 false 46), vo 48 (.call 66 [44,45,47,(.fn 69)]), vo 7 (.mv 48)]) (.seq (.region none [vo 49 (.mv 7), vo 50 (.bin .neq 49 (kI 0))]) (.cond 50 (.seq (.region none [vo 51 (.mv 7), vo 2 (.mv 51)]) .ret) .skip))) (.seq (.seq (.region (some [0,1,3,0,0,16,63,127]) [vo 52 (.fld 6 1), vo 53 (.load 1 false 52), vo 54 (.call 71 [53]), vo 55 (.mv 3), vo 56 (.fld 6 1), vo 57 (.load 1 false 56), vo 58 (.call 70 [54,55,57,(.fn 72)]), vo 8 (.mv 58)]) (.seq (.region none [vo 59 (.mv 8), vo 60 (.bin .neq 59 (kI 0))]) (.cond 60 (.seq (.region none [vo 61 (.mv 8), vo 2 (.mv 61)]) .ret) .skip))) (.seq (.seq (.region none [vo 62 (.fld 7 1), vo 63 (.load 1 false 62), vo 64 (.call 73 [63]), vo 9 (.mv 64)]) (.seq (.region none [vo 65 (.mv 9), vo 66 (.bin .neq 65 (kI 0))]) (.cond 66 (.seq (.region none [vo 67 (.mv 9), vo 2 (.mv 67)]) .ret) .skip))) (.seq (.seq (.region (some [0,1,3,0,0,16,63,127]) [vo 68 (.fld 8 1), vo 69 (.load 1 false 68), vo 70 (.call 75 [69]), vo 71 (.mv 3), vo 72 (.fld 8 1), vo 73 (.load 1 false 72), vo 74 (.call 74 [70,71,73,(.fn 76)]), vo 10 (.mv 74)]) (.seq (.region none [vo 75 (.mv 10), vo 76 (.bin .neq 75 (kI 0))]) (.cond 76 (.seq (.region none [vo 77 (.mv 10), vo 2 (.mv 77)]) .ret) .skip))) (.seq (.region none [vo 78 (.mv 3), vo 79 (.fld 9 1), vo 80 (.load 1 false 79), vo 81 (.call 77 [78,80]), vo 2 (.mv 81)]) .ret)))))))))))
theorem c44 : (Tryz.f44.body.bind fun c => cCode Tryz.prog 82 c) = some v44 := by kernel_rfl
def v80 : VC := (.seq (.region none [vo 2 (.box 23 0), vo 3 (.box 23 1), vo 4 (.mv (kB false))]) (.seq (.region none [vo 5 (.fld 0 3), vo 6 (.load 1 false 5), vo 7 (.fld 0 2), vo 8 (.load 1 false 7), vo 9 (.bin .leq 6 8), vo 10 (.mv 9), vg 11 10 true (.fld 1 2), vg 12 10 true (.load 1 false 11), vg 13 10 true (.fld 1 3), vg 14 10 true (.load 1 false 13), vg 15 10 true (.bin .leq 12 14), vo 16 (.pick 10 15 (kB false)), vo 4 (.mv 16)]) .ret))
theorem c80 : (Tryz.f80.body.bind fun c => cCode Tryz.prog 17 c) = some v80 := by kernel_rfl
def v79 : VC := (.seq (.region none [vo 2 (.box 79 0), vo 3 (.mv (kB false))]) (.seq (.region none [vo 4 (.fld 4 2), vo 5 (.load 2 true 4), vo 6 (.load 2 true 1), vo 7 (.call 80 [5,6]), vo 8 (.un .not 7), vo 3 (.mv 8)]) .ret))
theorem c79 : (Tryz.f79.body.bind fun c => cCode Tryz.prog 9 c) = some v79 := by kernel_rfl
def v122 : VC := (.seq (.region none [vo 4 (.mv (kI 0))]) (.seq (.seq (.region none [vo 6 (.mv 0), vo 7 (.lenS 6), vo 8 (.mv (kI 0))]) (.block 0 (.loop (.seq (.region none [vo 9 (.bin .lss 8 7)]) (.seq (.cond 9 .skip (.exit 0)) (.seq (.block 1 (.seq (.region none [vo 10 (.mv 8), vo 5 (.mv 10)]) (.seq (.region none [vo 11 (.mv 1), vo 12 (.mv 0), vo 13 (.mv 5), vo 14 (.ixA 8 12 13), vo 15 (.load 8 true 14), vo 16 (.callv 11 [15])]) (.cond 16 (.seq (.region none [vo 17 (.mv 5), vo 4 (.mv 17)]) .ret) .skip)))) (.region none [vo 18 (.bin .add 8 (kI 1)), vo 8 (.mv 18)]))))))) (.seq (.region none [vo 4 (.mv (kI (-1)))]) .ret)))
theorem c122 : (Tryz.f122.body.bind fun c => cCode Tryz.prog 19 c) = some v122 := by kernel_rfl
def v78 : VC := (.seq (.region none [vo 4 (.mv (kB false))]) (.seq (.region none [vo 5 (.mv 0), vo 6 (.mv 1), vo 7 (.call 122 [5,6]), vo 8 (.bin .geq 7 (kI 0)), vo 4 (.mv 8)]) .ret))
theorem c78 : (Tryz.f78.body.bind fun c => cCode Tryz.prog 9 c) = some v78 := by kernel_rfl
def v82 : VC := (.seq (.region none [vo 2 (.box 55 0), vo 3 (.mv (kB false))]) (.seq (.region none [vo 4 (.fld 2 2), vo 5 (.load 2 true 4), vo 6 (.load 2 true 1), vo 7 (.call 80 [5,6]), vo 8 (.un .not 7), vo 3 (.mv 8)]) .ret))
theorem c82 : (Tryz.f82.body.bind fun c => cCode Tryz.prog 9 c) = some v82 := by kernel_rfl
def v123 : VC := (.seq (.region none [vo 4 (.mv (kI 0))]) (.seq (.seq (.region none [vo 6 (.mv 0), vo 7 (.lenS 6), vo 8 (.mv (kI 0))]) (.block 0 (.loop (.seq (.region none [vo 9 (.bin .lss 8 7)]) (.seq (.cond 9 .skip (.exit 0)) (.seq (.block 1 (.seq (.region none [vo 10 (.mv 8), vo 5 (.mv 10)]) (.seq (.region none [vo 11 (.mv 1), vo 12 (.mv 0), vo 13 (.mv 5), vo 14 (.ixA 7 12 13), vo 15 (.load 7 true 14), vo 16 (.callv 11 [15])]) (.cond 16 (.seq (.region none [vo 17 (.mv 5), vo 4 (.mv 17)]) .ret) .skip)))) (.region none [vo 18 (.bin .add 8 (kI 1)), vo 8 (.mv 18)]))))))) (.seq (.region none [vo 4 (.mv (kI (-1)))]) .ret)))
theorem c123 : (Tryz.f123.body.bind fun c => cCode Tryz.prog 19 c) = some v123 := by kernel_rfl
def v81 : VC := (.seq (.region none [vo 4 (.mv (kB false))]) (.seq (.region none [vo 5 (.mv 0), vo 6 (.mv 1), vo 7 (.call 123 [5,6]), vo 8 (.bin .geq 7 (kI 0)), vo 4 (.mv 8)]) .ret))
theorem c81 : (Tryz.f81.body.bind fun c => cCode Tryz.prog 9 c) = some v81 := by kernel_rfl
def v84 : VC := (.seq (.region none [vo 2 (.box 82 0), vo 3 (.mv (kB false))]) (.seq (.region none [vo 4 (.fld 3 2), vo 5 (.load 2 true 4), vo 6 (.load 2 true 1), vo 7 (.call 80 [5,6]), vo 8 (.un .not 7), vo 3 (.mv 8)]) .ret))
theorem c84 : (Tryz.f84.body.bind fun c => cCode Tryz.prog 9 c) = some v84 := by kernel_rfl
def v124 : VC := (.seq (.region none [vo 4 (.mv (kI 0))]) (.seq (.seq (.region none [vo 6 (.mv 0), vo 7 (.lenS 6), vo 8 (.mv (kI 0))]) (.block 0 (.loop (.seq (.region none [vo 9 (.bin .lss 8 7)]) (.seq (.cond 9 .skip (.exit 0)) (.seq (.block 1 (.seq (.region none [vo 10 (.mv 8), vo 5 (.mv 10)]) (.seq (.region none [vo 11 (.mv 1), vo 12 (.mv 0), vo 13 (.mv 5), vo 14 (.ixA 7 12 13), vo 15 (.load 7 true 14), vo 16 (.callv 11 [15])]) (.cond 16 (.seq (.region none [vo 17 (.mv 5), vo 4 (.mv 17)]) .ret) .skip)))) (.region none [vo 18 (.bin .add 8 (kI 1)), vo 8 (.mv 18)]))))))) (.seq (.region none [vo 4 (.mv (kI (-1)))]) .ret)))
theorem c124 : (Tryz.f124.body.bind fun c => cCode Tryz.prog 19 c) = some v124 := by kernel_rfl
def v83 : VC := (.seq (.region none [vo 4 (.mv (kB false))]) (.seq (.region none [vo 5 (.mv 0), vo 6 (.mv 1), vo 7 (.call 124 [5,6]), vo 8 (.bin .geq 7 (kI 0)), vo 4 (.mv 8)]) .ret))
theorem c83 : (Tryz.f83.body.bind fun c => cCode Tryz.prog 9 c) = some v83 := by kernel_rfl
def v87 : VC := (.seq (.region none [vo 2 (.box 23 0), vo 4 (.mv (kB false))]) (.seq (.region none [vo 5 (.fld 0 2), vo 6 (.load 1 false 5), vo 7 (.mv 1), vo 8 (.bin .leq 6 7), vo 9 (.mv 8), vg 10 9 true (.mv 1), vg 11 9 true (.fld 1 2), vg 12 9 true (.load 1 false 11), vg 13 9 true (.bin .lss 10 12), vo 14 (.pick 9 13 (kB false)), vo 4 (.mv 14)]) .ret))
theorem c87 : (Tryz.f87.body.bind fun c => cCode Tryz.prog 15 c) = some v87 := by kernel_rfl
def v86 : VC := (.seq (.region none [vo 2 (.box 87 0), vo 3 (.mv (kB false))]) (.seq (.region none [vo 4 (.load 2 true 1), vo 5 (.fld 5 2), vo 6 (.load 1 false 5), vo 7 (.call 87 [4,6]), vo 8 (.un .not 7), vo 9 (.mv 8), vg 10 9 false (.load 2 true 1), vg 11 9 false (.fld 6 2), vg 12 9 false (.load 1 false 11), vg 13 9 false (.call 87 [10,12]), vg 14 9 false (.un .not 13), vo 15 (.pick 9 (kB true) 14), vo 3 (.mv 15)]) .ret))
theorem c86 : (Tryz.f86.body.bind fun c => cCode Tryz.prog 16 c) = some v86 := by kernel_rfl
def v125 : VC := (.seq (.region none [vo 4 (.mv (kI 0))]) (.seq (.seq (.region none [vo 6 (.mv 0), vo 7 (.lenS 6), vo 8 (.mv (kI 0))]) (.block 0 (.loop (.seq (.region none [vo 9 (.bin .lss 8 7)]) (.seq (.cond 9 .skip (.exit 0)) (.seq (.block 1 (.seq (.region none [vo 10 (.mv 8), vo 5 (.mv 10)]) (.seq (.region none [vo 11 (.mv 1), vo 12 (.mv 0), vo 13 (.mv 5), vo 14 (.ixA 7 12 13), vo 15 (.load 7 true 14), vo 16 (.callv 11 [15])]) (.cond 16 (.seq (.region none [vo 17 (.mv 5), vo 4 (.mv 17)]) .ret) .skip)))) (.region none [vo 18 (.bin .add 8 (kI 1)), vo 8 (.mv 18)]))))))) (.seq (.region none [vo 4 (.mv (kI (-1)))]) .ret)))
theorem c125 : (Tryz.f125.body.bind fun c => cCode Tryz.prog 19 c) = some v125 := by kernel_rfl
def v85 : VC := (.seq (.region none [vo 4 (.mv (kB false))]) (.seq (.region none [vo 5 (.mv 0), vo 6 (.mv 1), vo 7 (.call 125 [5,6]), vo 8 (.bin .geq 7 (kI 0)), vo 4 (.mv 8)]) .ret))
theorem c85 : (Tryz.f85.body.bind fun c => cCode Tryz.prog 9 c) = some v85 := by kernel_rfl
def v89 : VC := (.seq (.region none [vo 2 (.box 89 0), vo 3 (.mv (kB false))]) (.seq (.region none [vo 4 (.load 2 true 1), vo 5 (.fld 1 2), vo 6 (.load 1 false 5), vo 7 (.call 87 [4,6]), vo 8 (.un .not 7), vo 3 (.mv 8)]) .ret))
theorem c89 : (Tryz.f89.body.bind fun c => cCode Tryz.prog 9 c) = some v89 := by kernel_rfl
def v126 : VC := (.seq (.region none [vo 4 (.mv (kI 0))]) (.seq (.seq (.region none [vo 6 (.mv 0), vo 7 (.lenS 6), vo 8 (.mv (kI 0))]) (.block 0 (.loop (.seq (.region none [vo 9 (.bin .lss 8 7)]) (.seq (.cond 9 .skip (.exit 0)) (.seq (.block 1 (.seq (.region none [vo 10 (.mv 8), vo 5 (.mv 10)]) (.seq (.region none [vo 11 (.mv 1), vo 12 (.mv 0), vo 13 (.mv 5), vo 14 (.ixA 4 12 13), vo 15 (.load 4 true 14), vo 16 (.callv 11 [15])]) (.cond 16 (.seq (.region none [vo 17 (.mv 5), vo 4 (.mv 17)]) .ret) .skip)))) (.region none [vo 18 (.bin .add 8 (kI 1)), vo 8 (.mv 18)]))))))) (.seq (.region none [vo 4 (.mv (kI (-1)))]) .ret)))
theorem c126 : (Tryz.f126.body.bind fun c => cCode Tryz.prog 19 c) = some v126 := by kernel_rfl
def v88 : VC := (.seq (.region none [vo 4 (.mv (kB false))]) (.seq (.region none [vo 5 (.mv 0), vo 6 (.mv 1), vo 7 (.call 126 [5,6]), vo 8 (.bin .geq 7 (kI 0)), vo 4 (.mv 8)]) .ret))
theorem c88 : (Tryz.f88.body.bind fun c => cCode Tryz.prog 9 c) = some v88 := by kernel_rfl
def v91 : VC := (.seq (.region none [vo 2 (.box 91 0), vo 3 (.mv (kB false))]) (.seq (.region none [vo 4 (.load 2 true 1), vo 5 (.fld 1 2), vo 6 (.load 1 false 5), vo 7 (.call 87 [4,6]), vo 8 (.un .not 7), vo 3 (.mv 8)]) .ret))
theorem c91 : (Tryz.f91.body.bind fun c => cCode Tryz.prog 9 c) = some v91 := by kernel_rfl
def v127 : VC := (.seq (.region none [vo 4 (.mv (kI 0))]) (.seq (.seq (.region none [vo 6 (.mv 0), vo 7 (.lenS 6), vo 8 (.mv (kI 0))]) (.block 0 (.loop (.seq (.region none [vo 9 (.bin .lss 8 7)]) (.seq (.cond 9 .skip (.exit 0)) (.seq (.block 1 (.seq (.region none [vo 10 (.mv 8), vo 5 (.mv 10)]) (.seq (.region none [vo 11 (.mv 1), vo 12 (.mv 0), vo 13 (.mv 5), vo 14 (.ixA 3 12 13), vo 15 (.load 3 true 14), vo 16 (.callv 11 [15])]) (.cond 16 (.seq (.region none [vo 17 (.mv 5), vo 4 (.mv 17)]) .ret) .skip)))) (.region none [vo 18 (.bin .add 8 (kI 1)), vo 8 (.mv 18)]))))))) (.seq (.region none [vo 4 (.mv (kI (-1)))]) .ret)))
theorem c127 : (Tryz.f127.body.bind fun c => cCode Tryz.prog 19 c) = some v127 := by kernel_rfl
def v90 : VC := (.seq (.region none [vo 4 (.mv (kB false))]) (.seq (.region none [vo 5 (.mv 0), vo 6 (.mv 1), vo 7 (.call 127 [5,6]), vo 8 (.bin .geq 7 (kI 0)), vo 4 (.mv 8)]) .ret))
theorem c90 : (Tryz.f90.body.bind fun c => cCode Tryz.prog 9 c) = some v90 := by kernel_rfl
def v45 : VC := (.seq (.region none [vo 1 (.box 33 0), vo 2 (.mv (kB false))]) (.seq (.region none [vo 4 (.fld 0 1), vo 5 (.load 2 true 4), vo 3 (.alloc 23 [(iI 0),(iI 0)]), vp (.store 2 3 5)]) (.seq (.region none [vo 6 (.fld 3 1), vo 7 (.load 1 false 6), vo 8 (.mkfn 79 [3]), vo 9 (.call 78 [7,8]), vo 10 (.mv 9), vg 11 10 false (.fld 4 1), vg 12 10 false (.load 1 false 11), vg 13 10 false (.mkfn 82 [3]), vg 14 10 false (.call 81 [12,13]), vo 15 (.pick 10 (kB true) 14), vo 16 (.mv 15), vg 17 16 false (.fld 8 1), vg 18 16 false (.load 1 false 17), vg 19 16 false (.mkfn 84 [3]), vg 20 16 false (.call 83 [18,19]), vo 21 (.pick 16 (kB true) 20), vo 22 (.mv 21), vg 23 22 false (.fld 5 1), vg 24 22 false (.load 1 false 23), vg 25 22 false (.mkfn 86 [3]), vg 26 22 false (.call 85 [24,25]), vo 27 (.pick 22 (kB true) 26), vo 28 (.mv 27), vg 29 28 false (.fld 6 1), vg 30 28 false (.load 1 false 29), vg 31 28 false (.mkfn 89 [3]), vg 32 28 false (.call 88 [30,31]), vo 33 (.pick 28 (kB true) 32), vo 34 (.mv 33), vg 35 34 false (.fld 7 1), vg 36 34 false (.load 1 false 35), vg 37 34 false (.mkfn 91 [3]), vg 38 34 false (.call 90 [36,37]), vo 39 (.pick 34 (kB true) 38), vo 2 (.mv 39)]) .ret)))
theorem c45 : (Tryz.f45.body.bind fun c => cCode Tryz.prog 40 c) = some v45 := by kernel_rfl
def v23 : VC := (.seq (.region none [vo 1 (.box 33 0), vo 2 (.mv (kI 0))]) (.seq (.seq (.region none [vo 4 (.load 10 true 1), vo 5 (.call 44 [4]), vo 3 (.mv 5)]) (.seq (.region none [vo 6 (.mv 3), vo 7 (.bin .neq 6 (kI 0))]) (.cond 7 (.seq (.region none [vo 8 (.mv 3), vo 2 (.mv 8)]) .ret) .skip))) (.seq (.seq (.region none [vo 9 (.fld 0 1), vo 10 (.fld 0 9), vo 11 (.load 1 false 10), vo 12 (.bin .lss 11 (kI 0)), vo 13 (.mv 12), vg 14 13 false (.fld 0 1), vg 15 13 false (.fld 0 14), vg 16 13 false (.load 1 false 15), vg 17 13 false (.fld 0 1), vg 18 13 false (.fld 1 17), vg 19 13 false (.load 1 false 18), vg 20 13 false (.bin .gtr 16 19), vo 21 (.pick 13 (kB true) 20), vo 22 (.mv 21), vg 23 22 false (.fld 0 1), vg 24 22 false (.fld 1 23), vg 25 22 false (.load 1 false 24), vg 26 22 false (.bin .gtr 25 (kI 1000000000000)), vo 27 (.pick 22 (kB true) 26)]) (.cond 27 (.seq (.region none [vo 2 (.mv (kI 2))]) .ret) .skip)) (.seq (.seq (.region none [vo 28 (.load 10 true 1), vo 29 (.call 45 [28])]) (.cond 29 (.seq (.region none [vo 2 (.mv (kI 10))]) .ret) .skip)) (.seq (.region none [vo 2 (.mv (kI 0))]) .ret)))))
theorem c23 : (Tryz.f23.body.bind fun c => cCode Tryz.prog 30 c) = some v23 := by kernel_rfl
def v28 : VC := (.seq (.region none [vo 2 (.box 52 0), vo 3 (.mv (kB false))]) (.seq (.region none [vo 4 (.fld 0 2), vo 5 (.load 1 false 4), vo 6 (.load 1 false 1), vo 7 (.bin .eql 5 6), vo 3 (.mv 7)]) .ret))
theorem c28 : (Tryz.f28.body.bind fun c => cCode Tryz.prog 8 c) = some v28 := by kernel_rfl
def v48 : VC := (.seq (.region none [vo 4 (.mv (kI 0))]) (.seq (.seq (.region none [vo 6 (.mv 0), vo 7 (.lenS 6), vo 8 (.mv (kI 0))]) (.block 0 (.loop (.seq (.region none [vo 9 (.bin .lss 8 7)]) (.seq (.cond 9 .skip (.exit 0)) (.seq (.block 1 (.seq (.region none [vo 10 (.mv 8), vo 5 (.mv 10)]) (.seq (.region none [vo 11 (.mv 1), vo 12 (.mv 0), vo 13 (.mv 5), vo 14 (.ixA 3 12 13), vo 15 (.load 3 true 14), vo 16 (.callv 11 [15])]) (.cond 16 (.seq (.region none [vo 17 (.mv 5), vo 4 (.mv 17)]) .ret) .skip)))) (.region none [vo 18 (.bin .add 8 (kI 1)), vo 8 (.mv 18)]))))))) (.seq (.region none [vo 4 (.mv (kI (-1)))]) .ret)))
theorem c48 : (Tryz.f48.body.bind fun c => cCode Tryz.prog 19 c) = some v48 := by kernel_rfl
def v27 : VC := (.seq (.region none [vo 4 (.mv (kB false))]) (.seq (.region none [vo 5 (.mv 0), vo 6 (.mv 1), vo 7 (.call 48 [5,6]), vo 8 (.bin .geq 7 (kI 0)), vo 4 (.mv 8)]) .ret))
theorem c27 : (Tryz.f27.body.bind fun c => cCode Tryz.prog 9 c) = some v27 := by kernel_rfl
def v29 : VC := (.seq (.region none [vo 1 (.box 33 0), vo 2 (.mv (.con (.c .nilS)))]) (.seq (.region none [vo 3 (.mv (.con (.c .nilS)))]) (.seq (.seq (.region none [vo 6 (.fld 4 1), vo 7 (.load 1 false 6), vo 8 (.lenS 7), vo 9 (.mv (kI 0))]) (.block 0 (.loop (.seq (.region none [vo 10 (.bin .lss 9 8)]) (.seq (.cond 10 .skip (.exit 0)) (.seq (.block 1 (.seq (.region none [vo 11 (.mv 9), vo 12 (.ixA 7 7 9), vo 13 (.load 7 true 12), vo 5 (.alloc 55 [(iI 0),(iI 0),(iI 0),(iI 0),(iI 0),(iI 0),(iI 0)]), vo 4 (.mv 11), vp (.store 7 5 13)]) (.seq (.region (some [0,1,0,4,12,31,63,127,255,511,1023,2047,4095,8191,4095,20479,65535,131071,262143,524287,1048575,2097151,4194303,8388607,4194303,20971519,67108863,134217727,268435455,4194303,541065215,2147483647,4294967295]) [vo 14 (.mv 4), vo 15 (.bin .add 14 (kI 1)), vo 16 (.fld 4 1), vo 17 (.load 1 false 16), vo 18 (.lenS 17), vo 19 (.bin .lss 15 18), vo 20 (.mv 19), vg 21 20 true (.fld 1 5), vg 22 20 true (.load 1 false 21), vg 23 20 true (.bin .eql 22 (kI 0)), vo 24 (.pick 20 23 (kB false)), vo 25 (.mv 24), vg 26 25 true (.fld 4 1), vg 27 25 true (.load 1 false 26), vg 28 25 true (.mv 4), vg 29 25 true (.bin .add 28 (kI 1)), vg 30 25 true (.ixA 7 27 29), vg 31 25 true (.fld 1 30), vg 32 25 true (.load 1 false 31), vg 33 25 true (.bin .eql 32 (kI 4)), vo 34 (.pick 25 33 (kB false)), vo 35 (.mv 34), vg 36 35 true (.fld 4 1), vg 37 35 true (.load 1 false 36), vg 38 35 true (.mv 4), vg 39 35 true (.bin .add 38 (kI 1)), vg 40 35 true (.ixA 7 37 39), vg 41 35 true (.fld 0 40), vg 42 35 true (.load 1 false 41), vg 43 35 true (.fld 0 5), vg 44 35 true (.load 1 false 43), vg 45 35 true (.bin .eql 42 44), vo 46 (.pick 35 45 (kB false))]) (.cond 46 (.region none [vo 47 (.mv 3), vo 48 (.load 7 true 5), vo 49 (.bsl 55 7 1 [(iI 0),(iI 0),(iI 0),(iI 0),(iI 0),(iI 0),(iI 0)] [(0,7,48)]), vo 50 (.app 55 7 56 47 49), vo 3 (.mv 50)]) .skip)))) (.region none [vo 51 (.bin .add 9 (kI 1)), vo 9 (.mv 51)]))))))) (.seq (.region none [vo 52 (.mv 3), vo 2 (.mv 52)]) .ret))))
theorem c29 : (Tryz.f29.body.bind fun c => cCode Tryz.prog 53 c) = some v29 := by kernel_rfl
def v30 : VC := (.seq (.region none [vo 1 (.box 55 0), vo 2 (.mv (kI 0))]) (.seq (.region none [vo 3 (.fld 2 1), vo 4 (.fld 1 3), vo 5 (.load 1 false 4), vo 6 (.fld 2 1), vo 7 (.fld 0 6), vo 8 (.load 1 false 7), vo 9 (.bin .sub 5 8), vo 2 (.mv 9)]) .ret))
theorem c30 : (Tryz.f30.body.bind fun c => cCode Tryz.prog 10 c) = some v30 := by kernel_rfl
def v11 : VC := (.seq (.region none [vo 2 (.box 33 0), vo 3 (.box 3 1), vo 4 (.mv (.con (.c .nilS))), vo 5 (.mv (kI 0))]) (.seq (.seq (.region none [vo 10 (.load 10 true 2), vo 11 (.call 23 [10]), vo 6 (.mv 11)]) (.seq (.region none [vo 12 (.mv 6), vo 13 (.bin .neq 12 (kI 0))]) (.cond 13 (.seq (.region none [vo 14 (.mv 6), vo 4 (.mv (.con (.c .nilS))), vo 5 (.mv 14)]) .ret) .skip))) (.seq (.seq (.region none [vo 15 (.fld 2 2), vo 16 (.load 1 false 15), vo 17 (.mkfn 28 [3]), vo 18 (.call 27 [16,17]), vo 19 (.un .not 18)]) (.cond 19 (.seq (.region none [vo 4 (.mv (.con (.c .nilS))), vo 5 (.mv (kI 5))]) .ret) .skip)) (.seq (.region none [vo 7 (.mv (.con (.c .nilS)))]) (.seq (.seq (.region none [vo 20 (.load 10 true 2), vo 21 (.call 29 [20]), vo 22 (.lenS 21), vo 23 (.mv (kI 0))]) (.block 0 (.loop (.seq (.region none [vo 24 (.bin .lss 23 22)]) (.seq (.cond 24 .skip (.exit 0)) (.seq (.block 1 (.seq (.region none [vo 25 (.ixA 7 21 23), vo 26 (.load 7 true 25), vo 9 (.alloc 55 [(iI 0),(iI 0),(iI 0),(iI 0),(iI 0),(iI 0),(iI 0)]), vp (.store 7 9 26)]) (.seq (.region none [vo 27 (.fld 0 9), vo 28 (.load 1 false 27), vo 29 (.load 1 false 3), vo 30 (.bin .eql 28 29)]) (.cond 30 (.region none [vo 31 (.mv 7), vo 32 (.load 7 true 9), vo 33 (.call 30 [32]), vo 34 (.bsl 3 1 1 [(iI 0)] [(0,1,33)]), vo 35 (.app 3 1 8 31 34), vo 7 (.mv 35)]) .skip)))) (.region none [vo 36 (.bin .add 23 (kI 1)), vo 23 (.mv 36)]))))))) (.seq (.region none [vo 37 (.mv 7), vo 4 (.mv 37), vo 5 (.mv (kI 0))]) .ret))))))
theorem c11 : (Tryz.f11.body.bind fun c => cCode Tryz.prog 38 c) = some v11 := by kernel_rfl
def v13 : VC := (.seq (.region none [vo 1 (.box 33 0), vo 2 (.mv (.con (.c .nilS))), vo 3 (.mv (kI 0))]) (.seq (.seq (.region none [vo 8 (.load 10 true 1), vo 9 (.call 23 [8]), vo 4 (.mv 9)]) (.seq (.region none [vo 10 (.mv 4), vo 11 (.bin .neq 10 (kI 0))]) (.cond 11 (.seq (.region none [vo 12 (.mv 4), vo 2 (.mv (.con (.c .nilS))), vo 3 (.mv 12)]) .ret) .skip))) (.seq (.region none [vo 5 (.mv (.con (.c .nilS)))]) (.seq (.seq (.region none [vo 13 (.load 10 true 1), vo 14 (.call 29 [13]), vo 15 (.lenS 14), vo 16 (.mv (kI 0))]) (.block 0 (.loop (.seq (.region none [vo 17 (.bin .lss 16 15)]) (.seq (.cond 17 .skip (.exit 0)) (.seq (.block 1 (.seq (.region none [vo 18 (.ixA 7 14 16), vo 19 (.load 7 true 18), vo 7 (.alloc 55 [(iI 0),(iI 0),(iI 0),(iI 0),(iI 0),(iI 0),(iI 0)]), vp (.store 7 7 19)]) (.region none [vo 20 (.mv 5), vo 21 (.load 7 true 7), vo 22 (.call 30 [21]), vo 23 (.bsl 3 1 1 [(iI 0)] [(0,1,22)]), vo 24 (.app 3 1 8 20 23), vo 5 (.mv 24)]))) (.region none [vo 25 (.bin .add 16 (kI 1)), vo 16 (.mv 25)]))))))) (.seq (.region none [vo 26 (.mv 5), vo 27 (.call 35 [26])]) (.seq (.region none [vo 28 (.mv 5), vo 2 (.mv 28), vo 3 (.mv (kI 0))]) .ret))))))
theorem c13 : (Tryz.f13.body.bind fun c => cCode Tryz.prog 29 c) = some v13 := by kernel_rfl
def v57 : VC := (.seq (.region none [vo 4 (.mv (.con (.c (.imm (.sc (.int .u64 0)))))), vo 5 (.mv (.con (.c (.imm (.sc (.int .u64 0))))))]) (.seq (.region none [vo 14 (.mv 0), vo 15 (.bin .and 14 (.con (.c (.imm (.sc (.int .u64 4294967295)))))), vo 6 (.mv 15)]) (.seq (.region none [vo 16 (.mv 0), vo 17 (.bin .shr 16 (.con (.c (.imm (.sc (.int .u64 32)))))), vo 7 (.mv 17)]) (.seq (.region none [vo 18 (.mv 1), vo 19 (.bin .and 18 (.con (.c (.imm (.sc (.int .u64 4294967295)))))), vo 8 (.mv 19)]) (.seq (.region none [vo 20 (.mv 1), vo 21 (.bin .shr 20 (.con (.c (.imm (.sc (.int .u64 32)))))), vo 9 (.mv 21)]) (.seq (.region none [vo 22 (.mv 6), vo 23 (.mv 8), vo 24 (.bin .mul 22 23), vo 10 (.mv 24)]) (.seq (.region none [vo 25 (.mv 7), vo 26 (.mv 8), vo 27 (.bin .mul 25 26), vo 28 (.mv 10), vo 29 (.bin .shr 28 (.con (.c (.imm (.sc (.int .u64 32)))))), vo 30 (.bin .add 27 29), vo 11 (.mv 30)]) (.seq (.region none [vo 31 (.mv 11), vo 32 (.bin .and 31 (.con (.c (.imm (.sc (.int .u64 4294967295)))))), vo 12 (.mv 32)]) (.seq (.region none [vo 33 (.mv 11), vo 34 (.bin .shr 33 (.con (.c (.imm (.sc (.int .u64 32)))))), vo 13 (.mv 34)]) (.seq (.region none [vo 35 (.mv 12), vo 36 (.mv 6), vo 37 (.mv 9), vo 38 (.bin .mul 36 37), vo 39 (.bin .add 35 38), vo 12 (.mv 39)]) (.seq (.region none [vo 40 (.mv 7), vo 41 (.mv 9), vo 42 (.bin .mul 40 41), vo 43 (.mv 13), vo 44 (.bin .add 42 43), vo 45 (.mv 12), vo 46 (.bin .shr 45 (.con (.c (.imm (.sc (.int .u64 32)))))), vo 47 (.bin .add 44 46), vo 4 (.mv 47)]) (.seq (.region none [vo 48 (.mv 0), vo 49 (.mv 1), vo 50 (.bin .mul 48 49), vo 5 (.mv 50)]) .ret))))))))))))
theorem c57 : (Tryz.f57.body.bind fun c => cCode Tryz.prog 51 c) = some v57 := by kernel_rfl
def v60 : VC := (.seq (.region none [vo 2 (.mv (kI 0))]) (.seq (.seq (.region none [vo 3 (.mv 0), vo 4 (.bin .geq 3 (.con (.c (.imm (.sc (.int .u64 4294967296))))))]) (.cond 4 (.seq (.region none [vo 5 (.mv 0), vo 6 (.bin .shr 5 (.con (.c (.imm (.sc (.int .u64 32)))))), vo 0 (.mv 6)]) (.region none [vo 2 (.mv (kI 32))])) .skip)) (.seq (.seq (.region none [vo 7 (.mv 0), vo 8 (.bin .geq 7 (.con (.c (.imm (.sc (.int .u64 65536))))))]) (.cond 8 (.seq (.region none [vo 9 (.mv 0), vo 10 (.bin .shr 9 (.con (.c (.imm (.sc (.int .u64 16)))))), vo 0 (.mv 10)]) (.region none [vo 11 (.mv 2), vo 12 (.bin .add 11 (kI 16)), vo 2 (.mv 12)])) .skip)) (.seq (.seq (.region none [vo 13 (.mv 0), vo 14 (.bin .geq 13 (.con (.c (.imm (.sc (.int .u64 256))))))]) (.cond 14 (.seq (.region none [vo 15 (.mv 0), vo 16 (.bin .shr 15 (.con (.c (.imm (.sc (.int .u64 8)))))), vo 0 (.mv 16)]) (.region none [vo 17 (.mv 2), vo 18 (.bin .add 17 (kI 8)), vo 2 (.mv 18)])) .skip)) (.seq (.region none [vo 19 (.mv 2), vo 20 (.mv 0), vo 21 (.cvi .u8 20), vo 22 (.ixS (.con (.c (.imm (.sc (.string ⟨#[0,1,2,2,3,3,3,3,4,4,4,4,4,4,4,4,5,5,5,5,5,5,5,5,5,5,5,5,5,5,5,5,6,6,6,6,6,6,6,6,6,6,6,6,6,6,6,6,6,6,6,6,6,6,6,6,6,6,6,6,6,6,6,6,7,7,7,7,7,7,7,7,7,7,7,7,7,7,7,7,7,7,7,7,7,7,7,7,7,7,7,7,7,7,7,7,7,7,7,7,7,7,7,7,7,7,7,7,7,7,7,7,7,7,7,7,7,7,7,7,7,7,7,7,7,7,7,7,8,8,8,8,8,8,8,8,8,8,8,8,8,8,8,8,8,8,8,8,8,8,8,8,8,8,8,8,8,8,8,8,8,8,8,8,8,8,8,8,8,8,8,8,8,8,8,8,8,8,8,8,8,8,8,8,8,8,8,8,8,8,8,8,8,8,8,8,8,8,8,8,8,8,8,8,8,8,8,8,8,8,8,8,8,8,8,8,8,8,8,8,8,8,8,8,8,8,8,8,8,8,8,8,8,8,8,8,8,8,8,8,8,8,8,8,8,8,8,8,8,8,8,8,8,8,8,8]⟩))))) 21), vo 23 (.cvi .i64 22), vo 24 (.bin .add 19 23), vo 2 (.mv 24)]) .ret)))))
theorem c60 : (Tryz.f60.body.bind fun c => cCode Tryz.prog 25 c) = some v60 := by kernel_rfl
def v58 : VC := (.seq (.region none [vo 6 (.mv (.con (.c (.imm (.sc (.int .u64 0)))))), vo 7 (.mv (.con (.c (.imm (.sc (.int .u64 0))))))]) (.seq (.seq (.region none [vo 19 (.mv 2), vo 20 (.bin .eql 19 (.con (.c (.imm (.sc (.int .u64 0))))))]) (.cond 20 .bad .skip)) (.seq (.seq (.region none [vo 22 (.mv 2), vo 23 (.mv 0), vo 24 (.bin .leq 22 23)]) (.cond 24 .bad .skip)) (.seq (.seq (.region none [vo 26 (.mv 0), vo 27 (.bin .eql 26 (.con (.c (.imm (.sc (.int .u64 0))))))]) (.cond 27 (.seq (.region (some [0,0,3,0,0,24,7,127]) [vo 28 (.mv 1), vo 29 (.mv 2), vo 30 (.bin .quo 28 29), vo 31 (.mv 1), vo 32 (.mv 2), vo 33 (.bin .rem 31 32), vo 6 (.mv 30), vo 7 (.mv 33)]) .ret) .skip)) (.seq (.region none [vo 34 (.mv 2), vo 35 (.call 107 [34]), vo 36 (.cvi .u64 35), vo 8 (.mv 36)]) (.seq (.region none [vo 37 (.mv 2), vo 38 (.mv 8), vo 39 (.bin .shl 37 38), vo 2 (.mv 39)]) (.seq (.region none [vo 40 (.mv 2), vo 41 (.bin .shr 40 (.con (.c (.imm (.sc (.int .u64 32)))))), vo 9 (.mv 41)]) (.seq (.region none [vo 42 (.mv 2), vo 43 (.bin .and 42 (.con (.c (.imm (.sc (.int .u64 4294967295)))))), vo 10 (.mv 43)]) (.seq (.region none [vo 44 (.mv 0), vo 45 (.mv 8), vo 46 (.bin .shl 44 45), vo 47 (.mv 1), vo 48 (.mv 8), vo 49 (.bin .sub (.con (.c (.imm (.sc (.int .u64 64))))) 48), vo 50 (.bin .shr 47 49), vo 51 (.bin .or 46 50), vo 11 (.mv 51)]) (.seq (.region none [vo 52 (.mv 1), vo 53 (.mv 8), vo 54 (.bin .shl 52 53), vo 12 (.mv 54)]) (.seq (.region none [vo 55 (.mv 12), vo 56 (.bin .shr 55 (.con (.c (.imm (.sc (.int .u64 32)))))), vo 13 (.mv 56)]) (.seq (.region none [vo 57 (.mv 12), vo 58 (.bin .and 57 (.con (.c (.imm (.sc (.int .u64 4294967295)))))), vo 14 (.mv 58)]) (.seq (.region none [vo 59 (.mv 11), vo 60 (.mv 9), vo 61 (.bin .quo 59 60), vo 15 (.mv 61)]) (.seq (.region none [vo 62 (.mv 11), vo 63 (.mv 15), vo 64 (.mv 9), vo 65 (.bin .mul 63 64), vo 66 (.bin .sub 62 65), vo 16 (.mv 66)]) (.seq (.block 0 (.loop (.seq (.seq (.region none [vo 67 (.mv 15), vo 68 (.bin .geq 67 (.con (.c (.imm (.sc (.int .u64 4294967296)))))), vo 69 (.mv 68), vg 70 69 false (.mv 15), vg 71 69 false (.mv 10), vg 72 69 false (.bin .mul 70 71), vg 73 69 false (.mv 16), vg 74 69 false (.bin .mul (.con (.c (.imm (.sc (.int .u64 4294967296))))) 73), vg 75 69 false (.mv 13), vg 76 69 false (.bin .add 74 75), vg 77 69 false (.bin .gtr 72 76), vo 78 (.pick 69 (kB true) 77)]) (.cond 78 .skip (.exit 0))) (.block 1 (.seq (.region none [vo 79 (.mv 15), vo 80 (.bin .sub 79 (.con (.c (.imm (.sc (.int .u64 1)))))), vo 15 (.mv 80)]) (.seq (.region none [vo 81 (.mv 16), vo 82 (.mv 9), vo 83 (.bin .add 81 82), vo 16 (.mv 83)]) (.seq (.region none [vo 84 (.mv 16), vo 85 (.bin .geq 84 (.con (.c (.imm (.sc (.int .u64 4294967296))))))]) (.cond 85 (.exit 0) .skip)))))))) (.seq (.region none [vo 86 (.mv 11), vo 87 (.bin .mul 86 (.con (.c (.imm (.sc (.int .u64 4294967296)))))), vo 88 (.mv 13), vo 89 (.bin .add 87 88), vo 90 (.mv 15), vo 91 (.mv 2), vo 92 (.bin .mul 90 91), vo 93 (.bin .sub 89 92), vo 17 (.mv 93)]) (.seq (.region none [vo 94 (.mv 17), vo 95 (.mv 9), vo 96 (.bin .quo 94 95), vo 18 (.mv 96)]) (.seq (.region none [vo 97 (.mv 17), vo 98 (.mv 18), vo 99 (.mv 9), vo 100 (.bin .mul 98 99), vo 101 (.bin .sub 97 100), vo 16 (.mv 101)]) (.seq (.block 2 (.loop (.seq (.seq (.region none [vo 102 (.mv 18), vo 103 (.bin .geq 102 (.con (.c (.imm (.sc (.int .u64 4294967296)))))), vo 104 (.mv 103), vg 105 104 false (.mv 18), vg 106 104 false (.mv 10), vg 107 104 false (.bin .mul 105 106), vg 108 104 false (.mv 16), vg 109 104 false (.bin .mul (.con (.c (.imm (.sc (.int .u64 4294967296))))) 108), vg 110 104 false (.mv 14), vg 111 104 false (.bin .add 109 110), vg 112 104 false (.bin .gtr 107 111), vo 113 (.pick 104 (kB true) 112)]) (.cond 113 .skip (.exit 2))) (.block 3 (.seq (.region none [vo 114 (.mv 18), vo 115 (.bin .sub 114 (.con (.c (.imm (.sc (.int .u64 1)))))), vo 18 (.mv 115)]) (.seq (.region none [vo 116 (.mv 16), vo 117 (.mv 9), vo 118 (.bin .add 116 117), vo 16 (.mv 118)]) (.seq (.region none [vo 119 (.mv 16), vo 120 (.bin .geq 119 (.con (.c (.imm (.sc (.int .u64 4294967296))))))]) (.cond 120 (.exit 2) .skip)))))))) (.seq (.region none [vo 121 (.mv 15), vo 122 (.bin .mul 121 (.con (.c (.imm (.sc (.int .u64 4294967296)))))), vo 123 (.mv 18), vo 124 (.bin .add 122 123), vo 125 (.mv 17), vo 126 (.bin .mul 125 (.con (.c (.imm (.sc (.int .u64 4294967296)))))), vo 127 (.mv 14), vo 128 (.bin .add 126 127), vo 129 (.mv 18), vo 130 (.mv 2), vo 131 (.bin .mul 129 130), vo 132 (.bin .sub 128 131), vo 133 (.mv 8), vo 134 (.bin .shr 132 133), vo 6 (.mv 124), vo 7 (.mv 134)]) .ret))))))))))))))))))))
theorem c58 : (Tryz.f58.body.bind fun c => cCode Tryz.prog 135 c) = some v58 := by kernel_rfl
def v40 : VC := (.seq (.region none [vo 6 (.mv (kI 0)), vo 7 (.mv (kB false))]) (.seq (.seq (.region none [vo 13 (.mv 0), vo 14 (.lenS 13), vo 15 (.bin .eql 14 (kI 0)), vo 16 (.mv 15), vg 17 16 false (.mv 2), vg 18 16 false (.bin .lss 17 (kI 1)), vo 19 (.pick 16 (kB true) 18), vo 20 (.mv 19), vg 21 20 false (.mv 2), vg 22 20 false (.bin .gtr 21 (kI 1000000000000000)), vo 23 (.pick 20 (kB true) 22), vo 24 (.mv 23), vg 25 24 false (.mv 1), vg 26 24 false (.bin .lss 25 (kI 0)), vo 27 (.pick 24 (kB true) 26), vo 28 (.mv 27), vg 29 28 false (.mv 1), vg 30 28 false (.mv 2), vg 31 28 false (.bin .gtr 29 30), vo 32 (.pick 28 (kB true) 31)]) (.cond 32 (.seq (.region none [vo 6 (.mv (kI 0)), vo 7 (.mv (kB false))]) .ret) .skip)) (.seq (.region none [vo 33 (.mv 0), vo 34 (.call 56 [33]), vo 35 (.call 55 [34]), vo 8 (.mv 35)]) (.seq (.region none [vo 37 (.mv 1), vo 38 (.cvi .u64 37), vo 39 (.mv 0), vo 40 (.lenS 39), vo 41 (.cvi .u64 40), vo 42 (.call 57 [38,41]), vo 36 (.mv 42), vo 43 (.ext 36 0), vo 44 (.ext 36 1), vo 9 (.mv 43), vo 10 (.mv 44)]) (.seq (.region none [vo 46 (.mv 9), vo 47 (.mv 10), vo 48 (.mv 2), vo 49 (.cvi .u64 48), vo 50 (.call 58 [46,47,49]), vo 45 (.mv 50), vo 51 (.ext 45 0), vo 52 (.ext 45 1), vo 11 (.mv 51), vo 12 (.mv 52)]) (.seq (.seq (.region none [vo 53 (.mv 12), vo 54 (.bin .gtr 53 (.con (.c (.imm (.sc (.int .u64 0))))))]) (.cond 54 (.region none [vo 55 (.mv 11), vo 56 (.bin .add 55 (.con (.c (.imm (.sc (.int .u64 1)))))), vo 11 (.mv 56)]) .skip)) (.seq (.region none [vo 57 (.mv 8), vo 58 (.mv 11), vo 59 (.mm true [58,(.con (.c (.imm (.sc (.int .u64 1)))))]), vo 60 (.bin .sub 59 (.con (.c (.imm (.sc (.int .u64 1)))))), vo 61 (.ixA 1 57 60), vo 62 (.load 1 false 61), vo 6 (.mv 62), vo 7 (.mv (kB true))]) .ret)))))))
theorem c40 : (Tryz.f40.body.bind fun c => cCode Tryz.prog 63 c) = some v40 := by kernel_rfl
def v19 : VC := (.seq (.region none [vo 3 (.box 33 0), vo 6 (.mv (kI 0)), vo 7 (.mv (kI 0))]) (.seq (.region none [vo 13 (.load 10 true 3), vo 14 (.call 13 [13]), vo 12 (.mv 14), vo 15 (.ext 12 0), vo 16 (.ext 12 1), vo 8 (.mv 15), vo 9 (.mv 16)]) (.seq (.seq (.region none [vo 17 (.mv 9), vo 18 (.bin .neq 17 (kI 0))]) (.cond 18 (.seq (.region none [vo 19 (.mv 9), vo 6 (.mv (kI 0)), vo 7 (.mv 19)]) .ret) .skip)) (.seq (.region none [vo 21 (.mv 8), vo 22 (.mv 1), vo 23 (.mv 2), vo 24 (.call 40 [21,22,23]), vo 20 (.mv 24), vo 25 (.ext 20 0), vo 26 (.ext 20 1), vo 10 (.mv 25), vo 11 (.mv 26)]) (.seq (.seq (.region none [vo 27 (.mv 11), vo 28 (.un .not 27)]) (.cond 28 (.seq (.region none [vo 6 (.mv (kI 0)), vo 7 (.mv (kI 1))]) .ret) .skip)) (.seq (.region none [vo 29 (.mv 10), vo 6 (.mv 29), vo 7 (.mv (kI 0))]) .ret))))))
theorem c19 : (Tryz.f19.body.bind fun c => cCode Tryz.prog 30 c) = some v19 := by kernel_rfl
def v38 : VC := (.seq (.region none [vo 2 (.box 55 0), vo 3 (.box 55 1), vo 4 (.mv (kI 0))]) (.seq (.region (some [0,1,0,7,15,31]) [vo 5 (.load 7 true 3), vo 6 (.call 30 [5]), vo 7 (.load 7 true 2), vo 8 (.call 30 [7]), vo 9 (.call 39 [6,8]), vo 4 (.mv 9)]) .ret))
theorem c38 : (Tryz.f38.body.bind fun c => cCode Tryz.prog 10 c) = some v38 := by kernel_rfl
def v103 : VC := (.seq (.region none [vo 10 (.mv 1), vo 11 (.bin .add 10 (kI 1)), vo 8 (.mv 11)]) (.block 0 (.loop (.seq (.seq (.region none [vo 12 (.mv 8), vo 13 (.mv 2), vo 14 (.bin .lss 12 13)]) (.cond 14 .skip (.exit 0))) (.seq (.block 1 (.seq (.region none [vo 17 (.mv 8), vo 9 (.mv 17)]) (.block 2 (.loop (.seq (.seq (.region (some [0,0,3,7,15,15,15,111,239,15,15,1039,3599,7695,16383,32767,65535]) [vo 18 (.mv 9), vo 19 (.mv 1), vo 20 (.bin .gtr 18 19), vo 21 (.mv 20), vg 22 21 true (.mv 3), vg 23 21 true (.mv 0), vg 24 21 true (.mv 9), vg 25 21 true (.ixA 7 23 24), vg 26 21 true (.load 7 true 25), vg 27 21 true (.mv 0), vg 28 21 true (.mv 9), vg 29 21 true (.bin .sub 28 (kI 1)), vg 30 21 true (.ixA 7 27 29), vg 31 21 true (.load 7 true 30), vg 32 21 true (.callv 22 [26,31]), vg 33 21 true (.bin .lss 32 (kI 0)), vo 34 (.pick 21 33 (kB false))]) (.cond 34 .skip (.exit 2))) (.seq (.block 3 (.region (some [0,0,0,0,8,0,0,64,224,480,0,0,3072,7168,16355,32739,65535,131071]) [vo 37 (.mv 0), vo 38 (.mv 9), vo 39 (.mv 0), vo 40 (.mv 9), vo 41 (.bin .sub 40 (kI 1)), vo 42 (.mv 0), vo 43 (.mv 9), vo 44 (.bin .sub 43 (kI 1)), vo 45 (.ixA 7 42 44), vo 46 (.load 7 true 45), vo 47 (.mv 0), vo 48 (.mv 9), vo 49 (.ixA 7 47 48), vo 50 (.load 7 true 49), vo 51 (.ixA 7 37 38), vp (.store 7 51 46), vo 52 (.ixA 7 39 41), vp (.store 7 52 50)])) (.region none [vo 35 (.mv 9), vo 36 (.bin .sub 35 (kI 1)), vo 9 (.mv 36)]))))))) (.region none [vo 15 (.mv 8), vo 16 (.bin .add 15 (kI 1)), vo 8 (.mv 16)]))))))
theorem c103 : (Tryz.f103.body.bind fun c => cCode Tryz.prog 53 c) = some v103 := by kernel_rfl
def v161 : VC := (.seq (.region none [vo 10 (.mv (kI 0))]) (.block 0 (.loop (.seq (.seq (.region none [vo 11 (.mv 10), vo 12 (.mv 3), vo 13 (.bin .lss 11 12)]) (.cond 13 .skip (.exit 0))) (.seq (.block 1 (.region (some [0,0,0,6,0,0,0,96,0,0,0,1536,3840,7936,0,0,0,98304,245760,507904,1048335,2096911,4194303,8388607]) [vo 16 (.mv 0), vo 17 (.mv 1), vo 18 (.mv 10), vo 19 (.bin .add 17 18), vo 20 (.mv 0), vo 21 (.mv 2), vo 22 (.mv 10), vo 23 (.bin .add 21 22), vo 24 (.mv 0), vo 25 (.mv 2), vo 26 (.mv 10), vo 27 (.bin .add 25 26), vo 28 (.ixA 7 24 27), vo 29 (.load 7 true 28), vo 30 (.mv 0), vo 31 (.mv 1), vo 32 (.mv 10), vo 33 (.bin .add 31 32), vo 34 (.ixA 7 30 33), vo 35 (.load 7 true 34), vo 36 (.ixA 7 16 19), vp (.store 7 36 29), vo 37 (.ixA 7 20 23), vp (.store 7 37 35)])) (.region none [vo 14 (.mv 10), vo 15 (.bin .add 14 (kI 1)), vo 10 (.mv 15)]))))))
theorem c161 : (Tryz.f161.body.bind fun c => cCode Tryz.prog 38 c) = some v161 := by kernel_rfl
def v142 : VC := (.seq (.region none [vo 12 (.mv 2), vo 13 (.mv 1), vo 14 (.bin .sub 12 13), vo 10 (.mv 14)]) (.seq (.region none [vo 15 (.mv 3), vo 16 (.mv 2), vo 17 (.bin .sub 15 16), vo 11 (.mv 17)]) (.seq (.block 0 (.loop (.seq (.seq (.region none [vo 18 (.mv 10), vo 19 (.mv 11), vo 20 (.bin .neq 18 19)]) (.cond 20 .skip (.exit 0))) (.block 1 (.seq (.region none [vo 21 (.mv 10), vo 22 (.mv 11), vo 23 (.bin .gtr 21 22)]) (.cond 23 (.seq (.region none [vo 24 (.mv 0), vo 25 (.mv 2), vo 26 (.mv 10), vo 27 (.bin .sub 25 26), vo 28 (.mv 2), vo 29 (.mv 11), vo 30 (.mv 4), vo 31 (.call 161 [24,27,28,29,30])]) (.region none [vo 32 (.mv 10), vo 33 (.mv 11), vo 34 (.bin .sub 32 33), vo 10 (.mv 34)])) (.seq (.region none [vo 35 (.mv 0), vo 36 (.mv 2), vo 37 (.mv 10), vo 38 (.bin .sub 36 37), vo 39 (.mv 2), vo 40 (.mv 11), vo 41 (.bin .add 39 40), vo 42 (.mv 10), vo 43 (.bin .sub 41 42), vo 44 (.mv 10), vo 45 (.mv 4), vo 46 (.call 161 [35,38,43,44,45])]) (.region none [vo 47 (.mv 11), vo 48 (.mv 10), vo 49 (.bin .sub 47 48), vo 11 (.mv 49)])))))))) (.region none [vo 50 (.mv 0), vo 51 (.mv 2), vo 52 (.mv 10), vo 53 (.bin .sub 51 52), vo 54 (.mv 2), vo 55 (.mv 10), vo 56 (.mv 4), vo 57 (.call 161 [50,53,54,55,56])]))))
theorem c142 : (Tryz.f142.body.bind fun c => cCode Tryz.prog 58 c) = some v142 := by kernel_rfl
def v104 : VC := (.seq (.seq (.region none [vo 25 (.mv 2), vo 26 (.mv 1), vo 27 (.bin .sub 25 26), vo 28 (.bin .eql 27 (kI 1))]) (.cond 28 (.seq (.region none [vo 29 (.mv 2), vo 10 (.mv 29)]) (.seq (.region none [vo 30 (.mv 3), vo 11 (.mv 30)]) (.seq (.block 0 (.loop (.seq (.seq (.region none [vo 31 (.mv 10), vo 32 (.mv 11), vo 33 (.bin .lss 31 32)]) (.cond 33 .skip (.exit 0))) (.block 1 (.seq (.region none [vo 34 (.mv 10), vo 35 (.mv 11), vo 36 (.bin .add 34 35), vo 37 (.cvi .u64 36), vo 38 (.bin .shr 37 (.con (.c (.imm (.sc (.int .u64 1)))))), vo 39 (.cvi .i64 38), vo 12 (.mv 39)]) (.seq (.region (some [0,0,0,6,14,0,0,96,224,511,1023]) [vo 40 (.mv 4), vo 41 (.mv 0), vo 42 (.mv 12), vo 43 (.ixA 7 41 42), vo 44 (.load 7 true 43), vo 45 (.mv 0), vo 46 (.mv 1), vo 47 (.ixA 7 45 46), vo 48 (.load 7 true 47), vo 49 (.callv 40 [44,48]), vo 50 (.bin .lss 49 (kI 0))]) (.cond 50 (.region none [vo 51 (.mv 12), vo 52 (.bin .add 51 (kI 1)), vo 10 (.mv 52)]) (.region none [vo 53 (.mv 12), vo 11 (.mv 53)])))))))) (.seq (.seq (.region none [vo 54 (.mv 1), vo 13 (.mv 54)]) (.block 2 (.loop (.seq (.seq (.region none [vo 55 (.mv 13), vo 56 (.mv 10), vo 57 (.bin .sub 56 (kI 1)), vo 58 (.bin .lss 55 57)]) (.cond 58 .skip (.exit 2))) (.seq (.block 3 (.region (some [0,0,0,0,8,0,0,64,224,480,0,0,3072,7168,16355,32739,65535,131071]) [vo 61 (.mv 0), vo 62 (.mv 13), vo 63 (.mv 0), vo 64 (.mv 13), vo 65 (.bin .add 64 (kI 1)), vo 66 (.mv 0), vo 67 (.mv 13), vo 68 (.bin .add 67 (kI 1)), vo 69 (.ixA 7 66 68), vo 70 (.load 7 true 69), vo 71 (.mv 0), vo 72 (.mv 13), vo 73 (.ixA 7 71 72), vo 74 (.load 7 true 73), vo 75 (.ixA 7 61 62), vp (.store 7 75 70), vo 76 (.ixA 7 63 65), vp (.store 7 76 74)])) (.region none [vo 59 (.mv 13), vo 60 (.bin .add 59 (kI 1)), vo 13 (.mv 60)])))))) .ret)))) .skip)) (.seq (.seq (.region none [vo 77 (.mv 3), vo 78 (.mv 2), vo 79 (.bin .sub 77 78), vo 80 (.bin .eql 79 (kI 1))]) (.cond 80 (.seq (.region none [vo 81 (.mv 1), vo 14 (.mv 81)]) (.seq (.region none [vo 82 (.mv 2), vo 15 (.mv 82)]) (.seq (.block 4 (.loop (.seq (.seq (.region none [vo 83 (.mv 14), vo 84 (.mv 15), vo 85 (.bin .lss 83 84)]) (.cond 85 .skip (.exit 4))) (.block 5 (.seq (.region none [vo 86 (.mv 14), vo 87 (.mv 15), vo 88 (.bin .add 86 87), vo 89 (.cvi .u64 88), vo 90 (.bin .shr 89 (.con (.c (.imm (.sc (.int .u64 1)))))), vo 91 (.cvi .i64 90), vo 16 (.mv 91)]) (.seq (.region (some [0,0,0,6,14,0,0,96,224,511,1023,2047]) [vo 92 (.mv 4), vo 93 (.mv 0), vo 94 (.mv 2), vo 95 (.ixA 7 93 94), vo 96 (.load 7 true 95), vo 97 (.mv 0), vo 98 (.mv 16), vo 99 (.ixA 7 97 98), vo 100 (.load 7 true 99), vo 101 (.callv 92 [96,100]), vo 102 (.bin .lss 101 (kI 0)), vo 103 (.un .not 102)]) (.cond 103 (.region none [vo 104 (.mv 16), vo 105 (.bin .add 104 (kI 1)), vo 14 (.mv 105)]) (.region none [vo 106 (.mv 16), vo 15 (.mv 106)])))))))) (.seq (.seq (.region none [vo 107 (.mv 2), vo 17 (.mv 107)]) (.block 6 (.loop (.seq (.seq (.region none [vo 108 (.mv 17), vo 109 (.mv 14), vo 110 (.bin .gtr 108 109)]) (.cond 110 .skip (.exit 6))) (.seq (.block 7 (.region (some [0,0,0,0,8,0,0,64,224,480,0,0,3072,7168,16355,32739,65535,131071]) [vo 113 (.mv 0), vo 114 (.mv 17), vo 115 (.mv 0), vo 116 (.mv 17), vo 117 (.bin .sub 116 (kI 1)), vo 118 (.mv 0), vo 119 (.mv 17), vo 120 (.bin .sub 119 (kI 1)), vo 121 (.ixA 7 118 120), vo 122 (.load 7 true 121), vo 123 (.mv 0), vo 124 (.mv 17), vo 125 (.ixA 7 123 124), vo 126 (.load 7 true 125), vo 127 (.ixA 7 113 114), vp (.store 7 127 122), vo 128 (.ixA 7 115 117), vp (.store 7 128 126)])) (.region none [vo 111 (.mv 17), vo 112 (.bin .sub 111 (kI 1)), vo 17 (.mv 112)])))))) .ret)))) .skip)) (.seq (.region none [vo 129 (.mv 1), vo 130 (.mv 3), vo 131 (.bin .add 129 130), vo 132 (.cvi .u64 131), vo 133 (.bin .shr 132 (.con (.c (.imm (.sc (.int .u64 1)))))), vo 134 (.cvi .i64 133), vo 18 (.mv 134)]) (.seq (.region none [vo 135 (.mv 18), vo 136 (.mv 2), vo 137 (.bin .add 135 136), vo 19 (.mv 137)]) (.seq (.region none [vo 20 (.mv (kI 0)), vo 21 (.mv (kI 0))]) (.seq (.seq (.region none [vo 138 (.mv 2), vo 139 (.mv 18), vo 140 (.bin .gtr 138 139)]) (.cond 140 (.seq (.region none [vo 141 (.mv 19), vo 142 (.mv 3), vo 143 (.bin .sub 141 142), vo 20 (.mv 143)]) (.region none [vo 144 (.mv 18), vo 21 (.mv 144)])) (.seq (.region none [vo 145 (.mv 1), vo 20 (.mv 145)]) (.region none [vo 146 (.mv 2), vo 21 (.mv 146)])))) (.seq (.region none [vo 147 (.mv 19), vo 148 (.bin .sub 147 (kI 1)), vo 22 (.mv 148)]) (.seq (.block 8 (.loop (.seq (.seq (.region none [vo 149 (.mv 20), vo 150 (.mv 21), vo 151 (.bin .lss 149 150)]) (.cond 151 .skip (.exit 8))) (.block 9 (.seq (.region none [vo 152 (.mv 20), vo 153 (.mv 21), vo 154 (.bin .add 152 153), vo 155 (.cvi .u64 154), vo 156 (.bin .shr 155 (.con (.c (.imm (.sc (.int .u64 1)))))), vo 157 (.cvi .i64 156), vo 23 (.mv 157)]) (.seq (.region (some [0,0,0,0,12,30,62,0,0,384,896,2047,4095,8191]) [vo 158 (.mv 4), vo 159 (.mv 0), vo 160 (.mv 22), vo 161 (.mv 23), vo 162 (.bin .sub 160 161), vo 163 (.ixA 7 159 162), vo 164 (.load 7 true 163), vo 165 (.mv 0), vo 166 (.mv 23), vo 167 (.ixA 7 165 166), vo 168 (.load 7 true 167), vo 169 (.callv 158 [164,168]), vo 170 (.bin .lss 169 (kI 0)), vo 171 (.un .not 170)]) (.cond 171 (.region none [vo 172 (.mv 23), vo 173 (.bin .add 172 (kI 1)), vo 20 (.mv 173)]) (.region none [vo 174 (.mv 23), vo 21 (.mv 174)])))))))) (.seq (.region none [vo 175 (.mv 19), vo 176 (.mv 20), vo 177 (.bin .sub 175 176), vo 24 (.mv 177)]) (.seq (.seq (.region none [vo 178 (.mv 20), vo 179 (.mv 2), vo 180 (.bin .lss 178 179), vo 181 (.mv 180), vg 182 181 true (.mv 2), vg 183 181 true (.mv 24), vg 184 181 true (.bin .lss 182 183), vo 185 (.pick 181 184 (kB false))]) (.cond 185 (.region none [vo 186 (.mv 0), vo 187 (.mv 20), vo 188 (.mv 2), vo 189 (.mv 24), vo 190 (.mv 4), vo 191 (.call 142 [186,187,188,189,190])]) .skip)) (.seq (.seq (.region none [vo 192 (.mv 1), vo 193 (.mv 20), vo 194 (.bin .lss 192 193), vo 195 (.mv 194), vg 196 195 true (.mv 20), vg 197 195 true (.mv 18), vg 198 195 true (.bin .lss 196 197), vo 199 (.pick 195 198 (kB false))]) (.cond 199 (.region none [vo 200 (.mv 0), vo 201 (.mv 1), vo 202 (.mv 20), vo 203 (.mv 18), vo 204 (.mv 4), vo 205 (.call 104 [200,201,202,203,204])]) .skip)) (.seq (.region none [vo 206 (.mv 18), vo 207 (.mv 24), vo 208 (.bin .lss 206 207), vo 209 (.mv 208), vg 210 209 true (.mv 24), vg 211 209 true (.mv 3), vg 212 209 true (.bin .lss 210 211), vo 213 (.pick 209 212 (kB false))]) (.cond 213 (.region none [vo 214 (.mv 0), vo 215 (.mv 18), vo 216 (.mv 24), vo 217 (.mv 3), vo 218 (.mv 4), vo 219 (.call 104 [214,215,216,217,218])]) .skip)))))))))))))
theorem c104 : (Tryz.f104.body.bind fun c => cCode Tryz.prog 220 c) = some v104 := by kernel_rfl
def v53 : VC := (.seq (.region none [vo 6 (.mv (kI 20))]) (.seq (.region none [vo 10 (.mv 6), vo 7 (.mv (kI 0)), vo 8 (.mv 10)]) (.seq (.block 0 (.loop (.seq (.seq (.region none [vo 11 (.mv 8), vo 12 (.mv 1), vo 13 (.bin .leq 11 12)]) (.cond 13 .skip (.exit 0))) (.block 1 (.seq (.region none [vo 14 (.mv 0), vo 15 (.mv 7), vo 16 (.mv 8), vo 17 (.mv 2), vo 18 (.call 103 [14,15,16,17])]) (.seq (.region none [vo 19 (.mv 8), vo 7 (.mv 19)]) (.region none [vo 20 (.mv 8), vo 21 (.mv 6), vo 22 (.bin .add 20 21), vo 8 (.mv 22)]))))))) (.seq (.region none [vo 23 (.mv 0), vo 24 (.mv 7), vo 25 (.mv 1), vo 26 (.mv 2), vo 27 (.call 103 [23,24,25,26])]) (.block 2 (.loop (.seq (.seq (.region none [vo 28 (.mv 6), vo 29 (.mv 1), vo 30 (.bin .lss 28 29)]) (.cond 30 .skip (.exit 2))) (.block 3 (.seq (.region none [vo 31 (.mv 6), vo 32 (.bin .mul (kI 2) 31), vo 7 (.mv (kI 0)), vo 8 (.mv 32)]) (.seq (.block 4 (.loop (.seq (.seq (.region none [vo 33 (.mv 8), vo 34 (.mv 1), vo 35 (.bin .leq 33 34)]) (.cond 35 .skip (.exit 4))) (.block 5 (.seq (.region none [vo 36 (.mv 0), vo 37 (.mv 7), vo 38 (.mv 7), vo 39 (.mv 6), vo 40 (.bin .add 38 39), vo 41 (.mv 8), vo 42 (.mv 2), vo 43 (.call 104 [36,37,40,41,42])]) (.seq (.region none [vo 44 (.mv 8), vo 7 (.mv 44)]) (.region none [vo 45 (.mv 8), vo 46 (.mv 6), vo 47 (.bin .mul (kI 2) 46), vo 48 (.bin .add 45 47), vo 8 (.mv 48)]))))))) (.seq (.seq (.region none [vo 49 (.mv 7), vo 50 (.mv 6), vo 51 (.bin .add 49 50), vo 9 (.mv 51)]) (.seq (.region none [vo 52 (.mv 9), vo 53 (.mv 1), vo 54 (.bin .lss 52 53)]) (.cond 54 (.region none [vo 55 (.mv 0), vo 56 (.mv 7), vo 57 (.mv 9), vo 58 (.mv 1), vo 59 (.mv 2), vo 60 (.call 104 [55,56,57,58,59])]) .skip))) (.region none [vo 61 (.mv 6), vo 62 (.bin .mul 61 (kI 2)), vo 6 (.mv 62)]))))))))))))
theorem c53 : (Tryz.f53.body.bind fun c => cCode Tryz.prog 63 c) = some v53 := by kernel_rfl
def v37 : VC := (.region none [vo 4 (.mv 0), vo 5 (.mv 0), vo 6 (.lenS 5), vo 7 (.mv 1), vo 8 (.call 53 [4,6,7])])
theorem c37 : (Tryz.f37.body.bind fun c => cCode Tryz.prog 9 c) = some v37 := by kernel_rfl
def v15 : VC := (.seq (.region none [vo 2 (.box 33 0), vo 4 (.mv (.con (.c .nilS))), vo 5 (.mv (kI 0))]) (.seq (.seq (.region none [vo 8 (.load 10 true 2), vo 9 (.call 23 [8]), vo 6 (.mv 9)]) (.seq (.region none [vo 10 (.mv 6), vo 11 (.bin .neq 10 (kI 0))]) (.cond 11 (.seq (.region none [vo 12 (.mv 6), vo 4 (.mv (.con (.c .nilS))), vo 5 (.mv 12)]) .ret) .skip))) (.seq (.seq (.region none [vo 13 (.mv 1), vo 14 (.bin .lss 13 (kI 0))]) (.cond 14 (.seq (.region none [vo 4 (.mv (.con (.c .nilS))), vo 5 (.mv (kI 2))]) .ret) .skip)) (.seq (.region none [vo 15 (.load 10 true 2), vo 16 (.call 29 [15]), vo 7 (.mv 16)]) (.seq (.region none [vo 17 (.mv 7), vo 18 (.call 37 [17,(.fn 38)])]) (.seq (.region none [vo 19 (.mv 7), vo 20 (.mv 1), vo 21 (.mv 7), vo 22 (.lenS 21), vo 23 (.mm false [20,22]), vo 24 (.sub 7 19 none (some 23)), vo 4 (.mv 24), vo 5 (.mv (kI 0))]) .ret))))))
theorem c15 : (Tryz.f15.body.bind fun c => cCode Tryz.prog 25 c) = some v15 := by kernel_rfl
def v17 : VC := (.seq (.region none [vo 4 (.mv (kB false))]) (.seq (.seq (.region none [vo 6 (.mv 0), vo 7 (.lenS 6), vo 8 (.mv 1), vo 9 (.lenS 8), vo 10 (.bin .neq 7 9)]) (.cond 10 (.seq (.region none [vo 4 (.mv (kB false))]) .ret) .skip)) (.seq (.seq (.region none [vo 5 (.mv (kI 0))]) (.block 0 (.loop (.seq (.seq (.region none [vo 11 (.mv 5), vo 12 (.mv 0), vo 13 (.lenS 12), vo 14 (.bin .lss 11 13)]) (.cond 14 .skip (.exit 0))) (.seq (.block 1 (.seq (.region (some [0,0,3,7,0,0,48,112,255]) [vo 17 (.mv 0), vo 18 (.mv 5), vo 19 (.ixA 1 17 18), vo 20 (.load 1 false 19), vo 21 (.mv 1), vo 22 (.mv 5), vo 23 (.ixA 1 21 22), vo 24 (.load 1 false 23), vo 25 (.bin .neq 20 24)]) (.cond 25 (.seq (.region none [vo 4 (.mv (kB false))]) .ret) .skip))) (.region none [vo 15 (.mv 5), vo 16 (.bin .add 15 (kI 1)), vo 5 (.mv 16)])))))) (.seq (.region none [vo 4 (.mv (kB true))]) .ret))))
theorem c17 : (Tryz.f17.body.bind fun c => cCode Tryz.prog 26 c) = some v17 := by kernel_rfl
def v42 : VC := (.seq (.region none [vo 2 (.mv (kI 0))]) (.seq (.cond (kB false) (.seq (.region none [vo 3 (.mv 0), vo 4 (.cvi .u32 3), vo 5 (.call 59 [4]), vo 2 (.mv 5)]) .ret) .skip) (.seq (.region none [vo 6 (.mv 0), vo 7 (.call 60 [6]), vo 2 (.mv 7)]) .ret)))
theorem c42 : (Tryz.f42.body.bind fun c => cCode Tryz.prog 8 c) = some v42 := by kernel_rfl
def v21 : VC := (.seq (.region none [vo 2 (.mv (.con (.c .nilS)))]) (.seq (.region none [vo 3 (.mv (.con (.c .nilS)))]) (.seq (.seq (.region none [vo 7 (.mv 0), vo 8 (.lenS 7), vo 9 (.mv (kI 0))]) (.block 0 (.loop (.seq (.region none [vo 10 (.bin .lss 9 8)]) (.seq (.cond 10 .skip (.exit 0)) (.seq (.block 1 (.seq (.region none [vo 11 (.ixA 1 7 9), vo 12 (.load 1 false 11), vo 5 (.mv 12)]) (.seq (.seq (.region none [vo 13 (.mv 5), vo 14 (.bin .lss 13 (kI 0))]) (.cond 14 (.exit 1) .skip)) (.seq (.region none [vo 15 (.mv 5), vo 16 (.cvi .u64 15), vo 17 (.call 42 [16]), vo 6 (.mv 17)]) (.seq (.block 2 (.loop (.seq (.seq (.region none [vo 18 (.mv 3), vo 19 (.lenS 18), vo 20 (.mv 6), vo 21 (.bin .leq 19 20)]) (.cond 21 .skip (.exit 2))) (.block 3 (.region none [vo 22 (.mv 3), vo 23 (.bsl 3 1 1 [(iI 0)] [(0,1,(kI 0))]), vo 24 (.app 3 1 8 22 23), vo 3 (.mv 24)]))))) (.region none [vo 25 (.mv 3), vo 26 (.mv 6), vo 27 (.ixA 1 25 26), vo 28 (.load 1 false 27), vo 29 (.bin .add 28 (kI 1)), vo 30 (.ixA 1 25 26), vp (.store 1 30 29)])))))) (.region none [vo 31 (.bin .add 9 (kI 1)), vo 9 (.mv 31)]))))))) (.seq (.region none [vo 32 (.mv 3), vo 2 (.mv 32)]) .ret))))
theorem c21 : (Tryz.f21.body.bind fun c => cCode Tryz.prog 33 c) = some v21 := by kernel_rfl
def v10 : VC := (.seq (.region none [vo 0 (.mv (kB false))]) (.seq (.region none [vo 16 (.call 26 []), vo 17 (.call 11 [16,(kI 1)]), vo 15 (.mv 17), vo 18 (.ext 15 0), vo 19 (.ext 15 1), vo 1 (.mv 18), vo 2 (.mv 19)]) (.seq (.region none [vo 21 (.call 26 []), vo 22 (.call 13 [21]), vo 20 (.mv 22), vo 23 (.ext 20 0), vo 24 (.ext 20 1), vo 3 (.mv 23), vo 4 (.mv 24)]) (.seq (.region none [vo 26 (.call 26 []), vo 27 (.call 19 [26,(kI 1),(kI 2)]), vo 25 (.mv 27), vo 28 (.ext 25 0), vo 29 (.ext 25 1), vo 5 (.mv 28), vo 6 (.mv 29)]) (.seq (.region none [vo 31 (.call 26 []), vo 32 (.call 19 [31,(kI 3),(kI 2)]), vo 30 (.mv 32), vo 33 (.ext 30 0), vo 34 (.ext 30 1), vo 7 (.mv 33), vo 8 (.mv 34)]) (.seq (.region none [vo 36 (.call 26 []), vo 37 (.call 15 [36,(kI 5)]), vo 35 (.mv 37), vo 38 (.ext 35 0), vo 39 (.ext 35 1), vo 9 (.mv 38), vo 10 (.mv 39)]) (.seq (.region none [vo 41 (.call 26 []), vo 42 (.call 11 [41,(kI 2)]), vo 40 (.mv 42), vo 43 (.ext 40 0), vo 44 (.ext 40 1), vo 11 (.mv 43), vo 12 (.mv 44)]) (.seq (.region none [vo 46 (.call 26 []), vo 47 (.call 15 [46,(kI (-1))]), vo 45 (.mv 47), vo 48 (.ext 45 0), vo 49 (.ext 45 1), vo 13 (.mv 48), vo 14 (.mv 49)]) (.seq (.region none [vo 50 (.mv 1), vo 51 (.bsl 3 1 1 [(iI 0)] [(0,1,(kI 4))]), vo 52 (.call 17 [50,51]), vo 53 (.mv 52), vg 54 53 true (.mv 2), vg 55 53 true (.bin .eql 54 (kI 0)), vo 56 (.pick 53 55 (kB false)), vo 57 (.mv 56), vg 58 57 true (.mv 3), vg 59 57 true (.bsl 3 1 1 [(iI 0)] [(0,1,(kI 4))]), vg 60 57 true (.call 17 [58,59]), vo 61 (.pick 57 60 (kB false)), vo 62 (.mv 61), vg 63 62 true (.mv 4), vg 64 62 true (.bin .eql 63 (kI 0)), vo 65 (.pick 62 64 (kB false)), vo 66 (.mv 65), vg 67 66 true (.mv 5), vg 68 66 true (.bin .eql 67 (kI 4)), vo 69 (.pick 66 68 (kB false)), vo 70 (.mv 69), vg 71 70 true (.mv 6), vg 72 70 true (.bin .eql 71 (kI 0)), vo 73 (.pick 70 72 (kB false)), vo 74 (.mv 73), vg 75 74 true (.mv 8), vg 76 74 true (.bin .eql 75 (kI 1)), vo 77 (.pick 74 76 (kB false)), vo 78 (.mv 77), vg 79 78 true (.mv 9), vg 80 78 true (.lenS 79), vg 81 78 true (.bin .eql 80 (kI 1)), vo 82 (.pick 78 81 (kB false)), vo 83 (.mv 82), vg 84 83 true (.mv 9), vg 85 83 true (.ixA 7 84 (kI 0)), vg 86 83 true (.fld 2 85), vg 87 83 true (.fld 1 86), vg 88 83 true (.load 1 false 87), vg 89 83 true (.bin .eql 88 (kI 4)), vo 90 (.pick 83 89 (kB false)), vo 91 (.mv 90), vg 92 91 true (.mv 10), vg 93 91 true (.bin .eql 92 (kI 0)), vo 94 (.pick 91 93 (kB false)), vo 95 (.mv 94), vg 96 95 true (.mv 12), vg 97 95 true (.bin .eql 96 (kI 5)), vo 98 (.pick 95 97 (kB false)), vo 99 (.mv 98), vg 100 99 true (.mv 14), vg 101 99 true (.bin .eql 100 (kI 2)), vo 102 (.pick 99 101 (kB false)), vo 103 (.mv 102), vg 104 103 true (.bsl 3 1 6 [(iI 0)] [(0,1,(kI 0)),(1,1,(kI 1)),(2,1,(kI 2)),(3,1,(kI 3)),(4,1,(kI 8)),(5,1,(kI (-1)))]), vg 105 103 true (.call 21 [104]), vg 106 103 true (.bsl 3 1 5 [(iI 0)] [(0,1,(kI 1)),(1,1,(kI 1)),(2,1,(kI 2)),(3,1,(kI 0)),(4,1,(kI 1))]), vg 107 103 true (.call 17 [105,106]), vo 108 (.pick 103 107 (kB false)), vo 0 (.mv 108)]) .ret)))))))))
theorem c10 : (Tryz.f10.body.bind fun c => cCode Tryz.prog 109 c) = some v10 := by kernel_rfl
def v7 : VC := (.seq (.region none [vo 2 (.box 33 0), vo 4 (.mv (kB false))]) (.seq (.seq (.region none [vo 10 (.load 10 true 2), vo 11 (.call 9 [10]), vo 12 (.un .not 11)]) (.cond 12 (.seq (.region none [vo 13 (.call 10 []), vo 4 (.mv 13)]) .ret) .skip)) (.seq (.region none [vo 15 (.load 10 true 2), vo 16 (.mv 1), vo 17 (.call 15 [15,16]), vo 14 (.mv 17), vo 18 (.ext 14 0), vo 19 (.ext 14 1), vo 5 (.mv 18), vo 6 (.mv 19)]) (.seq (.region none [vo 21 (.load 10 true 2), vo 22 (.call 13 [21]), vo 20 (.mv 22), vo 23 (.ext 20 0), vo 24 (.ext 20 1), vo 7 (.mv 23), vo 8 (.mv 24)]) (.seq (.seq (.region none [vo 25 (.mv 6), vo 26 (.bin .neq 25 (kI 0))]) (.cond 26 (.seq (.region none [vo 27 (.mv 5), vo 28 (.lenS 27), vo 29 (.bin .eql 28 (kI 0)), vo 30 (.mv 29), vg 31 30 true (.mv 8), vg 32 30 true (.mv 6), vg 33 30 true (.bin .eql 31 32), vg 34 30 true (.mv 33), vg 35 34 false (.mv 8), vg 36 34 false (.bin .eql 35 (kI 0)), vg 37 34 false (.mv 36), vg 38 37 true (.mv 1), vg 39 37 true (.bin .lss 38 (kI 0)), vg 40 34 false (.pick 37 39 (kB false)), vg 41 34 false (.mv 40), vg 42 41 true (.mv 6), vg 43 41 true (.bin .eql 42 (kI 2)), vg 44 34 false (.pick 41 43 (kB false)), vg 45 30 true (.pick 34 (kB true) 44), vo 46 (.pick 30 45 (kB false)), vo 47 (.mv 46), vg 48 47 true (.call 10 []), vo 49 (.pick 47 48 (kB false)), vo 4 (.mv 49)]) .ret) .skip)) (.seq (.seq (.region none [vo 50 (.mv 8), vo 51 (.bin .neq 50 (kI 0)), vo 52 (.mv 51), vg 53 52 false (.mv 5), vg 54 52 false (.lenS 53), vg 55 52 false (.mv 1), vg 56 52 false (.mv 7), vg 57 52 false (.lenS 56), vg 58 52 false (.mm false [55,57]), vg 59 52 false (.bin .neq 54 58), vo 60 (.pick 52 (kB true) 59)]) (.cond 60 (.seq (.region none [vo 4 (.mv (kB false))]) .ret) .skip)) (.seq (.seq (.region none [vo 9 (.mv (kI 0))]) (.block 0 (.loop (.seq (.seq (.region none [vo 61 (.mv 9), vo 62 (.mv 5), vo 63 (.lenS 62), vo 64 (.bin .lss 61 63)]) (.cond 64 .skip (.exit 0))) (.seq (.block 1 (.seq (.region (some [0,0,3,7,15,31,63,127,127,511,1023,2047,4095,127,127,24703,57471,123007,254079,524287,127,127,2097279,6291583,127,31457407,66060415,133169279,268435455,536870911]) [vo 67 (.mv 5), vo 68 (.mv 9), vo 69 (.ixA 7 67 68), vo 70 (.fld 1 69), vo 71 (.load 1 false 70), vo 72 (.bin .neq 71 (kI 0)), vo 73 (.mv 72), vg 74 73 false (.mv 5), vg 75 73 false (.mv 9), vg 76 73 false (.ixA 7 74 75), vg 77 73 false (.fld 2 76), vg 78 73 false (.fld 1 77), vg 79 73 false (.load 1 false 78), vg 80 73 false (.mv 5), vg 81 73 false (.mv 9), vg 82 73 false (.ixA 7 80 81), vg 83 73 false (.fld 2 82), vg 84 73 false (.fld 0 83), vg 85 73 false (.load 1 false 84), vg 86 73 false (.bin .sub 79 85), vg 87 73 false (.mv 7), vg 88 73 false (.mv 7), vg 89 73 false (.lenS 88), vg 90 73 false (.bin .sub 89 (kI 1)), vg 91 73 false (.mv 9), vg 92 73 false (.bin .sub 90 91), vg 93 73 false (.ixA 1 87 92), vg 94 73 false (.load 1 false 93), vg 95 73 false (.bin .neq 86 94), vo 96 (.pick 73 (kB true) 95)]) (.cond 96 (.seq (.region none [vo 4 (.mv (kB false))]) .ret) .skip))) (.region none [vo 65 (.mv 9), vo 66 (.bin .add 65 (kI 1)), vo 9 (.mv 66)])))))) (.seq (.region none [vo 97 (.call 10 []), vo 4 (.mv 97)]) .ret))))))))
theorem c7 : (Tryz.f7.body.bind fun c => cCode Tryz.prog 98 c) = some v7 := by kernel_rfl
theorem fnOk28 : fnOk Tryz.prog 28 = true := by kernel_rfl
theorem fnOk38 : fnOk Tryz.prog 38 = true := by kernel_rfl
theorem fnOk64 : fnOk Tryz.prog 64 = true := by kernel_rfl
theorem fnOk68 : fnOk Tryz.prog 68 = true := by kernel_rfl
theorem fnOk69 : fnOk Tryz.prog 69 = true := by kernel_rfl
theorem fnOk72 : fnOk Tryz.prog 72 = true := by kernel_rfl
theorem fnOk76 : fnOk Tryz.prog 76 = true := by kernel_rfl
theorem fnOk79 : fnOk Tryz.prog 79 = true := by kernel_rfl
theorem fnOk82 : fnOk Tryz.prog 82 = true := by kernel_rfl
theorem fnOk84 : fnOk Tryz.prog 84 = true := by kernel_rfl
theorem fnOk86 : fnOk Tryz.prog 86 = true := by kernel_rfl
theorem fnOk89 : fnOk Tryz.prog 89 = true := by kernel_rfl
theorem fnOk91 : fnOk Tryz.prog 91 = true := by kernel_rfl
def tracebooklaw49_small (p0 : api_Trace) : Option Bool :=
  (((bif (decide ((List.length p0.fThreads : Int) ≤ 70)) then some (decide ((w64 ((w64 ((w64 ((w64 ((w64 ((w64 ((List.length p0.fSlices : Int) + (List.length p0.fStates : Int))) + (List.length p0.fFlows : Int))) + (List.length p0.fSamples : Int))) + (List.length p0.fSteps : Int))) + (List.length p0.fBlocks : Int))) + (List.length p0.fLost : Int))) ≤ 300)) else some false) : Option Bool).bind fun v1 => some v1)
theorem tracebooklaw49_small_fun (p0 : api_Trace) (r : Bool) (hF : tracebooklaw49_small p0 = some r) : Fun Tryz.prog 9 true [] [.agg (m_api_Trace p0)] noHeap (cB r) noHeap := by
 refine Fun.of_walk0 Tryz.func9 c9 (by kernel_rfl) (rs := [.tmp 2]) (by kernel_rfl) ?_; unfold v9
 unfold tracebooklaw49_small at hF
 refine wA rfl ?_; refine W_seq ?_; refine W_join (fun _ _ h => h) hF (fun v1 => [(2, cB v1)]) (fun v1 => []) ?_ ?_
 · rintro v1 hF
   cases hF
   exact W_ret wR
 intro join hF
 refine wD 2 rfl ?_; refine rS (T_len (tc := t_api_Thread) p0.fThreads .tree ?_); refine Q_run SV 2 rfl ?_; cases h2 : (decide ((List.length p0.fThreads : Int) ≤ 70))
 · have hF := bF' h2 hF; refine QV rfl ?_; exact join false _ _ hF sw
 have hF := bT' h2 hF; refine Q_run SV 2 rfl ?_; refine R_step SV rfl (T_len (tc := t_api_Slice) p0.fSlices .tree ?_); refine Q_run SV 2 rfl ?_; refine R_step SV rfl (T_len (tc := t_api_State) p0.fStates .tree ?_)
 refine Q_run SV 3 rfl ?_; refine R_step SV rfl (T_len (tc := t_api_Flow) p0.fFlows .tree ?_); refine Q_run SV 3 rfl ?_; refine R_step SV rfl (T_len (tc := t_api_Sample) p0.fSamples .tree ?_); refine Q_run SV 3 rfl ?_
 refine R_step SV rfl (T_len (tc := t_api_Step) p0.fSteps .tree ?_); refine Q_run SV 3 rfl ?_; refine R_step SV rfl (T_len (tc := t_api_Block) p0.fBlocks .tree ?_); refine Q_run SV 3 rfl ?_; refine R_step SV rfl (T_len (tc := t_api_Loss) p0.fLost .tree ?_)
 refine QV rfl ?_; exact join (decide ((w64 ((w64 ((w64 ((w64 ((w64 ((w64 ((List.length p0.fSlices : Int) + (List.length p0.fStates : Int))) + (List.length p0.fFlows : Int))) + (List.length p0.fSamples : Int))) + (List.length p0.fSteps : Int))) + (List.length p0.fBlocks : Int))) + (List.length p0.fLost : Int))) ≤ 300)) _ _ hF sw
def tracebooklaw49_one (p0 : Int) (p1 : Int) (p2 : Int) (p3 : Int) : Option api_State :=
  some ({ fThread := 1, fState := p0, fSpan := ({ fFrom := p1, fTo := p2 } : api_Span), fCpu := p3, fOn := (-1), fBy := (-1) } : api_State)
theorem tracebooklaw49_one_fun (p0 : Int) (p1 : Int) (p2 : Int) (p3 : Int) (r : api_State) (hF : tracebooklaw49_one p0 p1 p2 p3 = some r) : Fun Tryz.prog 47 true [] [cI p0, cI p1, cI p2, cI p3] noHeap (.agg (m_api_State r)) noHeap := by
 refine Fun.of_walk0 Tryz.func47 c47 (by kernel_rfl) (rs := [.cell 8 7 true]) (by kernel_rfl) ?_; unfold v47
 unfold tracebooklaw49_one at hF
 refine wA rfl ?_; refine wA rfl ?_; cases hF
 exact W_ret ⟨_, rfl, rfl, ⟨⟨rfl, fun _ => rfl⟩, ⟨rfl, fun _ => rfl⟩, ⟨rfl, fun _ => rfl⟩, ⟨rfl, fun _ => rfl⟩, ⟨rfl, fun _ => rfl⟩, ⟨rfl, fun _ => rfl⟩, ⟨rfl, fun _ => rfl⟩, trivial⟩, noOut _⟩
def tracebooklaw49_example  : Option api_Trace :=
  ((tracebooklaw49_one 0 0 4 (-1)).bind fun r1 => ((tracebooklaw49_one 4 4 6 0).bind fun r2 => ((tracebooklaw49_one 0 6 7 (-1)).bind fun r3 => ((tracebooklaw49_one 3 7 9 (-1)).bind fun r4 => some ({ fSpan := ({ fFrom := 0, fTo := 9 } : api_Span), fThreads := [({ fId := 1, fName := ⟨#[120]⟩, fDomain := 0 } : api_Thread)], fSlices := [], fStates := [r1, r2, r3, r4], fFlows := [], fSamples := [], fSteps := [], fBlocks := [], fLost := [] } : api_Trace)))))
theorem tracebooklaw49_example_fun  (r : api_Trace) (hF : tracebooklaw49_example  = some r) : Fun Tryz.prog 26 false [] [] (heapOf []) (.agg [jI r.fSpan.fFrom, jI r.fSpan.fTo, .slO (902,1040), jL 8 t_api_Slice r.fSlices, .slO (902,1041), jL 7 t_api_Flow r.fFlows, jL 4 t_api_Sample r.fSamples, jL 3 t_api_Step r.fSteps, jL 7 t_api_Block r.fBlocks, jL 4 t_api_Loss r.fLost]) (heapOf [((902,1040), .arr 52 3 (List.map t_api_Thread r.fThreads)), ((902,1041), .arr 55 7 (List.map t_api_State r.fStates))]) := by
 refine Fun.of_walkM [] (some []) Tryz.func26 c26 (by kernel_rfl) (rs := [.cell 0 10 true]) (by kernel_rfl) rfl rfl rfl ?_; unfold v26
 unfold tracebooklaw49_example at hF
 refine wA rfl ?_; refine wC 2 rfl ?_; refine rS (T_bsl (tc := t_api_Thread) [({ fId := 1, fName := ⟨#[120]⟩, fDomain := 0 } : api_Thread)] rfl ⟨rfl, rfl, rfl, trivial⟩ rfl (fun _ => rfl) rfl ?_)
 obtain ⟨r1, hr1, hF⟩ := bB hF
 refine rS (T_call (tracebooklaw49_one_fun _ _ _ _ _ hr1) ⟨rfl, rfl, rfl, rfl, trivial⟩ rfl (.inl rfl) ?_); obtain ⟨r2, hr2, hF⟩ := bB hF
 refine rS (T_call (tracebooklaw49_one_fun _ _ _ _ _ hr2) ⟨rfl, rfl, rfl, rfl, trivial⟩ rfl (.inl rfl) ?_); obtain ⟨r3, hr3, hF⟩ := bB hF
 refine rS (T_call (tracebooklaw49_one_fun _ _ _ _ _ hr3) ⟨rfl, rfl, rfl, rfl, trivial⟩ rfl (.inl rfl) ?_); obtain ⟨r4, hr4, hF⟩ := bB hF
 refine rS (T_call (tracebooklaw49_one_fun _ _ _ _ _ hr4) ⟨rfl, rfl, rfl, rfl, trivial⟩ rfl (.inl rfl) ?_); refine rS (T_bsl (tc := t_api_State) [r1, r2, r3, r4] rfl ⟨rfl, rfl, rfl, rfl, rfl, rfl, rfl, rfl, rfl, rfl, rfl, rfl, rfl, rfl, rfl, rfl, rfl, rfl, rfl, rfl, rfl, rfl, rfl, rfl, rfl, rfl, rfl, rfl, trivial⟩ rfl (fun _ => rfl) rfl ?_)
 refine QV rfl ?_; cases hF
 exact W_ret ⟨_, _, (S_ren (3,0) (902,1040) rfl rfl (S_ren (8,0) (902,1041) rfl rfl S_refl)), _, rfl, rfl, ⟨⟨rfl, fun _ => rfl⟩, ⟨rfl, fun _ => rfl⟩, rfl, rfl, rfl, rfl, rfl, rfl, rfl, rfl, trivial⟩, (AgM.weak ⟨rfl, rfl, trivial⟩)⟩
def internal_stringslite_IndexByte (p0 : ByteArray) (p1 : Int) : Option Int := some (Go.Lib.indexByte p0.data.toList p1.toNat.toUInt8)
theorem internal_stringslite_IndexByte_fun (p0 : ByteArray) (p1 : Int) (r : Int) (hF : internal_stringslite_IndexByte p0 p1 = some r) : Fun Tryz.prog 166 true [] [.c (jS p0), .c (.imm (.sc (.int .u8 p1)))] noHeap (cI r) noHeap := by
 cases hF
 refine Fun.of_plain [.string p0, .int .u8 p1] (.int .i64 (Go.Lib.indexByte p0.data.toList p1.toNat.toUInt8)) (fun w => ?_) rfl
 go_enter Tryz.func166, Tryz.ntmps166; go_wp2; rw [run_callFunc_extern Tryz.func167 (by kernel_rfl) (by kernel_rfl) (by kernel_rfl) (e := Extern.BytealgIndexByte.indexByte) (by kernel_rfl), Go.Lib.run_indexByteString]
 simp only [Result.andThen]; rw [Oper.upon_value]; go_wp2; go_ret; exact ⟨rfl, rfl⟩
def strings_IndexByte (p0 : ByteArray) (p1 : Int) : Option Int :=
  ((internal_stringslite_IndexByte p0 p1).bind fun r1 => some r1)
theorem strings_IndexByte_fun (p0 : ByteArray) (p1 : Int) (r : Int) (hF : strings_IndexByte p0 p1 = some r) : Fun Tryz.prog 162 true [] [.c (jS p0), .c (.imm (.sc (.int .u8 p1)))] noHeap (cI r) noHeap := by
 refine Fun.of_walk0 Tryz.func162 c162 (by kernel_rfl) (rs := [.tmp 4]) (by kernel_rfl) ?_; unfold v162
 unfold strings_IndexByte at hF
 refine wA rfl ?_; refine wC 2 rfl ?_; obtain ⟨r1, hr1, hF⟩ := bB hF
 refine rS (T_call (internal_stringslite_IndexByte_fun _ _ _ hr1) ⟨rfl, rfl, trivial⟩ rfl (.inl rfl) ?_); refine QV rfl ?_; cases hF
 exact W_ret wR
def intern_letter (p0 : Int) : Option Bool :=
  (((bif (decide (97 ≤ p0)) then (bif (decide (p0 ≤ 122)) then some true else (bif (decide (65 ≤ p0)) then (bif (decide (p0 ≤ 90)) then some true else (bif (decide (48 ≤ p0)) then (bif (decide (p0 ≤ 57)) then some true else ((strings_IndexByte ⟨#[95, 46, 58, 47, 60, 62, 36, 42, 126, 45]⟩ p0).bind fun r23 => some (decide (0 ≤ r23)))) else ((strings_IndexByte ⟨#[95, 46, 58, 47, 60, 62, 36, 42, 126, 45]⟩ p0).bind fun r21 => some (decide (0 ≤ r21))))) else (bif (decide (48 ≤ p0)) then (bif (decide (p0 ≤ 57)) then some true else ((strings_IndexByte ⟨#[95, 46, 58, 47, 60, 62, 36, 42, 126, 45]⟩ p0).bind fun r18 => some (decide (0 ≤ r18)))) else ((strings_IndexByte ⟨#[95, 46, 58, 47, 60, 62, 36, 42, 126, 45]⟩ p0).bind fun r16 => some (decide (0 ≤ r16)))))) else (bif (decide (65 ≤ p0)) then (bif (decide (p0 ≤ 90)) then some true else (bif (decide (48 ≤ p0)) then (bif (decide (p0 ≤ 57)) then some true else ((strings_IndexByte ⟨#[95, 46, 58, 47, 60, 62, 36, 42, 126, 45]⟩ p0).bind fun r12 => some (decide (0 ≤ r12)))) else ((strings_IndexByte ⟨#[95, 46, 58, 47, 60, 62, 36, 42, 126, 45]⟩ p0).bind fun r10 => some (decide (0 ≤ r10))))) else (bif (decide (48 ≤ p0)) then (bif (decide (p0 ≤ 57)) then some true else ((strings_IndexByte ⟨#[95, 46, 58, 47, 60, 62, 36, 42, 126, 45]⟩ p0).bind fun r7 => some (decide (0 ≤ r7)))) else ((strings_IndexByte ⟨#[95, 46, 58, 47, 60, 62, 36, 42, 126, 45]⟩ p0).bind fun r5 => some (decide (0 ≤ r5)))))) : Option Bool).bind fun v1 => some v1)
theorem intern_letter_fun (p0 : Int) (r : Bool) (hF : intern_letter p0 = some r) : Fun Tryz.prog 144 true [] [.c (.imm (.sc (.int .u8 p0)))] noHeap (cB r) noHeap := by
 refine Fun.of_walk0 Tryz.func144 c144 (by kernel_rfl) (rs := [.tmp 2]) (by kernel_rfl) ?_; unfold v144
 unfold intern_letter at hF
 refine wA rfl ?_; refine W_seq ?_; refine W_join (fun _ _ h => h) hF (fun v1 => [(2, cB v1)]) (fun v1 => []) ?_ ?_
 · rintro v1 hF
   cases hF
   exact W_ret wR
 intro join hF
 refine wD 3 rfl ?_; cases h2 : (decide (97 ≤ p0))
 · have hF := bF' h2 hF; refine Q_run SV 7 rfl ?_; cases h3 : (decide (65 ≤ p0))
   · have hF := bF' h3 hF; refine Q_run SV 8 rfl ?_; cases h4 : (decide (48 ≤ p0))
     · have hF := bF' h4 hF; refine Q_run SV 6 rfl ?_; obtain ⟨r5, hr5, hF⟩ := bB' hF
       refine R_step SV rfl (T_call (strings_IndexByte_fun _ _ _ hr5) ⟨rfl, rfl, trivial⟩ rfl (.inl rfl) ?_); refine QV rfl ?_; exact join (decide (0 ≤ r5)) _ _ hF sw
     have hF := bT' h4 hF; refine Q_run SV 5 rfl ?_; cases h6 : (decide (p0 ≤ 57))
     · have hF := bF' h6 hF; refine Q_run SV 1 rfl ?_; obtain ⟨r7, hr7, hF⟩ := bB' hF
       refine R_step SV rfl (T_call (strings_IndexByte_fun _ _ _ hr7) ⟨rfl, rfl, trivial⟩ rfl (.inl rfl) ?_); refine QV rfl ?_; exact join (decide (0 ≤ r7)) _ _ hF sw
     have hF := bT' h6 hF; refine QV rfl ?_; exact join true _ _ hF sw
   have hF := bT' h3 hF; refine Q_run SV 5 rfl ?_; cases h8 : (decide (p0 ≤ 90))
   · have hF := bF' h8 hF; refine Q_run SV 3 rfl ?_; cases h9 : (decide (48 ≤ p0))
     · have hF := bF' h9 hF; refine Q_run SV 6 rfl ?_; obtain ⟨r10, hr10, hF⟩ := bB' hF
       refine R_step SV rfl (T_call (strings_IndexByte_fun _ _ _ hr10) ⟨rfl, rfl, trivial⟩ rfl (.inl rfl) ?_); refine QV rfl ?_; exact join (decide (0 ≤ r10)) _ _ hF sw
     have hF := bT' h9 hF; refine Q_run SV 5 rfl ?_; cases h11 : (decide (p0 ≤ 57))
     · have hF := bF' h11 hF; refine Q_run SV 1 rfl ?_; obtain ⟨r12, hr12, hF⟩ := bB' hF
       refine R_step SV rfl (T_call (strings_IndexByte_fun _ _ _ hr12) ⟨rfl, rfl, trivial⟩ rfl (.inl rfl) ?_); refine QV rfl ?_; exact join (decide (0 ≤ r12)) _ _ hF sw
     have hF := bT' h11 hF; refine QV rfl ?_; exact join true _ _ hF sw
   have hF := bT' h8 hF; refine QV rfl ?_; exact join true _ _ hF sw
 have hF := bT' h2 hF; refine Q_run SV 4 rfl ?_; cases h13 : (decide (p0 ≤ 122))
 · have hF := bF' h13 hF; refine Q_run SV 3 rfl ?_; cases h14 : (decide (65 ≤ p0))
   · have hF := bF' h14 hF; refine Q_run SV 8 rfl ?_; cases h15 : (decide (48 ≤ p0))
     · have hF := bF' h15 hF; refine Q_run SV 6 rfl ?_; obtain ⟨r16, hr16, hF⟩ := bB' hF
       refine R_step SV rfl (T_call (strings_IndexByte_fun _ _ _ hr16) ⟨rfl, rfl, trivial⟩ rfl (.inl rfl) ?_); refine QV rfl ?_; exact join (decide (0 ≤ r16)) _ _ hF sw
     have hF := bT' h15 hF; refine Q_run SV 5 rfl ?_; cases h17 : (decide (p0 ≤ 57))
     · have hF := bF' h17 hF; refine Q_run SV 1 rfl ?_; obtain ⟨r18, hr18, hF⟩ := bB' hF
       refine R_step SV rfl (T_call (strings_IndexByte_fun _ _ _ hr18) ⟨rfl, rfl, trivial⟩ rfl (.inl rfl) ?_); refine QV rfl ?_; exact join (decide (0 ≤ r18)) _ _ hF sw
     have hF := bT' h17 hF; refine QV rfl ?_; exact join true _ _ hF sw
   have hF := bT' h14 hF; refine Q_run SV 5 rfl ?_; cases h19 : (decide (p0 ≤ 90))
   · have hF := bF' h19 hF; refine Q_run SV 3 rfl ?_; cases h20 : (decide (48 ≤ p0))
     · have hF := bF' h20 hF; refine Q_run SV 6 rfl ?_; obtain ⟨r21, hr21, hF⟩ := bB' hF
       refine R_step SV rfl (T_call (strings_IndexByte_fun _ _ _ hr21) ⟨rfl, rfl, trivial⟩ rfl (.inl rfl) ?_); refine QV rfl ?_; exact join (decide (0 ≤ r21)) _ _ hF sw
     have hF := bT' h20 hF; refine Q_run SV 5 rfl ?_; cases h22 : (decide (p0 ≤ 57))
     · have hF := bF' h22 hF; refine Q_run SV 1 rfl ?_; obtain ⟨r23, hr23, hF⟩ := bB' hF
       refine R_step SV rfl (T_call (strings_IndexByte_fun _ _ _ hr23) ⟨rfl, rfl, trivial⟩ rfl (.inl rfl) ?_); refine QV rfl ?_; exact join (decide (0 ≤ r23)) _ _ hF sw
     have hF := bT' h22 hF; refine QV rfl ?_; exact join true _ _ hF sw
   have hF := bT' h19 hF; refine QV rfl ?_; exact join true _ _ hF sw
 have hF := bT' h13 hF; refine QV rfl ?_; exact join true _ _ hF sw
def intern_Name_L1 (p0 : ByteArray) : Int → Option (Int ⊕ (Unit ⊕ Int)) := fun a13 =>
  (bif (decide (a13 < (ByteArray.size p0 : Int))) then ((idx (ByteArray.data p0).toList a13).bind fun y18 => ((intern_letter (UInt8.toNat y18 : Int)).bind fun r19 => (bif (!r19) then some (.inr (.inr 3)) else some (.inl (w64 (a13 + 1)))))) else some (.inr (.inl ())))
def intern_Name (p0 : ByteArray) : Option Int :=
  (((bif (decide (p0 = ⟨#[]⟩)) then some true else some (decide (40 < (ByteArray.size p0 : Int)))) : Option Bool).bind fun v1 => (bif v1 then some 3 else ((loop (intern_Name_L1 p0) 0).bind fun | .inl _ => some 0 | .inr rv => some rv)))
theorem intern_Name_fun (p0 : ByteArray) (r : Int) (hF : intern_Name p0 = some r) : Fun Tryz.prog 109 true [] [.c (jS p0)] noHeap (cI r) noHeap := by
 refine Fun.of_walk0 Tryz.func109 c109 (by kernel_rfl) (rs := [.tmp 2]) (by kernel_rfl) ?_; unfold v109
 unfold intern_Name at hF
 refine wA rfl ?_; refine W_seq ?_; refine W_seq ?_; refine W_join (fun _ _ h => h) hF (fun v1 => [(0, .c (jS p0)), (10, cB v1)]) (fun v1 => []) ?_ ?_
 · rintro v1 hF
   refine wIf hF rfl (fun _ hF => ?_) fun _ hF => ?_
   · refine wA rfl ?_; cases hF
     exact W_ret wR
   refine W_skip ?_; refine W_seq ?_; refine wA rfl ?_; refine W_for (fun _ _ h => h) hF (.inl) (fun a13 => [(0, .c (jS p0)), (12, cI (ByteArray.size p0 : Int)), (13, cI a13)]) (fun a13 => []) (fun _ => []) (fun _ => []) sw ?_ ?_
   · rintro ⟨⟩ hF
     refine wA rfl ?_; cases hF
     exact W_ret wR
   rintro a13 x_0 hF cont_0 brk_0 fin_0
   unfold intern_Name_L1 at hF
   refine wA rfl ?_; refine W_seq ?_; refine wIf hF rfl (fun _ hF => ?_) fun _ hF => ?_
   · refine W_skip ?_; refine W_seq ?_; refine W_block ?_; refine wA rfl ?_; refine wC 2 rfl ?_; obtain ⟨y18, hy18, hF⟩ := bB hF
     refine rS (T_ixS p0 rfl rfl hy18 ?_); obtain ⟨r19, hr19, hF⟩ := bB hF
     refine rS (T_call (intern_letter_fun _ _ hr19) ⟨rfl, trivial⟩ rfl (.inl rfl) ?_); refine QV rfl ?_; refine wIf hF rfl (fun _ hF => ?_) fun _ hF => ?_
     · refine wA rfl ?_; have hF := fin_0 _ (oi hF); cases hF
       exact W_ret wR
     refine W_skip ?_; refine wB rfl ?_; exact cont_0 _ _ _ (oi hF) sw
   refine W_exit ?_; refine thenQ_exit ?_; refine thenQ_exit ?_; refine blockQ_hit ?_; exact brk_0 _ _ _ (oi hF) sw
 intro join hF
 refine wD 3 rfl ?_; cases h23 : (decide (p0 = ⟨#[]⟩))
 · have hF := bF' h23 hF; refine QV rfl ?_; exact join (decide (40 < (ByteArray.size p0 : Int))) _ _ hF sw
 have hF := bT' h23 hF; refine QV rfl ?_; exact join true _ _ hF sw
def producer_Thread (p0 : api_Thread) : Option Int :=
  (((bif (decide (p0.fId < 0)) then some true else (bif (decide (1000000000000000 < p0.fId)) then some true else (bif (decide (p0.fDomain < 0)) then some true else some (decide (8 ≤ p0.fDomain))))) : Option Bool).bind fun v1 => (bif v1 then some 2 else ((intern_Name p0.fName).bind fun r2 => some r2)))
theorem producer_Thread_fun (p0 : api_Thread) (r : Int) (hF : producer_Thread p0 = some r) : Fun Tryz.prog 108 true [] [.agg (m_api_Thread p0)] noHeap (cI r) noHeap := by
 refine Fun.of_walk0 Tryz.func108 c108 (by kernel_rfl) (rs := [.tmp 2]) (by kernel_rfl) ?_; unfold v108
 unfold producer_Thread at hF
 refine wA rfl ?_; refine W_seq ?_; refine W_seq ?_; refine W_join (fun _ _ h => h) hF (fun v1 => [(1, cP (1,0) 0), (20, cB v1)]) (fun v1 => [((1,0), .box (m_api_Thread p0))]) ?_ ?_
 · rintro v1 hF
   refine wIf hF rfl (fun _ hF => ?_) fun _ hF => ?_
   · refine wA rfl ?_; cases hF
     exact W_ret wR
   refine W_skip ?_; refine wC 2 rfl ?_; obtain ⟨r2, hr2, hF⟩ := bB hF
   refine rS (T_call (intern_Name_fun _ _ hr2) ⟨rfl, trivial⟩ rfl (.inl rfl) ?_); refine QV rfl ?_; cases hF
   exact W_ret wR
 intro join hF
 refine wD 4 rfl ?_; cases h4 : (decide (p0.fId < 0))
 · have hF := bF' h4 hF; refine Q_run SV 5 rfl ?_; cases h5 : (decide (1000000000000000 < p0.fId))
   · have hF := bF' h5 hF; refine Q_run SV 5 rfl ?_; cases h6 : (decide (p0.fDomain < 0))
     · have hF := bF' h6 hF; refine QV rfl ?_; exact join (decide (8 ≤ p0.fDomain)) _ _ hF sw
     have hF := bT' h6 hF; refine QV rfl ?_; exact join true _ _ hF sw
   have hF := bT' h5 hF; refine QV rfl ?_; exact join true _ _ hF sw
 have hF := bT' h4 hF; refine QV rfl ?_; exact join true _ _ hF sw
def trace_threads_L1 (p0 : api_Trace) : ((List (Int × ByteArray)) × Int) → Option (((List (Int × ByteArray)) × Int) ⊕ ((List (Int × ByteArray)) ⊕ (((List (Int × ByteArray)) × Int) ⊕ ((List (Int × ByteArray)) × Int)))) := fun (a17, a18) =>
  (bif (decide (a18 < (List.length p0.fThreads : Int))) then ((idx p0.fThreads a18).bind fun y25 => ((producer_Thread y25).bind fun r26 => (bif (!decide (r26 = 0)) then some (.inr (.inr (.inl ([], r26)))) else (bif (Option.isSome (mget y25.fId a17)) then some (.inr (.inr (.inl ([], 4)))) else some (.inl ((mput y25.fId y25.fName a17), (w64 (a18 + 1)))))))) else some (.inr (.inl a17)))
def trace_threads (p0 : api_Trace) : Option (((List (Int × ByteArray)) × Int) ⊕ ((List (Int × ByteArray)) × Int)) :=
  (bif (decide (64 < (List.length p0.fThreads : Int))) then some (.inl ([], 7)) else ((loop (trace_threads_L1 p0) ([], 0)).bind fun | .inl e24 => some (.inr (e24, 0)) | .inr rv => some rv))
def trace_threads_V (p0 : api_Trace) : (((List (Int × ByteArray)) × Int) ⊕ ((List (Int × ByteArray)) × Int)) → V
  | .inl d => .tup [.c (.nilM), .c (.imm (tI d.2))]
  | .inr d => .tup [.c (.mapO (902,2440)), .c (.imm (tI d.2))]
def trace_threads_M (p0 : api_Trace) : (((List (Int × ByteArray)) × Int) ⊕ ((List (Int × ByteArray)) × Int)) → M
  | .inl _ => []
  | .inr d => [((902,2440), mapOb (.int .i64) (fun n : Int => .int .i64 n) (fun y : ByteArray => (.one (.sc (.string y)) : MT)) d.1)]
theorem trace_threads_fun (p0 : api_Trace) (r : (((List (Int × ByteArray)) × Int) ⊕ ((List (Int × ByteArray)) × Int))) (hF : trace_threads p0 = some r) : Fun Tryz.prog 61 false [] [.agg (m_api_Trace p0)] (heapOf []) (trace_threads_V p0 r) (heapOf (trace_threads_M p0 r)) := by
 refine Fun.of_walkM [] (some []) Tryz.func61 c61 (by kernel_rfl) (rs := [.tmp 2, .tmp 3]) (by kernel_rfl) rfl rfl rfl ?_; unfold v61
 unfold trace_threads at hF
 refine wA rfl ?_; refine W_seq ?_; refine wC 2 rfl ?_; refine rS (T_len (tc := t_api_Thread) p0.fThreads .tree ?_); refine QV rfl ?_; refine wIf hF rfl (fun _ hF => ?_) fun _ hF => ?_
 · refine wA rfl ?_; cases hF
   exact W_ret ⟨_, _, S_refl, _, rfl, rfl, ⟨trivial, ⟨rfl, fun _ => rfl⟩, trivial⟩, (AgM.weak trivial)⟩
 refine W_skip ?_; refine wE ?_; refine rS (T_mkmap (kd := (.int .i64)) (kv := kvI) (vv := vvS) rfl ?_)
 refine QV rfl ?_; refine W_seq ?_; refine wC 2 rfl ?_; refine rS (T_len (tc := t_api_Thread) p0.fThreads .tree ?_); refine QV rfl ?_; refine W_for (fun _ _ h => h) hF (.inl) (fun (a17, a18) => [(4, cM (14,0)), (16, cL 3 t_api_Thread p0.fThreads), (17, cI (List.length p0.fThreads : Int)), (18, cI a18)]) (fun (a17, a18) => [((14,0), mapOb (.int .i64) kvI vvS a17)]) (fun e24 => [(4, cM (14,0))]) (fun e24 => [((14,0), mapOb (.int .i64) kvI vvS e24)]) sw ?_ ?_
 · rintro e24 hF
   refine wA rfl ?_; cases hF
   exact W_ret ⟨_, _, (S_ren (14,0) (902,2440) rfl rfl S_refl), _, rfl, rfl, ⟨rfl, ⟨rfl, fun _ => rfl⟩, trivial⟩, (AgM.weak ⟨rfl, trivial⟩)⟩
 rintro ⟨a17, a18⟩ x_0 hF cont_0 brk_0 fin_0
 unfold trace_threads_L1 at hF
 refine wA rfl ?_; refine W_seq ?_; refine wIf hF rfl (fun _ hF => ?_) fun _ hF => ?_
 · refine W_skip ?_; refine W_seq ?_; refine W_block ?_; refine wE ?_; obtain ⟨y25, hy25, hF⟩ := bB hF
   refine rS (T_ixT (tc := t_api_Thread) p0.fThreads rfl rfl hy25 ?_); refine QV rfl ?_; refine W_seq ?_; refine wC 1 rfl ?_; obtain ⟨r26, hr26, hF⟩ := bB hF
   refine rS (T_call (producer_Thread_fun _ _ hr26) ⟨⟨rfl, rfl, rfl, trivial⟩, trivial⟩ rfl (.inl rfl) ?_); refine QV rfl ?_; refine wA rfl ?_; refine wIf hF rfl (fun _ hF => ?_) fun _ hF => ?_
   · refine wA rfl ?_; have hF := fin_0 _ (oi hF); cases hF
     exact W_ret ⟨_, _, S_refl, _, rfl, rfl, ⟨trivial, ⟨rfl, fun _ => rfl⟩, trivial⟩, (AgM.weak trivial)⟩
   refine W_skip ?_; refine W_seq ?_; refine wC 3 rfl ?_; refine rS (T_lookOk (keyI .i64) (vv := vvS) a17 y25.fId ⟨#[]⟩ (.own _ rfl) rfl rfl ?_)
   refine QV rfl ?_; refine wA rfl ?_; refine wIf hF rfl (fun _ hF => ?_) fun _ hF => ?_
   · refine wA rfl ?_; have hF := fin_0 _ (oi hF); cases hF
     exact W_ret ⟨_, _, S_refl, _, rfl, rfl, ⟨trivial, ⟨rfl, fun _ => rfl⟩, trivial⟩, (AgM.weak trivial)⟩
   refine W_skip ?_; refine wD 5 rfl ?_; refine rS (T_mupd (keyI .i64) (vv := vvS) a17 y25.fId y25.fName rfl rfl rfl rfl ?_)
   refine QV rfl ?_; refine wB rfl ?_; exact cont_0 _ _ _ (oi hF) sw
 refine W_exit ?_; refine thenQ_exit ?_; refine thenQ_exit ?_; refine blockQ_hit ?_; exact brk_0 _ _ _ (oi hF) sw
def spans_Valid (p0 : api_Span) : Option Bool :=
  (((bif (decide (0 ≤ p0.fFrom)) then (bif (decide (p0.fFrom < p0.fTo)) then some (decide (p0.fTo ≤ 1000000000000)) else some false) else some false) : Option Bool).bind fun v1 => some v1)
theorem spans_Valid_fun (p0 : api_Span) (r : Bool) (hF : spans_Valid p0 = some r) : Fun Tryz.prog 46 true [] [.agg [jI p0.fFrom, jI p0.fTo]] noHeap (cB r) noHeap := by
 refine Fun.of_walk0 Tryz.func46 c46 (by kernel_rfl) (rs := [.tmp 2]) (by kernel_rfl) ?_; unfold v46
 unfold spans_Valid at hF
 refine wA rfl ?_; refine W_seq ?_; refine W_join (fun _ _ h => h) hF (fun v1 => [(2, cB v1)]) (fun v1 => []) ?_ ?_
 · rintro v1 hF
   cases hF
   exact W_ret wR
 intro join hF
 refine wD 4 rfl ?_; cases h2 : (decide (0 ≤ p0.fFrom))
 · have hF := bF' h2 hF; refine QV rfl ?_; exact join false _ _ hF sw
 have hF := bT' h2 hF; refine Q_run SV 7 rfl ?_; cases h3 : (decide (p0.fFrom < p0.fTo))
 · have hF := bF' h3 hF; refine QV rfl ?_; exact join false _ _ hF sw
 have hF := bT' h3 hF; refine QV rfl ?_; exact join (decide (p0.fTo ≤ 1000000000000)) _ _ hF sw
def cmp_isNaN_int (p0 : Int) : Option Bool :=
  some (!decide (p0 = p0))
theorem cmp_isNaN_int_fun (p0 : Int) (r : Bool) (hF : cmp_isNaN_int p0 = some r) : Fun Tryz.prog 54 true [] [cI p0] noHeap (cB r) noHeap := by
 refine Fun.of_walk0 Tryz.func54 c54 (by kernel_rfl) (rs := [.tmp 2]) (by kernel_rfl) ?_; unfold v54
 unfold cmp_isNaN_int at hF
 refine wA rfl ?_; refine wA rfl ?_; cases hF
 exact W_ret wR
def cmp_Compare_int (p0 : Int) (p1 : Int) : Option Int :=
  ((cmp_isNaN_int p0).bind fun r1 => ((cmp_isNaN_int p1).bind fun r2 => (bif r1 then (bif r2 then some 0 else some (-1)) else (bif r2 then some 1 else (bif (decide (p0 < p1)) then some (-1) else (bif (decide (p1 < p0)) then some 1 else some 0))))))
theorem cmp_Compare_int_fun (p0 : Int) (p1 : Int) (r : Int) (hF : cmp_Compare_int p0 p1 = some r) : Fun Tryz.prog 39 true [] [cI p0, cI p1] noHeap (cI r) noHeap := by
 refine Fun.of_walk0 Tryz.func39 c39 (by kernel_rfl) (rs := [.tmp 4]) (by kernel_rfl) ?_; unfold v39
 unfold cmp_Compare_int at hF
 refine wA rfl ?_; refine wC 1 rfl ?_; obtain ⟨r1, hr1, hF⟩ := bB hF
 refine rS (T_call (cmp_isNaN_int_fun _ _ hr1) ⟨rfl, trivial⟩ rfl (.inl rfl) ?_); refine QV rfl ?_; refine wC 1 rfl ?_; obtain ⟨r2, hr2, hF⟩ := bB hF
 refine rS (T_call (cmp_isNaN_int_fun _ _ hr2) ⟨rfl, trivial⟩ rfl (.inl rfl) ?_); refine QV rfl ?_; refine W_seq ?_; refine wA rfl ?_; refine wIf hF rfl (fun _ hF => ?_) fun _ hF => ?_
 · refine W_seq ?_; refine wA rfl ?_; refine wIf hF rfl (fun _ hF => ?_) fun _ hF => ?_
   · refine wA rfl ?_; cases hF
     exact W_ret wR
   refine W_skip ?_; refine wA rfl ?_; cases hF
   exact W_ret wR
 refine W_skip ?_; refine W_seq ?_; refine wA rfl ?_; refine wIf hF rfl (fun _ hF => ?_) fun _ hF => ?_
 · refine wA rfl ?_; cases hF
   exact W_ret wR
 refine W_skip ?_; refine W_seq ?_; refine wA rfl ?_; refine wIf hF rfl (fun _ hF => ?_) fun _ hF => ?_
 · refine wA rfl ?_; cases hF
   exact W_ret wR
 refine W_skip ?_; refine W_seq ?_; refine wA rfl ?_; refine wIf hF rfl (fun _ hF => ?_) fun _ hF => ?_
 · refine wA rfl ?_; cases hF
   exact W_ret wR
 refine W_skip ?_; refine wA rfl ?_; cases hF
 exact W_ret wR
def cmp_Or_int_L1 (p0 : (List Int)) : Int → Option (Int ⊕ (Unit ⊕ Int)) := fun a10 =>
  (bif (decide (a10 < (List.length p0 : Int))) then ((idx p0 a10).bind fun y14 => (bif (!decide (y14 = 0)) then some (.inr (.inr y14)) else some (.inl (w64 (a10 + 1))))) else some (.inr (.inl ())))
def cmp_Or_int (p0 : (List Int)) : Option Int :=
  ((loop (cmp_Or_int_L1 p0) 0).bind fun | .inl _ => some 0 | .inr rv => some rv)
theorem cmp_Or_int_fun (p0 : (List Int)) (r : Int) (hF : cmp_Or_int p0 = some r) : Fun Tryz.prog 145 true [] [cL 1 t_i64 p0] noHeap (cI r) noHeap := by
 refine Fun.of_walk0 Tryz.func145 c145 (by kernel_rfl) (rs := [.tmp 2]) (by kernel_rfl) ?_; unfold v145
 unfold cmp_Or_int at hF
 refine wA rfl ?_; refine wA rfl ?_; refine W_seq ?_; refine wC 1 rfl ?_; refine rS (T_len (tc := t_i64) p0 .tree ?_); refine QV rfl ?_; refine W_for (fun _ _ h => h) hF (.inl) (fun a10 => [(3, cI 0), (6, cL 1 t_i64 p0), (7, cI (List.length p0 : Int)), (8, cI a10)]) (fun a10 => []) (fun _ => [(3, cI 0)]) (fun _ => []) sw ?_ ?_
 · rintro ⟨⟩ hF
   refine wA rfl ?_; cases hF
   exact W_ret wR
 rintro a10 x_0 hF cont_0 brk_0 fin_0
 unfold cmp_Or_int_L1 at hF
 refine wA rfl ?_; refine W_seq ?_; refine wIf hF rfl (fun _ hF => ?_) fun _ hF => ?_
 · refine W_skip ?_; refine W_seq ?_; refine W_block ?_; refine wE ?_; obtain ⟨y14, hy14, hF⟩ := bB hF
   refine rS (T_ixT (tc := t_i64) p0 rfl rfl hy14 ?_); refine QV rfl ?_; refine wA rfl ?_; refine wIf hF rfl (fun _ hF => ?_) fun _ hF => ?_
   · refine wA rfl ?_; have hF := fin_0 _ (oi hF); cases hF
     exact W_ret wR
   refine W_skip ?_; refine wB rfl ?_; exact cont_0 _ _ _ (oi hF) sw
 refine W_exit ?_; refine thenQ_exit ?_; refine thenQ_exit ?_; refine blockQ_hit ?_; exact brk_0 _ _ _ (oi hF) sw
def slice_compare (p0 : api_Slice) (p1 : api_Slice) : Option Int :=
  ((cmp_Compare_int p0.fSpan.fFrom p1.fSpan.fFrom).bind fun r1 => ((cmp_Compare_int p1.fSpan.fTo p0.fSpan.fTo).bind fun r2 => ((cmp_Compare_int p0.fThread p1.fThread).bind fun r3 => ((cmp_Or_int [r1, r2, r3]).bind fun r4 => some r4))))
theorem slice_compare_fun (p0 : api_Slice) (p1 : api_Slice) (r : Int) (hF : slice_compare p0 p1 = some r) : Fun Tryz.prog 110 true [] [.agg (m_api_Slice p0), .agg (m_api_Slice p1)] noHeap (cI r) noHeap := by
 refine Fun.of_walk0 Tryz.func110 c110 (by kernel_rfl) (rs := [.tmp 4]) (by kernel_rfl) ?_; unfold v110
 unfold slice_compare at hF
 refine wA rfl ?_; refine W_seq ?_; refine W_regD (by decide) (by kernel_rfl) rfl ?_; refine Q_run SP 6 rfl ?_; obtain ⟨r1, hr1, hF⟩ := bB hF
 refine R_step SP trivial (T_call (cmp_Compare_int_fun _ _ _ hr1) ⟨rfl, rfl, trivial⟩ rfl (.inl rfl) ?_); refine Q_run SP 6 rfl ?_; obtain ⟨r2, hr2, hF⟩ := bB hF
 refine R_step SP trivial (T_call (cmp_Compare_int_fun _ _ _ hr2) ⟨rfl, rfl, trivial⟩ rfl (.inl rfl) ?_); refine Q_run SP 4 rfl ?_; obtain ⟨r3, hr3, hF⟩ := bB hF
 refine R_step SP trivial (T_call (cmp_Compare_int_fun _ _ _ hr3) ⟨rfl, rfl, trivial⟩ rfl (.inl rfl) ?_); refine R_step SP trivial (T_bsl (tc := t_i64) [r1, r2, r3] rfl ⟨rfl, rfl, rfl, trivial⟩ rfl (fun _ => rfl) rfl ?_)
 obtain ⟨r4, hr4, hF⟩ := bB hF
 refine R_step SP trivial (T_call (cmp_Or_int_fun _ _ hr4) ⟨⟨_, rfl⟩, trivial⟩ rfl (.inl rfl) ?_); refine QP rfl ?_; cases hF
 exact W_ret wR
def slice_nested_L1 (p0 : (List api_Slice)) : Int → Option (Int ⊕ (Unit ⊕ Bool)) := fun a30 =>
  (bif (decide (a30 < (List.length p0 : Int))) then ((idx p0 a30).bind fun y44 => (((bif (decide (y44.fParent < (-1))) then some true else some (decide (a30 ≤ y44.fParent))) : Option Bool).bind fun v45 => (bif v45 then some (.inr (.inr false)) else (bif (decide (y44.fParent = (-1))) then (bif (!decide (y44.fDepth = 0)) then some (.inr (.inr false)) else some (.inl (w64 (a30 + 1)))) else ((idx p0 y44.fParent).bind fun y47 => (((bif (!decide (y47.fThread = y44.fThread)) then some true else (bif (decide (y44.fSpan.fFrom < y47.fSpan.fFrom)) then some true else (bif (decide (y47.fSpan.fTo < y44.fSpan.fTo)) then some true else some (!decide (y44.fDepth = (w64 (y47.fDepth + 1))))))) : Option Bool).bind fun v48 => (bif v48 then some (.inr (.inr false)) else some (.inl (w64 (a30 + 1)))))))))) else some (.inr (.inl ())))
def slice_nested (p0 : (List api_Slice)) : Option Bool :=
  ((loop (slice_nested_L1 p0) 0).bind fun | .inl _ => some true | .inr rv => some rv)
theorem slice_nested_fun (p0 : (List api_Slice)) (r : Bool) (hF : slice_nested p0 = some r) : Fun Tryz.prog 111 true [] [cL 8 t_api_Slice p0] noHeap (cB r) noHeap := by
 refine Fun.of_walk0 Tryz.func111 c111 (by kernel_rfl) (rs := [.tmp 2]) (by kernel_rfl) ?_; unfold v111
 unfold slice_nested at hF
 refine wA rfl ?_; refine W_seq ?_; refine wC 1 rfl ?_; refine rS (T_len (tc := t_api_Slice) p0 .tree ?_); refine QV rfl ?_; refine W_for (fun _ _ h => h) hF (.inl) (fun a30 => [(0, cL 8 t_api_Slice p0), (6, cL 8 t_api_Slice p0), (7, cI (List.length p0 : Int)), (8, cI a30)]) (fun a30 => []) (fun _ => []) (fun _ => []) sw ?_ ?_
 · rintro ⟨⟩ hF
   refine wA rfl ?_; cases hF
   exact W_ret wR
 rintro a30 x_0 hF cont_0 brk_0 fin_0
 unfold slice_nested_L1 at hF
 refine wA rfl ?_; refine W_seq ?_; refine wIf hF rfl (fun _ hF => ?_) fun _ hF => ?_
 · refine W_skip ?_; refine W_seq ?_; refine W_block ?_; refine wC 1 rfl ?_; obtain ⟨y44, hy44, hF⟩ := bB hF
   refine rS (T_ixT (tc := t_api_Slice) p0 rfl rfl hy44 ?_); refine QV rfl ?_; refine W_block ?_; refine W_seq ?_; refine W_join (fun _ _ h => h) hF (fun v45 => [(0, cL 8 t_api_Slice p0), (4, cP (4,0) 0), (6, cL 8 t_api_Slice p0), (7, cI (List.length p0 : Int)), (8, cI a30), (49, cB v45)]) (fun v45 => [((4,0), .box (m_api_Slice y44))]) ?_ ?_
   · rintro v45 hF
     refine wIf hF rfl (fun _ hF => ?_) fun _ hF => ?_
     · refine wA rfl ?_; have hF := fin_0 _ (oi hF); cases hF
       exact W_ret wR
     refine wA rfl ?_; refine wIf hF rfl (fun _ hF => ?_) fun _ hF => ?_
     · refine wA rfl ?_; refine wIf hF rfl (fun _ hF => ?_) fun _ hF => ?_
       · refine wA rfl ?_; have hF := fin_0 _ (oi hF); cases hF
         exact W_ret wR
       refine W_skip ?_; refine wB rfl ?_; exact cont_0 _ _ _ (oi hF) sw
     refine wC 3 rfl ?_; obtain ⟨y47, hy47, hF⟩ := bB hF
     refine rS (T_ixT (tc := t_api_Slice) p0 rfl rfl hy47 ?_); refine QV rfl ?_; refine W_seq ?_; refine W_join (fun _ _ h => h) hF (fun v48 => [(0, cL 8 t_api_Slice p0), (6, cL 8 t_api_Slice p0), (7, cI (List.length p0 : Int)), (8, cI a30), (48, cB v48)]) (fun v48 => []) ?_ ?_
     · rintro v48 hF
       refine wIf hF rfl (fun _ hF => ?_) fun _ hF => ?_
       · refine wA rfl ?_; have hF := fin_0 _ (oi hF); cases hF
         exact W_ret wR
       refine W_skip ?_; refine wB rfl ?_; exact cont_0 _ _ _ (oi hF) sw
     intro join hF
     refine wD 6 rfl ?_; cases h50 : (!decide (y47.fThread = y44.fThread))
     · have hF := bF' h50 hF; refine Q_run SV 9 rfl ?_; cases h51 : (decide (y44.fSpan.fFrom < y47.fSpan.fFrom))
       · have hF := bF' h51 hF; refine Q_run SV 9 rfl ?_; cases h52 : (decide (y47.fSpan.fTo < y44.fSpan.fTo))
         · have hF := bF' h52 hF; refine QV rfl ?_; exact join (!decide (y44.fDepth = (w64 (y47.fDepth + 1)))) _ _ hF sw
         have hF := bT' h52 hF; refine QV rfl ?_; exact join true _ _ hF sw
       have hF := bT' h51 hF; refine QV rfl ?_; exact join true _ _ hF sw
     have hF := bT' h50 hF; refine QV rfl ?_; exact join true _ _ hF sw
   intro join hF
   refine wD 4 rfl ?_; cases h55 : (decide (y44.fParent < (-1)))
   · have hF := bF' h55 hF; refine QV rfl ?_; exact join (decide (a30 ≤ y44.fParent)) _ _ hF sw
   have hF := bT' h55 hF; refine QV rfl ?_; exact join true _ _ hF sw
 refine W_exit ?_; refine thenQ_exit ?_; refine thenQ_exit ?_; refine blockQ_hit ?_; exact brk_0 _ _ _ (oi hF) sw
def slice_under_L1 (p0 : (List api_Slice)) (p1 : Int) : Int → Option (Int ⊕ (Unit ⊕ Bool)) := fun a10 =>
  (bif (decide (0 ≤ a10)) then (bif (decide (p1 = a10)) then some (.inr (.inr true)) else ((idx p0 a10).bind fun y14 => some (.inl y14.fParent))) else some (.inr (.inl ())))
def slice_under (p0 : (List api_Slice)) (p1 : Int) (p2 : Int) : Option Bool :=
  ((loop (slice_under_L1 p0 p1) p2).bind fun | .inl _ => some false | .inr rv => some rv)
theorem slice_under_fun (p0 : (List api_Slice)) (p1 : Int) (p2 : Int) (r : Bool) (hF : slice_under p0 p1 p2 = some r) : Fun Tryz.prog 146 true [] [cL 8 t_api_Slice p0, cI p1, cI p2] noHeap (cB r) noHeap := by
 refine Fun.of_walk0 Tryz.func146 c146 (by kernel_rfl) (rs := [.tmp 6]) (by kernel_rfl) ?_; unfold v146
 unfold slice_under at hF
 refine wA rfl ?_; refine W_seq ?_; refine W_for (fun _ _ h => h) hF (.inl) (fun a10 => [(0, cL 8 t_api_Slice p0), (1, cI p1), (2, cI a10)]) (fun a10 => []) (fun _ => []) (fun _ => []) sw ?_ ?_
 · rintro ⟨⟩ hF
   refine wA rfl ?_; cases hF
   exact W_ret wR
 rintro a10 x_0 hF cont_0 brk_0 fin_0
 unfold slice_under_L1 at hF
 refine W_seq ?_; refine wA rfl ?_; refine wIf hF rfl (fun _ hF => ?_) fun _ hF => ?_
 · refine W_skip ?_; refine W_seq ?_; refine W_block ?_; refine wA rfl ?_; refine wIf hF rfl (fun _ hF => ?_) fun _ hF => ?_
   · refine wA rfl ?_; have hF := fin_0 _ (oi hF); cases hF
     exact W_ret wR
   refine W_skip ?_; refine wD 2 rfl ?_; obtain ⟨y14, hy14, hF⟩ := bB hF
   refine rS (T_ixT (tc := t_api_Slice) p0 rfl rfl hy14 ?_); refine QV rfl ?_; exact cont_0 _ _ _ (oi hF) sw
 refine W_exit ?_; refine thenQ_exit ?_; refine thenQ_exit ?_; refine blockQ_hit ?_; exact brk_0 _ _ _ (oi hF) sw
def slice_apart_L1 (p0 : (List api_Slice)) (a116 : Int) (y173 : api_Slice) : (Int × Int) → Option ((Int × Int) ⊕ (Int ⊕ (Int ⊕ (Unit ⊕ Bool)))) := fun (a202, a203) =>
  (bif (decide (a203 < (List.length p0 : Int))) then ((idx p0 a203).bind fun y217 => (((bif (decide (y217.fParent = a116)) then some (w64 (a202 - (w64 (y217.fSpan.fTo - y217.fSpan.fFrom)))) else some a202) : Option Int).bind fun v218 => (((bif (decide (a203 < a116)) then (bif (decide (y217.fThread = y173.fThread)) then (bif (decide (y173.fSpan.fFrom < y217.fSpan.fTo)) then (bif (decide (y217.fSpan.fFrom < y173.fSpan.fTo)) then ((slice_under p0 a203 a116).bind fun r225 => some (!r225)) else some false) else some false) else some false) else some false) : Option Bool).bind fun v219 => (bif v219 then some (.inr (.inr (.inr (.inr false)))) else some (.inl (v218, (w64 (a203 + 1)))))))) else some (.inr (.inl a202)))
def slice_apart_L2 (p0 : (List api_Slice)) : Int → Option (Int ⊕ (Unit ⊕ Bool)) := fun a116 =>
  (bif (decide (a116 < (List.length p0 : Int))) then ((idx p0 a116).bind fun y173 => ((loop (slice_apart_L1 p0 a116 y173) ((w64 (y173.fSpan.fTo - y173.fSpan.fFrom)), 0)).bind fun | .inl e215 => (bif (!decide (y173.fSelf = e215)) then some (.inr (.inr false)) else some (.inl (w64 (a116 + 1)))) | .inr rv => some rv)) else some (.inr (.inl ())))
def slice_apart (p0 : (List api_Slice)) : Option Bool :=
  ((loop (slice_apart_L2 p0) 0).bind fun | .inl _ => some true | .inr rv => some rv)
theorem slice_apart_fun (p0 : (List api_Slice)) (r : Bool) (hF : slice_apart p0 = some r) : Fun Tryz.prog 112 true [] [cL 8 t_api_Slice p0] noHeap (cB r) noHeap := by
 refine Fun.of_walk0 Tryz.func112 c112 (by kernel_rfl) (rs := [.tmp 2]) (by kernel_rfl) ?_; unfold v112
 unfold slice_apart at hF
 refine wA rfl ?_; refine W_seq ?_; refine wC 1 rfl ?_; refine rS (T_len (tc := t_api_Slice) p0 .tree ?_); refine QV rfl ?_; refine W_for (fun _ _ h => h) hF (.inl) (fun a116 => [(0, cL 8 t_api_Slice p0), (8, cL 8 t_api_Slice p0), (9, cI (List.length p0 : Int)), (10, cI a116)]) (fun a116 => []) (fun _ => []) (fun _ => []) sw ?_ ?_
 · rintro ⟨⟩ hF
   refine wA rfl ?_; cases hF
   exact W_ret wR
 rintro a116 x_0 hF cont_0 brk_0 fin_0
 unfold slice_apart_L2 at hF
 refine wA rfl ?_; refine W_seq ?_; refine wIf hF rfl (fun _ hF => ?_) fun _ hF => ?_
 · refine W_skip ?_; refine W_seq ?_; refine W_block ?_; refine wC 1 rfl ?_; obtain ⟨y173, hy173, hF⟩ := bB hF
   refine rS (T_ixT (tc := t_api_Slice) p0 rfl rfl hy173 ?_); refine QV rfl ?_; refine wA rfl ?_; refine W_seq ?_; refine wC 1 rfl ?_; refine rS (T_len (tc := t_api_Slice) p0 .tree ?_); refine QV rfl ?_; refine W_for (fun _ _ h => h) hF (.inl) (fun (a202, a203) => [(0, cL 8 t_api_Slice p0), (3, cI a116), (4, cP (4,0) 0), (5, cI a202), (8, cL 8 t_api_Slice p0), (9, cI (List.length p0 : Int)), (10, cI a116), (22, cL 8 t_api_Slice p0), (23, cI (List.length p0 : Int)), (24, cI a203)]) (fun (a202, a203) => [((4,0), .box (m_api_Slice y173))]) (fun e215 => [(0, cL 8 t_api_Slice p0), (4, cP (4,0) 0), (5, cI e215), (8, cL 8 t_api_Slice p0), (9, cI (List.length p0 : Int)), (10, cI a116)]) (fun e215 => [((4,0), .box (m_api_Slice y173))]) sw ?_ ?_
   · rintro e215 hF
     refine wA rfl ?_; refine wIf hF rfl (fun _ hF => ?_) fun _ hF => ?_
     · refine wA rfl ?_; have hF := fin_0 _ (oi hF); cases hF
       exact W_ret wR
     refine W_skip ?_; refine wB rfl ?_; exact cont_0 _ _ _ (oi hF) sw
   rintro ⟨a202, a203⟩ x_1 hF cont_1 brk_1 fin_1
   unfold slice_apart_L1 at hF
   refine wA rfl ?_; refine W_seq ?_; refine wIf hF rfl (fun _ hF => ?_) fun _ hF => ?_
   · refine W_skip ?_; refine W_seq ?_; refine W_block ?_; refine wC 1 rfl ?_; obtain ⟨y217, hy217, hF⟩ := bB hF
     refine rS (T_ixT (tc := t_api_Slice) p0 rfl rfl hy217 ?_); refine QV rfl ?_; refine W_seq ?_; refine wA rfl ?_; refine W_join (fun _ _ h => h) hF (fun v218 => [(0, cL 8 t_api_Slice p0), (3, cI a116), (4, cP (4,0) 0), (5, cI v218), (6, cI a203), (7, cP (7,0) 0), (8, cL 8 t_api_Slice p0), (9, cI (List.length p0 : Int)), (10, cI a116), (22, cL 8 t_api_Slice p0), (23, cI (List.length p0 : Int)), (24, cI a203)]) (fun v218 => [((4,0), .box (m_api_Slice y173)), ((7,0), .box (m_api_Slice y217))]) ?_ ?_
     · rintro v218 hF
       refine W_seq ?_; refine W_join (fun _ _ h => h) hF (fun v219 => [(0, cL 8 t_api_Slice p0), (3, cI a116), (4, cP (4,0) 0), (5, cI v218), (8, cL 8 t_api_Slice p0), (9, cI (List.length p0 : Int)), (10, cI a116), (22, cL 8 t_api_Slice p0), (23, cI (List.length p0 : Int)), (24, cI a203), (76, cB v219)]) (fun v219 => [((4,0), .box (m_api_Slice y173))]) ?_ ?_
       · rintro v219 hF
         refine wIf hF rfl (fun _ hF => ?_) fun _ hF => ?_
         · refine wA rfl ?_; have hF := fin_1 _ (oi hF); have hF := fin_0 _ (oi hF); cases hF
           exact W_ret wR
         refine W_skip ?_; refine wB rfl ?_; exact cont_1 _ _ _ (oi hF) sw
       intro join hF
       refine wD 4 rfl ?_; cases h221 : (decide (a203 < a116))
       · have hF := bF' h221 hF; refine QV rfl ?_; exact join false _ _ hF sw
       have hF := bT' h221 hF; refine Q_run SV 7 rfl ?_; cases h222 : (decide (y217.fThread = y173.fThread))
       · have hF := bF' h222 hF; refine QV rfl ?_; exact join false _ _ hF sw
       have hF := bT' h222 hF; refine Q_run SV 9 rfl ?_; cases h223 : (decide (y173.fSpan.fFrom < y217.fSpan.fTo))
       · have hF := bF' h223 hF; refine QV rfl ?_; exact join false _ _ hF sw
       have hF := bT' h223 hF; refine Q_run SV 9 rfl ?_; cases h224 : (decide (y217.fSpan.fFrom < y173.fSpan.fTo))
       · have hF := bF' h224 hF; refine QV rfl ?_; exact join false _ _ hF sw
       have hF := bT' h224 hF; refine Q_run SV 3 rfl ?_; obtain ⟨r225, hr225, hF⟩ := bB' hF
       refine R_step SV rfl (T_call (slice_under_fun _ _ _ _ hr225) ⟨rfl, rfl, rfl, trivial⟩ rfl (.inl rfl) ?_); refine QV rfl ?_; exact join (!r225) _ _ hF sw
     intro join hF
     refine wIf' hF rfl (fun _ hF => ?_) fun _ hF => ?_
     · refine wB rfl ?_; exact join (w64 (a202 - (w64 (y217.fSpan.fTo - y217.fSpan.fFrom)))) _ _ hF sw
     refine W_skip ?_; exact join a202 _ _ hF sw
   refine W_exit ?_; refine thenQ_exit ?_; refine thenQ_exit ?_; refine blockQ_hit ?_; exact brk_1 _ _ _ (oi hF) sw
 refine W_exit ?_; refine thenQ_exit ?_; refine thenQ_exit ?_; refine blockQ_hit ?_; exact brk_0 _ _ _ (oi hF) sw
def slice_Check_L1 (p0 : (List api_Slice)) : Int → Option (Int ⊕ (Unit ⊕ Int)) := fun a32 =>
  (bif (decide (a32 < (List.length p0 : Int))) then ((idx p0 a32).bind fun y52 => (((bif (decide (y52.fThread < 0)) then some true else (bif (decide (1000000000000000 < y52.fThread)) then some true else ((spans_Valid y52.fSpan).bind fun r64 => some (!r64)))) : Option Bool).bind fun v53 => (bif v53 then some (.inr (.inr 2)) else ((intern_Name y52.fName).bind fun r54 => (bif (!decide (r54 = 0)) then some (.inr (.inr r54)) else (((bif (decide (0 < a32)) then ((idx p0 (w64 (a32 - 1))).bind fun y58 => ((slice_compare y58 y52).bind fun r59 => some (decide (0 < r59)))) else some false) : Option Bool).bind fun v55 => (bif v55 then some (.inr (.inr 11)) else some (.inl (w64 (a32 + 1)))))))))) else some (.inr (.inl ())))
def slice_Check (p0 : (List api_Slice)) : Option Int :=
  ((loop (slice_Check_L1 p0) 0).bind fun | .inl _ => ((((slice_nested p0).bind fun r49 => (bif (!r49) then some true else ((slice_apart p0).bind fun r51 => some (!r51)))) : Option Bool).bind fun v47 => (bif v47 then some 10 else some 0)) | .inr rv => some rv)
theorem slice_Check_fun (p0 : (List api_Slice)) (r : Int) (hF : slice_Check p0 = some r) : Fun Tryz.prog 63 true [] [cL 8 t_api_Slice p0] noHeap (cI r) noHeap := by
 refine Fun.of_walk0 Tryz.func63 c63 (by kernel_rfl) (rs := [.tmp 2]) (by kernel_rfl) ?_; unfold v63
 unfold slice_Check at hF
 refine wA rfl ?_; refine W_seq ?_; refine wC 1 rfl ?_; refine rS (T_len (tc := t_api_Slice) p0 .tree ?_); refine QV rfl ?_; refine W_for (fun _ _ h => h) hF (.inl) (fun a32 => [(0, cL 8 t_api_Slice p0), (6, cL 8 t_api_Slice p0), (7, cI (List.length p0 : Int)), (8, cI a32)]) (fun a32 => []) (fun _ => [(0, cL 8 t_api_Slice p0)]) (fun _ => []) sw ?_ ?_
 · rintro ⟨⟩ hF
   refine W_seq ?_; refine W_seq ?_; refine W_join (fun _ _ h => h) hF (fun v47 => [(53, cB v47)]) (fun v47 => []) ?_ ?_
   · rintro v47 hF
     refine wIf hF rfl (fun _ hF => ?_) fun _ hF => ?_
     · refine wA rfl ?_; cases hF
       exact W_ret wR
     refine W_skip ?_; refine wA rfl ?_; cases hF
     exact W_ret wR
   intro join hF
   refine wD 1 rfl ?_; obtain ⟨r49, hr49, hF⟩ := bB' hF
   refine rS (T_call (slice_nested_fun _ _ hr49) ⟨rfl, trivial⟩ rfl (.inl rfl) ?_); refine Q_run SV 2 rfl ?_; cases h50 : (!r49)
   · have hF := bF' h50 hF; refine Q_run SV 1 rfl ?_; obtain ⟨r51, hr51, hF⟩ := bB' hF
     refine R_step SV rfl (T_call (slice_apart_fun _ _ hr51) ⟨rfl, trivial⟩ rfl (.inl rfl) ?_); refine QV rfl ?_; exact join (!r51) _ _ hF sw
   have hF := bT' h50 hF; refine QV rfl ?_; exact join true _ _ hF sw
 rintro a32 x_0 hF cont_0 brk_0 fin_0
 unfold slice_Check_L1 at hF
 refine wA rfl ?_; refine W_seq ?_; refine wIf hF rfl (fun _ hF => ?_) fun _ hF => ?_
 · refine W_skip ?_; refine W_seq ?_; refine W_block ?_; refine wC 1 rfl ?_; obtain ⟨y52, hy52, hF⟩ := bB hF
   refine rS (T_ixT (tc := t_api_Slice) p0 rfl rfl hy52 ?_); refine QV rfl ?_; refine W_seq ?_; refine W_seq ?_; refine W_join (fun _ _ h => h) hF (fun v53 => [(0, cL 8 t_api_Slice p0), (3, cI a32), (4, cP (4,0) 0), (6, cL 8 t_api_Slice p0), (7, cI (List.length p0 : Int)), (8, cI a32), (26, cB v53)]) (fun v53 => [((4,0), .box (m_api_Slice y52))]) ?_ ?_
   · rintro v53 hF
     refine wIf hF rfl (fun _ hF => ?_) fun _ hF => ?_
     · refine wA rfl ?_; have hF := fin_0 _ (oi hF); cases hF
       exact W_ret wR
     refine W_skip ?_; refine W_seq ?_; refine wC 2 rfl ?_; obtain ⟨r54, hr54, hF⟩ := bB hF
     refine rS (T_call (intern_Name_fun _ _ hr54) ⟨rfl, trivial⟩ rfl (.inl rfl) ?_); refine QV rfl ?_; refine wA rfl ?_; refine wIf hF rfl (fun _ hF => ?_) fun _ hF => ?_
     · refine wA rfl ?_; have hF := fin_0 _ (oi hF); cases hF
       exact W_ret wR
     refine W_skip ?_; refine W_seq ?_; refine W_join (fun _ _ h => h) hF (fun v55 => [(0, cL 8 t_api_Slice p0), (6, cL 8 t_api_Slice p0), (7, cI (List.length p0 : Int)), (8, cI a32), (44, cB v55)]) (fun v55 => []) ?_ ?_
     · rintro v55 hF
       refine wIf hF rfl (fun _ hF => ?_) fun _ hF => ?_
       · refine wA rfl ?_; have hF := fin_0 _ (oi hF); cases hF
         exact W_ret wR
       refine W_skip ?_; refine wB rfl ?_; exact cont_0 _ _ _ (oi hF) sw
     intro join hF
     refine W_regD (by decide) (by kernel_rfl) rfl ?_; refine Q_run SP 3 rfl ?_; cases h57 : (decide (0 < a32))
     · have hF := bF' h57 hF; refine QP rfl ?_; exact join false _ _ hF sw
     have hF := bT' h57 hF; refine Q_run SP 3 rfl ?_; obtain ⟨y58, hy58, hF⟩ := bB' hF
     refine R_step SP rfl (T_ixT (tc := t_api_Slice) p0 rfl rfl hy58 ?_); refine Q_run SP 2 rfl ?_; obtain ⟨r59, hr59, hF⟩ := bB' hF
     refine R_step SP rfl (T_call (slice_compare_fun _ _ _ hr59) ⟨⟨rfl, rfl, rfl, rfl, rfl, rfl, rfl, rfl, trivial⟩, ⟨rfl, rfl, rfl, rfl, rfl, rfl, rfl, rfl, trivial⟩, trivial⟩ rfl (.inl rfl) ?_); refine QP rfl ?_
     exact join (decide (0 < r59)) _ _ hF sw
   intro join hF
   refine wD 4 rfl ?_; cases h62 : (decide (y52.fThread < 0))
   · have hF := bF' h62 hF; refine Q_run SV 5 rfl ?_; cases h63 : (decide (1000000000000000 < y52.fThread))
     · have hF := bF' h63 hF; refine Q_run SV 2 rfl ?_; obtain ⟨r64, hr64, hF⟩ := bB' hF
       refine R_step SV rfl (T_call (spans_Valid_fun _ _ hr64) ⟨⟨rfl, rfl, trivial⟩, trivial⟩ rfl (.inl rfl) ?_); refine QV rfl ?_; exact join (!r64) _ _ hF sw
     have hF := bT' h63 hF; refine QV rfl ?_; exact join true _ _ hF sw
   have hF := bT' h62 hF; refine QV rfl ?_; exact join true _ _ hF sw
 refine W_exit ?_; refine thenQ_exit ?_; refine thenQ_exit ?_; refine blockQ_hit ?_; exact brk_0 _ _ _ (oi hF) sw
def trace_tables_1 (p0 : api_Slice) : Option Int :=
  some p0.fThread
theorem trace_tables_1_fun (p0 : api_Slice) (r : Int) (hF : trace_tables_1 p0 = some r) : Fun Tryz.prog 64 true [] [.agg (m_api_Slice p0)] noHeap (cI r) noHeap := by
 refine Fun.of_walk0 Tryz.func64 c64 (by kernel_rfl) (rs := [.tmp 2]) (by kernel_rfl) ?_; unfold v64
 unfold trace_tables_1 at hF
 refine wA rfl ?_; refine wA rfl ?_; cases hF
 exact W_ret wR
def trace_known_api_Slice_k1_L1 (p1 : (List (Int × ByteArray))) (p2 : (List api_Slice)) : Int → Option (Int ⊕ (Unit ⊕ Int)) := fun a12 =>
  (bif (decide (a12 < (List.length p2 : Int))) then ((idx p2 a12).bind fun y17 => ((trace_tables_1 y17).bind fun r18 => (bif (!(Option.isSome (mget r18 p1))) then some (.inr (.inr 5)) else some (.inl (w64 (a12 + 1)))))) else some (.inr (.inl ())))
def trace_known_api_Slice_k1 (p0 : Int) (p1 : (List (Int × ByteArray))) (p2 : (List api_Slice)) : Option Int :=
  (bif (!decide (p0 = 0)) then some p0 else ((loop (trace_known_api_Slice_k1_L1 p1 p2) 0).bind fun | .inl _ => some 0 | .inr rv => some rv))
theorem trace_known_api_Slice_k1_fun (p0 : Int) (p1 : (List (Int × ByteArray))) (p2 : (List api_Slice)) (r : Int) (hF : trace_known_api_Slice_k1 p0 p1 p2 = some r) : Fun Tryz.prog 62 false [(3480,0)] [cI p0, cM (3480,0), cL 8 t_api_Slice p2, .c (.fn 64 [])] (heapOf [((3480,0), mapOb (.int .i64) kvI vvS p1)]) (cI r) (heapOf [((3480,0), mapOb (.int .i64) kvI vvS p1)]) := by
 refine Fun.of_walkM [(3480,0)] (some [(3480,0)]) Tryz.func62 c62 (by kernel_rfl) (rs := [.tmp 8]) (by kernel_rfl) rfl rfl rfl ?_; unfold v62
 unfold trace_known_api_Slice_k1 at hF
 refine wA rfl ?_; refine W_seq ?_; refine wA rfl ?_; refine wIf hF rfl (fun _ hF => ?_) fun _ hF => ?_
 · refine wA rfl ?_; cases hF
   exact W_ret ⟨_, _, S_refl, _, rfl, rfl, ⟨rfl, fun _ => rfl⟩, (AgM.weak ⟨rfl, trivial⟩)⟩
 refine W_skip ?_; refine W_seq ?_; refine wC 1 rfl ?_; refine rS (T_len (tc := t_api_Slice) p2 .tree ?_); refine QV rfl ?_; refine W_for (fun _ _ h => h) hF (.inl) (fun a12 => [(1, cM (3480,0)), (3, .c (.fn 64 [])), (16, cL 8 t_api_Slice p2), (17, cI (List.length p2 : Int)), (18, cI a12)]) (fun a12 => [((3480,0), mapOb (.int .i64) kvI vvS p1)]) (fun _ => []) (fun _ => [((3480,0), mapOb (.int .i64) kvI vvS p1)]) sw ?_ ?_
 · rintro ⟨⟩ hF
   refine wA rfl ?_; cases hF
   exact W_ret ⟨_, _, S_refl, _, rfl, rfl, ⟨rfl, fun _ => rfl⟩, (AgM.weak ⟨rfl, trivial⟩)⟩
 rintro a12 x_0 hF cont_0 brk_0 fin_0
 unfold trace_known_api_Slice_k1_L1 at hF
 refine wA rfl ?_; refine W_seq ?_; refine wIf hF rfl (fun _ hF => ?_) fun _ hF => ?_
 · refine W_skip ?_; refine W_seq ?_; refine W_block ?_; refine wE ?_; obtain ⟨y17, hy17, hF⟩ := bB hF
   refine rS (T_ixT (tc := t_api_Slice) p2 rfl rfl hy17 ?_); refine QV rfl ?_; refine wC 3 rfl ?_; obtain ⟨r18, hr18, hF⟩ := bB hF
   refine R_stepX trivial (X_call (callW _ rfl fnOk64) (trace_tables_1_fun _ _ hr18) ⟨⟨rfl, rfl, rfl, rfl, rfl, rfl, rfl, rfl, trivial⟩, trivial⟩ rfl (.inl rfl) ?_); refine rS (T_lookOk (keyI .i64) (vv := vvS) p1 r18 ⟨#[]⟩ (.own _ rfl) rfl rfl ?_)
   refine QV rfl ?_; refine wA rfl ?_; refine wIf hF rfl (fun _ hF => ?_) fun _ hF => ?_
   · refine wA rfl ?_; have hF := fin_0 _ (oi hF); cases hF
     exact W_ret ⟨_, _, S_refl, _, rfl, rfl, ⟨rfl, fun _ => rfl⟩, (AgM.weak ⟨rfl, trivial⟩)⟩
   refine W_skip ?_; refine wB rfl ?_; exact cont_0 _ _ _ (oi hF) sw
 refine W_exit ?_; refine thenQ_exit ?_; refine thenQ_exit ?_; refine blockQ_hit ?_; exact brk_0 _ _ _ (oi hF) sw
def slices_Index_int_int_L1 (p0 : (List Int)) (p1 : Int) : Int → Option (Int ⊕ (Unit ⊕ Int)) := fun a10 =>
  (bif (decide (a10 < (List.length p0 : Int))) then ((idx p0 a10).bind fun y14 => (bif (decide (p1 = y14)) then some (.inr (.inr a10)) else some (.inl (w64 (a10 + 1))))) else some (.inr (.inl ())))
def slices_Index_int_int (p0 : (List Int)) (p1 : Int) : Option Int :=
  ((loop (slices_Index_int_int_L1 p0 p1) 0).bind fun | .inl _ => some (-1) | .inr rv => some rv)
theorem slices_Index_int_int_fun (p0 : (List Int)) (p1 : Int) (r : Int) (hF : slices_Index_int_int p0 p1 = some r) : Fun Tryz.prog 114 true [] [cL 1 t_i64 p0, cI p1] noHeap (cI r) noHeap := by
 refine Fun.of_walk0 Tryz.func114 c114 (by kernel_rfl) (rs := [.tmp 4]) (by kernel_rfl) ?_; unfold v114
 unfold slices_Index_int_int at hF
 refine wA rfl ?_; refine W_seq ?_; refine wC 1 rfl ?_; refine rS (T_len (tc := t_i64) p0 .tree ?_); refine QV rfl ?_; refine W_for (fun _ _ h => h) hF (.inl) (fun a10 => [(0, cL 1 t_i64 p0), (1, cI p1), (7, cI (List.length p0 : Int)), (8, cI a10)]) (fun a10 => []) (fun _ => []) (fun _ => []) sw ?_ ?_
 · rintro ⟨⟩ hF
   refine wA rfl ?_; cases hF
   exact W_ret wR
 rintro a10 x_0 hF cont_0 brk_0 fin_0
 unfold slices_Index_int_int_L1 at hF
 refine wA rfl ?_; refine W_seq ?_; refine wIf hF rfl (fun _ hF => ?_) fun _ hF => ?_
 · refine W_skip ?_; refine W_seq ?_; refine W_block ?_; refine wA rfl ?_; refine wC 3 rfl ?_; obtain ⟨y14, hy14, hF⟩ := bB hF
   refine rS (T_ixT (tc := t_i64) p0 rfl rfl hy14 ?_); refine QV rfl ?_; refine wIf hF rfl (fun _ hF => ?_) fun _ hF => ?_
   · refine wA rfl ?_; have hF := fin_0 _ (oi hF); cases hF
     exact W_ret wR
   refine W_skip ?_; refine wB rfl ?_; exact cont_0 _ _ _ (oi hF) sw
 refine W_exit ?_; refine thenQ_exit ?_; refine thenQ_exit ?_; refine blockQ_hit ?_; exact brk_0 _ _ _ (oi hF) sw
def slices_Contains_int_int (p0 : (List Int)) (p1 : Int) : Option Bool :=
  ((slices_Index_int_int p0 p1).bind fun r1 => some (decide (0 ≤ r1)))
theorem slices_Contains_int_int_fun (p0 : (List Int)) (p1 : Int) (r : Bool) (hF : slices_Contains_int_int p0 p1 = some r) : Fun Tryz.prog 147 true [] [cL 1 t_i64 p0, cI p1] noHeap (cB r) noHeap := by
 refine Fun.of_walk0 Tryz.func147 c147 (by kernel_rfl) (rs := [.tmp 4]) (by kernel_rfl) ?_; unfold v147
 unfold slices_Contains_int_int at hF
 refine wA rfl ?_; refine wC 2 rfl ?_; obtain ⟨r1, hr1, hF⟩ := bB hF
 refine rS (T_call (slices_Index_int_int_fun _ _ _ hr1) ⟨rfl, rfl, trivial⟩ rfl (.inl rfl) ?_); refine QV rfl ?_; cases hF
 exact W_ret wR
def state_distinct_L1 (p0 : (List api_Thread)) : ((List Int) × Int) → Option (((List Int) × Int) ⊕ (List Int)) := fun (a19, a20) =>
  (bif (decide (a20 < (List.length p0 : Int))) then ((((idx p0 a20).bind fun y29 => ((slices_Contains_int_int a19 y29.fId).bind fun r30 => (bif (!r30) then (bif room 8 (List.length a19 + List.length [y29.fId]) then some (a19 ++ [y29.fId]) else none) else some a19))) : Option (List Int)).bind fun v28 => some (.inl (v28, (w64 (a20 + 1))))) else some (.inr a19))
def state_distinct (p0 : (List api_Thread)) : Option (List Int) :=
  ((loop (state_distinct_L1 p0) ([], 0)).bind fun e27 => some e27)
theorem state_distinct_fun (p0 : (List api_Thread)) (r : (List Int)) (hF : state_distinct p0 = some r) : Fun Tryz.prog 113 false [] [cL 3 t_api_Thread p0] (heapOf []) (cO (902,4520)) (heapOf [((902,4520), .arr 3 1 (List.map t_i64 r))]) := by
 refine Fun.of_walkM [] (some []) Tryz.func113 c113 (by kernel_rfl) (rs := [.tmp 2]) (by kernel_rfl) rfl rfl rfl ?_; unfold v113
 unfold state_distinct at hF
 refine wA rfl ?_; refine wA rfl ?_; refine W_seq ?_; refine wC 1 rfl ?_; refine rS (T_len (tc := t_api_Thread) p0 .tree ?_); refine QV rfl ?_; refine W_for (fun _ _ h => h) hF (id) (fun (a19, a20) => [(3, cO (21,1)), (6, cL 3 t_api_Thread p0), (7, cI (List.length p0 : Int)), (8, cI a20)]) (fun (a19, a20) => [((21,1), .arr 3 1 (List.map t_i64 a19))]) (fun e27 => [(3, cO (21,1))]) (fun e27 => [((21,1), .arr 3 1 (List.map t_i64 e27))]) (S_own 3 (21,1) 3 1 rfl rfl rfl rfl sw) ?_ ?_
 · rintro e27 hF
   refine wA rfl ?_; cases hF
   exact W_ret ⟨_, _, (S_ren (21,1) (902,4520) rfl rfl S_refl), _, rfl, rfl, rfl, (AgM.weak ⟨rfl, trivial⟩)⟩
 rintro ⟨a19, a20⟩ x_0 hF cont_0 brk_0 fin_0
 unfold state_distinct_L1 at hF
 refine wA rfl ?_; refine W_seq ?_; refine wIf hF rfl (fun _ hF => ?_) fun _ hF => ?_
 · refine W_skip ?_; refine W_seq ?_; refine W_join (fun _ _ h => h) hF (fun v28 => [(3, cO (21,1)), (6, cL 3 t_api_Thread p0), (7, cI (List.length p0 : Int)), (8, cI a20)]) (fun v28 => [((21,1), .arr 3 1 (List.map t_i64 v28))]) ?_ ?_
   · rintro v28 hF
     refine wB rfl ?_; exact cont_0 _ _ _ (oi hF) sw
   intro join hF
   refine W_block ?_; refine wE ?_; obtain ⟨y29, hy29, hF⟩ := bB' hF
   refine rS (T_ixT (tc := t_api_Thread) p0 rfl rfl hy29 ?_); refine QV rfl ?_; refine wC 3 rfl ?_; obtain ⟨r30, hr30, hF⟩ := bB' hF
   refine rS (T_call (slices_Contains_int_int_fun _ _ _ hr30) ⟨⟨_, rfl⟩, rfl, trivial⟩ rfl (.inl rfl) ?_); refine QV rfl ?_; refine wIf' hF rfl (fun _ hF => ?_) fun _ hF => ?_
   · refine wD 3 rfl ?_; refine rS (T_bsl (tc := t_i64) [y29.fId] rfl ⟨rfl, trivial⟩ rfl (fun _ => rfl) rfl ?_)
     obtain ⟨h31, hF⟩ := roomT' hF
     refine rS (T_appO (tc := t_i64) a19 [y29.fId] rfl rfl (.own _ _ rfl) h31 rfl ?_); refine QV rfl ?_; exact join (a19 ++ [y29.fId]) _ _ hF (S_ren (21,0) (21,1) rfl rfl sw)
   refine W_skip ?_; exact join a19 _ _ hF sw
 refine W_exit ?_; refine thenQ_exit ?_; refine thenQ_exit ?_; refine blockQ_hit ?_; exact brk_0 _ _ _ (oi hF) sw
def state_fields (p0 : api_State) : Option Bool :=
  (((bif (decide (p0.fState = 1)) then some true else some (decide (p0.fState = 2))) : Option Bool).bind fun v1 => (((bif (decide (p0.fState < 0)) then some true else some (decide (5 < p0.fState))) : Option Bool).bind fun v2 => (bif v2 then some false else (((bif (decide (p0.fState = 4)) then (bif (decide (p0.fCpu < 0)) then some true else some (decide (64 ≤ p0.fCpu))) else some false) : Option Bool).bind fun v3 => (((bif v3 then some v3 else (bif (!decide (p0.fState = 4)) then some (!decide (p0.fCpu = (-1))) else some false)) : Option Bool).bind fun v4 => (bif v4 then some false else (((bif (decide (p0.fState = 2)) then (bif (decide (p0.fOn < 0)) then some true else some (decide (1000000000000000 < p0.fOn))) else some false) : Option Bool).bind fun v5 => (((bif v5 then some v5 else (bif (!decide (p0.fState = 2)) then some (!decide (p0.fOn = (-1))) else some false)) : Option Bool).bind fun v6 => (bif v6 then some false else (((bif (decide (p0.fBy = (-1))) then some true else (bif v1 then (bif (decide (0 ≤ p0.fBy)) then some (decide (p0.fBy ≤ 1000000000000000)) else some false) else some false)) : Option Bool).bind fun v7 => some v7))))))))))
theorem state_fields_fun (p0 : api_State) (r : Bool) (hF : state_fields p0 = some r) : Fun Tryz.prog 115 true [] [.agg (m_api_State p0)] noHeap (cB r) noHeap := by
 refine Fun.of_walk0 Tryz.func115 c115 (by kernel_rfl) (rs := [.tmp 2]) (by kernel_rfl) ?_; unfold v115
 unfold state_fields at hF
 refine wA rfl ?_; refine W_seq ?_; refine W_join (fun _ _ h => h) hF (fun v1 => [(1, cP (1,0) 0), (3, cB v1)]) (fun v1 => [((1,0), .box (m_api_State p0))]) ?_ ?_
 · rintro v1 hF
   refine W_seq ?_; refine W_block ?_; refine W_seq ?_; refine W_join (fun _ _ h => h) hF (fun v2 => [(1, cP (1,0) 0), (3, cB v1), (12, cB v2)]) (fun v2 => [((1,0), .box (m_api_State p0))]) ?_ ?_
   · rintro v2 hF
     refine wIf hF rfl (fun _ hF => ?_) fun _ hF => ?_
     · refine wA rfl ?_; cases hF
       exact W_ret wR
     refine W_seq ?_; refine W_seq ?_; refine W_join (fun _ _ h => h) hF (fun v3 => [(1, cP (1,0) 0), (3, cB v1), (21, cB v3)]) (fun v3 => [((1,0), .box (m_api_State p0))]) ?_ ?_
     · rintro v3 hF
       refine W_join (fun _ _ h => h) hF (fun v4 => [(1, cP (1,0) 0), (3, cB v1), (21, cB v4)]) (fun v4 => [((1,0), .box (m_api_State p0))]) ?_ ?_
       · rintro v4 hF
         refine wIf hF rfl (fun _ hF => ?_) fun _ hF => ?_
         · refine wA rfl ?_; cases hF
           exact W_ret wR
         refine W_seq ?_; refine W_seq ?_; refine W_join (fun _ _ h => h) hF (fun v5 => [(1, cP (1,0) 0), (3, cB v1), (43, cB v5)]) (fun v5 => [((1,0), .box (m_api_State p0))]) ?_ ?_
         · rintro v5 hF
           refine W_join (fun _ _ h => h) hF (fun v6 => [(1, cP (1,0) 0), (3, cB v1), (43, cB v6)]) (fun v6 => [((1,0), .box (m_api_State p0))]) ?_ ?_
           · rintro v6 hF
             refine wIf hF rfl (fun _ hF => ?_) fun _ hF => ?_
             · refine wA rfl ?_; cases hF
               exact W_ret wR
             refine W_skip ?_; refine W_seq ?_; refine W_join (fun _ _ h => h) hF (fun v7 => [(2, cB v7)]) (fun v7 => []) ?_ ?_
             · rintro v7 hF
               cases hF
               exact W_ret wR
             intro join hF
             refine wD 4 rfl ?_; cases h8 : (decide (p0.fBy = (-1)))
             · have hF := bF' h8 hF; refine Q_run SV 2 rfl ?_; cases h9 : v1
               · have hF := bF' h9 hF; refine QV rfl ?_; exact join false _ _ hF sw
               have hF := bT' h9 hF; refine Q_run SV 5 rfl ?_; cases h10 : (decide (0 ≤ p0.fBy))
               · have hF := bF' h10 hF; refine QV rfl ?_; exact join false _ _ hF sw
               have hF := bT' h10 hF; refine QV rfl ?_; exact join (decide (p0.fBy ≤ 1000000000000000)) _ _ hF sw
             have hF := bT' h8 hF; refine QV rfl ?_; exact join true _ _ hF sw
           intro join hF
           refine wIf' hF rfl (fun _ hF => ?_) fun _ hF => ?_
           · refine W_skip ?_; exact join v5 _ _ hF sw
           refine wD 4 rfl ?_; cases h12 : (!decide (p0.fState = 2))
           · have hF := bF' h12 hF; refine QV rfl ?_; exact join false _ _ hF sw
           have hF := bT' h12 hF; refine QV rfl ?_; exact join (!decide (p0.fOn = (-1))) _ _ hF sw
         intro join hF
         refine wD 4 rfl ?_; cases h14 : (decide (p0.fState = 2))
         · have hF := bF' h14 hF; refine QV rfl ?_; exact join false _ _ hF sw
         have hF := bT' h14 hF; refine Q_run SV 4 rfl ?_; cases h15 : (decide (p0.fOn < 0))
         · have hF := bF' h15 hF; refine QV rfl ?_; exact join (decide (1000000000000000 < p0.fOn)) _ _ hF sw
         have hF := bT' h15 hF; refine QV rfl ?_; exact join true _ _ hF sw
       intro join hF
       refine wIf' hF rfl (fun _ hF => ?_) fun _ hF => ?_
       · refine W_skip ?_; exact join v3 _ _ hF sw
       refine wD 4 rfl ?_; cases h17 : (!decide (p0.fState = 4))
       · have hF := bF' h17 hF; refine QV rfl ?_; exact join false _ _ hF sw
       have hF := bT' h17 hF; refine QV rfl ?_; exact join (!decide (p0.fCpu = (-1))) _ _ hF sw
     intro join hF
     refine wD 4 rfl ?_; cases h19 : (decide (p0.fState = 4))
     · have hF := bF' h19 hF; refine QV rfl ?_; exact join false _ _ hF sw
     have hF := bT' h19 hF; refine Q_run SV 4 rfl ?_; cases h20 : (decide (p0.fCpu < 0))
     · have hF := bF' h20 hF; refine QV rfl ?_; exact join (decide (64 ≤ p0.fCpu)) _ _ hF sw
     have hF := bT' h20 hF; refine QV rfl ?_; exact join true _ _ hF sw
   intro join hF
   refine wD 4 rfl ?_; cases h22 : (decide (p0.fState < 0))
   · have hF := bF' h22 hF; refine QV rfl ?_; exact join (decide (5 < p0.fState)) _ _ hF sw
   have hF := bT' h22 hF; refine QV rfl ?_; exact join true _ _ hF sw
 intro join hF
 refine wD 4 rfl ?_; cases h23 : (decide (p0.fState = 1))
 · have hF := bF' h23 hF; refine QV rfl ?_; exact join (decide (p0.fState = 2)) _ _ hF sw
 have hF := bT' h23 hF; refine QV rfl ?_; exact join true _ _ hF sw
def state_same (p0 : api_State) (p1 : api_State) : Option Bool :=
  (((bif (decide (p0.fState = p1.fState)) then (bif (decide (p0.fCpu = p1.fCpu)) then some (decide (p0.fOn = p1.fOn)) else some false) else some false) : Option Bool).bind fun v1 => some v1)
theorem state_same_fun (p0 : api_State) (p1 : api_State) (r : Bool) (hF : state_same p0 p1 = some r) : Fun Tryz.prog 116 true [] [.agg (m_api_State p0), .agg (m_api_State p1)] noHeap (cB r) noHeap := by
 refine Fun.of_walk0 Tryz.func116 c116 (by kernel_rfl) (rs := [.tmp 4]) (by kernel_rfl) ?_; unfold v116
 unfold state_same at hF
 refine wA rfl ?_; refine W_seq ?_; refine W_join (fun _ _ h => h) hF (fun v1 => [(4, cB v1)]) (fun v1 => []) ?_ ?_
 · rintro v1 hF
   cases hF
   exact W_ret wR
 intro join hF
 refine wD 6 rfl ?_; cases h2 : (decide (p0.fState = p1.fState))
 · have hF := bF' h2 hF; refine QV rfl ?_; exact join false _ _ hF sw
 have hF := bT' h2 hF; refine Q_run SV 7 rfl ?_; cases h3 : (decide (p0.fCpu = p1.fCpu))
 · have hF := bF' h3 hF; refine QV rfl ?_; exact join false _ _ hF sw
 have hF := bT' h3 hF; refine QV rfl ?_; exact join (decide (p0.fOn = p1.fOn)) _ _ hF sw
def state_Check_L1 (p1 : (List api_State)) (y68 : api_State) : Int → Option (Int ⊕ (Unit ⊕ Int)) := fun a88 =>
  (bif (decide (a88 < (List.length p1 : Int))) then ((idx p1 a88).bind fun y98 => (((bif (decide ((w64 (a88 + 1)) = (List.length p1 : Int))) then some true else ((idx p1 (w64 (a88 + 1))).bind fun y104 => some (!decide (y104.fThread = y98.fThread)))) : Option Bool).bind fun v99 => (((bif v99 then some (!decide (y98.fSpan.fTo = y68.fSpan.fTo)) else some false) : Option Bool).bind fun v100 => (bif v100 then some (.inr (.inr 11)) else some (.inl (w64 (a88 + 1))))))) else some (.inr (.inl ())))
def state_Check_L2 (p1 : (List api_State)) (r1 : (List Int)) : (Int × Int) → Option ((Int × Int) ⊕ (Int ⊕ Int)) := fun (a46, a47) =>
  (bif (decide (a47 < (List.length p1 : Int))) then ((idx p1 a47).bind fun y107 => ((slices_Index_int_int r1 y107.fThread).bind fun r108 => (bif (decide (r108 < 0)) then some (.inr (.inr 5)) else ((spans_Valid y107.fSpan).bind fun r109 => (bif (!r109) then some (.inr (.inr 2)) else ((state_fields y107).bind fun r110 => (bif (!r110) then some (.inr (.inr 1)) else (((bif (decide (r108 = a46)) then ((idx p1 (w64 (a47 - 1))).bind fun y118 => (bif (!decide (y107.fSpan.fFrom = y118.fSpan.fTo)) then some true else ((idx p1 (w64 (a47 - 1))).bind fun y120 => ((state_same y107 y120).bind fun r121 => some r121)))) else some false) : Option Bool).bind fun v111 => (bif v111 then some (.inr (.inr 11)) else (((bif (!decide (r108 = a46)) then (bif (!decide (r108 = (w64 (a46 + 1)))) then some true else some (!decide (y107.fSpan.fFrom = 0))) else some false) : Option Bool).bind fun v112 => (bif v112 then some (.inr (.inr 11)) else some (.inl (r108, (w64 (a47 + 1))))))))))))))) else some (.inr (.inl a46)))
def state_Check (p0 : (List api_Thread)) (p1 : (List api_State)) : Option Int :=
  ((state_distinct p0).bind fun r1 => ((loop (state_Check_L2 p1 r1) ((-1), 0)).bind fun | .inl e67 => (bif (decide ((List.length p1 : Int) = 0)) then some 0 else ((idx p1 (w64 ((List.length p1 : Int) - 1))).bind fun y68 => ((loop (state_Check_L1 p1 y68) 0).bind fun | .inl _ => (bif (!decide ((w64 (e67 + 1)) = (List.length r1 : Int))) then some 11 else some 0) | .inr rv => some rv))) | .inr rv => some rv))
theorem state_Check_fun (p0 : (List api_Thread)) (p1 : (List api_State)) (r : Int) (hF : state_Check p0 p1 = some r) : Fun Tryz.prog 65 true [] [cL 3 t_api_Thread p0, cL 7 t_api_State p1] noHeap (cI r) noHeap := by
 refine Fun.of_walk0 Tryz.func65 c65 (by kernel_rfl) (rs := [.tmp 4]) (by kernel_rfl) ?_; unfold v65
 unfold state_Check at hF
 refine wA rfl ?_; refine wC 1 rfl ?_; obtain ⟨r1, hr1, hF⟩ := bB hF
 refine R_stepX trivial (X_callG [((902,4520),(15,1))] rfl (callN _) (state_distinct_fun _ _ hr1) trivial ⟨.inl rfl, trivial⟩ rfl rfl rfl ?_); refine QV rfl ?_; refine wA rfl ?_; refine W_seq ?_; refine wC 1 rfl ?_
 refine rS (T_len (tc := t_api_State) p1 .tree ?_); refine QV rfl ?_; refine W_for (fun _ _ h => h) hF (.inl) (fun (a46, a47) => [(1, cL 7 t_api_State p1), (5, cO (15,1)), (6, cI a46), (16, cL 7 t_api_State p1), (17, cI (List.length p1 : Int)), (18, cI a47)]) (fun (a46, a47) => [((15,1), .arr 3 1 (List.map t_i64 r1))]) (fun e67 => [(1, cL 7 t_api_State p1), (5, cO (15,1)), (6, cI e67)]) (fun e67 => [((15,1), .arr 3 1 (List.map t_i64 r1))]) sw ?_ ?_
 · rintro e67 hF
   refine W_seq ?_; refine wC 1 rfl ?_; refine rS (T_len (tc := t_api_State) p1 .tree ?_); refine QV rfl ?_; refine wIf hF rfl (fun _ hF => ?_) fun _ hF => ?_
   · refine wA rfl ?_; cases hF
     exact W_ret wR
   refine W_skip ?_; refine wC 2 rfl ?_; refine rS (T_len (tc := t_api_State) p1 .tree ?_); refine Q_run SV 1 rfl ?_; obtain ⟨y68, hy68, hF⟩ := bB hF
   refine rS (T_ixT (tc := t_api_State) p1 rfl rfl hy68 ?_); refine QV rfl ?_; refine W_seq ?_; refine wC 1 rfl ?_; refine rS (T_len (tc := t_api_State) p1 .tree ?_); refine QV rfl ?_; refine W_for (fun _ _ h => h) hF (.inl) (fun a88 => [(1, cL 7 t_api_State p1), (5, cO (15,1)), (6, cI e67), (10, cI y68.fSpan.fTo), (94, cL 7 t_api_State p1), (95, cI (List.length p1 : Int)), (96, cI a88)]) (fun a88 => [((15,1), .arr 3 1 (List.map t_i64 r1))]) (fun _ => [(5, cO (15,1)), (6, cI e67)]) (fun _ => [((15,1), .arr 3 1 (List.map t_i64 r1))]) sw ?_ ?_
   · rintro ⟨⟩ hF
     refine W_seq ?_; refine wC 3 rfl ?_; refine rS (T_len (tc := t_i64) r1 (.own _ _ rfl) ?_); refine QV rfl ?_; refine wIf hF rfl (fun _ hF => ?_) fun _ hF => ?_
     · refine wA rfl ?_; cases hF
       exact W_ret wR
     refine W_skip ?_; refine wA rfl ?_; cases hF
     exact W_ret wR
   rintro a88 x_0 hF cont_0 brk_0 fin_0
   unfold state_Check_L1 at hF
   refine wA rfl ?_; refine W_seq ?_; refine wIf hF rfl (fun _ hF => ?_) fun _ hF => ?_
   · refine W_skip ?_; refine W_seq ?_; refine W_block ?_; refine wC 1 rfl ?_; obtain ⟨y98, hy98, hF⟩ := bB hF
     refine rS (T_ixT (tc := t_api_State) p1 rfl rfl hy98 ?_); refine QV rfl ?_; refine W_seq ?_; refine W_join (fun _ _ h => h) hF (fun v99 => [(1, cL 7 t_api_State p1), (5, cO (15,1)), (6, cI e67), (10, cI y68.fSpan.fTo), (12, cP (12,0) 0), (13, cB v99), (94, cL 7 t_api_State p1), (95, cI (List.length p1 : Int)), (96, cI a88)]) (fun v99 => [((15,1), .arr 3 1 (List.map t_i64 r1)), ((12,0), .box (m_api_State y98))]) ?_ ?_
     · rintro v99 hF
       refine W_seq ?_; refine W_join (fun _ _ h => h) hF (fun v100 => [(1, cL 7 t_api_State p1), (5, cO (15,1)), (6, cI e67), (10, cI y68.fSpan.fTo), (94, cL 7 t_api_State p1), (95, cI (List.length p1 : Int)), (96, cI a88), (124, cB v100)]) (fun v100 => [((15,1), .arr 3 1 (List.map t_i64 r1))]) ?_ ?_
       · rintro v100 hF
         refine wIf hF rfl (fun _ hF => ?_) fun _ hF => ?_
         · refine wA rfl ?_; have hF := fin_0 _ (oi hF); cases hF
           exact W_ret wR
         refine W_skip ?_; refine wB rfl ?_; exact cont_0 _ _ _ (oi hF) sw
       intro join hF
       refine wD 2 rfl ?_; cases h102 : v99
       · have hF := bF' h102 hF; refine QV rfl ?_; exact join false _ _ hF sw
       have hF := bT' h102 hF; refine QV rfl ?_; exact join (!decide (y98.fSpan.fTo = y68.fSpan.fTo)) _ _ hF sw
     intro join hF
     refine W_regD (by decide) (by kernel_rfl) rfl ?_; refine Q_run SP 3 rfl ?_; refine R_step SP trivial (T_len (tc := t_api_State) p1 .tree ?_); refine Q_run SP 2 rfl ?_; cases h103 : (decide ((w64 (a88 + 1)) = (List.length p1 : Int)))
     · have hF := bF' h103 hF; refine Q_run SP 3 rfl ?_; obtain ⟨y104, hy104, hF⟩ := bB' hF
       refine R_step SP rfl (T_ixT (tc := t_api_State) p1 rfl rfl hy104 ?_); refine QP rfl ?_; exact join (!decide (y104.fThread = y98.fThread)) _ _ hF sw
     have hF := bT' h103 hF; refine QP rfl ?_; exact join true _ _ hF sw
   refine W_exit ?_; refine thenQ_exit ?_; refine thenQ_exit ?_; refine blockQ_hit ?_; exact brk_0 _ _ _ (oi hF) sw
 rintro ⟨a46, a47⟩ x_0 hF cont_0 brk_0 fin_0
 unfold state_Check_L2 at hF
 refine wA rfl ?_; refine W_seq ?_; refine wIf hF rfl (fun _ hF => ?_) fun _ hF => ?_
 · refine W_skip ?_; refine W_seq ?_; refine W_block ?_; refine wC 1 rfl ?_; obtain ⟨y107, hy107, hF⟩ := bB hF
   refine rS (T_ixT (tc := t_api_State) p1 rfl rfl hy107 ?_); refine QV rfl ?_; refine wC 3 rfl ?_; obtain ⟨r108, hr108, hF⟩ := bB hF
   refine rS (T_call (slices_Index_int_int_fun _ _ _ hr108) ⟨⟨_, rfl⟩, rfl, trivial⟩ rfl (.inl rfl) ?_); refine QV rfl ?_; refine W_seq ?_; refine W_block ?_; refine wA rfl ?_; refine wIf hF rfl (fun _ hF => ?_) fun _ hF => ?_
   · refine wA rfl ?_; have hF := fin_0 _ (oi hF); cases hF
     exact W_ret wR
   refine wC 2 rfl ?_; obtain ⟨r109, hr109, hF⟩ := bB hF
   refine rS (T_call (spans_Valid_fun _ _ hr109) ⟨⟨rfl, rfl, trivial⟩, trivial⟩ rfl (.inl rfl) ?_); refine QV rfl ?_; refine wIf hF rfl (fun _ hF => ?_) fun _ hF => ?_
   · refine wA rfl ?_; have hF := fin_0 _ (oi hF); cases hF
     exact W_ret wR
   refine wC 1 rfl ?_; obtain ⟨r110, hr110, hF⟩ := bB hF
   refine rS (T_call (state_fields_fun _ _ hr110) ⟨⟨rfl, rfl, rfl, rfl, rfl, rfl, rfl, trivial⟩, trivial⟩ rfl (.inl rfl) ?_); refine QV rfl ?_; refine wIf hF rfl (fun _ hF => ?_) fun _ hF => ?_
   · refine wA rfl ?_; have hF := fin_0 _ (oi hF); cases hF
     exact W_ret wR
   refine W_seq ?_; refine W_join (fun _ _ h => h) hF (fun v111 => [(1, cL 7 t_api_State p1), (5, cO (15,1)), (6, cI a46), (8, cP (8,0) 0), (9, cI r108), (16, cL 7 t_api_State p1), (17, cI (List.length p1 : Int)), (18, cI a47), (39, cB v111)]) (fun v111 => [((15,1), .arr 3 1 (List.map t_i64 r1)), ((8,0), .box (m_api_State y107))]) ?_ ?_
   · rintro v111 hF
     refine wIf hF rfl (fun _ hF => ?_) fun _ hF => ?_
     · refine wA rfl ?_; have hF := fin_0 _ (oi hF); cases hF
       exact W_ret wR
     refine W_seq ?_; refine W_join (fun _ _ h => h) hF (fun v112 => [(1, cL 7 t_api_State p1), (5, cO (15,1)), (9, cI r108), (16, cL 7 t_api_State p1), (17, cI (List.length p1 : Int)), (18, cI a47), (65, cB v112)]) (fun v112 => [((15,1), .arr 3 1 (List.map t_i64 r1))]) ?_ ?_
     · rintro v112 hF
       refine wIf hF rfl (fun _ hF => ?_) fun _ hF => ?_
       · refine wA rfl ?_; have hF := fin_0 _ (oi hF); cases hF
         exact W_ret wR
       refine W_skip ?_; refine wB rfl ?_; refine wB rfl ?_; exact cont_0 _ _ _ (oi hF) sw
     intro join hF
     refine wD 4 rfl ?_; cases h114 : (!decide (r108 = a46))
     · have hF := bF' h114 hF; refine QV rfl ?_; exact join false _ _ hF sw
     have hF := bT' h114 hF; refine Q_run SV 5 rfl ?_; cases h115 : (!decide (r108 = (w64 (a46 + 1))))
     · have hF := bF' h115 hF; refine QV rfl ?_; exact join (!decide (y107.fSpan.fFrom = 0)) _ _ hF sw
     have hF := bT' h115 hF; refine QV rfl ?_; exact join true _ _ hF sw
   intro join hF
   refine W_regD (by decide) (by kernel_rfl) rfl ?_; refine Q_run SP 4 rfl ?_; cases h117 : (decide (r108 = a46))
   · have hF := bF' h117 hF; refine QP rfl ?_; exact join false _ _ hF sw
   have hF := bT' h117 hF; refine Q_run SP 6 rfl ?_; obtain ⟨y118, hy118, hF⟩ := bB' hF
   refine R_step SP rfl (T_ixT (tc := t_api_State) p1 rfl rfl hy118 ?_); refine Q_run SP 5 rfl ?_; cases h119 : (!decide (y107.fSpan.fFrom = y118.fSpan.fTo))
   · have hF := bF' h119 hF; refine Q_run SP 4 rfl ?_; obtain ⟨y120, hy120, hF⟩ := bB' hF
     refine R_step SP rfl (T_ixT (tc := t_api_State) p1 rfl rfl hy120 ?_); refine Q_run SP 1 rfl ?_; obtain ⟨r121, hr121, hF⟩ := bB' hF
     refine R_step SP rfl (T_call (state_same_fun _ _ _ hr121) ⟨⟨rfl, rfl, rfl, rfl, rfl, rfl, rfl, trivial⟩, ⟨rfl, rfl, rfl, rfl, rfl, rfl, rfl, trivial⟩, trivial⟩ rfl (.inl rfl) ?_); refine QP rfl ?_; exact join r121 _ _ hF sw
   have hF := bT' h119 hF; refine QP rfl ?_; exact join true _ _ hF sw
 refine W_exit ?_; refine thenQ_exit ?_; refine thenQ_exit ?_; refine blockQ_hit ?_; exact brk_0 _ _ _ (oi hF) sw
def flow_bad (p0 : Int) (p1 : Int) : Option Bool :=
  (((bif (decide (p0 < 0)) then some true else some (decide (p1 < p0))) : Option Bool).bind fun v1 => some v1)
theorem flow_bad_fun (p0 : Int) (p1 : Int) (r : Bool) (hF : flow_bad p0 p1 = some r) : Fun Tryz.prog 117 true [] [cI p0, cI p1] noHeap (cB r) noHeap := by
 refine Fun.of_walk0 Tryz.func117 c117 (by kernel_rfl) (rs := [.tmp 4]) (by kernel_rfl) ?_; unfold v117
 unfold flow_bad at hF
 refine wA rfl ?_; refine W_seq ?_; refine W_join (fun _ _ h => h) hF (fun v1 => [(4, cB v1)]) (fun v1 => []) ?_ ?_
 · rintro v1 hF
   cases hF
   exact W_ret wR
 intro join hF
 refine wD 3 rfl ?_; cases h2 : (decide (p0 < 0))
 · have hF := bF' h2 hF; refine QV rfl ?_; exact join (decide (p1 < p0)) _ _ hF sw
 have hF := bT' h2 hF; refine QV rfl ?_; exact join true _ _ hF sw
def flow_Check_L1 (p0 : (List api_Flow)) : Int → Option (Int ⊕ (Unit ⊕ Int)) := fun a48 =>
  (bif (decide (a48 < (List.length p0 : Int))) then ((idx p0 a48).bind fun y71 => ((flow_bad y71.fId 1000000000000000).bind fun r72 => (((bif r72 then some r72 else ((flow_bad y71.fFrom.fThread 1000000000000000).bind fun r80 => (bif r80 then some r80 else ((flow_bad y71.fFrom.fSerial 1000000000000000).bind fun r81 => (bif r81 then some r81 else ((flow_bad y71.fTo.fThread 1000000000000000).bind fun r82 => (bif r82 then some r82 else ((flow_bad y71.fTo.fSerial 1000000000000000).bind fun r83 => (bif r83 then some r83 else ((flow_bad y71.fSend 1000000000000).bind fun r84 => (bif r84 then some r84 else ((flow_bad y71.fRecv 1000000000000).bind fun r85 => some r85)))))))))))) : Option Bool).bind fun v73 => (bif v73 then some (.inr (.inr 2)) else (((bif (decide (y71.fRecv < y71.fSend)) then some (decide (y71.fRecv < y71.fSend)) else (bif (decide (0 < a48)) then ((idx p0 (w64 (a48 - 1))).bind fun y77 => some (decide (y71.fRecv < y77.fRecv))) else some false)) : Option Bool).bind fun v74 => (bif v74 then some (.inr (.inr 11)) else some (.inl (w64 (a48 + 1))))))))) else some (.inr (.inl ())))
def flow_Check (p0 : (List api_Flow)) : Option Int :=
  ((loop (flow_Check_L1 p0) 0).bind fun | .inl _ => some 0 | .inr rv => some rv)
theorem flow_Check_fun (p0 : (List api_Flow)) (r : Int) (hF : flow_Check p0 = some r) : Fun Tryz.prog 67 true [] [cL 7 t_api_Flow p0] noHeap (cI r) noHeap := by
 refine Fun.of_walk0 Tryz.func67 c67 (by kernel_rfl) (rs := [.tmp 2]) (by kernel_rfl) ?_; unfold v67
 unfold flow_Check at hF
 refine wA rfl ?_; refine W_seq ?_; refine wC 1 rfl ?_; refine rS (T_len (tc := t_api_Flow) p0 .tree ?_); refine QV rfl ?_; refine W_for (fun _ _ h => h) hF (.inl) (fun a48 => [(0, cL 7 t_api_Flow p0), (5, cL 7 t_api_Flow p0), (6, cI (List.length p0 : Int)), (7, cI a48)]) (fun a48 => []) (fun _ => []) (fun _ => []) sw ?_ ?_
 · rintro ⟨⟩ hF
   refine wA rfl ?_; cases hF
   exact W_ret wR
 rintro a48 x_0 hF cont_0 brk_0 fin_0
 unfold flow_Check_L1 at hF
 refine wA rfl ?_; refine W_seq ?_; refine wIf hF rfl (fun _ hF => ?_) fun _ hF => ?_
 · refine W_skip ?_; refine W_seq ?_; refine W_block ?_; refine wC 1 rfl ?_; obtain ⟨y71, hy71, hF⟩ := bB hF
   refine rS (T_ixT (tc := t_api_Flow) p0 rfl rfl hy71 ?_); refine QV rfl ?_; refine W_block ?_; refine W_seq ?_; refine wC 2 rfl ?_; obtain ⟨r72, hr72, hF⟩ := bB hF
   refine rS (T_call (flow_bad_fun _ _ _ hr72) ⟨rfl, rfl, trivial⟩ rfl (.inl rfl) ?_); refine QV rfl ?_; refine W_join (fun _ _ h => h) hF (fun v73 => [(0, cL 7 t_api_Flow p0), (3, cI a48), (4, cP (4,0) 0), (5, cL 7 t_api_Flow p0), (6, cI (List.length p0 : Int)), (7, cI a48), (12, cB v73)]) (fun v73 => [((4,0), .box (m_api_Flow y71))]) ?_ ?_
   · rintro v73 hF
     refine wIf hF rfl (fun _ hF => ?_) fun _ hF => ?_
     · refine wA rfl ?_; have hF := fin_0 _ (oi hF); cases hF
       exact W_ret wR
     refine W_seq ?_; refine wA rfl ?_; refine W_join (fun _ _ h => h) hF (fun v74 => [(0, cL 7 t_api_Flow p0), (5, cL 7 t_api_Flow p0), (6, cI (List.length p0 : Int)), (7, cI a48), (38, cB v74)]) (fun v74 => []) ?_ ?_
     · rintro v74 hF
       refine wIf hF rfl (fun _ hF => ?_) fun _ hF => ?_
       · refine wA rfl ?_; have hF := fin_0 _ (oi hF); cases hF
         exact W_ret wR
       refine W_skip ?_; refine wB rfl ?_; exact cont_0 _ _ _ (oi hF) sw
     intro join hF
     refine wIf' hF rfl (fun _ hF => ?_) fun _ hF => ?_
     · refine W_skip ?_; exact join (decide (y71.fRecv < y71.fSend)) _ _ hF sw
     refine W_regD (by decide) (by kernel_rfl) rfl ?_; refine Q_run SP 3 rfl ?_; cases h76 : (decide (0 < a48))
     · have hF := bF' h76 hF; refine QP rfl ?_; exact join false _ _ hF sw
     have hF := bT' h76 hF; refine Q_run SP 5 rfl ?_; obtain ⟨y77, hy77, hF⟩ := bB' hF
     refine R_step SP rfl (T_ixT (tc := t_api_Flow) p0 rfl rfl hy77 ?_); refine QP rfl ?_; exact join (decide (y71.fRecv < y77.fRecv)) _ _ hF sw
   intro join hF
   refine wIf' hF rfl (fun _ hF => ?_) fun _ hF => ?_
   · refine W_skip ?_; exact join r72 _ _ hF sw
   refine wC 3 rfl ?_; obtain ⟨r80, hr80, hF⟩ := bB' hF
   refine rS (T_call (flow_bad_fun _ _ _ hr80) ⟨rfl, rfl, trivial⟩ rfl (.inl rfl) ?_); refine QV rfl ?_; refine wIf' hF rfl (fun _ hF => ?_) fun _ hF => ?_
   · refine W_skip ?_; exact join r80 _ _ hF sw
   refine wC 3 rfl ?_; obtain ⟨r81, hr81, hF⟩ := bB' hF
   refine rS (T_call (flow_bad_fun _ _ _ hr81) ⟨rfl, rfl, trivial⟩ rfl (.inl rfl) ?_); refine QV rfl ?_; refine wIf' hF rfl (fun _ hF => ?_) fun _ hF => ?_
   · refine W_skip ?_; exact join r81 _ _ hF sw
   refine wC 3 rfl ?_; obtain ⟨r82, hr82, hF⟩ := bB' hF
   refine rS (T_call (flow_bad_fun _ _ _ hr82) ⟨rfl, rfl, trivial⟩ rfl (.inl rfl) ?_); refine QV rfl ?_; refine wIf' hF rfl (fun _ hF => ?_) fun _ hF => ?_
   · refine W_skip ?_; exact join r82 _ _ hF sw
   refine wC 3 rfl ?_; obtain ⟨r83, hr83, hF⟩ := bB' hF
   refine rS (T_call (flow_bad_fun _ _ _ hr83) ⟨rfl, rfl, trivial⟩ rfl (.inl rfl) ?_); refine QV rfl ?_; refine wIf' hF rfl (fun _ hF => ?_) fun _ hF => ?_
   · refine W_skip ?_; exact join r83 _ _ hF sw
   refine wC 2 rfl ?_; obtain ⟨r84, hr84, hF⟩ := bB' hF
   refine rS (T_call (flow_bad_fun _ _ _ hr84) ⟨rfl, rfl, trivial⟩ rfl (.inl rfl) ?_); refine QV rfl ?_; refine wIf' hF rfl (fun _ hF => ?_) fun _ hF => ?_
   · refine W_skip ?_; exact join r84 _ _ hF sw
   refine wD 2 rfl ?_; obtain ⟨r85, hr85, hF⟩ := bB' hF
   refine rS (T_call (flow_bad_fun _ _ _ hr85) ⟨rfl, rfl, trivial⟩ rfl (.inl rfl) ?_); refine QV rfl ?_; exact join r85 _ _ hF sw
 refine W_exit ?_; refine thenQ_exit ?_; refine thenQ_exit ?_; refine blockQ_hit ?_; exact brk_0 _ _ _ (oi hF) sw
def trace_tables_2 (p0 : api_Flow) : Option Int :=
  some p0.fFrom.fThread
theorem trace_tables_2_fun (p0 : api_Flow) (r : Int) (hF : trace_tables_2 p0 = some r) : Fun Tryz.prog 68 true [] [.agg (m_api_Flow p0)] noHeap (cI r) noHeap := by
 refine Fun.of_walk0 Tryz.func68 c68 (by kernel_rfl) (rs := [.tmp 2]) (by kernel_rfl) ?_; unfold v68
 unfold trace_tables_2 at hF
 refine wA rfl ?_; refine wA rfl ?_; cases hF
 exact W_ret wR
def trace_known_api_Flow_k1_L1 (p1 : (List (Int × ByteArray))) (p2 : (List api_Flow)) : Int → Option (Int ⊕ (Unit ⊕ Int)) := fun a12 =>
  (bif (decide (a12 < (List.length p2 : Int))) then ((idx p2 a12).bind fun y17 => ((trace_tables_2 y17).bind fun r18 => (bif (!(Option.isSome (mget r18 p1))) then some (.inr (.inr 5)) else some (.inl (w64 (a12 + 1)))))) else some (.inr (.inl ())))
def trace_known_api_Flow_k1 (p0 : Int) (p1 : (List (Int × ByteArray))) (p2 : (List api_Flow)) : Option Int :=
  (bif (!decide (p0 = 0)) then some p0 else ((loop (trace_known_api_Flow_k1_L1 p1 p2) 0).bind fun | .inl _ => some 0 | .inr rv => some rv))
theorem trace_known_api_Flow_k1_fun (p0 : Int) (p1 : (List (Int × ByteArray))) (p2 : (List api_Flow)) (r : Int) (hF : trace_known_api_Flow_k1 p0 p1 p2 = some r) : Fun Tryz.prog 66 false [(3640,0)] [cI p0, cM (3640,0), cL 7 t_api_Flow p2, .c (.fn 68 [])] (heapOf [((3640,0), mapOb (.int .i64) kvI vvS p1)]) (cI r) (heapOf [((3640,0), mapOb (.int .i64) kvI vvS p1)]) := by
 refine Fun.of_walkM [(3640,0)] (some [(3640,0)]) Tryz.func66 c66 (by kernel_rfl) (rs := [.tmp 8]) (by kernel_rfl) rfl rfl rfl ?_; unfold v66
 unfold trace_known_api_Flow_k1 at hF
 refine wA rfl ?_; refine W_seq ?_; refine wA rfl ?_; refine wIf hF rfl (fun _ hF => ?_) fun _ hF => ?_
 · refine wA rfl ?_; cases hF
   exact W_ret ⟨_, _, S_refl, _, rfl, rfl, ⟨rfl, fun _ => rfl⟩, (AgM.weak ⟨rfl, trivial⟩)⟩
 refine W_skip ?_; refine W_seq ?_; refine wC 1 rfl ?_; refine rS (T_len (tc := t_api_Flow) p2 .tree ?_); refine QV rfl ?_; refine W_for (fun _ _ h => h) hF (.inl) (fun a12 => [(1, cM (3640,0)), (3, .c (.fn 68 [])), (16, cL 7 t_api_Flow p2), (17, cI (List.length p2 : Int)), (18, cI a12)]) (fun a12 => [((3640,0), mapOb (.int .i64) kvI vvS p1)]) (fun _ => []) (fun _ => [((3640,0), mapOb (.int .i64) kvI vvS p1)]) sw ?_ ?_
 · rintro ⟨⟩ hF
   refine wA rfl ?_; cases hF
   exact W_ret ⟨_, _, S_refl, _, rfl, rfl, ⟨rfl, fun _ => rfl⟩, (AgM.weak ⟨rfl, trivial⟩)⟩
 rintro a12 x_0 hF cont_0 brk_0 fin_0
 unfold trace_known_api_Flow_k1_L1 at hF
 refine wA rfl ?_; refine W_seq ?_; refine wIf hF rfl (fun _ hF => ?_) fun _ hF => ?_
 · refine W_skip ?_; refine W_seq ?_; refine W_block ?_; refine wE ?_; obtain ⟨y17, hy17, hF⟩ := bB hF
   refine rS (T_ixT (tc := t_api_Flow) p2 rfl rfl hy17 ?_); refine QV rfl ?_; refine wC 3 rfl ?_; obtain ⟨r18, hr18, hF⟩ := bB hF
   refine R_stepX trivial (X_call (callW _ rfl fnOk68) (trace_tables_2_fun _ _ hr18) ⟨⟨rfl, rfl, rfl, rfl, rfl, rfl, rfl, trivial⟩, trivial⟩ rfl (.inl rfl) ?_); refine rS (T_lookOk (keyI .i64) (vv := vvS) p1 r18 ⟨#[]⟩ (.own _ rfl) rfl rfl ?_)
   refine QV rfl ?_; refine wA rfl ?_; refine wIf hF rfl (fun _ hF => ?_) fun _ hF => ?_
   · refine wA rfl ?_; have hF := fin_0 _ (oi hF); cases hF
     exact W_ret ⟨_, _, S_refl, _, rfl, rfl, ⟨rfl, fun _ => rfl⟩, (AgM.weak ⟨rfl, trivial⟩)⟩
   refine W_skip ?_; refine wB rfl ?_; exact cont_0 _ _ _ (oi hF) sw
 refine W_exit ?_; refine thenQ_exit ?_; refine thenQ_exit ?_; refine blockQ_hit ?_; exact brk_0 _ _ _ (oi hF) sw
def trace_tables_3 (p0 : api_Flow) : Option Int :=
  some p0.fTo.fThread
theorem trace_tables_3_fun (p0 : api_Flow) (r : Int) (hF : trace_tables_3 p0 = some r) : Fun Tryz.prog 69 true [] [.agg (m_api_Flow p0)] noHeap (cI r) noHeap := by
 refine Fun.of_walk0 Tryz.func69 c69 (by kernel_rfl) (rs := [.tmp 2]) (by kernel_rfl) ?_; unfold v69
 unfold trace_tables_3 at hF
 refine wA rfl ?_; refine wA rfl ?_; cases hF
 exact W_ret wR
def trace_known_api_Flow_k2_L1 (p1 : (List (Int × ByteArray))) (p2 : (List api_Flow)) : Int → Option (Int ⊕ (Unit ⊕ Int)) := fun a12 =>
  (bif (decide (a12 < (List.length p2 : Int))) then ((idx p2 a12).bind fun y17 => ((trace_tables_3 y17).bind fun r18 => (bif (!(Option.isSome (mget r18 p1))) then some (.inr (.inr 5)) else some (.inl (w64 (a12 + 1)))))) else some (.inr (.inl ())))
def trace_known_api_Flow_k2 (p0 : Int) (p1 : (List (Int × ByteArray))) (p2 : (List api_Flow)) : Option Int :=
  (bif (!decide (p0 = 0)) then some p0 else ((loop (trace_known_api_Flow_k2_L1 p1 p2) 0).bind fun | .inl _ => some 0 | .inr rv => some rv))
theorem trace_known_api_Flow_k2_fun (p0 : Int) (p1 : (List (Int × ByteArray))) (p2 : (List api_Flow)) (r : Int) (hF : trace_known_api_Flow_k2 p0 p1 p2 = some r) : Fun Tryz.prog 66 false [(3640,0)] [cI p0, cM (3640,0), cL 7 t_api_Flow p2, .c (.fn 69 [])] (heapOf [((3640,0), mapOb (.int .i64) kvI vvS p1)]) (cI r) (heapOf [((3640,0), mapOb (.int .i64) kvI vvS p1)]) := by
 refine Fun.of_walkM [(3640,0)] (some [(3640,0)]) Tryz.func66 c66 (by kernel_rfl) (rs := [.tmp 8]) (by kernel_rfl) rfl rfl rfl ?_; unfold v66
 unfold trace_known_api_Flow_k2 at hF
 refine wA rfl ?_; refine W_seq ?_; refine wA rfl ?_; refine wIf hF rfl (fun _ hF => ?_) fun _ hF => ?_
 · refine wA rfl ?_; cases hF
   exact W_ret ⟨_, _, S_refl, _, rfl, rfl, ⟨rfl, fun _ => rfl⟩, (AgM.weak ⟨rfl, trivial⟩)⟩
 refine W_skip ?_; refine W_seq ?_; refine wC 1 rfl ?_; refine rS (T_len (tc := t_api_Flow) p2 .tree ?_); refine QV rfl ?_; refine W_for (fun _ _ h => h) hF (.inl) (fun a12 => [(1, cM (3640,0)), (3, .c (.fn 69 [])), (16, cL 7 t_api_Flow p2), (17, cI (List.length p2 : Int)), (18, cI a12)]) (fun a12 => [((3640,0), mapOb (.int .i64) kvI vvS p1)]) (fun _ => []) (fun _ => [((3640,0), mapOb (.int .i64) kvI vvS p1)]) sw ?_ ?_
 · rintro ⟨⟩ hF
   refine wA rfl ?_; cases hF
   exact W_ret ⟨_, _, S_refl, _, rfl, rfl, ⟨rfl, fun _ => rfl⟩, (AgM.weak ⟨rfl, trivial⟩)⟩
 rintro a12 x_0 hF cont_0 brk_0 fin_0
 unfold trace_known_api_Flow_k2_L1 at hF
 refine wA rfl ?_; refine W_seq ?_; refine wIf hF rfl (fun _ hF => ?_) fun _ hF => ?_
 · refine W_skip ?_; refine W_seq ?_; refine W_block ?_; refine wE ?_; obtain ⟨y17, hy17, hF⟩ := bB hF
   refine rS (T_ixT (tc := t_api_Flow) p2 rfl rfl hy17 ?_); refine QV rfl ?_; refine wC 3 rfl ?_; obtain ⟨r18, hr18, hF⟩ := bB hF
   refine R_stepX trivial (X_call (callW _ rfl fnOk69) (trace_tables_3_fun _ _ hr18) ⟨⟨rfl, rfl, rfl, rfl, rfl, rfl, rfl, trivial⟩, trivial⟩ rfl (.inl rfl) ?_); refine rS (T_lookOk (keyI .i64) (vv := vvS) p1 r18 ⟨#[]⟩ (.own _ rfl) rfl rfl ?_)
   refine QV rfl ?_; refine wA rfl ?_; refine wIf hF rfl (fun _ hF => ?_) fun _ hF => ?_
   · refine wA rfl ?_; have hF := fin_0 _ (oi hF); cases hF
     exact W_ret ⟨_, _, S_refl, _, rfl, rfl, ⟨rfl, fun _ => rfl⟩, (AgM.weak ⟨rfl, trivial⟩)⟩
   refine W_skip ?_; refine wB rfl ?_; exact cont_0 _ _ _ (oi hF) sw
 refine W_exit ?_; refine thenQ_exit ?_; refine thenQ_exit ?_; refine blockQ_hit ?_; exact brk_0 _ _ _ (oi hF) sw
def sample_good (p0 : api_Sample) : Option Bool :=
  (((bif (decide (0 ≤ p0.fThread)) then (bif (decide (p0.fThread ≤ 1000000000000000)) then (bif (decide (0 ≤ p0.fAt)) then (bif (decide (p0.fAt ≤ 1000000000000)) then (bif (decide (1 ≤ p0.fWeight)) then some (decide (p0.fWeight ≤ 1000000000000)) else some false) else some false) else some false) else some false) else some false) : Option Bool).bind fun v1 => some v1)
theorem sample_good_fun (p0 : api_Sample) (r : Bool) (hF : sample_good p0 = some r) : Fun Tryz.prog 118 true [] [.agg (m_api_Sample p0)] noHeap (cB r) noHeap := by
 refine Fun.of_walk0 Tryz.func118 c118 (by kernel_rfl) (rs := [.tmp 2]) (by kernel_rfl) ?_; unfold v118
 unfold sample_good at hF
 refine wA rfl ?_; refine W_seq ?_; refine W_join (fun _ _ h => h) hF (fun v1 => [(2, cB v1)]) (fun v1 => []) ?_ ?_
 · rintro v1 hF
   cases hF
   exact W_ret wR
 intro join hF
 refine wD 4 rfl ?_; cases h2 : (decide (0 ≤ p0.fThread))
 · have hF := bF' h2 hF; refine QV rfl ?_; exact join false _ _ hF sw
 have hF := bT' h2 hF; refine Q_run SV 5 rfl ?_; cases h3 : (decide (p0.fThread ≤ 1000000000000000))
 · have hF := bF' h3 hF; refine QV rfl ?_; exact join false _ _ hF sw
 have hF := bT' h3 hF; refine Q_run SV 5 rfl ?_; cases h4 : (decide (0 ≤ p0.fAt))
 · have hF := bF' h4 hF; refine QV rfl ?_; exact join false _ _ hF sw
 have hF := bT' h4 hF; refine Q_run SV 5 rfl ?_; cases h5 : (decide (p0.fAt ≤ 1000000000000))
 · have hF := bF' h5 hF; refine QV rfl ?_; exact join false _ _ hF sw
 have hF := bT' h5 hF; refine Q_run SV 5 rfl ?_; cases h6 : (decide (1 ≤ p0.fWeight))
 · have hF := bF' h6 hF; refine QV rfl ?_; exact join false _ _ hF sw
 have hF := bT' h6 hF; refine QV rfl ?_; exact join (decide (p0.fWeight ≤ 1000000000000)) _ _ hF sw
def intern_Frames_L1 (p0 : (List ByteArray)) : Int → Option (Int ⊕ (Unit ⊕ Int)) := fun a12 =>
  (bif (decide (a12 < (List.length p0 : Int))) then ((idx p0 a12).bind fun y17 => ((intern_Name y17).bind fun r18 => (bif (!decide (r18 = 0)) then some (.inr (.inr r18)) else some (.inl (w64 (a12 + 1)))))) else some (.inr (.inl ())))
def intern_Frames (p0 : (List ByteArray)) : Option Int :=
  (bif (decide (32 < (List.length p0 : Int))) then some 7 else ((loop (intern_Frames_L1 p0) 0).bind fun | .inl _ => some 0 | .inr rv => some rv))
theorem intern_Frames_fun (p0 : (List ByteArray)) (r : Int) (hF : intern_Frames p0 = some r) : Fun Tryz.prog 119 true [] [cL 1 t_str p0] noHeap (cI r) noHeap := by
 refine Fun.of_walk0 Tryz.func119 c119 (by kernel_rfl) (rs := [.tmp 2]) (by kernel_rfl) ?_; unfold v119
 unfold intern_Frames at hF
 refine wA rfl ?_; refine W_seq ?_; refine wC 1 rfl ?_; refine rS (T_len (tc := t_str) p0 .tree ?_); refine QV rfl ?_; refine wIf hF rfl (fun _ hF => ?_) fun _ hF => ?_
 · refine wA rfl ?_; cases hF
   exact W_ret wR
 refine W_skip ?_; refine W_seq ?_; refine wC 1 rfl ?_; refine rS (T_len (tc := t_str) p0 .tree ?_); refine QV rfl ?_; refine W_for (fun _ _ h => h) hF (.inl) (fun a12 => [(9, cL 1 t_str p0), (10, cI (List.length p0 : Int)), (11, cI a12)]) (fun a12 => []) (fun _ => []) (fun _ => []) sw ?_ ?_
 · rintro ⟨⟩ hF
   refine wA rfl ?_; cases hF
   exact W_ret wR
 rintro a12 x_0 hF cont_0 brk_0 fin_0
 unfold intern_Frames_L1 at hF
 refine wA rfl ?_; refine W_seq ?_; refine wIf hF rfl (fun _ hF => ?_) fun _ hF => ?_
 · refine W_skip ?_; refine W_seq ?_; refine W_block ?_; refine wE ?_; obtain ⟨y17, hy17, hF⟩ := bB hF
   refine rS (T_ixT (tc := t_str) p0 rfl rfl hy17 ?_); refine QV rfl ?_; refine wC 1 rfl ?_; obtain ⟨r18, hr18, hF⟩ := bB hF
   refine rS (T_call (intern_Name_fun _ _ hr18) ⟨rfl, trivial⟩ rfl (.inl rfl) ?_); refine QV rfl ?_; refine wA rfl ?_; refine wIf hF rfl (fun _ hF => ?_) fun _ hF => ?_
   · refine wA rfl ?_; have hF := fin_0 _ (oi hF); cases hF
     exact W_ret wR
   refine W_skip ?_; refine wB rfl ?_; exact cont_0 _ _ _ (oi hF) sw
 refine W_exit ?_; refine thenQ_exit ?_; refine thenQ_exit ?_; refine blockQ_hit ?_; exact brk_0 _ _ _ (oi hF) sw
def sample_Check_L1 (p0 : (List api_Sample)) : Int → Option (Int ⊕ (Unit ⊕ Int)) := fun a24 =>
  (bif (decide (a24 < (List.length p0 : Int))) then ((idx p0 a24).bind fun y35 => ((sample_good y35).bind fun r36 => (bif (!r36) then some (.inr (.inr 2)) else ((intern_Frames y35.fStack).bind fun r37 => (bif (!decide (r37 = 0)) then some (.inr (.inr r37)) else (((bif (decide (0 < a24)) then ((idx p0 (w64 (a24 - 1))).bind fun y41 => some (decide (y35.fAt < y41.fAt))) else some false) : Option Bool).bind fun v38 => (bif v38 then some (.inr (.inr 11)) else some (.inl (w64 (a24 + 1)))))))))) else some (.inr (.inl ())))
def sample_Check (p0 : (List api_Sample)) : Option Int :=
  ((loop (sample_Check_L1 p0) 0).bind fun | .inl _ => some 0 | .inr rv => some rv)
theorem sample_Check_fun (p0 : (List api_Sample)) (r : Int) (hF : sample_Check p0 = some r) : Fun Tryz.prog 71 true [] [cL 4 t_api_Sample p0] noHeap (cI r) noHeap := by
 refine Fun.of_walk0 Tryz.func71 c71 (by kernel_rfl) (rs := [.tmp 2]) (by kernel_rfl) ?_; unfold v71
 unfold sample_Check at hF
 refine wA rfl ?_; refine W_seq ?_; refine wC 1 rfl ?_; refine rS (T_len (tc := t_api_Sample) p0 .tree ?_); refine QV rfl ?_; refine W_for (fun _ _ h => h) hF (.inl) (fun a24 => [(0, cL 4 t_api_Sample p0), (6, cL 4 t_api_Sample p0), (7, cI (List.length p0 : Int)), (8, cI a24)]) (fun a24 => []) (fun _ => []) (fun _ => []) sw ?_ ?_
 · rintro ⟨⟩ hF
   refine wA rfl ?_; cases hF
   exact W_ret wR
 rintro a24 x_0 hF cont_0 brk_0 fin_0
 unfold sample_Check_L1 at hF
 refine wA rfl ?_; refine W_seq ?_; refine wIf hF rfl (fun _ hF => ?_) fun _ hF => ?_
 · refine W_skip ?_; refine W_seq ?_; refine W_block ?_; refine wC 1 rfl ?_; obtain ⟨y35, hy35, hF⟩ := bB hF
   refine rS (T_ixT (tc := t_api_Sample) p0 rfl rfl hy35 ?_); refine QV rfl ?_; refine W_seq ?_; refine wC 1 rfl ?_; obtain ⟨r36, hr36, hF⟩ := bB hF
   refine rS (T_call (sample_good_fun _ _ hr36) ⟨⟨rfl, rfl, rfl, rfl, trivial⟩, trivial⟩ rfl (.inl rfl) ?_); refine QV rfl ?_; refine wIf hF rfl (fun _ hF => ?_) fun _ hF => ?_
   · refine wA rfl ?_; have hF := fin_0 _ (oi hF); cases hF
     exact W_ret wR
   refine W_skip ?_; refine W_seq ?_; refine wC 2 rfl ?_; obtain ⟨r37, hr37, hF⟩ := bB hF
   refine rS (T_call (intern_Frames_fun _ _ hr37) ⟨rfl, trivial⟩ rfl (.inl rfl) ?_); refine QV rfl ?_; refine wA rfl ?_; refine wIf hF rfl (fun _ hF => ?_) fun _ hF => ?_
   · refine wA rfl ?_; have hF := fin_0 _ (oi hF); cases hF
     exact W_ret wR
   refine W_skip ?_; refine W_seq ?_; refine W_join (fun _ _ h => h) hF (fun v38 => [(0, cL 4 t_api_Sample p0), (6, cL 4 t_api_Sample p0), (7, cI (List.length p0 : Int)), (8, cI a24), (34, cB v38)]) (fun v38 => []) ?_ ?_
   · rintro v38 hF
     refine wIf hF rfl (fun _ hF => ?_) fun _ hF => ?_
     · refine wA rfl ?_; have hF := fin_0 _ (oi hF); cases hF
       exact W_ret wR
     refine W_skip ?_; refine wB rfl ?_; exact cont_0 _ _ _ (oi hF) sw
   intro join hF
   refine W_regD (by decide) (by kernel_rfl) rfl ?_; refine Q_run SP 3 rfl ?_; cases h40 : (decide (0 < a24))
   · have hF := bF' h40 hF; refine QP rfl ?_; exact join false _ _ hF sw
   have hF := bT' h40 hF; refine Q_run SP 5 rfl ?_; obtain ⟨y41, hy41, hF⟩ := bB' hF
   refine R_step SP rfl (T_ixT (tc := t_api_Sample) p0 rfl rfl hy41 ?_); refine QP rfl ?_; exact join (decide (y35.fAt < y41.fAt)) _ _ hF sw
 refine W_exit ?_; refine thenQ_exit ?_; refine thenQ_exit ?_; refine blockQ_hit ?_; exact brk_0 _ _ _ (oi hF) sw
def trace_tables_4 (p0 : api_Sample) : Option Int :=
  some p0.fThread
theorem trace_tables_4_fun (p0 : api_Sample) (r : Int) (hF : trace_tables_4 p0 = some r) : Fun Tryz.prog 72 true [] [.agg (m_api_Sample p0)] noHeap (cI r) noHeap := by
 refine Fun.of_walk0 Tryz.func72 c72 (by kernel_rfl) (rs := [.tmp 2]) (by kernel_rfl) ?_; unfold v72
 unfold trace_tables_4 at hF
 refine wA rfl ?_; refine wA rfl ?_; cases hF
 exact W_ret wR
def trace_known_api_Sample_k1_L1 (p1 : (List (Int × ByteArray))) (p2 : (List api_Sample)) : Int → Option (Int ⊕ (Unit ⊕ Int)) := fun a12 =>
  (bif (decide (a12 < (List.length p2 : Int))) then ((idx p2 a12).bind fun y17 => ((trace_tables_4 y17).bind fun r18 => (bif (!(Option.isSome (mget r18 p1))) then some (.inr (.inr 5)) else some (.inl (w64 (a12 + 1)))))) else some (.inr (.inl ())))
def trace_known_api_Sample_k1 (p0 : Int) (p1 : (List (Int × ByteArray))) (p2 : (List api_Sample)) : Option Int :=
  (bif (!decide (p0 = 0)) then some p0 else ((loop (trace_known_api_Sample_k1_L1 p1 p2) 0).bind fun | .inl _ => some 0 | .inr rv => some rv))
theorem trace_known_api_Sample_k1_fun (p0 : Int) (p1 : (List (Int × ByteArray))) (p2 : (List api_Sample)) (r : Int) (hF : trace_known_api_Sample_k1 p0 p1 p2 = some r) : Fun Tryz.prog 70 false [(3800,0)] [cI p0, cM (3800,0), cL 4 t_api_Sample p2, .c (.fn 72 [])] (heapOf [((3800,0), mapOb (.int .i64) kvI vvS p1)]) (cI r) (heapOf [((3800,0), mapOb (.int .i64) kvI vvS p1)]) := by
 refine Fun.of_walkM [(3800,0)] (some [(3800,0)]) Tryz.func70 c70 (by kernel_rfl) (rs := [.tmp 8]) (by kernel_rfl) rfl rfl rfl ?_; unfold v70
 unfold trace_known_api_Sample_k1 at hF
 refine wA rfl ?_; refine W_seq ?_; refine wA rfl ?_; refine wIf hF rfl (fun _ hF => ?_) fun _ hF => ?_
 · refine wA rfl ?_; cases hF
   exact W_ret ⟨_, _, S_refl, _, rfl, rfl, ⟨rfl, fun _ => rfl⟩, (AgM.weak ⟨rfl, trivial⟩)⟩
 refine W_skip ?_; refine W_seq ?_; refine wC 1 rfl ?_; refine rS (T_len (tc := t_api_Sample) p2 .tree ?_); refine QV rfl ?_; refine W_for (fun _ _ h => h) hF (.inl) (fun a12 => [(1, cM (3800,0)), (3, .c (.fn 72 [])), (16, cL 4 t_api_Sample p2), (17, cI (List.length p2 : Int)), (18, cI a12)]) (fun a12 => [((3800,0), mapOb (.int .i64) kvI vvS p1)]) (fun _ => []) (fun _ => [((3800,0), mapOb (.int .i64) kvI vvS p1)]) sw ?_ ?_
 · rintro ⟨⟩ hF
   refine wA rfl ?_; cases hF
   exact W_ret ⟨_, _, S_refl, _, rfl, rfl, ⟨rfl, fun _ => rfl⟩, (AgM.weak ⟨rfl, trivial⟩)⟩
 rintro a12 x_0 hF cont_0 brk_0 fin_0
 unfold trace_known_api_Sample_k1_L1 at hF
 refine wA rfl ?_; refine W_seq ?_; refine wIf hF rfl (fun _ hF => ?_) fun _ hF => ?_
 · refine W_skip ?_; refine W_seq ?_; refine W_block ?_; refine wE ?_; obtain ⟨y17, hy17, hF⟩ := bB hF
   refine rS (T_ixT (tc := t_api_Sample) p2 rfl rfl hy17 ?_); refine QV rfl ?_; refine wC 3 rfl ?_; obtain ⟨r18, hr18, hF⟩ := bB hF
   refine R_stepX trivial (X_call (callW _ rfl fnOk72) (trace_tables_4_fun _ _ hr18) ⟨⟨rfl, rfl, rfl, rfl, trivial⟩, trivial⟩ rfl (.inl rfl) ?_); refine rS (T_lookOk (keyI .i64) (vv := vvS) p1 r18 ⟨#[]⟩ (.own _ rfl) rfl rfl ?_)
   refine QV rfl ?_; refine wA rfl ?_; refine wIf hF rfl (fun _ hF => ?_) fun _ hF => ?_
   · refine wA rfl ?_; have hF := fin_0 _ (oi hF); cases hF
     exact W_ret ⟨_, _, S_refl, _, rfl, rfl, ⟨rfl, fun _ => rfl⟩, (AgM.weak ⟨rfl, trivial⟩)⟩
   refine W_skip ?_; refine wB rfl ?_; exact cont_0 _ _ _ (oi hF) sw
 refine W_exit ?_; refine thenQ_exit ?_; refine thenQ_exit ?_; refine blockQ_hit ?_; exact brk_0 _ _ _ (oi hF) sw
def num_In (p0 : Int) : Option Bool :=
  (((bif (decide ((-1000000000000000) ≤ p0)) then some (decide (p0 ≤ 1000000000000000)) else some false) : Option Bool).bind fun v1 => some v1)
theorem num_In_fun (p0 : Int) (r : Bool) (hF : num_In p0 = some r) : Fun Tryz.prog 120 true [] [cI p0] noHeap (cB r) noHeap := by
 refine Fun.of_walk0 Tryz.func120 c120 (by kernel_rfl) (rs := [.tmp 2]) (by kernel_rfl) ?_; unfold v120
 unfold num_In at hF
 refine wA rfl ?_; refine W_seq ?_; refine W_join (fun _ _ h => h) hF (fun v1 => [(2, cB v1)]) (fun v1 => []) ?_ ?_
 · rintro v1 hF
   cases hF
   exact W_ret wR
 intro join hF
 refine wD 3 rfl ?_; cases h2 : (decide ((-1000000000000000) ≤ p0))
 · have hF := bF' h2 hF; refine QV rfl ?_; exact join false _ _ hF sw
 have hF := bT' h2 hF; refine QV rfl ?_; exact join (decide (p0 ≤ 1000000000000000)) _ _ hF sw
def cmp_isNaN_string (p0 : ByteArray) : Option Bool :=
  some (!decide (p0 = p0))
theorem cmp_isNaN_string_fun (p0 : ByteArray) (r : Bool) (hF : cmp_isNaN_string p0 = some r) : Fun Tryz.prog 163 true [] [.c (jS p0)] noHeap (cB r) noHeap := by
 refine Fun.of_walk0 Tryz.func163 c163 (by kernel_rfl) (rs := [.tmp 2]) (by kernel_rfl) ?_; unfold v163
 unfold cmp_isNaN_string at hF
 refine wA rfl ?_; refine wA rfl ?_; cases hF
 exact W_ret wR
def cmp_Compare_string (p0 : ByteArray) (p1 : ByteArray) : Option Int :=
  ((cmp_isNaN_string p0).bind fun r1 => ((cmp_isNaN_string p1).bind fun r2 => (bif r1 then (bif r2 then some 0 else some (-1)) else (bif r2 then some 1 else (bif (sLt p0 p1) then some (-1) else (bif (!(sLt p0 p1 || decide (p0 = p1))) then some 1 else some 0))))))
theorem cmp_Compare_string_fun (p0 : ByteArray) (p1 : ByteArray) (r : Int) (hF : cmp_Compare_string p0 p1 = some r) : Fun Tryz.prog 148 true [] [.c (jS p0), .c (jS p1)] noHeap (cI r) noHeap := by
 refine Fun.of_walk0 Tryz.func148 c148 (by kernel_rfl) (rs := [.tmp 4]) (by kernel_rfl) ?_; unfold v148
 unfold cmp_Compare_string at hF
 refine wA rfl ?_; refine wC 1 rfl ?_; obtain ⟨r1, hr1, hF⟩ := bB hF
 refine rS (T_call (cmp_isNaN_string_fun _ _ hr1) ⟨rfl, trivial⟩ rfl (.inl rfl) ?_); refine QV rfl ?_; refine wC 1 rfl ?_; obtain ⟨r2, hr2, hF⟩ := bB hF
 refine rS (T_call (cmp_isNaN_string_fun _ _ hr2) ⟨rfl, trivial⟩ rfl (.inl rfl) ?_); refine QV rfl ?_; refine W_seq ?_; refine wA rfl ?_; refine wIf hF rfl (fun _ hF => ?_) fun _ hF => ?_
 · refine W_seq ?_; refine wA rfl ?_; refine wIf hF rfl (fun _ hF => ?_) fun _ hF => ?_
   · refine wA rfl ?_; cases hF
     exact W_ret wR
   refine W_skip ?_; refine wA rfl ?_; cases hF
   exact W_ret wR
 refine W_skip ?_; refine W_seq ?_; refine wA rfl ?_; refine wIf hF rfl (fun _ hF => ?_) fun _ hF => ?_
 · refine wA rfl ?_; cases hF
   exact W_ret wR
 refine W_skip ?_; refine W_seq ?_; refine wA rfl ?_; refine wIf hF rfl (fun _ hF => ?_) fun _ hF => ?_
 · refine wA rfl ?_; cases hF
   exact W_ret wR
 refine W_skip ?_; refine W_seq ?_; refine wA rfl ?_; refine wIf hF rfl (fun _ hF => ?_) fun _ hF => ?_
 · refine wA rfl ?_; cases hF
   exact W_ret wR
 refine W_skip ?_; refine wA rfl ?_; cases hF
 exact W_ret wR
def counter_order (p0 : api_Step) (p1 : api_Step) : Option Int :=
  ((cmp_Compare_string p0.fName p1.fName).bind fun r1 => ((cmp_Compare_int p0.fAt p1.fAt).bind fun r2 => ((cmp_Or_int [r1, r2]).bind fun r3 => some r3)))
theorem counter_order_fun (p0 : api_Step) (p1 : api_Step) (r : Int) (hF : counter_order p0 p1 = some r) : Fun Tryz.prog 121 true [] [.agg (m_api_Step p0), .agg (m_api_Step p1)] noHeap (cI r) noHeap := by
 refine Fun.of_walk0 Tryz.func121 c121 (by kernel_rfl) (rs := [.tmp 4]) (by kernel_rfl) ?_; unfold v121
 unfold counter_order at hF
 refine wA rfl ?_; refine W_seq ?_; refine W_regD (by decide) (by kernel_rfl) rfl ?_; refine Q_run SP 4 rfl ?_; obtain ⟨r1, hr1, hF⟩ := bB hF
 refine R_step SP trivial (T_call (cmp_Compare_string_fun _ _ _ hr1) ⟨rfl, rfl, trivial⟩ rfl (.inl rfl) ?_); refine Q_run SP 4 rfl ?_; obtain ⟨r2, hr2, hF⟩ := bB hF
 refine R_step SP trivial (T_call (cmp_Compare_int_fun _ _ _ hr2) ⟨rfl, rfl, trivial⟩ rfl (.inl rfl) ?_); refine R_step SP trivial (T_bsl (tc := t_i64) [r1, r2] rfl ⟨rfl, rfl, trivial⟩ rfl (fun _ => rfl) rfl ?_)
 obtain ⟨r3, hr3, hF⟩ := bB hF
 refine R_step SP trivial (T_call (cmp_Or_int_fun _ _ hr3) ⟨⟨_, rfl⟩, trivial⟩ rfl (.inl rfl) ?_); refine QP rfl ?_; cases hF
 exact W_ret wR
def counter_Check_L1 (p0 : (List api_Step)) : Int → Option (Int ⊕ (Unit ⊕ Int)) := fun a40 =>
  (bif (decide (a40 < (List.length p0 : Int))) then ((idx p0 a40).bind fun y59 => ((intern_Name y59.fName).bind fun r60 => (bif (!decide (r60 = 0)) then some (.inr (.inr r60)) else (((bif (decide (y59.fAt < 0)) then some true else (bif (decide (1000000000000 < y59.fAt)) then some true else ((num_In y59.fValue).bind fun r74 => some (!r74)))) : Option Bool).bind fun v61 => (bif v61 then some (.inr (.inr 2)) else (((bif (decide (0 < a40)) then ((idx p0 (w64 (a40 - 1))).bind fun y65 => ((counter_order y65 y59).bind fun r66 => (bif (decide (0 ≤ r66)) then some true else ((idx p0 (w64 (a40 - 1))).bind fun y68 => (bif (decide (y68.fName = y59.fName)) then ((idx p0 (w64 (a40 - 1))).bind fun y70 => some (decide (y70.fValue = y59.fValue))) else some false))))) else some false) : Option Bool).bind fun v62 => (bif v62 then some (.inr (.inr 11)) else some (.inl (w64 (a40 + 1)))))))))) else some (.inr (.inl ())))
def counter_Check (p0 : (List api_Step)) : Option Int :=
  ((loop (counter_Check_L1 p0) 0).bind fun | .inl _ => some 0 | .inr rv => some rv)
theorem counter_Check_fun (p0 : (List api_Step)) (r : Int) (hF : counter_Check p0 = some r) : Fun Tryz.prog 73 true [] [cL 3 t_api_Step p0] noHeap (cI r) noHeap := by
 refine Fun.of_walk0 Tryz.func73 c73 (by kernel_rfl) (rs := [.tmp 2]) (by kernel_rfl) ?_; unfold v73
 unfold counter_Check at hF
 refine wA rfl ?_; refine W_seq ?_; refine wC 1 rfl ?_; refine rS (T_len (tc := t_api_Step) p0 .tree ?_); refine QV rfl ?_; refine W_for (fun _ _ h => h) hF (.inl) (fun a40 => [(0, cL 3 t_api_Step p0), (6, cL 3 t_api_Step p0), (7, cI (List.length p0 : Int)), (8, cI a40)]) (fun a40 => []) (fun _ => []) (fun _ => []) sw ?_ ?_
 · rintro ⟨⟩ hF
   refine wA rfl ?_; cases hF
   exact W_ret wR
 rintro a40 x_0 hF cont_0 brk_0 fin_0
 unfold counter_Check_L1 at hF
 refine wA rfl ?_; refine W_seq ?_; refine wIf hF rfl (fun _ hF => ?_) fun _ hF => ?_
 · refine W_skip ?_; refine W_seq ?_; refine W_block ?_; refine wC 1 rfl ?_; obtain ⟨y59, hy59, hF⟩ := bB hF
   refine rS (T_ixT (tc := t_api_Step) p0 rfl rfl hy59 ?_); refine QV rfl ?_; refine W_seq ?_; refine wC 2 rfl ?_; obtain ⟨r60, hr60, hF⟩ := bB hF
   refine rS (T_call (intern_Name_fun _ _ hr60) ⟨rfl, trivial⟩ rfl (.inl rfl) ?_); refine QV rfl ?_; refine wA rfl ?_; refine wIf hF rfl (fun _ hF => ?_) fun _ hF => ?_
   · refine wA rfl ?_; have hF := fin_0 _ (oi hF); cases hF
     exact W_ret wR
   refine W_skip ?_; refine W_seq ?_; refine W_seq ?_; refine W_join (fun _ _ h => h) hF (fun v61 => [(0, cL 3 t_api_Step p0), (3, cI a40), (4, cP (4,0) 0), (6, cL 3 t_api_Step p0), (7, cI (List.length p0 : Int)), (8, cI a40), (32, cB v61)]) (fun v61 => [((4,0), .box (m_api_Step y59))]) ?_ ?_
   · rintro v61 hF
     refine wIf hF rfl (fun _ hF => ?_) fun _ hF => ?_
     · refine wA rfl ?_; have hF := fin_0 _ (oi hF); cases hF
       exact W_ret wR
     refine W_skip ?_; refine W_seq ?_; refine W_join (fun _ _ h => h) hF (fun v62 => [(0, cL 3 t_api_Step p0), (6, cL 3 t_api_Step p0), (7, cI (List.length p0 : Int)), (8, cI a40), (66, cB v62)]) (fun v62 => []) ?_ ?_
     · rintro v62 hF
       refine wIf hF rfl (fun _ hF => ?_) fun _ hF => ?_
       · refine wA rfl ?_; have hF := fin_0 _ (oi hF); cases hF
         exact W_ret wR
       refine W_skip ?_; refine wB rfl ?_; exact cont_0 _ _ _ (oi hF) sw
     intro join hF
     refine W_regD (by decide) (by kernel_rfl) rfl ?_; refine Q_run SP 3 rfl ?_; cases h64 : (decide (0 < a40))
     · have hF := bF' h64 hF; refine QP rfl ?_; exact join false _ _ hF sw
     have hF := bT' h64 hF; refine Q_run SP 3 rfl ?_; obtain ⟨y65, hy65, hF⟩ := bB' hF
     refine R_step SP rfl (T_ixT (tc := t_api_Step) p0 rfl rfl hy65 ?_); refine Q_run SP 2 rfl ?_; obtain ⟨r66, hr66, hF⟩ := bB' hF
     refine R_step SP rfl (T_call (counter_order_fun _ _ _ hr66) ⟨⟨rfl, rfl, rfl, trivial⟩, ⟨rfl, rfl, rfl, trivial⟩, trivial⟩ rfl (.inl rfl) ?_); refine Q_run SP 2 rfl ?_; cases h67 : (decide (0 ≤ r66))
     · have hF := bF' h67 hF; refine Q_run SP 3 rfl ?_; obtain ⟨y68, hy68, hF⟩ := bB' hF
       refine R_step SP rfl (T_ixT (tc := t_api_Step) p0 rfl rfl hy68 ?_); refine Q_run SP 6 rfl ?_; cases h69 : (decide (y68.fName = y59.fName))
       · have hF := bF' h69 hF; refine QP rfl ?_; exact join false _ _ hF sw
       have hF := bT' h69 hF; refine Q_run SP 3 rfl ?_; obtain ⟨y70, hy70, hF⟩ := bB' hF
       refine R_step SP rfl (T_ixT (tc := t_api_Step) p0 rfl rfl hy70 ?_); refine QP rfl ?_; exact join (decide (y70.fValue = y59.fValue)) _ _ hF sw
     have hF := bT' h67 hF; refine QP rfl ?_; exact join true _ _ hF sw
   intro join hF
   refine wD 4 rfl ?_; cases h72 : (decide (y59.fAt < 0))
   · have hF := bF' h72 hF; refine Q_run SV 5 rfl ?_; cases h73 : (decide (1000000000000 < y59.fAt))
     · have hF := bF' h73 hF; refine Q_run SV 2 rfl ?_; obtain ⟨r74, hr74, hF⟩ := bB' hF
       refine R_step SV rfl (T_call (num_In_fun _ _ hr74) ⟨rfl, trivial⟩ rfl (.inl rfl) ?_); refine QV rfl ?_; exact join (!r74) _ _ hF sw
     have hF := bT' h73 hF; refine QV rfl ?_; exact join true _ _ hF sw
   have hF := bT' h72 hF; refine QV rfl ?_; exact join true _ _ hF sw
 refine W_exit ?_; refine thenQ_exit ?_; refine thenQ_exit ?_; refine blockQ_hit ?_; exact brk_0 _ _ _ (oi hF) sw
def memory_Check_L1 (y143 : api_Block) (y147 : (List api_Block)) : Int → Option (Int ⊕ (Unit ⊕ (Int ⊕ (Unit ⊕ Int)))) := fun a163 =>
  (bif (decide (a163 < (List.length y147 : Int))) then ((idx y147 a163).bind fun y170 => (((bif (decide (y170.fId = y143.fId)) then (bif (decide (y170.fSpan.fFrom < y143.fSpan.fTo)) then some (decide (y143.fSpan.fFrom < y170.fSpan.fTo)) else some false) else some false) : Option Bool).bind fun v171 => (bif v171 then some (.inr (.inr (.inr (.inr 4)))) else some (.inl (w64 (a163 + 1)))))) else some (.inr (.inl ())))
def memory_Check_L2 (p0 : (List api_Block)) : Int → Option (Int ⊕ (Unit ⊕ Int)) := fun a96 =>
  (bif (decide (a96 < (List.length p0 : Int))) then ((idx p0 a96).bind fun y143 => (((bif (decide (y143.fId < 0)) then some true else (bif (decide (1000000000000000 < y143.fId)) then some true else (bif (decide (y143.fThread < 0)) then some true else (bif (decide (1000000000000000 < y143.fThread)) then some true else (bif (decide (y143.fSize < 1)) then some true else (bif (decide (1000000000000 < y143.fSize)) then some true else ((spans_Valid y143.fSpan).bind fun r187 => some (!r187)))))))) : Option Bool).bind fun v144 => (bif v144 then some (.inr (.inr 2)) else ((intern_Frames y143.fStack).bind fun r145 => (bif (!decide (r145 = 0)) then some (.inr (.inr r145)) else (((bif (decide (0 < a96)) then ((idx p0 (w64 (a96 - 1))).bind fun y178 => some (decide (y143.fSpan.fFrom < y178.fSpan.fFrom))) else some false) : Option Bool).bind fun v146 => (bif v146 then some (.inr (.inr 11)) else ((slcPart p0 0 a96).bind fun y147 => ((loop (memory_Check_L1 y143 y147) 0).bind fun | .inl _ => some (.inl (w64 (a96 + 1))) | .inr rv => some rv))))))))) else some (.inr (.inl ())))
def memory_Check (p0 : (List api_Block)) : Option Int :=
  ((loop (memory_Check_L2 p0) 0).bind fun | .inl _ => some 0 | .inr rv => some rv)
theorem memory_Check_fun (p0 : (List api_Block)) (r : Int) (hF : memory_Check p0 = some r) : Fun Tryz.prog 75 true [] [cL 7 t_api_Block p0] noHeap (cI r) noHeap := by
 refine Fun.of_walk0 Tryz.func75 c75 (by kernel_rfl) (rs := [.tmp 2]) (by kernel_rfl) ?_; unfold v75
 unfold memory_Check at hF
 refine wA rfl ?_; refine W_seq ?_; refine wC 1 rfl ?_; refine rS (T_len (tc := t_api_Block) p0 .tree ?_); refine QV rfl ?_; refine W_for (fun _ _ h => h) hF (.inl) (fun a96 => [(0, cL 7 t_api_Block p0), (8, cL 7 t_api_Block p0), (9, cI (List.length p0 : Int)), (10, cI a96)]) (fun a96 => []) (fun _ => []) (fun _ => []) sw ?_ ?_
 · rintro ⟨⟩ hF
   refine wA rfl ?_; cases hF
   exact W_ret wR
 rintro a96 x_0 hF cont_0 brk_0 fin_0
 unfold memory_Check_L2 at hF
 refine wA rfl ?_; refine W_seq ?_; refine wIf hF rfl (fun _ hF => ?_) fun _ hF => ?_
 · refine W_skip ?_; refine W_seq ?_; refine W_block ?_; refine wC 1 rfl ?_; obtain ⟨y143, hy143, hF⟩ := bB hF
   refine rS (T_ixT (tc := t_api_Block) p0 rfl rfl hy143 ?_); refine QV rfl ?_; refine W_seq ?_; refine W_seq ?_; refine W_join (fun _ _ h => h) hF (fun v144 => [(0, cL 7 t_api_Block p0), (3, cI a96), (4, cP (4,0) 0), (8, cL 7 t_api_Block p0), (9, cI (List.length p0 : Int)), (10, cI a96), (48, cB v144)]) (fun v144 => [((4,0), .box (m_api_Block y143))]) ?_ ?_
   · rintro v144 hF
     refine wIf hF rfl (fun _ hF => ?_) fun _ hF => ?_
     · refine wA rfl ?_; have hF := fin_0 _ (oi hF); cases hF
       exact W_ret wR
     refine W_skip ?_; refine W_seq ?_; refine wC 2 rfl ?_; obtain ⟨r145, hr145, hF⟩ := bB hF
     refine rS (T_call (intern_Frames_fun _ _ hr145) ⟨rfl, trivial⟩ rfl (.inl rfl) ?_); refine QV rfl ?_; refine wA rfl ?_; refine wIf hF rfl (fun _ hF => ?_) fun _ hF => ?_
     · refine wA rfl ?_; have hF := fin_0 _ (oi hF); cases hF
       exact W_ret wR
     refine W_skip ?_; refine W_seq ?_; refine W_seq ?_; refine W_join (fun _ _ h => h) hF (fun v146 => [(0, cL 7 t_api_Block p0), (3, cI a96), (4, cP (4,0) 0), (8, cL 7 t_api_Block p0), (9, cI (List.length p0 : Int)), (10, cI a96), (69, cB v146)]) (fun v146 => [((4,0), .box (m_api_Block y143))]) ?_ ?_
     · rintro v146 hF
       refine wIf hF rfl (fun _ hF => ?_) fun _ hF => ?_
       · refine wA rfl ?_; have hF := fin_0 _ (oi hF); cases hF
         exact W_ret wR
       refine W_skip ?_; refine wC 2 rfl ?_; obtain ⟨y147, hy147, hF⟩ := bB hF
       refine rS (T_sub (tc := t_api_Block) p0 rfl rfl rfl hy147 ?_); refine rS (T_len (tc := t_api_Block) y147 .tree ?_); refine QV rfl ?_; refine W_for (fun _ _ h => h) hF (.inl) (fun a163 => [(0, cL 7 t_api_Block p0), (4, cP (4,0) 0), (8, cL 7 t_api_Block p0), (9, cI (List.length p0 : Int)), (10, cI a96), (72, cL 7 t_api_Block y147), (73, cI (List.length y147 : Int)), (74, cI a163)]) (fun a163 => [((4,0), .box (m_api_Block y143))]) (fun _ => [(0, cL 7 t_api_Block p0), (8, cL 7 t_api_Block p0), (9, cI (List.length p0 : Int)), (10, cI a96)]) (fun _ => []) sw ?_ ?_
       · rintro ⟨⟩ hF
         refine wB rfl ?_; exact cont_0 _ _ _ (oi hF) sw
       rintro a163 x_1 hF cont_1 brk_1 fin_1
       unfold memory_Check_L1 at hF
       refine wA rfl ?_; refine W_seq ?_; refine wIf hF rfl (fun _ hF => ?_) fun _ hF => ?_
       · refine W_skip ?_; refine W_seq ?_; refine W_block ?_; refine wE ?_; obtain ⟨y170, hy170, hF⟩ := bB hF
         refine rS (T_ixT (tc := t_api_Block) y147 rfl rfl hy170 ?_); refine QV rfl ?_; refine W_seq ?_; refine W_join (fun _ _ h => h) hF (fun v171 => [(0, cL 7 t_api_Block p0), (4, cP (4,0) 0), (8, cL 7 t_api_Block p0), (9, cI (List.length p0 : Int)), (10, cI a96), (72, cL 7 t_api_Block y147), (73, cI (List.length y147 : Int)), (74, cI a163), (100, cB v171)]) (fun v171 => [((4,0), .box (m_api_Block y143))]) ?_ ?_
         · rintro v171 hF
           refine wIf hF rfl (fun _ hF => ?_) fun _ hF => ?_
           · refine wA rfl ?_; have hF := fin_1 _ (oi hF); have hF := fin_0 _ (oi hF); cases hF
             exact W_ret wR
           refine W_skip ?_; refine wB rfl ?_; exact cont_1 _ _ _ (oi hF) sw
         intro join hF
         refine wD 6 rfl ?_; cases h173 : (decide (y170.fId = y143.fId))
         · have hF := bF' h173 hF; refine QV rfl ?_; exact join false _ _ hF sw
         have hF := bT' h173 hF; refine Q_run SV 9 rfl ?_; cases h174 : (decide (y170.fSpan.fFrom < y143.fSpan.fTo))
         · have hF := bF' h174 hF; refine QV rfl ?_; exact join false _ _ hF sw
         have hF := bT' h174 hF; refine QV rfl ?_; exact join (decide (y143.fSpan.fFrom < y170.fSpan.fTo)) _ _ hF sw
       refine W_exit ?_; refine thenQ_exit ?_; refine thenQ_exit ?_; refine blockQ_hit ?_; exact brk_1 _ _ _ (oi hF) sw
     intro join hF
     refine W_regD (by decide) (by kernel_rfl) rfl ?_; refine Q_run SP 3 rfl ?_; cases h177 : (decide (0 < a96))
     · have hF := bF' h177 hF; refine QP rfl ?_; exact join false _ _ hF sw
     have hF := bT' h177 hF; refine Q_run SP 6 rfl ?_; obtain ⟨y178, hy178, hF⟩ := bB' hF
     refine R_step SP rfl (T_ixT (tc := t_api_Block) p0 rfl rfl hy178 ?_); refine QP rfl ?_; exact join (decide (y143.fSpan.fFrom < y178.fSpan.fFrom)) _ _ hF sw
   intro join hF
   refine wD 4 rfl ?_; cases h181 : (decide (y143.fId < 0))
   · have hF := bF' h181 hF; refine Q_run SV 5 rfl ?_; cases h182 : (decide (1000000000000000 < y143.fId))
     · have hF := bF' h182 hF; refine Q_run SV 5 rfl ?_; cases h183 : (decide (y143.fThread < 0))
       · have hF := bF' h183 hF; refine Q_run SV 5 rfl ?_; cases h184 : (decide (1000000000000000 < y143.fThread))
         · have hF := bF' h184 hF; refine Q_run SV 5 rfl ?_; cases h185 : (decide (y143.fSize < 1))
           · have hF := bF' h185 hF; refine Q_run SV 5 rfl ?_; cases h186 : (decide (1000000000000 < y143.fSize))
             · have hF := bF' h186 hF; refine Q_run SV 2 rfl ?_; obtain ⟨r187, hr187, hF⟩ := bB' hF
               refine R_step SV rfl (T_call (spans_Valid_fun _ _ hr187) ⟨⟨rfl, rfl, trivial⟩, trivial⟩ rfl (.inl rfl) ?_); refine QV rfl ?_; exact join (!r187) _ _ hF sw
             have hF := bT' h186 hF; refine QV rfl ?_; exact join true _ _ hF sw
           have hF := bT' h185 hF; refine QV rfl ?_; exact join true _ _ hF sw
         have hF := bT' h184 hF; refine QV rfl ?_; exact join true _ _ hF sw
       have hF := bT' h183 hF; refine QV rfl ?_; exact join true _ _ hF sw
     have hF := bT' h182 hF; refine QV rfl ?_; exact join true _ _ hF sw
   have hF := bT' h181 hF; refine QV rfl ?_; exact join true _ _ hF sw
 refine W_exit ?_; refine thenQ_exit ?_; refine thenQ_exit ?_; refine blockQ_hit ?_; exact brk_0 _ _ _ (oi hF) sw
def trace_tables_5 (p0 : api_Block) : Option Int :=
  some p0.fThread
theorem trace_tables_5_fun (p0 : api_Block) (r : Int) (hF : trace_tables_5 p0 = some r) : Fun Tryz.prog 76 true [] [.agg (m_api_Block p0)] noHeap (cI r) noHeap := by
 refine Fun.of_walk0 Tryz.func76 c76 (by kernel_rfl) (rs := [.tmp 2]) (by kernel_rfl) ?_; unfold v76
 unfold trace_tables_5 at hF
 refine wA rfl ?_; refine wA rfl ?_; cases hF
 exact W_ret wR
def trace_known_api_Block_k1_L1 (p1 : (List (Int × ByteArray))) (p2 : (List api_Block)) : Int → Option (Int ⊕ (Unit ⊕ Int)) := fun a12 =>
  (bif (decide (a12 < (List.length p2 : Int))) then ((idx p2 a12).bind fun y17 => ((trace_tables_5 y17).bind fun r18 => (bif (!(Option.isSome (mget r18 p1))) then some (.inr (.inr 5)) else some (.inl (w64 (a12 + 1)))))) else some (.inr (.inl ())))
def trace_known_api_Block_k1 (p0 : Int) (p1 : (List (Int × ByteArray))) (p2 : (List api_Block)) : Option Int :=
  (bif (!decide (p0 = 0)) then some p0 else ((loop (trace_known_api_Block_k1_L1 p1 p2) 0).bind fun | .inl _ => some 0 | .inr rv => some rv))
theorem trace_known_api_Block_k1_fun (p0 : Int) (p1 : (List (Int × ByteArray))) (p2 : (List api_Block)) (r : Int) (hF : trace_known_api_Block_k1 p0 p1 p2 = some r) : Fun Tryz.prog 74 false [(3960,0)] [cI p0, cM (3960,0), cL 7 t_api_Block p2, .c (.fn 76 [])] (heapOf [((3960,0), mapOb (.int .i64) kvI vvS p1)]) (cI r) (heapOf [((3960,0), mapOb (.int .i64) kvI vvS p1)]) := by
 refine Fun.of_walkM [(3960,0)] (some [(3960,0)]) Tryz.func74 c74 (by kernel_rfl) (rs := [.tmp 8]) (by kernel_rfl) rfl rfl rfl ?_; unfold v74
 unfold trace_known_api_Block_k1 at hF
 refine wA rfl ?_; refine W_seq ?_; refine wA rfl ?_; refine wIf hF rfl (fun _ hF => ?_) fun _ hF => ?_
 · refine wA rfl ?_; cases hF
   exact W_ret ⟨_, _, S_refl, _, rfl, rfl, ⟨rfl, fun _ => rfl⟩, (AgM.weak ⟨rfl, trivial⟩)⟩
 refine W_skip ?_; refine W_seq ?_; refine wC 1 rfl ?_; refine rS (T_len (tc := t_api_Block) p2 .tree ?_); refine QV rfl ?_; refine W_for (fun _ _ h => h) hF (.inl) (fun a12 => [(1, cM (3960,0)), (3, .c (.fn 76 [])), (16, cL 7 t_api_Block p2), (17, cI (List.length p2 : Int)), (18, cI a12)]) (fun a12 => [((3960,0), mapOb (.int .i64) kvI vvS p1)]) (fun _ => []) (fun _ => [((3960,0), mapOb (.int .i64) kvI vvS p1)]) sw ?_ ?_
 · rintro ⟨⟩ hF
   refine wA rfl ?_; cases hF
   exact W_ret ⟨_, _, S_refl, _, rfl, rfl, ⟨rfl, fun _ => rfl⟩, (AgM.weak ⟨rfl, trivial⟩)⟩
 rintro a12 x_0 hF cont_0 brk_0 fin_0
 unfold trace_known_api_Block_k1_L1 at hF
 refine wA rfl ?_; refine W_seq ?_; refine wIf hF rfl (fun _ hF => ?_) fun _ hF => ?_
 · refine W_skip ?_; refine W_seq ?_; refine W_block ?_; refine wE ?_; obtain ⟨y17, hy17, hF⟩ := bB hF
   refine rS (T_ixT (tc := t_api_Block) p2 rfl rfl hy17 ?_); refine QV rfl ?_; refine wC 3 rfl ?_; obtain ⟨r18, hr18, hF⟩ := bB hF
   refine R_stepX trivial (X_call (callW _ rfl fnOk76) (trace_tables_5_fun _ _ hr18) ⟨⟨rfl, rfl, rfl, rfl, rfl, rfl, rfl, trivial⟩, trivial⟩ rfl (.inl rfl) ?_); refine rS (T_lookOk (keyI .i64) (vv := vvS) p1 r18 ⟨#[]⟩ (.own _ rfl) rfl rfl ?_)
   refine QV rfl ?_; refine wA rfl ?_; refine wIf hF rfl (fun _ hF => ?_) fun _ hF => ?_
   · refine wA rfl ?_; have hF := fin_0 _ (oi hF); cases hF
     exact W_ret ⟨_, _, S_refl, _, rfl, rfl, ⟨rfl, fun _ => rfl⟩, (AgM.weak ⟨rfl, trivial⟩)⟩
   refine W_skip ?_; refine wB rfl ?_; exact cont_0 _ _ _ (oi hF) sw
 refine W_exit ?_; refine thenQ_exit ?_; refine thenQ_exit ?_; refine blockQ_hit ?_; exact brk_0 _ _ _ (oi hF) sw
def trace_losses_k1_L1 (p0 : (List (Int × ByteArray))) (p1 : (List api_Loss)) : Int → Option (Int ⊕ (Unit ⊕ Int)) := fun a20 =>
  (bif (decide (a20 < (List.length p1 : Int))) then ((idx p1 a20).bind fun y29 => (bif (!(Option.isSome (mget y29.fThread p0))) then some (.inr (.inr 5)) else ((((spans_Valid y29.fSpan).bind fun r32 => (bif (!r32) then some true else (bif (decide (y29.fCount < 1)) then some true else some (decide (1000000000000000 < y29.fCount))))) : Option Bool).bind fun v30 => (bif v30 then some (.inr (.inr 2)) else some (.inl (w64 (a20 + 1))))))) else some (.inr (.inl ())))
def trace_losses_k1 (p0 : (List (Int × ByteArray))) (p1 : (List api_Loss)) : Option Int :=
  ((loop (trace_losses_k1_L1 p0 p1) 0).bind fun | .inl _ => some 0 | .inr rv => some rv)
theorem trace_losses_k1_fun (p0 : (List (Int × ByteArray))) (p1 : (List api_Loss)) (r : Int) (hF : trace_losses_k1 p0 p1 = some r) : Fun Tryz.prog 77 false [(4080,0)] [cM (4080,0), cL 4 t_api_Loss p1] (heapOf [((4080,0), mapOb (.int .i64) kvI vvS p0)]) (cI r) (heapOf [((4080,0), mapOb (.int .i64) kvI vvS p0)]) := by
 refine Fun.of_walkM [(4080,0)] (some [(4080,0)]) Tryz.func77 c77 (by kernel_rfl) (rs := [.tmp 4]) (by kernel_rfl) rfl rfl rfl ?_; unfold v77
 unfold trace_losses_k1 at hF
 refine wA rfl ?_; refine W_seq ?_; refine wC 1 rfl ?_; refine rS (T_len (tc := t_api_Loss) p1 .tree ?_); refine QV rfl ?_; refine W_for (fun _ _ h => h) hF (.inl) (fun a20 => [(0, cM (4080,0)), (9, cL 4 t_api_Loss p1), (10, cI (List.length p1 : Int)), (11, cI a20)]) (fun a20 => [((4080,0), mapOb (.int .i64) kvI vvS p0)]) (fun _ => []) (fun _ => [((4080,0), mapOb (.int .i64) kvI vvS p0)]) sw ?_ ?_
 · rintro ⟨⟩ hF
   refine wA rfl ?_; cases hF
   exact W_ret ⟨_, _, S_refl, _, rfl, rfl, ⟨rfl, fun _ => rfl⟩, (AgM.weak ⟨rfl, trivial⟩)⟩
 rintro a20 x_0 hF cont_0 brk_0 fin_0
 unfold trace_losses_k1_L1 at hF
 refine wA rfl ?_; refine W_seq ?_; refine wIf hF rfl (fun _ hF => ?_) fun _ hF => ?_
 · refine W_skip ?_; refine W_seq ?_; refine W_block ?_; refine wE ?_; obtain ⟨y29, hy29, hF⟩ := bB hF
   refine rS (T_ixT (tc := t_api_Loss) p1 rfl rfl hy29 ?_); refine QV rfl ?_; refine W_seq ?_; refine wC 3 rfl ?_; refine rS (T_lookOk (keyI .i64) (vv := vvS) p0 y29.fThread ⟨#[]⟩ (.own _ rfl) rfl rfl ?_)
   refine QV rfl ?_; refine wA rfl ?_; refine wIf hF rfl (fun _ hF => ?_) fun _ hF => ?_
   · refine wA rfl ?_; have hF := fin_0 _ (oi hF); cases hF
     exact W_ret ⟨_, _, S_refl, _, rfl, rfl, ⟨rfl, fun _ => rfl⟩, (AgM.weak ⟨rfl, trivial⟩)⟩
   refine W_skip ?_; refine W_seq ?_; refine W_join (fun _ _ h => h) hF (fun v30 => [(0, cM (4080,0)), (9, cL 4 t_api_Loss p1), (10, cI (List.length p1 : Int)), (11, cI a20), (37, cB v30)]) (fun v30 => [((4080,0), mapOb (.int .i64) kvI vvS p0)]) ?_ ?_
   · rintro v30 hF
     refine wIf hF rfl (fun _ hF => ?_) fun _ hF => ?_
     · refine wA rfl ?_; have hF := fin_0 _ (oi hF); cases hF
       exact W_ret ⟨_, _, S_refl, _, rfl, rfl, ⟨rfl, fun _ => rfl⟩, (AgM.weak ⟨rfl, trivial⟩)⟩
     refine W_skip ?_; refine wB rfl ?_; exact cont_0 _ _ _ (oi hF) sw
   intro join hF
   refine wD 2 rfl ?_; obtain ⟨r32, hr32, hF⟩ := bB' hF
   refine rS (T_call (spans_Valid_fun _ _ hr32) ⟨⟨rfl, rfl, trivial⟩, trivial⟩ rfl (.inl rfl) ?_); refine Q_run SV 2 rfl ?_; cases h33 : (!r32)
   · have hF := bF' h33 hF; refine Q_run SV 5 rfl ?_; cases h34 : (decide (y29.fCount < 1))
     · have hF := bF' h34 hF; refine QV rfl ?_; exact join (decide (1000000000000000 < y29.fCount)) _ _ hF sw
     have hF := bT' h34 hF; refine QV rfl ?_; exact join true _ _ hF sw
   have hF := bT' h33 hF; refine QV rfl ?_; exact join true _ _ hF sw
 refine W_exit ?_; refine thenQ_exit ?_; refine thenQ_exit ?_; refine blockQ_hit ?_; exact brk_0 _ _ _ (oi hF) sw
def trace_tables (p0 : api_Trace) : Option Int :=
  ((trace_threads p0).bind fun | .inl r1_0 => (bif (!decide (r1_0.2 = 0)) then some r1_0.2 else ((slice_Check p0.fSlices).bind fun r2 => none)) | .inr r1_1 => (bif (!decide (r1_1.2 = 0)) then some r1_1.2 else ((slice_Check p0.fSlices).bind fun r4 => ((trace_known_api_Slice_k1 r4 r1_1.1 p0.fSlices).bind fun r5 => (bif (!decide (r5 = 0)) then some r5 else ((state_Check p0.fThreads p0.fStates).bind fun r6 => (bif (!decide (r6 = 0)) then some r6 else ((flow_Check p0.fFlows).bind fun r7 => ((trace_known_api_Flow_k1 r7 r1_1.1 p0.fFlows).bind fun r8 => ((trace_known_api_Flow_k2 r8 r1_1.1 p0.fFlows).bind fun r9 => (bif (!decide (r9 = 0)) then some r9 else ((sample_Check p0.fSamples).bind fun r10 => ((trace_known_api_Sample_k1 r10 r1_1.1 p0.fSamples).bind fun r11 => (bif (!decide (r11 = 0)) then some r11 else ((counter_Check p0.fSteps).bind fun r12 => (bif (!decide (r12 = 0)) then some r12 else ((memory_Check p0.fBlocks).bind fun r13 => ((trace_known_api_Block_k1 r13 r1_1.1 p0.fBlocks).bind fun r14 => (bif (!decide (r14 = 0)) then some r14 else ((trace_losses_k1 r1_1.1 p0.fLost).bind fun r15 => some r15))))))))))))))))))))
theorem trace_tables_fun (p0 : api_Trace) (r : Int) (hF : trace_tables p0 = some r) : Fun Tryz.prog 44 true [] [.agg (m_api_Trace p0)] noHeap (cI r) noHeap := by
 refine Fun.of_walk0 Tryz.func44 c44 (by kernel_rfl) (rs := [.tmp 2]) (by kernel_rfl) ?_; unfold v44
 unfold trace_tables at hF
 refine wA rfl ?_; refine wC 1 rfl ?_; obtain ⟨r1, hr1, hF⟩ := bB hF
 rcases r1 with r1_0 | r1_1
 · refine R_stepX trivial (X_callG [] rfl (callN _) (trace_threads_fun _ _ hr1) trivial ⟨.inr ⟨rfl, rfl, rfl, rfl, rfl, rfl, rfl, rfl, rfl, rfl, trivial⟩, trivial⟩ rfl rfl rfl ?_); refine QV rfl ?_; refine W_seq ?_
   refine wA rfl ?_; refine wIf hF rfl (fun _ hF => ?_) fun _ hF => ?_
   · refine wA rfl ?_; cases hF
     exact W_ret wR
   refine W_skip ?_; refine W_seq ?_; refine W_seq ?_; refine W_regD (by decide) (by kernel_rfl) rfl ?_; refine Q_run SP 2 rfl ?_; obtain ⟨r2, hr2, hF⟩ := bB hF
   refine R_step SP trivial (T_call (slice_Check_fun _ _ hr2) ⟨rfl, trivial⟩ rfl (.inl rfl) ?_); refine Q_run SP 3 rfl ?_; simp at hF
 refine R_stepX trivial (X_callG [((902,2440),(13,1))] rfl (callN _) (trace_threads_fun _ _ hr1) trivial ⟨.inr ⟨rfl, rfl, rfl, rfl, rfl, rfl, rfl, rfl, rfl, rfl, trivial⟩, trivial⟩ rfl rfl rfl ?_); refine QV rfl ?_
 refine W_seq ?_; refine wA rfl ?_; refine wIf hF rfl (fun _ hF => ?_) fun _ hF => ?_
 · refine wA rfl ?_; cases hF
   exact W_ret wR
 refine W_skip ?_; refine W_seq ?_; refine W_seq ?_; refine W_regD (by decide) (by kernel_rfl) rfl ?_; refine Q_run SP 2 rfl ?_; obtain ⟨r4, hr4, hF⟩ := bB hF
 refine R_step SP trivial (T_call (slice_Check_fun _ _ hr4) ⟨rfl, trivial⟩ rfl (.inl rfl) ?_); refine Q_run SP 3 rfl ?_; obtain ⟨r5, hr5, hF⟩ := bB hF
 refine R_step SP trivial (T_callO [((3480,0),(13,1))] rfl (trace_known_api_Slice_k1_fun _ _ _ _ hr5) ⟨rfl, trivial⟩ rfl rfl (.inr ⟨.inl rfl, .inl rfl, .inl rfl, .inl rfl, trivial⟩) ?_); refine QP rfl ?_
 refine wA rfl ?_; refine wIf hF rfl (fun _ hF => ?_) fun _ hF => ?_
 · refine wA rfl ?_; cases hF
   exact W_ret wR
 refine W_skip ?_; refine W_seq ?_; refine wC 4 rfl ?_; obtain ⟨r6, hr6, hF⟩ := bB hF
 refine rS (T_call (state_Check_fun _ _ _ hr6) ⟨rfl, rfl, trivial⟩ rfl (.inl rfl) ?_); refine QV rfl ?_; refine wA rfl ?_; refine wIf hF rfl (fun _ hF => ?_) fun _ hF => ?_
 · refine wA rfl ?_; cases hF
   exact W_ret wR
 refine W_skip ?_; refine W_seq ?_; refine W_regD (by decide) (by kernel_rfl) rfl ?_; refine Q_run SP 2 rfl ?_; obtain ⟨r7, hr7, hF⟩ := bB hF
 refine R_step SP trivial (T_call (flow_Check_fun _ _ hr7) ⟨rfl, trivial⟩ rfl (.inl rfl) ?_); refine Q_run SP 3 rfl ?_; obtain ⟨r8, hr8, hF⟩ := bB hF
 refine R_step SP trivial (T_callO [((3640,0),(13,1))] rfl (trace_known_api_Flow_k1_fun _ _ _ _ hr8) ⟨rfl, trivial⟩ rfl rfl (.inr ⟨.inl rfl, .inl rfl, .inl rfl, .inl rfl, trivial⟩) ?_); refine QP rfl ?_
 refine W_seq ?_; refine wC 4 rfl ?_; obtain ⟨r9, hr9, hF⟩ := bB hF
 refine rS (T_callO [((3640,0),(13,1))] rfl (trace_known_api_Flow_k2_fun _ _ _ _ hr9) ⟨rfl, trivial⟩ rfl rfl (.inr ⟨.inl rfl, .inl rfl, .inl rfl, .inl rfl, trivial⟩) ?_); refine QV rfl ?_; refine wA rfl ?_
 refine wIf hF rfl (fun _ hF => ?_) fun _ hF => ?_
 · refine wA rfl ?_; cases hF
   exact W_ret wR
 refine W_skip ?_; refine W_seq ?_; refine W_seq ?_; refine W_regD (by decide) (by kernel_rfl) rfl ?_; refine Q_run SP 2 rfl ?_; obtain ⟨r10, hr10, hF⟩ := bB hF
 refine R_step SP trivial (T_call (sample_Check_fun _ _ hr10) ⟨rfl, trivial⟩ rfl (.inl rfl) ?_); refine Q_run SP 3 rfl ?_; obtain ⟨r11, hr11, hF⟩ := bB hF
 refine R_step SP trivial (T_callO [((3800,0),(13,1))] rfl (trace_known_api_Sample_k1_fun _ _ _ _ hr11) ⟨rfl, trivial⟩ rfl rfl (.inr ⟨.inl rfl, .inl rfl, .inl rfl, .inl rfl, trivial⟩) ?_); refine QP rfl ?_
 refine wA rfl ?_; refine wIf hF rfl (fun _ hF => ?_) fun _ hF => ?_
 · refine wA rfl ?_; cases hF
   exact W_ret wR
 refine W_skip ?_; refine W_seq ?_; refine wC 2 rfl ?_; obtain ⟨r12, hr12, hF⟩ := bB hF
 refine rS (T_call (counter_Check_fun _ _ hr12) ⟨rfl, trivial⟩ rfl (.inl rfl) ?_); refine QV rfl ?_; refine wA rfl ?_; refine wIf hF rfl (fun _ hF => ?_) fun _ hF => ?_
 · refine wA rfl ?_; cases hF
   exact W_ret wR
 refine W_skip ?_; refine W_seq ?_; refine W_seq ?_; refine W_regD (by decide) (by kernel_rfl) rfl ?_; refine Q_run SP 2 rfl ?_; obtain ⟨r13, hr13, hF⟩ := bB hF
 refine R_step SP trivial (T_call (memory_Check_fun _ _ hr13) ⟨rfl, trivial⟩ rfl (.inl rfl) ?_); refine Q_run SP 3 rfl ?_; obtain ⟨r14, hr14, hF⟩ := bB hF
 refine R_step SP trivial (T_callO [((3960,0),(13,1))] rfl (trace_known_api_Block_k1_fun _ _ _ _ hr14) ⟨rfl, trivial⟩ rfl rfl (.inr ⟨.inl rfl, .inl rfl, .inl rfl, .inl rfl, trivial⟩) ?_); refine QP rfl ?_
 refine wA rfl ?_; refine wIf hF rfl (fun _ hF => ?_) fun _ hF => ?_
 · refine wA rfl ?_; cases hF
   exact W_ret wR
 refine W_skip ?_; refine wC 3 rfl ?_; obtain ⟨r15, hr15, hF⟩ := bB hF
 refine rS (T_callO [((4080,0),(13,1))] rfl (trace_losses_k1_fun _ _ _ hr15) ⟨rfl, trivial⟩ rfl rfl (.inr ⟨.inl rfl, .inl rfl, trivial⟩) ?_); refine QV rfl ?_; cases hF
 exact W_ret wR
def trace_within (p0 : api_Span) (p1 : api_Span) : Option Bool :=
  (((bif (decide (p1.fFrom ≤ p0.fFrom)) then some (decide (p0.fTo ≤ p1.fTo)) else some false) : Option Bool).bind fun v1 => some v1)
theorem trace_within_fun (p0 : api_Span) (p1 : api_Span) (r : Bool) (hF : trace_within p0 p1 = some r) : Fun Tryz.prog 80 true [] [.agg [jI p0.fFrom, jI p0.fTo], .agg [jI p1.fFrom, jI p1.fTo]] noHeap (cB r) noHeap := by
 refine Fun.of_walk0 Tryz.func80 c80 (by kernel_rfl) (rs := [.tmp 4]) (by kernel_rfl) ?_; unfold v80
 unfold trace_within at hF
 refine wA rfl ?_; refine W_seq ?_; refine W_join (fun _ _ h => h) hF (fun v1 => [(4, cB v1)]) (fun v1 => []) ?_ ?_
 · rintro v1 hF
   cases hF
   exact W_ret wR
 intro join hF
 refine wD 6 rfl ?_; cases h2 : (decide (p1.fFrom ≤ p0.fFrom))
 · have hF := bF' h2 hF; refine QV rfl ?_; exact join false _ _ hF sw
 have hF := bT' h2 hF; refine QV rfl ?_; exact join (decide (p0.fTo ≤ p1.fTo)) _ _ hF sw
def trace_outside_1_k1 (p0 : api_Slice) (p1 : api_Span) : Option Bool :=
  ((trace_within p0.fSpan p1).bind fun r1 => some (!r1))
theorem trace_outside_1_k1_fun (p0 : api_Slice) (p1 : api_Span) (r : Bool) (hF : trace_outside_1_k1 p0 p1 = some r) : Fun Tryz.prog 79 true [] [.agg (m_api_Slice p0), .c (.ptrI [tI p1.fFrom, tI p1.fTo])] noHeap (cB r) noHeap := by
 refine Fun.of_walk0 Tryz.func79 c79 (by kernel_rfl) (rs := [.tmp 3]) (by kernel_rfl) ?_; unfold v79
 unfold trace_outside_1_k1 at hF
 refine wA rfl ?_; refine wC 3 rfl ?_; obtain ⟨r1, hr1, hF⟩ := bB hF
 refine rS (T_call (trace_within_fun _ _ _ hr1) ⟨⟨rfl, rfl, trivial⟩, ⟨rfl, rfl, trivial⟩, trivial⟩ rfl (.inl rfl) ?_); refine QV rfl ?_; cases hF
 exact W_ret wR
def slices_IndexFunc_api_Slice_api_Slice_k1_L1 (p0 : (List api_Slice)) (p1_0 : api_Span) : Int → Option (Int ⊕ (Unit ⊕ Int)) := fun a12 =>
  (bif (decide (a12 < (List.length p0 : Int))) then ((idx p0 a12).bind fun y17 => ((trace_outside_1_k1 y17 p1_0).bind fun r18 => (bif r18 then some (.inr (.inr a12)) else some (.inl (w64 (a12 + 1)))))) else some (.inr (.inl ())))
def slices_IndexFunc_api_Slice_api_Slice_k1 (p0 : (List api_Slice)) (p1_0 : api_Span) : Option Int :=
  ((loop (slices_IndexFunc_api_Slice_api_Slice_k1_L1 p0 p1_0) 0).bind fun | .inl _ => some (-1) | .inr rv => some rv)
theorem slices_IndexFunc_api_Slice_api_Slice_k1_fun (p0 : (List api_Slice)) (p1_0 : api_Span) (r : Int) (hF : slices_IndexFunc_api_Slice_api_Slice_k1 p0 p1_0 = some r) : Fun Tryz.prog 122 false [(5880,0)] [cL 8 t_api_Slice p0, .c (.fn 79 [.ptr (5880,0)])] (heapOf [((5880,0), .box [jI p1_0.fFrom, jI p1_0.fTo])]) (cI r) (heapOf [((5880,0), .box [jI p1_0.fFrom, jI p1_0.fTo])]) := by
 refine Fun.of_walkM [(5880,0)] (some [(5880,0)]) Tryz.func122 c122 (by kernel_rfl) (rs := [.tmp 4]) (by kernel_rfl) rfl rfl rfl ?_; unfold v122
 unfold slices_IndexFunc_api_Slice_api_Slice_k1 at hF
 refine wA rfl ?_; refine W_seq ?_; refine wC 1 rfl ?_; refine rS (T_len (tc := t_api_Slice) p0 .tree ?_); refine QV rfl ?_; refine W_for (fun _ _ h => h) hF (.inl) (fun a12 => [(0, cL 8 t_api_Slice p0), (1, .c (.fn 79 [.ptr (5880,0)])), (7, cI (List.length p0 : Int)), (8, cI a12)]) (fun a12 => [((5880,0), .box [jI p1_0.fFrom, jI p1_0.fTo])]) (fun _ => []) (fun _ => [((5880,0), .box [jI p1_0.fFrom, jI p1_0.fTo])]) sw ?_ ?_
 · rintro ⟨⟩ hF
   refine wA rfl ?_; cases hF
   exact W_ret ⟨_, _, S_refl, _, rfl, rfl, ⟨rfl, fun _ => rfl⟩, (AgM.weak ⟨rfl, trivial⟩)⟩
 rintro a12 x_0 hF cont_0 brk_0 fin_0
 unfold slices_IndexFunc_api_Slice_api_Slice_k1_L1 at hF
 refine wA rfl ?_; refine W_seq ?_; refine wIf hF rfl (fun _ hF => ?_) fun _ hF => ?_
 · refine W_skip ?_; refine W_seq ?_; refine W_block ?_; refine wA rfl ?_; refine wC 3 rfl ?_; obtain ⟨y17, hy17, hF⟩ := bB hF
   refine rS (T_ixT (tc := t_api_Slice) p0 rfl rfl hy17 ?_); refine Q_run SV 1 rfl ?_; obtain ⟨r18, hr18, hF⟩ := bB hF
   refine R_stepX trivial (X_call (callW _ rfl fnOk79) (trace_outside_1_k1_fun _ _ _ hr18) ⟨⟨rfl, rfl, rfl, rfl, rfl, rfl, rfl, rfl, trivial⟩, ⟨_, rfl, ⟨rfl, rfl, trivial⟩⟩, trivial⟩ rfl (.inl rfl) ?_); refine QV rfl ?_
   refine wIf hF rfl (fun _ hF => ?_) fun _ hF => ?_
   · refine wA rfl ?_; have hF := fin_0 _ (oi hF); cases hF
     exact W_ret ⟨_, _, S_refl, _, rfl, rfl, ⟨rfl, fun _ => rfl⟩, (AgM.weak ⟨rfl, trivial⟩)⟩
   refine W_skip ?_; refine wB rfl ?_; exact cont_0 _ _ _ (oi hF) sw
 refine W_exit ?_; refine thenQ_exit ?_; refine thenQ_exit ?_; refine blockQ_hit ?_; exact brk_0 _ _ _ (oi hF) sw
def slices_ContainsFunc_api_Slice_api_Slice_k1 (p0 : (List api_Slice)) (p1_0 : api_Span) : Option Bool :=
  ((slices_IndexFunc_api_Slice_api_Slice_k1 p0 p1_0).bind fun r1 => some (decide (0 ≤ r1)))
theorem slices_ContainsFunc_api_Slice_api_Slice_k1_fun (p0 : (List api_Slice)) (p1_0 : api_Span) (r : Bool) (hF : slices_ContainsFunc_api_Slice_api_Slice_k1 p0 p1_0 = some r) : Fun Tryz.prog 78 false [(4120,0)] [cL 8 t_api_Slice p0, .c (.fn 79 [.ptr (4120,0)])] (heapOf [((4120,0), .box [jI p1_0.fFrom, jI p1_0.fTo])]) (cB r) (heapOf [((4120,0), .box [jI p1_0.fFrom, jI p1_0.fTo])]) := by
 refine Fun.of_walkM [(4120,0)] (some [(4120,0)]) Tryz.func78 c78 (by kernel_rfl) (rs := [.tmp 4]) (by kernel_rfl) rfl rfl rfl ?_; unfold v78
 unfold slices_ContainsFunc_api_Slice_api_Slice_k1 at hF
 refine wA rfl ?_; refine wC 2 rfl ?_; obtain ⟨r1, hr1, hF⟩ := bB hF
 refine rS (T_callO [((5880,0),(4120,0))] rfl (slices_IndexFunc_api_Slice_api_Slice_k1_fun _ _ _ hr1) ⟨rfl, trivial⟩ rfl rfl (.inr ⟨.inl rfl, .inl rfl, trivial⟩) ?_); refine QV rfl ?_; cases hF
 exact W_ret ⟨_, _, S_refl, _, rfl, rfl, ⟨rfl, fun _ => rfl⟩, (AgM.weak ⟨rfl, trivial⟩)⟩
def trace_outside_2_k1 (p0 : api_State) (p1 : api_Span) : Option Bool :=
  ((trace_within p0.fSpan p1).bind fun r1 => some (!r1))
theorem trace_outside_2_k1_fun (p0 : api_State) (p1 : api_Span) (r : Bool) (hF : trace_outside_2_k1 p0 p1 = some r) : Fun Tryz.prog 82 true [] [.agg (m_api_State p0), .c (.ptrI [tI p1.fFrom, tI p1.fTo])] noHeap (cB r) noHeap := by
 refine Fun.of_walk0 Tryz.func82 c82 (by kernel_rfl) (rs := [.tmp 3]) (by kernel_rfl) ?_; unfold v82
 unfold trace_outside_2_k1 at hF
 refine wA rfl ?_; refine wC 3 rfl ?_; obtain ⟨r1, hr1, hF⟩ := bB hF
 refine rS (T_call (trace_within_fun _ _ _ hr1) ⟨⟨rfl, rfl, trivial⟩, ⟨rfl, rfl, trivial⟩, trivial⟩ rfl (.inl rfl) ?_); refine QV rfl ?_; cases hF
 exact W_ret wR
def slices_IndexFunc_api_State_api_State_k1_L1 (p0 : (List api_State)) (p1_0 : api_Span) : Int → Option (Int ⊕ (Unit ⊕ Int)) := fun a12 =>
  (bif (decide (a12 < (List.length p0 : Int))) then ((idx p0 a12).bind fun y17 => ((trace_outside_2_k1 y17 p1_0).bind fun r18 => (bif r18 then some (.inr (.inr a12)) else some (.inl (w64 (a12 + 1)))))) else some (.inr (.inl ())))
def slices_IndexFunc_api_State_api_State_k1 (p0 : (List api_State)) (p1_0 : api_Span) : Option Int :=
  ((loop (slices_IndexFunc_api_State_api_State_k1_L1 p0 p1_0) 0).bind fun | .inl _ => some (-1) | .inr rv => some rv)
theorem slices_IndexFunc_api_State_api_State_k1_fun (p0 : (List api_State)) (p1_0 : api_Span) (r : Int) (hF : slices_IndexFunc_api_State_api_State_k1 p0 p1_0 = some r) : Fun Tryz.prog 123 false [(5920,0)] [cL 7 t_api_State p0, .c (.fn 82 [.ptr (5920,0)])] (heapOf [((5920,0), .box [jI p1_0.fFrom, jI p1_0.fTo])]) (cI r) (heapOf [((5920,0), .box [jI p1_0.fFrom, jI p1_0.fTo])]) := by
 refine Fun.of_walkM [(5920,0)] (some [(5920,0)]) Tryz.func123 c123 (by kernel_rfl) (rs := [.tmp 4]) (by kernel_rfl) rfl rfl rfl ?_; unfold v123
 unfold slices_IndexFunc_api_State_api_State_k1 at hF
 refine wA rfl ?_; refine W_seq ?_; refine wC 1 rfl ?_; refine rS (T_len (tc := t_api_State) p0 .tree ?_); refine QV rfl ?_; refine W_for (fun _ _ h => h) hF (.inl) (fun a12 => [(0, cL 7 t_api_State p0), (1, .c (.fn 82 [.ptr (5920,0)])), (7, cI (List.length p0 : Int)), (8, cI a12)]) (fun a12 => [((5920,0), .box [jI p1_0.fFrom, jI p1_0.fTo])]) (fun _ => []) (fun _ => [((5920,0), .box [jI p1_0.fFrom, jI p1_0.fTo])]) sw ?_ ?_
 · rintro ⟨⟩ hF
   refine wA rfl ?_; cases hF
   exact W_ret ⟨_, _, S_refl, _, rfl, rfl, ⟨rfl, fun _ => rfl⟩, (AgM.weak ⟨rfl, trivial⟩)⟩
 rintro a12 x_0 hF cont_0 brk_0 fin_0
 unfold slices_IndexFunc_api_State_api_State_k1_L1 at hF
 refine wA rfl ?_; refine W_seq ?_; refine wIf hF rfl (fun _ hF => ?_) fun _ hF => ?_
 · refine W_skip ?_; refine W_seq ?_; refine W_block ?_; refine wA rfl ?_; refine wC 3 rfl ?_; obtain ⟨y17, hy17, hF⟩ := bB hF
   refine rS (T_ixT (tc := t_api_State) p0 rfl rfl hy17 ?_); refine Q_run SV 1 rfl ?_; obtain ⟨r18, hr18, hF⟩ := bB hF
   refine R_stepX trivial (X_call (callW _ rfl fnOk82) (trace_outside_2_k1_fun _ _ _ hr18) ⟨⟨rfl, rfl, rfl, rfl, rfl, rfl, rfl, trivial⟩, ⟨_, rfl, ⟨rfl, rfl, trivial⟩⟩, trivial⟩ rfl (.inl rfl) ?_); refine QV rfl ?_
   refine wIf hF rfl (fun _ hF => ?_) fun _ hF => ?_
   · refine wA rfl ?_; have hF := fin_0 _ (oi hF); cases hF
     exact W_ret ⟨_, _, S_refl, _, rfl, rfl, ⟨rfl, fun _ => rfl⟩, (AgM.weak ⟨rfl, trivial⟩)⟩
   refine W_skip ?_; refine wB rfl ?_; exact cont_0 _ _ _ (oi hF) sw
 refine W_exit ?_; refine thenQ_exit ?_; refine thenQ_exit ?_; refine blockQ_hit ?_; exact brk_0 _ _ _ (oi hF) sw
def slices_ContainsFunc_api_State_api_State_k1 (p0 : (List api_State)) (p1_0 : api_Span) : Option Bool :=
  ((slices_IndexFunc_api_State_api_State_k1 p0 p1_0).bind fun r1 => some (decide (0 ≤ r1)))
theorem slices_ContainsFunc_api_State_api_State_k1_fun (p0 : (List api_State)) (p1_0 : api_Span) (r : Bool) (hF : slices_ContainsFunc_api_State_api_State_k1 p0 p1_0 = some r) : Fun Tryz.prog 81 false [(4240,0)] [cL 7 t_api_State p0, .c (.fn 82 [.ptr (4240,0)])] (heapOf [((4240,0), .box [jI p1_0.fFrom, jI p1_0.fTo])]) (cB r) (heapOf [((4240,0), .box [jI p1_0.fFrom, jI p1_0.fTo])]) := by
 refine Fun.of_walkM [(4240,0)] (some [(4240,0)]) Tryz.func81 c81 (by kernel_rfl) (rs := [.tmp 4]) (by kernel_rfl) rfl rfl rfl ?_; unfold v81
 unfold slices_ContainsFunc_api_State_api_State_k1 at hF
 refine wA rfl ?_; refine wC 2 rfl ?_; obtain ⟨r1, hr1, hF⟩ := bB hF
 refine rS (T_callO [((5920,0),(4240,0))] rfl (slices_IndexFunc_api_State_api_State_k1_fun _ _ _ hr1) ⟨rfl, trivial⟩ rfl rfl (.inr ⟨.inl rfl, .inl rfl, trivial⟩) ?_); refine QV rfl ?_; cases hF
 exact W_ret ⟨_, _, S_refl, _, rfl, rfl, ⟨rfl, fun _ => rfl⟩, (AgM.weak ⟨rfl, trivial⟩)⟩
def trace_outside_3_k1 (p0 : api_Block) (p1 : api_Span) : Option Bool :=
  ((trace_within p0.fSpan p1).bind fun r1 => some (!r1))
theorem trace_outside_3_k1_fun (p0 : api_Block) (p1 : api_Span) (r : Bool) (hF : trace_outside_3_k1 p0 p1 = some r) : Fun Tryz.prog 84 true [] [.agg (m_api_Block p0), .c (.ptrI [tI p1.fFrom, tI p1.fTo])] noHeap (cB r) noHeap := by
 refine Fun.of_walk0 Tryz.func84 c84 (by kernel_rfl) (rs := [.tmp 3]) (by kernel_rfl) ?_; unfold v84
 unfold trace_outside_3_k1 at hF
 refine wA rfl ?_; refine wC 3 rfl ?_; obtain ⟨r1, hr1, hF⟩ := bB hF
 refine rS (T_call (trace_within_fun _ _ _ hr1) ⟨⟨rfl, rfl, trivial⟩, ⟨rfl, rfl, trivial⟩, trivial⟩ rfl (.inl rfl) ?_); refine QV rfl ?_; cases hF
 exact W_ret wR
def slices_IndexFunc_api_Block_api_Block_k1_L1 (p0 : (List api_Block)) (p1_0 : api_Span) : Int → Option (Int ⊕ (Unit ⊕ Int)) := fun a12 =>
  (bif (decide (a12 < (List.length p0 : Int))) then ((idx p0 a12).bind fun y17 => ((trace_outside_3_k1 y17 p1_0).bind fun r18 => (bif r18 then some (.inr (.inr a12)) else some (.inl (w64 (a12 + 1)))))) else some (.inr (.inl ())))
def slices_IndexFunc_api_Block_api_Block_k1 (p0 : (List api_Block)) (p1_0 : api_Span) : Option Int :=
  ((loop (slices_IndexFunc_api_Block_api_Block_k1_L1 p0 p1_0) 0).bind fun | .inl _ => some (-1) | .inr rv => some rv)
theorem slices_IndexFunc_api_Block_api_Block_k1_fun (p0 : (List api_Block)) (p1_0 : api_Span) (r : Int) (hF : slices_IndexFunc_api_Block_api_Block_k1 p0 p1_0 = some r) : Fun Tryz.prog 124 false [(5960,0)] [cL 7 t_api_Block p0, .c (.fn 84 [.ptr (5960,0)])] (heapOf [((5960,0), .box [jI p1_0.fFrom, jI p1_0.fTo])]) (cI r) (heapOf [((5960,0), .box [jI p1_0.fFrom, jI p1_0.fTo])]) := by
 refine Fun.of_walkM [(5960,0)] (some [(5960,0)]) Tryz.func124 c124 (by kernel_rfl) (rs := [.tmp 4]) (by kernel_rfl) rfl rfl rfl ?_; unfold v124
 unfold slices_IndexFunc_api_Block_api_Block_k1 at hF
 refine wA rfl ?_; refine W_seq ?_; refine wC 1 rfl ?_; refine rS (T_len (tc := t_api_Block) p0 .tree ?_); refine QV rfl ?_; refine W_for (fun _ _ h => h) hF (.inl) (fun a12 => [(0, cL 7 t_api_Block p0), (1, .c (.fn 84 [.ptr (5960,0)])), (7, cI (List.length p0 : Int)), (8, cI a12)]) (fun a12 => [((5960,0), .box [jI p1_0.fFrom, jI p1_0.fTo])]) (fun _ => []) (fun _ => [((5960,0), .box [jI p1_0.fFrom, jI p1_0.fTo])]) sw ?_ ?_
 · rintro ⟨⟩ hF
   refine wA rfl ?_; cases hF
   exact W_ret ⟨_, _, S_refl, _, rfl, rfl, ⟨rfl, fun _ => rfl⟩, (AgM.weak ⟨rfl, trivial⟩)⟩
 rintro a12 x_0 hF cont_0 brk_0 fin_0
 unfold slices_IndexFunc_api_Block_api_Block_k1_L1 at hF
 refine wA rfl ?_; refine W_seq ?_; refine wIf hF rfl (fun _ hF => ?_) fun _ hF => ?_
 · refine W_skip ?_; refine W_seq ?_; refine W_block ?_; refine wA rfl ?_; refine wC 3 rfl ?_; obtain ⟨y17, hy17, hF⟩ := bB hF
   refine rS (T_ixT (tc := t_api_Block) p0 rfl rfl hy17 ?_); refine Q_run SV 1 rfl ?_; obtain ⟨r18, hr18, hF⟩ := bB hF
   refine R_stepX trivial (X_call (callW _ rfl fnOk84) (trace_outside_3_k1_fun _ _ _ hr18) ⟨⟨rfl, rfl, rfl, rfl, rfl, rfl, rfl, trivial⟩, ⟨_, rfl, ⟨rfl, rfl, trivial⟩⟩, trivial⟩ rfl (.inl rfl) ?_); refine QV rfl ?_
   refine wIf hF rfl (fun _ hF => ?_) fun _ hF => ?_
   · refine wA rfl ?_; have hF := fin_0 _ (oi hF); cases hF
     exact W_ret ⟨_, _, S_refl, _, rfl, rfl, ⟨rfl, fun _ => rfl⟩, (AgM.weak ⟨rfl, trivial⟩)⟩
   refine W_skip ?_; refine wB rfl ?_; exact cont_0 _ _ _ (oi hF) sw
 refine W_exit ?_; refine thenQ_exit ?_; refine thenQ_exit ?_; refine blockQ_hit ?_; exact brk_0 _ _ _ (oi hF) sw
def slices_ContainsFunc_api_Block_api_Block_k1 (p0 : (List api_Block)) (p1_0 : api_Span) : Option Bool :=
  ((slices_IndexFunc_api_Block_api_Block_k1 p0 p1_0).bind fun r1 => some (decide (0 ≤ r1)))
theorem slices_ContainsFunc_api_Block_api_Block_k1_fun (p0 : (List api_Block)) (p1_0 : api_Span) (r : Bool) (hF : slices_ContainsFunc_api_Block_api_Block_k1 p0 p1_0 = some r) : Fun Tryz.prog 83 false [(4320,0)] [cL 7 t_api_Block p0, .c (.fn 84 [.ptr (4320,0)])] (heapOf [((4320,0), .box [jI p1_0.fFrom, jI p1_0.fTo])]) (cB r) (heapOf [((4320,0), .box [jI p1_0.fFrom, jI p1_0.fTo])]) := by
 refine Fun.of_walkM [(4320,0)] (some [(4320,0)]) Tryz.func83 c83 (by kernel_rfl) (rs := [.tmp 4]) (by kernel_rfl) rfl rfl rfl ?_; unfold v83
 unfold slices_ContainsFunc_api_Block_api_Block_k1 at hF
 refine wA rfl ?_; refine wC 2 rfl ?_; obtain ⟨r1, hr1, hF⟩ := bB hF
 refine rS (T_callO [((5960,0),(4320,0))] rfl (slices_IndexFunc_api_Block_api_Block_k1_fun _ _ _ hr1) ⟨rfl, trivial⟩ rfl rfl (.inr ⟨.inl rfl, .inl rfl, trivial⟩) ?_); refine QV rfl ?_; cases hF
 exact W_ret ⟨_, _, S_refl, _, rfl, rfl, ⟨rfl, fun _ => rfl⟩, (AgM.weak ⟨rfl, trivial⟩)⟩
def trace_inside (p0 : api_Span) (p1 : Int) : Option Bool :=
  (((bif (decide (p0.fFrom ≤ p1)) then some (decide (p1 < p0.fTo)) else some false) : Option Bool).bind fun v1 => some v1)
theorem trace_inside_fun (p0 : api_Span) (p1 : Int) (r : Bool) (hF : trace_inside p0 p1 = some r) : Fun Tryz.prog 87 true [] [.agg [jI p0.fFrom, jI p0.fTo], cI p1] noHeap (cB r) noHeap := by
 refine Fun.of_walk0 Tryz.func87 c87 (by kernel_rfl) (rs := [.tmp 4]) (by kernel_rfl) ?_; unfold v87
 unfold trace_inside at hF
 refine wA rfl ?_; refine W_seq ?_; refine W_join (fun _ _ h => h) hF (fun v1 => [(4, cB v1)]) (fun v1 => []) ?_ ?_
 · rintro v1 hF
   cases hF
   exact W_ret wR
 intro join hF
 refine wD 5 rfl ?_; cases h2 : (decide (p0.fFrom ≤ p1))
 · have hF := bF' h2 hF; refine QV rfl ?_; exact join false _ _ hF sw
 have hF := bT' h2 hF; refine QV rfl ?_; exact join (decide (p1 < p0.fTo)) _ _ hF sw
def trace_outside_4_k1 (p0 : api_Flow) (p1 : api_Span) : Option Bool :=
  ((((trace_inside p1 p0.fSend).bind fun r2 => (bif (!r2) then some true else ((trace_inside p1 p0.fRecv).bind fun r4 => some (!r4)))) : Option Bool).bind fun v1 => some v1)
theorem trace_outside_4_k1_fun (p0 : api_Flow) (p1 : api_Span) (r : Bool) (hF : trace_outside_4_k1 p0 p1 = some r) : Fun Tryz.prog 86 true [] [.agg (m_api_Flow p0), .c (.ptrI [tI p1.fFrom, tI p1.fTo])] noHeap (cB r) noHeap := by
 refine Fun.of_walk0 Tryz.func86 c86 (by kernel_rfl) (rs := [.tmp 3]) (by kernel_rfl) ?_; unfold v86
 unfold trace_outside_4_k1 at hF
 refine wA rfl ?_; refine W_seq ?_; refine W_join (fun _ _ h => h) hF (fun v1 => [(3, cB v1)]) (fun v1 => []) ?_ ?_
 · rintro v1 hF
   cases hF
   exact W_ret wR
 intro join hF
 refine wD 3 rfl ?_; obtain ⟨r2, hr2, hF⟩ := bB' hF
 refine rS (T_call (trace_inside_fun _ _ _ hr2) ⟨⟨rfl, rfl, trivial⟩, rfl, trivial⟩ rfl (.inl rfl) ?_); refine Q_run SV 2 rfl ?_; cases h3 : (!r2)
 · have hF := bF' h3 hF; refine Q_run SV 3 rfl ?_; obtain ⟨r4, hr4, hF⟩ := bB' hF
   refine R_step SV rfl (T_call (trace_inside_fun _ _ _ hr4) ⟨⟨rfl, rfl, trivial⟩, rfl, trivial⟩ rfl (.inl rfl) ?_); refine QV rfl ?_; exact join (!r4) _ _ hF sw
 have hF := bT' h3 hF; refine QV rfl ?_; exact join true _ _ hF sw
def slices_IndexFunc_api_Flow_api_Flow_k1_L1 (p0 : (List api_Flow)) (p1_0 : api_Span) : Int → Option (Int ⊕ (Unit ⊕ Int)) := fun a12 =>
  (bif (decide (a12 < (List.length p0 : Int))) then ((idx p0 a12).bind fun y17 => ((trace_outside_4_k1 y17 p1_0).bind fun r18 => (bif r18 then some (.inr (.inr a12)) else some (.inl (w64 (a12 + 1)))))) else some (.inr (.inl ())))
def slices_IndexFunc_api_Flow_api_Flow_k1 (p0 : (List api_Flow)) (p1_0 : api_Span) : Option Int :=
  ((loop (slices_IndexFunc_api_Flow_api_Flow_k1_L1 p0 p1_0) 0).bind fun | .inl _ => some (-1) | .inr rv => some rv)
theorem slices_IndexFunc_api_Flow_api_Flow_k1_fun (p0 : (List api_Flow)) (p1_0 : api_Span) (r : Int) (hF : slices_IndexFunc_api_Flow_api_Flow_k1 p0 p1_0 = some r) : Fun Tryz.prog 125 false [(6000,0)] [cL 7 t_api_Flow p0, .c (.fn 86 [.ptr (6000,0)])] (heapOf [((6000,0), .box [jI p1_0.fFrom, jI p1_0.fTo])]) (cI r) (heapOf [((6000,0), .box [jI p1_0.fFrom, jI p1_0.fTo])]) := by
 refine Fun.of_walkM [(6000,0)] (some [(6000,0)]) Tryz.func125 c125 (by kernel_rfl) (rs := [.tmp 4]) (by kernel_rfl) rfl rfl rfl ?_; unfold v125
 unfold slices_IndexFunc_api_Flow_api_Flow_k1 at hF
 refine wA rfl ?_; refine W_seq ?_; refine wC 1 rfl ?_; refine rS (T_len (tc := t_api_Flow) p0 .tree ?_); refine QV rfl ?_; refine W_for (fun _ _ h => h) hF (.inl) (fun a12 => [(0, cL 7 t_api_Flow p0), (1, .c (.fn 86 [.ptr (6000,0)])), (7, cI (List.length p0 : Int)), (8, cI a12)]) (fun a12 => [((6000,0), .box [jI p1_0.fFrom, jI p1_0.fTo])]) (fun _ => []) (fun _ => [((6000,0), .box [jI p1_0.fFrom, jI p1_0.fTo])]) sw ?_ ?_
 · rintro ⟨⟩ hF
   refine wA rfl ?_; cases hF
   exact W_ret ⟨_, _, S_refl, _, rfl, rfl, ⟨rfl, fun _ => rfl⟩, (AgM.weak ⟨rfl, trivial⟩)⟩
 rintro a12 x_0 hF cont_0 brk_0 fin_0
 unfold slices_IndexFunc_api_Flow_api_Flow_k1_L1 at hF
 refine wA rfl ?_; refine W_seq ?_; refine wIf hF rfl (fun _ hF => ?_) fun _ hF => ?_
 · refine W_skip ?_; refine W_seq ?_; refine W_block ?_; refine wA rfl ?_; refine wC 3 rfl ?_; obtain ⟨y17, hy17, hF⟩ := bB hF
   refine rS (T_ixT (tc := t_api_Flow) p0 rfl rfl hy17 ?_); refine Q_run SV 1 rfl ?_; obtain ⟨r18, hr18, hF⟩ := bB hF
   refine R_stepX trivial (X_call (callW _ rfl fnOk86) (trace_outside_4_k1_fun _ _ _ hr18) ⟨⟨rfl, rfl, rfl, rfl, rfl, rfl, rfl, trivial⟩, ⟨_, rfl, ⟨rfl, rfl, trivial⟩⟩, trivial⟩ rfl (.inl rfl) ?_); refine QV rfl ?_
   refine wIf hF rfl (fun _ hF => ?_) fun _ hF => ?_
   · refine wA rfl ?_; have hF := fin_0 _ (oi hF); cases hF
     exact W_ret ⟨_, _, S_refl, _, rfl, rfl, ⟨rfl, fun _ => rfl⟩, (AgM.weak ⟨rfl, trivial⟩)⟩
   refine W_skip ?_; refine wB rfl ?_; exact cont_0 _ _ _ (oi hF) sw
 refine W_exit ?_; refine thenQ_exit ?_; refine thenQ_exit ?_; refine blockQ_hit ?_; exact brk_0 _ _ _ (oi hF) sw
def slices_ContainsFunc_api_Flow_api_Flow_k1 (p0 : (List api_Flow)) (p1_0 : api_Span) : Option Bool :=
  ((slices_IndexFunc_api_Flow_api_Flow_k1 p0 p1_0).bind fun r1 => some (decide (0 ≤ r1)))
theorem slices_ContainsFunc_api_Flow_api_Flow_k1_fun (p0 : (List api_Flow)) (p1_0 : api_Span) (r : Bool) (hF : slices_ContainsFunc_api_Flow_api_Flow_k1 p0 p1_0 = some r) : Fun Tryz.prog 85 false [(4400,0)] [cL 7 t_api_Flow p0, .c (.fn 86 [.ptr (4400,0)])] (heapOf [((4400,0), .box [jI p1_0.fFrom, jI p1_0.fTo])]) (cB r) (heapOf [((4400,0), .box [jI p1_0.fFrom, jI p1_0.fTo])]) := by
 refine Fun.of_walkM [(4400,0)] (some [(4400,0)]) Tryz.func85 c85 (by kernel_rfl) (rs := [.tmp 4]) (by kernel_rfl) rfl rfl rfl ?_; unfold v85
 unfold slices_ContainsFunc_api_Flow_api_Flow_k1 at hF
 refine wA rfl ?_; refine wC 2 rfl ?_; obtain ⟨r1, hr1, hF⟩ := bB hF
 refine rS (T_callO [((6000,0),(4400,0))] rfl (slices_IndexFunc_api_Flow_api_Flow_k1_fun _ _ _ hr1) ⟨rfl, trivial⟩ rfl rfl (.inr ⟨.inl rfl, .inl rfl, trivial⟩) ?_); refine QV rfl ?_; cases hF
 exact W_ret ⟨_, _, S_refl, _, rfl, rfl, ⟨rfl, fun _ => rfl⟩, (AgM.weak ⟨rfl, trivial⟩)⟩
def trace_outside_5_k1 (p0 : api_Sample) (p1 : api_Span) : Option Bool :=
  ((trace_inside p1 p0.fAt).bind fun r1 => some (!r1))
theorem trace_outside_5_k1_fun (p0 : api_Sample) (p1 : api_Span) (r : Bool) (hF : trace_outside_5_k1 p0 p1 = some r) : Fun Tryz.prog 89 true [] [.agg (m_api_Sample p0), .c (.ptrI [tI p1.fFrom, tI p1.fTo])] noHeap (cB r) noHeap := by
 refine Fun.of_walk0 Tryz.func89 c89 (by kernel_rfl) (rs := [.tmp 3]) (by kernel_rfl) ?_; unfold v89
 unfold trace_outside_5_k1 at hF
 refine wA rfl ?_; refine wC 3 rfl ?_; obtain ⟨r1, hr1, hF⟩ := bB hF
 refine rS (T_call (trace_inside_fun _ _ _ hr1) ⟨⟨rfl, rfl, trivial⟩, rfl, trivial⟩ rfl (.inl rfl) ?_); refine QV rfl ?_; cases hF
 exact W_ret wR
def slices_IndexFunc_api_Sample_api_Sample_k1_L1 (p0 : (List api_Sample)) (p1_0 : api_Span) : Int → Option (Int ⊕ (Unit ⊕ Int)) := fun a12 =>
  (bif (decide (a12 < (List.length p0 : Int))) then ((idx p0 a12).bind fun y17 => ((trace_outside_5_k1 y17 p1_0).bind fun r18 => (bif r18 then some (.inr (.inr a12)) else some (.inl (w64 (a12 + 1)))))) else some (.inr (.inl ())))
def slices_IndexFunc_api_Sample_api_Sample_k1 (p0 : (List api_Sample)) (p1_0 : api_Span) : Option Int :=
  ((loop (slices_IndexFunc_api_Sample_api_Sample_k1_L1 p0 p1_0) 0).bind fun | .inl _ => some (-1) | .inr rv => some rv)
theorem slices_IndexFunc_api_Sample_api_Sample_k1_fun (p0 : (List api_Sample)) (p1_0 : api_Span) (r : Int) (hF : slices_IndexFunc_api_Sample_api_Sample_k1 p0 p1_0 = some r) : Fun Tryz.prog 126 false [(6040,0)] [cL 4 t_api_Sample p0, .c (.fn 89 [.ptr (6040,0)])] (heapOf [((6040,0), .box [jI p1_0.fFrom, jI p1_0.fTo])]) (cI r) (heapOf [((6040,0), .box [jI p1_0.fFrom, jI p1_0.fTo])]) := by
 refine Fun.of_walkM [(6040,0)] (some [(6040,0)]) Tryz.func126 c126 (by kernel_rfl) (rs := [.tmp 4]) (by kernel_rfl) rfl rfl rfl ?_; unfold v126
 unfold slices_IndexFunc_api_Sample_api_Sample_k1 at hF
 refine wA rfl ?_; refine W_seq ?_; refine wC 1 rfl ?_; refine rS (T_len (tc := t_api_Sample) p0 .tree ?_); refine QV rfl ?_; refine W_for (fun _ _ h => h) hF (.inl) (fun a12 => [(0, cL 4 t_api_Sample p0), (1, .c (.fn 89 [.ptr (6040,0)])), (7, cI (List.length p0 : Int)), (8, cI a12)]) (fun a12 => [((6040,0), .box [jI p1_0.fFrom, jI p1_0.fTo])]) (fun _ => []) (fun _ => [((6040,0), .box [jI p1_0.fFrom, jI p1_0.fTo])]) sw ?_ ?_
 · rintro ⟨⟩ hF
   refine wA rfl ?_; cases hF
   exact W_ret ⟨_, _, S_refl, _, rfl, rfl, ⟨rfl, fun _ => rfl⟩, (AgM.weak ⟨rfl, trivial⟩)⟩
 rintro a12 x_0 hF cont_0 brk_0 fin_0
 unfold slices_IndexFunc_api_Sample_api_Sample_k1_L1 at hF
 refine wA rfl ?_; refine W_seq ?_; refine wIf hF rfl (fun _ hF => ?_) fun _ hF => ?_
 · refine W_skip ?_; refine W_seq ?_; refine W_block ?_; refine wA rfl ?_; refine wC 3 rfl ?_; obtain ⟨y17, hy17, hF⟩ := bB hF
   refine rS (T_ixT (tc := t_api_Sample) p0 rfl rfl hy17 ?_); refine Q_run SV 1 rfl ?_; obtain ⟨r18, hr18, hF⟩ := bB hF
   refine R_stepX trivial (X_call (callW _ rfl fnOk89) (trace_outside_5_k1_fun _ _ _ hr18) ⟨⟨rfl, rfl, rfl, rfl, trivial⟩, ⟨_, rfl, ⟨rfl, rfl, trivial⟩⟩, trivial⟩ rfl (.inl rfl) ?_); refine QV rfl ?_; refine wIf hF rfl (fun _ hF => ?_) fun _ hF => ?_
   · refine wA rfl ?_; have hF := fin_0 _ (oi hF); cases hF
     exact W_ret ⟨_, _, S_refl, _, rfl, rfl, ⟨rfl, fun _ => rfl⟩, (AgM.weak ⟨rfl, trivial⟩)⟩
   refine W_skip ?_; refine wB rfl ?_; exact cont_0 _ _ _ (oi hF) sw
 refine W_exit ?_; refine thenQ_exit ?_; refine thenQ_exit ?_; refine blockQ_hit ?_; exact brk_0 _ _ _ (oi hF) sw
def slices_ContainsFunc_api_Sample_api_Sample_k1 (p0 : (List api_Sample)) (p1_0 : api_Span) : Option Bool :=
  ((slices_IndexFunc_api_Sample_api_Sample_k1 p0 p1_0).bind fun r1 => some (decide (0 ≤ r1)))
theorem slices_ContainsFunc_api_Sample_api_Sample_k1_fun (p0 : (List api_Sample)) (p1_0 : api_Span) (r : Bool) (hF : slices_ContainsFunc_api_Sample_api_Sample_k1 p0 p1_0 = some r) : Fun Tryz.prog 88 false [(4520,0)] [cL 4 t_api_Sample p0, .c (.fn 89 [.ptr (4520,0)])] (heapOf [((4520,0), .box [jI p1_0.fFrom, jI p1_0.fTo])]) (cB r) (heapOf [((4520,0), .box [jI p1_0.fFrom, jI p1_0.fTo])]) := by
 refine Fun.of_walkM [(4520,0)] (some [(4520,0)]) Tryz.func88 c88 (by kernel_rfl) (rs := [.tmp 4]) (by kernel_rfl) rfl rfl rfl ?_; unfold v88
 unfold slices_ContainsFunc_api_Sample_api_Sample_k1 at hF
 refine wA rfl ?_; refine wC 2 rfl ?_; obtain ⟨r1, hr1, hF⟩ := bB hF
 refine rS (T_callO [((6040,0),(4520,0))] rfl (slices_IndexFunc_api_Sample_api_Sample_k1_fun _ _ _ hr1) ⟨rfl, trivial⟩ rfl rfl (.inr ⟨.inl rfl, .inl rfl, trivial⟩) ?_); refine QV rfl ?_; cases hF
 exact W_ret ⟨_, _, S_refl, _, rfl, rfl, ⟨rfl, fun _ => rfl⟩, (AgM.weak ⟨rfl, trivial⟩)⟩
def trace_outside_6_k1 (p0 : api_Step) (p1 : api_Span) : Option Bool :=
  ((trace_inside p1 p0.fAt).bind fun r1 => some (!r1))
theorem trace_outside_6_k1_fun (p0 : api_Step) (p1 : api_Span) (r : Bool) (hF : trace_outside_6_k1 p0 p1 = some r) : Fun Tryz.prog 91 true [] [.agg (m_api_Step p0), .c (.ptrI [tI p1.fFrom, tI p1.fTo])] noHeap (cB r) noHeap := by
 refine Fun.of_walk0 Tryz.func91 c91 (by kernel_rfl) (rs := [.tmp 3]) (by kernel_rfl) ?_; unfold v91
 unfold trace_outside_6_k1 at hF
 refine wA rfl ?_; refine wC 3 rfl ?_; obtain ⟨r1, hr1, hF⟩ := bB hF
 refine rS (T_call (trace_inside_fun _ _ _ hr1) ⟨⟨rfl, rfl, trivial⟩, rfl, trivial⟩ rfl (.inl rfl) ?_); refine QV rfl ?_; cases hF
 exact W_ret wR
def slices_IndexFunc_api_Step_api_Step_k1_L1 (p0 : (List api_Step)) (p1_0 : api_Span) : Int → Option (Int ⊕ (Unit ⊕ Int)) := fun a12 =>
  (bif (decide (a12 < (List.length p0 : Int))) then ((idx p0 a12).bind fun y17 => ((trace_outside_6_k1 y17 p1_0).bind fun r18 => (bif r18 then some (.inr (.inr a12)) else some (.inl (w64 (a12 + 1)))))) else some (.inr (.inl ())))
def slices_IndexFunc_api_Step_api_Step_k1 (p0 : (List api_Step)) (p1_0 : api_Span) : Option Int :=
  ((loop (slices_IndexFunc_api_Step_api_Step_k1_L1 p0 p1_0) 0).bind fun | .inl _ => some (-1) | .inr rv => some rv)
theorem slices_IndexFunc_api_Step_api_Step_k1_fun (p0 : (List api_Step)) (p1_0 : api_Span) (r : Int) (hF : slices_IndexFunc_api_Step_api_Step_k1 p0 p1_0 = some r) : Fun Tryz.prog 127 false [(6080,0)] [cL 3 t_api_Step p0, .c (.fn 91 [.ptr (6080,0)])] (heapOf [((6080,0), .box [jI p1_0.fFrom, jI p1_0.fTo])]) (cI r) (heapOf [((6080,0), .box [jI p1_0.fFrom, jI p1_0.fTo])]) := by
 refine Fun.of_walkM [(6080,0)] (some [(6080,0)]) Tryz.func127 c127 (by kernel_rfl) (rs := [.tmp 4]) (by kernel_rfl) rfl rfl rfl ?_; unfold v127
 unfold slices_IndexFunc_api_Step_api_Step_k1 at hF
 refine wA rfl ?_; refine W_seq ?_; refine wC 1 rfl ?_; refine rS (T_len (tc := t_api_Step) p0 .tree ?_); refine QV rfl ?_; refine W_for (fun _ _ h => h) hF (.inl) (fun a12 => [(0, cL 3 t_api_Step p0), (1, .c (.fn 91 [.ptr (6080,0)])), (7, cI (List.length p0 : Int)), (8, cI a12)]) (fun a12 => [((6080,0), .box [jI p1_0.fFrom, jI p1_0.fTo])]) (fun _ => []) (fun _ => [((6080,0), .box [jI p1_0.fFrom, jI p1_0.fTo])]) sw ?_ ?_
 · rintro ⟨⟩ hF
   refine wA rfl ?_; cases hF
   exact W_ret ⟨_, _, S_refl, _, rfl, rfl, ⟨rfl, fun _ => rfl⟩, (AgM.weak ⟨rfl, trivial⟩)⟩
 rintro a12 x_0 hF cont_0 brk_0 fin_0
 unfold slices_IndexFunc_api_Step_api_Step_k1_L1 at hF
 refine wA rfl ?_; refine W_seq ?_; refine wIf hF rfl (fun _ hF => ?_) fun _ hF => ?_
 · refine W_skip ?_; refine W_seq ?_; refine W_block ?_; refine wA rfl ?_; refine wC 3 rfl ?_; obtain ⟨y17, hy17, hF⟩ := bB hF
   refine rS (T_ixT (tc := t_api_Step) p0 rfl rfl hy17 ?_); refine Q_run SV 1 rfl ?_; obtain ⟨r18, hr18, hF⟩ := bB hF
   refine R_stepX trivial (X_call (callW _ rfl fnOk91) (trace_outside_6_k1_fun _ _ _ hr18) ⟨⟨rfl, rfl, rfl, trivial⟩, ⟨_, rfl, ⟨rfl, rfl, trivial⟩⟩, trivial⟩ rfl (.inl rfl) ?_); refine QV rfl ?_; refine wIf hF rfl (fun _ hF => ?_) fun _ hF => ?_
   · refine wA rfl ?_; have hF := fin_0 _ (oi hF); cases hF
     exact W_ret ⟨_, _, S_refl, _, rfl, rfl, ⟨rfl, fun _ => rfl⟩, (AgM.weak ⟨rfl, trivial⟩)⟩
   refine W_skip ?_; refine wB rfl ?_; exact cont_0 _ _ _ (oi hF) sw
 refine W_exit ?_; refine thenQ_exit ?_; refine thenQ_exit ?_; refine blockQ_hit ?_; exact brk_0 _ _ _ (oi hF) sw
def slices_ContainsFunc_api_Step_api_Step_k1 (p0 : (List api_Step)) (p1_0 : api_Span) : Option Bool :=
  ((slices_IndexFunc_api_Step_api_Step_k1 p0 p1_0).bind fun r1 => some (decide (0 ≤ r1)))
theorem slices_ContainsFunc_api_Step_api_Step_k1_fun (p0 : (List api_Step)) (p1_0 : api_Span) (r : Bool) (hF : slices_ContainsFunc_api_Step_api_Step_k1 p0 p1_0 = some r) : Fun Tryz.prog 90 false [(4600,0)] [cL 3 t_api_Step p0, .c (.fn 91 [.ptr (4600,0)])] (heapOf [((4600,0), .box [jI p1_0.fFrom, jI p1_0.fTo])]) (cB r) (heapOf [((4600,0), .box [jI p1_0.fFrom, jI p1_0.fTo])]) := by
 refine Fun.of_walkM [(4600,0)] (some [(4600,0)]) Tryz.func90 c90 (by kernel_rfl) (rs := [.tmp 4]) (by kernel_rfl) rfl rfl rfl ?_; unfold v90
 unfold slices_ContainsFunc_api_Step_api_Step_k1 at hF
 refine wA rfl ?_; refine wC 2 rfl ?_; obtain ⟨r1, hr1, hF⟩ := bB hF
 refine rS (T_callO [((6080,0),(4600,0))] rfl (slices_IndexFunc_api_Step_api_Step_k1_fun _ _ _ hr1) ⟨rfl, trivial⟩ rfl rfl (.inr ⟨.inl rfl, .inl rfl, trivial⟩) ?_); refine QV rfl ?_; cases hF
 exact W_ret ⟨_, _, S_refl, _, rfl, rfl, ⟨rfl, fun _ => rfl⟩, (AgM.weak ⟨rfl, trivial⟩)⟩
def trace_outside (p0 : api_Trace) : Option Bool :=
  ((((slices_ContainsFunc_api_Slice_api_Slice_k1 p0.fSlices p0.fSpan).bind fun r2 => (bif r2 then some true else ((slices_ContainsFunc_api_State_api_State_k1 p0.fStates p0.fSpan).bind fun r4 => (bif r4 then some true else ((slices_ContainsFunc_api_Block_api_Block_k1 p0.fBlocks p0.fSpan).bind fun r6 => (bif r6 then some true else ((slices_ContainsFunc_api_Flow_api_Flow_k1 p0.fFlows p0.fSpan).bind fun r8 => (bif r8 then some true else ((slices_ContainsFunc_api_Sample_api_Sample_k1 p0.fSamples p0.fSpan).bind fun r10 => (bif r10 then some true else ((slices_ContainsFunc_api_Step_api_Step_k1 p0.fSteps p0.fSpan).bind fun r12 => some r12))))))))))) : Option Bool).bind fun v1 => some v1)
theorem trace_outside_fun (p0 : api_Trace) (r : Bool) (hF : trace_outside p0 = some r) : Fun Tryz.prog 45 true [] [.agg (m_api_Trace p0)] noHeap (cB r) noHeap := by
 refine Fun.of_walk0 Tryz.func45 c45 (by kernel_rfl) (rs := [.tmp 2]) (by kernel_rfl) ?_; unfold v45
 unfold trace_outside at hF
 refine wA rfl ?_; refine wA rfl ?_; refine W_seq ?_; refine W_join (fun _ _ h => h) hF (fun v1 => [(2, cB v1)]) (fun v1 => []) ?_ ?_
 · rintro v1 hF
   cases hF
   exact W_ret wR
 intro join hF
 refine wD 3 rfl ?_; obtain ⟨r2, hr2, hF⟩ := bB' hF
 refine rS (T_callO [((4120,0),(3,0))] rfl (slices_ContainsFunc_api_Slice_api_Slice_k1_fun _ _ _ hr2) ⟨rfl, trivial⟩ rfl rfl (.inr ⟨.inl rfl, .inl rfl, trivial⟩) ?_); refine Q_run SV 1 rfl ?_; cases h3 : r2
 · have hF := bF' h3 hF; refine Q_run SV 3 rfl ?_; obtain ⟨r4, hr4, hF⟩ := bB' hF
   refine R_step SV rfl (T_callO [((4240,0),(3,0))] rfl (slices_ContainsFunc_api_State_api_State_k1_fun _ _ _ hr4) ⟨rfl, trivial⟩ rfl rfl (.inr ⟨.inl rfl, .inl rfl, trivial⟩) ?_); refine Q_run SV 2 rfl ?_
   cases h5 : r4
   · have hF := bF' h5 hF; refine Q_run SV 3 rfl ?_; obtain ⟨r6, hr6, hF⟩ := bB' hF
     refine R_step SV rfl (T_callO [((4320,0),(3,0))] rfl (slices_ContainsFunc_api_Block_api_Block_k1_fun _ _ _ hr6) ⟨rfl, trivial⟩ rfl rfl (.inr ⟨.inl rfl, .inl rfl, trivial⟩) ?_); refine Q_run SV 2 rfl ?_
     cases h7 : r6
     · have hF := bF' h7 hF; refine Q_run SV 3 rfl ?_; obtain ⟨r8, hr8, hF⟩ := bB' hF
       refine R_step SV rfl (T_callO [((4400,0),(3,0))] rfl (slices_ContainsFunc_api_Flow_api_Flow_k1_fun _ _ _ hr8) ⟨rfl, trivial⟩ rfl rfl (.inr ⟨.inl rfl, .inl rfl, trivial⟩) ?_); refine Q_run SV 2 rfl ?_; cases h9 : r8
       · have hF := bF' h9 hF; refine Q_run SV 3 rfl ?_; obtain ⟨r10, hr10, hF⟩ := bB' hF
         refine R_step SV rfl (T_callO [((4520,0),(3,0))] rfl (slices_ContainsFunc_api_Sample_api_Sample_k1_fun _ _ _ hr10) ⟨rfl, trivial⟩ rfl rfl (.inr ⟨.inl rfl, .inl rfl, trivial⟩) ?_); refine Q_run SV 2 rfl ?_
         cases h11 : r10
         · have hF := bF' h11 hF; refine Q_run SV 3 rfl ?_; obtain ⟨r12, hr12, hF⟩ := bB' hF
           refine R_step SV rfl (T_callO [((4600,0),(3,0))] rfl (slices_ContainsFunc_api_Step_api_Step_k1_fun _ _ _ hr12) ⟨rfl, trivial⟩ rfl rfl (.inr ⟨.inl rfl, .inl rfl, trivial⟩) ?_); refine QV rfl ?_; exact join r12 _ _ hF sw
         have hF := bT' h11 hF; refine QV rfl ?_; exact join true _ _ hF sw
       have hF := bT' h9 hF; refine QV rfl ?_; exact join true _ _ hF sw
     have hF := bT' h7 hF; refine QV rfl ?_; exact join true _ _ hF sw
   have hF := bT' h5 hF; refine QV rfl ?_; exact join true _ _ hF sw
 have hF := bT' h3 hF; refine QV rfl ?_; exact join true _ _ hF sw
def trace_Check (p0 : api_Trace) : Option Int :=
  ((trace_tables p0).bind fun r1 => (bif (!decide (r1 = 0)) then some r1 else (((bif (decide (p0.fSpan.fFrom < 0)) then some true else (bif (decide (p0.fSpan.fTo < p0.fSpan.fFrom)) then some true else some (decide (1000000000000 < p0.fSpan.fTo)))) : Option Bool).bind fun v2 => (bif v2 then some 2 else ((trace_outside p0).bind fun r3 => (bif r3 then some 10 else some 0))))))
theorem trace_Check_fun (p0 : api_Trace) (r : Int) (hF : trace_Check p0 = some r) : Fun Tryz.prog 23 true [] [.agg (m_api_Trace p0)] noHeap (cI r) noHeap := by
 refine Fun.of_walk0 Tryz.func23 c23 (by kernel_rfl) (rs := [.tmp 2]) (by kernel_rfl) ?_; unfold v23
 unfold trace_Check at hF
 refine wA rfl ?_; refine W_seq ?_; refine wC 1 rfl ?_; obtain ⟨r1, hr1, hF⟩ := bB hF
 refine rS (T_call (trace_tables_fun _ _ hr1) ⟨⟨rfl, rfl, rfl, rfl, rfl, rfl, rfl, rfl, rfl, rfl, trivial⟩, trivial⟩ rfl (.inl rfl) ?_); refine QV rfl ?_; refine wA rfl ?_; refine wIf hF rfl (fun _ hF => ?_) fun _ hF => ?_
 · refine wA rfl ?_; cases hF
   exact W_ret wR
 refine W_skip ?_; refine W_seq ?_; refine W_seq ?_; refine W_join (fun _ _ h => h) hF (fun v2 => [(1, cP (1,0) 0), (27, cB v2)]) (fun v2 => [((1,0), .box (m_api_Trace p0))]) ?_ ?_
 · rintro v2 hF
   refine wIf hF rfl (fun _ hF => ?_) fun _ hF => ?_
   · refine wA rfl ?_; cases hF
     exact W_ret wR
   refine W_skip ?_; refine W_seq ?_; refine wC 1 rfl ?_; obtain ⟨r3, hr3, hF⟩ := bB hF
   refine rS (T_call (trace_outside_fun _ _ hr3) ⟨⟨rfl, rfl, rfl, rfl, rfl, rfl, rfl, rfl, rfl, rfl, trivial⟩, trivial⟩ rfl (.inl rfl) ?_); refine QV rfl ?_; refine wIf hF rfl (fun _ hF => ?_) fun _ hF => ?_
   · refine wA rfl ?_; cases hF
     exact W_ret wR
   refine W_skip ?_; refine wA rfl ?_; cases hF
   exact W_ret wR
 intro join hF
 refine wD 5 rfl ?_; cases h6 : (decide (p0.fSpan.fFrom < 0))
 · have hF := bF' h6 hF; refine Q_run SV 9 rfl ?_; cases h7 : (decide (p0.fSpan.fTo < p0.fSpan.fFrom))
   · have hF := bF' h7 hF; refine QV rfl ?_; exact join (decide (1000000000000 < p0.fSpan.fTo)) _ _ hF sw
   have hF := bT' h7 hF; refine QV rfl ?_; exact join true _ _ hF sw
 have hF := bT' h6 hF; refine QV rfl ?_; exact join true _ _ hF sw
def latency_Of_1_k1 (p0 : api_Thread) (p1 : Int) : Option Bool :=
  some (decide (p0.fId = p1))
theorem latency_Of_1_k1_fun (p0 : api_Thread) (p1 : Int) (r : Bool) (hF : latency_Of_1_k1 p0 p1 = some r) : Fun Tryz.prog 28 true [] [.agg (m_api_Thread p0), .c (.ptrI [tI p1])] noHeap (cB r) noHeap := by
 refine Fun.of_walk0 Tryz.func28 c28 (by kernel_rfl) (rs := [.tmp 3]) (by kernel_rfl) ?_; unfold v28
 unfold latency_Of_1_k1 at hF
 refine wA rfl ?_; refine wA rfl ?_; cases hF
 exact W_ret wR
def slices_IndexFunc_api_Thread_api_Thread_k1_L1 (p0 : (List api_Thread)) (p1_0 : Int) : Int → Option (Int ⊕ (Unit ⊕ Int)) := fun a12 =>
  (bif (decide (a12 < (List.length p0 : Int))) then ((idx p0 a12).bind fun y17 => ((latency_Of_1_k1 y17 p1_0).bind fun r18 => (bif r18 then some (.inr (.inr a12)) else some (.inl (w64 (a12 + 1)))))) else some (.inr (.inl ())))
def slices_IndexFunc_api_Thread_api_Thread_k1 (p0 : (List api_Thread)) (p1_0 : Int) : Option Int :=
  ((loop (slices_IndexFunc_api_Thread_api_Thread_k1_L1 p0 p1_0) 0).bind fun | .inl _ => some (-1) | .inr rv => some rv)
theorem slices_IndexFunc_api_Thread_api_Thread_k1_fun (p0 : (List api_Thread)) (p1_0 : Int) (r : Int) (hF : slices_IndexFunc_api_Thread_api_Thread_k1 p0 p1_0 = some r) : Fun Tryz.prog 48 false [(2920,0)] [cL 3 t_api_Thread p0, .c (.fn 28 [.ptr (2920,0)])] (heapOf [((2920,0), .box [jI p1_0])]) (cI r) (heapOf [((2920,0), .box [jI p1_0])]) := by
 refine Fun.of_walkM [(2920,0)] (some [(2920,0)]) Tryz.func48 c48 (by kernel_rfl) (rs := [.tmp 4]) (by kernel_rfl) rfl rfl rfl ?_; unfold v48
 unfold slices_IndexFunc_api_Thread_api_Thread_k1 at hF
 refine wA rfl ?_; refine W_seq ?_; refine wC 1 rfl ?_; refine rS (T_len (tc := t_api_Thread) p0 .tree ?_); refine QV rfl ?_; refine W_for (fun _ _ h => h) hF (.inl) (fun a12 => [(0, cL 3 t_api_Thread p0), (1, .c (.fn 28 [.ptr (2920,0)])), (7, cI (List.length p0 : Int)), (8, cI a12)]) (fun a12 => [((2920,0), .box [jI p1_0])]) (fun _ => []) (fun _ => [((2920,0), .box [jI p1_0])]) sw ?_ ?_
 · rintro ⟨⟩ hF
   refine wA rfl ?_; cases hF
   exact W_ret ⟨_, _, S_refl, _, rfl, rfl, ⟨rfl, fun _ => rfl⟩, (AgM.weak ⟨rfl, trivial⟩)⟩
 rintro a12 x_0 hF cont_0 brk_0 fin_0
 unfold slices_IndexFunc_api_Thread_api_Thread_k1_L1 at hF
 refine wA rfl ?_; refine W_seq ?_; refine wIf hF rfl (fun _ hF => ?_) fun _ hF => ?_
 · refine W_skip ?_; refine W_seq ?_; refine W_block ?_; refine wA rfl ?_; refine wC 3 rfl ?_; obtain ⟨y17, hy17, hF⟩ := bB hF
   refine rS (T_ixT (tc := t_api_Thread) p0 rfl rfl hy17 ?_); refine Q_run SV 1 rfl ?_; obtain ⟨r18, hr18, hF⟩ := bB hF
   refine R_stepX trivial (X_call (callW _ rfl fnOk28) (latency_Of_1_k1_fun _ _ _ hr18) ⟨⟨rfl, rfl, rfl, trivial⟩, ⟨_, rfl, ⟨rfl, trivial⟩⟩, trivial⟩ rfl (.inl rfl) ?_); refine QV rfl ?_; refine wIf hF rfl (fun _ hF => ?_) fun _ hF => ?_
   · refine wA rfl ?_; have hF := fin_0 _ (oi hF); cases hF
     exact W_ret ⟨_, _, S_refl, _, rfl, rfl, ⟨rfl, fun _ => rfl⟩, (AgM.weak ⟨rfl, trivial⟩)⟩
   refine W_skip ?_; refine wB rfl ?_; exact cont_0 _ _ _ (oi hF) sw
 refine W_exit ?_; refine thenQ_exit ?_; refine thenQ_exit ?_; refine blockQ_hit ?_; exact brk_0 _ _ _ (oi hF) sw
def slices_ContainsFunc_api_Thread_api_Thread_k1 (p0 : (List api_Thread)) (p1_0 : Int) : Option Bool :=
  ((slices_IndexFunc_api_Thread_api_Thread_k1 p0 p1_0).bind fun r1 => some (decide (0 ≤ r1)))
theorem slices_ContainsFunc_api_Thread_api_Thread_k1_fun (p0 : (List api_Thread)) (p1_0 : Int) (r : Bool) (hF : slices_ContainsFunc_api_Thread_api_Thread_k1 p0 p1_0 = some r) : Fun Tryz.prog 27 false [(2080,0)] [cL 3 t_api_Thread p0, .c (.fn 28 [.ptr (2080,0)])] (heapOf [((2080,0), .box [jI p1_0])]) (cB r) (heapOf [((2080,0), .box [jI p1_0])]) := by
 refine Fun.of_walkM [(2080,0)] (some [(2080,0)]) Tryz.func27 c27 (by kernel_rfl) (rs := [.tmp 4]) (by kernel_rfl) rfl rfl rfl ?_; unfold v27
 unfold slices_ContainsFunc_api_Thread_api_Thread_k1 at hF
 refine wA rfl ?_; refine wC 2 rfl ?_; obtain ⟨r1, hr1, hF⟩ := bB hF
 refine rS (T_callO [((2920,0),(2080,0))] rfl (slices_IndexFunc_api_Thread_api_Thread_k1_fun _ _ _ hr1) ⟨rfl, trivial⟩ rfl rfl (.inr ⟨.inl rfl, .inl rfl, trivial⟩) ?_); refine QV rfl ?_; cases hF
 exact W_ret ⟨_, _, S_refl, _, rfl, rfl, ⟨rfl, fun _ => rfl⟩, (AgM.weak ⟨rfl, trivial⟩)⟩
def latency_waits_L1 (p0 : api_Trace) : ((List api_State) × Int) → Option (((List api_State) × Int) ⊕ (List api_State)) := fun (a29, a30) =>
  (bif (decide (a30 < (List.length p0.fStates : Int))) then ((((idx p0.fStates a30).bind fun y44 => (((bif (decide ((w64 (a30 + 1)) < (List.length p0.fStates : Int))) then (bif (decide (y44.fState = 0)) then ((idx p0.fStates (w64 (a30 + 1))).bind fun y50 => (bif (decide (y50.fState = 4)) then ((idx p0.fStates (w64 (a30 + 1))).bind fun y52 => some (decide (y52.fThread = y44.fThread))) else some false)) else some false) else some false) : Option Bool).bind fun v45 => (bif v45 then (bif room 56 (List.length a29 + List.length [y44]) then some (a29 ++ [y44]) else none) else some a29))) : Option (List api_State)).bind fun v43 => some (.inl (v43, (w64 (a30 + 1))))) else some (.inr a29))
def latency_waits (p0 : api_Trace) : Option (List api_State) :=
  ((loop (latency_waits_L1 p0) ([], 0)).bind fun e42 => some e42)
end Go.VM
