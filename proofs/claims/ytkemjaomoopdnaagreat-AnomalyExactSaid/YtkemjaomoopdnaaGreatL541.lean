/- What the functions of the law compute, each with its proof. -/
import Derived.Test.YtkemjaomoopdnaaGreatSrt
import Derived.Test.YtkemjaomoopdnaaGreatRows
import Derived.KernelRfl
import Derived.Lib.Bytealg
import Derived.Laws.Externs
import Derived.WalkKit
namespace Go.VM
open Go.Proofs Go.Proofs.YtkemjaomoopdnaaGreat
open Go.RowKit
set_option maxRecDepth 100000
set_option maxHeartbeats 4000000
structure api_Span where
  fFrom : Int
  fTo : Int
  deriving DecidableEq
structure api_Thread where
  fId : Int
  fName : ByteArray
  fDomain : Int
  deriving DecidableEq
structure api_Slice where
  fThread : Int
  fParent : Int
  fDepth : Int
  fName : ByteArray
  fSpan : api_Span
  fSelf : Int
  fOpen : Bool
  deriving DecidableEq
abbrev m_api_Slice (x : api_Slice) : List C := [.imm (tI x.fThread), .imm (tI x.fParent), .imm (tI x.fDepth), .imm (.sc (.string x.fName)), .imm (tI x.fSpan.fFrom), .imm (tI x.fSpan.fTo), .imm (tI x.fSelf), .imm (.sc (.bool x.fOpen))]
structure api_State where
  fThread : Int
  fState : Int
  fSpan : api_Span
  fCpu : Int
  fOn : Int
  fBy : Int
  deriving DecidableEq
abbrev m_api_State (x : api_State) : List C := [.imm (tI x.fThread), .imm (tI x.fState), .imm (tI x.fSpan.fFrom), .imm (tI x.fSpan.fTo), .imm (tI x.fCpu), .imm (tI x.fOn), .imm (tI x.fBy)]
structure api_Id where
  fThread : Int
  fSerial : Int
  deriving DecidableEq
structure api_Flow where
  fId : Int
  fFrom : api_Id
  fTo : api_Id
  fSend : Int
  fRecv : Int
  deriving DecidableEq
abbrev m_api_Flow (x : api_Flow) : List C := [.imm (tI x.fId), .imm (tI x.fFrom.fThread), .imm (tI x.fFrom.fSerial), .imm (tI x.fTo.fThread), .imm (tI x.fTo.fSerial), .imm (tI x.fSend), .imm (tI x.fRecv)]
structure api_Sample where
  fThread : Int
  fAt : Int
  fWeight : Int
  fStack : (List ByteArray)
  deriving DecidableEq
structure api_Step where
  fName : ByteArray
  fAt : Int
  fValue : Int
  deriving DecidableEq
abbrev m_api_Step (x : api_Step) : List C := [.imm (.sc (.string x.fName)), .imm (tI x.fAt), .imm (tI x.fValue)]
structure api_Block where
  fId : Int
  fThread : Int
  fSize : Int
  fSpan : api_Span
  fStack : (List ByteArray)
  fLive : Bool
  deriving DecidableEq
structure api_Loss where
  fThread : Int
  fSpan : api_Span
  fCount : Int
  deriving DecidableEq
structure api_Trace where
  fSpan : api_Span
  fThreads : (List api_Thread)
  fSlices : (List api_Slice)
  fStates : (List api_State)
  fFlows : (List api_Flow)
  fSamples : (List api_Sample)
  fSteps : (List api_Step)
  fBlocks : (List api_Block)
  fLost : (List api_Loss)
  deriving DecidableEq
def t_api_Thread (x : api_Thread) : List T := [tI x.fId, .sc (.string x.fName), tI x.fDomain]
def t_api_Slice (x : api_Slice) : List T := [tI x.fThread, tI x.fParent, tI x.fDepth, .sc (.string x.fName), tI x.fSpan.fFrom, tI x.fSpan.fTo, tI x.fSelf, .sc (.bool x.fOpen)]
def t_api_State (x : api_State) : List T := [tI x.fThread, tI x.fState, tI x.fSpan.fFrom, tI x.fSpan.fTo, tI x.fCpu, tI x.fOn, tI x.fBy]
def t_api_Flow (x : api_Flow) : List T := [tI x.fId, tI x.fFrom.fThread, tI x.fFrom.fSerial, tI x.fTo.fThread, tI x.fTo.fSerial, tI x.fSend, tI x.fRecv]
def t_str (x : ByteArray) : List T := [.sc (.string x)]
abbrev m_api_Block (x : api_Block) : List C := [.imm (tI x.fId), .imm (tI x.fThread), .imm (tI x.fSize), .imm (tI x.fSpan.fFrom), .imm (tI x.fSpan.fTo), .imm (.sl 1 (List.map t_str x.fStack)), .imm (.sc (.bool x.fLive))]
abbrev m_api_Sample (x : api_Sample) : List C := [.imm (tI x.fThread), .imm (tI x.fAt), .imm (tI x.fWeight), .imm (.sl 1 (List.map t_str x.fStack))]
def t_api_Sample (x : api_Sample) : List T := [tI x.fThread, tI x.fAt, tI x.fWeight, .sl 1 (List.map t_str x.fStack)]
def t_api_Step (x : api_Step) : List T := [.sc (.string x.fName), tI x.fAt, tI x.fValue]
def t_api_Block (x : api_Block) : List T := [tI x.fId, tI x.fThread, tI x.fSize, tI x.fSpan.fFrom, tI x.fSpan.fTo, .sl 1 (List.map t_str x.fStack), .sc (.bool x.fLive)]
def t_api_Loss (x : api_Loss) : List T := [tI x.fThread, tI x.fSpan.fFrom, tI x.fSpan.fTo, tI x.fCount]
abbrev m_api_Trace (x : api_Trace) : List C := [.imm (tI x.fSpan.fFrom), .imm (tI x.fSpan.fTo), .imm (.sl 3 (List.map t_api_Thread x.fThreads)), .imm (.sl 8 (List.map t_api_Slice x.fSlices)), .imm (.sl 7 (List.map t_api_State x.fStates)), .imm (.sl 7 (List.map t_api_Flow x.fFlows)), .imm (.sl 4 (List.map t_api_Sample x.fSamples)), .imm (.sl 3 (List.map t_api_Step x.fSteps)), .imm (.sl 7 (List.map t_api_Block x.fBlocks)), .imm (.sl 4 (List.map t_api_Loss x.fLost))]
def t_i64 (x : Int) : List T := [tI x]
structure api_Frac where
  fN : Int
  fD : Int
  deriving DecidableEq
structure api_Part where
  fPath : (List ByteArray)
  fCause : ByteArray
  fValue : api_Frac
  deriving DecidableEq
def t_api_Part (x : api_Part) : List T := [.sl 1 (List.map t_str x.fPath), .sc (.string x.fCause), tI x.fValue.fN, tI x.fValue.fD]
structure api_Outlier where
  fSlice : Int
  fExcess : Int
  fParts : (List api_Part)
  deriving DecidableEq
def t_api_Outlier (x : api_Outlier) : List T := [tI x.fSlice, tI x.fExcess, .sl 4 (List.map t_api_Part x.fParts)]
def t_api_Frac (x : api_Frac) : List T := [tI x.fN, tI x.fD]
structure tracebookref02_Wide where
  fHi : Int
  fLo : Int
  deriving DecidableEq
structure tracebookref02_Signed where
  fMinus : Bool
  fAbs : tracebookref02_Wide
  deriving DecidableEq
def v8 : VC := (.seq (rg [vo 1 (.box 33 0), vo 2 (.mv (kB false))]) (.seq (rg [vo 3 (.fld 2 1), vo 4 (.load 1 false 3), vo 5 (.lenS 4), vo 6 (.bin .leq 5 (kI 20)), vm 7 6, vg 8 7 true (.fld 3 1), vg 9 7 true (.load 1 false 8), vg 10 7 true (.lenS 9), vg 11 7 true (.bin .leq 10 (kI 60)), vo 12 (.pick 7 11 (kB false)), vm 13 12, vg 14 13 true (.fld 4 1), vg 15 13 true (.load 1 false 14), vg 16 13 true (.lenS 15), vg 17 13 true (.bin .leq 16 (kI 200)), vo 18 (.pick 13 17 (kB false)), vm 19 18, vg 20 19 true (.fld 5 1), vg 21 19 true (.load 1 false 20), vg 22 19 true (.lenS 21), vg 23 19 true (.bin .leq 22 (kI 60)), vo 24 (.pick 19 23 (kB false)), vm 25 24, vg 26 25 true (.fld 6 1), vg 27 25 true (.load 1 false 26), vg 28 25 true (.lenS 27), vg 29 25 true (.bin .leq 28 (kI 60)), vo 30 (.pick 25 29 (kB false)), vm 31 30, vg 32 31 true (.fld 7 1), vg 33 31 true (.load 1 false 32), vg 34 31 true (.lenS 33), vg 35 31 true (.bin .leq 34 (kI 60)), vo 36 (.pick 31 35 (kB false)), vm 37 36, vg 38 37 true (.fld 8 1), vg 39 37 true (.load 1 false 38), vg 40 37 true (.lenS 39), vg 41 37 true (.bin .leq 40 (kI 60)), vo 42 (.pick 37 41 (kB false)), vm 43 42, vg 44 43 true (.fld 9 1), vg 45 43 true (.load 1 false 44), vg 46 43 true (.lenS 45), vg 47 43 true (.bin .leq 46 (kI 50)), vo 48 (.pick 43 47 (kB false)), vm 2 48]) .ret))
theorem c8 : (Tryz.f8.body.bind fun c => cCode Tryz.prog 49 c) = some v8 := by kernel_rfl
def v18 : VC := (.seq (rg [vo 4 (.alloc 33 [(iI 0),(iI 0),.nilS,.nilS,.nilS,.nilS,.nilS,.nilS,.nilS,.nilS])]) (.seq (rg [vo 9 (.build [(iI 0),iS,(iI 0)] [(0,1,(kI 1)),(1,1,(.con (.c (.imm (.sc (.string ⟨#[97]⟩))))))]), vo 10 (.bsl 76 3 1 [(iI 0),iS,(iI 0)] [(0,3,9)]), vo 11 (.build [(iI 0),(iI 0),.nilS,.nilS,.nilS,.nilS,.nilS,.nilS,.nilS,.nilS] [(2,1,10)]), vo 5 (.alloc 33 [(iI 0),(iI 0),.nilS,.nilS,.nilS,.nilS,.nilS,.nilS,.nilS,.nilS]), vp (.store 10 5 11)]) (.seq (rg [vo 6 (.mv (kI 0))]) (.seq (.seq (rg [vm 12 1, vo 13 (.lenS 12), vo 14 (.mv (kI 0))]) (.block 0 (.loop (.seq (rg [vo 15 (.bin .lss 14 13)]) (.seq (.cond 15 .skip (.exit 0)) (.seq (.block 1 (.seq (rg [vo 16 (.ixA 1 12 14), vo 17 (.load 1 false 16), vm 8 17]) (.seq (rg [vo 18 (.fld 3 5), vo 19 (.load 1 false 18), vm 20 6, vm 21 6, vm 22 8, vo 23 (.bin .add 21 22), vo 24 (.build [(iI 0),(iI 0)] [(0,1,20),(1,1,23)]), vm 25 8, vo 26 (.build [(iI 0),(iI 0),(iI 0),iS,(iI 0),(iI 0),(iI 0),(.imm (.sc (.bool false)))] [(0,1,(kI 1)),(1,1,(kI (-1))),(3,1,(.con (.c (.imm (.sc (.string ⟨#[102]⟩)))))),(4,2,24),(6,1,25)]), vo 27 (.bsl 47 8 1 [(iI 0),(iI 0),(iI 0),iS,(iI 0),(iI 0),(iI 0),(.imm (.sc (.bool false)))] [(0,8,26)]), vo 28 (.app 47 8 72 19 27), vo 29 (.fld 3 5), vp (.store 1 29 28)]) (rg [vm 30 6, vm 31 8, vo 32 (.bin .add 30 31), vm 6 32])))) (rg [vo 33 (.bin .add 14 (kI 1)), vm 14 33]))))))) (.seq (rg [vm 34 6, vo 35 (.fld 0 5), vo 36 (.fld 1 35), vp (.store 1 36 34)]) (.seq (rg [vm 37 6, vm 38 0, vo 39 (.bin .sub 37 38), vo 40 (.build [(iI 0),(iI 0)] [(1,1,39)]), vo 41 (.build [(iI 0),(iI 0),(iI 0),(iI 0),(iI 0),(iI 0),(iI 0)] [(0,1,(kI 1)),(1,1,(kI 4)),(2,2,40),(5,1,(kI (-1))),(6,1,(kI (-1)))]), vo 42 (.bsl 78 7 1 [(iI 0),(iI 0),(iI 0),(iI 0),(iI 0),(iI 0),(iI 0)] [(0,7,41)]), vo 43 (.fld 4 5), vp (.store 1 43 42)]) (.seq (.seq (rg [vm 44 0, vo 45 (.bin .gtr 44 (kI 0))]) (.cond 45 (rg [vo 46 (.fld 4 5), vo 47 (.load 1 false 46), vm 48 6, vm 49 0, vo 50 (.bin .sub 48 49), vm 51 6, vo 52 (.build [(iI 0),(iI 0)] [(0,1,50),(1,1,51)]), vo 53 (.build [(iI 0),(iI 0),(iI 0),(iI 0),(iI 0),(iI 0),(iI 0)] [(0,1,(kI 1)),(1,1,(kI 1)),(2,2,52),(4,1,(kI (-1))),(5,1,(kI (-1))),(6,1,(kI (-1)))]), vo 54 (.bsl 78 7 1 [(iI 0),(iI 0),(iI 0),(iI 0),(iI 0),(iI 0),(iI 0)] [(0,7,53)]), vo 55 (.app 78 7 56 47 54), vo 56 (.fld 4 5), vp (.store 1 56 55)]) .skip)) (.seq (rg [vo 57 (.load 10 true 5), vp (.store 10 4 57)]) .ret))))))))
theorem c18 : (Tryz.f18.body.bind fun c => cCode Tryz.prog 58 c) = some v18 := by kernel_rfl
def v149 : VC := (.seq (rg [vo 4 (.mv (kI 0))]) (.seq (rg [vm 5 0, vm 6 1, vo 7 (.call 164 [5,6]), vm 4 7]) .ret))
theorem c149 : (Tryz.f149.body.bind fun c => cCode Tryz.prog 8 c) = some v149 := by kernel_rfl
def v128 : VC := (.seq (rg [vo 2 (.mv (kB false))]) (.seq (rg [vm 3 0, vo 4 (.bin .geq 3 (.con (.c (.imm (.sc (.int .u8 97)))))), vm 5 4, vg 6 5 true (.mv 0), vg 7 5 true (.bin .leq 6 (.con (.c (.imm (.sc (.int .u8 122)))))), vo 8 (.pick 5 7 (kB false)), vm 9 8, vg 10 9 false (.mv 0), vg 11 9 false (.bin .geq 10 (.con (.c (.imm (.sc (.int .u8 65)))))), vg 12 9 false (.mv 11), vg 13 12 true (.mv 0), vg 14 12 true (.bin .leq 13 (.con (.c (.imm (.sc (.int .u8 90)))))), vg 15 9 false (.pick 12 14 (kB false)), vo 16 (.pick 9 (kB true) 15), vm 17 16, vg 18 17 false (.mv 0), vg 19 17 false (.bin .geq 18 (.con (.c (.imm (.sc (.int .u8 48)))))), vg 20 17 false (.mv 19), vg 21 20 true (.mv 0), vg 22 20 true (.bin .leq 21 (.con (.c (.imm (.sc (.int .u8 57)))))), vg 23 17 false (.pick 20 22 (kB false)), vo 24 (.pick 17 (kB true) 23), vm 25 24, vg 26 25 false (.mv 0), vg 27 25 false (.call 149 [(.con (.c (.imm (.sc (.string ⟨#[95,46,58,47,60,62,36,42,126,45]⟩))))),26]), vg 28 25 false (.bin .geq 27 (kI 0)), vo 29 (.pick 25 (kB true) 28), vm 2 29]) .ret))
theorem c128 : (Tryz.f128.body.bind fun c => cCode Tryz.prog 30 c) = some v128 := by kernel_rfl
def v96 : VC := (.seq (rg [vo 2 (.mv (kI 0))]) (.seq (.seq (rg [vm 4 0, vo 5 (.bin .eql 4 (.con (.c iS))), vm 6 5, vg 7 6 false (.mv 0), vg 8 6 false (.lenT 7), vg 9 6 false (.bin .gtr 8 (kI 40)), vo 10 (.pick 6 (kB true) 9)]) (.cond 10 (.seq (rg [vo 2 (.mv (kI 3))]) .ret) .skip)) (.seq (.seq (rg [vm 11 0, vo 12 (.lenT 11), vo 13 (.mv (kI 0))]) (.block 0 (.loop (.seq (rg [vo 14 (.bin .lss 13 12)]) (.seq (.cond 14 .skip (.exit 0)) (.seq (.block 1 (.seq (rg [vm 15 13, vm 3 15]) (.seq (rg [vm 16 0, vm 17 3, vo 18 (.ixS 16 17), vo 19 (.call 128 [18]), vo 20 (.un .not 19)]) (.cond 20 (.seq (rg [vo 2 (.mv (kI 3))]) .ret) .skip)))) (rg [vo 21 (.bin .add 13 (kI 1)), vm 13 21]))))))) (.seq (rg [vo 2 (.mv (kI 0))]) .ret))))
theorem c96 : (Tryz.f96.body.bind fun c => cCode Tryz.prog 22 c) = some v96 := by kernel_rfl
def v95 : VC := (.seq (rg [vo 1 (.box 76 0), vo 2 (.mv (kI 0))]) (.seq (.seq (rg [vo 3 (.fld 0 1), vo 4 (.load 1 false 3), vo 5 (.bin .lss 4 (kI 0)), vm 6 5, vg 7 6 false (.fld 0 1), vg 8 6 false (.load 1 false 7), vg 9 6 false (.bin .gtr 8 (kI 1000000000000000)), vo 10 (.pick 6 (kB true) 9), vm 11 10, vg 12 11 false (.fld 2 1), vg 13 11 false (.load 1 false 12), vg 14 11 false (.bin .lss 13 (kI 0)), vo 15 (.pick 11 (kB true) 14), vm 16 15, vg 17 16 false (.fld 2 1), vg 18 16 false (.load 1 false 17), vg 19 16 false (.bin .geq 18 (kI 8)), vo 20 (.pick 16 (kB true) 19)]) (.cond 20 (.seq (rg [vo 2 (.mv (kI 2))]) .ret) .skip)) (.seq (rg [vo 21 (.fld 1 1), vo 22 (.load 1 false 21), vo 23 (.call 96 [22]), vm 2 23]) .ret)))
theorem c95 : (Tryz.f95.body.bind fun c => cCode Tryz.prog 24 c) = some v95 := by kernel_rfl
def v48 : VC := (.seq (rg [vo 1 (.box 33 0), vo 2 (.mv (.con (.c .nilM))), vo 3 (.mv (kI 0))]) (.seq (.seq (rg [vo 10 (.fld 2 1), vo 11 (.load 1 false 10), vo 12 (.lenS 11), vo 13 (.bin .gtr 12 (kI 64))]) (.cond 13 (.seq (rg [vo 2 (.mv (.con (.c .nilM))), vo 3 (.mv (kI 7))]) .ret) .skip)) (.seq (rg [vo 14 (.mkmap (.int .i64)), vm 4 14]) (.seq (.seq (rg [vo 15 (.fld 2 1), vo 16 (.load 1 false 15), vo 17 (.lenS 16), vo 18 (.mv (kI 0))]) (.block 0 (.loop (.seq (rg [vo 19 (.bin .lss 18 17)]) (.seq (.cond 19 .skip (.exit 0)) (.seq (.block 1 (.seq (rg [vo 20 (.ixA 3 16 18), vo 21 (.load 3 true 20), vo 6 (.alloc 76 [(iI 0),iS,(iI 0)]), vp (.store 3 6 21)]) (.seq (.seq (rg [vo 22 (.load 3 true 6), vo 23 (.call 95 [22]), vm 7 23]) (.seq (rg [vm 24 7, vo 25 (.bin .neq 24 (kI 0))]) (.cond 25 (.seq (rg [vm 26 7, vo 2 (.mv (.con (.c .nilM))), vm 3 26]) .ret) .skip))) (.seq (.seq (rg [vm 28 4, vo 29 (.fld 0 6), vo 30 (.load 1 false 29), vo 31 (.look (.int .i64) (.c iS) true 28 30), vm 27 31, vo 32 (.ext 27 0), vo 33 (.ext 27 1), vm 8 32, vm 9 33]) (.seq (rg [vm 34 9]) (.cond 34 (.seq (rg [vo 2 (.mv (.con (.c .nilM))), vo 3 (.mv (kI 4))]) .ret) .skip))) (rg [vm 35 4, vo 36 (.fld 0 6), vo 37 (.load 1 false 36), vo 38 (.fld 1 6), vo 39 (.load 1 false 38), vp (.mupd (.int .i64) 35 37 39)]))))) (rg [vo 40 (.bin .add 18 (kI 1)), vm 18 40]))))))) (.seq (rg [vm 41 4, vm 2 41, vo 3 (.mv (kI 0))]) .ret)))))
theorem c48 : (Tryz.f48.body.bind fun c => cCode Tryz.prog 42 c) = some v48 := by kernel_rfl
def v87 : VC := (.seq (rg [vo 1 (.box 23 0), vo 2 (.mv (kB false))]) (.seq (rg [vo 3 (.fld 0 1), vo 4 (.load 1 false 3), vo 5 (.bin .geq 4 (kI 0)), vm 6 5, vg 7 6 true (.fld 0 1), vg 8 6 true (.load 1 false 7), vg 9 6 true (.fld 1 1), vg 10 6 true (.load 1 false 9), vg 11 6 true (.bin .lss 8 10), vo 12 (.pick 6 11 (kB false)), vm 13 12, vg 14 13 true (.fld 1 1), vg 15 13 true (.load 1 false 14), vg 16 13 true (.bin .leq 15 (kI 1000000000000)), vo 17 (.pick 13 16 (kB false)), vm 2 17]) .ret))
theorem c87 : (Tryz.f87.body.bind fun c => cCode Tryz.prog 18 c) = some v87 := by kernel_rfl
def v150 : VC := (.seq (rg [vo 2 (.mv (kB false))]) (.seq (rg [vm 3 0, vm 4 0, vo 5 (.bin .neq 3 4), vm 2 5]) .ret))
theorem c150 : (Tryz.f150.body.bind fun c => cCode Tryz.prog 6 c) = some v150 := by kernel_rfl
def v130 : VC := (.seq (rg [vo 4 (.mv (kI 0))]) (.seq (rg [vm 7 0, vo 8 (.call 150 [7]), vm 5 8]) (.seq (rg [vm 9 1, vo 10 (.call 150 [9]), vm 6 10]) (.seq (.seq (rg [vm 11 5]) (.cond 11 (.seq (.seq (rg [vm 12 6]) (.cond 12 (.seq (rg [vo 4 (.mv (kI 0))]) .ret) .skip)) (.seq (rg [vo 4 (.mv (kI (-1)))]) .ret)) .skip)) (.seq (.seq (rg [vm 13 6]) (.cond 13 (.seq (rg [vo 4 (.mv (kI 1))]) .ret) .skip)) (.seq (.seq (rg [vm 14 0, vm 15 1, vo 16 (.bin .lss 14 15)]) (.cond 16 (.seq (rg [vo 4 (.mv (kI (-1)))]) .ret) .skip)) (.seq (.seq (rg [vm 17 0, vm 18 1, vo 19 (.bin .gtr 17 18)]) (.cond 19 (.seq (rg [vo 4 (.mv (kI 1))]) .ret) .skip)) (.seq (rg [vo 4 (.mv (kI 0))]) .ret))))))))
theorem c130 : (Tryz.f130.body.bind fun c => cCode Tryz.prog 20 c) = some v130 := by kernel_rfl
def v129 : VC := (.seq (rg [vo 2 (.mv (kI 0))]) (.seq (rg [vo 3 (.mv (kI 0))]) (.seq (.seq (rg [vm 6 0, vo 7 (.lenS 6), vo 8 (.mv (kI 0))]) (.block 0 (.loop (.seq (rg [vo 9 (.bin .lss 8 7)]) (.seq (.cond 9 .skip (.exit 0)) (.seq (.block 1 (.seq (rg [vo 10 (.ixA 1 6 8), vo 11 (.load 1 false 10), vm 5 11]) (.seq (rg [vm 12 5, vm 13 3, vo 14 (.bin .neq 12 13)]) (.cond 14 (.seq (rg [vm 15 5, vm 2 15]) .ret) .skip)))) (rg [vo 16 (.bin .add 8 (kI 1)), vm 8 16]))))))) (.seq (rg [vm 17 3, vm 2 17]) .ret))))
theorem c129 : (Tryz.f129.body.bind fun c => cCode Tryz.prog 18 c) = some v129 := by kernel_rfl
def v97 : VC := (.seq (rg [vo 2 (.box 47 0), vo 3 (.box 47 1), vo 4 (.mv (kI 0))]) (.seq (.region (some [0,1,3,0,8,24,63,0,128,384,0,1024,3072,8191,0,16384,0,65536,262143,524287,1048575,2097151,0,0,0,0,0,0,0,0,0,0,0,0,0,0,0,0,0,0,0,0,0,0]) [vo 5 (.fld 4 2), vo 6 (.fld 0 5), vo 7 (.load 1 false 6), vo 8 (.fld 4 3), vo 9 (.fld 0 8), vo 10 (.load 1 false 9), vo 11 (.call 130 [7,10]), vo 12 (.fld 4 3), vo 13 (.fld 1 12), vo 14 (.load 1 false 13), vo 15 (.fld 4 2), vo 16 (.fld 1 15), vo 17 (.load 1 false 16), vo 18 (.call 130 [14,17]), vo 19 (.fld 0 2), vo 20 (.load 1 false 19), vo 21 (.fld 0 3), vo 22 (.load 1 false 21), vo 23 (.call 130 [20,22]), vo 24 (.bsl 3 1 3 [(iI 0)] [(0,1,11),(1,1,18),(2,1,23)]), vo 25 (.call 129 [24]), vm 4 25]) .ret))
theorem c97 : (Tryz.f97.body.bind fun c => cCode Tryz.prog 26 c) = some v97 := by kernel_rfl
def v98 : VC := (.seq (rg [vo 2 (.mv (kB false))]) (.seq (.seq (rg [vm 6 0, vo 7 (.lenS 6), vo 8 (.mv (kI 0))]) (.block 0 (.loop (.seq (rg [vo 9 (.bin .lss 8 7)]) (.seq (.cond 9 .skip (.exit 0)) (.seq (.block 1 (.seq (rg [vm 10 8, vo 11 (.ixA 8 6 8), vo 12 (.load 8 true 11), vo 4 (.alloc 47 [(iI 0),(iI 0),(iI 0),iS,(iI 0),(iI 0),(iI 0),(.imm (.sc (.bool false)))]), vm 3 10, vp (.store 8 4 12)]) (.block 2 (.seq (rg [vo 50 (.fld 1 4), vo 51 (.load 1 false 50), vo 52 (.bin .lss 51 (kI (-1))), vm 53 52, vg 54 53 false (.fld 1 4), vg 55 53 false (.load 1 false 54), vg 56 53 false (.mv 3), vg 57 53 false (.bin .geq 55 56), vo 58 (.pick 53 (kB true) 57), vm 49 58]) (.cond 49 (.seq (rg [vo 2 (.mv (kB false))]) .ret) (.seq (rg [vo 60 (.fld 1 4), vo 61 (.load 1 false 60), vo 62 (.bin .eql 61 (kI (-1))), vm 59 62]) (.cond 59 (.seq (rg [vo 63 (.fld 2 4), vo 64 (.load 1 false 63), vo 65 (.bin .neq 64 (kI 0))]) (.cond 65 (.seq (rg [vo 2 (.mv (kB false))]) .ret) .skip)) (.seq (rg [vm 13 0, vo 14 (.fld 1 4), vo 15 (.load 1 false 14), vo 16 (.ixA 8 13 15), vo 17 (.load 8 true 16), vo 5 (.alloc 47 [(iI 0),(iI 0),(iI 0),iS,(iI 0),(iI 0),(iI 0),(.imm (.sc (.bool false)))]), vp (.store 8 5 17)]) (.seq (rg [vo 18 (.fld 0 5), vo 19 (.load 1 false 18), vo 20 (.fld 0 4), vo 21 (.load 1 false 20), vo 22 (.bin .neq 19 21), vm 23 22, vg 24 23 false (.fld 4 5), vg 25 23 false (.fld 0 24), vg 26 23 false (.load 1 false 25), vg 27 23 false (.fld 4 4), vg 28 23 false (.fld 0 27), vg 29 23 false (.load 1 false 28), vg 30 23 false (.bin .gtr 26 29), vo 31 (.pick 23 (kB true) 30), vm 32 31, vg 33 32 false (.fld 4 5), vg 34 32 false (.fld 1 33), vg 35 32 false (.load 1 false 34), vg 36 32 false (.fld 4 4), vg 37 32 false (.fld 1 36), vg 38 32 false (.load 1 false 37), vg 39 32 false (.bin .lss 35 38), vo 40 (.pick 32 (kB true) 39), vm 41 40, vg 42 41 false (.fld 2 4), vg 43 41 false (.load 1 false 42), vg 44 41 false (.fld 2 5), vg 45 41 false (.load 1 false 44), vg 46 41 false (.bin .add 45 (kI 1)), vg 47 41 false (.bin .neq 43 46), vo 48 (.pick 41 (kB true) 47)]) (.cond 48 (.seq (rg [vo 2 (.mv (kB false))]) .ret) .skip)))))))))) (rg [vo 66 (.bin .add 8 (kI 1)), vm 8 66]))))))) (.seq (rg [vo 2 (.mv (kB true))]) .ret)))
theorem c98 : (Tryz.f98.body.bind fun c => cCode Tryz.prog 67 c) = some v98 := by kernel_rfl
def v131 : VC := (.seq (rg [vo 6 (.mv (kB false))]) (.seq (.block 0 (.loop (.seq (.seq (rg [vm 7 2, vo 8 (.bin .geq 7 (kI 0))]) (.cond 8 .skip (.exit 0))) (.seq (.block 1 (.seq (rg [vm 14 1, vm 15 2, vo 16 (.bin .eql 14 15)]) (.cond 16 (.seq (rg [vo 6 (.mv (kB true))]) .ret) .skip))) (rg [vm 9 0, vm 10 2, vo 11 (.ixA 8 9 10), vo 12 (.fld 1 11), vo 13 (.load 1 false 12), vm 2 13]))))) (.seq (rg [vo 6 (.mv (kB false))]) .ret)))
theorem c131 : (Tryz.f131.body.bind fun c => cCode Tryz.prog 17 c) = some v131 := by kernel_rfl
def v99 : VC := (.seq (rg [vo 2 (.mv (kB false))]) (.seq (.seq (rg [vm 8 0, vo 9 (.lenS 8), vo 10 (.mv (kI 0))]) (.block 0 (.loop (.seq (rg [vo 11 (.bin .lss 10 9)]) (.seq (.cond 11 .skip (.exit 0)) (.seq (.block 1 (.seq (rg [vm 12 10, vo 13 (.ixA 8 8 10), vo 14 (.load 8 true 13), vo 4 (.alloc 47 [(iI 0),(iI 0),(iI 0),iS,(iI 0),(iI 0),(iI 0),(.imm (.sc (.bool false)))]), vm 3 12, vp (.store 8 4 14)]) (.seq (rg [vo 15 (.fld 4 4), vo 16 (.fld 1 15), vo 17 (.load 1 false 16), vo 18 (.fld 4 4), vo 19 (.fld 0 18), vo 20 (.load 1 false 19), vo 21 (.bin .sub 17 20), vm 5 21]) (.seq (.seq (rg [vm 22 0, vo 23 (.lenS 22), vo 24 (.mv (kI 0))]) (.block 2 (.loop (.seq (rg [vo 25 (.bin .lss 24 23)]) (.seq (.cond 25 .skip (.exit 2)) (.seq (.block 3 (.seq (rg [vm 26 24, vo 27 (.ixA 8 22 24), vo 28 (.load 8 true 27), vo 7 (.alloc 47 [(iI 0),(iI 0),(iI 0),iS,(iI 0),(iI 0),(iI 0),(.imm (.sc (.bool false)))]), vm 6 26, vp (.store 8 7 28)]) (.seq (.seq (rg [vo 29 (.fld 1 7), vo 30 (.load 1 false 29), vm 31 3, vo 32 (.bin .eql 30 31)]) (.cond 32 (rg [vm 33 5, vo 34 (.fld 4 7), vo 35 (.fld 1 34), vo 36 (.load 1 false 35), vo 37 (.fld 4 7), vo 38 (.fld 0 37), vo 39 (.load 1 false 38), vo 40 (.bin .sub 36 39), vo 41 (.bin .sub 33 40), vm 5 41]) .skip)) (.seq (rg [vm 42 6, vm 43 3, vo 44 (.bin .lss 42 43), vm 45 44, vg 46 45 true (.fld 0 7), vg 47 45 true (.load 1 false 46), vg 48 45 true (.fld 0 4), vg 49 45 true (.load 1 false 48), vg 50 45 true (.bin .eql 47 49), vo 51 (.pick 45 50 (kB false)), vm 52 51, vg 53 52 true (.fld 4 7), vg 54 52 true (.fld 1 53), vg 55 52 true (.load 1 false 54), vg 56 52 true (.fld 4 4), vg 57 52 true (.fld 0 56), vg 58 52 true (.load 1 false 57), vg 59 52 true (.bin .gtr 55 58), vo 60 (.pick 52 59 (kB false)), vm 61 60, vg 62 61 true (.fld 4 4), vg 63 61 true (.fld 1 62), vg 64 61 true (.load 1 false 63), vg 65 61 true (.fld 4 7), vg 66 61 true (.fld 0 65), vg 67 61 true (.load 1 false 66), vg 68 61 true (.bin .gtr 64 67), vo 69 (.pick 61 68 (kB false)), vm 70 69, vg 71 70 true (.mv 0), vg 72 70 true (.mv 6), vg 73 70 true (.mv 3), vg 74 70 true (.call 131 [71,72,73]), vg 75 70 true (.un .not 74), vo 76 (.pick 70 75 (kB false))]) (.cond 76 (.seq (rg [vo 2 (.mv (kB false))]) .ret) .skip))))) (rg [vo 77 (.bin .add 24 (kI 1)), vm 24 77]))))))) (.seq (rg [vo 78 (.fld 6 4), vo 79 (.load 1 false 78), vm 80 5, vo 81 (.bin .neq 79 80)]) (.cond 81 (.seq (rg [vo 2 (.mv (kB false))]) .ret) .skip)))))) (rg [vo 82 (.bin .add 10 (kI 1)), vm 10 82]))))))) (.seq (rg [vo 2 (.mv (kB true))]) .ret)))
theorem c99 : (Tryz.f99.body.bind fun c => cCode Tryz.prog 83 c) = some v99 := by kernel_rfl
def v50 : VC := (.seq (rg [vo 2 (.mv (kI 0))]) (.seq (.seq (rg [vm 6 0, vo 7 (.lenS 6), vo 8 (.mv (kI 0))]) (.block 0 (.loop (.seq (rg [vo 9 (.bin .lss 8 7)]) (.seq (.cond 9 .skip (.exit 0)) (.seq (.block 1 (.seq (rg [vm 10 8, vo 11 (.ixA 8 6 8), vo 12 (.load 8 true 11), vo 4 (.alloc 47 [(iI 0),(iI 0),(iI 0),iS,(iI 0),(iI 0),(iI 0),(.imm (.sc (.bool false)))]), vm 3 10, vp (.store 8 4 12)]) (.seq (.seq (rg [vo 13 (.fld 0 4), vo 14 (.load 1 false 13), vo 15 (.bin .lss 14 (kI 0)), vm 16 15, vg 17 16 false (.fld 0 4), vg 18 16 false (.load 1 false 17), vg 19 16 false (.bin .gtr 18 (kI 1000000000000000)), vo 20 (.pick 16 (kB true) 19), vm 21 20, vg 22 21 false (.fld 4 4), vg 23 21 false (.load 2 true 22), vg 24 21 false (.call 87 [23]), vg 25 21 false (.un .not 24), vo 26 (.pick 21 (kB true) 25)]) (.cond 26 (.seq (rg [vo 2 (.mv (kI 2))]) .ret) .skip)) (.seq (.seq (rg [vo 27 (.fld 3 4), vo 28 (.load 1 false 27), vo 29 (.call 96 [28]), vm 5 29]) (.seq (rg [vm 30 5, vo 31 (.bin .neq 30 (kI 0))]) (.cond 31 (.seq (rg [vm 32 5, vm 2 32]) .ret) .skip))) (.seq (.region (some [0,1,3,7,7,23,63,127,7,511,1023,2047,1,0,0,0,0,0,0,0,0,0,0,0]) [vm 33 3, vo 34 (.bin .gtr 33 (kI 0)), vm 35 34, vg 36 35 true (.mv 0), vg 37 35 true (.mv 3), vg 38 35 true (.bin .sub 37 (kI 1)), vg 39 35 true (.ixA 8 36 38), vg 40 35 true (.load 8 true 39), vg 41 35 true (.load 8 true 4), vg 42 35 true (.call 97 [40,41]), vg 43 35 true (.bin .gtr 42 (kI 0)), vo 44 (.pick 35 43 (kB false))]) (.cond 44 (.seq (rg [vo 2 (.mv (kI 11))]) .ret) .skip)))))) (rg [vo 45 (.bin .add 8 (kI 1)), vm 8 45]))))))) (.seq (.seq (rg [vm 46 0, vo 47 (.call 98 [46]), vo 48 (.un .not 47), vm 49 48, vg 50 49 false (.mv 0), vg 51 49 false (.call 99 [50]), vg 52 49 false (.un .not 51), vo 53 (.pick 49 (kB true) 52)]) (.cond 53 (.seq (rg [vo 2 (.mv (kI 10))]) .ret) .skip)) (.seq (rg [vo 2 (.mv (kI 0))]) .ret))))
theorem c50 : (Tryz.f50.body.bind fun c => cCode Tryz.prog 54 c) = some v50 := by kernel_rfl
def v51 : VC := (.seq (rg [vo 1 (.box 47 0), vo 2 (.mv (kI 0))]) (.seq (rg [vo 3 (.fld 0 1), vo 4 (.load 1 false 3), vm 2 4]) .ret))
theorem c51 : (Tryz.f51.body.bind fun c => cCode Tryz.prog 5 c) = some v51 := by kernel_rfl
def v49 : VC := (.seq (rg [vo 8 (.mv (kI 0))]) (.seq (.seq (rg [vm 13 0, vo 14 (.bin .neq 13 (kI 0))]) (.cond 14 (.seq (rg [vm 15 0, vm 8 15]) .ret) .skip)) (.seq (.seq (rg [vm 16 2, vo 17 (.lenS 16), vo 18 (.mv (kI 0))]) (.block 0 (.loop (.seq (rg [vo 19 (.bin .lss 18 17)]) (.seq (.cond 19 .skip (.exit 0)) (.seq (.block 1 (.seq (rg [vo 20 (.ixA 8 16 18), vo 21 (.load 8 true 20), vo 10 (.alloc 47 [(iI 0),(iI 0),(iI 0),iS,(iI 0),(iI 0),(iI 0),(.imm (.sc (.bool false)))]), vp (.store 8 10 21)]) (.seq (rg [vm 23 1, vm 24 3, vo 25 (.load 8 true 10), vo 26 (.callv 24 [25]), vo 27 (.look (.int .i64) (.c iS) true 23 26), vm 22 27, vo 28 (.ext 22 0), vo 29 (.ext 22 1), vm 11 28, vm 12 29]) (.seq (rg [vm 30 12, vo 31 (.un .not 30)]) (.cond 31 (.seq (rg [vo 8 (.mv (kI 5))]) .ret) .skip))))) (rg [vo 32 (.bin .add 18 (kI 1)), vm 18 32]))))))) (.seq (rg [vo 8 (.mv (kI 0))]) .ret))))
theorem c49 : (Tryz.f49.body.bind fun c => cCode Tryz.prog 33 c) = some v49 := by kernel_rfl
def v101 : VC := (.seq (rg [vo 4 (.mv (kI 0))]) (.seq (.seq (rg [vm 6 0, vo 7 (.lenS 6), vo 8 (.mv (kI 0))]) (.block 0 (.loop (.seq (rg [vo 9 (.bin .lss 8 7)]) (.seq (.cond 9 .skip (.exit 0)) (.seq (.block 1 (.seq (rg [vm 10 8, vm 5 10]) (.seq (rg [vm 11 1, vm 12 0, vm 13 5, vo 14 (.ixA 1 12 13), vo 15 (.load 1 false 14), vo 16 (.bin .eql 11 15)]) (.cond 16 (.seq (rg [vm 17 5, vm 4 17]) .ret) .skip)))) (rg [vo 18 (.bin .add 8 (kI 1)), vm 8 18]))))))) (.seq (rg [vo 4 (.mv (kI (-1)))]) .ret)))
theorem c101 : (Tryz.f101.body.bind fun c => cCode Tryz.prog 19 c) = some v101 := by kernel_rfl
def v132 : VC := (.seq (rg [vo 4 (.mv (kB false))]) (.seq (rg [vm 5 0, vm 6 1, vo 7 (.call 101 [5,6]), vo 8 (.bin .geq 7 (kI 0)), vm 4 8]) .ret))
theorem c132 : (Tryz.f132.body.bind fun c => cCode Tryz.prog 9 c) = some v132 := by kernel_rfl
def v100 : VC := (.seq (rg [vo 2 (.mv (.con (.c .nilS)))]) (.seq (rg [vo 3 (.mv (.con (.c .nilS)))]) (.seq (.seq (rg [vm 6 0, vo 7 (.lenS 6), vo 8 (.mv (kI 0))]) (.block 0 (.loop (.seq (rg [vo 9 (.bin .lss 8 7)]) (.seq (.cond 9 .skip (.exit 0)) (.seq (.block 1 (.seq (rg [vo 10 (.ixA 3 6 8), vo 11 (.load 3 true 10), vo 5 (.alloc 76 [(iI 0),iS,(iI 0)]), vp (.store 3 5 11)]) (.seq (rg [vm 12 3, vo 13 (.fld 0 5), vo 14 (.load 1 false 13), vo 15 (.call 132 [12,14]), vo 16 (.un .not 15)]) (.cond 16 (rg [vm 17 3, vo 18 (.fld 0 5), vo 19 (.load 1 false 18), vo 20 (.bsl 3 1 1 [(iI 0)] [(0,1,19)]), vo 21 (.app 3 1 8 17 20), vm 3 21]) .skip)))) (rg [vo 22 (.bin .add 8 (kI 1)), vm 8 22]))))))) (.seq (rg [vm 23 3, vm 2 23]) .ret))))
theorem c100 : (Tryz.f100.body.bind fun c => cCode Tryz.prog 24 c) = some v100 := by kernel_rfl
def v102 : VC := (.seq (rg [vo 1 (.box 78 0), vo 2 (.mv (kB false))]) (.seq (rg [vo 4 (.fld 1 1), vo 5 (.load 1 false 4), vo 6 (.bin .eql 5 (kI 1)), vm 7 6, vg 8 7 false (.fld 1 1), vg 9 7 false (.load 1 false 8), vg 10 7 false (.bin .eql 9 (kI 2)), vo 11 (.pick 7 (kB true) 10), vm 3 11]) (.seq (.block 0 (.seq (rg [vo 13 (.fld 1 1), vo 14 (.load 1 false 13), vo 15 (.bin .lss 14 (kI 0)), vm 16 15, vg 17 16 false (.fld 1 1), vg 18 16 false (.load 1 false 17), vg 19 16 false (.bin .gtr 18 (kI 5)), vo 20 (.pick 16 (kB true) 19), vm 12 20]) (.cond 12 (.seq (rg [vo 2 (.mv (kB false))]) .ret) (.seq (.seq (rg [vo 22 (.fld 1 1), vo 23 (.load 1 false 22), vo 24 (.bin .eql 23 (kI 4)), vm 25 24, vg 26 25 true (.fld 4 1), vg 27 25 true (.load 1 false 26), vg 28 25 true (.bin .lss 27 (kI 0)), vg 29 25 true (.mv 28), vg 30 29 false (.fld 4 1), vg 31 29 false (.load 1 false 30), vg 32 29 false (.bin .geq 31 (kI 64)), vg 33 25 true (.pick 29 (kB true) 32), vo 34 (.pick 25 33 (kB false)), vm 21 34]) (.cond 21 .skip (rg [vo 35 (.fld 1 1), vo 36 (.load 1 false 35), vo 37 (.bin .neq 36 (kI 4)), vm 38 37, vg 39 38 true (.fld 4 1), vg 40 38 true (.load 1 false 39), vg 41 38 true (.bin .neq 40 (kI (-1))), vo 42 (.pick 38 41 (kB false)), vm 21 42]))) (.cond 21 (.seq (rg [vo 2 (.mv (kB false))]) .ret) (.seq (.seq (rg [vo 44 (.fld 1 1), vo 45 (.load 1 false 44), vo 46 (.bin .eql 45 (kI 2)), vm 47 46, vg 48 47 true (.fld 5 1), vg 49 47 true (.load 1 false 48), vg 50 47 true (.bin .lss 49 (kI 0)), vg 51 47 true (.mv 50), vg 52 51 false (.fld 5 1), vg 53 51 false (.load 1 false 52), vg 54 51 false (.bin .gtr 53 (kI 1000000000000000)), vg 55 47 true (.pick 51 (kB true) 54), vo 56 (.pick 47 55 (kB false)), vm 43 56]) (.cond 43 .skip (rg [vo 57 (.fld 1 1), vo 58 (.load 1 false 57), vo 59 (.bin .neq 58 (kI 2)), vm 60 59, vg 61 60 true (.fld 5 1), vg 62 60 true (.load 1 false 61), vg 63 60 true (.bin .neq 62 (kI (-1))), vo 64 (.pick 60 63 (kB false)), vm 43 64]))) (.cond 43 (.seq (rg [vo 2 (.mv (kB false))]) .ret) .skip))))))) (.seq (rg [vo 65 (.fld 6 1), vo 66 (.load 1 false 65), vo 67 (.bin .eql 66 (kI (-1))), vm 68 67, vg 69 68 false (.mv 3), vg 70 68 false (.mv 69), vg 71 70 true (.fld 6 1), vg 72 70 true (.load 1 false 71), vg 73 70 true (.bin .geq 72 (kI 0)), vg 74 68 false (.pick 70 73 (kB false)), vg 75 68 false (.mv 74), vg 76 75 true (.fld 6 1), vg 77 75 true (.load 1 false 76), vg 78 75 true (.bin .leq 77 (kI 1000000000000000)), vg 79 68 false (.pick 75 78 (kB false)), vo 80 (.pick 68 (kB true) 79), vm 2 80]) .ret))))
theorem c102 : (Tryz.f102.body.bind fun c => cCode Tryz.prog 81 c) = some v102 := by kernel_rfl
def v103 : VC := (.seq (rg [vo 2 (.box 78 0), vo 3 (.box 78 1), vo 4 (.mv (kB false))]) (.seq (rg [vo 5 (.fld 1 2), vo 6 (.load 1 false 5), vo 7 (.fld 1 3), vo 8 (.load 1 false 7), vo 9 (.bin .eql 6 8), vm 10 9, vg 11 10 true (.fld 4 2), vg 12 10 true (.load 1 false 11), vg 13 10 true (.fld 4 3), vg 14 10 true (.load 1 false 13), vg 15 10 true (.bin .eql 12 14), vo 16 (.pick 10 15 (kB false)), vm 17 16, vg 18 17 true (.fld 5 2), vg 19 17 true (.load 1 false 18), vg 20 17 true (.fld 5 3), vg 21 17 true (.load 1 false 20), vg 22 17 true (.bin .eql 19 21), vo 23 (.pick 17 22 (kB false)), vm 4 23]) .ret))
theorem c103 : (Tryz.f103.body.bind fun c => cCode Tryz.prog 24 c) = some v103 := by kernel_rfl
def v52 : VC := (.seq (rg [vo 4 (.mv (kI 0))]) (.seq (rg [vm 14 0, vo 15 (.call 100 [14]), vm 5 15]) (.seq (rg [vo 6 (.mv (kI (-1)))]) (.seq (.seq (rg [vm 16 1, vo 17 (.lenS 16), vo 18 (.mv (kI 0))]) (.block 0 (.loop (.seq (rg [vo 19 (.bin .lss 18 17)]) (.seq (.cond 19 .skip (.exit 0)) (.seq (.block 1 (.seq (rg [vm 20 18, vo 21 (.ixA 7 16 18), vo 22 (.load 7 true 21), vo 8 (.alloc 78 [(iI 0),(iI 0),(iI 0),(iI 0),(iI 0),(iI 0),(iI 0)]), vm 7 20, vp (.store 7 8 22)]) (.seq (rg [vm 23 5, vo 24 (.fld 0 8), vo 25 (.load 1 false 24), vo 26 (.call 101 [23,25]), vm 9 26]) (.seq (.block 2 (.seq (rg [vm 28 9, vo 29 (.bin .lss 28 (kI 0)), vm 27 29]) (.cond 27 (.seq (rg [vo 4 (.mv (kI 5))]) .ret) (.seq (rg [vo 31 (.fld 2 8), vo 32 (.load 2 true 31), vo 33 (.call 87 [32]), vo 34 (.un .not 33), vm 30 34]) (.cond 30 (.seq (rg [vo 4 (.mv (kI 2))]) .ret) (.seq (rg [vo 36 (.load 7 true 8), vo 37 (.call 102 [36]), vo 38 (.un .not 37), vm 35 38]) (.cond 35 (.seq (rg [vo 4 (.mv (kI 1))]) .ret) (.seq (.region (some [0,0,3,7,15,31,63,15,15,271,911,1935,3983,8079,16383,32767,65535,65535,65535,327679,983039,2031615,4194303,8388607,16777215,33554431,1,1,0,0,0,0,0,0,0,0,0,0,0,0,0,0,0,0,0,0,0,0,0,0,0,0]) [vm 40 9, vm 41 6, vo 42 (.bin .eql 40 41), vm 43 42, vg 44 43 true (.fld 2 8), vg 45 43 true (.fld 0 44), vg 46 43 true (.load 1 false 45), vg 47 43 true (.mv 1), vg 48 43 true (.mv 7), vg 49 43 true (.bin .sub 48 (kI 1)), vg 50 43 true (.ixA 7 47 49), vg 51 43 true (.fld 2 50), vg 52 43 true (.fld 1 51), vg 53 43 true (.load 1 false 52), vg 54 43 true (.bin .neq 46 53), vg 55 43 true (.mv 54), vg 56 55 false (.load 7 true 8), vg 57 55 false (.mv 1), vg 58 55 false (.mv 7), vg 59 55 false (.bin .sub 58 (kI 1)), vg 60 55 false (.ixA 7 57 59), vg 61 55 false (.load 7 true 60), vg 62 55 false (.call 103 [56,61]), vg 63 43 true (.pick 55 (kB true) 62), vo 64 (.pick 43 63 (kB false)), vm 39 64]) (.cond 39 (.seq (rg [vo 4 (.mv (kI 11))]) .ret) (.seq (rg [vm 66 9, vm 67 6, vo 68 (.bin .neq 66 67), vm 69 68, vg 70 69 true (.mv 9), vg 71 69 true (.mv 6), vg 72 69 true (.bin .add 71 (kI 1)), vg 73 69 true (.bin .neq 70 72), vg 74 69 true (.mv 73), vg 75 74 false (.fld 2 8), vg 76 74 false (.fld 0 75), vg 77 74 false (.load 1 false 76), vg 78 74 false (.bin .neq 77 (kI 0)), vg 79 69 true (.pick 74 (kB true) 78), vo 80 (.pick 69 79 (kB false)), vm 65 80]) (.cond 65 (.seq (rg [vo 4 (.mv (kI 11))]) .ret) .skip))))))))))) (rg [vm 81 9, vm 6 81]))))) (rg [vo 82 (.bin .add 18 (kI 1)), vm 18 82]))))))) (.seq (.seq (rg [vm 83 1, vo 84 (.lenS 83), vo 85 (.bin .eql 84 (kI 0))]) (.cond 85 (.seq (rg [vo 4 (.mv (kI 0))]) .ret) .skip)) (.seq (rg [vm 86 1, vm 87 1, vo 88 (.lenS 87), vo 89 (.bin .sub 88 (kI 1)), vo 90 (.ixA 7 86 89), vo 91 (.fld 2 90), vo 92 (.fld 1 91), vo 93 (.load 1 false 92), vm 10 93]) (.seq (.seq (rg [vm 94 1, vo 95 (.lenS 94), vo 96 (.mv (kI 0))]) (.block 3 (.loop (.seq (rg [vo 97 (.bin .lss 96 95)]) (.seq (.cond 97 .skip (.exit 3)) (.seq (.block 4 (.seq (rg [vm 98 96, vo 99 (.ixA 7 94 96), vo 100 (.load 7 true 99), vo 12 (.alloc 78 [(iI 0),(iI 0),(iI 0),(iI 0),(iI 0),(iI 0),(iI 0)]), vm 11 98, vp (.store 7 12 100)]) (.seq (.region (some [0,1,0,4,15,31,63,63,191,511,1023,2047,63,4159,16383,32767,65535,1,0,1,0,0,0,0,0,0,0,0,0,0,0,0,0,0]) [vm 101 11, vo 102 (.bin .add 101 (kI 1)), vm 103 1, vo 104 (.lenS 103), vo 105 (.bin .eql 102 104), vm 106 105, vg 107 106 false (.mv 1), vg 108 106 false (.mv 11), vg 109 106 false (.bin .add 108 (kI 1)), vg 110 106 false (.ixA 7 107 109), vg 111 106 false (.fld 0 110), vg 112 106 false (.load 1 false 111), vg 113 106 false (.fld 0 12), vg 114 106 false (.load 1 false 113), vg 115 106 false (.bin .neq 112 114), vo 116 (.pick 106 (kB true) 115), vm 13 116]) (.seq (rg [vm 117 13, vm 118 117, vg 119 118 true (.fld 2 12), vg 120 118 true (.fld 1 119), vg 121 118 true (.load 1 false 120), vg 122 118 true (.mv 10), vg 123 118 true (.bin .neq 121 122), vo 124 (.pick 118 123 (kB false))]) (.cond 124 (.seq (rg [vo 4 (.mv (kI 11))]) .ret) .skip))))) (rg [vo 125 (.bin .add 96 (kI 1)), vm 96 125]))))))) (.seq (.seq (rg [vm 126 6, vo 127 (.bin .add 126 (kI 1)), vm 128 5, vo 129 (.lenS 128), vo 130 (.bin .neq 127 129)]) (.cond 130 (.seq (rg [vo 4 (.mv (kI 11))]) .ret) .skip)) (.seq (rg [vo 4 (.mv (kI 0))]) .ret)))))))))
theorem c52 : (Tryz.f52.body.bind fun c => cCode Tryz.prog 131 c) = some v52 := by kernel_rfl
def v104 : VC := (.seq (rg [vo 4 (.mv (kB false))]) (.seq (rg [vm 5 0, vo 6 (.bin .lss 5 (kI 0)), vm 7 6, vg 8 7 false (.mv 0), vg 9 7 false (.mv 1), vg 10 7 false (.bin .gtr 8 9), vo 11 (.pick 7 (kB true) 10), vm 4 11]) .ret))
theorem c104 : (Tryz.f104.body.bind fun c => cCode Tryz.prog 12 c) = some v104 := by kernel_rfl
def v54 : VC := (.seq (rg [vo 2 (.mv (kI 0))]) (.seq (.seq (rg [vm 5 0, vo 6 (.lenS 5), vo 7 (.mv (kI 0))]) (.block 0 (.loop (.seq (rg [vo 8 (.bin .lss 7 6)]) (.seq (.cond 8 .skip (.exit 0)) (.seq (.block 1 (.seq (rg [vm 9 7, vo 10 (.ixA 7 5 7), vo 11 (.load 7 true 10), vo 4 (.alloc 88 [(iI 0),(iI 0),(iI 0),(iI 0),(iI 0),(iI 0),(iI 0)]), vm 3 9, vp (.store 7 4 11)]) (.block 2 (.seq (.seq (rg [vo 13 (.fld 0 4), vo 14 (.load 1 false 13), vo 15 (.call 104 [14,(kI 1000000000000000)]), vm 12 15]) (.cond 12 .skip (.seq (rg [vo 16 (.fld 1 4), vo 17 (.fld 0 16), vo 18 (.load 1 false 17), vo 19 (.call 104 [18,(kI 1000000000000000)]), vm 12 19]) (.cond 12 .skip (.seq (rg [vo 20 (.fld 1 4), vo 21 (.fld 1 20), vo 22 (.load 1 false 21), vo 23 (.call 104 [22,(kI 1000000000000000)]), vm 12 23]) (.cond 12 .skip (.seq (rg [vo 24 (.fld 3 4), vo 25 (.fld 0 24), vo 26 (.load 1 false 25), vo 27 (.call 104 [26,(kI 1000000000000000)]), vm 12 27]) (.cond 12 .skip (.seq (rg [vo 28 (.fld 3 4), vo 29 (.fld 1 28), vo 30 (.load 1 false 29), vo 31 (.call 104 [30,(kI 1000000000000000)]), vm 12 31]) (.cond 12 .skip (.seq (rg [vo 32 (.fld 5 4), vo 33 (.load 1 false 32), vo 34 (.call 104 [33,(kI 1000000000000)]), vm 12 34]) (.cond 12 .skip (rg [vo 35 (.fld 6 4), vo 36 (.load 1 false 35), vo 37 (.call 104 [36,(kI 1000000000000)]), vm 12 37]))))))))))))) (.cond 12 (.seq (rg [vo 2 (.mv (kI 2))]) .ret) (.seq (.seq (rg [vo 39 (.fld 5 4), vo 40 (.load 1 false 39), vo 41 (.fld 6 4), vo 42 (.load 1 false 41), vo 43 (.bin .gtr 40 42), vm 38 43]) (.cond 38 .skip (.region (some [0,1,3,7,15,7,7,71,231,487,999,2047,4095,8191,1,0,0,0,0,0,0,0,0,0,0,0,0,0]) [vm 44 3, vo 45 (.bin .gtr 44 (kI 0)), vm 46 45, vg 47 46 true (.fld 6 4), vg 48 46 true (.load 1 false 47), vg 49 46 true (.mv 0), vg 50 46 true (.mv 3), vg 51 46 true (.bin .sub 50 (kI 1)), vg 52 46 true (.ixA 7 49 51), vg 53 46 true (.fld 6 52), vg 54 46 true (.load 1 false 53), vg 55 46 true (.bin .lss 48 54), vo 56 (.pick 46 55 (kB false)), vm 38 56]))) (.cond 38 (.seq (rg [vo 2 (.mv (kI 11))]) .ret) .skip))))))) (rg [vo 57 (.bin .add 7 (kI 1)), vm 7 57]))))))) (.seq (rg [vo 2 (.mv (kI 0))]) .ret)))
theorem c54 : (Tryz.f54.body.bind fun c => cCode Tryz.prog 58 c) = some v54 := by kernel_rfl
def v55 : VC := (.seq (rg [vo 1 (.box 88 0), vo 2 (.mv (kI 0))]) (.seq (rg [vo 3 (.fld 1 1), vo 4 (.fld 0 3), vo 5 (.load 1 false 4), vm 2 5]) .ret))
theorem c55 : (Tryz.f55.body.bind fun c => cCode Tryz.prog 6 c) = some v55 := by kernel_rfl
def v53 : VC := (.seq (rg [vo 8 (.mv (kI 0))]) (.seq (.seq (rg [vm 13 0, vo 14 (.bin .neq 13 (kI 0))]) (.cond 14 (.seq (rg [vm 15 0, vm 8 15]) .ret) .skip)) (.seq (.seq (rg [vm 16 2, vo 17 (.lenS 16), vo 18 (.mv (kI 0))]) (.block 0 (.loop (.seq (rg [vo 19 (.bin .lss 18 17)]) (.seq (.cond 19 .skip (.exit 0)) (.seq (.block 1 (.seq (rg [vo 20 (.ixA 7 16 18), vo 21 (.load 7 true 20), vo 10 (.alloc 88 [(iI 0),(iI 0),(iI 0),(iI 0),(iI 0),(iI 0),(iI 0)]), vp (.store 7 10 21)]) (.seq (rg [vm 23 1, vm 24 3, vo 25 (.load 7 true 10), vo 26 (.callv 24 [25]), vo 27 (.look (.int .i64) (.c iS) true 23 26), vm 22 27, vo 28 (.ext 22 0), vo 29 (.ext 22 1), vm 11 28, vm 12 29]) (.seq (rg [vm 30 12, vo 31 (.un .not 30)]) (.cond 31 (.seq (rg [vo 8 (.mv (kI 5))]) .ret) .skip))))) (rg [vo 32 (.bin .add 18 (kI 1)), vm 18 32]))))))) (.seq (rg [vo 8 (.mv (kI 0))]) .ret))))
theorem c53 : (Tryz.f53.body.bind fun c => cCode Tryz.prog 33 c) = some v53 := by kernel_rfl
def v56 : VC := (.seq (rg [vo 1 (.box 88 0), vo 2 (.mv (kI 0))]) (.seq (rg [vo 3 (.fld 3 1), vo 4 (.fld 0 3), vo 5 (.load 1 false 4), vm 2 5]) .ret))
theorem c56 : (Tryz.f56.body.bind fun c => cCode Tryz.prog 6 c) = some v56 := by kernel_rfl
def v105 : VC := (.seq (rg [vo 1 (.box 90 0), vo 2 (.mv (kB false))]) (.seq (rg [vo 3 (.fld 0 1), vo 4 (.load 1 false 3), vo 5 (.bin .geq 4 (kI 0)), vm 6 5, vg 7 6 true (.fld 0 1), vg 8 6 true (.load 1 false 7), vg 9 6 true (.bin .leq 8 (kI 1000000000000000)), vo 10 (.pick 6 9 (kB false)), vm 11 10, vg 12 11 true (.fld 1 1), vg 13 11 true (.load 1 false 12), vg 14 11 true (.bin .geq 13 (kI 0)), vo 15 (.pick 11 14 (kB false)), vm 16 15, vg 17 16 true (.fld 1 1), vg 18 16 true (.load 1 false 17), vg 19 16 true (.bin .leq 18 (kI 1000000000000)), vo 20 (.pick 16 19 (kB false)), vm 21 20, vg 22 21 true (.fld 2 1), vg 23 21 true (.load 1 false 22), vg 24 21 true (.bin .geq 23 (kI 1)), vo 25 (.pick 21 24 (kB false)), vm 26 25, vg 27 26 true (.fld 2 1), vg 28 26 true (.load 1 false 27), vg 29 26 true (.bin .leq 28 (kI 1000000000000)), vo 30 (.pick 26 29 (kB false)), vm 2 30]) .ret))
theorem c105 : (Tryz.f105.body.bind fun c => cCode Tryz.prog 31 c) = some v105 := by kernel_rfl
def v106 : VC := (.seq (rg [vo 2 (.mv (kI 0))]) (.seq (.seq (rg [vm 6 0, vo 7 (.lenS 6), vo 8 (.bin .gtr 7 (kI 32))]) (.cond 8 (.seq (rg [vo 2 (.mv (kI 7))]) .ret) .skip)) (.seq (.seq (rg [vm 9 0, vo 10 (.lenS 9), vo 11 (.mv (kI 0))]) (.block 0 (.loop (.seq (rg [vo 12 (.bin .lss 11 10)]) (.seq (.cond 12 .skip (.exit 0)) (.seq (.block 1 (.seq (rg [vo 13 (.ixA 1 9 11), vo 14 (.load 1 false 13), vm 4 14]) (.seq (rg [vm 15 4, vo 16 (.call 96 [15]), vm 5 16]) (.seq (rg [vm 17 5, vo 18 (.bin .neq 17 (kI 0))]) (.cond 18 (.seq (rg [vm 19 5, vm 2 19]) .ret) .skip))))) (rg [vo 20 (.bin .add 11 (kI 1)), vm 11 20]))))))) (.seq (rg [vo 2 (.mv (kI 0))]) .ret))))
theorem c106 : (Tryz.f106.body.bind fun c => cCode Tryz.prog 21 c) = some v106 := by kernel_rfl
def v58 : VC := (.seq (rg [vo 2 (.mv (kI 0))]) (.seq (.seq (rg [vm 6 0, vo 7 (.lenS 6), vo 8 (.mv (kI 0))]) (.block 0 (.loop (.seq (rg [vo 9 (.bin .lss 8 7)]) (.seq (.cond 9 .skip (.exit 0)) (.seq (.block 1 (.seq (rg [vm 10 8, vo 11 (.ixA 4 6 8), vo 12 (.load 4 true 11), vo 4 (.alloc 90 [(iI 0),(iI 0),(iI 0),.nilS]), vm 3 10, vp (.store 4 4 12)]) (.seq (.seq (rg [vo 13 (.load 4 true 4), vo 14 (.call 105 [13]), vo 15 (.un .not 14)]) (.cond 15 (.seq (rg [vo 2 (.mv (kI 2))]) .ret) .skip)) (.seq (.seq (rg [vo 16 (.fld 3 4), vo 17 (.load 1 false 16), vo 18 (.call 106 [17]), vm 5 18]) (.seq (rg [vm 19 5, vo 20 (.bin .neq 19 (kI 0))]) (.cond 20 (.seq (rg [vm 21 5, vm 2 21]) .ret) .skip))) (.seq (.region (some [0,1,3,7,15,7,7,71,231,487,999,2047,4095,1,0,0,0,0,0,0,0,0,0,0,0,0]) [vm 22 3, vo 23 (.bin .gtr 22 (kI 0)), vm 24 23, vg 25 24 true (.fld 1 4), vg 26 24 true (.load 1 false 25), vg 27 24 true (.mv 0), vg 28 24 true (.mv 3), vg 29 24 true (.bin .sub 28 (kI 1)), vg 30 24 true (.ixA 4 27 29), vg 31 24 true (.fld 1 30), vg 32 24 true (.load 1 false 31), vg 33 24 true (.bin .lss 26 32), vo 34 (.pick 24 33 (kB false))]) (.cond 34 (.seq (rg [vo 2 (.mv (kI 11))]) .ret) .skip)))))) (rg [vo 35 (.bin .add 8 (kI 1)), vm 8 35]))))))) (.seq (rg [vo 2 (.mv (kI 0))]) .ret)))
theorem c58 : (Tryz.f58.body.bind fun c => cCode Tryz.prog 36 c) = some v58 := by kernel_rfl
def v59 : VC := (.seq (rg [vo 1 (.box 90 0), vo 2 (.mv (kI 0))]) (.seq (rg [vo 3 (.fld 0 1), vo 4 (.load 1 false 3), vm 2 4]) .ret))
theorem c59 : (Tryz.f59.body.bind fun c => cCode Tryz.prog 5 c) = some v59 := by kernel_rfl
def v57 : VC := (.seq (rg [vo 8 (.mv (kI 0))]) (.seq (.seq (rg [vm 13 0, vo 14 (.bin .neq 13 (kI 0))]) (.cond 14 (.seq (rg [vm 15 0, vm 8 15]) .ret) .skip)) (.seq (.seq (rg [vm 16 2, vo 17 (.lenS 16), vo 18 (.mv (kI 0))]) (.block 0 (.loop (.seq (rg [vo 19 (.bin .lss 18 17)]) (.seq (.cond 19 .skip (.exit 0)) (.seq (.block 1 (.seq (rg [vo 20 (.ixA 4 16 18), vo 21 (.load 4 true 20), vo 10 (.alloc 90 [(iI 0),(iI 0),(iI 0),.nilS]), vp (.store 4 10 21)]) (.seq (rg [vm 23 1, vm 24 3, vo 25 (.load 4 true 10), vo 26 (.callv 24 [25]), vo 27 (.look (.int .i64) (.c iS) true 23 26), vm 22 27, vo 28 (.ext 22 0), vo 29 (.ext 22 1), vm 11 28, vm 12 29]) (.seq (rg [vm 30 12, vo 31 (.un .not 30)]) (.cond 31 (.seq (rg [vo 8 (.mv (kI 5))]) .ret) .skip))))) (rg [vo 32 (.bin .add 18 (kI 1)), vm 18 32]))))))) (.seq (rg [vo 8 (.mv (kI 0))]) .ret))))
theorem c57 : (Tryz.f57.body.bind fun c => cCode Tryz.prog 33 c) = some v57 := by kernel_rfl
def v107 : VC := (.seq (rg [vo 2 (.mv (kB false))]) (.seq (rg [vm 3 0, vo 4 (.bin .geq 3 (kI (-1000000000000000))), vm 5 4, vg 6 5 true (.mv 0), vg 7 5 true (.bin .leq 6 (kI 1000000000000000)), vo 8 (.pick 5 7 (kB false)), vm 2 8]) .ret))
theorem c107 : (Tryz.f107.body.bind fun c => cCode Tryz.prog 9 c) = some v107 := by kernel_rfl
def v151 : VC := (.seq (rg [vo 2 (.mv (kB false))]) (.seq (rg [vm 3 0, vm 4 0, vo 5 (.bin .neq 3 4), vm 2 5]) .ret))
theorem c151 : (Tryz.f151.body.bind fun c => cCode Tryz.prog 6 c) = some v151 := by kernel_rfl
def v133 : VC := (.seq (rg [vo 4 (.mv (kI 0))]) (.seq (rg [vm 7 0, vo 8 (.call 151 [7]), vm 5 8]) (.seq (rg [vm 9 1, vo 10 (.call 151 [9]), vm 6 10]) (.seq (.seq (rg [vm 11 5]) (.cond 11 (.seq (.seq (rg [vm 12 6]) (.cond 12 (.seq (rg [vo 4 (.mv (kI 0))]) .ret) .skip)) (.seq (rg [vo 4 (.mv (kI (-1)))]) .ret)) .skip)) (.seq (.seq (rg [vm 13 6]) (.cond 13 (.seq (rg [vo 4 (.mv (kI 1))]) .ret) .skip)) (.seq (.seq (rg [vm 14 0, vm 15 1, vo 16 (.bin .lss 14 15)]) (.cond 16 (.seq (rg [vo 4 (.mv (kI (-1)))]) .ret) .skip)) (.seq (.seq (rg [vm 17 0, vm 18 1, vo 19 (.bin .gtr 17 18)]) (.cond 19 (.seq (rg [vo 4 (.mv (kI 1))]) .ret) .skip)) (.seq (rg [vo 4 (.mv (kI 0))]) .ret))))))))
theorem c133 : (Tryz.f133.body.bind fun c => cCode Tryz.prog 20 c) = some v133 := by kernel_rfl
def v108 : VC := (.seq (rg [vo 2 (.box 92 0), vo 3 (.box 92 1), vo 4 (.mv (kI 0))]) (.seq (.region (some [0,1,0,4,15,0,32,0,128,511,1023,2047,4095,0,0,0,0,0,0,0,0,0,0,0,0,0]) [vo 5 (.fld 0 2), vo 6 (.load 1 false 5), vo 7 (.fld 0 3), vo 8 (.load 1 false 7), vo 9 (.call 133 [6,8]), vo 10 (.fld 1 2), vo 11 (.load 1 false 10), vo 12 (.fld 1 3), vo 13 (.load 1 false 12), vo 14 (.call 130 [11,13]), vo 15 (.bsl 3 1 2 [(iI 0)] [(0,1,9),(1,1,14)]), vo 16 (.call 129 [15]), vm 4 16]) .ret))
theorem c108 : (Tryz.f108.body.bind fun c => cCode Tryz.prog 17 c) = some v108 := by kernel_rfl
def v60 : VC := (.seq (rg [vo 2 (.mv (kI 0))]) (.seq (.seq (rg [vm 6 0, vo 7 (.lenS 6), vo 8 (.mv (kI 0))]) (.block 0 (.loop (.seq (rg [vo 9 (.bin .lss 8 7)]) (.seq (.cond 9 .skip (.exit 0)) (.seq (.block 1 (.seq (rg [vm 10 8, vo 11 (.ixA 3 6 8), vo 12 (.load 3 true 11), vo 4 (.alloc 92 [iS,(iI 0),(iI 0)]), vm 3 10, vp (.store 3 4 12)]) (.seq (.seq (rg [vo 13 (.fld 0 4), vo 14 (.load 1 false 13), vo 15 (.call 96 [14]), vm 5 15]) (.seq (rg [vm 16 5, vo 17 (.bin .neq 16 (kI 0))]) (.cond 17 (.seq (rg [vm 18 5, vm 2 18]) .ret) .skip))) (.seq (.seq (rg [vo 19 (.fld 1 4), vo 20 (.load 1 false 19), vo 21 (.bin .lss 20 (kI 0)), vm 22 21, vg 23 22 false (.fld 1 4), vg 24 22 false (.load 1 false 23), vg 25 22 false (.bin .gtr 24 (kI 1000000000000)), vo 26 (.pick 22 (kB true) 25), vm 27 26, vg 28 27 false (.fld 2 4), vg 29 27 false (.load 1 false 28), vg 30 27 false (.call 107 [29]), vg 31 27 false (.un .not 30), vo 32 (.pick 27 (kB true) 31)]) (.cond 32 (.seq (rg [vo 2 (.mv (kI 2))]) .ret) .skip)) (.seq (.region (some [0,1,3,7,7,23,63,127,7,511,1023,2047,4095,4095,12287,32767,65535,131071,4095,266239,1048575,2097151,4194303,4194303,12582911,33554431,67108863,134217727,4194303,272629759,1073741823,2147483647,4294967295,8589934591,1,0,0,0,0,0,0,0,0,0,0,0,0,0,0,0,0,0,0,0,0,0,0,0,0,0,0,0,0,0,0,0,0,0]) [vm 33 3, vo 34 (.bin .gtr 33 (kI 0)), vm 35 34, vg 36 35 true (.mv 0), vg 37 35 true (.mv 3), vg 38 35 true (.bin .sub 37 (kI 1)), vg 39 35 true (.ixA 3 36 38), vg 40 35 true (.load 3 true 39), vg 41 35 true (.load 3 true 4), vg 42 35 true (.call 108 [40,41]), vg 43 35 true (.bin .geq 42 (kI 0)), vg 44 35 true (.mv 43), vg 45 44 false (.mv 0), vg 46 44 false (.mv 3), vg 47 44 false (.bin .sub 46 (kI 1)), vg 48 44 false (.ixA 3 45 47), vg 49 44 false (.fld 0 48), vg 50 44 false (.load 1 false 49), vg 51 44 false (.fld 0 4), vg 52 44 false (.load 1 false 51), vg 53 44 false (.bin .eql 50 52), vg 54 44 false (.mv 53), vg 55 54 true (.mv 0), vg 56 54 true (.mv 3), vg 57 54 true (.bin .sub 56 (kI 1)), vg 58 54 true (.ixA 3 55 57), vg 59 54 true (.fld 2 58), vg 60 54 true (.load 1 false 59), vg 61 54 true (.fld 2 4), vg 62 54 true (.load 1 false 61), vg 63 54 true (.bin .eql 60 62), vg 64 44 false (.pick 54 63 (kB false)), vg 65 35 true (.pick 44 (kB true) 64), vo 66 (.pick 35 65 (kB false))]) (.cond 66 (.seq (rg [vo 2 (.mv (kI 11))]) .ret) .skip)))))) (rg [vo 67 (.bin .add 8 (kI 1)), vm 8 67]))))))) (.seq (rg [vo 2 (.mv (kI 0))]) .ret)))
theorem c60 : (Tryz.f60.body.bind fun c => cCode Tryz.prog 68 c) = some v60 := by kernel_rfl
def v62 : VC := (.seq (rg [vo 2 (.mv (kI 0))]) (.seq (.seq (rg [vm 8 0, vo 9 (.lenS 8), vo 10 (.mv (kI 0))]) (.block 0 (.loop (.seq (rg [vo 11 (.bin .lss 10 9)]) (.seq (.cond 11 .skip (.exit 0)) (.seq (.block 1 (.seq (rg [vm 12 10, vo 13 (.ixA 7 8 10), vo 14 (.load 7 true 13), vo 4 (.alloc 83 [(iI 0),(iI 0),(iI 0),(iI 0),(iI 0),.nilS,(.imm (.sc (.bool false)))]), vm 3 12, vp (.store 7 4 14)]) (.seq (.seq (rg [vo 15 (.fld 0 4), vo 16 (.load 1 false 15), vo 17 (.bin .lss 16 (kI 0)), vm 18 17, vg 19 18 false (.fld 0 4), vg 20 18 false (.load 1 false 19), vg 21 18 false (.bin .gtr 20 (kI 1000000000000000)), vo 22 (.pick 18 (kB true) 21), vm 23 22, vg 24 23 false (.fld 1 4), vg 25 23 false (.load 1 false 24), vg 26 23 false (.bin .lss 25 (kI 0)), vo 27 (.pick 23 (kB true) 26), vm 28 27, vg 29 28 false (.fld 1 4), vg 30 28 false (.load 1 false 29), vg 31 28 false (.bin .gtr 30 (kI 1000000000000000)), vo 32 (.pick 28 (kB true) 31), vm 33 32, vg 34 33 false (.fld 2 4), vg 35 33 false (.load 1 false 34), vg 36 33 false (.bin .lss 35 (kI 1)), vo 37 (.pick 33 (kB true) 36), vm 38 37, vg 39 38 false (.fld 2 4), vg 40 38 false (.load 1 false 39), vg 41 38 false (.bin .gtr 40 (kI 1000000000000)), vo 42 (.pick 38 (kB true) 41), vm 43 42, vg 44 43 false (.fld 3 4), vg 45 43 false (.load 2 true 44), vg 46 43 false (.call 87 [45]), vg 47 43 false (.un .not 46), vo 48 (.pick 43 (kB true) 47)]) (.cond 48 (.seq (rg [vo 2 (.mv (kI 2))]) .ret) .skip)) (.seq (.seq (rg [vo 49 (.fld 5 4), vo 50 (.load 1 false 49), vo 51 (.call 106 [50]), vm 5 51]) (.seq (rg [vm 52 5, vo 53 (.bin .neq 52 (kI 0))]) (.cond 53 (.seq (rg [vm 54 5, vm 2 54]) .ret) .skip))) (.seq (.seq (.region (some [0,1,3,7,15,31,7,7,135,455,967,1991,4039,8191,16383,1,0,0,0,0,0,0,0,0,0,0,0,0,0,0]) [vm 55 3, vo 56 (.bin .gtr 55 (kI 0)), vm 57 56, vg 58 57 true (.fld 3 4), vg 59 57 true (.fld 0 58), vg 60 57 true (.load 1 false 59), vg 61 57 true (.mv 0), vg 62 57 true (.mv 3), vg 63 57 true (.bin .sub 62 (kI 1)), vg 64 57 true (.ixA 7 61 63), vg 65 57 true (.fld 3 64), vg 66 57 true (.fld 0 65), vg 67 57 true (.load 1 false 66), vg 68 57 true (.bin .lss 60 67), vo 69 (.pick 57 68 (kB false))]) (.cond 69 (.seq (rg [vo 2 (.mv (kI 11))]) .ret) .skip)) (.seq (rg [vm 70 0, vm 71 3, vo 72 (.sub 7 70 none (some 71)), vo 73 (.lenS 72), vo 74 (.mv (kI 0))]) (.block 2 (.loop (.seq (rg [vo 75 (.bin .lss 74 73)]) (.seq (.cond 75 .skip (.exit 2)) (.seq (.block 3 (.seq (rg [vo 76 (.ixA 7 72 74), vo 77 (.load 7 true 76), vo 7 (.alloc 83 [(iI 0),(iI 0),(iI 0),(iI 0),(iI 0),.nilS,(.imm (.sc (.bool false)))]), vp (.store 7 7 77)]) (.seq (rg [vo 78 (.fld 0 7), vo 79 (.load 1 false 78), vo 80 (.fld 0 4), vo 81 (.load 1 false 80), vo 82 (.bin .eql 79 81), vm 83 82, vg 84 83 true (.fld 3 7), vg 85 83 true (.fld 0 84), vg 86 83 true (.load 1 false 85), vg 87 83 true (.fld 3 4), vg 88 83 true (.fld 1 87), vg 89 83 true (.load 1 false 88), vg 90 83 true (.bin .lss 86 89), vo 91 (.pick 83 90 (kB false)), vm 92 91, vg 93 92 true (.fld 3 4), vg 94 92 true (.fld 0 93), vg 95 92 true (.load 1 false 94), vg 96 92 true (.fld 3 7), vg 97 92 true (.fld 1 96), vg 98 92 true (.load 1 false 97), vg 99 92 true (.bin .lss 95 98), vo 100 (.pick 92 99 (kB false))]) (.cond 100 (.seq (rg [vo 2 (.mv (kI 4))]) .ret) .skip)))) (rg [vo 101 (.bin .add 74 (kI 1)), vm 74 101])))))))))))) (rg [vo 102 (.bin .add 10 (kI 1)), vm 10 102]))))))) (.seq (rg [vo 2 (.mv (kI 0))]) .ret)))
theorem c62 : (Tryz.f62.body.bind fun c => cCode Tryz.prog 103 c) = some v62 := by kernel_rfl
def v63 : VC := (.seq (rg [vo 1 (.box 83 0), vo 2 (.mv (kI 0))]) (.seq (rg [vo 3 (.fld 1 1), vo 4 (.load 1 false 3), vm 2 4]) .ret))
theorem c63 : (Tryz.f63.body.bind fun c => cCode Tryz.prog 5 c) = some v63 := by kernel_rfl
def v61 : VC := (.seq (rg [vo 8 (.mv (kI 0))]) (.seq (.seq (rg [vm 13 0, vo 14 (.bin .neq 13 (kI 0))]) (.cond 14 (.seq (rg [vm 15 0, vm 8 15]) .ret) .skip)) (.seq (.seq (rg [vm 16 2, vo 17 (.lenS 16), vo 18 (.mv (kI 0))]) (.block 0 (.loop (.seq (rg [vo 19 (.bin .lss 18 17)]) (.seq (.cond 19 .skip (.exit 0)) (.seq (.block 1 (.seq (rg [vo 20 (.ixA 7 16 18), vo 21 (.load 7 true 20), vo 10 (.alloc 83 [(iI 0),(iI 0),(iI 0),(iI 0),(iI 0),.nilS,(.imm (.sc (.bool false)))]), vp (.store 7 10 21)]) (.seq (rg [vm 23 1, vm 24 3, vo 25 (.load 7 true 10), vo 26 (.callv 24 [25]), vo 27 (.look (.int .i64) (.c iS) true 23 26), vm 22 27, vo 28 (.ext 22 0), vo 29 (.ext 22 1), vm 11 28, vm 12 29]) (.seq (rg [vm 30 12, vo 31 (.un .not 30)]) (.cond 31 (.seq (rg [vo 8 (.mv (kI 5))]) .ret) .skip))))) (rg [vo 32 (.bin .add 18 (kI 1)), vm 18 32]))))))) (.seq (rg [vo 8 (.mv (kI 0))]) .ret))))
theorem c61 : (Tryz.f61.body.bind fun c => cCode Tryz.prog 33 c) = some v61 := by kernel_rfl
def v64 : VC := (.seq (rg [vo 4 (.mv (kI 0))]) (.seq (.seq (rg [vm 9 1, vo 10 (.lenS 9), vo 11 (.mv (kI 0))]) (.block 0 (.loop (.seq (rg [vo 12 (.bin .lss 11 10)]) (.seq (.cond 12 .skip (.exit 0)) (.seq (.block 1 (.seq (rg [vo 13 (.ixA 4 9 11), vo 14 (.load 4 true 13), vo 6 (.alloc 162 [(iI 0),(iI 0),(iI 0),(iI 0)]), vp (.store 4 6 14)]) (.seq (.seq (rg [vm 16 0, vo 17 (.fld 0 6), vo 18 (.load 1 false 17), vo 19 (.look (.int .i64) (.c iS) true 16 18), vm 15 19, vo 20 (.ext 15 0), vo 21 (.ext 15 1), vm 7 20, vm 8 21]) (.seq (rg [vm 22 8, vo 23 (.un .not 22)]) (.cond 23 (.seq (rg [vo 4 (.mv (kI 5))]) .ret) .skip))) (.seq (rg [vo 24 (.fld 1 6), vo 25 (.load 2 true 24), vo 26 (.call 87 [25]), vo 27 (.un .not 26), vm 28 27, vg 29 28 false (.fld 3 6), vg 30 28 false (.load 1 false 29), vg 31 28 false (.bin .lss 30 (kI 1)), vo 32 (.pick 28 (kB true) 31), vm 33 32, vg 34 33 false (.fld 3 6), vg 35 33 false (.load 1 false 34), vg 36 33 false (.bin .gtr 35 (kI 1000000000000000)), vo 37 (.pick 33 (kB true) 36)]) (.cond 37 (.seq (rg [vo 4 (.mv (kI 2))]) .ret) .skip))))) (rg [vo 38 (.bin .add 11 (kI 1)), vm 11 38]))))))) (.seq (rg [vo 4 (.mv (kI 0))]) .ret)))
theorem c64 : (Tryz.f64.body.bind fun c => cCode Tryz.prog 39 c) = some v64 := by kernel_rfl
def v32 : VC := (.seq (rg [vo 1 (.box 33 0), vo 2 (.mv (kI 0))]) (.seq (rg [vo 12 (.load 10 true 1), vo 13 (.call 48 [12]), vm 11 13, vo 14 (.ext 11 0), vo 15 (.ext 11 1), vm 3 14, vm 4 15]) (.seq (.seq (rg [vm 16 4, vo 17 (.bin .neq 16 (kI 0))]) (.cond 17 (.seq (rg [vm 18 4, vm 2 18]) .ret) .skip)) (.seq (.seq (.region (some [0,1,3,0,0,16,63,127,0,0,0,1,0,0,0,0]) [vo 19 (.fld 3 1), vo 20 (.load 1 false 19), vo 21 (.call 50 [20]), vm 22 3, vo 23 (.fld 3 1), vo 24 (.load 1 false 23), vo 25 (.call 49 [21,22,24,(.fn 51)]), vm 5 25]) (.seq (rg [vm 26 5, vo 27 (.bin .neq 26 (kI 0))]) (.cond 27 (.seq (rg [vm 28 5, vm 2 28]) .ret) .skip))) (.seq (.seq (rg [vo 29 (.fld 2 1), vo 30 (.load 1 false 29), vo 31 (.fld 4 1), vo 32 (.load 1 false 31), vo 33 (.call 52 [30,32]), vm 6 33]) (.seq (rg [vm 34 6, vo 35 (.bin .neq 34 (kI 0))]) (.cond 35 (.seq (rg [vm 36 6, vm 2 36]) .ret) .skip))) (.seq (.region (some [0,1,3,0,0,16,63,127,0,0,0,1,0,0,0,0]) [vo 37 (.fld 5 1), vo 38 (.load 1 false 37), vo 39 (.call 54 [38]), vm 40 3, vo 41 (.fld 5 1), vo 42 (.load 1 false 41), vo 43 (.call 53 [39,40,42,(.fn 55)]), vm 4 43]) (.seq (.seq (rg [vm 44 4, vm 45 3, vo 46 (.fld 5 1), vo 47 (.load 1 false 46), vo 48 (.call 53 [44,45,47,(.fn 56)]), vm 7 48]) (.seq (rg [vm 49 7, vo 50 (.bin .neq 49 (kI 0))]) (.cond 50 (.seq (rg [vm 51 7, vm 2 51]) .ret) .skip))) (.seq (.seq (.region (some [0,1,3,0,0,16,63,127,0,0,0,1,0,0,0,0]) [vo 52 (.fld 6 1), vo 53 (.load 1 false 52), vo 54 (.call 58 [53]), vm 55 3, vo 56 (.fld 6 1), vo 57 (.load 1 false 56), vo 58 (.call 57 [54,55,57,(.fn 59)]), vm 8 58]) (.seq (rg [vm 59 8, vo 60 (.bin .neq 59 (kI 0))]) (.cond 60 (.seq (rg [vm 61 8, vm 2 61]) .ret) .skip))) (.seq (.seq (rg [vo 62 (.fld 7 1), vo 63 (.load 1 false 62), vo 64 (.call 60 [63]), vm 9 64]) (.seq (rg [vm 65 9, vo 66 (.bin .neq 65 (kI 0))]) (.cond 66 (.seq (rg [vm 67 9, vm 2 67]) .ret) .skip))) (.seq (.seq (.region (some [0,1,3,0,0,16,63,127,0,0,0,1,0,0,0,0]) [vo 68 (.fld 8 1), vo 69 (.load 1 false 68), vo 70 (.call 62 [69]), vm 71 3, vo 72 (.fld 8 1), vo 73 (.load 1 false 72), vo 74 (.call 61 [70,71,73,(.fn 63)]), vm 10 74]) (.seq (rg [vm 75 10, vo 76 (.bin .neq 75 (kI 0))]) (.cond 76 (.seq (rg [vm 77 10, vm 2 77]) .ret) .skip))) (.seq (rg [vm 78 3, vo 79 (.fld 9 1), vo 80 (.load 1 false 79), vo 81 (.call 64 [78,80]), vm 2 81]) .ret)))))))))))
theorem c32 : (Tryz.f32.body.bind fun c => cCode Tryz.prog 82 c) = some v32 := by kernel_rfl
def v67 : VC := (.seq (rg [vo 2 (.box 23 0), vo 3 (.box 23 1), vo 4 (.mv (kB false))]) (.seq (rg [vo 5 (.fld 0 3), vo 6 (.load 1 false 5), vo 7 (.fld 0 2), vo 8 (.load 1 false 7), vo 9 (.bin .leq 6 8), vm 10 9, vg 11 10 true (.fld 1 2), vg 12 10 true (.load 1 false 11), vg 13 10 true (.fld 1 3), vg 14 10 true (.load 1 false 13), vg 15 10 true (.bin .leq 12 14), vo 16 (.pick 10 15 (kB false)), vm 4 16]) .ret))
theorem c67 : (Tryz.f67.body.bind fun c => cCode Tryz.prog 17 c) = some v67 := by kernel_rfl
def v66 : VC := (.seq (rg [vo 2 (.box 47 0), vo 3 (.mv (kB false))]) (.seq (rg [vo 4 (.fld 4 2), vo 5 (.load 2 true 4), vo 6 (.load 2 true 1), vo 7 (.call 67 [5,6]), vo 8 (.un .not 7), vm 3 8]) .ret))
theorem c66 : (Tryz.f66.body.bind fun c => cCode Tryz.prog 9 c) = some v66 := by kernel_rfl
def v109 : VC := (.seq (rg [vo 4 (.mv (kI 0))]) (.seq (.seq (rg [vm 6 0, vo 7 (.lenS 6), vo 8 (.mv (kI 0))]) (.block 0 (.loop (.seq (rg [vo 9 (.bin .lss 8 7)]) (.seq (.cond 9 .skip (.exit 0)) (.seq (.block 1 (.seq (rg [vm 10 8, vm 5 10]) (.seq (rg [vm 11 1, vm 12 0, vm 13 5, vo 14 (.ixA 8 12 13), vo 15 (.load 8 true 14), vo 16 (.callv 11 [15])]) (.cond 16 (.seq (rg [vm 17 5, vm 4 17]) .ret) .skip)))) (rg [vo 18 (.bin .add 8 (kI 1)), vm 8 18]))))))) (.seq (rg [vo 4 (.mv (kI (-1)))]) .ret)))
theorem c109 : (Tryz.f109.body.bind fun c => cCode Tryz.prog 19 c) = some v109 := by kernel_rfl
def v65 : VC := (.seq (rg [vo 4 (.mv (kB false))]) (.seq (rg [vm 5 0, vm 6 1, vo 7 (.call 109 [5,6]), vo 8 (.bin .geq 7 (kI 0)), vm 4 8]) .ret))
theorem c65 : (Tryz.f65.body.bind fun c => cCode Tryz.prog 9 c) = some v65 := by kernel_rfl
def v69 : VC := (.seq (rg [vo 2 (.box 78 0), vo 3 (.mv (kB false))]) (.seq (rg [vo 4 (.fld 2 2), vo 5 (.load 2 true 4), vo 6 (.load 2 true 1), vo 7 (.call 67 [5,6]), vo 8 (.un .not 7), vm 3 8]) .ret))
theorem c69 : (Tryz.f69.body.bind fun c => cCode Tryz.prog 9 c) = some v69 := by kernel_rfl
def v110 : VC := (.seq (rg [vo 4 (.mv (kI 0))]) (.seq (.seq (rg [vm 6 0, vo 7 (.lenS 6), vo 8 (.mv (kI 0))]) (.block 0 (.loop (.seq (rg [vo 9 (.bin .lss 8 7)]) (.seq (.cond 9 .skip (.exit 0)) (.seq (.block 1 (.seq (rg [vm 10 8, vm 5 10]) (.seq (rg [vm 11 1, vm 12 0, vm 13 5, vo 14 (.ixA 7 12 13), vo 15 (.load 7 true 14), vo 16 (.callv 11 [15])]) (.cond 16 (.seq (rg [vm 17 5, vm 4 17]) .ret) .skip)))) (rg [vo 18 (.bin .add 8 (kI 1)), vm 8 18]))))))) (.seq (rg [vo 4 (.mv (kI (-1)))]) .ret)))
theorem c110 : (Tryz.f110.body.bind fun c => cCode Tryz.prog 19 c) = some v110 := by kernel_rfl
def v68 : VC := (.seq (rg [vo 4 (.mv (kB false))]) (.seq (rg [vm 5 0, vm 6 1, vo 7 (.call 110 [5,6]), vo 8 (.bin .geq 7 (kI 0)), vm 4 8]) .ret))
theorem c68 : (Tryz.f68.body.bind fun c => cCode Tryz.prog 9 c) = some v68 := by kernel_rfl
def v71 : VC := (.seq (rg [vo 2 (.box 83 0), vo 3 (.mv (kB false))]) (.seq (rg [vo 4 (.fld 3 2), vo 5 (.load 2 true 4), vo 6 (.load 2 true 1), vo 7 (.call 67 [5,6]), vo 8 (.un .not 7), vm 3 8]) .ret))
theorem c71 : (Tryz.f71.body.bind fun c => cCode Tryz.prog 9 c) = some v71 := by kernel_rfl
def v111 : VC := (.seq (rg [vo 4 (.mv (kI 0))]) (.seq (.seq (rg [vm 6 0, vo 7 (.lenS 6), vo 8 (.mv (kI 0))]) (.block 0 (.loop (.seq (rg [vo 9 (.bin .lss 8 7)]) (.seq (.cond 9 .skip (.exit 0)) (.seq (.block 1 (.seq (rg [vm 10 8, vm 5 10]) (.seq (rg [vm 11 1, vm 12 0, vm 13 5, vo 14 (.ixA 7 12 13), vo 15 (.load 7 true 14), vo 16 (.callv 11 [15])]) (.cond 16 (.seq (rg [vm 17 5, vm 4 17]) .ret) .skip)))) (rg [vo 18 (.bin .add 8 (kI 1)), vm 8 18]))))))) (.seq (rg [vo 4 (.mv (kI (-1)))]) .ret)))
theorem c111 : (Tryz.f111.body.bind fun c => cCode Tryz.prog 19 c) = some v111 := by kernel_rfl
def v70 : VC := (.seq (rg [vo 4 (.mv (kB false))]) (.seq (rg [vm 5 0, vm 6 1, vo 7 (.call 111 [5,6]), vo 8 (.bin .geq 7 (kI 0)), vm 4 8]) .ret))
theorem c70 : (Tryz.f70.body.bind fun c => cCode Tryz.prog 9 c) = some v70 := by kernel_rfl
def v74 : VC := (.seq (rg [vo 2 (.box 23 0), vo 4 (.mv (kB false))]) (.seq (rg [vo 5 (.fld 0 2), vo 6 (.load 1 false 5), vm 7 1, vo 8 (.bin .leq 6 7), vm 9 8, vg 10 9 true (.mv 1), vg 11 9 true (.fld 1 2), vg 12 9 true (.load 1 false 11), vg 13 9 true (.bin .lss 10 12), vo 14 (.pick 9 13 (kB false)), vm 4 14]) .ret))
theorem c74 : (Tryz.f74.body.bind fun c => cCode Tryz.prog 15 c) = some v74 := by kernel_rfl
def v73 : VC := (.seq (rg [vo 2 (.box 88 0), vo 3 (.mv (kB false))]) (.seq (rg [vo 4 (.load 2 true 1), vo 5 (.fld 5 2), vo 6 (.load 1 false 5), vo 7 (.call 74 [4,6]), vo 8 (.un .not 7), vm 9 8, vg 10 9 false (.load 2 true 1), vg 11 9 false (.fld 6 2), vg 12 9 false (.load 1 false 11), vg 13 9 false (.call 74 [10,12]), vg 14 9 false (.un .not 13), vo 15 (.pick 9 (kB true) 14), vm 3 15]) .ret))
theorem c73 : (Tryz.f73.body.bind fun c => cCode Tryz.prog 16 c) = some v73 := by kernel_rfl
def v112 : VC := (.seq (rg [vo 4 (.mv (kI 0))]) (.seq (.seq (rg [vm 6 0, vo 7 (.lenS 6), vo 8 (.mv (kI 0))]) (.block 0 (.loop (.seq (rg [vo 9 (.bin .lss 8 7)]) (.seq (.cond 9 .skip (.exit 0)) (.seq (.block 1 (.seq (rg [vm 10 8, vm 5 10]) (.seq (rg [vm 11 1, vm 12 0, vm 13 5, vo 14 (.ixA 7 12 13), vo 15 (.load 7 true 14), vo 16 (.callv 11 [15])]) (.cond 16 (.seq (rg [vm 17 5, vm 4 17]) .ret) .skip)))) (rg [vo 18 (.bin .add 8 (kI 1)), vm 8 18]))))))) (.seq (rg [vo 4 (.mv (kI (-1)))]) .ret)))
theorem c112 : (Tryz.f112.body.bind fun c => cCode Tryz.prog 19 c) = some v112 := by kernel_rfl
def v72 : VC := (.seq (rg [vo 4 (.mv (kB false))]) (.seq (rg [vm 5 0, vm 6 1, vo 7 (.call 112 [5,6]), vo 8 (.bin .geq 7 (kI 0)), vm 4 8]) .ret))
theorem c72 : (Tryz.f72.body.bind fun c => cCode Tryz.prog 9 c) = some v72 := by kernel_rfl
def v76 : VC := (.seq (rg [vo 2 (.box 90 0), vo 3 (.mv (kB false))]) (.seq (rg [vo 4 (.load 2 true 1), vo 5 (.fld 1 2), vo 6 (.load 1 false 5), vo 7 (.call 74 [4,6]), vo 8 (.un .not 7), vm 3 8]) .ret))
theorem c76 : (Tryz.f76.body.bind fun c => cCode Tryz.prog 9 c) = some v76 := by kernel_rfl
def v113 : VC := (.seq (rg [vo 4 (.mv (kI 0))]) (.seq (.seq (rg [vm 6 0, vo 7 (.lenS 6), vo 8 (.mv (kI 0))]) (.block 0 (.loop (.seq (rg [vo 9 (.bin .lss 8 7)]) (.seq (.cond 9 .skip (.exit 0)) (.seq (.block 1 (.seq (rg [vm 10 8, vm 5 10]) (.seq (rg [vm 11 1, vm 12 0, vm 13 5, vo 14 (.ixA 4 12 13), vo 15 (.load 4 true 14), vo 16 (.callv 11 [15])]) (.cond 16 (.seq (rg [vm 17 5, vm 4 17]) .ret) .skip)))) (rg [vo 18 (.bin .add 8 (kI 1)), vm 8 18]))))))) (.seq (rg [vo 4 (.mv (kI (-1)))]) .ret)))
theorem c113 : (Tryz.f113.body.bind fun c => cCode Tryz.prog 19 c) = some v113 := by kernel_rfl
def v75 : VC := (.seq (rg [vo 4 (.mv (kB false))]) (.seq (rg [vm 5 0, vm 6 1, vo 7 (.call 113 [5,6]), vo 8 (.bin .geq 7 (kI 0)), vm 4 8]) .ret))
theorem c75 : (Tryz.f75.body.bind fun c => cCode Tryz.prog 9 c) = some v75 := by kernel_rfl
def v78 : VC := (.seq (rg [vo 2 (.box 92 0), vo 3 (.mv (kB false))]) (.seq (rg [vo 4 (.load 2 true 1), vo 5 (.fld 1 2), vo 6 (.load 1 false 5), vo 7 (.call 74 [4,6]), vo 8 (.un .not 7), vm 3 8]) .ret))
theorem c78 : (Tryz.f78.body.bind fun c => cCode Tryz.prog 9 c) = some v78 := by kernel_rfl
def v114 : VC := (.seq (rg [vo 4 (.mv (kI 0))]) (.seq (.seq (rg [vm 6 0, vo 7 (.lenS 6), vo 8 (.mv (kI 0))]) (.block 0 (.loop (.seq (rg [vo 9 (.bin .lss 8 7)]) (.seq (.cond 9 .skip (.exit 0)) (.seq (.block 1 (.seq (rg [vm 10 8, vm 5 10]) (.seq (rg [vm 11 1, vm 12 0, vm 13 5, vo 14 (.ixA 3 12 13), vo 15 (.load 3 true 14), vo 16 (.callv 11 [15])]) (.cond 16 (.seq (rg [vm 17 5, vm 4 17]) .ret) .skip)))) (rg [vo 18 (.bin .add 8 (kI 1)), vm 8 18]))))))) (.seq (rg [vo 4 (.mv (kI (-1)))]) .ret)))
theorem c114 : (Tryz.f114.body.bind fun c => cCode Tryz.prog 19 c) = some v114 := by kernel_rfl
def v77 : VC := (.seq (rg [vo 4 (.mv (kB false))]) (.seq (rg [vm 5 0, vm 6 1, vo 7 (.call 114 [5,6]), vo 8 (.bin .geq 7 (kI 0)), vm 4 8]) .ret))
theorem c77 : (Tryz.f77.body.bind fun c => cCode Tryz.prog 9 c) = some v77 := by kernel_rfl
def v33 : VC := (.seq (rg [vo 1 (.box 33 0), vo 2 (.mv (kB false))]) (.seq (rg [vo 4 (.fld 0 1), vo 5 (.load 2 true 4), vo 3 (.alloc 23 [(iI 0),(iI 0)]), vp (.store 2 3 5)]) (.seq (rg [vo 6 (.fld 3 1), vo 7 (.load 1 false 6), vo 8 (.mkfn 66 [3]), vo 9 (.call 65 [7,8]), vm 10 9, vg 11 10 false (.fld 4 1), vg 12 10 false (.load 1 false 11), vg 13 10 false (.mkfn 69 [3]), vg 14 10 false (.call 68 [12,13]), vo 15 (.pick 10 (kB true) 14), vm 16 15, vg 17 16 false (.fld 8 1), vg 18 16 false (.load 1 false 17), vg 19 16 false (.mkfn 71 [3]), vg 20 16 false (.call 70 [18,19]), vo 21 (.pick 16 (kB true) 20), vm 22 21, vg 23 22 false (.fld 5 1), vg 24 22 false (.load 1 false 23), vg 25 22 false (.mkfn 73 [3]), vg 26 22 false (.call 72 [24,25]), vo 27 (.pick 22 (kB true) 26), vm 28 27, vg 29 28 false (.fld 6 1), vg 30 28 false (.load 1 false 29), vg 31 28 false (.mkfn 76 [3]), vg 32 28 false (.call 75 [30,31]), vo 33 (.pick 28 (kB true) 32), vm 34 33, vg 35 34 false (.fld 7 1), vg 36 34 false (.load 1 false 35), vg 37 34 false (.mkfn 78 [3]), vg 38 34 false (.call 77 [36,37]), vo 39 (.pick 34 (kB true) 38), vm 2 39]) .ret)))
theorem c33 : (Tryz.f33.body.bind fun c => cCode Tryz.prog 40 c) = some v33 := by kernel_rfl
def v19 : VC := (.seq (rg [vo 1 (.box 33 0), vo 2 (.mv (kI 0))]) (.seq (.seq (rg [vo 4 (.load 10 true 1), vo 5 (.call 32 [4]), vm 3 5]) (.seq (rg [vm 6 3, vo 7 (.bin .neq 6 (kI 0))]) (.cond 7 (.seq (rg [vm 8 3, vm 2 8]) .ret) .skip))) (.seq (.seq (rg [vo 9 (.fld 0 1), vo 10 (.fld 0 9), vo 11 (.load 1 false 10), vo 12 (.bin .lss 11 (kI 0)), vm 13 12, vg 14 13 false (.fld 0 1), vg 15 13 false (.fld 0 14), vg 16 13 false (.load 1 false 15), vg 17 13 false (.fld 0 1), vg 18 13 false (.fld 1 17), vg 19 13 false (.load 1 false 18), vg 20 13 false (.bin .gtr 16 19), vo 21 (.pick 13 (kB true) 20), vm 22 21, vg 23 22 false (.fld 0 1), vg 24 22 false (.fld 1 23), vg 25 22 false (.load 1 false 24), vg 26 22 false (.bin .gtr 25 (kI 1000000000000)), vo 27 (.pick 22 (kB true) 26)]) (.cond 27 (.seq (rg [vo 2 (.mv (kI 2))]) .ret) .skip)) (.seq (.seq (rg [vo 28 (.load 10 true 1), vo 29 (.call 33 [28])]) (.cond 29 (.seq (rg [vo 2 (.mv (kI 10))]) .ret) .skip)) (.seq (rg [vo 2 (.mv (kI 0))]) .ret)))))
theorem c19 : (Tryz.f19.body.bind fun c => cCode Tryz.prog 30 c) = some v19 := by kernel_rfl
def v22 : VC := (.seq (rg [vo 1 (.box 47 0), vo 2 (.mv (kI 0))]) (.seq (rg [vo 3 (.fld 4 1), vo 4 (.fld 1 3), vo 5 (.load 1 false 4), vo 6 (.fld 4 1), vo 7 (.fld 0 6), vo 8 (.load 1 false 7), vo 9 (.bin .sub 5 8), vm 2 9]) .ret))
theorem c22 : (Tryz.f22.body.bind fun c => cCode Tryz.prog 10 c) = some v22 := by kernel_rfl
def v20 : VC := (.seq (rg [vo 2 (.box 33 0), vo 4 (.mv (.con (.c .nilS)))]) (.seq (rg [vo 5 (.mv (.con (.c .nilS)))]) (.seq (.seq (rg [vo 8 (.fld 3 2), vo 9 (.load 1 false 8), vo 10 (.lenS 9), vo 11 (.mv (kI 0))]) (.block 0 (.loop (.seq (rg [vo 12 (.bin .lss 11 10)]) (.seq (.cond 12 .skip (.exit 0)) (.seq (.block 1 (.seq (rg [vo 13 (.ixA 8 9 11), vo 14 (.load 8 true 13), vo 7 (.alloc 47 [(iI 0),(iI 0),(iI 0),iS,(iI 0),(iI 0),(iI 0),(.imm (.sc (.bool false)))]), vp (.store 8 7 14)]) (.seq (rg [vo 15 (.fld 3 7), vo 16 (.load 1 false 15), vm 17 1, vo 18 (.bin .eql 16 17), vm 19 18, vg 20 19 true (.fld 7 7), vg 21 19 true (.load 1 false 20), vg 22 19 true (.un .not 21), vo 23 (.pick 19 22 (kB false))]) (.cond 23 (rg [vm 24 5, vo 25 (.load 8 true 7), vo 26 (.call 22 [25]), vo 27 (.bsl 3 1 1 [(iI 0)] [(0,1,26)]), vo 28 (.app 3 1 8 24 27), vm 5 28]) .skip)))) (rg [vo 29 (.bin .add 11 (kI 1)), vm 11 29]))))))) (.seq (rg [vm 30 5, vm 4 30]) .ret))))
theorem c20 : (Tryz.f20.body.bind fun c => cCode Tryz.prog 31 c) = some v20 := by kernel_rfl
def v81 : VC := (.seq (rg [vo 4 (.mv (.con (.c (.imm (.sc (.int .u64 0)))))), vo 5 (.mv (.con (.c (.imm (.sc (.int .u64 0))))))]) (.seq (rg [vm 14 0, vo 15 (.bin .and 14 (.con (.c (.imm (.sc (.int .u64 4294967295)))))), vm 6 15]) (.seq (rg [vm 16 0, vo 17 (.bin .shr 16 (.con (.c (.imm (.sc (.int .u64 32)))))), vm 7 17]) (.seq (rg [vm 18 1, vo 19 (.bin .and 18 (.con (.c (.imm (.sc (.int .u64 4294967295)))))), vm 8 19]) (.seq (rg [vm 20 1, vo 21 (.bin .shr 20 (.con (.c (.imm (.sc (.int .u64 32)))))), vm 9 21]) (.seq (rg [vm 22 6, vm 23 8, vo 24 (.bin .mul 22 23), vm 10 24]) (.seq (rg [vm 25 7, vm 26 8, vo 27 (.bin .mul 25 26), vm 28 10, vo 29 (.bin .shr 28 (.con (.c (.imm (.sc (.int .u64 32)))))), vo 30 (.bin .add 27 29), vm 11 30]) (.seq (rg [vm 31 11, vo 32 (.bin .and 31 (.con (.c (.imm (.sc (.int .u64 4294967295)))))), vm 12 32]) (.seq (rg [vm 33 11, vo 34 (.bin .shr 33 (.con (.c (.imm (.sc (.int .u64 32)))))), vm 13 34]) (.seq (rg [vm 35 12, vm 36 6, vm 37 9, vo 38 (.bin .mul 36 37), vo 39 (.bin .add 35 38), vm 12 39]) (.seq (rg [vm 40 7, vm 41 9, vo 42 (.bin .mul 40 41), vm 43 13, vo 44 (.bin .add 42 43), vm 45 12, vo 46 (.bin .shr 45 (.con (.c (.imm (.sc (.int .u64 32)))))), vo 47 (.bin .add 44 46), vm 4 47]) (.seq (rg [vm 48 0, vm 49 1, vo 50 (.bin .mul 48 49), vm 5 50]) .ret))))))))))))
theorem c81 : (Tryz.f81.body.bind fun c => cCode Tryz.prog 51 c) = some v81 := by kernel_rfl
def v137 : VC := (.seq (rg [vo 2 (.mv (kI 0))]) (.seq (.seq (rg [vm 3 0, vo 4 (.bin .geq 3 (.con (.c (.imm (.sc (.int .u64 4294967296))))))]) (.cond 4 (.seq (rg [vm 5 0, vo 6 (.bin .shr 5 (.con (.c (.imm (.sc (.int .u64 32)))))), vm 0 6]) (rg [vo 2 (.mv (kI 32))])) .skip)) (.seq (.seq (rg [vm 7 0, vo 8 (.bin .geq 7 (.con (.c (.imm (.sc (.int .u64 65536))))))]) (.cond 8 (.seq (rg [vm 9 0, vo 10 (.bin .shr 9 (.con (.c (.imm (.sc (.int .u64 16)))))), vm 0 10]) (rg [vm 11 2, vo 12 (.bin .add 11 (kI 16)), vm 2 12])) .skip)) (.seq (.seq (rg [vm 13 0, vo 14 (.bin .geq 13 (.con (.c (.imm (.sc (.int .u64 256))))))]) (.cond 14 (.seq (rg [vm 15 0, vo 16 (.bin .shr 15 (.con (.c (.imm (.sc (.int .u64 8)))))), vm 0 16]) (rg [vm 17 2, vo 18 (.bin .add 17 (kI 8)), vm 2 18])) .skip)) (.seq (rg [vm 19 2, vm 20 0, vo 21 (.cvi .u8 20), vo 22 (.ixS (.con (.c (.imm (.sc (.string ⟨#[0,1,2,2,3,3,3,3,4,4,4,4,4,4,4,4,5,5,5,5,5,5,5,5,5,5,5,5,5,5,5,5,6,6,6,6,6,6,6,6,6,6,6,6,6,6,6,6,6,6,6,6,6,6,6,6,6,6,6,6,6,6,6,6,7,7,7,7,7,7,7,7,7,7,7,7,7,7,7,7,7,7,7,7,7,7,7,7,7,7,7,7,7,7,7,7,7,7,7,7,7,7,7,7,7,7,7,7,7,7,7,7,7,7,7,7,7,7,7,7,7,7,7,7,7,7,7,7,8,8,8,8,8,8,8,8,8,8,8,8,8,8,8,8,8,8,8,8,8,8,8,8,8,8,8,8,8,8,8,8,8,8,8,8,8,8,8,8,8,8,8,8,8,8,8,8,8,8,8,8,8,8,8,8,8,8,8,8,8,8,8,8,8,8,8,8,8,8,8,8,8,8,8,8,8,8,8,8,8,8,8,8,8,8,8,8,8,8,8,8,8,8,8,8,8,8,8,8,8,8,8,8,8,8,8,8,8,8,8,8,8,8,8,8,8,8,8,8,8,8,8,8,8,8,8,8]⟩))))) 21), vo 23 (.cvi .i64 22), vo 24 (.bin .add 19 23), vm 2 24]) .ret)))))
theorem c137 : (Tryz.f137.body.bind fun c => cCode Tryz.prog 25 c) = some v137 := by kernel_rfl
def v118 : VC := (.seq (rg [vo 2 (.mv (kI 0))]) (.seq (rg [vm 3 0, vo 4 (.call 137 [3]), vo 5 (.bin .sub (kI 64) 4), vm 2 5]) .ret))
theorem c118 : (Tryz.f118.body.bind fun c => cCode Tryz.prog 6 c) = some v118 := by kernel_rfl
def v82 : VC := (.seq (rg [vo 6 (.mv (.con (.c (.imm (.sc (.int .u64 0)))))), vo 7 (.mv (.con (.c (.imm (.sc (.int .u64 0))))))]) (.seq (.seq (rg [vm 19 2, vo 20 (.bin .eql 19 (.con (.c (.imm (.sc (.int .u64 0))))))]) (.cond 20 .bad .skip)) (.seq (.seq (rg [vm 22 2, vm 23 0, vo 24 (.bin .leq 22 23)]) (.cond 24 .bad .skip)) (.seq (.seq (rg [vm 26 0, vo 27 (.bin .eql 26 (.con (.c (.imm (.sc (.int .u64 0))))))]) (.cond 27 (.seq (.region (some [0,0,3,0,0,24,7,127,1,1,0,1,1,0,0,0]) [vm 28 1, vm 29 2, vo 30 (.bin .quo 28 29), vm 31 1, vm 32 2, vo 33 (.bin .rem 31 32), vm 6 30, vm 7 33]) .ret) .skip)) (.seq (rg [vm 34 2, vo 35 (.call 118 [34]), vo 36 (.cvi .u64 35), vm 8 36]) (.seq (rg [vm 37 2, vm 38 8, vo 39 (.bin .shl 37 38), vm 2 39]) (.seq (rg [vm 40 2, vo 41 (.bin .shr 40 (.con (.c (.imm (.sc (.int .u64 32)))))), vm 9 41]) (.seq (rg [vm 42 2, vo 43 (.bin .and 42 (.con (.c (.imm (.sc (.int .u64 4294967295)))))), vm 10 43]) (.seq (rg [vm 44 0, vm 45 8, vo 46 (.bin .shl 44 45), vm 47 1, vm 48 8, vo 49 (.bin .sub (.con (.c (.imm (.sc (.int .u64 64))))) 48), vo 50 (.bin .shr 47 49), vo 51 (.bin .or 46 50), vm 11 51]) (.seq (rg [vm 52 1, vm 53 8, vo 54 (.bin .shl 52 53), vm 12 54]) (.seq (rg [vm 55 12, vo 56 (.bin .shr 55 (.con (.c (.imm (.sc (.int .u64 32)))))), vm 13 56]) (.seq (rg [vm 57 12, vo 58 (.bin .and 57 (.con (.c (.imm (.sc (.int .u64 4294967295)))))), vm 14 58]) (.seq (rg [vm 59 11, vm 60 9, vo 61 (.bin .quo 59 60), vm 15 61]) (.seq (rg [vm 62 11, vm 63 15, vm 64 9, vo 65 (.bin .mul 63 64), vo 66 (.bin .sub 62 65), vm 16 66]) (.seq (.block 0 (.loop (.seq (.seq (rg [vm 67 15, vo 68 (.bin .geq 67 (.con (.c (.imm (.sc (.int .u64 4294967296)))))), vm 69 68, vg 70 69 false (.mv 15), vg 71 69 false (.mv 10), vg 72 69 false (.bin .mul 70 71), vg 73 69 false (.mv 16), vg 74 69 false (.bin .mul (.con (.c (.imm (.sc (.int .u64 4294967296))))) 73), vg 75 69 false (.mv 13), vg 76 69 false (.bin .add 74 75), vg 77 69 false (.bin .gtr 72 76), vo 78 (.pick 69 (kB true) 77)]) (.cond 78 .skip (.exit 0))) (.block 1 (.seq (rg [vm 79 15, vo 80 (.bin .sub 79 (.con (.c (.imm (.sc (.int .u64 1)))))), vm 15 80]) (.seq (rg [vm 81 16, vm 82 9, vo 83 (.bin .add 81 82), vm 16 83]) (.seq (rg [vm 84 16, vo 85 (.bin .geq 84 (.con (.c (.imm (.sc (.int .u64 4294967296))))))]) (.cond 85 (.exit 0) .skip)))))))) (.seq (rg [vm 86 11, vo 87 (.bin .mul 86 (.con (.c (.imm (.sc (.int .u64 4294967296)))))), vm 88 13, vo 89 (.bin .add 87 88), vm 90 15, vm 91 2, vo 92 (.bin .mul 90 91), vo 93 (.bin .sub 89 92), vm 17 93]) (.seq (rg [vm 94 17, vm 95 9, vo 96 (.bin .quo 94 95), vm 18 96]) (.seq (rg [vm 97 17, vm 98 18, vm 99 9, vo 100 (.bin .mul 98 99), vo 101 (.bin .sub 97 100), vm 16 101]) (.seq (.block 2 (.loop (.seq (.seq (rg [vm 102 18, vo 103 (.bin .geq 102 (.con (.c (.imm (.sc (.int .u64 4294967296)))))), vm 104 103, vg 105 104 false (.mv 18), vg 106 104 false (.mv 10), vg 107 104 false (.bin .mul 105 106), vg 108 104 false (.mv 16), vg 109 104 false (.bin .mul (.con (.c (.imm (.sc (.int .u64 4294967296))))) 108), vg 110 104 false (.mv 14), vg 111 104 false (.bin .add 109 110), vg 112 104 false (.bin .gtr 107 111), vo 113 (.pick 104 (kB true) 112)]) (.cond 113 .skip (.exit 2))) (.block 3 (.seq (rg [vm 114 18, vo 115 (.bin .sub 114 (.con (.c (.imm (.sc (.int .u64 1)))))), vm 18 115]) (.seq (rg [vm 116 16, vm 117 9, vo 118 (.bin .add 116 117), vm 16 118]) (.seq (rg [vm 119 16, vo 120 (.bin .geq 119 (.con (.c (.imm (.sc (.int .u64 4294967296))))))]) (.cond 120 (.exit 2) .skip)))))))) (.seq (rg [vm 121 15, vo 122 (.bin .mul 121 (.con (.c (.imm (.sc (.int .u64 4294967296)))))), vm 123 18, vo 124 (.bin .add 122 123), vm 125 17, vo 126 (.bin .mul 125 (.con (.c (.imm (.sc (.int .u64 4294967296)))))), vm 127 14, vo 128 (.bin .add 126 127), vm 129 18, vm 130 2, vo 131 (.bin .mul 129 130), vo 132 (.bin .sub 128 131), vm 133 8, vo 134 (.bin .shr 132 133), vm 6 124, vm 7 134]) .ret))))))))))))))))))))
theorem c82 : (Tryz.f82.body.bind fun c => cCode Tryz.prog 135 c) = some v82 := by kernel_rfl
def v34 : VC := (.seq (rg [vo 6 (.mv (kI 0)), vo 7 (.mv (kB false))]) (.seq (.seq (rg [vm 13 0, vo 14 (.lenS 13), vo 15 (.bin .eql 14 (kI 0)), vm 16 15, vg 17 16 false (.mv 2), vg 18 16 false (.bin .lss 17 (kI 1)), vo 19 (.pick 16 (kB true) 18), vm 20 19, vg 21 20 false (.mv 2), vg 22 20 false (.bin .gtr 21 (kI 1000000000000000)), vo 23 (.pick 20 (kB true) 22), vm 24 23, vg 25 24 false (.mv 1), vg 26 24 false (.bin .lss 25 (kI 0)), vo 27 (.pick 24 (kB true) 26), vm 28 27, vg 29 28 false (.mv 1), vg 30 28 false (.mv 2), vg 31 28 false (.bin .gtr 29 30), vo 32 (.pick 28 (kB true) 31)]) (.cond 32 (.seq (rg [vo 6 (.mv (kI 0)), vo 7 (.mv (kB false))]) .ret) .skip)) (.seq (rg [vm 33 0, vo 34 (.call 80 [33]), vo 35 (.call 79 [34]), vm 8 35]) (.seq (rg [vm 37 1, vo 38 (.cvi .u64 37), vm 39 0, vo 40 (.lenS 39), vo 41 (.cvi .u64 40), vo 42 (.call 81 [38,41]), vm 36 42, vo 43 (.ext 36 0), vo 44 (.ext 36 1), vm 9 43, vm 10 44]) (.seq (rg [vm 46 9, vm 47 10, vm 48 2, vo 49 (.cvi .u64 48), vo 50 (.call 82 [46,47,49]), vm 45 50, vo 51 (.ext 45 0), vo 52 (.ext 45 1), vm 11 51, vm 12 52]) (.seq (.seq (rg [vm 53 12, vo 54 (.bin .gtr 53 (.con (.c (.imm (.sc (.int .u64 0))))))]) (.cond 54 (rg [vm 55 11, vo 56 (.bin .add 55 (.con (.c (.imm (.sc (.int .u64 1)))))), vm 11 56]) .skip)) (.seq (rg [vm 57 8, vm 58 11, vo 59 (.mm true [58,(.con (.c (.imm (.sc (.int .u64 1)))))]), vo 60 (.bin .sub 59 (.con (.c (.imm (.sc (.int .u64 1)))))), vo 61 (.ixA 1 57 60), vo 62 (.load 1 false 61), vm 6 62, vo 7 (.mv (kB true))]) .ret)))))))
theorem c34 : (Tryz.f34.body.bind fun c => cCode Tryz.prog 63 c) = some v34 := by kernel_rfl
def v21 : VC := (.seq (rg [vo 2 (.box 33 0), vo 4 (.mv (kI 0)), vo 5 (.mv (kB false))]) (.seq (rg [vo 11 (.load 10 true 2), vm 12 1, vo 13 (.call 20 [11,12]), vo 14 (.call 34 [13,(kI 1),(kI 2)]), vm 10 14, vo 15 (.ext 10 0), vo 16 (.ext 10 1), vm 6 15, vm 7 16]) (.seq (.seq (rg [vm 17 7, vo 18 (.un .not 17)]) (.cond 18 (.seq (rg [vo 4 (.mv (kI 0)), vo 5 (.mv (kB false))]) .ret) .skip)) (.seq (.seq (rg [vo 19 (.fld 3 2), vo 20 (.load 1 false 19), vo 21 (.lenS 20), vo 22 (.mv (kI 0))]) (.block 0 (.loop (.seq (rg [vo 23 (.bin .lss 22 21)]) (.seq (.cond 23 .skip (.exit 0)) (.seq (.block 1 (.seq (rg [vm 24 22, vo 25 (.ixA 8 20 22), vo 26 (.load 8 true 25), vo 9 (.alloc 47 [(iI 0),(iI 0),(iI 0),iS,(iI 0),(iI 0),(iI 0),(.imm (.sc (.bool false)))]), vm 8 24, vp (.store 8 9 26)]) (.seq (rg [vo 27 (.fld 3 9), vo 28 (.load 1 false 27), vm 29 1, vo 30 (.bin .eql 28 29), vm 31 30, vg 32 31 true (.fld 7 9), vg 33 31 true (.load 1 false 32), vg 34 31 true (.un .not 33), vo 35 (.pick 31 34 (kB false)), vm 36 35, vg 37 36 true (.load 8 true 9), vg 38 36 true (.call 22 [37]), vg 39 36 true (.mv 6), vg 40 36 true (.bin .eql 38 39), vo 41 (.pick 36 40 (kB false))]) (.cond 41 (.seq (rg [vm 42 8, vm 4 42, vo 5 (.mv (kB true))]) .ret) .skip)))) (rg [vo 43 (.bin .add 22 (kI 1)), vm 22 43]))))))) (.seq (rg [vo 4 (.mv (kI 0)), vo 5 (.mv (kB false))]) .ret)))))
theorem c21 : (Tryz.f21.body.bind fun c => cCode Tryz.prog 44 c) = some v21 := by kernel_rfl
def v42 : VC := (.seq (rg [vo 7 (.box 23 3), vo 8 (.mv (kI 0))]) (.seq (.seq (rg [vo 12 (.load 2 true 7), vo 13 (.call 87 [12]), vo 14 (.un .not 13)]) (.cond 14 (.seq (rg [vo 8 (.mv (kI 0))]) .ret) .skip)) (.seq (rg [vo 9 (.mv (kI 0))]) (.seq (.seq (rg [vm 15 0, vo 16 (.lenS 15), vo 17 (.mv (kI 0))]) (.block 0 (.loop (.seq (rg [vo 18 (.bin .lss 17 16)]) (.seq (.cond 18 .skip (.exit 0)) (.seq (.block 1 (.seq (rg [vo 19 (.ixA 7 15 17), vo 20 (.load 7 true 19), vo 11 (.alloc 78 [(iI 0),(iI 0),(iI 0),(iI 0),(iI 0),(iI 0),(iI 0)]), vp (.store 7 11 20)]) (.seq (rg [vo 21 (.fld 0 11), vo 22 (.load 1 false 21), vm 23 1, vo 24 (.bin .eql 22 23), vm 25 24, vg 26 25 true (.fld 1 11), vg 27 25 true (.load 1 false 26), vg 28 25 true (.mv 2), vg 29 25 true (.bin .eql 27 28), vo 30 (.pick 25 29 (kB false))]) (.cond 30 (rg [vm 31 9, vo 32 (.fld 2 11), vo 33 (.fld 1 32), vo 34 (.load 1 false 33), vo 35 (.fld 1 7), vo 36 (.load 1 false 35), vo 37 (.mm false [34,36]), vo 38 (.fld 2 11), vo 39 (.fld 0 38), vo 40 (.load 1 false 39), vo 41 (.fld 0 7), vo 42 (.load 1 false 41), vo 43 (.mm true [40,42]), vo 44 (.bin .sub 37 43), vo 45 (.mm true [(kI 0),44]), vo 46 (.bin .add 31 45), vm 9 46]) .skip)))) (rg [vo 47 (.bin .add 17 (kI 1)), vm 17 47]))))))) (.seq (rg [vm 48 9, vm 8 48]) .ret)))))
theorem c42 : (Tryz.f42.body.bind fun c => cCode Tryz.prog 49 c) = some v42 := by kernel_rfl
def v30 : VC := (.seq (rg [vo 2 (.box 33 0), vo 3 (.box 47 1), vo 4 (.mv (.con (.c .nilS)))]) (.seq (rg [vo 9 (.load 8 true 3), vo 10 (.call 22 [9]), vm 5 10]) (.seq (rg [vo 11 (.mksl 3 1 8 [(iI 0)] (kI 0) (kI 6)), vm 6 11]) (.seq (.seq (rg [vo 12 (.mv (kI 0))]) (.block 0 (.loop (.seq (rg [vo 13 (.bin .lss 12 (kI 6))]) (.seq (.cond 13 .skip (.exit 0)) (.seq (.block 1 (.seq (rg [vm 14 12, vm 7 14]) (.seq (rg [vo 15 (.fld 4 2), vo 16 (.load 1 false 15), vo 17 (.fld 0 3), vo 18 (.load 1 false 17), vm 19 7, vo 20 (.fld 4 3), vo 21 (.load 2 true 20), vo 22 (.call 42 [16,18,19,21]), vm 8 22]) (.seq (rg [vm 23 6, vm 24 8, vo 25 (.bsl 3 1 1 [(iI 0)] [(0,1,24)]), vo 26 (.app 3 1 8 23 25), vm 6 26]) (rg [vm 27 5, vm 28 8, vo 29 (.bin .sub 27 28), vm 5 29]))))) (rg [vo 30 (.bin .add 12 (kI 1)), vm 12 30]))))))) (.seq (rg [vm 31 6, vo 32 (.ixA 1 31 (kI 5)), vo 33 (.load 1 false 32), vm 34 5, vo 35 (.bin .add 33 34), vo 36 (.ixA 1 31 (kI 5)), vp (.store 1 36 35)]) (.seq (rg [vm 37 6, vm 4 37]) .ret))))))
theorem c30 : (Tryz.f30.body.bind fun c => cCode Tryz.prog 38 c) = some v30 := by kernel_rfl
def v35 : VC := (.seq (rg [vo 0 (.mv (.con (.c .nilS)))]) (.seq (rg [vo 1 (.bsl 9 1 6 [iS] [(0,1,(.con (.c (.imm (.sc (.string ⟨#[114,101,97,100,121]⟩)))))),(1,1,(.con (.c (.imm (.sc (.string ⟨#[97,115,108,101,101,112]⟩)))))),(2,1,(.con (.c (.imm (.sc (.string ⟨#[98,108,111,99,107,101,100]⟩)))))),(3,1,(.con (.c (.imm (.sc (.string ⟨#[103,111,110,101]⟩)))))),(4,1,(.con (.c (.imm (.sc (.string ⟨#[114,117,110,110,105,110,103]⟩)))))),(5,1,(.con (.c (.imm (.sc (.string ⟨#[117,110,107,110,111,119,110]⟩))))))]), vm 0 1]) .ret))
theorem c35 : (Tryz.f35.body.bind fun c => cCode Tryz.prog 2 c) = some v35 := by kernel_rfl
def v83 : VC := (.seq (rg [vm 4 0, vo 5 (.lenS 4), vo 6 (.bin .sub 5 (kI 1)), vo 2 (.mv (kI 0)), vm 3 6]) (.block 0 (.loop (.seq (.seq (rg [vm 7 2, vm 8 3, vo 9 (.bin .lss 7 8)]) (.cond 9 .skip (.exit 0))) (.seq (.block 1 (.region (some [0,0,0,0,0,0,48,112,0,0,768,1792,4083,8179,16383,32767,1,1,1,1,1,1,0,0,1,1,0,0,0,0,0,0]) [vm 14 0, vm 15 2, vm 16 0, vm 17 3, vm 18 0, vm 19 3, vo 20 (.ixA 1 18 19), vo 21 (.load 1 false 20), vm 22 0, vm 23 2, vo 24 (.ixA 1 22 23), vo 25 (.load 1 false 24), vo 26 (.ixA 1 14 15), vp (.store 1 26 21), vo 27 (.ixA 1 16 17), vp (.store 1 27 25)])) (rg [vm 10 2, vo 11 (.bin .add 10 (kI 1)), vm 12 3, vo 13 (.bin .sub 12 (kI 1)), vm 2 11, vm 3 13]))))))
theorem c83 : (Tryz.f83.body.bind fun c => cCode Tryz.prog 28 c) = some v83 := by kernel_rfl
def v36 : VC := (.seq (rg [vo 4 (.mv (.con (.c .nilS)))]) (.seq (.seq (rg [vm 7 1, vo 8 (.bin .lss 7 (kI 0)), vm 9 8, vg 10 9 false (.mv 1), vg 11 9 false (.mv 0), vg 12 9 false (.lenS 11), vg 13 9 false (.bin .geq 10 12), vo 14 (.pick 9 (kB true) 13)]) (.cond 14 (.seq (rg [vo 4 (.mv (.con (.c .nilS)))]) .ret) .skip)) (.seq (rg [vo 5 (.mv (.con (.c .nilS)))]) (.seq (.seq (rg [vo 6 (.mv (kI 0))]) (.block 0 (.loop (.seq (.seq (rg [vm 15 1, vo 16 (.bin .geq 15 (kI 0)), vm 17 16, vg 18 17 true (.mv 1), vg 19 17 true (.mv 0), vg 20 17 true (.lenS 19), vg 21 17 true (.bin .lss 18 20), vo 22 (.pick 17 21 (kB false)), vm 23 22, vg 24 23 true (.mv 6), vg 25 23 true (.mv 0), vg 26 23 true (.lenS 25), vg 27 23 true (.bin .leq 24 26), vo 28 (.pick 23 27 (kB false))]) (.cond 28 .skip (.exit 0))) (.seq (.block 1 (.seq (rg [vm 31 5, vm 32 0, vm 33 1, vo 34 (.ixA 8 32 33), vo 35 (.fld 3 34), vo 36 (.load 1 false 35), vo 37 (.bsl 9 1 1 [iS] [(0,1,36)]), vo 38 (.app 9 1 16 31 37), vm 5 38]) (rg [vm 39 0, vm 40 1, vo 41 (.ixA 8 39 40), vo 42 (.fld 1 41), vo 43 (.load 1 false 42), vm 1 43]))) (rg [vm 29 6, vo 30 (.bin .add 29 (kI 1)), vm 6 30])))))) (.seq (rg [vm 44 5, vo 45 (.call 83 [44])]) (.seq (rg [vm 46 5, vm 4 46]) .ret))))))
theorem c36 : (Tryz.f36.body.bind fun c => cCode Tryz.prog 47 c) = some v36 := by kernel_rfl
def v23 : VC := (.seq (rg [vo 3 (.box 33 0), vo 6 (.mv (.con (.c .nilS)))]) (.seq (rg [vo 7 (.mv (.con (.c .nilS)))]) (.seq (.region (some [0,0,2,0,14,30,63,0,0,256,0,1792,3840,8191,16383,32767,0,0,0,1,0,0,0,0,0,0,1,0,0,0,0,0]) [vo 13 (.load 10 true 3), vo 14 (.fld 3 3), vo 15 (.load 1 false 14), vm 16 1, vo 17 (.ixA 8 15 16), vo 18 (.load 8 true 17), vo 19 (.call 30 [13,18]), vo 20 (.load 10 true 3), vo 21 (.fld 3 3), vo 22 (.load 1 false 21), vm 23 2, vo 24 (.ixA 8 22 23), vo 25 (.load 8 true 24), vo 26 (.call 30 [20,25]), vm 8 19, vm 9 26]) (.seq (.seq (rg [vo 27 (.call 35 []), vo 28 (.lenS 27), vo 29 (.mv (kI 0))]) (.block 0 (.loop (.seq (rg [vo 30 (.bin .lss 29 28)]) (.seq (.cond 30 .skip (.exit 0)) (.seq (.block 1 (.seq (rg [vm 31 29, vo 32 (.ixA 1 27 29), vo 33 (.load 1 false 32), vm 10 31, vm 11 33]) (.seq (.region (some [0,0,3,7,0,0,48,112,255,511,1,1,0,0,1,1,0,0,0,0]) [vm 34 8, vm 35 10, vo 36 (.ixA 1 34 35), vo 37 (.load 1 false 36), vm 38 9, vm 39 10, vo 40 (.ixA 1 38 39), vo 41 (.load 1 false 40), vo 42 (.bin .sub 37 41), vm 12 42]) (.seq (rg [vm 43 12, vo 44 (.bin .neq 43 (kI 0))]) (.cond 44 (rg [vm 45 7, vo 46 (.fld 3 3), vo 47 (.load 1 false 46), vm 48 1, vo 49 (.call 36 [47,48]), vm 50 11, vm 51 12, vo 52 (.build [(iI 0),(iI 0)] [(0,1,51),(1,1,(kI 1))]), vo 53 (.build [.nilS,iS,(iI 0),(iI 0)] [(0,1,49),(1,1,50),(2,2,52)]), vo 54 (.bsl 61 4 1 [.nilS,iS,(iI 0),(iI 0)] [(0,4,53)]), vo 55 (.app 61 4 56 45 54), vm 7 55]) .skip))))) (rg [vo 56 (.bin .add 29 (kI 1)), vm 29 56]))))))) (.seq (rg [vm 57 7, vm 6 57]) .ret)))))
theorem c23 : (Tryz.f23.body.bind fun c => cCode Tryz.prog 58 c) = some v23 := by kernel_rfl
def v10 : VC := (.seq (rg [vo 3 (.box 33 0), vo 6 (.mv (.con (.c .nilS))), vo 7 (.mv (kI 0))]) (.seq (.seq (rg [vo 15 (.load 10 true 3), vo 16 (.call 19 [15]), vm 8 16]) (.seq (rg [vm 17 8, vo 18 (.bin .neq 17 (kI 0))]) (.cond 18 (.seq (rg [vm 19 8, vo 6 (.mv (.con (.c .nilS))), vm 7 19]) .ret) .skip))) (.seq (.seq (rg [vm 20 2, vo 21 (.bin .lss 20 (kI 1)), vm 22 21, vg 23 22 false (.mv 1), vg 24 22 false (.mv 2), vg 25 22 false (.bin .lss 23 24), vo 26 (.pick 22 (kB true) 25), vm 27 26, vg 28 27 false (.mv 1), vg 29 27 false (.bin .gtr 28 (kI 1000)), vo 30 (.pick 27 (kB true) 29)]) (.cond 30 (.seq (rg [vo 6 (.mv (.con (.c .nilS))), vo 7 (.mv (kI 1))]) .ret) .skip)) (.seq (rg [vo 9 (.mv (.con (.c .nilS)))]) (.seq (.seq (rg [vo 31 (.fld 3 3), vo 32 (.load 1 false 31), vo 33 (.lenS 32), vo 34 (.mv (kI 0))]) (.block 0 (.loop (.seq (rg [vo 35 (.bin .lss 34 33)]) (.seq (.cond 35 .skip (.exit 0)) (.seq (.block 1 (.seq (rg [vm 36 34, vo 37 (.ixA 8 32 34), vo 38 (.load 8 true 37), vo 11 (.alloc 47 [(iI 0),(iI 0),(iI 0),iS,(iI 0),(iI 0),(iI 0),(.imm (.sc (.bool false)))]), vm 10 36, vp (.store 8 11 38)]) (.seq (.seq (rg [vo 39 (.fld 7 11), vo 40 (.load 1 false 39), vm 41 40, vg 42 41 false (.load 10 true 3), vg 43 41 false (.fld 3 11), vg 44 41 false (.load 1 false 43), vg 45 41 false (.call 20 [42,44]), vg 46 41 false (.lenS 45), vg 47 41 false (.bin .lss 46 (kI 3)), vo 48 (.pick 41 (kB true) 47)]) (.cond 48 (.exit 1) .skip)) (.seq (rg [vo 50 (.load 10 true 3), vo 51 (.fld 3 11), vo 52 (.load 1 false 51), vo 53 (.call 21 [50,52]), vm 49 53, vo 54 (.ext 49 0), vo 55 (.ext 49 1), vm 12 54, vm 13 55]) (.seq (.seq (rg [vm 56 13, vo 57 (.un .not 56)]) (.cond 57 (.exit 1) .skip)) (.seq (rg [vo 58 (.fld 3 3), vo 59 (.load 1 false 58), vm 60 12, vo 61 (.ixA 8 59 60), vo 62 (.load 8 true 61), vo 63 (.call 22 [62]), vm 14 63]) (.seq (rg [vm 64 2, vo 65 (.load 8 true 11), vo 66 (.call 22 [65]), vo 67 (.bin .mul 64 66), vm 68 1, vm 69 14, vo 70 (.bin .mul 68 69), vo 71 (.bin .gtr 67 70)]) (.cond 71 (.region (some [0,0,0,4,0,28,0,0,0,460,1022,2046,4095,8191,1,1,0,0,1,0,0,1,1,0,0,0,0,0]) [vm 72 9, vm 73 10, vo 74 (.load 8 true 11), vo 75 (.call 22 [74]), vm 76 14, vo 77 (.bin .sub 75 76), vo 78 (.load 10 true 3), vm 79 10, vm 80 12, vo 81 (.call 23 [78,79,80]), vo 82 (.build [(iI 0),(iI 0),.nilS] [(0,1,73),(1,1,77),(2,1,81)]), vo 83 (.bsl 42 3 1 [(iI 0),(iI 0),.nilS] [(0,3,82)]), vo 84 (.app 42 3 40 72 83), vm 9 84]) .skip)))))))) (rg [vo 85 (.bin .add 34 (kI 1)), vm 34 85]))))))) (.seq (rg [vm 86 9, vm 6 86, vo 7 (.mv (kI 0))]) .ret))))))
theorem c10 : (Tryz.f10.body.bind fun c => cCode Tryz.prog 87 c) = some v10 := by kernel_rfl
def v15 : VC := (.seq (rg [vo 2 (.box 33 0), vo 4 (.mv (kI 0)), vo 5 (.mv (kI 0))]) (.seq (.seq (rg [vo 9 (.load 10 true 2), vo 10 (.call 19 [9]), vm 6 10]) (.seq (rg [vm 11 6, vo 12 (.bin .neq 11 (kI 0))]) (.cond 12 (.seq (rg [vm 13 6, vo 4 (.mv (kI 0)), vm 5 13]) .ret) .skip))) (.seq (rg [vo 15 (.load 10 true 2), vm 16 1, vo 17 (.call 21 [15,16]), vm 14 17, vo 18 (.ext 14 0), vo 19 (.ext 14 1), vm 7 18, vm 8 19]) (.seq (.seq (rg [vm 20 8, vo 21 (.un .not 20)]) (.cond 21 (.seq (rg [vo 4 (.mv (kI 0)), vo 5 (.mv (kI 5))]) .ret) .skip)) (.seq (rg [vm 22 7, vm 4 22, vo 5 (.mv (kI 0))]) .ret)))))
theorem c15 : (Tryz.f15.body.bind fun c => cCode Tryz.prog 23 c) = some v15 := by kernel_rfl
def v9 : VC := (.seq (rg [vo 0 (.mv (kB false))]) (.seq (rg [vo 10 (.bsl 3 1 3 [(iI 0)] [(0,1,(kI 10)),(1,1,(kI 10)),(2,1,(kI 40))]), vo 11 (.call 18 [(kI 30),10]), vo 12 (.call 10 [11,(kI 2),(kI 1)]), vm 9 12, vo 13 (.ext 9 0), vo 14 (.ext 9 1), vm 1 13, vm 2 14]) (.seq (rg [vo 16 (.bsl 3 1 2 [(iI 0)] [(0,1,(kI 10)),(1,1,(kI 40))]), vo 17 (.call 18 [(kI 0),16]), vo 18 (.call 10 [17,(kI 2),(kI 1)]), vm 15 18, vo 19 (.ext 15 0), vo 20 (.ext 15 1), vm 3 19, vm 4 20]) (.seq (rg [vo 22 (.bsl 3 1 3 [(iI 0)] [(0,1,(kI 1)),(1,1,(kI 2)),(2,1,(kI 3))]), vo 23 (.call 18 [(kI 0),22]), vo 24 (.call 15 [23,(.con (.c (.imm (.sc (.string ⟨#[102]⟩)))))]), vm 21 24, vo 25 (.ext 21 0), vo 26 (.ext 21 1), vm 5 25, vm 6 26]) (.seq (rg [vo 28 (.bsl 3 1 3 [(iI 0)] [(0,1,(kI 1)),(1,1,(kI 2)),(2,1,(kI 3))]), vo 29 (.call 18 [(kI 0),28]), vo 30 (.call 10 [29,(kI 1),(kI 1)]), vm 27 30, vo 31 (.ext 27 0), vo 32 (.ext 27 1), vm 7 31, vm 8 32]) (.seq (rg [vm 33 2, vo 34 (.bin .eql 33 (kI 0)), vm 35 34, vg 36 35 true (.mv 1), vg 37 35 true (.lenS 36), vg 38 35 true (.bin .eql 37 (kI 1)), vo 39 (.pick 35 38 (kB false)), vm 40 39, vg 41 40 true (.mv 1), vg 42 40 true (.ixA 3 41 (kI 0)), vg 43 40 true (.fld 0 42), vg 44 40 true (.load 1 false 43), vg 45 40 true (.bin .eql 44 (kI 2)), vo 46 (.pick 40 45 (kB false)), vm 47 46, vg 48 47 true (.mv 1), vg 49 47 true (.ixA 3 48 (kI 0)), vg 50 47 true (.fld 1 49), vg 51 47 true (.load 1 false 50), vg 52 47 true (.bin .eql 51 (kI 30)), vo 53 (.pick 47 52 (kB false)), vm 54 53, vg 55 54 true (.mv 1), vg 56 54 true (.ixA 3 55 (kI 0)), vg 57 54 true (.fld 2 56), vg 58 54 true (.load 1 false 57), vg 59 54 true (.lenS 58), vg 60 54 true (.bin .eql 59 (kI 1)), vo 61 (.pick 54 60 (kB false)), vm 62 61, vg 63 62 true (.mv 1), vg 64 62 true (.ixA 3 63 (kI 0)), vg 65 62 true (.fld 2 64), vg 66 62 true (.load 1 false 65), vg 67 62 true (.ixA 4 66 (kI 0)), vg 68 62 true (.fld 1 67), vg 69 62 true (.load 1 false 68), vg 70 62 true (.bin .eql 69 (.con (.c (.imm (.sc (.string ⟨#[97,115,108,101,101,112]⟩)))))), vo 71 (.pick 62 70 (kB false)), vm 72 71, vg 73 72 true (.mv 1), vg 74 72 true (.ixA 3 73 (kI 0)), vg 75 72 true (.fld 2 74), vg 76 72 true (.load 1 false 75), vg 77 72 true (.ixA 4 76 (kI 0)), vg 78 72 true (.fld 2 77), vg 79 72 true (.fld 0 78), vg 80 72 true (.load 1 false 79), vg 81 72 true (.bin .eql 80 (kI 30)), vo 82 (.pick 72 81 (kB false)), vm 83 82, vg 84 83 true (.mv 4), vg 85 83 true (.bin .eql 84 (kI 0)), vo 86 (.pick 83 85 (kB false)), vm 87 86, vg 88 87 true (.mv 3), vg 89 87 true (.lenS 88), vg 90 87 true (.bin .eql 89 (kI 0)), vo 91 (.pick 87 90 (kB false)), vm 92 91, vg 93 92 true (.mv 6), vg 94 92 true (.bin .eql 93 (kI 0)), vo 95 (.pick 92 94 (kB false)), vm 96 95, vg 97 96 true (.mv 5), vg 98 96 true (.bin .eql 97 (kI 1)), vo 99 (.pick 96 98 (kB false)), vm 100 99, vg 101 100 true (.mv 8), vg 102 100 true (.bin .eql 101 (kI 0)), vo 103 (.pick 100 102 (kB false)), vm 104 103, vg 105 104 true (.mv 7), vg 106 104 true (.lenS 105), vg 107 104 true (.bin .eql 106 (kI 1)), vo 108 (.pick 104 107 (kB false)), vm 109 108, vg 110 109 true (.mv 7), vg 111 109 true (.ixA 3 110 (kI 0)), vg 112 109 true (.fld 0 111), vg 113 109 true (.load 1 false 112), vg 114 109 true (.bin .eql 113 (kI 2)), vo 115 (.pick 109 114 (kB false)), vm 0 115]) .ret))))))
theorem c9 : (Tryz.f9.body.bind fun c => cCode Tryz.prog 116 c) = some v9 := by kernel_rfl
def v47 : VC := (.seq (rg [vo 2 (.mv (.con (.c (.imm (.sc (.int .u64 0))))))]) (.seq (.seq (rg [vm 3 0, vo 4 (.bin .lss 3 (kI 0))]) (.cond 4 (.seq (rg [vm 5 0, vo 6 (.bin .add 5 (kI 1)), vo 7 (.un .neg 6), vo 8 (.cvi .u64 7), vo 9 (.bin .add 8 (.con (.c (.imm (.sc (.int .u64 1)))))), vm 2 9]) .ret) .skip)) (.seq (rg [vm 10 0, vo 11 (.cvi .u64 10), vm 2 11]) .ret)))
theorem c47 : (Tryz.f47.body.bind fun c => cCode Tryz.prog 12 c) = some v47 := by kernel_rfl
def v91 : VC := (.seq (rg [vo 2 (.box 97 0), vo 3 (.box 97 1), vo 4 (.alloc 97 [(.imm (.sc (.int .u64 0))),(.imm (.sc (.int .u64 0)))])]) (.seq (rg [vo 6 (.fld 0 2), vo 7 (.load 1 false 6), vo 8 (.fld 0 3), vo 9 (.load 1 false 8), vo 10 (.bin .add 7 9), vo 11 (.fld 1 2), vo 12 (.load 1 false 11), vo 13 (.fld 1 3), vo 14 (.load 1 false 13), vo 15 (.bin .add 12 14), vo 16 (.build [(.imm (.sc (.int .u64 0))),(.imm (.sc (.int .u64 0)))] [(0,1,10),(1,1,15)]), vo 5 (.alloc 97 [(.imm (.sc (.int .u64 0))),(.imm (.sc (.int .u64 0)))]), vp (.store 2 5 16)]) (.seq (.seq (rg [vo 17 (.fld 1 5), vo 18 (.load 1 false 17), vo 19 (.fld 1 2), vo 20 (.load 1 false 19), vo 21 (.bin .lss 18 20)]) (.cond 21 (rg [vo 22 (.fld 0 5), vo 23 (.load 1 false 22), vo 24 (.bin .add 23 (.con (.c (.imm (.sc (.int .u64 1)))))), vo 25 (.fld 0 5), vp (.store 1 25 24)]) .skip)) (.seq (rg [vo 26 (.load 2 true 5), vp (.store 2 4 26)]) .ret))))
theorem c91 : (Tryz.f91.body.bind fun c => cCode Tryz.prog 27 c) = some v91 := by kernel_rfl
def v127 : VC := (.seq (rg [vo 2 (.box 97 0), vo 4 (.mv (.con (.c (.imm (.sc (.int .u64 0))))))]) (.seq (.seq (rg [vm 5 1, vo 6 (.bin .geq 5 (kI 64))]) (.cond 6 (.seq (rg [vo 7 (.fld 0 2), vo 8 (.load 1 false 7), vm 9 1, vo 10 (.bin .sub 9 (kI 64)), vo 11 (.cvi .u64 10), vo 12 (.bin .shr 8 11), vo 13 (.bin .rem 12 (.con (.c (.imm (.sc (.int .u64 2)))))), vm 4 13]) .ret) .skip)) (.seq (rg [vo 14 (.fld 1 2), vo 15 (.load 1 false 14), vm 16 1, vo 17 (.cvi .u64 16), vo 18 (.bin .shr 15 17), vo 19 (.bin .rem 18 (.con (.c (.imm (.sc (.int .u64 2)))))), vm 4 19]) .ret)))
theorem c127 : (Tryz.f127.body.bind fun c => cCode Tryz.prog 20 c) = some v127 := by kernel_rfl
def v92 : VC := (.seq (rg [vo 2 (.box 97 0), vo 3 (.box 97 1), vo 4 (.mv (kB false))]) (.seq (rg [vo 5 (.fld 0 2), vo 6 (.load 1 false 5), vo 7 (.fld 0 3), vo 8 (.load 1 false 7), vo 9 (.bin .lss 6 8), vm 10 9, vg 11 10 false (.fld 0 2), vg 12 10 false (.load 1 false 11), vg 13 10 false (.fld 0 3), vg 14 10 false (.load 1 false 13), vg 15 10 false (.bin .eql 12 14), vg 16 10 false (.mv 15), vg 17 16 true (.fld 1 2), vg 18 16 true (.load 1 false 17), vg 19 16 true (.fld 1 3), vg 20 16 true (.load 1 false 19), vg 21 16 true (.bin .lss 18 20), vg 22 10 false (.pick 16 21 (kB false)), vo 23 (.pick 10 (kB true) 22), vm 4 23]) .ret))
theorem c92 : (Tryz.f92.body.bind fun c => cCode Tryz.prog 24 c) = some v92 := by kernel_rfl
def v93 : VC := (.seq (rg [vo 2 (.box 97 0), vo 3 (.box 97 1), vo 4 (.alloc 97 [(.imm (.sc (.int .u64 0))),(.imm (.sc (.int .u64 0)))])]) (.seq (rg [vo 6 (.fld 0 2), vo 7 (.load 1 false 6), vo 8 (.fld 0 3), vo 9 (.load 1 false 8), vo 10 (.bin .sub 7 9), vo 11 (.fld 1 2), vo 12 (.load 1 false 11), vo 13 (.fld 1 3), vo 14 (.load 1 false 13), vo 15 (.bin .sub 12 14), vo 16 (.build [(.imm (.sc (.int .u64 0))),(.imm (.sc (.int .u64 0)))] [(0,1,10),(1,1,15)]), vo 5 (.alloc 97 [(.imm (.sc (.int .u64 0))),(.imm (.sc (.int .u64 0)))]), vp (.store 2 5 16)]) (.seq (.seq (rg [vo 17 (.fld 1 2), vo 18 (.load 1 false 17), vo 19 (.fld 1 3), vo 20 (.load 1 false 19), vo 21 (.bin .lss 18 20)]) (.cond 21 (rg [vo 22 (.fld 0 5), vo 23 (.load 1 false 22), vo 24 (.bin .sub 23 (.con (.c (.imm (.sc (.int .u64 1)))))), vo 25 (.fld 0 5), vp (.store 1 25 24)]) .skip)) (.seq (rg [vo 26 (.load 2 true 5), vp (.store 2 4 26)]) .ret))))
theorem c93 : (Tryz.f93.body.bind fun c => cCode Tryz.prog 27 c) = some v93 := by kernel_rfl
def v94 : VC := (.seq (rg [vo 2 (.box 97 0), vo 3 (.box 97 1), vo 4 (.alloc 97 [(.imm (.sc (.int .u64 0))),(.imm (.sc (.int .u64 0)))]), vo 5 (.alloc 97 [(.imm (.sc (.int .u64 0))),(.imm (.sc (.int .u64 0)))])]) (.seq (rg [vo 9 (.build [(.imm (.sc (.int .u64 0))),(.imm (.sc (.int .u64 0)))] []), vo 10 (.build [(.imm (.sc (.int .u64 0))),(.imm (.sc (.int .u64 0)))] []), vo 6 (.alloc 97 [(.imm (.sc (.int .u64 0))),(.imm (.sc (.int .u64 0)))]), vo 7 (.alloc 97 [(.imm (.sc (.int .u64 0))),(.imm (.sc (.int .u64 0)))]), vp (.store 2 6 9), vp (.store 2 7 10)]) (.seq (.seq (rg [vo 8 (.mv (kI 127))]) (.block 0 (.loop (.seq (.seq (rg [vm 11 8, vo 12 (.bin .geq 11 (kI 0))]) (.cond 12 .skip (.exit 0))) (.seq (.block 1 (.seq (rg [vo 15 (.load 2 true 6), vo 16 (.load 2 true 6), vo 17 (.call 91 [15,16]), vp (.store 2 6 17)]) (.seq (.region (some [0,0,3,0,0,31,63,127,255,0,0,0,0,1,0,0,0,0]) [vo 18 (.load 2 true 7), vo 19 (.load 2 true 7), vo 20 (.call 91 [18,19]), vo 21 (.load 2 true 2), vm 22 8, vo 23 (.call 127 [21,22]), vo 24 (.build [(.imm (.sc (.int .u64 0))),(.imm (.sc (.int .u64 0)))] [(1,1,23)]), vo 25 (.call 91 [20,24]), vp (.store 2 7 25)]) (.seq (rg [vo 26 (.load 2 true 7), vo 27 (.load 2 true 3), vo 28 (.call 92 [26,27]), vo 29 (.un .not 28)]) (.cond 29 (.seq (rg [vo 30 (.load 2 true 7), vo 31 (.load 2 true 3), vo 32 (.call 93 [30,31]), vp (.store 2 7 32)]) (rg [vo 33 (.fld 1 6), vo 34 (.load 1 false 33), vo 35 (.bin .add 34 (.con (.c (.imm (.sc (.int .u64 1)))))), vo 36 (.fld 1 6), vp (.store 1 36 35)])) .skip))))) (rg [vm 13 8, vo 14 (.bin .sub 13 (kI 1)), vm 8 14])))))) (.seq (.region (some [0,0,1,7,0,0,0,0]) [vo 37 (.load 2 true 6), vo 38 (.load 2 true 7), vp (.store 2 4 37), vp (.store 2 5 38)]) .ret))))
theorem c94 : (Tryz.f94.body.bind fun c => cCode Tryz.prog 39 c) = some v94 := by kernel_rfl
def v89 : VC := (.seq (rg [vo 2 (.box 97 0), vo 3 (.box 97 1), vo 4 (.alloc 97 [(.imm (.sc (.int .u64 0))),(.imm (.sc (.int .u64 0)))])]) (.seq (.block 0 (.loop (.seq (.seq (rg [vo 7 (.load 2 true 3), vo 8 (.build [(.imm (.sc (.int .u64 0))),(.imm (.sc (.int .u64 0)))] []), vo 9 (.aeq true 97 7 8)]) (.cond 9 .skip (.exit 0))) (.block 1 (.seq (rg [vo 11 (.load 2 true 2), vo 12 (.load 2 true 3), vo 13 (.call 94 [11,12]), vm 10 13, vo 14 (.ext 10 0), vo 15 (.ext 10 1), vo 5 (.alloc 97 [(.imm (.sc (.int .u64 0))),(.imm (.sc (.int .u64 0)))]), vo 6 (.alloc 97 [(.imm (.sc (.int .u64 0))),(.imm (.sc (.int .u64 0)))]), vp (.store 2 5 14), vp (.store 2 6 15)]) (.seq (rg [vo 16 (.load 2 true 3), vp (.store 2 2 16)]) (rg [vo 17 (.load 2 true 6), vp (.store 2 3 17)]))))))) (.seq (rg [vo 18 (.load 2 true 2), vp (.store 2 4 18)]) .ret)))
theorem c89 : (Tryz.f89.body.bind fun c => cCode Tryz.prog 19 c) = some v89 := by kernel_rfl
def v88 : VC := (.seq (rg [vo 1 (.box 55 0), vo 2 (.mv (kB false))]) (.seq (.seq (rg [vo 3 (.fld 1 1), vo 4 (.load 1 false 3), vo 5 (.bin .lss 4 (kI 1)), vm 6 5, vg 7 6 false (.fld 1 1), vg 8 6 false (.load 1 false 7), vg 9 6 false (.bin .gtr 8 (kI 1000000000000000)), vo 10 (.pick 6 (kB true) 9), vm 11 10, vg 12 11 false (.fld 0 1), vg 13 11 false (.load 1 false 12), vg 14 11 false (.bin .lss 13 (kI (-4611686018427387904))), vo 15 (.pick 11 (kB true) 14), vm 16 15, vg 17 16 false (.fld 0 1), vg 18 16 false (.load 1 false 17), vg 19 16 false (.bin .gtr 18 (kI 4611686018427387904)), vo 20 (.pick 16 (kB true) 19)]) (.cond 20 (.seq (rg [vo 2 (.mv (kB false))]) .ret) .skip)) (.seq (.region (some [0,1,3,7,0,16,55,119,255,0,1023,2047,0,0,0,0,0,0,0,0,0,0,0,0]) [vo 21 (.fld 0 1), vo 22 (.load 1 false 21), vo 23 (.call 47 [22]), vo 24 (.build [(.imm (.sc (.int .u64 0))),(.imm (.sc (.int .u64 0)))] [(1,1,23)]), vo 25 (.fld 1 1), vo 26 (.load 1 false 25), vo 27 (.call 47 [26]), vo 28 (.build [(.imm (.sc (.int .u64 0))),(.imm (.sc (.int .u64 0)))] [(1,1,27)]), vo 29 (.call 89 [24,28]), vo 30 (.build [(.imm (.sc (.int .u64 0))),(.imm (.sc (.int .u64 0)))] [(1,1,(.con (.c (.imm (.sc (.int .u64 1))))))]), vo 31 (.aeq false 97 29 30), vm 2 31]) .ret)))
theorem c88 : (Tryz.f88.body.bind fun c => cCode Tryz.prog 32 c) = some v88 := by kernel_rfl
def v90 : VC := (.seq (rg [vo 4 (.alloc 97 [(.imm (.sc (.int .u64 0))),(.imm (.sc (.int .u64 0)))])]) (.seq (rg [vo 7 (.build [(.imm (.sc (.int .u64 0))),(.imm (.sc (.int .u64 0)))] []), vo 5 (.alloc 97 [(.imm (.sc (.int .u64 0))),(.imm (.sc (.int .u64 0)))]), vp (.store 2 5 7)]) (.seq (.seq (rg [vo 6 (.mv (kI 63))]) (.block 0 (.loop (.seq (.seq (rg [vm 8 6, vo 9 (.bin .geq 8 (kI 0))]) (.cond 9 .skip (.exit 0))) (.seq (.block 1 (.seq (rg [vo 12 (.load 2 true 5), vo 13 (.load 2 true 5), vo 14 (.call 91 [12,13]), vp (.store 2 5 14)]) (.seq (rg [vm 15 1, vo 16 (.build [(.imm (.sc (.int .u64 0))),(.imm (.sc (.int .u64 0)))] [(1,1,15)]), vm 17 6, vo 18 (.call 127 [16,17]), vo 19 (.bin .eql 18 (.con (.c (.imm (.sc (.int .u64 1))))))]) (.cond 19 (rg [vo 20 (.load 2 true 5), vm 21 0, vo 22 (.build [(.imm (.sc (.int .u64 0))),(.imm (.sc (.int .u64 0)))] [(1,1,21)]), vo 23 (.call 91 [20,22]), vp (.store 2 5 23)]) .skip)))) (rg [vm 10 6, vo 11 (.bin .sub 10 (kI 1)), vm 6 11])))))) (.seq (rg [vo 24 (.load 2 true 5), vp (.store 2 4 24)]) .ret))))
theorem c90 : (Tryz.f90.body.bind fun c => cCode Tryz.prog 25 c) = some v90 := by kernel_rfl
def v43 : VC := (.seq (rg [vo 2 (.mv (kI 0)), vo 3 (.mv (kB false))]) (.seq (rg [vo 4 (.mv (kI 1))]) (.seq (.seq (rg [vo 5 (.mv (kI 0))]) (.block 0 (.loop (.seq (.seq (rg [vm 8 5, vm 9 0, vo 10 (.lenS 9), vo 11 (.bin .lss 8 10)]) (.cond 11 .skip (.exit 0))) (.seq (.block 1 (.seq (.seq (rg [vm 14 0, vm 15 5, vo 16 (.ixA 2 14 15), vo 17 (.load 2 true 16), vo 18 (.call 88 [17]), vo 19 (.un .not 18)]) (.cond 19 (.seq (rg [vo 2 (.mv (kI 0)), vo 3 (.mv (kB false))]) .ret) .skip)) (.seq (.region (some [0,1,3,0,0,24,56,120,251,507,1023,0,4095,1,0,0,1,1,0,0,0,0,0,0,0,0]) [vm 20 4, vo 21 (.call 47 [20]), vo 22 (.build [(.imm (.sc (.int .u64 0))),(.imm (.sc (.int .u64 0)))] [(1,1,21)]), vm 23 0, vm 24 5, vo 25 (.ixA 2 23 24), vo 26 (.fld 1 25), vo 27 (.load 1 false 26), vo 28 (.call 47 [27]), vo 29 (.build [(.imm (.sc (.int .u64 0))),(.imm (.sc (.int .u64 0)))] [(1,1,28)]), vo 30 (.call 89 [22,29]), vo 6 (.alloc 97 [(.imm (.sc (.int .u64 0))),(.imm (.sc (.int .u64 0)))]), vp (.store 2 6 30)]) (.seq (.region (some [0,1,0,4,15,0,0,96,224,480,995,2047,0,8191,1,0,0,0,0,1,1,0,0,0,0,0,0,0]) [vm 31 4, vo 32 (.call 47 [31]), vo 33 (.fld 1 6), vo 34 (.load 1 false 33), vo 35 (.bin .quo 32 34), vm 36 0, vm 37 5, vo 38 (.ixA 2 36 37), vo 39 (.fld 1 38), vo 40 (.load 1 false 39), vo 41 (.call 47 [40]), vo 42 (.call 90 [35,41]), vo 7 (.alloc 97 [(.imm (.sc (.int .u64 0))),(.imm (.sc (.int .u64 0)))]), vp (.store 2 7 42)]) (.seq (.seq (rg [vo 43 (.fld 0 7), vo 44 (.load 1 false 43), vo 45 (.bin .neq 44 (.con (.c (.imm (.sc (.int .u64 0)))))), vm 46 45, vg 47 46 false (.fld 1 7), vg 48 46 false (.load 1 false 47), vg 49 46 false (.bin .gtr 48 (.con (.c (.imm (.sc (.int .u64 1000000000000000)))))), vo 50 (.pick 46 (kB true) 49)]) (.cond 50 (.seq (rg [vo 2 (.mv (kI 0)), vo 3 (.mv (kB false))]) .ret) .skip)) (rg [vo 51 (.fld 1 7), vo 52 (.load 1 false 51), vo 53 (.cvi .i64 52), vm 4 53])))))) (rg [vm 12 5, vo 13 (.bin .add 12 (kI 1)), vm 5 13])))))) (.seq (rg [vm 54 4, vm 2 54, vo 3 (.mv (kB true))]) .ret))))
theorem c43 : (Tryz.f43.body.bind fun c => cCode Tryz.prog 55 c) = some v43 := by kernel_rfl
def v45 : VC := (.seq (rg [vo 4 (.alloc 99 [(.imm (.sc (.bool false))),(.imm (.sc (.int .u64 0))),(.imm (.sc (.int .u64 0)))])]) (.seq (rg [vm 5 0, vo 6 (.bin .lss 5 (kI 0)), vm 7 0, vo 8 (.call 47 [7]), vm 9 1, vo 10 (.call 47 [9]), vo 11 (.call 90 [8,10]), vo 12 (.build [(.imm (.sc (.bool false))),(.imm (.sc (.int .u64 0))),(.imm (.sc (.int .u64 0)))] [(0,1,6),(1,2,11)]), vp (.store 3 4 12)]) .ret))
theorem c45 : (Tryz.f45.body.bind fun c => cCode Tryz.prog 13 c) = some v45 := by kernel_rfl
def v44 : VC := (.seq (rg [vo 2 (.box 99 0), vo 3 (.box 99 1), vo 4 (.alloc 99 [(.imm (.sc (.bool false))),(.imm (.sc (.int .u64 0))),(.imm (.sc (.int .u64 0)))])]) (.seq (.block 0 (.seq (rg [vo 6 (.fld 0 2), vo 7 (.load 1 false 6), vo 8 (.fld 0 3), vo 9 (.load 1 false 8), vo 10 (.beq false 7 9), vm 5 10]) (.cond 5 (.seq (.region (some [0,1,0,4,0,16,60,127,255,0,0,0,0,0,0,0,0,0]) [vo 11 (.fld 0 2), vo 12 (.load 1 false 11), vo 13 (.fld 1 2), vo 14 (.load 2 true 13), vo 15 (.fld 1 3), vo 16 (.load 2 true 15), vo 17 (.call 91 [14,16]), vo 18 (.build [(.imm (.sc (.bool false))),(.imm (.sc (.int .u64 0))),(.imm (.sc (.int .u64 0)))] [(0,1,12),(1,2,17)]), vp (.store 3 4 18)]) .ret) (.seq (rg [vo 20 (.fld 1 2), vo 21 (.load 2 true 20), vo 22 (.fld 1 3), vo 23 (.load 2 true 22), vo 24 (.call 92 [21,23]), vm 19 24]) (.cond 19 (.seq (.region (some [0,1,0,4,0,16,60,127,255,0,0,0,0,0,0,0,0,0]) [vo 25 (.fld 0 3), vo 26 (.load 1 false 25), vo 27 (.fld 1 3), vo 28 (.load 2 true 27), vo 29 (.fld 1 2), vo 30 (.load 2 true 29), vo 31 (.call 93 [28,30]), vo 32 (.build [(.imm (.sc (.bool false))),(.imm (.sc (.int .u64 0))),(.imm (.sc (.int .u64 0)))] [(0,1,26),(1,2,31)]), vp (.store 3 4 32)]) .ret) .skip))))) (.seq (.region (some [0,1,0,4,0,16,60,127,255,0,0,0,0,0,0,0,0,0]) [vo 33 (.fld 0 2), vo 34 (.load 1 false 33), vo 35 (.fld 1 2), vo 36 (.load 2 true 35), vo 37 (.fld 1 3), vo 38 (.load 2 true 37), vo 39 (.call 93 [36,38]), vo 40 (.build [(.imm (.sc (.bool false))),(.imm (.sc (.int .u64 0))),(.imm (.sc (.int .u64 0)))] [(0,1,34),(1,2,39)]), vp (.store 3 4 40)]) .ret)))
theorem c44 : (Tryz.f44.body.bind fun c => cCode Tryz.prog 41 c) = some v44 := by kernel_rfl
def v46 : VC := (.seq (rg [vo 2 (.box 99 0), vo 3 (.box 97 1), vo 4 (.alloc 55 [(iI 0),(iI 0)]), vo 5 (.mv (kB false))]) (.seq (rg [vo 11 (.fld 1 2), vo 12 (.load 2 true 11), vo 13 (.load 2 true 3), vo 14 (.call 89 [12,13]), vo 6 (.alloc 97 [(.imm (.sc (.int .u64 0))),(.imm (.sc (.int .u64 0)))]), vp (.store 2 6 14)]) (.seq (rg [vo 16 (.fld 1 2), vo 17 (.load 2 true 16), vo 18 (.load 2 true 6), vo 19 (.call 94 [17,18]), vm 15 19, vo 20 (.ext 15 0), vo 21 (.ext 15 1), vo 7 (.alloc 97 [(.imm (.sc (.int .u64 0))),(.imm (.sc (.int .u64 0)))]), vo 8 (.alloc 97 [(.imm (.sc (.int .u64 0))),(.imm (.sc (.int .u64 0)))]), vp (.store 2 7 20), vp (.store 2 8 21)]) (.seq (rg [vo 23 (.load 2 true 3), vo 24 (.load 2 true 6), vo 25 (.call 94 [23,24]), vm 22 25, vo 26 (.ext 22 0), vo 27 (.ext 22 1), vo 9 (.alloc 97 [(.imm (.sc (.int .u64 0))),(.imm (.sc (.int .u64 0)))]), vo 10 (.alloc 97 [(.imm (.sc (.int .u64 0))),(.imm (.sc (.int .u64 0)))]), vp (.store 2 9 26), vp (.store 2 10 27)]) (.seq (.seq (rg [vo 28 (.fld 0 7), vo 29 (.load 1 false 28), vo 30 (.bin .neq 29 (.con (.c (.imm (.sc (.int .u64 0)))))), vm 31 30, vg 32 31 false (.fld 1 7), vg 33 31 false (.load 1 false 32), vg 34 31 false (.bin .gtr 33 (.con (.c (.imm (.sc (.int .u64 4611686018427387904)))))), vo 35 (.pick 31 (kB true) 34), vm 36 35, vg 37 36 false (.fld 0 9), vg 38 36 false (.load 1 false 37), vg 39 36 false (.bin .neq 38 (.con (.c (.imm (.sc (.int .u64 0)))))), vo 40 (.pick 36 (kB true) 39), vm 41 40, vg 42 41 false (.fld 1 9), vg 43 41 false (.load 1 false 42), vg 44 41 false (.bin .gtr 43 (.con (.c (.imm (.sc (.int .u64 1000000000000000)))))), vo 45 (.pick 41 (kB true) 44)]) (.cond 45 (.seq (rg [vo 46 (.build [(iI 0),(iI 0)] []), vp (.store 2 4 46), vo 5 (.mv (kB false))]) .ret) .skip)) (.seq (.seq (rg [vo 47 (.fld 0 2), vo 48 (.load 1 false 47)]) (.cond 48 (.seq (rg [vo 49 (.fld 1 7), vo 50 (.load 1 false 49), vo 51 (.cvi .i64 50), vo 52 (.un .neg 51), vo 53 (.fld 1 9), vo 54 (.load 1 false 53), vo 55 (.cvi .i64 54), vo 56 (.build [(iI 0),(iI 0)] [(0,1,52),(1,1,55)]), vp (.store 2 4 56), vo 5 (.mv (kB true))]) .ret) .skip)) (.seq (rg [vo 57 (.fld 1 7), vo 58 (.load 1 false 57), vo 59 (.cvi .i64 58), vo 60 (.fld 1 9), vo 61 (.load 1 false 60), vo 62 (.cvi .i64 61), vo 63 (.build [(iI 0),(iI 0)] [(0,1,59),(1,1,62)]), vp (.store 2 4 63), vo 5 (.mv (kB true))]) .ret)))))))
theorem c46 : (Tryz.f46.body.bind fun c => cCode Tryz.prog 64 c) = some v46 := by kernel_rfl
def v31 : VC := (.seq (rg [vo 2 (.alloc 55 [(iI 0),(iI 0)]), vo 3 (.mv (kB false))]) (.seq (.seq (rg [vm 8 0, vo 9 (.lenS 8), vo 10 (.bin .gtr 9 (kI 20000))]) (.cond 10 (.seq (rg [vo 11 (.build [(iI 0),(iI 0)] []), vp (.store 2 2 11), vo 3 (.mv (kB false))]) .ret) .skip)) (.seq (rg [vm 13 0, vo 14 (.call 43 [13]), vm 12 14, vo 15 (.ext 12 0), vo 16 (.ext 12 1), vm 4 15, vm 5 16]) (.seq (.seq (rg [vm 17 5, vo 18 (.un .not 17)]) (.cond 18 (.seq (rg [vo 19 (.build [(iI 0),(iI 0)] []), vp (.store 2 2 19), vo 3 (.mv (kB false))]) .ret) .skip)) (.seq (rg [vo 20 (.build [(.imm (.sc (.bool false))),(.imm (.sc (.int .u64 0))),(.imm (.sc (.int .u64 0)))] []), vo 6 (.alloc 99 [(.imm (.sc (.bool false))),(.imm (.sc (.int .u64 0))),(.imm (.sc (.int .u64 0)))]), vp (.store 3 6 20)]) (.seq (.seq (rg [vo 7 (.mv (kI 0))]) (.block 0 (.loop (.seq (.seq (rg [vm 21 7, vm 22 0, vo 23 (.lenS 22), vo 24 (.bin .lss 21 23)]) (.cond 24 .skip (.exit 0))) (.seq (.block 1 (.region (some [0,0,0,6,14,30,0,0,0,384,896,1920,4032,8190,16383,32767,0,1,1,0,0,0,1,1,1,0,0,0,0,0,0,0]) [vo 27 (.load 3 true 6), vm 28 0, vm 29 7, vo 30 (.ixA 2 28 29), vo 31 (.fld 0 30), vo 32 (.load 1 false 31), vm 33 4, vm 34 0, vm 35 7, vo 36 (.ixA 2 34 35), vo 37 (.fld 1 36), vo 38 (.load 1 false 37), vo 39 (.bin .quo 33 38), vo 40 (.call 45 [32,39]), vo 41 (.call 44 [27,40]), vp (.store 3 6 41)])) (rg [vm 25 7, vo 26 (.bin .add 25 (kI 1)), vm 7 26])))))) (.seq (.region (some [0,0,2,6,15,31,31,127,255,0,1,0,0,0,0,0,0,0]) [vo 42 (.load 3 true 6), vm 43 4, vo 44 (.call 47 [43]), vo 45 (.build [(.imm (.sc (.int .u64 0))),(.imm (.sc (.int .u64 0)))] [(1,1,44)]), vo 46 (.call 46 [42,45]), vo 47 (.ext 46 0), vo 48 (.ext 46 1), vp (.store 2 2 47), vm 3 48]) .ret)))))))
theorem c31 : (Tryz.f31.body.bind fun c => cCode Tryz.prog 49 c) = some v31 := by kernel_rfl
def v17 : VC := (.seq (rg [vo 2 (.alloc 55 [(iI 0),(iI 0)]), vo 3 (.mv (kB false))]) (.seq (rg [vo 4 (.mv (.con (.c .nilS)))]) (.seq (.seq (rg [vo 5 (.mv (kI 0))]) (.block 0 (.loop (.seq (.seq (rg [vm 6 5, vm 7 0, vo 8 (.lenS 7), vo 9 (.bin .lss 6 8)]) (.cond 9 .skip (.exit 0))) (.seq (.block 1 (rg [vm 12 4, vm 13 0, vm 14 5, vo 15 (.ixA 4 13 14), vo 16 (.fld 2 15), vo 17 (.load 2 true 16), vo 18 (.bsl 55 2 1 [(iI 0),(iI 0)] [(0,2,17)]), vo 19 (.app 55 2 16 12 18), vm 4 19])) (rg [vm 10 5, vo 11 (.bin .add 10 (kI 1)), vm 5 11])))))) (.seq (rg [vm 20 4, vo 21 (.call 31 [20]), vo 22 (.ext 21 0), vo 23 (.ext 21 1), vp (.store 2 2 22), vm 3 23]) .ret))))
theorem c17 : (Tryz.f17.body.bind fun c => cCode Tryz.prog 24 c) = some v17 := by kernel_rfl
def v13 : VC := (.seq (rg [vo 2 (.box 33 0), vo 4 (.mv (.con (.c .nilS))), vo 5 (.mv (kI 0))]) (.seq (.seq (rg [vo 7 (.load 10 true 2), vo 8 (.call 19 [7]), vm 6 8]) (.seq (rg [vm 9 6, vo 10 (.bin .neq 9 (kI 0))]) (.cond 10 (.seq (rg [vm 11 6, vo 4 (.mv (.con (.c .nilS))), vm 5 11]) .ret) .skip))) (.seq (.seq (rg [vm 12 1, vo 13 (.bin .lss 12 (kI 0)), vm 14 13, vg 15 14 false (.mv 1), vg 16 14 false (.fld 3 2), vg 17 14 false (.load 1 false 16), vg 18 14 false (.lenS 17), vg 19 14 false (.bin .geq 15 18), vo 20 (.pick 14 (kB true) 19)]) (.cond 20 (.seq (rg [vo 4 (.mv (.con (.c .nilS))), vo 5 (.mv (kI 5))]) .ret) .skip)) (.seq (.region (some [0,0,2,0,14,30,63,127,255,0,0,0,1,0,0,0,0,0]) [vo 21 (.load 10 true 2), vo 22 (.fld 3 2), vo 23 (.load 1 false 22), vm 24 1, vo 25 (.ixA 8 23 24), vo 26 (.load 8 true 25), vo 27 (.call 30 [21,26]), vm 4 27, vo 5 (.mv (kI 0))]) .ret))))
theorem c13 : (Tryz.f13.body.bind fun c => cCode Tryz.prog 28 c) = some v13 := by kernel_rfl
def v7 : VC := (.seq (rg [vo 3 (.box 33 0), vo 6 (.mv (kB false))]) (.seq (.seq (rg [vo 20 (.load 10 true 3), vo 21 (.call 8 [20]), vo 22 (.un .not 21)]) (.cond 22 (.seq (rg [vo 23 (.call 9 []), vm 6 23]) .ret) .skip)) (.seq (rg [vo 25 (.load 10 true 3), vm 26 1, vm 27 2, vo 28 (.call 10 [25,26,27]), vm 24 28, vo 29 (.ext 24 0), vo 30 (.ext 24 1), vm 7 29, vm 8 30]) (.seq (.seq (rg [vm 31 8, vo 32 (.bin .neq 31 (kI 0))]) (.cond 32 (.seq (rg [vm 33 7, vo 34 (.lenS 33), vo 35 (.bin .eql 34 (kI 0)), vm 36 35, vg 37 36 true (.call 9 []), vo 38 (.pick 36 37 (kB false)), vm 6 38]) .ret) .skip)) (.seq (.seq (rg [vm 39 7, vo 40 (.lenS 39), vo 41 (.mv (kI 0))]) (.block 0 (.loop (.seq (rg [vo 42 (.bin .lss 41 40)]) (.seq (.cond 42 .skip (.exit 0)) (.seq (.block 1 (.seq (rg [vo 43 (.ixA 3 39 41), vo 44 (.load 3 true 43), vo 10 (.alloc 42 [(iI 0),(iI 0),.nilS]), vp (.store 3 10 44)]) (.seq (rg [vo 46 (.fld 2 10), vo 47 (.load 1 false 46), vo 48 (.call 17 [47]), vm 45 48, vo 49 (.ext 45 0), vo 50 (.ext 45 1), vo 11 (.alloc 55 [(iI 0),(iI 0)]), vp (.store 2 11 49), vm 12 50]) (.seq (rg [vm 51 12, vo 52 (.un .not 51), vm 53 52, vg 54 53 false (.fld 1 10), vg 55 53 false (.load 1 false 54), vg 56 53 false (.bin .leq 55 (kI 0)), vo 57 (.pick 53 (kB true) 56), vm 58 57, vg 59 58 false (.load 2 true 11), vg 60 58 false (.fld 1 10), vg 61 58 false (.load 1 false 60), vg 62 58 false (.build [(iI 0),(iI 0)] [(0,1,61),(1,1,(kI 1))]), vg 63 58 false (.aeq true 55 59 62), vo 64 (.pick 58 (kB true) 63), vm 65 64, vg 66 65 false (.fld 0 10), vg 67 65 false (.load 1 false 66), vg 68 65 false (.bin .lss 67 (kI 0)), vo 69 (.pick 65 (kB true) 68), vm 70 69, vg 71 70 false (.fld 0 10), vg 72 70 false (.load 1 false 71), vg 73 70 false (.fld 3 3), vg 74 70 false (.load 1 false 73), vg 75 70 false (.lenS 74), vg 76 70 false (.bin .geq 72 75), vo 77 (.pick 70 (kB true) 76)]) (.cond 77 (.seq (rg [vo 6 (.mv (kB false))]) .ret) .skip))))) (rg [vo 78 (.bin .add 41 (kI 1)), vm 41 78]))))))) (.seq (.seq (rg [vo 79 (.fld 3 3), vo 80 (.load 1 false 79), vo 81 (.lenS 80), vo 82 (.mv (kI 0))]) (.block 2 (.loop (.seq (rg [vo 83 (.bin .lss 82 81)]) (.seq (.cond 83 .skip (.exit 2)) (.seq (.block 3 (.seq (rg [vm 84 82, vo 85 (.ixA 8 80 82), vo 86 (.load 8 true 85), vo 14 (.alloc 47 [(iI 0),(iI 0),(iI 0),iS,(iI 0),(iI 0),(iI 0),(.imm (.sc (.bool false)))]), vm 13 84, vp (.store 8 14 86)]) (.seq (rg [vo 88 (.load 10 true 3), vm 89 13, vo 90 (.call 13 [88,89]), vm 87 90, vo 91 (.ext 87 0), vo 92 (.ext 87 1), vm 15 91, vm 16 92]) (.seq (rg [vo 17 (.mv (kI 0))]) (.seq (.seq (rg [vm 93 15, vo 94 (.lenS 93), vo 95 (.mv (kI 0))]) (.block 4 (.loop (.seq (rg [vo 96 (.bin .lss 95 94)]) (.seq (.cond 96 .skip (.exit 4)) (.seq (.block 5 (.seq (rg [vo 97 (.ixA 1 93 95), vo 98 (.load 1 false 97), vm 19 98]) (rg [vm 99 17, vm 100 19, vo 101 (.bin .add 99 100), vm 17 101]))) (rg [vo 102 (.bin .add 95 (kI 1)), vm 95 102]))))))) (.seq (rg [vm 103 16, vo 104 (.bin .neq 103 (kI 0)), vm 105 104, vg 106 105 false (.mv 15), vg 107 105 false (.lenS 106), vg 108 105 false (.bin .neq 107 (kI 6)), vo 109 (.pick 105 (kB true) 108), vm 110 109, vg 111 110 false (.mv 17), vg 112 110 false (.fld 4 14), vg 113 110 false (.fld 1 112), vg 114 110 false (.load 1 false 113), vg 115 110 false (.fld 4 14), vg 116 110 false (.fld 0 115), vg 117 110 false (.load 1 false 116), vg 118 110 false (.bin .sub 114 117), vg 119 110 false (.bin .neq 111 118), vo 120 (.pick 110 (kB true) 119)]) (.cond 120 (.seq (rg [vo 6 (.mv (kB false))]) .ret) .skip))))))) (rg [vo 121 (.bin .add 82 (kI 1)), vm 82 121]))))))) (.seq (rg [vo 122 (.call 9 []), vm 6 122]) .ret)))))))
theorem c7 : (Tryz.f7.body.bind fun c => cCode Tryz.prog 123 c) = some v7 := by kernel_rfl
theorem fnOk51 : fnOk Tryz.prog 51 = true := by kernel_rfl
theorem fnOk55 : fnOk Tryz.prog 55 = true := by kernel_rfl
theorem fnOk56 : fnOk Tryz.prog 56 = true := by kernel_rfl
theorem fnOk59 : fnOk Tryz.prog 59 = true := by kernel_rfl
theorem fnOk63 : fnOk Tryz.prog 63 = true := by kernel_rfl
theorem fnOk66 : fnOk Tryz.prog 66 = true := by kernel_rfl
theorem fnOk69 : fnOk Tryz.prog 69 = true := by kernel_rfl
theorem fnOk71 : fnOk Tryz.prog 71 = true := by kernel_rfl
theorem fnOk73 : fnOk Tryz.prog 73 = true := by kernel_rfl
theorem fnOk76 : fnOk Tryz.prog 76 = true := by kernel_rfl
theorem fnOk78 : fnOk Tryz.prog 78 = true := by kernel_rfl
def tracebooklaw54_few (p0 : api_Trace) : Option Bool :=
  (((bif (decide ((List.length p0.fThreads : Int) ≤ 20)) then (bif (decide ((List.length p0.fSlices : Int) ≤ 60)) then (bif (decide ((List.length p0.fStates : Int) ≤ 200)) then (bif (decide ((List.length p0.fFlows : Int) ≤ 60)) then (bif (decide ((List.length p0.fSamples : Int) ≤ 60)) then (bif (decide ((List.length p0.fSteps : Int) ≤ 60)) then (bif (decide ((List.length p0.fBlocks : Int) ≤ 60)) then some (decide ((List.length p0.fLost : Int) ≤ 50)) else some false) else some false) else some false) else some false) else some false) else some false) else some false) : Option Bool).bind fun v1 => some v1)
theorem tracebooklaw54_few_fun (p0 : api_Trace) (r : Bool) (hF : tracebooklaw54_few p0 = some r) : Fun Tryz.prog 8 true [] [.agg (m_api_Trace p0)] noHeap (cB r) noHeap := by
 refine Fun.of_walk0 Tryz.func8 c8 (by kernel_rfl) (rs := [.tmp 2]) (by kernel_rfl) ?_; unfold v8
 unfold tracebooklaw54_few at hF
 refine wA rfl ?_; refine W_seq ?_; refine W_join (fun _ _ h => h) hF (fun v1 => [(2, cB v1)]) (fun v1 => []) ?_ ?_
 · rintro v1 hF
   cases hF
   exact W_ret wR
 intro join hF
 refine wD 2 rfl ?_; refine rS (T_len (tc := t_api_Thread) p0.fThreads .tree ?_); refine Q_run SV 2 rfl ?_; cases h2 : (decide ((List.length p0.fThreads : Int) ≤ 20))
 · have hF := bF' h2 hF; refine QV rfl ?_; exact join false _ _ hF sw
 have hF := bT' h2 hF; refine Q_run SV 2 rfl ?_; refine R_step SV rfl (T_len (tc := t_api_Slice) p0.fSlices .tree ?_); refine Q_run SV 3 rfl ?_; cases h3 : (decide ((List.length p0.fSlices : Int) ≤ 60))
 · have hF := bF' h3 hF; refine QV rfl ?_; exact join false _ _ hF sw
 have hF := bT' h3 hF; refine Q_run SV 2 rfl ?_; refine R_step SV rfl (T_len (tc := t_api_State) p0.fStates .tree ?_); refine Q_run SV 3 rfl ?_; cases h4 : (decide ((List.length p0.fStates : Int) ≤ 200))
 · have hF := bF' h4 hF; refine QV rfl ?_; exact join false _ _ hF sw
 have hF := bT' h4 hF; refine Q_run SV 2 rfl ?_; refine R_step SV rfl (T_len (tc := t_api_Flow) p0.fFlows .tree ?_); refine Q_run SV 3 rfl ?_; cases h5 : (decide ((List.length p0.fFlows : Int) ≤ 60))
 · have hF := bF' h5 hF; refine QV rfl ?_; exact join false _ _ hF sw
 have hF := bT' h5 hF; refine Q_run SV 2 rfl ?_; refine R_step SV rfl (T_len (tc := t_api_Sample) p0.fSamples .tree ?_); refine Q_run SV 3 rfl ?_; cases h6 : (decide ((List.length p0.fSamples : Int) ≤ 60))
 · have hF := bF' h6 hF; refine QV rfl ?_; exact join false _ _ hF sw
 have hF := bT' h6 hF; refine Q_run SV 2 rfl ?_; refine R_step SV rfl (T_len (tc := t_api_Step) p0.fSteps .tree ?_); refine Q_run SV 3 rfl ?_; cases h7 : (decide ((List.length p0.fSteps : Int) ≤ 60))
 · have hF := bF' h7 hF; refine QV rfl ?_; exact join false _ _ hF sw
 have hF := bT' h7 hF; refine Q_run SV 2 rfl ?_; refine R_step SV rfl (T_len (tc := t_api_Block) p0.fBlocks .tree ?_); refine Q_run SV 3 rfl ?_; cases h8 : (decide ((List.length p0.fBlocks : Int) ≤ 60))
 · have hF := bF' h8 hF; refine QV rfl ?_; exact join false _ _ hF sw
 have hF := bT' h8 hF; refine Q_run SV 2 rfl ?_; refine R_step SV rfl (T_len (tc := t_api_Loss) p0.fLost .tree ?_); refine QV rfl ?_; exact join (decide ((List.length p0.fLost : Int) ≤ 50)) _ _ hF sw
def tracebooklaw54_calls_L1 (p1 : (List Int)) : ((List api_Slice) × Int × Int) → Option (((List api_Slice) × Int × Int) ⊕ ((List api_Slice) × Int)) := fun (a16, a17, a18) =>
  (bif (decide (a18 < (List.length p1 : Int))) then ((idx p1 a18).bind fun y27 => (bif room 72 (List.length a16 + List.length [({ fThread := 1, fParent := (-1), fDepth := 0, fName := ⟨#[102]⟩, fSpan := ({ fFrom := a17, fTo := (w64 (a17 + y27)) } : api_Span), fSelf := y27, fOpen := false } : api_Slice)]) then some (.inl ((a16 ++ [({ fThread := 1, fParent := (-1), fDepth := 0, fName := ⟨#[102]⟩, fSpan := ({ fFrom := a17, fTo := (w64 (a17 + y27)) } : api_Span), fSelf := y27, fOpen := false } : api_Slice)]), (w64 (a17 + y27)), (w64 (a18 + 1)))) else none)) else some (.inr (a16, a17)))
def tracebooklaw54_calls (p0 : Int) (p1 : (List Int)) : Option api_Trace :=
  ((loop (tracebooklaw54_calls_L1 p1) ([], 0, 0)).bind fun (e22, e23) => (((bif (decide (0 < p0)) then (bif room 56 (List.length [({ fThread := 1, fState := 4, fSpan := ({ fFrom := 0, fTo := (w64 (e23 - p0)) } : api_Span), fCpu := 0, fOn := (-1), fBy := (-1) } : api_State)] + List.length [({ fThread := 1, fState := 1, fSpan := ({ fFrom := (w64 (e23 - p0)), fTo := e23 } : api_Span), fCpu := (-1), fOn := (-1), fBy := (-1) } : api_State)]) then some ([({ fThread := 1, fState := 4, fSpan := ({ fFrom := 0, fTo := (w64 (e23 - p0)) } : api_Span), fCpu := 0, fOn := (-1), fBy := (-1) } : api_State)] ++ [({ fThread := 1, fState := 1, fSpan := ({ fFrom := (w64 (e23 - p0)), fTo := e23 } : api_Span), fCpu := (-1), fOn := (-1), fBy := (-1) } : api_State)]) else none) else some [({ fThread := 1, fState := 4, fSpan := ({ fFrom := 0, fTo := (w64 (e23 - p0)) } : api_Span), fCpu := 0, fOn := (-1), fBy := (-1) } : api_State)]) : Option (List api_State)).bind fun v24 => some ({ fSpan := ({ fFrom := 0, fTo := e23 } : api_Span), fThreads := [({ fId := 1, fName := ⟨#[97]⟩, fDomain := 0 } : api_Thread)], fSlices := e22, fStates := v24, fFlows := [], fSamples := [], fSteps := [], fBlocks := [], fLost := [] } : api_Trace)))
theorem tracebooklaw54_calls_fun (p0 : Int) (p1 : (List Int)) (r : api_Trace) (hF : tracebooklaw54_calls p0 p1 = some r) : Fun Tryz.prog 18 false [] [cI p0, cL 1 t_i64 p1] (heapOf []) (.agg [jI r.fSpan.fFrom, jI r.fSpan.fTo, .slO (902,720), .slO (902,721), .slO (902,722), jL 7 t_api_Flow r.fFlows, jL 4 t_api_Sample r.fSamples, jL 3 t_api_Step r.fSteps, jL 7 t_api_Block r.fBlocks, jL 4 t_api_Loss r.fLost]) (heapOf [((902,720), .arr 76 3 (List.map t_api_Thread r.fThreads)), ((902,721), .arr 47 8 (List.map t_api_Slice r.fSlices)), ((902,722), .arr 78 7 (List.map t_api_State r.fStates))]) := by
 refine Fun.of_walkM [] (some []) Tryz.func18 c18 (by kernel_rfl) (rs := [.cell 4 10 true]) (by kernel_rfl) rfl rfl rfl ?_; unfold v18
 unfold tracebooklaw54_calls at hF
 refine wA rfl ?_; refine wC 1 rfl ?_; refine rS (T_bsl (tc := t_api_Thread) [({ fId := 1, fName := ⟨#[97]⟩, fDomain := 0 } : api_Thread)] rfl ⟨rfl, rfl, rfl, trivial⟩ rfl (fun _ => rfl) rfl ?_)
 refine QV rfl ?_; refine wA rfl ?_; refine W_seq ?_; refine wC 1 rfl ?_; refine rS (T_len (tc := t_i64) p1 .tree ?_); refine QV rfl ?_; refine W_for (fun _ _ h => h) hF (id) (fun (a16, a17, a18) => [(0, cI p0), (4, cP (4,0) 0), (5, cP (5,0) 0), (6, cI a17), (12, cL 1 t_i64 p1), (13, cI (List.length p1 : Int)), (14, cI a18)]) (fun (a16, a17, a18) => [((4,0), .box [jI 0, jI 0, .nilS, .nilS, .nilS, .nilS, .nilS, .nilS, .nilS, .nilS]), ((5,0), .box [jI 0, jI 0, .slO (10,0), .slO (28,1), .nilS, .nilS, .nilS, .nilS, .nilS, .nilS]), ((10,0), .arr 76 3 (List.map t_api_Thread [({ fId := 1, fName := ⟨#[97]⟩, fDomain := 0 } : api_Thread)])), ((28,1), .arr 47 8 (List.map t_api_Slice a16))]) (fun (e22, e23) => [(0, cI p0), (4, cP (4,0) 0), (5, cP (5,0) 0), (6, cI e23)]) (fun (e22, e23) => [((4,0), .box [jI 0, jI 0, .nilS, .nilS, .nilS, .nilS, .nilS, .nilS, .nilS, .nilS]), ((5,0), .box [jI 0, jI 0, .slO (10,0), .slO (28,1), .nilS, .nilS, .nilS, .nilS, .nilS, .nilS]), ((10,0), .arr 76 3 (List.map t_api_Thread [({ fId := 1, fName := ⟨#[97]⟩, fDomain := 0 } : api_Thread)])), ((28,1), .arr 47 8 (List.map t_api_Slice e22))]) (S_ownB (5,0) _ 3 (28,1) 47 8 rfl rfl rfl rfl rfl sw) ?_ ?_
 · rintro ⟨e22, e23⟩ hF
   refine wA rfl ?_; refine wC 5 rfl ?_; refine rS (T_bsl (tc := t_api_State) [({ fThread := 1, fState := 4, fSpan := ({ fFrom := 0, fTo := (w64 (e23 - p0)) } : api_Span), fCpu := 0, fOn := (-1), fBy := (-1) } : api_State)] rfl ⟨rfl, rfl, rfl, rfl, rfl, rfl, rfl, trivial⟩ rfl (fun _ => rfl) rfl ?_)
   refine QV rfl ?_; refine W_seq ?_; refine wA rfl ?_; refine W_join (fun _ _ h => h) hF (fun v24 => [(4, cP (4,0) 0), (5, cP (5,0) 0)]) (fun v24 => [((4,0), .box [jI 0, jI 0, .nilS, .nilS, .nilS, .nilS, .nilS, .nilS, .nilS, .nilS]), ((5,0), .box [jI 0, jI e23, .slO (10,0), .slO (28,1), .slO (55,1), .nilS, .nilS, .nilS, .nilS, .nilS]), ((10,0), .arr 76 3 (List.map t_api_Thread [({ fId := 1, fName := ⟨#[97]⟩, fDomain := 0 } : api_Thread)])), ((28,1), .arr 47 8 (List.map t_api_Slice e22)), ((55,1), .arr 78 7 (List.map t_api_State v24))]) ?_ ?_
   · rintro v24 hF
     refine wA rfl ?_; cases hF
     exact W_ret ⟨_, _, (S_ren (10,0) (902,720) rfl rfl (S_ren (28,1) (902,721) rfl rfl (S_ren (55,1) (902,722) rfl rfl S_refl))), _, rfl, rfl, ⟨⟨rfl, fun _ => rfl⟩, ⟨rfl, fun _ => rfl⟩, rfl, rfl, rfl, rfl, rfl, rfl, rfl, rfl, trivial⟩, (AgM.weak ⟨rfl, rfl, rfl, trivial⟩)⟩
   intro join hF
   refine wIf' hF rfl (fun _ hF => ?_) fun _ hF => ?_
   · refine wD 8 rfl ?_; refine rS (T_bsl (tc := t_api_State) [({ fThread := 1, fState := 1, fSpan := ({ fFrom := (w64 (e23 - p0)), fTo := e23 } : api_Span), fCpu := (-1), fOn := (-1), fBy := (-1) } : api_State)] rfl ⟨rfl, rfl, rfl, rfl, rfl, rfl, rfl, trivial⟩ rfl (fun _ => rfl) rfl ?_)
     obtain ⟨h25, hF⟩ := roomT' hF
     refine rS (T_appO (tc := t_api_State) [({ fThread := 1, fState := 4, fSpan := ({ fFrom := 0, fTo := (w64 (e23 - p0)) } : api_Span), fCpu := 0, fOn := (-1), fBy := (-1) } : api_State)] [({ fThread := 1, fState := 1, fSpan := ({ fFrom := (w64 (e23 - p0)), fTo := e23 } : api_Span), fCpu := (-1), fOn := (-1), fBy := (-1) } : api_State)] rfl rfl (.own _ _ rfl) h25 rfl ?_)
     refine QV rfl ?_; exact join ([({ fThread := 1, fState := 4, fSpan := ({ fFrom := 0, fTo := (w64 (e23 - p0)) } : api_Span), fCpu := 0, fOn := (-1), fBy := (-1) } : api_State)] ++ [({ fThread := 1, fState := 1, fSpan := ({ fFrom := (w64 (e23 - p0)), fTo := e23 } : api_Span), fCpu := (-1), fOn := (-1), fBy := (-1) } : api_State)]) _ _ hF (S_ren (55,0) (55,1) rfl rfl sw)
   refine W_skip ?_; exact join [({ fThread := 1, fState := 4, fSpan := ({ fFrom := 0, fTo := (w64 (e23 - p0)) } : api_Span), fCpu := 0, fOn := (-1), fBy := (-1) } : api_State)] _ _ hF (S_ren (42,0) (55,1) rfl rfl sw)
 rintro ⟨a16, a17, a18⟩ x_0 hF cont_0 brk_0 fin_0
 unfold tracebooklaw54_calls_L1 at hF
 refine wA rfl ?_; refine W_seq ?_; refine wIf hF rfl (fun _ hF => ?_) fun _ hF => ?_
 · refine W_skip ?_; refine W_seq ?_; refine W_block ?_; refine wE ?_; obtain ⟨y27, hy27, hF⟩ := bB hF
   refine rS (T_ixT (tc := t_i64) p1 rfl rfl hy27 ?_); refine QV rfl ?_; refine wC 9 rfl ?_; refine rS (T_bsl (tc := t_api_Slice) [({ fThread := 1, fParent := (-1), fDepth := 0, fName := ⟨#[102]⟩, fSpan := ({ fFrom := a17, fTo := (w64 (a17 + y27)) } : api_Span), fSelf := y27, fOpen := false } : api_Slice)] rfl ⟨rfl, rfl, rfl, rfl, rfl, rfl, rfl, rfl, trivial⟩ rfl (fun _ => rfl) rfl ?_)
   obtain ⟨h28, hF⟩ := roomT hF
   refine rS (T_appO (tc := t_api_Slice) a16 [({ fThread := 1, fParent := (-1), fDepth := 0, fName := ⟨#[102]⟩, fSpan := ({ fFrom := a17, fTo := (w64 (a17 + y27)) } : api_Span), fSelf := y27, fOpen := false } : api_Slice)] rfl rfl (.own _ _ rfl) h28 rfl ?_)
   refine QV rfl ?_; refine wB rfl ?_; refine wB rfl ?_; exact cont_0 _ _ _ (oi hF) (S_ren (28,0) (28,1) rfl rfl sw)
 refine W_exit ?_; refine thenQ_exit ?_; refine thenQ_exit ?_; refine blockQ_hit ?_; exact brk_0 _ _ _ (oi hF) sw
def internal_stringslite_IndexByte (p0 : ByteArray) (p1 : Int) : Option Int := some (Go.Lib.indexByte p0.data.toList p1.toNat.toUInt8)
theorem internal_stringslite_IndexByte_fun (p0 : ByteArray) (p1 : Int) (r : Int) (hF : internal_stringslite_IndexByte p0 p1 = some r) : Fun Tryz.prog 164 true [] [.c (jS p0), .c (.imm (.sc (.int .u8 p1)))] noHeap (cI r) noHeap := by
 cases hF
 refine Fun.of_plain [.string p0, .int .u8 p1] (.int .i64 (Go.Lib.indexByte p0.data.toList p1.toNat.toUInt8)) (fun w => ?_) rfl
 go_enter Tryz.func164, Tryz.ntmps164; go_wp2; rw [run_callFunc_extern Tryz.func170 (by kernel_rfl) (by kernel_rfl) (by kernel_rfl) (e := Extern.BytealgIndexByte.indexByte) (by kernel_rfl), Go.Lib.run_indexByteString]
 simp only [Result.andThen]; rw [Oper.upon_value]; go_wp2; go_ret; exact ⟨rfl, rfl⟩
def strings_IndexByte (p0 : ByteArray) (p1 : Int) : Option Int :=
  ((internal_stringslite_IndexByte p0 p1).bind fun r1 => some r1)
theorem strings_IndexByte_fun (p0 : ByteArray) (p1 : Int) (r : Int) (hF : strings_IndexByte p0 p1 = some r) : Fun Tryz.prog 149 true [] [.c (jS p0), .c (.imm (.sc (.int .u8 p1)))] noHeap (cI r) noHeap := by
 refine Fun.of_walk0 Tryz.func149 c149 (by kernel_rfl) (rs := [.tmp 4]) (by kernel_rfl) ?_; unfold v149
 unfold strings_IndexByte at hF
 refine wA rfl ?_; refine wC 2 rfl ?_; obtain ⟨r1, hr1, hF⟩ := bB hF
 refine rS (T_call (internal_stringslite_IndexByte_fun _ _ _ hr1) ⟨rfl, rfl, trivial⟩ rfl (.inl rfl) ?_); refine QV rfl ?_; cases hF
 exact W_ret wR
def intern_letter (p0 : Int) : Option Bool :=
  (((bif (decide (97 ≤ p0)) then (bif (decide (p0 ≤ 122)) then some true else (bif (decide (65 ≤ p0)) then (bif (decide (p0 ≤ 90)) then some true else (bif (decide (48 ≤ p0)) then (bif (decide (p0 ≤ 57)) then some true else ((strings_IndexByte ⟨#[95, 46, 58, 47, 60, 62, 36, 42, 126, 45]⟩ p0).bind fun r23 => some (decide (0 ≤ r23)))) else ((strings_IndexByte ⟨#[95, 46, 58, 47, 60, 62, 36, 42, 126, 45]⟩ p0).bind fun r21 => some (decide (0 ≤ r21))))) else (bif (decide (48 ≤ p0)) then (bif (decide (p0 ≤ 57)) then some true else ((strings_IndexByte ⟨#[95, 46, 58, 47, 60, 62, 36, 42, 126, 45]⟩ p0).bind fun r18 => some (decide (0 ≤ r18)))) else ((strings_IndexByte ⟨#[95, 46, 58, 47, 60, 62, 36, 42, 126, 45]⟩ p0).bind fun r16 => some (decide (0 ≤ r16)))))) else (bif (decide (65 ≤ p0)) then (bif (decide (p0 ≤ 90)) then some true else (bif (decide (48 ≤ p0)) then (bif (decide (p0 ≤ 57)) then some true else ((strings_IndexByte ⟨#[95, 46, 58, 47, 60, 62, 36, 42, 126, 45]⟩ p0).bind fun r12 => some (decide (0 ≤ r12)))) else ((strings_IndexByte ⟨#[95, 46, 58, 47, 60, 62, 36, 42, 126, 45]⟩ p0).bind fun r10 => some (decide (0 ≤ r10))))) else (bif (decide (48 ≤ p0)) then (bif (decide (p0 ≤ 57)) then some true else ((strings_IndexByte ⟨#[95, 46, 58, 47, 60, 62, 36, 42, 126, 45]⟩ p0).bind fun r7 => some (decide (0 ≤ r7)))) else ((strings_IndexByte ⟨#[95, 46, 58, 47, 60, 62, 36, 42, 126, 45]⟩ p0).bind fun r5 => some (decide (0 ≤ r5)))))) : Option Bool).bind fun v1 => some v1)
theorem intern_letter_fun (p0 : Int) (r : Bool) (hF : intern_letter p0 = some r) : Fun Tryz.prog 128 true [] [.c (.imm (.sc (.int .u8 p0)))] noHeap (cB r) noHeap := by
 refine Fun.of_walk0 Tryz.func128 c128 (by kernel_rfl) (rs := [.tmp 2]) (by kernel_rfl) ?_; unfold v128
 unfold intern_letter at hF
 refine wA rfl ?_; refine W_seq ?_; refine W_join (fun _ _ h => h) hF (fun v1 => [(2, cB v1)]) (fun v1 => []) ?_ ?_
 · rintro v1 hF
   cases hF
   exact W_ret wR
 intro join hF
 refine wD 3 rfl ?_; cases h2 : (decide (97 ≤ p0))
 · have hF := bF' h2 hF; refine Q_run SV 7 rfl ?_; cases h3 : (decide (65 ≤ p0))
   · have hF := bF' h3 hF; refine Q_run SV 8 rfl ?_; cases h4 : (decide (48 ≤ p0))
     · have hF := bF' h4 hF; refine Q_run SV 6 rfl ?_; obtain ⟨r5, hr5, hF⟩ := bB' hF
       refine R_step SV rfl (T_call (strings_IndexByte_fun _ _ _ hr5) ⟨rfl, rfl, trivial⟩ rfl (.inl rfl) ?_); refine QV rfl ?_; exact join (decide (0 ≤ r5)) _ _ hF sw
     have hF := bT' h4 hF; refine Q_run SV 5 rfl ?_; cases h6 : (decide (p0 ≤ 57))
     · have hF := bF' h6 hF; refine Q_run SV 1 rfl ?_; obtain ⟨r7, hr7, hF⟩ := bB' hF
       refine R_step SV rfl (T_call (strings_IndexByte_fun _ _ _ hr7) ⟨rfl, rfl, trivial⟩ rfl (.inl rfl) ?_); refine QV rfl ?_; exact join (decide (0 ≤ r7)) _ _ hF sw
     have hF := bT' h6 hF; refine QV rfl ?_; exact join true _ _ hF sw
   have hF := bT' h3 hF; refine Q_run SV 5 rfl ?_; cases h8 : (decide (p0 ≤ 90))
   · have hF := bF' h8 hF; refine Q_run SV 3 rfl ?_; cases h9 : (decide (48 ≤ p0))
     · have hF := bF' h9 hF; refine Q_run SV 6 rfl ?_; obtain ⟨r10, hr10, hF⟩ := bB' hF
       refine R_step SV rfl (T_call (strings_IndexByte_fun _ _ _ hr10) ⟨rfl, rfl, trivial⟩ rfl (.inl rfl) ?_); refine QV rfl ?_; exact join (decide (0 ≤ r10)) _ _ hF sw
     have hF := bT' h9 hF; refine Q_run SV 5 rfl ?_; cases h11 : (decide (p0 ≤ 57))
     · have hF := bF' h11 hF; refine Q_run SV 1 rfl ?_; obtain ⟨r12, hr12, hF⟩ := bB' hF
       refine R_step SV rfl (T_call (strings_IndexByte_fun _ _ _ hr12) ⟨rfl, rfl, trivial⟩ rfl (.inl rfl) ?_); refine QV rfl ?_; exact join (decide (0 ≤ r12)) _ _ hF sw
     have hF := bT' h11 hF; refine QV rfl ?_; exact join true _ _ hF sw
   have hF := bT' h8 hF; refine QV rfl ?_; exact join true _ _ hF sw
 have hF := bT' h2 hF; refine Q_run SV 4 rfl ?_; cases h13 : (decide (p0 ≤ 122))
 · have hF := bF' h13 hF; refine Q_run SV 3 rfl ?_; cases h14 : (decide (65 ≤ p0))
   · have hF := bF' h14 hF; refine Q_run SV 8 rfl ?_; cases h15 : (decide (48 ≤ p0))
     · have hF := bF' h15 hF; refine Q_run SV 6 rfl ?_; obtain ⟨r16, hr16, hF⟩ := bB' hF
       refine R_step SV rfl (T_call (strings_IndexByte_fun _ _ _ hr16) ⟨rfl, rfl, trivial⟩ rfl (.inl rfl) ?_); refine QV rfl ?_; exact join (decide (0 ≤ r16)) _ _ hF sw
     have hF := bT' h15 hF; refine Q_run SV 5 rfl ?_; cases h17 : (decide (p0 ≤ 57))
     · have hF := bF' h17 hF; refine Q_run SV 1 rfl ?_; obtain ⟨r18, hr18, hF⟩ := bB' hF
       refine R_step SV rfl (T_call (strings_IndexByte_fun _ _ _ hr18) ⟨rfl, rfl, trivial⟩ rfl (.inl rfl) ?_); refine QV rfl ?_; exact join (decide (0 ≤ r18)) _ _ hF sw
     have hF := bT' h17 hF; refine QV rfl ?_; exact join true _ _ hF sw
   have hF := bT' h14 hF; refine Q_run SV 5 rfl ?_; cases h19 : (decide (p0 ≤ 90))
   · have hF := bF' h19 hF; refine Q_run SV 3 rfl ?_; cases h20 : (decide (48 ≤ p0))
     · have hF := bF' h20 hF; refine Q_run SV 6 rfl ?_; obtain ⟨r21, hr21, hF⟩ := bB' hF
       refine R_step SV rfl (T_call (strings_IndexByte_fun _ _ _ hr21) ⟨rfl, rfl, trivial⟩ rfl (.inl rfl) ?_); refine QV rfl ?_; exact join (decide (0 ≤ r21)) _ _ hF sw
     have hF := bT' h20 hF; refine Q_run SV 5 rfl ?_; cases h22 : (decide (p0 ≤ 57))
     · have hF := bF' h22 hF; refine Q_run SV 1 rfl ?_; obtain ⟨r23, hr23, hF⟩ := bB' hF
       refine R_step SV rfl (T_call (strings_IndexByte_fun _ _ _ hr23) ⟨rfl, rfl, trivial⟩ rfl (.inl rfl) ?_); refine QV rfl ?_; exact join (decide (0 ≤ r23)) _ _ hF sw
     have hF := bT' h22 hF; refine QV rfl ?_; exact join true _ _ hF sw
   have hF := bT' h19 hF; refine QV rfl ?_; exact join true _ _ hF sw
 have hF := bT' h13 hF; refine QV rfl ?_; exact join true _ _ hF sw
def intern_Name_L1 (p0 : ByteArray) : Int → Option (Int ⊕ (Unit ⊕ Int)) := fun a13 =>
  (bif (decide (a13 < (ByteArray.size p0 : Int))) then ((idx (ByteArray.data p0).toList a13).bind fun y18 => ((intern_letter (UInt8.toNat y18 : Int)).bind fun r19 => (bif (!r19) then some (.inr (.inr 3)) else some (.inl (w64 (a13 + 1)))))) else some (.inr (.inl ())))
def intern_Name (p0 : ByteArray) : Option Int :=
  (((bif (decide (p0 = ⟨#[]⟩)) then some true else some (decide (40 < (ByteArray.size p0 : Int)))) : Option Bool).bind fun v1 => (bif v1 then some 3 else ((loop (intern_Name_L1 p0) 0).bind fun | .inl _ => some 0 | .inr rv => some rv)))
theorem intern_Name_fun (p0 : ByteArray) (r : Int) (hF : intern_Name p0 = some r) : Fun Tryz.prog 96 true [] [.c (jS p0)] noHeap (cI r) noHeap := by
 refine Fun.of_walk0 Tryz.func96 c96 (by kernel_rfl) (rs := [.tmp 2]) (by kernel_rfl) ?_; unfold v96
 unfold intern_Name at hF
 refine wA rfl ?_; refine W_seq ?_; refine W_seq ?_; refine W_join (fun _ _ h => h) hF (fun v1 => [(0, .c (jS p0)), (10, cB v1)]) (fun v1 => []) ?_ ?_
 · rintro v1 hF
   refine wIf hF rfl (fun _ hF => ?_) fun _ hF => ?_
   · refine wA rfl ?_; cases hF
     exact W_ret wR
   refine W_skip ?_; refine W_seq ?_; refine wA rfl ?_; refine W_for (fun _ _ h => h) hF (.inl) (fun a13 => [(0, .c (jS p0)), (12, cI (ByteArray.size p0 : Int)), (13, cI a13)]) (fun a13 => []) (fun _ => []) (fun _ => []) sw ?_ ?_
   · rintro ⟨⟩ hF
     refine wA rfl ?_; cases hF
     exact W_ret wR
   rintro a13 x_0 hF cont_0 brk_0 fin_0
   unfold intern_Name_L1 at hF
   refine wA rfl ?_; refine W_seq ?_; refine wIf hF rfl (fun _ hF => ?_) fun _ hF => ?_
   · refine W_skip ?_; refine W_seq ?_; refine W_block ?_; refine wA rfl ?_; refine wC 2 rfl ?_; obtain ⟨y18, hy18, hF⟩ := bB hF
     refine rS (T_ixS p0 rfl rfl hy18 ?_); obtain ⟨r19, hr19, hF⟩ := bB hF
     refine rS (T_call (intern_letter_fun _ _ hr19) ⟨rfl, trivial⟩ rfl (.inl rfl) ?_); refine QV rfl ?_; refine wIf hF rfl (fun _ hF => ?_) fun _ hF => ?_
     · refine wA rfl ?_; have hF := fin_0 _ (oi hF); cases hF
       exact W_ret wR
     refine W_skip ?_; refine wB rfl ?_; exact cont_0 _ _ _ (oi hF) sw
   refine W_exit ?_; refine thenQ_exit ?_; refine thenQ_exit ?_; refine blockQ_hit ?_; exact brk_0 _ _ _ (oi hF) sw
 intro join hF
 refine wD 3 rfl ?_; cases h23 : (decide (p0 = ⟨#[]⟩))
 · have hF := bF' h23 hF; refine QV rfl ?_; exact join (decide (40 < (ByteArray.size p0 : Int))) _ _ hF sw
 have hF := bT' h23 hF; refine QV rfl ?_; exact join true _ _ hF sw
def producer_Thread (p0 : api_Thread) : Option Int :=
  (((bif (decide (p0.fId < 0)) then some true else (bif (decide (1000000000000000 < p0.fId)) then some true else (bif (decide (p0.fDomain < 0)) then some true else some (decide (8 ≤ p0.fDomain))))) : Option Bool).bind fun v1 => (bif v1 then some 2 else ((intern_Name p0.fName).bind fun r2 => some r2)))
theorem producer_Thread_fun (p0 : api_Thread) (r : Int) (hF : producer_Thread p0 = some r) : Fun Tryz.prog 95 true [] [.agg [jI p0.fId, jS p0.fName, jI p0.fDomain]] noHeap (cI r) noHeap := by
 refine Fun.of_walk0 Tryz.func95 c95 (by kernel_rfl) (rs := [.tmp 2]) (by kernel_rfl) ?_; unfold v95
 unfold producer_Thread at hF
 refine wA rfl ?_; refine W_seq ?_; refine W_seq ?_; refine W_join (fun _ _ h => h) hF (fun v1 => [(1, cP (1,0) 0), (20, cB v1)]) (fun v1 => [((1,0), .box [jI p0.fId, jS p0.fName, jI p0.fDomain])]) ?_ ?_
 · rintro v1 hF
   refine wIf hF rfl (fun _ hF => ?_) fun _ hF => ?_
   · refine wA rfl ?_; cases hF
     exact W_ret wR
   refine W_skip ?_; refine wC 2 rfl ?_; obtain ⟨r2, hr2, hF⟩ := bB hF
   refine rS (T_call (intern_Name_fun _ _ hr2) ⟨rfl, trivial⟩ rfl (.inl rfl) ?_); refine QV rfl ?_; cases hF
   exact W_ret wR
 intro join hF
 refine wD 4 rfl ?_; cases h4 : (decide (p0.fId < 0))
 · have hF := bF' h4 hF; refine Q_run SV 5 rfl ?_; cases h5 : (decide (1000000000000000 < p0.fId))
   · have hF := bF' h5 hF; refine Q_run SV 5 rfl ?_; cases h6 : (decide (p0.fDomain < 0))
     · have hF := bF' h6 hF; refine QV rfl ?_; exact join (decide (8 ≤ p0.fDomain)) _ _ hF sw
     have hF := bT' h6 hF; refine QV rfl ?_; exact join true _ _ hF sw
   have hF := bT' h5 hF; refine QV rfl ?_; exact join true _ _ hF sw
 have hF := bT' h4 hF; refine QV rfl ?_; exact join true _ _ hF sw
def trace_threads_L1 (p0 : api_Trace) : ((List (Int × ByteArray)) × Int) → Option (((List (Int × ByteArray)) × Int) ⊕ ((List (Int × ByteArray)) ⊕ (((List (Int × ByteArray)) × Int) ⊕ ((List (Int × ByteArray)) × Int)))) := fun (a17, a18) =>
  (bif (decide (a18 < (List.length p0.fThreads : Int))) then ((idx p0.fThreads a18).bind fun y25 => ((producer_Thread y25).bind fun r26 => (bif (!decide (r26 = 0)) then some (.inr (.inr (.inl ([], r26)))) else (bif (Option.isSome (mget y25.fId a17)) then some (.inr (.inr (.inl ([], 4)))) else some (.inl ((mput y25.fId y25.fName a17), (w64 (a18 + 1)))))))) else some (.inr (.inl a17)))
def trace_threads (p0 : api_Trace) : Option (((List (Int × ByteArray)) × Int) ⊕ ((List (Int × ByteArray)) × Int)) :=
  (bif (decide (64 < (List.length p0.fThreads : Int))) then some (.inl ([], 7)) else ((loop (trace_threads_L1 p0) ([], 0)).bind fun | .inl e24 => some (.inr (e24, 0)) | .inr rv => some rv))
def trace_threads_V (p0 : api_Trace) : (((List (Int × ByteArray)) × Int) ⊕ ((List (Int × ByteArray)) × Int)) → V
  | .inl d => .tup [.c (.nilM), .c (.imm (tI d.2))]
  | .inr d => .tup [.c (.mapO (902,1920)), .c (.imm (tI d.2))]
def trace_threads_M (p0 : api_Trace) : (((List (Int × ByteArray)) × Int) ⊕ ((List (Int × ByteArray)) × Int)) → M
  | .inl _ => []
  | .inr d => [((902,1920), mapOb (.int .i64) (fun n : Int => .int .i64 n) (fun y : ByteArray => (.one (.sc (.string y)) : MT)) d.1)]
theorem trace_threads_fun (p0 : api_Trace) (r : (((List (Int × ByteArray)) × Int) ⊕ ((List (Int × ByteArray)) × Int))) (hF : trace_threads p0 = some r) : Fun Tryz.prog 48 false [] [.agg (m_api_Trace p0)] (heapOf []) (trace_threads_V p0 r) (heapOf (trace_threads_M p0 r)) := by
 refine Fun.of_walkM [] (some []) Tryz.func48 c48 (by kernel_rfl) (rs := [.tmp 2, .tmp 3]) (by kernel_rfl) rfl rfl rfl ?_; unfold v48
 unfold trace_threads at hF
 refine wA rfl ?_; refine W_seq ?_; refine wC 2 rfl ?_; refine rS (T_len (tc := t_api_Thread) p0.fThreads .tree ?_); refine QV rfl ?_; refine wIf hF rfl (fun _ hF => ?_) fun _ hF => ?_
 · refine wA rfl ?_; cases hF
   exact W_ret ⟨_, _, S_refl, _, rfl, rfl, ⟨trivial, ⟨rfl, fun _ => rfl⟩, trivial⟩, (AgM.weak trivial)⟩
 refine W_skip ?_; refine wE ?_; refine rS (T_mkmap (kd := (.int .i64)) (kv := kvI) (vv := vvS) rfl ?_)
 refine QV rfl ?_; refine W_seq ?_; refine wC 2 rfl ?_; refine rS (T_len (tc := t_api_Thread) p0.fThreads .tree ?_); refine QV rfl ?_; refine W_for (fun _ _ h => h) hF (.inl) (fun (a17, a18) => [(4, cM (14,0)), (16, cL 3 t_api_Thread p0.fThreads), (17, cI (List.length p0.fThreads : Int)), (18, cI a18)]) (fun (a17, a18) => [((14,0), mapOb (.int .i64) kvI vvS a17)]) (fun e24 => [(4, cM (14,0))]) (fun e24 => [((14,0), mapOb (.int .i64) kvI vvS e24)]) sw ?_ ?_
 · rintro e24 hF
   refine wA rfl ?_; cases hF
   exact W_ret ⟨_, _, (S_ren (14,0) (902,1920) rfl rfl S_refl), _, rfl, rfl, ⟨rfl, ⟨rfl, fun _ => rfl⟩, trivial⟩, (AgM.weak ⟨rfl, trivial⟩)⟩
 rintro ⟨a17, a18⟩ x_0 hF cont_0 brk_0 fin_0
 unfold trace_threads_L1 at hF
 refine wA rfl ?_; refine W_seq ?_; refine wIf hF rfl (fun _ hF => ?_) fun _ hF => ?_
 · refine W_skip ?_; refine W_seq ?_; refine W_block ?_; refine wE ?_; obtain ⟨y25, hy25, hF⟩ := bB hF
   refine rS (T_ixT (tc := t_api_Thread) p0.fThreads rfl rfl hy25 ?_); refine QV rfl ?_; refine W_seq ?_; refine wC 1 rfl ?_; obtain ⟨r26, hr26, hF⟩ := bB hF
   refine rS (T_call (producer_Thread_fun _ _ hr26) ⟨⟨rfl, rfl, rfl, trivial⟩, trivial⟩ rfl (.inl rfl) ?_); refine QV rfl ?_; refine wA rfl ?_; refine wIf hF rfl (fun _ hF => ?_) fun _ hF => ?_
   · refine wA rfl ?_; have hF := fin_0 _ (oi hF); cases hF
     exact W_ret ⟨_, _, S_refl, _, rfl, rfl, ⟨trivial, ⟨rfl, fun _ => rfl⟩, trivial⟩, (AgM.weak trivial)⟩
   refine W_skip ?_; refine W_seq ?_; refine wC 3 rfl ?_; refine rS (T_lookOk (keyI .i64) (vv := vvS) a17 y25.fId ⟨#[]⟩ (.own _ rfl) rfl rfl ?_)
   refine QV rfl ?_; refine wA rfl ?_; refine wIf hF rfl (fun _ hF => ?_) fun _ hF => ?_
   · refine wA rfl ?_; have hF := fin_0 _ (oi hF); cases hF
     exact W_ret ⟨_, _, S_refl, _, rfl, rfl, ⟨trivial, ⟨rfl, fun _ => rfl⟩, trivial⟩, (AgM.weak trivial)⟩
   refine W_skip ?_; refine wD 5 rfl ?_; refine rS (T_mupd (keyI .i64) (vv := vvS) a17 y25.fId y25.fName rfl rfl rfl rfl ?_)
   refine QV rfl ?_; refine wB rfl ?_; exact cont_0 _ _ _ (oi hF) sw
 refine W_exit ?_; refine thenQ_exit ?_; refine thenQ_exit ?_; refine blockQ_hit ?_; exact brk_0 _ _ _ (oi hF) sw
def spans_Valid (p0 : api_Span) : Option Bool :=
  (((bif (decide (0 ≤ p0.fFrom)) then (bif (decide (p0.fFrom < p0.fTo)) then some (decide (p0.fTo ≤ 1000000000000)) else some false) else some false) : Option Bool).bind fun v1 => some v1)
theorem spans_Valid_fun (p0 : api_Span) (r : Bool) (hF : spans_Valid p0 = some r) : Fun Tryz.prog 87 true [] [.agg [jI p0.fFrom, jI p0.fTo]] noHeap (cB r) noHeap := by
 refine Fun.of_walk0 Tryz.func87 c87 (by kernel_rfl) (rs := [.tmp 2]) (by kernel_rfl) ?_; unfold v87
 unfold spans_Valid at hF
 refine wA rfl ?_; refine W_seq ?_; refine W_join (fun _ _ h => h) hF (fun v1 => [(2, cB v1)]) (fun v1 => []) ?_ ?_
 · rintro v1 hF
   cases hF
   exact W_ret wR
 intro join hF
 refine wD 4 rfl ?_; cases h2 : (decide (0 ≤ p0.fFrom))
 · have hF := bF' h2 hF; refine QV rfl ?_; exact join false _ _ hF sw
 have hF := bT' h2 hF; refine Q_run SV 7 rfl ?_; cases h3 : (decide (p0.fFrom < p0.fTo))
 · have hF := bF' h3 hF; refine QV rfl ?_; exact join false _ _ hF sw
 have hF := bT' h3 hF; refine QV rfl ?_; exact join (decide (p0.fTo ≤ 1000000000000)) _ _ hF sw
def cmp_isNaN_int (p0 : Int) : Option Bool :=
  some (!decide (p0 = p0))
theorem cmp_isNaN_int_fun (p0 : Int) (r : Bool) (hF : cmp_isNaN_int p0 = some r) : Fun Tryz.prog 150 true [] [cI p0] noHeap (cB r) noHeap := by
 refine Fun.of_walk0 Tryz.func150 c150 (by kernel_rfl) (rs := [.tmp 2]) (by kernel_rfl) ?_; unfold v150
 unfold cmp_isNaN_int at hF
 refine wA rfl ?_; refine wA rfl ?_; cases hF
 exact W_ret wR
def cmp_Compare_int (p0 : Int) (p1 : Int) : Option Int :=
  ((cmp_isNaN_int p0).bind fun r1 => ((cmp_isNaN_int p1).bind fun r2 => (bif r1 then (bif r2 then some 0 else some (-1)) else (bif r2 then some 1 else (bif (decide (p0 < p1)) then some (-1) else (bif (decide (p1 < p0)) then some 1 else some 0))))))
theorem cmp_Compare_int_fun (p0 : Int) (p1 : Int) (r : Int) (hF : cmp_Compare_int p0 p1 = some r) : Fun Tryz.prog 130 true [] [cI p0, cI p1] noHeap (cI r) noHeap := by
 refine Fun.of_walk0 Tryz.func130 c130 (by kernel_rfl) (rs := [.tmp 4]) (by kernel_rfl) ?_; unfold v130
 unfold cmp_Compare_int at hF
 refine wA rfl ?_; refine wC 1 rfl ?_; obtain ⟨r1, hr1, hF⟩ := bB hF
 refine rS (T_call (cmp_isNaN_int_fun _ _ hr1) ⟨rfl, trivial⟩ rfl (.inl rfl) ?_); refine QV rfl ?_; refine wC 1 rfl ?_; obtain ⟨r2, hr2, hF⟩ := bB hF
 refine rS (T_call (cmp_isNaN_int_fun _ _ hr2) ⟨rfl, trivial⟩ rfl (.inl rfl) ?_); refine QV rfl ?_; refine W_seq ?_; refine wA rfl ?_; refine wIf hF rfl (fun _ hF => ?_) fun _ hF => ?_
 · refine W_seq ?_; refine wA rfl ?_; refine wIf hF rfl (fun _ hF => ?_) fun _ hF => ?_
   · refine wA rfl ?_; cases hF
     exact W_ret wR
   refine W_skip ?_; refine wA rfl ?_; cases hF
   exact W_ret wR
 refine W_skip ?_; refine W_seq ?_; refine wA rfl ?_; refine wIf hF rfl (fun _ hF => ?_) fun _ hF => ?_
 · refine wA rfl ?_; cases hF
   exact W_ret wR
 refine W_skip ?_; refine W_seq ?_; refine wA rfl ?_; refine wIf hF rfl (fun _ hF => ?_) fun _ hF => ?_
 · refine wA rfl ?_; cases hF
   exact W_ret wR
 refine W_skip ?_; refine W_seq ?_; refine wA rfl ?_; refine wIf hF rfl (fun _ hF => ?_) fun _ hF => ?_
 · refine wA rfl ?_; cases hF
   exact W_ret wR
 refine W_skip ?_; refine wA rfl ?_; cases hF
 exact W_ret wR
def cmp_Or_int_L1 (p0 : (List Int)) : Int → Option (Int ⊕ (Unit ⊕ Int)) := fun a10 =>
  (bif (decide (a10 < (List.length p0 : Int))) then ((idx p0 a10).bind fun y14 => (bif (!decide (y14 = 0)) then some (.inr (.inr y14)) else some (.inl (w64 (a10 + 1))))) else some (.inr (.inl ())))
def cmp_Or_int (p0 : (List Int)) : Option Int :=
  ((loop (cmp_Or_int_L1 p0) 0).bind fun | .inl _ => some 0 | .inr rv => some rv)
theorem cmp_Or_int_fun (p0 : (List Int)) (r : Int) (hF : cmp_Or_int p0 = some r) : Fun Tryz.prog 129 true [] [cL 1 t_i64 p0] noHeap (cI r) noHeap := by
 refine Fun.of_walk0 Tryz.func129 c129 (by kernel_rfl) (rs := [.tmp 2]) (by kernel_rfl) ?_; unfold v129
 unfold cmp_Or_int at hF
 refine wA rfl ?_; refine wA rfl ?_; refine W_seq ?_; refine wC 1 rfl ?_; refine rS (T_len (tc := t_i64) p0 .tree ?_); refine QV rfl ?_; refine W_for (fun _ _ h => h) hF (.inl) (fun a10 => [(3, cI 0), (6, cL 1 t_i64 p0), (7, cI (List.length p0 : Int)), (8, cI a10)]) (fun a10 => []) (fun _ => [(3, cI 0)]) (fun _ => []) sw ?_ ?_
 · rintro ⟨⟩ hF
   refine wA rfl ?_; cases hF
   exact W_ret wR
 rintro a10 x_0 hF cont_0 brk_0 fin_0
 unfold cmp_Or_int_L1 at hF
 refine wA rfl ?_; refine W_seq ?_; refine wIf hF rfl (fun _ hF => ?_) fun _ hF => ?_
 · refine W_skip ?_; refine W_seq ?_; refine W_block ?_; refine wE ?_; obtain ⟨y14, hy14, hF⟩ := bB hF
   refine rS (T_ixT (tc := t_i64) p0 rfl rfl hy14 ?_); refine QV rfl ?_; refine wA rfl ?_; refine wIf hF rfl (fun _ hF => ?_) fun _ hF => ?_
   · refine wA rfl ?_; have hF := fin_0 _ (oi hF); cases hF
     exact W_ret wR
   refine W_skip ?_; refine wB rfl ?_; exact cont_0 _ _ _ (oi hF) sw
 refine W_exit ?_; refine thenQ_exit ?_; refine thenQ_exit ?_; refine blockQ_hit ?_; exact brk_0 _ _ _ (oi hF) sw
def slice_compare (p0 : api_Slice) (p1 : api_Slice) : Option Int :=
  ((cmp_Compare_int p0.fSpan.fFrom p1.fSpan.fFrom).bind fun r1 => ((cmp_Compare_int p1.fSpan.fTo p0.fSpan.fTo).bind fun r2 => ((cmp_Compare_int p0.fThread p1.fThread).bind fun r3 => ((cmp_Or_int [r1, r2, r3]).bind fun r4 => some r4))))
theorem slice_compare_fun (p0 : api_Slice) (p1 : api_Slice) (r : Int) (hF : slice_compare p0 p1 = some r) : Fun Tryz.prog 97 true [] [.agg (m_api_Slice p0), .agg (m_api_Slice p1)] noHeap (cI r) noHeap := by
 refine Fun.of_walk0 Tryz.func97 c97 (by kernel_rfl) (rs := [.tmp 4]) (by kernel_rfl) ?_; unfold v97
 unfold slice_compare at hF
 refine wA rfl ?_; refine W_seq ?_; refine W_regD (by decide) (by kernel_rfl) rfl ?_; refine Q_run SP 6 rfl ?_; obtain ⟨r1, hr1, hF⟩ := bB hF
 refine R_step SP trivial (T_call (cmp_Compare_int_fun _ _ _ hr1) ⟨rfl, rfl, trivial⟩ rfl (.inl rfl) ?_); refine Q_run SP 6 rfl ?_; obtain ⟨r2, hr2, hF⟩ := bB hF
 refine R_step SP trivial (T_call (cmp_Compare_int_fun _ _ _ hr2) ⟨rfl, rfl, trivial⟩ rfl (.inl rfl) ?_); refine Q_run SP 4 rfl ?_; obtain ⟨r3, hr3, hF⟩ := bB hF
 refine R_step SP trivial (T_call (cmp_Compare_int_fun _ _ _ hr3) ⟨rfl, rfl, trivial⟩ rfl (.inl rfl) ?_); refine R_step SP trivial (T_bsl (tc := t_i64) [r1, r2, r3] rfl ⟨rfl, rfl, rfl, trivial⟩ rfl (fun _ => rfl) rfl ?_)
 obtain ⟨r4, hr4, hF⟩ := bB hF
 refine R_step SP trivial (T_call (cmp_Or_int_fun _ _ hr4) ⟨⟨_, rfl⟩, trivial⟩ rfl (.inl rfl) ?_); refine QP rfl ?_; cases hF
 exact W_ret wR
def slice_nested_L1 (p0 : (List api_Slice)) : Int → Option (Int ⊕ (Unit ⊕ Bool)) := fun a30 =>
  (bif (decide (a30 < (List.length p0 : Int))) then ((idx p0 a30).bind fun y44 => (((bif (decide (y44.fParent < (-1))) then some true else some (decide (a30 ≤ y44.fParent))) : Option Bool).bind fun v45 => (bif v45 then some (.inr (.inr false)) else (bif (decide (y44.fParent = (-1))) then (bif (!decide (y44.fDepth = 0)) then some (.inr (.inr false)) else some (.inl (w64 (a30 + 1)))) else ((idx p0 y44.fParent).bind fun y47 => (((bif (!decide (y47.fThread = y44.fThread)) then some true else (bif (decide (y44.fSpan.fFrom < y47.fSpan.fFrom)) then some true else (bif (decide (y47.fSpan.fTo < y44.fSpan.fTo)) then some true else some (!decide (y44.fDepth = (w64 (y47.fDepth + 1))))))) : Option Bool).bind fun v48 => (bif v48 then some (.inr (.inr false)) else some (.inl (w64 (a30 + 1)))))))))) else some (.inr (.inl ())))
def slice_nested (p0 : (List api_Slice)) : Option Bool :=
  ((loop (slice_nested_L1 p0) 0).bind fun | .inl _ => some true | .inr rv => some rv)
theorem slice_nested_fun (p0 : (List api_Slice)) (r : Bool) (hF : slice_nested p0 = some r) : Fun Tryz.prog 98 true [] [cL 8 t_api_Slice p0] noHeap (cB r) noHeap := by
 refine Fun.of_walk0 Tryz.func98 c98 (by kernel_rfl) (rs := [.tmp 2]) (by kernel_rfl) ?_; unfold v98
 unfold slice_nested at hF
 refine wA rfl ?_; refine W_seq ?_; refine wC 1 rfl ?_; refine rS (T_len (tc := t_api_Slice) p0 .tree ?_); refine QV rfl ?_; refine W_for (fun _ _ h => h) hF (.inl) (fun a30 => [(0, cL 8 t_api_Slice p0), (6, cL 8 t_api_Slice p0), (7, cI (List.length p0 : Int)), (8, cI a30)]) (fun a30 => []) (fun _ => []) (fun _ => []) sw ?_ ?_
 · rintro ⟨⟩ hF
   refine wA rfl ?_; cases hF
   exact W_ret wR
 rintro a30 x_0 hF cont_0 brk_0 fin_0
 unfold slice_nested_L1 at hF
 refine wA rfl ?_; refine W_seq ?_; refine wIf hF rfl (fun _ hF => ?_) fun _ hF => ?_
 · refine W_skip ?_; refine W_seq ?_; refine W_block ?_; refine wC 1 rfl ?_; obtain ⟨y44, hy44, hF⟩ := bB hF
   refine rS (T_ixT (tc := t_api_Slice) p0 rfl rfl hy44 ?_); refine QV rfl ?_; refine W_block ?_; refine W_seq ?_; refine W_join (fun _ _ h => h) hF (fun v45 => [(0, cL 8 t_api_Slice p0), (4, cP (4,0) 0), (6, cL 8 t_api_Slice p0), (7, cI (List.length p0 : Int)), (8, cI a30), (49, cB v45)]) (fun v45 => [((4,0), .box (m_api_Slice y44))]) ?_ ?_
   · rintro v45 hF
     refine wIf hF rfl (fun _ hF => ?_) fun _ hF => ?_
     · refine wA rfl ?_; have hF := fin_0 _ (oi hF); cases hF
       exact W_ret wR
     refine wA rfl ?_; refine wIf hF rfl (fun _ hF => ?_) fun _ hF => ?_
     · refine wA rfl ?_; refine wIf hF rfl (fun _ hF => ?_) fun _ hF => ?_
       · refine wA rfl ?_; have hF := fin_0 _ (oi hF); cases hF
         exact W_ret wR
       refine W_skip ?_; refine wB rfl ?_; exact cont_0 _ _ _ (oi hF) sw
     refine wC 3 rfl ?_; obtain ⟨y47, hy47, hF⟩ := bB hF
     refine rS (T_ixT (tc := t_api_Slice) p0 rfl rfl hy47 ?_); refine QV rfl ?_; refine W_seq ?_; refine W_join (fun _ _ h => h) hF (fun v48 => [(0, cL 8 t_api_Slice p0), (6, cL 8 t_api_Slice p0), (7, cI (List.length p0 : Int)), (8, cI a30), (48, cB v48)]) (fun v48 => []) ?_ ?_
     · rintro v48 hF
       refine wIf hF rfl (fun _ hF => ?_) fun _ hF => ?_
       · refine wA rfl ?_; have hF := fin_0 _ (oi hF); cases hF
         exact W_ret wR
       refine W_skip ?_; refine wB rfl ?_; exact cont_0 _ _ _ (oi hF) sw
     intro join hF
     refine wD 6 rfl ?_; cases h50 : (!decide (y47.fThread = y44.fThread))
     · have hF := bF' h50 hF; refine Q_run SV 9 rfl ?_; cases h51 : (decide (y44.fSpan.fFrom < y47.fSpan.fFrom))
       · have hF := bF' h51 hF; refine Q_run SV 9 rfl ?_; cases h52 : (decide (y47.fSpan.fTo < y44.fSpan.fTo))
         · have hF := bF' h52 hF; refine QV rfl ?_; exact join (!decide (y44.fDepth = (w64 (y47.fDepth + 1)))) _ _ hF sw
         have hF := bT' h52 hF; refine QV rfl ?_; exact join true _ _ hF sw
       have hF := bT' h51 hF; refine QV rfl ?_; exact join true _ _ hF sw
     have hF := bT' h50 hF; refine QV rfl ?_; exact join true _ _ hF sw
   intro join hF
   refine wD 4 rfl ?_; cases h55 : (decide (y44.fParent < (-1)))
   · have hF := bF' h55 hF; refine QV rfl ?_; exact join (decide (a30 ≤ y44.fParent)) _ _ hF sw
   have hF := bT' h55 hF; refine QV rfl ?_; exact join true _ _ hF sw
 refine W_exit ?_; refine thenQ_exit ?_; refine thenQ_exit ?_; refine blockQ_hit ?_; exact brk_0 _ _ _ (oi hF) sw
def slice_under_L1 (p0 : (List api_Slice)) (p1 : Int) : Int → Option (Int ⊕ (Unit ⊕ Bool)) := fun a10 =>
  (bif (decide (0 ≤ a10)) then (bif (decide (p1 = a10)) then some (.inr (.inr true)) else ((idx p0 a10).bind fun y14 => some (.inl y14.fParent))) else some (.inr (.inl ())))
def slice_under (p0 : (List api_Slice)) (p1 : Int) (p2 : Int) : Option Bool :=
  ((loop (slice_under_L1 p0 p1) p2).bind fun | .inl _ => some false | .inr rv => some rv)
theorem slice_under_fun (p0 : (List api_Slice)) (p1 : Int) (p2 : Int) (r : Bool) (hF : slice_under p0 p1 p2 = some r) : Fun Tryz.prog 131 true [] [cL 8 t_api_Slice p0, cI p1, cI p2] noHeap (cB r) noHeap := by
 refine Fun.of_walk0 Tryz.func131 c131 (by kernel_rfl) (rs := [.tmp 6]) (by kernel_rfl) ?_; unfold v131
 unfold slice_under at hF
 refine wA rfl ?_; refine W_seq ?_; refine W_for (fun _ _ h => h) hF (.inl) (fun a10 => [(0, cL 8 t_api_Slice p0), (1, cI p1), (2, cI a10)]) (fun a10 => []) (fun _ => []) (fun _ => []) sw ?_ ?_
 · rintro ⟨⟩ hF
   refine wA rfl ?_; cases hF
   exact W_ret wR
 rintro a10 x_0 hF cont_0 brk_0 fin_0
 unfold slice_under_L1 at hF
 refine W_seq ?_; refine wA rfl ?_; refine wIf hF rfl (fun _ hF => ?_) fun _ hF => ?_
 · refine W_skip ?_; refine W_seq ?_; refine W_block ?_; refine wA rfl ?_; refine wIf hF rfl (fun _ hF => ?_) fun _ hF => ?_
   · refine wA rfl ?_; have hF := fin_0 _ (oi hF); cases hF
     exact W_ret wR
   refine W_skip ?_; refine wD 2 rfl ?_; obtain ⟨y14, hy14, hF⟩ := bB hF
   refine rS (T_ixT (tc := t_api_Slice) p0 rfl rfl hy14 ?_); refine QV rfl ?_; exact cont_0 _ _ _ (oi hF) sw
 refine W_exit ?_; refine thenQ_exit ?_; refine thenQ_exit ?_; refine blockQ_hit ?_; exact brk_0 _ _ _ (oi hF) sw
def slice_apart_L1 (p0 : (List api_Slice)) (a116 : Int) (y173 : api_Slice) : (Int × Int) → Option ((Int × Int) ⊕ (Int ⊕ (Int ⊕ (Unit ⊕ Bool)))) := fun (a202, a203) =>
  (bif (decide (a203 < (List.length p0 : Int))) then ((idx p0 a203).bind fun y217 => (((bif (decide (y217.fParent = a116)) then some (w64 (a202 - (w64 (y217.fSpan.fTo - y217.fSpan.fFrom)))) else some a202) : Option Int).bind fun v218 => (((bif (decide (a203 < a116)) then (bif (decide (y217.fThread = y173.fThread)) then (bif (decide (y173.fSpan.fFrom < y217.fSpan.fTo)) then (bif (decide (y217.fSpan.fFrom < y173.fSpan.fTo)) then ((slice_under p0 a203 a116).bind fun r225 => some (!r225)) else some false) else some false) else some false) else some false) : Option Bool).bind fun v219 => (bif v219 then some (.inr (.inr (.inr (.inr false)))) else some (.inl (v218, (w64 (a203 + 1)))))))) else some (.inr (.inl a202)))
def slice_apart_L2 (p0 : (List api_Slice)) : Int → Option (Int ⊕ (Unit ⊕ Bool)) := fun a116 =>
  (bif (decide (a116 < (List.length p0 : Int))) then ((idx p0 a116).bind fun y173 => ((loop (slice_apart_L1 p0 a116 y173) ((w64 (y173.fSpan.fTo - y173.fSpan.fFrom)), 0)).bind fun | .inl e215 => (bif (!decide (y173.fSelf = e215)) then some (.inr (.inr false)) else some (.inl (w64 (a116 + 1)))) | .inr rv => some rv)) else some (.inr (.inl ())))
def slice_apart (p0 : (List api_Slice)) : Option Bool :=
  ((loop (slice_apart_L2 p0) 0).bind fun | .inl _ => some true | .inr rv => some rv)
theorem slice_apart_fun (p0 : (List api_Slice)) (r : Bool) (hF : slice_apart p0 = some r) : Fun Tryz.prog 99 true [] [cL 8 t_api_Slice p0] noHeap (cB r) noHeap := by
 refine Fun.of_walk0 Tryz.func99 c99 (by kernel_rfl) (rs := [.tmp 2]) (by kernel_rfl) ?_; unfold v99
 unfold slice_apart at hF
 refine wA rfl ?_; refine W_seq ?_; refine wC 1 rfl ?_; refine rS (T_len (tc := t_api_Slice) p0 .tree ?_); refine QV rfl ?_; refine W_for (fun _ _ h => h) hF (.inl) (fun a116 => [(0, cL 8 t_api_Slice p0), (8, cL 8 t_api_Slice p0), (9, cI (List.length p0 : Int)), (10, cI a116)]) (fun a116 => []) (fun _ => []) (fun _ => []) sw ?_ ?_
 · rintro ⟨⟩ hF
   refine wA rfl ?_; cases hF
   exact W_ret wR
 rintro a116 x_0 hF cont_0 brk_0 fin_0
 unfold slice_apart_L2 at hF
 refine wA rfl ?_; refine W_seq ?_; refine wIf hF rfl (fun _ hF => ?_) fun _ hF => ?_
 · refine W_skip ?_; refine W_seq ?_; refine W_block ?_; refine wC 1 rfl ?_; obtain ⟨y173, hy173, hF⟩ := bB hF
   refine rS (T_ixT (tc := t_api_Slice) p0 rfl rfl hy173 ?_); refine QV rfl ?_; refine wA rfl ?_; refine W_seq ?_; refine wC 1 rfl ?_; refine rS (T_len (tc := t_api_Slice) p0 .tree ?_); refine QV rfl ?_; refine W_for (fun _ _ h => h) hF (.inl) (fun (a202, a203) => [(0, cL 8 t_api_Slice p0), (3, cI a116), (4, cP (4,0) 0), (5, cI a202), (8, cL 8 t_api_Slice p0), (9, cI (List.length p0 : Int)), (10, cI a116), (22, cL 8 t_api_Slice p0), (23, cI (List.length p0 : Int)), (24, cI a203)]) (fun (a202, a203) => [((4,0), .box (m_api_Slice y173))]) (fun e215 => [(0, cL 8 t_api_Slice p0), (4, cP (4,0) 0), (5, cI e215), (8, cL 8 t_api_Slice p0), (9, cI (List.length p0 : Int)), (10, cI a116)]) (fun e215 => [((4,0), .box (m_api_Slice y173))]) sw ?_ ?_
   · rintro e215 hF
     refine wA rfl ?_; refine wIf hF rfl (fun _ hF => ?_) fun _ hF => ?_
     · refine wA rfl ?_; have hF := fin_0 _ (oi hF); cases hF
       exact W_ret wR
     refine W_skip ?_; refine wB rfl ?_; exact cont_0 _ _ _ (oi hF) sw
   rintro ⟨a202, a203⟩ x_1 hF cont_1 brk_1 fin_1
   unfold slice_apart_L1 at hF
   refine wA rfl ?_; refine W_seq ?_; refine wIf hF rfl (fun _ hF => ?_) fun _ hF => ?_
   · refine W_skip ?_; refine W_seq ?_; refine W_block ?_; refine wC 1 rfl ?_; obtain ⟨y217, hy217, hF⟩ := bB hF
     refine rS (T_ixT (tc := t_api_Slice) p0 rfl rfl hy217 ?_); refine QV rfl ?_; refine W_seq ?_; refine wA rfl ?_; refine W_join (fun _ _ h => h) hF (fun v218 => [(0, cL 8 t_api_Slice p0), (3, cI a116), (4, cP (4,0) 0), (5, cI v218), (6, cI a203), (7, cP (7,0) 0), (8, cL 8 t_api_Slice p0), (9, cI (List.length p0 : Int)), (10, cI a116), (22, cL 8 t_api_Slice p0), (23, cI (List.length p0 : Int)), (24, cI a203)]) (fun v218 => [((4,0), .box (m_api_Slice y173)), ((7,0), .box (m_api_Slice y217))]) ?_ ?_
     · rintro v218 hF
       refine W_seq ?_; refine W_join (fun _ _ h => h) hF (fun v219 => [(0, cL 8 t_api_Slice p0), (3, cI a116), (4, cP (4,0) 0), (5, cI v218), (8, cL 8 t_api_Slice p0), (9, cI (List.length p0 : Int)), (10, cI a116), (22, cL 8 t_api_Slice p0), (23, cI (List.length p0 : Int)), (24, cI a203), (76, cB v219)]) (fun v219 => [((4,0), .box (m_api_Slice y173))]) ?_ ?_
       · rintro v219 hF
         refine wIf hF rfl (fun _ hF => ?_) fun _ hF => ?_
         · refine wA rfl ?_; have hF := fin_1 _ (oi hF); have hF := fin_0 _ (oi hF); cases hF
           exact W_ret wR
         refine W_skip ?_; refine wB rfl ?_; exact cont_1 _ _ _ (oi hF) sw
       intro join hF
       refine wD 4 rfl ?_; cases h221 : (decide (a203 < a116))
       · have hF := bF' h221 hF; refine QV rfl ?_; exact join false _ _ hF sw
       have hF := bT' h221 hF; refine Q_run SV 7 rfl ?_; cases h222 : (decide (y217.fThread = y173.fThread))
       · have hF := bF' h222 hF; refine QV rfl ?_; exact join false _ _ hF sw
       have hF := bT' h222 hF; refine Q_run SV 9 rfl ?_; cases h223 : (decide (y173.fSpan.fFrom < y217.fSpan.fTo))
       · have hF := bF' h223 hF; refine QV rfl ?_; exact join false _ _ hF sw
       have hF := bT' h223 hF; refine Q_run SV 9 rfl ?_; cases h224 : (decide (y217.fSpan.fFrom < y173.fSpan.fTo))
       · have hF := bF' h224 hF; refine QV rfl ?_; exact join false _ _ hF sw
       have hF := bT' h224 hF; refine Q_run SV 3 rfl ?_; obtain ⟨r225, hr225, hF⟩ := bB' hF
       refine R_step SV rfl (T_call (slice_under_fun _ _ _ _ hr225) ⟨rfl, rfl, rfl, trivial⟩ rfl (.inl rfl) ?_); refine QV rfl ?_; exact join (!r225) _ _ hF sw
     intro join hF
     refine wIf' hF rfl (fun _ hF => ?_) fun _ hF => ?_
     · refine wB rfl ?_; exact join (w64 (a202 - (w64 (y217.fSpan.fTo - y217.fSpan.fFrom)))) _ _ hF sw
     refine W_skip ?_; exact join a202 _ _ hF sw
   refine W_exit ?_; refine thenQ_exit ?_; refine thenQ_exit ?_; refine blockQ_hit ?_; exact brk_1 _ _ _ (oi hF) sw
 refine W_exit ?_; refine thenQ_exit ?_; refine thenQ_exit ?_; refine blockQ_hit ?_; exact brk_0 _ _ _ (oi hF) sw
def slice_Check_L1 (p0 : (List api_Slice)) : Int → Option (Int ⊕ (Unit ⊕ Int)) := fun a32 =>
  (bif (decide (a32 < (List.length p0 : Int))) then ((idx p0 a32).bind fun y52 => (((bif (decide (y52.fThread < 0)) then some true else (bif (decide (1000000000000000 < y52.fThread)) then some true else ((spans_Valid y52.fSpan).bind fun r64 => some (!r64)))) : Option Bool).bind fun v53 => (bif v53 then some (.inr (.inr 2)) else ((intern_Name y52.fName).bind fun r54 => (bif (!decide (r54 = 0)) then some (.inr (.inr r54)) else (((bif (decide (0 < a32)) then ((idx p0 (w64 (a32 - 1))).bind fun y58 => ((slice_compare y58 y52).bind fun r59 => some (decide (0 < r59)))) else some false) : Option Bool).bind fun v55 => (bif v55 then some (.inr (.inr 11)) else some (.inl (w64 (a32 + 1)))))))))) else some (.inr (.inl ())))
def slice_Check (p0 : (List api_Slice)) : Option Int :=
  ((loop (slice_Check_L1 p0) 0).bind fun | .inl _ => ((((slice_nested p0).bind fun r49 => (bif (!r49) then some true else ((slice_apart p0).bind fun r51 => some (!r51)))) : Option Bool).bind fun v47 => (bif v47 then some 10 else some 0)) | .inr rv => some rv)
theorem slice_Check_fun (p0 : (List api_Slice)) (r : Int) (hF : slice_Check p0 = some r) : Fun Tryz.prog 50 true [] [cL 8 t_api_Slice p0] noHeap (cI r) noHeap := by
 refine Fun.of_walk0 Tryz.func50 c50 (by kernel_rfl) (rs := [.tmp 2]) (by kernel_rfl) ?_; unfold v50
 unfold slice_Check at hF
 refine wA rfl ?_; refine W_seq ?_; refine wC 1 rfl ?_; refine rS (T_len (tc := t_api_Slice) p0 .tree ?_); refine QV rfl ?_; refine W_for (fun _ _ h => h) hF (.inl) (fun a32 => [(0, cL 8 t_api_Slice p0), (6, cL 8 t_api_Slice p0), (7, cI (List.length p0 : Int)), (8, cI a32)]) (fun a32 => []) (fun _ => [(0, cL 8 t_api_Slice p0)]) (fun _ => []) sw ?_ ?_
 · rintro ⟨⟩ hF
   refine W_seq ?_; refine W_seq ?_; refine W_join (fun _ _ h => h) hF (fun v47 => [(53, cB v47)]) (fun v47 => []) ?_ ?_
   · rintro v47 hF
     refine wIf hF rfl (fun _ hF => ?_) fun _ hF => ?_
     · refine wA rfl ?_; cases hF
       exact W_ret wR
     refine W_skip ?_; refine wA rfl ?_; cases hF
     exact W_ret wR
   intro join hF
   refine wD 1 rfl ?_; obtain ⟨r49, hr49, hF⟩ := bB' hF
   refine rS (T_call (slice_nested_fun _ _ hr49) ⟨rfl, trivial⟩ rfl (.inl rfl) ?_); refine Q_run SV 2 rfl ?_; cases h50 : (!r49)
   · have hF := bF' h50 hF; refine Q_run SV 1 rfl ?_; obtain ⟨r51, hr51, hF⟩ := bB' hF
     refine R_step SV rfl (T_call (slice_apart_fun _ _ hr51) ⟨rfl, trivial⟩ rfl (.inl rfl) ?_); refine QV rfl ?_; exact join (!r51) _ _ hF sw
   have hF := bT' h50 hF; refine QV rfl ?_; exact join true _ _ hF sw
 rintro a32 x_0 hF cont_0 brk_0 fin_0
 unfold slice_Check_L1 at hF
 refine wA rfl ?_; refine W_seq ?_; refine wIf hF rfl (fun _ hF => ?_) fun _ hF => ?_
 · refine W_skip ?_; refine W_seq ?_; refine W_block ?_; refine wC 1 rfl ?_; obtain ⟨y52, hy52, hF⟩ := bB hF
   refine rS (T_ixT (tc := t_api_Slice) p0 rfl rfl hy52 ?_); refine QV rfl ?_; refine W_seq ?_; refine W_seq ?_; refine W_join (fun _ _ h => h) hF (fun v53 => [(0, cL 8 t_api_Slice p0), (3, cI a32), (4, cP (4,0) 0), (6, cL 8 t_api_Slice p0), (7, cI (List.length p0 : Int)), (8, cI a32), (26, cB v53)]) (fun v53 => [((4,0), .box (m_api_Slice y52))]) ?_ ?_
   · rintro v53 hF
     refine wIf hF rfl (fun _ hF => ?_) fun _ hF => ?_
     · refine wA rfl ?_; have hF := fin_0 _ (oi hF); cases hF
       exact W_ret wR
     refine W_skip ?_; refine W_seq ?_; refine wC 2 rfl ?_; obtain ⟨r54, hr54, hF⟩ := bB hF
     refine rS (T_call (intern_Name_fun _ _ hr54) ⟨rfl, trivial⟩ rfl (.inl rfl) ?_); refine QV rfl ?_; refine wA rfl ?_; refine wIf hF rfl (fun _ hF => ?_) fun _ hF => ?_
     · refine wA rfl ?_; have hF := fin_0 _ (oi hF); cases hF
       exact W_ret wR
     refine W_skip ?_; refine W_seq ?_; refine W_join (fun _ _ h => h) hF (fun v55 => [(0, cL 8 t_api_Slice p0), (6, cL 8 t_api_Slice p0), (7, cI (List.length p0 : Int)), (8, cI a32), (44, cB v55)]) (fun v55 => []) ?_ ?_
     · rintro v55 hF
       refine wIf hF rfl (fun _ hF => ?_) fun _ hF => ?_
       · refine wA rfl ?_; have hF := fin_0 _ (oi hF); cases hF
         exact W_ret wR
       refine W_skip ?_; refine wB rfl ?_; exact cont_0 _ _ _ (oi hF) sw
     intro join hF
     refine W_regD (by decide) (by kernel_rfl) rfl ?_; refine Q_run SP 3 rfl ?_; cases h57 : (decide (0 < a32))
     · have hF := bF' h57 hF; refine QP rfl ?_; exact join false _ _ hF sw
     have hF := bT' h57 hF; refine Q_run SP 3 rfl ?_; obtain ⟨y58, hy58, hF⟩ := bB' hF
     refine R_step SP rfl (T_ixT (tc := t_api_Slice) p0 rfl rfl hy58 ?_); refine Q_run SP 2 rfl ?_; obtain ⟨r59, hr59, hF⟩ := bB' hF
     refine R_step SP rfl (T_call (slice_compare_fun _ _ _ hr59) ⟨⟨rfl, rfl, rfl, rfl, rfl, rfl, rfl, rfl, trivial⟩, ⟨rfl, rfl, rfl, rfl, rfl, rfl, rfl, rfl, trivial⟩, trivial⟩ rfl (.inl rfl) ?_); refine QP rfl ?_
     exact join (decide (0 < r59)) _ _ hF sw
   intro join hF
   refine wD 4 rfl ?_; cases h62 : (decide (y52.fThread < 0))
   · have hF := bF' h62 hF; refine Q_run SV 5 rfl ?_; cases h63 : (decide (1000000000000000 < y52.fThread))
     · have hF := bF' h63 hF; refine Q_run SV 2 rfl ?_; obtain ⟨r64, hr64, hF⟩ := bB' hF
       refine R_step SV rfl (T_call (spans_Valid_fun _ _ hr64) ⟨⟨rfl, rfl, trivial⟩, trivial⟩ rfl (.inl rfl) ?_); refine QV rfl ?_; exact join (!r64) _ _ hF sw
     have hF := bT' h63 hF; refine QV rfl ?_; exact join true _ _ hF sw
   have hF := bT' h62 hF; refine QV rfl ?_; exact join true _ _ hF sw
 refine W_exit ?_; refine thenQ_exit ?_; refine thenQ_exit ?_; refine blockQ_hit ?_; exact brk_0 _ _ _ (oi hF) sw
def trace_tables_1 (p0 : api_Slice) : Option Int :=
  some p0.fThread
theorem trace_tables_1_fun (p0 : api_Slice) (r : Int) (hF : trace_tables_1 p0 = some r) : Fun Tryz.prog 51 true [] [.agg (m_api_Slice p0)] noHeap (cI r) noHeap := by
 refine Fun.of_walk0 Tryz.func51 c51 (by kernel_rfl) (rs := [.tmp 2]) (by kernel_rfl) ?_; unfold v51
 unfold trace_tables_1 at hF
 refine wA rfl ?_; refine wA rfl ?_; cases hF
 exact W_ret wR
def trace_known_api_Slice_k1_L1 (p1 : (List (Int × ByteArray))) (p2 : (List api_Slice)) : Int → Option (Int ⊕ (Unit ⊕ Int)) := fun a12 =>
  (bif (decide (a12 < (List.length p2 : Int))) then ((idx p2 a12).bind fun y17 => ((trace_tables_1 y17).bind fun r18 => (bif (!(Option.isSome (mget r18 p1))) then some (.inr (.inr 5)) else some (.inl (w64 (a12 + 1)))))) else some (.inr (.inl ())))
def trace_known_api_Slice_k1 (p0 : Int) (p1 : (List (Int × ByteArray))) (p2 : (List api_Slice)) : Option Int :=
  (bif (!decide (p0 = 0)) then some p0 else ((loop (trace_known_api_Slice_k1_L1 p1 p2) 0).bind fun | .inl _ => some 0 | .inr rv => some rv))
theorem trace_known_api_Slice_k1_fun (p0 : Int) (p1 : (List (Int × ByteArray))) (p2 : (List api_Slice)) (r : Int) (hF : trace_known_api_Slice_k1 p0 p1 p2 = some r) : Fun Tryz.prog 49 false [(2960,0)] [cI p0, cM (2960,0), cL 8 t_api_Slice p2, .c (.fn 51 [])] (heapOf [((2960,0), mapOb (.int .i64) kvI vvS p1)]) (cI r) (heapOf [((2960,0), mapOb (.int .i64) kvI vvS p1)]) := by
 refine Fun.of_walkM [(2960,0)] (some [(2960,0)]) Tryz.func49 c49 (by kernel_rfl) (rs := [.tmp 8]) (by kernel_rfl) rfl rfl rfl ?_; unfold v49
 unfold trace_known_api_Slice_k1 at hF
 refine wA rfl ?_; refine W_seq ?_; refine wA rfl ?_; refine wIf hF rfl (fun _ hF => ?_) fun _ hF => ?_
 · refine wA rfl ?_; cases hF
   exact W_ret ⟨_, _, S_refl, _, rfl, rfl, ⟨rfl, fun _ => rfl⟩, (AgM.weak ⟨rfl, trivial⟩)⟩
 refine W_skip ?_; refine W_seq ?_; refine wC 1 rfl ?_; refine rS (T_len (tc := t_api_Slice) p2 .tree ?_); refine QV rfl ?_; refine W_for (fun _ _ h => h) hF (.inl) (fun a12 => [(1, cM (2960,0)), (3, .c (.fn 51 [])), (16, cL 8 t_api_Slice p2), (17, cI (List.length p2 : Int)), (18, cI a12)]) (fun a12 => [((2960,0), mapOb (.int .i64) kvI vvS p1)]) (fun _ => []) (fun _ => [((2960,0), mapOb (.int .i64) kvI vvS p1)]) sw ?_ ?_
 · rintro ⟨⟩ hF
   refine wA rfl ?_; cases hF
   exact W_ret ⟨_, _, S_refl, _, rfl, rfl, ⟨rfl, fun _ => rfl⟩, (AgM.weak ⟨rfl, trivial⟩)⟩
 rintro a12 x_0 hF cont_0 brk_0 fin_0
 unfold trace_known_api_Slice_k1_L1 at hF
 refine wA rfl ?_; refine W_seq ?_; refine wIf hF rfl (fun _ hF => ?_) fun _ hF => ?_
 · refine W_skip ?_; refine W_seq ?_; refine W_block ?_; refine wE ?_; obtain ⟨y17, hy17, hF⟩ := bB hF
   refine rS (T_ixT (tc := t_api_Slice) p2 rfl rfl hy17 ?_); refine QV rfl ?_; refine wC 3 rfl ?_; obtain ⟨r18, hr18, hF⟩ := bB hF
   refine R_stepX trivial (X_call (callW _ rfl fnOk51) (trace_tables_1_fun _ _ hr18) ⟨⟨rfl, rfl, rfl, rfl, rfl, rfl, rfl, rfl, trivial⟩, trivial⟩ rfl (.inl rfl) ?_); refine rS (T_lookOk (keyI .i64) (vv := vvS) p1 r18 ⟨#[]⟩ (.own _ rfl) rfl rfl ?_)
   refine QV rfl ?_; refine wA rfl ?_; refine wIf hF rfl (fun _ hF => ?_) fun _ hF => ?_
   · refine wA rfl ?_; have hF := fin_0 _ (oi hF); cases hF
     exact W_ret ⟨_, _, S_refl, _, rfl, rfl, ⟨rfl, fun _ => rfl⟩, (AgM.weak ⟨rfl, trivial⟩)⟩
   refine W_skip ?_; refine wB rfl ?_; exact cont_0 _ _ _ (oi hF) sw
 refine W_exit ?_; refine thenQ_exit ?_; refine thenQ_exit ?_; refine blockQ_hit ?_; exact brk_0 _ _ _ (oi hF) sw
def slices_Index_int_int_L1 (p0 : (List Int)) (p1 : Int) : Int → Option (Int ⊕ (Unit ⊕ Int)) := fun a10 =>
  (bif (decide (a10 < (List.length p0 : Int))) then ((idx p0 a10).bind fun y14 => (bif (decide (p1 = y14)) then some (.inr (.inr a10)) else some (.inl (w64 (a10 + 1))))) else some (.inr (.inl ())))
def slices_Index_int_int (p0 : (List Int)) (p1 : Int) : Option Int :=
  ((loop (slices_Index_int_int_L1 p0 p1) 0).bind fun | .inl _ => some (-1) | .inr rv => some rv)
theorem slices_Index_int_int_fun (p0 : (List Int)) (p1 : Int) (r : Int) (hF : slices_Index_int_int p0 p1 = some r) : Fun Tryz.prog 101 true [] [cL 1 t_i64 p0, cI p1] noHeap (cI r) noHeap := by
 refine Fun.of_walk0 Tryz.func101 c101 (by kernel_rfl) (rs := [.tmp 4]) (by kernel_rfl) ?_; unfold v101
 unfold slices_Index_int_int at hF
 refine wA rfl ?_; refine W_seq ?_; refine wC 1 rfl ?_; refine rS (T_len (tc := t_i64) p0 .tree ?_); refine QV rfl ?_; refine W_for (fun _ _ h => h) hF (.inl) (fun a10 => [(0, cL 1 t_i64 p0), (1, cI p1), (7, cI (List.length p0 : Int)), (8, cI a10)]) (fun a10 => []) (fun _ => []) (fun _ => []) sw ?_ ?_
 · rintro ⟨⟩ hF
   refine wA rfl ?_; cases hF
   exact W_ret wR
 rintro a10 x_0 hF cont_0 brk_0 fin_0
 unfold slices_Index_int_int_L1 at hF
 refine wA rfl ?_; refine W_seq ?_; refine wIf hF rfl (fun _ hF => ?_) fun _ hF => ?_
 · refine W_skip ?_; refine W_seq ?_; refine W_block ?_; refine wA rfl ?_; refine wC 3 rfl ?_; obtain ⟨y14, hy14, hF⟩ := bB hF
   refine rS (T_ixT (tc := t_i64) p0 rfl rfl hy14 ?_); refine QV rfl ?_; refine wIf hF rfl (fun _ hF => ?_) fun _ hF => ?_
   · refine wA rfl ?_; have hF := fin_0 _ (oi hF); cases hF
     exact W_ret wR
   refine W_skip ?_; refine wB rfl ?_; exact cont_0 _ _ _ (oi hF) sw
 refine W_exit ?_; refine thenQ_exit ?_; refine thenQ_exit ?_; refine blockQ_hit ?_; exact brk_0 _ _ _ (oi hF) sw
def slices_Contains_int_int (p0 : (List Int)) (p1 : Int) : Option Bool :=
  ((slices_Index_int_int p0 p1).bind fun r1 => some (decide (0 ≤ r1)))
theorem slices_Contains_int_int_fun (p0 : (List Int)) (p1 : Int) (r : Bool) (hF : slices_Contains_int_int p0 p1 = some r) : Fun Tryz.prog 132 true [] [cL 1 t_i64 p0, cI p1] noHeap (cB r) noHeap := by
 refine Fun.of_walk0 Tryz.func132 c132 (by kernel_rfl) (rs := [.tmp 4]) (by kernel_rfl) ?_; unfold v132
 unfold slices_Contains_int_int at hF
 refine wA rfl ?_; refine wC 2 rfl ?_; obtain ⟨r1, hr1, hF⟩ := bB hF
 refine rS (T_call (slices_Index_int_int_fun _ _ _ hr1) ⟨rfl, rfl, trivial⟩ rfl (.inl rfl) ?_); refine QV rfl ?_; cases hF
 exact W_ret wR
def state_distinct_L1 (p0 : (List api_Thread)) : ((List Int) × Int) → Option (((List Int) × Int) ⊕ (List Int)) := fun (a19, a20) =>
  (bif (decide (a20 < (List.length p0 : Int))) then ((((idx p0 a20).bind fun y29 => ((slices_Contains_int_int a19 y29.fId).bind fun r30 => (bif (!r30) then (bif room 8 (List.length a19 + List.length [y29.fId]) then some (a19 ++ [y29.fId]) else none) else some a19))) : Option (List Int)).bind fun v28 => some (.inl (v28, (w64 (a20 + 1))))) else some (.inr a19))
def state_distinct (p0 : (List api_Thread)) : Option (List Int) :=
  ((loop (state_distinct_L1 p0) ([], 0)).bind fun e27 => some e27)
theorem state_distinct_fun (p0 : (List api_Thread)) (r : (List Int)) (hF : state_distinct p0 = some r) : Fun Tryz.prog 100 false [] [cL 3 t_api_Thread p0] (heapOf []) (cO (902,4000)) (heapOf [((902,4000), .arr 3 1 (List.map t_i64 r))]) := by
 refine Fun.of_walkM [] (some []) Tryz.func100 c100 (by kernel_rfl) (rs := [.tmp 2]) (by kernel_rfl) rfl rfl rfl ?_; unfold v100
 unfold state_distinct at hF
 refine wA rfl ?_; refine wA rfl ?_; refine W_seq ?_; refine wC 1 rfl ?_; refine rS (T_len (tc := t_api_Thread) p0 .tree ?_); refine QV rfl ?_; refine W_for (fun _ _ h => h) hF (id) (fun (a19, a20) => [(3, cO (21,1)), (6, cL 3 t_api_Thread p0), (7, cI (List.length p0 : Int)), (8, cI a20)]) (fun (a19, a20) => [((21,1), .arr 3 1 (List.map t_i64 a19))]) (fun e27 => [(3, cO (21,1))]) (fun e27 => [((21,1), .arr 3 1 (List.map t_i64 e27))]) (S_own 3 (21,1) 3 1 rfl rfl rfl rfl sw) ?_ ?_
 · rintro e27 hF
   refine wA rfl ?_; cases hF
   exact W_ret ⟨_, _, (S_ren (21,1) (902,4000) rfl rfl S_refl), _, rfl, rfl, rfl, (AgM.weak ⟨rfl, trivial⟩)⟩
 rintro ⟨a19, a20⟩ x_0 hF cont_0 brk_0 fin_0
 unfold state_distinct_L1 at hF
 refine wA rfl ?_; refine W_seq ?_; refine wIf hF rfl (fun _ hF => ?_) fun _ hF => ?_
 · refine W_skip ?_; refine W_seq ?_; refine W_join (fun _ _ h => h) hF (fun v28 => [(3, cO (21,1)), (6, cL 3 t_api_Thread p0), (7, cI (List.length p0 : Int)), (8, cI a20)]) (fun v28 => [((21,1), .arr 3 1 (List.map t_i64 v28))]) ?_ ?_
   · rintro v28 hF
     refine wB rfl ?_; exact cont_0 _ _ _ (oi hF) sw
   intro join hF
   refine W_block ?_; refine wE ?_; obtain ⟨y29, hy29, hF⟩ := bB' hF
   refine rS (T_ixT (tc := t_api_Thread) p0 rfl rfl hy29 ?_); refine QV rfl ?_; refine wC 3 rfl ?_; obtain ⟨r30, hr30, hF⟩ := bB' hF
   refine rS (T_call (slices_Contains_int_int_fun _ _ _ hr30) ⟨⟨_, rfl⟩, rfl, trivial⟩ rfl (.inl rfl) ?_); refine QV rfl ?_; refine wIf' hF rfl (fun _ hF => ?_) fun _ hF => ?_
   · refine wD 3 rfl ?_; refine rS (T_bsl (tc := t_i64) [y29.fId] rfl ⟨rfl, trivial⟩ rfl (fun _ => rfl) rfl ?_)
     obtain ⟨h31, hF⟩ := roomT' hF
     refine rS (T_appO (tc := t_i64) a19 [y29.fId] rfl rfl (.own _ _ rfl) h31 rfl ?_); refine QV rfl ?_; exact join (a19 ++ [y29.fId]) _ _ hF (S_ren (21,0) (21,1) rfl rfl sw)
   refine W_skip ?_; exact join a19 _ _ hF sw
 refine W_exit ?_; refine thenQ_exit ?_; refine thenQ_exit ?_; refine blockQ_hit ?_; exact brk_0 _ _ _ (oi hF) sw
def state_fields (p0 : api_State) : Option Bool :=
  (((bif (decide (p0.fState = 1)) then some true else some (decide (p0.fState = 2))) : Option Bool).bind fun v1 => (((bif (decide (p0.fState < 0)) then some true else some (decide (5 < p0.fState))) : Option Bool).bind fun v2 => (bif v2 then some false else (((bif (decide (p0.fState = 4)) then (bif (decide (p0.fCpu < 0)) then some true else some (decide (64 ≤ p0.fCpu))) else some false) : Option Bool).bind fun v3 => (((bif v3 then some v3 else (bif (!decide (p0.fState = 4)) then some (!decide (p0.fCpu = (-1))) else some false)) : Option Bool).bind fun v4 => (bif v4 then some false else (((bif (decide (p0.fState = 2)) then (bif (decide (p0.fOn < 0)) then some true else some (decide (1000000000000000 < p0.fOn))) else some false) : Option Bool).bind fun v5 => (((bif v5 then some v5 else (bif (!decide (p0.fState = 2)) then some (!decide (p0.fOn = (-1))) else some false)) : Option Bool).bind fun v6 => (bif v6 then some false else (((bif (decide (p0.fBy = (-1))) then some true else (bif v1 then (bif (decide (0 ≤ p0.fBy)) then some (decide (p0.fBy ≤ 1000000000000000)) else some false) else some false)) : Option Bool).bind fun v7 => some v7))))))))))
theorem state_fields_fun (p0 : api_State) (r : Bool) (hF : state_fields p0 = some r) : Fun Tryz.prog 102 true [] [.agg (m_api_State p0)] noHeap (cB r) noHeap := by
 refine Fun.of_walk0 Tryz.func102 c102 (by kernel_rfl) (rs := [.tmp 2]) (by kernel_rfl) ?_; unfold v102
 unfold state_fields at hF
 refine wA rfl ?_; refine W_seq ?_; refine W_join (fun _ _ h => h) hF (fun v1 => [(1, cP (1,0) 0), (3, cB v1)]) (fun v1 => [((1,0), .box (m_api_State p0))]) ?_ ?_
 · rintro v1 hF
   refine W_seq ?_; refine W_block ?_; refine W_seq ?_; refine W_join (fun _ _ h => h) hF (fun v2 => [(1, cP (1,0) 0), (3, cB v1), (12, cB v2)]) (fun v2 => [((1,0), .box (m_api_State p0))]) ?_ ?_
   · rintro v2 hF
     refine wIf hF rfl (fun _ hF => ?_) fun _ hF => ?_
     · refine wA rfl ?_; cases hF
       exact W_ret wR
     refine W_seq ?_; refine W_seq ?_; refine W_join (fun _ _ h => h) hF (fun v3 => [(1, cP (1,0) 0), (3, cB v1), (21, cB v3)]) (fun v3 => [((1,0), .box (m_api_State p0))]) ?_ ?_
     · rintro v3 hF
       refine W_join (fun _ _ h => h) hF (fun v4 => [(1, cP (1,0) 0), (3, cB v1), (21, cB v4)]) (fun v4 => [((1,0), .box (m_api_State p0))]) ?_ ?_
       · rintro v4 hF
         refine wIf hF rfl (fun _ hF => ?_) fun _ hF => ?_
         · refine wA rfl ?_; cases hF
           exact W_ret wR
         refine W_seq ?_; refine W_seq ?_; refine W_join (fun _ _ h => h) hF (fun v5 => [(1, cP (1,0) 0), (3, cB v1), (43, cB v5)]) (fun v5 => [((1,0), .box (m_api_State p0))]) ?_ ?_
         · rintro v5 hF
           refine W_join (fun _ _ h => h) hF (fun v6 => [(1, cP (1,0) 0), (3, cB v1), (43, cB v6)]) (fun v6 => [((1,0), .box (m_api_State p0))]) ?_ ?_
           · rintro v6 hF
             refine wIf hF rfl (fun _ hF => ?_) fun _ hF => ?_
             · refine wA rfl ?_; cases hF
               exact W_ret wR
             refine W_skip ?_; refine W_seq ?_; refine W_join (fun _ _ h => h) hF (fun v7 => [(2, cB v7)]) (fun v7 => []) ?_ ?_
             · rintro v7 hF
               cases hF
               exact W_ret wR
             intro join hF
             refine wD 4 rfl ?_; cases h8 : (decide (p0.fBy = (-1)))
             · have hF := bF' h8 hF; refine Q_run SV 2 rfl ?_; cases h9 : v1
               · have hF := bF' h9 hF; refine QV rfl ?_; exact join false _ _ hF sw
               have hF := bT' h9 hF; refine Q_run SV 5 rfl ?_; cases h10 : (decide (0 ≤ p0.fBy))
               · have hF := bF' h10 hF; refine QV rfl ?_; exact join false _ _ hF sw
               have hF := bT' h10 hF; refine QV rfl ?_; exact join (decide (p0.fBy ≤ 1000000000000000)) _ _ hF sw
             have hF := bT' h8 hF; refine QV rfl ?_; exact join true _ _ hF sw
           intro join hF
           refine wIf' hF rfl (fun _ hF => ?_) fun _ hF => ?_
           · refine W_skip ?_; exact join v5 _ _ hF sw
           refine wD 4 rfl ?_; cases h12 : (!decide (p0.fState = 2))
           · have hF := bF' h12 hF; refine QV rfl ?_; exact join false _ _ hF sw
           have hF := bT' h12 hF; refine QV rfl ?_; exact join (!decide (p0.fOn = (-1))) _ _ hF sw
         intro join hF
         refine wD 4 rfl ?_; cases h14 : (decide (p0.fState = 2))
         · have hF := bF' h14 hF; refine QV rfl ?_; exact join false _ _ hF sw
         have hF := bT' h14 hF; refine Q_run SV 4 rfl ?_; cases h15 : (decide (p0.fOn < 0))
         · have hF := bF' h15 hF; refine QV rfl ?_; exact join (decide (1000000000000000 < p0.fOn)) _ _ hF sw
         have hF := bT' h15 hF; refine QV rfl ?_; exact join true _ _ hF sw
       intro join hF
       refine wIf' hF rfl (fun _ hF => ?_) fun _ hF => ?_
       · refine W_skip ?_; exact join v3 _ _ hF sw
       refine wD 4 rfl ?_; cases h17 : (!decide (p0.fState = 4))
       · have hF := bF' h17 hF; refine QV rfl ?_; exact join false _ _ hF sw
       have hF := bT' h17 hF; refine QV rfl ?_; exact join (!decide (p0.fCpu = (-1))) _ _ hF sw
     intro join hF
     refine wD 4 rfl ?_; cases h19 : (decide (p0.fState = 4))
     · have hF := bF' h19 hF; refine QV rfl ?_; exact join false _ _ hF sw
     have hF := bT' h19 hF; refine Q_run SV 4 rfl ?_; cases h20 : (decide (p0.fCpu < 0))
     · have hF := bF' h20 hF; refine QV rfl ?_; exact join (decide (64 ≤ p0.fCpu)) _ _ hF sw
     have hF := bT' h20 hF; refine QV rfl ?_; exact join true _ _ hF sw
   intro join hF
   refine wD 4 rfl ?_; cases h22 : (decide (p0.fState < 0))
   · have hF := bF' h22 hF; refine QV rfl ?_; exact join (decide (5 < p0.fState)) _ _ hF sw
   have hF := bT' h22 hF; refine QV rfl ?_; exact join true _ _ hF sw
 intro join hF
 refine wD 4 rfl ?_; cases h23 : (decide (p0.fState = 1))
 · have hF := bF' h23 hF; refine QV rfl ?_; exact join (decide (p0.fState = 2)) _ _ hF sw
 have hF := bT' h23 hF; refine QV rfl ?_; exact join true _ _ hF sw
def state_same (p0 : api_State) (p1 : api_State) : Option Bool :=
  (((bif (decide (p0.fState = p1.fState)) then (bif (decide (p0.fCpu = p1.fCpu)) then some (decide (p0.fOn = p1.fOn)) else some false) else some false) : Option Bool).bind fun v1 => some v1)
theorem state_same_fun (p0 : api_State) (p1 : api_State) (r : Bool) (hF : state_same p0 p1 = some r) : Fun Tryz.prog 103 true [] [.agg (m_api_State p0), .agg (m_api_State p1)] noHeap (cB r) noHeap := by
 refine Fun.of_walk0 Tryz.func103 c103 (by kernel_rfl) (rs := [.tmp 4]) (by kernel_rfl) ?_; unfold v103
 unfold state_same at hF
 refine wA rfl ?_; refine W_seq ?_; refine W_join (fun _ _ h => h) hF (fun v1 => [(4, cB v1)]) (fun v1 => []) ?_ ?_
 · rintro v1 hF
   cases hF
   exact W_ret wR
 intro join hF
 refine wD 6 rfl ?_; cases h2 : (decide (p0.fState = p1.fState))
 · have hF := bF' h2 hF; refine QV rfl ?_; exact join false _ _ hF sw
 have hF := bT' h2 hF; refine Q_run SV 7 rfl ?_; cases h3 : (decide (p0.fCpu = p1.fCpu))
 · have hF := bF' h3 hF; refine QV rfl ?_; exact join false _ _ hF sw
 have hF := bT' h3 hF; refine QV rfl ?_; exact join (decide (p0.fOn = p1.fOn)) _ _ hF sw
def state_Check_L1 (p1 : (List api_State)) (y68 : api_State) : Int → Option (Int ⊕ (Unit ⊕ Int)) := fun a88 =>
  (bif (decide (a88 < (List.length p1 : Int))) then ((idx p1 a88).bind fun y98 => (((bif (decide ((w64 (a88 + 1)) = (List.length p1 : Int))) then some true else ((idx p1 (w64 (a88 + 1))).bind fun y104 => some (!decide (y104.fThread = y98.fThread)))) : Option Bool).bind fun v99 => (((bif v99 then some (!decide (y98.fSpan.fTo = y68.fSpan.fTo)) else some false) : Option Bool).bind fun v100 => (bif v100 then some (.inr (.inr 11)) else some (.inl (w64 (a88 + 1))))))) else some (.inr (.inl ())))
def state_Check_L2 (p1 : (List api_State)) (r1 : (List Int)) : (Int × Int) → Option ((Int × Int) ⊕ (Int ⊕ Int)) := fun (a46, a47) =>
  (bif (decide (a47 < (List.length p1 : Int))) then ((idx p1 a47).bind fun y107 => ((slices_Index_int_int r1 y107.fThread).bind fun r108 => (bif (decide (r108 < 0)) then some (.inr (.inr 5)) else ((spans_Valid y107.fSpan).bind fun r109 => (bif (!r109) then some (.inr (.inr 2)) else ((state_fields y107).bind fun r110 => (bif (!r110) then some (.inr (.inr 1)) else (((bif (decide (r108 = a46)) then ((idx p1 (w64 (a47 - 1))).bind fun y118 => (bif (!decide (y107.fSpan.fFrom = y118.fSpan.fTo)) then some true else ((idx p1 (w64 (a47 - 1))).bind fun y120 => ((state_same y107 y120).bind fun r121 => some r121)))) else some false) : Option Bool).bind fun v111 => (bif v111 then some (.inr (.inr 11)) else (((bif (!decide (r108 = a46)) then (bif (!decide (r108 = (w64 (a46 + 1)))) then some true else some (!decide (y107.fSpan.fFrom = 0))) else some false) : Option Bool).bind fun v112 => (bif v112 then some (.inr (.inr 11)) else some (.inl (r108, (w64 (a47 + 1))))))))))))))) else some (.inr (.inl a46)))
def state_Check (p0 : (List api_Thread)) (p1 : (List api_State)) : Option Int :=
  ((state_distinct p0).bind fun r1 => ((loop (state_Check_L2 p1 r1) ((-1), 0)).bind fun | .inl e67 => (bif (decide ((List.length p1 : Int) = 0)) then some 0 else ((idx p1 (w64 ((List.length p1 : Int) - 1))).bind fun y68 => ((loop (state_Check_L1 p1 y68) 0).bind fun | .inl _ => (bif (!decide ((w64 (e67 + 1)) = (List.length r1 : Int))) then some 11 else some 0) | .inr rv => some rv))) | .inr rv => some rv))
theorem state_Check_fun (p0 : (List api_Thread)) (p1 : (List api_State)) (r : Int) (hF : state_Check p0 p1 = some r) : Fun Tryz.prog 52 true [] [cL 3 t_api_Thread p0, cL 7 t_api_State p1] noHeap (cI r) noHeap := by
 refine Fun.of_walk0 Tryz.func52 c52 (by kernel_rfl) (rs := [.tmp 4]) (by kernel_rfl) ?_; unfold v52
 unfold state_Check at hF
 refine wA rfl ?_; refine wC 1 rfl ?_; obtain ⟨r1, hr1, hF⟩ := bB hF
 refine R_stepX trivial (X_callG [((902,4000),(15,1))] rfl (callN _) (state_distinct_fun _ _ hr1) trivial ⟨.inl rfl, trivial⟩ rfl rfl rfl ?_); refine QV rfl ?_; refine wA rfl ?_; refine W_seq ?_; refine wC 1 rfl ?_
 refine rS (T_len (tc := t_api_State) p1 .tree ?_); refine QV rfl ?_; refine W_for (fun _ _ h => h) hF (.inl) (fun (a46, a47) => [(1, cL 7 t_api_State p1), (5, cO (15,1)), (6, cI a46), (16, cL 7 t_api_State p1), (17, cI (List.length p1 : Int)), (18, cI a47)]) (fun (a46, a47) => [((15,1), .arr 3 1 (List.map t_i64 r1))]) (fun e67 => [(1, cL 7 t_api_State p1), (5, cO (15,1)), (6, cI e67)]) (fun e67 => [((15,1), .arr 3 1 (List.map t_i64 r1))]) sw ?_ ?_
 · rintro e67 hF
   refine W_seq ?_; refine wC 1 rfl ?_; refine rS (T_len (tc := t_api_State) p1 .tree ?_); refine QV rfl ?_; refine wIf hF rfl (fun _ hF => ?_) fun _ hF => ?_
   · refine wA rfl ?_; cases hF
     exact W_ret wR
   refine W_skip ?_; refine wC 2 rfl ?_; refine rS (T_len (tc := t_api_State) p1 .tree ?_); refine Q_run SV 1 rfl ?_; obtain ⟨y68, hy68, hF⟩ := bB hF
   refine rS (T_ixT (tc := t_api_State) p1 rfl rfl hy68 ?_); refine QV rfl ?_; refine W_seq ?_; refine wC 1 rfl ?_; refine rS (T_len (tc := t_api_State) p1 .tree ?_); refine QV rfl ?_; refine W_for (fun _ _ h => h) hF (.inl) (fun a88 => [(1, cL 7 t_api_State p1), (5, cO (15,1)), (6, cI e67), (10, cI y68.fSpan.fTo), (94, cL 7 t_api_State p1), (95, cI (List.length p1 : Int)), (96, cI a88)]) (fun a88 => [((15,1), .arr 3 1 (List.map t_i64 r1))]) (fun _ => [(5, cO (15,1)), (6, cI e67)]) (fun _ => [((15,1), .arr 3 1 (List.map t_i64 r1))]) sw ?_ ?_
   · rintro ⟨⟩ hF
     refine W_seq ?_; refine wC 3 rfl ?_; refine rS (T_len (tc := t_i64) r1 (.own _ _ rfl) ?_); refine QV rfl ?_; refine wIf hF rfl (fun _ hF => ?_) fun _ hF => ?_
     · refine wA rfl ?_; cases hF
       exact W_ret wR
     refine W_skip ?_; refine wA rfl ?_; cases hF
     exact W_ret wR
   rintro a88 x_0 hF cont_0 brk_0 fin_0
   unfold state_Check_L1 at hF
   refine wA rfl ?_; refine W_seq ?_; refine wIf hF rfl (fun _ hF => ?_) fun _ hF => ?_
   · refine W_skip ?_; refine W_seq ?_; refine W_block ?_; refine wC 1 rfl ?_; obtain ⟨y98, hy98, hF⟩ := bB hF
     refine rS (T_ixT (tc := t_api_State) p1 rfl rfl hy98 ?_); refine QV rfl ?_; refine W_seq ?_; refine W_join (fun _ _ h => h) hF (fun v99 => [(1, cL 7 t_api_State p1), (5, cO (15,1)), (6, cI e67), (10, cI y68.fSpan.fTo), (12, cP (12,0) 0), (13, cB v99), (94, cL 7 t_api_State p1), (95, cI (List.length p1 : Int)), (96, cI a88)]) (fun v99 => [((15,1), .arr 3 1 (List.map t_i64 r1)), ((12,0), .box (m_api_State y98))]) ?_ ?_
     · rintro v99 hF
       refine W_seq ?_; refine W_join (fun _ _ h => h) hF (fun v100 => [(1, cL 7 t_api_State p1), (5, cO (15,1)), (6, cI e67), (10, cI y68.fSpan.fTo), (94, cL 7 t_api_State p1), (95, cI (List.length p1 : Int)), (96, cI a88), (124, cB v100)]) (fun v100 => [((15,1), .arr 3 1 (List.map t_i64 r1))]) ?_ ?_
       · rintro v100 hF
         refine wIf hF rfl (fun _ hF => ?_) fun _ hF => ?_
         · refine wA rfl ?_; have hF := fin_0 _ (oi hF); cases hF
           exact W_ret wR
         refine W_skip ?_; refine wB rfl ?_; exact cont_0 _ _ _ (oi hF) sw
       intro join hF
       refine wD 2 rfl ?_; cases h102 : v99
       · have hF := bF' h102 hF; refine QV rfl ?_; exact join false _ _ hF sw
       have hF := bT' h102 hF; refine QV rfl ?_; exact join (!decide (y98.fSpan.fTo = y68.fSpan.fTo)) _ _ hF sw
     intro join hF
     refine W_regD (by decide) (by kernel_rfl) rfl ?_; refine Q_run SP 3 rfl ?_; refine R_step SP trivial (T_len (tc := t_api_State) p1 .tree ?_); refine Q_run SP 2 rfl ?_; cases h103 : (decide ((w64 (a88 + 1)) = (List.length p1 : Int)))
     · have hF := bF' h103 hF; refine Q_run SP 3 rfl ?_; obtain ⟨y104, hy104, hF⟩ := bB' hF
       refine R_step SP rfl (T_ixT (tc := t_api_State) p1 rfl rfl hy104 ?_); refine QP rfl ?_; exact join (!decide (y104.fThread = y98.fThread)) _ _ hF sw
     have hF := bT' h103 hF; refine QP rfl ?_; exact join true _ _ hF sw
   refine W_exit ?_; refine thenQ_exit ?_; refine thenQ_exit ?_; refine blockQ_hit ?_; exact brk_0 _ _ _ (oi hF) sw
 rintro ⟨a46, a47⟩ x_0 hF cont_0 brk_0 fin_0
 unfold state_Check_L2 at hF
 refine wA rfl ?_; refine W_seq ?_; refine wIf hF rfl (fun _ hF => ?_) fun _ hF => ?_
 · refine W_skip ?_; refine W_seq ?_; refine W_block ?_; refine wC 1 rfl ?_; obtain ⟨y107, hy107, hF⟩ := bB hF
   refine rS (T_ixT (tc := t_api_State) p1 rfl rfl hy107 ?_); refine QV rfl ?_; refine wC 3 rfl ?_; obtain ⟨r108, hr108, hF⟩ := bB hF
   refine rS (T_call (slices_Index_int_int_fun _ _ _ hr108) ⟨⟨_, rfl⟩, rfl, trivial⟩ rfl (.inl rfl) ?_); refine QV rfl ?_; refine W_seq ?_; refine W_block ?_; refine wA rfl ?_; refine wIf hF rfl (fun _ hF => ?_) fun _ hF => ?_
   · refine wA rfl ?_; have hF := fin_0 _ (oi hF); cases hF
     exact W_ret wR
   refine wC 2 rfl ?_; obtain ⟨r109, hr109, hF⟩ := bB hF
   refine rS (T_call (spans_Valid_fun _ _ hr109) ⟨⟨rfl, rfl, trivial⟩, trivial⟩ rfl (.inl rfl) ?_); refine QV rfl ?_; refine wIf hF rfl (fun _ hF => ?_) fun _ hF => ?_
   · refine wA rfl ?_; have hF := fin_0 _ (oi hF); cases hF
     exact W_ret wR
   refine wC 1 rfl ?_; obtain ⟨r110, hr110, hF⟩ := bB hF
   refine rS (T_call (state_fields_fun _ _ hr110) ⟨⟨rfl, rfl, rfl, rfl, rfl, rfl, rfl, trivial⟩, trivial⟩ rfl (.inl rfl) ?_); refine QV rfl ?_; refine wIf hF rfl (fun _ hF => ?_) fun _ hF => ?_
   · refine wA rfl ?_; have hF := fin_0 _ (oi hF); cases hF
     exact W_ret wR
   refine W_seq ?_; refine W_join (fun _ _ h => h) hF (fun v111 => [(1, cL 7 t_api_State p1), (5, cO (15,1)), (6, cI a46), (8, cP (8,0) 0), (9, cI r108), (16, cL 7 t_api_State p1), (17, cI (List.length p1 : Int)), (18, cI a47), (39, cB v111)]) (fun v111 => [((15,1), .arr 3 1 (List.map t_i64 r1)), ((8,0), .box (m_api_State y107))]) ?_ ?_
   · rintro v111 hF
     refine wIf hF rfl (fun _ hF => ?_) fun _ hF => ?_
     · refine wA rfl ?_; have hF := fin_0 _ (oi hF); cases hF
       exact W_ret wR
     refine W_seq ?_; refine W_join (fun _ _ h => h) hF (fun v112 => [(1, cL 7 t_api_State p1), (5, cO (15,1)), (9, cI r108), (16, cL 7 t_api_State p1), (17, cI (List.length p1 : Int)), (18, cI a47), (65, cB v112)]) (fun v112 => [((15,1), .arr 3 1 (List.map t_i64 r1))]) ?_ ?_
     · rintro v112 hF
       refine wIf hF rfl (fun _ hF => ?_) fun _ hF => ?_
       · refine wA rfl ?_; have hF := fin_0 _ (oi hF); cases hF
         exact W_ret wR
       refine W_skip ?_; refine wB rfl ?_; refine wB rfl ?_; exact cont_0 _ _ _ (oi hF) sw
     intro join hF
     refine wD 4 rfl ?_; cases h114 : (!decide (r108 = a46))
     · have hF := bF' h114 hF; refine QV rfl ?_; exact join false _ _ hF sw
     have hF := bT' h114 hF; refine Q_run SV 5 rfl ?_; cases h115 : (!decide (r108 = (w64 (a46 + 1))))
     · have hF := bF' h115 hF; refine QV rfl ?_; exact join (!decide (y107.fSpan.fFrom = 0)) _ _ hF sw
     have hF := bT' h115 hF; refine QV rfl ?_; exact join true _ _ hF sw
   intro join hF
   refine W_regD (by decide) (by kernel_rfl) rfl ?_; refine Q_run SP 4 rfl ?_; cases h117 : (decide (r108 = a46))
   · have hF := bF' h117 hF; refine QP rfl ?_; exact join false _ _ hF sw
   have hF := bT' h117 hF; refine Q_run SP 6 rfl ?_; obtain ⟨y118, hy118, hF⟩ := bB' hF
   refine R_step SP rfl (T_ixT (tc := t_api_State) p1 rfl rfl hy118 ?_); refine Q_run SP 5 rfl ?_; cases h119 : (!decide (y107.fSpan.fFrom = y118.fSpan.fTo))
   · have hF := bF' h119 hF; refine Q_run SP 4 rfl ?_; obtain ⟨y120, hy120, hF⟩ := bB' hF
     refine R_step SP rfl (T_ixT (tc := t_api_State) p1 rfl rfl hy120 ?_); refine Q_run SP 1 rfl ?_; obtain ⟨r121, hr121, hF⟩ := bB' hF
     refine R_step SP rfl (T_call (state_same_fun _ _ _ hr121) ⟨⟨rfl, rfl, rfl, rfl, rfl, rfl, rfl, trivial⟩, ⟨rfl, rfl, rfl, rfl, rfl, rfl, rfl, trivial⟩, trivial⟩ rfl (.inl rfl) ?_); refine QP rfl ?_; exact join r121 _ _ hF sw
   have hF := bT' h119 hF; refine QP rfl ?_; exact join true _ _ hF sw
 refine W_exit ?_; refine thenQ_exit ?_; refine thenQ_exit ?_; refine blockQ_hit ?_; exact brk_0 _ _ _ (oi hF) sw
def flow_bad (p0 : Int) (p1 : Int) : Option Bool :=
  (((bif (decide (p0 < 0)) then some true else some (decide (p1 < p0))) : Option Bool).bind fun v1 => some v1)
theorem flow_bad_fun (p0 : Int) (p1 : Int) (r : Bool) (hF : flow_bad p0 p1 = some r) : Fun Tryz.prog 104 true [] [cI p0, cI p1] noHeap (cB r) noHeap := by
 refine Fun.of_walk0 Tryz.func104 c104 (by kernel_rfl) (rs := [.tmp 4]) (by kernel_rfl) ?_; unfold v104
 unfold flow_bad at hF
 refine wA rfl ?_; refine W_seq ?_; refine W_join (fun _ _ h => h) hF (fun v1 => [(4, cB v1)]) (fun v1 => []) ?_ ?_
 · rintro v1 hF
   cases hF
   exact W_ret wR
 intro join hF
 refine wD 3 rfl ?_; cases h2 : (decide (p0 < 0))
 · have hF := bF' h2 hF; refine QV rfl ?_; exact join (decide (p1 < p0)) _ _ hF sw
 have hF := bT' h2 hF; refine QV rfl ?_; exact join true _ _ hF sw
def flow_Check_L1 (p0 : (List api_Flow)) : Int → Option (Int ⊕ (Unit ⊕ Int)) := fun a48 =>
  (bif (decide (a48 < (List.length p0 : Int))) then ((idx p0 a48).bind fun y71 => ((flow_bad y71.fId 1000000000000000).bind fun r72 => (((bif r72 then some r72 else ((flow_bad y71.fFrom.fThread 1000000000000000).bind fun r80 => (bif r80 then some r80 else ((flow_bad y71.fFrom.fSerial 1000000000000000).bind fun r81 => (bif r81 then some r81 else ((flow_bad y71.fTo.fThread 1000000000000000).bind fun r82 => (bif r82 then some r82 else ((flow_bad y71.fTo.fSerial 1000000000000000).bind fun r83 => (bif r83 then some r83 else ((flow_bad y71.fSend 1000000000000).bind fun r84 => (bif r84 then some r84 else ((flow_bad y71.fRecv 1000000000000).bind fun r85 => some r85)))))))))))) : Option Bool).bind fun v73 => (bif v73 then some (.inr (.inr 2)) else (((bif (decide (y71.fRecv < y71.fSend)) then some (decide (y71.fRecv < y71.fSend)) else (bif (decide (0 < a48)) then ((idx p0 (w64 (a48 - 1))).bind fun y77 => some (decide (y71.fRecv < y77.fRecv))) else some false)) : Option Bool).bind fun v74 => (bif v74 then some (.inr (.inr 11)) else some (.inl (w64 (a48 + 1))))))))) else some (.inr (.inl ())))
def flow_Check (p0 : (List api_Flow)) : Option Int :=
  ((loop (flow_Check_L1 p0) 0).bind fun | .inl _ => some 0 | .inr rv => some rv)
theorem flow_Check_fun (p0 : (List api_Flow)) (r : Int) (hF : flow_Check p0 = some r) : Fun Tryz.prog 54 true [] [cL 7 t_api_Flow p0] noHeap (cI r) noHeap := by
 refine Fun.of_walk0 Tryz.func54 c54 (by kernel_rfl) (rs := [.tmp 2]) (by kernel_rfl) ?_; unfold v54
 unfold flow_Check at hF
 refine wA rfl ?_; refine W_seq ?_; refine wC 1 rfl ?_; refine rS (T_len (tc := t_api_Flow) p0 .tree ?_); refine QV rfl ?_; refine W_for (fun _ _ h => h) hF (.inl) (fun a48 => [(0, cL 7 t_api_Flow p0), (5, cL 7 t_api_Flow p0), (6, cI (List.length p0 : Int)), (7, cI a48)]) (fun a48 => []) (fun _ => []) (fun _ => []) sw ?_ ?_
 · rintro ⟨⟩ hF
   refine wA rfl ?_; cases hF
   exact W_ret wR
 rintro a48 x_0 hF cont_0 brk_0 fin_0
 unfold flow_Check_L1 at hF
 refine wA rfl ?_; refine W_seq ?_; refine wIf hF rfl (fun _ hF => ?_) fun _ hF => ?_
 · refine W_skip ?_; refine W_seq ?_; refine W_block ?_; refine wC 1 rfl ?_; obtain ⟨y71, hy71, hF⟩ := bB hF
   refine rS (T_ixT (tc := t_api_Flow) p0 rfl rfl hy71 ?_); refine QV rfl ?_; refine W_block ?_; refine W_seq ?_; refine wC 2 rfl ?_; obtain ⟨r72, hr72, hF⟩ := bB hF
   refine rS (T_call (flow_bad_fun _ _ _ hr72) ⟨rfl, rfl, trivial⟩ rfl (.inl rfl) ?_); refine QV rfl ?_; refine W_join (fun _ _ h => h) hF (fun v73 => [(0, cL 7 t_api_Flow p0), (3, cI a48), (4, cP (4,0) 0), (5, cL 7 t_api_Flow p0), (6, cI (List.length p0 : Int)), (7, cI a48), (12, cB v73)]) (fun v73 => [((4,0), .box (m_api_Flow y71))]) ?_ ?_
   · rintro v73 hF
     refine wIf hF rfl (fun _ hF => ?_) fun _ hF => ?_
     · refine wA rfl ?_; have hF := fin_0 _ (oi hF); cases hF
       exact W_ret wR
     refine W_seq ?_; refine wA rfl ?_; refine W_join (fun _ _ h => h) hF (fun v74 => [(0, cL 7 t_api_Flow p0), (5, cL 7 t_api_Flow p0), (6, cI (List.length p0 : Int)), (7, cI a48), (38, cB v74)]) (fun v74 => []) ?_ ?_
     · rintro v74 hF
       refine wIf hF rfl (fun _ hF => ?_) fun _ hF => ?_
       · refine wA rfl ?_; have hF := fin_0 _ (oi hF); cases hF
         exact W_ret wR
       refine W_skip ?_; refine wB rfl ?_; exact cont_0 _ _ _ (oi hF) sw
     intro join hF
     refine wIf' hF rfl (fun _ hF => ?_) fun _ hF => ?_
     · refine W_skip ?_; exact join (decide (y71.fRecv < y71.fSend)) _ _ hF sw
     refine W_regD (by decide) (by kernel_rfl) rfl ?_; refine Q_run SP 3 rfl ?_; cases h76 : (decide (0 < a48))
     · have hF := bF' h76 hF; refine QP rfl ?_; exact join false _ _ hF sw
     have hF := bT' h76 hF; refine Q_run SP 5 rfl ?_; obtain ⟨y77, hy77, hF⟩ := bB' hF
     refine R_step SP rfl (T_ixT (tc := t_api_Flow) p0 rfl rfl hy77 ?_); refine QP rfl ?_; exact join (decide (y71.fRecv < y77.fRecv)) _ _ hF sw
   intro join hF
   refine wIf' hF rfl (fun _ hF => ?_) fun _ hF => ?_
   · refine W_skip ?_; exact join r72 _ _ hF sw
   refine wC 3 rfl ?_; obtain ⟨r80, hr80, hF⟩ := bB' hF
   refine rS (T_call (flow_bad_fun _ _ _ hr80) ⟨rfl, rfl, trivial⟩ rfl (.inl rfl) ?_); refine QV rfl ?_; refine wIf' hF rfl (fun _ hF => ?_) fun _ hF => ?_
   · refine W_skip ?_; exact join r80 _ _ hF sw
   refine wC 3 rfl ?_; obtain ⟨r81, hr81, hF⟩ := bB' hF
   refine rS (T_call (flow_bad_fun _ _ _ hr81) ⟨rfl, rfl, trivial⟩ rfl (.inl rfl) ?_); refine QV rfl ?_; refine wIf' hF rfl (fun _ hF => ?_) fun _ hF => ?_
   · refine W_skip ?_; exact join r81 _ _ hF sw
   refine wC 3 rfl ?_; obtain ⟨r82, hr82, hF⟩ := bB' hF
   refine rS (T_call (flow_bad_fun _ _ _ hr82) ⟨rfl, rfl, trivial⟩ rfl (.inl rfl) ?_); refine QV rfl ?_; refine wIf' hF rfl (fun _ hF => ?_) fun _ hF => ?_
   · refine W_skip ?_; exact join r82 _ _ hF sw
   refine wC 3 rfl ?_; obtain ⟨r83, hr83, hF⟩ := bB' hF
   refine rS (T_call (flow_bad_fun _ _ _ hr83) ⟨rfl, rfl, trivial⟩ rfl (.inl rfl) ?_); refine QV rfl ?_; refine wIf' hF rfl (fun _ hF => ?_) fun _ hF => ?_
   · refine W_skip ?_; exact join r83 _ _ hF sw
   refine wC 2 rfl ?_; obtain ⟨r84, hr84, hF⟩ := bB' hF
   refine rS (T_call (flow_bad_fun _ _ _ hr84) ⟨rfl, rfl, trivial⟩ rfl (.inl rfl) ?_); refine QV rfl ?_; refine wIf' hF rfl (fun _ hF => ?_) fun _ hF => ?_
   · refine W_skip ?_; exact join r84 _ _ hF sw
   refine wD 2 rfl ?_; obtain ⟨r85, hr85, hF⟩ := bB' hF
   refine rS (T_call (flow_bad_fun _ _ _ hr85) ⟨rfl, rfl, trivial⟩ rfl (.inl rfl) ?_); refine QV rfl ?_; exact join r85 _ _ hF sw
 refine W_exit ?_; refine thenQ_exit ?_; refine thenQ_exit ?_; refine blockQ_hit ?_; exact brk_0 _ _ _ (oi hF) sw
def trace_tables_2 (p0 : api_Flow) : Option Int :=
  some p0.fFrom.fThread
theorem trace_tables_2_fun (p0 : api_Flow) (r : Int) (hF : trace_tables_2 p0 = some r) : Fun Tryz.prog 55 true [] [.agg (m_api_Flow p0)] noHeap (cI r) noHeap := by
 refine Fun.of_walk0 Tryz.func55 c55 (by kernel_rfl) (rs := [.tmp 2]) (by kernel_rfl) ?_; unfold v55
 unfold trace_tables_2 at hF
 refine wA rfl ?_; refine wA rfl ?_; cases hF
 exact W_ret wR
def trace_known_api_Flow_k1_L1 (p1 : (List (Int × ByteArray))) (p2 : (List api_Flow)) : Int → Option (Int ⊕ (Unit ⊕ Int)) := fun a12 =>
  (bif (decide (a12 < (List.length p2 : Int))) then ((idx p2 a12).bind fun y17 => ((trace_tables_2 y17).bind fun r18 => (bif (!(Option.isSome (mget r18 p1))) then some (.inr (.inr 5)) else some (.inl (w64 (a12 + 1)))))) else some (.inr (.inl ())))
def trace_known_api_Flow_k1 (p0 : Int) (p1 : (List (Int × ByteArray))) (p2 : (List api_Flow)) : Option Int :=
  (bif (!decide (p0 = 0)) then some p0 else ((loop (trace_known_api_Flow_k1_L1 p1 p2) 0).bind fun | .inl _ => some 0 | .inr rv => some rv))
theorem trace_known_api_Flow_k1_fun (p0 : Int) (p1 : (List (Int × ByteArray))) (p2 : (List api_Flow)) (r : Int) (hF : trace_known_api_Flow_k1 p0 p1 p2 = some r) : Fun Tryz.prog 53 false [(3120,0)] [cI p0, cM (3120,0), cL 7 t_api_Flow p2, .c (.fn 55 [])] (heapOf [((3120,0), mapOb (.int .i64) kvI vvS p1)]) (cI r) (heapOf [((3120,0), mapOb (.int .i64) kvI vvS p1)]) := by
 refine Fun.of_walkM [(3120,0)] (some [(3120,0)]) Tryz.func53 c53 (by kernel_rfl) (rs := [.tmp 8]) (by kernel_rfl) rfl rfl rfl ?_; unfold v53
 unfold trace_known_api_Flow_k1 at hF
 refine wA rfl ?_; refine W_seq ?_; refine wA rfl ?_; refine wIf hF rfl (fun _ hF => ?_) fun _ hF => ?_
 · refine wA rfl ?_; cases hF
   exact W_ret ⟨_, _, S_refl, _, rfl, rfl, ⟨rfl, fun _ => rfl⟩, (AgM.weak ⟨rfl, trivial⟩)⟩
 refine W_skip ?_; refine W_seq ?_; refine wC 1 rfl ?_; refine rS (T_len (tc := t_api_Flow) p2 .tree ?_); refine QV rfl ?_; refine W_for (fun _ _ h => h) hF (.inl) (fun a12 => [(1, cM (3120,0)), (3, .c (.fn 55 [])), (16, cL 7 t_api_Flow p2), (17, cI (List.length p2 : Int)), (18, cI a12)]) (fun a12 => [((3120,0), mapOb (.int .i64) kvI vvS p1)]) (fun _ => []) (fun _ => [((3120,0), mapOb (.int .i64) kvI vvS p1)]) sw ?_ ?_
 · rintro ⟨⟩ hF
   refine wA rfl ?_; cases hF
   exact W_ret ⟨_, _, S_refl, _, rfl, rfl, ⟨rfl, fun _ => rfl⟩, (AgM.weak ⟨rfl, trivial⟩)⟩
 rintro a12 x_0 hF cont_0 brk_0 fin_0
 unfold trace_known_api_Flow_k1_L1 at hF
 refine wA rfl ?_; refine W_seq ?_; refine wIf hF rfl (fun _ hF => ?_) fun _ hF => ?_
 · refine W_skip ?_; refine W_seq ?_; refine W_block ?_; refine wE ?_; obtain ⟨y17, hy17, hF⟩ := bB hF
   refine rS (T_ixT (tc := t_api_Flow) p2 rfl rfl hy17 ?_); refine QV rfl ?_; refine wC 3 rfl ?_; obtain ⟨r18, hr18, hF⟩ := bB hF
   refine R_stepX trivial (X_call (callW _ rfl fnOk55) (trace_tables_2_fun _ _ hr18) ⟨⟨rfl, rfl, rfl, rfl, rfl, rfl, rfl, trivial⟩, trivial⟩ rfl (.inl rfl) ?_); refine rS (T_lookOk (keyI .i64) (vv := vvS) p1 r18 ⟨#[]⟩ (.own _ rfl) rfl rfl ?_)
   refine QV rfl ?_; refine wA rfl ?_; refine wIf hF rfl (fun _ hF => ?_) fun _ hF => ?_
   · refine wA rfl ?_; have hF := fin_0 _ (oi hF); cases hF
     exact W_ret ⟨_, _, S_refl, _, rfl, rfl, ⟨rfl, fun _ => rfl⟩, (AgM.weak ⟨rfl, trivial⟩)⟩
   refine W_skip ?_; refine wB rfl ?_; exact cont_0 _ _ _ (oi hF) sw
 refine W_exit ?_; refine thenQ_exit ?_; refine thenQ_exit ?_; refine blockQ_hit ?_; exact brk_0 _ _ _ (oi hF) sw
def trace_tables_3 (p0 : api_Flow) : Option Int :=
  some p0.fTo.fThread
theorem trace_tables_3_fun (p0 : api_Flow) (r : Int) (hF : trace_tables_3 p0 = some r) : Fun Tryz.prog 56 true [] [.agg (m_api_Flow p0)] noHeap (cI r) noHeap := by
 refine Fun.of_walk0 Tryz.func56 c56 (by kernel_rfl) (rs := [.tmp 2]) (by kernel_rfl) ?_; unfold v56
 unfold trace_tables_3 at hF
 refine wA rfl ?_; refine wA rfl ?_; cases hF
 exact W_ret wR
def trace_known_api_Flow_k2_L1 (p1 : (List (Int × ByteArray))) (p2 : (List api_Flow)) : Int → Option (Int ⊕ (Unit ⊕ Int)) := fun a12 =>
  (bif (decide (a12 < (List.length p2 : Int))) then ((idx p2 a12).bind fun y17 => ((trace_tables_3 y17).bind fun r18 => (bif (!(Option.isSome (mget r18 p1))) then some (.inr (.inr 5)) else some (.inl (w64 (a12 + 1)))))) else some (.inr (.inl ())))
def trace_known_api_Flow_k2 (p0 : Int) (p1 : (List (Int × ByteArray))) (p2 : (List api_Flow)) : Option Int :=
  (bif (!decide (p0 = 0)) then some p0 else ((loop (trace_known_api_Flow_k2_L1 p1 p2) 0).bind fun | .inl _ => some 0 | .inr rv => some rv))
theorem trace_known_api_Flow_k2_fun (p0 : Int) (p1 : (List (Int × ByteArray))) (p2 : (List api_Flow)) (r : Int) (hF : trace_known_api_Flow_k2 p0 p1 p2 = some r) : Fun Tryz.prog 53 false [(3120,0)] [cI p0, cM (3120,0), cL 7 t_api_Flow p2, .c (.fn 56 [])] (heapOf [((3120,0), mapOb (.int .i64) kvI vvS p1)]) (cI r) (heapOf [((3120,0), mapOb (.int .i64) kvI vvS p1)]) := by
 refine Fun.of_walkM [(3120,0)] (some [(3120,0)]) Tryz.func53 c53 (by kernel_rfl) (rs := [.tmp 8]) (by kernel_rfl) rfl rfl rfl ?_; unfold v53
 unfold trace_known_api_Flow_k2 at hF
 refine wA rfl ?_; refine W_seq ?_; refine wA rfl ?_; refine wIf hF rfl (fun _ hF => ?_) fun _ hF => ?_
 · refine wA rfl ?_; cases hF
   exact W_ret ⟨_, _, S_refl, _, rfl, rfl, ⟨rfl, fun _ => rfl⟩, (AgM.weak ⟨rfl, trivial⟩)⟩
 refine W_skip ?_; refine W_seq ?_; refine wC 1 rfl ?_; refine rS (T_len (tc := t_api_Flow) p2 .tree ?_); refine QV rfl ?_; refine W_for (fun _ _ h => h) hF (.inl) (fun a12 => [(1, cM (3120,0)), (3, .c (.fn 56 [])), (16, cL 7 t_api_Flow p2), (17, cI (List.length p2 : Int)), (18, cI a12)]) (fun a12 => [((3120,0), mapOb (.int .i64) kvI vvS p1)]) (fun _ => []) (fun _ => [((3120,0), mapOb (.int .i64) kvI vvS p1)]) sw ?_ ?_
 · rintro ⟨⟩ hF
   refine wA rfl ?_; cases hF
   exact W_ret ⟨_, _, S_refl, _, rfl, rfl, ⟨rfl, fun _ => rfl⟩, (AgM.weak ⟨rfl, trivial⟩)⟩
 rintro a12 x_0 hF cont_0 brk_0 fin_0
 unfold trace_known_api_Flow_k2_L1 at hF
 refine wA rfl ?_; refine W_seq ?_; refine wIf hF rfl (fun _ hF => ?_) fun _ hF => ?_
 · refine W_skip ?_; refine W_seq ?_; refine W_block ?_; refine wE ?_; obtain ⟨y17, hy17, hF⟩ := bB hF
   refine rS (T_ixT (tc := t_api_Flow) p2 rfl rfl hy17 ?_); refine QV rfl ?_; refine wC 3 rfl ?_; obtain ⟨r18, hr18, hF⟩ := bB hF
   refine R_stepX trivial (X_call (callW _ rfl fnOk56) (trace_tables_3_fun _ _ hr18) ⟨⟨rfl, rfl, rfl, rfl, rfl, rfl, rfl, trivial⟩, trivial⟩ rfl (.inl rfl) ?_); refine rS (T_lookOk (keyI .i64) (vv := vvS) p1 r18 ⟨#[]⟩ (.own _ rfl) rfl rfl ?_)
   refine QV rfl ?_; refine wA rfl ?_; refine wIf hF rfl (fun _ hF => ?_) fun _ hF => ?_
   · refine wA rfl ?_; have hF := fin_0 _ (oi hF); cases hF
     exact W_ret ⟨_, _, S_refl, _, rfl, rfl, ⟨rfl, fun _ => rfl⟩, (AgM.weak ⟨rfl, trivial⟩)⟩
   refine W_skip ?_; refine wB rfl ?_; exact cont_0 _ _ _ (oi hF) sw
 refine W_exit ?_; refine thenQ_exit ?_; refine thenQ_exit ?_; refine blockQ_hit ?_; exact brk_0 _ _ _ (oi hF) sw
def sample_good (p0 : api_Sample) : Option Bool :=
  (((bif (decide (0 ≤ p0.fThread)) then (bif (decide (p0.fThread ≤ 1000000000000000)) then (bif (decide (0 ≤ p0.fAt)) then (bif (decide (p0.fAt ≤ 1000000000000)) then (bif (decide (1 ≤ p0.fWeight)) then some (decide (p0.fWeight ≤ 1000000000000)) else some false) else some false) else some false) else some false) else some false) : Option Bool).bind fun v1 => some v1)
theorem sample_good_fun (p0 : api_Sample) (r : Bool) (hF : sample_good p0 = some r) : Fun Tryz.prog 105 true [] [.agg (m_api_Sample p0)] noHeap (cB r) noHeap := by
 refine Fun.of_walk0 Tryz.func105 c105 (by kernel_rfl) (rs := [.tmp 2]) (by kernel_rfl) ?_; unfold v105
 unfold sample_good at hF
 refine wA rfl ?_; refine W_seq ?_; refine W_join (fun _ _ h => h) hF (fun v1 => [(2, cB v1)]) (fun v1 => []) ?_ ?_
 · rintro v1 hF
   cases hF
   exact W_ret wR
 intro join hF
 refine wD 4 rfl ?_; cases h2 : (decide (0 ≤ p0.fThread))
 · have hF := bF' h2 hF; refine QV rfl ?_; exact join false _ _ hF sw
 have hF := bT' h2 hF; refine Q_run SV 5 rfl ?_; cases h3 : (decide (p0.fThread ≤ 1000000000000000))
 · have hF := bF' h3 hF; refine QV rfl ?_; exact join false _ _ hF sw
 have hF := bT' h3 hF; refine Q_run SV 5 rfl ?_; cases h4 : (decide (0 ≤ p0.fAt))
 · have hF := bF' h4 hF; refine QV rfl ?_; exact join false _ _ hF sw
 have hF := bT' h4 hF; refine Q_run SV 5 rfl ?_; cases h5 : (decide (p0.fAt ≤ 1000000000000))
 · have hF := bF' h5 hF; refine QV rfl ?_; exact join false _ _ hF sw
 have hF := bT' h5 hF; refine Q_run SV 5 rfl ?_; cases h6 : (decide (1 ≤ p0.fWeight))
 · have hF := bF' h6 hF; refine QV rfl ?_; exact join false _ _ hF sw
 have hF := bT' h6 hF; refine QV rfl ?_; exact join (decide (p0.fWeight ≤ 1000000000000)) _ _ hF sw
def intern_Frames_L1 (p0 : (List ByteArray)) : Int → Option (Int ⊕ (Unit ⊕ Int)) := fun a12 =>
  (bif (decide (a12 < (List.length p0 : Int))) then ((idx p0 a12).bind fun y17 => ((intern_Name y17).bind fun r18 => (bif (!decide (r18 = 0)) then some (.inr (.inr r18)) else some (.inl (w64 (a12 + 1)))))) else some (.inr (.inl ())))
def intern_Frames (p0 : (List ByteArray)) : Option Int :=
  (bif (decide (32 < (List.length p0 : Int))) then some 7 else ((loop (intern_Frames_L1 p0) 0).bind fun | .inl _ => some 0 | .inr rv => some rv))
theorem intern_Frames_fun (p0 : (List ByteArray)) (r : Int) (hF : intern_Frames p0 = some r) : Fun Tryz.prog 106 true [] [cL 1 t_str p0] noHeap (cI r) noHeap := by
 refine Fun.of_walk0 Tryz.func106 c106 (by kernel_rfl) (rs := [.tmp 2]) (by kernel_rfl) ?_; unfold v106
 unfold intern_Frames at hF
 refine wA rfl ?_; refine W_seq ?_; refine wC 1 rfl ?_; refine rS (T_len (tc := t_str) p0 .tree ?_); refine QV rfl ?_; refine wIf hF rfl (fun _ hF => ?_) fun _ hF => ?_
 · refine wA rfl ?_; cases hF
   exact W_ret wR
 refine W_skip ?_; refine W_seq ?_; refine wC 1 rfl ?_; refine rS (T_len (tc := t_str) p0 .tree ?_); refine QV rfl ?_; refine W_for (fun _ _ h => h) hF (.inl) (fun a12 => [(9, cL 1 t_str p0), (10, cI (List.length p0 : Int)), (11, cI a12)]) (fun a12 => []) (fun _ => []) (fun _ => []) sw ?_ ?_
 · rintro ⟨⟩ hF
   refine wA rfl ?_; cases hF
   exact W_ret wR
 rintro a12 x_0 hF cont_0 brk_0 fin_0
 unfold intern_Frames_L1 at hF
 refine wA rfl ?_; refine W_seq ?_; refine wIf hF rfl (fun _ hF => ?_) fun _ hF => ?_
 · refine W_skip ?_; refine W_seq ?_; refine W_block ?_; refine wE ?_; obtain ⟨y17, hy17, hF⟩ := bB hF
   refine rS (T_ixT (tc := t_str) p0 rfl rfl hy17 ?_); refine QV rfl ?_; refine wC 1 rfl ?_; obtain ⟨r18, hr18, hF⟩ := bB hF
   refine rS (T_call (intern_Name_fun _ _ hr18) ⟨rfl, trivial⟩ rfl (.inl rfl) ?_); refine QV rfl ?_; refine wA rfl ?_; refine wIf hF rfl (fun _ hF => ?_) fun _ hF => ?_
   · refine wA rfl ?_; have hF := fin_0 _ (oi hF); cases hF
     exact W_ret wR
   refine W_skip ?_; refine wB rfl ?_; exact cont_0 _ _ _ (oi hF) sw
 refine W_exit ?_; refine thenQ_exit ?_; refine thenQ_exit ?_; refine blockQ_hit ?_; exact brk_0 _ _ _ (oi hF) sw
def sample_Check_L1 (p0 : (List api_Sample)) : Int → Option (Int ⊕ (Unit ⊕ Int)) := fun a24 =>
  (bif (decide (a24 < (List.length p0 : Int))) then ((idx p0 a24).bind fun y35 => ((sample_good y35).bind fun r36 => (bif (!r36) then some (.inr (.inr 2)) else ((intern_Frames y35.fStack).bind fun r37 => (bif (!decide (r37 = 0)) then some (.inr (.inr r37)) else (((bif (decide (0 < a24)) then ((idx p0 (w64 (a24 - 1))).bind fun y41 => some (decide (y35.fAt < y41.fAt))) else some false) : Option Bool).bind fun v38 => (bif v38 then some (.inr (.inr 11)) else some (.inl (w64 (a24 + 1)))))))))) else some (.inr (.inl ())))
def sample_Check (p0 : (List api_Sample)) : Option Int :=
  ((loop (sample_Check_L1 p0) 0).bind fun | .inl _ => some 0 | .inr rv => some rv)
theorem sample_Check_fun (p0 : (List api_Sample)) (r : Int) (hF : sample_Check p0 = some r) : Fun Tryz.prog 58 true [] [cL 4 t_api_Sample p0] noHeap (cI r) noHeap := by
 refine Fun.of_walk0 Tryz.func58 c58 (by kernel_rfl) (rs := [.tmp 2]) (by kernel_rfl) ?_; unfold v58
 unfold sample_Check at hF
 refine wA rfl ?_; refine W_seq ?_; refine wC 1 rfl ?_; refine rS (T_len (tc := t_api_Sample) p0 .tree ?_); refine QV rfl ?_; refine W_for (fun _ _ h => h) hF (.inl) (fun a24 => [(0, cL 4 t_api_Sample p0), (6, cL 4 t_api_Sample p0), (7, cI (List.length p0 : Int)), (8, cI a24)]) (fun a24 => []) (fun _ => []) (fun _ => []) sw ?_ ?_
 · rintro ⟨⟩ hF
   refine wA rfl ?_; cases hF
   exact W_ret wR
 rintro a24 x_0 hF cont_0 brk_0 fin_0
 unfold sample_Check_L1 at hF
 refine wA rfl ?_; refine W_seq ?_; refine wIf hF rfl (fun _ hF => ?_) fun _ hF => ?_
 · refine W_skip ?_; refine W_seq ?_; refine W_block ?_; refine wC 1 rfl ?_; obtain ⟨y35, hy35, hF⟩ := bB hF
   refine rS (T_ixT (tc := t_api_Sample) p0 rfl rfl hy35 ?_); refine QV rfl ?_; refine W_seq ?_; refine wC 1 rfl ?_; obtain ⟨r36, hr36, hF⟩ := bB hF
   refine rS (T_call (sample_good_fun _ _ hr36) ⟨⟨rfl, rfl, rfl, rfl, trivial⟩, trivial⟩ rfl (.inl rfl) ?_); refine QV rfl ?_; refine wIf hF rfl (fun _ hF => ?_) fun _ hF => ?_
   · refine wA rfl ?_; have hF := fin_0 _ (oi hF); cases hF
     exact W_ret wR
   refine W_skip ?_; refine W_seq ?_; refine wC 2 rfl ?_; obtain ⟨r37, hr37, hF⟩ := bB hF
   refine rS (T_call (intern_Frames_fun _ _ hr37) ⟨rfl, trivial⟩ rfl (.inl rfl) ?_); refine QV rfl ?_; refine wA rfl ?_; refine wIf hF rfl (fun _ hF => ?_) fun _ hF => ?_
   · refine wA rfl ?_; have hF := fin_0 _ (oi hF); cases hF
     exact W_ret wR
   refine W_skip ?_; refine W_seq ?_; refine W_join (fun _ _ h => h) hF (fun v38 => [(0, cL 4 t_api_Sample p0), (6, cL 4 t_api_Sample p0), (7, cI (List.length p0 : Int)), (8, cI a24), (34, cB v38)]) (fun v38 => []) ?_ ?_
   · rintro v38 hF
     refine wIf hF rfl (fun _ hF => ?_) fun _ hF => ?_
     · refine wA rfl ?_; have hF := fin_0 _ (oi hF); cases hF
       exact W_ret wR
     refine W_skip ?_; refine wB rfl ?_; exact cont_0 _ _ _ (oi hF) sw
   intro join hF
   refine W_regD (by decide) (by kernel_rfl) rfl ?_; refine Q_run SP 3 rfl ?_; cases h40 : (decide (0 < a24))
   · have hF := bF' h40 hF; refine QP rfl ?_; exact join false _ _ hF sw
   have hF := bT' h40 hF; refine Q_run SP 5 rfl ?_; obtain ⟨y41, hy41, hF⟩ := bB' hF
   refine R_step SP rfl (T_ixT (tc := t_api_Sample) p0 rfl rfl hy41 ?_); refine QP rfl ?_; exact join (decide (y35.fAt < y41.fAt)) _ _ hF sw
 refine W_exit ?_; refine thenQ_exit ?_; refine thenQ_exit ?_; refine blockQ_hit ?_; exact brk_0 _ _ _ (oi hF) sw
def trace_tables_4 (p0 : api_Sample) : Option Int :=
  some p0.fThread
theorem trace_tables_4_fun (p0 : api_Sample) (r : Int) (hF : trace_tables_4 p0 = some r) : Fun Tryz.prog 59 true [] [.agg (m_api_Sample p0)] noHeap (cI r) noHeap := by
 refine Fun.of_walk0 Tryz.func59 c59 (by kernel_rfl) (rs := [.tmp 2]) (by kernel_rfl) ?_; unfold v59
 unfold trace_tables_4 at hF
 refine wA rfl ?_; refine wA rfl ?_; cases hF
 exact W_ret wR
def trace_known_api_Sample_k1_L1 (p1 : (List (Int × ByteArray))) (p2 : (List api_Sample)) : Int → Option (Int ⊕ (Unit ⊕ Int)) := fun a12 =>
  (bif (decide (a12 < (List.length p2 : Int))) then ((idx p2 a12).bind fun y17 => ((trace_tables_4 y17).bind fun r18 => (bif (!(Option.isSome (mget r18 p1))) then some (.inr (.inr 5)) else some (.inl (w64 (a12 + 1)))))) else some (.inr (.inl ())))
def trace_known_api_Sample_k1 (p0 : Int) (p1 : (List (Int × ByteArray))) (p2 : (List api_Sample)) : Option Int :=
  (bif (!decide (p0 = 0)) then some p0 else ((loop (trace_known_api_Sample_k1_L1 p1 p2) 0).bind fun | .inl _ => some 0 | .inr rv => some rv))
theorem trace_known_api_Sample_k1_fun (p0 : Int) (p1 : (List (Int × ByteArray))) (p2 : (List api_Sample)) (r : Int) (hF : trace_known_api_Sample_k1 p0 p1 p2 = some r) : Fun Tryz.prog 57 false [(3280,0)] [cI p0, cM (3280,0), cL 4 t_api_Sample p2, .c (.fn 59 [])] (heapOf [((3280,0), mapOb (.int .i64) kvI vvS p1)]) (cI r) (heapOf [((3280,0), mapOb (.int .i64) kvI vvS p1)]) := by
 refine Fun.of_walkM [(3280,0)] (some [(3280,0)]) Tryz.func57 c57 (by kernel_rfl) (rs := [.tmp 8]) (by kernel_rfl) rfl rfl rfl ?_; unfold v57
 unfold trace_known_api_Sample_k1 at hF
 refine wA rfl ?_; refine W_seq ?_; refine wA rfl ?_; refine wIf hF rfl (fun _ hF => ?_) fun _ hF => ?_
 · refine wA rfl ?_; cases hF
   exact W_ret ⟨_, _, S_refl, _, rfl, rfl, ⟨rfl, fun _ => rfl⟩, (AgM.weak ⟨rfl, trivial⟩)⟩
 refine W_skip ?_; refine W_seq ?_; refine wC 1 rfl ?_; refine rS (T_len (tc := t_api_Sample) p2 .tree ?_); refine QV rfl ?_; refine W_for (fun _ _ h => h) hF (.inl) (fun a12 => [(1, cM (3280,0)), (3, .c (.fn 59 [])), (16, cL 4 t_api_Sample p2), (17, cI (List.length p2 : Int)), (18, cI a12)]) (fun a12 => [((3280,0), mapOb (.int .i64) kvI vvS p1)]) (fun _ => []) (fun _ => [((3280,0), mapOb (.int .i64) kvI vvS p1)]) sw ?_ ?_
 · rintro ⟨⟩ hF
   refine wA rfl ?_; cases hF
   exact W_ret ⟨_, _, S_refl, _, rfl, rfl, ⟨rfl, fun _ => rfl⟩, (AgM.weak ⟨rfl, trivial⟩)⟩
 rintro a12 x_0 hF cont_0 brk_0 fin_0
 unfold trace_known_api_Sample_k1_L1 at hF
 refine wA rfl ?_; refine W_seq ?_; refine wIf hF rfl (fun _ hF => ?_) fun _ hF => ?_
 · refine W_skip ?_; refine W_seq ?_; refine W_block ?_; refine wE ?_; obtain ⟨y17, hy17, hF⟩ := bB hF
   refine rS (T_ixT (tc := t_api_Sample) p2 rfl rfl hy17 ?_); refine QV rfl ?_; refine wC 3 rfl ?_; obtain ⟨r18, hr18, hF⟩ := bB hF
   refine R_stepX trivial (X_call (callW _ rfl fnOk59) (trace_tables_4_fun _ _ hr18) ⟨⟨rfl, rfl, rfl, rfl, trivial⟩, trivial⟩ rfl (.inl rfl) ?_); refine rS (T_lookOk (keyI .i64) (vv := vvS) p1 r18 ⟨#[]⟩ (.own _ rfl) rfl rfl ?_)
   refine QV rfl ?_; refine wA rfl ?_; refine wIf hF rfl (fun _ hF => ?_) fun _ hF => ?_
   · refine wA rfl ?_; have hF := fin_0 _ (oi hF); cases hF
     exact W_ret ⟨_, _, S_refl, _, rfl, rfl, ⟨rfl, fun _ => rfl⟩, (AgM.weak ⟨rfl, trivial⟩)⟩
   refine W_skip ?_; refine wB rfl ?_; exact cont_0 _ _ _ (oi hF) sw
 refine W_exit ?_; refine thenQ_exit ?_; refine thenQ_exit ?_; refine blockQ_hit ?_; exact brk_0 _ _ _ (oi hF) sw
def num_In (p0 : Int) : Option Bool :=
  (((bif (decide ((-1000000000000000) ≤ p0)) then some (decide (p0 ≤ 1000000000000000)) else some false) : Option Bool).bind fun v1 => some v1)
theorem num_In_fun (p0 : Int) (r : Bool) (hF : num_In p0 = some r) : Fun Tryz.prog 107 true [] [cI p0] noHeap (cB r) noHeap := by
 refine Fun.of_walk0 Tryz.func107 c107 (by kernel_rfl) (rs := [.tmp 2]) (by kernel_rfl) ?_; unfold v107
 unfold num_In at hF
 refine wA rfl ?_; refine W_seq ?_; refine W_join (fun _ _ h => h) hF (fun v1 => [(2, cB v1)]) (fun v1 => []) ?_ ?_
 · rintro v1 hF
   cases hF
   exact W_ret wR
 intro join hF
 refine wD 3 rfl ?_; cases h2 : (decide ((-1000000000000000) ≤ p0))
 · have hF := bF' h2 hF; refine QV rfl ?_; exact join false _ _ hF sw
 have hF := bT' h2 hF; refine QV rfl ?_; exact join (decide (p0 ≤ 1000000000000000)) _ _ hF sw
def cmp_isNaN_string (p0 : ByteArray) : Option Bool :=
  some (!decide (p0 = p0))
theorem cmp_isNaN_string_fun (p0 : ByteArray) (r : Bool) (hF : cmp_isNaN_string p0 = some r) : Fun Tryz.prog 151 true [] [.c (jS p0)] noHeap (cB r) noHeap := by
 refine Fun.of_walk0 Tryz.func151 c151 (by kernel_rfl) (rs := [.tmp 2]) (by kernel_rfl) ?_; unfold v151
 unfold cmp_isNaN_string at hF
 refine wA rfl ?_; refine wA rfl ?_; cases hF
 exact W_ret wR
def cmp_Compare_string (p0 : ByteArray) (p1 : ByteArray) : Option Int :=
  ((cmp_isNaN_string p0).bind fun r1 => ((cmp_isNaN_string p1).bind fun r2 => (bif r1 then (bif r2 then some 0 else some (-1)) else (bif r2 then some 1 else (bif (sLt p0 p1) then some (-1) else (bif (!(sLt p0 p1 || decide (p0 = p1))) then some 1 else some 0))))))
theorem cmp_Compare_string_fun (p0 : ByteArray) (p1 : ByteArray) (r : Int) (hF : cmp_Compare_string p0 p1 = some r) : Fun Tryz.prog 133 true [] [.c (jS p0), .c (jS p1)] noHeap (cI r) noHeap := by
 refine Fun.of_walk0 Tryz.func133 c133 (by kernel_rfl) (rs := [.tmp 4]) (by kernel_rfl) ?_; unfold v133
 unfold cmp_Compare_string at hF
 refine wA rfl ?_; refine wC 1 rfl ?_; obtain ⟨r1, hr1, hF⟩ := bB hF
 refine rS (T_call (cmp_isNaN_string_fun _ _ hr1) ⟨rfl, trivial⟩ rfl (.inl rfl) ?_); refine QV rfl ?_; refine wC 1 rfl ?_; obtain ⟨r2, hr2, hF⟩ := bB hF
 refine rS (T_call (cmp_isNaN_string_fun _ _ hr2) ⟨rfl, trivial⟩ rfl (.inl rfl) ?_); refine QV rfl ?_; refine W_seq ?_; refine wA rfl ?_; refine wIf hF rfl (fun _ hF => ?_) fun _ hF => ?_
 · refine W_seq ?_; refine wA rfl ?_; refine wIf hF rfl (fun _ hF => ?_) fun _ hF => ?_
   · refine wA rfl ?_; cases hF
     exact W_ret wR
   refine W_skip ?_; refine wA rfl ?_; cases hF
   exact W_ret wR
 refine W_skip ?_; refine W_seq ?_; refine wA rfl ?_; refine wIf hF rfl (fun _ hF => ?_) fun _ hF => ?_
 · refine wA rfl ?_; cases hF
   exact W_ret wR
 refine W_skip ?_; refine W_seq ?_; refine wA rfl ?_; refine wIf hF rfl (fun _ hF => ?_) fun _ hF => ?_
 · refine wA rfl ?_; cases hF
   exact W_ret wR
 refine W_skip ?_; refine W_seq ?_; refine wA rfl ?_; refine wIf hF rfl (fun _ hF => ?_) fun _ hF => ?_
 · refine wA rfl ?_; cases hF
   exact W_ret wR
 refine W_skip ?_; refine wA rfl ?_; cases hF
 exact W_ret wR
def counter_order (p0 : api_Step) (p1 : api_Step) : Option Int :=
  ((cmp_Compare_string p0.fName p1.fName).bind fun r1 => ((cmp_Compare_int p0.fAt p1.fAt).bind fun r2 => ((cmp_Or_int [r1, r2]).bind fun r3 => some r3)))
theorem counter_order_fun (p0 : api_Step) (p1 : api_Step) (r : Int) (hF : counter_order p0 p1 = some r) : Fun Tryz.prog 108 true [] [.agg (m_api_Step p0), .agg (m_api_Step p1)] noHeap (cI r) noHeap := by
 refine Fun.of_walk0 Tryz.func108 c108 (by kernel_rfl) (rs := [.tmp 4]) (by kernel_rfl) ?_; unfold v108
 unfold counter_order at hF
 refine wA rfl ?_; refine W_seq ?_; refine W_regD (by decide) (by kernel_rfl) rfl ?_; refine Q_run SP 4 rfl ?_; obtain ⟨r1, hr1, hF⟩ := bB hF
 refine R_step SP trivial (T_call (cmp_Compare_string_fun _ _ _ hr1) ⟨rfl, rfl, trivial⟩ rfl (.inl rfl) ?_); refine Q_run SP 4 rfl ?_; obtain ⟨r2, hr2, hF⟩ := bB hF
 refine R_step SP trivial (T_call (cmp_Compare_int_fun _ _ _ hr2) ⟨rfl, rfl, trivial⟩ rfl (.inl rfl) ?_); refine R_step SP trivial (T_bsl (tc := t_i64) [r1, r2] rfl ⟨rfl, rfl, trivial⟩ rfl (fun _ => rfl) rfl ?_)
 obtain ⟨r3, hr3, hF⟩ := bB hF
 refine R_step SP trivial (T_call (cmp_Or_int_fun _ _ hr3) ⟨⟨_, rfl⟩, trivial⟩ rfl (.inl rfl) ?_); refine QP rfl ?_; cases hF
 exact W_ret wR
def counter_Check_L1 (p0 : (List api_Step)) : Int → Option (Int ⊕ (Unit ⊕ Int)) := fun a40 =>
  (bif (decide (a40 < (List.length p0 : Int))) then ((idx p0 a40).bind fun y59 => ((intern_Name y59.fName).bind fun r60 => (bif (!decide (r60 = 0)) then some (.inr (.inr r60)) else (((bif (decide (y59.fAt < 0)) then some true else (bif (decide (1000000000000 < y59.fAt)) then some true else ((num_In y59.fValue).bind fun r74 => some (!r74)))) : Option Bool).bind fun v61 => (bif v61 then some (.inr (.inr 2)) else (((bif (decide (0 < a40)) then ((idx p0 (w64 (a40 - 1))).bind fun y65 => ((counter_order y65 y59).bind fun r66 => (bif (decide (0 ≤ r66)) then some true else ((idx p0 (w64 (a40 - 1))).bind fun y68 => (bif (decide (y68.fName = y59.fName)) then ((idx p0 (w64 (a40 - 1))).bind fun y70 => some (decide (y70.fValue = y59.fValue))) else some false))))) else some false) : Option Bool).bind fun v62 => (bif v62 then some (.inr (.inr 11)) else some (.inl (w64 (a40 + 1)))))))))) else some (.inr (.inl ())))
def counter_Check (p0 : (List api_Step)) : Option Int :=
  ((loop (counter_Check_L1 p0) 0).bind fun | .inl _ => some 0 | .inr rv => some rv)
theorem counter_Check_fun (p0 : (List api_Step)) (r : Int) (hF : counter_Check p0 = some r) : Fun Tryz.prog 60 true [] [cL 3 t_api_Step p0] noHeap (cI r) noHeap := by
 refine Fun.of_walk0 Tryz.func60 c60 (by kernel_rfl) (rs := [.tmp 2]) (by kernel_rfl) ?_; unfold v60
 unfold counter_Check at hF
 refine wA rfl ?_; refine W_seq ?_; refine wC 1 rfl ?_; refine rS (T_len (tc := t_api_Step) p0 .tree ?_); refine QV rfl ?_; refine W_for (fun _ _ h => h) hF (.inl) (fun a40 => [(0, cL 3 t_api_Step p0), (6, cL 3 t_api_Step p0), (7, cI (List.length p0 : Int)), (8, cI a40)]) (fun a40 => []) (fun _ => []) (fun _ => []) sw ?_ ?_
 · rintro ⟨⟩ hF
   refine wA rfl ?_; cases hF
   exact W_ret wR
 rintro a40 x_0 hF cont_0 brk_0 fin_0
 unfold counter_Check_L1 at hF
 refine wA rfl ?_; refine W_seq ?_; refine wIf hF rfl (fun _ hF => ?_) fun _ hF => ?_
 · refine W_skip ?_; refine W_seq ?_; refine W_block ?_; refine wC 1 rfl ?_; obtain ⟨y59, hy59, hF⟩ := bB hF
   refine rS (T_ixT (tc := t_api_Step) p0 rfl rfl hy59 ?_); refine QV rfl ?_; refine W_seq ?_; refine wC 2 rfl ?_; obtain ⟨r60, hr60, hF⟩ := bB hF
   refine rS (T_call (intern_Name_fun _ _ hr60) ⟨rfl, trivial⟩ rfl (.inl rfl) ?_); refine QV rfl ?_; refine wA rfl ?_; refine wIf hF rfl (fun _ hF => ?_) fun _ hF => ?_
   · refine wA rfl ?_; have hF := fin_0 _ (oi hF); cases hF
     exact W_ret wR
   refine W_skip ?_; refine W_seq ?_; refine W_seq ?_; refine W_join (fun _ _ h => h) hF (fun v61 => [(0, cL 3 t_api_Step p0), (3, cI a40), (4, cP (4,0) 0), (6, cL 3 t_api_Step p0), (7, cI (List.length p0 : Int)), (8, cI a40), (32, cB v61)]) (fun v61 => [((4,0), .box (m_api_Step y59))]) ?_ ?_
   · rintro v61 hF
     refine wIf hF rfl (fun _ hF => ?_) fun _ hF => ?_
     · refine wA rfl ?_; have hF := fin_0 _ (oi hF); cases hF
       exact W_ret wR
     refine W_skip ?_; refine W_seq ?_; refine W_join (fun _ _ h => h) hF (fun v62 => [(0, cL 3 t_api_Step p0), (6, cL 3 t_api_Step p0), (7, cI (List.length p0 : Int)), (8, cI a40), (66, cB v62)]) (fun v62 => []) ?_ ?_
     · rintro v62 hF
       refine wIf hF rfl (fun _ hF => ?_) fun _ hF => ?_
       · refine wA rfl ?_; have hF := fin_0 _ (oi hF); cases hF
         exact W_ret wR
       refine W_skip ?_; refine wB rfl ?_; exact cont_0 _ _ _ (oi hF) sw
     intro join hF
     refine W_regD (by decide) (by kernel_rfl) rfl ?_; refine Q_run SP 3 rfl ?_; cases h64 : (decide (0 < a40))
     · have hF := bF' h64 hF; refine QP rfl ?_; exact join false _ _ hF sw
     have hF := bT' h64 hF; refine Q_run SP 3 rfl ?_; obtain ⟨y65, hy65, hF⟩ := bB' hF
     refine R_step SP rfl (T_ixT (tc := t_api_Step) p0 rfl rfl hy65 ?_); refine Q_run SP 2 rfl ?_; obtain ⟨r66, hr66, hF⟩ := bB' hF
     refine R_step SP rfl (T_call (counter_order_fun _ _ _ hr66) ⟨⟨rfl, rfl, rfl, trivial⟩, ⟨rfl, rfl, rfl, trivial⟩, trivial⟩ rfl (.inl rfl) ?_); refine Q_run SP 2 rfl ?_; cases h67 : (decide (0 ≤ r66))
     · have hF := bF' h67 hF; refine Q_run SP 3 rfl ?_; obtain ⟨y68, hy68, hF⟩ := bB' hF
       refine R_step SP rfl (T_ixT (tc := t_api_Step) p0 rfl rfl hy68 ?_); refine Q_run SP 6 rfl ?_; cases h69 : (decide (y68.fName = y59.fName))
       · have hF := bF' h69 hF; refine QP rfl ?_; exact join false _ _ hF sw
       have hF := bT' h69 hF; refine Q_run SP 3 rfl ?_; obtain ⟨y70, hy70, hF⟩ := bB' hF
       refine R_step SP rfl (T_ixT (tc := t_api_Step) p0 rfl rfl hy70 ?_); refine QP rfl ?_; exact join (decide (y70.fValue = y59.fValue)) _ _ hF sw
     have hF := bT' h67 hF; refine QP rfl ?_; exact join true _ _ hF sw
   intro join hF
   refine wD 4 rfl ?_; cases h72 : (decide (y59.fAt < 0))
   · have hF := bF' h72 hF; refine Q_run SV 5 rfl ?_; cases h73 : (decide (1000000000000 < y59.fAt))
     · have hF := bF' h73 hF; refine Q_run SV 2 rfl ?_; obtain ⟨r74, hr74, hF⟩ := bB' hF
       refine R_step SV rfl (T_call (num_In_fun _ _ hr74) ⟨rfl, trivial⟩ rfl (.inl rfl) ?_); refine QV rfl ?_; exact join (!r74) _ _ hF sw
     have hF := bT' h73 hF; refine QV rfl ?_; exact join true _ _ hF sw
   have hF := bT' h72 hF; refine QV rfl ?_; exact join true _ _ hF sw
 refine W_exit ?_; refine thenQ_exit ?_; refine thenQ_exit ?_; refine blockQ_hit ?_; exact brk_0 _ _ _ (oi hF) sw
def memory_Check_L1 (y143 : api_Block) (y147 : (List api_Block)) : Int → Option (Int ⊕ (Unit ⊕ (Int ⊕ (Unit ⊕ Int)))) := fun a163 =>
  (bif (decide (a163 < (List.length y147 : Int))) then ((idx y147 a163).bind fun y170 => (((bif (decide (y170.fId = y143.fId)) then (bif (decide (y170.fSpan.fFrom < y143.fSpan.fTo)) then some (decide (y143.fSpan.fFrom < y170.fSpan.fTo)) else some false) else some false) : Option Bool).bind fun v171 => (bif v171 then some (.inr (.inr (.inr (.inr 4)))) else some (.inl (w64 (a163 + 1)))))) else some (.inr (.inl ())))
def memory_Check_L2 (p0 : (List api_Block)) : Int → Option (Int ⊕ (Unit ⊕ Int)) := fun a96 =>
  (bif (decide (a96 < (List.length p0 : Int))) then ((idx p0 a96).bind fun y143 => (((bif (decide (y143.fId < 0)) then some true else (bif (decide (1000000000000000 < y143.fId)) then some true else (bif (decide (y143.fThread < 0)) then some true else (bif (decide (1000000000000000 < y143.fThread)) then some true else (bif (decide (y143.fSize < 1)) then some true else (bif (decide (1000000000000 < y143.fSize)) then some true else ((spans_Valid y143.fSpan).bind fun r187 => some (!r187)))))))) : Option Bool).bind fun v144 => (bif v144 then some (.inr (.inr 2)) else ((intern_Frames y143.fStack).bind fun r145 => (bif (!decide (r145 = 0)) then some (.inr (.inr r145)) else (((bif (decide (0 < a96)) then ((idx p0 (w64 (a96 - 1))).bind fun y178 => some (decide (y143.fSpan.fFrom < y178.fSpan.fFrom))) else some false) : Option Bool).bind fun v146 => (bif v146 then some (.inr (.inr 11)) else ((slcPart p0 0 a96).bind fun y147 => ((loop (memory_Check_L1 y143 y147) 0).bind fun | .inl _ => some (.inl (w64 (a96 + 1))) | .inr rv => some rv))))))))) else some (.inr (.inl ())))
def memory_Check (p0 : (List api_Block)) : Option Int :=
  ((loop (memory_Check_L2 p0) 0).bind fun | .inl _ => some 0 | .inr rv => some rv)
theorem memory_Check_fun (p0 : (List api_Block)) (r : Int) (hF : memory_Check p0 = some r) : Fun Tryz.prog 62 true [] [cL 7 t_api_Block p0] noHeap (cI r) noHeap := by
 refine Fun.of_walk0 Tryz.func62 c62 (by kernel_rfl) (rs := [.tmp 2]) (by kernel_rfl) ?_; unfold v62
 unfold memory_Check at hF
 refine wA rfl ?_; refine W_seq ?_; refine wC 1 rfl ?_; refine rS (T_len (tc := t_api_Block) p0 .tree ?_); refine QV rfl ?_; refine W_for (fun _ _ h => h) hF (.inl) (fun a96 => [(0, cL 7 t_api_Block p0), (8, cL 7 t_api_Block p0), (9, cI (List.length p0 : Int)), (10, cI a96)]) (fun a96 => []) (fun _ => []) (fun _ => []) sw ?_ ?_
 · rintro ⟨⟩ hF
   refine wA rfl ?_; cases hF
   exact W_ret wR
 rintro a96 x_0 hF cont_0 brk_0 fin_0
 unfold memory_Check_L2 at hF
 refine wA rfl ?_; refine W_seq ?_; refine wIf hF rfl (fun _ hF => ?_) fun _ hF => ?_
 · refine W_skip ?_; refine W_seq ?_; refine W_block ?_; refine wC 1 rfl ?_; obtain ⟨y143, hy143, hF⟩ := bB hF
   refine rS (T_ixT (tc := t_api_Block) p0 rfl rfl hy143 ?_); refine QV rfl ?_; refine W_seq ?_; refine W_seq ?_; refine W_join (fun _ _ h => h) hF (fun v144 => [(0, cL 7 t_api_Block p0), (3, cI a96), (4, cP (4,0) 0), (8, cL 7 t_api_Block p0), (9, cI (List.length p0 : Int)), (10, cI a96), (48, cB v144)]) (fun v144 => [((4,0), .box (m_api_Block y143))]) ?_ ?_
   · rintro v144 hF
     refine wIf hF rfl (fun _ hF => ?_) fun _ hF => ?_
     · refine wA rfl ?_; have hF := fin_0 _ (oi hF); cases hF
       exact W_ret wR
     refine W_skip ?_; refine W_seq ?_; refine wC 2 rfl ?_; obtain ⟨r145, hr145, hF⟩ := bB hF
     refine rS (T_call (intern_Frames_fun _ _ hr145) ⟨rfl, trivial⟩ rfl (.inl rfl) ?_); refine QV rfl ?_; refine wA rfl ?_; refine wIf hF rfl (fun _ hF => ?_) fun _ hF => ?_
     · refine wA rfl ?_; have hF := fin_0 _ (oi hF); cases hF
       exact W_ret wR
     refine W_skip ?_; refine W_seq ?_; refine W_seq ?_; refine W_join (fun _ _ h => h) hF (fun v146 => [(0, cL 7 t_api_Block p0), (3, cI a96), (4, cP (4,0) 0), (8, cL 7 t_api_Block p0), (9, cI (List.length p0 : Int)), (10, cI a96), (69, cB v146)]) (fun v146 => [((4,0), .box (m_api_Block y143))]) ?_ ?_
     · rintro v146 hF
       refine wIf hF rfl (fun _ hF => ?_) fun _ hF => ?_
       · refine wA rfl ?_; have hF := fin_0 _ (oi hF); cases hF
         exact W_ret wR
       refine W_skip ?_; refine wC 2 rfl ?_; obtain ⟨y147, hy147, hF⟩ := bB hF
       refine rS (T_sub (tc := t_api_Block) p0 rfl rfl rfl hy147 ?_); refine rS (T_len (tc := t_api_Block) y147 .tree ?_); refine QV rfl ?_; refine W_for (fun _ _ h => h) hF (.inl) (fun a163 => [(0, cL 7 t_api_Block p0), (4, cP (4,0) 0), (8, cL 7 t_api_Block p0), (9, cI (List.length p0 : Int)), (10, cI a96), (72, cL 7 t_api_Block y147), (73, cI (List.length y147 : Int)), (74, cI a163)]) (fun a163 => [((4,0), .box (m_api_Block y143))]) (fun _ => [(0, cL 7 t_api_Block p0), (8, cL 7 t_api_Block p0), (9, cI (List.length p0 : Int)), (10, cI a96)]) (fun _ => []) sw ?_ ?_
       · rintro ⟨⟩ hF
         refine wB rfl ?_; exact cont_0 _ _ _ (oi hF) sw
       rintro a163 x_1 hF cont_1 brk_1 fin_1
       unfold memory_Check_L1 at hF
       refine wA rfl ?_; refine W_seq ?_; refine wIf hF rfl (fun _ hF => ?_) fun _ hF => ?_
       · refine W_skip ?_; refine W_seq ?_; refine W_block ?_; refine wE ?_; obtain ⟨y170, hy170, hF⟩ := bB hF
         refine rS (T_ixT (tc := t_api_Block) y147 rfl rfl hy170 ?_); refine QV rfl ?_; refine W_seq ?_; refine W_join (fun _ _ h => h) hF (fun v171 => [(0, cL 7 t_api_Block p0), (4, cP (4,0) 0), (8, cL 7 t_api_Block p0), (9, cI (List.length p0 : Int)), (10, cI a96), (72, cL 7 t_api_Block y147), (73, cI (List.length y147 : Int)), (74, cI a163), (100, cB v171)]) (fun v171 => [((4,0), .box (m_api_Block y143))]) ?_ ?_
         · rintro v171 hF
           refine wIf hF rfl (fun _ hF => ?_) fun _ hF => ?_
           · refine wA rfl ?_; have hF := fin_1 _ (oi hF); have hF := fin_0 _ (oi hF); cases hF
             exact W_ret wR
           refine W_skip ?_; refine wB rfl ?_; exact cont_1 _ _ _ (oi hF) sw
         intro join hF
         refine wD 6 rfl ?_; cases h173 : (decide (y170.fId = y143.fId))
         · have hF := bF' h173 hF; refine QV rfl ?_; exact join false _ _ hF sw
         have hF := bT' h173 hF; refine Q_run SV 9 rfl ?_; cases h174 : (decide (y170.fSpan.fFrom < y143.fSpan.fTo))
         · have hF := bF' h174 hF; refine QV rfl ?_; exact join false _ _ hF sw
         have hF := bT' h174 hF; refine QV rfl ?_; exact join (decide (y143.fSpan.fFrom < y170.fSpan.fTo)) _ _ hF sw
       refine W_exit ?_; refine thenQ_exit ?_; refine thenQ_exit ?_; refine blockQ_hit ?_; exact brk_1 _ _ _ (oi hF) sw
     intro join hF
     refine W_regD (by decide) (by kernel_rfl) rfl ?_; refine Q_run SP 3 rfl ?_; cases h177 : (decide (0 < a96))
     · have hF := bF' h177 hF; refine QP rfl ?_; exact join false _ _ hF sw
     have hF := bT' h177 hF; refine Q_run SP 6 rfl ?_; obtain ⟨y178, hy178, hF⟩ := bB' hF
     refine R_step SP rfl (T_ixT (tc := t_api_Block) p0 rfl rfl hy178 ?_); refine QP rfl ?_; exact join (decide (y143.fSpan.fFrom < y178.fSpan.fFrom)) _ _ hF sw
   intro join hF
   refine wD 4 rfl ?_; cases h181 : (decide (y143.fId < 0))
   · have hF := bF' h181 hF; refine Q_run SV 5 rfl ?_; cases h182 : (decide (1000000000000000 < y143.fId))
     · have hF := bF' h182 hF; refine Q_run SV 5 rfl ?_; cases h183 : (decide (y143.fThread < 0))
       · have hF := bF' h183 hF; refine Q_run SV 5 rfl ?_; cases h184 : (decide (1000000000000000 < y143.fThread))
         · have hF := bF' h184 hF; refine Q_run SV 5 rfl ?_; cases h185 : (decide (y143.fSize < 1))
           · have hF := bF' h185 hF; refine Q_run SV 5 rfl ?_; cases h186 : (decide (1000000000000 < y143.fSize))
             · have hF := bF' h186 hF; refine Q_run SV 2 rfl ?_; obtain ⟨r187, hr187, hF⟩ := bB' hF
               refine R_step SV rfl (T_call (spans_Valid_fun _ _ hr187) ⟨⟨rfl, rfl, trivial⟩, trivial⟩ rfl (.inl rfl) ?_); refine QV rfl ?_; exact join (!r187) _ _ hF sw
             have hF := bT' h186 hF; refine QV rfl ?_; exact join true _ _ hF sw
           have hF := bT' h185 hF; refine QV rfl ?_; exact join true _ _ hF sw
         have hF := bT' h184 hF; refine QV rfl ?_; exact join true _ _ hF sw
       have hF := bT' h183 hF; refine QV rfl ?_; exact join true _ _ hF sw
     have hF := bT' h182 hF; refine QV rfl ?_; exact join true _ _ hF sw
   have hF := bT' h181 hF; refine QV rfl ?_; exact join true _ _ hF sw
 refine W_exit ?_; refine thenQ_exit ?_; refine thenQ_exit ?_; refine blockQ_hit ?_; exact brk_0 _ _ _ (oi hF) sw
def trace_tables_5 (p0 : api_Block) : Option Int :=
  some p0.fThread
theorem trace_tables_5_fun (p0 : api_Block) (r : Int) (hF : trace_tables_5 p0 = some r) : Fun Tryz.prog 63 true [] [.agg (m_api_Block p0)] noHeap (cI r) noHeap := by
 refine Fun.of_walk0 Tryz.func63 c63 (by kernel_rfl) (rs := [.tmp 2]) (by kernel_rfl) ?_; unfold v63
 unfold trace_tables_5 at hF
 refine wA rfl ?_; refine wA rfl ?_; cases hF
 exact W_ret wR
def trace_known_api_Block_k1_L1 (p1 : (List (Int × ByteArray))) (p2 : (List api_Block)) : Int → Option (Int ⊕ (Unit ⊕ Int)) := fun a12 =>
  (bif (decide (a12 < (List.length p2 : Int))) then ((idx p2 a12).bind fun y17 => ((trace_tables_5 y17).bind fun r18 => (bif (!(Option.isSome (mget r18 p1))) then some (.inr (.inr 5)) else some (.inl (w64 (a12 + 1)))))) else some (.inr (.inl ())))
def trace_known_api_Block_k1 (p0 : Int) (p1 : (List (Int × ByteArray))) (p2 : (List api_Block)) : Option Int :=
  (bif (!decide (p0 = 0)) then some p0 else ((loop (trace_known_api_Block_k1_L1 p1 p2) 0).bind fun | .inl _ => some 0 | .inr rv => some rv))
theorem trace_known_api_Block_k1_fun (p0 : Int) (p1 : (List (Int × ByteArray))) (p2 : (List api_Block)) (r : Int) (hF : trace_known_api_Block_k1 p0 p1 p2 = some r) : Fun Tryz.prog 61 false [(3440,0)] [cI p0, cM (3440,0), cL 7 t_api_Block p2, .c (.fn 63 [])] (heapOf [((3440,0), mapOb (.int .i64) kvI vvS p1)]) (cI r) (heapOf [((3440,0), mapOb (.int .i64) kvI vvS p1)]) := by
 refine Fun.of_walkM [(3440,0)] (some [(3440,0)]) Tryz.func61 c61 (by kernel_rfl) (rs := [.tmp 8]) (by kernel_rfl) rfl rfl rfl ?_; unfold v61
 unfold trace_known_api_Block_k1 at hF
 refine wA rfl ?_; refine W_seq ?_; refine wA rfl ?_; refine wIf hF rfl (fun _ hF => ?_) fun _ hF => ?_
 · refine wA rfl ?_; cases hF
   exact W_ret ⟨_, _, S_refl, _, rfl, rfl, ⟨rfl, fun _ => rfl⟩, (AgM.weak ⟨rfl, trivial⟩)⟩
 refine W_skip ?_; refine W_seq ?_; refine wC 1 rfl ?_; refine rS (T_len (tc := t_api_Block) p2 .tree ?_); refine QV rfl ?_; refine W_for (fun _ _ h => h) hF (.inl) (fun a12 => [(1, cM (3440,0)), (3, .c (.fn 63 [])), (16, cL 7 t_api_Block p2), (17, cI (List.length p2 : Int)), (18, cI a12)]) (fun a12 => [((3440,0), mapOb (.int .i64) kvI vvS p1)]) (fun _ => []) (fun _ => [((3440,0), mapOb (.int .i64) kvI vvS p1)]) sw ?_ ?_
 · rintro ⟨⟩ hF
   refine wA rfl ?_; cases hF
   exact W_ret ⟨_, _, S_refl, _, rfl, rfl, ⟨rfl, fun _ => rfl⟩, (AgM.weak ⟨rfl, trivial⟩)⟩
 rintro a12 x_0 hF cont_0 brk_0 fin_0
 unfold trace_known_api_Block_k1_L1 at hF
 refine wA rfl ?_; refine W_seq ?_; refine wIf hF rfl (fun _ hF => ?_) fun _ hF => ?_
 · refine W_skip ?_; refine W_seq ?_; refine W_block ?_; refine wE ?_; obtain ⟨y17, hy17, hF⟩ := bB hF
   refine rS (T_ixT (tc := t_api_Block) p2 rfl rfl hy17 ?_); refine QV rfl ?_; refine wC 3 rfl ?_; obtain ⟨r18, hr18, hF⟩ := bB hF
   refine R_stepX trivial (X_call (callW _ rfl fnOk63) (trace_tables_5_fun _ _ hr18) ⟨⟨rfl, rfl, rfl, rfl, rfl, rfl, rfl, trivial⟩, trivial⟩ rfl (.inl rfl) ?_); refine rS (T_lookOk (keyI .i64) (vv := vvS) p1 r18 ⟨#[]⟩ (.own _ rfl) rfl rfl ?_)
   refine QV rfl ?_; refine wA rfl ?_; refine wIf hF rfl (fun _ hF => ?_) fun _ hF => ?_
   · refine wA rfl ?_; have hF := fin_0 _ (oi hF); cases hF
     exact W_ret ⟨_, _, S_refl, _, rfl, rfl, ⟨rfl, fun _ => rfl⟩, (AgM.weak ⟨rfl, trivial⟩)⟩
   refine W_skip ?_; refine wB rfl ?_; exact cont_0 _ _ _ (oi hF) sw
 refine W_exit ?_; refine thenQ_exit ?_; refine thenQ_exit ?_; refine blockQ_hit ?_; exact brk_0 _ _ _ (oi hF) sw
def trace_losses_k1_L1 (p0 : (List (Int × ByteArray))) (p1 : (List api_Loss)) : Int → Option (Int ⊕ (Unit ⊕ Int)) := fun a20 =>
  (bif (decide (a20 < (List.length p1 : Int))) then ((idx p1 a20).bind fun y29 => (bif (!(Option.isSome (mget y29.fThread p0))) then some (.inr (.inr 5)) else ((((spans_Valid y29.fSpan).bind fun r32 => (bif (!r32) then some true else (bif (decide (y29.fCount < 1)) then some true else some (decide (1000000000000000 < y29.fCount))))) : Option Bool).bind fun v30 => (bif v30 then some (.inr (.inr 2)) else some (.inl (w64 (a20 + 1))))))) else some (.inr (.inl ())))
def trace_losses_k1 (p0 : (List (Int × ByteArray))) (p1 : (List api_Loss)) : Option Int :=
  ((loop (trace_losses_k1_L1 p0 p1) 0).bind fun | .inl _ => some 0 | .inr rv => some rv)
theorem trace_losses_k1_fun (p0 : (List (Int × ByteArray))) (p1 : (List api_Loss)) (r : Int) (hF : trace_losses_k1 p0 p1 = some r) : Fun Tryz.prog 64 false [(3560,0)] [cM (3560,0), cL 4 t_api_Loss p1] (heapOf [((3560,0), mapOb (.int .i64) kvI vvS p0)]) (cI r) (heapOf [((3560,0), mapOb (.int .i64) kvI vvS p0)]) := by
 refine Fun.of_walkM [(3560,0)] (some [(3560,0)]) Tryz.func64 c64 (by kernel_rfl) (rs := [.tmp 4]) (by kernel_rfl) rfl rfl rfl ?_; unfold v64
 unfold trace_losses_k1 at hF
 refine wA rfl ?_; refine W_seq ?_; refine wC 1 rfl ?_; refine rS (T_len (tc := t_api_Loss) p1 .tree ?_); refine QV rfl ?_; refine W_for (fun _ _ h => h) hF (.inl) (fun a20 => [(0, cM (3560,0)), (9, cL 4 t_api_Loss p1), (10, cI (List.length p1 : Int)), (11, cI a20)]) (fun a20 => [((3560,0), mapOb (.int .i64) kvI vvS p0)]) (fun _ => []) (fun _ => [((3560,0), mapOb (.int .i64) kvI vvS p0)]) sw ?_ ?_
 · rintro ⟨⟩ hF
   refine wA rfl ?_; cases hF
   exact W_ret ⟨_, _, S_refl, _, rfl, rfl, ⟨rfl, fun _ => rfl⟩, (AgM.weak ⟨rfl, trivial⟩)⟩
 rintro a20 x_0 hF cont_0 brk_0 fin_0
 unfold trace_losses_k1_L1 at hF
 refine wA rfl ?_; refine W_seq ?_; refine wIf hF rfl (fun _ hF => ?_) fun _ hF => ?_
 · refine W_skip ?_; refine W_seq ?_; refine W_block ?_; refine wE ?_; obtain ⟨y29, hy29, hF⟩ := bB hF
   refine rS (T_ixT (tc := t_api_Loss) p1 rfl rfl hy29 ?_); refine QV rfl ?_; refine W_seq ?_; refine wC 3 rfl ?_; refine rS (T_lookOk (keyI .i64) (vv := vvS) p0 y29.fThread ⟨#[]⟩ (.own _ rfl) rfl rfl ?_)
   refine QV rfl ?_; refine wA rfl ?_; refine wIf hF rfl (fun _ hF => ?_) fun _ hF => ?_
   · refine wA rfl ?_; have hF := fin_0 _ (oi hF); cases hF
     exact W_ret ⟨_, _, S_refl, _, rfl, rfl, ⟨rfl, fun _ => rfl⟩, (AgM.weak ⟨rfl, trivial⟩)⟩
   refine W_skip ?_; refine W_seq ?_; refine W_join (fun _ _ h => h) hF (fun v30 => [(0, cM (3560,0)), (9, cL 4 t_api_Loss p1), (10, cI (List.length p1 : Int)), (11, cI a20), (37, cB v30)]) (fun v30 => [((3560,0), mapOb (.int .i64) kvI vvS p0)]) ?_ ?_
   · rintro v30 hF
     refine wIf hF rfl (fun _ hF => ?_) fun _ hF => ?_
     · refine wA rfl ?_; have hF := fin_0 _ (oi hF); cases hF
       exact W_ret ⟨_, _, S_refl, _, rfl, rfl, ⟨rfl, fun _ => rfl⟩, (AgM.weak ⟨rfl, trivial⟩)⟩
     refine W_skip ?_; refine wB rfl ?_; exact cont_0 _ _ _ (oi hF) sw
   intro join hF
   refine wD 2 rfl ?_; obtain ⟨r32, hr32, hF⟩ := bB' hF
   refine rS (T_call (spans_Valid_fun _ _ hr32) ⟨⟨rfl, rfl, trivial⟩, trivial⟩ rfl (.inl rfl) ?_); refine Q_run SV 2 rfl ?_; cases h33 : (!r32)
   · have hF := bF' h33 hF; refine Q_run SV 5 rfl ?_; cases h34 : (decide (y29.fCount < 1))
     · have hF := bF' h34 hF; refine QV rfl ?_; exact join (decide (1000000000000000 < y29.fCount)) _ _ hF sw
     have hF := bT' h34 hF; refine QV rfl ?_; exact join true _ _ hF sw
   have hF := bT' h33 hF; refine QV rfl ?_; exact join true _ _ hF sw
 refine W_exit ?_; refine thenQ_exit ?_; refine thenQ_exit ?_; refine blockQ_hit ?_; exact brk_0 _ _ _ (oi hF) sw
def trace_tables (p0 : api_Trace) : Option Int :=
  ((trace_threads p0).bind fun | .inl r1_0 => (bif (!decide (r1_0.2 = 0)) then some r1_0.2 else ((slice_Check p0.fSlices).bind fun r2 => none)) | .inr r1_1 => (bif (!decide (r1_1.2 = 0)) then some r1_1.2 else ((slice_Check p0.fSlices).bind fun r4 => ((trace_known_api_Slice_k1 r4 r1_1.1 p0.fSlices).bind fun r5 => (bif (!decide (r5 = 0)) then some r5 else ((state_Check p0.fThreads p0.fStates).bind fun r6 => (bif (!decide (r6 = 0)) then some r6 else ((flow_Check p0.fFlows).bind fun r7 => ((trace_known_api_Flow_k1 r7 r1_1.1 p0.fFlows).bind fun r8 => ((trace_known_api_Flow_k2 r8 r1_1.1 p0.fFlows).bind fun r9 => (bif (!decide (r9 = 0)) then some r9 else ((sample_Check p0.fSamples).bind fun r10 => ((trace_known_api_Sample_k1 r10 r1_1.1 p0.fSamples).bind fun r11 => (bif (!decide (r11 = 0)) then some r11 else ((counter_Check p0.fSteps).bind fun r12 => (bif (!decide (r12 = 0)) then some r12 else ((memory_Check p0.fBlocks).bind fun r13 => ((trace_known_api_Block_k1 r13 r1_1.1 p0.fBlocks).bind fun r14 => (bif (!decide (r14 = 0)) then some r14 else ((trace_losses_k1 r1_1.1 p0.fLost).bind fun r15 => some r15))))))))))))))))))))
theorem trace_tables_fun (p0 : api_Trace) (r : Int) (hF : trace_tables p0 = some r) : Fun Tryz.prog 32 true [] [.agg (m_api_Trace p0)] noHeap (cI r) noHeap := by
 refine Fun.of_walk0 Tryz.func32 c32 (by kernel_rfl) (rs := [.tmp 2]) (by kernel_rfl) ?_; unfold v32
 unfold trace_tables at hF
 refine wA rfl ?_; refine wC 1 rfl ?_; obtain ⟨r1, hr1, hF⟩ := bB hF
 rcases r1 with r1_0 | r1_1
 · refine R_stepX trivial (X_callG [] rfl (callN _) (trace_threads_fun _ _ hr1) trivial ⟨.inr ⟨rfl, rfl, rfl, rfl, rfl, rfl, rfl, rfl, rfl, rfl, trivial⟩, trivial⟩ rfl rfl rfl ?_); refine QV rfl ?_; refine W_seq ?_
   refine wA rfl ?_; refine wIf hF rfl (fun _ hF => ?_) fun _ hF => ?_
   · refine wA rfl ?_; cases hF
     exact W_ret wR
   refine W_skip ?_; refine W_seq ?_; refine W_seq ?_; refine W_regD (by decide) (by kernel_rfl) rfl ?_; refine Q_run SP 2 rfl ?_; obtain ⟨r2, hr2, hF⟩ := bB hF
   refine R_step SP trivial (T_call (slice_Check_fun _ _ hr2) ⟨rfl, trivial⟩ rfl (.inl rfl) ?_); refine Q_run SP 3 rfl ?_; simp at hF
 refine R_stepX trivial (X_callG [((902,1920),(13,1))] rfl (callN _) (trace_threads_fun _ _ hr1) trivial ⟨.inr ⟨rfl, rfl, rfl, rfl, rfl, rfl, rfl, rfl, rfl, rfl, trivial⟩, trivial⟩ rfl rfl rfl ?_); refine QV rfl ?_
 refine W_seq ?_; refine wA rfl ?_; refine wIf hF rfl (fun _ hF => ?_) fun _ hF => ?_
 · refine wA rfl ?_; cases hF
   exact W_ret wR
 refine W_skip ?_; refine W_seq ?_; refine W_seq ?_; refine W_regD (by decide) (by kernel_rfl) rfl ?_; refine Q_run SP 2 rfl ?_; obtain ⟨r4, hr4, hF⟩ := bB hF
 refine R_step SP trivial (T_call (slice_Check_fun _ _ hr4) ⟨rfl, trivial⟩ rfl (.inl rfl) ?_); refine Q_run SP 3 rfl ?_; obtain ⟨r5, hr5, hF⟩ := bB hF
 refine R_step SP trivial (T_callO [((2960,0),(13,1))] rfl (trace_known_api_Slice_k1_fun _ _ _ _ hr5) ⟨rfl, trivial⟩ rfl rfl (.inr ⟨.inl rfl, .inl rfl, .inl rfl, .inl rfl, trivial⟩) ?_); refine QP rfl ?_
 refine wA rfl ?_; refine wIf hF rfl (fun _ hF => ?_) fun _ hF => ?_
 · refine wA rfl ?_; cases hF
   exact W_ret wR
 refine W_skip ?_; refine W_seq ?_; refine wC 4 rfl ?_; obtain ⟨r6, hr6, hF⟩ := bB hF
 refine rS (T_call (state_Check_fun _ _ _ hr6) ⟨rfl, rfl, trivial⟩ rfl (.inl rfl) ?_); refine QV rfl ?_; refine wA rfl ?_; refine wIf hF rfl (fun _ hF => ?_) fun _ hF => ?_
 · refine wA rfl ?_; cases hF
   exact W_ret wR
 refine W_skip ?_; refine W_seq ?_; refine W_regD (by decide) (by kernel_rfl) rfl ?_; refine Q_run SP 2 rfl ?_; obtain ⟨r7, hr7, hF⟩ := bB hF
 refine R_step SP trivial (T_call (flow_Check_fun _ _ hr7) ⟨rfl, trivial⟩ rfl (.inl rfl) ?_); refine Q_run SP 3 rfl ?_; obtain ⟨r8, hr8, hF⟩ := bB hF
 refine R_step SP trivial (T_callO [((3120,0),(13,1))] rfl (trace_known_api_Flow_k1_fun _ _ _ _ hr8) ⟨rfl, trivial⟩ rfl rfl (.inr ⟨.inl rfl, .inl rfl, .inl rfl, .inl rfl, trivial⟩) ?_); refine QP rfl ?_
 refine W_seq ?_; refine wC 4 rfl ?_; obtain ⟨r9, hr9, hF⟩ := bB hF
 refine rS (T_callO [((3120,0),(13,1))] rfl (trace_known_api_Flow_k2_fun _ _ _ _ hr9) ⟨rfl, trivial⟩ rfl rfl (.inr ⟨.inl rfl, .inl rfl, .inl rfl, .inl rfl, trivial⟩) ?_); refine QV rfl ?_; refine wA rfl ?_
 refine wIf hF rfl (fun _ hF => ?_) fun _ hF => ?_
 · refine wA rfl ?_; cases hF
   exact W_ret wR
 refine W_skip ?_; refine W_seq ?_; refine W_seq ?_; refine W_regD (by decide) (by kernel_rfl) rfl ?_; refine Q_run SP 2 rfl ?_; obtain ⟨r10, hr10, hF⟩ := bB hF
 refine R_step SP trivial (T_call (sample_Check_fun _ _ hr10) ⟨rfl, trivial⟩ rfl (.inl rfl) ?_); refine Q_run SP 3 rfl ?_; obtain ⟨r11, hr11, hF⟩ := bB hF
 refine R_step SP trivial (T_callO [((3280,0),(13,1))] rfl (trace_known_api_Sample_k1_fun _ _ _ _ hr11) ⟨rfl, trivial⟩ rfl rfl (.inr ⟨.inl rfl, .inl rfl, .inl rfl, .inl rfl, trivial⟩) ?_); refine QP rfl ?_
 refine wA rfl ?_; refine wIf hF rfl (fun _ hF => ?_) fun _ hF => ?_
 · refine wA rfl ?_; cases hF
   exact W_ret wR
 refine W_skip ?_; refine W_seq ?_; refine wC 2 rfl ?_; obtain ⟨r12, hr12, hF⟩ := bB hF
 refine rS (T_call (counter_Check_fun _ _ hr12) ⟨rfl, trivial⟩ rfl (.inl rfl) ?_); refine QV rfl ?_; refine wA rfl ?_; refine wIf hF rfl (fun _ hF => ?_) fun _ hF => ?_
 · refine wA rfl ?_; cases hF
   exact W_ret wR
 refine W_skip ?_; refine W_seq ?_; refine W_seq ?_; refine W_regD (by decide) (by kernel_rfl) rfl ?_; refine Q_run SP 2 rfl ?_; obtain ⟨r13, hr13, hF⟩ := bB hF
 refine R_step SP trivial (T_call (memory_Check_fun _ _ hr13) ⟨rfl, trivial⟩ rfl (.inl rfl) ?_); refine Q_run SP 3 rfl ?_; obtain ⟨r14, hr14, hF⟩ := bB hF
 refine R_step SP trivial (T_callO [((3440,0),(13,1))] rfl (trace_known_api_Block_k1_fun _ _ _ _ hr14) ⟨rfl, trivial⟩ rfl rfl (.inr ⟨.inl rfl, .inl rfl, .inl rfl, .inl rfl, trivial⟩) ?_); refine QP rfl ?_
 refine wA rfl ?_; refine wIf hF rfl (fun _ hF => ?_) fun _ hF => ?_
 · refine wA rfl ?_; cases hF
   exact W_ret wR
 refine W_skip ?_; refine wC 3 rfl ?_; obtain ⟨r15, hr15, hF⟩ := bB hF
 refine rS (T_callO [((3560,0),(13,1))] rfl (trace_losses_k1_fun _ _ _ hr15) ⟨rfl, trivial⟩ rfl rfl (.inr ⟨.inl rfl, .inl rfl, trivial⟩) ?_); refine QV rfl ?_; cases hF
 exact W_ret wR
def trace_within (p0 : api_Span) (p1 : api_Span) : Option Bool :=
  (((bif (decide (p1.fFrom ≤ p0.fFrom)) then some (decide (p0.fTo ≤ p1.fTo)) else some false) : Option Bool).bind fun v1 => some v1)
theorem trace_within_fun (p0 : api_Span) (p1 : api_Span) (r : Bool) (hF : trace_within p0 p1 = some r) : Fun Tryz.prog 67 true [] [.agg [jI p0.fFrom, jI p0.fTo], .agg [jI p1.fFrom, jI p1.fTo]] noHeap (cB r) noHeap := by
 refine Fun.of_walk0 Tryz.func67 c67 (by kernel_rfl) (rs := [.tmp 4]) (by kernel_rfl) ?_; unfold v67
 unfold trace_within at hF
 refine wA rfl ?_; refine W_seq ?_; refine W_join (fun _ _ h => h) hF (fun v1 => [(4, cB v1)]) (fun v1 => []) ?_ ?_
 · rintro v1 hF
   cases hF
   exact W_ret wR
 intro join hF
 refine wD 6 rfl ?_; cases h2 : (decide (p1.fFrom ≤ p0.fFrom))
 · have hF := bF' h2 hF; refine QV rfl ?_; exact join false _ _ hF sw
 have hF := bT' h2 hF; refine QV rfl ?_; exact join (decide (p0.fTo ≤ p1.fTo)) _ _ hF sw
def trace_outside_1_k1 (p0 : api_Slice) (p1 : api_Span) : Option Bool :=
  ((trace_within p0.fSpan p1).bind fun r1 => some (!r1))
theorem trace_outside_1_k1_fun (p0 : api_Slice) (p1 : api_Span) (r : Bool) (hF : trace_outside_1_k1 p0 p1 = some r) : Fun Tryz.prog 66 true [] [.agg (m_api_Slice p0), .c (.ptrI [tI p1.fFrom, tI p1.fTo])] noHeap (cB r) noHeap := by
 refine Fun.of_walk0 Tryz.func66 c66 (by kernel_rfl) (rs := [.tmp 3]) (by kernel_rfl) ?_; unfold v66
 unfold trace_outside_1_k1 at hF
 refine wA rfl ?_; refine wC 3 rfl ?_; obtain ⟨r1, hr1, hF⟩ := bB hF
 refine rS (T_call (trace_within_fun _ _ _ hr1) ⟨⟨rfl, rfl, trivial⟩, ⟨rfl, rfl, trivial⟩, trivial⟩ rfl (.inl rfl) ?_); refine QV rfl ?_; cases hF
 exact W_ret wR
def slices_IndexFunc_api_Slice_api_Slice_k1_L1 (p0 : (List api_Slice)) (p1_0 : api_Span) : Int → Option (Int ⊕ (Unit ⊕ Int)) := fun a12 =>
  (bif (decide (a12 < (List.length p0 : Int))) then ((idx p0 a12).bind fun y17 => ((trace_outside_1_k1 y17 p1_0).bind fun r18 => (bif r18 then some (.inr (.inr a12)) else some (.inl (w64 (a12 + 1)))))) else some (.inr (.inl ())))
def slices_IndexFunc_api_Slice_api_Slice_k1 (p0 : (List api_Slice)) (p1_0 : api_Span) : Option Int :=
  ((loop (slices_IndexFunc_api_Slice_api_Slice_k1_L1 p0 p1_0) 0).bind fun | .inl _ => some (-1) | .inr rv => some rv)
theorem slices_IndexFunc_api_Slice_api_Slice_k1_fun (p0 : (List api_Slice)) (p1_0 : api_Span) (r : Int) (hF : slices_IndexFunc_api_Slice_api_Slice_k1 p0 p1_0 = some r) : Fun Tryz.prog 109 false [(5360,0)] [cL 8 t_api_Slice p0, .c (.fn 66 [.ptr (5360,0)])] (heapOf [((5360,0), .box [jI p1_0.fFrom, jI p1_0.fTo])]) (cI r) (heapOf [((5360,0), .box [jI p1_0.fFrom, jI p1_0.fTo])]) := by
 refine Fun.of_walkM [(5360,0)] (some [(5360,0)]) Tryz.func109 c109 (by kernel_rfl) (rs := [.tmp 4]) (by kernel_rfl) rfl rfl rfl ?_; unfold v109
 unfold slices_IndexFunc_api_Slice_api_Slice_k1 at hF
 refine wA rfl ?_; refine W_seq ?_; refine wC 1 rfl ?_; refine rS (T_len (tc := t_api_Slice) p0 .tree ?_); refine QV rfl ?_; refine W_for (fun _ _ h => h) hF (.inl) (fun a12 => [(0, cL 8 t_api_Slice p0), (1, .c (.fn 66 [.ptr (5360,0)])), (7, cI (List.length p0 : Int)), (8, cI a12)]) (fun a12 => [((5360,0), .box [jI p1_0.fFrom, jI p1_0.fTo])]) (fun _ => []) (fun _ => [((5360,0), .box [jI p1_0.fFrom, jI p1_0.fTo])]) sw ?_ ?_
 · rintro ⟨⟩ hF
   refine wA rfl ?_; cases hF
   exact W_ret ⟨_, _, S_refl, _, rfl, rfl, ⟨rfl, fun _ => rfl⟩, (AgM.weak ⟨rfl, trivial⟩)⟩
 rintro a12 x_0 hF cont_0 brk_0 fin_0
 unfold slices_IndexFunc_api_Slice_api_Slice_k1_L1 at hF
 refine wA rfl ?_; refine W_seq ?_; refine wIf hF rfl (fun _ hF => ?_) fun _ hF => ?_
 · refine W_skip ?_; refine W_seq ?_; refine W_block ?_; refine wA rfl ?_; refine wC 3 rfl ?_; obtain ⟨y17, hy17, hF⟩ := bB hF
   refine rS (T_ixT (tc := t_api_Slice) p0 rfl rfl hy17 ?_); refine Q_run SV 1 rfl ?_; obtain ⟨r18, hr18, hF⟩ := bB hF
   refine R_stepX trivial (X_call (callW _ rfl fnOk66) (trace_outside_1_k1_fun _ _ _ hr18) ⟨⟨rfl, rfl, rfl, rfl, rfl, rfl, rfl, rfl, trivial⟩, ⟨_, rfl, ⟨rfl, rfl, trivial⟩⟩, trivial⟩ rfl (.inl rfl) ?_); refine QV rfl ?_
   refine wIf hF rfl (fun _ hF => ?_) fun _ hF => ?_
   · refine wA rfl ?_; have hF := fin_0 _ (oi hF); cases hF
     exact W_ret ⟨_, _, S_refl, _, rfl, rfl, ⟨rfl, fun _ => rfl⟩, (AgM.weak ⟨rfl, trivial⟩)⟩
   refine W_skip ?_; refine wB rfl ?_; exact cont_0 _ _ _ (oi hF) sw
 refine W_exit ?_; refine thenQ_exit ?_; refine thenQ_exit ?_; refine blockQ_hit ?_; exact brk_0 _ _ _ (oi hF) sw
def slices_ContainsFunc_api_Slice_api_Slice_k1 (p0 : (List api_Slice)) (p1_0 : api_Span) : Option Bool :=
  ((slices_IndexFunc_api_Slice_api_Slice_k1 p0 p1_0).bind fun r1 => some (decide (0 ≤ r1)))
theorem slices_ContainsFunc_api_Slice_api_Slice_k1_fun (p0 : (List api_Slice)) (p1_0 : api_Span) (r : Bool) (hF : slices_ContainsFunc_api_Slice_api_Slice_k1 p0 p1_0 = some r) : Fun Tryz.prog 65 false [(3600,0)] [cL 8 t_api_Slice p0, .c (.fn 66 [.ptr (3600,0)])] (heapOf [((3600,0), .box [jI p1_0.fFrom, jI p1_0.fTo])]) (cB r) (heapOf [((3600,0), .box [jI p1_0.fFrom, jI p1_0.fTo])]) := by
 refine Fun.of_walkM [(3600,0)] (some [(3600,0)]) Tryz.func65 c65 (by kernel_rfl) (rs := [.tmp 4]) (by kernel_rfl) rfl rfl rfl ?_; unfold v65
 unfold slices_ContainsFunc_api_Slice_api_Slice_k1 at hF
 refine wA rfl ?_; refine wC 2 rfl ?_; obtain ⟨r1, hr1, hF⟩ := bB hF
 refine rS (T_callO [((5360,0),(3600,0))] rfl (slices_IndexFunc_api_Slice_api_Slice_k1_fun _ _ _ hr1) ⟨rfl, trivial⟩ rfl rfl (.inr ⟨.inl rfl, .inl rfl, trivial⟩) ?_); refine QV rfl ?_; cases hF
 exact W_ret ⟨_, _, S_refl, _, rfl, rfl, ⟨rfl, fun _ => rfl⟩, (AgM.weak ⟨rfl, trivial⟩)⟩
def trace_outside_2_k1 (p0 : api_State) (p1 : api_Span) : Option Bool :=
  ((trace_within p0.fSpan p1).bind fun r1 => some (!r1))
theorem trace_outside_2_k1_fun (p0 : api_State) (p1 : api_Span) (r : Bool) (hF : trace_outside_2_k1 p0 p1 = some r) : Fun Tryz.prog 69 true [] [.agg (m_api_State p0), .c (.ptrI [tI p1.fFrom, tI p1.fTo])] noHeap (cB r) noHeap := by
 refine Fun.of_walk0 Tryz.func69 c69 (by kernel_rfl) (rs := [.tmp 3]) (by kernel_rfl) ?_; unfold v69
 unfold trace_outside_2_k1 at hF
 refine wA rfl ?_; refine wC 3 rfl ?_; obtain ⟨r1, hr1, hF⟩ := bB hF
 refine rS (T_call (trace_within_fun _ _ _ hr1) ⟨⟨rfl, rfl, trivial⟩, ⟨rfl, rfl, trivial⟩, trivial⟩ rfl (.inl rfl) ?_); refine QV rfl ?_; cases hF
 exact W_ret wR
def slices_IndexFunc_api_State_api_State_k1_L1 (p0 : (List api_State)) (p1_0 : api_Span) : Int → Option (Int ⊕ (Unit ⊕ Int)) := fun a12 =>
  (bif (decide (a12 < (List.length p0 : Int))) then ((idx p0 a12).bind fun y17 => ((trace_outside_2_k1 y17 p1_0).bind fun r18 => (bif r18 then some (.inr (.inr a12)) else some (.inl (w64 (a12 + 1)))))) else some (.inr (.inl ())))
def slices_IndexFunc_api_State_api_State_k1 (p0 : (List api_State)) (p1_0 : api_Span) : Option Int :=
  ((loop (slices_IndexFunc_api_State_api_State_k1_L1 p0 p1_0) 0).bind fun | .inl _ => some (-1) | .inr rv => some rv)
theorem slices_IndexFunc_api_State_api_State_k1_fun (p0 : (List api_State)) (p1_0 : api_Span) (r : Int) (hF : slices_IndexFunc_api_State_api_State_k1 p0 p1_0 = some r) : Fun Tryz.prog 110 false [(5400,0)] [cL 7 t_api_State p0, .c (.fn 69 [.ptr (5400,0)])] (heapOf [((5400,0), .box [jI p1_0.fFrom, jI p1_0.fTo])]) (cI r) (heapOf [((5400,0), .box [jI p1_0.fFrom, jI p1_0.fTo])]) := by
 refine Fun.of_walkM [(5400,0)] (some [(5400,0)]) Tryz.func110 c110 (by kernel_rfl) (rs := [.tmp 4]) (by kernel_rfl) rfl rfl rfl ?_; unfold v110
 unfold slices_IndexFunc_api_State_api_State_k1 at hF
 refine wA rfl ?_; refine W_seq ?_; refine wC 1 rfl ?_; refine rS (T_len (tc := t_api_State) p0 .tree ?_); refine QV rfl ?_; refine W_for (fun _ _ h => h) hF (.inl) (fun a12 => [(0, cL 7 t_api_State p0), (1, .c (.fn 69 [.ptr (5400,0)])), (7, cI (List.length p0 : Int)), (8, cI a12)]) (fun a12 => [((5400,0), .box [jI p1_0.fFrom, jI p1_0.fTo])]) (fun _ => []) (fun _ => [((5400,0), .box [jI p1_0.fFrom, jI p1_0.fTo])]) sw ?_ ?_
 · rintro ⟨⟩ hF
   refine wA rfl ?_; cases hF
   exact W_ret ⟨_, _, S_refl, _, rfl, rfl, ⟨rfl, fun _ => rfl⟩, (AgM.weak ⟨rfl, trivial⟩)⟩
 rintro a12 x_0 hF cont_0 brk_0 fin_0
 unfold slices_IndexFunc_api_State_api_State_k1_L1 at hF
 refine wA rfl ?_; refine W_seq ?_; refine wIf hF rfl (fun _ hF => ?_) fun _ hF => ?_
 · refine W_skip ?_; refine W_seq ?_; refine W_block ?_; refine wA rfl ?_; refine wC 3 rfl ?_; obtain ⟨y17, hy17, hF⟩ := bB hF
   refine rS (T_ixT (tc := t_api_State) p0 rfl rfl hy17 ?_); refine Q_run SV 1 rfl ?_; obtain ⟨r18, hr18, hF⟩ := bB hF
   refine R_stepX trivial (X_call (callW _ rfl fnOk69) (trace_outside_2_k1_fun _ _ _ hr18) ⟨⟨rfl, rfl, rfl, rfl, rfl, rfl, rfl, trivial⟩, ⟨_, rfl, ⟨rfl, rfl, trivial⟩⟩, trivial⟩ rfl (.inl rfl) ?_); refine QV rfl ?_
   refine wIf hF rfl (fun _ hF => ?_) fun _ hF => ?_
   · refine wA rfl ?_; have hF := fin_0 _ (oi hF); cases hF
     exact W_ret ⟨_, _, S_refl, _, rfl, rfl, ⟨rfl, fun _ => rfl⟩, (AgM.weak ⟨rfl, trivial⟩)⟩
   refine W_skip ?_; refine wB rfl ?_; exact cont_0 _ _ _ (oi hF) sw
 refine W_exit ?_; refine thenQ_exit ?_; refine thenQ_exit ?_; refine blockQ_hit ?_; exact brk_0 _ _ _ (oi hF) sw
def slices_ContainsFunc_api_State_api_State_k1 (p0 : (List api_State)) (p1_0 : api_Span) : Option Bool :=
  ((slices_IndexFunc_api_State_api_State_k1 p0 p1_0).bind fun r1 => some (decide (0 ≤ r1)))
theorem slices_ContainsFunc_api_State_api_State_k1_fun (p0 : (List api_State)) (p1_0 : api_Span) (r : Bool) (hF : slices_ContainsFunc_api_State_api_State_k1 p0 p1_0 = some r) : Fun Tryz.prog 68 false [(3720,0)] [cL 7 t_api_State p0, .c (.fn 69 [.ptr (3720,0)])] (heapOf [((3720,0), .box [jI p1_0.fFrom, jI p1_0.fTo])]) (cB r) (heapOf [((3720,0), .box [jI p1_0.fFrom, jI p1_0.fTo])]) := by
 refine Fun.of_walkM [(3720,0)] (some [(3720,0)]) Tryz.func68 c68 (by kernel_rfl) (rs := [.tmp 4]) (by kernel_rfl) rfl rfl rfl ?_; unfold v68
 unfold slices_ContainsFunc_api_State_api_State_k1 at hF
 refine wA rfl ?_; refine wC 2 rfl ?_; obtain ⟨r1, hr1, hF⟩ := bB hF
 refine rS (T_callO [((5400,0),(3720,0))] rfl (slices_IndexFunc_api_State_api_State_k1_fun _ _ _ hr1) ⟨rfl, trivial⟩ rfl rfl (.inr ⟨.inl rfl, .inl rfl, trivial⟩) ?_); refine QV rfl ?_; cases hF
 exact W_ret ⟨_, _, S_refl, _, rfl, rfl, ⟨rfl, fun _ => rfl⟩, (AgM.weak ⟨rfl, trivial⟩)⟩
def trace_outside_3_k1 (p0 : api_Block) (p1 : api_Span) : Option Bool :=
  ((trace_within p0.fSpan p1).bind fun r1 => some (!r1))
theorem trace_outside_3_k1_fun (p0 : api_Block) (p1 : api_Span) (r : Bool) (hF : trace_outside_3_k1 p0 p1 = some r) : Fun Tryz.prog 71 true [] [.agg (m_api_Block p0), .c (.ptrI [tI p1.fFrom, tI p1.fTo])] noHeap (cB r) noHeap := by
 refine Fun.of_walk0 Tryz.func71 c71 (by kernel_rfl) (rs := [.tmp 3]) (by kernel_rfl) ?_; unfold v71
 unfold trace_outside_3_k1 at hF
 refine wA rfl ?_; refine wC 3 rfl ?_; obtain ⟨r1, hr1, hF⟩ := bB hF
 refine rS (T_call (trace_within_fun _ _ _ hr1) ⟨⟨rfl, rfl, trivial⟩, ⟨rfl, rfl, trivial⟩, trivial⟩ rfl (.inl rfl) ?_); refine QV rfl ?_; cases hF
 exact W_ret wR
def slices_IndexFunc_api_Block_api_Block_k1_L1 (p0 : (List api_Block)) (p1_0 : api_Span) : Int → Option (Int ⊕ (Unit ⊕ Int)) := fun a12 =>
  (bif (decide (a12 < (List.length p0 : Int))) then ((idx p0 a12).bind fun y17 => ((trace_outside_3_k1 y17 p1_0).bind fun r18 => (bif r18 then some (.inr (.inr a12)) else some (.inl (w64 (a12 + 1)))))) else some (.inr (.inl ())))
def slices_IndexFunc_api_Block_api_Block_k1 (p0 : (List api_Block)) (p1_0 : api_Span) : Option Int :=
  ((loop (slices_IndexFunc_api_Block_api_Block_k1_L1 p0 p1_0) 0).bind fun | .inl _ => some (-1) | .inr rv => some rv)
theorem slices_IndexFunc_api_Block_api_Block_k1_fun (p0 : (List api_Block)) (p1_0 : api_Span) (r : Int) (hF : slices_IndexFunc_api_Block_api_Block_k1 p0 p1_0 = some r) : Fun Tryz.prog 111 false [(5440,0)] [cL 7 t_api_Block p0, .c (.fn 71 [.ptr (5440,0)])] (heapOf [((5440,0), .box [jI p1_0.fFrom, jI p1_0.fTo])]) (cI r) (heapOf [((5440,0), .box [jI p1_0.fFrom, jI p1_0.fTo])]) := by
 refine Fun.of_walkM [(5440,0)] (some [(5440,0)]) Tryz.func111 c111 (by kernel_rfl) (rs := [.tmp 4]) (by kernel_rfl) rfl rfl rfl ?_; unfold v111
 unfold slices_IndexFunc_api_Block_api_Block_k1 at hF
 refine wA rfl ?_; refine W_seq ?_; refine wC 1 rfl ?_; refine rS (T_len (tc := t_api_Block) p0 .tree ?_); refine QV rfl ?_; refine W_for (fun _ _ h => h) hF (.inl) (fun a12 => [(0, cL 7 t_api_Block p0), (1, .c (.fn 71 [.ptr (5440,0)])), (7, cI (List.length p0 : Int)), (8, cI a12)]) (fun a12 => [((5440,0), .box [jI p1_0.fFrom, jI p1_0.fTo])]) (fun _ => []) (fun _ => [((5440,0), .box [jI p1_0.fFrom, jI p1_0.fTo])]) sw ?_ ?_
 · rintro ⟨⟩ hF
   refine wA rfl ?_; cases hF
   exact W_ret ⟨_, _, S_refl, _, rfl, rfl, ⟨rfl, fun _ => rfl⟩, (AgM.weak ⟨rfl, trivial⟩)⟩
 rintro a12 x_0 hF cont_0 brk_0 fin_0
 unfold slices_IndexFunc_api_Block_api_Block_k1_L1 at hF
 refine wA rfl ?_; refine W_seq ?_; refine wIf hF rfl (fun _ hF => ?_) fun _ hF => ?_
 · refine W_skip ?_; refine W_seq ?_; refine W_block ?_; refine wA rfl ?_; refine wC 3 rfl ?_; obtain ⟨y17, hy17, hF⟩ := bB hF
   refine rS (T_ixT (tc := t_api_Block) p0 rfl rfl hy17 ?_); refine Q_run SV 1 rfl ?_; obtain ⟨r18, hr18, hF⟩ := bB hF
   refine R_stepX trivial (X_call (callW _ rfl fnOk71) (trace_outside_3_k1_fun _ _ _ hr18) ⟨⟨rfl, rfl, rfl, rfl, rfl, rfl, rfl, trivial⟩, ⟨_, rfl, ⟨rfl, rfl, trivial⟩⟩, trivial⟩ rfl (.inl rfl) ?_); refine QV rfl ?_
   refine wIf hF rfl (fun _ hF => ?_) fun _ hF => ?_
   · refine wA rfl ?_; have hF := fin_0 _ (oi hF); cases hF
     exact W_ret ⟨_, _, S_refl, _, rfl, rfl, ⟨rfl, fun _ => rfl⟩, (AgM.weak ⟨rfl, trivial⟩)⟩
   refine W_skip ?_; refine wB rfl ?_; exact cont_0 _ _ _ (oi hF) sw
 refine W_exit ?_; refine thenQ_exit ?_; refine thenQ_exit ?_; refine blockQ_hit ?_; exact brk_0 _ _ _ (oi hF) sw
def slices_ContainsFunc_api_Block_api_Block_k1 (p0 : (List api_Block)) (p1_0 : api_Span) : Option Bool :=
  ((slices_IndexFunc_api_Block_api_Block_k1 p0 p1_0).bind fun r1 => some (decide (0 ≤ r1)))
theorem slices_ContainsFunc_api_Block_api_Block_k1_fun (p0 : (List api_Block)) (p1_0 : api_Span) (r : Bool) (hF : slices_ContainsFunc_api_Block_api_Block_k1 p0 p1_0 = some r) : Fun Tryz.prog 70 false [(3800,0)] [cL 7 t_api_Block p0, .c (.fn 71 [.ptr (3800,0)])] (heapOf [((3800,0), .box [jI p1_0.fFrom, jI p1_0.fTo])]) (cB r) (heapOf [((3800,0), .box [jI p1_0.fFrom, jI p1_0.fTo])]) := by
 refine Fun.of_walkM [(3800,0)] (some [(3800,0)]) Tryz.func70 c70 (by kernel_rfl) (rs := [.tmp 4]) (by kernel_rfl) rfl rfl rfl ?_; unfold v70
 unfold slices_ContainsFunc_api_Block_api_Block_k1 at hF
 refine wA rfl ?_; refine wC 2 rfl ?_; obtain ⟨r1, hr1, hF⟩ := bB hF
 refine rS (T_callO [((5440,0),(3800,0))] rfl (slices_IndexFunc_api_Block_api_Block_k1_fun _ _ _ hr1) ⟨rfl, trivial⟩ rfl rfl (.inr ⟨.inl rfl, .inl rfl, trivial⟩) ?_); refine QV rfl ?_; cases hF
 exact W_ret ⟨_, _, S_refl, _, rfl, rfl, ⟨rfl, fun _ => rfl⟩, (AgM.weak ⟨rfl, trivial⟩)⟩
def trace_inside (p0 : api_Span) (p1 : Int) : Option Bool :=
  (((bif (decide (p0.fFrom ≤ p1)) then some (decide (p1 < p0.fTo)) else some false) : Option Bool).bind fun v1 => some v1)
theorem trace_inside_fun (p0 : api_Span) (p1 : Int) (r : Bool) (hF : trace_inside p0 p1 = some r) : Fun Tryz.prog 74 true [] [.agg [jI p0.fFrom, jI p0.fTo], cI p1] noHeap (cB r) noHeap := by
 refine Fun.of_walk0 Tryz.func74 c74 (by kernel_rfl) (rs := [.tmp 4]) (by kernel_rfl) ?_; unfold v74
 unfold trace_inside at hF
 refine wA rfl ?_; refine W_seq ?_; refine W_join (fun _ _ h => h) hF (fun v1 => [(4, cB v1)]) (fun v1 => []) ?_ ?_
 · rintro v1 hF
   cases hF
   exact W_ret wR
 intro join hF
 refine wD 5 rfl ?_; cases h2 : (decide (p0.fFrom ≤ p1))
 · have hF := bF' h2 hF; refine QV rfl ?_; exact join false _ _ hF sw
 have hF := bT' h2 hF; refine QV rfl ?_; exact join (decide (p1 < p0.fTo)) _ _ hF sw
def trace_outside_4_k1 (p0 : api_Flow) (p1 : api_Span) : Option Bool :=
  ((((trace_inside p1 p0.fSend).bind fun r2 => (bif (!r2) then some true else ((trace_inside p1 p0.fRecv).bind fun r4 => some (!r4)))) : Option Bool).bind fun v1 => some v1)
theorem trace_outside_4_k1_fun (p0 : api_Flow) (p1 : api_Span) (r : Bool) (hF : trace_outside_4_k1 p0 p1 = some r) : Fun Tryz.prog 73 true [] [.agg (m_api_Flow p0), .c (.ptrI [tI p1.fFrom, tI p1.fTo])] noHeap (cB r) noHeap := by
 refine Fun.of_walk0 Tryz.func73 c73 (by kernel_rfl) (rs := [.tmp 3]) (by kernel_rfl) ?_; unfold v73
 unfold trace_outside_4_k1 at hF
 refine wA rfl ?_; refine W_seq ?_; refine W_join (fun _ _ h => h) hF (fun v1 => [(3, cB v1)]) (fun v1 => []) ?_ ?_
 · rintro v1 hF
   cases hF
   exact W_ret wR
 intro join hF
 refine wD 3 rfl ?_; obtain ⟨r2, hr2, hF⟩ := bB' hF
 refine rS (T_call (trace_inside_fun _ _ _ hr2) ⟨⟨rfl, rfl, trivial⟩, rfl, trivial⟩ rfl (.inl rfl) ?_); refine Q_run SV 2 rfl ?_; cases h3 : (!r2)
 · have hF := bF' h3 hF; refine Q_run SV 3 rfl ?_; obtain ⟨r4, hr4, hF⟩ := bB' hF
   refine R_step SV rfl (T_call (trace_inside_fun _ _ _ hr4) ⟨⟨rfl, rfl, trivial⟩, rfl, trivial⟩ rfl (.inl rfl) ?_); refine QV rfl ?_; exact join (!r4) _ _ hF sw
 have hF := bT' h3 hF; refine QV rfl ?_; exact join true _ _ hF sw
def slices_IndexFunc_api_Flow_api_Flow_k1_L1 (p0 : (List api_Flow)) (p1_0 : api_Span) : Int → Option (Int ⊕ (Unit ⊕ Int)) := fun a12 =>
  (bif (decide (a12 < (List.length p0 : Int))) then ((idx p0 a12).bind fun y17 => ((trace_outside_4_k1 y17 p1_0).bind fun r18 => (bif r18 then some (.inr (.inr a12)) else some (.inl (w64 (a12 + 1)))))) else some (.inr (.inl ())))
def slices_IndexFunc_api_Flow_api_Flow_k1 (p0 : (List api_Flow)) (p1_0 : api_Span) : Option Int :=
  ((loop (slices_IndexFunc_api_Flow_api_Flow_k1_L1 p0 p1_0) 0).bind fun | .inl _ => some (-1) | .inr rv => some rv)
theorem slices_IndexFunc_api_Flow_api_Flow_k1_fun (p0 : (List api_Flow)) (p1_0 : api_Span) (r : Int) (hF : slices_IndexFunc_api_Flow_api_Flow_k1 p0 p1_0 = some r) : Fun Tryz.prog 112 false [(5480,0)] [cL 7 t_api_Flow p0, .c (.fn 73 [.ptr (5480,0)])] (heapOf [((5480,0), .box [jI p1_0.fFrom, jI p1_0.fTo])]) (cI r) (heapOf [((5480,0), .box [jI p1_0.fFrom, jI p1_0.fTo])]) := by
 refine Fun.of_walkM [(5480,0)] (some [(5480,0)]) Tryz.func112 c112 (by kernel_rfl) (rs := [.tmp 4]) (by kernel_rfl) rfl rfl rfl ?_; unfold v112
 unfold slices_IndexFunc_api_Flow_api_Flow_k1 at hF
 refine wA rfl ?_; refine W_seq ?_; refine wC 1 rfl ?_; refine rS (T_len (tc := t_api_Flow) p0 .tree ?_); refine QV rfl ?_; refine W_for (fun _ _ h => h) hF (.inl) (fun a12 => [(0, cL 7 t_api_Flow p0), (1, .c (.fn 73 [.ptr (5480,0)])), (7, cI (List.length p0 : Int)), (8, cI a12)]) (fun a12 => [((5480,0), .box [jI p1_0.fFrom, jI p1_0.fTo])]) (fun _ => []) (fun _ => [((5480,0), .box [jI p1_0.fFrom, jI p1_0.fTo])]) sw ?_ ?_
 · rintro ⟨⟩ hF
   refine wA rfl ?_; cases hF
   exact W_ret ⟨_, _, S_refl, _, rfl, rfl, ⟨rfl, fun _ => rfl⟩, (AgM.weak ⟨rfl, trivial⟩)⟩
 rintro a12 x_0 hF cont_0 brk_0 fin_0
 unfold slices_IndexFunc_api_Flow_api_Flow_k1_L1 at hF
 refine wA rfl ?_; refine W_seq ?_; refine wIf hF rfl (fun _ hF => ?_) fun _ hF => ?_
 · refine W_skip ?_; refine W_seq ?_; refine W_block ?_; refine wA rfl ?_; refine wC 3 rfl ?_; obtain ⟨y17, hy17, hF⟩ := bB hF
   refine rS (T_ixT (tc := t_api_Flow) p0 rfl rfl hy17 ?_); refine Q_run SV 1 rfl ?_; obtain ⟨r18, hr18, hF⟩ := bB hF
   refine R_stepX trivial (X_call (callW _ rfl fnOk73) (trace_outside_4_k1_fun _ _ _ hr18) ⟨⟨rfl, rfl, rfl, rfl, rfl, rfl, rfl, trivial⟩, ⟨_, rfl, ⟨rfl, rfl, trivial⟩⟩, trivial⟩ rfl (.inl rfl) ?_); refine QV rfl ?_
   refine wIf hF rfl (fun _ hF => ?_) fun _ hF => ?_
   · refine wA rfl ?_; have hF := fin_0 _ (oi hF); cases hF
     exact W_ret ⟨_, _, S_refl, _, rfl, rfl, ⟨rfl, fun _ => rfl⟩, (AgM.weak ⟨rfl, trivial⟩)⟩
   refine W_skip ?_; refine wB rfl ?_; exact cont_0 _ _ _ (oi hF) sw
 refine W_exit ?_; refine thenQ_exit ?_; refine thenQ_exit ?_; refine blockQ_hit ?_; exact brk_0 _ _ _ (oi hF) sw
def slices_ContainsFunc_api_Flow_api_Flow_k1 (p0 : (List api_Flow)) (p1_0 : api_Span) : Option Bool :=
  ((slices_IndexFunc_api_Flow_api_Flow_k1 p0 p1_0).bind fun r1 => some (decide (0 ≤ r1)))
theorem slices_ContainsFunc_api_Flow_api_Flow_k1_fun (p0 : (List api_Flow)) (p1_0 : api_Span) (r : Bool) (hF : slices_ContainsFunc_api_Flow_api_Flow_k1 p0 p1_0 = some r) : Fun Tryz.prog 72 false [(3880,0)] [cL 7 t_api_Flow p0, .c (.fn 73 [.ptr (3880,0)])] (heapOf [((3880,0), .box [jI p1_0.fFrom, jI p1_0.fTo])]) (cB r) (heapOf [((3880,0), .box [jI p1_0.fFrom, jI p1_0.fTo])]) := by
 refine Fun.of_walkM [(3880,0)] (some [(3880,0)]) Tryz.func72 c72 (by kernel_rfl) (rs := [.tmp 4]) (by kernel_rfl) rfl rfl rfl ?_; unfold v72
 unfold slices_ContainsFunc_api_Flow_api_Flow_k1 at hF
 refine wA rfl ?_; refine wC 2 rfl ?_; obtain ⟨r1, hr1, hF⟩ := bB hF
 refine rS (T_callO [((5480,0),(3880,0))] rfl (slices_IndexFunc_api_Flow_api_Flow_k1_fun _ _ _ hr1) ⟨rfl, trivial⟩ rfl rfl (.inr ⟨.inl rfl, .inl rfl, trivial⟩) ?_); refine QV rfl ?_; cases hF
 exact W_ret ⟨_, _, S_refl, _, rfl, rfl, ⟨rfl, fun _ => rfl⟩, (AgM.weak ⟨rfl, trivial⟩)⟩
def trace_outside_5_k1 (p0 : api_Sample) (p1 : api_Span) : Option Bool :=
  ((trace_inside p1 p0.fAt).bind fun r1 => some (!r1))
theorem trace_outside_5_k1_fun (p0 : api_Sample) (p1 : api_Span) (r : Bool) (hF : trace_outside_5_k1 p0 p1 = some r) : Fun Tryz.prog 76 true [] [.agg (m_api_Sample p0), .c (.ptrI [tI p1.fFrom, tI p1.fTo])] noHeap (cB r) noHeap := by
 refine Fun.of_walk0 Tryz.func76 c76 (by kernel_rfl) (rs := [.tmp 3]) (by kernel_rfl) ?_; unfold v76
 unfold trace_outside_5_k1 at hF
 refine wA rfl ?_; refine wC 3 rfl ?_; obtain ⟨r1, hr1, hF⟩ := bB hF
 refine rS (T_call (trace_inside_fun _ _ _ hr1) ⟨⟨rfl, rfl, trivial⟩, rfl, trivial⟩ rfl (.inl rfl) ?_); refine QV rfl ?_; cases hF
 exact W_ret wR
def slices_IndexFunc_api_Sample_api_Sample_k1_L1 (p0 : (List api_Sample)) (p1_0 : api_Span) : Int → Option (Int ⊕ (Unit ⊕ Int)) := fun a12 =>
  (bif (decide (a12 < (List.length p0 : Int))) then ((idx p0 a12).bind fun y17 => ((trace_outside_5_k1 y17 p1_0).bind fun r18 => (bif r18 then some (.inr (.inr a12)) else some (.inl (w64 (a12 + 1)))))) else some (.inr (.inl ())))
def slices_IndexFunc_api_Sample_api_Sample_k1 (p0 : (List api_Sample)) (p1_0 : api_Span) : Option Int :=
  ((loop (slices_IndexFunc_api_Sample_api_Sample_k1_L1 p0 p1_0) 0).bind fun | .inl _ => some (-1) | .inr rv => some rv)
theorem slices_IndexFunc_api_Sample_api_Sample_k1_fun (p0 : (List api_Sample)) (p1_0 : api_Span) (r : Int) (hF : slices_IndexFunc_api_Sample_api_Sample_k1 p0 p1_0 = some r) : Fun Tryz.prog 113 false [(5520,0)] [cL 4 t_api_Sample p0, .c (.fn 76 [.ptr (5520,0)])] (heapOf [((5520,0), .box [jI p1_0.fFrom, jI p1_0.fTo])]) (cI r) (heapOf [((5520,0), .box [jI p1_0.fFrom, jI p1_0.fTo])]) := by
 refine Fun.of_walkM [(5520,0)] (some [(5520,0)]) Tryz.func113 c113 (by kernel_rfl) (rs := [.tmp 4]) (by kernel_rfl) rfl rfl rfl ?_; unfold v113
 unfold slices_IndexFunc_api_Sample_api_Sample_k1 at hF
 refine wA rfl ?_; refine W_seq ?_; refine wC 1 rfl ?_; refine rS (T_len (tc := t_api_Sample) p0 .tree ?_); refine QV rfl ?_; refine W_for (fun _ _ h => h) hF (.inl) (fun a12 => [(0, cL 4 t_api_Sample p0), (1, .c (.fn 76 [.ptr (5520,0)])), (7, cI (List.length p0 : Int)), (8, cI a12)]) (fun a12 => [((5520,0), .box [jI p1_0.fFrom, jI p1_0.fTo])]) (fun _ => []) (fun _ => [((5520,0), .box [jI p1_0.fFrom, jI p1_0.fTo])]) sw ?_ ?_
 · rintro ⟨⟩ hF
   refine wA rfl ?_; cases hF
   exact W_ret ⟨_, _, S_refl, _, rfl, rfl, ⟨rfl, fun _ => rfl⟩, (AgM.weak ⟨rfl, trivial⟩)⟩
 rintro a12 x_0 hF cont_0 brk_0 fin_0
 unfold slices_IndexFunc_api_Sample_api_Sample_k1_L1 at hF
 refine wA rfl ?_; refine W_seq ?_; refine wIf hF rfl (fun _ hF => ?_) fun _ hF => ?_
 · refine W_skip ?_; refine W_seq ?_; refine W_block ?_; refine wA rfl ?_; refine wC 3 rfl ?_; obtain ⟨y17, hy17, hF⟩ := bB hF
   refine rS (T_ixT (tc := t_api_Sample) p0 rfl rfl hy17 ?_); refine Q_run SV 1 rfl ?_; obtain ⟨r18, hr18, hF⟩ := bB hF
   refine R_stepX trivial (X_call (callW _ rfl fnOk76) (trace_outside_5_k1_fun _ _ _ hr18) ⟨⟨rfl, rfl, rfl, rfl, trivial⟩, ⟨_, rfl, ⟨rfl, rfl, trivial⟩⟩, trivial⟩ rfl (.inl rfl) ?_); refine QV rfl ?_; refine wIf hF rfl (fun _ hF => ?_) fun _ hF => ?_
   · refine wA rfl ?_; have hF := fin_0 _ (oi hF); cases hF
     exact W_ret ⟨_, _, S_refl, _, rfl, rfl, ⟨rfl, fun _ => rfl⟩, (AgM.weak ⟨rfl, trivial⟩)⟩
   refine W_skip ?_; refine wB rfl ?_; exact cont_0 _ _ _ (oi hF) sw
 refine W_exit ?_; refine thenQ_exit ?_; refine thenQ_exit ?_; refine blockQ_hit ?_; exact brk_0 _ _ _ (oi hF) sw
def slices_ContainsFunc_api_Sample_api_Sample_k1 (p0 : (List api_Sample)) (p1_0 : api_Span) : Option Bool :=
  ((slices_IndexFunc_api_Sample_api_Sample_k1 p0 p1_0).bind fun r1 => some (decide (0 ≤ r1)))
theorem slices_ContainsFunc_api_Sample_api_Sample_k1_fun (p0 : (List api_Sample)) (p1_0 : api_Span) (r : Bool) (hF : slices_ContainsFunc_api_Sample_api_Sample_k1 p0 p1_0 = some r) : Fun Tryz.prog 75 false [(4000,0)] [cL 4 t_api_Sample p0, .c (.fn 76 [.ptr (4000,0)])] (heapOf [((4000,0), .box [jI p1_0.fFrom, jI p1_0.fTo])]) (cB r) (heapOf [((4000,0), .box [jI p1_0.fFrom, jI p1_0.fTo])]) := by
 refine Fun.of_walkM [(4000,0)] (some [(4000,0)]) Tryz.func75 c75 (by kernel_rfl) (rs := [.tmp 4]) (by kernel_rfl) rfl rfl rfl ?_; unfold v75
 unfold slices_ContainsFunc_api_Sample_api_Sample_k1 at hF
 refine wA rfl ?_; refine wC 2 rfl ?_; obtain ⟨r1, hr1, hF⟩ := bB hF
 refine rS (T_callO [((5520,0),(4000,0))] rfl (slices_IndexFunc_api_Sample_api_Sample_k1_fun _ _ _ hr1) ⟨rfl, trivial⟩ rfl rfl (.inr ⟨.inl rfl, .inl rfl, trivial⟩) ?_); refine QV rfl ?_; cases hF
 exact W_ret ⟨_, _, S_refl, _, rfl, rfl, ⟨rfl, fun _ => rfl⟩, (AgM.weak ⟨rfl, trivial⟩)⟩
def trace_outside_6_k1 (p0 : api_Step) (p1 : api_Span) : Option Bool :=
  ((trace_inside p1 p0.fAt).bind fun r1 => some (!r1))
theorem trace_outside_6_k1_fun (p0 : api_Step) (p1 : api_Span) (r : Bool) (hF : trace_outside_6_k1 p0 p1 = some r) : Fun Tryz.prog 78 true [] [.agg (m_api_Step p0), .c (.ptrI [tI p1.fFrom, tI p1.fTo])] noHeap (cB r) noHeap := by
 refine Fun.of_walk0 Tryz.func78 c78 (by kernel_rfl) (rs := [.tmp 3]) (by kernel_rfl) ?_; unfold v78
 unfold trace_outside_6_k1 at hF
 refine wA rfl ?_; refine wC 3 rfl ?_; obtain ⟨r1, hr1, hF⟩ := bB hF
 refine rS (T_call (trace_inside_fun _ _ _ hr1) ⟨⟨rfl, rfl, trivial⟩, rfl, trivial⟩ rfl (.inl rfl) ?_); refine QV rfl ?_; cases hF
 exact W_ret wR
def slices_IndexFunc_api_Step_api_Step_k1_L1 (p0 : (List api_Step)) (p1_0 : api_Span) : Int → Option (Int ⊕ (Unit ⊕ Int)) := fun a12 =>
  (bif (decide (a12 < (List.length p0 : Int))) then ((idx p0 a12).bind fun y17 => ((trace_outside_6_k1 y17 p1_0).bind fun r18 => (bif r18 then some (.inr (.inr a12)) else some (.inl (w64 (a12 + 1)))))) else some (.inr (.inl ())))
def slices_IndexFunc_api_Step_api_Step_k1 (p0 : (List api_Step)) (p1_0 : api_Span) : Option Int :=
  ((loop (slices_IndexFunc_api_Step_api_Step_k1_L1 p0 p1_0) 0).bind fun | .inl _ => some (-1) | .inr rv => some rv)
theorem slices_IndexFunc_api_Step_api_Step_k1_fun (p0 : (List api_Step)) (p1_0 : api_Span) (r : Int) (hF : slices_IndexFunc_api_Step_api_Step_k1 p0 p1_0 = some r) : Fun Tryz.prog 114 false [(5560,0)] [cL 3 t_api_Step p0, .c (.fn 78 [.ptr (5560,0)])] (heapOf [((5560,0), .box [jI p1_0.fFrom, jI p1_0.fTo])]) (cI r) (heapOf [((5560,0), .box [jI p1_0.fFrom, jI p1_0.fTo])]) := by
 refine Fun.of_walkM [(5560,0)] (some [(5560,0)]) Tryz.func114 c114 (by kernel_rfl) (rs := [.tmp 4]) (by kernel_rfl) rfl rfl rfl ?_; unfold v114
 unfold slices_IndexFunc_api_Step_api_Step_k1 at hF
 refine wA rfl ?_; refine W_seq ?_; refine wC 1 rfl ?_; refine rS (T_len (tc := t_api_Step) p0 .tree ?_); refine QV rfl ?_; refine W_for (fun _ _ h => h) hF (.inl) (fun a12 => [(0, cL 3 t_api_Step p0), (1, .c (.fn 78 [.ptr (5560,0)])), (7, cI (List.length p0 : Int)), (8, cI a12)]) (fun a12 => [((5560,0), .box [jI p1_0.fFrom, jI p1_0.fTo])]) (fun _ => []) (fun _ => [((5560,0), .box [jI p1_0.fFrom, jI p1_0.fTo])]) sw ?_ ?_
 · rintro ⟨⟩ hF
   refine wA rfl ?_; cases hF
   exact W_ret ⟨_, _, S_refl, _, rfl, rfl, ⟨rfl, fun _ => rfl⟩, (AgM.weak ⟨rfl, trivial⟩)⟩
 rintro a12 x_0 hF cont_0 brk_0 fin_0
 unfold slices_IndexFunc_api_Step_api_Step_k1_L1 at hF
 refine wA rfl ?_; refine W_seq ?_; refine wIf hF rfl (fun _ hF => ?_) fun _ hF => ?_
 · refine W_skip ?_; refine W_seq ?_; refine W_block ?_; refine wA rfl ?_; refine wC 3 rfl ?_; obtain ⟨y17, hy17, hF⟩ := bB hF
   refine rS (T_ixT (tc := t_api_Step) p0 rfl rfl hy17 ?_); refine Q_run SV 1 rfl ?_; obtain ⟨r18, hr18, hF⟩ := bB hF
   refine R_stepX trivial (X_call (callW _ rfl fnOk78) (trace_outside_6_k1_fun _ _ _ hr18) ⟨⟨rfl, rfl, rfl, trivial⟩, ⟨_, rfl, ⟨rfl, rfl, trivial⟩⟩, trivial⟩ rfl (.inl rfl) ?_); refine QV rfl ?_; refine wIf hF rfl (fun _ hF => ?_) fun _ hF => ?_
   · refine wA rfl ?_; have hF := fin_0 _ (oi hF); cases hF
     exact W_ret ⟨_, _, S_refl, _, rfl, rfl, ⟨rfl, fun _ => rfl⟩, (AgM.weak ⟨rfl, trivial⟩)⟩
   refine W_skip ?_; refine wB rfl ?_; exact cont_0 _ _ _ (oi hF) sw
 refine W_exit ?_; refine thenQ_exit ?_; refine thenQ_exit ?_; refine blockQ_hit ?_; exact brk_0 _ _ _ (oi hF) sw
def slices_ContainsFunc_api_Step_api_Step_k1 (p0 : (List api_Step)) (p1_0 : api_Span) : Option Bool :=
  ((slices_IndexFunc_api_Step_api_Step_k1 p0 p1_0).bind fun r1 => some (decide (0 ≤ r1)))
theorem slices_ContainsFunc_api_Step_api_Step_k1_fun (p0 : (List api_Step)) (p1_0 : api_Span) (r : Bool) (hF : slices_ContainsFunc_api_Step_api_Step_k1 p0 p1_0 = some r) : Fun Tryz.prog 77 false [(4080,0)] [cL 3 t_api_Step p0, .c (.fn 78 [.ptr (4080,0)])] (heapOf [((4080,0), .box [jI p1_0.fFrom, jI p1_0.fTo])]) (cB r) (heapOf [((4080,0), .box [jI p1_0.fFrom, jI p1_0.fTo])]) := by
 refine Fun.of_walkM [(4080,0)] (some [(4080,0)]) Tryz.func77 c77 (by kernel_rfl) (rs := [.tmp 4]) (by kernel_rfl) rfl rfl rfl ?_; unfold v77
 unfold slices_ContainsFunc_api_Step_api_Step_k1 at hF
 refine wA rfl ?_; refine wC 2 rfl ?_; obtain ⟨r1, hr1, hF⟩ := bB hF
 refine rS (T_callO [((5560,0),(4080,0))] rfl (slices_IndexFunc_api_Step_api_Step_k1_fun _ _ _ hr1) ⟨rfl, trivial⟩ rfl rfl (.inr ⟨.inl rfl, .inl rfl, trivial⟩) ?_); refine QV rfl ?_; cases hF
 exact W_ret ⟨_, _, S_refl, _, rfl, rfl, ⟨rfl, fun _ => rfl⟩, (AgM.weak ⟨rfl, trivial⟩)⟩
def trace_outside (p0 : api_Trace) : Option Bool :=
  ((((slices_ContainsFunc_api_Slice_api_Slice_k1 p0.fSlices p0.fSpan).bind fun r2 => (bif r2 then some true else ((slices_ContainsFunc_api_State_api_State_k1 p0.fStates p0.fSpan).bind fun r4 => (bif r4 then some true else ((slices_ContainsFunc_api_Block_api_Block_k1 p0.fBlocks p0.fSpan).bind fun r6 => (bif r6 then some true else ((slices_ContainsFunc_api_Flow_api_Flow_k1 p0.fFlows p0.fSpan).bind fun r8 => (bif r8 then some true else ((slices_ContainsFunc_api_Sample_api_Sample_k1 p0.fSamples p0.fSpan).bind fun r10 => (bif r10 then some true else ((slices_ContainsFunc_api_Step_api_Step_k1 p0.fSteps p0.fSpan).bind fun r12 => some r12))))))))))) : Option Bool).bind fun v1 => some v1)
theorem trace_outside_fun (p0 : api_Trace) (r : Bool) (hF : trace_outside p0 = some r) : Fun Tryz.prog 33 true [] [.agg (m_api_Trace p0)] noHeap (cB r) noHeap := by
 refine Fun.of_walk0 Tryz.func33 c33 (by kernel_rfl) (rs := [.tmp 2]) (by kernel_rfl) ?_; unfold v33
 unfold trace_outside at hF
 refine wA rfl ?_; refine wA rfl ?_; refine W_seq ?_; refine W_join (fun _ _ h => h) hF (fun v1 => [(2, cB v1)]) (fun v1 => []) ?_ ?_
 · rintro v1 hF
   cases hF
   exact W_ret wR
 intro join hF
 refine wD 3 rfl ?_; obtain ⟨r2, hr2, hF⟩ := bB' hF
 refine rS (T_callO [((3600,0),(3,0))] rfl (slices_ContainsFunc_api_Slice_api_Slice_k1_fun _ _ _ hr2) ⟨rfl, trivial⟩ rfl rfl (.inr ⟨.inl rfl, .inl rfl, trivial⟩) ?_); refine Q_run SV 1 rfl ?_; cases h3 : r2
 · have hF := bF' h3 hF; refine Q_run SV 3 rfl ?_; obtain ⟨r4, hr4, hF⟩ := bB' hF
   refine R_step SV rfl (T_callO [((3720,0),(3,0))] rfl (slices_ContainsFunc_api_State_api_State_k1_fun _ _ _ hr4) ⟨rfl, trivial⟩ rfl rfl (.inr ⟨.inl rfl, .inl rfl, trivial⟩) ?_); refine Q_run SV 2 rfl ?_
   cases h5 : r4
   · have hF := bF' h5 hF; refine Q_run SV 3 rfl ?_; obtain ⟨r6, hr6, hF⟩ := bB' hF
     refine R_step SV rfl (T_callO [((3800,0),(3,0))] rfl (slices_ContainsFunc_api_Block_api_Block_k1_fun _ _ _ hr6) ⟨rfl, trivial⟩ rfl rfl (.inr ⟨.inl rfl, .inl rfl, trivial⟩) ?_); refine Q_run SV 2 rfl ?_
     cases h7 : r6
     · have hF := bF' h7 hF; refine Q_run SV 3 rfl ?_; obtain ⟨r8, hr8, hF⟩ := bB' hF
       refine R_step SV rfl (T_callO [((3880,0),(3,0))] rfl (slices_ContainsFunc_api_Flow_api_Flow_k1_fun _ _ _ hr8) ⟨rfl, trivial⟩ rfl rfl (.inr ⟨.inl rfl, .inl rfl, trivial⟩) ?_); refine Q_run SV 2 rfl ?_; cases h9 : r8
       · have hF := bF' h9 hF; refine Q_run SV 3 rfl ?_; obtain ⟨r10, hr10, hF⟩ := bB' hF
         refine R_step SV rfl (T_callO [((4000,0),(3,0))] rfl (slices_ContainsFunc_api_Sample_api_Sample_k1_fun _ _ _ hr10) ⟨rfl, trivial⟩ rfl rfl (.inr ⟨.inl rfl, .inl rfl, trivial⟩) ?_); refine Q_run SV 2 rfl ?_
         cases h11 : r10
         · have hF := bF' h11 hF; refine Q_run SV 3 rfl ?_; obtain ⟨r12, hr12, hF⟩ := bB' hF
           refine R_step SV rfl (T_callO [((4080,0),(3,0))] rfl (slices_ContainsFunc_api_Step_api_Step_k1_fun _ _ _ hr12) ⟨rfl, trivial⟩ rfl rfl (.inr ⟨.inl rfl, .inl rfl, trivial⟩) ?_); refine QV rfl ?_; exact join r12 _ _ hF sw
         have hF := bT' h11 hF; refine QV rfl ?_; exact join true _ _ hF sw
       have hF := bT' h9 hF; refine QV rfl ?_; exact join true _ _ hF sw
     have hF := bT' h7 hF; refine QV rfl ?_; exact join true _ _ hF sw
   have hF := bT' h5 hF; refine QV rfl ?_; exact join true _ _ hF sw
 have hF := bT' h3 hF; refine QV rfl ?_; exact join true _ _ hF sw
def trace_Check (p0 : api_Trace) : Option Int :=
  ((trace_tables p0).bind fun r1 => (bif (!decide (r1 = 0)) then some r1 else (((bif (decide (p0.fSpan.fFrom < 0)) then some true else (bif (decide (p0.fSpan.fTo < p0.fSpan.fFrom)) then some true else some (decide (1000000000000 < p0.fSpan.fTo)))) : Option Bool).bind fun v2 => (bif v2 then some 2 else ((trace_outside p0).bind fun r3 => (bif r3 then some 10 else some 0))))))
theorem trace_Check_fun (p0 : api_Trace) (r : Int) (hF : trace_Check p0 = some r) : Fun Tryz.prog 19 true [] [.agg (m_api_Trace p0)] noHeap (cI r) noHeap := by
 refine Fun.of_walk0 Tryz.func19 c19 (by kernel_rfl) (rs := [.tmp 2]) (by kernel_rfl) ?_; unfold v19
 unfold trace_Check at hF
 refine wA rfl ?_; refine W_seq ?_; refine wC 1 rfl ?_; obtain ⟨r1, hr1, hF⟩ := bB hF
 refine rS (T_call (trace_tables_fun _ _ hr1) ⟨⟨rfl, rfl, rfl, rfl, rfl, rfl, rfl, rfl, rfl, rfl, trivial⟩, trivial⟩ rfl (.inl rfl) ?_); refine QV rfl ?_; refine wA rfl ?_; refine wIf hF rfl (fun _ hF => ?_) fun _ hF => ?_
 · refine wA rfl ?_; cases hF
   exact W_ret wR
 refine W_skip ?_; refine W_seq ?_; refine W_seq ?_; refine W_join (fun _ _ h => h) hF (fun v2 => [(1, cP (1,0) 0), (27, cB v2)]) (fun v2 => [((1,0), .box (m_api_Trace p0))]) ?_ ?_
 · rintro v2 hF
   refine wIf hF rfl (fun _ hF => ?_) fun _ hF => ?_
   · refine wA rfl ?_; cases hF
     exact W_ret wR
   refine W_skip ?_; refine W_seq ?_; refine wC 1 rfl ?_; obtain ⟨r3, hr3, hF⟩ := bB hF
   refine rS (T_call (trace_outside_fun _ _ hr3) ⟨⟨rfl, rfl, rfl, rfl, rfl, rfl, rfl, rfl, rfl, rfl, trivial⟩, trivial⟩ rfl (.inl rfl) ?_); refine QV rfl ?_; refine wIf hF rfl (fun _ hF => ?_) fun _ hF => ?_
   · refine wA rfl ?_; cases hF
     exact W_ret wR
   refine W_skip ?_; refine wA rfl ?_; cases hF
   exact W_ret wR
 intro join hF
 refine wD 5 rfl ?_; cases h6 : (decide (p0.fSpan.fFrom < 0))
 · have hF := bF' h6 hF; refine Q_run SV 9 rfl ?_; cases h7 : (decide (p0.fSpan.fTo < p0.fSpan.fFrom))
   · have hF := bF' h7 hF; refine QV rfl ?_; exact join (decide (1000000000000 < p0.fSpan.fTo)) _ _ hF sw
   have hF := bT' h7 hF; refine QV rfl ?_; exact join true _ _ hF sw
 have hF := bT' h6 hF; refine QV rfl ?_; exact join true _ _ hF sw
def anomaly_length (p0 : api_Slice) : Option Int :=
  some (w64 (p0.fSpan.fTo - p0.fSpan.fFrom))
theorem anomaly_length_fun (p0 : api_Slice) (r : Int) (hF : anomaly_length p0 = some r) : Fun Tryz.prog 22 true [] [.agg (m_api_Slice p0)] noHeap (cI r) noHeap := by
 refine Fun.of_walk0 Tryz.func22 c22 (by kernel_rfl) (rs := [.tmp 2]) (by kernel_rfl) ?_; unfold v22
 unfold anomaly_length at hF
 refine wA rfl ?_; refine wA rfl ?_; cases hF
 exact W_ret wR
end Go.VM
