/- What the functions of the law compute, each with its proof. -/
import Derived.Test.YtdpnoiebfagmfaaVm2
import Derived.Test.YtdpnoiebfagmfaaRows
import Derived.KernelRfl
import Derived.Lib.Bytealg
import Derived.Laws.Externs
import Derived.WalkKit
namespace Go.VM
open Go.Proofs Go.Proofs.Ytdpnoiebfagmfaa
open Go.RowKit
structure api_Span where
  fFrom : Int
  fTo : Int
  deriving DecidableEq
structure api_Thread where
  fId : Int
  fName : ByteArray
  fDomain : Int
  deriving DecidableEq
structure api_Slice where
  fThread : Int
  fParent : Int
  fDepth : Int
  fName : ByteArray
  fSpan : api_Span
  fSelf : Int
  fOpen : Bool
  deriving DecidableEq
structure api_State where
  fThread : Int
  fState : Int
  fSpan : api_Span
  fCpu : Int
  fOn : Int
  fBy : Int
  deriving DecidableEq
structure api_Id where
  fThread : Int
  fSerial : Int
  deriving DecidableEq
structure api_Flow where
  fId : Int
  fFrom : api_Id
  fTo : api_Id
  fSend : Int
  fRecv : Int
  deriving DecidableEq
structure api_Sample where
  fThread : Int
  fAt : Int
  fWeight : Int
  fStack : (List ByteArray)
  deriving DecidableEq
structure api_Step where
  fName : ByteArray
  fAt : Int
  fValue : Int
  deriving DecidableEq
structure api_Block where
  fId : Int
  fThread : Int
  fSize : Int
  fSpan : api_Span
  fStack : (List ByteArray)
  fLive : Bool
  deriving DecidableEq
structure api_Loss where
  fThread : Int
  fSpan : api_Span
  fCount : Int
  deriving DecidableEq
structure api_Trace where
  fSpan : api_Span
  fThreads : (List api_Thread)
  fSlices : (List api_Slice)
  fStates : (List api_State)
  fFlows : (List api_Flow)
  fSamples : (List api_Sample)
  fSteps : (List api_Step)
  fBlocks : (List api_Block)
  fLost : (List api_Loss)
  deriving DecidableEq
def t_api_Thread (x : api_Thread) : List T := [tI x.fId, .sc (.string x.fName), tI x.fDomain]
def t_api_Slice (x : api_Slice) : List T := [tI x.fThread, tI x.fParent, tI x.fDepth, .sc (.string x.fName), tI x.fSpan.fFrom, tI x.fSpan.fTo, tI x.fSelf, .sc (.bool x.fOpen)]
def t_api_State (x : api_State) : List T := [tI x.fThread, tI x.fState, tI x.fSpan.fFrom, tI x.fSpan.fTo, tI x.fCpu, tI x.fOn, tI x.fBy]
def t_api_Flow (x : api_Flow) : List T := [tI x.fId, tI x.fFrom.fThread, tI x.fFrom.fSerial, tI x.fTo.fThread, tI x.fTo.fSerial, tI x.fSend, tI x.fRecv]
def t_str (x : ByteArray) : List T := [.sc (.string x)]
def t_api_Sample (x : api_Sample) : List T := [tI x.fThread, tI x.fAt, tI x.fWeight, .sl 1 (List.map t_str x.fStack)]
def t_api_Step (x : api_Step) : List T := [.sc (.string x.fName), tI x.fAt, tI x.fValue]
def t_api_Block (x : api_Block) : List T := [tI x.fId, tI x.fThread, tI x.fSize, tI x.fSpan.fFrom, tI x.fSpan.fTo, .sl 1 (List.map t_str x.fStack), .sc (.bool x.fLive)]
def t_api_Loss (x : api_Loss) : List T := [tI x.fThread, tI x.fSpan.fFrom, tI x.fSpan.fTo, tI x.fCount]
def t_i64 (x : Int) : List T := [tI x]
structure api_Hop where
  fThread : Int
  fState : Int
  fSpan : api_Span
  deriving DecidableEq
def t_api_Hop (x : api_Hop) : List T := [tI x.fThread, tI x.fState, tI x.fSpan.fFrom, tI x.fSpan.fTo]
def v5 : VC := (.seq (.region none [⟨(some 1),.box 33 (.tmp 0),none⟩, ⟨(some 2),.mv (.con (.c (.imm (.sc (.bool false))))),none⟩]) (.seq (.region none [⟨(some 3),.fld 2 (.tmp 1),none⟩, ⟨(some 4),.load 1 false (.tmp 3),none⟩, ⟨(some 5),.lenS (.tmp 4),none⟩, ⟨(some 6),.bin .leq (.tmp 5) (.con (.c (.imm (.sc (.int .i64 20))))),none⟩, ⟨(some 7),.mv (.tmp 6),none⟩, ⟨(some 8),.fld 3 (.tmp 1),(some (7,true))⟩, ⟨(some 9),.load 1 false (.tmp 8),(some (7,true))⟩, ⟨(some 10),.lenS (.tmp 9),(some (7,true))⟩, ⟨(some 11),.bin .leq (.tmp 10) (.con (.c (.imm (.sc (.int .i64 60))))),(some (7,true))⟩, ⟨(some 12),.pick (.tmp 7) (.tmp 11) (.con (.c (.imm (.sc (.bool false))))),none⟩, ⟨(some 13),.mv (.tmp 12),none⟩, ⟨(some 14),.fld 4 (.tmp 1),(some (13,true))⟩, ⟨(some 15),.load 1 false (.tmp 14),(some (13,true))⟩, ⟨(some 16),.lenS (.tmp 15),(some (13,true))⟩, ⟨(some 17),.bin .leq (.tmp 16) (.con (.c (.imm (.sc (.int .i64 200))))),(some (13,true))⟩, ⟨(some 18),.pick (.tmp 13) (.tmp 17) (.con (.c (.imm (.sc (.bool false))))),none⟩, ⟨(some 19),.mv (.tmp 18),none⟩, ⟨(some 20),.fld 5 (.tmp 1),(some (19,true))⟩, ⟨(some 21),.load 1 false (.tmp 20),(some (19,true))⟩, ⟨(some 22),.lenS (.tmp 21),(some (19,true))⟩, ⟨(some 23),.bin .leq (.tmp 22) (.con (.c (.imm (.sc (.int .i64 60))))),(some (19,true))⟩, ⟨(some 24),.pick (.tmp 19) (.tmp 23) (.con (.c (.imm (.sc (.bool false))))),none⟩, ⟨(some 25),.mv (.tmp 24),none⟩, ⟨(some 26),.fld 6 (.tmp 1),(some (25,true))⟩, ⟨(some 27),.load 1 false (.tmp 26),(some (25,true))⟩, ⟨(some 28),.lenS (.tmp 27),(some (25,true))⟩, ⟨(some 29),.bin .leq (.tmp 28) (.con (.c (.imm (.sc (.int .i64 60))))),(some (25,true))⟩, ⟨(some 30),.pick (.tmp 25) (.tmp 29) (.con (.c (.imm (.sc (.bool false))))),none⟩, ⟨(some 31),.mv (.tmp 30),none⟩, ⟨(some 32),.fld 7 (.tmp 1),(some (31,true))⟩, ⟨(some 33),.load 1 false (.tmp 32),(some (31,true))⟩, ⟨(some 34),.lenS (.tmp 33),(some (31,true))⟩, ⟨(some 35),.bin .leq (.tmp 34) (.con (.c (.imm (.sc (.int .i64 60))))),(some (31,true))⟩, ⟨(some 36),.pick (.tmp 31) (.tmp 35) (.con (.c (.imm (.sc (.bool false))))),none⟩, ⟨(some 37),.mv (.tmp 36),none⟩, ⟨(some 38),.fld 8 (.tmp 1),(some (37,true))⟩, ⟨(some 39),.load 1 false (.tmp 38),(some (37,true))⟩, ⟨(some 40),.lenS (.tmp 39),(some (37,true))⟩, ⟨(some 41),.bin .leq (.tmp 40) (.con (.c (.imm (.sc (.int .i64 60))))),(some (37,true))⟩, ⟨(some 42),.pick (.tmp 37) (.tmp 41) (.con (.c (.imm (.sc (.bool false))))),none⟩, ⟨(some 43),.mv (.tmp 42),none⟩, ⟨(some 44),.fld 9 (.tmp 1),(some (43,true))⟩, ⟨(some 45),.load 1 false (.tmp 44),(some (43,true))⟩, ⟨(some 46),.lenS (.tmp 45),(some (43,true))⟩, ⟨(some 47),.bin .leq (.tmp 46) (.con (.c (.imm (.sc (.int .i64 50))))),(some (43,true))⟩, ⟨(some 48),.pick (.tmp 43) (.tmp 47) (.con (.c (.imm (.sc (.bool false))))),none⟩, ⟨(some 2),.mv (.tmp 48),none⟩]) .ret))
theorem c5 : (Try.f5.body.bind fun c => cCode Try.prog 49 c) = some v5 := by kernel_rfl
def v13 : VC := (.seq (.region none [⟨(some 12),.alloc 37 [(.imm (.sc (.int .i64 0))),(.imm (.sc (.int .i64 0))),(.imm (.sc (.int .i64 0))),(.imm (.sc (.int .i64 0))),(.imm (.sc (.int .i64 0))),(.imm (.sc (.int .i64 0))),(.imm (.sc (.int .i64 0)))],none⟩]) (.seq (.region none [⟨(some 14),.mv (.tmp 0),none⟩, ⟨(some 15),.mv (.tmp 1),none⟩, ⟨(some 16),.mv (.tmp 2),none⟩, ⟨(some 17),.mv (.tmp 3),none⟩, ⟨(some 18),.build [(.imm (.sc (.int .i64 0))),(.imm (.sc (.int .i64 0)))] [(0,1,(.tmp 16)),(1,1,(.tmp 17))],none⟩, ⟨(some 19),.mv (.tmp 4),none⟩, ⟨(some 20),.mv (.tmp 5),none⟩, ⟨(some 21),.build [(.imm (.sc (.int .i64 0))),(.imm (.sc (.int .i64 0))),(.imm (.sc (.int .i64 0))),(.imm (.sc (.int .i64 0))),(.imm (.sc (.int .i64 0))),(.imm (.sc (.int .i64 0))),(.imm (.sc (.int .i64 0)))] [(0,1,(.tmp 14)),(1,1,(.tmp 15)),(2,2,(.tmp 18)),(4,1,(.con (.c (.imm (.sc (.int .i64 (-1))))))),(5,1,(.tmp 19)),(6,1,(.tmp 20))],none⟩, ⟨(some 13),.alloc 37 [(.imm (.sc (.int .i64 0))),(.imm (.sc (.int .i64 0))),(.imm (.sc (.int .i64 0))),(.imm (.sc (.int .i64 0))),(.imm (.sc (.int .i64 0))),(.imm (.sc (.int .i64 0))),(.imm (.sc (.int .i64 0)))],none⟩, ⟨none,.store 7 (.tmp 13) (.tmp 21),none⟩]) (.seq (.seq (.region none [⟨(some 22),.mv (.tmp 1),none⟩, ⟨(some 23),.bin .eql (.tmp 22) (.con (.c (.imm (.sc (.int .i64 4))))),none⟩]) (.cond (.tmp 23) (.region none [⟨(some 24),.mv (.tmp 0),none⟩, ⟨(some 25),.fld 4 (.tmp 13),none⟩, ⟨none,.store 1 (.tmp 25) (.tmp 24),none⟩]) .skip)) (.seq (.region none [⟨(some 26),.load 7 true (.tmp 13),none⟩, ⟨none,.store 7 (.tmp 12) (.tmp 26),none⟩]) .ret))))
theorem c13 : (Try.f13.body.bind fun c => cCode Try.prog 27 c) = some v13 := by kernel_rfl
def v12 : VC := (.seq (.region none [⟨(some 2),.alloc 33 [(.imm (.sc (.int .i64 0))),(.imm (.sc (.int .i64 0))),.nilS,.nilS,.nilS,.nilS,.nilS,.nilS,.nilS,.nilS],none⟩]) (.seq (.region none [⟨(some 3),.build [(.imm (.sc (.int .i64 0))),(.imm (.sc (.int .i64 0)))] [(1,1,(.con (.c (.imm (.sc (.int .i64 10))))))],none⟩, ⟨(some 4),.build [(.imm (.sc (.int .i64 0))),(.imm (.sc (.string ⟨#[]⟩))),(.imm (.sc (.int .i64 0)))] [(0,1,(.con (.c (.imm (.sc (.int .i64 1)))))),(1,1,(.con (.c (.imm (.sc (.string ⟨#[97]⟩))))))],none⟩, ⟨(some 5),.build [(.imm (.sc (.int .i64 0))),(.imm (.sc (.string ⟨#[]⟩))),(.imm (.sc (.int .i64 0)))] [(0,1,(.con (.c (.imm (.sc (.int .i64 2)))))),(1,1,(.con (.c (.imm (.sc (.string ⟨#[98]⟩))))))],none⟩, ⟨(some 6),.bsl 54 3 2 [(.imm (.sc (.int .i64 0))),(.imm (.sc (.string ⟨#[]⟩))),(.imm (.sc (.int .i64 0)))] [(0,3,(.tmp 4)),(3,3,(.tmp 5))],none⟩, ⟨(some 7),.mv (.tmp 0),none⟩, ⟨(some 8),.build [(.imm (.sc (.int .i64 0))),(.imm (.sc (.int .i64 0))),.nilS,.nilS,.nilS,.nilS,.nilS,.nilS,.nilS,.nilS] [(0,2,(.tmp 3)),(2,1,(.tmp 6)),(4,1,(.tmp 7))],none⟩, ⟨none,.store 10 (.tmp 2) (.tmp 8),none⟩]) .ret))
theorem c12 : (Try.f12.body.bind fun c => cCode Try.prog 9 c) = some v12 := by kernel_rfl
def v85 : VC := (.seq (.region none [⟨(some 4),.mv (.con (.c (.imm (.sc (.int .i64 0))))),none⟩]) (.seq (.region none [⟨(some 5),.mv (.tmp 0),none⟩, ⟨(some 6),.mv (.tmp 1),none⟩, ⟨(some 7),.call 88 [(.tmp 5),(.tmp 6)],none⟩, ⟨(some 4),.mv (.tmp 7),none⟩]) .ret))
theorem c85 : (Try.f85.body.bind fun c => cCode Try.prog 8 c) = some v85 := by kernel_rfl
def v79 : VC := (.seq (.region none [⟨(some 2),.mv (.con (.c (.imm (.sc (.bool false))))),none⟩]) (.seq (.region none [⟨(some 3),.mv (.tmp 0),none⟩, ⟨(some 4),.bin .geq (.tmp 3) (.con (.c (.imm (.sc (.int .u8 97))))),none⟩, ⟨(some 5),.mv (.tmp 4),none⟩, ⟨(some 6),.mv (.tmp 0),(some (5,true))⟩, ⟨(some 7),.bin .leq (.tmp 6) (.con (.c (.imm (.sc (.int .u8 122))))),(some (5,true))⟩, ⟨(some 8),.pick (.tmp 5) (.tmp 7) (.con (.c (.imm (.sc (.bool false))))),none⟩, ⟨(some 9),.mv (.tmp 8),none⟩, ⟨(some 10),.mv (.tmp 0),(some (9,false))⟩, ⟨(some 11),.bin .geq (.tmp 10) (.con (.c (.imm (.sc (.int .u8 65))))),(some (9,false))⟩, ⟨(some 12),.mv (.tmp 11),(some (9,false))⟩, ⟨(some 13),.mv (.tmp 0),(some (12,true))⟩, ⟨(some 14),.bin .leq (.tmp 13) (.con (.c (.imm (.sc (.int .u8 90))))),(some (12,true))⟩, ⟨(some 15),.pick (.tmp 12) (.tmp 14) (.con (.c (.imm (.sc (.bool false))))),(some (9,false))⟩, ⟨(some 16),.pick (.tmp 9) (.con (.c (.imm (.sc (.bool true))))) (.tmp 15),none⟩, ⟨(some 17),.mv (.tmp 16),none⟩, ⟨(some 18),.mv (.tmp 0),(some (17,false))⟩, ⟨(some 19),.bin .geq (.tmp 18) (.con (.c (.imm (.sc (.int .u8 48))))),(some (17,false))⟩, ⟨(some 20),.mv (.tmp 19),(some (17,false))⟩, ⟨(some 21),.mv (.tmp 0),(some (20,true))⟩, ⟨(some 22),.bin .leq (.tmp 21) (.con (.c (.imm (.sc (.int .u8 57))))),(some (20,true))⟩, ⟨(some 23),.pick (.tmp 20) (.tmp 22) (.con (.c (.imm (.sc (.bool false))))),(some (17,false))⟩, ⟨(some 24),.pick (.tmp 17) (.con (.c (.imm (.sc (.bool true))))) (.tmp 23),none⟩, ⟨(some 25),.mv (.tmp 24),none⟩, ⟨(some 26),.mv (.tmp 0),(some (25,false))⟩, ⟨(some 27),.call 85 [(.con (.c (.imm (.sc (.string ⟨#[95,46,58,47,60,62,36,42,126,45]⟩))))),(.tmp 26)],(some (25,false))⟩, ⟨(some 28),.bin .geq (.tmp 27) (.con (.c (.imm (.sc (.int .i64 0))))),(some (25,false))⟩, ⟨(some 29),.pick (.tmp 25) (.con (.c (.imm (.sc (.bool true))))) (.tmp 28),none⟩, ⟨(some 2),.mv (.tmp 29),none⟩]) .ret))
theorem c79 : (Try.f79.body.bind fun c => cCode Try.prog 30 c) = some v79 := by kernel_rfl
def v60 : VC := (.seq (.region none [⟨(some 2),.mv (.con (.c (.imm (.sc (.int .i64 0))))),none⟩]) (.seq (.seq (.region none [⟨(some 4),.mv (.tmp 0),none⟩, ⟨(some 5),.bin .eql (.tmp 4) (.con (.c (.imm (.sc (.string ⟨#[]⟩))))),none⟩, ⟨(some 6),.mv (.tmp 5),none⟩, ⟨(some 7),.mv (.tmp 0),(some (6,false))⟩, ⟨(some 8),.lenT (.tmp 7),(some (6,false))⟩, ⟨(some 9),.bin .gtr (.tmp 8) (.con (.c (.imm (.sc (.int .i64 40))))),(some (6,false))⟩, ⟨(some 10),.pick (.tmp 6) (.con (.c (.imm (.sc (.bool true))))) (.tmp 9),none⟩]) (.cond (.tmp 10) (.seq (.region none [⟨(some 2),.mv (.con (.c (.imm (.sc (.int .i64 3))))),none⟩]) .ret) .skip)) (.seq (.seq (.region none [⟨(some 11),.mv (.tmp 0),none⟩, ⟨(some 12),.lenT (.tmp 11),none⟩, ⟨(some 13),.mv (.con (.c (.imm (.sc (.int .i64 0))))),none⟩]) (.block 0 (.loop (.seq (.region none [⟨(some 14),.bin .lss (.tmp 13) (.tmp 12),none⟩]) (.seq (.cond (.tmp 14) .skip (.exit 0)) (.seq (.block 1 (.seq (.region none [⟨(some 15),.mv (.tmp 13),none⟩, ⟨(some 3),.mv (.tmp 15),none⟩]) (.seq (.region none [⟨(some 16),.mv (.tmp 0),none⟩, ⟨(some 17),.mv (.tmp 3),none⟩, ⟨(some 18),.ixS (.tmp 16) (.tmp 17),none⟩, ⟨(some 19),.call 79 [(.tmp 18)],none⟩, ⟨(some 20),.un .not (.tmp 19),none⟩]) (.cond (.tmp 20) (.seq (.region none [⟨(some 2),.mv (.con (.c (.imm (.sc (.int .i64 3))))),none⟩]) .ret) .skip)))) (.region none [⟨(some 21),.bin .add (.tmp 13) (.con (.c (.imm (.sc (.int .i64 1))))),none⟩, ⟨(some 13),.mv (.tmp 21),none⟩]))))))) (.seq (.region none [⟨(some 2),.mv (.con (.c (.imm (.sc (.int .i64 0))))),none⟩]) .ret))))
theorem c60 : (Try.f60.body.bind fun c => cCode Try.prog 22 c) = some v60 := by kernel_rfl
def v59 : VC := (.seq (.region none [⟨(some 1),.box 54 (.tmp 0),none⟩, ⟨(some 2),.mv (.con (.c (.imm (.sc (.int .i64 0))))),none⟩]) (.seq (.seq (.region none [⟨(some 3),.fld 0 (.tmp 1),none⟩, ⟨(some 4),.load 1 false (.tmp 3),none⟩, ⟨(some 5),.bin .lss (.tmp 4) (.con (.c (.imm (.sc (.int .i64 0))))),none⟩, ⟨(some 6),.mv (.tmp 5),none⟩, ⟨(some 7),.fld 0 (.tmp 1),(some (6,false))⟩, ⟨(some 8),.load 1 false (.tmp 7),(some (6,false))⟩, ⟨(some 9),.bin .gtr (.tmp 8) (.con (.c (.imm (.sc (.int .i64 1000000000000000))))),(some (6,false))⟩, ⟨(some 10),.pick (.tmp 6) (.con (.c (.imm (.sc (.bool true))))) (.tmp 9),none⟩, ⟨(some 11),.mv (.tmp 10),none⟩, ⟨(some 12),.fld 2 (.tmp 1),(some (11,false))⟩, ⟨(some 13),.load 1 false (.tmp 12),(some (11,false))⟩, ⟨(some 14),.bin .lss (.tmp 13) (.con (.c (.imm (.sc (.int .i64 0))))),(some (11,false))⟩, ⟨(some 15),.pick (.tmp 11) (.con (.c (.imm (.sc (.bool true))))) (.tmp 14),none⟩, ⟨(some 16),.mv (.tmp 15),none⟩, ⟨(some 17),.fld 2 (.tmp 1),(some (16,false))⟩, ⟨(some 18),.load 1 false (.tmp 17),(some (16,false))⟩, ⟨(some 19),.bin .geq (.tmp 18) (.con (.c (.imm (.sc (.int .i64 8))))),(some (16,false))⟩, ⟨(some 20),.pick (.tmp 16) (.con (.c (.imm (.sc (.bool true))))) (.tmp 19),none⟩]) (.cond (.tmp 20) (.seq (.region none [⟨(some 2),.mv (.con (.c (.imm (.sc (.int .i64 2))))),none⟩]) .ret) .skip)) (.seq (.region none [⟨(some 21),.fld 1 (.tmp 1),none⟩, ⟨(some 22),.load 1 false (.tmp 21),none⟩, ⟨(some 23),.call 60 [(.tmp 22)],none⟩, ⟨(some 2),.mv (.tmp 23),none⟩]) .ret)))
theorem c59 : (Try.f59.body.bind fun c => cCode Try.prog 24 c) = some v59 := by kernel_rfl
def v27 : VC := (.seq (.region none [⟨(some 1),.box 33 (.tmp 0),none⟩, ⟨(some 2),.mv (.con (.c .nilM)),none⟩, ⟨(some 3),.mv (.con (.c (.imm (.sc (.int .i64 0))))),none⟩]) (.seq (.seq (.region none [⟨(some 10),.fld 2 (.tmp 1),none⟩, ⟨(some 11),.load 1 false (.tmp 10),none⟩, ⟨(some 12),.lenS (.tmp 11),none⟩, ⟨(some 13),.bin .gtr (.tmp 12) (.con (.c (.imm (.sc (.int .i64 64))))),none⟩]) (.cond (.tmp 13) (.seq (.region none [⟨(some 2),.mv (.con (.c .nilM)),none⟩, ⟨(some 3),.mv (.con (.c (.imm (.sc (.int .i64 7))))),none⟩]) .ret) .skip)) (.seq (.region none [⟨(some 14),.mkmap (.int .i64),none⟩, ⟨(some 4),.mv (.tmp 14),none⟩]) (.seq (.seq (.region none [⟨(some 15),.fld 2 (.tmp 1),none⟩, ⟨(some 16),.load 1 false (.tmp 15),none⟩, ⟨(some 17),.lenS (.tmp 16),none⟩, ⟨(some 18),.mv (.con (.c (.imm (.sc (.int .i64 0))))),none⟩]) (.block 0 (.loop (.seq (.region none [⟨(some 19),.bin .lss (.tmp 18) (.tmp 17),none⟩]) (.seq (.cond (.tmp 19) .skip (.exit 0)) (.seq (.block 1 (.seq (.region none [⟨(some 20),.ixA 3 (.tmp 16) (.tmp 18),none⟩, ⟨(some 21),.load 3 true (.tmp 20),none⟩, ⟨(some 6),.alloc 54 [(.imm (.sc (.int .i64 0))),(.imm (.sc (.string ⟨#[]⟩))),(.imm (.sc (.int .i64 0)))],none⟩, ⟨none,.store 3 (.tmp 6) (.tmp 21),none⟩]) (.seq (.seq (.region none [⟨(some 22),.load 3 true (.tmp 6),none⟩, ⟨(some 23),.call 59 [(.tmp 22)],none⟩, ⟨(some 7),.mv (.tmp 23),none⟩]) (.seq (.region none [⟨(some 24),.mv (.tmp 7),none⟩, ⟨(some 25),.bin .neq (.tmp 24) (.con (.c (.imm (.sc (.int .i64 0))))),none⟩]) (.cond (.tmp 25) (.seq (.region none [⟨(some 26),.mv (.tmp 7),none⟩, ⟨(some 2),.mv (.con (.c .nilM)),none⟩, ⟨(some 3),.mv (.tmp 26),none⟩]) .ret) .skip))) (.seq (.seq (.region none [⟨(some 28),.mv (.tmp 4),none⟩, ⟨(some 29),.fld 0 (.tmp 6),none⟩, ⟨(some 30),.load 1 false (.tmp 29),none⟩, ⟨(some 31),.look (.int .i64) (.c (.imm (.sc (.string ⟨#[]⟩)))) true (.tmp 28) (.tmp 30),none⟩, ⟨(some 27),.mv (.tmp 31),none⟩, ⟨(some 32),.ext (.tmp 27) 0,none⟩, ⟨(some 33),.ext (.tmp 27) 1,none⟩, ⟨(some 8),.mv (.tmp 32),none⟩, ⟨(some 9),.mv (.tmp 33),none⟩]) (.seq (.region none [⟨(some 34),.mv (.tmp 9),none⟩]) (.cond (.tmp 34) (.seq (.region none [⟨(some 2),.mv (.con (.c .nilM)),none⟩, ⟨(some 3),.mv (.con (.c (.imm (.sc (.int .i64 4))))),none⟩]) .ret) .skip))) (.region none [⟨(some 35),.mv (.tmp 4),none⟩, ⟨(some 36),.fld 0 (.tmp 6),none⟩, ⟨(some 37),.load 1 false (.tmp 36),none⟩, ⟨(some 38),.fld 1 (.tmp 6),none⟩, ⟨(some 39),.load 1 false (.tmp 38),none⟩, ⟨none,.mupd (.int .i64) (.tmp 35) (.tmp 37) (.tmp 39),none⟩]))))) (.region none [⟨(some 40),.bin .add (.tmp 18) (.con (.c (.imm (.sc (.int .i64 1))))),none⟩, ⟨(some 18),.mv (.tmp 40),none⟩]))))))) (.seq (.region none [⟨(some 41),.mv (.tmp 4),none⟩, ⟨(some 2),.mv (.tmp 41),none⟩, ⟨(some 3),.mv (.con (.c (.imm (.sc (.int .i64 0))))),none⟩]) .ret)))))
theorem c27 : (Try.f27.body.bind fun c => cCode Try.prog 42 c) = some v27 := by kernel_rfl
def v18 : VC := (.seq (.region none [⟨(some 1),.box 23 (.tmp 0),none⟩, ⟨(some 2),.mv (.con (.c (.imm (.sc (.bool false))))),none⟩]) (.seq (.region none [⟨(some 3),.fld 0 (.tmp 1),none⟩, ⟨(some 4),.load 1 false (.tmp 3),none⟩, ⟨(some 5),.bin .geq (.tmp 4) (.con (.c (.imm (.sc (.int .i64 0))))),none⟩, ⟨(some 6),.mv (.tmp 5),none⟩, ⟨(some 7),.fld 0 (.tmp 1),(some (6,true))⟩, ⟨(some 8),.load 1 false (.tmp 7),(some (6,true))⟩, ⟨(some 9),.fld 1 (.tmp 1),(some (6,true))⟩, ⟨(some 10),.load 1 false (.tmp 9),(some (6,true))⟩, ⟨(some 11),.bin .lss (.tmp 8) (.tmp 10),(some (6,true))⟩, ⟨(some 12),.pick (.tmp 6) (.tmp 11) (.con (.c (.imm (.sc (.bool false))))),none⟩, ⟨(some 13),.mv (.tmp 12),none⟩, ⟨(some 14),.fld 1 (.tmp 1),(some (13,true))⟩, ⟨(some 15),.load 1 false (.tmp 14),(some (13,true))⟩, ⟨(some 16),.bin .leq (.tmp 15) (.con (.c (.imm (.sc (.int .i64 1000000000000))))),(some (13,true))⟩, ⟨(some 17),.pick (.tmp 13) (.tmp 16) (.con (.c (.imm (.sc (.bool false))))),none⟩, ⟨(some 2),.mv (.tmp 17),none⟩]) .ret))
theorem c18 : (Try.f18.body.bind fun c => cCode Try.prog 18 c) = some v18 := by kernel_rfl
def v86 : VC := (.seq (.region none [⟨(some 2),.mv (.con (.c (.imm (.sc (.bool false))))),none⟩]) (.seq (.region none [⟨(some 3),.mv (.tmp 0),none⟩, ⟨(some 4),.mv (.tmp 0),none⟩, ⟨(some 5),.bin .neq (.tmp 3) (.tmp 4),none⟩, ⟨(some 2),.mv (.tmp 5),none⟩]) .ret))
theorem c86 : (Try.f86.body.bind fun c => cCode Try.prog 6 c) = some v86 := by kernel_rfl
def v81 : VC := (.seq (.region none [⟨(some 4),.mv (.con (.c (.imm (.sc (.int .i64 0))))),none⟩]) (.seq (.region none [⟨(some 7),.mv (.tmp 0),none⟩, ⟨(some 8),.call 86 [(.tmp 7)],none⟩, ⟨(some 5),.mv (.tmp 8),none⟩]) (.seq (.region none [⟨(some 9),.mv (.tmp 1),none⟩, ⟨(some 10),.call 86 [(.tmp 9)],none⟩, ⟨(some 6),.mv (.tmp 10),none⟩]) (.seq (.seq (.region none [⟨(some 11),.mv (.tmp 5),none⟩]) (.cond (.tmp 11) (.seq (.seq (.region none [⟨(some 12),.mv (.tmp 6),none⟩]) (.cond (.tmp 12) (.seq (.region none [⟨(some 4),.mv (.con (.c (.imm (.sc (.int .i64 0))))),none⟩]) .ret) .skip)) (.seq (.region none [⟨(some 4),.mv (.con (.c (.imm (.sc (.int .i64 (-1)))))),none⟩]) .ret)) .skip)) (.seq (.seq (.region none [⟨(some 13),.mv (.tmp 6),none⟩]) (.cond (.tmp 13) (.seq (.region none [⟨(some 4),.mv (.con (.c (.imm (.sc (.int .i64 1))))),none⟩]) .ret) .skip)) (.seq (.seq (.region none [⟨(some 14),.mv (.tmp 0),none⟩, ⟨(some 15),.mv (.tmp 1),none⟩, ⟨(some 16),.bin .lss (.tmp 14) (.tmp 15),none⟩]) (.cond (.tmp 16) (.seq (.region none [⟨(some 4),.mv (.con (.c (.imm (.sc (.int .i64 (-1)))))),none⟩]) .ret) .skip)) (.seq (.seq (.region none [⟨(some 17),.mv (.tmp 0),none⟩, ⟨(some 18),.mv (.tmp 1),none⟩, ⟨(some 19),.bin .gtr (.tmp 17) (.tmp 18),none⟩]) (.cond (.tmp 19) (.seq (.region none [⟨(some 4),.mv (.con (.c (.imm (.sc (.int .i64 1))))),none⟩]) .ret) .skip)) (.seq (.region none [⟨(some 4),.mv (.con (.c (.imm (.sc (.int .i64 0))))),none⟩]) .ret))))))))
theorem c81 : (Try.f81.body.bind fun c => cCode Try.prog 20 c) = some v81 := by kernel_rfl
def v80 : VC := (.seq (.region none [⟨(some 2),.mv (.con (.c (.imm (.sc (.int .i64 0))))),none⟩]) (.seq (.region none [⟨(some 3),.mv (.con (.c (.imm (.sc (.int .i64 0))))),none⟩]) (.seq (.seq (.region none [⟨(some 6),.mv (.tmp 0),none⟩, ⟨(some 7),.lenS (.tmp 6),none⟩, ⟨(some 8),.mv (.con (.c (.imm (.sc (.int .i64 0))))),none⟩]) (.block 0 (.loop (.seq (.region none [⟨(some 9),.bin .lss (.tmp 8) (.tmp 7),none⟩]) (.seq (.cond (.tmp 9) .skip (.exit 0)) (.seq (.block 1 (.seq (.region none [⟨(some 10),.ixA 1 (.tmp 6) (.tmp 8),none⟩, ⟨(some 11),.load 1 false (.tmp 10),none⟩, ⟨(some 5),.mv (.tmp 11),none⟩]) (.seq (.region none [⟨(some 12),.mv (.tmp 5),none⟩, ⟨(some 13),.mv (.tmp 3),none⟩, ⟨(some 14),.bin .neq (.tmp 12) (.tmp 13),none⟩]) (.cond (.tmp 14) (.seq (.region none [⟨(some 15),.mv (.tmp 5),none⟩, ⟨(some 2),.mv (.tmp 15),none⟩]) .ret) .skip)))) (.region none [⟨(some 16),.bin .add (.tmp 8) (.con (.c (.imm (.sc (.int .i64 1))))),none⟩, ⟨(some 8),.mv (.tmp 16),none⟩]))))))) (.seq (.region none [⟨(some 17),.mv (.tmp 3),none⟩, ⟨(some 2),.mv (.tmp 17),none⟩]) .ret))))
theorem c80 : (Try.f80.body.bind fun c => cCode Try.prog 18 c) = some v80 := by kernel_rfl
def v61 : VC := (.seq (.region none [⟨(some 2),.box 71 (.tmp 0),none⟩, ⟨(some 3),.box 71 (.tmp 1),none⟩, ⟨(some 4),.mv (.con (.c (.imm (.sc (.int .i64 0))))),none⟩]) (.seq (.region (some [0,1,3,0,8,24,63,0,128,384,0,1024,3072,8191,0,16384,0,65536,262143,524287,1048575,2097151]) [⟨(some 5),.fld 4 (.tmp 2),none⟩, ⟨(some 6),.fld 0 (.tmp 5),none⟩, ⟨(some 7),.load 1 false (.tmp 6),none⟩, ⟨(some 8),.fld 4 (.tmp 3),none⟩, ⟨(some 9),.fld 0 (.tmp 8),none⟩, ⟨(some 10),.load 1 false (.tmp 9),none⟩, ⟨(some 11),.call 81 [(.tmp 7),(.tmp 10)],none⟩, ⟨(some 12),.fld 4 (.tmp 3),none⟩, ⟨(some 13),.fld 1 (.tmp 12),none⟩, ⟨(some 14),.load 1 false (.tmp 13),none⟩, ⟨(some 15),.fld 4 (.tmp 2),none⟩, ⟨(some 16),.fld 1 (.tmp 15),none⟩, ⟨(some 17),.load 1 false (.tmp 16),none⟩, ⟨(some 18),.call 81 [(.tmp 14),(.tmp 17)],none⟩, ⟨(some 19),.fld 0 (.tmp 2),none⟩, ⟨(some 20),.load 1 false (.tmp 19),none⟩, ⟨(some 21),.fld 0 (.tmp 3),none⟩, ⟨(some 22),.load 1 false (.tmp 21),none⟩, ⟨(some 23),.call 81 [(.tmp 20),(.tmp 22)],none⟩, ⟨(some 24),.bsl 3 1 3 [(.imm (.sc (.int .i64 0)))] [(0,1,(.tmp 11)),(1,1,(.tmp 18)),(2,1,(.tmp 23))],none⟩, ⟨(some 25),.call 80 [(.tmp 24)],none⟩, ⟨(some 4),.mv (.tmp 25),none⟩]) .ret))
theorem c61 : (Try.f61.body.bind fun c => cCode Try.prog 26 c) = some v61 := by kernel_rfl
def v62 : VC := (.seq (.region none [⟨(some 2),.mv (.con (.c (.imm (.sc (.bool false))))),none⟩]) (.seq (.seq (.region none [⟨(some 6),.mv (.tmp 0),none⟩, ⟨(some 7),.lenS (.tmp 6),none⟩, ⟨(some 8),.mv (.con (.c (.imm (.sc (.int .i64 0))))),none⟩]) (.block 0 (.loop (.seq (.region none [⟨(some 9),.bin .lss (.tmp 8) (.tmp 7),none⟩]) (.seq (.cond (.tmp 9) .skip (.exit 0)) (.seq (.block 1 (.seq (.region none [⟨(some 10),.mv (.tmp 8),none⟩, ⟨(some 11),.ixA 8 (.tmp 6) (.tmp 8),none⟩, ⟨(some 12),.load 8 true (.tmp 11),none⟩, ⟨(some 4),.alloc 71 [(.imm (.sc (.int .i64 0))),(.imm (.sc (.int .i64 0))),(.imm (.sc (.int .i64 0))),(.imm (.sc (.string ⟨#[]⟩))),(.imm (.sc (.int .i64 0))),(.imm (.sc (.int .i64 0))),(.imm (.sc (.int .i64 0))),(.imm (.sc (.bool false)))],none⟩, ⟨(some 3),.mv (.tmp 10),none⟩, ⟨none,.store 8 (.tmp 4) (.tmp 12),none⟩]) (.block 2 (.seq (.region none [⟨(some 50),.fld 1 (.tmp 4),none⟩, ⟨(some 51),.load 1 false (.tmp 50),none⟩, ⟨(some 52),.bin .lss (.tmp 51) (.con (.c (.imm (.sc (.int .i64 (-1)))))),none⟩, ⟨(some 53),.mv (.tmp 52),none⟩, ⟨(some 54),.fld 1 (.tmp 4),(some (53,false))⟩, ⟨(some 55),.load 1 false (.tmp 54),(some (53,false))⟩, ⟨(some 56),.mv (.tmp 3),(some (53,false))⟩, ⟨(some 57),.bin .geq (.tmp 55) (.tmp 56),(some (53,false))⟩, ⟨(some 58),.pick (.tmp 53) (.con (.c (.imm (.sc (.bool true))))) (.tmp 57),none⟩, ⟨(some 49),.mv (.tmp 58),none⟩]) (.cond (.tmp 49) (.seq (.region none [⟨(some 2),.mv (.con (.c (.imm (.sc (.bool false))))),none⟩]) .ret) (.seq (.region none [⟨(some 60),.fld 1 (.tmp 4),none⟩, ⟨(some 61),.load 1 false (.tmp 60),none⟩, ⟨(some 62),.bin .eql (.tmp 61) (.con (.c (.imm (.sc (.int .i64 (-1)))))),none⟩, ⟨(some 59),.mv (.tmp 62),none⟩]) (.cond (.tmp 59) (.seq (.region none [⟨(some 63),.fld 2 (.tmp 4),none⟩, ⟨(some 64),.load 1 false (.tmp 63),none⟩, ⟨(some 65),.bin .neq (.tmp 64) (.con (.c (.imm (.sc (.int .i64 0))))),none⟩]) (.cond (.tmp 65) (.seq (.region none [⟨(some 2),.mv (.con (.c (.imm (.sc (.bool false))))),none⟩]) .ret) .skip)) (.seq (.region none [⟨(some 13),.mv (.tmp 0),none⟩, ⟨(some 14),.fld 1 (.tmp 4),none⟩, ⟨(some 15),.load 1 false (.tmp 14),none⟩, ⟨(some 16),.ixA 8 (.tmp 13) (.tmp 15),none⟩, ⟨(some 17),.load 8 true (.tmp 16),none⟩, ⟨(some 5),.alloc 71 [(.imm (.sc (.int .i64 0))),(.imm (.sc (.int .i64 0))),(.imm (.sc (.int .i64 0))),(.imm (.sc (.string ⟨#[]⟩))),(.imm (.sc (.int .i64 0))),(.imm (.sc (.int .i64 0))),(.imm (.sc (.int .i64 0))),(.imm (.sc (.bool false)))],none⟩, ⟨none,.store 8 (.tmp 5) (.tmp 17),none⟩]) (.seq (.region none [⟨(some 18),.fld 0 (.tmp 5),none⟩, ⟨(some 19),.load 1 false (.tmp 18),none⟩, ⟨(some 20),.fld 0 (.tmp 4),none⟩, ⟨(some 21),.load 1 false (.tmp 20),none⟩, ⟨(some 22),.bin .neq (.tmp 19) (.tmp 21),none⟩, ⟨(some 23),.mv (.tmp 22),none⟩, ⟨(some 24),.fld 4 (.tmp 5),(some (23,false))⟩, ⟨(some 25),.fld 0 (.tmp 24),(some (23,false))⟩, ⟨(some 26),.load 1 false (.tmp 25),(some (23,false))⟩, ⟨(some 27),.fld 4 (.tmp 4),(some (23,false))⟩, ⟨(some 28),.fld 0 (.tmp 27),(some (23,false))⟩, ⟨(some 29),.load 1 false (.tmp 28),(some (23,false))⟩, ⟨(some 30),.bin .gtr (.tmp 26) (.tmp 29),(some (23,false))⟩, ⟨(some 31),.pick (.tmp 23) (.con (.c (.imm (.sc (.bool true))))) (.tmp 30),none⟩, ⟨(some 32),.mv (.tmp 31),none⟩, ⟨(some 33),.fld 4 (.tmp 5),(some (32,false))⟩, ⟨(some 34),.fld 1 (.tmp 33),(some (32,false))⟩, ⟨(some 35),.load 1 false (.tmp 34),(some (32,false))⟩, ⟨(some 36),.fld 4 (.tmp 4),(some (32,false))⟩, ⟨(some 37),.fld 1 (.tmp 36),(some (32,false))⟩, ⟨(some 38),.load 1 false (.tmp 37),(some (32,false))⟩, ⟨(some 39),.bin .lss (.tmp 35) (.tmp 38),(some (32,false))⟩, ⟨(some 40),.pick (.tmp 32) (.con (.c (.imm (.sc (.bool true))))) (.tmp 39),none⟩, ⟨(some 41),.mv (.tmp 40),none⟩, ⟨(some 42),.fld 2 (.tmp 4),(some (41,false))⟩, ⟨(some 43),.load 1 false (.tmp 42),(some (41,false))⟩, ⟨(some 44),.fld 2 (.tmp 5),(some (41,false))⟩, ⟨(some 45),.load 1 false (.tmp 44),(some (41,false))⟩, ⟨(some 46),.bin .add (.tmp 45) (.con (.c (.imm (.sc (.int .i64 1))))),(some (41,false))⟩, ⟨(some 47),.bin .neq (.tmp 43) (.tmp 46),(some (41,false))⟩, ⟨(some 48),.pick (.tmp 41) (.con (.c (.imm (.sc (.bool true))))) (.tmp 47),none⟩]) (.cond (.tmp 48) (.seq (.region none [⟨(some 2),.mv (.con (.c (.imm (.sc (.bool false))))),none⟩]) .ret) .skip)))))))))) (.region none [⟨(some 66),.bin .add (.tmp 8) (.con (.c (.imm (.sc (.int .i64 1))))),none⟩, ⟨(some 8),.mv (.tmp 66),none⟩]))))))) (.seq (.region none [⟨(some 2),.mv (.con (.c (.imm (.sc (.bool true))))),none⟩]) .ret)))
theorem c62 : (Try.f62.body.bind fun c => cCode Try.prog 67 c) = some v62 := by kernel_rfl
def v82 : VC := (.seq (.region none [⟨(some 6),.mv (.con (.c (.imm (.sc (.bool false))))),none⟩]) (.seq (.block 0 (.loop (.seq (.seq (.region none [⟨(some 7),.mv (.tmp 2),none⟩, ⟨(some 8),.bin .geq (.tmp 7) (.con (.c (.imm (.sc (.int .i64 0))))),none⟩]) (.cond (.tmp 8) .skip (.exit 0))) (.seq (.block 1 (.seq (.region none [⟨(some 14),.mv (.tmp 1),none⟩, ⟨(some 15),.mv (.tmp 2),none⟩, ⟨(some 16),.bin .eql (.tmp 14) (.tmp 15),none⟩]) (.cond (.tmp 16) (.seq (.region none [⟨(some 6),.mv (.con (.c (.imm (.sc (.bool true))))),none⟩]) .ret) .skip))) (.region none [⟨(some 9),.mv (.tmp 0),none⟩, ⟨(some 10),.mv (.tmp 2),none⟩, ⟨(some 11),.ixA 8 (.tmp 9) (.tmp 10),none⟩, ⟨(some 12),.fld 1 (.tmp 11),none⟩, ⟨(some 13),.load 1 false (.tmp 12),none⟩, ⟨(some 2),.mv (.tmp 13),none⟩]))))) (.seq (.region none [⟨(some 6),.mv (.con (.c (.imm (.sc (.bool false))))),none⟩]) .ret)))
theorem c82 : (Try.f82.body.bind fun c => cCode Try.prog 17 c) = some v82 := by kernel_rfl
def v63 : VC := (.seq (.region none [⟨(some 2),.mv (.con (.c (.imm (.sc (.bool false))))),none⟩]) (.seq (.seq (.region none [⟨(some 8),.mv (.tmp 0),none⟩, ⟨(some 9),.lenS (.tmp 8),none⟩, ⟨(some 10),.mv (.con (.c (.imm (.sc (.int .i64 0))))),none⟩]) (.block 0 (.loop (.seq (.region none [⟨(some 11),.bin .lss (.tmp 10) (.tmp 9),none⟩]) (.seq (.cond (.tmp 11) .skip (.exit 0)) (.seq (.block 1 (.seq (.region none [⟨(some 12),.mv (.tmp 10),none⟩, ⟨(some 13),.ixA 8 (.tmp 8) (.tmp 10),none⟩, ⟨(some 14),.load 8 true (.tmp 13),none⟩, ⟨(some 4),.alloc 71 [(.imm (.sc (.int .i64 0))),(.imm (.sc (.int .i64 0))),(.imm (.sc (.int .i64 0))),(.imm (.sc (.string ⟨#[]⟩))),(.imm (.sc (.int .i64 0))),(.imm (.sc (.int .i64 0))),(.imm (.sc (.int .i64 0))),(.imm (.sc (.bool false)))],none⟩, ⟨(some 3),.mv (.tmp 12),none⟩, ⟨none,.store 8 (.tmp 4) (.tmp 14),none⟩]) (.seq (.region none [⟨(some 15),.fld 4 (.tmp 4),none⟩, ⟨(some 16),.fld 1 (.tmp 15),none⟩, ⟨(some 17),.load 1 false (.tmp 16),none⟩, ⟨(some 18),.fld 4 (.tmp 4),none⟩, ⟨(some 19),.fld 0 (.tmp 18),none⟩, ⟨(some 20),.load 1 false (.tmp 19),none⟩, ⟨(some 21),.bin .sub (.tmp 17) (.tmp 20),none⟩, ⟨(some 5),.mv (.tmp 21),none⟩]) (.seq (.seq (.region none [⟨(some 22),.mv (.tmp 0),none⟩, ⟨(some 23),.lenS (.tmp 22),none⟩, ⟨(some 24),.mv (.con (.c (.imm (.sc (.int .i64 0))))),none⟩]) (.block 2 (.loop (.seq (.region none [⟨(some 25),.bin .lss (.tmp 24) (.tmp 23),none⟩]) (.seq (.cond (.tmp 25) .skip (.exit 2)) (.seq (.block 3 (.seq (.region none [⟨(some 26),.mv (.tmp 24),none⟩, ⟨(some 27),.ixA 8 (.tmp 22) (.tmp 24),none⟩, ⟨(some 28),.load 8 true (.tmp 27),none⟩, ⟨(some 7),.alloc 71 [(.imm (.sc (.int .i64 0))),(.imm (.sc (.int .i64 0))),(.imm (.sc (.int .i64 0))),(.imm (.sc (.string ⟨#[]⟩))),(.imm (.sc (.int .i64 0))),(.imm (.sc (.int .i64 0))),(.imm (.sc (.int .i64 0))),(.imm (.sc (.bool false)))],none⟩, ⟨(some 6),.mv (.tmp 26),none⟩, ⟨none,.store 8 (.tmp 7) (.tmp 28),none⟩]) (.seq (.seq (.region none [⟨(some 29),.fld 1 (.tmp 7),none⟩, ⟨(some 30),.load 1 false (.tmp 29),none⟩, ⟨(some 31),.mv (.tmp 3),none⟩, ⟨(some 32),.bin .eql (.tmp 30) (.tmp 31),none⟩]) (.cond (.tmp 32) (.region none [⟨(some 33),.mv (.tmp 5),none⟩, ⟨(some 34),.fld 4 (.tmp 7),none⟩, ⟨(some 35),.fld 1 (.tmp 34),none⟩, ⟨(some 36),.load 1 false (.tmp 35),none⟩, ⟨(some 37),.fld 4 (.tmp 7),none⟩, ⟨(some 38),.fld 0 (.tmp 37),none⟩, ⟨(some 39),.load 1 false (.tmp 38),none⟩, ⟨(some 40),.bin .sub (.tmp 36) (.tmp 39),none⟩, ⟨(some 41),.bin .sub (.tmp 33) (.tmp 40),none⟩, ⟨(some 5),.mv (.tmp 41),none⟩]) .skip)) (.seq (.region none [⟨(some 42),.mv (.tmp 6),none⟩, ⟨(some 43),.mv (.tmp 3),none⟩, ⟨(some 44),.bin .lss (.tmp 42) (.tmp 43),none⟩, ⟨(some 45),.mv (.tmp 44),none⟩, ⟨(some 46),.fld 0 (.tmp 7),(some (45,true))⟩, ⟨(some 47),.load 1 false (.tmp 46),(some (45,true))⟩, ⟨(some 48),.fld 0 (.tmp 4),(some (45,true))⟩, ⟨(some 49),.load 1 false (.tmp 48),(some (45,true))⟩, ⟨(some 50),.bin .eql (.tmp 47) (.tmp 49),(some (45,true))⟩, ⟨(some 51),.pick (.tmp 45) (.tmp 50) (.con (.c (.imm (.sc (.bool false))))),none⟩, ⟨(some 52),.mv (.tmp 51),none⟩, ⟨(some 53),.fld 4 (.tmp 7),(some (52,true))⟩, ⟨(some 54),.fld 1 (.tmp 53),(some (52,true))⟩, ⟨(some 55),.load 1 false (.tmp 54),(some (52,true))⟩, ⟨(some 56),.fld 4 (.tmp 4),(some (52,true))⟩, ⟨(some 57),.fld 0 (.tmp 56),(some (52,true))⟩, ⟨(some 58),.load 1 false (.tmp 57),(some (52,true))⟩, ⟨(some 59),.bin .gtr (.tmp 55) (.tmp 58),(some (52,true))⟩, ⟨(some 60),.pick (.tmp 52) (.tmp 59) (.con (.c (.imm (.sc (.bool false))))),none⟩, ⟨(some 61),.mv (.tmp 60),none⟩, ⟨(some 62),.fld 4 (.tmp 4),(some (61,true))⟩, ⟨(some 63),.fld 1 (.tmp 62),(some (61,true))⟩, ⟨(some 64),.load 1 false (.tmp 63),(some (61,true))⟩, ⟨(some 65),.fld 4 (.tmp 7),(some (61,true))⟩, ⟨(some 66),.fld 0 (.tmp 65),(some (61,true))⟩, ⟨(some 67),.load 1 false (.tmp 66),(some (61,true))⟩, ⟨(some 68),.bin .gtr (.tmp 64) (.tmp 67),(some (61,true))⟩, ⟨(some 69),.pick (.tmp 61) (.tmp 68) (.con (.c (.imm (.sc (.bool false))))),none⟩, ⟨(some 70),.mv (.tmp 69),none⟩, ⟨(some 71),.mv (.tmp 0),(some (70,true))⟩, ⟨(some 72),.mv (.tmp 6),(some (70,true))⟩, ⟨(some 73),.mv (.tmp 3),(some (70,true))⟩, ⟨(some 74),.call 82 [(.tmp 71),(.tmp 72),(.tmp 73)],(some (70,true))⟩, ⟨(some 75),.un .not (.tmp 74),(some (70,true))⟩, ⟨(some 76),.pick (.tmp 70) (.tmp 75) (.con (.c (.imm (.sc (.bool false))))),none⟩]) (.cond (.tmp 76) (.seq (.region none [⟨(some 2),.mv (.con (.c (.imm (.sc (.bool false))))),none⟩]) .ret) .skip))))) (.region none [⟨(some 77),.bin .add (.tmp 24) (.con (.c (.imm (.sc (.int .i64 1))))),none⟩, ⟨(some 24),.mv (.tmp 77),none⟩]))))))) (.seq (.region none [⟨(some 78),.fld 6 (.tmp 4),none⟩, ⟨(some 79),.load 1 false (.tmp 78),none⟩, ⟨(some 80),.mv (.tmp 5),none⟩, ⟨(some 81),.bin .neq (.tmp 79) (.tmp 80),none⟩]) (.cond (.tmp 81) (.seq (.region none [⟨(some 2),.mv (.con (.c (.imm (.sc (.bool false))))),none⟩]) .ret) .skip)))))) (.region none [⟨(some 82),.bin .add (.tmp 10) (.con (.c (.imm (.sc (.int .i64 1))))),none⟩, ⟨(some 10),.mv (.tmp 82),none⟩]))))))) (.seq (.region none [⟨(some 2),.mv (.con (.c (.imm (.sc (.bool true))))),none⟩]) .ret)))
theorem c63 : (Try.f63.body.bind fun c => cCode Try.prog 83 c) = some v63 := by kernel_rfl
def v29 : VC := (.seq (.region none [⟨(some 2),.mv (.con (.c (.imm (.sc (.int .i64 0))))),none⟩]) (.seq (.seq (.region none [⟨(some 6),.mv (.tmp 0),none⟩, ⟨(some 7),.lenS (.tmp 6),none⟩, ⟨(some 8),.mv (.con (.c (.imm (.sc (.int .i64 0))))),none⟩]) (.block 0 (.loop (.seq (.region none [⟨(some 9),.bin .lss (.tmp 8) (.tmp 7),none⟩]) (.seq (.cond (.tmp 9) .skip (.exit 0)) (.seq (.block 1 (.seq (.region none [⟨(some 10),.mv (.tmp 8),none⟩, ⟨(some 11),.ixA 8 (.tmp 6) (.tmp 8),none⟩, ⟨(some 12),.load 8 true (.tmp 11),none⟩, ⟨(some 4),.alloc 71 [(.imm (.sc (.int .i64 0))),(.imm (.sc (.int .i64 0))),(.imm (.sc (.int .i64 0))),(.imm (.sc (.string ⟨#[]⟩))),(.imm (.sc (.int .i64 0))),(.imm (.sc (.int .i64 0))),(.imm (.sc (.int .i64 0))),(.imm (.sc (.bool false)))],none⟩, ⟨(some 3),.mv (.tmp 10),none⟩, ⟨none,.store 8 (.tmp 4) (.tmp 12),none⟩]) (.seq (.seq (.region none [⟨(some 13),.fld 0 (.tmp 4),none⟩, ⟨(some 14),.load 1 false (.tmp 13),none⟩, ⟨(some 15),.bin .lss (.tmp 14) (.con (.c (.imm (.sc (.int .i64 0))))),none⟩, ⟨(some 16),.mv (.tmp 15),none⟩, ⟨(some 17),.fld 0 (.tmp 4),(some (16,false))⟩, ⟨(some 18),.load 1 false (.tmp 17),(some (16,false))⟩, ⟨(some 19),.bin .gtr (.tmp 18) (.con (.c (.imm (.sc (.int .i64 1000000000000000))))),(some (16,false))⟩, ⟨(some 20),.pick (.tmp 16) (.con (.c (.imm (.sc (.bool true))))) (.tmp 19),none⟩, ⟨(some 21),.mv (.tmp 20),none⟩, ⟨(some 22),.fld 4 (.tmp 4),(some (21,false))⟩, ⟨(some 23),.load 2 true (.tmp 22),(some (21,false))⟩, ⟨(some 24),.call 18 [(.tmp 23)],(some (21,false))⟩, ⟨(some 25),.un .not (.tmp 24),(some (21,false))⟩, ⟨(some 26),.pick (.tmp 21) (.con (.c (.imm (.sc (.bool true))))) (.tmp 25),none⟩]) (.cond (.tmp 26) (.seq (.region none [⟨(some 2),.mv (.con (.c (.imm (.sc (.int .i64 2))))),none⟩]) .ret) .skip)) (.seq (.seq (.region none [⟨(some 27),.fld 3 (.tmp 4),none⟩, ⟨(some 28),.load 1 false (.tmp 27),none⟩, ⟨(some 29),.call 60 [(.tmp 28)],none⟩, ⟨(some 5),.mv (.tmp 29),none⟩]) (.seq (.region none [⟨(some 30),.mv (.tmp 5),none⟩, ⟨(some 31),.bin .neq (.tmp 30) (.con (.c (.imm (.sc (.int .i64 0))))),none⟩]) (.cond (.tmp 31) (.seq (.region none [⟨(some 32),.mv (.tmp 5),none⟩, ⟨(some 2),.mv (.tmp 32),none⟩]) .ret) .skip))) (.seq (.region (some [0,1,3,7,7,23,63,127,7,511,1023,2047]) [⟨(some 33),.mv (.tmp 3),none⟩, ⟨(some 34),.bin .gtr (.tmp 33) (.con (.c (.imm (.sc (.int .i64 0))))),none⟩, ⟨(some 35),.mv (.tmp 34),none⟩, ⟨(some 36),.mv (.tmp 0),(some (35,true))⟩, ⟨(some 37),.mv (.tmp 3),(some (35,true))⟩, ⟨(some 38),.bin .sub (.tmp 37) (.con (.c (.imm (.sc (.int .i64 1))))),(some (35,true))⟩, ⟨(some 39),.ixA 8 (.tmp 36) (.tmp 38),(some (35,true))⟩, ⟨(some 40),.load 8 true (.tmp 39),(some (35,true))⟩, ⟨(some 41),.load 8 true (.tmp 4),(some (35,true))⟩, ⟨(some 42),.call 61 [(.tmp 40),(.tmp 41)],(some (35,true))⟩, ⟨(some 43),.bin .gtr (.tmp 42) (.con (.c (.imm (.sc (.int .i64 0))))),(some (35,true))⟩, ⟨(some 44),.pick (.tmp 35) (.tmp 43) (.con (.c (.imm (.sc (.bool false))))),none⟩]) (.cond (.tmp 44) (.seq (.region none [⟨(some 2),.mv (.con (.c (.imm (.sc (.int .i64 11))))),none⟩]) .ret) .skip)))))) (.region none [⟨(some 45),.bin .add (.tmp 8) (.con (.c (.imm (.sc (.int .i64 1))))),none⟩, ⟨(some 8),.mv (.tmp 45),none⟩]))))))) (.seq (.seq (.region none [⟨(some 46),.mv (.tmp 0),none⟩, ⟨(some 47),.call 62 [(.tmp 46)],none⟩, ⟨(some 48),.un .not (.tmp 47),none⟩, ⟨(some 49),.mv (.tmp 48),none⟩, ⟨(some 50),.mv (.tmp 0),(some (49,false))⟩, ⟨(some 51),.call 63 [(.tmp 50)],(some (49,false))⟩, ⟨(some 52),.un .not (.tmp 51),(some (49,false))⟩, ⟨(some 53),.pick (.tmp 49) (.con (.c (.imm (.sc (.bool true))))) (.tmp 52),none⟩]) (.cond (.tmp 53) (.seq (.region none [⟨(some 2),.mv (.con (.c (.imm (.sc (.int .i64 10))))),none⟩]) .ret) .skip)) (.seq (.region none [⟨(some 2),.mv (.con (.c (.imm (.sc (.int .i64 0))))),none⟩]) .ret))))
theorem c29 : (Try.f29.body.bind fun c => cCode Try.prog 54 c) = some v29 := by kernel_rfl
def v30 : VC := (.seq (.region none [⟨(some 1),.box 71 (.tmp 0),none⟩, ⟨(some 2),.mv (.con (.c (.imm (.sc (.int .i64 0))))),none⟩]) (.seq (.region none [⟨(some 3),.fld 0 (.tmp 1),none⟩, ⟨(some 4),.load 1 false (.tmp 3),none⟩, ⟨(some 2),.mv (.tmp 4),none⟩]) .ret))
theorem c30 : (Try.f30.body.bind fun c => cCode Try.prog 5 c) = some v30 := by kernel_rfl
def v28 : VC := (.seq (.region none [⟨(some 8),.mv (.con (.c (.imm (.sc (.int .i64 0))))),none⟩]) (.seq (.seq (.region none [⟨(some 13),.mv (.tmp 0),none⟩, ⟨(some 14),.bin .neq (.tmp 13) (.con (.c (.imm (.sc (.int .i64 0))))),none⟩]) (.cond (.tmp 14) (.seq (.region none [⟨(some 15),.mv (.tmp 0),none⟩, ⟨(some 8),.mv (.tmp 15),none⟩]) .ret) .skip)) (.seq (.seq (.region none [⟨(some 16),.mv (.tmp 2),none⟩, ⟨(some 17),.lenS (.tmp 16),none⟩, ⟨(some 18),.mv (.con (.c (.imm (.sc (.int .i64 0))))),none⟩]) (.block 0 (.loop (.seq (.region none [⟨(some 19),.bin .lss (.tmp 18) (.tmp 17),none⟩]) (.seq (.cond (.tmp 19) .skip (.exit 0)) (.seq (.block 1 (.seq (.region none [⟨(some 20),.ixA 8 (.tmp 16) (.tmp 18),none⟩, ⟨(some 21),.load 8 true (.tmp 20),none⟩, ⟨(some 10),.alloc 71 [(.imm (.sc (.int .i64 0))),(.imm (.sc (.int .i64 0))),(.imm (.sc (.int .i64 0))),(.imm (.sc (.string ⟨#[]⟩))),(.imm (.sc (.int .i64 0))),(.imm (.sc (.int .i64 0))),(.imm (.sc (.int .i64 0))),(.imm (.sc (.bool false)))],none⟩, ⟨none,.store 8 (.tmp 10) (.tmp 21),none⟩]) (.seq (.region none [⟨(some 23),.mv (.tmp 1),none⟩, ⟨(some 24),.mv (.tmp 3),none⟩, ⟨(some 25),.load 8 true (.tmp 10),none⟩, ⟨(some 26),.callv (.tmp 24) [(.tmp 25)],none⟩, ⟨(some 27),.look (.int .i64) (.c (.imm (.sc (.string ⟨#[]⟩)))) true (.tmp 23) (.tmp 26),none⟩, ⟨(some 22),.mv (.tmp 27),none⟩, ⟨(some 28),.ext (.tmp 22) 0,none⟩, ⟨(some 29),.ext (.tmp 22) 1,none⟩, ⟨(some 11),.mv (.tmp 28),none⟩, ⟨(some 12),.mv (.tmp 29),none⟩]) (.seq (.region none [⟨(some 30),.mv (.tmp 12),none⟩, ⟨(some 31),.un .not (.tmp 30),none⟩]) (.cond (.tmp 31) (.seq (.region none [⟨(some 8),.mv (.con (.c (.imm (.sc (.int .i64 5))))),none⟩]) .ret) .skip))))) (.region none [⟨(some 32),.bin .add (.tmp 18) (.con (.c (.imm (.sc (.int .i64 1))))),none⟩, ⟨(some 18),.mv (.tmp 32),none⟩]))))))) (.seq (.region none [⟨(some 8),.mv (.con (.c (.imm (.sc (.int .i64 0))))),none⟩]) .ret))))
theorem c28 : (Try.f28.body.bind fun c => cCode Try.prog 33 c) = some v28 := by kernel_rfl
def v65 : VC := (.seq (.region none [⟨(some 4),.mv (.con (.c (.imm (.sc (.int .i64 0))))),none⟩]) (.seq (.seq (.region none [⟨(some 6),.mv (.tmp 0),none⟩, ⟨(some 7),.lenS (.tmp 6),none⟩, ⟨(some 8),.mv (.con (.c (.imm (.sc (.int .i64 0))))),none⟩]) (.block 0 (.loop (.seq (.region none [⟨(some 9),.bin .lss (.tmp 8) (.tmp 7),none⟩]) (.seq (.cond (.tmp 9) .skip (.exit 0)) (.seq (.block 1 (.seq (.region none [⟨(some 10),.mv (.tmp 8),none⟩, ⟨(some 5),.mv (.tmp 10),none⟩]) (.seq (.region none [⟨(some 11),.mv (.tmp 1),none⟩, ⟨(some 12),.mv (.tmp 0),none⟩, ⟨(some 13),.mv (.tmp 5),none⟩, ⟨(some 14),.ixA 1 (.tmp 12) (.tmp 13),none⟩, ⟨(some 15),.load 1 false (.tmp 14),none⟩, ⟨(some 16),.bin .eql (.tmp 11) (.tmp 15),none⟩]) (.cond (.tmp 16) (.seq (.region none [⟨(some 17),.mv (.tmp 5),none⟩, ⟨(some 4),.mv (.tmp 17),none⟩]) .ret) .skip)))) (.region none [⟨(some 18),.bin .add (.tmp 8) (.con (.c (.imm (.sc (.int .i64 1))))),none⟩, ⟨(some 8),.mv (.tmp 18),none⟩]))))))) (.seq (.region none [⟨(some 4),.mv (.con (.c (.imm (.sc (.int .i64 (-1)))))),none⟩]) .ret)))
theorem c65 : (Try.f65.body.bind fun c => cCode Try.prog 19 c) = some v65 := by kernel_rfl
def v83 : VC := (.seq (.region none [⟨(some 4),.mv (.con (.c (.imm (.sc (.bool false))))),none⟩]) (.seq (.region none [⟨(some 5),.mv (.tmp 0),none⟩, ⟨(some 6),.mv (.tmp 1),none⟩, ⟨(some 7),.call 65 [(.tmp 5),(.tmp 6)],none⟩, ⟨(some 8),.bin .geq (.tmp 7) (.con (.c (.imm (.sc (.int .i64 0))))),none⟩, ⟨(some 4),.mv (.tmp 8),none⟩]) .ret))
theorem c83 : (Try.f83.body.bind fun c => cCode Try.prog 9 c) = some v83 := by kernel_rfl
def v64 : VC := (.seq (.region none [⟨(some 2),.mv (.con (.c .nilS)),none⟩]) (.seq (.region none [⟨(some 3),.mv (.con (.c .nilS)),none⟩]) (.seq (.seq (.region none [⟨(some 6),.mv (.tmp 0),none⟩, ⟨(some 7),.lenS (.tmp 6),none⟩, ⟨(some 8),.mv (.con (.c (.imm (.sc (.int .i64 0))))),none⟩]) (.block 0 (.loop (.seq (.region none [⟨(some 9),.bin .lss (.tmp 8) (.tmp 7),none⟩]) (.seq (.cond (.tmp 9) .skip (.exit 0)) (.seq (.block 1 (.seq (.region none [⟨(some 10),.ixA 3 (.tmp 6) (.tmp 8),none⟩, ⟨(some 11),.load 3 true (.tmp 10),none⟩, ⟨(some 5),.alloc 54 [(.imm (.sc (.int .i64 0))),(.imm (.sc (.string ⟨#[]⟩))),(.imm (.sc (.int .i64 0)))],none⟩, ⟨none,.store 3 (.tmp 5) (.tmp 11),none⟩]) (.seq (.region none [⟨(some 12),.mv (.tmp 3),none⟩, ⟨(some 13),.fld 0 (.tmp 5),none⟩, ⟨(some 14),.load 1 false (.tmp 13),none⟩, ⟨(some 15),.call 83 [(.tmp 12),(.tmp 14)],none⟩, ⟨(some 16),.un .not (.tmp 15),none⟩]) (.cond (.tmp 16) (.region none [⟨(some 17),.mv (.tmp 3),none⟩, ⟨(some 18),.fld 0 (.tmp 5),none⟩, ⟨(some 19),.load 1 false (.tmp 18),none⟩, ⟨(some 20),.bsl 3 1 1 [(.imm (.sc (.int .i64 0)))] [(0,1,(.tmp 19))],none⟩, ⟨(some 21),.app 3 1 8 (.tmp 17) (.tmp 20),none⟩, ⟨(some 3),.mv (.tmp 21),none⟩]) .skip)))) (.region none [⟨(some 22),.bin .add (.tmp 8) (.con (.c (.imm (.sc (.int .i64 1))))),none⟩, ⟨(some 8),.mv (.tmp 22),none⟩]))))))) (.seq (.region none [⟨(some 23),.mv (.tmp 3),none⟩, ⟨(some 2),.mv (.tmp 23),none⟩]) .ret))))
theorem c64 : (Try.f64.body.bind fun c => cCode Try.prog 24 c) = some v64 := by kernel_rfl
def v66 : VC := (.seq (.region none [⟨(some 1),.box 37 (.tmp 0),none⟩, ⟨(some 2),.mv (.con (.c (.imm (.sc (.bool false))))),none⟩]) (.seq (.region none [⟨(some 4),.fld 1 (.tmp 1),none⟩, ⟨(some 5),.load 1 false (.tmp 4),none⟩, ⟨(some 6),.bin .eql (.tmp 5) (.con (.c (.imm (.sc (.int .i64 1))))),none⟩, ⟨(some 7),.mv (.tmp 6),none⟩, ⟨(some 8),.fld 1 (.tmp 1),(some (7,false))⟩, ⟨(some 9),.load 1 false (.tmp 8),(some (7,false))⟩, ⟨(some 10),.bin .eql (.tmp 9) (.con (.c (.imm (.sc (.int .i64 2))))),(some (7,false))⟩, ⟨(some 11),.pick (.tmp 7) (.con (.c (.imm (.sc (.bool true))))) (.tmp 10),none⟩, ⟨(some 3),.mv (.tmp 11),none⟩]) (.seq (.block 0 (.seq (.region none [⟨(some 13),.fld 1 (.tmp 1),none⟩, ⟨(some 14),.load 1 false (.tmp 13),none⟩, ⟨(some 15),.bin .lss (.tmp 14) (.con (.c (.imm (.sc (.int .i64 0))))),none⟩, ⟨(some 16),.mv (.tmp 15),none⟩, ⟨(some 17),.fld 1 (.tmp 1),(some (16,false))⟩, ⟨(some 18),.load 1 false (.tmp 17),(some (16,false))⟩, ⟨(some 19),.bin .gtr (.tmp 18) (.con (.c (.imm (.sc (.int .i64 5))))),(some (16,false))⟩, ⟨(some 20),.pick (.tmp 16) (.con (.c (.imm (.sc (.bool true))))) (.tmp 19),none⟩, ⟨(some 12),.mv (.tmp 20),none⟩]) (.cond (.tmp 12) (.seq (.region none [⟨(some 2),.mv (.con (.c (.imm (.sc (.bool false))))),none⟩]) .ret) (.seq (.seq (.region none [⟨(some 22),.fld 1 (.tmp 1),none⟩, ⟨(some 23),.load 1 false (.tmp 22),none⟩, ⟨(some 24),.bin .eql (.tmp 23) (.con (.c (.imm (.sc (.int .i64 4))))),none⟩, ⟨(some 25),.mv (.tmp 24),none⟩, ⟨(some 26),.fld 4 (.tmp 1),(some (25,true))⟩, ⟨(some 27),.load 1 false (.tmp 26),(some (25,true))⟩, ⟨(some 28),.bin .lss (.tmp 27) (.con (.c (.imm (.sc (.int .i64 0))))),(some (25,true))⟩, ⟨(some 29),.mv (.tmp 28),(some (25,true))⟩, ⟨(some 30),.fld 4 (.tmp 1),(some (29,false))⟩, ⟨(some 31),.load 1 false (.tmp 30),(some (29,false))⟩, ⟨(some 32),.bin .geq (.tmp 31) (.con (.c (.imm (.sc (.int .i64 64))))),(some (29,false))⟩, ⟨(some 33),.pick (.tmp 29) (.con (.c (.imm (.sc (.bool true))))) (.tmp 32),(some (25,true))⟩, ⟨(some 34),.pick (.tmp 25) (.tmp 33) (.con (.c (.imm (.sc (.bool false))))),none⟩, ⟨(some 21),.mv (.tmp 34),none⟩]) (.cond (.tmp 21) .skip (.region none [⟨(some 35),.fld 1 (.tmp 1),none⟩, ⟨(some 36),.load 1 false (.tmp 35),none⟩, ⟨(some 37),.bin .neq (.tmp 36) (.con (.c (.imm (.sc (.int .i64 4))))),none⟩, ⟨(some 38),.mv (.tmp 37),none⟩, ⟨(some 39),.fld 4 (.tmp 1),(some (38,true))⟩, ⟨(some 40),.load 1 false (.tmp 39),(some (38,true))⟩, ⟨(some 41),.bin .neq (.tmp 40) (.con (.c (.imm (.sc (.int .i64 (-1)))))),(some (38,true))⟩, ⟨(some 42),.pick (.tmp 38) (.tmp 41) (.con (.c (.imm (.sc (.bool false))))),none⟩, ⟨(some 21),.mv (.tmp 42),none⟩]))) (.cond (.tmp 21) (.seq (.region none [⟨(some 2),.mv (.con (.c (.imm (.sc (.bool false))))),none⟩]) .ret) (.seq (.seq (.region none [⟨(some 44),.fld 1 (.tmp 1),none⟩, ⟨(some 45),.load 1 false (.tmp 44),none⟩, ⟨(some 46),.bin .eql (.tmp 45) (.con (.c (.imm (.sc (.int .i64 2))))),none⟩, ⟨(some 47),.mv (.tmp 46),none⟩, ⟨(some 48),.fld 5 (.tmp 1),(some (47,true))⟩, ⟨(some 49),.load 1 false (.tmp 48),(some (47,true))⟩, ⟨(some 50),.bin .lss (.tmp 49) (.con (.c (.imm (.sc (.int .i64 0))))),(some (47,true))⟩, ⟨(some 51),.mv (.tmp 50),(some (47,true))⟩, ⟨(some 52),.fld 5 (.tmp 1),(some (51,false))⟩, ⟨(some 53),.load 1 false (.tmp 52),(some (51,false))⟩, ⟨(some 54),.bin .gtr (.tmp 53) (.con (.c (.imm (.sc (.int .i64 1000000000000000))))),(some (51,false))⟩, ⟨(some 55),.pick (.tmp 51) (.con (.c (.imm (.sc (.bool true))))) (.tmp 54),(some (47,true))⟩, ⟨(some 56),.pick (.tmp 47) (.tmp 55) (.con (.c (.imm (.sc (.bool false))))),none⟩, ⟨(some 43),.mv (.tmp 56),none⟩]) (.cond (.tmp 43) .skip (.region none [⟨(some 57),.fld 1 (.tmp 1),none⟩, ⟨(some 58),.load 1 false (.tmp 57),none⟩, ⟨(some 59),.bin .neq (.tmp 58) (.con (.c (.imm (.sc (.int .i64 2))))),none⟩, ⟨(some 60),.mv (.tmp 59),none⟩, ⟨(some 61),.fld 5 (.tmp 1),(some (60,true))⟩, ⟨(some 62),.load 1 false (.tmp 61),(some (60,true))⟩, ⟨(some 63),.bin .neq (.tmp 62) (.con (.c (.imm (.sc (.int .i64 (-1)))))),(some (60,true))⟩, ⟨(some 64),.pick (.tmp 60) (.tmp 63) (.con (.c (.imm (.sc (.bool false))))),none⟩, ⟨(some 43),.mv (.tmp 64),none⟩]))) (.cond (.tmp 43) (.seq (.region none [⟨(some 2),.mv (.con (.c (.imm (.sc (.bool false))))),none⟩]) .ret) .skip))))))) (.seq (.region none [⟨(some 65),.fld 6 (.tmp 1),none⟩, ⟨(some 66),.load 1 false (.tmp 65),none⟩, ⟨(some 67),.bin .eql (.tmp 66) (.con (.c (.imm (.sc (.int .i64 (-1)))))),none⟩, ⟨(some 68),.mv (.tmp 67),none⟩, ⟨(some 69),.mv (.tmp 3),(some (68,false))⟩, ⟨(some 70),.mv (.tmp 69),(some (68,false))⟩, ⟨(some 71),.fld 6 (.tmp 1),(some (70,true))⟩, ⟨(some 72),.load 1 false (.tmp 71),(some (70,true))⟩, ⟨(some 73),.bin .geq (.tmp 72) (.con (.c (.imm (.sc (.int .i64 0))))),(some (70,true))⟩, ⟨(some 74),.pick (.tmp 70) (.tmp 73) (.con (.c (.imm (.sc (.bool false))))),(some (68,false))⟩, ⟨(some 75),.mv (.tmp 74),(some (68,false))⟩, ⟨(some 76),.fld 6 (.tmp 1),(some (75,true))⟩, ⟨(some 77),.load 1 false (.tmp 76),(some (75,true))⟩, ⟨(some 78),.bin .leq (.tmp 77) (.con (.c (.imm (.sc (.int .i64 1000000000000000))))),(some (75,true))⟩, ⟨(some 79),.pick (.tmp 75) (.tmp 78) (.con (.c (.imm (.sc (.bool false))))),(some (68,false))⟩, ⟨(some 80),.pick (.tmp 68) (.con (.c (.imm (.sc (.bool true))))) (.tmp 79),none⟩, ⟨(some 2),.mv (.tmp 80),none⟩]) .ret))))
theorem c66 : (Try.f66.body.bind fun c => cCode Try.prog 81 c) = some v66 := by kernel_rfl
def v67 : VC := (.seq (.region none [⟨(some 2),.box 37 (.tmp 0),none⟩, ⟨(some 3),.box 37 (.tmp 1),none⟩, ⟨(some 4),.mv (.con (.c (.imm (.sc (.bool false))))),none⟩]) (.seq (.region none [⟨(some 5),.fld 1 (.tmp 2),none⟩, ⟨(some 6),.load 1 false (.tmp 5),none⟩, ⟨(some 7),.fld 1 (.tmp 3),none⟩, ⟨(some 8),.load 1 false (.tmp 7),none⟩, ⟨(some 9),.bin .eql (.tmp 6) (.tmp 8),none⟩, ⟨(some 10),.mv (.tmp 9),none⟩, ⟨(some 11),.fld 4 (.tmp 2),(some (10,true))⟩, ⟨(some 12),.load 1 false (.tmp 11),(some (10,true))⟩, ⟨(some 13),.fld 4 (.tmp 3),(some (10,true))⟩, ⟨(some 14),.load 1 false (.tmp 13),(some (10,true))⟩, ⟨(some 15),.bin .eql (.tmp 12) (.tmp 14),(some (10,true))⟩, ⟨(some 16),.pick (.tmp 10) (.tmp 15) (.con (.c (.imm (.sc (.bool false))))),none⟩, ⟨(some 17),.mv (.tmp 16),none⟩, ⟨(some 18),.fld 5 (.tmp 2),(some (17,true))⟩, ⟨(some 19),.load 1 false (.tmp 18),(some (17,true))⟩, ⟨(some 20),.fld 5 (.tmp 3),(some (17,true))⟩, ⟨(some 21),.load 1 false (.tmp 20),(some (17,true))⟩, ⟨(some 22),.bin .eql (.tmp 19) (.tmp 21),(some (17,true))⟩, ⟨(some 23),.pick (.tmp 17) (.tmp 22) (.con (.c (.imm (.sc (.bool false))))),none⟩, ⟨(some 4),.mv (.tmp 23),none⟩]) .ret))
theorem c67 : (Try.f67.body.bind fun c => cCode Try.prog 24 c) = some v67 := by kernel_rfl
def v31 : VC := (.seq (.region none [⟨(some 4),.mv (.con (.c (.imm (.sc (.int .i64 0))))),none⟩]) (.seq (.region none [⟨(some 14),.mv (.tmp 0),none⟩, ⟨(some 15),.call 64 [(.tmp 14)],none⟩, ⟨(some 5),.mv (.tmp 15),none⟩]) (.seq (.region none [⟨(some 6),.mv (.con (.c (.imm (.sc (.int .i64 (-1)))))),none⟩]) (.seq (.seq (.region none [⟨(some 16),.mv (.tmp 1),none⟩, ⟨(some 17),.lenS (.tmp 16),none⟩, ⟨(some 18),.mv (.con (.c (.imm (.sc (.int .i64 0))))),none⟩]) (.block 0 (.loop (.seq (.region none [⟨(some 19),.bin .lss (.tmp 18) (.tmp 17),none⟩]) (.seq (.cond (.tmp 19) .skip (.exit 0)) (.seq (.block 1 (.seq (.region none [⟨(some 20),.mv (.tmp 18),none⟩, ⟨(some 21),.ixA 7 (.tmp 16) (.tmp 18),none⟩, ⟨(some 22),.load 7 true (.tmp 21),none⟩, ⟨(some 8),.alloc 37 [(.imm (.sc (.int .i64 0))),(.imm (.sc (.int .i64 0))),(.imm (.sc (.int .i64 0))),(.imm (.sc (.int .i64 0))),(.imm (.sc (.int .i64 0))),(.imm (.sc (.int .i64 0))),(.imm (.sc (.int .i64 0)))],none⟩, ⟨(some 7),.mv (.tmp 20),none⟩, ⟨none,.store 7 (.tmp 8) (.tmp 22),none⟩]) (.seq (.region none [⟨(some 23),.mv (.tmp 5),none⟩, ⟨(some 24),.fld 0 (.tmp 8),none⟩, ⟨(some 25),.load 1 false (.tmp 24),none⟩, ⟨(some 26),.call 65 [(.tmp 23),(.tmp 25)],none⟩, ⟨(some 9),.mv (.tmp 26),none⟩]) (.seq (.block 2 (.seq (.region none [⟨(some 28),.mv (.tmp 9),none⟩, ⟨(some 29),.bin .lss (.tmp 28) (.con (.c (.imm (.sc (.int .i64 0))))),none⟩, ⟨(some 27),.mv (.tmp 29),none⟩]) (.cond (.tmp 27) (.seq (.region none [⟨(some 4),.mv (.con (.c (.imm (.sc (.int .i64 5))))),none⟩]) .ret) (.seq (.region none [⟨(some 31),.fld 2 (.tmp 8),none⟩, ⟨(some 32),.load 2 true (.tmp 31),none⟩, ⟨(some 33),.call 18 [(.tmp 32)],none⟩, ⟨(some 34),.un .not (.tmp 33),none⟩, ⟨(some 30),.mv (.tmp 34),none⟩]) (.cond (.tmp 30) (.seq (.region none [⟨(some 4),.mv (.con (.c (.imm (.sc (.int .i64 2))))),none⟩]) .ret) (.seq (.region none [⟨(some 36),.load 7 true (.tmp 8),none⟩, ⟨(some 37),.call 66 [(.tmp 36)],none⟩, ⟨(some 38),.un .not (.tmp 37),none⟩, ⟨(some 35),.mv (.tmp 38),none⟩]) (.cond (.tmp 35) (.seq (.region none [⟨(some 4),.mv (.con (.c (.imm (.sc (.int .i64 1))))),none⟩]) .ret) (.seq (.region (some [0,0,3,7,15,31,63,15,15,271,911,1935,3983,8079,16383,32767,65535,65535,65535,327679,983039,2031615,4194303,8388607,16777215,33554431]) [⟨(some 40),.mv (.tmp 9),none⟩, ⟨(some 41),.mv (.tmp 6),none⟩, ⟨(some 42),.bin .eql (.tmp 40) (.tmp 41),none⟩, ⟨(some 43),.mv (.tmp 42),none⟩, ⟨(some 44),.fld 2 (.tmp 8),(some (43,true))⟩, ⟨(some 45),.fld 0 (.tmp 44),(some (43,true))⟩, ⟨(some 46),.load 1 false (.tmp 45),(some (43,true))⟩, ⟨(some 47),.mv (.tmp 1),(some (43,true))⟩, ⟨(some 48),.mv (.tmp 7),(some (43,true))⟩, ⟨(some 49),.bin .sub (.tmp 48) (.con (.c (.imm (.sc (.int .i64 1))))),(some (43,true))⟩, ⟨(some 50),.ixA 7 (.tmp 47) (.tmp 49),(some (43,true))⟩, ⟨(some 51),.fld 2 (.tmp 50),(some (43,true))⟩, ⟨(some 52),.fld 1 (.tmp 51),(some (43,true))⟩, ⟨(some 53),.load 1 false (.tmp 52),(some (43,true))⟩, ⟨(some 54),.bin .neq (.tmp 46) (.tmp 53),(some (43,true))⟩, ⟨(some 55),.mv (.tmp 54),(some (43,true))⟩, ⟨(some 56),.load 7 true (.tmp 8),(some (55,false))⟩, ⟨(some 57),.mv (.tmp 1),(some (55,false))⟩, ⟨(some 58),.mv (.tmp 7),(some (55,false))⟩, ⟨(some 59),.bin .sub (.tmp 58) (.con (.c (.imm (.sc (.int .i64 1))))),(some (55,false))⟩, ⟨(some 60),.ixA 7 (.tmp 57) (.tmp 59),(some (55,false))⟩, ⟨(some 61),.load 7 true (.tmp 60),(some (55,false))⟩, ⟨(some 62),.call 67 [(.tmp 56),(.tmp 61)],(some (55,false))⟩, ⟨(some 63),.pick (.tmp 55) (.con (.c (.imm (.sc (.bool true))))) (.tmp 62),(some (43,true))⟩, ⟨(some 64),.pick (.tmp 43) (.tmp 63) (.con (.c (.imm (.sc (.bool false))))),none⟩, ⟨(some 39),.mv (.tmp 64),none⟩]) (.cond (.tmp 39) (.seq (.region none [⟨(some 4),.mv (.con (.c (.imm (.sc (.int .i64 11))))),none⟩]) .ret) (.seq (.region none [⟨(some 66),.mv (.tmp 9),none⟩, ⟨(some 67),.mv (.tmp 6),none⟩, ⟨(some 68),.bin .neq (.tmp 66) (.tmp 67),none⟩, ⟨(some 69),.mv (.tmp 68),none⟩, ⟨(some 70),.mv (.tmp 9),(some (69,true))⟩, ⟨(some 71),.mv (.tmp 6),(some (69,true))⟩, ⟨(some 72),.bin .add (.tmp 71) (.con (.c (.imm (.sc (.int .i64 1))))),(some (69,true))⟩, ⟨(some 73),.bin .neq (.tmp 70) (.tmp 72),(some (69,true))⟩, ⟨(some 74),.mv (.tmp 73),(some (69,true))⟩, ⟨(some 75),.fld 2 (.tmp 8),(some (74,false))⟩, ⟨(some 76),.fld 0 (.tmp 75),(some (74,false))⟩, ⟨(some 77),.load 1 false (.tmp 76),(some (74,false))⟩, ⟨(some 78),.bin .neq (.tmp 77) (.con (.c (.imm (.sc (.int .i64 0))))),(some (74,false))⟩, ⟨(some 79),.pick (.tmp 74) (.con (.c (.imm (.sc (.bool true))))) (.tmp 78),(some (69,true))⟩, ⟨(some 80),.pick (.tmp 69) (.tmp 79) (.con (.c (.imm (.sc (.bool false))))),none⟩, ⟨(some 65),.mv (.tmp 80),none⟩]) (.cond (.tmp 65) (.seq (.region none [⟨(some 4),.mv (.con (.c (.imm (.sc (.int .i64 11))))),none⟩]) .ret) .skip))))))))))) (.region none [⟨(some 81),.mv (.tmp 9),none⟩, ⟨(some 6),.mv (.tmp 81),none⟩]))))) (.region none [⟨(some 82),.bin .add (.tmp 18) (.con (.c (.imm (.sc (.int .i64 1))))),none⟩, ⟨(some 18),.mv (.tmp 82),none⟩]))))))) (.seq (.seq (.region none [⟨(some 83),.mv (.tmp 1),none⟩, ⟨(some 84),.lenS (.tmp 83),none⟩, ⟨(some 85),.bin .eql (.tmp 84) (.con (.c (.imm (.sc (.int .i64 0))))),none⟩]) (.cond (.tmp 85) (.seq (.region none [⟨(some 4),.mv (.con (.c (.imm (.sc (.int .i64 0))))),none⟩]) .ret) .skip)) (.seq (.region none [⟨(some 86),.mv (.tmp 1),none⟩, ⟨(some 87),.mv (.tmp 1),none⟩, ⟨(some 88),.lenS (.tmp 87),none⟩, ⟨(some 89),.bin .sub (.tmp 88) (.con (.c (.imm (.sc (.int .i64 1))))),none⟩, ⟨(some 90),.ixA 7 (.tmp 86) (.tmp 89),none⟩, ⟨(some 91),.fld 2 (.tmp 90),none⟩, ⟨(some 92),.fld 1 (.tmp 91),none⟩, ⟨(some 93),.load 1 false (.tmp 92),none⟩, ⟨(some 10),.mv (.tmp 93),none⟩]) (.seq (.seq (.region none [⟨(some 94),.mv (.tmp 1),none⟩, ⟨(some 95),.lenS (.tmp 94),none⟩, ⟨(some 96),.mv (.con (.c (.imm (.sc (.int .i64 0))))),none⟩]) (.block 3 (.loop (.seq (.region none [⟨(some 97),.bin .lss (.tmp 96) (.tmp 95),none⟩]) (.seq (.cond (.tmp 97) .skip (.exit 3)) (.seq (.block 4 (.seq (.region none [⟨(some 98),.mv (.tmp 96),none⟩, ⟨(some 99),.ixA 7 (.tmp 94) (.tmp 96),none⟩, ⟨(some 100),.load 7 true (.tmp 99),none⟩, ⟨(some 12),.alloc 37 [(.imm (.sc (.int .i64 0))),(.imm (.sc (.int .i64 0))),(.imm (.sc (.int .i64 0))),(.imm (.sc (.int .i64 0))),(.imm (.sc (.int .i64 0))),(.imm (.sc (.int .i64 0))),(.imm (.sc (.int .i64 0)))],none⟩, ⟨(some 11),.mv (.tmp 98),none⟩, ⟨none,.store 7 (.tmp 12) (.tmp 100),none⟩]) (.seq (.region (some [0,1,0,4,15,31,63,63,191,511,1023,2047,63,4159,16383,32767,65535]) [⟨(some 101),.mv (.tmp 11),none⟩, ⟨(some 102),.bin .add (.tmp 101) (.con (.c (.imm (.sc (.int .i64 1))))),none⟩, ⟨(some 103),.mv (.tmp 1),none⟩, ⟨(some 104),.lenS (.tmp 103),none⟩, ⟨(some 105),.bin .eql (.tmp 102) (.tmp 104),none⟩, ⟨(some 106),.mv (.tmp 105),none⟩, ⟨(some 107),.mv (.tmp 1),(some (106,false))⟩, ⟨(some 108),.mv (.tmp 11),(some (106,false))⟩, ⟨(some 109),.bin .add (.tmp 108) (.con (.c (.imm (.sc (.int .i64 1))))),(some (106,false))⟩, ⟨(some 110),.ixA 7 (.tmp 107) (.tmp 109),(some (106,false))⟩, ⟨(some 111),.fld 0 (.tmp 110),(some (106,false))⟩, ⟨(some 112),.load 1 false (.tmp 111),(some (106,false))⟩, ⟨(some 113),.fld 0 (.tmp 12),(some (106,false))⟩, ⟨(some 114),.load 1 false (.tmp 113),(some (106,false))⟩, ⟨(some 115),.bin .neq (.tmp 112) (.tmp 114),(some (106,false))⟩, ⟨(some 116),.pick (.tmp 106) (.con (.c (.imm (.sc (.bool true))))) (.tmp 115),none⟩, ⟨(some 13),.mv (.tmp 116),none⟩]) (.seq (.region none [⟨(some 117),.mv (.tmp 13),none⟩, ⟨(some 118),.mv (.tmp 117),none⟩, ⟨(some 119),.fld 2 (.tmp 12),(some (118,true))⟩, ⟨(some 120),.fld 1 (.tmp 119),(some (118,true))⟩, ⟨(some 121),.load 1 false (.tmp 120),(some (118,true))⟩, ⟨(some 122),.mv (.tmp 10),(some (118,true))⟩, ⟨(some 123),.bin .neq (.tmp 121) (.tmp 122),(some (118,true))⟩, ⟨(some 124),.pick (.tmp 118) (.tmp 123) (.con (.c (.imm (.sc (.bool false))))),none⟩]) (.cond (.tmp 124) (.seq (.region none [⟨(some 4),.mv (.con (.c (.imm (.sc (.int .i64 11))))),none⟩]) .ret) .skip))))) (.region none [⟨(some 125),.bin .add (.tmp 96) (.con (.c (.imm (.sc (.int .i64 1))))),none⟩, ⟨(some 96),.mv (.tmp 125),none⟩]))))))) (.seq (.seq (.region none [⟨(some 126),.mv (.tmp 6),none⟩, ⟨(some 127),.bin .add (.tmp 126) (.con (.c (.imm (.sc (.int .i64 1))))),none⟩, ⟨(some 128),.mv (.tmp 5),none⟩, ⟨(some 129),.lenS (.tmp 128),none⟩, ⟨(some 130),.bin .neq (.tmp 127) (.tmp 129),none⟩]) (.cond (.tmp 130) (.seq (.region none [⟨(some 4),.mv (.con (.c (.imm (.sc (.int .i64 11))))),none⟩]) .ret) .skip)) (.seq (.region none [⟨(some 4),.mv (.con (.c (.imm (.sc (.int .i64 0))))),none⟩]) .ret)))))))))
theorem c31 : (Try.f31.body.bind fun c => cCode Try.prog 131 c) = some v31 := by kernel_rfl
def v68 : VC := (.seq (.region none [⟨(some 4),.mv (.con (.c (.imm (.sc (.bool false))))),none⟩]) (.seq (.region none [⟨(some 5),.mv (.tmp 0),none⟩, ⟨(some 6),.bin .lss (.tmp 5) (.con (.c (.imm (.sc (.int .i64 0))))),none⟩, ⟨(some 7),.mv (.tmp 6),none⟩, ⟨(some 8),.mv (.tmp 0),(some (7,false))⟩, ⟨(some 9),.mv (.tmp 1),(some (7,false))⟩, ⟨(some 10),.bin .gtr (.tmp 8) (.tmp 9),(some (7,false))⟩, ⟨(some 11),.pick (.tmp 7) (.con (.c (.imm (.sc (.bool true))))) (.tmp 10),none⟩, ⟨(some 4),.mv (.tmp 11),none⟩]) .ret))
theorem c68 : (Try.f68.body.bind fun c => cCode Try.prog 12 c) = some v68 := by kernel_rfl
def v33 : VC := (.seq (.region none [⟨(some 2),.mv (.con (.c (.imm (.sc (.int .i64 0))))),none⟩]) (.seq (.seq (.region none [⟨(some 5),.mv (.tmp 0),none⟩, ⟨(some 6),.lenS (.tmp 5),none⟩, ⟨(some 7),.mv (.con (.c (.imm (.sc (.int .i64 0))))),none⟩]) (.block 0 (.loop (.seq (.region none [⟨(some 8),.bin .lss (.tmp 7) (.tmp 6),none⟩]) (.seq (.cond (.tmp 8) .skip (.exit 0)) (.seq (.block 1 (.seq (.region none [⟨(some 9),.mv (.tmp 7),none⟩, ⟨(some 10),.ixA 7 (.tmp 5) (.tmp 7),none⟩, ⟨(some 11),.load 7 true (.tmp 10),none⟩, ⟨(some 4),.alloc 79 [(.imm (.sc (.int .i64 0))),(.imm (.sc (.int .i64 0))),(.imm (.sc (.int .i64 0))),(.imm (.sc (.int .i64 0))),(.imm (.sc (.int .i64 0))),(.imm (.sc (.int .i64 0))),(.imm (.sc (.int .i64 0)))],none⟩, ⟨(some 3),.mv (.tmp 9),none⟩, ⟨none,.store 7 (.tmp 4) (.tmp 11),none⟩]) (.block 2 (.seq (.seq (.region none [⟨(some 13),.fld 0 (.tmp 4),none⟩, ⟨(some 14),.load 1 false (.tmp 13),none⟩, ⟨(some 15),.call 68 [(.tmp 14),(.con (.c (.imm (.sc (.int .i64 1000000000000000)))))],none⟩, ⟨(some 12),.mv (.tmp 15),none⟩]) (.cond (.tmp 12) .skip (.seq (.region none [⟨(some 16),.fld 1 (.tmp 4),none⟩, ⟨(some 17),.fld 0 (.tmp 16),none⟩, ⟨(some 18),.load 1 false (.tmp 17),none⟩, ⟨(some 19),.call 68 [(.tmp 18),(.con (.c (.imm (.sc (.int .i64 1000000000000000)))))],none⟩, ⟨(some 12),.mv (.tmp 19),none⟩]) (.cond (.tmp 12) .skip (.seq (.region none [⟨(some 20),.fld 1 (.tmp 4),none⟩, ⟨(some 21),.fld 1 (.tmp 20),none⟩, ⟨(some 22),.load 1 false (.tmp 21),none⟩, ⟨(some 23),.call 68 [(.tmp 22),(.con (.c (.imm (.sc (.int .i64 1000000000000000)))))],none⟩, ⟨(some 12),.mv (.tmp 23),none⟩]) (.cond (.tmp 12) .skip (.seq (.region none [⟨(some 24),.fld 3 (.tmp 4),none⟩, ⟨(some 25),.fld 0 (.tmp 24),none⟩, ⟨(some 26),.load 1 false (.tmp 25),none⟩, ⟨(some 27),.call 68 [(.tmp 26),(.con (.c (.imm (.sc (.int .i64 1000000000000000)))))],none⟩, ⟨(some 12),.mv (.tmp 27),none⟩]) (.cond (.tmp 12) .skip (.seq (.region none [⟨(some 28),.fld 3 (.tmp 4),none⟩, ⟨(some 29),.fld 1 (.tmp 28),none⟩, ⟨(some 30),.load 1 false (.tmp 29),none⟩, ⟨(some 31),.call 68 [(.tmp 30),(.con (.c (.imm (.sc (.int .i64 1000000000000000)))))],none⟩, ⟨(some 12),.mv (.tmp 31),none⟩]) (.cond (.tmp 12) .skip (.seq (.region none [⟨(some 32),.fld 5 (.tmp 4),none⟩, ⟨(some 33),.load 1 false (.tmp 32),none⟩, ⟨(some 34),.call 68 [(.tmp 33),(.con (.c (.imm (.sc (.int .i64 1000000000000)))))],none⟩, ⟨(some 12),.mv (.tmp 34),none⟩]) (.cond (.tmp 12) .skip (.region none [⟨(some 35),.fld 6 (.tmp 4),none⟩, ⟨(some 36),.load 1 false (.tmp 35),none⟩, ⟨(some 37),.call 68 [(.tmp 36),(.con (.c (.imm (.sc (.int .i64 1000000000000)))))],none⟩, ⟨(some 12),.mv (.tmp 37),none⟩]))))))))))))) (.cond (.tmp 12) (.seq (.region none [⟨(some 2),.mv (.con (.c (.imm (.sc (.int .i64 2))))),none⟩]) .ret) (.seq (.seq (.region none [⟨(some 39),.fld 5 (.tmp 4),none⟩, ⟨(some 40),.load 1 false (.tmp 39),none⟩, ⟨(some 41),.fld 6 (.tmp 4),none⟩, ⟨(some 42),.load 1 false (.tmp 41),none⟩, ⟨(some 43),.bin .gtr (.tmp 40) (.tmp 42),none⟩, ⟨(some 38),.mv (.tmp 43),none⟩]) (.cond (.tmp 38) .skip (.region (some [0,1,3,7,15,7,7,71,231,487,999,2047,4095,8191]) [⟨(some 44),.mv (.tmp 3),none⟩, ⟨(some 45),.bin .gtr (.tmp 44) (.con (.c (.imm (.sc (.int .i64 0))))),none⟩, ⟨(some 46),.mv (.tmp 45),none⟩, ⟨(some 47),.fld 6 (.tmp 4),(some (46,true))⟩, ⟨(some 48),.load 1 false (.tmp 47),(some (46,true))⟩, ⟨(some 49),.mv (.tmp 0),(some (46,true))⟩, ⟨(some 50),.mv (.tmp 3),(some (46,true))⟩, ⟨(some 51),.bin .sub (.tmp 50) (.con (.c (.imm (.sc (.int .i64 1))))),(some (46,true))⟩, ⟨(some 52),.ixA 7 (.tmp 49) (.tmp 51),(some (46,true))⟩, ⟨(some 53),.fld 6 (.tmp 52),(some (46,true))⟩, ⟨(some 54),.load 1 false (.tmp 53),(some (46,true))⟩, ⟨(some 55),.bin .lss (.tmp 48) (.tmp 54),(some (46,true))⟩, ⟨(some 56),.pick (.tmp 46) (.tmp 55) (.con (.c (.imm (.sc (.bool false))))),none⟩, ⟨(some 38),.mv (.tmp 56),none⟩]))) (.cond (.tmp 38) (.seq (.region none [⟨(some 2),.mv (.con (.c (.imm (.sc (.int .i64 11))))),none⟩]) .ret) .skip))))))) (.region none [⟨(some 57),.bin .add (.tmp 7) (.con (.c (.imm (.sc (.int .i64 1))))),none⟩, ⟨(some 7),.mv (.tmp 57),none⟩]))))))) (.seq (.region none [⟨(some 2),.mv (.con (.c (.imm (.sc (.int .i64 0))))),none⟩]) .ret)))
theorem c33 : (Try.f33.body.bind fun c => cCode Try.prog 58 c) = some v33 := by kernel_rfl
def v34 : VC := (.seq (.region none [⟨(some 1),.box 79 (.tmp 0),none⟩, ⟨(some 2),.mv (.con (.c (.imm (.sc (.int .i64 0))))),none⟩]) (.seq (.region none [⟨(some 3),.fld 1 (.tmp 1),none⟩, ⟨(some 4),.fld 0 (.tmp 3),none⟩, ⟨(some 5),.load 1 false (.tmp 4),none⟩, ⟨(some 2),.mv (.tmp 5),none⟩]) .ret))
theorem c34 : (Try.f34.body.bind fun c => cCode Try.prog 6 c) = some v34 := by kernel_rfl
def v32 : VC := (.seq (.region none [⟨(some 8),.mv (.con (.c (.imm (.sc (.int .i64 0))))),none⟩]) (.seq (.seq (.region none [⟨(some 13),.mv (.tmp 0),none⟩, ⟨(some 14),.bin .neq (.tmp 13) (.con (.c (.imm (.sc (.int .i64 0))))),none⟩]) (.cond (.tmp 14) (.seq (.region none [⟨(some 15),.mv (.tmp 0),none⟩, ⟨(some 8),.mv (.tmp 15),none⟩]) .ret) .skip)) (.seq (.seq (.region none [⟨(some 16),.mv (.tmp 2),none⟩, ⟨(some 17),.lenS (.tmp 16),none⟩, ⟨(some 18),.mv (.con (.c (.imm (.sc (.int .i64 0))))),none⟩]) (.block 0 (.loop (.seq (.region none [⟨(some 19),.bin .lss (.tmp 18) (.tmp 17),none⟩]) (.seq (.cond (.tmp 19) .skip (.exit 0)) (.seq (.block 1 (.seq (.region none [⟨(some 20),.ixA 7 (.tmp 16) (.tmp 18),none⟩, ⟨(some 21),.load 7 true (.tmp 20),none⟩, ⟨(some 10),.alloc 79 [(.imm (.sc (.int .i64 0))),(.imm (.sc (.int .i64 0))),(.imm (.sc (.int .i64 0))),(.imm (.sc (.int .i64 0))),(.imm (.sc (.int .i64 0))),(.imm (.sc (.int .i64 0))),(.imm (.sc (.int .i64 0)))],none⟩, ⟨none,.store 7 (.tmp 10) (.tmp 21),none⟩]) (.seq (.region none [⟨(some 23),.mv (.tmp 1),none⟩, ⟨(some 24),.mv (.tmp 3),none⟩, ⟨(some 25),.load 7 true (.tmp 10),none⟩, ⟨(some 26),.callv (.tmp 24) [(.tmp 25)],none⟩, ⟨(some 27),.look (.int .i64) (.c (.imm (.sc (.string ⟨#[]⟩)))) true (.tmp 23) (.tmp 26),none⟩, ⟨(some 22),.mv (.tmp 27),none⟩, ⟨(some 28),.ext (.tmp 22) 0,none⟩, ⟨(some 29),.ext (.tmp 22) 1,none⟩, ⟨(some 11),.mv (.tmp 28),none⟩, ⟨(some 12),.mv (.tmp 29),none⟩]) (.seq (.region none [⟨(some 30),.mv (.tmp 12),none⟩, ⟨(some 31),.un .not (.tmp 30),none⟩]) (.cond (.tmp 31) (.seq (.region none [⟨(some 8),.mv (.con (.c (.imm (.sc (.int .i64 5))))),none⟩]) .ret) .skip))))) (.region none [⟨(some 32),.bin .add (.tmp 18) (.con (.c (.imm (.sc (.int .i64 1))))),none⟩, ⟨(some 18),.mv (.tmp 32),none⟩]))))))) (.seq (.region none [⟨(some 8),.mv (.con (.c (.imm (.sc (.int .i64 0))))),none⟩]) .ret))))
theorem c32 : (Try.f32.body.bind fun c => cCode Try.prog 33 c) = some v32 := by kernel_rfl
def v35 : VC := (.seq (.region none [⟨(some 1),.box 79 (.tmp 0),none⟩, ⟨(some 2),.mv (.con (.c (.imm (.sc (.int .i64 0))))),none⟩]) (.seq (.region none [⟨(some 3),.fld 3 (.tmp 1),none⟩, ⟨(some 4),.fld 0 (.tmp 3),none⟩, ⟨(some 5),.load 1 false (.tmp 4),none⟩, ⟨(some 2),.mv (.tmp 5),none⟩]) .ret))
theorem c35 : (Try.f35.body.bind fun c => cCode Try.prog 6 c) = some v35 := by kernel_rfl
def v69 : VC := (.seq (.region none [⟨(some 1),.box 85 (.tmp 0),none⟩, ⟨(some 2),.mv (.con (.c (.imm (.sc (.bool false))))),none⟩]) (.seq (.region none [⟨(some 3),.fld 0 (.tmp 1),none⟩, ⟨(some 4),.load 1 false (.tmp 3),none⟩, ⟨(some 5),.bin .geq (.tmp 4) (.con (.c (.imm (.sc (.int .i64 0))))),none⟩, ⟨(some 6),.mv (.tmp 5),none⟩, ⟨(some 7),.fld 0 (.tmp 1),(some (6,true))⟩, ⟨(some 8),.load 1 false (.tmp 7),(some (6,true))⟩, ⟨(some 9),.bin .leq (.tmp 8) (.con (.c (.imm (.sc (.int .i64 1000000000000000))))),(some (6,true))⟩, ⟨(some 10),.pick (.tmp 6) (.tmp 9) (.con (.c (.imm (.sc (.bool false))))),none⟩, ⟨(some 11),.mv (.tmp 10),none⟩, ⟨(some 12),.fld 1 (.tmp 1),(some (11,true))⟩, ⟨(some 13),.load 1 false (.tmp 12),(some (11,true))⟩, ⟨(some 14),.bin .geq (.tmp 13) (.con (.c (.imm (.sc (.int .i64 0))))),(some (11,true))⟩, ⟨(some 15),.pick (.tmp 11) (.tmp 14) (.con (.c (.imm (.sc (.bool false))))),none⟩, ⟨(some 16),.mv (.tmp 15),none⟩, ⟨(some 17),.fld 1 (.tmp 1),(some (16,true))⟩, ⟨(some 18),.load 1 false (.tmp 17),(some (16,true))⟩, ⟨(some 19),.bin .leq (.tmp 18) (.con (.c (.imm (.sc (.int .i64 1000000000000))))),(some (16,true))⟩, ⟨(some 20),.pick (.tmp 16) (.tmp 19) (.con (.c (.imm (.sc (.bool false))))),none⟩, ⟨(some 21),.mv (.tmp 20),none⟩, ⟨(some 22),.fld 2 (.tmp 1),(some (21,true))⟩, ⟨(some 23),.load 1 false (.tmp 22),(some (21,true))⟩, ⟨(some 24),.bin .geq (.tmp 23) (.con (.c (.imm (.sc (.int .i64 1))))),(some (21,true))⟩, ⟨(some 25),.pick (.tmp 21) (.tmp 24) (.con (.c (.imm (.sc (.bool false))))),none⟩, ⟨(some 26),.mv (.tmp 25),none⟩, ⟨(some 27),.fld 2 (.tmp 1),(some (26,true))⟩, ⟨(some 28),.load 1 false (.tmp 27),(some (26,true))⟩, ⟨(some 29),.bin .leq (.tmp 28) (.con (.c (.imm (.sc (.int .i64 1000000000000))))),(some (26,true))⟩, ⟨(some 30),.pick (.tmp 26) (.tmp 29) (.con (.c (.imm (.sc (.bool false))))),none⟩, ⟨(some 2),.mv (.tmp 30),none⟩]) .ret))
theorem c69 : (Try.f69.body.bind fun c => cCode Try.prog 31 c) = some v69 := by kernel_rfl
def v70 : VC := (.seq (.region none [⟨(some 2),.mv (.con (.c (.imm (.sc (.int .i64 0))))),none⟩]) (.seq (.seq (.region none [⟨(some 6),.mv (.tmp 0),none⟩, ⟨(some 7),.lenS (.tmp 6),none⟩, ⟨(some 8),.bin .gtr (.tmp 7) (.con (.c (.imm (.sc (.int .i64 32))))),none⟩]) (.cond (.tmp 8) (.seq (.region none [⟨(some 2),.mv (.con (.c (.imm (.sc (.int .i64 7))))),none⟩]) .ret) .skip)) (.seq (.seq (.region none [⟨(some 9),.mv (.tmp 0),none⟩, ⟨(some 10),.lenS (.tmp 9),none⟩, ⟨(some 11),.mv (.con (.c (.imm (.sc (.int .i64 0))))),none⟩]) (.block 0 (.loop (.seq (.region none [⟨(some 12),.bin .lss (.tmp 11) (.tmp 10),none⟩]) (.seq (.cond (.tmp 12) .skip (.exit 0)) (.seq (.block 1 (.seq (.region none [⟨(some 13),.ixA 1 (.tmp 9) (.tmp 11),none⟩, ⟨(some 14),.load 1 false (.tmp 13),none⟩, ⟨(some 4),.mv (.tmp 14),none⟩]) (.seq (.region none [⟨(some 15),.mv (.tmp 4),none⟩, ⟨(some 16),.call 60 [(.tmp 15)],none⟩, ⟨(some 5),.mv (.tmp 16),none⟩]) (.seq (.region none [⟨(some 17),.mv (.tmp 5),none⟩, ⟨(some 18),.bin .neq (.tmp 17) (.con (.c (.imm (.sc (.int .i64 0))))),none⟩]) (.cond (.tmp 18) (.seq (.region none [⟨(some 19),.mv (.tmp 5),none⟩, ⟨(some 2),.mv (.tmp 19),none⟩]) .ret) .skip))))) (.region none [⟨(some 20),.bin .add (.tmp 11) (.con (.c (.imm (.sc (.int .i64 1))))),none⟩, ⟨(some 11),.mv (.tmp 20),none⟩]))))))) (.seq (.region none [⟨(some 2),.mv (.con (.c (.imm (.sc (.int .i64 0))))),none⟩]) .ret))))
theorem c70 : (Try.f70.body.bind fun c => cCode Try.prog 21 c) = some v70 := by kernel_rfl
def v37 : VC := (.seq (.region none [⟨(some 2),.mv (.con (.c (.imm (.sc (.int .i64 0))))),none⟩]) (.seq (.seq (.region none [⟨(some 6),.mv (.tmp 0),none⟩, ⟨(some 7),.lenS (.tmp 6),none⟩, ⟨(some 8),.mv (.con (.c (.imm (.sc (.int .i64 0))))),none⟩]) (.block 0 (.loop (.seq (.region none [⟨(some 9),.bin .lss (.tmp 8) (.tmp 7),none⟩]) (.seq (.cond (.tmp 9) .skip (.exit 0)) (.seq (.block 1 (.seq (.region none [⟨(some 10),.mv (.tmp 8),none⟩, ⟨(some 11),.ixA 4 (.tmp 6) (.tmp 8),none⟩, ⟨(some 12),.load 4 true (.tmp 11),none⟩, ⟨(some 4),.alloc 85 [(.imm (.sc (.int .i64 0))),(.imm (.sc (.int .i64 0))),(.imm (.sc (.int .i64 0))),.nilS],none⟩, ⟨(some 3),.mv (.tmp 10),none⟩, ⟨none,.store 4 (.tmp 4) (.tmp 12),none⟩]) (.seq (.seq (.region none [⟨(some 13),.load 4 true (.tmp 4),none⟩, ⟨(some 14),.call 69 [(.tmp 13)],none⟩, ⟨(some 15),.un .not (.tmp 14),none⟩]) (.cond (.tmp 15) (.seq (.region none [⟨(some 2),.mv (.con (.c (.imm (.sc (.int .i64 2))))),none⟩]) .ret) .skip)) (.seq (.seq (.region none [⟨(some 16),.fld 3 (.tmp 4),none⟩, ⟨(some 17),.load 1 false (.tmp 16),none⟩, ⟨(some 18),.call 70 [(.tmp 17)],none⟩, ⟨(some 5),.mv (.tmp 18),none⟩]) (.seq (.region none [⟨(some 19),.mv (.tmp 5),none⟩, ⟨(some 20),.bin .neq (.tmp 19) (.con (.c (.imm (.sc (.int .i64 0))))),none⟩]) (.cond (.tmp 20) (.seq (.region none [⟨(some 21),.mv (.tmp 5),none⟩, ⟨(some 2),.mv (.tmp 21),none⟩]) .ret) .skip))) (.seq (.region (some [0,1,3,7,15,7,7,71,231,487,999,2047,4095]) [⟨(some 22),.mv (.tmp 3),none⟩, ⟨(some 23),.bin .gtr (.tmp 22) (.con (.c (.imm (.sc (.int .i64 0))))),none⟩, ⟨(some 24),.mv (.tmp 23),none⟩, ⟨(some 25),.fld 1 (.tmp 4),(some (24,true))⟩, ⟨(some 26),.load 1 false (.tmp 25),(some (24,true))⟩, ⟨(some 27),.mv (.tmp 0),(some (24,true))⟩, ⟨(some 28),.mv (.tmp 3),(some (24,true))⟩, ⟨(some 29),.bin .sub (.tmp 28) (.con (.c (.imm (.sc (.int .i64 1))))),(some (24,true))⟩, ⟨(some 30),.ixA 4 (.tmp 27) (.tmp 29),(some (24,true))⟩, ⟨(some 31),.fld 1 (.tmp 30),(some (24,true))⟩, ⟨(some 32),.load 1 false (.tmp 31),(some (24,true))⟩, ⟨(some 33),.bin .lss (.tmp 26) (.tmp 32),(some (24,true))⟩, ⟨(some 34),.pick (.tmp 24) (.tmp 33) (.con (.c (.imm (.sc (.bool false))))),none⟩]) (.cond (.tmp 34) (.seq (.region none [⟨(some 2),.mv (.con (.c (.imm (.sc (.int .i64 11))))),none⟩]) .ret) .skip)))))) (.region none [⟨(some 35),.bin .add (.tmp 8) (.con (.c (.imm (.sc (.int .i64 1))))),none⟩, ⟨(some 8),.mv (.tmp 35),none⟩]))))))) (.seq (.region none [⟨(some 2),.mv (.con (.c (.imm (.sc (.int .i64 0))))),none⟩]) .ret)))
theorem c37 : (Try.f37.body.bind fun c => cCode Try.prog 36 c) = some v37 := by kernel_rfl
def v38 : VC := (.seq (.region none [⟨(some 1),.box 85 (.tmp 0),none⟩, ⟨(some 2),.mv (.con (.c (.imm (.sc (.int .i64 0))))),none⟩]) (.seq (.region none [⟨(some 3),.fld 0 (.tmp 1),none⟩, ⟨(some 4),.load 1 false (.tmp 3),none⟩, ⟨(some 2),.mv (.tmp 4),none⟩]) .ret))
theorem c38 : (Try.f38.body.bind fun c => cCode Try.prog 5 c) = some v38 := by kernel_rfl
def v36 : VC := (.seq (.region none [⟨(some 8),.mv (.con (.c (.imm (.sc (.int .i64 0))))),none⟩]) (.seq (.seq (.region none [⟨(some 13),.mv (.tmp 0),none⟩, ⟨(some 14),.bin .neq (.tmp 13) (.con (.c (.imm (.sc (.int .i64 0))))),none⟩]) (.cond (.tmp 14) (.seq (.region none [⟨(some 15),.mv (.tmp 0),none⟩, ⟨(some 8),.mv (.tmp 15),none⟩]) .ret) .skip)) (.seq (.seq (.region none [⟨(some 16),.mv (.tmp 2),none⟩, ⟨(some 17),.lenS (.tmp 16),none⟩, ⟨(some 18),.mv (.con (.c (.imm (.sc (.int .i64 0))))),none⟩]) (.block 0 (.loop (.seq (.region none [⟨(some 19),.bin .lss (.tmp 18) (.tmp 17),none⟩]) (.seq (.cond (.tmp 19) .skip (.exit 0)) (.seq (.block 1 (.seq (.region none [⟨(some 20),.ixA 4 (.tmp 16) (.tmp 18),none⟩, ⟨(some 21),.load 4 true (.tmp 20),none⟩, ⟨(some 10),.alloc 85 [(.imm (.sc (.int .i64 0))),(.imm (.sc (.int .i64 0))),(.imm (.sc (.int .i64 0))),.nilS],none⟩, ⟨none,.store 4 (.tmp 10) (.tmp 21),none⟩]) (.seq (.region none [⟨(some 23),.mv (.tmp 1),none⟩, ⟨(some 24),.mv (.tmp 3),none⟩, ⟨(some 25),.load 4 true (.tmp 10),none⟩, ⟨(some 26),.callv (.tmp 24) [(.tmp 25)],none⟩, ⟨(some 27),.look (.int .i64) (.c (.imm (.sc (.string ⟨#[]⟩)))) true (.tmp 23) (.tmp 26),none⟩, ⟨(some 22),.mv (.tmp 27),none⟩, ⟨(some 28),.ext (.tmp 22) 0,none⟩, ⟨(some 29),.ext (.tmp 22) 1,none⟩, ⟨(some 11),.mv (.tmp 28),none⟩, ⟨(some 12),.mv (.tmp 29),none⟩]) (.seq (.region none [⟨(some 30),.mv (.tmp 12),none⟩, ⟨(some 31),.un .not (.tmp 30),none⟩]) (.cond (.tmp 31) (.seq (.region none [⟨(some 8),.mv (.con (.c (.imm (.sc (.int .i64 5))))),none⟩]) .ret) .skip))))) (.region none [⟨(some 32),.bin .add (.tmp 18) (.con (.c (.imm (.sc (.int .i64 1))))),none⟩, ⟨(some 18),.mv (.tmp 32),none⟩]))))))) (.seq (.region none [⟨(some 8),.mv (.con (.c (.imm (.sc (.int .i64 0))))),none⟩]) .ret))))
theorem c36 : (Try.f36.body.bind fun c => cCode Try.prog 33 c) = some v36 := by kernel_rfl
def v71 : VC := (.seq (.region none [⟨(some 2),.mv (.con (.c (.imm (.sc (.bool false))))),none⟩]) (.seq (.region none [⟨(some 3),.mv (.tmp 0),none⟩, ⟨(some 4),.bin .geq (.tmp 3) (.con (.c (.imm (.sc (.int .i64 (-1000000000000000)))))),none⟩, ⟨(some 5),.mv (.tmp 4),none⟩, ⟨(some 6),.mv (.tmp 0),(some (5,true))⟩, ⟨(some 7),.bin .leq (.tmp 6) (.con (.c (.imm (.sc (.int .i64 1000000000000000))))),(some (5,true))⟩, ⟨(some 8),.pick (.tmp 5) (.tmp 7) (.con (.c (.imm (.sc (.bool false))))),none⟩, ⟨(some 2),.mv (.tmp 8),none⟩]) .ret))
theorem c71 : (Try.f71.body.bind fun c => cCode Try.prog 9 c) = some v71 := by kernel_rfl
def v87 : VC := (.seq (.region none [⟨(some 2),.mv (.con (.c (.imm (.sc (.bool false))))),none⟩]) (.seq (.region none [⟨(some 3),.mv (.tmp 0),none⟩, ⟨(some 4),.mv (.tmp 0),none⟩, ⟨(some 5),.bin .neq (.tmp 3) (.tmp 4),none⟩, ⟨(some 2),.mv (.tmp 5),none⟩]) .ret))
theorem c87 : (Try.f87.body.bind fun c => cCode Try.prog 6 c) = some v87 := by kernel_rfl
def v84 : VC := (.seq (.region none [⟨(some 4),.mv (.con (.c (.imm (.sc (.int .i64 0))))),none⟩]) (.seq (.region none [⟨(some 7),.mv (.tmp 0),none⟩, ⟨(some 8),.call 87 [(.tmp 7)],none⟩, ⟨(some 5),.mv (.tmp 8),none⟩]) (.seq (.region none [⟨(some 9),.mv (.tmp 1),none⟩, ⟨(some 10),.call 87 [(.tmp 9)],none⟩, ⟨(some 6),.mv (.tmp 10),none⟩]) (.seq (.seq (.region none [⟨(some 11),.mv (.tmp 5),none⟩]) (.cond (.tmp 11) (.seq (.seq (.region none [⟨(some 12),.mv (.tmp 6),none⟩]) (.cond (.tmp 12) (.seq (.region none [⟨(some 4),.mv (.con (.c (.imm (.sc (.int .i64 0))))),none⟩]) .ret) .skip)) (.seq (.region none [⟨(some 4),.mv (.con (.c (.imm (.sc (.int .i64 (-1)))))),none⟩]) .ret)) .skip)) (.seq (.seq (.region none [⟨(some 13),.mv (.tmp 6),none⟩]) (.cond (.tmp 13) (.seq (.region none [⟨(some 4),.mv (.con (.c (.imm (.sc (.int .i64 1))))),none⟩]) .ret) .skip)) (.seq (.seq (.region none [⟨(some 14),.mv (.tmp 0),none⟩, ⟨(some 15),.mv (.tmp 1),none⟩, ⟨(some 16),.bin .lss (.tmp 14) (.tmp 15),none⟩]) (.cond (.tmp 16) (.seq (.region none [⟨(some 4),.mv (.con (.c (.imm (.sc (.int .i64 (-1)))))),none⟩]) .ret) .skip)) (.seq (.seq (.region none [⟨(some 17),.mv (.tmp 0),none⟩, ⟨(some 18),.mv (.tmp 1),none⟩, ⟨(some 19),.bin .gtr (.tmp 17) (.tmp 18),none⟩]) (.cond (.tmp 19) (.seq (.region none [⟨(some 4),.mv (.con (.c (.imm (.sc (.int .i64 1))))),none⟩]) .ret) .skip)) (.seq (.region none [⟨(some 4),.mv (.con (.c (.imm (.sc (.int .i64 0))))),none⟩]) .ret))))))))
theorem c84 : (Try.f84.body.bind fun c => cCode Try.prog 20 c) = some v84 := by kernel_rfl
def v72 : VC := (.seq (.region none [⟨(some 2),.box 109 (.tmp 0),none⟩, ⟨(some 3),.box 109 (.tmp 1),none⟩, ⟨(some 4),.mv (.con (.c (.imm (.sc (.int .i64 0))))),none⟩]) (.seq (.region (some [0,1,0,4,15,0,32,0,128,511,1023,2047,4095]) [⟨(some 5),.fld 0 (.tmp 2),none⟩, ⟨(some 6),.load 1 false (.tmp 5),none⟩, ⟨(some 7),.fld 0 (.tmp 3),none⟩, ⟨(some 8),.load 1 false (.tmp 7),none⟩, ⟨(some 9),.call 84 [(.tmp 6),(.tmp 8)],none⟩, ⟨(some 10),.fld 1 (.tmp 2),none⟩, ⟨(some 11),.load 1 false (.tmp 10),none⟩, ⟨(some 12),.fld 1 (.tmp 3),none⟩, ⟨(some 13),.load 1 false (.tmp 12),none⟩, ⟨(some 14),.call 81 [(.tmp 11),(.tmp 13)],none⟩, ⟨(some 15),.bsl 3 1 2 [(.imm (.sc (.int .i64 0)))] [(0,1,(.tmp 9)),(1,1,(.tmp 14))],none⟩, ⟨(some 16),.call 80 [(.tmp 15)],none⟩, ⟨(some 4),.mv (.tmp 16),none⟩]) .ret))
theorem c72 : (Try.f72.body.bind fun c => cCode Try.prog 17 c) = some v72 := by kernel_rfl
def v39 : VC := (.seq (.region none [⟨(some 2),.mv (.con (.c (.imm (.sc (.int .i64 0))))),none⟩]) (.seq (.seq (.region none [⟨(some 6),.mv (.tmp 0),none⟩, ⟨(some 7),.lenS (.tmp 6),none⟩, ⟨(some 8),.mv (.con (.c (.imm (.sc (.int .i64 0))))),none⟩]) (.block 0 (.loop (.seq (.region none [⟨(some 9),.bin .lss (.tmp 8) (.tmp 7),none⟩]) (.seq (.cond (.tmp 9) .skip (.exit 0)) (.seq (.block 1 (.seq (.region none [⟨(some 10),.mv (.tmp 8),none⟩, ⟨(some 11),.ixA 3 (.tmp 6) (.tmp 8),none⟩, ⟨(some 12),.load 3 true (.tmp 11),none⟩, ⟨(some 4),.alloc 109 [(.imm (.sc (.string ⟨#[]⟩))),(.imm (.sc (.int .i64 0))),(.imm (.sc (.int .i64 0)))],none⟩, ⟨(some 3),.mv (.tmp 10),none⟩, ⟨none,.store 3 (.tmp 4) (.tmp 12),none⟩]) (.seq (.seq (.region none [⟨(some 13),.fld 0 (.tmp 4),none⟩, ⟨(some 14),.load 1 false (.tmp 13),none⟩, ⟨(some 15),.call 60 [(.tmp 14)],none⟩, ⟨(some 5),.mv (.tmp 15),none⟩]) (.seq (.region none [⟨(some 16),.mv (.tmp 5),none⟩, ⟨(some 17),.bin .neq (.tmp 16) (.con (.c (.imm (.sc (.int .i64 0))))),none⟩]) (.cond (.tmp 17) (.seq (.region none [⟨(some 18),.mv (.tmp 5),none⟩, ⟨(some 2),.mv (.tmp 18),none⟩]) .ret) .skip))) (.seq (.seq (.region none [⟨(some 19),.fld 1 (.tmp 4),none⟩, ⟨(some 20),.load 1 false (.tmp 19),none⟩, ⟨(some 21),.bin .lss (.tmp 20) (.con (.c (.imm (.sc (.int .i64 0))))),none⟩, ⟨(some 22),.mv (.tmp 21),none⟩, ⟨(some 23),.fld 1 (.tmp 4),(some (22,false))⟩, ⟨(some 24),.load 1 false (.tmp 23),(some (22,false))⟩, ⟨(some 25),.bin .gtr (.tmp 24) (.con (.c (.imm (.sc (.int .i64 1000000000000))))),(some (22,false))⟩, ⟨(some 26),.pick (.tmp 22) (.con (.c (.imm (.sc (.bool true))))) (.tmp 25),none⟩, ⟨(some 27),.mv (.tmp 26),none⟩, ⟨(some 28),.fld 2 (.tmp 4),(some (27,false))⟩, ⟨(some 29),.load 1 false (.tmp 28),(some (27,false))⟩, ⟨(some 30),.call 71 [(.tmp 29)],(some (27,false))⟩, ⟨(some 31),.un .not (.tmp 30),(some (27,false))⟩, ⟨(some 32),.pick (.tmp 27) (.con (.c (.imm (.sc (.bool true))))) (.tmp 31),none⟩]) (.cond (.tmp 32) (.seq (.region none [⟨(some 2),.mv (.con (.c (.imm (.sc (.int .i64 2))))),none⟩]) .ret) .skip)) (.seq (.region (some [0,1,3,7,7,23,63,127,7,511,1023,2047,4095,4095,12287,32767,65535,131071,4095,266239,1048575,2097151,4194303,4194303,12582911,33554431,67108863,134217727,4194303,272629759,1073741823,2147483647,4294967295,8589934591]) [⟨(some 33),.mv (.tmp 3),none⟩, ⟨(some 34),.bin .gtr (.tmp 33) (.con (.c (.imm (.sc (.int .i64 0))))),none⟩, ⟨(some 35),.mv (.tmp 34),none⟩, ⟨(some 36),.mv (.tmp 0),(some (35,true))⟩, ⟨(some 37),.mv (.tmp 3),(some (35,true))⟩, ⟨(some 38),.bin .sub (.tmp 37) (.con (.c (.imm (.sc (.int .i64 1))))),(some (35,true))⟩, ⟨(some 39),.ixA 3 (.tmp 36) (.tmp 38),(some (35,true))⟩, ⟨(some 40),.load 3 true (.tmp 39),(some (35,true))⟩, ⟨(some 41),.load 3 true (.tmp 4),(some (35,true))⟩, ⟨(some 42),.call 72 [(.tmp 40),(.tmp 41)],(some (35,true))⟩, ⟨(some 43),.bin .geq (.tmp 42) (.con (.c (.imm (.sc (.int .i64 0))))),(some (35,true))⟩, ⟨(some 44),.mv (.tmp 43),(some (35,true))⟩, ⟨(some 45),.mv (.tmp 0),(some (44,false))⟩, ⟨(some 46),.mv (.tmp 3),(some (44,false))⟩, ⟨(some 47),.bin .sub (.tmp 46) (.con (.c (.imm (.sc (.int .i64 1))))),(some (44,false))⟩, ⟨(some 48),.ixA 3 (.tmp 45) (.tmp 47),(some (44,false))⟩, ⟨(some 49),.fld 0 (.tmp 48),(some (44,false))⟩, ⟨(some 50),.load 1 false (.tmp 49),(some (44,false))⟩, ⟨(some 51),.fld 0 (.tmp 4),(some (44,false))⟩, ⟨(some 52),.load 1 false (.tmp 51),(some (44,false))⟩, ⟨(some 53),.bin .eql (.tmp 50) (.tmp 52),(some (44,false))⟩, ⟨(some 54),.mv (.tmp 53),(some (44,false))⟩, ⟨(some 55),.mv (.tmp 0),(some (54,true))⟩, ⟨(some 56),.mv (.tmp 3),(some (54,true))⟩, ⟨(some 57),.bin .sub (.tmp 56) (.con (.c (.imm (.sc (.int .i64 1))))),(some (54,true))⟩, ⟨(some 58),.ixA 3 (.tmp 55) (.tmp 57),(some (54,true))⟩, ⟨(some 59),.fld 2 (.tmp 58),(some (54,true))⟩, ⟨(some 60),.load 1 false (.tmp 59),(some (54,true))⟩, ⟨(some 61),.fld 2 (.tmp 4),(some (54,true))⟩, ⟨(some 62),.load 1 false (.tmp 61),(some (54,true))⟩, ⟨(some 63),.bin .eql (.tmp 60) (.tmp 62),(some (54,true))⟩, ⟨(some 64),.pick (.tmp 54) (.tmp 63) (.con (.c (.imm (.sc (.bool false))))),(some (44,false))⟩, ⟨(some 65),.pick (.tmp 44) (.con (.c (.imm (.sc (.bool true))))) (.tmp 64),(some (35,true))⟩, ⟨(some 66),.pick (.tmp 35) (.tmp 65) (.con (.c (.imm (.sc (.bool false))))),none⟩]) (.cond (.tmp 66) (.seq (.region none [⟨(some 2),.mv (.con (.c (.imm (.sc (.int .i64 11))))),none⟩]) .ret) .skip)))))) (.region none [⟨(some 67),.bin .add (.tmp 8) (.con (.c (.imm (.sc (.int .i64 1))))),none⟩, ⟨(some 8),.mv (.tmp 67),none⟩]))))))) (.seq (.region none [⟨(some 2),.mv (.con (.c (.imm (.sc (.int .i64 0))))),none⟩]) .ret)))
theorem c39 : (Try.f39.body.bind fun c => cCode Try.prog 68 c) = some v39 := by kernel_rfl
def v41 : VC := (.seq (.region none [⟨(some 2),.mv (.con (.c (.imm (.sc (.int .i64 0))))),none⟩]) (.seq (.seq (.region none [⟨(some 8),.mv (.tmp 0),none⟩, ⟨(some 9),.lenS (.tmp 8),none⟩, ⟨(some 10),.mv (.con (.c (.imm (.sc (.int .i64 0))))),none⟩]) (.block 0 (.loop (.seq (.region none [⟨(some 11),.bin .lss (.tmp 10) (.tmp 9),none⟩]) (.seq (.cond (.tmp 11) .skip (.exit 0)) (.seq (.block 1 (.seq (.region none [⟨(some 12),.mv (.tmp 10),none⟩, ⟨(some 13),.ixA 7 (.tmp 8) (.tmp 10),none⟩, ⟨(some 14),.load 7 true (.tmp 13),none⟩, ⟨(some 4),.alloc 91 [(.imm (.sc (.int .i64 0))),(.imm (.sc (.int .i64 0))),(.imm (.sc (.int .i64 0))),(.imm (.sc (.int .i64 0))),(.imm (.sc (.int .i64 0))),.nilS,(.imm (.sc (.bool false)))],none⟩, ⟨(some 3),.mv (.tmp 12),none⟩, ⟨none,.store 7 (.tmp 4) (.tmp 14),none⟩]) (.seq (.seq (.region none [⟨(some 15),.fld 0 (.tmp 4),none⟩, ⟨(some 16),.load 1 false (.tmp 15),none⟩, ⟨(some 17),.bin .lss (.tmp 16) (.con (.c (.imm (.sc (.int .i64 0))))),none⟩, ⟨(some 18),.mv (.tmp 17),none⟩, ⟨(some 19),.fld 0 (.tmp 4),(some (18,false))⟩, ⟨(some 20),.load 1 false (.tmp 19),(some (18,false))⟩, ⟨(some 21),.bin .gtr (.tmp 20) (.con (.c (.imm (.sc (.int .i64 1000000000000000))))),(some (18,false))⟩, ⟨(some 22),.pick (.tmp 18) (.con (.c (.imm (.sc (.bool true))))) (.tmp 21),none⟩, ⟨(some 23),.mv (.tmp 22),none⟩, ⟨(some 24),.fld 1 (.tmp 4),(some (23,false))⟩, ⟨(some 25),.load 1 false (.tmp 24),(some (23,false))⟩, ⟨(some 26),.bin .lss (.tmp 25) (.con (.c (.imm (.sc (.int .i64 0))))),(some (23,false))⟩, ⟨(some 27),.pick (.tmp 23) (.con (.c (.imm (.sc (.bool true))))) (.tmp 26),none⟩, ⟨(some 28),.mv (.tmp 27),none⟩, ⟨(some 29),.fld 1 (.tmp 4),(some (28,false))⟩, ⟨(some 30),.load 1 false (.tmp 29),(some (28,false))⟩, ⟨(some 31),.bin .gtr (.tmp 30) (.con (.c (.imm (.sc (.int .i64 1000000000000000))))),(some (28,false))⟩, ⟨(some 32),.pick (.tmp 28) (.con (.c (.imm (.sc (.bool true))))) (.tmp 31),none⟩, ⟨(some 33),.mv (.tmp 32),none⟩, ⟨(some 34),.fld 2 (.tmp 4),(some (33,false))⟩, ⟨(some 35),.load 1 false (.tmp 34),(some (33,false))⟩, ⟨(some 36),.bin .lss (.tmp 35) (.con (.c (.imm (.sc (.int .i64 1))))),(some (33,false))⟩, ⟨(some 37),.pick (.tmp 33) (.con (.c (.imm (.sc (.bool true))))) (.tmp 36),none⟩, ⟨(some 38),.mv (.tmp 37),none⟩, ⟨(some 39),.fld 2 (.tmp 4),(some (38,false))⟩, ⟨(some 40),.load 1 false (.tmp 39),(some (38,false))⟩, ⟨(some 41),.bin .gtr (.tmp 40) (.con (.c (.imm (.sc (.int .i64 1000000000000))))),(some (38,false))⟩, ⟨(some 42),.pick (.tmp 38) (.con (.c (.imm (.sc (.bool true))))) (.tmp 41),none⟩, ⟨(some 43),.mv (.tmp 42),none⟩, ⟨(some 44),.fld 3 (.tmp 4),(some (43,false))⟩, ⟨(some 45),.load 2 true (.tmp 44),(some (43,false))⟩, ⟨(some 46),.call 18 [(.tmp 45)],(some (43,false))⟩, ⟨(some 47),.un .not (.tmp 46),(some (43,false))⟩, ⟨(some 48),.pick (.tmp 43) (.con (.c (.imm (.sc (.bool true))))) (.tmp 47),none⟩]) (.cond (.tmp 48) (.seq (.region none [⟨(some 2),.mv (.con (.c (.imm (.sc (.int .i64 2))))),none⟩]) .ret) .skip)) (.seq (.seq (.region none [⟨(some 49),.fld 5 (.tmp 4),none⟩, ⟨(some 50),.load 1 false (.tmp 49),none⟩, ⟨(some 51),.call 70 [(.tmp 50)],none⟩, ⟨(some 5),.mv (.tmp 51),none⟩]) (.seq (.region none [⟨(some 52),.mv (.tmp 5),none⟩, ⟨(some 53),.bin .neq (.tmp 52) (.con (.c (.imm (.sc (.int .i64 0))))),none⟩]) (.cond (.tmp 53) (.seq (.region none [⟨(some 54),.mv (.tmp 5),none⟩, ⟨(some 2),.mv (.tmp 54),none⟩]) .ret) .skip))) (.seq (.seq (.region (some [0,1,3,7,15,31,7,7,135,455,967,1991,4039,8191,16383]) [⟨(some 55),.mv (.tmp 3),none⟩, ⟨(some 56),.bin .gtr (.tmp 55) (.con (.c (.imm (.sc (.int .i64 0))))),none⟩, ⟨(some 57),.mv (.tmp 56),none⟩, ⟨(some 58),.fld 3 (.tmp 4),(some (57,true))⟩, ⟨(some 59),.fld 0 (.tmp 58),(some (57,true))⟩, ⟨(some 60),.load 1 false (.tmp 59),(some (57,true))⟩, ⟨(some 61),.mv (.tmp 0),(some (57,true))⟩, ⟨(some 62),.mv (.tmp 3),(some (57,true))⟩, ⟨(some 63),.bin .sub (.tmp 62) (.con (.c (.imm (.sc (.int .i64 1))))),(some (57,true))⟩, ⟨(some 64),.ixA 7 (.tmp 61) (.tmp 63),(some (57,true))⟩, ⟨(some 65),.fld 3 (.tmp 64),(some (57,true))⟩, ⟨(some 66),.fld 0 (.tmp 65),(some (57,true))⟩, ⟨(some 67),.load 1 false (.tmp 66),(some (57,true))⟩, ⟨(some 68),.bin .lss (.tmp 60) (.tmp 67),(some (57,true))⟩, ⟨(some 69),.pick (.tmp 57) (.tmp 68) (.con (.c (.imm (.sc (.bool false))))),none⟩]) (.cond (.tmp 69) (.seq (.region none [⟨(some 2),.mv (.con (.c (.imm (.sc (.int .i64 11))))),none⟩]) .ret) .skip)) (.seq (.region none [⟨(some 70),.mv (.tmp 0),none⟩, ⟨(some 71),.mv (.tmp 3),none⟩, ⟨(some 72),.sub 7 (.tmp 70) none (some (.tmp 71)),none⟩, ⟨(some 73),.lenS (.tmp 72),none⟩, ⟨(some 74),.mv (.con (.c (.imm (.sc (.int .i64 0))))),none⟩]) (.block 2 (.loop (.seq (.region none [⟨(some 75),.bin .lss (.tmp 74) (.tmp 73),none⟩]) (.seq (.cond (.tmp 75) .skip (.exit 2)) (.seq (.block 3 (.seq (.region none [⟨(some 76),.ixA 7 (.tmp 72) (.tmp 74),none⟩, ⟨(some 77),.load 7 true (.tmp 76),none⟩, ⟨(some 7),.alloc 91 [(.imm (.sc (.int .i64 0))),(.imm (.sc (.int .i64 0))),(.imm (.sc (.int .i64 0))),(.imm (.sc (.int .i64 0))),(.imm (.sc (.int .i64 0))),.nilS,(.imm (.sc (.bool false)))],none⟩, ⟨none,.store 7 (.tmp 7) (.tmp 77),none⟩]) (.seq (.region none [⟨(some 78),.fld 0 (.tmp 7),none⟩, ⟨(some 79),.load 1 false (.tmp 78),none⟩, ⟨(some 80),.fld 0 (.tmp 4),none⟩, ⟨(some 81),.load 1 false (.tmp 80),none⟩, ⟨(some 82),.bin .eql (.tmp 79) (.tmp 81),none⟩, ⟨(some 83),.mv (.tmp 82),none⟩, ⟨(some 84),.fld 3 (.tmp 7),(some (83,true))⟩, ⟨(some 85),.fld 0 (.tmp 84),(some (83,true))⟩, ⟨(some 86),.load 1 false (.tmp 85),(some (83,true))⟩, ⟨(some 87),.fld 3 (.tmp 4),(some (83,true))⟩, ⟨(some 88),.fld 1 (.tmp 87),(some (83,true))⟩, ⟨(some 89),.load 1 false (.tmp 88),(some (83,true))⟩, ⟨(some 90),.bin .lss (.tmp 86) (.tmp 89),(some (83,true))⟩, ⟨(some 91),.pick (.tmp 83) (.tmp 90) (.con (.c (.imm (.sc (.bool false))))),none⟩, ⟨(some 92),.mv (.tmp 91),none⟩, ⟨(some 93),.fld 3 (.tmp 4),(some (92,true))⟩, ⟨(some 94),.fld 0 (.tmp 93),(some (92,true))⟩, ⟨(some 95),.load 1 false (.tmp 94),(some (92,true))⟩, ⟨(some 96),.fld 3 (.tmp 7),(some (92,true))⟩, ⟨(some 97),.fld 1 (.tmp 96),(some (92,true))⟩, ⟨(some 98),.load 1 false (.tmp 97),(some (92,true))⟩, ⟨(some 99),.bin .lss (.tmp 95) (.tmp 98),(some (92,true))⟩, ⟨(some 100),.pick (.tmp 92) (.tmp 99) (.con (.c (.imm (.sc (.bool false))))),none⟩]) (.cond (.tmp 100) (.seq (.region none [⟨(some 2),.mv (.con (.c (.imm (.sc (.int .i64 4))))),none⟩]) .ret) .skip)))) (.region none [⟨(some 101),.bin .add (.tmp 74) (.con (.c (.imm (.sc (.int .i64 1))))),none⟩, ⟨(some 74),.mv (.tmp 101),none⟩])))))))))))) (.region none [⟨(some 102),.bin .add (.tmp 10) (.con (.c (.imm (.sc (.int .i64 1))))),none⟩, ⟨(some 10),.mv (.tmp 102),none⟩]))))))) (.seq (.region none [⟨(some 2),.mv (.con (.c (.imm (.sc (.int .i64 0))))),none⟩]) .ret)))
theorem c41 : (Try.f41.body.bind fun c => cCode Try.prog 103 c) = some v41 := by kernel_rfl
def v42 : VC := (.seq (.region none [⟨(some 1),.box 91 (.tmp 0),none⟩, ⟨(some 2),.mv (.con (.c (.imm (.sc (.int .i64 0))))),none⟩]) (.seq (.region none [⟨(some 3),.fld 1 (.tmp 1),none⟩, ⟨(some 4),.load 1 false (.tmp 3),none⟩, ⟨(some 2),.mv (.tmp 4),none⟩]) .ret))
theorem c42 : (Try.f42.body.bind fun c => cCode Try.prog 5 c) = some v42 := by kernel_rfl
def v40 : VC := (.seq (.region none [⟨(some 8),.mv (.con (.c (.imm (.sc (.int .i64 0))))),none⟩]) (.seq (.seq (.region none [⟨(some 13),.mv (.tmp 0),none⟩, ⟨(some 14),.bin .neq (.tmp 13) (.con (.c (.imm (.sc (.int .i64 0))))),none⟩]) (.cond (.tmp 14) (.seq (.region none [⟨(some 15),.mv (.tmp 0),none⟩, ⟨(some 8),.mv (.tmp 15),none⟩]) .ret) .skip)) (.seq (.seq (.region none [⟨(some 16),.mv (.tmp 2),none⟩, ⟨(some 17),.lenS (.tmp 16),none⟩, ⟨(some 18),.mv (.con (.c (.imm (.sc (.int .i64 0))))),none⟩]) (.block 0 (.loop (.seq (.region none [⟨(some 19),.bin .lss (.tmp 18) (.tmp 17),none⟩]) (.seq (.cond (.tmp 19) .skip (.exit 0)) (.seq (.block 1 (.seq (.region none [⟨(some 20),.ixA 7 (.tmp 16) (.tmp 18),none⟩, ⟨(some 21),.load 7 true (.tmp 20),none⟩, ⟨(some 10),.alloc 91 [(.imm (.sc (.int .i64 0))),(.imm (.sc (.int .i64 0))),(.imm (.sc (.int .i64 0))),(.imm (.sc (.int .i64 0))),(.imm (.sc (.int .i64 0))),.nilS,(.imm (.sc (.bool false)))],none⟩, ⟨none,.store 7 (.tmp 10) (.tmp 21),none⟩]) (.seq (.region none [⟨(some 23),.mv (.tmp 1),none⟩, ⟨(some 24),.mv (.tmp 3),none⟩, ⟨(some 25),.load 7 true (.tmp 10),none⟩, ⟨(some 26),.callv (.tmp 24) [(.tmp 25)],none⟩, ⟨(some 27),.look (.int .i64) (.c (.imm (.sc (.string ⟨#[]⟩)))) true (.tmp 23) (.tmp 26),none⟩, ⟨(some 22),.mv (.tmp 27),none⟩, ⟨(some 28),.ext (.tmp 22) 0,none⟩, ⟨(some 29),.ext (.tmp 22) 1,none⟩, ⟨(some 11),.mv (.tmp 28),none⟩, ⟨(some 12),.mv (.tmp 29),none⟩]) (.seq (.region none [⟨(some 30),.mv (.tmp 12),none⟩, ⟨(some 31),.un .not (.tmp 30),none⟩]) (.cond (.tmp 31) (.seq (.region none [⟨(some 8),.mv (.con (.c (.imm (.sc (.int .i64 5))))),none⟩]) .ret) .skip))))) (.region none [⟨(some 32),.bin .add (.tmp 18) (.con (.c (.imm (.sc (.int .i64 1))))),none⟩, ⟨(some 18),.mv (.tmp 32),none⟩]))))))) (.seq (.region none [⟨(some 8),.mv (.con (.c (.imm (.sc (.int .i64 0))))),none⟩]) .ret))))
theorem c40 : (Try.f40.body.bind fun c => cCode Try.prog 33 c) = some v40 := by kernel_rfl
def v43 : VC := (.seq (.region none [⟨(some 4),.mv (.con (.c (.imm (.sc (.int .i64 0))))),none⟩]) (.seq (.seq (.region none [⟨(some 9),.mv (.tmp 1),none⟩, ⟨(some 10),.lenS (.tmp 9),none⟩, ⟨(some 11),.mv (.con (.c (.imm (.sc (.int .i64 0))))),none⟩]) (.block 0 (.loop (.seq (.region none [⟨(some 12),.bin .lss (.tmp 11) (.tmp 10),none⟩]) (.seq (.cond (.tmp 12) .skip (.exit 0)) (.seq (.block 1 (.seq (.region none [⟨(some 13),.ixA 4 (.tmp 9) (.tmp 11),none⟩, ⟨(some 14),.load 4 true (.tmp 13),none⟩, ⟨(some 6),.alloc 126 [(.imm (.sc (.int .i64 0))),(.imm (.sc (.int .i64 0))),(.imm (.sc (.int .i64 0))),(.imm (.sc (.int .i64 0)))],none⟩, ⟨none,.store 4 (.tmp 6) (.tmp 14),none⟩]) (.seq (.seq (.region none [⟨(some 16),.mv (.tmp 0),none⟩, ⟨(some 17),.fld 0 (.tmp 6),none⟩, ⟨(some 18),.load 1 false (.tmp 17),none⟩, ⟨(some 19),.look (.int .i64) (.c (.imm (.sc (.string ⟨#[]⟩)))) true (.tmp 16) (.tmp 18),none⟩, ⟨(some 15),.mv (.tmp 19),none⟩, ⟨(some 20),.ext (.tmp 15) 0,none⟩, ⟨(some 21),.ext (.tmp 15) 1,none⟩, ⟨(some 7),.mv (.tmp 20),none⟩, ⟨(some 8),.mv (.tmp 21),none⟩]) (.seq (.region none [⟨(some 22),.mv (.tmp 8),none⟩, ⟨(some 23),.un .not (.tmp 22),none⟩]) (.cond (.tmp 23) (.seq (.region none [⟨(some 4),.mv (.con (.c (.imm (.sc (.int .i64 5))))),none⟩]) .ret) .skip))) (.seq (.region none [⟨(some 24),.fld 1 (.tmp 6),none⟩, ⟨(some 25),.load 2 true (.tmp 24),none⟩, ⟨(some 26),.call 18 [(.tmp 25)],none⟩, ⟨(some 27),.un .not (.tmp 26),none⟩, ⟨(some 28),.mv (.tmp 27),none⟩, ⟨(some 29),.fld 3 (.tmp 6),(some (28,false))⟩, ⟨(some 30),.load 1 false (.tmp 29),(some (28,false))⟩, ⟨(some 31),.bin .lss (.tmp 30) (.con (.c (.imm (.sc (.int .i64 1))))),(some (28,false))⟩, ⟨(some 32),.pick (.tmp 28) (.con (.c (.imm (.sc (.bool true))))) (.tmp 31),none⟩, ⟨(some 33),.mv (.tmp 32),none⟩, ⟨(some 34),.fld 3 (.tmp 6),(some (33,false))⟩, ⟨(some 35),.load 1 false (.tmp 34),(some (33,false))⟩, ⟨(some 36),.bin .gtr (.tmp 35) (.con (.c (.imm (.sc (.int .i64 1000000000000000))))),(some (33,false))⟩, ⟨(some 37),.pick (.tmp 33) (.con (.c (.imm (.sc (.bool true))))) (.tmp 36),none⟩]) (.cond (.tmp 37) (.seq (.region none [⟨(some 4),.mv (.con (.c (.imm (.sc (.int .i64 2))))),none⟩]) .ret) .skip))))) (.region none [⟨(some 38),.bin .add (.tmp 11) (.con (.c (.imm (.sc (.int .i64 1))))),none⟩, ⟨(some 11),.mv (.tmp 38),none⟩]))))))) (.seq (.region none [⟨(some 4),.mv (.con (.c (.imm (.sc (.int .i64 0))))),none⟩]) .ret)))
theorem c43 : (Try.f43.body.bind fun c => cCode Try.prog 39 c) = some v43 := by kernel_rfl
def v23 : VC := (.seq (.region none [⟨(some 1),.box 33 (.tmp 0),none⟩, ⟨(some 2),.mv (.con (.c (.imm (.sc (.int .i64 0))))),none⟩]) (.seq (.region none [⟨(some 12),.load 10 true (.tmp 1),none⟩, ⟨(some 13),.call 27 [(.tmp 12)],none⟩, ⟨(some 11),.mv (.tmp 13),none⟩, ⟨(some 14),.ext (.tmp 11) 0,none⟩, ⟨(some 15),.ext (.tmp 11) 1,none⟩, ⟨(some 3),.mv (.tmp 14),none⟩, ⟨(some 4),.mv (.tmp 15),none⟩]) (.seq (.seq (.region none [⟨(some 16),.mv (.tmp 4),none⟩, ⟨(some 17),.bin .neq (.tmp 16) (.con (.c (.imm (.sc (.int .i64 0))))),none⟩]) (.cond (.tmp 17) (.seq (.region none [⟨(some 18),.mv (.tmp 4),none⟩, ⟨(some 2),.mv (.tmp 18),none⟩]) .ret) .skip)) (.seq (.seq (.region (some [0,1,3,0,0,16,63,127]) [⟨(some 19),.fld 3 (.tmp 1),none⟩, ⟨(some 20),.load 1 false (.tmp 19),none⟩, ⟨(some 21),.call 29 [(.tmp 20)],none⟩, ⟨(some 22),.mv (.tmp 3),none⟩, ⟨(some 23),.fld 3 (.tmp 1),none⟩, ⟨(some 24),.load 1 false (.tmp 23),none⟩, ⟨(some 25),.call 28 [(.tmp 21),(.tmp 22),(.tmp 24),(.fn 30)],none⟩, ⟨(some 5),.mv (.tmp 25),none⟩]) (.seq (.region none [⟨(some 26),.mv (.tmp 5),none⟩, ⟨(some 27),.bin .neq (.tmp 26) (.con (.c (.imm (.sc (.int .i64 0))))),none⟩]) (.cond (.tmp 27) (.seq (.region none [⟨(some 28),.mv (.tmp 5),none⟩, ⟨(some 2),.mv (.tmp 28),none⟩]) .ret) .skip))) (.seq (.seq (.region none [⟨(some 29),.fld 2 (.tmp 1),none⟩, ⟨(some 30),.load 1 false (.tmp 29),none⟩, ⟨(some 31),.fld 4 (.tmp 1),none⟩, ⟨(some 32),.load 1 false (.tmp 31),none⟩, ⟨(some 33),.call 31 [(.tmp 30),(.tmp 32)],none⟩, ⟨(some 6),.mv (.tmp 33),none⟩]) (.seq (.region none [⟨(some 34),.mv (.tmp 6),none⟩, ⟨(some 35),.bin .neq (.tmp 34) (.con (.c (.imm (.sc (.int .i64 0))))),none⟩]) (.cond (.tmp 35) (.seq (.region none [⟨(some 36),.mv (.tmp 6),none⟩, ⟨(some 2),.mv (.tmp 36),none⟩]) .ret) .skip))) (.seq (.region (some [0,1,3,0,0,16,63,127]) [⟨(some 37),.fld 5 (.tmp 1),none⟩, ⟨(some 38),.load 1 false (.tmp 37),none⟩, ⟨(some 39),.call 33 [(.tmp 38)],none⟩, ⟨(some 40),.mv (.tmp 3),none⟩, ⟨(some 41),.fld 5 (.tmp 1),none⟩, ⟨(some 42),.load 1 false (.tmp 41),none⟩, ⟨(some 43),.call 32 [(.tmp 39),(.tmp 40),(.tmp 42),(.fn 34)],none⟩, ⟨(some 4),.mv (.tmp 43),none⟩]) (.seq (.seq (.region none [⟨(some 44),.mv (.tmp 4),none⟩, ⟨(some 45),.mv (.tmp 3),none⟩, ⟨(some 46),.fld 5 (.tmp 1),none⟩, ⟨(some 47),.load 1 false (.tmp 46),none⟩, ⟨(some 48),.call 32 [(.tmp 44),(.tmp 45),(.tmp 47),(.fn 35)],none⟩, ⟨(some 7),.mv (.tmp 48),none⟩]) (.seq (.region none [⟨(some 49),.mv (.tmp 7),none⟩, ⟨(some 50),.bin .neq (.tmp 49) (.con (.c (.imm (.sc (.int .i64 0))))),none⟩]) (.cond (.tmp 50) (.seq (.region none [⟨(some 51),.mv (.tmp 7),none⟩, ⟨(some 2),.mv (.tmp 51),none⟩]) .ret) .skip))) (.seq (.seq (.region (some [0,1,3,0,0,16,63,127]) [⟨(some 52),.fld 6 (.tmp 1),none⟩, ⟨(some 53),.load 1 false (.tmp 52),none⟩, ⟨(some 54),.call 37 [(.tmp 53)],none⟩, ⟨(some 55),.mv (.tmp 3),none⟩, ⟨(some 56),.fld 6 (.tmp 1),none⟩, ⟨(some 57),.load 1 false (.tmp 56),none⟩, ⟨(some 58),.call 36 [(.tmp 54),(.tmp 55),(.tmp 57),(.fn 38)],none⟩, ⟨(some 8),.mv (.tmp 58),none⟩]) (.seq (.region none [⟨(some 59),.mv (.tmp 8),none⟩, ⟨(some 60),.bin .neq (.tmp 59) (.con (.c (.imm (.sc (.int .i64 0))))),none⟩]) (.cond (.tmp 60) (.seq (.region none [⟨(some 61),.mv (.tmp 8),none⟩, ⟨(some 2),.mv (.tmp 61),none⟩]) .ret) .skip))) (.seq (.seq (.region none [⟨(some 62),.fld 7 (.tmp 1),none⟩, ⟨(some 63),.load 1 false (.tmp 62),none⟩, ⟨(some 64),.call 39 [(.tmp 63)],none⟩, ⟨(some 9),.mv (.tmp 64),none⟩]) (.seq (.region none [⟨(some 65),.mv (.tmp 9),none⟩, ⟨(some 66),.bin .neq (.tmp 65) (.con (.c (.imm (.sc (.int .i64 0))))),none⟩]) (.cond (.tmp 66) (.seq (.region none [⟨(some 67),.mv (.tmp 9),none⟩, ⟨(some 2),.mv (.tmp 67),none⟩]) .ret) .skip))) (.seq (.seq (.region (some [0,1,3,0,0,16,63,127]) [⟨(some 68),.fld 8 (.tmp 1),none⟩, ⟨(some 69),.load 1 false (.tmp 68),none⟩, ⟨(some 70),.call 41 [(.tmp 69)],none⟩, ⟨(some 71),.mv (.tmp 3),none⟩, ⟨(some 72),.fld 8 (.tmp 1),none⟩, ⟨(some 73),.load 1 false (.tmp 72),none⟩, ⟨(some 74),.call 40 [(.tmp 70),(.tmp 71),(.tmp 73),(.fn 42)],none⟩, ⟨(some 10),.mv (.tmp 74),none⟩]) (.seq (.region none [⟨(some 75),.mv (.tmp 10),none⟩, ⟨(some 76),.bin .neq (.tmp 75) (.con (.c (.imm (.sc (.int .i64 0))))),none⟩]) (.cond (.tmp 76) (.seq (.region none [⟨(some 77),.mv (.tmp 10),none⟩, ⟨(some 2),.mv (.tmp 77),none⟩]) .ret) .skip))) (.seq (.region none [⟨(some 78),.mv (.tmp 3),none⟩, ⟨(some 79),.fld 9 (.tmp 1),none⟩, ⟨(some 80),.load 1 false (.tmp 79),none⟩, ⟨(some 81),.call 43 [(.tmp 78),(.tmp 80)],none⟩, ⟨(some 2),.mv (.tmp 81),none⟩]) .ret)))))))))))
theorem c23 : (Try.f23.body.bind fun c => cCode Try.prog 82 c) = some v23 := by kernel_rfl
def v46 : VC := (.seq (.region none [⟨(some 2),.box 23 (.tmp 0),none⟩, ⟨(some 3),.box 23 (.tmp 1),none⟩, ⟨(some 4),.mv (.con (.c (.imm (.sc (.bool false))))),none⟩]) (.seq (.region none [⟨(some 5),.fld 0 (.tmp 3),none⟩, ⟨(some 6),.load 1 false (.tmp 5),none⟩, ⟨(some 7),.fld 0 (.tmp 2),none⟩, ⟨(some 8),.load 1 false (.tmp 7),none⟩, ⟨(some 9),.bin .leq (.tmp 6) (.tmp 8),none⟩, ⟨(some 10),.mv (.tmp 9),none⟩, ⟨(some 11),.fld 1 (.tmp 2),(some (10,true))⟩, ⟨(some 12),.load 1 false (.tmp 11),(some (10,true))⟩, ⟨(some 13),.fld 1 (.tmp 3),(some (10,true))⟩, ⟨(some 14),.load 1 false (.tmp 13),(some (10,true))⟩, ⟨(some 15),.bin .leq (.tmp 12) (.tmp 14),(some (10,true))⟩, ⟨(some 16),.pick (.tmp 10) (.tmp 15) (.con (.c (.imm (.sc (.bool false))))),none⟩, ⟨(some 4),.mv (.tmp 16),none⟩]) .ret))
theorem c46 : (Try.f46.body.bind fun c => cCode Try.prog 17 c) = some v46 := by kernel_rfl
def v45 : VC := (.seq (.region none [⟨(some 2),.box 71 (.tmp 0),none⟩, ⟨(some 3),.mv (.con (.c (.imm (.sc (.bool false))))),none⟩]) (.seq (.region none [⟨(some 4),.fld 4 (.tmp 2),none⟩, ⟨(some 5),.load 2 true (.tmp 4),none⟩, ⟨(some 6),.load 2 true (.tmp 1),none⟩, ⟨(some 7),.call 46 [(.tmp 5),(.tmp 6)],none⟩, ⟨(some 8),.un .not (.tmp 7),none⟩, ⟨(some 3),.mv (.tmp 8),none⟩]) .ret))
theorem c45 : (Try.f45.body.bind fun c => cCode Try.prog 9 c) = some v45 := by kernel_rfl
def v73 : VC := (.seq (.region none [⟨(some 4),.mv (.con (.c (.imm (.sc (.int .i64 0))))),none⟩]) (.seq (.seq (.region none [⟨(some 6),.mv (.tmp 0),none⟩, ⟨(some 7),.lenS (.tmp 6),none⟩, ⟨(some 8),.mv (.con (.c (.imm (.sc (.int .i64 0))))),none⟩]) (.block 0 (.loop (.seq (.region none [⟨(some 9),.bin .lss (.tmp 8) (.tmp 7),none⟩]) (.seq (.cond (.tmp 9) .skip (.exit 0)) (.seq (.block 1 (.seq (.region none [⟨(some 10),.mv (.tmp 8),none⟩, ⟨(some 5),.mv (.tmp 10),none⟩]) (.seq (.region none [⟨(some 11),.mv (.tmp 1),none⟩, ⟨(some 12),.mv (.tmp 0),none⟩, ⟨(some 13),.mv (.tmp 5),none⟩, ⟨(some 14),.ixA 8 (.tmp 12) (.tmp 13),none⟩, ⟨(some 15),.load 8 true (.tmp 14),none⟩, ⟨(some 16),.callv (.tmp 11) [(.tmp 15)],none⟩]) (.cond (.tmp 16) (.seq (.region none [⟨(some 17),.mv (.tmp 5),none⟩, ⟨(some 4),.mv (.tmp 17),none⟩]) .ret) .skip)))) (.region none [⟨(some 18),.bin .add (.tmp 8) (.con (.c (.imm (.sc (.int .i64 1))))),none⟩, ⟨(some 8),.mv (.tmp 18),none⟩]))))))) (.seq (.region none [⟨(some 4),.mv (.con (.c (.imm (.sc (.int .i64 (-1)))))),none⟩]) .ret)))
theorem c73 : (Try.f73.body.bind fun c => cCode Try.prog 19 c) = some v73 := by kernel_rfl
def v44 : VC := (.seq (.region none [⟨(some 4),.mv (.con (.c (.imm (.sc (.bool false))))),none⟩]) (.seq (.region none [⟨(some 5),.mv (.tmp 0),none⟩, ⟨(some 6),.mv (.tmp 1),none⟩, ⟨(some 7),.call 73 [(.tmp 5),(.tmp 6)],none⟩, ⟨(some 8),.bin .geq (.tmp 7) (.con (.c (.imm (.sc (.int .i64 0))))),none⟩, ⟨(some 4),.mv (.tmp 8),none⟩]) .ret))
theorem c44 : (Try.f44.body.bind fun c => cCode Try.prog 9 c) = some v44 := by kernel_rfl
def v48 : VC := (.seq (.region none [⟨(some 2),.box 37 (.tmp 0),none⟩, ⟨(some 3),.mv (.con (.c (.imm (.sc (.bool false))))),none⟩]) (.seq (.region none [⟨(some 4),.fld 2 (.tmp 2),none⟩, ⟨(some 5),.load 2 true (.tmp 4),none⟩, ⟨(some 6),.load 2 true (.tmp 1),none⟩, ⟨(some 7),.call 46 [(.tmp 5),(.tmp 6)],none⟩, ⟨(some 8),.un .not (.tmp 7),none⟩, ⟨(some 3),.mv (.tmp 8),none⟩]) .ret))
theorem c48 : (Try.f48.body.bind fun c => cCode Try.prog 9 c) = some v48 := by kernel_rfl
def v74 : VC := (.seq (.region none [⟨(some 4),.mv (.con (.c (.imm (.sc (.int .i64 0))))),none⟩]) (.seq (.seq (.region none [⟨(some 6),.mv (.tmp 0),none⟩, ⟨(some 7),.lenS (.tmp 6),none⟩, ⟨(some 8),.mv (.con (.c (.imm (.sc (.int .i64 0))))),none⟩]) (.block 0 (.loop (.seq (.region none [⟨(some 9),.bin .lss (.tmp 8) (.tmp 7),none⟩]) (.seq (.cond (.tmp 9) .skip (.exit 0)) (.seq (.block 1 (.seq (.region none [⟨(some 10),.mv (.tmp 8),none⟩, ⟨(some 5),.mv (.tmp 10),none⟩]) (.seq (.region none [⟨(some 11),.mv (.tmp 1),none⟩, ⟨(some 12),.mv (.tmp 0),none⟩, ⟨(some 13),.mv (.tmp 5),none⟩, ⟨(some 14),.ixA 7 (.tmp 12) (.tmp 13),none⟩, ⟨(some 15),.load 7 true (.tmp 14),none⟩, ⟨(some 16),.callv (.tmp 11) [(.tmp 15)],none⟩]) (.cond (.tmp 16) (.seq (.region none [⟨(some 17),.mv (.tmp 5),none⟩, ⟨(some 4),.mv (.tmp 17),none⟩]) .ret) .skip)))) (.region none [⟨(some 18),.bin .add (.tmp 8) (.con (.c (.imm (.sc (.int .i64 1))))),none⟩, ⟨(some 8),.mv (.tmp 18),none⟩]))))))) (.seq (.region none [⟨(some 4),.mv (.con (.c (.imm (.sc (.int .i64 (-1)))))),none⟩]) .ret)))
theorem c74 : (Try.f74.body.bind fun c => cCode Try.prog 19 c) = some v74 := by kernel_rfl
def v47 : VC := (.seq (.region none [⟨(some 4),.mv (.con (.c (.imm (.sc (.bool false))))),none⟩]) (.seq (.region none [⟨(some 5),.mv (.tmp 0),none⟩, ⟨(some 6),.mv (.tmp 1),none⟩, ⟨(some 7),.call 74 [(.tmp 5),(.tmp 6)],none⟩, ⟨(some 8),.bin .geq (.tmp 7) (.con (.c (.imm (.sc (.int .i64 0))))),none⟩, ⟨(some 4),.mv (.tmp 8),none⟩]) .ret))
theorem c47 : (Try.f47.body.bind fun c => cCode Try.prog 9 c) = some v47 := by kernel_rfl
def v50 : VC := (.seq (.region none [⟨(some 2),.box 91 (.tmp 0),none⟩, ⟨(some 3),.mv (.con (.c (.imm (.sc (.bool false))))),none⟩]) (.seq (.region none [⟨(some 4),.fld 3 (.tmp 2),none⟩, ⟨(some 5),.load 2 true (.tmp 4),none⟩, ⟨(some 6),.load 2 true (.tmp 1),none⟩, ⟨(some 7),.call 46 [(.tmp 5),(.tmp 6)],none⟩, ⟨(some 8),.un .not (.tmp 7),none⟩, ⟨(some 3),.mv (.tmp 8),none⟩]) .ret))
theorem c50 : (Try.f50.body.bind fun c => cCode Try.prog 9 c) = some v50 := by kernel_rfl
def v75 : VC := (.seq (.region none [⟨(some 4),.mv (.con (.c (.imm (.sc (.int .i64 0))))),none⟩]) (.seq (.seq (.region none [⟨(some 6),.mv (.tmp 0),none⟩, ⟨(some 7),.lenS (.tmp 6),none⟩, ⟨(some 8),.mv (.con (.c (.imm (.sc (.int .i64 0))))),none⟩]) (.block 0 (.loop (.seq (.region none [⟨(some 9),.bin .lss (.tmp 8) (.tmp 7),none⟩]) (.seq (.cond (.tmp 9) .skip (.exit 0)) (.seq (.block 1 (.seq (.region none [⟨(some 10),.mv (.tmp 8),none⟩, ⟨(some 5),.mv (.tmp 10),none⟩]) (.seq (.region none [⟨(some 11),.mv (.tmp 1),none⟩, ⟨(some 12),.mv (.tmp 0),none⟩, ⟨(some 13),.mv (.tmp 5),none⟩, ⟨(some 14),.ixA 7 (.tmp 12) (.tmp 13),none⟩, ⟨(some 15),.load 7 true (.tmp 14),none⟩, ⟨(some 16),.callv (.tmp 11) [(.tmp 15)],none⟩]) (.cond (.tmp 16) (.seq (.region none [⟨(some 17),.mv (.tmp 5),none⟩, ⟨(some 4),.mv (.tmp 17),none⟩]) .ret) .skip)))) (.region none [⟨(some 18),.bin .add (.tmp 8) (.con (.c (.imm (.sc (.int .i64 1))))),none⟩, ⟨(some 8),.mv (.tmp 18),none⟩]))))))) (.seq (.region none [⟨(some 4),.mv (.con (.c (.imm (.sc (.int .i64 (-1)))))),none⟩]) .ret)))
theorem c75 : (Try.f75.body.bind fun c => cCode Try.prog 19 c) = some v75 := by kernel_rfl
def v49 : VC := (.seq (.region none [⟨(some 4),.mv (.con (.c (.imm (.sc (.bool false))))),none⟩]) (.seq (.region none [⟨(some 5),.mv (.tmp 0),none⟩, ⟨(some 6),.mv (.tmp 1),none⟩, ⟨(some 7),.call 75 [(.tmp 5),(.tmp 6)],none⟩, ⟨(some 8),.bin .geq (.tmp 7) (.con (.c (.imm (.sc (.int .i64 0))))),none⟩, ⟨(some 4),.mv (.tmp 8),none⟩]) .ret))
theorem c49 : (Try.f49.body.bind fun c => cCode Try.prog 9 c) = some v49 := by kernel_rfl
def v53 : VC := (.seq (.region none [⟨(some 2),.box 23 (.tmp 0),none⟩, ⟨(some 4),.mv (.con (.c (.imm (.sc (.bool false))))),none⟩]) (.seq (.region none [⟨(some 5),.fld 0 (.tmp 2),none⟩, ⟨(some 6),.load 1 false (.tmp 5),none⟩, ⟨(some 7),.mv (.tmp 1),none⟩, ⟨(some 8),.bin .leq (.tmp 6) (.tmp 7),none⟩, ⟨(some 9),.mv (.tmp 8),none⟩, ⟨(some 10),.mv (.tmp 1),(some (9,true))⟩, ⟨(some 11),.fld 1 (.tmp 2),(some (9,true))⟩, ⟨(some 12),.load 1 false (.tmp 11),(some (9,true))⟩, ⟨(some 13),.bin .lss (.tmp 10) (.tmp 12),(some (9,true))⟩, ⟨(some 14),.pick (.tmp 9) (.tmp 13) (.con (.c (.imm (.sc (.bool false))))),none⟩, ⟨(some 4),.mv (.tmp 14),none⟩]) .ret))
theorem c53 : (Try.f53.body.bind fun c => cCode Try.prog 15 c) = some v53 := by kernel_rfl
def v52 : VC := (.seq (.region none [⟨(some 2),.box 79 (.tmp 0),none⟩, ⟨(some 3),.mv (.con (.c (.imm (.sc (.bool false))))),none⟩]) (.seq (.region none [⟨(some 4),.load 2 true (.tmp 1),none⟩, ⟨(some 5),.fld 5 (.tmp 2),none⟩, ⟨(some 6),.load 1 false (.tmp 5),none⟩, ⟨(some 7),.call 53 [(.tmp 4),(.tmp 6)],none⟩, ⟨(some 8),.un .not (.tmp 7),none⟩, ⟨(some 9),.mv (.tmp 8),none⟩, ⟨(some 10),.load 2 true (.tmp 1),(some (9,false))⟩, ⟨(some 11),.fld 6 (.tmp 2),(some (9,false))⟩, ⟨(some 12),.load 1 false (.tmp 11),(some (9,false))⟩, ⟨(some 13),.call 53 [(.tmp 10),(.tmp 12)],(some (9,false))⟩, ⟨(some 14),.un .not (.tmp 13),(some (9,false))⟩, ⟨(some 15),.pick (.tmp 9) (.con (.c (.imm (.sc (.bool true))))) (.tmp 14),none⟩, ⟨(some 3),.mv (.tmp 15),none⟩]) .ret))
theorem c52 : (Try.f52.body.bind fun c => cCode Try.prog 16 c) = some v52 := by kernel_rfl
def v76 : VC := (.seq (.region none [⟨(some 4),.mv (.con (.c (.imm (.sc (.int .i64 0))))),none⟩]) (.seq (.seq (.region none [⟨(some 6),.mv (.tmp 0),none⟩, ⟨(some 7),.lenS (.tmp 6),none⟩, ⟨(some 8),.mv (.con (.c (.imm (.sc (.int .i64 0))))),none⟩]) (.block 0 (.loop (.seq (.region none [⟨(some 9),.bin .lss (.tmp 8) (.tmp 7),none⟩]) (.seq (.cond (.tmp 9) .skip (.exit 0)) (.seq (.block 1 (.seq (.region none [⟨(some 10),.mv (.tmp 8),none⟩, ⟨(some 5),.mv (.tmp 10),none⟩]) (.seq (.region none [⟨(some 11),.mv (.tmp 1),none⟩, ⟨(some 12),.mv (.tmp 0),none⟩, ⟨(some 13),.mv (.tmp 5),none⟩, ⟨(some 14),.ixA 7 (.tmp 12) (.tmp 13),none⟩, ⟨(some 15),.load 7 true (.tmp 14),none⟩, ⟨(some 16),.callv (.tmp 11) [(.tmp 15)],none⟩]) (.cond (.tmp 16) (.seq (.region none [⟨(some 17),.mv (.tmp 5),none⟩, ⟨(some 4),.mv (.tmp 17),none⟩]) .ret) .skip)))) (.region none [⟨(some 18),.bin .add (.tmp 8) (.con (.c (.imm (.sc (.int .i64 1))))),none⟩, ⟨(some 8),.mv (.tmp 18),none⟩]))))))) (.seq (.region none [⟨(some 4),.mv (.con (.c (.imm (.sc (.int .i64 (-1)))))),none⟩]) .ret)))
theorem c76 : (Try.f76.body.bind fun c => cCode Try.prog 19 c) = some v76 := by kernel_rfl
def v51 : VC := (.seq (.region none [⟨(some 4),.mv (.con (.c (.imm (.sc (.bool false))))),none⟩]) (.seq (.region none [⟨(some 5),.mv (.tmp 0),none⟩, ⟨(some 6),.mv (.tmp 1),none⟩, ⟨(some 7),.call 76 [(.tmp 5),(.tmp 6)],none⟩, ⟨(some 8),.bin .geq (.tmp 7) (.con (.c (.imm (.sc (.int .i64 0))))),none⟩, ⟨(some 4),.mv (.tmp 8),none⟩]) .ret))
theorem c51 : (Try.f51.body.bind fun c => cCode Try.prog 9 c) = some v51 := by kernel_rfl
def v55 : VC := (.seq (.region none [⟨(some 2),.box 85 (.tmp 0),none⟩, ⟨(some 3),.mv (.con (.c (.imm (.sc (.bool false))))),none⟩]) (.seq (.region none [⟨(some 4),.load 2 true (.tmp 1),none⟩, ⟨(some 5),.fld 1 (.tmp 2),none⟩, ⟨(some 6),.load 1 false (.tmp 5),none⟩, ⟨(some 7),.call 53 [(.tmp 4),(.tmp 6)],none⟩, ⟨(some 8),.un .not (.tmp 7),none⟩, ⟨(some 3),.mv (.tmp 8),none⟩]) .ret))
theorem c55 : (Try.f55.body.bind fun c => cCode Try.prog 9 c) = some v55 := by kernel_rfl
def v77 : VC := (.seq (.region none [⟨(some 4),.mv (.con (.c (.imm (.sc (.int .i64 0))))),none⟩]) (.seq (.seq (.region none [⟨(some 6),.mv (.tmp 0),none⟩, ⟨(some 7),.lenS (.tmp 6),none⟩, ⟨(some 8),.mv (.con (.c (.imm (.sc (.int .i64 0))))),none⟩]) (.block 0 (.loop (.seq (.region none [⟨(some 9),.bin .lss (.tmp 8) (.tmp 7),none⟩]) (.seq (.cond (.tmp 9) .skip (.exit 0)) (.seq (.block 1 (.seq (.region none [⟨(some 10),.mv (.tmp 8),none⟩, ⟨(some 5),.mv (.tmp 10),none⟩]) (.seq (.region none [⟨(some 11),.mv (.tmp 1),none⟩, ⟨(some 12),.mv (.tmp 0),none⟩, ⟨(some 13),.mv (.tmp 5),none⟩, ⟨(some 14),.ixA 4 (.tmp 12) (.tmp 13),none⟩, ⟨(some 15),.load 4 true (.tmp 14),none⟩, ⟨(some 16),.callv (.tmp 11) [(.tmp 15)],none⟩]) (.cond (.tmp 16) (.seq (.region none [⟨(some 17),.mv (.tmp 5),none⟩, ⟨(some 4),.mv (.tmp 17),none⟩]) .ret) .skip)))) (.region none [⟨(some 18),.bin .add (.tmp 8) (.con (.c (.imm (.sc (.int .i64 1))))),none⟩, ⟨(some 8),.mv (.tmp 18),none⟩]))))))) (.seq (.region none [⟨(some 4),.mv (.con (.c (.imm (.sc (.int .i64 (-1)))))),none⟩]) .ret)))
theorem c77 : (Try.f77.body.bind fun c => cCode Try.prog 19 c) = some v77 := by kernel_rfl
def v54 : VC := (.seq (.region none [⟨(some 4),.mv (.con (.c (.imm (.sc (.bool false))))),none⟩]) (.seq (.region none [⟨(some 5),.mv (.tmp 0),none⟩, ⟨(some 6),.mv (.tmp 1),none⟩, ⟨(some 7),.call 77 [(.tmp 5),(.tmp 6)],none⟩, ⟨(some 8),.bin .geq (.tmp 7) (.con (.c (.imm (.sc (.int .i64 0))))),none⟩, ⟨(some 4),.mv (.tmp 8),none⟩]) .ret))
theorem c54 : (Try.f54.body.bind fun c => cCode Try.prog 9 c) = some v54 := by kernel_rfl
def v57 : VC := (.seq (.region none [⟨(some 2),.box 109 (.tmp 0),none⟩, ⟨(some 3),.mv (.con (.c (.imm (.sc (.bool false))))),none⟩]) (.seq (.region none [⟨(some 4),.load 2 true (.tmp 1),none⟩, ⟨(some 5),.fld 1 (.tmp 2),none⟩, ⟨(some 6),.load 1 false (.tmp 5),none⟩, ⟨(some 7),.call 53 [(.tmp 4),(.tmp 6)],none⟩, ⟨(some 8),.un .not (.tmp 7),none⟩, ⟨(some 3),.mv (.tmp 8),none⟩]) .ret))
theorem c57 : (Try.f57.body.bind fun c => cCode Try.prog 9 c) = some v57 := by kernel_rfl
def v78 : VC := (.seq (.region none [⟨(some 4),.mv (.con (.c (.imm (.sc (.int .i64 0))))),none⟩]) (.seq (.seq (.region none [⟨(some 6),.mv (.tmp 0),none⟩, ⟨(some 7),.lenS (.tmp 6),none⟩, ⟨(some 8),.mv (.con (.c (.imm (.sc (.int .i64 0))))),none⟩]) (.block 0 (.loop (.seq (.region none [⟨(some 9),.bin .lss (.tmp 8) (.tmp 7),none⟩]) (.seq (.cond (.tmp 9) .skip (.exit 0)) (.seq (.block 1 (.seq (.region none [⟨(some 10),.mv (.tmp 8),none⟩, ⟨(some 5),.mv (.tmp 10),none⟩]) (.seq (.region none [⟨(some 11),.mv (.tmp 1),none⟩, ⟨(some 12),.mv (.tmp 0),none⟩, ⟨(some 13),.mv (.tmp 5),none⟩, ⟨(some 14),.ixA 3 (.tmp 12) (.tmp 13),none⟩, ⟨(some 15),.load 3 true (.tmp 14),none⟩, ⟨(some 16),.callv (.tmp 11) [(.tmp 15)],none⟩]) (.cond (.tmp 16) (.seq (.region none [⟨(some 17),.mv (.tmp 5),none⟩, ⟨(some 4),.mv (.tmp 17),none⟩]) .ret) .skip)))) (.region none [⟨(some 18),.bin .add (.tmp 8) (.con (.c (.imm (.sc (.int .i64 1))))),none⟩, ⟨(some 8),.mv (.tmp 18),none⟩]))))))) (.seq (.region none [⟨(some 4),.mv (.con (.c (.imm (.sc (.int .i64 (-1)))))),none⟩]) .ret)))
theorem c78 : (Try.f78.body.bind fun c => cCode Try.prog 19 c) = some v78 := by kernel_rfl
def v56 : VC := (.seq (.region none [⟨(some 4),.mv (.con (.c (.imm (.sc (.bool false))))),none⟩]) (.seq (.region none [⟨(some 5),.mv (.tmp 0),none⟩, ⟨(some 6),.mv (.tmp 1),none⟩, ⟨(some 7),.call 78 [(.tmp 5),(.tmp 6)],none⟩, ⟨(some 8),.bin .geq (.tmp 7) (.con (.c (.imm (.sc (.int .i64 0))))),none⟩, ⟨(some 4),.mv (.tmp 8),none⟩]) .ret))
theorem c56 : (Try.f56.body.bind fun c => cCode Try.prog 9 c) = some v56 := by kernel_rfl
def v24 : VC := (.seq (.region none [⟨(some 1),.box 33 (.tmp 0),none⟩, ⟨(some 2),.mv (.con (.c (.imm (.sc (.bool false))))),none⟩]) (.seq (.region none [⟨(some 4),.fld 0 (.tmp 1),none⟩, ⟨(some 5),.load 2 true (.tmp 4),none⟩, ⟨(some 3),.alloc 23 [(.imm (.sc (.int .i64 0))),(.imm (.sc (.int .i64 0)))],none⟩, ⟨none,.store 2 (.tmp 3) (.tmp 5),none⟩]) (.seq (.region none [⟨(some 6),.fld 3 (.tmp 1),none⟩, ⟨(some 7),.load 1 false (.tmp 6),none⟩, ⟨(some 8),.mkfn 45 [(.tmp 3)],none⟩, ⟨(some 9),.call 44 [(.tmp 7),(.tmp 8)],none⟩, ⟨(some 10),.mv (.tmp 9),none⟩, ⟨(some 11),.fld 4 (.tmp 1),(some (10,false))⟩, ⟨(some 12),.load 1 false (.tmp 11),(some (10,false))⟩, ⟨(some 13),.mkfn 48 [(.tmp 3)],(some (10,false))⟩, ⟨(some 14),.call 47 [(.tmp 12),(.tmp 13)],(some (10,false))⟩, ⟨(some 15),.pick (.tmp 10) (.con (.c (.imm (.sc (.bool true))))) (.tmp 14),none⟩, ⟨(some 16),.mv (.tmp 15),none⟩, ⟨(some 17),.fld 8 (.tmp 1),(some (16,false))⟩, ⟨(some 18),.load 1 false (.tmp 17),(some (16,false))⟩, ⟨(some 19),.mkfn 50 [(.tmp 3)],(some (16,false))⟩, ⟨(some 20),.call 49 [(.tmp 18),(.tmp 19)],(some (16,false))⟩, ⟨(some 21),.pick (.tmp 16) (.con (.c (.imm (.sc (.bool true))))) (.tmp 20),none⟩, ⟨(some 22),.mv (.tmp 21),none⟩, ⟨(some 23),.fld 5 (.tmp 1),(some (22,false))⟩, ⟨(some 24),.load 1 false (.tmp 23),(some (22,false))⟩, ⟨(some 25),.mkfn 52 [(.tmp 3)],(some (22,false))⟩, ⟨(some 26),.call 51 [(.tmp 24),(.tmp 25)],(some (22,false))⟩, ⟨(some 27),.pick (.tmp 22) (.con (.c (.imm (.sc (.bool true))))) (.tmp 26),none⟩, ⟨(some 28),.mv (.tmp 27),none⟩, ⟨(some 29),.fld 6 (.tmp 1),(some (28,false))⟩, ⟨(some 30),.load 1 false (.tmp 29),(some (28,false))⟩, ⟨(some 31),.mkfn 55 [(.tmp 3)],(some (28,false))⟩, ⟨(some 32),.call 54 [(.tmp 30),(.tmp 31)],(some (28,false))⟩, ⟨(some 33),.pick (.tmp 28) (.con (.c (.imm (.sc (.bool true))))) (.tmp 32),none⟩, ⟨(some 34),.mv (.tmp 33),none⟩, ⟨(some 35),.fld 7 (.tmp 1),(some (34,false))⟩, ⟨(some 36),.load 1 false (.tmp 35),(some (34,false))⟩, ⟨(some 37),.mkfn 57 [(.tmp 3)],(some (34,false))⟩, ⟨(some 38),.call 56 [(.tmp 36),(.tmp 37)],(some (34,false))⟩, ⟨(some 39),.pick (.tmp 34) (.con (.c (.imm (.sc (.bool true))))) (.tmp 38),none⟩, ⟨(some 2),.mv (.tmp 39),none⟩]) .ret)))
theorem c24 : (Try.f24.body.bind fun c => cCode Try.prog 40 c) = some v24 := by kernel_rfl
def v21 : VC := (.seq (.region none [⟨(some 1),.box 33 (.tmp 0),none⟩, ⟨(some 2),.mv (.con (.c (.imm (.sc (.int .i64 0))))),none⟩]) (.seq (.seq (.region none [⟨(some 4),.load 10 true (.tmp 1),none⟩, ⟨(some 5),.call 23 [(.tmp 4)],none⟩, ⟨(some 3),.mv (.tmp 5),none⟩]) (.seq (.region none [⟨(some 6),.mv (.tmp 3),none⟩, ⟨(some 7),.bin .neq (.tmp 6) (.con (.c (.imm (.sc (.int .i64 0))))),none⟩]) (.cond (.tmp 7) (.seq (.region none [⟨(some 8),.mv (.tmp 3),none⟩, ⟨(some 2),.mv (.tmp 8),none⟩]) .ret) .skip))) (.seq (.seq (.region none [⟨(some 9),.fld 0 (.tmp 1),none⟩, ⟨(some 10),.fld 0 (.tmp 9),none⟩, ⟨(some 11),.load 1 false (.tmp 10),none⟩, ⟨(some 12),.bin .lss (.tmp 11) (.con (.c (.imm (.sc (.int .i64 0))))),none⟩, ⟨(some 13),.mv (.tmp 12),none⟩, ⟨(some 14),.fld 0 (.tmp 1),(some (13,false))⟩, ⟨(some 15),.fld 0 (.tmp 14),(some (13,false))⟩, ⟨(some 16),.load 1 false (.tmp 15),(some (13,false))⟩, ⟨(some 17),.fld 0 (.tmp 1),(some (13,false))⟩, ⟨(some 18),.fld 1 (.tmp 17),(some (13,false))⟩, ⟨(some 19),.load 1 false (.tmp 18),(some (13,false))⟩, ⟨(some 20),.bin .gtr (.tmp 16) (.tmp 19),(some (13,false))⟩, ⟨(some 21),.pick (.tmp 13) (.con (.c (.imm (.sc (.bool true))))) (.tmp 20),none⟩, ⟨(some 22),.mv (.tmp 21),none⟩, ⟨(some 23),.fld 0 (.tmp 1),(some (22,false))⟩, ⟨(some 24),.fld 1 (.tmp 23),(some (22,false))⟩, ⟨(some 25),.load 1 false (.tmp 24),(some (22,false))⟩, ⟨(some 26),.bin .gtr (.tmp 25) (.con (.c (.imm (.sc (.int .i64 1000000000000))))),(some (22,false))⟩, ⟨(some 27),.pick (.tmp 22) (.con (.c (.imm (.sc (.bool true))))) (.tmp 26),none⟩]) (.cond (.tmp 27) (.seq (.region none [⟨(some 2),.mv (.con (.c (.imm (.sc (.int .i64 2))))),none⟩]) .ret) .skip)) (.seq (.seq (.region none [⟨(some 28),.load 10 true (.tmp 1),none⟩, ⟨(some 29),.call 24 [(.tmp 28)],none⟩]) (.cond (.tmp 29) (.seq (.region none [⟨(some 2),.mv (.con (.c (.imm (.sc (.int .i64 10))))),none⟩]) .ret) .skip)) (.seq (.region none [⟨(some 2),.mv (.con (.c (.imm (.sc (.int .i64 0))))),none⟩]) .ret)))))
theorem c21 : (Try.f21.body.bind fun c => cCode Try.prog 30 c) = some v21 := by kernel_rfl
def v26 : VC := (.seq (.region none [⟨(some 2),.box 54 (.tmp 0),none⟩, ⟨(some 3),.mv (.con (.c (.imm (.sc (.bool false))))),none⟩]) (.seq (.region none [⟨(some 4),.fld 0 (.tmp 2),none⟩, ⟨(some 5),.load 1 false (.tmp 4),none⟩, ⟨(some 6),.load 1 false (.tmp 1),none⟩, ⟨(some 7),.bin .eql (.tmp 5) (.tmp 6),none⟩, ⟨(some 3),.mv (.tmp 7),none⟩]) .ret))
theorem c26 : (Try.f26.body.bind fun c => cCode Try.prog 8 c) = some v26 := by kernel_rfl
def v58 : VC := (.seq (.region none [⟨(some 4),.mv (.con (.c (.imm (.sc (.int .i64 0))))),none⟩]) (.seq (.seq (.region none [⟨(some 6),.mv (.tmp 0),none⟩, ⟨(some 7),.lenS (.tmp 6),none⟩, ⟨(some 8),.mv (.con (.c (.imm (.sc (.int .i64 0))))),none⟩]) (.block 0 (.loop (.seq (.region none [⟨(some 9),.bin .lss (.tmp 8) (.tmp 7),none⟩]) (.seq (.cond (.tmp 9) .skip (.exit 0)) (.seq (.block 1 (.seq (.region none [⟨(some 10),.mv (.tmp 8),none⟩, ⟨(some 5),.mv (.tmp 10),none⟩]) (.seq (.region none [⟨(some 11),.mv (.tmp 1),none⟩, ⟨(some 12),.mv (.tmp 0),none⟩, ⟨(some 13),.mv (.tmp 5),none⟩, ⟨(some 14),.ixA 3 (.tmp 12) (.tmp 13),none⟩, ⟨(some 15),.load 3 true (.tmp 14),none⟩, ⟨(some 16),.callv (.tmp 11) [(.tmp 15)],none⟩]) (.cond (.tmp 16) (.seq (.region none [⟨(some 17),.mv (.tmp 5),none⟩, ⟨(some 4),.mv (.tmp 17),none⟩]) .ret) .skip)))) (.region none [⟨(some 18),.bin .add (.tmp 8) (.con (.c (.imm (.sc (.int .i64 1))))),none⟩, ⟨(some 8),.mv (.tmp 18),none⟩]))))))) (.seq (.region none [⟨(some 4),.mv (.con (.c (.imm (.sc (.int .i64 (-1)))))),none⟩]) .ret)))
theorem c58 : (Try.f58.body.bind fun c => cCode Try.prog 19 c) = some v58 := by kernel_rfl
def v25 : VC := (.seq (.region none [⟨(some 4),.mv (.con (.c (.imm (.sc (.bool false))))),none⟩]) (.seq (.region none [⟨(some 5),.mv (.tmp 0),none⟩, ⟨(some 6),.mv (.tmp 1),none⟩, ⟨(some 7),.call 58 [(.tmp 5),(.tmp 6)],none⟩, ⟨(some 8),.bin .geq (.tmp 7) (.con (.c (.imm (.sc (.int .i64 0))))),none⟩, ⟨(some 4),.mv (.tmp 8),none⟩]) .ret))
theorem c25 : (Try.f25.body.bind fun c => cCode Try.prog 9 c) = some v25 := by kernel_rfl
def v22 : VC := (.seq (.region none [⟨(some 2),.box 33 (.tmp 0),none⟩, ⟨(some 3),.box 3 (.tmp 1),none⟩, ⟨(some 4),.mv (.con (.c (.imm (.sc (.bool false))))),none⟩]) (.seq (.region none [⟨(some 5),.fld 2 (.tmp 2),none⟩, ⟨(some 6),.load 1 false (.tmp 5),none⟩, ⟨(some 7),.mkfn 26 [(.tmp 3)],none⟩, ⟨(some 8),.call 25 [(.tmp 6),(.tmp 7)],none⟩, ⟨(some 4),.mv (.tmp 8),none⟩]) .ret))
theorem c22 : (Try.f22.body.bind fun c => cCode Try.prog 9 c) = some v22 := by kernel_rfl
def v9 : VC := (.seq (.region none [⟨(some 6),.alloc 37 [(.imm (.sc (.int .i64 0))),(.imm (.sc (.int .i64 0))),(.imm (.sc (.int .i64 0))),(.imm (.sc (.int .i64 0))),(.imm (.sc (.int .i64 0))),(.imm (.sc (.int .i64 0))),(.imm (.sc (.int .i64 0)))],none⟩, ⟨(some 7),.mv (.con (.c (.imm (.sc (.bool false))))),none⟩]) (.seq (.seq (.region none [⟨(some 10),.mv (.tmp 0),none⟩, ⟨(some 11),.lenS (.tmp 10),none⟩, ⟨(some 12),.mv (.con (.c (.imm (.sc (.int .i64 0))))),none⟩]) (.block 0 (.loop (.seq (.region none [⟨(some 13),.bin .lss (.tmp 12) (.tmp 11),none⟩]) (.seq (.cond (.tmp 13) .skip (.exit 0)) (.seq (.block 1 (.seq (.region none [⟨(some 14),.ixA 7 (.tmp 10) (.tmp 12),none⟩, ⟨(some 15),.load 7 true (.tmp 14),none⟩, ⟨(some 9),.alloc 37 [(.imm (.sc (.int .i64 0))),(.imm (.sc (.int .i64 0))),(.imm (.sc (.int .i64 0))),(.imm (.sc (.int .i64 0))),(.imm (.sc (.int .i64 0))),(.imm (.sc (.int .i64 0))),(.imm (.sc (.int .i64 0)))],none⟩, ⟨none,.store 7 (.tmp 9) (.tmp 15),none⟩]) (.seq (.region none [⟨(some 16),.fld 0 (.tmp 9),none⟩, ⟨(some 17),.load 1 false (.tmp 16),none⟩, ⟨(some 18),.mv (.tmp 1),none⟩, ⟨(some 19),.bin .eql (.tmp 17) (.tmp 18),none⟩, ⟨(some 20),.mv (.tmp 19),none⟩, ⟨(some 21),.fld 2 (.tmp 9),(some (20,true))⟩, ⟨(some 22),.fld 0 (.tmp 21),(some (20,true))⟩, ⟨(some 23),.load 1 false (.tmp 22),(some (20,true))⟩, ⟨(some 24),.mv (.tmp 2),(some (20,true))⟩, ⟨(some 25),.bin .leq (.tmp 23) (.tmp 24),(some (20,true))⟩, ⟨(some 26),.pick (.tmp 20) (.tmp 25) (.con (.c (.imm (.sc (.bool false))))),none⟩, ⟨(some 27),.mv (.tmp 26),none⟩, ⟨(some 28),.mv (.tmp 2),(some (27,true))⟩, ⟨(some 29),.fld 2 (.tmp 9),(some (27,true))⟩, ⟨(some 30),.fld 1 (.tmp 29),(some (27,true))⟩, ⟨(some 31),.load 1 false (.tmp 30),(some (27,true))⟩, ⟨(some 32),.bin .lss (.tmp 28) (.tmp 31),(some (27,true))⟩, ⟨(some 33),.pick (.tmp 27) (.tmp 32) (.con (.c (.imm (.sc (.bool false))))),none⟩]) (.cond (.tmp 33) (.seq (.region none [⟨(some 34),.load 7 true (.tmp 9),none⟩, ⟨none,.store 7 (.tmp 6) (.tmp 34),none⟩, ⟨(some 7),.mv (.con (.c (.imm (.sc (.bool true))))),none⟩]) .ret) .skip)))) (.region none [⟨(some 35),.bin .add (.tmp 12) (.con (.c (.imm (.sc (.int .i64 1))))),none⟩, ⟨(some 12),.mv (.tmp 35),none⟩]))))))) (.seq (.region none [⟨(some 36),.build [(.imm (.sc (.int .i64 0))),(.imm (.sc (.int .i64 0))),(.imm (.sc (.int .i64 0))),(.imm (.sc (.int .i64 0))),(.imm (.sc (.int .i64 0))),(.imm (.sc (.int .i64 0))),(.imm (.sc (.int .i64 0)))] [],none⟩, ⟨none,.store 7 (.tmp 6) (.tmp 36),none⟩, ⟨(some 7),.mv (.con (.c (.imm (.sc (.bool false))))),none⟩]) .ret)))
theorem c9 : (Try.f9.body.bind fun c => cCode Try.prog 37 c) = some v9 := by kernel_rfl
def v15 : VC := (.seq (.region none [⟨(some 3),.box 33 (.tmp 0),none⟩, ⟨(some 5),.box 23 (.tmp 2),none⟩, ⟨(some 6),.mv (.con (.c (.imm (.sc (.int .i64 0))))),none⟩]) (.seq (.seq (.region none [⟨(some 12),.load 10 true (.tmp 3),none⟩, ⟨(some 13),.call 21 [(.tmp 12)],none⟩, ⟨(some 7),.mv (.tmp 13),none⟩]) (.seq (.region none [⟨(some 14),.mv (.tmp 7),none⟩, ⟨(some 15),.bin .neq (.tmp 14) (.con (.c (.imm (.sc (.int .i64 0))))),none⟩]) (.cond (.tmp 15) (.seq (.region none [⟨(some 16),.mv (.tmp 7),none⟩, ⟨(some 6),.mv (.tmp 16),none⟩]) .ret) .skip))) (.seq (.seq (.region none [⟨(some 17),.load 10 true (.tmp 3),none⟩, ⟨(some 18),.mv (.tmp 1),none⟩, ⟨(some 19),.call 22 [(.tmp 17),(.tmp 18)],none⟩, ⟨(some 20),.un .not (.tmp 19),none⟩]) (.cond (.tmp 20) (.seq (.region none [⟨(some 6),.mv (.con (.c (.imm (.sc (.int .i64 5))))),none⟩]) .ret) .skip)) (.seq (.region none [⟨(some 22),.fld 4 (.tmp 3),none⟩, ⟨(some 23),.load 1 false (.tmp 22),none⟩, ⟨(some 24),.mv (.tmp 1),none⟩, ⟨(some 25),.fld 0 (.tmp 5),none⟩, ⟨(some 26),.load 1 false (.tmp 25),none⟩, ⟨(some 27),.call 9 [(.tmp 23),(.tmp 24),(.tmp 26)],none⟩, ⟨(some 21),.mv (.tmp 27),none⟩, ⟨(some 28),.ext (.tmp 21) 0,none⟩, ⟨(some 29),.ext (.tmp 21) 1,none⟩, ⟨(some 8),.alloc 37 [(.imm (.sc (.int .i64 0))),(.imm (.sc (.int .i64 0))),(.imm (.sc (.int .i64 0))),(.imm (.sc (.int .i64 0))),(.imm (.sc (.int .i64 0))),(.imm (.sc (.int .i64 0))),(.imm (.sc (.int .i64 0)))],none⟩, ⟨none,.store 7 (.tmp 8) (.tmp 28),none⟩, ⟨(some 9),.mv (.tmp 29),none⟩]) (.seq (.region none [⟨(some 31),.fld 4 (.tmp 3),none⟩, ⟨(some 32),.load 1 false (.tmp 31),none⟩, ⟨(some 33),.mv (.tmp 1),none⟩, ⟨(some 34),.fld 1 (.tmp 5),none⟩, ⟨(some 35),.load 1 false (.tmp 34),none⟩, ⟨(some 36),.bin .sub (.tmp 35) (.con (.c (.imm (.sc (.int .i64 1))))),none⟩, ⟨(some 37),.call 9 [(.tmp 32),(.tmp 33),(.tmp 36)],none⟩, ⟨(some 30),.mv (.tmp 37),none⟩, ⟨(some 38),.ext (.tmp 30) 0,none⟩, ⟨(some 39),.ext (.tmp 30) 1,none⟩, ⟨(some 10),.alloc 37 [(.imm (.sc (.int .i64 0))),(.imm (.sc (.int .i64 0))),(.imm (.sc (.int .i64 0))),(.imm (.sc (.int .i64 0))),(.imm (.sc (.int .i64 0))),(.imm (.sc (.int .i64 0))),(.imm (.sc (.int .i64 0)))],none⟩, ⟨none,.store 7 (.tmp 10) (.tmp 38),none⟩, ⟨(some 11),.mv (.tmp 39),none⟩]) (.seq (.seq (.region none [⟨(some 40),.load 2 true (.tmp 5),none⟩, ⟨(some 41),.call 18 [(.tmp 40)],none⟩, ⟨(some 42),.un .not (.tmp 41),none⟩, ⟨(some 43),.mv (.tmp 42),none⟩, ⟨(some 44),.mv (.tmp 9),(some (43,false))⟩, ⟨(some 45),.un .not (.tmp 44),(some (43,false))⟩, ⟨(some 46),.pick (.tmp 43) (.con (.c (.imm (.sc (.bool true))))) (.tmp 45),none⟩, ⟨(some 47),.mv (.tmp 46),none⟩, ⟨(some 48),.mv (.tmp 11),(some (47,false))⟩, ⟨(some 49),.un .not (.tmp 48),(some (47,false))⟩, ⟨(some 50),.pick (.tmp 47) (.con (.c (.imm (.sc (.bool true))))) (.tmp 49),none⟩]) (.cond (.tmp 50) (.seq (.region none [⟨(some 6),.mv (.con (.c (.imm (.sc (.int .i64 1))))),none⟩]) .ret) .skip)) (.seq (.region none [⟨(some 6),.mv (.con (.c (.imm (.sc (.int .i64 0))))),none⟩]) .ret)))))))
theorem c15 : (Try.f15.body.bind fun c => cCode Try.prog 51 c) = some v15 := by kernel_rfl
def v16 : VC := (.seq (.region none [⟨(some 3),.box 33 (.tmp 0),none⟩, ⟨(some 6),.mv (.con (.c (.imm (.sc (.int .i64 0))))),none⟩, ⟨(some 7),.mv (.con (.c (.imm (.sc (.bool false))))),none⟩]) (.seq (.region none [⟨(some 12),.fld 4 (.tmp 3),none⟩, ⟨(some 13),.load 1 false (.tmp 12),none⟩, ⟨(some 14),.mv (.tmp 1),none⟩, ⟨(some 15),.mv (.tmp 2),none⟩, ⟨(some 16),.bin .sub (.tmp 15) (.con (.c (.imm (.sc (.int .i64 1))))),none⟩, ⟨(some 17),.call 9 [(.tmp 13),(.tmp 14),(.tmp 16)],none⟩, ⟨(some 11),.mv (.tmp 17),none⟩, ⟨(some 18),.ext (.tmp 11) 0,none⟩, ⟨(some 19),.ext (.tmp 11) 1,none⟩, ⟨(some 8),.alloc 37 [(.imm (.sc (.int .i64 0))),(.imm (.sc (.int .i64 0))),(.imm (.sc (.int .i64 0))),(.imm (.sc (.int .i64 0))),(.imm (.sc (.int .i64 0))),(.imm (.sc (.int .i64 0))),(.imm (.sc (.int .i64 0)))],none⟩, ⟨none,.store 7 (.tmp 8) (.tmp 18),none⟩, ⟨(some 9),.mv (.tmp 19),none⟩]) (.seq (.region none [⟨(some 20),.fld 1 (.tmp 8),none⟩, ⟨(some 21),.load 1 false (.tmp 20),none⟩, ⟨(some 22),.bin .eql (.tmp 21) (.con (.c (.imm (.sc (.int .i64 1))))),none⟩, ⟨(some 23),.mv (.tmp 22),none⟩, ⟨(some 24),.fld 1 (.tmp 8),(some (23,false))⟩, ⟨(some 25),.load 1 false (.tmp 24),(some (23,false))⟩, ⟨(some 26),.bin .eql (.tmp 25) (.con (.c (.imm (.sc (.int .i64 2))))),(some (23,false))⟩, ⟨(some 27),.pick (.tmp 23) (.con (.c (.imm (.sc (.bool true))))) (.tmp 26),none⟩, ⟨(some 10),.mv (.tmp 27),none⟩]) (.seq (.seq (.region none [⟨(some 28),.mv (.tmp 9),none⟩, ⟨(some 29),.un .not (.tmp 28),none⟩, ⟨(some 30),.mv (.tmp 29),none⟩, ⟨(some 31),.mv (.tmp 10),(some (30,false))⟩, ⟨(some 32),.un .not (.tmp 31),(some (30,false))⟩, ⟨(some 33),.pick (.tmp 30) (.con (.c (.imm (.sc (.bool true))))) (.tmp 32),none⟩, ⟨(some 34),.mv (.tmp 33),none⟩, ⟨(some 35),.fld 2 (.tmp 8),(some (34,false))⟩, ⟨(some 36),.fld 1 (.tmp 35),(some (34,false))⟩, ⟨(some 37),.load 1 false (.tmp 36),(some (34,false))⟩, ⟨(some 38),.mv (.tmp 2),(some (34,false))⟩, ⟨(some 39),.bin .neq (.tmp 37) (.tmp 38),(some (34,false))⟩, ⟨(some 40),.pick (.tmp 34) (.con (.c (.imm (.sc (.bool true))))) (.tmp 39),none⟩, ⟨(some 41),.mv (.tmp 40),none⟩, ⟨(some 42),.load 10 true (.tmp 3),(some (41,false))⟩, ⟨(some 43),.fld 6 (.tmp 8),(some (41,false))⟩, ⟨(some 44),.load 1 false (.tmp 43),(some (41,false))⟩, ⟨(some 45),.call 22 [(.tmp 42),(.tmp 44)],(some (41,false))⟩, ⟨(some 46),.un .not (.tmp 45),(some (41,false))⟩, ⟨(some 47),.pick (.tmp 41) (.con (.c (.imm (.sc (.bool true))))) (.tmp 46),none⟩]) (.cond (.tmp 47) (.seq (.region none [⟨(some 6),.mv (.con (.c (.imm (.sc (.int .i64 0))))),none⟩, ⟨(some 7),.mv (.con (.c (.imm (.sc (.bool false))))),none⟩]) .ret) .skip)) (.seq (.region none [⟨(some 48),.fld 6 (.tmp 8),none⟩, ⟨(some 49),.load 1 false (.tmp 48),none⟩, ⟨(some 6),.mv (.tmp 49),none⟩, ⟨(some 7),.mv (.con (.c (.imm (.sc (.bool true))))),none⟩]) .ret)))))
theorem c16 : (Try.f16.body.bind fun c => cCode Try.prog 50 c) = some v16 := by kernel_rfl
def v17 : VC := (.seq (.region none [⟨(some 4),.mv (.tmp 0),none⟩, ⟨(some 5),.lenS (.tmp 4),none⟩, ⟨(some 6),.bin .sub (.tmp 5) (.con (.c (.imm (.sc (.int .i64 1))))),none⟩, ⟨(some 2),.mv (.con (.c (.imm (.sc (.int .i64 0))))),none⟩, ⟨(some 3),.mv (.tmp 6),none⟩]) (.block 0 (.loop (.seq (.seq (.region none [⟨(some 7),.mv (.tmp 2),none⟩, ⟨(some 8),.mv (.tmp 3),none⟩, ⟨(some 9),.bin .lss (.tmp 7) (.tmp 8),none⟩]) (.cond (.tmp 9) .skip (.exit 0))) (.seq (.block 1 (.region (some [0,0,0,0,0,0,48,112,0,0,768,1792,4083,8179,16383,32767]) [⟨(some 14),.mv (.tmp 0),none⟩, ⟨(some 15),.mv (.tmp 2),none⟩, ⟨(some 16),.mv (.tmp 0),none⟩, ⟨(some 17),.mv (.tmp 3),none⟩, ⟨(some 18),.mv (.tmp 0),none⟩, ⟨(some 19),.mv (.tmp 3),none⟩, ⟨(some 20),.ixA 4 (.tmp 18) (.tmp 19),none⟩, ⟨(some 21),.load 4 true (.tmp 20),none⟩, ⟨(some 22),.mv (.tmp 0),none⟩, ⟨(some 23),.mv (.tmp 2),none⟩, ⟨(some 24),.ixA 4 (.tmp 22) (.tmp 23),none⟩, ⟨(some 25),.load 4 true (.tmp 24),none⟩, ⟨(some 26),.ixA 4 (.tmp 14) (.tmp 15),none⟩, ⟨none,.store 4 (.tmp 26) (.tmp 21),none⟩, ⟨(some 27),.ixA 4 (.tmp 16) (.tmp 17),none⟩, ⟨none,.store 4 (.tmp 27) (.tmp 25),none⟩])) (.region none [⟨(some 10),.mv (.tmp 2),none⟩, ⟨(some 11),.bin .add (.tmp 10) (.con (.c (.imm (.sc (.int .i64 1))))),none⟩, ⟨(some 12),.mv (.tmp 3),none⟩, ⟨(some 13),.bin .sub (.tmp 12) (.con (.c (.imm (.sc (.int .i64 1))))),none⟩, ⟨(some 2),.mv (.tmp 11),none⟩, ⟨(some 3),.mv (.tmp 13),none⟩]))))))
theorem c17 : (Try.f17.body.bind fun c => cCode Try.prog 28 c) = some v17 := by kernel_rfl
def v8 : VC := (.seq (.region none [⟨(some 3),.box 33 (.tmp 0),none⟩, ⟨(some 5),.box 23 (.tmp 2),none⟩, ⟨(some 6),.mv (.con (.c .nilS)),none⟩, ⟨(some 7),.mv (.con (.c (.imm (.sc (.int .i64 0))))),none⟩]) (.seq (.seq (.region none [⟨(some 17),.load 10 true (.tmp 3),none⟩, ⟨(some 18),.mv (.tmp 1),none⟩, ⟨(some 19),.load 2 true (.tmp 5),none⟩, ⟨(some 20),.call 15 [(.tmp 17),(.tmp 18),(.tmp 19)],none⟩, ⟨(some 8),.mv (.tmp 20),none⟩]) (.seq (.region none [⟨(some 21),.mv (.tmp 8),none⟩, ⟨(some 22),.bin .neq (.tmp 21) (.con (.c (.imm (.sc (.int .i64 0))))),none⟩]) (.cond (.tmp 22) (.seq (.region none [⟨(some 23),.mv (.tmp 8),none⟩, ⟨(some 6),.mv (.con (.c .nilS)),none⟩, ⟨(some 7),.mv (.tmp 23),none⟩]) .ret) .skip))) (.seq (.region none [⟨(some 9),.mv (.con (.c .nilS)),none⟩]) (.seq (.seq (.region none [⟨(some 24),.fld 1 (.tmp 5),none⟩, ⟨(some 25),.load 1 false (.tmp 24),none⟩, ⟨(some 10),.mv (.tmp 25),none⟩]) (.block 0 (.loop (.seq (.seq (.region none [⟨(some 26),.mv (.tmp 10),none⟩, ⟨(some 27),.fld 0 (.tmp 5),none⟩, ⟨(some 28),.load 1 false (.tmp 27),none⟩, ⟨(some 29),.bin .gtr (.tmp 26) (.tmp 28),none⟩]) (.cond (.tmp 29) .skip (.exit 0))) (.block 1 (.seq (.region none [⟨(some 30),.mkmap (.int .i64),none⟩, ⟨(some 31),.mv (.tmp 1),none⟩, ⟨none,.mupd (.int .i64) (.tmp 30) (.tmp 31) (.con (.c (.imm (.sc (.bool true))))),none⟩, ⟨(some 32),.mv (.tmp 30),none⟩, ⟨(some 11),.mv (.tmp 32),none⟩]) (.seq (.seq (.region none [⟨(some 34),.load 10 true (.tmp 3),none⟩, ⟨(some 35),.mv (.tmp 1),none⟩, ⟨(some 36),.mv (.tmp 10),none⟩, ⟨(some 37),.call 16 [(.tmp 34),(.tmp 35),(.tmp 36)],none⟩, ⟨(some 33),.mv (.tmp 37),none⟩, ⟨(some 38),.ext (.tmp 33) 0,none⟩, ⟨(some 39),.ext (.tmp 33) 1,none⟩, ⟨(some 12),.mv (.tmp 38),none⟩, ⟨(some 13),.mv (.tmp 39),none⟩]) (.block 2 (.loop (.seq (.seq (.region none [⟨(some 40),.mv (.tmp 13),none⟩, ⟨(some 41),.mv (.tmp 40),none⟩, ⟨(some 42),.mv (.tmp 11),(some (41,true))⟩, ⟨(some 43),.mv (.tmp 12),(some (41,true))⟩, ⟨(some 44),.look (.int .i64) (.c (.imm (.sc (.bool false)))) false (.tmp 42) (.tmp 43),(some (41,true))⟩, ⟨(some 45),.un .not (.tmp 44),(some (41,true))⟩, ⟨(some 46),.pick (.tmp 41) (.tmp 45) (.con (.c (.imm (.sc (.bool false))))),none⟩]) (.cond (.tmp 46) .skip (.exit 2))) (.seq (.block 3 (.seq (.region none [⟨(some 54),.mv (.tmp 12),none⟩, ⟨(some 1),.mv (.tmp 54),none⟩]) (.region none [⟨(some 55),.mv (.tmp 11),none⟩, ⟨(some 56),.mv (.tmp 12),none⟩, ⟨none,.mupd (.int .i64) (.tmp 55) (.tmp 56) (.con (.c (.imm (.sc (.bool true))))),none⟩]))) (.region none [⟨(some 48),.load 10 true (.tmp 3),none⟩, ⟨(some 49),.mv (.tmp 1),none⟩, ⟨(some 50),.mv (.tmp 10),none⟩, ⟨(some 51),.call 16 [(.tmp 48),(.tmp 49),(.tmp 50)],none⟩, ⟨(some 47),.mv (.tmp 51),none⟩, ⟨(some 52),.ext (.tmp 47) 0,none⟩, ⟨(some 53),.ext (.tmp 47) 1,none⟩, ⟨(some 12),.mv (.tmp 52),none⟩, ⟨(some 13),.mv (.tmp 53),none⟩])))))) (.seq (.region none [⟨(some 58),.fld 4 (.tmp 3),none⟩, ⟨(some 59),.load 1 false (.tmp 58),none⟩, ⟨(some 60),.mv (.tmp 1),none⟩, ⟨(some 61),.mv (.tmp 10),none⟩, ⟨(some 62),.bin .sub (.tmp 61) (.con (.c (.imm (.sc (.int .i64 1))))),none⟩, ⟨(some 63),.call 9 [(.tmp 59),(.tmp 60),(.tmp 62)],none⟩, ⟨(some 57),.mv (.tmp 63),none⟩, ⟨(some 64),.ext (.tmp 57) 0,none⟩, ⟨(some 65),.ext (.tmp 57) 1,none⟩, ⟨(some 14),.alloc 37 [(.imm (.sc (.int .i64 0))),(.imm (.sc (.int .i64 0))),(.imm (.sc (.int .i64 0))),(.imm (.sc (.int .i64 0))),(.imm (.sc (.int .i64 0))),(.imm (.sc (.int .i64 0))),(.imm (.sc (.int .i64 0)))],none⟩, ⟨none,.store 7 (.tmp 14) (.tmp 64),none⟩, ⟨(some 15),.mv (.tmp 65),none⟩]) (.seq (.seq (.region none [⟨(some 66),.mv (.tmp 15),none⟩, ⟨(some 67),.un .not (.tmp 66),none⟩]) (.cond (.tmp 67) (.seq (.region none [⟨(some 6),.mv (.con (.c .nilS)),none⟩, ⟨(some 7),.mv (.con (.c (.imm (.sc (.int .i64 1))))),none⟩]) .ret) .skip)) (.seq (.region none [⟨(some 68),.mv (.tmp 1),none⟩, ⟨(some 69),.fld 1 (.tmp 14),none⟩, ⟨(some 70),.load 1 false (.tmp 69),none⟩, ⟨(some 71),.fld 2 (.tmp 14),none⟩, ⟨(some 72),.fld 0 (.tmp 71),none⟩, ⟨(some 73),.load 1 false (.tmp 72),none⟩, ⟨(some 74),.fld 0 (.tmp 5),none⟩, ⟨(some 75),.load 1 false (.tmp 74),none⟩, ⟨(some 76),.mm true [(.tmp 73),(.tmp 75)],none⟩, ⟨(some 77),.mv (.tmp 10),none⟩, ⟨(some 78),.build [(.imm (.sc (.int .i64 0))),(.imm (.sc (.int .i64 0)))] [(0,1,(.tmp 76)),(1,1,(.tmp 77))],none⟩, ⟨(some 79),.build [(.imm (.sc (.int .i64 0))),(.imm (.sc (.int .i64 0))),(.imm (.sc (.int .i64 0))),(.imm (.sc (.int .i64 0)))] [(0,1,(.tmp 68)),(1,1,(.tmp 70)),(2,2,(.tmp 78))],none⟩, ⟨(some 16),.alloc 44 [(.imm (.sc (.int .i64 0))),(.imm (.sc (.int .i64 0))),(.imm (.sc (.int .i64 0))),(.imm (.sc (.int .i64 0)))],none⟩, ⟨none,.store 4 (.tmp 16) (.tmp 79),none⟩]) (.seq (.region none [⟨(some 80),.mv (.tmp 9),none⟩, ⟨(some 81),.load 4 true (.tmp 16),none⟩, ⟨(some 82),.bsl 44 4 1 [(.imm (.sc (.int .i64 0))),(.imm (.sc (.int .i64 0))),(.imm (.sc (.int .i64 0))),(.imm (.sc (.int .i64 0)))] [(0,4,(.tmp 81))],none⟩, ⟨(some 83),.app 44 4 32 (.tmp 80) (.tmp 82),none⟩, ⟨(some 9),.mv (.tmp 83),none⟩]) (.region none [⟨(some 84),.fld 2 (.tmp 16),none⟩, ⟨(some 85),.fld 0 (.tmp 84),none⟩, ⟨(some 86),.load 1 false (.tmp 85),none⟩, ⟨(some 10),.mv (.tmp 86),none⟩])))))))))))) (.seq (.region none [⟨(some 87),.mv (.tmp 9),none⟩, ⟨(some 88),.call 17 [(.tmp 87)],none⟩]) (.seq (.region none [⟨(some 89),.mv (.tmp 9),none⟩, ⟨(some 6),.mv (.tmp 89),none⟩, ⟨(some 7),.mv (.con (.c (.imm (.sc (.int .i64 0))))),none⟩]) .ret))))))
theorem c8 : (Try.f8.body.bind fun c => cCode Try.prog 90 c) = some v8 := by kernel_rfl
def v14 : VC := (.seq (.region none [⟨(some 4),.mv (.con (.c (.imm (.sc (.bool false))))),none⟩]) (.seq (.seq (.region none [⟨(some 6),.mv (.tmp 0),none⟩, ⟨(some 7),.lenS (.tmp 6),none⟩, ⟨(some 8),.mv (.tmp 1),none⟩, ⟨(some 9),.lenS (.tmp 8),none⟩, ⟨(some 10),.bin .neq (.tmp 7) (.tmp 9),none⟩]) (.cond (.tmp 10) (.seq (.region none [⟨(some 4),.mv (.con (.c (.imm (.sc (.bool false))))),none⟩]) .ret) .skip)) (.seq (.seq (.region none [⟨(some 5),.mv (.con (.c (.imm (.sc (.int .i64 0))))),none⟩]) (.block 0 (.loop (.seq (.seq (.region none [⟨(some 11),.mv (.tmp 5),none⟩, ⟨(some 12),.mv (.tmp 0),none⟩, ⟨(some 13),.lenS (.tmp 12),none⟩, ⟨(some 14),.bin .lss (.tmp 11) (.tmp 13),none⟩]) (.cond (.tmp 14) .skip (.exit 0))) (.seq (.block 1 (.seq (.region (some [0,0,3,7,0,0,48,112,255]) [⟨(some 17),.mv (.tmp 0),none⟩, ⟨(some 18),.mv (.tmp 5),none⟩, ⟨(some 19),.ixA 4 (.tmp 17) (.tmp 18),none⟩, ⟨(some 20),.load 4 true (.tmp 19),none⟩, ⟨(some 21),.mv (.tmp 1),none⟩, ⟨(some 22),.mv (.tmp 5),none⟩, ⟨(some 23),.ixA 4 (.tmp 21) (.tmp 22),none⟩, ⟨(some 24),.load 4 true (.tmp 23),none⟩, ⟨(some 25),.aeq true 44 (.tmp 20) (.tmp 24),none⟩]) (.cond (.tmp 25) (.seq (.region none [⟨(some 4),.mv (.con (.c (.imm (.sc (.bool false))))),none⟩]) .ret) .skip))) (.region none [⟨(some 15),.mv (.tmp 5),none⟩, ⟨(some 16),.bin .add (.tmp 15) (.con (.c (.imm (.sc (.int .i64 1))))),none⟩, ⟨(some 5),.mv (.tmp 16),none⟩])))))) (.seq (.region none [⟨(some 4),.mv (.con (.c (.imm (.sc (.bool true))))),none⟩]) .ret))))
theorem c14 : (Try.f14.body.bind fun c => cCode Try.prog 26 c) = some v14 := by kernel_rfl
def v19 : VC := (.seq (.region none [⟨(some 2),.box 33 (.tmp 0),none⟩, ⟨(some 3),.box 44 (.tmp 1),none⟩, ⟨(some 4),.mv (.con (.c (.imm (.sc (.bool false))))),none⟩]) (.seq (.region none [⟨(some 8),.fld 4 (.tmp 2),none⟩, ⟨(some 9),.load 1 false (.tmp 8),none⟩, ⟨(some 10),.fld 0 (.tmp 3),none⟩, ⟨(some 11),.load 1 false (.tmp 10),none⟩, ⟨(some 12),.fld 2 (.tmp 3),none⟩, ⟨(some 13),.fld 0 (.tmp 12),none⟩, ⟨(some 14),.load 1 false (.tmp 13),none⟩, ⟨(some 15),.call 9 [(.tmp 9),(.tmp 11),(.tmp 14)],none⟩, ⟨(some 7),.mv (.tmp 15),none⟩, ⟨(some 16),.ext (.tmp 7) 0,none⟩, ⟨(some 17),.ext (.tmp 7) 1,none⟩, ⟨(some 5),.alloc 37 [(.imm (.sc (.int .i64 0))),(.imm (.sc (.int .i64 0))),(.imm (.sc (.int .i64 0))),(.imm (.sc (.int .i64 0))),(.imm (.sc (.int .i64 0))),(.imm (.sc (.int .i64 0))),(.imm (.sc (.int .i64 0)))],none⟩, ⟨none,.store 7 (.tmp 5) (.tmp 16),none⟩, ⟨(some 6),.mv (.tmp 17),none⟩]) (.seq (.region none [⟨(some 18),.mv (.tmp 6),none⟩, ⟨(some 19),.mv (.tmp 18),none⟩, ⟨(some 20),.fld 1 (.tmp 5),(some (19,true))⟩, ⟨(some 21),.load 1 false (.tmp 20),(some (19,true))⟩, ⟨(some 22),.fld 1 (.tmp 3),(some (19,true))⟩, ⟨(some 23),.load 1 false (.tmp 22),(some (19,true))⟩, ⟨(some 24),.bin .eql (.tmp 21) (.tmp 23),(some (19,true))⟩, ⟨(some 25),.pick (.tmp 19) (.tmp 24) (.con (.c (.imm (.sc (.bool false))))),none⟩, ⟨(some 26),.mv (.tmp 25),none⟩, ⟨(some 27),.fld 2 (.tmp 3),(some (26,true))⟩, ⟨(some 28),.fld 1 (.tmp 27),(some (26,true))⟩, ⟨(some 29),.load 1 false (.tmp 28),(some (26,true))⟩, ⟨(some 30),.fld 2 (.tmp 5),(some (26,true))⟩, ⟨(some 31),.fld 1 (.tmp 30),(some (26,true))⟩, ⟨(some 32),.load 1 false (.tmp 31),(some (26,true))⟩, ⟨(some 33),.bin .leq (.tmp 29) (.tmp 32),(some (26,true))⟩, ⟨(some 34),.pick (.tmp 26) (.tmp 33) (.con (.c (.imm (.sc (.bool false))))),none⟩, ⟨(some 4),.mv (.tmp 34),none⟩]) .ret)))
theorem c19 : (Try.f19.body.bind fun c => cCode Try.prog 35 c) = some v19 := by kernel_rfl
def v20 : VC := (.seq (.region none [⟨(some 4),.box 33 (.tmp 0),none⟩, ⟨(some 8),.mv (.con (.c (.imm (.sc (.bool false))))),none⟩]) (.seq (.seq (.region none [⟨(some 12),.mkmap (.int .i64),none⟩, ⟨(some 9),.mv (.tmp 12),none⟩]) (.block 0 (.loop (.seq (.seq (.region none [⟨(some 13),.mv (.tmp 9),none⟩, ⟨(some 14),.mv (.tmp 1),none⟩, ⟨(some 15),.look (.int .i64) (.c (.imm (.sc (.bool false)))) false (.tmp 13) (.tmp 14),none⟩, ⟨(some 16),.un .not (.tmp 15),none⟩]) (.cond (.tmp 16) .skip (.exit 0))) (.block 1 (.seq (.seq (.region none [⟨(some 17),.mv (.tmp 1),none⟩, ⟨(some 18),.mv (.tmp 2),none⟩, ⟨(some 19),.bin .eql (.tmp 17) (.tmp 18),none⟩]) (.cond (.tmp 19) (.seq (.region none [⟨(some 8),.mv (.con (.c (.imm (.sc (.bool true))))),none⟩]) .ret) .skip)) (.seq (.region none [⟨(some 20),.mv (.tmp 9),none⟩, ⟨(some 21),.mv (.tmp 1),none⟩, ⟨none,.mupd (.int .i64) (.tmp 20) (.tmp 21) (.con (.c (.imm (.sc (.bool true))))),none⟩]) (.seq (.region none [⟨(some 23),.load 10 true (.tmp 4),none⟩, ⟨(some 24),.mv (.tmp 1),none⟩, ⟨(some 25),.mv (.tmp 3),none⟩, ⟨(some 26),.call 16 [(.tmp 23),(.tmp 24),(.tmp 25)],none⟩, ⟨(some 22),.mv (.tmp 26),none⟩, ⟨(some 27),.ext (.tmp 22) 0,none⟩, ⟨(some 28),.ext (.tmp 22) 1,none⟩, ⟨(some 10),.mv (.tmp 27),none⟩, ⟨(some 11),.mv (.tmp 28),none⟩]) (.seq (.seq (.region none [⟨(some 29),.mv (.tmp 11),none⟩, ⟨(some 30),.un .not (.tmp 29),none⟩]) (.cond (.tmp 30) (.seq (.region none [⟨(some 8),.mv (.con (.c (.imm (.sc (.bool false))))),none⟩]) .ret) .skip)) (.region none [⟨(some 31),.mv (.tmp 10),none⟩, ⟨(some 1),.mv (.tmp 31),none⟩])))))))))) (.seq (.region none [⟨(some 8),.mv (.con (.c (.imm (.sc (.bool false))))),none⟩]) .ret)))
theorem c20 : (Try.f20.body.bind fun c => cCode Try.prog 32 c) = some v20 := by kernel_rfl
def v11 : VC := (.seq (.region none [⟨(some 4),.box 33 (.tmp 0),none⟩, ⟨(some 6),.box 23 (.tmp 2),none⟩, ⟨(some 8),.mv (.con (.c (.imm (.sc (.bool false))))),none⟩]) (.seq (.seq (.region (some [0,0,0,7,15,31,63,127,255,511,1023,2047,4095,8191,16383,32767,2047,67583,262143,524287,1048575,2097151,2097151,6291455,14680063,33554431,67108863,134217727,268435455,2097151,538968063,2147483647,4294967295]) [⟨(some 12),.load 10 true (.tmp 4),none⟩, ⟨(some 13),.mv (.tmp 1),none⟩, ⟨(some 14),.load 2 true (.tmp 6),none⟩, ⟨(some 15),.call 15 [(.tmp 12),(.tmp 13),(.tmp 14)],none⟩, ⟨(some 16),.bin .neq (.tmp 15) (.con (.c (.imm (.sc (.int .i64 0))))),none⟩, ⟨(some 17),.mv (.tmp 16),none⟩, ⟨(some 18),.mv (.tmp 3),(some (17,false))⟩, ⟨(some 19),.lenS (.tmp 18),(some (17,false))⟩, ⟨(some 20),.bin .eql (.tmp 19) (.con (.c (.imm (.sc (.int .i64 0))))),(some (17,false))⟩, ⟨(some 21),.pick (.tmp 17) (.con (.c (.imm (.sc (.bool true))))) (.tmp 20),none⟩, ⟨(some 22),.mv (.tmp 21),none⟩, ⟨(some 23),.mv (.tmp 3),(some (22,false))⟩, ⟨(some 24),.ixA 4 (.tmp 23) (.con (.c (.imm (.sc (.int .i64 0))))),(some (22,false))⟩, ⟨(some 25),.fld 2 (.tmp 24),(some (22,false))⟩, ⟨(some 26),.fld 0 (.tmp 25),(some (22,false))⟩, ⟨(some 27),.load 1 false (.tmp 26),(some (22,false))⟩, ⟨(some 28),.fld 0 (.tmp 6),(some (22,false))⟩, ⟨(some 29),.load 1 false (.tmp 28),(some (22,false))⟩, ⟨(some 30),.bin .neq (.tmp 27) (.tmp 29),(some (22,false))⟩, ⟨(some 31),.pick (.tmp 22) (.con (.c (.imm (.sc (.bool true))))) (.tmp 30),none⟩, ⟨(some 32),.mv (.tmp 31),none⟩, ⟨(some 33),.mv (.tmp 3),(some (32,false))⟩, ⟨(some 34),.mv (.tmp 3),(some (32,false))⟩, ⟨(some 35),.lenS (.tmp 34),(some (32,false))⟩, ⟨(some 36),.bin .sub (.tmp 35) (.con (.c (.imm (.sc (.int .i64 1))))),(some (32,false))⟩, ⟨(some 37),.ixA 4 (.tmp 33) (.tmp 36),(some (32,false))⟩, ⟨(some 38),.fld 2 (.tmp 37),(some (32,false))⟩, ⟨(some 39),.fld 1 (.tmp 38),(some (32,false))⟩, ⟨(some 40),.load 1 false (.tmp 39),(some (32,false))⟩, ⟨(some 41),.fld 1 (.tmp 6),(some (32,false))⟩, ⟨(some 42),.load 1 false (.tmp 41),(some (32,false))⟩, ⟨(some 43),.bin .neq (.tmp 40) (.tmp 42),(some (32,false))⟩, ⟨(some 44),.pick (.tmp 32) (.con (.c (.imm (.sc (.bool true))))) (.tmp 43),none⟩]) (.cond (.tmp 44) (.seq (.region none [⟨(some 8),.mv (.con (.c (.imm (.sc (.bool false))))),none⟩]) .ret) .skip)) (.seq (.seq (.region none [⟨(some 45),.mv (.tmp 3),none⟩, ⟨(some 46),.lenS (.tmp 45),none⟩, ⟨(some 47),.mv (.con (.c (.imm (.sc (.int .i64 0))))),none⟩]) (.block 0 (.loop (.seq (.region none [⟨(some 48),.bin .lss (.tmp 47) (.tmp 46),none⟩]) (.seq (.cond (.tmp 48) .skip (.exit 0)) (.seq (.block 1 (.seq (.region none [⟨(some 49),.mv (.tmp 47),none⟩, ⟨(some 50),.ixA 4 (.tmp 45) (.tmp 47),none⟩, ⟨(some 51),.load 4 true (.tmp 50),none⟩, ⟨(some 10),.alloc 44 [(.imm (.sc (.int .i64 0))),(.imm (.sc (.int .i64 0))),(.imm (.sc (.int .i64 0))),(.imm (.sc (.int .i64 0)))],none⟩, ⟨(some 9),.mv (.tmp 49),none⟩, ⟨none,.store 4 (.tmp 10) (.tmp 51),none⟩]) (.seq (.region none [⟨(some 52),.mv (.tmp 1),none⟩, ⟨(some 11),.mv (.tmp 52),none⟩]) (.seq (.seq (.region none [⟨(some 53),.mv (.tmp 9),none⟩, ⟨(some 54),.bin .add (.tmp 53) (.con (.c (.imm (.sc (.int .i64 1))))),none⟩, ⟨(some 55),.mv (.tmp 3),none⟩, ⟨(some 56),.lenS (.tmp 55),none⟩, ⟨(some 57),.bin .lss (.tmp 54) (.tmp 56),none⟩]) (.cond (.tmp 57) (.seq (.region none [⟨(some 58),.mv (.tmp 3),none⟩, ⟨(some 59),.mv (.tmp 9),none⟩, ⟨(some 60),.bin .add (.tmp 59) (.con (.c (.imm (.sc (.int .i64 1))))),none⟩, ⟨(some 61),.ixA 4 (.tmp 58) (.tmp 60),none⟩, ⟨(some 62),.fld 0 (.tmp 61),none⟩, ⟨(some 63),.load 1 false (.tmp 62),none⟩, ⟨(some 11),.mv (.tmp 63),none⟩]) (.seq (.region (some [0,0,2,7,15,31,63,0,128,384,1023]) [⟨(some 64),.mv (.tmp 3),none⟩, ⟨(some 65),.mv (.tmp 9),none⟩, ⟨(some 66),.bin .add (.tmp 65) (.con (.c (.imm (.sc (.int .i64 1))))),none⟩, ⟨(some 67),.ixA 4 (.tmp 64) (.tmp 66),none⟩, ⟨(some 68),.fld 2 (.tmp 67),none⟩, ⟨(some 69),.fld 0 (.tmp 68),none⟩, ⟨(some 70),.load 1 false (.tmp 69),none⟩, ⟨(some 71),.fld 2 (.tmp 10),none⟩, ⟨(some 72),.fld 1 (.tmp 71),none⟩, ⟨(some 73),.load 1 false (.tmp 72),none⟩, ⟨(some 74),.bin .neq (.tmp 70) (.tmp 73),none⟩]) (.cond (.tmp 74) (.seq (.region none [⟨(some 8),.mv (.con (.c (.imm (.sc (.bool false))))),none⟩]) .ret) .skip))) .skip)) (.seq (.region none [⟨(some 75),.fld 2 (.tmp 10),none⟩, ⟨(some 76),.load 2 true (.tmp 75),none⟩, ⟨(some 77),.call 18 [(.tmp 76)],none⟩, ⟨(some 78),.un .not (.tmp 77),none⟩, ⟨(some 79),.mv (.tmp 78),none⟩, ⟨(some 80),.load 10 true (.tmp 4),(some (79,false))⟩, ⟨(some 81),.load 4 true (.tmp 10),(some (79,false))⟩, ⟨(some 82),.call 19 [(.tmp 80),(.tmp 81)],(some (79,false))⟩, ⟨(some 83),.un .not (.tmp 82),(some (79,false))⟩, ⟨(some 84),.pick (.tmp 79) (.con (.c (.imm (.sc (.bool true))))) (.tmp 83),none⟩, ⟨(some 85),.mv (.tmp 84),none⟩, ⟨(some 86),.load 10 true (.tmp 4),(some (85,false))⟩, ⟨(some 87),.mv (.tmp 11),(some (85,false))⟩, ⟨(some 88),.fld 0 (.tmp 10),(some (85,false))⟩, ⟨(some 89),.load 1 false (.tmp 88),(some (85,false))⟩, ⟨(some 90),.fld 2 (.tmp 10),(some (85,false))⟩, ⟨(some 91),.fld 1 (.tmp 90),(some (85,false))⟩, ⟨(some 92),.load 1 false (.tmp 91),(some (85,false))⟩, ⟨(some 93),.call 20 [(.tmp 86),(.tmp 87),(.tmp 89),(.tmp 92)],(some (85,false))⟩, ⟨(some 94),.un .not (.tmp 93),(some (85,false))⟩, ⟨(some 95),.pick (.tmp 85) (.con (.c (.imm (.sc (.bool true))))) (.tmp 94),none⟩]) (.cond (.tmp 95) (.seq (.region none [⟨(some 8),.mv (.con (.c (.imm (.sc (.bool false))))),none⟩]) .ret) .skip)))))) (.region none [⟨(some 96),.bin .add (.tmp 47) (.con (.c (.imm (.sc (.int .i64 1))))),none⟩, ⟨(some 47),.mv (.tmp 96),none⟩]))))))) (.seq (.region none [⟨(some 8),.mv (.con (.c (.imm (.sc (.bool true))))),none⟩]) .ret))))
theorem c11 : (Try.f11.body.bind fun c => cCode Try.prog 97 c) = some v11 := by kernel_rfl
def v6 : VC := (.seq (.region none [⟨(some 0),.mv (.con (.c (.imm (.sc (.bool false))))),none⟩]) (.seq (.region none [⟨(some 9),.call 13 [(.con (.c (.imm (.sc (.int .i64 1))))),(.con (.c (.imm (.sc (.int .i64 4))))),(.con (.c (.imm (.sc (.int .i64 0))))),(.con (.c (.imm (.sc (.int .i64 5))))),(.con (.c (.imm (.sc (.int .i64 (-1)))))),(.con (.c (.imm (.sc (.int .i64 (-1))))))],none⟩, ⟨(some 10),.call 13 [(.con (.c (.imm (.sc (.int .i64 1))))),(.con (.c (.imm (.sc (.int .i64 2))))),(.con (.c (.imm (.sc (.int .i64 5))))),(.con (.c (.imm (.sc (.int .i64 9))))),(.con (.c (.imm (.sc (.int .i64 2))))),(.con (.c (.imm (.sc (.int .i64 2)))))],none⟩, ⟨(some 11),.call 13 [(.con (.c (.imm (.sc (.int .i64 1))))),(.con (.c (.imm (.sc (.int .i64 4))))),(.con (.c (.imm (.sc (.int .i64 9))))),(.con (.c (.imm (.sc (.int .i64 10))))),(.con (.c (.imm (.sc (.int .i64 (-1)))))),(.con (.c (.imm (.sc (.int .i64 (-1))))))],none⟩, ⟨(some 12),.call 13 [(.con (.c (.imm (.sc (.int .i64 2))))),(.con (.c (.imm (.sc (.int .i64 1))))),(.con (.c (.imm (.sc (.int .i64 0))))),(.con (.c (.imm (.sc (.int .i64 3))))),(.con (.c (.imm (.sc (.int .i64 (-1)))))),(.con (.c (.imm (.sc (.int .i64 (-1))))))],none⟩, ⟨(some 13),.call 13 [(.con (.c (.imm (.sc (.int .i64 2))))),(.con (.c (.imm (.sc (.int .i64 4))))),(.con (.c (.imm (.sc (.int .i64 3))))),(.con (.c (.imm (.sc (.int .i64 9))))),(.con (.c (.imm (.sc (.int .i64 (-1)))))),(.con (.c (.imm (.sc (.int .i64 (-1))))))],none⟩, ⟨(some 14),.call 13 [(.con (.c (.imm (.sc (.int .i64 2))))),(.con (.c (.imm (.sc (.int .i64 0))))),(.con (.c (.imm (.sc (.int .i64 9))))),(.con (.c (.imm (.sc (.int .i64 10))))),(.con (.c (.imm (.sc (.int .i64 (-1)))))),(.con (.c (.imm (.sc (.int .i64 (-1))))))],none⟩, ⟨(some 15),.bsl 37 7 6 [(.imm (.sc (.int .i64 0))),(.imm (.sc (.int .i64 0))),(.imm (.sc (.int .i64 0))),(.imm (.sc (.int .i64 0))),(.imm (.sc (.int .i64 0))),(.imm (.sc (.int .i64 0))),(.imm (.sc (.int .i64 0)))] [(0,7,(.tmp 9)),(7,7,(.tmp 10)),(14,7,(.tmp 11)),(21,7,(.tmp 12)),(28,7,(.tmp 13)),(35,7,(.tmp 14))],none⟩, ⟨(some 16),.call 12 [(.tmp 15)],none⟩, ⟨(some 1),.alloc 33 [(.imm (.sc (.int .i64 0))),(.imm (.sc (.int .i64 0))),.nilS,.nilS,.nilS,.nilS,.nilS,.nilS,.nilS,.nilS],none⟩, ⟨none,.store 10 (.tmp 1) (.tmp 16),none⟩]) (.seq (.region none [⟨(some 18),.load 10 true (.tmp 1),none⟩, ⟨(some 19),.build [(.imm (.sc (.int .i64 0))),(.imm (.sc (.int .i64 0)))] [(0,1,(.con (.c (.imm (.sc (.int .i64 4)))))),(1,1,(.con (.c (.imm (.sc (.int .i64 9))))))],none⟩, ⟨(some 20),.call 8 [(.tmp 18),(.con (.c (.imm (.sc (.int .i64 1))))),(.tmp 19)],none⟩, ⟨(some 17),.mv (.tmp 20),none⟩, ⟨(some 21),.ext (.tmp 17) 0,none⟩, ⟨(some 22),.ext (.tmp 17) 1,none⟩, ⟨(some 2),.mv (.tmp 21),none⟩, ⟨(some 3),.mv (.tmp 22),none⟩]) (.seq (.region none [⟨(some 23),.call 13 [(.con (.c (.imm (.sc (.int .i64 1))))),(.con (.c (.imm (.sc (.int .i64 2))))),(.con (.c (.imm (.sc (.int .i64 0))))),(.con (.c (.imm (.sc (.int .i64 6))))),(.con (.c (.imm (.sc (.int .i64 2))))),(.con (.c (.imm (.sc (.int .i64 2)))))],none⟩, ⟨(some 24),.call 13 [(.con (.c (.imm (.sc (.int .i64 1))))),(.con (.c (.imm (.sc (.int .i64 4))))),(.con (.c (.imm (.sc (.int .i64 6))))),(.con (.c (.imm (.sc (.int .i64 10))))),(.con (.c (.imm (.sc (.int .i64 (-1)))))),(.con (.c (.imm (.sc (.int .i64 (-1))))))],none⟩, ⟨(some 25),.call 13 [(.con (.c (.imm (.sc (.int .i64 2))))),(.con (.c (.imm (.sc (.int .i64 2))))),(.con (.c (.imm (.sc (.int .i64 0))))),(.con (.c (.imm (.sc (.int .i64 6))))),(.con (.c (.imm (.sc (.int .i64 1))))),(.con (.c (.imm (.sc (.int .i64 1)))))],none⟩, ⟨(some 26),.call 13 [(.con (.c (.imm (.sc (.int .i64 2))))),(.con (.c (.imm (.sc (.int .i64 4))))),(.con (.c (.imm (.sc (.int .i64 6))))),(.con (.c (.imm (.sc (.int .i64 10))))),(.con (.c (.imm (.sc (.int .i64 (-1)))))),(.con (.c (.imm (.sc (.int .i64 (-1))))))],none⟩, ⟨(some 27),.bsl 37 7 4 [(.imm (.sc (.int .i64 0))),(.imm (.sc (.int .i64 0))),(.imm (.sc (.int .i64 0))),(.imm (.sc (.int .i64 0))),(.imm (.sc (.int .i64 0))),(.imm (.sc (.int .i64 0))),(.imm (.sc (.int .i64 0)))] [(0,7,(.tmp 23)),(7,7,(.tmp 24)),(14,7,(.tmp 25)),(21,7,(.tmp 26))],none⟩, ⟨(some 28),.call 12 [(.tmp 27)],none⟩, ⟨(some 4),.alloc 33 [(.imm (.sc (.int .i64 0))),(.imm (.sc (.int .i64 0))),.nilS,.nilS,.nilS,.nilS,.nilS,.nilS,.nilS,.nilS],none⟩, ⟨none,.store 10 (.tmp 4) (.tmp 28),none⟩]) (.seq (.region none [⟨(some 30),.load 10 true (.tmp 4),none⟩, ⟨(some 31),.build [(.imm (.sc (.int .i64 0))),(.imm (.sc (.int .i64 0)))] [(0,1,(.con (.c (.imm (.sc (.int .i64 2)))))),(1,1,(.con (.c (.imm (.sc (.int .i64 6))))))],none⟩, ⟨(some 32),.call 8 [(.tmp 30),(.con (.c (.imm (.sc (.int .i64 1))))),(.tmp 31)],none⟩, ⟨(some 29),.mv (.tmp 32),none⟩, ⟨(some 33),.ext (.tmp 29) 0,none⟩, ⟨(some 34),.ext (.tmp 29) 1,none⟩, ⟨(some 5),.mv (.tmp 33),none⟩, ⟨(some 6),.mv (.tmp 34),none⟩]) (.seq (.region none [⟨(some 36),.load 10 true (.tmp 4),none⟩, ⟨(some 37),.build [(.imm (.sc (.int .i64 0))),(.imm (.sc (.int .i64 0)))] [(0,1,(.con (.c (.imm (.sc (.int .i64 7)))))),(1,1,(.con (.c (.imm (.sc (.int .i64 9))))))],none⟩, ⟨(some 38),.call 8 [(.tmp 36),(.con (.c (.imm (.sc (.int .i64 1))))),(.tmp 37)],none⟩, ⟨(some 35),.mv (.tmp 38),none⟩, ⟨(some 39),.ext (.tmp 35) 0,none⟩, ⟨(some 40),.ext (.tmp 35) 1,none⟩, ⟨(some 7),.mv (.tmp 39),none⟩, ⟨(some 8),.mv (.tmp 40),none⟩]) (.seq (.region none [⟨(some 41),.mv (.tmp 3),none⟩, ⟨(some 42),.bin .eql (.tmp 41) (.con (.c (.imm (.sc (.int .i64 0))))),none⟩, ⟨(some 43),.mv (.tmp 42),none⟩, ⟨(some 44),.mv (.tmp 2),(some (43,true))⟩, ⟨(some 45),.build [(.imm (.sc (.int .i64 0))),(.imm (.sc (.int .i64 0)))] [(0,1,(.con (.c (.imm (.sc (.int .i64 4)))))),(1,1,(.con (.c (.imm (.sc (.int .i64 9))))))],(some (43,true))⟩, ⟨(some 46),.build [(.imm (.sc (.int .i64 0))),(.imm (.sc (.int .i64 0))),(.imm (.sc (.int .i64 0))),(.imm (.sc (.int .i64 0)))] [(0,1,(.con (.c (.imm (.sc (.int .i64 2)))))),(1,1,(.con (.c (.imm (.sc (.int .i64 4)))))),(2,2,(.tmp 45))],(some (43,true))⟩, ⟨(some 47),.bsl 44 4 1 [(.imm (.sc (.int .i64 0))),(.imm (.sc (.int .i64 0))),(.imm (.sc (.int .i64 0))),(.imm (.sc (.int .i64 0)))] [(0,4,(.tmp 46))],(some (43,true))⟩, ⟨(some 48),.call 14 [(.tmp 44),(.tmp 47)],(some (43,true))⟩, ⟨(some 49),.pick (.tmp 43) (.tmp 48) (.con (.c (.imm (.sc (.bool false))))),none⟩, ⟨(some 50),.mv (.tmp 49),none⟩, ⟨(some 51),.mv (.tmp 6),(some (50,true))⟩, ⟨(some 52),.bin .eql (.tmp 51) (.con (.c (.imm (.sc (.int .i64 0))))),(some (50,true))⟩, ⟨(some 53),.pick (.tmp 50) (.tmp 52) (.con (.c (.imm (.sc (.bool false))))),none⟩, ⟨(some 54),.mv (.tmp 53),none⟩, ⟨(some 55),.mv (.tmp 5),(some (54,true))⟩, ⟨(some 56),.build [(.imm (.sc (.int .i64 0))),(.imm (.sc (.int .i64 0)))] [(0,1,(.con (.c (.imm (.sc (.int .i64 2)))))),(1,1,(.con (.c (.imm (.sc (.int .i64 6))))))],(some (54,true))⟩, ⟨(some 57),.build [(.imm (.sc (.int .i64 0))),(.imm (.sc (.int .i64 0))),(.imm (.sc (.int .i64 0))),(.imm (.sc (.int .i64 0)))] [(0,1,(.con (.c (.imm (.sc (.int .i64 2)))))),(1,1,(.con (.c (.imm (.sc (.int .i64 2)))))),(2,2,(.tmp 56))],(some (54,true))⟩, ⟨(some 58),.bsl 44 4 1 [(.imm (.sc (.int .i64 0))),(.imm (.sc (.int .i64 0))),(.imm (.sc (.int .i64 0))),(.imm (.sc (.int .i64 0)))] [(0,4,(.tmp 57))],(some (54,true))⟩, ⟨(some 59),.call 14 [(.tmp 55),(.tmp 58)],(some (54,true))⟩, ⟨(some 60),.pick (.tmp 54) (.tmp 59) (.con (.c (.imm (.sc (.bool false))))),none⟩, ⟨(some 61),.mv (.tmp 60),none⟩, ⟨(some 62),.mv (.tmp 8),(some (61,true))⟩, ⟨(some 63),.bin .eql (.tmp 62) (.con (.c (.imm (.sc (.int .i64 0))))),(some (61,true))⟩, ⟨(some 64),.pick (.tmp 61) (.tmp 63) (.con (.c (.imm (.sc (.bool false))))),none⟩, ⟨(some 65),.mv (.tmp 64),none⟩, ⟨(some 66),.mv (.tmp 7),(some (65,true))⟩, ⟨(some 67),.lenS (.tmp 66),(some (65,true))⟩, ⟨(some 68),.bin .eql (.tmp 67) (.con (.c (.imm (.sc (.int .i64 1))))),(some (65,true))⟩, ⟨(some 69),.pick (.tmp 65) (.tmp 68) (.con (.c (.imm (.sc (.bool false))))),none⟩, ⟨(some 70),.mv (.tmp 69),none⟩, ⟨(some 71),.load 10 true (.tmp 4),(some (70,true))⟩, ⟨(some 72),.build [(.imm (.sc (.int .i64 0))),(.imm (.sc (.int .i64 0)))] [(0,1,(.con (.c (.imm (.sc (.int .i64 2)))))),(1,1,(.con (.c (.imm (.sc (.int .i64 6))))))],(some (70,true))⟩, ⟨(some 73),.mv (.tmp 5),(some (70,true))⟩, ⟨(some 74),.call 11 [(.tmp 71),(.con (.c (.imm (.sc (.int .i64 1))))),(.tmp 72),(.tmp 73)],(some (70,true))⟩, ⟨(some 75),.pick (.tmp 70) (.tmp 74) (.con (.c (.imm (.sc (.bool false))))),none⟩, ⟨(some 0),.mv (.tmp 75),none⟩]) .ret)))))))
theorem c6 : (Try.f6.body.bind fun c => cCode Try.prog 76 c) = some v6 := by kernel_rfl
def v10 : VC := (.seq (.region none [⟨(some 7),.box 23 (.tmp 3),none⟩, ⟨(some 8),.mv (.con (.c (.imm (.sc (.int .i64 0))))),none⟩]) (.seq (.seq (.region none [⟨(some 12),.load 2 true (.tmp 7),none⟩, ⟨(some 13),.call 18 [(.tmp 12)],none⟩, ⟨(some 14),.un .not (.tmp 13),none⟩]) (.cond (.tmp 14) (.seq (.region none [⟨(some 8),.mv (.con (.c (.imm (.sc (.int .i64 0))))),none⟩]) .ret) .skip)) (.seq (.region none [⟨(some 9),.mv (.con (.c (.imm (.sc (.int .i64 0))))),none⟩]) (.seq (.seq (.region none [⟨(some 15),.mv (.tmp 0),none⟩, ⟨(some 16),.lenS (.tmp 15),none⟩, ⟨(some 17),.mv (.con (.c (.imm (.sc (.int .i64 0))))),none⟩]) (.block 0 (.loop (.seq (.region none [⟨(some 18),.bin .lss (.tmp 17) (.tmp 16),none⟩]) (.seq (.cond (.tmp 18) .skip (.exit 0)) (.seq (.block 1 (.seq (.region none [⟨(some 19),.ixA 7 (.tmp 15) (.tmp 17),none⟩, ⟨(some 20),.load 7 true (.tmp 19),none⟩, ⟨(some 11),.alloc 37 [(.imm (.sc (.int .i64 0))),(.imm (.sc (.int .i64 0))),(.imm (.sc (.int .i64 0))),(.imm (.sc (.int .i64 0))),(.imm (.sc (.int .i64 0))),(.imm (.sc (.int .i64 0))),(.imm (.sc (.int .i64 0)))],none⟩, ⟨none,.store 7 (.tmp 11) (.tmp 20),none⟩]) (.seq (.region none [⟨(some 21),.fld 0 (.tmp 11),none⟩, ⟨(some 22),.load 1 false (.tmp 21),none⟩, ⟨(some 23),.mv (.tmp 1),none⟩, ⟨(some 24),.bin .eql (.tmp 22) (.tmp 23),none⟩, ⟨(some 25),.mv (.tmp 24),none⟩, ⟨(some 26),.fld 1 (.tmp 11),(some (25,true))⟩, ⟨(some 27),.load 1 false (.tmp 26),(some (25,true))⟩, ⟨(some 28),.mv (.tmp 2),(some (25,true))⟩, ⟨(some 29),.bin .eql (.tmp 27) (.tmp 28),(some (25,true))⟩, ⟨(some 30),.pick (.tmp 25) (.tmp 29) (.con (.c (.imm (.sc (.bool false))))),none⟩]) (.cond (.tmp 30) (.region none [⟨(some 31),.mv (.tmp 9),none⟩, ⟨(some 32),.fld 2 (.tmp 11),none⟩, ⟨(some 33),.fld 1 (.tmp 32),none⟩, ⟨(some 34),.load 1 false (.tmp 33),none⟩, ⟨(some 35),.fld 1 (.tmp 7),none⟩, ⟨(some 36),.load 1 false (.tmp 35),none⟩, ⟨(some 37),.mm false [(.tmp 34),(.tmp 36)],none⟩, ⟨(some 38),.fld 2 (.tmp 11),none⟩, ⟨(some 39),.fld 0 (.tmp 38),none⟩, ⟨(some 40),.load 1 false (.tmp 39),none⟩, ⟨(some 41),.fld 0 (.tmp 7),none⟩, ⟨(some 42),.load 1 false (.tmp 41),none⟩, ⟨(some 43),.mm true [(.tmp 40),(.tmp 42)],none⟩, ⟨(some 44),.bin .sub (.tmp 37) (.tmp 43),none⟩, ⟨(some 45),.mm true [(.con (.c (.imm (.sc (.int .i64 0))))),(.tmp 44)],none⟩, ⟨(some 46),.bin .add (.tmp 31) (.tmp 45),none⟩, ⟨(some 9),.mv (.tmp 46),none⟩]) .skip)))) (.region none [⟨(some 47),.bin .add (.tmp 17) (.con (.c (.imm (.sc (.int .i64 1))))),none⟩, ⟨(some 17),.mv (.tmp 47),none⟩]))))))) (.seq (.region none [⟨(some 48),.mv (.tmp 9),none⟩, ⟨(some 8),.mv (.tmp 48),none⟩]) .ret)))))
theorem c10 : (Try.f10.body.bind fun c => cCode Try.prog 49 c) = some v10 := by kernel_rfl
def v4 : VC := (.seq (.region none [⟨(some 3),.box 33 (.tmp 0),none⟩, ⟨(some 5),.box 23 (.tmp 2),none⟩, ⟨(some 6),.mv (.con (.c (.imm (.sc (.bool false))))),none⟩]) (.seq (.seq (.region none [⟨(some 11),.load 10 true (.tmp 3),none⟩, ⟨(some 12),.call 5 [(.tmp 11)],none⟩, ⟨(some 13),.un .not (.tmp 12),none⟩]) (.cond (.tmp 13) (.seq (.region none [⟨(some 14),.call 6 [],none⟩, ⟨(some 6),.mv (.tmp 14),none⟩]) .ret) .skip)) (.seq (.region none [⟨(some 16),.load 10 true (.tmp 3),none⟩, ⟨(some 17),.mv (.tmp 1),none⟩, ⟨(some 18),.load 2 true (.tmp 5),none⟩, ⟨(some 19),.call 8 [(.tmp 16),(.tmp 17),(.tmp 18)],none⟩, ⟨(some 15),.mv (.tmp 19),none⟩, ⟨(some 20),.ext (.tmp 15) 0,none⟩, ⟨(some 21),.ext (.tmp 15) 1,none⟩, ⟨(some 7),.mv (.tmp 20),none⟩, ⟨(some 8),.mv (.tmp 21),none⟩]) (.seq (.seq (.region none [⟨(some 22),.mv (.tmp 8),none⟩, ⟨(some 23),.bin .neq (.tmp 22) (.con (.c (.imm (.sc (.int .i64 0))))),none⟩]) (.cond (.tmp 23) (.seq (.region none [⟨(some 24),.call 6 [],none⟩, ⟨(some 6),.mv (.tmp 24),none⟩]) .ret) .skip)) (.seq (.seq (.region none [⟨(some 25),.mv (.tmp 7),none⟩, ⟨(some 26),.lenS (.tmp 25),none⟩, ⟨(some 27),.mv (.con (.c (.imm (.sc (.int .i64 0))))),none⟩]) (.block 0 (.loop (.seq (.region none [⟨(some 28),.bin .lss (.tmp 27) (.tmp 26),none⟩]) (.seq (.cond (.tmp 28) .skip (.exit 0)) (.seq (.block 1 (.seq (.region none [⟨(some 29),.ixA 4 (.tmp 25) (.tmp 27),none⟩, ⟨(some 30),.load 4 true (.tmp 29),none⟩, ⟨(some 10),.alloc 44 [(.imm (.sc (.int .i64 0))),(.imm (.sc (.int .i64 0))),(.imm (.sc (.int .i64 0))),(.imm (.sc (.int .i64 0)))],none⟩, ⟨none,.store 4 (.tmp 10) (.tmp 30),none⟩]) (.seq (.region (some [0,1,0,4,0,16,0,64,255,0,512,1536,0,4096,12288,32256,65535]) [⟨(some 31),.fld 4 (.tmp 3),none⟩, ⟨(some 32),.load 1 false (.tmp 31),none⟩, ⟨(some 33),.fld 0 (.tmp 10),none⟩, ⟨(some 34),.load 1 false (.tmp 33),none⟩, ⟨(some 35),.fld 1 (.tmp 10),none⟩, ⟨(some 36),.load 1 false (.tmp 35),none⟩, ⟨(some 37),.fld 2 (.tmp 10),none⟩, ⟨(some 38),.load 2 true (.tmp 37),none⟩, ⟨(some 39),.call 10 [(.tmp 32),(.tmp 34),(.tmp 36),(.tmp 38)],none⟩, ⟨(some 40),.fld 2 (.tmp 10),none⟩, ⟨(some 41),.fld 1 (.tmp 40),none⟩, ⟨(some 42),.load 1 false (.tmp 41),none⟩, ⟨(some 43),.fld 2 (.tmp 10),none⟩, ⟨(some 44),.fld 0 (.tmp 43),none⟩, ⟨(some 45),.load 1 false (.tmp 44),none⟩, ⟨(some 46),.bin .sub (.tmp 42) (.tmp 45),none⟩, ⟨(some 47),.bin .neq (.tmp 39) (.tmp 46),none⟩]) (.cond (.tmp 47) (.seq (.region none [⟨(some 6),.mv (.con (.c (.imm (.sc (.bool false))))),none⟩]) .ret) .skip)))) (.region none [⟨(some 48),.bin .add (.tmp 27) (.con (.c (.imm (.sc (.int .i64 1))))),none⟩, ⟨(some 27),.mv (.tmp 48),none⟩]))))))) (.seq (.region none [⟨(some 49),.load 10 true (.tmp 3),none⟩, ⟨(some 50),.mv (.tmp 1),none⟩, ⟨(some 51),.load 2 true (.tmp 5),none⟩, ⟨(some 52),.mv (.tmp 7),none⟩, ⟨(some 53),.call 11 [(.tmp 49),(.tmp 50),(.tmp 51),(.tmp 52)],none⟩, ⟨(some 54),.mv (.tmp 53),none⟩, ⟨(some 55),.call 6 [],(some (54,true))⟩, ⟨(some 56),.pick (.tmp 54) (.tmp 55) (.con (.c (.imm (.sc (.bool false))))),none⟩, ⟨(some 6),.mv (.tmp 56),none⟩]) .ret))))))
theorem c4 : (Try.f4.body.bind fun c => cCode Try.prog 57 c) = some v4 := by kernel_rfl
def v7 : VC := (.seq (.region none [⟨(some 2),.box 33 (.tmp 0),none⟩, ⟨(some 4),.mv (.con (.c (.imm (.sc (.bool false))))),none⟩]) (.seq (.seq (.region none [⟨(some 5),.mv (.con (.c (.imm (.sc (.int .i64 0))))),none⟩]) (.block 0 (.loop (.seq (.seq (.region none [⟨(some 6),.mv (.tmp 5),none⟩, ⟨(some 7),.fld 2 (.tmp 2),none⟩, ⟨(some 8),.load 1 false (.tmp 7),none⟩, ⟨(some 9),.lenS (.tmp 8),none⟩, ⟨(some 10),.bin .lss (.tmp 6) (.tmp 9),none⟩]) (.cond (.tmp 10) .skip (.exit 0))) (.seq (.block 1 (.seq (.region none [⟨(some 13),.fld 2 (.tmp 2),none⟩, ⟨(some 14),.load 1 false (.tmp 13),none⟩, ⟨(some 15),.mv (.tmp 5),none⟩, ⟨(some 16),.ixA 3 (.tmp 14) (.tmp 15),none⟩, ⟨(some 17),.fld 0 (.tmp 16),none⟩, ⟨(some 18),.load 1 false (.tmp 17),none⟩, ⟨(some 19),.mv (.tmp 1),none⟩, ⟨(some 20),.bin .eql (.tmp 18) (.tmp 19),none⟩]) (.cond (.tmp 20) (.seq (.region none [⟨(some 4),.mv (.con (.c (.imm (.sc (.bool true))))),none⟩]) .ret) .skip))) (.region none [⟨(some 11),.mv (.tmp 5),none⟩, ⟨(some 12),.bin .add (.tmp 11) (.con (.c (.imm (.sc (.int .i64 1))))),none⟩, ⟨(some 5),.mv (.tmp 12),none⟩])))))) (.seq (.region none [⟨(some 4),.mv (.con (.c (.imm (.sc (.bool false))))),none⟩]) .ret)))
theorem c7 : (Try.f7.body.bind fun c => cCode Try.prog 21 c) = some v7 := by kernel_rfl
def v3 : VC := (.seq (.region none [⟨(some 3),.box 33 (.tmp 0),none⟩, ⟨(some 5),.box 23 (.tmp 2),none⟩, ⟨(some 6),.mv (.con (.c (.imm (.sc (.bool false))))),none⟩]) (.seq (.seq (.region none [⟨(some 15),.load 10 true (.tmp 3),none⟩, ⟨(some 16),.call 5 [(.tmp 15)],none⟩, ⟨(some 17),.un .not (.tmp 16),none⟩]) (.cond (.tmp 17) (.seq (.region none [⟨(some 18),.call 6 [],none⟩, ⟨(some 6),.mv (.tmp 18),none⟩]) .ret) .skip)) (.seq (.seq (.region none [⟨(some 19),.fld 4 (.tmp 3),none⟩, ⟨(some 20),.load 1 false (.tmp 19),none⟩, ⟨(some 21),.lenS (.tmp 20),none⟩, ⟨(some 22),.mv (.con (.c (.imm (.sc (.int .i64 0))))),none⟩]) (.block 0 (.loop (.seq (.region none [⟨(some 23),.bin .lss (.tmp 22) (.tmp 21),none⟩]) (.seq (.cond (.tmp 23) .skip (.exit 0)) (.seq (.block 1 (.seq (.region none [⟨(some 24),.ixA 7 (.tmp 20) (.tmp 22),none⟩, ⟨(some 25),.load 7 true (.tmp 24),none⟩, ⟨(some 8),.alloc 37 [(.imm (.sc (.int .i64 0))),(.imm (.sc (.int .i64 0))),(.imm (.sc (.int .i64 0))),(.imm (.sc (.int .i64 0))),(.imm (.sc (.int .i64 0))),(.imm (.sc (.int .i64 0))),(.imm (.sc (.int .i64 0)))],none⟩, ⟨none,.store 7 (.tmp 8) (.tmp 25),none⟩]) (.seq (.region none [⟨(some 26),.fld 6 (.tmp 8),none⟩, ⟨(some 27),.load 1 false (.tmp 26),none⟩, ⟨(some 28),.bin .geq (.tmp 27) (.con (.c (.imm (.sc (.int .i64 0))))),none⟩, ⟨(some 29),.mv (.tmp 28),none⟩, ⟨(some 30),.load 10 true (.tmp 3),(some (29,true))⟩, ⟨(some 31),.fld 6 (.tmp 8),(some (29,true))⟩, ⟨(some 32),.load 1 false (.tmp 31),(some (29,true))⟩, ⟨(some 33),.call 7 [(.tmp 30),(.tmp 32)],(some (29,true))⟩, ⟨(some 34),.pick (.tmp 29) (.tmp 33) (.con (.c (.imm (.sc (.bool false))))),none⟩]) (.cond (.tmp 34) (.seq (.region none [⟨(some 35),.call 6 [],none⟩, ⟨(some 6),.mv (.tmp 35),none⟩]) .ret) .skip)))) (.region none [⟨(some 36),.bin .add (.tmp 22) (.con (.c (.imm (.sc (.int .i64 1))))),none⟩, ⟨(some 22),.mv (.tmp 36),none⟩]))))))) (.seq (.region none [⟨(some 38),.load 10 true (.tmp 3),none⟩, ⟨(some 39),.mv (.tmp 1),none⟩, ⟨(some 40),.load 2 true (.tmp 5),none⟩, ⟨(some 41),.call 8 [(.tmp 38),(.tmp 39),(.tmp 40)],none⟩, ⟨(some 37),.mv (.tmp 41),none⟩, ⟨(some 42),.ext (.tmp 37) 0,none⟩, ⟨(some 43),.ext (.tmp 37) 1,none⟩, ⟨(some 9),.mv (.tmp 42),none⟩, ⟨(some 10),.mv (.tmp 43),none⟩]) (.seq (.seq (.region none [⟨(some 44),.mv (.tmp 10),none⟩, ⟨(some 45),.bin .neq (.tmp 44) (.con (.c (.imm (.sc (.int .i64 0))))),none⟩]) (.cond (.tmp 45) (.seq (.region none [⟨(some 46),.call 6 [],none⟩, ⟨(some 6),.mv (.tmp 46),none⟩]) .ret) .skip)) (.seq (.seq (.region none [⟨(some 47),.mv (.tmp 9),none⟩, ⟨(some 48),.lenS (.tmp 47),none⟩, ⟨(some 49),.mv (.con (.c (.imm (.sc (.int .i64 0))))),none⟩]) (.block 2 (.loop (.seq (.region none [⟨(some 50),.bin .lss (.tmp 49) (.tmp 48),none⟩]) (.seq (.cond (.tmp 50) .skip (.exit 2)) (.seq (.block 3 (.seq (.region none [⟨(some 51),.mv (.tmp 49),none⟩, ⟨(some 52),.ixA 4 (.tmp 47) (.tmp 49),none⟩, ⟨(some 53),.load 4 true (.tmp 52),none⟩, ⟨(some 12),.alloc 44 [(.imm (.sc (.int .i64 0))),(.imm (.sc (.int .i64 0))),(.imm (.sc (.int .i64 0))),(.imm (.sc (.int .i64 0)))],none⟩, ⟨(some 11),.mv (.tmp 51),none⟩, ⟨none,.store 4 (.tmp 12) (.tmp 53),none⟩]) (.seq (.region none [⟨(some 55),.fld 4 (.tmp 3),none⟩, ⟨(some 56),.load 1 false (.tmp 55),none⟩, ⟨(some 57),.mv (.tmp 1),none⟩, ⟨(some 58),.fld 2 (.tmp 12),none⟩, ⟨(some 59),.fld 0 (.tmp 58),none⟩, ⟨(some 60),.load 1 false (.tmp 59),none⟩, ⟨(some 61),.call 9 [(.tmp 56),(.tmp 57),(.tmp 60)],none⟩, ⟨(some 54),.mv (.tmp 61),none⟩, ⟨(some 62),.ext (.tmp 54) 0,none⟩, ⟨(some 63),.ext (.tmp 54) 1,none⟩, ⟨(some 13),.alloc 37 [(.imm (.sc (.int .i64 0))),(.imm (.sc (.int .i64 0))),(.imm (.sc (.int .i64 0))),(.imm (.sc (.int .i64 0))),(.imm (.sc (.int .i64 0))),(.imm (.sc (.int .i64 0))),(.imm (.sc (.int .i64 0)))],none⟩, ⟨none,.store 7 (.tmp 13) (.tmp 62),none⟩, ⟨(some 14),.mv (.tmp 63),none⟩]) (.seq (.region none [⟨(some 64),.mv (.tmp 14),none⟩, ⟨(some 65),.un .not (.tmp 64),none⟩, ⟨(some 66),.mv (.tmp 65),none⟩, ⟨(some 67),.fld 0 (.tmp 12),(some (66,false))⟩, ⟨(some 68),.load 1 false (.tmp 67),(some (66,false))⟩, ⟨(some 69),.mv (.tmp 1),(some (66,false))⟩, ⟨(some 70),.bin .neq (.tmp 68) (.tmp 69),(some (66,false))⟩, ⟨(some 71),.pick (.tmp 66) (.con (.c (.imm (.sc (.bool true))))) (.tmp 70),none⟩, ⟨(some 72),.mv (.tmp 71),none⟩, ⟨(some 73),.fld 1 (.tmp 12),(some (72,false))⟩, ⟨(some 74),.load 1 false (.tmp 73),(some (72,false))⟩, ⟨(some 75),.fld 1 (.tmp 13),(some (72,false))⟩, ⟨(some 76),.load 1 false (.tmp 75),(some (72,false))⟩, ⟨(some 77),.bin .neq (.tmp 74) (.tmp 76),(some (72,false))⟩, ⟨(some 78),.pick (.tmp 72) (.con (.c (.imm (.sc (.bool true))))) (.tmp 77),none⟩, ⟨(some 79),.mv (.tmp 78),none⟩, ⟨(some 80),.mv (.tmp 11),(some (79,false))⟩, ⟨(some 81),.bin .gtr (.tmp 80) (.con (.c (.imm (.sc (.int .i64 0))))),(some (79,false))⟩, ⟨(some 82),.mv (.tmp 81),(some (79,false))⟩, ⟨(some 83),.fld 2 (.tmp 12),(some (82,true))⟩, ⟨(some 84),.fld 0 (.tmp 83),(some (82,true))⟩, ⟨(some 85),.load 1 false (.tmp 84),(some (82,true))⟩, ⟨(some 86),.fld 2 (.tmp 13),(some (82,true))⟩, ⟨(some 87),.fld 0 (.tmp 86),(some (82,true))⟩, ⟨(some 88),.load 1 false (.tmp 87),(some (82,true))⟩, ⟨(some 89),.bin .neq (.tmp 85) (.tmp 88),(some (82,true))⟩, ⟨(some 90),.pick (.tmp 82) (.tmp 89) (.con (.c (.imm (.sc (.bool false))))),(some (79,false))⟩, ⟨(some 91),.pick (.tmp 79) (.con (.c (.imm (.sc (.bool true))))) (.tmp 90),none⟩, ⟨(some 92),.mv (.tmp 91),none⟩, ⟨(some 93),.mv (.tmp 11),(some (92,false))⟩, ⟨(some 94),.bin .add (.tmp 93) (.con (.c (.imm (.sc (.int .i64 1))))),(some (92,false))⟩, ⟨(some 95),.mv (.tmp 9),(some (92,false))⟩, ⟨(some 96),.lenS (.tmp 95),(some (92,false))⟩, ⟨(some 97),.bin .lss (.tmp 94) (.tmp 96),(some (92,false))⟩, ⟨(some 98),.mv (.tmp 97),(some (92,false))⟩, ⟨(some 99),.fld 2 (.tmp 12),(some (98,true))⟩, ⟨(some 100),.fld 1 (.tmp 99),(some (98,true))⟩, ⟨(some 101),.load 1 false (.tmp 100),(some (98,true))⟩, ⟨(some 102),.fld 2 (.tmp 13),(some (98,true))⟩, ⟨(some 103),.fld 1 (.tmp 102),(some (98,true))⟩, ⟨(some 104),.load 1 false (.tmp 103),(some (98,true))⟩, ⟨(some 105),.bin .neq (.tmp 101) (.tmp 104),(some (98,true))⟩, ⟨(some 106),.pick (.tmp 98) (.tmp 105) (.con (.c (.imm (.sc (.bool false))))),(some (92,false))⟩, ⟨(some 107),.pick (.tmp 92) (.con (.c (.imm (.sc (.bool true))))) (.tmp 106),none⟩]) (.cond (.tmp 107) (.seq (.region none [⟨(some 6),.mv (.con (.c (.imm (.sc (.bool false))))),none⟩]) .ret) .skip))))) (.region none [⟨(some 108),.bin .add (.tmp 49) (.con (.c (.imm (.sc (.int .i64 1))))),none⟩, ⟨(some 49),.mv (.tmp 108),none⟩]))))))) (.seq (.region none [⟨(some 109),.call 6 [],none⟩, ⟨(some 6),.mv (.tmp 109),none⟩]) .ret)))))))
theorem c3 : (Try.f3.body.bind fun c => cCode Try.prog 110 c) = some v3 := by kernel_rfl
theorem fnOk26 : fnOk Try.prog 26 = true := by kernel_rfl
theorem fnOk30 : fnOk Try.prog 30 = true := by kernel_rfl
theorem fnOk34 : fnOk Try.prog 34 = true := by kernel_rfl
theorem fnOk35 : fnOk Try.prog 35 = true := by kernel_rfl
theorem fnOk38 : fnOk Try.prog 38 = true := by kernel_rfl
theorem fnOk42 : fnOk Try.prog 42 = true := by kernel_rfl
theorem fnOk45 : fnOk Try.prog 45 = true := by kernel_rfl
theorem fnOk48 : fnOk Try.prog 48 = true := by kernel_rfl
theorem fnOk50 : fnOk Try.prog 50 = true := by kernel_rfl
theorem fnOk52 : fnOk Try.prog 52 = true := by kernel_rfl
theorem fnOk55 : fnOk Try.prog 55 = true := by kernel_rfl
theorem fnOk57 : fnOk Try.prog 57 = true := by kernel_rfl
def tracebooklaw48_few (p0 : api_Trace) : Option Bool :=
  (((bif (decide ((List.length p0.fThreads : Int) ≤ 20)) then (bif (decide ((List.length p0.fSlices : Int) ≤ 60)) then (bif (decide ((List.length p0.fStates : Int) ≤ 200)) then (bif (decide ((List.length p0.fFlows : Int) ≤ 60)) then (bif (decide ((List.length p0.fSamples : Int) ≤ 60)) then (bif (decide ((List.length p0.fSteps : Int) ≤ 60)) then (bif (decide ((List.length p0.fBlocks : Int) ≤ 60)) then some (decide ((List.length p0.fLost : Int) ≤ 50)) else some false) else some false) else some false) else some false) else some false) else some false) else some false) : Option Bool).bind fun v1 => some v1)
set_option maxRecDepth 100000 in
set_option maxHeartbeats 4000000 in
theorem tracebooklaw48_few_fun (p0 : api_Trace) (r : Bool) (hF : tracebooklaw48_few p0 = some r) : Fun Try.prog 5 true [] [.agg [.imm (tI p0.fSpan.fFrom), .imm (tI p0.fSpan.fTo), .imm (.sl 3 (List.map t_api_Thread p0.fThreads)), .imm (.sl 8 (List.map t_api_Slice p0.fSlices)), .imm (.sl 7 (List.map t_api_State p0.fStates)), .imm (.sl 7 (List.map t_api_Flow p0.fFlows)), .imm (.sl 4 (List.map t_api_Sample p0.fSamples)), .imm (.sl 3 (List.map t_api_Step p0.fSteps)), .imm (.sl 7 (List.map t_api_Block p0.fBlocks)), .imm (.sl 4 (List.map t_api_Loss p0.fLost))]] noHeap (.c (.imm (.sc (.bool r)))) noHeap := by
  refine Fun.of_walk0 Try.func5 c5 (by kernel_rfl) (rs := [.tmp 2]) (by kernel_rfl) ?_
  unfold v5
  unfold tracebooklaw48_few at hF
  refine W_seq ?_
  refine W_regV (by decide) ?_
  refine QV rfl ?_
  refine W_seq ?_
  refine W_join (fun _ _ h => h) hF (fun v1 => [(2, .c (.imm (.sc (.bool v1))))]) (fun v1 => []) ?_ ?_
  · rintro v1 hF
    refine W_ret ?_
    cases hF
    exact ⟨_, rfl, rfl, ⟨rfl, fun _ => rfl⟩, noOut _⟩
  · intro join hF
    refine W_regV (by decide) ?_
    refine Q_run SV 2 rfl ?_
    refine R_step SV trivial (T_len (tc := t_api_Thread) p0.fThreads .tree ?_)
    refine Q_run SV 2 rfl ?_
    cases h2 : (decide ((List.length p0.fThreads : Int) ≤ 20))
    · have hF := bF' h2 hF
      refine QV rfl ?_
      exact join false _ _ hF (S_weak ⟨rfl, trivial⟩ trivial)
    · have hF := bT' h2 hF
      refine Q_run SV 2 rfl ?_
      refine R_step SV rfl (T_len (tc := t_api_Slice) p0.fSlices .tree ?_)
      refine Q_run SV 3 rfl ?_
      cases h3 : (decide ((List.length p0.fSlices : Int) ≤ 60))
      · have hF := bF' h3 hF
        refine QV rfl ?_
        exact join false _ _ hF (S_weak ⟨rfl, trivial⟩ trivial)
      · have hF := bT' h3 hF
        refine Q_run SV 2 rfl ?_
        refine R_step SV rfl (T_len (tc := t_api_State) p0.fStates .tree ?_)
        refine Q_run SV 3 rfl ?_
        cases h4 : (decide ((List.length p0.fStates : Int) ≤ 200))
        · have hF := bF' h4 hF
          refine QV rfl ?_
          exact join false _ _ hF (S_weak ⟨rfl, trivial⟩ trivial)
        · have hF := bT' h4 hF
          refine Q_run SV 2 rfl ?_
          refine R_step SV rfl (T_len (tc := t_api_Flow) p0.fFlows .tree ?_)
          refine Q_run SV 3 rfl ?_
          cases h5 : (decide ((List.length p0.fFlows : Int) ≤ 60))
          · have hF := bF' h5 hF
            refine QV rfl ?_
            exact join false _ _ hF (S_weak ⟨rfl, trivial⟩ trivial)
          · have hF := bT' h5 hF
            refine Q_run SV 2 rfl ?_
            refine R_step SV rfl (T_len (tc := t_api_Sample) p0.fSamples .tree ?_)
            refine Q_run SV 3 rfl ?_
            cases h6 : (decide ((List.length p0.fSamples : Int) ≤ 60))
            · have hF := bF' h6 hF
              refine QV rfl ?_
              exact join false _ _ hF (S_weak ⟨rfl, trivial⟩ trivial)
            · have hF := bT' h6 hF
              refine Q_run SV 2 rfl ?_
              refine R_step SV rfl (T_len (tc := t_api_Step) p0.fSteps .tree ?_)
              refine Q_run SV 3 rfl ?_
              cases h7 : (decide ((List.length p0.fSteps : Int) ≤ 60))
              · have hF := bF' h7 hF
                refine QV rfl ?_
                exact join false _ _ hF (S_weak ⟨rfl, trivial⟩ trivial)
              · have hF := bT' h7 hF
                refine Q_run SV 2 rfl ?_
                refine R_step SV rfl (T_len (tc := t_api_Block) p0.fBlocks .tree ?_)
                refine Q_run SV 3 rfl ?_
                cases h8 : (decide ((List.length p0.fBlocks : Int) ≤ 60))
                · have hF := bF' h8 hF
                  refine QV rfl ?_
                  exact join false _ _ hF (S_weak ⟨rfl, trivial⟩ trivial)
                · have hF := bT' h8 hF
                  refine Q_run SV 2 rfl ?_
                  refine R_step SV rfl (T_len (tc := t_api_Loss) p0.fLost .tree ?_)
                  refine QV rfl ?_
                  exact join (decide ((List.length p0.fLost : Int) ≤ 50)) _ _ hF (S_weak ⟨rfl, trivial⟩ trivial)
def tracebooklaw48_piece (p0 : Int) (p1 : Int) (p2 : Int) (p3 : Int) (p4 : Int) (p5 : Int) : Option api_State :=
  (((bif (decide (p1 = 4)) then some p0 else some (-1)) : Option Int).bind fun v1 => some ({ fThread := p0, fState := p1, fSpan := ({ fFrom := p2, fTo := p3 } : api_Span), fCpu := v1, fOn := p4, fBy := p5 } : api_State))
set_option maxRecDepth 100000 in
set_option maxHeartbeats 4000000 in
theorem tracebooklaw48_piece_fun (p0 : Int) (p1 : Int) (p2 : Int) (p3 : Int) (p4 : Int) (p5 : Int) (r : api_State) (hF : tracebooklaw48_piece p0 p1 p2 p3 p4 p5 = some r) : Fun Try.prog 13 true [] [.c (.imm (tI p0)), .c (.imm (tI p1)), .c (.imm (tI p2)), .c (.imm (tI p3)), .c (.imm (tI p4)), .c (.imm (tI p5))] noHeap (.agg [.imm (tI r.fThread), .imm (tI r.fState), .imm (tI r.fSpan.fFrom), .imm (tI r.fSpan.fTo), .imm (tI r.fCpu), .imm (tI r.fOn), .imm (tI r.fBy)]) noHeap := by
  refine Fun.of_walk0 Try.func13 c13 (by kernel_rfl) (rs := [.cell 12 7 true]) (by kernel_rfl) ?_
  unfold v13
  unfold tracebooklaw48_piece at hF
  refine W_seq ?_
  refine W_regV (by decide) ?_
  refine QV rfl ?_
  refine W_seq ?_
  refine W_regV (by decide) ?_
  refine QV rfl ?_
  refine W_seq ?_
  refine W_seq ?_
  refine W_regV (by decide) ?_
  refine QV rfl ?_
  refine W_join (fun _ _ h => h) hF (fun v1 => [(12, .c (.ptrO (12,0) 0)), (13, .c (.ptrO (13,0) 0))]) (fun v1 => [((12,0), .box [.imm (tI 0), .imm (tI 0), .imm (tI 0), .imm (tI 0), .imm (tI 0), .imm (tI 0), .imm (tI 0)]), ((13,0), .box [.imm (tI p0), .imm (tI p1), .imm (tI p2), .imm (tI p3), .imm (tI v1), .imm (tI p4), .imm (tI p5)])]) ?_ ?_
  · rintro v1 hF
    refine W_seq ?_
    refine W_regV (by decide) ?_
    refine QV rfl ?_
    refine W_ret ?_
    cases hF
    exact ⟨_, rfl, rfl, ⟨⟨rfl, fun _ => rfl⟩, ⟨rfl, fun _ => rfl⟩, ⟨rfl, fun _ => rfl⟩, ⟨rfl, fun _ => rfl⟩, ⟨rfl, fun _ => rfl⟩, ⟨rfl, fun _ => rfl⟩, ⟨rfl, fun _ => rfl⟩, trivial⟩, noOut _⟩
  · intro join hF
    refine W_condL (t := (decide (p1 = 4))) rfl (fun h2 => ?_) (fun h2 => ?_)
    · have hF := bT' h2 hF
      refine W_regV (by decide) ?_
      refine QV rfl ?_
      exact join p0 _ _ hF (S_weak ⟨rfl, rfl, trivial⟩ ⟨rfl, rfl, trivial⟩)
    · have hF := bF' h2 hF
      refine W_skip ?_
      exact join (-1) _ _ hF (S_weak ⟨rfl, rfl, trivial⟩ ⟨rfl, rfl, trivial⟩)
def tracebooklaw48_pair (p0 : (List api_State)) : Option api_Trace :=
  some ({ fSpan := ({ fFrom := 0, fTo := 10 } : api_Span), fThreads := [({ fId := 1, fName := ⟨#[97]⟩, fDomain := 0 } : api_Thread), ({ fId := 2, fName := ⟨#[98]⟩, fDomain := 0 } : api_Thread)], fSlices := [], fStates := p0, fFlows := [], fSamples := [], fSteps := [], fBlocks := [], fLost := [] } : api_Trace)
set_option maxRecDepth 100000 in
set_option maxHeartbeats 4000000 in
theorem tracebooklaw48_pair_fun (p0 : (List api_State)) (r : api_Trace) (hF : tracebooklaw48_pair p0 = some r) : Fun Try.prog 12 false [] [.c (.imm (.sl 7 (List.map t_api_State p0)))] (heapOf []) (.agg [.imm (tI r.fSpan.fFrom), .imm (tI r.fSpan.fTo), .slO (902,480), .imm (.sl 8 (List.map t_api_Slice r.fSlices)), .imm (.sl 7 (List.map t_api_State r.fStates)), .imm (.sl 7 (List.map t_api_Flow r.fFlows)), .imm (.sl 4 (List.map t_api_Sample r.fSamples)), .imm (.sl 3 (List.map t_api_Step r.fSteps)), .imm (.sl 7 (List.map t_api_Block r.fBlocks)), .imm (.sl 4 (List.map t_api_Loss r.fLost))]) (heapOf [((902,480), .arr 54 3 (List.map t_api_Thread r.fThreads))]) := by
  refine Fun.of_walkM [] (some []) Try.func12 c12 (by kernel_rfl) (rs := [.cell 2 10 true]) (by kernel_rfl) rfl rfl rfl ?_
  unfold v12
  unfold tracebooklaw48_pair at hF
  refine W_seq ?_
  refine W_regV (by decide) ?_
  refine QV rfl ?_
  refine W_seq ?_
  refine W_regV (by decide) ?_
  refine Q_run SV 3 rfl ?_
  refine R_step SV trivial (T_bsl (tc := t_api_Thread) [({ fId := 1, fName := ⟨#[97]⟩, fDomain := 0 } : api_Thread), ({ fId := 2, fName := ⟨#[98]⟩, fDomain := 0 } : api_Thread)] rfl ⟨rfl, rfl, rfl, rfl, rfl, rfl, trivial⟩ rfl (fun _ => rfl) rfl ?_)
  refine QV rfl ?_
  refine W_ret ?_
  cases hF
  exact ⟨_, _, (S_ren (6,0) (902,480) rfl rfl S_refl), _, rfl, rfl, ⟨⟨rfl, fun _ => rfl⟩, ⟨rfl, fun _ => rfl⟩, rfl, rfl, ⟨rfl, fun h => nomatch h⟩, rfl, rfl, rfl, rfl, rfl, trivial⟩, (AgM.weak ⟨rfl, trivial⟩)⟩
def internal_stringslite_IndexByte (p0 : ByteArray) (p1 : Int) : Option Int := some (Go.Lib.indexByte p0.data.toList p1.toNat.toUInt8)
set_option maxHeartbeats 1000000 in
set_option maxRecDepth 100000 in
theorem internal_stringslite_IndexByte_fun (p0 : ByteArray) (p1 : Int) (r : Int) (hF : internal_stringslite_IndexByte p0 p1 = some r) : Fun Try.prog 88 true [] [.c (.imm (.sc (.string p0))), .c (.imm (.sc (.int .u8 p1)))] noHeap (.c (.imm (tI r))) noHeap := by
  cases hF
  refine Fun.of_plain [.string p0, .int .u8 p1] (.int .i64 (Go.Lib.indexByte p0.data.toList p1.toNat.toUInt8)) (fun w => ?_) rfl
  go_enter Try.func88, Try.ntmps88
  go_wp2
  rw [run_callFunc_extern Try.func89 (by kernel_rfl) (by kernel_rfl) (by kernel_rfl) (e := Extern.BytealgIndexByte.indexByte) (by kernel_rfl), Go.Lib.run_indexByteString]
  simp only [Result.andThen]
  rw [Oper.upon_value]
  go_wp2
  go_ret
  exact ⟨rfl, rfl⟩
def strings_IndexByte (p0 : ByteArray) (p1 : Int) : Option Int :=
  ((internal_stringslite_IndexByte p0 p1).bind fun r1 => some r1)
set_option maxRecDepth 100000 in
set_option maxHeartbeats 4000000 in
theorem strings_IndexByte_fun (p0 : ByteArray) (p1 : Int) (r : Int) (hF : strings_IndexByte p0 p1 = some r) : Fun Try.prog 85 true [] [.c (.imm (.sc (.string p0))), .c (.imm (.sc (.int .u8 p1)))] noHeap (.c (.imm (tI r))) noHeap := by
  refine Fun.of_walk0 Try.func85 c85 (by kernel_rfl) (rs := [.tmp 4]) (by kernel_rfl) ?_
  unfold v85
  unfold strings_IndexByte at hF
  refine W_seq ?_
  refine W_regV (by decide) ?_
  refine QV rfl ?_
  refine W_seq ?_
  refine W_regV (by decide) ?_
  refine Q_run SV 2 rfl ?_
  obtain ⟨r1, hr1, hF⟩ := bB hF
  refine R_step SV trivial (T_call (internal_stringslite_IndexByte_fun _ _ _ hr1) ⟨rfl, rfl, trivial⟩ rfl (.inl rfl) ?_)
  refine QV rfl ?_
  refine W_ret ?_
  cases hF
  exact ⟨_, rfl, rfl, ⟨rfl, fun _ => rfl⟩, noOut _⟩
def intern_letter (p0 : Int) : Option Bool :=
  (((bif (decide (97 ≤ p0)) then (bif (decide (p0 ≤ 122)) then some true else (bif (decide (65 ≤ p0)) then (bif (decide (p0 ≤ 90)) then some true else (bif (decide (48 ≤ p0)) then (bif (decide (p0 ≤ 57)) then some true else ((strings_IndexByte ⟨#[95, 46, 58, 47, 60, 62, 36, 42, 126, 45]⟩ p0).bind fun r23 => some (decide (0 ≤ r23)))) else ((strings_IndexByte ⟨#[95, 46, 58, 47, 60, 62, 36, 42, 126, 45]⟩ p0).bind fun r21 => some (decide (0 ≤ r21))))) else (bif (decide (48 ≤ p0)) then (bif (decide (p0 ≤ 57)) then some true else ((strings_IndexByte ⟨#[95, 46, 58, 47, 60, 62, 36, 42, 126, 45]⟩ p0).bind fun r18 => some (decide (0 ≤ r18)))) else ((strings_IndexByte ⟨#[95, 46, 58, 47, 60, 62, 36, 42, 126, 45]⟩ p0).bind fun r16 => some (decide (0 ≤ r16)))))) else (bif (decide (65 ≤ p0)) then (bif (decide (p0 ≤ 90)) then some true else (bif (decide (48 ≤ p0)) then (bif (decide (p0 ≤ 57)) then some true else ((strings_IndexByte ⟨#[95, 46, 58, 47, 60, 62, 36, 42, 126, 45]⟩ p0).bind fun r12 => some (decide (0 ≤ r12)))) else ((strings_IndexByte ⟨#[95, 46, 58, 47, 60, 62, 36, 42, 126, 45]⟩ p0).bind fun r10 => some (decide (0 ≤ r10))))) else (bif (decide (48 ≤ p0)) then (bif (decide (p0 ≤ 57)) then some true else ((strings_IndexByte ⟨#[95, 46, 58, 47, 60, 62, 36, 42, 126, 45]⟩ p0).bind fun r7 => some (decide (0 ≤ r7)))) else ((strings_IndexByte ⟨#[95, 46, 58, 47, 60, 62, 36, 42, 126, 45]⟩ p0).bind fun r5 => some (decide (0 ≤ r5)))))) : Option Bool).bind fun v1 => some v1)
set_option maxRecDepth 100000 in
set_option maxHeartbeats 4000000 in
theorem intern_letter_fun (p0 : Int) (r : Bool) (hF : intern_letter p0 = some r) : Fun Try.prog 79 true [] [.c (.imm (.sc (.int .u8 p0)))] noHeap (.c (.imm (.sc (.bool r)))) noHeap := by
  refine Fun.of_walk0 Try.func79 c79 (by kernel_rfl) (rs := [.tmp 2]) (by kernel_rfl) ?_
  unfold v79
  unfold intern_letter at hF
  refine W_seq ?_
  refine W_regV (by decide) ?_
  refine QV rfl ?_
  refine W_seq ?_
  refine W_join (fun _ _ h => h) hF (fun v1 => [(2, .c (.imm (.sc (.bool v1))))]) (fun v1 => []) ?_ ?_
  · rintro v1 hF
    refine W_ret ?_
    cases hF
    exact ⟨_, rfl, rfl, ⟨rfl, fun _ => rfl⟩, noOut _⟩
  · intro join hF
    refine W_regV (by decide) ?_
    refine Q_run SV 3 rfl ?_
    cases h2 : (decide (97 ≤ p0))
    · have hF := bF' h2 hF
      refine Q_run SV 7 rfl ?_
      cases h3 : (decide (65 ≤ p0))
      · have hF := bF' h3 hF
        refine Q_run SV 8 rfl ?_
        cases h4 : (decide (48 ≤ p0))
        · have hF := bF' h4 hF
          refine Q_run SV 6 rfl ?_
          obtain ⟨r5, hr5, hF⟩ := bB' hF
          refine R_step SV rfl (T_call (strings_IndexByte_fun _ _ _ hr5) ⟨rfl, rfl, trivial⟩ rfl (.inl rfl) ?_)
          refine QV rfl ?_
          exact join (decide (0 ≤ r5)) _ _ hF (S_weak ⟨rfl, trivial⟩ trivial)
        · have hF := bT' h4 hF
          refine Q_run SV 5 rfl ?_
          cases h6 : (decide (p0 ≤ 57))
          · have hF := bF' h6 hF
            refine Q_run SV 1 rfl ?_
            obtain ⟨r7, hr7, hF⟩ := bB' hF
            refine R_step SV rfl (T_call (strings_IndexByte_fun _ _ _ hr7) ⟨rfl, rfl, trivial⟩ rfl (.inl rfl) ?_)
            refine QV rfl ?_
            exact join (decide (0 ≤ r7)) _ _ hF (S_weak ⟨rfl, trivial⟩ trivial)
          · have hF := bT' h6 hF
            refine QV rfl ?_
            exact join true _ _ hF (S_weak ⟨rfl, trivial⟩ trivial)
      · have hF := bT' h3 hF
        refine Q_run SV 5 rfl ?_
        cases h8 : (decide (p0 ≤ 90))
        · have hF := bF' h8 hF
          refine Q_run SV 3 rfl ?_
          cases h9 : (decide (48 ≤ p0))
          · have hF := bF' h9 hF
            refine Q_run SV 6 rfl ?_
            obtain ⟨r10, hr10, hF⟩ := bB' hF
            refine R_step SV rfl (T_call (strings_IndexByte_fun _ _ _ hr10) ⟨rfl, rfl, trivial⟩ rfl (.inl rfl) ?_)
            refine QV rfl ?_
            exact join (decide (0 ≤ r10)) _ _ hF (S_weak ⟨rfl, trivial⟩ trivial)
          · have hF := bT' h9 hF
            refine Q_run SV 5 rfl ?_
            cases h11 : (decide (p0 ≤ 57))
            · have hF := bF' h11 hF
              refine Q_run SV 1 rfl ?_
              obtain ⟨r12, hr12, hF⟩ := bB' hF
              refine R_step SV rfl (T_call (strings_IndexByte_fun _ _ _ hr12) ⟨rfl, rfl, trivial⟩ rfl (.inl rfl) ?_)
              refine QV rfl ?_
              exact join (decide (0 ≤ r12)) _ _ hF (S_weak ⟨rfl, trivial⟩ trivial)
            · have hF := bT' h11 hF
              refine QV rfl ?_
              exact join true _ _ hF (S_weak ⟨rfl, trivial⟩ trivial)
        · have hF := bT' h8 hF
          refine QV rfl ?_
          exact join true _ _ hF (S_weak ⟨rfl, trivial⟩ trivial)
    · have hF := bT' h2 hF
      refine Q_run SV 4 rfl ?_
      cases h13 : (decide (p0 ≤ 122))
      · have hF := bF' h13 hF
        refine Q_run SV 3 rfl ?_
        cases h14 : (decide (65 ≤ p0))
        · have hF := bF' h14 hF
          refine Q_run SV 8 rfl ?_
          cases h15 : (decide (48 ≤ p0))
          · have hF := bF' h15 hF
            refine Q_run SV 6 rfl ?_
            obtain ⟨r16, hr16, hF⟩ := bB' hF
            refine R_step SV rfl (T_call (strings_IndexByte_fun _ _ _ hr16) ⟨rfl, rfl, trivial⟩ rfl (.inl rfl) ?_)
            refine QV rfl ?_
            exact join (decide (0 ≤ r16)) _ _ hF (S_weak ⟨rfl, trivial⟩ trivial)
          · have hF := bT' h15 hF
            refine Q_run SV 5 rfl ?_
            cases h17 : (decide (p0 ≤ 57))
            · have hF := bF' h17 hF
              refine Q_run SV 1 rfl ?_
              obtain ⟨r18, hr18, hF⟩ := bB' hF
              refine R_step SV rfl (T_call (strings_IndexByte_fun _ _ _ hr18) ⟨rfl, rfl, trivial⟩ rfl (.inl rfl) ?_)
              refine QV rfl ?_
              exact join (decide (0 ≤ r18)) _ _ hF (S_weak ⟨rfl, trivial⟩ trivial)
            · have hF := bT' h17 hF
              refine QV rfl ?_
              exact join true _ _ hF (S_weak ⟨rfl, trivial⟩ trivial)
        · have hF := bT' h14 hF
          refine Q_run SV 5 rfl ?_
          cases h19 : (decide (p0 ≤ 90))
          · have hF := bF' h19 hF
            refine Q_run SV 3 rfl ?_
            cases h20 : (decide (48 ≤ p0))
            · have hF := bF' h20 hF
              refine Q_run SV 6 rfl ?_
              obtain ⟨r21, hr21, hF⟩ := bB' hF
              refine R_step SV rfl (T_call (strings_IndexByte_fun _ _ _ hr21) ⟨rfl, rfl, trivial⟩ rfl (.inl rfl) ?_)
              refine QV rfl ?_
              exact join (decide (0 ≤ r21)) _ _ hF (S_weak ⟨rfl, trivial⟩ trivial)
            · have hF := bT' h20 hF
              refine Q_run SV 5 rfl ?_
              cases h22 : (decide (p0 ≤ 57))
              · have hF := bF' h22 hF
                refine Q_run SV 1 rfl ?_
                obtain ⟨r23, hr23, hF⟩ := bB' hF
                refine R_step SV rfl (T_call (strings_IndexByte_fun _ _ _ hr23) ⟨rfl, rfl, trivial⟩ rfl (.inl rfl) ?_)
                refine QV rfl ?_
                exact join (decide (0 ≤ r23)) _ _ hF (S_weak ⟨rfl, trivial⟩ trivial)
              · have hF := bT' h22 hF
                refine QV rfl ?_
                exact join true _ _ hF (S_weak ⟨rfl, trivial⟩ trivial)
          · have hF := bT' h19 hF
            refine QV rfl ?_
            exact join true _ _ hF (S_weak ⟨rfl, trivial⟩ trivial)
      · have hF := bT' h13 hF
        refine QV rfl ?_
        exact join true _ _ hF (S_weak ⟨rfl, trivial⟩ trivial)
def intern_Name_L1 (p0 : ByteArray) : Int → Option (Int ⊕ (Unit ⊕ Int)) := fun a13 =>
  (bif (decide (a13 < (ByteArray.size p0 : Int))) then ((idx (ByteArray.data p0).toList a13).bind fun y18 => ((intern_letter (UInt8.toNat y18 : Int)).bind fun r19 => (bif (!r19) then some (.inr (.inr 3)) else some (.inl (w64 (a13 + 1)))))) else some (.inr (.inl ())))
def intern_Name (p0 : ByteArray) : Option Int :=
  (((bif (decide (p0 = ⟨#[]⟩)) then some true else some (decide (40 < (ByteArray.size p0 : Int)))) : Option Bool).bind fun v1 => (bif v1 then some 3 else ((loop (intern_Name_L1 p0) 0).bind fun | .inl _ => some 0 | .inr rv => some rv)))
set_option maxRecDepth 100000 in
set_option maxHeartbeats 4000000 in
theorem intern_Name_fun (p0 : ByteArray) (r : Int) (hF : intern_Name p0 = some r) : Fun Try.prog 60 true [] [.c (.imm (.sc (.string p0)))] noHeap (.c (.imm (tI r))) noHeap := by
  refine Fun.of_walk0 Try.func60 c60 (by kernel_rfl) (rs := [.tmp 2]) (by kernel_rfl) ?_
  unfold v60
  unfold intern_Name at hF
  refine W_seq ?_
  refine W_regV (by decide) ?_
  refine QV rfl ?_
  refine W_seq ?_
  refine W_seq ?_
  refine W_join (fun _ _ h => h) hF (fun v1 => [(0, .c (.imm (.sc (.string p0)))), (10, .c (.imm (.sc (.bool v1))))]) (fun v1 => []) ?_ ?_
  · rintro v1 hF
    refine W_condL (t := v1) rfl (fun h22 => ?_) (fun h22 => ?_)
    · have hF := bT h22 hF
      refine W_seq ?_
      refine W_regV (by decide) ?_
      refine QV rfl ?_
      refine W_ret ?_
      cases hF
      exact ⟨_, rfl, rfl, ⟨rfl, fun _ => rfl⟩, noOut _⟩
    · have hF := bF h22 hF
      refine W_skip ?_
      refine W_seq ?_
      refine W_seq ?_
      refine W_regV (by decide) ?_
      refine QV rfl ?_
      refine W_for (fun _ _ h => h) hF (.inl) (fun a13 => [(0, .c (.imm (.sc (.string p0)))), (12, .c (.imm (tI (ByteArray.size p0 : Int)))), (13, .c (.imm (tI a13)))]) (fun a13 => []) (fun _ => []) (fun _ => []) (S_weak ⟨rfl, rfl, rfl, trivial⟩ trivial) ?_ ?_
      · rintro ⟨⟩ hF
        refine W_seq ?_
        refine W_regV (by decide) ?_
        refine QV rfl ?_
        refine W_ret ?_
        cases hF
        exact ⟨_, rfl, rfl, ⟨rfl, fun _ => rfl⟩, noOut _⟩
      · rintro a13 x_0 hF cont_0 brk_0 fin_0
        unfold intern_Name_L1 at hF
        refine W_seq ?_
        refine W_regV (by decide) ?_
        refine QV rfl ?_
        refine W_seq ?_
        refine W_condL (t := (decide (a13 < (ByteArray.size p0 : Int)))) rfl (fun h21 => ?_) (fun h21 => ?_)
        · have hF := bT h21 hF
          refine W_skip ?_
          refine W_seq ?_
          refine W_block ?_
          refine W_seq ?_
          refine W_regV (by decide) ?_
          refine QV rfl ?_
          refine W_seq ?_
          refine W_regV (by decide) ?_
          refine Q_run SV 2 rfl ?_
          obtain ⟨y18, hy18, hF⟩ := bB hF
          refine R_step SV trivial (T_ixS p0 rfl rfl hy18 ?_)
          obtain ⟨r19, hr19, hF⟩ := bB hF
          refine R_step SV trivial (T_call (intern_letter_fun _ _ hr19) ⟨rfl, trivial⟩ rfl (.inl rfl) ?_)
          refine QV rfl ?_
          refine W_condL (t := (!r19)) rfl (fun h20 => ?_) (fun h20 => ?_)
          · have hF := bT h20 hF
            refine W_seq ?_
            refine W_regV (by decide) ?_
            refine QV rfl ?_
            have hF := fin_0 _ (Option.some.inj hF).symm
            refine W_ret ?_
            cases hF
            exact ⟨_, rfl, rfl, ⟨rfl, fun _ => rfl⟩, noOut _⟩
          · have hF := bF h20 hF
            refine W_skip ?_
            refine W_regV (by decide) ?_
            refine QV rfl ?_
            exact cont_0 _ _ _ (Option.some.inj hF).symm (S_weak ⟨rfl, rfl, rfl, trivial⟩ trivial)
        · have hF := bF h21 hF
          refine W_exit ?_
          refine thenQ_exit ?_
          refine thenQ_exit ?_
          refine blockQ_hit ?_
          exact brk_0 _ _ _ (Option.some.inj hF).symm (S_weak trivial trivial)
  · intro join hF
    refine W_regV (by decide) ?_
    refine Q_run SV 3 rfl ?_
    cases h23 : (decide (p0 = ⟨#[]⟩))
    · have hF := bF' h23 hF
      refine QV rfl ?_
      exact join (decide (40 < (ByteArray.size p0 : Int))) _ _ hF (S_weak ⟨rfl, rfl, trivial⟩ trivial)
    · have hF := bT' h23 hF
      refine QV rfl ?_
      exact join true _ _ hF (S_weak ⟨rfl, rfl, trivial⟩ trivial)
def producer_Thread (p0 : api_Thread) : Option Int :=
  (((bif (decide (p0.fId < 0)) then some true else (bif (decide (1000000000000000 < p0.fId)) then some true else (bif (decide (p0.fDomain < 0)) then some true else some (decide (8 ≤ p0.fDomain))))) : Option Bool).bind fun v1 => (bif v1 then some 2 else ((intern_Name p0.fName).bind fun r2 => some r2)))
set_option maxRecDepth 100000 in
set_option maxHeartbeats 4000000 in
theorem producer_Thread_fun (p0 : api_Thread) (r : Int) (hF : producer_Thread p0 = some r) : Fun Try.prog 59 true [] [.agg [.imm (tI p0.fId), .imm (.sc (.string p0.fName)), .imm (tI p0.fDomain)]] noHeap (.c (.imm (tI r))) noHeap := by
  refine Fun.of_walk0 Try.func59 c59 (by kernel_rfl) (rs := [.tmp 2]) (by kernel_rfl) ?_
  unfold v59
  unfold producer_Thread at hF
  refine W_seq ?_
  refine W_regV (by decide) ?_
  refine QV rfl ?_
  refine W_seq ?_
  refine W_seq ?_
  refine W_join (fun _ _ h => h) hF (fun v1 => [(1, .c (.ptrO (1,0) 0)), (20, .c (.imm (.sc (.bool v1))))]) (fun v1 => [((1,0), .box [.imm (tI p0.fId), .imm (.sc (.string p0.fName)), .imm (tI p0.fDomain)])]) ?_ ?_
  · rintro v1 hF
    refine W_condL (t := v1) rfl (fun h3 => ?_) (fun h3 => ?_)
    · have hF := bT h3 hF
      refine W_seq ?_
      refine W_regV (by decide) ?_
      refine QV rfl ?_
      refine W_ret ?_
      cases hF
      exact ⟨_, rfl, rfl, ⟨rfl, fun _ => rfl⟩, noOut _⟩
    · have hF := bF h3 hF
      refine W_skip ?_
      refine W_seq ?_
      refine W_regV (by decide) ?_
      refine Q_run SV 2 rfl ?_
      obtain ⟨r2, hr2, hF⟩ := bB hF
      refine R_step SV trivial (T_call (intern_Name_fun _ _ hr2) ⟨rfl, trivial⟩ rfl (.inl rfl) ?_)
      refine QV rfl ?_
      refine W_ret ?_
      cases hF
      exact ⟨_, rfl, rfl, ⟨rfl, fun _ => rfl⟩, noOut _⟩
  · intro join hF
    refine W_regV (by decide) ?_
    refine Q_run SV 4 rfl ?_
    cases h4 : (decide (p0.fId < 0))
    · have hF := bF' h4 hF
      refine Q_run SV 5 rfl ?_
      cases h5 : (decide (1000000000000000 < p0.fId))
      · have hF := bF' h5 hF
        refine Q_run SV 5 rfl ?_
        cases h6 : (decide (p0.fDomain < 0))
        · have hF := bF' h6 hF
          refine QV rfl ?_
          exact join (decide (8 ≤ p0.fDomain)) _ _ hF (S_weak ⟨rfl, rfl, trivial⟩ ⟨rfl, trivial⟩)
        · have hF := bT' h6 hF
          refine QV rfl ?_
          exact join true _ _ hF (S_weak ⟨rfl, rfl, trivial⟩ ⟨rfl, trivial⟩)
      · have hF := bT' h5 hF
        refine QV rfl ?_
        exact join true _ _ hF (S_weak ⟨rfl, rfl, trivial⟩ ⟨rfl, trivial⟩)
    · have hF := bT' h4 hF
      refine QV rfl ?_
      exact join true _ _ hF (S_weak ⟨rfl, rfl, trivial⟩ ⟨rfl, trivial⟩)
def trace_threads_L1 (p0 : api_Trace) : ((List (Int × ByteArray)) × Int) → Option (((List (Int × ByteArray)) × Int) ⊕ ((List (Int × ByteArray)) ⊕ (((List (Int × ByteArray)) × Int) ⊕ ((List (Int × ByteArray)) × Int)))) := fun (a17, a18) =>
  (bif (decide (a18 < (List.length p0.fThreads : Int))) then ((idx p0.fThreads a18).bind fun y25 => ((producer_Thread y25).bind fun r26 => (bif (!decide (r26 = 0)) then some (.inr (.inr (.inl ([], r26)))) else (bif (Option.isSome (mget y25.fId a17)) then some (.inr (.inr (.inl ([], 4)))) else some (.inl ((mput y25.fId y25.fName a17), (w64 (a18 + 1)))))))) else some (.inr (.inl a17)))
def trace_threads (p0 : api_Trace) : Option (((List (Int × ByteArray)) × Int) ⊕ ((List (Int × ByteArray)) × Int)) :=
  (bif (decide (64 < (List.length p0.fThreads : Int))) then some (.inl ([], 7)) else ((loop (trace_threads_L1 p0) ([], 0)).bind fun | .inl e24 => some (.inr (e24, 0)) | .inr rv => some rv))
def trace_threads_V (p0 : api_Trace) : (((List (Int × ByteArray)) × Int) ⊕ ((List (Int × ByteArray)) × Int)) → V
  | .inl d => .tup [.c (.nilM), .c (.imm (tI d.2))]
  | .inr d => .tup [.c (.mapO (902,1080)), .c (.imm (tI d.2))]
def trace_threads_M (p0 : api_Trace) : (((List (Int × ByteArray)) × Int) ⊕ ((List (Int × ByteArray)) × Int)) → M
  | .inl _ => []
  | .inr d => [((902,1080), mapOb (.int .i64) (fun n : Int => .int .i64 n) (fun y : ByteArray => (.one (.sc (.string y)) : MT)) d.1)]
set_option maxRecDepth 100000 in
set_option maxHeartbeats 4000000 in
theorem trace_threads_fun (p0 : api_Trace) (r : (((List (Int × ByteArray)) × Int) ⊕ ((List (Int × ByteArray)) × Int))) (hF : trace_threads p0 = some r) : Fun Try.prog 27 false [] [.agg [.imm (tI p0.fSpan.fFrom), .imm (tI p0.fSpan.fTo), .imm (.sl 3 (List.map t_api_Thread p0.fThreads)), .imm (.sl 8 (List.map t_api_Slice p0.fSlices)), .imm (.sl 7 (List.map t_api_State p0.fStates)), .imm (.sl 7 (List.map t_api_Flow p0.fFlows)), .imm (.sl 4 (List.map t_api_Sample p0.fSamples)), .imm (.sl 3 (List.map t_api_Step p0.fSteps)), .imm (.sl 7 (List.map t_api_Block p0.fBlocks)), .imm (.sl 4 (List.map t_api_Loss p0.fLost))]] (heapOf []) (trace_threads_V p0 r) (heapOf (trace_threads_M p0 r)) := by
  refine Fun.of_walkM [] (some []) Try.func27 c27 (by kernel_rfl) (rs := [.tmp 2, .tmp 3]) (by kernel_rfl) rfl rfl rfl ?_
  unfold v27
  unfold trace_threads at hF
  refine W_seq ?_
  refine W_regV (by decide) ?_
  refine QV rfl ?_
  refine W_seq ?_
  refine W_seq ?_
  refine W_regV (by decide) ?_
  refine Q_run SV 2 rfl ?_
  refine R_step SV trivial (T_len (tc := t_api_Thread) p0.fThreads .tree ?_)
  refine QV rfl ?_
  refine W_condL (t := (decide (64 < (List.length p0.fThreads : Int)))) rfl (fun h30 => ?_) (fun h30 => ?_)
  · have hF := bT h30 hF
    refine W_seq ?_
    refine W_regV (by decide) ?_
    refine QV rfl ?_
    refine W_ret ?_
    cases hF
    exact ⟨_, _, S_refl, _, rfl, rfl, ⟨trivial, ⟨rfl, fun _ => rfl⟩, trivial⟩, (AgM.weak trivial)⟩
  · have hF := bF h30 hF
    refine W_skip ?_
    refine W_seq ?_
    refine W_regV (by decide) ?_
    refine R_step SV trivial (T_mkmap (kd := (.int .i64)) (kv := (fun n : Int => .int .i64 n)) (vv := (fun y : ByteArray => (.one (.sc (.string y)) : MT))) rfl ?_)
    refine QV rfl ?_
    refine W_seq ?_
    refine W_seq ?_
    refine W_regV (by decide) ?_
    refine Q_run SV 2 rfl ?_
    refine R_step SV trivial (T_len (tc := t_api_Thread) p0.fThreads .tree ?_)
    refine QV rfl ?_
    refine W_for (fun _ _ h => h) hF (.inl) (fun (a17, a18) => [(4, .c (.mapO (14,0))), (16, .c (.imm (.sl 3 (List.map t_api_Thread p0.fThreads)))), (17, .c (.imm (tI (List.length p0.fThreads : Int)))), (18, .c (.imm (tI a18)))]) (fun (a17, a18) => [((14,0), mapOb (.int .i64) (fun n : Int => .int .i64 n) (fun y : ByteArray => (.one (.sc (.string y)) : MT)) a17)]) (fun e24 => [(4, .c (.mapO (14,0)))]) (fun e24 => [((14,0), mapOb (.int .i64) (fun n : Int => .int .i64 n) (fun y : ByteArray => (.one (.sc (.string y)) : MT)) e24)]) (S_weak ⟨rfl, rfl, rfl, rfl, trivial⟩ ⟨rfl, trivial⟩) ?_ ?_
    · rintro e24 hF
      refine W_seq ?_
      refine W_regV (by decide) ?_
      refine QV rfl ?_
      refine W_ret ?_
      cases hF
      exact ⟨_, _, (S_ren (14,0) (902,1080) rfl rfl S_refl), _, rfl, rfl, ⟨rfl, ⟨rfl, fun _ => rfl⟩, trivial⟩, (AgM.weak ⟨rfl, trivial⟩)⟩
    · rintro ⟨a17, a18⟩ x_0 hF cont_0 brk_0 fin_0
      unfold trace_threads_L1 at hF
      refine W_seq ?_
      refine W_regV (by decide) ?_
      refine QV rfl ?_
      refine W_seq ?_
      refine W_condL (t := (decide (a18 < (List.length p0.fThreads : Int)))) rfl (fun h29 => ?_) (fun h29 => ?_)
      · have hF := bT h29 hF
        refine W_skip ?_
        refine W_seq ?_
        refine W_block ?_
        refine W_seq ?_
        refine W_regV (by decide) ?_
        obtain ⟨y25, hy25, hF⟩ := bB hF
        refine R_step SV trivial (T_ixT (tc := t_api_Thread) p0.fThreads rfl rfl hy25 ?_)
        refine QV rfl ?_
        refine W_seq ?_
        refine W_seq ?_
        refine W_regV (by decide) ?_
        refine Q_run SV 1 rfl ?_
        obtain ⟨r26, hr26, hF⟩ := bB hF
        refine R_step SV trivial (T_call (producer_Thread_fun _ _ hr26) ⟨⟨rfl, rfl, rfl, trivial⟩, trivial⟩ rfl (.inl rfl) ?_)
        refine QV rfl ?_
        refine W_seq ?_
        refine W_regV (by decide) ?_
        refine QV rfl ?_
        refine W_condL (t := (!decide (r26 = 0))) rfl (fun h28 => ?_) (fun h28 => ?_)
        · have hF := bT h28 hF
          refine W_seq ?_
          refine W_regV (by decide) ?_
          refine QV rfl ?_
          have hF := fin_0 _ (Option.some.inj hF).symm
          refine W_ret ?_
          cases hF
          exact ⟨_, _, S_refl, _, rfl, rfl, ⟨trivial, ⟨rfl, fun _ => rfl⟩, trivial⟩, (AgM.weak trivial)⟩
        · have hF := bF h28 hF
          refine W_skip ?_
          refine W_seq ?_
          refine W_seq ?_
          refine W_regV (by decide) ?_
          refine Q_run SV 3 rfl ?_
          refine R_step SV trivial (T_lookOk (keyI .i64) (vv := (fun y : ByteArray => (.one (.sc (.string y)) : MT))) a17 y25.fId ⟨#[]⟩ (.own _ rfl) rfl rfl ?_)
          refine QV rfl ?_
          refine W_seq ?_
          refine W_regV (by decide) ?_
          refine QV rfl ?_
          refine W_condL (t := (Option.isSome (mget y25.fId a17))) rfl (fun h27 => ?_) (fun h27 => ?_)
          · have hF := bT h27 hF
            refine W_seq ?_
            refine W_regV (by decide) ?_
            refine QV rfl ?_
            have hF := fin_0 _ (Option.some.inj hF).symm
            refine W_ret ?_
            cases hF
            exact ⟨_, _, S_refl, _, rfl, rfl, ⟨trivial, ⟨rfl, fun _ => rfl⟩, trivial⟩, (AgM.weak trivial)⟩
          · have hF := bF h27 hF
            refine W_skip ?_
            refine W_regV (by decide) ?_
            refine Q_run SV 5 rfl ?_
            refine R_step SV trivial (T_mupd (keyI .i64) (vv := (fun y : ByteArray => (.one (.sc (.string y)) : MT))) a17 y25.fId y25.fName rfl rfl rfl rfl ?_)
            refine QV rfl ?_
            refine W_regV (by decide) ?_
            refine QV rfl ?_
            exact cont_0 _ _ _ (Option.some.inj hF).symm (S_weak ⟨rfl, rfl, rfl, rfl, trivial⟩ ⟨rfl, trivial⟩)
      · have hF := bF h29 hF
        refine W_exit ?_
        refine thenQ_exit ?_
        refine thenQ_exit ?_
        refine blockQ_hit ?_
        exact brk_0 _ _ _ (Option.some.inj hF).symm (S_weak ⟨rfl, trivial⟩ ⟨rfl, trivial⟩)
def spans_Valid (p0 : api_Span) : Option Bool :=
  (((bif (decide (0 ≤ p0.fFrom)) then (bif (decide (p0.fFrom < p0.fTo)) then some (decide (p0.fTo ≤ 1000000000000)) else some false) else some false) : Option Bool).bind fun v1 => some v1)
set_option maxRecDepth 100000 in
set_option maxHeartbeats 4000000 in
theorem spans_Valid_fun (p0 : api_Span) (r : Bool) (hF : spans_Valid p0 = some r) : Fun Try.prog 18 true [] [.agg [.imm (tI p0.fFrom), .imm (tI p0.fTo)]] noHeap (.c (.imm (.sc (.bool r)))) noHeap := by
  refine Fun.of_walk0 Try.func18 c18 (by kernel_rfl) (rs := [.tmp 2]) (by kernel_rfl) ?_
  unfold v18
  unfold spans_Valid at hF
  refine W_seq ?_
  refine W_regV (by decide) ?_
  refine QV rfl ?_
  refine W_seq ?_
  refine W_join (fun _ _ h => h) hF (fun v1 => [(2, .c (.imm (.sc (.bool v1))))]) (fun v1 => []) ?_ ?_
  · rintro v1 hF
    refine W_ret ?_
    cases hF
    exact ⟨_, rfl, rfl, ⟨rfl, fun _ => rfl⟩, noOut _⟩
  · intro join hF
    refine W_regV (by decide) ?_
    refine Q_run SV 4 rfl ?_
    cases h2 : (decide (0 ≤ p0.fFrom))
    · have hF := bF' h2 hF
      refine QV rfl ?_
      exact join false _ _ hF (S_weak ⟨rfl, trivial⟩ trivial)
    · have hF := bT' h2 hF
      refine Q_run SV 7 rfl ?_
      cases h3 : (decide (p0.fFrom < p0.fTo))
      · have hF := bF' h3 hF
        refine QV rfl ?_
        exact join false _ _ hF (S_weak ⟨rfl, trivial⟩ trivial)
      · have hF := bT' h3 hF
        refine QV rfl ?_
        exact join (decide (p0.fTo ≤ 1000000000000)) _ _ hF (S_weak ⟨rfl, trivial⟩ trivial)
def cmp_isNaN_int (p0 : Int) : Option Bool :=
  some (!decide (p0 = p0))
set_option maxRecDepth 100000 in
set_option maxHeartbeats 4000000 in
theorem cmp_isNaN_int_fun (p0 : Int) (r : Bool) (hF : cmp_isNaN_int p0 = some r) : Fun Try.prog 86 true [] [.c (.imm (tI p0))] noHeap (.c (.imm (.sc (.bool r)))) noHeap := by
  refine Fun.of_walk0 Try.func86 c86 (by kernel_rfl) (rs := [.tmp 2]) (by kernel_rfl) ?_
  unfold v86
  unfold cmp_isNaN_int at hF
  refine W_seq ?_
  refine W_regV (by decide) ?_
  refine QV rfl ?_
  refine W_seq ?_
  refine W_regV (by decide) ?_
  refine QV rfl ?_
  refine W_ret ?_
  cases hF
  exact ⟨_, rfl, rfl, ⟨rfl, fun _ => rfl⟩, noOut _⟩
def cmp_Compare_int (p0 : Int) (p1 : Int) : Option Int :=
  ((cmp_isNaN_int p0).bind fun r1 => ((cmp_isNaN_int p1).bind fun r2 => (bif r1 then (bif r2 then some 0 else some (-1)) else (bif r2 then some 1 else (bif (decide (p0 < p1)) then some (-1) else (bif (decide (p1 < p0)) then some 1 else some 0))))))
set_option maxRecDepth 100000 in
set_option maxHeartbeats 4000000 in
theorem cmp_Compare_int_fun (p0 : Int) (p1 : Int) (r : Int) (hF : cmp_Compare_int p0 p1 = some r) : Fun Try.prog 81 true [] [.c (.imm (tI p0)), .c (.imm (tI p1))] noHeap (.c (.imm (tI r))) noHeap := by
  refine Fun.of_walk0 Try.func81 c81 (by kernel_rfl) (rs := [.tmp 4]) (by kernel_rfl) ?_
  unfold v81
  unfold cmp_Compare_int at hF
  refine W_seq ?_
  refine W_regV (by decide) ?_
  refine QV rfl ?_
  refine W_seq ?_
  refine W_regV (by decide) ?_
  refine Q_run SV 1 rfl ?_
  obtain ⟨r1, hr1, hF⟩ := bB hF
  refine R_step SV trivial (T_call (cmp_isNaN_int_fun _ _ hr1) ⟨rfl, trivial⟩ rfl (.inl rfl) ?_)
  refine QV rfl ?_
  refine W_seq ?_
  refine W_regV (by decide) ?_
  refine Q_run SV 1 rfl ?_
  obtain ⟨r2, hr2, hF⟩ := bB hF
  refine R_step SV trivial (T_call (cmp_isNaN_int_fun _ _ hr2) ⟨rfl, trivial⟩ rfl (.inl rfl) ?_)
  refine QV rfl ?_
  refine W_seq ?_
  refine W_seq ?_
  refine W_regV (by decide) ?_
  refine QV rfl ?_
  refine W_condL (t := r1) rfl (fun h7 => ?_) (fun h7 => ?_)
  · have hF := bT h7 hF
    refine W_seq ?_
    refine W_seq ?_
    refine W_regV (by decide) ?_
    refine QV rfl ?_
    refine W_condL (t := r2) rfl (fun h3 => ?_) (fun h3 => ?_)
    · have hF := bT h3 hF
      refine W_seq ?_
      refine W_regV (by decide) ?_
      refine QV rfl ?_
      refine W_ret ?_
      cases hF
      exact ⟨_, rfl, rfl, ⟨rfl, fun _ => rfl⟩, noOut _⟩
    · have hF := bF h3 hF
      refine W_skip ?_
      refine W_seq ?_
      refine W_regV (by decide) ?_
      refine QV rfl ?_
      refine W_ret ?_
      cases hF
      exact ⟨_, rfl, rfl, ⟨rfl, fun _ => rfl⟩, noOut _⟩
  · have hF := bF h7 hF
    refine W_skip ?_
    refine W_seq ?_
    refine W_seq ?_
    refine W_regV (by decide) ?_
    refine QV rfl ?_
    refine W_condL (t := r2) rfl (fun h6 => ?_) (fun h6 => ?_)
    · have hF := bT h6 hF
      refine W_seq ?_
      refine W_regV (by decide) ?_
      refine QV rfl ?_
      refine W_ret ?_
      cases hF
      exact ⟨_, rfl, rfl, ⟨rfl, fun _ => rfl⟩, noOut _⟩
    · have hF := bF h6 hF
      refine W_skip ?_
      refine W_seq ?_
      refine W_seq ?_
      refine W_regV (by decide) ?_
      refine QV rfl ?_
      refine W_condL (t := (decide (p0 < p1))) rfl (fun h5 => ?_) (fun h5 => ?_)
      · have hF := bT h5 hF
        refine W_seq ?_
        refine W_regV (by decide) ?_
        refine QV rfl ?_
        refine W_ret ?_
        cases hF
        exact ⟨_, rfl, rfl, ⟨rfl, fun _ => rfl⟩, noOut _⟩
      · have hF := bF h5 hF
        refine W_skip ?_
        refine W_seq ?_
        refine W_seq ?_
        refine W_regV (by decide) ?_
        refine QV rfl ?_
        refine W_condL (t := (decide (p1 < p0))) rfl (fun h4 => ?_) (fun h4 => ?_)
        · have hF := bT h4 hF
          refine W_seq ?_
          refine W_regV (by decide) ?_
          refine QV rfl ?_
          refine W_ret ?_
          cases hF
          exact ⟨_, rfl, rfl, ⟨rfl, fun _ => rfl⟩, noOut _⟩
        · have hF := bF h4 hF
          refine W_skip ?_
          refine W_seq ?_
          refine W_regV (by decide) ?_
          refine QV rfl ?_
          refine W_ret ?_
          cases hF
          exact ⟨_, rfl, rfl, ⟨rfl, fun _ => rfl⟩, noOut _⟩
def cmp_Or_int_L1 (p0 : (List Int)) : Int → Option (Int ⊕ (Unit ⊕ Int)) := fun a10 =>
  (bif (decide (a10 < (List.length p0 : Int))) then ((idx p0 a10).bind fun y14 => (bif (!decide (y14 = 0)) then some (.inr (.inr y14)) else some (.inl (w64 (a10 + 1))))) else some (.inr (.inl ())))
def cmp_Or_int (p0 : (List Int)) : Option Int :=
  ((loop (cmp_Or_int_L1 p0) 0).bind fun | .inl _ => some 0 | .inr rv => some rv)
set_option maxRecDepth 100000 in
set_option maxHeartbeats 4000000 in
theorem cmp_Or_int_fun (p0 : (List Int)) (r : Int) (hF : cmp_Or_int p0 = some r) : Fun Try.prog 80 true [] [.c (.imm (.sl 1 (List.map t_i64 p0)))] noHeap (.c (.imm (tI r))) noHeap := by
  refine Fun.of_walk0 Try.func80 c80 (by kernel_rfl) (rs := [.tmp 2]) (by kernel_rfl) ?_
  unfold v80
  unfold cmp_Or_int at hF
  refine W_seq ?_
  refine W_regV (by decide) ?_
  refine QV rfl ?_
  refine W_seq ?_
  refine W_regV (by decide) ?_
  refine QV rfl ?_
  refine W_seq ?_
  refine W_seq ?_
  refine W_regV (by decide) ?_
  refine Q_run SV 1 rfl ?_
  refine R_step SV trivial (T_len (tc := t_i64) p0 .tree ?_)
  refine QV rfl ?_
  refine W_for (fun _ _ h => h) hF (.inl) (fun a10 => [(3, .c (.imm (tI 0))), (6, .c (.imm (.sl 1 (List.map t_i64 p0)))), (7, .c (.imm (tI (List.length p0 : Int)))), (8, .c (.imm (tI a10)))]) (fun a10 => []) (fun _ => [(3, .c (.imm (tI 0)))]) (fun _ => []) (S_weak ⟨rfl, rfl, rfl, rfl, trivial⟩ trivial) ?_ ?_
  · rintro ⟨⟩ hF
    refine W_seq ?_
    refine W_regV (by decide) ?_
    refine QV rfl ?_
    refine W_ret ?_
    cases hF
    exact ⟨_, rfl, rfl, ⟨rfl, fun _ => rfl⟩, noOut _⟩
  · rintro a10 x_0 hF cont_0 brk_0 fin_0
    unfold cmp_Or_int_L1 at hF
    refine W_seq ?_
    refine W_regV (by decide) ?_
    refine QV rfl ?_
    refine W_seq ?_
    refine W_condL (t := (decide (a10 < (List.length p0 : Int)))) rfl (fun h16 => ?_) (fun h16 => ?_)
    · have hF := bT h16 hF
      refine W_skip ?_
      refine W_seq ?_
      refine W_block ?_
      refine W_seq ?_
      refine W_regV (by decide) ?_
      obtain ⟨y14, hy14, hF⟩ := bB hF
      refine R_step SV trivial (T_ixT (tc := t_i64) p0 rfl rfl hy14 ?_)
      refine QV rfl ?_
      refine W_seq ?_
      refine W_regV (by decide) ?_
      refine QV rfl ?_
      refine W_condL (t := (!decide (y14 = 0))) rfl (fun h15 => ?_) (fun h15 => ?_)
      · have hF := bT h15 hF
        refine W_seq ?_
        refine W_regV (by decide) ?_
        refine QV rfl ?_
        have hF := fin_0 _ (Option.some.inj hF).symm
        refine W_ret ?_
        cases hF
        exact ⟨_, rfl, rfl, ⟨rfl, fun _ => rfl⟩, noOut _⟩
      · have hF := bF h15 hF
        refine W_skip ?_
        refine W_regV (by decide) ?_
        refine QV rfl ?_
        exact cont_0 _ _ _ (Option.some.inj hF).symm (S_weak ⟨rfl, rfl, rfl, rfl, trivial⟩ trivial)
    · have hF := bF h16 hF
      refine W_exit ?_
      refine thenQ_exit ?_
      refine thenQ_exit ?_
      refine blockQ_hit ?_
      exact brk_0 _ _ _ (Option.some.inj hF).symm (S_weak ⟨rfl, trivial⟩ trivial)
def slice_compare (p0 : api_Slice) (p1 : api_Slice) : Option Int :=
  ((cmp_Compare_int p0.fSpan.fFrom p1.fSpan.fFrom).bind fun r1 => ((cmp_Compare_int p1.fSpan.fTo p0.fSpan.fTo).bind fun r2 => ((cmp_Compare_int p0.fThread p1.fThread).bind fun r3 => ((cmp_Or_int [r1, r2, r3]).bind fun r4 => some r4))))
set_option maxRecDepth 100000 in
set_option maxHeartbeats 4000000 in
theorem slice_compare_fun (p0 : api_Slice) (p1 : api_Slice) (r : Int) (hF : slice_compare p0 p1 = some r) : Fun Try.prog 61 true [] [.agg [.imm (tI p0.fThread), .imm (tI p0.fParent), .imm (tI p0.fDepth), .imm (.sc (.string p0.fName)), .imm (tI p0.fSpan.fFrom), .imm (tI p0.fSpan.fTo), .imm (tI p0.fSelf), .imm (.sc (.bool p0.fOpen))], .agg [.imm (tI p1.fThread), .imm (tI p1.fParent), .imm (tI p1.fDepth), .imm (.sc (.string p1.fName)), .imm (tI p1.fSpan.fFrom), .imm (tI p1.fSpan.fTo), .imm (tI p1.fSelf), .imm (.sc (.bool p1.fOpen))]] noHeap (.c (.imm (tI r))) noHeap := by
  refine Fun.of_walk0 Try.func61 c61 (by kernel_rfl) (rs := [.tmp 4]) (by kernel_rfl) ?_
  unfold v61
  unfold slice_compare at hF
  refine W_seq ?_
  refine W_regV (by decide) ?_
  refine QV rfl ?_
  refine W_seq ?_
  refine W_regD (by decide) (by kernel_rfl) rfl ?_
  refine Q_run SP 6 rfl ?_
  obtain ⟨r1, hr1, hF⟩ := bB hF
  refine R_step SP trivial (T_call (cmp_Compare_int_fun _ _ _ hr1) ⟨rfl, rfl, trivial⟩ rfl (.inl rfl) ?_)
  refine Q_run SP 6 rfl ?_
  obtain ⟨r2, hr2, hF⟩ := bB hF
  refine R_step SP trivial (T_call (cmp_Compare_int_fun _ _ _ hr2) ⟨rfl, rfl, trivial⟩ rfl (.inl rfl) ?_)
  refine Q_run SP 4 rfl ?_
  obtain ⟨r3, hr3, hF⟩ := bB hF
  refine R_step SP trivial (T_call (cmp_Compare_int_fun _ _ _ hr3) ⟨rfl, rfl, trivial⟩ rfl (.inl rfl) ?_)
  refine R_step SP trivial (T_bsl (tc := t_i64) [r1, r2, r3] rfl ⟨rfl, rfl, rfl, trivial⟩ rfl (fun _ => rfl) rfl ?_)
  obtain ⟨r4, hr4, hF⟩ := bB hF
  refine R_step SP trivial (T_call (cmp_Or_int_fun _ _ hr4) ⟨⟨_, rfl⟩, trivial⟩ rfl (.inl rfl) ?_)
  refine QP rfl ?_
  refine W_ret ?_
  cases hF
  exact ⟨_, rfl, rfl, ⟨rfl, fun _ => rfl⟩, noOut _⟩
def slice_nested_L1 (p0 : (List api_Slice)) : Int → Option (Int ⊕ (Unit ⊕ Bool)) := fun a30 =>
  (bif (decide (a30 < (List.length p0 : Int))) then ((idx p0 a30).bind fun y44 => (((bif (decide (y44.fParent < (-1))) then some true else some (decide (a30 ≤ y44.fParent))) : Option Bool).bind fun v45 => (bif v45 then some (.inr (.inr false)) else (bif (decide (y44.fParent = (-1))) then (bif (!decide (y44.fDepth = 0)) then some (.inr (.inr false)) else some (.inl (w64 (a30 + 1)))) else ((idx p0 y44.fParent).bind fun y47 => (((bif (!decide (y47.fThread = y44.fThread)) then some true else (bif (decide (y44.fSpan.fFrom < y47.fSpan.fFrom)) then some true else (bif (decide (y47.fSpan.fTo < y44.fSpan.fTo)) then some true else some (!decide (y44.fDepth = (w64 (y47.fDepth + 1))))))) : Option Bool).bind fun v48 => (bif v48 then some (.inr (.inr false)) else some (.inl (w64 (a30 + 1)))))))))) else some (.inr (.inl ())))
def slice_nested (p0 : (List api_Slice)) : Option Bool :=
  ((loop (slice_nested_L1 p0) 0).bind fun | .inl _ => some true | .inr rv => some rv)
set_option maxRecDepth 100000 in
set_option maxHeartbeats 4000000 in
theorem slice_nested_fun (p0 : (List api_Slice)) (r : Bool) (hF : slice_nested p0 = some r) : Fun Try.prog 62 true [] [.c (.imm (.sl 8 (List.map t_api_Slice p0)))] noHeap (.c (.imm (.sc (.bool r)))) noHeap := by
  refine Fun.of_walk0 Try.func62 c62 (by kernel_rfl) (rs := [.tmp 2]) (by kernel_rfl) ?_
  unfold v62
  unfold slice_nested at hF
  refine W_seq ?_
  refine W_regV (by decide) ?_
  refine QV rfl ?_
  refine W_seq ?_
  refine W_seq ?_
  refine W_regV (by decide) ?_
  refine Q_run SV 1 rfl ?_
  refine R_step SV trivial (T_len (tc := t_api_Slice) p0 .tree ?_)
  refine QV rfl ?_
  refine W_for (fun _ _ h => h) hF (.inl) (fun a30 => [(0, .c (.imm (.sl 8 (List.map t_api_Slice p0)))), (6, .c (.imm (.sl 8 (List.map t_api_Slice p0)))), (7, .c (.imm (tI (List.length p0 : Int)))), (8, .c (.imm (tI a30)))]) (fun a30 => []) (fun _ => []) (fun _ => []) (S_weak ⟨rfl, rfl, rfl, rfl, trivial⟩ trivial) ?_ ?_
  · rintro ⟨⟩ hF
    refine W_seq ?_
    refine W_regV (by decide) ?_
    refine QV rfl ?_
    refine W_ret ?_
    cases hF
    exact ⟨_, rfl, rfl, ⟨rfl, fun _ => rfl⟩, noOut _⟩
  · rintro a30 x_0 hF cont_0 brk_0 fin_0
    unfold slice_nested_L1 at hF
    refine W_seq ?_
    refine W_regV (by decide) ?_
    refine QV rfl ?_
    refine W_seq ?_
    refine W_condL (t := (decide (a30 < (List.length p0 : Int)))) rfl (fun h56 => ?_) (fun h56 => ?_)
    · have hF := bT h56 hF
      refine W_skip ?_
      refine W_seq ?_
      refine W_block ?_
      refine W_seq ?_
      refine W_regV (by decide) ?_
      refine Q_run SV 1 rfl ?_
      obtain ⟨y44, hy44, hF⟩ := bB hF
      refine R_step SV trivial (T_ixT (tc := t_api_Slice) p0 rfl rfl hy44 ?_)
      refine QV rfl ?_
      refine W_block ?_
      refine W_seq ?_
      refine W_join (fun _ _ h => h) hF (fun v45 => [(0, .c (.imm (.sl 8 (List.map t_api_Slice p0)))), (4, .c (.ptrO (4,0) 0)), (6, .c (.imm (.sl 8 (List.map t_api_Slice p0)))), (7, .c (.imm (tI (List.length p0 : Int)))), (8, .c (.imm (tI a30))), (49, .c (.imm (.sc (.bool v45))))]) (fun v45 => [((4,0), .box [.imm (tI y44.fThread), .imm (tI y44.fParent), .imm (tI y44.fDepth), .imm (.sc (.string y44.fName)), .imm (tI y44.fSpan.fFrom), .imm (tI y44.fSpan.fTo), .imm (tI y44.fSelf), .imm (.sc (.bool y44.fOpen))])]) ?_ ?_
      · rintro v45 hF
        refine W_condL (t := v45) rfl (fun h54 => ?_) (fun h54 => ?_)
        · have hF := bT h54 hF
          refine W_seq ?_
          refine W_regV (by decide) ?_
          refine QV rfl ?_
          have hF := fin_0 _ (Option.some.inj hF).symm
          refine W_ret ?_
          cases hF
          exact ⟨_, rfl, rfl, ⟨rfl, fun _ => rfl⟩, noOut _⟩
        · have hF := bF h54 hF
          refine W_seq ?_
          refine W_regV (by decide) ?_
          refine QV rfl ?_
          refine W_condL (t := (decide (y44.fParent = (-1)))) rfl (fun h53 => ?_) (fun h53 => ?_)
          · have hF := bT h53 hF
            refine W_seq ?_
            refine W_regV (by decide) ?_
            refine QV rfl ?_
            refine W_condL (t := (!decide (y44.fDepth = 0))) rfl (fun h46 => ?_) (fun h46 => ?_)
            · have hF := bT h46 hF
              refine W_seq ?_
              refine W_regV (by decide) ?_
              refine QV rfl ?_
              have hF := fin_0 _ (Option.some.inj hF).symm
              refine W_ret ?_
              cases hF
              exact ⟨_, rfl, rfl, ⟨rfl, fun _ => rfl⟩, noOut _⟩
            · have hF := bF h46 hF
              refine W_skip ?_
              refine W_regV (by decide) ?_
              refine QV rfl ?_
              exact cont_0 _ _ _ (Option.some.inj hF).symm (S_weak ⟨rfl, rfl, rfl, rfl, trivial⟩ trivial)
          · have hF := bF h53 hF
            refine W_seq ?_
            refine W_regV (by decide) ?_
            refine Q_run SV 3 rfl ?_
            obtain ⟨y47, hy47, hF⟩ := bB hF
            refine R_step SV trivial (T_ixT (tc := t_api_Slice) p0 rfl rfl hy47 ?_)
            refine QV rfl ?_
            refine W_seq ?_
            refine W_join (fun _ _ h => h) hF (fun v48 => [(0, .c (.imm (.sl 8 (List.map t_api_Slice p0)))), (6, .c (.imm (.sl 8 (List.map t_api_Slice p0)))), (7, .c (.imm (tI (List.length p0 : Int)))), (8, .c (.imm (tI a30))), (48, .c (.imm (.sc (.bool v48))))]) (fun v48 => []) ?_ ?_
            · rintro v48 hF
              refine W_condL (t := v48) rfl (fun h49 => ?_) (fun h49 => ?_)
              · have hF := bT h49 hF
                refine W_seq ?_
                refine W_regV (by decide) ?_
                refine QV rfl ?_
                have hF := fin_0 _ (Option.some.inj hF).symm
                refine W_ret ?_
                cases hF
                exact ⟨_, rfl, rfl, ⟨rfl, fun _ => rfl⟩, noOut _⟩
              · have hF := bF h49 hF
                refine W_skip ?_
                refine W_regV (by decide) ?_
                refine QV rfl ?_
                exact cont_0 _ _ _ (Option.some.inj hF).symm (S_weak ⟨rfl, rfl, rfl, rfl, trivial⟩ trivial)
            · intro join hF
              refine W_regV (by decide) ?_
              refine Q_run SV 6 rfl ?_
              cases h50 : (!decide (y47.fThread = y44.fThread))
              · have hF := bF' h50 hF
                refine Q_run SV 9 rfl ?_
                cases h51 : (decide (y44.fSpan.fFrom < y47.fSpan.fFrom))
                · have hF := bF' h51 hF
                  refine Q_run SV 9 rfl ?_
                  cases h52 : (decide (y47.fSpan.fTo < y44.fSpan.fTo))
                  · have hF := bF' h52 hF
                    refine QV rfl ?_
                    exact join (!decide (y44.fDepth = (w64 (y47.fDepth + 1)))) _ _ hF (S_weak ⟨rfl, rfl, rfl, rfl, rfl, trivial⟩ trivial)
                  · have hF := bT' h52 hF
                    refine QV rfl ?_
                    exact join true _ _ hF (S_weak ⟨rfl, rfl, rfl, rfl, rfl, trivial⟩ trivial)
                · have hF := bT' h51 hF
                  refine QV rfl ?_
                  exact join true _ _ hF (S_weak ⟨rfl, rfl, rfl, rfl, rfl, trivial⟩ trivial)
              · have hF := bT' h50 hF
                refine QV rfl ?_
                exact join true _ _ hF (S_weak ⟨rfl, rfl, rfl, rfl, rfl, trivial⟩ trivial)
      · intro join hF
        refine W_regV (by decide) ?_
        refine Q_run SV 4 rfl ?_
        cases h55 : (decide (y44.fParent < (-1)))
        · have hF := bF' h55 hF
          refine QV rfl ?_
          exact join (decide (a30 ≤ y44.fParent)) _ _ hF (S_weak ⟨rfl, rfl, rfl, rfl, rfl, rfl, trivial⟩ ⟨rfl, trivial⟩)
        · have hF := bT' h55 hF
          refine QV rfl ?_
          exact join true _ _ hF (S_weak ⟨rfl, rfl, rfl, rfl, rfl, rfl, trivial⟩ ⟨rfl, trivial⟩)
    · have hF := bF h56 hF
      refine W_exit ?_
      refine thenQ_exit ?_
      refine thenQ_exit ?_
      refine blockQ_hit ?_
      exact brk_0 _ _ _ (Option.some.inj hF).symm (S_weak trivial trivial)
def slice_under_L1 (p0 : (List api_Slice)) (p1 : Int) : Int → Option (Int ⊕ (Unit ⊕ Bool)) := fun a10 =>
  (bif (decide (0 ≤ a10)) then (bif (decide (p1 = a10)) then some (.inr (.inr true)) else ((idx p0 a10).bind fun y14 => some (.inl y14.fParent))) else some (.inr (.inl ())))
def slice_under (p0 : (List api_Slice)) (p1 : Int) (p2 : Int) : Option Bool :=
  ((loop (slice_under_L1 p0 p1) p2).bind fun | .inl _ => some false | .inr rv => some rv)
set_option maxRecDepth 100000 in
set_option maxHeartbeats 4000000 in
theorem slice_under_fun (p0 : (List api_Slice)) (p1 : Int) (p2 : Int) (r : Bool) (hF : slice_under p0 p1 p2 = some r) : Fun Try.prog 82 true [] [.c (.imm (.sl 8 (List.map t_api_Slice p0))), .c (.imm (tI p1)), .c (.imm (tI p2))] noHeap (.c (.imm (.sc (.bool r)))) noHeap := by
  refine Fun.of_walk0 Try.func82 c82 (by kernel_rfl) (rs := [.tmp 6]) (by kernel_rfl) ?_
  unfold v82
  unfold slice_under at hF
  refine W_seq ?_
  refine W_regV (by decide) ?_
  refine QV rfl ?_
  refine W_seq ?_
  refine W_for (fun _ _ h => h) hF (.inl) (fun a10 => [(0, .c (.imm (.sl 8 (List.map t_api_Slice p0)))), (1, .c (.imm (tI p1))), (2, .c (.imm (tI a10)))]) (fun a10 => []) (fun _ => []) (fun _ => []) (S_weak ⟨rfl, rfl, rfl, trivial⟩ trivial) ?_ ?_
  · rintro ⟨⟩ hF
    refine W_seq ?_
    refine W_regV (by decide) ?_
    refine QV rfl ?_
    refine W_ret ?_
    cases hF
    exact ⟨_, rfl, rfl, ⟨rfl, fun _ => rfl⟩, noOut _⟩
  · rintro a10 x_0 hF cont_0 brk_0 fin_0
    unfold slice_under_L1 at hF
    refine W_seq ?_
    refine W_seq ?_
    refine W_regV (by decide) ?_
    refine QV rfl ?_
    refine W_condL (t := (decide (0 ≤ a10))) rfl (fun h16 => ?_) (fun h16 => ?_)
    · have hF := bT h16 hF
      refine W_skip ?_
      refine W_seq ?_
      refine W_block ?_
      refine W_seq ?_
      refine W_regV (by decide) ?_
      refine QV rfl ?_
      refine W_condL (t := (decide (p1 = a10))) rfl (fun h15 => ?_) (fun h15 => ?_)
      · have hF := bT h15 hF
        refine W_seq ?_
        refine W_regV (by decide) ?_
        refine QV rfl ?_
        have hF := fin_0 _ (Option.some.inj hF).symm
        refine W_ret ?_
        cases hF
        exact ⟨_, rfl, rfl, ⟨rfl, fun _ => rfl⟩, noOut _⟩
      · have hF := bF h15 hF
        refine W_skip ?_
        refine W_regV (by decide) ?_
        refine Q_run SV 2 rfl ?_
        obtain ⟨y14, hy14, hF⟩ := bB hF
        refine R_step SV trivial (T_ixT (tc := t_api_Slice) p0 rfl rfl hy14 ?_)
        refine QV rfl ?_
        exact cont_0 _ _ _ (Option.some.inj hF).symm (S_weak ⟨rfl, rfl, rfl, trivial⟩ trivial)
    · have hF := bF h16 hF
      refine W_exit ?_
      refine thenQ_exit ?_
      refine thenQ_exit ?_
      refine blockQ_hit ?_
      exact brk_0 _ _ _ (Option.some.inj hF).symm (S_weak trivial trivial)
def slice_apart_L1 (p0 : (List api_Slice)) (a116 : Int) (y173 : api_Slice) : (Int × Int) → Option ((Int × Int) ⊕ (Int ⊕ (Int ⊕ (Unit ⊕ Bool)))) := fun (a202, a203) =>
  (bif (decide (a203 < (List.length p0 : Int))) then ((idx p0 a203).bind fun y217 => (((bif (decide (y217.fParent = a116)) then some (w64 (a202 - (w64 (y217.fSpan.fTo - y217.fSpan.fFrom)))) else some a202) : Option Int).bind fun v218 => (((bif (decide (a203 < a116)) then (bif (decide (y217.fThread = y173.fThread)) then (bif (decide (y173.fSpan.fFrom < y217.fSpan.fTo)) then (bif (decide (y217.fSpan.fFrom < y173.fSpan.fTo)) then ((slice_under p0 a203 a116).bind fun r225 => some (!r225)) else some false) else some false) else some false) else some false) : Option Bool).bind fun v219 => (bif v219 then some (.inr (.inr (.inr (.inr false)))) else some (.inl (v218, (w64 (a203 + 1)))))))) else some (.inr (.inl a202)))
def slice_apart_L2 (p0 : (List api_Slice)) : Int → Option (Int ⊕ (Unit ⊕ Bool)) := fun a116 =>
  (bif (decide (a116 < (List.length p0 : Int))) then ((idx p0 a116).bind fun y173 => ((loop (slice_apart_L1 p0 a116 y173) ((w64 (y173.fSpan.fTo - y173.fSpan.fFrom)), 0)).bind fun | .inl e215 => (bif (!decide (y173.fSelf = e215)) then some (.inr (.inr false)) else some (.inl (w64 (a116 + 1)))) | .inr rv => some rv)) else some (.inr (.inl ())))
def slice_apart (p0 : (List api_Slice)) : Option Bool :=
  ((loop (slice_apart_L2 p0) 0).bind fun | .inl _ => some true | .inr rv => some rv)
set_option maxRecDepth 100000 in
set_option maxHeartbeats 4000000 in
theorem slice_apart_fun (p0 : (List api_Slice)) (r : Bool) (hF : slice_apart p0 = some r) : Fun Try.prog 63 true [] [.c (.imm (.sl 8 (List.map t_api_Slice p0)))] noHeap (.c (.imm (.sc (.bool r)))) noHeap := by
  refine Fun.of_walk0 Try.func63 c63 (by kernel_rfl) (rs := [.tmp 2]) (by kernel_rfl) ?_
  unfold v63
  unfold slice_apart at hF
  refine W_seq ?_
  refine W_regV (by decide) ?_
  refine QV rfl ?_
  refine W_seq ?_
  refine W_seq ?_
  refine W_regV (by decide) ?_
  refine Q_run SV 1 rfl ?_
  refine R_step SV trivial (T_len (tc := t_api_Slice) p0 .tree ?_)
  refine QV rfl ?_
  refine W_for (fun _ _ h => h) hF (.inl) (fun a116 => [(0, .c (.imm (.sl 8 (List.map t_api_Slice p0)))), (8, .c (.imm (.sl 8 (List.map t_api_Slice p0)))), (9, .c (.imm (tI (List.length p0 : Int)))), (10, .c (.imm (tI a116)))]) (fun a116 => []) (fun _ => []) (fun _ => []) (S_weak ⟨rfl, rfl, rfl, rfl, trivial⟩ trivial) ?_ ?_
  · rintro ⟨⟩ hF
    refine W_seq ?_
    refine W_regV (by decide) ?_
    refine QV rfl ?_
    refine W_ret ?_
    cases hF
    exact ⟨_, rfl, rfl, ⟨rfl, fun _ => rfl⟩, noOut _⟩
  · rintro a116 x_0 hF cont_0 brk_0 fin_0
    unfold slice_apart_L2 at hF
    refine W_seq ?_
    refine W_regV (by decide) ?_
    refine QV rfl ?_
    refine W_seq ?_
    refine W_condL (t := (decide (a116 < (List.length p0 : Int)))) rfl (fun h228 => ?_) (fun h228 => ?_)
    · have hF := bT h228 hF
      refine W_skip ?_
      refine W_seq ?_
      refine W_block ?_
      refine W_seq ?_
      refine W_regV (by decide) ?_
      refine Q_run SV 1 rfl ?_
      obtain ⟨y173, hy173, hF⟩ := bB hF
      refine R_step SV trivial (T_ixT (tc := t_api_Slice) p0 rfl rfl hy173 ?_)
      refine QV rfl ?_
      refine W_seq ?_
      refine W_regV (by decide) ?_
      refine QV rfl ?_
      refine W_seq ?_
      refine W_seq ?_
      refine W_regV (by decide) ?_
      refine Q_run SV 1 rfl ?_
      refine R_step SV trivial (T_len (tc := t_api_Slice) p0 .tree ?_)
      refine QV rfl ?_
      refine W_for (fun _ _ h => h) hF (.inl) (fun (a202, a203) => [(0, .c (.imm (.sl 8 (List.map t_api_Slice p0)))), (3, .c (.imm (tI a116))), (4, .c (.ptrO (4,0) 0)), (5, .c (.imm (tI a202))), (8, .c (.imm (.sl 8 (List.map t_api_Slice p0)))), (9, .c (.imm (tI (List.length p0 : Int)))), (10, .c (.imm (tI a116))), (22, .c (.imm (.sl 8 (List.map t_api_Slice p0)))), (23, .c (.imm (tI (List.length p0 : Int)))), (24, .c (.imm (tI a203)))]) (fun (a202, a203) => [((4,0), .box [.imm (tI y173.fThread), .imm (tI y173.fParent), .imm (tI y173.fDepth), .imm (.sc (.string y173.fName)), .imm (tI y173.fSpan.fFrom), .imm (tI y173.fSpan.fTo), .imm (tI y173.fSelf), .imm (.sc (.bool y173.fOpen))])]) (fun e215 => [(0, .c (.imm (.sl 8 (List.map t_api_Slice p0)))), (4, .c (.ptrO (4,0) 0)), (5, .c (.imm (tI e215))), (8, .c (.imm (.sl 8 (List.map t_api_Slice p0)))), (9, .c (.imm (tI (List.length p0 : Int)))), (10, .c (.imm (tI a116)))]) (fun e215 => [((4,0), .box [.imm (tI y173.fThread), .imm (tI y173.fParent), .imm (tI y173.fDepth), .imm (.sc (.string y173.fName)), .imm (tI y173.fSpan.fFrom), .imm (tI y173.fSpan.fTo), .imm (tI y173.fSelf), .imm (.sc (.bool y173.fOpen))])]) (S_weak ⟨rfl, rfl, rfl, rfl, rfl, rfl, rfl, rfl, rfl, rfl, trivial⟩ ⟨rfl, trivial⟩) ?_ ?_
      · rintro e215 hF
        refine W_seq ?_
        refine W_regV (by decide) ?_
        refine QV rfl ?_
        refine W_condL (t := (!decide (y173.fSelf = e215))) rfl (fun h216 => ?_) (fun h216 => ?_)
        · have hF := bT h216 hF
          refine W_seq ?_
          refine W_regV (by decide) ?_
          refine QV rfl ?_
          have hF := fin_0 _ (Option.some.inj hF).symm
          refine W_ret ?_
          cases hF
          exact ⟨_, rfl, rfl, ⟨rfl, fun _ => rfl⟩, noOut _⟩
        · have hF := bF h216 hF
          refine W_skip ?_
          refine W_regV (by decide) ?_
          refine QV rfl ?_
          exact cont_0 _ _ _ (Option.some.inj hF).symm (S_weak ⟨rfl, rfl, rfl, rfl, trivial⟩ trivial)
      · rintro ⟨a202, a203⟩ x_1 hF cont_1 brk_1 fin_1
        unfold slice_apart_L1 at hF
        refine W_seq ?_
        refine W_regV (by decide) ?_
        refine QV rfl ?_
        refine W_seq ?_
        refine W_condL (t := (decide (a203 < (List.length p0 : Int)))) rfl (fun h227 => ?_) (fun h227 => ?_)
        · have hF := bT h227 hF
          refine W_skip ?_
          refine W_seq ?_
          refine W_block ?_
          refine W_seq ?_
          refine W_regV (by decide) ?_
          refine Q_run SV 1 rfl ?_
          obtain ⟨y217, hy217, hF⟩ := bB hF
          refine R_step SV trivial (T_ixT (tc := t_api_Slice) p0 rfl rfl hy217 ?_)
          refine QV rfl ?_
          refine W_seq ?_
          refine W_seq ?_
          refine W_regV (by decide) ?_
          refine QV rfl ?_
          refine W_join (fun _ _ h => h) hF (fun v218 => [(0, .c (.imm (.sl 8 (List.map t_api_Slice p0)))), (3, .c (.imm (tI a116))), (4, .c (.ptrO (4,0) 0)), (5, .c (.imm (tI v218))), (6, .c (.imm (tI a203))), (7, .c (.ptrO (7,0) 0)), (8, .c (.imm (.sl 8 (List.map t_api_Slice p0)))), (9, .c (.imm (tI (List.length p0 : Int)))), (10, .c (.imm (tI a116))), (22, .c (.imm (.sl 8 (List.map t_api_Slice p0)))), (23, .c (.imm (tI (List.length p0 : Int)))), (24, .c (.imm (tI a203)))]) (fun v218 => [((4,0), .box [.imm (tI y173.fThread), .imm (tI y173.fParent), .imm (tI y173.fDepth), .imm (.sc (.string y173.fName)), .imm (tI y173.fSpan.fFrom), .imm (tI y173.fSpan.fTo), .imm (tI y173.fSelf), .imm (.sc (.bool y173.fOpen))]), ((7,0), .box [.imm (tI y217.fThread), .imm (tI y217.fParent), .imm (tI y217.fDepth), .imm (.sc (.string y217.fName)), .imm (tI y217.fSpan.fFrom), .imm (tI y217.fSpan.fTo), .imm (tI y217.fSelf), .imm (.sc (.bool y217.fOpen))])]) ?_ ?_
          · rintro v218 hF
            refine W_seq ?_
            refine W_join (fun _ _ h => h) hF (fun v219 => [(0, .c (.imm (.sl 8 (List.map t_api_Slice p0)))), (3, .c (.imm (tI a116))), (4, .c (.ptrO (4,0) 0)), (5, .c (.imm (tI v218))), (8, .c (.imm (.sl 8 (List.map t_api_Slice p0)))), (9, .c (.imm (tI (List.length p0 : Int)))), (10, .c (.imm (tI a116))), (22, .c (.imm (.sl 8 (List.map t_api_Slice p0)))), (23, .c (.imm (tI (List.length p0 : Int)))), (24, .c (.imm (tI a203))), (76, .c (.imm (.sc (.bool v219))))]) (fun v219 => [((4,0), .box [.imm (tI y173.fThread), .imm (tI y173.fParent), .imm (tI y173.fDepth), .imm (.sc (.string y173.fName)), .imm (tI y173.fSpan.fFrom), .imm (tI y173.fSpan.fTo), .imm (tI y173.fSelf), .imm (.sc (.bool y173.fOpen))])]) ?_ ?_
            · rintro v219 hF
              refine W_condL (t := v219) rfl (fun h220 => ?_) (fun h220 => ?_)
              · have hF := bT h220 hF
                refine W_seq ?_
                refine W_regV (by decide) ?_
                refine QV rfl ?_
                have hF := fin_1 _ (Option.some.inj hF).symm
                have hF := fin_0 _ (Option.some.inj hF).symm
                refine W_ret ?_
                cases hF
                exact ⟨_, rfl, rfl, ⟨rfl, fun _ => rfl⟩, noOut _⟩
              · have hF := bF h220 hF
                refine W_skip ?_
                refine W_regV (by decide) ?_
                refine QV rfl ?_
                exact cont_1 _ _ _ (Option.some.inj hF).symm (S_weak ⟨rfl, rfl, rfl, rfl, rfl, rfl, rfl, rfl, rfl, rfl, trivial⟩ ⟨rfl, trivial⟩)
            · intro join hF
              refine W_regV (by decide) ?_
              refine Q_run SV 4 rfl ?_
              cases h221 : (decide (a203 < a116))
              · have hF := bF' h221 hF
                refine QV rfl ?_
                exact join false _ _ hF (S_weak ⟨rfl, rfl, rfl, rfl, rfl, rfl, rfl, rfl, rfl, rfl, rfl, trivial⟩ ⟨rfl, trivial⟩)
              · have hF := bT' h221 hF
                refine Q_run SV 7 rfl ?_
                cases h222 : (decide (y217.fThread = y173.fThread))
                · have hF := bF' h222 hF
                  refine QV rfl ?_
                  exact join false _ _ hF (S_weak ⟨rfl, rfl, rfl, rfl, rfl, rfl, rfl, rfl, rfl, rfl, rfl, trivial⟩ ⟨rfl, trivial⟩)
                · have hF := bT' h222 hF
                  refine Q_run SV 9 rfl ?_
                  cases h223 : (decide (y173.fSpan.fFrom < y217.fSpan.fTo))
                  · have hF := bF' h223 hF
                    refine QV rfl ?_
                    exact join false _ _ hF (S_weak ⟨rfl, rfl, rfl, rfl, rfl, rfl, rfl, rfl, rfl, rfl, rfl, trivial⟩ ⟨rfl, trivial⟩)
                  · have hF := bT' h223 hF
                    refine Q_run SV 9 rfl ?_
                    cases h224 : (decide (y217.fSpan.fFrom < y173.fSpan.fTo))
                    · have hF := bF' h224 hF
                      refine QV rfl ?_
                      exact join false _ _ hF (S_weak ⟨rfl, rfl, rfl, rfl, rfl, rfl, rfl, rfl, rfl, rfl, rfl, trivial⟩ ⟨rfl, trivial⟩)
                    · have hF := bT' h224 hF
                      refine Q_run SV 3 rfl ?_
                      obtain ⟨r225, hr225, hF⟩ := bB' hF
                      refine R_step SV rfl (T_call (slice_under_fun _ _ _ _ hr225) ⟨rfl, rfl, rfl, trivial⟩ rfl (.inl rfl) ?_)
                      refine QV rfl ?_
                      exact join (!r225) _ _ hF (S_weak ⟨rfl, rfl, rfl, rfl, rfl, rfl, rfl, rfl, rfl, rfl, rfl, trivial⟩ ⟨rfl, trivial⟩)
          · intro join hF
            refine W_condL (t := (decide (y217.fParent = a116))) rfl (fun h226 => ?_) (fun h226 => ?_)
            · have hF := bT' h226 hF
              refine W_regV (by decide) ?_
              refine QV rfl ?_
              exact join (w64 (a202 - (w64 (y217.fSpan.fTo - y217.fSpan.fFrom)))) _ _ hF (S_weak ⟨rfl, rfl, rfl, rfl, rfl, rfl, rfl, rfl, rfl, rfl, rfl, rfl, trivial⟩ ⟨rfl, rfl, trivial⟩)
            · have hF := bF' h226 hF
              refine W_skip ?_
              exact join a202 _ _ hF (S_weak ⟨rfl, rfl, rfl, rfl, rfl, rfl, rfl, rfl, rfl, rfl, rfl, rfl, trivial⟩ ⟨rfl, rfl, trivial⟩)
        · have hF := bF h227 hF
          refine W_exit ?_
          refine thenQ_exit ?_
          refine thenQ_exit ?_
          refine blockQ_hit ?_
          exact brk_1 _ _ _ (Option.some.inj hF).symm (S_weak ⟨rfl, rfl, rfl, rfl, rfl, rfl, trivial⟩ ⟨rfl, trivial⟩)
    · have hF := bF h228 hF
      refine W_exit ?_
      refine thenQ_exit ?_
      refine thenQ_exit ?_
      refine blockQ_hit ?_
      exact brk_0 _ _ _ (Option.some.inj hF).symm (S_weak trivial trivial)
def slice_Check_L1 (p0 : (List api_Slice)) : Int → Option (Int ⊕ (Unit ⊕ Int)) := fun a32 =>
  (bif (decide (a32 < (List.length p0 : Int))) then ((idx p0 a32).bind fun y52 => (((bif (decide (y52.fThread < 0)) then some true else (bif (decide (1000000000000000 < y52.fThread)) then some true else ((spans_Valid y52.fSpan).bind fun r64 => some (!r64)))) : Option Bool).bind fun v53 => (bif v53 then some (.inr (.inr 2)) else ((intern_Name y52.fName).bind fun r54 => (bif (!decide (r54 = 0)) then some (.inr (.inr r54)) else (((bif (decide (0 < a32)) then ((idx p0 (w64 (a32 - 1))).bind fun y58 => ((slice_compare y58 y52).bind fun r59 => some (decide (0 < r59)))) else some false) : Option Bool).bind fun v55 => (bif v55 then some (.inr (.inr 11)) else some (.inl (w64 (a32 + 1)))))))))) else some (.inr (.inl ())))
def slice_Check (p0 : (List api_Slice)) : Option Int :=
  ((loop (slice_Check_L1 p0) 0).bind fun | .inl _ => ((((slice_nested p0).bind fun r49 => (bif (!r49) then some true else ((slice_apart p0).bind fun r51 => some (!r51)))) : Option Bool).bind fun v47 => (bif v47 then some 10 else some 0)) | .inr rv => some rv)
set_option maxRecDepth 100000 in
set_option maxHeartbeats 4000000 in
theorem slice_Check_fun (p0 : (List api_Slice)) (r : Int) (hF : slice_Check p0 = some r) : Fun Try.prog 29 true [] [.c (.imm (.sl 8 (List.map t_api_Slice p0)))] noHeap (.c (.imm (tI r))) noHeap := by
  refine Fun.of_walk0 Try.func29 c29 (by kernel_rfl) (rs := [.tmp 2]) (by kernel_rfl) ?_
  unfold v29
  unfold slice_Check at hF
  refine W_seq ?_
  refine W_regV (by decide) ?_
  refine QV rfl ?_
  refine W_seq ?_
  refine W_seq ?_
  refine W_regV (by decide) ?_
  refine Q_run SV 1 rfl ?_
  refine R_step SV trivial (T_len (tc := t_api_Slice) p0 .tree ?_)
  refine QV rfl ?_
  refine W_for (fun _ _ h => h) hF (.inl) (fun a32 => [(0, .c (.imm (.sl 8 (List.map t_api_Slice p0)))), (6, .c (.imm (.sl 8 (List.map t_api_Slice p0)))), (7, .c (.imm (tI (List.length p0 : Int)))), (8, .c (.imm (tI a32)))]) (fun a32 => []) (fun _ => [(0, .c (.imm (.sl 8 (List.map t_api_Slice p0))))]) (fun _ => []) (S_weak ⟨rfl, rfl, rfl, rfl, trivial⟩ trivial) ?_ ?_
  · rintro ⟨⟩ hF
    refine W_seq ?_
    refine W_seq ?_
    refine W_join (fun _ _ h => h) hF (fun v47 => [(53, .c (.imm (.sc (.bool v47))))]) (fun v47 => []) ?_ ?_
    · rintro v47 hF
      refine W_condL (t := v47) rfl (fun h48 => ?_) (fun h48 => ?_)
      · have hF := bT h48 hF
        refine W_seq ?_
        refine W_regV (by decide) ?_
        refine QV rfl ?_
        refine W_ret ?_
        cases hF
        exact ⟨_, rfl, rfl, ⟨rfl, fun _ => rfl⟩, noOut _⟩
      · have hF := bF h48 hF
        refine W_skip ?_
        refine W_seq ?_
        refine W_regV (by decide) ?_
        refine QV rfl ?_
        refine W_ret ?_
        cases hF
        exact ⟨_, rfl, rfl, ⟨rfl, fun _ => rfl⟩, noOut _⟩
    · intro join hF
      refine W_regV (by decide) ?_
      refine Q_run SV 1 rfl ?_
      obtain ⟨r49, hr49, hF⟩ := bB' hF
      refine R_step SV trivial (T_call (slice_nested_fun _ _ hr49) ⟨rfl, trivial⟩ rfl (.inl rfl) ?_)
      refine Q_run SV 2 rfl ?_
      cases h50 : (!r49)
      · have hF := bF' h50 hF
        refine Q_run SV 1 rfl ?_
        obtain ⟨r51, hr51, hF⟩ := bB' hF
        refine R_step SV rfl (T_call (slice_apart_fun _ _ hr51) ⟨rfl, trivial⟩ rfl (.inl rfl) ?_)
        refine QV rfl ?_
        exact join (!r51) _ _ hF (S_weak ⟨rfl, trivial⟩ trivial)
      · have hF := bT' h50 hF
        refine QV rfl ?_
        exact join true _ _ hF (S_weak ⟨rfl, trivial⟩ trivial)
  · rintro a32 x_0 hF cont_0 brk_0 fin_0
    unfold slice_Check_L1 at hF
    refine W_seq ?_
    refine W_regV (by decide) ?_
    refine QV rfl ?_
    refine W_seq ?_
    refine W_condL (t := (decide (a32 < (List.length p0 : Int)))) rfl (fun h65 => ?_) (fun h65 => ?_)
    · have hF := bT h65 hF
      refine W_skip ?_
      refine W_seq ?_
      refine W_block ?_
      refine W_seq ?_
      refine W_regV (by decide) ?_
      refine Q_run SV 1 rfl ?_
      obtain ⟨y52, hy52, hF⟩ := bB hF
      refine R_step SV trivial (T_ixT (tc := t_api_Slice) p0 rfl rfl hy52 ?_)
      refine QV rfl ?_
      refine W_seq ?_
      refine W_seq ?_
      refine W_join (fun _ _ h => h) hF (fun v53 => [(0, .c (.imm (.sl 8 (List.map t_api_Slice p0)))), (3, .c (.imm (tI a32))), (4, .c (.ptrO (4,0) 0)), (6, .c (.imm (.sl 8 (List.map t_api_Slice p0)))), (7, .c (.imm (tI (List.length p0 : Int)))), (8, .c (.imm (tI a32))), (26, .c (.imm (.sc (.bool v53))))]) (fun v53 => [((4,0), .box [.imm (tI y52.fThread), .imm (tI y52.fParent), .imm (tI y52.fDepth), .imm (.sc (.string y52.fName)), .imm (tI y52.fSpan.fFrom), .imm (tI y52.fSpan.fTo), .imm (tI y52.fSelf), .imm (.sc (.bool y52.fOpen))])]) ?_ ?_
      · rintro v53 hF
        refine W_condL (t := v53) rfl (fun h61 => ?_) (fun h61 => ?_)
        · have hF := bT h61 hF
          refine W_seq ?_
          refine W_regV (by decide) ?_
          refine QV rfl ?_
          have hF := fin_0 _ (Option.some.inj hF).symm
          refine W_ret ?_
          cases hF
          exact ⟨_, rfl, rfl, ⟨rfl, fun _ => rfl⟩, noOut _⟩
        · have hF := bF h61 hF
          refine W_skip ?_
          refine W_seq ?_
          refine W_seq ?_
          refine W_regV (by decide) ?_
          refine Q_run SV 2 rfl ?_
          obtain ⟨r54, hr54, hF⟩ := bB hF
          refine R_step SV trivial (T_call (intern_Name_fun _ _ hr54) ⟨rfl, trivial⟩ rfl (.inl rfl) ?_)
          refine QV rfl ?_
          refine W_seq ?_
          refine W_regV (by decide) ?_
          refine QV rfl ?_
          refine W_condL (t := (!decide (r54 = 0))) rfl (fun h60 => ?_) (fun h60 => ?_)
          · have hF := bT h60 hF
            refine W_seq ?_
            refine W_regV (by decide) ?_
            refine QV rfl ?_
            have hF := fin_0 _ (Option.some.inj hF).symm
            refine W_ret ?_
            cases hF
            exact ⟨_, rfl, rfl, ⟨rfl, fun _ => rfl⟩, noOut _⟩
          · have hF := bF h60 hF
            refine W_skip ?_
            refine W_seq ?_
            refine W_join (fun _ _ h => h) hF (fun v55 => [(0, .c (.imm (.sl 8 (List.map t_api_Slice p0)))), (6, .c (.imm (.sl 8 (List.map t_api_Slice p0)))), (7, .c (.imm (tI (List.length p0 : Int)))), (8, .c (.imm (tI a32))), (44, .c (.imm (.sc (.bool v55))))]) (fun v55 => []) ?_ ?_
            · rintro v55 hF
              refine W_condL (t := v55) rfl (fun h56 => ?_) (fun h56 => ?_)
              · have hF := bT h56 hF
                refine W_seq ?_
                refine W_regV (by decide) ?_
                refine QV rfl ?_
                have hF := fin_0 _ (Option.some.inj hF).symm
                refine W_ret ?_
                cases hF
                exact ⟨_, rfl, rfl, ⟨rfl, fun _ => rfl⟩, noOut _⟩
              · have hF := bF h56 hF
                refine W_skip ?_
                refine W_regV (by decide) ?_
                refine QV rfl ?_
                exact cont_0 _ _ _ (Option.some.inj hF).symm (S_weak ⟨rfl, rfl, rfl, rfl, trivial⟩ trivial)
            · intro join hF
              refine W_regD (by decide) (by kernel_rfl) rfl ?_
              refine Q_run SP 3 rfl ?_
              cases h57 : (decide (0 < a32))
              · have hF := bF' h57 hF
                refine QP rfl ?_
                exact join false _ _ hF (S_weak ⟨rfl, rfl, rfl, rfl, rfl, trivial⟩ trivial)
              · have hF := bT' h57 hF
                refine Q_run SP 3 rfl ?_
                obtain ⟨y58, hy58, hF⟩ := bB' hF
                refine R_step SP rfl (T_ixT (tc := t_api_Slice) p0 rfl rfl hy58 ?_)
                refine Q_run SP 2 rfl ?_
                obtain ⟨r59, hr59, hF⟩ := bB' hF
                refine R_step SP rfl (T_call (slice_compare_fun _ _ _ hr59) ⟨⟨rfl, rfl, rfl, rfl, rfl, rfl, rfl, rfl, trivial⟩, ⟨rfl, rfl, rfl, rfl, rfl, rfl, rfl, rfl, trivial⟩, trivial⟩ rfl (.inl rfl) ?_)
                refine QP rfl ?_
                exact join (decide (0 < r59)) _ _ hF (S_weak ⟨rfl, rfl, rfl, rfl, rfl, trivial⟩ trivial)
      · intro join hF
        refine W_regV (by decide) ?_
        refine Q_run SV 4 rfl ?_
        cases h62 : (decide (y52.fThread < 0))
        · have hF := bF' h62 hF
          refine Q_run SV 5 rfl ?_
          cases h63 : (decide (1000000000000000 < y52.fThread))
          · have hF := bF' h63 hF
            refine Q_run SV 2 rfl ?_
            obtain ⟨r64, hr64, hF⟩ := bB' hF
            refine R_step SV rfl (T_call (spans_Valid_fun _ _ hr64) ⟨⟨rfl, rfl, trivial⟩, trivial⟩ rfl (.inl rfl) ?_)
            refine QV rfl ?_
            exact join (!r64) _ _ hF (S_weak ⟨rfl, rfl, rfl, rfl, rfl, rfl, rfl, trivial⟩ ⟨rfl, trivial⟩)
          · have hF := bT' h63 hF
            refine QV rfl ?_
            exact join true _ _ hF (S_weak ⟨rfl, rfl, rfl, rfl, rfl, rfl, rfl, trivial⟩ ⟨rfl, trivial⟩)
        · have hF := bT' h62 hF
          refine QV rfl ?_
          exact join true _ _ hF (S_weak ⟨rfl, rfl, rfl, rfl, rfl, rfl, rfl, trivial⟩ ⟨rfl, trivial⟩)
    · have hF := bF h65 hF
      refine W_exit ?_
      refine thenQ_exit ?_
      refine thenQ_exit ?_
      refine blockQ_hit ?_
      exact brk_0 _ _ _ (Option.some.inj hF).symm (S_weak ⟨rfl, trivial⟩ trivial)
def trace_tables_1 (p0 : api_Slice) : Option Int :=
  some p0.fThread
set_option maxRecDepth 100000 in
set_option maxHeartbeats 4000000 in
theorem trace_tables_1_fun (p0 : api_Slice) (r : Int) (hF : trace_tables_1 p0 = some r) : Fun Try.prog 30 true [] [.agg [.imm (tI p0.fThread), .imm (tI p0.fParent), .imm (tI p0.fDepth), .imm (.sc (.string p0.fName)), .imm (tI p0.fSpan.fFrom), .imm (tI p0.fSpan.fTo), .imm (tI p0.fSelf), .imm (.sc (.bool p0.fOpen))]] noHeap (.c (.imm (tI r))) noHeap := by
  refine Fun.of_walk0 Try.func30 c30 (by kernel_rfl) (rs := [.tmp 2]) (by kernel_rfl) ?_
  unfold v30
  unfold trace_tables_1 at hF
  refine W_seq ?_
  refine W_regV (by decide) ?_
  refine QV rfl ?_
  refine W_seq ?_
  refine W_regV (by decide) ?_
  refine QV rfl ?_
  refine W_ret ?_
  cases hF
  exact ⟨_, rfl, rfl, ⟨rfl, fun _ => rfl⟩, noOut _⟩
def trace_known_api_Slice_k1_L1 (p1 : (List (Int × ByteArray))) (p2 : (List api_Slice)) : Int → Option (Int ⊕ (Unit ⊕ Int)) := fun a12 =>
  (bif (decide (a12 < (List.length p2 : Int))) then ((idx p2 a12).bind fun y17 => ((trace_tables_1 y17).bind fun r18 => (bif (!(Option.isSome (mget r18 p1))) then some (.inr (.inr 5)) else some (.inl (w64 (a12 + 1)))))) else some (.inr (.inl ())))
def trace_known_api_Slice_k1 (p0 : Int) (p1 : (List (Int × ByteArray))) (p2 : (List api_Slice)) : Option Int :=
  (bif (!decide (p0 = 0)) then some p0 else ((loop (trace_known_api_Slice_k1_L1 p1 p2) 0).bind fun | .inl _ => some 0 | .inr rv => some rv))
set_option maxRecDepth 100000 in
set_option maxHeartbeats 4000000 in
theorem trace_known_api_Slice_k1_fun (p0 : Int) (p1 : (List (Int × ByteArray))) (p2 : (List api_Slice)) (r : Int) (hF : trace_known_api_Slice_k1 p0 p1 p2 = some r) : Fun Try.prog 28 false [(2120,0)] [.c (.imm (tI p0)), .c (.mapO (2120,0)), .c (.imm (.sl 8 (List.map t_api_Slice p2))), .c (.fn 30 [])] (heapOf [((2120,0), mapOb (.int .i64) (fun n : Int => .int .i64 n) (fun y : ByteArray => (.one (.sc (.string y)) : MT)) p1)]) (.c (.imm (tI r))) (heapOf [((2120,0), mapOb (.int .i64) (fun n : Int => .int .i64 n) (fun y : ByteArray => (.one (.sc (.string y)) : MT)) p1)]) := by
  refine Fun.of_walkM [(2120,0)] (some [(2120,0)]) Try.func28 c28 (by kernel_rfl) (rs := [.tmp 8]) (by kernel_rfl) rfl rfl rfl ?_
  unfold v28
  unfold trace_known_api_Slice_k1 at hF
  refine W_seq ?_
  refine W_regV (by decide) ?_
  refine QV rfl ?_
  refine W_seq ?_
  refine W_seq ?_
  refine W_regV (by decide) ?_
  refine QV rfl ?_
  refine W_condL (t := (!decide (p0 = 0))) rfl (fun h21 => ?_) (fun h21 => ?_)
  · have hF := bT h21 hF
    refine W_seq ?_
    refine W_regV (by decide) ?_
    refine QV rfl ?_
    refine W_ret ?_
    cases hF
    exact ⟨_, _, S_refl, _, rfl, rfl, ⟨rfl, fun _ => rfl⟩, (AgM.weak ⟨rfl, trivial⟩)⟩
  · have hF := bF h21 hF
    refine W_skip ?_
    refine W_seq ?_
    refine W_seq ?_
    refine W_regV (by decide) ?_
    refine Q_run SV 1 rfl ?_
    refine R_step SV trivial (T_len (tc := t_api_Slice) p2 .tree ?_)
    refine QV rfl ?_
    refine W_for (fun _ _ h => h) hF (.inl) (fun a12 => [(1, .c (.mapO (2120,0))), (3, .c (.fn 30 [])), (16, .c (.imm (.sl 8 (List.map t_api_Slice p2)))), (17, .c (.imm (tI (List.length p2 : Int)))), (18, .c (.imm (tI a12)))]) (fun a12 => [((2120,0), mapOb (.int .i64) (fun n : Int => .int .i64 n) (fun y : ByteArray => (.one (.sc (.string y)) : MT)) p1)]) (fun _ => []) (fun _ => [((2120,0), mapOb (.int .i64) (fun n : Int => .int .i64 n) (fun y : ByteArray => (.one (.sc (.string y)) : MT)) p1)]) (S_weak ⟨rfl, rfl, rfl, rfl, rfl, trivial⟩ ⟨rfl, trivial⟩) ?_ ?_
    · rintro ⟨⟩ hF
      refine W_seq ?_
      refine W_regV (by decide) ?_
      refine QV rfl ?_
      refine W_ret ?_
      cases hF
      exact ⟨_, _, S_refl, _, rfl, rfl, ⟨rfl, fun _ => rfl⟩, (AgM.weak ⟨rfl, trivial⟩)⟩
    · rintro a12 x_0 hF cont_0 brk_0 fin_0
      unfold trace_known_api_Slice_k1_L1 at hF
      refine W_seq ?_
      refine W_regV (by decide) ?_
      refine QV rfl ?_
      refine W_seq ?_
      refine W_condL (t := (decide (a12 < (List.length p2 : Int)))) rfl (fun h20 => ?_) (fun h20 => ?_)
      · have hF := bT h20 hF
        refine W_skip ?_
        refine W_seq ?_
        refine W_block ?_
        refine W_seq ?_
        refine W_regV (by decide) ?_
        obtain ⟨y17, hy17, hF⟩ := bB hF
        refine R_step SV trivial (T_ixT (tc := t_api_Slice) p2 rfl rfl hy17 ?_)
        refine QV rfl ?_
        refine W_seq ?_
        refine W_regV (by decide) ?_
        refine Q_run SV 3 rfl ?_
        obtain ⟨r18, hr18, hF⟩ := bB hF
        refine R_stepX trivial (X_call (callW _ rfl fnOk30) (trace_tables_1_fun _ _ hr18) ⟨⟨rfl, rfl, rfl, rfl, rfl, rfl, rfl, rfl, trivial⟩, trivial⟩ rfl (.inl rfl) ?_)
        refine R_step SV trivial (T_lookOk (keyI .i64) (vv := (fun y : ByteArray => (.one (.sc (.string y)) : MT))) p1 r18 ⟨#[]⟩ (.own _ rfl) rfl rfl ?_)
        refine QV rfl ?_
        refine W_seq ?_
        refine W_regV (by decide) ?_
        refine QV rfl ?_
        refine W_condL (t := (!(Option.isSome (mget r18 p1)))) rfl (fun h19 => ?_) (fun h19 => ?_)
        · have hF := bT h19 hF
          refine W_seq ?_
          refine W_regV (by decide) ?_
          refine QV rfl ?_
          have hF := fin_0 _ (Option.some.inj hF).symm
          refine W_ret ?_
          cases hF
          exact ⟨_, _, S_refl, _, rfl, rfl, ⟨rfl, fun _ => rfl⟩, (AgM.weak ⟨rfl, trivial⟩)⟩
        · have hF := bF h19 hF
          refine W_skip ?_
          refine W_regV (by decide) ?_
          refine QV rfl ?_
          exact cont_0 _ _ _ (Option.some.inj hF).symm (S_weak ⟨rfl, rfl, rfl, rfl, rfl, trivial⟩ ⟨rfl, trivial⟩)
      · have hF := bF h20 hF
        refine W_exit ?_
        refine thenQ_exit ?_
        refine thenQ_exit ?_
        refine blockQ_hit ?_
        exact brk_0 _ _ _ (Option.some.inj hF).symm (S_weak trivial ⟨rfl, trivial⟩)
def slices_Index_int_int_L1 (p0 : (List Int)) (p1 : Int) : Int → Option (Int ⊕ (Unit ⊕ Int)) := fun a10 =>
  (bif (decide (a10 < (List.length p0 : Int))) then ((idx p0 a10).bind fun y14 => (bif (decide (p1 = y14)) then some (.inr (.inr a10)) else some (.inl (w64 (a10 + 1))))) else some (.inr (.inl ())))
def slices_Index_int_int (p0 : (List Int)) (p1 : Int) : Option Int :=
  ((loop (slices_Index_int_int_L1 p0 p1) 0).bind fun | .inl _ => some (-1) | .inr rv => some rv)
set_option maxRecDepth 100000 in
set_option maxHeartbeats 4000000 in
theorem slices_Index_int_int_fun (p0 : (List Int)) (p1 : Int) (r : Int) (hF : slices_Index_int_int p0 p1 = some r) : Fun Try.prog 65 true [] [.c (.imm (.sl 1 (List.map t_i64 p0))), .c (.imm (tI p1))] noHeap (.c (.imm (tI r))) noHeap := by
  refine Fun.of_walk0 Try.func65 c65 (by kernel_rfl) (rs := [.tmp 4]) (by kernel_rfl) ?_
  unfold v65
  unfold slices_Index_int_int at hF
  refine W_seq ?_
  refine W_regV (by decide) ?_
  refine QV rfl ?_
  refine W_seq ?_
  refine W_seq ?_
  refine W_regV (by decide) ?_
  refine Q_run SV 1 rfl ?_
  refine R_step SV trivial (T_len (tc := t_i64) p0 .tree ?_)
  refine QV rfl ?_
  refine W_for (fun _ _ h => h) hF (.inl) (fun a10 => [(0, .c (.imm (.sl 1 (List.map t_i64 p0)))), (1, .c (.imm (tI p1))), (7, .c (.imm (tI (List.length p0 : Int)))), (8, .c (.imm (tI a10)))]) (fun a10 => []) (fun _ => []) (fun _ => []) (S_weak ⟨rfl, rfl, rfl, rfl, trivial⟩ trivial) ?_ ?_
  · rintro ⟨⟩ hF
    refine W_seq ?_
    refine W_regV (by decide) ?_
    refine QV rfl ?_
    refine W_ret ?_
    cases hF
    exact ⟨_, rfl, rfl, ⟨rfl, fun _ => rfl⟩, noOut _⟩
  · rintro a10 x_0 hF cont_0 brk_0 fin_0
    unfold slices_Index_int_int_L1 at hF
    refine W_seq ?_
    refine W_regV (by decide) ?_
    refine QV rfl ?_
    refine W_seq ?_
    refine W_condL (t := (decide (a10 < (List.length p0 : Int)))) rfl (fun h16 => ?_) (fun h16 => ?_)
    · have hF := bT h16 hF
      refine W_skip ?_
      refine W_seq ?_
      refine W_block ?_
      refine W_seq ?_
      refine W_regV (by decide) ?_
      refine QV rfl ?_
      refine W_seq ?_
      refine W_regV (by decide) ?_
      refine Q_run SV 3 rfl ?_
      obtain ⟨y14, hy14, hF⟩ := bB hF
      refine R_step SV trivial (T_ixT (tc := t_i64) p0 rfl rfl hy14 ?_)
      refine QV rfl ?_
      refine W_condL (t := (decide (p1 = y14))) rfl (fun h15 => ?_) (fun h15 => ?_)
      · have hF := bT h15 hF
        refine W_seq ?_
        refine W_regV (by decide) ?_
        refine QV rfl ?_
        have hF := fin_0 _ (Option.some.inj hF).symm
        refine W_ret ?_
        cases hF
        exact ⟨_, rfl, rfl, ⟨rfl, fun _ => rfl⟩, noOut _⟩
      · have hF := bF h15 hF
        refine W_skip ?_
        refine W_regV (by decide) ?_
        refine QV rfl ?_
        exact cont_0 _ _ _ (Option.some.inj hF).symm (S_weak ⟨rfl, rfl, rfl, rfl, trivial⟩ trivial)
    · have hF := bF h16 hF
      refine W_exit ?_
      refine thenQ_exit ?_
      refine thenQ_exit ?_
      refine blockQ_hit ?_
      exact brk_0 _ _ _ (Option.some.inj hF).symm (S_weak trivial trivial)
def slices_Contains_int_int (p0 : (List Int)) (p1 : Int) : Option Bool :=
  ((slices_Index_int_int p0 p1).bind fun r1 => some (decide (0 ≤ r1)))
set_option maxRecDepth 100000 in
set_option maxHeartbeats 4000000 in
theorem slices_Contains_int_int_fun (p0 : (List Int)) (p1 : Int) (r : Bool) (hF : slices_Contains_int_int p0 p1 = some r) : Fun Try.prog 83 true [] [.c (.imm (.sl 1 (List.map t_i64 p0))), .c (.imm (tI p1))] noHeap (.c (.imm (.sc (.bool r)))) noHeap := by
  refine Fun.of_walk0 Try.func83 c83 (by kernel_rfl) (rs := [.tmp 4]) (by kernel_rfl) ?_
  unfold v83
  unfold slices_Contains_int_int at hF
  refine W_seq ?_
  refine W_regV (by decide) ?_
  refine QV rfl ?_
  refine W_seq ?_
  refine W_regV (by decide) ?_
  refine Q_run SV 2 rfl ?_
  obtain ⟨r1, hr1, hF⟩ := bB hF
  refine R_step SV trivial (T_call (slices_Index_int_int_fun _ _ _ hr1) ⟨rfl, rfl, trivial⟩ rfl (.inl rfl) ?_)
  refine QV rfl ?_
  refine W_ret ?_
  cases hF
  exact ⟨_, rfl, rfl, ⟨rfl, fun _ => rfl⟩, noOut _⟩
def state_distinct_L1 (p0 : (List api_Thread)) : ((List Int) × Int) → Option (((List Int) × Int) ⊕ (List Int)) := fun (a19, a20) =>
  (bif (decide (a20 < (List.length p0 : Int))) then ((((idx p0 a20).bind fun y29 => ((slices_Contains_int_int a19 y29.fId).bind fun r30 => (bif (!r30) then (bif room 8 (List.length a19 + List.length [y29.fId]) then some (a19 ++ [y29.fId]) else none) else some a19))) : Option (List Int)).bind fun v28 => some (.inl (v28, (w64 (a20 + 1))))) else some (.inr a19))
def state_distinct (p0 : (List api_Thread)) : Option (List Int) :=
  ((loop (state_distinct_L1 p0) ([], 0)).bind fun e27 => some e27)
set_option maxRecDepth 100000 in
set_option maxHeartbeats 4000000 in
theorem state_distinct_fun (p0 : (List api_Thread)) (r : (List Int)) (hF : state_distinct p0 = some r) : Fun Try.prog 64 false [] [.c (.imm (.sl 3 (List.map t_api_Thread p0)))] (heapOf []) (.c (.slO (902,2560))) (heapOf [((902,2560), .arr 3 1 (List.map t_i64 r))]) := by
  refine Fun.of_walkM [] (some []) Try.func64 c64 (by kernel_rfl) (rs := [.tmp 2]) (by kernel_rfl) rfl rfl rfl ?_
  unfold v64
  unfold state_distinct at hF
  refine W_seq ?_
  refine W_regV (by decide) ?_
  refine QV rfl ?_
  refine W_seq ?_
  refine W_regV (by decide) ?_
  refine QV rfl ?_
  refine W_seq ?_
  refine W_seq ?_
  refine W_regV (by decide) ?_
  refine Q_run SV 1 rfl ?_
  refine R_step SV trivial (T_len (tc := t_api_Thread) p0 .tree ?_)
  refine QV rfl ?_
  refine W_for (fun _ _ h => h) hF (id) (fun (a19, a20) => [(3, .c (.slO (21,1))), (6, .c (.imm (.sl 3 (List.map t_api_Thread p0)))), (7, .c (.imm (tI (List.length p0 : Int)))), (8, .c (.imm (tI a20)))]) (fun (a19, a20) => [((21,1), .arr 3 1 (List.map t_i64 a19))]) (fun e27 => [(3, .c (.slO (21,1)))]) (fun e27 => [((21,1), .arr 3 1 (List.map t_i64 e27))]) (S_own 3 (21,1) 3 1 rfl rfl rfl rfl (S_weak ⟨rfl, rfl, rfl, rfl, trivial⟩ ⟨rfl, trivial⟩)) ?_ ?_
  · rintro e27 hF
    refine W_seq ?_
    refine W_regV (by decide) ?_
    refine QV rfl ?_
    refine W_ret ?_
    cases hF
    exact ⟨_, _, (S_ren (21,1) (902,2560) rfl rfl S_refl), _, rfl, rfl, rfl, (AgM.weak ⟨rfl, trivial⟩)⟩
  · rintro ⟨a19, a20⟩ x_0 hF cont_0 brk_0 fin_0
    unfold state_distinct_L1 at hF
    refine W_seq ?_
    refine W_regV (by decide) ?_
    refine QV rfl ?_
    refine W_seq ?_
    refine W_condL (t := (decide (a20 < (List.length p0 : Int)))) rfl (fun h33 => ?_) (fun h33 => ?_)
    · have hF := bT h33 hF
      refine W_skip ?_
      refine W_seq ?_
      refine W_join (fun _ _ h => h) hF (fun v28 => [(3, .c (.slO (21,1))), (6, .c (.imm (.sl 3 (List.map t_api_Thread p0)))), (7, .c (.imm (tI (List.length p0 : Int)))), (8, .c (.imm (tI a20)))]) (fun v28 => [((21,1), .arr 3 1 (List.map t_i64 v28))]) ?_ ?_
      · rintro v28 hF
        refine W_regV (by decide) ?_
        refine QV rfl ?_
        exact cont_0 _ _ _ (Option.some.inj hF).symm (S_weak ⟨rfl, rfl, rfl, rfl, trivial⟩ ⟨rfl, trivial⟩)
      · intro join hF
        refine W_block ?_
        refine W_seq ?_
        refine W_regV (by decide) ?_
        obtain ⟨y29, hy29, hF⟩ := bB' hF
        refine R_step SV trivial (T_ixT (tc := t_api_Thread) p0 rfl rfl hy29 ?_)
        refine QV rfl ?_
        refine W_seq ?_
        refine W_regV (by decide) ?_
        refine Q_run SV 3 rfl ?_
        obtain ⟨r30, hr30, hF⟩ := bB' hF
        refine R_step SV trivial (T_call (slices_Contains_int_int_fun _ _ _ hr30) ⟨⟨_, rfl⟩, rfl, trivial⟩ rfl (.inl rfl) ?_)
        refine QV rfl ?_
        refine W_condL (t := (!r30)) rfl (fun h32 => ?_) (fun h32 => ?_)
        · have hF := bT' h32 hF
          refine W_regV (by decide) ?_
          refine Q_run SV 3 rfl ?_
          refine R_step SV trivial (T_bsl (tc := t_i64) [y29.fId] rfl ⟨rfl, trivial⟩ rfl (fun _ => rfl) rfl ?_)
          obtain ⟨h31, hF⟩ := roomT' hF
          refine R_step SV trivial (T_appO (tc := t_i64) a19 [y29.fId] rfl rfl (.own _ _ rfl) h31 rfl ?_)
          refine QV rfl ?_
          exact join (a19 ++ [y29.fId]) _ _ hF (S_ren (21,0) (21,1) rfl rfl (S_weak ⟨rfl, rfl, rfl, rfl, trivial⟩ ⟨rfl, trivial⟩))
        · have hF := bF' h32 hF
          refine W_skip ?_
          exact join a19 _ _ hF (S_weak ⟨rfl, rfl, rfl, rfl, trivial⟩ ⟨rfl, trivial⟩)
    · have hF := bF h33 hF
      refine W_exit ?_
      refine thenQ_exit ?_
      refine thenQ_exit ?_
      refine blockQ_hit ?_
      exact brk_0 _ _ _ (Option.some.inj hF).symm (S_weak ⟨rfl, trivial⟩ ⟨rfl, trivial⟩)
def state_fields (p0 : api_State) : Option Bool :=
  (((bif (decide (p0.fState = 1)) then some true else some (decide (p0.fState = 2))) : Option Bool).bind fun v1 => (((bif (decide (p0.fState < 0)) then some true else some (decide (5 < p0.fState))) : Option Bool).bind fun v2 => (bif v2 then some false else (((bif (decide (p0.fState = 4)) then (bif (decide (p0.fCpu < 0)) then some true else some (decide (64 ≤ p0.fCpu))) else some false) : Option Bool).bind fun v3 => (((bif v3 then some v3 else (bif (!decide (p0.fState = 4)) then some (!decide (p0.fCpu = (-1))) else some false)) : Option Bool).bind fun v4 => (bif v4 then some false else (((bif (decide (p0.fState = 2)) then (bif (decide (p0.fOn < 0)) then some true else some (decide (1000000000000000 < p0.fOn))) else some false) : Option Bool).bind fun v5 => (((bif v5 then some v5 else (bif (!decide (p0.fState = 2)) then some (!decide (p0.fOn = (-1))) else some false)) : Option Bool).bind fun v6 => (bif v6 then some false else (((bif (decide (p0.fBy = (-1))) then some true else (bif v1 then (bif (decide (0 ≤ p0.fBy)) then some (decide (p0.fBy ≤ 1000000000000000)) else some false) else some false)) : Option Bool).bind fun v7 => some v7))))))))))
set_option maxRecDepth 100000 in
set_option maxHeartbeats 4000000 in
theorem state_fields_fun (p0 : api_State) (r : Bool) (hF : state_fields p0 = some r) : Fun Try.prog 66 true [] [.agg [.imm (tI p0.fThread), .imm (tI p0.fState), .imm (tI p0.fSpan.fFrom), .imm (tI p0.fSpan.fTo), .imm (tI p0.fCpu), .imm (tI p0.fOn), .imm (tI p0.fBy)]] noHeap (.c (.imm (.sc (.bool r)))) noHeap := by
  refine Fun.of_walk0 Try.func66 c66 (by kernel_rfl) (rs := [.tmp 2]) (by kernel_rfl) ?_
  unfold v66
  unfold state_fields at hF
  refine W_seq ?_
  refine W_regV (by decide) ?_
  refine QV rfl ?_
  refine W_seq ?_
  refine W_join (fun _ _ h => h) hF (fun v1 => [(1, .c (.ptrO (1,0) 0)), (3, .c (.imm (.sc (.bool v1))))]) (fun v1 => [((1,0), .box [.imm (tI p0.fThread), .imm (tI p0.fState), .imm (tI p0.fSpan.fFrom), .imm (tI p0.fSpan.fTo), .imm (tI p0.fCpu), .imm (tI p0.fOn), .imm (tI p0.fBy)])]) ?_ ?_
  · rintro v1 hF
    refine W_seq ?_
    refine W_block ?_
    refine W_seq ?_
    refine W_join (fun _ _ h => h) hF (fun v2 => [(1, .c (.ptrO (1,0) 0)), (3, .c (.imm (.sc (.bool v1)))), (12, .c (.imm (.sc (.bool v2))))]) (fun v2 => [((1,0), .box [.imm (tI p0.fThread), .imm (tI p0.fState), .imm (tI p0.fSpan.fFrom), .imm (tI p0.fSpan.fTo), .imm (tI p0.fCpu), .imm (tI p0.fOn), .imm (tI p0.fBy)])]) ?_ ?_
    · rintro v2 hF
      refine W_condL (t := v2) rfl (fun h21 => ?_) (fun h21 => ?_)
      · have hF := bT h21 hF
        refine W_seq ?_
        refine W_regV (by decide) ?_
        refine QV rfl ?_
        refine W_ret ?_
        cases hF
        exact ⟨_, rfl, rfl, ⟨rfl, fun _ => rfl⟩, noOut _⟩
      · have hF := bF h21 hF
        refine W_seq ?_
        refine W_seq ?_
        refine W_join (fun _ _ h => h) hF (fun v3 => [(1, .c (.ptrO (1,0) 0)), (3, .c (.imm (.sc (.bool v1)))), (21, .c (.imm (.sc (.bool v3))))]) (fun v3 => [((1,0), .box [.imm (tI p0.fThread), .imm (tI p0.fState), .imm (tI p0.fSpan.fFrom), .imm (tI p0.fSpan.fTo), .imm (tI p0.fCpu), .imm (tI p0.fOn), .imm (tI p0.fBy)])]) ?_ ?_
        · rintro v3 hF
          refine W_join (fun _ _ h => h) hF (fun v4 => [(1, .c (.ptrO (1,0) 0)), (3, .c (.imm (.sc (.bool v1)))), (21, .c (.imm (.sc (.bool v4))))]) (fun v4 => [((1,0), .box [.imm (tI p0.fThread), .imm (tI p0.fState), .imm (tI p0.fSpan.fFrom), .imm (tI p0.fSpan.fTo), .imm (tI p0.fCpu), .imm (tI p0.fOn), .imm (tI p0.fBy)])]) ?_ ?_
          · rintro v4 hF
            refine W_condL (t := v4) rfl (fun h16 => ?_) (fun h16 => ?_)
            · have hF := bT h16 hF
              refine W_seq ?_
              refine W_regV (by decide) ?_
              refine QV rfl ?_
              refine W_ret ?_
              cases hF
              exact ⟨_, rfl, rfl, ⟨rfl, fun _ => rfl⟩, noOut _⟩
            · have hF := bF h16 hF
              refine W_seq ?_
              refine W_seq ?_
              refine W_join (fun _ _ h => h) hF (fun v5 => [(1, .c (.ptrO (1,0) 0)), (3, .c (.imm (.sc (.bool v1)))), (43, .c (.imm (.sc (.bool v5))))]) (fun v5 => [((1,0), .box [.imm (tI p0.fThread), .imm (tI p0.fState), .imm (tI p0.fSpan.fFrom), .imm (tI p0.fSpan.fTo), .imm (tI p0.fCpu), .imm (tI p0.fOn), .imm (tI p0.fBy)])]) ?_ ?_
              · rintro v5 hF
                refine W_join (fun _ _ h => h) hF (fun v6 => [(1, .c (.ptrO (1,0) 0)), (3, .c (.imm (.sc (.bool v1)))), (43, .c (.imm (.sc (.bool v6))))]) (fun v6 => [((1,0), .box [.imm (tI p0.fThread), .imm (tI p0.fState), .imm (tI p0.fSpan.fFrom), .imm (tI p0.fSpan.fTo), .imm (tI p0.fCpu), .imm (tI p0.fOn), .imm (tI p0.fBy)])]) ?_ ?_
                · rintro v6 hF
                  refine W_condL (t := v6) rfl (fun h11 => ?_) (fun h11 => ?_)
                  · have hF := bT h11 hF
                    refine W_seq ?_
                    refine W_regV (by decide) ?_
                    refine QV rfl ?_
                    refine W_ret ?_
                    cases hF
                    exact ⟨_, rfl, rfl, ⟨rfl, fun _ => rfl⟩, noOut _⟩
                  · have hF := bF h11 hF
                    refine W_skip ?_
                    refine W_seq ?_
                    refine W_join (fun _ _ h => h) hF (fun v7 => [(2, .c (.imm (.sc (.bool v7))))]) (fun v7 => []) ?_ ?_
                    · rintro v7 hF
                      refine W_ret ?_
                      cases hF
                      exact ⟨_, rfl, rfl, ⟨rfl, fun _ => rfl⟩, noOut _⟩
                    · intro join hF
                      refine W_regV (by decide) ?_
                      refine Q_run SV 4 rfl ?_
                      cases h8 : (decide (p0.fBy = (-1)))
                      · have hF := bF' h8 hF
                        refine Q_run SV 2 rfl ?_
                        cases h9 : v1
                        · have hF := bF' h9 hF
                          refine QV rfl ?_
                          exact join false _ _ hF (S_weak ⟨rfl, trivial⟩ trivial)
                        · have hF := bT' h9 hF
                          refine Q_run SV 5 rfl ?_
                          cases h10 : (decide (0 ≤ p0.fBy))
                          · have hF := bF' h10 hF
                            refine QV rfl ?_
                            exact join false _ _ hF (S_weak ⟨rfl, trivial⟩ trivial)
                          · have hF := bT' h10 hF
                            refine QV rfl ?_
                            exact join (decide (p0.fBy ≤ 1000000000000000)) _ _ hF (S_weak ⟨rfl, trivial⟩ trivial)
                      · have hF := bT' h8 hF
                        refine QV rfl ?_
                        exact join true _ _ hF (S_weak ⟨rfl, trivial⟩ trivial)
                · intro join hF
                  refine W_condL (t := v5) rfl (fun h13 => ?_) (fun h13 => ?_)
                  · have hF := bT' h13 hF
                    refine W_skip ?_
                    exact join v5 _ _ hF (S_weak ⟨rfl, rfl, rfl, trivial⟩ ⟨rfl, trivial⟩)
                  · have hF := bF' h13 hF
                    refine W_regV (by decide) ?_
                    refine Q_run SV 4 rfl ?_
                    cases h12 : (!decide (p0.fState = 2))
                    · have hF := bF' h12 hF
                      refine QV rfl ?_
                      exact join false _ _ hF (S_weak ⟨rfl, rfl, rfl, trivial⟩ ⟨rfl, trivial⟩)
                    · have hF := bT' h12 hF
                      refine QV rfl ?_
                      exact join (!decide (p0.fOn = (-1))) _ _ hF (S_weak ⟨rfl, rfl, rfl, trivial⟩ ⟨rfl, trivial⟩)
              · intro join hF
                refine W_regV (by decide) ?_
                refine Q_run SV 4 rfl ?_
                cases h14 : (decide (p0.fState = 2))
                · have hF := bF' h14 hF
                  refine QV rfl ?_
                  exact join false _ _ hF (S_weak ⟨rfl, rfl, rfl, trivial⟩ ⟨rfl, trivial⟩)
                · have hF := bT' h14 hF
                  refine Q_run SV 4 rfl ?_
                  cases h15 : (decide (p0.fOn < 0))
                  · have hF := bF' h15 hF
                    refine QV rfl ?_
                    exact join (decide (1000000000000000 < p0.fOn)) _ _ hF (S_weak ⟨rfl, rfl, rfl, trivial⟩ ⟨rfl, trivial⟩)
                  · have hF := bT' h15 hF
                    refine QV rfl ?_
                    exact join true _ _ hF (S_weak ⟨rfl, rfl, rfl, trivial⟩ ⟨rfl, trivial⟩)
          · intro join hF
            refine W_condL (t := v3) rfl (fun h18 => ?_) (fun h18 => ?_)
            · have hF := bT' h18 hF
              refine W_skip ?_
              exact join v3 _ _ hF (S_weak ⟨rfl, rfl, rfl, trivial⟩ ⟨rfl, trivial⟩)
            · have hF := bF' h18 hF
              refine W_regV (by decide) ?_
              refine Q_run SV 4 rfl ?_
              cases h17 : (!decide (p0.fState = 4))
              · have hF := bF' h17 hF
                refine QV rfl ?_
                exact join false _ _ hF (S_weak ⟨rfl, rfl, rfl, trivial⟩ ⟨rfl, trivial⟩)
              · have hF := bT' h17 hF
                refine QV rfl ?_
                exact join (!decide (p0.fCpu = (-1))) _ _ hF (S_weak ⟨rfl, rfl, rfl, trivial⟩ ⟨rfl, trivial⟩)
        · intro join hF
          refine W_regV (by decide) ?_
          refine Q_run SV 4 rfl ?_
          cases h19 : (decide (p0.fState = 4))
          · have hF := bF' h19 hF
            refine QV rfl ?_
            exact join false _ _ hF (S_weak ⟨rfl, rfl, rfl, trivial⟩ ⟨rfl, trivial⟩)
          · have hF := bT' h19 hF
            refine Q_run SV 4 rfl ?_
            cases h20 : (decide (p0.fCpu < 0))
            · have hF := bF' h20 hF
              refine QV rfl ?_
              exact join (decide (64 ≤ p0.fCpu)) _ _ hF (S_weak ⟨rfl, rfl, rfl, trivial⟩ ⟨rfl, trivial⟩)
            · have hF := bT' h20 hF
              refine QV rfl ?_
              exact join true _ _ hF (S_weak ⟨rfl, rfl, rfl, trivial⟩ ⟨rfl, trivial⟩)
    · intro join hF
      refine W_regV (by decide) ?_
      refine Q_run SV 4 rfl ?_
      cases h22 : (decide (p0.fState < 0))
      · have hF := bF' h22 hF
        refine QV rfl ?_
        exact join (decide (5 < p0.fState)) _ _ hF (S_weak ⟨rfl, rfl, rfl, trivial⟩ ⟨rfl, trivial⟩)
      · have hF := bT' h22 hF
        refine QV rfl ?_
        exact join true _ _ hF (S_weak ⟨rfl, rfl, rfl, trivial⟩ ⟨rfl, trivial⟩)
  · intro join hF
    refine W_regV (by decide) ?_
    refine Q_run SV 4 rfl ?_
    cases h23 : (decide (p0.fState = 1))
    · have hF := bF' h23 hF
      refine QV rfl ?_
      exact join (decide (p0.fState = 2)) _ _ hF (S_weak ⟨rfl, rfl, trivial⟩ ⟨rfl, trivial⟩)
    · have hF := bT' h23 hF
      refine QV rfl ?_
      exact join true _ _ hF (S_weak ⟨rfl, rfl, trivial⟩ ⟨rfl, trivial⟩)
def state_same (p0 : api_State) (p1 : api_State) : Option Bool :=
  (((bif (decide (p0.fState = p1.fState)) then (bif (decide (p0.fCpu = p1.fCpu)) then some (decide (p0.fOn = p1.fOn)) else some false) else some false) : Option Bool).bind fun v1 => some v1)
set_option maxRecDepth 100000 in
set_option maxHeartbeats 4000000 in
theorem state_same_fun (p0 : api_State) (p1 : api_State) (r : Bool) (hF : state_same p0 p1 = some r) : Fun Try.prog 67 true [] [.agg [.imm (tI p0.fThread), .imm (tI p0.fState), .imm (tI p0.fSpan.fFrom), .imm (tI p0.fSpan.fTo), .imm (tI p0.fCpu), .imm (tI p0.fOn), .imm (tI p0.fBy)], .agg [.imm (tI p1.fThread), .imm (tI p1.fState), .imm (tI p1.fSpan.fFrom), .imm (tI p1.fSpan.fTo), .imm (tI p1.fCpu), .imm (tI p1.fOn), .imm (tI p1.fBy)]] noHeap (.c (.imm (.sc (.bool r)))) noHeap := by
  refine Fun.of_walk0 Try.func67 c67 (by kernel_rfl) (rs := [.tmp 4]) (by kernel_rfl) ?_
  unfold v67
  unfold state_same at hF
  refine W_seq ?_
  refine W_regV (by decide) ?_
  refine QV rfl ?_
  refine W_seq ?_
  refine W_join (fun _ _ h => h) hF (fun v1 => [(4, .c (.imm (.sc (.bool v1))))]) (fun v1 => []) ?_ ?_
  · rintro v1 hF
    refine W_ret ?_
    cases hF
    exact ⟨_, rfl, rfl, ⟨rfl, fun _ => rfl⟩, noOut _⟩
  · intro join hF
    refine W_regV (by decide) ?_
    refine Q_run SV 6 rfl ?_
    cases h2 : (decide (p0.fState = p1.fState))
    · have hF := bF' h2 hF
      refine QV rfl ?_
      exact join false _ _ hF (S_weak ⟨rfl, trivial⟩ trivial)
    · have hF := bT' h2 hF
      refine Q_run SV 7 rfl ?_
      cases h3 : (decide (p0.fCpu = p1.fCpu))
      · have hF := bF' h3 hF
        refine QV rfl ?_
        exact join false _ _ hF (S_weak ⟨rfl, trivial⟩ trivial)
      · have hF := bT' h3 hF
        refine QV rfl ?_
        exact join (decide (p0.fOn = p1.fOn)) _ _ hF (S_weak ⟨rfl, trivial⟩ trivial)
def state_Check_L1 (p1 : (List api_State)) (y68 : api_State) : Int → Option (Int ⊕ (Unit ⊕ Int)) := fun a88 =>
  (bif (decide (a88 < (List.length p1 : Int))) then ((idx p1 a88).bind fun y98 => (((bif (decide ((w64 (a88 + 1)) = (List.length p1 : Int))) then some true else ((idx p1 (w64 (a88 + 1))).bind fun y104 => some (!decide (y104.fThread = y98.fThread)))) : Option Bool).bind fun v99 => (((bif v99 then some (!decide (y98.fSpan.fTo = y68.fSpan.fTo)) else some false) : Option Bool).bind fun v100 => (bif v100 then some (.inr (.inr 11)) else some (.inl (w64 (a88 + 1))))))) else some (.inr (.inl ())))
def state_Check_L2 (p1 : (List api_State)) (r1 : (List Int)) : (Int × Int) → Option ((Int × Int) ⊕ (Int ⊕ Int)) := fun (a46, a47) =>
  (bif (decide (a47 < (List.length p1 : Int))) then ((idx p1 a47).bind fun y107 => ((slices_Index_int_int r1 y107.fThread).bind fun r108 => (bif (decide (r108 < 0)) then some (.inr (.inr 5)) else ((spans_Valid y107.fSpan).bind fun r109 => (bif (!r109) then some (.inr (.inr 2)) else ((state_fields y107).bind fun r110 => (bif (!r110) then some (.inr (.inr 1)) else (((bif (decide (r108 = a46)) then ((idx p1 (w64 (a47 - 1))).bind fun y118 => (bif (!decide (y107.fSpan.fFrom = y118.fSpan.fTo)) then some true else ((idx p1 (w64 (a47 - 1))).bind fun y120 => ((state_same y107 y120).bind fun r121 => some r121)))) else some false) : Option Bool).bind fun v111 => (bif v111 then some (.inr (.inr 11)) else (((bif (!decide (r108 = a46)) then (bif (!decide (r108 = (w64 (a46 + 1)))) then some true else some (!decide (y107.fSpan.fFrom = 0))) else some false) : Option Bool).bind fun v112 => (bif v112 then some (.inr (.inr 11)) else some (.inl (r108, (w64 (a47 + 1))))))))))))))) else some (.inr (.inl a46)))
def state_Check (p0 : (List api_Thread)) (p1 : (List api_State)) : Option Int :=
  ((state_distinct p0).bind fun r1 => ((loop (state_Check_L2 p1 r1) ((-1), 0)).bind fun | .inl e67 => (bif (decide ((List.length p1 : Int) = 0)) then some 0 else ((idx p1 (w64 ((List.length p1 : Int) - 1))).bind fun y68 => ((loop (state_Check_L1 p1 y68) 0).bind fun | .inl _ => (bif (!decide ((w64 (e67 + 1)) = (List.length r1 : Int))) then some 11 else some 0) | .inr rv => some rv))) | .inr rv => some rv))
end Go.VM
