/- What the functions of the law compute, each with its proof. -/
import Derived.Test.YtkemjaomoopdnaaGreatSrt
import Derived.Test.YtkemjaomoopdnaaGreatRows
import Derived.KernelRfl
import Derived.Lib.Bytealg
import Derived.Laws.Externs
import Derived.WalkKit
namespace Go.VM
open Go.Proofs Go.Proofs.YtkemjaomoopdnaaGreat
open Go.RowKit
set_option maxRecDepth 100000
set_option maxHeartbeats 4000000
structure bZ where
  fFrom:Int
  fTo:Int
  deriving DecidableEq
structure dz where
  fId:Int
  fName:ByteArray
  fDomain:Int
  deriving DecidableEq
abbrev F8(x:dz):List C:=[.imm (tI x.fId),.imm (.sc (.string x.fName)),.imm (tI x.fDomain)]
structure aK where
  fThread:Int
  fParent:Int
  fDepth:Int
  fName:ByteArray
  fSpan:bZ
  fSelf:Int
  fOpen:Bool
  deriving DecidableEq
abbrev i5(x:aK):List C:=[.imm (tI x.fThread),.imm (tI x.fParent),.imm (tI x.fDepth),.imm (.sc (.string x.fName)),.imm (tI x.fSpan.fFrom),.imm (tI x.fSpan.fTo),.imm (tI x.fSelf),.imm (.sc (.bool x.fOpen))]
structure cZ where
  fThread:Int
  fState:Int
  fSpan:bZ
  fCpu:Int
  fOn:Int
  fBy:Int
  deriving DecidableEq
abbrev j2(x:cZ):List C:=[.imm (tI x.fThread),.imm (tI x.fState),.imm (tI x.fSpan.fFrom),.imm (tI x.fSpan.fTo),.imm (tI x.fCpu),.imm (tI x.fOn),.imm (tI x.fBy)]
structure akx where
  fThread:Int
  fSerial:Int
  deriving DecidableEq
structure fX where
  fId:Int
  fFrom:akx
  fTo:akx
  fSend:Int
  fRecv:Int
  deriving DecidableEq
abbrev HV(x:fX):List C:=[.imm (tI x.fId),.imm (tI x.fFrom.fThread),.imm (tI x.fFrom.fSerial),.imm (tI x.fTo.fThread),.imm (tI x.fTo.fSerial),.imm (tI x.fSend),.imm (tI x.fRecv)]
structure eY where
  fThread:Int
  fAt:Int
  fWeight:Int
  fStack:(List ByteArray)
  deriving DecidableEq
structure jj where
  fName:ByteArray
  fAt:Int
  fValue:Int
  deriving DecidableEq
abbrev MK(x:jj):List C:=[.imm (.sc (.string x.fName)),.imm (tI x.fAt),.imm (tI x.fValue)]
structure eJ where
  fId:Int
  fThread:Int
  fSize:Int
  fSpan:bZ
  fStack:(List ByteArray)
  fLive:Bool
  deriving DecidableEq
structure yq where
  fThread:Int
  fSpan:bZ
  fCount:Int
  deriving DecidableEq
structure aY where
  fSpan:bZ
  fThreads:(List dz)
  fSlices:(List aK)
  fStates:(List cZ)
  fFlows:(List fX)
  fSamples:(List eY)
  fSteps:(List jj)
  fBlocks:(List eJ)
  fLost:(List yq)
  deriving DecidableEq
def cV(x:dz):List T:=[tI x.fId,.sc (.string x.fName),tI x.fDomain]
def aj(x:aK):List T:=[tI x.fThread,tI x.fParent,tI x.fDepth,.sc (.string x.fName),tI x.fSpan.fFrom,tI x.fSpan.fTo,tI x.fSelf,.sc (.bool x.fOpen)]
def bz(x:cZ):List T:=[tI x.fThread,tI x.fState,tI x.fSpan.fFrom,tI x.fSpan.fTo,tI x.fCpu,tI x.fOn,tI x.fBy]
def d5(x:fX):List T:=[tI x.fId,tI x.fFrom.fThread,tI x.fFrom.fSerial,tI x.fTo.fThread,tI x.fTo.fSerial,tI x.fSend,tI x.fRecv]
def iJ(x:ByteArray):List T:=[.sc (.string x)]
abbrev sK(x:eJ):List C:=[.imm (tI x.fId),.imm (tI x.fThread),.imm (tI x.fSize),.imm (tI x.fSpan.fFrom),.imm (tI x.fSpan.fTo),.imm (.sl 1 (List.map iJ x.fStack)),.imm (.sc (.bool x.fLive))]
abbrev GJ(x:eY):List C:=[.imm (tI x.fThread),.imm (tI x.fAt),.imm (tI x.fWeight),.imm (.sl 1 (List.map iJ x.fStack))]
def dY(x:eY):List T:=[tI x.fThread,tI x.fAt,tI x.fWeight,.sl 1 (List.map iJ x.fStack)]
def dW(x:jj):List T:=[.sc (.string x.fName),tI x.fAt,tI x.fValue]
def cW(x:eJ):List T:=[tI x.fId,tI x.fThread,tI x.fSize,tI x.fSpan.fFrom,tI x.fSpan.fTo,.sl 1 (List.map iJ x.fStack),.sc (.bool x.fLive)]
def rX(x:yq):List T:=[tI x.fThread,tI x.fSpan.fFrom,tI x.fSpan.fTo,tI x.fCount]
abbrev aW(x:aY):List C:=[.imm (tI x.fSpan.fFrom),.imm (tI x.fSpan.fTo),.imm (.sl 3 (List.map cV x.fThreads)),.imm (.sl 8 (List.map aj x.fSlices)),.imm (.sl 7 (List.map bz x.fStates)),.imm (.sl 7 (List.map d5 x.fFlows)),.imm (.sl 4 (List.map dY x.fSamples)),.imm (.sl 3 (List.map dW x.fSteps)),.imm (.sl 7 (List.map cW x.fBlocks)),.imm (.sl 4 (List.map rX x.fLost))]
def dV(x:Int):List T:=[tI x]
structure wY where
  fN:Int
  fD:Int
  deriving DecidableEq
structure fV where
  fPath:(List ByteArray)
  fCause:ByteArray
  fValue:wY
  deriving DecidableEq
def e9(x:fV):List T:=[.sl 1 (List.map iJ x.fPath),.sc (.string x.fCause),tI x.fValue.fN,tI x.fValue.fD]
structure eK where
  fSlice:Int
  fExcess:Int
  fParts:(List fV)
  deriving DecidableEq
def b9(x:eK):List T:=[tI x.fSlice,tI x.fExcess,.sl 4 (List.map e9 x.fParts)]
def aQJ(x:(List aK)):List T:=[.sl 8 (List.map aj x)]
def a2x(x:(List ByteArray)):List T:=[.sl 1 (List.map iJ x)]
def v18:VC:=(.seq (rg [vo 4 (.alloc 33 [(iI 0),(iI 0),.nilS,.nilS,.nilS,.nilS,.nilS,.nilS,.nilS,.nilS])]) (.seq (rg [vo 9 (.build [(iI 0),iS,(iI 0)] [(0,1,(kI 1)),(1,1,(.con (.c (.imm (.sc (.string ⟨#[97]⟩))))))]),vo 10 (.bsl 76 3 1 [(iI 0),iS,(iI 0)] [(0,3,9)]),vo 11 (.build [(iI 0),(iI 0),.nilS,.nilS,.nilS,.nilS,.nilS,.nilS,.nilS,.nilS] [(2,1,10)]),vo 5 (.alloc 33 [(iI 0),(iI 0),.nilS,.nilS,.nilS,.nilS,.nilS,.nilS,.nilS,.nilS]),vp (.store 10 5 11)]) (.seq (rg [vo 6 (.mv (kI 0))]) (.seq (.seq (rg [vm 12 1,vo 13 (.lenS 12),vo 14 (.mv (kI 0))]) (.block 0 (.loop (.seq (rg [vo 15 (.bin .lss 14 13)]) (.seq (.cond 15 .skip (.exit 0)) (.seq (.block 1 (.seq (rg [vo 16 (.ixA 1 12 14),vo 17 (.load 1 false 16),vm 8 17]) (.seq (rg [vo 18 (.fld 3 5),vo 19 (.load 1 false 18),vm 20 6,vm 21 6,vm 22 8,vo 23 (.bin .add 21 22),vo 24 (.build [(iI 0),(iI 0)] [(0,1,20),(1,1,23)]),vm 25 8,vo 26 (.build [(iI 0),(iI 0),(iI 0),iS,(iI 0),(iI 0),(iI 0),(.imm (.sc (.bool false)))] [(0,1,(kI 1)),(1,1,(kI (-1))),(3,1,(.con (.c (.imm (.sc (.string ⟨#[102]⟩)))))),(4,2,24),(6,1,25)]),vo 27 (.bsl 47 8 1 [(iI 0),(iI 0),(iI 0),iS,(iI 0),(iI 0),(iI 0),(.imm (.sc (.bool false)))] [(0,8,26)]),vo 28 (.app 47 8 72 19 27),vo 29 (.fld 3 5),vp (.store 1 29 28)]) (rg [vm 30 6,vm 31 8,vo 32 (.bin .add 30 31),vm 6 32])))) (rg [vo 33 (.bin .add 14 (kI 1)),vm 14 33]))))))) (.seq (rg [vm 34 6,vo 35 (.fld 0 5),vo 36 (.fld 1 35),vp (.store 1 36 34)]) (.seq (rg [vm 37 6,vm 38 0,vo 39 (.bin .sub 37 38),vo 40 (.build [(iI 0),(iI 0)] [(1,1,39)]),vo 41 (.build [(iI 0),(iI 0),(iI 0),(iI 0),(iI 0),(iI 0),(iI 0)] [(0,1,(kI 1)),(1,1,(kI 4)),(2,2,40),(5,1,(kI (-1))),(6,1,(kI (-1)))]),vo 42 (.bsl 78 7 1 [(iI 0),(iI 0),(iI 0),(iI 0),(iI 0),(iI 0),(iI 0)] [(0,7,41)]),vo 43 (.fld 4 5),vp (.store 1 43 42)]) (.seq (.seq (rg [vm 44 0,vo 45 (.bin .gtr 44 (kI 0))]) (.cond 45 (rg [vo 46 (.fld 4 5),vo 47 (.load 1 false 46),vm 48 6,vm 49 0,vo 50 (.bin .sub 48 49),vm 51 6,vo 52 (.build [(iI 0),(iI 0)] [(0,1,50),(1,1,51)]),vo 53 (.build [(iI 0),(iI 0),(iI 0),(iI 0),(iI 0),(iI 0),(iI 0)] [(0,1,(kI 1)),(1,1,(kI 1)),(2,2,52),(4,1,(kI (-1))),(5,1,(kI (-1))),(6,1,(kI (-1)))]),vo 54 (.bsl 78 7 1 [(iI 0),(iI 0),(iI 0),(iI 0),(iI 0),(iI 0),(iI 0)] [(0,7,53)]),vo 55 (.app 78 7 56 47 54),vo 56 (.fld 4 5),vp (.store 1 56 55)]) .skip)) (.seq (rg [vo 57 (.load 10 true 5),vp (.store 10 4 57)]) .ret))))))))
theorem c18:(Tryz.f18.body.bind fun c=>kY Tryz.prog 58 c)=some v18:=by kernel_rfl
def auj:VC:=(.seq (rg [vo 2 (.mv (kB false))]) (.seq (rg [vm 3 0,vo 4 (.bin .geq 3 (.con (.c (.imm (.sc (.int .u8 97)))))),vm 5 4,vg 6 5 true (.mv 0),vg 7 5 true (.bin .leq 6 (.con (.c (.imm (.sc (.int .u8 122)))))),vo 8 (.pick 5 7 (kB false)),vm 9 8,vg 10 9 false (.mv 0),vg 11 9 false (.bin .geq 10 (.con (.c (.imm (.sc (.int .u8 65)))))),vg 12 9 false (.mv 11),vg 13 12 true (.mv 0),vg 14 12 true (.bin .leq 13 (.con (.c (.imm (.sc (.int .u8 90)))))),vg 15 9 false (.pick 12 14 (kB false)),vo 16 (.pick 9 (kB true) 15),vm 17 16,vg 18 17 false (.mv 0),vg 19 17 false (.bin .geq 18 (.con (.c (.imm (.sc (.int .u8 48)))))),vg 20 17 false (.mv 19),vg 21 20 true (.mv 0),vg 22 20 true (.bin .leq 21 (.con (.c (.imm (.sc (.int .u8 57)))))),vg 23 17 false (.pick 20 22 (kB false)),vo 24 (.pick 17 (kB true) 23),vm 25 24,vg 26 25 false (.mv 0),vg 27 25 false (.call 149 [(.con (.c (.imm (.sc (.string ⟨#[95,46,58,47,60,62,36,42,126,45]⟩))))),26]),vg 28 25 false (.bin .geq 27 (kI 0)),vo 29 (.pick 25 (kB true) 28),vm 2 29]) .ret))
theorem a2Y:(Tryz.f128.body.bind fun c=>kY Tryz.prog 30 c)=some auj:=by kernel_rfl
def a0z:VC:=(.seq (rg [vo 2 (.mv (kI 0))]) (.seq (.seq (rg [vm 3 0,vo 4 (.bin .geq 3 (.con (.c (.imm (.sc (.int .u64 4294967296))))))]) (.cond 4 (.seq (rg [vm 5 0,vo 6 (.bin .shr 5 (.con (.c (.imm (.sc (.int .u64 32)))))),vm 0 6]) (rg [vo 2 (.mv (kI 32))])) .skip)) (.seq (.seq (rg [vm 7 0,vo 8 (.bin .geq 7 (.con (.c (.imm (.sc (.int .u64 65536))))))]) (.cond 8 (.seq (rg [vm 9 0,vo 10 (.bin .shr 9 (.con (.c (.imm (.sc (.int .u64 16)))))),vm 0 10]) (rg [vm 11 2,vo 12 (.bin .add 11 (kI 16)),vm 2 12])) .skip)) (.seq (.seq (rg [vm 13 0,vo 14 (.bin .geq 13 (.con (.c (.imm (.sc (.int .u64 256))))))]) (.cond 14 (.seq (rg [vm 15 0,vo 16 (.bin .shr 15 (.con (.c (.imm (.sc (.int .u64 8)))))),vm 0 16]) (rg [vm 17 2,vo 18 (.bin .add 17 (kI 8)),vm 2 18])) .skip)) (.seq (rg [vm 19 2,vm 20 0,vo 21 (.cvi .u8 20),vo 22 (.ixS (.con (.c (.imm (.sc (.string ⟨#[0,1,2,2,3,3,3,3,4,4,4,4,4,4,4,4,5,5,5,5,5,5,5,5,5,5,5,5,5,5,5,5,6,6,6,6,6,6,6,6,6,6,6,6,6,6,6,6,6,6,6,6,6,6,6,6,6,6,6,6,6,6,6,6,7,7,7,7,7,7,7,7,7,7,7,7,7,7,7,7,7,7,7,7,7,7,7,7,7,7,7,7,7,7,7,7,7,7,7,7,7,7,7,7,7,7,7,7,7,7,7,7,7,7,7,7,7,7,7,7,7,7,7,7,7,7,7,7,8,8,8,8,8,8,8,8,8,8,8,8,8,8,8,8,8,8,8,8,8,8,8,8,8,8,8,8,8,8,8,8,8,8,8,8,8,8,8,8,8,8,8,8,8,8,8,8,8,8,8,8,8,8,8,8,8,8,8,8,8,8,8,8,8,8,8,8,8,8,8,8,8,8,8,8,8,8,8,8,8,8,8,8,8,8,8,8,8,8,8,8,8,8,8,8,8,8,8,8,8,8,8,8,8,8,8,8,8,8,8,8,8,8,8,8,8,8,8,8,8,8,8,8,8,8,8,8]⟩))))) 21),vo 23 (.cvi .i64 22),vo 24 (.bin .add 19 23),vm 2 24]) .ret)))))
theorem a2Q:(Tryz.f137.body.bind fun c=>kY Tryz.prog 25 c)=some a0z:=by kernel_rfl
def v35:VC:=(.seq (rg [vo 0 (.mv (.con (.c .nilS)))]) (.seq (rg [vo 1 (.bsl 9 1 6 [iS] [(0,1,(.con (.c (.imm (.sc (.string ⟨#[114,101,97,100,121]⟩)))))),(1,1,(.con (.c (.imm (.sc (.string ⟨#[97,115,108,101,101,112]⟩)))))),(2,1,(.con (.c (.imm (.sc (.string ⟨#[98,108,111,99,107,101,100]⟩)))))),(3,1,(.con (.c (.imm (.sc (.string ⟨#[103,111,110,101]⟩)))))),(4,1,(.con (.c (.imm (.sc (.string ⟨#[114,117,110,110,105,110,103]⟩)))))),(5,1,(.con (.c (.imm (.sc (.string ⟨#[117,110,107,110,111,119,110]⟩))))))]),vm 0 1]) .ret))
theorem c35:(Tryz.f35.body.bind fun c=>kY Tryz.prog 2 c)=some v35:=by kernel_rfl
def v9:VC:=(.seq (rg [vo 0 (.mv (kB false))]) (.seq (rg [vo 10 (.bsl 3 1 3 [(iI 0)] [(0,1,(kI 10)),(1,1,(kI 10)),(2,1,(kI 40))]),vo 11 (.call 18 [(kI 30),10]),vo 12 (.call 10 [11,(kI 2),(kI 1)]),vm 9 12,vo 13 (.ext 9 0),vo 14 (.ext 9 1),vm 1 13,vm 2 14]) (.seq (rg [vo 16 (.bsl 3 1 2 [(iI 0)] [(0,1,(kI 10)),(1,1,(kI 40))]),vo 17 (.call 18 [(kI 0),16]),vo 18 (.call 10 [17,(kI 2),(kI 1)]),vm 15 18,vo 19 (.ext 15 0),vo 20 (.ext 15 1),vm 3 19,vm 4 20]) (.seq (rg [vo 22 (.bsl 3 1 3 [(iI 0)] [(0,1,(kI 1)),(1,1,(kI 2)),(2,1,(kI 3))]),vo 23 (.call 18 [(kI 0),22]),vo 24 (.call 15 [23,(.con (.c (.imm (.sc (.string ⟨#[102]⟩)))))]),vm 21 24,vo 25 (.ext 21 0),vo 26 (.ext 21 1),vm 5 25,vm 6 26]) (.seq (rg [vo 28 (.bsl 3 1 3 [(iI 0)] [(0,1,(kI 1)),(1,1,(kI 2)),(2,1,(kI 3))]),vo 29 (.call 18 [(kI 0),28]),vo 30 (.call 10 [29,(kI 1),(kI 1)]),vm 27 30,vo 31 (.ext 27 0),vo 32 (.ext 27 1),vm 7 31,vm 8 32]) (.seq (rg [vm 33 2,vo 34 (.bin .eql 33 (kI 0)),vm 35 34,vg 36 35 true (.mv 1),vg 37 35 true (.lenS 36),vg 38 35 true (.bin .eql 37 (kI 1)),vo 39 (.pick 35 38 (kB false)),vm 40 39,vg 41 40 true (.mv 1),vg 42 40 true (.ixA 3 41 (kI 0)),vg 43 40 true (.fld 0 42),vg 44 40 true (.load 1 false 43),vg 45 40 true (.bin .eql 44 (kI 2)),vo 46 (.pick 40 45 (kB false)),vm 47 46,vg 48 47 true (.mv 1),vg 49 47 true (.ixA 3 48 (kI 0)),vg 50 47 true (.fld 1 49),vg 51 47 true (.load 1 false 50),vg 52 47 true (.bin .eql 51 (kI 30)),vo 53 (.pick 47 52 (kB false)),vm 54 53,vg 55 54 true (.mv 1),vg 56 54 true (.ixA 3 55 (kI 0)),vg 57 54 true (.fld 2 56),vg 58 54 true (.load 1 false 57),vg 59 54 true (.lenS 58),vg 60 54 true (.bin .eql 59 (kI 1)),vo 61 (.pick 54 60 (kB false)),vm 62 61,vg 63 62 true (.mv 1),vg 64 62 true (.ixA 3 63 (kI 0)),vg 65 62 true (.fld 2 64),vg 66 62 true (.load 1 false 65),vg 67 62 true (.ixA 4 66 (kI 0)),vg 68 62 true (.fld 1 67),vg 69 62 true (.load 1 false 68),vg 70 62 true (.bin .eql 69 (.con (.c (.imm (.sc (.string ⟨#[97,115,108,101,101,112]⟩)))))),vo 71 (.pick 62 70 (kB false)),vm 72 71,vg 73 72 true (.mv 1),vg 74 72 true (.ixA 3 73 (kI 0)),vg 75 72 true (.fld 2 74),vg 76 72 true (.load 1 false 75),vg 77 72 true (.ixA 4 76 (kI 0)),vg 78 72 true (.fld 2 77),vg 79 72 true (.fld 0 78),vg 80 72 true (.load 1 false 79),vg 81 72 true (.bin .eql 80 (kI 30)),vo 82 (.pick 72 81 (kB false)),vm 83 82,vg 84 83 true (.mv 4),vg 85 83 true (.bin .eql 84 (kI 0)),vo 86 (.pick 83 85 (kB false)),vm 87 86,vg 88 87 true (.mv 3),vg 89 87 true (.lenS 88),vg 90 87 true (.bin .eql 89 (kI 0)),vo 91 (.pick 87 90 (kB false)),vm 92 91,vg 93 92 true (.mv 6),vg 94 92 true (.bin .eql 93 (kI 0)),vo 95 (.pick 92 94 (kB false)),vm 96 95,vg 97 96 true (.mv 5),vg 98 96 true (.bin .eql 97 (kI 1)),vo 99 (.pick 96 98 (kB false)),vm 100 99,vg 101 100 true (.mv 8),vg 102 100 true (.bin .eql 101 (kI 0)),vo 103 (.pick 100 102 (kB false)),vm 104 103,vg 105 104 true (.mv 7),vg 106 104 true (.lenS 105),vg 107 104 true (.bin .eql 106 (kI 1)),vo 108 (.pick 104 107 (kB false)),vm 109 108,vg 110 109 true (.mv 7),vg 111 109 true (.ixA 3 110 (kI 0)),vg 112 109 true (.fld 0 111),vg 113 109 true (.load 1 false 112),vg 114 109 true (.bin .eql 113 (kI 2)),vo 115 (.pick 109 114 (kB false)),vm 0 115]) .ret))))))
theorem c9:(Tryz.f9.body.bind fun c=>kY Tryz.prog 116 c)=some v9:=by kernel_rfl
def a1z:VC:=(.seq (rg [vo 2 (.mv (kB false))]) (.seq (.seq (rg [vm 5 0,vo 6 (.bin .geq 5 (.con (.c (.imm (.sc (.int .u8 97)))))),vm 7 6,vg 8 7 true (.mv 0),vg 9 7 true (.bin .leq 8 (.con (.c (.imm (.sc (.int .u8 122)))))),vo 10 (.pick 7 9 (kB false)),vm 11 10,vg 12 11 false (.mv 0),vg 13 11 false (.bin .geq 12 (.con (.c (.imm (.sc (.int .u8 65)))))),vg 14 11 false (.mv 13),vg 15 14 true (.mv 0),vg 16 14 true (.bin .leq 15 (.con (.c (.imm (.sc (.int .u8 90)))))),vg 17 11 false (.pick 14 16 (kB false)),vo 18 (.pick 11 (kB true) 17),vm 19 18,vg 20 19 false (.mv 0),vg 21 19 false (.bin .geq 20 (.con (.c (.imm (.sc (.int .u8 48)))))),vg 22 19 false (.mv 21),vg 23 22 true (.mv 0),vg 24 22 true (.bin .leq 23 (.con (.c (.imm (.sc (.int .u8 57)))))),vg 25 19 false (.pick 22 24 (kB false)),vo 26 (.pick 19 (kB true) 25)]) (.cond 26 (.seq (rg [vo 2 (.mv (kB true))]) .ret) .skip)) (.seq (rg [vo 3 (.mv (.con (.c (.imm (.sc (.string ⟨#[95,46,58,47,60,62,36,42,126,45]⟩))))))]) (.seq (.seq (rg [vo 4 (.mv (kI 0))]) (.block 0 (.loop (.seq (.seq (rg [vm 27 4,vm 28 3,vo 29 (.lenT 28),vo 30 (.bin .lss 27 29)]) (.cond 30 .skip (.exit 0))) (.seq (.block 1 (.seq (rg [vm 33 3,vm 34 4,vo 35 (.ixS 33 34),vm 36 0,vo 37 (.bin .eql 35 36)]) (.cond 37 (.seq (rg [vo 2 (.mv (kB true))]) .ret) .skip))) (rg [vm 31 4,vo 32 (.bin .add 31 (kI 1)),vm 4 32])))))) (.seq (rg [vo 2 (.mv (kB false))]) .ret)))))
theorem a2X:(Tryz.f138.body.bind fun c=>kY Tryz.prog 38 c)=some a1z:=by kernel_rfl
def v11:VC:=(.seq (rg [vo 3 (.box 33 0),vo 6 (.mv (.con (.c .nilS))),vo 7 (.mv (kI 0))]) (.seq (rg [vo 20 (.load 10 true 3),vo 21 (.call 24 [20]),vm 8 21]) (.seq (.seq (rg [vm 22 8,vo 23 (.bin .neq 22 (kI 0))]) (.cond 23 (.seq (rg [vm 24 8,vo 6 (.mv (.con (.c .nilS))),vm 7 24]) .ret) .skip)) (.seq (.seq (rg [vm 25 2,vo 26 (.bin .lss 25 (kI 1)),vm 27 26,vg 28 27 false (.mv 1),vg 29 27 false (.mv 2),vg 30 27 false (.bin .lss 28 29),vo 31 (.pick 27 (kB true) 30),vm 32 31,vg 33 32 false (.mv 1),vg 34 32 false (.bin .gtr 33 (kI 1000)),vo 35 (.pick 32 (kB true) 34)]) (.cond 35 (.seq (rg [vo 6 (.mv (.con (.c .nilS))),vo 7 (.mv (kI 1))]) .ret) .skip)) (.seq (rg [vo 36 (.bsl 9 1 6 [iS] [(0,1,(.con (.c (.imm (.sc (.string ⟨#[114,101,97,100,121]⟩)))))),(1,1,(.con (.c (.imm (.sc (.string ⟨#[97,115,108,101,101,112]⟩)))))),(2,1,(.con (.c (.imm (.sc (.string ⟨#[98,108,111,99,107,101,100]⟩)))))),(3,1,(.con (.c (.imm (.sc (.string ⟨#[103,111,110,101]⟩)))))),(4,1,(.con (.c (.imm (.sc (.string ⟨#[114,117,110,110,105,110,103]⟩)))))),(5,1,(.con (.c (.imm (.sc (.string ⟨#[117,110,107,110,111,119,110]⟩))))))]),vm 9 36]) (.seq (rg [vo 10 (.mv (.con (.c .nilS)))]) (.seq (.seq (rg [vo 11 (.mv (kI 0))]) (.block 0 (.loop (.seq (.seq (rg [vm 37 11,vo 38 (.fld 3 3),vo 39 (.load 1 false 38),vo 40 (.lenS 39),vo 41 (.bin .lss 37 40)]) (.cond 41 .skip (.exit 0))) (.seq (.block 1 (.seq (rg [vo 44 (.fld 3 3),vo 45 (.load 1 false 44),vm 46 11,vo 47 (.ixA 8 45 46),vo 48 (.load 8 true 47),vo 12 (.alloc 47 [(iI 0),(iI 0),(iI 0),iS,(iI 0),(iI 0),(iI 0),(.imm (.sc (.bool false)))]),vp (.store 8 12 48)]) (.seq (.seq (rg [vo 49 (.fld 7 12),vo 50 (.load 1 false 49),vm 51 50,vg 52 51 false (.load 10 true 3),vg 53 51 false (.fld 3 12),vg 54 51 false (.load 1 false 53),vg 55 51 false (.call 25 [52,54]),vg 56 51 false (.lenS 55),vg 57 51 false (.bin .lss 56 (kI 3)),vo 58 (.pick 51 (kB true) 57)]) (.cond 58 (.exit 1) .skip)) (.seq (rg [vo 59 (.load 10 true 3),vo 60 (.fld 3 12),vo 61 (.load 1 false 60),vo 62 (.call 26 [59,61]),vm 13 62]) (.seq (rg [vo 63 (.fld 4 12),vo 64 (.fld 1 63),vo 65 (.load 1 false 64),vo 66 (.fld 4 12),vo 67 (.fld 0 66),vo 68 (.load 1 false 67),vo 69 (.bin .sub 65 68),vm 14 69]) (.seq (.region (some [0,1,0,7,15,31,63,0,128,0,896,1920,3968,8064,16383,32767,0,0,1,0,0,0,0,0,0,1,0,0,0,0,0,0]) [vo 70 (.fld 3 3),vo 71 (.load 1 false 70),vm 72 13,vo 73 (.ixA 8 71 72),vo 74 (.fld 4 73),vo 75 (.fld 1 74),vo 76 (.load 1 false 75),vo 77 (.fld 3 3),vo 78 (.load 1 false 77),vm 79 13,vo 80 (.ixA 8 78 79),vo 81 (.fld 4 80),vo 82 (.fld 0 81),vo 83 (.load 1 false 82),vo 84 (.bin .sub 76 83),vm 15 84]) (.seq (.seq (rg [vm 85 2,vm 86 14,vo 87 (.bin .mul 85 86),vm 88 1,vm 89 15,vo 90 (.bin .mul 88 89),vo 91 (.bin .leq 87 90)]) (.cond 91 (.exit 1) .skip)) (.seq (rg [vo 92 (.load 10 true 3),vm 93 11,vo 94 (.call 27 [92,93]),vm 16 94]) (.seq (rg [vo 95 (.load 10 true 3),vm 96 13,vo 97 (.call 27 [95,96]),vm 17 97]) (.seq (rg [vm 98 11,vm 99 14,vm 100 15,vo 101 (.bin .sub 99 100),vo 102 (.build [(iI 0),(iI 0),.nilS] [(0,1,98),(1,1,101)]),vo 18 (.alloc 42 [(iI 0),(iI 0),.nilS]),vp (.store 3 18 102)]) (.seq (.seq (rg [vo 19 (.mv (kI 0))]) (.block 2 (.loop (.seq (.seq (rg [vm 103 19,vm 104 9,vo 105 (.lenS 104),vo 106 (.bin .lss 103 105)]) (.cond 106 .skip (.exit 2))) (.seq (.block 3 (.seq (.region (some [0,0,3,7,0,0,48,112,255,1,1,0,0,1,1,0,0,0]) [vm 109 16,vm 110 19,vo 111 (.ixA 1 109 110),vo 112 (.load 1 false 111),vm 113 17,vm 114 19,vo 115 (.ixA 1 113 114),vo 116 (.load 1 false 115),vo 117 (.bin .neq 112 116)]) (.cond 117 (.region (some [0,1,0,4,0,28,0,0,192,448,0,0,3072,7168,0,0,49152,114688,261120,523264,1048572,2097148,4194303,8388607,16777215,0,0,0,0,1,0,1,1,0,0,1,1,0,0,1,1,0,0,0,0,0,0,0,0,0]) [vo 118 (.fld 2 18),vo 119 (.load 1 false 118),vo 120 (.fld 3 3),vo 121 (.load 1 false 120),vm 122 11,vo 123 (.call 28 [121,122]),vm 124 9,vm 125 19,vo 126 (.ixA 1 124 125),vo 127 (.load 1 false 126),vm 128 16,vm 129 19,vo 130 (.ixA 1 128 129),vo 131 (.load 1 false 130),vm 132 17,vm 133 19,vo 134 (.ixA 1 132 133),vo 135 (.load 1 false 134),vo 136 (.bin .sub 131 135),vo 137 (.build [(iI 0),(iI 0)] [(0,1,136),(1,1,(kI 1))]),vo 138 (.build [.nilS,iS,(iI 0),(iI 0)] [(0,1,123),(1,1,127),(2,2,137)]),vo 139 (.bsl 61 4 1 [.nilS,iS,(iI 0),(iI 0)] [(0,4,138)]),vo 140 (.app 61 4 56 119 139),vo 141 (.fld 2 18),vp (.store 1 141 140)]) .skip))) (rg [vm 107 19,vo 108 (.bin .add 107 (kI 1)),vm 19 108])))))) (rg [vm 142 10,vo 143 (.load 3 true 18),vo 144 (.bsl 42 3 1 [(iI 0),(iI 0),.nilS] [(0,3,143)]),vo 145 (.app 42 3 40 142 144),vm 10 145])))))))))))) (rg [vm 42 11,vo 43 (.bin .add 42 (kI 1)),vm 11 43])))))) (.seq (rg [vm 146 10,vm 6 146,vo 7 (.mv (kI 0))]) .ret))))))))
theorem c11:(Tryz.f11.body.bind fun c=>kY Tryz.prog 147 c)=some v11:=by kernel_rfl
theorem aXY:OQ Tryz.prog 51=true:=by kernel_rfl
theorem aYQ:OQ Tryz.prog 55=true:=by kernel_rfl
theorem aZZ:OQ Tryz.prog 56=true:=by kernel_rfl
theorem aXZ:OQ Tryz.prog 59=true:=by kernel_rfl
theorem aYX:OQ Tryz.prog 63=true:=by kernel_rfl
theorem aXK:OQ Tryz.prog 66=true:=by kernel_rfl
theorem aZY:OQ Tryz.prog 69=true:=by kernel_rfl
theorem aXX:OQ Tryz.prog 71=true:=by kernel_rfl
theorem aWJ:OQ Tryz.prog 73=true:=by kernel_rfl
theorem aYq:OQ Tryz.prog 76=true:=by kernel_rfl
theorem aZQ:OQ Tryz.prog 78=true:=by kernel_rfl
def tz(p0:aY):Option Bool :=
  (((bif (decide ((List.length p0.fThreads:Int)≤20))then(bif (decide ((List.length p0.fSlices:Int)≤60))then(bif (decide ((List.length p0.fStates:Int)≤200))then(bif (decide ((List.length p0.fFlows:Int)≤60))then(bif (decide ((List.length p0.fSamples:Int)≤60))then(bif (decide ((List.length p0.fSteps:Int)≤60))then(bif (decide ((List.length p0.fBlocks:Int)≤60))then some (decide ((List.length p0.fLost:Int)≤50))else some false)else some false)else some false)else some false)else some false)else some false)else some false):Option Bool).bind fun v1=>some v1)
theorem M0(p0:aY)(r:Bool)(hF:tz p0=some r):Fun Tryz.prog 8 true [] [.agg (aW p0)] noHeap (cB r) noHeap:=by
 refine fW Tryz.func8 ?_
 unfold tz at hF
 refine wA rfl ?_;refine az ?_;refine cz (fun _ _ h=>h) hF (fun v1=>[(2,cB v1)]) (fun v1=>[]) ?_ ?_
 ·rintro v1 hF
  cases hF
  exact bq wR
 intro join hF
 refine wD 2 rfl ?_;refine rS (d3 (tc:=cV) p0.fThreads .tree ?_);refine aX SV 2 rfl ?_;cases h2:(decide ((List.length p0.fThreads:Int)≤20))
 ·have hF:=bF' h2 hF;refine QV rfl ?_;exact join false _ _ hF sw
 have hF:=bT' h2 hF;refine aX SV 2 rfl ?_;refine aV SV rfl (d3 (tc:=aj) p0.fSlices .tree ?_);refine aX SV 3 rfl ?_;cases h3:(decide ((List.length p0.fSlices:Int)≤60))
 ·have hF:=bF' h3 hF;refine QV rfl ?_;exact join false _ _ hF sw
 have hF:=bT' h3 hF;refine aX SV 2 rfl ?_;refine aV SV rfl (d3 (tc:=bz) p0.fStates .tree ?_);refine aX SV 3 rfl ?_;cases h4:(decide ((List.length p0.fStates:Int)≤200))
 ·have hF:=bF' h4 hF;refine QV rfl ?_;exact join false _ _ hF sw
 have hF:=bT' h4 hF;refine aX SV 2 rfl ?_;refine aV SV rfl (d3 (tc:=d5) p0.fFlows .tree ?_);refine aX SV 3 rfl ?_;cases h5:(decide ((List.length p0.fFlows:Int)≤60))
 ·have hF:=bF' h5 hF;refine QV rfl ?_;exact join false _ _ hF sw
 have hF:=bT' h5 hF;refine aX SV 2 rfl ?_;refine aV SV rfl (d3 (tc:=dY) p0.fSamples .tree ?_);refine aX SV 3 rfl ?_;cases h6:(decide ((List.length p0.fSamples:Int)≤60))
 ·have hF:=bF' h6 hF;refine QV rfl ?_;exact join false _ _ hF sw
 have hF:=bT' h6 hF;refine aX SV 2 rfl ?_;refine aV SV rfl (d3 (tc:=dW) p0.fSteps .tree ?_);refine aX SV 3 rfl ?_;cases h7:(decide ((List.length p0.fSteps:Int)≤60))
 ·have hF:=bF' h7 hF;refine QV rfl ?_;exact join false _ _ hF sw
 have hF:=bT' h7 hF;refine aX SV 2 rfl ?_;refine aV SV rfl (d3 (tc:=cW) p0.fBlocks .tree ?_);refine aX SV 3 rfl ?_;cases h8:(decide ((List.length p0.fBlocks:Int)≤60))
 ·have hF:=bF' h8 hF;refine QV rfl ?_;exact join false _ _ hF sw
 have hF:=bT' h8 hF;refine aX SV 2 rfl ?_;refine aV SV rfl (d3 (tc:=rX) p0.fLost .tree ?_);refine QV rfl ?_;exact join (decide ((List.length p0.fLost:Int)≤50)) _ _ hF sw
def C3(p1:(List Int)):((List aK)×Int×Int)→Option (((List aK)×Int×Int) ⊕ ((List aK)×Int)):=fun(a16,a17,a18) =>
  (bif (decide (a18<(List.length p1:Int)))then((idx p1 a18).bind fun y27=>(bif KV 72 (List.length a16+List.length [({fThread:=1,fParent:=(-1),fDepth:=0,fName:=(⟨#[102]⟩ : ByteArray),fSpan:=({fFrom:=a17,fTo:=(w64 (a17+y27))}:bZ),fSelf:=y27,fOpen:=false}:aK)])then some (.inl ((a16++[({fThread:=1,fParent:=(-1),fDepth:=0,fName:=(⟨#[102]⟩ : ByteArray),fSpan:=({fFrom:=a17,fTo:=(w64 (a17+y27))}:bZ),fSelf:=y27,fOpen:=false}:aK)]),(w64 (a17+y27)),(w64 (a18+1))))else none))else some (.inr (a16,a17)))
def nq(p0:Int)(p1:(List Int)):Option aY :=
  ((loop (C3 p1) ([],0,0)).bind fun(e22,e23)=>(((bif (decide (0<p0))then(bif KV 56 (List.length [({fThread:=1,fState:=4,fSpan:=({fFrom:=0,fTo:=(w64 (e23-p0))}:bZ),fCpu:=0,fOn:=(-1),fBy:=(-1)}:cZ)]+List.length [({fThread:=1,fState:=1,fSpan:=({fFrom:=(w64 (e23-p0)),fTo:=e23}:bZ),fCpu:=(-1),fOn:=(-1),fBy:=(-1)}:cZ)])then some ([({fThread:=1,fState:=4,fSpan:=({fFrom:=0,fTo:=(w64 (e23-p0))}:bZ),fCpu:=0,fOn:=(-1),fBy:=(-1)}:cZ)]++[({fThread:=1,fState:=1,fSpan:=({fFrom:=(w64 (e23-p0)),fTo:=e23}:bZ),fCpu:=(-1),fOn:=(-1),fBy:=(-1)}:cZ)])else none)else some [({fThread:=1,fState:=4,fSpan:=({fFrom:=0,fTo:=(w64 (e23-p0))}:bZ),fCpu:=0,fOn:=(-1),fBy:=(-1)}:cZ)]):Option (List cZ)).bind fun v24=>some ({fSpan:=({fFrom:=0,fTo:=e23}:bZ),fThreads:=[({fId:=1,fName:=(⟨#[97]⟩ : ByteArray),fDomain:=0}:dz)],fSlices:=e22,fStates:=v24,fFlows:=[],fSamples:=[],fSteps:=[],fBlocks:=[],fLost:=[]}:aY)))
theorem pJ(p0:Int)(p1:(List Int))(r:aY)(hF:nq p0 p1=some r):Fun Tryz.prog 18 false [] [cI p0,cL 1 dV p1] (aZ []) (.agg [jI r.fSpan.fFrom,jI r.fSpan.fTo,.slO (902,720),.slO (902,721),.slO (902,722),jL 7 d5 r.fFlows,jL 4 dY r.fSamples,jL 3 dW r.fSteps,jL 7 cW r.fBlocks,jL 4 rX r.fLost]) (aZ [((902,720),.arr 76 3 (List.map cV r.fThreads)),((902,721),.arr 47 8 (List.map aj r.fSlices)),((902,722),.arr 78 7 (List.map bz r.fStates))]):=by
 refine Fun.of_walkM [] (some []) Tryz.func18 c18 (by kernel_rfl) (rs:=[.cell 4 10 true]) (by kernel_rfl) rfl rfl rfl ?_;unfold v18
 unfold nq at hF
 refine wA rfl ?_;refine wC 1 rfl ?_;refine rS (AQ (tc:=cV) [({fId:=1,fName:=(⟨#[97]⟩ : ByteArray),fDomain:=0}:dz)] rfl ⟨rfl,rfl,rfl,trivial⟩ rfl (fun _=>rfl) rfl ?_)
 refine QV rfl ?_;refine wA rfl ?_;refine az ?_;refine wC 1 rfl ?_;refine rS (d3 (tc:=dV) p1 .tree ?_);refine QV rfl ?_;refine fQ (fun _ _ h=>h) hF (id) (fun(a16,a17,a18)=>[(0,cI p0),(4,cP (4,0) 0),(5,cP (5,0) 0),(6,cI a17),(12,cL 1 dV p1),(13,cI (List.length p1:Int)),(14,cI a18)]) (fun(a16,a17,a18)=>[((4,0),.box [jI 0,jI 0,.nilS,.nilS,.nilS,.nilS,.nilS,.nilS,.nilS,.nilS]),((5,0),.box [jI 0,jI 0,.slO (10,0),.slO (28,1),.nilS,.nilS,.nilS,.nilS,.nilS,.nilS]),((10,0),.arr 76 3 (List.map cV [({fId:=1,fName:=(⟨#[97]⟩ : ByteArray),fDomain:=0}:dz)])),((28,1),.arr 47 8 (List.map aj a16))]) (fun(e22,e23)=>[(0,cI p0),(4,cP (4,0) 0),(5,cP (5,0) 0),(6,cI e23)]) (fun(e22,e23)=>[((4,0),.box [jI 0,jI 0,.nilS,.nilS,.nilS,.nilS,.nilS,.nilS,.nilS,.nilS]),((5,0),.box [jI 0,jI 0,.slO (10,0),.slO (28,1),.nilS,.nilS,.nilS,.nilS,.nilS,.nilS]),((10,0),.arr 76 3 (List.map cV [({fId:=1,fName:=(⟨#[97]⟩ : ByteArray),fDomain:=0}:dz)])),((28,1),.arr 47 8 (List.map aj e22))]) (aLz (5,0) _ 3 (28,1) 47 8 rfl rfl rfl rfl rfl sw) ?_ ?_
 ·rintro⟨e22,e23⟩ hF
  refine wA rfl ?_;refine wC 5 rfl ?_;refine rS (AQ (tc:=bz) [({fThread:=1,fState:=4,fSpan:=({fFrom:=0,fTo:=(w64 (e23-p0))}:bZ),fCpu:=0,fOn:=(-1),fBy:=(-1)}:cZ)] rfl ⟨rfl,rfl,rfl,rfl,rfl,rfl,rfl,trivial⟩ rfl (fun _=>rfl) rfl ?_)
  refine QV rfl ?_;refine az ?_;refine wA rfl ?_;refine cz (fun _ _ h=>h) hF (fun v24=>[(4,cP (4,0) 0),(5,cP (5,0) 0)]) (fun v24=>[((4,0),.box [jI 0,jI 0,.nilS,.nilS,.nilS,.nilS,.nilS,.nilS,.nilS,.nilS]),((5,0),.box [jI 0,jI e23,.slO (10,0),.slO (28,1),.slO (55,1),.nilS,.nilS,.nilS,.nilS,.nilS]),((10,0),.arr 76 3 (List.map cV [({fId:=1,fName:=(⟨#[97]⟩ : ByteArray),fDomain:=0}:dz)])),((28,1),.arr 47 8 (List.map aj e22)),((55,1),.arr 78 7 (List.map bz v24))]) ?_ ?_
  ·rintro v24 hF
   refine wA rfl ?_;cases hF
   exact bq ⟨_,_,(vq (10,0) (902,720) rfl rfl (vq (28,1) (902,721) rfl rfl (vq (55,1) (902,722) rfl rfl fq))),_,rfl,rfl,⟨⟨rfl,fun _=>rfl⟩,⟨rfl,fun _=>rfl⟩,rfl,rfl,rfl,rfl,rfl,rfl,rfl,rfl,trivial⟩,(AgM.weak ⟨rfl,rfl,rfl,trivial⟩)⟩
  intro join hF
  refine tW hF rfl (fun _ hF=>?_) fun _ hF=>?_
  ·refine wD 8 rfl ?_;refine rS (AQ (tc:=bz) [({fThread:=1,fState:=1,fSpan:=({fFrom:=(w64 (e23-p0)),fTo:=e23}:bZ),fCpu:=(-1),fOn:=(-1),fBy:=(-1)}:cZ)] rfl ⟨rfl,rfl,rfl,rfl,rfl,rfl,rfl,trivial⟩ rfl (fun _=>rfl) rfl ?_)
   obtain⟨h25,hF⟩:=LV hF
   refine rS (Ej (tc:=bz) [({fThread:=1,fState:=4,fSpan:=({fFrom:=0,fTo:=(w64 (e23-p0))}:bZ),fCpu:=0,fOn:=(-1),fBy:=(-1)}:cZ)] [({fThread:=1,fState:=1,fSpan:=({fFrom:=(w64 (e23-p0)),fTo:=e23}:bZ),fCpu:=(-1),fOn:=(-1),fBy:=(-1)}:cZ)] rfl rfl (.own _ _ rfl) h25 rfl ?_)
   refine QV rfl ?_;exact join ([({fThread:=1,fState:=4,fSpan:=({fFrom:=0,fTo:=(w64 (e23-p0))}:bZ),fCpu:=0,fOn:=(-1),fBy:=(-1)}:cZ)]++[({fThread:=1,fState:=1,fSpan:=({fFrom:=(w64 (e23-p0)),fTo:=e23}:bZ),fCpu:=(-1),fOn:=(-1),fBy:=(-1)}:cZ)]) _ _ hF (vq (55,0) (55,1) rfl rfl sw)
  refine aJ ?_;exact join [({fThread:=1,fState:=4,fSpan:=({fFrom:=0,fTo:=(w64 (e23-p0))}:bZ),fCpu:=0,fOn:=(-1),fBy:=(-1)}:cZ)] _ _ hF (vq (42,0) (55,1) rfl rfl sw)
 rintro⟨a16,a17,a18⟩ x_0 hF cont_0 brk_0 fin_0
 unfold C3 at hF
 refine wA rfl ?_;refine az ?_;refine wIf hF rfl (fun _ hF=>?_) fun _ hF=>?_
 ·refine aJ ?_;refine az ?_;refine c7 ?_;refine wE ?_;obtain⟨y27,hy27,hF⟩:=bB hF
  refine rS (cY (tc:=dV) p1 rfl rfl hy27 ?_);refine QV rfl ?_;refine wC 9 rfl ?_;refine rS (AQ (tc:=aj) [({fThread:=1,fParent:=(-1),fDepth:=0,fName:=(⟨#[102]⟩ : ByteArray),fSpan:=({fFrom:=a17,fTo:=(w64 (a17+y27))}:bZ),fSelf:=y27,fOpen:=false}:aK)] rfl ⟨rfl,rfl,rfl,rfl,rfl,rfl,rfl,rfl,trivial⟩ rfl (fun _=>rfl) rfl ?_)
  obtain⟨h28,hF⟩:=Hq hF
  refine rS (Ej (tc:=aj) a16 [({fThread:=1,fParent:=(-1),fDepth:=0,fName:=(⟨#[102]⟩ : ByteArray),fSpan:=({fFrom:=a17,fTo:=(w64 (a17+y27))}:bZ),fSelf:=y27,fOpen:=false}:aK)] rfl rfl (.own _ _ rfl) h28 rfl ?_)
  refine QV rfl ?_;refine wB rfl ?_;refine wB rfl ?_;exact cont_0 _ _ _ (oi hF) (vq (28,0) (28,1) rfl rfl sw)
 refine dZ ?_;refine aQ ?_;refine aQ ?_;refine bj ?_;exact brk_0 _ _ _ (oi hF) sw
def o4(p0:ByteArray)(p1:Int):Option Int:=some (Go.Lib.indexByte p0.data.toList p1.toNat.toUInt8)
theorem CW(p0:ByteArray)(p1:Int)(r:Int)(hF:o4 p0 p1=some r):Fun Tryz.prog 164 true [] [.c (jS p0),.c (.imm (.sc (.int .u8 p1)))] noHeap (cI r) noHeap:=by
 cases hF
 refine Fun.of_plain [.string p0,.int .u8 p1] (.int .i64 (Go.Lib.indexByte p0.data.toList p1.toNat.toUInt8)) (fun w=>?_) rfl
 go_enter Tryz.func164,Tryz.ntmps164;go_wp2;rw[run_callFunc_extern Tryz.func170 (by kernel_rfl) (by kernel_rfl) (by kernel_rfl) (e:=Extern.BytealgIndexByte.indexByte) (by kernel_rfl),Go.Lib.run_indexByteString]
 simp only[Result.andThen];rw[Oper.upon_value];go_wp2;go_ret;exact⟨rfl,rfl⟩
def i6(p0:ByteArray)(p1:Int):Option Int :=
  ((o4 p0 p1).bind fun r1=>some r1)
theorem jZ(p0:ByteArray)(p1:Int)(r:Int)(hF:i6 p0 p1=some r):Fun Tryz.prog 149 true [] [.c (jS p0),.c (.imm (.sc (.int .u8 p1)))] noHeap (cI r) noHeap:=by
 refine fW Tryz.func149 ?_
 unfold i6 at hF
 refine wA rfl ?_;refine wC 2 rfl ?_;obtain⟨r1,hr1,hF⟩:=bB hF
 refine rS (cq (CW _ _ _ hr1) ⟨rfl,rfl,trivial⟩ rfl (.inl rfl) ?_);refine QV rfl ?_;cases hF
 exact bq wR
def u4(p0:Int):Option Bool :=
  (((bif (decide (97≤p0))then(bif (decide (p0≤122))then some true else(bif (decide (65≤p0))then(bif (decide (p0≤90))then some true else(bif (decide (48≤p0))then(bif (decide (p0≤57))then some true else((i6 (⟨#[95,46,58,47,60,62,36,42,126,45]⟩ : ByteArray) p0).bind fun r23=>some (decide (0≤r23))))else((i6 (⟨#[95,46,58,47,60,62,36,42,126,45]⟩ : ByteArray) p0).bind fun r21=>some (decide (0≤r21)))))else(bif (decide (48≤p0))then(bif (decide (p0≤57))then some true else((i6 (⟨#[95,46,58,47,60,62,36,42,126,45]⟩ : ByteArray) p0).bind fun r18=>some (decide (0≤r18))))else((i6 (⟨#[95,46,58,47,60,62,36,42,126,45]⟩ : ByteArray) p0).bind fun r16=>some (decide (0≤r16))))))else(bif (decide (65≤p0))then(bif (decide (p0≤90))then some true else(bif (decide (48≤p0))then(bif (decide (p0≤57))then some true else((i6 (⟨#[95,46,58,47,60,62,36,42,126,45]⟩ : ByteArray) p0).bind fun r12=>some (decide (0≤r12))))else((i6 (⟨#[95,46,58,47,60,62,36,42,126,45]⟩ : ByteArray) p0).bind fun r10=>some (decide (0≤r10)))))else(bif (decide (48≤p0))then(bif (decide (p0≤57))then some true else((i6 (⟨#[95,46,58,47,60,62,36,42,126,45]⟩ : ByteArray) p0).bind fun r7=>some (decide (0≤r7))))else((i6 (⟨#[95,46,58,47,60,62,36,42,126,45]⟩ : ByteArray) p0).bind fun r5=>some (decide (0≤r5)))))):Option Bool).bind fun v1=>some v1)
theorem S0(p0:Int)(r:Bool)(hF:u4 p0=some r):Fun Tryz.prog 128 true [] [.c (.imm (.sc (.int .u8 p0)))] noHeap (cB r) noHeap:=by
 refine Fun.of_walk0 Tryz.func128 a2Y (by kernel_rfl) (rs:=[.tmp 2]) (by kernel_rfl) ?_;unfold auj
 unfold u4 at hF
 refine wA rfl ?_;refine az ?_;refine cz (fun _ _ h=>h) hF (fun v1=>[(2,cB v1)]) (fun v1=>[]) ?_ ?_
 ·rintro v1 hF
  cases hF
  exact bq wR
 intro join hF
 refine wD 3 rfl ?_;cases h2:(decide (97≤p0))
 ·have hF:=bF' h2 hF;refine aX SV 7 rfl ?_;cases h3:(decide (65≤p0))
  ·have hF:=bF' h3 hF;refine aX SV 8 rfl ?_;cases h4:(decide (48≤p0))
   ·have hF:=bF' h4 hF;refine aX SV 6 rfl ?_;obtain⟨r5,hr5,hF⟩:=bB' hF
    refine aV SV rfl (cq (jZ _ _ _ hr5) ⟨rfl,rfl,trivial⟩ rfl (.inl rfl) ?_);refine QV rfl ?_;exact join (decide (0≤r5)) _ _ hF sw
   have hF:=bT' h4 hF;refine aX SV 5 rfl ?_;cases h6:(decide (p0≤57))
   ·have hF:=bF' h6 hF;refine aX SV 1 rfl ?_;obtain⟨r7,hr7,hF⟩:=bB' hF
    refine aV SV rfl (cq (jZ _ _ _ hr7) ⟨rfl,rfl,trivial⟩ rfl (.inl rfl) ?_);refine QV rfl ?_;exact join (decide (0≤r7)) _ _ hF sw
   have hF:=bT' h6 hF;refine QV rfl ?_;exact join true _ _ hF sw
  have hF:=bT' h3 hF;refine aX SV 5 rfl ?_;cases h8:(decide (p0≤90))
  ·have hF:=bF' h8 hF;refine aX SV 3 rfl ?_;cases h9:(decide (48≤p0))
   ·have hF:=bF' h9 hF;refine aX SV 6 rfl ?_;obtain⟨r10,hr10,hF⟩:=bB' hF
    refine aV SV rfl (cq (jZ _ _ _ hr10) ⟨rfl,rfl,trivial⟩ rfl (.inl rfl) ?_);refine QV rfl ?_;exact join (decide (0≤r10)) _ _ hF sw
   have hF:=bT' h9 hF;refine aX SV 5 rfl ?_;cases h11:(decide (p0≤57))
   ·have hF:=bF' h11 hF;refine aX SV 1 rfl ?_;obtain⟨r12,hr12,hF⟩:=bB' hF
    refine aV SV rfl (cq (jZ _ _ _ hr12) ⟨rfl,rfl,trivial⟩ rfl (.inl rfl) ?_);refine QV rfl ?_;exact join (decide (0≤r12)) _ _ hF sw
   have hF:=bT' h11 hF;refine QV rfl ?_;exact join true _ _ hF sw
  have hF:=bT' h8 hF;refine QV rfl ?_;exact join true _ _ hF sw
 have hF:=bT' h2 hF;refine aX SV 4 rfl ?_;cases h13:(decide (p0≤122))
 ·have hF:=bF' h13 hF;refine aX SV 3 rfl ?_;cases h14:(decide (65≤p0))
  ·have hF:=bF' h14 hF;refine aX SV 8 rfl ?_;cases h15:(decide (48≤p0))
   ·have hF:=bF' h15 hF;refine aX SV 6 rfl ?_;obtain⟨r16,hr16,hF⟩:=bB' hF
    refine aV SV rfl (cq (jZ _ _ _ hr16) ⟨rfl,rfl,trivial⟩ rfl (.inl rfl) ?_);refine QV rfl ?_;exact join (decide (0≤r16)) _ _ hF sw
   have hF:=bT' h15 hF;refine aX SV 5 rfl ?_;cases h17:(decide (p0≤57))
   ·have hF:=bF' h17 hF;refine aX SV 1 rfl ?_;obtain⟨r18,hr18,hF⟩:=bB' hF
    refine aV SV rfl (cq (jZ _ _ _ hr18) ⟨rfl,rfl,trivial⟩ rfl (.inl rfl) ?_);refine QV rfl ?_;exact join (decide (0≤r18)) _ _ hF sw
   have hF:=bT' h17 hF;refine QV rfl ?_;exact join true _ _ hF sw
  have hF:=bT' h14 hF;refine aX SV 5 rfl ?_;cases h19:(decide (p0≤90))
  ·have hF:=bF' h19 hF;refine aX SV 3 rfl ?_;cases h20:(decide (48≤p0))
   ·have hF:=bF' h20 hF;refine aX SV 6 rfl ?_;obtain⟨r21,hr21,hF⟩:=bB' hF
    refine aV SV rfl (cq (jZ _ _ _ hr21) ⟨rfl,rfl,trivial⟩ rfl (.inl rfl) ?_);refine QV rfl ?_;exact join (decide (0≤r21)) _ _ hF sw
   have hF:=bT' h20 hF;refine aX SV 5 rfl ?_;cases h22:(decide (p0≤57))
   ·have hF:=bF' h22 hF;refine aX SV 1 rfl ?_;obtain⟨r23,hr23,hF⟩:=bB' hF
    refine aV SV rfl (cq (jZ _ _ _ hr23) ⟨rfl,rfl,trivial⟩ rfl (.inl rfl) ?_);refine QV rfl ?_;exact join (decide (0≤r23)) _ _ hF sw
   have hF:=bT' h22 hF;refine QV rfl ?_;exact join true _ _ hF sw
  have hF:=bT' h19 hF;refine QV rfl ?_;exact join true _ _ hF sw
 have hF:=bT' h13 hF;refine QV rfl ?_;exact join true _ _ hF sw
def s5(p0:ByteArray):Int→Option (Int ⊕ (Unit ⊕ Int)):=fun a13 =>
  (bif (decide (a13<(ByteArray.size p0:Int)))then((idx (ByteArray.data p0).toList a13).bind fun y18=>((u4 (UInt8.toNat y18:Int)).bind fun r19=>(bif (!r19)then some (.inr (.inr 3))else some (.inl (w64 (a13+1))))))else some (.inr (.inl ())))
def nJ(p0:ByteArray):Option Int :=
  (((bif (decide (p0=(⟨#[]⟩ : ByteArray)))then some true else some (decide (40<(ByteArray.size p0:Int)))):Option Bool).bind fun v1=>(bif v1 then some 3 else((loop (s5 p0) 0).bind fun | .inl _=>some 0 | .inr rv=>some rv)))
theorem Cj(p0:ByteArray)(r:Int)(hF:nJ p0=some r):Fun Tryz.prog 96 true [] [.c (jS p0)] noHeap (cI r) noHeap:=by
 refine fW Tryz.func96 ?_
 unfold nJ at hF
 refine wA rfl ?_;refine az ?_;refine az ?_;refine cz (fun _ _ h=>h) hF (fun v1=>[(0,.c (jS p0)),(10,cB v1)]) (fun v1=>[]) ?_ ?_
 ·rintro v1 hF
  refine wIf hF rfl (fun _ hF=>?_) fun _ hF=>?_
  ·refine wA rfl ?_;cases hF
   exact bq wR
  refine aJ ?_;refine az ?_;refine wA rfl ?_;refine fQ (fun _ _ h=>h) hF (.inl) (fun a13=>[(0,.c (jS p0)),(12,cI (ByteArray.size p0:Int)),(13,cI a13)]) (fun a13=>[]) (fun _=>[]) (fun _=>[]) sw ?_ ?_
  ·rintro⟨⟩ hF
   refine wA rfl ?_;cases hF
   exact bq wR
  rintro a13 x_0 hF cont_0 brk_0 fin_0
  unfold s5 at hF
  refine wA rfl ?_;refine az ?_;refine wIf hF rfl (fun _ hF=>?_) fun _ hF=>?_
  ·refine aJ ?_;refine az ?_;refine c7 ?_;refine wA rfl ?_;refine wC 2 rfl ?_;obtain⟨y18,hy18,hF⟩:=bB hF
   refine rS (aCQ p0 rfl rfl hy18 ?_);obtain⟨r19,hr19,hF⟩:=bB hF
   refine rS (cq (S0 _ _ hr19) ⟨rfl,trivial⟩ rfl (.inl rfl) ?_);refine QV rfl ?_;refine wIf hF rfl (fun _ hF=>?_) fun _ hF=>?_
   ·refine wA rfl ?_;have hF:=fin_0 _ (oi hF);cases hF
    exact bq wR
   refine aJ ?_;refine wB rfl ?_;exact cont_0 _ _ _ (oi hF) sw
  refine dZ ?_;refine aQ ?_;refine aQ ?_;refine bj ?_;exact brk_0 _ _ _ (oi hF) sw
 intro join hF
 refine wD 3 rfl ?_;cases h23:(decide (p0=(⟨#[]⟩ : ByteArray)))
 ·have hF:=bF' h23 hF;refine QV rfl ?_;exact join (decide (40<(ByteArray.size p0:Int))) _ _ hF sw
 have hF:=bT' h23 hF;refine QV rfl ?_;exact join true _ _ hF sw
def n7(p0:dz):Option Int :=
  (((bif (decide (p0.fId<0))then some true else(bif (decide (1000000000000000<p0.fId))then some true else(bif (decide (p0.fDomain<0))then some true else some (decide (8≤p0.fDomain))))):Option Bool).bind fun v1=>(bif v1 then some 2 else((nJ p0.fName).bind fun r2=>some r2)))
theorem P8(p0:dz)(r:Int)(hF:n7 p0=some r):Fun Tryz.prog 95 true [] [.agg (F8 p0)] noHeap (cI r) noHeap:=by
 refine fW Tryz.func95 ?_
 unfold n7 at hF
 refine wA rfl ?_;refine az ?_;refine az ?_;refine cz (fun _ _ h=>h) hF (fun v1=>[(1,cP (1,0) 0),(20,cB v1)]) (fun v1=>[((1,0),.box (F8 p0))]) ?_ ?_
 ·rintro v1 hF
  refine wIf hF rfl (fun _ hF=>?_) fun _ hF=>?_
  ·refine wA rfl ?_;cases hF
   exact bq wR
  refine aJ ?_;refine wC 2 rfl ?_;obtain⟨r2,hr2,hF⟩:=bB hF
  refine rS (cq (Cj _ _ hr2) ⟨rfl,trivial⟩ rfl (.inl rfl) ?_);refine QV rfl ?_;cases hF
  exact bq wR
 intro join hF
 refine wD 4 rfl ?_;cases h4:(decide (p0.fId<0))
 ·have hF:=bF' h4 hF;refine aX SV 5 rfl ?_;cases h5:(decide (1000000000000000<p0.fId))
  ·have hF:=bF' h5 hF;refine aX SV 5 rfl ?_;cases h6:(decide (p0.fDomain<0))
   ·have hF:=bF' h6 hF;refine QV rfl ?_;exact join (decide (8≤p0.fDomain)) _ _ hF sw
   have hF:=bT' h6 hF;refine QV rfl ?_;exact join true _ _ hF sw
  have hF:=bT' h5 hF;refine QV rfl ?_;exact join true _ _ hF sw
 have hF:=bT' h4 hF;refine QV rfl ?_;exact join true _ _ hF sw
def Bx(p0:aY):((List (Int×ByteArray))×Int)→Option (((List (Int×ByteArray))×Int) ⊕ ((List (Int×ByteArray)) ⊕ (((List (Int×ByteArray))×Int) ⊕ ((List (Int×ByteArray))×Int)))):=fun(a17,a18) =>
  (bif (decide (a18<(List.length p0.fThreads:Int)))then((idx p0.fThreads a18).bind fun y25=>((n7 y25).bind fun r26=>(bif (!decide (r26=0))then some (.inr (.inr (.inl ([],r26))))else(bif (Option.isSome (D3 y25.fId a17))then some (.inr (.inr (.inl ([],4))))else some (.inl ((arz y25.fId y25.fName a17),(w64 (a18+1))))))))else some (.inr (.inl a17)))
def pW(p0:aY):Option (((List (Int×ByteArray))×Int) ⊕ ((List (Int×ByteArray))×Int)) :=
  (bif (decide (64<(List.length p0.fThreads:Int)))then some (.inl ([],7))else((loop (Bx p0) ([],0)).bind fun | .inl e24=>some (.inr (e24,0)) | .inr rv=>some rv))
def XW(p0:aY):(((List (Int×ByteArray))×Int) ⊕ ((List (Int×ByteArray))×Int))→V
  | .inl d=>.tup [.c (.nilM),.c (.imm (tI d.2))]
  | .inr d=>.tup [.c (.mapO (902,1920)),.c (.imm (tI d.2))]
def XK(p0:aY):(((List (Int×ByteArray))×Int) ⊕ ((List (Int×ByteArray))×Int))→M
  | .inl _=>[]
  | .inr d=>[((902,1920),rY (.int .i64) (fun n:Int=>.int .i64 n) (fun y:ByteArray=>(.one (.sc (.string y)):MT)) d.1)]
theorem I5(p0:aY)(r:(((List (Int×ByteArray))×Int) ⊕ ((List (Int×ByteArray))×Int)))(hF:pW p0=some r):Fun Tryz.prog 48 false [] [.agg (aW p0)] (aZ []) (XW p0 r) (aZ (XK p0 r)):=by
 refine fM [] (some []) Tryz.func48 ?_
 unfold pW at hF
 refine wA rfl ?_;refine az ?_;refine wC 2 rfl ?_;refine rS (d3 (tc:=cV) p0.fThreads .tree ?_);refine QV rfl ?_;refine wIf hF rfl (fun _ hF=>?_) fun _ hF=>?_
 ·refine wA rfl ?_;cases hF
  exact bq ⟨_,_,fq,_,rfl,rfl,⟨trivial,⟨rfl,fun _=>rfl⟩,trivial⟩,(AgM.weak trivial)⟩
 refine aJ ?_;refine wE ?_;refine rS (aUK (kd:=(.int .i64)) (kv:=kvI) (vv:=vvS) rfl ?_)
 refine QV rfl ?_;refine az ?_;refine wC 2 rfl ?_;refine rS (d3 (tc:=cV) p0.fThreads .tree ?_);refine QV rfl ?_;refine fQ (fun _ _ h=>h) hF (.inl) (fun(a17,a18)=>[(4,cM (14,0)),(16,cL 3 cV p0.fThreads),(17,cI (List.length p0.fThreads:Int)),(18,cI a18)]) (fun(a17,a18)=>[((14,0),rY (.int .i64) kvI vvS a17)]) (fun e24=>[(4,cM (14,0))]) (fun e24=>[((14,0),rY (.int .i64) kvI vvS e24)]) sw ?_ ?_
 ·rintro e24 hF
  refine wA rfl ?_;cases hF
  exact bq ⟨_,_,(vq (14,0) (902,1920) rfl rfl fq),_,rfl,rfl,⟨rfl,⟨rfl,fun _=>rfl⟩,trivial⟩,(AgM.weak ⟨rfl,trivial⟩)⟩
 rintro⟨a17,a18⟩ x_0 hF cont_0 brk_0 fin_0
 unfold Bx at hF
 refine wA rfl ?_;refine az ?_;refine wIf hF rfl (fun _ hF=>?_) fun _ hF=>?_
 ·refine aJ ?_;refine az ?_;refine c7 ?_;refine wE ?_;obtain⟨y25,hy25,hF⟩:=bB hF
  refine rS (cY (tc:=cV) p0.fThreads rfl rfl hy25 ?_);refine QV rfl ?_;refine az ?_;refine wC 1 rfl ?_;obtain⟨r26,hr26,hF⟩:=bB hF
  refine rS (cq (P8 _ _ hr26) ⟨⟨rfl,rfl,rfl,trivial⟩,trivial⟩ rfl (.inl rfl) ?_);refine QV rfl ?_;refine wA rfl ?_;refine wIf hF rfl (fun _ hF=>?_) fun _ hF=>?_
  ·refine wA rfl ?_;have hF:=fin_0 _ (oi hF);cases hF
   exact bq ⟨_,_,fq,_,rfl,rfl,⟨trivial,⟨rfl,fun _=>rfl⟩,trivial⟩,(AgM.weak trivial)⟩
  refine aJ ?_;refine az ?_;refine wC 3 rfl ?_;refine rS (Hx (anY .i64) (vv:=vvS) a17 y25.fId (⟨#[]⟩ : ByteArray) (.own _ rfl) rfl rfl ?_)
  refine QV rfl ?_;refine wA rfl ?_;refine wIf hF rfl (fun _ hF=>?_) fun _ hF=>?_
  ·refine wA rfl ?_;have hF:=fin_0 _ (oi hF);cases hF
   exact bq ⟨_,_,fq,_,rfl,rfl,⟨trivial,⟨rfl,fun _=>rfl⟩,trivial⟩,(AgM.weak trivial)⟩
  refine aJ ?_;refine wD 5 rfl ?_;refine rS (aXV (anY .i64) (vv:=vvS) a17 y25.fId y25.fName rfl rfl rfl rfl ?_)
  refine QV rfl ?_;refine wB rfl ?_;exact cont_0 _ _ _ (oi hF) sw
 refine dZ ?_;refine aQ ?_;refine aQ ?_;refine bj ?_;exact brk_0 _ _ _ (oi hF) sw
def lQ(p0:bZ):Option Bool :=
  (((bif (decide (0≤p0.fFrom))then(bif (decide (p0.fFrom<p0.fTo))then some (decide (p0.fTo≤1000000000000))else some false)else some false):Option Bool).bind fun v1=>some v1)
theorem x9(p0:bZ)(r:Bool)(hF:lQ p0=some r):Fun Tryz.prog 87 true [] [.agg [jI p0.fFrom,jI p0.fTo]] noHeap (cB r) noHeap:=by
 refine fW Tryz.func87 ?_
 unfold lQ at hF
 refine wA rfl ?_;refine az ?_;refine cz (fun _ _ h=>h) hF (fun v1=>[(2,cB v1)]) (fun v1=>[]) ?_ ?_
 ·rintro v1 hF
  cases hF
  exact bq wR
 intro join hF
 refine wD 4 rfl ?_;cases h2:(decide (0≤p0.fFrom))
 ·have hF:=bF' h2 hF;refine QV rfl ?_;exact join false _ _ hF sw
 have hF:=bT' h2 hF;refine aX SV 7 rfl ?_;cases h3:(decide (p0.fFrom<p0.fTo))
 ·have hF:=bF' h3 hF;refine QV rfl ?_;exact join false _ _ hF sw
 have hF:=bT' h3 hF;refine QV rfl ?_;exact join (decide (p0.fTo≤1000000000000)) _ _ hF sw
def yK(p0:Int):Option Bool :=
  some (!decide (p0=p0))
theorem I9(p0:Int)(r:Bool)(hF:yK p0=some r):Fun Tryz.prog 150 true [] [cI p0] noHeap (cB r) noHeap:=by
 refine fW Tryz.func150 ?_
 unfold yK at hF
 refine wA rfl ?_;refine wA rfl ?_;cases hF
 exact bq wR
def lY(p0:Int)(p1:Int):Option Int :=
  ((yK p0).bind fun r1=>((yK p1).bind fun r2=>(bif r1 then(bif r2 then some 0 else some (-1))else(bif r2 then some 1 else(bif (decide (p0<p1))then some (-1)else(bif (decide (p1<p0))then some 1 else some 0))))))
theorem vY(p0:Int)(p1:Int)(r:Int)(hF:lY p0 p1=some r):Fun Tryz.prog 130 true [] [cI p0,cI p1] noHeap (cI r) noHeap:=by
 refine fW Tryz.func130 ?_
 unfold lY at hF
 refine wA rfl ?_;refine wC 1 rfl ?_;obtain⟨r1,hr1,hF⟩:=bB hF
 refine rS (cq (I9 _ _ hr1) ⟨rfl,trivial⟩ rfl (.inl rfl) ?_);refine QV rfl ?_;refine wC 1 rfl ?_;obtain⟨r2,hr2,hF⟩:=bB hF
 refine rS (cq (I9 _ _ hr2) ⟨rfl,trivial⟩ rfl (.inl rfl) ?_);refine QV rfl ?_;refine az ?_;refine wA rfl ?_;refine wIf hF rfl (fun _ hF=>?_) fun _ hF=>?_
 ·refine az ?_;refine wA rfl ?_;refine wIf hF rfl (fun _ hF=>?_) fun _ hF=>?_
  ·refine wA rfl ?_;cases hF
   exact bq wR
  refine aJ ?_;refine wA rfl ?_;cases hF
  exact bq wR
 refine aJ ?_;refine az ?_;refine wA rfl ?_;refine wIf hF rfl (fun _ hF=>?_) fun _ hF=>?_
 ·refine wA rfl ?_;cases hF
  exact bq wR
 refine aJ ?_;refine az ?_;refine wA rfl ?_;refine wIf hF rfl (fun _ hF=>?_) fun _ hF=>?_
 ·refine wA rfl ?_;cases hF
  exact bq wR
 refine aJ ?_;refine az ?_;refine wA rfl ?_;refine wIf hF rfl (fun _ hF=>?_) fun _ hF=>?_
 ·refine wA rfl ?_;cases hF
  exact bq wR
 refine aJ ?_;refine wA rfl ?_;cases hF
 exact bq wR
def Cx(p0:(List Int)):Int→Option (Int ⊕ (Unit ⊕ Int)):=fun a10 =>
  (bif (decide (a10<(List.length p0:Int)))then((idx p0 a10).bind fun y14=>(bif (!decide (y14=0))then some (.inr (.inr y14))else some (.inl (w64 (a10+1)))))else some (.inr (.inl ())))
def A2(p0:(List Int)):Option Int :=
  ((loop (Cx p0) 0).bind fun | .inl _=>some 0 | .inr rv=>some rv)
theorem O1(p0:(List Int))(r:Int)(hF:A2 p0=some r):Fun Tryz.prog 129 true [] [cL 1 dV p0] noHeap (cI r) noHeap:=by
 refine fW Tryz.func129 ?_
 unfold A2 at hF
 refine wA rfl ?_;refine wA rfl ?_;refine az ?_;refine wC 1 rfl ?_;refine rS (d3 (tc:=dV) p0 .tree ?_);refine QV rfl ?_;refine fQ (fun _ _ h=>h) hF (.inl) (fun a10=>[(3,cI 0),(6,cL 1 dV p0),(7,cI (List.length p0:Int)),(8,cI a10)]) (fun a10=>[]) (fun _=>[(3,cI 0)]) (fun _=>[]) sw ?_ ?_
 ·rintro⟨⟩ hF
  refine wA rfl ?_;cases hF
  exact bq wR
 rintro a10 x_0 hF cont_0 brk_0 fin_0
 unfold Cx at hF
 refine wA rfl ?_;refine az ?_;refine wIf hF rfl (fun _ hF=>?_) fun _ hF=>?_
 ·refine aJ ?_;refine az ?_;refine c7 ?_;refine wE ?_;obtain⟨y14,hy14,hF⟩:=bB hF
  refine rS (cY (tc:=dV) p0 rfl rfl hy14 ?_);refine QV rfl ?_;refine wA rfl ?_;refine wIf hF rfl (fun _ hF=>?_) fun _ hF=>?_
  ·refine wA rfl ?_;have hF:=fin_0 _ (oi hF);cases hF
   exact bq wR
  refine aJ ?_;refine wB rfl ?_;exact cont_0 _ _ _ (oi hF) sw
 refine dZ ?_;refine aQ ?_;refine aQ ?_;refine bj ?_;exact brk_0 _ _ _ (oi hF) sw
def sX(p0:aK)(p1:aK):Option Int :=
  ((lY p0.fSpan.fFrom p1.fSpan.fFrom).bind fun r1=>((lY p1.fSpan.fTo p0.fSpan.fTo).bind fun r2=>((lY p0.fThread p1.fThread).bind fun r3=>((A2 [r1,r2,r3]).bind fun r4=>some r4))))
theorem UV(p0:aK)(p1:aK)(r:Int)(hF:sX p0 p1=some r):Fun Tryz.prog 97 true [] [.agg (i5 p0),.agg (i5 p1)] noHeap (cI r) noHeap:=by
 refine fW Tryz.func97 ?_
 unfold sX at hF
 refine wA rfl ?_;refine az ?_;refine hZ (by decide) (by kernel_rfl) rfl ?_;refine aX SP 6 rfl ?_;obtain⟨r1,hr1,hF⟩:=bB hF
 refine aV SP trivial (cq (vY _ _ _ hr1) ⟨rfl,rfl,trivial⟩ rfl (.inl rfl) ?_);refine aX SP 6 rfl ?_;obtain⟨r2,hr2,hF⟩:=bB hF
 refine aV SP trivial (cq (vY _ _ _ hr2) ⟨rfl,rfl,trivial⟩ rfl (.inl rfl) ?_);refine aX SP 4 rfl ?_;obtain⟨r3,hr3,hF⟩:=bB hF
 refine aV SP trivial (cq (vY _ _ _ hr3) ⟨rfl,rfl,trivial⟩ rfl (.inl rfl) ?_);refine aV SP trivial (AQ (tc:=dV) [r1,r2,r3] rfl ⟨rfl,rfl,rfl,trivial⟩ rfl (fun _=>rfl) rfl ?_)
 obtain⟨r4,hr4,hF⟩:=bB hF
 refine aV SP trivial (cq (O1 _ _ hr4) ⟨⟨_,rfl⟩,trivial⟩ rfl (.inl rfl) ?_);refine QP rfl ?_;cases hF
 exact bq wR
def n6(p0:(List aK)):Int→Option (Int ⊕ (Unit ⊕ Bool)):=fun a30 =>
  (bif (decide (a30<(List.length p0:Int)))then((idx p0 a30).bind fun y44=>(((bif (decide (y44.fParent<(-1)))then some true else some (decide (a30≤y44.fParent))):Option Bool).bind fun v45=>(bif v45 then some (.inr (.inr false))else(bif (decide (y44.fParent=(-1)))then(bif (!decide (y44.fDepth=0))then some (.inr (.inr false))else some (.inl (w64 (a30+1))))else((idx p0 y44.fParent).bind fun y47=>(((bif (!decide (y47.fThread=y44.fThread))then some true else(bif (decide (y44.fSpan.fFrom<y47.fSpan.fFrom))then some true else(bif (decide (y47.fSpan.fTo<y44.fSpan.fTo))then some true else some (!decide (y44.fDepth=(w64 (y47.fDepth+1))))))):Option Bool).bind fun v48=>(bif v48 then some (.inr (.inr false))else some (.inl (w64 (a30+1))))))))))else some (.inr (.inl ())))
def uV(p0:(List aK)):Option Bool :=
  ((loop (n6 p0) 0).bind fun | .inl _=>some true | .inr rv=>some rv)
theorem U7(p0:(List aK))(r:Bool)(hF:uV p0=some r):Fun Tryz.prog 98 true [] [cL 8 aj p0] noHeap (cB r) noHeap:=by
 refine fW Tryz.func98 ?_
 unfold uV at hF
 refine wA rfl ?_;refine az ?_;refine wC 1 rfl ?_;refine rS (d3 (tc:=aj) p0 .tree ?_);refine QV rfl ?_;refine fQ (fun _ _ h=>h) hF (.inl) (fun a30=>[(0,cL 8 aj p0),(6,cL 8 aj p0),(7,cI (List.length p0:Int)),(8,cI a30)]) (fun a30=>[]) (fun _=>[]) (fun _=>[]) sw ?_ ?_
 ·rintro⟨⟩ hF
  refine wA rfl ?_;cases hF
  exact bq wR
 rintro a30 x_0 hF cont_0 brk_0 fin_0
 unfold n6 at hF
 refine wA rfl ?_;refine az ?_;refine wIf hF rfl (fun _ hF=>?_) fun _ hF=>?_
 ·refine aJ ?_;refine az ?_;refine c7 ?_;refine wC 1 rfl ?_;obtain⟨y44,hy44,hF⟩:=bB hF
  refine rS (cY (tc:=aj) p0 rfl rfl hy44 ?_);refine QV rfl ?_;refine c7 ?_;refine az ?_;refine cz (fun _ _ h=>h) hF (fun v45=>[(0,cL 8 aj p0),(4,cP (4,0) 0),(6,cL 8 aj p0),(7,cI (List.length p0:Int)),(8,cI a30),(49,cB v45)]) (fun v45=>[((4,0),.box (i5 y44))]) ?_ ?_
  ·rintro v45 hF
   refine wIf hF rfl (fun _ hF=>?_) fun _ hF=>?_
   ·refine wA rfl ?_;have hF:=fin_0 _ (oi hF);cases hF
    exact bq wR
   refine wA rfl ?_;refine wIf hF rfl (fun _ hF=>?_) fun _ hF=>?_
   ·refine wA rfl ?_;refine wIf hF rfl (fun _ hF=>?_) fun _ hF=>?_
    ·refine wA rfl ?_;have hF:=fin_0 _ (oi hF);cases hF
     exact bq wR
    refine aJ ?_;refine wB rfl ?_;exact cont_0 _ _ _ (oi hF) sw
   refine wC 3 rfl ?_;obtain⟨y47,hy47,hF⟩:=bB hF
   refine rS (cY (tc:=aj) p0 rfl rfl hy47 ?_);refine QV rfl ?_;refine az ?_;refine cz (fun _ _ h=>h) hF (fun v48=>[(0,cL 8 aj p0),(6,cL 8 aj p0),(7,cI (List.length p0:Int)),(8,cI a30),(48,cB v48)]) (fun v48=>[]) ?_ ?_
   ·rintro v48 hF
    refine wIf hF rfl (fun _ hF=>?_) fun _ hF=>?_
    ·refine wA rfl ?_;have hF:=fin_0 _ (oi hF);cases hF
     exact bq wR
    refine aJ ?_;refine wB rfl ?_;exact cont_0 _ _ _ (oi hF) sw
   intro join hF
   refine wD 6 rfl ?_;cases h50:(!decide (y47.fThread=y44.fThread))
   ·have hF:=bF' h50 hF;refine aX SV 9 rfl ?_;cases h51:(decide (y44.fSpan.fFrom<y47.fSpan.fFrom))
    ·have hF:=bF' h51 hF;refine aX SV 9 rfl ?_;cases h52:(decide (y47.fSpan.fTo<y44.fSpan.fTo))
     ·have hF:=bF' h52 hF;refine QV rfl ?_;exact join (!decide (y44.fDepth=(w64 (y47.fDepth+1)))) _ _ hF sw
     have hF:=bT' h52 hF;refine QV rfl ?_;exact join true _ _ hF sw
    have hF:=bT' h51 hF;refine QV rfl ?_;exact join true _ _ hF sw
   have hF:=bT' h50 hF;refine QV rfl ?_;exact join true _ _ hF sw
  intro join hF
  refine wD 4 rfl ?_;cases h55:(decide (y44.fParent<(-1)))
  ·have hF:=bF' h55 hF;refine QV rfl ?_;exact join (decide (a30≤y44.fParent)) _ _ hF sw
  have hF:=bT' h55 hF;refine QV rfl ?_;exact join true _ _ hF sw
 refine dZ ?_;refine aQ ?_;refine aQ ?_;refine bj ?_;exact brk_0 _ _ _ (oi hF) sw
def C7(p0:(List aK))(p1:Int):Int→Option (Int ⊕ (Unit ⊕ Bool)):=fun a10 =>
  (bif (decide (0≤a10))then(bif (decide (p1=a10))then some (.inr (.inr true))else((idx p0 a10).bind fun y14=>some (.inl y14.fParent)))else some (.inr (.inl ())))
def AY(p0:(List aK))(p1:Int)(p2:Int):Option Bool :=
  ((loop (C7 p0 p1) p2).bind fun | .inl _=>some false | .inr rv=>some rv)
theorem XY(p0:(List aK))(p1:Int)(p2:Int)(r:Bool)(hF:AY p0 p1 p2=some r):Fun Tryz.prog 131 true [] [cL 8 aj p0,cI p1,cI p2] noHeap (cB r) noHeap:=by
 refine fW Tryz.func131 ?_
 unfold AY at hF
 refine wA rfl ?_;refine az ?_;refine fQ (fun _ _ h=>h) hF (.inl) (fun a10=>[(0,cL 8 aj p0),(1,cI p1),(2,cI a10)]) (fun a10=>[]) (fun _=>[]) (fun _=>[]) sw ?_ ?_
 ·rintro⟨⟩ hF
  refine wA rfl ?_;cases hF
  exact bq wR
 rintro a10 x_0 hF cont_0 brk_0 fin_0
 unfold C7 at hF
 refine az ?_;refine wA rfl ?_;refine wIf hF rfl (fun _ hF=>?_) fun _ hF=>?_
 ·refine aJ ?_;refine az ?_;refine c7 ?_;refine wA rfl ?_;refine wIf hF rfl (fun _ hF=>?_) fun _ hF=>?_
  ·refine wA rfl ?_;have hF:=fin_0 _ (oi hF);cases hF
   exact bq wR
  refine aJ ?_;refine wD 2 rfl ?_;obtain⟨y14,hy14,hF⟩:=bB hF
  refine rS (cY (tc:=aj) p0 rfl rfl hy14 ?_);refine QV rfl ?_;exact cont_0 _ _ _ (oi hF) sw
 refine dZ ?_;refine aQ ?_;refine aQ ?_;refine bj ?_;exact brk_0 _ _ _ (oi hF) sw
def Dq(p0:(List aK))(a116:Int)(y173:aK):(Int×Int)→Option ((Int×Int) ⊕ (Int ⊕ (Int ⊕ (Unit ⊕ Bool)))):=fun(a202,a203) =>
  (bif (decide (a203<(List.length p0:Int)))then((idx p0 a203).bind fun y217=>(((bif (decide (y217.fParent=a116))then some (w64 (a202-(w64 (y217.fSpan.fTo-y217.fSpan.fFrom))))else some a202):Option Int).bind fun v218=>(((bif (decide (a203<a116))then(bif (decide (y217.fThread=y173.fThread))then(bif (decide (y173.fSpan.fFrom<y217.fSpan.fTo))then(bif (decide (y217.fSpan.fFrom<y173.fSpan.fTo))then((AY p0 a203 a116).bind fun r225=>some (!r225))else some false)else some false)else some false)else some false):Option Bool).bind fun v219=>(bif v219 then some (.inr (.inr (.inr (.inr false))))else some (.inl (v218,(w64 (a203+1))))))))else some (.inr (.inl a202)))
def DW(p0:(List aK)):Int→Option (Int ⊕ (Unit ⊕ Bool)):=fun a116 =>
  (bif (decide (a116<(List.length p0:Int)))then((idx p0 a116).bind fun y173=>((loop (Dq p0 a116 y173) ((w64 (y173.fSpan.fTo-y173.fSpan.fFrom)),0)).bind fun | .inl e215=>(bif (!decide (y173.fSelf=e215))then some (.inr (.inr false))else some (.inl (w64 (a116+1)))) | .inr rv=>some rv))else some (.inr (.inl ())))
def Az(p0:(List aK)):Option Bool :=
  ((loop (DW p0) 0).bind fun | .inl _=>some true | .inr rv=>some rv)
theorem XJ(p0:(List aK))(r:Bool)(hF:Az p0=some r):Fun Tryz.prog 99 true [] [cL 8 aj p0] noHeap (cB r) noHeap:=by
 refine fW Tryz.func99 ?_
 unfold Az at hF
 refine wA rfl ?_;refine az ?_;refine wC 1 rfl ?_;refine rS (d3 (tc:=aj) p0 .tree ?_);refine QV rfl ?_;refine fQ (fun _ _ h=>h) hF (.inl) (fun a116=>[(0,cL 8 aj p0),(8,cL 8 aj p0),(9,cI (List.length p0:Int)),(10,cI a116)]) (fun a116=>[]) (fun _=>[]) (fun _=>[]) sw ?_ ?_
 ·rintro⟨⟩ hF
  refine wA rfl ?_;cases hF
  exact bq wR
 rintro a116 x_0 hF cont_0 brk_0 fin_0
 unfold DW at hF
 refine wA rfl ?_;refine az ?_;refine wIf hF rfl (fun _ hF=>?_) fun _ hF=>?_
 ·refine aJ ?_;refine az ?_;refine c7 ?_;refine wC 1 rfl ?_;obtain⟨y173,hy173,hF⟩:=bB hF
  refine rS (cY (tc:=aj) p0 rfl rfl hy173 ?_);refine QV rfl ?_;refine wA rfl ?_;refine az ?_;refine wC 1 rfl ?_;refine rS (d3 (tc:=aj) p0 .tree ?_);refine QV rfl ?_;refine fQ (fun _ _ h=>h) hF (.inl) (fun(a202,a203)=>[(0,cL 8 aj p0),(3,cI a116),(4,cP (4,0) 0),(5,cI a202),(8,cL 8 aj p0),(9,cI (List.length p0:Int)),(10,cI a116),(22,cL 8 aj p0),(23,cI (List.length p0:Int)),(24,cI a203)]) (fun(a202,a203)=>[((4,0),.box (i5 y173))]) (fun e215=>[(0,cL 8 aj p0),(4,cP (4,0) 0),(5,cI e215),(8,cL 8 aj p0),(9,cI (List.length p0:Int)),(10,cI a116)]) (fun e215=>[((4,0),.box (i5 y173))]) sw ?_ ?_
  ·rintro e215 hF
   refine wA rfl ?_;refine wIf hF rfl (fun _ hF=>?_) fun _ hF=>?_
   ·refine wA rfl ?_;have hF:=fin_0 _ (oi hF);cases hF
    exact bq wR
   refine aJ ?_;refine wB rfl ?_;exact cont_0 _ _ _ (oi hF) sw
  rintro⟨a202,a203⟩ x_1 hF cont_1 brk_1 fin_1
  unfold Dq at hF
  refine wA rfl ?_;refine az ?_;refine wIf hF rfl (fun _ hF=>?_) fun _ hF=>?_
  ·refine aJ ?_;refine az ?_;refine c7 ?_;refine wC 1 rfl ?_;obtain⟨y217,hy217,hF⟩:=bB hF
   refine rS (cY (tc:=aj) p0 rfl rfl hy217 ?_);refine QV rfl ?_;refine az ?_;refine wA rfl ?_;refine cz (fun _ _ h=>h) hF (fun v218=>[(0,cL 8 aj p0),(3,cI a116),(4,cP (4,0) 0),(5,cI v218),(6,cI a203),(7,cP (7,0) 0),(8,cL 8 aj p0),(9,cI (List.length p0:Int)),(10,cI a116),(22,cL 8 aj p0),(23,cI (List.length p0:Int)),(24,cI a203)]) (fun v218=>[((4,0),.box (i5 y173)),((7,0),.box (i5 y217))]) ?_ ?_
   ·rintro v218 hF
    refine az ?_;refine cz (fun _ _ h=>h) hF (fun v219=>[(0,cL 8 aj p0),(3,cI a116),(4,cP (4,0) 0),(5,cI v218),(8,cL 8 aj p0),(9,cI (List.length p0:Int)),(10,cI a116),(22,cL 8 aj p0),(23,cI (List.length p0:Int)),(24,cI a203),(76,cB v219)]) (fun v219=>[((4,0),.box (i5 y173))]) ?_ ?_
    ·rintro v219 hF
     refine wIf hF rfl (fun _ hF=>?_) fun _ hF=>?_
     ·refine wA rfl ?_;have hF:=fin_1 _ (oi hF);have hF:=fin_0 _ (oi hF);cases hF
      exact bq wR
     refine aJ ?_;refine wB rfl ?_;exact cont_1 _ _ _ (oi hF) sw
    intro join hF
    refine wD 4 rfl ?_;cases h221:(decide (a203<a116))
    ·have hF:=bF' h221 hF;refine QV rfl ?_;exact join false _ _ hF sw
    have hF:=bT' h221 hF;refine aX SV 7 rfl ?_;cases h222:(decide (y217.fThread=y173.fThread))
    ·have hF:=bF' h222 hF;refine QV rfl ?_;exact join false _ _ hF sw
    have hF:=bT' h222 hF;refine aX SV 9 rfl ?_;cases h223:(decide (y173.fSpan.fFrom<y217.fSpan.fTo))
    ·have hF:=bF' h223 hF;refine QV rfl ?_;exact join false _ _ hF sw
    have hF:=bT' h223 hF;refine aX SV 9 rfl ?_;cases h224:(decide (y217.fSpan.fFrom<y173.fSpan.fTo))
    ·have hF:=bF' h224 hF;refine QV rfl ?_;exact join false _ _ hF sw
    have hF:=bT' h224 hF;refine aX SV 3 rfl ?_;obtain⟨r225,hr225,hF⟩:=bB' hF
    refine aV SV rfl (cq (XY _ _ _ _ hr225) ⟨rfl,rfl,rfl,trivial⟩ rfl (.inl rfl) ?_);refine QV rfl ?_;exact join (!r225) _ _ hF sw
   intro join hF
   refine tW hF rfl (fun _ hF=>?_) fun _ hF=>?_
   ·refine wB rfl ?_;exact join (w64 (a202-(w64 (y217.fSpan.fTo-y217.fSpan.fFrom)))) _ _ hF sw
   refine aJ ?_;exact join a202 _ _ hF sw
  refine dZ ?_;refine aQ ?_;refine aQ ?_;refine bj ?_;exact brk_1 _ _ _ (oi hF) sw
 refine dZ ?_;refine aQ ?_;refine aQ ?_;refine bj ?_;exact brk_0 _ _ _ (oi hF) sw
def wj(p0:(List aK)):Int→Option (Int ⊕ (Unit ⊕ Int)):=fun a32 =>
  (bif (decide (a32<(List.length p0:Int)))then((idx p0 a32).bind fun y52=>(((bif (decide (y52.fThread<0))then some true else(bif (decide (1000000000000000<y52.fThread))then some true else((lQ y52.fSpan).bind fun r64=>some (!r64)))):Option Bool).bind fun v53=>(bif v53 then some (.inr (.inr 2))else((nJ y52.fName).bind fun r54=>(bif (!decide (r54=0))then some (.inr (.inr r54))else(((bif (decide (0<a32))then((idx p0 (w64 (a32-1))).bind fun y58=>((sX y58 y52).bind fun r59=>some (decide (0<r59))))else some false):Option Bool).bind fun v55=>(bif v55 then some (.inr (.inr 11))else some (.inl (w64 (a32+1))))))))))else some (.inr (.inl ())))
def qJ(p0:(List aK)):Option Int :=
  ((loop (wj p0) 0).bind fun | .inl _=>((((uV p0).bind fun r49=>(bif (!r49)then some true else((Az p0).bind fun r51=>some (!r51)))):Option Bool).bind fun v47=>(bif v47 then some 10 else some 0)) | .inr rv=>some rv)
theorem M8(p0:(List aK))(r:Int)(hF:qJ p0=some r):Fun Tryz.prog 50 true [] [cL 8 aj p0] noHeap (cI r) noHeap:=by
 refine fW Tryz.func50 ?_
 unfold qJ at hF
 refine wA rfl ?_;refine az ?_;refine wC 1 rfl ?_;refine rS (d3 (tc:=aj) p0 .tree ?_);refine QV rfl ?_;refine fQ (fun _ _ h=>h) hF (.inl) (fun a32=>[(0,cL 8 aj p0),(6,cL 8 aj p0),(7,cI (List.length p0:Int)),(8,cI a32)]) (fun a32=>[]) (fun _=>[(0,cL 8 aj p0)]) (fun _=>[]) sw ?_ ?_
 ·rintro⟨⟩ hF
  refine az ?_;refine az ?_;refine cz (fun _ _ h=>h) hF (fun v47=>[(53,cB v47)]) (fun v47=>[]) ?_ ?_
  ·rintro v47 hF
   refine wIf hF rfl (fun _ hF=>?_) fun _ hF=>?_
   ·refine wA rfl ?_;cases hF
    exact bq wR
   refine aJ ?_;refine wA rfl ?_;cases hF
   exact bq wR
  intro join hF
  refine wD 1 rfl ?_;obtain⟨r49,hr49,hF⟩:=bB' hF
  refine rS (cq (U7 _ _ hr49) ⟨rfl,trivial⟩ rfl (.inl rfl) ?_);refine aX SV 2 rfl ?_;cases h50:(!r49)
  ·have hF:=bF' h50 hF;refine aX SV 1 rfl ?_;obtain⟨r51,hr51,hF⟩:=bB' hF
   refine aV SV rfl (cq (XJ _ _ hr51) ⟨rfl,trivial⟩ rfl (.inl rfl) ?_);refine QV rfl ?_;exact join (!r51) _ _ hF sw
  have hF:=bT' h50 hF;refine QV rfl ?_;exact join true _ _ hF sw
 rintro a32 x_0 hF cont_0 brk_0 fin_0
 unfold wj at hF
 refine wA rfl ?_;refine az ?_;refine wIf hF rfl (fun _ hF=>?_) fun _ hF=>?_
 ·refine aJ ?_;refine az ?_;refine c7 ?_;refine wC 1 rfl ?_;obtain⟨y52,hy52,hF⟩:=bB hF
  refine rS (cY (tc:=aj) p0 rfl rfl hy52 ?_);refine QV rfl ?_;refine az ?_;refine az ?_;refine cz (fun _ _ h=>h) hF (fun v53=>[(0,cL 8 aj p0),(3,cI a32),(4,cP (4,0) 0),(6,cL 8 aj p0),(7,cI (List.length p0:Int)),(8,cI a32),(26,cB v53)]) (fun v53=>[((4,0),.box (i5 y52))]) ?_ ?_
  ·rintro v53 hF
   refine wIf hF rfl (fun _ hF=>?_) fun _ hF=>?_
   ·refine wA rfl ?_;have hF:=fin_0 _ (oi hF);cases hF
    exact bq wR
   refine aJ ?_;refine az ?_;refine wC 2 rfl ?_;obtain⟨r54,hr54,hF⟩:=bB hF
   refine rS (cq (Cj _ _ hr54) ⟨rfl,trivial⟩ rfl (.inl rfl) ?_);refine QV rfl ?_;refine wA rfl ?_;refine wIf hF rfl (fun _ hF=>?_) fun _ hF=>?_
   ·refine wA rfl ?_;have hF:=fin_0 _ (oi hF);cases hF
    exact bq wR
   refine aJ ?_;refine az ?_;refine cz (fun _ _ h=>h) hF (fun v55=>[(0,cL 8 aj p0),(6,cL 8 aj p0),(7,cI (List.length p0:Int)),(8,cI a32),(44,cB v55)]) (fun v55=>[]) ?_ ?_
   ·rintro v55 hF
    refine wIf hF rfl (fun _ hF=>?_) fun _ hF=>?_
    ·refine wA rfl ?_;have hF:=fin_0 _ (oi hF);cases hF
     exact bq wR
    refine aJ ?_;refine wB rfl ?_;exact cont_0 _ _ _ (oi hF) sw
   intro join hF
   refine hZ (by decide) (by kernel_rfl) rfl ?_;refine aX SP 3 rfl ?_;cases h57:(decide (0<a32))
   ·have hF:=bF' h57 hF;refine QP rfl ?_;exact join false _ _ hF sw
   have hF:=bT' h57 hF;refine aX SP 3 rfl ?_;obtain⟨y58,hy58,hF⟩:=bB' hF
   refine aV SP rfl (cY (tc:=aj) p0 rfl rfl hy58 ?_);refine aX SP 2 rfl ?_;obtain⟨r59,hr59,hF⟩:=bB' hF
   refine aV SP rfl (cq (UV _ _ _ hr59) ⟨⟨rfl,rfl,rfl,rfl,rfl,rfl,rfl,rfl,trivial⟩,⟨rfl,rfl,rfl,rfl,rfl,rfl,rfl,rfl,trivial⟩,trivial⟩ rfl (.inl rfl) ?_);refine QP rfl ?_
   exact join (decide (0<r59)) _ _ hF sw
  intro join hF
  refine wD 4 rfl ?_;cases h62:(decide (y52.fThread<0))
  ·have hF:=bF' h62 hF;refine aX SV 5 rfl ?_;cases h63:(decide (1000000000000000<y52.fThread))
   ·have hF:=bF' h63 hF;refine aX SV 2 rfl ?_;obtain⟨r64,hr64,hF⟩:=bB' hF
    refine aV SV rfl (cq (x9 _ _ hr64) ⟨⟨rfl,rfl,trivial⟩,trivial⟩ rfl (.inl rfl) ?_);refine QV rfl ?_;exact join (!r64) _ _ hF sw
   have hF:=bT' h63 hF;refine QV rfl ?_;exact join true _ _ hF sw
  have hF:=bT' h62 hF;refine QV rfl ?_;exact join true _ _ hF sw
 refine dZ ?_;refine aQ ?_;refine aQ ?_;refine bj ?_;exact brk_0 _ _ _ (oi hF) sw
def z7(p0:aK):Option Int :=
  some p0.fThread
theorem R8(p0:aK)(r:Int)(hF:z7 p0=some r):Fun Tryz.prog 51 true [] [.agg (i5 p0)] noHeap (cI r) noHeap:=by
 refine fW Tryz.func51 ?_
 unfold z7 at hF
 refine wA rfl ?_;refine wA rfl ?_;cases hF
 exact bq wR
def kz(p1:(List (Int×ByteArray)))(p2:(List aK)):Int→Option (Int ⊕ (Unit ⊕ Int)):=fun a12 =>
  (bif (decide (a12<(List.length p2:Int)))then((idx p2 a12).bind fun y17=>((z7 y17).bind fun r18=>(bif (!(Option.isSome (D3 r18 p1)))then some (.inr (.inr 5))else some (.inl (w64 (a12+1))))))else some (.inr (.inl ())))
def gZ(p0:Int)(p1:(List (Int×ByteArray)))(p2:(List aK)):Option Int :=
  (bif (!decide (p0=0))then some p0 else((loop (kz p1 p2) 0).bind fun | .inl _=>some 0 | .inr rv=>some rv))
theorem Fj(p0:Int)(p1:(List (Int×ByteArray)))(p2:(List aK))(r:Int)(hF:gZ p0 p1 p2=some r):Fun Tryz.prog 49 false [(2960,0)] [cI p0,cM (2960,0),cL 8 aj p2,.c (.fn 51 [])] (aZ [((2960,0),rY (.int .i64) kvI vvS p1)]) (cI r) (aZ [((2960,0),rY (.int .i64) kvI vvS p1)]):=by
 refine fM [(2960,0)] (some [(2960,0)]) Tryz.func49 ?_
 unfold gZ at hF
 refine wA rfl ?_;refine az ?_;refine wA rfl ?_;refine wIf hF rfl (fun _ hF=>?_) fun _ hF=>?_
 ·refine wA rfl ?_;cases hF
  exact bq ⟨_,_,fq,_,rfl,rfl,⟨rfl,fun _=>rfl⟩,(AgM.weak ⟨rfl,trivial⟩)⟩
 refine aJ ?_;refine az ?_;refine wC 1 rfl ?_;refine rS (d3 (tc:=aj) p2 .tree ?_);refine QV rfl ?_;refine fQ (fun _ _ h=>h) hF (.inl) (fun a12=>[(1,cM (2960,0)),(3,.c (.fn 51 [])),(16,cL 8 aj p2),(17,cI (List.length p2:Int)),(18,cI a12)]) (fun a12=>[((2960,0),rY (.int .i64) kvI vvS p1)]) (fun _=>[]) (fun _=>[((2960,0),rY (.int .i64) kvI vvS p1)]) sw ?_ ?_
 ·rintro⟨⟩ hF
  refine wA rfl ?_;cases hF
  exact bq ⟨_,_,fq,_,rfl,rfl,⟨rfl,fun _=>rfl⟩,(AgM.weak ⟨rfl,trivial⟩)⟩
 rintro a12 x_0 hF cont_0 brk_0 fin_0
 unfold kz at hF
 refine wA rfl ?_;refine az ?_;refine wIf hF rfl (fun _ hF=>?_) fun _ hF=>?_
 ·refine aJ ?_;refine az ?_;refine c7 ?_;refine wE ?_;obtain⟨y17,hy17,hF⟩:=bB hF
  refine rS (cY (tc:=aj) p2 rfl rfl hy17 ?_);refine QV rfl ?_;refine wC 3 rfl ?_;obtain⟨r18,hr18,hF⟩:=bB hF
  refine lq trivial (HJ (N5 _ rfl aXY) (R8 _ _ hr18) ⟨⟨rfl,rfl,rfl,rfl,rfl,rfl,rfl,rfl,trivial⟩,trivial⟩ rfl (.inl rfl) ?_);refine rS (Hx (anY .i64) (vv:=vvS) p1 r18 (⟨#[]⟩ : ByteArray) (.own _ rfl) rfl rfl ?_)
  refine QV rfl ?_;refine wA rfl ?_;refine wIf hF rfl (fun _ hF=>?_) fun _ hF=>?_
  ·refine wA rfl ?_;have hF:=fin_0 _ (oi hF);cases hF
   exact bq ⟨_,_,fq,_,rfl,rfl,⟨rfl,fun _=>rfl⟩,(AgM.weak ⟨rfl,trivial⟩)⟩
  refine aJ ?_;refine wB rfl ?_;exact cont_0 _ _ _ (oi hF) sw
 refine dZ ?_;refine aQ ?_;refine aQ ?_;refine bj ?_;exact brk_0 _ _ _ (oi hF) sw
def jY(p0:(List Int))(p1:Int):Int→Option (Int ⊕ (Unit ⊕ Int)):=fun a10 =>
  (bif (decide (a10<(List.length p0:Int)))then((idx p0 a10).bind fun y14=>(bif (decide (p1=y14))then some (.inr (.inr a10))else some (.inl (w64 (a10+1)))))else some (.inr (.inl ())))
def d0(p0:(List Int))(p1:Int):Option Int :=
  ((loop (jY p0 p1) 0).bind fun | .inl _=>some (-1) | .inr rv=>some rv)
theorem BY(p0:(List Int))(p1:Int)(r:Int)(hF:d0 p0 p1=some r):Fun Tryz.prog 101 true [] [cL 1 dV p0,cI p1] noHeap (cI r) noHeap:=by
 refine fW Tryz.func101 ?_
 unfold d0 at hF
 refine wA rfl ?_;refine az ?_;refine wC 1 rfl ?_;refine rS (d3 (tc:=dV) p0 .tree ?_);refine QV rfl ?_;refine fQ (fun _ _ h=>h) hF (.inl) (fun a10=>[(0,cL 1 dV p0),(1,cI p1),(7,cI (List.length p0:Int)),(8,cI a10)]) (fun a10=>[]) (fun _=>[]) (fun _=>[]) sw ?_ ?_
 ·rintro⟨⟩ hF
  refine wA rfl ?_;cases hF
  exact bq wR
 rintro a10 x_0 hF cont_0 brk_0 fin_0
 unfold jY at hF
 refine wA rfl ?_;refine az ?_;refine wIf hF rfl (fun _ hF=>?_) fun _ hF=>?_
 ·refine aJ ?_;refine az ?_;refine c7 ?_;refine wA rfl ?_;refine wC 3 rfl ?_;obtain⟨y14,hy14,hF⟩:=bB hF
  refine rS (cY (tc:=dV) p0 rfl rfl hy14 ?_);refine QV rfl ?_;refine wIf hF rfl (fun _ hF=>?_) fun _ hF=>?_
  ·refine wA rfl ?_;have hF:=fin_0 _ (oi hF);cases hF
   exact bq wR
  refine aJ ?_;refine wB rfl ?_;exact cont_0 _ _ _ (oi hF) sw
 refine dZ ?_;refine aQ ?_;refine aQ ?_;refine bj ?_;exact brk_0 _ _ _ (oi hF) sw
def kV(p0:(List Int))(p1:Int):Option Bool :=
  ((d0 p0 p1).bind fun r1=>some (decide (0≤r1)))
theorem F1(p0:(List Int))(p1:Int)(r:Bool)(hF:kV p0 p1=some r):Fun Tryz.prog 132 true [] [cL 1 dV p0,cI p1] noHeap (cB r) noHeap:=by
 refine fW Tryz.func132 ?_
 unfold kV at hF
 refine wA rfl ?_;refine wC 2 rfl ?_;obtain⟨r1,hr1,hF⟩:=bB hF
 refine rS (cq (BY _ _ _ hr1) ⟨rfl,rfl,trivial⟩ rfl (.inl rfl) ?_);refine QV rfl ?_;cases hF
 exact bq wR
def z6(p0:(List dz)):((List Int)×Int)→Option (((List Int)×Int) ⊕ (List Int)):=fun(a19,a20) =>
  (bif (decide (a20<(List.length p0:Int)))then((((idx p0 a20).bind fun y29=>((kV a19 y29.fId).bind fun r30=>(bif (!r30)then(bif KV 8 (List.length a19+List.length [y29.fId])then some (a19++[y29.fId])else none)else some a19))):Option (List Int)).bind fun v28=>some (.inl (v28,(w64 (a20+1)))))else some (.inr a19))
def p6(p0:(List dz)):Option (List Int) :=
  ((loop (z6 p0) ([],0)).bind fun e27=>some e27)
theorem R2(p0:(List dz))(r:(List Int))(hF:p6 p0=some r):Fun Tryz.prog 100 false [] [cL 3 cV p0] (aZ []) (cO (902,4000)) (aZ [((902,4000),.arr 3 1 (List.map dV r))]):=by
 refine fM [] (some []) Tryz.func100 ?_
 unfold p6 at hF
 refine wA rfl ?_;refine wA rfl ?_;refine az ?_;refine wC 1 rfl ?_;refine rS (d3 (tc:=cV) p0 .tree ?_);refine QV rfl ?_;refine fQ (fun _ _ h=>h) hF (id) (fun(a19,a20)=>[(3,cO (21,1)),(6,cL 3 cV p0),(7,cI (List.length p0:Int)),(8,cI a20)]) (fun(a19,a20)=>[((21,1),.arr 3 1 (List.map dV a19))]) (fun e27=>[(3,cO (21,1))]) (fun e27=>[((21,1),.arr 3 1 (List.map dV e27))]) (IW 3 (21,1) 3 1 rfl rfl rfl rfl sw) ?_ ?_
 ·rintro e27 hF
  refine wA rfl ?_;cases hF
  exact bq ⟨_,_,(vq (21,1) (902,4000) rfl rfl fq),_,rfl,rfl,rfl,(AgM.weak ⟨rfl,trivial⟩)⟩
 rintro⟨a19,a20⟩ x_0 hF cont_0 brk_0 fin_0
 unfold z6 at hF
 refine wA rfl ?_;refine az ?_;refine wIf hF rfl (fun _ hF=>?_) fun _ hF=>?_
 ·refine aJ ?_;refine az ?_;refine cz (fun _ _ h=>h) hF (fun v28=>[(3,cO (21,1)),(6,cL 3 cV p0),(7,cI (List.length p0:Int)),(8,cI a20)]) (fun v28=>[((21,1),.arr 3 1 (List.map dV v28))]) ?_ ?_
  ·rintro v28 hF
   refine wB rfl ?_;exact cont_0 _ _ _ (oi hF) sw
  intro join hF
  refine c7 ?_;refine wE ?_;obtain⟨y29,hy29,hF⟩:=bB' hF
  refine rS (cY (tc:=cV) p0 rfl rfl hy29 ?_);refine QV rfl ?_;refine wC 3 rfl ?_;obtain⟨r30,hr30,hF⟩:=bB' hF
  refine rS (cq (F1 _ _ _ hr30) ⟨⟨_,rfl⟩,rfl,trivial⟩ rfl (.inl rfl) ?_);refine QV rfl ?_;refine tW hF rfl (fun _ hF=>?_) fun _ hF=>?_
  ·refine wD 3 rfl ?_;refine rS (AQ (tc:=dV) [y29.fId] rfl ⟨rfl,trivial⟩ rfl (fun _=>rfl) rfl ?_)
   obtain⟨h31,hF⟩:=LV hF
   refine rS (Ej (tc:=dV) a19 [y29.fId] rfl rfl (.own _ _ rfl) h31 rfl ?_);refine QV rfl ?_;exact join (a19++[y29.fId]) _ _ hF (vq (21,0) (21,1) rfl rfl sw)
  refine aJ ?_;exact join a19 _ _ hF sw
 refine dZ ?_;refine aQ ?_;refine aQ ?_;refine bj ?_;exact brk_0 _ _ _ (oi hF) sw
def x3(p0:cZ):Option Bool :=
  (((bif (decide (p0.fState=1))then some true else some (decide (p0.fState=2))):Option Bool).bind fun v1=>(((bif (decide (p0.fState<0))then some true else some (decide (5<p0.fState))):Option Bool).bind fun v2=>(bif v2 then some false else(((bif (decide (p0.fState=4))then(bif (decide (p0.fCpu<0))then some true else some (decide (64≤p0.fCpu)))else some false):Option Bool).bind fun v3=>(((bif v3 then some v3 else(bif (!decide (p0.fState=4))then some (!decide (p0.fCpu=(-1)))else some false)):Option Bool).bind fun v4=>(bif v4 then some false else(((bif (decide (p0.fState=2))then(bif (decide (p0.fOn<0))then some true else some (decide (1000000000000000<p0.fOn)))else some false):Option Bool).bind fun v5=>(((bif v5 then some v5 else(bif (!decide (p0.fState=2))then some (!decide (p0.fOn=(-1)))else some false)):Option Bool).bind fun v6=>(bif v6 then some false else(((bif (decide (p0.fBy=(-1)))then some true else(bif v1 then(bif (decide (0≤p0.fBy))then some (decide (p0.fBy≤1000000000000000))else some false)else some false)):Option Bool).bind fun v7=>some v7))))))))))
theorem VK(p0:cZ)(r:Bool)(hF:x3 p0=some r):Fun Tryz.prog 102 true [] [.agg (j2 p0)] noHeap (cB r) noHeap:=by
 refine fW Tryz.func102 ?_
 unfold x3 at hF
 refine wA rfl ?_;refine az ?_;refine cz (fun _ _ h=>h) hF (fun v1=>[(1,cP (1,0) 0),(3,cB v1)]) (fun v1=>[((1,0),.box (j2 p0))]) ?_ ?_
 ·rintro v1 hF
  refine az ?_;refine c7 ?_;refine az ?_;refine cz (fun _ _ h=>h) hF (fun v2=>[(1,cP (1,0) 0),(3,cB v1),(12,cB v2)]) (fun v2=>[((1,0),.box (j2 p0))]) ?_ ?_
  ·rintro v2 hF
   refine wIf hF rfl (fun _ hF=>?_) fun _ hF=>?_
   ·refine wA rfl ?_;cases hF
    exact bq wR
   refine az ?_;refine az ?_;refine cz (fun _ _ h=>h) hF (fun v3=>[(1,cP (1,0) 0),(3,cB v1),(21,cB v3)]) (fun v3=>[((1,0),.box (j2 p0))]) ?_ ?_
   ·rintro v3 hF
    refine cz (fun _ _ h=>h) hF (fun v4=>[(1,cP (1,0) 0),(3,cB v1),(21,cB v4)]) (fun v4=>[((1,0),.box (j2 p0))]) ?_ ?_
    ·rintro v4 hF
     refine wIf hF rfl (fun _ hF=>?_) fun _ hF=>?_
     ·refine wA rfl ?_;cases hF
      exact bq wR
     refine az ?_;refine az ?_;refine cz (fun _ _ h=>h) hF (fun v5=>[(1,cP (1,0) 0),(3,cB v1),(43,cB v5)]) (fun v5=>[((1,0),.box (j2 p0))]) ?_ ?_
     ·rintro v5 hF
      refine cz (fun _ _ h=>h) hF (fun v6=>[(1,cP (1,0) 0),(3,cB v1),(43,cB v6)]) (fun v6=>[((1,0),.box (j2 p0))]) ?_ ?_
      ·rintro v6 hF
       refine wIf hF rfl (fun _ hF=>?_) fun _ hF=>?_
       ·refine wA rfl ?_;cases hF
        exact bq wR
       refine aJ ?_;refine az ?_;refine cz (fun _ _ h=>h) hF (fun v7=>[(2,cB v7)]) (fun v7=>[]) ?_ ?_
       ·rintro v7 hF
        cases hF
        exact bq wR
       intro join hF
       refine wD 4 rfl ?_;cases h8:(decide (p0.fBy=(-1)))
       ·have hF:=bF' h8 hF;refine aX SV 2 rfl ?_;cases h9:v1
        ·have hF:=bF' h9 hF;refine QV rfl ?_;exact join false _ _ hF sw
        have hF:=bT' h9 hF;refine aX SV 5 rfl ?_;cases h10:(decide (0≤p0.fBy))
        ·have hF:=bF' h10 hF;refine QV rfl ?_;exact join false _ _ hF sw
        have hF:=bT' h10 hF;refine QV rfl ?_;exact join (decide (p0.fBy≤1000000000000000)) _ _ hF sw
       have hF:=bT' h8 hF;refine QV rfl ?_;exact join true _ _ hF sw
      intro join hF
      refine tW hF rfl (fun _ hF=>?_) fun _ hF=>?_
      ·refine aJ ?_;exact join v5 _ _ hF sw
      refine wD 4 rfl ?_;cases h12:(!decide (p0.fState=2))
      ·have hF:=bF' h12 hF;refine QV rfl ?_;exact join false _ _ hF sw
      have hF:=bT' h12 hF;refine QV rfl ?_;exact join (!decide (p0.fOn=(-1))) _ _ hF sw
     intro join hF
     refine wD 4 rfl ?_;cases h14:(decide (p0.fState=2))
     ·have hF:=bF' h14 hF;refine QV rfl ?_;exact join false _ _ hF sw
     have hF:=bT' h14 hF;refine aX SV 4 rfl ?_;cases h15:(decide (p0.fOn<0))
     ·have hF:=bF' h15 hF;refine QV rfl ?_;exact join (decide (1000000000000000<p0.fOn)) _ _ hF sw
     have hF:=bT' h15 hF;refine QV rfl ?_;exact join true _ _ hF sw
    intro join hF
    refine tW hF rfl (fun _ hF=>?_) fun _ hF=>?_
    ·refine aJ ?_;exact join v3 _ _ hF sw
    refine wD 4 rfl ?_;cases h17:(!decide (p0.fState=4))
    ·have hF:=bF' h17 hF;refine QV rfl ?_;exact join false _ _ hF sw
    have hF:=bT' h17 hF;refine QV rfl ?_;exact join (!decide (p0.fCpu=(-1))) _ _ hF sw
   intro join hF
   refine wD 4 rfl ?_;cases h19:(decide (p0.fState=4))
   ·have hF:=bF' h19 hF;refine QV rfl ?_;exact join false _ _ hF sw
   have hF:=bT' h19 hF;refine aX SV 4 rfl ?_;cases h20:(decide (p0.fCpu<0))
   ·have hF:=bF' h20 hF;refine QV rfl ?_;exact join (decide (64≤p0.fCpu)) _ _ hF sw
   have hF:=bT' h20 hF;refine QV rfl ?_;exact join true _ _ hF sw
  intro join hF
  refine wD 4 rfl ?_;cases h22:(decide (p0.fState<0))
  ·have hF:=bF' h22 hF;refine QV rfl ?_;exact join (decide (5<p0.fState)) _ _ hF sw
  have hF:=bT' h22 hF;refine QV rfl ?_;exact join true _ _ hF sw
 intro join hF
 refine wD 4 rfl ?_;cases h23:(decide (p0.fState=1))
 ·have hF:=bF' h23 hF;refine QV rfl ?_;exact join (decide (p0.fState=2)) _ _ hF sw
 have hF:=bT' h23 hF;refine QV rfl ?_;exact join true _ _ hF sw
def CZ(p0:cZ)(p1:cZ):Option Bool :=
  (((bif (decide (p0.fState=p1.fState))then(bif (decide (p0.fCpu=p1.fCpu))then some (decide (p0.fOn=p1.fOn))else some false)else some false):Option Bool).bind fun v1=>some v1)
theorem Z1(p0:cZ)(p1:cZ)(r:Bool)(hF:CZ p0 p1=some r):Fun Tryz.prog 103 true [] [.agg (j2 p0),.agg (j2 p1)] noHeap (cB r) noHeap:=by
 refine fW Tryz.func103 ?_
 unfold CZ at hF
 refine wA rfl ?_;refine az ?_;refine cz (fun _ _ h=>h) hF (fun v1=>[(4,cB v1)]) (fun v1=>[]) ?_ ?_
 ·rintro v1 hF
  cases hF
  exact bq wR
 intro join hF
 refine wD 6 rfl ?_;cases h2:(decide (p0.fState=p1.fState))
 ·have hF:=bF' h2 hF;refine QV rfl ?_;exact join false _ _ hF sw
 have hF:=bT' h2 hF;refine aX SV 7 rfl ?_;cases h3:(decide (p0.fCpu=p1.fCpu))
 ·have hF:=bF' h3 hF;refine QV rfl ?_;exact join false _ _ hF sw
 have hF:=bT' h3 hF;refine QV rfl ?_;exact join (decide (p0.fOn=p1.fOn)) _ _ hF sw
def A4(p1:(List cZ))(y68:cZ):Int→Option (Int ⊕ (Unit ⊕ Int)):=fun a88 =>
  (bif (decide (a88<(List.length p1:Int)))then((idx p1 a88).bind fun y98=>(((bif (decide ((w64 (a88+1))=(List.length p1:Int)))then some true else((idx p1 (w64 (a88+1))).bind fun y104=>some (!decide (y104.fThread=y98.fThread)))):Option Bool).bind fun v99=>(((bif v99 then some (!decide (y98.fSpan.fTo=y68.fSpan.fTo))else some false):Option Bool).bind fun v100=>(bif v100 then some (.inr (.inr 11))else some (.inl (w64 (a88+1)))))))else some (.inr (.inl ())))
def j7(p1:(List cZ))(r1:(List Int)):(Int×Int)→Option ((Int×Int) ⊕ (Int ⊕ Int)):=fun(a46,a47) =>
  (bif (decide (a47<(List.length p1:Int)))then((idx p1 a47).bind fun y107=>((d0 r1 y107.fThread).bind fun r108=>(bif (decide (r108<0))then some (.inr (.inr 5))else((lQ y107.fSpan).bind fun r109=>(bif (!r109)then some (.inr (.inr 2))else((x3 y107).bind fun r110=>(bif (!r110)then some (.inr (.inr 1))else(((bif (decide (r108=a46))then((idx p1 (w64 (a47-1))).bind fun y118=>(bif (!decide (y107.fSpan.fFrom=y118.fSpan.fTo))then some true else((idx p1 (w64 (a47-1))).bind fun y120=>((CZ y107 y120).bind fun r121=>some r121))))else some false):Option Bool).bind fun v111=>(bif v111 then some (.inr (.inr 11))else(((bif (!decide (r108=a46))then(bif (!decide (r108=(w64 (a46+1))))then some true else some (!decide (y107.fSpan.fFrom=0)))else some false):Option Bool).bind fun v112=>(bif v112 then some (.inr (.inr 11))else some (.inl (r108,(w64 (a47+1)))))))))))))))else some (.inr (.inl a46)))
def AJ(p0:(List dz))(p1:(List cZ)):Option Int :=
  ((p6 p0).bind fun r1=>((loop (j7 p1 r1) ((-1),0)).bind fun | .inl e67=>(bif (decide ((List.length p1:Int)=0))then some 0 else((idx p1 (w64 ((List.length p1:Int)-1))).bind fun y68=>((loop (A4 p1 y68) 0).bind fun | .inl _=>(bif (!decide ((w64 (e67+1))=(List.length r1:Int)))then some 11 else some 0) | .inr rv=>some rv))) | .inr rv=>some rv))
theorem X0(p0:(List dz))(p1:(List cZ))(r:Int)(hF:AJ p0 p1=some r):Fun Tryz.prog 52 true [] [cL 3 cV p0,cL 7 bz p1] noHeap (cI r) noHeap:=by
 refine fW Tryz.func52 ?_
 unfold AJ at hF
 refine wA rfl ?_;refine wC 1 rfl ?_;obtain⟨r1,hr1,hF⟩:=bB hF
 refine lq trivial (nY [((902,4000),(15,1))] rfl (zW _) (R2 _ _ hr1) trivial ⟨.inl rfl,trivial⟩ rfl rfl rfl ?_);refine QV rfl ?_;refine wA rfl ?_;refine az ?_;refine wC 1 rfl ?_
 refine rS (d3 (tc:=bz) p1 .tree ?_);refine QV rfl ?_;refine fQ (fun _ _ h=>h) hF (.inl) (fun(a46,a47)=>[(1,cL 7 bz p1),(5,cO (15,1)),(6,cI a46),(16,cL 7 bz p1),(17,cI (List.length p1:Int)),(18,cI a47)]) (fun(a46,a47)=>[((15,1),.arr 3 1 (List.map dV r1))]) (fun e67=>[(1,cL 7 bz p1),(5,cO (15,1)),(6,cI e67)]) (fun e67=>[((15,1),.arr 3 1 (List.map dV r1))]) sw ?_ ?_
 ·rintro e67 hF
  refine az ?_;refine wC 1 rfl ?_;refine rS (d3 (tc:=bz) p1 .tree ?_);refine QV rfl ?_;refine wIf hF rfl (fun _ hF=>?_) fun _ hF=>?_
  ·refine wA rfl ?_;cases hF
   exact bq wR
  refine aJ ?_;refine wC 2 rfl ?_;refine rS (d3 (tc:=bz) p1 .tree ?_);refine aX SV 1 rfl ?_;obtain⟨y68,hy68,hF⟩:=bB hF
  refine rS (cY (tc:=bz) p1 rfl rfl hy68 ?_);refine QV rfl ?_;refine az ?_;refine wC 1 rfl ?_;refine rS (d3 (tc:=bz) p1 .tree ?_);refine QV rfl ?_;refine fQ (fun _ _ h=>h) hF (.inl) (fun a88=>[(1,cL 7 bz p1),(5,cO (15,1)),(6,cI e67),(10,cI y68.fSpan.fTo),(94,cL 7 bz p1),(95,cI (List.length p1:Int)),(96,cI a88)]) (fun a88=>[((15,1),.arr 3 1 (List.map dV r1))]) (fun _=>[(5,cO (15,1)),(6,cI e67)]) (fun _=>[((15,1),.arr 3 1 (List.map dV r1))]) sw ?_ ?_
  ·rintro⟨⟩ hF
   refine az ?_;refine wC 3 rfl ?_;refine rS (d3 (tc:=dV) r1 (.own _ _ rfl) ?_);refine QV rfl ?_;refine wIf hF rfl (fun _ hF=>?_) fun _ hF=>?_
   ·refine wA rfl ?_;cases hF
    exact bq wR
   refine aJ ?_;refine wA rfl ?_;cases hF
   exact bq wR
  rintro a88 x_0 hF cont_0 brk_0 fin_0
  unfold A4 at hF
  refine wA rfl ?_;refine az ?_;refine wIf hF rfl (fun _ hF=>?_) fun _ hF=>?_
  ·refine aJ ?_;refine az ?_;refine c7 ?_;refine wC 1 rfl ?_;obtain⟨y98,hy98,hF⟩:=bB hF
   refine rS (cY (tc:=bz) p1 rfl rfl hy98 ?_);refine QV rfl ?_;refine az ?_;refine cz (fun _ _ h=>h) hF (fun v99=>[(1,cL 7 bz p1),(5,cO (15,1)),(6,cI e67),(10,cI y68.fSpan.fTo),(12,cP (12,0) 0),(13,cB v99),(94,cL 7 bz p1),(95,cI (List.length p1:Int)),(96,cI a88)]) (fun v99=>[((15,1),.arr 3 1 (List.map dV r1)),((12,0),.box (j2 y98))]) ?_ ?_
   ·rintro v99 hF
    refine az ?_;refine cz (fun _ _ h=>h) hF (fun v100=>[(1,cL 7 bz p1),(5,cO (15,1)),(6,cI e67),(10,cI y68.fSpan.fTo),(94,cL 7 bz p1),(95,cI (List.length p1:Int)),(96,cI a88),(124,cB v100)]) (fun v100=>[((15,1),.arr 3 1 (List.map dV r1))]) ?_ ?_
    ·rintro v100 hF
     refine wIf hF rfl (fun _ hF=>?_) fun _ hF=>?_
     ·refine wA rfl ?_;have hF:=fin_0 _ (oi hF);cases hF
      exact bq wR
     refine aJ ?_;refine wB rfl ?_;exact cont_0 _ _ _ (oi hF) sw
    intro join hF
    refine wD 2 rfl ?_;cases h102:v99
    ·have hF:=bF' h102 hF;refine QV rfl ?_;exact join false _ _ hF sw
    have hF:=bT' h102 hF;refine QV rfl ?_;exact join (!decide (y98.fSpan.fTo=y68.fSpan.fTo)) _ _ hF sw
   intro join hF
   refine hZ (by decide) (by kernel_rfl) rfl ?_;refine aX SP 3 rfl ?_;refine aV SP trivial (d3 (tc:=bz) p1 .tree ?_);refine aX SP 2 rfl ?_;cases h103:(decide ((w64 (a88+1))=(List.length p1:Int)))
   ·have hF:=bF' h103 hF;refine aX SP 3 rfl ?_;obtain⟨y104,hy104,hF⟩:=bB' hF
    refine aV SP rfl (cY (tc:=bz) p1 rfl rfl hy104 ?_);refine QP rfl ?_;exact join (!decide (y104.fThread=y98.fThread)) _ _ hF sw
   have hF:=bT' h103 hF;refine QP rfl ?_;exact join true _ _ hF sw
  refine dZ ?_;refine aQ ?_;refine aQ ?_;refine bj ?_;exact brk_0 _ _ _ (oi hF) sw
 rintro⟨a46,a47⟩ x_0 hF cont_0 brk_0 fin_0
 unfold j7 at hF
 refine wA rfl ?_;refine az ?_;refine wIf hF rfl (fun _ hF=>?_) fun _ hF=>?_
 ·refine aJ ?_;refine az ?_;refine c7 ?_;refine wC 1 rfl ?_;obtain⟨y107,hy107,hF⟩:=bB hF
  refine rS (cY (tc:=bz) p1 rfl rfl hy107 ?_);refine QV rfl ?_;refine wC 3 rfl ?_;obtain⟨r108,hr108,hF⟩:=bB hF
  refine rS (cq (BY _ _ _ hr108) ⟨⟨_,rfl⟩,rfl,trivial⟩ rfl (.inl rfl) ?_);refine QV rfl ?_;refine az ?_;refine c7 ?_;refine wA rfl ?_;refine wIf hF rfl (fun _ hF=>?_) fun _ hF=>?_
  ·refine wA rfl ?_;have hF:=fin_0 _ (oi hF);cases hF
   exact bq wR
  refine wC 2 rfl ?_;obtain⟨r109,hr109,hF⟩:=bB hF
  refine rS (cq (x9 _ _ hr109) ⟨⟨rfl,rfl,trivial⟩,trivial⟩ rfl (.inl rfl) ?_);refine QV rfl ?_;refine wIf hF rfl (fun _ hF=>?_) fun _ hF=>?_
  ·refine wA rfl ?_;have hF:=fin_0 _ (oi hF);cases hF
   exact bq wR
  refine wC 1 rfl ?_;obtain⟨r110,hr110,hF⟩:=bB hF
  refine rS (cq (VK _ _ hr110) ⟨⟨rfl,rfl,rfl,rfl,rfl,rfl,rfl,trivial⟩,trivial⟩ rfl (.inl rfl) ?_);refine QV rfl ?_;refine wIf hF rfl (fun _ hF=>?_) fun _ hF=>?_
  ·refine wA rfl ?_;have hF:=fin_0 _ (oi hF);cases hF
   exact bq wR
  refine az ?_;refine cz (fun _ _ h=>h) hF (fun v111=>[(1,cL 7 bz p1),(5,cO (15,1)),(6,cI a46),(8,cP (8,0) 0),(9,cI r108),(16,cL 7 bz p1),(17,cI (List.length p1:Int)),(18,cI a47),(39,cB v111)]) (fun v111=>[((15,1),.arr 3 1 (List.map dV r1)),((8,0),.box (j2 y107))]) ?_ ?_
  ·rintro v111 hF
   refine wIf hF rfl (fun _ hF=>?_) fun _ hF=>?_
   ·refine wA rfl ?_;have hF:=fin_0 _ (oi hF);cases hF
    exact bq wR
   refine az ?_;refine cz (fun _ _ h=>h) hF (fun v112=>[(1,cL 7 bz p1),(5,cO (15,1)),(9,cI r108),(16,cL 7 bz p1),(17,cI (List.length p1:Int)),(18,cI a47),(65,cB v112)]) (fun v112=>[((15,1),.arr 3 1 (List.map dV r1))]) ?_ ?_
   ·rintro v112 hF
    refine wIf hF rfl (fun _ hF=>?_) fun _ hF=>?_
    ·refine wA rfl ?_;have hF:=fin_0 _ (oi hF);cases hF
     exact bq wR
    refine aJ ?_;refine wB rfl ?_;refine wB rfl ?_;exact cont_0 _ _ _ (oi hF) sw
   intro join hF
   refine wD 4 rfl ?_;cases h114:(!decide (r108=a46))
   ·have hF:=bF' h114 hF;refine QV rfl ?_;exact join false _ _ hF sw
   have hF:=bT' h114 hF;refine aX SV 5 rfl ?_;cases h115:(!decide (r108=(w64 (a46+1))))
   ·have hF:=bF' h115 hF;refine QV rfl ?_;exact join (!decide (y107.fSpan.fFrom=0)) _ _ hF sw
   have hF:=bT' h115 hF;refine QV rfl ?_;exact join true _ _ hF sw
  intro join hF
  refine hZ (by decide) (by kernel_rfl) rfl ?_;refine aX SP 4 rfl ?_;cases h117:(decide (r108=a46))
  ·have hF:=bF' h117 hF;refine QP rfl ?_;exact join false _ _ hF sw
  have hF:=bT' h117 hF;refine aX SP 6 rfl ?_;obtain⟨y118,hy118,hF⟩:=bB' hF
  refine aV SP rfl (cY (tc:=bz) p1 rfl rfl hy118 ?_);refine aX SP 5 rfl ?_;cases h119:(!decide (y107.fSpan.fFrom=y118.fSpan.fTo))
  ·have hF:=bF' h119 hF;refine aX SP 4 rfl ?_;obtain⟨y120,hy120,hF⟩:=bB' hF
   refine aV SP rfl (cY (tc:=bz) p1 rfl rfl hy120 ?_);refine aX SP 1 rfl ?_;obtain⟨r121,hr121,hF⟩:=bB' hF
   refine aV SP rfl (cq (Z1 _ _ _ hr121) ⟨⟨rfl,rfl,rfl,rfl,rfl,rfl,rfl,trivial⟩,⟨rfl,rfl,rfl,rfl,rfl,rfl,rfl,trivial⟩,trivial⟩ rfl (.inl rfl) ?_);refine QP rfl ?_;exact join r121 _ _ hF sw
  have hF:=bT' h119 hF;refine QP rfl ?_;exact join true _ _ hF sw
 refine dZ ?_;refine aQ ?_;refine aQ ?_;refine bj ?_;exact brk_0 _ _ _ (oi hF) sw
def wV(p0:Int)(p1:Int):Option Bool :=
  (((bif (decide (p0<0))then some true else some (decide (p1<p0))):Option Bool).bind fun v1=>some v1)
theorem x5(p0:Int)(p1:Int)(r:Bool)(hF:wV p0 p1=some r):Fun Tryz.prog 104 true [] [cI p0,cI p1] noHeap (cB r) noHeap:=by
 refine fW Tryz.func104 ?_
 unfold wV at hF
 refine wA rfl ?_;refine az ?_;refine cz (fun _ _ h=>h) hF (fun v1=>[(4,cB v1)]) (fun v1=>[]) ?_ ?_
 ·rintro v1 hF
  cases hF
  exact bq wR
 intro join hF
 refine wD 3 rfl ?_;cases h2:(decide (p0<0))
 ·have hF:=bF' h2 hF;refine QV rfl ?_;exact join (decide (p1<p0)) _ _ hF sw
 have hF:=bT' h2 hF;refine QV rfl ?_;exact join true _ _ hF sw
def BK(p0:(List fX)):Int→Option (Int ⊕ (Unit ⊕ Int)):=fun a48 =>
  (bif (decide (a48<(List.length p0:Int)))then((idx p0 a48).bind fun y71=>((wV y71.fId 1000000000000000).bind fun r72=>(((bif r72 then some r72 else((wV y71.fFrom.fThread 1000000000000000).bind fun r80=>(bif r80 then some r80 else((wV y71.fFrom.fSerial 1000000000000000).bind fun r81=>(bif r81 then some r81 else((wV y71.fTo.fThread 1000000000000000).bind fun r82=>(bif r82 then some r82 else((wV y71.fTo.fSerial 1000000000000000).bind fun r83=>(bif r83 then some r83 else((wV y71.fSend 1000000000000).bind fun r84=>(bif r84 then some r84 else((wV y71.fRecv 1000000000000).bind fun r85=>some r85)))))))))))):Option Bool).bind fun v73=>(bif v73 then some (.inr (.inr 2))else(((bif (decide (y71.fRecv<y71.fSend))then some (decide (y71.fRecv<y71.fSend))else(bif (decide (0<a48))then((idx p0 (w64 (a48-1))).bind fun y77=>some (decide (y71.fRecv<y77.fRecv)))else some false)):Option Bool).bind fun v74=>(bif v74 then some (.inr (.inr 11))else some (.inl (w64 (a48+1)))))))))else some (.inr (.inl ())))
def CJ(p0:(List fX)):Option Int :=
  ((loop (BK p0) 0).bind fun | .inl _=>some 0 | .inr rv=>some rv)
theorem abK(p0:(List fX))(r:Int)(hF:CJ p0=some r):Fun Tryz.prog 54 true [] [cL 7 d5 p0] noHeap (cI r) noHeap:=by
 refine fW Tryz.func54 ?_
 unfold CJ at hF
 refine wA rfl ?_;refine az ?_;refine wC 1 rfl ?_;refine rS (d3 (tc:=d5) p0 .tree ?_);refine QV rfl ?_;refine fQ (fun _ _ h=>h) hF (.inl) (fun a48=>[(0,cL 7 d5 p0),(5,cL 7 d5 p0),(6,cI (List.length p0:Int)),(7,cI a48)]) (fun a48=>[]) (fun _=>[]) (fun _=>[]) sw ?_ ?_
 ·rintro⟨⟩ hF
  refine wA rfl ?_;cases hF
  exact bq wR
 rintro a48 x_0 hF cont_0 brk_0 fin_0
 unfold BK at hF
 refine wA rfl ?_;refine az ?_;refine wIf hF rfl (fun _ hF=>?_) fun _ hF=>?_
 ·refine aJ ?_;refine az ?_;refine c7 ?_;refine wC 1 rfl ?_;obtain⟨y71,hy71,hF⟩:=bB hF
  refine rS (cY (tc:=d5) p0 rfl rfl hy71 ?_);refine QV rfl ?_;refine c7 ?_;refine az ?_;refine wC 2 rfl ?_;obtain⟨r72,hr72,hF⟩:=bB hF
  refine rS (cq (x5 _ _ _ hr72) ⟨rfl,rfl,trivial⟩ rfl (.inl rfl) ?_);refine QV rfl ?_;refine cz (fun _ _ h=>h) hF (fun v73=>[(0,cL 7 d5 p0),(3,cI a48),(4,cP (4,0) 0),(5,cL 7 d5 p0),(6,cI (List.length p0:Int)),(7,cI a48),(12,cB v73)]) (fun v73=>[((4,0),.box (HV y71))]) ?_ ?_
  ·rintro v73 hF
   refine wIf hF rfl (fun _ hF=>?_) fun _ hF=>?_
   ·refine wA rfl ?_;have hF:=fin_0 _ (oi hF);cases hF
    exact bq wR
   refine az ?_;refine wA rfl ?_;refine cz (fun _ _ h=>h) hF (fun v74=>[(0,cL 7 d5 p0),(5,cL 7 d5 p0),(6,cI (List.length p0:Int)),(7,cI a48),(38,cB v74)]) (fun v74=>[]) ?_ ?_
   ·rintro v74 hF
    refine wIf hF rfl (fun _ hF=>?_) fun _ hF=>?_
    ·refine wA rfl ?_;have hF:=fin_0 _ (oi hF);cases hF
     exact bq wR
    refine aJ ?_;refine wB rfl ?_;exact cont_0 _ _ _ (oi hF) sw
   intro join hF
   refine tW hF rfl (fun _ hF=>?_) fun _ hF=>?_
   ·refine aJ ?_;exact join (decide (y71.fRecv<y71.fSend)) _ _ hF sw
   refine hZ (by decide) (by kernel_rfl) rfl ?_;refine aX SP 3 rfl ?_;cases h76:(decide (0<a48))
   ·have hF:=bF' h76 hF;refine QP rfl ?_;exact join false _ _ hF sw
   have hF:=bT' h76 hF;refine aX SP 5 rfl ?_;obtain⟨y77,hy77,hF⟩:=bB' hF
   refine aV SP rfl (cY (tc:=d5) p0 rfl rfl hy77 ?_);refine QP rfl ?_;exact join (decide (y71.fRecv<y77.fRecv)) _ _ hF sw
  intro join hF
  refine tW hF rfl (fun _ hF=>?_) fun _ hF=>?_
  ·refine aJ ?_;exact join r72 _ _ hF sw
  refine wC 3 rfl ?_;obtain⟨r80,hr80,hF⟩:=bB' hF
  refine rS (cq (x5 _ _ _ hr80) ⟨rfl,rfl,trivial⟩ rfl (.inl rfl) ?_);refine QV rfl ?_;refine tW hF rfl (fun _ hF=>?_) fun _ hF=>?_
  ·refine aJ ?_;exact join r80 _ _ hF sw
  refine wC 3 rfl ?_;obtain⟨r81,hr81,hF⟩:=bB' hF
  refine rS (cq (x5 _ _ _ hr81) ⟨rfl,rfl,trivial⟩ rfl (.inl rfl) ?_);refine QV rfl ?_;refine tW hF rfl (fun _ hF=>?_) fun _ hF=>?_
  ·refine aJ ?_;exact join r81 _ _ hF sw
  refine wC 3 rfl ?_;obtain⟨r82,hr82,hF⟩:=bB' hF
  refine rS (cq (x5 _ _ _ hr82) ⟨rfl,rfl,trivial⟩ rfl (.inl rfl) ?_);refine QV rfl ?_;refine tW hF rfl (fun _ hF=>?_) fun _ hF=>?_
  ·refine aJ ?_;exact join r82 _ _ hF sw
  refine wC 3 rfl ?_;obtain⟨r83,hr83,hF⟩:=bB' hF
  refine rS (cq (x5 _ _ _ hr83) ⟨rfl,rfl,trivial⟩ rfl (.inl rfl) ?_);refine QV rfl ?_;refine tW hF rfl (fun _ hF=>?_) fun _ hF=>?_
  ·refine aJ ?_;exact join r83 _ _ hF sw
  refine wC 2 rfl ?_;obtain⟨r84,hr84,hF⟩:=bB' hF
  refine rS (cq (x5 _ _ _ hr84) ⟨rfl,rfl,trivial⟩ rfl (.inl rfl) ?_);refine QV rfl ?_;refine tW hF rfl (fun _ hF=>?_) fun _ hF=>?_
  ·refine aJ ?_;exact join r84 _ _ hF sw
  refine wD 2 rfl ?_;obtain⟨r85,hr85,hF⟩:=bB' hF
  refine rS (cq (x5 _ _ _ hr85) ⟨rfl,rfl,trivial⟩ rfl (.inl rfl) ?_);refine QV rfl ?_;exact join r85 _ _ hF sw
 refine dZ ?_;refine aQ ?_;refine aQ ?_;refine bj ?_;exact brk_0 _ _ _ (oi hF) sw
def A6(p0:fX):Option Int :=
  some p0.fFrom.fThread
theorem Rx(p0:fX)(r:Int)(hF:A6 p0=some r):Fun Tryz.prog 55 true [] [.agg (HV p0)] noHeap (cI r) noHeap:=by
 refine fW Tryz.func55 ?_
 unfold A6 at hF
 refine wA rfl ?_;refine wA rfl ?_;cases hF
 exact bq wR
def lJ(p1:(List (Int×ByteArray)))(p2:(List fX)):Int→Option (Int ⊕ (Unit ⊕ Int)):=fun a12 =>
  (bif (decide (a12<(List.length p2:Int)))then((idx p2 a12).bind fun y17=>((A6 y17).bind fun r18=>(bif (!(Option.isSome (D3 r18 p1)))then some (.inr (.inr 5))else some (.inl (w64 (a12+1))))))else some (.inr (.inl ())))
def jK(p0:Int)(p1:(List (Int×ByteArray)))(p2:(List fX)):Option Int :=
  (bif (!decide (p0=0))then some p0 else((loop (lJ p1 p2) 0).bind fun | .inl _=>some 0 | .inr rv=>some rv))
theorem GQ(p0:Int)(p1:(List (Int×ByteArray)))(p2:(List fX))(r:Int)(hF:jK p0 p1 p2=some r):Fun Tryz.prog 53 false [(3120,0)] [cI p0,cM (3120,0),cL 7 d5 p2,.c (.fn 55 [])] (aZ [((3120,0),rY (.int .i64) kvI vvS p1)]) (cI r) (aZ [((3120,0),rY (.int .i64) kvI vvS p1)]):=by
 refine fM [(3120,0)] (some [(3120,0)]) Tryz.func53 ?_
 unfold jK at hF
 refine wA rfl ?_;refine az ?_;refine wA rfl ?_;refine wIf hF rfl (fun _ hF=>?_) fun _ hF=>?_
 ·refine wA rfl ?_;cases hF
  exact bq ⟨_,_,fq,_,rfl,rfl,⟨rfl,fun _=>rfl⟩,(AgM.weak ⟨rfl,trivial⟩)⟩
 refine aJ ?_;refine az ?_;refine wC 1 rfl ?_;refine rS (d3 (tc:=d5) p2 .tree ?_);refine QV rfl ?_;refine fQ (fun _ _ h=>h) hF (.inl) (fun a12=>[(1,cM (3120,0)),(3,.c (.fn 55 [])),(16,cL 7 d5 p2),(17,cI (List.length p2:Int)),(18,cI a12)]) (fun a12=>[((3120,0),rY (.int .i64) kvI vvS p1)]) (fun _=>[]) (fun _=>[((3120,0),rY (.int .i64) kvI vvS p1)]) sw ?_ ?_
 ·rintro⟨⟩ hF
  refine wA rfl ?_;cases hF
  exact bq ⟨_,_,fq,_,rfl,rfl,⟨rfl,fun _=>rfl⟩,(AgM.weak ⟨rfl,trivial⟩)⟩
 rintro a12 x_0 hF cont_0 brk_0 fin_0
 unfold lJ at hF
 refine wA rfl ?_;refine az ?_;refine wIf hF rfl (fun _ hF=>?_) fun _ hF=>?_
 ·refine aJ ?_;refine az ?_;refine c7 ?_;refine wE ?_;obtain⟨y17,hy17,hF⟩:=bB hF
  refine rS (cY (tc:=d5) p2 rfl rfl hy17 ?_);refine QV rfl ?_;refine wC 3 rfl ?_;obtain⟨r18,hr18,hF⟩:=bB hF
  refine lq trivial (HJ (N5 _ rfl aYQ) (Rx _ _ hr18) ⟨⟨rfl,rfl,rfl,rfl,rfl,rfl,rfl,trivial⟩,trivial⟩ rfl (.inl rfl) ?_);refine rS (Hx (anY .i64) (vv:=vvS) p1 r18 (⟨#[]⟩ : ByteArray) (.own _ rfl) rfl rfl ?_)
  refine QV rfl ?_;refine wA rfl ?_;refine wIf hF rfl (fun _ hF=>?_) fun _ hF=>?_
  ·refine wA rfl ?_;have hF:=fin_0 _ (oi hF);cases hF
   exact bq ⟨_,_,fq,_,rfl,rfl,⟨rfl,fun _=>rfl⟩,(AgM.weak ⟨rfl,trivial⟩)⟩
  refine aJ ?_;refine wB rfl ?_;exact cont_0 _ _ _ (oi hF) sw
 refine dZ ?_;refine aQ ?_;refine aQ ?_;refine bj ?_;exact brk_0 _ _ _ (oi hF) sw
def AK(p0:fX):Option Int :=
  some p0.fTo.fThread
theorem Q9(p0:fX)(r:Int)(hF:AK p0=some r):Fun Tryz.prog 56 true [] [.agg (HV p0)] noHeap (cI r) noHeap:=by
 refine fW Tryz.func56 ?_
 unfold AK at hF
 refine wA rfl ?_;refine wA rfl ?_;cases hF
 exact bq wR
def lV(p1:(List (Int×ByteArray)))(p2:(List fX)):Int→Option (Int ⊕ (Unit ⊕ Int)):=fun a12 =>
  (bif (decide (a12<(List.length p2:Int)))then((idx p2 a12).bind fun y17=>((AK y17).bind fun r18=>(bif (!(Option.isSome (D3 r18 p1)))then some (.inr (.inr 5))else some (.inl (w64 (a12+1))))))else some (.inr (.inl ())))
def jW(p0:Int)(p1:(List (Int×ByteArray)))(p2:(List fX)):Option Int :=
  (bif (!decide (p0=0))then some p0 else((loop (lV p1 p2) 0).bind fun | .inl _=>some 0 | .inr rv=>some rv))
theorem GZ(p0:Int)(p1:(List (Int×ByteArray)))(p2:(List fX))(r:Int)(hF:jW p0 p1 p2=some r):Fun Tryz.prog 53 false [(3120,0)] [cI p0,cM (3120,0),cL 7 d5 p2,.c (.fn 56 [])] (aZ [((3120,0),rY (.int .i64) kvI vvS p1)]) (cI r) (aZ [((3120,0),rY (.int .i64) kvI vvS p1)]):=by
 refine fM [(3120,0)] (some [(3120,0)]) Tryz.func53 ?_
 unfold jW at hF
 refine wA rfl ?_;refine az ?_;refine wA rfl ?_;refine wIf hF rfl (fun _ hF=>?_) fun _ hF=>?_
 ·refine wA rfl ?_;cases hF
  exact bq ⟨_,_,fq,_,rfl,rfl,⟨rfl,fun _=>rfl⟩,(AgM.weak ⟨rfl,trivial⟩)⟩
 refine aJ ?_;refine az ?_;refine wC 1 rfl ?_;refine rS (d3 (tc:=d5) p2 .tree ?_);refine QV rfl ?_;refine fQ (fun _ _ h=>h) hF (.inl) (fun a12=>[(1,cM (3120,0)),(3,.c (.fn 56 [])),(16,cL 7 d5 p2),(17,cI (List.length p2:Int)),(18,cI a12)]) (fun a12=>[((3120,0),rY (.int .i64) kvI vvS p1)]) (fun _=>[]) (fun _=>[((3120,0),rY (.int .i64) kvI vvS p1)]) sw ?_ ?_
 ·rintro⟨⟩ hF
  refine wA rfl ?_;cases hF
  exact bq ⟨_,_,fq,_,rfl,rfl,⟨rfl,fun _=>rfl⟩,(AgM.weak ⟨rfl,trivial⟩)⟩
 rintro a12 x_0 hF cont_0 brk_0 fin_0
 unfold lV at hF
 refine wA rfl ?_;refine az ?_;refine wIf hF rfl (fun _ hF=>?_) fun _ hF=>?_
 ·refine aJ ?_;refine az ?_;refine c7 ?_;refine wE ?_;obtain⟨y17,hy17,hF⟩:=bB hF
  refine rS (cY (tc:=d5) p2 rfl rfl hy17 ?_);refine QV rfl ?_;refine wC 3 rfl ?_;obtain⟨r18,hr18,hF⟩:=bB hF
  refine lq trivial (HJ (N5 _ rfl aZZ) (Q9 _ _ hr18) ⟨⟨rfl,rfl,rfl,rfl,rfl,rfl,rfl,trivial⟩,trivial⟩ rfl (.inl rfl) ?_);refine rS (Hx (anY .i64) (vv:=vvS) p1 r18 (⟨#[]⟩ : ByteArray) (.own _ rfl) rfl rfl ?_)
  refine QV rfl ?_;refine wA rfl ?_;refine wIf hF rfl (fun _ hF=>?_) fun _ hF=>?_
  ·refine wA rfl ?_;have hF:=fin_0 _ (oi hF);cases hF
   exact bq ⟨_,_,fq,_,rfl,rfl,⟨rfl,fun _=>rfl⟩,(AgM.weak ⟨rfl,trivial⟩)⟩
  refine aJ ?_;refine wB rfl ?_;exact cont_0 _ _ _ (oi hF) sw
 refine dZ ?_;refine aQ ?_;refine aQ ?_;refine bj ?_;exact brk_0 _ _ _ (oi hF) sw
def E6(p0:eY):Option Bool :=
  (((bif (decide (0≤p0.fThread))then(bif (decide (p0.fThread≤1000000000000000))then(bif (decide (0≤p0.fAt))then(bif (decide (p0.fAt≤1000000000000))then(bif (decide (1≤p0.fWeight))then some (decide (p0.fWeight≤1000000000000))else some false)else some false)else some false)else some false)else some false):Option Bool).bind fun v1=>some v1)
theorem X3(p0:eY)(r:Bool)(hF:E6 p0=some r):Fun Tryz.prog 105 true [] [.agg (GJ p0)] noHeap (cB r) noHeap:=by
 refine fW Tryz.func105 ?_
 unfold E6 at hF
 refine wA rfl ?_;refine az ?_;refine cz (fun _ _ h=>h) hF (fun v1=>[(2,cB v1)]) (fun v1=>[]) ?_ ?_
 ·rintro v1 hF
  cases hF
  exact bq wR
 intro join hF
 refine wD 4 rfl ?_;cases h2:(decide (0≤p0.fThread))
 ·have hF:=bF' h2 hF;refine QV rfl ?_;exact join false _ _ hF sw
 have hF:=bT' h2 hF;refine aX SV 5 rfl ?_;cases h3:(decide (p0.fThread≤1000000000000000))
 ·have hF:=bF' h3 hF;refine QV rfl ?_;exact join false _ _ hF sw
 have hF:=bT' h3 hF;refine aX SV 5 rfl ?_;cases h4:(decide (0≤p0.fAt))
 ·have hF:=bF' h4 hF;refine QV rfl ?_;exact join false _ _ hF sw
 have hF:=bT' h4 hF;refine aX SV 5 rfl ?_;cases h5:(decide (p0.fAt≤1000000000000))
 ·have hF:=bF' h5 hF;refine QV rfl ?_;exact join false _ _ hF sw
 have hF:=bT' h5 hF;refine aX SV 5 rfl ?_;cases h6:(decide (1≤p0.fWeight))
 ·have hF:=bF' h6 hF;refine QV rfl ?_;exact join false _ _ hF sw
 have hF:=bT' h6 hF;refine QV rfl ?_;exact join (decide (p0.fWeight≤1000000000000)) _ _ hF sw
def wx(p0:(List ByteArray)):Int→Option (Int ⊕ (Unit ⊕ Int)):=fun a12 =>
  (bif (decide (a12<(List.length p0:Int)))then((idx p0 a12).bind fun y17=>((nJ y17).bind fun r18=>(bif (!decide (r18=0))then some (.inr (.inr r18))else some (.inl (w64 (a12+1))))))else some (.inr (.inl ())))
def sY(p0:(List ByteArray)):Option Int :=
  (bif (decide (32<(List.length p0:Int)))then some 7 else((loop (wx p0) 0).bind fun | .inl _=>some 0 | .inr rv=>some rv))
theorem I6(p0:(List ByteArray))(r:Int)(hF:sY p0=some r):Fun Tryz.prog 106 true [] [cL 1 iJ p0] noHeap (cI r) noHeap:=by
 refine fW Tryz.func106 ?_
 unfold sY at hF
 refine wA rfl ?_;refine az ?_;refine wC 1 rfl ?_;refine rS (d3 (tc:=iJ) p0 .tree ?_);refine QV rfl ?_;refine wIf hF rfl (fun _ hF=>?_) fun _ hF=>?_
 ·refine wA rfl ?_;cases hF
  exact bq wR
 refine aJ ?_;refine az ?_;refine wC 1 rfl ?_;refine rS (d3 (tc:=iJ) p0 .tree ?_);refine QV rfl ?_;refine fQ (fun _ _ h=>h) hF (.inl) (fun a12=>[(9,cL 1 iJ p0),(10,cI (List.length p0:Int)),(11,cI a12)]) (fun a12=>[]) (fun _=>[]) (fun _=>[]) sw ?_ ?_
 ·rintro⟨⟩ hF
  refine wA rfl ?_;cases hF
  exact bq wR
 rintro a12 x_0 hF cont_0 brk_0 fin_0
 unfold wx at hF
 refine wA rfl ?_;refine az ?_;refine wIf hF rfl (fun _ hF=>?_) fun _ hF=>?_
 ·refine aJ ?_;refine az ?_;refine c7 ?_;refine wE ?_;obtain⟨y17,hy17,hF⟩:=bB hF
  refine rS (cY (tc:=iJ) p0 rfl rfl hy17 ?_);refine QV rfl ?_;refine wC 1 rfl ?_;obtain⟨r18,hr18,hF⟩:=bB hF
  refine rS (cq (Cj _ _ hr18) ⟨rfl,trivial⟩ rfl (.inl rfl) ?_);refine QV rfl ?_;refine wA rfl ?_;refine wIf hF rfl (fun _ hF=>?_) fun _ hF=>?_
  ·refine wA rfl ?_;have hF:=fin_0 _ (oi hF);cases hF
   exact bq wR
  refine aJ ?_;refine wB rfl ?_;exact cont_0 _ _ _ (oi hF) sw
 refine dZ ?_;refine aQ ?_;refine aQ ?_;refine bj ?_;exact brk_0 _ _ _ (oi hF) sw
def yz(p0:(List eY)):Int→Option (Int ⊕ (Unit ⊕ Int)):=fun a24 =>
  (bif (decide (a24<(List.length p0:Int)))then((idx p0 a24).bind fun y35=>((E6 y35).bind fun r36=>(bif (!r36)then some (.inr (.inr 2))else((sY y35.fStack).bind fun r37=>(bif (!decide (r37=0))then some (.inr (.inr r37))else(((bif (decide (0<a24))then((idx p0 (w64 (a24-1))).bind fun y41=>some (decide (y35.fAt<y41.fAt)))else some false):Option Bool).bind fun v38=>(bif v38 then some (.inr (.inr 11))else some (.inl (w64 (a24+1))))))))))else some (.inr (.inl ())))
def xZ(p0:(List eY)):Option Int :=
  ((loop (yz p0) 0).bind fun | .inl _=>some 0 | .inr rv=>some rv)
theorem V8(p0:(List eY))(r:Int)(hF:xZ p0=some r):Fun Tryz.prog 58 true [] [cL 4 dY p0] noHeap (cI r) noHeap:=by
 refine fW Tryz.func58 ?_
 unfold xZ at hF
 refine wA rfl ?_;refine az ?_;refine wC 1 rfl ?_;refine rS (d3 (tc:=dY) p0 .tree ?_);refine QV rfl ?_;refine fQ (fun _ _ h=>h) hF (.inl) (fun a24=>[(0,cL 4 dY p0),(6,cL 4 dY p0),(7,cI (List.length p0:Int)),(8,cI a24)]) (fun a24=>[]) (fun _=>[]) (fun _=>[]) sw ?_ ?_
 ·rintro⟨⟩ hF
  refine wA rfl ?_;cases hF
  exact bq wR
 rintro a24 x_0 hF cont_0 brk_0 fin_0
 unfold yz at hF
 refine wA rfl ?_;refine az ?_;refine wIf hF rfl (fun _ hF=>?_) fun _ hF=>?_
 ·refine aJ ?_;refine az ?_;refine c7 ?_;refine wC 1 rfl ?_;obtain⟨y35,hy35,hF⟩:=bB hF
  refine rS (cY (tc:=dY) p0 rfl rfl hy35 ?_);refine QV rfl ?_;refine az ?_;refine wC 1 rfl ?_;obtain⟨r36,hr36,hF⟩:=bB hF
  refine rS (cq (X3 _ _ hr36) ⟨⟨rfl,rfl,rfl,rfl,trivial⟩,trivial⟩ rfl (.inl rfl) ?_);refine QV rfl ?_;refine wIf hF rfl (fun _ hF=>?_) fun _ hF=>?_
  ·refine wA rfl ?_;have hF:=fin_0 _ (oi hF);cases hF
   exact bq wR
  refine aJ ?_;refine az ?_;refine wC 2 rfl ?_;obtain⟨r37,hr37,hF⟩:=bB hF
  refine rS (cq (I6 _ _ hr37) ⟨rfl,trivial⟩ rfl (.inl rfl) ?_);refine QV rfl ?_;refine wA rfl ?_;refine wIf hF rfl (fun _ hF=>?_) fun _ hF=>?_
  ·refine wA rfl ?_;have hF:=fin_0 _ (oi hF);cases hF
   exact bq wR
  refine aJ ?_;refine az ?_;refine cz (fun _ _ h=>h) hF (fun v38=>[(0,cL 4 dY p0),(6,cL 4 dY p0),(7,cI (List.length p0:Int)),(8,cI a24),(34,cB v38)]) (fun v38=>[]) ?_ ?_
  ·rintro v38 hF
   refine wIf hF rfl (fun _ hF=>?_) fun _ hF=>?_
   ·refine wA rfl ?_;have hF:=fin_0 _ (oi hF);cases hF
    exact bq wR
   refine aJ ?_;refine wB rfl ?_;exact cont_0 _ _ _ (oi hF) sw
  intro join hF
  refine hZ (by decide) (by kernel_rfl) rfl ?_;refine aX SP 3 rfl ?_;cases h40:(decide (0<a24))
  ·have hF:=bF' h40 hF;refine QP rfl ?_;exact join false _ _ hF sw
  have hF:=bT' h40 hF;refine aX SP 5 rfl ?_;obtain⟨y41,hy41,hF⟩:=bB' hF
  refine aV SP rfl (cY (tc:=dY) p0 rfl rfl hy41 ?_);refine QP rfl ?_;exact join (decide (y35.fAt<y41.fAt)) _ _ hF sw
 refine dZ ?_;refine aQ ?_;refine aQ ?_;refine bj ?_;exact brk_0 _ _ _ (oi hF) sw
def Ax(p0:eY):Option Int :=
  some p0.fThread
theorem SQ(p0:eY)(r:Int)(hF:Ax p0=some r):Fun Tryz.prog 59 true [] [.agg (GJ p0)] noHeap (cI r) noHeap:=by
 refine fW Tryz.func59 ?_
 unfold Ax at hF
 refine wA rfl ?_;refine wA rfl ?_;cases hF
 exact bq wR
def j8(p1:(List (Int×ByteArray)))(p2:(List eY)):Int→Option (Int ⊕ (Unit ⊕ Int)):=fun a12 =>
  (bif (decide (a12<(List.length p2:Int)))then((idx p2 a12).bind fun y17=>((Ax y17).bind fun r18=>(bif (!(Option.isSome (D3 r18 p1)))then some (.inr (.inr 5))else some (.inl (w64 (a12+1))))))else some (.inr (.inl ())))
def i1(p0:Int)(p1:(List (Int×ByteArray)))(p2:(List eY)):Option Int :=
  (bif (!decide (p0=0))then some p0 else((loop (j8 p1 p2) 0).bind fun | .inl _=>some 0 | .inr rv=>some rv))
theorem E4(p0:Int)(p1:(List (Int×ByteArray)))(p2:(List eY))(r:Int)(hF:i1 p0 p1 p2=some r):Fun Tryz.prog 57 false [(3280,0)] [cI p0,cM (3280,0),cL 4 dY p2,.c (.fn 59 [])] (aZ [((3280,0),rY (.int .i64) kvI vvS p1)]) (cI r) (aZ [((3280,0),rY (.int .i64) kvI vvS p1)]):=by
 refine fM [(3280,0)] (some [(3280,0)]) Tryz.func57 ?_
 unfold i1 at hF
 refine wA rfl ?_;refine az ?_;refine wA rfl ?_;refine wIf hF rfl (fun _ hF=>?_) fun _ hF=>?_
 ·refine wA rfl ?_;cases hF
  exact bq ⟨_,_,fq,_,rfl,rfl,⟨rfl,fun _=>rfl⟩,(AgM.weak ⟨rfl,trivial⟩)⟩
 refine aJ ?_;refine az ?_;refine wC 1 rfl ?_;refine rS (d3 (tc:=dY) p2 .tree ?_);refine QV rfl ?_;refine fQ (fun _ _ h=>h) hF (.inl) (fun a12=>[(1,cM (3280,0)),(3,.c (.fn 59 [])),(16,cL 4 dY p2),(17,cI (List.length p2:Int)),(18,cI a12)]) (fun a12=>[((3280,0),rY (.int .i64) kvI vvS p1)]) (fun _=>[]) (fun _=>[((3280,0),rY (.int .i64) kvI vvS p1)]) sw ?_ ?_
 ·rintro⟨⟩ hF
  refine wA rfl ?_;cases hF
  exact bq ⟨_,_,fq,_,rfl,rfl,⟨rfl,fun _=>rfl⟩,(AgM.weak ⟨rfl,trivial⟩)⟩
 rintro a12 x_0 hF cont_0 brk_0 fin_0
 unfold j8 at hF
 refine wA rfl ?_;refine az ?_;refine wIf hF rfl (fun _ hF=>?_) fun _ hF=>?_
 ·refine aJ ?_;refine az ?_;refine c7 ?_;refine wE ?_;obtain⟨y17,hy17,hF⟩:=bB hF
  refine rS (cY (tc:=dY) p2 rfl rfl hy17 ?_);refine QV rfl ?_;refine wC 3 rfl ?_;obtain⟨r18,hr18,hF⟩:=bB hF
  refine lq trivial (HJ (N5 _ rfl aXZ) (SQ _ _ hr18) ⟨⟨rfl,rfl,rfl,rfl,trivial⟩,trivial⟩ rfl (.inl rfl) ?_);refine rS (Hx (anY .i64) (vv:=vvS) p1 r18 (⟨#[]⟩ : ByteArray) (.own _ rfl) rfl rfl ?_)
  refine QV rfl ?_;refine wA rfl ?_;refine wIf hF rfl (fun _ hF=>?_) fun _ hF=>?_
  ·refine wA rfl ?_;have hF:=fin_0 _ (oi hF);cases hF
   exact bq ⟨_,_,fq,_,rfl,rfl,⟨rfl,fun _=>rfl⟩,(AgM.weak ⟨rfl,trivial⟩)⟩
  refine aJ ?_;refine wB rfl ?_;exact cont_0 _ _ _ (oi hF) sw
 refine dZ ?_;refine aQ ?_;refine aQ ?_;refine bj ?_;exact brk_0 _ _ _ (oi hF) sw
def RW(p0:Int):Option Bool :=
  (((bif (decide ((-1000000000000000)≤p0))then some (decide (p0≤1000000000000000))else some false):Option Bool).bind fun v1=>some v1)
theorem awJ(p0:Int)(r:Bool)(hF:RW p0=some r):Fun Tryz.prog 107 true [] [cI p0] noHeap (cB r) noHeap:=by
 refine fW Tryz.func107 ?_
 unfold RW at hF
 refine wA rfl ?_;refine az ?_;refine cz (fun _ _ h=>h) hF (fun v1=>[(2,cB v1)]) (fun v1=>[]) ?_ ?_
 ·rintro v1 hF
  cases hF
  exact bq wR
 intro join hF
 refine wD 3 rfl ?_;cases h2:(decide ((-1000000000000000)≤p0))
 ·have hF:=bF' h2 hF;refine QV rfl ?_;exact join false _ _ hF sw
 have hF:=bT' h2 hF;refine QV rfl ?_;exact join (decide (p0≤1000000000000000)) _ _ hF sw
def sW(p0:ByteArray):Option Bool :=
  some (!decide (p0=p0))
theorem E8(p0:ByteArray)(r:Bool)(hF:sW p0=some r):Fun Tryz.prog 151 true [] [.c (jS p0)] noHeap (cB r) noHeap:=by
 refine fW Tryz.func151 ?_
 unfold sW at hF
 refine wA rfl ?_;refine wA rfl ?_;cases hF
 exact bq wR
def mK(p0:ByteArray)(p1:ByteArray):Option Int :=
  ((sW p0).bind fun r1=>((sW p1).bind fun r2=>(bif r1 then(bif r2 then some 0 else some (-1))else(bif r2 then some 1 else(bif (sLt p0 p1)then some (-1)else(bif (!(sLt p0 p1||decide (p0=p1)))then some 1 else some 0))))))
theorem LK(p0:ByteArray)(p1:ByteArray)(r:Int)(hF:mK p0 p1=some r):Fun Tryz.prog 133 true [] [.c (jS p0),.c (jS p1)] noHeap (cI r) noHeap:=by
 refine fW Tryz.func133 ?_
 unfold mK at hF
 refine wA rfl ?_;refine wC 1 rfl ?_;obtain⟨r1,hr1,hF⟩:=bB hF
 refine rS (cq (E8 _ _ hr1) ⟨rfl,trivial⟩ rfl (.inl rfl) ?_);refine QV rfl ?_;refine wC 1 rfl ?_;obtain⟨r2,hr2,hF⟩:=bB hF
 refine rS (cq (E8 _ _ hr2) ⟨rfl,trivial⟩ rfl (.inl rfl) ?_);refine QV rfl ?_;refine az ?_;refine wA rfl ?_;refine wIf hF rfl (fun _ hF=>?_) fun _ hF=>?_
 ·refine az ?_;refine wA rfl ?_;refine wIf hF rfl (fun _ hF=>?_) fun _ hF=>?_
  ·refine wA rfl ?_;cases hF
   exact bq wR
  refine aJ ?_;refine wA rfl ?_;cases hF
  exact bq wR
 refine aJ ?_;refine az ?_;refine wA rfl ?_;refine wIf hF rfl (fun _ hF=>?_) fun _ hF=>?_
 ·refine wA rfl ?_;cases hF
  exact bq wR
 refine aJ ?_;refine az ?_;refine wA rfl ?_;refine wIf hF rfl (fun _ hF=>?_) fun _ hF=>?_
 ·refine wA rfl ?_;cases hF
  exact bq wR
 refine aJ ?_;refine az ?_;refine wA rfl ?_;refine wIf hF rfl (fun _ hF=>?_) fun _ hF=>?_
 ·refine wA rfl ?_;cases hF
  exact bq wR
 refine aJ ?_;refine wA rfl ?_;cases hF
 exact bq wR
def sZ(p0:jj)(p1:jj):Option Int :=
  ((mK p0.fName p1.fName).bind fun r1=>((lY p0.fAt p1.fAt).bind fun r2=>((A2 [r1,r2]).bind fun r3=>some r3)))
theorem T7(p0:jj)(p1:jj)(r:Int)(hF:sZ p0 p1=some r):Fun Tryz.prog 108 true [] [.agg (MK p0),.agg (MK p1)] noHeap (cI r) noHeap:=by
 refine fW Tryz.func108 ?_
 unfold sZ at hF
 refine wA rfl ?_;refine az ?_;refine hZ (by decide) (by kernel_rfl) rfl ?_;refine aX SP 4 rfl ?_;obtain⟨r1,hr1,hF⟩:=bB hF
 refine aV SP trivial (cq (LK _ _ _ hr1) ⟨rfl,rfl,trivial⟩ rfl (.inl rfl) ?_);refine aX SP 4 rfl ?_;obtain⟨r2,hr2,hF⟩:=bB hF
 refine aV SP trivial (cq (vY _ _ _ hr2) ⟨rfl,rfl,trivial⟩ rfl (.inl rfl) ?_);refine aV SP trivial (AQ (tc:=dV) [r1,r2] rfl ⟨rfl,rfl,trivial⟩ rfl (fun _=>rfl) rfl ?_)
 obtain⟨r3,hr3,hF⟩:=bB hF
 refine aV SP trivial (cq (O1 _ _ hr3) ⟨⟨_,rfl⟩,trivial⟩ rfl (.inl rfl) ?_);refine QP rfl ?_;cases hF
 exact bq wR
def vW(p0:(List jj)):Int→Option (Int ⊕ (Unit ⊕ Int)):=fun a40 =>
  (bif (decide (a40<(List.length p0:Int)))then((idx p0 a40).bind fun y59=>((nJ y59.fName).bind fun r60=>(bif (!decide (r60=0))then some (.inr (.inr r60))else(((bif (decide (y59.fAt<0))then some true else(bif (decide (1000000000000<y59.fAt))then some true else((RW y59.fValue).bind fun r74=>some (!r74)))):Option Bool).bind fun v61=>(bif v61 then some (.inr (.inr 2))else(((bif (decide (0<a40))then((idx p0 (w64 (a40-1))).bind fun y65=>((sZ y65 y59).bind fun r66=>(bif (decide (0≤r66))then some true else((idx p0 (w64 (a40-1))).bind fun y68=>(bif (decide (y68.fName=y59.fName))then((idx p0 (w64 (a40-1))).bind fun y70=>some (decide (y70.fValue=y59.fValue)))else some false)))))else some false):Option Bool).bind fun v62=>(bif v62 then some (.inr (.inr 11))else some (.inl (w64 (a40+1))))))))))else some (.inr (.inl ())))
def uY(p0:(List jj)):Option Int :=
  ((loop (vW p0) 0).bind fun | .inl _=>some 0 | .inr rv=>some rv)
theorem T8(p0:(List jj))(r:Int)(hF:uY p0=some r):Fun Tryz.prog 60 true [] [cL 3 dW p0] noHeap (cI r) noHeap:=by
 refine fW Tryz.func60 ?_
 unfold uY at hF
 refine wA rfl ?_;refine az ?_;refine wC 1 rfl ?_;refine rS (d3 (tc:=dW) p0 .tree ?_);refine QV rfl ?_;refine fQ (fun _ _ h=>h) hF (.inl) (fun a40=>[(0,cL 3 dW p0),(6,cL 3 dW p0),(7,cI (List.length p0:Int)),(8,cI a40)]) (fun a40=>[]) (fun _=>[]) (fun _=>[]) sw ?_ ?_
 ·rintro⟨⟩ hF
  refine wA rfl ?_;cases hF
  exact bq wR
 rintro a40 x_0 hF cont_0 brk_0 fin_0
 unfold vW at hF
 refine wA rfl ?_;refine az ?_;refine wIf hF rfl (fun _ hF=>?_) fun _ hF=>?_
 ·refine aJ ?_;refine az ?_;refine c7 ?_;refine wC 1 rfl ?_;obtain⟨y59,hy59,hF⟩:=bB hF
  refine rS (cY (tc:=dW) p0 rfl rfl hy59 ?_);refine QV rfl ?_;refine az ?_;refine wC 2 rfl ?_;obtain⟨r60,hr60,hF⟩:=bB hF
  refine rS (cq (Cj _ _ hr60) ⟨rfl,trivial⟩ rfl (.inl rfl) ?_);refine QV rfl ?_;refine wA rfl ?_;refine wIf hF rfl (fun _ hF=>?_) fun _ hF=>?_
  ·refine wA rfl ?_;have hF:=fin_0 _ (oi hF);cases hF
   exact bq wR
  refine aJ ?_;refine az ?_;refine az ?_;refine cz (fun _ _ h=>h) hF (fun v61=>[(0,cL 3 dW p0),(3,cI a40),(4,cP (4,0) 0),(6,cL 3 dW p0),(7,cI (List.length p0:Int)),(8,cI a40),(32,cB v61)]) (fun v61=>[((4,0),.box (MK y59))]) ?_ ?_
  ·rintro v61 hF
   refine wIf hF rfl (fun _ hF=>?_) fun _ hF=>?_
   ·refine wA rfl ?_;have hF:=fin_0 _ (oi hF);cases hF
    exact bq wR
   refine aJ ?_;refine az ?_;refine cz (fun _ _ h=>h) hF (fun v62=>[(0,cL 3 dW p0),(6,cL 3 dW p0),(7,cI (List.length p0:Int)),(8,cI a40),(66,cB v62)]) (fun v62=>[]) ?_ ?_
   ·rintro v62 hF
    refine wIf hF rfl (fun _ hF=>?_) fun _ hF=>?_
    ·refine wA rfl ?_;have hF:=fin_0 _ (oi hF);cases hF
     exact bq wR
    refine aJ ?_;refine wB rfl ?_;exact cont_0 _ _ _ (oi hF) sw
   intro join hF
   refine hZ (by decide) (by kernel_rfl) rfl ?_;refine aX SP 3 rfl ?_;cases h64:(decide (0<a40))
   ·have hF:=bF' h64 hF;refine QP rfl ?_;exact join false _ _ hF sw
   have hF:=bT' h64 hF;refine aX SP 3 rfl ?_;obtain⟨y65,hy65,hF⟩:=bB' hF
   refine aV SP rfl (cY (tc:=dW) p0 rfl rfl hy65 ?_);refine aX SP 2 rfl ?_;obtain⟨r66,hr66,hF⟩:=bB' hF
   refine aV SP rfl (cq (T7 _ _ _ hr66) ⟨⟨rfl,rfl,rfl,trivial⟩,⟨rfl,rfl,rfl,trivial⟩,trivial⟩ rfl (.inl rfl) ?_);refine aX SP 2 rfl ?_;cases h67:(decide (0≤r66))
   ·have hF:=bF' h67 hF;refine aX SP 3 rfl ?_;obtain⟨y68,hy68,hF⟩:=bB' hF
    refine aV SP rfl (cY (tc:=dW) p0 rfl rfl hy68 ?_);refine aX SP 6 rfl ?_;cases h69:(decide (y68.fName=y59.fName))
    ·have hF:=bF' h69 hF;refine QP rfl ?_;exact join false _ _ hF sw
    have hF:=bT' h69 hF;refine aX SP 3 rfl ?_;obtain⟨y70,hy70,hF⟩:=bB' hF
    refine aV SP rfl (cY (tc:=dW) p0 rfl rfl hy70 ?_);refine QP rfl ?_;exact join (decide (y70.fValue=y59.fValue)) _ _ hF sw
   have hF:=bT' h67 hF;refine QP rfl ?_;exact join true _ _ hF sw
  intro join hF
  refine wD 4 rfl ?_;cases h72:(decide (y59.fAt<0))
  ·have hF:=bF' h72 hF;refine aX SV 5 rfl ?_;cases h73:(decide (1000000000000<y59.fAt))
   ·have hF:=bF' h73 hF;refine aX SV 2 rfl ?_;obtain⟨r74,hr74,hF⟩:=bB' hF
    refine aV SV rfl (cq (awJ _ _ hr74) ⟨rfl,trivial⟩ rfl (.inl rfl) ?_);refine QV rfl ?_;exact join (!r74) _ _ hF sw
   have hF:=bT' h73 hF;refine QV rfl ?_;exact join true _ _ hF sw
  have hF:=bT' h72 hF;refine QV rfl ?_;exact join true _ _ hF sw
 refine dZ ?_;refine aQ ?_;refine aQ ?_;refine bj ?_;exact brk_0 _ _ _ (oi hF) sw
def rZ(y143:eJ)(y147:(List eJ)):Int→Option (Int ⊕ (Unit ⊕ (Int ⊕ (Unit ⊕ Int)))):=fun a163 =>
  (bif (decide (a163<(List.length y147:Int)))then((idx y147 a163).bind fun y170=>(((bif (decide (y170.fId=y143.fId))then(bif (decide (y170.fSpan.fFrom<y143.fSpan.fTo))then some (decide (y143.fSpan.fFrom<y170.fSpan.fTo))else some false)else some false):Option Bool).bind fun v171=>(bif v171 then some (.inr (.inr (.inr (.inr 4))))else some (.inl (w64 (a163+1))))))else some (.inr (.inl ())))
def n9(p0:(List eJ)):Int→Option (Int ⊕ (Unit ⊕ Int)):=fun a96 =>
  (bif (decide (a96<(List.length p0:Int)))then((idx p0 a96).bind fun y143=>(((bif (decide (y143.fId<0))then some true else(bif (decide (1000000000000000<y143.fId))then some true else(bif (decide (y143.fThread<0))then some true else(bif (decide (1000000000000000<y143.fThread))then some true else(bif (decide (y143.fSize<1))then some true else(bif (decide (1000000000000<y143.fSize))then some true else((lQ y143.fSpan).bind fun r187=>some (!r187)))))))):Option Bool).bind fun v144=>(bif v144 then some (.inr (.inr 2))else((sY y143.fStack).bind fun r145=>(bif (!decide (r145=0))then some (.inr (.inr r145))else(((bif (decide (0<a96))then((idx p0 (w64 (a96-1))).bind fun y178=>some (decide (y143.fSpan.fFrom<y178.fSpan.fFrom)))else some false):Option Bool).bind fun v146=>(bif v146 then some (.inr (.inr 11))else((F6 p0 0 a96).bind fun y147=>((loop (rZ y143 y147) 0).bind fun | .inl _=>some (.inl (w64 (a96+1))) | .inr rv=>some rv)))))))))else some (.inr (.inl ())))
def xV(p0:(List eJ)):Option Int :=
  ((loop (n9 p0) 0).bind fun | .inl _=>some 0 | .inr rv=>some rv)
theorem V2(p0:(List eJ))(r:Int)(hF:xV p0=some r):Fun Tryz.prog 62 true [] [cL 7 cW p0] noHeap (cI r) noHeap:=by
 refine fW Tryz.func62 ?_
 unfold xV at hF
 refine wA rfl ?_;refine az ?_;refine wC 1 rfl ?_;refine rS (d3 (tc:=cW) p0 .tree ?_);refine QV rfl ?_;refine fQ (fun _ _ h=>h) hF (.inl) (fun a96=>[(0,cL 7 cW p0),(8,cL 7 cW p0),(9,cI (List.length p0:Int)),(10,cI a96)]) (fun a96=>[]) (fun _=>[]) (fun _=>[]) sw ?_ ?_
 ·rintro⟨⟩ hF
  refine wA rfl ?_;cases hF
  exact bq wR
 rintro a96 x_0 hF cont_0 brk_0 fin_0
 unfold n9 at hF
 refine wA rfl ?_;refine az ?_;refine wIf hF rfl (fun _ hF=>?_) fun _ hF=>?_
 ·refine aJ ?_;refine az ?_;refine c7 ?_;refine wC 1 rfl ?_;obtain⟨y143,hy143,hF⟩:=bB hF
  refine rS (cY (tc:=cW) p0 rfl rfl hy143 ?_);refine QV rfl ?_;refine az ?_;refine az ?_;refine cz (fun _ _ h=>h) hF (fun v144=>[(0,cL 7 cW p0),(3,cI a96),(4,cP (4,0) 0),(8,cL 7 cW p0),(9,cI (List.length p0:Int)),(10,cI a96),(48,cB v144)]) (fun v144=>[((4,0),.box (sK y143))]) ?_ ?_
  ·rintro v144 hF
   refine wIf hF rfl (fun _ hF=>?_) fun _ hF=>?_
   ·refine wA rfl ?_;have hF:=fin_0 _ (oi hF);cases hF
    exact bq wR
   refine aJ ?_;refine az ?_;refine wC 2 rfl ?_;obtain⟨r145,hr145,hF⟩:=bB hF
   refine rS (cq (I6 _ _ hr145) ⟨rfl,trivial⟩ rfl (.inl rfl) ?_);refine QV rfl ?_;refine wA rfl ?_;refine wIf hF rfl (fun _ hF=>?_) fun _ hF=>?_
   ·refine wA rfl ?_;have hF:=fin_0 _ (oi hF);cases hF
    exact bq wR
   refine aJ ?_;refine az ?_;refine az ?_;refine cz (fun _ _ h=>h) hF (fun v146=>[(0,cL 7 cW p0),(3,cI a96),(4,cP (4,0) 0),(8,cL 7 cW p0),(9,cI (List.length p0:Int)),(10,cI a96),(69,cB v146)]) (fun v146=>[((4,0),.box (sK y143))]) ?_ ?_
   ·rintro v146 hF
    refine wIf hF rfl (fun _ hF=>?_) fun _ hF=>?_
    ·refine wA rfl ?_;have hF:=fin_0 _ (oi hF);cases hF
     exact bq wR
    refine aJ ?_;refine wC 2 rfl ?_;obtain⟨y147,hy147,hF⟩:=bB hF
    refine rS (a0X (tc:=cW) p0 rfl rfl rfl hy147 ?_);refine rS (d3 (tc:=cW) y147 .tree ?_);refine QV rfl ?_;refine fQ (fun _ _ h=>h) hF (.inl) (fun a163=>[(0,cL 7 cW p0),(4,cP (4,0) 0),(8,cL 7 cW p0),(9,cI (List.length p0:Int)),(10,cI a96),(72,cL 7 cW y147),(73,cI (List.length y147:Int)),(74,cI a163)]) (fun a163=>[((4,0),.box (sK y143))]) (fun _=>[(0,cL 7 cW p0),(8,cL 7 cW p0),(9,cI (List.length p0:Int)),(10,cI a96)]) (fun _=>[]) sw ?_ ?_
    ·rintro⟨⟩ hF
     refine wB rfl ?_;exact cont_0 _ _ _ (oi hF) sw
    rintro a163 x_1 hF cont_1 brk_1 fin_1
    unfold rZ at hF
    refine wA rfl ?_;refine az ?_;refine wIf hF rfl (fun _ hF=>?_) fun _ hF=>?_
    ·refine aJ ?_;refine az ?_;refine c7 ?_;refine wE ?_;obtain⟨y170,hy170,hF⟩:=bB hF
     refine rS (cY (tc:=cW) y147 rfl rfl hy170 ?_);refine QV rfl ?_;refine az ?_;refine cz (fun _ _ h=>h) hF (fun v171=>[(0,cL 7 cW p0),(4,cP (4,0) 0),(8,cL 7 cW p0),(9,cI (List.length p0:Int)),(10,cI a96),(72,cL 7 cW y147),(73,cI (List.length y147:Int)),(74,cI a163),(100,cB v171)]) (fun v171=>[((4,0),.box (sK y143))]) ?_ ?_
     ·rintro v171 hF
      refine wIf hF rfl (fun _ hF=>?_) fun _ hF=>?_
      ·refine wA rfl ?_;have hF:=fin_1 _ (oi hF);have hF:=fin_0 _ (oi hF);cases hF
       exact bq wR
      refine aJ ?_;refine wB rfl ?_;exact cont_1 _ _ _ (oi hF) sw
     intro join hF
     refine wD 6 rfl ?_;cases h173:(decide (y170.fId=y143.fId))
     ·have hF:=bF' h173 hF;refine QV rfl ?_;exact join false _ _ hF sw
     have hF:=bT' h173 hF;refine aX SV 9 rfl ?_;cases h174:(decide (y170.fSpan.fFrom<y143.fSpan.fTo))
     ·have hF:=bF' h174 hF;refine QV rfl ?_;exact join false _ _ hF sw
     have hF:=bT' h174 hF;refine QV rfl ?_;exact join (decide (y143.fSpan.fFrom<y170.fSpan.fTo)) _ _ hF sw
    refine dZ ?_;refine aQ ?_;refine aQ ?_;refine bj ?_;exact brk_1 _ _ _ (oi hF) sw
   intro join hF
   refine hZ (by decide) (by kernel_rfl) rfl ?_;refine aX SP 3 rfl ?_;cases h177:(decide (0<a96))
   ·have hF:=bF' h177 hF;refine QP rfl ?_;exact join false _ _ hF sw
   have hF:=bT' h177 hF;refine aX SP 6 rfl ?_;obtain⟨y178,hy178,hF⟩:=bB' hF
   refine aV SP rfl (cY (tc:=cW) p0 rfl rfl hy178 ?_);refine QP rfl ?_;exact join (decide (y143.fSpan.fFrom<y178.fSpan.fFrom)) _ _ hF sw
  intro join hF
  refine wD 4 rfl ?_;cases h181:(decide (y143.fId<0))
  ·have hF:=bF' h181 hF;refine aX SV 5 rfl ?_;cases h182:(decide (1000000000000000<y143.fId))
   ·have hF:=bF' h182 hF;refine aX SV 5 rfl ?_;cases h183:(decide (y143.fThread<0))
    ·have hF:=bF' h183 hF;refine aX SV 5 rfl ?_;cases h184:(decide (1000000000000000<y143.fThread))
     ·have hF:=bF' h184 hF;refine aX SV 5 rfl ?_;cases h185:(decide (y143.fSize<1))
      ·have hF:=bF' h185 hF;refine aX SV 5 rfl ?_;cases h186:(decide (1000000000000<y143.fSize))
       ·have hF:=bF' h186 hF;refine aX SV 2 rfl ?_;obtain⟨r187,hr187,hF⟩:=bB' hF
        refine aV SV rfl (cq (x9 _ _ hr187) ⟨⟨rfl,rfl,trivial⟩,trivial⟩ rfl (.inl rfl) ?_);refine QV rfl ?_;exact join (!r187) _ _ hF sw
       have hF:=bT' h186 hF;refine QV rfl ?_;exact join true _ _ hF sw
      have hF:=bT' h185 hF;refine QV rfl ?_;exact join true _ _ hF sw
     have hF:=bT' h184 hF;refine QV rfl ?_;exact join true _ _ hF sw
    have hF:=bT' h183 hF;refine QV rfl ?_;exact join true _ _ hF sw
   have hF:=bT' h182 hF;refine QV rfl ?_;exact join true _ _ hF sw
  have hF:=bT' h181 hF;refine QV rfl ?_;exact join true _ _ hF sw
 refine dZ ?_;refine aQ ?_;refine aQ ?_;refine bj ?_;exact brk_0 _ _ _ (oi hF) sw
def A0(p0:eJ):Option Int :=
  some p0.fThread
theorem Q3(p0:eJ)(r:Int)(hF:A0 p0=some r):Fun Tryz.prog 63 true [] [.agg (sK p0)] noHeap (cI r) noHeap:=by
 refine fW Tryz.func63 ?_
 unfold A0 at hF
 refine wA rfl ?_;refine wA rfl ?_;cases hF
 exact bq wR
def kj(p1:(List (Int×ByteArray)))(p2:(List eJ)):Int→Option (Int ⊕ (Unit ⊕ Int)):=fun a12 =>
  (bif (decide (a12<(List.length p2:Int)))then((idx p2 a12).bind fun y17=>((A0 y17).bind fun r18=>(bif (!(Option.isSome (D3 r18 p1)))then some (.inr (.inr 5))else some (.inl (w64 (a12+1))))))else some (.inr (.inl ())))
def jx(p0:Int)(p1:(List (Int×ByteArray)))(p2:(List eJ)):Option Int :=
  (bif (!decide (p0=0))then some p0 else((loop (kj p1 p2) 0).bind fun | .inl _=>some 0 | .inr rv=>some rv))
theorem FX(p0:Int)(p1:(List (Int×ByteArray)))(p2:(List eJ))(r:Int)(hF:jx p0 p1 p2=some r):Fun Tryz.prog 61 false [(3440,0)] [cI p0,cM (3440,0),cL 7 cW p2,.c (.fn 63 [])] (aZ [((3440,0),rY (.int .i64) kvI vvS p1)]) (cI r) (aZ [((3440,0),rY (.int .i64) kvI vvS p1)]):=by
 refine fM [(3440,0)] (some [(3440,0)]) Tryz.func61 ?_
 unfold jx at hF
 refine wA rfl ?_;refine az ?_;refine wA rfl ?_;refine wIf hF rfl (fun _ hF=>?_) fun _ hF=>?_
 ·refine wA rfl ?_;cases hF
  exact bq ⟨_,_,fq,_,rfl,rfl,⟨rfl,fun _=>rfl⟩,(AgM.weak ⟨rfl,trivial⟩)⟩
 refine aJ ?_;refine az ?_;refine wC 1 rfl ?_;refine rS (d3 (tc:=cW) p2 .tree ?_);refine QV rfl ?_;refine fQ (fun _ _ h=>h) hF (.inl) (fun a12=>[(1,cM (3440,0)),(3,.c (.fn 63 [])),(16,cL 7 cW p2),(17,cI (List.length p2:Int)),(18,cI a12)]) (fun a12=>[((3440,0),rY (.int .i64) kvI vvS p1)]) (fun _=>[]) (fun _=>[((3440,0),rY (.int .i64) kvI vvS p1)]) sw ?_ ?_
 ·rintro⟨⟩ hF
  refine wA rfl ?_;cases hF
  exact bq ⟨_,_,fq,_,rfl,rfl,⟨rfl,fun _=>rfl⟩,(AgM.weak ⟨rfl,trivial⟩)⟩
 rintro a12 x_0 hF cont_0 brk_0 fin_0
 unfold kj at hF
 refine wA rfl ?_;refine az ?_;refine wIf hF rfl (fun _ hF=>?_) fun _ hF=>?_
 ·refine aJ ?_;refine az ?_;refine c7 ?_;refine wE ?_;obtain⟨y17,hy17,hF⟩:=bB hF
  refine rS (cY (tc:=cW) p2 rfl rfl hy17 ?_);refine QV rfl ?_;refine wC 3 rfl ?_;obtain⟨r18,hr18,hF⟩:=bB hF
  refine lq trivial (HJ (N5 _ rfl aYX) (Q3 _ _ hr18) ⟨⟨rfl,rfl,rfl,rfl,rfl,rfl,rfl,trivial⟩,trivial⟩ rfl (.inl rfl) ?_);refine rS (Hx (anY .i64) (vv:=vvS) p1 r18 (⟨#[]⟩ : ByteArray) (.own _ rfl) rfl rfl ?_)
  refine QV rfl ?_;refine wA rfl ?_;refine wIf hF rfl (fun _ hF=>?_) fun _ hF=>?_
  ·refine wA rfl ?_;have hF:=fin_0 _ (oi hF);cases hF
   exact bq ⟨_,_,fq,_,rfl,rfl,⟨rfl,fun _=>rfl⟩,(AgM.weak ⟨rfl,trivial⟩)⟩
  refine aJ ?_;refine wB rfl ?_;exact cont_0 _ _ _ (oi hF) sw
 refine dZ ?_;refine aQ ?_;refine aQ ?_;refine bj ?_;exact brk_0 _ _ _ (oi hF) sw
def s7(p0:(List (Int×ByteArray)))(p1:(List yq)):Int→Option (Int ⊕ (Unit ⊕ Int)):=fun a20 =>
  (bif (decide (a20<(List.length p1:Int)))then((idx p1 a20).bind fun y29=>(bif (!(Option.isSome (D3 y29.fThread p0)))then some (.inr (.inr 5))else((((lQ y29.fSpan).bind fun r32=>(bif (!r32)then some true else(bif (decide (y29.fCount<1))then some true else some (decide (1000000000000000<y29.fCount))))):Option Bool).bind fun v30=>(bif v30 then some (.inr (.inr 2))else some (.inl (w64 (a20+1)))))))else some (.inr (.inl ())))
def rJ(p0:(List (Int×ByteArray)))(p1:(List yq)):Option Int :=
  ((loop (s7 p0 p1) 0).bind fun | .inl _=>some 0 | .inr rv=>some rv)
theorem Qj(p0:(List (Int×ByteArray)))(p1:(List yq))(r:Int)(hF:rJ p0 p1=some r):Fun Tryz.prog 64 false [(3560,0)] [cM (3560,0),cL 4 rX p1] (aZ [((3560,0),rY (.int .i64) kvI vvS p0)]) (cI r) (aZ [((3560,0),rY (.int .i64) kvI vvS p0)]):=by
 refine fM [(3560,0)] (some [(3560,0)]) Tryz.func64 ?_
 unfold rJ at hF
 refine wA rfl ?_;refine az ?_;refine wC 1 rfl ?_;refine rS (d3 (tc:=rX) p1 .tree ?_);refine QV rfl ?_;refine fQ (fun _ _ h=>h) hF (.inl) (fun a20=>[(0,cM (3560,0)),(9,cL 4 rX p1),(10,cI (List.length p1:Int)),(11,cI a20)]) (fun a20=>[((3560,0),rY (.int .i64) kvI vvS p0)]) (fun _=>[]) (fun _=>[((3560,0),rY (.int .i64) kvI vvS p0)]) sw ?_ ?_
 ·rintro⟨⟩ hF
  refine wA rfl ?_;cases hF
  exact bq ⟨_,_,fq,_,rfl,rfl,⟨rfl,fun _=>rfl⟩,(AgM.weak ⟨rfl,trivial⟩)⟩
 rintro a20 x_0 hF cont_0 brk_0 fin_0
 unfold s7 at hF
 refine wA rfl ?_;refine az ?_;refine wIf hF rfl (fun _ hF=>?_) fun _ hF=>?_
 ·refine aJ ?_;refine az ?_;refine c7 ?_;refine wE ?_;obtain⟨y29,hy29,hF⟩:=bB hF
  refine rS (cY (tc:=rX) p1 rfl rfl hy29 ?_);refine QV rfl ?_;refine az ?_;refine wC 3 rfl ?_;refine rS (Hx (anY .i64) (vv:=vvS) p0 y29.fThread (⟨#[]⟩ : ByteArray) (.own _ rfl) rfl rfl ?_)
  refine QV rfl ?_;refine wA rfl ?_;refine wIf hF rfl (fun _ hF=>?_) fun _ hF=>?_
  ·refine wA rfl ?_;have hF:=fin_0 _ (oi hF);cases hF
   exact bq ⟨_,_,fq,_,rfl,rfl,⟨rfl,fun _=>rfl⟩,(AgM.weak ⟨rfl,trivial⟩)⟩
  refine aJ ?_;refine az ?_;refine cz (fun _ _ h=>h) hF (fun v30=>[(0,cM (3560,0)),(9,cL 4 rX p1),(10,cI (List.length p1:Int)),(11,cI a20),(37,cB v30)]) (fun v30=>[((3560,0),rY (.int .i64) kvI vvS p0)]) ?_ ?_
  ·rintro v30 hF
   refine wIf hF rfl (fun _ hF=>?_) fun _ hF=>?_
   ·refine wA rfl ?_;have hF:=fin_0 _ (oi hF);cases hF
    exact bq ⟨_,_,fq,_,rfl,rfl,⟨rfl,fun _=>rfl⟩,(AgM.weak ⟨rfl,trivial⟩)⟩
   refine aJ ?_;refine wB rfl ?_;exact cont_0 _ _ _ (oi hF) sw
  intro join hF
  refine wD 2 rfl ?_;obtain⟨r32,hr32,hF⟩:=bB' hF
  refine rS (cq (x9 _ _ hr32) ⟨⟨rfl,rfl,trivial⟩,trivial⟩ rfl (.inl rfl) ?_);refine aX SV 2 rfl ?_;cases h33:(!r32)
  ·have hF:=bF' h33 hF;refine aX SV 5 rfl ?_;cases h34:(decide (y29.fCount<1))
   ·have hF:=bF' h34 hF;refine QV rfl ?_;exact join (decide (1000000000000000<y29.fCount)) _ _ hF sw
   have hF:=bT' h34 hF;refine QV rfl ?_;exact join true _ _ hF sw
  have hF:=bT' h33 hF;refine QV rfl ?_;exact join true _ _ hF sw
 refine dZ ?_;refine aQ ?_;refine aQ ?_;refine bj ?_;exact brk_0 _ _ _ (oi hF) sw
def uj(p0:aY):Option Int :=
  ((pW p0).bind fun | .inl r1_0=>(bif (!decide (r1_0.2=0))then some r1_0.2 else((qJ p0.fSlices).bind fun r2=>none)) | .inr r1_1=>(bif (!decide (r1_1.2=0))then some r1_1.2 else((qJ p0.fSlices).bind fun r4=>((gZ r4 r1_1.1 p0.fSlices).bind fun r5=>(bif (!decide (r5=0))then some r5 else((AJ p0.fThreads p0.fStates).bind fun r6=>(bif (!decide (r6=0))then some r6 else((CJ p0.fFlows).bind fun r7=>((jK r7 r1_1.1 p0.fFlows).bind fun r8=>((jW r8 r1_1.1 p0.fFlows).bind fun r9=>(bif (!decide (r9=0))then some r9 else((xZ p0.fSamples).bind fun r10=>((i1 r10 r1_1.1 p0.fSamples).bind fun r11=>(bif (!decide (r11=0))then some r11 else((uY p0.fSteps).bind fun r12=>(bif (!decide (r12=0))then some r12 else((xV p0.fBlocks).bind fun r13=>((jx r13 r1_1.1 p0.fBlocks).bind fun r14=>(bif (!decide (r14=0))then some r14 else((rJ r1_1.1 p0.fLost).bind fun r15=>some r15))))))))))))))))))))
theorem U6(p0:aY)(r:Int)(hF:uj p0=some r):Fun Tryz.prog 32 true [] [.agg (aW p0)] noHeap (cI r) noHeap:=by
 refine fW Tryz.func32 ?_
 unfold uj at hF
 refine wA rfl ?_;refine wC 1 rfl ?_;obtain⟨r1,hr1,hF⟩:=bB hF
 rcases r1 with r1_0 | r1_1
 ·refine lq trivial (nY [] rfl (zW _) (I5 _ _ hr1) trivial ⟨.inr ⟨rfl,rfl,rfl,rfl,rfl,rfl,rfl,rfl,rfl,rfl,trivial⟩,trivial⟩ rfl rfl rfl ?_);refine QV rfl ?_;refine az ?_
  refine wA rfl ?_;refine wIf hF rfl (fun _ hF=>?_) fun _ hF=>?_
  ·refine wA rfl ?_;cases hF
   exact bq wR
  refine aJ ?_;refine az ?_;refine az ?_;refine hZ (by decide) (by kernel_rfl) rfl ?_;refine aX SP 2 rfl ?_;obtain⟨r2,hr2,hF⟩:=bB hF
  refine aV SP trivial (cq (M8 _ _ hr2) ⟨rfl,trivial⟩ rfl (.inl rfl) ?_);refine aX SP 3 rfl ?_;simp at hF
 refine lq trivial (nY [((902,1920),(13,1))] rfl (zW _) (I5 _ _ hr1) trivial ⟨.inr ⟨rfl,rfl,rfl,rfl,rfl,rfl,rfl,rfl,rfl,rfl,trivial⟩,trivial⟩ rfl rfl rfl ?_);refine QV rfl ?_
 refine az ?_;refine wA rfl ?_;refine wIf hF rfl (fun _ hF=>?_) fun _ hF=>?_
 ·refine wA rfl ?_;cases hF
  exact bq wR
 refine aJ ?_;refine az ?_;refine az ?_;refine hZ (by decide) (by kernel_rfl) rfl ?_;refine aX SP 2 rfl ?_;obtain⟨r4,hr4,hF⟩:=bB hF
 refine aV SP trivial (cq (M8 _ _ hr4) ⟨rfl,trivial⟩ rfl (.inl rfl) ?_);refine aX SP 3 rfl ?_;obtain⟨r5,hr5,hF⟩:=bB hF
 refine aV SP trivial (tJ [((2960,0),(13,1))] rfl (Fj _ _ _ _ hr5) ⟨rfl,trivial⟩ rfl rfl (.inr ⟨.inl rfl,.inl rfl,.inl rfl,.inl rfl,trivial⟩) ?_);refine QP rfl ?_
 refine wA rfl ?_;refine wIf hF rfl (fun _ hF=>?_) fun _ hF=>?_
 ·refine wA rfl ?_;cases hF
  exact bq wR
 refine aJ ?_;refine az ?_;refine wC 4 rfl ?_;obtain⟨r6,hr6,hF⟩:=bB hF
 refine rS (cq (X0 _ _ _ hr6) ⟨rfl,rfl,trivial⟩ rfl (.inl rfl) ?_);refine QV rfl ?_;refine wA rfl ?_;refine wIf hF rfl (fun _ hF=>?_) fun _ hF=>?_
 ·refine wA rfl ?_;cases hF
  exact bq wR
 refine aJ ?_;refine az ?_;refine hZ (by decide) (by kernel_rfl) rfl ?_;refine aX SP 2 rfl ?_;obtain⟨r7,hr7,hF⟩:=bB hF
 refine aV SP trivial (cq (abK _ _ hr7) ⟨rfl,trivial⟩ rfl (.inl rfl) ?_);refine aX SP 3 rfl ?_;obtain⟨r8,hr8,hF⟩:=bB hF
 refine aV SP trivial (tJ [((3120,0),(13,1))] rfl (GQ _ _ _ _ hr8) ⟨rfl,trivial⟩ rfl rfl (.inr ⟨.inl rfl,.inl rfl,.inl rfl,.inl rfl,trivial⟩) ?_);refine QP rfl ?_
 refine az ?_;refine wC 4 rfl ?_;obtain⟨r9,hr9,hF⟩:=bB hF
 refine rS (tJ [((3120,0),(13,1))] rfl (GZ _ _ _ _ hr9) ⟨rfl,trivial⟩ rfl rfl (.inr ⟨.inl rfl,.inl rfl,.inl rfl,.inl rfl,trivial⟩) ?_);refine QV rfl ?_;refine wA rfl ?_
 refine wIf hF rfl (fun _ hF=>?_) fun _ hF=>?_
 ·refine wA rfl ?_;cases hF
  exact bq wR
 refine aJ ?_;refine az ?_;refine az ?_;refine hZ (by decide) (by kernel_rfl) rfl ?_;refine aX SP 2 rfl ?_;obtain⟨r10,hr10,hF⟩:=bB hF
 refine aV SP trivial (cq (V8 _ _ hr10) ⟨rfl,trivial⟩ rfl (.inl rfl) ?_);refine aX SP 3 rfl ?_;obtain⟨r11,hr11,hF⟩:=bB hF
 refine aV SP trivial (tJ [((3280,0),(13,1))] rfl (E4 _ _ _ _ hr11) ⟨rfl,trivial⟩ rfl rfl (.inr ⟨.inl rfl,.inl rfl,.inl rfl,.inl rfl,trivial⟩) ?_);refine QP rfl ?_
 refine wA rfl ?_;refine wIf hF rfl (fun _ hF=>?_) fun _ hF=>?_
 ·refine wA rfl ?_;cases hF
  exact bq wR
 refine aJ ?_;refine az ?_;refine wC 2 rfl ?_;obtain⟨r12,hr12,hF⟩:=bB hF
 refine rS (cq (T8 _ _ hr12) ⟨rfl,trivial⟩ rfl (.inl rfl) ?_);refine QV rfl ?_;refine wA rfl ?_;refine wIf hF rfl (fun _ hF=>?_) fun _ hF=>?_
 ·refine wA rfl ?_;cases hF
  exact bq wR
 refine aJ ?_;refine az ?_;refine az ?_;refine hZ (by decide) (by kernel_rfl) rfl ?_;refine aX SP 2 rfl ?_;obtain⟨r13,hr13,hF⟩:=bB hF
 refine aV SP trivial (cq (V2 _ _ hr13) ⟨rfl,trivial⟩ rfl (.inl rfl) ?_);refine aX SP 3 rfl ?_;obtain⟨r14,hr14,hF⟩:=bB hF
 refine aV SP trivial (tJ [((3440,0),(13,1))] rfl (FX _ _ _ _ hr14) ⟨rfl,trivial⟩ rfl rfl (.inr ⟨.inl rfl,.inl rfl,.inl rfl,.inl rfl,trivial⟩) ?_);refine QP rfl ?_
 refine wA rfl ?_;refine wIf hF rfl (fun _ hF=>?_) fun _ hF=>?_
 ·refine wA rfl ?_;cases hF
  exact bq wR
 refine aJ ?_;refine wC 3 rfl ?_;obtain⟨r15,hr15,hF⟩:=bB hF
 refine rS (tJ [((3560,0),(13,1))] rfl (Qj _ _ _ hr15) ⟨rfl,trivial⟩ rfl rfl (.inr ⟨.inl rfl,.inl rfl,trivial⟩) ?_);refine QV rfl ?_;cases hF
 exact bq wR
def sx(p0:bZ)(p1:bZ):Option Bool :=
  (((bif (decide (p1.fFrom≤p0.fFrom))then some (decide (p0.fTo≤p1.fTo))else some false):Option Bool).bind fun v1=>some v1)
theorem EJ(p0:bZ)(p1:bZ)(r:Bool)(hF:sx p0 p1=some r):Fun Tryz.prog 67 true [] [.agg [jI p0.fFrom,jI p0.fTo],.agg [jI p1.fFrom,jI p1.fTo]] noHeap (cB r) noHeap:=by
 refine fW Tryz.func67 ?_
 unfold sx at hF
 refine wA rfl ?_;refine az ?_;refine cz (fun _ _ h=>h) hF (fun v1=>[(4,cB v1)]) (fun v1=>[]) ?_ ?_
 ·rintro v1 hF
  cases hF
  exact bq wR
 intro join hF
 refine wD 6 rfl ?_;cases h2:(decide (p1.fFrom≤p0.fFrom))
 ·have hF:=bF' h2 hF;refine QV rfl ?_;exact join false _ _ hF sw
 have hF:=bT' h2 hF;refine QV rfl ?_;exact join (decide (p0.fTo≤p1.fTo)) _ _ hF sw
def o3(p0:aK)(p1:bZ):Option Bool :=
  ((sx p0.fSpan p1).bind fun r1=>some (!r1))
theorem MZ(p0:aK)(p1:bZ)(r:Bool)(hF:o3 p0 p1=some r):Fun Tryz.prog 66 true [] [.agg (i5 p0),.c (.ptrI [tI p1.fFrom,tI p1.fTo])] noHeap (cB r) noHeap:=by
 refine fW Tryz.func66 ?_
 unfold o3 at hF
 refine wA rfl ?_;refine wC 3 rfl ?_;obtain⟨r1,hr1,hF⟩:=bB hF
 refine rS (cq (EJ _ _ _ hr1) ⟨⟨rfl,rfl,trivial⟩,⟨rfl,rfl,trivial⟩,trivial⟩ rfl (.inl rfl) ?_);refine QV rfl ?_;cases hF
 exact bq wR
def fZ(p0:(List aK))(p1_0:bZ):Int→Option (Int ⊕ (Unit ⊕ Int)):=fun a12 =>
  (bif (decide (a12<(List.length p0:Int)))then((idx p0 a12).bind fun y17=>((o3 y17 p1_0).bind fun r18=>(bif r18 then some (.inr (.inr a12))else some (.inl (w64 (a12+1))))))else some (.inr (.inl ())))
def gj(p0:(List aK))(p1_0:bZ):Option Int :=
  ((loop (fZ p0 p1_0) 0).bind fun | .inl _=>some (-1) | .inr rv=>some rv)
theorem w8(p0:(List aK))(p1_0:bZ)(r:Int)(hF:gj p0 p1_0=some r):Fun Tryz.prog 109 false [(5360,0)] [cL 8 aj p0,.c (.fn 66 [.ptr (5360,0)])] (aZ [((5360,0),.box [jI p1_0.fFrom,jI p1_0.fTo])]) (cI r) (aZ [((5360,0),.box [jI p1_0.fFrom,jI p1_0.fTo])]):=by
 refine fM [(5360,0)] (some [(5360,0)]) Tryz.func109 ?_
 unfold gj at hF
 refine wA rfl ?_;refine az ?_;refine wC 1 rfl ?_;refine rS (d3 (tc:=aj) p0 .tree ?_);refine QV rfl ?_;refine fQ (fun _ _ h=>h) hF (.inl) (fun a12=>[(0,cL 8 aj p0),(1,.c (.fn 66 [.ptr (5360,0)])),(7,cI (List.length p0:Int)),(8,cI a12)]) (fun a12=>[((5360,0),.box [jI p1_0.fFrom,jI p1_0.fTo])]) (fun _=>[]) (fun _=>[((5360,0),.box [jI p1_0.fFrom,jI p1_0.fTo])]) sw ?_ ?_
 ·rintro⟨⟩ hF
  refine wA rfl ?_;cases hF
  exact bq ⟨_,_,fq,_,rfl,rfl,⟨rfl,fun _=>rfl⟩,(AgM.weak ⟨rfl,trivial⟩)⟩
 rintro a12 x_0 hF cont_0 brk_0 fin_0
 unfold fZ at hF
 refine wA rfl ?_;refine az ?_;refine wIf hF rfl (fun _ hF=>?_) fun _ hF=>?_
 ·refine aJ ?_;refine az ?_;refine c7 ?_;refine wA rfl ?_;refine wC 3 rfl ?_;obtain⟨y17,hy17,hF⟩:=bB hF
  refine rS (cY (tc:=aj) p0 rfl rfl hy17 ?_);refine aX SV 1 rfl ?_;obtain⟨r18,hr18,hF⟩:=bB hF
  refine lq trivial (HJ (N5 _ rfl aXK) (MZ _ _ _ hr18) ⟨⟨rfl,rfl,rfl,rfl,rfl,rfl,rfl,rfl,trivial⟩,⟨_,rfl,⟨rfl,rfl,trivial⟩⟩,trivial⟩ rfl (.inl rfl) ?_);refine QV rfl ?_
  refine wIf hF rfl (fun _ hF=>?_) fun _ hF=>?_
  ·refine wA rfl ?_;have hF:=fin_0 _ (oi hF);cases hF
   exact bq ⟨_,_,fq,_,rfl,rfl,⟨rfl,fun _=>rfl⟩,(AgM.weak ⟨rfl,trivial⟩)⟩
  refine aJ ?_;refine wB rfl ?_;exact cont_0 _ _ _ (oi hF) sw
 refine dZ ?_;refine aQ ?_;refine aQ ?_;refine bj ?_;exact brk_0 _ _ _ (oi hF) sw
def eQ(p0:(List aK))(p1_0:bZ):Option Bool :=
  ((gj p0 p1_0).bind fun r1=>some (decide (0≤r1)))
theorem u1(p0:(List aK))(p1_0:bZ)(r:Bool)(hF:eQ p0 p1_0=some r):Fun Tryz.prog 65 false [(3600,0)] [cL 8 aj p0,.c (.fn 66 [.ptr (3600,0)])] (aZ [((3600,0),.box [jI p1_0.fFrom,jI p1_0.fTo])]) (cB r) (aZ [((3600,0),.box [jI p1_0.fFrom,jI p1_0.fTo])]):=by
 refine fM [(3600,0)] (some [(3600,0)]) Tryz.func65 ?_
 unfold eQ at hF
 refine wA rfl ?_;refine wC 2 rfl ?_;obtain⟨r1,hr1,hF⟩:=bB hF
 refine rS (tJ [((5360,0),(3600,0))] rfl (w8 _ _ _ hr1) ⟨rfl,trivial⟩ rfl rfl (.inr ⟨.inl rfl,.inl rfl,trivial⟩) ?_);refine QV rfl ?_;cases hF
 exact bq ⟨_,_,fq,_,rfl,rfl,⟨rfl,fun _=>rfl⟩,(AgM.weak ⟨rfl,trivial⟩)⟩
def o9(p0:cZ)(p1:bZ):Option Bool :=
  ((sx p0.fSpan p1).bind fun r1=>some (!r1))
theorem LQ(p0:cZ)(p1:bZ)(r:Bool)(hF:o9 p0 p1=some r):Fun Tryz.prog 69 true [] [.agg (j2 p0),.c (.ptrI [tI p1.fFrom,tI p1.fTo])] noHeap (cB r) noHeap:=by
 refine fW Tryz.func69 ?_
 unfold o9 at hF
 refine wA rfl ?_;refine wC 3 rfl ?_;obtain⟨r1,hr1,hF⟩:=bB hF
 refine rS (cq (EJ _ _ _ hr1) ⟨⟨rfl,rfl,trivial⟩,⟨rfl,rfl,trivial⟩,trivial⟩ rfl (.inl rfl) ?_);refine QV rfl ?_;cases hF
 exact bq wR
def fY(p0:(List cZ))(p1_0:bZ):Int→Option (Int ⊕ (Unit ⊕ Int)):=fun a12 =>
  (bif (decide (a12<(List.length p0:Int)))then((idx p0 a12).bind fun y17=>((o9 y17 p1_0).bind fun r18=>(bif r18 then some (.inr (.inr a12))else some (.inl (w64 (a12+1))))))else some (.inr (.inl ())))
def gQ(p0:(List cZ))(p1_0:bZ):Option Int :=
  ((loop (fY p0 p1_0) 0).bind fun | .inl _=>some (-1) | .inr rv=>some rv)
theorem w7(p0:(List cZ))(p1_0:bZ)(r:Int)(hF:gQ p0 p1_0=some r):Fun Tryz.prog 110 false [(5400,0)] [cL 7 bz p0,.c (.fn 69 [.ptr (5400,0)])] (aZ [((5400,0),.box [jI p1_0.fFrom,jI p1_0.fTo])]) (cI r) (aZ [((5400,0),.box [jI p1_0.fFrom,jI p1_0.fTo])]):=by
 refine fM [(5400,0)] (some [(5400,0)]) Tryz.func110 ?_
 unfold gQ at hF
 refine wA rfl ?_;refine az ?_;refine wC 1 rfl ?_;refine rS (d3 (tc:=bz) p0 .tree ?_);refine QV rfl ?_;refine fQ (fun _ _ h=>h) hF (.inl) (fun a12=>[(0,cL 7 bz p0),(1,.c (.fn 69 [.ptr (5400,0)])),(7,cI (List.length p0:Int)),(8,cI a12)]) (fun a12=>[((5400,0),.box [jI p1_0.fFrom,jI p1_0.fTo])]) (fun _=>[]) (fun _=>[((5400,0),.box [jI p1_0.fFrom,jI p1_0.fTo])]) sw ?_ ?_
 ·rintro⟨⟩ hF
  refine wA rfl ?_;cases hF
  exact bq ⟨_,_,fq,_,rfl,rfl,⟨rfl,fun _=>rfl⟩,(AgM.weak ⟨rfl,trivial⟩)⟩
 rintro a12 x_0 hF cont_0 brk_0 fin_0
 unfold fY at hF
 refine wA rfl ?_;refine az ?_;refine wIf hF rfl (fun _ hF=>?_) fun _ hF=>?_
 ·refine aJ ?_;refine az ?_;refine c7 ?_;refine wA rfl ?_;refine wC 3 rfl ?_;obtain⟨y17,hy17,hF⟩:=bB hF
  refine rS (cY (tc:=bz) p0 rfl rfl hy17 ?_);refine aX SV 1 rfl ?_;obtain⟨r18,hr18,hF⟩:=bB hF
  refine lq trivial (HJ (N5 _ rfl aZY) (LQ _ _ _ hr18) ⟨⟨rfl,rfl,rfl,rfl,rfl,rfl,rfl,trivial⟩,⟨_,rfl,⟨rfl,rfl,trivial⟩⟩,trivial⟩ rfl (.inl rfl) ?_);refine QV rfl ?_
  refine wIf hF rfl (fun _ hF=>?_) fun _ hF=>?_
  ·refine wA rfl ?_;have hF:=fin_0 _ (oi hF);cases hF
   exact bq ⟨_,_,fq,_,rfl,rfl,⟨rfl,fun _=>rfl⟩,(AgM.weak ⟨rfl,trivial⟩)⟩
  refine aJ ?_;refine wB rfl ?_;exact cont_0 _ _ _ (oi hF) sw
 refine dZ ?_;refine aQ ?_;refine aQ ?_;refine bj ?_;exact brk_0 _ _ _ (oi hF) sw
def d9(p0:(List cZ))(p1_0:bZ):Option Bool :=
  ((gQ p0 p1_0).bind fun r1=>some (decide (0≤r1)))
theorem u0(p0:(List cZ))(p1_0:bZ)(r:Bool)(hF:d9 p0 p1_0=some r):Fun Tryz.prog 68 false [(3720,0)] [cL 7 bz p0,.c (.fn 69 [.ptr (3720,0)])] (aZ [((3720,0),.box [jI p1_0.fFrom,jI p1_0.fTo])]) (cB r) (aZ [((3720,0),.box [jI p1_0.fFrom,jI p1_0.fTo])]):=by
 refine fM [(3720,0)] (some [(3720,0)]) Tryz.func68 ?_
 unfold d9 at hF
 refine wA rfl ?_;refine wC 2 rfl ?_;obtain⟨r1,hr1,hF⟩:=bB hF
 refine rS (tJ [((5400,0),(3720,0))] rfl (w7 _ _ _ hr1) ⟨rfl,trivial⟩ rfl rfl (.inr ⟨.inl rfl,.inl rfl,trivial⟩) ?_);refine QV rfl ?_;cases hF
 exact bq ⟨_,_,fq,_,rfl,rfl,⟨rfl,fun _=>rfl⟩,(AgM.weak ⟨rfl,trivial⟩)⟩
def o6(p0:eJ)(p1:bZ):Option Bool :=
  ((sx p0.fSpan p1).bind fun r1=>some (!r1))
theorem L7(p0:eJ)(p1:bZ)(r:Bool)(hF:o6 p0 p1=some r):Fun Tryz.prog 71 true [] [.agg (sK p0),.c (.ptrI [tI p1.fFrom,tI p1.fTo])] noHeap (cB r) noHeap:=by
 refine fW Tryz.func71 ?_
 unfold o6 at hF
 refine wA rfl ?_;refine wC 3 rfl ?_;obtain⟨r1,hr1,hF⟩:=bB hF
 refine rS (cq (EJ _ _ _ hr1) ⟨⟨rfl,rfl,trivial⟩,⟨rfl,rfl,trivial⟩,trivial⟩ rfl (.inl rfl) ?_);refine QV rfl ?_;cases hF
 exact bq wR
def fJ(p0:(List eJ))(p1_0:bZ):Int→Option (Int ⊕ (Unit ⊕ Int)):=fun a12 =>
  (bif (decide (a12<(List.length p0:Int)))then((idx p0 a12).bind fun y17=>((o6 y17 p1_0).bind fun r18=>(bif r18 then some (.inr (.inr a12))else some (.inl (w64 (a12+1))))))else some (.inr (.inl ())))
def gX(p0:(List eJ))(p1_0:bZ):Option Int :=
  ((loop (fJ p0 p1_0) 0).bind fun | .inl _=>some (-1) | .inr rv=>some rv)
theorem xq(p0:(List eJ))(p1_0:bZ)(r:Int)(hF:gX p0 p1_0=some r):Fun Tryz.prog 111 false [(5440,0)] [cL 7 cW p0,.c (.fn 71 [.ptr (5440,0)])] (aZ [((5440,0),.box [jI p1_0.fFrom,jI p1_0.fTo])]) (cI r) (aZ [((5440,0),.box [jI p1_0.fFrom,jI p1_0.fTo])]):=by
 refine fM [(5440,0)] (some [(5440,0)]) Tryz.func111 ?_
 unfold gX at hF
 refine wA rfl ?_;refine az ?_;refine wC 1 rfl ?_;refine rS (d3 (tc:=cW) p0 .tree ?_);refine QV rfl ?_;refine fQ (fun _ _ h=>h) hF (.inl) (fun a12=>[(0,cL 7 cW p0),(1,.c (.fn 71 [.ptr (5440,0)])),(7,cI (List.length p0:Int)),(8,cI a12)]) (fun a12=>[((5440,0),.box [jI p1_0.fFrom,jI p1_0.fTo])]) (fun _=>[]) (fun _=>[((5440,0),.box [jI p1_0.fFrom,jI p1_0.fTo])]) sw ?_ ?_
 ·rintro⟨⟩ hF
  refine wA rfl ?_;cases hF
  exact bq ⟨_,_,fq,_,rfl,rfl,⟨rfl,fun _=>rfl⟩,(AgM.weak ⟨rfl,trivial⟩)⟩
 rintro a12 x_0 hF cont_0 brk_0 fin_0
 unfold fJ at hF
 refine wA rfl ?_;refine az ?_;refine wIf hF rfl (fun _ hF=>?_) fun _ hF=>?_
 ·refine aJ ?_;refine az ?_;refine c7 ?_;refine wA rfl ?_;refine wC 3 rfl ?_;obtain⟨y17,hy17,hF⟩:=bB hF
  refine rS (cY (tc:=cW) p0 rfl rfl hy17 ?_);refine aX SV 1 rfl ?_;obtain⟨r18,hr18,hF⟩:=bB hF
  refine lq trivial (HJ (N5 _ rfl aXX) (L7 _ _ _ hr18) ⟨⟨rfl,rfl,rfl,rfl,rfl,rfl,rfl,trivial⟩,⟨_,rfl,⟨rfl,rfl,trivial⟩⟩,trivial⟩ rfl (.inl rfl) ?_);refine QV rfl ?_
  refine wIf hF rfl (fun _ hF=>?_) fun _ hF=>?_
  ·refine wA rfl ?_;have hF:=fin_0 _ (oi hF);cases hF
   exact bq ⟨_,_,fq,_,rfl,rfl,⟨rfl,fun _=>rfl⟩,(AgM.weak ⟨rfl,trivial⟩)⟩
  refine aJ ?_;refine wB rfl ?_;exact cont_0 _ _ _ (oi hF) sw
 refine dZ ?_;refine aQ ?_;refine aQ ?_;refine bj ?_;exact brk_0 _ _ _ (oi hF) sw
def ej(p0:(List eJ))(p1_0:bZ):Option Bool :=
  ((gX p0 p1_0).bind fun r1=>some (decide (0≤r1)))
theorem u6(p0:(List eJ))(p1_0:bZ)(r:Bool)(hF:ej p0 p1_0=some r):Fun Tryz.prog 70 false [(3800,0)] [cL 7 cW p0,.c (.fn 71 [.ptr (3800,0)])] (aZ [((3800,0),.box [jI p1_0.fFrom,jI p1_0.fTo])]) (cB r) (aZ [((3800,0),.box [jI p1_0.fFrom,jI p1_0.fTo])]):=by
 refine fM [(3800,0)] (some [(3800,0)]) Tryz.func70 ?_
 unfold ej at hF
 refine wA rfl ?_;refine wC 2 rfl ?_;obtain⟨r1,hr1,hF⟩:=bB hF
 refine rS (tJ [((5440,0),(3800,0))] rfl (xq _ _ _ hr1) ⟨rfl,trivial⟩ rfl rfl (.inr ⟨.inl rfl,.inl rfl,trivial⟩) ?_);refine QV rfl ?_;cases hF
 exact bq ⟨_,_,fq,_,rfl,rfl,⟨rfl,fun _=>rfl⟩,(AgM.weak ⟨rfl,trivial⟩)⟩
def pY(p0:bZ)(p1:Int):Option Bool :=
  (((bif (decide (p0.fFrom≤p1))then some (decide (p1<p0.fTo))else some false):Option Bool).bind fun v1=>some v1)
theorem Bj(p0:bZ)(p1:Int)(r:Bool)(hF:pY p0 p1=some r):Fun Tryz.prog 74 true [] [.agg [jI p0.fFrom,jI p0.fTo],cI p1] noHeap (cB r) noHeap:=by
 refine fW Tryz.func74 ?_
 unfold pY at hF
 refine wA rfl ?_;refine az ?_;refine cz (fun _ _ h=>h) hF (fun v1=>[(4,cB v1)]) (fun v1=>[]) ?_ ?_
 ·rintro v1 hF
  cases hF
  exact bq wR
 intro join hF
 refine wD 5 rfl ?_;cases h2:(decide (p0.fFrom≤p1))
 ·have hF:=bF' h2 hF;refine QV rfl ?_;exact join false _ _ hF sw
 have hF:=bT' h2 hF;refine QV rfl ?_;exact join (decide (p1<p0.fTo)) _ _ hF sw
def o7(p0:fX)(p1:bZ):Option Bool :=
  ((((pY p1 p0.fSend).bind fun r2=>(bif (!r2)then some true else((pY p1 p0.fRecv).bind fun r4=>some (!r4)))):Option Bool).bind fun v1=>some v1)
theorem Mj(p0:fX)(p1:bZ)(r:Bool)(hF:o7 p0 p1=some r):Fun Tryz.prog 73 true [] [.agg (HV p0),.c (.ptrI [tI p1.fFrom,tI p1.fTo])] noHeap (cB r) noHeap:=by
 refine fW Tryz.func73 ?_
 unfold o7 at hF
 refine wA rfl ?_;refine az ?_;refine cz (fun _ _ h=>h) hF (fun v1=>[(3,cB v1)]) (fun v1=>[]) ?_ ?_
 ·rintro v1 hF
  cases hF
  exact bq wR
 intro join hF
 refine wD 3 rfl ?_;obtain⟨r2,hr2,hF⟩:=bB' hF
 refine rS (cq (Bj _ _ _ hr2) ⟨⟨rfl,rfl,trivial⟩,rfl,trivial⟩ rfl (.inl rfl) ?_);refine aX SV 2 rfl ?_;cases h3:(!r2)
 ·have hF:=bF' h3 hF;refine aX SV 3 rfl ?_;obtain⟨r4,hr4,hF⟩:=bB' hF
  refine aV SV rfl (cq (Bj _ _ _ hr4) ⟨⟨rfl,rfl,trivial⟩,rfl,trivial⟩ rfl (.inl rfl) ?_);refine QV rfl ?_;exact join (!r4) _ _ hF sw
 have hF:=bT' h3 hF;refine QV rfl ?_;exact join true _ _ hF sw
def gq(p0:(List fX))(p1_0:bZ):Int→Option (Int ⊕ (Unit ⊕ Int)):=fun a12 =>
  (bif (decide (a12<(List.length p0:Int)))then((idx p0 a12).bind fun y17=>((o7 y17 p1_0).bind fun r18=>(bif r18 then some (.inr (.inr a12))else some (.inl (w64 (a12+1))))))else some (.inr (.inl ())))
def gW(p0:(List fX))(p1_0:bZ):Option Int :=
  ((loop (gq p0 p1_0) 0).bind fun | .inl _=>some (-1) | .inr rv=>some rv)
theorem yQ(p0:(List fX))(p1_0:bZ)(r:Int)(hF:gW p0 p1_0=some r):Fun Tryz.prog 112 false [(5480,0)] [cL 7 d5 p0,.c (.fn 73 [.ptr (5480,0)])] (aZ [((5480,0),.box [jI p1_0.fFrom,jI p1_0.fTo])]) (cI r) (aZ [((5480,0),.box [jI p1_0.fFrom,jI p1_0.fTo])]):=by
 refine fM [(5480,0)] (some [(5480,0)]) Tryz.func112 ?_
 unfold gW at hF
 refine wA rfl ?_;refine az ?_;refine wC 1 rfl ?_;refine rS (d3 (tc:=d5) p0 .tree ?_);refine QV rfl ?_;refine fQ (fun _ _ h=>h) hF (.inl) (fun a12=>[(0,cL 7 d5 p0),(1,.c (.fn 73 [.ptr (5480,0)])),(7,cI (List.length p0:Int)),(8,cI a12)]) (fun a12=>[((5480,0),.box [jI p1_0.fFrom,jI p1_0.fTo])]) (fun _=>[]) (fun _=>[((5480,0),.box [jI p1_0.fFrom,jI p1_0.fTo])]) sw ?_ ?_
 ·rintro⟨⟩ hF
  refine wA rfl ?_;cases hF
  exact bq ⟨_,_,fq,_,rfl,rfl,⟨rfl,fun _=>rfl⟩,(AgM.weak ⟨rfl,trivial⟩)⟩
 rintro a12 x_0 hF cont_0 brk_0 fin_0
 unfold gq at hF
 refine wA rfl ?_;refine az ?_;refine wIf hF rfl (fun _ hF=>?_) fun _ hF=>?_
 ·refine aJ ?_;refine az ?_;refine c7 ?_;refine wA rfl ?_;refine wC 3 rfl ?_;obtain⟨y17,hy17,hF⟩:=bB hF
  refine rS (cY (tc:=d5) p0 rfl rfl hy17 ?_);refine aX SV 1 rfl ?_;obtain⟨r18,hr18,hF⟩:=bB hF
  refine lq trivial (HJ (N5 _ rfl aWJ) (Mj _ _ _ hr18) ⟨⟨rfl,rfl,rfl,rfl,rfl,rfl,rfl,trivial⟩,⟨_,rfl,⟨rfl,rfl,trivial⟩⟩,trivial⟩ rfl (.inl rfl) ?_);refine QV rfl ?_
  refine wIf hF rfl (fun _ hF=>?_) fun _ hF=>?_
  ·refine wA rfl ?_;have hF:=fin_0 _ (oi hF);cases hF
   exact bq ⟨_,_,fq,_,rfl,rfl,⟨rfl,fun _=>rfl⟩,(AgM.weak ⟨rfl,trivial⟩)⟩
  refine aJ ?_;refine wB rfl ?_;exact cont_0 _ _ _ (oi hF) sw
 refine dZ ?_;refine aQ ?_;refine aQ ?_;refine bj ?_;exact brk_0 _ _ _ (oi hF) sw
def eZ(p0:(List fX))(p1_0:bZ):Option Bool :=
  ((gW p0 p1_0).bind fun r1=>some (decide (0≤r1)))
theorem wq(p0:(List fX))(p1_0:bZ)(r:Bool)(hF:eZ p0 p1_0=some r):Fun Tryz.prog 72 false [(3880,0)] [cL 7 d5 p0,.c (.fn 73 [.ptr (3880,0)])] (aZ [((3880,0),.box [jI p1_0.fFrom,jI p1_0.fTo])]) (cB r) (aZ [((3880,0),.box [jI p1_0.fFrom,jI p1_0.fTo])]):=by
 refine fM [(3880,0)] (some [(3880,0)]) Tryz.func72 ?_
 unfold eZ at hF
 refine wA rfl ?_;refine wC 2 rfl ?_;obtain⟨r1,hr1,hF⟩:=bB hF
 refine rS (tJ [((5480,0),(3880,0))] rfl (yQ _ _ _ hr1) ⟨rfl,trivial⟩ rfl rfl (.inr ⟨.inl rfl,.inl rfl,trivial⟩) ?_);refine QV rfl ?_;cases hF
 exact bq ⟨_,_,fq,_,rfl,rfl,⟨rfl,fun _=>rfl⟩,(AgM.weak ⟨rfl,trivial⟩)⟩
def o8(p0:eY)(p1:bZ):Option Bool :=
  ((pY p1 p0.fAt).bind fun r1=>some (!r1))
theorem Mq(p0:eY)(p1:bZ)(r:Bool)(hF:o8 p0 p1=some r):Fun Tryz.prog 76 true [] [.agg (GJ p0),.c (.ptrI [tI p1.fFrom,tI p1.fTo])] noHeap (cB r) noHeap:=by
 refine fW Tryz.func76 ?_
 unfold o8 at hF
 refine wA rfl ?_;refine wC 3 rfl ?_;obtain⟨r1,hr1,hF⟩:=bB hF
 refine rS (cq (Bj _ _ _ hr1) ⟨⟨rfl,rfl,trivial⟩,rfl,trivial⟩ rfl (.inl rfl) ?_);refine QV rfl ?_;cases hF
 exact bq wR
def fj(p0:(List eY))(p1_0:bZ):Int→Option (Int ⊕ (Unit ⊕ Int)):=fun a12 =>
  (bif (decide (a12<(List.length p0:Int)))then((idx p0 a12).bind fun y17=>((o8 y17 p1_0).bind fun r18=>(bif r18 then some (.inr (.inr a12))else some (.inl (w64 (a12+1))))))else some (.inr (.inl ())))
def f0(p0:(List eY))(p1_0:bZ):Option Int :=
  ((loop (fj p0 p1_0) 0).bind fun | .inl _=>some (-1) | .inr rv=>some rv)
theorem vz(p0:(List eY))(p1_0:bZ)(r:Int)(hF:f0 p0 p1_0=some r):Fun Tryz.prog 113 false [(5520,0)] [cL 4 dY p0,.c (.fn 76 [.ptr (5520,0)])] (aZ [((5520,0),.box [jI p1_0.fFrom,jI p1_0.fTo])]) (cI r) (aZ [((5520,0),.box [jI p1_0.fFrom,jI p1_0.fTo])]):=by
 refine fM [(5520,0)] (some [(5520,0)]) Tryz.func113 ?_
 unfold f0 at hF
 refine wA rfl ?_;refine az ?_;refine wC 1 rfl ?_;refine rS (d3 (tc:=dY) p0 .tree ?_);refine QV rfl ?_;refine fQ (fun _ _ h=>h) hF (.inl) (fun a12=>[(0,cL 4 dY p0),(1,.c (.fn 76 [.ptr (5520,0)])),(7,cI (List.length p0:Int)),(8,cI a12)]) (fun a12=>[((5520,0),.box [jI p1_0.fFrom,jI p1_0.fTo])]) (fun _=>[]) (fun _=>[((5520,0),.box [jI p1_0.fFrom,jI p1_0.fTo])]) sw ?_ ?_
 ·rintro⟨⟩ hF
  refine wA rfl ?_;cases hF
  exact bq ⟨_,_,fq,_,rfl,rfl,⟨rfl,fun _=>rfl⟩,(AgM.weak ⟨rfl,trivial⟩)⟩
 rintro a12 x_0 hF cont_0 brk_0 fin_0
 unfold fj at hF
 refine wA rfl ?_;refine az ?_;refine wIf hF rfl (fun _ hF=>?_) fun _ hF=>?_
 ·refine aJ ?_;refine az ?_;refine c7 ?_;refine wA rfl ?_;refine wC 3 rfl ?_;obtain⟨y17,hy17,hF⟩:=bB hF
  refine rS (cY (tc:=dY) p0 rfl rfl hy17 ?_);refine aX SV 1 rfl ?_;obtain⟨r18,hr18,hF⟩:=bB hF
  refine lq trivial (HJ (N5 _ rfl aYq) (Mq _ _ _ hr18) ⟨⟨rfl,rfl,rfl,rfl,trivial⟩,⟨_,rfl,⟨rfl,rfl,trivial⟩⟩,trivial⟩ rfl (.inl rfl) ?_);refine QV rfl ?_;refine wIf hF rfl (fun _ hF=>?_) fun _ hF=>?_
  ·refine wA rfl ?_;have hF:=fin_0 _ (oi hF);cases hF
   exact bq ⟨_,_,fq,_,rfl,rfl,⟨rfl,fun _=>rfl⟩,(AgM.weak ⟨rfl,trivial⟩)⟩
  refine aJ ?_;refine wB rfl ?_;exact cont_0 _ _ _ (oi hF) sw
 refine dZ ?_;refine aQ ?_;refine aQ ?_;refine bj ?_;exact brk_0 _ _ _ (oi hF) sw
def d4(p0:(List eY))(p1_0:bZ):Option Bool :=
  ((f0 p0 p1_0).bind fun r1=>some (decide (0≤r1)))
theorem tV(p0:(List eY))(p1_0:bZ)(r:Bool)(hF:d4 p0 p1_0=some r):Fun Tryz.prog 75 false [(4000,0)] [cL 4 dY p0,.c (.fn 76 [.ptr (4000,0)])] (aZ [((4000,0),.box [jI p1_0.fFrom,jI p1_0.fTo])]) (cB r) (aZ [((4000,0),.box [jI p1_0.fFrom,jI p1_0.fTo])]):=by
 refine fM [(4000,0)] (some [(4000,0)]) Tryz.func75 ?_
 unfold d4 at hF
 refine wA rfl ?_;refine wC 2 rfl ?_;obtain⟨r1,hr1,hF⟩:=bB hF
 refine rS (tJ [((5520,0),(4000,0))] rfl (vz _ _ _ hr1) ⟨rfl,trivial⟩ rfl rfl (.inr ⟨.inl rfl,.inl rfl,trivial⟩) ?_);refine QV rfl ?_;cases hF
 exact bq ⟨_,_,fq,_,rfl,rfl,⟨rfl,fun _=>rfl⟩,(AgM.weak ⟨rfl,trivial⟩)⟩
def oW(p0:jj)(p1:bZ):Option Bool :=
  ((pY p1 p0.fAt).bind fun r1=>some (!r1))
theorem MV(p0:jj)(p1:bZ)(r:Bool)(hF:oW p0 p1=some r):Fun Tryz.prog 78 true [] [.agg (MK p0),.c (.ptrI [tI p1.fFrom,tI p1.fTo])] noHeap (cB r) noHeap:=by
 refine fW Tryz.func78 ?_
 unfold oW at hF
 refine wA rfl ?_;refine wC 3 rfl ?_;obtain⟨r1,hr1,hF⟩:=bB hF
 refine rS (cq (Bj _ _ _ hr1) ⟨⟨rfl,rfl,trivial⟩,rfl,trivial⟩ rfl (.inl rfl) ?_);refine QV rfl ?_;cases hF
 exact bq wR
def f6(p0:(List jj))(p1_0:bZ):Int→Option (Int ⊕ (Unit ⊕ Int)):=fun a12 =>
  (bif (decide (a12<(List.length p0:Int)))then((idx p0 a12).bind fun y17=>((oW y17 p1_0).bind fun r18=>(bif r18 then some (.inr (.inr a12))else some (.inl (w64 (a12+1))))))else some (.inr (.inl ())))
def gY(p0:(List jj))(p1_0:bZ):Option Int :=
  ((loop (f6 p0 p1_0) 0).bind fun | .inl _=>some (-1) | .inr rv=>some rv)
theorem yj(p0:(List jj))(p1_0:bZ)(r:Int)(hF:gY p0 p1_0=some r):Fun Tryz.prog 114 false [(5560,0)] [cL 3 dW p0,.c (.fn 78 [.ptr (5560,0)])] (aZ [((5560,0),.box [jI p1_0.fFrom,jI p1_0.fTo])]) (cI r) (aZ [((5560,0),.box [jI p1_0.fFrom,jI p1_0.fTo])]):=by
 refine fM [(5560,0)] (some [(5560,0)]) Tryz.func114 ?_
 unfold gY at hF
 refine wA rfl ?_;refine az ?_;refine wC 1 rfl ?_;refine rS (d3 (tc:=dW) p0 .tree ?_);refine QV rfl ?_;refine fQ (fun _ _ h=>h) hF (.inl) (fun a12=>[(0,cL 3 dW p0),(1,.c (.fn 78 [.ptr (5560,0)])),(7,cI (List.length p0:Int)),(8,cI a12)]) (fun a12=>[((5560,0),.box [jI p1_0.fFrom,jI p1_0.fTo])]) (fun _=>[]) (fun _=>[((5560,0),.box [jI p1_0.fFrom,jI p1_0.fTo])]) sw ?_ ?_
 ·rintro⟨⟩ hF
  refine wA rfl ?_;cases hF
  exact bq ⟨_,_,fq,_,rfl,rfl,⟨rfl,fun _=>rfl⟩,(AgM.weak ⟨rfl,trivial⟩)⟩
 rintro a12 x_0 hF cont_0 brk_0 fin_0
 unfold f6 at hF
 refine wA rfl ?_;refine az ?_;refine wIf hF rfl (fun _ hF=>?_) fun _ hF=>?_
 ·refine aJ ?_;refine az ?_;refine c7 ?_;refine wA rfl ?_;refine wC 3 rfl ?_;obtain⟨y17,hy17,hF⟩:=bB hF
  refine rS (cY (tc:=dW) p0 rfl rfl hy17 ?_);refine aX SV 1 rfl ?_;obtain⟨r18,hr18,hF⟩:=bB hF
  refine lq trivial (HJ (N5 _ rfl aZQ) (MV _ _ _ hr18) ⟨⟨rfl,rfl,rfl,trivial⟩,⟨_,rfl,⟨rfl,rfl,trivial⟩⟩,trivial⟩ rfl (.inl rfl) ?_);refine QV rfl ?_;refine wIf hF rfl (fun _ hF=>?_) fun _ hF=>?_
  ·refine wA rfl ?_;have hF:=fin_0 _ (oi hF);cases hF
   exact bq ⟨_,_,fq,_,rfl,rfl,⟨rfl,fun _=>rfl⟩,(AgM.weak ⟨rfl,trivial⟩)⟩
  refine aJ ?_;refine wB rfl ?_;exact cont_0 _ _ _ (oi hF) sw
 refine dZ ?_;refine aQ ?_;refine aQ ?_;refine bj ?_;exact brk_0 _ _ _ (oi hF) sw
def eX(p0:(List jj))(p1_0:bZ):Option Bool :=
  ((gY p0 p1_0).bind fun r1=>some (decide (0≤r1)))
theorem wQ(p0:(List jj))(p1_0:bZ)(r:Bool)(hF:eX p0 p1_0=some r):Fun Tryz.prog 77 false [(4080,0)] [cL 3 dW p0,.c (.fn 78 [.ptr (4080,0)])] (aZ [((4080,0),.box [jI p1_0.fFrom,jI p1_0.fTo])]) (cB r) (aZ [((4080,0),.box [jI p1_0.fFrom,jI p1_0.fTo])]):=by
 refine fM [(4080,0)] (some [(4080,0)]) Tryz.func77 ?_
 unfold eX at hF
 refine wA rfl ?_;refine wC 2 rfl ?_;obtain⟨r1,hr1,hF⟩:=bB hF
 refine rS (tJ [((5560,0),(4080,0))] rfl (yj _ _ _ hr1) ⟨rfl,trivial⟩ rfl rfl (.inr ⟨.inl rfl,.inl rfl,trivial⟩) ?_);refine QV rfl ?_;cases hF
 exact bq ⟨_,_,fq,_,rfl,rfl,⟨rfl,fun _=>rfl⟩,(AgM.weak ⟨rfl,trivial⟩)⟩
def yY(p0:aY):Option Bool :=
  ((((eQ p0.fSlices p0.fSpan).bind fun r2=>(bif r2 then some true else((d9 p0.fStates p0.fSpan).bind fun r4=>(bif r4 then some true else((ej p0.fBlocks p0.fSpan).bind fun r6=>(bif r6 then some true else((eZ p0.fFlows p0.fSpan).bind fun r8=>(bif r8 then some true else((d4 p0.fSamples p0.fSpan).bind fun r10=>(bif r10 then some true else((eX p0.fSteps p0.fSpan).bind fun r12=>some r12))))))))))):Option Bool).bind fun v1=>some v1)
theorem TY(p0:aY)(r:Bool)(hF:yY p0=some r):Fun Tryz.prog 33 true [] [.agg (aW p0)] noHeap (cB r) noHeap:=by
 refine fW Tryz.func33 ?_
 unfold yY at hF
 refine wA rfl ?_;refine wA rfl ?_;refine az ?_;refine cz (fun _ _ h=>h) hF (fun v1=>[(2,cB v1)]) (fun v1=>[]) ?_ ?_
 ·rintro v1 hF
  cases hF
  exact bq wR
 intro join hF
 refine wD 3 rfl ?_;obtain⟨r2,hr2,hF⟩:=bB' hF
 refine rS (tJ [((3600,0),(3,0))] rfl (u1 _ _ _ hr2) ⟨rfl,trivial⟩ rfl rfl (.inr ⟨.inl rfl,.inl rfl,trivial⟩) ?_);refine aX SV 1 rfl ?_;cases h3:r2
 ·have hF:=bF' h3 hF;refine aX SV 3 rfl ?_;obtain⟨r4,hr4,hF⟩:=bB' hF
  refine aV SV rfl (tJ [((3720,0),(3,0))] rfl (u0 _ _ _ hr4) ⟨rfl,trivial⟩ rfl rfl (.inr ⟨.inl rfl,.inl rfl,trivial⟩) ?_);refine aX SV 2 rfl ?_
  cases h5:r4
  ·have hF:=bF' h5 hF;refine aX SV 3 rfl ?_;obtain⟨r6,hr6,hF⟩:=bB' hF
   refine aV SV rfl (tJ [((3800,0),(3,0))] rfl (u6 _ _ _ hr6) ⟨rfl,trivial⟩ rfl rfl (.inr ⟨.inl rfl,.inl rfl,trivial⟩) ?_);refine aX SV 2 rfl ?_
   cases h7:r6
   ·have hF:=bF' h7 hF;refine aX SV 3 rfl ?_;obtain⟨r8,hr8,hF⟩:=bB' hF
    refine aV SV rfl (tJ [((3880,0),(3,0))] rfl (wq _ _ _ hr8) ⟨rfl,trivial⟩ rfl rfl (.inr ⟨.inl rfl,.inl rfl,trivial⟩) ?_);refine aX SV 2 rfl ?_;cases h9:r8
    ·have hF:=bF' h9 hF;refine aX SV 3 rfl ?_;obtain⟨r10,hr10,hF⟩:=bB' hF
     refine aV SV rfl (tJ [((4000,0),(3,0))] rfl (tV _ _ _ hr10) ⟨rfl,trivial⟩ rfl rfl (.inr ⟨.inl rfl,.inl rfl,trivial⟩) ?_);refine aX SV 2 rfl ?_
     cases h11:r10
     ·have hF:=bF' h11 hF;refine aX SV 3 rfl ?_;obtain⟨r12,hr12,hF⟩:=bB' hF
      refine aV SV rfl (tJ [((4080,0),(3,0))] rfl (wQ _ _ _ hr12) ⟨rfl,trivial⟩ rfl rfl (.inr ⟨.inl rfl,.inl rfl,trivial⟩) ?_);refine QV rfl ?_;exact join r12 _ _ hF sw
     have hF:=bT' h11 hF;refine QV rfl ?_;exact join true _ _ hF sw
    have hF:=bT' h9 hF;refine QV rfl ?_;exact join true _ _ hF sw
   have hF:=bT' h7 hF;refine QV rfl ?_;exact join true _ _ hF sw
  have hF:=bT' h5 hF;refine QV rfl ?_;exact join true _ _ hF sw
 have hF:=bT' h3 hF;refine QV rfl ?_;exact join true _ _ hF sw
def sJ(p0:aY):Option Int :=
  ((uj p0).bind fun r1=>(bif (!decide (r1=0))then some r1 else(((bif (decide (p0.fSpan.fFrom<0))then some true else(bif (decide (p0.fSpan.fTo<p0.fSpan.fFrom))then some true else some (decide (1000000000000<p0.fSpan.fTo)))):Option Bool).bind fun v2=>(bif v2 then some 2 else((yY p0).bind fun r3=>(bif r3 then some 10 else some 0))))))
theorem M4(p0:aY)(r:Int)(hF:sJ p0=some r):Fun Tryz.prog 19 true [] [.agg (aW p0)] noHeap (cI r) noHeap:=by
 refine fW Tryz.func19 ?_
 unfold sJ at hF
 refine wA rfl ?_;refine az ?_;refine wC 1 rfl ?_;obtain⟨r1,hr1,hF⟩:=bB hF
 refine rS (cq (U6 _ _ hr1) ⟨⟨rfl,rfl,rfl,rfl,rfl,rfl,rfl,rfl,rfl,rfl,trivial⟩,trivial⟩ rfl (.inl rfl) ?_);refine QV rfl ?_;refine wA rfl ?_;refine wIf hF rfl (fun _ hF=>?_) fun _ hF=>?_
 ·refine wA rfl ?_;cases hF
  exact bq wR
 refine aJ ?_;refine az ?_;refine az ?_;refine cz (fun _ _ h=>h) hF (fun v2=>[(1,cP (1,0) 0),(27,cB v2)]) (fun v2=>[((1,0),.box (aW p0))]) ?_ ?_
 ·rintro v2 hF
  refine wIf hF rfl (fun _ hF=>?_) fun _ hF=>?_
  ·refine wA rfl ?_;cases hF
   exact bq wR
  refine aJ ?_;refine az ?_;refine wC 1 rfl ?_;obtain⟨r3,hr3,hF⟩:=bB hF
  refine rS (cq (TY _ _ hr3) ⟨⟨rfl,rfl,rfl,rfl,rfl,rfl,rfl,rfl,rfl,rfl,trivial⟩,trivial⟩ rfl (.inl rfl) ?_);refine QV rfl ?_;refine wIf hF rfl (fun _ hF=>?_) fun _ hF=>?_
  ·refine wA rfl ?_;cases hF
   exact bq wR
  refine aJ ?_;refine wA rfl ?_;cases hF
  exact bq wR
 intro join hF
 refine wD 5 rfl ?_;cases h6:(decide (p0.fSpan.fFrom<0))
 ·have hF:=bF' h6 hF;refine aX SV 9 rfl ?_;cases h7:(decide (p0.fSpan.fTo<p0.fSpan.fFrom))
  ·have hF:=bF' h7 hF;refine QV rfl ?_;exact join (decide (1000000000000<p0.fSpan.fTo)) _ _ hF sw
  have hF:=bT' h7 hF;refine QV rfl ?_;exact join true _ _ hF sw
 have hF:=bT' h6 hF;refine QV rfl ?_;exact join true _ _ hF sw
def iz(p0:aK):Option Int :=
  some (w64 (p0.fSpan.fTo-p0.fSpan.fFrom))
theorem oK(p0:aK)(r:Int)(hF:iz p0=some r):Fun Tryz.prog 22 true [] [.agg (i5 p0)] noHeap (cI r) noHeap:=by
 refine fW Tryz.func22 ?_
 unfold iz at hF
 refine wA rfl ?_;refine wA rfl ?_;cases hF
 exact bq wR
def uQ(p0:aY)(p1:ByteArray):((List Int)×Int)→Option (((List Int)×Int) ⊕ (List Int)):=fun(a23,a24) =>
  (bif (decide (a24<(List.length p0.fSlices:Int)))then((((idx p0.fSlices a24).bind fun y35=>(((bif (decide (y35.fName=p1))then some (!y35.fOpen)else some false):Option Bool).bind fun v36=>(bif v36 then((iz y35).bind fun r37=>(bif KV 8 (List.length a23+List.length [r37])then some (a23++[r37])else none))else some a23))):Option (List Int)).bind fun v34=>some (.inl (v34,(w64 (a24+1)))))else some (.inr a23))
def nK(p0:aY)(p1:ByteArray):Option (List Int) :=
  ((loop (uQ p0 p1) ([],0)).bind fun e33=>some e33)
theorem HW(p0:aY)(p1:ByteArray)(r:(List Int))(hF:nK p0 p1=some r):Fun Tryz.prog 20 false [] [.agg (aW p0),.c (jS p1)] (aZ []) (cO (902,800)) (aZ [((902,800),.arr 3 1 (List.map dV r))]):=by
 refine fM [] (some []) Tryz.func20 ?_
 unfold nK at hF
 refine wA rfl ?_;refine wA rfl ?_;refine az ?_;refine wC 2 rfl ?_;refine rS (d3 (tc:=aj) p0.fSlices .tree ?_);refine QV rfl ?_;refine fQ (fun _ _ h=>h) hF (id) (fun(a23,a24)=>[(1,.c (jS p1)),(5,cO (28,1)),(9,cL 8 aj p0.fSlices),(10,cI (List.length p0.fSlices:Int)),(11,cI a24)]) (fun(a23,a24)=>[((28,1),.arr 3 1 (List.map dV a23))]) (fun e33=>[(5,cO (28,1))]) (fun e33=>[((28,1),.arr 3 1 (List.map dV e33))]) (IW 5 (28,1) 3 1 rfl rfl rfl rfl sw) ?_ ?_
 ·rintro e33 hF
  refine wA rfl ?_;cases hF
  exact bq ⟨_,_,(vq (28,1) (902,800) rfl rfl fq),_,rfl,rfl,rfl,(AgM.weak ⟨rfl,trivial⟩)⟩
 rintro⟨a23,a24⟩ x_0 hF cont_0 brk_0 fin_0
 unfold uQ at hF
 refine wA rfl ?_;refine az ?_;refine wIf hF rfl (fun _ hF=>?_) fun _ hF=>?_
 ·refine aJ ?_;refine az ?_;refine cz (fun _ _ h=>h) hF (fun v34=>[(1,.c (jS p1)),(5,cO (28,1)),(9,cL 8 aj p0.fSlices),(10,cI (List.length p0.fSlices:Int)),(11,cI a24)]) (fun v34=>[((28,1),.arr 3 1 (List.map dV v34))]) ?_ ?_
  ·rintro v34 hF
   refine wB rfl ?_;exact cont_0 _ _ _ (oi hF) sw
  intro join hF
  refine c7 ?_;refine wE ?_;obtain⟨y35,hy35,hF⟩:=bB' hF
  refine rS (cY (tc:=aj) p0.fSlices rfl rfl hy35 ?_);refine QV rfl ?_;refine az ?_;have hF:=bA hF;refine cz (fun _ _ h=>h) hF (fun v36=>[(1,.c (jS p1)),(5,cO (28,1)),(7,cP (7,0) 0),(9,cL 8 aj p0.fSlices),(10,cI (List.length p0.fSlices:Int)),(11,cI a24),(23,cB v36)]) (fun v36=>[((28,1),.arr 3 1 (List.map dV a23)),((7,0),.box (i5 y35))]) ?_ ?_
  ·rintro v36 hF
   refine tW hF rfl (fun _ hF=>?_) fun _ hF=>?_
   ·refine wD 2 rfl ?_;obtain⟨r37,hr37,hF⟩:=bB' hF
    refine rS (cq (oK _ _ hr37) ⟨⟨rfl,rfl,rfl,rfl,rfl,rfl,rfl,rfl,trivial⟩,trivial⟩ rfl (.inl rfl) ?_);refine rS (AQ (tc:=dV) [r37] rfl ⟨rfl,trivial⟩ rfl (fun _=>rfl) rfl ?_)
    obtain⟨h38,hF⟩:=LV hF
    refine rS (Ej (tc:=dV) a23 [r37] rfl rfl (.own _ _ rfl) h38 rfl ?_);refine QV rfl ?_;exact join (a23++[r37]) _ _ hF (vq (28,0) (28,1) rfl rfl sw)
   refine aJ ?_;exact join a23 _ _ hF sw
  intro join hF
  refine wD 5 rfl ?_;cases h40:(decide (y35.fName=p1))
  ·have hF:=bF' h40 hF;refine QV rfl ?_;exact join false _ _ hF sw
  have hF:=bT' h40 hF;refine QV rfl ?_;exact join (!y35.fOpen) _ _ hF sw
 refine dZ ?_;refine aQ ?_;refine aQ ?_;refine bj ?_;exact brk_0 _ _ _ (oi hF) sw
def zZ(p0:(List Int)):Option (List Int):=some p0
theorem IV(p0:(List Int))(r:(List Int))(hF:zZ p0=some r):Fun Tryz.prog 80 false [] [cL 1 dV p0] (aZ []) (.c (.fn 117 [.ptr (902,3200)])) (aZ [((902,3200),.box [jL 1 dV r])]):=by
 cases hF
 exact azQ p0 (902,3200)
def Aq(p0_0:(List Int)):Option (List Int):=bif aNZ p0_0 then some (yJ p0_0)else none
theorem JZ(p0_0:(List Int))(r:(List Int))(hF:Aq p0_0=some r):Fun Tryz.prog 79 false [(4160,0)] [.c (.fn 117 [.ptr (4160,0)])] (aZ [((4160,0),.box [jL 1 dV p0_0])]) (cO (902,3160)) (aZ [((4160,0),.box [jL 1 dV p0_0]),((902,3160),.arr 3 1 (List.map dV r))]):=by
 obtain⟨h,hF⟩:=Hq hF
 cases hF
 exact awY p0_0 (Zz h).1 (Zz h).2 (4160,0) (902,3160) (by decide)
def x8(p0:Int)(p1:Int):Option (Int×Int) :=
  some ((IntKind.wrap .u64 ((IntKind.wrap .u64 ((IntKind.wrap .u64 ((shR .u64 p0 32)*(shR .u64 p1 32)))+(shR .u64 (IntKind.wrap .u64 ((IntKind.wrap .u64 ((shR .u64 p0 32)*(CV .u64 p1 4294967295)))+(shR .u64 (IntKind.wrap .u64 ((CV .u64 p0 4294967295)*(CV .u64 p1 4294967295))) 32))) 32)))+(shR .u64 (IntKind.wrap .u64 ((CV .u64 (IntKind.wrap .u64 ((IntKind.wrap .u64 ((shR .u64 p0 32)*(CV .u64 p1 4294967295)))+(shR .u64 (IntKind.wrap .u64 ((CV .u64 p0 4294967295)*(CV .u64 p1 4294967295))) 32))) 4294967295)+(IntKind.wrap .u64 ((CV .u64 p0 4294967295)*(shR .u64 p1 32))))) 32))),(IntKind.wrap .u64 (p0*p1)))
theorem P5(p0:Int)(p1:Int)(r:(Int×Int))(hF:x8 p0 p1=some r):Fun Tryz.prog 81 true [] [.c (.imm (.sc (.int .u64 p0))),.c (.imm (.sc (.int .u64 p1)))] noHeap (.tup [.c (.imm (.sc (.int .u64 r.1))),.c (.imm (.sc (.int .u64 r.2)))]) noHeap:=by
 refine fW Tryz.func81 ?_
 unfold x8 at hF
 refine wA rfl ?_;refine wA rfl ?_;refine wA rfl ?_;refine wA rfl ?_;refine wA rfl ?_;refine wA rfl ?_;refine wA rfl ?_;refine wA rfl ?_;refine wA rfl ?_;refine wA rfl ?_;refine wA rfl ?_;refine wA rfl ?_
 cases hF
 exact bq ⟨_,rfl,rfl,⟨⟨rfl,fun _=>rfl⟩,⟨rfl,fun _=>rfl⟩,trivial⟩,FV _⟩
def FZ(p0:Int):Option Int :=
  (((bif (decide (4294967296≤p0))then some ((shR .u64 p0 32),32)else some (p0,0)):Option (Int×Int)).bind fun(v1,v2)=>(((bif (decide (65536≤v1))then some ((shR .u64 v1 16),(w64 (v2+16)))else some (v1,v2)):Option (Int×Int)).bind fun(v3,v4)=>(((bif (decide (256≤v3))then some ((shR .u64 v3 8),(w64 (v4+8)))else some (v3,v4)):Option (Int×Int)).bind fun(v5,v6)=>((idx (ByteArray.data (⟨#[0,1,2,2,3,3,3,3,4,4,4,4,4,4,4,4,5,5,5,5,5,5,5,5,5,5,5,5,5,5,5,5,6,6,6,6,6,6,6,6,6,6,6,6,6,6,6,6,6,6,6,6,6,6,6,6,6,6,6,6,6,6,6,6,7,7,7,7,7,7,7,7,7,7,7,7,7,7,7,7,7,7,7,7,7,7,7,7,7,7,7,7,7,7,7,7,7,7,7,7,7,7,7,7,7,7,7,7,7,7,7,7,7,7,7,7,7,7,7,7,7,7,7,7,7,7,7,7,8,8,8,8,8,8,8,8,8,8,8,8,8,8,8,8,8,8,8,8,8,8,8,8,8,8,8,8,8,8,8,8,8,8,8,8,8,8,8,8,8,8,8,8,8,8,8,8,8,8,8,8,8,8,8,8,8,8,8,8,8,8,8,8,8,8,8,8,8,8,8,8,8,8,8,8,8,8,8,8,8,8,8,8,8,8,8,8,8,8,8,8,8,8,8,8,8,8,8,8,8,8,8,8,8,8,8,8,8,8,8,8,8,8,8,8,8,8,8,8,8,8,8,8,8,8,8,8]⟩ : ByteArray)).toList (IntKind.wrap .u8 v5)).bind fun y7=>some (w64 (v6+(w64 (UInt8.toNat y7:Int))))))))
theorem Qq(p0:Int)(r:Int)(hF:FZ p0=some r):Fun Tryz.prog 137 true [] [.c (.imm (.sc (.int .u64 p0)))] noHeap (cI r) noHeap:=by
 refine Fun.of_walk0 Tryz.func137 a2Q (by kernel_rfl) (rs:=[.tmp 2]) (by kernel_rfl) ?_;unfold a0z
 unfold FZ at hF
 refine wA rfl ?_;refine az ?_;refine wA rfl ?_;refine cz (fun _ _ h=>h) hF (fun(v1,v2)=>[(0,.c (.imm (.sc (.int .u64 v1)))),(2,cI v2)]) (fun(v1,v2)=>[]) ?_ ?_
 ·rintro⟨v1,v2⟩ hF
  refine az ?_;refine wA rfl ?_;refine cz (fun _ _ h=>h) hF (fun(v3,v4)=>[(0,.c (.imm (.sc (.int .u64 v3)))),(2,cI v4)]) (fun(v3,v4)=>[]) ?_ ?_
  ·rintro⟨v3,v4⟩ hF
   refine az ?_;refine wA rfl ?_;refine cz (fun _ _ h=>h) hF (fun(v5,v6)=>[(0,.c (.imm (.sc (.int .u64 v5)))),(2,cI v6)]) (fun(v5,v6)=>[]) ?_ ?_
   ·rintro⟨v5,v6⟩ hF
    refine wC 3 rfl ?_;obtain⟨y7,hy7,hF⟩:=bB hF
    refine rS (aCQ (⟨#[0,1,2,2,3,3,3,3,4,4,4,4,4,4,4,4,5,5,5,5,5,5,5,5,5,5,5,5,5,5,5,5,6,6,6,6,6,6,6,6,6,6,6,6,6,6,6,6,6,6,6,6,6,6,6,6,6,6,6,6,6,6,6,6,7,7,7,7,7,7,7,7,7,7,7,7,7,7,7,7,7,7,7,7,7,7,7,7,7,7,7,7,7,7,7,7,7,7,7,7,7,7,7,7,7,7,7,7,7,7,7,7,7,7,7,7,7,7,7,7,7,7,7,7,7,7,7,7,8,8,8,8,8,8,8,8,8,8,8,8,8,8,8,8,8,8,8,8,8,8,8,8,8,8,8,8,8,8,8,8,8,8,8,8,8,8,8,8,8,8,8,8,8,8,8,8,8,8,8,8,8,8,8,8,8,8,8,8,8,8,8,8,8,8,8,8,8,8,8,8,8,8,8,8,8,8,8,8,8,8,8,8,8,8,8,8,8,8,8,8,8,8,8,8,8,8,8,8,8,8,8,8,8,8,8,8,8,8,8,8,8,8,8,8,8,8,8,8,8,8,8,8,8,8,8,8]⟩ : ByteArray) rfl rfl hy7 ?_)
    refine QV rfl ?_;cases hF
    exact bq wR
   intro join hF
   refine tW hF rfl (fun _ hF=>?_) fun _ hF=>?_
   ·refine wA rfl ?_;refine wB rfl ?_;exact join ((shR .u64 v3 8),(w64 (v4+8))) _ _ hF sw
   refine aJ ?_;exact join (v3,v4) _ _ hF sw
  intro join hF
  refine tW hF rfl (fun _ hF=>?_) fun _ hF=>?_
  ·refine wA rfl ?_;refine wB rfl ?_;exact join ((shR .u64 v1 16),(w64 (v2+16))) _ _ hF sw
  refine aJ ?_;exact join (v1,v2) _ _ hF sw
 intro join hF
 refine tW hF rfl (fun _ hF=>?_) fun _ hF=>?_
 ·refine wA rfl ?_;refine wB rfl ?_;exact join ((shR .u64 p0 32),32) _ _ hF sw
 refine aJ ?_;exact join (p0,0) _ _ hF sw
def u3(p0:Int):Option Int :=
  ((FZ p0).bind fun r1=>some (w64 (64-r1)))
theorem Fz(p0:Int)(r:Int)(hF:u3 p0=some r):Fun Tryz.prog 118 true [] [.c (.imm (.sc (.int .u64 p0)))] noHeap (cI r) noHeap:=by
 refine fW Tryz.func118 ?_
 unfold u3 at hF
 refine wA rfl ?_;refine wC 1 rfl ?_;obtain⟨r1,hr1,hF⟩:=bB hF
 refine rS (cq (Qq _ _ hr1) ⟨rfl,trivial⟩ rfl (.inl rfl) ?_);refine QV rfl ?_;cases hF
 exact bq wR
def HQ(p1:Int)(p2:Int)(r3:Int):(Int×Int)→Option ((Int×Int) ⊕ Int):=fun(a45,a46) =>
  (((bif (decide (4294967296≤a46))then some true else some (decide ((IntKind.wrap .u64 ((IntKind.wrap .u64 (4294967296*a45))+(CV .u64 (shL .u64 p1 (IntKind.wrap .u64 r3)) 4294967295)))<(IntKind.wrap .u64 (a46*(CV .u64 (shL .u64 p2 (IntKind.wrap .u64 r3)) 4294967295)))))):Option Bool).bind fun v53=>(bif v53 then(bif (decide (4294967296≤(IntKind.wrap .u64 (a45+(shR .u64 (shL .u64 p2 (IntKind.wrap .u64 r3)) 32)))))then some (.inr (IntKind.wrap .u64 (a46-1)))else some (.inl ((IntKind.wrap .u64 (a45+(shR .u64 (shL .u64 p2 (IntKind.wrap .u64 r3)) 32))),(IntKind.wrap .u64 (a46-1)))))else some (.inr a46)))
def HX(p1:Int)(p2:Int)(r3:Int):(Int×Int)→Option ((Int×Int) ⊕ Int):=fun(a23,a24) =>
  (((bif (decide (4294967296≤a23))then some true else some (decide ((IntKind.wrap .u64 ((IntKind.wrap .u64 (4294967296*a24))+(shR .u64 (shL .u64 p1 (IntKind.wrap .u64 r3)) 32)))<(IntKind.wrap .u64 (a23*(CV .u64 (shL .u64 p2 (IntKind.wrap .u64 r3)) 4294967295)))))):Option Bool).bind fun v57=>(bif v57 then(bif (decide (4294967296≤(IntKind.wrap .u64 (a24+(shR .u64 (shL .u64 p2 (IntKind.wrap .u64 r3)) 32)))))then some (.inr (IntKind.wrap .u64 (a23-1)))else some (.inl ((IntKind.wrap .u64 (a23-1)),(IntKind.wrap .u64 (a24+(shR .u64 (shL .u64 p2 (IntKind.wrap .u64 r3)) 32))))))else some (.inr a23)))
def x6(p0:Int)(p1:Int)(p2:Int):Option (Int×Int) :=
  (bif (decide (p2=0))then none else(bif (decide (p2≤p0))then none else(bif (decide (p0=0))then(bif decide (p2≠0)then(bif decide (p2≠0)then some ((IntKind.wrap .u64 (Int.tdiv p1 p2)),(Int.tmod p1 p2))else none)else none)else((u3 p2).bind fun r3=>(bif decide (0≤(IntKind.wrap .u64 r3))then(bif decide (0≤(IntKind.wrap .u64 r3))then(bif decide (0≤(IntKind.wrap .u64 (64-(IntKind.wrap .u64 r3))))then(bif decide (0≤(IntKind.wrap .u64 r3))then(bif decide ((shR .u64 (shL .u64 p2 (IntKind.wrap .u64 r3)) 32)≠0)then((loop (HX p1 p2 r3) ((IntKind.wrap .u64 (Int.tdiv (bOr .u64 (shL .u64 p0 (IntKind.wrap .u64 r3)) (shR .u64 p1 (IntKind.wrap .u64 (64-(IntKind.wrap .u64 r3))))) (shR .u64 (shL .u64 p2 (IntKind.wrap .u64 r3)) 32))),(IntKind.wrap .u64 ((bOr .u64 (shL .u64 p0 (IntKind.wrap .u64 r3)) (shR .u64 p1 (IntKind.wrap .u64 (64-(IntKind.wrap .u64 r3)))))-(IntKind.wrap .u64 ((IntKind.wrap .u64 (Int.tdiv (bOr .u64 (shL .u64 p0 (IntKind.wrap .u64 r3)) (shR .u64 p1 (IntKind.wrap .u64 (64-(IntKind.wrap .u64 r3))))) (shR .u64 (shL .u64 p2 (IntKind.wrap .u64 r3)) 32)))*(shR .u64 (shL .u64 p2 (IntKind.wrap .u64 r3)) 32))))))).bind fun e29=>(bif decide ((shR .u64 (shL .u64 p2 (IntKind.wrap .u64 r3)) 32)≠0)then((loop (HQ p1 p2 r3) ((IntKind.wrap .u64 ((IntKind.wrap .u64 ((IntKind.wrap .u64 ((IntKind.wrap .u64 ((bOr .u64 (shL .u64 p0 (IntKind.wrap .u64 r3)) (shR .u64 p1 (IntKind.wrap .u64 (64-(IntKind.wrap .u64 r3)))))*4294967296))+(shR .u64 (shL .u64 p1 (IntKind.wrap .u64 r3)) 32)))-(IntKind.wrap .u64 (e29*(shL .u64 p2 (IntKind.wrap .u64 r3))))))-(IntKind.wrap .u64 ((IntKind.wrap .u64 (Int.tdiv (IntKind.wrap .u64 ((IntKind.wrap .u64 ((IntKind.wrap .u64 ((bOr .u64 (shL .u64 p0 (IntKind.wrap .u64 r3)) (shR .u64 p1 (IntKind.wrap .u64 (64-(IntKind.wrap .u64 r3)))))*4294967296))+(shR .u64 (shL .u64 p1 (IntKind.wrap .u64 r3)) 32)))-(IntKind.wrap .u64 (e29*(shL .u64 p2 (IntKind.wrap .u64 r3)))))) (shR .u64 (shL .u64 p2 (IntKind.wrap .u64 r3)) 32)))*(shR .u64 (shL .u64 p2 (IntKind.wrap .u64 r3)) 32))))),(IntKind.wrap .u64 (Int.tdiv (IntKind.wrap .u64 ((IntKind.wrap .u64 ((IntKind.wrap .u64 ((bOr .u64 (shL .u64 p0 (IntKind.wrap .u64 r3)) (shR .u64 p1 (IntKind.wrap .u64 (64-(IntKind.wrap .u64 r3)))))*4294967296))+(shR .u64 (shL .u64 p1 (IntKind.wrap .u64 r3)) 32)))-(IntKind.wrap .u64 (e29*(shL .u64 p2 (IntKind.wrap .u64 r3)))))) (shR .u64 (shL .u64 p2 (IntKind.wrap .u64 r3)) 32))))).bind fun e51=>(bif decide (0≤(IntKind.wrap .u64 r3))then some ((IntKind.wrap .u64 ((IntKind.wrap .u64 (e29*4294967296))+e51)),(shR .u64 (IntKind.wrap .u64 ((IntKind.wrap .u64 ((IntKind.wrap .u64 ((IntKind.wrap .u64 ((IntKind.wrap .u64 ((IntKind.wrap .u64 ((bOr .u64 (shL .u64 p0 (IntKind.wrap .u64 r3)) (shR .u64 p1 (IntKind.wrap .u64 (64-(IntKind.wrap .u64 r3)))))*4294967296))+(shR .u64 (shL .u64 p1 (IntKind.wrap .u64 r3)) 32)))-(IntKind.wrap .u64 (e29*(shL .u64 p2 (IntKind.wrap .u64 r3))))))*4294967296))+(CV .u64 (shL .u64 p1 (IntKind.wrap .u64 r3)) 4294967295)))-(IntKind.wrap .u64 (e51*(shL .u64 p2 (IntKind.wrap .u64 r3)))))) (IntKind.wrap .u64 r3)))else none))else none))else none)else none)else none)else none)else none)))))
theorem P6(p0:Int)(p1:Int)(p2:Int)(r:(Int×Int))(hF:x6 p0 p1 p2=some r):Fun Tryz.prog 82 true [] [.c (.imm (.sc (.int .u64 p0))),.c (.imm (.sc (.int .u64 p1))),.c (.imm (.sc (.int .u64 p2)))] noHeap (.tup [.c (.imm (.sc (.int .u64 r.1))),.c (.imm (.sc (.int .u64 r.2)))]) noHeap:=by
 refine fW Tryz.func82 ?_
 unfold x6 at hF
 refine wA rfl ?_;refine az ?_;refine wA rfl ?_;refine wIf hF rfl (fun _ hF=>?_) fun _ hF=>?_
 ·simp at hF
 refine aJ ?_;refine az ?_;refine wA rfl ?_;refine wIf hF rfl (fun _ hF=>?_) fun _ hF=>?_
 ·simp at hF
 refine aJ ?_;refine az ?_;refine wA rfl ?_;refine wIf hF rfl (fun _ hF=>?_) fun _ hF=>?_
 ·refine az ?_;refine hZ (by decide) (by kernel_rfl) rfl ?_;refine aX SP 2 rfl ?_;obtain⟨h1,hF⟩:=Hq hF
  refine aV SP trivial (T9 (aYz .u64 p1 p2 (of_decide_eq_true h1)) ?_);refine aX SP 2 rfl ?_;obtain⟨h2,hF⟩:=Hq hF
  refine aV SP trivial (T9 (a2V .u64 p1 p2 (of_decide_eq_true h2)) ?_);refine QP rfl ?_;cases hF
  exact bq ⟨_,rfl,rfl,⟨⟨rfl,fun _=>rfl⟩,⟨rfl,fun _=>rfl⟩,trivial⟩,FV _⟩
 refine aJ ?_;refine wC 1 rfl ?_;obtain⟨r3,hr3,hF⟩:=bB hF
 refine rS (cq (Fz _ _ hr3) ⟨rfl,trivial⟩ rfl (.inl rfl) ?_);refine QV rfl ?_;refine wC 2 rfl ?_;obtain⟨h4,hF⟩:=Hq hF
 refine rS (T9 (aZz .u64 .u64 p2 (IntKind.wrap .u64 r3) (of_decide_eq_true h4)) ?_);refine QV rfl ?_;refine wA rfl ?_;refine wA rfl ?_;refine wC 2 rfl ?_;obtain⟨h5,hF⟩:=Hq hF
 refine rS (T9 (aZz .u64 .u64 p0 (IntKind.wrap .u64 r3) (of_decide_eq_true h5)) ?_);refine aX SV 3 rfl ?_;obtain⟨h6,hF⟩:=Hq hF
 refine rS (T9 (a1W .u64 .u64 p1 (IntKind.wrap .u64 (64-(IntKind.wrap .u64 r3))) (of_decide_eq_true h6)) ?_);refine QV rfl ?_;refine wC 2 rfl ?_;obtain⟨h7,hF⟩:=Hq hF
 refine rS (T9 (aZz .u64 .u64 p1 (IntKind.wrap .u64 r3) (of_decide_eq_true h7)) ?_);refine QV rfl ?_;refine wA rfl ?_;refine wA rfl ?_;refine wC 2 rfl ?_;obtain⟨h8,hF⟩:=Hq hF
 refine rS (T9 (aYz .u64 (bOr .u64 (shL .u64 p0 (IntKind.wrap .u64 r3)) (shR .u64 p1 (IntKind.wrap .u64 (64-(IntKind.wrap .u64 r3))))) (shR .u64 (shL .u64 p2 (IntKind.wrap .u64 r3)) 32) (of_decide_eq_true h8)) ?_)
 refine QV rfl ?_;refine wA rfl ?_;refine az ?_;refine fQ (fun _ _ h=>h) hF (id) (fun(a23,a24)=>[(2,.c (.imm (.sc (.int .u64 (shL .u64 p2 (IntKind.wrap .u64 r3)))))),(8,.c (.imm (.sc (.int .u64 (IntKind.wrap .u64 r3))))),(9,.c (.imm (.sc (.int .u64 (shR .u64 (shL .u64 p2 (IntKind.wrap .u64 r3)) 32))))),(10,.c (.imm (.sc (.int .u64 (CV .u64 (shL .u64 p2 (IntKind.wrap .u64 r3)) 4294967295))))),(11,.c (.imm (.sc (.int .u64 (bOr .u64 (shL .u64 p0 (IntKind.wrap .u64 r3)) (shR .u64 p1 (IntKind.wrap .u64 (64-(IntKind.wrap .u64 r3))))))))),(13,.c (.imm (.sc (.int .u64 (shR .u64 (shL .u64 p1 (IntKind.wrap .u64 r3)) 32))))),(14,.c (.imm (.sc (.int .u64 (CV .u64 (shL .u64 p1 (IntKind.wrap .u64 r3)) 4294967295))))),(15,.c (.imm (.sc (.int .u64 a23)))),(16,.c (.imm (.sc (.int .u64 a24))))]) (fun(a23,a24)=>[]) (fun e29=>[(2,.c (.imm (.sc (.int .u64 (shL .u64 p2 (IntKind.wrap .u64 r3)))))),(8,.c (.imm (.sc (.int .u64 (IntKind.wrap .u64 r3))))),(9,.c (.imm (.sc (.int .u64 (shR .u64 (shL .u64 p2 (IntKind.wrap .u64 r3)) 32))))),(10,.c (.imm (.sc (.int .u64 (CV .u64 (shL .u64 p2 (IntKind.wrap .u64 r3)) 4294967295))))),(11,.c (.imm (.sc (.int .u64 (bOr .u64 (shL .u64 p0 (IntKind.wrap .u64 r3)) (shR .u64 p1 (IntKind.wrap .u64 (64-(IntKind.wrap .u64 r3))))))))),(13,.c (.imm (.sc (.int .u64 (shR .u64 (shL .u64 p1 (IntKind.wrap .u64 r3)) 32))))),(14,.c (.imm (.sc (.int .u64 (CV .u64 (shL .u64 p1 (IntKind.wrap .u64 r3)) 4294967295))))),(15,.c (.imm (.sc (.int .u64 e29))))]) (fun e29=>[]) sw ?_ ?_
 ·rintro e29 hF
  refine wA rfl ?_;refine wC 2 rfl ?_;obtain⟨h30,hF⟩:=Hq hF
  refine rS (T9 (aYz .u64 (IntKind.wrap .u64 ((IntKind.wrap .u64 ((IntKind.wrap .u64 ((bOr .u64 (shL .u64 p0 (IntKind.wrap .u64 r3)) (shR .u64 p1 (IntKind.wrap .u64 (64-(IntKind.wrap .u64 r3)))))*4294967296))+(shR .u64 (shL .u64 p1 (IntKind.wrap .u64 r3)) 32)))-(IntKind.wrap .u64 (e29*(shL .u64 p2 (IntKind.wrap .u64 r3)))))) (shR .u64 (shL .u64 p2 (IntKind.wrap .u64 r3)) 32) (of_decide_eq_true h30)) ?_)
  refine QV rfl ?_;refine wA rfl ?_;refine az ?_;refine fQ (fun _ _ h=>h) hF (id) (fun(a45,a46)=>[(2,.c (.imm (.sc (.int .u64 (shL .u64 p2 (IntKind.wrap .u64 r3)))))),(8,.c (.imm (.sc (.int .u64 (IntKind.wrap .u64 r3))))),(9,.c (.imm (.sc (.int .u64 (shR .u64 (shL .u64 p2 (IntKind.wrap .u64 r3)) 32))))),(10,.c (.imm (.sc (.int .u64 (CV .u64 (shL .u64 p2 (IntKind.wrap .u64 r3)) 4294967295))))),(14,.c (.imm (.sc (.int .u64 (CV .u64 (shL .u64 p1 (IntKind.wrap .u64 r3)) 4294967295))))),(15,.c (.imm (.sc (.int .u64 e29)))),(16,.c (.imm (.sc (.int .u64 a45)))),(17,.c (.imm (.sc (.int .u64 (IntKind.wrap .u64 ((IntKind.wrap .u64 ((IntKind.wrap .u64 ((bOr .u64 (shL .u64 p0 (IntKind.wrap .u64 r3)) (shR .u64 p1 (IntKind.wrap .u64 (64-(IntKind.wrap .u64 r3)))))*4294967296))+(shR .u64 (shL .u64 p1 (IntKind.wrap .u64 r3)) 32)))-(IntKind.wrap .u64 (e29*(shL .u64 p2 (IntKind.wrap .u64 r3)))))))))),(18,.c (.imm (.sc (.int .u64 a46))))]) (fun(a45,a46)=>[]) (fun e51=>[(2,.c (.imm (.sc (.int .u64 (shL .u64 p2 (IntKind.wrap .u64 r3)))))),(8,.c (.imm (.sc (.int .u64 (IntKind.wrap .u64 r3))))),(14,.c (.imm (.sc (.int .u64 (CV .u64 (shL .u64 p1 (IntKind.wrap .u64 r3)) 4294967295))))),(15,.c (.imm (.sc (.int .u64 e29)))),(17,.c (.imm (.sc (.int .u64 (IntKind.wrap .u64 ((IntKind.wrap .u64 ((IntKind.wrap .u64 ((bOr .u64 (shL .u64 p0 (IntKind.wrap .u64 r3)) (shR .u64 p1 (IntKind.wrap .u64 (64-(IntKind.wrap .u64 r3)))))*4294967296))+(shR .u64 (shL .u64 p1 (IntKind.wrap .u64 r3)) 32)))-(IntKind.wrap .u64 (e29*(shL .u64 p2 (IntKind.wrap .u64 r3)))))))))),(18,.c (.imm (.sc (.int .u64 e51))))]) (fun e51=>[]) sw ?_ ?_
  ·rintro e51 hF
   refine wC 13 rfl ?_;obtain⟨h52,hF⟩:=Hq hF
   refine rS (T9 (a1W .u64 .u64 (IntKind.wrap .u64 ((IntKind.wrap .u64 ((IntKind.wrap .u64 ((IntKind.wrap .u64 ((IntKind.wrap .u64 ((IntKind.wrap .u64 ((bOr .u64 (shL .u64 p0 (IntKind.wrap .u64 r3)) (shR .u64 p1 (IntKind.wrap .u64 (64-(IntKind.wrap .u64 r3)))))*4294967296))+(shR .u64 (shL .u64 p1 (IntKind.wrap .u64 r3)) 32)))-(IntKind.wrap .u64 (e29*(shL .u64 p2 (IntKind.wrap .u64 r3))))))*4294967296))+(CV .u64 (shL .u64 p1 (IntKind.wrap .u64 r3)) 4294967295)))-(IntKind.wrap .u64 (e51*(shL .u64 p2 (IntKind.wrap .u64 r3)))))) (IntKind.wrap .u64 r3) (of_decide_eq_true h52)) ?_)
   refine QV rfl ?_;cases hF
   exact bq ⟨_,rfl,rfl,⟨⟨rfl,fun _=>rfl⟩,⟨rfl,fun _=>rfl⟩,trivial⟩,FV _⟩
  rintro⟨a45,a46⟩ x_0 hF cont_0 brk_0 fin_0
  unfold HQ at hF
  refine az ?_;refine az ?_;refine cz (fun _ _ h=>h) hF (fun v53=>[(2,.c (.imm (.sc (.int .u64 (shL .u64 p2 (IntKind.wrap .u64 r3)))))),(8,.c (.imm (.sc (.int .u64 (IntKind.wrap .u64 r3))))),(9,.c (.imm (.sc (.int .u64 (shR .u64 (shL .u64 p2 (IntKind.wrap .u64 r3)) 32))))),(10,.c (.imm (.sc (.int .u64 (CV .u64 (shL .u64 p2 (IntKind.wrap .u64 r3)) 4294967295))))),(14,.c (.imm (.sc (.int .u64 (CV .u64 (shL .u64 p1 (IntKind.wrap .u64 r3)) 4294967295))))),(15,.c (.imm (.sc (.int .u64 e29)))),(16,.c (.imm (.sc (.int .u64 a45)))),(17,.c (.imm (.sc (.int .u64 (IntKind.wrap .u64 ((IntKind.wrap .u64 ((IntKind.wrap .u64 ((bOr .u64 (shL .u64 p0 (IntKind.wrap .u64 r3)) (shR .u64 p1 (IntKind.wrap .u64 (64-(IntKind.wrap .u64 r3)))))*4294967296))+(shR .u64 (shL .u64 p1 (IntKind.wrap .u64 r3)) 32)))-(IntKind.wrap .u64 (e29*(shL .u64 p2 (IntKind.wrap .u64 r3)))))))))),(18,.c (.imm (.sc (.int .u64 a46)))),(113,cB v53)]) (fun v53=>[]) ?_ ?_
  ·rintro v53 hF
   refine wIf hF rfl (fun _ hF=>?_) fun _ hF=>?_
   ·refine aJ ?_;refine c7 ?_;refine wA rfl ?_;refine wA rfl ?_;refine wA rfl ?_;refine wIf hF rfl (fun _ hF=>?_) fun _ hF=>?_
    ·refine dZ ?_;refine W7 (by decide) ?_;refine aQ ?_;refine bj ?_;exact brk_0 _ _ _ (oi hF) sw
    refine aJ ?_;exact cont_0 _ _ _ (oi hF) sw
   refine dZ ?_;refine aQ ?_;refine aQ ?_;refine bj ?_;exact brk_0 _ _ _ (oi hF) sw
  intro join hF
  refine wD 3 rfl ?_;cases h56:(decide (4294967296≤a46))
  ·have hF:=bF' h56 hF;refine QV rfl ?_;exact join (decide ((IntKind.wrap .u64 ((IntKind.wrap .u64 (4294967296*a45))+(CV .u64 (shL .u64 p1 (IntKind.wrap .u64 r3)) 4294967295)))<(IntKind.wrap .u64 (a46*(CV .u64 (shL .u64 p2 (IntKind.wrap .u64 r3)) 4294967295))))) _ _ hF sw
  have hF:=bT' h56 hF;refine QV rfl ?_;exact join true _ _ hF sw
 rintro⟨a23,a24⟩ x_0 hF cont_0 brk_0 fin_0
 unfold HX at hF
 refine az ?_;refine az ?_;refine cz (fun _ _ h=>h) hF (fun v57=>[(2,.c (.imm (.sc (.int .u64 (shL .u64 p2 (IntKind.wrap .u64 r3)))))),(8,.c (.imm (.sc (.int .u64 (IntKind.wrap .u64 r3))))),(9,.c (.imm (.sc (.int .u64 (shR .u64 (shL .u64 p2 (IntKind.wrap .u64 r3)) 32))))),(10,.c (.imm (.sc (.int .u64 (CV .u64 (shL .u64 p2 (IntKind.wrap .u64 r3)) 4294967295))))),(11,.c (.imm (.sc (.int .u64 (bOr .u64 (shL .u64 p0 (IntKind.wrap .u64 r3)) (shR .u64 p1 (IntKind.wrap .u64 (64-(IntKind.wrap .u64 r3))))))))),(13,.c (.imm (.sc (.int .u64 (shR .u64 (shL .u64 p1 (IntKind.wrap .u64 r3)) 32))))),(14,.c (.imm (.sc (.int .u64 (CV .u64 (shL .u64 p1 (IntKind.wrap .u64 r3)) 4294967295))))),(15,.c (.imm (.sc (.int .u64 a23)))),(16,.c (.imm (.sc (.int .u64 a24)))),(78,cB v57)]) (fun v57=>[]) ?_ ?_
 ·rintro v57 hF
  refine wIf hF rfl (fun _ hF=>?_) fun _ hF=>?_
  ·refine aJ ?_;refine c7 ?_;refine wA rfl ?_;refine wA rfl ?_;refine wA rfl ?_;refine wIf hF rfl (fun _ hF=>?_) fun _ hF=>?_
   ·refine dZ ?_;refine W7 (by decide) ?_;refine aQ ?_;refine bj ?_;exact brk_0 _ _ _ (oi hF) sw
   refine aJ ?_;exact cont_0 _ _ _ (oi hF) sw
  refine dZ ?_;refine aQ ?_;refine aQ ?_;refine bj ?_;exact brk_0 _ _ _ (oi hF) sw
 intro join hF
 refine wD 3 rfl ?_;cases h60:(decide (4294967296≤a23))
 ·have hF:=bF' h60 hF;refine QV rfl ?_;exact join (decide ((IntKind.wrap .u64 ((IntKind.wrap .u64 (4294967296*a24))+(shR .u64 (shL .u64 p1 (IntKind.wrap .u64 r3)) 32)))<(IntKind.wrap .u64 (a23*(CV .u64 (shL .u64 p2 (IntKind.wrap .u64 r3)) 4294967295))))) _ _ hF sw
 have hF:=bT' h60 hF;refine QV rfl ?_;exact join true _ _ hF sw
def Dx(p0:(List Int))(p1:Int)(p2:Int):Option (Int×Bool) :=
  (((bif (decide ((List.length p0:Int)=0))then some true else(bif (decide (p2<1))then some true else(bif (decide (1000000000000000<p2))then some true else(bif (decide (p1<0))then some true else some (decide (p2<p1)))))):Option Bool).bind fun v1=>(bif v1 then some (0,false)else((zZ p0).bind fun r2=>((Aq r2).bind fun r3=>((x8 (IntKind.wrap .u64 p1) (IntKind.wrap .u64 (List.length p0:Int))).bind fun r4=>((x6 r4.1 r4.2 (IntKind.wrap .u64 p2)).bind fun r5=>(((bif (decide (0<r5.2))then some (IntKind.wrap .u64 (r5.1+1))else some r5.1):Option Int).bind fun v6=>((idx r3 (IntKind.wrap .u64 ((max v6 1)-1))).bind fun y7=>some (y7,true)))))))))
theorem U3(p0:(List Int))(p1:Int)(p2:Int)(r:(Int×Bool))(hF:Dx p0 p1 p2=some r):Fun Tryz.prog 34 true [] [cL 1 dV p0,cI p1,cI p2] noHeap (.tup [cI r.1,cB r.2]) noHeap:=by
 refine fW Tryz.func34 ?_
 unfold Dx at hF
 refine wA rfl ?_;refine az ?_;refine az ?_;refine cz (fun _ _ h=>h) hF (fun v1=>[(0,cL 1 dV p0),(1,cI p1),(2,cI p2),(32,cB v1)]) (fun v1=>[]) ?_ ?_
 ·rintro v1 hF
  refine wIf hF rfl (fun _ hF=>?_) fun _ hF=>?_
  ·refine wA rfl ?_;cases hF
   exact bq ⟨_,rfl,rfl,⟨⟨rfl,fun _=>rfl⟩,⟨rfl,fun _=>rfl⟩,trivial⟩,FV _⟩
  refine aJ ?_;refine wC 1 rfl ?_;obtain⟨r2,hr2,hF⟩:=bB hF
  refine lq trivial (nY [((902,3200),(34,1))] rfl (zW _) (IV _ _ hr2) trivial ⟨.inl rfl,trivial⟩ rfl rfl rfl ?_);obtain⟨r3,hr3,hF⟩:=bB hF
  refine lq trivial (nY [((4160,0),(34,1)),((902,3160),(35,1))] rfl (zW _) (JZ _ _ hr3) ⟨rfl,trivial⟩ ⟨.inl rfl,trivial⟩ rfl rfl rfl ?_);refine QV rfl ?_;refine wC 3 rfl ?_
  refine rS (d3 (tc:=dV) p0 .tree ?_);refine aX SV 1 rfl ?_;obtain⟨r4,hr4,hF⟩:=bB hF
  refine rS (cq (P5 _ _ _ hr4) ⟨rfl,rfl,trivial⟩ rfl (.inl rfl) ?_);refine QV rfl ?_;refine wC 4 rfl ?_;obtain⟨r5,hr5,hF⟩:=bB hF
  refine rS (cq (P6 _ _ _ _ hr5) ⟨rfl,rfl,rfl,trivial⟩ rfl (.inl rfl) ?_);refine QV rfl ?_;refine az ?_;refine wA rfl ?_;refine cz (fun _ _ h=>h) hF (fun v6=>[(8,cO (35,1)),(11,.c (.imm (.sc (.int .u64 v6))))]) (fun v6=>[((35,1),.arr 3 1 (List.map dV r3))]) ?_ ?_
  ·rintro v6 hF
   refine wC 4 rfl ?_;obtain⟨y7,hy7,hF⟩:=bB hF
   refine rS (wK (tc:=dV) r3 rfl rfl rfl hy7 ?_);refine rS (AV (tc:=dV) r3 rfl rfl (lz hy7).2.1 rfl ?_);refine QV rfl ?_;cases hF
   exact bq ⟨_,rfl,rfl,⟨⟨rfl,fun _=>rfl⟩,⟨rfl,fun _=>rfl⟩,trivial⟩,FV _⟩
  intro join hF
  refine tW hF rfl (fun _ hF=>?_) fun _ hF=>?_
  ·refine wB rfl ?_;exact join (IntKind.wrap .u64 (r5.1+1)) _ _ hF sw
  refine aJ ?_;exact join r5.1 _ _ hF sw
 intro join hF
 refine wD 1 rfl ?_;refine rS (d3 (tc:=dV) p0 .tree ?_);refine aX SV 2 rfl ?_;cases h10:(decide ((List.length p0:Int)=0))
 ·have hF:=bF' h10 hF;refine aX SV 4 rfl ?_;cases h11:(decide (p2<1))
  ·have hF:=bF' h11 hF;refine aX SV 4 rfl ?_;cases h12:(decide (1000000000000000<p2))
   ·have hF:=bF' h12 hF;refine aX SV 4 rfl ?_;cases h13:(decide (p1<0))
    ·have hF:=bF' h13 hF;refine QV rfl ?_;exact join (decide (p2<p1)) _ _ hF sw
    have hF:=bT' h13 hF;refine QV rfl ?_;exact join true _ _ hF sw
   have hF:=bT' h12 hF;refine QV rfl ?_;exact join true _ _ hF sw
  have hF:=bT' h11 hF;refine QV rfl ?_;exact join true _ _ hF sw
 have hF:=bT' h10 hF;refine QV rfl ?_;exact join true _ _ hF sw
def nZ(p0:aY)(p1:ByteArray)(r2:(Int×Bool)):Int→Option (Int ⊕ (Unit ⊕ (Int×Bool))):=fun a20 =>
  (bif (decide (a20<(List.length p0.fSlices:Int)))then((idx p0.fSlices a20).bind fun y28=>(((bif (decide (y28.fName=p1))then(bif (!y28.fOpen)then((iz y28).bind fun r33=>some (decide (r33=r2.1)))else some false)else some false):Option Bool).bind fun v29=>(bif v29 then some (.inr (.inr (a20,true)))else some (.inl (w64 (a20+1))))))else some (.inr (.inl ())))
def mJ(p0:aY)(p1:ByteArray):Option (Int×Bool) :=
  ((nK p0 p1).bind fun r1=>((Dx r1 1 2).bind fun r2=>(bif (!r2.2)then some (0,false)else((loop (nZ p0 p1 r2) 0).bind fun | .inl _=>some (0,false) | .inr rv=>some rv))))
theorem I0(p0:aY)(p1:ByteArray)(r:(Int×Bool))(hF:mJ p0 p1=some r):Fun Tryz.prog 21 true [] [.agg (aW p0),.c (jS p1)] noHeap (.tup [cI r.1,cB r.2]) noHeap:=by
 refine fW Tryz.func21 ?_
 unfold mJ at hF
 refine wA rfl ?_;refine wC 2 rfl ?_;obtain⟨r1,hr1,hF⟩:=bB hF
 refine lq trivial (nY [((902,800),(13,1))] rfl (zW _) (HW _ _ _ hr1) trivial ⟨.inr ⟨rfl,rfl,rfl,rfl,rfl,rfl,rfl,rfl,rfl,rfl,trivial⟩,.inl rfl,trivial⟩ rfl rfl rfl ?_)
 obtain⟨r2,hr2,hF⟩:=bB hF
 refine rS (cq (U3 _ _ _ _ hr2) ⟨⟨_,rfl⟩,rfl,rfl,trivial⟩ rfl (.inl rfl) ?_);refine QV rfl ?_;refine az ?_;refine wA rfl ?_;refine wIf hF rfl (fun _ hF=>?_) fun _ hF=>?_
 ·refine wA rfl ?_;cases hF
  exact bq ⟨_,rfl,rfl,⟨⟨rfl,fun _=>rfl⟩,⟨rfl,fun _=>rfl⟩,trivial⟩,FV _⟩
 refine aJ ?_;refine az ?_;refine wC 2 rfl ?_;refine rS (d3 (tc:=aj) p0.fSlices .tree ?_);refine QV rfl ?_;refine fQ (fun _ _ h=>h) hF (.inl) (fun a20=>[(1,.c (jS p1)),(6,cI r2.1),(20,cL 8 aj p0.fSlices),(21,cI (List.length p0.fSlices:Int)),(22,cI a20)]) (fun a20=>[]) (fun _=>[]) (fun _=>[]) sw ?_ ?_
 ·rintro⟨⟩ hF
  refine wA rfl ?_;cases hF
  exact bq ⟨_,rfl,rfl,⟨⟨rfl,fun _=>rfl⟩,⟨rfl,fun _=>rfl⟩,trivial⟩,FV _⟩
 rintro a20 x_0 hF cont_0 brk_0 fin_0
 unfold nZ at hF
 refine wA rfl ?_;refine az ?_;refine wIf hF rfl (fun _ hF=>?_) fun _ hF=>?_
 ·refine aJ ?_;refine az ?_;refine c7 ?_;refine wC 1 rfl ?_;obtain⟨y28,hy28,hF⟩:=bB hF
  refine rS (cY (tc:=aj) p0.fSlices rfl rfl hy28 ?_);refine QV rfl ?_;refine az ?_;refine cz (fun _ _ h=>h) hF (fun v29=>[(1,.c (jS p1)),(6,cI r2.1),(8,cI a20),(20,cL 8 aj p0.fSlices),(21,cI (List.length p0.fSlices:Int)),(22,cI a20),(41,cB v29)]) (fun v29=>[]) ?_ ?_
  ·rintro v29 hF
   refine wIf hF rfl (fun _ hF=>?_) fun _ hF=>?_
   ·refine wA rfl ?_;have hF:=fin_0 _ (oi hF);cases hF
    exact bq ⟨_,rfl,rfl,⟨⟨rfl,fun _=>rfl⟩,⟨rfl,fun _=>rfl⟩,trivial⟩,FV _⟩
   refine aJ ?_;refine wB rfl ?_;exact cont_0 _ _ _ (oi hF) sw
  intro join hF
  refine wD 5 rfl ?_;cases h31:(decide (y28.fName=p1))
  ·have hF:=bF' h31 hF;refine QV rfl ?_;exact join false _ _ hF sw
  have hF:=bT' h31 hF;refine aX SV 5 rfl ?_;cases h32:(!y28.fOpen)
  ·have hF:=bF' h32 hF;refine QV rfl ?_;exact join false _ _ hF sw
  have hF:=bT' h32 hF;refine aX SV 1 rfl ?_;obtain⟨r33,hr33,hF⟩:=bB' hF
  refine aV SV rfl (cq (oK _ _ hr33) ⟨⟨rfl,rfl,rfl,rfl,rfl,rfl,rfl,rfl,trivial⟩,trivial⟩ rfl (.inl rfl) ?_);refine QV rfl ?_;exact join (decide (r33=r2.1)) _ _ hF sw
 refine dZ ?_;refine aQ ?_;refine aQ ?_;refine bj ?_;exact brk_0 _ _ _ (oi hF) sw
def wW(p0:(List cZ))(p1:Int)(p2:Int)(p3:bZ):(Int×Int)→Option ((Int×Int) ⊕ Int):=fun(a20,a21) =>
  (bif (decide (a21<(List.length p0:Int)))then((((idx p0 a21).bind fun y30=>(((bif (decide (y30.fThread=p1))then some (decide (y30.fState=p2))else some false):Option Bool).bind fun v31=>(bif v31 then some (w64 (a20+(max 0 (w64 ((min y30.fSpan.fTo p3.fTo)-(max y30.fSpan.fFrom p3.fFrom))))))else some a20))):Option Int).bind fun v29=>some (.inl (v29,(w64 (a21+1)))))else some (.inr a20))
def xQ(p0:(List cZ))(p1:Int)(p2:Int)(p3:bZ):Option Int :=
  ((lQ p3).bind fun r1=>(bif (!r1)then some 0 else((loop (wW p0 p1 p2 p3) (0,0)).bind fun e28=>some e28)))
theorem X1(p0:(List cZ))(p1:Int)(p2:Int)(p3:bZ)(r:Int)(hF:xQ p0 p1 p2 p3=some r):Fun Tryz.prog 42 true [] [cL 7 bz p0,cI p1,cI p2,.agg [jI p3.fFrom,jI p3.fTo]] noHeap (cI r) noHeap:=by
 refine fW Tryz.func42 ?_
 unfold xQ at hF
 refine wA rfl ?_;refine az ?_;refine wC 1 rfl ?_;obtain⟨r1,hr1,hF⟩:=bB hF
 refine rS (cq (x9 _ _ hr1) ⟨⟨rfl,rfl,trivial⟩,trivial⟩ rfl (.inl rfl) ?_);refine QV rfl ?_;refine wIf hF rfl (fun _ hF=>?_) fun _ hF=>?_
 ·refine wA rfl ?_;cases hF
  exact bq wR
 refine aJ ?_;refine wA rfl ?_;refine az ?_;refine wC 1 rfl ?_;refine rS (d3 (tc:=bz) p0 .tree ?_);refine QV rfl ?_;refine fQ (fun _ _ h=>h) hF (id) (fun(a20,a21)=>[(1,cI p1),(2,cI p2),(7,cP (7,0) 0),(9,cI a20),(15,cL 7 bz p0),(16,cI (List.length p0:Int)),(17,cI a21)]) (fun(a20,a21)=>[((7,0),.box [jI p3.fFrom,jI p3.fTo])]) (fun e28=>[(9,cI e28)]) (fun e28=>[]) sw ?_ ?_
 ·rintro e28 hF
  refine wA rfl ?_;cases hF
  exact bq wR
 rintro⟨a20,a21⟩ x_0 hF cont_0 brk_0 fin_0
 unfold wW at hF
 refine wA rfl ?_;refine az ?_;refine wIf hF rfl (fun _ hF=>?_) fun _ hF=>?_
 ·refine aJ ?_;refine az ?_;refine cz (fun _ _ h=>h) hF (fun v29=>[(1,cI p1),(2,cI p2),(7,cP (7,0) 0),(9,cI v29),(15,cL 7 bz p0),(16,cI (List.length p0:Int)),(17,cI a21)]) (fun v29=>[((7,0),.box [jI p3.fFrom,jI p3.fTo])]) ?_ ?_
  ·rintro v29 hF
   refine wB rfl ?_;exact cont_0 _ _ _ (oi hF) sw
  intro join hF
  refine c7 ?_;refine wE ?_;obtain⟨y30,hy30,hF⟩:=bB' hF
  refine rS (cY (tc:=bz) p0 rfl rfl hy30 ?_);refine QV rfl ?_;refine az ?_;have hF:=bA hF;refine cz (fun _ _ h=>h) hF (fun v31=>[(1,cI p1),(2,cI p2),(7,cP (7,0) 0),(9,cI a20),(11,cP (11,0) 0),(15,cL 7 bz p0),(16,cI (List.length p0:Int)),(17,cI a21),(30,cB v31)]) (fun v31=>[((7,0),.box [jI p3.fFrom,jI p3.fTo]),((11,0),.box (j2 y30))]) ?_ ?_
  ·rintro v31 hF
   refine tW hF rfl (fun _ hF=>?_) fun _ hF=>?_
   ·refine wB rfl ?_;exact join (w64 (a20+(max 0 (w64 ((min y30.fSpan.fTo p3.fTo)-(max y30.fSpan.fFrom p3.fFrom)))))) _ _ hF sw
   refine aJ ?_;exact join a20 _ _ hF sw
  intro join hF
  refine wD 5 rfl ?_;cases h33:(decide (y30.fThread=p1))
  ·have hF:=bF' h33 hF;refine QV rfl ?_;exact join false _ _ hF sw
  have hF:=bT' h33 hF;refine QV rfl ?_;exact join (decide (y30.fState=p2)) _ _ hF sw
 refine dZ ?_;refine aQ ?_;refine aQ ?_;refine bj ?_;exact brk_0 _ _ _ (oi hF) sw
def n4(p0:aY)(p1:aK):(Int×(List Int)×Int)→Option ((Int×(List Int)×Int) ⊕ (Int×(List Int))):=fun(a18,a19,a20) =>
  (bif (decide (a20<6))then((xQ p0.fStates p1.fThread a20 p1.fSpan).bind fun r28=>(bif KV 8 (List.length a19+List.length [r28])then some (.inl ((w64 (a18-r28)),(a19++[r28]),(w64 (a20+1))))else none))else some (.inr (a18,a19)))
def m8(p0:aY)(p1:aK):Option (List Int) :=
  ((iz p1).bind fun r1=>(bif mkB 8 6 then((loop (n4 p0 p1) (r1,[],0)).bind fun(e24,e25)=>((idx e25 5).bind fun y26=>((idx e25 5).bind fun y27=>some (List.set e25 (Int.toNat 5) (w64 (y26+e24))))))else none))
theorem E5(p0:aY)(p1:aK)(r:(List Int))(hF:m8 p0 p1=some r):Fun Tryz.prog 30 true [] [.agg (aW p0),.agg (i5 p1)] noHeap (cL 1 dV r) noHeap:=by
 refine fW Tryz.func30 ?_
 unfold m8 at hF
 refine wA rfl ?_;refine wC 1 rfl ?_;obtain⟨r1,hr1,hF⟩:=bB hF
 refine rS (cq (oK _ _ hr1) ⟨⟨rfl,rfl,rfl,rfl,rfl,rfl,rfl,rfl,trivial⟩,trivial⟩ rfl (.inl rfl) ?_);refine QV rfl ?_;refine wE ?_;obtain⟨h2,hF⟩:=Hq hF
 refine rS (a0Q (tc:=dV) 0 rfl rfl (a2z h2) rfl rfl ?_);refine QV rfl ?_;refine az ?_;refine wA rfl ?_;refine fQ (fun _ _ h=>h) hF (id) (fun(a18,a19,a20)=>[(2,cP (2,0) 0),(3,cP (3,0) 0),(5,cI a18),(6,cO (11,1)),(12,cI a20)]) (fun(a18,a19,a20)=>[((2,0),.box (aW p0)),((3,0),.box (i5 p1)),((11,1),.arr 3 1 (List.map dV a19))]) (fun(e24,e25)=>[(5,cI e24),(6,cO (11,1))]) (fun(e24,e25)=>[((11,1),.arr 3 1 (List.map dV e25))]) (vq (11,0) (11,1) rfl rfl sw) ?_ ?_
 ·rintro⟨e24,e25⟩ hF
  refine wC 1 rfl ?_;obtain⟨y26,hy26,hF⟩:=bB hF
  refine rS (wK (tc:=dV) e25 rfl rfl rfl hy26 ?_);refine rS (AV (tc:=dV) e25 rfl rfl (lz hy26).2.1 rfl ?_);refine aX SV 2 rfl ?_;obtain⟨y27,hy27,hF⟩:=bB hF
  refine rS (wK (tc:=dV) e25 rfl rfl rfl hy27 ?_);refine rS (azW (tc:=dV) e25 (w64 (y26+e24)) rfl rfl (lz hy27).2.1 rfl rfl rfl rfl rfl ?_);refine QV rfl ?_;refine wA rfl ?_;cases hF
  exact bq ⟨_,rfl,rfl,⟨⟨_,rfl⟩,fun _ _ h=>by simp[noHeap]at h,rfl,fun _=>by simp[-List.map_set,dV,UJ]⟩,FV _⟩
 rintro⟨a18,a19,a20⟩ x_0 hF cont_0 brk_0 fin_0
 unfold n4 at hF
 refine wA rfl ?_;refine az ?_;refine wIf hF rfl (fun _ hF=>?_) fun _ hF=>?_
 ·refine aJ ?_;refine az ?_;refine c7 ?_;refine wA rfl ?_;refine wC 7 rfl ?_;obtain⟨r28,hr28,hF⟩:=bB hF
  refine rS (cq (X1 _ _ _ _ _ hr28) ⟨rfl,rfl,rfl,⟨rfl,rfl,trivial⟩,trivial⟩ rfl (.inl rfl) ?_);refine QV rfl ?_;refine wC 2 rfl ?_;refine rS (AQ (tc:=dV) [r28] rfl ⟨rfl,trivial⟩ rfl (fun _=>rfl) rfl ?_)
  obtain⟨h29,hF⟩:=Hq hF
  refine rS (Ej (tc:=dV) a19 [r28] rfl rfl (.own _ _ rfl) h29 rfl ?_);refine QV rfl ?_;refine wB rfl ?_;refine wB rfl ?_;exact cont_0 _ _ _ (oi hF) (vq (26,0) (11,1) rfl rfl sw)
 refine dZ ?_;refine aQ ?_;refine aQ ?_;refine bj ?_;exact brk_0 _ _ _ (oi hF) sw
def C9  : Option (List ByteArray) :=
  some [(⟨#[114,101,97,100,121]⟩ : ByteArray),(⟨#[97,115,108,101,101,112]⟩ : ByteArray),(⟨#[98,108,111,99,107,101,100]⟩ : ByteArray),(⟨#[103,111,110,101]⟩ : ByteArray),(⟨#[114,117,110,110,105,110,103]⟩ : ByteArray),(⟨#[117,110,107,110,111,119,110]⟩ : ByteArray)]
theorem Rj  (r:(List ByteArray))(hF:C9  = some r):Fun Tryz.prog 35 false [] [] (aZ []) (cO (902,1400)) (aZ [((902,1400),.arr 9 1 (List.map iJ r))]):=by
 refine Fun.of_walkM [] (some []) Tryz.func35 c35 (by kernel_rfl) (rs:=[.tmp 0]) (by kernel_rfl) rfl rfl rfl ?_;unfold v35
 unfold C9 at hF
 refine wA rfl ?_;refine wE ?_;refine rS (AQ (tc:=iJ) [(⟨#[114,101,97,100,121]⟩ : ByteArray),(⟨#[97,115,108,101,101,112]⟩ : ByteArray),(⟨#[98,108,111,99,107,101,100]⟩ : ByteArray),(⟨#[103,111,110,101]⟩ : ByteArray),(⟨#[114,117,110,110,105,110,103]⟩ : ByteArray),(⟨#[117,110,107,110,111,119,110]⟩ : ByteArray)] rfl ⟨rfl,rfl,rfl,rfl,rfl,rfl,trivial⟩ rfl (fun _=>rfl) rfl ?_)
 refine QV rfl ?_;cases hF
 exact bq ⟨_,_,(vq (1,0) (902,1400) rfl rfl fq),_,rfl,rfl,rfl,(AgM.weak ⟨rfl,trivial⟩)⟩
def mY  : ((List ByteArray)×Int×Int)→Option (((List ByteArray)×Int×Int) ⊕ (List ByteArray)):=fun(a20,a21,a22) =>
  (bif (decide (a21<a22))then((idx a20 a22).bind fun y23=>((idx a20 a21).bind fun y24=>((idx a20 a21).bind fun y25=>((idx (List.set a20 (Int.toNat a21) y23) a22).bind fun y26=>some (.inl ((List.set (List.set a20 (Int.toNat a21) y23) (Int.toNat a22) y24),(w64 (a21+1)),(w64 (a22-1))))))))else some (.inr a20))
def ij(p0:(List ByteArray)):Option (List ByteArray) :=
  (loop (mY) (p0,0,(w64 ((List.length p0:Int)-1))))
theorem B4(p0:(List ByteArray))(r:(List ByteArray))(hF:ij p0=some r):Fun Tryz.prog 83 false [(4320,0)] [cO (4320,0)] (aZ [((4320,0),.arr 9 1 (List.map iJ p0))]) (.tup []) (aZ [((4320,0),.arr 9 1 (List.map iJ r))]):=by
 refine fM [(4320,0)] (some [(4320,0)]) Tryz.func83 ?_
 unfold ij at hF
 refine wC 1 rfl ?_;refine rS (d3 (tc:=iJ) p0 (.own _ _ rfl) ?_);refine QV rfl ?_;refine aYJ hF (fun(a20,a21,a22)=>[(0,cO (4320,0)),(2,cI a21),(3,cI a22)]) (fun(a20,a21,a22)=>[((4320,0),.arr 9 1 (List.map iJ a20))]) sw ?_
 rintro⟨a20,a21,a22⟩ x_0 hF cont_0 fin_0
 unfold mY at hF
 refine az ?_;refine wA rfl ?_;refine wIf hF rfl (fun _ hF=>?_) fun _ hF=>?_
 ·refine aJ ?_;refine az ?_;refine c7 ?_;refine hZ (by decide) (by kernel_rfl) rfl ?_;refine aX SP 6 rfl ?_;obtain⟨y23,hy23,hF⟩:=bB hF
  refine aV SP trivial (wK (tc:=iJ) a20 rfl rfl rfl hy23 ?_);refine aV SP trivial (AV (tc:=iJ) a20 rfl rfl (lz hy23).2.1 rfl ?_);refine aX SP 2 rfl ?_;obtain⟨y24,hy24,hF⟩:=bB hF
  refine aV SP trivial (wK (tc:=iJ) a20 rfl rfl rfl hy24 ?_);refine aV SP trivial (AV (tc:=iJ) a20 rfl rfl (lz hy24).2.1 rfl ?_);obtain⟨y25,hy25,hF⟩:=bB hF
  refine aV SP trivial (wK (tc:=iJ) a20 rfl rfl rfl hy25 ?_);refine aV SP trivial (azW (tc:=iJ) a20 y23 rfl rfl (lz hy25).2.1 rfl rfl rfl rfl rfl ?_);obtain⟨y26,hy26,hF⟩:=bB hF
  refine aV SP trivial (wK (tc:=iJ) (List.set a20 (Int.toNat a21) y23) rfl rfl rfl hy26 ?_);refine aV SP trivial (azW (tc:=iJ) (List.set a20 (Int.toNat a21) y23) y24 rfl rfl (lz hy26).2.1 rfl rfl rfl rfl rfl ?_)
  refine QP rfl ?_;refine wB rfl ?_;exact cont_0 _ _ _ (oi hF) sw
 refine dZ ?_;refine aQ ?_;refine aQ ?_;refine bj ?_;have hF:=fin_0 _ (oi hF);cases hF
 exact⟨_,_,fq,_,rfl,rfl,trivial,(AgM.weak ⟨rfl,trivial⟩)⟩
def E0(p0:(List aK)):(Int×(List ByteArray)×Int)→Option ((Int×(List ByteArray)×Int) ⊕ (List ByteArray)):=fun(a25,a26,a27) =>
  (((bif (decide (0≤a25))then(bif (decide (a25<(List.length p0:Int)))then some (decide (a27≤(List.length p0:Int)))else some false)else some false):Option Bool).bind fun v37=>(bif v37 then((idx p0 a25).bind fun y38=>(bif KV 16 (List.length a26+List.length [y38.fName])then((idx p0 a25).bind fun y40=>some (.inl (y40.fParent,(a26++[y38.fName]),(w64 (a27+1)))))else none))else some (.inr a26)))
def A3(p0:(List aK))(p1:Int):Option (List ByteArray) :=
  (((bif (decide (p1<0))then some true else some (decide ((List.length p0:Int)≤p1))):Option Bool).bind fun v1=>(bif v1 then some []else((loop (E0 p0) (p1,[],0)).bind fun e35=>((ij e35).bind fun r36=>some r36))))
theorem aaj(p0:(List aK))(p1:Int)(r:(List ByteArray))(hF:A3 p0 p1=some r):Fun Tryz.prog 36 false [] [cL 8 aj p0,cI p1] (aZ []) (cO (902,1440)) (aZ [((902,1440),.arr 9 1 (List.map iJ r))]):=by
 refine fM [] (some []) Tryz.func36 ?_
 unfold A3 at hF
 refine wA rfl ?_;refine az ?_;refine az ?_;refine cz (fun _ _ h=>h) hF (fun v1=>[(0,cL 8 aj p0),(1,cI p1),(14,cB v1)]) (fun v1=>[]) ?_ ?_
 ·rintro v1 hF
  refine wIf hF rfl (fun _ hF=>?_) fun _ hF=>?_
  ·refine wA rfl ?_;cases hF
   exact bq ⟨_,_,(IW 4 (902,1440) 9 1 rfl rfl rfl rfl fq),_,rfl,rfl,rfl,(AgM.weak ⟨rfl,trivial⟩)⟩
  refine aJ ?_;refine wA rfl ?_;refine az ?_;refine wA rfl ?_;refine fQ (fun _ _ h=>h) hF (id) (fun(a25,a26,a27)=>[(0,cL 8 aj p0),(1,cI a25),(5,cO (38,1)),(6,cI a27)]) (fun(a25,a26,a27)=>[((38,1),.arr 9 1 (List.map iJ a26))]) (fun e35=>[(5,cO (38,1))]) (fun e35=>[((38,1),.arr 9 1 (List.map iJ e35))]) (IW 5 (38,1) 9 1 rfl rfl rfl rfl sw) ?_ ?_
  ·rintro e35 hF
   refine wC 1 rfl ?_;obtain⟨r36,hr36,hF⟩:=bB hF
   refine lq trivial (nY [((4320,0),(38,1))] rfl (zW _) (B4 _ _ hr36) ⟨rfl,trivial⟩ ⟨.inl rfl,trivial⟩ rfl rfl rfl ?_);refine QV rfl ?_;refine wA rfl ?_;cases hF
   exact bq ⟨_,_,(vq (38,1) (902,1440) rfl rfl fq),_,rfl,rfl,rfl,(AgM.weak ⟨rfl,trivial⟩)⟩
  rintro⟨a25,a26,a27⟩ x_0 hF cont_0 brk_0 fin_0
  unfold E0 at hF
  refine az ?_;refine az ?_;refine cz (fun _ _ h=>h) hF (fun v37=>[(0,cL 8 aj p0),(1,cI a25),(5,cO (38,1)),(6,cI a27),(28,cB v37)]) (fun v37=>[((38,1),.arr 9 1 (List.map iJ a26))]) ?_ ?_
  ·rintro v37 hF
   refine wIf hF rfl (fun _ hF=>?_) fun _ hF=>?_
   ·refine aJ ?_;refine az ?_;refine c7 ?_;refine wC 3 rfl ?_;obtain⟨y38,hy38,hF⟩:=bB hF
    refine rS (cY (tc:=aj) p0 rfl rfl hy38 ?_);refine aX SV 2 rfl ?_;refine rS (AQ (tc:=iJ) [y38.fName] rfl ⟨rfl,trivial⟩ rfl (fun _=>rfl) rfl ?_)
    obtain⟨h39,hF⟩:=Hq hF
    refine rS (Ej (tc:=iJ) a26 [y38.fName] rfl rfl (.own _ _ rfl) h39 rfl ?_);refine QV rfl ?_;refine wD 2 rfl ?_;obtain⟨y40,hy40,hF⟩:=bB hF
    refine rS (cY (tc:=aj) p0 rfl rfl hy40 ?_);refine QV rfl ?_;refine wB rfl ?_;exact cont_0 _ _ _ (oi hF) (vq (38,0) (38,1) rfl rfl sw)
   refine dZ ?_;refine aQ ?_;refine aQ ?_;refine bj ?_;exact brk_0 _ _ _ (oi hF) sw
  intro join hF
  refine wD 3 rfl ?_;cases h42:(decide (0≤a25))
  ·have hF:=bF' h42 hF;refine QV rfl ?_;exact join false _ _ hF sw
  have hF:=bT' h42 hF;refine aX SV 2 rfl ?_;refine aV SV rfl (d3 (tc:=aj) p0 .tree ?_);refine aX SV 3 rfl ?_;cases h43:(decide (a25<(List.length p0:Int)))
  ·have hF:=bF' h43 hF;refine QV rfl ?_;exact join false _ _ hF sw
  have hF:=bT' h43 hF;refine aX SV 2 rfl ?_;refine aV SV rfl (d3 (tc:=aj) p0 .tree ?_);refine QV rfl ?_;exact join (decide (a27≤(List.length p0:Int))) _ _ hF sw
 intro join hF
 refine wD 3 rfl ?_;cases h45:(decide (p1<0))
 ·have hF:=bF' h45 hF;refine aX SV 2 rfl ?_;refine aV SV rfl (d3 (tc:=aj) p0 .tree ?_);refine QV rfl ?_;exact join (decide ((List.length p0:Int)≤p1)) _ _ hF sw
 have hF:=bT' h45 hF;refine QV rfl ?_;exact join true _ _ hF sw
def jJ(p0:aY)(p1:Int)(r2:(List Int))(r4:(List Int))(r5:(List ByteArray)):((List fV)×Int)→Option (((List fV)×Int) ⊕ (List fV)):=fun(a28,a29) =>
  (bif (decide (a29<(List.length r5:Int)))then((((idx r5 a29).bind fun y40=>((idx r2 a29).bind fun y41=>((idx r4 a29).bind fun y42=>(bif (!decide ((w64 (y41-y42))=0))then((A3 p0.fSlices p1).bind fun r43=>(bif KV 56 (List.length a28+List.length [({fPath:=r43,fCause:=y40,fValue:=({fN:=(w64 (y41-y42)),fD:=1}:wY)}:fV)])then some (a28++[({fPath:=r43,fCause:=y40,fValue:=({fN:=(w64 (y41-y42)),fD:=1}:wY)}:fV)])else none))else some a28)))):Option (List fV)).bind fun v39=>some (.inl (v39,(w64 (a29+1)))))else some (.inr a28))
def w5(p0:aY)(p1:Int)(p2:Int):Option (List fV) :=
  ((idx p0.fSlices p1).bind fun y1=>((m8 p0 y1).bind fun r2=>((idx p0.fSlices p2).bind fun y3=>((m8 p0 y3).bind fun r4=>((C9 ).bind fun r5=>((loop (jJ p0 p1 r2 r4 r5) ([],0)).bind fun e38=>some e38))))))
theorem O0(p0:aY)(p1:Int)(p2:Int)(r:(List fV))(hF:w5 p0 p1 p2=some r):Fun Tryz.prog 23 false [] [.agg (aW p0),cI p1,cI p2] noHeap (cL 4 e9 r) noHeap:=by
 refine fW Tryz.func23 ?_
 unfold w5 at hF
 refine wA rfl ?_;refine wA rfl ?_;refine az ?_;refine hZ (by decide) (by kernel_rfl) rfl ?_;refine aX SP 4 rfl ?_;obtain⟨y1,hy1,hF⟩:=bB hF
 refine aV SP trivial (cY (tc:=aj) p0.fSlices rfl rfl hy1 ?_);refine aX SP 1 rfl ?_;obtain⟨r2,hr2,hF⟩:=bB hF
 refine aV SP trivial (cq (E5 _ _ _ hr2) ⟨⟨rfl,rfl,rfl,rfl,rfl,rfl,rfl,rfl,rfl,rfl,trivial⟩,⟨rfl,rfl,rfl,rfl,rfl,rfl,rfl,rfl,trivial⟩,trivial⟩ rfl (.inl rfl) ?_)
 refine aX SP 4 rfl ?_;obtain⟨y3,hy3,hF⟩:=bB hF
 refine aV SP trivial (cY (tc:=aj) p0.fSlices rfl rfl hy3 ?_);refine aX SP 1 rfl ?_;obtain⟨r4,hr4,hF⟩:=bB hF
 refine aV SP trivial (cq (E5 _ _ _ hr4) ⟨⟨rfl,rfl,rfl,rfl,rfl,rfl,rfl,rfl,rfl,rfl,trivial⟩,⟨rfl,rfl,rfl,rfl,rfl,rfl,rfl,rfl,trivial⟩,trivial⟩ rfl (.inl rfl) ?_)
 refine QP rfl ?_;refine az ?_;refine wE ?_;obtain⟨r5,hr5,hF⟩:=bB hF
 refine lq trivial (nY [((902,1400),(27,1))] rfl (zW _) (Rj _ hr5) trivial trivial rfl rfl rfl ?_);refine rS (d3 (tc:=iJ) r5 (.own _ _ rfl) ?_);refine QV rfl ?_;refine fQ (fun _ _ h=>h) hF (id) (fun(a28,a29)=>[(1,cI p1),(3,cP (3,0) 0),(7,cO (55,1)),(8,cL 1 dV r2),(9,cL 1 dV r4),(27,cO (27,1)),(28,cI (List.length r5:Int)),(29,cI a29)]) (fun(a28,a29)=>[((3,0),.box (aW p0)),((55,1),.arr 61 4 (List.map e9 a28)),((27,1),.arr 9 1 (List.map iJ r5))]) (fun e38=>[(7,cO (55,1))]) (fun e38=>[((55,1),.arr 61 4 (List.map e9 e38))]) (IW 7 (55,1) 61 4 rfl rfl rfl rfl sw) ?_ ?_
 ·rintro e38 hF
  refine wA rfl ?_;cases hF
  exact bq ⟨_,rfl,rfl,⟨⟨_,rfl⟩,fun _ _ h=>by simp[noHeap]at h,rfl,fun h=>(by cases h)⟩,FV _⟩
 rintro⟨a28,a29⟩ x_0 hF cont_0 brk_0 fin_0
 unfold jJ at hF
 refine wA rfl ?_;refine az ?_;refine wIf hF rfl (fun _ hF=>?_) fun _ hF=>?_
 ·refine aJ ?_;refine az ?_;refine cz (fun _ _ h=>h) hF (fun v39=>[(1,cI p1),(3,cP (3,0) 0),(7,cO (55,1)),(8,cL 1 dV r2),(9,cL 1 dV r4),(27,cO (27,1)),(28,cI (List.length r5:Int)),(29,cI a29)]) (fun v39=>[((3,0),.box (aW p0)),((55,1),.arr 61 4 (List.map e9 v39)),((27,1),.arr 9 1 (List.map iJ r5))]) ?_ ?_
  ·rintro v39 hF
   refine wB rfl ?_;exact cont_0 _ _ _ (oi hF) sw
  intro join hF
  refine c7 ?_;refine wC 1 rfl ?_;obtain⟨y40,hy40,hF⟩:=bB' hF
  refine rS (wK (tc:=iJ) r5 rfl rfl rfl hy40 ?_);refine rS (AV (tc:=iJ) r5 rfl rfl (lz hy40).2.1 rfl ?_);refine QV rfl ?_;refine az ?_;refine hZ (by decide) (by kernel_rfl) rfl ?_
  refine aX SP 2 rfl ?_;obtain⟨y41,hy41,hF⟩:=bB' hF
  refine aV SP trivial (cY (tc:=dV) r2 rfl rfl hy41 ?_);refine aX SP 3 rfl ?_;obtain⟨y42,hy42,hF⟩:=bB' hF
  refine aV SP trivial (cY (tc:=dV) r4 rfl rfl hy42 ?_);refine QP rfl ?_;refine wA rfl ?_;refine tW hF rfl (fun _ hF=>?_) fun _ hF=>?_
  ·refine wD 4 rfl ?_;obtain⟨r43,hr43,hF⟩:=bB' hF
   refine lq trivial (nY [((902,1440),(49,1))] rfl (zW _) (aaj _ _ _ hr43) trivial ⟨.inl rfl,.inl rfl,trivial⟩ rfl rfl rfl ?_);refine aX SV 4 rfl ?_;refine F3 trivial (G6 (49,1) rfl rfl fq) (.inl (AQ (tc:=e9) [({fPath:=r43,fCause:=y40,fValue:=({fN:=(w64 (y41-y42)),fD:=1}:wY)}:fV)] rfl ⟨rfl,rfl,rfl,rfl,trivial⟩ rfl (fun _=>rfl) rfl ?_))
   obtain⟨h44,hF⟩:=LV hF
   refine rS (Ej (tc:=e9) a28 [({fPath:=r43,fCause:=y40,fValue:=({fN:=(w64 (y41-y42)),fD:=1}:wY)}:fV)] rfl rfl (.own _ _ rfl) h44 rfl ?_);refine QV rfl ?_
   exact join (a28++[({fPath:=r43,fCause:=y40,fValue:=({fN:=(w64 (y41-y42)),fD:=1}:wY)}:fV)]) _ _ hF (vq (55,0) (55,1) rfl rfl sw)
  refine aJ ?_;exact join a28 _ _ hF sw
 refine dZ ?_;refine aQ ?_;refine aQ ?_;refine bj ?_;exact brk_0 _ _ _ (oi hF) sw
def pQ(p0:aY)(p1:Int)(p2:Int):((List eK)×Int)→Option (((List eK)×Int) ⊕ (List eK)):=fun(a41,a42) =>
  (bif (decide (a42<(List.length p0.fSlices:Int)))then((((idx p0.fSlices a42).bind fun y61=>(((bif y61.fOpen then some true else((nK p0 y61.fName).bind fun r74=>some (decide ((List.length r74:Int)<3)))):Option Bool).bind fun v62=>(bif v62 then some a41 else((mJ p0 y61.fName).bind fun r63=>(bif (!r63.2)then some a41 else((idx p0.fSlices r63.1).bind fun y64=>((iz y64).bind fun r65=>((iz y61).bind fun r66=>(bif (decide ((w64 (p1*r65))<(w64 (p2*r66))))then((iz y61).bind fun r67=>((w5 p0 a42 r63.1).bind fun r68=>(bif KV 40 (List.length a41+List.length [({fSlice:=a42,fExcess:=(w64 (r67-r65)),fParts:=r68}:eK)])then some (a41++[({fSlice:=a42,fExcess:=(w64 (r67-r65)),fParts:=r68}:eK)])else none)))else some a41))))))))):Option (List eK)).bind fun v60=>some (.inl (v60,(w64 (a42+1)))))else some (.inr a41))
def z8(p0:aY)(p1:Int)(p2:Int):Option ((List eK)×Int) :=
  ((sJ p0).bind fun r1=>(bif (!decide (r1=0))then some ([],r1)else(((bif (decide (p2<1))then some true else(bif (decide (p1<p2))then some true else some (decide (1000<p1)))):Option Bool).bind fun v2=>(bif v2 then some ([],1)else((loop (pQ p0 p1 p2) ([],0)).bind fun e59=>some (e59,0))))))
theorem DJ(p0:aY)(p1:Int)(p2:Int)(r:((List eK)×Int))(hF:z8 p0 p1 p2=some r):Fun Tryz.prog 10 false [] [.agg (aW p0),cI p1,cI p2] (aZ []) (.tup [cO (902,400),cI r.2]) (aZ [((902,400),.arr 42 3 (List.map b9 r.1))]):=by
 refine fM [] (some []) Tryz.func10 ?_
 unfold z8 at hF
 refine wA rfl ?_;refine az ?_;refine wC 1 rfl ?_;obtain⟨r1,hr1,hF⟩:=bB hF
 refine rS (cq (M4 _ _ hr1) ⟨⟨rfl,rfl,rfl,rfl,rfl,rfl,rfl,rfl,rfl,rfl,trivial⟩,trivial⟩ rfl (.inl rfl) ?_);refine QV rfl ?_;refine wA rfl ?_;refine wIf hF rfl (fun _ hF=>?_) fun _ hF=>?_
 ·refine wA rfl ?_;cases hF
  exact bq ⟨_,_,(IW 6 (902,400) 42 3 rfl rfl rfl rfl fq),_,rfl,rfl,⟨rfl,⟨rfl,fun _=>rfl⟩,trivial⟩,(AgM.weak ⟨rfl,trivial⟩)⟩
 refine aJ ?_;refine az ?_;refine az ?_;refine cz (fun _ _ h=>h) hF (fun v2=>[(1,cI p1),(2,cI p2),(3,cP (3,0) 0),(30,cB v2)]) (fun v2=>[((3,0),.box (aW p0))]) ?_ ?_
 ·rintro v2 hF
  refine wIf hF rfl (fun _ hF=>?_) fun _ hF=>?_
  ·refine wA rfl ?_;cases hF
   exact bq ⟨_,_,(IW 6 (902,400) 42 3 rfl rfl rfl rfl fq),_,rfl,rfl,⟨rfl,⟨rfl,fun _=>rfl⟩,trivial⟩,(AgM.weak ⟨rfl,trivial⟩)⟩
  refine aJ ?_;refine wA rfl ?_;refine az ?_;refine wC 2 rfl ?_;refine rS (d3 (tc:=aj) p0.fSlices .tree ?_);refine QV rfl ?_;refine fQ (fun _ _ h=>h) hF (id) (fun(a41,a42)=>[(1,cI p1),(2,cI p2),(3,cP (3,0) 0),(9,cO (84,1)),(32,cL 8 aj p0.fSlices),(33,cI (List.length p0.fSlices:Int)),(34,cI a42)]) (fun(a41,a42)=>[((3,0),.box (aW p0)),((84,1),.arr 42 3 (List.map b9 a41))]) (fun e59=>[(9,cO (84,1))]) (fun e59=>[((84,1),.arr 42 3 (List.map b9 e59))]) (IW 9 (84,1) 42 3 rfl rfl rfl rfl sw) ?_ ?_
  ·rintro e59 hF
   refine wA rfl ?_;cases hF
   exact bq ⟨_,_,(vq (84,1) (902,400) rfl rfl fq),_,rfl,rfl,⟨rfl,⟨rfl,fun _=>rfl⟩,trivial⟩,(AgM.weak ⟨rfl,trivial⟩)⟩
  rintro⟨a41,a42⟩ x_0 hF cont_0 brk_0 fin_0
  unfold pQ at hF
  refine wA rfl ?_;refine az ?_;refine wIf hF rfl (fun _ hF=>?_) fun _ hF=>?_
  ·refine aJ ?_;refine az ?_;refine cz (fun _ _ h=>h) hF (fun v60=>[(1,cI p1),(2,cI p2),(3,cP (3,0) 0),(9,cO (84,1)),(32,cL 8 aj p0.fSlices),(33,cI (List.length p0.fSlices:Int)),(34,cI a42)]) (fun v60=>[((3,0),.box (aW p0)),((84,1),.arr 42 3 (List.map b9 v60))]) ?_ ?_
   ·rintro v60 hF
    refine wB rfl ?_;exact cont_0 _ _ _ (oi hF) sw
   intro join hF
   refine c7 ?_;refine wC 1 rfl ?_;obtain⟨y61,hy61,hF⟩:=bB' hF
   refine rS (cY (tc:=aj) p0.fSlices rfl rfl hy61 ?_);refine QV rfl ?_;refine az ?_;refine az ?_;have hF:=bA hF;refine cz (fun _ _ h=>h) hF (fun v62=>[(1,cI p1),(2,cI p2),(3,cP (3,0) 0),(9,cO (84,1)),(10,cI a42),(11,cP (11,0) 0),(32,cL 8 aj p0.fSlices),(33,cI (List.length p0.fSlices:Int)),(34,cI a42),(48,cB v62)]) (fun v62=>[((3,0),.box (aW p0)),((84,1),.arr 42 3 (List.map b9 a41)),((11,0),.box [jI y61.fThread,jI y61.fParent,jI y61.fDepth,jS y61.fName,jI y61.fSpan.fFrom,jI y61.fSpan.fTo,jI y61.fSelf,jB y61.fOpen])]) ?_ ?_
   ·rintro v62 hF
    refine tW hF rfl (fun _ hF=>?_) fun _ hF=>?_
    ·refine dZ ?_;refine aQ ?_;refine bj ?_;exact join a41 _ _ hF sw
    refine aJ ?_;refine wC 3 rfl ?_;obtain⟨r63,hr63,hF⟩:=bB' hF
    refine rS (cq (I0 _ _ _ hr63) ⟨⟨rfl,rfl,rfl,rfl,rfl,rfl,rfl,rfl,rfl,rfl,trivial⟩,rfl,trivial⟩ rfl (.inl rfl) ?_);refine QV rfl ?_;refine az ?_;refine wA rfl ?_;refine tW hF rfl (fun _ hF=>?_) fun _ hF=>?_
    ·refine dZ ?_;refine aQ ?_;refine bj ?_;exact join a41 _ _ hF sw
    refine aJ ?_;refine wC 3 rfl ?_;obtain⟨y64,hy64,hF⟩:=bB' hF
    refine rS (cY (tc:=aj) p0.fSlices rfl rfl hy64 ?_);refine aX SV 1 rfl ?_;obtain⟨r65,hr65,hF⟩:=bB' hF
    refine rS (cq (oK _ _ hr65) ⟨⟨rfl,rfl,rfl,rfl,rfl,rfl,rfl,rfl,trivial⟩,trivial⟩ rfl (.inl rfl) ?_);refine QV rfl ?_;refine wC 2 rfl ?_;obtain⟨r66,hr66,hF⟩:=bB' hF
    refine rS (cq (oK _ _ hr66) ⟨⟨rfl,rfl,rfl,rfl,rfl,rfl,rfl,rfl,trivial⟩,trivial⟩ rfl (.inl rfl) ?_);refine QV rfl ?_;refine tW hF rfl (fun _ hF=>?_) fun _ hF=>?_
    ·refine hZ (by decide) (by kernel_rfl) rfl ?_;refine aX SP 3 rfl ?_;obtain⟨r67,hr67,hF⟩:=bB' hF
     refine aV SP trivial (cq (oK _ _ hr67) ⟨⟨rfl,rfl,rfl,rfl,rfl,rfl,rfl,rfl,trivial⟩,trivial⟩ rfl (.inl rfl) ?_);refine aX SP 5 rfl ?_;obtain⟨r68,hr68,hF⟩:=bB' hF
     refine aV SP trivial (cq (O0 _ _ _ _ hr68) ⟨⟨rfl,rfl,rfl,rfl,rfl,rfl,rfl,rfl,rfl,rfl,trivial⟩,rfl,rfl,trivial⟩ rfl (.inr (.inr ⟨⟨rfl,rfl,rfl,rfl,rfl,rfl,rfl,rfl,rfl,rfl,trivial⟩,rfl,rfl,trivial⟩)) ?_)
     refine aX SP 1 rfl ?_;refine aV SP trivial (AQ (tc:=b9) [({fSlice:=a42,fExcess:=(w64 (r67-r65)),fParts:=r68}:eK)] rfl ⟨rfl,rfl,rfl,trivial⟩ rfl (fun _=>rfl) rfl ?_)
     obtain⟨h69,hF⟩:=LV hF
     refine aV SP trivial (Ej (tc:=b9) a41 [({fSlice:=a42,fExcess:=(w64 (r67-r65)),fParts:=r68}:eK)] rfl rfl (.own _ _ rfl) h69 rfl ?_);refine QP rfl ?_;exact join (a41++[({fSlice:=a42,fExcess:=(w64 (r67-r65)),fParts:=r68}:eK)]) _ _ hF (vq (84,0) (84,1) rfl rfl sw)
    refine aJ ?_;exact join a41 _ _ hF sw
   intro join hF
   refine wD 3 rfl ?_;cases h73:y61.fOpen
   ·have hF:=bF' h73 hF;refine aX SV 3 rfl ?_;obtain⟨r74,hr74,hF⟩:=bB' hF
    refine lq rfl (nY [((902,800),(45,1))] rfl (zW _) (HW _ _ _ hr74) trivial ⟨.inr ⟨rfl,rfl,rfl,rfl,rfl,rfl,rfl,rfl,rfl,rfl,trivial⟩,.inl rfl,trivial⟩ rfl rfl rfl ?_)
    refine aV SV rfl (d3 (tc:=dV) r74 (.own _ _ rfl) ?_);refine QV rfl ?_;exact join (decide ((List.length r74:Int)<3)) _ _ hF (abV (by repeat' first | constructor | (rw[h73];rfl)) (by repeat' first | constructor | (rw[h73];rfl)))
   have hF:=bT' h73 hF;refine QV rfl ?_;exact join true _ _ hF (abV (by repeat' first | constructor | (rw[h73];rfl)) (by repeat' first | constructor | (rw[h73];rfl)))
  refine dZ ?_;refine aQ ?_;refine aQ ?_;refine bj ?_;exact brk_0 _ _ _ (oi hF) sw
 intro join hF
 refine wD 3 rfl ?_;cases h77:(decide (p2<1))
 ·have hF:=bF' h77 hF;refine aX SV 5 rfl ?_;cases h78:(decide (p1<p2))
  ·have hF:=bF' h78 hF;refine QV rfl ?_;exact join (decide (1000<p1)) _ _ hF sw
  have hF:=bT' h78 hF;refine QV rfl ?_;exact join true _ _ hF sw
 have hF:=bT' h77 hF;refine QV rfl ?_;exact join true _ _ hF sw
def J9(p0:aY)(p1:ByteArray):Option (Int×Int) :=
  ((sJ p0).bind fun r1=>(bif (!decide (r1=0))then some (0,r1)else((mJ p0 p1).bind fun r2=>(bif (!r2.2)then some (0,5)else some (r2.1,0)))))
theorem TJ(p0:aY)(p1:ByteArray)(r:(Int×Int))(hF:J9 p0 p1=some r):Fun Tryz.prog 15 true [] [.agg (aW p0),.c (jS p1)] noHeap (.tup [cI r.1,cI r.2]) noHeap:=by
 refine fW Tryz.func15 ?_
 unfold J9 at hF
 refine wA rfl ?_;refine az ?_;refine wC 1 rfl ?_;obtain⟨r1,hr1,hF⟩:=bB hF
 refine rS (cq (M4 _ _ hr1) ⟨⟨rfl,rfl,rfl,rfl,rfl,rfl,rfl,rfl,rfl,rfl,trivial⟩,trivial⟩ rfl (.inl rfl) ?_);refine QV rfl ?_;refine wA rfl ?_;refine wIf hF rfl (fun _ hF=>?_) fun _ hF=>?_
 ·refine wA rfl ?_;cases hF
  exact bq ⟨_,rfl,rfl,⟨⟨rfl,fun _=>rfl⟩,⟨rfl,fun _=>rfl⟩,trivial⟩,FV _⟩
 refine aJ ?_;refine wC 2 rfl ?_;obtain⟨r2,hr2,hF⟩:=bB hF
 refine rS (cq (I0 _ _ _ hr2) ⟨⟨rfl,rfl,rfl,rfl,rfl,rfl,rfl,rfl,rfl,rfl,trivial⟩,rfl,trivial⟩ rfl (.inl rfl) ?_);refine QV rfl ?_;refine az ?_;refine wA rfl ?_;refine wIf hF rfl (fun _ hF=>?_) fun _ hF=>?_
 ·refine wA rfl ?_;cases hF
  exact bq ⟨_,rfl,rfl,⟨⟨rfl,fun _=>rfl⟩,⟨rfl,fun _=>rfl⟩,trivial⟩,FV _⟩
 refine aJ ?_;refine wA rfl ?_;cases hF
 exact bq ⟨_,rfl,rfl,⟨⟨rfl,fun _=>rfl⟩,⟨rfl,fun _=>rfl⟩,trivial⟩,FV _⟩
def qj  : Option Bool :=
  ((nq 30 [10,10,40]).bind fun r1=>((z8 r1 2 1).bind fun r2=>((nq 0 [10,40]).bind fun r3=>((z8 r3 2 1).bind fun r4=>((nq 0 [1,2,3]).bind fun r5=>((J9 r5 (⟨#[102]⟩ : ByteArray)).bind fun r6=>((nq 0 [1,2,3]).bind fun r7=>((z8 r7 1 1).bind fun r8=>(((bif (decide (r2.2=0))then(bif (decide ((List.length r2.1:Int)=1))then((idx r2.1 0).bind fun y12=>(bif (decide (y12.fSlice=2))then((idx r2.1 0).bind fun y14=>(bif (decide (y14.fExcess=30))then((idx r2.1 0).bind fun y16=>(bif (decide ((List.length y16.fParts:Int)=1))then((idx r2.1 0).bind fun y18=>((idx y18.fParts 0).bind fun y19=>(bif (decide (y19.fCause=(⟨#[97,115,108,101,101,112]⟩ : ByteArray)))then((idx r2.1 0).bind fun y21=>((idx y21.fParts 0).bind fun y22=>(bif (decide (y22.fValue.fN=30))then(bif (decide (r4.2=0))then(bif (decide ((List.length r4.1:Int)=0))then(bif (decide (r6.2=0))then(bif (decide (r6.1=1))then(bif (decide (r8.2=0))then(bif (decide ((List.length r8.1:Int)=1))then((idx r8.1 0).bind fun y30=>some (decide (y30.fSlice=2)))else some false)else some false)else some false)else some false)else some false)else some false)else some false)))else some false)))else some false))else some false))else some false))else some false)else some false):Option Bool).bind fun v9=>some v9)))))))))
theorem BV  (r:Bool)(hF:qj  = some r):Fun Tryz.prog 9 true [] [] noHeap (cB r) noHeap:=by
 refine Fun.of_walk0 Tryz.func9 c9 (by kernel_rfl) (rs:=[.tmp 0]) (by kernel_rfl) ?_;unfold v9
 unfold qj at hF
 refine wA rfl ?_;refine wE ?_;refine rS (AQ (tc:=dV) [10,10,40] rfl ⟨rfl,rfl,rfl,trivial⟩ rfl (fun _=>rfl) rfl ?_)
 obtain⟨r1,hr1,hF⟩:=bB hF
 refine F3 trivial (G6 (10,0) rfl rfl fq) (nY [((902,720),(11,1)),((902,721),(11,2)),((902,722),(11,3))] rfl (zW _) (pJ _ _ _ hr1) trivial ⟨.inl rfl,.inl rfl,trivial⟩ rfl rfl rfl ?_)
 obtain⟨r2,hr2,hF⟩:=bB hF
 refine F3 trivial (G6 (11,1) rfl rfl (G6 (11,2) rfl rfl (G6 (11,3) rfl rfl fq))) (nY [((902,400),(12,1))] rfl (zW _) (DJ _ _ _ _ hr2) trivial ⟨.inr ⟨rfl,rfl,rfl,rfl,rfl,rfl,rfl,rfl,rfl,rfl,trivial⟩,.inl rfl,.inl rfl,trivial⟩ rfl rfl rfl ?_)
 refine QV rfl ?_;refine wE ?_;refine rS (AQ (tc:=dV) [10,40] rfl ⟨rfl,rfl,trivial⟩ rfl (fun _=>rfl) rfl ?_)
 obtain⟨r3,hr3,hF⟩:=bB hF
 refine F3 trivial (G6 (16,0) rfl rfl fq) (nY [((902,720),(17,1)),((902,721),(17,2)),((902,722),(17,3))] rfl (zW _) (pJ _ _ _ hr3) trivial ⟨.inl rfl,.inl rfl,trivial⟩ rfl rfl rfl ?_)
 obtain⟨r4,hr4,hF⟩:=bB hF
 refine F3 trivial (G6 (17,1) rfl rfl (G6 (17,2) rfl rfl (G6 (17,3) rfl rfl fq))) (nY [((902,400),(18,1))] rfl (zW _) (DJ _ _ _ _ hr4) trivial ⟨.inr ⟨rfl,rfl,rfl,rfl,rfl,rfl,rfl,rfl,rfl,rfl,trivial⟩,.inl rfl,.inl rfl,trivial⟩ rfl rfl rfl ?_)
 refine QV rfl ?_;refine wE ?_;refine rS (AQ (tc:=dV) [1,2,3] rfl ⟨rfl,rfl,rfl,trivial⟩ rfl (fun _=>rfl) rfl ?_)
 obtain⟨r5,hr5,hF⟩:=bB hF
 refine F3 trivial (G6 (22,0) rfl rfl fq) (nY [((902,720),(23,1)),((902,721),(23,2)),((902,722),(23,3))] rfl (zW _) (pJ _ _ _ hr5) trivial ⟨.inl rfl,.inl rfl,trivial⟩ rfl rfl rfl ?_)
 obtain⟨r6,hr6,hF⟩:=bB hF
 refine rS (cq (TJ _ _ _ hr6) ⟨⟨rfl,rfl,⟨_,rfl⟩,⟨_,rfl⟩,⟨_,rfl⟩,rfl,rfl,rfl,rfl,rfl,trivial⟩,rfl,trivial⟩ rfl (.inl rfl) ?_);refine QV rfl ?_;refine wE ?_;refine rS (AQ (tc:=dV) [1,2,3] rfl ⟨rfl,rfl,rfl,trivial⟩ rfl (fun _=>rfl) rfl ?_)
 obtain⟨r7,hr7,hF⟩:=bB hF
 refine F3 trivial (G6 (28,0) rfl rfl fq) (nY [((902,720),(29,1)),((902,721),(29,2)),((902,722),(29,3))] rfl (zW _) (pJ _ _ _ hr7) trivial ⟨.inl rfl,.inl rfl,trivial⟩ rfl rfl rfl ?_)
 obtain⟨r8,hr8,hF⟩:=bB hF
 refine F3 trivial (G6 (29,1) rfl rfl (G6 (29,2) rfl rfl (G6 (29,3) rfl rfl fq))) (nY [((902,400),(30,1))] rfl (zW _) (DJ _ _ _ _ hr8) trivial ⟨.inr ⟨rfl,rfl,rfl,rfl,rfl,rfl,rfl,rfl,rfl,rfl,trivial⟩,.inl rfl,.inl rfl,trivial⟩ rfl rfl rfl ?_)
 refine QV rfl ?_;refine az ?_;refine cz (fun _ _ h=>h) hF (fun v9=>[(0,cB v9)]) (fun v9=>[]) ?_ ?_
 ·rintro v9 hF
  cases hF
  exact bq wR
 intro join hF
 refine wD 3 rfl ?_;cases h10:(decide (r2.2=0))
 ·have hF:=bF' h10 hF;refine QV rfl ?_;exact join false _ _ hF sw
 have hF:=bT' h10 hF;refine aX SV 1 rfl ?_;refine aV SV rfl (d3 (tc:=b9) r2.1 (.own _ _ rfl) ?_);refine aX SV 3 rfl ?_;cases h11:(decide ((List.length r2.1:Int)=1))
 ·have hF:=bF' h11 hF;refine QV rfl ?_;exact join false _ _ hF sw
 have hF:=bT' h11 hF;refine aX SV 1 rfl ?_;obtain⟨y12,hy12,hF⟩:=bB' hF
 refine aV SV rfl (wK (tc:=b9) r2.1 rfl rfl rfl hy12 ?_);refine aX SV 1 rfl ?_;refine aV SV rfl (AV (tc:=b9) r2.1 rfl rfl (lz hy12).2.1 rfl ?_);refine aX SV 3 rfl ?_
 cases h13:(decide (y12.fSlice=2))
 ·have hF:=bF' h13 hF;refine QV rfl ?_;exact join false _ _ hF sw
 have hF:=bT' h13 hF;refine aX SV 1 rfl ?_;obtain⟨y14,hy14,hF⟩:=bB' hF
 refine aV SV rfl (wK (tc:=b9) r2.1 rfl rfl rfl hy14 ?_);refine aX SV 1 rfl ?_;refine aV SV rfl (AV (tc:=b9) r2.1 rfl rfl (lz hy14).2.1 rfl ?_);refine aX SV 3 rfl ?_
 cases h15:(decide (y14.fExcess=30))
 ·have hF:=bF' h15 hF;refine QV rfl ?_;exact join false _ _ hF sw
 have hF:=bT' h15 hF;refine aX SV 1 rfl ?_;obtain⟨y16,hy16,hF⟩:=bB' hF
 refine aV SV rfl (wK (tc:=b9) r2.1 rfl rfl rfl hy16 ?_);refine aX SV 1 rfl ?_;refine aV SV rfl (AV (tc:=b9) r2.1 rfl rfl (lz hy16).2.1 rfl ?_);refine aV SV rfl (d3 (tc:=e9) y16.fParts .tree ?_)
 refine aX SV 3 rfl ?_;cases h17:(decide ((List.length y16.fParts:Int)=1))
 ·have hF:=bF' h17 hF;refine QV rfl ?_;exact join false _ _ hF sw
 have hF:=bT' h17 hF;refine aX SV 1 rfl ?_;obtain⟨y18,hy18,hF⟩:=bB' hF
 refine aV SV rfl (wK (tc:=b9) r2.1 rfl rfl rfl hy18 ?_);refine aX SV 1 rfl ?_;refine aV SV rfl (AV (tc:=b9) r2.1 rfl rfl (lz hy18).2.1 rfl ?_);obtain⟨y19,hy19,hF⟩:=bB' hF
 refine aV SV rfl (cY (tc:=e9) y18.fParts rfl rfl hy19 ?_);refine aX SV 5 rfl ?_;cases h20:(decide (y19.fCause=(⟨#[97,115,108,101,101,112]⟩ : ByteArray)))
 ·have hF:=bF' h20 hF;refine QV rfl ?_;exact join false _ _ hF sw
 have hF:=bT' h20 hF;refine aX SV 1 rfl ?_;obtain⟨y21,hy21,hF⟩:=bB' hF
 refine aV SV rfl (wK (tc:=b9) r2.1 rfl rfl rfl hy21 ?_);refine aX SV 1 rfl ?_;refine aV SV rfl (AV (tc:=b9) r2.1 rfl rfl (lz hy21).2.1 rfl ?_);obtain⟨y22,hy22,hF⟩:=bB' hF
 refine aV SV rfl (cY (tc:=e9) y21.fParts rfl rfl hy22 ?_);refine aX SV 6 rfl ?_;cases h23:(decide (y22.fValue.fN=30))
 ·have hF:=bF' h23 hF;refine QV rfl ?_;exact join false _ _ hF sw
 have hF:=bT' h23 hF;refine aX SV 4 rfl ?_;cases h24:(decide (r4.2=0))
 ·have hF:=bF' h24 hF;refine QV rfl ?_;exact join false _ _ hF sw
 have hF:=bT' h24 hF;refine aX SV 1 rfl ?_;refine aV SV rfl (d3 (tc:=b9) r4.1 (.own _ _ rfl) ?_);refine aX SV 3 rfl ?_;cases h25:(decide ((List.length r4.1:Int)=0))
 ·have hF:=bF' h25 hF;refine QV rfl ?_;exact join false _ _ hF sw
 have hF:=bT' h25 hF;refine aX SV 4 rfl ?_;cases h26:(decide (r6.2=0))
 ·have hF:=bF' h26 hF;refine QV rfl ?_;exact join false _ _ hF sw
 have hF:=bT' h26 hF;refine aX SV 4 rfl ?_;cases h27:(decide (r6.1=1))
 ·have hF:=bF' h27 hF;refine QV rfl ?_;exact join false _ _ hF sw
 have hF:=bT' h27 hF;refine aX SV 4 rfl ?_;cases h28:(decide (r8.2=0))
 ·have hF:=bF' h28 hF;refine QV rfl ?_;exact join false _ _ hF sw
 have hF:=bT' h28 hF;refine aX SV 1 rfl ?_;refine aV SV rfl (d3 (tc:=b9) r8.1 (.own _ _ rfl) ?_);refine aX SV 3 rfl ?_;cases h29:(decide ((List.length r8.1:Int)=1))
 ·have hF:=bF' h29 hF;refine QV rfl ?_;exact join false _ _ hF sw
 have hF:=bT' h29 hF;refine aX SV 1 rfl ?_;obtain⟨y30,hy30,hF⟩:=bB' hF
 refine aV SV rfl (wK (tc:=b9) r8.1 rfl rfl rfl hy30 ?_);refine aX SV 1 rfl ?_;refine aV SV rfl (AV (tc:=b9) r8.1 rfl rfl (lz hy30).2.1 rfl ?_);refine QV rfl ?_
 exact join (decide (y30.fSlice=2)) _ _ hF sw
def B1(p0:Int):Int→Option (Int ⊕ (Unit ⊕ Bool)):=fun a11 =>
  (bif (decide (a11<(ByteArray.size (⟨#[95,46,58,47,60,62,36,42,126,45]⟩ : ByteArray):Int)))then((idx (ByteArray.data (⟨#[95,46,58,47,60,62,36,42,126,45]⟩ : ByteArray)).toList a11).bind fun y15=>(bif (decide ((UInt8.toNat y15:Int)=p0))then some (.inr (.inr true))else some (.inl (w64 (a11+1)))))else some (.inr (.inl ())))
def oV(p0:Int):Option Bool :=
  (((bif (decide (97≤p0))then(bif (decide (p0≤122))then some true else(bif (decide (65≤p0))then(bif (decide (p0≤90))then some true else(bif (decide (48≤p0))then some (decide (p0≤57))else some false))else(bif (decide (48≤p0))then some (decide (p0≤57))else some false)))else(bif (decide (65≤p0))then(bif (decide (p0≤90))then some true else(bif (decide (48≤p0))then some (decide (p0≤57))else some false))else(bif (decide (48≤p0))then some (decide (p0≤57))else some false))):Option Bool).bind fun v1=>(bif v1 then some true else((loop (B1 p0) 0).bind fun | .inl _=>some false | .inr rv=>some rv)))
theorem IY(p0:Int)(r:Bool)(hF:oV p0=some r):Fun Tryz.prog 138 true [] [.c (.imm (.sc (.int .u8 p0)))] noHeap (cB r) noHeap:=by
 refine Fun.of_walk0 Tryz.func138 a2X (by kernel_rfl) (rs:=[.tmp 2]) (by kernel_rfl) ?_;unfold a1z
 unfold oV at hF
 refine wA rfl ?_;refine az ?_;refine az ?_;refine cz (fun _ _ h=>h) hF (fun v1=>[(0,.c (.imm (.sc (.int .u8 p0)))),(26,cB v1)]) (fun v1=>[]) ?_ ?_
 ·rintro v1 hF
  refine wIf hF rfl (fun _ hF=>?_) fun _ hF=>?_
  ·refine wA rfl ?_;cases hF
   exact bq wR
  refine aJ ?_;refine wA rfl ?_;refine az ?_;refine wA rfl ?_;refine fQ (fun _ _ h=>h) hF (.inl) (fun a11=>[(0,.c (.imm (.sc (.int .u8 p0)))),(3,.c (jS (⟨#[95,46,58,47,60,62,36,42,126,45]⟩ : ByteArray))),(4,cI a11)]) (fun a11=>[]) (fun _=>[]) (fun _=>[]) sw ?_ ?_
  ·rintro⟨⟩ hF
   refine wA rfl ?_;cases hF
   exact bq wR
  rintro a11 x_0 hF cont_0 brk_0 fin_0
  unfold B1 at hF
  refine az ?_;refine wA rfl ?_;refine wIf hF rfl (fun _ hF=>?_) fun _ hF=>?_
  ·refine aJ ?_;refine az ?_;refine c7 ?_;refine wC 2 rfl ?_;obtain⟨y15,hy15,hF⟩:=bB hF
   refine rS (aCQ (⟨#[95,46,58,47,60,62,36,42,126,45]⟩ : ByteArray) rfl rfl hy15 ?_);refine QV rfl ?_;refine wIf hF rfl (fun _ hF=>?_) fun _ hF=>?_
   ·refine wA rfl ?_;have hF:=fin_0 _ (oi hF);cases hF
    exact bq wR
   refine aJ ?_;refine wB rfl ?_;exact cont_0 _ _ _ (oi hF) sw
  refine dZ ?_;refine aQ ?_;refine aQ ?_;refine bj ?_;exact brk_0 _ _ _ (oi hF) sw
 intro join hF
 refine wD 3 rfl ?_;cases h19:(decide (97≤p0))
 ·have hF:=bF' h19 hF;refine aX SV 7 rfl ?_;cases h20:(decide (65≤p0))
  ·have hF:=bF' h20 hF;refine aX SV 8 rfl ?_;cases h21:(decide (48≤p0))
   ·have hF:=bF' h21 hF;refine QV rfl ?_;exact join false _ _ hF sw
   have hF:=bT' h21 hF;refine QV rfl ?_;exact join (decide (p0≤57)) _ _ hF sw
  have hF:=bT' h20 hF;refine aX SV 5 rfl ?_;cases h22:(decide (p0≤90))
  ·have hF:=bF' h22 hF;refine aX SV 3 rfl ?_;cases h23:(decide (48≤p0))
   ·have hF:=bF' h23 hF;refine QV rfl ?_;exact join false _ _ hF sw
   have hF:=bT' h23 hF;refine QV rfl ?_;exact join (decide (p0≤57)) _ _ hF sw
  have hF:=bT' h22 hF;refine QV rfl ?_;exact join true _ _ hF sw
 have hF:=bT' h19 hF;refine aX SV 4 rfl ?_;cases h24:(decide (p0≤122))
 ·have hF:=bF' h24 hF;refine aX SV 3 rfl ?_;cases h25:(decide (65≤p0))
  ·have hF:=bF' h25 hF;refine aX SV 8 rfl ?_;cases h26:(decide (48≤p0))
   ·have hF:=bF' h26 hF;refine QV rfl ?_;exact join false _ _ hF sw
   have hF:=bT' h26 hF;refine QV rfl ?_;exact join (decide (p0≤57)) _ _ hF sw
  have hF:=bT' h25 hF;refine aX SV 5 rfl ?_;cases h27:(decide (p0≤90))
  ·have hF:=bF' h27 hF;refine aX SV 3 rfl ?_;cases h28:(decide (48≤p0))
   ·have hF:=bF' h28 hF;refine QV rfl ?_;exact join false _ _ hF sw
   have hF:=bT' h28 hF;refine QV rfl ?_;exact join (decide (p0≤57)) _ _ hF sw
  have hF:=bT' h27 hF;refine QV rfl ?_;exact join true _ _ hF sw
 have hF:=bT' h24 hF;refine QV rfl ?_;exact join true _ _ hF sw
def sQ(p0:ByteArray):Int→Option (Int ⊕ (Unit ⊕ Int)):=fun a13 =>
  (bif (decide (a13<(ByteArray.size p0:Int)))then((idx (ByteArray.data p0).toList a13).bind fun y18=>((oV (UInt8.toNat y18:Int)).bind fun r19=>(bif (!r19)then some (.inr (.inr 3))else some (.inl (w64 (a13+1))))))else some (.inr (.inl ())))
def j9(p0:ByteArray):Option Int :=
  (((bif (decide ((ByteArray.size p0:Int)<1))then some true else some (decide (40<(ByteArray.size p0:Int)))):Option Bool).bind fun v1=>(bif v1 then some 3 else((loop (sQ p0) 0).bind fun | .inl _=>some 0 | .inr rv=>some rv)))
theorem q5(p0:ByteArray)(r:Int)(hF:j9 p0=some r):Fun Tryz.prog 119 true [] [.c (jS p0)] noHeap (cI r) noHeap:=by
 refine fW Tryz.func119 ?_
 unfold j9 at hF
 refine wA rfl ?_;refine az ?_;refine az ?_;refine cz (fun _ _ h=>h) hF (fun v1=>[(0,.c (jS p0)),(11,cB v1)]) (fun v1=>[]) ?_ ?_
 ·rintro v1 hF
  refine wIf hF rfl (fun _ hF=>?_) fun _ hF=>?_
  ·refine wA rfl ?_;cases hF
   exact bq wR
  refine aJ ?_;refine az ?_;refine wA rfl ?_;refine fQ (fun _ _ h=>h) hF (.inl) (fun a13=>[(0,.c (jS p0)),(3,cI a13)]) (fun a13=>[]) (fun _=>[]) (fun _=>[]) sw ?_ ?_
  ·rintro⟨⟩ hF
   refine wA rfl ?_;cases hF
   exact bq wR
  rintro a13 x_0 hF cont_0 brk_0 fin_0
  unfold sQ at hF
  refine az ?_;refine wA rfl ?_;refine wIf hF rfl (fun _ hF=>?_) fun _ hF=>?_
  ·refine aJ ?_;refine az ?_;refine c7 ?_;refine wC 2 rfl ?_;obtain⟨y18,hy18,hF⟩:=bB hF
   refine rS (aCQ p0 rfl rfl hy18 ?_);obtain⟨r19,hr19,hF⟩:=bB hF
   refine rS (cq (IY _ _ hr19) ⟨rfl,trivial⟩ rfl (.inl rfl) ?_);refine QV rfl ?_;refine wIf hF rfl (fun _ hF=>?_) fun _ hF=>?_
   ·refine wA rfl ?_;have hF:=fin_0 _ (oi hF);cases hF
    exact bq wR
   refine aJ ?_;refine wB rfl ?_;exact cont_0 _ _ _ (oi hF) sw
  refine dZ ?_;refine aQ ?_;refine aQ ?_;refine bj ?_;exact brk_0 _ _ _ (oi hF) sw
 intro join hF
 refine wD 4 rfl ?_;cases h23:(decide ((ByteArray.size p0:Int)<1))
 ·have hF:=bF' h23 hF;refine QV rfl ?_;exact join (decide (40<(ByteArray.size p0:Int))) _ _ hF sw
 have hF:=bT' h23 hF;refine QV rfl ?_;exact join true _ _ hF sw
def oX(p0:dz):Option Int :=
  (((bif (decide (p0.fId<0))then some true else(bif (decide (1000000000000000<p0.fId))then some true else(bif (decide (p0.fDomain<0))then some true else some (decide (8≤p0.fDomain))))):Option Bool).bind fun v1=>(bif v1 then some 2 else((j9 p0.fName).bind fun r2=>some r2)))
theorem IZ(p0:dz)(r:Int)(hF:oX p0=some r):Fun Tryz.prog 84 true [] [.agg (F8 p0)] noHeap (cI r) noHeap:=by
 refine fW Tryz.func84 ?_
 unfold oX at hF
 refine wA rfl ?_;refine az ?_;refine az ?_;refine cz (fun _ _ h=>h) hF (fun v1=>[(1,cP (1,0) 0),(20,cB v1)]) (fun v1=>[((1,0),.box (F8 p0))]) ?_ ?_
 ·rintro v1 hF
  refine wIf hF rfl (fun _ hF=>?_) fun _ hF=>?_
  ·refine wA rfl ?_;cases hF
   exact bq wR
  refine aJ ?_;refine wC 2 rfl ?_;obtain⟨r2,hr2,hF⟩:=bB hF
  refine rS (cq (q5 _ _ hr2) ⟨rfl,trivial⟩ rfl (.inl rfl) ?_);refine QV rfl ?_;cases hF
  exact bq wR
 intro join hF
 refine wD 4 rfl ?_;cases h4:(decide (p0.fId<0))
 ·have hF:=bF' h4 hF;refine aX SV 5 rfl ?_;cases h5:(decide (1000000000000000<p0.fId))
  ·have hF:=bF' h5 hF;refine aX SV 5 rfl ?_;cases h6:(decide (p0.fDomain<0))
   ·have hF:=bF' h6 hF;refine QV rfl ?_;exact join (decide (8≤p0.fDomain)) _ _ hF sw
   have hF:=bT' h6 hF;refine QV rfl ?_;exact join true _ _ hF sw
  have hF:=bT' h5 hF;refine QV rfl ?_;exact join true _ _ hF sw
 have hF:=bT' h4 hF;refine QV rfl ?_;exact join true _ _ hF sw
def lZ(p0:bZ):Option Bool :=
  (((bif (decide (0≤p0.fFrom))then(bif (decide (p0.fFrom<p0.fTo))then some (decide (p0.fTo≤1000000000000))else some false)else some false):Option Bool).bind fun v1=>some v1)
theorem pz(p0:bZ)(r:Bool)(hF:lZ p0=some r):Fun Tryz.prog 86 true [] [.agg [jI p0.fFrom,jI p0.fTo]] noHeap (cB r) noHeap:=by
 refine fW Tryz.func86 ?_
 unfold lZ at hF
 refine wA rfl ?_;refine az ?_;refine cz (fun _ _ h=>h) hF (fun v1=>[(2,cB v1)]) (fun v1=>[]) ?_ ?_
 ·rintro v1 hF
  cases hF
  exact bq wR
 intro join hF
 refine wD 4 rfl ?_;cases h2:(decide (0≤p0.fFrom))
 ·have hF:=bF' h2 hF;refine QV rfl ?_;exact join false _ _ hF sw
 have hF:=bT' h2 hF;refine aX SV 7 rfl ?_;cases h3:(decide (p0.fFrom<p0.fTo))
 ·have hF:=bF' h3 hF;refine QV rfl ?_;exact join false _ _ hF sw
 have hF:=bT' h3 hF;refine QV rfl ?_;exact join (decide (p0.fTo≤1000000000000)) _ _ hF sw
def kW(p0:aK)(p1:aK):Option Bool :=
  (bif (!decide (p0.fSpan.fFrom=p1.fSpan.fFrom))then some (decide (p0.fSpan.fFrom<p1.fSpan.fFrom))else(bif (!decide (p0.fSpan.fTo=p1.fSpan.fTo))then some (decide (p1.fSpan.fTo<p0.fSpan.fTo))else some (decide (p0.fThread<p1.fThread))))
theorem Gj(p0:aK)(p1:aK)(r:Bool)(hF:kW p0 p1=some r):Fun Tryz.prog 139 true [] [.agg (i5 p0),.agg (i5 p1)] noHeap (cB r) noHeap:=by
 refine fW Tryz.func139 ?_
 unfold kW at hF
 refine wA rfl ?_;refine az ?_;refine c7 ?_;refine wA rfl ?_;refine wIf hF rfl (fun _ hF=>?_) fun _ hF=>?_
 ·refine wA rfl ?_;cases hF
  exact bq wR
 refine wA rfl ?_;refine wIf hF rfl (fun _ hF=>?_) fun _ hF=>?_
 ·refine wA rfl ?_;cases hF
  exact bq wR
 refine aJ ?_;refine wA rfl ?_;cases hF
 exact bq wR
def q9(p0:bZ)(p1:bZ):Option Bool :=
  (((bif (decide (p0.fFrom≤p1.fFrom))then some (decide (p1.fTo≤p0.fTo))else some false):Option Bool).bind fun v1=>some v1)
theorem F7(p0:bZ)(p1:bZ)(r:Bool)(hF:q9 p0 p1=some r):Fun Tryz.prog 162 true [] [.agg [jI p0.fFrom,jI p0.fTo],.agg [jI p1.fFrom,jI p1.fTo]] noHeap (cB r) noHeap:=by
 refine fW Tryz.func162 ?_
 unfold q9 at hF
 refine wA rfl ?_;refine az ?_;refine cz (fun _ _ h=>h) hF (fun v1=>[(4,cB v1)]) (fun v1=>[]) ?_ ?_
 ·rintro v1 hF
  cases hF
  exact bq wR
 intro join hF
 refine wD 6 rfl ?_;cases h2:(decide (p0.fFrom≤p1.fFrom))
 ·have hF:=bF' h2 hF;refine QV rfl ?_;exact join false _ _ hF sw
 have hF:=bT' h2 hF;refine QV rfl ?_;exact join (decide (p1.fTo≤p0.fTo)) _ _ hF sw
def v8(p0:(List aK))(p1:Int):Int→Option (Int ⊕ Int):=fun a12 =>
  (((bif (decide (0≤a12))then some (decide (p1<a12))else some false):Option Bool).bind fun v18=>(bif v18 then((idx p0 a12).bind fun y19=>some (.inl y19.fParent))else some (.inr a12)))
def qQ(p0:(List aK))(p1:Int)(p2:Int):Option Bool :=
  ((loop (v8 p0 p1) p2).bind fun e17=>some (decide (p1=e17)))
theorem J2(p0:(List aK))(p1:Int)(p2:Int)(r:Bool)(hF:qQ p0 p1 p2=some r):Fun Tryz.prog 163 true [] [cL 8 aj p0,cI p1,cI p2] noHeap (cB r) noHeap:=by
 refine fW Tryz.func163 ?_
 unfold qQ at hF
 refine wA rfl ?_;refine az ?_;refine fQ (fun _ _ h=>h) hF (id) (fun a12=>[(0,cL 8 aj p0),(1,cI p1),(2,cI a12)]) (fun a12=>[]) (fun e17=>[(1,cI p1),(2,cI e17)]) (fun e17=>[]) sw ?_ ?_
 ·rintro e17 hF
  refine wA rfl ?_;cases hF
  exact bq wR
 rintro a12 x_0 hF cont_0 brk_0 fin_0
 unfold v8 at hF
 refine az ?_;refine az ?_;refine cz (fun _ _ h=>h) hF (fun v18=>[(0,cL 8 aj p0),(1,cI p1),(2,cI a12),(13,cB v18)]) (fun v18=>[]) ?_ ?_
 ·rintro v18 hF
  refine wIf hF rfl (fun _ hF=>?_) fun _ hF=>?_
  ·refine aJ ?_;refine c7 ?_;refine wD 2 rfl ?_;obtain⟨y19,hy19,hF⟩:=bB hF
   refine rS (cY (tc:=aj) p0 rfl rfl hy19 ?_);refine QV rfl ?_;exact cont_0 _ _ _ (oi hF) sw
  refine dZ ?_;refine aQ ?_;refine aQ ?_;refine bj ?_;exact brk_0 _ _ _ (oi hF) sw
 intro join hF
 refine wD 3 rfl ?_;cases h21:(decide (0≤a12))
 ·have hF:=bF' h21 hF;refine QV rfl ?_;exact join false _ _ hF sw
 have hF:=bT' h21 hF;refine QV rfl ?_;exact join (decide (p1<a12)) _ _ hF sw
def uK(p0:(List aK))(a259:Int):(Int×Int)→Option ((Int×Int) ⊕ (Int ⊕ (Int ⊕ (Unit ⊕ Bool)))):=fun(a402,a403) =>
  (bif (decide (a403<(List.length p0:Int)))then((idx p0 a403).bind fun y427=>(((bif (decide (y427.fParent=a259))then((idx p0 a403).bind fun y443=>((idx p0 a403).bind fun y444=>some (w64 (a402-(w64 (y443.fSpan.fTo-y444.fSpan.fFrom))))))else some a402):Option Int).bind fun v428=>((((idx p0 a259).bind fun y438=>((idx p0 a403).bind fun y439=>(bif (decide (y438.fSpan.fFrom<y439.fSpan.fTo))then((idx p0 a403).bind fun y441=>((idx p0 a259).bind fun y442=>some (decide (y441.fSpan.fFrom<y442.fSpan.fTo))))else some false))):Option Bool).bind fun v429=>(((bif (decide (a259<a403))then((idx p0 a259).bind fun y433=>((idx p0 a403).bind fun y434=>(bif (decide (y433.fThread=y434.fThread))then(bif v429 then((qQ p0 a259 a403).bind fun r437=>some (!r437))else some false)else some false)))else some false):Option Bool).bind fun v430=>(bif v430 then some (.inr (.inr (.inr (.inr false))))else some (.inl (v428,(w64 (a403+1)))))))))else some (.inr (.inl a402)))
def pX(p0:(List aK)):Int→Option (Int ⊕ (Unit ⊕ Bool)):=fun a259 =>
  (bif (decide (a259<(List.length p0:Int)))then((idx p0 a259).bind fun y354=>((idx p0 a259).bind fun y355=>((loop (uK p0 a259) ((w64 (y354.fSpan.fTo-y355.fSpan.fFrom)),0)).bind fun | .inl e424=>((idx p0 a259).bind fun y425=>(bif (!decide (y425.fSelf=e424))then some (.inr (.inr false))else some (.inl (w64 (a259+1))))) | .inr rv=>some rv)))else some (.inr (.inl ())))
def pZ(p0:(List aK)):Int→Option (Int ⊕ (Unit ⊕ Bool)):=fun a46 =>
  (bif (decide (a46<(List.length p0:Int)))then((idx p0 a46).bind fun y448=>(((bif (decide (y448.fParent<(-1)))then some true else some (decide (a46≤y448.fParent))):Option Bool).bind fun v449=>(bif v449 then some (.inr (.inr false))else(((bif (decide (y448.fParent=(-1)))then((idx p0 a46).bind fun y465=>some (!decide (y465.fDepth=0)))else some false):Option Bool).bind fun v450=>(bif v450 then some (.inr (.inr false))else(((bif (decide (0≤y448.fParent))then((idx p0 y448.fParent).bind fun y454=>((idx p0 a46).bind fun y455=>(bif (!decide (y454.fThread=y455.fThread))then some true else((idx p0 y448.fParent).bind fun y457=>((idx p0 a46).bind fun y458=>((q9 y457.fSpan y458.fSpan).bind fun r459=>(bif (!r459)then some true else((idx p0 a46).bind fun y461=>((idx p0 y448.fParent).bind fun y462=>some (!decide (y461.fDepth=(w64 (y462.fDepth+1)))))))))))))else some false):Option Bool).bind fun v451=>(bif v451 then some (.inr (.inr false))else some (.inl (w64 (a46+1))))))))))else some (.inr (.inl ())))
def tj(p0:(List aK)):Option Bool :=
  ((loop (pZ p0) 0).bind fun | .inl _=>((loop (pX p0) 0).bind fun | .inl _=>some true | .inr rv=>some rv) | .inr rv=>some rv)
end Go.VM
