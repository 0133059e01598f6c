/- What the functions of the law compute, each with its proof. -/
import Derived.Test.YtinhkpcgdfppkaaHx2
import Derived.Test.YtinhkpcgdfppkaaRows
import Derived.KernelRfl
namespace Go.VM
open Go.Proofs Go.Proofs.Ytinhkpcgdfppkaa
set_option maxRecDepth 100000
set_option maxHeartbeats 4000000
structure ajz where
  fThread:Int
  fSerial:Int
  deriving DecidableEq
structure m6 where
  fAt:Int
  fKind:Int
  fName:ByteArray
  fN:Int
  fM:Int
  fStack:(List ByteArray)
  deriving DecidableEq
structure GK where
  fLo:Int
  fHi:Int
  deriving DecidableEq
structure a7 where
  fId:ajz
  fEvent:m6
  fWhen:GK
  deriving DecidableEq
def qz(x:ByteArray):List T:=[.sc (.string x)]
abbrev i5(x:m6):List C:=[.imm (tI x.fAt),.imm (tI x.fKind),.imm (.sc (.string x.fName)),.imm (tI x.fN),.imm (tI x.fM),.imm (.sl 1 (List.map qz x.fStack))]
def aY(x:a7):List T:=[tI x.fId.fThread,tI x.fId.fSerial,tI x.fEvent.fAt,tI x.fEvent.fKind,.sc (.string x.fEvent.fName),tI x.fEvent.fN,tI x.fEvent.fM,.sl 1 (List.map qz x.fEvent.fStack),tI x.fWhen.fLo,tI x.fWhen.fHi]
def N9(x:(List a7)):List T:=[.sl 10 (List.map aY x)]
def awW(x:Int):List T:=[tI x]
structure agx where
  fFrom:Int
  fTo:Int
  deriving DecidableEq
structure j7 where
  fThread:Int
  fParent:Int
  fDepth:Int
  fName:ByteArray
  fSpan:agx
  fSelf:Int
  fOpen:Bool
  deriving DecidableEq
def dY(x:j7):List T:=[tI x.fThread,tI x.fParent,tI x.fDepth,.sc (.string x.fName),tI x.fSpan.fFrom,tI x.fSpan.fTo,tI x.fSelf,.sc (.bool x.fOpen)]
def anz(x:(List j7)):List T:=[.sl 8 (List.map dY x)]
def v72:VC:=(.seq (rg [vo 2 (.mv (kB false)),vo 3 (.mv (kB false)),vo 4 (.mv (kB false)),vo 5 (.mv (kB false))]) (.seq (rg [vm 10 0,vo 11 (.bin .eql 10 (kI 1)),vm 12 11,vg 13 12 false (.mv 0),vg 14 12 false (.bin .eql 13 (kI 3)),vo 15 (.pick 12 (kB true) 14),vm 16 15,vg 17 16 false (.mv 0),vg 18 16 false (.bin .eql 17 (kI 4)),vo 19 (.pick 16 (kB true) 18),vm 6 19]) (.seq (rg [vm 20 0,vo 21 (.bin .geq 20 (kI 4)),vm 7 21]) (.seq (rg [vm 22 0,vo 23 (.bin .eql 22 (kI 9)),vm 24 23,vg 25 24 false (.mv 0),vg 26 24 false (.bin .eql 25 (kI 11)),vo 27 (.pick 24 (kB true) 26),vm 8 27]) (.seq (rg [vm 28 0,vo 29 (.bin .eql 28 (kI 5)),vm 30 29,vg 31 30 false (.mv 0),vg 32 30 false (.bin .eql 31 (kI 11)),vo 33 (.pick 30 (kB true) 32),vm 9 33]) (.seq (rg [vm 34 6,vm 35 7,vm 36 8,vm 37 9,vm 2 34,vm 3 35,vm 4 36,vm 5 37]) .ret))))))
theorem c72:(Try.f72.body.bind fun c=>dZ Try.prog 38 c)=some v72:=by kernel_rfl
def v65:VC:=(.seq (rg [vo 2 (.mv (kB false))]) (.seq (.seq (rg [vm 5 0,vo 6 (.bin .geq 5 (.con (.c (.imm (.sc (.int .u8 97)))))),vm 7 6,vg 8 7 true (.mv 0),vg 9 7 true (.bin .leq 8 (.con (.c (.imm (.sc (.int .u8 122)))))),vo 10 (.pick 7 9 (kB false)),vm 11 10,vg 12 11 false (.mv 0),vg 13 11 false (.bin .geq 12 (.con (.c (.imm (.sc (.int .u8 65)))))),vg 14 11 false (.mv 13),vg 15 14 true (.mv 0),vg 16 14 true (.bin .leq 15 (.con (.c (.imm (.sc (.int .u8 90)))))),vg 17 11 false (.pick 14 16 (kB false)),vo 18 (.pick 11 (kB true) 17),vm 19 18,vg 20 19 false (.mv 0),vg 21 19 false (.bin .geq 20 (.con (.c (.imm (.sc (.int .u8 48)))))),vg 22 19 false (.mv 21),vg 23 22 true (.mv 0),vg 24 22 true (.bin .leq 23 (.con (.c (.imm (.sc (.int .u8 57)))))),vg 25 19 false (.pick 22 24 (kB false)),vo 26 (.pick 19 (kB true) 25)]) (.cond 26 (.seq (rg [vo 2 (.mv (kB true))]) .ret) .skip)) (.seq (rg [vo 3 (.mv (.con (.c (.imm (.sc (.string ⟨#[95,46,58,47,60,62,36,42,126,45]⟩))))))]) (.seq (.seq (rg [vo 4 (.mv (kI 0))]) (.block 0 (.loop (.seq (.seq (rg [vm 27 4,vm 28 3,vo 29 (.lenT 28),vo 30 (.bin .lss 27 29)]) (.cond 30 .skip (.exit 0))) (.seq (.block 1 (.seq (rg [vm 33 3,vm 34 4,vo 35 (.ixS 33 34),vm 36 0,vo 37 (.bin .eql 35 36)]) (.cond 37 (.seq (rg [vo 2 (.mv (kB true))]) .ret) .skip))) (rg [vm 31 4,vo 32 (.bin .add 31 (kI 1)),vm 4 32])))))) (.seq (rg [vo 2 (.mv (kB false))]) .ret)))))
theorem c65:(Try.f65.body.bind fun c=>dZ Try.prog 38 c)=some v65:=by kernel_rfl
def v44:VC:=(.seq (rg [vo 2 (.mv (kI 0))]) (.seq (.seq (rg [vm 4 0,vo 5 (.lenT 4),vo 6 (.bin .lss 5 (kI 1)),vm 7 6,vg 8 7 false (.mv 0),vg 9 7 false (.lenT 8),vg 10 7 false (.bin .gtr 9 (kI 40)),vo 11 (.pick 7 (kB true) 10)]) (.cond 11 (.seq (rg [vo 2 (.mv (kI 3))]) .ret) .skip)) (.seq (.seq (rg [vo 3 (.mv (kI 0))]) (.block 0 (.loop (.seq (.seq (rg [vm 12 3,vm 13 0,vo 14 (.lenT 13),vo 15 (.bin .lss 12 14)]) (.cond 15 .skip (.exit 0))) (.seq (.block 1 (.seq (rg [vm 18 0,vm 19 3,vo 20 (.ixS 18 19),vo 21 (.call 65 [20]),vo 22 (.un .not 21)]) (.cond 22 (.seq (rg [vo 2 (.mv (kI 3))]) .ret) .skip))) (rg [vm 16 3,vo 17 (.bin .add 16 (kI 1)),vm 3 17])))))) (.seq (rg [vo 2 (.mv (kI 0))]) .ret))))
theorem c44:(Try.f44.body.bind fun c=>dZ Try.prog 23 c)=some v44:=by kernel_rfl
def v73:VC:=(.seq (rg [vo 2 (.mv (kI 0))]) (.seq (.seq (rg [vm 4 0,vo 5 (.lenS 4),vo 6 (.bin .gtr 5 (kI 32))]) (.cond 6 (.seq (rg [vo 2 (.mv (kI 7))]) .ret) .skip)) (.seq (.seq (rg [vo 3 (.mv (kI 0))]) (.block 0 (.loop (.seq (.seq (rg [vm 7 3,vm 8 0,vo 9 (.lenS 8),vo 10 (.bin .lss 7 9)]) (.cond 10 .skip (.exit 0))) (.seq (.block 1 (.seq (rg [vm 13 0,vm 14 3,vo 15 (.ixA 1 13 14),vo 16 (.load 1 false 15),vo 17 (.call 44 [16]),vo 18 (.bin .neq 17 (kI 0))]) (.cond 18 (.seq (rg [vo 2 (.mv (kI 3))]) .ret) .skip))) (rg [vm 11 3,vo 12 (.bin .add 11 (kI 1)),vm 3 12])))))) (.seq (rg [vo 2 (.mv (kI 0))]) .ret))))
theorem c73:(Try.f73.body.bind fun c=>dZ Try.prog 19 c)=some v73:=by kernel_rfl
def v83:VC:=(.seq (rg [vo 6 (.mv (kI 0))]) (.seq (.seq (rg [vm 7 0,vm 8 1,vo 9 (.bin .lss 7 8),vm 10 9,vg 11 10 false (.mv 0),vg 12 10 false (.mv 2),vg 13 10 false (.bin .gtr 11 12),vo 14 (.pick 10 (kB true) 13)]) (.cond 14 (.seq (rg [vo 6 (.mv (kI 2))]) .ret) .skip)) (.seq (rg [vo 6 (.mv (kI 0))]) .ret)))
theorem c83:(Try.f83.body.bind fun c=>dZ Try.prog 15 c)=some v83:=by kernel_rfl
def v74:VC:=(.seq (rg [vo 1 (.box 34 0),vo 2 (.mv (kI 0))]) (.seq (.seq (rg [vo 5 (.fld 1 1),vo 6 (.load 1 false 5)]) (.block 0 (.seq (.seq (rg [vo 8 (.bin .eql 6 (kI 1)),vm 7 8]) (.cond 7 .skip (.seq (rg [vo 9 (.bin .eql 6 (kI 2)),vm 7 9]) (.cond 7 .skip (rg [vo 10 (.bin .eql 6 (kI 3)),vm 7 10]))))) (.cond 7 (.seq (rg [vo 2 (.mv (kI 0))]) .ret) (.seq (rg [vo 12 (.bin .eql 6 (kI 4)),vm 11 12]) (.cond 11 (.seq (rg [vo 13 (.fld 3 1),vo 14 (.load 1 false 13),vo 15 (.call 83 [14,(kI (-1000000000000000)),(kI 1000000000000000)]),vm 2 15]) .ret) (.seq (rg [vo 17 (.bin .eql 6 (kI 5)),vm 16 17]) (.cond 16 (.seq (rg [vo 18 (.fld 3 1),vo 19 (.load 1 false 18),vo 20 (.call 83 [19,(kI 1),(kI 1000000000000)]),vm 2 20]) .ret) (.seq (rg [vo 22 (.bin .eql 6 (kI 8)),vm 21 22]) (.cond 21 (.seq (rg [vo 23 (.fld 3 1),vo 24 (.load 1 false 23),vo 25 (.call 83 [24,(kI 0),(kI 63)]),vm 2 25]) .ret) (.seq (rg [vo 27 (.bin .eql 6 (kI 9)),vm 26 27]) (.cond 26 (.seq (rg [vo 28 (.fld 3 1),vo 29 (.load 1 false 28),vo 30 (.call 83 [29,(kI 0),(kI 3)]),vm 3 30]) (.seq (.seq (rg [vm 31 3,vo 32 (.bin .eql 31 (kI 0)),vm 33 32,vg 34 33 true (.fld 3 1),vg 35 33 true (.load 1 false 34),vg 36 33 true (.bin .eql 35 (kI 2)),vo 37 (.pick 33 36 (kB false))]) (.cond 37 (.seq (rg [vo 38 (.fld 4 1),vo 39 (.load 1 false 38),vo 40 (.call 83 [39,(kI 0),(kI 1000000000000000)]),vm 2 40]) .ret) .skip)) (.seq (.seq (rg [vm 41 3,vo 42 (.bin .eql 41 (kI 0)),vm 43 42,vg 44 43 true (.fld 4 1),vg 45 43 true (.load 1 false 44),vg 46 43 true (.bin .neq 45 (kI 0)),vo 47 (.pick 43 46 (kB false))]) (.cond 47 (.seq (rg [vo 2 (.mv (kI 1))]) .ret) .skip)) (.seq (rg [vm 48 3,vm 2 48]) .ret)))) .skip)))))))))))) (.seq (rg [vo 49 (.fld 3 1),vo 50 (.load 1 false 49),vo 51 (.call 83 [50,(kI 0),(kI 1000000000000000)]),vm 4 51]) (.seq (.seq (rg [vm 52 4,vo 53 (.bin .eql 52 (kI 0)),vm 54 53,vg 55 54 true (.fld 1 1),vg 56 54 true (.load 1 false 55),vg 57 54 true (.bin .eql 56 (kI 11)),vo 58 (.pick 54 57 (kB false))]) (.cond 58 (.seq (rg [vo 59 (.fld 4 1),vo 60 (.load 1 false 59),vo 61 (.call 83 [60,(kI 1),(kI 1000000000000)]),vm 2 61]) .ret) .skip)) (.seq (rg [vm 62 4,vm 2 62]) .ret)))))
theorem c74:(Try.f74.body.bind fun c=>dZ Try.prog 63 c)=some v74:=by kernel_rfl
def v52:VC:=(.seq (rg [vo 1 (.box 34 0),vo 2 (.mv (kI 0))]) (.seq (.seq (rg [vo 8 (.fld 0 1),vo 9 (.load 1 false 8),vo 10 (.bin .lss 9 (kI 0)),vm 11 10,vg 12 11 false (.fld 0 1),vg 13 11 false (.load 1 false 12),vg 14 11 false (.bin .gtr 13 (kI 1000000000000)),vo 15 (.pick 11 (kB true) 14)]) (.cond 15 (.seq (rg [vo 2 (.mv (kI 2))]) .ret) .skip)) (.seq (.seq (rg [vo 16 (.fld 1 1),vo 17 (.load 1 false 16),vo 18 (.bin .lss 17 (kI 1)),vm 19 18,vg 20 19 false (.fld 1 1),vg 21 19 false (.load 1 false 20),vg 22 19 false (.bin .gtr 21 (kI 12)),vo 23 (.pick 19 (kB true) 22)]) (.cond 23 (.seq (rg [vo 2 (.mv (kI 1))]) .ret) .skip)) (.seq (rg [vo 25 (.fld 1 1),vo 26 (.load 1 false 25),vo 27 (.call 72 [26]),vm 24 27,vo 28 (.ext 24 0),vo 29 (.ext 24 1),vo 30 (.ext 24 2),vo 31 (.ext 24 3),vm 3 28,vm 4 29,vm 5 30,vm 6 31]) (.seq (.seq (rg [vm 32 3,vo 33 (.un .not 32),vm 34 33,vg 35 34 true (.fld 2 1),vg 36 34 true (.load 1 false 35),vg 37 34 true (.bin .neq 36 (.con (.c iS))),vo 38 (.pick 34 37 (kB false)),vm 39 38,vg 40 39 false (.mv 4),vg 41 39 false (.un .not 40),vg 42 39 false (.mv 41),vg 43 42 true (.fld 3 1),vg 44 42 true (.load 1 false 43),vg 45 42 true (.bin .neq 44 (kI 0)),vg 46 39 false (.pick 42 45 (kB false)),vo 47 (.pick 39 (kB true) 46),vm 48 47,vg 49 48 false (.mv 5),vg 50 48 false (.un .not 49),vg 51 48 false (.mv 50),vg 52 51 true (.fld 4 1),vg 53 51 true (.load 1 false 52),vg 54 51 true (.bin .neq 53 (kI 0)),vg 55 48 false (.pick 51 54 (kB false)),vo 56 (.pick 48 (kB true) 55),vm 57 56,vg 58 57 false (.mv 6),vg 59 57 false (.un .not 58),vg 60 57 false (.mv 59),vg 61 60 true (.fld 5 1),vg 62 60 true (.load 1 false 61),vg 63 60 true (.lenS 62),vg 64 60 true (.bin .gtr 63 (kI 0)),vg 65 57 false (.pick 60 64 (kB false)),vo 66 (.pick 57 (kB true) 65)]) (.cond 66 (.seq (rg [vo 2 (.mv (kI 1))]) .ret) .skip)) (.seq (rg [vo 7 (.mv (kI 0))]) (.seq (.seq (rg [vm 67 3]) (.cond 67 (rg [vo 68 (.fld 2 1),vo 69 (.load 1 false 68),vo 70 (.call 44 [69]),vm 7 70]) .skip)) (.seq (.seq (rg [vm 71 6]) (.cond 71 (rg [vo 72 (.fld 5 1),vo 73 (.load 1 false 72),vo 74 (.call 73 [73]),vm 7 74]) .skip)) (.seq (.seq (rg [vm 75 7,vo 76 (.bin .neq 75 (kI 0))]) (.cond 76 (.seq (rg [vm 77 7,vm 2 77]) .ret) .skip)) (.seq (rg [vo 78 (.load 6 true 1),vo 79 (.call 74 [78]),vm 2 79]) .ret))))))))))
theorem c52:(Try.f52.body.bind fun c=>dZ Try.prog 80 c)=some v52:=by kernel_rfl
def v15:VC:=(.seq (rg [vo 1 (.box 40 0),vo 2 (.mv (kI 0))]) (.seq (.block 0 (.seq (rg [vo 4 (.fld 8 1),vo 5 (.fld 0 4),vo 6 (.load 1 false 5),vo 7 (.bin .lss 6 (kI 0)),vm 3 7]) (.cond 3 (.seq (rg [vo 2 (.mv (kI 0))]) .ret) (.seq (rg [vo 9 (.fld 8 1),vo 10 (.fld 0 9),vo 11 (.load 1 false 10),vo 12 (.bin .gtr 11 (kI 1000000000000)),vm 8 12]) (.cond 8 (.seq (rg [vo 2 (.mv (kI 1000000000000))]) .ret) .skip))))) (.seq (rg [vo 13 (.fld 8 1),vo 14 (.fld 0 13),vo 15 (.load 1 false 14),vm 2 15]) .ret)))
theorem c15:(Try.f15.body.bind fun c=>dZ Try.prog 16 c)=some v15:=by kernel_rfl
def v53:VC:=(.seq (rg [vo 4 (.mv (kI 0))]) (.seq (.seq (rg [vm 6 1,vo 7 (.bin .sub 6 (kI 1)),vm 5 7]) (.block 0 (.loop (.seq (.seq (rg [vm 8 5,vo 9 (.bin .geq 8 (kI 0))]) (.cond 9 .skip (.exit 0))) (.seq (.block 1 (.seq (.region (some [0,0,3,7,15,31,0,0,192,448,960,1984,4095,1,1,0,0,0,0,1,1,0,0,0,0,0]) [vm 12 0,vm 13 5,vo 14 (.ixA 10 12 13),vo 15 (.fld 0 14),vo 16 (.fld 0 15),vo 17 (.load 1 false 16),vm 18 0,vm 19 1,vo 20 (.ixA 10 18 19),vo 21 (.fld 0 20),vo 22 (.fld 0 21),vo 23 (.load 1 false 22),vo 24 (.bin .eql 17 23)]) (.cond 24 (.seq (rg [vm 25 5,vm 4 25]) .ret) .skip))) (rg [vm 10 5,vo 11 (.bin .sub 10 (kI 1)),vm 5 11])))))) (.seq (rg [vo 4 (.mv (kI (-1)))]) .ret)))
theorem c53:(Try.f53.body.bind fun c=>dZ Try.prog 26 c)=some v53:=by kernel_rfl
def v27:VC:=(.seq (rg [vo 2 (.mv (kB false))]) (.seq (.seq (rg [vo 3 (.mv (kI 0))]) (.block 0 (.loop (.seq (.seq (rg [vm 6 3,vm 7 0,vo 8 (.lenS 7),vo 9 (.bin .lss 6 8)]) (.cond 9 .skip (.exit 0))) (.seq (.block 1 (.seq (rg [vm 12 0,vm 13 3,vo 14 (.ixA 10 12 13),vo 15 (.fld 0 14),vo 16 (.load 2 true 15),vo 4 (.alloc 36 [(iI 0),(iI 0)]),vp (.store 2 4 16)]) (.seq (.seq (rg [vm 17 0,vm 18 3,vo 19 (.ixA 10 17 18),vo 20 (.fld 2 19),vo 21 (.load 6 true 20),vo 22 (.call 52 [21]),vo 23 (.bin .neq 22 (kI 0)),vm 24 23,vg 25 24 false (.fld 0 4),vg 26 24 false (.load 1 false 25),vg 27 24 false (.bin .lss 26 (kI 0)),vo 28 (.pick 24 (kB true) 27),vm 29 28,vg 30 29 false (.fld 0 4),vg 31 29 false (.load 1 false 30),vg 32 29 false (.bin .gtr 31 (kI 1000000000000000)),vo 33 (.pick 29 (kB true) 32),vm 34 33,vg 35 34 false (.fld 1 4),vg 36 34 false (.load 1 false 35),vg 37 34 false (.bin .lss 36 (kI 0)),vo 38 (.pick 34 (kB true) 37),vm 39 38,vg 40 39 false (.fld 1 4),vg 41 39 false (.load 1 false 40),vg 42 39 false (.bin .gtr 41 (kI 1000000000000000)),vo 43 (.pick 39 (kB true) 42)]) (.cond 43 (.seq (rg [vo 2 (.mv (kB false))]) .ret) .skip)) (.seq (.seq (.region (some [0,1,3,7,7,31,63,127,7,7,519,1799,3847,8191,16383,32767,1,0,0,0,0,0,0,0,0,0,0,0,0,0,0,0]) [vm 44 3,vo 45 (.bin .gtr 44 (kI 0)),vm 46 45,vg 47 46 true (.mv 0),vg 48 46 true (.mv 3),vg 49 46 true (.ixA 10 47 48),vg 50 46 true (.load 10 true 49),vg 51 46 true (.call 15 [50]),vg 52 46 true (.mv 0),vg 53 46 true (.mv 3),vg 54 46 true (.bin .sub 53 (kI 1)),vg 55 46 true (.ixA 10 52 54),vg 56 46 true (.load 10 true 55),vg 57 46 true (.call 15 [56]),vg 58 46 true (.bin .lss 51 57),vo 59 (.pick 46 58 (kB false))]) (.cond 59 (.seq (rg [vo 2 (.mv (kB false))]) .ret) .skip)) (.seq (rg [vm 60 0,vm 61 3,vo 62 (.call 53 [60,61]),vm 5 62]) (.seq (.region (some [0,1,3,7,7,31,63,127,255,7,519,2047,4095,1,0,0,0,0,0,0,0,0,0,0,0,0]) [vm 63 5,vo 64 (.bin .geq 63 (kI 0)),vm 65 64,vg 66 65 true (.mv 0),vg 67 65 true (.mv 5),vg 68 65 true (.ixA 10 66 67),vg 69 65 true (.fld 0 68),vg 70 65 true (.fld 1 69),vg 71 65 true (.load 1 false 70),vg 72 65 true (.fld 1 4),vg 73 65 true (.load 1 false 72),vg 74 65 true (.bin .geq 71 73),vo 75 (.pick 65 74 (kB false))]) (.cond 75 (.seq (rg [vo 2 (.mv (kB false))]) .ret) .skip))))))) (rg [vm 10 3,vo 11 (.bin .add 10 (kI 1)),vm 3 11])))))) (.seq (rg [vo 2 (.mv (kB true))]) .ret)))
theorem c27:(Try.f27.body.bind fun c=>dZ Try.prog 76 c)=some v27:=by kernel_rfl
def v9:VC:=(.seq (rg [vo 2 (.mv (kB false))]) (.seq (.seq (rg [vm 4 0,vo 5 (.lenS 4),vo 6 (.bin .gtr 5 (kI 60))]) (.cond 6 (.seq (rg [vo 2 (.mv (kB false))]) .ret) .skip)) (.seq (.seq (rg [vo 3 (.mv (kI 0))]) (.block 0 (.loop (.seq (.seq (rg [vm 7 3,vm 8 0,vo 9 (.lenS 8),vo 10 (.bin .lss 7 9)]) (.cond 10 .skip (.exit 0))) (.seq (.block 1 (.seq (rg [vm 13 0,vm 14 3,vo 15 (.ixA 10 13 14),vo 16 (.fld 2 15),vo 17 (.fld 5 16),vo 18 (.load 1 false 17),vo 19 (.lenS 18),vo 20 (.bin .gtr 19 (kI 40))]) (.cond 20 (.seq (rg [vo 2 (.mv (kB false))]) .ret) .skip))) (rg [vm 11 3,vo 12 (.bin .add 11 (kI 1)),vm 3 12])))))) (.seq (rg [vm 21 0,vo 22 (.call 27 [21]),vm 2 22]) .ret))))
theorem c9:(Try.f9.body.bind fun c=>dZ Try.prog 23 c)=some v9:=by kernel_rfl
def v4:VC:=(.seq (rg [vo 4 (.mv (kB false))]) (.seq (.seq (rg [vm 13 0,vo 14 (.call 9 [13]),vo 15 (.un .not 14)]) (.cond 15 (.seq (rg [vo 16 (.call 10 []),vm 4 16]) .ret) .skip)) (.seq (rg [vm 17 0,vm 18 1,vo 19 (.call 11 [17,18]),vm 5 19]) (.seq (rg [vo 6 (.mv (kI 0))]) (.seq (.seq (rg [vo 7 (.mv (kI 0))]) (.block 0 (.loop (.seq (.seq (rg [vm 20 7,vm 21 0,vo 22 (.lenS 21),vo 23 (.bin .lss 20 22)]) (.cond 23 .skip (.exit 0))) (.seq (.block 1 (.seq (rg [vm 26 0,vm 27 7,vo 28 (.ixA 10 26 27),vo 29 (.fld 2 28),vo 30 (.fld 1 29),vo 31 (.load 1 false 30),vo 32 (.bin .eql 31 (kI 1))]) (.cond 32 (rg [vm 33 6,vo 34 (.bin .add 33 (kI 1)),vm 6 34]) .skip))) (rg [vm 24 7,vo 25 (.bin .add 24 (kI 1)),vm 7 25])))))) (.seq (.seq (rg [vm 35 5,vo 36 (.lenS 35),vm 37 6,vo 38 (.bin .gtr 36 37)]) (.cond 38 (.seq (rg [vo 4 (.mv (kB false))]) .ret) .skip)) (.seq (.seq (rg [vo 8 (.mv (kI 0))]) (.block 2 (.loop (.seq (.seq (rg [vm 39 8,vm 40 5,vo 41 (.lenS 40),vo 42 (.bin .lss 39 41)]) (.cond 42 .skip (.exit 2))) (.seq (.block 3 (.seq (.region (some [0,0,3,7,15,0,63,1,1,0,0,0,1,0]) [vm 45 5,vm 46 8,vo 47 (.ixA 8 45 46),vo 48 (.fld 7 47),vo 49 (.load 1 false 48),vo 9 (.mv (kB false)),vm 10 49]) (.seq (.seq (rg [vo 11 (.mv (kI 0))]) (.block 4 (.loop (.seq (.seq (rg [vm 50 11,vm 51 0,vo 52 (.lenS 51),vo 53 (.bin .lss 50 52)]) (.cond 53 .skip (.exit 4))) (.seq (.block 5 (.seq (.region (some [0,0,3,7,15,31,0,0,192,448,960,2047,4095,1,1,0,0,0,0,1,1,0,0,0,0,0]) [vm 56 0,vm 57 11,vo 58 (.ixA 10 56 57),vo 59 (.fld 0 58),vo 60 (.fld 0 59),vo 61 (.load 1 false 60),vm 62 5,vm 63 8,vo 64 (.ixA 8 62 63),vo 65 (.fld 0 64),vo 66 (.load 1 false 65),vo 67 (.bin .eql 61 66),vm 12 67]) (.seq (.region (some [0,1,3,7,15,15,63,127,255,511,1023,2047,4095,8191,8191,32767,65535,131071,262143,8191,8191,1581055,3678207,7872511,16777215,33554431,67108863,134217727,134217727,536870911,1073741823,2147483647,134217727,134217727,13019119615,30198988799,64558727167,133278203903,274877906943,549755813887,1099511627775,2199023255551,1,0,0,0,0,0,0,0,0,0,0,0,0,0,0,0,0,0,0,0,0,0,0,0,0,0,0,0,0,0,0,0,0,0,0,0,0,0,0,0,0,0]) [vm 68 9,vm 69 68,vg 70 69 false (.mv 12),vg 71 69 false (.mv 70),vg 72 71 true (.mv 0),vg 73 71 true (.mv 11),vg 74 71 true (.ixA 10 72 73),vg 75 71 true (.fld 2 74),vg 76 71 true (.fld 1 75),vg 77 71 true (.load 1 false 76),vg 78 71 true (.bin .eql 77 (kI 1)),vg 79 69 false (.pick 71 78 (kB false)),vg 80 69 false (.mv 79),vg 81 80 true (.mv 0),vg 82 80 true (.mv 11),vg 83 80 true (.ixA 10 81 82),vg 84 80 true (.fld 2 83),vg 85 80 true (.fld 2 84),vg 86 80 true (.load 1 false 85),vg 87 80 true (.mv 5),vg 88 80 true (.mv 8),vg 89 80 true (.ixA 8 87 88),vg 90 80 true (.fld 3 89),vg 91 80 true (.load 1 false 90),vg 92 80 true (.bin .eql 86 91),vg 93 69 false (.pick 80 92 (kB false)),vg 94 69 false (.mv 93),vg 95 94 true (.mv 0),vg 96 94 true (.mv 11),vg 97 94 true (.ixA 10 95 96),vg 98 94 true (.load 10 true 97),vg 99 94 true (.call 15 [98]),vg 100 94 true (.mv 5),vg 101 94 true (.mv 8),vg 102 94 true (.ixA 8 100 101),vg 103 94 true (.fld 4 102),vg 104 94 true (.fld 0 103),vg 105 94 true (.load 1 false 104),vg 106 94 true (.bin .eql 99 105),vg 107 69 false (.pick 94 106 (kB false)),vo 108 (.pick 69 (kB true) 107),vm 9 108]) (.region (some [0,1,3,7,15,15,63,127,255,511,1023,2047,4095,8191,8191,32767,65535,131071,8191,8191,794623,1843199,3940351,8134655,16777215,33554431,67108863,134217727,1,0,0,0,0,0,0,0,0,0,0,0,0,0,0,0,0,0,0,0,0,0,0,0,0,0,0,0]) [vm 109 10,vm 110 109,vg 111 110 false (.mv 12),vg 112 110 false (.mv 111),vg 113 112 true (.mv 0),vg 114 112 true (.mv 11),vg 115 112 true (.ixA 10 113 114),vg 116 112 true (.fld 2 115),vg 117 112 true (.fld 1 116),vg 118 112 true (.load 1 false 117),vg 119 112 true (.bin .eql 118 (kI 2)),vg 120 110 false (.pick 112 119 (kB false)),vg 121 110 false (.mv 120),vg 122 121 true (.mv 0),vg 123 121 true (.mv 11),vg 124 121 true (.ixA 10 122 123),vg 125 121 true (.load 10 true 124),vg 126 121 true (.call 15 [125]),vg 127 121 true (.mv 5),vg 128 121 true (.mv 8),vg 129 121 true (.ixA 8 127 128),vg 130 121 true (.fld 4 129),vg 131 121 true (.fld 1 130),vg 132 121 true (.load 1 false 131),vg 133 121 true (.bin .eql 126 132),vg 134 110 false (.pick 121 133 (kB false)),vo 135 (.pick 110 (kB true) 134),vm 10 135])))) (rg [vm 54 11,vo 55 (.bin .add 54 (kI 1)),vm 11 55])))))) (.seq (rg [vm 136 9,vo 137 (.un .not 136),vm 138 137,vg 139 138 false (.mv 10),vg 140 138 false (.un .not 139),vo 141 (.pick 138 (kB true) 140)]) (.cond 141 (.seq (rg [vo 4 (.mv (kB false))]) .ret) .skip))))) (rg [vm 43 8,vo 44 (.bin .add 43 (kI 1)),vm 8 44])))))) (.seq (rg [vo 142 (.call 10 []),vm 4 142]) .ret))))))))
theorem c4:(Try.f4.body.bind fun c=>dZ Try.prog 143 c)=some v4:=by kernel_rfl
def iz(p0:Int):Option (Bool×Bool×Bool×Bool) :=
  (((bif (decide (p0=1))then some true else(bif (decide (p0=3))then some true else some (decide (p0=4)))):Option Bool).bind fun v1=>(((bif (decide (p0=9))then some true else some (decide (p0=11))):Option Bool).bind fun v2=>(((bif (decide (p0=5))then some true else some (decide (p0=11))):Option Bool).bind fun v3=>some (v1,(decide (4≤p0)),v2,v3))))
theorem yQ(p0:Int)(r:(Bool×Bool×Bool×Bool))(hF:iz p0=some r):Fun Try.prog 72 true [] [cI p0] noHeap (.tup [cB r.1,cB r.2.1,cB r.2.2.1,cB r.2.2.2]) noHeap:=by
 refine Fun.of_walk0 Try.func72 c72 (by kernel_rfl) (rs:=[.tmp 2,.tmp 3,.tmp 4,.tmp 5]) (by kernel_rfl) ?_;unfold v72
 unfold iz at hF
 refine wA rfl ?_;refine cX ?_;refine jQ (fun _ _ h=>h) hF (fun v1=>[(0,cI p0),(6,cB v1)]) (fun v1=>[]) ?_ ?_
 ·rintro v1 hF
  refine wA rfl ?_;refine cX ?_;refine jQ (fun _ _ h=>h) hF (fun v2=>[(0,cI p0),(6,cB v1),(7,cB (decide (4≤p0))),(8,cB v2)]) (fun v2=>[]) ?_ ?_
  ·rintro v2 hF
   refine cX ?_;refine jQ (fun _ _ h=>h) hF (fun v3=>[(6,cB v1),(7,cB (decide (4≤p0))),(8,cB v2),(9,cB v3)]) (fun v3=>[]) ?_ ?_
   ·rintro v3 hF
    refine wA rfl ?_;cases hF
    exact e7 ⟨_,rfl,rfl,⟨⟨rfl,fun _=>rfl⟩,⟨rfl,fun _=>rfl⟩,⟨rfl,fun _=>rfl⟩,⟨rfl,fun _=>rfl⟩,trivial⟩,atV _⟩
   intro join hF
   refine wD 3 rfl ?_;cases h4:(decide (p0=5))
   ·have hF:=bF' h4 hF;refine QV rfl ?_;exact join (decide (p0=11)) _ _ hF sw
   have hF:=bT' h4 hF;refine QV rfl ?_;exact join true _ _ hF sw
  intro join hF
  refine wD 3 rfl ?_;cases h5:(decide (p0=9))
  ·have hF:=bF' h5 hF;refine QV rfl ?_;exact join (decide (p0=11)) _ _ hF sw
  have hF:=bT' h5 hF;refine QV rfl ?_;exact join true _ _ hF sw
 intro join hF
 refine wD 3 rfl ?_;cases h6:(decide (p0=1))
 ·have hF:=bF' h6 hF;refine b8 SV 4 rfl ?_;cases h7:(decide (p0=3))
  ·have hF:=bF' h7 hF;refine QV rfl ?_;exact join (decide (p0=4)) _ _ hF sw
  have hF:=bT' h7 hF;refine QV rfl ?_;exact join true _ _ hF sw
 have hF:=bT' h6 hF;refine QV rfl ?_;exact join true _ _ hF sw
def n8(p0:Int):Int→Option (Int ⊕ (Unit ⊕ Bool)):=fun a11 =>
  (bif (decide (a11<(ByteArray.size (⟨#[95,46,58,47,60,62,36,42,126,45]⟩ : ByteArray):Int)))then((idx (ByteArray.data (⟨#[95,46,58,47,60,62,36,42,126,45]⟩ : ByteArray)).toList a11).bind fun y15=>(bif (decide ((UInt8.toNat y15:Int)=p0))then some (.inr (.inr true))else some (.inl (w64 (a11+1)))))else some (.inr (.inl ())))
def fY(p0:Int):Option Bool :=
  (((bif (decide (97≤p0))then(bif (decide (p0≤122))then some true else(bif (decide (65≤p0))then(bif (decide (p0≤90))then some true else(bif (decide (48≤p0))then some (decide (p0≤57))else some false))else(bif (decide (48≤p0))then some (decide (p0≤57))else some false)))else(bif (decide (65≤p0))then(bif (decide (p0≤90))then some true else(bif (decide (48≤p0))then some (decide (p0≤57))else some false))else(bif (decide (48≤p0))then some (decide (p0≤57))else some false))):Option Bool).bind fun v1=>(bif v1 then some true else((loop (n8 p0) 0).bind fun | .inl _=>some false | .inr rv=>some rv)))
theorem vz(p0:Int)(r:Bool)(hF:fY p0=some r):Fun Try.prog 65 true [] [.c (.imm (.sc (.int .u8 p0)))] noHeap (cB r) noHeap:=by
 refine Fun.of_walk0 Try.func65 c65 (by kernel_rfl) (rs:=[.tmp 2]) (by kernel_rfl) ?_;unfold v65
 unfold fY at hF
 refine wA rfl ?_;refine cX ?_;refine cX ?_;refine jQ (fun _ _ h=>h) hF (fun v1=>[(0,.c (.imm (.sc (.int .u8 p0)))),(26,cB v1)]) (fun v1=>[]) ?_ ?_
 ·rintro v1 hF
  refine wIf hF rfl (fun _ hF=>?_) fun _ hF=>?_
  ·refine wA rfl ?_;cases hF
   exact e7 wR
  refine d9 ?_;refine wA rfl ?_;refine cX ?_;refine wA rfl ?_;refine Fq (fun _ _ h=>h) hF (.inl) (fun a11=>[(0,.c (.imm (.sc (.int .u8 p0)))),(3,.c (jS (⟨#[95,46,58,47,60,62,36,42,126,45]⟩ : ByteArray))),(4,cI a11)]) (fun a11=>[]) (fun _=>[]) (fun _=>[]) sw ?_ ?_
  ·rintro⟨⟩ hF
   refine wA rfl ?_;cases hF
   exact e7 wR
  rintro a11 x_0 hF cont_0 brk_0 fin_0
  unfold n8 at hF
  refine cX ?_;refine wA rfl ?_;refine wIf hF rfl (fun _ hF=>?_) fun _ hF=>?_
  ·refine d9 ?_;refine cX ?_;refine ox ?_;refine wC 2 rfl ?_;obtain⟨y15,hy15,hF⟩:=bB hF
   refine rS (atQ (⟨#[95,46,58,47,60,62,36,42,126,45]⟩ : ByteArray) rfl rfl hy15 ?_);refine QV rfl ?_;refine wIf hF rfl (fun _ hF=>?_) fun _ hF=>?_
   ·refine wA rfl ?_;have hF:=fin_0 _ (oi hF);cases hF
    exact e7 wR
   refine d9 ?_;refine wB rfl ?_;exact cont_0 _ _ _ (oi hF) sw
  refine z0 ?_;refine eQ ?_;refine eQ ?_;refine kJ ?_;exact brk_0 _ _ _ (oi hF) sw
 intro join hF
 refine wD 3 rfl ?_;cases h19:(decide (97≤p0))
 ·have hF:=bF' h19 hF;refine b8 SV 7 rfl ?_;cases h20:(decide (65≤p0))
  ·have hF:=bF' h20 hF;refine b8 SV 8 rfl ?_;cases h21:(decide (48≤p0))
   ·have hF:=bF' h21 hF;refine QV rfl ?_;exact join false _ _ hF sw
   have hF:=bT' h21 hF;refine QV rfl ?_;exact join (decide (p0≤57)) _ _ hF sw
  have hF:=bT' h20 hF;refine b8 SV 5 rfl ?_;cases h22:(decide (p0≤90))
  ·have hF:=bF' h22 hF;refine b8 SV 3 rfl ?_;cases h23:(decide (48≤p0))
   ·have hF:=bF' h23 hF;refine QV rfl ?_;exact join false _ _ hF sw
   have hF:=bT' h23 hF;refine QV rfl ?_;exact join (decide (p0≤57)) _ _ hF sw
  have hF:=bT' h22 hF;refine QV rfl ?_;exact join true _ _ hF sw
 have hF:=bT' h19 hF;refine b8 SV 4 rfl ?_;cases h24:(decide (p0≤122))
 ·have hF:=bF' h24 hF;refine b8 SV 3 rfl ?_;cases h25:(decide (65≤p0))
  ·have hF:=bF' h25 hF;refine b8 SV 8 rfl ?_;cases h26:(decide (48≤p0))
   ·have hF:=bF' h26 hF;refine QV rfl ?_;exact join false _ _ hF sw
   have hF:=bT' h26 hF;refine QV rfl ?_;exact join (decide (p0≤57)) _ _ hF sw
  have hF:=bT' h25 hF;refine b8 SV 5 rfl ?_;cases h27:(decide (p0≤90))
  ·have hF:=bF' h27 hF;refine b8 SV 3 rfl ?_;cases h28:(decide (48≤p0))
   ·have hF:=bF' h28 hF;refine QV rfl ?_;exact join false _ _ hF sw
   have hF:=bT' h28 hF;refine QV rfl ?_;exact join (decide (p0≤57)) _ _ hF sw
  have hF:=bT' h27 hF;refine QV rfl ?_;exact join true _ _ hF sw
 have hF:=bT' h24 hF;refine QV rfl ?_;exact join true _ _ hF sw
def kK(p0:ByteArray):Int→Option (Int ⊕ (Unit ⊕ Int)):=fun a13 =>
  (bif (decide (a13<(ByteArray.size p0:Int)))then((idx (ByteArray.data p0).toList a13).bind fun y18=>((fY (UInt8.toNat y18:Int)).bind fun r19=>(bif (!r19)then some (.inr (.inr 3))else some (.inl (w64 (a13+1))))))else some (.inr (.inl ())))
def fZ(p0:ByteArray):Option Int :=
  (((bif (decide ((ByteArray.size p0:Int)<1))then some true else some (decide (40<(ByteArray.size p0:Int)))):Option Bool).bind fun v1=>(bif v1 then some 3 else((loop (kK p0) 0).bind fun | .inl _=>some 0 | .inr rv=>some rv)))
theorem o9(p0:ByteArray)(r:Int)(hF:fZ p0=some r):Fun Try.prog 44 true [] [.c (jS p0)] noHeap (cI r) noHeap:=by
 refine Fun.of_walk0 Try.func44 c44 (by kernel_rfl) (rs:=[.tmp 2]) (by kernel_rfl) ?_;unfold v44
 unfold fZ at hF
 refine wA rfl ?_;refine cX ?_;refine cX ?_;refine jQ (fun _ _ h=>h) hF (fun v1=>[(0,.c (jS p0)),(11,cB v1)]) (fun v1=>[]) ?_ ?_
 ·rintro v1 hF
  refine wIf hF rfl (fun _ hF=>?_) fun _ hF=>?_
  ·refine wA rfl ?_;cases hF
   exact e7 wR
  refine d9 ?_;refine cX ?_;refine wA rfl ?_;refine Fq (fun _ _ h=>h) hF (.inl) (fun a13=>[(0,.c (jS p0)),(3,cI a13)]) (fun a13=>[]) (fun _=>[]) (fun _=>[]) sw ?_ ?_
  ·rintro⟨⟩ hF
   refine wA rfl ?_;cases hF
   exact e7 wR
  rintro a13 x_0 hF cont_0 brk_0 fin_0
  unfold kK at hF
  refine cX ?_;refine wA rfl ?_;refine wIf hF rfl (fun _ hF=>?_) fun _ hF=>?_
  ·refine d9 ?_;refine cX ?_;refine ox ?_;refine wC 2 rfl ?_;obtain⟨y18,hy18,hF⟩:=bB hF
   refine rS (atQ p0 rfl rfl hy18 ?_);obtain⟨r19,hr19,hF⟩:=bB hF
   refine rS (iJ (vz _ _ hr19) ⟨rfl,trivial⟩ rfl (.inl rfl) ?_);refine QV rfl ?_;refine wIf hF rfl (fun _ hF=>?_) fun _ hF=>?_
   ·refine wA rfl ?_;have hF:=fin_0 _ (oi hF);cases hF
    exact e7 wR
   refine d9 ?_;refine wB rfl ?_;exact cont_0 _ _ _ (oi hF) sw
  refine z0 ?_;refine eQ ?_;refine eQ ?_;refine kJ ?_;exact brk_0 _ _ _ (oi hF) sw
 intro join hF
 refine wD 4 rfl ?_;cases h23:(decide ((ByteArray.size p0:Int)<1))
 ·have hF:=bF' h23 hF;refine QV rfl ?_;exact join (decide (40<(ByteArray.size p0:Int))) _ _ hF sw
 have hF:=bT' h23 hF;refine QV rfl ?_;exact join true _ _ hF sw
def jY(p0:(List ByteArray)):Int→Option (Int ⊕ (Unit ⊕ Int)):=fun a12 =>
  (bif (decide (a12<(List.length p0:Int)))then((idx p0 a12).bind fun y17=>((fZ y17).bind fun r18=>(bif (!decide (r18=0))then some (.inr (.inr 3))else some (.inl (w64 (a12+1))))))else some (.inr (.inl ())))
def fV(p0:(List ByteArray)):Option Int :=
  (bif (decide (32<(List.length p0:Int)))then some 7 else((loop (jY p0) 0).bind fun | .inl _=>some 0 | .inr rv=>some rv))
theorem u9(p0:(List ByteArray))(r:Int)(hF:fV p0=some r):Fun Try.prog 73 true [] [cL 1 qz p0] noHeap (cI r) noHeap:=by
 refine Fun.of_walk0 Try.func73 c73 (by kernel_rfl) (rs:=[.tmp 2]) (by kernel_rfl) ?_;unfold v73
 unfold fV at hF
 refine wA rfl ?_;refine cX ?_;refine wC 1 rfl ?_;refine rS (qQ (tc:=qz) p0 .tree ?_);refine QV rfl ?_;refine wIf hF rfl (fun _ hF=>?_) fun _ hF=>?_
 ·refine wA rfl ?_;cases hF
  exact e7 wR
 refine d9 ?_;refine cX ?_;refine wA rfl ?_;refine Fq (fun _ _ h=>h) hF (.inl) (fun a12=>[(0,cL 1 qz p0),(3,cI a12)]) (fun a12=>[]) (fun _=>[]) (fun _=>[]) sw ?_ ?_
 ·rintro⟨⟩ hF
  refine wA rfl ?_;cases hF
  exact e7 wR
 rintro a12 x_0 hF cont_0 brk_0 fin_0
 unfold jY at hF
 refine cX ?_;refine wC 2 rfl ?_;refine rS (qQ (tc:=qz) p0 .tree ?_);refine QV rfl ?_;refine wIf hF rfl (fun _ hF=>?_) fun _ hF=>?_
 ·refine d9 ?_;refine cX ?_;refine ox ?_;refine wC 2 rfl ?_;obtain⟨y17,hy17,hF⟩:=bB hF
  refine rS (nW (tc:=qz) p0 rfl rfl hy17 ?_);refine b8 SV 1 rfl ?_;obtain⟨r18,hr18,hF⟩:=bB hF
  refine rS (iJ (o9 _ _ hr18) ⟨rfl,trivial⟩ rfl (.inl rfl) ?_);refine QV rfl ?_;refine wIf hF rfl (fun _ hF=>?_) fun _ hF=>?_
  ·refine wA rfl ?_;have hF:=fin_0 _ (oi hF);cases hF
   exact e7 wR
  refine d9 ?_;refine wB rfl ?_;exact cont_0 _ _ _ (oi hF) sw
 refine z0 ?_;refine eQ ?_;refine eQ ?_;refine kJ ?_;exact brk_0 _ _ _ (oi hF) sw
def cz(p0:Int)(p1:Int)(p2:Int):Option Int :=
  (((bif (decide (p0<p1))then some true else some (decide (p2<p0))):Option Bool).bind fun v1=>(bif v1 then some 2 else some 0))
theorem dX(p0:Int)(p1:Int)(p2:Int)(r:Int)(hF:cz p0 p1 p2=some r):Fun Try.prog 83 true [] [cI p0,cI p1,cI p2] noHeap (cI r) noHeap:=by
 refine Fun.of_walk0 Try.func83 c83 (by kernel_rfl) (rs:=[.tmp 6]) (by kernel_rfl) ?_;unfold v83
 unfold cz at hF
 refine wA rfl ?_;refine cX ?_;refine cX ?_;refine jQ (fun _ _ h=>h) hF (fun v1=>[(14,cB v1)]) (fun v1=>[]) ?_ ?_
 ·rintro v1 hF
  refine wIf hF rfl (fun _ hF=>?_) fun _ hF=>?_
  ·refine wA rfl ?_;cases hF
   exact e7 wR
  refine d9 ?_;refine wA rfl ?_;cases hF
  exact e7 wR
 intro join hF
 refine wD 4 rfl ?_;cases h3:(decide (p0<p1))
 ·have hF:=bF' h3 hF;refine QV rfl ?_;exact join (decide (p2<p0)) _ _ hF sw
 have hF:=bT' h3 hF;refine QV rfl ?_;exact join true _ _ hF sw
def fQ(p0:m6):Option Int :=
  (((bif (decide (p0.fKind=1))then some (decide (p0.fKind=1))else(bif (decide (p0.fKind=2))then some (decide (p0.fKind=2))else some (decide (p0.fKind=3)))):Option Bool).bind fun v1=>(bif v1 then some 0 else(bif (decide (p0.fKind=4))then((cz p0.fN (-1000000000000000) 1000000000000000).bind fun r2=>some r2)else(bif (decide (p0.fKind=5))then((cz p0.fN 1 1000000000000).bind fun r3=>some r3)else(bif (decide (p0.fKind=8))then((cz p0.fN 0 63).bind fun r4=>some r4)else(bif (decide (p0.fKind=9))then((cz p0.fN 0 3).bind fun r5=>(((bif (decide (r5=0))then some (decide (p0.fN=2))else some false):Option Bool).bind fun v6=>(bif v6 then((cz p0.fM 0 1000000000000000).bind fun r7=>some r7)else(((bif (decide (r5=0))then some (!decide (p0.fM=0))else some false):Option Bool).bind fun v8=>(bif v8 then some 1 else some r5)))))else((cz p0.fN 0 1000000000000000).bind fun r13=>(((bif (decide (r13=0))then some (decide (p0.fKind=11))else some false):Option Bool).bind fun v14=>(bif v14 then((cz p0.fM 1 1000000000000).bind fun r15=>some r15)else some r13)))))))))
theorem uY(p0:m6)(r:Int)(hF:fQ p0=some r):Fun Try.prog 74 true [] [.agg (i5 p0)] noHeap (cI r) noHeap:=by
 refine Fun.of_walk0 Try.func74 c74 (by kernel_rfl) (rs:=[.tmp 2]) (by kernel_rfl) ?_;unfold v74
 unfold fQ at hF
 refine wA rfl ?_;refine cX ?_;refine wA rfl ?_;refine ox ?_;refine cX ?_;refine wA rfl ?_;refine jQ (fun _ _ h=>h) hF (fun v1=>[(1,cP (1,0) 0),(6,cI p0.fKind),(7,cB v1)]) (fun v1=>[((1,0),.box (i5 p0))]) ?_ ?_
 ·rintro v1 hF
  refine wIf hF rfl (fun _ hF=>?_) fun _ hF=>?_
  ·refine wA rfl ?_;cases hF
   exact e7 wR
  refine wA rfl ?_;refine wIf hF rfl (fun _ hF=>?_) fun _ hF=>?_
  ·refine wC 2 rfl ?_;obtain⟨r2,hr2,hF⟩:=bB hF
   refine rS (iJ (dX _ _ _ _ hr2) ⟨rfl,rfl,rfl,trivial⟩ rfl (.inl rfl) ?_);refine QV rfl ?_;cases hF
   exact e7 wR
  refine wA rfl ?_;refine wIf hF rfl (fun _ hF=>?_) fun _ hF=>?_
  ·refine wC 2 rfl ?_;obtain⟨r3,hr3,hF⟩:=bB hF
   refine rS (iJ (dX _ _ _ _ hr3) ⟨rfl,rfl,rfl,trivial⟩ rfl (.inl rfl) ?_);refine QV rfl ?_;cases hF
   exact e7 wR
  refine wA rfl ?_;refine wIf hF rfl (fun _ hF=>?_) fun _ hF=>?_
  ·refine wC 2 rfl ?_;obtain⟨r4,hr4,hF⟩:=bB hF
   refine rS (iJ (dX _ _ _ _ hr4) ⟨rfl,rfl,rfl,trivial⟩ rfl (.inl rfl) ?_);refine QV rfl ?_;cases hF
   exact e7 wR
  refine wA rfl ?_;refine wIf hF rfl (fun _ hF=>?_) fun _ hF=>?_
  ·refine wC 2 rfl ?_;obtain⟨r5,hr5,hF⟩:=bB hF
   refine rS (iJ (dX _ _ _ _ hr5) ⟨rfl,rfl,rfl,trivial⟩ rfl (.inl rfl) ?_);refine QV rfl ?_;refine cX ?_;refine cX ?_;refine jQ (fun _ _ h=>h) hF (fun v6=>[(1,cP (1,0) 0),(3,cI r5),(37,cB v6)]) (fun v6=>[((1,0),.box (i5 p0))]) ?_ ?_
   ·rintro v6 hF
    refine wIf hF rfl (fun _ hF=>?_) fun _ hF=>?_
    ·refine wC 2 rfl ?_;obtain⟨r7,hr7,hF⟩:=bB hF
     refine rS (iJ (dX _ _ _ _ hr7) ⟨rfl,rfl,rfl,trivial⟩ rfl (.inl rfl) ?_);refine QV rfl ?_;cases hF
     exact e7 wR
    refine d9 ?_;refine cX ?_;refine cX ?_;refine jQ (fun _ _ h=>h) hF (fun v8=>[(3,cI r5),(47,cB v8)]) (fun v8=>[]) ?_ ?_
    ·rintro v8 hF
     refine wIf hF rfl (fun _ hF=>?_) fun _ hF=>?_
     ·refine wA rfl ?_;cases hF
      exact e7 wR
     refine d9 ?_;refine wA rfl ?_;cases hF
     exact e7 wR
    intro join hF
    refine wD 3 rfl ?_;cases h10:(decide (r5=0))
    ·have hF:=bF' h10 hF;refine QV rfl ?_;exact join false _ _ hF sw
    have hF:=bT' h10 hF;refine QV rfl ?_;exact join (!decide (p0.fM=0)) _ _ hF sw
   intro join hF
   refine wD 3 rfl ?_;cases h12:(decide (r5=0))
   ·have hF:=bF' h12 hF;refine QV rfl ?_;exact join false _ _ hF sw
   have hF:=bT' h12 hF;refine QV rfl ?_;exact join (decide (p0.fN=2)) _ _ hF sw
  refine d9 ?_;refine wC 2 rfl ?_;obtain⟨r13,hr13,hF⟩:=bB hF
  refine rS (iJ (dX _ _ _ _ hr13) ⟨rfl,rfl,rfl,trivial⟩ rfl (.inl rfl) ?_);refine QV rfl ?_;refine cX ?_;refine cX ?_;refine jQ (fun _ _ h=>h) hF (fun v14=>[(1,cP (1,0) 0),(4,cI r13),(58,cB v14)]) (fun v14=>[((1,0),.box (i5 p0))]) ?_ ?_
  ·rintro v14 hF
   refine wIf hF rfl (fun _ hF=>?_) fun _ hF=>?_
   ·refine wC 2 rfl ?_;obtain⟨r15,hr15,hF⟩:=bB hF
    refine rS (iJ (dX _ _ _ _ hr15) ⟨rfl,rfl,rfl,trivial⟩ rfl (.inl rfl) ?_);refine QV rfl ?_;cases hF
    exact e7 wR
   refine d9 ?_;refine wA rfl ?_;cases hF
   exact e7 wR
  intro join hF
  refine wD 3 rfl ?_;cases h17:(decide (r13=0))
  ·have hF:=bF' h17 hF;refine QV rfl ?_;exact join false _ _ hF sw
  have hF:=bT' h17 hF;refine QV rfl ?_;exact join (decide (p0.fKind=11)) _ _ hF sw
 intro join hF
 refine ajV hF rfl (fun _ hF=>?_) fun _ hF=>?_
 ·refine d9 ?_;exact join (decide (p0.fKind=1)) _ _ hF sw
 refine wA rfl ?_;refine ajV hF rfl (fun _ hF=>?_) fun _ hF=>?_
 ·refine d9 ?_;exact join (decide (p0.fKind=2)) _ _ hF sw
 refine wB rfl ?_;exact join (decide (p0.fKind=3)) _ _ hF sw
def gQ(p0:m6):Option Int :=
  (((bif (decide (p0.fAt<0))then some true else some (decide (1000000000000<p0.fAt))):Option Bool).bind fun v1=>(bif v1 then some 2 else(((bif (decide (p0.fKind<1))then some true else some (decide (12<p0.fKind))):Option Bool).bind fun v2=>(bif v2 then some 1 else((iz p0.fKind).bind fun r3=>(((bif (!r3.1)then(bif (!decide (p0.fName=(⟨#[]⟩ : ByteArray)))then some true else(bif (!r3.2.1)then(bif (!decide (p0.fN=0))then some true else(bif (!r3.2.2.1)then(bif (!decide (p0.fM=0))then some true else(bif (!r3.2.2.2)then some (decide (0<(List.length p0.fStack:Int)))else some false))else(bif (!r3.2.2.2)then some (decide (0<(List.length p0.fStack:Int)))else some false)))else(bif (!r3.2.2.1)then(bif (!decide (p0.fM=0))then some true else(bif (!r3.2.2.2)then some (decide (0<(List.length p0.fStack:Int)))else some false))else(bif (!r3.2.2.2)then some (decide (0<(List.length p0.fStack:Int)))else some false))))else(bif (!r3.2.1)then(bif (!decide (p0.fN=0))then some true else(bif (!r3.2.2.1)then(bif (!decide (p0.fM=0))then some true else(bif (!r3.2.2.2)then some (decide (0<(List.length p0.fStack:Int)))else some false))else(bif (!r3.2.2.2)then some (decide (0<(List.length p0.fStack:Int)))else some false)))else(bif (!r3.2.2.1)then(bif (!decide (p0.fM=0))then some true else(bif (!r3.2.2.2)then some (decide (0<(List.length p0.fStack:Int)))else some false))else(bif (!r3.2.2.2)then some (decide (0<(List.length p0.fStack:Int)))else some false)))):Option Bool).bind fun v4=>(bif v4 then some 1 else(((bif r3.1 then((fZ p0.fName).bind fun r11=>some r11)else some 0):Option Int).bind fun v5=>(((bif r3.2.2.2 then((fV p0.fStack).bind fun r9=>some r9)else some v5):Option Int).bind fun v6=>(bif (!decide (v6=0))then some v6 else((fQ p0).bind fun r7=>some r7)))))))))))
theorem wY(p0:m6)(r:Int)(hF:gQ p0=some r):Fun Try.prog 52 true [] [.agg (i5 p0)] noHeap (cI r) noHeap:=by
 refine Fun.of_walk0 Try.func52 c52 (by kernel_rfl) (rs:=[.tmp 2]) (by kernel_rfl) ?_;unfold v52
 unfold gQ at hF
 refine wA rfl ?_;refine cX ?_;refine cX ?_;refine jQ (fun _ _ h=>h) hF (fun v1=>[(1,cP (1,0) 0),(15,cB v1)]) (fun v1=>[((1,0),.box (i5 p0))]) ?_ ?_
 ·rintro v1 hF
  refine wIf hF rfl (fun _ hF=>?_) fun _ hF=>?_
  ·refine wA rfl ?_;cases hF
   exact e7 wR
  refine d9 ?_;refine cX ?_;refine cX ?_;refine jQ (fun _ _ h=>h) hF (fun v2=>[(1,cP (1,0) 0),(23,cB v2)]) (fun v2=>[((1,0),.box (i5 p0))]) ?_ ?_
  ·rintro v2 hF
   refine wIf hF rfl (fun _ hF=>?_) fun _ hF=>?_
   ·refine wA rfl ?_;cases hF
    exact e7 wR
   refine d9 ?_;refine wC 2 rfl ?_;obtain⟨r3,hr3,hF⟩:=bB hF
   refine rS (iJ (yQ _ _ hr3) ⟨rfl,trivial⟩ rfl (.inl rfl) ?_);refine QV rfl ?_;refine cX ?_;refine cX ?_;refine jQ (fun _ _ h=>h) hF (fun v4=>[(1,cP (1,0) 0),(3,cB r3.1),(6,cB r3.2.2.2),(66,cB v4)]) (fun v4=>[((1,0),.box (i5 p0))]) ?_ ?_
   ·rintro v4 hF
    refine wIf hF rfl (fun _ hF=>?_) fun _ hF=>?_
    ·refine wA rfl ?_;cases hF
     exact e7 wR
    refine d9 ?_;refine wA rfl ?_;refine cX ?_;refine wA rfl ?_;refine jQ (fun _ _ h=>h) hF (fun v5=>[(1,cP (1,0) 0),(6,cB r3.2.2.2),(7,cI v5)]) (fun v5=>[((1,0),.box (i5 p0))]) ?_ ?_
    ·rintro v5 hF
     refine cX ?_;refine wA rfl ?_;refine jQ (fun _ _ h=>h) hF (fun v6=>[(1,cP (1,0) 0),(7,cI v6)]) (fun v6=>[((1,0),.box (i5 p0))]) ?_ ?_
     ·rintro v6 hF
      refine cX ?_;refine wA rfl ?_;refine wIf hF rfl (fun _ hF=>?_) fun _ hF=>?_
      ·refine wA rfl ?_;cases hF
       exact e7 wR
      refine d9 ?_;refine wC 1 rfl ?_;obtain⟨r7,hr7,hF⟩:=bB hF
      refine rS (iJ (uY _ _ hr7) ⟨⟨rfl,rfl,rfl,rfl,rfl,rfl,trivial⟩,trivial⟩ rfl (.inl rfl) ?_);refine QV rfl ?_;cases hF
      exact e7 wR
     intro join hF
     refine ajV hF rfl (fun _ hF=>?_) fun _ hF=>?_
     ·refine wD 2 rfl ?_;obtain⟨r9,hr9,hF⟩:=bB' hF
      refine rS (iJ (u9 _ _ hr9) ⟨rfl,trivial⟩ rfl (.inl rfl) ?_);refine QV rfl ?_;exact join r9 _ _ hF sw
     refine d9 ?_;exact join v5 _ _ hF sw
    intro join hF
    refine ajV hF rfl (fun _ hF=>?_) fun _ hF=>?_
    ·refine wD 2 rfl ?_;obtain⟨r11,hr11,hF⟩:=bB' hF
     refine rS (iJ (o9 _ _ hr11) ⟨rfl,trivial⟩ rfl (.inl rfl) ?_);refine QV rfl ?_;exact join r11 _ _ hF sw
    refine d9 ?_;exact join 0 _ _ hF sw
   intro join hF
   refine wD 3 rfl ?_;cases h14:(!r3.1)
   ·have hF:=bF' h14 hF;refine b8 SV 8 rfl ?_;cases h15:(!r3.2.1)
    ·have hF:=bF' h15 hF;refine b8 SV 9 rfl ?_;cases h16:(!r3.2.2.1)
     ·have hF:=bF' h16 hF;refine b8 SV 9 rfl ?_;cases h17:(!r3.2.2.2)
      ·have hF:=bF' h17 hF;refine QV rfl ?_;exact join false _ _ hF sw
      have hF:=bT' h17 hF;refine b8 SV 2 rfl ?_;refine fj SV rfl (qQ (tc:=qz) p0.fStack .tree ?_);refine QV rfl ?_;exact join (decide (0<(List.length p0.fStack:Int))) _ _ hF sw
     have hF:=bT' h16 hF;refine b8 SV 6 rfl ?_;cases h18:(!decide (p0.fM=0))
     ·have hF:=bF' h18 hF;refine b8 SV 3 rfl ?_;cases h19:(!r3.2.2.2)
      ·have hF:=bF' h19 hF;refine QV rfl ?_;exact join false _ _ hF sw
      have hF:=bT' h19 hF;refine b8 SV 2 rfl ?_;refine fj SV rfl (qQ (tc:=qz) p0.fStack .tree ?_);refine QV rfl ?_;exact join (decide (0<(List.length p0.fStack:Int))) _ _ hF sw
     have hF:=bT' h18 hF;refine QV rfl ?_;exact join true _ _ hF sw
    have hF:=bT' h15 hF;refine b8 SV 6 rfl ?_;cases h20:(!decide (p0.fN=0))
    ·have hF:=bF' h20 hF;refine b8 SV 3 rfl ?_;cases h21:(!r3.2.2.1)
     ·have hF:=bF' h21 hF;refine b8 SV 9 rfl ?_;cases h22:(!r3.2.2.2)
      ·have hF:=bF' h22 hF;refine QV rfl ?_;exact join false _ _ hF sw
      have hF:=bT' h22 hF;refine b8 SV 2 rfl ?_;refine fj SV rfl (qQ (tc:=qz) p0.fStack .tree ?_);refine QV rfl ?_;exact join (decide (0<(List.length p0.fStack:Int))) _ _ hF sw
     have hF:=bT' h21 hF;refine b8 SV 6 rfl ?_;cases h23:(!decide (p0.fM=0))
     ·have hF:=bF' h23 hF;refine b8 SV 3 rfl ?_;cases h24:(!r3.2.2.2)
      ·have hF:=bF' h24 hF;refine QV rfl ?_;exact join false _ _ hF sw
      have hF:=bT' h24 hF;refine b8 SV 2 rfl ?_;refine fj SV rfl (qQ (tc:=qz) p0.fStack .tree ?_);refine QV rfl ?_;exact join (decide (0<(List.length p0.fStack:Int))) _ _ hF sw
     have hF:=bT' h23 hF;refine QV rfl ?_;exact join true _ _ hF sw
    have hF:=bT' h20 hF;refine QV rfl ?_;exact join true _ _ hF sw
   have hF:=bT' h14 hF;refine b8 SV 5 rfl ?_;cases h25:(!decide (p0.fName=(⟨#[]⟩ : ByteArray)))
   ·have hF:=bF' h25 hF;refine b8 SV 3 rfl ?_;cases h26:(!r3.2.1)
    ·have hF:=bF' h26 hF;refine b8 SV 9 rfl ?_;cases h27:(!r3.2.2.1)
     ·have hF:=bF' h27 hF;refine b8 SV 9 rfl ?_;cases h28:(!r3.2.2.2)
      ·have hF:=bF' h28 hF;refine QV rfl ?_;exact join false _ _ hF sw
      have hF:=bT' h28 hF;refine b8 SV 2 rfl ?_;refine fj SV rfl (qQ (tc:=qz) p0.fStack .tree ?_);refine QV rfl ?_;exact join (decide (0<(List.length p0.fStack:Int))) _ _ hF sw
     have hF:=bT' h27 hF;refine b8 SV 6 rfl ?_;cases h29:(!decide (p0.fM=0))
     ·have hF:=bF' h29 hF;refine b8 SV 3 rfl ?_;cases h30:(!r3.2.2.2)
      ·have hF:=bF' h30 hF;refine QV rfl ?_;exact join false _ _ hF sw
      have hF:=bT' h30 hF;refine b8 SV 2 rfl ?_;refine fj SV rfl (qQ (tc:=qz) p0.fStack .tree ?_);refine QV rfl ?_;exact join (decide (0<(List.length p0.fStack:Int))) _ _ hF sw
     have hF:=bT' h29 hF;refine QV rfl ?_;exact join true _ _ hF sw
    have hF:=bT' h26 hF;refine b8 SV 6 rfl ?_;cases h31:(!decide (p0.fN=0))
    ·have hF:=bF' h31 hF;refine b8 SV 3 rfl ?_;cases h32:(!r3.2.2.1)
     ·have hF:=bF' h32 hF;refine b8 SV 9 rfl ?_;cases h33:(!r3.2.2.2)
      ·have hF:=bF' h33 hF;refine QV rfl ?_;exact join false _ _ hF sw
      have hF:=bT' h33 hF;refine b8 SV 2 rfl ?_;refine fj SV rfl (qQ (tc:=qz) p0.fStack .tree ?_);refine QV rfl ?_;exact join (decide (0<(List.length p0.fStack:Int))) _ _ hF sw
     have hF:=bT' h32 hF;refine b8 SV 6 rfl ?_;cases h34:(!decide (p0.fM=0))
     ·have hF:=bF' h34 hF;refine b8 SV 3 rfl ?_;cases h35:(!r3.2.2.2)
      ·have hF:=bF' h35 hF;refine QV rfl ?_;exact join false _ _ hF sw
      have hF:=bT' h35 hF;refine b8 SV 2 rfl ?_;refine fj SV rfl (qQ (tc:=qz) p0.fStack .tree ?_);refine QV rfl ?_;exact join (decide (0<(List.length p0.fStack:Int))) _ _ hF sw
     have hF:=bT' h34 hF;refine QV rfl ?_;exact join true _ _ hF sw
    have hF:=bT' h31 hF;refine QV rfl ?_;exact join true _ _ hF sw
   have hF:=bT' h25 hF;refine QV rfl ?_;exact join true _ _ hF sw
  intro join hF
  refine wD 4 rfl ?_;cases h37:(decide (p0.fKind<1))
  ·have hF:=bF' h37 hF;refine QV rfl ?_;exact join (decide (12<p0.fKind)) _ _ hF sw
  have hF:=bT' h37 hF;refine QV rfl ?_;exact join true _ _ hF sw
 intro join hF
 refine wD 4 rfl ?_;cases h39:(decide (p0.fAt<0))
 ·have hF:=bF' h39 hF;refine QV rfl ?_;exact join (decide (1000000000000<p0.fAt)) _ _ hF sw
 have hF:=bT' h39 hF;refine QV rfl ?_;exact join true _ _ hF sw
def d3(p0:a7):Option Int :=
  (bif (decide (p0.fWhen.fLo<0))then some 0 else(bif (decide (1000000000000<p0.fWhen.fLo))then some 1000000000000 else some p0.fWhen.fLo))
theorem gW(p0:a7)(r:Int)(hF:d3 p0=some r):Fun Try.prog 15 true [] [.agg [jI p0.fId.fThread,jI p0.fId.fSerial,jI p0.fEvent.fAt,jI p0.fEvent.fKind,jS p0.fEvent.fName,jI p0.fEvent.fN,jI p0.fEvent.fM,jL 1 qz p0.fEvent.fStack,jI p0.fWhen.fLo,jI p0.fWhen.fHi]] noHeap (cI r) noHeap:=by
 refine Fun.of_walk0 Try.func15 c15 (by kernel_rfl) (rs:=[.tmp 2]) (by kernel_rfl) ?_;unfold v15
 unfold d3 at hF
 refine wA rfl ?_;refine cX ?_;refine ox ?_;refine wA rfl ?_;refine wIf hF rfl (fun _ hF=>?_) fun _ hF=>?_
 ·refine wA rfl ?_;cases hF
  exact e7 wR
 refine wA rfl ?_;refine wIf hF rfl (fun _ hF=>?_) fun _ hF=>?_
 ·refine wA rfl ?_;cases hF
  exact e7 wR
 refine d9 ?_;refine wA rfl ?_;cases hF
 exact e7 wR
def i9(p0:(List a7))(p1:Int):Int→Option (Int ⊕ (Unit ⊕ Int)):=fun a12 =>
  (bif (decide (0≤a12))then((idx p0 a12).bind fun y17=>((idx p0 p1).bind fun y18=>(bif (decide (y17.fId.fThread=y18.fId.fThread))then some (.inr (.inr a12))else some (.inl (w64 (a12-1))))))else some (.inr (.inl ())))
def e9(p0:(List a7))(p1:Int):Option Int :=
  ((loop (i9 p0 p1) (w64 (p1-1))).bind fun | .inl _=>some (-1) | .inr rv=>some rv)
theorem tj(p0:(List a7))(p1:Int)(r:Int)(hF:e9 p0 p1=some r):Fun Try.prog 53 true [] [cL 10 aY p0,cI p1] noHeap (cI r) noHeap:=by
 refine Fun.of_walk0 Try.func53 c53 (by kernel_rfl) (rs:=[.tmp 4]) (by kernel_rfl) ?_;unfold v53
 unfold e9 at hF
 refine wA rfl ?_;refine cX ?_;refine wA rfl ?_;refine Fq (fun _ _ h=>h) hF (.inl) (fun a12=>[(0,cL 10 aY p0),(1,cI p1),(5,cI a12)]) (fun a12=>[]) (fun _=>[]) (fun _=>[]) sw ?_ ?_
 ·rintro⟨⟩ hF
  refine wA rfl ?_;cases hF
  exact e7 wR
 rintro a12 x_0 hF cont_0 brk_0 fin_0
 unfold i9 at hF
 refine cX ?_;refine wA rfl ?_;refine wIf hF rfl (fun _ hF=>?_) fun _ hF=>?_
 ·refine d9 ?_;refine cX ?_;refine ox ?_;refine cX ?_;refine DZ (by decide) (by kernel_rfl) rfl ?_;refine b8 SP 2 rfl ?_;obtain⟨y17,hy17,hF⟩:=bB hF
  refine fj SP trivial (nW (tc:=aY) p0 rfl rfl hy17 ?_);refine b8 SP 5 rfl ?_;obtain⟨y18,hy18,hF⟩:=bB hF
  refine fj SP trivial (nW (tc:=aY) p0 rfl rfl hy18 ?_);refine QP rfl ?_;refine wIf hF rfl (fun _ hF=>?_) fun _ hF=>?_
  ·refine wA rfl ?_;have hF:=fin_0 _ (oi hF);cases hF
   exact e7 wR
  refine d9 ?_;refine wB rfl ?_;exact cont_0 _ _ _ (oi hF) sw
 refine z0 ?_;refine eQ ?_;refine eQ ?_;refine kJ ?_;exact brk_0 _ _ _ (oi hF) sw
def jX(p0:(List a7)):Int→Option (Int ⊕ (Unit ⊕ Bool)):=fun a48 =>
  (bif (decide (a48<(List.length p0:Int)))then((idx p0 a48).bind fun y71=>((((idx p0 a48).bind fun y86=>((gQ y86.fEvent).bind fun r87=>(bif (!decide (r87=0))then some true else(bif (decide (y71.fId.fThread<0))then some true else(bif (decide (1000000000000000<y71.fId.fThread))then some true else(bif (decide (y71.fId.fSerial<0))then some true else some (decide (1000000000000000<y71.fId.fSerial)))))))):Option Bool).bind fun v72=>(bif v72 then some (.inr (.inr false))else(((bif (decide (0<a48))then((idx p0 a48).bind fun y81=>((d3 y81).bind fun r82=>((idx p0 (w64 (a48-1))).bind fun y83=>((d3 y83).bind fun r84=>some (decide (r82<r84))))))else some false):Option Bool).bind fun v73=>(bif v73 then some (.inr (.inr false))else((e9 p0 a48).bind fun r74=>(((bif (decide (0≤r74))then((idx p0 r74).bind fun y78=>some (decide (y71.fId.fSerial≤y78.fId.fSerial)))else some false):Option Bool).bind fun v75=>(bif v75 then some (.inr (.inr false))else some (.inl (w64 (a48+1)))))))))))else some (.inr (.inl ())))
def fX(p0:(List a7)):Option Bool :=
  ((loop (jX p0) 0).bind fun | .inl _=>some true | .inr rv=>some rv)
theorem uV(p0:(List a7))(r:Bool)(hF:fX p0=some r):Fun Try.prog 27 true [] [cL 10 aY p0] noHeap (cB r) noHeap:=by
 refine Fun.of_walk0 Try.func27 c27 (by kernel_rfl) (rs:=[.tmp 2]) (by kernel_rfl) ?_;unfold v27
 unfold fX at hF
 refine wA rfl ?_;refine cX ?_;refine wA rfl ?_;refine Fq (fun _ _ h=>h) hF (.inl) (fun a48=>[(0,cL 10 aY p0),(3,cI a48)]) (fun a48=>[]) (fun _=>[]) (fun _=>[]) sw ?_ ?_
 ·rintro⟨⟩ hF
  refine wA rfl ?_;cases hF
  exact e7 wR
 rintro a48 x_0 hF cont_0 brk_0 fin_0
 unfold jX at hF
 refine cX ?_;refine wC 2 rfl ?_;refine rS (qQ (tc:=aY) p0 .tree ?_);refine QV rfl ?_;refine wIf hF rfl (fun _ hF=>?_) fun _ hF=>?_
 ·refine d9 ?_;refine cX ?_;refine ox ?_;refine wC 2 rfl ?_;obtain⟨y71,hy71,hF⟩:=bB hF
  refine rS (nW (tc:=aY) p0 rfl rfl hy71 ?_);refine QV rfl ?_;refine cX ?_;refine cX ?_;refine jQ (fun _ _ h=>h) hF (fun v72=>[(0,cL 10 aY p0),(3,cI a48),(4,cP (4,0) 0),(43,cB v72)]) (fun v72=>[((4,0),.box [jI y71.fId.fThread,jI y71.fId.fSerial])]) ?_ ?_
  ·rintro v72 hF
   refine wIf hF rfl (fun _ hF=>?_) fun _ hF=>?_
   ·refine wA rfl ?_;have hF:=fin_0 _ (oi hF);cases hF
    exact e7 wR
   refine d9 ?_;refine cX ?_;refine cX ?_;refine jQ (fun _ _ h=>h) hF (fun v73=>[(0,cL 10 aY p0),(3,cI a48),(4,cP (4,0) 0),(59,cB v73)]) (fun v73=>[((4,0),.box [jI y71.fId.fThread,jI y71.fId.fSerial])]) ?_ ?_
   ·rintro v73 hF
    refine wIf hF rfl (fun _ hF=>?_) fun _ hF=>?_
    ·refine wA rfl ?_;have hF:=fin_0 _ (oi hF);cases hF
     exact e7 wR
    refine d9 ?_;refine wC 2 rfl ?_;obtain⟨r74,hr74,hF⟩:=bB hF
    refine rS (iJ (tj _ _ _ hr74) ⟨rfl,rfl,trivial⟩ rfl (.inl rfl) ?_);refine QV rfl ?_;refine cX ?_;refine jQ (fun _ _ h=>h) hF (fun v75=>[(0,cL 10 aY p0),(3,cI a48),(75,cB v75)]) (fun v75=>[]) ?_ ?_
    ·rintro v75 hF
     refine wIf hF rfl (fun _ hF=>?_) fun _ hF=>?_
     ·refine wA rfl ?_;have hF:=fin_0 _ (oi hF);cases hF
      exact e7 wR
     refine d9 ?_;refine wB rfl ?_;exact cont_0 _ _ _ (oi hF) sw
    intro join hF
    refine DZ (by decide) (by kernel_rfl) rfl ?_;refine b8 SP 3 rfl ?_;cases h77:(decide (0≤r74))
    ·have hF:=bF' h77 hF;refine QP rfl ?_;exact join false _ _ hF sw
    have hF:=bT' h77 hF;refine b8 SP 2 rfl ?_;obtain⟨y78,hy78,hF⟩:=bB' hF
    refine fj SP rfl (nW (tc:=aY) p0 rfl rfl hy78 ?_);refine QP rfl ?_;exact join (decide (y71.fId.fSerial≤y78.fId.fSerial)) _ _ hF sw
   intro join hF
   refine DZ (by decide) (by kernel_rfl) rfl ?_;refine b8 SP 3 rfl ?_;cases h80:(decide (0<a48))
   ·have hF:=bF' h80 hF;refine QP rfl ?_;exact join false _ _ hF sw
   have hF:=bT' h80 hF;refine b8 SP 2 rfl ?_;obtain⟨y81,hy81,hF⟩:=bB' hF
   refine fj SP rfl (nW (tc:=aY) p0 rfl rfl hy81 ?_);refine b8 SP 1 rfl ?_;obtain⟨r82,hr82,hF⟩:=bB' hF
   refine fj SP rfl (iJ (gW _ _ hr82) ⟨⟨rfl,rfl,rfl,rfl,rfl,rfl,rfl,rfl,rfl,rfl,trivial⟩,trivial⟩ rfl (.inl rfl) ?_);refine b8 SP 3 rfl ?_;obtain⟨y83,hy83,hF⟩:=bB' hF
   refine fj SP rfl (nW (tc:=aY) p0 rfl rfl hy83 ?_);refine b8 SP 1 rfl ?_;obtain⟨r84,hr84,hF⟩:=bB' hF
   refine fj SP rfl (iJ (gW _ _ hr84) ⟨⟨rfl,rfl,rfl,rfl,rfl,rfl,rfl,rfl,rfl,rfl,trivial⟩,trivial⟩ rfl (.inl rfl) ?_);refine QP rfl ?_;exact join (decide (r82<r84)) _ _ hF sw
  intro join hF
  refine wD 2 rfl ?_;obtain⟨y86,hy86,hF⟩:=bB' hF
  refine rS (nW (tc:=aY) p0 rfl rfl hy86 ?_);refine b8 SV 2 rfl ?_;obtain⟨r87,hr87,hF⟩:=bB' hF
  refine rS (iJ (wY _ _ hr87) ⟨⟨rfl,rfl,rfl,rfl,rfl,rfl,trivial⟩,trivial⟩ rfl (.inl rfl) ?_);refine b8 SV 2 rfl ?_;cases h88:(!decide (r87=0))
  ·have hF:=bF' h88 hF;refine b8 SV 5 rfl ?_;cases h89:(decide (y71.fId.fThread<0))
   ·have hF:=bF' h89 hF;refine b8 SV 5 rfl ?_;cases h90:(decide (1000000000000000<y71.fId.fThread))
    ·have hF:=bF' h90 hF;refine b8 SV 5 rfl ?_;cases h91:(decide (y71.fId.fSerial<0))
     ·have hF:=bF' h91 hF;refine QV rfl ?_;exact join (decide (1000000000000000<y71.fId.fSerial)) _ _ hF sw
     have hF:=bT' h91 hF;refine QV rfl ?_;exact join true _ _ hF sw
    have hF:=bT' h90 hF;refine QV rfl ?_;exact join true _ _ hF sw
   have hF:=bT' h89 hF;refine QV rfl ?_;exact join true _ _ hF sw
  have hF:=bT' h88 hF;refine QV rfl ?_;exact join true _ _ hF sw
 refine z0 ?_;refine eQ ?_;refine eQ ?_;refine kJ ?_;exact brk_0 _ _ _ (oi hF) sw
def lW(p0:(List a7)):Int→Option (Int ⊕ (Unit ⊕ Bool)):=fun a10 =>
  (bif (decide (a10<(List.length p0:Int)))then((idx p0 a10).bind fun y15=>(bif (decide (40<(List.length y15.fEvent.fStack:Int)))then some (.inr (.inr false))else some (.inl (w64 (a10+1)))))else some (.inr (.inl ())))
def i8(p0:(List a7)):Option Bool :=
  (bif (decide (60<(List.length p0:Int)))then some false else((loop (lW p0) 0).bind fun | .inl _=>((fX p0).bind fun r14=>some r14) | .inr rv=>some rv))
theorem zW(p0:(List a7))(r:Bool)(hF:i8 p0=some r):Fun Try.prog 9 true [] [cL 10 aY p0] noHeap (cB r) noHeap:=by
 refine Fun.of_walk0 Try.func9 c9 (by kernel_rfl) (rs:=[.tmp 2]) (by kernel_rfl) ?_;unfold v9
 unfold i8 at hF
 refine wA rfl ?_;refine cX ?_;refine wC 1 rfl ?_;refine rS (qQ (tc:=aY) p0 .tree ?_);refine QV rfl ?_;refine wIf hF rfl (fun _ hF=>?_) fun _ hF=>?_
 ·refine wA rfl ?_;cases hF
  exact e7 wR
 refine d9 ?_;refine cX ?_;refine wA rfl ?_;refine Fq (fun _ _ h=>h) hF (.inl) (fun a10=>[(0,cL 10 aY p0),(3,cI a10)]) (fun a10=>[]) (fun _=>[(0,cL 10 aY p0)]) (fun _=>[]) sw ?_ ?_
 ·rintro⟨⟩ hF
  refine wC 1 rfl ?_;obtain⟨r14,hr14,hF⟩:=bB hF
  refine rS (iJ (uV _ _ hr14) ⟨rfl,trivial⟩ rfl (.inl rfl) ?_);refine QV rfl ?_;cases hF
  exact e7 wR
 rintro a10 x_0 hF cont_0 brk_0 fin_0
 unfold lW at hF
 refine cX ?_;refine wC 2 rfl ?_;refine rS (qQ (tc:=aY) p0 .tree ?_);refine QV rfl ?_;refine wIf hF rfl (fun _ hF=>?_) fun _ hF=>?_
 ·refine d9 ?_;refine cX ?_;refine ox ?_;refine wC 2 rfl ?_;obtain⟨y15,hy15,hF⟩:=bB hF
  refine rS (nW (tc:=aY) p0 rfl rfl hy15 ?_);refine b8 SV 3 rfl ?_;refine rS (qQ (tc:=qz) y15.fEvent.fStack .tree ?_);refine QV rfl ?_;refine wIf hF rfl (fun _ hF=>?_) fun _ hF=>?_
  ·refine wA rfl ?_;have hF:=fin_0 _ (oi hF);cases hF
   exact e7 wR
  refine d9 ?_;refine wB rfl ?_;exact cont_0 _ _ _ (oi hF) sw
 refine z0 ?_;refine eQ ?_;refine eQ ?_;refine kJ ?_;exact brk_0 _ _ _ (oi hF) sw
def jJ:Option Bool:=some true
theorem n6(r:Bool)(hF:jJ=some r):Fun Try.prog 10 true [] [] noHeap (cB r) noHeap:=by
 cases hF
 exact Go.RM.lives26 true
def ajj(y:a7):EvS:=⟨y.fId.fThread,y.fId.fSerial,y.fEvent.fAt,y.fEvent.fKind,y.fEvent.fName,y.fEvent.fN,y.fEvent.fM,.sl 1 (List.map qz y.fEvent.fStack),y.fWhen.fLo,y.fWhen.fHi⟩
theorem acY(l:List a7):l.map aY=(l.map ajj).map Go.RM.rowE:=by
 rw[List.map_map];rfl
def J6(y:Sl8):j7:={fThread:=y.th,fParent:=y.par,fDepth:=y.dep,fName:=y.nm,fSpan:={fFrom:=y.fr,fTo:=y.to},fSelf:=y.self,fOpen:=y.op}
theorem afx(l:List Sl8):(l.map J6).map dY=l.map Go.RM.tSl8:=by
 rw[List.map_map];rfl
def E4(p0:(List a7))(p1:Int):Option (List j7):=(Go.RM.sliceOfF (p0.map ajj) p1).map fun r=>r.map J6
theorem RY(p0:(List a7))(p1:Int)(r:(List j7))(hF:E4 p0 p1=some r):Fun Try.prog 11 true [] [cL 10 aY p0,cI p1] noHeap (cL 8 dY r) noHeap:=by
 obtain⟨q,hq,rfl⟩:=aw.1 hF
 have h:=Go.RM.sliceOfF_fun hq true;rw[←acY,←afx]at h;exact h
def eY(p0:(List a7))(r3:(List j7))(a284:Int):(Bool×Bool×Int)→Option ((Bool×Bool×Int) ⊕ (Bool×Bool)):=fun(a485,a486,a487) =>
  (bif (decide (a487<(List.length p0:Int)))then((((idx p0 a487).bind fun y519=>((idx r3 a284).bind fun y520=>(((bif a485 then some (true,(decide (y519.fId.fThread=y520.fThread)))else(bif (decide (y519.fId.fThread=y520.fThread))then((idx p0 a487).bind fun y532=>(bif (decide (y532.fEvent.fKind=1))then((idx p0 a487).bind fun y534=>((idx r3 a284).bind fun y535=>(bif (decide (y534.fEvent.fName=y535.fName))then((idx p0 a487).bind fun y537=>((d3 y537).bind fun r538=>((idx r3 a284).bind fun y539=>some ((decide (r538=y539.fSpan.fFrom)),true))))else some (false,true))))else some (false,true)))else some (false,false))):Option (Bool×Bool)).bind fun(v521,v522)=>(bif a486 then some (v521,true)else(bif v522 then((idx p0 a487).bind fun y525=>(bif (decide (y525.fEvent.fKind=2))then((idx p0 a487).bind fun y527=>((d3 y527).bind fun r528=>((idx r3 a284).bind fun y529=>some (v521,(decide (r528=y529.fSpan.fTo))))))else some (v521,false)))else some (v521,false)))))):Option (Bool×Bool)).bind fun(v517,v518)=>some (.inl (v517,v518,(w64 (a487+1)))))else some (.inr (a485,a486)))
def gJ(p0:(List a7))(r3:(List j7)):Int→Option (Int ⊕ (Unit ⊕ Bool)):=fun a284 =>
  (bif (decide (a284<(List.length r3:Int)))then((idx r3 a284).bind fun y414=>((loop (eY p0 r3 a284) (false,y414.fOpen,0)).bind fun(e512,e513)=>(((bif (!e512)then some true else some (!e513)):Option Bool).bind fun v514=>(bif v514 then some (.inr (.inr false))else some (.inl (w64 (a284+1)))))))else some (.inr (.inl ())))
def eV(p0:(List a7)):(Int×Int)→Option ((Int×Int) ⊕ Int):=fun(a18,a19) =>
  (bif (decide (a19<(List.length p0:Int)))then((((idx p0 a19).bind fun y544=>(bif (decide (y544.fEvent.fKind=1))then some (w64 (a18+1))else some a18)):Option Int).bind fun v543=>some (.inl (v543,(w64 (a19+1)))))else some (.inr a18))
def cJ(p0:(List a7))(p1:Int):Option Bool :=
  ((i8 p0).bind fun r1=>(bif (!r1)then((jJ ).bind fun r2=>some r2)else((E4 p0 p1).bind fun r3=>((loop (eV p0) (0,0)).bind fun e24=>(bif (decide (e24<(List.length r3:Int)))then some false else((loop (gJ p0 r3) 0).bind fun | .inl _=>((jJ ).bind fun r413=>some r413) | .inr rv=>some rv))))))
theorem q6(p0:(List a7))(p1:Int)(r:Bool)(hF:cJ p0 p1=some r):Fun Try.prog 4 true [] [cL 10 aY p0,cI p1] noHeap (cB r) noHeap:=by
 refine Fun.of_walk0 Try.func4 c4 (by kernel_rfl) (rs:=[.tmp 4]) (by kernel_rfl) ?_;unfold v4
 unfold cJ at hF
 refine wA rfl ?_;refine cX ?_;refine wC 1 rfl ?_;obtain⟨r1,hr1,hF⟩:=bB hF
 refine rS (iJ (zW _ _ hr1) ⟨rfl,trivial⟩ rfl (.inl rfl) ?_);refine QV rfl ?_;refine wIf hF rfl (fun _ hF=>?_) fun _ hF=>?_
 ·refine wE ?_;obtain⟨r2,hr2,hF⟩:=bB hF
  refine rS (iJ (n6 _ hr2) trivial rfl (.inl rfl) ?_);refine QV rfl ?_;cases hF
  exact e7 wR
 refine d9 ?_;refine wC 2 rfl ?_;obtain⟨r3,hr3,hF⟩:=bB hF
 refine rS (iJ (RY _ _ _ hr3) ⟨rfl,rfl,trivial⟩ rfl (.inl rfl) ?_);refine QV rfl ?_;refine wA rfl ?_;refine cX ?_;refine wA rfl ?_;refine Fq (fun _ _ h=>h) hF (id) (fun(a18,a19)=>[(0,cL 10 aY p0),(5,cL 8 dY r3),(6,cI a18),(7,cI a19)]) (fun(a18,a19)=>[]) (fun e24=>[(0,cL 10 aY p0),(5,cL 8 dY r3),(6,cI e24)]) (fun e24=>[]) sw ?_ ?_
 ·rintro e24 hF
  refine cX ?_;refine wC 1 rfl ?_;refine rS (qQ (tc:=dY) r3 .tree ?_);refine QV rfl ?_;refine wIf hF rfl (fun _ hF=>?_) fun _ hF=>?_
  ·refine wA rfl ?_;cases hF
   exact e7 wR
  refine d9 ?_;refine cX ?_;refine wA rfl ?_;refine Fq (fun _ _ h=>h) hF (.inl) (fun a284=>[(0,cL 10 aY p0),(5,cL 8 dY r3),(8,cI a284)]) (fun a284=>[]) (fun _=>[]) (fun _=>[]) sw ?_ ?_
  ·rintro⟨⟩ hF
   refine wE ?_;obtain⟨r413,hr413,hF⟩:=bB hF
   refine rS (iJ (n6 _ hr413) trivial rfl (.inl rfl) ?_);refine QV rfl ?_;cases hF
   exact e7 wR
  rintro a284 x_0 hF cont_0 brk_0 fin_0
  unfold gJ at hF
  refine cX ?_;refine wC 2 rfl ?_;refine rS (qQ (tc:=dY) r3 .tree ?_);refine QV rfl ?_;refine wIf hF rfl (fun _ hF=>?_) fun _ hF=>?_
  ·refine d9 ?_;refine cX ?_;refine ox ?_;refine cX ?_;refine DZ (by decide) (by kernel_rfl) rfl ?_;refine b8 SP 2 rfl ?_;obtain⟨y414,hy414,hF⟩:=bB hF
   refine fj SP trivial (nW (tc:=dY) r3 rfl rfl hy414 ?_);refine QP rfl ?_;refine cX ?_;refine wA rfl ?_;refine Fq (fun _ _ h=>h) hF (id) (fun(a485,a486,a487)=>[(0,cL 10 aY p0),(5,cL 8 dY r3),(8,cI a284),(9,cB a485),(10,cB a486),(11,cI a487)]) (fun(a485,a486,a487)=>[]) (fun(e512,e513)=>[(0,cL 10 aY p0),(5,cL 8 dY r3),(8,cI a284),(9,cB e512),(10,cB e513)]) (fun(e512,e513)=>[]) sw ?_ ?_
   ·rintro⟨e512,e513⟩ hF
    refine cX ?_;refine jQ (fun _ _ h=>h) hF (fun v514=>[(0,cL 10 aY p0),(5,cL 8 dY r3),(8,cI a284),(141,cB v514)]) (fun v514=>[]) ?_ ?_
    ·rintro v514 hF
     refine wIf hF rfl (fun _ hF=>?_) fun _ hF=>?_
     ·refine wA rfl ?_;have hF:=fin_0 _ (oi hF);cases hF
      exact e7 wR
     refine d9 ?_;refine wB rfl ?_;exact cont_0 _ _ _ (oi hF) sw
    intro join hF
    refine wD 3 rfl ?_;cases h516:(!e512)
    ·have hF:=bF' h516 hF;refine QV rfl ?_;exact join (!e513) _ _ hF sw
    have hF:=bT' h516 hF;refine QV rfl ?_;exact join true _ _ hF sw
   rintro⟨a485,a486,a487⟩ x_1 hF cont_1 brk_1 fin_1
   unfold eY at hF
   refine cX ?_;refine wC 2 rfl ?_;refine rS (qQ (tc:=aY) p0 .tree ?_);refine QV rfl ?_;refine wIf hF rfl (fun _ hF=>?_) fun _ hF=>?_
   ·refine d9 ?_;refine cX ?_;refine jQ (fun _ _ h=>h) hF (fun(v517,v518)=>[(0,cL 10 aY p0),(5,cL 8 dY r3),(8,cI a284),(9,cB v517),(10,cB v518),(11,cI a487)]) (fun(v517,v518)=>[]) ?_ ?_
    ·rintro⟨v517,v518⟩ hF
     refine wB rfl ?_;exact cont_1 _ _ _ (oi hF) sw
    intro join hF
    refine ox ?_;refine cX ?_;refine DZ (by decide) (by kernel_rfl) rfl ?_;refine b8 SP 2 rfl ?_;obtain⟨y519,hy519,hF⟩:=bB' hF
    refine fj SP trivial (nW (tc:=aY) p0 rfl rfl hy519 ?_);refine b8 SP 5 rfl ?_;obtain⟨y520,hy520,hF⟩:=bB' hF
    refine fj SP trivial (nW (tc:=dY) r3 rfl rfl hy520 ?_);refine QP rfl ?_;refine cX ?_;have hF:=bA hF;refine jQ (fun _ _ h=>h) hF (fun(v521,v522)=>[(0,cL 10 aY p0),(5,cL 8 dY r3),(8,cI a284),(9,cB v521),(10,cB a486),(11,cI a487),(12,cB v522)]) (fun(v521,v522)=>[]) ?_ ?_
    ·rintro⟨v521,v522⟩ hF
     refine DZ (by decide) (by kernel_rfl) rfl ?_;refine b8 SP 2 rfl ?_;cases h523:a486
     ·have hF:=bF' h523 hF;refine b8 SP 2 rfl ?_;cases h524:v522
      ·have hF:=bF' h524 hF;refine QP rfl ?_;exact join (v521,false) _ _ hF sw
      have hF:=bT' h524 hF;refine b8 SP 2 rfl ?_;obtain⟨y525,hy525,hF⟩:=bB' hF
      refine fj SP rfl (nW (tc:=aY) p0 rfl rfl hy525 ?_);refine b8 SP 6 rfl ?_;cases h526:(decide (y525.fEvent.fKind=2))
      ·have hF:=bF' h526 hF;refine QP rfl ?_;exact join (v521,false) _ _ hF sw
      have hF:=bT' h526 hF;refine b8 SP 2 rfl ?_;obtain⟨y527,hy527,hF⟩:=bB' hF
      refine fj SP rfl (nW (tc:=aY) p0 rfl rfl hy527 ?_);refine b8 SP 1 rfl ?_;obtain⟨r528,hr528,hF⟩:=bB' hF
      refine fj SP rfl (iJ (gW _ _ hr528) ⟨⟨rfl,rfl,rfl,rfl,rfl,rfl,rfl,rfl,rfl,rfl,trivial⟩,trivial⟩ rfl (.inl rfl) ?_);refine b8 SP 2 rfl ?_;obtain⟨y529,hy529,hF⟩:=bB' hF
      refine fj SP rfl (nW (tc:=dY) r3 rfl rfl hy529 ?_);refine QP rfl ?_;exact join (v521,(decide (r528=y529.fSpan.fTo))) _ _ hF sw
     have hF:=bT' h523 hF;refine QP rfl ?_;exact join (v521,true) _ _ hF sw
    intro join hF
    refine DZ (by decide) (by kernel_rfl) rfl ?_;refine b8 SP 2 rfl ?_;cases h530:a485
    ·have hF:=bF' h530 hF;refine b8 SP 2 rfl ?_;cases h531:(decide (y519.fId.fThread=y520.fThread))
     ·have hF:=bF' h531 hF;refine QP rfl ?_;exact join (false,false) _ _ hF sw
     have hF:=bT' h531 hF;refine b8 SP 2 rfl ?_;obtain⟨y532,hy532,hF⟩:=bB' hF
     refine fj SP rfl (nW (tc:=aY) p0 rfl rfl hy532 ?_);refine b8 SP 6 rfl ?_;cases h533:(decide (y532.fEvent.fKind=1))
     ·have hF:=bF' h533 hF;refine QP rfl ?_;exact join (false,true) _ _ hF sw
     have hF:=bT' h533 hF;refine b8 SP 2 rfl ?_;obtain⟨y534,hy534,hF⟩:=bB' hF
     refine fj SP rfl (nW (tc:=aY) p0 rfl rfl hy534 ?_);refine b8 SP 5 rfl ?_;obtain⟨y535,hy535,hF⟩:=bB' hF
     refine fj SP rfl (nW (tc:=dY) r3 rfl rfl hy535 ?_);refine b8 SP 5 rfl ?_;cases h536:(decide (y534.fEvent.fName=y535.fName))
     ·have hF:=bF' h536 hF;refine QP rfl ?_;exact join (false,true) _ _ hF sw
     have hF:=bT' h536 hF;refine b8 SP 2 rfl ?_;obtain⟨y537,hy537,hF⟩:=bB' hF
     refine fj SP rfl (nW (tc:=aY) p0 rfl rfl hy537 ?_);refine b8 SP 1 rfl ?_;obtain⟨r538,hr538,hF⟩:=bB' hF
     refine fj SP rfl (iJ (gW _ _ hr538) ⟨⟨rfl,rfl,rfl,rfl,rfl,rfl,rfl,rfl,rfl,rfl,trivial⟩,trivial⟩ rfl (.inl rfl) ?_);refine b8 SP 2 rfl ?_;obtain⟨y539,hy539,hF⟩:=bB' hF
     refine fj SP rfl (nW (tc:=dY) r3 rfl rfl hy539 ?_);refine QP rfl ?_;exact join ((decide (r538=y539.fSpan.fFrom)),true) _ _ hF sw
    have hF:=bT' h530 hF;refine QP rfl ?_;exact join (true,(decide (y519.fId.fThread=y520.fThread))) _ _ hF sw
   refine z0 ?_;refine eQ ?_;refine eQ ?_;refine kJ ?_;exact brk_1 _ _ _ (oi hF) sw
  refine z0 ?_;refine eQ ?_;refine eQ ?_;refine kJ ?_;exact brk_0 _ _ _ (oi hF) sw
 rintro⟨a18,a19⟩ x_0 hF cont_0 brk_0 fin_0
 unfold eV at hF
 refine cX ?_;refine wC 2 rfl ?_;refine rS (qQ (tc:=aY) p0 .tree ?_);refine QV rfl ?_;refine wIf hF rfl (fun _ hF=>?_) fun _ hF=>?_
 ·refine d9 ?_;refine cX ?_;refine jQ (fun _ _ h=>h) hF (fun v543=>[(0,cL 10 aY p0),(5,cL 8 dY r3),(6,cI v543),(7,cI a19)]) (fun v543=>[]) ?_ ?_
  ·rintro v543 hF
   refine wB rfl ?_;exact cont_0 _ _ _ (oi hF) sw
  intro join hF
  refine ox ?_;refine wC 2 rfl ?_;obtain⟨y544,hy544,hF⟩:=bB' hF
  refine rS (nW (tc:=aY) p0 rfl rfl hy544 ?_);refine QV rfl ?_;refine ajV hF rfl (fun _ hF=>?_) fun _ hF=>?_
  ·refine wB rfl ?_;exact join (w64 (a18+1)) _ _ hF sw
  refine d9 ?_;exact join a18 _ _ hF sw
 refine z0 ?_;refine eQ ?_;refine eQ ?_;refine kJ ?_;exact brk_0 _ _ _ (oi hF) sw
end Go.VM
