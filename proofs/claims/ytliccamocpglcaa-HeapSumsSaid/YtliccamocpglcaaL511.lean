/- What the functions of the law compute, each with its proof. -/
import Derived.Test.YtliccamocpglcaaHx2
import Derived.Test.YtliccamocpglcaaRows
import Derived.KernelRfl
import Derived.Lib.Bytealg
import Derived.Laws.Externs
import Derived.WalkKit
namespace Go.VM
open Go.Proofs Go.Proofs.Ytliccamocpglcaa
open Go.RowKit
set_option maxRecDepth 100000
set_option maxHeartbeats 4000000
structure bJ where
  fId:Int
  fSize:Int
  fType:ByteArray
  fRefs:(List Int)
  deriving DecidableEq
structure api_Heap where
  fObjects:(List bJ)
  fRoots:(List Int)
  deriving DecidableEq
def aY (x:Int):List T:=[tI x]
abbrev yW (x:bJ):List C:=[.imm (tI x.fId),.imm (tI x.fSize),.imm (.sc (.string x.fType)),.imm (.sl 1 (List.map aY x.fRefs))]
def ax (x:bJ):List T:=[tI x.fId,tI x.fSize,.sc (.string x.fType),.sl 1 (List.map aY x.fRefs)]
def afj (x:api_Heap):List T:=[.sl 4 (List.map ax x.fObjects),.sl 1 (List.map aY x.fRoots)]
def nW (x:Bool):List T:=[.sc (.bool x)]
def v21:VC:=(.seq (rg [vo 2 (.box 25 0),vo 4 (.mv (kB false))]) (.seq (.seq (rg [vo 6 (.fld 0 2),vo 7 (.load 1 false 6),vo 8 (.lenS 7),vm 9 1,vo 10 (.bin .gtr 8 9),vm 11 10,vg 12 11 false (.fld 1 2),vg 13 11 false (.load 1 false 12),vg 14 11 false (.lenS 13),vg 15 11 false (.mv 1),vg 16 11 false (.bin .gtr 14 15),vo 17 (.pick 11 (kB true) 16)]) (.cond 17 (.seq (rg [vo 4 (.mv (kB false))]) .ret) .skip)) (.seq (.seq (rg [vo 5 (.mv (kI 0))]) (.block 0 (.loop (.seq (.seq (rg [vm 18 5,vo 19 (.fld 0 2),vo 20 (.load 1 false 19),vo 21 (.lenS 20),vo 22 (.bin .lss 18 21)]) (.cond 22 .skip (.exit 0))) (.seq (.block 1 (.seq (rg [vo 25 (.fld 0 2),vo 26 (.load 1 false 25),vm 27 5,vo 28 (.ixA 4 26 27),vo 29 (.fld 3 28),vo 30 (.load 1 false 29),vo 31 (.lenS 30),vo 32 (.bin .gtr 31 (kI 40))]) (.cond 32 (.seq (rg [vo 4 (.mv (kB false))]) .ret) .skip))) (rg [vm 23 5,vo 24 (.bin .add 23 (kI 1)),vm 5 24])))))) (.seq (rg [vo 4 (.mv (kB true))]) .ret))))
theorem c21:(Try.f21.body.bind fun c=>cK Try.prog 33 c) = some v21:=by kernel_rfl
def v9:VC:=(.seq (rg [vo 1 (.box 25 0),vo 2 (.mv (kB false))]) (.seq (rg [vo 3 (.load 2 true 1),vo 4 (.call 21 [3,(kI 16)]),vm 2 4]) .ret))
theorem c9:(Try.f9.body.bind fun c=>cK Try.prog 5 c) = some v9:=by kernel_rfl
def v48:VC:=(.seq (rg [vo 2 (.mv (kB false))]) (.seq (.seq (rg [vm 5 0,vo 6 (.bin .geq 5 (.con (.c (.imm (.sc (.int .u8 97)))))),vm 7 6,vg 8 7 true (.mv 0),vg 9 7 true (.bin .leq 8 (.con (.c (.imm (.sc (.int .u8 122)))))),vo 10 (.pick 7 9 (kB false)),vm 11 10,vg 12 11 false (.mv 0),vg 13 11 false (.bin .geq 12 (.con (.c (.imm (.sc (.int .u8 65)))))),vg 14 11 false (.mv 13),vg 15 14 true (.mv 0),vg 16 14 true (.bin .leq 15 (.con (.c (.imm (.sc (.int .u8 90)))))),vg 17 11 false (.pick 14 16 (kB false)),vo 18 (.pick 11 (kB true) 17),vm 19 18,vg 20 19 false (.mv 0),vg 21 19 false (.bin .geq 20 (.con (.c (.imm (.sc (.int .u8 48)))))),vg 22 19 false (.mv 21),vg 23 22 true (.mv 0),vg 24 22 true (.bin .leq 23 (.con (.c (.imm (.sc (.int .u8 57)))))),vg 25 19 false (.pick 22 24 (kB false)),vo 26 (.pick 19 (kB true) 25)]) (.cond 26 (.seq (rg [vo 2 (.mv (kB true))]) .ret) .skip)) (.seq (rg [vo 3 (.mv (.con (.c (.imm (.sc (.string ⟨#[95,46,58,47,60,62,36,42,126,45]⟩))))))]) (.seq (.seq (rg [vo 4 (.mv (kI 0))]) (.block 0 (.loop (.seq (.seq (rg [vm 27 4,vm 28 3,vo 29 (.lenT 28),vo 30 (.bin .lss 27 29)]) (.cond 30 .skip (.exit 0))) (.seq (.block 1 (.seq (rg [vm 33 3,vm 34 4,vo 35 (.ixS 33 34),vm 36 0,vo 37 (.bin .eql 35 36)]) (.cond 37 (.seq (rg [vo 2 (.mv (kB true))]) .ret) .skip))) (rg [vm 31 4,vo 32 (.bin .add 31 (kI 1)),vm 4 32])))))) (.seq (rg [vo 2 (.mv (kB false))]) .ret)))))
theorem c48:(Try.f48.body.bind fun c=>cK Try.prog 38 c) = some v48:=by kernel_rfl
def v29:VC:=(.seq (rg [vo 2 (.mv (kI 0))]) (.seq (.seq (rg [vm 4 0,vo 5 (.lenT 4),vo 6 (.bin .lss 5 (kI 1)),vm 7 6,vg 8 7 false (.mv 0),vg 9 7 false (.lenT 8),vg 10 7 false (.bin .gtr 9 (kI 40)),vo 11 (.pick 7 (kB true) 10)]) (.cond 11 (.seq (rg [vo 2 (.mv (kI 3))]) .ret) .skip)) (.seq (.seq (rg [vo 3 (.mv (kI 0))]) (.block 0 (.loop (.seq (.seq (rg [vm 12 3,vm 13 0,vo 14 (.lenT 13),vo 15 (.bin .lss 12 14)]) (.cond 15 .skip (.exit 0))) (.seq (.block 1 (.seq (rg [vm 18 0,vm 19 3,vo 20 (.ixS 18 19),vo 21 (.call 48 [20]),vo 22 (.un .not 21)]) (.cond 22 (.seq (rg [vo 2 (.mv (kI 3))]) .ret) .skip))) (rg [vm 16 3,vo 17 (.bin .add 16 (kI 1)),vm 3 17])))))) (.seq (rg [vo 2 (.mv (kI 0))]) .ret))))
theorem c29:(Try.f29.body.bind fun c=>cK Try.prog 23 c) = some v29:=by kernel_rfl
def v14:VC:=(.seq (rg [vo 2 (.box 25 0),vo 4 (.mv (kI 0)),vo 5 (.mv (kB false))]) (.seq (.seq (rg [vo 6 (.mv (kI 0))]) (.block 0 (.loop (.seq (.seq (rg [vm 7 6,vo 8 (.fld 0 2),vo 9 (.load 1 false 8),vo 10 (.lenS 9),vo 11 (.bin .lss 7 10)]) (.cond 11 .skip (.exit 0))) (.seq (.block 1 (.seq (rg [vo 14 (.fld 0 2),vo 15 (.load 1 false 14),vm 16 6,vo 17 (.ixA 4 15 16),vo 18 (.fld 0 17),vo 19 (.load 1 false 18),vm 20 1,vo 21 (.bin .eql 19 20)]) (.cond 21 (.seq (rg [vm 22 6,vm 4 22,vo 5 (.mv (kB true))]) .ret) .skip))) (rg [vm 12 6,vo 13 (.bin .add 12 (kI 1)),vm 6 13])))))) (.seq (rg [vo 4 (.mv (kI 0)),vo 5 (.mv (kB false))]) .ret)))
theorem c14:(Try.f14.body.bind fun c=>cK Try.prog 23 c) = some v14:=by kernel_rfl
def v30:VC:=(.seq (rg [vo 2 (.box 25 0),vo 4 (.mv (kI 0))]) (.seq (.seq (rg [vo 5 (.mv (kI 0))]) (.block 0 (.loop (.seq (.seq (rg [vm 8 5,vm 9 1,vo 10 (.lenS 9),vo 11 (.bin .lss 8 10)]) (.cond 11 .skip (.exit 0))) (.seq (.block 1 (.seq (.region (some [0,0,0,6,14,31,63,127,127,255,1023,0,1,1,0,0,0,0,0,0,0,0]) [vo 15 (.load 2 true 2),vm 16 1,vm 17 5,vo 18 (.ixA 1 16 17),vo 19 (.load 1 false 18),vo 20 (.call 14 [15,19]),vm 14 20,vo 21 (.ext 14 0),vo 22 (.ext 14 1),vm 6 21,vm 7 22]) (.seq (.seq (rg [vm 23 7,vo 24 (.un .not 23)]) (.cond 24 (.seq (rg [vo 4 (.mv (kI 5))]) .ret) .skip)) (.seq (.region (some [0,1,3,7,7,31,63,7,7,263,903,1927,4095,8191,1,0,0,0,0,0,0,0,0,0,0,0,0,0]) [vm 25 5,vo 26 (.bin .gtr 25 (kI 0)),vm 27 26,vg 28 27 true (.mv 1),vg 29 27 true (.mv 5),vg 30 27 true (.ixA 1 28 29),vg 31 27 true (.load 1 false 30),vg 32 27 true (.mv 1),vg 33 27 true (.mv 5),vg 34 27 true (.bin .sub 33 (kI 1)),vg 35 27 true (.ixA 1 32 34),vg 36 27 true (.load 1 false 35),vg 37 27 true (.bin .leq 31 36),vo 38 (.pick 27 37 (kB false))]) (.cond 38 (.seq (rg [vo 4 (.mv (kI 11))]) .ret) .skip))))) (rg [vm 12 5,vo 13 (.bin .add 12 (kI 1)),vm 5 13])))))) (.seq (rg [vo 4 (.mv (kI 0))]) .ret)))
theorem c30:(Try.f30.body.bind fun c=>cK Try.prog 39 c) = some v30:=by kernel_rfl
def v13:VC:=(.seq (rg [vo 1 (.box 25 0),vo 2 (.mv (kI 0))]) (.seq (rg [vo 3 (.mv (kI 0))]) (.seq (.seq (rg [vo 4 (.mv (kI 0))]) (.block 0 (.loop (.seq (.seq (rg [vm 9 4,vo 10 (.fld 0 1),vo 11 (.load 1 false 10),vo 12 (.lenS 11),vo 13 (.bin .lss 9 12)]) (.cond 13 .skip (.exit 0))) (.seq (.block 1 (rg [vm 16 3,vo 17 (.fld 0 1),vo 18 (.load 1 false 17),vm 19 4,vo 20 (.ixA 4 18 19),vo 21 (.fld 3 20),vo 22 (.load 1 false 21),vo 23 (.lenS 22),vo 24 (.bin .add 16 23),vm 3 24])) (rg [vm 14 4,vo 15 (.bin .add 14 (kI 1)),vm 4 15])))))) (.seq (.seq (rg [vo 25 (.fld 0 1),vo 26 (.load 1 false 25),vo 27 (.lenS 26),vo 28 (.bin .gtr 27 (kI 5000)),vm 29 28,vg 30 29 false (.mv 3),vg 31 29 false (.bin .gtr 30 (kI 20000)),vo 32 (.pick 29 (kB true) 31),vm 33 32,vg 34 33 false (.fld 1 1),vg 35 33 false (.load 1 false 34),vg 36 33 false (.lenS 35),vg 37 33 false (.bin .gtr 36 (kI 5000)),vo 38 (.pick 33 (kB true) 37)]) (.cond 38 (.seq (rg [vo 2 (.mv (kI 7))]) .ret) .skip)) (.seq (.seq (rg [vo 5 (.mv (kI 0))]) (.block 2 (.loop (.seq (.seq (rg [vm 39 5,vo 40 (.fld 0 1),vo 41 (.load 1 false 40),vo 42 (.lenS 41),vo 43 (.bin .lss 39 42)]) (.cond 43 .skip (.exit 2))) (.seq (.block 3 (.seq (rg [vo 46 (.fld 0 1),vo 47 (.load 1 false 46),vm 48 5,vo 49 (.ixA 4 47 48),vo 50 (.load 4 true 49),vo 6 (.alloc 36 [(iI 0),(iI 0),iS,.nilS]),vp (.store 4 6 50)]) (.seq (.seq (rg [vo 51 (.fld 0 6),vo 52 (.load 1 false 51),vo 53 (.bin .lss 52 (kI 0)),vm 54 53,vg 55 54 false (.fld 0 6),vg 56 54 false (.load 1 false 55),vg 57 54 false (.bin .gtr 56 (kI 1000000000000000)),vo 58 (.pick 54 (kB true) 57),vm 59 58,vg 60 59 false (.fld 1 6),vg 61 59 false (.load 1 false 60),vg 62 59 false (.bin .lss 61 (kI 0)),vo 63 (.pick 59 (kB true) 62),vm 64 63,vg 65 64 false (.fld 1 6),vg 66 64 false (.load 1 false 65),vg 67 64 false (.bin .gtr 66 (kI 1000000000000)),vo 68 (.pick 64 (kB true) 67)]) (.cond 68 (.seq (rg [vo 2 (.mv (kI 2))]) .ret) .skip)) (.seq (.seq (rg [vo 69 (.fld 2 6),vo 70 (.load 1 false 69),vo 71 (.call 29 [70]),vo 72 (.bin .neq 71 (kI 0))]) (.cond 72 (.seq (rg [vo 2 (.mv (kI 3))]) .ret) .skip)) (.seq (.region (some [0,1,3,7,15,7,39,7,135,487,999,2023,4095,8191,1,0,0,0,0,0,0,0,0,0,0,0,0,0]) [vm 73 5,vo 74 (.bin .gtr 73 (kI 0)),vm 75 74,vg 76 75 true (.fld 0 6),vg 77 75 true (.load 1 false 76),vg 78 75 true (.fld 0 1),vg 79 75 true (.load 1 false 78),vg 80 75 true (.mv 5),vg 81 75 true (.bin .sub 80 (kI 1)),vg 82 75 true (.ixA 4 79 81),vg 83 75 true (.fld 0 82),vg 84 75 true (.load 1 false 83),vg 85 75 true (.bin .leq 77 84),vo 86 (.pick 75 85 (kB false))]) (.cond 86 (.seq (rg [vo 2 (.mv (kI 11))]) .ret) .skip)))))) (rg [vm 44 5,vo 45 (.bin .add 44 (kI 1)),vm 5 45])))))) (.seq (.seq (rg [vo 7 (.mv (kI 0))]) (.block 4 (.loop (.seq (.seq (rg [vm 87 7,vo 88 (.fld 0 1),vo 89 (.load 1 false 88),vo 90 (.lenS 89),vo 91 (.bin .lss 87 90)]) (.cond 91 .skip (.exit 4))) (.seq (.block 5 (.seq (.region (some [0,0,2,0,14,30,62,127,255,0,0,0,1,0,0,0,0,0]) [vo 94 (.load 2 true 1),vo 95 (.fld 0 1),vo 96 (.load 1 false 95),vm 97 7,vo 98 (.ixA 4 96 97),vo 99 (.fld 3 98),vo 100 (.load 1 false 99),vo 101 (.call 30 [94,100]),vm 8 101]) (.seq (rg [vm 102 8,vo 103 (.bin .neq 102 (kI 0))]) (.cond 103 (.seq (rg [vm 104 8,vm 2 104]) .ret) .skip)))) (rg [vm 92 7,vo 93 (.bin .add 92 (kI 1)),vm 7 93])))))) (.seq (rg [vo 105 (.load 2 true 1),vo 106 (.fld 1 1),vo 107 (.load 1 false 106),vo 108 (.call 30 [105,107]),vm 2 108]) .ret)))))))
theorem c13:(Try.f13.body.bind fun c=>cK Try.prog 109 c) = some v13:=by kernel_rfl
def v22:VC:=(.seq (rg [vo 0 (.alloc 25 [.nilS,.nilS])]) (.seq (rg [vo 1 (.bsl 3 1 2 [(iI 0)] [(0,1,(kI 2)),(1,1,(kI 3))]),vo 2 (.build [(iI 0),(iI 0),iS,.nilS] [(0,1,(kI 1)),(1,1,(kI 10)),(2,1,(.con (.c (.imm (.sc (.string ⟨#[116]⟩)))))),(3,1,1)]),vo 3 (.bsl 3 1 1 [(iI 0)] [(0,1,(kI 4))]),vo 4 (.build [(iI 0),(iI 0),iS,.nilS] [(0,1,(kI 2)),(1,1,(kI 10)),(2,1,(.con (.c (.imm (.sc (.string ⟨#[116]⟩)))))),(3,1,3)]),vo 5 (.bsl 3 1 1 [(iI 0)] [(0,1,(kI 4))]),vo 6 (.build [(iI 0),(iI 0),iS,.nilS] [(0,1,(kI 3)),(1,1,(kI 10)),(2,1,(.con (.c (.imm (.sc (.string ⟨#[116]⟩)))))),(3,1,5)]),vo 7 (.build [(iI 0),(iI 0),iS,.nilS] [(0,1,(kI 4)),(1,1,(kI 10)),(2,1,(.con (.c (.imm (.sc (.string ⟨#[116]⟩))))))]),vo 8 (.bsl 36 4 4 [(iI 0),(iI 0),iS,.nilS] [(0,4,2),(4,4,4),(8,4,6),(12,4,7)]),vo 9 (.bsl 3 1 1 [(iI 0)] [(0,1,(kI 1))]),vo 10 (.build [.nilS,.nilS] [(0,1,8),(1,1,9)]),vp (.store 2 0 10)]) .ret))
theorem c22:(Try.f22.body.bind fun c=>cK Try.prog 11 c) = some v22:=by kernel_rfl
def v67:VC:=(.seq (rg [vo 4 (.mv (kI 0))]) (.seq (rg [vm 5 0,vm 6 1,vo 7 (.call 73 [5,6]),vm 4 7]) .ret))
theorem c67:(Try.f67.body.bind fun c=>cK Try.prog 8 c) = some v67:=by kernel_rfl
def v56:VC:=(.seq (rg [vo 2 (.mv (kB false))]) (.seq (rg [vm 3 0,vo 4 (.bin .geq 3 (.con (.c (.imm (.sc (.int .u8 97)))))),vm 5 4,vg 6 5 true (.mv 0),vg 7 5 true (.bin .leq 6 (.con (.c (.imm (.sc (.int .u8 122)))))),vo 8 (.pick 5 7 (kB false)),vm 9 8,vg 10 9 false (.mv 0),vg 11 9 false (.bin .geq 10 (.con (.c (.imm (.sc (.int .u8 65)))))),vg 12 9 false (.mv 11),vg 13 12 true (.mv 0),vg 14 12 true (.bin .leq 13 (.con (.c (.imm (.sc (.int .u8 90)))))),vg 15 9 false (.pick 12 14 (kB false)),vo 16 (.pick 9 (kB true) 15),vm 17 16,vg 18 17 false (.mv 0),vg 19 17 false (.bin .geq 18 (.con (.c (.imm (.sc (.int .u8 48)))))),vg 20 17 false (.mv 19),vg 21 20 true (.mv 0),vg 22 20 true (.bin .leq 21 (.con (.c (.imm (.sc (.int .u8 57)))))),vg 23 17 false (.pick 20 22 (kB false)),vo 24 (.pick 17 (kB true) 23),vm 25 24,vg 26 25 false (.mv 0),vg 27 25 false (.call 67 [(.con (.c (.imm (.sc (.string ⟨#[95,46,58,47,60,62,36,42,126,45]⟩))))),26]),vg 28 25 false (.bin .geq 27 (kI 0)),vo 29 (.pick 25 (kB true) 28),vm 2 29]) .ret))
theorem c56:(Try.f56.body.bind fun c=>cK Try.prog 30 c) = some v56:=by kernel_rfl
def v43:VC:=(.seq (rg [vo 2 (.mv (kI 0))]) (.seq (.seq (rg [vm 4 0,vo 5 (.bin .eql 4 (.con (.c iS))),vm 6 5,vg 7 6 false (.mv 0),vg 8 6 false (.lenT 7),vg 9 6 false (.bin .gtr 8 (kI 40)),vo 10 (.pick 6 (kB true) 9)]) (.cond 10 (.seq (rg [vo 2 (.mv (kI 3))]) .ret) .skip)) (.seq (.seq (rg [vm 11 0,vo 12 (.lenT 11),vo 13 (.mv (kI 0))]) (.block 0 (.loop (.seq (rg [vo 14 (.bin .lss 13 12)]) (.seq (.cond 14 .skip (.exit 0)) (.seq (.block 1 (.seq (rg [vm 15 13,vm 3 15]) (.seq (rg [vm 16 0,vm 17 3,vo 18 (.ixS 16 17),vo 19 (.call 56 [18]),vo 20 (.un .not 19)]) (.cond 20 (.seq (rg [vo 2 (.mv (kI 3))]) .ret) .skip)))) (rg [vo 21 (.bin .add 13 (kI 1)),vm 13 21]))))))) (.seq (rg [vo 2 (.mv (kI 0))]) .ret))))
theorem c43:(Try.f43.body.bind fun c=>cK Try.prog 22 c) = some v43:=by kernel_rfl
def v44:VC:=(.seq (rg [vo 4 (.mv (kI 0))]) (.seq (.seq (rg [vm 9 0,vo 10 (.lenS 9),vo 11 (.mv (kI 0))]) (.block 0 (.loop (.seq (rg [vo 12 (.bin .lss 11 10)]) (.seq (.cond 12 .skip (.exit 0)) (.seq (.block 1 (.seq (rg [vm 13 11,vo 14 (.ixA 1 9 11),vo 15 (.load 1 false 14),vm 5 13,vm 6 15]) (.seq (.seq (rg [vm 17 1,vm 18 6,vo 19 (.look (.int .i64) (.c (iI 0)) true 17 18),vm 16 19,vo 20 (.ext 16 0),vo 21 (.ext 16 1),vm 7 20,vm 8 21]) (.seq (rg [vm 22 8,vo 23 (.un .not 22)]) (.cond 23 (.seq (rg [vo 4 (.mv (kI 5))]) .ret) .skip))) (.seq (rg [vm 24 5,vo 25 (.bin .gtr 24 (kI 0)),vm 26 25,vg 27 26 true (.mv 6),vg 28 26 true (.mv 0),vg 29 26 true (.mv 5),vg 30 26 true (.bin .sub 29 (kI 1)),vg 31 26 true (.ixA 1 28 30),vg 32 26 true (.load 1 false 31),vg 33 26 true (.bin .leq 27 32),vo 34 (.pick 26 33 (kB false))]) (.cond 34 (.seq (rg [vo 4 (.mv (kI 11))]) .ret) .skip))))) (rg [vo 35 (.bin .add 11 (kI 1)),vm 11 35]))))))) (.seq (rg [vo 4 (.mv (kI 0))]) .ret)))
theorem c44:(Try.f44.body.bind fun c=>cK Try.prog 36 c) = some v44:=by kernel_rfl
def v25:VC:=(.seq (rg [vo 1 (.box 25 0),vo 2 (.mv (kI 0))]) (.seq (rg [vo 3 (.mv (kI 0))]) (.seq (.seq (rg [vo 13 (.fld 0 1),vo 14 (.load 1 false 13),vo 15 (.lenS 14),vo 16 (.mv (kI 0))]) (.block 0 (.loop (.seq (rg [vo 17 (.bin .lss 16 15)]) (.seq (.cond 17 .skip (.exit 0)) (.seq (.block 1 (.seq (rg [vo 18 (.ixA 4 14 16),vo 19 (.load 4 true 18),vo 5 (.alloc 36 [(iI 0),(iI 0),iS,.nilS]),vp (.store 4 5 19)]) (rg [vm 20 3,vo 21 (.fld 3 5),vo 22 (.load 1 false 21),vo 23 (.lenS 22),vo 24 (.bin .add 20 23),vm 3 24]))) (rg [vo 25 (.bin .add 16 (kI 1)),vm 16 25]))))))) (.seq (.seq (rg [vo 26 (.fld 0 1),vo 27 (.load 1 false 26),vo 28 (.lenS 27),vo 29 (.bin .gtr 28 (kI 5000)),vm 30 29,vg 31 30 false (.mv 3),vg 32 30 false (.bin .gtr 31 (kI 20000)),vo 33 (.pick 30 (kB true) 32),vm 34 33,vg 35 34 false (.fld 1 1),vg 36 34 false (.load 1 false 35),vg 37 34 false (.lenS 36),vg 38 34 false (.bin .gtr 37 (kI 5000)),vo 39 (.pick 34 (kB true) 38)]) (.cond 39 (.seq (rg [vo 2 (.mv (kI 7))]) .ret) .skip)) (.seq (rg [vo 40 (.mkmap (.int .i64)),vm 6 40]) (.seq (.seq (rg [vo 41 (.fld 0 1),vo 42 (.load 1 false 41),vo 43 (.lenS 42),vo 44 (.mv (kI 0))]) (.block 2 (.loop (.seq (rg [vo 45 (.bin .lss 44 43)]) (.seq (.cond 45 .skip (.exit 2)) (.seq (.block 3 (.seq (rg [vm 46 44,vo 47 (.ixA 4 42 44),vo 48 (.load 4 true 47),vo 8 (.alloc 36 [(iI 0),(iI 0),iS,.nilS]),vm 7 46,vp (.store 4 8 48)]) (.seq (.seq (rg [vo 49 (.fld 0 8),vo 50 (.load 1 false 49),vo 51 (.bin .lss 50 (kI 0)),vm 52 51,vg 53 52 false (.fld 0 8),vg 54 52 false (.load 1 false 53),vg 55 52 false (.bin .gtr 54 (kI 1000000000000000)),vo 56 (.pick 52 (kB true) 55),vm 57 56,vg 58 57 false (.fld 1 8),vg 59 57 false (.load 1 false 58),vg 60 57 false (.bin .lss 59 (kI 0)),vo 61 (.pick 57 (kB true) 60),vm 62 61,vg 63 62 false (.fld 1 8),vg 64 62 false (.load 1 false 63),vg 65 62 false (.bin .gtr 64 (kI 1000000000000)),vo 66 (.pick 62 (kB true) 65)]) (.cond 66 (.seq (rg [vo 2 (.mv (kI 2))]) .ret) .skip)) (.seq (.seq (rg [vo 67 (.fld 2 8),vo 68 (.load 1 false 67),vo 69 (.call 43 [68]),vm 9 69]) (.seq (rg [vm 70 9,vo 71 (.bin .neq 70 (kI 0))]) (.cond 71 (.seq (rg [vm 72 9,vm 2 72]) .ret) .skip))) (.seq (.seq (.region (some [0,1,3,7,15,7,39,7,135,487,999,2023,4095,8191,1,0,0,0,0,0,0,0,0,0,0,0,0,0]) [vm 73 7,vo 74 (.bin .gtr 73 (kI 0)),vm 75 74,vg 76 75 true (.fld 0 8),vg 77 75 true (.load 1 false 76),vg 78 75 true (.fld 0 1),vg 79 75 true (.load 1 false 78),vg 80 75 true (.mv 7),vg 81 75 true (.bin .sub 80 (kI 1)),vg 82 75 true (.ixA 4 79 81),vg 83 75 true (.fld 0 82),vg 84 75 true (.load 1 false 83),vg 85 75 true (.bin .leq 77 84),vo 86 (.pick 75 85 (kB false))]) (.cond 86 (.seq (rg [vo 2 (.mv (kI 11))]) .ret) .skip)) (rg [vm 87 6,vo 88 (.fld 0 8),vo 89 (.load 1 false 88),vm 90 7,vp (.mupd (.int .i64) 87 89 90)])))))) (rg [vo 91 (.bin .add 44 (kI 1)),vm 44 91]))))))) (.seq (.seq (rg [vo 92 (.fld 0 1),vo 93 (.load 1 false 92),vo 94 (.lenS 93),vo 95 (.mv (kI 0))]) (.block 4 (.loop (.seq (rg [vo 96 (.bin .lss 95 94)]) (.seq (.cond 96 .skip (.exit 4)) (.seq (.block 5 (.seq (rg [vo 97 (.ixA 4 93 95),vo 98 (.load 4 true 97),vo 11 (.alloc 36 [(iI 0),(iI 0),iS,.nilS]),vp (.store 4 11 98)]) (.seq (rg [vo 99 (.fld 3 11),vo 100 (.load 1 false 99),vm 101 6,vo 102 (.call 44 [100,101]),vm 12 102]) (.seq (rg [vm 103 12,vo 104 (.bin .neq 103 (kI 0))]) (.cond 104 (.seq (rg [vm 105 12,vm 2 105]) .ret) .skip))))) (rg [vo 106 (.bin .add 95 (kI 1)),vm 95 106]))))))) (.seq (rg [vo 107 (.fld 1 1),vo 108 (.load 1 false 107),vm 109 6,vo 110 (.call 44 [108,109]),vm 2 110]) .ret))))))))
theorem c25:(Try.f25.body.bind fun c=>cK Try.prog 111 c) = some v25:=by kernel_rfl
def v52:VC:=(.seq (rg [vo 2 (.box 36 0),vo 3 (.mv (kB false))]) (.seq (rg [vo 4 (.fld 0 2),vo 5 (.load 1 false 4),vo 6 (.load 1 false 1),vo 7 (.bin .eql 5 6),vm 3 7]) .ret))
theorem c52:(Try.f52.body.bind fun c=>cK Try.prog 8 c) = some v52:=by kernel_rfl
def v51:VC:=(.seq (rg [vo 4 (.mv (kI 0))]) (.seq (.seq (rg [vm 6 0,vo 7 (.lenS 6),vo 8 (.mv (kI 0))]) (.block 0 (.loop (.seq (rg [vo 9 (.bin .lss 8 7)]) (.seq (.cond 9 .skip (.exit 0)) (.seq (.block 1 (.seq (rg [vm 10 8,vm 5 10]) (.seq (rg [vm 11 1,vm 12 0,vm 13 5,vo 14 (.ixA 4 12 13),vo 15 (.load 4 true 14),vo 16 (.callv 11 [15])]) (.cond 16 (.seq (rg [vm 17 5,vm 4 17]) .ret) .skip)))) (rg [vo 18 (.bin .add 8 (kI 1)),vm 8 18]))))))) (.seq (rg [vo 4 (.mv (kI (-1)))]) .ret)))
theorem c51:(Try.f51.body.bind fun c=>cK Try.prog 19 c) = some v51:=by kernel_rfl
def v35:VC:=(.seq (rg [vo 2 (.box 25 0),vo 3 (.box 3 1),vo 4 (.mv (kI 0)),vo 5 (.mv (kB false))]) (.seq (rg [vo 7 (.fld 0 2),vo 8 (.load 1 false 7),vo 9 (.mkfn 52 [3]),vo 10 (.call 51 [8,9]),vm 6 10]) (.seq (rg [vm 11 6,vo 12 (.mm true [11,(kI 0)]),vm 13 6,vo 14 (.bin .geq 13 (kI 0)),vm 4 12,vm 5 14]) .ret)))
theorem c35:(Try.f35.body.bind fun c=>cK Try.prog 15 c) = some v35:=by kernel_rfl
def v17:VC:=(.seq (rg [vo 4 (.mv (kB false))]) (.seq (.seq (rg [vm 6 0,vo 7 (.lenS 6),vm 8 1,vo 9 (.lenS 8),vo 10 (.bin .neq 7 9)]) (.cond 10 (.seq (rg [vo 4 (.mv (kB false))]) .ret) .skip)) (.seq (.seq (rg [vo 5 (.mv (kI 0))]) (.block 0 (.loop (.seq (.seq (rg [vm 11 5,vm 12 0,vo 13 (.lenS 12),vo 14 (.bin .lss 11 13)]) (.cond 14 .skip (.exit 0))) (.seq (.block 1 (.seq (.region (some [0,0,3,7,0,0,48,112,255,1,1,0,0,1,1,0,0,0]) [vm 17 0,vm 18 5,vo 19 (.ixA 1 17 18),vo 20 (.load 1 false 19),vm 21 1,vm 22 5,vo 23 (.ixA 1 21 22),vo 24 (.load 1 false 23),vo 25 (.bin .neq 20 24)]) (.cond 25 (.seq (rg [vo 4 (.mv (kB false))]) .ret) .skip))) (rg [vm 15 5,vo 16 (.bin .add 15 (kI 1)),vm 5 16])))))) (.seq (rg [vo 4 (.mv (kB true))]) .ret))))
theorem c17:(Try.f17.body.bind fun c=>cK Try.prog 26 c) = some v17:=by kernel_rfl
def v10:VC:=(.seq (rg [vo 0 (.mv (kB false))]) (.seq (rg [vo 12 (.call 22 []),vo 13 (.call 11 [12]),vm 11 13,vo 14 (.ext 11 0),vo 15 (.ext 11 1),vm 1 14,vm 2 15]) (.seq (rg [vo 17 (.call 22 []),vo 18 (.call 15 [17]),vm 16 18,vo 19 (.ext 16 0),vo 20 (.ext 16 1),vm 3 19,vm 4 20]) (.seq (rg [vo 22 (.call 22 []),vo 23 (.call 19 [22]),vm 21 23,vo 24 (.ext 21 0),vo 25 (.ext 21 1),vm 5 24,vm 6 25]) (.seq (rg [vo 27 (.call 22 []),vo 28 (.call 23 [27,(kI 4)]),vm 26 28,vo 29 (.ext 26 0),vo 30 (.ext 26 1),vm 7 29,vm 8 30]) (.seq (rg [vo 32 (.call 22 []),vo 33 (.call 24 [32,(kI 2)]),vm 31 33,vo 34 (.ext 31 0),vo 35 (.ext 31 1),vm 9 34,vm 10 35]) (.seq (rg [vm 36 1,vo 37 (.lenS 36),vo 38 (.bin .eql 37 (kI 4)),vm 39 38,vg 40 39 true (.mv 1),vg 41 39 true (.ixA 1 40 (kI 3)),vg 42 39 true (.load 1 false 41),vo 43 (.pick 39 42 (kB false)),vm 44 43,vg 45 44 true (.mv 2),vg 46 44 true (.bin .eql 45 (kI 0)),vo 47 (.pick 44 46 (kB false)),vm 48 47,vg 49 48 true (.mv 3),vg 50 48 true (.bsl 3 1 4 [(iI 0)] [(0,1,(kI (-1))),(1,1,(kI 0)),(2,1,(kI 0)),(3,1,(kI 0))]),vg 51 48 true (.call 17 [49,50]),vo 52 (.pick 48 51 (kB false)),vm 53 52,vg 54 53 true (.mv 4),vg 55 53 true (.bin .eql 54 (kI 0)),vo 56 (.pick 53 55 (kB false)),vm 57 56,vg 58 57 true (.mv 5),vg 59 57 true (.bsl 3 1 4 [(iI 0)] [(0,1,(kI 40)),(1,1,(kI 10)),(2,1,(kI 10)),(3,1,(kI 10))]),vg 60 57 true (.call 17 [58,59]),vo 61 (.pick 57 60 (kB false)),vm 62 61,vg 63 62 true (.mv 6),vg 64 62 true (.bin .eql 63 (kI 0)),vo 65 (.pick 62 64 (kB false)),vm 66 65,vg 67 66 true (.mv 7),vg 68 66 true (.bsl 3 1 3 [(iI 0)] [(0,1,(kI 1)),(1,1,(kI 2)),(2,1,(kI 4))]),vg 69 66 true (.call 17 [67,68]),vo 70 (.pick 66 69 (kB false)),vm 71 70,vg 72 71 true (.mv 8),vg 73 71 true (.bin .eql 72 (kI 0)),vo 74 (.pick 71 73 (kB false)),vm 75 74,vg 76 75 true (.mv 9),vg 77 75 true (.bsl 3 1 2 [(iI 0)] [(0,1,(kI 1)),(1,1,(kI 2))]),vg 78 75 true (.call 17 [76,77]),vo 79 (.pick 75 78 (kB false)),vm 80 79,vg 81 80 true (.mv 10),vg 82 80 true (.bin .eql 81 (kI 0)),vo 83 (.pick 80 82 (kB false)),vm 0 83]) .ret)))))))
theorem c10:(Try.f10.body.bind fun c=>cK Try.prog 84 c) = some v10:=by kernel_rfl
def v8:VC:=(.seq (rg [vo 1 (.box 25 0),vo 2 (.mv (kB false))]) (.seq (.seq (rg [vo 15 (.load 2 true 1),vo 16 (.call 9 [15]),vo 17 (.un .not 16),vm 18 17,vg 19 18 false (.load 2 true 1),vg 20 18 false (.call 13 [19]),vg 21 18 false (.bin .neq 20 (kI 0)),vo 22 (.pick 18 (kB true) 21)]) (.cond 22 (.seq (rg [vo 23 (.call 10 []),vm 2 23]) .ret) .skip)) (.seq (rg [vo 25 (.load 2 true 1),vo 26 (.call 19 [25]),vm 24 26,vo 27 (.ext 24 0),vo 28 (.ext 24 1),vm 3 27,vm 4 28]) (.seq (rg [vo 30 (.load 2 true 1),vo 31 (.call 15 [30]),vm 29 31,vo 32 (.ext 29 0),vo 33 (.ext 29 1),vm 5 32,vm 6 33]) (.seq (rg [vo 35 (.load 2 true 1),vo 36 (.call 11 [35]),vm 34 36,vo 37 (.ext 34 0),vo 38 (.ext 34 1),vm 7 37,vm 8 38]) (.seq (rg [vo 39 (.fld 0 1),vo 40 (.load 1 false 39),vo 41 (.lenS 40),vm 9 41]) (.seq (.seq (rg [vm 42 4,vo 43 (.bin .neq 42 (kI 0)),vm 44 43,vg 45 44 false (.mv 6),vg 46 44 false (.bin .neq 45 (kI 0)),vo 47 (.pick 44 (kB true) 46),vm 48 47,vg 49 48 false (.mv 8),vg 50 48 false (.bin .neq 49 (kI 0)),vo 51 (.pick 48 (kB true) 50),vm 52 51,vg 53 52 false (.mv 3),vg 54 52 false (.lenS 53),vg 55 52 false (.mv 9),vg 56 52 false (.bin .neq 54 55),vo 57 (.pick 52 (kB true) 56),vm 58 57,vg 59 58 false (.mv 5),vg 60 58 false (.lenS 59),vg 61 58 false (.mv 9),vg 62 58 false (.bin .neq 60 61),vo 63 (.pick 58 (kB true) 62),vm 64 63,vg 65 64 false (.mv 7),vg 66 64 false (.lenS 65),vg 67 64 false (.mv 9),vg 68 64 false (.bin .neq 66 67),vo 69 (.pick 64 (kB true) 68)]) (.cond 69 (.seq (rg [vo 2 (.mv (kB false))]) .ret) .skip)) (.seq (rg [vo 10 (.mv (kI 0)),vo 11 (.mv (kI 0))]) (.seq (.seq (rg [vo 12 (.mv (kI 0))]) (.block 0 (.loop (.seq (.seq (rg [vm 70 12,vm 71 9,vo 72 (.bin .lss 70 71)]) (.cond 72 .skip (.exit 0))) (.seq (.block 1 (.seq (rg [vo 75 (.fld 0 1),vo 76 (.load 1 false 75),vm 77 12,vo 78 (.ixA 4 76 77),vo 79 (.fld 1 78),vo 80 (.load 1 false 79),vm 13 80]) (.seq (.seq (rg [vo 14 (.mv (kI 0))]) (.block 2 (.loop (.seq (.seq (rg [vm 81 14,vm 82 9,vo 83 (.bin .lss 81 82)]) (.cond 83 .skip (.exit 2))) (.seq (.block 3 (.seq (rg [vm 86 5,vm 87 14,vo 88 (.ixA 1 86 87),vo 89 (.load 1 false 88),vm 90 12,vo 91 (.bin .eql 89 90)]) (.cond 91 (rg [vm 92 13,vm 93 3,vm 94 14,vo 95 (.ixA 1 93 94),vo 96 (.load 1 false 95),vo 97 (.bin .add 92 96),vm 13 97]) .skip))) (rg [vm 84 14,vo 85 (.bin .add 84 (kI 1)),vm 14 85])))))) (.seq (.seq (.region (some [0,0,3,7,15,31,31,127,255,31,1023,2047,4095,8191,8191,32767,65535,131071,262143,524287,524287,2097151,4194303,8388607,16777215,33554431,67108863,134217727,134217727,536870911,1073741823,134217727,134217727,6576668671,15166603263,32346472447,68719476735,137438953471,1,1,0,0,0,0,0,0,0,0,0,0,0,0,0,0,0,0,0,0,0,0,0,0,0,0,0,0,0,0,0,0,0,0,0,0,0,0]) [vm 98 7,vm 99 12,vo 100 (.ixA 1 98 99),vo 101 (.load 1 false 100),vm 102 101,vg 103 102 true (.mv 3),vg 104 102 true (.mv 12),vg 105 102 true (.ixA 1 103 104),vg 106 102 true (.load 1 false 105),vg 107 102 true (.mv 13),vg 108 102 true (.bin .neq 106 107),vo 109 (.pick 102 108 (kB false)),vm 110 109,vg 111 110 false (.mv 7),vg 112 110 false (.mv 12),vg 113 110 false (.ixA 1 111 112),vg 114 110 false (.load 1 false 113),vg 115 110 false (.un .not 114),vg 116 110 false (.mv 115),vg 117 116 true (.mv 3),vg 118 116 true (.mv 12),vg 119 116 true (.ixA 1 117 118),vg 120 116 true (.load 1 false 119),vg 121 116 true (.bin .neq 120 (kI 0)),vg 122 110 false (.pick 116 121 (kB false)),vo 123 (.pick 110 (kB true) 122),vm 124 123,vg 125 124 false (.mv 7),vg 126 124 false (.mv 12),vg 127 124 false (.ixA 1 125 126),vg 128 124 false (.load 1 false 127),vg 129 124 false (.mv 5),vg 130 124 false (.mv 12),vg 131 124 false (.ixA 1 129 130),vg 132 124 false (.load 1 false 131),vg 133 124 false (.bin .neq 132 (kI (-2))),vg 134 124 false (.beq true 128 133),vo 135 (.pick 124 (kB true) 134)]) (.cond 135 (.seq (rg [vo 2 (.mv (kB false))]) .ret) .skip)) (.seq (.seq (rg [vm 136 7,vm 137 12,vo 138 (.ixA 1 136 137),vo 139 (.load 1 false 138)]) (.cond 139 (rg [vm 140 10,vo 141 (.fld 0 1),vo 142 (.load 1 false 141),vm 143 12,vo 144 (.ixA 4 142 143),vo 145 (.fld 1 144),vo 146 (.load 1 false 145),vo 147 (.bin .add 140 146),vm 10 147]) .skip)) (.seq (rg [vm 148 5,vm 149 12,vo 150 (.ixA 1 148 149),vo 151 (.load 1 false 150),vo 152 (.bin .eql 151 (kI (-1)))]) (.cond 152 (rg [vm 153 11,vm 154 3,vm 155 12,vo 156 (.ixA 1 154 155),vo 157 (.load 1 false 156),vo 158 (.bin .add 153 157),vm 11 158]) .skip))))))) (rg [vm 73 12,vo 74 (.bin .add 73 (kI 1)),vm 12 74])))))) (.seq (rg [vm 159 10,vm 160 11,vo 161 (.bin .eql 159 160),vm 162 161,vg 163 162 true (.call 10 []),vo 164 (.pick 162 163 (kB false)),vm 2 164]) .ret))))))))))
theorem c8:(Try.f8.body.bind fun c=>cK Try.prog 165 c) = some v8:=by kernel_rfl
theorem aOx:ajZ Try.prog 52 = true:=by kernel_rfl
def jK (p0:api_Heap):Int→Option (Int ⊕ (Unit ⊕ Bool)):=fun a11 =>
  (bif (decide (a11 < (List.length p0.fObjects:Int))) then ((idx p0.fObjects a11).bind fun y15=>(bif (decide (40 < (List.length y15.fRefs:Int))) then some (.inr (.inr false)) else some (.inl (w64 (a11 + 1))))) else some (.inr (.inl ())))
def o8 (p0:api_Heap) (p1:Int):Option Bool :=
  (((bif (decide (p1 < (List.length p0.fObjects:Int))) then some true else some (decide (p1 < (List.length p0.fRoots:Int)))):Option Bool).bind fun v1=>(bif v1 then some false else ((loop (jK p0) 0).bind fun | .inl _=>some true | .inr rv=>some rv)))
theorem DK (p0:api_Heap) (p1:Int) (r:Bool) (hF:o8 p0 p1 = some r):Fun Try.prog 21 true [] [.agg [jL 4 ax p0.fObjects,jL 1 aY p0.fRoots],cI p1] aZ (cB r) aZ:=by
 refine Fun.of_walk0 Try.func21 c21 (by kernel_rfl) (rs:=[.tmp 4]) (by kernel_rfl) ?_; unfold v21
 unfold o8 at hF
 refine wA rfl ?_; refine bK ?_; refine bK ?_; refine nq (fun _ _ h=>h) hF (fun v1=>[(2,cP (2,0) 0),(17,cB v1)]) (fun v1=>[((2,0),.box [jL 4 ax p0.fObjects,jL 1 aY p0.fRoots])]) ?_ ?_
 · rintro v1 hF
   refine wIf hF rfl (fun _ hF=>?_) fun _ hF=>?_
   · refine wA rfl ?_; cases hF
     exact fq wR
   refine dj ?_; refine bK ?_; refine wA rfl ?_; refine wK (fun _ _ h=>h) hF (.inl) (fun a11=>[(2,cP (2,0) 0),(5,cI a11)]) (fun a11=>[((2,0),.box [jL 4 ax p0.fObjects,jL 1 aY p0.fRoots])]) (fun _=>[]) (fun _=>[]) sw ?_ ?_
   · rintro ⟨⟩ hF
     refine wA rfl ?_; cases hF
     exact fq wR
   rintro a11 x_0 hF cont_0 brk_0 fin_0
   unfold jK at hF
   refine bK ?_; refine wC 3 rfl ?_; refine rS (nZ (tc:=ax) p0.fObjects .tree ?_); refine QV rfl ?_; refine wIf hF rfl (fun _ hF=>?_) fun _ hF=>?_
   · refine dj ?_; refine bK ?_; refine mQ ?_; refine wC 3 rfl ?_; obtain ⟨y15,hy15,hF⟩:=bB hF
     refine rS (iJ (tc:=ax) p0.fObjects rfl rfl hy15 ?_); refine bX SV 2 rfl ?_; refine rS (nZ (tc:=aY) y15.fRefs .tree ?_); refine QV rfl ?_; refine wIf hF rfl (fun _ hF=>?_) fun _ hF=>?_
     · refine wA rfl ?_; have hF:=fin_0 _ (oi hF); cases hF
       exact fq wR
     refine dj ?_; refine wB rfl ?_; exact cont_0 _ _ _ (oi hF) sw
   refine qK ?_; refine bW ?_; refine bW ?_; refine fJ ?_; exact brk_0 _ _ _ (oi hF) sw
 intro join hF
 refine wD 2 rfl ?_; refine rS (nZ (tc:=ax) p0.fObjects .tree ?_); refine bX SV 3 rfl ?_; cases h19:(decide (p1 < (List.length p0.fObjects:Int)))
 · have hF:=bF' h19 hF; refine bX SV 2 rfl ?_; refine dq SV rfl (nZ (tc:=aY) p0.fRoots .tree ?_); refine QV rfl ?_; exact join (decide (p1 < (List.length p0.fRoots:Int))) _ _ hF sw
 have hF:=bT' h19 hF; refine QV rfl ?_; exact join true _ _ hF sw
def mj (p0:api_Heap):Option Bool :=
  ((o8 p0 16).bind fun r1=>some r1)
theorem Dj (p0:api_Heap) (r:Bool) (hF:mj p0 = some r):Fun Try.prog 9 true [] [.agg [jL 4 ax p0.fObjects,jL 1 aY p0.fRoots]] aZ (cB r) aZ:=by
 refine Fun.of_walk0 Try.func9 c9 (by kernel_rfl) (rs:=[.tmp 2]) (by kernel_rfl) ?_; unfold v9
 unfold mj at hF
 refine wA rfl ?_; refine wC 1 rfl ?_; obtain ⟨r1,hr1,hF⟩:=bB hF
 refine rS (gj (DK _ _ _ hr1) ⟨⟨rfl,rfl,trivial⟩,rfl,trivial⟩ rfl (.inl rfl) ?_); refine QV rfl ?_; cases hF
 exact fq wR
def tX (p0:Int):Int→Option (Int ⊕ (Unit ⊕ Bool)):=fun a11 =>
  (bif (decide (a11 < (ByteArray.size (⟨#[95,46,58,47,60,62,36,42,126,45]⟩ : ByteArray):Int))) then ((idx (ByteArray.data (⟨#[95,46,58,47,60,62,36,42,126,45]⟩ : ByteArray)).toList a11).bind fun y15=>(bif (decide ((UInt8.toNat y15:Int) = p0)) then some (.inr (.inr true)) else some (.inl (w64 (a11 + 1))))) else some (.inr (.inl ())))
def j6 (p0:Int):Option Bool :=
  (((bif (decide (97≤p0)) then (bif (decide (p0≤122)) then some true else (bif (decide (65≤p0)) then (bif (decide (p0≤90)) then some true else (bif (decide (48≤p0)) then some (decide (p0≤57)) else some false)) else (bif (decide (48≤p0)) then some (decide (p0≤57)) else some false))) else (bif (decide (65≤p0)) then (bif (decide (p0≤90)) then some true else (bif (decide (48≤p0)) then some (decide (p0≤57)) else some false)) else (bif (decide (48≤p0)) then some (decide (p0≤57)) else some false))):Option Bool).bind fun v1=>(bif v1 then some true else ((loop (tX p0) 0).bind fun | .inl _=>some false | .inr rv=>some rv)))
theorem A0 (p0:Int) (r:Bool) (hF:j6 p0 = some r):Fun Try.prog 48 true [] [.c (.imm (.sc (.int .u8 p0)))] aZ (cB r) aZ:=by
 refine Fun.of_walk0 Try.func48 c48 (by kernel_rfl) (rs:=[.tmp 2]) (by kernel_rfl) ?_; unfold v48
 unfold j6 at hF
 refine wA rfl ?_; refine bK ?_; refine bK ?_; refine nq (fun _ _ h=>h) hF (fun v1=>[(0,.c (.imm (.sc (.int .u8 p0)))),(26,cB v1)]) (fun v1=>[]) ?_ ?_
 · rintro v1 hF
   refine wIf hF rfl (fun _ hF=>?_) fun _ hF=>?_
   · refine wA rfl ?_; cases hF
     exact fq wR
   refine dj ?_; refine wA rfl ?_; refine bK ?_; refine wA rfl ?_; refine wK (fun _ _ h=>h) hF (.inl) (fun a11=>[(0,.c (.imm (.sc (.int .u8 p0)))),(3,.c (jS (⟨#[95,46,58,47,60,62,36,42,126,45]⟩ : ByteArray))),(4,cI a11)]) (fun a11=>[]) (fun _=>[]) (fun _=>[]) sw ?_ ?_
   · rintro ⟨⟩ hF
     refine wA rfl ?_; cases hF
     exact fq wR
   rintro a11 x_0 hF cont_0 brk_0 fin_0
   unfold tX at hF
   refine bK ?_; refine wA rfl ?_; refine wIf hF rfl (fun _ hF=>?_) fun _ hF=>?_
   · refine dj ?_; refine bK ?_; refine mQ ?_; refine wC 2 rfl ?_; obtain ⟨y15,hy15,hF⟩:=bB hF
     refine rS (ayK (⟨#[95,46,58,47,60,62,36,42,126,45]⟩ : ByteArray) rfl rfl hy15 ?_); refine QV rfl ?_; refine wIf hF rfl (fun _ hF=>?_) fun _ hF=>?_
     · refine wA rfl ?_; have hF:=fin_0 _ (oi hF); cases hF
       exact fq wR
     refine dj ?_; refine wB rfl ?_; exact cont_0 _ _ _ (oi hF) sw
   refine qK ?_; refine bW ?_; refine bW ?_; refine fJ ?_; exact brk_0 _ _ _ (oi hF) sw
 intro join hF
 refine wD 3 rfl ?_; cases h19:(decide (97≤p0))
 · have hF:=bF' h19 hF; refine bX SV 7 rfl ?_; cases h20:(decide (65≤p0))
   · have hF:=bF' h20 hF; refine bX SV 8 rfl ?_; cases h21:(decide (48≤p0))
     · have hF:=bF' h21 hF; refine QV rfl ?_; exact join false _ _ hF sw
     have hF:=bT' h21 hF; refine QV rfl ?_; exact join (decide (p0≤57)) _ _ hF sw
   have hF:=bT' h20 hF; refine bX SV 5 rfl ?_; cases h22:(decide (p0≤90))
   · have hF:=bF' h22 hF; refine bX SV 3 rfl ?_; cases h23:(decide (48≤p0))
     · have hF:=bF' h23 hF; refine QV rfl ?_; exact join false _ _ hF sw
     have hF:=bT' h23 hF; refine QV rfl ?_; exact join (decide (p0≤57)) _ _ hF sw
   have hF:=bT' h22 hF; refine QV rfl ?_; exact join true _ _ hF sw
 have hF:=bT' h19 hF; refine bX SV 4 rfl ?_; cases h24:(decide (p0≤122))
 · have hF:=bF' h24 hF; refine bX SV 3 rfl ?_; cases h25:(decide (65≤p0))
   · have hF:=bF' h25 hF; refine bX SV 8 rfl ?_; cases h26:(decide (48≤p0))
     · have hF:=bF' h26 hF; refine QV rfl ?_; exact join false _ _ hF sw
     have hF:=bT' h26 hF; refine QV rfl ?_; exact join (decide (p0≤57)) _ _ hF sw
   have hF:=bT' h25 hF; refine bX SV 5 rfl ?_; cases h27:(decide (p0≤90))
   · have hF:=bF' h27 hF; refine bX SV 3 rfl ?_; cases h28:(decide (48≤p0))
     · have hF:=bF' h28 hF; refine QV rfl ?_; exact join false _ _ hF sw
     have hF:=bT' h28 hF; refine QV rfl ?_; exact join (decide (p0≤57)) _ _ hF sw
   have hF:=bT' h27 hF; refine QV rfl ?_; exact join true _ _ hF sw
 have hF:=bT' h24 hF; refine QV rfl ?_; exact join true _ _ hF sw
def lZ (p0:ByteArray):Int→Option (Int ⊕ (Unit ⊕ Int)):=fun a13 =>
  (bif (decide (a13 < (ByteArray.size p0:Int))) then ((idx (ByteArray.data p0).toList a13).bind fun y18=>((j6 (UInt8.toNat y18:Int)).bind fun r19=>(bif (!r19) then some (.inr (.inr 3)) else some (.inl (w64 (a13 + 1)))))) else some (.inr (.inl ())))
def jj (p0:ByteArray):Option Int :=
  (((bif (decide ((ByteArray.size p0:Int) < 1)) then some true else some (decide (40 < (ByteArray.size p0:Int)))):Option Bool).bind fun v1=>(bif v1 then some 3 else ((loop (lZ p0) 0).bind fun | .inl _=>some 0 | .inr rv=>some rv)))
theorem Cx (p0:ByteArray) (r:Int) (hF:jj p0 = some r):Fun Try.prog 29 true [] [.c (jS p0)] aZ (cI r) aZ:=by
 refine Fun.of_walk0 Try.func29 c29 (by kernel_rfl) (rs:=[.tmp 2]) (by kernel_rfl) ?_; unfold v29
 unfold jj at hF
 refine wA rfl ?_; refine bK ?_; refine bK ?_; refine nq (fun _ _ h=>h) hF (fun v1=>[(0,.c (jS p0)),(11,cB v1)]) (fun v1=>[]) ?_ ?_
 · rintro v1 hF
   refine wIf hF rfl (fun _ hF=>?_) fun _ hF=>?_
   · refine wA rfl ?_; cases hF
     exact fq wR
   refine dj ?_; refine bK ?_; refine wA rfl ?_; refine wK (fun _ _ h=>h) hF (.inl) (fun a13=>[(0,.c (jS p0)),(3,cI a13)]) (fun a13=>[]) (fun _=>[]) (fun _=>[]) sw ?_ ?_
   · rintro ⟨⟩ hF
     refine wA rfl ?_; cases hF
     exact fq wR
   rintro a13 x_0 hF cont_0 brk_0 fin_0
   unfold lZ at hF
   refine bK ?_; refine wA rfl ?_; refine wIf hF rfl (fun _ hF=>?_) fun _ hF=>?_
   · refine dj ?_; refine bK ?_; refine mQ ?_; refine wC 2 rfl ?_; obtain ⟨y18,hy18,hF⟩:=bB hF
     refine rS (ayK p0 rfl rfl hy18 ?_); obtain ⟨r19,hr19,hF⟩:=bB hF
     refine rS (gj (A0 _ _ hr19) ⟨rfl,trivial⟩ rfl (.inl rfl) ?_); refine QV rfl ?_; refine wIf hF rfl (fun _ hF=>?_) fun _ hF=>?_
     · refine wA rfl ?_; have hF:=fin_0 _ (oi hF); cases hF
       exact fq wR
     refine dj ?_; refine wB rfl ?_; exact cont_0 _ _ _ (oi hF) sw
   refine qK ?_; refine bW ?_; refine bW ?_; refine fJ ?_; exact brk_0 _ _ _ (oi hF) sw
 intro join hF
 refine wD 4 rfl ?_; cases h23:(decide ((ByteArray.size p0:Int) < 1))
 · have hF:=bF' h23 hF; refine QV rfl ?_; exact join (decide (40 < (ByteArray.size p0:Int))) _ _ hF sw
 have hF:=bT' h23 hF; refine QV rfl ?_; exact join true _ _ hF sw
def iK (p0:api_Heap) (p1:Int):Int→Option (Int ⊕ (Unit ⊕ (Int × Bool))):=fun a10 =>
  (bif (decide (a10 < (List.length p0.fObjects:Int))) then ((idx p0.fObjects a10).bind fun y14=>(bif (decide (y14.fId = p1)) then some (.inr (.inr (a10,true))) else some (.inl (w64 (a10 + 1))))) else some (.inr (.inl ())))
def k9 (p0:api_Heap) (p1:Int):Option (Int × Bool) :=
  ((loop (iK p0 p1) 0).bind fun | .inl _=>some (0,false) | .inr rv=>some rv)
theorem C2 (p0:api_Heap) (p1:Int) (r:(Int × Bool)) (hF:k9 p0 p1 = some r):Fun Try.prog 14 true [] [.agg [jL 4 ax p0.fObjects,jL 1 aY p0.fRoots],cI p1] aZ (.tup [cI r.1,cB r.2]) aZ:=by
 refine Fun.of_walk0 Try.func14 c14 (by kernel_rfl) (rs:=[.tmp 4,.tmp 5]) (by kernel_rfl) ?_; unfold v14
 unfold k9 at hF
 refine wA rfl ?_; refine bK ?_; refine wA rfl ?_; refine wK (fun _ _ h=>h) hF (.inl) (fun a10=>[(1,cI p1),(2,cP (2,0) 0),(6,cI a10)]) (fun a10=>[((2,0),.box [jL 4 ax p0.fObjects,jL 1 aY p0.fRoots])]) (fun _=>[]) (fun _=>[]) sw ?_ ?_
 · rintro ⟨⟩ hF
   refine wA rfl ?_; cases hF
   exact fq ⟨_,rfl,rfl,⟨⟨rfl,fun _=>rfl⟩,⟨rfl,fun _=>rfl⟩,trivial⟩,aoW _⟩
 rintro a10 x_0 hF cont_0 brk_0 fin_0
 unfold iK at hF
 refine bK ?_; refine wC 3 rfl ?_; refine rS (nZ (tc:=ax) p0.fObjects .tree ?_); refine QV rfl ?_; refine wIf hF rfl (fun _ hF=>?_) fun _ hF=>?_
 · refine dj ?_; refine bK ?_; refine mQ ?_; refine wC 3 rfl ?_; obtain ⟨y14,hy14,hF⟩:=bB hF
   refine rS (iJ (tc:=ax) p0.fObjects rfl rfl hy14 ?_); refine QV rfl ?_; refine wIf hF rfl (fun _ hF=>?_) fun _ hF=>?_
   · refine wA rfl ?_; have hF:=fin_0 _ (oi hF); cases hF
     exact fq ⟨_,rfl,rfl,⟨⟨rfl,fun _=>rfl⟩,⟨rfl,fun _=>rfl⟩,trivial⟩,aoW _⟩
   refine dj ?_; refine wB rfl ?_; exact cont_0 _ _ _ (oi hF) sw
 refine qK ?_; refine bW ?_; refine bW ?_; refine fJ ?_; exact brk_0 _ _ _ (oi hF) sw
def jq (p0:api_Heap) (p1:(List Int)):Int→Option (Int ⊕ (Unit ⊕ Int)):=fun a22 =>
  (bif (decide (a22 < (List.length p1:Int))) then ((idx p1 a22).bind fun y32=>((k9 p0 y32).bind fun r33=>(bif (!r33.2) then some (.inr (.inr 5)) else (((bif (decide (0 < a22)) then ((idx p1 a22).bind fun y37=>((idx p1 (w64 (a22 - 1))).bind fun y38=>some (decide (y37≤y38)))) else some false):Option Bool).bind fun v34=>(bif v34 then some (.inr (.inr 11)) else some (.inl (w64 (a22 + 1)))))))) else some (.inr (.inl ())))
def jz (p0:api_Heap) (p1:(List Int)):Option Int :=
  ((loop (jq p0 p1) 0).bind fun | .inl _=>some 0 | .inr rv=>some rv)
theorem uJ (p0:api_Heap) (p1:(List Int)) (r:Int) (hF:jz p0 p1 = some r):Fun Try.prog 30 true [] [.agg [jL 4 ax p0.fObjects,jL 1 aY p0.fRoots],cL 1 aY p1] aZ (cI r) aZ:=by
 refine Fun.of_walk0 Try.func30 c30 (by kernel_rfl) (rs:=[.tmp 4]) (by kernel_rfl) ?_; unfold v30
 unfold jz at hF
 refine wA rfl ?_; refine bK ?_; refine wA rfl ?_; refine wK (fun _ _ h=>h) hF (.inl) (fun a22=>[(1,cL 1 aY p1),(2,cP (2,0) 0),(5,cI a22)]) (fun a22=>[((2,0),.box [jL 4 ax p0.fObjects,jL 1 aY p0.fRoots])]) (fun _=>[]) (fun _=>[]) sw ?_ ?_
 · rintro ⟨⟩ hF
   refine wA rfl ?_; cases hF
   exact fq wR
 rintro a22 x_0 hF cont_0 brk_0 fin_0
 unfold jq at hF
 refine bK ?_; refine wC 2 rfl ?_; refine rS (nZ (tc:=aY) p1 .tree ?_); refine QV rfl ?_; refine wIf hF rfl (fun _ hF=>?_) fun _ hF=>?_
 · refine dj ?_; refine bK ?_; refine mQ ?_; refine bK ?_; refine IQ (by decide) (by kernel_rfl) rfl ?_; refine bX SP 3 rfl ?_; obtain ⟨y32,hy32,hF⟩:=bB hF
   refine dq SP trivial (iJ (tc:=aY) p1 rfl rfl hy32 ?_); refine bX SP 1 rfl ?_; obtain ⟨r33,hr33,hF⟩:=bB hF
   refine dq SP trivial (gj (C2 _ _ _ hr33) ⟨⟨rfl,rfl,trivial⟩,rfl,trivial⟩ rfl (.inl rfl) ?_); refine QP rfl ?_; refine bK ?_; refine wA rfl ?_; refine wIf hF rfl (fun _ hF=>?_) fun _ hF=>?_
   · refine wA rfl ?_; have hF:=fin_0 _ (oi hF); cases hF
     exact fq wR
   refine dj ?_; refine bK ?_; refine nq (fun _ _ h=>h) hF (fun v34=>[(1,cL 1 aY p1),(2,cP (2,0) 0),(5,cI a22),(38,cB v34)]) (fun v34=>[((2,0),.box [jL 4 ax p0.fObjects,jL 1 aY p0.fRoots])]) ?_ ?_
   · rintro v34 hF
     refine wIf hF rfl (fun _ hF=>?_) fun _ hF=>?_
     · refine wA rfl ?_; have hF:=fin_0 _ (oi hF); cases hF
       exact fq wR
     refine dj ?_; refine wB rfl ?_; exact cont_0 _ _ _ (oi hF) sw
   intro join hF
   refine IQ (by decide) (by kernel_rfl) rfl ?_; refine bX SP 3 rfl ?_; cases h36:(decide (0 < a22))
   · have hF:=bF' h36 hF; refine QP rfl ?_; exact join false _ _ hF sw
   have hF:=bT' h36 hF; refine bX SP 2 rfl ?_; obtain ⟨y37,hy37,hF⟩:=bB' hF
   refine dq SP rfl (iJ (tc:=aY) p1 rfl rfl hy37 ?_); refine bX SP 4 rfl ?_; obtain ⟨y38,hy38,hF⟩:=bB' hF
   refine dq SP rfl (iJ (tc:=aY) p1 rfl rfl hy38 ?_); refine QP rfl ?_; exact join (decide (y37≤y38)) _ _ hF sw
 refine qK ?_; refine bW ?_; refine bW ?_; refine fJ ?_; exact brk_0 _ _ _ (oi hF) sw
def hZ (p0:api_Heap):Int→Option (Int ⊕ (Unit ⊕ Int)):=fun a71 =>
  (bif (decide (a71 < (List.length p0.fObjects:Int))) then ((idx p0.fObjects a71).bind fun y77=>((jz p0 y77.fRefs).bind fun r78=>(bif (!decide (r78 = 0)) then some (.inr (.inr r78)) else some (.inl (w64 (a71 + 1)))))) else some (.inr (.inl ())))
def iX (p0:api_Heap):Int→Option (Int ⊕ (Unit ⊕ Int)):=fun a46 =>
  (bif (decide (a46 < (List.length p0.fObjects:Int))) then ((idx p0.fObjects a46).bind fun y81=>(((bif (decide (y81.fId < 0)) then some true else (bif (decide (1000000000000000 < y81.fId)) then some true else (bif (decide (y81.fSize < 0)) then some true else some (decide (1000000000000 < y81.fSize))))):Option Bool).bind fun v82=>(bif v82 then some (.inr (.inr 2)) else ((jj y81.fType).bind fun r83=>(bif (!decide (r83 = 0)) then some (.inr (.inr 3)) else (((bif (decide (0 < a46)) then ((idx p0.fObjects (w64 (a46 - 1))).bind fun y87=>some (decide (y81.fId≤y87.fId))) else some false):Option Bool).bind fun v84=>(bif v84 then some (.inr (.inr 11)) else some (.inl (w64 (a46 + 1)))))))))) else some (.inr (.inl ())))
def oZ (p0:api_Heap):(Int × Int)→Option ((Int × Int) ⊕ Int):=fun (a11,a12) =>
  (bif (decide (a12 < (List.length p0.fObjects:Int))) then ((idx p0.fObjects a12).bind fun y97=>some (.inl ((w64 (a11 + (List.length y97.fRefs:Int))),(w64 (a12 + 1))))) else some (.inr a11))
def kJ (p0:api_Heap):Option Int :=
  ((loop (oZ p0) (0,0)).bind fun e15=>(((bif (decide (5000 < (List.length p0.fObjects:Int))) then some true else (bif (decide (20000 < e15)) then some true else some (decide (5000 < (List.length p0.fRoots:Int))))):Option Bool).bind fun v16=>(bif v16 then some 7 else ((loop (iX p0) 0).bind fun | .inl _=>((loop (hZ p0) 0).bind fun | .inl _=>((jz p0 p0.fRoots).bind fun r76=>some r76) | .inr rv=>some rv) | .inr rv=>some rv))))
theorem B1 (p0:api_Heap) (r:Int) (hF:kJ p0 = some r):Fun Try.prog 13 true [] [.agg [jL 4 ax p0.fObjects,jL 1 aY p0.fRoots]] aZ (cI r) aZ:=by
 refine Fun.of_walk0 Try.func13 c13 (by kernel_rfl) (rs:=[.tmp 2]) (by kernel_rfl) ?_; unfold v13
 unfold kJ at hF
 refine wA rfl ?_; refine wA rfl ?_; refine bK ?_; refine wA rfl ?_; refine wK (fun _ _ h=>h) hF (id) (fun (a11,a12)=>[(1,cP (1,0) 0),(3,cI a11),(4,cI a12)]) (fun (a11,a12)=>[((1,0),.box [jL 4 ax p0.fObjects,jL 1 aY p0.fRoots])]) (fun e15=>[(1,cP (1,0) 0),(3,cI e15)]) (fun e15=>[((1,0),.box [jL 4 ax p0.fObjects,jL 1 aY p0.fRoots])]) sw ?_ ?_
 · rintro e15 hF
   refine bK ?_; refine bK ?_; refine nq (fun _ _ h=>h) hF (fun v16=>[(1,cP (1,0) 0),(38,cB v16)]) (fun v16=>[((1,0),.box [jL 4 ax p0.fObjects,jL 1 aY p0.fRoots])]) ?_ ?_
   · rintro v16 hF
     refine wIf hF rfl (fun _ hF=>?_) fun _ hF=>?_
     · refine wA rfl ?_; cases hF
       exact fq wR
     refine dj ?_; refine bK ?_; refine wA rfl ?_; refine wK (fun _ _ h=>h) hF (.inl) (fun a46=>[(1,cP (1,0) 0),(5,cI a46)]) (fun a46=>[((1,0),.box [jL 4 ax p0.fObjects,jL 1 aY p0.fRoots])]) (fun _=>[(1,cP (1,0) 0)]) (fun _=>[((1,0),.box [jL 4 ax p0.fObjects,jL 1 aY p0.fRoots])]) sw ?_ ?_
     · rintro ⟨⟩ hF
       refine bK ?_; refine wA rfl ?_; refine wK (fun _ _ h=>h) hF (.inl) (fun a71=>[(1,cP (1,0) 0),(7,cI a71)]) (fun a71=>[((1,0),.box [jL 4 ax p0.fObjects,jL 1 aY p0.fRoots])]) (fun _=>[(1,cP (1,0) 0)]) (fun _=>[((1,0),.box [jL 4 ax p0.fObjects,jL 1 aY p0.fRoots])]) sw ?_ ?_
       · rintro ⟨⟩ hF
         refine wC 3 rfl ?_; obtain ⟨r76,hr76,hF⟩:=bB hF
         refine rS (gj (uJ _ _ _ hr76) ⟨⟨rfl,rfl,trivial⟩,rfl,trivial⟩ rfl (.inl rfl) ?_); refine QV rfl ?_; cases hF
         exact fq wR
       rintro a71 x_0 hF cont_0 brk_0 fin_0
       unfold hZ at hF
       refine bK ?_; refine wC 3 rfl ?_; refine rS (nZ (tc:=ax) p0.fObjects .tree ?_); refine QV rfl ?_; refine wIf hF rfl (fun _ hF=>?_) fun _ hF=>?_
       · refine dj ?_; refine bK ?_; refine mQ ?_; refine bK ?_; refine IQ (by decide) (by kernel_rfl) rfl ?_; refine bX SP 4 rfl ?_; obtain ⟨y77,hy77,hF⟩:=bB hF
         refine dq SP trivial (iJ (tc:=ax) p0.fObjects rfl rfl hy77 ?_); refine bX SP 2 rfl ?_; obtain ⟨r78,hr78,hF⟩:=bB hF
         refine dq SP trivial (gj (uJ _ _ _ hr78) ⟨⟨rfl,rfl,trivial⟩,rfl,trivial⟩ rfl (.inl rfl) ?_); refine QP rfl ?_; refine wA rfl ?_; refine wIf hF rfl (fun _ hF=>?_) fun _ hF=>?_
         · refine wA rfl ?_; have hF:=fin_0 _ (oi hF); cases hF
           exact fq wR
         refine dj ?_; refine wB rfl ?_; exact cont_0 _ _ _ (oi hF) sw
       refine qK ?_; refine bW ?_; refine bW ?_; refine fJ ?_; exact brk_0 _ _ _ (oi hF) sw
     rintro a46 x_0 hF cont_0 brk_0 fin_0
     unfold iX at hF
     refine bK ?_; refine wC 3 rfl ?_; refine rS (nZ (tc:=ax) p0.fObjects .tree ?_); refine QV rfl ?_; refine wIf hF rfl (fun _ hF=>?_) fun _ hF=>?_
     · refine dj ?_; refine bK ?_; refine mQ ?_; refine wC 3 rfl ?_; obtain ⟨y81,hy81,hF⟩:=bB hF
       refine rS (iJ (tc:=ax) p0.fObjects rfl rfl hy81 ?_); refine QV rfl ?_; refine bK ?_; refine bK ?_; refine nq (fun _ _ h=>h) hF (fun v82=>[(1,cP (1,0) 0),(5,cI a46),(6,cP (6,0) 0),(68,cB v82)]) (fun v82=>[((1,0),.box [jL 4 ax p0.fObjects,jL 1 aY p0.fRoots]),((6,0),.box (yW y81))]) ?_ ?_
       · rintro v82 hF
         refine wIf hF rfl (fun _ hF=>?_) fun _ hF=>?_
         · refine wA rfl ?_; have hF:=fin_0 _ (oi hF); cases hF
           exact fq wR
         refine dj ?_; refine bK ?_; refine wC 2 rfl ?_; obtain ⟨r83,hr83,hF⟩:=bB hF
         refine rS (gj (Cx _ _ hr83) ⟨rfl,trivial⟩ rfl (.inl rfl) ?_); refine QV rfl ?_; refine wIf hF rfl (fun _ hF=>?_) fun _ hF=>?_
         · refine wA rfl ?_; have hF:=fin_0 _ (oi hF); cases hF
           exact fq wR
         refine dj ?_; refine bK ?_; refine nq (fun _ _ h=>h) hF (fun v84=>[(1,cP (1,0) 0),(5,cI a46),(86,cB v84)]) (fun v84=>[((1,0),.box [jL 4 ax p0.fObjects,jL 1 aY p0.fRoots])]) ?_ ?_
         · rintro v84 hF
           refine wIf hF rfl (fun _ hF=>?_) fun _ hF=>?_
           · refine wA rfl ?_; have hF:=fin_0 _ (oi hF); cases hF
             exact fq wR
           refine dj ?_; refine wB rfl ?_; exact cont_0 _ _ _ (oi hF) sw
         intro join hF
         refine IQ (by decide) (by kernel_rfl) rfl ?_; refine bX SP 3 rfl ?_; cases h86:(decide (0 < a46))
         · have hF:=bF' h86 hF; refine QP rfl ?_; exact join false _ _ hF sw
         have hF:=bT' h86 hF; refine bX SP 6 rfl ?_; obtain ⟨y87,hy87,hF⟩:=bB' hF
         refine dq SP rfl (iJ (tc:=ax) p0.fObjects rfl rfl hy87 ?_); refine QP rfl ?_; exact join (decide (y81.fId≤y87.fId)) _ _ hF sw
       intro join hF
       refine wD 4 rfl ?_; cases h90:(decide (y81.fId < 0))
       · have hF:=bF' h90 hF; refine bX SV 5 rfl ?_; cases h91:(decide (1000000000000000 < y81.fId))
         · have hF:=bF' h91 hF; refine bX SV 5 rfl ?_; cases h92:(decide (y81.fSize < 0))
           · have hF:=bF' h92 hF; refine QV rfl ?_; exact join (decide (1000000000000 < y81.fSize)) _ _ hF sw
           have hF:=bT' h92 hF; refine QV rfl ?_; exact join true _ _ hF sw
         have hF:=bT' h91 hF; refine QV rfl ?_; exact join true _ _ hF sw
       have hF:=bT' h90 hF; refine QV rfl ?_; exact join true _ _ hF sw
     refine qK ?_; refine bW ?_; refine bW ?_; refine fJ ?_; exact brk_0 _ _ _ (oi hF) sw
   intro join hF
   refine wD 2 rfl ?_; refine rS (nZ (tc:=ax) p0.fObjects .tree ?_); refine bX SV 2 rfl ?_; cases h95:(decide (5000 < (List.length p0.fObjects:Int)))
   · have hF:=bF' h95 hF; refine bX SV 4 rfl ?_; cases h96:(decide (20000 < e15))
     · have hF:=bF' h96 hF; refine bX SV 2 rfl ?_; refine dq SV rfl (nZ (tc:=aY) p0.fRoots .tree ?_); refine QV rfl ?_; exact join (decide (5000 < (List.length p0.fRoots:Int))) _ _ hF sw
     have hF:=bT' h96 hF; refine QV rfl ?_; exact join true _ _ hF sw
   have hF:=bT' h95 hF; refine QV rfl ?_; exact join true _ _ hF sw
 rintro ⟨a11,a12⟩ x_0 hF cont_0 brk_0 fin_0
 unfold oZ at hF
 refine bK ?_; refine wC 3 rfl ?_; refine rS (nZ (tc:=ax) p0.fObjects .tree ?_); refine QV rfl ?_; refine wIf hF rfl (fun _ hF=>?_) fun _ hF=>?_
 · refine dj ?_; refine bK ?_; refine mQ ?_; refine wD 4 rfl ?_; obtain ⟨y97,hy97,hF⟩:=bB hF
   refine rS (iJ (tc:=ax) p0.fObjects rfl rfl hy97 ?_); refine bX SV 2 rfl ?_; refine rS (nZ (tc:=aY) y97.fRefs .tree ?_); refine QV rfl ?_; refine wB rfl ?_; exact cont_0 _ _ _ (oi hF) sw
 refine qK ?_; refine bW ?_; refine bW ?_; refine fJ ?_; exact brk_0 _ _ _ (oi hF) sw
def d7  : Option api_Heap :=
  some ({ fObjects:=[({ fId:=1,fSize:=10,fType:=(⟨#[116]⟩ : ByteArray),fRefs:=[2,3] }:bJ),({ fId:=2,fSize:=10,fType:=(⟨#[116]⟩ : ByteArray),fRefs:=[4] }:bJ),({ fId:=3,fSize:=10,fType:=(⟨#[116]⟩ : ByteArray),fRefs:=[4] }:bJ),({ fId:=4,fSize:=10,fType:=(⟨#[116]⟩ : ByteArray),fRefs:=[] }:bJ)],fRoots:=[1] }:api_Heap)
theorem fX  (r:api_Heap) (hF:d7  = some r):Fun Try.prog 22 false [] [] (aX []) (.agg [.slO (902,880),.slO (902,881)]) (aX [((902,880),.arr 36 4 (List.map ax r.fObjects)),((902,881),.arr 3 1 (List.map aY r.fRoots))]):=by
 refine Fun.of_walkM [] (some []) Try.func22 c22 (by kernel_rfl) (rs:=[.cell 0 2 true]) (by kernel_rfl) rfl rfl rfl ?_; unfold v22
 unfold d7 at hF
 refine wA rfl ?_; refine wE ?_; refine rS (JK (tc:=aY) [2,3] rfl ⟨rfl,rfl,trivial⟩ rfl (fun _=>rfl) rfl ?_)
 refine bX SV 1 rfl ?_; refine rS (JK (tc:=aY) [4] rfl ⟨rfl,trivial⟩ rfl (fun _=>rfl) rfl ?_)
 refine bX SV 1 rfl ?_; refine rS (JK (tc:=aY) [4] rfl ⟨rfl,trivial⟩ rfl (fun _=>rfl) rfl ?_)
 refine bX SV 2 rfl ?_; refine aHW trivial (azV (1,0) rfl rfl (azV (3,0) rfl rfl (azV (5,0) rfl rfl Ij))) (.inl (JK (tc:=ax) [({ fId:=1,fSize:=10,fType:=(⟨#[116]⟩ : ByteArray),fRefs:=[2,3] }:bJ),({ fId:=2,fSize:=10,fType:=(⟨#[116]⟩ : ByteArray),fRefs:=[4] }:bJ),({ fId:=3,fSize:=10,fType:=(⟨#[116]⟩ : ByteArray),fRefs:=[4] }:bJ),({ fId:=4,fSize:=10,fType:=(⟨#[116]⟩ : ByteArray),fRefs:=[] }:bJ)] rfl ⟨rfl,rfl,rfl,rfl,rfl,rfl,rfl,rfl,rfl,rfl,rfl,rfl,rfl,rfl,rfl,rfl,trivial⟩ rfl (fun _=>rfl) rfl ?_))
 refine rS (JK (tc:=aY) [1] rfl ⟨rfl,trivial⟩ rfl (fun _=>rfl) rfl ?_)
 refine QV rfl ?_; cases hF
 exact fq ⟨_,_,(aMJ (8,0) (902,880) rfl rfl (aMJ (9,0) (902,881) rfl rfl Ij)),_,rfl,rfl,⟨rfl,rfl,trivial⟩,(AgM.weak ⟨rfl,rfl,trivial⟩)⟩
def j8 (p0:ByteArray) (p1:Int):Option Int:=some (Go.Lib.indexByte p0.data.toList p1.toNat.toUInt8)
theorem uQ (p0:ByteArray) (p1:Int) (r:Int) (hF:j8 p0 p1 = some r):Fun Try.prog 73 true [] [.c (jS p0),.c (.imm (.sc (.int .u8 p1)))] aZ (cI r) aZ:=by
 cases hF
 refine Fun.of_plain [.string p0,.int .u8 p1] (.int .i64 (Go.Lib.indexByte p0.data.toList p1.toNat.toUInt8)) (fun w=>?_) rfl
 go_enter Try.func73,Try.ntmps73; go_wp2; rw [run_callFunc_extern Try.func75 (by kernel_rfl) (by kernel_rfl) (by kernel_rfl) (e:=Extern.BytealgIndexByte.indexByte) (by kernel_rfl),Go.Lib.run_indexByteString]
 simp only [Result.andThen]; rw [Oper.upon_value]; go_wp2; go_ret; exact ⟨rfl,rfl⟩
def d8 (p0:ByteArray) (p1:Int):Option Int :=
  ((j8 p0 p1).bind fun r1=>some r1)
theorem eQ (p0:ByteArray) (p1:Int) (r:Int) (hF:d8 p0 p1 = some r):Fun Try.prog 67 true [] [.c (jS p0),.c (.imm (.sc (.int .u8 p1)))] aZ (cI r) aZ:=by
 refine Fun.of_walk0 Try.func67 c67 (by kernel_rfl) (rs:=[.tmp 4]) (by kernel_rfl) ?_; unfold v67
 unfold d8 at hF
 refine wA rfl ?_; refine wC 2 rfl ?_; obtain ⟨r1,hr1,hF⟩:=bB hF
 refine rS (gj (uQ _ _ _ hr1) ⟨rfl,rfl,trivial⟩ rfl (.inl rfl) ?_); refine QV rfl ?_; cases hF
 exact fq wR
def nX (p0:Int):Option Bool :=
  (((bif (decide (97≤p0)) then (bif (decide (p0≤122)) then some true else (bif (decide (65≤p0)) then (bif (decide (p0≤90)) then some true else (bif (decide (48≤p0)) then (bif (decide (p0≤57)) then some true else ((d8 (⟨#[95,46,58,47,60,62,36,42,126,45]⟩ : ByteArray) p0).bind fun r23=>some (decide (0≤r23)))) else ((d8 (⟨#[95,46,58,47,60,62,36,42,126,45]⟩ : ByteArray) p0).bind fun r21=>some (decide (0≤r21))))) else (bif (decide (48≤p0)) then (bif (decide (p0≤57)) then some true else ((d8 (⟨#[95,46,58,47,60,62,36,42,126,45]⟩ : ByteArray) p0).bind fun r18=>some (decide (0≤r18)))) else ((d8 (⟨#[95,46,58,47,60,62,36,42,126,45]⟩ : ByteArray) p0).bind fun r16=>some (decide (0≤r16)))))) else (bif (decide (65≤p0)) then (bif (decide (p0≤90)) then some true else (bif (decide (48≤p0)) then (bif (decide (p0≤57)) then some true else ((d8 (⟨#[95,46,58,47,60,62,36,42,126,45]⟩ : ByteArray) p0).bind fun r12=>some (decide (0≤r12)))) else ((d8 (⟨#[95,46,58,47,60,62,36,42,126,45]⟩ : ByteArray) p0).bind fun r10=>some (decide (0≤r10))))) else (bif (decide (48≤p0)) then (bif (decide (p0≤57)) then some true else ((d8 (⟨#[95,46,58,47,60,62,36,42,126,45]⟩ : ByteArray) p0).bind fun r7=>some (decide (0≤r7)))) else ((d8 (⟨#[95,46,58,47,60,62,36,42,126,45]⟩ : ByteArray) p0).bind fun r5=>some (decide (0≤r5)))))):Option Bool).bind fun v1=>some v1)
theorem LQ (p0:Int) (r:Bool) (hF:nX p0 = some r):Fun Try.prog 56 true [] [.c (.imm (.sc (.int .u8 p0)))] aZ (cB r) aZ:=by
 refine Fun.of_walk0 Try.func56 c56 (by kernel_rfl) (rs:=[.tmp 2]) (by kernel_rfl) ?_; unfold v56
 unfold nX at hF
 refine wA rfl ?_; refine bK ?_; refine nq (fun _ _ h=>h) hF (fun v1=>[(2,cB v1)]) (fun v1=>[]) ?_ ?_
 · rintro v1 hF
   cases hF
   exact fq wR
 intro join hF
 refine wD 3 rfl ?_; cases h2:(decide (97≤p0))
 · have hF:=bF' h2 hF; refine bX SV 7 rfl ?_; cases h3:(decide (65≤p0))
   · have hF:=bF' h3 hF; refine bX SV 8 rfl ?_; cases h4:(decide (48≤p0))
     · have hF:=bF' h4 hF; refine bX SV 6 rfl ?_; obtain ⟨r5,hr5,hF⟩:=bB' hF
       refine dq SV rfl (gj (eQ _ _ _ hr5) ⟨rfl,rfl,trivial⟩ rfl (.inl rfl) ?_); refine QV rfl ?_; exact join (decide (0≤r5)) _ _ hF sw
     have hF:=bT' h4 hF; refine bX SV 5 rfl ?_; cases h6:(decide (p0≤57))
     · have hF:=bF' h6 hF; refine bX SV 1 rfl ?_; obtain ⟨r7,hr7,hF⟩:=bB' hF
       refine dq SV rfl (gj (eQ _ _ _ hr7) ⟨rfl,rfl,trivial⟩ rfl (.inl rfl) ?_); refine QV rfl ?_; exact join (decide (0≤r7)) _ _ hF sw
     have hF:=bT' h6 hF; refine QV rfl ?_; exact join true _ _ hF sw
   have hF:=bT' h3 hF; refine bX SV 5 rfl ?_; cases h8:(decide (p0≤90))
   · have hF:=bF' h8 hF; refine bX SV 3 rfl ?_; cases h9:(decide (48≤p0))
     · have hF:=bF' h9 hF; refine bX SV 6 rfl ?_; obtain ⟨r10,hr10,hF⟩:=bB' hF
       refine dq SV rfl (gj (eQ _ _ _ hr10) ⟨rfl,rfl,trivial⟩ rfl (.inl rfl) ?_); refine QV rfl ?_; exact join (decide (0≤r10)) _ _ hF sw
     have hF:=bT' h9 hF; refine bX SV 5 rfl ?_; cases h11:(decide (p0≤57))
     · have hF:=bF' h11 hF; refine bX SV 1 rfl ?_; obtain ⟨r12,hr12,hF⟩:=bB' hF
       refine dq SV rfl (gj (eQ _ _ _ hr12) ⟨rfl,rfl,trivial⟩ rfl (.inl rfl) ?_); refine QV rfl ?_; exact join (decide (0≤r12)) _ _ hF sw
     have hF:=bT' h11 hF; refine QV rfl ?_; exact join true _ _ hF sw
   have hF:=bT' h8 hF; refine QV rfl ?_; exact join true _ _ hF sw
 have hF:=bT' h2 hF; refine bX SV 4 rfl ?_; cases h13:(decide (p0≤122))
 · have hF:=bF' h13 hF; refine bX SV 3 rfl ?_; cases h14:(decide (65≤p0))
   · have hF:=bF' h14 hF; refine bX SV 8 rfl ?_; cases h15:(decide (48≤p0))
     · have hF:=bF' h15 hF; refine bX SV 6 rfl ?_; obtain ⟨r16,hr16,hF⟩:=bB' hF
       refine dq SV rfl (gj (eQ _ _ _ hr16) ⟨rfl,rfl,trivial⟩ rfl (.inl rfl) ?_); refine QV rfl ?_; exact join (decide (0≤r16)) _ _ hF sw
     have hF:=bT' h15 hF; refine bX SV 5 rfl ?_; cases h17:(decide (p0≤57))
     · have hF:=bF' h17 hF; refine bX SV 1 rfl ?_; obtain ⟨r18,hr18,hF⟩:=bB' hF
       refine dq SV rfl (gj (eQ _ _ _ hr18) ⟨rfl,rfl,trivial⟩ rfl (.inl rfl) ?_); refine QV rfl ?_; exact join (decide (0≤r18)) _ _ hF sw
     have hF:=bT' h17 hF; refine QV rfl ?_; exact join true _ _ hF sw
   have hF:=bT' h14 hF; refine bX SV 5 rfl ?_; cases h19:(decide (p0≤90))
   · have hF:=bF' h19 hF; refine bX SV 3 rfl ?_; cases h20:(decide (48≤p0))
     · have hF:=bF' h20 hF; refine bX SV 6 rfl ?_; obtain ⟨r21,hr21,hF⟩:=bB' hF
       refine dq SV rfl (gj (eQ _ _ _ hr21) ⟨rfl,rfl,trivial⟩ rfl (.inl rfl) ?_); refine QV rfl ?_; exact join (decide (0≤r21)) _ _ hF sw
     have hF:=bT' h20 hF; refine bX SV 5 rfl ?_; cases h22:(decide (p0≤57))
     · have hF:=bF' h22 hF; refine bX SV 1 rfl ?_; obtain ⟨r23,hr23,hF⟩:=bB' hF
       refine dq SV rfl (gj (eQ _ _ _ hr23) ⟨rfl,rfl,trivial⟩ rfl (.inl rfl) ?_); refine QV rfl ?_; exact join (decide (0≤r23)) _ _ hF sw
     have hF:=bT' h22 hF; refine QV rfl ?_; exact join true _ _ hF sw
   have hF:=bT' h19 hF; refine QV rfl ?_; exact join true _ _ hF sw
 have hF:=bT' h13 hF; refine QV rfl ?_; exact join true _ _ hF sw
def l8 (p0:ByteArray):Int→Option (Int ⊕ (Unit ⊕ Int)):=fun a13 =>
  (bif (decide (a13 < (ByteArray.size p0:Int))) then ((idx (ByteArray.data p0).toList a13).bind fun y18=>((nX (UInt8.toNat y18:Int)).bind fun r19=>(bif (!r19) then some (.inr (.inr 3)) else some (.inl (w64 (a13 + 1)))))) else some (.inr (.inl ())))
def kQ (p0:ByteArray):Option Int :=
  (((bif (decide (p0 = (⟨#[]⟩ : ByteArray))) then some true else some (decide (40 < (ByteArray.size p0:Int)))):Option Bool).bind fun v1=>(bif v1 then some 3 else ((loop (l8 p0) 0).bind fun | .inl _=>some 0 | .inr rv=>some rv)))
theorem OX (p0:ByteArray) (r:Int) (hF:kQ p0 = some r):Fun Try.prog 43 true [] [.c (jS p0)] aZ (cI r) aZ:=by
 refine Fun.of_walk0 Try.func43 c43 (by kernel_rfl) (rs:=[.tmp 2]) (by kernel_rfl) ?_; unfold v43
 unfold kQ at hF
 refine wA rfl ?_; refine bK ?_; refine bK ?_; refine nq (fun _ _ h=>h) hF (fun v1=>[(0,.c (jS p0)),(10,cB v1)]) (fun v1=>[]) ?_ ?_
 · rintro v1 hF
   refine wIf hF rfl (fun _ hF=>?_) fun _ hF=>?_
   · refine wA rfl ?_; cases hF
     exact fq wR
   refine dj ?_; refine bK ?_; refine wA rfl ?_; refine wK (fun _ _ h=>h) hF (.inl) (fun a13=>[(0,.c (jS p0)),(12,cI (ByteArray.size p0:Int)),(13,cI a13)]) (fun a13=>[]) (fun _=>[]) (fun _=>[]) sw ?_ ?_
   · rintro ⟨⟩ hF
     refine wA rfl ?_; cases hF
     exact fq wR
   rintro a13 x_0 hF cont_0 brk_0 fin_0
   unfold l8 at hF
   refine wA rfl ?_; refine bK ?_; refine wIf hF rfl (fun _ hF=>?_) fun _ hF=>?_
   · refine dj ?_; refine bK ?_; refine mQ ?_; refine wA rfl ?_; refine wC 2 rfl ?_; obtain ⟨y18,hy18,hF⟩:=bB hF
     refine rS (ayK p0 rfl rfl hy18 ?_); obtain ⟨r19,hr19,hF⟩:=bB hF
     refine rS (gj (LQ _ _ hr19) ⟨rfl,trivial⟩ rfl (.inl rfl) ?_); refine QV rfl ?_; refine wIf hF rfl (fun _ hF=>?_) fun _ hF=>?_
     · refine wA rfl ?_; have hF:=fin_0 _ (oi hF); cases hF
       exact fq wR
     refine dj ?_; refine wB rfl ?_; exact cont_0 _ _ _ (oi hF) sw
   refine qK ?_; refine bW ?_; refine bW ?_; refine fJ ?_; exact brk_0 _ _ _ (oi hF) sw
 intro join hF
 refine wD 3 rfl ?_; cases h23:(decide (p0 = (⟨#[]⟩ : ByteArray)))
 · have hF:=bF' h23 hF; refine QV rfl ?_; exact join (decide (40 < (ByteArray.size p0:Int))) _ _ hF sw
 have hF:=bT' h23 hF; refine QV rfl ?_; exact join true _ _ hF sw
def fW (p0:(List Int)) (p1:(List (Int × Int))):Int→Option (Int ⊕ (Unit ⊕ Int)):=fun a18 =>
  (bif (decide (a18 < (List.length p0:Int))) then ((idx p0 a18).bind fun y26=>(bif (!(Option.isSome (xJ y26 p1))) then some (.inr (.inr 5)) else (((bif (decide (0 < a18)) then ((idx p0 (w64 (a18 - 1))).bind fun y30=>some (decide (y26≤y30))) else some false):Option Bool).bind fun v27=>(bif v27 then some (.inr (.inr 11)) else some (.inl (w64 (a18 + 1))))))) else some (.inr (.inl ())))
def fY (p0:(List Int)) (p1:(List (Int × Int))):Option Int :=
  ((loop (fW p0 p1) 0).bind fun | .inl _=>some 0 | .inr rv=>some rv)
theorem rZ (p0:(List Int)) (p1:(List (Int × Int))) (r:Int) (hF:fY p0 p1 = some r):Fun Try.prog 44 false [(2760,0)] [cL 1 aY p0,cM (2760,0)] (aX [((2760,0),yX (.int .i64) kvI (fun y:Int=>(.one (tI y):MT)) p1)]) (cI r) (aX [((2760,0),yX (.int .i64) kvI (fun y:Int=>(.one (tI y):MT)) p1)]):=by
 refine Fun.of_walkM [(2760,0)] (some [(2760,0)]) Try.func44 c44 (by kernel_rfl) (rs:=[.tmp 4]) (by kernel_rfl) rfl rfl rfl ?_; unfold v44
 unfold fY at hF
 refine wA rfl ?_; refine bK ?_; refine wC 1 rfl ?_; refine rS (nZ (tc:=aY) p0 .tree ?_); refine QV rfl ?_; refine wK (fun _ _ h=>h) hF (.inl) (fun a18=>[(0,cL 1 aY p0),(1,cM (2760,0)),(9,cL 1 aY p0),(10,cI (List.length p0:Int)),(11,cI a18)]) (fun a18=>[((2760,0),yX (.int .i64) kvI (fun y:Int=>(.one (tI y):MT)) p1)]) (fun _=>[]) (fun _=>[((2760,0),yX (.int .i64) kvI (fun y:Int=>(.one (tI y):MT)) p1)]) sw ?_ ?_
 · rintro ⟨⟩ hF
   refine wA rfl ?_; cases hF
   exact fq ⟨_,_,Ij,_,rfl,rfl,⟨rfl,fun _=>rfl⟩,(AgM.weak ⟨rfl,trivial⟩)⟩
 rintro a18 x_0 hF cont_0 brk_0 fin_0
 unfold fW at hF
 refine wA rfl ?_; refine bK ?_; refine wIf hF rfl (fun _ hF=>?_) fun _ hF=>?_
 · refine dj ?_; refine bK ?_; refine mQ ?_; refine wC 1 rfl ?_; obtain ⟨y26,hy26,hF⟩:=bB hF
   refine rS (iJ (tc:=aY) p0 rfl rfl hy26 ?_); refine QV rfl ?_; refine bK ?_; refine wC 2 rfl ?_; refine rS (aFz (aQz .i64) (vv:=(fun y:Int=>(.one (tI y):MT))) p1 y26 0 (.own _ rfl) rfl rfl ?_)
   refine QV rfl ?_; refine wA rfl ?_; refine wIf hF rfl (fun _ hF=>?_) fun _ hF=>?_
   · refine wA rfl ?_; have hF:=fin_0 _ (oi hF); cases hF
     exact fq ⟨_,_,Ij,_,rfl,rfl,⟨rfl,fun _=>rfl⟩,(AgM.weak ⟨rfl,trivial⟩)⟩
   refine dj ?_; refine bK ?_; refine nq (fun _ _ h=>h) hF (fun v27=>[(0,cL 1 aY p0),(1,cM (2760,0)),(9,cL 1 aY p0),(10,cI (List.length p0:Int)),(11,cI a18),(34,cB v27)]) (fun v27=>[((2760,0),yX (.int .i64) kvI (fun y:Int=>(.one (tI y):MT)) p1)]) ?_ ?_
   · rintro v27 hF
     refine wIf hF rfl (fun _ hF=>?_) fun _ hF=>?_
     · refine wA rfl ?_; have hF:=fin_0 _ (oi hF); cases hF
       exact fq ⟨_,_,Ij,_,rfl,rfl,⟨rfl,fun _=>rfl⟩,(AgM.weak ⟨rfl,trivial⟩)⟩
     refine dj ?_; refine wB rfl ?_; exact cont_0 _ _ _ (oi hF) sw
   intro join hF
   refine wD 3 rfl ?_; cases h29:(decide (0 < a18))
   · have hF:=bF' h29 hF; refine QV rfl ?_; exact join false _ _ hF sw
   have hF:=bT' h29 hF; refine bX SV 4 rfl ?_; obtain ⟨y30,hy30,hF⟩:=bB' hF
   refine dq SV rfl (iJ (tc:=aY) p0 rfl rfl hy30 ?_); refine QV rfl ?_; exact join (decide (y26≤y30)) _ _ hF sw
 refine qK ?_; refine bW ?_; refine bW ?_; refine fJ ?_; exact brk_0 _ _ _ (oi hF) sw
def m5 (p0:api_Heap) (e64:(List (Int × Int))):Int→Option (Int ⊕ (Unit ⊕ Int)):=fun a76 =>
  (bif (decide (a76 < (List.length p0.fObjects:Int))) then ((idx p0.fObjects a76).bind fun y82=>((fY y82.fRefs e64).bind fun r83=>(bif (!decide (r83 = 0)) then some (.inr (.inr r83)) else some (.inl (w64 (a76 + 1)))))) else some (.inr (.inl ())))
def kK (p0:api_Heap):((List (Int × Int)) × Int)→Option (((List (Int × Int)) × Int) ⊕ ((List (Int × Int)) ⊕ Int)):=fun (a49,a50) =>
  (bif (decide (a50 < (List.length p0.fObjects:Int))) then ((idx p0.fObjects a50).bind fun y86=>(((bif (decide (y86.fId < 0)) then some true else (bif (decide (1000000000000000 < y86.fId)) then some true else (bif (decide (y86.fSize < 0)) then some true else some (decide (1000000000000 < y86.fSize))))):Option Bool).bind fun v87=>(bif v87 then some (.inr (.inr 2)) else ((kQ y86.fType).bind fun r88=>(bif (!decide (r88 = 0)) then some (.inr (.inr r88)) else (((bif (decide (0 < a50)) then ((idx p0.fObjects (w64 (a50 - 1))).bind fun y92=>some (decide (y86.fId≤y92.fId))) else some false):Option Bool).bind fun v89=>(bif v89 then some (.inr (.inr 11)) else some (.inl ((Jz y86.fId a50 a49),(w64 (a50 + 1))))))))))) else some (.inr (.inl a49)))
def mW (p0:api_Heap):(Int × Int)→Option ((Int × Int) ⊕ Int):=fun (a11,a12) =>
  (bif (decide (a12 < (List.length p0.fObjects:Int))) then ((idx p0.fObjects a12).bind fun y102=>some (.inl ((w64 (a11 + (List.length y102.fRefs:Int))),(w64 (a12 + 1))))) else some (.inr a11))
def gV (p0:api_Heap):Option Int :=
  ((loop (mW p0) (0,0)).bind fun e15=>(((bif (decide (5000 < (List.length p0.fObjects:Int))) then some true else (bif (decide (20000 < e15)) then some true else some (decide (5000 < (List.length p0.fRoots:Int))))):Option Bool).bind fun v16=>(bif v16 then some 7 else ((loop (kK p0) ([],0)).bind fun | .inl e64=>((loop (m5 p0 e64) 0).bind fun | .inl _=>((fY p0.fRoots e64).bind fun r81=>some r81) | .inr rv=>some rv) | .inr rv=>some rv))))
theorem H3 (p0:api_Heap) (r:Int) (hF:gV p0 = some r):Fun Try.prog 25 true [] [.agg [jL 4 ax p0.fObjects,jL 1 aY p0.fRoots]] aZ (cI r) aZ:=by
 refine Fun.of_walk0 Try.func25 c25 (by kernel_rfl) (rs:=[.tmp 2]) (by kernel_rfl) ?_; unfold v25
 unfold gV at hF
 refine wA rfl ?_; refine wA rfl ?_; refine bK ?_; refine wC 2 rfl ?_; refine rS (nZ (tc:=ax) p0.fObjects .tree ?_); refine QV rfl ?_; refine wK (fun _ _ h=>h) hF (id) (fun (a11,a12)=>[(1,cP (1,0) 0),(3,cI a11),(14,cL 4 ax p0.fObjects),(15,cI (List.length p0.fObjects:Int)),(16,cI a12)]) (fun (a11,a12)=>[((1,0),.box [jL 4 ax p0.fObjects,jL 1 aY p0.fRoots])]) (fun e15=>[(1,cP (1,0) 0),(3,cI e15)]) (fun e15=>[((1,0),.box [jL 4 ax p0.fObjects,jL 1 aY p0.fRoots])]) sw ?_ ?_
 · rintro e15 hF
   refine bK ?_; refine bK ?_; refine nq (fun _ _ h=>h) hF (fun v16=>[(1,cP (1,0) 0),(39,cB v16)]) (fun v16=>[((1,0),.box [jL 4 ax p0.fObjects,jL 1 aY p0.fRoots])]) ?_ ?_
   · rintro v16 hF
     refine wIf hF rfl (fun _ hF=>?_) fun _ hF=>?_
     · refine wA rfl ?_; cases hF
       exact fq wR
     refine dj ?_; refine wE ?_; refine rS (aGj (kd:=(.int .i64)) (kv:=kvI) (vv:=(fun y:Int=>(.one (tI y):MT))) rfl ?_)
     refine QV rfl ?_; refine bK ?_; refine wC 2 rfl ?_; refine rS (nZ (tc:=ax) p0.fObjects .tree ?_); refine QV rfl ?_; refine wK (fun _ _ h=>h) hF (.inl) (fun (a49,a50)=>[(1,cP (1,0) 0),(6,cM (40,0)),(42,cL 4 ax p0.fObjects),(43,cI (List.length p0.fObjects:Int)),(44,cI a50)]) (fun (a49,a50)=>[((1,0),.box [jL 4 ax p0.fObjects,jL 1 aY p0.fRoots]),((40,0),yX (.int .i64) kvI (fun y:Int=>(.one (tI y):MT)) a49)]) (fun e64=>[(1,cP (1,0) 0),(6,cM (40,0))]) (fun e64=>[((1,0),.box [jL 4 ax p0.fObjects,jL 1 aY p0.fRoots]),((40,0),yX (.int .i64) kvI (fun y:Int=>(.one (tI y):MT)) e64)]) sw ?_ ?_
     · rintro e64 hF
       refine bK ?_; refine wC 2 rfl ?_; refine rS (nZ (tc:=ax) p0.fObjects .tree ?_); refine QV rfl ?_; refine wK (fun _ _ h=>h) hF (.inl) (fun a76=>[(1,cP (1,0) 0),(6,cM (40,0)),(93,cL 4 ax p0.fObjects),(94,cI (List.length p0.fObjects:Int)),(95,cI a76)]) (fun a76=>[((1,0),.box [jL 4 ax p0.fObjects,jL 1 aY p0.fRoots]),((40,0),yX (.int .i64) kvI (fun y:Int=>(.one (tI y):MT)) e64)]) (fun _=>[(1,cP (1,0) 0),(6,cM (40,0))]) (fun _=>[((1,0),.box [jL 4 ax p0.fObjects,jL 1 aY p0.fRoots]),((40,0),yX (.int .i64) kvI (fun y:Int=>(.one (tI y):MT)) e64)]) sw ?_ ?_
       · rintro ⟨⟩ hF
         refine wC 3 rfl ?_; obtain ⟨r81,hr81,hF⟩:=bB hF
         refine rS (WY [((2760,0),(40,0))] rfl (rZ _ _ _ hr81) ⟨rfl,trivial⟩ rfl rfl (.inr ⟨.inl rfl,.inl rfl,trivial⟩) ?_); refine QV rfl ?_; cases hF
         exact fq wR
       rintro a76 x_0 hF cont_0 brk_0 fin_0
       unfold m5 at hF
       refine wA rfl ?_; refine bK ?_; refine wIf hF rfl (fun _ hF=>?_) fun _ hF=>?_
       · refine dj ?_; refine bK ?_; refine mQ ?_; refine wE ?_; obtain ⟨y82,hy82,hF⟩:=bB hF
         refine rS (iJ (tc:=ax) p0.fObjects rfl rfl hy82 ?_); refine QV rfl ?_; refine wC 3 rfl ?_; obtain ⟨r83,hr83,hF⟩:=bB hF
         refine rS (WY [((2760,0),(40,0))] rfl (rZ _ _ _ hr83) ⟨rfl,trivial⟩ rfl rfl (.inr ⟨.inl rfl,.inl rfl,trivial⟩) ?_); refine QV rfl ?_; refine wA rfl ?_; refine wIf hF rfl (fun _ hF=>?_) fun _ hF=>?_
         · refine wA rfl ?_; have hF:=fin_0 _ (oi hF); cases hF
           exact fq wR
         refine dj ?_; refine wB rfl ?_; exact cont_0 _ _ _ (oi hF) sw
       refine qK ?_; refine bW ?_; refine bW ?_; refine fJ ?_; exact brk_0 _ _ _ (oi hF) sw
     rintro ⟨a49,a50⟩ x_0 hF cont_0 brk_0 fin_0
     unfold kK at hF
     refine wA rfl ?_; refine bK ?_; refine wIf hF rfl (fun _ hF=>?_) fun _ hF=>?_
     · refine dj ?_; refine bK ?_; refine mQ ?_; refine wC 1 rfl ?_; obtain ⟨y86,hy86,hF⟩:=bB hF
       refine rS (iJ (tc:=ax) p0.fObjects rfl rfl hy86 ?_); refine QV rfl ?_; refine bK ?_; refine bK ?_; refine nq (fun _ _ h=>h) hF (fun v87=>[(1,cP (1,0) 0),(6,cM (40,0)),(7,cI a50),(8,cP (8,0) 0),(42,cL 4 ax p0.fObjects),(43,cI (List.length p0.fObjects:Int)),(44,cI a50),(66,cB v87)]) (fun v87=>[((1,0),.box [jL 4 ax p0.fObjects,jL 1 aY p0.fRoots]),((40,0),yX (.int .i64) kvI (fun y:Int=>(.one (tI y):MT)) a49),((8,0),.box (yW y86))]) ?_ ?_
       · rintro v87 hF
         refine wIf hF rfl (fun _ hF=>?_) fun _ hF=>?_
         · refine wA rfl ?_; have hF:=fin_0 _ (oi hF); cases hF
           exact fq wR
         refine dj ?_; refine bK ?_; refine wC 2 rfl ?_; obtain ⟨r88,hr88,hF⟩:=bB hF
         refine rS (gj (OX _ _ hr88) ⟨rfl,trivial⟩ rfl (.inl rfl) ?_); refine QV rfl ?_; refine wA rfl ?_; refine wIf hF rfl (fun _ hF=>?_) fun _ hF=>?_
         · refine wA rfl ?_; have hF:=fin_0 _ (oi hF); cases hF
           exact fq wR
         refine dj ?_; refine bK ?_; refine bK ?_; refine nq (fun _ _ h=>h) hF (fun v89=>[(1,cP (1,0) 0),(6,cM (40,0)),(7,cI a50),(8,cP (8,0) 0),(42,cL 4 ax p0.fObjects),(43,cI (List.length p0.fObjects:Int)),(44,cI a50),(86,cB v89)]) (fun v89=>[((1,0),.box [jL 4 ax p0.fObjects,jL 1 aY p0.fRoots]),((40,0),yX (.int .i64) kvI (fun y:Int=>(.one (tI y):MT)) a49),((8,0),.box (yW y86))]) ?_ ?_
         · rintro v89 hF
           refine wIf hF rfl (fun _ hF=>?_) fun _ hF=>?_
           · refine wA rfl ?_; have hF:=fin_0 _ (oi hF); cases hF
             exact fq wR
           refine dj ?_; refine wD 4 rfl ?_; refine rS (aNW (aQz .i64) (vv:=(fun y:Int=>(.one (tI y):MT))) a49 y86.fId a50 rfl rfl rfl rfl ?_)
           refine QV rfl ?_; refine wB rfl ?_; exact cont_0 _ _ _ (oi hF) sw
         intro join hF
         refine IQ (by decide) (by kernel_rfl) rfl ?_; refine bX SP 3 rfl ?_; cases h91:(decide (0 < a50))
         · have hF:=bF' h91 hF; refine QP rfl ?_; exact join false _ _ hF sw
         have hF:=bT' h91 hF; refine bX SP 6 rfl ?_; obtain ⟨y92,hy92,hF⟩:=bB' hF
         refine dq SP rfl (iJ (tc:=ax) p0.fObjects rfl rfl hy92 ?_); refine QP rfl ?_; exact join (decide (y86.fId≤y92.fId)) _ _ hF sw
       intro join hF
       refine wD 4 rfl ?_; cases h95:(decide (y86.fId < 0))
       · have hF:=bF' h95 hF; refine bX SV 5 rfl ?_; cases h96:(decide (1000000000000000 < y86.fId))
         · have hF:=bF' h96 hF; refine bX SV 5 rfl ?_; cases h97:(decide (y86.fSize < 0))
           · have hF:=bF' h97 hF; refine QV rfl ?_; exact join (decide (1000000000000 < y86.fSize)) _ _ hF sw
           have hF:=bT' h97 hF; refine QV rfl ?_; exact join true _ _ hF sw
         have hF:=bT' h96 hF; refine QV rfl ?_; exact join true _ _ hF sw
       have hF:=bT' h95 hF; refine QV rfl ?_; exact join true _ _ hF sw
     refine qK ?_; refine bW ?_; refine bW ?_; refine fJ ?_; exact brk_0 _ _ _ (oi hF) sw
   intro join hF
   refine wD 2 rfl ?_; refine rS (nZ (tc:=ax) p0.fObjects .tree ?_); refine bX SV 2 rfl ?_; cases h100:(decide (5000 < (List.length p0.fObjects:Int)))
   · have hF:=bF' h100 hF; refine bX SV 4 rfl ?_; cases h101:(decide (20000 < e15))
     · have hF:=bF' h101 hF; refine bX SV 2 rfl ?_; refine dq SV rfl (nZ (tc:=aY) p0.fRoots .tree ?_); refine QV rfl ?_; exact join (decide (5000 < (List.length p0.fRoots:Int))) _ _ hF sw
     have hF:=bT' h101 hF; refine QV rfl ?_; exact join true _ _ hF sw
   have hF:=bT' h100 hF; refine QV rfl ?_; exact join true _ _ hF sw
 rintro ⟨a11,a12⟩ x_0 hF cont_0 brk_0 fin_0
 unfold mW at hF
 refine wA rfl ?_; refine bK ?_; refine wIf hF rfl (fun _ hF=>?_) fun _ hF=>?_
 · refine dj ?_; refine bK ?_; refine mQ ?_; refine wE ?_; obtain ⟨y102,hy102,hF⟩:=bB hF
   refine rS (iJ (tc:=ax) p0.fObjects rfl rfl hy102 ?_); refine QV rfl ?_; refine wD 3 rfl ?_; refine rS (nZ (tc:=aY) y102.fRefs .tree ?_); refine QV rfl ?_; refine wB rfl ?_; exact cont_0 _ _ _ (oi hF) sw
 refine qK ?_; refine bW ?_; refine bW ?_; refine fJ ?_; exact brk_0 _ _ _ (oi hF) sw
def pJ (p0:bJ) (p1:Int):Option Bool :=
  some (decide (p0.fId = p1))
theorem Dz (p0:bJ) (p1:Int) (r:Bool) (hF:pJ p0 p1 = some r):Fun Try.prog 52 true [] [.agg (yW p0),.c (.ptrI [tI p1])] aZ (cB r) aZ:=by
 refine Fun.of_walk0 Try.func52 c52 (by kernel_rfl) (rs:=[.tmp 3]) (by kernel_rfl) ?_; unfold v52
 unfold pJ at hF
 refine wA rfl ?_; refine wA rfl ?_; cases hF
 exact fq wR
def cz (p0:(List bJ)) (p1_0:Int):Int→Option (Int ⊕ (Unit ⊕ Int)):=fun a12 =>
  (bif (decide (a12 < (List.length p0:Int))) then ((idx p0 a12).bind fun y17=>((pJ y17 p1_0).bind fun r18=>(bif r18 then some (.inr (.inr a12)) else some (.inl (w64 (a12 + 1)))))) else some (.inr (.inl ())))
def dY (p0:(List bJ)) (p1_0:Int):Option Int :=
  ((loop (cz p0 p1_0) 0).bind fun | .inl _=>some (-1) | .inr rv=>some rv)
theorem nJ (p0:(List bJ)) (p1_0:Int) (r:Int) (hF:dY p0 p1_0 = some r):Fun Try.prog 51 false [(3040,0)] [cL 4 ax p0,.c (.fn 52 [.ptr (3040,0)])] (aX [((3040,0),.box [jI p1_0])]) (cI r) (aX [((3040,0),.box [jI p1_0])]):=by
 refine Fun.of_walkM [(3040,0)] (some [(3040,0)]) Try.func51 c51 (by kernel_rfl) (rs:=[.tmp 4]) (by kernel_rfl) rfl rfl rfl ?_; unfold v51
 unfold dY at hF
 refine wA rfl ?_; refine bK ?_; refine wC 1 rfl ?_; refine rS (nZ (tc:=ax) p0 .tree ?_); refine QV rfl ?_; refine wK (fun _ _ h=>h) hF (.inl) (fun a12=>[(0,cL 4 ax p0),(1,.c (.fn 52 [.ptr (3040,0)])),(7,cI (List.length p0:Int)),(8,cI a12)]) (fun a12=>[((3040,0),.box [jI p1_0])]) (fun _=>[]) (fun _=>[((3040,0),.box [jI p1_0])]) sw ?_ ?_
 · rintro ⟨⟩ hF
   refine wA rfl ?_; cases hF
   exact fq ⟨_,_,Ij,_,rfl,rfl,⟨rfl,fun _=>rfl⟩,(AgM.weak ⟨rfl,trivial⟩)⟩
 rintro a12 x_0 hF cont_0 brk_0 fin_0
 unfold cz at hF
 refine wA rfl ?_; refine bK ?_; refine wIf hF rfl (fun _ hF=>?_) fun _ hF=>?_
 · refine dj ?_; refine bK ?_; refine mQ ?_; refine wA rfl ?_; refine wC 3 rfl ?_; obtain ⟨y17,hy17,hF⟩:=bB hF
   refine rS (iJ (tc:=ax) p0 rfl rfl hy17 ?_); refine bX SV 1 rfl ?_; obtain ⟨r18,hr18,hF⟩:=bB hF
   refine GZ trivial (aPY (aRK _ rfl aOx) (Dz _ _ _ hr18) ⟨⟨rfl,rfl,rfl,rfl,trivial⟩,⟨_,rfl,⟨rfl,trivial⟩⟩,trivial⟩ rfl (.inl rfl) ?_); refine QV rfl ?_; refine wIf hF rfl (fun _ hF=>?_) fun _ hF=>?_
   · refine wA rfl ?_; have hF:=fin_0 _ (oi hF); cases hF
     exact fq ⟨_,_,Ij,_,rfl,rfl,⟨rfl,fun _=>rfl⟩,(AgM.weak ⟨rfl,trivial⟩)⟩
   refine dj ?_; refine wB rfl ?_; exact cont_0 _ _ _ (oi hF) sw
 refine qK ?_; refine bW ?_; refine bW ?_; refine fJ ?_; exact brk_0 _ _ _ (oi hF) sw
def dJ (p0:api_Heap) (p1:Int):Option (Int × Bool) :=
  ((dY p0.fObjects p1).bind fun r1=>some ((max r1 0),(decide (0≤r1))))
theorem J3 (p0:api_Heap) (p1:Int) (r:(Int × Bool)) (hF:dJ p0 p1 = some r):Fun Try.prog 35 true [] [.agg [jL 4 ax p0.fObjects,jL 1 aY p0.fRoots],cI p1] aZ (.tup [cI r.1,cB r.2]) aZ:=by
 refine Fun.of_walk0 Try.func35 c35 (by kernel_rfl) (rs:=[.tmp 4,.tmp 5]) (by kernel_rfl) ?_; unfold v35
 unfold dJ at hF
 refine wA rfl ?_; refine wC 3 rfl ?_; obtain ⟨r1,hr1,hF⟩:=bB hF
 refine rS (WY [((3040,0),(3,0))] rfl (nJ _ _ _ hr1) ⟨rfl,trivial⟩ rfl rfl (.inr ⟨.inl rfl,.inl rfl,trivial⟩) ?_); refine QV rfl ?_; refine wA rfl ?_; cases hF
 exact fq ⟨_,rfl,rfl,⟨⟨rfl,fun _=>rfl⟩,⟨rfl,fun _=>rfl⟩,trivial⟩,aoW _⟩
def kz (p0:api_Heap):List Go.RM.HO:=p0.fObjects.map fun o=>⟨o.fId,o.fSize,o.fType,o.fRefs⟩
theorem vW (p0:api_Heap):V.agg [jL 4 ax p0.fObjects,jL 1 aY p0.fRoots] = Go.RM.tree51 (kz p0) p0.fRoots:=by
 unfold Go.RM.tree51 kz
 rw [List.map_map]; rfl
theorem i2 (p0:api_Heap):(kz p0).length = p0.fObjects.length:=List.length_map ..
theorem SY (p0:api_Heap) (e:Int) (he:gV p0 = some e):Go.RM.Base51 (kz p0) p0.fRoots e (dJ p0) :=
  ⟨by rw [← vW]; exact H3 p0 e he,fun id r h=>by rw [← vW]; exact J3 p0 id r h⟩
def rJ (p0:api_Heap):Option ((List Bool) × Int):=Go.RM.reachF (gV p0) (dJ p0) (kz p0) p0.fRoots
theorem F4 (p0:api_Heap) (r:((List Bool) × Int)) (hF:rJ p0 = some r):Fun Try.prog 11 true [] [.agg [jL 4 ax p0.fObjects,jL 1 aY p0.fRoots]] aZ (.tup [cL 1 nW r.1,cI r.2]) aZ:=by
 have h:=Go.RM.reachF_fun (SY p0) hF true; rw [← vW] at h; exact h
def mV (p0:api_Heap):Option ((List Int) × Int):=Go.RM.dominatorsF (gV p0) (dJ p0) (kz p0) p0.fRoots
theorem xW (p0:api_Heap) (r:((List Int) × Int)) (hF:mV p0 = some r):Fun Try.prog 15 true [] [.agg [jL 4 ax p0.fObjects,jL 1 aY p0.fRoots]] aZ (.tup [cL 1 aY r.1,cI r.2]) aZ:=by
 have h:=Go.RM.dominatorsF_fun (SY p0) hF true; rw [← vW] at h; exact h
def lY (p0:api_Heap):Option ((List Int) × Int):=Go.RM.retainedF (gV p0) (dJ p0) (kz p0) p0.fRoots
theorem BK (p0:api_Heap) (r:((List Int) × Int)) (hF:lY p0 = some r):Fun Try.prog 19 true [] [.agg [jL 4 ax p0.fObjects,jL 1 aY p0.fRoots]] aZ (.tup [cL 1 aY r.1,cI r.2]) aZ:=by
 have h:=Go.RM.retainedF_fun (SY p0) hF true; rw [← vW] at h; exact h
def LW (p0:api_Heap) (p1:Int):Option ((List Int) × Int):=Go.RM.pathF (gV p0) (dJ p0) (kz p0) p0.fRoots p1
theorem T5 (p0:api_Heap) (p1:Int) (r:((List Int) × Int)) (hF:LW p0 p1 = some r):Fun Try.prog 23 true [] [.agg [jL 4 ax p0.fObjects,jL 1 aY p0.fRoots],cI p1] aZ (.tup [cL 1 aY r.1,cI r.2]) aZ:=by
 have h:=Go.RM.pathF_fun (SY p0) hF true; rw [← vW] at h; exact h
def K3 (p0:api_Heap) (p1:Int):Option ((List Int) × Int):=Go.RM.topF (gV p0) (dJ p0) (kz p0) p0.fRoots p1
theorem XZ (p0:api_Heap) (p1:Int) (r:((List Int) × Int)) (hF:K3 p0 p1 = some r):Fun Try.prog 24 true [] [.agg [jL 4 ax p0.fObjects,jL 1 aY p0.fRoots],cI p1] aZ (.tup [cL 1 aY r.1,cI r.2]) aZ:=by
 have h:=Go.RM.topF_fun (SY p0) hF true; rw [← vW] at h; exact h
def uZ (p0:(List Int)) (p1:(List Int)):Int→Option (Int ⊕ (Unit ⊕ Bool)):=fun a12 =>
  (bif (decide (a12 < (List.length p0:Int))) then ((idx p0 a12).bind fun y17=>((idx p1 a12).bind fun y18=>(bif (!decide (y17 = y18)) then some (.inr (.inr false)) else some (.inl (w64 (a12 + 1)))))) else some (.inr (.inl ())))
def ij (p0:(List Int)) (p1:(List Int)):Option Bool :=
  (bif (!decide ((List.length p0:Int) = (List.length p1:Int))) then some false else ((loop (uZ p0 p1) 0).bind fun | .inl _=>some true | .inr rv=>some rv))
theorem kq (p0:(List Int)) (p1:(List Int)) (r:Bool) (hF:ij p0 p1 = some r):Fun Try.prog 17 true [] [cL 1 aY p0,cL 1 aY p1] aZ (cB r) aZ:=by
 refine Fun.of_walk0 Try.func17 c17 (by kernel_rfl) (rs:=[.tmp 4]) (by kernel_rfl) ?_; unfold v17
 unfold ij at hF
 refine wA rfl ?_; refine bK ?_; refine wC 1 rfl ?_; refine rS (nZ (tc:=aY) p0 .tree ?_); refine bX SV 1 rfl ?_; refine rS (nZ (tc:=aY) p1 .tree ?_); refine QV rfl ?_; refine wIf hF rfl (fun _ hF=>?_) fun _ hF=>?_
 · refine wA rfl ?_; cases hF
   exact fq wR
 refine dj ?_; refine bK ?_; refine wA rfl ?_; refine wK (fun _ _ h=>h) hF (.inl) (fun a12=>[(0,cL 1 aY p0),(1,cL 1 aY p1),(5,cI a12)]) (fun a12=>[]) (fun _=>[]) (fun _=>[]) sw ?_ ?_
 · rintro ⟨⟩ hF
   refine wA rfl ?_; cases hF
   exact fq wR
 rintro a12 x_0 hF cont_0 brk_0 fin_0
 unfold uZ at hF
 refine bK ?_; refine wC 2 rfl ?_; refine rS (nZ (tc:=aY) p0 .tree ?_); refine QV rfl ?_; refine wIf hF rfl (fun _ hF=>?_) fun _ hF=>?_
 · refine dj ?_; refine bK ?_; refine mQ ?_; refine bK ?_; refine IQ (by decide) (by kernel_rfl) rfl ?_; refine bX SP 2 rfl ?_; obtain ⟨y17,hy17,hF⟩:=bB hF
   refine dq SP trivial (iJ (tc:=aY) p0 rfl rfl hy17 ?_); refine bX SP 3 rfl ?_; obtain ⟨y18,hy18,hF⟩:=bB hF
   refine dq SP trivial (iJ (tc:=aY) p1 rfl rfl hy18 ?_); refine QP rfl ?_; refine wIf hF rfl (fun _ hF=>?_) fun _ hF=>?_
   · refine wA rfl ?_; have hF:=fin_0 _ (oi hF); cases hF
     exact fq wR
   refine dj ?_; refine wB rfl ?_; exact cont_0 _ _ _ (oi hF) sw
 refine qK ?_; refine bW ?_; refine bW ?_; refine fJ ?_; exact brk_0 _ _ _ (oi hF) sw
def iz  : Option Bool :=
  ((d7 ).bind fun r1=>((rJ r1).bind fun r2=>((d7 ).bind fun r3=>((mV r3).bind fun r4=>((d7 ).bind fun r5=>((lY r5).bind fun r6=>((d7 ).bind fun r7=>((LW r7 4).bind fun r8=>((d7 ).bind fun r9=>((K3 r9 2).bind fun r10=>(((bif (decide ((List.length r2.1:Int) = 4)) then ((idx r2.1 3).bind fun y13=>(bif y13 then (bif (decide (r2.2 = 0)) then ((ij r4.1 [(-1),0,0,0]).bind fun r16=>(bif r16 then (bif (decide (r4.2 = 0)) then ((ij r6.1 [40,10,10,10]).bind fun r19=>(bif r19 then (bif (decide (r6.2 = 0)) then ((ij r8.1 [1,2,4]).bind fun r22=>(bif r22 then (bif (decide (r8.2 = 0)) then ((ij r10.1 [1,2]).bind fun r25=>(bif r25 then some (decide (r10.2 = 0)) else some false)) else some false) else some false)) else some false) else some false)) else some false) else some false)) else some false) else some false)) else some false):Option Bool).bind fun v11=>some v11)))))))))))
theorem tZ  (r:Bool) (hF:iz  = some r):Fun Try.prog 10 true [] [] aZ (cB r) aZ:=by
 refine Fun.of_walk0 Try.func10 c10 (by kernel_rfl) (rs:=[.tmp 0]) (by kernel_rfl) ?_; unfold v10
 unfold iz at hF
 refine wA rfl ?_; refine wE ?_; obtain ⟨r1,hr1,hF⟩:=bB hF
 refine GZ trivial (KV [((902,880),(12,1)),((902,881),(12,2))] rfl (ZJ _) (fX _ hr1) trivial trivial rfl rfl rfl ?_); obtain ⟨r2,hr2,hF⟩:=bB hF
 refine rS (gj (F4 _ _ hr2) ⟨⟨⟨_,rfl⟩,⟨_,rfl⟩,trivial⟩,trivial⟩ rfl (.inl rfl) ?_); refine QV rfl ?_; refine wE ?_; obtain ⟨r3,hr3,hF⟩:=bB hF
 refine GZ trivial (KV [((902,880),(17,1)),((902,881),(17,2))] rfl (ZJ _) (fX _ hr3) trivial trivial rfl rfl rfl ?_); obtain ⟨r4,hr4,hF⟩:=bB hF
 refine rS (gj (xW _ _ hr4) ⟨⟨⟨_,rfl⟩,⟨_,rfl⟩,trivial⟩,trivial⟩ rfl (.inl rfl) ?_); refine QV rfl ?_; refine wE ?_; obtain ⟨r5,hr5,hF⟩:=bB hF
 refine GZ trivial (KV [((902,880),(22,1)),((902,881),(22,2))] rfl (ZJ _) (fX _ hr5) trivial trivial rfl rfl rfl ?_); obtain ⟨r6,hr6,hF⟩:=bB hF
 refine rS (gj (BK _ _ hr6) ⟨⟨⟨_,rfl⟩,⟨_,rfl⟩,trivial⟩,trivial⟩ rfl (.inl rfl) ?_); refine QV rfl ?_; refine wE ?_; obtain ⟨r7,hr7,hF⟩:=bB hF
 refine GZ trivial (KV [((902,880),(27,1)),((902,881),(27,2))] rfl (ZJ _) (fX _ hr7) trivial trivial rfl rfl rfl ?_); obtain ⟨r8,hr8,hF⟩:=bB hF
 refine rS (gj (T5 _ _ _ hr8) ⟨⟨⟨_,rfl⟩,⟨_,rfl⟩,trivial⟩,rfl,trivial⟩ rfl (.inl rfl) ?_); refine QV rfl ?_; refine wE ?_; obtain ⟨r9,hr9,hF⟩:=bB hF
 refine GZ trivial (KV [((902,880),(32,1)),((902,881),(32,2))] rfl (ZJ _) (fX _ hr9) trivial trivial rfl rfl rfl ?_); obtain ⟨r10,hr10,hF⟩:=bB hF
 refine rS (gj (XZ _ _ _ hr10) ⟨⟨⟨_,rfl⟩,⟨_,rfl⟩,trivial⟩,rfl,trivial⟩ rfl (.inl rfl) ?_); refine QV rfl ?_; refine bK ?_; refine nq (fun _ _ h=>h) hF (fun v11=>[(0,cB v11)]) (fun v11=>[]) ?_ ?_
 · rintro v11 hF
   cases hF
   exact fq wR
 intro join hF
 refine wD 1 rfl ?_; refine rS (nZ (tc:=nW) r2.1 .tree ?_); refine bX SV 2 rfl ?_; cases h12:(decide ((List.length r2.1:Int) = 4))
 · have hF:=bF' h12 hF; refine QV rfl ?_; exact join false _ _ hF sw
 have hF:=bT' h12 hF; refine bX SV 1 rfl ?_; obtain ⟨y13,hy13,hF⟩:=bB' hF
 refine dq SV rfl (iJ (tc:=nW) r2.1 rfl rfl hy13 ?_); refine bX SV 3 rfl ?_; cases h14:y13
 · have hF:=bF' h14 hF; refine QV rfl ?_; exact join false _ _ hF sw
 have hF:=bT' h14 hF; refine bX SV 4 rfl ?_; cases h15:(decide (r2.2 = 0))
 · have hF:=bF' h15 hF; refine QV rfl ?_; exact join false _ _ hF sw
 have hF:=bT' h15 hF; refine bX SV 1 rfl ?_; refine dq SV rfl (JK (tc:=aY) [(-1),0,0,0] rfl ⟨rfl,rfl,rfl,rfl,trivial⟩ rfl (fun _=>rfl) rfl ?_)
 obtain ⟨r16,hr16,hF⟩:=bB' hF
 refine dq SV rfl (gj (kq _ _ _ hr16) ⟨rfl,⟨_,rfl⟩,trivial⟩ rfl (.inl rfl) ?_); refine bX SV 2 rfl ?_; cases h17:r16
 · have hF:=bF' h17 hF; refine QV rfl ?_; exact join false _ _ hF sw
 have hF:=bT' h17 hF; refine bX SV 4 rfl ?_; cases h18:(decide (r4.2 = 0))
 · have hF:=bF' h18 hF; refine QV rfl ?_; exact join false _ _ hF sw
 have hF:=bT' h18 hF; refine bX SV 1 rfl ?_; refine dq SV rfl (JK (tc:=aY) [40,10,10,10] rfl ⟨rfl,rfl,rfl,rfl,trivial⟩ rfl (fun _=>rfl) rfl ?_)
 obtain ⟨r19,hr19,hF⟩:=bB' hF
 refine dq SV rfl (gj (kq _ _ _ hr19) ⟨rfl,⟨_,rfl⟩,trivial⟩ rfl (.inl rfl) ?_); refine bX SV 2 rfl ?_; cases h20:r19
 · have hF:=bF' h20 hF; refine QV rfl ?_; exact join false _ _ hF sw
 have hF:=bT' h20 hF; refine bX SV 4 rfl ?_; cases h21:(decide (r6.2 = 0))
 · have hF:=bF' h21 hF; refine QV rfl ?_; exact join false _ _ hF sw
 have hF:=bT' h21 hF; refine bX SV 1 rfl ?_; refine dq SV rfl (JK (tc:=aY) [1,2,4] rfl ⟨rfl,rfl,rfl,trivial⟩ rfl (fun _=>rfl) rfl ?_)
 obtain ⟨r22,hr22,hF⟩:=bB' hF
 refine dq SV rfl (gj (kq _ _ _ hr22) ⟨rfl,⟨_,rfl⟩,trivial⟩ rfl (.inl rfl) ?_); refine bX SV 2 rfl ?_; cases h23:r22
 · have hF:=bF' h23 hF; refine QV rfl ?_; exact join false _ _ hF sw
 have hF:=bT' h23 hF; refine bX SV 4 rfl ?_; cases h24:(decide (r8.2 = 0))
 · have hF:=bF' h24 hF; refine QV rfl ?_; exact join false _ _ hF sw
 have hF:=bT' h24 hF; refine bX SV 1 rfl ?_; refine dq SV rfl (JK (tc:=aY) [1,2] rfl ⟨rfl,rfl,trivial⟩ rfl (fun _=>rfl) rfl ?_)
 obtain ⟨r25,hr25,hF⟩:=bB' hF
 refine dq SV rfl (gj (kq _ _ _ hr25) ⟨rfl,⟨_,rfl⟩,trivial⟩ rfl (.inl rfl) ?_); refine bX SV 2 rfl ?_; cases h26:r25
 · have hF:=bF' h26 hF; refine QV rfl ?_; exact join false _ _ hF sw
 have hF:=bT' h26 hF; refine QV rfl ?_; exact join (decide (r10.2 = 0)) _ _ hF sw
def i3 (p0:api_Heap) (r3:((List Int) × Int)) (r4:((List Int) × Int)) (a140:Int):(Int × Int)→Option ((Int × Int) ⊕ Int):=fun (a224,a225) =>
  (bif (decide (a225 < (List.length p0.fObjects:Int))) then ((((idx r4.1 a225).bind fun y263=>(bif (decide (y263 = a140)) then ((idx r3.1 a225).bind fun y264=>some (w64 (a224 + y264))) else some a224)):Option Int).bind fun v262=>some (.inl (v262,(w64 (a225 + 1))))) else some (.inr a224))
def i6 (p0:api_Heap) (r3:((List Int) × Int)) (r4:((List Int) × Int)) (r5:((List Bool) × Int)):(Int × Int × Int)→Option ((Int × Int × Int) ⊕ ((Int × Int) ⊕ Bool)):=fun (a138,a139,a140) =>
  (bif (decide (a140 < (List.length p0.fObjects:Int))) then ((idx p0.fObjects a140).bind fun y207=>((loop (i3 p0 r3 r4 a140) (y207.fSize,0)).bind fun e231=>((((idx r5.1 a140).bind fun y242=>(bif y242 then ((idx r3.1 a140).bind fun y252=>(bif (!decide (y252 = e231)) then some true else ((idx r5.1 a140).bind fun y254=>(bif (!y254) then ((idx r3.1 a140).bind fun y258=>(bif (!decide (y258 = 0)) then some true else ((idx r5.1 a140).bind fun y260=>((idx r4.1 a140).bind fun y261=>some (decide (y260 = (!decide (y261 = (-2)))) != true))))) else ((idx r5.1 a140).bind fun y256=>((idx r4.1 a140).bind fun y257=>some (decide (y256 = (!decide (y257 = (-2)))) != true))))))) else ((idx r5.1 a140).bind fun y244=>(bif (!y244) then ((idx r3.1 a140).bind fun y248=>(bif (!decide (y248 = 0)) then some true else ((idx r5.1 a140).bind fun y250=>((idx r4.1 a140).bind fun y251=>some (decide (y250 = (!decide (y251 = (-2)))) != true))))) else ((idx r5.1 a140).bind fun y246=>((idx r4.1 a140).bind fun y247=>some (decide (y246 = (!decide (y247 = (-2)))) != true))))))):Option Bool).bind fun v232=>(bif v232 then some (.inr (.inr false)) else ((idx r5.1 a140).bind fun y233=>(((bif y233 then ((idx p0.fObjects a140).bind fun y239=>some (w64 (a138 + y239.fSize))) else some a138):Option Int).bind fun v234=>((idx r4.1 a140).bind fun y235=>(((bif (decide (y235 = (-1))) then ((idx r3.1 a140).bind fun y237=>some (w64 (a139 + y237))) else some a139):Option Int).bind fun v236=>some (.inl (v234,v236,(w64 (a140 + 1)))))))))))) else some (.inr (.inl (a138,a139))))
def eV (p0:api_Heap):Option Bool :=
  ((((mj p0).bind fun r275=>(bif (!r275) then some true else ((kJ p0).bind fun r277=>some (!decide (r277 = 0))))):Option Bool).bind fun v1=>(bif v1 then ((iz ).bind fun r2=>some r2) else ((lY p0).bind fun r3=>((mV p0).bind fun r4=>((rJ p0).bind fun r5=>(((bif (!decide (r3.2 = 0)) then some true else (bif (!decide (r4.2 = 0)) then some true else (bif (!decide (r5.2 = 0)) then some true else (bif (!decide ((List.length r3.1:Int) = (List.length p0.fObjects:Int))) then some true else (bif (!decide ((List.length r4.1:Int) = (List.length p0.fObjects:Int))) then some true else some (!decide ((List.length r5.1:Int) = (List.length p0.fObjects:Int)))))))):Option Bool).bind fun v6=>(bif v6 then some false else ((loop (i6 p0 r3 r4 r5) (0,0,0)).bind fun | .inl (e202,e203)=>(((bif (decide (e202 = e203)) then ((iz ).bind fun r206=>some r206) else some false):Option Bool).bind fun v204=>some v204) | .inr rv=>some rv))))))))
theorem y7 (p0:api_Heap) (r:Bool) (hF:eV p0 = some r):Fun Try.prog 8 true [] [.agg [jL 4 ax p0.fObjects,jL 1 aY p0.fRoots]] aZ (cB r) aZ:=by
 refine Fun.of_walk0 Try.func8 c8 (by kernel_rfl) (rs:=[.tmp 2]) (by kernel_rfl) ?_; unfold v8
 unfold eV at hF
 refine wA rfl ?_; refine bK ?_; refine bK ?_; refine nq (fun _ _ h=>h) hF (fun v1=>[(1,cP (1,0) 0),(22,cB v1)]) (fun v1=>[((1,0),.box [jL 4 ax p0.fObjects,jL 1 aY p0.fRoots])]) ?_ ?_
 · rintro v1 hF
   refine wIf hF rfl (fun _ hF=>?_) fun _ hF=>?_
   · refine wE ?_; obtain ⟨r2,hr2,hF⟩:=bB hF
     refine rS (gj (tZ _ hr2) trivial rfl (.inl rfl) ?_); refine QV rfl ?_; cases hF
     exact fq wR
   refine dj ?_; refine wC 1 rfl ?_; obtain ⟨r3,hr3,hF⟩:=bB hF
   refine rS (gj (BK _ _ hr3) ⟨⟨rfl,rfl,trivial⟩,trivial⟩ rfl (.inl rfl) ?_); refine QV rfl ?_; refine wC 1 rfl ?_; obtain ⟨r4,hr4,hF⟩:=bB hF
   refine rS (gj (xW _ _ hr4) ⟨⟨rfl,rfl,trivial⟩,trivial⟩ rfl (.inl rfl) ?_); refine QV rfl ?_; refine wC 1 rfl ?_; obtain ⟨r5,hr5,hF⟩:=bB hF
   refine rS (gj (F4 _ _ hr5) ⟨⟨rfl,rfl,trivial⟩,trivial⟩ rfl (.inl rfl) ?_); refine QV rfl ?_; refine wC 2 rfl ?_; refine rS (nZ (tc:=ax) p0.fObjects .tree ?_); refine QV rfl ?_
   refine bK ?_; refine bK ?_; refine nq (fun _ _ h=>h) hF (fun v6=>[(1,cP (1,0) 0),(3,cL 1 aY r3.1),(5,cL 1 aY r4.1),(7,cL 1 nW r5.1),(9,cI (List.length p0.fObjects:Int)),(69,cB v6)]) (fun v6=>[((1,0),.box [jL 4 ax p0.fObjects,jL 1 aY p0.fRoots])]) ?_ ?_
   · rintro v6 hF
     refine wIf hF rfl (fun _ hF=>?_) fun _ hF=>?_
     · refine wA rfl ?_; cases hF
       exact fq wR
     refine dj ?_; refine wA rfl ?_; refine bK ?_; refine wA rfl ?_; refine wK (fun _ _ h=>h) hF (.inl) (fun (a138,a139,a140)=>[(1,cP (1,0) 0),(3,cL 1 aY r3.1),(5,cL 1 aY r4.1),(7,cL 1 nW r5.1),(9,cI (List.length p0.fObjects:Int)),(10,cI a138),(11,cI a139),(12,cI a140)]) (fun (a138,a139,a140)=>[((1,0),.box [jL 4 ax p0.fObjects,jL 1 aY p0.fRoots])]) (fun (e202,e203)=>[(10,cI e202),(11,cI e203)]) (fun (e202,e203)=>[]) sw ?_ ?_
     · rintro ⟨e202,e203⟩ hF
       refine bK ?_; refine nq (fun _ _ h=>h) hF (fun v204=>[(2,cB v204)]) (fun v204=>[]) ?_ ?_
       · rintro v204 hF
         cases hF
         exact fq wR
       intro join hF
       refine wD 4 rfl ?_; cases h205:(decide (e202 = e203))
       · have hF:=bF' h205 hF; refine QV rfl ?_; exact join false _ _ hF sw
       have hF:=bT' h205 hF; obtain ⟨r206,hr206,hF⟩:=bB' hF
       refine dq SV rfl (gj (tZ _ hr206) trivial rfl (.inl rfl) ?_); refine QV rfl ?_; exact join r206 _ _ hF sw
     rintro ⟨a138,a139,a140⟩ x_0 hF cont_0 brk_0 fin_0
     unfold i6 at hF
     refine bK ?_; refine wA rfl ?_; refine wIf hF rfl (fun _ hF=>?_) fun _ hF=>?_
     · refine dj ?_; refine bK ?_; refine mQ ?_; refine wC 3 rfl ?_; obtain ⟨y207,hy207,hF⟩:=bB hF
       refine rS (iJ (tc:=ax) p0.fObjects rfl rfl hy207 ?_); refine QV rfl ?_; refine bK ?_; refine wA rfl ?_; refine wK (fun _ _ h=>h) hF (id) (fun (a224,a225)=>[(1,cP (1,0) 0),(3,cL 1 aY r3.1),(5,cL 1 aY r4.1),(7,cL 1 nW r5.1),(9,cI (List.length p0.fObjects:Int)),(10,cI a138),(11,cI a139),(12,cI a140),(13,cI a224),(14,cI a225)]) (fun (a224,a225)=>[((1,0),.box [jL 4 ax p0.fObjects,jL 1 aY p0.fRoots])]) (fun e231=>[(1,cP (1,0) 0),(3,cL 1 aY r3.1),(5,cL 1 aY r4.1),(7,cL 1 nW r5.1),(9,cI (List.length p0.fObjects:Int)),(10,cI a138),(11,cI a139),(12,cI a140),(13,cI e231)]) (fun e231=>[((1,0),.box [jL 4 ax p0.fObjects,jL 1 aY p0.fRoots])]) sw ?_ ?_
       · rintro e231 hF
         refine bK ?_; refine bK ?_; refine nq (fun _ _ h=>h) hF (fun v232=>[(1,cP (1,0) 0),(3,cL 1 aY r3.1),(5,cL 1 aY r4.1),(7,cL 1 nW r5.1),(9,cI (List.length p0.fObjects:Int)),(10,cI a138),(11,cI a139),(12,cI a140),(135,cB v232)]) (fun v232=>[((1,0),.box [jL 4 ax p0.fObjects,jL 1 aY p0.fRoots])]) ?_ ?_
         · rintro v232 hF
           refine wIf hF rfl (fun _ hF=>?_) fun _ hF=>?_
           · refine wA rfl ?_; have hF:=fin_0 _ (oi hF); cases hF
             exact fq wR
           refine dj ?_; refine bK ?_; refine wC 2 rfl ?_; obtain ⟨y233,hy233,hF⟩:=bB hF
           refine rS (iJ (tc:=nW) r5.1 rfl rfl hy233 ?_); refine QV rfl ?_; refine nq (fun _ _ h=>h) hF (fun v234=>[(1,cP (1,0) 0),(3,cL 1 aY r3.1),(5,cL 1 aY r4.1),(7,cL 1 nW r5.1),(9,cI (List.length p0.fObjects:Int)),(10,cI v234),(11,cI a139),(12,cI a140)]) (fun v234=>[((1,0),.box [jL 4 ax p0.fObjects,jL 1 aY p0.fRoots])]) ?_ ?_
           · rintro v234 hF
             refine wC 2 rfl ?_; obtain ⟨y235,hy235,hF⟩:=bB hF
             refine rS (iJ (tc:=aY) r4.1 rfl rfl hy235 ?_); refine QV rfl ?_; refine nq (fun _ _ h=>h) hF (fun v236=>[(1,cP (1,0) 0),(3,cL 1 aY r3.1),(5,cL 1 aY r4.1),(7,cL 1 nW r5.1),(9,cI (List.length p0.fObjects:Int)),(10,cI v234),(11,cI v236),(12,cI a140)]) (fun v236=>[((1,0),.box [jL 4 ax p0.fObjects,jL 1 aY p0.fRoots])]) ?_ ?_
             · rintro v236 hF
               refine wB rfl ?_; exact cont_0 _ _ _ (oi hF) sw
             intro join hF
             refine aNJ hF rfl (fun _ hF=>?_) fun _ hF=>?_
             · refine wD 3 rfl ?_; obtain ⟨y237,hy237,hF⟩:=bB' hF
               refine rS (iJ (tc:=aY) r3.1 rfl rfl hy237 ?_); refine QV rfl ?_; exact join (w64 (a139 + y237)) _ _ hF sw
             refine dj ?_; exact join a139 _ _ hF sw
           intro join hF
           refine aNJ hF rfl (fun _ hF=>?_) fun _ hF=>?_
           · refine wD 4 rfl ?_; obtain ⟨y239,hy239,hF⟩:=bB' hF
             refine rS (iJ (tc:=ax) p0.fObjects rfl rfl hy239 ?_); refine QV rfl ?_; exact join (w64 (a138 + y239.fSize)) _ _ hF sw
           refine dj ?_; exact join a138 _ _ hF sw
         intro join hF
         refine IQ (by decide) (by kernel_rfl) rfl ?_; refine bX SP 2 rfl ?_; obtain ⟨y242,hy242,hF⟩:=bB' hF
         refine dq SP trivial (iJ (tc:=nW) r5.1 rfl rfl hy242 ?_); refine bX SP 2 rfl ?_; cases h243:y242
         · have hF:=bF' h243 hF; refine bX SP 10 rfl ?_; obtain ⟨y244,hy244,hF⟩:=bB' hF
           refine dq SP rfl (iJ (tc:=nW) r5.1 rfl rfl hy244 ?_); refine bX SP 3 rfl ?_; cases h245:(!y244)
           · have hF:=bF' h245 hF; refine bX SP 10 rfl ?_; obtain ⟨y246,hy246,hF⟩:=bB' hF
             refine dq SP rfl (iJ (tc:=nW) r5.1 rfl rfl hy246 ?_); refine bX SP 3 rfl ?_; obtain ⟨y247,hy247,hF⟩:=bB' hF
             refine dq SP rfl (iJ (tc:=aY) r4.1 rfl rfl hy247 ?_); refine QP rfl ?_; exact join (decide (y246 = (!decide (y247 = (-2)))) != true) _ _ hF sw
           have hF:=bT' h245 hF; refine bX SP 2 rfl ?_; obtain ⟨y248,hy248,hF⟩:=bB' hF
           refine dq SP rfl (iJ (tc:=aY) r3.1 rfl rfl hy248 ?_); refine bX SP 5 rfl ?_; cases h249:(!decide (y248 = 0))
           · have hF:=bF' h249 hF; refine bX SP 2 rfl ?_; obtain ⟨y250,hy250,hF⟩:=bB' hF
             refine dq SP rfl (iJ (tc:=nW) r5.1 rfl rfl hy250 ?_); refine bX SP 3 rfl ?_; obtain ⟨y251,hy251,hF⟩:=bB' hF
             refine dq SP rfl (iJ (tc:=aY) r4.1 rfl rfl hy251 ?_); refine QP rfl ?_; exact join (decide (y250 = (!decide (y251 = (-2)))) != true) _ _ hF sw
           have hF:=bT' h249 hF; refine QP rfl ?_; exact join true _ _ hF sw
         have hF:=bT' h243 hF; refine bX SP 2 rfl ?_; obtain ⟨y252,hy252,hF⟩:=bB' hF
         refine dq SP rfl (iJ (tc:=aY) r3.1 rfl rfl hy252 ?_); refine bX SP 5 rfl ?_; cases h253:(!decide (y252 = e231))
         · have hF:=bF' h253 hF; refine bX SP 2 rfl ?_; obtain ⟨y254,hy254,hF⟩:=bB' hF
           refine dq SP rfl (iJ (tc:=nW) r5.1 rfl rfl hy254 ?_); refine bX SP 3 rfl ?_; cases h255:(!y254)
           · have hF:=bF' h255 hF; refine bX SP 10 rfl ?_; obtain ⟨y256,hy256,hF⟩:=bB' hF
             refine dq SP rfl (iJ (tc:=nW) r5.1 rfl rfl hy256 ?_); refine bX SP 3 rfl ?_; obtain ⟨y257,hy257,hF⟩:=bB' hF
             refine dq SP rfl (iJ (tc:=aY) r4.1 rfl rfl hy257 ?_); refine QP rfl ?_; exact join (decide (y256 = (!decide (y257 = (-2)))) != true) _ _ hF sw
           have hF:=bT' h255 hF; refine bX SP 2 rfl ?_; obtain ⟨y258,hy258,hF⟩:=bB' hF
           refine dq SP rfl (iJ (tc:=aY) r3.1 rfl rfl hy258 ?_); refine bX SP 5 rfl ?_; cases h259:(!decide (y258 = 0))
           · have hF:=bF' h259 hF; refine bX SP 2 rfl ?_; obtain ⟨y260,hy260,hF⟩:=bB' hF
             refine dq SP rfl (iJ (tc:=nW) r5.1 rfl rfl hy260 ?_); refine bX SP 3 rfl ?_; obtain ⟨y261,hy261,hF⟩:=bB' hF
             refine dq SP rfl (iJ (tc:=aY) r4.1 rfl rfl hy261 ?_); refine QP rfl ?_; exact join (decide (y260 = (!decide (y261 = (-2)))) != true) _ _ hF sw
           have hF:=bT' h259 hF; refine QP rfl ?_; exact join true _ _ hF sw
         have hF:=bT' h253 hF; refine QP rfl ?_; exact join true _ _ hF sw
       rintro ⟨a224,a225⟩ x_1 hF cont_1 brk_1 fin_1
       unfold i3 at hF
       refine bK ?_; refine wA rfl ?_; refine wIf hF rfl (fun _ hF=>?_) fun _ hF=>?_
       · refine dj ?_; refine bK ?_; refine nq (fun _ _ h=>h) hF (fun v262=>[(1,cP (1,0) 0),(3,cL 1 aY r3.1),(5,cL 1 aY r4.1),(7,cL 1 nW r5.1),(9,cI (List.length p0.fObjects:Int)),(10,cI a138),(11,cI a139),(12,cI a140),(13,cI v262),(14,cI a225)]) (fun v262=>[((1,0),.box [jL 4 ax p0.fObjects,jL 1 aY p0.fRoots])]) ?_ ?_
         · rintro v262 hF
           refine wB rfl ?_; exact cont_1 _ _ _ (oi hF) sw
         intro join hF
         refine mQ ?_; refine wC 2 rfl ?_; obtain ⟨y263,hy263,hF⟩:=bB' hF
         refine rS (iJ (tc:=aY) r4.1 rfl rfl hy263 ?_); refine QV rfl ?_; refine aNJ hF rfl (fun _ hF=>?_) fun _ hF=>?_
         · refine wD 3 rfl ?_; obtain ⟨y264,hy264,hF⟩:=bB' hF
           refine rS (iJ (tc:=aY) r3.1 rfl rfl hy264 ?_); refine QV rfl ?_; exact join (w64 (a224 + y264)) _ _ hF sw
         refine dj ?_; exact join a224 _ _ hF sw
       refine qK ?_; refine bW ?_; refine bW ?_; refine fJ ?_; exact brk_1 _ _ _ (oi hF) sw
     refine qK ?_; refine bW ?_; refine bW ?_; refine fJ ?_; exact brk_0 _ _ _ (oi hF) sw
   intro join hF
   refine wD 3 rfl ?_; cases h269:(!decide (r3.2 = 0))
   · have hF:=bF' h269 hF; refine bX SV 4 rfl ?_; cases h270:(!decide (r4.2 = 0))
     · have hF:=bF' h270 hF; refine bX SV 4 rfl ?_; cases h271:(!decide (r5.2 = 0))
       · have hF:=bF' h271 hF; refine bX SV 1 rfl ?_; refine dq SV rfl (nZ (tc:=aY) r3.1 .tree ?_); refine bX SV 4 rfl ?_; cases h272:(!decide ((List.length r3.1:Int) = (List.length p0.fObjects:Int)))
         · have hF:=bF' h272 hF; refine bX SV 1 rfl ?_; refine dq SV rfl (nZ (tc:=aY) r4.1 .tree ?_); refine bX SV 4 rfl ?_; cases h273:(!decide ((List.length r4.1:Int) = (List.length p0.fObjects:Int)))
           · have hF:=bF' h273 hF; refine bX SV 1 rfl ?_; refine dq SV rfl (nZ (tc:=nW) r5.1 .tree ?_); refine QV rfl ?_; exact join (!decide ((List.length r5.1:Int) = (List.length p0.fObjects:Int))) _ _ hF sw
           have hF:=bT' h273 hF; refine QV rfl ?_; exact join true _ _ hF sw
         have hF:=bT' h272 hF; refine QV rfl ?_; exact join true _ _ hF sw
       have hF:=bT' h271 hF; refine QV rfl ?_; exact join true _ _ hF sw
     have hF:=bT' h270 hF; refine QV rfl ?_; exact join true _ _ hF sw
   have hF:=bT' h269 hF; refine QV rfl ?_; exact join true _ _ hF sw
 intro join hF
 refine wD 1 rfl ?_; obtain ⟨r275,hr275,hF⟩:=bB' hF
 refine rS (gj (Dj _ _ hr275) ⟨⟨rfl,rfl,trivial⟩,trivial⟩ rfl (.inl rfl) ?_); refine bX SV 2 rfl ?_; cases h276:(!r275)
 · have hF:=bF' h276 hF; refine bX SV 1 rfl ?_; obtain ⟨r277,hr277,hF⟩:=bB' hF
   refine dq SV rfl (gj (B1 _ _ hr277) ⟨⟨rfl,rfl,trivial⟩,trivial⟩ rfl (.inl rfl) ?_); refine QV rfl ?_; exact join (!decide (r277 = 0)) _ _ hF sw
 have hF:=bT' h276 hF; refine QV rfl ?_; exact join true _ _ hF sw
end Go.VM
