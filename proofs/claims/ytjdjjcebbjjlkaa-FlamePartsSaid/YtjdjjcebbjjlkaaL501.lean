/- What the functions of the law compute, each with its proof. -/
import Derived.Test.YtjdjjcebbjjlkaaHx2
import Derived.Test.YtjdjjcebbjjlkaaRows
import Derived.KernelRfl
import Derived.Lib.Bytealg
import Derived.Laws.Externs
import Derived.WalkKit
namespace Go.VM
open Go.Proofs Go.Proofs.Ytjdjjcebbjjlkaa
open Go.RowKit
set_option maxRecDepth 100000
set_option maxHeartbeats 4000000
structure aK where
  fThread:Int
  fAt:Int
  fWeight:Int
  fStack:(List ByteArray)
  deriving DecidableEq
def d7 (x:ByteArray):List T:=[.sc (.string x)]
abbrev OY (x:aK):List C:=[.imm (tI x.fThread),.imm (tI x.fAt),.imm (tI x.fWeight),.imm (.sl 1 (List.map d7 x.fStack))]
def aV (x:aK):List T:=[tI x.fThread,tI x.fAt,tI x.fWeight,.sl 1 (List.map d7 x.fStack)]
structure A2 where
  fAt:Int
  fKind:Int
  fName:ByteArray
  fN:Int
  fM:Int
  fStack:(List ByteArray)
  deriving DecidableEq
abbrev Iq (x:A2):List C:=[.imm (tI x.fAt),.imm (tI x.fKind),.imm (.sc (.string x.fName)),.imm (tI x.fN),.imm (tI x.fM),.imm (.sl 1 (List.map d7 x.fStack))]
structure ax where
  fParent:Int
  fName:ByteArray
  fSelf:Int
  fTotal:Int
  fCount:Int
  deriving DecidableEq
abbrev xY (x:ax):List C:=[.imm (tI x.fParent),.imm (.sc (.string x.fName)),.imm (tI x.fSelf),.imm (tI x.fTotal),.imm (tI x.fCount)]
def az (x:ax):List T:=[tI x.fParent,.sc (.string x.fName),tI x.fSelf,tI x.fTotal,tI x.fCount]
def sJ (x:Int):List T:=[tI x]
def xX (x:Bool):List T:=[.sc (.bool x)]
def Wx (x:(List aK)):List T:=[.sl 4 (List.map aV x)]
def aPx (x:(List ax)):List T:=[.sl 5 (List.map az x)]
structure aj where
  fPath:(List ByteArray)
  fSelf:Int
  fCount:Int
  deriving DecidableEq
abbrev fW (x:aj):List C:=[.imm (.sl 1 (List.map d7 x.fPath)),.imm (tI x.fSelf),.imm (tI x.fCount)]
def aq (x:aj):List T:=[.sl 1 (List.map d7 x.fPath),tI x.fSelf,tI x.fCount]
def v25:VC:=(.seq (rg [vo 1 (.box 48 0),vo 2 (.mv (kB false))]) (.seq (.seq (rg [vo 4 (.fld 2 1),vo 5 (.load 1 false 4),vo 6 (.lenT 5),vo 7 (.bin .gtr 6 (kI 200)),vm 8 7,vg 9 8 false (.fld 5 1),vg 10 8 false (.load 1 false 9),vg 11 8 false (.lenS 10),vg 12 8 false (.bin .gtr 11 (kI 60)),vo 13 (.pick 8 (kB true) 12)]) (.cond 13 (.seq (rg [vo 2 (.mv (kB false))]) .ret) .skip)) (.seq (.seq (rg [vo 3 (.mv (kI 0))]) (.block 0 (.loop (.seq (.seq (rg [vm 14 3,vo 15 (.fld 5 1),vo 16 (.load 1 false 15),vo 17 (.lenS 16),vo 18 (.bin .lss 14 17)]) (.cond 18 .skip (.exit 0))) (.seq (.block 1 (.seq (rg [vo 21 (.fld 5 1),vo 22 (.load 1 false 21),vm 23 3,vo 24 (.ixA 1 22 23),vo 25 (.load 1 false 24),vo 26 (.lenT 25),vo 27 (.bin .gtr 26 (kI 200))]) (.cond 27 (.seq (rg [vo 2 (.mv (kB false))]) .ret) .skip))) (rg [vm 19 3,vo 20 (.bin .add 19 (kI 1)),vm 3 20])))))) (.seq (rg [vo 2 (.mv (kB true))]) .ret))))
theorem c25:(Try.f25.body.bind fun c=>cK Try.prog 28 c) = some v25:=by kernel_rfl
def v9:VC:=(.seq (rg [vo 2 (.mv (kB false))]) (.seq (.seq (rg [vm 4 0,vo 5 (.lenS 4),vo 6 (.bin .gtr 5 (kI 40))]) (.cond 6 (.seq (rg [vo 2 (.mv (kB false))]) .ret) .skip)) (.seq (.seq (rg [vo 3 (.mv (kI 0))]) (.block 0 (.loop (.seq (.seq (rg [vm 7 3,vm 8 0,vo 9 (.lenS 8),vo 10 (.bin .lss 7 9)]) (.cond 10 .skip (.exit 0))) (.seq (.block 1 (.seq (rg [vm 13 0,vm 14 3,vo 15 (.ixA 4 13 14),vo 16 (.fld 3 15),vo 17 (.load 1 false 16),vo 18 (.build [(iI 0),(iI 0),iS,(iI 0),(iI 0),.nilS] [(5,1,17)]),vo 19 (.call 25 [18]),vo 20 (.un .not 19)]) (.cond 20 (.seq (rg [vo 2 (.mv (kB false))]) .ret) .skip))) (rg [vm 11 3,vo 12 (.bin .add 11 (kI 1)),vm 3 12])))))) (.seq (rg [vo 2 (.mv (kB true))]) .ret))))
theorem c9:(Try.f9.body.bind fun c=>cK Try.prog 21 c) = some v9:=by kernel_rfl
def v56:VC:=(.seq (rg [vo 4 (.mv (kI 0))]) (.seq (rg [vm 5 0,vm 6 1,vo 7 (.call 68 [5,6]),vm 4 7]) .ret))
theorem c56:(Try.f56.body.bind fun c=>cK Try.prog 8 c) = some v56:=by kernel_rfl
def v52:VC:=(.seq (rg [vo 2 (.mv (kB false))]) (.seq (rg [vm 3 0,vo 4 (.bin .geq 3 (.con (.c (.imm (.sc (.int .u8 97)))))),vm 5 4,vg 6 5 true (.mv 0),vg 7 5 true (.bin .leq 6 (.con (.c (.imm (.sc (.int .u8 122)))))),vo 8 (.pick 5 7 (kB false)),vm 9 8,vg 10 9 false (.mv 0),vg 11 9 false (.bin .geq 10 (.con (.c (.imm (.sc (.int .u8 65)))))),vg 12 9 false (.mv 11),vg 13 12 true (.mv 0),vg 14 12 true (.bin .leq 13 (.con (.c (.imm (.sc (.int .u8 90)))))),vg 15 9 false (.pick 12 14 (kB false)),vo 16 (.pick 9 (kB true) 15),vm 17 16,vg 18 17 false (.mv 0),vg 19 17 false (.bin .geq 18 (.con (.c (.imm (.sc (.int .u8 48)))))),vg 20 17 false (.mv 19),vg 21 20 true (.mv 0),vg 22 20 true (.bin .leq 21 (.con (.c (.imm (.sc (.int .u8 57)))))),vg 23 17 false (.pick 20 22 (kB false)),vo 24 (.pick 17 (kB true) 23),vm 25 24,vg 26 25 false (.mv 0),vg 27 25 false (.call 56 [(.con (.c (.imm (.sc (.string ⟨#[95,46,58,47,60,62,36,42,126,45]⟩))))),26]),vg 28 25 false (.bin .geq 27 (kI 0)),vo 29 (.pick 25 (kB true) 28),vm 2 29]) .ret))
theorem c52:(Try.f52.body.bind fun c=>cK Try.prog 30 c) = some v52:=by kernel_rfl
def v47:VC:=(.seq (rg [vo 2 (.mv (kI 0))]) (.seq (.seq (rg [vm 4 0,vo 5 (.bin .eql 4 (.con (.c iS))),vm 6 5,vg 7 6 false (.mv 0),vg 8 6 false (.lenT 7),vg 9 6 false (.bin .gtr 8 (kI 40)),vo 10 (.pick 6 (kB true) 9)]) (.cond 10 (.seq (rg [vo 2 (.mv (kI 3))]) .ret) .skip)) (.seq (.seq (rg [vm 11 0,vo 12 (.lenT 11),vo 13 (.mv (kI 0))]) (.block 0 (.loop (.seq (rg [vo 14 (.bin .lss 13 12)]) (.seq (.cond 14 .skip (.exit 0)) (.seq (.block 1 (.seq (rg [vm 15 13,vm 3 15]) (.seq (rg [vm 16 0,vm 17 3,vo 18 (.ixS 16 17),vo 19 (.call 52 [18]),vo 20 (.un .not 19)]) (.cond 20 (.seq (rg [vo 2 (.mv (kI 3))]) .ret) .skip)))) (rg [vo 21 (.bin .add 13 (kI 1)),vm 13 21]))))))) (.seq (rg [vo 2 (.mv (kI 0))]) .ret))))
theorem c47:(Try.f47.body.bind fun c=>cK Try.prog 22 c) = some v47:=by kernel_rfl
def v31:VC:=(.seq (rg [vo 2 (.mv (kI 0))]) (.seq (rg [vo 3 (.mv (kI 0)),vo 4 (.mv (kI 0))]) (.seq (.seq (rg [vm 8 0,vo 9 (.lenS 8),vo 10 (.mv (kI 0))]) (.block 0 (.loop (.seq (rg [vo 11 (.bin .lss 10 9)]) (.seq (.cond 11 .skip (.exit 0)) (.seq (.block 1 (.seq (rg [vo 12 (.ixA 5 8 10),vo 13 (.load 5 true 12),vo 6 (.alloc 40 [(iI 0),iS,(iI 0),(iI 0),(iI 0)]),vp (.store 5 6 13)]) (.seq (.seq (rg [vo 14 (.fld 1 6),vo 15 (.load 1 false 14),vo 16 (.call 47 [15]),vm 7 16]) (.seq (rg [vm 17 7,vo 18 (.bin .neq 17 (kI 0))]) (.cond 18 (.seq (rg [vm 19 7,vm 2 19]) .ret) .skip))) (.seq (.seq (rg [vo 20 (.fld 2 6),vo 21 (.load 1 false 20),vo 22 (.bin .lss 21 (kI 0)),vm 23 22,vg 24 23 false (.fld 2 6),vg 25 23 false (.load 1 false 24),vg 26 23 false (.bin .gtr 25 (kI 100000000000000)),vo 27 (.pick 23 (kB true) 26),vm 28 27,vg 29 28 false (.fld 4 6),vg 30 28 false (.load 1 false 29),vg 31 28 false (.bin .lss 30 (kI 0)),vo 32 (.pick 28 (kB true) 31),vm 33 32,vg 34 33 false (.fld 4 6),vg 35 33 false (.load 1 false 34),vg 36 33 false (.bin .gtr 35 (kI 20000)),vo 37 (.pick 33 (kB true) 36),vm 38 37,vg 39 38 false (.fld 4 6),vg 40 38 false (.load 1 false 39),vg 41 38 false (.bin .eql 40 (kI 0)),vg 42 38 false (.mv 41),vg 43 42 true (.fld 2 6),vg 44 42 true (.load 1 false 43),vg 45 42 true (.bin .neq 44 (kI 0)),vg 46 38 false (.pick 42 45 (kB false)),vo 47 (.pick 38 (kB true) 46)]) (.cond 47 (.seq (rg [vo 2 (.mv (kI 2))]) .ret) .skip)) (.region (some [0,0,2,7,0,0,32,112,15,511,1,0,0,0,1,0,0,0,0,0]) [vm 48 3,vo 49 (.fld 2 6),vo 50 (.load 1 false 49),vo 51 (.bin .add 48 50),vm 52 4,vo 53 (.fld 4 6),vo 54 (.load 1 false 53),vo 55 (.bin .add 52 54),vm 3 51,vm 4 55]))))) (rg [vo 56 (.bin .add 10 (kI 1)),vm 10 56]))))))) (.seq (.seq (rg [vm 57 3,vo 58 (.bin .gtr 57 (kI 100000000000000)),vm 59 58,vg 60 59 false (.mv 4),vg 61 59 false (.bin .gtr 60 (kI 20000)),vo 62 (.pick 59 (kB true) 61)]) (.cond 62 (.seq (rg [vo 2 (.mv (kI 2))]) .ret) .skip)) (.seq (rg [vo 2 (.mv (kI 0))]) .ret)))))
theorem c31:(Try.f31.body.bind fun c=>cK Try.prog 63 c) = some v31:=by kernel_rfl
def v32:VC:=(.seq (rg [vo 2 (.mv (kI 0))]) (.seq (rg [vo 9 (.mkmap (.int .i64)),vm 3 9]) (.seq (.seq (rg [vm 10 0,vo 11 (.lenS 10),vo 12 (.mv (kI 0))]) (.block 0 (.loop (.seq (rg [vo 13 (.bin .lss 12 11)]) (.seq (.cond 13 .skip (.exit 0)) (.seq (.block 1 (.seq (rg [vm 14 12,vo 15 (.ixA 5 10 12),vo 16 (.load 5 true 15),vo 5 (.alloc 40 [(iI 0),iS,(iI 0),(iI 0),(iI 0)]),vm 4 14,vp (.store 5 5 16)]) (.seq (rg [vm 17 4,vo 18 (.bin .sub 17 (kI 1)),vm 6 18]) (.seq (.block 2 (.loop (.seq (.seq (rg [vm 19 6,vo 20 (.bin .geq 19 (kI 0)),vm 21 20,vg 22 21 true (.mv 6),vg 23 21 true (.fld 0 5),vg 24 21 true (.load 1 false 23),vg 25 21 true (.bin .neq 22 24),vo 26 (.pick 21 25 (kB false))]) (.cond 26 .skip (.exit 2))) (.block 3 (rg [vm 27 0,vm 28 6,vo 29 (.ixA 5 27 28),vo 30 (.fld 0 29),vo 31 (.load 1 false 30),vm 6 31]))))) (.seq (.seq (rg [vo 32 (.fld 0 5),vo 33 (.load 1 false 32),vm 34 6,vo 35 (.bin .neq 33 34)]) (.cond 35 (.seq (rg [vo 2 (.mv (kI 10))]) .ret) .skip)) (.seq (.seq (rg [vm 37 3,vo 38 (.fld 0 5),vo 39 (.load 1 false 38),vo 40 (.look (.int .i64) (.c iS) true 37 39),vm 36 40,vo 41 (.ext 36 0),vo 42 (.ext 36 1),vm 7 41,vm 8 42]) (.seq (rg [vm 43 8,vm 44 43,vg 45 44 true (.fld 1 5),vg 46 44 true (.load 1 false 45),vg 47 44 true (.mv 7),vg 48 44 true (.bin .leq 46 47),vo 49 (.pick 44 48 (kB false))]) (.cond 49 (.seq (rg [vo 2 (.mv (kI 11))]) .ret) .skip))) (rg [vm 50 3,vo 51 (.fld 0 5),vo 52 (.load 1 false 51),vo 53 (.fld 1 5),vo 54 (.load 1 false 53),vp (.mupd (.int .i64) 50 52 54)]))))))) (rg [vo 55 (.bin .add 12 (kI 1)),vm 12 55]))))))) (.seq (rg [vo 2 (.mv (kI 0))]) .ret))))
theorem c32:(Try.f32.body.bind fun c=>cK Try.prog 56 c) = some v32:=by kernel_rfl
def v14:VC:=(.seq (rg [vo 2 (.mv (kI 0))]) (.seq (.seq (rg [vm 10 0,vo 11 (.lenS 10),vo 12 (.bin .gtr 11 (kI 2000))]) (.cond 12 (.seq (rg [vo 2 (.mv (kI 7))]) .ret) .skip)) (.seq (.seq (rg [vm 13 0,vo 14 (.call 31 [13]),vm 3 14]) (.seq (rg [vm 15 3,vo 16 (.bin .neq 15 (kI 0))]) (.cond 16 (.seq (rg [vm 17 3,vm 2 17]) .ret) .skip))) (.seq (.seq (rg [vm 18 0,vo 19 (.call 32 [18]),vm 4 19]) (.seq (rg [vm 20 4,vo 21 (.bin .neq 20 (kI 0))]) (.cond 21 (.seq (rg [vm 22 4,vm 2 22]) .ret) .skip))) (.seq (.region (some [0,1,3,0,8,24,7,127,1,0,0,1,0,0,0,0]) [vm 23 0,vo 24 (.lenS 23),vo 25 (.mksl 3 1 8 [(iI 0)] 24 24),vm 26 0,vo 27 (.lenS 26),vo 28 (.mksl 4 1 1 [(.imm (.sc (.bool false)))] 27 27),vm 5 25,vm 6 28]) (.seq (.seq (rg [vm 29 0,vo 30 (.lenS 29),vo 31 (.bin .sub 30 (kI 1)),vm 7 31]) (.block 0 (.loop (.seq (.seq (rg [vm 32 7,vo 33 (.bin .geq 32 (kI 0))]) (.cond 33 .skip (.exit 0))) (.seq (.block 1 (.seq (.region (some [0,0,3,7,0,0,48,112,240,511,1023,2047,1,1,0,0,1,1,0,0,0,0,0,0]) [vm 36 5,vm 37 7,vo 38 (.ixA 1 36 37),vo 39 (.load 1 false 38),vm 40 0,vm 41 7,vo 42 (.ixA 5 40 41),vo 43 (.fld 2 42),vo 44 (.load 1 false 43),vo 45 (.bin .add 39 44),vo 46 (.ixA 1 36 37),vp (.store 1 46 45)]) (.seq (rg [vm 47 6,vm 48 7,vm 49 7,vo 50 (.bin .add 49 (kI 1)),vm 51 0,vo 52 (.lenS 51),vo 53 (.bin .eql 50 52),vm 54 53,vg 55 54 false (.mv 0),vg 56 54 false (.mv 7),vg 57 54 false (.bin .add 56 (kI 1)),vg 58 54 false (.ixA 5 55 57),vg 59 54 false (.fld 0 58),vg 60 54 false (.load 1 false 59),vg 61 54 false (.mv 7),vg 62 54 false (.bin .neq 60 61),vo 63 (.pick 54 (kB true) 62),vo 64 (.ixA 1 47 48),vp (.store 1 64 63)]) (.seq (rg [vm 65 0,vm 66 7,vo 67 (.ixA 5 65 66),vo 68 (.fld 0 67),vo 69 (.load 1 false 68),vo 70 (.bin .geq 69 (kI 0))]) (.cond 70 (.region (some [0,0,0,6,14,30,63,127,0,0,768,1792,4095,8191,16383,1,1,1,0,0,0,0,0,1,1,0,0,0,0,0]) [vm 71 5,vm 72 0,vm 73 7,vo 74 (.ixA 5 72 73),vo 75 (.fld 0 74),vo 76 (.load 1 false 75),vo 77 (.ixA 1 71 76),vo 78 (.load 1 false 77),vm 79 5,vm 80 7,vo 81 (.ixA 1 79 80),vo 82 (.load 1 false 81),vo 83 (.bin .add 78 82),vo 84 (.ixA 1 71 76),vp (.store 1 84 83)]) .skip))))) (rg [vm 34 7,vo 35 (.bin .sub 34 (kI 1)),vm 7 35])))))) (.seq (.seq (rg [vm 85 0,vo 86 (.lenS 85),vo 87 (.mv (kI 0))]) (.block 2 (.loop (.seq (rg [vo 88 (.bin .lss 87 86)]) (.seq (.cond 88 .skip (.exit 2)) (.seq (.block 3 (.seq (rg [vm 89 87,vo 90 (.ixA 5 85 87),vo 91 (.load 5 true 90),vo 9 (.alloc 40 [(iI 0),iS,(iI 0),(iI 0),(iI 0)]),vm 8 89,vp (.store 5 9 91)]) (.seq (.region (some [0,0,3,7,15,31,63,127,255,511,1023,2047,1023,1023,13311,29695,65535,131071,1,1,0,0,0,0,0,0,0,0,0,0,0,0,0,0,0,0]) [vm 92 6,vm 93 8,vo 94 (.ixA 1 92 93),vo 95 (.load 1 false 94),vm 96 95,vg 97 96 true (.fld 4 9),vg 98 96 true (.load 1 false 97),vg 99 96 true (.bin .eql 98 (kI 0)),vo 100 (.pick 96 99 (kB false)),vm 101 100,vg 102 101 false (.fld 3 9),vg 103 101 false (.load 1 false 102),vg 104 101 false (.mv 5),vg 105 101 false (.mv 8),vg 106 101 false (.ixA 1 104 105),vg 107 101 false (.load 1 false 106),vg 108 101 false (.bin .neq 103 107),vo 109 (.pick 101 (kB true) 108)]) (.cond 109 (.seq (rg [vo 2 (.mv (kI 10))]) .ret) .skip)))) (rg [vo 110 (.bin .add 87 (kI 1)),vm 87 110]))))))) (.seq (rg [vo 2 (.mv (kI 0))]) .ret))))))))
theorem c14:(Try.f14.body.bind fun c=>cK Try.prog 111 c) = some v14:=by kernel_rfl
def v40:VC:=(.seq (rg [vo 1 (.box 32 0),vo 2 (.mv (kB false))]) (.seq (rg [vo 3 (.fld 0 1),vo 4 (.load 1 false 3),vo 5 (.bin .geq 4 (kI 0)),vm 6 5,vg 7 6 true (.fld 0 1),vg 8 6 true (.load 1 false 7),vg 9 6 true (.bin .leq 8 (kI 1000000000000000)),vo 10 (.pick 6 9 (kB false)),vm 11 10,vg 12 11 true (.fld 1 1),vg 13 11 true (.load 1 false 12),vg 14 11 true (.bin .geq 13 (kI 0)),vo 15 (.pick 11 14 (kB false)),vm 16 15,vg 17 16 true (.fld 1 1),vg 18 16 true (.load 1 false 17),vg 19 16 true (.bin .leq 18 (kI 1000000000000)),vo 20 (.pick 16 19 (kB false)),vm 21 20,vg 22 21 true (.fld 2 1),vg 23 21 true (.load 1 false 22),vg 24 21 true (.bin .geq 23 (kI 1)),vo 25 (.pick 21 24 (kB false)),vm 26 25,vg 27 26 true (.fld 2 1),vg 28 26 true (.load 1 false 27),vg 29 26 true (.bin .leq 28 (kI 1000000000000)),vo 30 (.pick 26 29 (kB false)),vm 2 30]) .ret))
theorem c40:(Try.f40.body.bind fun c=>cK Try.prog 31 c) = some v40:=by kernel_rfl
def v41:VC:=(.seq (rg [vo 2 (.mv (kI 0))]) (.seq (.seq (rg [vm 6 0,vo 7 (.lenS 6),vo 8 (.bin .gtr 7 (kI 32))]) (.cond 8 (.seq (rg [vo 2 (.mv (kI 7))]) .ret) .skip)) (.seq (.seq (rg [vm 9 0,vo 10 (.lenS 9),vo 11 (.mv (kI 0))]) (.block 0 (.loop (.seq (rg [vo 12 (.bin .lss 11 10)]) (.seq (.cond 12 .skip (.exit 0)) (.seq (.block 1 (.seq (rg [vo 13 (.ixA 1 9 11),vo 14 (.load 1 false 13),vm 4 14]) (.seq (rg [vm 15 4,vo 16 (.call 47 [15]),vm 5 16]) (.seq (rg [vm 17 5,vo 18 (.bin .neq 17 (kI 0))]) (.cond 18 (.seq (rg [vm 19 5,vm 2 19]) .ret) .skip))))) (rg [vo 20 (.bin .add 11 (kI 1)),vm 11 20]))))))) (.seq (rg [vo 2 (.mv (kI 0))]) .ret))))
theorem c41:(Try.f41.body.bind fun c=>cK Try.prog 21 c) = some v41:=by kernel_rfl
def v26:VC:=(.seq (rg [vo 2 (.mv (kI 0))]) (.seq (.seq (rg [vm 6 0,vo 7 (.lenS 6),vo 8 (.mv (kI 0))]) (.block 0 (.loop (.seq (rg [vo 9 (.bin .lss 8 7)]) (.seq (.cond 9 .skip (.exit 0)) (.seq (.block 1 (.seq (rg [vm 10 8,vo 11 (.ixA 4 6 8),vo 12 (.load 4 true 11),vo 4 (.alloc 32 [(iI 0),(iI 0),(iI 0),.nilS]),vm 3 10,vp (.store 4 4 12)]) (.seq (.seq (rg [vo 13 (.load 4 true 4),vo 14 (.call 40 [13]),vo 15 (.un .not 14)]) (.cond 15 (.seq (rg [vo 2 (.mv (kI 2))]) .ret) .skip)) (.seq (.seq (rg [vo 16 (.fld 3 4),vo 17 (.load 1 false 16),vo 18 (.call 41 [17]),vm 5 18]) (.seq (rg [vm 19 5,vo 20 (.bin .neq 19 (kI 0))]) (.cond 20 (.seq (rg [vm 21 5,vm 2 21]) .ret) .skip))) (.seq (.region (some [0,1,3,7,15,7,7,71,231,487,999,2047,4095,1,0,0,0,0,0,0,0,0,0,0,0,0]) [vm 22 3,vo 23 (.bin .gtr 22 (kI 0)),vm 24 23,vg 25 24 true (.fld 1 4),vg 26 24 true (.load 1 false 25),vg 27 24 true (.mv 0),vg 28 24 true (.mv 3),vg 29 24 true (.bin .sub 28 (kI 1)),vg 30 24 true (.ixA 4 27 29),vg 31 24 true (.fld 1 30),vg 32 24 true (.load 1 false 31),vg 33 24 true (.bin .lss 26 32),vo 34 (.pick 24 33 (kB false))]) (.cond 34 (.seq (rg [vo 2 (.mv (kI 11))]) .ret) .skip)))))) (rg [vo 35 (.bin .add 8 (kI 1)),vm 8 35]))))))) (.seq (rg [vo 2 (.mv (kI 0))]) .ret)))
theorem c26:(Try.f26.body.bind fun c=>cK Try.prog 36 c) = some v26:=by kernel_rfl
def v12:VC:=(.seq (rg [vo 4 (.mv (kB false))]) (.seq (.seq (rg [vm 6 0,vo 7 (.lenS 6),vm 8 1,vo 9 (.lenS 8),vo 10 (.bin .neq 7 9)]) (.cond 10 (.seq (rg [vo 4 (.mv (kB false))]) .ret) .skip)) (.seq (.seq (rg [vo 5 (.mv (kI 0))]) (.block 0 (.loop (.seq (.seq (rg [vm 11 5,vm 12 0,vo 13 (.lenS 12),vo 14 (.bin .lss 11 13)]) (.cond 14 .skip (.exit 0))) (.seq (.block 1 (.seq (.region (some [0,0,3,7,0,0,48,112,255,1,1,0,0,1,1,0,0,0]) [vm 17 0,vm 18 5,vo 19 (.ixA 5 17 18),vo 20 (.load 5 true 19),vm 21 1,vm 22 5,vo 23 (.ixA 5 21 22),vo 24 (.load 5 true 23),vo 25 (.aeq true 40 20 24)]) (.cond 25 (.seq (rg [vo 4 (.mv (kB false))]) .ret) .skip))) (rg [vm 15 5,vo 16 (.bin .add 15 (kI 1)),vm 5 16])))))) (.seq (rg [vo 4 (.mv (kB true))]) .ret))))
theorem c12:(Try.f12.body.bind fun c=>cK Try.prog 26 c) = some v12:=by kernel_rfl
def v7:VC:=(.seq (rg [vo 4 (.mv (kB false))]) (.seq (.seq (rg [vo 13 (.call 8 []),vo 14 (.un .not 13),vm 15 14,vg 16 15 false (.mv 0),vg 17 15 false (.call 9 [16]),vg 18 15 false (.un .not 17),vo 19 (.pick 15 (kB true) 18),vm 20 19,vg 21 20 false (.mv 1),vg 22 20 false (.call 9 [21]),vg 23 20 false (.un .not 22),vo 24 (.pick 20 (kB true) 23),vm 25 24,vg 26 25 false (.mv 0),vg 27 25 false (.lenS 26),vg 28 25 false (.bin .gtr 27 (kI 10)),vo 29 (.pick 25 (kB true) 28),vm 30 29,vg 31 30 false (.mv 1),vg 32 30 false (.lenS 31),vg 33 30 false (.bin .gtr 32 (kI 10)),vo 34 (.pick 30 (kB true) 33)]) (.cond 34 (.seq (rg [vo 35 (.call 8 []),vm 4 35]) .ret) .skip)) (.seq (rg [vo 37 (.bsl 32 4 0 [(iI 0),(iI 0),(iI 0),.nilS] []),vm 38 0,vo 39 (.app 32 4 48 37 38),vm 40 1,vo 41 (.app 32 4 48 39 40),vo 42 (.call 10 [41]),vm 36 42,vo 43 (.ext 36 0),vo 44 (.ext 36 1),vm 5 43,vm 6 44]) (.seq (.seq (rg [vm 45 6,vo 46 (.bin .neq 45 (kI 0))]) (.cond 46 (.seq (rg [vm 47 5,vo 48 (.lenS 47),vo 49 (.bin .eql 48 (kI 0)),vm 4 49]) .ret) .skip)) (.seq (rg [vm 51 0,vo 52 (.call 10 [51]),vm 50 52,vo 53 (.ext 50 0),vo 54 (.ext 50 1),vm 7 53,vm 8 54]) (.seq (rg [vm 56 1,vo 57 (.call 10 [56]),vm 55 57,vo 58 (.ext 55 0),vo 59 (.ext 55 1),vm 9 58,vm 10 59]) (.seq (rg [vm 61 7,vm 62 9,vo 63 (.call 22 [61,62]),vm 60 63,vo 64 (.ext 60 0),vo 65 (.ext 60 1),vm 11 64,vm 12 65]) (.seq (rg [vm 66 8,vo 67 (.bin .eql 66 (kI 0)),vm 68 67,vg 69 68 true (.mv 10),vg 70 68 true (.bin .eql 69 (kI 0)),vo 71 (.pick 68 70 (kB false)),vm 72 71,vg 73 72 true (.mv 12),vg 74 72 true (.bin .eql 73 (kI 0)),vo 75 (.pick 72 74 (kB false)),vm 76 75,vg 77 76 true (.mv 11),vg 78 76 true (.mv 5),vg 79 76 true (.call 12 [77,78]),vo 80 (.pick 76 79 (kB false)),vm 4 80]) .ret))))))))
theorem c7:(Try.f7.body.bind fun c=>cK Try.prog 81 c) = some v7:=by kernel_rfl
def v43:VC:=(.seq (rg [vo 1 (.box 32 0),vo 2 (.mv (kB false))]) (.seq (rg [vo 3 (.fld 0 1),vo 4 (.load 1 false 3),vo 5 (.bin .geq 4 (kI 0)),vm 6 5,vg 7 6 true (.fld 0 1),vg 8 6 true (.load 1 false 7),vg 9 6 true (.bin .leq 8 (kI 1000000000000000)),vo 10 (.pick 6 9 (kB false)),vm 11 10,vg 12 11 true (.fld 1 1),vg 13 11 true (.load 1 false 12),vg 14 11 true (.bin .geq 13 (kI 0)),vo 15 (.pick 11 14 (kB false)),vm 16 15,vg 17 16 true (.fld 1 1),vg 18 16 true (.load 1 false 17),vg 19 16 true (.bin .leq 18 (kI 1000000000000)),vo 20 (.pick 16 19 (kB false)),vm 21 20,vg 22 21 true (.fld 2 1),vg 23 21 true (.load 1 false 22),vg 24 21 true (.bin .geq 23 (kI 1)),vo 25 (.pick 21 24 (kB false)),vm 26 25,vg 27 26 true (.fld 2 1),vg 28 26 true (.load 1 false 27),vg 29 26 true (.bin .leq 28 (kI 1000000000000)),vo 30 (.pick 26 29 (kB false)),vm 2 30]) .ret))
theorem c43:(Try.f43.body.bind fun c=>cK Try.prog 31 c) = some v43:=by kernel_rfl
def v53:VC:=(.seq (rg [vo 2 (.mv (kB false))]) (.seq (.seq (rg [vm 5 0,vo 6 (.bin .geq 5 (.con (.c (.imm (.sc (.int .u8 97)))))),vm 7 6,vg 8 7 true (.mv 0),vg 9 7 true (.bin .leq 8 (.con (.c (.imm (.sc (.int .u8 122)))))),vo 10 (.pick 7 9 (kB false)),vm 11 10,vg 12 11 false (.mv 0),vg 13 11 false (.bin .geq 12 (.con (.c (.imm (.sc (.int .u8 65)))))),vg 14 11 false (.mv 13),vg 15 14 true (.mv 0),vg 16 14 true (.bin .leq 15 (.con (.c (.imm (.sc (.int .u8 90)))))),vg 17 11 false (.pick 14 16 (kB false)),vo 18 (.pick 11 (kB true) 17),vm 19 18,vg 20 19 false (.mv 0),vg 21 19 false (.bin .geq 20 (.con (.c (.imm (.sc (.int .u8 48)))))),vg 22 19 false (.mv 21),vg 23 22 true (.mv 0),vg 24 22 true (.bin .leq 23 (.con (.c (.imm (.sc (.int .u8 57)))))),vg 25 19 false (.pick 22 24 (kB false)),vo 26 (.pick 19 (kB true) 25)]) (.cond 26 (.seq (rg [vo 2 (.mv (kB true))]) .ret) .skip)) (.seq (rg [vo 3 (.mv (.con (.c (.imm (.sc (.string ⟨#[95,46,58,47,60,62,36,42,126,45]⟩))))))]) (.seq (.seq (rg [vo 4 (.mv (kI 0))]) (.block 0 (.loop (.seq (.seq (rg [vm 27 4,vm 28 3,vo 29 (.lenT 28),vo 30 (.bin .lss 27 29)]) (.cond 30 .skip (.exit 0))) (.seq (.block 1 (.seq (rg [vm 33 3,vm 34 4,vo 35 (.ixS 33 34),vm 36 0,vo 37 (.bin .eql 35 36)]) (.cond 37 (.seq (rg [vo 2 (.mv (kB true))]) .ret) .skip))) (rg [vm 31 4,vo 32 (.bin .add 31 (kI 1)),vm 4 32])))))) (.seq (rg [vo 2 (.mv (kB false))]) .ret)))))
theorem c53:(Try.f53.body.bind fun c=>cK Try.prog 38 c) = some v53:=by kernel_rfl
def v48:VC:=(.seq (rg [vo 2 (.mv (kI 0))]) (.seq (.seq (rg [vm 4 0,vo 5 (.lenT 4),vo 6 (.bin .lss 5 (kI 1)),vm 7 6,vg 8 7 false (.mv 0),vg 9 7 false (.lenT 8),vg 10 7 false (.bin .gtr 9 (kI 40)),vo 11 (.pick 7 (kB true) 10)]) (.cond 11 (.seq (rg [vo 2 (.mv (kI 3))]) .ret) .skip)) (.seq (.seq (rg [vo 3 (.mv (kI 0))]) (.block 0 (.loop (.seq (.seq (rg [vm 12 3,vm 13 0,vo 14 (.lenT 13),vo 15 (.bin .lss 12 14)]) (.cond 15 .skip (.exit 0))) (.seq (.block 1 (.seq (rg [vm 18 0,vm 19 3,vo 20 (.ixS 18 19),vo 21 (.call 53 [20]),vo 22 (.un .not 21)]) (.cond 22 (.seq (rg [vo 2 (.mv (kI 3))]) .ret) .skip))) (rg [vm 16 3,vo 17 (.bin .add 16 (kI 1)),vm 3 17])))))) (.seq (rg [vo 2 (.mv (kI 0))]) .ret))))
theorem c48:(Try.f48.body.bind fun c=>cK Try.prog 23 c) = some v48:=by kernel_rfl
def v44:VC:=(.seq (rg [vo 2 (.mv (kI 0))]) (.seq (.seq (rg [vm 4 0,vo 5 (.lenS 4),vo 6 (.bin .gtr 5 (kI 32))]) (.cond 6 (.seq (rg [vo 2 (.mv (kI 7))]) .ret) .skip)) (.seq (.seq (rg [vo 3 (.mv (kI 0))]) (.block 0 (.loop (.seq (.seq (rg [vm 7 3,vm 8 0,vo 9 (.lenS 8),vo 10 (.bin .lss 7 9)]) (.cond 10 .skip (.exit 0))) (.seq (.block 1 (.seq (rg [vm 13 0,vm 14 3,vo 15 (.ixA 1 13 14),vo 16 (.load 1 false 15),vo 17 (.call 48 [16]),vo 18 (.bin .neq 17 (kI 0))]) (.cond 18 (.seq (rg [vo 2 (.mv (kI 3))]) .ret) .skip))) (rg [vm 11 3,vo 12 (.bin .add 11 (kI 1)),vm 3 12])))))) (.seq (rg [vo 2 (.mv (kI 0))]) .ret))))
theorem c44:(Try.f44.body.bind fun c=>cK Try.prog 19 c) = some v44:=by kernel_rfl
def v29:VC:=(.seq (rg [vo 2 (.mv (kI 0))]) (.seq (.seq (rg [vo 3 (.mv (kI 0))]) (.block 0 (.loop (.seq (.seq (rg [vm 5 3,vm 6 0,vo 7 (.lenS 6),vo 8 (.bin .lss 5 7)]) (.cond 8 .skip (.exit 0))) (.seq (.block 1 (.seq (.seq (rg [vm 11 0,vm 12 3,vo 13 (.ixA 4 11 12),vo 14 (.load 4 true 13),vo 15 (.call 43 [14]),vo 16 (.un .not 15)]) (.cond 16 (.seq (rg [vo 2 (.mv (kI 2))]) .ret) .skip)) (.seq (rg [vm 17 0,vm 18 3,vo 19 (.ixA 4 17 18),vo 20 (.fld 3 19),vo 21 (.load 1 false 20),vo 22 (.call 44 [21]),vm 4 22]) (.seq (.seq (rg [vm 23 4,vo 24 (.bin .neq 23 (kI 0))]) (.cond 24 (.seq (rg [vm 25 4,vm 2 25]) .ret) .skip)) (.seq (.region (some [0,1,3,7,7,31,63,127,7,7,519,1799,3847,7943,16383,32767,1,0,0,0,0,0,0,0,0,0,0,0,0,0,0,0]) [vm 26 3,vo 27 (.bin .gtr 26 (kI 0)),vm 28 27,vg 29 28 true (.mv 0),vg 30 28 true (.mv 3),vg 31 28 true (.ixA 4 29 30),vg 32 28 true (.fld 1 31),vg 33 28 true (.load 1 false 32),vg 34 28 true (.mv 0),vg 35 28 true (.mv 3),vg 36 28 true (.bin .sub 35 (kI 1)),vg 37 28 true (.ixA 4 34 36),vg 38 28 true (.fld 1 37),vg 39 28 true (.load 1 false 38),vg 40 28 true (.bin .lss 33 39),vo 41 (.pick 28 40 (kB false))]) (.cond 41 (.seq (rg [vo 2 (.mv (kI 11))]) .ret) .skip)))))) (rg [vm 9 3,vo 10 (.bin .add 9 (kI 1)),vm 3 10])))))) (.seq (rg [vo 2 (.mv (kI 0))]) .ret)))
theorem c29:(Try.f29.body.bind fun c=>cK Try.prog 42 c) = some v29:=by kernel_rfl
def v20:VC:=(.seq (rg [vo 4 (.mv (kI 0))]) (.seq (.seq (rg [vo 5 (.mv (kI 0))]) (.block 0 (.loop (.seq (.seq (rg [vm 6 5,vm 7 0,vo 8 (.lenS 7),vo 9 (.bin .lss 6 8),vm 10 9,vg 11 10 true (.mv 5),vg 12 10 true (.mv 1),vg 13 10 true (.lenS 12),vg 14 10 true (.bin .lss 11 13),vo 15 (.pick 10 14 (kB false))]) (.cond 15 .skip (.exit 0))) (.seq (.block 1 (.seq (.seq (.region (some [0,0,3,7,0,0,48,112,255,1,1,0,0,1,1,0,0,0]) [vm 18 0,vm 19 5,vo 20 (.ixA 1 18 19),vo 21 (.load 1 false 20),vm 22 1,vm 23 5,vo 24 (.ixA 1 22 23),vo 25 (.load 1 false 24),vo 26 (.bin .lss 21 25)]) (.cond 26 (.seq (rg [vo 4 (.mv (kI (-1)))]) .ret) .skip)) (.seq (.region (some [0,0,3,7,0,0,48,112,255,1,1,0,0,1,1,0,0,0]) [vm 27 0,vm 28 5,vo 29 (.ixA 1 27 28),vo 30 (.load 1 false 29),vm 31 1,vm 32 5,vo 33 (.ixA 1 31 32),vo 34 (.load 1 false 33),vo 35 (.bin .gtr 30 34)]) (.cond 35 (.seq (rg [vo 4 (.mv (kI 1))]) .ret) .skip)))) (rg [vm 16 5,vo 17 (.bin .add 16 (kI 1)),vm 5 17])))))) (.seq (.seq (rg [vm 36 0,vo 37 (.lenS 36),vm 38 1,vo 39 (.lenS 38),vo 40 (.bin .lss 37 39)]) (.cond 40 (.seq (rg [vo 4 (.mv (kI (-1)))]) .ret) .skip)) (.seq (.seq (rg [vm 41 0,vo 42 (.lenS 41),vm 43 1,vo 44 (.lenS 43),vo 45 (.bin .gtr 42 44)]) (.cond 45 (.seq (rg [vo 4 (.mv (kI 1))]) .ret) .skip)) (.seq (rg [vo 4 (.mv (kI 0))]) .ret)))))
theorem c20:(Try.f20.body.bind fun c=>cK Try.prog 46 c) = some v20:=by kernel_rfl
def v45:VC:=(.seq (rg [vo 3 (.box 58 1),vo 4 (.mv (.con (.c .nilS)))]) (.seq (rg [vo 5 (.mv (.con (.c .nilS)))]) (.seq (rg [vo 6 (.mv (kB false))]) (.seq (.seq (rg [vo 7 (.mv (kI 0))]) (.block 0 (.loop (.seq (.seq (rg [vm 9 7,vm 10 0,vo 11 (.lenS 10),vo 12 (.bin .lss 9 11)]) (.cond 12 .skip (.exit 0))) (.seq (.block 1 (.seq (.region (some [0,0,3,7,15,0,32,127,255,1,1,0,0,0,0,0,0,0]) [vm 15 0,vm 16 7,vo 17 (.ixA 3 15 16),vo 18 (.fld 0 17),vo 19 (.load 1 false 18),vo 20 (.fld 0 3),vo 21 (.load 1 false 20),vo 22 (.call 20 [19,21]),vm 8 22]) (.seq (.seq (rg [vm 23 8,vo 24 (.bin .eql 23 (kI 0))]) (.cond 24 (.seq (.region (some [0,0,2,0,0,24,56,120,0,256,1016,0,0,6144,14336,30720,0,65536,260096,524286,1048574,2097151,4194303,1,0,0,1,1,0,0,0,0,0,0,1,1,0,0,0,0,0,0,0,0,0,0]) [vm 25 5,vo 26 (.fld 0 3),vo 27 (.load 1 false 26),vm 28 0,vm 29 7,vo 30 (.ixA 3 28 29),vo 31 (.fld 1 30),vo 32 (.load 1 false 31),vo 33 (.fld 1 3),vo 34 (.load 1 false 33),vo 35 (.bin .add 32 34),vm 36 0,vm 37 7,vo 38 (.ixA 3 36 37),vo 39 (.fld 2 38),vo 40 (.load 1 false 39),vo 41 (.fld 2 3),vo 42 (.load 1 false 41),vo 43 (.bin .add 40 42),vo 44 (.build [.nilS,(iI 0),(iI 0)] [(0,1,27),(1,1,35),(2,1,43)]),vo 45 (.bsl 58 3 1 [.nilS,(iI 0),(iI 0)] [(0,3,44)]),vo 46 (.app 58 3 40 25 45),vm 5 46]) (.seq (rg [vo 6 (.mv (kB true))]) (.exit 1))) .skip)) (.seq (.seq (rg [vm 47 8,vo 48 (.bin .gtr 47 (kI 0)),vm 49 48,vg 50 49 true (.mv 6),vg 51 49 true (.un .not 50),vo 52 (.pick 49 51 (kB false))]) (.cond 52 (.seq (rg [vm 53 5,vo 54 (.load 3 true 3),vo 55 (.bsl 58 3 1 [.nilS,(iI 0),(iI 0)] [(0,3,54)]),vo 56 (.app 58 3 40 53 55),vm 5 56]) (rg [vo 6 (.mv (kB true))])) .skip)) (rg [vm 57 5,vm 58 0,vm 59 7,vo 60 (.ixA 3 58 59),vo 61 (.load 3 true 60),vo 62 (.bsl 58 3 1 [.nilS,(iI 0),(iI 0)] [(0,3,61)]),vo 63 (.app 58 3 40 57 62),vm 5 63]))))) (rg [vm 13 7,vo 14 (.bin .add 13 (kI 1)),vm 7 14])))))) (.seq (.seq (rg [vm 64 6,vo 65 (.un .not 64)]) (.cond 65 (rg [vm 66 5,vo 67 (.load 3 true 3),vo 68 (.bsl 58 3 1 [.nilS,(iI 0),(iI 0)] [(0,3,67)]),vo 69 (.app 58 3 40 66 68),vm 5 69]) .skip)) (.seq (rg [vm 70 5,vm 4 70]) .ret))))))
theorem c45:(Try.f45.body.bind fun c=>cK Try.prog 71 c) = some v45:=by kernel_rfl
def v46:VC:=(.seq (rg [vo 4 (.mv (kB false))]) (.seq (rg [vm 5 0,vo 6 (.lenS 5),vm 7 1,vo 8 (.lenS 7),vo 9 (.bin .geq 6 8),vm 10 9,vg 11 10 true (.mv 0),vg 12 10 true (.mv 1),vg 13 10 true (.lenS 12),vg 14 10 true (.sub 1 11 none (some 13)),vg 15 10 true (.mv 1),vg 16 10 true (.call 20 [14,15]),vg 17 10 true (.bin .eql 16 (kI 0)),vo 18 (.pick 10 17 (kB false)),vm 4 18]) .ret))
theorem c46:(Try.f46.body.bind fun c=>cK Try.prog 19 c) = some v46:=by kernel_rfl
def v33:VC:=(.seq (rg [vo 2 (.mv (kI 0))]) (.seq (rg [vo 3 (.mv (kI 0)),vo 4 (.mv (kI 0))]) (.seq (.seq (rg [vo 5 (.mv (kI 0))]) (.block 0 (.loop (.seq (.seq (rg [vm 8 5,vm 9 0,vo 10 (.lenS 9),vo 11 (.bin .lss 8 10)]) (.cond 11 .skip (.exit 0))) (.seq (.block 1 (.seq (rg [vm 14 0,vm 15 5,vo 16 (.ixA 5 14 15),vo 17 (.load 5 true 16),vo 6 (.alloc 40 [(iI 0),iS,(iI 0),(iI 0),(iI 0)]),vp (.store 5 6 17)]) (.seq (rg [vo 18 (.fld 1 6),vo 19 (.load 1 false 18),vo 20 (.call 48 [19]),vm 7 20]) (.seq (.seq (rg [vm 21 7,vo 22 (.bin .neq 21 (kI 0))]) (.cond 22 (.seq (rg [vm 23 7,vm 2 23]) .ret) .skip)) (.seq (.seq (rg [vo 24 (.fld 2 6),vo 25 (.load 1 false 24),vo 26 (.bin .lss 25 (kI 0)),vm 27 26,vg 28 27 false (.fld 2 6),vg 29 27 false (.load 1 false 28),vg 30 27 false (.bin .gtr 29 (kI 100000000000000)),vo 31 (.pick 27 (kB true) 30),vm 32 31,vg 33 32 false (.fld 4 6),vg 34 32 false (.load 1 false 33),vg 35 32 false (.bin .lss 34 (kI 0)),vo 36 (.pick 32 (kB true) 35),vm 37 36,vg 38 37 false (.fld 4 6),vg 39 37 false (.load 1 false 38),vg 40 37 false (.bin .gtr 39 (kI 20000)),vo 41 (.pick 37 (kB true) 40),vm 42 41,vg 43 42 false (.fld 4 6),vg 44 42 false (.load 1 false 43),vg 45 42 false (.bin .eql 44 (kI 0)),vg 46 42 false (.mv 45),vg 47 46 true (.fld 2 6),vg 48 46 true (.load 1 false 47),vg 49 46 true (.bin .neq 48 (kI 0)),vg 50 42 false (.pick 46 49 (kB false)),vo 51 (.pick 42 (kB true) 50)]) (.cond 51 (.seq (rg [vo 2 (.mv (kI 2))]) .ret) .skip)) (.seq (rg [vm 52 3,vo 53 (.fld 2 6),vo 54 (.load 1 false 53),vo 55 (.bin .add 52 54),vm 3 55]) (rg [vm 56 4,vo 57 (.fld 4 6),vo 58 (.load 1 false 57),vo 59 (.bin .add 56 58),vm 4 59]))))))) (rg [vm 12 5,vo 13 (.bin .add 12 (kI 1)),vm 5 13])))))) (.seq (.seq (rg [vm 60 3,vo 61 (.bin .gtr 60 (kI 100000000000000)),vm 62 61,vg 63 62 false (.mv 4),vg 64 62 false (.bin .gtr 63 (kI 20000)),vo 65 (.pick 62 (kB true) 64)]) (.cond 65 (.seq (rg [vo 2 (.mv (kI 2))]) .ret) .skip)) (.seq (rg [vo 2 (.mv (kI 0))]) .ret)))))
theorem c33:(Try.f33.body.bind fun c=>cK Try.prog 66 c) = some v33:=by kernel_rfl
def v49:VC:=(.seq (rg [vo 6 (.mv (kB false))]) (.seq (.block 0 (.loop (.seq (.seq (rg [vm 7 2,vo 8 (.bin .geq 7 (kI 0)),vm 9 8,vg 10 9 true (.mv 2),vg 11 9 true (.mv 1),vg 12 9 true (.bin .neq 10 11),vo 13 (.pick 9 12 (kB false))]) (.cond 13 .skip (.exit 0))) (.block 1 (rg [vm 14 0,vm 15 2,vo 16 (.ixA 5 14 15),vo 17 (.fld 0 16),vo 18 (.load 1 false 17),vm 2 18]))))) (.seq (rg [vm 19 2,vm 20 1,vo 21 (.bin .eql 19 20),vm 6 21]) .ret)))
theorem c49:(Try.f49.body.bind fun c=>cK Try.prog 22 c) = some v49:=by kernel_rfl
def v34:VC:=(.seq (rg [vo 2 (.mv (kI 0))]) (.seq (.seq (rg [vo 3 (.mv (kI 0))]) (.block 0 (.loop (.seq (.seq (rg [vm 6 3,vm 7 0,vo 8 (.lenS 7),vo 9 (.bin .lss 6 8)]) (.cond 9 .skip (.exit 0))) (.seq (.block 1 (.seq (rg [vm 12 0,vm 13 3,vo 14 (.ixA 5 12 13),vo 15 (.fld 0 14),vo 16 (.load 1 false 15),vm 4 16]) (.seq (.seq (rg [vm 17 4,vo 18 (.bin .lss 17 (kI (-1))),vm 19 18,vg 20 19 false (.mv 4),vg 21 19 false (.mv 3),vg 22 19 false (.bin .geq 20 21),vo 23 (.pick 19 (kB true) 22),vm 24 23,vg 25 24 false (.mv 4),vg 26 24 false (.bin .geq 25 (kI 0)),vg 27 24 false (.mv 26),vg 28 27 true (.mv 0),vg 29 27 true (.mv 4),vg 30 27 true (.mv 3),vg 31 27 true (.bin .sub 30 (kI 1)),vg 32 27 true (.call 49 [28,29,31]),vg 33 27 true (.un .not 32),vg 34 24 false (.pick 27 33 (kB false)),vo 35 (.pick 24 (kB true) 34)]) (.cond 35 (.seq (rg [vo 2 (.mv (kI 10))]) .ret) .skip)) (.seq (rg [vm 36 3,vo 37 (.bin .sub 36 (kI 1)),vm 5 37]) (.seq (.block 2 (.loop (.seq (.seq (rg [vm 38 5,vo 39 (.bin .geq 38 (kI 0)),vm 40 39,vg 41 40 true (.mv 0),vg 42 40 true (.mv 5),vg 43 40 true (.ixA 5 41 42),vg 44 40 true (.fld 0 43),vg 45 40 true (.load 1 false 44),vg 46 40 true (.mv 4),vg 47 40 true (.bin .neq 45 46),vo 48 (.pick 40 47 (kB false))]) (.cond 48 .skip (.exit 2))) (.block 3 (rg [vm 49 5,vo 50 (.bin .sub 49 (kI 1)),vm 5 50]))))) (.seq (.region (some [0,1,3,7,7,31,63,127,7,7,775,1799,3847,8191,16383,1,0,0,0,0,0,0,0,0,0,0,0,0,0,0]) [vm 51 5,vo 52 (.bin .geq 51 (kI 0)),vm 53 52,vg 54 53 true (.mv 0),vg 55 53 true (.mv 5),vg 56 53 true (.ixA 5 54 55),vg 57 53 true (.fld 1 56),vg 58 53 true (.load 1 false 57),vg 59 53 true (.mv 0),vg 60 53 true (.mv 3),vg 61 53 true (.ixA 5 59 60),vg 62 53 true (.fld 1 61),vg 63 53 true (.load 1 false 62),vg 64 53 true (.bin .geq 58 63),vo 65 (.pick 53 64 (kB false))]) (.cond 65 (.seq (rg [vo 2 (.mv (kI 11))]) .ret) .skip))))))) (rg [vm 10 3,vo 11 (.bin .add 10 (kI 1)),vm 3 11])))))) (.seq (rg [vo 2 (.mv (kI 0))]) .ret)))
theorem c34:(Try.f34.body.bind fun c=>cK Try.prog 66 c) = some v34:=by kernel_rfl
def v35:VC:=(.seq (rg [vo 2 (.mv (kI 0))]) (.seq (.seq (rg [vo 3 (.mv (kI 0))]) (.block 0 (.loop (.seq (.seq (rg [vm 7 3,vm 8 0,vo 9 (.lenS 8),vo 10 (.bin .lss 7 9)]) (.cond 10 .skip (.exit 0))) (.seq (.block 1 (.seq (rg [vm 13 0,vm 14 3,vo 15 (.ixA 5 13 14),vo 16 (.fld 2 15),vo 17 (.load 1 false 16),vm 4 17,vo 5 (.mv (kB true))]) (.seq (.seq (rg [vm 18 3,vo 19 (.bin .add 18 (kI 1)),vm 6 19]) (.block 2 (.loop (.seq (.seq (rg [vm 20 6,vm 21 0,vo 22 (.lenS 21),vo 23 (.bin .lss 20 22)]) (.cond 23 .skip (.exit 2))) (.seq (.block 3 (.seq (rg [vm 26 0,vm 27 6,vo 28 (.ixA 5 26 27),vo 29 (.fld 0 28),vo 30 (.load 1 false 29),vm 31 3,vo 32 (.bin .eql 30 31)]) (.cond 32 (.seq (rg [vm 33 4,vm 34 0,vm 35 6,vo 36 (.ixA 5 34 35),vo 37 (.fld 3 36),vo 38 (.load 1 false 37),vo 39 (.bin .add 33 38),vm 4 39]) (rg [vo 5 (.mv (kB false))])) .skip))) (rg [vm 24 6,vo 25 (.bin .add 24 (kI 1)),vm 6 25])))))) (.seq (rg [vm 40 5,vm 41 40,vg 42 41 true (.mv 0),vg 43 41 true (.mv 3),vg 44 41 true (.ixA 5 42 43),vg 45 41 true (.fld 4 44),vg 46 41 true (.load 1 false 45),vg 47 41 true (.bin .eql 46 (kI 0)),vo 48 (.pick 41 47 (kB false)),vm 49 48,vg 50 49 false (.mv 4),vg 51 49 false (.mv 0),vg 52 49 false (.mv 3),vg 53 49 false (.ixA 5 51 52),vg 54 49 false (.fld 3 53),vg 55 49 false (.load 1 false 54),vg 56 49 false (.bin .neq 50 55),vo 57 (.pick 49 (kB true) 56)]) (.cond 57 (.seq (rg [vo 2 (.mv (kI 10))]) .ret) .skip))))) (rg [vm 11 3,vo 12 (.bin .add 11 (kI 1)),vm 3 12])))))) (.seq (rg [vo 2 (.mv (kI 0))]) .ret)))
theorem c35:(Try.f35.body.bind fun c=>cK Try.prog 58 c) = some v35:=by kernel_rfl
def v16:VC:=(.seq (rg [vo 2 (.mv (kI 0))]) (.seq (.seq (rg [vm 4 0,vo 5 (.lenS 4),vo 6 (.bin .gtr 5 (kI 2000))]) (.cond 6 (.seq (rg [vo 2 (.mv (kI 7))]) .ret) .skip)) (.seq (rg [vm 7 0,vo 8 (.call 33 [7]),vm 3 8]) (.seq (.seq (rg [vm 9 3,vo 10 (.bin .eql 9 (kI 0))]) (.cond 10 (rg [vm 11 0,vo 12 (.call 34 [11]),vm 3 12]) .skip)) (.seq (.seq (rg [vm 13 3,vo 14 (.bin .eql 13 (kI 0))]) (.cond 14 (rg [vm 15 0,vo 16 (.call 35 [15]),vm 3 16]) .skip)) (.seq (rg [vm 17 3,vm 2 17]) .ret))))))
theorem c16:(Try.f16.body.bind fun c=>cK Try.prog 18 c) = some v16:=by kernel_rfl
def v30:VC:=(.seq (rg [vo 2 (.mv (.con (.c .nilS))),vo 3 (.mv (kI 0))]) (.seq (rg [vo 4 (.mv (.con (.c .nilS)))]) (.seq (.seq (rg [vo 5 (.mv (kI 0))]) (.block 0 (.loop (.seq (.seq (rg [vm 13 5,vm 14 0,vo 15 (.lenS 14),vo 16 (.bin .lss 13 15)]) (.cond 16 .skip (.exit 0))) (.seq (.block 1 (.seq (.seq (rg [vo 6 (.mv (kI 1))]) (.block 2 (.loop (.seq (.seq (rg [vm 19 6,vm 20 0,vm 21 5,vo 22 (.ixA 3 20 21),vo 23 (.fld 0 22),vo 24 (.load 1 false 23),vo 25 (.lenS 24),vo 26 (.bin .leq 19 25)]) (.cond 26 .skip (.exit 2))) (.seq (.block 3 (rg [vm 29 4,vm 30 0,vm 31 5,vo 32 (.ixA 3 30 31),vo 33 (.fld 0 32),vo 34 (.load 1 false 33),vm 35 6,vo 36 (.sub 1 34 none (some 35)),vo 37 (.build [.nilS,(iI 0),(iI 0)] [(0,1,36)]),vo 38 (.call 45 [29,37]),vm 4 38])) (rg [vm 27 6,vo 28 (.bin .add 27 (kI 1)),vm 6 28])))))) (rg [vm 39 4,vm 40 0,vm 41 5,vo 42 (.ixA 3 40 41),vo 43 (.load 3 true 42),vo 44 (.call 45 [39,43]),vm 4 44]))) (rg [vm 17 5,vo 18 (.bin .add 17 (kI 1)),vm 5 18])))))) (.seq (rg [vo 7 (.mv (.con (.c .nilS)))]) (.seq (.seq (rg [vo 8 (.mv (kI 0))]) (.block 4 (.loop (.seq (.seq (rg [vm 45 8,vm 46 4,vo 47 (.lenS 46),vo 48 (.bin .lss 45 47)]) (.cond 48 .skip (.exit 4))) (.seq (.block 5 (.seq (rg [vm 51 4,vm 52 8,vo 53 (.ixA 3 51 52),vo 54 (.fld 0 53),vo 55 (.load 1 false 54),vm 9 55]) (.seq (.region (some [0,0,2,6,15,31,0,0,192,448,960,0,0,6144,14336,30720,65535,0,262143,1,1,0,0,0,0,1,1,0,0,0,1,1,0,0,0,0,0,0]) [vm 56 9,vm 57 9,vo 58 (.lenS 57),vo 59 (.bin .sub 58 (kI 1)),vo 60 (.ixA 1 56 59),vo 61 (.load 1 false 60),vm 62 4,vm 63 8,vo 64 (.ixA 3 62 63),vo 65 (.fld 1 64),vo 66 (.load 1 false 65),vm 67 4,vm 68 8,vo 69 (.ixA 3 67 68),vo 70 (.fld 2 69),vo 71 (.load 1 false 70),vo 72 (.build [(iI 0),iS,(iI 0),(iI 0),(iI 0)] [(0,1,(kI (-1))),(1,1,61),(2,1,66),(4,1,71)]),vo 10 (.alloc 40 [(iI 0),iS,(iI 0),(iI 0),(iI 0)]),vp (.store 5 10 72)]) (.seq (.seq (rg [vo 11 (.mv (kI 0))]) (.block 6 (.loop (.seq (.seq (rg [vm 73 11,vm 74 4,vo 75 (.lenS 74),vo 76 (.bin .lss 73 75)]) (.cond 76 .skip (.exit 6))) (.seq (.block 7 (.seq (.seq (rg [vm 79 4,vm 80 11,vo 81 (.ixA 3 79 80),vo 82 (.fld 0 81),vo 83 (.load 1 false 82),vm 84 9,vo 85 (.call 46 [83,84])]) (.cond 85 (.region (some [0,1,0,0,12,28,60,127,255,511,0,0,1,1,0,0,0,0,0,0]) [vo 86 (.fld 3 10),vo 87 (.load 1 false 86),vm 88 4,vm 89 11,vo 90 (.ixA 3 88 89),vo 91 (.fld 1 90),vo 92 (.load 1 false 91),vo 93 (.bin .add 87 92),vo 94 (.fld 3 10),vp (.store 1 94 93)]) .skip)) (.seq (.region (some [0,1,3,7,15,15,63,127,255,15,15,1039,3087,7695,16383,32767,65535,1,0,0,0,0,0,0,0,0,0,0,0,0,0,0,0,0]) [vm 95 9,vo 96 (.lenS 95),vo 97 (.bin .gtr 96 (kI 1)),vm 98 97,vg 99 98 true (.mv 4),vg 100 98 true (.mv 11),vg 101 98 true (.ixA 3 99 100),vg 102 98 true (.fld 0 101),vg 103 98 true (.load 1 false 102),vg 104 98 true (.mv 9),vg 105 98 true (.mv 9),vg 106 98 true (.lenS 105),vg 107 98 true (.bin .sub 106 (kI 1)),vg 108 98 true (.sub 1 104 none (some 107)),vg 109 98 true (.call 20 [103,108]),vg 110 98 true (.bin .eql 109 (kI 0)),vo 111 (.pick 98 110 (kB false))]) (.cond 111 (rg [vm 112 11,vo 113 (.fld 0 10),vp (.store 1 113 112)]) .skip)))) (rg [vm 77 11,vo 78 (.bin .add 77 (kI 1)),vm 11 78])))))) (rg [vm 114 7,vo 115 (.load 5 true 10),vo 116 (.bsl 40 5 1 [(iI 0),iS,(iI 0),(iI 0),(iI 0)] [(0,5,115)]),vo 117 (.app 40 5 48 114 116),vm 7 117]))))) (rg [vm 49 8,vo 50 (.bin .add 49 (kI 1)),vm 8 50])))))) (.seq (rg [vm 118 7,vo 119 (.call 16 [118]),vm 12 119]) (.seq (.seq (rg [vm 120 12,vo 121 (.bin .neq 120 (kI 0))]) (.cond 121 (.seq (rg [vm 122 12,vo 2 (.mv (.con (.c .nilS))),vm 3 122]) .ret) .skip)) (.seq (rg [vm 123 7,vm 2 123,vo 3 (.mv (kI 0))]) .ret))))))))
theorem c30:(Try.f30.body.bind fun c=>cK Try.prog 124 c) = some v30:=by kernel_rfl
def v11:VC:=(.seq (rg [vo 2 (.mv (.con (.c .nilS))),vo 3 (.mv (kI 0))]) (.seq (rg [vm 7 0,vo 8 (.call 29 [7]),vm 4 8]) (.seq (.seq (rg [vm 9 4,vo 10 (.bin .neq 9 (kI 0))]) (.cond 10 (.seq (rg [vm 11 4,vo 2 (.mv (.con (.c .nilS))),vm 3 11]) .ret) .skip)) (.seq (rg [vo 5 (.mv (.con (.c .nilS)))]) (.seq (.seq (rg [vo 6 (.mv (kI 0))]) (.block 0 (.loop (.seq (.seq (rg [vm 12 6,vm 13 0,vo 14 (.lenS 13),vo 15 (.bin .lss 12 14)]) (.cond 15 .skip (.exit 0))) (.seq (.block 1 (.seq (rg [vm 18 0,vm 19 6,vo 20 (.ixA 4 18 19),vo 21 (.fld 3 20),vo 22 (.load 1 false 21),vo 23 (.lenS 22),vo 24 (.bin .gtr 23 (kI 0))]) (.cond 24 (.region (some [0,0,0,6,14,30,0,0,192,448,960,2046,4094,8191,16383,1,1,1,0,0,0,1,1,0,0,0,0,0,0,0]) [vm 25 5,vm 26 0,vm 27 6,vo 28 (.ixA 4 26 27),vo 29 (.fld 3 28),vo 30 (.load 1 false 29),vm 31 0,vm 32 6,vo 33 (.ixA 4 31 32),vo 34 (.fld 2 33),vo 35 (.load 1 false 34),vo 36 (.build [.nilS,(iI 0),(iI 0)] [(0,1,30),(1,1,35),(2,1,(kI 1))]),vo 37 (.bsl 58 3 1 [.nilS,(iI 0),(iI 0)] [(0,3,36)]),vo 38 (.app 58 3 40 25 37),vm 5 38]) .skip))) (rg [vm 16 6,vo 17 (.bin .add 16 (kI 1)),vm 6 17])))))) (.seq (rg [vm 39 5,vo 40 (.call 30 [39]),vo 41 (.ext 40 0),vo 42 (.ext 40 1),vm 2 41,vm 3 42]) .ret))))))
theorem c11:(Try.f11.body.bind fun c=>cK Try.prog 43 c) = some v11:=by kernel_rfl
def v13:VC:=(.seq (rg [vo 2 (.mv (kI 0))]) (.seq (.seq (rg [vm 6 0,vo 7 (.call 14 [6]),vo 8 (.bin .neq 7 (kI 0))]) (.cond 8 (.seq (rg [vo 2 (.mv (kI 0))]) .ret) .skip)) (.seq (rg [vo 3 (.mv (kI 0))]) (.seq (.seq (rg [vm 9 0,vo 10 (.lenS 9),vo 11 (.mv (kI 0))]) (.block 0 (.loop (.seq (rg [vo 12 (.bin .lss 11 10)]) (.seq (.cond 12 .skip (.exit 0)) (.seq (.block 1 (.seq (rg [vo 13 (.ixA 5 9 11),vo 14 (.load 5 true 13),vo 5 (.alloc 40 [(iI 0),iS,(iI 0),(iI 0),(iI 0)]),vp (.store 5 5 14)]) (rg [vm 15 3,vo 16 (.fld 2 5),vo 17 (.load 1 false 16),vo 18 (.bin .add 15 17),vm 3 18]))) (rg [vo 19 (.bin .add 11 (kI 1)),vm 11 19]))))))) (.seq (rg [vm 20 3,vm 2 20]) .ret)))))
theorem c13:(Try.f13.body.bind fun c=>cK Try.prog 21 c) = some v13:=by kernel_rfl
def v3:VC:=(.seq (rg [vo 2 (.mv (kB false))]) (.seq (.seq (rg [vo 9 (.call 8 []),vo 10 (.un .not 9),vm 11 10,vg 12 11 false (.mv 0),vg 13 11 false (.call 9 [12]),vg 14 11 false (.un .not 13),vo 15 (.pick 11 (kB true) 14),vm 16 15,vg 17 16 false (.mv 0),vg 18 16 false (.lenS 17),vg 19 16 false (.bin .gtr 18 (kI 20)),vo 20 (.pick 16 (kB true) 19)]) (.cond 20 (.seq (rg [vo 21 (.call 8 []),vm 2 21]) .ret) .skip)) (.seq (rg [vm 23 0,vo 24 (.call 10 [23]),vm 22 24,vo 25 (.ext 22 0),vo 26 (.ext 22 1),vm 3 25,vm 4 26]) (.seq (rg [vm 28 0,vo 29 (.call 11 [28]),vm 27 29,vo 30 (.ext 27 0),vo 31 (.ext 27 1),vm 5 30,vm 6 31]) (.seq (.seq (rg [vm 32 4,vm 33 6,vo 34 (.bin .neq 32 33),vm 35 34,vg 36 35 false (.mv 3),vg 37 35 false (.mv 5),vg 38 35 false (.call 12 [36,37]),vg 39 35 false (.un .not 38),vo 40 (.pick 35 (kB true) 39)]) (.cond 40 (.seq (rg [vo 2 (.mv (kB false))]) .ret) .skip)) (.seq (rg [vo 7 (.mv (kI 0))]) (.seq (.seq (rg [vo 8 (.mv (kI 0))]) (.block 0 (.loop (.seq (.seq (rg [vm 41 8,vm 42 0,vo 43 (.lenS 42),vo 44 (.bin .lss 41 43)]) (.cond 44 .skip (.exit 0))) (.seq (.block 1 (.seq (rg [vm 47 0,vm 48 8,vo 49 (.ixA 4 47 48),vo 50 (.fld 3 49),vo 51 (.load 1 false 50),vo 52 (.lenS 51),vo 53 (.bin .gtr 52 (kI 0))]) (.cond 53 (rg [vm 54 7,vm 55 0,vm 56 8,vo 57 (.ixA 4 55 56),vo 58 (.fld 2 57),vo 59 (.load 1 false 58),vo 60 (.bin .add 54 59),vm 7 60]) .skip))) (rg [vm 45 8,vo 46 (.bin .add 45 (kI 1)),vm 8 46])))))) (.seq (rg [vm 61 4,vo 62 (.bin .neq 61 (kI 0)),vm 63 62,vg 64 63 false (.mv 3),vg 65 63 false (.call 13 [64]),vg 66 63 false (.mv 7),vg 67 63 false (.bin .eql 65 66),vg 68 63 false (.mv 67),vg 69 68 true (.mv 3),vg 70 68 true (.call 14 [69]),vg 71 68 true (.bin .eql 70 (kI 0)),vg 72 63 false (.pick 68 71 (kB false)),vo 73 (.pick 63 (kB true) 72),vm 2 73]) .ret))))))))
theorem c3:(Try.f3.body.bind fun c=>cK Try.prog 74 c) = some v3:=by kernel_rfl
def hY:Option Bool:=some true
theorem jV (r:Bool) (hF:hY = some r):Fun Try.prog 8 true [] [] noHeap (cB r) noHeap:=by
 cases hF
 exact Go.RM.awake50 true
def nW (p0:A2):Int→Option (Int ⊕ (Unit ⊕ Bool)):=fun a11 =>
  (bif (decide (a11 < (List.length p0.fStack:Int))) then ((idx p0.fStack a11).bind fun y15=>(bif (decide (200 < (ByteArray.size y15:Int))) then some (.inr (.inr false)) else some (.inl (w64 (a11 + 1))))) else some (.inr (.inl ())))
def kz (p0:A2):Option Bool :=
  (((bif (decide (200 < (ByteArray.size p0.fName:Int))) then some true else some (decide (60 < (List.length p0.fStack:Int)))):Option Bool).bind fun v1=>(bif v1 then some false else ((loop (nW p0) 0).bind fun | .inl _=>some true | .inr rv=>some rv)))
theorem DZ (p0:A2) (r:Bool) (hF:kz p0 = some r):Fun Try.prog 25 true [] [.agg (Iq p0)] noHeap (cB r) noHeap:=by
 refine Fun.of_walk0 Try.func25 c25 (by kernel_rfl) (rs:=[.tmp 2]) (by kernel_rfl) ?_; unfold v25
 unfold kz at hF
 refine wA rfl ?_; refine aJ ?_; refine aJ ?_; refine d6 (fun _ _ h=>h) hF (fun v1=>[(1,cP (1,0) 0),(13,cB v1)]) (fun v1=>[((1,0),.box (Iq p0))]) ?_ ?_
 · rintro v1 hF
   refine wIf hF rfl (fun _ hF=>?_) fun _ hF=>?_
   · refine wA rfl ?_; cases hF
     exact cj wR
   refine bz ?_; refine aJ ?_; refine wA rfl ?_; refine l4 (fun _ _ h=>h) hF (.inl) (fun a11=>[(1,cP (1,0) 0),(3,cI a11)]) (fun a11=>[((1,0),.box (Iq p0))]) (fun _=>[]) (fun _=>[]) sw ?_ ?_
   · rintro ⟨⟩ hF
     refine wA rfl ?_; cases hF
     exact cj wR
   rintro a11 x_0 hF cont_0 brk_0 fin_0
   unfold nW at hF
   refine aJ ?_; refine wC 3 rfl ?_; refine rS (eJ (tc:=d7) p0.fStack .tree ?_); refine QV rfl ?_; refine wIf hF rfl (fun _ hF=>?_) fun _ hF=>?_
   · refine bz ?_; refine aJ ?_; refine eZ ?_; refine wC 3 rfl ?_; obtain ⟨y15,hy15,hF⟩:=bB hF
     refine rS (eW (tc:=d7) p0.fStack rfl rfl hy15 ?_); refine QV rfl ?_; refine wIf hF rfl (fun _ hF=>?_) fun _ hF=>?_
     · refine wA rfl ?_; have hF:=fin_0 _ (oi hF); cases hF
       exact cj wR
     refine bz ?_; refine wB rfl ?_; exact cont_0 _ _ _ (oi hF) sw
   refine hZ ?_; refine aY ?_; refine aY ?_; refine b8 ?_; exact brk_0 _ _ _ (oi hF) sw
 intro join hF
 refine wD 5 rfl ?_; cases h19:(decide (200 < (ByteArray.size p0.fName:Int)))
 · have hF:=bF' h19 hF; refine aW SV 2 rfl ?_; refine bQ SV rfl (eJ (tc:=d7) p0.fStack .tree ?_); refine QV rfl ?_; exact join (decide (60 < (List.length p0.fStack:Int))) _ _ hF sw
 have hF:=bT' h19 hF; refine QV rfl ?_; exact join true _ _ hF sw
def p3 (p0:(List aK)):Int→Option (Int ⊕ (Unit ⊕ Bool)):=fun a12 =>
  (bif (decide (a12 < (List.length p0:Int))) then ((idx p0 a12).bind fun y17=>((kz ({ fAt:=0,fKind:=0,fName:=(⟨#[]⟩ : ByteArray),fN:=0,fM:=0,fStack:=y17.fStack }:A2)).bind fun r18=>(bif (!r18) then some (.inr (.inr false)) else some (.inl (w64 (a12 + 1)))))) else some (.inr (.inl ())))
def hJ (p0:(List aK)):Option Bool :=
  (bif (decide (40 < (List.length p0:Int))) then some false else ((loop (p3 p0) 0).bind fun | .inl _=>some true | .inr rv=>some rv))
theorem o5 (p0:(List aK)) (r:Bool) (hF:hJ p0 = some r):Fun Try.prog 9 true [] [cL 4 aV p0] noHeap (cB r) noHeap:=by
 refine Fun.of_walk0 Try.func9 c9 (by kernel_rfl) (rs:=[.tmp 2]) (by kernel_rfl) ?_; unfold v9
 unfold hJ at hF
 refine wA rfl ?_; refine aJ ?_; refine wC 1 rfl ?_; refine rS (eJ (tc:=aV) p0 .tree ?_); refine QV rfl ?_; refine wIf hF rfl (fun _ hF=>?_) fun _ hF=>?_
 · refine wA rfl ?_; cases hF
   exact cj wR
 refine bz ?_; refine aJ ?_; refine wA rfl ?_; refine l4 (fun _ _ h=>h) hF (.inl) (fun a12=>[(0,cL 4 aV p0),(3,cI a12)]) (fun a12=>[]) (fun _=>[]) (fun _=>[]) sw ?_ ?_
 · rintro ⟨⟩ hF
   refine wA rfl ?_; cases hF
   exact cj wR
 rintro a12 x_0 hF cont_0 brk_0 fin_0
 unfold p3 at hF
 refine aJ ?_; refine wC 2 rfl ?_; refine rS (eJ (tc:=aV) p0 .tree ?_); refine QV rfl ?_; refine wIf hF rfl (fun _ hF=>?_) fun _ hF=>?_
 · refine bz ?_; refine aJ ?_; refine eZ ?_; refine wC 2 rfl ?_; obtain ⟨y17,hy17,hF⟩:=bB hF
   refine rS (eW (tc:=aV) p0 rfl rfl hy17 ?_); refine aW SV 3 rfl ?_; obtain ⟨r18,hr18,hF⟩:=bB hF
   refine rS (dQ (DZ _ _ hr18) ⟨⟨rfl,rfl,rfl,rfl,rfl,rfl,trivial⟩,trivial⟩ rfl (.inl rfl) ?_); refine QV rfl ?_; refine wIf hF rfl (fun _ hF=>?_) fun _ hF=>?_
   · refine wA rfl ?_; have hF:=fin_0 _ (oi hF); cases hF
     exact cj wR
   refine bz ?_; refine wB rfl ?_; exact cont_0 _ _ _ (oi hF) sw
 refine hZ ?_; refine aY ?_; refine aY ?_; refine b8 ?_; exact brk_0 _ _ _ (oi hF) sw
def jQ (p0:ByteArray) (p1:Int):Option Int:=some (Go.Lib.indexByte p0.data.toList p1.toNat.toUInt8)
theorem uz (p0:ByteArray) (p1:Int) (r:Int) (hF:jQ p0 p1 = some r):Fun Try.prog 68 true [] [.c (jS p0),.c (.imm (.sc (.int .u8 p1)))] noHeap (cI r) noHeap:=by
 cases hF
 refine Fun.of_plain [.string p0,.int .u8 p1] (.int .i64 (Go.Lib.indexByte p0.data.toList p1.toNat.toUInt8)) (fun w=>?_) rfl
 go_enter Try.func68,Try.ntmps68; go_wp2; rw [run_callFunc_extern Try.func75 (by kernel_rfl) (by kernel_rfl) (by kernel_rfl) (e:=Extern.BytealgIndexByte.indexByte) (by kernel_rfl),Go.Lib.run_indexByteString]
 simp only [Result.andThen]; rw [Oper.upon_value]; go_wp2; go_ret; exact ⟨rfl,rfl⟩
def dW (p0:ByteArray) (p1:Int):Option Int :=
  ((jQ p0 p1).bind fun r1=>some r1)
theorem d8 (p0:ByteArray) (p1:Int) (r:Int) (hF:dW p0 p1 = some r):Fun Try.prog 56 true [] [.c (jS p0),.c (.imm (.sc (.int .u8 p1)))] noHeap (cI r) noHeap:=by
 refine Fun.of_walk0 Try.func56 c56 (by kernel_rfl) (rs:=[.tmp 4]) (by kernel_rfl) ?_; unfold v56
 unfold dW at hF
 refine wA rfl ?_; refine wC 2 rfl ?_; obtain ⟨r1,hr1,hF⟩:=bB hF
 refine rS (dQ (uz _ _ _ hr1) ⟨rfl,rfl,trivial⟩ rfl (.inl rfl) ?_); refine QV rfl ?_; cases hF
 exact cj wR
def m7 (p0:Int):Option Bool :=
  (((bif (decide (97≤p0)) then (bif (decide (p0≤122)) then some true else (bif (decide (65≤p0)) then (bif (decide (p0≤90)) then some true else (bif (decide (48≤p0)) then (bif (decide (p0≤57)) then some true else ((dW (⟨#[95,46,58,47,60,62,36,42,126,45]⟩ : ByteArray) p0).bind fun r23=>some (decide (0≤r23)))) else ((dW (⟨#[95,46,58,47,60,62,36,42,126,45]⟩ : ByteArray) p0).bind fun r21=>some (decide (0≤r21))))) else (bif (decide (48≤p0)) then (bif (decide (p0≤57)) then some true else ((dW (⟨#[95,46,58,47,60,62,36,42,126,45]⟩ : ByteArray) p0).bind fun r18=>some (decide (0≤r18)))) else ((dW (⟨#[95,46,58,47,60,62,36,42,126,45]⟩ : ByteArray) p0).bind fun r16=>some (decide (0≤r16)))))) else (bif (decide (65≤p0)) then (bif (decide (p0≤90)) then some true else (bif (decide (48≤p0)) then (bif (decide (p0≤57)) then some true else ((dW (⟨#[95,46,58,47,60,62,36,42,126,45]⟩ : ByteArray) p0).bind fun r12=>some (decide (0≤r12)))) else ((dW (⟨#[95,46,58,47,60,62,36,42,126,45]⟩ : ByteArray) p0).bind fun r10=>some (decide (0≤r10))))) else (bif (decide (48≤p0)) then (bif (decide (p0≤57)) then some true else ((dW (⟨#[95,46,58,47,60,62,36,42,126,45]⟩ : ByteArray) p0).bind fun r7=>some (decide (0≤r7)))) else ((dW (⟨#[95,46,58,47,60,62,36,42,126,45]⟩ : ByteArray) p0).bind fun r5=>some (decide (0≤r5)))))):Option Bool).bind fun v1=>some v1)
theorem P5 (p0:Int) (r:Bool) (hF:m7 p0 = some r):Fun Try.prog 52 true [] [.c (.imm (.sc (.int .u8 p0)))] noHeap (cB r) noHeap:=by
 refine Fun.of_walk0 Try.func52 c52 (by kernel_rfl) (rs:=[.tmp 2]) (by kernel_rfl) ?_; unfold v52
 unfold m7 at hF
 refine wA rfl ?_; refine aJ ?_; refine d6 (fun _ _ h=>h) hF (fun v1=>[(2,cB v1)]) (fun v1=>[]) ?_ ?_
 · rintro v1 hF
   cases hF
   exact cj wR
 intro join hF
 refine wD 3 rfl ?_; cases h2:(decide (97≤p0))
 · have hF:=bF' h2 hF; refine aW SV 7 rfl ?_; cases h3:(decide (65≤p0))
   · have hF:=bF' h3 hF; refine aW SV 8 rfl ?_; cases h4:(decide (48≤p0))
     · have hF:=bF' h4 hF; refine aW SV 6 rfl ?_; obtain ⟨r5,hr5,hF⟩:=bB' hF
       refine bQ SV rfl (dQ (d8 _ _ _ hr5) ⟨rfl,rfl,trivial⟩ rfl (.inl rfl) ?_); refine QV rfl ?_; exact join (decide (0≤r5)) _ _ hF sw
     have hF:=bT' h4 hF; refine aW SV 5 rfl ?_; cases h6:(decide (p0≤57))
     · have hF:=bF' h6 hF; refine aW SV 1 rfl ?_; obtain ⟨r7,hr7,hF⟩:=bB' hF
       refine bQ SV rfl (dQ (d8 _ _ _ hr7) ⟨rfl,rfl,trivial⟩ rfl (.inl rfl) ?_); refine QV rfl ?_; exact join (decide (0≤r7)) _ _ hF sw
     have hF:=bT' h6 hF; refine QV rfl ?_; exact join true _ _ hF sw
   have hF:=bT' h3 hF; refine aW SV 5 rfl ?_; cases h8:(decide (p0≤90))
   · have hF:=bF' h8 hF; refine aW SV 3 rfl ?_; cases h9:(decide (48≤p0))
     · have hF:=bF' h9 hF; refine aW SV 6 rfl ?_; obtain ⟨r10,hr10,hF⟩:=bB' hF
       refine bQ SV rfl (dQ (d8 _ _ _ hr10) ⟨rfl,rfl,trivial⟩ rfl (.inl rfl) ?_); refine QV rfl ?_; exact join (decide (0≤r10)) _ _ hF sw
     have hF:=bT' h9 hF; refine aW SV 5 rfl ?_; cases h11:(decide (p0≤57))
     · have hF:=bF' h11 hF; refine aW SV 1 rfl ?_; obtain ⟨r12,hr12,hF⟩:=bB' hF
       refine bQ SV rfl (dQ (d8 _ _ _ hr12) ⟨rfl,rfl,trivial⟩ rfl (.inl rfl) ?_); refine QV rfl ?_; exact join (decide (0≤r12)) _ _ hF sw
     have hF:=bT' h11 hF; refine QV rfl ?_; exact join true _ _ hF sw
   have hF:=bT' h8 hF; refine QV rfl ?_; exact join true _ _ hF sw
 have hF:=bT' h2 hF; refine aW SV 4 rfl ?_; cases h13:(decide (p0≤122))
 · have hF:=bF' h13 hF; refine aW SV 3 rfl ?_; cases h14:(decide (65≤p0))
   · have hF:=bF' h14 hF; refine aW SV 8 rfl ?_; cases h15:(decide (48≤p0))
     · have hF:=bF' h15 hF; refine aW SV 6 rfl ?_; obtain ⟨r16,hr16,hF⟩:=bB' hF
       refine bQ SV rfl (dQ (d8 _ _ _ hr16) ⟨rfl,rfl,trivial⟩ rfl (.inl rfl) ?_); refine QV rfl ?_; exact join (decide (0≤r16)) _ _ hF sw
     have hF:=bT' h15 hF; refine aW SV 5 rfl ?_; cases h17:(decide (p0≤57))
     · have hF:=bF' h17 hF; refine aW SV 1 rfl ?_; obtain ⟨r18,hr18,hF⟩:=bB' hF
       refine bQ SV rfl (dQ (d8 _ _ _ hr18) ⟨rfl,rfl,trivial⟩ rfl (.inl rfl) ?_); refine QV rfl ?_; exact join (decide (0≤r18)) _ _ hF sw
     have hF:=bT' h17 hF; refine QV rfl ?_; exact join true _ _ hF sw
   have hF:=bT' h14 hF; refine aW SV 5 rfl ?_; cases h19:(decide (p0≤90))
   · have hF:=bF' h19 hF; refine aW SV 3 rfl ?_; cases h20:(decide (48≤p0))
     · have hF:=bF' h20 hF; refine aW SV 6 rfl ?_; obtain ⟨r21,hr21,hF⟩:=bB' hF
       refine bQ SV rfl (dQ (d8 _ _ _ hr21) ⟨rfl,rfl,trivial⟩ rfl (.inl rfl) ?_); refine QV rfl ?_; exact join (decide (0≤r21)) _ _ hF sw
     have hF:=bT' h20 hF; refine aW SV 5 rfl ?_; cases h22:(decide (p0≤57))
     · have hF:=bF' h22 hF; refine aW SV 1 rfl ?_; obtain ⟨r23,hr23,hF⟩:=bB' hF
       refine bQ SV rfl (dQ (d8 _ _ _ hr23) ⟨rfl,rfl,trivial⟩ rfl (.inl rfl) ?_); refine QV rfl ?_; exact join (decide (0≤r23)) _ _ hF sw
     have hF:=bT' h22 hF; refine QV rfl ?_; exact join true _ _ hF sw
   have hF:=bT' h19 hF; refine QV rfl ?_; exact join true _ _ hF sw
 have hF:=bT' h13 hF; refine QV rfl ?_; exact join true _ _ hF sw
def lZ (p0:ByteArray):Int→Option (Int ⊕ (Unit ⊕ Int)):=fun a13 =>
  (bif (decide (a13 < (ByteArray.size p0:Int))) then ((idx (ByteArray.data p0).toList a13).bind fun y18=>((m7 (UInt8.toNat y18:Int)).bind fun r19=>(bif (!r19) then some (.inr (.inr 3)) else some (.inl (w64 (a13 + 1)))))) else some (.inr (.inl ())))
def c6 (p0:ByteArray):Option Int :=
  (((bif (decide (p0 = (⟨#[]⟩ : ByteArray))) then some true else some (decide (40 < (ByteArray.size p0:Int)))):Option Bool).bind fun v1=>(bif v1 then some 3 else ((loop (lZ p0) 0).bind fun | .inl _=>some 0 | .inr rv=>some rv)))
theorem HX (p0:ByteArray) (r:Int) (hF:c6 p0 = some r):Fun Try.prog 47 true [] [.c (jS p0)] noHeap (cI r) noHeap:=by
 refine Fun.of_walk0 Try.func47 c47 (by kernel_rfl) (rs:=[.tmp 2]) (by kernel_rfl) ?_; unfold v47
 unfold c6 at hF
 refine wA rfl ?_; refine aJ ?_; refine aJ ?_; refine d6 (fun _ _ h=>h) hF (fun v1=>[(0,.c (jS p0)),(10,cB v1)]) (fun v1=>[]) ?_ ?_
 · rintro v1 hF
   refine wIf hF rfl (fun _ hF=>?_) fun _ hF=>?_
   · refine wA rfl ?_; cases hF
     exact cj wR
   refine bz ?_; refine aJ ?_; refine wA rfl ?_; refine l4 (fun _ _ h=>h) hF (.inl) (fun a13=>[(0,.c (jS p0)),(12,cI (ByteArray.size p0:Int)),(13,cI a13)]) (fun a13=>[]) (fun _=>[]) (fun _=>[]) sw ?_ ?_
   · rintro ⟨⟩ hF
     refine wA rfl ?_; cases hF
     exact cj wR
   rintro a13 x_0 hF cont_0 brk_0 fin_0
   unfold lZ at hF
   refine wA rfl ?_; refine aJ ?_; refine wIf hF rfl (fun _ hF=>?_) fun _ hF=>?_
   · refine bz ?_; refine aJ ?_; refine eZ ?_; refine wA rfl ?_; refine wC 2 rfl ?_; obtain ⟨y18,hy18,hF⟩:=bB hF
     refine rS (aLY p0 rfl rfl hy18 ?_); obtain ⟨r19,hr19,hF⟩:=bB hF
     refine rS (dQ (P5 _ _ hr19) ⟨rfl,trivial⟩ rfl (.inl rfl) ?_); refine QV rfl ?_; refine wIf hF rfl (fun _ hF=>?_) fun _ hF=>?_
     · refine wA rfl ?_; have hF:=fin_0 _ (oi hF); cases hF
       exact cj wR
     refine bz ?_; refine wB rfl ?_; exact cont_0 _ _ _ (oi hF) sw
   refine hZ ?_; refine aY ?_; refine aY ?_; refine b8 ?_; exact brk_0 _ _ _ (oi hF) sw
 intro join hF
 refine wD 3 rfl ?_; cases h23:(decide (p0 = (⟨#[]⟩ : ByteArray)))
 · have hF:=bF' h23 hF; refine QV rfl ?_; exact join (decide (40 < (ByteArray.size p0:Int))) _ _ hF sw
 have hF:=bT' h23 hF; refine QV rfl ?_; exact join true _ _ hF sw
def l8 (p0:(List ax)):(Int × Int × Int)→Option ((Int × Int × Int) ⊕ ((Int × Int) ⊕ Int)):=fun (a32,a33,a34) =>
  (bif (decide (a34 < (List.length p0:Int))) then ((idx p0 a34).bind fun y51=>((c6 y51.fName).bind fun r52=>(bif (!decide (r52 = 0)) then some (.inr (.inr r52)) else (((bif (decide (y51.fSelf < 0)) then some true else (bif (decide (100000000000000 < y51.fSelf)) then some true else (bif (decide (y51.fCount < 0)) then some true else (bif (decide (20000 < y51.fCount)) then some true else (bif (decide (y51.fCount = 0)) then some (!decide (y51.fSelf = 0)) else some false))))):Option Bool).bind fun v53=>(bif v53 then some (.inr (.inr 2)) else some (.inl ((w64 (a32 + y51.fSelf)),(w64 (a33 + y51.fCount)),(w64 (a34 + 1))))))))) else some (.inr (.inl (a32,a33))))
def k9 (p0:(List ax)):Option Int :=
  ((loop (l8 p0) (0,0,0)).bind fun | .inl (e46,e47)=>(((bif (decide (100000000000000 < e46)) then some true else some (decide (20000 < e47))):Option Bool).bind fun v48=>(bif v48 then some 2 else some 0)) | .inr rv=>some rv)
theorem R2 (p0:(List ax)) (r:Int) (hF:k9 p0 = some r):Fun Try.prog 31 true [] [cL 5 az p0] noHeap (cI r) noHeap:=by
 refine Fun.of_walk0 Try.func31 c31 (by kernel_rfl) (rs:=[.tmp 2]) (by kernel_rfl) ?_; unfold v31
 unfold k9 at hF
 refine wA rfl ?_; refine wA rfl ?_; refine aJ ?_; refine wC 1 rfl ?_; refine rS (eJ (tc:=az) p0 .tree ?_); refine QV rfl ?_; refine l4 (fun _ _ h=>h) hF (.inl) (fun (a32,a33,a34)=>[(3,cI a32),(4,cI a33),(8,cL 5 az p0),(9,cI (List.length p0:Int)),(10,cI a34)]) (fun (a32,a33,a34)=>[]) (fun (e46,e47)=>[(3,cI e46),(4,cI e47)]) (fun (e46,e47)=>[]) sw ?_ ?_
 · rintro ⟨e46,e47⟩ hF
   refine aJ ?_; refine aJ ?_; refine d6 (fun _ _ h=>h) hF (fun v48=>[(62,cB v48)]) (fun v48=>[]) ?_ ?_
   · rintro v48 hF
     refine wIf hF rfl (fun _ hF=>?_) fun _ hF=>?_
     · refine wA rfl ?_; cases hF
       exact cj wR
     refine bz ?_; refine wA rfl ?_; cases hF
     exact cj wR
   intro join hF
   refine wD 3 rfl ?_; cases h50:(decide (100000000000000 < e46))
   · have hF:=bF' h50 hF; refine QV rfl ?_; exact join (decide (20000 < e47)) _ _ hF sw
   have hF:=bT' h50 hF; refine QV rfl ?_; exact join true _ _ hF sw
 rintro ⟨a32,a33,a34⟩ x_0 hF cont_0 brk_0 fin_0
 unfold l8 at hF
 refine wA rfl ?_; refine aJ ?_; refine wIf hF rfl (fun _ hF=>?_) fun _ hF=>?_
 · refine bz ?_; refine aJ ?_; refine eZ ?_; refine wE ?_; obtain ⟨y51,hy51,hF⟩:=bB hF
   refine rS (eW (tc:=az) p0 rfl rfl hy51 ?_); refine QV rfl ?_; refine aJ ?_; refine wC 2 rfl ?_; obtain ⟨r52,hr52,hF⟩:=bB hF
   refine rS (dQ (HX _ _ hr52) ⟨rfl,trivial⟩ rfl (.inl rfl) ?_); refine QV rfl ?_; refine wA rfl ?_; refine wIf hF rfl (fun _ hF=>?_) fun _ hF=>?_
   · refine wA rfl ?_; have hF:=fin_0 _ (oi hF); cases hF
     exact cj wR
   refine bz ?_; refine aJ ?_; refine aJ ?_; refine d6 (fun _ _ h=>h) hF (fun v53=>[(3,cI a32),(4,cI a33),(6,cP (6,0) 0),(8,cL 5 az p0),(9,cI (List.length p0:Int)),(10,cI a34),(47,cB v53)]) (fun v53=>[((6,0),.box (xY y51))]) ?_ ?_
   · rintro v53 hF
     refine wIf hF rfl (fun _ hF=>?_) fun _ hF=>?_
     · refine wA rfl ?_; have hF:=fin_0 _ (oi hF); cases hF
       exact cj wR
     refine bz ?_; refine q0 (by decide) (by kernel_rfl) rfl ?_; refine QP rfl ?_; refine wB rfl ?_; exact cont_0 _ _ _ (oi hF) sw
   intro join hF
   refine wD 4 rfl ?_; cases h55:(decide (y51.fSelf < 0))
   · have hF:=bF' h55 hF; refine aW SV 5 rfl ?_; cases h56:(decide (100000000000000 < y51.fSelf))
     · have hF:=bF' h56 hF; refine aW SV 5 rfl ?_; cases h57:(decide (y51.fCount < 0))
       · have hF:=bF' h57 hF; refine aW SV 5 rfl ?_; cases h58:(decide (20000 < y51.fCount))
         · have hF:=bF' h58 hF; refine aW SV 4 rfl ?_; cases h59:(decide (y51.fCount = 0))
           · have hF:=bF' h59 hF; refine QV rfl ?_; exact join false _ _ hF sw
           have hF:=bT' h59 hF; refine QV rfl ?_; exact join (!decide (y51.fSelf = 0)) _ _ hF sw
         have hF:=bT' h58 hF; refine QV rfl ?_; exact join true _ _ hF sw
       have hF:=bT' h57 hF; refine QV rfl ?_; exact join true _ _ hF sw
     have hF:=bT' h56 hF; refine QV rfl ?_; exact join true _ _ hF sw
   have hF:=bT' h55 hF; refine QV rfl ?_; exact join true _ _ hF sw
 refine hZ ?_; refine aY ?_; refine aY ?_; refine b8 ?_; exact brk_0 _ _ _ (oi hF) sw
def vZ (p0:(List ax)) (y90:ax):Int→Option (Int ⊕ Int):=fun a102 =>
  (((bif (decide (0≤a102)) then some (!decide (a102 = y90.fParent)) else some false):Option Bool).bind fun v112=>(bif v112 then ((idx p0 a102).bind fun y113=>some (.inl y113.fParent)) else some (.inr a102)))
def B5 (p0:(List ax)):((List (Int × ByteArray)) × Int)→Option (((List (Int × ByteArray)) × Int) ⊕ (Unit ⊕ Int)):=fun (a61,a62) =>
  (bif (decide (a62 < (List.length p0:Int))) then ((idx p0 a62).bind fun y90=>((loop (vZ p0 y90) (w64 (a62 - 1))).bind fun e107=>(bif (!decide (y90.fParent = e107)) then some (.inr (.inr 10)) else (((bif (Option.isSome (FZ y90.fParent a61)) then some (sLt y90.fName (Option.getD (FZ y90.fParent a61) (⟨#[]⟩ : ByteArray)) || decide (y90.fName = (Option.getD (FZ y90.fParent a61) (⟨#[]⟩ : ByteArray)))) else some false):Option Bool).bind fun v108=>(bif v108 then some (.inr (.inr 11)) else some (.inl ((akW y90.fParent y90.fName a61),(w64 (a62 + 1))))))))) else some (.inr (.inl ())))
def x9 (p0:(List ax)):Option Int :=
  ((loop (B5 p0) ([],0)).bind fun | .inl _=>some 0 | .inr rv=>some rv)
theorem T6 (p0:(List ax)) (r:Int) (hF:x9 p0 = some r):Fun Try.prog 32 true [] [cL 5 az p0] noHeap (cI r) noHeap:=by
 refine Fun.of_walk0 Try.func32 c32 (by kernel_rfl) (rs:=[.tmp 2]) (by kernel_rfl) ?_; unfold v32
 unfold x9 at hF
 refine wA rfl ?_; refine wE ?_; refine rS (aOZ (kd:=(.int .i64)) (kv:=kvI) (vv:=vvS) rfl ?_)
 refine QV rfl ?_; refine aJ ?_; refine wC 1 rfl ?_; refine rS (eJ (tc:=az) p0 .tree ?_); refine QV rfl ?_; refine l4 (fun _ _ h=>h) hF (.inl) (fun (a61,a62)=>[(0,cL 5 az p0),(3,cM (9,0)),(10,cL 5 az p0),(11,cI (List.length p0:Int)),(12,cI a62)]) (fun (a61,a62)=>[((9,0),LY (.int .i64) kvI vvS a61)]) (fun _=>[]) (fun _=>[]) sw ?_ ?_
 · rintro ⟨⟩ hF
   refine wA rfl ?_; cases hF
   exact cj wR
 rintro ⟨a61,a62⟩ x_0 hF cont_0 brk_0 fin_0
 unfold B5 at hF
 refine wA rfl ?_; refine aJ ?_; refine wIf hF rfl (fun _ hF=>?_) fun _ hF=>?_
 · refine bz ?_; refine aJ ?_; refine eZ ?_; refine wC 1 rfl ?_; obtain ⟨y90,hy90,hF⟩:=bB hF
   refine rS (eW (tc:=az) p0 rfl rfl hy90 ?_); refine QV rfl ?_; refine wA rfl ?_; refine aJ ?_; refine l4 (fun _ _ h=>h) hF (id) (fun a102=>[(0,cL 5 az p0),(3,cM (9,0)),(5,cP (5,0) 0),(6,cI a102),(10,cL 5 az p0),(11,cI (List.length p0:Int)),(12,cI a62)]) (fun a102=>[((9,0),LY (.int .i64) kvI vvS a61),((5,0),.box (xY y90))]) (fun e107=>[(0,cL 5 az p0),(3,cM (9,0)),(5,cP (5,0) 0),(6,cI e107),(10,cL 5 az p0),(11,cI (List.length p0:Int)),(12,cI a62)]) (fun e107=>[((9,0),LY (.int .i64) kvI vvS a61),((5,0),.box (xY y90))]) sw ?_ ?_
   · rintro e107 hF
     refine aJ ?_; refine wA rfl ?_; refine wIf hF rfl (fun _ hF=>?_) fun _ hF=>?_
     · refine wA rfl ?_; have hF:=fin_0 _ (oi hF); cases hF
       exact cj wR
     refine bz ?_; refine aJ ?_; refine wC 3 rfl ?_; refine rS (aFY (aZx .i64) (vv:=vvS) a61 y90.fParent (⟨#[]⟩ : ByteArray) (.own _ rfl) rfl rfl ?_)
     refine QV rfl ?_; refine aJ ?_; refine d6 (fun _ _ h=>h) hF (fun v108=>[(0,cL 5 az p0),(3,cM (9,0)),(5,cP (5,0) 0),(10,cL 5 az p0),(11,cI (List.length p0:Int)),(12,cI a62),(49,cB v108)]) (fun v108=>[((9,0),LY (.int .i64) kvI vvS a61),((5,0),.box (xY y90))]) ?_ ?_
     · rintro v108 hF
       refine wIf hF rfl (fun _ hF=>?_) fun _ hF=>?_
       · refine wA rfl ?_; have hF:=fin_0 _ (oi hF); cases hF
         exact cj wR
       refine bz ?_; refine wD 5 rfl ?_; refine rS (aVX (aZx .i64) (vv:=vvS) a61 y90.fParent y90.fName rfl rfl rfl rfl ?_)
       refine QV rfl ?_; refine wB rfl ?_; exact cont_0 _ _ _ (oi hF) sw
     intro join hF
     refine wD 2 rfl ?_; cases h110:(Option.isSome (FZ y90.fParent a61))
     · have hF:=bF' h110 hF; refine QV rfl ?_; exact join false _ _ hF sw
     have hF:=bT' h110 hF; refine QV rfl ?_; exact join (sLt y90.fName (Option.getD (FZ y90.fParent a61) (⟨#[]⟩ : ByteArray)) || decide (y90.fName = (Option.getD (FZ y90.fParent a61) (⟨#[]⟩ : ByteArray)))) _ _ hF sw
   rintro a102 x_1 hF cont_1 brk_1 fin_1
   unfold vZ at hF
   refine aJ ?_; refine aJ ?_; refine d6 (fun _ _ h=>h) hF (fun v112=>[(0,cL 5 az p0),(3,cM (9,0)),(5,cP (5,0) 0),(6,cI a102),(10,cL 5 az p0),(11,cI (List.length p0:Int)),(12,cI a62),(26,cB v112)]) (fun v112=>[((9,0),LY (.int .i64) kvI vvS a61),((5,0),.box (xY y90))]) ?_ ?_
   · rintro v112 hF
     refine wIf hF rfl (fun _ hF=>?_) fun _ hF=>?_
     · refine bz ?_; refine eZ ?_; refine wD 2 rfl ?_; obtain ⟨y113,hy113,hF⟩:=bB hF
       refine rS (eW (tc:=az) p0 rfl rfl hy113 ?_); refine QV rfl ?_; exact cont_1 _ _ _ (oi hF) sw
     refine hZ ?_; refine aY ?_; refine aY ?_; refine b8 ?_; exact brk_1 _ _ _ (oi hF) sw
   intro join hF
   refine wD 3 rfl ?_; cases h115:(decide (0≤a102))
   · have hF:=bF' h115 hF; refine QV rfl ?_; exact join false _ _ hF sw
   have hF:=bT' h115 hF; refine QV rfl ?_; exact join (!decide (a102 = y90.fParent)) _ _ hF sw
 refine hZ ?_; refine aY ?_; refine aY ?_; refine b8 ?_; exact brk_0 _ _ _ (oi hF) sw
def vz (p0:(List ax)) (e68:(List Int)) (e69:(List Bool)):Int→Option (Int ⊕ (Unit ⊕ Int)):=fun a91 =>
  (bif (decide (a91 < (List.length p0:Int))) then ((idx p0 a91).bind fun y101=>((((idx e69 a91).bind fun y104=>(bif y104 then (bif (decide (y101.fCount = 0)) then some true else ((idx e68 a91).bind fun y108=>some (!decide (y101.fTotal = y108)))) else ((idx e68 a91).bind fun y106=>some (!decide (y101.fTotal = y106))))):Option Bool).bind fun v102=>(bif v102 then some (.inr (.inr 10)) else some (.inl (w64 (a91 + 1)))))) else some (.inr (.inl ())))
def wj (p0:(List ax)):((List Int) × (List Bool) × Int)→Option (((List Int) × (List Bool) × Int) ⊕ ((List Int) × (List Bool))):=fun (a48,a49,a50) =>
  (bif (decide (0≤a50)) then ((((idx a48 a50).bind fun y112=>((idx p0 a50).bind fun y113=>((idx a48 a50).bind fun y114=>(((bif (decide ((w64 (a50 + 1)) = (List.length p0:Int))) then ((idx a49 a50).bind fun y125=>some (List.set a49 (Int.toNat a50) true)) else ((idx p0 (w64 (a50 + 1))).bind fun y123=>((idx a49 a50).bind fun y124=>some (List.set a49 (Int.toNat a50) (!decide (y123.fParent = a50)))))):Option (List Bool)).bind fun v115=>((idx p0 a50).bind fun y116=>(bif (decide (0≤y116.fParent)) then ((idx p0 a50).bind fun y117=>((idx (List.set a48 (Int.toNat a50) (w64 (y112 + y113.fSelf))) y117.fParent).bind fun y118=>((idx (List.set a48 (Int.toNat a50) (w64 (y112 + y113.fSelf))) a50).bind fun y119=>((idx (List.set a48 (Int.toNat a50) (w64 (y112 + y113.fSelf))) y117.fParent).bind fun y120=>some ((List.set (List.set a48 (Int.toNat a50) (w64 (y112 + y113.fSelf))) (Int.toNat y117.fParent) (w64 (y118 + y119))),v115))))) else some ((List.set a48 (Int.toNat a50) (w64 (y112 + y113.fSelf))),v115))))))):Option ((List Int) × (List Bool))).bind fun (v110,v111)=>some (.inl (v110,v111,(w64 (a50 - 1))))) else some (.inr (a48,a49)))
def eK (p0:(List ax)):Option Int :=
  (bif (decide (2000 < (List.length p0:Int))) then some 7 else ((k9 p0).bind fun r1=>(bif (!decide (r1 = 0)) then some r1 else ((x9 p0).bind fun r2=>(bif (!decide (r2 = 0)) then some r2 else (bif mkB 8 (List.length p0:Int) then (bif mkB 1 (List.length p0:Int) then ((loop (wj p0) ((List.replicate (Int.toNat (List.length p0:Int)) 0),(List.replicate (Int.toNat (List.length p0:Int)) false),(w64 ((List.length p0:Int) - 1)))).bind fun (e68,e69)=>((loop (vz p0 e68 e69) 0).bind fun | .inl _=>some 0 | .inr rv=>some rv)) else none) else none))))))
theorem zj (p0:(List ax)) (r:Int) (hF:eK p0 = some r):Fun Try.prog 14 true [] [cL 5 az p0] noHeap (cI r) noHeap:=by
 refine Fun.of_walk0 Try.func14 c14 (by kernel_rfl) (rs:=[.tmp 2]) (by kernel_rfl) ?_; unfold v14
 unfold eK at hF
 refine wA rfl ?_; refine aJ ?_; refine wC 1 rfl ?_; refine rS (eJ (tc:=az) p0 .tree ?_); refine QV rfl ?_; refine wIf hF rfl (fun _ hF=>?_) fun _ hF=>?_
 · refine wA rfl ?_; cases hF
   exact cj wR
 refine bz ?_; refine aJ ?_; refine wC 1 rfl ?_; obtain ⟨r1,hr1,hF⟩:=bB hF
 refine rS (dQ (R2 _ _ hr1) ⟨rfl,trivial⟩ rfl (.inl rfl) ?_); refine QV rfl ?_; refine wA rfl ?_; refine wIf hF rfl (fun _ hF=>?_) fun _ hF=>?_
 · refine wA rfl ?_; cases hF
   exact cj wR
 refine bz ?_; refine aJ ?_; refine wC 1 rfl ?_; obtain ⟨r2,hr2,hF⟩:=bB hF
 refine rS (dQ (T6 _ _ hr2) ⟨rfl,trivial⟩ rfl (.inl rfl) ?_); refine QV rfl ?_; refine wA rfl ?_; refine wIf hF rfl (fun _ hF=>?_) fun _ hF=>?_
 · refine wA rfl ?_; cases hF
   exact cj wR
 refine bz ?_; refine aJ ?_; refine q0 (by decide) (by kernel_rfl) rfl ?_; refine aW SP 1 rfl ?_; refine bQ SP trivial (eJ (tc:=az) p0 .tree ?_); obtain ⟨h3,hF⟩:=alq hF
 refine bQ SP trivial (aYX (tc:=sJ) 0 rfl rfl (aZz h3) rfl rfl ?_); refine aW SP 1 rfl ?_; refine bQ SP trivial (eJ (tc:=az) p0 .tree ?_); obtain ⟨h4,hF⟩:=alq hF
 refine bQ SP trivial (aYX (tc:=xX) false rfl rfl (aZz h4) rfl rfl ?_); refine QP rfl ?_; refine aJ ?_; refine wC 1 rfl ?_; refine rS (eJ (tc:=az) p0 .tree ?_); refine QV rfl ?_
 refine l4 (fun _ _ h=>h) hF (id) (fun (a48,a49,a50)=>[(0,cL 5 az p0),(5,cO (25,0)),(6,cO (28,0)),(7,cI a50)]) (fun (a48,a49,a50)=>[((25,0),.arr 3 1 (List.map sJ a48)),((28,0),.arr 4 1 (List.map xX a49))]) (fun (e68,e69)=>[(0,cL 5 az p0),(5,cO (25,0)),(6,cO (28,0))]) (fun (e68,e69)=>[((25,0),.arr 3 1 (List.map sJ e68)),((28,0),.arr 4 1 (List.map xX e69))]) sw ?_ ?_
 · rintro ⟨e68,e69⟩ hF
   refine aJ ?_; refine wC 1 rfl ?_; refine rS (eJ (tc:=az) p0 .tree ?_); refine QV rfl ?_; refine l4 (fun _ _ h=>h) hF (.inl) (fun a91=>[(5,cO (25,0)),(6,cO (28,0)),(85,cL 5 az p0),(86,cI (List.length p0:Int)),(87,cI a91)]) (fun a91=>[((25,0),.arr 3 1 (List.map sJ e68)),((28,0),.arr 4 1 (List.map xX e69))]) (fun _=>[]) (fun _=>[]) sw ?_ ?_
   · rintro ⟨⟩ hF
     refine wA rfl ?_; cases hF
     exact cj wR
   rintro a91 x_0 hF cont_0 brk_0 fin_0
   unfold vz at hF
   refine wA rfl ?_; refine aJ ?_; refine wIf hF rfl (fun _ hF=>?_) fun _ hF=>?_
   · refine bz ?_; refine aJ ?_; refine eZ ?_; refine wC 1 rfl ?_; obtain ⟨y101,hy101,hF⟩:=bB hF
     refine rS (eW (tc:=az) p0 rfl rfl hy101 ?_); refine QV rfl ?_; refine aJ ?_; refine d6 (fun _ _ h=>h) hF (fun v102=>[(5,cO (25,0)),(6,cO (28,0)),(85,cL 5 az p0),(86,cI (List.length p0:Int)),(87,cI a91),(109,cB v102)]) (fun v102=>[((25,0),.arr 3 1 (List.map sJ e68)),((28,0),.arr 4 1 (List.map xX e69))]) ?_ ?_
     · rintro v102 hF
       refine wIf hF rfl (fun _ hF=>?_) fun _ hF=>?_
       · refine wA rfl ?_; have hF:=fin_0 _ (oi hF); cases hF
         exact cj wR
       refine bz ?_; refine wB rfl ?_; exact cont_0 _ _ _ (oi hF) sw
     intro join hF
     refine q0 (by decide) (by kernel_rfl) rfl ?_; refine aW SP 2 rfl ?_; obtain ⟨y104,hy104,hF⟩:=bB' hF
     refine bQ SP trivial (zZ (tc:=xX) e69 rfl rfl rfl hy104 ?_); refine bQ SP trivial (HK (tc:=xX) e69 rfl rfl (mQ hy104).2.1 rfl ?_); refine aW SP 1 rfl ?_; cases h105:y104
     · have hF:=bF' h105 hF; refine aW SP 9 rfl ?_; obtain ⟨y106,hy106,hF⟩:=bB' hF
       refine bQ SP rfl (zZ (tc:=sJ) e68 rfl rfl rfl hy106 ?_); refine bQ SP rfl (HK (tc:=sJ) e68 rfl rfl (mQ hy106).2.1 rfl ?_); refine QP rfl ?_; exact join (!decide (y101.fTotal = y106)) _ _ hF sw
     have hF:=bT' h105 hF; refine aW SP 5 rfl ?_; cases h107:(decide (y101.fCount = 0))
     · have hF:=bF' h107 hF; refine aW SP 4 rfl ?_; obtain ⟨y108,hy108,hF⟩:=bB' hF
       refine bQ SP rfl (zZ (tc:=sJ) e68 rfl rfl rfl hy108 ?_); refine bQ SP rfl (HK (tc:=sJ) e68 rfl rfl (mQ hy108).2.1 rfl ?_); refine QP rfl ?_; exact join (!decide (y101.fTotal = y108)) _ _ hF sw
     have hF:=bT' h107 hF; refine QP rfl ?_; exact join true _ _ hF sw
   refine hZ ?_; refine aY ?_; refine aY ?_; refine b8 ?_; exact brk_0 _ _ _ (oi hF) sw
 rintro ⟨a48,a49,a50⟩ x_0 hF cont_0 brk_0 fin_0
 unfold wj at hF
 refine aJ ?_; refine wA rfl ?_; refine wIf hF rfl (fun _ hF=>?_) fun _ hF=>?_
 · refine bz ?_; refine aJ ?_; refine d6 (fun _ _ h=>h) hF (fun (v110,v111)=>[(0,cL 5 az p0),(5,cO (25,0)),(6,cO (28,0)),(7,cI a50)]) (fun (v110,v111)=>[((25,0),.arr 3 1 (List.map sJ v110)),((28,0),.arr 4 1 (List.map xX v111))]) ?_ ?_
   · rintro ⟨v110,v111⟩ hF
     refine wB rfl ?_; exact cont_0 _ _ _ (oi hF) sw
   intro join hF
   refine eZ ?_; refine aJ ?_; refine q0 (by decide) (by kernel_rfl) rfl ?_; refine aW SP 2 rfl ?_; obtain ⟨y112,hy112,hF⟩:=bB' hF
   refine bQ SP trivial (zZ (tc:=sJ) a48 rfl rfl rfl hy112 ?_); refine bQ SP trivial (HK (tc:=sJ) a48 rfl rfl (mQ hy112).2.1 rfl ?_); refine aW SP 2 rfl ?_; obtain ⟨y113,hy113,hF⟩:=bB' hF
   refine bQ SP trivial (eW (tc:=az) p0 rfl rfl hy113 ?_); refine aW SP 3 rfl ?_; obtain ⟨y114,hy114,hF⟩:=bB' hF
   refine bQ SP trivial (zZ (tc:=sJ) a48 rfl rfl rfl hy114 ?_); refine bQ SP trivial (azW (tc:=sJ) a48 (w64 (y112 + y113.fSelf)) rfl rfl (mQ hy114).2.1 rfl rfl rfl rfl rfl ?_)
   refine QP rfl ?_; refine aJ ?_; have hF:=bA hF; refine d6 (fun _ _ h=>h) hF (fun v115=>[(0,cL 5 az p0),(5,cO (25,0)),(6,cO (28,0)),(7,cI a50)]) (fun v115=>[((25,0),.arr 3 1 (List.map sJ (List.set a48 (Int.toNat a50) (w64 (y112 + y113.fSelf))))),((28,0),.arr 4 1 (List.map xX v115))]) ?_ ?_
   · rintro v115 hF
     refine wC 2 rfl ?_; obtain ⟨y116,hy116,hF⟩:=bB' hF
     refine rS (eW (tc:=az) p0 rfl rfl hy116 ?_); refine QV rfl ?_; refine Y3 hF rfl (fun _ hF=>?_) fun _ hF=>?_
     · refine q0 (by decide) (by kernel_rfl) rfl ?_; refine aW SP 3 rfl ?_; obtain ⟨y117,hy117,hF⟩:=bB' hF
       refine bQ SP trivial (eW (tc:=az) p0 rfl rfl hy117 ?_); refine aW SP 2 rfl ?_; obtain ⟨y118,hy118,hF⟩:=bB' hF
       refine bQ SP trivial (zZ (tc:=sJ) (List.set a48 (Int.toNat a50) (w64 (y112 + y113.fSelf))) rfl rfl rfl hy118 ?_); refine bQ SP trivial (HK (tc:=sJ) (List.set a48 (Int.toNat a50) (w64 (y112 + y113.fSelf))) rfl rfl (mQ hy118).2.1 rfl ?_)
       refine aW SP 2 rfl ?_; obtain ⟨y119,hy119,hF⟩:=bB' hF
       refine bQ SP trivial (zZ (tc:=sJ) (List.set a48 (Int.toNat a50) (w64 (y112 + y113.fSelf))) rfl rfl rfl hy119 ?_); refine bQ SP trivial (HK (tc:=sJ) (List.set a48 (Int.toNat a50) (w64 (y112 + y113.fSelf))) rfl rfl (mQ hy119).2.1 rfl ?_)
       refine aW SP 1 rfl ?_; obtain ⟨y120,hy120,hF⟩:=bB' hF
       refine bQ SP trivial (zZ (tc:=sJ) (List.set a48 (Int.toNat a50) (w64 (y112 + y113.fSelf))) rfl rfl rfl hy120 ?_); refine bQ SP trivial (azW (tc:=sJ) (List.set a48 (Int.toNat a50) (w64 (y112 + y113.fSelf))) (w64 (y118 + y119)) rfl rfl (mQ hy120).2.1 rfl rfl rfl rfl rfl ?_)
       refine QP rfl ?_; exact join ((List.set (List.set a48 (Int.toNat a50) (w64 (y112 + y113.fSelf))) (Int.toNat y117.fParent) (w64 (y118 + y119))),v115) _ _ hF sw
     refine bz ?_; exact join ((List.set a48 (Int.toNat a50) (w64 (y112 + y113.fSelf))),v115) _ _ hF sw
   intro join hF
   refine wD 5 rfl ?_; refine rS (eJ (tc:=az) p0 .tree ?_); refine aW SV 2 rfl ?_; cases h122:(decide ((w64 (a50 + 1)) = (List.length p0:Int)))
   · have hF:=bF' h122 hF; refine aW SV 3 rfl ?_; obtain ⟨y123,hy123,hF⟩:=bB' hF
     refine bQ SV rfl (eW (tc:=az) p0 rfl rfl hy123 ?_); refine aW SV 5 rfl ?_; obtain ⟨y124,hy124,hF⟩:=bB' hF
     refine rS (zZ (tc:=xX) a49 rfl rfl rfl hy124 ?_); refine rS (azW (tc:=xX) a49 (!decide (y123.fParent = a50)) rfl rfl (mQ hy124).2.1 rfl rfl rfl rfl rfl ?_); refine QV rfl ?_; exact join (List.set a49 (Int.toNat a50) (!decide (y123.fParent = a50))) _ _ hF sw
   have hF:=bT' h122 hF; refine aW SV 9 rfl ?_; obtain ⟨y125,hy125,hF⟩:=bB' hF
   refine rS (zZ (tc:=xX) a49 rfl rfl rfl hy125 ?_); refine rS (azW (tc:=xX) a49 true rfl rfl (mQ hy125).2.1 rfl rfl rfl rfl rfl ?_); refine QV rfl ?_; exact join (List.set a49 (Int.toNat a50) true) _ _ hF sw
 refine hZ ?_; refine aY ?_; refine aY ?_; refine b8 ?_; exact brk_0 _ _ _ (oi hF) sw
def lz (p0:aK):Option Bool :=
  (((bif (decide (0≤p0.fThread)) then (bif (decide (p0.fThread≤1000000000000000)) then (bif (decide (0≤p0.fAt)) then (bif (decide (p0.fAt≤1000000000000)) then (bif (decide (1≤p0.fWeight)) then some (decide (p0.fWeight≤1000000000000)) else some false) else some false) else some false) else some false) else some false):Option Bool).bind fun v1=>some v1)
theorem T7 (p0:aK) (r:Bool) (hF:lz p0 = some r):Fun Try.prog 40 true [] [.agg (OY p0)] noHeap (cB r) noHeap:=by
 refine Fun.of_walk0 Try.func40 c40 (by kernel_rfl) (rs:=[.tmp 2]) (by kernel_rfl) ?_; unfold v40
 unfold lz at hF
 refine wA rfl ?_; refine aJ ?_; refine d6 (fun _ _ h=>h) hF (fun v1=>[(2,cB v1)]) (fun v1=>[]) ?_ ?_
 · rintro v1 hF
   cases hF
   exact cj wR
 intro join hF
 refine wD 4 rfl ?_; cases h2:(decide (0≤p0.fThread))
 · have hF:=bF' h2 hF; refine QV rfl ?_; exact join false _ _ hF sw
 have hF:=bT' h2 hF; refine aW SV 5 rfl ?_; cases h3:(decide (p0.fThread≤1000000000000000))
 · have hF:=bF' h3 hF; refine QV rfl ?_; exact join false _ _ hF sw
 have hF:=bT' h3 hF; refine aW SV 5 rfl ?_; cases h4:(decide (0≤p0.fAt))
 · have hF:=bF' h4 hF; refine QV rfl ?_; exact join false _ _ hF sw
 have hF:=bT' h4 hF; refine aW SV 5 rfl ?_; cases h5:(decide (p0.fAt≤1000000000000))
 · have hF:=bF' h5 hF; refine QV rfl ?_; exact join false _ _ hF sw
 have hF:=bT' h5 hF; refine aW SV 5 rfl ?_; cases h6:(decide (1≤p0.fWeight))
 · have hF:=bF' h6 hF; refine QV rfl ?_; exact join false _ _ hF sw
 have hF:=bT' h6 hF; refine QV rfl ?_; exact join (decide (p0.fWeight≤1000000000000)) _ _ hF sw
def lX (p0:(List ByteArray)):Int→Option (Int ⊕ (Unit ⊕ Int)):=fun a12 =>
  (bif (decide (a12 < (List.length p0:Int))) then ((idx p0 a12).bind fun y17=>((c6 y17).bind fun r18=>(bif (!decide (r18 = 0)) then some (.inr (.inr r18)) else some (.inl (w64 (a12 + 1)))))) else some (.inr (.inl ())))
def fY (p0:(List ByteArray)):Option Int :=
  (bif (decide (32 < (List.length p0:Int))) then some 7 else ((loop (lX p0) 0).bind fun | .inl _=>some 0 | .inr rv=>some rv))
theorem OX (p0:(List ByteArray)) (r:Int) (hF:fY p0 = some r):Fun Try.prog 41 true [] [cL 1 d7 p0] noHeap (cI r) noHeap:=by
 refine Fun.of_walk0 Try.func41 c41 (by kernel_rfl) (rs:=[.tmp 2]) (by kernel_rfl) ?_; unfold v41
 unfold fY at hF
 refine wA rfl ?_; refine aJ ?_; refine wC 1 rfl ?_; refine rS (eJ (tc:=d7) p0 .tree ?_); refine QV rfl ?_; refine wIf hF rfl (fun _ hF=>?_) fun _ hF=>?_
 · refine wA rfl ?_; cases hF
   exact cj wR
 refine bz ?_; refine aJ ?_; refine wC 1 rfl ?_; refine rS (eJ (tc:=d7) p0 .tree ?_); refine QV rfl ?_; refine l4 (fun _ _ h=>h) hF (.inl) (fun a12=>[(9,cL 1 d7 p0),(10,cI (List.length p0:Int)),(11,cI a12)]) (fun a12=>[]) (fun _=>[]) (fun _=>[]) sw ?_ ?_
 · rintro ⟨⟩ hF
   refine wA rfl ?_; cases hF
   exact cj wR
 rintro a12 x_0 hF cont_0 brk_0 fin_0
 unfold lX at hF
 refine wA rfl ?_; refine aJ ?_; refine wIf hF rfl (fun _ hF=>?_) fun _ hF=>?_
 · refine bz ?_; refine aJ ?_; refine eZ ?_; refine wE ?_; obtain ⟨y17,hy17,hF⟩:=bB hF
   refine rS (eW (tc:=d7) p0 rfl rfl hy17 ?_); refine QV rfl ?_; refine wC 1 rfl ?_; obtain ⟨r18,hr18,hF⟩:=bB hF
   refine rS (dQ (HX _ _ hr18) ⟨rfl,trivial⟩ rfl (.inl rfl) ?_); refine QV rfl ?_; refine wA rfl ?_; refine wIf hF rfl (fun _ hF=>?_) fun _ hF=>?_
   · refine wA rfl ?_; have hF:=fin_0 _ (oi hF); cases hF
     exact cj wR
   refine bz ?_; refine wB rfl ?_; exact cont_0 _ _ _ (oi hF) sw
 refine hZ ?_; refine aY ?_; refine aY ?_; refine b8 ?_; exact brk_0 _ _ _ (oi hF) sw
def l9 (p0:(List aK)):Int→Option (Int ⊕ (Unit ⊕ Int)):=fun a24 =>
  (bif (decide (a24 < (List.length p0:Int))) then ((idx p0 a24).bind fun y35=>((lz y35).bind fun r36=>(bif (!r36) then some (.inr (.inr 2)) else ((fY y35.fStack).bind fun r37=>(bif (!decide (r37 = 0)) then some (.inr (.inr r37)) else (((bif (decide (0 < a24)) then ((idx p0 (w64 (a24 - 1))).bind fun y41=>some (decide (y35.fAt < y41.fAt))) else some false):Option Bool).bind fun v38=>(bif v38 then some (.inr (.inr 11)) else some (.inl (w64 (a24 + 1)))))))))) else some (.inr (.inl ())))
def gV (p0:(List aK)):Option Int :=
  ((loop (l9 p0) 0).bind fun | .inl _=>some 0 | .inr rv=>some rv)
theorem QK (p0:(List aK)) (r:Int) (hF:gV p0 = some r):Fun Try.prog 26 true [] [cL 4 aV p0] noHeap (cI r) noHeap:=by
 refine Fun.of_walk0 Try.func26 c26 (by kernel_rfl) (rs:=[.tmp 2]) (by kernel_rfl) ?_; unfold v26
 unfold gV at hF
 refine wA rfl ?_; refine aJ ?_; refine wC 1 rfl ?_; refine rS (eJ (tc:=aV) p0 .tree ?_); refine QV rfl ?_; refine l4 (fun _ _ h=>h) hF (.inl) (fun a24=>[(0,cL 4 aV p0),(6,cL 4 aV p0),(7,cI (List.length p0:Int)),(8,cI a24)]) (fun a24=>[]) (fun _=>[]) (fun _=>[]) sw ?_ ?_
 · rintro ⟨⟩ hF
   refine wA rfl ?_; cases hF
   exact cj wR
 rintro a24 x_0 hF cont_0 brk_0 fin_0
 unfold l9 at hF
 refine wA rfl ?_; refine aJ ?_; refine wIf hF rfl (fun _ hF=>?_) fun _ hF=>?_
 · refine bz ?_; refine aJ ?_; refine eZ ?_; refine wC 1 rfl ?_; obtain ⟨y35,hy35,hF⟩:=bB hF
   refine rS (eW (tc:=aV) p0 rfl rfl hy35 ?_); refine QV rfl ?_; refine aJ ?_; refine wC 1 rfl ?_; obtain ⟨r36,hr36,hF⟩:=bB hF
   refine rS (dQ (T7 _ _ hr36) ⟨⟨rfl,rfl,rfl,rfl,trivial⟩,trivial⟩ rfl (.inl rfl) ?_); refine QV rfl ?_; refine wIf hF rfl (fun _ hF=>?_) fun _ hF=>?_
   · refine wA rfl ?_; have hF:=fin_0 _ (oi hF); cases hF
     exact cj wR
   refine bz ?_; refine aJ ?_; refine wC 2 rfl ?_; obtain ⟨r37,hr37,hF⟩:=bB hF
   refine rS (dQ (OX _ _ hr37) ⟨rfl,trivial⟩ rfl (.inl rfl) ?_); refine QV rfl ?_; refine wA rfl ?_; refine wIf hF rfl (fun _ hF=>?_) fun _ hF=>?_
   · refine wA rfl ?_; have hF:=fin_0 _ (oi hF); cases hF
     exact cj wR
   refine bz ?_; refine aJ ?_; refine d6 (fun _ _ h=>h) hF (fun v38=>[(0,cL 4 aV p0),(6,cL 4 aV p0),(7,cI (List.length p0:Int)),(8,cI a24),(34,cB v38)]) (fun v38=>[]) ?_ ?_
   · rintro v38 hF
     refine wIf hF rfl (fun _ hF=>?_) fun _ hF=>?_
     · refine wA rfl ?_; have hF:=fin_0 _ (oi hF); cases hF
       exact cj wR
     refine bz ?_; refine wB rfl ?_; exact cont_0 _ _ _ (oi hF) sw
   intro join hF
   refine q0 (by decide) (by kernel_rfl) rfl ?_; refine aW SP 3 rfl ?_; cases h40:(decide (0 < a24))
   · have hF:=bF' h40 hF; refine QP rfl ?_; exact join false _ _ hF sw
   have hF:=bT' h40 hF; refine aW SP 5 rfl ?_; obtain ⟨y41,hy41,hF⟩:=bB' hF
   refine bQ SP rfl (eW (tc:=aV) p0 rfl rfl hy41 ?_); refine QP rfl ?_; exact join (decide (y35.fAt < y41.fAt)) _ _ hF sw
 refine hZ ?_; refine aY ?_; refine aY ?_; refine b8 ?_; exact brk_0 _ _ _ (oi hF) sw
def n5 (y:ax):Go.RM.N5:=(y.fParent,y.fName,y.fSelf,y.fTotal,y.fCount)
def T2 (n:Go.RM.N5):ax:={ fParent:=n.1,fName:=n.2.1,fSelf:=n.2.2.1,fTotal:=n.2.2.2.1,fCount:=n.2.2.2.2 }
theorem axj (l:List ax):l.map az = (l.map n5).map Go.RM.tN5:=by
 rw [List.map_map]; rfl
theorem RK (l:List Go.RM.N5):(l.map T2).map az = l.map Go.RM.tN5:=by
 rw [List.map_map]; rfl
def TQ (l:List Go.RM.N5):Option Int:=eK (l.map T2)
theorem aax (l:List Go.RM.N5) (r:Int) (h:TQ l = some r):Fun Try.prog 14 true [] [.c (.imm (.sl 5 (l.map Go.RM.tN5)))] noHeap (cI r) noHeap:=by
 rw [← RK]; exact zj _ r h
def X1 (y:aK):Go.RM.Smp:=⟨y.fThread,y.fAt,y.fWeight,y.fStack⟩
theorem Vx (l:List aK):l.map aV = (l.map X1).map Go.RM.tSmp:=by
 rw [List.map_map]; rfl
def i4 (p0:(List aK)):Option ((List ax) × Int):=(Go.RM.ofSamplesF TQ (gV p0) (p0.map X1)).map fun r=>(r.1.map T2,r.2)
theorem nZ (p0:(List aK)) (r:((List ax) × Int)) (hF:i4 p0 = some r):Fun Try.prog 10 true [] [cL 4 aV p0] noHeap (.tup [cL 5 az r.1,cI r.2]) noHeap:=by
 obtain ⟨q,hq,rfl⟩:=aw.1 hF
 have h:=Go.RM.ofSamplesF_fun ⟨aax,fun e he=>by rw [← Vx]; exact QK p0 e he⟩ hq true
 rw [← Vx,← RK] at h; exact h
def yV (p0:(List ax)) (p1:(List ax)):Option ((List ax) × Int):=(Go.RM.mergeF TQ (p0.map n5) (p1.map n5)).map fun r=>(r.1.map T2,r.2)
theorem T5 (p0:(List ax)) (p1:(List ax)) (r:((List ax) × Int)) (hF:yV p0 p1 = some r):Fun Try.prog 22 true [] [cL 5 az p0,cL 5 az p1] noHeap (.tup [cL 5 az r.1,cI r.2]) noHeap:=by
 obtain ⟨q,hq,rfl⟩:=aw.1 hF
 have h:=Go.RM.mergeF_fun ⟨aax,fun e he=>by cases he⟩ hq true
 rw [← axj,← axj,← RK] at h; exact h
def o8 (p0:(List ax)) (p1:(List ax)):Int→Option (Int ⊕ (Unit ⊕ Bool)):=fun a12 =>
  (bif (decide (a12 < (List.length p0:Int))) then ((idx p0 a12).bind fun y17=>((idx p1 a12).bind fun y18=>(bif ((decide (y17.fParent = y18.fParent) && (decide (y17.fName = y18.fName) && (decide (y17.fSelf = y18.fSelf) && (decide (y17.fTotal = y18.fTotal) && (decide (y17.fCount = y18.fCount) && true))))) != true) then some (.inr (.inr false)) else some (.inl (w64 (a12 + 1)))))) else some (.inr (.inl ())))
def f8 (p0:(List ax)) (p1:(List ax)):Option Bool :=
  (bif (!decide ((List.length p0:Int) = (List.length p1:Int))) then some false else ((loop (o8 p0 p1) 0).bind fun | .inl _=>some true | .inr rv=>some rv))
theorem uZ (p0:(List ax)) (p1:(List ax)) (r:Bool) (hF:f8 p0 p1 = some r):Fun Try.prog 12 true [] [cL 5 az p0,cL 5 az p1] noHeap (cB r) noHeap:=by
 refine Fun.of_walk0 Try.func12 c12 (by kernel_rfl) (rs:=[.tmp 4]) (by kernel_rfl) ?_; unfold v12
 unfold f8 at hF
 refine wA rfl ?_; refine aJ ?_; refine wC 1 rfl ?_; refine rS (eJ (tc:=az) p0 .tree ?_); refine aW SV 1 rfl ?_; refine rS (eJ (tc:=az) p1 .tree ?_); refine QV rfl ?_; refine wIf hF rfl (fun _ hF=>?_) fun _ hF=>?_
 · refine wA rfl ?_; cases hF
   exact cj wR
 refine bz ?_; refine aJ ?_; refine wA rfl ?_; refine l4 (fun _ _ h=>h) hF (.inl) (fun a12=>[(0,cL 5 az p0),(1,cL 5 az p1),(5,cI a12)]) (fun a12=>[]) (fun _=>[]) (fun _=>[]) sw ?_ ?_
 · rintro ⟨⟩ hF
   refine wA rfl ?_; cases hF
   exact cj wR
 rintro a12 x_0 hF cont_0 brk_0 fin_0
 unfold o8 at hF
 refine aJ ?_; refine wC 2 rfl ?_; refine rS (eJ (tc:=az) p0 .tree ?_); refine QV rfl ?_; refine wIf hF rfl (fun _ hF=>?_) fun _ hF=>?_
 · refine bz ?_; refine aJ ?_; refine eZ ?_; refine aJ ?_; refine q0 (by decide) (by kernel_rfl) rfl ?_; refine aW SP 2 rfl ?_; obtain ⟨y17,hy17,hF⟩:=bB hF
   refine bQ SP trivial (eW (tc:=az) p0 rfl rfl hy17 ?_); refine aW SP 3 rfl ?_; obtain ⟨y18,hy18,hF⟩:=bB hF
   refine bQ SP trivial (eW (tc:=az) p1 rfl rfl hy18 ?_); refine aW SP 1 rfl ?_; refine bQ SP trivial (aXW (b:=(decide (y17.fParent = y18.fParent) && (decide (y17.fName = y18.fName) && (decide (y17.fSelf = y18.fSelf) && (decide (y17.fTotal = y18.fTotal) && (decide (y17.fCount = y18.fCount) && true)))))) (eqOk_of (n:=5) (sh:=[.int .i64,.string,.int .i64,.int .i64,.int .i64]) Try.underlying39 (by kernel_rfl) (by kernel_rfl)) rfl rfl rfl rfl ?_)
   refine QP rfl ?_; refine wIf hF rfl (fun _ hF=>?_) fun _ hF=>?_
   · refine wA rfl ?_; have hF:=fin_0 _ (oi hF); cases hF
     exact cj wR
   refine bz ?_; refine wB rfl ?_; exact cont_0 _ _ _ (oi hF) sw
 refine hZ ?_; refine aY ?_; refine aY ?_; refine b8 ?_; exact brk_0 _ _ _ (oi hF) sw
def dq (p0:(List aK)) (p1:(List aK)):Option Bool :=
  ((((hY ).bind fun r16=>(bif (!r16) then some true else ((hJ p0).bind fun r18=>(bif (!r18) then some true else ((hJ p1).bind fun r20=>(bif (!r20) then some true else (bif (decide (10 < (List.length p0:Int))) then some true else some (decide (10 < (List.length p1:Int)))))))))):Option Bool).bind fun v1=>(bif v1 then ((hY ).bind fun r2=>some r2) else (bif Sx 48 (List.length ([]:List aK) + List.length p0) then (bif Sx 48 (List.length ([]++p0) + List.length p1) then ((i4 (([]++p0)++p1)).bind fun r5=>(bif (!decide (r5.2 = 0)) then some (decide ((List.length r5.1:Int) = 0)) else ((i4 p0).bind fun r6=>((i4 p1).bind fun r7=>((yV r6.1 r7.1).bind fun r8=>(((bif (decide (r6.2 = 0)) then (bif (decide (r7.2 = 0)) then (bif (decide (r8.2 = 0)) then ((f8 r8.1 r5.1).bind fun r13=>some r13) else some false) else some false) else some false):Option Bool).bind fun v9=>some v9)))))) else none) else none)))
theorem x7 (p0:(List aK)) (p1:(List aK)) (r:Bool) (hF:dq p0 p1 = some r):Fun Try.prog 7 true [] [cL 4 aV p0,cL 4 aV p1] noHeap (cB r) noHeap:=by
 refine Fun.of_walk0 Try.func7 c7 (by kernel_rfl) (rs:=[.tmp 4]) (by kernel_rfl) ?_; unfold v7
 unfold dq at hF
 refine wA rfl ?_; refine aJ ?_; refine aJ ?_; refine d6 (fun _ _ h=>h) hF (fun v1=>[(0,cL 4 aV p0),(1,cL 4 aV p1),(34,cB v1)]) (fun v1=>[]) ?_ ?_
 · rintro v1 hF
   refine wIf hF rfl (fun _ hF=>?_) fun _ hF=>?_
   · refine wE ?_; obtain ⟨r2,hr2,hF⟩:=bB hF
     refine rS (dQ (jV _ hr2) trivial rfl (.inl rfl) ?_); refine QV rfl ?_; cases hF
     exact cj wR
   refine bz ?_; refine wE ?_; refine rS (YY (tc:=aV) [] rfl trivial rfl (fun _=>rfl) rfl ?_)
   refine aW SV 1 rfl ?_; obtain ⟨h3,hF⟩:=alq hF
   refine rS (Iz (tc:=aV) [] p0 rfl rfl .tree h3 rfl ?_); refine aW SV 1 rfl ?_; obtain ⟨h4,hF⟩:=alq hF
   refine rS (Iz (tc:=aV) ([]++p0) p1 rfl rfl .tree h4 rfl ?_); obtain ⟨r5,hr5,hF⟩:=bB hF
   refine rS (dQ (nZ _ _ hr5) ⟨⟨_,rfl⟩,trivial⟩ rfl (.inl rfl) ?_); refine QV rfl ?_; refine aJ ?_; refine wA rfl ?_; refine wIf hF rfl (fun _ hF=>?_) fun _ hF=>?_
   · refine wC 1 rfl ?_; refine rS (eJ (tc:=az) r5.1 .tree ?_); refine QV rfl ?_; cases hF
     exact cj wR
   refine bz ?_; refine wC 1 rfl ?_; obtain ⟨r6,hr6,hF⟩:=bB hF
   refine rS (dQ (nZ _ _ hr6) ⟨rfl,trivial⟩ rfl (.inl rfl) ?_); refine QV rfl ?_; refine wC 1 rfl ?_; obtain ⟨r7,hr7,hF⟩:=bB hF
   refine rS (dQ (nZ _ _ hr7) ⟨rfl,trivial⟩ rfl (.inl rfl) ?_); refine QV rfl ?_; refine wC 2 rfl ?_; obtain ⟨r8,hr8,hF⟩:=bB hF
   refine rS (dQ (T5 _ _ _ hr8) ⟨rfl,rfl,trivial⟩ rfl (.inl rfl) ?_); refine QV rfl ?_; refine aJ ?_; refine d6 (fun _ _ h=>h) hF (fun v9=>[(4,cB v9)]) (fun v9=>[]) ?_ ?_
   · rintro v9 hF
     cases hF
     exact cj wR
   intro join hF
   refine wD 3 rfl ?_; cases h10:(decide (r6.2 = 0))
   · have hF:=bF' h10 hF; refine QV rfl ?_; exact join false _ _ hF sw
   have hF:=bT' h10 hF; refine aW SV 4 rfl ?_; cases h11:(decide (r7.2 = 0))
   · have hF:=bF' h11 hF; refine QV rfl ?_; exact join false _ _ hF sw
   have hF:=bT' h11 hF; refine aW SV 4 rfl ?_; cases h12:(decide (r8.2 = 0))
   · have hF:=bF' h12 hF; refine QV rfl ?_; exact join false _ _ hF sw
   have hF:=bT' h12 hF; refine aW SV 2 rfl ?_; obtain ⟨r13,hr13,hF⟩:=bB' hF
   refine bQ SV rfl (dQ (uZ _ _ _ hr13) ⟨rfl,rfl,trivial⟩ rfl (.inl rfl) ?_); refine QV rfl ?_; exact join r13 _ _ hF sw
 intro join hF
 refine wF ?_; obtain ⟨r16,hr16,hF⟩:=bB' hF
 refine rS (dQ (jV _ hr16) trivial rfl (.inl rfl) ?_); refine aW SV 2 rfl ?_; cases h17:(!r16)
 · have hF:=bF' h17 hF; refine aW SV 1 rfl ?_; obtain ⟨r18,hr18,hF⟩:=bB' hF
   refine bQ SV rfl (dQ (o5 _ _ hr18) ⟨rfl,trivial⟩ rfl (.inl rfl) ?_); refine aW SV 3 rfl ?_; cases h19:(!r18)
   · have hF:=bF' h19 hF; refine aW SV 1 rfl ?_; obtain ⟨r20,hr20,hF⟩:=bB' hF
     refine bQ SV rfl (dQ (o5 _ _ hr20) ⟨rfl,trivial⟩ rfl (.inl rfl) ?_); refine aW SV 3 rfl ?_; cases h21:(!r20)
     · have hF:=bF' h21 hF; refine aW SV 1 rfl ?_; refine bQ SV rfl (eJ (tc:=aV) p0 .tree ?_); refine aW SV 3 rfl ?_; cases h22:(decide (10 < (List.length p0:Int)))
       · have hF:=bF' h22 hF; refine aW SV 1 rfl ?_; refine bQ SV rfl (eJ (tc:=aV) p1 .tree ?_); refine QV rfl ?_; exact join (decide (10 < (List.length p1:Int))) _ _ hF sw
       have hF:=bT' h22 hF; refine QV rfl ?_; exact join true _ _ hF sw
     have hF:=bT' h21 hF; refine QV rfl ?_; exact join true _ _ hF sw
   have hF:=bT' h19 hF; refine QV rfl ?_; exact join true _ _ hF sw
 have hF:=bT' h17 hF; refine QV rfl ?_; exact join true _ _ hF sw
def o7 (p0:aK):Option Bool :=
  (((bif (decide (0≤p0.fThread)) then (bif (decide (p0.fThread≤1000000000000000)) then (bif (decide (0≤p0.fAt)) then (bif (decide (p0.fAt≤1000000000000)) then (bif (decide (1≤p0.fWeight)) then some (decide (p0.fWeight≤1000000000000)) else some false) else some false) else some false) else some false) else some false):Option Bool).bind fun v1=>some v1)
theorem A7 (p0:aK) (r:Bool) (hF:o7 p0 = some r):Fun Try.prog 43 true [] [.agg (OY p0)] noHeap (cB r) noHeap:=by
 refine Fun.of_walk0 Try.func43 c43 (by kernel_rfl) (rs:=[.tmp 2]) (by kernel_rfl) ?_; unfold v43
 unfold o7 at hF
 refine wA rfl ?_; refine aJ ?_; refine d6 (fun _ _ h=>h) hF (fun v1=>[(2,cB v1)]) (fun v1=>[]) ?_ ?_
 · rintro v1 hF
   cases hF
   exact cj wR
 intro join hF
 refine wD 4 rfl ?_; cases h2:(decide (0≤p0.fThread))
 · have hF:=bF' h2 hF; refine QV rfl ?_; exact join false _ _ hF sw
 have hF:=bT' h2 hF; refine aW SV 5 rfl ?_; cases h3:(decide (p0.fThread≤1000000000000000))
 · have hF:=bF' h3 hF; refine QV rfl ?_; exact join false _ _ hF sw
 have hF:=bT' h3 hF; refine aW SV 5 rfl ?_; cases h4:(decide (0≤p0.fAt))
 · have hF:=bF' h4 hF; refine QV rfl ?_; exact join false _ _ hF sw
 have hF:=bT' h4 hF; refine aW SV 5 rfl ?_; cases h5:(decide (p0.fAt≤1000000000000))
 · have hF:=bF' h5 hF; refine QV rfl ?_; exact join false _ _ hF sw
 have hF:=bT' h5 hF; refine aW SV 5 rfl ?_; cases h6:(decide (1≤p0.fWeight))
 · have hF:=bF' h6 hF; refine QV rfl ?_; exact join false _ _ hF sw
 have hF:=bT' h6 hF; refine QV rfl ?_; exact join (decide (p0.fWeight≤1000000000000)) _ _ hF sw
def sY (p0:Int):Int→Option (Int ⊕ (Unit ⊕ Bool)):=fun a11 =>
  (bif (decide (a11 < (ByteArray.size (⟨#[95,46,58,47,60,62,36,42,126,45]⟩ : ByteArray):Int))) then ((idx (ByteArray.data (⟨#[95,46,58,47,60,62,36,42,126,45]⟩ : ByteArray)).toList a11).bind fun y15=>(bif (decide ((UInt8.toNat y15:Int) = p0)) then some (.inr (.inr true)) else some (.inl (w64 (a11 + 1))))) else some (.inr (.inl ())))
def i9 (p0:Int):Option Bool :=
  (((bif (decide (97≤p0)) then (bif (decide (p0≤122)) then some true else (bif (decide (65≤p0)) then (bif (decide (p0≤90)) then some true else (bif (decide (48≤p0)) then some (decide (p0≤57)) else some false)) else (bif (decide (48≤p0)) then some (decide (p0≤57)) else some false))) else (bif (decide (65≤p0)) then (bif (decide (p0≤90)) then some true else (bif (decide (48≤p0)) then some (decide (p0≤57)) else some false)) else (bif (decide (48≤p0)) then some (decide (p0≤57)) else some false))):Option Bool).bind fun v1=>(bif v1 then some true else ((loop (sY p0) 0).bind fun | .inl _=>some false | .inr rv=>some rv)))
theorem CZ (p0:Int) (r:Bool) (hF:i9 p0 = some r):Fun Try.prog 53 true [] [.c (.imm (.sc (.int .u8 p0)))] noHeap (cB r) noHeap:=by
 refine Fun.of_walk0 Try.func53 c53 (by kernel_rfl) (rs:=[.tmp 2]) (by kernel_rfl) ?_; unfold v53
 unfold i9 at hF
 refine wA rfl ?_; refine aJ ?_; refine aJ ?_; refine d6 (fun _ _ h=>h) hF (fun v1=>[(0,.c (.imm (.sc (.int .u8 p0)))),(26,cB v1)]) (fun v1=>[]) ?_ ?_
 · rintro v1 hF
   refine wIf hF rfl (fun _ hF=>?_) fun _ hF=>?_
   · refine wA rfl ?_; cases hF
     exact cj wR
   refine bz ?_; refine wA rfl ?_; refine aJ ?_; refine wA rfl ?_; refine l4 (fun _ _ h=>h) hF (.inl) (fun a11=>[(0,.c (.imm (.sc (.int .u8 p0)))),(3,.c (jS (⟨#[95,46,58,47,60,62,36,42,126,45]⟩ : ByteArray))),(4,cI a11)]) (fun a11=>[]) (fun _=>[]) (fun _=>[]) sw ?_ ?_
   · rintro ⟨⟩ hF
     refine wA rfl ?_; cases hF
     exact cj wR
   rintro a11 x_0 hF cont_0 brk_0 fin_0
   unfold sY at hF
   refine aJ ?_; refine wA rfl ?_; refine wIf hF rfl (fun _ hF=>?_) fun _ hF=>?_
   · refine bz ?_; refine aJ ?_; refine eZ ?_; refine wC 2 rfl ?_; obtain ⟨y15,hy15,hF⟩:=bB hF
     refine rS (aLY (⟨#[95,46,58,47,60,62,36,42,126,45]⟩ : ByteArray) rfl rfl hy15 ?_); refine QV rfl ?_; refine wIf hF rfl (fun _ hF=>?_) fun _ hF=>?_
     · refine wA rfl ?_; have hF:=fin_0 _ (oi hF); cases hF
       exact cj wR
     refine bz ?_; refine wB rfl ?_; exact cont_0 _ _ _ (oi hF) sw
   refine hZ ?_; refine aY ?_; refine aY ?_; refine b8 ?_; exact brk_0 _ _ _ (oi hF) sw
 intro join hF
 refine wD 3 rfl ?_; cases h19:(decide (97≤p0))
 · have hF:=bF' h19 hF; refine aW SV 7 rfl ?_; cases h20:(decide (65≤p0))
   · have hF:=bF' h20 hF; refine aW SV 8 rfl ?_; cases h21:(decide (48≤p0))
     · have hF:=bF' h21 hF; refine QV rfl ?_; exact join false _ _ hF sw
     have hF:=bT' h21 hF; refine QV rfl ?_; exact join (decide (p0≤57)) _ _ hF sw
   have hF:=bT' h20 hF; refine aW SV 5 rfl ?_; cases h22:(decide (p0≤90))
   · have hF:=bF' h22 hF; refine aW SV 3 rfl ?_; cases h23:(decide (48≤p0))
     · have hF:=bF' h23 hF; refine QV rfl ?_; exact join false _ _ hF sw
     have hF:=bT' h23 hF; refine QV rfl ?_; exact join (decide (p0≤57)) _ _ hF sw
   have hF:=bT' h22 hF; refine QV rfl ?_; exact join true _ _ hF sw
 have hF:=bT' h19 hF; refine aW SV 4 rfl ?_; cases h24:(decide (p0≤122))
 · have hF:=bF' h24 hF; refine aW SV 3 rfl ?_; cases h25:(decide (65≤p0))
   · have hF:=bF' h25 hF; refine aW SV 8 rfl ?_; cases h26:(decide (48≤p0))
     · have hF:=bF' h26 hF; refine QV rfl ?_; exact join false _ _ hF sw
     have hF:=bT' h26 hF; refine QV rfl ?_; exact join (decide (p0≤57)) _ _ hF sw
   have hF:=bT' h25 hF; refine aW SV 5 rfl ?_; cases h27:(decide (p0≤90))
   · have hF:=bF' h27 hF; refine aW SV 3 rfl ?_; cases h28:(decide (48≤p0))
     · have hF:=bF' h28 hF; refine QV rfl ?_; exact join false _ _ hF sw
     have hF:=bT' h28 hF; refine QV rfl ?_; exact join (decide (p0≤57)) _ _ hF sw
   have hF:=bT' h27 hF; refine QV rfl ?_; exact join true _ _ hF sw
 have hF:=bT' h24 hF; refine QV rfl ?_; exact join true _ _ hF sw
def lq (p0:ByteArray):Int→Option (Int ⊕ (Unit ⊕ Int)):=fun a13 =>
  (bif (decide (a13 < (ByteArray.size p0:Int))) then ((idx (ByteArray.data p0).toList a13).bind fun y18=>((i9 (UInt8.toNat y18:Int)).bind fun r19=>(bif (!r19) then some (.inr (.inr 3)) else some (.inl (w64 (a13 + 1)))))) else some (.inr (.inl ())))
def i3 (p0:ByteArray):Option Int :=
  (((bif (decide ((ByteArray.size p0:Int) < 1)) then some true else some (decide (40 < (ByteArray.size p0:Int)))):Option Bool).bind fun v1=>(bif v1 then some 3 else ((loop (lq p0) 0).bind fun | .inl _=>some 0 | .inr rv=>some rv)))
theorem uX (p0:ByteArray) (r:Int) (hF:i3 p0 = some r):Fun Try.prog 48 true [] [.c (jS p0)] noHeap (cI r) noHeap:=by
 refine Fun.of_walk0 Try.func48 c48 (by kernel_rfl) (rs:=[.tmp 2]) (by kernel_rfl) ?_; unfold v48
 unfold i3 at hF
 refine wA rfl ?_; refine aJ ?_; refine aJ ?_; refine d6 (fun _ _ h=>h) hF (fun v1=>[(0,.c (jS p0)),(11,cB v1)]) (fun v1=>[]) ?_ ?_
 · rintro v1 hF
   refine wIf hF rfl (fun _ hF=>?_) fun _ hF=>?_
   · refine wA rfl ?_; cases hF
     exact cj wR
   refine bz ?_; refine aJ ?_; refine wA rfl ?_; refine l4 (fun _ _ h=>h) hF (.inl) (fun a13=>[(0,.c (jS p0)),(3,cI a13)]) (fun a13=>[]) (fun _=>[]) (fun _=>[]) sw ?_ ?_
   · rintro ⟨⟩ hF
     refine wA rfl ?_; cases hF
     exact cj wR
   rintro a13 x_0 hF cont_0 brk_0 fin_0
   unfold lq at hF
   refine aJ ?_; refine wA rfl ?_; refine wIf hF rfl (fun _ hF=>?_) fun _ hF=>?_
   · refine bz ?_; refine aJ ?_; refine eZ ?_; refine wC 2 rfl ?_; obtain ⟨y18,hy18,hF⟩:=bB hF
     refine rS (aLY p0 rfl rfl hy18 ?_); obtain ⟨r19,hr19,hF⟩:=bB hF
     refine rS (dQ (CZ _ _ hr19) ⟨rfl,trivial⟩ rfl (.inl rfl) ?_); refine QV rfl ?_; refine wIf hF rfl (fun _ hF=>?_) fun _ hF=>?_
     · refine wA rfl ?_; have hF:=fin_0 _ (oi hF); cases hF
       exact cj wR
     refine bz ?_; refine wB rfl ?_; exact cont_0 _ _ _ (oi hF) sw
   refine hZ ?_; refine aY ?_; refine aY ?_; refine b8 ?_; exact brk_0 _ _ _ (oi hF) sw
 intro join hF
 refine wD 4 rfl ?_; cases h23:(decide ((ByteArray.size p0:Int) < 1))
 · have hF:=bF' h23 hF; refine QV rfl ?_; exact join (decide (40 < (ByteArray.size p0:Int))) _ _ hF sw
 have hF:=bT' h23 hF; refine QV rfl ?_; exact join true _ _ hF sw
def jK (p0:(List ByteArray)):Int→Option (Int ⊕ (Unit ⊕ Int)):=fun a12 =>
  (bif (decide (a12 < (List.length p0:Int))) then ((idx p0 a12).bind fun y17=>((i3 y17).bind fun r18=>(bif (!decide (r18 = 0)) then some (.inr (.inr 3)) else some (.inl (w64 (a12 + 1)))))) else some (.inr (.inl ())))
def i7 (p0:(List ByteArray)):Option Int :=
  (bif (decide (32 < (List.length p0:Int))) then some 7 else ((loop (jK p0) 0).bind fun | .inl _=>some 0 | .inr rv=>some rv))
theorem CQ (p0:(List ByteArray)) (r:Int) (hF:i7 p0 = some r):Fun Try.prog 44 true [] [cL 1 d7 p0] noHeap (cI r) noHeap:=by
 refine Fun.of_walk0 Try.func44 c44 (by kernel_rfl) (rs:=[.tmp 2]) (by kernel_rfl) ?_; unfold v44
 unfold i7 at hF
 refine wA rfl ?_; refine aJ ?_; refine wC 1 rfl ?_; refine rS (eJ (tc:=d7) p0 .tree ?_); refine QV rfl ?_; refine wIf hF rfl (fun _ hF=>?_) fun _ hF=>?_
 · refine wA rfl ?_; cases hF
   exact cj wR
 refine bz ?_; refine aJ ?_; refine wA rfl ?_; refine l4 (fun _ _ h=>h) hF (.inl) (fun a12=>[(0,cL 1 d7 p0),(3,cI a12)]) (fun a12=>[]) (fun _=>[]) (fun _=>[]) sw ?_ ?_
 · rintro ⟨⟩ hF
   refine wA rfl ?_; cases hF
   exact cj wR
 rintro a12 x_0 hF cont_0 brk_0 fin_0
 unfold jK at hF
 refine aJ ?_; refine wC 2 rfl ?_; refine rS (eJ (tc:=d7) p0 .tree ?_); refine QV rfl ?_; refine wIf hF rfl (fun _ hF=>?_) fun _ hF=>?_
 · refine bz ?_; refine aJ ?_; refine eZ ?_; refine wC 2 rfl ?_; obtain ⟨y17,hy17,hF⟩:=bB hF
   refine rS (eW (tc:=d7) p0 rfl rfl hy17 ?_); refine aW SV 1 rfl ?_; obtain ⟨r18,hr18,hF⟩:=bB hF
   refine rS (dQ (uX _ _ hr18) ⟨rfl,trivial⟩ rfl (.inl rfl) ?_); refine QV rfl ?_; refine wIf hF rfl (fun _ hF=>?_) fun _ hF=>?_
   · refine wA rfl ?_; have hF:=fin_0 _ (oi hF); cases hF
     exact cj wR
   refine bz ?_; refine wB rfl ?_; exact cont_0 _ _ _ (oi hF) sw
 refine hZ ?_; refine aY ?_; refine aY ?_; refine b8 ?_; exact brk_0 _ _ _ (oi hF) sw
def kj (p0:(List aK)):Int→Option (Int ⊕ (Unit ⊕ Int)):=fun a28 =>
  (bif (decide (a28 < (List.length p0:Int))) then ((idx p0 a28).bind fun y41=>((o7 y41).bind fun r42=>(bif (!r42) then some (.inr (.inr 2)) else ((idx p0 a28).bind fun y43=>((i7 y43.fStack).bind fun r44=>(bif (!decide (r44 = 0)) then some (.inr (.inr r44)) else (((bif (decide (0 < a28)) then ((idx p0 a28).bind fun y48=>((idx p0 (w64 (a28 - 1))).bind fun y49=>some (decide (y48.fAt < y49.fAt)))) else some false):Option Bool).bind fun v45=>(bif v45 then some (.inr (.inr 11)) else some (.inl (w64 (a28 + 1))))))))))) else some (.inr (.inl ())))
def kq (p0:(List aK)):Option Int :=
  ((loop (kj p0) 0).bind fun | .inl _=>some 0 | .inr rv=>some rv)
theorem D2 (p0:(List aK)) (r:Int) (hF:kq p0 = some r):Fun Try.prog 29 true [] [cL 4 aV p0] noHeap (cI r) noHeap:=by
 refine Fun.of_walk0 Try.func29 c29 (by kernel_rfl) (rs:=[.tmp 2]) (by kernel_rfl) ?_; unfold v29
 unfold kq at hF
 refine wA rfl ?_; refine aJ ?_; refine wA rfl ?_; refine l4 (fun _ _ h=>h) hF (.inl) (fun a28=>[(0,cL 4 aV p0),(3,cI a28)]) (fun a28=>[]) (fun _=>[]) (fun _=>[]) sw ?_ ?_
 · rintro ⟨⟩ hF
   refine wA rfl ?_; cases hF
   exact cj wR
 rintro a28 x_0 hF cont_0 brk_0 fin_0
 unfold kj at hF
 refine aJ ?_; refine wC 2 rfl ?_; refine rS (eJ (tc:=aV) p0 .tree ?_); refine QV rfl ?_; refine wIf hF rfl (fun _ hF=>?_) fun _ hF=>?_
 · refine bz ?_; refine aJ ?_; refine eZ ?_; refine aJ ?_; refine wC 2 rfl ?_; obtain ⟨y41,hy41,hF⟩:=bB hF
   refine rS (eW (tc:=aV) p0 rfl rfl hy41 ?_); refine aW SV 1 rfl ?_; obtain ⟨r42,hr42,hF⟩:=bB hF
   refine rS (dQ (A7 _ _ hr42) ⟨⟨rfl,rfl,rfl,rfl,trivial⟩,trivial⟩ rfl (.inl rfl) ?_); refine QV rfl ?_; refine wIf hF rfl (fun _ hF=>?_) fun _ hF=>?_
   · refine wA rfl ?_; have hF:=fin_0 _ (oi hF); cases hF
     exact cj wR
   refine bz ?_; refine wC 2 rfl ?_; obtain ⟨y43,hy43,hF⟩:=bB hF
   refine rS (eW (tc:=aV) p0 rfl rfl hy43 ?_); refine aW SV 2 rfl ?_; obtain ⟨r44,hr44,hF⟩:=bB hF
   refine rS (dQ (CQ _ _ hr44) ⟨rfl,trivial⟩ rfl (.inl rfl) ?_); refine QV rfl ?_; refine aJ ?_; refine wA rfl ?_; refine wIf hF rfl (fun _ hF=>?_) fun _ hF=>?_
   · refine wA rfl ?_; have hF:=fin_0 _ (oi hF); cases hF
     exact cj wR
   refine bz ?_; refine aJ ?_; refine d6 (fun _ _ h=>h) hF (fun v45=>[(0,cL 4 aV p0),(3,cI a28),(41,cB v45)]) (fun v45=>[]) ?_ ?_
   · rintro v45 hF
     refine wIf hF rfl (fun _ hF=>?_) fun _ hF=>?_
     · refine wA rfl ?_; have hF:=fin_0 _ (oi hF); cases hF
       exact cj wR
     refine bz ?_; refine wB rfl ?_; exact cont_0 _ _ _ (oi hF) sw
   intro join hF
   refine q0 (by decide) (by kernel_rfl) rfl ?_; refine aW SP 3 rfl ?_; cases h47:(decide (0 < a28))
   · have hF:=bF' h47 hF; refine QP rfl ?_; exact join false _ _ hF sw
   have hF:=bT' h47 hF; refine aW SP 2 rfl ?_; obtain ⟨y48,hy48,hF⟩:=bB' hF
   refine bQ SP rfl (eW (tc:=aV) p0 rfl rfl hy48 ?_); refine aW SP 5 rfl ?_; obtain ⟨y49,hy49,hF⟩:=bB' hF
   refine bQ SP rfl (eW (tc:=aV) p0 rfl rfl hy49 ?_); refine QP rfl ?_; exact join (decide (y48.fAt < y49.fAt)) _ _ hF sw
 refine hZ ?_; refine aY ?_; refine aY ?_; refine b8 ?_; exact brk_0 _ _ _ (oi hF) sw
def l7 (p0:(List ByteArray)) (p1:(List ByteArray)):Int→Option (Int ⊕ (Unit ⊕ Int)):=fun a22 =>
  (((bif (decide (a22 < (List.length p0:Int))) then some (decide (a22 < (List.length p1:Int))) else some false):Option Bool).bind fun v34=>(bif v34 then ((idx p0 a22).bind fun y35=>((idx p1 a22).bind fun y36=>(bif (sLt y35 y36) then some (.inr (.inr (-1))) else ((idx p0 a22).bind fun y37=>((idx p1 a22).bind fun y38=>(bif (!(sLt y37 y38 || decide (y37 = y38))) then some (.inr (.inr 1)) else some (.inl (w64 (a22 + 1))))))))) else some (.inr (.inl ()))))
def dY (p0:(List ByteArray)) (p1:(List ByteArray)):Option Int :=
  ((loop (l7 p0 p1) 0).bind fun | .inl _=>(bif (decide ((List.length p0:Int) < (List.length p1:Int))) then some (-1) else (bif (decide ((List.length p1:Int) < (List.length p0:Int))) then some 1 else some 0)) | .inr rv=>some rv)
theorem lV (p0:(List ByteArray)) (p1:(List ByteArray)) (r:Int) (hF:dY p0 p1 = some r):Fun Try.prog 20 true [] [cL 1 d7 p0,cL 1 d7 p1] noHeap (cI r) noHeap:=by
 refine Fun.of_walk0 Try.func20 c20 (by kernel_rfl) (rs:=[.tmp 4]) (by kernel_rfl) ?_; unfold v20
 unfold dY at hF
 refine wA rfl ?_; refine aJ ?_; refine wA rfl ?_; refine l4 (fun _ _ h=>h) hF (.inl) (fun a22=>[(0,cL 1 d7 p0),(1,cL 1 d7 p1),(5,cI a22)]) (fun a22=>[]) (fun _=>[(0,cL 1 d7 p0),(1,cL 1 d7 p1)]) (fun _=>[]) sw ?_ ?_
 · rintro ⟨⟩ hF
   refine aJ ?_; refine wC 1 rfl ?_; refine rS (eJ (tc:=d7) p0 .tree ?_); refine aW SV 1 rfl ?_; refine rS (eJ (tc:=d7) p1 .tree ?_); refine QV rfl ?_; refine wIf hF rfl (fun _ hF=>?_) fun _ hF=>?_
   · refine wA rfl ?_; cases hF
     exact cj wR
   refine bz ?_; refine aJ ?_; refine wC 1 rfl ?_; refine rS (eJ (tc:=d7) p0 .tree ?_); refine aW SV 1 rfl ?_; refine rS (eJ (tc:=d7) p1 .tree ?_); refine QV rfl ?_; refine wIf hF rfl (fun _ hF=>?_) fun _ hF=>?_
   · refine wA rfl ?_; cases hF
     exact cj wR
   refine bz ?_; refine wA rfl ?_; cases hF
   exact cj wR
 rintro a22 x_0 hF cont_0 brk_0 fin_0
 unfold l7 at hF
 refine aJ ?_; refine aJ ?_; refine d6 (fun _ _ h=>h) hF (fun v34=>[(0,cL 1 d7 p0),(1,cL 1 d7 p1),(5,cI a22),(15,cB v34)]) (fun v34=>[]) ?_ ?_
 · rintro v34 hF
   refine wIf hF rfl (fun _ hF=>?_) fun _ hF=>?_
   · refine bz ?_; refine aJ ?_; refine eZ ?_; refine aJ ?_; refine aJ ?_; refine q0 (by decide) (by kernel_rfl) rfl ?_; refine aW SP 2 rfl ?_; obtain ⟨y35,hy35,hF⟩:=bB hF
     refine bQ SP trivial (eW (tc:=d7) p0 rfl rfl hy35 ?_); refine aW SP 3 rfl ?_; obtain ⟨y36,hy36,hF⟩:=bB hF
     refine bQ SP trivial (eW (tc:=d7) p1 rfl rfl hy36 ?_); refine QP rfl ?_; refine wIf hF rfl (fun _ hF=>?_) fun _ hF=>?_
     · refine wA rfl ?_; have hF:=fin_0 _ (oi hF); cases hF
       exact cj wR
     refine bz ?_; refine aJ ?_; refine q0 (by decide) (by kernel_rfl) rfl ?_; refine aW SP 2 rfl ?_; obtain ⟨y37,hy37,hF⟩:=bB hF
     refine bQ SP trivial (eW (tc:=d7) p0 rfl rfl hy37 ?_); refine aW SP 3 rfl ?_; obtain ⟨y38,hy38,hF⟩:=bB hF
     refine bQ SP trivial (eW (tc:=d7) p1 rfl rfl hy38 ?_); refine QP rfl ?_; refine wIf hF rfl (fun _ hF=>?_) fun _ hF=>?_
     · refine wA rfl ?_; have hF:=fin_0 _ (oi hF); cases hF
       exact cj wR
     refine bz ?_; refine wB rfl ?_; exact cont_0 _ _ _ (oi hF) sw
   refine hZ ?_; refine aY ?_; refine aY ?_; refine b8 ?_; exact brk_0 _ _ _ (oi hF) sw
 intro join hF
 refine wD 2 rfl ?_; refine rS (eJ (tc:=d7) p0 .tree ?_); refine aW SV 2 rfl ?_; cases h42:(decide (a22 < (List.length p0:Int)))
 · have hF:=bF' h42 hF; refine QV rfl ?_; exact join false _ _ hF sw
 have hF:=bT' h42 hF; refine aW SV 2 rfl ?_; refine bQ SV rfl (eJ (tc:=d7) p1 .tree ?_); refine QV rfl ?_; exact join (decide (a22 < (List.length p1:Int))) _ _ hF sw
def p6 (p0:(List aj)) (p1:aj):((List aj) × Bool × Int)→Option (((List aj) × Bool × Int) ⊕ ((List aj) × Bool)):=fun (a44,a45,a46) =>
  (bif (decide (a46 < (List.length p0:Int))) then ((((idx p0 a46).bind fun y71=>((dY y71.fPath p1.fPath).bind fun r72=>(bif (decide (r72 = 0)) then ((idx p0 a46).bind fun y73=>((idx p0 a46).bind fun y74=>(bif Sx 40 (List.length a44 + List.length [({ fPath:=p1.fPath,fSelf:=(w64 (y73.fSelf + p1.fSelf)),fCount:=(w64 (y74.fCount + p1.fCount)) }:aj)]) then some ((a44++[({ fPath:=p1.fPath,fSelf:=(w64 (y73.fSelf + p1.fSelf)),fCount:=(w64 (y74.fCount + p1.fCount)) }:aj)]),true) else none))) else (((bif (decide (0 < r72)) then some (!a45) else some false):Option Bool).bind fun v76=>(((bif v76 then (bif Sx 40 (List.length a44 + List.length [p1]) then some ((a44++[p1]),true) else none) else some (a44,a45)):Option ((List aj) × Bool)).bind fun (v77,v78)=>((idx p0 a46).bind fun y79=>(bif Sx 40 (List.length v77 + List.length [y79]) then some ((v77++[y79]),v78) else none))))))):Option ((List aj) × Bool)).bind fun (v69,v70)=>some (.inl (v69,v70,(w64 (a46 + 1))))) else some (.inr (a44,a45)))
def gW (p0:(List aj)) (p1:aj):Option (List aj) :=
  ((loop (p6 p0 p1) ([],false,0)).bind fun (e64,e65)=>(((bif (!e65) then (bif Sx 40 (List.length e64 + List.length [p1]) then some (e64++[p1]) else none) else some e64):Option (List aj)).bind fun v66=>some v66))
theorem u7 (p0:(List aj)) (p1:aj) (r:(List aj)) (hF:gW p0 p1 = some r):Fun Try.prog 45 false [] [cL 3 aq p0,.agg (fW p1)] (aX []) (cO (902,1800)) (aX [((902,1800),.arr 58 3 (List.map aq r))]):=by
 refine Fun.of_walkM [] (some []) Try.func45 c45 (by kernel_rfl) (rs:=[.tmp 4]) (by kernel_rfl) rfl rfl rfl ?_; unfold v45
 unfold gW at hF
 refine wA rfl ?_; refine wA rfl ?_; refine wA rfl ?_; refine aJ ?_; refine wA rfl ?_; refine l4 (fun _ _ h=>h) hF (id) (fun (a44,a45,a46)=>[(0,cL 3 aq p0),(3,cP (3,0) 0),(5,cO (46,1)),(6,cB a45),(7,cI a46)]) (fun (a44,a45,a46)=>[((3,0),.box (fW p1)),((46,1),.arr 58 3 (List.map aq a44))]) (fun (e64,e65)=>[(3,cP (3,0) 0),(5,cO (46,1)),(6,cB e65)]) (fun (e64,e65)=>[((3,0),.box (fW p1)),((46,1),.arr 58 3 (List.map aq e64))]) (aaK 5 (46,1) 58 3 rfl rfl rfl rfl sw) ?_ ?_
 · rintro ⟨e64,e65⟩ hF
   refine aJ ?_; refine wA rfl ?_; refine d6 (fun _ _ h=>h) hF (fun v66=>[(5,cO (46,1))]) (fun v66=>[((46,1),.arr 58 3 (List.map aq v66))]) ?_ ?_
   · rintro v66 hF
     refine wA rfl ?_; cases hF
     exact cj ⟨_,_,(L0 (46,1) (902,1800) rfl rfl MX),_,rfl,rfl,rfl,(AgM.weak ⟨rfl,trivial⟩)⟩
   intro join hF
   refine Y3 hF rfl (fun _ hF=>?_) fun _ hF=>?_
   · refine wD 2 rfl ?_; refine rS (YY (tc:=aq) [p1] rfl ⟨rfl,rfl,rfl,trivial⟩ rfl (fun _=>rfl) rfl ?_)
     obtain ⟨h67,hF⟩:=VY hF
     refine rS (Iz (tc:=aq) e64 [p1] rfl rfl (.own _ _ rfl) h67 rfl ?_); refine QV rfl ?_; exact join (e64++[p1]) _ _ hF (L0 (69,0) (46,1) rfl rfl sw)
   refine bz ?_; exact join e64 _ _ hF sw
 rintro ⟨a44,a45,a46⟩ x_0 hF cont_0 brk_0 fin_0
 unfold p6 at hF
 refine aJ ?_; refine wC 2 rfl ?_; refine rS (eJ (tc:=aq) p0 .tree ?_); refine QV rfl ?_; refine wIf hF rfl (fun _ hF=>?_) fun _ hF=>?_
 · refine bz ?_; refine aJ ?_; refine d6 (fun _ _ h=>h) hF (fun (v69,v70)=>[(0,cL 3 aq p0),(3,cP (3,0) 0),(5,cO (46,1)),(6,cB v70),(7,cI a46)]) (fun (v69,v70)=>[((3,0),.box (fW p1)),((46,1),.arr 58 3 (List.map aq v69))]) ?_ ?_
   · rintro ⟨v69,v70⟩ hF
     refine wB rfl ?_; exact cont_0 _ _ _ (oi hF) sw
   intro join hF
   refine eZ ?_; refine aJ ?_; refine q0 (by decide) (by kernel_rfl) rfl ?_; refine aW SP 2 rfl ?_; obtain ⟨y71,hy71,hF⟩:=bB' hF
   refine bQ SP trivial (eW (tc:=aq) p0 rfl rfl hy71 ?_); refine aW SP 4 rfl ?_; obtain ⟨r72,hr72,hF⟩:=bB' hF
   refine bQ SP trivial (dQ (lV _ _ _ hr72) ⟨rfl,rfl,trivial⟩ rfl (.inl rfl) ?_); refine QP rfl ?_; refine aJ ?_; refine wA rfl ?_; refine Y3 hF rfl (fun _ hF=>?_) fun _ hF=>?_
   · refine aJ ?_; refine q0 (by decide) (by kernel_rfl) rfl ?_; refine aW SP 5 rfl ?_; obtain ⟨y73,hy73,hF⟩:=bB' hF
     refine bQ SP trivial (eW (tc:=aq) p0 rfl rfl hy73 ?_); refine aW SP 7 rfl ?_; obtain ⟨y74,hy74,hF⟩:=bB' hF
     refine bQ SP trivial (eW (tc:=aq) p0 rfl rfl hy74 ?_); refine aW SP 6 rfl ?_; refine bQ SP trivial (YY (tc:=aq) [({ fPath:=p1.fPath,fSelf:=(w64 (y73.fSelf + p1.fSelf)),fCount:=(w64 (y74.fCount + p1.fCount)) }:aj)] rfl ⟨rfl,rfl,rfl,trivial⟩ rfl (fun _=>rfl) rfl ?_)
     obtain ⟨h75,hF⟩:=VY hF
     refine bQ SP trivial (Iz (tc:=aq) a44 [({ fPath:=p1.fPath,fSelf:=(w64 (y73.fSelf + p1.fSelf)),fCount:=(w64 (y74.fCount + p1.fCount)) }:aj)] rfl rfl (.own _ _ rfl) h75 rfl ?_)
     refine QP rfl ?_; refine wA rfl ?_; refine hZ ?_; refine aY ?_; refine b8 ?_; exact join ((a44++[({ fPath:=p1.fPath,fSelf:=(w64 (y73.fSelf + p1.fSelf)),fCount:=(w64 (y74.fCount + p1.fCount)) }:aj)]),true) _ _ hF (L0 (46,0) (46,1) rfl rfl sw)
   refine bz ?_; refine aJ ?_; refine aJ ?_; have hF:=bA hF; refine d6 (fun _ _ h=>h) hF (fun v76=>[(0,cL 3 aq p0),(3,cP (3,0) 0),(5,cO (46,1)),(6,cB a45),(7,cI a46),(52,cB v76)]) (fun v76=>[((3,0),.box (fW p1)),((46,1),.arr 58 3 (List.map aq a44))]) ?_ ?_
   · rintro v76 hF
     have hF:=bA hF; refine d6 (fun _ _ h=>h) hF (fun (v77,v78)=>[(0,cL 3 aq p0),(3,cP (3,0) 0),(5,cO (46,1)),(6,cB v78),(7,cI a46)]) (fun (v77,v78)=>[((3,0),.box (fW p1)),((46,1),.arr 58 3 (List.map aq v77))]) ?_ ?_
     · rintro ⟨v77,v78⟩ hF
       refine wD 3 rfl ?_; obtain ⟨y79,hy79,hF⟩:=bB' hF
       refine rS (eW (tc:=aq) p0 rfl rfl hy79 ?_); refine aW SV 1 rfl ?_; refine rS (YY (tc:=aq) [y79] rfl ⟨rfl,rfl,rfl,trivial⟩ rfl (fun _=>rfl) rfl ?_)
       obtain ⟨h80,hF⟩:=VY hF
       refine rS (Iz (tc:=aq) v77 [y79] rfl rfl (.own _ _ rfl) h80 rfl ?_); refine QV rfl ?_; exact join ((v77++[y79]),v78) _ _ hF (L0 (63,0) (46,1) rfl rfl sw)
     intro join hF
     refine Y3 hF rfl (fun _ hF=>?_) fun _ hF=>?_
     · refine wC 2 rfl ?_; refine rS (YY (tc:=aq) [p1] rfl ⟨rfl,rfl,rfl,trivial⟩ rfl (fun _=>rfl) rfl ?_)
       obtain ⟨h81,hF⟩:=VY hF
       refine rS (Iz (tc:=aq) a44 [p1] rfl rfl (.own _ _ rfl) h81 rfl ?_); refine QV rfl ?_; refine wB rfl ?_; exact join ((a44++[p1]),true) _ _ hF (L0 (56,0) (46,1) rfl rfl sw)
     refine bz ?_; exact join (a44,a45) _ _ hF sw
   intro join hF
   refine wD 3 rfl ?_; cases h83:(decide (0 < r72))
   · have hF:=bF' h83 hF; refine QV rfl ?_; exact join false _ _ hF sw
   have hF:=bT' h83 hF; refine QV rfl ?_; exact join (!a45) _ _ hF sw
 refine hZ ?_; refine aY ?_; refine aY ?_; refine b8 ?_; exact brk_0 _ _ _ (oi hF) sw
def jq (p0:(List ByteArray)) (p1:(List ByteArray)):Option Bool :=
  (((bif (decide ((List.length p1:Int)≤(List.length p0:Int))) then ((G0 p0 0 (List.length p1:Int)).bind fun y3=>((dY y3 p1).bind fun r4=>some (decide (r4 = 0)))) else some false):Option Bool).bind fun v1=>some v1)
theorem B8 (p0:(List ByteArray)) (p1:(List ByteArray)) (r:Bool) (hF:jq p0 p1 = some r):Fun Try.prog 46 true [] [cL 1 d7 p0,cL 1 d7 p1] noHeap (cB r) noHeap:=by
 refine Fun.of_walk0 Try.func46 c46 (by kernel_rfl) (rs:=[.tmp 4]) (by kernel_rfl) ?_; unfold v46
 unfold jq at hF
 refine wA rfl ?_; refine aJ ?_; refine d6 (fun _ _ h=>h) hF (fun v1=>[(4,cB v1)]) (fun v1=>[]) ?_ ?_
 · rintro v1 hF
   cases hF
   exact cj wR
 intro join hF
 refine wD 1 rfl ?_; refine rS (eJ (tc:=d7) p0 .tree ?_); refine aW SV 1 rfl ?_; refine rS (eJ (tc:=d7) p1 .tree ?_); refine aW SV 2 rfl ?_; cases h2:(decide ((List.length p1:Int)≤(List.length p0:Int)))
 · have hF:=bF' h2 hF; refine QV rfl ?_; exact join false _ _ hF sw
 have hF:=bT' h2 hF; refine aW SV 2 rfl ?_; refine bQ SV rfl (eJ (tc:=d7) p1 .tree ?_); obtain ⟨y3,hy3,hF⟩:=bB' hF
 refine bQ SV rfl (aMq (tc:=d7) p0 rfl rfl rfl hy3 ?_); refine aW SV 1 rfl ?_; obtain ⟨r4,hr4,hF⟩:=bB' hF
 refine bQ SV rfl (dQ (lV _ _ _ hr4) ⟨rfl,rfl,trivial⟩ rfl (.inl rfl) ?_); refine QV rfl ?_; exact join (decide (r4 = 0)) _ _ hF sw
def jW (p0:(List ax)):(Int × Int × Int)→Option ((Int × Int × Int) ⊕ ((Int × Int) ⊕ Int)):=fun (a32,a33,a34) =>
  (bif (decide (a34 < (List.length p0:Int))) then ((idx p0 a34).bind fun y51=>((i3 y51.fName).bind fun r52=>(bif (!decide (r52 = 0)) then some (.inr (.inr r52)) else (((bif (decide (y51.fSelf < 0)) then some true else (bif (decide (100000000000000 < y51.fSelf)) then some true else (bif (decide (y51.fCount < 0)) then some true else (bif (decide (20000 < y51.fCount)) then some true else (bif (decide (y51.fCount = 0)) then some (!decide (y51.fSelf = 0)) else some false))))):Option Bool).bind fun v53=>(bif v53 then some (.inr (.inr 2)) else some (.inl ((w64 (a32 + y51.fSelf)),(w64 (a33 + y51.fCount)),(w64 (a34 + 1))))))))) else some (.inr (.inl (a32,a33))))
def jz (p0:(List ax)):Option Int :=
  ((loop (jW p0) (0,0,0)).bind fun | .inl (e46,e47)=>(((bif (decide (100000000000000 < e46)) then some true else some (decide (20000 < e47))):Option Bool).bind fun v48=>(bif v48 then some 2 else some 0)) | .inr rv=>some rv)
theorem B9 (p0:(List ax)) (r:Int) (hF:jz p0 = some r):Fun Try.prog 33 true [] [cL 5 az p0] noHeap (cI r) noHeap:=by
 refine Fun.of_walk0 Try.func33 c33 (by kernel_rfl) (rs:=[.tmp 2]) (by kernel_rfl) ?_; unfold v33
 unfold jz at hF
 refine wA rfl ?_; refine wA rfl ?_; refine aJ ?_; refine wA rfl ?_; refine l4 (fun _ _ h=>h) hF (.inl) (fun (a32,a33,a34)=>[(0,cL 5 az p0),(3,cI a32),(4,cI a33),(5,cI a34)]) (fun (a32,a33,a34)=>[]) (fun (e46,e47)=>[(3,cI e46),(4,cI e47)]) (fun (e46,e47)=>[]) sw ?_ ?_
 · rintro ⟨e46,e47⟩ hF
   refine aJ ?_; refine aJ ?_; refine d6 (fun _ _ h=>h) hF (fun v48=>[(65,cB v48)]) (fun v48=>[]) ?_ ?_
   · rintro v48 hF
     refine wIf hF rfl (fun _ hF=>?_) fun _ hF=>?_
     · refine wA rfl ?_; cases hF
       exact cj wR
     refine bz ?_; refine wA rfl ?_; cases hF
     exact cj wR
   intro join hF
   refine wD 3 rfl ?_; cases h50:(decide (100000000000000 < e46))
   · have hF:=bF' h50 hF; refine QV rfl ?_; exact join (decide (20000 < e47)) _ _ hF sw
   have hF:=bT' h50 hF; refine QV rfl ?_; exact join true _ _ hF sw
 rintro ⟨a32,a33,a34⟩ x_0 hF cont_0 brk_0 fin_0
 unfold jW at hF
 refine aJ ?_; refine wC 2 rfl ?_; refine rS (eJ (tc:=az) p0 .tree ?_); refine QV rfl ?_; refine wIf hF rfl (fun _ hF=>?_) fun _ hF=>?_
 · refine bz ?_; refine aJ ?_; refine eZ ?_; refine wC 2 rfl ?_; obtain ⟨y51,hy51,hF⟩:=bB hF
   refine rS (eW (tc:=az) p0 rfl rfl hy51 ?_); refine QV rfl ?_; refine wC 2 rfl ?_; obtain ⟨r52,hr52,hF⟩:=bB hF
   refine rS (dQ (uX _ _ hr52) ⟨rfl,trivial⟩ rfl (.inl rfl) ?_); refine QV rfl ?_; refine aJ ?_; refine wA rfl ?_; refine wIf hF rfl (fun _ hF=>?_) fun _ hF=>?_
   · refine wA rfl ?_; have hF:=fin_0 _ (oi hF); cases hF
     exact cj wR
   refine bz ?_; refine aJ ?_; refine aJ ?_; refine d6 (fun _ _ h=>h) hF (fun v53=>[(0,cL 5 az p0),(3,cI a32),(4,cI a33),(5,cI a34),(6,cP (6,0) 0),(51,cB v53)]) (fun v53=>[((6,0),.box (xY y51))]) ?_ ?_
   · rintro v53 hF
     refine wIf hF rfl (fun _ hF=>?_) fun _ hF=>?_
     · refine wA rfl ?_; have hF:=fin_0 _ (oi hF); cases hF
       exact cj wR
     refine bz ?_; refine wA rfl ?_; refine wB rfl ?_; refine wB rfl ?_; exact cont_0 _ _ _ (oi hF) sw
   intro join hF
   refine wD 4 rfl ?_; cases h55:(decide (y51.fSelf < 0))
   · have hF:=bF' h55 hF; refine aW SV 5 rfl ?_; cases h56:(decide (100000000000000 < y51.fSelf))
     · have hF:=bF' h56 hF; refine aW SV 5 rfl ?_; cases h57:(decide (y51.fCount < 0))
       · have hF:=bF' h57 hF; refine aW SV 5 rfl ?_; cases h58:(decide (20000 < y51.fCount))
         · have hF:=bF' h58 hF; refine aW SV 4 rfl ?_; cases h59:(decide (y51.fCount = 0))
           · have hF:=bF' h59 hF; refine QV rfl ?_; exact join false _ _ hF sw
           have hF:=bT' h59 hF; refine QV rfl ?_; exact join (!decide (y51.fSelf = 0)) _ _ hF sw
         have hF:=bT' h58 hF; refine QV rfl ?_; exact join true _ _ hF sw
       have hF:=bT' h57 hF; refine QV rfl ?_; exact join true _ _ hF sw
     have hF:=bT' h56 hF; refine QV rfl ?_; exact join true _ _ hF sw
   have hF:=bT' h55 hF; refine QV rfl ?_; exact join true _ _ hF sw
 refine hZ ?_; refine aY ?_; refine aY ?_; refine b8 ?_; exact brk_0 _ _ _ (oi hF) sw
def nK (p0:(List ax)) (p1:Int):Int→Option (Int ⊕ Int):=fun a12 =>
  (((bif (decide (0≤a12)) then some (!decide (a12 = p1)) else some false):Option Bool).bind fun v18=>(bif v18 then ((idx p0 a12).bind fun y19=>some (.inl y19.fParent)) else some (.inr a12)))
def j1 (p0:(List ax)) (p1:Int) (p2:Int):Option Bool :=
  ((loop (nK p0 p1) p2).bind fun e17=>some (decide (e17 = p1)))
theorem DV (p0:(List ax)) (p1:Int) (p2:Int) (r:Bool) (hF:j1 p0 p1 p2 = some r):Fun Try.prog 49 true [] [cL 5 az p0,cI p1,cI p2] noHeap (cB r) noHeap:=by
 refine Fun.of_walk0 Try.func49 c49 (by kernel_rfl) (rs:=[.tmp 6]) (by kernel_rfl) ?_; unfold v49
 unfold j1 at hF
 refine wA rfl ?_; refine aJ ?_; refine l4 (fun _ _ h=>h) hF (id) (fun a12=>[(0,cL 5 az p0),(1,cI p1),(2,cI a12)]) (fun a12=>[]) (fun e17=>[(1,cI p1),(2,cI e17)]) (fun e17=>[]) sw ?_ ?_
 · rintro e17 hF
   refine wA rfl ?_; cases hF
   exact cj wR
 rintro a12 x_0 hF cont_0 brk_0 fin_0
 unfold nK at hF
 refine aJ ?_; refine aJ ?_; refine d6 (fun _ _ h=>h) hF (fun v18=>[(0,cL 5 az p0),(1,cI p1),(2,cI a12),(13,cB v18)]) (fun v18=>[]) ?_ ?_
 · rintro v18 hF
   refine wIf hF rfl (fun _ hF=>?_) fun _ hF=>?_
   · refine bz ?_; refine eZ ?_; refine wD 2 rfl ?_; obtain ⟨y19,hy19,hF⟩:=bB hF
     refine rS (eW (tc:=az) p0 rfl rfl hy19 ?_); refine QV rfl ?_; exact cont_0 _ _ _ (oi hF) sw
   refine hZ ?_; refine aY ?_; refine aY ?_; refine b8 ?_; exact brk_0 _ _ _ (oi hF) sw
 intro join hF
 refine wD 3 rfl ?_; cases h21:(decide (0≤a12))
 · have hF:=bF' h21 hF; refine QV rfl ?_; exact join false _ _ hF sw
 have hF:=bT' h21 hF; refine QV rfl ?_; exact join (!decide (a12 = p1)) _ _ hF sw
def ox (p0:(List ax)) (y107:ax):Int→Option (Int ⊕ Int):=fun a120 =>
  (((bif (decide (0≤a120)) then ((idx p0 a120).bind fun y134=>some (!decide (y134.fParent = y107.fParent))) else some false):Option Bool).bind fun v131=>(bif v131 then some (.inl (w64 (a120 - 1))) else some (.inr a120)))
def n6 (p0:(List ax)):Int→Option (Int ⊕ (Unit ⊕ Int)):=fun a72 =>
  (bif (decide (a72 < (List.length p0:Int))) then ((idx p0 a72).bind fun y107=>(((bif (decide (y107.fParent < (-1))) then some true else (bif (decide (a72≤y107.fParent)) then some true else (bif (decide (0≤y107.fParent)) then ((j1 p0 y107.fParent (w64 (a72 - 1))).bind fun r139=>some (!r139)) else some false))):Option Bool).bind fun v108=>(bif v108 then some (.inr (.inr 10)) else ((loop (ox p0 y107) (w64 (a72 - 1))).bind fun e125=>(((bif (decide (0≤e125)) then ((idx p0 e125).bind fun y129=>((idx p0 a72).bind fun y130=>some (!sLt y129.fName y130.fName))) else some false):Option Bool).bind fun v126=>(bif v126 then some (.inr (.inr 11)) else some (.inl (w64 (a72 + 1))))))))) else some (.inr (.inl ())))
def j3 (p0:(List ax)):Option Int :=
  ((loop (n6 p0) 0).bind fun | .inl _=>some 0 | .inr rv=>some rv)
theorem DQ (p0:(List ax)) (r:Int) (hF:j3 p0 = some r):Fun Try.prog 34 true [] [cL 5 az p0] noHeap (cI r) noHeap:=by
 refine Fun.of_walk0 Try.func34 c34 (by kernel_rfl) (rs:=[.tmp 2]) (by kernel_rfl) ?_; unfold v34
 unfold j3 at hF
 refine wA rfl ?_; refine aJ ?_; refine wA rfl ?_; refine l4 (fun _ _ h=>h) hF (.inl) (fun a72=>[(0,cL 5 az p0),(3,cI a72)]) (fun a72=>[]) (fun _=>[]) (fun _=>[]) sw ?_ ?_
 · rintro ⟨⟩ hF
   refine wA rfl ?_; cases hF
   exact cj wR
 rintro a72 x_0 hF cont_0 brk_0 fin_0
 unfold n6 at hF
 refine aJ ?_; refine wC 2 rfl ?_; refine rS (eJ (tc:=az) p0 .tree ?_); refine QV rfl ?_; refine wIf hF rfl (fun _ hF=>?_) fun _ hF=>?_
 · refine bz ?_; refine aJ ?_; refine eZ ?_; refine wC 2 rfl ?_; obtain ⟨y107,hy107,hF⟩:=bB hF
   refine rS (eW (tc:=az) p0 rfl rfl hy107 ?_); refine QV rfl ?_; refine aJ ?_; refine aJ ?_; refine d6 (fun _ _ h=>h) hF (fun v108=>[(0,cL 5 az p0),(3,cI a72),(4,cI y107.fParent),(35,cB v108)]) (fun v108=>[]) ?_ ?_
   · rintro v108 hF
     refine wIf hF rfl (fun _ hF=>?_) fun _ hF=>?_
     · refine wA rfl ?_; have hF:=fin_0 _ (oi hF); cases hF
       exact cj wR
     refine bz ?_; refine wA rfl ?_; refine aJ ?_; refine l4 (fun _ _ h=>h) hF (id) (fun a120=>[(0,cL 5 az p0),(3,cI a72),(4,cI y107.fParent),(5,cI a120)]) (fun a120=>[]) (fun e125=>[(0,cL 5 az p0),(3,cI a72),(5,cI e125)]) (fun e125=>[]) sw ?_ ?_
     · rintro e125 hF
       refine aJ ?_; refine d6 (fun _ _ h=>h) hF (fun v126=>[(0,cL 5 az p0),(3,cI a72),(65,cB v126)]) (fun v126=>[]) ?_ ?_
       · rintro v126 hF
         refine wIf hF rfl (fun _ hF=>?_) fun _ hF=>?_
         · refine wA rfl ?_; have hF:=fin_0 _ (oi hF); cases hF
           exact cj wR
         refine bz ?_; refine wB rfl ?_; exact cont_0 _ _ _ (oi hF) sw
       intro join hF
       refine q0 (by decide) (by kernel_rfl) rfl ?_; refine aW SP 3 rfl ?_; cases h128:(decide (0≤e125))
       · have hF:=bF' h128 hF; refine QP rfl ?_; exact join false _ _ hF sw
       have hF:=bT' h128 hF; refine aW SP 2 rfl ?_; obtain ⟨y129,hy129,hF⟩:=bB' hF
       refine bQ SP rfl (eW (tc:=az) p0 rfl rfl hy129 ?_); refine aW SP 4 rfl ?_; obtain ⟨y130,hy130,hF⟩:=bB' hF
       refine bQ SP rfl (eW (tc:=az) p0 rfl rfl hy130 ?_); refine QP rfl ?_; exact join (!sLt y129.fName y130.fName) _ _ hF sw
     rintro a120 x_1 hF cont_1 brk_1 fin_1
     unfold ox at hF
     refine aJ ?_; refine aJ ?_; refine d6 (fun _ _ h=>h) hF (fun v131=>[(0,cL 5 az p0),(3,cI a72),(4,cI y107.fParent),(5,cI a120),(48,cB v131)]) (fun v131=>[]) ?_ ?_
     · rintro v131 hF
       refine wIf hF rfl (fun _ hF=>?_) fun _ hF=>?_
       · refine bz ?_; refine eZ ?_; refine wB rfl ?_; exact cont_1 _ _ _ (oi hF) sw
       refine hZ ?_; refine aY ?_; refine aY ?_; refine b8 ?_; exact brk_1 _ _ _ (oi hF) sw
     intro join hF
     refine wD 3 rfl ?_; cases h133:(decide (0≤a120))
     · have hF:=bF' h133 hF; refine QV rfl ?_; exact join false _ _ hF sw
     have hF:=bT' h133 hF; refine aW SV 2 rfl ?_; obtain ⟨y134,hy134,hF⟩:=bB' hF
     refine bQ SV rfl (eW (tc:=az) p0 rfl rfl hy134 ?_); refine QV rfl ?_; exact join (!decide (y134.fParent = y107.fParent)) _ _ hF sw
   intro join hF
   refine wD 3 rfl ?_; cases h136:(decide (y107.fParent < (-1)))
   · have hF:=bF' h136 hF; refine aW SV 5 rfl ?_; cases h137:(decide (a72≤y107.fParent))
     · have hF:=bF' h137 hF; refine aW SV 3 rfl ?_; cases h138:(decide (0≤y107.fParent))
       · have hF:=bF' h138 hF; refine QV rfl ?_; exact join false _ _ hF sw
       have hF:=bT' h138 hF; refine aW SV 4 rfl ?_; obtain ⟨r139,hr139,hF⟩:=bB' hF
       refine bQ SV rfl (dQ (DV _ _ _ _ hr139) ⟨rfl,rfl,rfl,trivial⟩ rfl (.inl rfl) ?_); refine QV rfl ?_; exact join (!r139) _ _ hF sw
     have hF:=bT' h137 hF; refine QV rfl ?_; exact join true _ _ hF sw
   have hF:=bT' h136 hF; refine QV rfl ?_; exact join true _ _ hF sw
 refine hZ ?_; refine aY ?_; refine aY ?_; refine b8 ?_; exact brk_0 _ _ _ (oi hF) sw
def m9 (p0:(List ax)) (a98:Int):(Int × Bool × Int)→Option ((Int × Bool × Int) ⊕ (Int × Bool)):=fun (a168,a169,a170) =>
  (bif (decide (a170 < (List.length p0:Int))) then ((((idx p0 a170).bind fun y188=>(bif (decide (y188.fParent = a98)) then ((idx p0 a170).bind fun y189=>some ((w64 (a168 + y189.fTotal)),false)) else some (a168,a169))):Option (Int × Bool)).bind fun (v186,v187)=>some (.inl (v186,v187,(w64 (a170 + 1))))) else some (.inr (a168,a169)))
def m6 (p0:(List ax)):Int→Option (Int ⊕ (Unit ⊕ Int)):=fun a98 =>
  (bif (decide (a98 < (List.length p0:Int))) then ((idx p0 a98).bind fun y146=>((loop (m9 p0 a98) (y146.fSelf,true,(w64 (a98 + 1)))).bind fun (e177,e178)=>(((bif e178 then ((idx p0 a98).bind fun y183=>(bif (decide (y183.fCount = 0)) then some true else ((idx p0 a98).bind fun y185=>some (!decide (e177 = y185.fTotal))))) else ((idx p0 a98).bind fun y182=>some (!decide (e177 = y182.fTotal)))):Option Bool).bind fun v179=>(bif v179 then some (.inr (.inr 10)) else some (.inl (w64 (a98 + 1))))))) else some (.inr (.inl ())))
def jx (p0:(List ax)):Option Int :=
  ((loop (m6 p0) 0).bind fun | .inl _=>some 0 | .inr rv=>some rv)
theorem Cq (p0:(List ax)) (r:Int) (hF:jx p0 = some r):Fun Try.prog 35 true [] [cL 5 az p0] noHeap (cI r) noHeap:=by
 refine Fun.of_walk0 Try.func35 c35 (by kernel_rfl) (rs:=[.tmp 2]) (by kernel_rfl) ?_; unfold v35
 unfold jx at hF
 refine wA rfl ?_; refine aJ ?_; refine wA rfl ?_; refine l4 (fun _ _ h=>h) hF (.inl) (fun a98=>[(0,cL 5 az p0),(3,cI a98)]) (fun a98=>[]) (fun _=>[]) (fun _=>[]) sw ?_ ?_
 · rintro ⟨⟩ hF
   refine wA rfl ?_; cases hF
   exact cj wR
 rintro a98 x_0 hF cont_0 brk_0 fin_0
 unfold m6 at hF
 refine aJ ?_; refine wC 2 rfl ?_; refine rS (eJ (tc:=az) p0 .tree ?_); refine QV rfl ?_; refine wIf hF rfl (fun _ hF=>?_) fun _ hF=>?_
 · refine bz ?_; refine aJ ?_; refine eZ ?_; refine wC 2 rfl ?_; obtain ⟨y146,hy146,hF⟩:=bB hF
   refine rS (eW (tc:=az) p0 rfl rfl hy146 ?_); refine QV rfl ?_; refine aJ ?_; refine wA rfl ?_; refine l4 (fun _ _ h=>h) hF (id) (fun (a168,a169,a170)=>[(0,cL 5 az p0),(3,cI a98),(4,cI a168),(5,cB a169),(6,cI a170)]) (fun (a168,a169,a170)=>[]) (fun (e177,e178)=>[(0,cL 5 az p0),(3,cI a98),(4,cI e177),(5,cB e178)]) (fun (e177,e178)=>[]) sw ?_ ?_
   · rintro ⟨e177,e178⟩ hF
     refine aJ ?_; refine d6 (fun _ _ h=>h) hF (fun v179=>[(0,cL 5 az p0),(3,cI a98),(57,cB v179)]) (fun v179=>[]) ?_ ?_
     · rintro v179 hF
       refine wIf hF rfl (fun _ hF=>?_) fun _ hF=>?_
       · refine wA rfl ?_; have hF:=fin_0 _ (oi hF); cases hF
         exact cj wR
       refine bz ?_; refine wB rfl ?_; exact cont_0 _ _ _ (oi hF) sw
     intro join hF
     refine wD 2 rfl ?_; cases h181:e178
     · have hF:=bF' h181 hF; refine aW SV 11 rfl ?_; obtain ⟨y182,hy182,hF⟩:=bB' hF
       refine bQ SV rfl (eW (tc:=az) p0 rfl rfl hy182 ?_); refine QV rfl ?_; exact join (!decide (e177 = y182.fTotal)) _ _ hF sw
     have hF:=bT' h181 hF; refine aW SV 2 rfl ?_; obtain ⟨y183,hy183,hF⟩:=bB' hF
     refine bQ SV rfl (eW (tc:=az) p0 rfl rfl hy183 ?_); refine aW SV 5 rfl ?_; cases h184:(decide (y183.fCount = 0))
     · have hF:=bF' h184 hF; refine aW SV 3 rfl ?_; obtain ⟨y185,hy185,hF⟩:=bB' hF
       refine bQ SV rfl (eW (tc:=az) p0 rfl rfl hy185 ?_); refine QV rfl ?_; exact join (!decide (e177 = y185.fTotal)) _ _ hF sw
     have hF:=bT' h184 hF; refine QV rfl ?_; exact join true _ _ hF sw
   rintro ⟨a168,a169,a170⟩ x_1 hF cont_1 brk_1 fin_1
   unfold m9 at hF
   refine aJ ?_; refine wC 2 rfl ?_; refine rS (eJ (tc:=az) p0 .tree ?_); refine QV rfl ?_; refine wIf hF rfl (fun _ hF=>?_) fun _ hF=>?_
   · refine bz ?_; refine aJ ?_; refine d6 (fun _ _ h=>h) hF (fun (v186,v187)=>[(0,cL 5 az p0),(3,cI a98),(4,cI v186),(5,cB v187),(6,cI a170)]) (fun (v186,v187)=>[]) ?_ ?_
     · rintro ⟨v186,v187⟩ hF
       refine wB rfl ?_; exact cont_1 _ _ _ (oi hF) sw
     intro join hF
     refine eZ ?_; refine wC 2 rfl ?_; obtain ⟨y188,hy188,hF⟩:=bB' hF
     refine rS (eW (tc:=az) p0 rfl rfl hy188 ?_); refine QV rfl ?_; refine Y3 hF rfl (fun _ hF=>?_) fun _ hF=>?_
     · refine wC 3 rfl ?_; obtain ⟨y189,hy189,hF⟩:=bB' hF
       refine rS (eW (tc:=az) p0 rfl rfl hy189 ?_); refine QV rfl ?_; refine wB rfl ?_; exact join ((w64 (a168 + y189.fTotal)),false) _ _ hF sw
     refine bz ?_; exact join (a168,a169) _ _ hF sw
   refine hZ ?_; refine aY ?_; refine aY ?_; refine b8 ?_; exact brk_1 _ _ _ (oi hF) sw
 refine hZ ?_; refine aY ?_; refine aY ?_; refine b8 ?_; exact brk_0 _ _ _ (oi hF) sw
def iz (p0:(List ax)):Option Int :=
  (bif (decide (2000 < (List.length p0:Int))) then some 7 else ((jz p0).bind fun r1=>(((bif (decide (r1 = 0)) then ((j3 p0).bind fun r6=>some r6) else some r1):Option Int).bind fun v2=>(((bif (decide (v2 = 0)) then ((jx p0).bind fun r4=>some r4) else some v2):Option Int).bind fun v3=>some v3))))
theorem DY (p0:(List ax)) (r:Int) (hF:iz p0 = some r):Fun Try.prog 16 true [] [cL 5 az p0] noHeap (cI r) noHeap:=by
 refine Fun.of_walk0 Try.func16 c16 (by kernel_rfl) (rs:=[.tmp 2]) (by kernel_rfl) ?_; unfold v16
 unfold iz at hF
 refine wA rfl ?_; refine aJ ?_; refine wC 1 rfl ?_; refine rS (eJ (tc:=az) p0 .tree ?_); refine QV rfl ?_; refine wIf hF rfl (fun _ hF=>?_) fun _ hF=>?_
 · refine wA rfl ?_; cases hF
   exact cj wR
 refine bz ?_; refine wC 1 rfl ?_; obtain ⟨r1,hr1,hF⟩:=bB hF
 refine rS (dQ (B9 _ _ hr1) ⟨rfl,trivial⟩ rfl (.inl rfl) ?_); refine QV rfl ?_; refine aJ ?_; refine wA rfl ?_; refine d6 (fun _ _ h=>h) hF (fun v2=>[(0,cL 5 az p0),(3,cI v2)]) (fun v2=>[]) ?_ ?_
 · rintro v2 hF
   refine aJ ?_; refine wA rfl ?_; refine d6 (fun _ _ h=>h) hF (fun v3=>[(3,cI v3)]) (fun v3=>[]) ?_ ?_
   · rintro v3 hF
     refine wA rfl ?_; cases hF
     exact cj wR
   intro join hF
   refine Y3 hF rfl (fun _ hF=>?_) fun _ hF=>?_
   · refine wD 1 rfl ?_; obtain ⟨r4,hr4,hF⟩:=bB' hF
     refine rS (dQ (Cq _ _ hr4) ⟨rfl,trivial⟩ rfl (.inl rfl) ?_); refine QV rfl ?_; exact join r4 _ _ hF sw
   refine bz ?_; exact join v2 _ _ hF sw
 intro join hF
 refine Y3 hF rfl (fun _ hF=>?_) fun _ hF=>?_
 · refine wD 1 rfl ?_; obtain ⟨r6,hr6,hF⟩:=bB' hF
   refine rS (dQ (DQ _ _ hr6) ⟨rfl,trivial⟩ rfl (.inl rfl) ?_); refine QV rfl ?_; exact join r6 _ _ hF sw
 refine bz ?_; exact join r1 _ _ hF sw
def m4 (e105:(List aj)) (y345:aj):(Int × Int × Int)→Option ((Int × Int × Int) ⊕ (Int × Int)):=fun (a386,a387,a388) =>
  (bif (decide (a388 < (List.length e105:Int))) then ((((idx e105 a388).bind fun y408=>((jq y408.fPath y345.fPath).bind fun r409=>(((bif r409 then ((idx e105 a388).bind fun y417=>some (w64 (a387 + y417.fSelf))) else some a387):Option Int).bind fun v410=>(((bif (decide (1 < (List.length y345.fPath:Int))) then ((idx e105 a388).bind fun y414=>((G0 y345.fPath 0 (w64 ((List.length y345.fPath:Int) - 1))).bind fun y415=>((dY y414.fPath y415).bind fun r416=>some (decide (r416 = 0))))) else some false):Option Bool).bind fun v411=>(bif v411 then some (a388,v410) else some (a386,v410)))))):Option (Int × Int)).bind fun (v406,v407)=>some (.inl (v406,v407,(w64 (a388 + 1))))) else some (.inr (a386,a387)))
def mJ (e105:(List aj)):((List ax) × Int)→Option (((List ax) × Int) ⊕ (List ax)):=fun (a264,a265) =>
  (bif (decide (a265 < (List.length e105:Int))) then ((idx e105 a265).bind fun y345=>((idx y345.fPath (w64 ((List.length y345.fPath:Int) - 1))).bind fun y346=>((idx e105 a265).bind fun y347=>((idx e105 a265).bind fun y348=>((loop (m4 e105 y345) ((-1),0,0)).bind fun (e403,e404)=>(bif Sx 48 (List.length a264 + List.length [({ fParent:=e403,fName:=y346,fSelf:=y347.fSelf,fTotal:=e404,fCount:=y348.fCount }:ax)]) then some (.inl ((a264++[({ fParent:=e403,fName:=y346,fSelf:=y347.fSelf,fTotal:=e404,fCount:=y348.fCount }:ax)]),(w64 (a265 + 1)))) else none)))))) else some (.inr a264))
def mV (p0:(List aj)) (a72:Int):((List aj) × Int)→Option (((List aj) × Int) ⊕ (List aj)):=fun (a437,a438) =>
  ((idx p0 a72).bind fun y447=>(bif (decide (a438≤(List.length y447.fPath:Int))) then ((idx p0 a72).bind fun y448=>((G0 y448.fPath 0 a438).bind fun y449=>((gW a437 ({ fPath:=y449,fSelf:=0,fCount:=0 }:aj)).bind fun r450=>some (.inl (r450,(w64 (a438 + 1))))))) else some (.inr a437)))
def mz (p0:(List aj)):((List aj) × Int)→Option (((List aj) × Int) ⊕ (List aj)):=fun (a71,a72) =>
  (bif (decide (a72 < (List.length p0:Int))) then ((loop (mV p0 a72) (a71,1)).bind fun e444=>((idx p0 a72).bind fun y445=>((gW e444 y445).bind fun r446=>some (.inl (r446,(w64 (a72 + 1))))))) else some (.inr a71))
def kQ (p0:(List aj)):Option ((List ax) × Int) :=
  ((loop (mz p0) ([],0)).bind fun e105=>((loop (mJ e105) ([],0)).bind fun e342=>((iz e342).bind fun r343=>(bif (!decide (r343 = 0)) then some ([],r343) else some (e342,0)))))
theorem H0 (p0:(List aj)) (r:((List ax) × Int)) (hF:kQ p0 = some r):Fun Try.prog 30 false [] [cL 3 aq p0] (aX []) (.tup [cO (902,1200),cI r.2]) (aX [((902,1200),.arr 40 5 (List.map az r.1))]):=by
 refine Fun.of_walkM [] (some []) Try.func30 c30 (by kernel_rfl) (rs:=[.tmp 2,.tmp 3]) (by kernel_rfl) rfl rfl rfl ?_; unfold v30
 unfold kQ at hF
 refine wA rfl ?_; refine wA rfl ?_; refine aJ ?_; refine wA rfl ?_; refine l4 (fun _ _ h=>h) hF (id) (fun (a71,a72)=>[(0,cL 3 aq p0),(4,cO (44,1)),(5,cI a72)]) (fun (a71,a72)=>[((44,1),.arr 58 3 (List.map aq a71))]) (fun e105=>[(4,cO (44,1))]) (fun e105=>[((44,1),.arr 58 3 (List.map aq e105))]) (aaK 4 (44,1) 58 3 rfl rfl rfl rfl sw) ?_ ?_
 · rintro e105 hF
   refine wA rfl ?_; refine aJ ?_; refine wA rfl ?_; refine l4 (fun _ _ h=>h) hF (id) (fun (a264,a265)=>[(4,cO (44,1)),(7,cO (117,1)),(8,cI a265)]) (fun (a264,a265)=>[((44,1),.arr 58 3 (List.map aq e105)),((117,1),.arr 40 5 (List.map az a264))]) (fun e342=>[(7,cO (117,1))]) (fun e342=>[((117,1),.arr 40 5 (List.map az e342))]) (aaK 7 (117,1) 40 5 rfl rfl rfl rfl sw) ?_ ?_
   · rintro e342 hF
     refine wC 1 rfl ?_; obtain ⟨r343,hr343,hF⟩:=bB hF
     refine rS (dQ (DY _ _ hr343) ⟨⟨_,rfl⟩,trivial⟩ rfl (.inl rfl) ?_); refine QV rfl ?_; refine aJ ?_; refine wA rfl ?_; refine wIf hF rfl (fun _ hF=>?_) fun _ hF=>?_
     · refine wA rfl ?_; cases hF
       exact cj ⟨_,_,(aaK 2 (902,1200) 40 5 rfl rfl rfl rfl MX),_,rfl,rfl,⟨rfl,⟨rfl,fun _=>rfl⟩,trivial⟩,(AgM.weak ⟨rfl,trivial⟩)⟩
     refine bz ?_; refine wA rfl ?_; cases hF
     exact cj ⟨_,_,(L0 (117,1) (902,1200) rfl rfl MX),_,rfl,rfl,⟨rfl,⟨rfl,fun _=>rfl⟩,trivial⟩,(AgM.weak ⟨rfl,trivial⟩)⟩
   rintro ⟨a264,a265⟩ x_0 hF cont_0 brk_0 fin_0
   unfold mJ at hF
   refine aJ ?_; refine wC 2 rfl ?_; refine rS (eJ (tc:=aq) e105 (.own _ _ rfl) ?_); refine QV rfl ?_; refine wIf hF rfl (fun _ hF=>?_) fun _ hF=>?_
   · refine bz ?_; refine aJ ?_; refine eZ ?_; refine wC 2 rfl ?_; obtain ⟨y345,hy345,hF⟩:=bB hF
     refine rS (zZ (tc:=aq) e105 rfl rfl rfl hy345 ?_); refine aW SV 1 rfl ?_; refine rS (HK (tc:=aq) e105 rfl rfl (mQ hy345).2.1 rfl ?_); refine QV rfl ?_
     refine aJ ?_; refine q0 (by decide) (by kernel_rfl) rfl ?_; refine aW SP 2 rfl ?_; refine bQ SP trivial (eJ (tc:=d7) y345.fPath .tree ?_); refine aW SP 1 rfl ?_; obtain ⟨y346,hy346,hF⟩:=bB hF
     refine bQ SP trivial (eW (tc:=d7) y345.fPath rfl rfl hy346 ?_); refine aW SP 3 rfl ?_; obtain ⟨y347,hy347,hF⟩:=bB hF
     refine bQ SP trivial (zZ (tc:=aq) e105 rfl rfl rfl hy347 ?_); refine aW SP 1 rfl ?_; refine bQ SP trivial (HK (tc:=aq) e105 rfl rfl (mQ hy347).2.1 rfl ?_)
     refine aW SP 2 rfl ?_; obtain ⟨y348,hy348,hF⟩:=bB hF
     refine bQ SP trivial (zZ (tc:=aq) e105 rfl rfl rfl hy348 ?_); refine aW SP 1 rfl ?_; refine bQ SP trivial (HK (tc:=aq) e105 rfl rfl (mQ hy348).2.1 rfl ?_)
     refine QP rfl ?_; refine aJ ?_; refine wA rfl ?_; refine l4 (fun _ _ h=>h) hF (id) (fun (a386,a387,a388)=>[(4,cO (44,1)),(7,cO (117,1)),(8,cI a265),(9,cL 1 d7 y345.fPath),(10,cP (10,0) 0),(11,cI a388)]) (fun (a386,a387,a388)=>[((44,1),.arr 58 3 (List.map aq e105)),((117,1),.arr 40 5 (List.map az a264)),((10,0),.box [jI a386,jS y346,jI y347.fSelf,jI a387,jI y348.fCount])]) (fun (e403,e404)=>[(4,cO (44,1)),(7,cO (117,1)),(8,cI a265),(10,cP (10,0) 0)]) (fun (e403,e404)=>[((44,1),.arr 58 3 (List.map aq e105)),((117,1),.arr 40 5 (List.map az a264)),((10,0),.box [jI e403,jS y346,jI y347.fSelf,jI e404,jI y348.fCount])]) sw ?_ ?_
     · rintro ⟨e403,e404⟩ hF
       refine wD 2 rfl ?_; refine rS (YY (tc:=az) [({ fParent:=e403,fName:=y346,fSelf:=y347.fSelf,fTotal:=e404,fCount:=y348.fCount }:ax)] rfl ⟨rfl,rfl,rfl,rfl,rfl,trivial⟩ rfl (fun _=>rfl) rfl ?_)
       obtain ⟨h405,hF⟩:=alq hF
       refine rS (Iz (tc:=az) a264 [({ fParent:=e403,fName:=y346,fSelf:=y347.fSelf,fTotal:=e404,fCount:=y348.fCount }:ax)] rfl rfl (.own _ _ rfl) h405 rfl ?_); refine QV rfl ?_
       refine wB rfl ?_; exact cont_0 _ _ _ (oi hF) (L0 (117,0) (117,1) rfl rfl sw)
     rintro ⟨a386,a387,a388⟩ x_1 hF cont_1 brk_1 fin_1
     unfold m4 at hF
     refine aJ ?_; refine wC 2 rfl ?_; refine rS (eJ (tc:=aq) e105 (.own _ _ rfl) ?_); refine QV rfl ?_; refine wIf hF rfl (fun _ hF=>?_) fun _ hF=>?_
     · refine bz ?_; refine aJ ?_; refine d6 (fun _ _ h=>h) hF (fun (v406,v407)=>[(4,cO (44,1)),(7,cO (117,1)),(8,cI a265),(9,cL 1 d7 y345.fPath),(10,cP (10,0) 0),(11,cI a388)]) (fun (v406,v407)=>[((44,1),.arr 58 3 (List.map aq e105)),((117,1),.arr 40 5 (List.map az a264)),((10,0),.box [jI v406,jS y346,jI y347.fSelf,jI v407,jI y348.fCount])]) ?_ ?_
       · rintro ⟨v406,v407⟩ hF
         refine wB rfl ?_; exact cont_1 _ _ _ (oi hF) sw
       intro join hF
       refine eZ ?_; refine aJ ?_; refine wC 2 rfl ?_; obtain ⟨y408,hy408,hF⟩:=bB' hF
       refine rS (zZ (tc:=aq) e105 rfl rfl rfl hy408 ?_); refine aW SV 1 rfl ?_; refine rS (HK (tc:=aq) e105 rfl rfl (mQ hy408).2.1 rfl ?_); refine aW SV 1 rfl ?_
       obtain ⟨r409,hr409,hF⟩:=bB' hF
       refine rS (dQ (B8 _ _ _ hr409) ⟨rfl,rfl,trivial⟩ rfl (.inl rfl) ?_); refine QV rfl ?_; have hF:=bA hF; refine d6 (fun _ _ h=>h) hF (fun v410=>[(4,cO (44,1)),(7,cO (117,1)),(8,cI a265),(9,cL 1 d7 y345.fPath),(10,cP (10,0) 0),(11,cI a388)]) (fun v410=>[((44,1),.arr 58 3 (List.map aq e105)),((117,1),.arr 40 5 (List.map az a264)),((10,0),.box [jI a386,jS y346,jI y347.fSelf,jI v410,jI y348.fCount])]) ?_ ?_
       · rintro v410 hF
         refine aJ ?_; have hF:=bA hF; refine d6 (fun _ _ h=>h) hF (fun v411=>[(4,cO (44,1)),(7,cO (117,1)),(8,cI a265),(9,cL 1 d7 y345.fPath),(10,cP (10,0) 0),(11,cI a388),(111,cB v411)]) (fun v411=>[((44,1),.arr 58 3 (List.map aq e105)),((117,1),.arr 40 5 (List.map az a264)),((10,0),.box [jI a386,jS y346,jI y347.fSelf,jI v410,jI y348.fCount])]) ?_ ?_
         · rintro v411 hF
           refine Y3 hF rfl (fun _ hF=>?_) fun _ hF=>?_
           · refine wB rfl ?_; exact join (a388,v410) _ _ hF sw
           refine bz ?_; exact join (a386,v410) _ _ hF sw
         intro join hF
         refine q0 (by decide) (by kernel_rfl) rfl ?_; refine aW SP 1 rfl ?_; refine bQ SP trivial (eJ (tc:=d7) y345.fPath .tree ?_); refine aW SP 2 rfl ?_; cases h413:(decide (1 < (List.length y345.fPath:Int)))
         · have hF:=bF' h413 hF; refine QP rfl ?_; exact join false _ _ hF sw
         have hF:=bT' h413 hF; refine aW SP 2 rfl ?_; obtain ⟨y414,hy414,hF⟩:=bB' hF
         refine bQ SP rfl (zZ (tc:=aq) e105 rfl rfl rfl hy414 ?_); refine aW SP 1 rfl ?_; refine bQ SP rfl (HK (tc:=aq) e105 rfl rfl (mQ hy414).2.1 rfl ?_)
         refine aW SP 2 rfl ?_; refine bQ SP rfl (eJ (tc:=d7) y345.fPath .tree ?_); refine aW SP 1 rfl ?_; obtain ⟨y415,hy415,hF⟩:=bB' hF
         refine bQ SP rfl (aMq (tc:=d7) y345.fPath rfl rfl rfl hy415 ?_); obtain ⟨r416,hr416,hF⟩:=bB' hF
         refine bQ SP rfl (dQ (lV _ _ _ hr416) ⟨rfl,rfl,trivial⟩ rfl (.inl rfl) ?_); refine QP rfl ?_; exact join (decide (r416 = 0)) _ _ hF sw
       intro join hF
       refine Y3 hF rfl (fun _ hF=>?_) fun _ hF=>?_
       · refine q0 (by decide) (by kernel_rfl) rfl ?_; refine aW SP 4 rfl ?_; obtain ⟨y417,hy417,hF⟩:=bB' hF
         refine bQ SP trivial (zZ (tc:=aq) e105 rfl rfl rfl hy417 ?_); refine aW SP 1 rfl ?_; refine bQ SP trivial (HK (tc:=aq) e105 rfl rfl (mQ hy417).2.1 rfl ?_)
         refine QP rfl ?_; exact join (w64 (a387 + y417.fSelf)) _ _ hF sw
       refine bz ?_; exact join a387 _ _ hF sw
     refine hZ ?_; refine aY ?_; refine aY ?_; refine b8 ?_; exact brk_1 _ _ _ (oi hF) sw
   refine hZ ?_; refine aY ?_; refine aY ?_; refine b8 ?_; exact brk_0 _ _ _ (oi hF) sw
 rintro ⟨a71,a72⟩ x_0 hF cont_0 brk_0 fin_0
 unfold mz at hF
 refine aJ ?_; refine wC 2 rfl ?_; refine rS (eJ (tc:=aq) p0 .tree ?_); refine QV rfl ?_; refine wIf hF rfl (fun _ hF=>?_) fun _ hF=>?_
 · refine bz ?_; refine aJ ?_; refine eZ ?_; refine aJ ?_; refine wA rfl ?_; refine l4 (fun _ _ h=>h) hF (id) (fun (a437,a438)=>[(0,cL 3 aq p0),(4,cO (44,1)),(5,cI a72),(6,cI a438)]) (fun (a437,a438)=>[((44,1),.arr 58 3 (List.map aq a437))]) (fun e444=>[(0,cL 3 aq p0),(4,cO (44,1)),(5,cI a72)]) (fun e444=>[((44,1),.arr 58 3 (List.map aq e444))]) sw ?_ ?_
   · rintro e444 hF
     refine wD 3 rfl ?_; obtain ⟨y445,hy445,hF⟩:=bB hF
     refine rS (eW (tc:=aq) p0 rfl rfl hy445 ?_); refine aW SV 1 rfl ?_; obtain ⟨r446,hr446,hF⟩:=bB hF
     refine avK trivial (aUY (44,1) rfl rfl MX) (afY [((902,1800),(44,1))] rfl (axJ _) (u7 _ _ _ hr446) trivial ⟨.inl rfl,.inr ⟨rfl,rfl,rfl,trivial⟩,trivial⟩ rfl rfl rfl ?_)
     refine QV rfl ?_; refine wB rfl ?_; exact cont_0 _ _ _ (oi hF) sw
   rintro ⟨a437,a438⟩ x_1 hF cont_1 brk_1 fin_1
   unfold mV at hF
   refine aJ ?_; refine wC 3 rfl ?_; obtain ⟨y447,hy447,hF⟩:=bB hF
   refine rS (eW (tc:=aq) p0 rfl rfl hy447 ?_); refine aW SV 2 rfl ?_; refine rS (eJ (tc:=d7) y447.fPath .tree ?_); refine QV rfl ?_; refine wIf hF rfl (fun _ hF=>?_) fun _ hF=>?_
   · refine bz ?_; refine aJ ?_; refine eZ ?_; refine wD 3 rfl ?_; obtain ⟨y448,hy448,hF⟩:=bB hF
     refine rS (eW (tc:=aq) p0 rfl rfl hy448 ?_); refine aW SV 3 rfl ?_; obtain ⟨y449,hy449,hF⟩:=bB hF
     refine rS (aMq (tc:=d7) y448.fPath rfl rfl rfl hy449 ?_); refine aW SV 1 rfl ?_; obtain ⟨r450,hr450,hF⟩:=bB hF
     refine avK trivial (aUY (44,1) rfl rfl MX) (afY [((902,1800),(38,1))] rfl (axJ _) (u7 _ _ _ hr450) trivial ⟨.inl rfl,.inr ⟨rfl,rfl,rfl,trivial⟩,trivial⟩ rfl rfl rfl ?_)
     refine QV rfl ?_; refine wB rfl ?_; exact cont_1 _ _ _ (oi hF) (L0 (38,1) (44,1) rfl rfl sw)
   refine hZ ?_; refine aY ?_; refine aY ?_; refine b8 ?_; exact brk_1 _ _ _ (oi hF) sw
 refine hZ ?_; refine aY ?_; refine aY ?_; refine b8 ?_; exact brk_0 _ _ _ (oi hF) sw
def fQ (p0:(List aK)):((List aj) × Int)→Option (((List aj) × Int) ⊕ (List aj)):=fun (a22,a23) =>
  (bif (decide (a23 < (List.length p0:Int))) then ((((idx p0 a23).bind fun y34=>(bif (decide (0 < (List.length y34.fStack:Int))) then ((idx p0 a23).bind fun y35=>((idx p0 a23).bind fun y36=>(bif Sx 40 (List.length a22 + List.length [({ fPath:=y35.fStack,fSelf:=y36.fWeight,fCount:=1 }:aj)]) then some (a22++[({ fPath:=y35.fStack,fSelf:=y36.fWeight,fCount:=1 }:aj)]) else none))) else some a22)):Option (List aj)).bind fun v33=>some (.inl (v33,(w64 (a23 + 1))))) else some (.inr a22))
def eY (p0:(List aK)):Option ((List ax) × Int) :=
  ((kq p0).bind fun r1=>(bif (!decide (r1 = 0)) then some ([],r1) else ((loop (fQ p0) ([],0)).bind fun e31=>((kQ e31).bind fun r32=>some (r32.1,r32.2)))))
theorem zq (p0:(List aK)) (r:((List ax) × Int)) (hF:eY p0 = some r):Fun Try.prog 11 false [] [cL 4 aV p0] (aX []) (.tup [cO (902,440),cI r.2]) (aX [((902,440),.arr 40 5 (List.map az r.1))]):=by
 refine Fun.of_walkM [] (some []) Try.func11 c11 (by kernel_rfl) (rs:=[.tmp 2,.tmp 3]) (by kernel_rfl) rfl rfl rfl ?_; unfold v11
 unfold eY at hF
 refine wA rfl ?_; refine wC 1 rfl ?_; obtain ⟨r1,hr1,hF⟩:=bB hF
 refine rS (dQ (D2 _ _ hr1) ⟨rfl,trivial⟩ rfl (.inl rfl) ?_); refine QV rfl ?_; refine aJ ?_; refine wA rfl ?_; refine wIf hF rfl (fun _ hF=>?_) fun _ hF=>?_
 · refine wA rfl ?_; cases hF
   exact cj ⟨_,_,(aaK 2 (902,440) 40 5 rfl rfl rfl rfl MX),_,rfl,rfl,⟨rfl,⟨rfl,fun _=>rfl⟩,trivial⟩,(AgM.weak ⟨rfl,trivial⟩)⟩
 refine bz ?_; refine wA rfl ?_; refine aJ ?_; refine wA rfl ?_; refine l4 (fun _ _ h=>h) hF (id) (fun (a22,a23)=>[(0,cL 4 aV p0),(5,cO (38,1)),(6,cI a23)]) (fun (a22,a23)=>[((38,1),.arr 58 3 (List.map aq a22))]) (fun e31=>[(5,cO (38,1))]) (fun e31=>[((38,1),.arr 58 3 (List.map aq e31))]) (aaK 5 (38,1) 58 3 rfl rfl rfl rfl sw) ?_ ?_
 · rintro e31 hF
   refine wC 1 rfl ?_; obtain ⟨r32,hr32,hF⟩:=bB hF
   refine axX trivial (aOW [((902,1200),(40,1))] rfl (axJ _) (H0 _ _ hr32) trivial ⟨.inr ⟨_,rfl⟩,trivial⟩ rfl rfl rfl rfl ⟨(aTz fun _=>rfl),trivial⟩ ?_)
   refine QV rfl ?_; cases hF
   exact cj ⟨_,_,(L0 (40,1) (902,440) rfl rfl MX),_,rfl,rfl,⟨rfl,⟨rfl,fun _=>rfl⟩,trivial⟩,(AgM.weak ⟨rfl,trivial⟩)⟩
 rintro ⟨a22,a23⟩ x_0 hF cont_0 brk_0 fin_0
 unfold fQ at hF
 refine aJ ?_; refine wC 2 rfl ?_; refine rS (eJ (tc:=aV) p0 .tree ?_); refine QV rfl ?_; refine wIf hF rfl (fun _ hF=>?_) fun _ hF=>?_
 · refine bz ?_; refine aJ ?_; refine d6 (fun _ _ h=>h) hF (fun v33=>[(0,cL 4 aV p0),(5,cO (38,1)),(6,cI a23)]) (fun v33=>[((38,1),.arr 58 3 (List.map aq v33))]) ?_ ?_
   · rintro v33 hF
     refine wB rfl ?_; exact cont_0 _ _ _ (oi hF) sw
   intro join hF
   refine eZ ?_; refine wC 2 rfl ?_; obtain ⟨y34,hy34,hF⟩:=bB' hF
   refine rS (eW (tc:=aV) p0 rfl rfl hy34 ?_); refine aW SV 2 rfl ?_; refine rS (eJ (tc:=d7) y34.fStack .tree ?_); refine QV rfl ?_; refine Y3 hF rfl (fun _ hF=>?_) fun _ hF=>?_
   · refine q0 (by decide) (by kernel_rfl) rfl ?_; refine aW SP 3 rfl ?_; obtain ⟨y35,hy35,hF⟩:=bB' hF
     refine bQ SP trivial (eW (tc:=aV) p0 rfl rfl hy35 ?_); refine aW SP 4 rfl ?_; obtain ⟨y36,hy36,hF⟩:=bB' hF
     refine bQ SP trivial (eW (tc:=aV) p0 rfl rfl hy36 ?_); refine aW SP 3 rfl ?_; refine bQ SP trivial (YY (tc:=aq) [({ fPath:=y35.fStack,fSelf:=y36.fWeight,fCount:=1 }:aj)] rfl ⟨rfl,rfl,rfl,trivial⟩ rfl (fun _=>rfl) rfl ?_)
     obtain ⟨h37,hF⟩:=VY hF
     refine bQ SP trivial (Iz (tc:=aq) a22 [({ fPath:=y35.fStack,fSelf:=y36.fWeight,fCount:=1 }:aj)] rfl rfl (.own _ _ rfl) h37 rfl ?_); refine QP rfl ?_
     exact join (a22++[({ fPath:=y35.fStack,fSelf:=y36.fWeight,fCount:=1 }:aj)]) _ _ hF (L0 (38,0) (38,1) rfl rfl sw)
   refine bz ?_; exact join a22 _ _ hF sw
 refine hZ ?_; refine aY ?_; refine aY ?_; refine b8 ?_; exact brk_0 _ _ _ (oi hF) sw
def OV (p0:(List ax)):(Int × Int)→Option ((Int × Int) ⊕ Int):=fun (a12,a13) =>
  (bif (decide (a13 < (List.length p0:Int))) then ((idx p0 a13).bind fun y17=>some (.inl ((w64 (a12 + y17.fSelf)),(w64 (a13 + 1))))) else some (.inr a12))
def Rx (p0:(List ax)):Option Int :=
  ((eK p0).bind fun r1=>(bif (!decide (r1 = 0)) then some 0 else ((loop (OV p0) (0,0)).bind fun e16=>some e16)))
theorem Y6 (p0:(List ax)) (r:Int) (hF:Rx p0 = some r):Fun Try.prog 13 true [] [cL 5 az p0] noHeap (cI r) noHeap:=by
 refine Fun.of_walk0 Try.func13 c13 (by kernel_rfl) (rs:=[.tmp 2]) (by kernel_rfl) ?_; unfold v13
 unfold Rx at hF
 refine wA rfl ?_; refine aJ ?_; refine wC 1 rfl ?_; obtain ⟨r1,hr1,hF⟩:=bB hF
 refine rS (dQ (zj _ _ hr1) ⟨rfl,trivial⟩ rfl (.inl rfl) ?_); refine QV rfl ?_; refine wIf hF rfl (fun _ hF=>?_) fun _ hF=>?_
 · refine wA rfl ?_; cases hF
   exact cj wR
 refine bz ?_; refine wA rfl ?_; refine aJ ?_; refine wC 1 rfl ?_; refine rS (eJ (tc:=az) p0 .tree ?_); refine QV rfl ?_; refine l4 (fun _ _ h=>h) hF (id) (fun (a12,a13)=>[(3,cI a12),(9,cL 5 az p0),(10,cI (List.length p0:Int)),(11,cI a13)]) (fun (a12,a13)=>[]) (fun e16=>[(3,cI e16)]) (fun e16=>[]) sw ?_ ?_
 · rintro e16 hF
   refine wA rfl ?_; cases hF
   exact cj wR
 rintro ⟨a12,a13⟩ x_0 hF cont_0 brk_0 fin_0
 unfold OV at hF
 refine wA rfl ?_; refine aJ ?_; refine wIf hF rfl (fun _ hF=>?_) fun _ hF=>?_
 · refine bz ?_; refine aJ ?_; refine eZ ?_; refine wE ?_; obtain ⟨y17,hy17,hF⟩:=bB hF
   refine rS (eW (tc:=az) p0 rfl rfl hy17 ?_); refine QV rfl ?_; refine wB rfl ?_; refine wB rfl ?_; exact cont_0 _ _ _ (oi hF) sw
 refine hZ ?_; refine aY ?_; refine aY ?_; refine b8 ?_; exact brk_0 _ _ _ (oi hF) sw
def oz (p0:(List aK)):(Int × Int)→Option ((Int × Int) ⊕ Int):=fun (a22,a23) =>
  (bif (decide (a23 < (List.length p0:Int))) then ((((idx p0 a23).bind fun y36=>(bif (decide (0 < (List.length y36.fStack:Int))) then ((idx p0 a23).bind fun y37=>some (w64 (a22 + y37.fWeight))) else some a22)):Option Int).bind fun v35=>some (.inl (v35,(w64 (a23 + 1))))) else some (.inr a22))
def p9 (p0:(List aK)):Option Bool :=
  ((((hY ).bind fun r44=>(bif (!r44) then some true else ((hJ p0).bind fun r46=>(bif (!r46) then some true else some (decide (20 < (List.length p0:Int))))))):Option Bool).bind fun v1=>(bif v1 then ((hY ).bind fun r2=>some r2) else ((i4 p0).bind fun r3=>((eY p0).bind fun r4=>(((bif (!decide (r3.2 = r4.2)) then some true else ((f8 r3.1 r4.1).bind fun r42=>some (!r42))):Option Bool).bind fun v5=>(bif v5 then some false else ((loop (oz p0) (0,0)).bind fun e29=>(((bif (!decide (r3.2 = 0)) then some true else ((Rx r3.1).bind fun r32=>(bif (decide (r32 = e29)) then ((eK r3.1).bind fun r34=>some (decide (r34 = 0))) else some false))):Option Bool).bind fun v30=>some v30))))))))
theorem Qq (p0:(List aK)) (r:Bool) (hF:p9 p0 = some r):Fun Try.prog 3 true [] [cL 4 aV p0] noHeap (cB r) noHeap:=by
 refine Fun.of_walk0 Try.func3 c3 (by kernel_rfl) (rs:=[.tmp 2]) (by kernel_rfl) ?_; unfold v3
 unfold p9 at hF
 refine wA rfl ?_; refine aJ ?_; refine aJ ?_; refine d6 (fun _ _ h=>h) hF (fun v1=>[(0,cL 4 aV p0),(20,cB v1)]) (fun v1=>[]) ?_ ?_
 · rintro v1 hF
   refine wIf hF rfl (fun _ hF=>?_) fun _ hF=>?_
   · refine wE ?_; obtain ⟨r2,hr2,hF⟩:=bB hF
     refine rS (dQ (jV _ hr2) trivial rfl (.inl rfl) ?_); refine QV rfl ?_; cases hF
     exact cj wR
   refine bz ?_; refine wC 1 rfl ?_; obtain ⟨r3,hr3,hF⟩:=bB hF
   refine rS (dQ (nZ _ _ hr3) ⟨rfl,trivial⟩ rfl (.inl rfl) ?_); refine QV rfl ?_; refine wC 1 rfl ?_; obtain ⟨r4,hr4,hF⟩:=bB hF
   refine axX trivial (afY [((902,440),(29,1))] rfl (axJ _) (zq _ _ hr4) trivial ⟨.inl rfl,trivial⟩ rfl rfl rfl ?_); refine QV rfl ?_; refine aJ ?_; refine aJ ?_
   refine d6 (fun _ _ h=>h) hF (fun v5=>[(0,cL 4 aV p0),(3,cL 5 az r3.1),(4,cI r3.2),(40,cB v5)]) (fun v5=>[]) ?_ ?_
   · rintro v5 hF
     refine wIf hF rfl (fun _ hF=>?_) fun _ hF=>?_
     · refine wA rfl ?_; cases hF
       exact cj wR
     refine bz ?_; refine wA rfl ?_; refine aJ ?_; refine wA rfl ?_; refine l4 (fun _ _ h=>h) hF (id) (fun (a22,a23)=>[(0,cL 4 aV p0),(3,cL 5 az r3.1),(4,cI r3.2),(7,cI a22),(8,cI a23)]) (fun (a22,a23)=>[]) (fun e29=>[(3,cL 5 az r3.1),(4,cI r3.2),(7,cI e29)]) (fun e29=>[]) sw ?_ ?_
     · rintro e29 hF
       refine aJ ?_; refine d6 (fun _ _ h=>h) hF (fun v30=>[(2,cB v30)]) (fun v30=>[]) ?_ ?_
       · rintro v30 hF
         cases hF
         exact cj wR
       intro join hF
       refine wD 3 rfl ?_; cases h31:(!decide (r3.2 = 0))
       · have hF:=bF' h31 hF; refine aW SV 1 rfl ?_; obtain ⟨r32,hr32,hF⟩:=bB' hF
         refine bQ SV rfl (dQ (Y6 _ _ hr32) ⟨rfl,trivial⟩ rfl (.inl rfl) ?_); refine aW SV 3 rfl ?_; cases h33:(decide (r32 = e29))
         · have hF:=bF' h33 hF; refine QV rfl ?_; exact join false _ _ hF sw
         have hF:=bT' h33 hF; refine aW SV 1 rfl ?_; obtain ⟨r34,hr34,hF⟩:=bB' hF
         refine bQ SV rfl (dQ (zj _ _ hr34) ⟨rfl,trivial⟩ rfl (.inl rfl) ?_); refine QV rfl ?_; exact join (decide (r34 = 0)) _ _ hF sw
       have hF:=bT' h31 hF; refine QV rfl ?_; exact join true _ _ hF sw
     rintro ⟨a22,a23⟩ x_0 hF cont_0 brk_0 fin_0
     unfold oz at hF
     refine aJ ?_; refine wC 2 rfl ?_; refine rS (eJ (tc:=aV) p0 .tree ?_); refine QV rfl ?_; refine wIf hF rfl (fun _ hF=>?_) fun _ hF=>?_
     · refine bz ?_; refine aJ ?_; refine d6 (fun _ _ h=>h) hF (fun v35=>[(0,cL 4 aV p0),(3,cL 5 az r3.1),(4,cI r3.2),(7,cI v35),(8,cI a23)]) (fun v35=>[]) ?_ ?_
       · rintro v35 hF
         refine wB rfl ?_; exact cont_0 _ _ _ (oi hF) sw
       intro join hF
       refine eZ ?_; refine wC 2 rfl ?_; obtain ⟨y36,hy36,hF⟩:=bB' hF
       refine rS (eW (tc:=aV) p0 rfl rfl hy36 ?_); refine aW SV 2 rfl ?_; refine rS (eJ (tc:=d7) y36.fStack .tree ?_); refine QV rfl ?_; refine Y3 hF rfl (fun _ hF=>?_) fun _ hF=>?_
       · refine wD 3 rfl ?_; obtain ⟨y37,hy37,hF⟩:=bB' hF
         refine rS (eW (tc:=aV) p0 rfl rfl hy37 ?_); refine QV rfl ?_; exact join (w64 (a22 + y37.fWeight)) _ _ hF sw
       refine bz ?_; exact join a22 _ _ hF sw
     refine hZ ?_; refine aY ?_; refine aY ?_; refine b8 ?_; exact brk_0 _ _ _ (oi hF) sw
   intro join hF
   refine wD 4 rfl ?_; cases h41:(!decide (r3.2 = r4.2))
   · have hF:=bF' h41 hF; refine aW SV 2 rfl ?_; obtain ⟨r42,hr42,hF⟩:=bB' hF
     refine bQ SV rfl (dQ (uZ _ _ _ hr42) ⟨rfl,⟨_,rfl⟩,trivial⟩ rfl (.inl rfl) ?_); refine QV rfl ?_; exact join (!r42) _ _ hF sw
   have hF:=bT' h41 hF; refine QV rfl ?_; exact join true _ _ hF sw
 intro join hF
 refine wF ?_; obtain ⟨r44,hr44,hF⟩:=bB' hF
 refine rS (dQ (jV _ hr44) trivial rfl (.inl rfl) ?_); refine aW SV 2 rfl ?_; cases h45:(!r44)
 · have hF:=bF' h45 hF; refine aW SV 1 rfl ?_; obtain ⟨r46,hr46,hF⟩:=bB' hF
   refine bQ SV rfl (dQ (o5 _ _ hr46) ⟨rfl,trivial⟩ rfl (.inl rfl) ?_); refine aW SV 3 rfl ?_; cases h47:(!r46)
   · have hF:=bF' h47 hF; refine aW SV 1 rfl ?_; refine bQ SV rfl (eJ (tc:=aV) p0 .tree ?_); refine QV rfl ?_; exact join (decide (20 < (List.length p0:Int))) _ _ hF sw
   have hF:=bT' h47 hF; refine QV rfl ?_; exact join true _ _ hF sw
 have hF:=bT' h45 hF; refine QV rfl ?_; exact join true _ _ hF sw
end Go.VM
