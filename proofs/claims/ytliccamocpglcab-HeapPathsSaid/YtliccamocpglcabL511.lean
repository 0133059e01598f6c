/- What the functions of the law compute, each with its proof. -/
import Derived.Test.YtliccamocpglcabHx2
import Derived.Test.YtliccamocpglcabRows
import Derived.KernelRfl
import Derived.Lib.Bytealg
import Derived.Laws.Externs
import Derived.WalkKit
namespace Go.VM
open Go.Proofs Go.Proofs.Ytliccamocpglcab
open Go.RowKit
set_option maxRecDepth 100000
set_option maxHeartbeats 4000000
structure bY where
  fId:Int
  fSize:Int
  fType:ByteArray
  fRefs:(List Int)
  deriving DecidableEq
structure api_Heap where
  fObjects:(List bY)
  fRoots:(List Int)
  deriving DecidableEq
def aV (x:Int):List T:=[tI x]
abbrev z7 (x:bY):List C:=[.imm (tI x.fId),.imm (tI x.fSize),.imm (.sc (.string x.fType)),.imm (.sl 1 (List.map aV x.fRefs))]
def ax (x:bY):List T:=[tI x.fId,tI x.fSize,.sc (.string x.fType),.sl 1 (List.map aV x.fRefs)]
def ahJ (x:api_Heap):List T:=[.sl 4 (List.map ax x.fObjects),.sl 1 (List.map aV x.fRoots)]
def akQ (x:Bool):List T:=[.sc (.bool x)]
def v12:VC:=(.seq (rg [vo 2 (.box 25 0),vo 4 (.mv (kB false))]) (.seq (.seq (rg [vo 6 (.fld 0 2),vo 7 (.load 1 false 6),vo 8 (.lenS 7),vm 9 1,vo 10 (.bin .gtr 8 9),vm 11 10,vg 12 11 false (.fld 1 2),vg 13 11 false (.load 1 false 12),vg 14 11 false (.lenS 13),vg 15 11 false (.mv 1),vg 16 11 false (.bin .gtr 14 15),vo 17 (.pick 11 (kB true) 16)]) (.cond 17 (.seq (rg [vo 4 (.mv (kB false))]) .ret) .skip)) (.seq (.seq (rg [vo 5 (.mv (kI 0))]) (.block 0 (.loop (.seq (.seq (rg [vm 18 5,vo 19 (.fld 0 2),vo 20 (.load 1 false 19),vo 21 (.lenS 20),vo 22 (.bin .lss 18 21)]) (.cond 22 .skip (.exit 0))) (.seq (.block 1 (.seq (rg [vo 25 (.fld 0 2),vo 26 (.load 1 false 25),vm 27 5,vo 28 (.ixA 4 26 27),vo 29 (.fld 3 28),vo 30 (.load 1 false 29),vo 31 (.lenS 30),vo 32 (.bin .gtr 31 (kI 40))]) (.cond 32 (.seq (rg [vo 4 (.mv (kB false))]) .ret) .skip))) (rg [vm 23 5,vo 24 (.bin .add 23 (kI 1)),vm 5 24])))))) (.seq (rg [vo 4 (.mv (kB true))]) .ret))))
theorem c12:(Try.f12.body.bind fun c=>cV Try.prog 33 c) = some v12:=by kernel_rfl
def v5:VC:=(.seq (rg [vo 1 (.box 25 0),vo 2 (.mv (kB false))]) (.seq (rg [vo 3 (.load 2 true 1),vo 4 (.call 12 [3,(kI 16)]),vm 2 4]) .ret))
theorem c5:(Try.f5.body.bind fun c=>cV Try.prog 5 c) = some v5:=by kernel_rfl
def v14:VC:=(.seq (rg [vo 0 (.alloc 25 [.nilS,.nilS])]) (.seq (rg [vo 1 (.bsl 3 1 2 [(iI 0)] [(0,1,(kI 2)),(1,1,(kI 3))]),vo 2 (.build [(iI 0),(iI 0),iS,.nilS] [(0,1,(kI 1)),(1,1,(kI 10)),(2,1,(.con (.c (.imm (.sc (.string ⟨#[116]⟩)))))),(3,1,1)]),vo 3 (.bsl 3 1 1 [(iI 0)] [(0,1,(kI 4))]),vo 4 (.build [(iI 0),(iI 0),iS,.nilS] [(0,1,(kI 2)),(1,1,(kI 10)),(2,1,(.con (.c (.imm (.sc (.string ⟨#[116]⟩)))))),(3,1,3)]),vo 5 (.bsl 3 1 1 [(iI 0)] [(0,1,(kI 4))]),vo 6 (.build [(iI 0),(iI 0),iS,.nilS] [(0,1,(kI 3)),(1,1,(kI 10)),(2,1,(.con (.c (.imm (.sc (.string ⟨#[116]⟩)))))),(3,1,5)]),vo 7 (.build [(iI 0),(iI 0),iS,.nilS] [(0,1,(kI 4)),(1,1,(kI 10)),(2,1,(.con (.c (.imm (.sc (.string ⟨#[116]⟩))))))]),vo 8 (.bsl 52 4 4 [(iI 0),(iI 0),iS,.nilS] [(0,4,2),(4,4,4),(8,4,6),(12,4,7)]),vo 9 (.bsl 3 1 1 [(iI 0)] [(0,1,(kI 1))]),vo 10 (.build [.nilS,.nilS] [(0,1,8),(1,1,9)]),vp (.store 2 0 10)]) .ret))
theorem c14:(Try.f14.body.bind fun c=>cV Try.prog 11 c) = some v14:=by kernel_rfl
def v62:VC:=(.seq (rg [vo 4 (.mv (kI 0))]) (.seq (rg [vm 5 0,vm 6 1,vo 7 (.call 68 [5,6]),vm 4 7]) .ret))
theorem c62:(Try.f62.body.bind fun c=>cV Try.prog 8 c) = some v62:=by kernel_rfl
def v50:VC:=(.seq (rg [vo 2 (.mv (kB false))]) (.seq (rg [vm 3 0,vo 4 (.bin .geq 3 (.con (.c (.imm (.sc (.int .u8 97)))))),vm 5 4,vg 6 5 true (.mv 0),vg 7 5 true (.bin .leq 6 (.con (.c (.imm (.sc (.int .u8 122)))))),vo 8 (.pick 5 7 (kB false)),vm 9 8,vg 10 9 false (.mv 0),vg 11 9 false (.bin .geq 10 (.con (.c (.imm (.sc (.int .u8 65)))))),vg 12 9 false (.mv 11),vg 13 12 true (.mv 0),vg 14 12 true (.bin .leq 13 (.con (.c (.imm (.sc (.int .u8 90)))))),vg 15 9 false (.pick 12 14 (kB false)),vo 16 (.pick 9 (kB true) 15),vm 17 16,vg 18 17 false (.mv 0),vg 19 17 false (.bin .geq 18 (.con (.c (.imm (.sc (.int .u8 48)))))),vg 20 17 false (.mv 19),vg 21 20 true (.mv 0),vg 22 20 true (.bin .leq 21 (.con (.c (.imm (.sc (.int .u8 57)))))),vg 23 17 false (.pick 20 22 (kB false)),vo 24 (.pick 17 (kB true) 23),vm 25 24,vg 26 25 false (.mv 0),vg 27 25 false (.call 62 [(.con (.c (.imm (.sc (.string ⟨#[95,46,58,47,60,62,36,42,126,45]⟩))))),26]),vg 28 25 false (.bin .geq 27 (kI 0)),vo 29 (.pick 25 (kB true) 28),vm 2 29]) .ret))
theorem c50:(Try.f50.body.bind fun c=>cV Try.prog 30 c) = some v50:=by kernel_rfl
def v36:VC:=(.seq (rg [vo 2 (.mv (kI 0))]) (.seq (.seq (rg [vm 4 0,vo 5 (.bin .eql 4 (.con (.c iS))),vm 6 5,vg 7 6 false (.mv 0),vg 8 6 false (.lenT 7),vg 9 6 false (.bin .gtr 8 (kI 40)),vo 10 (.pick 6 (kB true) 9)]) (.cond 10 (.seq (rg [vo 2 (.mv (kI 3))]) .ret) .skip)) (.seq (.seq (rg [vm 11 0,vo 12 (.lenT 11),vo 13 (.mv (kI 0))]) (.block 0 (.loop (.seq (rg [vo 14 (.bin .lss 13 12)]) (.seq (.cond 14 .skip (.exit 0)) (.seq (.block 1 (.seq (rg [vm 15 13,vm 3 15]) (.seq (rg [vm 16 0,vm 17 3,vo 18 (.ixS 16 17),vo 19 (.call 50 [18]),vo 20 (.un .not 19)]) (.cond 20 (.seq (rg [vo 2 (.mv (kI 3))]) .ret) .skip)))) (rg [vo 21 (.bin .add 13 (kI 1)),vm 13 21]))))))) (.seq (rg [vo 2 (.mv (kI 0))]) .ret))))
theorem c36:(Try.f36.body.bind fun c=>cV Try.prog 22 c) = some v36:=by kernel_rfl
def v37:VC:=(.seq (rg [vo 4 (.mv (kI 0))]) (.seq (.seq (rg [vm 9 0,vo 10 (.lenS 9),vo 11 (.mv (kI 0))]) (.block 0 (.loop (.seq (rg [vo 12 (.bin .lss 11 10)]) (.seq (.cond 12 .skip (.exit 0)) (.seq (.block 1 (.seq (rg [vm 13 11,vo 14 (.ixA 1 9 11),vo 15 (.load 1 false 14),vm 5 13,vm 6 15]) (.seq (.seq (rg [vm 17 1,vm 18 6,vo 19 (.look (.int .i64) (.c (iI 0)) true 17 18),vm 16 19,vo 20 (.ext 16 0),vo 21 (.ext 16 1),vm 7 20,vm 8 21]) (.seq (rg [vm 22 8,vo 23 (.un .not 22)]) (.cond 23 (.seq (rg [vo 4 (.mv (kI 5))]) .ret) .skip))) (.seq (rg [vm 24 5,vo 25 (.bin .gtr 24 (kI 0)),vm 26 25,vg 27 26 true (.mv 6),vg 28 26 true (.mv 0),vg 29 26 true (.mv 5),vg 30 26 true (.bin .sub 29 (kI 1)),vg 31 26 true (.ixA 1 28 30),vg 32 26 true (.load 1 false 31),vg 33 26 true (.bin .leq 27 32),vo 34 (.pick 26 33 (kB false))]) (.cond 34 (.seq (rg [vo 4 (.mv (kI 11))]) .ret) .skip))))) (rg [vo 35 (.bin .add 11 (kI 1)),vm 11 35]))))))) (.seq (rg [vo 4 (.mv (kI 0))]) .ret)))
theorem c37:(Try.f37.body.bind fun c=>cV Try.prog 36 c) = some v37:=by kernel_rfl
def v17:VC:=(.seq (rg [vo 1 (.box 25 0),vo 2 (.mv (kI 0))]) (.seq (rg [vo 3 (.mv (kI 0))]) (.seq (.seq (rg [vo 13 (.fld 0 1),vo 14 (.load 1 false 13),vo 15 (.lenS 14),vo 16 (.mv (kI 0))]) (.block 0 (.loop (.seq (rg [vo 17 (.bin .lss 16 15)]) (.seq (.cond 17 .skip (.exit 0)) (.seq (.block 1 (.seq (rg [vo 18 (.ixA 4 14 16),vo 19 (.load 4 true 18),vo 5 (.alloc 52 [(iI 0),(iI 0),iS,.nilS]),vp (.store 4 5 19)]) (rg [vm 20 3,vo 21 (.fld 3 5),vo 22 (.load 1 false 21),vo 23 (.lenS 22),vo 24 (.bin .add 20 23),vm 3 24]))) (rg [vo 25 (.bin .add 16 (kI 1)),vm 16 25]))))))) (.seq (.seq (rg [vo 26 (.fld 0 1),vo 27 (.load 1 false 26),vo 28 (.lenS 27),vo 29 (.bin .gtr 28 (kI 5000)),vm 30 29,vg 31 30 false (.mv 3),vg 32 30 false (.bin .gtr 31 (kI 20000)),vo 33 (.pick 30 (kB true) 32),vm 34 33,vg 35 34 false (.fld 1 1),vg 36 34 false (.load 1 false 35),vg 37 34 false (.lenS 36),vg 38 34 false (.bin .gtr 37 (kI 5000)),vo 39 (.pick 34 (kB true) 38)]) (.cond 39 (.seq (rg [vo 2 (.mv (kI 7))]) .ret) .skip)) (.seq (rg [vo 40 (.mkmap (.int .i64)),vm 6 40]) (.seq (.seq (rg [vo 41 (.fld 0 1),vo 42 (.load 1 false 41),vo 43 (.lenS 42),vo 44 (.mv (kI 0))]) (.block 2 (.loop (.seq (rg [vo 45 (.bin .lss 44 43)]) (.seq (.cond 45 .skip (.exit 2)) (.seq (.block 3 (.seq (rg [vm 46 44,vo 47 (.ixA 4 42 44),vo 48 (.load 4 true 47),vo 8 (.alloc 52 [(iI 0),(iI 0),iS,.nilS]),vm 7 46,vp (.store 4 8 48)]) (.seq (.seq (rg [vo 49 (.fld 0 8),vo 50 (.load 1 false 49),vo 51 (.bin .lss 50 (kI 0)),vm 52 51,vg 53 52 false (.fld 0 8),vg 54 52 false (.load 1 false 53),vg 55 52 false (.bin .gtr 54 (kI 1000000000000000)),vo 56 (.pick 52 (kB true) 55),vm 57 56,vg 58 57 false (.fld 1 8),vg 59 57 false (.load 1 false 58),vg 60 57 false (.bin .lss 59 (kI 0)),vo 61 (.pick 57 (kB true) 60),vm 62 61,vg 63 62 false (.fld 1 8),vg 64 62 false (.load 1 false 63),vg 65 62 false (.bin .gtr 64 (kI 1000000000000)),vo 66 (.pick 62 (kB true) 65)]) (.cond 66 (.seq (rg [vo 2 (.mv (kI 2))]) .ret) .skip)) (.seq (.seq (rg [vo 67 (.fld 2 8),vo 68 (.load 1 false 67),vo 69 (.call 36 [68]),vm 9 69]) (.seq (rg [vm 70 9,vo 71 (.bin .neq 70 (kI 0))]) (.cond 71 (.seq (rg [vm 72 9,vm 2 72]) .ret) .skip))) (.seq (.seq (.region (some [0,1,3,7,15,7,39,7,135,487,999,2023,4095,8191,1,0,0,0,0,0,0,0,0,0,0,0,0,0]) [vm 73 7,vo 74 (.bin .gtr 73 (kI 0)),vm 75 74,vg 76 75 true (.fld 0 8),vg 77 75 true (.load 1 false 76),vg 78 75 true (.fld 0 1),vg 79 75 true (.load 1 false 78),vg 80 75 true (.mv 7),vg 81 75 true (.bin .sub 80 (kI 1)),vg 82 75 true (.ixA 4 79 81),vg 83 75 true (.fld 0 82),vg 84 75 true (.load 1 false 83),vg 85 75 true (.bin .leq 77 84),vo 86 (.pick 75 85 (kB false))]) (.cond 86 (.seq (rg [vo 2 (.mv (kI 11))]) .ret) .skip)) (rg [vm 87 6,vo 88 (.fld 0 8),vo 89 (.load 1 false 88),vm 90 7,vp (.mupd (.int .i64) 87 89 90)])))))) (rg [vo 91 (.bin .add 44 (kI 1)),vm 44 91]))))))) (.seq (.seq (rg [vo 92 (.fld 0 1),vo 93 (.load 1 false 92),vo 94 (.lenS 93),vo 95 (.mv (kI 0))]) (.block 4 (.loop (.seq (rg [vo 96 (.bin .lss 95 94)]) (.seq (.cond 96 .skip (.exit 4)) (.seq (.block 5 (.seq (rg [vo 97 (.ixA 4 93 95),vo 98 (.load 4 true 97),vo 11 (.alloc 52 [(iI 0),(iI 0),iS,.nilS]),vp (.store 4 11 98)]) (.seq (rg [vo 99 (.fld 3 11),vo 100 (.load 1 false 99),vm 101 6,vo 102 (.call 37 [100,101]),vm 12 102]) (.seq (rg [vm 103 12,vo 104 (.bin .neq 103 (kI 0))]) (.cond 104 (.seq (rg [vm 105 12,vm 2 105]) .ret) .skip))))) (rg [vo 106 (.bin .add 95 (kI 1)),vm 95 106]))))))) (.seq (rg [vo 107 (.fld 1 1),vo 108 (.load 1 false 107),vm 109 6,vo 110 (.call 37 [108,109]),vm 2 110]) .ret))))))))
theorem c17:(Try.f17.body.bind fun c=>cV Try.prog 111 c) = some v17:=by kernel_rfl
def v39:VC:=(.seq (rg [vo 2 (.box 52 0),vo 3 (.mv (kB false))]) (.seq (rg [vo 4 (.fld 0 2),vo 5 (.load 1 false 4),vo 6 (.load 1 false 1),vo 7 (.bin .eql 5 6),vm 3 7]) .ret))
theorem c39:(Try.f39.body.bind fun c=>cV Try.prog 8 c) = some v39:=by kernel_rfl
def v38:VC:=(.seq (rg [vo 4 (.mv (kI 0))]) (.seq (.seq (rg [vm 6 0,vo 7 (.lenS 6),vo 8 (.mv (kI 0))]) (.block 0 (.loop (.seq (rg [vo 9 (.bin .lss 8 7)]) (.seq (.cond 9 .skip (.exit 0)) (.seq (.block 1 (.seq (rg [vm 10 8,vm 5 10]) (.seq (rg [vm 11 1,vm 12 0,vm 13 5,vo 14 (.ixA 4 12 13),vo 15 (.load 4 true 14),vo 16 (.callv 11 [15])]) (.cond 16 (.seq (rg [vm 17 5,vm 4 17]) .ret) .skip)))) (rg [vo 18 (.bin .add 8 (kI 1)),vm 8 18]))))))) (.seq (rg [vo 4 (.mv (kI (-1)))]) .ret)))
theorem c38:(Try.f38.body.bind fun c=>cV Try.prog 19 c) = some v38:=by kernel_rfl
def v18:VC:=(.seq (rg [vo 2 (.box 25 0),vo 3 (.box 3 1),vo 4 (.mv (kI 0)),vo 5 (.mv (kB false))]) (.seq (rg [vo 7 (.fld 0 2),vo 8 (.load 1 false 7),vo 9 (.mkfn 39 [3]),vo 10 (.call 38 [8,9]),vm 6 10]) (.seq (rg [vm 11 6,vo 12 (.mm true [11,(kI 0)]),vm 13 6,vo 14 (.bin .geq 13 (kI 0)),vm 4 12,vm 5 14]) .ret)))
theorem c18:(Try.f18.body.bind fun c=>cV Try.prog 15 c) = some v18:=by kernel_rfl
def v9:VC:=(.seq (rg [vo 4 (.mv (kB false))]) (.seq (.seq (rg [vm 6 0,vo 7 (.lenS 6),vm 8 1,vo 9 (.lenS 8),vo 10 (.bin .neq 7 9)]) (.cond 10 (.seq (rg [vo 4 (.mv (kB false))]) .ret) .skip)) (.seq (.seq (rg [vo 5 (.mv (kI 0))]) (.block 0 (.loop (.seq (.seq (rg [vm 11 5,vm 12 0,vo 13 (.lenS 12),vo 14 (.bin .lss 11 13)]) (.cond 14 .skip (.exit 0))) (.seq (.block 1 (.seq (.region (some [0,0,3,7,0,0,48,112,255,1,1,0,0,1,1,0,0,0]) [vm 17 0,vm 18 5,vo 19 (.ixA 1 17 18),vo 20 (.load 1 false 19),vm 21 1,vm 22 5,vo 23 (.ixA 1 21 22),vo 24 (.load 1 false 23),vo 25 (.bin .neq 20 24)]) (.cond 25 (.seq (rg [vo 4 (.mv (kB false))]) .ret) .skip))) (rg [vm 15 5,vo 16 (.bin .add 15 (kI 1)),vm 5 16])))))) (.seq (rg [vo 4 (.mv (kB true))]) .ret))))
theorem c9:(Try.f9.body.bind fun c=>cV Try.prog 26 c) = some v9:=by kernel_rfl
def v6:VC:=(.seq (rg [vo 0 (.mv (kB false))]) (.seq (rg [vo 12 (.call 14 []),vo 13 (.call 13 [12]),vm 11 13,vo 14 (.ext 11 0),vo 15 (.ext 11 1),vm 1 14,vm 2 15]) (.seq (rg [vo 17 (.call 14 []),vo 18 (.call 15 [17]),vm 16 18,vo 19 (.ext 16 0),vo 20 (.ext 16 1),vm 3 19,vm 4 20]) (.seq (rg [vo 22 (.call 14 []),vo 23 (.call 16 [22]),vm 21 23,vo 24 (.ext 21 0),vo 25 (.ext 21 1),vm 5 24,vm 6 25]) (.seq (rg [vo 27 (.call 14 []),vo 28 (.call 7 [27,(kI 4)]),vm 26 28,vo 29 (.ext 26 0),vo 30 (.ext 26 1),vm 7 29,vm 8 30]) (.seq (rg [vo 32 (.call 14 []),vo 33 (.call 10 [32,(kI 2)]),vm 31 33,vo 34 (.ext 31 0),vo 35 (.ext 31 1),vm 9 34,vm 10 35]) (.seq (rg [vm 36 1,vo 37 (.lenS 36),vo 38 (.bin .eql 37 (kI 4)),vm 39 38,vg 40 39 true (.mv 1),vg 41 39 true (.ixA 1 40 (kI 3)),vg 42 39 true (.load 1 false 41),vo 43 (.pick 39 42 (kB false)),vm 44 43,vg 45 44 true (.mv 2),vg 46 44 true (.bin .eql 45 (kI 0)),vo 47 (.pick 44 46 (kB false)),vm 48 47,vg 49 48 true (.mv 3),vg 50 48 true (.bsl 3 1 4 [(iI 0)] [(0,1,(kI (-1))),(1,1,(kI 0)),(2,1,(kI 0)),(3,1,(kI 0))]),vg 51 48 true (.call 9 [49,50]),vo 52 (.pick 48 51 (kB false)),vm 53 52,vg 54 53 true (.mv 4),vg 55 53 true (.bin .eql 54 (kI 0)),vo 56 (.pick 53 55 (kB false)),vm 57 56,vg 58 57 true (.mv 5),vg 59 57 true (.bsl 3 1 4 [(iI 0)] [(0,1,(kI 40)),(1,1,(kI 10)),(2,1,(kI 10)),(3,1,(kI 10))]),vg 60 57 true (.call 9 [58,59]),vo 61 (.pick 57 60 (kB false)),vm 62 61,vg 63 62 true (.mv 6),vg 64 62 true (.bin .eql 63 (kI 0)),vo 65 (.pick 62 64 (kB false)),vm 66 65,vg 67 66 true (.mv 7),vg 68 66 true (.bsl 3 1 3 [(iI 0)] [(0,1,(kI 1)),(1,1,(kI 2)),(2,1,(kI 4))]),vg 69 66 true (.call 9 [67,68]),vo 70 (.pick 66 69 (kB false)),vm 71 70,vg 72 71 true (.mv 8),vg 73 71 true (.bin .eql 72 (kI 0)),vo 74 (.pick 71 73 (kB false)),vm 75 74,vg 76 75 true (.mv 9),vg 77 75 true (.bsl 3 1 2 [(iI 0)] [(0,1,(kI 1)),(1,1,(kI 2))]),vg 78 75 true (.call 9 [76,77]),vo 79 (.pick 75 78 (kB false)),vm 80 79,vg 81 80 true (.mv 10),vg 82 80 true (.bin .eql 81 (kI 0)),vo 83 (.pick 80 82 (kB false)),vm 0 83]) .ret)))))))
theorem c6:(Try.f6.body.bind fun c=>cV Try.prog 84 c) = some v6:=by kernel_rfl
def v51:VC:=(.seq (rg [vo 2 (.mv (kB false))]) (.seq (.seq (rg [vm 5 0,vo 6 (.bin .geq 5 (.con (.c (.imm (.sc (.int .u8 97)))))),vm 7 6,vg 8 7 true (.mv 0),vg 9 7 true (.bin .leq 8 (.con (.c (.imm (.sc (.int .u8 122)))))),vo 10 (.pick 7 9 (kB false)),vm 11 10,vg 12 11 false (.mv 0),vg 13 11 false (.bin .geq 12 (.con (.c (.imm (.sc (.int .u8 65)))))),vg 14 11 false (.mv 13),vg 15 14 true (.mv 0),vg 16 14 true (.bin .leq 15 (.con (.c (.imm (.sc (.int .u8 90)))))),vg 17 11 false (.pick 14 16 (kB false)),vo 18 (.pick 11 (kB true) 17),vm 19 18,vg 20 19 false (.mv 0),vg 21 19 false (.bin .geq 20 (.con (.c (.imm (.sc (.int .u8 48)))))),vg 22 19 false (.mv 21),vg 23 22 true (.mv 0),vg 24 22 true (.bin .leq 23 (.con (.c (.imm (.sc (.int .u8 57)))))),vg 25 19 false (.pick 22 24 (kB false)),vo 26 (.pick 19 (kB true) 25)]) (.cond 26 (.seq (rg [vo 2 (.mv (kB true))]) .ret) .skip)) (.seq (rg [vo 3 (.mv (.con (.c (.imm (.sc (.string ⟨#[95,46,58,47,60,62,36,42,126,45]⟩))))))]) (.seq (.seq (rg [vo 4 (.mv (kI 0))]) (.block 0 (.loop (.seq (.seq (rg [vm 27 4,vm 28 3,vo 29 (.lenT 28),vo 30 (.bin .lss 27 29)]) (.cond 30 .skip (.exit 0))) (.seq (.block 1 (.seq (rg [vm 33 3,vm 34 4,vo 35 (.ixS 33 34),vm 36 0,vo 37 (.bin .eql 35 36)]) (.cond 37 (.seq (rg [vo 2 (.mv (kB true))]) .ret) .skip))) (rg [vm 31 4,vo 32 (.bin .add 31 (kI 1)),vm 4 32])))))) (.seq (rg [vo 2 (.mv (kB false))]) .ret)))))
theorem c51:(Try.f51.body.bind fun c=>cV Try.prog 38 c) = some v51:=by kernel_rfl
def v42:VC:=(.seq (rg [vo 2 (.mv (kI 0))]) (.seq (.seq (rg [vm 4 0,vo 5 (.lenT 4),vo 6 (.bin .lss 5 (kI 1)),vm 7 6,vg 8 7 false (.mv 0),vg 9 7 false (.lenT 8),vg 10 7 false (.bin .gtr 9 (kI 40)),vo 11 (.pick 7 (kB true) 10)]) (.cond 11 (.seq (rg [vo 2 (.mv (kI 3))]) .ret) .skip)) (.seq (.seq (rg [vo 3 (.mv (kI 0))]) (.block 0 (.loop (.seq (.seq (rg [vm 12 3,vm 13 0,vo 14 (.lenT 13),vo 15 (.bin .lss 12 14)]) (.cond 15 .skip (.exit 0))) (.seq (.block 1 (.seq (rg [vm 18 0,vm 19 3,vo 20 (.ixS 18 19),vo 21 (.call 51 [20]),vo 22 (.un .not 21)]) (.cond 22 (.seq (rg [vo 2 (.mv (kI 3))]) .ret) .skip))) (rg [vm 16 3,vo 17 (.bin .add 16 (kI 1)),vm 3 17])))))) (.seq (rg [vo 2 (.mv (kI 0))]) .ret))))
theorem c42:(Try.f42.body.bind fun c=>cV Try.prog 23 c) = some v42:=by kernel_rfl
def v24:VC:=(.seq (rg [vo 2 (.box 25 0),vo 4 (.mv (kI 0)),vo 5 (.mv (kB false))]) (.seq (.seq (rg [vo 6 (.mv (kI 0))]) (.block 0 (.loop (.seq (.seq (rg [vm 7 6,vo 8 (.fld 0 2),vo 9 (.load 1 false 8),vo 10 (.lenS 9),vo 11 (.bin .lss 7 10)]) (.cond 11 .skip (.exit 0))) (.seq (.block 1 (.seq (rg [vo 14 (.fld 0 2),vo 15 (.load 1 false 14),vm 16 6,vo 17 (.ixA 4 15 16),vo 18 (.fld 0 17),vo 19 (.load 1 false 18),vm 20 1,vo 21 (.bin .eql 19 20)]) (.cond 21 (.seq (rg [vm 22 6,vm 4 22,vo 5 (.mv (kB true))]) .ret) .skip))) (rg [vm 12 6,vo 13 (.bin .add 12 (kI 1)),vm 6 13])))))) (.seq (rg [vo 4 (.mv (kI 0)),vo 5 (.mv (kB false))]) .ret)))
theorem c24:(Try.f24.body.bind fun c=>cV Try.prog 23 c) = some v24:=by kernel_rfl
def v43:VC:=(.seq (rg [vo 2 (.box 25 0),vo 4 (.mv (kI 0))]) (.seq (.seq (rg [vo 5 (.mv (kI 0))]) (.block 0 (.loop (.seq (.seq (rg [vm 8 5,vm 9 1,vo 10 (.lenS 9),vo 11 (.bin .lss 8 10)]) (.cond 11 .skip (.exit 0))) (.seq (.block 1 (.seq (.region (some [0,0,0,6,14,31,63,127,127,255,1023,0,1,1,0,0,0,0,0,0,0,0]) [vo 15 (.load 2 true 2),vm 16 1,vm 17 5,vo 18 (.ixA 1 16 17),vo 19 (.load 1 false 18),vo 20 (.call 24 [15,19]),vm 14 20,vo 21 (.ext 14 0),vo 22 (.ext 14 1),vm 6 21,vm 7 22]) (.seq (.seq (rg [vm 23 7,vo 24 (.un .not 23)]) (.cond 24 (.seq (rg [vo 4 (.mv (kI 5))]) .ret) .skip)) (.seq (.region (some [0,1,3,7,7,31,63,7,7,263,903,1927,4095,8191,1,0,0,0,0,0,0,0,0,0,0,0,0,0]) [vm 25 5,vo 26 (.bin .gtr 25 (kI 0)),vm 27 26,vg 28 27 true (.mv 1),vg 29 27 true (.mv 5),vg 30 27 true (.ixA 1 28 29),vg 31 27 true (.load 1 false 30),vg 32 27 true (.mv 1),vg 33 27 true (.mv 5),vg 34 27 true (.bin .sub 33 (kI 1)),vg 35 27 true (.ixA 1 32 34),vg 36 27 true (.load 1 false 35),vg 37 27 true (.bin .leq 31 36),vo 38 (.pick 27 37 (kB false))]) (.cond 38 (.seq (rg [vo 4 (.mv (kI 11))]) .ret) .skip))))) (rg [vm 12 5,vo 13 (.bin .add 12 (kI 1)),vm 5 13])))))) (.seq (rg [vo 4 (.mv (kI 0))]) .ret)))
theorem c43:(Try.f43.body.bind fun c=>cV Try.prog 39 c) = some v43:=by kernel_rfl
def v23:VC:=(.seq (rg [vo 1 (.box 25 0),vo 2 (.mv (kI 0))]) (.seq (rg [vo 3 (.mv (kI 0))]) (.seq (.seq (rg [vo 4 (.mv (kI 0))]) (.block 0 (.loop (.seq (.seq (rg [vm 9 4,vo 10 (.fld 0 1),vo 11 (.load 1 false 10),vo 12 (.lenS 11),vo 13 (.bin .lss 9 12)]) (.cond 13 .skip (.exit 0))) (.seq (.block 1 (rg [vm 16 3,vo 17 (.fld 0 1),vo 18 (.load 1 false 17),vm 19 4,vo 20 (.ixA 4 18 19),vo 21 (.fld 3 20),vo 22 (.load 1 false 21),vo 23 (.lenS 22),vo 24 (.bin .add 16 23),vm 3 24])) (rg [vm 14 4,vo 15 (.bin .add 14 (kI 1)),vm 4 15])))))) (.seq (.seq (rg [vo 25 (.fld 0 1),vo 26 (.load 1 false 25),vo 27 (.lenS 26),vo 28 (.bin .gtr 27 (kI 5000)),vm 29 28,vg 30 29 false (.mv 3),vg 31 29 false (.bin .gtr 30 (kI 20000)),vo 32 (.pick 29 (kB true) 31),vm 33 32,vg 34 33 false (.fld 1 1),vg 35 33 false (.load 1 false 34),vg 36 33 false (.lenS 35),vg 37 33 false (.bin .gtr 36 (kI 5000)),vo 38 (.pick 33 (kB true) 37)]) (.cond 38 (.seq (rg [vo 2 (.mv (kI 7))]) .ret) .skip)) (.seq (.seq (rg [vo 5 (.mv (kI 0))]) (.block 2 (.loop (.seq (.seq (rg [vm 39 5,vo 40 (.fld 0 1),vo 41 (.load 1 false 40),vo 42 (.lenS 41),vo 43 (.bin .lss 39 42)]) (.cond 43 .skip (.exit 2))) (.seq (.block 3 (.seq (rg [vo 46 (.fld 0 1),vo 47 (.load 1 false 46),vm 48 5,vo 49 (.ixA 4 47 48),vo 50 (.load 4 true 49),vo 6 (.alloc 52 [(iI 0),(iI 0),iS,.nilS]),vp (.store 4 6 50)]) (.seq (.seq (rg [vo 51 (.fld 0 6),vo 52 (.load 1 false 51),vo 53 (.bin .lss 52 (kI 0)),vm 54 53,vg 55 54 false (.fld 0 6),vg 56 54 false (.load 1 false 55),vg 57 54 false (.bin .gtr 56 (kI 1000000000000000)),vo 58 (.pick 54 (kB true) 57),vm 59 58,vg 60 59 false (.fld 1 6),vg 61 59 false (.load 1 false 60),vg 62 59 false (.bin .lss 61 (kI 0)),vo 63 (.pick 59 (kB true) 62),vm 64 63,vg 65 64 false (.fld 1 6),vg 66 64 false (.load 1 false 65),vg 67 64 false (.bin .gtr 66 (kI 1000000000000)),vo 68 (.pick 64 (kB true) 67)]) (.cond 68 (.seq (rg [vo 2 (.mv (kI 2))]) .ret) .skip)) (.seq (.seq (rg [vo 69 (.fld 2 6),vo 70 (.load 1 false 69),vo 71 (.call 42 [70]),vo 72 (.bin .neq 71 (kI 0))]) (.cond 72 (.seq (rg [vo 2 (.mv (kI 3))]) .ret) .skip)) (.seq (.region (some [0,1,3,7,15,7,39,7,135,487,999,2023,4095,8191,1,0,0,0,0,0,0,0,0,0,0,0,0,0]) [vm 73 5,vo 74 (.bin .gtr 73 (kI 0)),vm 75 74,vg 76 75 true (.fld 0 6),vg 77 75 true (.load 1 false 76),vg 78 75 true (.fld 0 1),vg 79 75 true (.load 1 false 78),vg 80 75 true (.mv 5),vg 81 75 true (.bin .sub 80 (kI 1)),vg 82 75 true (.ixA 4 79 81),vg 83 75 true (.fld 0 82),vg 84 75 true (.load 1 false 83),vg 85 75 true (.bin .leq 77 84),vo 86 (.pick 75 85 (kB false))]) (.cond 86 (.seq (rg [vo 2 (.mv (kI 11))]) .ret) .skip)))))) (rg [vm 44 5,vo 45 (.bin .add 44 (kI 1)),vm 5 45])))))) (.seq (.seq (rg [vo 7 (.mv (kI 0))]) (.block 4 (.loop (.seq (.seq (rg [vm 87 7,vo 88 (.fld 0 1),vo 89 (.load 1 false 88),vo 90 (.lenS 89),vo 91 (.bin .lss 87 90)]) (.cond 91 .skip (.exit 4))) (.seq (.block 5 (.seq (.region (some [0,0,2,0,14,30,62,127,255,0,0,0,1,0,0,0,0,0]) [vo 94 (.load 2 true 1),vo 95 (.fld 0 1),vo 96 (.load 1 false 95),vm 97 7,vo 98 (.ixA 4 96 97),vo 99 (.fld 3 98),vo 100 (.load 1 false 99),vo 101 (.call 43 [94,100]),vm 8 101]) (.seq (rg [vm 102 8,vo 103 (.bin .neq 102 (kI 0))]) (.cond 103 (.seq (rg [vm 104 8,vm 2 104]) .ret) .skip)))) (rg [vm 92 7,vo 93 (.bin .add 92 (kI 1)),vm 7 93])))))) (.seq (rg [vo 105 (.load 2 true 1),vo 106 (.fld 1 1),vo 107 (.load 1 false 106),vo 108 (.call 43 [105,107]),vm 2 108]) .ret)))))))
theorem c23:(Try.f23.body.bind fun c=>cV Try.prog 109 c) = some v23:=by kernel_rfl
def v27:VC:=(.seq (rg [vo 4 (.mv (kB false))]) (.seq (.seq (rg [vo 5 (.mv (kI 0))]) (.block 0 (.loop (.seq (.seq (rg [vm 6 5,vm 7 0,vo 8 (.lenS 7),vo 9 (.bin .lss 6 8)]) (.cond 9 .skip (.exit 0))) (.seq (.block 1 (.seq (rg [vm 12 0,vm 13 5,vo 14 (.ixA 1 12 13),vo 15 (.load 1 false 14),vm 16 1,vo 17 (.bin .eql 15 16)]) (.cond 17 (.seq (rg [vo 4 (.mv (kB true))]) .ret) .skip))) (rg [vm 10 5,vo 11 (.bin .add 10 (kI 1)),vm 5 11])))))) (.seq (rg [vo 4 (.mv (kB false))]) .ret)))
theorem c27:(Try.f27.body.bind fun c=>cV Try.prog 18 c) = some v27:=by kernel_rfl
def v25:VC:=(.seq (rg [vo 2 (.box 25 0),vo 4 (.mv (.con (.c .nilS)))]) (.seq (rg [vo 10 (.fld 0 2),vo 11 (.load 1 false 10),vo 12 (.lenS 11),vo 13 (.mksl 3 1 8 [(iI 0)] 12 12),vm 5 13]) (.seq (.seq (rg [vo 6 (.mv (kI 0))]) (.block 0 (.loop (.seq (.seq (rg [vm 14 6,vm 15 5,vo 16 (.lenS 15),vo 17 (.bin .lss 14 16)]) (.cond 17 .skip (.exit 0))) (.seq (.block 1 (.seq (.region (some [0,0,3,7,15,31,15,79,15,463,975,1999,4095,8191,1,1,0,0,0,0,0,0,0,0,0,0,0,0]) [vm 20 6,vm 21 1,vo 22 (.bin .neq 20 21),vm 23 22,vg 24 23 true (.fld 1 2),vg 25 23 true (.load 1 false 24),vg 26 23 true (.fld 0 2),vg 27 23 true (.load 1 false 26),vg 28 23 true (.mv 6),vg 29 23 true (.ixA 4 27 28),vg 30 23 true (.fld 0 29),vg 31 23 true (.load 1 false 30),vg 32 23 true (.call 27 [25,31]),vo 33 (.pick 23 32 (kB false))]) (.cond 33 (rg [vm 34 5,vm 35 6,vo 36 (.ixA 1 34 35),vp (.store 1 36 (kI 1))]) .skip))) (rg [vm 18 6,vo 19 (.bin .add 18 (kI 1)),vm 6 19])))))) (.seq (.seq (rg [vo 7 (.mv (kI 1))]) (.block 2 (.loop (.seq (.seq (rg [vm 37 7,vm 38 5,vo 39 (.lenS 38),vo 40 (.bin .leq 37 39)]) (.cond 40 .skip (.exit 2))) (.seq (.block 3 (.seq (rg [vo 8 (.mv (kI 0))]) (.block 4 (.loop (.seq (.seq (rg [vm 43 8,vm 44 5,vo 45 (.lenS 44),vo 46 (.bin .lss 43 45)]) (.cond 46 .skip (.exit 4))) (.seq (.block 5 (.seq (rg [vo 9 (.mv (kI 0))]) (.block 6 (.loop (.seq (.seq (rg [vm 49 9,vm 50 5,vo 51 (.lenS 50),vo 52 (.bin .lss 49 51),vm 53 52,vg 54 53 true (.mv 5),vg 55 53 true (.mv 8),vg 56 53 true (.ixA 1 54 55),vg 57 53 true (.load 1 false 56),vg 58 53 true (.mv 7),vg 59 53 true (.bin .eql 57 58),vo 60 (.pick 53 59 (kB false))]) (.cond 60 .skip (.exit 6))) (.seq (.block 7 (.seq (.region (some [0,0,3,7,15,15,63,127,255,511,1023,2047,4095,2047,16383,32767,65535,2047,133119,2047,919551,1968127,4065279,8388607,16777215,1,1,0,0,0,0,0,0,0,0,0,0,0,0,0,0,0,0,0,0,0,0,0,0,0]) [vm 63 9,vm 64 1,vo 65 (.bin .neq 63 64),vm 66 65,vg 67 66 true (.mv 5),vg 68 66 true (.mv 9),vg 69 66 true (.ixA 1 67 68),vg 70 66 true (.load 1 false 69),vg 71 66 true (.bin .eql 70 (kI 0)),vo 72 (.pick 66 71 (kB false)),vm 73 72,vg 74 73 true (.fld 0 2),vg 75 73 true (.load 1 false 74),vg 76 73 true (.mv 8),vg 77 73 true (.ixA 4 75 76),vg 78 73 true (.fld 3 77),vg 79 73 true (.load 1 false 78),vg 80 73 true (.fld 0 2),vg 81 73 true (.load 1 false 80),vg 82 73 true (.mv 9),vg 83 73 true (.ixA 4 81 82),vg 84 73 true (.fld 0 83),vg 85 73 true (.load 1 false 84),vg 86 73 true (.call 27 [79,85]),vo 87 (.pick 73 86 (kB false))]) (.cond 87 (rg [vm 88 5,vm 89 9,vm 90 7,vo 91 (.bin .add 90 (kI 1)),vo 92 (.ixA 1 88 89),vp (.store 1 92 91)]) .skip))) (rg [vm 61 9,vo 62 (.bin .add 61 (kI 1)),vm 9 62]))))))) (rg [vm 47 8,vo 48 (.bin .add 47 (kI 1)),vm 8 48]))))))) (rg [vm 41 7,vo 42 (.bin .add 41 (kI 1)),vm 7 42])))))) (.seq (rg [vm 93 5,vm 4 93]) .ret)))))
theorem c25:(Try.f25.body.bind fun c=>cV Try.prog 94 c) = some v25:=by kernel_rfl
def v26:VC:=(.seq (rg [vo 2 (.box 25 0),vo 4 (.mv (.con (.c .nilS)))]) (.seq (rg [vo 9 (.fld 0 2),vo 10 (.load 1 false 9),vo 11 (.lenS 10),vo 12 (.mksl 3 1 8 [(iI 0)] 11 11),vm 5 12]) (.seq (rg [vm 13 5,vm 14 1,vo 15 (.ixA 1 13 14),vp (.store 1 15 (kI 1))]) (.seq (.seq (rg [vo 6 (.mv (kI 1))]) (.block 0 (.loop (.seq (.seq (rg [vm 16 6,vm 17 5,vo 18 (.lenS 17),vo 19 (.bin .leq 16 18)]) (.cond 19 .skip (.exit 0))) (.seq (.block 1 (.seq (rg [vo 7 (.mv (kI 0))]) (.block 2 (.loop (.seq (.seq (rg [vm 22 7,vm 23 5,vo 24 (.lenS 23),vo 25 (.bin .lss 22 24)]) (.cond 25 .skip (.exit 2))) (.seq (.block 3 (.seq (rg [vo 8 (.mv (kI 0))]) (.block 4 (.loop (.seq (.seq (rg [vm 28 8,vm 29 5,vo 30 (.lenS 29),vo 31 (.bin .lss 28 30),vm 32 31,vg 33 32 true (.mv 5),vg 34 32 true (.mv 7),vg 35 32 true (.ixA 1 33 34),vg 36 32 true (.load 1 false 35),vg 37 32 true (.bin .eql 36 (kI 0)),vo 38 (.pick 32 37 (kB false))]) (.cond 38 .skip (.exit 4))) (.seq (.block 5 (.seq (.region (some [0,0,3,7,0,31,63,127,255,127,1023,2047,4095,127,8319,127,57471,123007,254079,524287,1048575,1,1,0,0,1,0,0,0,0,0,0,0,0,0,0,0,0,0,0,0,0]) [vm 41 5,vm 42 8,vo 43 (.ixA 1 41 42),vo 44 (.load 1 false 43),vm 45 6,vo 46 (.bin .eql 44 45),vm 47 46,vg 48 47 true (.fld 0 2),vg 49 47 true (.load 1 false 48),vg 50 47 true (.mv 7),vg 51 47 true (.ixA 4 49 50),vg 52 47 true (.fld 3 51),vg 53 47 true (.load 1 false 52),vg 54 47 true (.fld 0 2),vg 55 47 true (.load 1 false 54),vg 56 47 true (.mv 8),vg 57 47 true (.ixA 4 55 56),vg 58 47 true (.fld 0 57),vg 59 47 true (.load 1 false 58),vg 60 47 true (.call 27 [53,59]),vo 61 (.pick 47 60 (kB false))]) (.cond 61 (rg [vm 62 5,vm 63 7,vm 64 6,vo 65 (.bin .add 64 (kI 1)),vo 66 (.ixA 1 62 63),vp (.store 1 66 65)]) .skip))) (rg [vm 39 8,vo 40 (.bin .add 39 (kI 1)),vm 8 40]))))))) (rg [vm 26 7,vo 27 (.bin .add 26 (kI 1)),vm 7 27]))))))) (rg [vm 20 6,vo 21 (.bin .add 20 (kI 1)),vm 6 21])))))) (.seq (rg [vm 67 5,vm 4 67]) .ret)))))
theorem c26:(Try.f26.body.bind fun c=>cV Try.prog 68 c) = some v26:=by kernel_rfl
def v8:VC:=(.seq (rg [vo 2 (.box 25 0),vo 4 (.mv (.con (.c .nilS))),vo 5 (.mv (kI 0))]) (.seq (rg [vo 14 (.load 2 true 2),vo 15 (.call 23 [14]),vm 6 15]) (.seq (.seq (rg [vm 16 6,vo 17 (.bin .neq 16 (kI 0))]) (.cond 17 (.seq (rg [vm 18 6,vo 4 (.mv (.con (.c .nilS))),vm 5 18]) .ret) .skip)) (.seq (rg [vo 20 (.load 2 true 2),vm 21 1,vo 22 (.call 24 [20,21]),vm 19 22,vo 23 (.ext 19 0),vo 24 (.ext 19 1),vm 7 23,vm 8 24]) (.seq (.seq (rg [vm 25 8,vo 26 (.un .not 25)]) (.cond 26 (.seq (rg [vo 4 (.mv (.con (.c .nilS))),vo 5 (.mv (kI 5))]) .ret) .skip)) (.seq (rg [vo 27 (.load 2 true 2),vo 28 (.call 25 [27,(kI (-1))]),vm 29 7,vo 30 (.ixA 1 28 29),vo 31 (.load 1 false 30),vm 9 31]) (.seq (.seq (rg [vm 32 9,vo 33 (.bin .eql 32 (kI 0))]) (.cond 33 (.seq (rg [vo 4 (.mv (.con (.c .nilS))),vo 5 (.mv (kI 5))]) .ret) .skip)) (.seq (rg [vo 34 (.load 2 true 2),vm 35 7,vo 36 (.call 26 [34,35]),vm 10 36]) (.seq (rg [vo 11 (.mv (.con (.c .nilS)))]) (.seq (rg [vo 37 (.fld 1 2),vo 38 (.load 1 false 37),vm 12 38]) (.seq (.block 0 (.loop (.seq (.seq (rg [vm 39 9,vo 40 (.bin .gtr 39 (kI 0))]) (.cond 40 .skip (.exit 0))) (.block 1 (.seq (.seq (rg [vo 13 (.mv (kI 0))]) (.block 2 (.loop (.seq (.seq (rg [vm 41 13,vo 42 (.fld 0 2),vo 43 (.load 1 false 42),vo 44 (.lenS 43),vo 45 (.bin .lss 41 44)]) (.cond 45 .skip (.exit 2))) (.seq (.block 3 (.seq (rg [vm 48 10,vm 49 13,vo 50 (.ixA 1 48 49),vo 51 (.load 1 false 50),vm 52 9,vo 53 (.bin .eql 51 52),vm 54 53,vg 55 54 true (.mv 12),vg 56 54 true (.fld 0 2),vg 57 54 true (.load 1 false 56),vg 58 54 true (.mv 13),vg 59 54 true (.ixA 4 57 58),vg 60 54 true (.fld 0 59),vg 61 54 true (.load 1 false 60),vg 62 54 true (.call 27 [55,61]),vo 63 (.pick 54 62 (kB false))]) (.cond 63 (.seq (rg [vm 64 11,vo 65 (.fld 0 2),vo 66 (.load 1 false 65),vm 67 13,vo 68 (.ixA 4 66 67),vo 69 (.fld 0 68),vo 70 (.load 1 false 69),vo 71 (.bsl 3 1 1 [(iI 0)] [(0,1,70)]),vo 72 (.app 3 1 8 64 71),vm 11 72]) (.seq (rg [vo 73 (.fld 0 2),vo 74 (.load 1 false 73),vm 75 13,vo 76 (.ixA 4 74 75),vo 77 (.fld 3 76),vo 78 (.load 1 false 77),vm 12 78]) (.exit 2))) .skip))) (rg [vm 46 13,vo 47 (.bin .add 46 (kI 1)),vm 13 47])))))) (rg [vm 79 9,vo 80 (.bin .sub 79 (kI 1)),vm 9 80])))))) (.seq (rg [vm 81 11,vm 4 81,vo 5 (.mv (kI 0))]) .ret))))))))))))
theorem c8:(Try.f8.body.bind fun c=>cV Try.prog 82 c) = some v8:=by kernel_rfl
def v3:VC:=(.seq (rg [vo 2 (.box 25 0),vo 4 (.mv (kB false))]) (.seq (.seq (rg [vo 9 (.load 2 true 2),vo 10 (.call 5 [9]),vo 11 (.un .not 10)]) (.cond 11 (.seq (rg [vo 12 (.call 6 []),vm 4 12]) .ret) .skip)) (.seq (rg [vo 14 (.load 2 true 2),vm 15 1,vo 16 (.call 7 [14,15]),vm 13 16,vo 17 (.ext 13 0),vo 18 (.ext 13 1),vm 5 17,vm 6 18]) (.seq (rg [vo 20 (.load 2 true 2),vm 21 1,vo 22 (.call 8 [20,21]),vm 19 22,vo 23 (.ext 19 0),vo 24 (.ext 19 1),vm 7 23,vm 8 24]) (.seq (rg [vm 25 5,vm 26 7,vo 27 (.call 9 [25,26]),vm 28 27,vg 29 28 true (.mv 6),vg 30 28 true (.mv 8),vg 31 28 true (.bin .eql 29 30),vo 32 (.pick 28 31 (kB false)),vm 33 32,vg 34 33 true (.call 6 []),vo 35 (.pick 33 34 (kB false)),vm 4 35]) .ret)))))
theorem c3:(Try.f3.body.bind fun c=>cV Try.prog 36 c) = some v3:=by kernel_rfl
theorem aQY:akJ Try.prog 39 = true:=by kernel_rfl
def kV (p0:api_Heap):Int→Option (Int ⊕ (Unit ⊕ Bool)):=fun a11 =>
  (bif (decide (a11 < (List.length p0.fObjects:Int))) then ((idx p0.fObjects a11).bind fun y15=>(bif (decide (40 < (List.length y15.fRefs:Int))) then some (.inr (.inr false)) else some (.inl (w64 (a11 + 1))))) else some (.inr (.inl ())))
def qZ (p0:api_Heap) (p1:Int):Option Bool :=
  (((bif (decide (p1 < (List.length p0.fObjects:Int))) then some true else some (decide (p1 < (List.length p0.fRoots:Int)))):Option Bool).bind fun v1=>(bif v1 then some false else ((loop (kV p0) 0).bind fun | .inl _=>some true | .inr rv=>some rv)))
theorem EX (p0:api_Heap) (p1:Int) (r:Bool) (hF:qZ p0 p1 = some r):Fun Try.prog 12 true [] [.agg [jL 4 ax p0.fObjects,jL 1 aV p0.fRoots],cI p1] aZ (cB r) aZ:=by
 refine Fun.of_walk0 Try.func12 c12 (by kernel_rfl) (rs:=[.tmp 4]) (by kernel_rfl) ?_; unfold v12
 unfold qZ at hF
 refine wA rfl ?_; refine bX ?_; refine bX ?_; refine l7 (fun _ _ h=>h) hF (fun v1=>[(2,cP (2,0) 0),(17,cB v1)]) (fun v1=>[((2,0),.box [jL 4 ax p0.fObjects,jL 1 aV p0.fRoots])]) ?_ ?_
 · rintro v1 hF
   refine wIf hF rfl (fun _ hF=>?_) fun _ hF=>?_
   · refine wA rfl ?_; cases hF
     exact fQ wR
   refine cX ?_; refine bX ?_; refine wA rfl ?_; refine qK (fun _ _ h=>h) hF (.inl) (fun a11=>[(2,cP (2,0) 0),(5,cI a11)]) (fun a11=>[((2,0),.box [jL 4 ax p0.fObjects,jL 1 aV p0.fRoots])]) (fun _=>[]) (fun _=>[]) sw ?_ ?_
   · rintro ⟨⟩ hF
     refine wA rfl ?_; cases hF
     exact fQ wR
   rintro a11 x_0 hF cont_0 brk_0 fin_0
   unfold kV at hF
   refine bX ?_; refine wC 3 rfl ?_; refine rS (lX (tc:=ax) p0.fObjects .tree ?_); refine QV rfl ?_; refine wIf hF rfl (fun _ hF=>?_) fun _ hF=>?_
   · refine cX ?_; refine bX ?_; refine hZ ?_; refine wC 3 rfl ?_; obtain ⟨y15,hy15,hF⟩:=bB hF
     refine rS (oV (tc:=ax) p0.fObjects rfl rfl hy15 ?_); refine bW SV 2 rfl ?_; refine rS (lX (tc:=aV) y15.fRefs .tree ?_); refine QV rfl ?_; refine wIf hF rfl (fun _ hF=>?_) fun _ hF=>?_
     · refine wA rfl ?_; have hF:=fin_0 _ (oi hF); cases hF
       exact fQ wR
     refine cX ?_; refine wB rfl ?_; exact cont_0 _ _ _ (oi hF) sw
   refine lq ?_; refine aY ?_; refine aY ?_; refine cW ?_; exact brk_0 _ _ _ (oi hF) sw
 intro join hF
 refine wD 2 rfl ?_; refine rS (lX (tc:=ax) p0.fObjects .tree ?_); refine bW SV 3 rfl ?_; cases h19:(decide (p1 < (List.length p0.fObjects:Int)))
 · have hF:=bF' h19 hF; refine bW SV 2 rfl ?_; refine dj SV rfl (lX (tc:=aV) p0.fRoots .tree ?_); refine QV rfl ?_; exact join (decide (p1 < (List.length p0.fRoots:Int))) _ _ hF sw
 have hF:=bT' h19 hF; refine QV rfl ?_; exact join true _ _ hF sw
def mK (p0:api_Heap):Option Bool :=
  ((qZ p0 16).bind fun r1=>some r1)
theorem EZ (p0:api_Heap) (r:Bool) (hF:mK p0 = some r):Fun Try.prog 5 true [] [.agg [jL 4 ax p0.fObjects,jL 1 aV p0.fRoots]] aZ (cB r) aZ:=by
 refine Fun.of_walk0 Try.func5 c5 (by kernel_rfl) (rs:=[.tmp 2]) (by kernel_rfl) ?_; unfold v5
 unfold mK at hF
 refine wA rfl ?_; refine wC 1 rfl ?_; obtain ⟨r1,hr1,hF⟩:=bB hF
 refine rS (fK (EX _ _ _ hr1) ⟨⟨rfl,rfl,trivial⟩,rfl,trivial⟩ rfl (.inl rfl) ?_); refine QV rfl ?_; cases hF
 exact fQ wR
def eX  : Option api_Heap :=
  some ({ fObjects:=[({ fId:=1,fSize:=10,fType:=(⟨#[116]⟩ : ByteArray),fRefs:=[2,3] }:bY),({ fId:=2,fSize:=10,fType:=(⟨#[116]⟩ : ByteArray),fRefs:=[4] }:bY),({ fId:=3,fSize:=10,fType:=(⟨#[116]⟩ : ByteArray),fRefs:=[4] }:bY),({ fId:=4,fSize:=10,fType:=(⟨#[116]⟩ : ByteArray),fRefs:=[] }:bY)],fRoots:=[1] }:api_Heap)
theorem gX  (r:api_Heap) (hF:eX  = some r):Fun Try.prog 14 false [] [] (aj []) (.agg [.slO (902,560),.slO (902,561)]) (aj [((902,560),.arr 52 4 (List.map ax r.fObjects)),((902,561),.arr 3 1 (List.map aV r.fRoots))]):=by
 refine Fun.of_walkM [] (some []) Try.func14 c14 (by kernel_rfl) (rs:=[.cell 0 2 true]) (by kernel_rfl) rfl rfl rfl ?_; unfold v14
 unfold eX at hF
 refine wA rfl ?_; refine wE ?_; refine rS (I1 (tc:=aV) [2,3] rfl ⟨rfl,rfl,trivial⟩ rfl (fun _=>rfl) rfl ?_)
 refine bW SV 1 rfl ?_; refine rS (I1 (tc:=aV) [4] rfl ⟨rfl,trivial⟩ rfl (fun _=>rfl) rfl ?_)
 refine bW SV 1 rfl ?_; refine rS (I1 (tc:=aV) [4] rfl ⟨rfl,trivial⟩ rfl (fun _=>rfl) rfl ?_)
 refine bW SV 2 rfl ?_; refine aIV trivial (aDX (1,0) rfl rfl (aDX (3,0) rfl rfl (aDX (5,0) rfl rfl xz))) (.inl (I1 (tc:=ax) [({ fId:=1,fSize:=10,fType:=(⟨#[116]⟩ : ByteArray),fRefs:=[2,3] }:bY),({ fId:=2,fSize:=10,fType:=(⟨#[116]⟩ : ByteArray),fRefs:=[4] }:bY),({ fId:=3,fSize:=10,fType:=(⟨#[116]⟩ : ByteArray),fRefs:=[4] }:bY),({ fId:=4,fSize:=10,fType:=(⟨#[116]⟩ : ByteArray),fRefs:=[] }:bY)] rfl ⟨rfl,rfl,rfl,rfl,rfl,rfl,rfl,rfl,rfl,rfl,rfl,rfl,rfl,rfl,rfl,rfl,trivial⟩ rfl (fun _=>rfl) rfl ?_))
 refine rS (I1 (tc:=aV) [1] rfl ⟨rfl,trivial⟩ rfl (fun _=>rfl) rfl ?_)
 refine QV rfl ?_; cases hF
 exact fQ ⟨_,_,(X0 (8,0) (902,560) rfl rfl (X0 (9,0) (902,561) rfl rfl xz)),_,rfl,rfl,⟨rfl,rfl,trivial⟩,(AgM.weak ⟨rfl,rfl,trivial⟩)⟩
def kW (p0:ByteArray) (p1:Int):Option Int:=some (Go.Lib.indexByte p0.data.toList p1.toNat.toUInt8)
theorem vz (p0:ByteArray) (p1:Int) (r:Int) (hF:kW p0 p1 = some r):Fun Try.prog 68 true [] [.c (jS p0),.c (.imm (.sc (.int .u8 p1)))] aZ (cI r) aZ:=by
 cases hF
 refine Fun.of_plain [.string p0,.int .u8 p1] (.int .i64 (Go.Lib.indexByte p0.data.toList p1.toNat.toUInt8)) (fun w=>?_) rfl
 go_enter Try.func68,Try.ntmps68; go_wp2; rw [run_callFunc_extern Try.func70 (by kernel_rfl) (by kernel_rfl) (by kernel_rfl) (e:=Extern.BytealgIndexByte.indexByte) (by kernel_rfl),Go.Lib.run_indexByteString]
 simp only [Result.andThen]; rw [Oper.upon_value]; go_wp2; go_ret; exact ⟨rfl,rfl⟩
def eZ (p0:ByteArray) (p1:Int):Option Int :=
  ((kW p0 p1).bind fun r1=>some r1)
theorem eY (p0:ByteArray) (p1:Int) (r:Int) (hF:eZ p0 p1 = some r):Fun Try.prog 62 true [] [.c (jS p0),.c (.imm (.sc (.int .u8 p1)))] aZ (cI r) aZ:=by
 refine Fun.of_walk0 Try.func62 c62 (by kernel_rfl) (rs:=[.tmp 4]) (by kernel_rfl) ?_; unfold v62
 unfold eZ at hF
 refine wA rfl ?_; refine wC 2 rfl ?_; obtain ⟨r1,hr1,hF⟩:=bB hF
 refine rS (fK (vz _ _ _ hr1) ⟨rfl,rfl,trivial⟩ rfl (.inl rfl) ?_); refine QV rfl ?_; cases hF
 exact fQ wR
def oZ (p0:Int):Option Bool :=
  (((bif (decide (97≤p0)) then (bif (decide (p0≤122)) then some true else (bif (decide (65≤p0)) then (bif (decide (p0≤90)) then some true else (bif (decide (48≤p0)) then (bif (decide (p0≤57)) then some true else ((eZ (⟨#[95,46,58,47,60,62,36,42,126,45]⟩ : ByteArray) p0).bind fun r23=>some (decide (0≤r23)))) else ((eZ (⟨#[95,46,58,47,60,62,36,42,126,45]⟩ : ByteArray) p0).bind fun r21=>some (decide (0≤r21))))) else (bif (decide (48≤p0)) then (bif (decide (p0≤57)) then some true else ((eZ (⟨#[95,46,58,47,60,62,36,42,126,45]⟩ : ByteArray) p0).bind fun r18=>some (decide (0≤r18)))) else ((eZ (⟨#[95,46,58,47,60,62,36,42,126,45]⟩ : ByteArray) p0).bind fun r16=>some (decide (0≤r16)))))) else (bif (decide (65≤p0)) then (bif (decide (p0≤90)) then some true else (bif (decide (48≤p0)) then (bif (decide (p0≤57)) then some true else ((eZ (⟨#[95,46,58,47,60,62,36,42,126,45]⟩ : ByteArray) p0).bind fun r12=>some (decide (0≤r12)))) else ((eZ (⟨#[95,46,58,47,60,62,36,42,126,45]⟩ : ByteArray) p0).bind fun r10=>some (decide (0≤r10))))) else (bif (decide (48≤p0)) then (bif (decide (p0≤57)) then some true else ((eZ (⟨#[95,46,58,47,60,62,36,42,126,45]⟩ : ByteArray) p0).bind fun r7=>some (decide (0≤r7)))) else ((eZ (⟨#[95,46,58,47,60,62,36,42,126,45]⟩ : ByteArray) p0).bind fun r5=>some (decide (0≤r5)))))):Option Bool).bind fun v1=>some v1)
theorem K8 (p0:Int) (r:Bool) (hF:oZ p0 = some r):Fun Try.prog 50 true [] [.c (.imm (.sc (.int .u8 p0)))] aZ (cB r) aZ:=by
 refine Fun.of_walk0 Try.func50 c50 (by kernel_rfl) (rs:=[.tmp 2]) (by kernel_rfl) ?_; unfold v50
 unfold oZ at hF
 refine wA rfl ?_; refine bX ?_; refine l7 (fun _ _ h=>h) hF (fun v1=>[(2,cB v1)]) (fun v1=>[]) ?_ ?_
 · rintro v1 hF
   cases hF
   exact fQ wR
 intro join hF
 refine wD 3 rfl ?_; cases h2:(decide (97≤p0))
 · have hF:=bF' h2 hF; refine bW SV 7 rfl ?_; cases h3:(decide (65≤p0))
   · have hF:=bF' h3 hF; refine bW SV 8 rfl ?_; cases h4:(decide (48≤p0))
     · have hF:=bF' h4 hF; refine bW SV 6 rfl ?_; obtain ⟨r5,hr5,hF⟩:=bB' hF
       refine dj SV rfl (fK (eY _ _ _ hr5) ⟨rfl,rfl,trivial⟩ rfl (.inl rfl) ?_); refine QV rfl ?_; exact join (decide (0≤r5)) _ _ hF sw
     have hF:=bT' h4 hF; refine bW SV 5 rfl ?_; cases h6:(decide (p0≤57))
     · have hF:=bF' h6 hF; refine bW SV 1 rfl ?_; obtain ⟨r7,hr7,hF⟩:=bB' hF
       refine dj SV rfl (fK (eY _ _ _ hr7) ⟨rfl,rfl,trivial⟩ rfl (.inl rfl) ?_); refine QV rfl ?_; exact join (decide (0≤r7)) _ _ hF sw
     have hF:=bT' h6 hF; refine QV rfl ?_; exact join true _ _ hF sw
   have hF:=bT' h3 hF; refine bW SV 5 rfl ?_; cases h8:(decide (p0≤90))
   · have hF:=bF' h8 hF; refine bW SV 3 rfl ?_; cases h9:(decide (48≤p0))
     · have hF:=bF' h9 hF; refine bW SV 6 rfl ?_; obtain ⟨r10,hr10,hF⟩:=bB' hF
       refine dj SV rfl (fK (eY _ _ _ hr10) ⟨rfl,rfl,trivial⟩ rfl (.inl rfl) ?_); refine QV rfl ?_; exact join (decide (0≤r10)) _ _ hF sw
     have hF:=bT' h9 hF; refine bW SV 5 rfl ?_; cases h11:(decide (p0≤57))
     · have hF:=bF' h11 hF; refine bW SV 1 rfl ?_; obtain ⟨r12,hr12,hF⟩:=bB' hF
       refine dj SV rfl (fK (eY _ _ _ hr12) ⟨rfl,rfl,trivial⟩ rfl (.inl rfl) ?_); refine QV rfl ?_; exact join (decide (0≤r12)) _ _ hF sw
     have hF:=bT' h11 hF; refine QV rfl ?_; exact join true _ _ hF sw
   have hF:=bT' h8 hF; refine QV rfl ?_; exact join true _ _ hF sw
 have hF:=bT' h2 hF; refine bW SV 4 rfl ?_; cases h13:(decide (p0≤122))
 · have hF:=bF' h13 hF; refine bW SV 3 rfl ?_; cases h14:(decide (65≤p0))
   · have hF:=bF' h14 hF; refine bW SV 8 rfl ?_; cases h15:(decide (48≤p0))
     · have hF:=bF' h15 hF; refine bW SV 6 rfl ?_; obtain ⟨r16,hr16,hF⟩:=bB' hF
       refine dj SV rfl (fK (eY _ _ _ hr16) ⟨rfl,rfl,trivial⟩ rfl (.inl rfl) ?_); refine QV rfl ?_; exact join (decide (0≤r16)) _ _ hF sw
     have hF:=bT' h15 hF; refine bW SV 5 rfl ?_; cases h17:(decide (p0≤57))
     · have hF:=bF' h17 hF; refine bW SV 1 rfl ?_; obtain ⟨r18,hr18,hF⟩:=bB' hF
       refine dj SV rfl (fK (eY _ _ _ hr18) ⟨rfl,rfl,trivial⟩ rfl (.inl rfl) ?_); refine QV rfl ?_; exact join (decide (0≤r18)) _ _ hF sw
     have hF:=bT' h17 hF; refine QV rfl ?_; exact join true _ _ hF sw
   have hF:=bT' h14 hF; refine bW SV 5 rfl ?_; cases h19:(decide (p0≤90))
   · have hF:=bF' h19 hF; refine bW SV 3 rfl ?_; cases h20:(decide (48≤p0))
     · have hF:=bF' h20 hF; refine bW SV 6 rfl ?_; obtain ⟨r21,hr21,hF⟩:=bB' hF
       refine dj SV rfl (fK (eY _ _ _ hr21) ⟨rfl,rfl,trivial⟩ rfl (.inl rfl) ?_); refine QV rfl ?_; exact join (decide (0≤r21)) _ _ hF sw
     have hF:=bT' h20 hF; refine bW SV 5 rfl ?_; cases h22:(decide (p0≤57))
     · have hF:=bF' h22 hF; refine bW SV 1 rfl ?_; obtain ⟨r23,hr23,hF⟩:=bB' hF
       refine dj SV rfl (fK (eY _ _ _ hr23) ⟨rfl,rfl,trivial⟩ rfl (.inl rfl) ?_); refine QV rfl ?_; exact join (decide (0≤r23)) _ _ hF sw
     have hF:=bT' h22 hF; refine QV rfl ?_; exact join true _ _ hF sw
   have hF:=bT' h19 hF; refine QV rfl ?_; exact join true _ _ hF sw
 have hF:=bT' h13 hF; refine QV rfl ?_; exact join true _ _ hF sw
def mW (p0:ByteArray):Int→Option (Int ⊕ (Unit ⊕ Int)):=fun a13 =>
  (bif (decide (a13 < (ByteArray.size p0:Int))) then ((idx (ByteArray.data p0).toList a13).bind fun y18=>((oZ (UInt8.toNat y18:Int)).bind fun r19=>(bif (!r19) then some (.inr (.inr 3)) else some (.inl (w64 (a13 + 1)))))) else some (.inr (.inl ())))
def lQ (p0:ByteArray):Option Int :=
  (((bif (decide (p0 = (⟨#[]⟩ : ByteArray))) then some true else some (decide (40 < (ByteArray.size p0:Int)))):Option Bool).bind fun v1=>(bif v1 then some 3 else ((loop (mW p0) 0).bind fun | .inl _=>some 0 | .inr rv=>some rv)))
theorem P1 (p0:ByteArray) (r:Int) (hF:lQ p0 = some r):Fun Try.prog 36 true [] [.c (jS p0)] aZ (cI r) aZ:=by
 refine Fun.of_walk0 Try.func36 c36 (by kernel_rfl) (rs:=[.tmp 2]) (by kernel_rfl) ?_; unfold v36
 unfold lQ at hF
 refine wA rfl ?_; refine bX ?_; refine bX ?_; refine l7 (fun _ _ h=>h) hF (fun v1=>[(0,.c (jS p0)),(10,cB v1)]) (fun v1=>[]) ?_ ?_
 · rintro v1 hF
   refine wIf hF rfl (fun _ hF=>?_) fun _ hF=>?_
   · refine wA rfl ?_; cases hF
     exact fQ wR
   refine cX ?_; refine bX ?_; refine wA rfl ?_; refine qK (fun _ _ h=>h) hF (.inl) (fun a13=>[(0,.c (jS p0)),(12,cI (ByteArray.size p0:Int)),(13,cI a13)]) (fun a13=>[]) (fun _=>[]) (fun _=>[]) sw ?_ ?_
   · rintro ⟨⟩ hF
     refine wA rfl ?_; cases hF
     exact fQ wR
   rintro a13 x_0 hF cont_0 brk_0 fin_0
   unfold mW at hF
   refine wA rfl ?_; refine bX ?_; refine wIf hF rfl (fun _ hF=>?_) fun _ hF=>?_
   · refine cX ?_; refine bX ?_; refine hZ ?_; refine wA rfl ?_; refine wC 2 rfl ?_; obtain ⟨y18,hy18,hF⟩:=bB hF
     refine rS (aCq p0 rfl rfl hy18 ?_); obtain ⟨r19,hr19,hF⟩:=bB hF
     refine rS (fK (K8 _ _ hr19) ⟨rfl,trivial⟩ rfl (.inl rfl) ?_); refine QV rfl ?_; refine wIf hF rfl (fun _ hF=>?_) fun _ hF=>?_
     · refine wA rfl ?_; have hF:=fin_0 _ (oi hF); cases hF
       exact fQ wR
     refine cX ?_; refine wB rfl ?_; exact cont_0 _ _ _ (oi hF) sw
   refine lq ?_; refine aY ?_; refine aY ?_; refine cW ?_; exact brk_0 _ _ _ (oi hF) sw
 intro join hF
 refine wD 3 rfl ?_; cases h23:(decide (p0 = (⟨#[]⟩ : ByteArray)))
 · have hF:=bF' h23 hF; refine QV rfl ?_; exact join (decide (40 < (ByteArray.size p0:Int))) _ _ hF sw
 have hF:=bT' h23 hF; refine QV rfl ?_; exact join true _ _ hF sw
def gK (p0:(List Int)) (p1:(List (Int × Int))):Int→Option (Int ⊕ (Unit ⊕ Int)):=fun a18 =>
  (bif (decide (a18 < (List.length p0:Int))) then ((idx p0 a18).bind fun y26=>(bif (!(Option.isSome (yK y26 p1))) then some (.inr (.inr 5)) else (((bif (decide (0 < a18)) then ((idx p0 (w64 (a18 - 1))).bind fun y30=>some (decide (y26≤y30))) else some false):Option Bool).bind fun v27=>(bif v27 then some (.inr (.inr 11)) else some (.inl (w64 (a18 + 1))))))) else some (.inr (.inl ())))
def gJ (p0:(List Int)) (p1:(List (Int × Int))):Option Int :=
  ((loop (gK p0 p1) 0).bind fun | .inl _=>some 0 | .inr rv=>some rv)
theorem sK (p0:(List Int)) (p1:(List (Int × Int))) (r:Int) (hF:gJ p0 p1 = some r):Fun Try.prog 37 false [(2480,0)] [cL 1 aV p0,cM (2480,0)] (aj [((2480,0),zQ (.int .i64) kvI (fun y:Int=>(.one (tI y):MT)) p1)]) (cI r) (aj [((2480,0),zQ (.int .i64) kvI (fun y:Int=>(.one (tI y):MT)) p1)]):=by
 refine Fun.of_walkM [(2480,0)] (some [(2480,0)]) Try.func37 c37 (by kernel_rfl) (rs:=[.tmp 4]) (by kernel_rfl) rfl rfl rfl ?_; unfold v37
 unfold gJ at hF
 refine wA rfl ?_; refine bX ?_; refine wC 1 rfl ?_; refine rS (lX (tc:=aV) p0 .tree ?_); refine QV rfl ?_; refine qK (fun _ _ h=>h) hF (.inl) (fun a18=>[(0,cL 1 aV p0),(1,cM (2480,0)),(9,cL 1 aV p0),(10,cI (List.length p0:Int)),(11,cI a18)]) (fun a18=>[((2480,0),zQ (.int .i64) kvI (fun y:Int=>(.one (tI y):MT)) p1)]) (fun _=>[]) (fun _=>[((2480,0),zQ (.int .i64) kvI (fun y:Int=>(.one (tI y):MT)) p1)]) sw ?_ ?_
 · rintro ⟨⟩ hF
   refine wA rfl ?_; cases hF
   exact fQ ⟨_,_,xz,_,rfl,rfl,⟨rfl,fun _=>rfl⟩,(AgM.weak ⟨rfl,trivial⟩)⟩
 rintro a18 x_0 hF cont_0 brk_0 fin_0
 unfold gK at hF
 refine wA rfl ?_; refine bX ?_; refine wIf hF rfl (fun _ hF=>?_) fun _ hF=>?_
 · refine cX ?_; refine bX ?_; refine hZ ?_; refine wC 1 rfl ?_; obtain ⟨y26,hy26,hF⟩:=bB hF
   refine rS (oV (tc:=aV) p0 rfl rfl hy26 ?_); refine QV rfl ?_; refine bX ?_; refine wC 2 rfl ?_; refine rS (azx (aUY .i64) (vv:=(fun y:Int=>(.one (tI y):MT))) p1 y26 0 (.own _ rfl) rfl rfl ?_)
   refine QV rfl ?_; refine wA rfl ?_; refine wIf hF rfl (fun _ hF=>?_) fun _ hF=>?_
   · refine wA rfl ?_; have hF:=fin_0 _ (oi hF); cases hF
     exact fQ ⟨_,_,xz,_,rfl,rfl,⟨rfl,fun _=>rfl⟩,(AgM.weak ⟨rfl,trivial⟩)⟩
   refine cX ?_; refine bX ?_; refine l7 (fun _ _ h=>h) hF (fun v27=>[(0,cL 1 aV p0),(1,cM (2480,0)),(9,cL 1 aV p0),(10,cI (List.length p0:Int)),(11,cI a18),(34,cB v27)]) (fun v27=>[((2480,0),zQ (.int .i64) kvI (fun y:Int=>(.one (tI y):MT)) p1)]) ?_ ?_
   · rintro v27 hF
     refine wIf hF rfl (fun _ hF=>?_) fun _ hF=>?_
     · refine wA rfl ?_; have hF:=fin_0 _ (oi hF); cases hF
       exact fQ ⟨_,_,xz,_,rfl,rfl,⟨rfl,fun _=>rfl⟩,(AgM.weak ⟨rfl,trivial⟩)⟩
     refine cX ?_; refine wB rfl ?_; exact cont_0 _ _ _ (oi hF) sw
   intro join hF
   refine wD 3 rfl ?_; cases h29:(decide (0 < a18))
   · have hF:=bF' h29 hF; refine QV rfl ?_; exact join false _ _ hF sw
   have hF:=bT' h29 hF; refine bW SV 4 rfl ?_; obtain ⟨y30,hy30,hF⟩:=bB' hF
   refine dj SV rfl (oV (tc:=aV) p0 rfl rfl hy30 ?_); refine QV rfl ?_; exact join (decide (y26≤y30)) _ _ hF sw
 refine lq ?_; refine aY ?_; refine aY ?_; refine cW ?_; exact brk_0 _ _ _ (oi hF) sw
def oQ (p0:api_Heap) (e64:(List (Int × Int))):Int→Option (Int ⊕ (Unit ⊕ Int)):=fun a76 =>
  (bif (decide (a76 < (List.length p0.fObjects:Int))) then ((idx p0.fObjects a76).bind fun y82=>((gJ y82.fRefs e64).bind fun r83=>(bif (!decide (r83 = 0)) then some (.inr (.inr r83)) else some (.inl (w64 (a76 + 1)))))) else some (.inr (.inl ())))
def lJ (p0:api_Heap):((List (Int × Int)) × Int)→Option (((List (Int × Int)) × Int) ⊕ ((List (Int × Int)) ⊕ Int)):=fun (a49,a50) =>
  (bif (decide (a50 < (List.length p0.fObjects:Int))) then ((idx p0.fObjects a50).bind fun y86=>(((bif (decide (y86.fId < 0)) then some true else (bif (decide (1000000000000000 < y86.fId)) then some true else (bif (decide (y86.fSize < 0)) then some true else some (decide (1000000000000 < y86.fSize))))):Option Bool).bind fun v87=>(bif v87 then some (.inr (.inr 2)) else ((lQ y86.fType).bind fun r88=>(bif (!decide (r88 = 0)) then some (.inr (.inr r88)) else (((bif (decide (0 < a50)) then ((idx p0.fObjects (w64 (a50 - 1))).bind fun y92=>some (decide (y86.fId≤y92.fId))) else some false):Option Bool).bind fun v89=>(bif v89 then some (.inr (.inr 11)) else some (.inl ((K6 y86.fId a50 a49),(w64 (a50 + 1))))))))))) else some (.inr (.inl a49)))
def oq (p0:api_Heap):(Int × Int)→Option ((Int × Int) ⊕ Int):=fun (a11,a12) =>
  (bif (decide (a12 < (List.length p0.fObjects:Int))) then ((idx p0.fObjects a12).bind fun y102=>some (.inl ((w64 (a11 + (List.length y102.fRefs:Int))),(w64 (a12 + 1))))) else some (.inr a11))
def iX (p0:api_Heap):Option Int :=
  ((loop (oq p0) (0,0)).bind fun e15=>(((bif (decide (5000 < (List.length p0.fObjects:Int))) then some true else (bif (decide (20000 < e15)) then some true else some (decide (5000 < (List.length p0.fRoots:Int))))):Option Bool).bind fun v16=>(bif v16 then some 7 else ((loop (lJ p0) ([],0)).bind fun | .inl e64=>((loop (oQ p0 e64) 0).bind fun | .inl _=>((gJ p0.fRoots e64).bind fun r81=>some r81) | .inr rv=>some rv) | .inr rv=>some rv))))
theorem J0 (p0:api_Heap) (r:Int) (hF:iX p0 = some r):Fun Try.prog 17 true [] [.agg [jL 4 ax p0.fObjects,jL 1 aV p0.fRoots]] aZ (cI r) aZ:=by
 refine Fun.of_walk0 Try.func17 c17 (by kernel_rfl) (rs:=[.tmp 2]) (by kernel_rfl) ?_; unfold v17
 unfold iX at hF
 refine wA rfl ?_; refine wA rfl ?_; refine bX ?_; refine wC 2 rfl ?_; refine rS (lX (tc:=ax) p0.fObjects .tree ?_); refine QV rfl ?_; refine qK (fun _ _ h=>h) hF (id) (fun (a11,a12)=>[(1,cP (1,0) 0),(3,cI a11),(14,cL 4 ax p0.fObjects),(15,cI (List.length p0.fObjects:Int)),(16,cI a12)]) (fun (a11,a12)=>[((1,0),.box [jL 4 ax p0.fObjects,jL 1 aV p0.fRoots])]) (fun e15=>[(1,cP (1,0) 0),(3,cI e15)]) (fun e15=>[((1,0),.box [jL 4 ax p0.fObjects,jL 1 aV p0.fRoots])]) sw ?_ ?_
 · rintro e15 hF
   refine bX ?_; refine bX ?_; refine l7 (fun _ _ h=>h) hF (fun v16=>[(1,cP (1,0) 0),(39,cB v16)]) (fun v16=>[((1,0),.box [jL 4 ax p0.fObjects,jL 1 aV p0.fRoots])]) ?_ ?_
   · rintro v16 hF
     refine wIf hF rfl (fun _ hF=>?_) fun _ hF=>?_
     · refine wA rfl ?_; cases hF
       exact fQ wR
     refine cX ?_; refine wE ?_; refine rS (aKX (kd:=(.int .i64)) (kv:=kvI) (vv:=(fun y:Int=>(.one (tI y):MT))) rfl ?_)
     refine QV rfl ?_; refine bX ?_; refine wC 2 rfl ?_; refine rS (lX (tc:=ax) p0.fObjects .tree ?_); refine QV rfl ?_; refine qK (fun _ _ h=>h) hF (.inl) (fun (a49,a50)=>[(1,cP (1,0) 0),(6,cM (40,0)),(42,cL 4 ax p0.fObjects),(43,cI (List.length p0.fObjects:Int)),(44,cI a50)]) (fun (a49,a50)=>[((1,0),.box [jL 4 ax p0.fObjects,jL 1 aV p0.fRoots]),((40,0),zQ (.int .i64) kvI (fun y:Int=>(.one (tI y):MT)) a49)]) (fun e64=>[(1,cP (1,0) 0),(6,cM (40,0))]) (fun e64=>[((1,0),.box [jL 4 ax p0.fObjects,jL 1 aV p0.fRoots]),((40,0),zQ (.int .i64) kvI (fun y:Int=>(.one (tI y):MT)) e64)]) sw ?_ ?_
     · rintro e64 hF
       refine bX ?_; refine wC 2 rfl ?_; refine rS (lX (tc:=ax) p0.fObjects .tree ?_); refine QV rfl ?_; refine qK (fun _ _ h=>h) hF (.inl) (fun a76=>[(1,cP (1,0) 0),(6,cM (40,0)),(93,cL 4 ax p0.fObjects),(94,cI (List.length p0.fObjects:Int)),(95,cI a76)]) (fun a76=>[((1,0),.box [jL 4 ax p0.fObjects,jL 1 aV p0.fRoots]),((40,0),zQ (.int .i64) kvI (fun y:Int=>(.one (tI y):MT)) e64)]) (fun _=>[(1,cP (1,0) 0),(6,cM (40,0))]) (fun _=>[((1,0),.box [jL 4 ax p0.fObjects,jL 1 aV p0.fRoots]),((40,0),zQ (.int .i64) kvI (fun y:Int=>(.one (tI y):MT)) e64)]) sw ?_ ?_
       · rintro ⟨⟩ hF
         refine wC 3 rfl ?_; obtain ⟨r81,hr81,hF⟩:=bB hF
         refine rS (Y9 [((2480,0),(40,0))] rfl (sK _ _ _ hr81) ⟨rfl,trivial⟩ rfl rfl (.inr ⟨.inl rfl,.inl rfl,trivial⟩) ?_); refine QV rfl ?_; cases hF
         exact fQ wR
       rintro a76 x_0 hF cont_0 brk_0 fin_0
       unfold oQ at hF
       refine wA rfl ?_; refine bX ?_; refine wIf hF rfl (fun _ hF=>?_) fun _ hF=>?_
       · refine cX ?_; refine bX ?_; refine hZ ?_; refine wE ?_; obtain ⟨y82,hy82,hF⟩:=bB hF
         refine rS (oV (tc:=ax) p0.fObjects rfl rfl hy82 ?_); refine QV rfl ?_; refine wC 3 rfl ?_; obtain ⟨r83,hr83,hF⟩:=bB hF
         refine rS (Y9 [((2480,0),(40,0))] rfl (sK _ _ _ hr83) ⟨rfl,trivial⟩ rfl rfl (.inr ⟨.inl rfl,.inl rfl,trivial⟩) ?_); refine QV rfl ?_; refine wA rfl ?_; refine wIf hF rfl (fun _ hF=>?_) fun _ hF=>?_
         · refine wA rfl ?_; have hF:=fin_0 _ (oi hF); cases hF
           exact fQ wR
         refine cX ?_; refine wB rfl ?_; exact cont_0 _ _ _ (oi hF) sw
       refine lq ?_; refine aY ?_; refine aY ?_; refine cW ?_; exact brk_0 _ _ _ (oi hF) sw
     rintro ⟨a49,a50⟩ x_0 hF cont_0 brk_0 fin_0
     unfold lJ at hF
     refine wA rfl ?_; refine bX ?_; refine wIf hF rfl (fun _ hF=>?_) fun _ hF=>?_
     · refine cX ?_; refine bX ?_; refine hZ ?_; refine wC 1 rfl ?_; obtain ⟨y86,hy86,hF⟩:=bB hF
       refine rS (oV (tc:=ax) p0.fObjects rfl rfl hy86 ?_); refine QV rfl ?_; refine bX ?_; refine bX ?_; refine l7 (fun _ _ h=>h) hF (fun v87=>[(1,cP (1,0) 0),(6,cM (40,0)),(7,cI a50),(8,cP (8,0) 0),(42,cL 4 ax p0.fObjects),(43,cI (List.length p0.fObjects:Int)),(44,cI a50),(66,cB v87)]) (fun v87=>[((1,0),.box [jL 4 ax p0.fObjects,jL 1 aV p0.fRoots]),((40,0),zQ (.int .i64) kvI (fun y:Int=>(.one (tI y):MT)) a49),((8,0),.box (z7 y86))]) ?_ ?_
       · rintro v87 hF
         refine wIf hF rfl (fun _ hF=>?_) fun _ hF=>?_
         · refine wA rfl ?_; have hF:=fin_0 _ (oi hF); cases hF
           exact fQ wR
         refine cX ?_; refine bX ?_; refine wC 2 rfl ?_; obtain ⟨r88,hr88,hF⟩:=bB hF
         refine rS (fK (P1 _ _ hr88) ⟨rfl,trivial⟩ rfl (.inl rfl) ?_); refine QV rfl ?_; refine wA rfl ?_; refine wIf hF rfl (fun _ hF=>?_) fun _ hF=>?_
         · refine wA rfl ?_; have hF:=fin_0 _ (oi hF); cases hF
           exact fQ wR
         refine cX ?_; refine bX ?_; refine bX ?_; refine l7 (fun _ _ h=>h) hF (fun v89=>[(1,cP (1,0) 0),(6,cM (40,0)),(7,cI a50),(8,cP (8,0) 0),(42,cL 4 ax p0.fObjects),(43,cI (List.length p0.fObjects:Int)),(44,cI a50),(86,cB v89)]) (fun v89=>[((1,0),.box [jL 4 ax p0.fObjects,jL 1 aV p0.fRoots]),((40,0),zQ (.int .i64) kvI (fun y:Int=>(.one (tI y):MT)) a49),((8,0),.box (z7 y86))]) ?_ ?_
         · rintro v89 hF
           refine wIf hF rfl (fun _ hF=>?_) fun _ hF=>?_
           · refine wA rfl ?_; have hF:=fin_0 _ (oi hF); cases hF
             exact fQ wR
           refine cX ?_; refine wD 4 rfl ?_; refine rS (aRY (aUY .i64) (vv:=(fun y:Int=>(.one (tI y):MT))) a49 y86.fId a50 rfl rfl rfl rfl ?_)
           refine QV rfl ?_; refine wB rfl ?_; exact cont_0 _ _ _ (oi hF) sw
         intro join hF
         refine D9 (by decide) (by kernel_rfl) rfl ?_; refine bW SP 3 rfl ?_; cases h91:(decide (0 < a50))
         · have hF:=bF' h91 hF; refine QP rfl ?_; exact join false _ _ hF sw
         have hF:=bT' h91 hF; refine bW SP 6 rfl ?_; obtain ⟨y92,hy92,hF⟩:=bB' hF
         refine dj SP rfl (oV (tc:=ax) p0.fObjects rfl rfl hy92 ?_); refine QP rfl ?_; exact join (decide (y86.fId≤y92.fId)) _ _ hF sw
       intro join hF
       refine wD 4 rfl ?_; cases h95:(decide (y86.fId < 0))
       · have hF:=bF' h95 hF; refine bW SV 5 rfl ?_; cases h96:(decide (1000000000000000 < y86.fId))
         · have hF:=bF' h96 hF; refine bW SV 5 rfl ?_; cases h97:(decide (y86.fSize < 0))
           · have hF:=bF' h97 hF; refine QV rfl ?_; exact join (decide (1000000000000 < y86.fSize)) _ _ hF sw
           have hF:=bT' h97 hF; refine QV rfl ?_; exact join true _ _ hF sw
         have hF:=bT' h96 hF; refine QV rfl ?_; exact join true _ _ hF sw
       have hF:=bT' h95 hF; refine QV rfl ?_; exact join true _ _ hF sw
     refine lq ?_; refine aY ?_; refine aY ?_; refine cW ?_; exact brk_0 _ _ _ (oi hF) sw
   intro join hF
   refine wD 2 rfl ?_; refine rS (lX (tc:=ax) p0.fObjects .tree ?_); refine bW SV 2 rfl ?_; cases h100:(decide (5000 < (List.length p0.fObjects:Int)))
   · have hF:=bF' h100 hF; refine bW SV 4 rfl ?_; cases h101:(decide (20000 < e15))
     · have hF:=bF' h101 hF; refine bW SV 2 rfl ?_; refine dj SV rfl (lX (tc:=aV) p0.fRoots .tree ?_); refine QV rfl ?_; exact join (decide (5000 < (List.length p0.fRoots:Int))) _ _ hF sw
     have hF:=bT' h101 hF; refine QV rfl ?_; exact join true _ _ hF sw
   have hF:=bT' h100 hF; refine QV rfl ?_; exact join true _ _ hF sw
 rintro ⟨a11,a12⟩ x_0 hF cont_0 brk_0 fin_0
 unfold oq at hF
 refine wA rfl ?_; refine bX ?_; refine wIf hF rfl (fun _ hF=>?_) fun _ hF=>?_
 · refine cX ?_; refine bX ?_; refine hZ ?_; refine wE ?_; obtain ⟨y102,hy102,hF⟩:=bB hF
   refine rS (oV (tc:=ax) p0.fObjects rfl rfl hy102 ?_); refine QV rfl ?_; refine wD 3 rfl ?_; refine rS (lX (tc:=aV) y102.fRefs .tree ?_); refine QV rfl ?_; refine wB rfl ?_; exact cont_0 _ _ _ (oi hF) sw
 refine lq ?_; refine aY ?_; refine aY ?_; refine cW ?_; exact brk_0 _ _ _ (oi hF) sw
def qJ (p0:bY) (p1:Int):Option Bool :=
  some (decide (p0.fId = p1))
theorem EY (p0:bY) (p1:Int) (r:Bool) (hF:qJ p0 p1 = some r):Fun Try.prog 39 true [] [.agg (z7 p0),.c (.ptrI [tI p1])] aZ (cB r) aZ:=by
 refine Fun.of_walk0 Try.func39 c39 (by kernel_rfl) (rs:=[.tmp 3]) (by kernel_rfl) ?_; unfold v39
 unfold qJ at hF
 refine wA rfl ?_; refine wA rfl ?_; cases hF
 exact fQ wR
def cQ (p0:(List bY)) (p1_0:Int):Int→Option (Int ⊕ (Unit ⊕ Int)):=fun a12 =>
  (bif (decide (a12 < (List.length p0:Int))) then ((idx p0 a12).bind fun y17=>((qJ y17 p1_0).bind fun r18=>(bif r18 then some (.inr (.inr a12)) else some (.inl (w64 (a12 + 1)))))) else some (.inr (.inl ())))
def d6 (p0:(List bY)) (p1_0:Int):Option Int :=
  ((loop (cQ p0 p1_0) 0).bind fun | .inl _=>some (-1) | .inr rv=>some rv)
theorem oK (p0:(List bY)) (p1_0:Int) (r:Int) (hF:d6 p0 p1_0 = some r):Fun Try.prog 38 false [(2520,0)] [cL 4 ax p0,.c (.fn 39 [.ptr (2520,0)])] (aj [((2520,0),.box [jI p1_0])]) (cI r) (aj [((2520,0),.box [jI p1_0])]):=by
 refine Fun.of_walkM [(2520,0)] (some [(2520,0)]) Try.func38 c38 (by kernel_rfl) (rs:=[.tmp 4]) (by kernel_rfl) rfl rfl rfl ?_; unfold v38
 unfold d6 at hF
 refine wA rfl ?_; refine bX ?_; refine wC 1 rfl ?_; refine rS (lX (tc:=ax) p0 .tree ?_); refine QV rfl ?_; refine qK (fun _ _ h=>h) hF (.inl) (fun a12=>[(0,cL 4 ax p0),(1,.c (.fn 39 [.ptr (2520,0)])),(7,cI (List.length p0:Int)),(8,cI a12)]) (fun a12=>[((2520,0),.box [jI p1_0])]) (fun _=>[]) (fun _=>[((2520,0),.box [jI p1_0])]) sw ?_ ?_
 · rintro ⟨⟩ hF
   refine wA rfl ?_; cases hF
   exact fQ ⟨_,_,xz,_,rfl,rfl,⟨rfl,fun _=>rfl⟩,(AgM.weak ⟨rfl,trivial⟩)⟩
 rintro a12 x_0 hF cont_0 brk_0 fin_0
 unfold cQ at hF
 refine wA rfl ?_; refine bX ?_; refine wIf hF rfl (fun _ hF=>?_) fun _ hF=>?_
 · refine cX ?_; refine bX ?_; refine hZ ?_; refine wA rfl ?_; refine wC 3 rfl ?_; obtain ⟨y17,hy17,hF⟩:=bB hF
   refine rS (oV (tc:=ax) p0 rfl rfl hy17 ?_); refine bW SV 1 rfl ?_; obtain ⟨r18,hr18,hF⟩:=bB hF
   refine z8 trivial (aQz (aUj _ rfl aQY) (EY _ _ _ hr18) ⟨⟨rfl,rfl,rfl,rfl,trivial⟩,⟨_,rfl,⟨rfl,trivial⟩⟩,trivial⟩ rfl (.inl rfl) ?_); refine QV rfl ?_; refine wIf hF rfl (fun _ hF=>?_) fun _ hF=>?_
   · refine wA rfl ?_; have hF:=fin_0 _ (oi hF); cases hF
     exact fQ ⟨_,_,xz,_,rfl,rfl,⟨rfl,fun _=>rfl⟩,(AgM.weak ⟨rfl,trivial⟩)⟩
   refine cX ?_; refine wB rfl ?_; exact cont_0 _ _ _ (oi hF) sw
 refine lq ?_; refine aY ?_; refine aY ?_; refine cW ?_; exact brk_0 _ _ _ (oi hF) sw
def d9 (p0:api_Heap) (p1:Int):Option (Int × Bool) :=
  ((d6 p0.fObjects p1).bind fun r1=>some ((max r1 0),(decide (0≤r1))))
theorem Lx (p0:api_Heap) (p1:Int) (r:(Int × Bool)) (hF:d9 p0 p1 = some r):Fun Try.prog 18 true [] [.agg [jL 4 ax p0.fObjects,jL 1 aV p0.fRoots],cI p1] aZ (.tup [cI r.1,cB r.2]) aZ:=by
 refine Fun.of_walk0 Try.func18 c18 (by kernel_rfl) (rs:=[.tmp 4,.tmp 5]) (by kernel_rfl) ?_; unfold v18
 unfold d9 at hF
 refine wA rfl ?_; refine wC 3 rfl ?_; obtain ⟨r1,hr1,hF⟩:=bB hF
 refine rS (Y9 [((2520,0),(3,0))] rfl (oK _ _ _ hr1) ⟨rfl,trivial⟩ rfl rfl (.inr ⟨.inl rfl,.inl rfl,trivial⟩) ?_); refine QV rfl ?_; refine wA rfl ?_; cases hF
 exact fQ ⟨_,rfl,rfl,⟨⟨rfl,fun _=>rfl⟩,⟨rfl,fun _=>rfl⟩,trivial⟩,aoW _⟩
def oW (p0:api_Heap):List Go.RM.HO:=p0.fObjects.map fun o=>⟨o.fId,o.fSize,o.fType,o.fRefs⟩
theorem w8 (p0:api_Heap):V.agg [jL 4 ax p0.fObjects,jL 1 aV p0.fRoots] = Go.RM.tree51 (oW p0) p0.fRoots:=by
 unfold Go.RM.tree51 oW
 rw [List.map_map]; rfl
theorem pJ (p0:api_Heap):(oW p0).length = p0.fObjects.length:=List.length_map ..
theorem R1 (p0:api_Heap) (e:Int) (he:iX p0 = some e):Go.RM.Base51 (oW p0) p0.fRoots e (d9 p0) :=
  ⟨by rw [← w8]; exact J0 p0 e he,fun id r h=>by rw [← w8]; exact Lx p0 id r h⟩
def JQ (p0:api_Heap):Option ((List Bool) × Int):=Go.RM.reachF (iX p0) (d9 p0) (oW p0) p0.fRoots
theorem TW (p0:api_Heap) (r:((List Bool) × Int)) (hF:JQ p0 = some r):Fun Try.prog 13 true [] [.agg [jL 4 ax p0.fObjects,jL 1 aV p0.fRoots]] aZ (.tup [cL 1 akQ r.1,cI r.2]) aZ:=by
 have h:=Go.RM.reachF_fun (R1 p0) hF true; rw [← w8] at h; exact h
def y5 (p0:api_Heap):Option ((List Int) × Int):=Go.RM.dominatorsF (iX p0) (d9 p0) (oW p0) p0.fRoots
theorem Iz (p0:api_Heap) (r:((List Int) × Int)) (hF:y5 p0 = some r):Fun Try.prog 15 true [] [.agg [jL 4 ax p0.fObjects,jL 1 aV p0.fRoots]] aZ (.tup [cL 1 aV r.1,cI r.2]) aZ:=by
 have h:=Go.RM.dominatorsF_fun (R1 p0) hF true; rw [← w8] at h; exact h
def C0 (p0:api_Heap):Option ((List Int) × Int):=Go.RM.retainedF (iX p0) (d9 p0) (oW p0) p0.fRoots
theorem M0 (p0:api_Heap) (r:((List Int) × Int)) (hF:C0 p0 = some r):Fun Try.prog 16 true [] [.agg [jL 4 ax p0.fObjects,jL 1 aV p0.fRoots]] aZ (.tup [cL 1 aV r.1,cI r.2]) aZ:=by
 have h:=Go.RM.retainedF_fun (R1 p0) hF true; rw [← w8] at h; exact h
def pK (p0:api_Heap) (p1:Int):Option ((List Int) × Int):=Go.RM.pathF (iX p0) (d9 p0) (oW p0) p0.fRoots p1
theorem I0 (p0:api_Heap) (p1:Int) (r:((List Int) × Int)) (hF:pK p0 p1 = some r):Fun Try.prog 7 true [] [.agg [jL 4 ax p0.fObjects,jL 1 aV p0.fRoots],cI p1] aZ (.tup [cL 1 aV r.1,cI r.2]) aZ:=by
 have h:=Go.RM.pathF_fun (R1 p0) hF true; rw [← w8] at h; exact h
def M2 (p0:api_Heap) (p1:Int):Option ((List Int) × Int):=Go.RM.topF (iX p0) (d9 p0) (oW p0) p0.fRoots p1
theorem ZZ (p0:api_Heap) (p1:Int) (r:((List Int) × Int)) (hF:M2 p0 p1 = some r):Fun Try.prog 10 true [] [.agg [jL 4 ax p0.fObjects,jL 1 aV p0.fRoots],cI p1] aZ (.tup [cL 1 aV r.1,cI r.2]) aZ:=by
 have h:=Go.RM.topF_fun (R1 p0) hF true; rw [← w8] at h; exact h
def i4 (p0:(List Int)) (p1:(List Int)):Int→Option (Int ⊕ (Unit ⊕ Bool)):=fun a12 =>
  (bif (decide (a12 < (List.length p0:Int))) then ((idx p0 a12).bind fun y17=>((idx p1 a12).bind fun y18=>(bif (!decide (y17 = y18)) then some (.inr (.inr false)) else some (.inl (w64 (a12 + 1)))))) else some (.inr (.inl ())))
def d0 (p0:(List Int)) (p1:(List Int)):Option Bool :=
  (bif (!decide ((List.length p0:Int) = (List.length p1:Int))) then some false else ((loop (i4 p0 p1) 0).bind fun | .inl _=>some true | .inr rv=>some rv))
theorem iJ (p0:(List Int)) (p1:(List Int)) (r:Bool) (hF:d0 p0 p1 = some r):Fun Try.prog 9 true [] [cL 1 aV p0,cL 1 aV p1] aZ (cB r) aZ:=by
 refine Fun.of_walk0 Try.func9 c9 (by kernel_rfl) (rs:=[.tmp 4]) (by kernel_rfl) ?_; unfold v9
 unfold d0 at hF
 refine wA rfl ?_; refine bX ?_; refine wC 1 rfl ?_; refine rS (lX (tc:=aV) p0 .tree ?_); refine bW SV 1 rfl ?_; refine rS (lX (tc:=aV) p1 .tree ?_); refine QV rfl ?_; refine wIf hF rfl (fun _ hF=>?_) fun _ hF=>?_
 · refine wA rfl ?_; cases hF
   exact fQ wR
 refine cX ?_; refine bX ?_; refine wA rfl ?_; refine qK (fun _ _ h=>h) hF (.inl) (fun a12=>[(0,cL 1 aV p0),(1,cL 1 aV p1),(5,cI a12)]) (fun a12=>[]) (fun _=>[]) (fun _=>[]) sw ?_ ?_
 · rintro ⟨⟩ hF
   refine wA rfl ?_; cases hF
   exact fQ wR
 rintro a12 x_0 hF cont_0 brk_0 fin_0
 unfold i4 at hF
 refine bX ?_; refine wC 2 rfl ?_; refine rS (lX (tc:=aV) p0 .tree ?_); refine QV rfl ?_; refine wIf hF rfl (fun _ hF=>?_) fun _ hF=>?_
 · refine cX ?_; refine bX ?_; refine hZ ?_; refine bX ?_; refine D9 (by decide) (by kernel_rfl) rfl ?_; refine bW SP 2 rfl ?_; obtain ⟨y17,hy17,hF⟩:=bB hF
   refine dj SP trivial (oV (tc:=aV) p0 rfl rfl hy17 ?_); refine bW SP 3 rfl ?_; obtain ⟨y18,hy18,hF⟩:=bB hF
   refine dj SP trivial (oV (tc:=aV) p1 rfl rfl hy18 ?_); refine QP rfl ?_; refine wIf hF rfl (fun _ hF=>?_) fun _ hF=>?_
   · refine wA rfl ?_; have hF:=fin_0 _ (oi hF); cases hF
     exact fQ wR
   refine cX ?_; refine wB rfl ?_; exact cont_0 _ _ _ (oi hF) sw
 refine lq ?_; refine aY ?_; refine aY ?_; refine cW ?_; exact brk_0 _ _ _ (oi hF) sw
def gz  : Option Bool :=
  ((eX ).bind fun r1=>((JQ r1).bind fun r2=>((eX ).bind fun r3=>((y5 r3).bind fun r4=>((eX ).bind fun r5=>((C0 r5).bind fun r6=>((eX ).bind fun r7=>((pK r7 4).bind fun r8=>((eX ).bind fun r9=>((M2 r9 2).bind fun r10=>(((bif (decide ((List.length r2.1:Int) = 4)) then ((idx r2.1 3).bind fun y13=>(bif y13 then (bif (decide (r2.2 = 0)) then ((d0 r4.1 [(-1),0,0,0]).bind fun r16=>(bif r16 then (bif (decide (r4.2 = 0)) then ((d0 r6.1 [40,10,10,10]).bind fun r19=>(bif r19 then (bif (decide (r6.2 = 0)) then ((d0 r8.1 [1,2,4]).bind fun r22=>(bif r22 then (bif (decide (r8.2 = 0)) then ((d0 r10.1 [1,2]).bind fun r25=>(bif r25 then some (decide (r10.2 = 0)) else some false)) else some false) else some false)) else some false) else some false)) else some false) else some false)) else some false) else some false)) else some false):Option Bool).bind fun v11=>some v11)))))))))))
theorem tV  (r:Bool) (hF:gz  = some r):Fun Try.prog 6 true [] [] aZ (cB r) aZ:=by
 refine Fun.of_walk0 Try.func6 c6 (by kernel_rfl) (rs:=[.tmp 0]) (by kernel_rfl) ?_; unfold v6
 unfold gz at hF
 refine wA rfl ?_; refine wE ?_; obtain ⟨r1,hr1,hF⟩:=bB hF
 refine z8 trivial (Cz [((902,560),(12,1)),((902,561),(12,2))] rfl (PZ _) (gX _ hr1) trivial trivial rfl rfl rfl ?_); obtain ⟨r2,hr2,hF⟩:=bB hF
 refine rS (fK (TW _ _ hr2) ⟨⟨⟨_,rfl⟩,⟨_,rfl⟩,trivial⟩,trivial⟩ rfl (.inl rfl) ?_); refine QV rfl ?_; refine wE ?_; obtain ⟨r3,hr3,hF⟩:=bB hF
 refine z8 trivial (Cz [((902,560),(17,1)),((902,561),(17,2))] rfl (PZ _) (gX _ hr3) trivial trivial rfl rfl rfl ?_); obtain ⟨r4,hr4,hF⟩:=bB hF
 refine rS (fK (Iz _ _ hr4) ⟨⟨⟨_,rfl⟩,⟨_,rfl⟩,trivial⟩,trivial⟩ rfl (.inl rfl) ?_); refine QV rfl ?_; refine wE ?_; obtain ⟨r5,hr5,hF⟩:=bB hF
 refine z8 trivial (Cz [((902,560),(22,1)),((902,561),(22,2))] rfl (PZ _) (gX _ hr5) trivial trivial rfl rfl rfl ?_); obtain ⟨r6,hr6,hF⟩:=bB hF
 refine rS (fK (M0 _ _ hr6) ⟨⟨⟨_,rfl⟩,⟨_,rfl⟩,trivial⟩,trivial⟩ rfl (.inl rfl) ?_); refine QV rfl ?_; refine wE ?_; obtain ⟨r7,hr7,hF⟩:=bB hF
 refine z8 trivial (Cz [((902,560),(27,1)),((902,561),(27,2))] rfl (PZ _) (gX _ hr7) trivial trivial rfl rfl rfl ?_); obtain ⟨r8,hr8,hF⟩:=bB hF
 refine rS (fK (I0 _ _ _ hr8) ⟨⟨⟨_,rfl⟩,⟨_,rfl⟩,trivial⟩,rfl,trivial⟩ rfl (.inl rfl) ?_); refine QV rfl ?_; refine wE ?_; obtain ⟨r9,hr9,hF⟩:=bB hF
 refine z8 trivial (Cz [((902,560),(32,1)),((902,561),(32,2))] rfl (PZ _) (gX _ hr9) trivial trivial rfl rfl rfl ?_); obtain ⟨r10,hr10,hF⟩:=bB hF
 refine rS (fK (ZZ _ _ _ hr10) ⟨⟨⟨_,rfl⟩,⟨_,rfl⟩,trivial⟩,rfl,trivial⟩ rfl (.inl rfl) ?_); refine QV rfl ?_; refine bX ?_; refine l7 (fun _ _ h=>h) hF (fun v11=>[(0,cB v11)]) (fun v11=>[]) ?_ ?_
 · rintro v11 hF
   cases hF
   exact fQ wR
 intro join hF
 refine wD 1 rfl ?_; refine rS (lX (tc:=akQ) r2.1 .tree ?_); refine bW SV 2 rfl ?_; cases h12:(decide ((List.length r2.1:Int) = 4))
 · have hF:=bF' h12 hF; refine QV rfl ?_; exact join false _ _ hF sw
 have hF:=bT' h12 hF; refine bW SV 1 rfl ?_; obtain ⟨y13,hy13,hF⟩:=bB' hF
 refine dj SV rfl (oV (tc:=akQ) r2.1 rfl rfl hy13 ?_); refine bW SV 3 rfl ?_; cases h14:y13
 · have hF:=bF' h14 hF; refine QV rfl ?_; exact join false _ _ hF sw
 have hF:=bT' h14 hF; refine bW SV 4 rfl ?_; cases h15:(decide (r2.2 = 0))
 · have hF:=bF' h15 hF; refine QV rfl ?_; exact join false _ _ hF sw
 have hF:=bT' h15 hF; refine bW SV 1 rfl ?_; refine dj SV rfl (I1 (tc:=aV) [(-1),0,0,0] rfl ⟨rfl,rfl,rfl,rfl,trivial⟩ rfl (fun _=>rfl) rfl ?_)
 obtain ⟨r16,hr16,hF⟩:=bB' hF
 refine dj SV rfl (fK (iJ _ _ _ hr16) ⟨rfl,⟨_,rfl⟩,trivial⟩ rfl (.inl rfl) ?_); refine bW SV 2 rfl ?_; cases h17:r16
 · have hF:=bF' h17 hF; refine QV rfl ?_; exact join false _ _ hF sw
 have hF:=bT' h17 hF; refine bW SV 4 rfl ?_; cases h18:(decide (r4.2 = 0))
 · have hF:=bF' h18 hF; refine QV rfl ?_; exact join false _ _ hF sw
 have hF:=bT' h18 hF; refine bW SV 1 rfl ?_; refine dj SV rfl (I1 (tc:=aV) [40,10,10,10] rfl ⟨rfl,rfl,rfl,rfl,trivial⟩ rfl (fun _=>rfl) rfl ?_)
 obtain ⟨r19,hr19,hF⟩:=bB' hF
 refine dj SV rfl (fK (iJ _ _ _ hr19) ⟨rfl,⟨_,rfl⟩,trivial⟩ rfl (.inl rfl) ?_); refine bW SV 2 rfl ?_; cases h20:r19
 · have hF:=bF' h20 hF; refine QV rfl ?_; exact join false _ _ hF sw
 have hF:=bT' h20 hF; refine bW SV 4 rfl ?_; cases h21:(decide (r6.2 = 0))
 · have hF:=bF' h21 hF; refine QV rfl ?_; exact join false _ _ hF sw
 have hF:=bT' h21 hF; refine bW SV 1 rfl ?_; refine dj SV rfl (I1 (tc:=aV) [1,2,4] rfl ⟨rfl,rfl,rfl,trivial⟩ rfl (fun _=>rfl) rfl ?_)
 obtain ⟨r22,hr22,hF⟩:=bB' hF
 refine dj SV rfl (fK (iJ _ _ _ hr22) ⟨rfl,⟨_,rfl⟩,trivial⟩ rfl (.inl rfl) ?_); refine bW SV 2 rfl ?_; cases h23:r22
 · have hF:=bF' h23 hF; refine QV rfl ?_; exact join false _ _ hF sw
 have hF:=bT' h23 hF; refine bW SV 4 rfl ?_; cases h24:(decide (r8.2 = 0))
 · have hF:=bF' h24 hF; refine QV rfl ?_; exact join false _ _ hF sw
 have hF:=bT' h24 hF; refine bW SV 1 rfl ?_; refine dj SV rfl (I1 (tc:=aV) [1,2] rfl ⟨rfl,rfl,trivial⟩ rfl (fun _=>rfl) rfl ?_)
 obtain ⟨r25,hr25,hF⟩:=bB' hF
 refine dj SV rfl (fK (iJ _ _ _ hr25) ⟨rfl,⟨_,rfl⟩,trivial⟩ rfl (.inl rfl) ?_); refine bW SV 2 rfl ?_; cases h26:r25
 · have hF:=bF' h26 hF; refine QV rfl ?_; exact join false _ _ hF sw
 have hF:=bT' h26 hF; refine QV rfl ?_; exact join (decide (r10.2 = 0)) _ _ hF sw
def uQ (p0:Int):Int→Option (Int ⊕ (Unit ⊕ Bool)):=fun a11 =>
  (bif (decide (a11 < (ByteArray.size (⟨#[95,46,58,47,60,62,36,42,126,45]⟩ : ByteArray):Int))) then ((idx (ByteArray.data (⟨#[95,46,58,47,60,62,36,42,126,45]⟩ : ByteArray)).toList a11).bind fun y15=>(bif (decide ((UInt8.toNat y15:Int) = p0)) then some (.inr (.inr true)) else some (.inl (w64 (a11 + 1))))) else some (.inr (.inl ())))
def kQ (p0:Int):Option Bool :=
  (((bif (decide (97≤p0)) then (bif (decide (p0≤122)) then some true else (bif (decide (65≤p0)) then (bif (decide (p0≤90)) then some true else (bif (decide (48≤p0)) then some (decide (p0≤57)) else some false)) else (bif (decide (48≤p0)) then some (decide (p0≤57)) else some false))) else (bif (decide (65≤p0)) then (bif (decide (p0≤90)) then some true else (bif (decide (48≤p0)) then some (decide (p0≤57)) else some false)) else (bif (decide (48≤p0)) then some (decide (p0≤57)) else some false))):Option Bool).bind fun v1=>(bif v1 then some true else ((loop (uQ p0) 0).bind fun | .inl _=>some false | .inr rv=>some rv)))
theorem BW (p0:Int) (r:Bool) (hF:kQ p0 = some r):Fun Try.prog 51 true [] [.c (.imm (.sc (.int .u8 p0)))] aZ (cB r) aZ:=by
 refine Fun.of_walk0 Try.func51 c51 (by kernel_rfl) (rs:=[.tmp 2]) (by kernel_rfl) ?_; unfold v51
 unfold kQ at hF
 refine wA rfl ?_; refine bX ?_; refine bX ?_; refine l7 (fun _ _ h=>h) hF (fun v1=>[(0,.c (.imm (.sc (.int .u8 p0)))),(26,cB v1)]) (fun v1=>[]) ?_ ?_
 · rintro v1 hF
   refine wIf hF rfl (fun _ hF=>?_) fun _ hF=>?_
   · refine wA rfl ?_; cases hF
     exact fQ wR
   refine cX ?_; refine wA rfl ?_; refine bX ?_; refine wA rfl ?_; refine qK (fun _ _ h=>h) hF (.inl) (fun a11=>[(0,.c (.imm (.sc (.int .u8 p0)))),(3,.c (jS (⟨#[95,46,58,47,60,62,36,42,126,45]⟩ : ByteArray))),(4,cI a11)]) (fun a11=>[]) (fun _=>[]) (fun _=>[]) sw ?_ ?_
   · rintro ⟨⟩ hF
     refine wA rfl ?_; cases hF
     exact fQ wR
   rintro a11 x_0 hF cont_0 brk_0 fin_0
   unfold uQ at hF
   refine bX ?_; refine wA rfl ?_; refine wIf hF rfl (fun _ hF=>?_) fun _ hF=>?_
   · refine cX ?_; refine bX ?_; refine hZ ?_; refine wC 2 rfl ?_; obtain ⟨y15,hy15,hF⟩:=bB hF
     refine rS (aCq (⟨#[95,46,58,47,60,62,36,42,126,45]⟩ : ByteArray) rfl rfl hy15 ?_); refine QV rfl ?_; refine wIf hF rfl (fun _ hF=>?_) fun _ hF=>?_
     · refine wA rfl ?_; have hF:=fin_0 _ (oi hF); cases hF
       exact fQ wR
     refine cX ?_; refine wB rfl ?_; exact cont_0 _ _ _ (oi hF) sw
   refine lq ?_; refine aY ?_; refine aY ?_; refine cW ?_; exact brk_0 _ _ _ (oi hF) sw
 intro join hF
 refine wD 3 rfl ?_; cases h19:(decide (97≤p0))
 · have hF:=bF' h19 hF; refine bW SV 7 rfl ?_; cases h20:(decide (65≤p0))
   · have hF:=bF' h20 hF; refine bW SV 8 rfl ?_; cases h21:(decide (48≤p0))
     · have hF:=bF' h21 hF; refine QV rfl ?_; exact join false _ _ hF sw
     have hF:=bT' h21 hF; refine QV rfl ?_; exact join (decide (p0≤57)) _ _ hF sw
   have hF:=bT' h20 hF; refine bW SV 5 rfl ?_; cases h22:(decide (p0≤90))
   · have hF:=bF' h22 hF; refine bW SV 3 rfl ?_; cases h23:(decide (48≤p0))
     · have hF:=bF' h23 hF; refine QV rfl ?_; exact join false _ _ hF sw
     have hF:=bT' h23 hF; refine QV rfl ?_; exact join (decide (p0≤57)) _ _ hF sw
   have hF:=bT' h22 hF; refine QV rfl ?_; exact join true _ _ hF sw
 have hF:=bT' h19 hF; refine bW SV 4 rfl ?_; cases h24:(decide (p0≤122))
 · have hF:=bF' h24 hF; refine bW SV 3 rfl ?_; cases h25:(decide (65≤p0))
   · have hF:=bF' h25 hF; refine bW SV 8 rfl ?_; cases h26:(decide (48≤p0))
     · have hF:=bF' h26 hF; refine QV rfl ?_; exact join false _ _ hF sw
     have hF:=bT' h26 hF; refine QV rfl ?_; exact join (decide (p0≤57)) _ _ hF sw
   have hF:=bT' h25 hF; refine bW SV 5 rfl ?_; cases h27:(decide (p0≤90))
   · have hF:=bF' h27 hF; refine bW SV 3 rfl ?_; cases h28:(decide (48≤p0))
     · have hF:=bF' h28 hF; refine QV rfl ?_; exact join false _ _ hF sw
     have hF:=bT' h28 hF; refine QV rfl ?_; exact join (decide (p0≤57)) _ _ hF sw
   have hF:=bT' h27 hF; refine QV rfl ?_; exact join true _ _ hF sw
 have hF:=bT' h24 hF; refine QV rfl ?_; exact join true _ _ hF sw
def mZ (p0:ByteArray):Int→Option (Int ⊕ (Unit ⊕ Int)):=fun a13 =>
  (bif (decide (a13 < (ByteArray.size p0:Int))) then ((idx (ByteArray.data p0).toList a13).bind fun y18=>((kQ (UInt8.toNat y18:Int)).bind fun r19=>(bif (!r19) then some (.inr (.inr 3)) else some (.inl (w64 (a13 + 1)))))) else some (.inr (.inl ())))
def j5 (p0:ByteArray):Option Int :=
  (((bif (decide ((ByteArray.size p0:Int) < 1)) then some true else some (decide (40 < (ByteArray.size p0:Int)))):Option Bool).bind fun v1=>(bif v1 then some 3 else ((loop (mZ p0) 0).bind fun | .inl _=>some 0 | .inr rv=>some rv)))
theorem DW (p0:ByteArray) (r:Int) (hF:j5 p0 = some r):Fun Try.prog 42 true [] [.c (jS p0)] aZ (cI r) aZ:=by
 refine Fun.of_walk0 Try.func42 c42 (by kernel_rfl) (rs:=[.tmp 2]) (by kernel_rfl) ?_; unfold v42
 unfold j5 at hF
 refine wA rfl ?_; refine bX ?_; refine bX ?_; refine l7 (fun _ _ h=>h) hF (fun v1=>[(0,.c (jS p0)),(11,cB v1)]) (fun v1=>[]) ?_ ?_
 · rintro v1 hF
   refine wIf hF rfl (fun _ hF=>?_) fun _ hF=>?_
   · refine wA rfl ?_; cases hF
     exact fQ wR
   refine cX ?_; refine bX ?_; refine wA rfl ?_; refine qK (fun _ _ h=>h) hF (.inl) (fun a13=>[(0,.c (jS p0)),(3,cI a13)]) (fun a13=>[]) (fun _=>[]) (fun _=>[]) sw ?_ ?_
   · rintro ⟨⟩ hF
     refine wA rfl ?_; cases hF
     exact fQ wR
   rintro a13 x_0 hF cont_0 brk_0 fin_0
   unfold mZ at hF
   refine bX ?_; refine wA rfl ?_; refine wIf hF rfl (fun _ hF=>?_) fun _ hF=>?_
   · refine cX ?_; refine bX ?_; refine hZ ?_; refine wC 2 rfl ?_; obtain ⟨y18,hy18,hF⟩:=bB hF
     refine rS (aCq p0 rfl rfl hy18 ?_); obtain ⟨r19,hr19,hF⟩:=bB hF
     refine rS (fK (BW _ _ hr19) ⟨rfl,trivial⟩ rfl (.inl rfl) ?_); refine QV rfl ?_; refine wIf hF rfl (fun _ hF=>?_) fun _ hF=>?_
     · refine wA rfl ?_; have hF:=fin_0 _ (oi hF); cases hF
       exact fQ wR
     refine cX ?_; refine wB rfl ?_; exact cont_0 _ _ _ (oi hF) sw
   refine lq ?_; refine aY ?_; refine aY ?_; refine cW ?_; exact brk_0 _ _ _ (oi hF) sw
 intro join hF
 refine wD 4 rfl ?_; cases h23:(decide ((ByteArray.size p0:Int) < 1))
 · have hF:=bF' h23 hF; refine QV rfl ?_; exact join (decide (40 < (ByteArray.size p0:Int))) _ _ hF sw
 have hF:=bT' h23 hF; refine QV rfl ?_; exact join true _ _ hF sw
def jV (p0:api_Heap) (p1:Int):Int→Option (Int ⊕ (Unit ⊕ (Int × Bool))):=fun a10 =>
  (bif (decide (a10 < (List.length p0.fObjects:Int))) then ((idx p0.fObjects a10).bind fun y14=>(bif (decide (y14.fId = p1)) then some (.inr (.inr (a10,true))) else some (.inl (w64 (a10 + 1))))) else some (.inr (.inl ())))
def j0 (p0:api_Heap) (p1:Int):Option (Int × Bool) :=
  ((loop (jV p0 p1) 0).bind fun | .inl _=>some (0,false) | .inr rv=>some rv)
theorem vQ (p0:api_Heap) (p1:Int) (r:(Int × Bool)) (hF:j0 p0 p1 = some r):Fun Try.prog 24 true [] [.agg [jL 4 ax p0.fObjects,jL 1 aV p0.fRoots],cI p1] aZ (.tup [cI r.1,cB r.2]) aZ:=by
 refine Fun.of_walk0 Try.func24 c24 (by kernel_rfl) (rs:=[.tmp 4,.tmp 5]) (by kernel_rfl) ?_; unfold v24
 unfold j0 at hF
 refine wA rfl ?_; refine bX ?_; refine wA rfl ?_; refine qK (fun _ _ h=>h) hF (.inl) (fun a10=>[(1,cI p1),(2,cP (2,0) 0),(6,cI a10)]) (fun a10=>[((2,0),.box [jL 4 ax p0.fObjects,jL 1 aV p0.fRoots])]) (fun _=>[]) (fun _=>[]) sw ?_ ?_
 · rintro ⟨⟩ hF
   refine wA rfl ?_; cases hF
   exact fQ ⟨_,rfl,rfl,⟨⟨rfl,fun _=>rfl⟩,⟨rfl,fun _=>rfl⟩,trivial⟩,aoW _⟩
 rintro a10 x_0 hF cont_0 brk_0 fin_0
 unfold jV at hF
 refine bX ?_; refine wC 3 rfl ?_; refine rS (lX (tc:=ax) p0.fObjects .tree ?_); refine QV rfl ?_; refine wIf hF rfl (fun _ hF=>?_) fun _ hF=>?_
 · refine cX ?_; refine bX ?_; refine hZ ?_; refine wC 3 rfl ?_; obtain ⟨y14,hy14,hF⟩:=bB hF
   refine rS (oV (tc:=ax) p0.fObjects rfl rfl hy14 ?_); refine QV rfl ?_; refine wIf hF rfl (fun _ hF=>?_) fun _ hF=>?_
   · refine wA rfl ?_; have hF:=fin_0 _ (oi hF); cases hF
     exact fQ ⟨_,rfl,rfl,⟨⟨rfl,fun _=>rfl⟩,⟨rfl,fun _=>rfl⟩,trivial⟩,aoW _⟩
   refine cX ?_; refine wB rfl ?_; exact cont_0 _ _ _ (oi hF) sw
 refine lq ?_; refine aY ?_; refine aY ?_; refine cW ?_; exact brk_0 _ _ _ (oi hF) sw
def jQ (p0:api_Heap) (p1:(List Int)):Int→Option (Int ⊕ (Unit ⊕ Int)):=fun a22 =>
  (bif (decide (a22 < (List.length p1:Int))) then ((idx p1 a22).bind fun y32=>((j0 p0 y32).bind fun r33=>(bif (!r33.2) then some (.inr (.inr 5)) else (((bif (decide (0 < a22)) then ((idx p1 a22).bind fun y37=>((idx p1 (w64 (a22 - 1))).bind fun y38=>some (decide (y37≤y38)))) else some false):Option Bool).bind fun v34=>(bif v34 then some (.inr (.inr 11)) else some (.inl (w64 (a22 + 1)))))))) else some (.inr (.inl ())))
def j6 (p0:api_Heap) (p1:(List Int)):Option Int :=
  ((loop (jQ p0 p1) 0).bind fun | .inl _=>some 0 | .inr rv=>some rv)
theorem vj (p0:api_Heap) (p1:(List Int)) (r:Int) (hF:j6 p0 p1 = some r):Fun Try.prog 43 true [] [.agg [jL 4 ax p0.fObjects,jL 1 aV p0.fRoots],cL 1 aV p1] aZ (cI r) aZ:=by
 refine Fun.of_walk0 Try.func43 c43 (by kernel_rfl) (rs:=[.tmp 4]) (by kernel_rfl) ?_; unfold v43
 unfold j6 at hF
 refine wA rfl ?_; refine bX ?_; refine wA rfl ?_; refine qK (fun _ _ h=>h) hF (.inl) (fun a22=>[(1,cL 1 aV p1),(2,cP (2,0) 0),(5,cI a22)]) (fun a22=>[((2,0),.box [jL 4 ax p0.fObjects,jL 1 aV p0.fRoots])]) (fun _=>[]) (fun _=>[]) sw ?_ ?_
 · rintro ⟨⟩ hF
   refine wA rfl ?_; cases hF
   exact fQ wR
 rintro a22 x_0 hF cont_0 brk_0 fin_0
 unfold jQ at hF
 refine bX ?_; refine wC 2 rfl ?_; refine rS (lX (tc:=aV) p1 .tree ?_); refine QV rfl ?_; refine wIf hF rfl (fun _ hF=>?_) fun _ hF=>?_
 · refine cX ?_; refine bX ?_; refine hZ ?_; refine bX ?_; refine D9 (by decide) (by kernel_rfl) rfl ?_; refine bW SP 3 rfl ?_; obtain ⟨y32,hy32,hF⟩:=bB hF
   refine dj SP trivial (oV (tc:=aV) p1 rfl rfl hy32 ?_); refine bW SP 1 rfl ?_; obtain ⟨r33,hr33,hF⟩:=bB hF
   refine dj SP trivial (fK (vQ _ _ _ hr33) ⟨⟨rfl,rfl,trivial⟩,rfl,trivial⟩ rfl (.inl rfl) ?_); refine QP rfl ?_; refine bX ?_; refine wA rfl ?_; refine wIf hF rfl (fun _ hF=>?_) fun _ hF=>?_
   · refine wA rfl ?_; have hF:=fin_0 _ (oi hF); cases hF
     exact fQ wR
   refine cX ?_; refine bX ?_; refine l7 (fun _ _ h=>h) hF (fun v34=>[(1,cL 1 aV p1),(2,cP (2,0) 0),(5,cI a22),(38,cB v34)]) (fun v34=>[((2,0),.box [jL 4 ax p0.fObjects,jL 1 aV p0.fRoots])]) ?_ ?_
   · rintro v34 hF
     refine wIf hF rfl (fun _ hF=>?_) fun _ hF=>?_
     · refine wA rfl ?_; have hF:=fin_0 _ (oi hF); cases hF
       exact fQ wR
     refine cX ?_; refine wB rfl ?_; exact cont_0 _ _ _ (oi hF) sw
   intro join hF
   refine D9 (by decide) (by kernel_rfl) rfl ?_; refine bW SP 3 rfl ?_; cases h36:(decide (0 < a22))
   · have hF:=bF' h36 hF; refine QP rfl ?_; exact join false _ _ hF sw
   have hF:=bT' h36 hF; refine bW SP 2 rfl ?_; obtain ⟨y37,hy37,hF⟩:=bB' hF
   refine dj SP rfl (oV (tc:=aV) p1 rfl rfl hy37 ?_); refine bW SP 4 rfl ?_; obtain ⟨y38,hy38,hF⟩:=bB' hF
   refine dj SP rfl (oV (tc:=aV) p1 rfl rfl hy38 ?_); refine QP rfl ?_; exact join (decide (y37≤y38)) _ _ hF sw
 refine lq ?_; refine aY ?_; refine aY ?_; refine cW ?_; exact brk_0 _ _ _ (oi hF) sw
def i5 (p0:api_Heap):Int→Option (Int ⊕ (Unit ⊕ Int)):=fun a71 =>
  (bif (decide (a71 < (List.length p0.fObjects:Int))) then ((idx p0.fObjects a71).bind fun y77=>((j6 p0 y77.fRefs).bind fun r78=>(bif (!decide (r78 = 0)) then some (.inr (.inr r78)) else some (.inl (w64 (a71 + 1)))))) else some (.inr (.inl ())))
def i6 (p0:api_Heap):Int→Option (Int ⊕ (Unit ⊕ Int)):=fun a46 =>
  (bif (decide (a46 < (List.length p0.fObjects:Int))) then ((idx p0.fObjects a46).bind fun y81=>(((bif (decide (y81.fId < 0)) then some true else (bif (decide (1000000000000000 < y81.fId)) then some true else (bif (decide (y81.fSize < 0)) then some true else some (decide (1000000000000 < y81.fSize))))):Option Bool).bind fun v82=>(bif v82 then some (.inr (.inr 2)) else ((j5 y81.fType).bind fun r83=>(bif (!decide (r83 = 0)) then some (.inr (.inr 3)) else (((bif (decide (0 < a46)) then ((idx p0.fObjects (w64 (a46 - 1))).bind fun y87=>some (decide (y81.fId≤y87.fId))) else some false):Option Bool).bind fun v84=>(bif v84 then some (.inr (.inr 11)) else some (.inl (w64 (a46 + 1)))))))))) else some (.inr (.inl ())))
def o8 (p0:api_Heap):(Int × Int)→Option ((Int × Int) ⊕ Int):=fun (a11,a12) =>
  (bif (decide (a12 < (List.length p0.fObjects:Int))) then ((idx p0.fObjects a12).bind fun y97=>some (.inl ((w64 (a11 + (List.length y97.fRefs:Int))),(w64 (a12 + 1))))) else some (.inr a11))
def lj (p0:api_Heap):Option Int :=
  ((loop (o8 p0) (0,0)).bind fun e15=>(((bif (decide (5000 < (List.length p0.fObjects:Int))) then some true else (bif (decide (20000 < e15)) then some true else some (decide (5000 < (List.length p0.fRoots:Int))))):Option Bool).bind fun v16=>(bif v16 then some 7 else ((loop (i6 p0) 0).bind fun | .inl _=>((loop (i5 p0) 0).bind fun | .inl _=>((j6 p0 p0.fRoots).bind fun r76=>some r76) | .inr rv=>some rv) | .inr rv=>some rv))))
theorem C3 (p0:api_Heap) (r:Int) (hF:lj p0 = some r):Fun Try.prog 23 true [] [.agg [jL 4 ax p0.fObjects,jL 1 aV p0.fRoots]] aZ (cI r) aZ:=by
 refine Fun.of_walk0 Try.func23 c23 (by kernel_rfl) (rs:=[.tmp 2]) (by kernel_rfl) ?_; unfold v23
 unfold lj at hF
 refine wA rfl ?_; refine wA rfl ?_; refine bX ?_; refine wA rfl ?_; refine qK (fun _ _ h=>h) hF (id) (fun (a11,a12)=>[(1,cP (1,0) 0),(3,cI a11),(4,cI a12)]) (fun (a11,a12)=>[((1,0),.box [jL 4 ax p0.fObjects,jL 1 aV p0.fRoots])]) (fun e15=>[(1,cP (1,0) 0),(3,cI e15)]) (fun e15=>[((1,0),.box [jL 4 ax p0.fObjects,jL 1 aV p0.fRoots])]) sw ?_ ?_
 · rintro e15 hF
   refine bX ?_; refine bX ?_; refine l7 (fun _ _ h=>h) hF (fun v16=>[(1,cP (1,0) 0),(38,cB v16)]) (fun v16=>[((1,0),.box [jL 4 ax p0.fObjects,jL 1 aV p0.fRoots])]) ?_ ?_
   · rintro v16 hF
     refine wIf hF rfl (fun _ hF=>?_) fun _ hF=>?_
     · refine wA rfl ?_; cases hF
       exact fQ wR
     refine cX ?_; refine bX ?_; refine wA rfl ?_; refine qK (fun _ _ h=>h) hF (.inl) (fun a46=>[(1,cP (1,0) 0),(5,cI a46)]) (fun a46=>[((1,0),.box [jL 4 ax p0.fObjects,jL 1 aV p0.fRoots])]) (fun _=>[(1,cP (1,0) 0)]) (fun _=>[((1,0),.box [jL 4 ax p0.fObjects,jL 1 aV p0.fRoots])]) sw ?_ ?_
     · rintro ⟨⟩ hF
       refine bX ?_; refine wA rfl ?_; refine qK (fun _ _ h=>h) hF (.inl) (fun a71=>[(1,cP (1,0) 0),(7,cI a71)]) (fun a71=>[((1,0),.box [jL 4 ax p0.fObjects,jL 1 aV p0.fRoots])]) (fun _=>[(1,cP (1,0) 0)]) (fun _=>[((1,0),.box [jL 4 ax p0.fObjects,jL 1 aV p0.fRoots])]) sw ?_ ?_
       · rintro ⟨⟩ hF
         refine wC 3 rfl ?_; obtain ⟨r76,hr76,hF⟩:=bB hF
         refine rS (fK (vj _ _ _ hr76) ⟨⟨rfl,rfl,trivial⟩,rfl,trivial⟩ rfl (.inl rfl) ?_); refine QV rfl ?_; cases hF
         exact fQ wR
       rintro a71 x_0 hF cont_0 brk_0 fin_0
       unfold i5 at hF
       refine bX ?_; refine wC 3 rfl ?_; refine rS (lX (tc:=ax) p0.fObjects .tree ?_); refine QV rfl ?_; refine wIf hF rfl (fun _ hF=>?_) fun _ hF=>?_
       · refine cX ?_; refine bX ?_; refine hZ ?_; refine bX ?_; refine D9 (by decide) (by kernel_rfl) rfl ?_; refine bW SP 4 rfl ?_; obtain ⟨y77,hy77,hF⟩:=bB hF
         refine dj SP trivial (oV (tc:=ax) p0.fObjects rfl rfl hy77 ?_); refine bW SP 2 rfl ?_; obtain ⟨r78,hr78,hF⟩:=bB hF
         refine dj SP trivial (fK (vj _ _ _ hr78) ⟨⟨rfl,rfl,trivial⟩,rfl,trivial⟩ rfl (.inl rfl) ?_); refine QP rfl ?_; refine wA rfl ?_; refine wIf hF rfl (fun _ hF=>?_) fun _ hF=>?_
         · refine wA rfl ?_; have hF:=fin_0 _ (oi hF); cases hF
           exact fQ wR
         refine cX ?_; refine wB rfl ?_; exact cont_0 _ _ _ (oi hF) sw
       refine lq ?_; refine aY ?_; refine aY ?_; refine cW ?_; exact brk_0 _ _ _ (oi hF) sw
     rintro a46 x_0 hF cont_0 brk_0 fin_0
     unfold i6 at hF
     refine bX ?_; refine wC 3 rfl ?_; refine rS (lX (tc:=ax) p0.fObjects .tree ?_); refine QV rfl ?_; refine wIf hF rfl (fun _ hF=>?_) fun _ hF=>?_
     · refine cX ?_; refine bX ?_; refine hZ ?_; refine wC 3 rfl ?_; obtain ⟨y81,hy81,hF⟩:=bB hF
       refine rS (oV (tc:=ax) p0.fObjects rfl rfl hy81 ?_); refine QV rfl ?_; refine bX ?_; refine bX ?_; refine l7 (fun _ _ h=>h) hF (fun v82=>[(1,cP (1,0) 0),(5,cI a46),(6,cP (6,0) 0),(68,cB v82)]) (fun v82=>[((1,0),.box [jL 4 ax p0.fObjects,jL 1 aV p0.fRoots]),((6,0),.box (z7 y81))]) ?_ ?_
       · rintro v82 hF
         refine wIf hF rfl (fun _ hF=>?_) fun _ hF=>?_
         · refine wA rfl ?_; have hF:=fin_0 _ (oi hF); cases hF
           exact fQ wR
         refine cX ?_; refine bX ?_; refine wC 2 rfl ?_; obtain ⟨r83,hr83,hF⟩:=bB hF
         refine rS (fK (DW _ _ hr83) ⟨rfl,trivial⟩ rfl (.inl rfl) ?_); refine QV rfl ?_; refine wIf hF rfl (fun _ hF=>?_) fun _ hF=>?_
         · refine wA rfl ?_; have hF:=fin_0 _ (oi hF); cases hF
           exact fQ wR
         refine cX ?_; refine bX ?_; refine l7 (fun _ _ h=>h) hF (fun v84=>[(1,cP (1,0) 0),(5,cI a46),(86,cB v84)]) (fun v84=>[((1,0),.box [jL 4 ax p0.fObjects,jL 1 aV p0.fRoots])]) ?_ ?_
         · rintro v84 hF
           refine wIf hF rfl (fun _ hF=>?_) fun _ hF=>?_
           · refine wA rfl ?_; have hF:=fin_0 _ (oi hF); cases hF
             exact fQ wR
           refine cX ?_; refine wB rfl ?_; exact cont_0 _ _ _ (oi hF) sw
         intro join hF
         refine D9 (by decide) (by kernel_rfl) rfl ?_; refine bW SP 3 rfl ?_; cases h86:(decide (0 < a46))
         · have hF:=bF' h86 hF; refine QP rfl ?_; exact join false _ _ hF sw
         have hF:=bT' h86 hF; refine bW SP 6 rfl ?_; obtain ⟨y87,hy87,hF⟩:=bB' hF
         refine dj SP rfl (oV (tc:=ax) p0.fObjects rfl rfl hy87 ?_); refine QP rfl ?_; exact join (decide (y81.fId≤y87.fId)) _ _ hF sw
       intro join hF
       refine wD 4 rfl ?_; cases h90:(decide (y81.fId < 0))
       · have hF:=bF' h90 hF; refine bW SV 5 rfl ?_; cases h91:(decide (1000000000000000 < y81.fId))
         · have hF:=bF' h91 hF; refine bW SV 5 rfl ?_; cases h92:(decide (y81.fSize < 0))
           · have hF:=bF' h92 hF; refine QV rfl ?_; exact join (decide (1000000000000 < y81.fSize)) _ _ hF sw
           have hF:=bT' h92 hF; refine QV rfl ?_; exact join true _ _ hF sw
         have hF:=bT' h91 hF; refine QV rfl ?_; exact join true _ _ hF sw
       have hF:=bT' h90 hF; refine QV rfl ?_; exact join true _ _ hF sw
     refine lq ?_; refine aY ?_; refine aY ?_; refine cW ?_; exact brk_0 _ _ _ (oi hF) sw
   intro join hF
   refine wD 2 rfl ?_; refine rS (lX (tc:=ax) p0.fObjects .tree ?_); refine bW SV 2 rfl ?_; cases h95:(decide (5000 < (List.length p0.fObjects:Int)))
   · have hF:=bF' h95 hF; refine bW SV 4 rfl ?_; cases h96:(decide (20000 < e15))
     · have hF:=bF' h96 hF; refine bW SV 2 rfl ?_; refine dj SV rfl (lX (tc:=aV) p0.fRoots .tree ?_); refine QV rfl ?_; exact join (decide (5000 < (List.length p0.fRoots:Int))) _ _ hF sw
     have hF:=bT' h96 hF; refine QV rfl ?_; exact join true _ _ hF sw
   have hF:=bT' h95 hF; refine QV rfl ?_; exact join true _ _ hF sw
 rintro ⟨a11,a12⟩ x_0 hF cont_0 brk_0 fin_0
 unfold o8 at hF
 refine bX ?_; refine wC 3 rfl ?_; refine rS (lX (tc:=ax) p0.fObjects .tree ?_); refine QV rfl ?_; refine wIf hF rfl (fun _ hF=>?_) fun _ hF=>?_
 · refine cX ?_; refine bX ?_; refine hZ ?_; refine wD 4 rfl ?_; obtain ⟨y97,hy97,hF⟩:=bB hF
   refine rS (oV (tc:=ax) p0.fObjects rfl rfl hy97 ?_); refine bW SV 2 rfl ?_; refine rS (lX (tc:=aV) y97.fRefs .tree ?_); refine QV rfl ?_; refine wB rfl ?_; exact cont_0 _ _ _ (oi hF) sw
 refine lq ?_; refine aY ?_; refine aY ?_; refine cW ?_; exact brk_0 _ _ _ (oi hF) sw
def kJ (p0:(List Int)) (p1:Int):Int→Option (Int ⊕ (Unit ⊕ Bool)):=fun a10 =>
  (bif (decide (a10 < (List.length p0:Int))) then ((idx p0 a10).bind fun y14=>(bif (decide (y14 = p1)) then some (.inr (.inr true)) else some (.inl (w64 (a10 + 1))))) else some (.inr (.inl ())))
def gj (p0:(List Int)) (p1:Int):Option Bool :=
  ((loop (kJ p0 p1) 0).bind fun | .inl _=>some false | .inr rv=>some rv)
theorem mQ (p0:(List Int)) (p1:Int) (r:Bool) (hF:gj p0 p1 = some r):Fun Try.prog 27 true [] [cL 1 aV p0,cI p1] aZ (cB r) aZ:=by
 refine Fun.of_walk0 Try.func27 c27 (by kernel_rfl) (rs:=[.tmp 4]) (by kernel_rfl) ?_; unfold v27
 unfold gj at hF
 refine wA rfl ?_; refine bX ?_; refine wA rfl ?_; refine qK (fun _ _ h=>h) hF (.inl) (fun a10=>[(0,cL 1 aV p0),(1,cI p1),(5,cI a10)]) (fun a10=>[]) (fun _=>[]) (fun _=>[]) sw ?_ ?_
 · rintro ⟨⟩ hF
   refine wA rfl ?_; cases hF
   exact fQ wR
 rintro a10 x_0 hF cont_0 brk_0 fin_0
 unfold kJ at hF
 refine bX ?_; refine wC 2 rfl ?_; refine rS (lX (tc:=aV) p0 .tree ?_); refine QV rfl ?_; refine wIf hF rfl (fun _ hF=>?_) fun _ hF=>?_
 · refine cX ?_; refine bX ?_; refine hZ ?_; refine wC 2 rfl ?_; obtain ⟨y14,hy14,hF⟩:=bB hF
   refine rS (oV (tc:=aV) p0 rfl rfl hy14 ?_); refine QV rfl ?_; refine wIf hF rfl (fun _ hF=>?_) fun _ hF=>?_
   · refine wA rfl ?_; have hF:=fin_0 _ (oi hF); cases hF
     exact fQ wR
   refine cX ?_; refine wB rfl ?_; exact cont_0 _ _ _ (oi hF) sw
 refine lq ?_; refine aY ?_; refine aY ?_; refine cW ?_; exact brk_0 _ _ _ (oi hF) sw
def jq (p0:api_Heap) (p1:Int) (a590:Int) (a1005:Int):((List Int) × Int)→Option (((List Int) × Int) ⊕ (List Int)):=fun (a1107,a1108) =>
  (((bif (decide (a1108 < (List.length a1107:Int))) then ((idx a1107 a1005).bind fun y1137=>some (decide (y1137 = a590))) else some false):Option Bool).bind fun v1124=>(bif v1124 then (((((bif (!decide (a1108 = p1)) then ((idx a1107 a1108).bind fun y1130=>(bif (decide (y1130 = 0)) then ((idx p0.fObjects a1005).bind fun y1132=>((idx p0.fObjects a1108).bind fun y1133=>((gj y1132.fRefs y1133.fId).bind fun r1134=>some r1134))) else some false)) else some false):Option Bool).bind fun v1126=>(bif v1126 then ((idx a1107 a1108).bind fun y1127=>some (List.set a1107 (Int.toNat a1108) (w64 (a590 + 1)))) else some a1107)):Option (List Int)).bind fun v1125=>some (.inl (v1125,(w64 (a1108 + 1))))) else some (.inr a1107)))
def jx (p0:api_Heap) (p1:Int) (a590:Int):((List Int) × Int)→Option (((List Int) × Int) ⊕ (List Int)):=fun (a1004,a1005) =>
  (bif (decide (a1005 < (List.length a1004:Int))) then ((loop (jq p0 p1 a590 a1005) (a1004,0)).bind fun e1123=>some (.inl (e1123,(w64 (a1005 + 1))))) else some (.inr a1004))
def i9 (p0:api_Heap) (p1:Int):((List Int) × Int)→Option (((List Int) × Int) ⊕ (List Int)):=fun (a589,a590) =>
  (bif (decide (a590≤(List.length a589:Int))) then ((loop (jx p0 p1 a590) (a589,0)).bind fun e1072=>some (.inl (e1072,(w64 (a590 + 1))))) else some (.inr a589))
def jz (p0:api_Heap) (p1:Int):((List Int) × Int)→Option (((List Int) × Int) ⊕ (List Int)):=fun (a24,a25) =>
  (bif (decide (a25 < (List.length a24:Int))) then (((((bif (!decide (a25 = p1)) then ((idx p0.fObjects a25).bind fun y1145=>((gj p0.fRoots y1145.fId).bind fun r1146=>some r1146)) else some false):Option Bool).bind fun v1141=>(bif v1141 then ((idx a24 a25).bind fun y1142=>some (List.set a24 (Int.toNat a25) 1)) else some a24)):Option (List Int)).bind fun v1140=>some (.inl (v1140,(w64 (a25 + 1))))) else some (.inr a24))
def iY (p0:api_Heap) (p1:Int):Option (List Int) :=
  (bif mkB 8 (List.length p0.fObjects:Int) then ((loop (jz p0 p1) ((List.replicate (Int.toNat (List.length p0.fObjects:Int)) 0),0)).bind fun e34=>((loop (i9 p0 p1) (e34,1)).bind fun e865=>some e865)) else none)
theorem yW (p0:api_Heap) (p1:Int) (r:(List Int)) (hF:iY p0 p1 = some r):Fun Try.prog 25 false [] [.agg [jL 4 ax p0.fObjects,jL 1 aV p0.fRoots],cI p1] (aj []) (cO (902,1000)) (aj [((902,1000),.arr 3 1 (List.map aV r))]):=by
 refine Fun.of_walkM [] (some []) Try.func25 c25 (by kernel_rfl) (rs:=[.tmp 4]) (by kernel_rfl) rfl rfl rfl ?_; unfold v25
 unfold iY at hF
 refine wA rfl ?_; refine wC 2 rfl ?_; refine rS (lX (tc:=ax) p0.fObjects .tree ?_); obtain ⟨h1,hF⟩:=azV hF
 refine rS (aUV (tc:=aV) 0 rfl rfl (aTX h1) rfl rfl ?_); refine QV rfl ?_; refine bX ?_; refine wA rfl ?_; refine qK (fun _ _ h=>h) hF (id) (fun (a24,a25)=>[(1,cI p1),(2,cP (2,0) 0),(5,cO (13,0)),(6,cI a25)]) (fun (a24,a25)=>[((2,0),.box [jL 4 ax p0.fObjects,jL 1 aV p0.fRoots]),((13,0),.arr 3 1 (List.map aV a24))]) (fun e34=>[(1,cI p1),(2,cP (2,0) 0),(5,cO (13,0))]) (fun e34=>[((2,0),.box [jL 4 ax p0.fObjects,jL 1 aV p0.fRoots]),((13,0),.arr 3 1 (List.map aV e34))]) sw ?_ ?_
 · rintro e34 hF
   refine bX ?_; refine wA rfl ?_; refine qK (fun _ _ h=>h) hF (id) (fun (a589,a590)=>[(1,cI p1),(2,cP (2,0) 0),(5,cO (13,0)),(7,cI a590)]) (fun (a589,a590)=>[((2,0),.box [jL 4 ax p0.fObjects,jL 1 aV p0.fRoots]),((13,0),.arr 3 1 (List.map aV a589))]) (fun e865=>[(5,cO (13,0))]) (fun e865=>[((13,0),.arr 3 1 (List.map aV e865))]) sw ?_ ?_
   · rintro e865 hF
     refine wA rfl ?_; cases hF
     exact fQ ⟨_,_,(X0 (13,0) (902,1000) rfl rfl xz),_,rfl,rfl,rfl,(AgM.weak ⟨rfl,trivial⟩)⟩
   rintro ⟨a589,a590⟩ x_0 hF cont_0 brk_0 fin_0
   unfold i9 at hF
   refine bX ?_; refine wC 2 rfl ?_; refine rS (lX (tc:=aV) a589 (.own _ _ rfl) ?_); refine QV rfl ?_; refine wIf hF rfl (fun _ hF=>?_) fun _ hF=>?_
   · refine cX ?_; refine bX ?_; refine hZ ?_; refine wA rfl ?_; refine qK (fun _ _ h=>h) hF (id) (fun (a1004,a1005)=>[(1,cI p1),(2,cP (2,0) 0),(5,cO (13,0)),(7,cI a590),(8,cI a1005)]) (fun (a1004,a1005)=>[((2,0),.box [jL 4 ax p0.fObjects,jL 1 aV p0.fRoots]),((13,0),.arr 3 1 (List.map aV a1004))]) (fun e1072=>[(1,cI p1),(2,cP (2,0) 0),(5,cO (13,0)),(7,cI a590)]) (fun e1072=>[((2,0),.box [jL 4 ax p0.fObjects,jL 1 aV p0.fRoots]),((13,0),.arr 3 1 (List.map aV e1072))]) sw ?_ ?_
     · rintro e1072 hF
       refine wB rfl ?_; exact cont_0 _ _ _ (oi hF) sw
     rintro ⟨a1004,a1005⟩ x_1 hF cont_1 brk_1 fin_1
     unfold jx at hF
     refine bX ?_; refine wC 2 rfl ?_; refine rS (lX (tc:=aV) a1004 (.own _ _ rfl) ?_); refine QV rfl ?_; refine wIf hF rfl (fun _ hF=>?_) fun _ hF=>?_
     · refine cX ?_; refine bX ?_; refine hZ ?_; refine wA rfl ?_; refine qK (fun _ _ h=>h) hF (id) (fun (a1107,a1108)=>[(1,cI p1),(2,cP (2,0) 0),(5,cO (13,0)),(7,cI a590),(8,cI a1005),(9,cI a1108)]) (fun (a1107,a1108)=>[((2,0),.box [jL 4 ax p0.fObjects,jL 1 aV p0.fRoots]),((13,0),.arr 3 1 (List.map aV a1107))]) (fun e1123=>[(1,cI p1),(2,cP (2,0) 0),(5,cO (13,0)),(7,cI a590),(8,cI a1005)]) (fun e1123=>[((2,0),.box [jL 4 ax p0.fObjects,jL 1 aV p0.fRoots]),((13,0),.arr 3 1 (List.map aV e1123))]) sw ?_ ?_
       · rintro e1123 hF
         refine wB rfl ?_; exact cont_1 _ _ _ (oi hF) sw
       rintro ⟨a1107,a1108⟩ x_2 hF cont_2 brk_2 fin_2
       unfold jq at hF
       refine bX ?_; refine bX ?_; refine l7 (fun _ _ h=>h) hF (fun v1124=>[(1,cI p1),(2,cP (2,0) 0),(5,cO (13,0)),(7,cI a590),(8,cI a1005),(9,cI a1108),(60,cB v1124)]) (fun v1124=>[((2,0),.box [jL 4 ax p0.fObjects,jL 1 aV p0.fRoots]),((13,0),.arr 3 1 (List.map aV a1107))]) ?_ ?_
       · rintro v1124 hF
         refine wIf hF rfl (fun _ hF=>?_) fun _ hF=>?_
         · refine cX ?_; refine bX ?_; refine l7 (fun _ _ h=>h) hF (fun v1125=>[(1,cI p1),(2,cP (2,0) 0),(5,cO (13,0)),(7,cI a590),(8,cI a1005),(9,cI a1108)]) (fun v1125=>[((2,0),.box [jL 4 ax p0.fObjects,jL 1 aV p0.fRoots]),((13,0),.arr 3 1 (List.map aV v1125))]) ?_ ?_
           · rintro v1125 hF
             refine wB rfl ?_; exact cont_2 _ _ _ (oi hF) sw
           intro join hF
           refine hZ ?_; refine bX ?_; have hF:=bA hF; refine l7 (fun _ _ h=>h) hF (fun v1126=>[(1,cI p1),(2,cP (2,0) 0),(5,cO (13,0)),(7,cI a590),(8,cI a1005),(9,cI a1108),(87,cB v1126)]) (fun v1126=>[((2,0),.box [jL 4 ax p0.fObjects,jL 1 aV p0.fRoots]),((13,0),.arr 3 1 (List.map aV a1107))]) ?_ ?_
           · rintro v1126 hF
             refine aRj hF rfl (fun _ hF=>?_) fun _ hF=>?_
             · refine wD 4 rfl ?_; obtain ⟨y1127,hy1127,hF⟩:=bB' hF
               refine rS (I3 (tc:=aV) a1107 rfl rfl rfl hy1127 ?_); refine rS (anq (tc:=aV) a1107 (w64 (a590 + 1)) rfl rfl (vW hy1127).2.1 rfl rfl rfl rfl rfl ?_); refine QV rfl ?_; exact join (List.set a1107 (Int.toNat a1108) (w64 (a590 + 1))) _ _ hF sw
             refine cX ?_; exact join a1107 _ _ hF sw
           intro join hF
           refine D9 (by decide) (by kernel_rfl) rfl ?_; refine bW SP 4 rfl ?_; cases h1129:(!decide (a1108 = p1))
           · have hF:=bF' h1129 hF; refine QP rfl ?_; exact join false _ _ hF sw
           have hF:=bT' h1129 hF; refine bW SP 2 rfl ?_; obtain ⟨y1130,hy1130,hF⟩:=bB' hF
           refine dj SP rfl (I3 (tc:=aV) a1107 rfl rfl rfl hy1130 ?_); refine dj SP rfl (V0 (tc:=aV) a1107 rfl rfl (vW hy1130).2.1 rfl ?_); refine bW SP 3 rfl ?_; cases h1131:(decide (y1130 = 0))
           · have hF:=bF' h1131 hF; refine QP rfl ?_; exact join false _ _ hF sw
           have hF:=bT' h1131 hF; refine bW SP 3 rfl ?_; obtain ⟨y1132,hy1132,hF⟩:=bB' hF
           refine dj SP rfl (oV (tc:=ax) p0.fObjects rfl rfl hy1132 ?_); refine bW SP 5 rfl ?_; obtain ⟨y1133,hy1133,hF⟩:=bB' hF
           refine dj SP rfl (oV (tc:=ax) p0.fObjects rfl rfl hy1133 ?_); refine bW SP 2 rfl ?_; obtain ⟨r1134,hr1134,hF⟩:=bB' hF
           refine dj SP rfl (fK (mQ _ _ _ hr1134) ⟨rfl,rfl,trivial⟩ rfl (.inl rfl) ?_); refine QP rfl ?_; exact join r1134 _ _ hF sw
         refine lq ?_; refine aY ?_; refine aY ?_; refine cW ?_; exact brk_2 _ _ _ (oi hF) sw
       intro join hF
       refine wD 2 rfl ?_; refine rS (lX (tc:=aV) a1107 (.own _ _ rfl) ?_); refine bW SV 2 rfl ?_; cases h1136:(decide (a1108 < (List.length a1107:Int)))
       · have hF:=bF' h1136 hF; refine QV rfl ?_; exact join false _ _ hF sw
       have hF:=bT' h1136 hF; refine bW SV 2 rfl ?_; obtain ⟨y1137,hy1137,hF⟩:=bB' hF
       refine dj SV rfl (I3 (tc:=aV) a1107 rfl rfl rfl hy1137 ?_); refine dj SV rfl (V0 (tc:=aV) a1107 rfl rfl (vW hy1137).2.1 rfl ?_); refine QV rfl ?_; exact join (decide (y1137 = a590)) _ _ hF sw
     refine lq ?_; refine aY ?_; refine aY ?_; refine cW ?_; exact brk_1 _ _ _ (oi hF) sw
   refine lq ?_; refine aY ?_; refine aY ?_; refine cW ?_; exact brk_0 _ _ _ (oi hF) sw
 rintro ⟨a24,a25⟩ x_0 hF cont_0 brk_0 fin_0
 unfold jz at hF
 refine bX ?_; refine wC 2 rfl ?_; refine rS (lX (tc:=aV) a24 (.own _ _ rfl) ?_); refine QV rfl ?_; refine wIf hF rfl (fun _ hF=>?_) fun _ hF=>?_
 · refine cX ?_; refine bX ?_; refine l7 (fun _ _ h=>h) hF (fun v1140=>[(1,cI p1),(2,cP (2,0) 0),(5,cO (13,0)),(6,cI a25)]) (fun v1140=>[((2,0),.box [jL 4 ax p0.fObjects,jL 1 aV p0.fRoots]),((13,0),.arr 3 1 (List.map aV v1140))]) ?_ ?_
   · rintro v1140 hF
     refine wB rfl ?_; exact cont_0 _ _ _ (oi hF) sw
   intro join hF
   refine hZ ?_; refine bX ?_; have hF:=bA hF; refine l7 (fun _ _ h=>h) hF (fun v1141=>[(1,cI p1),(2,cP (2,0) 0),(5,cO (13,0)),(6,cI a25),(33,cB v1141)]) (fun v1141=>[((2,0),.box [jL 4 ax p0.fObjects,jL 1 aV p0.fRoots]),((13,0),.arr 3 1 (List.map aV a24))]) ?_ ?_
   · rintro v1141 hF
     refine aRj hF rfl (fun _ hF=>?_) fun _ hF=>?_
     · refine wD 2 rfl ?_; obtain ⟨y1142,hy1142,hF⟩:=bB' hF
       refine rS (I3 (tc:=aV) a24 rfl rfl rfl hy1142 ?_); refine rS (anq (tc:=aV) a24 1 rfl rfl (vW hy1142).2.1 rfl rfl rfl rfl rfl ?_); refine QV rfl ?_; exact join (List.set a24 (Int.toNat a25) 1) _ _ hF sw
     refine cX ?_; exact join a24 _ _ hF sw
   intro join hF
   refine D9 (by decide) (by kernel_rfl) rfl ?_; refine bW SP 4 rfl ?_; cases h1144:(!decide (a25 = p1))
   · have hF:=bF' h1144 hF; refine QP rfl ?_; exact join false _ _ hF sw
   have hF:=bT' h1144 hF; refine bW SP 5 rfl ?_; obtain ⟨y1145,hy1145,hF⟩:=bB' hF
   refine dj SP rfl (oV (tc:=ax) p0.fObjects rfl rfl hy1145 ?_); refine bW SP 2 rfl ?_; obtain ⟨r1146,hr1146,hF⟩:=bB' hF
   refine dj SP rfl (fK (mQ _ _ _ hr1146) ⟨rfl,rfl,trivial⟩ rfl (.inl rfl) ?_); refine QP rfl ?_; exact join r1146 _ _ hF sw
 refine lq ?_; refine aY ?_; refine aY ?_; refine cW ?_; exact brk_0 _ _ _ (oi hF) sw
def nY (p0:api_Heap) (a526:Int) (a917:Int):((List Int) × Int)→Option (((List Int) × Int) ⊕ (List Int)):=fun (a1013,a1014) =>
  (((bif (decide (a1014 < (List.length a1013:Int))) then ((idx a1013 a917).bind fun y1041=>some (decide (y1041 = 0))) else some false):Option Bool).bind fun v1029=>(bif v1029 then ((((((idx a1013 a1014).bind fun y1034=>(bif (decide (y1034 = a526)) then ((idx p0.fObjects a917).bind fun y1036=>((idx p0.fObjects a1014).bind fun y1037=>((gj y1036.fRefs y1037.fId).bind fun r1038=>some r1038))) else some false)):Option Bool).bind fun v1031=>(bif v1031 then ((idx a1013 a917).bind fun y1032=>some (List.set a1013 (Int.toNat a917) (w64 (a526 + 1)))) else some a1013)):Option (List Int)).bind fun v1030=>some (.inl (v1030,(w64 (a1014 + 1))))) else some (.inr a1013)))
def nq (p0:api_Heap) (a526:Int):((List Int) × Int)→Option (((List Int) × Int) ⊕ (List Int)):=fun (a916,a917) =>
  (bif (decide (a917 < (List.length a916:Int))) then ((loop (nY p0 a526 a917) (a916,0)).bind fun e1028=>some (.inl (e1028,(w64 (a917 + 1))))) else some (.inr a916))
def nW (p0:api_Heap):((List Int) × Int)→Option (((List Int) × Int) ⊕ (List Int)):=fun (a525,a526) =>
  (bif (decide (a526≤(List.length a525:Int))) then ((loop (nq p0 a526) (a525,0)).bind fun e980=>some (.inl (e980,(w64 (a526 + 1))))) else some (.inr a525))
def nX (p0:api_Heap) (p1:Int):Option (List Int) :=
  (bif mkB 8 (List.length p0.fObjects:Int) then ((idx (List.replicate (Int.toNat (List.length p0.fObjects:Int)) (0:Int)) p1).bind fun y2=>((loop (nW p0) ((List.set (List.replicate (Int.toNat (List.length p0.fObjects:Int)) 0) (Int.toNat p1) 1),1)).bind fun e785=>some e785)) else none)
theorem FZ (p0:api_Heap) (p1:Int) (r:(List Int)) (hF:nX p0 p1 = some r):Fun Try.prog 26 false [] [.agg [jL 4 ax p0.fObjects,jL 1 aV p0.fRoots],cI p1] (aj []) (cO (902,1040)) (aj [((902,1040),.arr 3 1 (List.map aV r))]):=by
 refine Fun.of_walkM [] (some []) Try.func26 c26 (by kernel_rfl) (rs:=[.tmp 4]) (by kernel_rfl) rfl rfl rfl ?_; unfold v26
 unfold nX at hF
 refine wA rfl ?_; refine wC 2 rfl ?_; refine rS (lX (tc:=ax) p0.fObjects .tree ?_); obtain ⟨h1,hF⟩:=azV hF
 refine rS (aUV (tc:=aV) 0 rfl rfl (aTX h1) rfl rfl ?_); refine QV rfl ?_; refine wC 2 rfl ?_; obtain ⟨y2,hy2,hF⟩:=bB hF
 refine rS (I3 (tc:=aV) (List.replicate (Int.toNat (List.length p0.fObjects:Int)) 0) rfl rfl rfl hy2 ?_); refine rS (anq (tc:=aV) (List.replicate (Int.toNat (List.length p0.fObjects:Int)) 0) 1 rfl rfl (vW hy2).2.1 rfl rfl rfl rfl rfl ?_)
 refine QV rfl ?_; refine bX ?_; refine wA rfl ?_; refine qK (fun _ _ h=>h) hF (id) (fun (a525,a526)=>[(2,cP (2,0) 0),(5,cO (12,0)),(6,cI a526)]) (fun (a525,a526)=>[((2,0),.box [jL 4 ax p0.fObjects,jL 1 aV p0.fRoots]),((12,0),.arr 3 1 (List.map aV a525))]) (fun e785=>[(5,cO (12,0))]) (fun e785=>[((12,0),.arr 3 1 (List.map aV e785))]) sw ?_ ?_
 · rintro e785 hF
   refine wA rfl ?_; cases hF
   exact fQ ⟨_,_,(X0 (12,0) (902,1040) rfl rfl xz),_,rfl,rfl,rfl,(AgM.weak ⟨rfl,trivial⟩)⟩
 rintro ⟨a525,a526⟩ x_0 hF cont_0 brk_0 fin_0
 unfold nW at hF
 refine bX ?_; refine wC 2 rfl ?_; refine rS (lX (tc:=aV) a525 (.own _ _ rfl) ?_); refine QV rfl ?_; refine wIf hF rfl (fun _ hF=>?_) fun _ hF=>?_
 · refine cX ?_; refine bX ?_; refine hZ ?_; refine wA rfl ?_; refine qK (fun _ _ h=>h) hF (id) (fun (a916,a917)=>[(2,cP (2,0) 0),(5,cO (12,0)),(6,cI a526),(7,cI a917)]) (fun (a916,a917)=>[((2,0),.box [jL 4 ax p0.fObjects,jL 1 aV p0.fRoots]),((12,0),.arr 3 1 (List.map aV a916))]) (fun e980=>[(2,cP (2,0) 0),(5,cO (12,0)),(6,cI a526)]) (fun e980=>[((2,0),.box [jL 4 ax p0.fObjects,jL 1 aV p0.fRoots]),((12,0),.arr 3 1 (List.map aV e980))]) sw ?_ ?_
   · rintro e980 hF
     refine wB rfl ?_; exact cont_0 _ _ _ (oi hF) sw
   rintro ⟨a916,a917⟩ x_1 hF cont_1 brk_1 fin_1
   unfold nq at hF
   refine bX ?_; refine wC 2 rfl ?_; refine rS (lX (tc:=aV) a916 (.own _ _ rfl) ?_); refine QV rfl ?_; refine wIf hF rfl (fun _ hF=>?_) fun _ hF=>?_
   · refine cX ?_; refine bX ?_; refine hZ ?_; refine wA rfl ?_; refine qK (fun _ _ h=>h) hF (id) (fun (a1013,a1014)=>[(2,cP (2,0) 0),(5,cO (12,0)),(6,cI a526),(7,cI a917),(8,cI a1014)]) (fun (a1013,a1014)=>[((2,0),.box [jL 4 ax p0.fObjects,jL 1 aV p0.fRoots]),((12,0),.arr 3 1 (List.map aV a1013))]) (fun e1028=>[(2,cP (2,0) 0),(5,cO (12,0)),(6,cI a526),(7,cI a917)]) (fun e1028=>[((2,0),.box [jL 4 ax p0.fObjects,jL 1 aV p0.fRoots]),((12,0),.arr 3 1 (List.map aV e1028))]) sw ?_ ?_
     · rintro e1028 hF
       refine wB rfl ?_; exact cont_1 _ _ _ (oi hF) sw
     rintro ⟨a1013,a1014⟩ x_2 hF cont_2 brk_2 fin_2
     unfold nY at hF
     refine bX ?_; refine bX ?_; refine l7 (fun _ _ h=>h) hF (fun v1029=>[(2,cP (2,0) 0),(5,cO (12,0)),(6,cI a526),(7,cI a917),(8,cI a1014),(38,cB v1029)]) (fun v1029=>[((2,0),.box [jL 4 ax p0.fObjects,jL 1 aV p0.fRoots]),((12,0),.arr 3 1 (List.map aV a1013))]) ?_ ?_
     · rintro v1029 hF
       refine wIf hF rfl (fun _ hF=>?_) fun _ hF=>?_
       · refine cX ?_; refine bX ?_; refine l7 (fun _ _ h=>h) hF (fun v1030=>[(2,cP (2,0) 0),(5,cO (12,0)),(6,cI a526),(7,cI a917),(8,cI a1014)]) (fun v1030=>[((2,0),.box [jL 4 ax p0.fObjects,jL 1 aV p0.fRoots]),((12,0),.arr 3 1 (List.map aV v1030))]) ?_ ?_
         · rintro v1030 hF
           refine wB rfl ?_; exact cont_2 _ _ _ (oi hF) sw
         intro join hF
         refine hZ ?_; refine bX ?_; have hF:=bA hF; refine l7 (fun _ _ h=>h) hF (fun v1031=>[(2,cP (2,0) 0),(5,cO (12,0)),(6,cI a526),(7,cI a917),(8,cI a1014),(61,cB v1031)]) (fun v1031=>[((2,0),.box [jL 4 ax p0.fObjects,jL 1 aV p0.fRoots]),((12,0),.arr 3 1 (List.map aV a1013))]) ?_ ?_
         · rintro v1031 hF
           refine aRj hF rfl (fun _ hF=>?_) fun _ hF=>?_
           · refine wD 4 rfl ?_; obtain ⟨y1032,hy1032,hF⟩:=bB' hF
             refine rS (I3 (tc:=aV) a1013 rfl rfl rfl hy1032 ?_); refine rS (anq (tc:=aV) a1013 (w64 (a526 + 1)) rfl rfl (vW hy1032).2.1 rfl rfl rfl rfl rfl ?_); refine QV rfl ?_; exact join (List.set a1013 (Int.toNat a917) (w64 (a526 + 1))) _ _ hF sw
           refine cX ?_; exact join a1013 _ _ hF sw
         intro join hF
         refine D9 (by decide) (by kernel_rfl) rfl ?_; refine bW SP 2 rfl ?_; obtain ⟨y1034,hy1034,hF⟩:=bB' hF
         refine dj SP trivial (I3 (tc:=aV) a1013 rfl rfl rfl hy1034 ?_); refine dj SP trivial (V0 (tc:=aV) a1013 rfl rfl (vW hy1034).2.1 rfl ?_); refine bW SP 3 rfl ?_; cases h1035:(decide (y1034 = a526))
         · have hF:=bF' h1035 hF; refine QP rfl ?_; exact join false _ _ hF sw
         have hF:=bT' h1035 hF; refine bW SP 3 rfl ?_; obtain ⟨y1036,hy1036,hF⟩:=bB' hF
         refine dj SP rfl (oV (tc:=ax) p0.fObjects rfl rfl hy1036 ?_); refine bW SP 5 rfl ?_; obtain ⟨y1037,hy1037,hF⟩:=bB' hF
         refine dj SP rfl (oV (tc:=ax) p0.fObjects rfl rfl hy1037 ?_); refine bW SP 2 rfl ?_; obtain ⟨r1038,hr1038,hF⟩:=bB' hF
         refine dj SP rfl (fK (mQ _ _ _ hr1038) ⟨rfl,rfl,trivial⟩ rfl (.inl rfl) ?_); refine QP rfl ?_; exact join r1038 _ _ hF sw
       refine lq ?_; refine aY ?_; refine aY ?_; refine cW ?_; exact brk_2 _ _ _ (oi hF) sw
     intro join hF
     refine wD 2 rfl ?_; refine rS (lX (tc:=aV) a1013 (.own _ _ rfl) ?_); refine bW SV 2 rfl ?_; cases h1040:(decide (a1014 < (List.length a1013:Int)))
     · have hF:=bF' h1040 hF; refine QV rfl ?_; exact join false _ _ hF sw
     have hF:=bT' h1040 hF; refine bW SV 2 rfl ?_; obtain ⟨y1041,hy1041,hF⟩:=bB' hF
     refine dj SV rfl (I3 (tc:=aV) a1013 rfl rfl rfl hy1041 ?_); refine dj SV rfl (V0 (tc:=aV) a1013 rfl rfl (vW hy1041).2.1 rfl ?_); refine QV rfl ?_; exact join (decide (y1041 = 0)) _ _ hF sw
   refine lq ?_; refine aY ?_; refine aY ?_; refine cW ?_; exact brk_1 _ _ _ (oi hF) sw
 refine lq ?_; refine aY ?_; refine aY ?_; refine cW ?_; exact brk_0 _ _ _ (oi hF) sw
def mX (p0:api_Heap) (r5:(List Int)) (a109:Int) (a110:(List Int)) (a111:(List Int)):Int→Option (Int ⊕ ((List Int) × (List Int))):=fun a183 =>
  (bif (decide (a183 < (List.length p0.fObjects:Int))) then ((((idx r5 a183).bind fun y201=>(bif (decide (y201 = a109)) then ((idx p0.fObjects a183).bind fun y203=>((gj a111 y203.fId).bind fun r204=>some r204)) else some false)):Option Bool).bind fun v196=>(bif v196 then ((idx p0.fObjects a183).bind fun y197=>(bif auY 8 (List.length a110 + List.length [y197.fId]) then ((idx p0.fObjects a183).bind fun y199=>some (.inr ((a110++[y197.fId]),y199.fRefs))) else none)) else some (.inl (w64 (a183 + 1))))) else some (.inr (a110,a111)))
def l8 (p0:api_Heap) (r5:(List Int)):(Int × (List Int) × (List Int))→Option ((Int × (List Int) × (List Int)) ⊕ (List Int)):=fun (a109,a110,a111) =>
  (bif (decide (0 < a109)) then ((loop (mX p0 r5 a109 a110 a111) 0).bind fun (e194,e195)=>some (.inl ((w64 (a109 - 1)),e194,e195))) else some (.inr a110))
def eK (p0:api_Heap) (p1:Int):Option ((List Int) × Int) :=
  ((lj p0).bind fun r1=>(bif (!decide (r1 = 0)) then some ([],r1) else ((j0 p0 p1).bind fun r2=>(bif (!r2.2) then some ([],5) else ((iY p0 (-1)).bind fun r3=>((idx r3 r2.1).bind fun y4=>(bif (decide (y4 = 0)) then some ([],5) else ((nX p0 r2.1).bind fun r5=>((loop (l8 p0 r5) (y4,[],p0.fRoots)).bind fun e159=>some (e159,0))))))))))
theorem DV (p0:api_Heap) (p1:Int) (r:((List Int) × Int)) (hF:eK p0 p1 = some r):Fun Try.prog 8 false [] [.agg [jL 4 ax p0.fObjects,jL 1 aV p0.fRoots],cI p1] (aj []) (.tup [cO (902,320),cI r.2]) (aj [((902,320),.arr 3 1 (List.map aV r.1))]):=by
 refine Fun.of_walkM [] (some []) Try.func8 c8 (by kernel_rfl) (rs:=[.tmp 4,.tmp 5]) (by kernel_rfl) rfl rfl rfl ?_; unfold v8
 unfold eK at hF
 refine wA rfl ?_; refine wC 1 rfl ?_; obtain ⟨r1,hr1,hF⟩:=bB hF
 refine rS (fK (C3 _ _ hr1) ⟨⟨rfl,rfl,trivial⟩,trivial⟩ rfl (.inl rfl) ?_); refine QV rfl ?_; refine bX ?_; refine wA rfl ?_; refine wIf hF rfl (fun _ hF=>?_) fun _ hF=>?_
 · refine wA rfl ?_; cases hF
   exact fQ ⟨_,_,(aqX 4 (902,320) 3 1 rfl rfl rfl rfl xz),_,rfl,rfl,⟨rfl,⟨rfl,fun _=>rfl⟩,trivial⟩,(AgM.weak ⟨rfl,trivial⟩)⟩
 refine cX ?_; refine wC 2 rfl ?_; obtain ⟨r2,hr2,hF⟩:=bB hF
 refine rS (fK (vQ _ _ _ hr2) ⟨⟨rfl,rfl,trivial⟩,rfl,trivial⟩ rfl (.inl rfl) ?_); refine QV rfl ?_; refine bX ?_; refine wA rfl ?_; refine wIf hF rfl (fun _ hF=>?_) fun _ hF=>?_
 · refine wA rfl ?_; cases hF
   exact fQ ⟨_,_,(aqX 4 (902,320) 3 1 rfl rfl rfl rfl xz),_,rfl,rfl,⟨rfl,⟨rfl,fun _=>rfl⟩,trivial⟩,(AgM.weak ⟨rfl,trivial⟩)⟩
 refine cX ?_; refine wC 1 rfl ?_; obtain ⟨r3,hr3,hF⟩:=bB hF
 refine z8 trivial (Cz [((902,1000),(28,1))] rfl (PZ _) (yW _ _ _ hr3) trivial ⟨.inr ⟨rfl,rfl,trivial⟩,.inl rfl,trivial⟩ rfl rfl rfl ?_); refine bW SV 1 rfl ?_
 obtain ⟨y4,hy4,hF⟩:=bB hF
 refine rS (I3 (tc:=aV) r3 rfl rfl rfl hy4 ?_); refine rS (V0 (tc:=aV) r3 rfl rfl (vW hy4).2.1 rfl ?_); refine QV rfl ?_; refine bX ?_; refine wA rfl ?_; refine wIf hF rfl (fun _ hF=>?_) fun _ hF=>?_
 · refine wA rfl ?_; cases hF
   exact fQ ⟨_,_,(aqX 4 (902,320) 3 1 rfl rfl rfl rfl xz),_,rfl,rfl,⟨rfl,⟨rfl,fun _=>rfl⟩,trivial⟩,(AgM.weak ⟨rfl,trivial⟩)⟩
 refine cX ?_; refine wC 2 rfl ?_; obtain ⟨r5,hr5,hF⟩:=bB hF
 refine z8 trivial (Cz [((902,1040),(36,1))] rfl (PZ _) (FZ _ _ _ hr5) trivial ⟨.inr ⟨rfl,rfl,trivial⟩,.inl rfl,trivial⟩ rfl rfl rfl ?_); refine QV rfl ?_; refine wA rfl ?_
 refine wA rfl ?_; refine bX ?_; refine qK (fun _ _ h=>h) hF (id) (fun (a109,a110,a111)=>[(2,cP (2,0) 0),(9,cI a109),(10,cO (36,1)),(11,cO (72,1)),(12,cL 1 aV a111)]) (fun (a109,a110,a111)=>[((2,0),.box [jL 4 ax p0.fObjects,jL 1 aV p0.fRoots]),((36,1),.arr 3 1 (List.map aV r5)),((72,1),.arr 3 1 (List.map aV a110))]) (fun e159=>[(11,cO (72,1))]) (fun e159=>[((72,1),.arr 3 1 (List.map aV e159))]) (aqX 11 (72,1) 3 1 rfl rfl rfl rfl sw) ?_ ?_
 · rintro e159 hF
   refine wA rfl ?_; cases hF
   exact fQ ⟨_,_,(X0 (72,1) (902,320) rfl rfl xz),_,rfl,rfl,⟨rfl,⟨rfl,fun _=>rfl⟩,trivial⟩,(AgM.weak ⟨rfl,trivial⟩)⟩
 rintro ⟨a109,a110,a111⟩ x_0 hF cont_0 brk_0 fin_0
 unfold l8 at hF
 refine bX ?_; refine wA rfl ?_; refine wIf hF rfl (fun _ hF=>?_) fun _ hF=>?_
 · refine cX ?_; refine hZ ?_; refine bX ?_; refine wA rfl ?_; refine qK (fun _ _ h=>h) hF (id) (fun a183=>[(2,cP (2,0) 0),(9,cI a109),(10,cO (36,1)),(11,cO (72,1)),(12,cL 1 aV a111),(13,cI a183)]) (fun a183=>[((2,0),.box [jL 4 ax p0.fObjects,jL 1 aV p0.fRoots]),((36,1),.arr 3 1 (List.map aV r5)),((72,1),.arr 3 1 (List.map aV a110))]) (fun (e194,e195)=>[(2,cP (2,0) 0),(9,cI a109),(10,cO (36,1)),(11,cO (72,1)),(12,cL 1 aV e195)]) (fun (e194,e195)=>[((2,0),.box [jL 4 ax p0.fObjects,jL 1 aV p0.fRoots]),((36,1),.arr 3 1 (List.map aV r5)),((72,1),.arr 3 1 (List.map aV e194))]) sw ?_ ?_
   · rintro ⟨e194,e195⟩ hF
     refine wB rfl ?_; exact cont_0 _ _ _ (oi hF) sw
   rintro a183 x_1 hF cont_1 brk_1 fin_1
   unfold mX at hF
   refine bX ?_; refine wC 3 rfl ?_; refine rS (lX (tc:=ax) p0.fObjects .tree ?_); refine QV rfl ?_; refine wIf hF rfl (fun _ hF=>?_) fun _ hF=>?_
   · refine cX ?_; refine bX ?_; refine hZ ?_; refine bX ?_; refine l7 (fun _ _ h=>h) hF (fun v196=>[(2,cP (2,0) 0),(9,cI a109),(10,cO (36,1)),(11,cO (72,1)),(12,cL 1 aV a111),(13,cI a183),(63,cB v196)]) (fun v196=>[((2,0),.box [jL 4 ax p0.fObjects,jL 1 aV p0.fRoots]),((36,1),.arr 3 1 (List.map aV r5)),((72,1),.arr 3 1 (List.map aV a110))]) ?_ ?_
     · rintro v196 hF
       refine wIf hF rfl (fun _ hF=>?_) fun _ hF=>?_
       · refine wC 4 rfl ?_; obtain ⟨y197,hy197,hF⟩:=bB hF
         refine rS (oV (tc:=ax) p0.fObjects rfl rfl hy197 ?_); refine bW SV 2 rfl ?_; refine rS (I1 (tc:=aV) [y197.fId] rfl ⟨rfl,trivial⟩ rfl (fun _=>rfl) rfl ?_)
         obtain ⟨h198,hF⟩:=azV hF
         refine rS (aQZ (tc:=aV) a110 [y197.fId] rfl rfl (.own _ _ rfl) h198 rfl ?_); refine QV rfl ?_; refine wC 3 rfl ?_; obtain ⟨y199,hy199,hF⟩:=bB hF
         refine rS (oV (tc:=ax) p0.fObjects rfl rfl hy199 ?_); refine QV rfl ?_; refine lq ?_; refine aaX (by decide) ?_; refine aY ?_; refine aY ?_; refine cW ?_
         exact brk_1 _ _ _ (oi hF) (X0 (72,0) (72,1) rfl rfl sw)
       refine cX ?_; refine wB rfl ?_; exact cont_1 _ _ _ (oi hF) sw
     intro join hF
     refine wD 2 rfl ?_; obtain ⟨y201,hy201,hF⟩:=bB' hF
     refine rS (I3 (tc:=aV) r5 rfl rfl rfl hy201 ?_); refine rS (V0 (tc:=aV) r5 rfl rfl (vW hy201).2.1 rfl ?_); refine bW SV 3 rfl ?_; cases h202:(decide (y201 = a109))
     · have hF:=bF' h202 hF; refine QV rfl ?_; exact join false _ _ hF sw
     have hF:=bT' h202 hF; refine bW SV 4 rfl ?_; obtain ⟨y203,hy203,hF⟩:=bB' hF
     refine dj SV rfl (oV (tc:=ax) p0.fObjects rfl rfl hy203 ?_); refine bW SV 2 rfl ?_; obtain ⟨r204,hr204,hF⟩:=bB' hF
     refine dj SV rfl (fK (mQ _ _ _ hr204) ⟨rfl,rfl,trivial⟩ rfl (.inl rfl) ?_); refine QV rfl ?_; exact join r204 _ _ hF sw
   refine lq ?_; refine aY ?_; refine aY ?_; refine cW ?_; exact brk_1 _ _ _ (oi hF) sw
 refine lq ?_; refine aY ?_; refine aY ?_; refine cW ?_; exact brk_0 _ _ _ (oi hF) sw
def eJ (p0:api_Heap) (p1:Int):Option Bool :=
  ((mK p0).bind fun r1=>(bif (!r1) then ((gz ).bind fun r2=>some r2) else ((pK p0 p1).bind fun r3=>((eK p0 p1).bind fun r4=>((((d0 r3.1 r4.1).bind fun r6=>(bif r6 then (bif (decide (r3.2 = r4.2)) then ((gz ).bind fun r9=>some r9) else some false) else some false)):Option Bool).bind fun v5=>some v5)))))
theorem yV (p0:api_Heap) (p1:Int) (r:Bool) (hF:eJ p0 p1 = some r):Fun Try.prog 3 true [] [.agg [jL 4 ax p0.fObjects,jL 1 aV p0.fRoots],cI p1] aZ (cB r) aZ:=by
 refine Fun.of_walk0 Try.func3 c3 (by kernel_rfl) (rs:=[.tmp 4]) (by kernel_rfl) ?_; unfold v3
 unfold eJ at hF
 refine wA rfl ?_; refine bX ?_; refine wC 1 rfl ?_; obtain ⟨r1,hr1,hF⟩:=bB hF
 refine rS (fK (EZ _ _ hr1) ⟨⟨rfl,rfl,trivial⟩,trivial⟩ rfl (.inl rfl) ?_); refine QV rfl ?_; refine wIf hF rfl (fun _ hF=>?_) fun _ hF=>?_
 · refine wE ?_; obtain ⟨r2,hr2,hF⟩:=bB hF
   refine rS (fK (tV _ hr2) trivial rfl (.inl rfl) ?_); refine QV rfl ?_; cases hF
   exact fQ wR
 refine cX ?_; refine wC 2 rfl ?_; obtain ⟨r3,hr3,hF⟩:=bB hF
 refine rS (fK (I0 _ _ _ hr3) ⟨⟨rfl,rfl,trivial⟩,rfl,trivial⟩ rfl (.inl rfl) ?_); refine QV rfl ?_; refine wC 2 rfl ?_; obtain ⟨r4,hr4,hF⟩:=bB hF
 refine z8 trivial (Cz [((902,320),(22,1))] rfl (PZ _) (DV _ _ _ hr4) trivial ⟨.inr ⟨rfl,rfl,trivial⟩,.inl rfl,trivial⟩ rfl rfl rfl ?_); refine QV rfl ?_; refine bX ?_
 refine l7 (fun _ _ h=>h) hF (fun v5=>[(4,cB v5)]) (fun v5=>[]) ?_ ?_
 · rintro v5 hF
   cases hF
   exact fQ wR
 intro join hF
 refine wD 2 rfl ?_; obtain ⟨r6,hr6,hF⟩:=bB' hF
 refine rS (fK (iJ _ _ _ hr6) ⟨rfl,⟨_,rfl⟩,trivial⟩ rfl (.inl rfl) ?_); refine bW SV 1 rfl ?_; cases h7:r6
 · have hF:=bF' h7 hF; refine QV rfl ?_; exact join false _ _ hF sw
 have hF:=bT' h7 hF; refine bW SV 5 rfl ?_; cases h8:(decide (r3.2 = r4.2))
 · have hF:=bF' h8 hF; refine QV rfl ?_; exact join false _ _ hF sw
 have hF:=bT' h8 hF; obtain ⟨r9,hr9,hF⟩:=bB' hF
 refine dj SV rfl (fK (tV _ hr9) trivial rfl (.inl rfl) ?_); refine QV rfl ?_; exact join r9 _ _ hF sw
end Go.VM
