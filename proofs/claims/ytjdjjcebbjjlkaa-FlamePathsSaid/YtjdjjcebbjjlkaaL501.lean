/- What the functions of the law compute, each with its proof. -/
import Derived.Test.YtjdjjcebbjjlkaaRaw
import Derived.Test.YtjdjjcebbjjlkaaRows
import Derived.KernelRfl
import Derived.Lib.Bytealg
import Derived.Laws.Externs
import Derived.WalkKit
namespace Go.VM
open Go.Proofs Go.Proofs.Ytjdjjcebbjjlkaa
open Go.RowKit
set_option maxRecDepth 100000
set_option maxHeartbeats 4000000
structure api_Node where
  fParent : Int
  fName : ByteArray
  fSelf : Int
  fTotal : Int
  fCount : Int
  deriving DecidableEq
abbrev m_api_Node (x : api_Node) : List C := [.imm (tI x.fParent), .imm (.sc (.string x.fName)), .imm (tI x.fSelf), .imm (tI x.fTotal), .imm (tI x.fCount)]
def t_api_Node (x : api_Node) : List T := [tI x.fParent, .sc (.string x.fName), tI x.fSelf, tI x.fTotal, tI x.fCount]
def t_str (x : ByteArray) : List T := [.sc (.string x)]
def t_i64 (x : Int) : List T := [tI x]
def t_bool (x : Bool) : List T := [.sc (.bool x)]
def v15 : VC := (.seq (rg [vo 2 (.mv (kB false))]) (.seq (.seq (rg [vo 3 (.mv (kI 0))]) (.block 0 (.loop (.seq (.seq (rg [vm 4 3, vm 5 0, vo 6 (.lenS 5), vo 7 (.bin .lss 4 6), vm 8 7, vg 9 8 true (.mv 3), vg 10 8 true (.bin .leq 9 (kI 60)), vo 11 (.pick 8 10 (kB false))]) (.cond 11 .skip (.exit 0))) (.seq (.block 1 (.seq (rg [vm 14 0, vm 15 3, vo 16 (.ixA 5 14 15), vo 17 (.fld 1 16), vo 18 (.load 1 false 17), vo 19 (.lenT 18), vo 20 (.bin .gtr 19 (kI 200))]) (.cond 20 (.seq (rg [vo 2 (.mv (kB false))]) .ret) .skip))) (rg [vm 12 3, vo 13 (.bin .add 12 (kI 1)), vm 3 13])))))) (.seq (rg [vm 21 0, vo 22 (.lenS 21), vo 23 (.bin .leq 22 (kI 60)), vm 2 23]) .ret)))
theorem c15 : (Try.f15.body.bind fun c => cCode Try.prog 24 c) = some v15 := by kernel_rfl
def v56 : VC := (.seq (rg [vo 4 (.mv (kI 0))]) (.seq (rg [vm 5 0, vm 6 1, vo 7 (.call 68 [5,6]), vm 4 7]) .ret))
theorem c56 : (Try.f56.body.bind fun c => cCode Try.prog 8 c) = some v56 := by kernel_rfl
def v52 : VC := (.seq (rg [vo 2 (.mv (kB false))]) (.seq (rg [vm 3 0, vo 4 (.bin .geq 3 (.con (.c (.imm (.sc (.int .u8 97)))))), vm 5 4, vg 6 5 true (.mv 0), vg 7 5 true (.bin .leq 6 (.con (.c (.imm (.sc (.int .u8 122)))))), vo 8 (.pick 5 7 (kB false)), vm 9 8, vg 10 9 false (.mv 0), vg 11 9 false (.bin .geq 10 (.con (.c (.imm (.sc (.int .u8 65)))))), vg 12 9 false (.mv 11), vg 13 12 true (.mv 0), vg 14 12 true (.bin .leq 13 (.con (.c (.imm (.sc (.int .u8 90)))))), vg 15 9 false (.pick 12 14 (kB false)), vo 16 (.pick 9 (kB true) 15), vm 17 16, vg 18 17 false (.mv 0), vg 19 17 false (.bin .geq 18 (.con (.c (.imm (.sc (.int .u8 48)))))), vg 20 17 false (.mv 19), vg 21 20 true (.mv 0), vg 22 20 true (.bin .leq 21 (.con (.c (.imm (.sc (.int .u8 57)))))), vg 23 17 false (.pick 20 22 (kB false)), vo 24 (.pick 17 (kB true) 23), vm 25 24, vg 26 25 false (.mv 0), vg 27 25 false (.call 56 [(.con (.c (.imm (.sc (.string ⟨#[95,46,58,47,60,62,36,42,126,45]⟩))))),26]), vg 28 25 false (.bin .geq 27 (kI 0)), vo 29 (.pick 25 (kB true) 28), vm 2 29]) .ret))
theorem c52 : (Try.f52.body.bind fun c => cCode Try.prog 30 c) = some v52 := by kernel_rfl
def v47 : VC := (.seq (rg [vo 2 (.mv (kI 0))]) (.seq (.seq (rg [vm 4 0, vo 5 (.bin .eql 4 (.con (.c iS))), vm 6 5, vg 7 6 false (.mv 0), vg 8 6 false (.lenT 7), vg 9 6 false (.bin .gtr 8 (kI 40)), vo 10 (.pick 6 (kB true) 9)]) (.cond 10 (.seq (rg [vo 2 (.mv (kI 3))]) .ret) .skip)) (.seq (.seq (rg [vm 11 0, vo 12 (.lenT 11), vo 13 (.mv (kI 0))]) (.block 0 (.loop (.seq (rg [vo 14 (.bin .lss 13 12)]) (.seq (.cond 14 .skip (.exit 0)) (.seq (.block 1 (.seq (rg [vm 15 13, vm 3 15]) (.seq (rg [vm 16 0, vm 17 3, vo 18 (.ixS 16 17), vo 19 (.call 52 [18]), vo 20 (.un .not 19)]) (.cond 20 (.seq (rg [vo 2 (.mv (kI 3))]) .ret) .skip)))) (rg [vo 21 (.bin .add 13 (kI 1)), vm 13 21]))))))) (.seq (rg [vo 2 (.mv (kI 0))]) .ret))))
theorem c47 : (Try.f47.body.bind fun c => cCode Try.prog 22 c) = some v47 := by kernel_rfl
def v31 : VC := (.seq (rg [vo 2 (.mv (kI 0))]) (.seq (rg [vo 3 (.mv (kI 0)), vo 4 (.mv (kI 0))]) (.seq (.seq (rg [vm 8 0, vo 9 (.lenS 8), vo 10 (.mv (kI 0))]) (.block 0 (.loop (.seq (rg [vo 11 (.bin .lss 10 9)]) (.seq (.cond 11 .skip (.exit 0)) (.seq (.block 1 (.seq (rg [vo 12 (.ixA 5 8 10), vo 13 (.load 5 true 12), vo 6 (.alloc 40 [(iI 0),iS,(iI 0),(iI 0),(iI 0)]), vp (.store 5 6 13)]) (.seq (.seq (rg [vo 14 (.fld 1 6), vo 15 (.load 1 false 14), vo 16 (.call 47 [15]), vm 7 16]) (.seq (rg [vm 17 7, vo 18 (.bin .neq 17 (kI 0))]) (.cond 18 (.seq (rg [vm 19 7, vm 2 19]) .ret) .skip))) (.seq (.seq (rg [vo 20 (.fld 2 6), vo 21 (.load 1 false 20), vo 22 (.bin .lss 21 (kI 0)), vm 23 22, vg 24 23 false (.fld 2 6), vg 25 23 false (.load 1 false 24), vg 26 23 false (.bin .gtr 25 (kI 100000000000000)), vo 27 (.pick 23 (kB true) 26), vm 28 27, vg 29 28 false (.fld 4 6), vg 30 28 false (.load 1 false 29), vg 31 28 false (.bin .lss 30 (kI 0)), vo 32 (.pick 28 (kB true) 31), vm 33 32, vg 34 33 false (.fld 4 6), vg 35 33 false (.load 1 false 34), vg 36 33 false (.bin .gtr 35 (kI 20000)), vo 37 (.pick 33 (kB true) 36), vm 38 37, vg 39 38 false (.fld 4 6), vg 40 38 false (.load 1 false 39), vg 41 38 false (.bin .eql 40 (kI 0)), vg 42 38 false (.mv 41), vg 43 42 true (.fld 2 6), vg 44 42 true (.load 1 false 43), vg 45 42 true (.bin .neq 44 (kI 0)), vg 46 38 false (.pick 42 45 (kB false)), vo 47 (.pick 38 (kB true) 46)]) (.cond 47 (.seq (rg [vo 2 (.mv (kI 2))]) .ret) .skip)) (.region (some [0,0,2,7,0,0,32,112,15,511,1,0,0,0,1,0,0,0,0,0]) [vm 48 3, vo 49 (.fld 2 6), vo 50 (.load 1 false 49), vo 51 (.bin .add 48 50), vm 52 4, vo 53 (.fld 4 6), vo 54 (.load 1 false 53), vo 55 (.bin .add 52 54), vm 3 51, vm 4 55]))))) (rg [vo 56 (.bin .add 10 (kI 1)), vm 10 56]))))))) (.seq (.seq (rg [vm 57 3, vo 58 (.bin .gtr 57 (kI 100000000000000)), vm 59 58, vg 60 59 false (.mv 4), vg 61 59 false (.bin .gtr 60 (kI 20000)), vo 62 (.pick 59 (kB true) 61)]) (.cond 62 (.seq (rg [vo 2 (.mv (kI 2))]) .ret) .skip)) (.seq (rg [vo 2 (.mv (kI 0))]) .ret)))))
theorem c31 : (Try.f31.body.bind fun c => cCode Try.prog 63 c) = some v31 := by kernel_rfl
def v32 : VC := (.seq (rg [vo 2 (.mv (kI 0))]) (.seq (rg [vo 9 (.mkmap (.int .i64)), vm 3 9]) (.seq (.seq (rg [vm 10 0, vo 11 (.lenS 10), vo 12 (.mv (kI 0))]) (.block 0 (.loop (.seq (rg [vo 13 (.bin .lss 12 11)]) (.seq (.cond 13 .skip (.exit 0)) (.seq (.block 1 (.seq (rg [vm 14 12, vo 15 (.ixA 5 10 12), vo 16 (.load 5 true 15), vo 5 (.alloc 40 [(iI 0),iS,(iI 0),(iI 0),(iI 0)]), vm 4 14, vp (.store 5 5 16)]) (.seq (rg [vm 17 4, vo 18 (.bin .sub 17 (kI 1)), vm 6 18]) (.seq (.block 2 (.loop (.seq (.seq (rg [vm 19 6, vo 20 (.bin .geq 19 (kI 0)), vm 21 20, vg 22 21 true (.mv 6), vg 23 21 true (.fld 0 5), vg 24 21 true (.load 1 false 23), vg 25 21 true (.bin .neq 22 24), vo 26 (.pick 21 25 (kB false))]) (.cond 26 .skip (.exit 2))) (.block 3 (rg [vm 27 0, vm 28 6, vo 29 (.ixA 5 27 28), vo 30 (.fld 0 29), vo 31 (.load 1 false 30), vm 6 31]))))) (.seq (.seq (rg [vo 32 (.fld 0 5), vo 33 (.load 1 false 32), vm 34 6, vo 35 (.bin .neq 33 34)]) (.cond 35 (.seq (rg [vo 2 (.mv (kI 10))]) .ret) .skip)) (.seq (.seq (rg [vm 37 3, vo 38 (.fld 0 5), vo 39 (.load 1 false 38), vo 40 (.look (.int .i64) (.c iS) true 37 39), vm 36 40, vo 41 (.ext 36 0), vo 42 (.ext 36 1), vm 7 41, vm 8 42]) (.seq (rg [vm 43 8, vm 44 43, vg 45 44 true (.fld 1 5), vg 46 44 true (.load 1 false 45), vg 47 44 true (.mv 7), vg 48 44 true (.bin .leq 46 47), vo 49 (.pick 44 48 (kB false))]) (.cond 49 (.seq (rg [vo 2 (.mv (kI 11))]) .ret) .skip))) (rg [vm 50 3, vo 51 (.fld 0 5), vo 52 (.load 1 false 51), vo 53 (.fld 1 5), vo 54 (.load 1 false 53), vp (.mupd (.int .i64) 50 52 54)]))))))) (rg [vo 55 (.bin .add 12 (kI 1)), vm 12 55]))))))) (.seq (rg [vo 2 (.mv (kI 0))]) .ret))))
theorem c32 : (Try.f32.body.bind fun c => cCode Try.prog 56 c) = some v32 := by kernel_rfl
def v14 : VC := (.seq (rg [vo 2 (.mv (kI 0))]) (.seq (.seq (rg [vm 10 0, vo 11 (.lenS 10), vo 12 (.bin .gtr 11 (kI 2000))]) (.cond 12 (.seq (rg [vo 2 (.mv (kI 7))]) .ret) .skip)) (.seq (.seq (rg [vm 13 0, vo 14 (.call 31 [13]), vm 3 14]) (.seq (rg [vm 15 3, vo 16 (.bin .neq 15 (kI 0))]) (.cond 16 (.seq (rg [vm 17 3, vm 2 17]) .ret) .skip))) (.seq (.seq (rg [vm 18 0, vo 19 (.call 32 [18]), vm 4 19]) (.seq (rg [vm 20 4, vo 21 (.bin .neq 20 (kI 0))]) (.cond 21 (.seq (rg [vm 22 4, vm 2 22]) .ret) .skip))) (.seq (.region (some [0,1,3,0,8,24,7,127,1,0,0,1,0,0,0,0]) [vm 23 0, vo 24 (.lenS 23), vo 25 (.mksl 3 1 8 [(iI 0)] 24 24), vm 26 0, vo 27 (.lenS 26), vo 28 (.mksl 4 1 1 [(.imm (.sc (.bool false)))] 27 27), vm 5 25, vm 6 28]) (.seq (.seq (rg [vm 29 0, vo 30 (.lenS 29), vo 31 (.bin .sub 30 (kI 1)), vm 7 31]) (.block 0 (.loop (.seq (.seq (rg [vm 32 7, vo 33 (.bin .geq 32 (kI 0))]) (.cond 33 .skip (.exit 0))) (.seq (.block 1 (.seq (.region (some [0,0,3,7,0,0,48,112,240,511,1023,2047,1,1,0,0,1,1,0,0,0,0,0,0]) [vm 36 5, vm 37 7, vo 38 (.ixA 1 36 37), vo 39 (.load 1 false 38), vm 40 0, vm 41 7, vo 42 (.ixA 5 40 41), vo 43 (.fld 2 42), vo 44 (.load 1 false 43), vo 45 (.bin .add 39 44), vo 46 (.ixA 1 36 37), vp (.store 1 46 45)]) (.seq (rg [vm 47 6, vm 48 7, vm 49 7, vo 50 (.bin .add 49 (kI 1)), vm 51 0, vo 52 (.lenS 51), vo 53 (.bin .eql 50 52), vm 54 53, vg 55 54 false (.mv 0), vg 56 54 false (.mv 7), vg 57 54 false (.bin .add 56 (kI 1)), vg 58 54 false (.ixA 5 55 57), vg 59 54 false (.fld 0 58), vg 60 54 false (.load 1 false 59), vg 61 54 false (.mv 7), vg 62 54 false (.bin .neq 60 61), vo 63 (.pick 54 (kB true) 62), vo 64 (.ixA 1 47 48), vp (.store 1 64 63)]) (.seq (rg [vm 65 0, vm 66 7, vo 67 (.ixA 5 65 66), vo 68 (.fld 0 67), vo 69 (.load 1 false 68), vo 70 (.bin .geq 69 (kI 0))]) (.cond 70 (.region (some [0,0,0,6,14,30,63,127,0,0,768,1792,4095,8191,16383,1,1,1,0,0,0,0,0,1,1,0,0,0,0,0]) [vm 71 5, vm 72 0, vm 73 7, vo 74 (.ixA 5 72 73), vo 75 (.fld 0 74), vo 76 (.load 1 false 75), vo 77 (.ixA 1 71 76), vo 78 (.load 1 false 77), vm 79 5, vm 80 7, vo 81 (.ixA 1 79 80), vo 82 (.load 1 false 81), vo 83 (.bin .add 78 82), vo 84 (.ixA 1 71 76), vp (.store 1 84 83)]) .skip))))) (rg [vm 34 7, vo 35 (.bin .sub 34 (kI 1)), vm 7 35])))))) (.seq (.seq (rg [vm 85 0, vo 86 (.lenS 85), vo 87 (.mv (kI 0))]) (.block 2 (.loop (.seq (rg [vo 88 (.bin .lss 87 86)]) (.seq (.cond 88 .skip (.exit 2)) (.seq (.block 3 (.seq (rg [vm 89 87, vo 90 (.ixA 5 85 87), vo 91 (.load 5 true 90), vo 9 (.alloc 40 [(iI 0),iS,(iI 0),(iI 0),(iI 0)]), vm 8 89, vp (.store 5 9 91)]) (.seq (.region (some [0,0,3,7,15,31,63,127,255,511,1023,2047,1023,1023,13311,29695,65535,131071,1,1,0,0,0,0,0,0,0,0,0,0,0,0,0,0,0,0]) [vm 92 6, vm 93 8, vo 94 (.ixA 1 92 93), vo 95 (.load 1 false 94), vm 96 95, vg 97 96 true (.fld 4 9), vg 98 96 true (.load 1 false 97), vg 99 96 true (.bin .eql 98 (kI 0)), vo 100 (.pick 96 99 (kB false)), vm 101 100, vg 102 101 false (.fld 3 9), vg 103 101 false (.load 1 false 102), vg 104 101 false (.mv 5), vg 105 101 false (.mv 8), vg 106 101 false (.ixA 1 104 105), vg 107 101 false (.load 1 false 106), vg 108 101 false (.bin .neq 103 107), vo 109 (.pick 101 (kB true) 108)]) (.cond 109 (.seq (rg [vo 2 (.mv (kI 10))]) .ret) .skip)))) (rg [vo 110 (.bin .add 87 (kI 1)), vm 87 110]))))))) (.seq (rg [vo 2 (.mv (kI 0))]) .ret))))))))
theorem c14 : (Try.f14.body.bind fun c => cCode Try.prog 111 c) = some v14 := by kernel_rfl
def v37 : VC := (.seq (rg [vo 3 (.box 40 0), vo 4 (.mv (kB false))]) (.seq (rg [vo 5 (.fld 0 3), vo 6 (.load 1 false 5), vo 7 (.load 1 false 1), vo 8 (.bin .eql 6 7), vm 9 8, vg 10 9 true (.fld 1 3), vg 11 9 true (.load 1 false 10), vg 12 9 true (.load 1 false 2), vg 13 9 true (.bin .eql 11 12), vo 14 (.pick 9 13 (kB false)), vm 4 14]) .ret))
theorem c37 : (Try.f37.body.bind fun c => cCode Try.prog 15 c) = some v37 := by kernel_rfl
def v36 : VC := (.seq (rg [vo 4 (.mv (kI 0))]) (.seq (.seq (rg [vm 6 0, vo 7 (.lenS 6), vo 8 (.mv (kI 0))]) (.block 0 (.loop (.seq (rg [vo 9 (.bin .lss 8 7)]) (.seq (.cond 9 .skip (.exit 0)) (.seq (.block 1 (.seq (rg [vm 10 8, vm 5 10]) (.seq (rg [vm 11 1, vm 12 0, vm 13 5, vo 14 (.ixA 5 12 13), vo 15 (.load 5 true 14), vo 16 (.callv 11 [15])]) (.cond 16 (.seq (rg [vm 17 5, vm 4 17]) .ret) .skip)))) (rg [vo 18 (.bin .add 8 (kI 1)), vm 8 18]))))))) (.seq (rg [vo 4 (.mv (kI (-1)))]) .ret)))
theorem c36 : (Try.f36.body.bind fun c => cCode Try.prog 19 c) = some v36 := by kernel_rfl
def v18 : VC := (.seq (rg [vo 4 (.mv (kI 0))]) (.seq (.seq (rg [vm 8 0, vo 9 (.call 14 [8]), vo 10 (.bin .neq 9 (kI 0)), vm 11 10, vg 12 11 false (.mv 1), vg 13 11 false (.lenS 12), vg 14 11 false (.bin .eql 13 (kI 0)), vo 15 (.pick 11 (kB true) 14)]) (.cond 15 (.seq (rg [vo 4 (.mv (kI (-1)))]) .ret) .skip)) (.seq (rg [vo 5 (.alloc 3 [(iI 0)]), vp (.store 1 5 (kI (-1)))]) (.seq (.seq (rg [vm 16 1, vo 17 (.lenS 16), vo 18 (.mv (kI 0))]) (.block 0 (.loop (.seq (rg [vo 19 (.bin .lss 18 17)]) (.seq (.cond 19 .skip (.exit 0)) (.seq (.block 1 (.seq (rg [vo 20 (.ixA 1 16 18), vo 21 (.load 1 false 20), vo 7 (.alloc 9 [iS]), vp (.store 1 7 21)]) (.seq (rg [vm 22 0, vo 23 (.mkfn 37 [5,7]), vo 24 (.call 36 [22,23]), vp (.store 1 5 24)]) (.seq (rg [vo 25 (.load 1 false 5), vo 26 (.bin .lss 25 (kI 0))]) (.cond 26 (.seq (rg [vo 4 (.mv (kI (-1)))]) .ret) .skip))))) (rg [vo 27 (.bin .add 18 (kI 1)), vm 18 27]))))))) (.seq (rg [vo 28 (.load 1 false 5), vm 4 28]) .ret)))))
theorem c18 : (Try.f18.body.bind fun c => cCode Try.prog 29 c) = some v18 := by kernel_rfl
def v50 : VC := (.seq (rg [vm 4 0, vo 5 (.lenS 4), vo 6 (.bin .sub 5 (kI 1)), vo 2 (.mv (kI 0)), vm 3 6]) (.block 0 (.loop (.seq (.seq (rg [vm 7 2, vm 8 3, vo 9 (.bin .lss 7 8)]) (.cond 9 .skip (.exit 0))) (.seq (.block 1 (.region (some [0,0,0,0,0,0,48,112,0,0,768,1792,4083,8179,16383,32767,1,1,1,1,1,1,0,0,1,1,0,0,0,0,0,0]) [vm 14 0, vm 15 2, vm 16 0, vm 17 3, vm 18 0, vm 19 3, vo 20 (.ixA 1 18 19), vo 21 (.load 1 false 20), vm 22 0, vm 23 2, vo 24 (.ixA 1 22 23), vo 25 (.load 1 false 24), vo 26 (.ixA 1 14 15), vp (.store 1 26 21), vo 27 (.ixA 1 16 17), vp (.store 1 27 25)])) (rg [vm 10 2, vo 11 (.bin .add 10 (kI 1)), vm 12 3, vo 13 (.bin .sub 12 (kI 1)), vm 2 11, vm 3 13]))))))
theorem c50 : (Try.f50.body.bind fun c => cCode Try.prog 28 c) = some v50 := by kernel_rfl
def v38 : VC := (.seq (rg [vo 4 (.mv (.con (.c .nilS)))]) (.seq (rg [vo 5 (.mv (.con (.c .nilS)))]) (.seq (.block 0 (.loop (.seq (.seq (rg [vm 6 1, vo 7 (.bin .geq 6 (kI 0))]) (.cond 7 .skip (.exit 0))) (.seq (.block 1 (rg [vm 13 5, vm 14 0, vm 15 1, vo 16 (.ixA 5 14 15), vo 17 (.fld 1 16), vo 18 (.load 1 false 17), vo 19 (.bsl 9 1 1 [iS] [(0,1,18)]), vo 20 (.app 9 1 16 13 19), vm 5 20])) (rg [vm 8 0, vm 9 1, vo 10 (.ixA 5 8 9), vo 11 (.fld 0 10), vo 12 (.load 1 false 11), vm 1 12]))))) (.seq (rg [vm 21 5, vo 22 (.call 50 [21])]) (.seq (rg [vm 23 5, vm 4 23]) .ret)))))
theorem c38 : (Try.f38.body.bind fun c => cCode Try.prog 24 c) = some v38 := by kernel_rfl
def v19 : VC := (.seq (rg [vo 4 (.mv (.con (.c .nilS)))]) (.seq (.seq (rg [vm 5 0, vo 6 (.call 14 [5]), vo 7 (.bin .neq 6 (kI 0)), vm 8 7, vg 9 8 false (.mv 1), vg 10 8 false (.bin .lss 9 (kI 0)), vo 11 (.pick 8 (kB true) 10), vm 12 11, vg 13 12 false (.mv 1), vg 14 12 false (.mv 0), vg 15 12 false (.lenS 14), vg 16 12 false (.bin .geq 13 15), vo 17 (.pick 12 (kB true) 16)]) (.cond 17 (.seq (rg [vo 4 (.mv (.con (.c .nilS)))]) .ret) .skip)) (.seq (rg [vm 18 0, vm 19 1, vo 20 (.call 38 [18,19]), vm 4 20]) .ret)))
theorem c19 : (Try.f19.body.bind fun c => cCode Try.prog 21 c) = some v19 := by kernel_rfl
def v20 : VC := (.seq (rg [vo 4 (.mv (kI 0))]) (.seq (.seq (rg [vo 5 (.mv (kI 0))]) (.block 0 (.loop (.seq (.seq (rg [vm 6 5, vm 7 0, vo 8 (.lenS 7), vo 9 (.bin .lss 6 8), vm 10 9, vg 11 10 true (.mv 5), vg 12 10 true (.mv 1), vg 13 10 true (.lenS 12), vg 14 10 true (.bin .lss 11 13), vo 15 (.pick 10 14 (kB false))]) (.cond 15 .skip (.exit 0))) (.seq (.block 1 (.seq (.seq (.region (some [0,0,3,7,0,0,48,112,255,1,1,0,0,1,1,0,0,0]) [vm 18 0, vm 19 5, vo 20 (.ixA 1 18 19), vo 21 (.load 1 false 20), vm 22 1, vm 23 5, vo 24 (.ixA 1 22 23), vo 25 (.load 1 false 24), vo 26 (.bin .lss 21 25)]) (.cond 26 (.seq (rg [vo 4 (.mv (kI (-1)))]) .ret) .skip)) (.seq (.region (some [0,0,3,7,0,0,48,112,255,1,1,0,0,1,1,0,0,0]) [vm 27 0, vm 28 5, vo 29 (.ixA 1 27 28), vo 30 (.load 1 false 29), vm 31 1, vm 32 5, vo 33 (.ixA 1 31 32), vo 34 (.load 1 false 33), vo 35 (.bin .gtr 30 34)]) (.cond 35 (.seq (rg [vo 4 (.mv (kI 1))]) .ret) .skip)))) (rg [vm 16 5, vo 17 (.bin .add 16 (kI 1)), vm 5 17])))))) (.seq (.seq (rg [vm 36 0, vo 37 (.lenS 36), vm 38 1, vo 39 (.lenS 38), vo 40 (.bin .lss 37 39)]) (.cond 40 (.seq (rg [vo 4 (.mv (kI (-1)))]) .ret) .skip)) (.seq (.seq (rg [vm 41 0, vo 42 (.lenS 41), vm 43 1, vo 44 (.lenS 43), vo 45 (.bin .gtr 42 44)]) (.cond 45 (.seq (rg [vo 4 (.mv (kI 1))]) .ret) .skip)) (.seq (rg [vo 4 (.mv (kI 0))]) .ret)))))
theorem c20 : (Try.f20.body.bind fun c => cCode Try.prog 46 c) = some v20 := by kernel_rfl
def v13 : VC := (.seq (rg [vo 2 (.mv (kI 0))]) (.seq (.seq (rg [vm 6 0, vo 7 (.call 14 [6]), vo 8 (.bin .neq 7 (kI 0))]) (.cond 8 (.seq (rg [vo 2 (.mv (kI 0))]) .ret) .skip)) (.seq (rg [vo 3 (.mv (kI 0))]) (.seq (.seq (rg [vm 9 0, vo 10 (.lenS 9), vo 11 (.mv (kI 0))]) (.block 0 (.loop (.seq (rg [vo 12 (.bin .lss 11 10)]) (.seq (.cond 12 .skip (.exit 0)) (.seq (.block 1 (.seq (rg [vo 13 (.ixA 5 9 11), vo 14 (.load 5 true 13), vo 5 (.alloc 40 [(iI 0),iS,(iI 0),(iI 0),(iI 0)]), vp (.store 5 5 14)]) (rg [vm 15 3, vo 16 (.fld 2 5), vo 17 (.load 1 false 16), vo 18 (.bin .add 15 17), vm 3 18]))) (rg [vo 19 (.bin .add 11 (kI 1)), vm 11 19]))))))) (.seq (rg [vm 20 3, vm 2 20]) .ret)))))
theorem c13 : (Try.f13.body.bind fun c => cCode Try.prog 21 c) = some v13 := by kernel_rfl
def v53 : VC := (.seq (rg [vo 2 (.mv (kB false))]) (.seq (.seq (rg [vm 5 0, vo 6 (.bin .geq 5 (.con (.c (.imm (.sc (.int .u8 97)))))), vm 7 6, vg 8 7 true (.mv 0), vg 9 7 true (.bin .leq 8 (.con (.c (.imm (.sc (.int .u8 122)))))), vo 10 (.pick 7 9 (kB false)), vm 11 10, vg 12 11 false (.mv 0), vg 13 11 false (.bin .geq 12 (.con (.c (.imm (.sc (.int .u8 65)))))), vg 14 11 false (.mv 13), vg 15 14 true (.mv 0), vg 16 14 true (.bin .leq 15 (.con (.c (.imm (.sc (.int .u8 90)))))), vg 17 11 false (.pick 14 16 (kB false)), vo 18 (.pick 11 (kB true) 17), vm 19 18, vg 20 19 false (.mv 0), vg 21 19 false (.bin .geq 20 (.con (.c (.imm (.sc (.int .u8 48)))))), vg 22 19 false (.mv 21), vg 23 22 true (.mv 0), vg 24 22 true (.bin .leq 23 (.con (.c (.imm (.sc (.int .u8 57)))))), vg 25 19 false (.pick 22 24 (kB false)), vo 26 (.pick 19 (kB true) 25)]) (.cond 26 (.seq (rg [vo 2 (.mv (kB true))]) .ret) .skip)) (.seq (rg [vo 3 (.mv (.con (.c (.imm (.sc (.string ⟨#[95,46,58,47,60,62,36,42,126,45]⟩))))))]) (.seq (.seq (rg [vo 4 (.mv (kI 0))]) (.block 0 (.loop (.seq (.seq (rg [vm 27 4, vm 28 3, vo 29 (.lenT 28), vo 30 (.bin .lss 27 29)]) (.cond 30 .skip (.exit 0))) (.seq (.block 1 (.seq (rg [vm 33 3, vm 34 4, vo 35 (.ixS 33 34), vm 36 0, vo 37 (.bin .eql 35 36)]) (.cond 37 (.seq (rg [vo 2 (.mv (kB true))]) .ret) .skip))) (rg [vm 31 4, vo 32 (.bin .add 31 (kI 1)), vm 4 32])))))) (.seq (rg [vo 2 (.mv (kB false))]) .ret)))))
theorem c53 : (Try.f53.body.bind fun c => cCode Try.prog 38 c) = some v53 := by kernel_rfl
def v48 : VC := (.seq (rg [vo 2 (.mv (kI 0))]) (.seq (.seq (rg [vm 4 0, vo 5 (.lenT 4), vo 6 (.bin .lss 5 (kI 1)), vm 7 6, vg 8 7 false (.mv 0), vg 9 7 false (.lenT 8), vg 10 7 false (.bin .gtr 9 (kI 40)), vo 11 (.pick 7 (kB true) 10)]) (.cond 11 (.seq (rg [vo 2 (.mv (kI 3))]) .ret) .skip)) (.seq (.seq (rg [vo 3 (.mv (kI 0))]) (.block 0 (.loop (.seq (.seq (rg [vm 12 3, vm 13 0, vo 14 (.lenT 13), vo 15 (.bin .lss 12 14)]) (.cond 15 .skip (.exit 0))) (.seq (.block 1 (.seq (rg [vm 18 0, vm 19 3, vo 20 (.ixS 18 19), vo 21 (.call 53 [20]), vo 22 (.un .not 21)]) (.cond 22 (.seq (rg [vo 2 (.mv (kI 3))]) .ret) .skip))) (rg [vm 16 3, vo 17 (.bin .add 16 (kI 1)), vm 3 17])))))) (.seq (rg [vo 2 (.mv (kI 0))]) .ret))))
theorem c48 : (Try.f48.body.bind fun c => cCode Try.prog 23 c) = some v48 := by kernel_rfl
def v33 : VC := (.seq (rg [vo 2 (.mv (kI 0))]) (.seq (rg [vo 3 (.mv (kI 0)), vo 4 (.mv (kI 0))]) (.seq (.seq (rg [vo 5 (.mv (kI 0))]) (.block 0 (.loop (.seq (.seq (rg [vm 8 5, vm 9 0, vo 10 (.lenS 9), vo 11 (.bin .lss 8 10)]) (.cond 11 .skip (.exit 0))) (.seq (.block 1 (.seq (rg [vm 14 0, vm 15 5, vo 16 (.ixA 5 14 15), vo 17 (.load 5 true 16), vo 6 (.alloc 40 [(iI 0),iS,(iI 0),(iI 0),(iI 0)]), vp (.store 5 6 17)]) (.seq (rg [vo 18 (.fld 1 6), vo 19 (.load 1 false 18), vo 20 (.call 48 [19]), vm 7 20]) (.seq (.seq (rg [vm 21 7, vo 22 (.bin .neq 21 (kI 0))]) (.cond 22 (.seq (rg [vm 23 7, vm 2 23]) .ret) .skip)) (.seq (.seq (rg [vo 24 (.fld 2 6), vo 25 (.load 1 false 24), vo 26 (.bin .lss 25 (kI 0)), vm 27 26, vg 28 27 false (.fld 2 6), vg 29 27 false (.load 1 false 28), vg 30 27 false (.bin .gtr 29 (kI 100000000000000)), vo 31 (.pick 27 (kB true) 30), vm 32 31, vg 33 32 false (.fld 4 6), vg 34 32 false (.load 1 false 33), vg 35 32 false (.bin .lss 34 (kI 0)), vo 36 (.pick 32 (kB true) 35), vm 37 36, vg 38 37 false (.fld 4 6), vg 39 37 false (.load 1 false 38), vg 40 37 false (.bin .gtr 39 (kI 20000)), vo 41 (.pick 37 (kB true) 40), vm 42 41, vg 43 42 false (.fld 4 6), vg 44 42 false (.load 1 false 43), vg 45 42 false (.bin .eql 44 (kI 0)), vg 46 42 false (.mv 45), vg 47 46 true (.fld 2 6), vg 48 46 true (.load 1 false 47), vg 49 46 true (.bin .neq 48 (kI 0)), vg 50 42 false (.pick 46 49 (kB false)), vo 51 (.pick 42 (kB true) 50)]) (.cond 51 (.seq (rg [vo 2 (.mv (kI 2))]) .ret) .skip)) (.seq (rg [vm 52 3, vo 53 (.fld 2 6), vo 54 (.load 1 false 53), vo 55 (.bin .add 52 54), vm 3 55]) (rg [vm 56 4, vo 57 (.fld 4 6), vo 58 (.load 1 false 57), vo 59 (.bin .add 56 58), vm 4 59]))))))) (rg [vm 12 5, vo 13 (.bin .add 12 (kI 1)), vm 5 13])))))) (.seq (.seq (rg [vm 60 3, vo 61 (.bin .gtr 60 (kI 100000000000000)), vm 62 61, vg 63 62 false (.mv 4), vg 64 62 false (.bin .gtr 63 (kI 20000)), vo 65 (.pick 62 (kB true) 64)]) (.cond 65 (.seq (rg [vo 2 (.mv (kI 2))]) .ret) .skip)) (.seq (rg [vo 2 (.mv (kI 0))]) .ret)))))
theorem c33 : (Try.f33.body.bind fun c => cCode Try.prog 66 c) = some v33 := by kernel_rfl
def v49 : VC := (.seq (rg [vo 6 (.mv (kB false))]) (.seq (.block 0 (.loop (.seq (.seq (rg [vm 7 2, vo 8 (.bin .geq 7 (kI 0)), vm 9 8, vg 10 9 true (.mv 2), vg 11 9 true (.mv 1), vg 12 9 true (.bin .neq 10 11), vo 13 (.pick 9 12 (kB false))]) (.cond 13 .skip (.exit 0))) (.block 1 (rg [vm 14 0, vm 15 2, vo 16 (.ixA 5 14 15), vo 17 (.fld 0 16), vo 18 (.load 1 false 17), vm 2 18]))))) (.seq (rg [vm 19 2, vm 20 1, vo 21 (.bin .eql 19 20), vm 6 21]) .ret)))
theorem c49 : (Try.f49.body.bind fun c => cCode Try.prog 22 c) = some v49 := by kernel_rfl
def v34 : VC := (.seq (rg [vo 2 (.mv (kI 0))]) (.seq (.seq (rg [vo 3 (.mv (kI 0))]) (.block 0 (.loop (.seq (.seq (rg [vm 6 3, vm 7 0, vo 8 (.lenS 7), vo 9 (.bin .lss 6 8)]) (.cond 9 .skip (.exit 0))) (.seq (.block 1 (.seq (rg [vm 12 0, vm 13 3, vo 14 (.ixA 5 12 13), vo 15 (.fld 0 14), vo 16 (.load 1 false 15), vm 4 16]) (.seq (.seq (rg [vm 17 4, vo 18 (.bin .lss 17 (kI (-1))), vm 19 18, vg 20 19 false (.mv 4), vg 21 19 false (.mv 3), vg 22 19 false (.bin .geq 20 21), vo 23 (.pick 19 (kB true) 22), vm 24 23, vg 25 24 false (.mv 4), vg 26 24 false (.bin .geq 25 (kI 0)), vg 27 24 false (.mv 26), vg 28 27 true (.mv 0), vg 29 27 true (.mv 4), vg 30 27 true (.mv 3), vg 31 27 true (.bin .sub 30 (kI 1)), vg 32 27 true (.call 49 [28,29,31]), vg 33 27 true (.un .not 32), vg 34 24 false (.pick 27 33 (kB false)), vo 35 (.pick 24 (kB true) 34)]) (.cond 35 (.seq (rg [vo 2 (.mv (kI 10))]) .ret) .skip)) (.seq (rg [vm 36 3, vo 37 (.bin .sub 36 (kI 1)), vm 5 37]) (.seq (.block 2 (.loop (.seq (.seq (rg [vm 38 5, vo 39 (.bin .geq 38 (kI 0)), vm 40 39, vg 41 40 true (.mv 0), vg 42 40 true (.mv 5), vg 43 40 true (.ixA 5 41 42), vg 44 40 true (.fld 0 43), vg 45 40 true (.load 1 false 44), vg 46 40 true (.mv 4), vg 47 40 true (.bin .neq 45 46), vo 48 (.pick 40 47 (kB false))]) (.cond 48 .skip (.exit 2))) (.block 3 (rg [vm 49 5, vo 50 (.bin .sub 49 (kI 1)), vm 5 50]))))) (.seq (.region (some [0,1,3,7,7,31,63,127,7,7,775,1799,3847,8191,16383,1,0,0,0,0,0,0,0,0,0,0,0,0,0,0]) [vm 51 5, vo 52 (.bin .geq 51 (kI 0)), vm 53 52, vg 54 53 true (.mv 0), vg 55 53 true (.mv 5), vg 56 53 true (.ixA 5 54 55), vg 57 53 true (.fld 1 56), vg 58 53 true (.load 1 false 57), vg 59 53 true (.mv 0), vg 60 53 true (.mv 3), vg 61 53 true (.ixA 5 59 60), vg 62 53 true (.fld 1 61), vg 63 53 true (.load 1 false 62), vg 64 53 true (.bin .geq 58 63), vo 65 (.pick 53 64 (kB false))]) (.cond 65 (.seq (rg [vo 2 (.mv (kI 11))]) .ret) .skip))))))) (rg [vm 10 3, vo 11 (.bin .add 10 (kI 1)), vm 3 11])))))) (.seq (rg [vo 2 (.mv (kI 0))]) .ret)))
theorem c34 : (Try.f34.body.bind fun c => cCode Try.prog 66 c) = some v34 := by kernel_rfl
def v35 : VC := (.seq (rg [vo 2 (.mv (kI 0))]) (.seq (.seq (rg [vo 3 (.mv (kI 0))]) (.block 0 (.loop (.seq (.seq (rg [vm 7 3, vm 8 0, vo 9 (.lenS 8), vo 10 (.bin .lss 7 9)]) (.cond 10 .skip (.exit 0))) (.seq (.block 1 (.seq (rg [vm 13 0, vm 14 3, vo 15 (.ixA 5 13 14), vo 16 (.fld 2 15), vo 17 (.load 1 false 16), vm 4 17, vo 5 (.mv (kB true))]) (.seq (.seq (rg [vm 18 3, vo 19 (.bin .add 18 (kI 1)), vm 6 19]) (.block 2 (.loop (.seq (.seq (rg [vm 20 6, vm 21 0, vo 22 (.lenS 21), vo 23 (.bin .lss 20 22)]) (.cond 23 .skip (.exit 2))) (.seq (.block 3 (.seq (rg [vm 26 0, vm 27 6, vo 28 (.ixA 5 26 27), vo 29 (.fld 0 28), vo 30 (.load 1 false 29), vm 31 3, vo 32 (.bin .eql 30 31)]) (.cond 32 (.seq (rg [vm 33 4, vm 34 0, vm 35 6, vo 36 (.ixA 5 34 35), vo 37 (.fld 3 36), vo 38 (.load 1 false 37), vo 39 (.bin .add 33 38), vm 4 39]) (rg [vo 5 (.mv (kB false))])) .skip))) (rg [vm 24 6, vo 25 (.bin .add 24 (kI 1)), vm 6 25])))))) (.seq (rg [vm 40 5, vm 41 40, vg 42 41 true (.mv 0), vg 43 41 true (.mv 3), vg 44 41 true (.ixA 5 42 43), vg 45 41 true (.fld 4 44), vg 46 41 true (.load 1 false 45), vg 47 41 true (.bin .eql 46 (kI 0)), vo 48 (.pick 41 47 (kB false)), vm 49 48, vg 50 49 false (.mv 4), vg 51 49 false (.mv 0), vg 52 49 false (.mv 3), vg 53 49 false (.ixA 5 51 52), vg 54 49 false (.fld 3 53), vg 55 49 false (.load 1 false 54), vg 56 49 false (.bin .neq 50 55), vo 57 (.pick 49 (kB true) 56)]) (.cond 57 (.seq (rg [vo 2 (.mv (kI 10))]) .ret) .skip))))) (rg [vm 11 3, vo 12 (.bin .add 11 (kI 1)), vm 3 12])))))) (.seq (rg [vo 2 (.mv (kI 0))]) .ret)))
theorem c35 : (Try.f35.body.bind fun c => cCode Try.prog 58 c) = some v35 := by kernel_rfl
def v16 : VC := (.seq (rg [vo 2 (.mv (kI 0))]) (.seq (.seq (rg [vm 4 0, vo 5 (.lenS 4), vo 6 (.bin .gtr 5 (kI 2000))]) (.cond 6 (.seq (rg [vo 2 (.mv (kI 7))]) .ret) .skip)) (.seq (rg [vm 7 0, vo 8 (.call 33 [7]), vm 3 8]) (.seq (.seq (rg [vm 9 3, vo 10 (.bin .eql 9 (kI 0))]) (.cond 10 (rg [vm 11 0, vo 12 (.call 34 [11]), vm 3 12]) .skip)) (.seq (.seq (rg [vm 13 3, vo 14 (.bin .eql 13 (kI 0))]) (.cond 14 (rg [vm 15 0, vo 16 (.call 35 [15]), vm 3 16]) .skip)) (.seq (rg [vm 17 3, vm 2 17]) .ret))))))
theorem c16 : (Try.f16.body.bind fun c => cCode Try.prog 18 c) = some v16 := by kernel_rfl
def v39 : VC := (.seq (rg [vo 4 (.mv (.con (.c .nilS)))]) (.seq (.seq (rg [vm 6 0, vo 7 (.call 16 [6]), vo 8 (.bin .neq 7 (kI 0)), vm 9 8, vg 10 9 false (.mv 1), vg 11 9 false (.bin .lss 10 (kI 0)), vo 12 (.pick 9 (kB true) 11), vm 13 12, vg 14 13 false (.mv 1), vg 15 13 false (.mv 0), vg 16 13 false (.lenS 15), vg 17 13 false (.bin .geq 14 16), vo 18 (.pick 13 (kB true) 17)]) (.cond 18 (.seq (rg [vo 4 (.mv (.con (.c .nilS)))]) .ret) .skip)) (.seq (rg [vo 5 (.mv (.con (.c .nilS)))]) (.seq (.block 0 (.loop (.seq (.seq (rg [vm 19 1, vo 20 (.bin .geq 19 (kI 0))]) (.cond 20 .skip (.exit 0))) (.block 1 (.seq (rg [vm 21 0, vm 22 1, vo 23 (.ixA 5 21 22), vo 24 (.fld 1 23), vo 25 (.load 1 false 24), vo 26 (.bsl 9 1 1 [iS] [(0,1,25)]), vm 27 5, vo 28 (.app 9 1 16 26 27), vm 5 28]) (rg [vm 29 0, vm 30 1, vo 31 (.ixA 5 29 30), vo 32 (.fld 0 31), vo 33 (.load 1 false 32), vm 1 33])))))) (.seq (rg [vm 34 5, vm 4 34]) .ret)))))
theorem c39 : (Try.f39.body.bind fun c => cCode Try.prog 35 c) = some v39 := by kernel_rfl
def v21 : VC := (.seq (rg [vo 4 (.mv (kI 0))]) (.seq (.seq (rg [vm 6 1, vo 7 (.lenS 6), vo 8 (.bin .eql 7 (kI 0))]) (.cond 8 (.seq (rg [vo 4 (.mv (kI (-1)))]) .ret) .skip)) (.seq (.seq (rg [vo 5 (.mv (kI 0))]) (.block 0 (.loop (.seq (.seq (rg [vm 9 5, vm 10 0, vo 11 (.lenS 10), vo 12 (.bin .lss 9 11)]) (.cond 12 .skip (.exit 0))) (.seq (.block 1 (.seq (rg [vm 15 0, vm 16 5, vo 17 (.call 39 [15,16]), vm 18 1, vo 19 (.call 20 [17,18]), vo 20 (.bin .eql 19 (kI 0))]) (.cond 20 (.seq (rg [vm 21 5, vm 4 21]) .ret) .skip))) (rg [vm 13 5, vo 14 (.bin .add 13 (kI 1)), vm 5 14])))))) (.seq (rg [vo 4 (.mv (kI (-1)))]) .ret))))
theorem c21 : (Try.f21.body.bind fun c => cCode Try.prog 22 c) = some v21 := by kernel_rfl
def v5 : VC := (.seq (rg [vo 4 (.mv (kB false))]) (.seq (.seq (rg [vo 9 (.call 8 []), vo 10 (.un .not 9), vm 11 10, vg 12 11 false (.mv 0), vg 13 11 false (.call 15 [12]), vg 14 11 false (.un .not 13), vo 15 (.pick 11 (kB true) 14), vm 16 15, vg 17 16 false (.mv 0), vg 18 16 false (.lenS 17), vg 19 16 false (.bin .gtr 18 (kI 40)), vo 20 (.pick 16 (kB true) 19), vm 21 20, vg 22 21 false (.mv 1), vg 23 21 false (.lenS 22), vg 24 21 false (.bin .gtr 23 (kI 40)), vo 25 (.pick 21 (kB true) 24)]) (.cond 25 (.seq (rg [vo 26 (.call 8 []), vm 4 26]) .ret) .skip)) (.seq (.seq (rg [vm 27 0, vo 28 (.call 14 [27]), vo 29 (.bin .neq 28 (kI 0))]) (.cond 29 (.seq (rg [vm 30 0, vm 31 1, vo 32 (.call 18 [30,31]), vo 33 (.bin .eql 32 (kI (-1))), vm 34 33, vg 35 34 true (.mv 0), vg 36 34 true (.call 19 [35,(kI 0)]), vg 37 34 true (.lenS 36), vg 38 34 true (.bin .eql 37 (kI 0)), vo 39 (.pick 34 38 (kB false)), vm 4 39]) .ret) .skip)) (.seq (rg [vo 5 (.mv (kI 0))]) (.seq (rg [vo 6 (.mv (.con (.c .nilS)))]) (.seq (.seq (rg [vo 7 (.mv (kI 0))]) (.block 0 (.loop (.seq (.seq (rg [vm 40 7, vm 41 0, vo 42 (.lenS 41), vo 43 (.bin .lss 40 42)]) (.cond 43 .skip (.exit 0))) (.seq (.block 1 (.seq (rg [vm 46 0, vm 47 7, vo 48 (.call 19 [46,47]), vm 8 48]) (.seq (.seq (rg [vm 49 8, vo 50 (.lenS 49), vo 51 (.bin .eql 50 (kI 0)), vm 52 51, vg 53 52 false (.mv 0), vg 54 52 false (.mv 8), vg 55 52 false (.call 18 [53,54]), vg 56 52 false (.mv 7), vg 57 52 false (.bin .neq 55 56), vo 58 (.pick 52 (kB true) 57), vm 59 58, vg 60 59 false (.mv 7), vg 61 59 false (.bin .gtr 60 (kI 0)), vg 62 59 false (.mv 61), vg 63 62 true (.mv 6), vg 64 62 true (.mv 8), vg 65 62 true (.call 20 [63,64]), vg 66 62 true (.bin .geq 65 (kI 0)), vg 67 59 false (.pick 62 66 (kB false)), vo 68 (.pick 59 (kB true) 67)]) (.cond 68 (.seq (rg [vo 4 (.mv (kB false))]) .ret) .skip)) (.seq (rg [vm 69 8, vm 6 69]) (.seq (rg [vm 70 0, vm 71 7, vo 72 (.ixA 5 70 71), vo 73 (.fld 0 72), vo 74 (.load 1 false 73), vo 75 (.bin .eql 74 (kI (-1)))]) (.cond 75 (rg [vm 76 5, vm 77 0, vm 78 7, vo 79 (.ixA 5 77 78), vo 80 (.fld 3 79), vo 81 (.load 1 false 80), vo 82 (.bin .add 76 81), vm 5 82]) .skip)))))) (rg [vm 44 7, vo 45 (.bin .add 44 (kI 1)), vm 7 45])))))) (.seq (rg [vm 83 5, vm 84 0, vo 85 (.call 13 [84]), vo 86 (.bin .eql 83 85), vm 87 86, vg 88 87 true (.mv 0), vg 89 87 true (.mv 1), vg 90 87 true (.call 18 [88,89]), vg 91 87 true (.mv 0), vg 92 87 true (.mv 1), vg 93 87 true (.call 21 [91,92]), vg 94 87 true (.bin .eql 90 93), vo 95 (.pick 87 94 (kB false)), vm 96 95, vg 97 96 true (.mv 0), vg 98 96 true (.call 19 [97,(kI (-1))]), vg 99 96 true (.lenS 98), vg 100 96 true (.mv 0), vg 101 96 true (.mv 0), vg 102 96 true (.lenS 101), vg 103 96 true (.call 19 [100,102]), vg 104 96 true (.lenS 103), vg 105 96 true (.bin .add 99 104), vg 106 96 true (.bin .eql 105 (kI 0)), vo 107 (.pick 96 106 (kB false)), vm 4 107]) .ret)))))))
theorem c5 : (Try.f5.body.bind fun c => cCode Try.prog 108 c) = some v5 := by kernel_rfl
theorem fnOk37 : fnOk Try.prog 37 = true := by kernel_rfl
def tracebooklaw50_awake : Option Bool := some true
theorem tracebooklaw50_awake_fun (r : Bool) (hF : tracebooklaw50_awake = some r) : Fun Try.prog 8 true [] [] noHeap (cB r) noHeap := by
 cases hF
 exact Go.RM.awake50 true
def tracebookref50_Few_L1 (p0 : (List api_Node)) : Int → Option (Int ⊕ (Unit ⊕ Bool)) := fun a14 =>
  (((bif (decide (a14 < (List.length p0 : Int))) then some (decide (a14 ≤ 60)) else some false) : Option Bool).bind fun v20 => (bif v20 then ((idx p0 a14).bind fun y21 => (bif (decide (200 < (ByteArray.size y21.fName : Int))) then some (.inr (.inr false)) else some (.inl (w64 (a14 + 1))))) else some (.inr (.inl ()))))
def tracebookref50_Few (p0 : (List api_Node)) : Option Bool :=
  ((loop (tracebookref50_Few_L1 p0) 0).bind fun | .inl _ => some (decide ((List.length p0 : Int) ≤ 60)) | .inr rv => some rv)
theorem tracebookref50_Few_fun (p0 : (List api_Node)) (r : Bool) (hF : tracebookref50_Few p0 = some r) : Fun Try.prog 15 true [] [cL 5 t_api_Node p0] noHeap (cB r) noHeap := by
 refine Fun.of_walk0 Try.func15 c15 (by kernel_rfl) (rs := [.tmp 2]) (by kernel_rfl) ?_; unfold v15
 unfold tracebookref50_Few at hF
 refine wA rfl ?_; refine W_seq ?_; refine wA rfl ?_; refine W_for (fun _ _ h => h) hF (.inl) (fun a14 => [(0, cL 5 t_api_Node p0), (3, cI a14)]) (fun a14 => []) (fun _ => [(0, cL 5 t_api_Node p0)]) (fun _ => []) sw ?_ ?_
 · rintro ⟨⟩ hF
   refine wC 1 rfl ?_; refine rS (T_len (tc := t_api_Node) p0 .tree ?_); refine QV rfl ?_; cases hF
   exact W_ret wR
 rintro a14 x_0 hF cont_0 brk_0 fin_0
 unfold tracebookref50_Few_L1 at hF
 refine W_seq ?_; refine W_seq ?_; refine W_join (fun _ _ h => h) hF (fun v20 => [(0, cL 5 t_api_Node p0), (3, cI a14), (11, cB v20)]) (fun v20 => []) ?_ ?_
 · rintro v20 hF
   refine wIf hF rfl (fun _ hF => ?_) fun _ hF => ?_
   · refine W_skip ?_; refine W_seq ?_; refine W_block ?_; refine wC 2 rfl ?_; obtain ⟨y21, hy21, hF⟩ := bB hF
     refine rS (T_ixT (tc := t_api_Node) p0 rfl rfl hy21 ?_); refine QV rfl ?_; refine wIf hF rfl (fun _ hF => ?_) fun _ hF => ?_
     · refine wA rfl ?_; have hF := fin_0 _ (oi hF); cases hF
       exact W_ret wR
     refine W_skip ?_; refine wB rfl ?_; exact cont_0 _ _ _ (oi hF) sw
   refine W_exit ?_; refine thenQ_exit ?_; refine thenQ_exit ?_; refine blockQ_hit ?_; exact brk_0 _ _ _ (oi hF) sw
 intro join hF
 refine wD 2 rfl ?_; refine rS (T_len (tc := t_api_Node) p0 .tree ?_); refine Q_run SV 2 rfl ?_; cases h24 : (decide (a14 < (List.length p0 : Int)))
 · have hF := bF' h24 hF; refine QV rfl ?_; exact join false _ _ hF sw
 have hF := bT' h24 hF; refine QV rfl ?_; exact join (decide (a14 ≤ 60)) _ _ hF sw
def internal_stringslite_IndexByte (p0 : ByteArray) (p1 : Int) : Option Int := some (Go.Lib.indexByte p0.data.toList p1.toNat.toUInt8)
theorem internal_stringslite_IndexByte_fun (p0 : ByteArray) (p1 : Int) (r : Int) (hF : internal_stringslite_IndexByte p0 p1 = some r) : Fun Try.prog 68 true [] [.c (jS p0), .c (.imm (.sc (.int .u8 p1)))] noHeap (cI r) noHeap := by
 cases hF
 refine Fun.of_plain [.string p0, .int .u8 p1] (.int .i64 (Go.Lib.indexByte p0.data.toList p1.toNat.toUInt8)) (fun w => ?_) rfl
 go_enter Try.func68, Try.ntmps68; go_wp2; rw [run_callFunc_extern Try.func75 (by kernel_rfl) (by kernel_rfl) (by kernel_rfl) (e := Extern.BytealgIndexByte.indexByte) (by kernel_rfl), Go.Lib.run_indexByteString]
 simp only [Result.andThen]; rw [Oper.upon_value]; go_wp2; go_ret; exact ⟨rfl, rfl⟩
def strings_IndexByte (p0 : ByteArray) (p1 : Int) : Option Int :=
  ((internal_stringslite_IndexByte p0 p1).bind fun r1 => some r1)
theorem strings_IndexByte_fun (p0 : ByteArray) (p1 : Int) (r : Int) (hF : strings_IndexByte p0 p1 = some r) : Fun Try.prog 56 true [] [.c (jS p0), .c (.imm (.sc (.int .u8 p1)))] noHeap (cI r) noHeap := by
 refine Fun.of_walk0 Try.func56 c56 (by kernel_rfl) (rs := [.tmp 4]) (by kernel_rfl) ?_; unfold v56
 unfold strings_IndexByte at hF
 refine wA rfl ?_; refine wC 2 rfl ?_; obtain ⟨r1, hr1, hF⟩ := bB hF
 refine rS (T_call (internal_stringslite_IndexByte_fun _ _ _ hr1) ⟨rfl, rfl, trivial⟩ rfl (.inl rfl) ?_); refine QV rfl ?_; cases hF
 exact W_ret wR
def intern_letter (p0 : Int) : Option Bool :=
  (((bif (decide (97 ≤ p0)) then (bif (decide (p0 ≤ 122)) then some true else (bif (decide (65 ≤ p0)) then (bif (decide (p0 ≤ 90)) then some true else (bif (decide (48 ≤ p0)) then (bif (decide (p0 ≤ 57)) then some true else ((strings_IndexByte ⟨#[95, 46, 58, 47, 60, 62, 36, 42, 126, 45]⟩ p0).bind fun r23 => some (decide (0 ≤ r23)))) else ((strings_IndexByte ⟨#[95, 46, 58, 47, 60, 62, 36, 42, 126, 45]⟩ p0).bind fun r21 => some (decide (0 ≤ r21))))) else (bif (decide (48 ≤ p0)) then (bif (decide (p0 ≤ 57)) then some true else ((strings_IndexByte ⟨#[95, 46, 58, 47, 60, 62, 36, 42, 126, 45]⟩ p0).bind fun r18 => some (decide (0 ≤ r18)))) else ((strings_IndexByte ⟨#[95, 46, 58, 47, 60, 62, 36, 42, 126, 45]⟩ p0).bind fun r16 => some (decide (0 ≤ r16)))))) else (bif (decide (65 ≤ p0)) then (bif (decide (p0 ≤ 90)) then some true else (bif (decide (48 ≤ p0)) then (bif (decide (p0 ≤ 57)) then some true else ((strings_IndexByte ⟨#[95, 46, 58, 47, 60, 62, 36, 42, 126, 45]⟩ p0).bind fun r12 => some (decide (0 ≤ r12)))) else ((strings_IndexByte ⟨#[95, 46, 58, 47, 60, 62, 36, 42, 126, 45]⟩ p0).bind fun r10 => some (decide (0 ≤ r10))))) else (bif (decide (48 ≤ p0)) then (bif (decide (p0 ≤ 57)) then some true else ((strings_IndexByte ⟨#[95, 46, 58, 47, 60, 62, 36, 42, 126, 45]⟩ p0).bind fun r7 => some (decide (0 ≤ r7)))) else ((strings_IndexByte ⟨#[95, 46, 58, 47, 60, 62, 36, 42, 126, 45]⟩ p0).bind fun r5 => some (decide (0 ≤ r5)))))) : Option Bool).bind fun v1 => some v1)
theorem intern_letter_fun (p0 : Int) (r : Bool) (hF : intern_letter p0 = some r) : Fun Try.prog 52 true [] [.c (.imm (.sc (.int .u8 p0)))] noHeap (cB r) noHeap := by
 refine Fun.of_walk0 Try.func52 c52 (by kernel_rfl) (rs := [.tmp 2]) (by kernel_rfl) ?_; unfold v52
 unfold intern_letter at hF
 refine wA rfl ?_; refine W_seq ?_; refine W_join (fun _ _ h => h) hF (fun v1 => [(2, cB v1)]) (fun v1 => []) ?_ ?_
 · rintro v1 hF
   cases hF
   exact W_ret wR
 intro join hF
 refine wD 3 rfl ?_; cases h2 : (decide (97 ≤ p0))
 · have hF := bF' h2 hF; refine Q_run SV 7 rfl ?_; cases h3 : (decide (65 ≤ p0))
   · have hF := bF' h3 hF; refine Q_run SV 8 rfl ?_; cases h4 : (decide (48 ≤ p0))
     · have hF := bF' h4 hF; refine Q_run SV 6 rfl ?_; obtain ⟨r5, hr5, hF⟩ := bB' hF
       refine R_step SV rfl (T_call (strings_IndexByte_fun _ _ _ hr5) ⟨rfl, rfl, trivial⟩ rfl (.inl rfl) ?_); refine QV rfl ?_; exact join (decide (0 ≤ r5)) _ _ hF sw
     have hF := bT' h4 hF; refine Q_run SV 5 rfl ?_; cases h6 : (decide (p0 ≤ 57))
     · have hF := bF' h6 hF; refine Q_run SV 1 rfl ?_; obtain ⟨r7, hr7, hF⟩ := bB' hF
       refine R_step SV rfl (T_call (strings_IndexByte_fun _ _ _ hr7) ⟨rfl, rfl, trivial⟩ rfl (.inl rfl) ?_); refine QV rfl ?_; exact join (decide (0 ≤ r7)) _ _ hF sw
     have hF := bT' h6 hF; refine QV rfl ?_; exact join true _ _ hF sw
   have hF := bT' h3 hF; refine Q_run SV 5 rfl ?_; cases h8 : (decide (p0 ≤ 90))
   · have hF := bF' h8 hF; refine Q_run SV 3 rfl ?_; cases h9 : (decide (48 ≤ p0))
     · have hF := bF' h9 hF; refine Q_run SV 6 rfl ?_; obtain ⟨r10, hr10, hF⟩ := bB' hF
       refine R_step SV rfl (T_call (strings_IndexByte_fun _ _ _ hr10) ⟨rfl, rfl, trivial⟩ rfl (.inl rfl) ?_); refine QV rfl ?_; exact join (decide (0 ≤ r10)) _ _ hF sw
     have hF := bT' h9 hF; refine Q_run SV 5 rfl ?_; cases h11 : (decide (p0 ≤ 57))
     · have hF := bF' h11 hF; refine Q_run SV 1 rfl ?_; obtain ⟨r12, hr12, hF⟩ := bB' hF
       refine R_step SV rfl (T_call (strings_IndexByte_fun _ _ _ hr12) ⟨rfl, rfl, trivial⟩ rfl (.inl rfl) ?_); refine QV rfl ?_; exact join (decide (0 ≤ r12)) _ _ hF sw
     have hF := bT' h11 hF; refine QV rfl ?_; exact join true _ _ hF sw
   have hF := bT' h8 hF; refine QV rfl ?_; exact join true _ _ hF sw
 have hF := bT' h2 hF; refine Q_run SV 4 rfl ?_; cases h13 : (decide (p0 ≤ 122))
 · have hF := bF' h13 hF; refine Q_run SV 3 rfl ?_; cases h14 : (decide (65 ≤ p0))
   · have hF := bF' h14 hF; refine Q_run SV 8 rfl ?_; cases h15 : (decide (48 ≤ p0))
     · have hF := bF' h15 hF; refine Q_run SV 6 rfl ?_; obtain ⟨r16, hr16, hF⟩ := bB' hF
       refine R_step SV rfl (T_call (strings_IndexByte_fun _ _ _ hr16) ⟨rfl, rfl, trivial⟩ rfl (.inl rfl) ?_); refine QV rfl ?_; exact join (decide (0 ≤ r16)) _ _ hF sw
     have hF := bT' h15 hF; refine Q_run SV 5 rfl ?_; cases h17 : (decide (p0 ≤ 57))
     · have hF := bF' h17 hF; refine Q_run SV 1 rfl ?_; obtain ⟨r18, hr18, hF⟩ := bB' hF
       refine R_step SV rfl (T_call (strings_IndexByte_fun _ _ _ hr18) ⟨rfl, rfl, trivial⟩ rfl (.inl rfl) ?_); refine QV rfl ?_; exact join (decide (0 ≤ r18)) _ _ hF sw
     have hF := bT' h17 hF; refine QV rfl ?_; exact join true _ _ hF sw
   have hF := bT' h14 hF; refine Q_run SV 5 rfl ?_; cases h19 : (decide (p0 ≤ 90))
   · have hF := bF' h19 hF; refine Q_run SV 3 rfl ?_; cases h20 : (decide (48 ≤ p0))
     · have hF := bF' h20 hF; refine Q_run SV 6 rfl ?_; obtain ⟨r21, hr21, hF⟩ := bB' hF
       refine R_step SV rfl (T_call (strings_IndexByte_fun _ _ _ hr21) ⟨rfl, rfl, trivial⟩ rfl (.inl rfl) ?_); refine QV rfl ?_; exact join (decide (0 ≤ r21)) _ _ hF sw
     have hF := bT' h20 hF; refine Q_run SV 5 rfl ?_; cases h22 : (decide (p0 ≤ 57))
     · have hF := bF' h22 hF; refine Q_run SV 1 rfl ?_; obtain ⟨r23, hr23, hF⟩ := bB' hF
       refine R_step SV rfl (T_call (strings_IndexByte_fun _ _ _ hr23) ⟨rfl, rfl, trivial⟩ rfl (.inl rfl) ?_); refine QV rfl ?_; exact join (decide (0 ≤ r23)) _ _ hF sw
     have hF := bT' h22 hF; refine QV rfl ?_; exact join true _ _ hF sw
   have hF := bT' h19 hF; refine QV rfl ?_; exact join true _ _ hF sw
 have hF := bT' h13 hF; refine QV rfl ?_; exact join true _ _ hF sw
def intern_Name_L1 (p0 : ByteArray) : Int → Option (Int ⊕ (Unit ⊕ Int)) := fun a13 =>
  (bif (decide (a13 < (ByteArray.size p0 : Int))) then ((idx (ByteArray.data p0).toList a13).bind fun y18 => ((intern_letter (UInt8.toNat y18 : Int)).bind fun r19 => (bif (!r19) then some (.inr (.inr 3)) else some (.inl (w64 (a13 + 1)))))) else some (.inr (.inl ())))
def intern_Name (p0 : ByteArray) : Option Int :=
  (((bif (decide (p0 = ⟨#[]⟩)) then some true else some (decide (40 < (ByteArray.size p0 : Int)))) : Option Bool).bind fun v1 => (bif v1 then some 3 else ((loop (intern_Name_L1 p0) 0).bind fun | .inl _ => some 0 | .inr rv => some rv)))
theorem intern_Name_fun (p0 : ByteArray) (r : Int) (hF : intern_Name p0 = some r) : Fun Try.prog 47 true [] [.c (jS p0)] noHeap (cI r) noHeap := by
 refine Fun.of_walk0 Try.func47 c47 (by kernel_rfl) (rs := [.tmp 2]) (by kernel_rfl) ?_; unfold v47
 unfold intern_Name at hF
 refine wA rfl ?_; refine W_seq ?_; refine W_seq ?_; refine W_join (fun _ _ h => h) hF (fun v1 => [(0, .c (jS p0)), (10, cB v1)]) (fun v1 => []) ?_ ?_
 · rintro v1 hF
   refine wIf hF rfl (fun _ hF => ?_) fun _ hF => ?_
   · refine wA rfl ?_; cases hF
     exact W_ret wR
   refine W_skip ?_; refine W_seq ?_; refine wA rfl ?_; refine W_for (fun _ _ h => h) hF (.inl) (fun a13 => [(0, .c (jS p0)), (12, cI (ByteArray.size p0 : Int)), (13, cI a13)]) (fun a13 => []) (fun _ => []) (fun _ => []) sw ?_ ?_
   · rintro ⟨⟩ hF
     refine wA rfl ?_; cases hF
     exact W_ret wR
   rintro a13 x_0 hF cont_0 brk_0 fin_0
   unfold intern_Name_L1 at hF
   refine wA rfl ?_; refine W_seq ?_; refine wIf hF rfl (fun _ hF => ?_) fun _ hF => ?_
   · refine W_skip ?_; refine W_seq ?_; refine W_block ?_; refine wA rfl ?_; refine wC 2 rfl ?_; obtain ⟨y18, hy18, hF⟩ := bB hF
     refine rS (T_ixS p0 rfl rfl hy18 ?_); obtain ⟨r19, hr19, hF⟩ := bB hF
     refine rS (T_call (intern_letter_fun _ _ hr19) ⟨rfl, trivial⟩ rfl (.inl rfl) ?_); refine QV rfl ?_; refine wIf hF rfl (fun _ hF => ?_) fun _ hF => ?_
     · refine wA rfl ?_; have hF := fin_0 _ (oi hF); cases hF
       exact W_ret wR
     refine W_skip ?_; refine wB rfl ?_; exact cont_0 _ _ _ (oi hF) sw
   refine W_exit ?_; refine thenQ_exit ?_; refine thenQ_exit ?_; refine blockQ_hit ?_; exact brk_0 _ _ _ (oi hF) sw
 intro join hF
 refine wD 3 rfl ?_; cases h23 : (decide (p0 = ⟨#[]⟩))
 · have hF := bF' h23 hF; refine QV rfl ?_; exact join (decide (40 < (ByteArray.size p0 : Int))) _ _ hF sw
 have hF := bT' h23 hF; refine QV rfl ?_; exact join true _ _ hF sw
def flame_ranges_L1 (p0 : (List api_Node)) : (Int × Int × Int) → Option ((Int × Int × Int) ⊕ ((Int × Int) ⊕ Int)) := fun (a32, a33, a34) =>
  (bif (decide (a34 < (List.length p0 : Int))) then ((idx p0 a34).bind fun y51 => ((intern_Name y51.fName).bind fun r52 => (bif (!decide (r52 = 0)) then some (.inr (.inr r52)) else (((bif (decide (y51.fSelf < 0)) then some true else (bif (decide (100000000000000 < y51.fSelf)) then some true else (bif (decide (y51.fCount < 0)) then some true else (bif (decide (20000 < y51.fCount)) then some true else (bif (decide (y51.fCount = 0)) then some (!decide (y51.fSelf = 0)) else some false))))) : Option Bool).bind fun v53 => (bif v53 then some (.inr (.inr 2)) else some (.inl ((w64 (a32 + y51.fSelf)), (w64 (a33 + y51.fCount)), (w64 (a34 + 1))))))))) else some (.inr (.inl (a32, a33))))
def flame_ranges (p0 : (List api_Node)) : Option Int :=
  ((loop (flame_ranges_L1 p0) (0, 0, 0)).bind fun | .inl (e46, e47) => (((bif (decide (100000000000000 < e46)) then some true else some (decide (20000 < e47))) : Option Bool).bind fun v48 => (bif v48 then some 2 else some 0)) | .inr rv => some rv)
theorem flame_ranges_fun (p0 : (List api_Node)) (r : Int) (hF : flame_ranges p0 = some r) : Fun Try.prog 31 true [] [cL 5 t_api_Node p0] noHeap (cI r) noHeap := by
 refine Fun.of_walk0 Try.func31 c31 (by kernel_rfl) (rs := [.tmp 2]) (by kernel_rfl) ?_; unfold v31
 unfold flame_ranges at hF
 refine wA rfl ?_; refine wA rfl ?_; refine W_seq ?_; refine wC 1 rfl ?_; refine rS (T_len (tc := t_api_Node) p0 .tree ?_); refine QV rfl ?_; refine W_for (fun _ _ h => h) hF (.inl) (fun (a32, a33, a34) => [(3, cI a32), (4, cI a33), (8, cL 5 t_api_Node p0), (9, cI (List.length p0 : Int)), (10, cI a34)]) (fun (a32, a33, a34) => []) (fun (e46, e47) => [(3, cI e46), (4, cI e47)]) (fun (e46, e47) => []) sw ?_ ?_
 · rintro ⟨e46, e47⟩ hF
   refine W_seq ?_; refine W_seq ?_; refine W_join (fun _ _ h => h) hF (fun v48 => [(62, cB v48)]) (fun v48 => []) ?_ ?_
   · rintro v48 hF
     refine wIf hF rfl (fun _ hF => ?_) fun _ hF => ?_
     · refine wA rfl ?_; cases hF
       exact W_ret wR
     refine W_skip ?_; refine wA rfl ?_; cases hF
     exact W_ret wR
   intro join hF
   refine wD 3 rfl ?_; cases h50 : (decide (100000000000000 < e46))
   · have hF := bF' h50 hF; refine QV rfl ?_; exact join (decide (20000 < e47)) _ _ hF sw
   have hF := bT' h50 hF; refine QV rfl ?_; exact join true _ _ hF sw
 rintro ⟨a32, a33, a34⟩ x_0 hF cont_0 brk_0 fin_0
 unfold flame_ranges_L1 at hF
 refine wA rfl ?_; refine W_seq ?_; refine wIf hF rfl (fun _ hF => ?_) fun _ hF => ?_
 · refine W_skip ?_; refine W_seq ?_; refine W_block ?_; refine wE ?_; obtain ⟨y51, hy51, hF⟩ := bB hF
   refine rS (T_ixT (tc := t_api_Node) p0 rfl rfl hy51 ?_); refine QV rfl ?_; refine W_seq ?_; refine wC 2 rfl ?_; obtain ⟨r52, hr52, hF⟩ := bB hF
   refine rS (T_call (intern_Name_fun _ _ hr52) ⟨rfl, trivial⟩ rfl (.inl rfl) ?_); refine QV rfl ?_; refine wA rfl ?_; refine wIf hF rfl (fun _ hF => ?_) fun _ hF => ?_
   · refine wA rfl ?_; have hF := fin_0 _ (oi hF); cases hF
     exact W_ret wR
   refine W_skip ?_; refine W_seq ?_; refine W_seq ?_; refine W_join (fun _ _ h => h) hF (fun v53 => [(3, cI a32), (4, cI a33), (6, cP (6,0) 0), (8, cL 5 t_api_Node p0), (9, cI (List.length p0 : Int)), (10, cI a34), (47, cB v53)]) (fun v53 => [((6,0), .box (m_api_Node y51))]) ?_ ?_
   · rintro v53 hF
     refine wIf hF rfl (fun _ hF => ?_) fun _ hF => ?_
     · refine wA rfl ?_; have hF := fin_0 _ (oi hF); cases hF
       exact W_ret wR
     refine W_skip ?_; refine W_regD (by decide) (by kernel_rfl) rfl ?_; refine QP rfl ?_; refine wB rfl ?_; exact cont_0 _ _ _ (oi hF) sw
   intro join hF
   refine wD 4 rfl ?_; cases h55 : (decide (y51.fSelf < 0))
   · have hF := bF' h55 hF; refine Q_run SV 5 rfl ?_; cases h56 : (decide (100000000000000 < y51.fSelf))
     · have hF := bF' h56 hF; refine Q_run SV 5 rfl ?_; cases h57 : (decide (y51.fCount < 0))
       · have hF := bF' h57 hF; refine Q_run SV 5 rfl ?_; cases h58 : (decide (20000 < y51.fCount))
         · have hF := bF' h58 hF; refine Q_run SV 4 rfl ?_; cases h59 : (decide (y51.fCount = 0))
           · have hF := bF' h59 hF; refine QV rfl ?_; exact join false _ _ hF sw
           have hF := bT' h59 hF; refine QV rfl ?_; exact join (!decide (y51.fSelf = 0)) _ _ hF sw
         have hF := bT' h58 hF; refine QV rfl ?_; exact join true _ _ hF sw
       have hF := bT' h57 hF; refine QV rfl ?_; exact join true _ _ hF sw
     have hF := bT' h56 hF; refine QV rfl ?_; exact join true _ _ hF sw
   have hF := bT' h55 hF; refine QV rfl ?_; exact join true _ _ hF sw
 refine W_exit ?_; refine thenQ_exit ?_; refine thenQ_exit ?_; refine blockQ_hit ?_; exact brk_0 _ _ _ (oi hF) sw
def flame_order_L1 (p0 : (List api_Node)) (y90 : api_Node) : Int → Option (Int ⊕ Int) := fun a102 =>
  (((bif (decide (0 ≤ a102)) then some (!decide (a102 = y90.fParent)) else some false) : Option Bool).bind fun v112 => (bif v112 then ((idx p0 a102).bind fun y113 => some (.inl y113.fParent)) else some (.inr a102)))
def flame_order_L2 (p0 : (List api_Node)) : ((List (Int × ByteArray)) × Int) → Option (((List (Int × ByteArray)) × Int) ⊕ (Unit ⊕ Int)) := fun (a61, a62) =>
  (bif (decide (a62 < (List.length p0 : Int))) then ((idx p0 a62).bind fun y90 => ((loop (flame_order_L1 p0 y90) (w64 (a62 - 1))).bind fun e107 => (bif (!decide (y90.fParent = e107)) then some (.inr (.inr 10)) else (((bif (Option.isSome (mget y90.fParent a61)) then some (sLt y90.fName (Option.getD (mget y90.fParent a61) ⟨#[]⟩) || decide (y90.fName = (Option.getD (mget y90.fParent a61) ⟨#[]⟩))) else some false) : Option Bool).bind fun v108 => (bif v108 then some (.inr (.inr 11)) else some (.inl ((mput y90.fParent y90.fName a61), (w64 (a62 + 1))))))))) else some (.inr (.inl ())))
def flame_order (p0 : (List api_Node)) : Option Int :=
  ((loop (flame_order_L2 p0) ([], 0)).bind fun | .inl _ => some 0 | .inr rv => some rv)
theorem flame_order_fun (p0 : (List api_Node)) (r : Int) (hF : flame_order p0 = some r) : Fun Try.prog 32 true [] [cL 5 t_api_Node p0] noHeap (cI r) noHeap := by
 refine Fun.of_walk0 Try.func32 c32 (by kernel_rfl) (rs := [.tmp 2]) (by kernel_rfl) ?_; unfold v32
 unfold flame_order at hF
 refine wA rfl ?_; refine wE ?_; refine rS (T_mkmap (kd := (.int .i64)) (kv := kvI) (vv := vvS) rfl ?_)
 refine QV rfl ?_; refine W_seq ?_; refine wC 1 rfl ?_; refine rS (T_len (tc := t_api_Node) p0 .tree ?_); refine QV rfl ?_; refine W_for (fun _ _ h => h) hF (.inl) (fun (a61, a62) => [(0, cL 5 t_api_Node p0), (3, cM (9,0)), (10, cL 5 t_api_Node p0), (11, cI (List.length p0 : Int)), (12, cI a62)]) (fun (a61, a62) => [((9,0), mapOb (.int .i64) kvI vvS a61)]) (fun _ => []) (fun _ => []) sw ?_ ?_
 · rintro ⟨⟩ hF
   refine wA rfl ?_; cases hF
   exact W_ret wR
 rintro ⟨a61, a62⟩ x_0 hF cont_0 brk_0 fin_0
 unfold flame_order_L2 at hF
 refine wA rfl ?_; refine W_seq ?_; refine wIf hF rfl (fun _ hF => ?_) fun _ hF => ?_
 · refine W_skip ?_; refine W_seq ?_; refine W_block ?_; refine wC 1 rfl ?_; obtain ⟨y90, hy90, hF⟩ := bB hF
   refine rS (T_ixT (tc := t_api_Node) p0 rfl rfl hy90 ?_); refine QV rfl ?_; refine wA rfl ?_; refine W_seq ?_; refine W_for (fun _ _ h => h) hF (id) (fun a102 => [(0, cL 5 t_api_Node p0), (3, cM (9,0)), (5, cP (5,0) 0), (6, cI a102), (10, cL 5 t_api_Node p0), (11, cI (List.length p0 : Int)), (12, cI a62)]) (fun a102 => [((9,0), mapOb (.int .i64) kvI vvS a61), ((5,0), .box (m_api_Node y90))]) (fun e107 => [(0, cL 5 t_api_Node p0), (3, cM (9,0)), (5, cP (5,0) 0), (6, cI e107), (10, cL 5 t_api_Node p0), (11, cI (List.length p0 : Int)), (12, cI a62)]) (fun e107 => [((9,0), mapOb (.int .i64) kvI vvS a61), ((5,0), .box (m_api_Node y90))]) sw ?_ ?_
   · rintro e107 hF
     refine W_seq ?_; refine wA rfl ?_; refine wIf hF rfl (fun _ hF => ?_) fun _ hF => ?_
     · refine wA rfl ?_; have hF := fin_0 _ (oi hF); cases hF
       exact W_ret wR
     refine W_skip ?_; refine W_seq ?_; refine wC 3 rfl ?_; refine rS (T_lookOk (keyI .i64) (vv := vvS) a61 y90.fParent ⟨#[]⟩ (.own _ rfl) rfl rfl ?_)
     refine QV rfl ?_; refine W_seq ?_; refine W_join (fun _ _ h => h) hF (fun v108 => [(0, cL 5 t_api_Node p0), (3, cM (9,0)), (5, cP (5,0) 0), (10, cL 5 t_api_Node p0), (11, cI (List.length p0 : Int)), (12, cI a62), (49, cB v108)]) (fun v108 => [((9,0), mapOb (.int .i64) kvI vvS a61), ((5,0), .box (m_api_Node y90))]) ?_ ?_
     · rintro v108 hF
       refine wIf hF rfl (fun _ hF => ?_) fun _ hF => ?_
       · refine wA rfl ?_; have hF := fin_0 _ (oi hF); cases hF
         exact W_ret wR
       refine W_skip ?_; refine wD 5 rfl ?_; refine rS (T_mupd (keyI .i64) (vv := vvS) a61 y90.fParent y90.fName rfl rfl rfl rfl ?_)
       refine QV rfl ?_; refine wB rfl ?_; exact cont_0 _ _ _ (oi hF) sw
     intro join hF
     refine wD 2 rfl ?_; cases h110 : (Option.isSome (mget y90.fParent a61))
     · have hF := bF' h110 hF; refine QV rfl ?_; exact join false _ _ hF sw
     have hF := bT' h110 hF; refine QV rfl ?_; exact join (sLt y90.fName (Option.getD (mget y90.fParent a61) ⟨#[]⟩) || decide (y90.fName = (Option.getD (mget y90.fParent a61) ⟨#[]⟩))) _ _ hF sw
   rintro a102 x_1 hF cont_1 brk_1 fin_1
   unfold flame_order_L1 at hF
   refine W_seq ?_; refine W_seq ?_; refine W_join (fun _ _ h => h) hF (fun v112 => [(0, cL 5 t_api_Node p0), (3, cM (9,0)), (5, cP (5,0) 0), (6, cI a102), (10, cL 5 t_api_Node p0), (11, cI (List.length p0 : Int)), (12, cI a62), (26, cB v112)]) (fun v112 => [((9,0), mapOb (.int .i64) kvI vvS a61), ((5,0), .box (m_api_Node y90))]) ?_ ?_
   · rintro v112 hF
     refine wIf hF rfl (fun _ hF => ?_) fun _ hF => ?_
     · refine W_skip ?_; refine W_block ?_; refine wD 2 rfl ?_; obtain ⟨y113, hy113, hF⟩ := bB hF
       refine rS (T_ixT (tc := t_api_Node) p0 rfl rfl hy113 ?_); refine QV rfl ?_; exact cont_1 _ _ _ (oi hF) sw
     refine W_exit ?_; refine thenQ_exit ?_; refine thenQ_exit ?_; refine blockQ_hit ?_; exact brk_1 _ _ _ (oi hF) sw
   intro join hF
   refine wD 3 rfl ?_; cases h115 : (decide (0 ≤ a102))
   · have hF := bF' h115 hF; refine QV rfl ?_; exact join false _ _ hF sw
   have hF := bT' h115 hF; refine QV rfl ?_; exact join (!decide (a102 = y90.fParent)) _ _ hF sw
 refine W_exit ?_; refine thenQ_exit ?_; refine thenQ_exit ?_; refine blockQ_hit ?_; exact brk_0 _ _ _ (oi hF) sw
def flame_Check_L1 (p0 : (List api_Node)) (e68 : (List Int)) (e69 : (List Bool)) : Int → Option (Int ⊕ (Unit ⊕ Int)) := fun a91 =>
  (bif (decide (a91 < (List.length p0 : Int))) then ((idx p0 a91).bind fun y101 => ((((idx e69 a91).bind fun y104 => (bif y104 then (bif (decide (y101.fCount = 0)) then some true else ((idx e68 a91).bind fun y108 => some (!decide (y101.fTotal = y108)))) else ((idx e68 a91).bind fun y106 => some (!decide (y101.fTotal = y106))))) : Option Bool).bind fun v102 => (bif v102 then some (.inr (.inr 10)) else some (.inl (w64 (a91 + 1)))))) else some (.inr (.inl ())))
def flame_Check_L2 (p0 : (List api_Node)) : ((List Int) × (List Bool) × Int) → Option (((List Int) × (List Bool) × Int) ⊕ ((List Int) × (List Bool))) := fun (a48, a49, a50) =>
  (bif (decide (0 ≤ a50)) then ((((idx a48 a50).bind fun y112 => ((idx p0 a50).bind fun y113 => ((idx a48 a50).bind fun y114 => (((bif (decide ((w64 (a50 + 1)) = (List.length p0 : Int))) then ((idx a49 a50).bind fun y125 => some (List.set a49 (Int.toNat a50) true)) else ((idx p0 (w64 (a50 + 1))).bind fun y123 => ((idx a49 a50).bind fun y124 => some (List.set a49 (Int.toNat a50) (!decide (y123.fParent = a50)))))) : Option (List Bool)).bind fun v115 => ((idx p0 a50).bind fun y116 => (bif (decide (0 ≤ y116.fParent)) then ((idx p0 a50).bind fun y117 => ((idx (List.set a48 (Int.toNat a50) (w64 (y112 + y113.fSelf))) y117.fParent).bind fun y118 => ((idx (List.set a48 (Int.toNat a50) (w64 (y112 + y113.fSelf))) a50).bind fun y119 => ((idx (List.set a48 (Int.toNat a50) (w64 (y112 + y113.fSelf))) y117.fParent).bind fun y120 => some ((List.set (List.set a48 (Int.toNat a50) (w64 (y112 + y113.fSelf))) (Int.toNat y117.fParent) (w64 (y118 + y119))), v115))))) else some ((List.set a48 (Int.toNat a50) (w64 (y112 + y113.fSelf))), v115))))))) : Option ((List Int) × (List Bool))).bind fun (v110, v111) => some (.inl (v110, v111, (w64 (a50 - 1))))) else some (.inr (a48, a49)))
def flame_Check (p0 : (List api_Node)) : Option Int :=
  (bif (decide (2000 < (List.length p0 : Int))) then some 7 else ((flame_ranges p0).bind fun r1 => (bif (!decide (r1 = 0)) then some r1 else ((flame_order p0).bind fun r2 => (bif (!decide (r2 = 0)) then some r2 else (bif mkB 8 (List.length p0 : Int) then (bif mkB 1 (List.length p0 : Int) then ((loop (flame_Check_L2 p0) ((List.replicate (Int.toNat (List.length p0 : Int)) 0), (List.replicate (Int.toNat (List.length p0 : Int)) false), (w64 ((List.length p0 : Int) - 1)))).bind fun (e68, e69) => ((loop (flame_Check_L1 p0 e68 e69) 0).bind fun | .inl _ => some 0 | .inr rv => some rv)) else none) else none))))))
theorem flame_Check_fun (p0 : (List api_Node)) (r : Int) (hF : flame_Check p0 = some r) : Fun Try.prog 14 true [] [cL 5 t_api_Node p0] noHeap (cI r) noHeap := by
 refine Fun.of_walk0 Try.func14 c14 (by kernel_rfl) (rs := [.tmp 2]) (by kernel_rfl) ?_; unfold v14
 unfold flame_Check at hF
 refine wA rfl ?_; refine W_seq ?_; refine wC 1 rfl ?_; refine rS (T_len (tc := t_api_Node) p0 .tree ?_); refine QV rfl ?_; refine wIf hF rfl (fun _ hF => ?_) fun _ hF => ?_
 · refine wA rfl ?_; cases hF
   exact W_ret wR
 refine W_skip ?_; refine W_seq ?_; refine wC 1 rfl ?_; obtain ⟨r1, hr1, hF⟩ := bB hF
 refine rS (T_call (flame_ranges_fun _ _ hr1) ⟨rfl, trivial⟩ rfl (.inl rfl) ?_); refine QV rfl ?_; refine wA rfl ?_; refine wIf hF rfl (fun _ hF => ?_) fun _ hF => ?_
 · refine wA rfl ?_; cases hF
   exact W_ret wR
 refine W_skip ?_; refine W_seq ?_; refine wC 1 rfl ?_; obtain ⟨r2, hr2, hF⟩ := bB hF
 refine rS (T_call (flame_order_fun _ _ hr2) ⟨rfl, trivial⟩ rfl (.inl rfl) ?_); refine QV rfl ?_; refine wA rfl ?_; refine wIf hF rfl (fun _ hF => ?_) fun _ hF => ?_
 · refine wA rfl ?_; cases hF
   exact W_ret wR
 refine W_skip ?_; refine W_seq ?_; refine W_regD (by decide) (by kernel_rfl) rfl ?_; refine Q_run SP 1 rfl ?_; refine R_step SP trivial (T_len (tc := t_api_Node) p0 .tree ?_); obtain ⟨h3, hF⟩ := roomT hF
 refine R_step SP trivial (T_mk (tc := t_i64) 0 rfl rfl (mkOk h3) rfl rfl ?_); refine Q_run SP 1 rfl ?_; refine R_step SP trivial (T_len (tc := t_api_Node) p0 .tree ?_); obtain ⟨h4, hF⟩ := roomT hF
 refine R_step SP trivial (T_mk (tc := t_bool) false rfl rfl (mkOk h4) rfl rfl ?_); refine QP rfl ?_; refine W_seq ?_; refine wC 1 rfl ?_; refine rS (T_len (tc := t_api_Node) p0 .tree ?_); refine QV rfl ?_
 refine W_for (fun _ _ h => h) hF (id) (fun (a48, a49, a50) => [(0, cL 5 t_api_Node p0), (5, cO (25,0)), (6, cO (28,0)), (7, cI a50)]) (fun (a48, a49, a50) => [((25,0), .arr 3 1 (List.map t_i64 a48)), ((28,0), .arr 4 1 (List.map t_bool a49))]) (fun (e68, e69) => [(0, cL 5 t_api_Node p0), (5, cO (25,0)), (6, cO (28,0))]) (fun (e68, e69) => [((25,0), .arr 3 1 (List.map t_i64 e68)), ((28,0), .arr 4 1 (List.map t_bool e69))]) sw ?_ ?_
 · rintro ⟨e68, e69⟩ hF
   refine W_seq ?_; refine wC 1 rfl ?_; refine rS (T_len (tc := t_api_Node) p0 .tree ?_); refine QV rfl ?_; refine W_for (fun _ _ h => h) hF (.inl) (fun a91 => [(5, cO (25,0)), (6, cO (28,0)), (85, cL 5 t_api_Node p0), (86, cI (List.length p0 : Int)), (87, cI a91)]) (fun a91 => [((25,0), .arr 3 1 (List.map t_i64 e68)), ((28,0), .arr 4 1 (List.map t_bool e69))]) (fun _ => []) (fun _ => []) sw ?_ ?_
   · rintro ⟨⟩ hF
     refine wA rfl ?_; cases hF
     exact W_ret wR
   rintro a91 x_0 hF cont_0 brk_0 fin_0
   unfold flame_Check_L1 at hF
   refine wA rfl ?_; refine W_seq ?_; refine wIf hF rfl (fun _ hF => ?_) fun _ hF => ?_
   · refine W_skip ?_; refine W_seq ?_; refine W_block ?_; refine wC 1 rfl ?_; obtain ⟨y101, hy101, hF⟩ := bB hF
     refine rS (T_ixT (tc := t_api_Node) p0 rfl rfl hy101 ?_); refine QV rfl ?_; refine W_seq ?_; refine W_join (fun _ _ h => h) hF (fun v102 => [(5, cO (25,0)), (6, cO (28,0)), (85, cL 5 t_api_Node p0), (86, cI (List.length p0 : Int)), (87, cI a91), (109, cB v102)]) (fun v102 => [((25,0), .arr 3 1 (List.map t_i64 e68)), ((28,0), .arr 4 1 (List.map t_bool e69))]) ?_ ?_
     · rintro v102 hF
       refine wIf hF rfl (fun _ hF => ?_) fun _ hF => ?_
       · refine wA rfl ?_; have hF := fin_0 _ (oi hF); cases hF
         exact W_ret wR
       refine W_skip ?_; refine wB rfl ?_; exact cont_0 _ _ _ (oi hF) sw
     intro join hF
     refine W_regD (by decide) (by kernel_rfl) rfl ?_; refine Q_run SP 2 rfl ?_; obtain ⟨y104, hy104, hF⟩ := bB' hF
     refine R_step SP trivial (T_ixO (tc := t_bool) e69 rfl rfl rfl hy104 ?_); refine R_step SP trivial (T_ldE (tc := t_bool) e69 rfl rfl (idx_get hy104).2.1 rfl ?_); refine Q_run SP 1 rfl ?_; cases h105 : y104
     · have hF := bF' h105 hF; refine Q_run SP 9 rfl ?_; obtain ⟨y106, hy106, hF⟩ := bB' hF
       refine R_step SP rfl (T_ixO (tc := t_i64) e68 rfl rfl rfl hy106 ?_); refine R_step SP rfl (T_ldE (tc := t_i64) e68 rfl rfl (idx_get hy106).2.1 rfl ?_); refine QP rfl ?_; exact join (!decide (y101.fTotal = y106)) _ _ hF sw
     have hF := bT' h105 hF; refine Q_run SP 5 rfl ?_; cases h107 : (decide (y101.fCount = 0))
     · have hF := bF' h107 hF; refine Q_run SP 4 rfl ?_; obtain ⟨y108, hy108, hF⟩ := bB' hF
       refine R_step SP rfl (T_ixO (tc := t_i64) e68 rfl rfl rfl hy108 ?_); refine R_step SP rfl (T_ldE (tc := t_i64) e68 rfl rfl (idx_get hy108).2.1 rfl ?_); refine QP rfl ?_; exact join (!decide (y101.fTotal = y108)) _ _ hF sw
     have hF := bT' h107 hF; refine QP rfl ?_; exact join true _ _ hF sw
   refine W_exit ?_; refine thenQ_exit ?_; refine thenQ_exit ?_; refine blockQ_hit ?_; exact brk_0 _ _ _ (oi hF) sw
 rintro ⟨a48, a49, a50⟩ x_0 hF cont_0 brk_0 fin_0
 unfold flame_Check_L2 at hF
 refine W_seq ?_; refine wA rfl ?_; refine wIf hF rfl (fun _ hF => ?_) fun _ hF => ?_
 · refine W_skip ?_; refine W_seq ?_; refine W_join (fun _ _ h => h) hF (fun (v110, v111) => [(0, cL 5 t_api_Node p0), (5, cO (25,0)), (6, cO (28,0)), (7, cI a50)]) (fun (v110, v111) => [((25,0), .arr 3 1 (List.map t_i64 v110)), ((28,0), .arr 4 1 (List.map t_bool v111))]) ?_ ?_
   · rintro ⟨v110, v111⟩ hF
     refine wB rfl ?_; exact cont_0 _ _ _ (oi hF) sw
   intro join hF
   refine W_block ?_; refine W_seq ?_; refine W_regD (by decide) (by kernel_rfl) rfl ?_; refine Q_run SP 2 rfl ?_; obtain ⟨y112, hy112, hF⟩ := bB' hF
   refine R_step SP trivial (T_ixO (tc := t_i64) a48 rfl rfl rfl hy112 ?_); refine R_step SP trivial (T_ldE (tc := t_i64) a48 rfl rfl (idx_get hy112).2.1 rfl ?_); refine Q_run SP 2 rfl ?_; obtain ⟨y113, hy113, hF⟩ := bB' hF
   refine R_step SP trivial (T_ixT (tc := t_api_Node) p0 rfl rfl hy113 ?_); refine Q_run SP 3 rfl ?_; obtain ⟨y114, hy114, hF⟩ := bB' hF
   refine R_step SP trivial (T_ixO (tc := t_i64) a48 rfl rfl rfl hy114 ?_); refine R_step SP trivial (T_stE (tc := t_i64) a48 (w64 (y112 + y113.fSelf)) rfl rfl (idx_get hy114).2.1 rfl rfl rfl rfl rfl ?_)
   refine QP rfl ?_; refine W_seq ?_; have hF := bA hF; refine W_join (fun _ _ h => h) hF (fun v115 => [(0, cL 5 t_api_Node p0), (5, cO (25,0)), (6, cO (28,0)), (7, cI a50)]) (fun v115 => [((25,0), .arr 3 1 (List.map t_i64 (List.set a48 (Int.toNat a50) (w64 (y112 + y113.fSelf))))), ((28,0), .arr 4 1 (List.map t_bool v115))]) ?_ ?_
   · rintro v115 hF
     refine wC 2 rfl ?_; obtain ⟨y116, hy116, hF⟩ := bB' hF
     refine rS (T_ixT (tc := t_api_Node) p0 rfl rfl hy116 ?_); refine QV rfl ?_; refine wIf' hF rfl (fun _ hF => ?_) fun _ hF => ?_
     · refine W_regD (by decide) (by kernel_rfl) rfl ?_; refine Q_run SP 3 rfl ?_; obtain ⟨y117, hy117, hF⟩ := bB' hF
       refine R_step SP trivial (T_ixT (tc := t_api_Node) p0 rfl rfl hy117 ?_); refine Q_run SP 2 rfl ?_; obtain ⟨y118, hy118, hF⟩ := bB' hF
       refine R_step SP trivial (T_ixO (tc := t_i64) (List.set a48 (Int.toNat a50) (w64 (y112 + y113.fSelf))) rfl rfl rfl hy118 ?_); refine R_step SP trivial (T_ldE (tc := t_i64) (List.set a48 (Int.toNat a50) (w64 (y112 + y113.fSelf))) rfl rfl (idx_get hy118).2.1 rfl ?_)
       refine Q_run SP 2 rfl ?_; obtain ⟨y119, hy119, hF⟩ := bB' hF
       refine R_step SP trivial (T_ixO (tc := t_i64) (List.set a48 (Int.toNat a50) (w64 (y112 + y113.fSelf))) rfl rfl rfl hy119 ?_); refine R_step SP trivial (T_ldE (tc := t_i64) (List.set a48 (Int.toNat a50) (w64 (y112 + y113.fSelf))) rfl rfl (idx_get hy119).2.1 rfl ?_)
       refine Q_run SP 1 rfl ?_; obtain ⟨y120, hy120, hF⟩ := bB' hF
       refine R_step SP trivial (T_ixO (tc := t_i64) (List.set a48 (Int.toNat a50) (w64 (y112 + y113.fSelf))) rfl rfl rfl hy120 ?_); refine R_step SP trivial (T_stE (tc := t_i64) (List.set a48 (Int.toNat a50) (w64 (y112 + y113.fSelf))) (w64 (y118 + y119)) rfl rfl (idx_get hy120).2.1 rfl rfl rfl rfl rfl ?_)
       refine QP rfl ?_; exact join ((List.set (List.set a48 (Int.toNat a50) (w64 (y112 + y113.fSelf))) (Int.toNat y117.fParent) (w64 (y118 + y119))), v115) _ _ hF sw
     refine W_skip ?_; exact join ((List.set a48 (Int.toNat a50) (w64 (y112 + y113.fSelf))), v115) _ _ hF sw
   intro join hF
   refine wD 5 rfl ?_; refine rS (T_len (tc := t_api_Node) p0 .tree ?_); refine Q_run SV 2 rfl ?_; cases h122 : (decide ((w64 (a50 + 1)) = (List.length p0 : Int)))
   · have hF := bF' h122 hF; refine Q_run SV 3 rfl ?_; obtain ⟨y123, hy123, hF⟩ := bB' hF
     refine R_step SV rfl (T_ixT (tc := t_api_Node) p0 rfl rfl hy123 ?_); refine Q_run SV 5 rfl ?_; obtain ⟨y124, hy124, hF⟩ := bB' hF
     refine rS (T_ixO (tc := t_bool) a49 rfl rfl rfl hy124 ?_); refine rS (T_stE (tc := t_bool) a49 (!decide (y123.fParent = a50)) rfl rfl (idx_get hy124).2.1 rfl rfl rfl rfl rfl ?_); refine QV rfl ?_; exact join (List.set a49 (Int.toNat a50) (!decide (y123.fParent = a50))) _ _ hF sw
   have hF := bT' h122 hF; refine Q_run SV 9 rfl ?_; obtain ⟨y125, hy125, hF⟩ := bB' hF
   refine rS (T_ixO (tc := t_bool) a49 rfl rfl rfl hy125 ?_); refine rS (T_stE (tc := t_bool) a49 true rfl rfl (idx_get hy125).2.1 rfl rfl rfl rfl rfl ?_); refine QV rfl ?_; exact join (List.set a49 (Int.toNat a50) true) _ _ hF sw
 refine W_exit ?_; refine thenQ_exit ?_; refine thenQ_exit ?_; refine blockQ_hit ?_; exact brk_0 _ _ _ (oi hF) sw
def flame_Find_1_k1 (p0 : api_Node) (p1 : Int) (p2 : ByteArray) : Option Bool :=
  (((bif (decide (p0.fParent = p1)) then some (decide (p0.fName = p2)) else some false) : Option Bool).bind fun v1 => some v1)
theorem flame_Find_1_k1_fun (p0 : api_Node) (p1 : Int) (p2 : ByteArray) (r : Bool) (hF : flame_Find_1_k1 p0 p1 p2 = some r) : Fun Try.prog 37 true [] [.agg (m_api_Node p0), .c (.ptrI [tI p1]), .c (.ptrI [.sc (.string p2)])] noHeap (cB r) noHeap := by
 refine Fun.of_walk0 Try.func37 c37 (by kernel_rfl) (rs := [.tmp 4]) (by kernel_rfl) ?_; unfold v37
 unfold flame_Find_1_k1 at hF
 refine wA rfl ?_; refine W_seq ?_; refine W_join (fun _ _ h => h) hF (fun v1 => [(4, cB v1)]) (fun v1 => []) ?_ ?_
 · rintro v1 hF
   cases hF
   exact W_ret wR
 intro join hF
 refine wD 5 rfl ?_; cases h2 : (decide (p0.fParent = p1))
 · have hF := bF' h2 hF; refine QV rfl ?_; exact join false _ _ hF sw
 have hF := bT' h2 hF; refine QV rfl ?_; exact join (decide (p0.fName = p2)) _ _ hF sw
def slices_IndexFunc_api_Node_api_Node_k1_L1 (p0 : (List api_Node)) (p1_0 : Int) (p1_1 : ByteArray) : Int → Option (Int ⊕ (Unit ⊕ Int)) := fun a12 =>
  (bif (decide (a12 < (List.length p0 : Int))) then ((idx p0 a12).bind fun y17 => ((flame_Find_1_k1 y17 p1_0 p1_1).bind fun r18 => (bif r18 then some (.inr (.inr a12)) else some (.inl (w64 (a12 + 1)))))) else some (.inr (.inl ())))
def slices_IndexFunc_api_Node_api_Node_k1 (p0 : (List api_Node)) (p1_0 : Int) (p1_1 : ByteArray) : Option Int :=
  ((loop (slices_IndexFunc_api_Node_api_Node_k1_L1 p0 p1_0 p1_1) 0).bind fun | .inl _ => some (-1) | .inr rv => some rv)
theorem slices_IndexFunc_api_Node_api_Node_k1_fun (p0 : (List api_Node)) (p1_0 : Int) (p1_1 : ByteArray) (r : Int) (hF : slices_IndexFunc_api_Node_api_Node_k1 p0 p1_0 p1_1 = some r) : Fun Try.prog 36 false [(2440,0), (2441,0)] [cL 5 t_api_Node p0, .c (.fn 37 [.ptr (2440,0), .ptr (2441,0)])] (heapOf [((2440,0), .box [jI p1_0]), ((2441,0), .box [jS p1_1])]) (cI r) (heapOf [((2440,0), .box [jI p1_0]), ((2441,0), .box [jS p1_1])]) := by
 refine Fun.of_walkM [(2440,0), (2441,0)] (some [(2440,0), (2441,0)]) Try.func36 c36 (by kernel_rfl) (rs := [.tmp 4]) (by kernel_rfl) rfl rfl rfl ?_; unfold v36
 unfold slices_IndexFunc_api_Node_api_Node_k1 at hF
 refine wA rfl ?_; refine W_seq ?_; refine wC 1 rfl ?_; refine rS (T_len (tc := t_api_Node) p0 .tree ?_); refine QV rfl ?_; refine W_for (fun _ _ h => h) hF (.inl) (fun a12 => [(0, cL 5 t_api_Node p0), (1, .c (.fn 37 [.ptr (2440,0), .ptr (2441,0)])), (7, cI (List.length p0 : Int)), (8, cI a12)]) (fun a12 => [((2440,0), .box [jI p1_0]), ((2441,0), .box [jS p1_1])]) (fun _ => []) (fun _ => [((2440,0), .box [jI p1_0]), ((2441,0), .box [jS p1_1])]) sw ?_ ?_
 · rintro ⟨⟩ hF
   refine wA rfl ?_; cases hF
   exact W_ret ⟨_, _, S_refl, _, rfl, rfl, ⟨rfl, fun _ => rfl⟩, (AgM.weak ⟨rfl, rfl, trivial⟩)⟩
 rintro a12 x_0 hF cont_0 brk_0 fin_0
 unfold slices_IndexFunc_api_Node_api_Node_k1_L1 at hF
 refine wA rfl ?_; refine W_seq ?_; refine wIf hF rfl (fun _ hF => ?_) fun _ hF => ?_
 · refine W_skip ?_; refine W_seq ?_; refine W_block ?_; refine wA rfl ?_; refine wC 3 rfl ?_; obtain ⟨y17, hy17, hF⟩ := bB hF
   refine rS (T_ixT (tc := t_api_Node) p0 rfl rfl hy17 ?_); refine Q_run SV 1 rfl ?_; obtain ⟨r18, hr18, hF⟩ := bB hF
   refine R_stepX trivial (X_call (callW _ rfl fnOk37) (flame_Find_1_k1_fun _ _ _ _ hr18) ⟨⟨rfl, rfl, rfl, rfl, rfl, trivial⟩, ⟨_, rfl, ⟨rfl, trivial⟩⟩, ⟨_, rfl, ⟨rfl, trivial⟩⟩, trivial⟩ rfl (.inl rfl) ?_)
   refine QV rfl ?_; refine wIf hF rfl (fun _ hF => ?_) fun _ hF => ?_
   · refine wA rfl ?_; have hF := fin_0 _ (oi hF); cases hF
     exact W_ret ⟨_, _, S_refl, _, rfl, rfl, ⟨rfl, fun _ => rfl⟩, (AgM.weak ⟨rfl, rfl, trivial⟩)⟩
   refine W_skip ?_; refine wB rfl ?_; exact cont_0 _ _ _ (oi hF) sw
 refine W_exit ?_; refine thenQ_exit ?_; refine thenQ_exit ?_; refine blockQ_hit ?_; exact brk_0 _ _ _ (oi hF) sw
def flame_Find_L1 (p0 : (List api_Node)) (p1 : (List ByteArray)) : (Int × Int) → Option ((Int × Int) ⊕ (Int ⊕ Int)) := fun (a16, a17) =>
  (bif (decide (a17 < (List.length p1 : Int))) then ((idx p1 a17).bind fun y23 => ((slices_IndexFunc_api_Node_api_Node_k1 p0 a16 y23).bind fun r24 => (bif (decide (r24 < 0)) then some (.inr (.inr (-1))) else some (.inl (r24, (w64 (a17 + 1))))))) else some (.inr (.inl a16)))
def flame_Find (p0 : (List api_Node)) (p1 : (List ByteArray)) : Option Int :=
  ((((flame_Check p0).bind fun r28 => (bif (!decide (r28 = 0)) then some true else some (decide ((List.length p1 : Int) = 0)))) : Option Bool).bind fun v1 => (bif v1 then some (-1) else ((loop (flame_Find_L1 p0 p1) ((-1), 0)).bind fun | .inl e22 => some e22 | .inr rv => some rv)))
theorem flame_Find_fun (p0 : (List api_Node)) (p1 : (List ByteArray)) (r : Int) (hF : flame_Find p0 p1 = some r) : Fun Try.prog 18 true [] [cL 5 t_api_Node p0, cL 1 t_str p1] noHeap (cI r) noHeap := by
 refine Fun.of_walk0 Try.func18 c18 (by kernel_rfl) (rs := [.tmp 4]) (by kernel_rfl) ?_; unfold v18
 unfold flame_Find at hF
 refine wA rfl ?_; refine W_seq ?_; refine W_seq ?_; refine W_join (fun _ _ h => h) hF (fun v1 => [(0, cL 5 t_api_Node p0), (1, cL 1 t_str p1), (15, cB v1)]) (fun v1 => []) ?_ ?_
 · rintro v1 hF
   refine wIf hF rfl (fun _ hF => ?_) fun _ hF => ?_
   · refine wA rfl ?_; cases hF
     exact W_ret wR
   refine W_skip ?_; refine wA rfl ?_; refine W_seq ?_; refine wC 1 rfl ?_; refine rS (T_len (tc := t_str) p1 .tree ?_); refine QV rfl ?_; refine W_for (fun _ _ h => h) hF (.inl) (fun (a16, a17) => [(0, cL 5 t_api_Node p0), (5, cP (5,0) 0), (16, cL 1 t_str p1), (17, cI (List.length p1 : Int)), (18, cI a17)]) (fun (a16, a17) => [((5,0), .box [jI a16])]) (fun e22 => [(5, cP (5,0) 0)]) (fun e22 => [((5,0), .box [jI e22])]) sw ?_ ?_
   · rintro e22 hF
     refine wA rfl ?_; cases hF
     exact W_ret wR
   rintro ⟨a16, a17⟩ x_0 hF cont_0 brk_0 fin_0
   unfold flame_Find_L1 at hF
   refine wA rfl ?_; refine W_seq ?_; refine wIf hF rfl (fun _ hF => ?_) fun _ hF => ?_
   · refine W_skip ?_; refine W_seq ?_; refine W_block ?_; refine wE ?_; obtain ⟨y23, hy23, hF⟩ := bB hF
     refine rS (T_ixT (tc := t_str) p1 rfl rfl hy23 ?_); refine QV rfl ?_; refine wC 2 rfl ?_; obtain ⟨r24, hr24, hF⟩ := bB hF
     refine rS (T_callO [((2440,0),(5,0)), ((2441,0),(7,0))] rfl (slices_IndexFunc_api_Node_api_Node_k1_fun _ _ _ _ hr24) ⟨rfl, rfl, trivial⟩ rfl rfl (.inr ⟨.inl rfl, .inl rfl, trivial⟩) ?_); refine QV rfl ?_
     refine wA rfl ?_; refine wIf hF rfl (fun _ hF => ?_) fun _ hF => ?_
     · refine wA rfl ?_; have hF := fin_0 _ (oi hF); cases hF
       exact W_ret wR
     refine W_skip ?_; refine wB rfl ?_; exact cont_0 _ _ _ (oi hF) sw
   refine W_exit ?_; refine thenQ_exit ?_; refine thenQ_exit ?_; refine blockQ_hit ?_; exact brk_0 _ _ _ (oi hF) sw
 intro join hF
 refine wD 1 rfl ?_; obtain ⟨r28, hr28, hF⟩ := bB' hF
 refine rS (T_call (flame_Check_fun _ _ hr28) ⟨rfl, trivial⟩ rfl (.inl rfl) ?_); refine Q_run SV 2 rfl ?_; cases h29 : (!decide (r28 = 0))
 · have hF := bF' h29 hF; refine Q_run SV 1 rfl ?_; refine R_step SV rfl (T_len (tc := t_str) p1 .tree ?_); refine QV rfl ?_; exact join (decide ((List.length p1 : Int) = 0)) _ _ hF sw
 have hF := bT' h29 hF; refine QV rfl ?_; exact join true _ _ hF sw
def slices_Reverse_string_string_k1_L1  : ((List ByteArray) × Int × Int) → Option (((List ByteArray) × Int × Int) ⊕ (List ByteArray)) := fun (a20, a21, a22) =>
  (bif (decide (a21 < a22)) then ((idx a20 a22).bind fun y23 => ((idx a20 a21).bind fun y24 => ((idx a20 a21).bind fun y25 => ((idx (List.set a20 (Int.toNat a21) y23) a22).bind fun y26 => some (.inl ((List.set (List.set a20 (Int.toNat a21) y23) (Int.toNat a22) y24), (w64 (a21 + 1)), (w64 (a22 - 1)))))))) else some (.inr a20))
def slices_Reverse_string_string_k1 (p0 : (List ByteArray)) : Option (List ByteArray) :=
  (loop (slices_Reverse_string_string_k1_L1) (p0, 0, (w64 ((List.length p0 : Int) - 1))))
theorem slices_Reverse_string_string_k1_fun (p0 : (List ByteArray)) (r : (List ByteArray)) (hF : slices_Reverse_string_string_k1 p0 = some r) : Fun Try.prog 50 false [(3000,0)] [cO (3000,0)] (heapOf [((3000,0), .arr 9 1 (List.map t_str p0))]) (.tup []) (heapOf [((3000,0), .arr 9 1 (List.map t_str r))]) := by
 refine Fun.of_walkM [(3000,0)] (some [(3000,0)]) Try.func50 c50 (by kernel_rfl) (rs := []) (by kernel_rfl) rfl rfl rfl ?_; unfold v50
 unfold slices_Reverse_string_string_k1 at hF
 refine wC 1 rfl ?_; refine rS (T_len (tc := t_str) p0 (.own _ _ rfl) ?_); refine QV rfl ?_; refine W_for0 hF (fun (a20, a21, a22) => [(0, cO (3000,0)), (2, cI a21), (3, cI a22)]) (fun (a20, a21, a22) => [((3000,0), .arr 9 1 (List.map t_str a20))]) sw ?_
 rintro ⟨a20, a21, a22⟩ x_0 hF cont_0 fin_0
 unfold slices_Reverse_string_string_k1_L1 at hF
 refine W_seq ?_; refine wA rfl ?_; refine wIf hF rfl (fun _ hF => ?_) fun _ hF => ?_
 · refine W_skip ?_; refine W_seq ?_; refine W_block ?_; refine W_regD (by decide) (by kernel_rfl) rfl ?_; refine Q_run SP 6 rfl ?_; obtain ⟨y23, hy23, hF⟩ := bB hF
   refine R_step SP trivial (T_ixO (tc := t_str) a20 rfl rfl rfl hy23 ?_); refine R_step SP trivial (T_ldE (tc := t_str) a20 rfl rfl (idx_get hy23).2.1 rfl ?_); refine Q_run SP 2 rfl ?_; obtain ⟨y24, hy24, hF⟩ := bB hF
   refine R_step SP trivial (T_ixO (tc := t_str) a20 rfl rfl rfl hy24 ?_); refine R_step SP trivial (T_ldE (tc := t_str) a20 rfl rfl (idx_get hy24).2.1 rfl ?_); obtain ⟨y25, hy25, hF⟩ := bB hF
   refine R_step SP trivial (T_ixO (tc := t_str) a20 rfl rfl rfl hy25 ?_); refine R_step SP trivial (T_stE (tc := t_str) a20 y23 rfl rfl (idx_get hy25).2.1 rfl rfl rfl rfl rfl ?_); obtain ⟨y26, hy26, hF⟩ := bB hF
   refine R_step SP trivial (T_ixO (tc := t_str) (List.set a20 (Int.toNat a21) y23) rfl rfl rfl hy26 ?_); refine R_step SP trivial (T_stE (tc := t_str) (List.set a20 (Int.toNat a21) y23) y24 rfl rfl (idx_get hy26).2.1 rfl rfl rfl rfl rfl ?_)
   refine QP rfl ?_; refine wB rfl ?_; exact cont_0 _ _ _ (oi hF) sw
 refine W_exit ?_; refine thenQ_exit ?_; refine thenQ_exit ?_; refine blockQ_hit ?_; have hF := fin_0 _ (oi hF); cases hF
 exact ⟨_, _, S_refl, _, rfl, rfl, trivial, (AgM.weak ⟨rfl, trivial⟩)⟩
def flame_path_L1 (p0 : (List api_Node)) : (Int × (List ByteArray)) → Option ((Int × (List ByteArray)) ⊕ (List ByteArray)) := fun (a15, a16) =>
  (bif (decide (0 ≤ a15)) then ((idx p0 a15).bind fun y23 => (bif room 16 (List.length a16 + List.length [y23.fName]) then ((idx p0 a15).bind fun y25 => some (.inl (y25.fParent, (a16 ++ [y23.fName])))) else none)) else some (.inr a16))
def flame_path (p0 : (List api_Node)) (p1 : Int) : Option (List ByteArray) :=
  ((loop (flame_path_L1 p0) (p1, [])).bind fun e21 => ((slices_Reverse_string_string_k1 e21).bind fun r22 => some r22))
theorem flame_path_fun (p0 : (List api_Node)) (p1 : Int) (r : (List ByteArray)) (hF : flame_path p0 p1 = some r) : Fun Try.prog 38 false [] [cL 5 t_api_Node p0, cI p1] (heapOf []) (cO (902,1520)) (heapOf [((902,1520), .arr 9 1 (List.map t_str r))]) := by
 refine Fun.of_walkM [] (some []) Try.func38 c38 (by kernel_rfl) (rs := [.tmp 4]) (by kernel_rfl) rfl rfl rfl ?_; unfold v38
 unfold flame_path at hF
 refine wA rfl ?_; refine wA rfl ?_; refine W_seq ?_; refine W_for (fun _ _ h => h) hF (id) (fun (a15, a16) => [(0, cL 5 t_api_Node p0), (1, cI a15), (5, cO (20,1))]) (fun (a15, a16) => [((20,1), .arr 9 1 (List.map t_str a16))]) (fun e21 => [(5, cO (20,1))]) (fun e21 => [((20,1), .arr 9 1 (List.map t_str e21))]) (S_own 5 (20,1) 9 1 rfl rfl rfl rfl sw) ?_ ?_
 · rintro e21 hF
   refine wC 1 rfl ?_; obtain ⟨r22, hr22, hF⟩ := bB hF
   refine R_stepX trivial (X_callG [((3000,0),(20,1))] rfl (callN _) (slices_Reverse_string_string_k1_fun _ _ hr22) ⟨rfl, trivial⟩ ⟨.inl rfl, trivial⟩ rfl rfl rfl ?_); refine QV rfl ?_; refine wA rfl ?_; cases hF
   exact W_ret ⟨_, _, (S_ren (20,1) (902,1520) rfl rfl S_refl), _, rfl, rfl, rfl, (AgM.weak ⟨rfl, trivial⟩)⟩
 rintro ⟨a15, a16⟩ x_0 hF cont_0 brk_0 fin_0
 unfold flame_path_L1 at hF
 refine W_seq ?_; refine wA rfl ?_; refine wIf hF rfl (fun _ hF => ?_) fun _ hF => ?_
 · refine W_skip ?_; refine W_seq ?_; refine W_block ?_; refine wD 3 rfl ?_; obtain ⟨y23, hy23, hF⟩ := bB hF
   refine rS (T_ixT (tc := t_api_Node) p0 rfl rfl hy23 ?_); refine Q_run SV 2 rfl ?_; refine rS (T_bsl (tc := t_str) [y23.fName] rfl ⟨rfl, trivial⟩ rfl (fun _ => rfl) rfl ?_)
   obtain ⟨h24, hF⟩ := roomT hF
   refine rS (T_appO (tc := t_str) a16 [y23.fName] rfl rfl (.own _ _ rfl) h24 rfl ?_); refine QV rfl ?_; refine wD 2 rfl ?_; obtain ⟨y25, hy25, hF⟩ := bB hF
   refine rS (T_ixT (tc := t_api_Node) p0 rfl rfl hy25 ?_); refine QV rfl ?_; exact cont_0 _ _ _ (oi hF) (S_ren (20,0) (20,1) rfl rfl sw)
 refine W_exit ?_; refine thenQ_exit ?_; refine thenQ_exit ?_; refine blockQ_hit ?_; exact brk_0 _ _ _ (oi hF) sw
def flame_Path (p0 : (List api_Node)) (p1 : Int) : Option (List ByteArray) :=
  ((((flame_Check p0).bind fun r4 => (bif (!decide (r4 = 0)) then some true else (bif (decide (p1 < 0)) then some true else some (decide ((List.length p0 : Int) ≤ p1))))) : Option Bool).bind fun v1 => (bif v1 then some [] else ((flame_path p0 p1).bind fun r2 => some r2)))
theorem flame_Path_fun (p0 : (List api_Node)) (p1 : Int) (r : (List ByteArray)) (hF : flame_Path p0 p1 = some r) : Fun Try.prog 19 false [] [cL 5 t_api_Node p0, cI p1] (heapOf []) (cO (902,760)) (heapOf [((902,760), .arr 9 1 (List.map t_str r))]) := by
 refine Fun.of_walkM [] (some []) Try.func19 c19 (by kernel_rfl) (rs := [.tmp 4]) (by kernel_rfl) rfl rfl rfl ?_; unfold v19
 unfold flame_Path at hF
 refine wA rfl ?_; refine W_seq ?_; refine W_seq ?_; refine W_join (fun _ _ h => h) hF (fun v1 => [(0, cL 5 t_api_Node p0), (1, cI p1), (17, cB v1)]) (fun v1 => []) ?_ ?_
 · rintro v1 hF
   refine wIf hF rfl (fun _ hF => ?_) fun _ hF => ?_
   · refine wA rfl ?_; cases hF
     exact W_ret ⟨_, _, (S_own 4 (902,760) 9 1 rfl rfl rfl rfl S_refl), _, rfl, rfl, rfl, (AgM.weak ⟨rfl, trivial⟩)⟩
   refine W_skip ?_; refine wC 2 rfl ?_; obtain ⟨r2, hr2, hF⟩ := bB hF
   refine R_stepX trivial (X_callG [((902,1520),(20,1))] rfl (callN _) (flame_path_fun _ _ _ hr2) trivial ⟨.inl rfl, .inl rfl, trivial⟩ rfl rfl rfl ?_); refine QV rfl ?_; cases hF
   exact W_ret ⟨_, _, (S_ren (20,1) (902,760) rfl rfl S_refl), _, rfl, rfl, rfl, (AgM.weak ⟨rfl, trivial⟩)⟩
 intro join hF
 refine wD 1 rfl ?_; obtain ⟨r4, hr4, hF⟩ := bB' hF
 refine rS (T_call (flame_Check_fun _ _ hr4) ⟨rfl, trivial⟩ rfl (.inl rfl) ?_); refine Q_run SV 2 rfl ?_; cases h5 : (!decide (r4 = 0))
 · have hF := bF' h5 hF; refine Q_run SV 4 rfl ?_; cases h6 : (decide (p1 < 0))
   · have hF := bF' h6 hF; refine Q_run SV 2 rfl ?_; refine R_step SV rfl (T_len (tc := t_api_Node) p0 .tree ?_); refine QV rfl ?_; exact join (decide ((List.length p0 : Int) ≤ p1)) _ _ hF sw
   have hF := bT' h6 hF; refine QV rfl ?_; exact join true _ _ hF sw
 have hF := bT' h5 hF; refine QV rfl ?_; exact join true _ _ hF sw
def tracebookref50_Compare_L1 (p0 : (List ByteArray)) (p1 : (List ByteArray)) : Int → Option (Int ⊕ (Unit ⊕ Int)) := fun a22 =>
  (((bif (decide (a22 < (List.length p0 : Int))) then some (decide (a22 < (List.length p1 : Int))) else some false) : Option Bool).bind fun v34 => (bif v34 then ((idx p0 a22).bind fun y35 => ((idx p1 a22).bind fun y36 => (bif (sLt y35 y36) then some (.inr (.inr (-1))) else ((idx p0 a22).bind fun y37 => ((idx p1 a22).bind fun y38 => (bif (!(sLt y37 y38 || decide (y37 = y38))) then some (.inr (.inr 1)) else some (.inl (w64 (a22 + 1))))))))) else some (.inr (.inl ()))))
def tracebookref50_Compare (p0 : (List ByteArray)) (p1 : (List ByteArray)) : Option Int :=
  ((loop (tracebookref50_Compare_L1 p0 p1) 0).bind fun | .inl _ => (bif (decide ((List.length p0 : Int) < (List.length p1 : Int))) then some (-1) else (bif (decide ((List.length p1 : Int) < (List.length p0 : Int))) then some 1 else some 0)) | .inr rv => some rv)
theorem tracebookref50_Compare_fun (p0 : (List ByteArray)) (p1 : (List ByteArray)) (r : Int) (hF : tracebookref50_Compare p0 p1 = some r) : Fun Try.prog 20 true [] [cL 1 t_str p0, cL 1 t_str p1] noHeap (cI r) noHeap := by
 refine Fun.of_walk0 Try.func20 c20 (by kernel_rfl) (rs := [.tmp 4]) (by kernel_rfl) ?_; unfold v20
 unfold tracebookref50_Compare at hF
 refine wA rfl ?_; refine W_seq ?_; refine wA rfl ?_; refine W_for (fun _ _ h => h) hF (.inl) (fun a22 => [(0, cL 1 t_str p0), (1, cL 1 t_str p1), (5, cI a22)]) (fun a22 => []) (fun _ => [(0, cL 1 t_str p0), (1, cL 1 t_str p1)]) (fun _ => []) sw ?_ ?_
 · rintro ⟨⟩ hF
   refine W_seq ?_; refine wC 1 rfl ?_; refine rS (T_len (tc := t_str) p0 .tree ?_); refine Q_run SV 1 rfl ?_; refine rS (T_len (tc := t_str) p1 .tree ?_); refine QV rfl ?_; refine wIf hF rfl (fun _ hF => ?_) fun _ hF => ?_
   · refine wA rfl ?_; cases hF
     exact W_ret wR
   refine W_skip ?_; refine W_seq ?_; refine wC 1 rfl ?_; refine rS (T_len (tc := t_str) p0 .tree ?_); refine Q_run SV 1 rfl ?_; refine rS (T_len (tc := t_str) p1 .tree ?_); refine QV rfl ?_; refine wIf hF rfl (fun _ hF => ?_) fun _ hF => ?_
   · refine wA rfl ?_; cases hF
     exact W_ret wR
   refine W_skip ?_; refine wA rfl ?_; cases hF
   exact W_ret wR
 rintro a22 x_0 hF cont_0 brk_0 fin_0
 unfold tracebookref50_Compare_L1 at hF
 refine W_seq ?_; refine W_seq ?_; refine W_join (fun _ _ h => h) hF (fun v34 => [(0, cL 1 t_str p0), (1, cL 1 t_str p1), (5, cI a22), (15, cB v34)]) (fun v34 => []) ?_ ?_
 · rintro v34 hF
   refine wIf hF rfl (fun _ hF => ?_) fun _ hF => ?_
   · refine W_skip ?_; refine W_seq ?_; refine W_block ?_; refine W_seq ?_; refine W_seq ?_; refine W_regD (by decide) (by kernel_rfl) rfl ?_; refine Q_run SP 2 rfl ?_; obtain ⟨y35, hy35, hF⟩ := bB hF
     refine R_step SP trivial (T_ixT (tc := t_str) p0 rfl rfl hy35 ?_); refine Q_run SP 3 rfl ?_; obtain ⟨y36, hy36, hF⟩ := bB hF
     refine R_step SP trivial (T_ixT (tc := t_str) p1 rfl rfl hy36 ?_); refine QP rfl ?_; refine wIf hF rfl (fun _ hF => ?_) fun _ hF => ?_
     · refine wA rfl ?_; have hF := fin_0 _ (oi hF); cases hF
       exact W_ret wR
     refine W_skip ?_; refine W_seq ?_; refine W_regD (by decide) (by kernel_rfl) rfl ?_; refine Q_run SP 2 rfl ?_; obtain ⟨y37, hy37, hF⟩ := bB hF
     refine R_step SP trivial (T_ixT (tc := t_str) p0 rfl rfl hy37 ?_); refine Q_run SP 3 rfl ?_; obtain ⟨y38, hy38, hF⟩ := bB hF
     refine R_step SP trivial (T_ixT (tc := t_str) p1 rfl rfl hy38 ?_); refine QP rfl ?_; refine wIf hF rfl (fun _ hF => ?_) fun _ hF => ?_
     · refine wA rfl ?_; have hF := fin_0 _ (oi hF); cases hF
       exact W_ret wR
     refine W_skip ?_; refine wB rfl ?_; exact cont_0 _ _ _ (oi hF) sw
   refine W_exit ?_; refine thenQ_exit ?_; refine thenQ_exit ?_; refine blockQ_hit ?_; exact brk_0 _ _ _ (oi hF) sw
 intro join hF
 refine wD 2 rfl ?_; refine rS (T_len (tc := t_str) p0 .tree ?_); refine Q_run SV 2 rfl ?_; cases h42 : (decide (a22 < (List.length p0 : Int)))
 · have hF := bF' h42 hF; refine QV rfl ?_; exact join false _ _ hF sw
 have hF := bT' h42 hF; refine Q_run SV 2 rfl ?_; refine R_step SV rfl (T_len (tc := t_str) p1 .tree ?_); refine QV rfl ?_; exact join (decide (a22 < (List.length p1 : Int))) _ _ hF sw
def flame_Sum_L1 (p0 : (List api_Node)) : (Int × Int) → Option ((Int × Int) ⊕ Int) := fun (a12, a13) =>
  (bif (decide (a13 < (List.length p0 : Int))) then ((idx p0 a13).bind fun y17 => some (.inl ((w64 (a12 + y17.fSelf)), (w64 (a13 + 1))))) else some (.inr a12))
def flame_Sum (p0 : (List api_Node)) : Option Int :=
  ((flame_Check p0).bind fun r1 => (bif (!decide (r1 = 0)) then some 0 else ((loop (flame_Sum_L1 p0) (0, 0)).bind fun e16 => some e16)))
theorem flame_Sum_fun (p0 : (List api_Node)) (r : Int) (hF : flame_Sum p0 = some r) : Fun Try.prog 13 true [] [cL 5 t_api_Node p0] noHeap (cI r) noHeap := by
 refine Fun.of_walk0 Try.func13 c13 (by kernel_rfl) (rs := [.tmp 2]) (by kernel_rfl) ?_; unfold v13
 unfold flame_Sum at hF
 refine wA rfl ?_; refine W_seq ?_; refine wC 1 rfl ?_; obtain ⟨r1, hr1, hF⟩ := bB hF
 refine rS (T_call (flame_Check_fun _ _ hr1) ⟨rfl, trivial⟩ rfl (.inl rfl) ?_); refine QV rfl ?_; refine wIf hF rfl (fun _ hF => ?_) fun _ hF => ?_
 · refine wA rfl ?_; cases hF
   exact W_ret wR
 refine W_skip ?_; refine wA rfl ?_; refine W_seq ?_; refine wC 1 rfl ?_; refine rS (T_len (tc := t_api_Node) p0 .tree ?_); refine QV rfl ?_; refine W_for (fun _ _ h => h) hF (id) (fun (a12, a13) => [(3, cI a12), (9, cL 5 t_api_Node p0), (10, cI (List.length p0 : Int)), (11, cI a13)]) (fun (a12, a13) => []) (fun e16 => [(3, cI e16)]) (fun e16 => []) sw ?_ ?_
 · rintro e16 hF
   refine wA rfl ?_; cases hF
   exact W_ret wR
 rintro ⟨a12, a13⟩ x_0 hF cont_0 brk_0 fin_0
 unfold flame_Sum_L1 at hF
 refine wA rfl ?_; refine W_seq ?_; refine wIf hF rfl (fun _ hF => ?_) fun _ hF => ?_
 · refine W_skip ?_; refine W_seq ?_; refine W_block ?_; refine wE ?_; obtain ⟨y17, hy17, hF⟩ := bB hF
   refine rS (T_ixT (tc := t_api_Node) p0 rfl rfl hy17 ?_); refine QV rfl ?_; refine wB rfl ?_; refine wB rfl ?_; exact cont_0 _ _ _ (oi hF) sw
 refine W_exit ?_; refine thenQ_exit ?_; refine thenQ_exit ?_; refine blockQ_hit ?_; exact brk_0 _ _ _ (oi hF) sw
def tracebookref06_letter_L1 (p0 : Int) : Int → Option (Int ⊕ (Unit ⊕ Bool)) := fun a11 =>
  (bif (decide (a11 < (ByteArray.size ⟨#[95, 46, 58, 47, 60, 62, 36, 42, 126, 45]⟩ : Int))) then ((idx (ByteArray.data ⟨#[95, 46, 58, 47, 60, 62, 36, 42, 126, 45]⟩).toList a11).bind fun y15 => (bif (decide ((UInt8.toNat y15 : Int) = p0)) then some (.inr (.inr true)) else some (.inl (w64 (a11 + 1))))) else some (.inr (.inl ())))
def tracebookref06_letter (p0 : Int) : Option Bool :=
  (((bif (decide (97 ≤ p0)) then (bif (decide (p0 ≤ 122)) then some true else (bif (decide (65 ≤ p0)) then (bif (decide (p0 ≤ 90)) then some true else (bif (decide (48 ≤ p0)) then some (decide (p0 ≤ 57)) else some false)) else (bif (decide (48 ≤ p0)) then some (decide (p0 ≤ 57)) else some false))) else (bif (decide (65 ≤ p0)) then (bif (decide (p0 ≤ 90)) then some true else (bif (decide (48 ≤ p0)) then some (decide (p0 ≤ 57)) else some false)) else (bif (decide (48 ≤ p0)) then some (decide (p0 ≤ 57)) else some false))) : Option Bool).bind fun v1 => (bif v1 then some true else ((loop (tracebookref06_letter_L1 p0) 0).bind fun | .inl _ => some false | .inr rv => some rv)))
theorem tracebookref06_letter_fun (p0 : Int) (r : Bool) (hF : tracebookref06_letter p0 = some r) : Fun Try.prog 53 true [] [.c (.imm (.sc (.int .u8 p0)))] noHeap (cB r) noHeap := by
 refine Fun.of_walk0 Try.func53 c53 (by kernel_rfl) (rs := [.tmp 2]) (by kernel_rfl) ?_; unfold v53
 unfold tracebookref06_letter at hF
 refine wA rfl ?_; refine W_seq ?_; refine W_seq ?_; refine W_join (fun _ _ h => h) hF (fun v1 => [(0, .c (.imm (.sc (.int .u8 p0)))), (26, cB v1)]) (fun v1 => []) ?_ ?_
 · rintro v1 hF
   refine wIf hF rfl (fun _ hF => ?_) fun _ hF => ?_
   · refine wA rfl ?_; cases hF
     exact W_ret wR
   refine W_skip ?_; refine wA rfl ?_; refine W_seq ?_; refine wA rfl ?_; refine W_for (fun _ _ h => h) hF (.inl) (fun a11 => [(0, .c (.imm (.sc (.int .u8 p0)))), (3, .c (jS ⟨#[95, 46, 58, 47, 60, 62, 36, 42, 126, 45]⟩)), (4, cI a11)]) (fun a11 => []) (fun _ => []) (fun _ => []) sw ?_ ?_
   · rintro ⟨⟩ hF
     refine wA rfl ?_; cases hF
     exact W_ret wR
   rintro a11 x_0 hF cont_0 brk_0 fin_0
   unfold tracebookref06_letter_L1 at hF
   refine W_seq ?_; refine wA rfl ?_; refine wIf hF rfl (fun _ hF => ?_) fun _ hF => ?_
   · refine W_skip ?_; refine W_seq ?_; refine W_block ?_; refine wC 2 rfl ?_; obtain ⟨y15, hy15, hF⟩ := bB hF
     refine rS (T_ixS ⟨#[95, 46, 58, 47, 60, 62, 36, 42, 126, 45]⟩ rfl rfl hy15 ?_); refine QV rfl ?_; refine wIf hF rfl (fun _ hF => ?_) fun _ hF => ?_
     · refine wA rfl ?_; have hF := fin_0 _ (oi hF); cases hF
       exact W_ret wR
     refine W_skip ?_; refine wB rfl ?_; exact cont_0 _ _ _ (oi hF) sw
   refine W_exit ?_; refine thenQ_exit ?_; refine thenQ_exit ?_; refine blockQ_hit ?_; exact brk_0 _ _ _ (oi hF) sw
 intro join hF
 refine wD 3 rfl ?_; cases h19 : (decide (97 ≤ p0))
 · have hF := bF' h19 hF; refine Q_run SV 7 rfl ?_; cases h20 : (decide (65 ≤ p0))
   · have hF := bF' h20 hF; refine Q_run SV 8 rfl ?_; cases h21 : (decide (48 ≤ p0))
     · have hF := bF' h21 hF; refine QV rfl ?_; exact join false _ _ hF sw
     have hF := bT' h21 hF; refine QV rfl ?_; exact join (decide (p0 ≤ 57)) _ _ hF sw
   have hF := bT' h20 hF; refine Q_run SV 5 rfl ?_; cases h22 : (decide (p0 ≤ 90))
   · have hF := bF' h22 hF; refine Q_run SV 3 rfl ?_; cases h23 : (decide (48 ≤ p0))
     · have hF := bF' h23 hF; refine QV rfl ?_; exact join false _ _ hF sw
     have hF := bT' h23 hF; refine QV rfl ?_; exact join (decide (p0 ≤ 57)) _ _ hF sw
   have hF := bT' h22 hF; refine QV rfl ?_; exact join true _ _ hF sw
 have hF := bT' h19 hF; refine Q_run SV 4 rfl ?_; cases h24 : (decide (p0 ≤ 122))
 · have hF := bF' h24 hF; refine Q_run SV 3 rfl ?_; cases h25 : (decide (65 ≤ p0))
   · have hF := bF' h25 hF; refine Q_run SV 8 rfl ?_; cases h26 : (decide (48 ≤ p0))
     · have hF := bF' h26 hF; refine QV rfl ?_; exact join false _ _ hF sw
     have hF := bT' h26 hF; refine QV rfl ?_; exact join (decide (p0 ≤ 57)) _ _ hF sw
   have hF := bT' h25 hF; refine Q_run SV 5 rfl ?_; cases h27 : (decide (p0 ≤ 90))
   · have hF := bF' h27 hF; refine Q_run SV 3 rfl ?_; cases h28 : (decide (48 ≤ p0))
     · have hF := bF' h28 hF; refine QV rfl ?_; exact join false _ _ hF sw
     have hF := bT' h28 hF; refine QV rfl ?_; exact join (decide (p0 ≤ 57)) _ _ hF sw
   have hF := bT' h27 hF; refine QV rfl ?_; exact join true _ _ hF sw
 have hF := bT' h24 hF; refine QV rfl ?_; exact join true _ _ hF sw
def tracebookref06_Name_L1 (p0 : ByteArray) : Int → Option (Int ⊕ (Unit ⊕ Int)) := fun a13 =>
  (bif (decide (a13 < (ByteArray.size p0 : Int))) then ((idx (ByteArray.data p0).toList a13).bind fun y18 => ((tracebookref06_letter (UInt8.toNat y18 : Int)).bind fun r19 => (bif (!r19) then some (.inr (.inr 3)) else some (.inl (w64 (a13 + 1)))))) else some (.inr (.inl ())))
def tracebookref06_Name (p0 : ByteArray) : Option Int :=
  (((bif (decide ((ByteArray.size p0 : Int) < 1)) then some true else some (decide (40 < (ByteArray.size p0 : Int)))) : Option Bool).bind fun v1 => (bif v1 then some 3 else ((loop (tracebookref06_Name_L1 p0) 0).bind fun | .inl _ => some 0 | .inr rv => some rv)))
theorem tracebookref06_Name_fun (p0 : ByteArray) (r : Int) (hF : tracebookref06_Name p0 = some r) : Fun Try.prog 48 true [] [.c (jS p0)] noHeap (cI r) noHeap := by
 refine Fun.of_walk0 Try.func48 c48 (by kernel_rfl) (rs := [.tmp 2]) (by kernel_rfl) ?_; unfold v48
 unfold tracebookref06_Name at hF
 refine wA rfl ?_; refine W_seq ?_; refine W_seq ?_; refine W_join (fun _ _ h => h) hF (fun v1 => [(0, .c (jS p0)), (11, cB v1)]) (fun v1 => []) ?_ ?_
 · rintro v1 hF
   refine wIf hF rfl (fun _ hF => ?_) fun _ hF => ?_
   · refine wA rfl ?_; cases hF
     exact W_ret wR
   refine W_skip ?_; refine W_seq ?_; refine wA rfl ?_; refine W_for (fun _ _ h => h) hF (.inl) (fun a13 => [(0, .c (jS p0)), (3, cI a13)]) (fun a13 => []) (fun _ => []) (fun _ => []) sw ?_ ?_
   · rintro ⟨⟩ hF
     refine wA rfl ?_; cases hF
     exact W_ret wR
   rintro a13 x_0 hF cont_0 brk_0 fin_0
   unfold tracebookref06_Name_L1 at hF
   refine W_seq ?_; refine wA rfl ?_; refine wIf hF rfl (fun _ hF => ?_) fun _ hF => ?_
   · refine W_skip ?_; refine W_seq ?_; refine W_block ?_; refine wC 2 rfl ?_; obtain ⟨y18, hy18, hF⟩ := bB hF
     refine rS (T_ixS p0 rfl rfl hy18 ?_); obtain ⟨r19, hr19, hF⟩ := bB hF
     refine rS (T_call (tracebookref06_letter_fun _ _ hr19) ⟨rfl, trivial⟩ rfl (.inl rfl) ?_); refine QV rfl ?_; refine wIf hF rfl (fun _ hF => ?_) fun _ hF => ?_
     · refine wA rfl ?_; have hF := fin_0 _ (oi hF); cases hF
       exact W_ret wR
     refine W_skip ?_; refine wB rfl ?_; exact cont_0 _ _ _ (oi hF) sw
   refine W_exit ?_; refine thenQ_exit ?_; refine thenQ_exit ?_; refine blockQ_hit ?_; exact brk_0 _ _ _ (oi hF) sw
 intro join hF
 refine wD 4 rfl ?_; cases h23 : (decide ((ByteArray.size p0 : Int) < 1))
 · have hF := bF' h23 hF; refine QV rfl ?_; exact join (decide (40 < (ByteArray.size p0 : Int))) _ _ hF sw
 have hF := bT' h23 hF; refine QV rfl ?_; exact join true _ _ hF sw
def tracebookref50_ranges_L1 (p0 : (List api_Node)) : (Int × Int × Int) → Option ((Int × Int × Int) ⊕ ((Int × Int) ⊕ Int)) := fun (a32, a33, a34) =>
  (bif (decide (a34 < (List.length p0 : Int))) then ((idx p0 a34).bind fun y51 => ((tracebookref06_Name y51.fName).bind fun r52 => (bif (!decide (r52 = 0)) then some (.inr (.inr r52)) else (((bif (decide (y51.fSelf < 0)) then some true else (bif (decide (100000000000000 < y51.fSelf)) then some true else (bif (decide (y51.fCount < 0)) then some true else (bif (decide (20000 < y51.fCount)) then some true else (bif (decide (y51.fCount = 0)) then some (!decide (y51.fSelf = 0)) else some false))))) : Option Bool).bind fun v53 => (bif v53 then some (.inr (.inr 2)) else some (.inl ((w64 (a32 + y51.fSelf)), (w64 (a33 + y51.fCount)), (w64 (a34 + 1))))))))) else some (.inr (.inl (a32, a33))))
def tracebookref50_ranges (p0 : (List api_Node)) : Option Int :=
  ((loop (tracebookref50_ranges_L1 p0) (0, 0, 0)).bind fun | .inl (e46, e47) => (((bif (decide (100000000000000 < e46)) then some true else some (decide (20000 < e47))) : Option Bool).bind fun v48 => (bif v48 then some 2 else some 0)) | .inr rv => some rv)
theorem tracebookref50_ranges_fun (p0 : (List api_Node)) (r : Int) (hF : tracebookref50_ranges p0 = some r) : Fun Try.prog 33 true [] [cL 5 t_api_Node p0] noHeap (cI r) noHeap := by
 refine Fun.of_walk0 Try.func33 c33 (by kernel_rfl) (rs := [.tmp 2]) (by kernel_rfl) ?_; unfold v33
 unfold tracebookref50_ranges at hF
 refine wA rfl ?_; refine wA rfl ?_; refine W_seq ?_; refine wA rfl ?_; refine W_for (fun _ _ h => h) hF (.inl) (fun (a32, a33, a34) => [(0, cL 5 t_api_Node p0), (3, cI a32), (4, cI a33), (5, cI a34)]) (fun (a32, a33, a34) => []) (fun (e46, e47) => [(3, cI e46), (4, cI e47)]) (fun (e46, e47) => []) sw ?_ ?_
 · rintro ⟨e46, e47⟩ hF
   refine W_seq ?_; refine W_seq ?_; refine W_join (fun _ _ h => h) hF (fun v48 => [(65, cB v48)]) (fun v48 => []) ?_ ?_
   · rintro v48 hF
     refine wIf hF rfl (fun _ hF => ?_) fun _ hF => ?_
     · refine wA rfl ?_; cases hF
       exact W_ret wR
     refine W_skip ?_; refine wA rfl ?_; cases hF
     exact W_ret wR
   intro join hF
   refine wD 3 rfl ?_; cases h50 : (decide (100000000000000 < e46))
   · have hF := bF' h50 hF; refine QV rfl ?_; exact join (decide (20000 < e47)) _ _ hF sw
   have hF := bT' h50 hF; refine QV rfl ?_; exact join true _ _ hF sw
 rintro ⟨a32, a33, a34⟩ x_0 hF cont_0 brk_0 fin_0
 unfold tracebookref50_ranges_L1 at hF
 refine W_seq ?_; refine wC 2 rfl ?_; refine rS (T_len (tc := t_api_Node) p0 .tree ?_); refine QV rfl ?_; refine wIf hF rfl (fun _ hF => ?_) fun _ hF => ?_
 · refine W_skip ?_; refine W_seq ?_; refine W_block ?_; refine wC 2 rfl ?_; obtain ⟨y51, hy51, hF⟩ := bB hF
   refine rS (T_ixT (tc := t_api_Node) p0 rfl rfl hy51 ?_); refine QV rfl ?_; refine wC 2 rfl ?_; obtain ⟨r52, hr52, hF⟩ := bB hF
   refine rS (T_call (tracebookref06_Name_fun _ _ hr52) ⟨rfl, trivial⟩ rfl (.inl rfl) ?_); refine QV rfl ?_; refine W_seq ?_; refine wA rfl ?_; refine wIf hF rfl (fun _ hF => ?_) fun _ hF => ?_
   · refine wA rfl ?_; have hF := fin_0 _ (oi hF); cases hF
     exact W_ret wR
   refine W_skip ?_; refine W_seq ?_; refine W_seq ?_; refine W_join (fun _ _ h => h) hF (fun v53 => [(0, cL 5 t_api_Node p0), (3, cI a32), (4, cI a33), (5, cI a34), (6, cP (6,0) 0), (51, cB v53)]) (fun v53 => [((6,0), .box (m_api_Node y51))]) ?_ ?_
   · rintro v53 hF
     refine wIf hF rfl (fun _ hF => ?_) fun _ hF => ?_
     · refine wA rfl ?_; have hF := fin_0 _ (oi hF); cases hF
       exact W_ret wR
     refine W_skip ?_; refine wA rfl ?_; refine wB rfl ?_; refine wB rfl ?_; exact cont_0 _ _ _ (oi hF) sw
   intro join hF
   refine wD 4 rfl ?_; cases h55 : (decide (y51.fSelf < 0))
   · have hF := bF' h55 hF; refine Q_run SV 5 rfl ?_; cases h56 : (decide (100000000000000 < y51.fSelf))
     · have hF := bF' h56 hF; refine Q_run SV 5 rfl ?_; cases h57 : (decide (y51.fCount < 0))
       · have hF := bF' h57 hF; refine Q_run SV 5 rfl ?_; cases h58 : (decide (20000 < y51.fCount))
         · have hF := bF' h58 hF; refine Q_run SV 4 rfl ?_; cases h59 : (decide (y51.fCount = 0))
           · have hF := bF' h59 hF; refine QV rfl ?_; exact join false _ _ hF sw
           have hF := bT' h59 hF; refine QV rfl ?_; exact join (!decide (y51.fSelf = 0)) _ _ hF sw
         have hF := bT' h58 hF; refine QV rfl ?_; exact join true _ _ hF sw
       have hF := bT' h57 hF; refine QV rfl ?_; exact join true _ _ hF sw
     have hF := bT' h56 hF; refine QV rfl ?_; exact join true _ _ hF sw
   have hF := bT' h55 hF; refine QV rfl ?_; exact join true _ _ hF sw
 refine W_exit ?_; refine thenQ_exit ?_; refine thenQ_exit ?_; refine blockQ_hit ?_; exact brk_0 _ _ _ (oi hF) sw
def tracebookref50_above_L1 (p0 : (List api_Node)) (p1 : Int) : Int → Option (Int ⊕ Int) := fun a12 =>
  (((bif (decide (0 ≤ a12)) then some (!decide (a12 = p1)) else some false) : Option Bool).bind fun v18 => (bif v18 then ((idx p0 a12).bind fun y19 => some (.inl y19.fParent)) else some (.inr a12)))
def tracebookref50_above (p0 : (List api_Node)) (p1 : Int) (p2 : Int) : Option Bool :=
  ((loop (tracebookref50_above_L1 p0 p1) p2).bind fun e17 => some (decide (e17 = p1)))
theorem tracebookref50_above_fun (p0 : (List api_Node)) (p1 : Int) (p2 : Int) (r : Bool) (hF : tracebookref50_above p0 p1 p2 = some r) : Fun Try.prog 49 true [] [cL 5 t_api_Node p0, cI p1, cI p2] noHeap (cB r) noHeap := by
 refine Fun.of_walk0 Try.func49 c49 (by kernel_rfl) (rs := [.tmp 6]) (by kernel_rfl) ?_; unfold v49
 unfold tracebookref50_above at hF
 refine wA rfl ?_; refine W_seq ?_; refine W_for (fun _ _ h => h) hF (id) (fun a12 => [(0, cL 5 t_api_Node p0), (1, cI p1), (2, cI a12)]) (fun a12 => []) (fun e17 => [(1, cI p1), (2, cI e17)]) (fun e17 => []) sw ?_ ?_
 · rintro e17 hF
   refine wA rfl ?_; cases hF
   exact W_ret wR
 rintro a12 x_0 hF cont_0 brk_0 fin_0
 unfold tracebookref50_above_L1 at hF
 refine W_seq ?_; refine W_seq ?_; refine W_join (fun _ _ h => h) hF (fun v18 => [(0, cL 5 t_api_Node p0), (1, cI p1), (2, cI a12), (13, cB v18)]) (fun v18 => []) ?_ ?_
 · rintro v18 hF
   refine wIf hF rfl (fun _ hF => ?_) fun _ hF => ?_
   · refine W_skip ?_; refine W_block ?_; refine wD 2 rfl ?_; obtain ⟨y19, hy19, hF⟩ := bB hF
     refine rS (T_ixT (tc := t_api_Node) p0 rfl rfl hy19 ?_); refine QV rfl ?_; exact cont_0 _ _ _ (oi hF) sw
   refine W_exit ?_; refine thenQ_exit ?_; refine thenQ_exit ?_; refine blockQ_hit ?_; exact brk_0 _ _ _ (oi hF) sw
 intro join hF
 refine wD 3 rfl ?_; cases h21 : (decide (0 ≤ a12))
 · have hF := bF' h21 hF; refine QV rfl ?_; exact join false _ _ hF sw
 have hF := bT' h21 hF; refine QV rfl ?_; exact join (!decide (a12 = p1)) _ _ hF sw
def tracebookref50_forms_L1 (p0 : (List api_Node)) (y107 : api_Node) : Int → Option (Int ⊕ Int) := fun a120 =>
  (((bif (decide (0 ≤ a120)) then ((idx p0 a120).bind fun y134 => some (!decide (y134.fParent = y107.fParent))) else some false) : Option Bool).bind fun v131 => (bif v131 then some (.inl (w64 (a120 - 1))) else some (.inr a120)))
def tracebookref50_forms_L2 (p0 : (List api_Node)) : Int → Option (Int ⊕ (Unit ⊕ Int)) := fun a72 =>
  (bif (decide (a72 < (List.length p0 : Int))) then ((idx p0 a72).bind fun y107 => (((bif (decide (y107.fParent < (-1))) then some true else (bif (decide (a72 ≤ y107.fParent)) then some true else (bif (decide (0 ≤ y107.fParent)) then ((tracebookref50_above p0 y107.fParent (w64 (a72 - 1))).bind fun r139 => some (!r139)) else some false))) : Option Bool).bind fun v108 => (bif v108 then some (.inr (.inr 10)) else ((loop (tracebookref50_forms_L1 p0 y107) (w64 (a72 - 1))).bind fun e125 => (((bif (decide (0 ≤ e125)) then ((idx p0 e125).bind fun y129 => ((idx p0 a72).bind fun y130 => some (!sLt y129.fName y130.fName))) else some false) : Option Bool).bind fun v126 => (bif v126 then some (.inr (.inr 11)) else some (.inl (w64 (a72 + 1))))))))) else some (.inr (.inl ())))
def tracebookref50_forms (p0 : (List api_Node)) : Option Int :=
  ((loop (tracebookref50_forms_L2 p0) 0).bind fun | .inl _ => some 0 | .inr rv => some rv)
theorem tracebookref50_forms_fun (p0 : (List api_Node)) (r : Int) (hF : tracebookref50_forms p0 = some r) : Fun Try.prog 34 true [] [cL 5 t_api_Node p0] noHeap (cI r) noHeap := by
 refine Fun.of_walk0 Try.func34 c34 (by kernel_rfl) (rs := [.tmp 2]) (by kernel_rfl) ?_; unfold v34
 unfold tracebookref50_forms at hF
 refine wA rfl ?_; refine W_seq ?_; refine wA rfl ?_; refine W_for (fun _ _ h => h) hF (.inl) (fun a72 => [(0, cL 5 t_api_Node p0), (3, cI a72)]) (fun a72 => []) (fun _ => []) (fun _ => []) sw ?_ ?_
 · rintro ⟨⟩ hF
   refine wA rfl ?_; cases hF
   exact W_ret wR
 rintro a72 x_0 hF cont_0 brk_0 fin_0
 unfold tracebookref50_forms_L2 at hF
 refine W_seq ?_; refine wC 2 rfl ?_; refine rS (T_len (tc := t_api_Node) p0 .tree ?_); refine QV rfl ?_; refine wIf hF rfl (fun _ hF => ?_) fun _ hF => ?_
 · refine W_skip ?_; refine W_seq ?_; refine W_block ?_; refine wC 2 rfl ?_; obtain ⟨y107, hy107, hF⟩ := bB hF
   refine rS (T_ixT (tc := t_api_Node) p0 rfl rfl hy107 ?_); refine QV rfl ?_; refine W_seq ?_; refine W_seq ?_; refine W_join (fun _ _ h => h) hF (fun v108 => [(0, cL 5 t_api_Node p0), (3, cI a72), (4, cI y107.fParent), (35, cB v108)]) (fun v108 => []) ?_ ?_
   · rintro v108 hF
     refine wIf hF rfl (fun _ hF => ?_) fun _ hF => ?_
     · refine wA rfl ?_; have hF := fin_0 _ (oi hF); cases hF
       exact W_ret wR
     refine W_skip ?_; refine wA rfl ?_; refine W_seq ?_; refine W_for (fun _ _ h => h) hF (id) (fun a120 => [(0, cL 5 t_api_Node p0), (3, cI a72), (4, cI y107.fParent), (5, cI a120)]) (fun a120 => []) (fun e125 => [(0, cL 5 t_api_Node p0), (3, cI a72), (5, cI e125)]) (fun e125 => []) sw ?_ ?_
     · rintro e125 hF
       refine W_seq ?_; refine W_join (fun _ _ h => h) hF (fun v126 => [(0, cL 5 t_api_Node p0), (3, cI a72), (65, cB v126)]) (fun v126 => []) ?_ ?_
       · rintro v126 hF
         refine wIf hF rfl (fun _ hF => ?_) fun _ hF => ?_
         · refine wA rfl ?_; have hF := fin_0 _ (oi hF); cases hF
           exact W_ret wR
         refine W_skip ?_; refine wB rfl ?_; exact cont_0 _ _ _ (oi hF) sw
       intro join hF
       refine W_regD (by decide) (by kernel_rfl) rfl ?_; refine Q_run SP 3 rfl ?_; cases h128 : (decide (0 ≤ e125))
       · have hF := bF' h128 hF; refine QP rfl ?_; exact join false _ _ hF sw
       have hF := bT' h128 hF; refine Q_run SP 2 rfl ?_; obtain ⟨y129, hy129, hF⟩ := bB' hF
       refine R_step SP rfl (T_ixT (tc := t_api_Node) p0 rfl rfl hy129 ?_); refine Q_run SP 4 rfl ?_; obtain ⟨y130, hy130, hF⟩ := bB' hF
       refine R_step SP rfl (T_ixT (tc := t_api_Node) p0 rfl rfl hy130 ?_); refine QP rfl ?_; exact join (!sLt y129.fName y130.fName) _ _ hF sw
     rintro a120 x_1 hF cont_1 brk_1 fin_1
     unfold tracebookref50_forms_L1 at hF
     refine W_seq ?_; refine W_seq ?_; refine W_join (fun _ _ h => h) hF (fun v131 => [(0, cL 5 t_api_Node p0), (3, cI a72), (4, cI y107.fParent), (5, cI a120), (48, cB v131)]) (fun v131 => []) ?_ ?_
     · rintro v131 hF
       refine wIf hF rfl (fun _ hF => ?_) fun _ hF => ?_
       · refine W_skip ?_; refine W_block ?_; refine wB rfl ?_; exact cont_1 _ _ _ (oi hF) sw
       refine W_exit ?_; refine thenQ_exit ?_; refine thenQ_exit ?_; refine blockQ_hit ?_; exact brk_1 _ _ _ (oi hF) sw
     intro join hF
     refine wD 3 rfl ?_; cases h133 : (decide (0 ≤ a120))
     · have hF := bF' h133 hF; refine QV rfl ?_; exact join false _ _ hF sw
     have hF := bT' h133 hF; refine Q_run SV 2 rfl ?_; obtain ⟨y134, hy134, hF⟩ := bB' hF
     refine R_step SV rfl (T_ixT (tc := t_api_Node) p0 rfl rfl hy134 ?_); refine QV rfl ?_; exact join (!decide (y134.fParent = y107.fParent)) _ _ hF sw
   intro join hF
   refine wD 3 rfl ?_; cases h136 : (decide (y107.fParent < (-1)))
   · have hF := bF' h136 hF; refine Q_run SV 5 rfl ?_; cases h137 : (decide (a72 ≤ y107.fParent))
     · have hF := bF' h137 hF; refine Q_run SV 3 rfl ?_; cases h138 : (decide (0 ≤ y107.fParent))
       · have hF := bF' h138 hF; refine QV rfl ?_; exact join false _ _ hF sw
       have hF := bT' h138 hF; refine Q_run SV 4 rfl ?_; obtain ⟨r139, hr139, hF⟩ := bB' hF
       refine R_step SV rfl (T_call (tracebookref50_above_fun _ _ _ _ hr139) ⟨rfl, rfl, rfl, trivial⟩ rfl (.inl rfl) ?_); refine QV rfl ?_; exact join (!r139) _ _ hF sw
     have hF := bT' h137 hF; refine QV rfl ?_; exact join true _ _ hF sw
   have hF := bT' h136 hF; refine QV rfl ?_; exact join true _ _ hF sw
 refine W_exit ?_; refine thenQ_exit ?_; refine thenQ_exit ?_; refine blockQ_hit ?_; exact brk_0 _ _ _ (oi hF) sw
def tracebookref50_totals_L1 (p0 : (List api_Node)) (a98 : Int) : (Int × Bool × Int) → Option ((Int × Bool × Int) ⊕ (Int × Bool)) := fun (a168, a169, a170) =>
  (bif (decide (a170 < (List.length p0 : Int))) then ((((idx p0 a170).bind fun y188 => (bif (decide (y188.fParent = a98)) then ((idx p0 a170).bind fun y189 => some ((w64 (a168 + y189.fTotal)), false)) else some (a168, a169))) : Option (Int × Bool)).bind fun (v186, v187) => some (.inl (v186, v187, (w64 (a170 + 1))))) else some (.inr (a168, a169)))
def tracebookref50_totals_L2 (p0 : (List api_Node)) : Int → Option (Int ⊕ (Unit ⊕ Int)) := fun a98 =>
  (bif (decide (a98 < (List.length p0 : Int))) then ((idx p0 a98).bind fun y146 => ((loop (tracebookref50_totals_L1 p0 a98) (y146.fSelf, true, (w64 (a98 + 1)))).bind fun (e177, e178) => (((bif e178 then ((idx p0 a98).bind fun y183 => (bif (decide (y183.fCount = 0)) then some true else ((idx p0 a98).bind fun y185 => some (!decide (e177 = y185.fTotal))))) else ((idx p0 a98).bind fun y182 => some (!decide (e177 = y182.fTotal)))) : Option Bool).bind fun v179 => (bif v179 then some (.inr (.inr 10)) else some (.inl (w64 (a98 + 1))))))) else some (.inr (.inl ())))
def tracebookref50_totals (p0 : (List api_Node)) : Option Int :=
  ((loop (tracebookref50_totals_L2 p0) 0).bind fun | .inl _ => some 0 | .inr rv => some rv)
theorem tracebookref50_totals_fun (p0 : (List api_Node)) (r : Int) (hF : tracebookref50_totals p0 = some r) : Fun Try.prog 35 true [] [cL 5 t_api_Node p0] noHeap (cI r) noHeap := by
 refine Fun.of_walk0 Try.func35 c35 (by kernel_rfl) (rs := [.tmp 2]) (by kernel_rfl) ?_; unfold v35
 unfold tracebookref50_totals at hF
 refine wA rfl ?_; refine W_seq ?_; refine wA rfl ?_; refine W_for (fun _ _ h => h) hF (.inl) (fun a98 => [(0, cL 5 t_api_Node p0), (3, cI a98)]) (fun a98 => []) (fun _ => []) (fun _ => []) sw ?_ ?_
 · rintro ⟨⟩ hF
   refine wA rfl ?_; cases hF
   exact W_ret wR
 rintro a98 x_0 hF cont_0 brk_0 fin_0
 unfold tracebookref50_totals_L2 at hF
 refine W_seq ?_; refine wC 2 rfl ?_; refine rS (T_len (tc := t_api_Node) p0 .tree ?_); refine QV rfl ?_; refine wIf hF rfl (fun _ hF => ?_) fun _ hF => ?_
 · refine W_skip ?_; refine W_seq ?_; refine W_block ?_; refine wC 2 rfl ?_; obtain ⟨y146, hy146, hF⟩ := bB hF
   refine rS (T_ixT (tc := t_api_Node) p0 rfl rfl hy146 ?_); refine QV rfl ?_; refine W_seq ?_; refine wA rfl ?_; refine W_for (fun _ _ h => h) hF (id) (fun (a168, a169, a170) => [(0, cL 5 t_api_Node p0), (3, cI a98), (4, cI a168), (5, cB a169), (6, cI a170)]) (fun (a168, a169, a170) => []) (fun (e177, e178) => [(0, cL 5 t_api_Node p0), (3, cI a98), (4, cI e177), (5, cB e178)]) (fun (e177, e178) => []) sw ?_ ?_
   · rintro ⟨e177, e178⟩ hF
     refine W_seq ?_; refine W_join (fun _ _ h => h) hF (fun v179 => [(0, cL 5 t_api_Node p0), (3, cI a98), (57, cB v179)]) (fun v179 => []) ?_ ?_
     · rintro v179 hF
       refine wIf hF rfl (fun _ hF => ?_) fun _ hF => ?_
       · refine wA rfl ?_; have hF := fin_0 _ (oi hF); cases hF
         exact W_ret wR
       refine W_skip ?_; refine wB rfl ?_; exact cont_0 _ _ _ (oi hF) sw
     intro join hF
     refine wD 2 rfl ?_; cases h181 : e178
     · have hF := bF' h181 hF; refine Q_run SV 11 rfl ?_; obtain ⟨y182, hy182, hF⟩ := bB' hF
       refine R_step SV rfl (T_ixT (tc := t_api_Node) p0 rfl rfl hy182 ?_); refine QV rfl ?_; exact join (!decide (e177 = y182.fTotal)) _ _ hF sw
     have hF := bT' h181 hF; refine Q_run SV 2 rfl ?_; obtain ⟨y183, hy183, hF⟩ := bB' hF
     refine R_step SV rfl (T_ixT (tc := t_api_Node) p0 rfl rfl hy183 ?_); refine Q_run SV 5 rfl ?_; cases h184 : (decide (y183.fCount = 0))
     · have hF := bF' h184 hF; refine Q_run SV 3 rfl ?_; obtain ⟨y185, hy185, hF⟩ := bB' hF
       refine R_step SV rfl (T_ixT (tc := t_api_Node) p0 rfl rfl hy185 ?_); refine QV rfl ?_; exact join (!decide (e177 = y185.fTotal)) _ _ hF sw
     have hF := bT' h184 hF; refine QV rfl ?_; exact join true _ _ hF sw
   rintro ⟨a168, a169, a170⟩ x_1 hF cont_1 brk_1 fin_1
   unfold tracebookref50_totals_L1 at hF
   refine W_seq ?_; refine wC 2 rfl ?_; refine rS (T_len (tc := t_api_Node) p0 .tree ?_); refine QV rfl ?_; refine wIf hF rfl (fun _ hF => ?_) fun _ hF => ?_
   · refine W_skip ?_; refine W_seq ?_; refine W_join (fun _ _ h => h) hF (fun (v186, v187) => [(0, cL 5 t_api_Node p0), (3, cI a98), (4, cI v186), (5, cB v187), (6, cI a170)]) (fun (v186, v187) => []) ?_ ?_
     · rintro ⟨v186, v187⟩ hF
       refine wB rfl ?_; exact cont_1 _ _ _ (oi hF) sw
     intro join hF
     refine W_block ?_; refine wC 2 rfl ?_; obtain ⟨y188, hy188, hF⟩ := bB' hF
     refine rS (T_ixT (tc := t_api_Node) p0 rfl rfl hy188 ?_); refine QV rfl ?_; refine wIf' hF rfl (fun _ hF => ?_) fun _ hF => ?_
     · refine wC 3 rfl ?_; obtain ⟨y189, hy189, hF⟩ := bB' hF
       refine rS (T_ixT (tc := t_api_Node) p0 rfl rfl hy189 ?_); refine QV rfl ?_; refine wB rfl ?_; exact join ((w64 (a168 + y189.fTotal)), false) _ _ hF sw
     refine W_skip ?_; exact join (a168, a169) _ _ hF sw
   refine W_exit ?_; refine thenQ_exit ?_; refine thenQ_exit ?_; refine blockQ_hit ?_; exact brk_1 _ _ _ (oi hF) sw
 refine W_exit ?_; refine thenQ_exit ?_; refine thenQ_exit ?_; refine blockQ_hit ?_; exact brk_0 _ _ _ (oi hF) sw
def tracebookref50_Check (p0 : (List api_Node)) : Option Int :=
  (bif (decide (2000 < (List.length p0 : Int))) then some 7 else ((tracebookref50_ranges p0).bind fun r1 => (((bif (decide (r1 = 0)) then ((tracebookref50_forms p0).bind fun r6 => some r6) else some r1) : Option Int).bind fun v2 => (((bif (decide (v2 = 0)) then ((tracebookref50_totals p0).bind fun r4 => some r4) else some v2) : Option Int).bind fun v3 => some v3))))
theorem tracebookref50_Check_fun (p0 : (List api_Node)) (r : Int) (hF : tracebookref50_Check p0 = some r) : Fun Try.prog 16 true [] [cL 5 t_api_Node p0] noHeap (cI r) noHeap := by
 refine Fun.of_walk0 Try.func16 c16 (by kernel_rfl) (rs := [.tmp 2]) (by kernel_rfl) ?_; unfold v16
 unfold tracebookref50_Check at hF
 refine wA rfl ?_; refine W_seq ?_; refine wC 1 rfl ?_; refine rS (T_len (tc := t_api_Node) p0 .tree ?_); refine QV rfl ?_; refine wIf hF rfl (fun _ hF => ?_) fun _ hF => ?_
 · refine wA rfl ?_; cases hF
   exact W_ret wR
 refine W_skip ?_; refine wC 1 rfl ?_; obtain ⟨r1, hr1, hF⟩ := bB hF
 refine rS (T_call (tracebookref50_ranges_fun _ _ hr1) ⟨rfl, trivial⟩ rfl (.inl rfl) ?_); refine QV rfl ?_; refine W_seq ?_; refine wA rfl ?_; refine W_join (fun _ _ h => h) hF (fun v2 => [(0, cL 5 t_api_Node p0), (3, cI v2)]) (fun v2 => []) ?_ ?_
 · rintro v2 hF
   refine W_seq ?_; refine wA rfl ?_; refine W_join (fun _ _ h => h) hF (fun v3 => [(3, cI v3)]) (fun v3 => []) ?_ ?_
   · rintro v3 hF
     refine wA rfl ?_; cases hF
     exact W_ret wR
   intro join hF
   refine wIf' hF rfl (fun _ hF => ?_) fun _ hF => ?_
   · refine wD 1 rfl ?_; obtain ⟨r4, hr4, hF⟩ := bB' hF
     refine rS (T_call (tracebookref50_totals_fun _ _ hr4) ⟨rfl, trivial⟩ rfl (.inl rfl) ?_); refine QV rfl ?_; exact join r4 _ _ hF sw
   refine W_skip ?_; exact join v2 _ _ hF sw
 intro join hF
 refine wIf' hF rfl (fun _ hF => ?_) fun _ hF => ?_
 · refine wD 1 rfl ?_; obtain ⟨r6, hr6, hF⟩ := bB' hF
   refine rS (T_call (tracebookref50_forms_fun _ _ hr6) ⟨rfl, trivial⟩ rfl (.inl rfl) ?_); refine QV rfl ?_; exact join r6 _ _ hF sw
 refine W_skip ?_; exact join r1 _ _ hF sw
def tracebookref50_Path_L1 (p0 : (List api_Node)) : (Int × (List ByteArray)) → Option ((Int × (List ByteArray)) ⊕ (List ByteArray)) := fun (a16, a17) =>
  (bif (decide (0 ≤ a16)) then ((idx p0 a16).bind fun y23 => (bif room 16 (List.length [y23.fName] + List.length a17) then ((idx p0 a16).bind fun y25 => some (.inl (y25.fParent, ([y23.fName] ++ a17)))) else none)) else some (.inr a17))
def tracebookref50_Path (p0 : (List api_Node)) (p1 : Int) : Option (List ByteArray) :=
  ((((tracebookref50_Check p0).bind fun r28 => (bif (!decide (r28 = 0)) then some true else (bif (decide (p1 < 0)) then some true else some (decide ((List.length p0 : Int) ≤ p1))))) : Option Bool).bind fun v1 => (bif v1 then some [] else ((loop (tracebookref50_Path_L1 p0) (p1, [])).bind fun e22 => some e22)))
theorem tracebookref50_Path_fun (p0 : (List api_Node)) (p1 : Int) (r : (List ByteArray)) (hF : tracebookref50_Path p0 p1 = some r) : Fun Try.prog 39 false [] [cL 5 t_api_Node p0, cI p1] (heapOf []) (cO (902,1560)) (heapOf [((902,1560), .arr 9 1 (List.map t_str r))]) := by
 refine Fun.of_walkM [] (some []) Try.func39 c39 (by kernel_rfl) (rs := [.tmp 4]) (by kernel_rfl) rfl rfl rfl ?_; unfold v39
 unfold tracebookref50_Path at hF
 refine wA rfl ?_; refine W_seq ?_; refine W_seq ?_; refine W_join (fun _ _ h => h) hF (fun v1 => [(0, cL 5 t_api_Node p0), (1, cI p1), (18, cB v1)]) (fun v1 => []) ?_ ?_
 · rintro v1 hF
   refine wIf hF rfl (fun _ hF => ?_) fun _ hF => ?_
   · refine wA rfl ?_; cases hF
     exact W_ret ⟨_, _, (S_own 4 (902,1560) 9 1 rfl rfl rfl rfl S_refl), _, rfl, rfl, rfl, (AgM.weak ⟨rfl, trivial⟩)⟩
   refine W_skip ?_; refine wA rfl ?_; refine W_seq ?_; refine W_for (fun _ _ h => h) hF (id) (fun (a16, a17) => [(0, cL 5 t_api_Node p0), (1, cI a16), (5, cO (28,1))]) (fun (a16, a17) => [((28,1), .arr 9 1 (List.map t_str a17))]) (fun e22 => [(5, cO (28,1))]) (fun e22 => [((28,1), .arr 9 1 (List.map t_str e22))]) (S_own 5 (28,1) 9 1 rfl rfl rfl rfl sw) ?_ ?_
   · rintro e22 hF
     refine wA rfl ?_; cases hF
     exact W_ret ⟨_, _, (S_ren (28,1) (902,1560) rfl rfl S_refl), _, rfl, rfl, rfl, (AgM.weak ⟨rfl, trivial⟩)⟩
   rintro ⟨a16, a17⟩ x_0 hF cont_0 brk_0 fin_0
   unfold tracebookref50_Path_L1 at hF
   refine W_seq ?_; refine wA rfl ?_; refine wIf hF rfl (fun _ hF => ?_) fun _ hF => ?_
   · refine W_skip ?_; refine W_block ?_; refine wC 2 rfl ?_; obtain ⟨y23, hy23, hF⟩ := bB hF
     refine rS (T_ixT (tc := t_api_Node) p0 rfl rfl hy23 ?_); refine Q_run SV 2 rfl ?_; refine rS (T_bsl (tc := t_str) [y23.fName] rfl ⟨rfl, trivial⟩ rfl (fun _ => rfl) rfl ?_)
     refine Q_run SV 1 rfl ?_; obtain ⟨h24, hF⟩ := roomT hF
     refine rS (T_appO (tc := t_str) [y23.fName] a17 rfl rfl (.own _ _ rfl) h24 rfl ?_); refine QV rfl ?_; refine wD 2 rfl ?_; obtain ⟨y25, hy25, hF⟩ := bB hF
     refine rS (T_ixT (tc := t_api_Node) p0 rfl rfl hy25 ?_); refine QV rfl ?_; exact cont_0 _ _ _ (oi hF) (S_ren (28,0) (28,1) rfl rfl sw)
   refine W_exit ?_; refine thenQ_exit ?_; refine thenQ_exit ?_; refine blockQ_hit ?_; exact brk_0 _ _ _ (oi hF) sw
 intro join hF
 refine wD 1 rfl ?_; obtain ⟨r28, hr28, hF⟩ := bB' hF
 refine rS (T_call (tracebookref50_Check_fun _ _ hr28) ⟨rfl, trivial⟩ rfl (.inl rfl) ?_); refine Q_run SV 2 rfl ?_; cases h29 : (!decide (r28 = 0))
 · have hF := bF' h29 hF; refine Q_run SV 4 rfl ?_; cases h30 : (decide (p1 < 0))
   · have hF := bF' h30 hF; refine Q_run SV 2 rfl ?_; refine R_step SV rfl (T_len (tc := t_api_Node) p0 .tree ?_); refine QV rfl ?_; exact join (decide ((List.length p0 : Int) ≤ p1)) _ _ hF sw
   have hF := bT' h30 hF; refine QV rfl ?_; exact join true _ _ hF sw
 have hF := bT' h29 hF; refine QV rfl ?_; exact join true _ _ hF sw
def tracebookref50_Find_L1 (p0 : (List api_Node)) (p1 : (List ByteArray)) : Int → Option (Int ⊕ (Unit ⊕ Int)) := fun a12 =>
  (bif (decide (a12 < (List.length p0 : Int))) then ((tracebookref50_Path p0 a12).bind fun r17 => ((tracebookref50_Compare r17 p1).bind fun r18 => (bif (decide (r18 = 0)) then some (.inr (.inr a12)) else some (.inl (w64 (a12 + 1)))))) else some (.inr (.inl ())))
def tracebookref50_Find (p0 : (List api_Node)) (p1 : (List ByteArray)) : Option Int :=
  (bif (decide ((List.length p1 : Int) = 0)) then some (-1) else ((loop (tracebookref50_Find_L1 p0 p1) 0).bind fun | .inl _ => some (-1) | .inr rv => some rv))
theorem tracebookref50_Find_fun (p0 : (List api_Node)) (p1 : (List ByteArray)) (r : Int) (hF : tracebookref50_Find p0 p1 = some r) : Fun Try.prog 21 true [] [cL 5 t_api_Node p0, cL 1 t_str p1] noHeap (cI r) noHeap := by
 refine Fun.of_walk0 Try.func21 c21 (by kernel_rfl) (rs := [.tmp 4]) (by kernel_rfl) ?_; unfold v21
 unfold tracebookref50_Find at hF
 refine wA rfl ?_; refine W_seq ?_; refine wC 1 rfl ?_; refine rS (T_len (tc := t_str) p1 .tree ?_); refine QV rfl ?_; refine wIf hF rfl (fun _ hF => ?_) fun _ hF => ?_
 · refine wA rfl ?_; cases hF
   exact W_ret wR
 refine W_skip ?_; refine W_seq ?_; refine wA rfl ?_; refine W_for (fun _ _ h => h) hF (.inl) (fun a12 => [(0, cL 5 t_api_Node p0), (1, cL 1 t_str p1), (5, cI a12)]) (fun a12 => []) (fun _ => []) (fun _ => []) sw ?_ ?_
 · rintro ⟨⟩ hF
   refine wA rfl ?_; cases hF
   exact W_ret wR
 rintro a12 x_0 hF cont_0 brk_0 fin_0
 unfold tracebookref50_Find_L1 at hF
 refine W_seq ?_; refine wC 2 rfl ?_; refine rS (T_len (tc := t_api_Node) p0 .tree ?_); refine QV rfl ?_; refine wIf hF rfl (fun _ hF => ?_) fun _ hF => ?_
 · refine W_skip ?_; refine W_seq ?_; refine W_block ?_; refine wC 2 rfl ?_; obtain ⟨r17, hr17, hF⟩ := bB hF
   refine R_stepX trivial (X_callG [((902,1560),(17,1))] rfl (callN _) (tracebookref50_Path_fun _ _ _ hr17) trivial ⟨.inl rfl, .inl rfl, trivial⟩ rfl rfl rfl ?_); refine Q_run SV 1 rfl ?_; obtain ⟨r18, hr18, hF⟩ := bB hF
   refine rS (T_call (tracebookref50_Compare_fun _ _ _ hr18) ⟨⟨_, rfl⟩, rfl, trivial⟩ rfl (.inl rfl) ?_); refine QV rfl ?_; refine wIf hF rfl (fun _ hF => ?_) fun _ hF => ?_
   · refine wA rfl ?_; have hF := fin_0 _ (oi hF); cases hF
     exact W_ret wR
   refine W_skip ?_; refine wB rfl ?_; exact cont_0 _ _ _ (oi hF) sw
 refine W_exit ?_; refine thenQ_exit ?_; refine thenQ_exit ?_; refine blockQ_hit ?_; exact brk_0 _ _ _ (oi hF) sw
def tracebooklaw50_FlamePaths_L1 (p0 : (List api_Node)) : (Int × (List ByteArray) × Int) → Option ((Int × (List ByteArray) × Int) ⊕ (Int ⊕ Bool)) := fun (a43, a44, a45) =>
  (bif (decide (a45 < (List.length p0 : Int))) then ((flame_Path p0 a45).bind fun r68 => (((bif (decide ((List.length r68 : Int) = 0)) then some true else ((flame_Find p0 r68).bind fun r76 => (bif (!decide (r76 = a45)) then some true else (bif (decide (0 < a45)) then ((tracebookref50_Compare a44 r68).bind fun r79 => some (decide (0 ≤ r79))) else some false)))) : Option Bool).bind fun v69 => (bif v69 then some (.inr (.inr false)) else ((idx p0 a45).bind fun y70 => (((bif (decide (y70.fParent = (-1))) then ((idx p0 a45).bind fun y72 => some (w64 (a43 + y72.fTotal))) else some a43) : Option Int).bind fun v71 => some (.inl (v71, r68, (w64 (a45 + 1))))))))) else some (.inr (.inl a43)))
def tracebooklaw50_FlamePaths (p0 : (List api_Node)) (p1 : (List ByteArray)) : Option Bool :=
  ((((tracebooklaw50_awake ).bind fun r83 => (bif (!r83) then some true else ((tracebookref50_Few p0).bind fun r85 => (bif (!r85) then some true else (bif (decide (40 < (List.length p0 : Int))) then some true else some (decide (40 < (List.length p1 : Int)))))))) : Option Bool).bind fun v1 => (bif v1 then ((tracebooklaw50_awake ).bind fun r2 => some r2) else ((flame_Check p0).bind fun r3 => (bif (!decide (r3 = 0)) then ((((flame_Find p0 p1).bind fun r5 => (bif (decide (r5 = (-1))) then ((flame_Path p0 0).bind fun r7 => some (decide ((List.length r7 : Int) = 0))) else some false)) : Option Bool).bind fun v4 => some v4) else ((loop (tracebooklaw50_FlamePaths_L1 p0) (0, [], 0)).bind fun | .inl e59 => ((((flame_Sum p0).bind fun r61 => (bif (decide (e59 = r61)) then ((flame_Find p0 p1).bind fun r63 => ((tracebookref50_Find p0 p1).bind fun r64 => (bif (decide (r63 = r64)) then ((flame_Path p0 (-1)).bind fun r66 => ((flame_Path p0 (List.length p0 : Int)).bind fun r67 => some (decide ((w64 ((List.length r66 : Int) + (List.length r67 : Int))) = 0)))) else some false))) else some false)) : Option Bool).bind fun v60 => some v60) | .inr rv => some rv)))))
theorem tracebooklaw50_FlamePaths_fun (p0 : (List api_Node)) (p1 : (List ByteArray)) (r : Bool) (hF : tracebooklaw50_FlamePaths p0 p1 = some r) : Fun Try.prog 5 true [] [cL 5 t_api_Node p0, cL 1 t_str p1] noHeap (cB r) noHeap := by
 refine Fun.of_walk0 Try.func5 c5 (by kernel_rfl) (rs := [.tmp 4]) (by kernel_rfl) ?_; unfold v5
 unfold tracebooklaw50_FlamePaths at hF
 refine wA rfl ?_; refine W_seq ?_; refine W_seq ?_; refine W_join (fun _ _ h => h) hF (fun v1 => [(0, cL 5 t_api_Node p0), (1, cL 1 t_str p1), (25, cB v1)]) (fun v1 => []) ?_ ?_
 · rintro v1 hF
   refine wIf hF rfl (fun _ hF => ?_) fun _ hF => ?_
   · refine wE ?_; obtain ⟨r2, hr2, hF⟩ := bB hF
     refine rS (T_call (tracebooklaw50_awake_fun _ hr2) trivial rfl (.inl rfl) ?_); refine QV rfl ?_; cases hF
     exact W_ret wR
   refine W_skip ?_; refine W_seq ?_; refine wC 1 rfl ?_; obtain ⟨r3, hr3, hF⟩ := bB hF
   refine rS (T_call (flame_Check_fun _ _ hr3) ⟨rfl, trivial⟩ rfl (.inl rfl) ?_); refine QV rfl ?_; refine wIf hF rfl (fun _ hF => ?_) fun _ hF => ?_
   · refine W_seq ?_; refine W_join (fun _ _ h => h) hF (fun v4 => [(4, cB v4)]) (fun v4 => []) ?_ ?_
     · rintro v4 hF
       cases hF
       exact W_ret wR
     intro join hF
     refine wD 2 rfl ?_; obtain ⟨r5, hr5, hF⟩ := bB' hF
     refine rS (T_call (flame_Find_fun _ _ _ hr5) ⟨rfl, rfl, trivial⟩ rfl (.inl rfl) ?_); refine Q_run SV 2 rfl ?_; cases h6 : (decide (r5 = (-1)))
     · have hF := bF' h6 hF; refine QV rfl ?_; exact join false _ _ hF sw
     have hF := bT' h6 hF; refine Q_run SV 1 rfl ?_; obtain ⟨r7, hr7, hF⟩ := bB' hF
     refine R_stepX rfl (X_callG [((902,760),(36,1))] rfl (callN _) (flame_Path_fun _ _ _ hr7) trivial ⟨.inl rfl, .inl rfl, trivial⟩ rfl rfl rfl ?_); refine R_step SV rfl (T_len (tc := t_str) r7 (.own _ _ rfl) ?_)
     refine QV rfl ?_; exact join (decide ((List.length r7 : Int) = 0)) _ _ hF sw
   refine W_skip ?_; refine wA rfl ?_; refine wA rfl ?_; refine W_seq ?_; refine wA rfl ?_; refine W_for (fun _ _ h => h) hF (.inl) (fun (a43, a44, a45) => [(0, cL 5 t_api_Node p0), (1, cL 1 t_str p1), (5, cI a43), (6, cO (48,1)), (7, cI a45)]) (fun (a43, a44, a45) => [((48,1), .arr 9 1 (List.map t_str a44))]) (fun e59 => [(0, cL 5 t_api_Node p0), (1, cL 1 t_str p1), (5, cI e59)]) (fun e59 => []) (S_own 6 (48,1) 9 1 rfl rfl rfl rfl sw) ?_ ?_
   · rintro e59 hF
     refine W_seq ?_; refine W_join (fun _ _ h => h) hF (fun v60 => [(4, cB v60)]) (fun v60 => []) ?_ ?_
     · rintro v60 hF
       cases hF
       exact W_ret wR
     intro join hF
     refine wD 2 rfl ?_; obtain ⟨r61, hr61, hF⟩ := bB' hF
     refine rS (T_call (flame_Sum_fun _ _ hr61) ⟨rfl, trivial⟩ rfl (.inl rfl) ?_); refine Q_run SV 2 rfl ?_; cases h62 : (decide (e59 = r61))
     · have hF := bF' h62 hF; refine QV rfl ?_; exact join false _ _ hF sw
     have hF := bT' h62 hF; refine Q_run SV 2 rfl ?_; obtain ⟨r63, hr63, hF⟩ := bB' hF
     refine R_step SV rfl (T_call (flame_Find_fun _ _ _ hr63) ⟨rfl, rfl, trivial⟩ rfl (.inl rfl) ?_); refine Q_run SV 2 rfl ?_; obtain ⟨r64, hr64, hF⟩ := bB' hF
     refine R_step SV rfl (T_call (tracebookref50_Find_fun _ _ _ hr64) ⟨rfl, rfl, trivial⟩ rfl (.inl rfl) ?_); refine Q_run SV 3 rfl ?_; cases h65 : (decide (r63 = r64))
     · have hF := bF' h65 hF; refine QV rfl ?_; exact join false _ _ hF sw
     have hF := bT' h65 hF; refine Q_run SV 1 rfl ?_; obtain ⟨r66, hr66, hF⟩ := bB' hF
     refine R_stepX rfl (X_callG [((902,760),(98,1))] rfl (callN _) (flame_Path_fun _ _ _ hr66) trivial ⟨.inl rfl, .inl rfl, trivial⟩ rfl rfl rfl ?_); refine R_step SV rfl (T_len (tc := t_str) r66 (.own _ _ rfl) ?_)
     refine Q_run SV 2 rfl ?_; refine R_step SV rfl (T_len (tc := t_api_Node) p0 .tree ?_); obtain ⟨r67, hr67, hF⟩ := bB' hF
     refine R_stepX rfl (X_callG [((902,760),(103,1))] rfl (callN _) (flame_Path_fun _ _ _ hr67) trivial ⟨.inl rfl, .inl rfl, trivial⟩ rfl rfl rfl ?_); refine R_step SV rfl (T_len (tc := t_str) r67 (.own _ _ rfl) ?_)
     refine QV rfl ?_; exact join (decide ((w64 ((List.length r66 : Int) + (List.length r67 : Int))) = 0)) _ _ hF sw
   rintro ⟨a43, a44, a45⟩ x_0 hF cont_0 brk_0 fin_0
   unfold tracebooklaw50_FlamePaths_L1 at hF
   refine W_seq ?_; refine wC 2 rfl ?_; refine rS (T_len (tc := t_api_Node) p0 .tree ?_); refine QV rfl ?_; refine wIf hF rfl (fun _ hF => ?_) fun _ hF => ?_
   · refine W_skip ?_; refine W_seq ?_; refine W_block ?_; refine wC 2 rfl ?_; obtain ⟨r68, hr68, hF⟩ := bB hF
     refine R_stepX trivial (X_callG [((902,760),(48,2))] rfl (callN _) (flame_Path_fun _ _ _ hr68) trivial ⟨.inl rfl, .inl rfl, trivial⟩ rfl rfl rfl ?_); refine QV rfl ?_; refine W_seq ?_; refine W_seq ?_
     refine W_join (fun _ _ h => h) hF (fun v69 => [(0, cL 5 t_api_Node p0), (1, cL 1 t_str p1), (5, cI a43), (7, cI a45), (8, cO (48,2)), (68, cB v69)]) (fun v69 => [((48,2), .arr 9 1 (List.map t_str r68))]) ?_ ?_
     · rintro v69 hF
       refine wIf hF rfl (fun _ hF => ?_) fun _ hF => ?_
       · refine wA rfl ?_; have hF := fin_0 _ (oi hF); cases hF
         exact W_ret wR
       refine W_skip ?_; refine wA rfl ?_; refine wC 2 rfl ?_; obtain ⟨y70, hy70, hF⟩ := bB hF
       refine rS (T_ixT (tc := t_api_Node) p0 rfl rfl hy70 ?_); refine QV rfl ?_; refine W_join (fun _ _ h => h) hF (fun v71 => [(0, cL 5 t_api_Node p0), (1, cL 1 t_str p1), (5, cI v71), (6, cO (48,2)), (7, cI a45)]) (fun v71 => [((48,2), .arr 9 1 (List.map t_str r68))]) ?_ ?_
       · rintro v71 hF
         refine wB rfl ?_; exact cont_0 _ _ _ (oi hF) (S_ren (48,2) (48,1) rfl rfl sw)
       intro join hF
       refine wIf' hF rfl (fun _ hF => ?_) fun _ hF => ?_
       · refine wD 3 rfl ?_; obtain ⟨y72, hy72, hF⟩ := bB' hF
         refine rS (T_ixT (tc := t_api_Node) p0 rfl rfl hy72 ?_); refine QV rfl ?_; exact join (w64 (a43 + y72.fTotal)) _ _ hF sw
       refine W_skip ?_; exact join a43 _ _ hF sw
     intro join hF
     refine wD 1 rfl ?_; refine rS (T_len (tc := t_str) r68 (.own _ _ rfl) ?_); refine Q_run SV 2 rfl ?_; cases h75 : (decide ((List.length r68 : Int) = 0))
     · have hF := bF' h75 hF; refine Q_run SV 2 rfl ?_; obtain ⟨r76, hr76, hF⟩ := bB' hF
       refine R_step SV rfl (T_call (flame_Find_fun _ _ _ hr76) ⟨rfl, ⟨_, rfl⟩, trivial⟩ rfl (.inl rfl) ?_); refine Q_run SV 4 rfl ?_; cases h77 : (!decide (r76 = a45))
       · have hF := bF' h77 hF; refine Q_run SV 3 rfl ?_; cases h78 : (decide (0 < a45))
         · have hF := bF' h78 hF; refine QV rfl ?_; exact join false _ _ hF sw
         have hF := bT' h78 hF; refine Q_run SV 2 rfl ?_; obtain ⟨r79, hr79, hF⟩ := bB' hF
         refine R_step SV rfl (T_call (tracebookref50_Compare_fun _ _ _ hr79) ⟨⟨_, rfl⟩, ⟨_, rfl⟩, trivial⟩ rfl (.inl rfl) ?_); refine QV rfl ?_; exact join (decide (0 ≤ r79)) _ _ hF sw
       have hF := bT' h77 hF; refine QV rfl ?_; exact join true _ _ hF sw
     have hF := bT' h75 hF; refine QV rfl ?_; exact join true _ _ hF sw
   refine W_exit ?_; refine thenQ_exit ?_; refine thenQ_exit ?_; refine blockQ_hit ?_; exact brk_0 _ _ _ (oi hF) sw
 intro join hF
 refine wF ?_; obtain ⟨r83, hr83, hF⟩ := bB' hF
 refine rS (T_call (tracebooklaw50_awake_fun _ hr83) trivial rfl (.inl rfl) ?_); refine Q_run SV 2 rfl ?_; cases h84 : (!r83)
 · have hF := bF' h84 hF; refine Q_run SV 1 rfl ?_; obtain ⟨r85, hr85, hF⟩ := bB' hF
   refine R_step SV rfl (T_call (tracebookref50_Few_fun _ _ hr85) ⟨rfl, trivial⟩ rfl (.inl rfl) ?_); refine Q_run SV 3 rfl ?_; cases h86 : (!r85)
   · have hF := bF' h86 hF; refine Q_run SV 1 rfl ?_; refine R_step SV rfl (T_len (tc := t_api_Node) p0 .tree ?_); refine Q_run SV 3 rfl ?_; cases h87 : (decide (40 < (List.length p0 : Int)))
     · have hF := bF' h87 hF; refine Q_run SV 1 rfl ?_; refine R_step SV rfl (T_len (tc := t_str) p1 .tree ?_); refine QV rfl ?_; exact join (decide (40 < (List.length p1 : Int))) _ _ hF sw
     have hF := bT' h87 hF; refine QV rfl ?_; exact join true _ _ hF sw
   have hF := bT' h86 hF; refine QV rfl ?_; exact join true _ _ hF sw
 have hF := bT' h84 hF; refine QV rfl ?_; exact join true _ _ hF sw
end Go.VM
