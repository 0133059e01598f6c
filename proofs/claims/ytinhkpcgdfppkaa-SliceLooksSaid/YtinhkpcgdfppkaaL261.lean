/- What the functions of the law compute, each with its proof. -/
import Derived.Test.YtinhkpcgdfppkaaSrt
import Derived.Test.YtinhkpcgdfppkaaRows
import Derived.KernelRfl
import Derived.Lib.Bytealg
import Derived.Laws.Externs
import Derived.WalkKit
namespace Go.VM
open Go.Proofs Go.Proofs.Ytinhkpcgdfppkaa
open Go.RowKit
set_option maxRecDepth 100000
set_option maxHeartbeats 4000000
structure api_Span where
  fFrom : Int
  fTo : Int
  deriving DecidableEq
structure api_Slice where
  fThread : Int
  fParent : Int
  fDepth : Int
  fName : ByteArray
  fSpan : api_Span
  fSelf : Int
  fOpen : Bool
  deriving DecidableEq
abbrev m_api_Slice (x : api_Slice) : List C := [.imm (tI x.fThread), .imm (tI x.fParent), .imm (tI x.fDepth), .imm (.sc (.string x.fName)), .imm (tI x.fSpan.fFrom), .imm (tI x.fSpan.fTo), .imm (tI x.fSelf), .imm (.sc (.bool x.fOpen))]
def t_api_Slice (x : api_Slice) : List T := [tI x.fThread, tI x.fParent, tI x.fDepth, .sc (.string x.fName), tI x.fSpan.fFrom, tI x.fSpan.fTo, tI x.fSelf, .sc (.bool x.fOpen)]
def t_str (x : ByteArray) : List T := [.sc (.string x)]
def t_L_api_Slice (x : (List api_Slice)) : List T := [.sl 8 (List.map t_api_Slice x)]
def t_i64 (x : Int) : List T := [tI x]
def t_L_str (x : (List ByteArray)) : List T := [.sl 1 (List.map t_str x)]
def t_api_Span (x : api_Span) : List T := [tI x.fFrom, tI x.fTo]
def v43 : VC := (.seq (rg [vo 1 (.box 42 0), vo 2 (.mv (kB false))]) (.seq (rg [vo 3 (.fld 0 1), vo 4 (.load 1 false 3), vo 5 (.bin .geq 4 (kI 0)), vm 6 5, vg 7 6 true (.fld 0 1), vg 8 6 true (.load 1 false 7), vg 9 6 true (.fld 1 1), vg 10 6 true (.load 1 false 9), vg 11 6 true (.bin .lss 8 10), vo 12 (.pick 6 11 (kB false)), vm 13 12, vg 14 13 true (.fld 1 1), vg 15 13 true (.load 1 false 14), vg 16 13 true (.bin .leq 15 (kI 1000000000000)), vo 17 (.pick 13 16 (kB false)), vm 2 17]) .ret))
theorem c43 : (Try.f43.body.bind fun c => cCode Try.prog 18 c) = some v43 := by kernel_rfl
def v65 : VC := (.seq (rg [vo 2 (.mv (kB false))]) (.seq (.seq (rg [vm 5 0, vo 6 (.bin .geq 5 (.con (.c (.imm (.sc (.int .u8 97)))))), vm 7 6, vg 8 7 true (.mv 0), vg 9 7 true (.bin .leq 8 (.con (.c (.imm (.sc (.int .u8 122)))))), vo 10 (.pick 7 9 (kB false)), vm 11 10, vg 12 11 false (.mv 0), vg 13 11 false (.bin .geq 12 (.con (.c (.imm (.sc (.int .u8 65)))))), vg 14 11 false (.mv 13), vg 15 14 true (.mv 0), vg 16 14 true (.bin .leq 15 (.con (.c (.imm (.sc (.int .u8 90)))))), vg 17 11 false (.pick 14 16 (kB false)), vo 18 (.pick 11 (kB true) 17), vm 19 18, vg 20 19 false (.mv 0), vg 21 19 false (.bin .geq 20 (.con (.c (.imm (.sc (.int .u8 48)))))), vg 22 19 false (.mv 21), vg 23 22 true (.mv 0), vg 24 22 true (.bin .leq 23 (.con (.c (.imm (.sc (.int .u8 57)))))), vg 25 19 false (.pick 22 24 (kB false)), vo 26 (.pick 19 (kB true) 25)]) (.cond 26 (.seq (rg [vo 2 (.mv (kB true))]) .ret) .skip)) (.seq (rg [vo 3 (.mv (.con (.c (.imm (.sc (.string ⟨#[95,46,58,47,60,62,36,42,126,45]⟩))))))]) (.seq (.seq (rg [vo 4 (.mv (kI 0))]) (.block 0 (.loop (.seq (.seq (rg [vm 27 4, vm 28 3, vo 29 (.lenT 28), vo 30 (.bin .lss 27 29)]) (.cond 30 .skip (.exit 0))) (.seq (.block 1 (.seq (rg [vm 33 3, vm 34 4, vo 35 (.ixS 33 34), vm 36 0, vo 37 (.bin .eql 35 36)]) (.cond 37 (.seq (rg [vo 2 (.mv (kB true))]) .ret) .skip))) (rg [vm 31 4, vo 32 (.bin .add 31 (kI 1)), vm 4 32])))))) (.seq (rg [vo 2 (.mv (kB false))]) .ret)))))
theorem c65 : (Try.f65.body.bind fun c => cCode Try.prog 38 c) = some v65 := by kernel_rfl
def v44 : VC := (.seq (rg [vo 2 (.mv (kI 0))]) (.seq (.seq (rg [vm 4 0, vo 5 (.lenT 4), vo 6 (.bin .lss 5 (kI 1)), vm 7 6, vg 8 7 false (.mv 0), vg 9 7 false (.lenT 8), vg 10 7 false (.bin .gtr 9 (kI 40)), vo 11 (.pick 7 (kB true) 10)]) (.cond 11 (.seq (rg [vo 2 (.mv (kI 3))]) .ret) .skip)) (.seq (.seq (rg [vo 3 (.mv (kI 0))]) (.block 0 (.loop (.seq (.seq (rg [vm 12 3, vm 13 0, vo 14 (.lenT 13), vo 15 (.bin .lss 12 14)]) (.cond 15 .skip (.exit 0))) (.seq (.block 1 (.seq (rg [vm 18 0, vm 19 3, vo 20 (.ixS 18 19), vo 21 (.call 65 [20]), vo 22 (.un .not 21)]) (.cond 22 (.seq (rg [vo 2 (.mv (kI 3))]) .ret) .skip))) (rg [vm 16 3, vo 17 (.bin .add 16 (kI 1)), vm 3 17])))))) (.seq (rg [vo 2 (.mv (kI 0))]) .ret))))
theorem c44 : (Try.f44.body.bind fun c => cCode Try.prog 23 c) = some v44 := by kernel_rfl
def v45 : VC := (.seq (rg [vo 2 (.box 44 0), vo 3 (.box 44 1), vo 4 (.mv (kB false))]) (.seq (.block 0 (.seq (rg [vo 6 (.fld 4 2), vo 7 (.fld 0 6), vo 8 (.load 1 false 7), vo 9 (.fld 4 3), vo 10 (.fld 0 9), vo 11 (.load 1 false 10), vo 12 (.bin .neq 8 11), vm 5 12]) (.cond 5 (.seq (rg [vo 13 (.fld 4 2), vo 14 (.fld 0 13), vo 15 (.load 1 false 14), vo 16 (.fld 4 3), vo 17 (.fld 0 16), vo 18 (.load 1 false 17), vo 19 (.bin .lss 15 18), vm 4 19]) .ret) (.seq (rg [vo 21 (.fld 4 2), vo 22 (.fld 1 21), vo 23 (.load 1 false 22), vo 24 (.fld 4 3), vo 25 (.fld 1 24), vo 26 (.load 1 false 25), vo 27 (.bin .neq 23 26), vm 20 27]) (.cond 20 (.seq (rg [vo 28 (.fld 4 2), vo 29 (.fld 1 28), vo 30 (.load 1 false 29), vo 31 (.fld 4 3), vo 32 (.fld 1 31), vo 33 (.load 1 false 32), vo 34 (.bin .gtr 30 33), vm 4 34]) .ret) .skip))))) (.seq (rg [vo 35 (.fld 0 2), vo 36 (.load 1 false 35), vo 37 (.fld 0 3), vo 38 (.load 1 false 37), vo 39 (.bin .lss 36 38), vm 4 39]) .ret)))
theorem c45 : (Try.f45.body.bind fun c => cCode Try.prog 40 c) = some v45 := by kernel_rfl
def v66 : VC := (.seq (rg [vo 2 (.box 42 0), vo 3 (.box 42 1), vo 4 (.mv (kB false))]) (.seq (rg [vo 5 (.fld 0 2), vo 6 (.load 1 false 5), vo 7 (.fld 0 3), vo 8 (.load 1 false 7), vo 9 (.bin .leq 6 8), vm 10 9, vg 11 10 true (.fld 1 3), vg 12 10 true (.load 1 false 11), vg 13 10 true (.fld 1 2), vg 14 10 true (.load 1 false 13), vg 15 10 true (.bin .leq 12 14), vo 16 (.pick 10 15 (kB false)), vm 4 16]) .ret))
theorem c66 : (Try.f66.body.bind fun c => cCode Try.prog 17 c) = some v66 := by kernel_rfl
def v67 : VC := (.seq (rg [vo 6 (.mv (kB false))]) (.seq (.block 0 (.loop (.seq (.seq (rg [vm 7 2, vo 8 (.bin .geq 7 (kI 0)), vm 9 8, vg 10 9 true (.mv 2), vg 11 9 true (.mv 1), vg 12 9 true (.bin .gtr 10 11), vo 13 (.pick 9 12 (kB false))]) (.cond 13 .skip (.exit 0))) (.block 1 (rg [vm 14 0, vm 15 2, vo 16 (.ixA 8 14 15), vo 17 (.fld 1 16), vo 18 (.load 1 false 17), vm 2 18]))))) (.seq (rg [vm 19 1, vm 20 2, vo 21 (.bin .eql 19 20), vm 6 21]) .ret)))
theorem c67 : (Try.f67.body.bind fun c => cCode Try.prog 22 c) = some v67 := by kernel_rfl
def v46 : VC := (.seq (rg [vo 2 (.mv (kB false))]) (.seq (.seq (rg [vo 3 (.mv (kI 0))]) (.block 0 (.loop (.seq (.seq (rg [vm 9 3, vm 10 0, vo 11 (.lenS 10), vo 12 (.bin .lss 9 11)]) (.cond 12 .skip (.exit 0))) (.seq (.block 1 (.seq (rg [vm 15 0, vm 16 3, vo 17 (.ixA 8 15 16), vo 18 (.fld 1 17), vo 19 (.load 1 false 18), vm 4 19]) (.seq (.seq (rg [vm 20 4, vo 21 (.bin .lss 20 (kI (-1))), vm 22 21, vg 23 22 false (.mv 4), vg 24 22 false (.mv 3), vg 25 22 false (.bin .geq 23 24), vo 26 (.pick 22 (kB true) 25)]) (.cond 26 (.seq (rg [vo 2 (.mv (kB false))]) .ret) .skip)) (.seq (.seq (rg [vm 27 4, vo 28 (.bin .eql 27 (kI (-1))), vm 29 28, vg 30 29 true (.mv 0), vg 31 29 true (.mv 3), vg 32 29 true (.ixA 8 30 31), vg 33 29 true (.fld 2 32), vg 34 29 true (.load 1 false 33), vg 35 29 true (.bin .neq 34 (kI 0)), vo 36 (.pick 29 35 (kB false))]) (.cond 36 (.seq (rg [vo 2 (.mv (kB false))]) .ret) .skip)) (.seq (.region (some [0,1,3,7,7,31,63,127,7,7,775,1799,3847,8191,16383,32767,32767,131071,262143,524287,32767,32767,3178495,7372799,15761407,33554431,67108863,134217727,268435455,536870911,536870911,2147483647,4294967295,8589934591,536870911,536870911,52076478463,120795955199,258234908671,533112815615,1099511627775,2199023255551,4398046511103,1,0,0,0,0,0,0,0,0,0,0,0,0,0,0,0,0,0,0,0,0,0,0,0,0,0,0,0,0,0,0,0,0,0,0,0,0,0,0,0,0,0,0]) [vm 37 4, vo 38 (.bin .geq 37 (kI 0)), vm 39 38, vg 40 39 true (.mv 0), vg 41 39 true (.mv 4), vg 42 39 true (.ixA 8 40 41), vg 43 39 true (.fld 0 42), vg 44 39 true (.load 1 false 43), vg 45 39 true (.mv 0), vg 46 39 true (.mv 3), vg 47 39 true (.ixA 8 45 46), vg 48 39 true (.fld 0 47), vg 49 39 true (.load 1 false 48), vg 50 39 true (.bin .neq 44 49), vg 51 39 true (.mv 50), vg 52 51 false (.mv 0), vg 53 51 false (.mv 4), vg 54 51 false (.ixA 8 52 53), vg 55 51 false (.fld 4 54), vg 56 51 false (.load 2 true 55), vg 57 51 false (.mv 0), vg 58 51 false (.mv 3), vg 59 51 false (.ixA 8 57 58), vg 60 51 false (.fld 4 59), vg 61 51 false (.load 2 true 60), vg 62 51 false (.call 66 [56,61]), vg 63 51 false (.un .not 62), vg 64 39 true (.pick 51 (kB true) 63), vg 65 39 true (.mv 64), vg 66 65 false (.mv 0), vg 67 65 false (.mv 3), vg 68 65 false (.ixA 8 66 67), vg 69 65 false (.fld 2 68), vg 70 65 false (.load 1 false 69), vg 71 65 false (.mv 0), vg 72 65 false (.mv 4), vg 73 65 false (.ixA 8 71 72), vg 74 65 false (.fld 2 73), vg 75 65 false (.load 1 false 74), vg 76 65 false (.bin .add 75 (kI 1)), vg 77 65 false (.bin .neq 70 76), vg 78 39 true (.pick 65 (kB true) 77), vo 79 (.pick 39 78 (kB false))]) (.cond 79 (.seq (rg [vo 2 (.mv (kB false))]) .ret) .skip)))))) (rg [vm 13 3, vo 14 (.bin .add 13 (kI 1)), vm 3 14])))))) (.seq (.seq (rg [vo 5 (.mv (kI 0))]) (.block 2 (.loop (.seq (.seq (rg [vm 80 5, vm 81 0, vo 82 (.lenS 81), vo 83 (.bin .lss 80 82)]) (.cond 83 .skip (.exit 2))) (.seq (.block 3 (.seq (.region (some [0,0,3,7,15,31,0,0,192,448,960,1984,4095,8191,1,1,0,0,0,0,1,1,0,0,0,0,0,0]) [vm 86 0, vm 87 5, vo 88 (.ixA 8 86 87), vo 89 (.fld 4 88), vo 90 (.fld 1 89), vo 91 (.load 1 false 90), vm 92 0, vm 93 5, vo 94 (.ixA 8 92 93), vo 95 (.fld 4 94), vo 96 (.fld 0 95), vo 97 (.load 1 false 96), vo 98 (.bin .sub 91 97), vm 6 98]) (.seq (.seq (rg [vo 7 (.mv (kI 0))]) (.block 4 (.loop (.seq (.seq (rg [vm 99 7, vm 100 0, vo 101 (.lenS 100), vo 102 (.bin .lss 99 101)]) (.cond 102 .skip (.exit 4))) (.seq (.block 5 (.seq (.seq (rg [vm 105 0, vm 106 7, vo 107 (.ixA 8 105 106), vo 108 (.fld 1 107), vo 109 (.load 1 false 108), vm 110 5, vo 111 (.bin .eql 109 110)]) (.cond 111 (.region (some [0,0,0,6,14,30,62,0,0,384,896,1920,3968,8190,16383,32767,1,1,1,0,0,0,0,1,1,0,0,0,0,0,0,0]) [vm 112 6, vm 113 0, vm 114 7, vo 115 (.ixA 8 113 114), vo 116 (.fld 4 115), vo 117 (.fld 1 116), vo 118 (.load 1 false 117), vm 119 0, vm 120 7, vo 121 (.ixA 8 119 120), vo 122 (.fld 4 121), vo 123 (.fld 0 122), vo 124 (.load 1 false 123), vo 125 (.bin .sub 118 124), vo 126 (.bin .sub 112 125), vm 6 126]) .skip)) (.seq (.region (some [0,0,3,7,15,31,0,0,192,448,960,1984,4095,8191,16383,16383,65535,131071,262143,524287,16383,16383,3162111,7356415,15745023,32522239,67108863,134217727,268435455,1,1,0,0,0,0,1,1,0,0,0,0,0,0,0,0,0,0,0,0,0,0,0,0,0,0,0,0,0]) [vm 127 0, vm 128 5, vo 129 (.ixA 8 127 128), vo 130 (.fld 4 129), vo 131 (.fld 0 130), vo 132 (.load 1 false 131), vm 133 0, vm 134 7, vo 135 (.ixA 8 133 134), vo 136 (.fld 4 135), vo 137 (.fld 1 136), vo 138 (.load 1 false 137), vo 139 (.bin .lss 132 138), vm 140 139, vg 141 140 true (.mv 0), vg 142 140 true (.mv 7), vg 143 140 true (.ixA 8 141 142), vg 144 140 true (.fld 4 143), vg 145 140 true (.fld 0 144), vg 146 140 true (.load 1 false 145), vg 147 140 true (.mv 0), vg 148 140 true (.mv 5), vg 149 140 true (.ixA 8 147 148), vg 150 140 true (.fld 4 149), vg 151 140 true (.fld 1 150), vg 152 140 true (.load 1 false 151), vg 153 140 true (.bin .lss 146 152), vo 154 (.pick 140 153 (kB false)), vm 8 154]) (.seq (.region (some [0,0,3,7,15,15,63,127,255,15,15,1551,3599,7695,16383,32767,65535,131071,262143,524287,1048575,1048575,1048575,8388607,16777215,33554431,1,1,0,0,0,0,0,0,0,0,0,0,0,0,0,0,0,0,0,0,0,0,0,0,0,0]) [vm 155 5, vm 156 7, vo 157 (.bin .lss 155 156), vm 158 157, vg 159 158 true (.mv 0), vg 160 158 true (.mv 5), vg 161 158 true (.ixA 8 159 160), vg 162 158 true (.fld 0 161), vg 163 158 true (.load 1 false 162), vg 164 158 true (.mv 0), vg 165 158 true (.mv 7), vg 166 158 true (.ixA 8 164 165), vg 167 158 true (.fld 0 166), vg 168 158 true (.load 1 false 167), vg 169 158 true (.bin .eql 163 168), vo 170 (.pick 158 169 (kB false)), vm 171 170, vg 172 171 true (.mv 8), vo 173 (.pick 171 172 (kB false)), vm 174 173, vg 175 174 true (.mv 0), vg 176 174 true (.mv 5), vg 177 174 true (.mv 7), vg 178 174 true (.call 67 [175,176,177]), vg 179 174 true (.un .not 178), vo 180 (.pick 174 179 (kB false))]) (.cond 180 (.seq (rg [vo 2 (.mv (kB false))]) .ret) .skip))))) (rg [vm 103 7, vo 104 (.bin .add 103 (kI 1)), vm 7 104])))))) (.seq (rg [vm 181 0, vm 182 5, vo 183 (.ixA 8 181 182), vo 184 (.fld 6 183), vo 185 (.load 1 false 184), vm 186 6, vo 187 (.bin .neq 185 186)]) (.cond 187 (.seq (rg [vo 2 (.mv (kB false))]) .ret) .skip))))) (rg [vm 84 5, vo 85 (.bin .add 84 (kI 1)), vm 5 85])))))) (.seq (rg [vo 2 (.mv (kB true))]) .ret))))
theorem c46 : (Try.f46.body.bind fun c => cCode Try.prog 188 c) = some v46 := by kernel_rfl
def v16 : VC := (.seq (rg [vo 2 (.mv (kI 0))]) (.seq (.seq (rg [vo 3 (.mv (kI 0))]) (.block 0 (.loop (.seq (.seq (rg [vm 5 3, vm 6 0, vo 7 (.lenS 6), vo 8 (.bin .lss 5 7)]) (.cond 8 .skip (.exit 0))) (.seq (.block 1 (.seq (.seq (rg [vm 11 0, vm 12 3, vo 13 (.ixA 8 11 12), vo 14 (.fld 0 13), vo 15 (.load 1 false 14), vo 16 (.bin .lss 15 (kI 0)), vm 17 16, vg 18 17 false (.mv 0), vg 19 17 false (.mv 3), vg 20 17 false (.ixA 8 18 19), vg 21 17 false (.fld 0 20), vg 22 17 false (.load 1 false 21), vg 23 17 false (.bin .gtr 22 (kI 1000000000000000)), vo 24 (.pick 17 (kB true) 23), vm 25 24, vg 26 25 false (.mv 0), vg 27 25 false (.mv 3), vg 28 25 false (.ixA 8 26 27), vg 29 25 false (.fld 4 28), vg 30 25 false (.load 2 true 29), vg 31 25 false (.call 43 [30]), vg 32 25 false (.un .not 31), vo 33 (.pick 25 (kB true) 32)]) (.cond 33 (.seq (rg [vo 2 (.mv (kI 2))]) .ret) .skip)) (.seq (rg [vm 34 0, vm 35 3, vo 36 (.ixA 8 34 35), vo 37 (.fld 3 36), vo 38 (.load 1 false 37), vo 39 (.call 44 [38]), vm 4 39]) (.seq (.seq (rg [vm 40 4, vo 41 (.bin .neq 40 (kI 0))]) (.cond 41 (.seq (rg [vm 42 4, vm 2 42]) .ret) .skip)) (.seq (.region (some [0,1,3,7,7,31,63,7,7,263,903,1927,4095,8191,1,0,0,0,0,0,0,0,0,0,0,0,0,0]) [vm 43 3, vo 44 (.bin .gtr 43 (kI 0)), vm 45 44, vg 46 45 true (.mv 0), vg 47 45 true (.mv 3), vg 48 45 true (.ixA 8 46 47), vg 49 45 true (.load 8 true 48), vg 50 45 true (.mv 0), vg 51 45 true (.mv 3), vg 52 45 true (.bin .sub 51 (kI 1)), vg 53 45 true (.ixA 8 50 52), vg 54 45 true (.load 8 true 53), vg 55 45 true (.call 45 [49,54]), vo 56 (.pick 45 55 (kB false))]) (.cond 56 (.seq (rg [vo 2 (.mv (kI 11))]) .ret) .skip)))))) (rg [vm 9 3, vo 10 (.bin .add 9 (kI 1)), vm 3 10])))))) (.seq (.seq (rg [vm 57 0, vo 58 (.call 46 [57]), vo 59 (.un .not 58)]) (.cond 59 (.seq (rg [vo 2 (.mv (kI 10))]) .ret) .skip)) (.seq (rg [vo 2 (.mv (kI 0))]) .ret))))
theorem c16 : (Try.f16.body.bind fun c => cCode Try.prog 60 c) = some v16 := by kernel_rfl
def v47 : VC := (.seq (rg [vm 4 0, vo 5 (.lenS 4), vo 6 (.bin .sub 5 (kI 1)), vo 2 (.mv (kI 0)), vm 3 6]) (.block 0 (.loop (.seq (.seq (rg [vm 7 2, vm 8 3, vo 9 (.bin .lss 7 8)]) (.cond 9 .skip (.exit 0))) (.seq (.block 1 (.region (some [0,0,0,0,0,0,48,112,0,0,768,1792,4083,8179,16383,32767,1,1,1,1,1,1,0,0,1,1,0,0,0,0,0,0]) [vm 14 0, vm 15 2, vm 16 0, vm 17 3, vm 18 0, vm 19 3, vo 20 (.ixA 1 18 19), vo 21 (.load 1 false 20), vm 22 0, vm 23 2, vo 24 (.ixA 1 22 23), vo 25 (.load 1 false 24), vo 26 (.ixA 1 14 15), vp (.store 1 26 21), vo 27 (.ixA 1 16 17), vp (.store 1 27 25)])) (rg [vm 10 2, vo 11 (.bin .add 10 (kI 1)), vm 12 3, vo 13 (.bin .sub 12 (kI 1)), vm 2 11, vm 3 13]))))))
theorem c47 : (Try.f47.body.bind fun c => cCode Try.prog 28 c) = some v47 := by kernel_rfl
def v17 : VC := (.seq (rg [vo 4 (.mv (.con (.c .nilS)))]) (.seq (.seq (rg [vm 7 1, vo 8 (.bin .lss 7 (kI 0)), vm 9 8, vg 10 9 false (.mv 1), vg 11 9 false (.mv 0), vg 12 9 false (.lenS 11), vg 13 9 false (.bin .geq 10 12), vo 14 (.pick 9 (kB true) 13)]) (.cond 14 (.seq (rg [vo 4 (.mv (.con (.c .nilS)))]) .ret) .skip)) (.seq (rg [vo 5 (.mv (.con (.c .nilS)))]) (.seq (.seq (rg [vo 6 (.mv (kI 0))]) (.block 0 (.loop (.seq (.seq (rg [vm 15 1, vo 16 (.bin .geq 15 (kI 0)), vm 17 16, vg 18 17 true (.mv 1), vg 19 17 true (.mv 0), vg 20 17 true (.lenS 19), vg 21 17 true (.bin .lss 18 20), vo 22 (.pick 17 21 (kB false)), vm 23 22, vg 24 23 true (.mv 6), vg 25 23 true (.mv 0), vg 26 23 true (.lenS 25), vg 27 23 true (.bin .leq 24 26), vo 28 (.pick 23 27 (kB false))]) (.cond 28 .skip (.exit 0))) (.seq (.block 1 (.seq (rg [vm 31 5, vm 32 0, vm 33 1, vo 34 (.ixA 8 32 33), vo 35 (.fld 3 34), vo 36 (.load 1 false 35), vo 37 (.bsl 9 1 1 [iS] [(0,1,36)]), vo 38 (.app 9 1 16 31 37), vm 5 38]) (rg [vm 39 0, vm 40 1, vo 41 (.ixA 8 39 40), vo 42 (.fld 1 41), vo 43 (.load 1 false 42), vm 1 43]))) (rg [vm 29 6, vo 30 (.bin .add 29 (kI 1)), vm 6 30])))))) (.seq (rg [vm 44 5, vo 45 (.call 47 [44])]) (.seq (rg [vm 46 5, vm 4 46]) .ret))))))
theorem c17 : (Try.f17.body.bind fun c => cCode Try.prog 47 c) = some v17 := by kernel_rfl
def v19 : VC := (.seq (rg [vo 4 (.mv (.con (.c .nilS)))]) (.seq (rg [vo 5 (.mv (.con (.c .nilS)))]) (.seq (.seq (rg [vm 8 0, vo 9 (.lenS 8), vo 10 (.mv (kI 0))]) (.block 0 (.loop (.seq (rg [vo 11 (.bin .lss 10 9)]) (.seq (.cond 11 .skip (.exit 0)) (.seq (.block 1 (.seq (rg [vm 12 10, vo 13 (.ixA 8 8 10), vo 14 (.load 8 true 13), vo 7 (.alloc 44 [(iI 0),(iI 0),(iI 0),iS,(iI 0),(iI 0),(iI 0),(.imm (.sc (.bool false)))]), vm 6 12, vp (.store 8 7 14)]) (.seq (rg [vm 15 1, vo 16 (.bin .geq 15 (kI 0)), vm 17 16, vg 18 17 true (.mv 1), vg 19 17 true (.mv 0), vg 20 17 true (.lenS 19), vg 21 17 true (.bin .lss 18 20), vo 22 (.pick 17 21 (kB false)), vm 23 22, vg 24 23 true (.fld 1 7), vg 25 23 true (.load 1 false 24), vg 26 23 true (.mv 1), vg 27 23 true (.bin .eql 25 26), vo 28 (.pick 23 27 (kB false))]) (.cond 28 (rg [vm 29 5, vm 30 6, vo 31 (.bsl 3 1 1 [(iI 0)] [(0,1,30)]), vo 32 (.app 3 1 8 29 31), vm 5 32]) .skip)))) (rg [vo 33 (.bin .add 10 (kI 1)), vm 10 33]))))))) (.seq (rg [vm 34 5, vm 4 34]) .ret))))
theorem c19 : (Try.f19.body.bind fun c => cCode Try.prog 35 c) = some v19 := by kernel_rfl
def v20 : VC := (.seq (rg [vo 4 (.mv (.con (.c .nilS)))]) (.seq (rg [vo 5 (.mv (.con (.c .nilS)))]) (.seq (.seq (rg [vo 6 (.mv (kI 0))]) (.block 0 (.loop (.seq (.seq (rg [vm 7 6, vm 8 0, vo 9 (.lenS 8), vo 10 (.bin .lss 7 9), vm 11 10, vg 12 11 true (.mv 1), vg 13 11 true (.bin .geq 12 (kI 0)), vo 14 (.pick 11 13 (kB false))]) (.cond 14 .skip (.exit 0))) (.seq (.block 1 (.seq (rg [vm 17 0, vm 18 6, vo 19 (.ixA 8 17 18), vo 20 (.fld 1 19), vo 21 (.load 1 false 20), vm 22 1, vo 23 (.bin .eql 21 22)]) (.cond 23 (rg [vm 24 5, vm 25 6, vo 26 (.bsl 3 1 1 [(iI 0)] [(0,1,25)]), vo 27 (.app 3 1 8 24 26), vm 5 27]) .skip))) (rg [vm 15 6, vo 16 (.bin .add 15 (kI 1)), vm 6 16])))))) (.seq (rg [vm 28 5, vm 4 28]) .ret))))
theorem c20 : (Try.f20.body.bind fun c => cCode Try.prog 29 c) = some v20 := by kernel_rfl
def v39 : VC := (.seq (rg [vo 1 (.box 42 0), vo 2 (.mv (kB false))]) (.seq (rg [vo 3 (.fld 0 1), vo 4 (.load 1 false 3), vo 5 (.bin .geq 4 (kI 0)), vm 6 5, vg 7 6 true (.fld 0 1), vg 8 6 true (.load 1 false 7), vg 9 6 true (.fld 1 1), vg 10 6 true (.load 1 false 9), vg 11 6 true (.bin .lss 8 10), vo 12 (.pick 6 11 (kB false)), vm 13 12, vg 14 13 true (.fld 1 1), vg 15 13 true (.load 1 false 14), vg 16 13 true (.bin .leq 15 (kI 1000000000000)), vo 17 (.pick 13 16 (kB false)), vm 2 17]) .ret))
theorem c39 : (Try.f39.body.bind fun c => cCode Try.prog 18 c) = some v39 := by kernel_rfl
def v48 : VC := (.seq (rg [vo 2 (.mv (.con (.c .nilS)))]) (.seq (rg [vo 3 (.mv (.con (.c .nilS))), vo 4 (.mv (.con (.c .nilS)))]) (.seq (.seq (rg [vm 10 0, vo 11 (.lenS 10), vo 12 (.mv (kI 0))]) (.block 0 (.loop (.seq (rg [vo 13 (.bin .lss 12 11)]) (.seq (.cond 13 .skip (.exit 0)) (.seq (.block 1 (.seq (rg [vo 14 (.ixA 2 10 12), vo 15 (.load 2 true 14), vo 6 (.alloc 42 [(iI 0),(iI 0)]), vp (.store 2 6 15)]) (.seq (rg [vo 16 (.load 2 true 6), vo 17 (.call 39 [16])]) (.cond 17 (rg [vm 18 3, vo 19 (.load 2 true 6), vo 20 (.bsl 42 2 1 [(iI 0),(iI 0)] [(0,2,19)]), vo 21 (.app 42 2 16 18 20), vm 3 21]) .skip)))) (rg [vo 22 (.bin .add 12 (kI 1)), vm 12 22]))))))) (.seq (rg [vm 23 3, vo 24 (.call 68 [23,(.fn 69)])]) (.seq (.seq (rg [vm 25 3, vo 26 (.lenS 25), vo 27 (.mv (kI 0))]) (.block 2 (.loop (.seq (rg [vo 28 (.bin .lss 27 26)]) (.seq (.cond 28 .skip (.exit 2)) (.seq (.block 3 (.seq (rg [vo 29 (.ixA 2 25 27), vo 30 (.load 2 true 29), vo 8 (.alloc 42 [(iI 0),(iI 0)]), vp (.store 2 8 30)]) (.seq (rg [vm 31 4, vo 32 (.lenS 31), vm 9 32]) (.seq (.region (some [0,1,3,7,15,7,7,71,231,487,999,2047,4095,1,0,0,0,0,0,0,0,0,0,0,0,0]) [vm 33 9, vo 34 (.bin .gtr 33 (kI 0)), vm 35 34, vg 36 35 true (.fld 0 8), vg 37 35 true (.load 1 false 36), vg 38 35 true (.mv 4), vg 39 35 true (.mv 9), vg 40 35 true (.bin .sub 39 (kI 1)), vg 41 35 true (.ixA 2 38 40), vg 42 35 true (.fld 1 41), vg 43 35 true (.load 1 false 42), vg 44 35 true (.bin .leq 37 43), vo 45 (.pick 35 44 (kB false))]) (.cond 45 (.region (some [0,0,2,0,0,16,56,120,248,0,512,2040,4095,8191,16383,1,1,0,1,1,0,0,0,0,0,0,0,0,0,0]) [vm 46 4, vm 47 9, vo 48 (.bin .sub 47 (kI 1)), vm 49 4, vm 50 9, vo 51 (.bin .sub 50 (kI 1)), vo 52 (.ixA 2 49 51), vo 53 (.fld 1 52), vo 54 (.load 1 false 53), vo 55 (.fld 1 8), vo 56 (.load 1 false 55), vo 57 (.mm true [54,56]), vo 58 (.ixA 2 46 48), vo 59 (.fld 1 58), vp (.store 1 59 57)]) (rg [vm 60 4, vo 61 (.load 2 true 8), vo 62 (.bsl 42 2 1 [(iI 0),(iI 0)] [(0,2,61)]), vo 63 (.app 42 2 16 60 62), vm 4 63])))))) (rg [vo 64 (.bin .add 27 (kI 1)), vm 27 64]))))))) (.seq (rg [vm 65 4, vm 2 65]) .ret))))))
theorem c48 : (Try.f48.body.bind fun c => cCode Try.prog 66 c) = some v48 := by kernel_rfl
def v21 : VC := (.seq (rg [vo 4 (.mv (.con (.c .nilS)))]) (.seq (rg [vo 5 (.mv (.con (.c .nilS)))]) (.seq (.seq (rg [vm 8 0, vo 9 (.lenS 8), vo 10 (.mv (kI 0))]) (.block 0 (.loop (.seq (rg [vo 11 (.bin .lss 10 9)]) (.seq (.cond 11 .skip (.exit 0)) (.seq (.block 1 (.seq (rg [vo 12 (.ixA 8 8 10), vo 13 (.load 8 true 12), vo 7 (.alloc 44 [(iI 0),(iI 0),(iI 0),iS,(iI 0),(iI 0),(iI 0),(.imm (.sc (.bool false)))]), vp (.store 8 7 13)]) (.seq (rg [vo 14 (.fld 0 7), vo 15 (.load 1 false 14), vm 16 1, vo 17 (.bin .eql 15 16)]) (.cond 17 (rg [vm 18 5, vo 19 (.fld 4 7), vo 20 (.load 2 true 19), vo 21 (.bsl 42 2 1 [(iI 0),(iI 0)] [(0,2,20)]), vo 22 (.app 42 2 16 18 21), vm 5 22]) .skip)))) (rg [vo 23 (.bin .add 10 (kI 1)), vm 10 23]))))))) (.seq (rg [vm 24 5, vo 25 (.call 48 [24]), vm 4 25]) .ret))))
theorem c21 : (Try.f21.body.bind fun c => cCode Try.prog 26 c) = some v21 := by kernel_rfl
def v96 : VC := (.seq (rg [vo 4 (.mv (.con (.c .nilS)))]) (.seq (rg [vo 5 (.mv (.con (.c .nilS)))]) (.seq (rg [vo 6 (.mv (kB false))]) (.seq (.seq (rg [vo 7 (.mv (kI 0))]) (.block 0 (.loop (.seq (.seq (rg [vm 8 7, vm 9 0, vo 10 (.lenS 9), vo 11 (.bin .lss 8 10)]) (.cond 11 .skip (.exit 0))) (.seq (.block 1 (.seq (.seq (rg [vm 14 6, vo 15 (.un .not 14), vm 16 15, vg 17 16 true (.mv 0), vg 18 16 true (.mv 7), vg 19 16 true (.ixA 1 17 18), vg 20 16 true (.load 1 false 19), vg 21 16 true (.mv 1), vg 22 16 true (.bin .geq 20 21), vo 23 (.pick 16 22 (kB false))]) (.cond 23 (.seq (rg [vm 24 5, vm 25 1, vo 26 (.bsl 3 1 1 [(iI 0)] [(0,1,25)]), vo 27 (.app 3 1 8 24 26), vm 5 27]) (rg [vo 6 (.mv (kB true))])) .skip)) (.seq (rg [vm 28 0, vm 29 7, vo 30 (.ixA 1 28 29), vo 31 (.load 1 false 30), vm 32 1, vo 33 (.bin .neq 31 32)]) (.cond 33 (rg [vm 34 5, vm 35 0, vm 36 7, vo 37 (.ixA 1 35 36), vo 38 (.load 1 false 37), vo 39 (.bsl 3 1 1 [(iI 0)] [(0,1,38)]), vo 40 (.app 3 1 8 34 39), vm 5 40]) .skip)))) (rg [vm 12 7, vo 13 (.bin .add 12 (kI 1)), vm 7 13])))))) (.seq (.seq (rg [vm 41 6, vo 42 (.un .not 41)]) (.cond 42 (rg [vm 43 5, vm 44 1, vo 45 (.bsl 3 1 1 [(iI 0)] [(0,1,44)]), vo 46 (.app 3 1 8 43 45), vm 5 46]) .skip)) (.seq (rg [vm 47 5, vm 4 47]) .ret))))))
theorem c96 : (Try.f96.body.bind fun c => cCode Try.prog 48 c) = some v96 := by kernel_rfl
def v81 : VC := (.seq (rg [vo 4 (.mv (.con (.c .nilS)))]) (.seq (rg [vo 5 (.mv (.con (.c .nilS)))]) (.seq (rg [vo 8 (.bsl 42 2 0 [(iI 0),(iI 0)] []), vm 9 0, vo 10 (.app 42 2 16 8 9), vm 11 1, vo 12 (.app 42 2 16 10 11), vm 6 12]) (.seq (.seq (rg [vo 7 (.mv (kI 0))]) (.block 0 (.loop (.seq (.seq (rg [vm 13 7, vm 14 6, vo 15 (.lenS 14), vo 16 (.bin .lss 13 15)]) (.cond 16 .skip (.exit 0))) (.seq (.block 1 (.seq (rg [vm 19 6, vm 20 7, vo 21 (.ixA 2 19 20), vo 22 (.load 2 true 21), vo 23 (.call 43 [22])]) (.cond 23 (.region (some [0,0,0,6,14,30,63,0,0,384,896,1920,4095,8191,1,1,1,0,0,0,0,1,1,0,0,0,0,0]) [vm 24 5, vm 25 6, vm 26 7, vo 27 (.ixA 2 25 26), vo 28 (.fld 0 27), vo 29 (.load 1 false 28), vo 30 (.call 96 [24,29]), vm 31 6, vm 32 7, vo 33 (.ixA 2 31 32), vo 34 (.fld 1 33), vo 35 (.load 1 false 34), vo 36 (.call 96 [30,35]), vm 5 36]) .skip))) (rg [vm 17 7, vo 18 (.bin .add 17 (kI 1)), vm 7 18])))))) (.seq (rg [vm 37 5, vm 4 37]) .ret)))))
theorem c81 : (Try.f81.body.bind fun c => cCode Try.prog 38 c) = some v81 := by kernel_rfl
def v97 : VC := (.seq (rg [vo 4 (.mv (kB false))]) (.seq (.seq (rg [vo 5 (.mv (kI 0))]) (.block 0 (.loop (.seq (.seq (rg [vm 6 5, vm 7 0, vo 8 (.lenS 7), vo 9 (.bin .lss 6 8)]) (.cond 9 .skip (.exit 0))) (.seq (.block 1 (.seq (rg [vm 12 0, vm 13 5, vo 14 (.ixA 2 12 13), vo 15 (.load 2 true 14), vo 16 (.call 43 [15]), vm 17 16, vg 18 17 true (.mv 0), vg 19 17 true (.mv 5), vg 20 17 true (.ixA 2 18 19), vg 21 17 true (.fld 0 20), vg 22 17 true (.load 1 false 21), vg 23 17 true (.mv 1), vg 24 17 true (.bin .leq 22 23), vo 25 (.pick 17 24 (kB false)), vm 26 25, vg 27 26 true (.mv 1), vg 28 26 true (.mv 0), vg 29 26 true (.mv 5), vg 30 26 true (.ixA 2 28 29), vg 31 26 true (.fld 1 30), vg 32 26 true (.load 1 false 31), vg 33 26 true (.bin .lss 27 32), vo 34 (.pick 26 33 (kB false))]) (.cond 34 (.seq (rg [vo 4 (.mv (kB true))]) .ret) .skip))) (rg [vm 10 5, vo 11 (.bin .add 10 (kI 1)), vm 5 11])))))) (.seq (rg [vo 4 (.mv (kB false))]) .ret)))
theorem c97 : (Try.f97.body.bind fun c => cCode Try.prog 35 c) = some v97 := by kernel_rfl
def v82 : VC := (.seq (rg [vo 8 (.mv (kB false))]) (.seq (rg [vm 11 0, vm 12 3, vo 13 (.call 97 [11,12]), vm 14 1, vm 15 3, vo 16 (.call 97 [14,15]), vm 9 13, vm 10 16]) (.seq (rg [vm 17 2, vo 18 (.bin .eql 17 (kI 1)), vm 19 18, vg 20 19 true (.mv 9), vg 21 19 true (.mv 20), vg 22 21 false (.mv 10), vg 23 19 true (.pick 21 (kB true) 22), vo 24 (.pick 19 23 (kB false)), vm 25 24, vg 26 25 false (.mv 2), vg 27 25 false (.bin .eql 26 (kI 2)), vg 28 25 false (.mv 27), vg 29 28 true (.mv 9), vg 30 25 false (.pick 28 29 (kB false)), vg 31 25 false (.mv 30), vg 32 31 true (.mv 10), vg 33 25 false (.pick 31 32 (kB false)), vo 34 (.pick 25 (kB true) 33), vm 35 34, vg 36 35 false (.mv 2), vg 37 35 false (.bin .eql 36 (kI 3)), vg 38 35 false (.mv 37), vg 39 38 true (.mv 9), vg 40 35 false (.pick 38 39 (kB false)), vg 41 35 false (.mv 40), vg 42 41 true (.mv 10), vg 43 41 true (.un .not 42), vg 44 35 false (.pick 41 43 (kB false)), vo 45 (.pick 35 (kB true) 44), vm 8 45]) .ret)))
theorem c82 : (Try.f82.body.bind fun c => cCode Try.prog 46 c) = some v82 := by kernel_rfl
def v70 : VC := (.seq (rg [vo 6 (.mv (.con (.c .nilS)))]) (.seq (rg [vo 7 (.mv (.con (.c .nilS)))]) (.seq (rg [vm 11 0, vm 12 1, vo 13 (.call 81 [11,12]), vm 8 13]) (.seq (.seq (rg [vo 9 (.mv (kI 0))]) (.block 0 (.loop (.seq (.seq (rg [vm 14 9, vo 15 (.bin .add 14 (kI 1)), vm 16 8, vo 17 (.lenS 16), vo 18 (.bin .lss 15 17)]) (.cond 18 .skip (.exit 0))) (.seq (.block 1 (.seq (.seq (rg [vm 21 0, vm 22 1, vm 23 2, vm 24 8, vm 25 9, vo 26 (.ixA 1 24 25), vo 27 (.load 1 false 26), vo 28 (.call 82 [21,22,23,27]), vo 29 (.un .not 28)]) (.cond 29 (.exit 1) .skip)) (.seq (rg [vm 30 7, vo 31 (.lenS 30), vo 32 (.bin .sub 31 (kI 1)), vm 10 32]) (.seq (.region (some [0,1,3,7,7,31,63,127,7,7,775,1799,4095,8191,1,0,0,0,0,0,0,0,0,0,0,0,0,0]) [vm 33 10, vo 34 (.bin .geq 33 (kI 0)), vm 35 34, vg 36 35 true (.mv 7), vg 37 35 true (.mv 10), vg 38 35 true (.ixA 2 36 37), vg 39 35 true (.fld 1 38), vg 40 35 true (.load 1 false 39), vg 41 35 true (.mv 8), vg 42 35 true (.mv 9), vg 43 35 true (.ixA 1 41 42), vg 44 35 true (.load 1 false 43), vg 45 35 true (.bin .eql 40 44), vo 46 (.pick 35 45 (kB false))]) (.cond 46 (rg [vm 47 7, vm 48 10, vm 49 8, vm 50 9, vo 51 (.bin .add 50 (kI 1)), vo 52 (.ixA 1 49 51), vo 53 (.load 1 false 52), vo 54 (.ixA 2 47 48), vo 55 (.fld 1 54), vp (.store 1 55 53)]) (.region (some [0,0,0,6,14,0,0,64,224,480,1022,2046,4095,8191,1,1,1,0,0,1,1,0,0,0,0,0,0,0]) [vm 56 7, vm 57 8, vm 58 9, vo 59 (.ixA 1 57 58), vo 60 (.load 1 false 59), vm 61 8, vm 62 9, vo 63 (.bin .add 62 (kI 1)), vo 64 (.ixA 1 61 63), vo 65 (.load 1 false 64), vo 66 (.build [(iI 0),(iI 0)] [(0,1,60),(1,1,65)]), vo 67 (.bsl 42 2 1 [(iI 0),(iI 0)] [(0,2,66)]), vo 68 (.app 42 2 16 56 67), vm 7 68])))))) (rg [vm 19 9, vo 20 (.bin .add 19 (kI 1)), vm 9 20])))))) (.seq (rg [vm 69 7, vm 6 69]) .ret)))))
theorem c70 : (Try.f70.body.bind fun c => cCode Try.prog 70 c) = some v70 := by kernel_rfl
def v49 : VC := (.seq (rg [vo 2 (.mv (.con (.c .nilS)))]) (.seq (rg [vm 3 0, vo 4 (.call 70 [3,(.con (.c .nilS)),(kI 1)]), vm 2 4]) .ret))
theorem c49 : (Try.f49.body.bind fun c => cCode Try.prog 5 c) = some v49 := by kernel_rfl
def v22 : VC := (.seq (rg [vo 4 (.mv (.con (.c .nilS)))]) (.seq (rg [vo 5 (.mv (.con (.c .nilS)))]) (.seq (.seq (rg [vo 6 (.mv (kI 0))]) (.block 0 (.loop (.seq (.seq (rg [vm 7 6, vm 8 0, vo 9 (.lenS 8), vo 10 (.bin .lss 7 9)]) (.cond 10 .skip (.exit 0))) (.seq (.block 1 (.seq (rg [vm 13 0, vm 14 6, vo 15 (.ixA 8 13 14), vo 16 (.fld 0 15), vo 17 (.load 1 false 16), vm 18 1, vo 19 (.bin .eql 17 18)]) (.cond 19 (rg [vm 20 5, vm 21 0, vm 22 6, vo 23 (.ixA 8 21 22), vo 24 (.fld 4 23), vo 25 (.load 2 true 24), vo 26 (.bsl 42 2 1 [(iI 0),(iI 0)] [(0,2,25)]), vo 27 (.app 42 2 16 20 26), vm 5 27]) .skip))) (rg [vm 11 6, vo 12 (.bin .add 11 (kI 1)), vm 6 12])))))) (.seq (rg [vm 28 5, vo 29 (.call 49 [28]), vm 4 29]) .ret))))
theorem c22 : (Try.f22.body.bind fun c => cCode Try.prog 30 c) = some v22 := by kernel_rfl
def v23 : VC := (.seq (rg [vo 6 (.mv (kI 0))]) (.seq (rg [vo 7 (.mv (kI (-1)))]) (.seq (.seq (rg [vm 10 0, vo 11 (.lenS 10), vo 12 (.mv (kI 0))]) (.block 0 (.loop (.seq (rg [vo 13 (.bin .lss 12 11)]) (.seq (.cond 13 .skip (.exit 0)) (.seq (.block 1 (.seq (rg [vm 14 12, vo 15 (.ixA 8 10 12), vo 16 (.load 8 true 15), vo 9 (.alloc 44 [(iI 0),(iI 0),(iI 0),iS,(iI 0),(iI 0),(iI 0),(.imm (.sc (.bool false)))]), vm 8 14, vp (.store 8 9 16)]) (.seq (.region (some [0,1,0,7,15,31,63,127,31,511,1023,2047,4095,4095,12287,28671,65535,131071,262143,524287,1048575,2097151,4194303,8388607,4194303,4194303,54525951,121634815,255852543,536870911,1073741823,2147483647,0,0,1,0,0,0,0,0,0,0,0,0,0,0,0,0,0,0,0,0,0,0,0,0,0,0,0,0,0,0,0,0]) [vo 17 (.fld 0 9), vo 18 (.load 1 false 17), vm 19 1, vo 20 (.bin .eql 18 19), vm 21 20, vg 22 21 true (.fld 4 9), vg 23 21 true (.fld 0 22), vg 24 21 true (.load 1 false 23), vg 25 21 true (.mv 2), vg 26 21 true (.bin .leq 24 25), vo 27 (.pick 21 26 (kB false)), vm 28 27, vg 29 28 true (.mv 2), vg 30 28 true (.fld 4 9), vg 31 28 true (.fld 1 30), vg 32 28 true (.load 1 false 31), vg 33 28 true (.bin .lss 29 32), vo 34 (.pick 28 33 (kB false)), vm 35 34, vg 36 35 true (.mv 7), vg 37 35 true (.bin .lss 36 (kI 0)), vg 38 35 true (.mv 37), vg 39 38 false (.fld 2 9), vg 40 38 false (.load 1 false 39), vg 41 38 false (.mv 0), vg 42 38 false (.mv 7), vg 43 38 false (.ixA 8 41 42), vg 44 38 false (.fld 2 43), vg 45 38 false (.load 1 false 44), vg 46 38 false (.bin .gtr 40 45), vg 47 35 true (.pick 38 (kB true) 46), vo 48 (.pick 35 47 (kB false))]) (.cond 48 (rg [vm 49 8, vm 7 49]) .skip)))) (rg [vo 50 (.bin .add 12 (kI 1)), vm 12 50]))))))) (.seq (rg [vm 51 7, vm 6 51]) .ret))))
theorem c23 : (Try.f23.body.bind fun c => cCode Try.prog 52 c) = some v23 := by kernel_rfl
def v24 : VC := (.seq (rg [vo 6 (.mv (kI 0))]) (.seq (rg [vo 7 (.mv (kI (-1)))]) (.seq (.seq (rg [vo 8 (.mv (kI 0))]) (.block 0 (.loop (.seq (.seq (rg [vm 9 8, vm 10 0, vo 11 (.lenS 10), vo 12 (.bin .lss 9 11)]) (.cond 12 .skip (.exit 0))) (.seq (.block 1 (.seq (.region (some [0,0,3,7,15,0,63,127,255,255,1023,2047,4095,8191,255,32767,65535,131071,262143,262143,262143,1835007,3932159,8126463,16515071,33554431,67108863,134217727,268435455,536870911,1073741823,2147483647,2147483647,8589934591,17179869183,34359738367,2147483647,2147483647,208305913855,483183820799,1032939634687,2199023255551,4398046511103,8796093022207,1,1,0,0,0,1,0,0,0,0,0,0,0,0,0,0,0,0,0,0,0,0,0,0,0,0,0,0,0,0,0,0,0,0,0,0,0,0,0,0,0,0,0,0]) [vm 15 0, vm 16 8, vo 17 (.ixA 8 15 16), vo 18 (.fld 0 17), vo 19 (.load 1 false 18), vm 20 1, vo 21 (.bin .eql 19 20), vm 22 21, vg 23 22 true (.mv 0), vg 24 22 true (.mv 8), vg 25 22 true (.ixA 8 23 24), vg 26 22 true (.fld 4 25), vg 27 22 true (.fld 0 26), vg 28 22 true (.load 1 false 27), vg 29 22 true (.mv 2), vg 30 22 true (.bin .leq 28 29), vo 31 (.pick 22 30 (kB false)), vm 32 31, vg 33 32 true (.mv 2), vg 34 32 true (.mv 0), vg 35 32 true (.mv 8), vg 36 32 true (.ixA 8 34 35), vg 37 32 true (.fld 4 36), vg 38 32 true (.fld 1 37), vg 39 32 true (.load 1 false 38), vg 40 32 true (.bin .lss 33 39), vo 41 (.pick 32 40 (kB false)), vm 42 41, vg 43 42 true (.mv 7), vg 44 42 true (.bin .lss 43 (kI 0)), vg 45 42 true (.mv 44), vg 46 45 false (.mv 0), vg 47 45 false (.mv 8), vg 48 45 false (.ixA 8 46 47), vg 49 45 false (.fld 2 48), vg 50 45 false (.load 1 false 49), vg 51 45 false (.mv 0), vg 52 45 false (.mv 7), vg 53 45 false (.ixA 8 51 52), vg 54 45 false (.fld 2 53), vg 55 45 false (.load 1 false 54), vg 56 45 false (.bin .gtr 50 55), vg 57 42 true (.pick 45 (kB true) 56), vo 58 (.pick 42 57 (kB false))]) (.cond 58 (rg [vm 59 8, vm 7 59]) .skip))) (rg [vm 13 8, vo 14 (.bin .add 13 (kI 1)), vm 8 14])))))) (.seq (rg [vm 60 7, vm 6 60]) .ret))))
theorem c24 : (Try.f24.body.bind fun c => cCode Try.prog 61 c) = some v24 := by kernel_rfl
def v6 : VC := (.seq (rg [vo 8 (.mv (kB false))]) (.seq (.seq (rg [vm 18 0, vo 19 (.lenS 18), vo 20 (.bin .gtr 19 (kI 40)), vm 21 20, vg 22 21 false (.mv 0), vg 23 21 false (.call 16 [22]), vg 24 21 false (.bin .neq 23 (kI 0)), vo 25 (.pick 21 (kB true) 24)]) (.cond 25 (.seq (rg [vo 26 (.call 10 []), vm 8 26]) .ret) .skip)) (.seq (rg [vm 27 0, vm 28 1, vo 29 (.call 17 [27,28]), vm 30 0, vm 31 1, vo 32 (.call 18 [30,31]), vm 9 29, vm 10 32]) (.seq (rg [vm 33 0, vm 34 1, vo 35 (.call 19 [33,34]), vm 36 0, vm 37 1, vo 38 (.call 20 [36,37]), vm 11 35, vm 12 38]) (.seq (rg [vm 39 0, vm 40 2, vo 41 (.call 21 [39,40]), vm 42 0, vm 43 2, vo 44 (.call 22 [42,43]), vm 13 41, vm 14 44]) (.seq (.seq (rg [vm 45 9, vo 46 (.lenS 45), vm 47 10, vo 48 (.lenS 47), vo 49 (.bin .neq 46 48), vm 50 49, vg 51 50 false (.mv 11), vg 52 50 false (.lenS 51), vg 53 50 false (.mv 12), vg 54 50 false (.lenS 53), vg 55 50 false (.bin .neq 52 54), vo 56 (.pick 50 (kB true) 55), vm 57 56, vg 58 57 false (.mv 13), vg 59 57 false (.lenS 58), vg 60 57 false (.mv 14), vg 61 57 false (.lenS 60), vg 62 57 false (.bin .neq 59 61), vo 63 (.pick 57 (kB true) 62), vm 64 63, vg 65 64 false (.mv 0), vg 66 64 false (.mv 2), vg 67 64 false (.mv 3), vg 68 64 false (.call 23 [65,66,67]), vg 69 64 false (.mv 0), vg 70 64 false (.mv 2), vg 71 64 false (.mv 3), vg 72 64 false (.call 24 [69,70,71]), vg 73 64 false (.bin .neq 68 72), vo 74 (.pick 64 (kB true) 73)]) (.cond 74 (.seq (rg [vo 8 (.mv (kB false))]) .ret) .skip)) (.seq (.seq (rg [vo 15 (.mv (kI 0))]) (.block 0 (.loop (.seq (.seq (rg [vm 75 15, vm 76 9, vo 77 (.lenS 76), vo 78 (.bin .lss 75 77)]) (.cond 78 .skip (.exit 0))) (.seq (.block 1 (.seq (.region (some [0,0,3,7,0,0,48,112,255,1,1,0,0,1,1,0,0,0]) [vm 81 9, vm 82 15, vo 83 (.ixA 1 81 82), vo 84 (.load 1 false 83), vm 85 10, vm 86 15, vo 87 (.ixA 1 85 86), vo 88 (.load 1 false 87), vo 89 (.bin .neq 84 88)]) (.cond 89 (.seq (rg [vo 8 (.mv (kB false))]) .ret) .skip))) (rg [vm 79 15, vo 80 (.bin .add 79 (kI 1)), vm 15 80])))))) (.seq (.seq (rg [vo 16 (.mv (kI 0))]) (.block 2 (.loop (.seq (.seq (rg [vm 90 16, vm 91 11, vo 92 (.lenS 91), vo 93 (.bin .lss 90 92)]) (.cond 93 .skip (.exit 2))) (.seq (.block 3 (.seq (.region (some [0,0,3,7,0,0,48,112,255,1,1,0,0,1,1,0,0,0]) [vm 96 11, vm 97 16, vo 98 (.ixA 1 96 97), vo 99 (.load 1 false 98), vm 100 12, vm 101 16, vo 102 (.ixA 1 100 101), vo 103 (.load 1 false 102), vo 104 (.bin .neq 99 103)]) (.cond 104 (.seq (rg [vo 8 (.mv (kB false))]) .ret) .skip))) (rg [vm 94 16, vo 95 (.bin .add 94 (kI 1)), vm 16 95])))))) (.seq (.seq (rg [vo 17 (.mv (kI 0))]) (.block 4 (.loop (.seq (.seq (rg [vm 105 17, vm 106 13, vo 107 (.lenS 106), vo 108 (.bin .lss 105 107)]) (.cond 108 .skip (.exit 4))) (.seq (.block 5 (.seq (.region (some [0,0,3,7,0,0,48,112,255,1,1,0,0,1,1,0,0,0]) [vm 111 13, vm 112 17, vo 113 (.ixA 2 111 112), vo 114 (.load 2 true 113), vm 115 14, vm 116 17, vo 117 (.ixA 2 115 116), vo 118 (.load 2 true 117), vo 119 (.aeq true 42 114 118)]) (.cond 119 (.seq (rg [vo 8 (.mv (kB false))]) .ret) .skip))) (rg [vm 109 17, vo 110 (.bin .add 109 (kI 1)), vm 17 110])))))) (.seq (rg [vo 120 (.call 10 []), vm 8 120]) .ret))))))))))
theorem c6 : (Try.f6.body.bind fun c => cCode Try.prog 121 c) = some v6 := by kernel_rfl
def v78 : VC := (.seq (rg [vo 4 (.mv (kI 0))]) (.seq (rg [vm 5 0, vm 6 1, vo 7 (.call 85 [5,6]), vm 4 7]) .ret))
theorem c78 : (Try.f78.body.bind fun c => cCode Try.prog 8 c) = some v78 := by kernel_rfl
def v63 : VC := (.seq (rg [vo 2 (.mv (kB false))]) (.seq (rg [vm 3 0, vo 4 (.bin .geq 3 (.con (.c (.imm (.sc (.int .u8 97)))))), vm 5 4, vg 6 5 true (.mv 0), vg 7 5 true (.bin .leq 6 (.con (.c (.imm (.sc (.int .u8 122)))))), vo 8 (.pick 5 7 (kB false)), vm 9 8, vg 10 9 false (.mv 0), vg 11 9 false (.bin .geq 10 (.con (.c (.imm (.sc (.int .u8 65)))))), vg 12 9 false (.mv 11), vg 13 12 true (.mv 0), vg 14 12 true (.bin .leq 13 (.con (.c (.imm (.sc (.int .u8 90)))))), vg 15 9 false (.pick 12 14 (kB false)), vo 16 (.pick 9 (kB true) 15), vm 17 16, vg 18 17 false (.mv 0), vg 19 17 false (.bin .geq 18 (.con (.c (.imm (.sc (.int .u8 48)))))), vg 20 17 false (.mv 19), vg 21 20 true (.mv 0), vg 22 20 true (.bin .leq 21 (.con (.c (.imm (.sc (.int .u8 57)))))), vg 23 17 false (.pick 20 22 (kB false)), vo 24 (.pick 17 (kB true) 23), vm 25 24, vg 26 25 false (.mv 0), vg 27 25 false (.call 78 [(.con (.c (.imm (.sc (.string ⟨#[95,46,58,47,60,62,36,42,126,45]⟩))))),26]), vg 28 25 false (.bin .geq 27 (kI 0)), vo 29 (.pick 25 (kB true) 28), vm 2 29]) .ret))
theorem c63 : (Try.f63.body.bind fun c => cCode Try.prog 30 c) = some v63 := by kernel_rfl
def v40 : VC := (.seq (rg [vo 2 (.mv (kI 0))]) (.seq (.seq (rg [vm 4 0, vo 5 (.bin .eql 4 (.con (.c iS))), vm 6 5, vg 7 6 false (.mv 0), vg 8 6 false (.lenT 7), vg 9 6 false (.bin .gtr 8 (kI 40)), vo 10 (.pick 6 (kB true) 9)]) (.cond 10 (.seq (rg [vo 2 (.mv (kI 3))]) .ret) .skip)) (.seq (.seq (rg [vm 11 0, vo 12 (.lenT 11), vo 13 (.mv (kI 0))]) (.block 0 (.loop (.seq (rg [vo 14 (.bin .lss 13 12)]) (.seq (.cond 14 .skip (.exit 0)) (.seq (.block 1 (.seq (rg [vm 15 13, vm 3 15]) (.seq (rg [vm 16 0, vm 17 3, vo 18 (.ixS 16 17), vo 19 (.call 63 [18]), vo 20 (.un .not 19)]) (.cond 20 (.seq (rg [vo 2 (.mv (kI 3))]) .ret) .skip)))) (rg [vo 21 (.bin .add 13 (kI 1)), vm 13 21]))))))) (.seq (rg [vo 2 (.mv (kI 0))]) .ret))))
theorem c40 : (Try.f40.body.bind fun c => cCode Try.prog 22 c) = some v40 := by kernel_rfl
def v77 : VC := (.seq (rg [vo 2 (.mv (kB false))]) (.seq (rg [vm 3 0, vm 4 0, vo 5 (.bin .neq 3 4), vm 2 5]) .ret))
theorem c77 : (Try.f77.body.bind fun c => cCode Try.prog 6 c) = some v77 := by kernel_rfl
def v57 : VC := (.seq (rg [vo 4 (.mv (kI 0))]) (.seq (rg [vm 7 0, vo 8 (.call 77 [7]), vm 5 8]) (.seq (rg [vm 9 1, vo 10 (.call 77 [9]), vm 6 10]) (.seq (.seq (rg [vm 11 5]) (.cond 11 (.seq (.seq (rg [vm 12 6]) (.cond 12 (.seq (rg [vo 4 (.mv (kI 0))]) .ret) .skip)) (.seq (rg [vo 4 (.mv (kI (-1)))]) .ret)) .skip)) (.seq (.seq (rg [vm 13 6]) (.cond 13 (.seq (rg [vo 4 (.mv (kI 1))]) .ret) .skip)) (.seq (.seq (rg [vm 14 0, vm 15 1, vo 16 (.bin .lss 14 15)]) (.cond 16 (.seq (rg [vo 4 (.mv (kI (-1)))]) .ret) .skip)) (.seq (.seq (rg [vm 17 0, vm 18 1, vo 19 (.bin .gtr 17 18)]) (.cond 19 (.seq (rg [vo 4 (.mv (kI 1))]) .ret) .skip)) (.seq (rg [vo 4 (.mv (kI 0))]) .ret))))))))
theorem c57 : (Try.f57.body.bind fun c => cCode Try.prog 20 c) = some v57 := by kernel_rfl
def v56 : VC := (.seq (rg [vo 2 (.mv (kI 0))]) (.seq (rg [vo 3 (.mv (kI 0))]) (.seq (.seq (rg [vm 6 0, vo 7 (.lenS 6), vo 8 (.mv (kI 0))]) (.block 0 (.loop (.seq (rg [vo 9 (.bin .lss 8 7)]) (.seq (.cond 9 .skip (.exit 0)) (.seq (.block 1 (.seq (rg [vo 10 (.ixA 1 6 8), vo 11 (.load 1 false 10), vm 5 11]) (.seq (rg [vm 12 5, vm 13 3, vo 14 (.bin .neq 12 13)]) (.cond 14 (.seq (rg [vm 15 5, vm 2 15]) .ret) .skip)))) (rg [vo 16 (.bin .add 8 (kI 1)), vm 8 16]))))))) (.seq (rg [vm 17 3, vm 2 17]) .ret))))
theorem c56 : (Try.f56.body.bind fun c => cCode Try.prog 18 c) = some v56 := by kernel_rfl
def v34 : VC := (.seq (rg [vo 2 (.box 44 0), vo 3 (.box 44 1), vo 4 (.mv (kI 0))]) (.seq (.region (some [0,1,3,0,8,24,63,0,128,384,0,1024,3072,8191,0,16384,0,65536,262143,524287,1048575,2097151,0,0,0,0,0,0,0,0,0,0,0,0,0,0,0,0,0,0,0,0,0,0]) [vo 5 (.fld 4 2), vo 6 (.fld 0 5), vo 7 (.load 1 false 6), vo 8 (.fld 4 3), vo 9 (.fld 0 8), vo 10 (.load 1 false 9), vo 11 (.call 57 [7,10]), vo 12 (.fld 4 3), vo 13 (.fld 1 12), vo 14 (.load 1 false 13), vo 15 (.fld 4 2), vo 16 (.fld 1 15), vo 17 (.load 1 false 16), vo 18 (.call 57 [14,17]), vo 19 (.fld 0 2), vo 20 (.load 1 false 19), vo 21 (.fld 0 3), vo 22 (.load 1 false 21), vo 23 (.call 57 [20,22]), vo 24 (.bsl 3 1 3 [(iI 0)] [(0,1,11),(1,1,18),(2,1,23)]), vo 25 (.call 56 [24]), vm 4 25]) .ret))
theorem c34 : (Try.f34.body.bind fun c => cCode Try.prog 26 c) = some v34 := by kernel_rfl
def v41 : VC := (.seq (rg [vo 2 (.mv (kB false))]) (.seq (.seq (rg [vm 6 0, vo 7 (.lenS 6), vo 8 (.mv (kI 0))]) (.block 0 (.loop (.seq (rg [vo 9 (.bin .lss 8 7)]) (.seq (.cond 9 .skip (.exit 0)) (.seq (.block 1 (.seq (rg [vm 10 8, vo 11 (.ixA 8 6 8), vo 12 (.load 8 true 11), vo 4 (.alloc 44 [(iI 0),(iI 0),(iI 0),iS,(iI 0),(iI 0),(iI 0),(.imm (.sc (.bool false)))]), vm 3 10, vp (.store 8 4 12)]) (.block 2 (.seq (rg [vo 50 (.fld 1 4), vo 51 (.load 1 false 50), vo 52 (.bin .lss 51 (kI (-1))), vm 53 52, vg 54 53 false (.fld 1 4), vg 55 53 false (.load 1 false 54), vg 56 53 false (.mv 3), vg 57 53 false (.bin .geq 55 56), vo 58 (.pick 53 (kB true) 57), vm 49 58]) (.cond 49 (.seq (rg [vo 2 (.mv (kB false))]) .ret) (.seq (rg [vo 60 (.fld 1 4), vo 61 (.load 1 false 60), vo 62 (.bin .eql 61 (kI (-1))), vm 59 62]) (.cond 59 (.seq (rg [vo 63 (.fld 2 4), vo 64 (.load 1 false 63), vo 65 (.bin .neq 64 (kI 0))]) (.cond 65 (.seq (rg [vo 2 (.mv (kB false))]) .ret) .skip)) (.seq (rg [vm 13 0, vo 14 (.fld 1 4), vo 15 (.load 1 false 14), vo 16 (.ixA 8 13 15), vo 17 (.load 8 true 16), vo 5 (.alloc 44 [(iI 0),(iI 0),(iI 0),iS,(iI 0),(iI 0),(iI 0),(.imm (.sc (.bool false)))]), vp (.store 8 5 17)]) (.seq (rg [vo 18 (.fld 0 5), vo 19 (.load 1 false 18), vo 20 (.fld 0 4), vo 21 (.load 1 false 20), vo 22 (.bin .neq 19 21), vm 23 22, vg 24 23 false (.fld 4 5), vg 25 23 false (.fld 0 24), vg 26 23 false (.load 1 false 25), vg 27 23 false (.fld 4 4), vg 28 23 false (.fld 0 27), vg 29 23 false (.load 1 false 28), vg 30 23 false (.bin .gtr 26 29), vo 31 (.pick 23 (kB true) 30), vm 32 31, vg 33 32 false (.fld 4 5), vg 34 32 false (.fld 1 33), vg 35 32 false (.load 1 false 34), vg 36 32 false (.fld 4 4), vg 37 32 false (.fld 1 36), vg 38 32 false (.load 1 false 37), vg 39 32 false (.bin .lss 35 38), vo 40 (.pick 32 (kB true) 39), vm 41 40, vg 42 41 false (.fld 2 4), vg 43 41 false (.load 1 false 42), vg 44 41 false (.fld 2 5), vg 45 41 false (.load 1 false 44), vg 46 41 false (.bin .add 45 (kI 1)), vg 47 41 false (.bin .neq 43 46), vo 48 (.pick 41 (kB true) 47)]) (.cond 48 (.seq (rg [vo 2 (.mv (kB false))]) .ret) .skip)))))))))) (rg [vo 66 (.bin .add 8 (kI 1)), vm 8 66]))))))) (.seq (rg [vo 2 (.mv (kB true))]) .ret)))
theorem c41 : (Try.f41.body.bind fun c => cCode Try.prog 67 c) = some v41 := by kernel_rfl
def v64 : VC := (.seq (rg [vo 6 (.mv (kB false))]) (.seq (.block 0 (.loop (.seq (.seq (rg [vm 7 2, vo 8 (.bin .geq 7 (kI 0))]) (.cond 8 .skip (.exit 0))) (.seq (.block 1 (.seq (rg [vm 14 1, vm 15 2, vo 16 (.bin .eql 14 15)]) (.cond 16 (.seq (rg [vo 6 (.mv (kB true))]) .ret) .skip))) (rg [vm 9 0, vm 10 2, vo 11 (.ixA 8 9 10), vo 12 (.fld 1 11), vo 13 (.load 1 false 12), vm 2 13]))))) (.seq (rg [vo 6 (.mv (kB false))]) .ret)))
theorem c64 : (Try.f64.body.bind fun c => cCode Try.prog 17 c) = some v64 := by kernel_rfl
def v42 : VC := (.seq (rg [vo 2 (.mv (kB false))]) (.seq (.seq (rg [vm 8 0, vo 9 (.lenS 8), vo 10 (.mv (kI 0))]) (.block 0 (.loop (.seq (rg [vo 11 (.bin .lss 10 9)]) (.seq (.cond 11 .skip (.exit 0)) (.seq (.block 1 (.seq (rg [vm 12 10, vo 13 (.ixA 8 8 10), vo 14 (.load 8 true 13), vo 4 (.alloc 44 [(iI 0),(iI 0),(iI 0),iS,(iI 0),(iI 0),(iI 0),(.imm (.sc (.bool false)))]), vm 3 12, vp (.store 8 4 14)]) (.seq (rg [vo 15 (.fld 4 4), vo 16 (.fld 1 15), vo 17 (.load 1 false 16), vo 18 (.fld 4 4), vo 19 (.fld 0 18), vo 20 (.load 1 false 19), vo 21 (.bin .sub 17 20), vm 5 21]) (.seq (.seq (rg [vm 22 0, vo 23 (.lenS 22), vo 24 (.mv (kI 0))]) (.block 2 (.loop (.seq (rg [vo 25 (.bin .lss 24 23)]) (.seq (.cond 25 .skip (.exit 2)) (.seq (.block 3 (.seq (rg [vm 26 24, vo 27 (.ixA 8 22 24), vo 28 (.load 8 true 27), vo 7 (.alloc 44 [(iI 0),(iI 0),(iI 0),iS,(iI 0),(iI 0),(iI 0),(.imm (.sc (.bool false)))]), vm 6 26, vp (.store 8 7 28)]) (.seq (.seq (rg [vo 29 (.fld 1 7), vo 30 (.load 1 false 29), vm 31 3, vo 32 (.bin .eql 30 31)]) (.cond 32 (rg [vm 33 5, vo 34 (.fld 4 7), vo 35 (.fld 1 34), vo 36 (.load 1 false 35), vo 37 (.fld 4 7), vo 38 (.fld 0 37), vo 39 (.load 1 false 38), vo 40 (.bin .sub 36 39), vo 41 (.bin .sub 33 40), vm 5 41]) .skip)) (.seq (rg [vm 42 6, vm 43 3, vo 44 (.bin .lss 42 43), vm 45 44, vg 46 45 true (.fld 0 7), vg 47 45 true (.load 1 false 46), vg 48 45 true (.fld 0 4), vg 49 45 true (.load 1 false 48), vg 50 45 true (.bin .eql 47 49), vo 51 (.pick 45 50 (kB false)), vm 52 51, vg 53 52 true (.fld 4 7), vg 54 52 true (.fld 1 53), vg 55 52 true (.load 1 false 54), vg 56 52 true (.fld 4 4), vg 57 52 true (.fld 0 56), vg 58 52 true (.load 1 false 57), vg 59 52 true (.bin .gtr 55 58), vo 60 (.pick 52 59 (kB false)), vm 61 60, vg 62 61 true (.fld 4 4), vg 63 61 true (.fld 1 62), vg 64 61 true (.load 1 false 63), vg 65 61 true (.fld 4 7), vg 66 61 true (.fld 0 65), vg 67 61 true (.load 1 false 66), vg 68 61 true (.bin .gtr 64 67), vo 69 (.pick 61 68 (kB false)), vm 70 69, vg 71 70 true (.mv 0), vg 72 70 true (.mv 6), vg 73 70 true (.mv 3), vg 74 70 true (.call 64 [71,72,73]), vg 75 70 true (.un .not 74), vo 76 (.pick 70 75 (kB false))]) (.cond 76 (.seq (rg [vo 2 (.mv (kB false))]) .ret) .skip))))) (rg [vo 77 (.bin .add 24 (kI 1)), vm 24 77]))))))) (.seq (rg [vo 78 (.fld 6 4), vo 79 (.load 1 false 78), vm 80 5, vo 81 (.bin .neq 79 80)]) (.cond 81 (.seq (rg [vo 2 (.mv (kB false))]) .ret) .skip)))))) (rg [vo 82 (.bin .add 10 (kI 1)), vm 10 82]))))))) (.seq (rg [vo 2 (.mv (kB true))]) .ret)))
theorem c42 : (Try.f42.body.bind fun c => cCode Try.prog 83 c) = some v42 := by kernel_rfl
def v14 : VC := (.seq (rg [vo 2 (.mv (kI 0))]) (.seq (.seq (rg [vm 6 0, vo 7 (.lenS 6), vo 8 (.mv (kI 0))]) (.block 0 (.loop (.seq (rg [vo 9 (.bin .lss 8 7)]) (.seq (.cond 9 .skip (.exit 0)) (.seq (.block 1 (.seq (rg [vm 10 8, vo 11 (.ixA 8 6 8), vo 12 (.load 8 true 11), vo 4 (.alloc 44 [(iI 0),(iI 0),(iI 0),iS,(iI 0),(iI 0),(iI 0),(.imm (.sc (.bool false)))]), vm 3 10, vp (.store 8 4 12)]) (.seq (.seq (rg [vo 13 (.fld 0 4), vo 14 (.load 1 false 13), vo 15 (.bin .lss 14 (kI 0)), vm 16 15, vg 17 16 false (.fld 0 4), vg 18 16 false (.load 1 false 17), vg 19 16 false (.bin .gtr 18 (kI 1000000000000000)), vo 20 (.pick 16 (kB true) 19), vm 21 20, vg 22 21 false (.fld 4 4), vg 23 21 false (.load 2 true 22), vg 24 21 false (.call 39 [23]), vg 25 21 false (.un .not 24), vo 26 (.pick 21 (kB true) 25)]) (.cond 26 (.seq (rg [vo 2 (.mv (kI 2))]) .ret) .skip)) (.seq (.seq (rg [vo 27 (.fld 3 4), vo 28 (.load 1 false 27), vo 29 (.call 40 [28]), vm 5 29]) (.seq (rg [vm 30 5, vo 31 (.bin .neq 30 (kI 0))]) (.cond 31 (.seq (rg [vm 32 5, vm 2 32]) .ret) .skip))) (.seq (.region (some [0,1,3,7,7,23,63,127,7,511,1023,2047,1,0,0,0,0,0,0,0,0,0,0,0]) [vm 33 3, vo 34 (.bin .gtr 33 (kI 0)), vm 35 34, vg 36 35 true (.mv 0), vg 37 35 true (.mv 3), vg 38 35 true (.bin .sub 37 (kI 1)), vg 39 35 true (.ixA 8 36 38), vg 40 35 true (.load 8 true 39), vg 41 35 true (.load 8 true 4), vg 42 35 true (.call 34 [40,41]), vg 43 35 true (.bin .gtr 42 (kI 0)), vo 44 (.pick 35 43 (kB false))]) (.cond 44 (.seq (rg [vo 2 (.mv (kI 11))]) .ret) .skip)))))) (rg [vo 45 (.bin .add 8 (kI 1)), vm 8 45]))))))) (.seq (.seq (rg [vm 46 0, vo 47 (.call 41 [46]), vo 48 (.un .not 47), vm 49 48, vg 50 49 false (.mv 0), vg 51 49 false (.call 42 [50]), vg 52 49 false (.un .not 51), vo 53 (.pick 49 (kB true) 52)]) (.cond 53 (.seq (rg [vo 2 (.mv (kI 10))]) .ret) .skip)) (.seq (rg [vo 2 (.mv (kI 0))]) .ret))))
theorem c14 : (Try.f14.body.bind fun c => cCode Try.prog 54 c) = some v14 := by kernel_rfl
def v5 : VC := (.seq (rg [vo 2 (.mv (kB false))]) (.seq (.seq (rg [vm 3 0, vo 4 (.lenS 3), vo 5 (.bin .gtr 4 (kI 40))]) (.cond 5 (.seq (rg [vo 6 (.call 10 []), vm 2 6]) .ret) .skip)) (.seq (rg [vm 7 0, vo 8 (.call 14 [7]), vm 9 0, vo 10 (.call 16 [9]), vo 11 (.bin .eql 8 10), vm 12 11, vg 13 12 true (.call 10 []), vo 14 (.pick 12 13 (kB false)), vm 2 14]) .ret)))
theorem c5 : (Try.f5.body.bind fun c => cCode Try.prog 15 c) = some v5 := by kernel_rfl
def tracebookref04_Valid (p0 : api_Span) : Option Bool :=
  (((bif (decide (0 ≤ p0.fFrom)) then (bif (decide (p0.fFrom < p0.fTo)) then some (decide (p0.fTo ≤ 1000000000000)) else some false) else some false) : Option Bool).bind fun v1 => some v1)
theorem tracebookref04_Valid_fun (p0 : api_Span) (r : Bool) (hF : tracebookref04_Valid p0 = some r) : Fun Try.prog 43 true [] [.agg [jI p0.fFrom, jI p0.fTo]] noHeap (cB r) noHeap := by
 refine Fun.of_walk0 Try.func43 c43 (by kernel_rfl) (rs := [.tmp 2]) (by kernel_rfl) ?_; unfold v43
 unfold tracebookref04_Valid at hF
 refine wA rfl ?_; refine W_seq ?_; refine W_join (fun _ _ h => h) hF (fun v1 => [(2, cB v1)]) (fun v1 => []) ?_ ?_
 · rintro v1 hF
   cases hF
   exact W_ret wR
 intro join hF
 refine wD 4 rfl ?_; cases h2 : (decide (0 ≤ p0.fFrom))
 · have hF := bF' h2 hF; refine QV rfl ?_; exact join false _ _ hF sw
 have hF := bT' h2 hF; refine Q_run SV 7 rfl ?_; cases h3 : (decide (p0.fFrom < p0.fTo))
 · have hF := bF' h3 hF; refine QV rfl ?_; exact join false _ _ hF sw
 have hF := bT' h3 hF; refine QV rfl ?_; exact join (decide (p0.fTo ≤ 1000000000000)) _ _ hF sw
def tracebookref06_letter_L1 (p0 : Int) : Int → Option (Int ⊕ (Unit ⊕ Bool)) := fun a11 =>
  (bif (decide (a11 < (ByteArray.size ⟨#[95, 46, 58, 47, 60, 62, 36, 42, 126, 45]⟩ : Int))) then ((idx (ByteArray.data ⟨#[95, 46, 58, 47, 60, 62, 36, 42, 126, 45]⟩).toList a11).bind fun y15 => (bif (decide ((UInt8.toNat y15 : Int) = p0)) then some (.inr (.inr true)) else some (.inl (w64 (a11 + 1))))) else some (.inr (.inl ())))
def tracebookref06_letter (p0 : Int) : Option Bool :=
  (((bif (decide (97 ≤ p0)) then (bif (decide (p0 ≤ 122)) then some true else (bif (decide (65 ≤ p0)) then (bif (decide (p0 ≤ 90)) then some true else (bif (decide (48 ≤ p0)) then some (decide (p0 ≤ 57)) else some false)) else (bif (decide (48 ≤ p0)) then some (decide (p0 ≤ 57)) else some false))) else (bif (decide (65 ≤ p0)) then (bif (decide (p0 ≤ 90)) then some true else (bif (decide (48 ≤ p0)) then some (decide (p0 ≤ 57)) else some false)) else (bif (decide (48 ≤ p0)) then some (decide (p0 ≤ 57)) else some false))) : Option Bool).bind fun v1 => (bif v1 then some true else ((loop (tracebookref06_letter_L1 p0) 0).bind fun | .inl _ => some false | .inr rv => some rv)))
theorem tracebookref06_letter_fun (p0 : Int) (r : Bool) (hF : tracebookref06_letter p0 = some r) : Fun Try.prog 65 true [] [.c (.imm (.sc (.int .u8 p0)))] noHeap (cB r) noHeap := by
 refine Fun.of_walk0 Try.func65 c65 (by kernel_rfl) (rs := [.tmp 2]) (by kernel_rfl) ?_; unfold v65
 unfold tracebookref06_letter at hF
 refine wA rfl ?_; refine W_seq ?_; refine W_seq ?_; refine W_join (fun _ _ h => h) hF (fun v1 => [(0, .c (.imm (.sc (.int .u8 p0)))), (26, cB v1)]) (fun v1 => []) ?_ ?_
 · rintro v1 hF
   refine wIf hF rfl (fun _ hF => ?_) fun _ hF => ?_
   · refine wA rfl ?_; cases hF
     exact W_ret wR
   refine W_skip ?_; refine wA rfl ?_; refine W_seq ?_; refine wA rfl ?_; refine W_for (fun _ _ h => h) hF (.inl) (fun a11 => [(0, .c (.imm (.sc (.int .u8 p0)))), (3, .c (jS ⟨#[95, 46, 58, 47, 60, 62, 36, 42, 126, 45]⟩)), (4, cI a11)]) (fun a11 => []) (fun _ => []) (fun _ => []) sw ?_ ?_
   · rintro ⟨⟩ hF
     refine wA rfl ?_; cases hF
     exact W_ret wR
   rintro a11 x_0 hF cont_0 brk_0 fin_0
   unfold tracebookref06_letter_L1 at hF
   refine W_seq ?_; refine wA rfl ?_; refine wIf hF rfl (fun _ hF => ?_) fun _ hF => ?_
   · refine W_skip ?_; refine W_seq ?_; refine W_block ?_; refine wC 2 rfl ?_; obtain ⟨y15, hy15, hF⟩ := bB hF
     refine rS (T_ixS ⟨#[95, 46, 58, 47, 60, 62, 36, 42, 126, 45]⟩ rfl rfl hy15 ?_); refine QV rfl ?_; refine wIf hF rfl (fun _ hF => ?_) fun _ hF => ?_
     · refine wA rfl ?_; have hF := fin_0 _ (oi hF); cases hF
       exact W_ret wR
     refine W_skip ?_; refine wB rfl ?_; exact cont_0 _ _ _ (oi hF) sw
   refine W_exit ?_; refine thenQ_exit ?_; refine thenQ_exit ?_; refine blockQ_hit ?_; exact brk_0 _ _ _ (oi hF) sw
 intro join hF
 refine wD 3 rfl ?_; cases h19 : (decide (97 ≤ p0))
 · have hF := bF' h19 hF; refine Q_run SV 7 rfl ?_; cases h20 : (decide (65 ≤ p0))
   · have hF := bF' h20 hF; refine Q_run SV 8 rfl ?_; cases h21 : (decide (48 ≤ p0))
     · have hF := bF' h21 hF; refine QV rfl ?_; exact join false _ _ hF sw
     have hF := bT' h21 hF; refine QV rfl ?_; exact join (decide (p0 ≤ 57)) _ _ hF sw
   have hF := bT' h20 hF; refine Q_run SV 5 rfl ?_; cases h22 : (decide (p0 ≤ 90))
   · have hF := bF' h22 hF; refine Q_run SV 3 rfl ?_; cases h23 : (decide (48 ≤ p0))
     · have hF := bF' h23 hF; refine QV rfl ?_; exact join false _ _ hF sw
     have hF := bT' h23 hF; refine QV rfl ?_; exact join (decide (p0 ≤ 57)) _ _ hF sw
   have hF := bT' h22 hF; refine QV rfl ?_; exact join true _ _ hF sw
 have hF := bT' h19 hF; refine Q_run SV 4 rfl ?_; cases h24 : (decide (p0 ≤ 122))
 · have hF := bF' h24 hF; refine Q_run SV 3 rfl ?_; cases h25 : (decide (65 ≤ p0))
   · have hF := bF' h25 hF; refine Q_run SV 8 rfl ?_; cases h26 : (decide (48 ≤ p0))
     · have hF := bF' h26 hF; refine QV rfl ?_; exact join false _ _ hF sw
     have hF := bT' h26 hF; refine QV rfl ?_; exact join (decide (p0 ≤ 57)) _ _ hF sw
   have hF := bT' h25 hF; refine Q_run SV 5 rfl ?_; cases h27 : (decide (p0 ≤ 90))
   · have hF := bF' h27 hF; refine Q_run SV 3 rfl ?_; cases h28 : (decide (48 ≤ p0))
     · have hF := bF' h28 hF; refine QV rfl ?_; exact join false _ _ hF sw
     have hF := bT' h28 hF; refine QV rfl ?_; exact join (decide (p0 ≤ 57)) _ _ hF sw
   have hF := bT' h27 hF; refine QV rfl ?_; exact join true _ _ hF sw
 have hF := bT' h24 hF; refine QV rfl ?_; exact join true _ _ hF sw
def tracebookref06_Name_L1 (p0 : ByteArray) : Int → Option (Int ⊕ (Unit ⊕ Int)) := fun a13 =>
  (bif (decide (a13 < (ByteArray.size p0 : Int))) then ((idx (ByteArray.data p0).toList a13).bind fun y18 => ((tracebookref06_letter (UInt8.toNat y18 : Int)).bind fun r19 => (bif (!r19) then some (.inr (.inr 3)) else some (.inl (w64 (a13 + 1)))))) else some (.inr (.inl ())))
def tracebookref06_Name (p0 : ByteArray) : Option Int :=
  (((bif (decide ((ByteArray.size p0 : Int) < 1)) then some true else some (decide (40 < (ByteArray.size p0 : Int)))) : Option Bool).bind fun v1 => (bif v1 then some 3 else ((loop (tracebookref06_Name_L1 p0) 0).bind fun | .inl _ => some 0 | .inr rv => some rv)))
theorem tracebookref06_Name_fun (p0 : ByteArray) (r : Int) (hF : tracebookref06_Name p0 = some r) : Fun Try.prog 44 true [] [.c (jS p0)] noHeap (cI r) noHeap := by
 refine Fun.of_walk0 Try.func44 c44 (by kernel_rfl) (rs := [.tmp 2]) (by kernel_rfl) ?_; unfold v44
 unfold tracebookref06_Name at hF
 refine wA rfl ?_; refine W_seq ?_; refine W_seq ?_; refine W_join (fun _ _ h => h) hF (fun v1 => [(0, .c (jS p0)), (11, cB v1)]) (fun v1 => []) ?_ ?_
 · rintro v1 hF
   refine wIf hF rfl (fun _ hF => ?_) fun _ hF => ?_
   · refine wA rfl ?_; cases hF
     exact W_ret wR
   refine W_skip ?_; refine W_seq ?_; refine wA rfl ?_; refine W_for (fun _ _ h => h) hF (.inl) (fun a13 => [(0, .c (jS p0)), (3, cI a13)]) (fun a13 => []) (fun _ => []) (fun _ => []) sw ?_ ?_
   · rintro ⟨⟩ hF
     refine wA rfl ?_; cases hF
     exact W_ret wR
   rintro a13 x_0 hF cont_0 brk_0 fin_0
   unfold tracebookref06_Name_L1 at hF
   refine W_seq ?_; refine wA rfl ?_; refine wIf hF rfl (fun _ hF => ?_) fun _ hF => ?_
   · refine W_skip ?_; refine W_seq ?_; refine W_block ?_; refine wC 2 rfl ?_; obtain ⟨y18, hy18, hF⟩ := bB hF
     refine rS (T_ixS p0 rfl rfl hy18 ?_); obtain ⟨r19, hr19, hF⟩ := bB hF
     refine rS (T_call (tracebookref06_letter_fun _ _ hr19) ⟨rfl, trivial⟩ rfl (.inl rfl) ?_); refine QV rfl ?_; refine wIf hF rfl (fun _ hF => ?_) fun _ hF => ?_
     · refine wA rfl ?_; have hF := fin_0 _ (oi hF); cases hF
       exact W_ret wR
     refine W_skip ?_; refine wB rfl ?_; exact cont_0 _ _ _ (oi hF) sw
   refine W_exit ?_; refine thenQ_exit ?_; refine thenQ_exit ?_; refine blockQ_hit ?_; exact brk_0 _ _ _ (oi hF) sw
 intro join hF
 refine wD 4 rfl ?_; cases h23 : (decide ((ByteArray.size p0 : Int) < 1))
 · have hF := bF' h23 hF; refine QV rfl ?_; exact join (decide (40 < (ByteArray.size p0 : Int))) _ _ hF sw
 have hF := bT' h23 hF; refine QV rfl ?_; exact join true _ _ hF sw
def tracebookref26_Precedes (p0 : api_Slice) (p1 : api_Slice) : Option Bool :=
  (bif (!decide (p0.fSpan.fFrom = p1.fSpan.fFrom)) then some (decide (p0.fSpan.fFrom < p1.fSpan.fFrom)) else (bif (!decide (p0.fSpan.fTo = p1.fSpan.fTo)) then some (decide (p1.fSpan.fTo < p0.fSpan.fTo)) else some (decide (p0.fThread < p1.fThread))))
theorem tracebookref26_Precedes_fun (p0 : api_Slice) (p1 : api_Slice) (r : Bool) (hF : tracebookref26_Precedes p0 p1 = some r) : Fun Try.prog 45 true [] [.agg (m_api_Slice p0), .agg (m_api_Slice p1)] noHeap (cB r) noHeap := by
 refine Fun.of_walk0 Try.func45 c45 (by kernel_rfl) (rs := [.tmp 4]) (by kernel_rfl) ?_; unfold v45
 unfold tracebookref26_Precedes at hF
 refine wA rfl ?_; refine W_seq ?_; refine W_block ?_; refine wA rfl ?_; refine wIf hF rfl (fun _ hF => ?_) fun _ hF => ?_
 · refine wA rfl ?_; cases hF
   exact W_ret wR
 refine wA rfl ?_; refine wIf hF rfl (fun _ hF => ?_) fun _ hF => ?_
 · refine wA rfl ?_; cases hF
   exact W_ret wR
 refine W_skip ?_; refine wA rfl ?_; cases hF
 exact W_ret wR
def tracebookref26_contains (p0 : api_Span) (p1 : api_Span) : Option Bool :=
  (((bif (decide (p0.fFrom ≤ p1.fFrom)) then some (decide (p1.fTo ≤ p0.fTo)) else some false) : Option Bool).bind fun v1 => some v1)
theorem tracebookref26_contains_fun (p0 : api_Span) (p1 : api_Span) (r : Bool) (hF : tracebookref26_contains p0 p1 = some r) : Fun Try.prog 66 true [] [.agg [jI p0.fFrom, jI p0.fTo], .agg [jI p1.fFrom, jI p1.fTo]] noHeap (cB r) noHeap := by
 refine Fun.of_walk0 Try.func66 c66 (by kernel_rfl) (rs := [.tmp 4]) (by kernel_rfl) ?_; unfold v66
 unfold tracebookref26_contains at hF
 refine wA rfl ?_; refine W_seq ?_; refine W_join (fun _ _ h => h) hF (fun v1 => [(4, cB v1)]) (fun v1 => []) ?_ ?_
 · rintro v1 hF
   cases hF
   exact W_ret wR
 intro join hF
 refine wD 6 rfl ?_; cases h2 : (decide (p0.fFrom ≤ p1.fFrom))
 · have hF := bF' h2 hF; refine QV rfl ?_; exact join false _ _ hF sw
 have hF := bT' h2 hF; refine QV rfl ?_; exact join (decide (p1.fTo ≤ p0.fTo)) _ _ hF sw
def tracebookref26_above_L1 (p0 : (List api_Slice)) (p1 : Int) : Int → Option (Int ⊕ Int) := fun a12 =>
  (((bif (decide (0 ≤ a12)) then some (decide (p1 < a12)) else some false) : Option Bool).bind fun v18 => (bif v18 then ((idx p0 a12).bind fun y19 => some (.inl y19.fParent)) else some (.inr a12)))
def tracebookref26_above (p0 : (List api_Slice)) (p1 : Int) (p2 : Int) : Option Bool :=
  ((loop (tracebookref26_above_L1 p0 p1) p2).bind fun e17 => some (decide (p1 = e17)))
theorem tracebookref26_above_fun (p0 : (List api_Slice)) (p1 : Int) (p2 : Int) (r : Bool) (hF : tracebookref26_above p0 p1 p2 = some r) : Fun Try.prog 67 true [] [cL 8 t_api_Slice p0, cI p1, cI p2] noHeap (cB r) noHeap := by
 refine Fun.of_walk0 Try.func67 c67 (by kernel_rfl) (rs := [.tmp 6]) (by kernel_rfl) ?_; unfold v67
 unfold tracebookref26_above at hF
 refine wA rfl ?_; refine W_seq ?_; refine W_for (fun _ _ h => h) hF (id) (fun a12 => [(0, cL 8 t_api_Slice p0), (1, cI p1), (2, cI a12)]) (fun a12 => []) (fun e17 => [(1, cI p1), (2, cI e17)]) (fun e17 => []) sw ?_ ?_
 · rintro e17 hF
   refine wA rfl ?_; cases hF
   exact W_ret wR
 rintro a12 x_0 hF cont_0 brk_0 fin_0
 unfold tracebookref26_above_L1 at hF
 refine W_seq ?_; refine W_seq ?_; refine W_join (fun _ _ h => h) hF (fun v18 => [(0, cL 8 t_api_Slice p0), (1, cI p1), (2, cI a12), (13, cB v18)]) (fun v18 => []) ?_ ?_
 · rintro v18 hF
   refine wIf hF rfl (fun _ hF => ?_) fun _ hF => ?_
   · refine W_skip ?_; refine W_block ?_; refine wD 2 rfl ?_; obtain ⟨y19, hy19, hF⟩ := bB hF
     refine rS (T_ixT (tc := t_api_Slice) p0 rfl rfl hy19 ?_); refine QV rfl ?_; exact cont_0 _ _ _ (oi hF) sw
   refine W_exit ?_; refine thenQ_exit ?_; refine thenQ_exit ?_; refine blockQ_hit ?_; exact brk_0 _ _ _ (oi hF) sw
 intro join hF
 refine wD 3 rfl ?_; cases h21 : (decide (0 ≤ a12))
 · have hF := bF' h21 hF; refine QV rfl ?_; exact join false _ _ hF sw
 have hF := bT' h21 hF; refine QV rfl ?_; exact join (decide (p1 < a12)) _ _ hF sw
def tracebookref26_formed_L1 (p0 : (List api_Slice)) (a259 : Int) : (Int × Int) → Option ((Int × Int) ⊕ (Int ⊕ (Int ⊕ (Unit ⊕ Bool)))) := fun (a402, a403) =>
  (bif (decide (a403 < (List.length p0 : Int))) then ((idx p0 a403).bind fun y427 => (((bif (decide (y427.fParent = a259)) then ((idx p0 a403).bind fun y443 => ((idx p0 a403).bind fun y444 => some (w64 (a402 - (w64 (y443.fSpan.fTo - y444.fSpan.fFrom)))))) else some a402) : Option Int).bind fun v428 => ((((idx p0 a259).bind fun y438 => ((idx p0 a403).bind fun y439 => (bif (decide (y438.fSpan.fFrom < y439.fSpan.fTo)) then ((idx p0 a403).bind fun y441 => ((idx p0 a259).bind fun y442 => some (decide (y441.fSpan.fFrom < y442.fSpan.fTo)))) else some false))) : Option Bool).bind fun v429 => (((bif (decide (a259 < a403)) then ((idx p0 a259).bind fun y433 => ((idx p0 a403).bind fun y434 => (bif (decide (y433.fThread = y434.fThread)) then (bif v429 then ((tracebookref26_above p0 a259 a403).bind fun r437 => some (!r437)) else some false) else some false))) else some false) : Option Bool).bind fun v430 => (bif v430 then some (.inr (.inr (.inr (.inr false)))) else some (.inl (v428, (w64 (a403 + 1))))))))) else some (.inr (.inl a402)))
def tracebookref26_formed_L2 (p0 : (List api_Slice)) : Int → Option (Int ⊕ (Unit ⊕ Bool)) := fun a259 =>
  (bif (decide (a259 < (List.length p0 : Int))) then ((idx p0 a259).bind fun y354 => ((idx p0 a259).bind fun y355 => ((loop (tracebookref26_formed_L1 p0 a259) ((w64 (y354.fSpan.fTo - y355.fSpan.fFrom)), 0)).bind fun | .inl e424 => ((idx p0 a259).bind fun y425 => (bif (!decide (y425.fSelf = e424)) then some (.inr (.inr false)) else some (.inl (w64 (a259 + 1))))) | .inr rv => some rv))) else some (.inr (.inl ())))
def tracebookref26_formed_L3 (p0 : (List api_Slice)) : Int → Option (Int ⊕ (Unit ⊕ Bool)) := fun a46 =>
  (bif (decide (a46 < (List.length p0 : Int))) then ((idx p0 a46).bind fun y448 => (((bif (decide (y448.fParent < (-1))) then some true else some (decide (a46 ≤ y448.fParent))) : Option Bool).bind fun v449 => (bif v449 then some (.inr (.inr false)) else (((bif (decide (y448.fParent = (-1))) then ((idx p0 a46).bind fun y465 => some (!decide (y465.fDepth = 0))) else some false) : Option Bool).bind fun v450 => (bif v450 then some (.inr (.inr false)) else (((bif (decide (0 ≤ y448.fParent)) then ((idx p0 y448.fParent).bind fun y454 => ((idx p0 a46).bind fun y455 => (bif (!decide (y454.fThread = y455.fThread)) then some true else ((idx p0 y448.fParent).bind fun y457 => ((idx p0 a46).bind fun y458 => ((tracebookref26_contains y457.fSpan y458.fSpan).bind fun r459 => (bif (!r459) then some true else ((idx p0 a46).bind fun y461 => ((idx p0 y448.fParent).bind fun y462 => some (!decide (y461.fDepth = (w64 (y462.fDepth + 1))))))))))))) else some false) : Option Bool).bind fun v451 => (bif v451 then some (.inr (.inr false)) else some (.inl (w64 (a46 + 1)))))))))) else some (.inr (.inl ())))
def tracebookref26_formed (p0 : (List api_Slice)) : Option Bool :=
  ((loop (tracebookref26_formed_L3 p0) 0).bind fun | .inl _ => ((loop (tracebookref26_formed_L2 p0) 0).bind fun | .inl _ => some true | .inr rv => some rv) | .inr rv => some rv)
theorem tracebookref26_formed_fun (p0 : (List api_Slice)) (r : Bool) (hF : tracebookref26_formed p0 = some r) : Fun Try.prog 46 true [] [cL 8 t_api_Slice p0] noHeap (cB r) noHeap := by
 refine Fun.of_walk0 Try.func46 c46 (by kernel_rfl) (rs := [.tmp 2]) (by kernel_rfl) ?_; unfold v46
 unfold tracebookref26_formed at hF
 refine wA rfl ?_; refine W_seq ?_; refine wA rfl ?_; refine W_for (fun _ _ h => h) hF (.inl) (fun a46 => [(0, cL 8 t_api_Slice p0), (3, cI a46)]) (fun a46 => []) (fun _ => [(0, cL 8 t_api_Slice p0)]) (fun _ => []) sw ?_ ?_
 · rintro ⟨⟩ hF
   refine W_seq ?_; refine wA rfl ?_; refine W_for (fun _ _ h => h) hF (.inl) (fun a259 => [(0, cL 8 t_api_Slice p0), (5, cI a259)]) (fun a259 => []) (fun _ => []) (fun _ => []) sw ?_ ?_
   · rintro ⟨⟩ hF
     refine wA rfl ?_; cases hF
     exact W_ret wR
   rintro a259 x_0 hF cont_0 brk_0 fin_0
   unfold tracebookref26_formed_L2 at hF
   refine W_seq ?_; refine wC 2 rfl ?_; refine rS (T_len (tc := t_api_Slice) p0 .tree ?_); refine QV rfl ?_; refine wIf hF rfl (fun _ hF => ?_) fun _ hF => ?_
   · refine W_skip ?_; refine W_seq ?_; refine W_block ?_; refine W_seq ?_; refine W_regD (by decide) (by kernel_rfl) rfl ?_; refine Q_run SP 2 rfl ?_; obtain ⟨y354, hy354, hF⟩ := bB hF
     refine R_step SP trivial (T_ixT (tc := t_api_Slice) p0 rfl rfl hy354 ?_); refine Q_run SP 5 rfl ?_; obtain ⟨y355, hy355, hF⟩ := bB hF
     refine R_step SP trivial (T_ixT (tc := t_api_Slice) p0 rfl rfl hy355 ?_); refine QP rfl ?_; refine W_seq ?_; refine wA rfl ?_; refine W_for (fun _ _ h => h) hF (.inl) (fun (a402, a403) => [(0, cL 8 t_api_Slice p0), (5, cI a259), (6, cI a402), (7, cI a403)]) (fun (a402, a403) => []) (fun e424 => [(0, cL 8 t_api_Slice p0), (5, cI a259), (6, cI e424)]) (fun e424 => []) sw ?_ ?_
     · rintro e424 hF
       refine wC 2 rfl ?_; obtain ⟨y425, hy425, hF⟩ := bB hF
       refine rS (T_ixT (tc := t_api_Slice) p0 rfl rfl hy425 ?_); refine QV rfl ?_; refine wIf hF rfl (fun _ hF => ?_) fun _ hF => ?_
       · refine wA rfl ?_; have hF := fin_0 _ (oi hF); cases hF
         exact W_ret wR
       refine W_skip ?_; refine wB rfl ?_; exact cont_0 _ _ _ (oi hF) sw
     rintro ⟨a402, a403⟩ x_1 hF cont_1 brk_1 fin_1
     unfold tracebookref26_formed_L1 at hF
     refine W_seq ?_; refine wC 2 rfl ?_; refine rS (T_len (tc := t_api_Slice) p0 .tree ?_); refine QV rfl ?_; refine wIf hF rfl (fun _ hF => ?_) fun _ hF => ?_
     · refine W_skip ?_; refine W_seq ?_; refine W_block ?_; refine W_seq ?_; refine wC 2 rfl ?_; obtain ⟨y427, hy427, hF⟩ := bB hF
       refine rS (T_ixT (tc := t_api_Slice) p0 rfl rfl hy427 ?_); refine QV rfl ?_; refine W_join (fun _ _ h => h) hF (fun v428 => [(0, cL 8 t_api_Slice p0), (5, cI a259), (6, cI v428), (7, cI a403)]) (fun v428 => []) ?_ ?_
       · rintro v428 hF
         refine W_seq ?_; refine W_join (fun _ _ h => h) hF (fun v429 => [(0, cL 8 t_api_Slice p0), (5, cI a259), (6, cI v428), (7, cI a403), (8, cB v429)]) (fun v429 => []) ?_ ?_
         · rintro v429 hF
           refine W_seq ?_; refine W_join (fun _ _ h => h) hF (fun v430 => [(0, cL 8 t_api_Slice p0), (5, cI a259), (6, cI v428), (7, cI a403), (180, cB v430)]) (fun v430 => []) ?_ ?_
           · rintro v430 hF
             refine wIf hF rfl (fun _ hF => ?_) fun _ hF => ?_
             · refine wA rfl ?_; have hF := fin_1 _ (oi hF); have hF := fin_0 _ (oi hF); cases hF
               exact W_ret wR
             refine W_skip ?_; refine wB rfl ?_; exact cont_1 _ _ _ (oi hF) sw
           intro join hF
           refine W_regD (by decide) (by kernel_rfl) rfl ?_; refine Q_run SP 4 rfl ?_; cases h432 : (decide (a259 < a403))
           · have hF := bF' h432 hF; refine QP rfl ?_; exact join false _ _ hF sw
           have hF := bT' h432 hF; refine Q_run SP 2 rfl ?_; obtain ⟨y433, hy433, hF⟩ := bB' hF
           refine R_step SP rfl (T_ixT (tc := t_api_Slice) p0 rfl rfl hy433 ?_); refine Q_run SP 4 rfl ?_; obtain ⟨y434, hy434, hF⟩ := bB' hF
           refine R_step SP rfl (T_ixT (tc := t_api_Slice) p0 rfl rfl hy434 ?_); refine Q_run SP 5 rfl ?_; cases h435 : (decide (y433.fThread = y434.fThread))
           · have hF := bF' h435 hF; refine QP rfl ?_; exact join false _ _ hF sw
           have hF := bT' h435 hF; refine Q_run SP 3 rfl ?_; cases h436 : v429
           · have hF := bF' h436 hF; refine QP rfl ?_; exact join false _ _ hF sw
           have hF := bT' h436 hF; refine Q_run SP 3 rfl ?_; obtain ⟨r437, hr437, hF⟩ := bB' hF
           refine R_step SP rfl (T_call (tracebookref26_above_fun _ _ _ _ hr437) ⟨rfl, rfl, rfl, trivial⟩ rfl (.inl rfl) ?_); refine QP rfl ?_; exact join (!r437) _ _ hF sw
         intro join hF
         refine W_regD (by decide) (by kernel_rfl) rfl ?_; refine Q_run SP 2 rfl ?_; obtain ⟨y438, hy438, hF⟩ := bB' hF
         refine R_step SP trivial (T_ixT (tc := t_api_Slice) p0 rfl rfl hy438 ?_); refine Q_run SP 5 rfl ?_; obtain ⟨y439, hy439, hF⟩ := bB' hF
         refine R_step SP trivial (T_ixT (tc := t_api_Slice) p0 rfl rfl hy439 ?_); refine Q_run SP 5 rfl ?_; cases h440 : (decide (y438.fSpan.fFrom < y439.fSpan.fTo))
         · have hF := bF' h440 hF; refine QP rfl ?_; exact join false _ _ hF sw
         have hF := bT' h440 hF; refine Q_run SP 2 rfl ?_; obtain ⟨y441, hy441, hF⟩ := bB' hF
         refine R_step SP rfl (T_ixT (tc := t_api_Slice) p0 rfl rfl hy441 ?_); refine Q_run SP 5 rfl ?_; obtain ⟨y442, hy442, hF⟩ := bB' hF
         refine R_step SP rfl (T_ixT (tc := t_api_Slice) p0 rfl rfl hy442 ?_); refine QP rfl ?_; exact join (decide (y441.fSpan.fFrom < y442.fSpan.fTo)) _ _ hF sw
       intro join hF
       refine wIf' hF rfl (fun _ hF => ?_) fun _ hF => ?_
       · refine W_regD (by decide) (by kernel_rfl) rfl ?_; refine Q_run SP 3 rfl ?_; obtain ⟨y443, hy443, hF⟩ := bB' hF
         refine R_step SP trivial (T_ixT (tc := t_api_Slice) p0 rfl rfl hy443 ?_); refine Q_run SP 5 rfl ?_; obtain ⟨y444, hy444, hF⟩ := bB' hF
         refine R_step SP trivial (T_ixT (tc := t_api_Slice) p0 rfl rfl hy444 ?_); refine QP rfl ?_; exact join (w64 (a402 - (w64 (y443.fSpan.fTo - y444.fSpan.fFrom)))) _ _ hF sw
       refine W_skip ?_; exact join a402 _ _ hF sw
     refine W_exit ?_; refine thenQ_exit ?_; refine thenQ_exit ?_; refine blockQ_hit ?_; exact brk_1 _ _ _ (oi hF) sw
   refine W_exit ?_; refine thenQ_exit ?_; refine thenQ_exit ?_; refine blockQ_hit ?_; exact brk_0 _ _ _ (oi hF) sw
 rintro a46 x_0 hF cont_0 brk_0 fin_0
 unfold tracebookref26_formed_L3 at hF
 refine W_seq ?_; refine wC 2 rfl ?_; refine rS (T_len (tc := t_api_Slice) p0 .tree ?_); refine QV rfl ?_; refine wIf hF rfl (fun _ hF => ?_) fun _ hF => ?_
 · refine W_skip ?_; refine W_seq ?_; refine W_block ?_; refine wC 2 rfl ?_; obtain ⟨y448, hy448, hF⟩ := bB hF
   refine rS (T_ixT (tc := t_api_Slice) p0 rfl rfl hy448 ?_); refine QV rfl ?_; refine W_seq ?_; refine W_seq ?_; refine W_join (fun _ _ h => h) hF (fun v449 => [(0, cL 8 t_api_Slice p0), (3, cI a46), (4, cI y448.fParent), (26, cB v449)]) (fun v449 => []) ?_ ?_
   · rintro v449 hF
     refine wIf hF rfl (fun _ hF => ?_) fun _ hF => ?_
     · refine wA rfl ?_; have hF := fin_0 _ (oi hF); cases hF
       exact W_ret wR
     refine W_skip ?_; refine W_seq ?_; refine W_seq ?_; refine W_join (fun _ _ h => h) hF (fun v450 => [(0, cL 8 t_api_Slice p0), (3, cI a46), (4, cI y448.fParent), (36, cB v450)]) (fun v450 => []) ?_ ?_
     · rintro v450 hF
       refine wIf hF rfl (fun _ hF => ?_) fun _ hF => ?_
       · refine wA rfl ?_; have hF := fin_0 _ (oi hF); cases hF
         exact W_ret wR
       refine W_skip ?_; refine W_seq ?_; refine W_join (fun _ _ h => h) hF (fun v451 => [(0, cL 8 t_api_Slice p0), (3, cI a46), (79, cB v451)]) (fun v451 => []) ?_ ?_
       · rintro v451 hF
         refine wIf hF rfl (fun _ hF => ?_) fun _ hF => ?_
         · refine wA rfl ?_; have hF := fin_0 _ (oi hF); cases hF
           exact W_ret wR
         refine W_skip ?_; refine wB rfl ?_; exact cont_0 _ _ _ (oi hF) sw
       intro join hF
       refine W_regD (by decide) (by kernel_rfl) rfl ?_; refine Q_run SP 3 rfl ?_; cases h453 : (decide (0 ≤ y448.fParent))
       · have hF := bF' h453 hF; refine QP rfl ?_; exact join false _ _ hF sw
       have hF := bT' h453 hF; refine Q_run SP 2 rfl ?_; obtain ⟨y454, hy454, hF⟩ := bB' hF
       refine R_step SP rfl (T_ixT (tc := t_api_Slice) p0 rfl rfl hy454 ?_); refine Q_run SP 4 rfl ?_; obtain ⟨y455, hy455, hF⟩ := bB' hF
       refine R_step SP rfl (T_ixT (tc := t_api_Slice) p0 rfl rfl hy455 ?_); refine Q_run SP 4 rfl ?_; cases h456 : (!decide (y454.fThread = y455.fThread))
       · have hF := bF' h456 hF; refine Q_run SP 2 rfl ?_; obtain ⟨y457, hy457, hF⟩ := bB' hF
         refine R_step SP rfl (T_ixT (tc := t_api_Slice) p0 rfl rfl hy457 ?_); refine Q_run SP 4 rfl ?_; obtain ⟨y458, hy458, hF⟩ := bB' hF
         refine R_step SP rfl (T_ixT (tc := t_api_Slice) p0 rfl rfl hy458 ?_); refine Q_run SP 2 rfl ?_; obtain ⟨r459, hr459, hF⟩ := bB' hF
         refine R_step SP rfl (T_call (tracebookref26_contains_fun _ _ _ hr459) ⟨⟨rfl, rfl, trivial⟩, ⟨rfl, rfl, trivial⟩, trivial⟩ rfl (.inl rfl) ?_); refine Q_run SP 3 rfl ?_; cases h460 : (!r459)
         · have hF := bF' h460 hF; refine Q_run SP 2 rfl ?_; obtain ⟨y461, hy461, hF⟩ := bB' hF
           refine R_step SP rfl (T_ixT (tc := t_api_Slice) p0 rfl rfl hy461 ?_); refine Q_run SP 4 rfl ?_; obtain ⟨y462, hy462, hF⟩ := bB' hF
           refine R_step SP rfl (T_ixT (tc := t_api_Slice) p0 rfl rfl hy462 ?_); refine QP rfl ?_; exact join (!decide (y461.fDepth = (w64 (y462.fDepth + 1)))) _ _ hF sw
         have hF := bT' h460 hF; refine QP rfl ?_; exact join true _ _ hF sw
       have hF := bT' h456 hF; refine QP rfl ?_; exact join true _ _ hF sw
     intro join hF
     refine wD 3 rfl ?_; cases h464 : (decide (y448.fParent = (-1)))
     · have hF := bF' h464 hF; refine QV rfl ?_; exact join false _ _ hF sw
     have hF := bT' h464 hF; refine Q_run SV 2 rfl ?_; obtain ⟨y465, hy465, hF⟩ := bB' hF
     refine R_step SV rfl (T_ixT (tc := t_api_Slice) p0 rfl rfl hy465 ?_); refine QV rfl ?_; exact join (!decide (y465.fDepth = 0)) _ _ hF sw
   intro join hF
   refine wD 3 rfl ?_; cases h467 : (decide (y448.fParent < (-1)))
   · have hF := bF' h467 hF; refine QV rfl ?_; exact join (decide (a46 ≤ y448.fParent)) _ _ hF sw
   have hF := bT' h467 hF; refine QV rfl ?_; exact join true _ _ hF sw
 refine W_exit ?_; refine thenQ_exit ?_; refine thenQ_exit ?_; refine blockQ_hit ?_; exact brk_0 _ _ _ (oi hF) sw
def tracebookref26_Check_L1 (p0 : (List api_Slice)) : Int → Option (Int ⊕ (Unit ⊕ Int)) := fun a40 =>
  (bif (decide (a40 < (List.length p0 : Int))) then ((((idx p0 a40).bind fun y72 => (bif (decide (y72.fThread < 0)) then some true else ((idx p0 a40).bind fun y74 => (bif (decide (1000000000000000 < y74.fThread)) then some true else ((idx p0 a40).bind fun y76 => ((tracebookref04_Valid y76.fSpan).bind fun r77 => some (!r77))))))) : Option Bool).bind fun v61 => (bif v61 then some (.inr (.inr 2)) else ((idx p0 a40).bind fun y62 => ((tracebookref06_Name y62.fName).bind fun r63 => (bif (!decide (r63 = 0)) then some (.inr (.inr r63)) else (((bif (decide (0 < a40)) then ((idx p0 a40).bind fun y67 => ((idx p0 (w64 (a40 - 1))).bind fun y68 => ((tracebookref26_Precedes y67 y68).bind fun r69 => some r69))) else some false) : Option Bool).bind fun v64 => (bif v64 then some (.inr (.inr 11)) else some (.inl (w64 (a40 + 1)))))))))) else some (.inr (.inl ())))
def tracebookref26_Check (p0 : (List api_Slice)) : Option Int :=
  ((loop (tracebookref26_Check_L1 p0) 0).bind fun | .inl _ => ((tracebookref26_formed p0).bind fun r59 => (bif (!r59) then some 10 else some 0)) | .inr rv => some rv)
theorem tracebookref26_Check_fun (p0 : (List api_Slice)) (r : Int) (hF : tracebookref26_Check p0 = some r) : Fun Try.prog 16 true [] [cL 8 t_api_Slice p0] noHeap (cI r) noHeap := by
 refine Fun.of_walk0 Try.func16 c16 (by kernel_rfl) (rs := [.tmp 2]) (by kernel_rfl) ?_; unfold v16
 unfold tracebookref26_Check at hF
 refine wA rfl ?_; refine W_seq ?_; refine wA rfl ?_; refine W_for (fun _ _ h => h) hF (.inl) (fun a40 => [(0, cL 8 t_api_Slice p0), (3, cI a40)]) (fun a40 => []) (fun _ => [(0, cL 8 t_api_Slice p0)]) (fun _ => []) sw ?_ ?_
 · rintro ⟨⟩ hF
   refine W_seq ?_; refine wC 1 rfl ?_; obtain ⟨r59, hr59, hF⟩ := bB hF
   refine rS (T_call (tracebookref26_formed_fun _ _ hr59) ⟨rfl, trivial⟩ rfl (.inl rfl) ?_); refine QV rfl ?_; refine wIf hF rfl (fun _ hF => ?_) fun _ hF => ?_
   · refine wA rfl ?_; cases hF
     exact W_ret wR
   refine W_skip ?_; refine wA rfl ?_; cases hF
   exact W_ret wR
 rintro a40 x_0 hF cont_0 brk_0 fin_0
 unfold tracebookref26_Check_L1 at hF
 refine W_seq ?_; refine wC 2 rfl ?_; refine rS (T_len (tc := t_api_Slice) p0 .tree ?_); refine QV rfl ?_; refine wIf hF rfl (fun _ hF => ?_) fun _ hF => ?_
 · refine W_skip ?_; refine W_seq ?_; refine W_block ?_; refine W_seq ?_; refine W_seq ?_; refine W_join (fun _ _ h => h) hF (fun v61 => [(0, cL 8 t_api_Slice p0), (3, cI a40), (33, cB v61)]) (fun v61 => []) ?_ ?_
   · rintro v61 hF
     refine wIf hF rfl (fun _ hF => ?_) fun _ hF => ?_
     · refine wA rfl ?_; have hF := fin_0 _ (oi hF); cases hF
       exact W_ret wR
     refine W_skip ?_; refine wC 2 rfl ?_; obtain ⟨y62, hy62, hF⟩ := bB hF
     refine rS (T_ixT (tc := t_api_Slice) p0 rfl rfl hy62 ?_); refine Q_run SV 2 rfl ?_; obtain ⟨r63, hr63, hF⟩ := bB hF
     refine rS (T_call (tracebookref06_Name_fun _ _ hr63) ⟨rfl, trivial⟩ rfl (.inl rfl) ?_); refine QV rfl ?_; refine W_seq ?_; refine wA rfl ?_; refine wIf hF rfl (fun _ hF => ?_) fun _ hF => ?_
     · refine wA rfl ?_; have hF := fin_0 _ (oi hF); cases hF
       exact W_ret wR
     refine W_skip ?_; refine W_seq ?_; refine W_join (fun _ _ h => h) hF (fun v64 => [(0, cL 8 t_api_Slice p0), (3, cI a40), (56, cB v64)]) (fun v64 => []) ?_ ?_
     · rintro v64 hF
       refine wIf hF rfl (fun _ hF => ?_) fun _ hF => ?_
       · refine wA rfl ?_; have hF := fin_0 _ (oi hF); cases hF
         exact W_ret wR
       refine W_skip ?_; refine wB rfl ?_; exact cont_0 _ _ _ (oi hF) sw
     intro join hF
     refine W_regD (by decide) (by kernel_rfl) rfl ?_; refine Q_run SP 3 rfl ?_; cases h66 : (decide (0 < a40))
     · have hF := bF' h66 hF; refine QP rfl ?_; exact join false _ _ hF sw
     have hF := bT' h66 hF; refine Q_run SP 2 rfl ?_; obtain ⟨y67, hy67, hF⟩ := bB' hF
     refine R_step SP rfl (T_ixT (tc := t_api_Slice) p0 rfl rfl hy67 ?_); refine Q_run SP 4 rfl ?_; obtain ⟨y68, hy68, hF⟩ := bB' hF
     refine R_step SP rfl (T_ixT (tc := t_api_Slice) p0 rfl rfl hy68 ?_); refine Q_run SP 1 rfl ?_; obtain ⟨r69, hr69, hF⟩ := bB' hF
     refine R_step SP rfl (T_call (tracebookref26_Precedes_fun _ _ _ hr69) ⟨⟨rfl, rfl, rfl, rfl, rfl, rfl, rfl, rfl, trivial⟩, ⟨rfl, rfl, rfl, rfl, rfl, rfl, rfl, rfl, trivial⟩, trivial⟩ rfl (.inl rfl) ?_)
     refine QP rfl ?_; exact join r69 _ _ hF sw
   intro join hF
   refine wD 2 rfl ?_; obtain ⟨y72, hy72, hF⟩ := bB' hF
   refine rS (T_ixT (tc := t_api_Slice) p0 rfl rfl hy72 ?_); refine Q_run SV 4 rfl ?_; cases h73 : (decide (y72.fThread < 0))
   · have hF := bF' h73 hF; refine Q_run SV 2 rfl ?_; obtain ⟨y74, hy74, hF⟩ := bB' hF
     refine R_step SV rfl (T_ixT (tc := t_api_Slice) p0 rfl rfl hy74 ?_); refine Q_run SV 5 rfl ?_; cases h75 : (decide (1000000000000000 < y74.fThread))
     · have hF := bF' h75 hF; refine Q_run SV 2 rfl ?_; obtain ⟨y76, hy76, hF⟩ := bB' hF
       refine R_step SV rfl (T_ixT (tc := t_api_Slice) p0 rfl rfl hy76 ?_); refine Q_run SV 2 rfl ?_; obtain ⟨r77, hr77, hF⟩ := bB' hF
       refine R_step SV rfl (T_call (tracebookref04_Valid_fun _ _ hr77) ⟨⟨rfl, rfl, trivial⟩, trivial⟩ rfl (.inl rfl) ?_); refine QV rfl ?_; exact join (!r77) _ _ hF sw
     have hF := bT' h75 hF; refine QV rfl ?_; exact join true _ _ hF sw
   have hF := bT' h73 hF; refine QV rfl ?_; exact join true _ _ hF sw
 refine W_exit ?_; refine thenQ_exit ?_; refine thenQ_exit ?_; refine blockQ_hit ?_; exact brk_0 _ _ _ (oi hF) sw
def tracebooklaw26_lives : Option Bool := some true
theorem tracebooklaw26_lives_fun (r : Bool) (hF : tracebooklaw26_lives = some r) : Fun Try.prog 10 true [] [] noHeap (cB r) noHeap := by
 cases hF
 exact Go.RM.lives26 true
def slices_Reverse_string_string_k1_L1  : ((List ByteArray) × Int × Int) → Option (((List ByteArray) × Int × Int) ⊕ (List ByteArray)) := fun (a20, a21, a22) =>
  (bif (decide (a21 < a22)) then ((idx a20 a22).bind fun y23 => ((idx a20 a21).bind fun y24 => ((idx a20 a21).bind fun y25 => ((idx (List.set a20 (Int.toNat a21) y23) a22).bind fun y26 => some (.inl ((List.set (List.set a20 (Int.toNat a21) y23) (Int.toNat a22) y24), (w64 (a21 + 1)), (w64 (a22 - 1)))))))) else some (.inr a20))
def slices_Reverse_string_string_k1 (p0 : (List ByteArray)) : Option (List ByteArray) :=
  (loop (slices_Reverse_string_string_k1_L1) (p0, 0, (w64 ((List.length p0 : Int) - 1))))
theorem slices_Reverse_string_string_k1_fun (p0 : (List ByteArray)) (r : (List ByteArray)) (hF : slices_Reverse_string_string_k1 p0 = some r) : Fun Try.prog 47 false [(2880,0)] [cO (2880,0)] (heapOf [((2880,0), .arr 9 1 (List.map t_str p0))]) (.tup []) (heapOf [((2880,0), .arr 9 1 (List.map t_str r))]) := by
 refine Fun.of_walkM [(2880,0)] (some [(2880,0)]) Try.func47 c47 (by kernel_rfl) (rs := []) (by kernel_rfl) rfl rfl rfl ?_; unfold v47
 unfold slices_Reverse_string_string_k1 at hF
 refine wC 1 rfl ?_; refine rS (T_len (tc := t_str) p0 (.own _ _ rfl) ?_); refine QV rfl ?_; refine W_for0 hF (fun (a20, a21, a22) => [(0, cO (2880,0)), (2, cI a21), (3, cI a22)]) (fun (a20, a21, a22) => [((2880,0), .arr 9 1 (List.map t_str a20))]) sw ?_
 rintro ⟨a20, a21, a22⟩ x_0 hF cont_0 fin_0
 unfold slices_Reverse_string_string_k1_L1 at hF
 refine W_seq ?_; refine wA rfl ?_; refine wIf hF rfl (fun _ hF => ?_) fun _ hF => ?_
 · refine W_skip ?_; refine W_seq ?_; refine W_block ?_; refine W_regD (by decide) (by kernel_rfl) rfl ?_; refine Q_run SP 6 rfl ?_; obtain ⟨y23, hy23, hF⟩ := bB hF
   refine R_step SP trivial (T_ixO (tc := t_str) a20 rfl rfl rfl hy23 ?_); refine R_step SP trivial (T_ldE (tc := t_str) a20 rfl rfl (idx_get hy23).2.1 rfl ?_); refine Q_run SP 2 rfl ?_; obtain ⟨y24, hy24, hF⟩ := bB hF
   refine R_step SP trivial (T_ixO (tc := t_str) a20 rfl rfl rfl hy24 ?_); refine R_step SP trivial (T_ldE (tc := t_str) a20 rfl rfl (idx_get hy24).2.1 rfl ?_); obtain ⟨y25, hy25, hF⟩ := bB hF
   refine R_step SP trivial (T_ixO (tc := t_str) a20 rfl rfl rfl hy25 ?_); refine R_step SP trivial (T_stE (tc := t_str) a20 y23 rfl rfl (idx_get hy25).2.1 rfl rfl rfl rfl rfl ?_); obtain ⟨y26, hy26, hF⟩ := bB hF
   refine R_step SP trivial (T_ixO (tc := t_str) (List.set a20 (Int.toNat a21) y23) rfl rfl rfl hy26 ?_); refine R_step SP trivial (T_stE (tc := t_str) (List.set a20 (Int.toNat a21) y23) y24 rfl rfl (idx_get hy26).2.1 rfl rfl rfl rfl rfl ?_)
   refine QP rfl ?_; refine wB rfl ?_; exact cont_0 _ _ _ (oi hF) sw
 refine W_exit ?_; refine thenQ_exit ?_; refine thenQ_exit ?_; refine blockQ_hit ?_; have hF := fin_0 _ (oi hF); cases hF
 exact ⟨_, _, S_refl, _, rfl, rfl, trivial, (AgM.weak ⟨rfl, trivial⟩)⟩
def slice_Path_L1 (p0 : (List api_Slice)) : (Int × (List ByteArray) × Int) → Option ((Int × (List ByteArray) × Int) ⊕ (List ByteArray)) := fun (a25, a26, a27) =>
  (((bif (decide (0 ≤ a25)) then (bif (decide (a25 < (List.length p0 : Int))) then some (decide (a27 ≤ (List.length p0 : Int))) else some false) else some false) : Option Bool).bind fun v37 => (bif v37 then ((idx p0 a25).bind fun y38 => (bif room 16 (List.length a26 + List.length [y38.fName]) then ((idx p0 a25).bind fun y40 => some (.inl (y40.fParent, (a26 ++ [y38.fName]), (w64 (a27 + 1))))) else none)) else some (.inr a26)))
def slice_Path (p0 : (List api_Slice)) (p1 : Int) : Option (List ByteArray) :=
  (((bif (decide (p1 < 0)) then some true else some (decide ((List.length p0 : Int) ≤ p1))) : Option Bool).bind fun v1 => (bif v1 then some [] else ((loop (slice_Path_L1 p0) (p1, [], 0)).bind fun e35 => ((slices_Reverse_string_string_k1 e35).bind fun r36 => some r36))))
theorem slice_Path_fun (p0 : (List api_Slice)) (p1 : Int) (r : (List ByteArray)) (hF : slice_Path p0 p1 = some r) : Fun Try.prog 17 false [] [cL 8 t_api_Slice p0, cI p1] (heapOf []) (cO (902,680)) (heapOf [((902,680), .arr 9 1 (List.map t_str r))]) := by
 refine Fun.of_walkM [] (some []) Try.func17 c17 (by kernel_rfl) (rs := [.tmp 4]) (by kernel_rfl) rfl rfl rfl ?_; unfold v17
 unfold slice_Path at hF
 refine wA rfl ?_; refine W_seq ?_; refine W_seq ?_; refine W_join (fun _ _ h => h) hF (fun v1 => [(0, cL 8 t_api_Slice p0), (1, cI p1), (14, cB v1)]) (fun v1 => []) ?_ ?_
 · rintro v1 hF
   refine wIf hF rfl (fun _ hF => ?_) fun _ hF => ?_
   · refine wA rfl ?_; cases hF
     exact W_ret ⟨_, _, (S_own 4 (902,680) 9 1 rfl rfl rfl rfl S_refl), _, rfl, rfl, rfl, (AgM.weak ⟨rfl, trivial⟩)⟩
   refine W_skip ?_; refine wA rfl ?_; refine W_seq ?_; refine wA rfl ?_; refine W_for (fun _ _ h => h) hF (id) (fun (a25, a26, a27) => [(0, cL 8 t_api_Slice p0), (1, cI a25), (5, cO (38,1)), (6, cI a27)]) (fun (a25, a26, a27) => [((38,1), .arr 9 1 (List.map t_str a26))]) (fun e35 => [(5, cO (38,1))]) (fun e35 => [((38,1), .arr 9 1 (List.map t_str e35))]) (S_own 5 (38,1) 9 1 rfl rfl rfl rfl sw) ?_ ?_
   · rintro e35 hF
     refine wC 1 rfl ?_; obtain ⟨r36, hr36, hF⟩ := bB hF
     refine R_stepX trivial (X_callG [((2880,0),(38,1))] rfl (callN _) (slices_Reverse_string_string_k1_fun _ _ hr36) ⟨rfl, trivial⟩ ⟨.inl rfl, trivial⟩ rfl rfl rfl ?_); refine QV rfl ?_; refine wA rfl ?_; cases hF
     exact W_ret ⟨_, _, (S_ren (38,1) (902,680) rfl rfl S_refl), _, rfl, rfl, rfl, (AgM.weak ⟨rfl, trivial⟩)⟩
   rintro ⟨a25, a26, a27⟩ x_0 hF cont_0 brk_0 fin_0
   unfold slice_Path_L1 at hF
   refine W_seq ?_; refine W_seq ?_; refine W_join (fun _ _ h => h) hF (fun v37 => [(0, cL 8 t_api_Slice p0), (1, cI a25), (5, cO (38,1)), (6, cI a27), (28, cB v37)]) (fun v37 => [((38,1), .arr 9 1 (List.map t_str a26))]) ?_ ?_
   · rintro v37 hF
     refine wIf hF rfl (fun _ hF => ?_) fun _ hF => ?_
     · refine W_skip ?_; refine W_seq ?_; refine W_block ?_; refine wC 3 rfl ?_; obtain ⟨y38, hy38, hF⟩ := bB hF
       refine rS (T_ixT (tc := t_api_Slice) p0 rfl rfl hy38 ?_); refine Q_run SV 2 rfl ?_; refine rS (T_bsl (tc := t_str) [y38.fName] rfl ⟨rfl, trivial⟩ rfl (fun _ => rfl) rfl ?_)
       obtain ⟨h39, hF⟩ := roomT hF
       refine rS (T_appO (tc := t_str) a26 [y38.fName] rfl rfl (.own _ _ rfl) h39 rfl ?_); refine QV rfl ?_; refine wD 2 rfl ?_; obtain ⟨y40, hy40, hF⟩ := bB hF
       refine rS (T_ixT (tc := t_api_Slice) p0 rfl rfl hy40 ?_); refine QV rfl ?_; refine wB rfl ?_; exact cont_0 _ _ _ (oi hF) (S_ren (38,0) (38,1) rfl rfl sw)
     refine W_exit ?_; refine thenQ_exit ?_; refine thenQ_exit ?_; refine blockQ_hit ?_; exact brk_0 _ _ _ (oi hF) sw
   intro join hF
   refine wD 3 rfl ?_; cases h42 : (decide (0 ≤ a25))
   · have hF := bF' h42 hF; refine QV rfl ?_; exact join false _ _ hF sw
   have hF := bT' h42 hF; refine Q_run SV 2 rfl ?_; refine R_step SV rfl (T_len (tc := t_api_Slice) p0 .tree ?_); refine Q_run SV 3 rfl ?_; cases h43 : (decide (a25 < (List.length p0 : Int)))
   · have hF := bF' h43 hF; refine QV rfl ?_; exact join false _ _ hF sw
   have hF := bT' h43 hF; refine Q_run SV 2 rfl ?_; refine R_step SV rfl (T_len (tc := t_api_Slice) p0 .tree ?_); refine QV rfl ?_; exact join (decide (a27 ≤ (List.length p0 : Int))) _ _ hF sw
 intro join hF
 refine wD 3 rfl ?_; cases h45 : (decide (p1 < 0))
 · have hF := bF' h45 hF; refine Q_run SV 2 rfl ?_; refine R_step SV rfl (T_len (tc := t_api_Slice) p0 .tree ?_); refine QV rfl ?_; exact join (decide ((List.length p0 : Int) ≤ p1)) _ _ hF sw
 have hF := bT' h45 hF; refine QV rfl ?_; exact join true _ _ hF sw
def tracebookref26_Path_n : Nat → (List api_Slice) → Int → Option (List ByteArray)
  | 0, _, _ => none
  | n + 1, l, i => if i < 0 ∨ (l.length : Int) ≤ i then some [] else match l[i.toNat]? with
    | some y => (tracebookref26_Path_n n l y.fParent).map fun p => p ++ [y.fName]
    | none => none
def tracebookref26_Path (p0 : (List api_Slice)) (p1 : Int) : Option (List ByteArray) := tracebookref26_Path_n 1000 p0 p1
theorem tracebookref26_Path_q (l : List api_Slice) : ∀ (n : Nat) (i : Int) (r : List ByteArray), tracebookref26_Path_n n l i = some r → Go.RM.PathQ (l.map fun y => (y.fParent, y.fName)) i r ∧ r.length ≤ n
  | 0, i, r, h => by simp [tracebookref26_Path_n] at h
  | n + 1, i, r, h => by
    unfold tracebookref26_Path_n at h
    by_cases e : i < 0 ∨ (l.length : Int) ≤ i
    · rw [if_pos e] at h
      cases h
      exact ⟨.out (by rw [List.length_map]; exact e), Nat.zero_le _⟩
    · rw [if_neg e] at h
      split at h
      · rename_i y hy
        obtain ⟨p, hp, rfl⟩ := Option.map_eq_some_iff.1 h
        obtain ⟨h1, h2⟩ := tracebookref26_Path_q l n y.fParent p hp
        have hi : i = ((i.toNat : Nat) : Int) := by omega
        rw [hi]
        exact ⟨.up (by rw [List.getElem?_map, hy]; rfl) h1, by rw [List.length_append]; simp only [List.length_cons, List.length_nil]; omega⟩
      · simp at h
theorem tracebookref26_Path_rows (p0 : (List api_Slice)) : Go.RM.RowOk (List.map t_api_Slice p0) (p0.map fun y => (y.fParent, y.fName)) := by
 refine ⟨by rw [List.length_map, List.length_map], fun j a s hj => ?_⟩
 rw [List.getElem?_map] at hj; obtain ⟨y, hy, e⟩ := Option.map_eq_some_iff.1 hj
 cases e
 exact ⟨_, _, _, by rw [List.getElem?_map, hy]; rfl⟩
theorem tracebookref26_Path_fun (p0 : (List api_Slice)) (p1 : Int) (r : (List ByteArray)) (hF : tracebookref26_Path p0 p1 = some r) : Fun Try.prog 18 true [] [cL 8 t_api_Slice p0, cI p1] noHeap (cL 1 t_str r) noHeap := by
 obtain ⟨h1, h2⟩ := tracebookref26_Path_q p0 1000 p1 r hF
 exact Go.RM.path_fun (tracebookref26_Path_rows p0) h1 (by omega)
def slice_Children_L1 (p0 : (List api_Slice)) (p1 : Int) : ((List Int) × Int) → Option (((List Int) × Int) ⊕ (List Int)) := fun (a23, a24) =>
  (bif (decide (a24 < (List.length p0 : Int))) then ((((idx p0 a24).bind fun y35 => (((bif (decide (0 ≤ p1)) then (bif (decide (p1 < (List.length p0 : Int))) then some (decide (y35.fParent = p1)) else some false) else some false) : Option Bool).bind fun v36 => (bif v36 then (bif room 8 (List.length a23 + List.length [a24]) then some (a23 ++ [a24]) else none) else some a23))) : Option (List Int)).bind fun v34 => some (.inl (v34, (w64 (a24 + 1))))) else some (.inr a23))
def slice_Children (p0 : (List api_Slice)) (p1 : Int) : Option (List Int) :=
  ((loop (slice_Children_L1 p0 p1) ([], 0)).bind fun e33 => some e33)
theorem slice_Children_fun (p0 : (List api_Slice)) (p1 : Int) (r : (List Int)) (hF : slice_Children p0 p1 = some r) : Fun Try.prog 19 false [] [cL 8 t_api_Slice p0, cI p1] (heapOf []) (cO (902,760)) (heapOf [((902,760), .arr 3 1 (List.map t_i64 r))]) := by
 refine Fun.of_walkM [] (some []) Try.func19 c19 (by kernel_rfl) (rs := [.tmp 4]) (by kernel_rfl) rfl rfl rfl ?_; unfold v19
 unfold slice_Children at hF
 refine wA rfl ?_; refine wA rfl ?_; refine W_seq ?_; refine wC 1 rfl ?_; refine rS (T_len (tc := t_api_Slice) p0 .tree ?_); refine QV rfl ?_; refine W_for (fun _ _ h => h) hF (id) (fun (a23, a24) => [(0, cL 8 t_api_Slice p0), (1, cI p1), (5, cO (32,1)), (8, cL 8 t_api_Slice p0), (9, cI (List.length p0 : Int)), (10, cI a24)]) (fun (a23, a24) => [((32,1), .arr 3 1 (List.map t_i64 a23))]) (fun e33 => [(5, cO (32,1))]) (fun e33 => [((32,1), .arr 3 1 (List.map t_i64 e33))]) (S_own 5 (32,1) 3 1 rfl rfl rfl rfl sw) ?_ ?_
 · rintro e33 hF
   refine wA rfl ?_; cases hF
   exact W_ret ⟨_, _, (S_ren (32,1) (902,760) rfl rfl S_refl), _, rfl, rfl, rfl, (AgM.weak ⟨rfl, trivial⟩)⟩
 rintro ⟨a23, a24⟩ x_0 hF cont_0 brk_0 fin_0
 unfold slice_Children_L1 at hF
 refine wA rfl ?_; refine W_seq ?_; refine wIf hF rfl (fun _ hF => ?_) fun _ hF => ?_
 · refine W_skip ?_; refine W_seq ?_; refine W_join (fun _ _ h => h) hF (fun v34 => [(0, cL 8 t_api_Slice p0), (1, cI p1), (5, cO (32,1)), (8, cL 8 t_api_Slice p0), (9, cI (List.length p0 : Int)), (10, cI a24)]) (fun v34 => [((32,1), .arr 3 1 (List.map t_i64 v34))]) ?_ ?_
   · rintro v34 hF
     refine wB rfl ?_; exact cont_0 _ _ _ (oi hF) sw
   intro join hF
   refine W_block ?_; refine wC 1 rfl ?_; obtain ⟨y35, hy35, hF⟩ := bB' hF
   refine rS (T_ixT (tc := t_api_Slice) p0 rfl rfl hy35 ?_); refine QV rfl ?_; refine W_seq ?_; have hF := bA hF; refine W_join (fun _ _ h => h) hF (fun v36 => [(0, cL 8 t_api_Slice p0), (1, cI p1), (5, cO (32,1)), (6, cI a24), (8, cL 8 t_api_Slice p0), (9, cI (List.length p0 : Int)), (10, cI a24), (28, cB v36)]) (fun v36 => [((32,1), .arr 3 1 (List.map t_i64 a23))]) ?_ ?_
   · rintro v36 hF
     refine wIf' hF rfl (fun _ hF => ?_) fun _ hF => ?_
     · refine wD 2 rfl ?_; refine rS (T_bsl (tc := t_i64) [a24] rfl ⟨rfl, trivial⟩ rfl (fun _ => rfl) rfl ?_)
       obtain ⟨h37, hF⟩ := roomT' hF
       refine rS (T_appO (tc := t_i64) a23 [a24] rfl rfl (.own _ _ rfl) h37 rfl ?_); refine QV rfl ?_; exact join (a23 ++ [a24]) _ _ hF (S_ren (32,0) (32,1) rfl rfl sw)
     refine W_skip ?_; exact join a23 _ _ hF sw
   intro join hF
   refine wD 3 rfl ?_; cases h39 : (decide (0 ≤ p1))
   · have hF := bF' h39 hF; refine QV rfl ?_; exact join false _ _ hF sw
   have hF := bT' h39 hF; refine Q_run SV 2 rfl ?_; refine R_step SV rfl (T_len (tc := t_api_Slice) p0 .tree ?_); refine Q_run SV 3 rfl ?_; cases h40 : (decide (p1 < (List.length p0 : Int)))
   · have hF := bF' h40 hF; refine QV rfl ?_; exact join false _ _ hF sw
   have hF := bT' h40 hF; refine QV rfl ?_; exact join (decide (y35.fParent = p1)) _ _ hF sw
 refine W_exit ?_; refine thenQ_exit ?_; refine thenQ_exit ?_; refine blockQ_hit ?_; exact brk_0 _ _ _ (oi hF) sw
def tracebookref26_Children_L1 (p0 : (List api_Slice)) (p1 : Int) : ((List Int) × Int) → Option (((List Int) × Int) ⊕ (List Int)) := fun (a21, a22) =>
  (((bif (decide (a22 < (List.length p0 : Int))) then some (decide (0 ≤ p1)) else some false) : Option Bool).bind fun v31 => (bif v31 then ((((idx p0 a22).bind fun y33 => (bif (decide (y33.fParent = p1)) then (bif room 8 (List.length a21 + List.length [a22]) then some (a21 ++ [a22]) else none) else some a21)) : Option (List Int)).bind fun v32 => some (.inl (v32, (w64 (a22 + 1))))) else some (.inr a21)))
def tracebookref26_Children (p0 : (List api_Slice)) (p1 : Int) : Option (List Int) :=
  ((loop (tracebookref26_Children_L1 p0 p1) ([], 0)).bind fun e30 => some e30)
theorem tracebookref26_Children_fun (p0 : (List api_Slice)) (p1 : Int) (r : (List Int)) (hF : tracebookref26_Children p0 p1 = some r) : Fun Try.prog 20 false [] [cL 8 t_api_Slice p0, cI p1] (heapOf []) (cO (902,800)) (heapOf [((902,800), .arr 3 1 (List.map t_i64 r))]) := by
 refine Fun.of_walkM [] (some []) Try.func20 c20 (by kernel_rfl) (rs := [.tmp 4]) (by kernel_rfl) rfl rfl rfl ?_; unfold v20
 unfold tracebookref26_Children at hF
 refine wA rfl ?_; refine wA rfl ?_; refine W_seq ?_; refine wA rfl ?_; refine W_for (fun _ _ h => h) hF (id) (fun (a21, a22) => [(0, cL 8 t_api_Slice p0), (1, cI p1), (5, cO (27,1)), (6, cI a22)]) (fun (a21, a22) => [((27,1), .arr 3 1 (List.map t_i64 a21))]) (fun e30 => [(5, cO (27,1))]) (fun e30 => [((27,1), .arr 3 1 (List.map t_i64 e30))]) (S_own 5 (27,1) 3 1 rfl rfl rfl rfl sw) ?_ ?_
 · rintro e30 hF
   refine wA rfl ?_; cases hF
   exact W_ret ⟨_, _, (S_ren (27,1) (902,800) rfl rfl S_refl), _, rfl, rfl, rfl, (AgM.weak ⟨rfl, trivial⟩)⟩
 rintro ⟨a21, a22⟩ x_0 hF cont_0 brk_0 fin_0
 unfold tracebookref26_Children_L1 at hF
 refine W_seq ?_; refine W_seq ?_; refine W_join (fun _ _ h => h) hF (fun v31 => [(0, cL 8 t_api_Slice p0), (1, cI p1), (5, cO (27,1)), (6, cI a22), (14, cB v31)]) (fun v31 => [((27,1), .arr 3 1 (List.map t_i64 a21))]) ?_ ?_
 · rintro v31 hF
   refine wIf hF rfl (fun _ hF => ?_) fun _ hF => ?_
   · refine W_skip ?_; refine W_seq ?_; refine W_join (fun _ _ h => h) hF (fun v32 => [(0, cL 8 t_api_Slice p0), (1, cI p1), (5, cO (27,1)), (6, cI a22)]) (fun v32 => [((27,1), .arr 3 1 (List.map t_i64 v32))]) ?_ ?_
     · rintro v32 hF
       refine wB rfl ?_; exact cont_0 _ _ _ (oi hF) sw
     intro join hF
     refine W_block ?_; refine wC 2 rfl ?_; obtain ⟨y33, hy33, hF⟩ := bB' hF
     refine rS (T_ixT (tc := t_api_Slice) p0 rfl rfl hy33 ?_); refine QV rfl ?_; refine wIf' hF rfl (fun _ hF => ?_) fun _ hF => ?_
     · refine wD 2 rfl ?_; refine rS (T_bsl (tc := t_i64) [a22] rfl ⟨rfl, trivial⟩ rfl (fun _ => rfl) rfl ?_)
       obtain ⟨h34, hF⟩ := roomT' hF
       refine rS (T_appO (tc := t_i64) a21 [a22] rfl rfl (.own _ _ rfl) h34 rfl ?_); refine QV rfl ?_; exact join (a21 ++ [a22]) _ _ hF (S_ren (27,0) (27,1) rfl rfl sw)
     refine W_skip ?_; exact join a21 _ _ hF sw
   refine W_exit ?_; refine thenQ_exit ?_; refine thenQ_exit ?_; refine blockQ_hit ?_; exact brk_0 _ _ _ (oi hF) sw
 intro join hF
 refine wD 2 rfl ?_; refine rS (T_len (tc := t_api_Slice) p0 .tree ?_); refine Q_run SV 2 rfl ?_; cases h37 : (decide (a22 < (List.length p0 : Int)))
 · have hF := bF' h37 hF; refine QV rfl ?_; exact join false _ _ hF sw
 have hF := bT' h37 hF; refine QV rfl ?_; exact join (decide (0 ≤ p1)) _ _ hF sw
def spans_Valid (p0 : api_Span) : Option Bool :=
  (((bif (decide (0 ≤ p0.fFrom)) then (bif (decide (p0.fFrom < p0.fTo)) then some (decide (p0.fTo ≤ 1000000000000)) else some false) else some false) : Option Bool).bind fun v1 => some v1)
theorem spans_Valid_fun (p0 : api_Span) (r : Bool) (hF : spans_Valid p0 = some r) : Fun Try.prog 39 true [] [.agg [jI p0.fFrom, jI p0.fTo]] noHeap (cB r) noHeap := by
 refine Fun.of_walk0 Try.func39 c39 (by kernel_rfl) (rs := [.tmp 2]) (by kernel_rfl) ?_; unfold v39
 unfold spans_Valid at hF
 refine wA rfl ?_; refine W_seq ?_; refine W_join (fun _ _ h => h) hF (fun v1 => [(2, cB v1)]) (fun v1 => []) ?_ ?_
 · rintro v1 hF
   cases hF
   exact W_ret wR
 intro join hF
 refine wD 4 rfl ?_; cases h2 : (decide (0 ≤ p0.fFrom))
 · have hF := bF' h2 hF; refine QV rfl ?_; exact join false _ _ hF sw
 have hF := bT' h2 hF; refine Q_run SV 7 rfl ?_; cases h3 : (decide (p0.fFrom < p0.fTo))
 · have hF := bF' h3 hF; refine QV rfl ?_; exact join false _ _ hF sw
 have hF := bT' h3 hF; refine QV rfl ?_; exact join (decide (p0.fTo ≤ 1000000000000)) _ _ hF sw
instance : Inhabited api_Span := ⟨{ fFrom := 0, fTo := 0 }⟩
def slices_SortFunc_api_Span_api_Span_k1 (p0 : (List api_Span)) : Option (List api_Span) := bif decide (p0.length < 4611686018427387904) then some (sortBy (fun x : api_Span => x.fFrom) p0) else none
theorem slices_SortFunc_api_Span_api_Span_k1_fun (p0 : (List api_Span)) (r : (List api_Span)) (hF : slices_SortFunc_api_Span_api_Span_k1 p0 = some r) : Fun Try.prog 68 false [(3720,0)] [cO (3720,0), .c (.fn 69 [])] (heapOf [((3720,0), .arr 42 2 (List.map t_api_Span p0))]) (.tup []) (heapOf [((3720,0), .arr 42 2 (List.map t_api_Span r))]) := by
 obtain ⟨h, hF⟩ := roomT hF
 cases hF
 exact sortFn_fun (fun x : api_Span => x.fFrom) (fun x : api_Span => x.fTo) t_api_Span (fun _ => rfl) p0 (of_decide_eq_true h) (3720,0)
def spans_Normal_L1 (r28 : (List api_Span)) : ((List api_Span) × Int) → Option (((List api_Span) × Int) ⊕ (List api_Span)) := fun (a49, a50) =>
  (bif (decide (a50 < (List.length r28 : Int))) then ((((idx r28 a50).bind fun y63 => (((bif (decide (0 < (List.length a49 : Int))) then ((idx a49 (w64 ((List.length a49 : Int) - 1))).bind fun y70 => some (decide (y63.fFrom ≤ y70.fTo))) else some false) : Option Bool).bind fun v64 => (bif v64 then ((idx a49 (w64 ((List.length a49 : Int) - 1))).bind fun y65 => ((idx a49 (w64 ((List.length a49 : Int) - 1))).bind fun y66 => some (List.set a49 (Int.toNat (w64 ((List.length a49 : Int) - 1))) ({ fFrom := y66.fFrom, fTo := (max y65.fTo y63.fTo) } : api_Span)))) else (bif room 16 (List.length a49 + List.length [y63]) then some (a49 ++ [y63]) else none)))) : Option (List api_Span)).bind fun v62 => some (.inl (v62, (w64 (a50 + 1))))) else some (.inr a49))
def spans_Normal_L2 (p0 : (List api_Span)) : ((List api_Span) × Int) → Option (((List api_Span) × Int) ⊕ (List api_Span)) := fun (a19, a20) =>
  (bif (decide (a20 < (List.length p0 : Int))) then ((((idx p0 a20).bind fun y73 => ((spans_Valid y73).bind fun r74 => (bif r74 then (bif room 16 (List.length a19 + List.length [y73]) then some (a19 ++ [y73]) else none) else some a19))) : Option (List api_Span)).bind fun v72 => some (.inl (v72, (w64 (a20 + 1))))) else some (.inr a19))
def spans_Normal (p0 : (List api_Span)) : Option (List api_Span) :=
  ((loop (spans_Normal_L2 p0) ([], 0)).bind fun e27 => ((slices_SortFunc_api_Span_api_Span_k1 e27).bind fun r28 => ((loop (spans_Normal_L1 r28) ([], 0)).bind fun e61 => some e61)))
theorem spans_Normal_fun (p0 : (List api_Span)) (r : (List api_Span)) (hF : spans_Normal p0 = some r) : Fun Try.prog 48 false [] [cL 2 t_api_Span p0] (heapOf []) (cO (902,1920)) (heapOf [((902,1920), .arr 42 2 (List.map t_api_Span r))]) := by
 refine Fun.of_walkM [] (some []) Try.func48 c48 (by kernel_rfl) (rs := [.tmp 2]) (by kernel_rfl) rfl rfl rfl ?_; unfold v48
 unfold spans_Normal at hF
 refine wA rfl ?_; refine wA rfl ?_; refine W_seq ?_; refine wC 1 rfl ?_; refine rS (T_len (tc := t_api_Span) p0 .tree ?_); refine QV rfl ?_; refine W_for (fun _ _ h => h) hF (id) (fun (a19, a20) => [(3, cO (21,1)), (4, .c (.nilS)), (10, cL 2 t_api_Span p0), (11, cI (List.length p0 : Int)), (12, cI a20)]) (fun (a19, a20) => [((21,1), .arr 42 2 (List.map t_api_Span a19))]) (fun e27 => [(3, cO (21,1)), (4, .c (.nilS))]) (fun e27 => [((21,1), .arr 42 2 (List.map t_api_Span e27))]) (S_own 3 (21,1) 42 2 rfl rfl rfl rfl sw) ?_ ?_
 · rintro e27 hF
   refine wC 1 rfl ?_; obtain ⟨r28, hr28, hF⟩ := bB hF
   refine R_stepX trivial (X_callG [((3720,0),(21,1))] rfl (callN _) (slices_SortFunc_api_Span_api_Span_k1_fun _ _ hr28) ⟨rfl, trivial⟩ ⟨.inl rfl, .inl rfl, trivial⟩ rfl rfl rfl ?_); refine QV rfl ?_; refine W_seq ?_
   refine wC 1 rfl ?_; refine rS (T_len (tc := t_api_Span) r28 (.own _ _ rfl) ?_); refine QV rfl ?_; refine W_for (fun _ _ h => h) hF (id) (fun (a49, a50) => [(4, cO (63,1)), (25, cO (21,1)), (26, cI (List.length r28 : Int)), (27, cI a50)]) (fun (a49, a50) => [((63,1), .arr 42 2 (List.map t_api_Span a49)), ((21,1), .arr 42 2 (List.map t_api_Span r28))]) (fun e61 => [(4, cO (63,1))]) (fun e61 => [((63,1), .arr 42 2 (List.map t_api_Span e61))]) (S_own 4 (63,1) 42 2 rfl rfl rfl rfl sw) ?_ ?_
   · rintro e61 hF
     refine wA rfl ?_; cases hF
     exact W_ret ⟨_, _, (S_ren (63,1) (902,1920) rfl rfl S_refl), _, rfl, rfl, rfl, (AgM.weak ⟨rfl, trivial⟩)⟩
   rintro ⟨a49, a50⟩ x_0 hF cont_0 brk_0 fin_0
   unfold spans_Normal_L1 at hF
   refine wA rfl ?_; refine W_seq ?_; refine wIf hF rfl (fun _ hF => ?_) fun _ hF => ?_
   · refine W_skip ?_; refine W_seq ?_; refine W_join (fun _ _ h => h) hF (fun v62 => [(4, cO (63,1)), (25, cO (21,1)), (26, cI (List.length r28 : Int)), (27, cI a50)]) (fun v62 => [((63,1), .arr 42 2 (List.map t_api_Span v62)), ((21,1), .arr 42 2 (List.map t_api_Span r28))]) ?_ ?_
     · rintro v62 hF
       refine wB rfl ?_; exact cont_0 _ _ _ (oi hF) sw
     intro join hF
     refine W_block ?_; refine wE ?_; obtain ⟨y63, hy63, hF⟩ := bB' hF
     refine rS (T_ixO (tc := t_api_Span) r28 rfl rfl rfl hy63 ?_); refine rS (T_ldE (tc := t_api_Span) r28 rfl rfl (idx_get hy63).2.1 rfl ?_); refine QV rfl ?_; refine wC 1 rfl ?_; refine rS (T_len (tc := t_api_Span) a49 (.own _ _ rfl) ?_)
     refine QV rfl ?_; refine W_seq ?_; have hF := bA hF; refine W_join (fun _ _ h => h) hF (fun v64 => [(4, cO (63,1)), (8, cP (8,0) 0), (9, cI (List.length a49 : Int)), (25, cO (21,1)), (26, cI (List.length r28 : Int)), (27, cI a50), (45, cB v64)]) (fun v64 => [((63,1), .arr 42 2 (List.map t_api_Span a49)), ((8,0), .box [jI y63.fFrom, jI y63.fTo]), ((21,1), .arr 42 2 (List.map t_api_Span r28))]) ?_ ?_
     · rintro v64 hF
       refine wIf' hF rfl (fun _ hF => ?_) fun _ hF => ?_
       · refine W_regD (by decide) (by kernel_rfl) rfl ?_; refine Q_run SP 6 rfl ?_; obtain ⟨y65, hy65, hF⟩ := bB' hF
         refine R_step SP trivial (T_ixO (tc := t_api_Span) a49 rfl rfl rfl hy65 ?_); refine Q_run SP 1 rfl ?_; refine R_step SP trivial (T_ldE (tc := t_api_Span) a49 rfl rfl (idx_get hy65).2.1 rfl ?_); refine Q_run SP 3 rfl ?_
         obtain ⟨y66, hy66, hF⟩ := bB' hF
         refine R_step SP trivial (T_ixO (tc := t_api_Span) a49 rfl rfl rfl hy66 ?_); refine Q_run SP 1 rfl ?_; refine R_step SP trivial (T_stE (tc := t_api_Span) a49 ({ fFrom := y66.fFrom, fTo := (max y65.fTo y63.fTo) } : api_Span) rfl rfl (idx_get hy66).2.1 rfl rfl rfl rfl rfl ?_)
         refine QP rfl ?_; exact join (List.set a49 (Int.toNat (w64 ((List.length a49 : Int) - 1))) ({ fFrom := y66.fFrom, fTo := (max y65.fTo y63.fTo) } : api_Span)) _ _ hF sw
       refine wD 2 rfl ?_; refine rS (T_bsl (tc := t_api_Span) [y63] rfl ⟨rfl, rfl, trivial⟩ rfl (fun _ => rfl) rfl ?_)
       obtain ⟨h67, hF⟩ := roomT' hF
       refine rS (T_appO (tc := t_api_Span) a49 [y63] rfl rfl (.own _ _ rfl) h67 rfl ?_); refine QV rfl ?_; exact join (a49 ++ [y63]) _ _ hF (S_ren (63,0) (63,1) rfl rfl sw)
     intro join hF
     refine W_regD (by decide) (by kernel_rfl) rfl ?_; refine Q_run SP 3 rfl ?_; cases h69 : (decide (0 < (List.length a49 : Int)))
     · have hF := bF' h69 hF; refine QP rfl ?_; exact join false _ _ hF sw
     have hF := bT' h69 hF; refine Q_run SP 5 rfl ?_; obtain ⟨y70, hy70, hF⟩ := bB' hF
     refine R_step SP rfl (T_ixO (tc := t_api_Span) a49 rfl rfl rfl hy70 ?_); refine Q_run SP 1 rfl ?_; refine R_step SP rfl (T_ldE (tc := t_api_Span) a49 rfl rfl (idx_get hy70).2.1 rfl ?_); refine QP rfl ?_
     exact join (decide (y63.fFrom ≤ y70.fTo)) _ _ hF sw
   refine W_exit ?_; refine thenQ_exit ?_; refine thenQ_exit ?_; refine blockQ_hit ?_; exact brk_0 _ _ _ (oi hF) sw
 rintro ⟨a19, a20⟩ x_0 hF cont_0 brk_0 fin_0
 unfold spans_Normal_L2 at hF
 refine wA rfl ?_; refine W_seq ?_; refine wIf hF rfl (fun _ hF => ?_) fun _ hF => ?_
 · refine W_skip ?_; refine W_seq ?_; refine W_join (fun _ _ h => h) hF (fun v72 => [(3, cO (21,1)), (4, .c (.nilS)), (10, cL 2 t_api_Span p0), (11, cI (List.length p0 : Int)), (12, cI a20)]) (fun v72 => [((21,1), .arr 42 2 (List.map t_api_Span v72))]) ?_ ?_
   · rintro v72 hF
     refine wB rfl ?_; exact cont_0 _ _ _ (oi hF) sw
   intro join hF
   refine W_block ?_; refine wE ?_; obtain ⟨y73, hy73, hF⟩ := bB' hF
   refine rS (T_ixT (tc := t_api_Span) p0 rfl rfl hy73 ?_); refine QV rfl ?_; refine wC 1 rfl ?_; obtain ⟨r74, hr74, hF⟩ := bB' hF
   refine rS (T_call (spans_Valid_fun _ _ hr74) ⟨⟨rfl, rfl, trivial⟩, trivial⟩ rfl (.inl rfl) ?_); refine QV rfl ?_; refine wIf' hF rfl (fun _ hF => ?_) fun _ hF => ?_
   · refine wD 2 rfl ?_; refine rS (T_bsl (tc := t_api_Span) [y73] rfl ⟨rfl, rfl, trivial⟩ rfl (fun _ => rfl) rfl ?_)
     obtain ⟨h75, hF⟩ := roomT' hF
     refine rS (T_appO (tc := t_api_Span) a19 [y73] rfl rfl (.own _ _ rfl) h75 rfl ?_); refine QV rfl ?_; exact join (a19 ++ [y73]) _ _ hF (S_ren (21,0) (21,1) rfl rfl sw)
   refine W_skip ?_; exact join a19 _ _ hF sw
 refine W_exit ?_; refine thenQ_exit ?_; refine thenQ_exit ?_; refine blockQ_hit ?_; exact brk_0 _ _ _ (oi hF) sw
def slice_Busy_L1 (p0 : (List api_Slice)) (p1 : Int) : ((List api_Span) × Int) → Option (((List api_Span) × Int) ⊕ (List api_Span)) := fun (a17, a18) =>
  (bif (decide (a18 < (List.length p0 : Int))) then ((((idx p0 a18).bind fun y27 => (bif (decide (y27.fThread = p1)) then (bif room 16 (List.length a17 + List.length [y27.fSpan]) then some (a17 ++ [y27.fSpan]) else none) else some a17)) : Option (List api_Span)).bind fun v26 => some (.inl (v26, (w64 (a18 + 1))))) else some (.inr a17))
def slice_Busy (p0 : (List api_Slice)) (p1 : Int) : Option (List api_Span) :=
  ((loop (slice_Busy_L1 p0 p1) ([], 0)).bind fun e24 => ((spans_Normal e24).bind fun r25 => some r25))
theorem slice_Busy_fun (p0 : (List api_Slice)) (p1 : Int) (r : (List api_Span)) (hF : slice_Busy p0 p1 = some r) : Fun Try.prog 21 false [] [cL 8 t_api_Slice p0, cI p1] (heapOf []) (cO (902,840)) (heapOf [((902,840), .arr 42 2 (List.map t_api_Span r))]) := by
 refine Fun.of_walkM [] (some []) Try.func21 c21 (by kernel_rfl) (rs := [.tmp 4]) (by kernel_rfl) rfl rfl rfl ?_; unfold v21
 unfold slice_Busy at hF
 refine wA rfl ?_; refine wA rfl ?_; refine W_seq ?_; refine wC 1 rfl ?_; refine rS (T_len (tc := t_api_Slice) p0 .tree ?_); refine QV rfl ?_; refine W_for (fun _ _ h => h) hF (id) (fun (a17, a18) => [(1, cI p1), (5, cO (22,1)), (8, cL 8 t_api_Slice p0), (9, cI (List.length p0 : Int)), (10, cI a18)]) (fun (a17, a18) => [((22,1), .arr 42 2 (List.map t_api_Span a17))]) (fun e24 => [(5, cO (22,1))]) (fun e24 => [((22,1), .arr 42 2 (List.map t_api_Span e24))]) (S_own 5 (22,1) 42 2 rfl rfl rfl rfl sw) ?_ ?_
 · rintro e24 hF
   refine wC 1 rfl ?_; obtain ⟨r25, hr25, hF⟩ := bB hF
   refine R_stepX trivial (X_callL [((902,1920),(25,1))] rfl (callN _) (spans_Normal_fun _ _ hr25) trivial ⟨.inr ⟨_, rfl⟩, trivial⟩ rfl rfl rfl rfl ⟨(flatArr fun _ => rfl), trivial⟩ ?_)
   refine QV rfl ?_; cases hF
   exact W_ret ⟨_, _, (S_ren (25,1) (902,840) rfl rfl S_refl), _, rfl, rfl, rfl, (AgM.weak ⟨rfl, trivial⟩)⟩
 rintro ⟨a17, a18⟩ x_0 hF cont_0 brk_0 fin_0
 unfold slice_Busy_L1 at hF
 refine wA rfl ?_; refine W_seq ?_; refine wIf hF rfl (fun _ hF => ?_) fun _ hF => ?_
 · refine W_skip ?_; refine W_seq ?_; refine W_join (fun _ _ h => h) hF (fun v26 => [(1, cI p1), (5, cO (22,1)), (8, cL 8 t_api_Slice p0), (9, cI (List.length p0 : Int)), (10, cI a18)]) (fun v26 => [((22,1), .arr 42 2 (List.map t_api_Span v26))]) ?_ ?_
   · rintro v26 hF
     refine wB rfl ?_; exact cont_0 _ _ _ (oi hF) sw
   intro join hF
   refine W_block ?_; refine wE ?_; obtain ⟨y27, hy27, hF⟩ := bB' hF
   refine rS (T_ixT (tc := t_api_Slice) p0 rfl rfl hy27 ?_); refine QV rfl ?_; refine wA rfl ?_; refine wIf' hF rfl (fun _ hF => ?_) fun _ hF => ?_
   · refine wD 3 rfl ?_; refine rS (T_bsl (tc := t_api_Span) [y27.fSpan] rfl ⟨rfl, rfl, trivial⟩ rfl (fun _ => rfl) rfl ?_)
     obtain ⟨h28, hF⟩ := roomT' hF
     refine rS (T_appO (tc := t_api_Span) a17 [y27.fSpan] rfl rfl (.own _ _ rfl) h28 rfl ?_); refine QV rfl ?_; exact join (a17 ++ [y27.fSpan]) _ _ hF (S_ren (22,0) (22,1) rfl rfl sw)
   refine W_skip ?_; exact join a17 _ _ hF sw
 refine W_exit ?_; refine thenQ_exit ?_; refine thenQ_exit ?_; refine blockQ_hit ?_; exact brk_0 _ _ _ (oi hF) sw
def tracebookref04_put_k2_L1 (p0 : (List Int)) (p1 : Int) : ((List Int) × Bool × Int) → Option (((List Int) × Bool × Int) ⊕ ((List Int) × Bool)) := fun (a39, a40, a41) =>
  (bif (decide (a41 < (List.length p0 : Int))) then (((((bif (!a40) then ((idx p0 a41).bind fun y73 => some (decide (p1 ≤ y73))) else some false) : Option Bool).bind fun v63 => (((bif v63 then (bif room 8 (List.length a39 + List.length [p1]) then some ((a39 ++ [p1]), true) else none) else some (a39, a40)) : Option ((List Int) × Bool)).bind fun (v64, v65) => ((idx p0 a41).bind fun y66 => (bif (!decide (y66 = p1)) then ((idx p0 a41).bind fun y67 => (bif room 8 (List.length v64 + List.length [y67]) then some ((v64 ++ [y67]), v65) else none)) else some (v64, v65))))) : Option ((List Int) × Bool)).bind fun (v61, v62) => some (.inl (v61, v62, (w64 (a41 + 1))))) else some (.inr (a39, a40)))
def tracebookref04_put_k2 (p0 : (List Int)) (p1 : Int) : Option (List Int) :=
  ((loop (tracebookref04_put_k2_L1 p0 p1) ([], false, 0)).bind fun (e56, e57) => (((bif (!e57) then (bif room 8 (List.length e56 + List.length [p1]) then some (e56 ++ [p1]) else none) else some e56) : Option (List Int)).bind fun v58 => some v58))
theorem tracebookref04_put_k2_fun (p0 : (List Int)) (p1 : Int) (r : (List Int)) (hF : tracebookref04_put_k2 p0 p1 = some r) : Fun Try.prog 96 true [] [cL 1 t_i64 p0, cI p1] noHeap (cL 1 t_i64 r) noHeap := by
 refine Fun.of_walk0 Try.func96 c96 (by kernel_rfl) (rs := [.tmp 4]) (by kernel_rfl) ?_; unfold v96
 unfold tracebookref04_put_k2 at hF
 refine wA rfl ?_; refine wA rfl ?_; refine wA rfl ?_; refine W_seq ?_; refine wA rfl ?_; refine W_for (fun _ _ h => h) hF (id) (fun (a39, a40, a41) => [(0, cL 1 t_i64 p0), (1, cI p1), (5, cO (27,1)), (6, cB a40), (7, cI a41)]) (fun (a39, a40, a41) => [((27,1), .arr 3 1 (List.map t_i64 a39))]) (fun (e56, e57) => [(1, cI p1), (5, cO (27,1)), (6, cB e57)]) (fun (e56, e57) => [((27,1), .arr 3 1 (List.map t_i64 e56))]) (S_own 5 (27,1) 3 1 rfl rfl rfl rfl sw) ?_ ?_
 · rintro ⟨e56, e57⟩ hF
   refine W_seq ?_; refine wA rfl ?_; refine W_join (fun _ _ h => h) hF (fun v58 => [(5, cO (27,1))]) (fun v58 => [((27,1), .arr 3 1 (List.map t_i64 v58))]) ?_ ?_
   · rintro v58 hF
     refine wA rfl ?_; cases hF
     exact W_ret ⟨_, rfl, rfl, ⟨⟨_, rfl⟩, fun _ _ h => by simp [noHeap] at h, rfl, fun _ => by simp [-List.map_set, t_i64, flatT]⟩, noOut _⟩
   intro join hF
   refine wIf' hF rfl (fun _ hF => ?_) fun _ hF => ?_
   · refine wD 2 rfl ?_; refine rS (T_bsl (tc := t_i64) [p1] rfl ⟨rfl, trivial⟩ rfl (fun _ => rfl) rfl ?_)
     obtain ⟨h59, hF⟩ := roomT' hF
     refine rS (T_appO (tc := t_i64) e56 [p1] rfl rfl (.own _ _ rfl) h59 rfl ?_); refine QV rfl ?_; exact join (e56 ++ [p1]) _ _ hF (S_ren (46,0) (27,1) rfl rfl sw)
   refine W_skip ?_; exact join e56 _ _ hF sw
 rintro ⟨a39, a40, a41⟩ x_0 hF cont_0 brk_0 fin_0
 unfold tracebookref04_put_k2_L1 at hF
 refine W_seq ?_; refine wC 2 rfl ?_; refine rS (T_len (tc := t_i64) p0 .tree ?_); refine QV rfl ?_; refine wIf hF rfl (fun _ hF => ?_) fun _ hF => ?_
 · refine W_skip ?_; refine W_seq ?_; refine W_join (fun _ _ h => h) hF (fun (v61, v62) => [(0, cL 1 t_i64 p0), (1, cI p1), (5, cO (27,1)), (6, cB v62), (7, cI a41)]) (fun (v61, v62) => [((27,1), .arr 3 1 (List.map t_i64 v61))]) ?_ ?_
   · rintro ⟨v61, v62⟩ hF
     refine wB rfl ?_; exact cont_0 _ _ _ (oi hF) sw
   intro join hF
   refine W_block ?_; refine W_seq ?_; refine W_seq ?_; have hF := bA hF; refine W_join (fun _ _ h => h) hF (fun v63 => [(0, cL 1 t_i64 p0), (1, cI p1), (5, cO (27,1)), (6, cB a40), (7, cI a41), (23, cB v63)]) (fun v63 => [((27,1), .arr 3 1 (List.map t_i64 a39))]) ?_ ?_
   · rintro v63 hF
     have hF := bA hF; refine W_join (fun _ _ h => h) hF (fun (v64, v65) => [(0, cL 1 t_i64 p0), (1, cI p1), (5, cO (27,1)), (6, cB v65), (7, cI a41)]) (fun (v64, v65) => [((27,1), .arr 3 1 (List.map t_i64 v64))]) ?_ ?_
     · rintro ⟨v64, v65⟩ hF
       refine wC 2 rfl ?_; obtain ⟨y66, hy66, hF⟩ := bB' hF
       refine rS (T_ixT (tc := t_i64) p0 rfl rfl hy66 ?_); refine QV rfl ?_; refine wIf' hF rfl (fun _ hF => ?_) fun _ hF => ?_
       · refine wD 3 rfl ?_; obtain ⟨y67, hy67, hF⟩ := bB' hF
         refine rS (T_ixT (tc := t_i64) p0 rfl rfl hy67 ?_); refine Q_run SV 1 rfl ?_; refine rS (T_bsl (tc := t_i64) [y67] rfl ⟨rfl, trivial⟩ rfl (fun _ => rfl) rfl ?_)
         obtain ⟨h68, hF⟩ := roomT' hF
         refine rS (T_appO (tc := t_i64) v64 [y67] rfl rfl (.own _ _ rfl) h68 rfl ?_); refine QV rfl ?_; exact join ((v64 ++ [y67]), v65) _ _ hF (S_ren (40,0) (27,1) rfl rfl sw)
       refine W_skip ?_; exact join (v64, v65) _ _ hF sw
     intro join hF
     refine wIf' hF rfl (fun _ hF => ?_) fun _ hF => ?_
     · refine wC 2 rfl ?_; refine rS (T_bsl (tc := t_i64) [p1] rfl ⟨rfl, trivial⟩ rfl (fun _ => rfl) rfl ?_)
       obtain ⟨h70, hF⟩ := roomT' hF
       refine rS (T_appO (tc := t_i64) a39 [p1] rfl rfl (.own _ _ rfl) h70 rfl ?_); refine QV rfl ?_; refine wB rfl ?_; exact join ((a39 ++ [p1]), true) _ _ hF (S_ren (27,0) (27,1) rfl rfl sw)
     refine W_skip ?_; exact join (a39, a40) _ _ hF sw
   intro join hF
   refine wD 3 rfl ?_; cases h72 : (!a40)
   · have hF := bF' h72 hF; refine QV rfl ?_; exact join false _ _ hF sw
   have hF := bT' h72 hF; refine Q_run SV 2 rfl ?_; obtain ⟨y73, hy73, hF⟩ := bB' hF
   refine R_step SV rfl (T_ixT (tc := t_i64) p0 rfl rfl hy73 ?_); refine QV rfl ?_; exact join (decide (p1 ≤ y73)) _ _ hF sw
 refine W_exit ?_; refine thenQ_exit ?_; refine thenQ_exit ?_; refine blockQ_hit ?_; exact brk_0 _ _ _ (oi hF) sw
def tracebookref04_ends_L1 (p0 : (List api_Span)) (p1 : (List api_Span)) : ((List Int) × Int) → Option (((List Int) × Int) ⊕ (List Int)) := fun (a27, a28) =>
  (bif (decide (a28 < (List.length (([] ++ p0) ++ p1) : Int))) then ((((idx (([] ++ p0) ++ p1) a28).bind fun y40 => ((tracebookref04_Valid y40).bind fun r41 => (bif r41 then ((idx (([] ++ p0) ++ p1) a28).bind fun y42 => ((tracebookref04_put_k2 a27 y42.fFrom).bind fun r43 => ((idx (([] ++ p0) ++ p1) a28).bind fun y44 => ((tracebookref04_put_k2 r43 y44.fTo).bind fun r45 => some r45)))) else some a27))) : Option (List Int)).bind fun v39 => some (.inl (v39, (w64 (a28 + 1))))) else some (.inr a27))
def tracebookref04_ends (p0 : (List api_Span)) (p1 : (List api_Span)) : Option (List Int) :=
  (bif room 16 (List.length ([] : List api_Span) + List.length p0) then (bif room 16 (List.length ([] ++ p0) + List.length p1) then ((loop (tracebookref04_ends_L1 p0 p1) ([], 0)).bind fun e38 => some e38) else none) else none)
theorem tracebookref04_ends_fun (p0 : (List api_Span)) (p1 : (List api_Span)) (r : (List Int)) (hF : tracebookref04_ends p0 p1 = some r) : Fun Try.prog 81 false [] [cL 2 t_api_Span p0, cL 2 t_api_Span p1] noHeap (cL 1 t_i64 r) noHeap := by
 refine Fun.of_walk0 Try.func81 c81 (by kernel_rfl) (rs := [.tmp 4]) (by kernel_rfl) ?_; unfold v81
 unfold tracebookref04_ends at hF
 refine wA rfl ?_; refine wA rfl ?_; refine wE ?_; refine rS (T_bsl (tc := t_api_Span) [] rfl trivial rfl (fun _ => rfl) rfl ?_)
 refine Q_run SV 1 rfl ?_; obtain ⟨h1, hF⟩ := roomT hF
 refine rS (T_appO (tc := t_api_Span) [] p0 rfl rfl .tree h1 rfl ?_); refine Q_run SV 1 rfl ?_; obtain ⟨h2, hF⟩ := roomT hF
 refine rS (T_appO (tc := t_api_Span) ([] ++ p0) p1 rfl rfl .tree h2 rfl ?_); refine QV rfl ?_; refine W_seq ?_; refine wA rfl ?_; refine W_for (fun _ _ h => h) hF (id) (fun (a27, a28) => [(5, cL 1 t_i64 a27), (6, cO (12,0)), (7, cI a28)]) (fun (a27, a28) => [((12,0), .arr 42 2 (List.map t_api_Span (([] ++ p0) ++ p1)))]) (fun e38 => [(5, cL 1 t_i64 e38)]) (fun e38 => []) (S_nilT 5 1 rfl sw) ?_ ?_
 · rintro e38 hF
   refine wA rfl ?_; cases hF
   exact W_ret ⟨_, rfl, rfl, ⟨rfl, fun h => (by cases h)⟩, noOut _⟩
 rintro ⟨a27, a28⟩ x_0 hF cont_0 brk_0 fin_0
 unfold tracebookref04_ends_L1 at hF
 refine W_seq ?_; refine wC 2 rfl ?_; refine rS (T_len (tc := t_api_Span) (([] ++ p0) ++ p1) (.own _ _ rfl) ?_); refine QV rfl ?_; refine wIf hF rfl (fun _ hF => ?_) fun _ hF => ?_
 · refine W_skip ?_; refine W_seq ?_; refine W_join (fun _ _ h => h) hF (fun v39 => [(5, cL 1 t_i64 v39), (6, cO (12,0)), (7, cI a28)]) (fun v39 => [((12,0), .arr 42 2 (List.map t_api_Span (([] ++ p0) ++ p1)))]) ?_ ?_
   · rintro v39 hF
     refine wB rfl ?_; exact cont_0 _ _ _ (oi hF) sw
   intro join hF
   refine W_block ?_; refine wC 2 rfl ?_; obtain ⟨y40, hy40, hF⟩ := bB' hF
   refine rS (T_ixO (tc := t_api_Span) (([] ++ p0) ++ p1) rfl rfl rfl hy40 ?_); refine rS (T_ldE (tc := t_api_Span) (([] ++ p0) ++ p1) rfl rfl (idx_get hy40).2.1 rfl ?_); obtain ⟨r41, hr41, hF⟩ := bB' hF
   refine rS (T_call (tracebookref04_Valid_fun _ _ hr41) ⟨⟨rfl, rfl, trivial⟩, trivial⟩ rfl (.inl rfl) ?_); refine QV rfl ?_; refine wIf' hF rfl (fun _ hF => ?_) fun _ hF => ?_
   · refine W_regD (by decide) (by kernel_rfl) rfl ?_; refine Q_run SP 3 rfl ?_; obtain ⟨y42, hy42, hF⟩ := bB' hF
     refine R_step SP trivial (T_ixO (tc := t_api_Span) (([] ++ p0) ++ p1) rfl rfl rfl hy42 ?_); refine Q_run SP 1 rfl ?_; refine R_step SP trivial (T_ldE (tc := t_api_Span) (([] ++ p0) ++ p1) rfl rfl (idx_get hy42).2.1 rfl ?_)
     obtain ⟨r43, hr43, hF⟩ := bB' hF
     refine R_step SP trivial (T_call (tracebookref04_put_k2_fun _ _ _ hr43) ⟨rfl, rfl, trivial⟩ rfl (.inl rfl) ?_); refine Q_run SP 2 rfl ?_; obtain ⟨y44, hy44, hF⟩ := bB' hF
     refine R_step SP trivial (T_ixO (tc := t_api_Span) (([] ++ p0) ++ p1) rfl rfl rfl hy44 ?_); refine Q_run SP 1 rfl ?_; refine R_step SP trivial (T_ldE (tc := t_api_Span) (([] ++ p0) ++ p1) rfl rfl (idx_get hy44).2.1 rfl ?_)
     obtain ⟨r45, hr45, hF⟩ := bB' hF
     refine R_step SP trivial (T_call (tracebookref04_put_k2_fun _ _ _ hr45) ⟨rfl, rfl, trivial⟩ rfl (.inl rfl) ?_); refine QP rfl ?_; exact join r45 _ _ hF sw
   refine W_skip ?_; exact join a27 _ _ hF sw
 refine W_exit ?_; refine thenQ_exit ?_; refine thenQ_exit ?_; refine blockQ_hit ?_; exact brk_0 _ _ _ (oi hF) sw
def tracebookref04_Covers_L1 (p0 : (List api_Span)) (p1 : Int) : Int → Option (Int ⊕ (Unit ⊕ Bool)) := fun a22 =>
  (bif (decide (a22 < (List.length p0 : Int))) then ((((idx p0 a22).bind fun y34 => ((tracebookref04_Valid y34).bind fun r35 => (bif r35 then ((idx p0 a22).bind fun y37 => (bif (decide (y37.fFrom ≤ p1)) then ((idx p0 a22).bind fun y39 => some (decide (p1 < y39.fTo))) else some false)) else some false))) : Option Bool).bind fun v32 => (bif v32 then some (.inr (.inr true)) else some (.inl (w64 (a22 + 1))))) else some (.inr (.inl ())))
def tracebookref04_Covers (p0 : (List api_Span)) (p1 : Int) : Option Bool :=
  ((loop (tracebookref04_Covers_L1 p0 p1) 0).bind fun | .inl _ => some false | .inr rv => some rv)
theorem tracebookref04_Covers_fun (p0 : (List api_Span)) (p1 : Int) (r : Bool) (hF : tracebookref04_Covers p0 p1 = some r) : Fun Try.prog 97 true [] [cL 2 t_api_Span p0, cI p1] noHeap (cB r) noHeap := by
 refine Fun.of_walk0 Try.func97 c97 (by kernel_rfl) (rs := [.tmp 4]) (by kernel_rfl) ?_; unfold v97
 unfold tracebookref04_Covers at hF
 refine wA rfl ?_; refine W_seq ?_; refine wA rfl ?_; refine W_for (fun _ _ h => h) hF (.inl) (fun a22 => [(0, cL 2 t_api_Span p0), (1, cI p1), (5, cI a22)]) (fun a22 => []) (fun _ => []) (fun _ => []) sw ?_ ?_
 · rintro ⟨⟩ hF
   refine wA rfl ?_; cases hF
   exact W_ret wR
 rintro a22 x_0 hF cont_0 brk_0 fin_0
 unfold tracebookref04_Covers_L1 at hF
 refine W_seq ?_; refine wC 2 rfl ?_; refine rS (T_len (tc := t_api_Span) p0 .tree ?_); refine QV rfl ?_; refine wIf hF rfl (fun _ hF => ?_) fun _ hF => ?_
 · refine W_skip ?_; refine W_seq ?_; refine W_block ?_; refine W_seq ?_; refine W_join (fun _ _ h => h) hF (fun v32 => [(0, cL 2 t_api_Span p0), (1, cI p1), (5, cI a22), (34, cB v32)]) (fun v32 => []) ?_ ?_
   · rintro v32 hF
     refine wIf hF rfl (fun _ hF => ?_) fun _ hF => ?_
     · refine wA rfl ?_; have hF := fin_0 _ (oi hF); cases hF
       exact W_ret wR
     refine W_skip ?_; refine wB rfl ?_; exact cont_0 _ _ _ (oi hF) sw
   intro join hF
   refine wD 2 rfl ?_; obtain ⟨y34, hy34, hF⟩ := bB' hF
   refine rS (T_ixT (tc := t_api_Span) p0 rfl rfl hy34 ?_); refine Q_run SV 1 rfl ?_; obtain ⟨r35, hr35, hF⟩ := bB' hF
   refine rS (T_call (tracebookref04_Valid_fun _ _ hr35) ⟨⟨rfl, rfl, trivial⟩, trivial⟩ rfl (.inl rfl) ?_); refine Q_run SV 1 rfl ?_; cases h36 : r35
   · have hF := bF' h36 hF; refine QV rfl ?_; exact join false _ _ hF sw
   have hF := bT' h36 hF; refine Q_run SV 2 rfl ?_; obtain ⟨y37, hy37, hF⟩ := bB' hF
   refine R_step SV rfl (T_ixT (tc := t_api_Span) p0 rfl rfl hy37 ?_); refine Q_run SV 6 rfl ?_; cases h38 : (decide (y37.fFrom ≤ p1))
   · have hF := bF' h38 hF; refine QV rfl ?_; exact join false _ _ hF sw
   have hF := bT' h38 hF; refine Q_run SV 3 rfl ?_; obtain ⟨y39, hy39, hF⟩ := bB' hF
   refine R_step SV rfl (T_ixT (tc := t_api_Span) p0 rfl rfl hy39 ?_); refine QV rfl ?_; exact join (decide (p1 < y39.fTo)) _ _ hF sw
 refine W_exit ?_; refine thenQ_exit ?_; refine thenQ_exit ?_; refine blockQ_hit ?_; exact brk_0 _ _ _ (oi hF) sw
def tracebookref04_holds (p0 : (List api_Span)) (p1 : (List api_Span)) (p2 : Int) (p3 : Int) : Option Bool :=
  ((tracebookref04_Covers p0 p3).bind fun r1 => ((tracebookref04_Covers p1 p3).bind fun r2 => (((bif (decide (p2 = 1)) then (bif r1 then some true else (bif r2 then some true else (bif (decide (p2 = 2)) then (bif (decide (p2 = 3)) then some false else some false) else (bif (decide (p2 = 3)) then some false else some false)))) else (bif (decide (p2 = 2)) then (bif r1 then (bif r2 then some true else (bif (decide (p2 = 3)) then some true else some false)) else (bif (decide (p2 = 3)) then some false else some false)) else (bif (decide (p2 = 3)) then (bif r1 then some (!r2) else some false) else some false))) : Option Bool).bind fun v3 => some v3)))
theorem tracebookref04_holds_fun (p0 : (List api_Span)) (p1 : (List api_Span)) (p2 : Int) (p3 : Int) (r : Bool) (hF : tracebookref04_holds p0 p1 p2 p3 = some r) : Fun Try.prog 82 true [] [cL 2 t_api_Span p0, cL 2 t_api_Span p1, cI p2, cI p3] noHeap (cB r) noHeap := by
 refine Fun.of_walk0 Try.func82 c82 (by kernel_rfl) (rs := [.tmp 8]) (by kernel_rfl) ?_; unfold v82
 unfold tracebookref04_holds at hF
 refine wA rfl ?_; refine wC 2 rfl ?_; obtain ⟨r1, hr1, hF⟩ := bB hF
 refine rS (T_call (tracebookref04_Covers_fun _ _ _ hr1) ⟨rfl, rfl, trivial⟩ rfl (.inl rfl) ?_); refine Q_run SV 2 rfl ?_; obtain ⟨r2, hr2, hF⟩ := bB hF
 refine rS (T_call (tracebookref04_Covers_fun _ _ _ hr2) ⟨rfl, rfl, trivial⟩ rfl (.inl rfl) ?_); refine QV rfl ?_; refine W_seq ?_; refine W_join (fun _ _ h => h) hF (fun v3 => [(8, cB v3)]) (fun v3 => []) ?_ ?_
 · rintro v3 hF
   cases hF
   exact W_ret wR
 intro join hF
 refine wD 3 rfl ?_; cases h4 : (decide (p2 = 1))
 · have hF := bF' h4 hF; refine Q_run SV 9 rfl ?_; cases h5 : (decide (p2 = 2))
   · have hF := bF' h5 hF; refine Q_run SV 10 rfl ?_; cases h6 : (decide (p2 = 3))
     · have hF := bF' h6 hF; refine QV rfl ?_; exact join false _ _ hF sw
     have hF := bT' h6 hF; refine Q_run SV 3 rfl ?_; cases h7 : r1
     · have hF := bF' h7 hF; refine QV rfl ?_; exact join false _ _ hF sw
     have hF := bT' h7 hF; refine QV rfl ?_; exact join (!r2) _ _ hF sw
   have hF := bT' h5 hF; refine Q_run SV 3 rfl ?_; cases h8 : r1
   · have hF := bF' h8 hF; refine Q_run SV 7 rfl ?_; cases h9 : (decide (p2 = 3))
     · have hF := bF' h9 hF; refine QV rfl ?_; exact join false _ _ hF sw
     have hF := bT' h9 hF; refine QV rfl ?_; exact join false _ _ hF sw
   have hF := bT' h8 hF; refine Q_run SV 4 rfl ?_; cases h10 : r2
   · have hF := bF' h10 hF; refine Q_run SV 3 rfl ?_; cases h11 : (decide (p2 = 3))
     · have hF := bF' h11 hF; refine QV rfl ?_; exact join false _ _ hF sw
     have hF := bT' h11 hF; refine QV rfl ?_; exact join true _ _ hF sw
   have hF := bT' h10 hF; refine QV rfl ?_; exact join true _ _ hF sw
 have hF := bT' h4 hF; refine Q_run SV 2 rfl ?_; cases h12 : r1
 · have hF := bF' h12 hF; refine Q_run SV 4 rfl ?_; cases h13 : r2
   · have hF := bF' h13 hF; refine Q_run SV 3 rfl ?_; cases h14 : (decide (p2 = 2))
     · have hF := bF' h14 hF; refine Q_run SV 10 rfl ?_; cases h15 : (decide (p2 = 3))
       · have hF := bF' h15 hF; refine QV rfl ?_; exact join false _ _ hF sw
       have hF := bT' h15 hF; refine QV rfl ?_; exact join false _ _ hF sw
     have hF := bT' h14 hF; refine Q_run SV 10 rfl ?_; cases h16 : (decide (p2 = 3))
     · have hF := bF' h16 hF; refine QV rfl ?_; exact join false _ _ hF sw
     have hF := bT' h16 hF; refine QV rfl ?_; exact join false _ _ hF sw
   have hF := bT' h13 hF; refine QV rfl ?_; exact join true _ _ hF sw
 have hF := bT' h12 hF; refine QV rfl ?_; exact join true _ _ hF sw
def tracebookref04_combine_L1 (p0 : (List api_Span)) (p1 : (List api_Span)) (p2 : Int) (r1 : (List Int)) : ((List api_Span) × Int) → Option (((List api_Span) × Int) ⊕ (List api_Span)) := fun (a32, a33) =>
  (bif (decide ((w64 (a33 + 1)) < (List.length r1 : Int))) then ((((idx r1 a33).bind fun y51 => ((tracebookref04_holds p0 p1 p2 y51).bind fun r52 => (bif (!r52) then some a32 else (((bif (decide (0 ≤ (w64 ((List.length a32 : Int) - 1)))) then ((idx a32 (w64 ((List.length a32 : Int) - 1))).bind fun y61 => ((idx r1 a33).bind fun y62 => some (decide (y61.fTo = y62)))) else some false) : Option Bool).bind fun v53 => (bif v53 then ((idx r1 (w64 (a33 + 1))).bind fun y54 => ((idx a32 (w64 ((List.length a32 : Int) - 1))).bind fun y55 => some (List.set a32 (Int.toNat (w64 ((List.length a32 : Int) - 1))) ({ fFrom := y55.fFrom, fTo := y54 } : api_Span)))) else ((idx r1 a33).bind fun y56 => ((idx r1 (w64 (a33 + 1))).bind fun y57 => (bif room 16 (List.length a32 + List.length [({ fFrom := y56, fTo := y57 } : api_Span)]) then some (a32 ++ [({ fFrom := y56, fTo := y57 } : api_Span)]) else none)))))))) : Option (List api_Span)).bind fun v50 => some (.inl (v50, (w64 (a33 + 1))))) else some (.inr a32))
def tracebookref04_combine (p0 : (List api_Span)) (p1 : (List api_Span)) (p2 : Int) : Option (List api_Span) :=
  ((tracebookref04_ends p0 p1).bind fun r1 => ((loop (tracebookref04_combine_L1 p0 p1 p2 r1) ([], 0)).bind fun e49 => some e49))
theorem tracebookref04_combine_fun (p0 : (List api_Span)) (p1 : (List api_Span)) (p2 : Int) (r : (List api_Span)) (hF : tracebookref04_combine p0 p1 p2 = some r) : Fun Try.prog 70 false [] [cL 2 t_api_Span p0, cL 2 t_api_Span p1, cI p2] (heapOf []) (cO (902,2800)) (heapOf [((902,2800), .arr 42 2 (List.map t_api_Span r))]) := by
 refine Fun.of_walkM [] (some []) Try.func70 c70 (by kernel_rfl) (rs := [.tmp 6]) (by kernel_rfl) rfl rfl rfl ?_; unfold v70
 unfold tracebookref04_combine at hF
 refine wA rfl ?_; refine wA rfl ?_; refine wC 2 rfl ?_; obtain ⟨r1, hr1, hF⟩ := bB hF
 refine rS (T_call (tracebookref04_ends_fun _ _ _ hr1) ⟨rfl, rfl, trivial⟩ rfl (.inr (.inr ⟨rfl, rfl, trivial⟩)) ?_); refine QV rfl ?_; refine W_seq ?_; refine wA rfl ?_; refine W_for (fun _ _ h => h) hF (id) (fun (a32, a33) => [(0, cL 2 t_api_Span p0), (1, cL 2 t_api_Span p1), (2, cI p2), (7, cO (68,1)), (8, cL 1 t_i64 r1), (9, cI a33)]) (fun (a32, a33) => [((68,1), .arr 42 2 (List.map t_api_Span a32))]) (fun e49 => [(7, cO (68,1))]) (fun e49 => [((68,1), .arr 42 2 (List.map t_api_Span e49))]) (S_own 7 (68,1) 42 2 rfl rfl rfl rfl sw) ?_ ?_
 · rintro e49 hF
   refine wA rfl ?_; cases hF
   exact W_ret ⟨_, _, (S_ren (68,1) (902,2800) rfl rfl S_refl), _, rfl, rfl, rfl, (AgM.weak ⟨rfl, trivial⟩)⟩
 rintro ⟨a32, a33⟩ x_0 hF cont_0 brk_0 fin_0
 unfold tracebookref04_combine_L1 at hF
 refine W_seq ?_; refine wC 3 rfl ?_; refine rS (T_len (tc := t_i64) r1 .tree ?_); refine QV rfl ?_; refine wIf hF rfl (fun _ hF => ?_) fun _ hF => ?_
 · refine W_skip ?_; refine W_seq ?_; refine W_join (fun _ _ h => h) hF (fun v50 => [(0, cL 2 t_api_Span p0), (1, cL 2 t_api_Span p1), (2, cI p2), (7, cO (68,1)), (8, cL 1 t_i64 r1), (9, cI a33)]) (fun v50 => [((68,1), .arr 42 2 (List.map t_api_Span v50))]) ?_ ?_
   · rintro v50 hF
     refine wB rfl ?_; exact cont_0 _ _ _ (oi hF) sw
   intro join hF
   refine W_block ?_; refine W_seq ?_; refine wC 5 rfl ?_; obtain ⟨y51, hy51, hF⟩ := bB' hF
   refine rS (T_ixT (tc := t_i64) r1 rfl rfl hy51 ?_); refine Q_run SV 1 rfl ?_; obtain ⟨r52, hr52, hF⟩ := bB' hF
   refine rS (T_call (tracebookref04_holds_fun _ _ _ _ _ hr52) ⟨rfl, rfl, rfl, rfl, trivial⟩ rfl (.inl rfl) ?_); refine QV rfl ?_; refine wIf' hF rfl (fun _ hF => ?_) fun _ hF => ?_
   · refine W_exit ?_; refine thenQ_exit ?_; refine blockQ_hit ?_; exact join a32 _ _ hF sw
   refine W_skip ?_; refine wC 1 rfl ?_; refine rS (T_len (tc := t_api_Span) a32 (.own _ _ rfl) ?_); refine QV rfl ?_; refine W_seq ?_; have hF := bA hF; refine W_join (fun _ _ h => h) hF (fun v53 => [(0, cL 2 t_api_Span p0), (1, cL 2 t_api_Span p1), (2, cI p2), (7, cO (68,1)), (8, cL 1 t_i64 r1), (9, cI a33), (10, cI (w64 ((List.length a32 : Int) - 1))), (46, cB v53)]) (fun v53 => [((68,1), .arr 42 2 (List.map t_api_Span a32))]) ?_ ?_
   · rintro v53 hF
     refine wIf' hF rfl (fun _ hF => ?_) fun _ hF => ?_
     · refine wD 5 rfl ?_; obtain ⟨y54, hy54, hF⟩ := bB' hF
       refine rS (T_ixT (tc := t_i64) r1 rfl rfl hy54 ?_); refine Q_run SV 1 rfl ?_; obtain ⟨y55, hy55, hF⟩ := bB' hF
       refine rS (T_ixO (tc := t_api_Span) a32 rfl rfl rfl hy55 ?_); refine Q_run SV 1 rfl ?_; refine rS (T_stE (tc := t_api_Span) a32 ({ fFrom := y55.fFrom, fTo := y54 } : api_Span) rfl rfl (idx_get hy55).2.1 rfl rfl rfl rfl rfl ?_)
       refine QV rfl ?_; exact join (List.set a32 (Int.toNat (w64 ((List.length a32 : Int) - 1))) ({ fFrom := y55.fFrom, fTo := y54 } : api_Span)) _ _ hF sw
     refine W_regD (by decide) (by kernel_rfl) rfl ?_; refine Q_run SP 3 rfl ?_; obtain ⟨y56, hy56, hF⟩ := bB' hF
     refine R_step SP trivial (T_ixT (tc := t_i64) r1 rfl rfl hy56 ?_); refine Q_run SP 4 rfl ?_; obtain ⟨y57, hy57, hF⟩ := bB' hF
     refine R_step SP trivial (T_ixT (tc := t_i64) r1 rfl rfl hy57 ?_); refine Q_run SP 2 rfl ?_; refine R_step SP trivial (T_bsl (tc := t_api_Span) [({ fFrom := y56, fTo := y57 } : api_Span)] rfl ⟨rfl, rfl, trivial⟩ rfl (fun _ => rfl) rfl ?_)
     obtain ⟨h58, hF⟩ := roomT' hF
     refine R_step SP trivial (T_appO (tc := t_api_Span) a32 [({ fFrom := y56, fTo := y57 } : api_Span)] rfl rfl (.own _ _ rfl) h58 rfl ?_); refine QP rfl ?_; exact join (a32 ++ [({ fFrom := y56, fTo := y57 } : api_Span)]) _ _ hF (S_ren (68,0) (68,1) rfl rfl sw)
   intro join hF
   refine W_regD (by decide) (by kernel_rfl) rfl ?_; refine Q_run SP 3 rfl ?_; cases h60 : (decide (0 ≤ (w64 ((List.length a32 : Int) - 1))))
   · have hF := bF' h60 hF; refine QP rfl ?_; exact join false _ _ hF sw
   have hF := bT' h60 hF; refine Q_run SP 2 rfl ?_; obtain ⟨y61, hy61, hF⟩ := bB' hF
   refine R_step SP rfl (T_ixO (tc := t_api_Span) a32 rfl rfl rfl hy61 ?_); refine Q_run SP 1 rfl ?_; refine R_step SP rfl (T_ldE (tc := t_api_Span) a32 rfl rfl (idx_get hy61).2.1 rfl ?_); refine Q_run SP 2 rfl ?_
   obtain ⟨y62, hy62, hF⟩ := bB' hF
   refine R_step SP rfl (T_ixT (tc := t_i64) r1 rfl rfl hy62 ?_); refine QP rfl ?_; exact join (decide (y61.fTo = y62)) _ _ hF sw
 refine W_exit ?_; refine thenQ_exit ?_; refine thenQ_exit ?_; refine blockQ_hit ?_; exact brk_0 _ _ _ (oi hF) sw
def tracebookref04_Normal (p0 : (List api_Span)) : Option (List api_Span) :=
  ((tracebookref04_combine p0 [] 1).bind fun r1 => some r1)
theorem tracebookref04_Normal_fun (p0 : (List api_Span)) (r : (List api_Span)) (hF : tracebookref04_Normal p0 = some r) : Fun Try.prog 49 false [] [cL 2 t_api_Span p0] (heapOf []) (cO (902,1960)) (heapOf [((902,1960), .arr 42 2 (List.map t_api_Span r))]) := by
 refine Fun.of_walkM [] (some []) Try.func49 c49 (by kernel_rfl) (rs := [.tmp 2]) (by kernel_rfl) rfl rfl rfl ?_; unfold v49
 unfold tracebookref04_Normal at hF
 refine wA rfl ?_; refine wC 1 rfl ?_; obtain ⟨r1, hr1, hF⟩ := bB hF
 refine R_stepX trivial (X_callG [((902,2800),(4,1))] rfl (callN _) (tracebookref04_combine_fun _ _ _ _ hr1) trivial ⟨.inl rfl, .inr rfl, .inl rfl, trivial⟩ rfl rfl rfl ?_); refine QV rfl ?_; cases hF
 exact W_ret ⟨_, _, (S_ren (4,1) (902,1960) rfl rfl S_refl), _, rfl, rfl, rfl, (AgM.weak ⟨rfl, trivial⟩)⟩
def tracebookref26_Busy_L1 (p0 : (List api_Slice)) (p1 : Int) : ((List api_Span) × Int) → Option (((List api_Span) × Int) ⊕ (List api_Span)) := fun (a19, a20) =>
  (bif (decide (a20 < (List.length p0 : Int))) then ((((idx p0 a20).bind fun y30 => (bif (decide (y30.fThread = p1)) then ((idx p0 a20).bind fun y31 => (bif room 16 (List.length a19 + List.length [y31.fSpan]) then some (a19 ++ [y31.fSpan]) else none)) else some a19)) : Option (List api_Span)).bind fun v29 => some (.inl (v29, (w64 (a20 + 1))))) else some (.inr a19))
def tracebookref26_Busy (p0 : (List api_Slice)) (p1 : Int) : Option (List api_Span) :=
  ((loop (tracebookref26_Busy_L1 p0 p1) ([], 0)).bind fun e27 => ((tracebookref04_Normal e27).bind fun r28 => some r28))
theorem tracebookref26_Busy_fun (p0 : (List api_Slice)) (p1 : Int) (r : (List api_Span)) (hF : tracebookref26_Busy p0 p1 = some r) : Fun Try.prog 22 false [] [cL 8 t_api_Slice p0, cI p1] (heapOf []) (cO (902,880)) (heapOf [((902,880), .arr 42 2 (List.map t_api_Span r))]) := by
 refine Fun.of_walkM [] (some []) Try.func22 c22 (by kernel_rfl) (rs := [.tmp 4]) (by kernel_rfl) rfl rfl rfl ?_; unfold v22
 unfold tracebookref26_Busy at hF
 refine wA rfl ?_; refine wA rfl ?_; refine W_seq ?_; refine wA rfl ?_; refine W_for (fun _ _ h => h) hF (id) (fun (a19, a20) => [(0, cL 8 t_api_Slice p0), (1, cI p1), (5, cO (27,1)), (6, cI a20)]) (fun (a19, a20) => [((27,1), .arr 42 2 (List.map t_api_Span a19))]) (fun e27 => [(5, cO (27,1))]) (fun e27 => [((27,1), .arr 42 2 (List.map t_api_Span e27))]) (S_own 5 (27,1) 42 2 rfl rfl rfl rfl sw) ?_ ?_
 · rintro e27 hF
   refine wC 1 rfl ?_; obtain ⟨r28, hr28, hF⟩ := bB hF
   refine R_stepX trivial (X_callL [((902,1960),(29,1))] rfl (callN _) (tracebookref04_Normal_fun _ _ hr28) trivial ⟨.inr ⟨_, rfl⟩, trivial⟩ rfl rfl rfl rfl ⟨(flatArr fun _ => rfl), trivial⟩ ?_)
   refine QV rfl ?_; cases hF
   exact W_ret ⟨_, _, (S_ren (29,1) (902,880) rfl rfl S_refl), _, rfl, rfl, rfl, (AgM.weak ⟨rfl, trivial⟩)⟩
 rintro ⟨a19, a20⟩ x_0 hF cont_0 brk_0 fin_0
 unfold tracebookref26_Busy_L1 at hF
 refine W_seq ?_; refine wC 2 rfl ?_; refine rS (T_len (tc := t_api_Slice) p0 .tree ?_); refine QV rfl ?_; refine wIf hF rfl (fun _ hF => ?_) fun _ hF => ?_
 · refine W_skip ?_; refine W_seq ?_; refine W_join (fun _ _ h => h) hF (fun v29 => [(0, cL 8 t_api_Slice p0), (1, cI p1), (5, cO (27,1)), (6, cI a20)]) (fun v29 => [((27,1), .arr 42 2 (List.map t_api_Span v29))]) ?_ ?_
   · rintro v29 hF
     refine wB rfl ?_; exact cont_0 _ _ _ (oi hF) sw
   intro join hF
   refine W_block ?_; refine wC 2 rfl ?_; obtain ⟨y30, hy30, hF⟩ := bB' hF
   refine rS (T_ixT (tc := t_api_Slice) p0 rfl rfl hy30 ?_); refine QV rfl ?_; refine wIf' hF rfl (fun _ hF => ?_) fun _ hF => ?_
   · refine wD 3 rfl ?_; obtain ⟨y31, hy31, hF⟩ := bB' hF
     refine rS (T_ixT (tc := t_api_Slice) p0 rfl rfl hy31 ?_); refine Q_run SV 2 rfl ?_; refine rS (T_bsl (tc := t_api_Span) [y31.fSpan] rfl ⟨rfl, rfl, trivial⟩ rfl (fun _ => rfl) rfl ?_)
     obtain ⟨h32, hF⟩ := roomT' hF
     refine rS (T_appO (tc := t_api_Span) a19 [y31.fSpan] rfl rfl (.own _ _ rfl) h32 rfl ?_); refine QV rfl ?_; exact join (a19 ++ [y31.fSpan]) _ _ hF (S_ren (27,0) (27,1) rfl rfl sw)
   refine W_skip ?_; exact join a19 _ _ hF sw
 refine W_exit ?_; refine thenQ_exit ?_; refine thenQ_exit ?_; refine blockQ_hit ?_; exact brk_0 _ _ _ (oi hF) sw
def slice_At_L1 (p0 : (List api_Slice)) (p1 : Int) (p2 : Int) : (Int × Int) → Option ((Int × Int) ⊕ Int) := fun (a27, a28) =>
  (bif (decide (a28 < (List.length p0 : Int))) then ((((idx p0 a28).bind fun y41 => (((bif (decide (y41.fThread = p1)) then (bif (decide (y41.fSpan.fFrom ≤ p2)) then (bif (decide (p2 < y41.fSpan.fTo)) then (bif (decide (a27 < 0)) then some true else ((idx p0 a27).bind fun y48 => some (decide (y48.fDepth < y41.fDepth)))) else some false) else some false) else some false) : Option Bool).bind fun v42 => (bif v42 then some a28 else some a27))) : Option Int).bind fun v40 => some (.inl (v40, (w64 (a28 + 1))))) else some (.inr a27))
def slice_At (p0 : (List api_Slice)) (p1 : Int) (p2 : Int) : Option Int :=
  ((loop (slice_At_L1 p0 p1 p2) ((-1), 0)).bind fun e39 => some e39)
theorem slice_At_fun (p0 : (List api_Slice)) (p1 : Int) (p2 : Int) (r : Int) (hF : slice_At p0 p1 p2 = some r) : Fun Try.prog 23 true [] [cL 8 t_api_Slice p0, cI p1, cI p2] noHeap (cI r) noHeap := by
 refine Fun.of_walk0 Try.func23 c23 (by kernel_rfl) (rs := [.tmp 6]) (by kernel_rfl) ?_; unfold v23
 unfold slice_At at hF
 refine wA rfl ?_; refine wA rfl ?_; refine W_seq ?_; refine wC 1 rfl ?_; refine rS (T_len (tc := t_api_Slice) p0 .tree ?_); refine QV rfl ?_; refine W_for (fun _ _ h => h) hF (id) (fun (a27, a28) => [(0, cL 8 t_api_Slice p0), (1, cI p1), (2, cI p2), (7, cI a27), (10, cL 8 t_api_Slice p0), (11, cI (List.length p0 : Int)), (12, cI a28)]) (fun (a27, a28) => []) (fun e39 => [(7, cI e39)]) (fun e39 => []) sw ?_ ?_
 · rintro e39 hF
   refine wA rfl ?_; cases hF
   exact W_ret wR
 rintro ⟨a27, a28⟩ x_0 hF cont_0 brk_0 fin_0
 unfold slice_At_L1 at hF
 refine wA rfl ?_; refine W_seq ?_; refine wIf hF rfl (fun _ hF => ?_) fun _ hF => ?_
 · refine W_skip ?_; refine W_seq ?_; refine W_join (fun _ _ h => h) hF (fun v40 => [(0, cL 8 t_api_Slice p0), (1, cI p1), (2, cI p2), (7, cI v40), (10, cL 8 t_api_Slice p0), (11, cI (List.length p0 : Int)), (12, cI a28)]) (fun v40 => []) ?_ ?_
   · rintro v40 hF
     refine wB rfl ?_; exact cont_0 _ _ _ (oi hF) sw
   intro join hF
   refine W_block ?_; refine wC 1 rfl ?_; obtain ⟨y41, hy41, hF⟩ := bB' hF
   refine rS (T_ixT (tc := t_api_Slice) p0 rfl rfl hy41 ?_); refine QV rfl ?_; refine W_seq ?_; have hF := bA hF; refine W_join (fun _ _ h => h) hF (fun v42 => [(0, cL 8 t_api_Slice p0), (1, cI p1), (2, cI p2), (7, cI a27), (8, cI a28), (10, cL 8 t_api_Slice p0), (11, cI (List.length p0 : Int)), (12, cI a28), (48, cB v42)]) (fun v42 => []) ?_ ?_
   · rintro v42 hF
     refine wIf' hF rfl (fun _ hF => ?_) fun _ hF => ?_
     · refine wB rfl ?_; exact join a28 _ _ hF sw
     refine W_skip ?_; exact join a27 _ _ hF sw
   intro join hF
   refine W_regD (by decide) (by kernel_rfl) rfl ?_; refine Q_run SP 5 rfl ?_; cases h44 : (decide (y41.fThread = p1))
   · have hF := bF' h44 hF; refine QP rfl ?_; exact join false _ _ hF sw
   have hF := bT' h44 hF; refine Q_run SP 7 rfl ?_; cases h45 : (decide (y41.fSpan.fFrom ≤ p2))
   · have hF := bF' h45 hF; refine QP rfl ?_; exact join false _ _ hF sw
   have hF := bT' h45 hF; refine Q_run SP 7 rfl ?_; cases h46 : (decide (p2 < y41.fSpan.fTo))
   · have hF := bF' h46 hF; refine QP rfl ?_; exact join false _ _ hF sw
   have hF := bT' h46 hF; refine Q_run SP 3 rfl ?_; cases h47 : (decide (a27 < 0))
   · have hF := bF' h47 hF; refine Q_run SP 4 rfl ?_; obtain ⟨y48, hy48, hF⟩ := bB' hF
     refine R_step SP rfl (T_ixT (tc := t_api_Slice) p0 rfl rfl hy48 ?_); refine QP rfl ?_; exact join (decide (y48.fDepth < y41.fDepth)) _ _ hF sw
   have hF := bT' h47 hF; refine QP rfl ?_; exact join true _ _ hF sw
 refine W_exit ?_; refine thenQ_exit ?_; refine thenQ_exit ?_; refine blockQ_hit ?_; exact brk_0 _ _ _ (oi hF) sw
def tracebookref26_At_L1 (p0 : (List api_Slice)) (p1 : Int) (p2 : Int) : (Int × Int) → Option ((Int × Int) ⊕ Int) := fun (a33, a34) =>
  (bif (decide (a34 < (List.length p0 : Int))) then ((((((idx p0 a34).bind fun y52 => (bif (decide (y52.fThread = p1)) then ((idx p0 a34).bind fun y54 => (bif (decide (y54.fSpan.fFrom ≤ p2)) then ((idx p0 a34).bind fun y56 => (bif (decide (p2 < y56.fSpan.fTo)) then (bif (decide (a33 < 0)) then some true else ((idx p0 a34).bind fun y59 => ((idx p0 a33).bind fun y60 => some (decide (y60.fDepth < y59.fDepth))))) else some false)) else some false)) else some false)) : Option Bool).bind fun v50 => (bif v50 then some a34 else some a33)) : Option Int).bind fun v49 => some (.inl (v49, (w64 (a34 + 1))))) else some (.inr a33))
def tracebookref26_At (p0 : (List api_Slice)) (p1 : Int) (p2 : Int) : Option Int :=
  ((loop (tracebookref26_At_L1 p0 p1 p2) ((-1), 0)).bind fun e48 => some e48)
theorem tracebookref26_At_fun (p0 : (List api_Slice)) (p1 : Int) (p2 : Int) (r : Int) (hF : tracebookref26_At p0 p1 p2 = some r) : Fun Try.prog 24 true [] [cL 8 t_api_Slice p0, cI p1, cI p2] noHeap (cI r) noHeap := by
 refine Fun.of_walk0 Try.func24 c24 (by kernel_rfl) (rs := [.tmp 6]) (by kernel_rfl) ?_; unfold v24
 unfold tracebookref26_At at hF
 refine wA rfl ?_; refine wA rfl ?_; refine W_seq ?_; refine wA rfl ?_; refine W_for (fun _ _ h => h) hF (id) (fun (a33, a34) => [(0, cL 8 t_api_Slice p0), (1, cI p1), (2, cI p2), (7, cI a33), (8, cI a34)]) (fun (a33, a34) => []) (fun e48 => [(7, cI e48)]) (fun e48 => []) sw ?_ ?_
 · rintro e48 hF
   refine wA rfl ?_; cases hF
   exact W_ret wR
 rintro ⟨a33, a34⟩ x_0 hF cont_0 brk_0 fin_0
 unfold tracebookref26_At_L1 at hF
 refine W_seq ?_; refine wC 2 rfl ?_; refine rS (T_len (tc := t_api_Slice) p0 .tree ?_); refine QV rfl ?_; refine wIf hF rfl (fun _ hF => ?_) fun _ hF => ?_
 · refine W_skip ?_; refine W_seq ?_; refine W_join (fun _ _ h => h) hF (fun v49 => [(0, cL 8 t_api_Slice p0), (1, cI p1), (2, cI p2), (7, cI v49), (8, cI a34)]) (fun v49 => []) ?_ ?_
   · rintro v49 hF
     refine wB rfl ?_; exact cont_0 _ _ _ (oi hF) sw
   intro join hF
   refine W_block ?_; refine W_seq ?_; have hF := bA hF; refine W_join (fun _ _ h => h) hF (fun v50 => [(0, cL 8 t_api_Slice p0), (1, cI p1), (2, cI p2), (7, cI a33), (8, cI a34), (58, cB v50)]) (fun v50 => []) ?_ ?_
   · rintro v50 hF
     refine wIf' hF rfl (fun _ hF => ?_) fun _ hF => ?_
     · refine wB rfl ?_; exact join a34 _ _ hF sw
     refine W_skip ?_; exact join a33 _ _ hF sw
   intro join hF
   refine W_regD (by decide) (by kernel_rfl) rfl ?_; refine Q_run SP 2 rfl ?_; obtain ⟨y52, hy52, hF⟩ := bB' hF
   refine R_step SP trivial (T_ixT (tc := t_api_Slice) p0 rfl rfl hy52 ?_); refine Q_run SP 5 rfl ?_; cases h53 : (decide (y52.fThread = p1))
   · have hF := bF' h53 hF; refine QP rfl ?_; exact join false _ _ hF sw
   have hF := bT' h53 hF; refine Q_run SP 2 rfl ?_; obtain ⟨y54, hy54, hF⟩ := bB' hF
   refine R_step SP rfl (T_ixT (tc := t_api_Slice) p0 rfl rfl hy54 ?_); refine Q_run SP 7 rfl ?_; cases h55 : (decide (y54.fSpan.fFrom ≤ p2))
   · have hF := bF' h55 hF; refine QP rfl ?_; exact join false _ _ hF sw
   have hF := bT' h55 hF; refine Q_run SP 3 rfl ?_; obtain ⟨y56, hy56, hF⟩ := bB' hF
   refine R_step SP rfl (T_ixT (tc := t_api_Slice) p0 rfl rfl hy56 ?_); refine Q_run SP 6 rfl ?_; cases h57 : (decide (p2 < y56.fSpan.fTo))
   · have hF := bF' h57 hF; refine QP rfl ?_; exact join false _ _ hF sw
   have hF := bT' h57 hF; refine Q_run SP 3 rfl ?_; cases h58 : (decide (a33 < 0))
   · have hF := bF' h58 hF; refine Q_run SP 2 rfl ?_; obtain ⟨y59, hy59, hF⟩ := bB' hF
     refine R_step SP rfl (T_ixT (tc := t_api_Slice) p0 rfl rfl hy59 ?_); refine Q_run SP 4 rfl ?_; obtain ⟨y60, hy60, hF⟩ := bB' hF
     refine R_step SP rfl (T_ixT (tc := t_api_Slice) p0 rfl rfl hy60 ?_); refine QP rfl ?_; exact join (decide (y60.fDepth < y59.fDepth)) _ _ hF sw
   have hF := bT' h58 hF; refine QP rfl ?_; exact join true _ _ hF sw
 refine W_exit ?_; refine thenQ_exit ?_; refine thenQ_exit ?_; refine blockQ_hit ?_; exact brk_0 _ _ _ (oi hF) sw
def tracebooklaw26_SliceLooks_L1 (r7 : (List api_Span)) (r8 : (List api_Span)) : Int → Option (Int ⊕ (Unit ⊕ Bool)) := fun a53 =>
  (bif (decide (a53 < (List.length r7 : Int))) then ((idx r7 a53).bind fun y59 => ((idx r8 a53).bind fun y60 => (bif ((decide (y59.fFrom = y60.fFrom) && (decide (y59.fTo = y60.fTo) && true)) != true) then some (.inr (.inr false)) else some (.inl (w64 (a53 + 1)))))) else some (.inr (.inl ())))
def tracebooklaw26_SliceLooks_L2 (r5 : (List Int)) (r6 : (List Int)) : Int → Option (Int ⊕ (Unit ⊕ Bool)) := fun a37 =>
  (bif (decide (a37 < (List.length r5 : Int))) then ((idx r5 a37).bind fun y63 => ((idx r6 a37).bind fun y64 => (bif (!decide (y63 = y64)) then some (.inr (.inr false)) else some (.inl (w64 (a37 + 1)))))) else some (.inr (.inl ())))
def tracebooklaw26_SliceLooks_L3 (r3 : (List ByteArray)) (r4 : (List ByteArray)) : Int → Option (Int ⊕ (Unit ⊕ Bool)) := fun a21 =>
  (bif (decide (a21 < (List.length r3 : Int))) then ((idx r3 a21).bind fun y67 => ((idx r4 a21).bind fun y68 => (bif (!decide (y67 = y68)) then some (.inr (.inr false)) else some (.inl (w64 (a21 + 1)))))) else some (.inr (.inl ())))
def tracebooklaw26_SliceLooks (p0 : (List api_Slice)) (p1 : Int) (p2 : Int) (p3 : Int) : Option Bool :=
  (((bif (decide (40 < (List.length p0 : Int))) then some true else ((tracebookref26_Check p0).bind fun r79 => some (!decide (r79 = 0)))) : Option Bool).bind fun v1 => (bif v1 then ((tracebooklaw26_lives ).bind fun r2 => some r2) else ((slice_Path p0 p1).bind fun r3 => ((tracebookref26_Path p0 p1).bind fun r4 => ((slice_Children p0 p1).bind fun r5 => ((tracebookref26_Children p0 p1).bind fun r6 => ((slice_Busy p0 p2).bind fun r7 => ((tracebookref26_Busy p0 p2).bind fun r8 => (((bif (!decide ((List.length r3 : Int) = (List.length r4 : Int))) then some true else (bif (!decide ((List.length r5 : Int) = (List.length r6 : Int))) then some true else (bif (!decide ((List.length r7 : Int) = (List.length r8 : Int))) then some true else ((slice_At p0 p2 p3).bind fun r75 => ((tracebookref26_At p0 p2 p3).bind fun r76 => some (!decide (r75 = r76))))))) : Option Bool).bind fun v9 => (bif v9 then some false else ((loop (tracebooklaw26_SliceLooks_L3 r3 r4) 0).bind fun | .inl _ => ((loop (tracebooklaw26_SliceLooks_L2 r5 r6) 0).bind fun | .inl _ => ((loop (tracebooklaw26_SliceLooks_L1 r7 r8) 0).bind fun | .inl _ => ((tracebooklaw26_lives ).bind fun r58 => some r58) | .inr rv => some rv) | .inr rv => some rv) | .inr rv => some rv)))))))))))
theorem tracebooklaw26_SliceLooks_fun (p0 : (List api_Slice)) (p1 : Int) (p2 : Int) (p3 : Int) (r : Bool) (hF : tracebooklaw26_SliceLooks p0 p1 p2 p3 = some r) : Fun Try.prog 6 true [] [cL 8 t_api_Slice p0, cI p1, cI p2, cI p3] noHeap (cB r) noHeap := by
 refine Fun.of_walk0 Try.func6 c6 (by kernel_rfl) (rs := [.tmp 8]) (by kernel_rfl) ?_; unfold v6
 unfold tracebooklaw26_SliceLooks at hF
 refine wA rfl ?_; refine W_seq ?_; refine W_seq ?_; refine W_join (fun _ _ h => h) hF (fun v1 => [(0, cL 8 t_api_Slice p0), (1, cI p1), (2, cI p2), (3, cI p3), (25, cB v1)]) (fun v1 => []) ?_ ?_
 · rintro v1 hF
   refine wIf hF rfl (fun _ hF => ?_) fun _ hF => ?_
   · refine wE ?_; obtain ⟨r2, hr2, hF⟩ := bB hF
     refine rS (T_call (tracebooklaw26_lives_fun _ hr2) trivial rfl (.inl rfl) ?_); refine QV rfl ?_; cases hF
     exact W_ret wR
   refine W_skip ?_; refine wC 2 rfl ?_; obtain ⟨r3, hr3, hF⟩ := bB hF
   refine R_stepX trivial (X_callG [((902,680),(29,1))] rfl (callN _) (slice_Path_fun _ _ _ hr3) trivial ⟨.inl rfl, .inl rfl, trivial⟩ rfl rfl rfl ?_); refine Q_run SV 2 rfl ?_; obtain ⟨r4, hr4, hF⟩ := bB hF
   refine rS (T_call (tracebookref26_Path_fun _ _ _ hr4) ⟨rfl, rfl, trivial⟩ rfl (.inl rfl) ?_); refine QV rfl ?_; refine wC 2 rfl ?_; obtain ⟨r5, hr5, hF⟩ := bB hF
   refine R_stepX trivial (X_callG [((902,760),(35,1))] rfl (callN _) (slice_Children_fun _ _ _ hr5) trivial ⟨.inl rfl, .inl rfl, trivial⟩ rfl rfl rfl ?_); refine Q_run SV 2 rfl ?_; obtain ⟨r6, hr6, hF⟩ := bB hF
   refine R_stepX trivial (X_callG [((902,800),(38,1))] rfl (callN _) (tracebookref26_Children_fun _ _ _ hr6) trivial ⟨.inl rfl, .inl rfl, trivial⟩ rfl rfl rfl ?_); refine QV rfl ?_; refine wC 2 rfl ?_; obtain ⟨r7, hr7, hF⟩ := bB hF
   refine R_stepX trivial (X_callG [((902,840),(41,1))] rfl (callN _) (slice_Busy_fun _ _ _ hr7) trivial ⟨.inl rfl, .inl rfl, trivial⟩ rfl rfl rfl ?_); refine Q_run SV 2 rfl ?_; obtain ⟨r8, hr8, hF⟩ := bB hF
   refine R_stepX trivial (X_callG [((902,880),(44,1))] rfl (callN _) (tracebookref26_Busy_fun _ _ _ hr8) trivial ⟨.inl rfl, .inl rfl, trivial⟩ rfl rfl rfl ?_); refine QV rfl ?_; refine W_seq ?_; refine W_seq ?_
   refine W_join (fun _ _ h => h) hF (fun v9 => [(9, cO (29,1)), (10, cL 1 t_str r4), (11, cO (35,1)), (12, cO (38,1)), (13, cO (41,1)), (14, cO (44,1)), (74, cB v9)]) (fun v9 => [((29,1), .arr 9 1 (List.map t_str r3)), ((35,1), .arr 3 1 (List.map t_i64 r5)), ((38,1), .arr 3 1 (List.map t_i64 r6)), ((41,1), .arr 42 2 (List.map t_api_Span r7)), ((44,1), .arr 42 2 (List.map t_api_Span r8))]) ?_ ?_
   · rintro v9 hF
     refine wIf hF rfl (fun _ hF => ?_) fun _ hF => ?_
     · refine wA rfl ?_; cases hF
       exact W_ret wR
     refine W_skip ?_; refine W_seq ?_; refine wA rfl ?_; refine W_for (fun _ _ h => h) hF (.inl) (fun a21 => [(9, cO (29,1)), (10, cL 1 t_str r4), (11, cO (35,1)), (12, cO (38,1)), (13, cO (41,1)), (14, cO (44,1)), (15, cI a21)]) (fun a21 => [((29,1), .arr 9 1 (List.map t_str r3)), ((35,1), .arr 3 1 (List.map t_i64 r5)), ((38,1), .arr 3 1 (List.map t_i64 r6)), ((41,1), .arr 42 2 (List.map t_api_Span r7)), ((44,1), .arr 42 2 (List.map t_api_Span r8))]) (fun _ => [(11, cO (35,1)), (12, cO (38,1)), (13, cO (41,1)), (14, cO (44,1))]) (fun _ => [((35,1), .arr 3 1 (List.map t_i64 r5)), ((38,1), .arr 3 1 (List.map t_i64 r6)), ((41,1), .arr 42 2 (List.map t_api_Span r7)), ((44,1), .arr 42 2 (List.map t_api_Span r8))]) sw ?_ ?_
     · rintro ⟨⟩ hF
       refine W_seq ?_; refine wA rfl ?_; refine W_for (fun _ _ h => h) hF (.inl) (fun a37 => [(11, cO (35,1)), (12, cO (38,1)), (13, cO (41,1)), (14, cO (44,1)), (16, cI a37)]) (fun a37 => [((35,1), .arr 3 1 (List.map t_i64 r5)), ((38,1), .arr 3 1 (List.map t_i64 r6)), ((41,1), .arr 42 2 (List.map t_api_Span r7)), ((44,1), .arr 42 2 (List.map t_api_Span r8))]) (fun _ => [(13, cO (41,1)), (14, cO (44,1))]) (fun _ => [((41,1), .arr 42 2 (List.map t_api_Span r7)), ((44,1), .arr 42 2 (List.map t_api_Span r8))]) sw ?_ ?_
       · rintro ⟨⟩ hF
         refine W_seq ?_; refine wA rfl ?_; refine W_for (fun _ _ h => h) hF (.inl) (fun a53 => [(13, cO (41,1)), (14, cO (44,1)), (17, cI a53)]) (fun a53 => [((41,1), .arr 42 2 (List.map t_api_Span r7)), ((44,1), .arr 42 2 (List.map t_api_Span r8))]) (fun _ => []) (fun _ => []) sw ?_ ?_
         · rintro ⟨⟩ hF
           refine wE ?_; obtain ⟨r58, hr58, hF⟩ := bB hF
           refine rS (T_call (tracebooklaw26_lives_fun _ hr58) trivial rfl (.inl rfl) ?_); refine QV rfl ?_; cases hF
           exact W_ret wR
         rintro a53 x_0 hF cont_0 brk_0 fin_0
         unfold tracebooklaw26_SliceLooks_L1 at hF
         refine W_seq ?_; refine wC 2 rfl ?_; refine rS (T_len (tc := t_api_Span) r7 (.own _ _ rfl) ?_); refine QV rfl ?_; refine wIf hF rfl (fun _ hF => ?_) fun _ hF => ?_
         · refine W_skip ?_; refine W_seq ?_; refine W_block ?_; refine W_seq ?_; refine W_regD (by decide) (by kernel_rfl) rfl ?_; refine Q_run SP 2 rfl ?_; obtain ⟨y59, hy59, hF⟩ := bB hF
           refine R_step SP trivial (T_ixO (tc := t_api_Span) r7 rfl rfl rfl hy59 ?_); refine R_step SP trivial (T_ldE (tc := t_api_Span) r7 rfl rfl (idx_get hy59).2.1 rfl ?_); refine Q_run SP 2 rfl ?_; obtain ⟨y60, hy60, hF⟩ := bB hF
           refine R_step SP trivial (T_ixO (tc := t_api_Span) r8 rfl rfl rfl hy60 ?_); refine R_step SP trivial (T_ldE (tc := t_api_Span) r8 rfl rfl (idx_get hy60).2.1 rfl ?_); refine R_step SP trivial (T_aeq (b := (decide (y59.fFrom = y60.fFrom) && (decide (y59.fTo = y60.fTo) && true))) (eqOk_of (n := 2) (sh := [.int .i64, .int .i64]) Try.underlying41 (by kernel_rfl) (by kernel_rfl)) rfl rfl rfl rfl ?_)
           refine QP rfl ?_; refine wIf hF rfl (fun _ hF => ?_) fun _ hF => ?_
           · refine wA rfl ?_; have hF := fin_0 _ (oi hF); cases hF
             exact W_ret wR
           refine W_skip ?_; refine wB rfl ?_; exact cont_0 _ _ _ (oi hF) sw
         refine W_exit ?_; refine thenQ_exit ?_; refine thenQ_exit ?_; refine blockQ_hit ?_; exact brk_0 _ _ _ (oi hF) sw
       rintro a37 x_0 hF cont_0 brk_0 fin_0
       unfold tracebooklaw26_SliceLooks_L2 at hF
       refine W_seq ?_; refine wC 2 rfl ?_; refine rS (T_len (tc := t_i64) r5 (.own _ _ rfl) ?_); refine QV rfl ?_; refine wIf hF rfl (fun _ hF => ?_) fun _ hF => ?_
       · refine W_skip ?_; refine W_seq ?_; refine W_block ?_; refine W_seq ?_; refine W_regD (by decide) (by kernel_rfl) rfl ?_; refine Q_run SP 2 rfl ?_; obtain ⟨y63, hy63, hF⟩ := bB hF
         refine R_step SP trivial (T_ixO (tc := t_i64) r5 rfl rfl rfl hy63 ?_); refine R_step SP trivial (T_ldE (tc := t_i64) r5 rfl rfl (idx_get hy63).2.1 rfl ?_); refine Q_run SP 2 rfl ?_; obtain ⟨y64, hy64, hF⟩ := bB hF
         refine R_step SP trivial (T_ixO (tc := t_i64) r6 rfl rfl rfl hy64 ?_); refine R_step SP trivial (T_ldE (tc := t_i64) r6 rfl rfl (idx_get hy64).2.1 rfl ?_); refine QP rfl ?_; refine wIf hF rfl (fun _ hF => ?_) fun _ hF => ?_
         · refine wA rfl ?_; have hF := fin_0 _ (oi hF); cases hF
           exact W_ret wR
         refine W_skip ?_; refine wB rfl ?_; exact cont_0 _ _ _ (oi hF) sw
       refine W_exit ?_; refine thenQ_exit ?_; refine thenQ_exit ?_; refine blockQ_hit ?_; exact brk_0 _ _ _ (oi hF) sw
     rintro a21 x_0 hF cont_0 brk_0 fin_0
     unfold tracebooklaw26_SliceLooks_L3 at hF
     refine W_seq ?_; refine wC 2 rfl ?_; refine rS (T_len (tc := t_str) r3 (.own _ _ rfl) ?_); refine QV rfl ?_; refine wIf hF rfl (fun _ hF => ?_) fun _ hF => ?_
     · refine W_skip ?_; refine W_seq ?_; refine W_block ?_; refine W_seq ?_; refine W_regD (by decide) (by kernel_rfl) rfl ?_; refine Q_run SP 2 rfl ?_; obtain ⟨y67, hy67, hF⟩ := bB hF
       refine R_step SP trivial (T_ixO (tc := t_str) r3 rfl rfl rfl hy67 ?_); refine R_step SP trivial (T_ldE (tc := t_str) r3 rfl rfl (idx_get hy67).2.1 rfl ?_); refine Q_run SP 2 rfl ?_; obtain ⟨y68, hy68, hF⟩ := bB hF
       refine R_step SP trivial (T_ixT (tc := t_str) r4 rfl rfl hy68 ?_); refine QP rfl ?_; refine wIf hF rfl (fun _ hF => ?_) fun _ hF => ?_
       · refine wA rfl ?_; have hF := fin_0 _ (oi hF); cases hF
         exact W_ret wR
       refine W_skip ?_; refine wB rfl ?_; exact cont_0 _ _ _ (oi hF) sw
     refine W_exit ?_; refine thenQ_exit ?_; refine thenQ_exit ?_; refine blockQ_hit ?_; exact brk_0 _ _ _ (oi hF) sw
   intro join hF
   refine wD 1 rfl ?_; refine rS (T_len (tc := t_str) r3 (.own _ _ rfl) ?_); refine Q_run SV 1 rfl ?_; refine rS (T_len (tc := t_str) r4 .tree ?_); refine Q_run SV 2 rfl ?_; cases h72 : (!decide ((List.length r3 : Int) = (List.length r4 : Int)))
   · have hF := bF' h72 hF; refine Q_run SV 1 rfl ?_; refine R_step SV rfl (T_len (tc := t_i64) r5 (.own _ _ rfl) ?_); refine Q_run SV 1 rfl ?_; refine R_step SV rfl (T_len (tc := t_i64) r6 (.own _ _ rfl) ?_)
     refine Q_run SV 3 rfl ?_; cases h73 : (!decide ((List.length r5 : Int) = (List.length r6 : Int)))
     · have hF := bF' h73 hF; refine Q_run SV 1 rfl ?_; refine R_step SV rfl (T_len (tc := t_api_Span) r7 (.own _ _ rfl) ?_); refine Q_run SV 1 rfl ?_; refine R_step SV rfl (T_len (tc := t_api_Span) r8 (.own _ _ rfl) ?_)
       refine Q_run SV 3 rfl ?_; cases h74 : (!decide ((List.length r7 : Int) = (List.length r8 : Int)))
       · have hF := bF' h74 hF; refine Q_run SV 3 rfl ?_; obtain ⟨r75, hr75, hF⟩ := bB' hF
         refine R_step SV rfl (T_call (slice_At_fun _ _ _ _ hr75) ⟨rfl, rfl, rfl, trivial⟩ rfl (.inl rfl) ?_); refine Q_run SV 3 rfl ?_; obtain ⟨r76, hr76, hF⟩ := bB' hF
         refine R_step SV rfl (T_call (tracebookref26_At_fun _ _ _ _ hr76) ⟨rfl, rfl, rfl, trivial⟩ rfl (.inl rfl) ?_); refine QV rfl ?_; exact join (!decide (r75 = r76)) _ _ hF sw
       have hF := bT' h74 hF; refine QV rfl ?_; exact join true _ _ hF sw
     have hF := bT' h73 hF; refine QV rfl ?_; exact join true _ _ hF sw
   have hF := bT' h72 hF; refine QV rfl ?_; exact join true _ _ hF sw
 intro join hF
 refine wD 1 rfl ?_; refine rS (T_len (tc := t_api_Slice) p0 .tree ?_); refine Q_run SV 2 rfl ?_; cases h78 : (decide (40 < (List.length p0 : Int)))
 · have hF := bF' h78 hF; refine Q_run SV 1 rfl ?_; obtain ⟨r79, hr79, hF⟩ := bB' hF
   refine R_step SV rfl (T_call (tracebookref26_Check_fun _ _ hr79) ⟨rfl, trivial⟩ rfl (.inl rfl) ?_); refine QV rfl ?_; exact join (!decide (r79 = 0)) _ _ hF sw
 have hF := bT' h78 hF; refine QV rfl ?_; exact join true _ _ hF sw
def internal_stringslite_IndexByte (p0 : ByteArray) (p1 : Int) : Option Int := some (Go.Lib.indexByte p0.data.toList p1.toNat.toUInt8)
theorem internal_stringslite_IndexByte_fun (p0 : ByteArray) (p1 : Int) (r : Int) (hF : internal_stringslite_IndexByte p0 p1 = some r) : Fun Try.prog 85 true [] [.c (jS p0), .c (.imm (.sc (.int .u8 p1)))] noHeap (cI r) noHeap := by
 cases hF
 refine Fun.of_plain [.string p0, .int .u8 p1] (.int .i64 (Go.Lib.indexByte p0.data.toList p1.toNat.toUInt8)) (fun w => ?_) rfl
 go_enter Try.func85, Try.ntmps85; go_wp2; rw [run_callFunc_extern Try.func99 (by kernel_rfl) (by kernel_rfl) (by kernel_rfl) (e := Extern.BytealgIndexByte.indexByte) (by kernel_rfl), Go.Lib.run_indexByteString]
 simp only [Result.andThen]; rw [Oper.upon_value]; go_wp2; go_ret; exact ⟨rfl, rfl⟩
def strings_IndexByte (p0 : ByteArray) (p1 : Int) : Option Int :=
  ((internal_stringslite_IndexByte p0 p1).bind fun r1 => some r1)
theorem strings_IndexByte_fun (p0 : ByteArray) (p1 : Int) (r : Int) (hF : strings_IndexByte p0 p1 = some r) : Fun Try.prog 78 true [] [.c (jS p0), .c (.imm (.sc (.int .u8 p1)))] noHeap (cI r) noHeap := by
 refine Fun.of_walk0 Try.func78 c78 (by kernel_rfl) (rs := [.tmp 4]) (by kernel_rfl) ?_; unfold v78
 unfold strings_IndexByte at hF
 refine wA rfl ?_; refine wC 2 rfl ?_; obtain ⟨r1, hr1, hF⟩ := bB hF
 refine rS (T_call (internal_stringslite_IndexByte_fun _ _ _ hr1) ⟨rfl, rfl, trivial⟩ rfl (.inl rfl) ?_); refine QV rfl ?_; cases hF
 exact W_ret wR
def intern_letter (p0 : Int) : Option Bool :=
  (((bif (decide (97 ≤ p0)) then (bif (decide (p0 ≤ 122)) then some true else (bif (decide (65 ≤ p0)) then (bif (decide (p0 ≤ 90)) then some true else (bif (decide (48 ≤ p0)) then (bif (decide (p0 ≤ 57)) then some true else ((strings_IndexByte ⟨#[95, 46, 58, 47, 60, 62, 36, 42, 126, 45]⟩ p0).bind fun r23 => some (decide (0 ≤ r23)))) else ((strings_IndexByte ⟨#[95, 46, 58, 47, 60, 62, 36, 42, 126, 45]⟩ p0).bind fun r21 => some (decide (0 ≤ r21))))) else (bif (decide (48 ≤ p0)) then (bif (decide (p0 ≤ 57)) then some true else ((strings_IndexByte ⟨#[95, 46, 58, 47, 60, 62, 36, 42, 126, 45]⟩ p0).bind fun r18 => some (decide (0 ≤ r18)))) else ((strings_IndexByte ⟨#[95, 46, 58, 47, 60, 62, 36, 42, 126, 45]⟩ p0).bind fun r16 => some (decide (0 ≤ r16)))))) else (bif (decide (65 ≤ p0)) then (bif (decide (p0 ≤ 90)) then some true else (bif (decide (48 ≤ p0)) then (bif (decide (p0 ≤ 57)) then some true else ((strings_IndexByte ⟨#[95, 46, 58, 47, 60, 62, 36, 42, 126, 45]⟩ p0).bind fun r12 => some (decide (0 ≤ r12)))) else ((strings_IndexByte ⟨#[95, 46, 58, 47, 60, 62, 36, 42, 126, 45]⟩ p0).bind fun r10 => some (decide (0 ≤ r10))))) else (bif (decide (48 ≤ p0)) then (bif (decide (p0 ≤ 57)) then some true else ((strings_IndexByte ⟨#[95, 46, 58, 47, 60, 62, 36, 42, 126, 45]⟩ p0).bind fun r7 => some (decide (0 ≤ r7)))) else ((strings_IndexByte ⟨#[95, 46, 58, 47, 60, 62, 36, 42, 126, 45]⟩ p0).bind fun r5 => some (decide (0 ≤ r5)))))) : Option Bool).bind fun v1 => some v1)
theorem intern_letter_fun (p0 : Int) (r : Bool) (hF : intern_letter p0 = some r) : Fun Try.prog 63 true [] [.c (.imm (.sc (.int .u8 p0)))] noHeap (cB r) noHeap := by
 refine Fun.of_walk0 Try.func63 c63 (by kernel_rfl) (rs := [.tmp 2]) (by kernel_rfl) ?_; unfold v63
 unfold intern_letter at hF
 refine wA rfl ?_; refine W_seq ?_; refine W_join (fun _ _ h => h) hF (fun v1 => [(2, cB v1)]) (fun v1 => []) ?_ ?_
 · rintro v1 hF
   cases hF
   exact W_ret wR
 intro join hF
 refine wD 3 rfl ?_; cases h2 : (decide (97 ≤ p0))
 · have hF := bF' h2 hF; refine Q_run SV 7 rfl ?_; cases h3 : (decide (65 ≤ p0))
   · have hF := bF' h3 hF; refine Q_run SV 8 rfl ?_; cases h4 : (decide (48 ≤ p0))
     · have hF := bF' h4 hF; refine Q_run SV 6 rfl ?_; obtain ⟨r5, hr5, hF⟩ := bB' hF
       refine R_step SV rfl (T_call (strings_IndexByte_fun _ _ _ hr5) ⟨rfl, rfl, trivial⟩ rfl (.inl rfl) ?_); refine QV rfl ?_; exact join (decide (0 ≤ r5)) _ _ hF sw
     have hF := bT' h4 hF; refine Q_run SV 5 rfl ?_; cases h6 : (decide (p0 ≤ 57))
     · have hF := bF' h6 hF; refine Q_run SV 1 rfl ?_; obtain ⟨r7, hr7, hF⟩ := bB' hF
       refine R_step SV rfl (T_call (strings_IndexByte_fun _ _ _ hr7) ⟨rfl, rfl, trivial⟩ rfl (.inl rfl) ?_); refine QV rfl ?_; exact join (decide (0 ≤ r7)) _ _ hF sw
     have hF := bT' h6 hF; refine QV rfl ?_; exact join true _ _ hF sw
   have hF := bT' h3 hF; refine Q_run SV 5 rfl ?_; cases h8 : (decide (p0 ≤ 90))
   · have hF := bF' h8 hF; refine Q_run SV 3 rfl ?_; cases h9 : (decide (48 ≤ p0))
     · have hF := bF' h9 hF; refine Q_run SV 6 rfl ?_; obtain ⟨r10, hr10, hF⟩ := bB' hF
       refine R_step SV rfl (T_call (strings_IndexByte_fun _ _ _ hr10) ⟨rfl, rfl, trivial⟩ rfl (.inl rfl) ?_); refine QV rfl ?_; exact join (decide (0 ≤ r10)) _ _ hF sw
     have hF := bT' h9 hF; refine Q_run SV 5 rfl ?_; cases h11 : (decide (p0 ≤ 57))
     · have hF := bF' h11 hF; refine Q_run SV 1 rfl ?_; obtain ⟨r12, hr12, hF⟩ := bB' hF
       refine R_step SV rfl (T_call (strings_IndexByte_fun _ _ _ hr12) ⟨rfl, rfl, trivial⟩ rfl (.inl rfl) ?_); refine QV rfl ?_; exact join (decide (0 ≤ r12)) _ _ hF sw
     have hF := bT' h11 hF; refine QV rfl ?_; exact join true _ _ hF sw
   have hF := bT' h8 hF; refine QV rfl ?_; exact join true _ _ hF sw
 have hF := bT' h2 hF; refine Q_run SV 4 rfl ?_; cases h13 : (decide (p0 ≤ 122))
 · have hF := bF' h13 hF; refine Q_run SV 3 rfl ?_; cases h14 : (decide (65 ≤ p0))
   · have hF := bF' h14 hF; refine Q_run SV 8 rfl ?_; cases h15 : (decide (48 ≤ p0))
     · have hF := bF' h15 hF; refine Q_run SV 6 rfl ?_; obtain ⟨r16, hr16, hF⟩ := bB' hF
       refine R_step SV rfl (T_call (strings_IndexByte_fun _ _ _ hr16) ⟨rfl, rfl, trivial⟩ rfl (.inl rfl) ?_); refine QV rfl ?_; exact join (decide (0 ≤ r16)) _ _ hF sw
     have hF := bT' h15 hF; refine Q_run SV 5 rfl ?_; cases h17 : (decide (p0 ≤ 57))
     · have hF := bF' h17 hF; refine Q_run SV 1 rfl ?_; obtain ⟨r18, hr18, hF⟩ := bB' hF
       refine R_step SV rfl (T_call (strings_IndexByte_fun _ _ _ hr18) ⟨rfl, rfl, trivial⟩ rfl (.inl rfl) ?_); refine QV rfl ?_; exact join (decide (0 ≤ r18)) _ _ hF sw
     have hF := bT' h17 hF; refine QV rfl ?_; exact join true _ _ hF sw
   have hF := bT' h14 hF; refine Q_run SV 5 rfl ?_; cases h19 : (decide (p0 ≤ 90))
   · have hF := bF' h19 hF; refine Q_run SV 3 rfl ?_; cases h20 : (decide (48 ≤ p0))
     · have hF := bF' h20 hF; refine Q_run SV 6 rfl ?_; obtain ⟨r21, hr21, hF⟩ := bB' hF
       refine R_step SV rfl (T_call (strings_IndexByte_fun _ _ _ hr21) ⟨rfl, rfl, trivial⟩ rfl (.inl rfl) ?_); refine QV rfl ?_; exact join (decide (0 ≤ r21)) _ _ hF sw
     have hF := bT' h20 hF; refine Q_run SV 5 rfl ?_; cases h22 : (decide (p0 ≤ 57))
     · have hF := bF' h22 hF; refine Q_run SV 1 rfl ?_; obtain ⟨r23, hr23, hF⟩ := bB' hF
       refine R_step SV rfl (T_call (strings_IndexByte_fun _ _ _ hr23) ⟨rfl, rfl, trivial⟩ rfl (.inl rfl) ?_); refine QV rfl ?_; exact join (decide (0 ≤ r23)) _ _ hF sw
     have hF := bT' h22 hF; refine QV rfl ?_; exact join true _ _ hF sw
   have hF := bT' h19 hF; refine QV rfl ?_; exact join true _ _ hF sw
 have hF := bT' h13 hF; refine QV rfl ?_; exact join true _ _ hF sw
def intern_Name_L1 (p0 : ByteArray) : Int → Option (Int ⊕ (Unit ⊕ Int)) := fun a13 =>
  (bif (decide (a13 < (ByteArray.size p0 : Int))) then ((idx (ByteArray.data p0).toList a13).bind fun y18 => ((intern_letter (UInt8.toNat y18 : Int)).bind fun r19 => (bif (!r19) then some (.inr (.inr 3)) else some (.inl (w64 (a13 + 1)))))) else some (.inr (.inl ())))
def intern_Name (p0 : ByteArray) : Option Int :=
  (((bif (decide (p0 = ⟨#[]⟩)) then some true else some (decide (40 < (ByteArray.size p0 : Int)))) : Option Bool).bind fun v1 => (bif v1 then some 3 else ((loop (intern_Name_L1 p0) 0).bind fun | .inl _ => some 0 | .inr rv => some rv)))
theorem intern_Name_fun (p0 : ByteArray) (r : Int) (hF : intern_Name p0 = some r) : Fun Try.prog 40 true [] [.c (jS p0)] noHeap (cI r) noHeap := by
 refine Fun.of_walk0 Try.func40 c40 (by kernel_rfl) (rs := [.tmp 2]) (by kernel_rfl) ?_; unfold v40
 unfold intern_Name at hF
 refine wA rfl ?_; refine W_seq ?_; refine W_seq ?_; refine W_join (fun _ _ h => h) hF (fun v1 => [(0, .c (jS p0)), (10, cB v1)]) (fun v1 => []) ?_ ?_
 · rintro v1 hF
   refine wIf hF rfl (fun _ hF => ?_) fun _ hF => ?_
   · refine wA rfl ?_; cases hF
     exact W_ret wR
   refine W_skip ?_; refine W_seq ?_; refine wA rfl ?_; refine W_for (fun _ _ h => h) hF (.inl) (fun a13 => [(0, .c (jS p0)), (12, cI (ByteArray.size p0 : Int)), (13, cI a13)]) (fun a13 => []) (fun _ => []) (fun _ => []) sw ?_ ?_
   · rintro ⟨⟩ hF
     refine wA rfl ?_; cases hF
     exact W_ret wR
   rintro a13 x_0 hF cont_0 brk_0 fin_0
   unfold intern_Name_L1 at hF
   refine wA rfl ?_; refine W_seq ?_; refine wIf hF rfl (fun _ hF => ?_) fun _ hF => ?_
   · refine W_skip ?_; refine W_seq ?_; refine W_block ?_; refine wA rfl ?_; refine wC 2 rfl ?_; obtain ⟨y18, hy18, hF⟩ := bB hF
     refine rS (T_ixS p0 rfl rfl hy18 ?_); obtain ⟨r19, hr19, hF⟩ := bB hF
     refine rS (T_call (intern_letter_fun _ _ hr19) ⟨rfl, trivial⟩ rfl (.inl rfl) ?_); refine QV rfl ?_; refine wIf hF rfl (fun _ hF => ?_) fun _ hF => ?_
     · refine wA rfl ?_; have hF := fin_0 _ (oi hF); cases hF
       exact W_ret wR
     refine W_skip ?_; refine wB rfl ?_; exact cont_0 _ _ _ (oi hF) sw
   refine W_exit ?_; refine thenQ_exit ?_; refine thenQ_exit ?_; refine blockQ_hit ?_; exact brk_0 _ _ _ (oi hF) sw
 intro join hF
 refine wD 3 rfl ?_; cases h23 : (decide (p0 = ⟨#[]⟩))
 · have hF := bF' h23 hF; refine QV rfl ?_; exact join (decide (40 < (ByteArray.size p0 : Int))) _ _ hF sw
 have hF := bT' h23 hF; refine QV rfl ?_; exact join true _ _ hF sw
def cmp_isNaN_int (p0 : Int) : Option Bool :=
  some (!decide (p0 = p0))
theorem cmp_isNaN_int_fun (p0 : Int) (r : Bool) (hF : cmp_isNaN_int p0 = some r) : Fun Try.prog 77 true [] [cI p0] noHeap (cB r) noHeap := by
 refine Fun.of_walk0 Try.func77 c77 (by kernel_rfl) (rs := [.tmp 2]) (by kernel_rfl) ?_; unfold v77
 unfold cmp_isNaN_int at hF
 refine wA rfl ?_; refine wA rfl ?_; cases hF
 exact W_ret wR
def cmp_Compare_int (p0 : Int) (p1 : Int) : Option Int :=
  ((cmp_isNaN_int p0).bind fun r1 => ((cmp_isNaN_int p1).bind fun r2 => (bif r1 then (bif r2 then some 0 else some (-1)) else (bif r2 then some 1 else (bif (decide (p0 < p1)) then some (-1) else (bif (decide (p1 < p0)) then some 1 else some 0))))))
theorem cmp_Compare_int_fun (p0 : Int) (p1 : Int) (r : Int) (hF : cmp_Compare_int p0 p1 = some r) : Fun Try.prog 57 true [] [cI p0, cI p1] noHeap (cI r) noHeap := by
 refine Fun.of_walk0 Try.func57 c57 (by kernel_rfl) (rs := [.tmp 4]) (by kernel_rfl) ?_; unfold v57
 unfold cmp_Compare_int at hF
 refine wA rfl ?_; refine wC 1 rfl ?_; obtain ⟨r1, hr1, hF⟩ := bB hF
 refine rS (T_call (cmp_isNaN_int_fun _ _ hr1) ⟨rfl, trivial⟩ rfl (.inl rfl) ?_); refine QV rfl ?_; refine wC 1 rfl ?_; obtain ⟨r2, hr2, hF⟩ := bB hF
 refine rS (T_call (cmp_isNaN_int_fun _ _ hr2) ⟨rfl, trivial⟩ rfl (.inl rfl) ?_); refine QV rfl ?_; refine W_seq ?_; refine wA rfl ?_; refine wIf hF rfl (fun _ hF => ?_) fun _ hF => ?_
 · refine W_seq ?_; refine wA rfl ?_; refine wIf hF rfl (fun _ hF => ?_) fun _ hF => ?_
   · refine wA rfl ?_; cases hF
     exact W_ret wR
   refine W_skip ?_; refine wA rfl ?_; cases hF
   exact W_ret wR
 refine W_skip ?_; refine W_seq ?_; refine wA rfl ?_; refine wIf hF rfl (fun _ hF => ?_) fun _ hF => ?_
 · refine wA rfl ?_; cases hF
   exact W_ret wR
 refine W_skip ?_; refine W_seq ?_; refine wA rfl ?_; refine wIf hF rfl (fun _ hF => ?_) fun _ hF => ?_
 · refine wA rfl ?_; cases hF
   exact W_ret wR
 refine W_skip ?_; refine W_seq ?_; refine wA rfl ?_; refine wIf hF rfl (fun _ hF => ?_) fun _ hF => ?_
 · refine wA rfl ?_; cases hF
   exact W_ret wR
 refine W_skip ?_; refine wA rfl ?_; cases hF
 exact W_ret wR
def cmp_Or_int_L1 (p0 : (List Int)) : Int → Option (Int ⊕ (Unit ⊕ Int)) := fun a10 =>
  (bif (decide (a10 < (List.length p0 : Int))) then ((idx p0 a10).bind fun y14 => (bif (!decide (y14 = 0)) then some (.inr (.inr y14)) else some (.inl (w64 (a10 + 1))))) else some (.inr (.inl ())))
def cmp_Or_int (p0 : (List Int)) : Option Int :=
  ((loop (cmp_Or_int_L1 p0) 0).bind fun | .inl _ => some 0 | .inr rv => some rv)
theorem cmp_Or_int_fun (p0 : (List Int)) (r : Int) (hF : cmp_Or_int p0 = some r) : Fun Try.prog 56 true [] [cL 1 t_i64 p0] noHeap (cI r) noHeap := by
 refine Fun.of_walk0 Try.func56 c56 (by kernel_rfl) (rs := [.tmp 2]) (by kernel_rfl) ?_; unfold v56
 unfold cmp_Or_int at hF
 refine wA rfl ?_; refine wA rfl ?_; refine W_seq ?_; refine wC 1 rfl ?_; refine rS (T_len (tc := t_i64) p0 .tree ?_); refine QV rfl ?_; refine W_for (fun _ _ h => h) hF (.inl) (fun a10 => [(3, cI 0), (6, cL 1 t_i64 p0), (7, cI (List.length p0 : Int)), (8, cI a10)]) (fun a10 => []) (fun _ => [(3, cI 0)]) (fun _ => []) sw ?_ ?_
 · rintro ⟨⟩ hF
   refine wA rfl ?_; cases hF
   exact W_ret wR
 rintro a10 x_0 hF cont_0 brk_0 fin_0
 unfold cmp_Or_int_L1 at hF
 refine wA rfl ?_; refine W_seq ?_; refine wIf hF rfl (fun _ hF => ?_) fun _ hF => ?_
 · refine W_skip ?_; refine W_seq ?_; refine W_block ?_; refine wE ?_; obtain ⟨y14, hy14, hF⟩ := bB hF
   refine rS (T_ixT (tc := t_i64) p0 rfl rfl hy14 ?_); refine QV rfl ?_; refine wA rfl ?_; refine wIf hF rfl (fun _ hF => ?_) fun _ hF => ?_
   · refine wA rfl ?_; have hF := fin_0 _ (oi hF); cases hF
     exact W_ret wR
   refine W_skip ?_; refine wB rfl ?_; exact cont_0 _ _ _ (oi hF) sw
 refine W_exit ?_; refine thenQ_exit ?_; refine thenQ_exit ?_; refine blockQ_hit ?_; exact brk_0 _ _ _ (oi hF) sw
def slice_compare (p0 : api_Slice) (p1 : api_Slice) : Option Int :=
  ((cmp_Compare_int p0.fSpan.fFrom p1.fSpan.fFrom).bind fun r1 => ((cmp_Compare_int p1.fSpan.fTo p0.fSpan.fTo).bind fun r2 => ((cmp_Compare_int p0.fThread p1.fThread).bind fun r3 => ((cmp_Or_int [r1, r2, r3]).bind fun r4 => some r4))))
theorem slice_compare_fun (p0 : api_Slice) (p1 : api_Slice) (r : Int) (hF : slice_compare p0 p1 = some r) : Fun Try.prog 34 true [] [.agg (m_api_Slice p0), .agg (m_api_Slice p1)] noHeap (cI r) noHeap := by
 refine Fun.of_walk0 Try.func34 c34 (by kernel_rfl) (rs := [.tmp 4]) (by kernel_rfl) ?_; unfold v34
 unfold slice_compare at hF
 refine wA rfl ?_; refine W_seq ?_; refine W_regD (by decide) (by kernel_rfl) rfl ?_; refine Q_run SP 6 rfl ?_; obtain ⟨r1, hr1, hF⟩ := bB hF
 refine R_step SP trivial (T_call (cmp_Compare_int_fun _ _ _ hr1) ⟨rfl, rfl, trivial⟩ rfl (.inl rfl) ?_); refine Q_run SP 6 rfl ?_; obtain ⟨r2, hr2, hF⟩ := bB hF
 refine R_step SP trivial (T_call (cmp_Compare_int_fun _ _ _ hr2) ⟨rfl, rfl, trivial⟩ rfl (.inl rfl) ?_); refine Q_run SP 4 rfl ?_; obtain ⟨r3, hr3, hF⟩ := bB hF
 refine R_step SP trivial (T_call (cmp_Compare_int_fun _ _ _ hr3) ⟨rfl, rfl, trivial⟩ rfl (.inl rfl) ?_); refine R_step SP trivial (T_bsl (tc := t_i64) [r1, r2, r3] rfl ⟨rfl, rfl, rfl, trivial⟩ rfl (fun _ => rfl) rfl ?_)
 obtain ⟨r4, hr4, hF⟩ := bB hF
 refine R_step SP trivial (T_call (cmp_Or_int_fun _ _ hr4) ⟨⟨_, rfl⟩, trivial⟩ rfl (.inl rfl) ?_); refine QP rfl ?_; cases hF
 exact W_ret wR
def slice_nested_L1 (p0 : (List api_Slice)) : Int → Option (Int ⊕ (Unit ⊕ Bool)) := fun a30 =>
  (bif (decide (a30 < (List.length p0 : Int))) then ((idx p0 a30).bind fun y44 => (((bif (decide (y44.fParent < (-1))) then some true else some (decide (a30 ≤ y44.fParent))) : Option Bool).bind fun v45 => (bif v45 then some (.inr (.inr false)) else (bif (decide (y44.fParent = (-1))) then (bif (!decide (y44.fDepth = 0)) then some (.inr (.inr false)) else some (.inl (w64 (a30 + 1)))) else ((idx p0 y44.fParent).bind fun y47 => (((bif (!decide (y47.fThread = y44.fThread)) then some true else (bif (decide (y44.fSpan.fFrom < y47.fSpan.fFrom)) then some true else (bif (decide (y47.fSpan.fTo < y44.fSpan.fTo)) then some true else some (!decide (y44.fDepth = (w64 (y47.fDepth + 1))))))) : Option Bool).bind fun v48 => (bif v48 then some (.inr (.inr false)) else some (.inl (w64 (a30 + 1)))))))))) else some (.inr (.inl ())))
def slice_nested (p0 : (List api_Slice)) : Option Bool :=
  ((loop (slice_nested_L1 p0) 0).bind fun | .inl _ => some true | .inr rv => some rv)
theorem slice_nested_fun (p0 : (List api_Slice)) (r : Bool) (hF : slice_nested p0 = some r) : Fun Try.prog 41 true [] [cL 8 t_api_Slice p0] noHeap (cB r) noHeap := by
 refine Fun.of_walk0 Try.func41 c41 (by kernel_rfl) (rs := [.tmp 2]) (by kernel_rfl) ?_; unfold v41
 unfold slice_nested at hF
 refine wA rfl ?_; refine W_seq ?_; refine wC 1 rfl ?_; refine rS (T_len (tc := t_api_Slice) p0 .tree ?_); refine QV rfl ?_; refine W_for (fun _ _ h => h) hF (.inl) (fun a30 => [(0, cL 8 t_api_Slice p0), (6, cL 8 t_api_Slice p0), (7, cI (List.length p0 : Int)), (8, cI a30)]) (fun a30 => []) (fun _ => []) (fun _ => []) sw ?_ ?_
 · rintro ⟨⟩ hF
   refine wA rfl ?_; cases hF
   exact W_ret wR
 rintro a30 x_0 hF cont_0 brk_0 fin_0
 unfold slice_nested_L1 at hF
 refine wA rfl ?_; refine W_seq ?_; refine wIf hF rfl (fun _ hF => ?_) fun _ hF => ?_
 · refine W_skip ?_; refine W_seq ?_; refine W_block ?_; refine wC 1 rfl ?_; obtain ⟨y44, hy44, hF⟩ := bB hF
   refine rS (T_ixT (tc := t_api_Slice) p0 rfl rfl hy44 ?_); refine QV rfl ?_; refine W_block ?_; refine W_seq ?_; refine W_join (fun _ _ h => h) hF (fun v45 => [(0, cL 8 t_api_Slice p0), (4, cP (4,0) 0), (6, cL 8 t_api_Slice p0), (7, cI (List.length p0 : Int)), (8, cI a30), (49, cB v45)]) (fun v45 => [((4,0), .box (m_api_Slice y44))]) ?_ ?_
   · rintro v45 hF
     refine wIf hF rfl (fun _ hF => ?_) fun _ hF => ?_
     · refine wA rfl ?_; have hF := fin_0 _ (oi hF); cases hF
       exact W_ret wR
     refine wA rfl ?_; refine wIf hF rfl (fun _ hF => ?_) fun _ hF => ?_
     · refine wA rfl ?_; refine wIf hF rfl (fun _ hF => ?_) fun _ hF => ?_
       · refine wA rfl ?_; have hF := fin_0 _ (oi hF); cases hF
         exact W_ret wR
       refine W_skip ?_; refine wB rfl ?_; exact cont_0 _ _ _ (oi hF) sw
     refine wC 3 rfl ?_; obtain ⟨y47, hy47, hF⟩ := bB hF
     refine rS (T_ixT (tc := t_api_Slice) p0 rfl rfl hy47 ?_); refine QV rfl ?_; refine W_seq ?_; refine W_join (fun _ _ h => h) hF (fun v48 => [(0, cL 8 t_api_Slice p0), (6, cL 8 t_api_Slice p0), (7, cI (List.length p0 : Int)), (8, cI a30), (48, cB v48)]) (fun v48 => []) ?_ ?_
     · rintro v48 hF
       refine wIf hF rfl (fun _ hF => ?_) fun _ hF => ?_
       · refine wA rfl ?_; have hF := fin_0 _ (oi hF); cases hF
         exact W_ret wR
       refine W_skip ?_; refine wB rfl ?_; exact cont_0 _ _ _ (oi hF) sw
     intro join hF
     refine wD 6 rfl ?_; cases h50 : (!decide (y47.fThread = y44.fThread))
     · have hF := bF' h50 hF; refine Q_run SV 9 rfl ?_; cases h51 : (decide (y44.fSpan.fFrom < y47.fSpan.fFrom))
       · have hF := bF' h51 hF; refine Q_run SV 9 rfl ?_; cases h52 : (decide (y47.fSpan.fTo < y44.fSpan.fTo))
         · have hF := bF' h52 hF; refine QV rfl ?_; exact join (!decide (y44.fDepth = (w64 (y47.fDepth + 1)))) _ _ hF sw
         have hF := bT' h52 hF; refine QV rfl ?_; exact join true _ _ hF sw
       have hF := bT' h51 hF; refine QV rfl ?_; exact join true _ _ hF sw
     have hF := bT' h50 hF; refine QV rfl ?_; exact join true _ _ hF sw
   intro join hF
   refine wD 4 rfl ?_; cases h55 : (decide (y44.fParent < (-1)))
   · have hF := bF' h55 hF; refine QV rfl ?_; exact join (decide (a30 ≤ y44.fParent)) _ _ hF sw
   have hF := bT' h55 hF; refine QV rfl ?_; exact join true _ _ hF sw
 refine W_exit ?_; refine thenQ_exit ?_; refine thenQ_exit ?_; refine blockQ_hit ?_; exact brk_0 _ _ _ (oi hF) sw
def slice_under_L1 (p0 : (List api_Slice)) (p1 : Int) : Int → Option (Int ⊕ (Unit ⊕ Bool)) := fun a10 =>
  (bif (decide (0 ≤ a10)) then (bif (decide (p1 = a10)) then some (.inr (.inr true)) else ((idx p0 a10).bind fun y14 => some (.inl y14.fParent))) else some (.inr (.inl ())))
def slice_under (p0 : (List api_Slice)) (p1 : Int) (p2 : Int) : Option Bool :=
  ((loop (slice_under_L1 p0 p1) p2).bind fun | .inl _ => some false | .inr rv => some rv)
theorem slice_under_fun (p0 : (List api_Slice)) (p1 : Int) (p2 : Int) (r : Bool) (hF : slice_under p0 p1 p2 = some r) : Fun Try.prog 64 true [] [cL 8 t_api_Slice p0, cI p1, cI p2] noHeap (cB r) noHeap := by
 refine Fun.of_walk0 Try.func64 c64 (by kernel_rfl) (rs := [.tmp 6]) (by kernel_rfl) ?_; unfold v64
 unfold slice_under at hF
 refine wA rfl ?_; refine W_seq ?_; refine W_for (fun _ _ h => h) hF (.inl) (fun a10 => [(0, cL 8 t_api_Slice p0), (1, cI p1), (2, cI a10)]) (fun a10 => []) (fun _ => []) (fun _ => []) sw ?_ ?_
 · rintro ⟨⟩ hF
   refine wA rfl ?_; cases hF
   exact W_ret wR
 rintro a10 x_0 hF cont_0 brk_0 fin_0
 unfold slice_under_L1 at hF
 refine W_seq ?_; refine wA rfl ?_; refine wIf hF rfl (fun _ hF => ?_) fun _ hF => ?_
 · refine W_skip ?_; refine W_seq ?_; refine W_block ?_; refine wA rfl ?_; refine wIf hF rfl (fun _ hF => ?_) fun _ hF => ?_
   · refine wA rfl ?_; have hF := fin_0 _ (oi hF); cases hF
     exact W_ret wR
   refine W_skip ?_; refine wD 2 rfl ?_; obtain ⟨y14, hy14, hF⟩ := bB hF
   refine rS (T_ixT (tc := t_api_Slice) p0 rfl rfl hy14 ?_); refine QV rfl ?_; exact cont_0 _ _ _ (oi hF) sw
 refine W_exit ?_; refine thenQ_exit ?_; refine thenQ_exit ?_; refine blockQ_hit ?_; exact brk_0 _ _ _ (oi hF) sw
def slice_apart_L1 (p0 : (List api_Slice)) (a116 : Int) (y173 : api_Slice) : (Int × Int) → Option ((Int × Int) ⊕ (Int ⊕ (Int ⊕ (Unit ⊕ Bool)))) := fun (a202, a203) =>
  (bif (decide (a203 < (List.length p0 : Int))) then ((idx p0 a203).bind fun y217 => (((bif (decide (y217.fParent = a116)) then some (w64 (a202 - (w64 (y217.fSpan.fTo - y217.fSpan.fFrom)))) else some a202) : Option Int).bind fun v218 => (((bif (decide (a203 < a116)) then (bif (decide (y217.fThread = y173.fThread)) then (bif (decide (y173.fSpan.fFrom < y217.fSpan.fTo)) then (bif (decide (y217.fSpan.fFrom < y173.fSpan.fTo)) then ((slice_under p0 a203 a116).bind fun r225 => some (!r225)) else some false) else some false) else some false) else some false) : Option Bool).bind fun v219 => (bif v219 then some (.inr (.inr (.inr (.inr false)))) else some (.inl (v218, (w64 (a203 + 1)))))))) else some (.inr (.inl a202)))
def slice_apart_L2 (p0 : (List api_Slice)) : Int → Option (Int ⊕ (Unit ⊕ Bool)) := fun a116 =>
  (bif (decide (a116 < (List.length p0 : Int))) then ((idx p0 a116).bind fun y173 => ((loop (slice_apart_L1 p0 a116 y173) ((w64 (y173.fSpan.fTo - y173.fSpan.fFrom)), 0)).bind fun | .inl e215 => (bif (!decide (y173.fSelf = e215)) then some (.inr (.inr false)) else some (.inl (w64 (a116 + 1)))) | .inr rv => some rv)) else some (.inr (.inl ())))
def slice_apart (p0 : (List api_Slice)) : Option Bool :=
  ((loop (slice_apart_L2 p0) 0).bind fun | .inl _ => some true | .inr rv => some rv)
theorem slice_apart_fun (p0 : (List api_Slice)) (r : Bool) (hF : slice_apart p0 = some r) : Fun Try.prog 42 true [] [cL 8 t_api_Slice p0] noHeap (cB r) noHeap := by
 refine Fun.of_walk0 Try.func42 c42 (by kernel_rfl) (rs := [.tmp 2]) (by kernel_rfl) ?_; unfold v42
 unfold slice_apart at hF
 refine wA rfl ?_; refine W_seq ?_; refine wC 1 rfl ?_; refine rS (T_len (tc := t_api_Slice) p0 .tree ?_); refine QV rfl ?_; refine W_for (fun _ _ h => h) hF (.inl) (fun a116 => [(0, cL 8 t_api_Slice p0), (8, cL 8 t_api_Slice p0), (9, cI (List.length p0 : Int)), (10, cI a116)]) (fun a116 => []) (fun _ => []) (fun _ => []) sw ?_ ?_
 · rintro ⟨⟩ hF
   refine wA rfl ?_; cases hF
   exact W_ret wR
 rintro a116 x_0 hF cont_0 brk_0 fin_0
 unfold slice_apart_L2 at hF
 refine wA rfl ?_; refine W_seq ?_; refine wIf hF rfl (fun _ hF => ?_) fun _ hF => ?_
 · refine W_skip ?_; refine W_seq ?_; refine W_block ?_; refine wC 1 rfl ?_; obtain ⟨y173, hy173, hF⟩ := bB hF
   refine rS (T_ixT (tc := t_api_Slice) p0 rfl rfl hy173 ?_); refine QV rfl ?_; refine wA rfl ?_; refine W_seq ?_; refine wC 1 rfl ?_; refine rS (T_len (tc := t_api_Slice) p0 .tree ?_); refine QV rfl ?_; refine W_for (fun _ _ h => h) hF (.inl) (fun (a202, a203) => [(0, cL 8 t_api_Slice p0), (3, cI a116), (4, cP (4,0) 0), (5, cI a202), (8, cL 8 t_api_Slice p0), (9, cI (List.length p0 : Int)), (10, cI a116), (22, cL 8 t_api_Slice p0), (23, cI (List.length p0 : Int)), (24, cI a203)]) (fun (a202, a203) => [((4,0), .box (m_api_Slice y173))]) (fun e215 => [(0, cL 8 t_api_Slice p0), (4, cP (4,0) 0), (5, cI e215), (8, cL 8 t_api_Slice p0), (9, cI (List.length p0 : Int)), (10, cI a116)]) (fun e215 => [((4,0), .box (m_api_Slice y173))]) sw ?_ ?_
   · rintro e215 hF
     refine wA rfl ?_; refine wIf hF rfl (fun _ hF => ?_) fun _ hF => ?_
     · refine wA rfl ?_; have hF := fin_0 _ (oi hF); cases hF
       exact W_ret wR
     refine W_skip ?_; refine wB rfl ?_; exact cont_0 _ _ _ (oi hF) sw
   rintro ⟨a202, a203⟩ x_1 hF cont_1 brk_1 fin_1
   unfold slice_apart_L1 at hF
   refine wA rfl ?_; refine W_seq ?_; refine wIf hF rfl (fun _ hF => ?_) fun _ hF => ?_
   · refine W_skip ?_; refine W_seq ?_; refine W_block ?_; refine wC 1 rfl ?_; obtain ⟨y217, hy217, hF⟩ := bB hF
     refine rS (T_ixT (tc := t_api_Slice) p0 rfl rfl hy217 ?_); refine QV rfl ?_; refine W_seq ?_; refine wA rfl ?_; refine W_join (fun _ _ h => h) hF (fun v218 => [(0, cL 8 t_api_Slice p0), (3, cI a116), (4, cP (4,0) 0), (5, cI v218), (6, cI a203), (7, cP (7,0) 0), (8, cL 8 t_api_Slice p0), (9, cI (List.length p0 : Int)), (10, cI a116), (22, cL 8 t_api_Slice p0), (23, cI (List.length p0 : Int)), (24, cI a203)]) (fun v218 => [((4,0), .box (m_api_Slice y173)), ((7,0), .box (m_api_Slice y217))]) ?_ ?_
     · rintro v218 hF
       refine W_seq ?_; refine W_join (fun _ _ h => h) hF (fun v219 => [(0, cL 8 t_api_Slice p0), (3, cI a116), (4, cP (4,0) 0), (5, cI v218), (8, cL 8 t_api_Slice p0), (9, cI (List.length p0 : Int)), (10, cI a116), (22, cL 8 t_api_Slice p0), (23, cI (List.length p0 : Int)), (24, cI a203), (76, cB v219)]) (fun v219 => [((4,0), .box (m_api_Slice y173))]) ?_ ?_
       · rintro v219 hF
         refine wIf hF rfl (fun _ hF => ?_) fun _ hF => ?_
         · refine wA rfl ?_; have hF := fin_1 _ (oi hF); have hF := fin_0 _ (oi hF); cases hF
           exact W_ret wR
         refine W_skip ?_; refine wB rfl ?_; exact cont_1 _ _ _ (oi hF) sw
       intro join hF
       refine wD 4 rfl ?_; cases h221 : (decide (a203 < a116))
       · have hF := bF' h221 hF; refine QV rfl ?_; exact join false _ _ hF sw
       have hF := bT' h221 hF; refine Q_run SV 7 rfl ?_; cases h222 : (decide (y217.fThread = y173.fThread))
       · have hF := bF' h222 hF; refine QV rfl ?_; exact join false _ _ hF sw
       have hF := bT' h222 hF; refine Q_run SV 9 rfl ?_; cases h223 : (decide (y173.fSpan.fFrom < y217.fSpan.fTo))
       · have hF := bF' h223 hF; refine QV rfl ?_; exact join false _ _ hF sw
       have hF := bT' h223 hF; refine Q_run SV 9 rfl ?_; cases h224 : (decide (y217.fSpan.fFrom < y173.fSpan.fTo))
       · have hF := bF' h224 hF; refine QV rfl ?_; exact join false _ _ hF sw
       have hF := bT' h224 hF; refine Q_run SV 3 rfl ?_; obtain ⟨r225, hr225, hF⟩ := bB' hF
       refine R_step SV rfl (T_call (slice_under_fun _ _ _ _ hr225) ⟨rfl, rfl, rfl, trivial⟩ rfl (.inl rfl) ?_); refine QV rfl ?_; exact join (!r225) _ _ hF sw
     intro join hF
     refine wIf' hF rfl (fun _ hF => ?_) fun _ hF => ?_
     · refine wB rfl ?_; exact join (w64 (a202 - (w64 (y217.fSpan.fTo - y217.fSpan.fFrom)))) _ _ hF sw
     refine W_skip ?_; exact join a202 _ _ hF sw
   refine W_exit ?_; refine thenQ_exit ?_; refine thenQ_exit ?_; refine blockQ_hit ?_; exact brk_1 _ _ _ (oi hF) sw
 refine W_exit ?_; refine thenQ_exit ?_; refine thenQ_exit ?_; refine blockQ_hit ?_; exact brk_0 _ _ _ (oi hF) sw
def slice_Check_L1 (p0 : (List api_Slice)) : Int → Option (Int ⊕ (Unit ⊕ Int)) := fun a32 =>
  (bif (decide (a32 < (List.length p0 : Int))) then ((idx p0 a32).bind fun y52 => (((bif (decide (y52.fThread < 0)) then some true else (bif (decide (1000000000000000 < y52.fThread)) then some true else ((spans_Valid y52.fSpan).bind fun r64 => some (!r64)))) : Option Bool).bind fun v53 => (bif v53 then some (.inr (.inr 2)) else ((intern_Name y52.fName).bind fun r54 => (bif (!decide (r54 = 0)) then some (.inr (.inr r54)) else (((bif (decide (0 < a32)) then ((idx p0 (w64 (a32 - 1))).bind fun y58 => ((slice_compare y58 y52).bind fun r59 => some (decide (0 < r59)))) else some false) : Option Bool).bind fun v55 => (bif v55 then some (.inr (.inr 11)) else some (.inl (w64 (a32 + 1)))))))))) else some (.inr (.inl ())))
def slice_Check (p0 : (List api_Slice)) : Option Int :=
  ((loop (slice_Check_L1 p0) 0).bind fun | .inl _ => ((((slice_nested p0).bind fun r49 => (bif (!r49) then some true else ((slice_apart p0).bind fun r51 => some (!r51)))) : Option Bool).bind fun v47 => (bif v47 then some 10 else some 0)) | .inr rv => some rv)
theorem slice_Check_fun (p0 : (List api_Slice)) (r : Int) (hF : slice_Check p0 = some r) : Fun Try.prog 14 true [] [cL 8 t_api_Slice p0] noHeap (cI r) noHeap := by
 refine Fun.of_walk0 Try.func14 c14 (by kernel_rfl) (rs := [.tmp 2]) (by kernel_rfl) ?_; unfold v14
 unfold slice_Check at hF
 refine wA rfl ?_; refine W_seq ?_; refine wC 1 rfl ?_; refine rS (T_len (tc := t_api_Slice) p0 .tree ?_); refine QV rfl ?_; refine W_for (fun _ _ h => h) hF (.inl) (fun a32 => [(0, cL 8 t_api_Slice p0), (6, cL 8 t_api_Slice p0), (7, cI (List.length p0 : Int)), (8, cI a32)]) (fun a32 => []) (fun _ => [(0, cL 8 t_api_Slice p0)]) (fun _ => []) sw ?_ ?_
 · rintro ⟨⟩ hF
   refine W_seq ?_; refine W_seq ?_; refine W_join (fun _ _ h => h) hF (fun v47 => [(53, cB v47)]) (fun v47 => []) ?_ ?_
   · rintro v47 hF
     refine wIf hF rfl (fun _ hF => ?_) fun _ hF => ?_
     · refine wA rfl ?_; cases hF
       exact W_ret wR
     refine W_skip ?_; refine wA rfl ?_; cases hF
     exact W_ret wR
   intro join hF
   refine wD 1 rfl ?_; obtain ⟨r49, hr49, hF⟩ := bB' hF
   refine rS (T_call (slice_nested_fun _ _ hr49) ⟨rfl, trivial⟩ rfl (.inl rfl) ?_); refine Q_run SV 2 rfl ?_; cases h50 : (!r49)
   · have hF := bF' h50 hF; refine Q_run SV 1 rfl ?_; obtain ⟨r51, hr51, hF⟩ := bB' hF
     refine R_step SV rfl (T_call (slice_apart_fun _ _ hr51) ⟨rfl, trivial⟩ rfl (.inl rfl) ?_); refine QV rfl ?_; exact join (!r51) _ _ hF sw
   have hF := bT' h50 hF; refine QV rfl ?_; exact join true _ _ hF sw
 rintro a32 x_0 hF cont_0 brk_0 fin_0
 unfold slice_Check_L1 at hF
 refine wA rfl ?_; refine W_seq ?_; refine wIf hF rfl (fun _ hF => ?_) fun _ hF => ?_
 · refine W_skip ?_; refine W_seq ?_; refine W_block ?_; refine wC 1 rfl ?_; obtain ⟨y52, hy52, hF⟩ := bB hF
   refine rS (T_ixT (tc := t_api_Slice) p0 rfl rfl hy52 ?_); refine QV rfl ?_; refine W_seq ?_; refine W_seq ?_; refine W_join (fun _ _ h => h) hF (fun v53 => [(0, cL 8 t_api_Slice p0), (3, cI a32), (4, cP (4,0) 0), (6, cL 8 t_api_Slice p0), (7, cI (List.length p0 : Int)), (8, cI a32), (26, cB v53)]) (fun v53 => [((4,0), .box (m_api_Slice y52))]) ?_ ?_
   · rintro v53 hF
     refine wIf hF rfl (fun _ hF => ?_) fun _ hF => ?_
     · refine wA rfl ?_; have hF := fin_0 _ (oi hF); cases hF
       exact W_ret wR
     refine W_skip ?_; refine W_seq ?_; refine wC 2 rfl ?_; obtain ⟨r54, hr54, hF⟩ := bB hF
     refine rS (T_call (intern_Name_fun _ _ hr54) ⟨rfl, trivial⟩ rfl (.inl rfl) ?_); refine QV rfl ?_; refine wA rfl ?_; refine wIf hF rfl (fun _ hF => ?_) fun _ hF => ?_
     · refine wA rfl ?_; have hF := fin_0 _ (oi hF); cases hF
       exact W_ret wR
     refine W_skip ?_; refine W_seq ?_; refine W_join (fun _ _ h => h) hF (fun v55 => [(0, cL 8 t_api_Slice p0), (6, cL 8 t_api_Slice p0), (7, cI (List.length p0 : Int)), (8, cI a32), (44, cB v55)]) (fun v55 => []) ?_ ?_
     · rintro v55 hF
       refine wIf hF rfl (fun _ hF => ?_) fun _ hF => ?_
       · refine wA rfl ?_; have hF := fin_0 _ (oi hF); cases hF
         exact W_ret wR
       refine W_skip ?_; refine wB rfl ?_; exact cont_0 _ _ _ (oi hF) sw
     intro join hF
     refine W_regD (by decide) (by kernel_rfl) rfl ?_; refine Q_run SP 3 rfl ?_; cases h57 : (decide (0 < a32))
     · have hF := bF' h57 hF; refine QP rfl ?_; exact join false _ _ hF sw
     have hF := bT' h57 hF; refine Q_run SP 3 rfl ?_; obtain ⟨y58, hy58, hF⟩ := bB' hF
     refine R_step SP rfl (T_ixT (tc := t_api_Slice) p0 rfl rfl hy58 ?_); refine Q_run SP 2 rfl ?_; obtain ⟨r59, hr59, hF⟩ := bB' hF
     refine R_step SP rfl (T_call (slice_compare_fun _ _ _ hr59) ⟨⟨rfl, rfl, rfl, rfl, rfl, rfl, rfl, rfl, trivial⟩, ⟨rfl, rfl, rfl, rfl, rfl, rfl, rfl, rfl, trivial⟩, trivial⟩ rfl (.inl rfl) ?_); refine QP rfl ?_
     exact join (decide (0 < r59)) _ _ hF sw
   intro join hF
   refine wD 4 rfl ?_; cases h62 : (decide (y52.fThread < 0))
   · have hF := bF' h62 hF; refine Q_run SV 5 rfl ?_; cases h63 : (decide (1000000000000000 < y52.fThread))
     · have hF := bF' h63 hF; refine Q_run SV 2 rfl ?_; obtain ⟨r64, hr64, hF⟩ := bB' hF
       refine R_step SV rfl (T_call (spans_Valid_fun _ _ hr64) ⟨⟨rfl, rfl, trivial⟩, trivial⟩ rfl (.inl rfl) ?_); refine QV rfl ?_; exact join (!r64) _ _ hF sw
     have hF := bT' h63 hF; refine QV rfl ?_; exact join true _ _ hF sw
   have hF := bT' h62 hF; refine QV rfl ?_; exact join true _ _ hF sw
 refine W_exit ?_; refine thenQ_exit ?_; refine thenQ_exit ?_; refine blockQ_hit ?_; exact brk_0 _ _ _ (oi hF) sw
def tracebooklaw26_SliceChecks (p0 : (List api_Slice)) : Option Bool :=
  (bif (decide (40 < (List.length p0 : Int))) then ((tracebooklaw26_lives ).bind fun r1 => some r1) else ((((slice_Check p0).bind fun r3 => ((tracebookref26_Check p0).bind fun r4 => (bif (decide (r3 = r4)) then ((tracebooklaw26_lives ).bind fun r6 => some r6) else some false))) : Option Bool).bind fun v2 => some v2))
theorem tracebooklaw26_SliceChecks_fun (p0 : (List api_Slice)) (r : Bool) (hF : tracebooklaw26_SliceChecks p0 = some r) : Fun Try.prog 5 true [] [cL 8 t_api_Slice p0] noHeap (cB r) noHeap := by
 refine Fun.of_walk0 Try.func5 c5 (by kernel_rfl) (rs := [.tmp 2]) (by kernel_rfl) ?_; unfold v5
 unfold tracebooklaw26_SliceChecks at hF
 refine wA rfl ?_; refine W_seq ?_; refine wC 1 rfl ?_; refine rS (T_len (tc := t_api_Slice) p0 .tree ?_); refine QV rfl ?_; refine wIf hF rfl (fun _ hF => ?_) fun _ hF => ?_
 · refine wE ?_; obtain ⟨r1, hr1, hF⟩ := bB hF
   refine rS (T_call (tracebooklaw26_lives_fun _ hr1) trivial rfl (.inl rfl) ?_); refine QV rfl ?_; cases hF
   exact W_ret wR
 refine W_skip ?_; refine W_seq ?_; refine W_join (fun _ _ h => h) hF (fun v2 => [(2, cB v2)]) (fun v2 => []) ?_ ?_
 · rintro v2 hF
   cases hF
   exact W_ret wR
 intro join hF
 refine wD 1 rfl ?_; obtain ⟨r3, hr3, hF⟩ := bB' hF
 refine rS (T_call (slice_Check_fun _ _ hr3) ⟨rfl, trivial⟩ rfl (.inl rfl) ?_); refine Q_run SV 1 rfl ?_; obtain ⟨r4, hr4, hF⟩ := bB' hF
 refine rS (T_call (tracebookref26_Check_fun _ _ hr4) ⟨rfl, trivial⟩ rfl (.inl rfl) ?_); refine Q_run SV 2 rfl ?_; cases h5 : (decide (r3 = r4))
 · have hF := bF' h5 hF; refine QV rfl ?_; exact join false _ _ hF sw
 have hF := bT' h5 hF; obtain ⟨r6, hr6, hF⟩ := bB' hF
 refine R_step SV rfl (T_call (tracebooklaw26_lives_fun _ hr6) trivial rfl (.inl rfl) ?_); refine QV rfl ?_; exact join r6 _ _ hF sw
end Go.VM
