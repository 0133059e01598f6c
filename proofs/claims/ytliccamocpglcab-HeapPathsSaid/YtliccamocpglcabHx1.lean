/- The functions of the layer, walked by symbols in the raw machine, and their contracts. -/
import Derived.Test.YtliccamocpglcabRm2
import Derived.Test.YtliccamocpglcabRows
import Derived.KernelRfl
import Derived.RangeFuncNested
import Derived.RangeFuncBound
import Derived.RangeFuncCalls
import Derived.RangeFuncLeaves
import Derived.RangeFuncBox
import Derived.Shelf.Abstract
import Derived.WalkKit
import Derived.OwnWalkIn
import Derived.TacticsInMore
import Derived.LoopNIn
import Derived.LoopIn
import Derived.Shelf.SlSortCmp.NoneTotal
import Derived.Shelf.SlicesG.Cmp
import Derived.Ground.SlsfProg
import Derived.Ground.SlgcProg
import Derived.Deep.RegionHeld3
import Derived.Lib.Walk
import Derived.Handy
namespace Go.RM
open Go.Proofs Go.Proofs.Ytliccamocpglcab
def p8:Nat:=13
def k9:Nat:=19
def jZ:Nat:=20
def jj:Nat:=40
def m5:Nat:=41
def gY:Nat:=22
def dY:Nat:=21
def kz:Nat:=33
def jW:Nat:=15
def e9:Nat:=34
def o7:Nat:=48
def nQ:Nat:=7
def xj:Nat:=10
def jX:Nat:=29
def p9:Nat:=31
def tQ:Nat:=46
def CX:Nat:=30
def gq:Nat:=35
def dJ:Nat:=49
def i3:Nat:=17
def iK:Nat:=18
def j8:Nat:=16
def gQ:Nat:=28
def e8:Nat:=25
def i8:Nat:=23
def qY:Nat:=47
def yY:Nat:=41
def PY:Nat:=52
def cj:Nat:=3
def AV:Nat:=4
def zq:Nat:=50
def qz:RF:=⟨.seq (.region none [oP 1 (.box e8 (tO 0)) 1,oP 2 (.mv (.con (.c (.sc (.slice none 0 0))))) 0,oP 3 (.mv (kI 0)) 0]) (.seq (.seq (.region none [oP 5 (.load 2 true (tO 1)) 2,oP 6 (.call i3 [(tO 5)]) 32,oP 4 (.mv (tO 6)) 64]) (.seq (.region none [oP 7 (.mv (tO 4)) 16,oP 8 (.bin .neq (tO 7) (kI 0)) 128]) (.cond (tO 8) (.seq (.region none [oP 9 (.mv (tO 4)) 16,oP 2 (.mv (.con (.c (.sc (.slice none 0 0))))) 0,oP 3 (.mv (tO 9)) 512]) (.ret)) (.skip)))) (.seq (.region (some [0,1,3,7,15,31,63,127,0,256,768,2047,4095,8191,16383]) [oP 10 (.load 2 true (tO 1)) 2,oP 11 (.call k9 [(tO 10)]) 1024,oP 12 (.nilc (tO 11)) 2048,oP 13 (.fld 3 (tO 12)) 4096,oP 14 (.load 1 false (tO 13)) 8192,oP 15 (.nilc (tO 14)) 16384,oP 16 (.fld 1 (tO 15)) 32768,oP 17 (.load 1 false (tO 16)) 65536,oP 18 (.fld 0 (tO 1)) 2,oP 19 (.load 1 false (tO 18)) 262144,oP 20 (.lenS (tO 19)) 524288,oP 21 (.sub 1 (tO 17) none (some (tO 20))) 1179648,oP 22 (.call kz [(tO 21)]) 2097152,oP 2 (.mv (tO 22)) 4194304,oP 3 (.mv (kI 0)) 0]) (.ret))),[.tmp 2,.tmp 3]⟩
set_option maxRecDepth 100000 in
theorem Fx:B3 Try.prog 13 = some qz∧m9 Try.prog 13 = true:=⟨by kernel_rfl,by kernel_rfl⟩
def vJ:RF:=⟨.seq (.region none [oP 1 (.box e8 (tO 0)) 1,oP 2 (.mv (.con (.c (.sc (.pointer none))))) 0]) (.seq (.region none [oP 12 (.fld 0 (tO 1)) 2,oP 13 (.load 1 false (tO 12)) 4096,oP 14 (.lenS (tO 13)) 8192,oP 3 (.mv (tO 14)) 16384]) (.seq (.region (some [0,1,3,0,8,24,0,64,192,511,1023,0,4095]) [oP 15 (.mv (tO 3)) 8,oP 16 (.bin .add (tO 15) (kI 1)) 32768,oP 17 (.mksl i8 1 24 [(.sc (.slice none 0 0))] (tO 16) (tO 16)) 65536,oP 18 (.mv (tO 3)) 8,oP 19 (.bin .add (tO 18) (kI 1)) 262144,oP 20 (.mksl i8 1 24 [(.sc (.slice none 0 0))] (tO 19) (tO 19)) 524288,oP 21 (.mv (tO 3)) 8,oP 22 (.bin .add (tO 21) (kI 1)) 2097152,oP 23 (.call jZ [(tO 22)]) 4194304,oP 24 (.build [(.sc (.slice none 0 0)),(.sc (.slice none 0 0)),(.sc (.slice none 0 0)),(.sc (.pointer none))] [(0,1,(tO 17)),(1,1,(tO 20)),(3,1,(tO 23))]) 9568256,oP 25 (.box qY (tO 24)) 16777216,oP 4 (.alloc yY [(.sc (.pointer none))]) 0,oN (.store 1 (tO 4) (tO 25)) 33554448]) (.seq (.region none [oP 26 (.mkfn jj [(tO 1),(tO 4)]) 18,oP 5 (.mv (tO 26)) 67108864]) (.seq (.seq (.region none [oP 27 (.fld 0 (tO 1)) 2,oP 28 (.load 1 false (tO 27)) 134217728,oP 29 (.lenS (tO 28)) 268435456,oP 30 (.mv (kI 0)) 0]) (.block 0 (.loop (.seq (.region none [oP 31 (.bin .lss (tO 30) (tO 29)) 1610612736]) (.seq (.cond (tO 31) (.skip) (.exit 0)) (.seq (.block 1 (.seq (.region none [oP 32 (.mv (tO 30)) 1073741824,oP 33 (.ixA 4 (tO 28) (tO 30)) 1342177280,oP 34 (.load 4 true (tO 33)) 8589934592,oP 7 (.alloc PY [(.sc (.int .i64 0)),(.sc (.int .i64 0)),(.sc (.string ⟨#[]⟩)),(.sc (.slice none 0 0))]) 0,oP 6 (.mv (tO 32)) 4294967296,oN (.store 4 (tO 7) (tO 34)) 17179869312]) (.region none [oP 35 (.mv (tO 5)) 32,oP 36 (.mv (tO 6)) 64,oP 37 (.fld 3 (tO 7)) 128,oP 38 (.load 1 false (tO 37)) 137438953472,oP 39 (.callv (tO 35) [(tO 36),(tO 38)]) 377957122048]))) (.region none [oP 40 (.bin .add (tO 30) (kI 1)) 1073741824,oP 30 (.mv (tO 40)) 1099511627776]))))))) (.seq (.region none [oP 41 (.mv (tO 5)) 32,oP 42 (.mv (tO 3)) 8,oP 43 (.fld 1 (tO 1)) 2,oP 44 (.load 1 false (tO 43)) 8796093022208,oP 45 (.callv (tO 41) [(tO 42),(tO 44)]) 24189255811072]) (.seq (.region none [oP 46 (.mkmap (.int .i64)) 0,oP 8 (.mv (tO 46)) 70368744177664]) (.seq (.seq (.region none [oP 47 (.mv (tO 3)) 8,oP 48 (.bin .add (tO 47) (kI 1)) 140737488355328,oP 49 (.mv (kI 0)) 0]) (.block 2 (.loop (.seq (.region none [oP 50 (.bin .lss (tO 49) (tO 48)) 844424930131968]) (.seq (.cond (tO 50) (.skip) (.exit 2)) (.seq (.block 3 (.seq (.region none [oP 51 (.mv (tO 49)) 562949953421312,oP 9 (.mv (tO 51)) 2251799813685248]) (.region none [oP 52 (.mv (tO 8)) 256,oP 53 (.mv (tO 9)) 512,oN (.mupd (.int .i64) (tO 52) (tO 53) (.con (.c (.sc (.bool true))))) 13510798882111488]))) (.region none [oP 54 (.bin .add (tO 49) (kI 1)) 562949953421312,oP 49 (.mv (tO 54)) 18014398509481984]))))))) (.seq (.region none [oP 55 (.load 1 false (tO 4)) 16,oP 56 (.mv (tO 3)) 8,oP 57 (.mv (tO 8)) 256,oP 58 (.call m5 [(tO 55),(tO 56),(tO 57)]) 252201579132747776]) (.seq (.region none [oP 59 (.load 1 false (tO 4)) 16,oP 60 (.nilc (tO 59)) 576460752303423488,oP 61 (.fld 2 (tO 60)) 1152921504606846976,oP 62 (.load 1 false (tO 61)) 2305843009213693952,oP 63 (.call gY [(tO 62)]) 4611686018427387904]) (.seq (.seq (.region none [oP 64 (.load 1 false (tO 4)) 16,oP 65 (.nilc (tO 64)) 18446744073709551616,oP 66 (.fld 2 (tO 65)) 36893488147419103232,oP 67 (.load 1 false (tO 66)) 73786976294838206464,oP 68 (.lenS (tO 67)) 147573952589676412928,oP 69 (.mv (kI 0)) 0]) (.block 4 (.loop (.seq (.region none [oP 70 (.bin .lss (tO 69) (tO 68)) 885443715538058477568]) (.seq (.cond (tO 70) (.skip) (.exit 4)) (.seq (.block 5 (.seq (.region none [oP 71 (.mv (tO 69)) 590295810358705651712,oP 72 (.ixA 1 (tO 67) (tO 69)) 737869762948382064640,oP 73 (.load 1 false (tO 72)) 4722366482869645213696,oP 10 (.mv (tO 71)) 2361183241434822606848,oP 11 (.mv (tO 73)) 9444732965739290427392]) (.region none [oP 74 (.load 1 false (tO 4)) 16,oP 75 (.nilc (tO 74)) 18889465931478580854784,oP 76 (.fld 3 (tO 75)) 37778931862957161709568,oP 77 (.load 1 false (tO 76)) 75557863725914323419136,oP 78 (.mv (tO 11)) 2048,oP 79 (.mv (tO 10)) 1024,oP 80 (.call dY [(tO 77),(tO 78),(tO 79)]) 1057810092162800527867904]))) (.region none [oP 81 (.bin .add (tO 69) (kI 1)) 590295810358705651712,oP 69 (.mv (tO 81)) 2417851639229258349412352]))))))) (.seq (.region none [oP 82 (.load 1 false (tO 4)) 16,oP 2 (.mv (tO 82)) 4835703278458516698824704]) (.ret)))))))))))),[.tmp 2]⟩
set_option maxRecDepth 100000 in
theorem FQ:B3 Try.prog 19 = some vJ∧m9 Try.prog 19 = true:=⟨by kernel_rfl,by kernel_rfl⟩
def nK:RF:=⟨.seq (.region none [oP 2 (.mv (.con (.c (.sc (.pointer none))))) 0]) (.seq (.region (some [0,1,0,4,15,31,63]) [oP 3 (.mv (tO 0)) 1,oP 4 (.mksl cj 1 8 [(.sc (.int .i64 0))] (tO 3) (tO 3)) 8,oP 5 (.mv (tO 0)) 1,oP 6 (.mksl AV 1 1 [(.sc (.bool false))] (tO 5) (tO 5)) 32,oP 7 (.build [(.sc (.slice none 0 0)),(.sc (.slice none 0 0))] [(0,1,(tO 4)),(1,1,(tO 6))]) 80,oP 8 (.box zq (tO 7)) 128,oP 2 (.mv (tO 8)) 256]) (.ret)),[.tmp 2]⟩
set_option maxRecDepth 100000 in
theorem yq:B3 Try.prog 20 = some nK∧m9 Try.prog 20 = true:=⟨by kernel_rfl,by kernel_rfl⟩
def sV:RF:=⟨.seq (.region none [oP 10 (.mv (tO 1)) 2,oP 11 (.lenS (tO 10)) 1024,oP 12 (.mv (kI 0)) 0]) (.block 0 (.loop (.seq (.region none [oP 13 (.bin .lss (tO 12) (tO 11)) 6144]) (.seq (.cond (tO 13) (.skip) (.exit 0)) (.seq (.block 1 (.seq (.region none [oP 14 (.ixA 1 (tO 10) (tO 12)) 5120,oP 15 (.load 1 false (tO 14)) 16384,oP 7 (.mv (tO 15)) 32768]) (.seq (.region none [oP 17 (.load 2 true (tO 2)) 4,oP 18 (.mv (tO 7)) 128,oP 19 (.call iK [(tO 17),(tO 18)]) 393216,oP 16 (.mv (tO 19)) 524288,oP 20 (.ext (tO 16) 0) 65536,oP 21 (.ext (tO 16) 1) 65536,oP 8 (.mv (tO 20)) 1048576,oP 9 (.mv (tO 21)) 2097152]) (.region (some [0,1,3,7,0,0,32,96,224,0,0,1024,3072,7168,0,31744,64512,0,131072,523264,0,1048576,3145728,7340032,0,32505856,66060288,0,134217728,536869888,1073741311,2147483135,4294967295,8589934591]) [oP 22 (.load 1 false (tO 3)) 8,oP 23 (.nilc (tO 22)) 4194304,oP 24 (.fld 0 (tO 23)) 8388608,oP 25 (.load 1 false (tO 24)) 16777216,oP 26 (.mv (tO 0)) 1,oP 27 (.load 1 false (tO 3)) 8,oP 28 (.nilc (tO 27)) 134217728,oP 29 (.fld 1 (tO 28)) 268435456,oP 30 (.load 1 false (tO 29)) 536870912,oP 31 (.mv (tO 8)) 256,oP 32 (.load 1 false (tO 3)) 8,oP 33 (.nilc (tO 32)) 4294967296,oP 34 (.fld 0 (tO 33)) 8589934592,oP 35 (.load 1 false (tO 34)) 17179869184,oP 36 (.mv (tO 0)) 1,oP 37 (.ixA 1 (tO 35) (tO 36)) 103079215104,oP 38 (.load 1 false (tO 37)) 137438953472,oP 39 (.mv (tO 8)) 256,oP 40 (.bsl cj 1 1 [(.sc (.int .i64 0))] [(0,1,(tO 39))]) 549755813888,oP 41 (.app cj 1 8 (tO 38) (tO 40)) 1374389534720,oP 42 (.load 1 false (tO 3)) 8,oP 43 (.nilc (tO 42)) 4398046511104,oP 44 (.fld 1 (tO 43)) 8796093022208,oP 45 (.load 1 false (tO 44)) 17592186044416,oP 46 (.mv (tO 8)) 256,oP 47 (.ixA 1 (tO 45) (tO 46)) 105553116266496,oP 48 (.load 1 false (tO 47)) 140737488355328,oP 49 (.mv (tO 0)) 1,oP 50 (.bsl cj 1 1 [(.sc (.int .i64 0))] [(0,1,(tO 49))]) 562949953421312,oP 51 (.app cj 1 8 (tO 48) (tO 50)) 1407374883553280,oP 52 (.ixA 1 (tO 25) (tO 26)) 100663296,oN (.store 1 (tO 52) (tO 41)) 4505798650626048,oP 53 (.ixA 1 (tO 30) (tO 31)) 3221225472,oN (.store 1 (tO 53) (tO 51)) 11258999068426240])))) (.region none [oP 54 (.bin .add (tO 12) (kI 1)) 4096,oP 12 (.mv (tO 54)) 18014398509481984])))))),[]⟩
set_option maxRecDepth 100000 in
theorem B7:B3 Try.prog 40 = some sV∧m9 Try.prog 40 = true:=⟨by kernel_rfl,by kernel_rfl⟩
def mY:RF:=⟨.seq (.region none [oP 8 (.mv (tO 2)) 4,oP 9 (.mv (tO 1)) 2,oN (.mdel (.int .i64) (tO 8) (tO 9)) 768]) (.seq (.seq (.region none [oP 10 (.mv (tO 0)) 1,oP 11 (.nilc (tO 10)) 1024,oP 12 (.fld 0 (tO 11)) 2048,oP 13 (.load 1 false (tO 12)) 4096,oP 14 (.mv (tO 1)) 2,oP 15 (.ixA 1 (tO 13) (tO 14)) 24576,oP 16 (.load 1 false (tO 15)) 32768,oP 17 (.lenS (tO 16)) 65536,oP 18 (.mv (kI 0)) 0]) (.block 0 (.loop (.seq (.region none [oP 19 (.bin .lss (tO 18) (tO 17)) 393216]) (.seq (.cond (tO 19) (.skip) (.exit 0)) (.seq (.block 1 (.seq (.region none [oP 20 (.ixA 1 (tO 16) (tO 18)) 327680,oP 21 (.load 1 false (tO 20)) 1048576,oP 7 (.mv (tO 21)) 2097152]) (.seq (.region none [oP 22 (.mv (tO 2)) 4,oP 23 (.mv (tO 7)) 128,oP 24 (.look (.int .i64) (.c (.sc (.bool false))) false (tO 22) (tO 23)) 12582912]) (.cond (tO 24) (.region none [oP 25 (.mv (tO 0)) 1,oP 26 (.mv (tO 7)) 128,oP 27 (.mv (tO 2)) 4,oP 28 (.call m5 [(tO 25),(tO 26),(tO 27)]) 234881024]) (.skip))))) (.region none [oP 29 (.bin .add (tO 18) (kI 1)) 262144,oP 18 (.mv (tO 29)) 536870912]))))))) (.region none [oP 30 (.mv (tO 0)) 1,oP 31 (.mv (tO 0)) 1,oP 32 (.nilc (tO 31)) 2147483648,oP 33 (.fld 2 (tO 32)) 4294967296,oP 34 (.load 1 false (tO 33)) 8589934592,oP 35 (.mv (tO 1)) 2,oP 36 (.bsl cj 1 1 [(.sc (.int .i64 0))] [(0,1,(tO 35))]) 34359738368,oP 37 (.app cj 1 8 (tO 34) (tO 36)) 85899345920,oP 38 (.nilc (tO 30)) 1073741824,oP 39 (.fld 2 (tO 38)) 274877906944,oN (.store 1 (tO 39) (tO 37)) 687194767360])),[]⟩
set_option maxRecDepth 100000 in
theorem wX:B3 Try.prog 41 = some mY∧m9 Try.prog 41 = true:=⟨by kernel_rfl,by kernel_rfl⟩
def gW:RF:=⟨.seq (.region none [oP 4 (.mv (tO 0)) 1,oP 5 (.lenS (tO 4)) 16,oP 6 (.bin .sub (tO 5) (kI 1)) 32,oP 2 (.mv (kI 0)) 0,oP 3 (.mv (tO 6)) 64]) (.block 0 (.loop (.seq (.seq (.region none [oP 7 (.mv (tO 2)) 4,oP 8 (.mv (tO 3)) 8,oP 9 (.bin .lss (tO 7) (tO 8)) 384]) (.cond (tO 9) (.skip) (.exit 0))) (.seq (.block 1 (.region (some [0,0,0,0,0,0,48,112,0,0,768,1792,4083,8179,16383,32767]) [oP 14 (.mv (tO 0)) 1,oP 15 (.mv (tO 2)) 4,oP 16 (.mv (tO 0)) 1,oP 17 (.mv (tO 3)) 8,oP 18 (.mv (tO 0)) 1,oP 19 (.mv (tO 3)) 8,oP 20 (.ixA 1 (tO 18) (tO 19)) 786432,oP 21 (.load 1 false (tO 20)) 1048576,oP 22 (.mv (tO 0)) 1,oP 23 (.mv (tO 2)) 4,oP 24 (.ixA 1 (tO 22) (tO 23)) 12582912,oP 25 (.load 1 false (tO 24)) 16777216,oP 26 (.ixA 1 (tO 14) (tO 15)) 49152,oN (.store 1 (tO 26) (tO 21)) 69206016,oP 27 (.ixA 1 (tO 16) (tO 17)) 196608,oN (.store 1 (tO 27) (tO 25)) 167772160])) (.region none [oP 10 (.mv (tO 2)) 4,oP 11 (.bin .add (tO 10) (kI 1)) 1024,oP 12 (.mv (tO 3)) 8,oP 13 (.bin .sub (tO 12) (kI 1)) 4096,oP 2 (.mv (tO 11)) 2048,oP 3 (.mv (tO 13)) 8192]))))),[]⟩
set_option maxRecDepth 100000 in
theorem qW:B3 Try.prog 22 = some gW∧m9 Try.prog 22 = true:=⟨by kernel_rfl,by kernel_rfl⟩
def jK:RF:=⟨.region (some [0,1,3,7,0,0,32,96,224,0,0,1535,3583,8191,16383]) [oP 6 (.mv (tO 0)) 1,oP 7 (.nilc (tO 6)) 64,oP 8 (.fld 0 (tO 7)) 128,oP 9 (.load 1 false (tO 8)) 256,oP 10 (.mv (tO 1)) 2,oP 11 (.mv (tO 0)) 1,oP 12 (.nilc (tO 11)) 2048,oP 13 (.fld 1 (tO 12)) 4096,oP 14 (.load 1 false (tO 13)) 8192,oP 15 (.mv (tO 1)) 2,oP 16 (.mv (tO 2)) 4,oP 17 (.ixA 1 (tO 9) (tO 10)) 1536,oN (.store 1 (tO 17) (tO 16)) 196608,oP 18 (.ixA 1 (tO 14) (tO 15)) 49152,oN (.store 1 (tO 18) (.con (.c (.sc (.bool true))))) 262144],[]⟩
set_option maxRecDepth 100000 in
theorem tX:B3 Try.prog 21 = some jK∧m9 Try.prog 21 = true:=⟨by kernel_rfl,by kernel_rfl⟩
def gV:RF:=⟨.seq (.region none [oP 2 (.mv (.con (.c (.sc (.slice none 0 0))))) 0]) (.seq (.seq (.region none [oP 3 (.mv (tO 0)) 1,oP 4 (.neq 2 false (tO 3) (.con (.c (.sc (.slice none 0 0))))) 8]) (.cond (tO 4) (.seq (.region none [oP 2 (.mv (.con (.c (.sc (.slice none 0 0))))) 0]) (.ret)) (.skip))) (.seq (.region none [oP 5 (.bsl AV 1 0 [(.sc (.bool false))] []) 0,oP 6 (.mv (tO 0)) 1,oP 7 (.app AV 1 1 (tO 5) (tO 6)) 96,oP 2 (.mv (tO 7)) 128]) (.ret))),[.tmp 2]⟩
set_option maxRecDepth 100000 in
theorem rj:B3 Try.prog 33 = some gV∧m9 Try.prog 33 = true:=⟨by kernel_rfl,by kernel_rfl⟩
def jJ:RF:=⟨.seq (.region none [oP 1 (.box e8 (tO 0)) 1,oP 2 (.mv (.con (.c (.sc (.slice none 0 0))))) 0,oP 3 (.mv (kI 0)) 0]) (.seq (.seq (.region none [oP 8 (.load 2 true (tO 1)) 2,oP 9 (.call i3 [(tO 8)]) 256,oP 4 (.mv (tO 9)) 512]) (.seq (.region none [oP 10 (.mv (tO 4)) 16,oP 11 (.bin .neq (tO 10) (kI 0)) 1024]) (.cond (tO 11) (.seq (.region none [oP 12 (.mv (tO 4)) 16,oP 2 (.mv (.con (.c (.sc (.slice none 0 0))))) 0,oP 3 (.mv (tO 12)) 4096]) (.ret)) (.skip)))) (.seq (.region none [oP 13 (.load 2 true (tO 1)) 2,oP 14 (.call k9 [(tO 13)]) 8192,oP 15 (.call e9 [(tO 14)]) 16384,oP 5 (.mv (tO 15)) 32768]) (.seq (.region none [oP 16 (.fld 0 (tO 1)) 2,oP 17 (.load 1 false (tO 16)) 65536,oP 18 (.lenS (tO 17)) 131072,oP 19 (.mksl cj 1 8 [(.sc (.int .i64 0))] (kI 0) (tO 18)) 262144,oP 6 (.mv (tO 19)) 524288]) (.seq (.seq (.region none [oP 20 (.fld 0 (tO 1)) 2,oP 21 (.load 1 false (tO 20)) 1048576,oP 22 (.lenS (tO 21)) 2097152,oP 23 (.mv (kI 0)) 0]) (.block 0 (.loop (.seq (.region none [oP 24 (.bin .lss (tO 23) (tO 22)) 12582912]) (.seq (.cond (tO 24) (.skip) (.exit 0)) (.seq (.block 1 (.seq (.region none [oP 25 (.mv (tO 23)) 8388608,oP 7 (.mv (tO 25)) 33554432]) (.block 2 (.seq (.region none [oP 37 (.mv (tO 5)) 32,oP 38 (.nilc (tO 37)) 137438953472,oP 39 (.fld 1 (tO 38)) 274877906944,oP 40 (.load 1 false (tO 39)) 549755813888,oP 41 (.mv (tO 7)) 128,oP 42 (.ixA 1 (tO 40) (tO 41)) 3298534883328,oP 43 (.load 1 false (tO 42)) 4398046511104,oP 44 (.un .not (tO 43)) 8796093022208,oP 36 (.mv (tO 44)) 17592186044416]) (.cond (tO 36) (.region none [oP 45 (.mv (tO 6)) 64,oP 46 (.bsl cj 1 1 [(.sc (.int .i64 0))] [(0,1,(kI (-2)))]) 0,oP 47 (.app cj 1 8 (tO 45) (tO 46)) 105553116266496,oP 6 (.mv (tO 47)) 140737488355328]) (.seq (.region (some [0,1,3,7,0,31,63,0,128,384,1023,2047]) [oP 49 (.mv (tO 5)) 32,oP 50 (.nilc (tO 49)) 562949953421312,oP 51 (.fld 0 (tO 50)) 1125899906842624,oP 52 (.load 1 false (tO 51)) 2251799813685248,oP 53 (.mv (tO 7)) 128,oP 54 (.ixA 1 (tO 52) (tO 53)) 13510798882111488,oP 55 (.load 1 false (tO 54)) 18014398509481984,oP 56 (.fld 0 (tO 1)) 2,oP 57 (.load 1 false (tO 56)) 72057594037927936,oP 58 (.lenS (tO 57)) 144115188075855872,oP 59 (.bin .eql (tO 55) (tO 58)) 324259173170675712,oP 48 (.mv (tO 59)) 576460752303423488]) (.cond (tO 48) (.region none [oP 60 (.mv (tO 6)) 64,oP 61 (.bsl cj 1 1 [(.sc (.int .i64 0))] [(0,1,(kI (-1)))]) 0,oP 62 (.app cj 1 8 (tO 60) (tO 61)) 3458764513820540928,oP 6 (.mv (tO 62)) 4611686018427387904]) (.region none [oP 26 (.mv (tO 6)) 64,oP 27 (.mv (tO 5)) 32,oP 28 (.nilc (tO 27)) 134217728,oP 29 (.fld 0 (tO 28)) 268435456,oP 30 (.load 1 false (tO 29)) 536870912,oP 31 (.mv (tO 7)) 128,oP 32 (.ixA 1 (tO 30) (tO 31)) 3221225472,oP 33 (.load 1 false (tO 32)) 4294967296,oP 34 (.bsl cj 1 1 [(.sc (.int .i64 0))] [(0,1,(tO 33))]) 8589934592,oP 35 (.app cj 1 8 (tO 26) (tO 34)) 17246978048,oP 6 (.mv (tO 35)) 34359738368])))))))) (.region none [oP 63 (.bin .add (tO 23) (kI 1)) 8388608,oP 23 (.mv (tO 63)) 9223372036854775808]))))))) (.seq (.region none [oP 64 (.mv (tO 6)) 64,oP 2 (.mv (tO 64)) 18446744073709551616,oP 3 (.mv (kI 0)) 0]) (.ret)))))),[.tmp 2,.tmp 3]⟩
set_option maxRecDepth 100000 in
theorem xW:B3 Try.prog 15 = some jJ∧m9 Try.prog 15 = true:=⟨by kernel_rfl,by kernel_rfl⟩
def i7:RF:=⟨.seq (.region none [oP 2 (.mv (.con (.c (.sc (.pointer none))))) 0]) (.seq (.region none [oP 11 (.mv (tO 0)) 1,oP 12 (.nilc (tO 11)) 2048,oP 13 (.fld 0 (tO 12)) 4096,oP 14 (.load 1 false (tO 13)) 8192,oP 15 (.lenS (tO 14)) 16384,oP 16 (.call jZ [(tO 15)]) 32768,oP 3 (.mv (tO 16)) 65536]) (.seq (.region none [oP 17 (.mv (tO 0)) 1,oP 18 (.nilc (tO 17)) 131072,oP 19 (.fld 2 (tO 18)) 262144,oP 20 (.load 1 false (tO 19)) 524288,oP 21 (.ixA 1 (tO 20) (kI 0)) 1048576,oP 22 (.load 1 false (tO 21)) 2097152,oP 4 (.mv (tO 22)) 4194304]) (.seq (.region none [oP 23 (.mv (tO 3)) 8,oP 24 (.mv (tO 4)) 16,oP 25 (.mv (tO 4)) 16,oP 26 (.call dY [(tO 23),(tO 24),(tO 25)]) 58720256]) (.seq (.seq (.region none [oP 5 (.mv (.con (.c (.sc (.bool true))))) 0]) (.block 0 (.loop (.seq (.seq (.region none [oP 27 (.mv (tO 5)) 32]) (.cond (tO 27) (.skip) (.exit 0))) (.block 1 (.seq (.region none [oP 5 (.mv (.con (.c (.sc (.bool false))))) 0]) (.seq (.region none [oP 28 (.mv (tO 0)) 1,oP 29 (.nilc (tO 28)) 268435456,oP 30 (.fld 2 (tO 29)) 536870912,oP 31 (.load 1 false (tO 30)) 1073741824,oP 32 (.sub 1 (tO 31) (some (kI 1)) none) 2147483648,oP 33 (.lenS (tO 32)) 4294967296,oP 34 (.mv (kI 0)) 0]) (.block 2 (.loop (.seq (.region none [oP 35 (.bin .lss (tO 34) (tO 33)) 25769803776]) (.seq (.cond (tO 35) (.skip) (.exit 2)) (.seq (.block 3 (.seq (.region none [oP 36 (.ixA 1 (tO 32) (tO 34)) 21474836480,oP 37 (.load 1 false (tO 36)) 68719476736,oP 7 (.mv (tO 37)) 137438953472]) (.seq (.region none [oP 8 (.mv (kI (-1))) 0]) (.seq (.seq (.region none [oP 38 (.mv (tO 0)) 1,oP 39 (.nilc (tO 38)) 274877906944,oP 40 (.fld 1 (tO 39)) 549755813888,oP 41 (.load 1 false (tO 40)) 1099511627776,oP 42 (.mv (tO 7)) 128,oP 43 (.ixA 1 (tO 41) (tO 42)) 6597069766656,oP 44 (.load 1 false (tO 43)) 8796093022208,oP 45 (.lenS (tO 44)) 17592186044416,oP 46 (.mv (kI 0)) 0]) (.block 4 (.loop (.seq (.region none [oP 47 (.bin .lss (tO 46) (tO 45)) 105553116266496]) (.seq (.cond (tO 47) (.skip) (.exit 4)) (.seq (.block 5 (.seq (.region none [oP 48 (.ixA 1 (tO 44) (tO 46)) 87960930222080,oP 49 (.load 1 false (tO 48)) 281474976710656,oP 10 (.mv (tO 49)) 562949953421312]) (.seq (.seq (.region none [oP 50 (.mv (tO 3)) 8,oP 51 (.nilc (tO 50)) 1125899906842624,oP 52 (.fld 1 (tO 51)) 2251799813685248,oP 53 (.load 1 false (tO 52)) 4503599627370496,oP 54 (.mv (tO 10)) 1024,oP 55 (.ixA 1 (tO 53) (tO 54)) 27021597764222976,oP 56 (.load 1 false (tO 55)) 36028797018963968,oP 57 (.un .not (tO 56)) 72057594037927936]) (.cond (tO 57) (.exit 5) (.skip))) (.seq (.region none [oP 58 (.mv (tO 8)) 256,oP 59 (.bin .lss (tO 58) (kI 0)) 288230376151711744]) (.cond (tO 59) (.region none [oP 60 (.mv (tO 10)) 1024,oP 8 (.mv (tO 60)) 1152921504606846976]) (.region none [oP 61 (.mv (tO 0)) 1,oP 62 (.mv (tO 3)) 8,oP 63 (.mv (tO 8)) 256,oP 64 (.mv (tO 10)) 1024,oP 65 (.call o7 [(tO 61),(tO 62),(tO 63),(tO 64)]) 34587645138205409280,oP 8 (.mv (tO 65)) 36893488147419103232])))))) (.region none [oP 66 (.bin .add (tO 46) (kI 1)) 70368744177664,oP 46 (.mv (tO 66)) 73786976294838206464]))))))) (.seq (.region none [oP 67 (.mv (tO 3)) 8,oP 68 (.nilc (tO 67)) 147573952589676412928,oP 69 (.fld 1 (tO 68)) 295147905179352825856,oP 70 (.load 1 false (tO 69)) 590295810358705651712,oP 71 (.mv (tO 7)) 128,oP 72 (.ixA 1 (tO 70) (tO 71)) 3541774862152233910272,oP 73 (.load 1 false (tO 72)) 4722366482869645213696,oP 74 (.un .not (tO 73)) 9444732965739290427392,oP 75 (.mv (tO 74)) 18889465931478580854784,(⟨(some 76),.mv (tO 3),(some (75,false))⟩,37778931862957161709576),(⟨(some 77),.nilc (tO 76),(some (75,false))⟩,113336795588871485128704),(⟨(some 78),.fld 0 (tO 77),(some (75,false))⟩,188894659314785808547840),(⟨(some 79),.load 1 false (tO 78),(some (75,false))⟩,340010386766614455386112),(⟨(some 80),.mv (tO 7),(some (75,false))⟩,37778931862957161709696),(⟨(some 81),.ixA 1 (tO 79) (tO 80),(some (75,false))⟩,1851167661284900923768832),(⟨(some 82),.load 1 false (tO 81),(some (75,false))⟩,2455630571092215511121920),(⟨(some 83),.mv (tO 8),(some (75,false))⟩,37778931862957161709824),(⟨(some 84),.bin .neq (tO 82) (tO 83),(some (75,false))⟩,14544888767238507258183680),oP 85 (.pick (tO 75) (.con (.c (.sc (.bool true)))) (tO 84)) 19380592045697023957008384]) (.cond (tO 85) (.seq (.region none [oP 86 (.mv (tO 3)) 8,oP 87 (.mv (tO 7)) 128,oP 88 (.mv (tO 8)) 256,oP 89 (.call dY [(tO 86),(tO 87),(tO 88)]) 541598767187353870268366848]) (.region none [oP 5 (.mv (.con (.c (.sc (.bool true))))) 0])) (.skip))))))) (.region none [oP 90 (.bin .add (tO 34) (kI 1)) 17179869184,oP 34 (.mv (tO 90)) 1237940039285380274899124224]))))))))))))) (.seq (.region none [oP 91 (.mv (tO 3)) 8,oP 2 (.mv (tO 91)) 2475880078570760549798248448]) (.ret)))))),[.tmp 2]⟩
set_option maxRecDepth 100000 in
theorem sZ:B3 Try.prog 34 = some i7∧m9 Try.prog 34 = true:=⟨by kernel_rfl,by kernel_rfl⟩
def lW:RF:=⟨.seq (.region none [oP 8 (.mv (kI 0)) 0]) (.seq (.block 0 (.loop (.seq (.seq (.region none [oP 9 (.mv (tO 2)) 4,oP 10 (.mv (tO 3)) 8,oP 11 (.bin .neq (tO 9) (tO 10)) 1536]) (.cond (tO 11) (.skip) (.exit 0))) (.block 1 (.seq (.seq (.region (some [0,1,3,7,15,31,63,0,255,511,0,1024,3072,7168,15360,31744,64512,0,261120,523264,1048575]) [oP 12 (.mv (tO 0)) 1,oP 13 (.nilc (tO 12)) 4096,oP 14 (.fld 3 (tO 13)) 8192,oP 15 (.load 1 false (tO 14)) 16384,oP 16 (.nilc (tO 15)) 32768,oP 17 (.fld 0 (tO 16)) 65536,oP 18 (.load 1 false (tO 17)) 131072,oP 19 (.mv (tO 2)) 4,oP 20 (.ixA 1 (tO 18) (tO 19)) 786432,oP 21 (.load 1 false (tO 20)) 1048576,oP 22 (.mv (tO 0)) 1,oP 23 (.nilc (tO 22)) 4194304,oP 24 (.fld 3 (tO 23)) 8388608,oP 25 (.load 1 false (tO 24)) 16777216,oP 26 (.nilc (tO 25)) 33554432,oP 27 (.fld 0 (tO 26)) 67108864,oP 28 (.load 1 false (tO 27)) 134217728,oP 29 (.mv (tO 3)) 8,oP 30 (.ixA 1 (tO 28) (tO 29)) 805306368,oP 31 (.load 1 false (tO 30)) 1073741824,oP 32 (.bin .lss (tO 21) (tO 31)) 2149580800]) (.cond (tO 32) (.region none [oP 33 (.mv (tO 3)) 8,oP 34 (.mv (tO 2)) 4,oP 2 (.mv (tO 33)) 8589934592,oP 3 (.mv (tO 34)) 17179869184]) (.skip))) (.region none [oP 35 (.mv (tO 1)) 2,oP 36 (.nilc (tO 35)) 34359738368,oP 37 (.fld 0 (tO 36)) 68719476736,oP 38 (.load 1 false (tO 37)) 137438953472,oP 39 (.mv (tO 2)) 4,oP 40 (.ixA 1 (tO 38) (tO 39)) 824633720832,oP 41 (.load 1 false (tO 40)) 1099511627776,oP 2 (.mv (tO 41)) 2199023255552])))))) (.seq (.region none [oP 42 (.mv (tO 2)) 4,oP 8 (.mv (tO 42)) 4398046511104]) (.ret))),[.tmp 8]⟩
set_option maxRecDepth 100000 in
theorem wx:B3 Try.prog 48 = some lW∧m9 Try.prog 48 = true:=⟨by kernel_rfl,by kernel_rfl⟩
def nj:RF:=⟨.seq (.region none [oP 2 (.box e8 (tO 0)) 1,oP 4 (.mv (.con (.c (.sc (.slice none 0 0))))) 0,oP 5 (.mv (kI 0)) 0]) (.seq (.seq (.region none [oP 17 (.load 2 true (tO 2)) 4,oP 18 (.call i3 [(tO 17)]) 131072,oP 6 (.mv (tO 18)) 262144]) (.seq (.region none [oP 19 (.mv (tO 6)) 64,oP 20 (.bin .neq (tO 19) (kI 0)) 524288]) (.cond (tO 20) (.seq (.region none [oP 21 (.mv (tO 6)) 64,oP 4 (.mv (.con (.c (.sc (.slice none 0 0))))) 0,oP 5 (.mv (tO 21)) 2097152]) (.ret)) (.skip)))) (.seq (.region none [oP 23 (.load 2 true (tO 2)) 4,oP 24 (.mv (tO 1)) 2,oP 25 (.call iK [(tO 23),(tO 24)]) 25165824,oP 22 (.mv (tO 25)) 33554432,oP 26 (.ext (tO 22) 0) 4194304,oP 27 (.ext (tO 22) 1) 4194304,oP 7 (.mv (tO 26)) 67108864,oP 8 (.mv (tO 27)) 134217728]) (.seq (.seq (.region none [oP 28 (.mv (tO 8)) 256,oP 29 (.un .not (tO 28)) 268435456]) (.cond (tO 29) (.seq (.region none [oP 4 (.mv (.con (.c (.sc (.slice none 0 0))))) 0,oP 5 (.mv (kI 5)) 0]) (.ret)) (.skip))) (.seq (.region none [oP 30 (.load 2 true (tO 2)) 4,oP 31 (.call k9 [(tO 30)]) 1073741824,oP 9 (.mv (tO 31)) 2147483648]) (.seq (.region none [oP 32 (.mv (tO 9)) 512,oP 33 (.nilc (tO 32)) 4294967296,oP 34 (.fld 0 (tO 33)) 8589934592,oP 35 (.load 1 false (tO 34)) 17179869184,oP 36 (.lenS (tO 35)) 34359738368,oP 37 (.call jZ [(tO 36)]) 68719476736,oP 10 (.mv (tO 37)) 137438953472]) (.seq (.region none [oP 38 (.fld 0 (tO 2)) 4,oP 39 (.load 1 false (tO 38)) 274877906944,oP 40 (.lenS (tO 39)) 549755813888,oP 11 (.mv (tO 40)) 1099511627776]) (.seq (.region none [oP 41 (.mv (tO 10)) 1024,oP 42 (.mv (tO 11)) 2048,oP 43 (.mv (tO 11)) 2048,oP 44 (.call dY [(tO 41),(tO 42),(tO 43)]) 15393162788864]) (.seq (.seq (.region none [oP 45 (.mv (tO 11)) 2048,oP 46 (.bsl cj 1 1 [(.sc (.int .i64 0))] [(0,1,(tO 45))]) 35184372088832,oP 12 (.mv (tO 46)) 70368744177664]) (.block 0 (.loop (.seq (.seq (.region none [oP 47 (.mv (tO 12)) 4096,oP 48 (.lenS (tO 47)) 140737488355328,oP 49 (.bin .gtr (tO 48) (kI 0)) 281474976710656]) (.cond (tO 49) (.skip) (.exit 0))) (.seq (.block 1 (.seq (.region (some [0,1,3,7,0,16,48,127,255,511,0]) [oP 52 (.mv (tO 9)) 512,oP 53 (.nilc (tO 52)) 4503599627370496,oP 54 (.fld 0 (tO 53)) 9007199254740992,oP 55 (.load 1 false (tO 54)) 18014398509481984,oP 56 (.mv (tO 12)) 4096,oP 57 (.ixA 1 (tO 56) (kI 0)) 72057594037927936,oP 58 (.load 1 false (tO 57)) 144115188075855872,oP 59 (.ixA 1 (tO 55) (tO 58)) 324259173170675712,oP 60 (.load 1 false (tO 59)) 576460752303423488,oP 61 (.lenS (tO 60)) 1152921504606846976,oP 62 (.mv (kI 0)) 0]) (.block 2 (.loop (.seq (.region none [oP 63 (.bin .lss (tO 62) (tO 61)) 6917529027641081856]) (.seq (.cond (tO 63) (.skip) (.exit 2)) (.seq (.block 3 (.seq (.region none [oP 64 (.ixA 1 (tO 60) (tO 62)) 5764607523034234880,oP 65 (.load 1 false (tO 64)) 18446744073709551616,oP 14 (.mv (tO 65)) 36893488147419103232]) (.seq (.region none [oP 66 (.mv (tO 10)) 1024,oP 67 (.nilc (tO 66)) 73786976294838206464,oP 68 (.fld 1 (tO 67)) 147573952589676412928,oP 69 (.load 1 false (tO 68)) 295147905179352825856,oP 70 (.mv (tO 14)) 16384,oP 71 (.ixA 1 (tO 69) (tO 70)) 1770887431076116955136,oP 72 (.load 1 false (tO 71)) 2361183241434822606848,oP 73 (.un .not (tO 72)) 4722366482869645213696]) (.cond (tO 73) (.seq (.region none [oP 74 (.mv (tO 10)) 1024,oP 75 (.mv (tO 14)) 16384,oP 76 (.mv (tO 12)) 4096,oP 77 (.ixA 1 (tO 76) (kI 0)) 75557863725914323419136,oP 78 (.load 1 false (tO 77)) 151115727451828646838272,oP 79 (.call dY [(tO 74),(tO 75),(tO 78)]) 358899852698093036240896]) (.region none [oP 80 (.mv (tO 12)) 4096,oP 81 (.mv (tO 14)) 16384,oP 82 (.bsl cj 1 1 [(.sc (.int .i64 0))] [(0,1,(tO 81))]) 2417851639229258349412352,oP 83 (.app cj 1 8 (tO 80) (tO 82)) 6044629098073145873530880,oP 12 (.mv (tO 83)) 9671406556917033397649408])) (.skip))))) (.region none [oP 84 (.bin .add (tO 62) (kI 1)) 4611686018427387904,oP 62 (.mv (tO 84)) 19342813113834066795298816])))))))) (.region none [oP 50 (.mv (tO 12)) 4096,oP 51 (.sub 1 (tO 50) (some (kI 1)) none) 1125899906842624,oP 12 (.mv (tO 51)) 2251799813685248])))))) (.seq (.seq (.region none [oP 85 (.mv (tO 10)) 1024,oP 86 (.nilc (tO 85)) 38685626227668133590597632,oP 87 (.fld 1 (tO 86)) 77371252455336267181195264,oP 88 (.load 1 false (tO 87)) 154742504910672534362390528,oP 89 (.mv (tO 7)) 128,oP 90 (.ixA 1 (tO 88) (tO 89)) 928455029464035206174343168,oP 91 (.load 1 false (tO 90)) 1237940039285380274899124224,oP 92 (.un .not (tO 91)) 2475880078570760549798248448]) (.cond (tO 92) (.seq (.region none [oP 4 (.mv (.con (.c (.sc (.slice none 0 0))))) 0,oP 5 (.mv (kI 5)) 0]) (.ret)) (.skip))) (.seq (.region none [oP 15 (.mv (.con (.c (.sc (.slice none 0 0))))) 0]) (.seq (.seq (.region none [oP 93 (.mv (tO 7)) 128,oP 16 (.mv (tO 93)) 9903520314283042199192993792]) (.block 4 (.loop (.seq (.seq (.region none [oP 94 (.mv (tO 16)) 65536,oP 95 (.mv (tO 11)) 2048,oP 96 (.bin .neq (tO 94) (tO 95)) 59421121885698253195157962752]) (.cond (tO 96) (.skip) (.exit 4))) (.seq (.block 5 (.region none [oP 104 (.mv (tO 15)) 32768,oP 105 (.fld 0 (tO 2)) 4,oP 106 (.load 1 false (tO 105)) 40564819207303340847894502572032,oP 107 (.mv (tO 16)) 65536,oP 108 (.ixA 4 (tO 106) (tO 107)) 243388915243820045087367015432192,oP 109 (.fld 0 (tO 108)) 324518553658426726783156020576256,oP 110 (.load 1 false (tO 109)) 649037107316853453566312041152512,oP 111 (.bsl cj 1 1 [(.sc (.int .i64 0))] [(0,1,(tO 110))]) 1298074214633706907132624082305024,oP 112 (.app cj 1 8 (tO 104) (tO 111)) 2616430838871065484689195415896064,oP 15 (.mv (tO 112)) 5192296858534827628530496329220096])) (.region none [oP 97 (.mv (tO 10)) 1024,oP 98 (.nilc (tO 97)) 158456325028528675187087900672,oP 99 (.fld 0 (tO 98)) 316912650057057350374175801344,oP 100 (.load 1 false (tO 99)) 633825300114114700748351602688,oP 101 (.mv (tO 16)) 65536,oP 102 (.ixA 1 (tO 100) (tO 101)) 3802951800684688204490109616128,oP 103 (.load 1 false (tO 102)) 5070602400912917605986812821504,oP 16 (.mv (tO 103)) 10141204801825835211973625643008])))))) (.seq (.region none [oP 113 (.mv (tO 15)) 32768,oP 114 (.call gY [(tO 113)]) 10384593717069655257060992658440192]) (.seq (.region none [oP 115 (.mv (tO 15)) 32768,oP 4 (.mv (tO 115)) 41538374868278621028243970633760768,oP 5 (.mv (kI 0)) 0]) (.ret)))))))))))))),[.tmp 4,.tmp 5]⟩
set_option maxRecDepth 100000 in
theorem GY:B3 Try.prog 7 = some nj∧m9 Try.prog 7 = true:=⟨by kernel_rfl,by kernel_rfl⟩
def qj:RF:=⟨.seq (.region none [oP 2 (.box e8 (tO 0)) 1,oP 4 (.mv (.con (.c (.sc (.slice none 0 0))))) 0,oP 5 (.mv (kI 0)) 0]) (.seq (.region none [oP 15 (.load 2 true (tO 2)) 4,oP 16 (.call j8 [(tO 15)]) 32768,oP 14 (.mv (tO 16)) 65536,oP 17 (.ext (tO 14) 0) 16384,oP 18 (.ext (tO 14) 1) 16384,oP 6 (.alloc i8 [(.sc (.slice none 0 0))]) 0,oN (.store 1 (tO 6) (tO 17)) 131136,oP 7 (.mv (tO 18)) 262144]) (.seq (.seq (.region none [oP 19 (.mv (tO 7)) 128,oP 20 (.bin .neq (tO 19) (kI 0)) 524288]) (.cond (tO 20) (.seq (.region none [oP 21 (.mv (tO 7)) 128,oP 4 (.mv (.con (.c (.sc (.slice none 0 0))))) 0,oP 5 (.mv (tO 21)) 2097152]) (.ret)) (.skip))) (.seq (.seq (.region none [oP 22 (.mv (tO 1)) 2,oP 23 (.bin .lss (tO 22) (kI 0)) 4194304]) (.cond (tO 23) (.seq (.region none [oP 4 (.mv (.con (.c (.sc (.slice none 0 0))))) 0,oP 5 (.mv (kI 2)) 0]) (.ret)) (.skip))) (.seq (.region none [oP 8 (.mv (.con (.c (.sc (.slice none 0 0))))) 0]) (.seq (.seq (.region (some [0,1,3,7,15,31,63,127,0,256,768,2047,4095,0]) [oP 24 (.load 2 true (tO 2)) 4,oP 25 (.call k9 [(tO 24)]) 16777216,oP 26 (.nilc (tO 25)) 33554432,oP 27 (.fld 3 (tO 26)) 67108864,oP 28 (.load 1 false (tO 27)) 134217728,oP 29 (.nilc (tO 28)) 268435456,oP 30 (.fld 1 (tO 29)) 536870912,oP 31 (.load 1 false (tO 30)) 1073741824,oP 32 (.fld 0 (tO 2)) 4,oP 33 (.load 1 false (tO 32)) 4294967296,oP 34 (.lenS (tO 33)) 8589934592,oP 35 (.sub 1 (tO 31) none (some (tO 34))) 19327352832,oP 36 (.lenS (tO 35)) 34359738368,oP 37 (.mv (kI 0)) 0]) (.block 0 (.loop (.seq (.region none [oP 38 (.bin .lss (tO 37) (tO 36)) 206158430208]) (.seq (.cond (tO 38) (.skip) (.exit 0)) (.seq (.block 1 (.seq (.region none [oP 39 (.mv (tO 37)) 137438953472,oP 40 (.ixA 1 (tO 35) (tO 37)) 171798691840,oP 41 (.load 1 false (tO 40)) 1099511627776,oP 9 (.mv (tO 39)) 549755813888,oP 10 (.mv (tO 41)) 2199023255552]) (.seq (.region none [oP 42 (.mv (tO 10)) 1024]) (.cond (tO 42) (.region none [oP 43 (.mv (tO 8)) 256,oP 44 (.mv (tO 9)) 512,oP 45 (.bsl cj 1 1 [(.sc (.int .i64 0))] [(0,1,(tO 44))]) 17592186044416,oP 46 (.app cj 1 8 (tO 43) (tO 45)) 43980465111040,oP 8 (.mv (tO 46)) 70368744177664]) (.skip))))) (.region none [oP 47 (.bin .add (tO 37) (kI 1)) 137438953472,oP 37 (.mv (tO 47)) 140737488355328]))))))) (.seq (.region none [oP 48 (.mv (tO 8)) 256,oP 49 (.mkfn jX [(tO 6),(tO 2)]) 68,oP 50 (.call gQ [(tO 48),(tO 49)]) 844424930131968]) (.seq (.region none [oP 51 (.bsl cj 1 0 [(.sc (.int .i64 0))] []) 0,oP 11 (.mv (tO 51)) 2251799813685248]) (.seq (.seq (.region none [oP 52 (.mv (tO 8)) 256,oP 53 (.mv (tO 1)) 2,oP 54 (.mv (tO 8)) 256,oP 55 (.lenS (tO 54)) 18014398509481984,oP 56 (.mm false [(tO 53),(tO 55)]) 45035996273704960,oP 57 (.sub 1 (tO 52) none (some (tO 56))) 76561193665298432,oP 58 (.lenS (tO 57)) 144115188075855872,oP 59 (.mv (kI 0)) 0]) (.block 2 (.loop (.seq (.region none [oP 60 (.bin .lss (tO 59) (tO 58)) 864691128455135232]) (.seq (.cond (tO 60) (.skip) (.exit 2)) (.seq (.block 3 (.seq (.region none [oP 61 (.ixA 1 (tO 57) (tO 59)) 720575940379279360,oP 62 (.load 1 false (tO 61)) 2305843009213693952,oP 13 (.mv (tO 62)) 4611686018427387904]) (.region none [oP 63 (.mv (tO 11)) 2048,oP 64 (.fld 0 (tO 2)) 4,oP 65 (.load 1 false (tO 64)) 18446744073709551616,oP 66 (.mv (tO 13)) 8192,oP 67 (.ixA 4 (tO 65) (tO 66)) 110680464442257309696,oP 68 (.fld 0 (tO 67)) 147573952589676412928,oP 69 (.load 1 false (tO 68)) 295147905179352825856,oP 70 (.bsl cj 1 1 [(.sc (.int .i64 0))] [(0,1,(tO 69))]) 590295810358705651712,oP 71 (.app cj 1 8 (tO 63) (tO 70)) 1189814992754266079232,oP 11 (.mv (tO 71)) 2361183241434822606848]))) (.region none [oP 72 (.bin .add (tO 59) (kI 1)) 576460752303423488,oP 59 (.mv (tO 72)) 4722366482869645213696]))))))) (.seq (.region none [oP 73 (.mv (tO 11)) 2048,oP 4 (.mv (tO 73)) 9444732965739290427392,oP 5 (.mv (kI 0)) 0]) (.ret)))))))))),[.tmp 4,.tmp 5]⟩
set_option maxRecDepth 100000 in
theorem IX:B3 Try.prog 10 = some qj∧m9 Try.prog 10 = true:=⟨by kernel_rfl,by kernel_rfl⟩
def EW:RF:=⟨.seq (.region none [oP 6 (.mv (kI 0)) 0]) (.seq (.region (some [0,0,3,7,0,0,48,112,255,0,512,0,3584,7680,15872,0,32768,0,229376,491520,1015808,2097151,4194303,8388607,16777215]) [oP 7 (.load 1 false (tO 2)) 4,oP 8 (.mv (tO 1)) 2,oP 9 (.ixA 1 (tO 7) (tO 8)) 384,oP 10 (.load 1 false (tO 9)) 512,oP 11 (.load 1 false (tO 2)) 4,oP 12 (.mv (tO 0)) 1,oP 13 (.ixA 1 (tO 11) (tO 12)) 6144,oP 14 (.load 1 false (tO 13)) 8192,oP 15 (.call p9 [(tO 10),(tO 14)]) 17408,oP 16 (.fld 0 (tO 3)) 8,oP 17 (.load 1 false (tO 16)) 65536,oP 18 (.mv (tO 0)) 1,oP 19 (.ixA 4 (tO 17) (tO 18)) 393216,oP 20 (.fld 0 (tO 19)) 524288,oP 21 (.load 1 false (tO 20)) 1048576,oP 22 (.fld 0 (tO 3)) 8,oP 23 (.load 1 false (tO 22)) 4194304,oP 24 (.mv (tO 1)) 2,oP 25 (.ixA 4 (tO 23) (tO 24)) 25165824,oP 26 (.fld 0 (tO 25)) 33554432,oP 27 (.load 1 false (tO 26)) 67108864,oP 28 (.call p9 [(tO 21),(tO 27)]) 136314880,oP 29 (.bsl cj 1 2 [(.sc (.int .i64 0))] [(0,1,(tO 15)),(1,1,(tO 28))]) 268468224,oP 30 (.call CX [(tO 29)]) 536870912,oP 6 (.mv (tO 30)) 1073741824]) (.ret)),[.tmp 6]⟩
set_option maxRecDepth 100000 in
theorem Fq:B3 Try.prog 29 = some EW∧m9 Try.prog 29 = true:=⟨by kernel_rfl,by kernel_rfl⟩
def uW:RF:=⟨.seq (.region none [oP 4 (.mv (kI 0)) 0]) (.seq (.region none [oP 7 (.mv (tO 0)) 1,oP 8 (.call tQ [(tO 7)]) 128,oP 5 (.mv (tO 8)) 256]) (.seq (.region none [oP 9 (.mv (tO 1)) 2,oP 10 (.call tQ [(tO 9)]) 512,oP 6 (.mv (tO 10)) 1024]) (.seq (.seq (.region none [oP 11 (.mv (tO 5)) 32]) (.cond (tO 11) (.seq (.seq (.region none [oP 12 (.mv (tO 6)) 64]) (.cond (tO 12) (.seq (.region none [oP 4 (.mv (kI 0)) 0]) (.ret)) (.skip))) (.seq (.region none [oP 4 (.mv (kI (-1))) 0]) (.ret))) (.skip))) (.seq (.seq (.region none [oP 13 (.mv (tO 6)) 64]) (.cond (tO 13) (.seq (.region none [oP 4 (.mv (kI 1)) 0]) (.ret)) (.skip))) (.seq (.seq (.region none [oP 14 (.mv (tO 0)) 1,oP 15 (.mv (tO 1)) 2,oP 16 (.bin .lss (tO 14) (tO 15)) 49152]) (.cond (tO 16) (.seq (.region none [oP 4 (.mv (kI (-1))) 0]) (.ret)) (.skip))) (.seq (.seq (.region none [oP 17 (.mv (tO 0)) 1,oP 18 (.mv (tO 1)) 2,oP 19 (.bin .gtr (tO 17) (tO 18)) 393216]) (.cond (tO 19) (.seq (.region none [oP 4 (.mv (kI 1)) 0]) (.ret)) (.skip))) (.seq (.region none [oP 4 (.mv (kI 0)) 0]) (.ret)))))))),[.tmp 4]⟩
set_option maxRecDepth 100000 in
theorem wJ:B3 Try.prog 31 = some uW∧m9 Try.prog 31 = true:=⟨by kernel_rfl,by kernel_rfl⟩
def wW:RF:=⟨.seq (.region none [oP 2 (.mv (.con (.c (.sc (.bool false))))) 0]) (.seq (.region none [oP 3 (.mv (tO 0)) 1,oP 4 (.mv (tO 0)) 1,oP 5 (.bin .neq (tO 3) (tO 4)) 24,oP 2 (.mv (tO 5)) 32]) (.ret)),[.tmp 2]⟩
set_option maxRecDepth 100000 in
theorem y9:B3 Try.prog 46 = some wW∧m9 Try.prog 46 = true:=⟨by kernel_rfl,by kernel_rfl⟩
def CW:RF:=⟨.seq (.region none [oP 2 (.mv (kI 0)) 0]) (.seq (.region none [oP 3 (.mv (kI 0)) 0]) (.seq (.seq (.region none [oP 6 (.mv (tO 0)) 1,oP 7 (.lenS (tO 6)) 64,oP 8 (.mv (kI 0)) 0]) (.block 0 (.loop (.seq (.region none [oP 9 (.bin .lss (tO 8) (tO 7)) 384]) (.seq (.cond (tO 9) (.skip) (.exit 0)) (.seq (.block 1 (.seq (.region none [oP 10 (.ixA 1 (tO 6) (tO 8)) 320,oP 11 (.load 1 false (tO 10)) 1024,oP 5 (.mv (tO 11)) 2048]) (.seq (.region none [oP 12 (.mv (tO 5)) 32,oP 13 (.mv (tO 3)) 8,oP 14 (.bin .neq (tO 12) (tO 13)) 12288]) (.cond (tO 14) (.seq (.region none [oP 15 (.mv (tO 5)) 32,oP 2 (.mv (tO 15)) 32768]) (.ret)) (.skip))))) (.region none [oP 16 (.bin .add (tO 8) (kI 1)) 256,oP 8 (.mv (tO 16)) 65536]))))))) (.seq (.region none [oP 17 (.mv (tO 3)) 8,oP 2 (.mv (tO 17)) 131072]) (.ret)))),[.tmp 2]⟩
set_option maxRecDepth 100000 in
theorem DK:B3 Try.prog 30 = some CW∧m9 Try.prog 30 = true:=⟨by kernel_rfl,by kernel_rfl⟩
def f0:RF:=⟨.seq (.region none [oP 1 (.box i8 (tO 0)) 1,oP 2 (.mv (.con (.c (.sc .nilFunc)))) 0]) (.seq (.region none [oP 3 (.mkfn dJ [(tO 1)]) 2,oP 2 (.mv (tO 3)) 8]) (.ret)),[.tmp 2]⟩
set_option maxRecDepth 100000 in
theorem p7:B3 Try.prog 35 = some f0∧m9 Try.prog 35 = true:=⟨by kernel_rfl,by kernel_rfl⟩
def mq:RF:=⟨.seq (.region none [oP 4 (.load 1 false (tO 1)) 2,oP 5 (.lenS (tO 4)) 16,oP 6 (.bin .sub (tO 5) (kI 1)) 32,oP 3 (.mv (tO 6)) 64]) (.block 0 (.loop (.seq (.seq (.region none [oP 7 (.mv (tO 3)) 8,oP 8 (.bin .geq (tO 7) (kI 0)) 128]) (.cond (tO 8) (.skip) (.exit 0))) (.seq (.block 1 (.seq (.region none [oP 11 (.mv (tO 0)) 1,oP 12 (.mv (tO 3)) 8,oP 13 (.load 1 false (tO 1)) 2,oP 14 (.mv (tO 3)) 8,oP 15 (.ixA 1 (tO 13) (tO 14)) 24576,oP 16 (.load 1 false (tO 15)) 32768,oP 17 (.callv (tO 11) [(tO 12),(tO 16)]) 71680,oP 18 (.un .not (tO 17)) 131072]) (.cond (tO 18) (.ret) (.skip)))) (.region none [oP 9 (.mv (tO 3)) 8,oP 10 (.bin .sub (tO 9) (kI 1)) 512,oP 3 (.mv (tO 10)) 1024]))))),[]⟩
set_option maxRecDepth 100000 in
theorem pQ:B3 Try.prog 49 = some mq∧m9 Try.prog 49 = true:=⟨by kernel_rfl,by kernel_rfl⟩
def p_T:Tr RF:=Eq [(p8,qz),(k9,vJ),(jZ,nK),(jj,sV),(m5,mY),(gY,gW),(dY,jK),(kz,gV),(jW,jJ),(e9,i7),(o7,lW),(nQ,nj),(xj,qj),(jX,EW),(p9,uW),(tQ,wW),(CX,CW),(gq,f0),(dJ,mq)]
theorem rW:TOk Try.prog p_T:=aHq fun p hp=>by
 simp only [qk,List.not_mem_nil,or_false] at hp
 rcases hp with rfl | rfl | rfl | rfl | rfl | rfl | rfl | rfl | rfl | rfl | rfl | rfl | rfl | rfl | rfl | rfl | rfl | rfl | rfl
 ·exact Fx
 ·exact FQ
 ·exact yq
 ·exact B7
 ·exact wX
 ·exact qW
 ·exact tX
 ·exact rj
 ·exact xW
 ·exact sZ
 ·exact wx
 ·exact GY
 ·exact IX
 ·exact Fq
 ·exact wJ
 ·exact y9
 ·exact DK
 ·exact p7
 ·exact pQ
def mj:Nat:=43
def uY:RF:=⟨.seq (.region none [oP 1 (.box e8 (tO 0)) 1,oP 2 (.mv (.con (.c (.sc (.slice none 0 0))))) 0,oP 3 (.mv (kI 0)) 0]) (.seq (.seq (.region none [oP 10 (.load 2 true (tO 1)) 2,oP 11 (.call i3 [(tO 10)]) 1024,oP 4 (.mv (tO 11)) 2048]) (.seq (.region none [oP 12 (.mv (tO 4)) 16,oP 13 (.bin .neq (tO 12) (kI 0)) 4096]) (.cond (tO 13) (.seq (.region none [oP 14 (.mv (tO 4)) 16,oP 2 (.mv (.con (.c (.sc (.slice none 0 0))))) 0,oP 3 (.mv (tO 14)) 16384]) (.ret)) (.skip)))) (.seq (.region none [oP 15 (.load 2 true (tO 1)) 2,oP 16 (.call k9 [(tO 15)]) 32768,oP 5 (.mv (tO 16)) 65536]) (.seq (.region none [oP 17 (.mv (tO 5)) 32,oP 18 (.call e9 [(tO 17)]) 131072,oP 6 (.alloc mj [(.sc (.pointer none))]) 0,oN (.store 1 (tO 6) (tO 18)) 262208]) (.seq (.region none [oP 19 (.fld 0 (tO 1)) 2,oP 20 (.load 1 false (tO 19)) 524288,oP 21 (.lenS (tO 20)) 1048576,oP 22 (.bin .add (tO 21) (kI 1)) 2097152,oP 23 (.mksl cj 1 8 [(.sc (.int .i64 0))] (tO 22) (tO 22)) 4194304,oP 7 (.alloc i8 [(.sc (.slice none 0 0))]) 0,oN (.store 1 (tO 7) (tO 23)) 8388736]) (.seq (.seq (.region none [oP 24 (.mv (tO 5)) 32,oP 25 (.nilc (tO 24)) 16777216,oP 26 (.fld 2 (tO 25)) 33554432,oP 27 (.load 1 false (tO 26)) 67108864,oP 28 (.sub 1 (tO 27) (some (kI 1)) none) 134217728,oP 29 (.call gq [(tO 28)]) 268435456]) (.block 0 (.bad))) (.seq (.region none [oP 60 (.load 1 false (tO 7)) 128,oP 61 (.fld 0 (tO 1)) 2,oP 62 (.load 1 false (tO 61)) 2305843009213693952,oP 63 (.lenS (tO 62)) 4611686018427387904,oP 64 (.sub 1 (tO 60) none (some (tO 63))) 10376293541461622784,oP 2 (.mv (tO 64)) 18446744073709551616,oP 3 (.mv (kI 0)) 0]) (.ret))))))),[.tmp 2,.tmp 3]⟩
set_option maxRecDepth 100000 in
theorem JK:B3 Try.prog 16 = some uY∧m9 Try.prog 16 = true:=⟨by kernel_rfl,by kernel_rfl⟩
def aKV:Tr RF:=Eq [(j8,uY),(p8,qz),(k9,vJ),(jZ,nK),(jj,sV),(m5,mY),(gY,gW),(dY,jK),(kz,gV),(jW,jJ),(e9,i7),(o7,lW),(nQ,nj),(xj,qj),(jX,EW),(p9,uW),(tQ,wW),(CX,CW),(gq,f0),(dJ,mq)]
theorem arx:TOk Try.prog aKV:=aHq fun p hp=>by
 simp only [qk,List.not_mem_nil,or_false] at hp
 rcases hp with rfl | rfl | rfl | rfl | rfl | rfl | rfl | rfl | rfl | rfl | rfl | rfl | rfl | rfl | rfl | rfl | rfl | rfl | rfl | rfl
 ·exact JK
 ·exact Fx
 ·exact FQ
 ·exact yq
 ·exact B7
 ·exact wX
 ·exact qW
 ·exact tX
 ·exact rj
 ·exact xW
 ·exact sZ
 ·exact wx
 ·exact GY
 ·exact IX
 ·exact Fq
 ·exact wJ
 ·exact y9
 ·exact DK
 ·exact p7
 ·exact pQ
end Go.RM
namespace Go.RM
open Go.VM (T mV)
theorem amW (a b:Nat):Nat.ble a b = decide (a≤b):=by
 rw [Bool.eq_iff_iff,Nat.ble_eq,ow]
theorem Z3 (a b:Nat):Nat.beq a b = decide (a = b):=by
 rw [Bool.eq_iff_iff,ow]
 exact ⟨Nat.eq_of_beq_eq_true,fun h=>h ▸ Nat.beq_refl a⟩
def nI (k:Nat):X:=.sc (.int .i64 (k:Int))
def bI (b:Bool):X:=.sc (.bool b)
theorem F5 {n:Nat} (h:n≤1000000):nJ 8 n = true:=by
 unfold nJ
 rw [fk,Nat.ble_eq,Nat.ble_eq]
 omega
theorem ayJ {n:Nat} (h:n≤1000000):nJ 1 n = true:=by
 unfold nJ
 rw [fk,Nat.ble_eq,Nat.ble_eq]
 omega
theorem afj {α:Type} (n:Nat) (x:α):(List.replicate n [x]).flatten = List.replicate n x:=by
 induction n with
 | zero=>rfl
 | succ n ih=>rw [List.replicate_succ,List.flatten_cons,ih]; rfl
structure Nums (h:Hp) (p nv nk:Nat) (vs:List Nat) (ks:List Bool):Prop where
 box:h p = some (.cells zq [.sl nv 1 0 vs.length,.sl nk 1 0 ks.length])
 vals:h nv = some (.cells cj (vs.map nI))
 known:h nk = some (.cells AV (ks.map bI))
theorem HK {Γ:Tr V} {s:S} {t:Nat} {v:V} (h:look Γ t = v) (hp:m8 v = true):tK Γ s [.tmp t] = some ([v],0):=by
 simp only [tK,kq,h,hp,gd,cond_true,wk]
theorem Q6 {orc:bZ} {b:Nat} {s:S} (hS:Sb b s) (n:Nat) (hn:n≤1000000):Cp orc p_T jZ [iV (n:Int)] s (fun k=>s.c≤k∧k < s.c + 3) True fun v s'=>Sb b s'∧∃ p nv nk,v = .c (.ptr p 0)∧Nums s'.h.get p nv nk (List.replicate n 0) (List.replicate n false)∧nv = s.c∧nk = s.c + 1∧p = s.c + 2∧s'.c = s.c + 3∧∀ k,k < s.c→s'.h.get k = s.h.get k:=by
 have r8:=F5 hn
 have r1:=ayJ hn
 have hle:=hS.le
 refine k8 (rf:=nK) rfl ?_
 unfold nK
 obtain ⟨Γ,hΓ⟩ : ∃ Γ,Γ = ofL [iV (n:Int)] 0 .lf:=⟨_,rfl⟩
 have g0:look Γ 0 = iV (n:Int):=by rw [hΓ]; rfl
 rw [← hΓ]
 try clear G
 clear hΓ
 replace G:=g0
 refine az (aq ?_)
 refine qV ?_
 refine aX ?_
 dsimp only [aQ]
 refine az (sj rfl ?_)
 refine rV ?_
 refine Az rfl (MS.mksl hS aK aK (by first | exact ik _ | omega) (by first | assumption | rfl)) cK (fun x hx=>by simp at hx) ?_
 refine zW hS ?_
 intro s1 hst1 hsc1 hS1
 have hn1:=hst1.self
 refine rV ?_
 refine Az rfl (MS.mksl hS1 aK aK (by first | exact ik _ | omega) (by first | assumption | rfl)) cK (by intro x hx; simp only [List.nil_append,List.cons_append,qk,List.not_mem_nil,or_false] at hx; rcases hx with rfl <;> first | exact .inl (by dsimp only; decide) | (refine .inr fun k => ?_; refine ⟨?_,?_,?_⟩ <;> (intro hk; (try dsimp only at hk); first | exact hk.1.elim | exact hk.2.elim | omega))) ?_
 refine zW hS1 ?_
 intro s2 hst2 hsc2 hS2
 replace hn1:=hst2.at hn1 (by omega)
 have hn2:=hst2.self
 refine uX rfl (by simp only [evS,Nat.reduceEqDiff,reduceIte,PU,bJ,scV,bV,iV,dZ,isB,isI,pX,wQ,mkV,fill,dK,setAt,List.take_zero,List.take_succ_cons,List.take_nil,List.drop_nil,List.append_nil,List.nil_append,List.cons_append,List.length_cons,List.length_nil,Nat.reduceAdd,Nat.reduceLeDiff,Z3,amW,eq_self,decide_true,Bool.and_self,G]; first | done | rfl) ?_
 refine Az rfl (MS.box hS2 zj) cK (by intro x hx; simp only [List.nil_append,List.cons_append,qk,List.not_mem_nil,or_false] at hx; rcases hx with rfl | rfl <;> first | exact .inl (by dsimp only; decide) | (refine .inr fun k => ?_; refine ⟨?_,?_,?_⟩ <;> (intro hk; (try dsimp only at hk); first | exact hk.1.elim | exact hk.2.elim | omega))) ?_
 refine zW hS2 ?_
 intro s3 hst3 hsc3 hS3
 replace hn1:=hst3.at hn1 (by omega)
 replace hn2:=hst3.at hn2 (by omega)
 have hn3:=hst3.self
 refine rV ?_
 refine wz ?_
 dsimp only [aQ]
 refine pZ ?_
 rw [afj] at hn1 hn2
 refine ⟨.inr rfl,_,0,HK (by simp only [cq,qw]) rfl,cY,hS3,s2.c,s.c,s1.c,rfl,⟨?_,?_,?_⟩,rfl,hsc1,by omega,by omega,fun k hk=>?_⟩
 ·rw [hn3,mw,mw]
 ·rw [hn1,List.map_replicate]; rfl
 ·rw [hn2,List.map_replicate]; rfl
 ·rw [hst3.keep k (by omega),hst2.keep k (by omega),hst1.keep k (by omega)]
theorem Ux {orc:bZ} {b:Nat} {s:S} (hS:Sb b s) {p nv nk:Nat} {vs:List Nat} {ks:List Bool} (hN:Nums s.h.get p nv nk vs ks) (hb:b≤p∧b≤nv∧b≤nk) (hne:p ≠ nv∧p ≠ nk∧nv ≠ nk) {i v:Nat} (hi:i < vs.length) (hi2:i < ks.length) :
  Cp orc p_T dY [.c (.ptr p 0),iV (i:Int),iV (v:Int)] s (fun k=>b≤k) True fun _ s'=>Sb b s'∧Nums s'.h.get p nv nk (vs.set i v) (ks.set i true)∧s'.c = s.c∧∀ k,k ≠ nv→k ≠ nk→s'.h.get k = s.h.get k:=by
 obtain ⟨h1,h2,h3⟩:=hN
 obtain ⟨hb1,hb2,hb3⟩:=hb
 obtain ⟨hne1,hne2,hne3⟩:=hne
 have hl1:=hS.lt h1
 have hl2:=hS.lt h2
 have hl3:=hS.lt h3
 refine k8 (rf:=jK) rfl ?_
 unfold jK
 obtain ⟨Γ,hΓ⟩ : ∃ Γ,Γ = ofL [.c (.ptr p 0),iV (i:Int),iV (v:Int)] 0 .lf:=⟨_,rfl⟩
 have g0:look Γ 0 = .c (.ptr p 0):=by rw [hΓ]; rfl
 have g1:look Γ 1 = iV (i:Int):=by rw [hΓ]; rfl
 have g2:look Γ 2 = iV (v:Int):=by rw [hΓ]; rfl
 rw [← hΓ]
 try clear G
 clear hΓ
 replace G:=bw g0 (bw g1 g2)
 refine sj rfl ?_
 refine rV ?_
 refine rP ?_
 refine rP ?_
 refine Az rfl G4 cK (fun x hx=>by simp at hx) ?_
 refine rV ?_
 refine rV ?_
 refine rP ?_
 refine rP ?_
 refine rL ?_
 refine rV ?_
 refine rV ?_
 refine rX ?_
 refine rT ?_
 refine zX hS (by omega) (by omega) ?_
 intro s1 hst1 hsc1 hS1
 first | replace h1:=hst1.at h1 (by omega) | replace h1:=hst1.self
 first | replace h2:=hst1.at h2 (by omega) | replace h2:=hst1.self
 first | replace h3:=hst1.at h3 (by omega) | replace h3:=hst1.self
 refine rX ?_
 refine rT ?_
 refine zX hS1 (by omega) (by omega) ?_
 intro s2 hst2 hsc2 hS2
 first | replace h1:=hst2.at h1 (by omega) | replace h1:=hst2.self
 first | replace h2:=hst2.at h2 (by omega) | replace h2:=hst2.self
 first | replace h3:=hst2.at h3 (by omega) | replace h3:=hst2.self
 refine wz ?_
 try dsimp only [aQ]
 refine ⟨.inl rfl,[],0,rfl,cY,hS2,⟨?_,?_,?_⟩,by omega,fun k hk1 hk2=>?_⟩
 ·rw [h1,uw,uw]
 ·rw [h2,List.map_set]; rfl
 ·rw [h3,List.map_set]; rfl
 ·rw [hst2.keep k hk2,hst1.keep k hk1]
end Go.RM
namespace Go.RM
open Go.VM (T mV)
theorem wr {x:Int} (h1 : -9000000000000000000≤x) (h2:x≤9000000000000000000):IntKind.i64.wrap x = x:=by
 simp only [IntKind.wrap,IntKind.bits,IntKind.signed]
 simp
 omega
def RevI (xs ys:List X) (i:Nat):Prop:=ys.length = xs.length∧∀ k,k < xs.length→ys[k]? = if k < i∨xs.length - i≤k then xs[xs.length - 1 - k]? else xs[k]?
theorem RevI.start (xs:List X):RevI xs xs 0:=⟨rfl,fun k hk=>by rw [if_neg (by omega)]⟩
theorem RevI.step {xs ys:List X} {i:Nat} {a c:X} (h:RevI xs ys i) (hi:i < xs.length - 1 - i) (ha:ys[xs.length - 1 - i]? = some a) (hc:ys[i]? = some c):RevI xs ((ys.set i a).set (xs.length - 1 - i) c) (i + 1):=by
 refine ⟨by rw [uw,uw]; exact h.1,fun k hk=>?_⟩
 have ha':=h.2 (xs.length - 1 - i) (by omega)
 have hc':=h.2 i (by omega)
 rw [if_neg (by omega),ha] at ha'
 rw [if_neg (by omega),hc] at hc'
 rw [List.getElem?_set,uw,List.getElem?_set]
 by_cases e1:xs.length - 1 - i = k
 ·rw [if_pos e1,if_pos (by rw [h.1]; omega),if_pos (by omega),hc']
  congr 1
  omega
 ·rw [if_neg e1]
  by_cases e2:i = k
  ·rw [if_pos e2,if_pos (by rw [h.1]; omega),if_pos (by omega),ha']
   congr 1
   omega
  ·rw [if_neg e2,h.2 k hk]
   by_cases e3:k < i∨xs.length - i≤k
   ·rw [if_pos e3,if_pos (by omega)]
   ·rw [if_neg e3,if_neg (by omega)]
theorem RevI.fin {xs ys:List X} {i:Nat} (h:RevI xs ys i) (hi:xs.length - 1 - i≤i):ys = xs.reverse:=by
 apply List.ext_getElem?
 intro k
 by_cases hk:k < xs.length
 ·rw [h.2 k hk,List.getElem?_reverse hk]
  by_cases e:k < i∨xs.length - i≤k
  ·rw [if_pos e]
  ·rw [if_neg e]
   congr 1
   omega
 ·rw [List.getElem?_eq_none (by rw [h.1]; omega),List.getElem?_eq_none (by rw [List.length_reverse]; omega)]
theorem RZ {orc:bZ} {b:Nat} {s:S} (hS:Sb b s) {n:Nat} {xs:List X} (hn:s.h.get n = some (.cells cj xs)) (hb:b≤n) (hl:xs.length≤1000000) :
  Cp orc p_T gY [.c (.sl n 1 0 xs.length)] s (fun k=>b≤k) True fun _ s'=>Sb b s'∧s'.h.get n = some (.cells cj xs.reverse)∧s'.c = s.c∧∀ k,k ≠ n→s'.h.get k = s.h.get k:=by
 have hlt:=hS.lt hn
 refine k8 (rf:=gW) rfl ?_
 unfold gW
 obtain ⟨Γ,hΓ⟩ : ∃ Γ,Γ = ofL [V.c (.sl n 1 0 xs.length)] 0 .lf:=⟨_,rfl⟩
 have g0:look Γ 0 = .c (.sl n 1 0 xs.length):=by rw [hΓ]; rfl
 rw [← hΓ]
 try clear G
 clear hΓ
 replace G:=g0
 refine az (aq ?_)
 refine qV ?_
 refine qP ?_
 refine qP ?_
 refine qV ?_
 refine qV ?_
 refine aX ?_
 dsimp only [aQ]
 refine dz (uJ (fun Γ s1=>∃ (i:Nat) (ys:List X),look Γ 0 = .c (.sl n 1 0 xs.length)∧look Γ 2 = iV (i:Int)∧look Γ 3 = iV ((xs.length:Int) - 1 - i)∧i≤xs.length∧RevI xs ys i∧Sb b s1∧s1.h.get n = some (.cells cj ys)∧s1.c = s.c∧∀ k,k ≠ n→s1.h.get k = s.h.get k) (fun Γ _=>match look Γ 2 with
  | .c (.sc (.int _ i))=>xs.length - i.toNat
  | _=>0) ⟨0,xs,?_,?_,?_,Nat.zero_le _,RevI.start xs,hS,hn,rfl,fun _ _=>rfl⟩ ?_)
 ·simp only [cq,Nat.reduceEqDiff,pw,g0]
 ·simp only [cq,Nat.reduceEqDiff,qw,pw]; rfl
 ·simp only [cq,Nat.reduceEqDiff,qw,pw]
  rw [wr (by omega) (by omega)]
  simp [iV]
 ·try clear G
  clear g0 Γ
  rintro Γ σ ⟨i,ys,g0,g2,g3,hi,hR,hS1,hn1,hc1,hk1⟩
  refine az ?_
  replace G:=bw g0 (bw g2 g3)
  refine az (aq ?_)
  refine qV ?_
  refine qV ?_
  refine qP ?_
  refine aX ?_
  dsimp only [aQ]
  by_cases hlt2:(i:Int) < (xs.length:Int) - 1 - i
  ·refine bQ (t:=true) ?_ ?_
   ·simp only [kq,cq,qw,isB,bV,scV]
    rw [decide_eq_true hlt2]
   refine eW ?_
   dsimp only [aQ]
   have hj:(xs.length:Int) - 1 - i = ((xs.length - 1 - i:Nat):Int):=by omega
   rw [hj] at g3
   have hyl:=hR.1
   obtain ⟨a,ha⟩ : ∃ a,ys[xs.length - 1 - i]? = some a:=⟨_,ck (by omega)⟩
   obtain ⟨c,hc⟩ : ∃ c,ys[i]? = some c:=⟨_,ck (by omega)⟩
   refine az (dz ?_)
   replace G:=bw g0 (bw g2 g3)
   refine sj rfl ?_
   refine rV ?_
   refine rV ?_
   refine rV ?_
   refine rV ?_
   refine rV ?_
   refine rV ?_
   refine rX ?_
   refine Az rfl G4 cK (fun x hx=>by simp at hx) ?_
   refine rV ?_
   refine rV ?_
   refine rX ?_
   refine rL ?_
   refine rX ?_
   refine rT ?_
   refine zX hS1 (by omega) (by omega) ?_
   intro s1 hst1 hsc1 hS1
   first | replace hn1:=hst1.at hn1 (by omega) | replace hn1:=hst1.self
   refine rX ?_
   refine rT ?_
   refine zX hS1 (by omega) (by omega) ?_
   intro s2 hst2 hsc2 hS2
   first | replace hn1:=hst2.at hn1 (by omega) | replace hn1:=hst2.self
   refine wz ?_
   try dsimp only [aQ]
   refine aq ?_
   refine qV ?_
   refine qP ?_
   refine qV ?_
   refine qP ?_
   refine qV ?_
   refine qV ?_
   refine aX ?_
   try dsimp only [aQ]
   refine ⟨⟨i + 1,_,?_,?_,?_,by omega,RevI.step hR (by omega) ha hc,hS2,hn1,by omega,fun k hk=>by rw [hst2.keep k hk,hst1.keep k hk,hk1 k hk]⟩,?_⟩
   ·simp only [cq,Dq,Nat.reduceEqDiff,pw,g0]
   ·simp only [cq,Dq,Nat.reduceEqDiff,qw,pw]
    rw [wr (by omega) (by omega)]; rfl
   ·simp only [cq,Dq,Nat.reduceEqDiff,qw,pw]
    rw [wr (by omega) (by omega)]
    simp only [iV]
    congr 3
    omega
   ·simp only [cq,Dq,Nat.reduceEqDiff,qw,pw,g2,iV]
    rw [wr (by omega) (by omega)]
    omega
  ·refine bQ (t:=false) ?_ ?_
   ·simp only [kq,cq,qw,isB,bV,scV]
    rw [vk hlt2]
   refine ox ?_
   simp only [aQ,Nat.beq_refl,cond_true]
   refine ⟨.inl trivial,[],0,rfl,cY,hS1,?_,hc1,hk1⟩
   rw [hn1,RevI.fin hR (by omega)]
end Go.RM
namespace Go.RM
open Go.VM (T mV)
abbrev Own:=Nat→Option (Nat × Nat)
def RowX (h:Hp) (own:Own) (tag i:Nat) (x:X) (l:List Nat):Prop:=(x = .sc dZ∧l = [])∨∃ n,x = .sl n 1 0 l.length∧h n = some (.cells cj (l.map nI))∧own n = some (tag,i)
structure Rows (h:Hp) (own:Own) (tag na:Nat) (ls:List (List Nat)) (xs:List X):Prop where
 arr:h na = some (.cells i8 xs)
 len:xs.length = ls.length
 row:∀ (i:Nat) x l,xs[i]? = some x→ls[i]? = some l→RowX h own tag i x l
theorem RowX.keep {h h':Hp} {own:Own} {tag i:Nat} {x:X} {l:List Nat} (hr:RowX h own tag i x l) (hk:∀ n,own n = some (tag,i)→h' n = h n):RowX h' own tag i x l:=by
 rcases hr with hr | ⟨n,h1,h2,h3⟩
 ·exact .inl hr
 ·exact .inr ⟨n,h1,(hk n h3).trans h2,h3⟩
theorem Rows.keep {h h':Hp} {own:Own} {tag na:Nat} {ls:List (List Nat)} {xs:List X} (hR:Rows h own tag na ls xs) (ha:h' na = h na) (hk:∀ n i,own n = some (tag,i)→h' n = h n):Rows h' own tag na ls xs :=
 ⟨ha.trans hR.arr,hR.len,fun i x l h1 h2=>(hR.row i x l h1 h2).keep fun n hn=>hk n i hn⟩
def uE (k:Nat):Value × V:=(.int .i64 (k:Int),bV true)
def Unseen (h:Hp) (m:Nat) (us:List Nat):Prop:=h m = some (.map (.int .i64) false (us.map uE))∨h m = some (.dmap (.int .i64) (us.map uE))
theorem arY (k:Nat):∀ us:List Nat,Go.VM.getK (.int .i64 (k:Int)) (us.map uE) = if k∈us then some (bV true) else none
 | []=>rfl
 | a :: us=>by
  simp only [List.map_cons,Go.VM.getK,uE,Go.VM.keyB,ow,qk]
  by_cases e:k = a
  ·subst e; simp
  ·have : ¬ (k:Int) = (a:Int):=by omega
   rw [if_neg this]
   rw [arY k us]
   simp [e]
theorem apj (k:Nat):∀ us:List Nat,VJ (.int .i64 (k:Int)) (us.map uE) = (us.erase k).map uE
 | []=>rfl
 | a :: us=>by
  simp only [List.map_cons,VJ,uE,Go.VM.keyB,ow,List.erase_cons]
  by_cases e:k = a
  ·subst e; simp
  ·have h1 : ¬ (k:Int) = (a:Int):=by omega
   have h2:(a == k) = false:=by simp; omega
   rw [if_neg h1,h2]
   rw [apj k us]
   simp [uE]
theorem Unseen.getMD {s:S} {m:Nat} {us:List Nat} (h:Unseen s.h.get m us):getMD s m = some (.int .i64,us.map uE):=by
 unfold Go.RM.getMD
 rcases h with h | h <;> rw [h]
theorem Unseen.getD {s:S} {m:Nat} {us:List Nat} (h:Unseen s.h.get m us):Go.RM.getD s m = some (.int .i64,us.map uE):=by
 unfold Go.RM.getD
 rcases h with h | h <;> rw [h]
theorem Unseen.lt {s:S} {b m:Nat} {us:List Nat} (hS:Sb b s) (h:Unseen s.h.get m us):m < s.c:=by
 rcases h with h | h <;> exact hS.lt h
def u9:Nat→List (List Nat)→Nat→List Nat→List Nat→Option (List Nat × List Nat)
 | 0,_,_,_,_=>none
 | f + 1,to,i,us,ord=>match to[i]? with
  | none=>none
  | some l=>match l.foldlM (fun p k=>if k∈p.1 then u9 f to k p.1 p.2 else some p) (us.erase i,ord) with
   | none=>none
   | some p=>some (p.1,p.2++[i])
def L7 (f:Nat) (to:List (List Nat)) (p:List Nat × List Nat) (k:Nat):Option (List Nat × List Nat):=if k∈p.1 then u9 f to k p.1 p.2 else some p
theorem visitF_succ (f:Nat) (to:List (List Nat)) (i:Nat) (us ord:List Nat):u9 (f + 1) to i us ord = match to[i]? with
  | none=>none
  | some l=>match l.foldlM (L7 f to) (us.erase i,ord) with
   | none=>none
   | some p=>some (p.1,p.2++[i]):=rfl
theorem M9 {f:Nat} {to:List (List Nat)} (hf:∀ k us ord p,u9 f to k us ord = some p→ord.length≤p.2.length):∀ (l:List Nat) (p q:List Nat × List Nat),l.foldlM (L7 f to) p = some q→p.2.length≤q.2.length
 | [],p,q,h=>by simp at h; subst h; exact ik _
 | k :: l,p,q,h=>by
  simp only [List.foldlM_cons,Option.bind_eq_bind,ak] at h
  obtain ⟨p1,h1,h2⟩:=h
  have a2:=M9 hf l p1 q h2
  unfold L7 at h1
  split at h1
  ·have:=hf _ _ _ _ h1; omega
  ·cases h1; exact a2
theorem JJ:∀ (f:Nat) {to:List (List Nat)} (k:Nat) (us ord:List Nat) (p:List Nat × List Nat),u9 f to k us ord = some p→ord.length + 1≤p.2.length
 | 0,_,_,_,_,_,h=>by simp [u9] at h
 | f + 1,to,k,us,ord,p,h=>by
  rw [visitF_succ] at h
  split at h
  ·simp at h
  ·split at h
   ·simp at h
   ·rename_i q hq
    cases h
    have:=M9 (fun k us ord p hp=>by have:=JJ f k us ord p hp; omega) _ _ _ hq
    simp only [lw,xw]
    simp only at this
    omega
def OrdX (h:Hp) (x:X) (ord:List Nat) (ok:Nat→Prop):Prop:=(x = .sc dZ∧ord = [])∨∃ n,x = .sl n 1 0 ord.length∧h n = some (.cells cj (ord.map nI))∧ok n
theorem OrdX.keep {h h':Hp} {x:X} {ord:List Nat} {ok:Nat→Prop} (ho:OrdX h x ord ok) (hk:∀ n,ok n→h' n = h n):OrdX h' x ord ok:=by
 rcases ho with ho | ⟨n,h1,h2,h3⟩
 ·exact .inl ho
 ·exact .inr ⟨n,h1,(hk n h3).trans h2,h3⟩
structure VisG (b:Nat) (own:Own) (g nt m:Nat) (ls:List (List Nat)) (xs:List X) (xf xp xo:X) (us ord:List Nat) (s:S):Prop where
 sb:Sb b s
 box:s.h.get g = some (.cells qY [.sl nt 1 0 ls.length,xf,xo,xp])
 ord:OrdX s.h.get xo ord (fun n=>b≤n∧own n = none∧n ≠ g∧n ≠ nt∧n ≠ m)
 rows:Rows s.h.get own 0 nt ls xs
 uns:Unseen s.h.get m us
 owned:∀ n t,own n = some t→b≤n∧n < s.c
 sep:own g = none∧own nt = none∧own m = none∧g ≠ nt∧g ≠ m∧nt ≠ m∧b≤g∧b≤nt∧b≤m
def KeepV (g m:Nat) (xo xo':X) (s s':S):Prop:=s.c≤s'.c∧(∀ k,k < s.c→k ≠ g→k ≠ m→(∀ l,xo ≠ .sl k 1 0 l)→s'.h.get k = s.h.get k)∧(xo' = xo∨∃ n l,xo' = .sl n 1 0 l∧s.c≤n)
theorem KeepV.refl (g m:Nat) (xo:X) (s:S):KeepV g m xo xo s s:=⟨ik _,fun _ _ _ _ _=>rfl,.inl rfl⟩
theorem KeepV.trans {g m:Nat} {xo xo' xo'':X} {s s' s'':S} (h:KeepV g m xo xo' s s') (k:KeepV g m xo' xo'' s' s''):KeepV g m xo xo'' s s'':=by
 refine ⟨Nat.le_trans h.1 k.1,fun j hj h1 h2 h3=>(k.2.1 j (vw hj h.1) h1 h2 fun l e=>?_).trans (h.2.1 j hj h1 h2 h3),?_⟩
 ·rcases h.2.2 with h4 | ⟨n,l',h4,h5⟩
  ·exact h3 l (h4 ▸ e)
  ·rw [h4] at e; cases e; omega
 ·rcases k.2.2 with h4 | ⟨n,l,h4,h5⟩
  ·rcases h.2.2 with h6 | h6
   ·exact .inl (h4.trans h6)
   ·exact .inr (h4 ▸ h6)
  ·exact .inr ⟨n,l,h4,Nat.le_trans h.1 h5⟩
theorem fW {orc:bZ} {T:Tr RF} {F:Nat→Prop} {D:Prop} {Q:Ex→Tr V→S→Prop} {a c:RC} {Γ:Tr V} {s:S} (mid:Tr V→S→Prop) (h1:Wp orc T a Γ s F D (aQ mid (fun _ _ _=>False))) (h2:∀ Γ s,mid Γ s→Wp orc T c Γ s F D Q):Wp orc T (.seq a c) Γ s F D Q:=by
 refine az (Wp.mono h1 (fun _ h=>h) (fun h=>h) fun e Γ s h=>?_)
 cases e with
 | normal=>exact h2 Γ s h
 | exit _=>exact h.elim
 | ret=>exact h.elim
section
variable {b:Nat} {own:Own} {g nt m:Nat} {ls:List (List Nat)} {xs:List X} {xf xp:X}
theorem VisG.fin {us ord:List Nat} {i:Nat} {xo:X} {t s':S} (hV:VisG b own g nt m ls xs xf xp xo us ord t) (hS':Sb b s') (hc:t.c≤s'.c) {n:Nat} (hn:t.c≤n) (hbox:s'.h.get g = some (.cells qY [.sl nt 1 0 ls.length,xf,.sl n 1 0 (ord.length + 1),xp])) (hrow:s'.h.get n = some (.cells cj ((ord++[i]).map nI)))
  (hk:∀ k,k < t.c→k ≠ g→(∀ l,xo ≠ .sl k 1 0 l)→s'.h.get k = t.h.get k):VisG b own g nt m ls xs xf xp (.sl n 1 0 (ord.length + 1)) us (ord++[i]) s'∧KeepV g m xo (.sl n 1 0 (ord.length + 1)) t s':=by
 have hmc:=hV.uns.lt hV.sb
 obtain ⟨hS,hg,hord,hrows,huns,hown,hs1,hs2,hs3,hn1,hn2,hn3,hb1,hb2,hb3⟩:=hV
 have hgc:=hS.lt hg
 have hntc:=hS.lt hrows.arr
 have hno:∀ k,(∃ t,own k = some t)∨k = nt∨k = m→∀ l,xo ≠ .sl k 1 0 l:=by
  intro k hk' l e
  rcases hord with ⟨h1,_⟩ | ⟨no,h1,_,_,o1,o2,o3,o4⟩
  ·rw [h1] at e; cases e
  ·rw [h1] at e; cases e
   rcases hk' with ⟨t,ht⟩ | h | h
   ·rw [o1] at ht; simp at ht
   ·exact o3 h
   ·exact o4 h
 have hle:=hS.le
 refine ⟨⟨hS',hbox,.inr ⟨n,by rw [lw]; rfl,hrow,by omega,?_,by omega,by omega,by omega⟩,hrows.keep (hk nt hntc (Ne.symm hn1) (hno nt (.inr (.inl rfl)))) (fun k j hkj=>hk k (hown k _ hkj).2 (fun e=>by rw [e,hs1] at hkj; simp at hkj) (hno k (.inl ⟨_,hkj⟩))),?_,fun k t hkt=>⟨(hown k t hkt).1,by have:=(hown k t hkt).2; omega⟩,hs1,hs2,hs3,hn1,hn2,hn3,hb1,hb2,hb3⟩,hc,fun k h1 h2 _ h4=>hk k h1 h2 h4,.inr ⟨n,_,rfl,hn⟩⟩
 ·cases ho:own n with
  | none=>rfl
  | some t=>have:=(hown n t ho).2; omega
 ·have:=hk m hmc (Ne.symm hn2) (hno m (.inr (.inr rfl)))
  unfold Unseen
  rw [this]
  exact huns
theorem agj {orc:bZ} (hll:∀ l∈ls,l.length≤1000000):∀ (f:Nat) (i:Nat) (us ord us' ord':List Nat) (xo:X) (s:S),u9 f ls i us ord = some (us',ord')→ord'.length≤1000000→VisG b own g nt m ls xs xf xp xo us ord s →
  Cp orc p_T m5 [.c (.ptr g 0),iV (i:Int),.c (.mp m)] s (fun k=>b≤k) True fun _ s'=>∃ xo',VisG b own g nt m ls xs xf xp xo' us' ord' s'∧KeepV g m xo xo' s s'
 | 0,_,_,_,_,_,_,_,h,_,_=>by simp [u9] at h
 | f + 1,i,us,ord,us',ord',xo,s,h,hcap,hV=>by
  have ih:=agj (orc:=orc) hll f
  rw [visitF_succ] at h
  split at h
  ·simp at h
  ·rename_i l hl
   split at h
   ·simp at h
   ·rename_i q hq
    cases h
    obtain ⟨hS,hg,hord,hrows,huns,hown,hs1,hs2,hs3,hn1,hn2,hn3,hb1,hb2,hb3⟩:=hV
    have hgc:=hS.lt hg
    have hmc:=huns.lt hS
    have hntc:=hS.lt hrows.arr
    refine k8 (rf:=mY) rfl ?_
    unfold mY
    obtain ⟨Γ,hΓ⟩ : ∃ Γ,Γ = ofL [V.c (.ptr g 0),iV (i:Int),.c (.mp m)] 0 .lf:=⟨_,rfl⟩
    have g0:look Γ 0 = .c (.ptr g 0):=by rw [hΓ]; rfl
    have g1:look Γ 1 = iV (i:Int):=by rw [hΓ]; rfl
    have g2:look Γ 2 = .c (.mp m):=by rw [hΓ]; rfl
    rw [← hΓ]
    try clear G
    clear hΓ
    have hgd:=huns.getD
    replace G:=bw g0 (bw g1 g2)
    refine az (aq ?_)
    refine qV ?_
    refine qV ?_
    refine oY rfl (MS.mdel aK (by simp only [evS,Nat.reduceEqDiff,reduceIte,TJ,G]; rfl) (by assumption) rfl) cK ?_
    refine xX hS (by omega) (by omega) ?_
    intro s1 hst1 hsc1 hS1
    first | replace hg:=hst1.at hg (by omega) | replace hg:=hst1.self
    refine aX ?_
    dsimp only [aQ]
    have hV1:VisG b own g nt m ls xs xf xp xo (us.erase i) ord s1:=by
     refine ⟨hS1,hg,hord.keep fun n hn=>hst1.keep n hn.2.2.2.2,hrows.keep (hst1.keep nt hn3) (fun n j hn=>hst1.keep n fun e=>?_),.inr ?_,fun n t hn=>by rw [hsc1]; exact hown n t hn,hs1,hs2,hs3,hn1,hn2,hn3,hb1,hb2,hb3⟩
     ·rw [e,hs3] at hn; simp at hn
     ·rw [hst1.self,apj]
    have hK1:KeepV g m xo xo s s1:=⟨by omega,fun k hk h1 h2 _=>hst1.keep k h2,.inl rfl⟩
    have hcq:q.2.length≤1000000:=by rw [lw] at hcap; omega
    have hcq1:q.2.length + 1≤1000000:=by rw [lw] at hcap; exact hcap
    try clear G
    clear hg hord huns hgd hst1 hsc1 hgc hmc hntc
    have hlm:=hll l (iw hl)
    have hil:i < ls.length:=(cw.1 hl).1
    obtain ⟨x,hx⟩ : ∃ x,xs[i]? = some x:=⟨_,ck (by rw [hrows.len]; exact hil)⟩
    refine fW (fun Γ t=>look Γ 0 = .c (.ptr g 0)∧look Γ 1 = iV (i:Int)∧∃ xo2,VisG b own g nt m ls xs xf xp xo2 q.1 q.2 t∧KeepV g m xo xo2 s t) (fW (fun Γ t=>t = s1∧look Γ 0 = .c (.ptr g 0)∧look Γ 1 = iV (i:Int)∧look Γ 2 = .c (.mp m)∧look Γ 16 = .c x∧look Γ 17 = iV (l.length:Int)∧look Γ 18 = iV 0) ?_ ?_) ?_
    ·have hnt:=hV1.rows.arr
     have hg:=hV1.box
     rcases hV1.rows.row i x l hx hl with ⟨hx1,hx2⟩ | ⟨n,hx1,hx2,hx3⟩
     ·rw [hx1] at hx
      replace G:=bw g0 (bw g1 g2)
      refine aq ?_
      refine qV ?_
      refine qP ?_
      refine qP ?_
      refine qL ?_
      refine qV ?_
      refine qX ?_
      refine qL ?_
      refine qP ?_
      refine qV ?_
      refine aX ?_
      try dsimp only [aQ]
      rw [hx1,hx2]
      exact ⟨rfl,lk,lk,lk,lk,lk,lk⟩
     ·rw [hx1] at hx
      replace G:=bw g0 (bw g1 g2)
      refine aq ?_
      refine qV ?_
      refine qP ?_
      refine qP ?_
      refine qL ?_
      refine qV ?_
      refine qX ?_
      refine qL ?_
      refine qP ?_
      refine qV ?_
      refine aX ?_
      try dsimp only [aQ]
      rw [hx1]
      exact ⟨rfl,lk,lk,lk,lk,lk,lk⟩
    ·rintro Γ t0 ⟨rfl,g0,g1,g2,g16,g17,g18⟩
     refine dz (uJ (fun Γ t=>look Γ 0 = .c (.ptr g 0)∧look Γ 1 = iV (i:Int)∧look Γ 2 = .c (.mp m)∧look Γ 16 = .c x∧look Γ 17 = iV (l.length:Int)∧∃ (j:Nat) (xo2:X) (p:List Nat × List Nat),look Γ 18 = iV (j:Int)∧j≤l.length∧(l.drop j).foldlM (L7 f ls) p = some q∧VisG b own g nt m ls xs xf xp xo2 p.1 p.2 t∧KeepV g m xo xo2 s t) (fun Γ _=>match look Γ 18 with
      | .c (.sc (.int _ i))=>l.length - i.toNat
      | _=>0) ⟨g0,g1,g2,g16,g17,0,xo,_,g18,Nat.zero_le _,hq,hV1,hK1⟩ ?_)
     try clear G
     clear g0 g1 g2 g16 g17 g18 Γ
     rintro Γ t ⟨g0,g1,g2,g16,g17,j,xo2,p,g18,hj,hfold,hV,hK⟩
     have hS:=hV.sb
     replace G:=bw g0 (bw g1 (bw g2 (bw g16 (bw g17 g18))))
     refine az (aq ?_)
     refine qP ?_
     refine aX ?_
     dsimp only [aQ]
     by_cases hjl:j < l.length
     ·refine az (bQ (t:=true) ?_ (eW ?_))
      ·simp only [kq,cq,qw,isB,bV,scV]
       rw [decide_eq_true (by omega)]
      dsimp only [aQ]
      obtain ⟨k,hk⟩ : ∃ k,l[j]? = some k:=⟨_,ck hjl⟩
      have hdrop:l.drop j = k :: l.drop (j + 1):=by
       rw [List.drop_eq_getElem_cons hjl]
       rw [ck hjl] at hk
       cases hk; rfl
      rw [hdrop,List.foldlM_cons,Option.bind_eq_bind,ak] at hfold
      obtain ⟨p1,hstep,hfold⟩:=hfold
      rcases hV.rows.row i x l hx hl with ⟨hx1,hx2⟩ | ⟨n,hx1,hn,hx3⟩
      ·rw [hx2] at hjl; simp at hjl
      rw [hx1] at g16
      have hkn:(l.map nI)[j]? = some (nI k):=by rw [gw,hk]; rfl
      have hbn:=(hV.owned n _ hx3).1
      have hmd:=hV.uns.getMD
      refine fW (fun Γ t'=>look Γ 0 = .c (.ptr g 0)∧look Γ 1 = iV (i:Int)∧look Γ 2 = .c (.mp m)∧look Γ 16 = .c x∧look Γ 17 = iV (l.length:Int)∧look Γ 18 = iV (j:Int)∧∃ xo3,VisG b own g nt m ls xs xf xp xo3 p1.1 p1.2 t'∧KeepV g m xo xo3 s t') (dz ?_) ?_
      ·skip
       replace G:=bw g0 (bw g1 (bw g2 (bw g16 (bw g17 g18))))
       refine az (aq ?_)
       refine qX ?_
       refine qL ?_
       refine qV ?_
       refine aX ?_
       dsimp only [aQ]
       refine az (aq ?_)
       refine qV ?_
       refine qV ?_
       refine oY rfl (MS.look aK (by simp only [evS,Nat.reduceEqDiff,reduceIte,TJ,G]; rfl) (by assumption) rfl) cK ?_
       refine aX ?_
       dsimp only [aQ]
       rw [arY]
       by_cases hkp:k∈p.1
       ·rw [if_pos hkp]
        refine bQ (t:=true) ?_ ?_
        ·simp only [kq,cq,qw]; rfl
        dsimp only [cond_true]
        unfold L7 at hstep
        rw [if_pos hkp] at hstep
        have hp1:=M9 (fun k us ord p hp=>by have:=JJ f k us ord p hp; omega) _ _ _ hfold
        refine aq ?_
        refine qV ?_
        refine qV ?_
        refine qV ?_
        refine qC (hC:=ih k p.1 p.2 p1.1 p1.2 xo2 t hstep (by omega) hV) (h:=?_)
        intro v2 s2 hq2
        obtain ⟨xo3,hV3,hK3⟩:=hq2
        refine aX ?_
        try dsimp only [aQ]
        refine ⟨lk,lk,lk,(by simp only [evS,Nat.reduceEqDiff,reduceIte,G,hx1]; try rfl),lk,lk,xo3,hV3,hK.trans hK3⟩
       ·rw [if_neg hkp]
        refine bQ (t:=false) ?_ ?_
        ·simp only [kq,cq,qw]; rfl
        dsimp only [cond_false]
        refine eW ?_
        unfold L7 at hstep
        rw [if_neg hkp] at hstep
        cases hstep
        refine ⟨(by simp only [evS,Nat.reduceEqDiff,reduceIte,g0,g1,g2,g16,g17,g18]; try rfl),(by simp only [evS,Nat.reduceEqDiff,reduceIte,g0,g1,g2,g16,g17,g18]; try rfl),(by simp only [evS,Nat.reduceEqDiff,reduceIte,g0,g1,g2,g16,g17,g18]; try rfl),(by simp only [evS,Nat.reduceEqDiff,reduceIte,g0,g1,g2,g16,g17,g18,hx1]; try rfl),(by simp only [evS,Nat.reduceEqDiff,reduceIte,g0,g1,g2,g16,g17,g18]; try rfl),(by simp only [evS,Nat.reduceEqDiff,reduceIte,g0,g1,g2,g16,g17,g18]; try rfl),xo2,hV,hK⟩
      ·try clear G
       clear g0 g1 g2 g16 g17 hmd hS hV hK
       rintro Γ2 t' ⟨g0,g1,g2,g16,g17,k18,xo3,hV,hK⟩
       replace G:=bw g0 (bw g1 (bw g2 (bw g16 (bw g17 k18))))
       refine aq ?_
       refine qP ?_
       refine qV ?_
       refine aX ?_
       try dsimp only [aQ]
       refine ⟨⟨lk,lk,lk,lk,lk,j + 1,xo3,p1,?_,by omega,hfold,hV,hK⟩,?_⟩
       ·simp only [cq,qw]
        rw [wr (by omega) (by omega)]; rfl
       ·simp only [cq,qw,g18,iV]
        rw [wr (by omega) (by omega)]
        omega
     ·have hjl:j = l.length:=by omega
      refine az (bQ (t:=false) ?_ (ox ?_))
      ·simp only [kq,cq,qw,isB,bV,scV]
       rw [vk (by omega)]
      rw [hjl,List.drop_length] at hfold
      simp only [List.foldlM_nil,Option.pure_def,dw] at hfold
      subst hfold
      simp only [aQ,Nat.beq_refl,cond_true]
      have G:=bw g0 (bw g1 (bw g2 (bw g16 (bw g17 g18))))
      exact ⟨aK,aK,xo2,hV,hK⟩
    ·rintro Γ2 t ⟨g0,g1,xo2,hV,hK⟩
     have hS:=hV.sb
     have hg:=hV.box
     have hbg:=hV.sep.2.2.2.2.2.2.1
     have hlt:=hS.lt hg
     have r8:nJ 8 (q.2.length + 1) = true:=F5 hcq1
     rcases hV.ord with ⟨rfl,hq0⟩ | ⟨no,rfl,hno,hbo,ho1,ho2,ho3,ho4⟩
     ·skip
      replace G:=bw g0 g1
      refine aq ?_
      refine qV ?_
      refine qV ?_
      refine qP ?_
      refine qP ?_
      refine qL ?_
      refine qV ?_
      refine qM (MS.bsl1 hS aK) ?_
      refine ej hS ?_
      intro s3 hst3 hsc3 hS3
      replace hg:=hst3.at hg (by omega)
      have hn3:=hst3.self
      refine oY rfl (MS.app_nil hS3 aK aK (by assumption) (by first | assumption | rfl) rfl (by first | assumption | rfl)) cK ?_
      refine ej hS3 ?_
      intro s4 hst4 hsc4 hS4
      replace hg:=hst4.at hg (by omega)
      replace hn3:=hst4.at hn3 (by omega)
      have hn4:=hst4.self
      refine qP ?_
      refine qP ?_
      refine qT ?_
      refine xX hS4 (by omega) (by omega) ?_
      intro s5 hst5 hsc5 hS5
      first | replace hg:=hst5.at hg (by omega) | replace hg:=hst5.self
      first | replace hn3:=hst5.at hn3 (by omega) | replace hn3:=hst5.self
      first | replace hn4:=hst5.at hn4 (by omega) | replace hn4:=hst5.self
      refine aX ?_
      try dsimp only [aQ]
      refine ⟨.inl rfl,[],0,rfl,cY,.sl s3.c 1 0 (q.2.length + 1),?_⟩
      have hf:=hV.fin (i:=i) hS5 (s':=s5) (by omega) (n:=s3.c) (by omega) (by rw [hg,hq0]; rfl) (by rw [hst5.keep _ (by omega),hst4.self,hq0]; rfl) (fun k hk h1 _=>by rw [hst5.keep _ h1,hst4.keep _ (by omega),hst3.keep _ (by omega)])
      exact ⟨hf.1,hK.trans hf.2⟩
     ·have hlo:=hS.lt hno
      have hcut:cut (List.map nI q.2) 0 (q.2.length * 1) = some (List.map nI q.2):=Z5 (List.length_map _)
      replace G:=bw g0 g1
      refine aq ?_
      refine qV ?_
      refine qV ?_
      refine qP ?_
      refine qP ?_
      refine qL ?_
      refine qV ?_
      refine qM (MS.bsl1 hS aK) ?_
      refine ej hS ?_
      intro s6 hst6 hsc6 hS6
      replace hg:=hst6.at hg (by omega)
      replace hno:=hst6.at hno (by omega)
      have hn6:=hst6.self
      refine oY rfl (MS.app_own hS6 aK (by assumption) (by first | assumption | rfl) aK (by assumption) (by first | assumption | rfl) rfl (by first | assumption | rfl)) cK ?_
      refine ZK hS6 (by omega) (by omega) ?_
      intro s7 hst7 hS7
      have hsa7:=hst7.c
      first | replace hg:=hst7.at hg (by omega) (by omega) | replace hg:=hst7.dead
      first | replace hno:=hst7.at hno (by omega) (by omega) | replace hno:=hst7.dead
      first | replace hn6:=hst7.at hn6 (by omega) (by omega) | replace hn6:=hst7.dead
      have hn7:=hst7.self
      refine qP ?_
      refine qP ?_
      refine qT ?_
      refine xX hS7 (by omega) (by omega) ?_
      intro s8 hst8 hsc8 hS8
      first | replace hg:=hst8.at hg (by omega) | replace hg:=hst8.self
      first | replace hno:=hst8.at hno (by omega) | replace hno:=hst8.self
      first | replace hn6:=hst8.at hn6 (by omega) | replace hn6:=hst8.self
      first | replace hn7:=hst8.at hn7 (by omega) | replace hn7:=hst8.self
      refine aX ?_
      try dsimp only [aQ]
      refine ⟨.inl rfl,[],0,rfl,cY,.sl s6.c 1 0 (q.2.length + 1),?_⟩
      have hf:=hV.fin (i:=i) hS8 (s':=s8) (by omega) (n:=s6.c) (by omega) hg (by rw [hst8.keep _ (by omega),hst7.self,List.map_append]; rfl) (fun k hk h1 h2=>by rw [hst8.keep _ h1,hst7.keep _ (fun e=>h2 q.2.length (by rw [e])) (by omega),hst6.keep _ (by omega)])
      exact ⟨hf.1,hK.trans hf.2⟩
end
end Go.RM
namespace Go.RM
open Go.VM (T mV tI)
theorem RowX.toN {h:Hp} {own:Own} {tag i:Nat} {x:X} {l:List Nat} (d:Nat) (hr:RowX h own tag i x l):∃ n,RowN h cj x (l.map nI) n∧(own n = some (tag,i)∨n = d):=by
 rcases hr with ⟨h1,h2⟩ | ⟨n,h1,h2,h3⟩
 ·exact ⟨d,.inl ⟨h1,by rw [h2]; rfl⟩,.inr rfl⟩
 ·exact ⟨n,.inr ⟨by rw [List.length_map]; exact h1,h2⟩,.inl h3⟩
theorem Rows.upd {h h':Hp} {own own':Own} {tag na:Nat} {ls:List (List Nat)} {xs:List X} (hR:Rows h own tag na ls xs) {i nn v:Nat} {l:List Nat} (hl:ls[i]? = some l) (ha:h' na = some (.cells i8 (xs.set i (.sl nn 1 0 (l.length + 1))))) (hn:h' nn = some (.cells cj ((l++[v]).map nI))) (ho:own' nn = some (tag,i))
  (hk:∀ n j,j ≠ i→own n = some (tag,j)→h' n = h n∧own' n = some (tag,j)):Rows h' own' tag na (ls.set i (l++[v])) (xs.set i (.sl nn 1 0 (l.length + 1))):=by
 have hil:i < ls.length:=(cw.1 hl).1
 refine ⟨ha,by rw [uw,uw]; exact hR.len,fun j x l' hx hl'=>?_⟩
 rw [List.getElem?_set] at hx hl'
 by_cases e:i = j
 ·rw [if_pos e,if_pos (by rw [hR.len]; exact hil)] at hx
  rw [if_pos e,if_pos hil] at hl'
  cases hx; cases hl'
  subst e
  exact .inr ⟨nn,by rw [lw]; rfl,hn,ho⟩
 ·rw [if_neg e] at hx hl'
  rcases hR.row j x l' hx hl' with h1 | ⟨n,h1,h2,h3⟩
  ·exact .inl h1
  ·obtain ⟨k1,k2⟩:=hk n j (Ne.symm e) h3
   exact .inr ⟨n,h1,k1.trans h2,k2⟩
def addS (p:List (List Nat) × List (List Nat)) (i k:Nat):List (List Nat) × List (List Nat):=(p.1.set i (p.1.getD i []++[k]),p.2.set k (p.2.getD k []++[i]))
structure axJ (b:Nat) (own:Own) (hb gb g nt nf:Nat) (rows roots:List (List T)) (xo xp:X) (ls lf:List (List Nat)) (xs xf:List X) (s:S):Prop where
 sb:Sb b s
 hbox:s.h.get hb = some (.cells e8 [.im 4 rows,.im 1 roots])
 gbox:s.h.get gb = some (.cells yY [.ptr g 0])
 box:s.h.get g = some (.cells qY [.sl nt 1 0 ls.length,.sl nf 1 0 lf.length,xo,xp])
 to:Rows s.h.get own 0 nt ls xs
 fr:Rows s.h.get own 1 nf lf xf
 owned:∀ n t,own n = some t→b≤n∧n < s.c
 sep:own hb = none∧own gb = none∧own g = none∧own nt = none∧own nf = none
 ne:hb ≠ gb∧hb ≠ g∧hb ≠ nt∧hb ≠ nf∧gb ≠ g∧gb ≠ nt∧gb ≠ nf∧g ≠ nt∧g ≠ nf∧nt ≠ nf
 le:b≤hb∧b≤gb∧b≤g∧b≤nt∧b≤nf
def KeepA (nt nf:Nat) (own own':Own) (s s':S):Prop:=s.c≤s'.c∧∀ k,k < s.c→own k = none→own' k = none∧(k ≠ nt→k ≠ nf→s'.h.get k = s.h.get k)
theorem KeepA.refl (nt nf:Nat) (own:Own) (s:S):KeepA nt nf own own s s:=⟨ik _,fun _ _ h=>⟨h,fun _ _=>rfl⟩⟩
theorem KeepA.trans {nt nf:Nat} {own own' own'':Own} {s s' s'':S} (h:KeepA nt nf own own' s s') (k:KeepA nt nf own' own'' s' s''):KeepA nt nf own own'' s s'' :=
 ⟨Nat.le_trans h.1 k.1,fun j hj ho=>let ⟨a1,a2⟩:=h.2 j hj ho; let ⟨c1,c2⟩:=k.2 j (vw hj h.1) a1; ⟨c1,fun e1 e2=>(c2 e1 e2).trans (a2 e1 e2)⟩⟩
def ZX (orc:bZ) (rows roots:List (List T)) (fnd:Int→Nat) (ids:List Int):Prop :=
 ∀ s id,id∈ids→Cp orc p_T iK [.agg [.im 4 rows,.im 1 roots],.c (.sc (.int .i64 id))] s (fun _=>False) True fun v s'=>s = s'∧v = .tup [iV (fnd id:Int),bV true]
section
variable {b:Nat} {hb gb g nt nf:Nat} {rows roots:List (List T)} {xo xp:X}
set_option maxHeartbeats 4000000 in
theorem ayz {orc:bZ} {fnd:Int→Nat} {ids:List Int} (hfind:ZX orc rows roots fnd ids) {i:Nat} {own:Own} {ls lf:List (List Nat)} {xs xf:List X} {s:S} (hA:axJ b own hb gb g nt nf rows roots xo xp ls lf xs xf s) (hi:i < ls.length) (hids:∀ id∈ids,fnd id < lf.length) (hlen:ids.length≤1000) (hsz:∀ l∈ls,l.length≤100000) (hsz2:∀ l∈lf,l.length≤100000) :
  Cp orc p_T jj [iV (i:Int),.c (.im 1 (ids.map fun r=>[tI r])),.c (.ptr hb 0),.c (.ptr gb 0)] s (fun k=>b≤k) True fun _ s'=>∃ own' xs' xf',axJ b own' hb gb g nt nf rows roots xo xp ((ids.map fnd).foldl (fun p k=>addS p i k) (ls,lf)).1 ((ids.map fnd).foldl (fun p k=>addS p i k) (ls,lf)).2 xs' xf' s'∧KeepA nt nf own own' s s':=by
 refine k8 (rf:=sV) rfl ?_
 unfold sV
 obtain ⟨Γ,hΓ⟩ : ∃ Γ,Γ = ofL [iV (i:Int),.c (.im 1 (ids.map fun r=>[tI r])),.c (.ptr hb 0),.c (.ptr gb 0)] 0 .lf:=⟨_,rfl⟩
 have g0:look Γ 0 = iV (i:Int):=by rw [hΓ]; rfl
 have g1:look Γ 1 = .c (.im 1 (ids.map fun r=>[tI r])):=by rw [hΓ]; rfl
 have g2:look Γ 2 = .c (.ptr hb 0):=by rw [hΓ]; rfl
 have g3:look Γ 3 = .c (.ptr gb 0):=by rw [hΓ]; rfl
 rw [← hΓ]
 try clear G
 clear hΓ
 replace G:=bw g0 (bw g1 (bw g2 g3))
 refine az (aq ?_)
 refine qV ?_
 refine qP ?_
 refine qV ?_
 refine aX ?_
 dsimp only [aQ]
 refine dz (uJ (fun Γ t=>look Γ 0 = iV (i:Int)∧look Γ 2 = .c (.ptr hb 0)∧look Γ 3 = .c (.ptr gb 0)∧look Γ 10 = .c (.im 1 (ids.map fun r=>[tI r]))∧look Γ 11 = iV (ids.length:Int)∧∃ (j:Nat) (own':Own) (p:List (List Nat) × List (List Nat)) (xs' xf':List X),look Γ 12 = iV (j:Int)∧j≤ids.length∧p.1.length = ls.length∧p.2.length = lf.length∧(∀ l∈p.1,l.length≤100000 + j)∧(∀ l∈p.2,l.length≤100000 + j) ∧
   ((ids.drop j).map fnd).foldl (fun p k=>addS p i k) p = (ids.map fnd).foldl (fun p k=>addS p i k) (ls,lf)∧axJ b own' hb gb g nt nf rows roots xo xp p.1 p.2 xs' xf' t∧KeepA nt nf own own' s t) (fun Γ _=>match look Γ 12 with
  | .c (.sc (.int _ i))=>ids.length - i.toNat
  | _=>0) ⟨lk,lk,lk,lk,iW,0,own,(ls,lf),xs,xf,lk,Nat.zero_le _,rfl,rfl,hsz,hsz2,rfl,hA,KeepA.refl _ _ _ _⟩ ?_)
 ·skip
  try clear G
  clear g0 g1 g2 g3 hA Γ
  rintro Γ t ⟨g0,g2,g3,g10,g11,j,own1,p,xs1,xf1,g12,hj,hp1,hp2,hz1,hz2,hfold,hA,hK⟩
  have hS:=hA.sb
  replace G:=bw g0 (bw g2 (bw g3 (bw g10 (bw g11 g12))))
  refine az (aq ?_)
  refine qP ?_
  refine aX ?_
  dsimp only [aQ]
  by_cases hjl:j < ids.length
  ·refine az (bQ (t:=true) ?_ (eW ?_))
   ·simp only [kq,cq,qw,isB,bV,scV]
    rw [decide_eq_true (by omega)]
   dsimp only [aQ]
   obtain ⟨id,hid⟩ : ∃ id,ids[j]? = some id:=⟨_,ck hjl⟩
   have hidm:id∈ids:=iw hid
   have hdrop:ids.drop j = id :: ids.drop (j + 1):=by
    rw [List.drop_eq_getElem_cons hjl]
    rw [ck hjl] at hid
    cases hid; rfl
   rw [hdrop,List.map_cons,List.foldl_cons] at hfold
   have hrow:(ids.map fun r=>[tI r])[j]? = some [.sc (.int .i64 id)]:=by rw [gw,hid]; rfl
   obtain ⟨k,hk⟩ : ∃ k,k = fnd id:=⟨_,rfl⟩
   have hkl:k < lf.length:=hk ▸ hids id hidm
   rw [← hk] at hfold
   refine fW (fun Γ t'=>look Γ 0 = iV (i:Int)∧look Γ 2 = .c (.ptr hb 0)∧look Γ 3 = .c (.ptr gb 0)∧look Γ 10 = .c (.im 1 (ids.map fun r=>[tI r]))∧look Γ 11 = iV (ids.length:Int)∧look Γ 12 = iV (j:Int)∧∃ (own':Own) (xs' xf':List X),axJ b own' hb gb g nt nf rows roots xo xp (addS p i k).1 (addS p i k).2 xs' xf' t'∧KeepA nt nf own own' s t') (dz ?_) ?_
   ·skip
    replace G:=bw g0 (bw g2 (bw g3 (bw g10 (bw g11 g12))))
    refine az (aq ?_)
    refine qX ?_
    refine qL ?_
    refine qV ?_
    refine aX ?_
    dsimp only [aQ]
    obtain ⟨_,hhb,hgb,hg,hto,hfr,hown,⟨o1,o2,o3,o4,o5⟩,⟨n1,n2,n3,n4,n5,n6,n7,n8,n9,n10⟩,⟨l1,l2,l3,l4,l5⟩⟩:=hA
    have hnt:=hto.arr
    have hnf:=hfr.arr
    have c1:=hS.lt hhb
    have c2:=hS.lt hgb
    have c3:=hS.lt hg
    have c4:=hS.lt hnt
    have c5:=hS.lt hnf
    refine az (aq ?_)
    refine qA ?_
    refine qV ?_
    refine qC (hC:=hfind t id hidm) (h:=?_)
    intro v1 s1 hq1
    obtain ⟨rfl,rfl⟩:=hq1
    refine qV ?_
    refine qP ?_
    refine qP ?_
    refine qV ?_
    refine qV ?_
    refine aX ?_
    dsimp only [aQ]
    rw [← hk]
    obtain ⟨l,hl⟩ : ∃ l,p.1[i]? = some l:=⟨_,ck (by omega)⟩
    obtain ⟨l',hl'⟩ : ∃ l',p.2[k]? = some l':=⟨_,ck (by omega)⟩
    obtain ⟨x,hx⟩ : ∃ x,xs1[i]? = some x:=⟨_,ck (by rw [hto.len]; omega)⟩
    obtain ⟨x',hx'⟩ : ∃ x,xf1[k]? = some x:=⟨_,ck (by rw [hfr.len]; omega)⟩
    obtain ⟨r1,hr1,w1⟩:=(hto.row i x l hx hl).toN (t.c + 1000)
    obtain ⟨r2,hr2,w2⟩:=(hfr.row k x' l' hx' hl').toN (t.c + 1001)
    have lx:xs1.length = p.1.length:=hto.len
    have lf':xf1.length = p.2.length:=hfr.len
    have d1:r1 ≠ r2∧r1 ≠ hb∧r1 ≠ gb∧r1 ≠ g∧r1 ≠ nt∧r1 ≠ nf∧b≤r1∧(r1 < t.c∨r1 = t.c + 1000):=by
     have hle:=hS.le
     rcases w1 with h | h
     ·have:=hown _ _ h
      refine ⟨fun e=>?_,fun e=>?_,fun e=>?_,fun e=>?_,fun e=>?_,fun e=>?_,this.1,.inl this.2⟩
      ·rcases w2 with h2 | h2
       ·rw [e,h2] at h; simp at h
       ·omega
      all_goals (rw [e] at h; first | (rw [o1] at h; simp at h; done) | (rw [o2] at h; simp at h; done) | (rw [o3] at h; simp at h; done) | (rw [o4] at h; simp at h; done) | (rw [o5] at h; simp at h; done))
     ·refine ⟨?_,by omega,by omega,by omega,by omega,by omega,by omega,.inr h⟩
      rcases w2 with h2 | h2
      ·have:=hown _ _ h2; omega
      ·omega
    have d2:r2 ≠ hb∧r2 ≠ gb∧r2 ≠ g∧r2 ≠ nt∧r2 ≠ nf∧b≤r2∧(r2 < t.c∨r2 = t.c + 1001):=by
     have hle:=hS.le
     rcases w2 with h | h
     ·have:=hown _ _ h
      refine ⟨fun e=>?_,fun e=>?_,fun e=>?_,fun e=>?_,fun e=>?_,this.1,.inl this.2⟩
      all_goals (rw [e] at h; first | (rw [o1] at h; simp at h; done) | (rw [o2] at h; simp at h; done) | (rw [o3] at h; simp at h; done) | (rw [o4] at h; simp at h; done) | (rw [o5] at h; simp at h; done))
     ·exact ⟨by omega,by omega,by omega,by omega,by omega,by omega,.inr h⟩
    have q1:nJ 8 ((l.map nI).length + 1) = true:=F5 (by rw [List.length_map]; have:=hz1 l (iw hl); omega)
    have q2:nJ 8 ((l'.map nI).length + 1) = true:=F5 (by rw [List.length_map]; have:=hz2 l' (iw hl'); omega)
    replace G:=bw g0 (bw g2 (bw g3 (bw g10 (bw g11 g12))))
    refine sj rfl ?_
    refine Az rfl G4 cK (fun x hx=>by simp at hx) ?_
    refine rP ?_
    refine rP ?_
    refine rL ?_
    refine rV ?_
    refine rL ?_
    refine rP ?_
    refine rP ?_
    refine rL ?_
    refine rV ?_
    refine rL ?_
    refine rP ?_
    refine rP ?_
    refine rL ?_
    refine rV ?_
    refine rX ?_
    refine rL ?_
    refine rV ?_
    refine rM (MS.bsl1 hS aK) ?_
    refine zW hS ?_
    intro s2 hst2 hsc2 hS2
    replace hhb:=hst2.at hhb (by omega)
    replace hgb:=hst2.at hgb (by omega)
    replace hg:=hst2.at hg (by omega)
    replace hnt:=hst2.at hnt (by omega)
    replace hnf:=hst2.at hnf (by omega)
    have hn2:=hst2.self
    replace hr1:=hr1.keep (hst2.keep _ (by omega))
    replace hr2:=hr2.keep (hst2.keep _ (by omega))
    refine arX rfl hS2 aK hr1 (by omega) aK (by assumption) (by first | assumption | rfl) cK (by intro x hx; simp only [List.nil_append,List.cons_append,qk,List.not_mem_nil,or_false] at hx; rcases hx with rfl | rfl | rfl | rfl | rfl | rfl | rfl | rfl <;> first | exact .inl (by dsimp only; decide) | (refine .inr fun k => ?_; refine ⟨?_,?_,?_⟩ <;> (intro hk; (try dsimp only at hk); first | exact hk.1.elim | exact hk.2.elim | omega))) ?_
    intro s3 hst3 hS3
    have hsa3:=hst3.c
    replace hhb:=hst3.at hhb (by omega) (by omega)
    replace hgb:=hst3.at hgb (by omega) (by omega)
    replace hg:=hst3.at hg (by omega) (by omega)
    replace hnt:=hst3.at hnt (by omega) (by omega)
    replace hnf:=hst3.at hnf (by omega) (by omega)
    replace hn2:=hst3.at hn2 (by omega) (by omega)
    have hn3:=hst3.self
    replace hr2:=hr2.keep (hst3.keep _ (by omega) (by omega))
    refine rL ?_
    refine rP ?_
    refine rP ?_
    refine rL ?_
    refine rV ?_
    refine rX ?_
    refine rL ?_
    refine rV ?_
    refine rM (MS.bsl1 hS3 aK) ?_
    refine zW hS3 ?_
    intro s4 hst4 hsc4 hS4
    replace hhb:=hst4.at hhb (by omega)
    replace hgb:=hst4.at hgb (by omega)
    replace hg:=hst4.at hg (by omega)
    replace hnt:=hst4.at hnt (by omega)
    replace hnf:=hst4.at hnf (by omega)
    replace hn2:=hst4.at hn2 (by omega)
    replace hn3:=hst4.at hn3 (by omega)
    have hn4:=hst4.self
    replace hr2:=hr2.keep (hst4.keep _ (by omega))
    refine arX rfl hS4 aK hr2 (by omega) aK (by assumption) (by first | assumption | rfl) cK (by intro x hx; simp only [List.nil_append,List.cons_append,qk,List.not_mem_nil,or_false] at hx; rcases hx with rfl | rfl | rfl | rfl | rfl | rfl | rfl | rfl | rfl | rfl | rfl | rfl | rfl <;> first | exact .inl (by dsimp only; decide) | (refine .inr fun k => ?_; refine ⟨?_,?_,?_⟩ <;> (intro hk; (try dsimp only at hk); first | exact hk.1.elim | exact hk.2.elim | omega))) ?_
    intro s5 hst5 hS5
    have hsa5:=hst5.c
    replace hhb:=hst5.at hhb (by omega) (by omega)
    replace hgb:=hst5.at hgb (by omega) (by omega)
    replace hg:=hst5.at hg (by omega) (by omega)
    replace hnt:=hst5.at hnt (by omega) (by omega)
    replace hnf:=hst5.at hnf (by omega) (by omega)
    replace hn2:=hst5.at hn2 (by omega) (by omega)
    replace hn3:=hst5.at hn3 (by omega) (by omega)
    replace hn4:=hst5.at hn4 (by omega) (by omega)
    have hn5:=hst5.self
    refine rX ?_
    refine rT ?_
    refine zX hS5 (by omega) (by omega) ?_
    intro s6 hst6 hsc6 hS6
    first | replace hhb:=hst6.at hhb (by omega) | replace hhb:=hst6.self
    first | replace hgb:=hst6.at hgb (by omega) | replace hgb:=hst6.self
    first | replace hg:=hst6.at hg (by omega) | replace hg:=hst6.self
    first | replace hnt:=hst6.at hnt (by omega) | replace hnt:=hst6.self
    first | replace hnf:=hst6.at hnf (by omega) | replace hnf:=hst6.self
    first | replace hn2:=hst6.at hn2 (by omega) | replace hn2:=hst6.self
    first | replace hn3:=hst6.at hn3 (by omega) | replace hn3:=hst6.self
    first | replace hn4:=hst6.at hn4 (by omega) | replace hn4:=hst6.self
    first | replace hn5:=hst6.at hn5 (by omega) | replace hn5:=hst6.self
    refine rX ?_
    refine rT ?_
    refine zX hS6 (by omega) (by omega) ?_
    intro s7 hst7 hsc7 hS7
    first | replace hhb:=hst7.at hhb (by omega) | replace hhb:=hst7.self
    first | replace hgb:=hst7.at hgb (by omega) | replace hgb:=hst7.self
    first | replace hg:=hst7.at hg (by omega) | replace hg:=hst7.self
    first | replace hnt:=hst7.at hnt (by omega) | replace hnt:=hst7.self
    first | replace hnf:=hst7.at hnf (by omega) | replace hnf:=hst7.self
    first | replace hn2:=hst7.at hn2 (by omega) | replace hn2:=hst7.self
    first | replace hn3:=hst7.at hn3 (by omega) | replace hn3:=hst7.self
    first | replace hn4:=hst7.at hn4 (by omega) | replace hn4:=hst7.self
    first | replace hn5:=hst7.at hn5 (by omega) | replace hn5:=hst7.self
    refine wz ?_
    try dsimp only [aQ]
    rw [List.length_map] at hnt hnf
    have e1:p.1.getD i [] = l:=by rw [List.getD,hl]; rfl
    have e2:p.2.getD k [] = l':=by rw [List.getD,hl']; rfl
    have hk7:∀ q,q ≠ r1→q ≠ r2→q < t.c→q ≠ nt→q ≠ nf→s7.h.get q = t.h.get q:=fun q h1 h2 h3 h4 h5=>by
     rw [hst7.keep q h5,hst6.keep q h4,hst5.keep q h2 (by omega),hst4.keep q (by omega),hst3.keep q h1 (by omega),hst2.keep q (by omega)]
    refine ⟨lk,lk,lk,lk,lk,lk,fun q=>if q = s2.c then some (0,i) else if q = s4.c then some (1,k) else if q = r1∨q = r2 then none else own1 q,xs1.set i (.sl s2.c 1 0 (l.length + 1)),xf1.set k (.sl s4.c 1 0 (l'.length + 1)),⟨hS7,hhb,hgb,?_,?_,?_,fun q u hq=>?_,⟨?_,?_,?_,?_,?_⟩,⟨n1,n2,n3,n4,n5,n6,n7,n8,n9,n10⟩,⟨l1,l2,l3,l4,l5⟩⟩,KeepA.trans hK ⟨by omega,fun q hq1 hq2=>⟨?_,fun h4 h5=>hk7 q ?_ ?_ hq1 h4 h5⟩⟩⟩
    ·rw [hg]; simp only [addS,uw]
    ·simp only [addS,e1]
     refine Rows.upd hto hl hnt (by rw [hn3,List.map_append]; rfl) (by rw [if_pos rfl]) (fun q j' hj' hq=>?_)
     have h1:=hown _ _ hq
     have h2:q ≠ r1:=fun e=>by
      rcases w1 with h | h
      ·rw [e,h] at hq; simp at hq; omega
      ·omega
     have h3:q ≠ r2:=fun e=>by
      rcases w2 with h | h
      ·rw [e,h] at hq; simp at hq
      ·omega
     refine ⟨hk7 q h2 h3 h1.2 (fun e=>by rw [e,o4] at hq; simp at hq) (fun e=>by rw [e,o5] at hq; simp at hq),?_⟩
     rw [if_neg (by omega),if_neg (by omega),if_neg (fun h=>h.elim h2 h3)]
     exact hq
    ·simp only [addS,e2]
     refine Rows.upd hfr hl' hnf (by rw [hn5,List.map_append]; rfl) (by rw [if_neg (by omega),if_pos rfl]) (fun q j' hj' hq=>?_)
     have h1:=hown _ _ hq
     have h2:q ≠ r1:=fun e=>by
      rcases w1 with h | h
      ·rw [e,h] at hq; simp at hq
      ·omega
     have h3:q ≠ r2:=fun e=>by
      rcases w2 with h | h
      ·rw [e,h] at hq; simp at hq; omega
      ·omega
     refine ⟨hk7 q h2 h3 h1.2 (fun e=>by rw [e,o4] at hq; simp at hq) (fun e=>by rw [e,o5] at hq; simp at hq),?_⟩
     rw [if_neg (by omega),if_neg (by omega),if_neg (fun h=>h.elim h2 h3)]
     exact hq
    ·have hle:=hS.le
     split at hq
     ·omega
     ·split at hq
      ·omega
      ·split at hq
       ·simp at hq
       ·have:=hown _ _ hq; omega
    all_goals first
     | (refine (if_neg (by omega)).trans ((if_neg (by omega)).trans ((if_neg (by omega)).trans ?_)); first | exact o1 | exact o2 | exact o3 | exact o4 | exact o5 | exact hq2)
     | skip
    ·refine (if_neg (by omega)).trans ((if_neg (by omega)).trans ((if_neg ?_).trans ?_))
     ·rintro (e | e)
      ·rcases w1 with h | h
       ·rw [e,h] at hq2; simp at hq2
       ·omega
      ·rcases w2 with h | h
       ·rw [e,h] at hq2; simp at hq2
       ·omega
     ·exact hq2
    ·intro e
     rcases w1 with h | h
     ·rw [e,h] at hq2; simp at hq2
     ·omega
    ·intro e
     rcases w2 with h | h
     ·rw [e,h] at hq2; simp at hq2
     ·omega
   ·rintro Γ2 t' ⟨g0,g2,g3,g10,g11,k12,own2,xs2,xf2,hA,hK⟩
    replace G:=bw g0 (bw g2 (bw g3 (bw g10 (bw g11 k12))))
    refine aq ?_
    refine qP ?_
    refine qV ?_
    refine aX ?_
    try dsimp only [aQ]
    have hb1:∀ l∈(addS p i k).1,l.length≤100000 + (j + 1):=by
     intro l hl
     rcases List.mem_or_eq_of_mem_set hl with h | h
     ·have:=hz1 l h; omega
     ·rw [h,lw]
      have:(p.1.getD i []).length≤100000 + j:=by
       rw [List.getD]
       cases he:p.1[i]? with
       | none=>simp
       | some l=>exact hz1 l (iw he)
      simp only [xw]
      omega
    have hb2:∀ l∈(addS p i k).2,l.length≤100000 + (j + 1):=by
     intro l hl
     rcases List.mem_or_eq_of_mem_set hl with h | h
     ·have:=hz2 l h; omega
     ·rw [h,lw]
      have:(p.2.getD k []).length≤100000 + j:=by
       rw [List.getD]
       cases he:p.2[k]? with
       | none=>simp
       | some l=>exact hz2 l (iw he)
      simp only [xw]
      omega
    have G:=bw g0 (bw g2 (bw g3 (bw g10 (bw g11 k12))))
    refine ⟨⟨aK,aK,aK,aK,aK,j + 1,own2,addS p i k,xs2,xf2,?_,by omega,by simp only [addS,uw]; exact hp1,by simp only [addS,uw]; exact hp2,hb1,hb2,hfold,hA,hK⟩,?_⟩
    ·simp only [cq,qw]
     rw [wr (by omega) (by omega)]; rfl
    ·simp only [cq,qw,g12,iV]
     rw [wr (by omega) (by omega)]
     omega
  ·have hjl:j = ids.length:=by omega
   refine az (bQ (t:=false) ?_ (ox ?_))
   ·simp only [kq,cq,qw,isB,bV,scV]
    rw [vk (by omega)]
   rw [hjl,List.drop_length] at hfold
   simp only [List.map_nil,List.foldl_nil] at hfold
   simp only [aQ,Nat.beq_refl,cond_true]
   refine ⟨.inl trivial,[],0,rfl,cY,own1,xs1,xf1,?_⟩
   rw [← hfold]
   exact ⟨hA,hK⟩
end
end Go.RM
namespace Go.RM
open Go.VM (T mV tI)
structure HO where
 id:Int
 size:Int
 ty:ByteArray
 refs:List Int
def fY (r:Int):List T:=[tI r]
def eQ (o:HO):List T:=[tI o.id,tI o.size,.sc (.string o.ty),.sl 1 (o.refs.map fY)]
def addsFrom (fnd:Int→Nat):Nat→List HO→List (List Nat) × List (List Nat)→List (List Nat) × List (List Nat)
 | _,[],p=>p
 | j,o :: l,p=>addsFrom fnd (j + 1) l ((o.refs.map fnd).foldl (fun p k=>addS p j k) p)
def adds (fnd:Int→Nat) (obs:List HO) (rts:List Int):List (List Nat) × List (List Nat) :=
 (rts.map fnd).foldl (fun p k=>addS p obs.length k) (addsFrom fnd 0 obs (List.replicate (obs.length + 1) [],List.replicate (obs.length + 1) []))
theorem aBj (p:List (List Nat) × List (List Nat)) (i k:Nat):(addS p i k).1.length = p.1.length∧(addS p i k).2.length = p.2.length:=by simp [addS]
theorem addSs_len (i:Nat):∀ (l:List Nat) (p:List (List Nat) × List (List Nat)),(l.foldl (fun p k=>addS p i k) p).1.length = p.1.length∧(l.foldl (fun p k=>addS p i k) p).2.length = p.2.length
 | [],p=>⟨rfl,rfl⟩
 | k :: l,p=>by
  simp only [List.foldl_cons]
  have h1:=addSs_len i l (addS p i k)
  have h2:=aBj p i k
  exact ⟨h1.1.trans h2.1,h1.2.trans h2.2⟩
def ub (B:Nat) (p:List (List Nat) × List (List Nat)):Prop:=(∀ l∈p.1,l.length≤B)∧∀ l∈p.2,l.length≤B
theorem ayW {ls:List (List Nat)} {B i v:Nat} (h:∀ l∈ls,l.length≤B):∀ l∈ls.set i (ls.getD i []++[v]),l.length≤B + 1:=by
 intro l hl
 rcases List.mem_or_eq_of_mem_set hl with h1 | h1
 ·have:=h l h1; omega
 ·rw [h1,lw]
  have:(ls.getD i []).length≤B:=by
   rw [List.getD]
   cases he:ls[i]? with
   | none=>simp
   | some l=>exact h l (iw he)
  simp only [xw]
  omega
theorem addSs_ub (i:Nat):∀ (l:List Nat) (B:Nat) (p:List (List Nat) × List (List Nat)),ub B p→ub (B + l.length) (l.foldl (fun p k=>addS p i k) p)
 | [],B,p,h=>h
 | k :: l,B,p,h=>by
  simp only [List.foldl_cons,List.length_cons]
  have:=addSs_ub i l (B + 1) (addS p i k) ⟨ayW h.1,ayW h.2⟩
  rw [show B + (l.length + 1) = B + 1 + l.length by omega]
  exact this
structure BuG (b:Nat) (own:Own) (hb gb g nt nf np nv nk:Nat) (rows roots:List (List T)) (xo:X) (to fr:List (List Nat)) (xs xf:List X) (vals:List Nat) (known:List Bool) (s:S):Prop where
 add:axJ b own hb gb g nt nf rows roots xo (.ptr np 0) to fr xs xf s
 nums:Nums s.h.get np nv nk vals known
 sep:own np = none∧own nv = none∧own nk = none
 ne:np ≠ hb∧np ≠ gb∧np ≠ g∧np ≠ nt∧np ≠ nf∧np ≠ nv∧np ≠ nk
 nev:nv ≠ hb∧nv ≠ gb∧nv ≠ g∧nv ≠ nt∧nv ≠ nf∧nv ≠ nk
 nek:nk ≠ hb∧nk ≠ gb∧nk ≠ g∧nk ≠ nt∧nk ≠ nf
 le:b≤np∧b≤nv∧b≤nk
theorem Nums.keep {h h':Hp} {p nv nk:Nat} {vs:List Nat} {ks:List Bool} (hN:Nums h p nv nk vs ks) (h1:h' p = h p) (h2:h' nv = h nv) (h3:h' nk = h nk):Nums h' p nv nk vs ks:=⟨h1.trans hN.box,h2.trans hN.vals,h3.trans hN.known⟩
theorem BuG.step {b:Nat} {own own':Own} {hb gb g nt nf np nv nk:Nat} {rows roots:List (List T)} {xo:X} {to fr to' fr':List (List Nat)} {xs xf xs' xf':List X} {vals:List Nat} {known:List Bool} {s s':S} (h:BuG b own hb gb g nt nf np nv nk rows roots xo to fr xs xf vals known s) (hA:axJ b own' hb gb g nt nf rows roots xo (.ptr np 0) to' fr' xs' xf' s') (hK:KeepA nt nf own own' s s'):BuG b own' hb gb g nt nf np nv nk rows roots xo to' fr' xs' xf' vals known s':=by
 obtain ⟨hA0,hN,⟨p1,p2,p3⟩,hne,hnev,hnek,hle⟩:=h
 have c1:=hA0.sb.lt hN.box
 have c2:=hA0.sb.lt hN.vals
 have c3:=hA0.sb.lt hN.known
 have k1:=hK.2 np c1 p1
 have k2:=hK.2 nv c2 p2
 have k3:=hK.2 nk c3 p3
 exact ⟨hA,hN.keep (k1.2 hne.2.2.2.1 hne.2.2.2.2.1) (k2.2 hnev.2.2.2.1 hnev.2.2.2.2.1) (k3.2 hnek.2.2.2.1 hnek.2.2.2.2),⟨k1.1,k2.1,k3.1⟩,hne,hnev,hnek,hle⟩
def Kp0 (own:Own) (s t:S):Prop:=s.c≤t.c∧∀ k,k < s.c→own k = none∧t.h.get k = s.h.get k
theorem Kp0.step {nt nf:Nat} {own own':Own} {s t t':S} (h:Kp0 own s t) (h1:s.c≤nt) (h2:s.c≤nf) (hK:KeepA nt nf own own' t t'):Kp0 own' s t' :=
 ⟨Nat.le_trans h.1 hK.1,fun k hk=>by
  obtain ⟨a1,a2⟩:=h.2 k hk
  obtain ⟨b1,b2⟩:=hK.2 k (vw hk h.1) a1
  exact ⟨b1,(b2 (by omega) (by omega)).trans a2⟩⟩
theorem BuG.keep {b:Nat} {own:Own} {hb gb g nt nf np nv nk:Nat} {rows roots:List (List T)} {xo:X} {to fr:List (List Nat)} {xs xf:List X} {vals:List Nat} {known:List Bool} {s s':S} (h:BuG b own hb gb g nt nf np nv nk rows roots xo to fr xs xf vals known s) (hS':Sb b s') (hc:s.c≤s'.c) (hk:∀ k,k < s.c→s'.h.get k = s.h.get k):BuG b own hb gb g nt nf np nv nk rows roots xo to fr xs xf vals known s':=by
 obtain ⟨⟨hS,a1,a2,a3,a4,a5,a6,a7,a8,a9⟩,hN,hsep,hne,hnev,hnek,hle⟩:=h
 exact ⟨⟨hS',(hk _ (hS.lt a1)).trans a1,(hk _ (hS.lt a2)).trans a2,(hk _ (hS.lt a3)).trans a3,a4.keep (hk _ (hS.lt a4.arr)) (fun n i hn=>hk n (a6 n _ hn).2),a5.keep (hk _ (hS.lt a5.arr)) (fun n i hn=>hk n (a6 n _ hn).2),fun n t hn=>⟨(a6 n t hn).1,vw (a6 n t hn).2 hc⟩,a7,a8,a9⟩,hN.keep (hk _ (hS.lt hN.box)) (hk _ (hS.lt hN.vals)) (hk _ (hS.lt hN.known)),hsep,hne,hnev,hnek,hle⟩
theorem asq (k:Nat):∀ us:List Nat,k ∉ us→Go.VM.putK (.int .i64 (k:Int)) (bV true) (us.map uE) = (us++[k]).map uE
 | [],_=>rfl
 | a :: us,h=>by
  simp only [qk,not_or] at h
  simp only [List.map_cons,List.cons_append,Go.VM.putK,uE,Go.VM.keyB,ow]
  have : ¬ (k:Int) = (a:Int):=by omega
  rw [if_neg this,asq k us h.2]
theorem aQX {n:Nat} (h:n≤1000000):nJ 24 n = true:=by
 unfold nJ
 rw [fk,Nat.ble_eq,Nat.ble_eq]
 omega
theorem aPj {h:Hp} {own:Own} {tag na n:Nat} (ha:h na = some (.cells i8 (List.replicate n (.sc dZ)))):Rows h own tag na (List.replicate n []) (List.replicate n (.sc dZ)) :=
 ⟨ha,by rw [mw,mw],fun i x l hx hl=>by
  rw [List.getElem?_replicate] at hx hl
  split at hx
  ·rw [if_pos ‹_›] at hl; cases hx; cases hl; exact .inl ⟨rfl,rfl⟩
  ·simp at hx⟩
set_option maxHeartbeats 4000000 in
theorem aRJ {orc:bZ} {b:Nat} {s:S} {Q:Ex→Tr V→S→Prop} (hS:Sb b s) (obs:List HO) (rts:List Int) (hn:obs.length≤1000) {code:RC} {Γ:Tr V} (g0:look Γ 0 = .agg [.im 4 (obs.map eQ),.im 1 (rts.map fY)])
  (hk:∀ Γ t hb gb g nt nf np nv nk,look Γ 1 = .c (.ptr hb 0)→look Γ 3 = iV (obs.length:Int)→look Γ 4 = .c (.ptr gb 0)→look Γ 5 = .c (.fn jj [.ptr hb 0,.ptr gb 0]) →
   BuG b (fun _=>none) hb gb g nt nf np nv nk (obs.map eQ) (rts.map fY) (.sc dZ) (List.replicate (obs.length + 1) []) (List.replicate (obs.length + 1) []) (List.replicate (obs.length + 1) (.sc dZ)) (List.replicate (obs.length + 1) (.sc dZ)) (List.replicate (obs.length + 1) 0) (List.replicate (obs.length + 1) false) t→(s.c≤g∧s.c≤nt∧s.c≤nf∧s.c≤np∧s.c≤nv∧s.c≤nk)→Kp0 (fun _=>none) s t→Wp orc p_T code Γ t (fun k=>b≤k) True Q) :
  Wp orc p_T (.seq (.region none [oP 1 (.box e8 (tO 0)) 1,oP 2 (.mv (.con (.c (.sc (.pointer none))))) 0]) (.seq (.region none [oP 12 (.fld 0 (tO 1)) 2,oP 13 (.load 1 false (tO 12)) 4096,oP 14 (.lenS (tO 13)) 8192,oP 3 (.mv (tO 14)) 16384]) (.seq (.region (some [0,1,3,0,8,24,0,64,192,511,1023,0,4095]) [oP 15 (.mv (tO 3)) 8,oP 16 (.bin .add (tO 15) (kI 1)) 32768,oP 17 (.mksl i8 1 24 [(.sc (.slice none 0 0))] (tO 16) (tO 16)) 65536,oP 18 (.mv (tO 3)) 8,oP 19 (.bin .add (tO 18) (kI 1)) 262144,oP 20 (.mksl i8 1 24 [(.sc (.slice none 0 0))] (tO 19) (tO 19)) 524288,oP 21 (.mv (tO 3)) 8,oP 22 (.bin .add (tO 21) (kI 1)) 2097152,oP 23 (.call jZ [(tO 22)]) 4194304,oP 24 (.build [(.sc (.slice none 0 0)),(.sc (.slice none 0 0)),(.sc (.slice none 0 0)),(.sc (.pointer none))] [(0,1,(tO 17)),(1,1,(tO 20)),(3,1,(tO 23))]) 9568256,oP 25 (.box qY (tO 24)) 16777216,oP 4 (.alloc yY [(.sc (.pointer none))]) 0,oN (.store 1 (tO 4) (tO 25)) 33554448]) (.seq (.region none [oP 26 (.mkfn jj [(tO 1),(tO 4)]) 18,oP 5 (.mv (tO 26)) 67108864]) code)))) Γ s (fun k=>b≤k) True Q:=by
 have hle:=hS.le
 replace G:=g0
 refine az (aq ?_)
 refine oY rfl (MS.box hS zj) cK ?_
 refine ej hS ?_
 intro s1 hst1 hsc1 hS1
 have hn1:=hst1.self
 refine qV ?_
 refine aX ?_
 dsimp only [aQ]
 replace G:=g0
 refine az (aq ?_)
 refine qPL ?_
 refine qLL ?_
 refine qPL ?_
 refine qVL ?_
 refine aX ?_
 dsimp only [aQ]
 have ew:IntKind.i64.wrap ((obs.length:Int) + 1) = ((obs.length + 1:Nat):Int):=by rw [wr (by omega) (by omega)]; rfl
 have r1:=aQX (n:=obs.length + 1) (by omega)
 replace G:=bw g0 ew
 refine az (sj rfl ?_)
 refine rVL ?_
 refine rPL ?_
 refine Az rfl (MS.mksl hS1 iW iW (by first | exact ik _ | omega) (by first | assumption | rfl)) cK (fun x hx=>by simp at hx) ?_
 refine zW hS1 ?_
 intro s2 hst2 hsc2 hS2
 replace hn1:=hst2.at hn1 (by omega)
 have hn2:=hst2.self
 refine rVL ?_
 refine rPL ?_
 refine Az rfl (MS.mksl hS2 iW iW (by first | exact ik _ | omega) (by first | assumption | rfl)) cK (by intro x hx; simp only [List.nil_append,List.cons_append,qk,List.not_mem_nil,or_false] at hx; rcases hx with rfl <;> first | exact .inl (by dsimp only; decide) | (refine .inr fun k => ?_; refine ⟨?_,?_,?_⟩ <;> (intro hk; (try dsimp only at hk); first | exact hk.1.elim | exact hk.2.elim | omega))) ?_
 refine zW hS2 ?_
 intro s3 hst3 hsc3 hS3
 replace hn1:=hst3.at hn1 (by omega)
 replace hn2:=hst3.at hn2 (by omega)
 have hn3:=hst3.self
 refine rVL ?_
 refine rPL ?_
 refine LJ (fun k => s3.c ≤ k ∧ k < s3.c + 3) rfl abK hS3 cK (by intro x hx; simp only [List.nil_append,List.cons_append,qk,List.not_mem_nil,or_false] at hx; rcases hx with rfl | rfl <;> first | exact .inl (by dsimp only; decide) | (refine .inr fun k => ?_; refine ⟨?_,?_,?_⟩ <;> (intro hk; (try dsimp only at hk); first | exact hk.1.elim | exact hk.2.elim | omega))) (Cp.mono (Q6 (Sb.zero hS3 (ik _)) (obs.length + 1) (by omega)) (fun _ h => h) (fun h => h) ?_)
 intro v4 s4 hq4
 obtain ⟨hSp,np,nv,nk,rfl,hNp,env,enk,enp,ecp,hkp⟩:=hq4
 refine ⟨hSp,fun j h1 h2=>⟨h1,by have e:_ = s3.c + 3:=ecp; omega⟩,?_⟩
 intro σ e1 e2 hSσ
 rw [← e1] at hNp hkp
 have cσ:σ.c = s3.c + 3:=by rw [e2]; exact ecp
 have env:nv = s3.c:=env
 have enk:nk = s3.c + 1:=enk
 have enp:np = s3.c + 2:=enp
 have hkp:∀ k,k < s3.c→σ.h.get k = s3.h.get k:=hkp
 replace hn1:σ.h.get _ = _:=(hkp _ (by omega)).trans hn1
 replace hn2:σ.h.get _ = _:=(hkp _ (by omega)).trans hn2
 replace hn3:σ.h.get _ = _:=(hkp _ (by omega)).trans hn3
 clear e1 e2 hSp ecp
 refine uX rfl (by simp only [evS,Nat.reduceEqDiff,reduceIte,PU,bJ,scV,bV,iV,dZ,isB,isI,pX,wQ,mkV,fill,dK,setAt,List.take_zero,List.take_succ_cons,List.take_nil,List.drop_nil,List.append_nil,List.nil_append,List.cons_append,List.length_cons,List.length_nil,Nat.reduceAdd,Nat.reduceLeDiff,Z3,amW,eq_self,decide_true,Bool.and_self,List.length_map,G]; first | done | rfl) ?_
 refine Az rfl (MS.box hSσ (by simp only [evS,Nat.reduceEqDiff,reduceIte,dK,List.length_map,G]; first | done | rfl)) cK (by intro x hx; simp only [List.nil_append,List.cons_append,qk,List.not_mem_nil,or_false] at hx; rcases hx with rfl | rfl | rfl <;> first | exact .inl (by dsimp only; decide) | (refine .inr fun k => ?_; refine ⟨?_,?_,?_⟩ <;> (intro hk; (try dsimp only at hk); first | exact hk.1.elim | exact hk.2.elim | omega))) ?_
 refine zW hSσ ?_
 intro s5 hst5 hsc5 hS5
 replace hn1:=hst5.at hn1 (by omega)
 replace hn2:=hst5.at hn2 (by omega)
 replace hn3:=hst5.at hn3 (by omega)
 have hn5:=hst5.self
 refine rM (MS.alloc hS5) ?_
 refine zW hS5 ?_
 intro s6 hst6 hsc6 hS6
 replace hn1:=hst6.at hn1 (by omega)
 replace hn2:=hst6.at hn2 (by omega)
 replace hn3:=hst6.at hn3 (by omega)
 replace hn5:=hst6.at hn5 (by omega)
 have hn6:=hst6.self
 refine rTL ?_
 refine zX hS6 (by omega) (by omega) ?_
 intro s7 hst7 hsc7 hS7
 first | replace hn1:=hst7.at hn1 (by omega) | replace hn1:=hst7.self
 first | replace hn2:=hst7.at hn2 (by omega) | replace hn2:=hst7.self
 first | replace hn3:=hst7.at hn3 (by omega) | replace hn3:=hst7.self
 first | replace hn5:=hst7.at hn5 (by omega) | replace hn5:=hst7.self
 first | replace hn6:=hst7.at hn6 (by omega) | replace hn6:=hst7.self
 refine wz ?_
 dsimp only [aQ]
 refine az (aq ?_)
 refine dq rfl (by simp only [evS,Nat.reduceEqDiff,reduceIte,PU,bJ,scV,bV,iV,dZ,isB,isI,pX,wQ,mkV,Yj,List.mapM_cons,List.mapM_nil,Option.pure_def,Option.bind_eq_bind,List.length_map,G]; try rfl) ?_
 refine qVL ?_
 refine aX ?_
 dsimp only [aQ]
 rw [afj] at hn2 hn3
 have hN7:Nums s7.h.get np nv nk (List.replicate (obs.length + 1) 0) (List.replicate (obs.length + 1) false):=hNp.keep (by rw [hst7.keep _ (by omega),hst6.keep _ (by omega),hst5.keep _ (by omega)]) (by rw [hst7.keep _ (by omega),hst6.keep _ (by omega),hst5.keep _ (by omega)]) (by rw [hst7.keep _ (by omega),hst6.keep _ (by omega),hst5.keep _ (by omega)])
 refine hk _ s7 s.c s5.c σ.c s1.c s2.c np nv nk lkL lkL lkL lkL ⟨⟨hS7,hn1,hn6,?_,aPj hn2,aPj hn3,fun _ _ h=>by simp at h,⟨rfl,rfl,rfl,rfl,rfl⟩,⟨by omega,by omega,by omega,by omega,by omega,by omega,by omega,by omega,by omega,by omega⟩,⟨by omega,by omega,by omega,by omega,by omega⟩⟩,hN7,⟨rfl,rfl,rfl⟩,⟨by omega,by omega,by omega,by omega,by omega,by omega,by omega⟩,⟨by omega,by omega,by omega,by omega,by omega,by omega⟩,⟨by omega,by omega,by omega,by omega,by omega⟩,⟨by omega,by omega,by omega⟩⟩ ⟨by omega,by omega,by omega,by omega,by omega,by omega⟩ ⟨by omega,fun k hk=>⟨rfl,?_⟩⟩
 ·rw [mw]; exact hn5
 ·rw [hst7.keep _ (by omega),hst6.keep _ (by omega),hst5.keep _ (by omega),hkp _ (by omega),hst3.keep _ (by omega),hst2.keep _ (by omega),hst1.keep _ (by omega)]
theorem Kp0.keep {own:Own} {s t t':S} (h:Kp0 own s t) (hc:t.c≤t'.c) (hk:∀ k,k < t.c→t'.h.get k = t.h.get k):Kp0 own s t' :=
 ⟨Nat.le_trans h.1 hc,fun k hk'=>⟨(h.2 k hk').1,(hk k (vw hk' h.1)).trans (h.2 k hk').2⟩⟩
structure Graph (b c g:Nat) (to fr:List (List Nat)) (ord:List Nat) (vals:List Nat) (known:List Bool) (h:Hp):Prop where
 ex:∃ own nt nf no np nv nk xs xf,h g = some (.cells qY [.sl nt 1 0 to.length,.sl nf 1 0 fr.length,.sl no 1 0 ord.length,.ptr np 0])∧Rows h own 0 nt to xs∧Rows h own 1 nf fr xf∧h no = some (.cells cj (ord.map nI))∧Nums h np nv nk vals known∧(∀ n t,own n = some t→b≤n∧n < c) ∧
  (b≤g∧b≤nt∧b≤nf∧b≤no∧b≤np∧b≤nv∧b≤nk)∧(g < c∧nt < c∧nf < c∧no < c∧np < c∧nv < c∧nk < c)
theorem Graph.keep {b c g:Nat} {to fr:List (List Nat)} {ord:List Nat} {vals:List Nat} {known:List Bool} {h h':Hp} (hG:Graph b c g to fr ord vals known h) (hk:∀ k,b≤k→k < c→h' k = h k):Graph b c g to fr ord vals known h':=by
 obtain ⟨own,nt,nf,no,np,nv,nk,xs,xf,h1,h2,h3,h4,h5,h6,⟨a1,a2,a3,a4,a5,a6,a7⟩,⟨b1,b2,b3,b4,b5,b6,b7⟩⟩:=hG.ex
 exact ⟨own,nt,nf,no,np,nv,nk,xs,xf,(hk _ a1 b1).trans h1,h2.keep (hk _ a2 b2) (fun n i hn=>hk n (h6 n _ hn).1 (h6 n _ hn).2),h3.keep (hk _ a3 b3) (fun n i hn=>hk n (h6 n _ hn).1 (h6 n _ hn).2),(hk _ a4 b4).trans h4,h5.keep (hk _ a5 b5) (hk _ a6 b6) (hk _ a7 b7),h6,⟨a1,a2,a3,a4,a5,a6,a7⟩,⟨b1,b2,b3,b4,b5,b6,b7⟩⟩
def iz:Nat→List Nat→List Nat × List Bool→List Nat × List Bool
 | _,[],p=>p
 | j,i :: l,p=>iz (j + 1) l (p.1.set i j,p.2.set i true)
def azW (orc:bZ) (fnd:Int→Nat) (obs:List HO) (rts:List Int):Prop :=
 (∀ o∈obs,ZX orc (obs.map eQ) (rts.map fY) fnd o.refs∧o.refs.length≤1000∧∀ r∈o.refs,fnd r < obs.length + 1)∧ZX orc (obs.map eQ) (rts.map fY) fnd rts∧rts.length≤1000∧∀ r∈rts,fnd r < obs.length + 1
set_option maxHeartbeats 4000000 in
theorem aCz {orc:bZ} {b:Nat} {s:S} (hS:Sb b s) {fnd:Int→Nat} (obs:List HO) (rts:List Int) (hn:obs.length≤60) (hrefs:azW orc fnd obs rts) {f:Nat} {us' ord':List Nat} (hvis:u9 f (adds fnd obs rts).1 obs.length (List.range (obs.length + 1)) [] = some (us',ord')) (hcap:ord'.length≤1000) (hord:∀ i∈ord',i < obs.length + 1) :
  Cp orc p_T k9 [.agg [.im 4 (obs.map eQ),.im 1 (rts.map fY)]] s (fun k=>b≤k) True fun v s'=>∃ g,v = .c (.ptr g 0)∧Sb b s'∧s.c≤s'.c∧(∀ k,k < s.c→s'.h.get k = s.h.get k) ∧
   Graph b s'.c g (adds fnd obs rts).1 (adds fnd obs rts).2 ord'.reverse (iz 0 ord'.reverse (List.replicate (obs.length + 1) 0,List.replicate (obs.length + 1) false)).1 (iz 0 ord'.reverse (List.replicate (obs.length + 1) 0,List.replicate (obs.length + 1) false)).2 s'.h.get:=by
 refine k8 (rf:=vJ) rfl ?_
 unfold vJ
 obtain ⟨Γ,hΓ⟩ : ∃ Γ,Γ = ofL [V.agg [.im 4 (obs.map eQ),.im 1 (rts.map fY)]] 0 .lf:=⟨_,rfl⟩
 have g0:look Γ 0 = .agg [.im 4 (obs.map eQ),.im 1 (rts.map fY)]:=by rw [hΓ]; rfl
 rw [← hΓ]
 try clear G
 clear hΓ
 refine aRJ hS obs rts (by omega) g0 ?_
 try clear G
 clear g0 Γ
 intro Γ t hb gb g nt nf np nv nk g1 g3 g4 g5 hB hlo hK0
 refine fW (fun Γ t=>look Γ 1 = .c (.ptr hb 0)∧look Γ 3 = iV (obs.length:Int)∧look Γ 4 = .c (.ptr gb 0)∧look Γ 5 = .c (.fn jj [.ptr hb 0,.ptr gb 0])∧∃ (own:Own) (p:List (List Nat) × List (List Nat)) (xs xf:List X),p = addsFrom fnd 0 obs (List.replicate (obs.length + 1) [],List.replicate (obs.length + 1) [])∧p.1.length = obs.length + 1∧p.2.length = obs.length + 1∧ub 60000 p∧BuG b own hb gb g nt nf np nv nk (obs.map eQ) (rts.map fY) (.sc dZ) p.1 p.2 xs xf (List.replicate (obs.length + 1) 0) (List.replicate (obs.length + 1) false) t∧Kp0 own s t) ?_ ?_
 ·have hS:=hB.add.sb
  have hh:=hB.add.hbox
  have hbh:=hB.add.le.1
  replace G:=bw g1 (bw g3 (bw g4 g5))
  refine az (aq ?_)
  refine qP ?_
  refine qL ?_
  refine qP ?_
  refine qV ?_
  refine aX ?_
  dsimp only [aQ]
  refine dz (uJ (fun Γ t=>look Γ 1 = .c (.ptr hb 0)∧look Γ 3 = iV (obs.length:Int)∧look Γ 4 = .c (.ptr gb 0)∧look Γ 5 = .c (.fn jj [.ptr hb 0,.ptr gb 0])∧look Γ 28 = .c (.im 4 (obs.map eQ))∧look Γ 29 = iV (obs.length:Int)∧∃ (j:Nat) (own:Own) (p:List (List Nat) × List (List Nat)) (xs xf:List X),look Γ 30 = iV (j:Int)∧j≤obs.length∧addsFrom fnd j (obs.drop j) p = addsFrom fnd 0 obs (List.replicate (obs.length + 1) [],List.replicate (obs.length + 1) [])∧p.1.length = obs.length + 1∧p.2.length = obs.length + 1∧ub (1000 * j) p∧BuG b own hb gb g nt nf np nv nk (obs.map eQ) (rts.map fY) (.sc dZ) p.1 p.2 xs xf (List.replicate (obs.length + 1) 0) (List.replicate (obs.length + 1) false) t∧Kp0 own s t) (fun Γ _=>match look Γ 30 with
   | .c (.sc (.int _ i))=>obs.length - i.toNat
   | _=>0) ⟨lk,lk,lk,lk,lk,iW,0,_,_,_,_,lk,Nat.zero_le _,rfl,mw,mw,⟨fun l hl=>?_,fun l hl=>?_⟩,hB,hK0⟩ ?_)
  ·rw [List.eq_of_mem_replicate hl]; exact ik _
  ·rw [List.eq_of_mem_replicate hl]; exact ik _
  try clear G
  clear g1 g3 g4 g5 hB hK0 hS hh Γ
  rintro Γ t ⟨g1,g3,g4,g5,g28,g29,j,own,p,xs,xf,g30,hj,hadd,hp1,hp2,hub,hB,hK0⟩
  have hS:=hB.add.sb
  replace G:=bw g1 (bw g3 (bw g4 (bw g5 (bw g28 (bw g29 g30)))))
  refine az (aq ?_)
  refine qP ?_
  refine aX ?_
  dsimp only [aQ]
  by_cases hjl:j < obs.length
  ·refine az (bQ (t:=true) ?_ (eW ?_))
   ·simp only [kq,cq,qw,isB,bV,scV]
    rw [decide_eq_true (by omega)]
   dsimp only [aQ]
   obtain ⟨o,ho⟩ : ∃ o,obs[j]? = some o:=⟨_,ck hjl⟩
   have hom:o∈obs:=iw ho
   have hdrop:obs.drop j = o :: obs.drop (j + 1):=by
    rw [List.drop_eq_getElem_cons hjl]
    rw [ck hjl] at ho
    cases ho; rfl
   rw [hdrop] at hadd
   simp only [addsFrom] at hadd
   have hrow:(obs.map eQ)[j]? = some [tI o.id,tI o.size,.sc (.string o.ty),.sl 1 (o.refs.map fY)]:=by rw [gw,ho]; rfl
   obtain ⟨hf1,hf2,hf3⟩:=hrefs.1 o hom
   have hlen:=addSs_len j (o.refs.map fnd) p
   refine fW (fun Γ t=>look Γ 1 = .c (.ptr hb 0)∧look Γ 3 = iV (obs.length:Int)∧look Γ 4 = .c (.ptr gb 0)∧look Γ 5 = .c (.fn jj [.ptr hb 0,.ptr gb 0])∧look Γ 28 = .c (.im 4 (obs.map eQ))∧look Γ 29 = iV (obs.length:Int)∧look Γ 30 = iV (j:Int)∧∃ (own:Own) (xs xf:List X),BuG b own hb gb g nt nf np nv nk (obs.map eQ) (rts.map fY) (.sc dZ) ((o.refs.map fnd).foldl (fun p k=>addS p j k) p).1 ((o.refs.map fnd).foldl (fun p k=>addS p j k) p).2 xs xf (List.replicate (obs.length + 1) 0) (List.replicate (obs.length + 1) false) t∧Kp0 own s t) (dz ?_) ?_
   ·have hle:=hS.le
    replace G:=bw g1 (bw g3 (bw g4 (bw g5 (bw g28 (bw g29 g30)))))
    refine az (aq ?_)
    refine qV ?_
    refine qX ?_
    refine qA ?_
    refine qM (MS.alloc hS) ?_
    refine ej hS ?_
    intro s1 hst1 hsc1 hS1
    have hn1:=hst1.self
    refine qV ?_
    refine oY rfl (MS.storeA aK zj (by assumption) rfl (by first | rfl | (simp; done) | omega)) cK ?_
    refine xX hS1 (by omega) (by omega) ?_
    intro s2 hst2 hsc2 hS2
    first | replace hn1:=hst2.at hn1 (by omega) | replace hn1:=hst2.self
    refine aX ?_
    dsimp only [aQ]
    have hB2:BuG b own hb gb g nt nf np nv nk (obs.map eQ) (rts.map fY) (.sc dZ) p.1 p.2 xs xf (List.replicate (obs.length + 1) 0) (List.replicate (obs.length + 1) false) s2∧Kp0 own s s2:=by
     have hk2:∀ k,k < t.c→s2.h.get k = t.h.get k:=fun k hk=>by rw [hst2.keep _ (by omega),hst1.keep _ (by omega)]
     exact ⟨hB.keep hS2 (by omega) hk2,hK0.keep (by omega) hk2⟩
    refine aq ?_
    refine qV ?_
    refine qV ?_
    refine qP ?_
    refine qL ?_
    refine aeX rfl aK aHV (Cp.mono (ayz hf1 hB2.1.add (by rw [hp1]; omega) (fun r hr=>by rw [hp2]; exact hf3 r hr) hf2 (fun l hl=>by have:=hub.1 l hl; omega) (fun l hl=>by have:=hub.2 l hl; omega)) cK (fun h=>h) ?_)
    intro v3 s3 hq3
    obtain ⟨own',xs',xf',hA',hKA⟩:=hq3
    refine aX ?_
    try dsimp only [aQ]
    exact ⟨lk,lk,lk,lk,lk,lk,lk,own',xs',xf',hB2.1.step hA' hKA,hB2.2.step hlo.2.1 hlo.2.2.1 hKA⟩
   ·try clear G
    clear g1 g3 g4 g5 g28 g29 hB hK0 hS
    rintro Γ2 t ⟨g1,g3,g4,g5,g28,g29,k30,own,xs,xf,hB,hK0⟩
    replace G:=bw g1 (bw g3 (bw g4 (bw g5 (bw g28 (bw g29 k30)))))
    refine aq ?_
    refine qP ?_
    refine qV ?_
    refine aX ?_
    try dsimp only [aQ]
    have hu2:=addSs_ub j (o.refs.map fnd) (1000 * j) p hub
    refine ⟨⟨lk,lk,lk,lk,lk,lk,j + 1,own,_,xs,xf,?_,by omega,hadd,by rw [hlen.1]; exact hp1,by rw [hlen.2]; exact hp2,⟨fun l hl=>?_,fun l hl=>?_⟩,hB,hK0⟩,?_⟩
    ·simp only [evS,Nat.reduceEqDiff,reduceIte]
     rw [wr (by omega) (by omega)]; rfl
    ·have:=hu2.1 l hl; rw [List.length_map] at this; omega
    ·have:=hu2.2 l hl; rw [List.length_map] at this; omega
    ·simp only [evS,Nat.reduceEqDiff,reduceIte,g30,iV]
     rw [wr (by omega) (by omega)]
     omega
  ·have hjl:j = obs.length:=by omega
   refine az (bQ (t:=false) ?_ (ox ?_))
   ·simp only [kq,cq,qw,isB,bV,scV]
    rw [vk (by omega)]
   rw [hjl,List.drop_length] at hadd
   simp only [addsFrom] at hadd
   simp only [aQ,Nat.beq_refl,cond_true]
   have G:=bw g1 (bw g3 (bw g4 (bw g5 (bw g28 (bw g29 g30)))))
   exact ⟨aK,aK,aK,aK,own,p,xs,xf,hadd,hp1,hp2,⟨fun l hl=>by have:=hub.1 l hl; omega,fun l hl=>by have:=hub.2 l hl; omega⟩,hB,hK0⟩
 ·try clear G
  clear g1 g3 g4 g5 hB hK0
  rintro Γ t ⟨g1,g3,g4,g5,own,p,xs,xf,hadd,hp1,hp2,hub,hB,hK0⟩
  have hS:=hB.add.sb
  have hh:=hB.add.hbox
  have hbh:=hB.add.le.1
  obtain ⟨hf1,hf2,hf3⟩:=hrefs.2
  have hlen:=addSs_len obs.length (rts.map fnd) p
  have hu2:=addSs_ub obs.length (rts.map fnd) 60000 p hub
  rw [List.length_map] at hu2
  have hp':(rts.map fnd).foldl (fun p k=>addS p obs.length k) p = adds fnd obs rts:=by rw [hadd]; rfl
  rw [hp'] at hlen hu2
  replace G:=bw g1 (bw g3 (bw g4 g5))
  refine az (aq ?_)
  refine qV ?_
  refine qV ?_
  refine qP ?_
  refine qL ?_
  refine aeX rfl aK aHV (Cp.mono (ayz hf1 hB.add (by rw [hp1]; omega) (fun r hr=>by rw [hp2]; exact hf3 r hr) hf2 (fun l hl=>by have:=hub.1 l hl; omega) (fun l hl=>by have:=hub.2 l hl; omega)) cK (fun h=>h) ?_)
  intro v4 s4 hq4
  obtain ⟨own',xs',xf',hA',hKA⟩:=hq4
  refine aX ?_
  dsimp only [aQ]
  rw [hp'] at hA'
  have hB2:=hB.step hA' hKA
  have hK2:=hK0.step hlo.2.1 hlo.2.2.1 hKA
  try clear G
  clear hB hK0 hA' hKA hadd hub hS hh hp'
  have hSx:=hB2.add.sb
  have ew:IntKind.i64.wrap ((obs.length:Int) + 1) = ((obs.length + 1:Nat):Int):=by rw [wr (by omega) (by omega)]; rfl
  have hle:=hSx.le
  replace G:=bw g1 (bw g3 (bw g4 (bw g5 ew)))
  refine az (aq ?_)
  refine oY rfl (MS.mkmap hSx) cK ?_
  refine ej hSx ?_
  intro s5 hst5 hsc5 hS5
  have hn5:=hst5.self
  refine qV ?_
  refine aX ?_
  dsimp only [aQ]
  refine fW (fun Γ t=>look Γ 3 = iV (obs.length:Int)∧look Γ 4 = .c (.ptr gb 0)∧look Γ 8 = .c (.mp s4.c)∧Sb b t∧t.c = s4.c + 1∧t.h.get s4.c = some (.map (.int .i64) false ((List.range (obs.length + 1)).map uE))∧∀ k,k < s4.c→t.h.get k = s4.h.get k) ?_ ?_
  ·skip
   refine az (aq ?_)
   refine qV ?_
   refine qP ?_
   refine qV ?_
   refine aX ?_
   dsimp only [aQ]
   refine dz (uJ (fun Γ t=>look Γ 3 = iV (obs.length:Int)∧look Γ 4 = .c (.ptr gb 0)∧look Γ 8 = .c (.mp s4.c)∧look Γ 48 = iV ((obs.length + 1:Nat):Int)∧∃ j:Nat,look Γ 49 = iV (j:Int)∧j≤obs.length + 1∧Sb b t∧t.c = s4.c + 1∧t.h.get s4.c = some (.map (.int .i64) false ((List.range j).map uE))∧∀ k,k < s4.c→t.h.get k = s4.h.get k) (fun Γ _=>match look Γ 49 with
    | .c (.sc (.int _ i))=>obs.length + 1 - i.toNat
    | _=>0) ⟨lk,lk,lk,(by simp only [evS,Nat.reduceEqDiff,reduceIte,G,ew]; try rfl),0,lk,Nat.zero_le _,hS5,hsc5,hn5,fun k hk=>hst5.keep k (by omega)⟩ ?_)
   try clear G
   clear g1 g3 g4 g5 Γ
   rintro Γ t ⟨g3,g4,g8,g48,j,g49,hj,hS,hc,hm,hk⟩
   replace G:=bw g3 (bw g4 (bw g8 (bw g48 g49)))
   refine az (aq ?_)
   refine qP ?_
   refine aX ?_
   dsimp only [aQ]
   by_cases hjl:j < obs.length + 1
   ·refine az (bQ (t:=true) ?_ (eW ?_))
    ·simp only [kq,cq,qw,isB,bV,scV]
     rw [decide_eq_true (by omega)]
    dsimp only [aQ]
    refine az (dz ?_)
    refine az (aq ?_)
    refine qV ?_
    refine qV ?_
    refine aX ?_
    dsimp only [aQ]
    refine aq ?_
    refine qV ?_
    refine qV ?_
    refine oY rfl (MS.mupd aK (by simp only [evS,Nat.reduceEqDiff,reduceIte,TJ,G]; rfl) (by assumption) rfl (by simp only [evS,Nat.reduceEqDiff,reduceIte,m8,G])) cK ?_
    refine xX hS (by omega) (by omega) ?_
    intro s6 hst6 hsc6 hS6
    first | replace hm:=hst6.at hm (by omega) | replace hm:=hst6.self
    refine aX ?_
    try dsimp only [aQ]
    refine aq ?_
    refine qP ?_
    refine qV ?_
    refine aX ?_
    try dsimp only [aQ]
    have hp:=asq j (List.range j) (by simp)
    rw [← List.range_succ] at hp
    refine ⟨⟨lk,lk,lk,lk,j + 1,?_,by omega,hS6,by omega,by rw [hm,← hp]; simp only [evS]; rfl,fun k hk'=>by rw [hst6.keep k (by omega)]; exact hk k hk'⟩,?_⟩
    ·simp only [evS,Nat.reduceEqDiff,reduceIte]
     rw [wr (by omega) (by omega)]; rfl
    ·simp only [evS,Nat.reduceEqDiff,reduceIte,g49,iV]
     rw [wr (by omega) (by omega)]
     omega
   ·refine az (bQ (t:=false) ?_ (ox ?_))
    ·simp only [kq,cq,qw,isB,bV,scV]
     rw [vk (by omega)]
    have hj1:j = obs.length + 1:=by omega
    rw [hj1] at hm
    simp only [aQ,Nat.beq_refl,cond_true]
    have G:=bw g3 (bw g4 (bw g8 (bw g48 g49)))
    exact ⟨aK,aK,aK,hS,hc,hm,hk⟩
  ·try clear G
   clear g1 g3 g4 g5 Γ
   rintro Γ t ⟨g3,g4,g8,hS,hc,hm,hk⟩
   have hB3:=hB2.keep hS (by omega) hk
   have hK3:=hK2.keep (by omega) hk
   obtain ⟨⟨_,a1,a2,a3,a4,a5,a6,⟨b1,b2,b3,b4,b5⟩,⟨n1,n2,n3,n4,n5,n6,n7,n8,n9,n10⟩,⟨l1,l2,l3,l4,l5⟩⟩,hN,⟨p1,p2,p3⟩,⟨q1,q2,q3,q4,q5,q6,q7⟩,⟨u1,u2,u3,u4,u5,u6⟩,⟨v1,v2,v3,v4,v5⟩,⟨w1,w2,w3⟩⟩:=hB3
   have c1:=hS.lt a1
   have c2:=hB2.add.sb.lt hB2.add.gbox
   have c3:=hB2.add.sb.lt hB2.add.box
   have c4:=hB2.add.sb.lt hB2.add.to.arr
   have c5:=hB2.add.sb.lt hB2.add.fr.arr
   have c6:=hB2.add.sb.lt hB2.nums.box
   have c7:=hB2.add.sb.lt hB2.nums.vals
   have c8:=hB2.add.sb.lt hB2.nums.known
   have hom:own' s4.c = none:=by
    cases ho:own' s4.c with
    | none=>rfl
    | some u=>have:=(hB2.add.owned _ u ho).2; omega
   have hown4:∀ q u,own' q = some u→q < s4.c:=fun q u hq=>(hB2.add.owned q u hq).2
   have hV:VisG b own' g nt s4.c (adds fnd obs rts).1 xs' (.sl nf 1 0 (adds fnd obs rts).2.length) (.ptr np 0) (.sc dZ) (List.range (obs.length + 1)) [] t:=⟨hS,a3,.inl ⟨rfl,rfl⟩,a4,.inl hm,a6,b3,b4,hom,n8,by omega,by omega,l3,l4,by omega⟩
   replace G:=bw g3 (bw g4 g8)
   refine az (aq ?_)
   refine qL ?_
   refine qV ?_
   refine qV ?_
   refine qC (hC:=agj (fun l hl=>by have:=hu2.1 l hl; omega) f obs.length (List.range (obs.length + 1)) [] us' ord' (.sc dZ) t hvis (by omega) hV) (h:=?_)
   intro v7 s7 hq7
   obtain ⟨xo',hV',hKV⟩:=hq7
   refine aX ?_
   dsimp only [aQ]
   have hS':=hV'.sb
   have hkv:∀ k,k < s4.c→k ≠ g→s7.h.get k = t.h.get k:=fun k hk1 hk2=>hKV.2.1 k (by omega) hk2 (by omega) (fun l e=>by cases e)
   have hcv:=hKV.1
   replace a2:=(hkv _ c2 n5).trans a2
   have hgb:=hV'.box
   have hlo':=JJ f _ _ _ _ hvis
   rcases hV'.ord with ⟨_,h0⟩ | ⟨no,hx,hno,r1,r2,r3,r4,r5⟩
   ·rw [h0] at hlo'; simp at hlo'
   subst hx
   have hnoc:t.c≤no:=by
    rcases hKV.2.2 with h | ⟨n',l',h,h'⟩
    ·cases h
    ·cases h; exact h'
   have hno7:=hS'.lt hno
   have hon:own' no = none:=r2
   replace G:=bw g3 (bw g4 g8)
   refine az (aq ?_)
   refine qLL ?_
   refine qPL ?_
   refine qPL ?_
   refine qLL ?_
   refine qCL (hC:=RZ hS' hno r1 (by rw [List.length_map]; omega)) (h:=?_)
   intro v8 s8 hq8
   obtain ⟨hS8,hno8,hc8,hk8⟩:=hq8
   refine aX ?_
   dsimp only [aQ]
   rw [← List.map_reverse] at hno8
   have hkr:∀ k,k < s4.c→k ≠ g→s8.h.get k = t.h.get k:=fun k h1 h2=>by rw [hk8 k (by omega)]; exact hkv k h1 h2
   replace a2:=(hk8 _ (by omega)).trans a2
   replace hgb:=(hk8 _ (by omega)).trans hgb
   have hN8:Nums s8.h.get np nv nk (List.replicate (obs.length + 1) 0) (List.replicate (obs.length + 1) false):=hN.keep (hkr _ c6 q3) (hkr _ c7 u3) (hkr _ c8 v3)
   have ht8:Rows s8.h.get own' 0 nt (adds fnd obs rts).1 xs':=a4.keep (hkr _ c4 (Ne.symm n8)) (fun n i hn=>hkr n (hown4 n _ hn) (fun e=>by rw [e,b3] at hn; simp at hn))
   have hf8:Rows s8.h.get own' 1 nf (adds fnd obs rts).2 xf':=a5.keep (hkr _ c5 (Ne.symm n9)) (fun n i hn=>hkr n (hown4 n _ hn) (fun e=>by rw [e,b3] at hn; simp at hn))
   have hf0:∀ k,k < s.c→s8.h.get k = s.h.get k:=fun k hk1=>(hkr k (by have:=hK2.1; omega) (by have:=hlo.1; omega)).trans (hK3.2 k hk1).2
   have hlr:ord'.reverse.length = ord'.length:=List.length_reverse
   try clear G
   clear hkv hkr hV' hKV hk8 hno hV hm a1 a3 a4 a5 hN hB2 hK2 hk hS
   generalize hrev:ord'.reverse = ro at *
   refine fW (fun Γ t=>look Γ 4 = .c (.ptr gb 0)∧∃ vs ks,(vs,ks) = iz 0 ro (List.replicate (obs.length + 1) 0,List.replicate (obs.length + 1) false)∧Sb b t∧t.c = s8.c∧Nums t.h.get np nv nk vs ks∧∀ k,k ≠ nv→k ≠ nk→t.h.get k = s8.h.get k) ?_ ?_
   ·skip
    replace G:=bw g3 (bw g4 g8)
    refine az (aq ?_)
    refine qL ?_
    refine qP ?_
    refine qP ?_
    refine qL ?_
    refine qP ?_
    refine qV ?_
    refine aX ?_
    dsimp only [aQ]
    refine dz (uJ (fun Γ t=>look Γ 4 = .c (.ptr gb 0)∧look Γ 67 = .c (.sl no 1 0 ord'.length)∧look Γ 68 = iV (ord'.length:Int)∧∃ (j:Nat) (vs:List Nat) (ks:List Bool),look Γ 69 = iV (j:Int)∧j≤ro.length∧iz j (ro.drop j) (vs,ks) = iz 0 ro (List.replicate (obs.length + 1) 0,List.replicate (obs.length + 1) false)∧vs.length = obs.length + 1∧ks.length = obs.length + 1∧Sb b t∧t.c = s8.c∧Nums t.h.get np nv nk vs ks∧∀ k,k ≠ nv→k ≠ nk→t.h.get k = s8.h.get k) (fun Γ _=>match look Γ 69 with
     | .c (.sc (.int _ i))=>ro.length - i.toNat
     | _=>0) ⟨lk,lk,lk,0,_,_,lk,Nat.zero_le _,rfl,mw,mw,hS8,rfl,hN8,fun _ _ _=>rfl⟩ ?_)
    try clear G
    clear g3 g4 g8 Γ
    rintro Γ t2 ⟨g4,g67,g68,j,vs,ks,g69,hj,hpl,hvl,hkl,hS,hc2,hN,hk2⟩
    replace G:=bw g4 (bw g67 (bw g68 g69))
    refine az (aq ?_)
    refine qP ?_
    refine aX ?_
    dsimp only [aQ]
    by_cases hjl:j < ro.length
    ·refine az (bQ (t:=true) ?_ (eW ?_))
     ·simp only [kq,cq,qw,isB,bV,scV]
      rw [decide_eq_true (by omega)]
     dsimp only [aQ]
     obtain ⟨i,hi⟩ : ∃ i,ro[j]? = some i:=⟨_,ck hjl⟩
     have hdrop:ro.drop j = i :: ro.drop (j + 1):=by
      rw [List.drop_eq_getElem_cons hjl]
      rw [ck hjl] at hi
      cases hi; rfl
     rw [hdrop] at hpl
     simp only [iz] at hpl
     have hcell:(ro.map nI)[j]? = some (nI i):=by rw [gw,hi]; rfl
     have hil:i < obs.length + 1:=by
      refine hord i ?_
      rw [← List.mem_reverse,hrev]
      exact iw hi
     have k1:t2.h.get gb = _:=(hk2 _ (by omega) (by omega)).trans a2
     have k2:t2.h.get g = _:=(hk2 _ (by omega) (by omega)).trans hgb
     have k3:t2.h.get no = _:=(hk2 _ (by omega) (by omega)).trans hno8
     refine fW (fun Γ t=>look Γ 4 = .c (.ptr gb 0)∧look Γ 67 = .c (.sl no 1 0 ord'.length)∧look Γ 68 = iV (ord'.length:Int)∧look Γ 69 = iV (j:Int)∧Sb b t∧t.c = s8.c∧Nums t.h.get np nv nk (vs.set i j) (ks.set i true)∧∀ k,k ≠ nv→k ≠ nk→t.h.get k = s8.h.get k) (dz ?_) ?_
     ·have hj2:j < ord'.length:=by omega
      replace G:=bw g4 (bw g67 (bw g68 g69))
      refine az (aq ?_)
      refine qV ?_
      refine qX ?_
      refine qL ?_
      refine qV ?_
      refine qV ?_
      refine aX ?_
      dsimp only [aQ]
      refine aq ?_
      refine qL ?_
      refine qP ?_
      refine qP ?_
      refine qL ?_
      refine qV ?_
      refine qV ?_
      refine qC (hC:=Ux hS hN ⟨w1,w2,w3⟩ ⟨q6,q7,u6⟩ (by omega) (by omega)) (h:=?_)
      intro v9 s9 hq9
      obtain ⟨hS',hN',hc',hk'⟩:=hq9
      refine aX ?_
      try dsimp only [aQ]
      exact ⟨lk,lk,lk,lk,hS',by omega,hN',fun k h1 h2=>(hk' k h1 h2).trans (hk2 k h1 h2)⟩
     ·try clear G
      clear g4 g67 g68 k1 k2 k3 hN hk2 hS hc2
      rintro Γ2 t3 ⟨g4,g67,g68,k69,hS,hc2,hN,hk2⟩
      replace G:=bw g4 (bw g67 (bw g68 k69))
      refine aq ?_
      refine qP ?_
      refine qV ?_
      refine aX ?_
      try dsimp only [aQ]
      refine ⟨⟨lk,lk,lk,j + 1,_,_,?_,by omega,hpl,by rw [uw]; exact hvl,by rw [uw]; exact hkl,hS,hc2,hN,hk2⟩,?_⟩
      ·simp only [evS,Nat.reduceEqDiff,reduceIte]
       rw [wr (by omega) (by omega)]; rfl
      ·simp only [evS,Nat.reduceEqDiff,reduceIte,g69,iV]
       rw [wr (by omega) (by omega)]
       omega
    ·refine az (bQ (t:=false) ?_ (ox ?_))
     ·simp only [kq,cq,qw,isB,bV,scV]
      rw [vk (by omega)]
     have hjl:j = ro.length:=by omega
     rw [hjl,List.drop_length] at hpl
     simp only [iz] at hpl
     simp only [aQ,Nat.beq_refl,cond_true]
     exact ⟨(by simp only [evS,Nat.reduceEqDiff,reduceIte,g4,g67,g68,g69]; try rfl),vs,ks,hpl,hS,hc2,hN,hk2⟩
   ·try clear G
    clear g3 g4 g8 Γ
    rintro Γ t2 ⟨g4,vs,ks,hpl,hS,hc2,hN,hk2⟩
    have k1:t2.h.get gb = _:=(hk2 _ (by omega) (by omega)).trans a2
    replace G:=g4
    refine az (aq ?_)
    refine qL ?_
    refine qV ?_
    refine aX ?_
    dsimp only [aQ]
    refine pZ ⟨.inr rfl,[.c (.ptr g 0)],0,HK lk rfl,cY,g,rfl,hS,by have:=hK3.1; omega,fun k hk=>?_,?_⟩
    ·have:=hlo.2.2.2.2
     have:=hf0 k hk
     rw [← this]
     exact hk2 k (by omega) (by omega)
    ·rw [← hpl]
     refine ⟨own',nt,nf,no,np,nv,nk,xs',xf',?_,ht8.keep (hk2 _ (by omega) (by omega)) (fun n i hn=>hk2 n (fun e=>by rw [e,p2] at hn; simp at hn) (fun e=>by rw [e,p3] at hn; simp at hn)),hf8.keep (hk2 _ (by omega) (by omega)) (fun n i hn=>hk2 n (fun e=>by rw [e,p2] at hn; simp at hn) (fun e=>by rw [e,p3] at hn; simp at hn)),(hk2 _ (by omega) (by omega)).trans hno8,hN,fun n u hn=>⟨(a6 n u hn).1,by have:=hown4 n u hn; omega⟩,⟨by omega,by omega,by omega,by omega,by omega,by omega,by omega⟩,⟨by omega,by omega,by omega,by omega,by omega,by omega,by omega⟩⟩
     rw [hk2 _ (by omega) (by omega),hlr]
     exact hgb
end Go.RM
namespace Go.RM
open Go.VM (T mV tI)
set_option maxHeartbeats 4000000 in
theorem aFx {orc:bZ} {b:Nat} {s:S} (hS:Sb b s) {n len:Nat} {xs:List X} (hn:s.h.get n = some (.cells AV xs)) (hl:len≤xs.length) (hr:len≤1000000) :
  Cp orc p_T kz [.c (.sl n 1 0 len)] s (fun k=>k = n∨s.c≤k) True fun v s'=>∃ m,v = .c (.sl m 1 0 len)∧Sb b s'∧s.c≤s'.c∧s.c≤m∧s'.h.get m = some (.cells AV (xs.take len))∧∀ k,k < s.c→s'.h.get k = s.h.get k:=by
 have hlt:=hS.lt hn
 have hle:=hS.le
 refine k8 (rf:=gV) rfl ?_
 unfold gV
 obtain ⟨Γ,hΓ⟩ : ∃ Γ,Γ = ofL [V.c (.sl n 1 0 len)] 0 .lf:=⟨_,rfl⟩
 have g0:look Γ 0 = .c (.sl n 1 0 len):=by rw [hΓ]; rfl
 rw [← hΓ]
 try clear G
 clear hΓ
 replace G:=g0
 refine az (aq ?_)
 refine qV ?_
 refine aX ?_
 dsimp only [aQ]
 refine az (az (aq ?_))
 refine dq rfl ayq ?_
 refine dq (v:=bV false) rfl (by simp only [bJ,evS,Nat.reduceEqDiff,reduceIte,g0]; rfl) ?_
 refine aX ?_
 dsimp only [aQ]
 refine bQ (t:=false) ?_ (eW ?_)
 ·simp only [evS,reduceIte]; rfl
 dsimp only [aQ]
 have hc:cut xs 0 (len * 1) = some (xs.take len):=by
  unfold cut
  simp only [List.drop_zero,Nat.mul_one,List.length_take]
  rw [show min len xs.length = len by omega,Nat.beq_refl]
  rfl
 refine az (aq ?_)
 refine oY rfl (MS.bsl hS (cs:=[]) rfl) (fun k hk=>by first | (dsimp only at hk ⊢; omega) | omega) ?_
 refine ej hS ?_
 intro s1 hst1 hsc1 hS1
 replace hn:=hst1.at hn (by omega)
 have hn1:=hst1.self
 refine dq rfl (by simp only [evS,Nat.reduceEqDiff,reduceIte,g0,bJ]; try rfl) ?_
 by_cases h0:len = 0
 ·subst h0
  have G:=g0
  refine oY rfl (MS.app_zero aK hn1 rfl aK hn rfl) (fun k hk=>by first | (dsimp only at hk ⊢; omega) | omega) ?_
  refine dq rfl (by simp only [evS,Nat.reduceEqDiff,reduceIte,g0,bJ]; try rfl) ?_
  refine aX ?_
  dsimp only [aQ]
  refine pZ ⟨.inr rfl,_,0,HK (by simp only [evS,Nat.reduceEqDiff,reduceIte,g0]; try rfl) rfl,cY,s.c,rfl,hS1,by omega,by omega,hn1,fun k hk=>hst1.keep k (by omega)⟩
 ·have G:=g0
  refine oY rfl (MS.app_own hS1 aK hn1 rfl aK hn hc (by rw [Z3,vk h0]) (by rw [Nat.zero_add]; exact ayJ hr)) (fun k hk=>by first | (dsimp only at hk ⊢; omega) | omega) ?_
  refine ZK hS1 (by omega) (by omega) ?_
  intro s2 hst2 hS2
  refine dq rfl (by simp only [evS,Nat.reduceEqDiff,reduceIte,g0,bJ]; try rfl) ?_
  refine aX ?_
  dsimp only [aQ]
  have hc2:=hst2.c
  refine pZ ⟨.inr rfl,_,0,HK (by simp only [evS,Nat.reduceEqDiff,reduceIte,g0]; try rfl) rfl,cY,s1.c,by rw [Nat.zero_add]; rfl,hS2,by omega,by omega,hst2.self,fun k hk=>by rw [hst2.keep k (by omega) (by omega)]; exact hst1.keep k (by omega)⟩
def lV (orc:bZ) (rows roots:List (List T)) (e:Int):Prop :=
 ∀ s,Cp orc p_T i3 [.agg [.im 4 rows,.im 1 roots]] s (fun _=>False) True fun v s'=>s = s'∧v = iV e
structure AW (orc:bZ) (obs:List HO) (rts:List Int) (to fr:List (List Nat)) (ord vals:List Nat) (known:List Bool):Prop where
 cp:∀ (b:Nat) (s:S),Sb b s→Cp orc p_T k9 [.agg [.im 4 (obs.map eQ),.im 1 (rts.map fY)]] s (fun k=>b≤k) True fun v s'=>∃ g,v = .c (.ptr g 0)∧Sb b s'∧s.c≤s'.c∧(∀ k,k < s.c→s'.h.get k = s.h.get k)∧Graph b s'.c g to fr ord vals known s'.h.get
 tol:to.length = obs.length + 1
 frl:fr.length = obs.length + 1
 vl:vals.length = obs.length + 1
 kl:known.length = obs.length + 1
 small:obs.length≤60
set_option maxHeartbeats 4000000 in
theorem axX {orc:bZ} {b:Nat} {s:S} (hS:Sb b s) {rows roots:List (List T)} {e:Int} (hc:lV orc rows roots e) (he:e ≠ 0) :
  Cp orc p_T p8 [.agg [.im 4 rows,.im 1 roots]] s (fun k=>b≤k) True fun v s'=>v = .tup [.c (.sc dZ),iV e]:=by
 have hle:=hS.le
 refine k8 (rf:=qz) rfl ?_
 unfold qz
 obtain ⟨Γ,hΓ⟩ : ∃ Γ,Γ = ofL [V.agg [.im 4 rows,.im 1 roots]] 0 .lf:=⟨_,rfl⟩
 have g0:look Γ 0 = .agg [.im 4 rows,.im 1 roots]:=by rw [hΓ]; rfl
 rw [← hΓ]
 try clear G
 clear hΓ
 replace G:=g0
 refine az (aq ?_)
 refine oY rfl (MS.box hS zj) cK ?_
 refine ej hS ?_
 intro s1 hst1 hsc1 hS1
 have hn1:=hst1.self
 refine qV ?_
 refine qV ?_
 refine aX ?_
 dsimp only [aQ]
 refine az (az ?_)
 refine aq ?_
 refine qA ?_
 refine qC (hC:=hc s1) (h:=?_)
 intro v2 s2 hq2
 obtain ⟨rfl,rfl⟩:=hq2
 refine qV ?_
 refine aX ?_
 try dsimp only [aQ]
 refine az (aq ?_)
 refine qV ?_
 refine qP ?_
 refine aX ?_
 dsimp only [aQ]
 refine bQ (t:=true) ?_ ?_
 ·simp only [evS,Nat.reduceEqDiff,reduceIte]
  rw [vk he]
  rfl
 dsimp only [cond_true]
 refine az (aq ?_)
 refine qV ?_
 refine qV ?_
 refine qV ?_
 refine aX ?_
 dsimp only [aQ]
 refine pZ ?_
 exact ⟨.inr rfl,[.c (.sc dZ),iV e],0,by simp only [tK,evS,Nat.reduceEqDiff,reduceIte]; rfl,cY,rfl⟩
set_option maxHeartbeats 4000000 in
theorem ayj {orc:bZ} {b:Nat} {s:S} (hS:Sb b s) {obs:List HO} {rts:List Int} {to fr:List (List Nat)} {ord vals:List Nat} {known:List Bool} (hB:AW orc obs rts to fr ord vals known) (hc:lV orc (obs.map eQ) (rts.map fY) 0) :
  Cp orc p_T p8 [.agg [.im 4 (obs.map eQ),.im 1 (rts.map fY)]] s (fun k=>b≤k) True fun v s'=>∃ m,v = .tup [.c (.sl m 1 0 obs.length),iV 0]∧s'.h.get m = some (.cells AV ((known.take obs.length).map bI)):=by
 have hle:=hS.le
 refine k8 (rf:=qz) rfl ?_
 unfold qz
 obtain ⟨Γ,hΓ⟩ : ∃ Γ,Γ = ofL [V.agg [.im 4 (obs.map eQ),.im 1 (rts.map fY)]] 0 .lf:=⟨_,rfl⟩
 have g0:look Γ 0 = .agg [.im 4 (obs.map eQ),.im 1 (rts.map fY)]:=by rw [hΓ]; rfl
 rw [← hΓ]
 try clear G
 clear hΓ
 replace G:=g0
 refine az (aq ?_)
 refine oY rfl (MS.box hS zj) cK ?_
 refine ej hS ?_
 intro s1 hst1 hsc1 hS1
 have hn1:=hst1.self
 refine qV ?_
 refine qV ?_
 refine aX ?_
 dsimp only [aQ]
 refine az (az ?_)
 refine aq ?_
 refine qA ?_
 refine qC (hC:=hc s1) (h:=?_)
 intro v2 s2 hq2
 obtain ⟨rfl,rfl⟩:=hq2
 refine qV ?_
 refine aX ?_
 try dsimp only [aQ]
 refine az (aq ?_)
 refine qV ?_
 refine qP ?_
 refine aX ?_
 dsimp only [aQ]
 refine bQ (t:=false) ?_ (eW ?_)
 ·simp only [evS,Nat.reduceEqDiff,reduceIte]; rfl
 dsimp only [aQ]
 have hkn:=hB.kl
 have hsm:=hB.small
 replace G:=g0
 refine az (sj rfl ?_)
 refine Az rfl ajx cK (fun x hx=>by simp at hx) ?_
 refine LJ (fun k => s1.c ≤ k) rfl abK hS1 cK (by intro x hx; simp only [List.nil_append,List.cons_append,qk,List.not_mem_nil,or_false] at hx; rcases hx with rfl <;> first | exact .inl (by dsimp only; decide) | (refine .inr fun k => ?_; refine ⟨?_,?_,?_⟩ <;> (intro hk; (try dsimp only at hk); first | exact hk.1.elim | exact hk.2.elim | omega))) (Cp.mono (hB.cp s1.c _ (Sb.zero hS1 (ik _))) (fun _ h => h) (fun h => h) ?_)
 intro v3 s3 hq3
 obtain ⟨g,rfl,hSg,hcg,hkg,hG⟩:=hq3
 refine ⟨hSg,fun j h1 _=>h1,?_⟩
 intro σ e1 e2 hSσ
 rw [← e1] at hkg hG
 rw [← e2] at hG hcg
 have hkg:∀ k,k < s1.c→σ.h.get k = s1.h.get k:=hkg
 have hcg:s1.c≤σ.c:=hcg
 replace hn1:σ.h.get _ = _:=(hkg _ (by omega)).trans hn1
 obtain ⟨own,nt,nf,no,np,nv,nk,xs,xf,q1,_,_,_,q5,_,⟨v1,_,_,_,v5,_,v7⟩,⟨u1,_,_,_,u5,_,u7⟩⟩:=hG.ex
 have q51:=q5.box
 have q53:=q5.known
 clear e1 e2 hSg
 refine rPL ?_
 refine rPL ?_
 refine rLL ?_
 refine rPL ?_
 refine rPL ?_
 refine rLL ?_
 refine rPL ?_
 refine rLL ?_
 refine rPL ?_
 refine uX rfl (by first | exact RW  iW iW (by omega) | (simp only [evS,Nat.reduceEqDiff,reduceIte,PU,bJ,scV,bV,iV,dZ,isB,isI,pX,wQ,mkV,List.length_map,G]; rfl)) ?_
 refine LJ (fun k => k = nk ∨ σ.c ≤ k) rfl abK hSσ cK (by intro x hx; simp only [List.nil_append,List.cons_append,qk,List.not_mem_nil,or_false] at hx; rcases hx with rfl | rfl | rfl | rfl | rfl <;> first | exact .inl (by dsimp only; decide) | (refine .inr fun k => ?_; refine ⟨?_,?_,?_⟩ <;> (intro hk; (try dsimp only at hk); first | exact hk.1.elim | exact hk.2.elim | omega))) (Cp.mono (aFx (Sb.zero hSσ (ik _)) (n := nk) (len := obs.length) q53 (by rw [List.length_map,hkn]; omega) (by omega)) (fun _ h => h) (fun h => h) ?_)
 intro v4 s4 hq4
 obtain ⟨m,rfl,hSm,hcm,hm0,hm,hkm⟩:=hq4
 refine ⟨hSm,fun j h1 _=>.inr h1,?_⟩
 intro τ e1 e2 hSτ
 rw [← e1] at hm
 refine rVL ?_
 refine rVL ?_
 refine wz ?_
 dsimp only [aQ]
 refine pZ ?_
 refine ⟨.inr rfl,[.c (.sl m 1 0 obs.length),iV 0],0,by simp only [tK,evS,Nat.reduceEqDiff,reduceIte]; rfl,cY,m,rfl,?_⟩
 rw [hm,List.map_take]
end Go.RM
namespace Go.RM
open Go.VM (T mV tI)
def xZ:Nat→List Nat→List Nat→Nat→Nat→Option Nat
 | 0,_,_,_,_=>none
 | f + 1,pl,dv,a,b=>if a = b then some a else match pl[a]?,pl[b]? with
  | some pa,some pb=>if pa < pb then (dv[b]?).bind fun c=>xZ f pl dv c a else (dv[a]?).bind fun c=>xZ f pl dv c b
  | _,_=>none
theorem KV {orc:bZ} {T:Tr RF} {F:Nat→Prop} {D:Prop} {Q:Ex→Tr V→S→Prop} {c:RC} {Γ:Tr V} {s:S} (I:Nat→Tr V→S→Prop) (n:Nat) (hI:I n Γ s) (h:∀ n Γ s,I n Γ s→Wp orc T c Γ s F D (aQ (fun Γ' s'=>∃ m,m < n∧I m Γ' s') Q)):Wp orc T (.loop c) Γ s F D Q:=by
 have key:∀ k n Γ s,n < k→I n Γ s→Wp orc T (.loop c) Γ s F D Q:=by
  intro k
  induction k with
  | zero=>intro n Γ s hn; omega
  | succ k ih =>
   intro n Γ s hn hI
   refine acz (Wp.mono (h n Γ s hI) (fun _ h=>h) (fun h=>h) fun e Γ' s' hq=>?_)
   cases e with
   | normal =>
    obtain ⟨m,hm,hI'⟩:=hq
    exact ih m Γ' s' (by omega) hI'
   | _=>exact hq
 exact key _ n Γ s (Nat.lt_succ_self _) hI
set_option maxHeartbeats 4000000 in
theorem avV {orc:bZ} {b0:Nat} {s:S} (hS:Sb b0 s) {g pd np nv nk mv mk:Nat} {x1 x2 x3:X} {pl dv:List Nat} {kn dk:List Bool} (hg:s.h.get g = some (.cells qY [x1,x2,x3,.ptr np 0])) (hN:Nums s.h.get np nv nk pl kn) (hD:Nums s.h.get pd mv mk dv dk) (hb:b0≤g∧b0≤np∧b0≤nv∧b0≤pd∧b0≤mv) {f a b c:Nat} (hf:xZ f pl dv a b = some c) :
  Cp orc p_T o7 [.c (.ptr g 0),.c (.ptr pd 0),iV (a:Int),iV (b:Int)] s (fun k=>b0≤k) True fun v s'=>s = s'∧v = iV (c:Int):=by
 obtain ⟨hb1,hb2,hb3,hb4,hb5⟩:=hb
 have h1:=hN.box
 have h2:=hN.vals
 have h3:=hD.box
 have h4:=hD.vals
 refine k8 (rf:=lW) rfl ?_
 unfold lW
 obtain ⟨Γ,hΓ⟩ : ∃ Γ,Γ = ofL [V.c (.ptr g 0),.c (.ptr pd 0),iV (a:Int),iV (b:Int)] 0 .lf:=⟨_,rfl⟩
 have g0:look Γ 0 = .c (.ptr g 0):=by rw [hΓ]; rfl
 have g1:look Γ 1 = .c (.ptr pd 0):=by rw [hΓ]; rfl
 have g2:look Γ 2 = iV (a:Int):=by rw [hΓ]; rfl
 have g3:look Γ 3 = iV (b:Int):=by rw [hΓ]; rfl
 rw [← hΓ]
 try clear G
 clear hΓ
 replace G:=bw g0 (bw g1 (bw g2 g3))
 refine az (aq ?_)
 refine qV ?_
 refine aX ?_
 dsimp only [aQ]
 refine fW (fun Γ t=>s = t∧look Γ 2 = iV (c:Int)) (dz ?_) ?_
 ·skip
  refine KV (fun f Γ t=>s = t∧∃ a b:Nat,xZ f pl dv a b = some c∧look Γ 0 = .c (.ptr g 0)∧look Γ 1 = .c (.ptr pd 0)∧look Γ 2 = iV (a:Int)∧look Γ 3 = iV (b:Int)) f ⟨rfl,a,b,hf,lk,lk,lk,lk⟩ ?_
  try clear G
  clear g0 g1 g2 g3 hf a b f Γ
  rintro f Γ t ⟨rfl,a,b,hf,g0,g1,g2,g3⟩
  cases f with
  | zero=>simp [xZ] at hf
  | succ f =>
    simp only [xZ] at hf
    refine az (az ?_)
    replace G:=bw g0 (bw g1 (bw g2 g3))
    refine aq ?_
    refine qV ?_
    refine qV ?_
    refine qP ?_
    refine aX ?_
    try dsimp only [aQ]
    by_cases hab:a = b
    ·rw [if_pos hab] at hf
     cases hf
     refine bQ (t:=false) ?_ (ox ?_)
     ·simp only [evS,reduceIte,isB]
      rw [decide_eq_true (by omega)]; rfl
     simp only [aQ,Nat.beq_refl,cond_true]
     exact ⟨trivial,(by simp only [evS,Nat.reduceEqDiff,reduceIte,g0,g1,g2,g3]; try rfl)⟩
    ·rw [if_neg hab] at hf
     refine bQ (t:=true) ?_ (eW ?_)
     ·simp only [evS,reduceIte,isB]
      rw [vk (by omega)]; rfl
     dsimp only [aQ]
     split at hf
     ·rename_i pa pb ha hpb
      have hal:=(cw.1 ha).1
      have hbl:=(cw.1 hpb).1
      have ha':(pl.map nI)[a]? = some (nI pa):=by rw [gw,ha]; rfl
      have hb':(pl.map nI)[b]? = some (nI pb):=by rw [gw,hpb]; rfl
      refine dz ?_
      split at hf
      ·rename_i hlt
       obtain ⟨d,hd,hf⟩:=ak.1 hf
       have hdl:=(cw.1 hd).1
       have hd':(dv.map nI)[b]? = some (nI d):=by rw [gw,hd]; rfl
       refine az (az ?_)
       replace G:=bw g0 (bw g1 (bw g2 g3))
       refine sj rfl ?_
       refine rV ?_
       refine rP ?_
       refine rP ?_
       refine Az rfl G4 cK (fun x hx=>by simp at hx) ?_
       refine rP ?_
       refine rP ?_
       refine rL ?_
       refine rV ?_
       refine rX ?_
       refine rL ?_
       refine rV ?_
       refine rP ?_
       refine rP ?_
       refine rL ?_
       refine rP ?_
       refine rP ?_
       refine rL ?_
       refine rV ?_
       refine rX ?_
       refine rL ?_
       refine rP ?_
       refine wz ?_
       try dsimp only [aQ]
       refine bQ (t:=true) ?_ ?_
       ·simp only [evS,Nat.reduceEqDiff,reduceIte,isB]
        rw [decide_eq_true (by omega)]; rfl
       dsimp only [cond_true]
       refine aq ?_
       refine qV ?_
       refine qV ?_
       refine qV ?_
       refine qV ?_
       refine aX ?_
       try dsimp only [aQ]
       refine aq ?_
       refine qV ?_
       refine qP ?_
       refine qP ?_
       refine qL ?_
       refine qV ?_
       refine qX ?_
       refine qL ?_
       refine qV ?_
       refine aX ?_
       try dsimp only [aQ]
       exact ⟨f,Nat.lt_succ_self f,rfl,d,a,hf,lk,lk,lk,lk⟩
      ·rename_i hlt
       obtain ⟨d,hd,hf⟩:=ak.1 hf
       have hdl:=(cw.1 hd).1
       have hd':(dv.map nI)[a]? = some (nI d):=by rw [gw,hd]; rfl
       refine az (az ?_)
       replace G:=bw g0 (bw g1 (bw g2 g3))
       refine sj rfl ?_
       refine rV ?_
       refine rP ?_
       refine rP ?_
       refine Az rfl G4 cK (fun x hx=>by simp at hx) ?_
       refine rP ?_
       refine rP ?_
       refine rL ?_
       refine rV ?_
       refine rX ?_
       refine rL ?_
       refine rV ?_
       refine rP ?_
       refine rP ?_
       refine rL ?_
       refine rP ?_
       refine rP ?_
       refine rL ?_
       refine rV ?_
       refine rX ?_
       refine rL ?_
       refine rP ?_
       refine wz ?_
       try dsimp only [aQ]
       refine bQ (t:=false) ?_ (eW ?_)
       ·simp only [evS,Nat.reduceEqDiff,reduceIte,isB]
        rw [vk (by omega)]; rfl
       dsimp only [aQ]
       refine aq ?_
       refine qV ?_
       refine qP ?_
       refine qP ?_
       refine qL ?_
       refine qV ?_
       refine qX ?_
       refine qL ?_
       refine qV ?_
       refine aX ?_
       try dsimp only [aQ]
       exact ⟨f,Nat.lt_succ_self f,rfl,d,b,hf,lk,lk,lk,lk⟩
     ·simp at hf
 ·rintro Γ t ⟨rfl,g2⟩
  replace G:=g2
  refine az (aq ?_)
  refine qV ?_
  refine qV ?_
  refine aX ?_
  dsimp only [aQ]
  exact pZ ⟨.inr rfl,[iV (c:Int)],0,HK lk rfl,cY,rfl,rfl⟩
end Go.RM
namespace Go.RM
open Go.VM (T mV tI)
def bst:Option Nat→V
 | none=>iV (-1)
 | some k=>iV (k:Int)
def TY (F:Nat) (pl dv:List Nat) (dk:List Bool) (best:Option Nat) (k:Nat):Option (Option Nat):=match dk[k]? with
 | none=>none
 | some false=>some best
 | some true=>match best with
  | none=>some (some k)
  | some b=>(xZ F pl dv b k).map some
abbrev DSt:=(List Nat × List Bool) × Bool
def OJ (F:Nat) (pl:List Nat) (fr:List (List Nat)) (p:DSt) (i:Nat):Option DSt:=match fr[i]? with
 | none=>none
 | some l=>match l.foldlM (TY F pl p.1.1 p.1.2) none with
  | some (some best)=>match p.1.2[i]?,p.1.1[i]? with
   | some true,some v=>if v = best then some p else some ((p.1.1.set i best,p.1.2.set i true),true)
   | some false,some _=>some ((p.1.1.set i best,p.1.2.set i true),true)
   | _,_=>none
  | _=>none
def Vz (F:Nat) (pl:List Nat) (fr:List (List Nat)) (ord:List Nat):Nat→List Nat × List Bool→Option (List Nat × List Bool)
 | 0,_=>none
 | f + 1,p=>match (ord.drop 1).foldlM (OJ F pl fr) (p,false) with
  | none=>none
  | some (q,true)=>Vz F pl fr ord f q
  | some (q,false)=>some q
structure T2 (b pd mv mk:Nat) (t1 t:S) (dv:List Nat) (dk:List Bool):Prop where
 sb:Sb b t
 c:t.c = t1.c
 nums:Nums t.h.get pd mv mk dv dk
 keep:∀ k,k ≠ mv→k ≠ mk→t.h.get k = t1.h.get k
set_option maxHeartbeats 8000000 in
theorem U6 {orc:bZ} {b:Nat} {s:S} (hS:Sb b s) {g:Nat} {to fr:List (List Nat)} {ord pl:List Nat} {kn:List Bool} (hG:Graph b s.c g to fr ord pl kn s.h.get) (hlt:to.length≤1000) (hol:ord.length≤1000) (hfl:∀ l∈fr,l.length≤1000000) {root:Nat} (hroot:ord[0]? = some root) (hrl:root < to.length) {F f:Nat} {dvF:List Nat} {dkF:List Bool}
  (hdom:Vz F pl fr ord f ((List.replicate to.length 0).set root root,(List.replicate to.length false).set root true) = some (dvF,dkF)) :
  Cp orc p_T e9 [.c (.ptr g 0)] s (fun k=>b≤k) True fun v s'=>∃ pd mv mk,v = .c (.ptr pd 0)∧Sb b s'∧s.c≤s'.c∧Nums s'.h.get pd mv mk dvF dkF∧(s.c≤pd∧s.c≤mv∧s.c≤mk)∧∀ k,k < s.c→s'.h.get k = s.h.get k:=by
 obtain ⟨own,nt,nf,no,np,nv,nk,xs,xf,hg,hto,hfr,hno,hN,hown,⟨v1,v2,v3,v4,v5,v6,v7⟩,⟨u1,u2,u3,u4,u5,u6,u7⟩⟩:=hG.ex
 have hle:=hS.le
 refine k8 (rf:=i7) rfl ?_
 unfold i7
 obtain ⟨Γ,hΓ⟩ : ∃ Γ,Γ = ofL [V.c (.ptr g 0)] 0 .lf:=⟨_,rfl⟩
 have g0:look Γ 0 = .c (.ptr g 0):=by rw [hΓ]; rfl
 rw [← hΓ]
 try clear G
 clear hΓ
 replace G:=g0
 refine az (aq ?_)
 refine qV ?_
 refine aX ?_
 dsimp only [aQ]
 refine az (aq ?_)
 refine qV ?_
 refine qP ?_
 refine qP ?_
 refine qL ?_
 refine qP ?_
 refine qC (hC:=Q6 hS to.length (by omega)) (h:=?_)
 intro v1 s1 hq1
 obtain ⟨hS1,pd,mv,mk,rfl,hD,e1,e2,e3,ec,hk1⟩:=hq1
 refine qV ?_
 refine aX ?_
 dsimp only [aQ]
 have hg1:s1.h.get g = _:=(hk1 _ u1).trans hg
 have hno1:s1.h.get no = _:=(hk1 _ u4).trans hno
 have hroot':(ord.map nI)[0]? = some (nI root):=by rw [gw,hroot]; rfl
 have hol0:0 < ord.length:=(cw.1 hroot).1
 refine az (aq ?_)
 refine dq rfl ayq ?_
 refine dq rfl (by simp only [bJ,evS,Nat.reduceEqDiff,reduceIte,g0]; rfl) ?_
 refine dq rfl (by simp only [bJ,evS,Nat.reduceEqDiff,reduceIte,g0]; rfl) ?_
 refine oY rfl (MS.load1 (by simp only [evS,Nat.reduceEqDiff,reduceIte,g0]; try rfl) hg1 rfl) (fun k hk=>by first | (dsimp only at hk ⊢; omega) | omega) ?_
 have G:=g0
 refine dq rfl (aCZ (j:=0) aK aK hol0) ?_
 refine oY rfl (MS.load1 (by simp only [evS,Nat.reduceEqDiff,reduceIte,g0]; try rfl) hno1 hroot') (fun k hk=>by first | (dsimp only at hk ⊢; omega) | omega) ?_
 refine dq rfl (by simp only [evS,Nat.reduceEqDiff,reduceIte,g0,bJ]; try rfl) ?_
 refine aX ?_
 dsimp only [aQ]
 replace G:=g0
 refine az (aq ?_)
 refine qV ?_
 refine qV ?_
 refine qV ?_
 refine qC (hC:=Ux hS1 hD ⟨by omega,by omega,by omega⟩ ⟨by omega,by omega,by omega⟩ (by rw [mw]; exact hrl) (by rw [mw]; exact hrl)) (h:=?_)
 intro v2 s2 hq2
 obtain ⟨hS2,hD2,hc2,hk2⟩:=hq2
 refine aX ?_
 dsimp only [aQ]
 have hT:T2 b pd mv mk s1 s2 ((List.replicate to.length 0).set root root) ((List.replicate to.length false).set root true):=⟨hS2,hc2,hD2,hk2⟩
 try clear G
 clear hS2 hD2 hc2 hk2 hD
 have bmv:b≤mv:=by omega
 have bmk:b≤mk:=by omega
 have bpd:b≤pd:=by omega
 have dmv:s.c≤mv∧s.c≤mk∧s.c≤pd∧mv < s1.c∧mk < s1.c∧pd < s1.c∧mv ≠ mk∧pd ≠ mv∧pd ≠ mk:=by omega
 have gr:∀ t dv dk,T2 b pd mv mk s1 t dv dk→(∀ k,b≤k→k < s.c→t.h.get k = s.h.get k):=fun t dv dk h k _ hk=>by
  rw [h.keep k (by omega) (by omega)]; exact hk1 k hk
 refine fW (fun Γ t=>look Γ 3 = .c (.ptr pd 0)∧T2 b pd mv mk s1 t dvF dkF) ?_ ?_
 ·skip
  replace G:=g0
  refine az (aq ?_)
  refine qV ?_
  refine aX ?_
  dsimp only [aQ]
  refine dz (KV (fun f Γ t=>look Γ 0 = .c (.ptr g 0)∧look Γ 3 = .c (.ptr pd 0)∧∃ (dv:List Nat) (dk:List Bool) (ch:Bool),look Γ 5 = bV ch∧(if ch = true then Vz F pl fr ord f (dv,dk) = some (dvF,dkF) else (dv,dk) = (dvF,dkF))∧T2 b pd mv mk s1 t dv dk) f ⟨lk,lk,_,_,true,lk,by rw [if_pos rfl]; exact hdom,hT⟩ ?_)
  try clear G
  clear g0 hT hdom f Γ hg1 hno1
  rintro f Γ t ⟨g0,g3,dv,dk,ch,g5,hdom,hT⟩
  refine az (az ?_)
  replace G:=bw g0 (bw g3 g5)
  refine aq ?_
  refine qV ?_
  refine aX ?_
  try dsimp only [aQ]
  cases ch with
  | false =>
   refine bQ (t:=false) (by simp only [evS,reduceIte]; rfl) (ox ?_)
   rw [if_neg (by simp)] at hdom
   cases hdom
   simp only [aQ,Nat.beq_refl,cond_true]
   exact ⟨(by simp only [evS,Nat.reduceEqDiff,reduceIte,g0,g3,g5]; try rfl),hT⟩
  | true =>
   refine bQ (t:=true) (by simp only [evS,reduceIte]; rfl) (eW ?_)
   rw [if_pos rfl] at hdom
   dsimp only [aQ]
   cases f with
   | zero=>simp [Vz] at hdom
   | succ f =>
    simp only [Vz] at hdom
    refine dz ?_
    replace G:=bw g0 (bw g3 g5)
    refine az (aq ?_)
    refine qV ?_
    refine aX ?_
    dsimp only [aQ]
    have hkt:=gr t dv dk hT
    have hS:=hT.sb
    have hgt:t.h.get g = _:=(hkt _ v1 u1).trans hg
    obtain ⟨⟨q,chq⟩,hpass⟩ : ∃ r,(ord.drop 1).foldlM (OJ F pl fr) ((dv,dk),false) = some r:=by
     cases hp:(ord.drop 1).foldlM (OJ F pl fr) ((dv,dk),false) with
     | none=>rw [hp] at hdom; simp at hdom
     | some r=>exact ⟨r,rfl⟩
    rw [hpass] at hdom
    have hfin:(if chq = true then Vz F pl fr ord f q = some (dvF,dkF) else q = (dvF,dkF)):=by
     cases chq with
     | true=>rw [if_pos rfl]; exact hdom
     | false=>rw [if_neg (by simp)]; simpa using hdom
    try clear G
    clear hdom
    have hot:t.h.get no = _:=(hkt _ v4 u4).trans hno
    replace G:=bw g0 (bw g3 g5)
    refine az (aq ?_)
    refine qV ?_
    refine qP ?_
    refine qP ?_
    refine qL ?_
    refine dq rfl (by first | exact alX  (m:=1) aK aK (by omega) | (simp only [evS,Nat.reduceEqDiff,reduceIte,PU,bJ,scV,bV,iV,dZ,isB,isI,pX,wQ,mkV,G]; rfl)) ?_
    refine qP ?_
    refine qV ?_
    refine aX ?_
    dsimp only [aQ]
    refine dz (uJ (fun Γ t=>look Γ 0 = .c (.ptr g 0)∧look Γ 3 = .c (.ptr pd 0)∧look Γ 32 = .c (.sl no 1 (0 + 1) (ord.length - 1))∧look Γ 33 = iV ((ord.length - 1:Nat):Int)∧∃ (j:Nat) (p:DSt),look Γ 34 = iV (j:Int)∧look Γ 5 = bV p.2∧j≤ord.length - 1∧((ord.drop 1).drop j).foldlM (OJ F pl fr) p = some (q,chq)∧T2 b pd mv mk s1 t p.1.1 p.1.2) (fun Γ _=>match look Γ 34 with
     | .c (.sc (.int _ i))=>ord.length - 1 - i.toNat
     | _=>0) ⟨lk,lk,lk,lk,0,_,lk,lk,Nat.zero_le _,hpass,hT⟩ ?_)
    try clear G
    clear g0 g3 g5 hT hgt hot hkt hS hpass Γ
    rintro Γ t ⟨g0,g3,g32,g33,j,p,g34,g5,hj,hfold,hT⟩
    have hkt:=gr t _ _ hT
    have hS:=hT.sb
    have hgt:t.h.get g = _:=(hkt _ v1 u1).trans hg
    have hot:t.h.get no = _:=(hkt _ v4 u4).trans hno
    have hft:Rows t.h.get own 1 nf fr xf:=hfr.keep (hkt _ v3 u3) (fun n i hn=>hkt n (hown n _ hn).1 (hown n _ hn).2)
    have hfa:=hft.arr
    have hNt:Nums t.h.get np nv nk pl kn:=hN.keep (hkt _ v5 u5) (hkt _ v6 u6) (hkt _ v7 u7)
    have hD:=hT.nums
    have hD1:=hD.box
    have hD2:=hD.vals
    have hD3:=hD.known
    replace G:=bw g0 (bw g3 (bw g32 (bw g33 (bw g34 g5))))
    refine az (aq ?_)
    refine qP ?_
    refine aX ?_
    dsimp only [aQ]
    by_cases hjl:j < ord.length - 1
    ·refine az (bQ (t:=true) ?_ (eW ?_))
     ·simp only [kq,cq,qw,isB,bV,scV]
      rw [decide_eq_true (by omega)]
     dsimp only [aQ]
     obtain ⟨i,hi⟩ : ∃ i,(ord.drop 1)[j]? = some i:=⟨_,ck (by rw [List.length_drop]; exact hjl)⟩
     have hdrop:(ord.drop 1).drop j = i :: (ord.drop 1).drop (j + 1):=by
      have hh:=(cw.1 hi)
      rw [List.drop_eq_getElem_cons hh.1,hh.2]
     rw [hdrop,List.foldlM_cons,Option.bind_eq_bind,ak] at hfold
     obtain ⟨p1,hnode,hfold⟩:=hfold
     have hcell:(ord.map nI)[0 + 1 + j * 1]? = some (nI i):=by
      rw [gw]
      rw [List.getElem?_drop] at hi
      rw [show 0 + 1 + j * 1 = 1 + j by omega,hi]; rfl
     unfold OJ at hnode
     split at hnode
     ·simp at hnode
     rename_i l hl
     obtain ⟨best,hbest⟩ : ∃ best,l.foldlM (TY F pl p.1.1 p.1.2) none = some (some best):=by
      split at hnode
      ·exact ⟨_,‹_›⟩
      ·simp at hnode
     rw [hbest] at hnode
     dsimp only at hnode
     have hil:i < fr.length:=(cw.1 hl).1
     obtain ⟨x,hx⟩ : ∃ x,xf[i]? = some x:=⟨_,ck (by rw [hfr.len]; exact hil)⟩
     have hll:=hfl l (iw hl)
     refine fW (fun Γ t'=>look Γ 0 = .c (.ptr g 0)∧look Γ 3 = .c (.ptr pd 0)∧look Γ 32 = .c (.sl no 1 (0 + 1) (ord.length - 1))∧look Γ 33 = iV ((ord.length - 1:Nat):Int)∧look Γ 34 = iV (j:Int)∧look Γ 5 = bV p1.2∧T2 b pd mv mk s1 t' p1.1.1 p1.1.2) (dz ?_) ?_
     ·refine az (aq ?_)
      refine dq rfl (aBx lk lk hjl) ?_
      refine oY rfl (MS.load1 lk hot hcell) (fun k hk=>by first | (dsimp only at hk ⊢; omega) | omega) ?_
      refine dq rfl ayq ?_
      refine aX ?_
      dsimp only [aQ]
      refine az (aq ?_)
      refine qV ?_
      refine aX ?_
      dsimp only [aQ]
      refine fW (fun Γ t'=>t = t'∧look Γ 0 = .c (.ptr g 0)∧look Γ 3 = .c (.ptr pd 0)∧look Γ 32 = .c (.sl no 1 (0 + 1) (ord.length - 1))∧look Γ 33 = iV ((ord.length - 1:Nat):Int)∧look Γ 34 = iV (j:Int)∧look Γ 5 = bV p.2∧look Γ 7 = iV (i:Int)∧look Γ 8 = iV (best:Int)) ?_ ?_
      ·refine fW (fun Γ t'=>t = t'∧look Γ 0 = .c (.ptr g 0)∧look Γ 3 = .c (.ptr pd 0)∧look Γ 32 = .c (.sl no 1 (0 + 1) (ord.length - 1))∧look Γ 33 = iV ((ord.length - 1:Nat):Int)∧look Γ 34 = iV (j:Int)∧look Γ 5 = bV p.2∧look Γ 7 = iV (i:Int)∧look Γ 8 = bst none∧look Γ 44 = .c x∧look Γ 45 = iV (l.length:Int)∧look Γ 46 = iV 0) ?_ ?_
       ·rcases hft.row i x l hx hl with ⟨hx1,hx2⟩ | ⟨n,hx1,hx2,hx3⟩
        ·rw [hx1] at hx
         replace G:=bw g0 (bw g3 (bw g32 (bw g33 (bw g34 g5))))
         refine aq ?_
         refine qV ?_
         refine qP ?_
         refine qP ?_
         refine qL ?_
         refine qV ?_
         refine qX ?_
         refine qL ?_
         refine qP ?_
         refine qV ?_
         refine aX ?_
         try dsimp only [aQ]
         rw [hx1,hx2]
         exact ⟨rfl,lk,lk,lk,lk,lk,lk,lk,(by simp only [evS,Nat.reduceEqDiff,reduceIte,G,bst]; try rfl),lk,lk,lk⟩
        ·rw [hx1] at hx
         replace G:=bw g0 (bw g3 (bw g32 (bw g33 (bw g34 g5))))
         refine aq ?_
         refine qV ?_
         refine qP ?_
         refine qP ?_
         refine qL ?_
         refine qV ?_
         refine qX ?_
         refine qL ?_
         refine qP ?_
         refine qV ?_
         refine aX ?_
         try dsimp only [aQ]
         rw [hx1]
         exact ⟨rfl,lk,lk,lk,lk,lk,lk,lk,(by simp only [evS,Nat.reduceEqDiff,reduceIte,G,bst]; try rfl),lk,lk,lk⟩
       ·try clear G
        clear g0 g3 g32 g33 g5
        rintro Γ2 t' ⟨rfl,g0,g3,g32,g33,g34',g5,g7,g8,g44,g45,g46⟩
        refine dz (uJ (fun Γ t'=>t = t'∧look Γ 0 = .c (.ptr g 0)∧look Γ 3 = .c (.ptr pd 0)∧look Γ 32 = .c (.sl no 1 (0 + 1) (ord.length - 1))∧look Γ 33 = iV ((ord.length - 1:Nat):Int)∧look Γ 34 = iV (j:Int)∧look Γ 5 = bV p.2∧look Γ 7 = iV (i:Int)∧look Γ 44 = .c x∧look Γ 45 = iV (l.length:Int)∧∃ (m:Nat) (bq:Option Nat),look Γ 46 = iV (m:Int)∧look Γ 8 = bst bq∧m≤l.length∧(l.drop m).foldlM (TY F pl p.1.1 p.1.2) bq = some (some best)) (fun Γ _=>match look Γ 46 with
         | .c (.sc (.int _ i))=>l.length - i.toNat
         | _=>0) ⟨rfl,g0,g3,g32,g33,g34',g5,g7,g44,g45,0,none,g46,g8,Nat.zero_le _,hbest⟩ ?_)
        try clear G
        clear g0 g3 g32 g33 g34' g5 g7 g8 g44 g45 g46 Γ2
        rintro Γ2 t' ⟨rfl,g0,g3,g32,g33,g34',g5,g7,g44,g45,m,bq,g46,g8,hm,hbf⟩
        replace G:=bw g0 (bw g3 (bw g32 (bw g33 (bw g34' (bw g5 (bw g7 (bw g44 (bw g45 (bw g46 g8)))))))))
        refine az (aq ?_)
        refine qP ?_
        refine aX ?_
        dsimp only [aQ]
        by_cases hml:m < l.length
        ·refine az (bQ (t:=true) ?_ (eW ?_))
         ·simp only [kq,cq,qw,isB,bV,scV]
          rw [decide_eq_true (by omega)]
         dsimp only [aQ]
         obtain ⟨k,hk⟩ : ∃ k,l[m]? = some k:=⟨_,ck hml⟩
         have hdrop:l.drop m = k :: l.drop (m + 1):=by
          have hh:=(cw.1 hk)
          rw [List.drop_eq_getElem_cons hh.1,hh.2]
         rw [hdrop,List.foldlM_cons,Option.bind_eq_bind,ak] at hbf
         obtain ⟨b2,hbs,hbf⟩:=hbf
         rcases hft.row i x l hx hl with ⟨hx1,hx2⟩ | ⟨n,hx1,hrow,hx3⟩
         ·rw [hx2] at hml; simp at hml
         rw [hx1] at g44
         have hbn:=(hown n _ hx3).1
         have hkn:(l.map nI)[m]? = some (nI k):=by rw [gw,hk]; rfl
         refine fW (fun Γ t'=>t = t'∧look Γ 0 = .c (.ptr g 0)∧look Γ 3 = .c (.ptr pd 0)∧look Γ 32 = .c (.sl no 1 (0 + 1) (ord.length - 1))∧look Γ 33 = iV ((ord.length - 1:Nat):Int)∧look Γ 34 = iV (j:Int)∧look Γ 5 = bV p.2∧look Γ 7 = iV (i:Int)∧look Γ 44 = .c x∧look Γ 45 = iV (l.length:Int)∧look Γ 46 = iV (m:Int)∧look Γ 8 = bst b2) (dz ?_) ?_
         ·skip
          replace G:=bw g0 (bw g3 (bw g32 (bw g33 (bw g34' (bw g5 (bw g7 (bw g44 (bw g45 (bw g46 g8)))))))))
          refine az (aq ?_)
          refine qX ?_
          refine qL ?_
          refine qV ?_
          refine aX ?_
          dsimp only [aQ]
          unfold TY at hbs
          split at hbs
          ·simp at hbs
          ·rename_i hdk
           cases hbs
           have hkl:k < p.1.2.length:=(cw.1 hdk).1
           have hdk':(p.1.2.map bI)[k]? = some (.sc (.bool false)):=by rw [gw,hdk]; rfl
           refine az (az ?_)
           replace G:=bw g0 (bw g3 (bw g32 (bw g33 (bw g34' (bw g5 (bw g7 (bw g44 (bw g45 (bw g46 g8)))))))))
           refine aq ?_
           refine qV ?_
           refine qP ?_
           refine qP ?_
           refine qL ?_
           refine qV ?_
           refine qX ?_
           refine qL ?_
           refine qP ?_
           refine aX ?_
           try dsimp only [aQ]
           refine bQ (t:=true) (by simp only [evS,reduceIte]; rfl) (ox ?_)
           simp only [aQ,Nat.beq_refl,cond_true]
           exact ⟨trivial,lk,lk,lk,lk,lk,lk,lk,(by simp only [evS,Nat.reduceEqDiff,reduceIte,G,hx1]; try rfl),lk,lk,lk⟩
          ·rename_i hdk
           have hkl:k < p.1.2.length:=(cw.1 hdk).1
           have hdk':(p.1.2.map bI)[k]? = some (.sc (.bool true)):=by rw [gw,hdk]; rfl
           refine az (az ?_)
           replace G:=bw g0 (bw g3 (bw g32 (bw g33 (bw g34' (bw g5 (bw g7 (bw g44 (bw g45 (bw g46 g8)))))))))
           refine aq ?_
           refine qV ?_
           refine qP ?_
           refine qP ?_
           refine qL ?_
           refine qV ?_
           refine qX ?_
           refine qL ?_
           refine qP ?_
           refine aX ?_
           try dsimp only [aQ]
           refine bQ (t:=false) (by simp only [evS,reduceIte]; rfl) (eW ?_)
           dsimp only [aQ]
           split at hbs
           ·cases hbs
            simp only [bst] at g8
            replace G:=bw g0 (bw g3 (bw g32 (bw g33 (bw g34' (bw g5 (bw g7 (bw g44 (bw g45 (bw g46 g8)))))))))
            refine az (aq ?_)
            refine qV ?_
            refine qP ?_
            refine aX ?_
            dsimp only [aQ]
            refine bQ (t:=true) (by simp only [evS,reduceIte]; rfl) ?_
            dsimp only [cond_true]
            refine aq ?_
            refine qV ?_
            refine qV ?_
            refine aX ?_
            try dsimp only [aQ]
            exact ⟨rfl,lk,lk,lk,lk,lk,lk,lk,(by simp only [evS,Nat.reduceEqDiff,reduceIte,G,hx1]; try rfl),lk,lk,(by simp only [evS,Nat.reduceEqDiff,reduceIte,G,bst]; try rfl)⟩
           ·rename_i bb
            obtain ⟨cc,hcc,hbs⟩:=aw.1 hbs
            cases hbs
            simp only [bst] at g8
            replace G:=bw g0 (bw g3 (bw g32 (bw g33 (bw g34' (bw g5 (bw g7 (bw g44 (bw g45 (bw g46 g8)))))))))
            refine az (aq ?_)
            refine qV ?_
            refine qP ?_
            refine aX ?_
            dsimp only [aQ]
            refine bQ (t:=false) ?_ ?_
            ·simp only [evS,reduceIte,isB]
             rw [vk (by omega)]
            dsimp only [cond_false]
            refine aq ?_
            refine qV ?_
            refine qV ?_
            refine qV ?_
            refine qV ?_
            refine qC (hC:=avV hS hgt hNt hD ⟨v1,v5,v6,bpd,bmv⟩ hcc) (h:=?_)
            intro v3 s3 hq3
            obtain ⟨rfl,rfl⟩:=hq3
            refine qV ?_
            refine aX ?_
            try dsimp only [aQ]
            exact ⟨rfl,lk,lk,lk,lk,lk,lk,lk,(by simp only [evS,Nat.reduceEqDiff,reduceIte,G,hx1]; try rfl),lk,lk,(by simp only [evS,Nat.reduceEqDiff,reduceIte,G,bst]; try rfl)⟩
         ·try clear G
          clear g0 g3 g32 g33 g34' g5 g7 g8 g44 g45
          rintro Γ3 t' ⟨rfl,g0,g3,g32,g33,g34',g5,g7,g44,g45,k46,g8⟩
          replace G:=bw g0 (bw g3 (bw g32 (bw g33 (bw g34' (bw g5 (bw g7 (bw g44 (bw g45 (bw k46 g8)))))))))
          refine aq ?_
          refine qP ?_
          refine qV ?_
          refine aX ?_
          try dsimp only [aQ]
          refine ⟨⟨rfl,lk,lk,lk,lk,lk,lk,lk,lk,lk,m + 1,b2,?_,lk,by omega,hbf⟩,?_⟩
          ·simp only [evS,Nat.reduceEqDiff,reduceIte]
           rw [wr (by omega) (by omega)]; rfl
          ·simp only [evS,Nat.reduceEqDiff,reduceIte,g46,iV]
           rw [wr (by omega) (by omega)]
           omega
        ·have hml:m = l.length:=by omega
         refine az (bQ (t:=false) ?_ (ox ?_))
         ·simp only [kq,cq,qw,isB,bV,scV]
          rw [vk (by omega)]
         rw [hml,List.drop_length] at hbf
         simp only [List.foldlM_nil,Option.pure_def,dw] at hbf
         subst hbf
         simp only [aQ,Nat.beq_refl,cond_true]
         exact ⟨trivial,(by simp only [evS,Nat.reduceEqDiff,reduceIte,g0,g3,g32,g33,g34',g5,g7,g44,g45,g46,g8]; try rfl),(by simp only [evS,Nat.reduceEqDiff,reduceIte,g0,g3,g32,g33,g34',g5,g7,g44,g45,g46,g8]; try rfl),(by simp only [evS,Nat.reduceEqDiff,reduceIte,g0,g3,g32,g33,g34',g5,g7,g44,g45,g46,g8]; try rfl),(by simp only [evS,Nat.reduceEqDiff,reduceIte,g0,g3,g32,g33,g34',g5,g7,g44,g45,g46,g8]; try rfl),(by simp only [evS,Nat.reduceEqDiff,reduceIte,g0,g3,g32,g33,g34',g5,g7,g44,g45,g46,g8]; try rfl),(by simp only [evS,Nat.reduceEqDiff,reduceIte,g0,g3,g32,g33,g34',g5,g7,g44,g45,g46,g8]; try rfl),(by simp only [evS,Nat.reduceEqDiff,reduceIte,g0,g3,g32,g33,g34',g5,g7,g44,g45,g46,g8]; try rfl),(by simp only [evS,Nat.reduceEqDiff,reduceIte,g0,g3,g32,g33,g34',g5,g7,g44,g45,g46,g8,bst]; try rfl)⟩
      ·try clear G
       clear g0 g3 g32 g33 g5
       rintro Γ2 t' ⟨rfl,g0,g3,g32,g33,g34',g5,g7,g8⟩
       have setit:∀ Γ3,look Γ3 0 = .c (.ptr g 0)→look Γ3 3 = .c (.ptr pd 0)→look Γ3 32 = .c (.sl no 1 (0 + 1) (ord.length - 1))→look Γ3 33 = iV ((ord.length - 1:Nat):Int)→look Γ3 34 = iV (j:Int)→look Γ3 7 = iV (i:Int)→look Γ3 8 = iV (best:Int)→i < p.1.1.length→i < p.1.2.length→p1 = ((p.1.1.set i best,p.1.2.set i true),true) →
         Wp orc p_T (.seq (.region none [oP 86 (.mv (tO 3)) 8,oP 87 (.mv (tO 7)) 128,oP 88 (.mv (tO 8)) 256,oP 89 (.call dY [(tO 86),(tO 87),(tO 88)]) 541598767187353870268366848]) (.region none [oP 5 (.mv (.con (.c (.sc (.bool true))))) 0])) Γ3 t (fun k=>b≤k) True fun e Γ t'=>e = .normal∧(look Γ 0 = .c (.ptr g 0)∧look Γ 3 = .c (.ptr pd 0)∧look Γ 32 = .c (.sl no 1 (0 + 1) (ord.length - 1))∧look Γ 33 = iV ((ord.length - 1:Nat):Int)∧look Γ 34 = iV (j:Int)∧look Γ 5 = bV p1.2∧T2 b pd mv mk s1 t' p1.1.1 p1.1.2):=by
        rintro Γ3 g0 g3 g32 g33 g34' g7 g8 hi1 hi2 rfl
        replace G:=bw g0 (bw g3 (bw g32 (bw g33 (bw g34' (bw g7 g8)))))
        refine az (aq ?_)
        refine qV ?_
        refine qV ?_
        refine qV ?_
        refine qC (hC:=Ux hS hD ⟨bpd,bmv,bmk⟩ ⟨by omega,by omega,by omega⟩ hi1 hi2) (h:=?_)
        intro v4 s4 hq4
        obtain ⟨hS2,hD2,hc2,hk2⟩:=hq4
        refine aX ?_
        dsimp only [aQ]
        refine aq ?_
        refine qV ?_
        refine aX ?_
        try dsimp only [aQ]
        exact ⟨rfl,lk,lk,lk,lk,lk,lk,hS2,hc2.trans hT.c,hD2,fun k h1 h2=>(hk2 k h1 h2).trans (hT.keep k h1 h2)⟩
       have fin:∀ {c:RC} {Γ3:Tr V},Wp orc p_T c Γ3 t (fun k=>b≤k) True (fun e Γ t'=>e = .normal∧(look Γ 0 = .c (.ptr g 0)∧look Γ 3 = .c (.ptr pd 0)∧look Γ 32 = .c (.sl no 1 (0 + 1) (ord.length - 1))∧look Γ 33 = iV ((ord.length - 1:Nat):Int)∧look Γ 34 = iV (j:Int)∧look Γ 5 = bV p1.2∧T2 b pd mv mk s1 t' p1.1.1 p1.1.2))→Wp orc p_T c Γ3 t (fun k=>b≤k) True (fun e Γ s=>match e with
         | .exit i=>bif Nat.beq i 3 then aQ (fun Γ t'=>look Γ 0 = .c (.ptr g 0)∧look Γ 3 = .c (.ptr pd 0)∧look Γ 32 = .c (.sl no 1 (0 + 1) (ord.length - 1))∧look Γ 33 = iV ((ord.length - 1:Nat):Int)∧look Γ 34 = iV (j:Int)∧look Γ 5 = bV p1.2∧T2 b pd mv mk s1 t' p1.1.1 p1.1.2) (fun _ _ _=>False) .normal Γ s else aQ (fun Γ t'=>look Γ 0 = .c (.ptr g 0)∧look Γ 3 = .c (.ptr pd 0)∧look Γ 32 = .c (.sl no 1 (0 + 1) (ord.length - 1))∧look Γ 33 = iV ((ord.length - 1:Nat):Int)∧look Γ 34 = iV (j:Int)∧look Γ 5 = bV p1.2∧T2 b pd mv mk s1 t' p1.1.1 p1.1.2) (fun _ _ _=>False) (.exit i) Γ s
         | e=>aQ (fun Γ t'=>look Γ 0 = .c (.ptr g 0)∧look Γ 3 = .c (.ptr pd 0)∧look Γ 32 = .c (.sl no 1 (0 + 1) (ord.length - 1))∧look Γ 33 = iV ((ord.length - 1:Nat):Int)∧look Γ 34 = iV (j:Int)∧look Γ 5 = bV p1.2∧T2 b pd mv mk s1 t' p1.1.1 p1.1.2) (fun _ _ _=>False) e Γ s):=fun h=>Wp.mono h (fun _ h=>h) (fun h=>h) fun e Γ s h=>by obtain ⟨rfl,h⟩:=h; exact h
       split at hnode
       ·rename_i v hkn hv
        have hi1:i < p.1.1.length:=(cw.1 hv).1
        have hi2:i < p.1.2.length:=(cw.1 hkn).1
        have hkn':(p.1.2.map bI)[i]? = some (.sc (.bool true)):=by rw [gw,hkn]; rfl
        have hv':(p.1.1.map nI)[i]? = some (nI v):=by rw [gw,hv]; rfl
        replace G:=bw g0 (bw g3 (bw g32 (bw g33 (bw g34' (bw g5 (bw g7 g8))))))
        refine az (aq ?_)
        refine qV ?_
        refine qP ?_
        refine qP ?_
        refine qL ?_
        refine qV ?_
        refine qX ?_
        refine qL ?_
        refine qP ?_
        refine qV ?_
        refine dq wZ (pmv aK) ?_
        refine dq wZ abx ?_
        refine dq wZ abx ?_
        refine oY wZ G4 cK ?_
        refine dq wZ (pmv aK) ?_
        refine dq wZ (by first | exact aCZ  aK aK (by first | assumption | omega) | exact aNQ  aK aK (by assumption) | exact aBx  aK aK (by first | assumption | omega)) ?_
        refine oY wZ G4 cK ?_
        refine dq wZ (pmv aK) ?_
        refine dq wZ abx ?_
        refine qP ?_
        refine aX ?_
        dsimp only [aQ]
        by_cases hvb:v = best
        ·rw [if_pos hvb] at hnode
         cases hnode
         refine bQ (t:=false) ?_ (eW ?_)
         ·simp only [evS,reduceIte,isB,cond_true,cond_false,Bool.not_true]
          rw [decide_eq_true (by omega)]; rfl
         have G:=bw g0 (bw g3 (bw g32 (bw g33 (bw g34' (bw g5 (bw g7 g8))))))
         exact ⟨aK,aK,aK,aK,aK,aK,hT⟩
        ·rw [if_neg hvb] at hnode
         refine bQ (t:=true) ?_ ?_
         ·simp only [evS,reduceIte,isB,cond_true,cond_false,Bool.not_true]
          rw [vk (by omega)]; rfl
         dsimp only [cond_true]
         have G:=bw g0 (bw g3 (bw g32 (bw g33 (bw g34' (bw g5 (bw g7 g8))))))
         exact fin (setit _ aK aK aK aK aK aK aK hi1 hi2 (Option.some.inj hnode).symm)
       ·rename_i v hkn hv
        have hi1:i < p.1.1.length:=(cw.1 hv).1
        have hi2:i < p.1.2.length:=(cw.1 hkn).1
        have hkn':(p.1.2.map bI)[i]? = some (.sc (.bool false)):=by rw [gw,hkn]; rfl
        replace G:=bw g0 (bw g3 (bw g32 (bw g33 (bw g34' (bw g5 (bw g7 g8))))))
        refine az (aq ?_)
        refine qV ?_
        refine qP ?_
        refine qP ?_
        refine qL ?_
        refine qV ?_
        refine qX ?_
        refine qL ?_
        refine qP ?_
        refine qV ?_
        refine zY wZ ?_
        refine zY wZ ?_
        refine zY wZ ?_
        refine zY wZ ?_
        refine zY wZ ?_
        refine zY wZ ?_
        refine zY wZ ?_
        refine zY wZ ?_
        refine zY wZ ?_
        refine qP ?_
        refine aX ?_
        dsimp only [aQ]
        refine bQ (t:=true) ?_ ?_
        ·simp only [evS,reduceIte]; rfl
        dsimp only [cond_true]
        exact fin (setit _ lk lk lk lk lk lk lk hi1 hi2 (Option.some.inj hnode).symm)
       ·simp at hnode
     ·try clear G
      clear g0 g3 g32 g33 g5 hD hD1 hD2 hD3 hT hS hgt hot hft hfa hNt hkt
      rintro Γ2 t' ⟨g0,g3,g32,g33,k34,g5,hT⟩
      replace G:=bw g0 (bw g3 (bw g32 (bw g33 (bw k34 g5))))
      refine aq ?_
      refine qP ?_
      refine qV ?_
      refine aX ?_
      try dsimp only [aQ]
      refine ⟨⟨lk,lk,lk,lk,j + 1,p1,?_,lk,by omega,hfold,hT⟩,?_⟩
      ·simp only [evS,Nat.reduceEqDiff,reduceIte]
       rw [wr (by omega) (by omega)]; rfl
      ·simp only [evS,Nat.reduceEqDiff,reduceIte,g34,iV]
       rw [wr (by omega) (by omega)]
       omega
    ·have hjl:j = ord.length - 1:=by omega
     refine az (bQ (t:=false) ?_ (ox ?_))
     ·simp only [kq,cq,qw,isB,bV,scV]
      rw [vk (by omega)]
     rw [hjl,List.drop_drop,List.drop_eq_nil_of_le (by omega)] at hfold
     simp only [List.foldlM_nil,Option.pure_def,dw] at hfold
     subst hfold
     simp only [aQ,Nat.beq_refl,cond_true]
     have G:=bw g0 (bw g3 (bw g32 (bw g33 (bw g34 g5))))
     exact ⟨f,Nat.lt_succ_self f,aK,aK,q.1,q.2,chq,aK,hfin,hT⟩
 ·rintro Γ t ⟨g3,hT⟩
  replace G:=g3
  refine az (aq ?_)
  refine qV ?_
  refine qV ?_
  refine aX ?_
  dsimp only [aQ]
  exact pZ ⟨.inr rfl,_,0,HK lk rfl,cY,pd,mv,mk,rfl,hT.sb,by have:=hT.c; omega,hT.nums,⟨by omega,by omega,by omega⟩,fun k hk=>by rw [hT.keep k (by omega) (by omega)]; exact hk1 k hk⟩
end Go.RM
namespace Go.RM
open Go.VM (T mV tI)
def sI (z:Int):X:=.sc (.int .i64 z)
def IV (n:Nat) (dv:List Nat) (dk:List Bool) (i:Nat):Int:=if dk.getD i false = false then -2 else if dv.getD i 0 = n then -1 else ((dv.getD i 0:Nat):Int)
def qx (n:Nat) (dv:List Nat) (dk:List Bool):List Int:=(List.range n).map (IV n dv dk)
structure aeV (orc:bZ) (to fr:List (List Nat)) (ord vals:List Nat) (known:List Bool) (dv:List Nat) (dk:List Bool):Prop where
 cp:∀ (b:Nat) (s:S) (g:Nat),Sb b s→Graph b s.c g to fr ord vals known s.h.get→Cp orc p_T e9 [.c (.ptr g 0)] s (fun k=>b≤k) True fun v s'=>∃ pd mv mk,v = .c (.ptr pd 0)∧Sb b s'∧s.c≤s'.c∧Nums s'.h.get pd mv mk dv dk∧(s.c≤pd∧s.c≤mv∧s.c≤mk)∧∀ k,k < s.c→s'.h.get k = s.h.get k
 vl:dv.length = to.length
 kl:dk.length = to.length
set_option maxHeartbeats 4000000 in
theorem aeZ {orc:bZ} {b:Nat} {s:S} (hS:Sb b s) {rows roots:List (List T)} {e:Int} (hc:lV orc rows roots e) (he:e ≠ 0) :
  Cp orc p_T jW [.agg [.im 4 rows,.im 1 roots]] s (fun k=>b≤k) True fun v s'=>v = .tup [.c (.sc dZ),iV e]:=by
 have hle:=hS.le
 refine k8 (rf:=jJ) rfl ?_
 unfold jJ
 obtain ⟨Γ,hΓ⟩ : ∃ Γ,Γ = ofL [V.agg [.im 4 rows,.im 1 roots]] 0 .lf:=⟨_,rfl⟩
 have g0:look Γ 0 = .agg [.im 4 rows,.im 1 roots]:=by rw [hΓ]; rfl
 rw [← hΓ]
 try clear G
 clear hΓ
 replace G:=g0
 refine az (aq ?_)
 refine oY rfl (MS.box hS zj) cK ?_
 refine ej hS ?_
 intro s1 hst1 hsc1 hS1
 have hn1:=hst1.self
 refine qV ?_
 refine qV ?_
 refine aX ?_
 dsimp only [aQ]
 refine az (az ?_)
 refine aq ?_
 refine qA ?_
 refine qC (hC:=hc s1) (h:=?_)
 intro v2 s2 hq2
 obtain ⟨rfl,rfl⟩:=hq2
 refine qV ?_
 refine aX ?_
 try dsimp only [aQ]
 refine az (aq ?_)
 refine qV ?_
 refine qP ?_
 refine aX ?_
 dsimp only [aQ]
 refine bQ (t:=true) ?_ ?_
 ·simp only [evS,Nat.reduceEqDiff,reduceIte]
  rw [vk he]
  rfl
 dsimp only [cond_true]
 refine az (aq ?_)
 refine qV ?_
 refine qV ?_
 refine qV ?_
 refine aX ?_
 dsimp only [aQ]
 refine pZ ?_
 exact ⟨.inr rfl,[.c (.sc dZ),iV e],0,by simp only [tK,evS,Nat.reduceEqDiff,reduceIte]; rfl,cY,rfl⟩
set_option maxHeartbeats 4000000 in
theorem aiX {orc:bZ} {b:Nat} {s:S} (hS:Sb b s) {obs:List HO} {rts:List Int} {to fr:List (List Nat)} {ord vals:List Nat} {known:List Bool} (hB:AW orc obs rts to fr ord vals known) {dv:List Nat} {dk:List Bool} (hD:aeV orc to fr ord vals known dv dk) (hc:lV orc (obs.map eQ) (rts.map fY) 0) :
  Cp orc p_T jW [.agg [.im 4 (obs.map eQ),.im 1 (rts.map fY)]] s (fun k=>b≤k) True fun v s'=>∃ m,v = .tup [.c (.sl m 1 0 obs.length),iV 0]∧s'.h.get m = some (.cells cj ((qx obs.length dv dk).map sI)):=by
 have hle:=hS.le
 refine k8 (rf:=jJ) rfl ?_
 unfold jJ
 obtain ⟨Γ,hΓ⟩ : ∃ Γ,Γ = ofL [V.agg [.im 4 (obs.map eQ),.im 1 (rts.map fY)]] 0 .lf:=⟨_,rfl⟩
 have g0:look Γ 0 = .agg [.im 4 (obs.map eQ),.im 1 (rts.map fY)]:=by rw [hΓ]; rfl
 rw [← hΓ]
 try clear G
 clear hΓ
 replace G:=g0
 refine az (aq ?_)
 refine oY rfl (MS.box hS zj) cK ?_
 refine ej hS ?_
 intro s1 hst1 hsc1 hS1
 have hn1:=hst1.self
 refine qV ?_
 refine qV ?_
 refine aX ?_
 dsimp only [aQ]
 refine az (az ?_)
 refine aq ?_
 refine qA ?_
 refine qC (hC:=hc s1) (h:=?_)
 intro v2 s2 hq2
 obtain ⟨rfl,rfl⟩:=hq2
 refine qV ?_
 refine aX ?_
 try dsimp only [aQ]
 refine az (aq ?_)
 refine qV ?_
 refine qP ?_
 refine aX ?_
 dsimp only [aQ]
 refine bQ (t:=false) ?_ (eW ?_)
 ·simp only [evS,Nat.reduceEqDiff,reduceIte]; rfl
 dsimp only [aQ]
 have hsm:=hB.small
 have hvl:=hD.vl
 have hkl:=hD.kl
 rw [hB.tol] at hvl hkl
 replace G:=g0
 refine az (aq ?_)
 refine qAL ?_
 refine qCL (hC:=hB.cp b s1 hS1) (h:=?_)
 intro v3 s3 hq3
 obtain ⟨g,rfl,hSg,hcg,hkg,hG⟩:=hq3
 replace hn1:s3.h.get _ = _:=(hkg _ (by omega)).trans hn1
 refine qCL (hC:=hD.cp b s3 g hSg hG) (h:=?_)
 intro v4 s4 hq4
 obtain ⟨pd,mv,mk,rfl,hSd,hcd,hN,⟨lo1,lo2,lo3⟩,hkd⟩:=hq4
 replace hn1:s4.h.get _ = _:=(hkd _ (by omega)).trans hn1
 refine qVL ?_
 refine aX ?_
 dsimp only [aQ]
 have d1:=hN.box
 have d2:=hN.vals
 have d3:=hN.known
 have r1:=F5 (n:=obs.length) (by omega)
 have cN:=hSd.lt d1
 have cN2:=hSd.lt d2
 have cN3:=hSd.lt d3
 refine az (aq ?_)
 refine dq rfl (by simp only [bJ,evS,Nat.reduceEqDiff,reduceIte,g0]; rfl) ?_
 refine oY rfl (MS.load1 (by simp only [evS,Nat.reduceEqDiff,reduceIte,g0,List.length_map]; try rfl) hn1 rfl) (fun k hk=>by first | (dsimp only at hk ⊢; omega) | omega) ?_
 refine dq (v:=iV (obs.length:Int)) rfl (by simp only [evS,Nat.reduceEqDiff,reduceIte,g0,List.length_map,bJ,List.length_map]; try rfl) ?_
 refine oY rfl (MS.mksl (m:=0) (mc:=obs.length) hSd (by simp only [evS,Nat.reduceEqDiff,reduceIte,g0,List.length_map]; try rfl) (by simp only [evS,Nat.reduceEqDiff,reduceIte,g0,List.length_map]; try rfl) (Nat.zero_le _) r1) (fun k hk=>by first | (dsimp only at hk ⊢; omega) | omega) ?_
 refine ej hSd ?_
 intro σ hstσ hscσ hSσ
 replace hn1:=hstσ.at hn1 (by omega)
 replace d1:=hstσ.at d1 (by omega)
 replace d2:=hstσ.at d2 (by omega)
 replace d3:=hstσ.at d3 (by omega)
 have hnσ:=hstσ.self
 refine dq rfl (by simp only [evS,Nat.reduceEqDiff,reduceIte,g0,List.length_map,bJ]; try rfl) ?_
 refine aX ?_
 dsimp only [aQ]
 refine fW (fun Γ t=>∃ m,look Γ 6 = .c (.sl m 1 0 obs.length)∧t.h.get m = some (.cells cj ((qx obs.length dv dk).map sI))) ?_ ?_
 ·skip
  replace G:=g0
  refine az (aq ?_)
  refine qPL ?_
  refine qLL ?_
  refine qPL ?_
  refine qVL ?_
  refine aX ?_
  dsimp only [aQ]
  refine dz (uJ (fun Γ t=>look Γ 1 = .c (.ptr s.c 0)∧look Γ 5 = .c (.ptr pd 0)∧look Γ 22 = iV (obs.length:Int)∧∃ (j m:Nat) (cs:List X),look Γ 23 = iV (j:Int)∧j≤obs.length∧look Γ 6 = .c (.sl m 1 0 cs.length)∧t.h.get m = some (.cells cj cs)∧cs = ((qx obs.length dv dk).take j).map sI∧σ.c≤m + 1∧b≤m∧Sb b t∧σ.c≤t.c∧∀ k,k < s4.c→t.h.get k = σ.h.get k) (fun Γ _=>match look Γ 23 with
   | .c (.sc (.int _ i))=>obs.length - i.toNat
   | _=>0) ⟨lkL,lkL,lkL,0,s4.c,[],lkL,Nat.zero_le _,lkL,hnσ,rfl,by omega,by omega,hSσ,ik _,fun _ _=>rfl⟩ ?_)
  try clear G
  clear g0 Γ
  rintro Γ t ⟨g1,g5,g22,j,m,cs,g23,hj,g6,hm,hcs,hml,hbm,hSt,hct,hkt⟩
  have e1:t.h.get _ = _:=(hkt _ (by omega)).trans hn1
  have e2:t.h.get _ = _:=(hkt _ (by omega)).trans d1
  have e3:t.h.get _ = _:=(hkt _ (by omega)).trans d2
  have e4:t.h.get _ = _:=(hkt _ (by omega)).trans d3
  have hmt:=hSt.lt hm
  replace G:=bw g1 (bw g5 (bw g22 (bw g23 g6)))
  refine az (aq ?_)
  refine qPL ?_
  refine aX ?_
  dsimp only [aQ]
  by_cases hjl:j < obs.length
  ·refine az (bQ (t:=true) ?_ (eW ?_))
   ·simp only [kq,cq,qw,isB,bV,scV]
    rw [decide_eq_true (by omega)]
   dsimp only [aQ]
   have hdo:(qx obs.length dv dk)[j]? = some (IV obs.length dv dk j):=by
    unfold qx
    rw [gw,List.getElem?_range hjl]; rfl
   have hnext:cs++[sI (IV obs.length dv dk j)] = ((qx obs.length dv dk).take (j + 1)).map sI:=by
    rw [List.take_add_one,hdo,List.map_append,← hcs]; rfl
   have hcl:cs.length = j:=by
    rw [hcs,List.length_map,List.length_take,qx,List.length_map,List.length_range]; omega
   have r2:nJ 8 (cs.length + 1) = true:=F5 (by omega)
   have hrow:RowN t.h.get cj (.sl m 1 0 cs.length) cs m:=.inr ⟨rfl,hm⟩
   obtain ⟨kb,hkb⟩ : ∃ x,dk[j]? = some x:=⟨_,ck (by omega)⟩
   obtain ⟨vb,hvb⟩ : ∃ x,dv[j]? = some x:=⟨_,ck (by omega)⟩
   have hkb':(dk.map bI)[j]? = some (.sc (.bool kb)):=by rw [gw,hkb]; rfl
   have hvb':(dv.map nI)[j]? = some (nI vb):=by rw [gw,hvb]; rfl
   have hat:IV obs.length dv dk j = if kb = false then -2 else if vb = obs.length then -1 else (vb:Int):=by
    unfold IV
    rw [List.getD,List.getD,hkb,hvb]; rfl
   have hjk:j < dk.length:=by omega
   have hjv:j < dv.length:=by omega
   refine fW (fun Γ t'=>look Γ 1 = .c (.ptr s.c 0)∧look Γ 5 = .c (.ptr pd 0)∧look Γ 22 = iV (obs.length:Int)∧look Γ 23 = iV (j:Int)∧∃ m' cs',look Γ 6 = .c (.sl m' 1 0 cs'.length)∧t'.h.get m' = some (.cells cj cs')∧cs' = ((qx obs.length dv dk).take (j + 1)).map sI∧σ.c≤m' + 1∧b≤m'∧Sb b t'∧σ.c≤t'.c∧∀ k,k < s4.c→t'.h.get k = σ.h.get k) (dz ?_) ?_
   ·skip
    refine az (aq ?_)
    refine qVL ?_
    refine qVL ?_
    refine aX ?_
    dsimp only [aQ]
    refine dz (az ?_)
    refine aq ?_
    refine qVL ?_
    refine qPL ?_
    refine qPL ?_
    refine qLL ?_
    refine qVL ?_
    refine qXL ?_
    refine qLL ?_
    refine qPL ?_
    refine qVL ?_
    refine aX ?_
    try dsimp only [aQ]
    cases hkb0:kb with
    | false =>
     rw [hkb0] at hkb'
     refine bQ (t:=true) (by simp only [evS,reduceIte,hkb0]; rfl) ?_
     dsimp only [cond_true]
     replace G:=bw g1 (bw g5 (bw g22 (bw g23 g6)))
     refine aq ?_
     refine qVL ?_
     refine qM (MS.bsl1 hSt iW) ?_
     refine ej hSt ?_
     intro s5 hst5 hsc5 hS5
     replace e1:=hst5.at e1 (by omega)
     replace e2:=hst5.at e2 (by omega)
     replace e3:=hst5.at e3 (by omega)
     replace e4:=hst5.at e4 (by omega)
     have hn5:=hst5.self
     replace hrow:=hrow.keep (hst5.keep _ (by omega))
     refine HQ rfl hS5 iW hrow (by omega) iW (by assumption) (by first | assumption | rfl) cK ?_
     intro s6 hst6 hS6
     have hsa6:=hst6.c
     replace e1:=hst6.at e1 (by omega) (by omega)
     replace e2:=hst6.at e2 (by omega) (by omega)
     replace e3:=hst6.at e3 (by omega) (by omega)
     replace e4:=hst6.at e4 (by omega) (by omega)
     replace hn5:=hst6.at hn5 (by omega) (by omega)
     have hn6:=hst6.self
     refine qVL ?_
     refine aX ?_
     try dsimp only [aQ]
     exact ⟨lkL,lkL,lkL,lkL,s5.c,cs++[_],(by simp only [evS,Nat.reduceEqDiff,reduceIte,List.length_map,G,lw,xw]; try rfl),hst6.self,by rw [← hnext,hat]; simp [sI,nI,hkb0],by omega,by omega,hS6,by omega,fun k hk=>by rw [hst6.keep k (by omega) (by omega),hst5.keep k (by omega)]; exact hkt k hk⟩
    | true =>
     rw [hkb0] at hkb'
     refine bQ (t:=false) (by simp only [evS,reduceIte,hkb0]; rfl) ?_
     dsimp only [cond_false]
     replace G:=bw g1 (bw g5 (bw g22 (bw g23 g6)))
     refine az (sj rfl ?_)
     refine rVL ?_
     refine rPL ?_
     refine rPL ?_
     refine Az rfl Uz cK (fun x hx=>by simp at hx) ?_
     refine rVL ?_
     refine rXL ?_
     refine rLL ?_
     refine rPL ?_
     refine rLL ?_
     refine rPL ?_
     refine rPL ?_
     refine rVL ?_
     refine wz ?_
     dsimp only [aQ]
     by_cases hv:vb = obs.length
     ·refine bQ (t:=true) ?_ ?_
      ·simp only [evS,reduceIte,isB]
       rw [decide_eq_true (by omega)]; try rfl
      dsimp only [cond_true]
      refine aq ?_
      refine qVL ?_
      refine qM (MS.bsl1 hSt iW) ?_
      refine ej hSt ?_
      intro s7 hst7 hsc7 hS7
      replace e1:=hst7.at e1 (by omega)
      replace e2:=hst7.at e2 (by omega)
      replace e3:=hst7.at e3 (by omega)
      replace e4:=hst7.at e4 (by omega)
      have hn7:=hst7.self
      replace hrow:=hrow.keep (hst7.keep _ (by omega))
      refine HQ rfl hS7 iW hrow (by omega) iW (by assumption) (by first | assumption | rfl) cK ?_
      intro s8 hst8 hS8
      have hsa8:=hst8.c
      replace e1:=hst8.at e1 (by omega) (by omega)
      replace e2:=hst8.at e2 (by omega) (by omega)
      replace e3:=hst8.at e3 (by omega) (by omega)
      replace e4:=hst8.at e4 (by omega) (by omega)
      replace hn7:=hst8.at hn7 (by omega) (by omega)
      have hn8:=hst8.self
      refine qVL ?_
      refine aX ?_
      try dsimp only [aQ]
      exact ⟨lkL,lkL,lkL,lkL,s7.c,cs++[_],(by simp only [evS,Nat.reduceEqDiff,reduceIte,List.length_map,G,lw,xw]; try rfl),hst8.self,by rw [← hnext,hat]; simp [sI,nI,hkb0,hv],by omega,by omega,hS8,by omega,fun k hk=>by rw [hst8.keep k (by omega) (by omega),hst7.keep k (by omega)]; exact hkt k hk⟩
     ·refine bQ (t:=false) ?_ ?_
      ·simp only [evS,reduceIte,isB]
       rw [vk (by omega)]; try rfl
      dsimp only [cond_false]
      refine aq ?_
      refine qVL ?_
      refine qVL ?_
      refine qPL ?_
      refine qPL ?_
      refine qLL ?_
      refine qVL ?_
      refine qXL ?_
      refine qLL ?_
      refine qM (MS.bsl1 hSt iW) ?_
      refine ej hSt ?_
      intro s9 hst9 hsc9 hS9
      replace e1:=hst9.at e1 (by omega)
      replace e2:=hst9.at e2 (by omega)
      replace e3:=hst9.at e3 (by omega)
      replace e4:=hst9.at e4 (by omega)
      have hn9:=hst9.self
      replace hrow:=hrow.keep (hst9.keep _ (by omega))
      refine HQ rfl hS9 iW hrow (by omega) iW (by assumption) (by first | assumption | rfl) cK ?_
      intro s10 hst10 hS10
      have hsa10:=hst10.c
      replace e1:=hst10.at e1 (by omega) (by omega)
      replace e2:=hst10.at e2 (by omega) (by omega)
      replace e3:=hst10.at e3 (by omega) (by omega)
      replace e4:=hst10.at e4 (by omega) (by omega)
      replace hn9:=hst10.at hn9 (by omega) (by omega)
      have hn10:=hst10.self
      refine qVL ?_
      refine aX ?_
      try dsimp only [aQ]
      exact ⟨lkL,lkL,lkL,lkL,s9.c,cs++[_],(by simp only [evS,Nat.reduceEqDiff,reduceIte,List.length_map,G,lw,xw]; try rfl),hst10.self,by rw [← hnext,hat]; simp [sI,nI,hkb0,hv],by omega,by omega,hS10,by omega,fun k hk=>by rw [hst10.keep k (by omega) (by omega),hst9.keep k (by omega)]; exact hkt k hk⟩
   ·try clear G
    clear g1 g5 g22 g6 hm hSt hrow e1 e2 e3 e4
    rintro Γ2 t' ⟨g1,g5,g22,k23,m',cs',g6,hm,hcs',hml,hbm,hSt,hct,hkt⟩
    replace G:=bw g1 (bw g5 (bw g22 (bw k23 g6)))
    refine aq ?_
    refine qP ?_
    refine qV ?_
    refine aX ?_
    try dsimp only [aQ]
    refine ⟨⟨lk,lk,lk,j + 1,m',cs',?_,by omega,lk,hm,hcs',hml,hbm,hSt,hct,hkt⟩,?_⟩
    ·simp only [evS,Nat.reduceEqDiff,reduceIte]
     rw [wr (by omega) (by omega)]; rfl
    ·simp only [evS,Nat.reduceEqDiff,reduceIte,g23,iV]
     rw [wr (by omega) (by omega)]
     omega
  ·have hjl:j = obs.length:=by omega
   refine az (bQ (t:=false) ?_ (ox ?_))
   ·simp only [kq,cq,qw,isB,bV,scV]
    rw [vk (by omega)]
   have hlen:(qx obs.length dv dk).length = obs.length:=by rw [qx,List.length_map,List.length_range]
   rw [hjl,List.take_of_length_le (by omega)] at hcs
   have hcl:cs.length = obs.length:=by rw [hcs,List.length_map,hlen]
   rw [hcl] at g6
   rw [hcs] at hm
   simp only [aQ,Nat.beq_refl,cond_true]
   exact ⟨m,(by simp only [evS,Nat.reduceEqDiff,reduceIte,g1,g5,g22,g23,g6]; try rfl),hm⟩
 ·rintro Γ t ⟨m,g6,hm⟩
  replace G:=g6
  refine az (aq ?_)
  refine qV ?_
  refine qV ?_
  refine qV ?_
  refine aX ?_
  dsimp only [aQ]
  exact pZ ⟨.inr rfl,[.c (.sl m 1 0 obs.length),iV 0],0,by simp only [tK,evS,Nat.reduceEqDiff,reduceIte,g6]; rfl,cY,m,rfl,hm⟩
end Go.RM
namespace Go.RM
open Go.VM (T mV tI)
abbrev QSt:=(List Nat × List Bool) × List Nat
def Rx (q0:Nat) (p:QSt) (k:Nat):Option QSt:=match p.1.2[k]?,p.1.1[k]? with
 | some true,some _=>some p
 | some false,some _=>if p.2.length < 100000 then some ((p.1.1.set k q0,p.1.2.set k true),p.2++[k]) else none
 | _,_=>none
def L0 (to:List (List Nat)):Nat→QSt→Option (List Nat × List Bool)
 | 0,_=>none
 | f + 1,p=>match p.2 with
  | []=>some p.1
  | q0 :: _=>match to[q0]? with
   | none=>none
   | some l=>match l.foldlM (Rx q0) p with
    | none=>none
    | some p'=>L0 to f (p'.1,p'.2.drop 1)
def BQ (obs:List HO) (bv:List Nat):Nat→Nat→List Int→Option (List Int)
 | 0,_,_=>none
 | f + 1,i,acc=>if i = obs.length then some acc else match obs[i]?,bv[i]? with
  | some o,some p=>BQ obs bv f p (acc++[o.id])
  | _,_=>none
theorem XQ (obs:List HO) (bv:List Nat):∀ (f i:Nat) (a acc:List Int),BQ obs bv f i a = some acc→a.length≤acc.length
 | 0,_,_,_,h=>by simp [BQ] at h
 | f + 1,i,a,acc,h=>by
  simp only [BQ] at h
  split at h
  ·cases h; exact ik _
  ·split at h
   ·have:=XQ obs bv f _ _ acc h
    rw [lw] at this
    simp only [xw] at this
    omega
   ·simp at h
def S4 (orc:bZ) (rows roots:List (List T)) (id:Int) (k:Nat) (ok:Bool):Prop :=
 ∀ s,Cp orc p_T iK [.agg [.im 4 rows,.im 1 roots],.c (.sc (.int .i64 id))] s (fun _=>False) True fun v s'=>s = s'∧v = .tup [iV (k:Int),bV ok]
def aAQ (h:Hp) (x:X) (q:List Nat) (m:Nat):Prop:=∃ off xs,x = .sl m 1 off q.length∧h m = some (.cells cj xs)∧cut xs off (q.length * 1) = some (q.map nI)
theorem apV {xs ys:List X} {off n i:Nat} {y:X} (h:cut xs off n = some ys) (hi:ys[i]? = some y):xs[off + i]? = some y:=by
 unfold cut at h
 simp only at h
 cases hb:Nat.beq ((xs.drop off).take n).length n with
 | false=>rw [hb] at h; simp [gd] at h
 | true =>
  rw [hb] at h
  simp only [gd,cond_true,dw] at h
  rw [← h] at hi
  have:=(cw.1 hi).1
  rw [List.length_take] at this
  rw [Ak,if_pos (by omega),List.getElem?_drop] at hi
  exact hi
theorem aDz {xs:List X} {off n:Nat} {y:X} {ys:List X} (h:cut xs off ((n + 1) * 1) = some (y :: ys)) (hl:ys.length = n):cut xs (off + 1) (n * 1) = some ys:=by
 unfold cut at h ⊢
 simp only at h ⊢
 cases hb:Nat.beq ((xs.drop off).take ((n + 1) * 1)).length ((n + 1) * 1) with
 | false=>rw [hb] at h; simp [gd] at h
 | true =>
  rw [hb] at h
  simp only [gd,cond_true,dw] at h
  have e:(xs.drop (off + 1)).take (n * 1) = ys:=by
   have:(xs.drop off).take ((n + 1) * 1) = y :: ys:=h
   have h2:((xs.drop off).take ((n + 1) * 1)).drop 1 = ys:=by rw [this]; rfl
   rw [List.drop_take,List.drop_drop] at h2
   rw [← h2]
   congr 1
  rw [e,hl,Nat.mul_one,Nat.beq_refl]
  rfl
set_option maxHeartbeats 4000000 in
theorem aFj {orc:bZ} {b:Nat} {s:S} (hS:Sb b s) {rows roots:List (List T)} {e:Int} (hc:lV orc rows roots e) (he:e ≠ 0) (id:Int) :
  Cp orc p_T nQ [.agg [.im 4 rows,.im 1 roots],.c (.sc (.int .i64 id))] s (fun k=>b≤k) True fun v s'=>v = .tup [.c (.sc dZ),iV e]:=by
 have hle:=hS.le
 refine k8 (rf:=nj) rfl ?_
 unfold nj
 obtain ⟨Γ,hΓ⟩ : ∃ Γ,Γ = ofL [V.agg [.im 4 rows,.im 1 roots],.c (.sc (.int .i64 id))] 0 .lf:=⟨_,rfl⟩
 have g0:look Γ 0 = .agg [.im 4 rows,.im 1 roots]:=by rw [hΓ]; rfl
 rw [← hΓ]
 try clear G
 clear hΓ
 replace G:=g0
 refine az (aq ?_)
 refine oY rfl (MS.box hS zj) cK ?_
 refine ej hS ?_
 intro s1 hst1 hsc1 hS1
 have hn1:=hst1.self
 refine qV ?_
 refine qV ?_
 refine aX ?_
 dsimp only [aQ]
 refine az (az ?_)
 refine aq ?_
 refine qA ?_
 refine qC (hC:=hc s1) (h:=?_)
 intro v2 s2 hq2
 obtain ⟨rfl,rfl⟩:=hq2
 refine qV ?_
 refine aX ?_
 try dsimp only [aQ]
 refine az (aq ?_)
 refine qV ?_
 refine qP ?_
 refine aX ?_
 dsimp only [aQ]
 refine bQ (t:=true) ?_ ?_
 ·simp only [evS,Nat.reduceEqDiff,reduceIte]
  rw [vk he]
  rfl
 dsimp only [cond_true]
 refine az (aq ?_)
 refine qV ?_
 refine qV ?_
 refine qV ?_
 refine aX ?_
 dsimp only [aQ]
 exact pZ ⟨.inr rfl,[.c (.sc dZ),iV e],0,by simp only [tK,evS,Nat.reduceEqDiff,reduceIte]; rfl,cY,rfl⟩
set_option maxHeartbeats 4000000 in
theorem atW {orc:bZ} {b:Nat} {s:S} (hS:Sb b s) {rows roots:List (List T)} (hc:lV orc rows roots 0) {id:Int} {k:Nat} (hf:S4 orc rows roots id k false) :
  Cp orc p_T nQ [.agg [.im 4 rows,.im 1 roots],.c (.sc (.int .i64 id))] s (fun k=>b≤k) True fun v s'=>v = .tup [.c (.sc dZ),iV 5]:=by
 have hle:=hS.le
 refine k8 (rf:=nj) rfl ?_
 unfold nj
 obtain ⟨Γ,hΓ⟩ : ∃ Γ,Γ = ofL [V.agg [.im 4 rows,.im 1 roots],.c (.sc (.int .i64 id))] 0 .lf:=⟨_,rfl⟩
 have g0:look Γ 0 = .agg [.im 4 rows,.im 1 roots]:=by rw [hΓ]; rfl
 have g1:look Γ 1 = .c (.sc (.int .i64 id)):=by rw [hΓ]; rfl
 rw [← hΓ]
 try clear G
 clear hΓ
 replace G:=bw g0 g1
 refine az (aq ?_)
 refine oY rfl (MS.box hS zj) cK ?_
 refine ej hS ?_
 intro s1 hst1 hsc1 hS1
 have hn1:=hst1.self
 refine qV ?_
 refine qV ?_
 refine aX ?_
 dsimp only [aQ]
 refine az (az ?_)
 refine aq ?_
 refine qA ?_
 refine qC (hC:=hc s1) (h:=?_)
 intro v2 s2 hq2
 obtain ⟨rfl,rfl⟩:=hq2
 refine qV ?_
 refine aX ?_
 try dsimp only [aQ]
 refine az (aq ?_)
 refine qV ?_
 refine qP ?_
 refine aX ?_
 dsimp only [aQ]
 refine bQ (t:=false) ?_ (eW ?_)
 ·simp only [evS,Nat.reduceEqDiff,reduceIte]; rfl
 dsimp only [aQ]
 refine az (aq ?_)
 refine qA ?_
 refine qV ?_
 refine qC (hC:=hf s1) (h:=?_)
 intro v3 s3 hq3
 obtain ⟨rfl,rfl⟩:=hq3
 refine qV ?_
 refine qP ?_
 refine qP ?_
 refine qV ?_
 refine qV ?_
 refine aX ?_
 dsimp only [aQ]
 refine az (az ?_)
 refine aq ?_
 refine qV ?_
 refine qP ?_
 refine aX ?_
 try dsimp only [aQ]
 refine bQ (t:=true) (by simp only [evS,Nat.reduceEqDiff,reduceIte]; rfl) ?_
 dsimp only [cond_true]
 refine az (aq ?_)
 refine qV ?_
 refine qV ?_
 refine aX ?_
 dsimp only [aQ]
 exact pZ ⟨.inr rfl,[.c (.sc dZ),iV 5],0,by simp only [tK,evS,Nat.reduceEqDiff,reduceIte]; rfl,cY,rfl⟩
end Go.RM
namespace Go.RM
open Go.VM (T mV tI)
structure avj (b c2 pb mb kb:Nat) (t2 t:S) (bv:List Nat) (bk:List Bool):Prop where
 sb:Sb b t
 c:c2 + 3≤t.c
 nums:Nums t.h.get pb mb kb bv bk
 keep:∀ k,k < c2→t.h.get k = t2.h.get k
set_option maxHeartbeats 8000000 in
theorem aIJ {orc:bZ} {b:Nat} {s:S} (hS:Sb b s) {obs:List HO} {rts:List Int} {to fr:List (List Nat)} {ord vals:List Nat} {known:List Bool} (hB:AW orc obs rts to fr ord vals known) (hc:lV orc (obs.map eQ) (rts.map fY) 0) (htl:∀ l∈to,l.length≤1000) {id:Int} {want:Nat} (hf:S4 orc (obs.map eQ) (rts.map fY) id want true) (hwant:want < obs.length)
  {f:Nat} {bv:List Nat} {bk:List Bool} (hbfs:L0 to f (((List.replicate (obs.length + 1) 0).set obs.length obs.length,(List.replicate (obs.length + 1) false).set obs.length true),[obs.length]) = some (bv,bk))
  {kw:Bool} (hkw:bk[want]? = some kw) {f2:Nat} {acc:List Int} (hback:kw = true→BQ obs bv f2 want [] = some acc∧acc.length≤1000∧0 < acc.length) :
  Cp orc p_T nQ [.agg [.im 4 (obs.map eQ),.im 1 (rts.map fY)],.c (.sc (.int .i64 id))] s (fun k=>b≤k) True fun v s'=>(kw = false∧v = .tup [.c (.sc dZ),iV 5])∨(kw = true∧∃ m,v = .tup [.c (.sl m 1 0 acc.length),iV 0]∧s'.h.get m = some (.cells cj (acc.reverse.map sI))):=by
 have hle:=hS.le
 refine k8 (rf:=nj) rfl ?_
 unfold nj
 obtain ⟨Γ,hΓ⟩ : ∃ Γ,Γ = ofL [V.agg [.im 4 (obs.map eQ),.im 1 (rts.map fY)],.c (.sc (.int .i64 id))] 0 .lf:=⟨_,rfl⟩
 have g0:look Γ 0 = .agg [.im 4 (obs.map eQ),.im 1 (rts.map fY)]:=by rw [hΓ]; rfl
 have g1:look Γ 1 = .c (.sc (.int .i64 id)):=by rw [hΓ]; rfl
 rw [← hΓ]
 try clear G
 clear hΓ
 replace G:=bw g0 g1
 refine az (aq ?_)
 refine oY rfl (MS.box hS zj) cK ?_
 refine ej hS ?_
 intro s1 hst1 hsc1 hS1
 have hn1:=hst1.self
 refine qV ?_
 refine qV ?_
 refine aX ?_
 dsimp only [aQ]
 refine az (az ?_)
 refine aq ?_
 refine qA ?_
 refine qC (hC:=hc s1) (h:=?_)
 intro v2 s2 hq2
 obtain ⟨rfl,rfl⟩:=hq2
 refine qV ?_
 refine aX ?_
 try dsimp only [aQ]
 refine az (aq ?_)
 refine qV ?_
 refine qP ?_
 refine aX ?_
 dsimp only [aQ]
 refine bQ (t:=false) ?_ (eW ?_)
 ·simp only [evS,Nat.reduceEqDiff,reduceIte]; rfl
 dsimp only [aQ]
 refine az (aq ?_)
 refine qA ?_
 refine qV ?_
 refine qC (hC:=hf s1) (h:=?_)
 intro v3 s3 hq3
 obtain ⟨rfl,rfl⟩:=hq3
 refine qV ?_
 refine qP ?_
 refine qP ?_
 refine qV ?_
 refine qV ?_
 refine aX ?_
 dsimp only [aQ]
 refine az (az ?_)
 refine aq ?_
 refine qV ?_
 refine qP ?_
 refine aX ?_
 try dsimp only [aQ]
 refine bQ (t:=false) (by simp only [evS,Nat.reduceEqDiff,reduceIte]; rfl) (eW ?_)
 dsimp only [aQ]
 replace G:=bw g0 g1
 refine az (aq ?_)
 refine qAL ?_
 refine qCL (hC:=hB.cp b s1 hS1) (h:=?_)
 intro v4 s4 hq4
 obtain ⟨g,rfl,hSg,hcg,hkg,hG⟩:=hq4
 replace hn1:s4.h.get _ = _:=(hkg _ (by omega)).trans hn1
 refine qVL ?_
 refine aX ?_
 dsimp only [aQ]
 obtain ⟨own,nt,nf,no,np,nv,nk,xs,xf,hg,hto,hfr,hno,hN,hown,⟨v1,v2,v3,v4,v5,v6,v7⟩,⟨u1,u2,u3,u4,u5,u6,u7⟩⟩:=hG.ex
 have hsm:=hB.small
 have htolen:=hB.tol
 rw [htolen] at hg
 refine az (aq ?_)
 refine qVL ?_
 refine qPL ?_
 refine qPL ?_
 refine qLL ?_
 refine qPL ?_
 refine qCL (hC:=Q6 hSg (obs.length + 1) (by omega)) (h:=?_)
 intro v5 s5 hq5
 obtain ⟨hS5,pb,mb,kb,rfl,hD,e1,e2,e3,ec,hk5⟩:=hq5
 replace hn1:s5.h.get _ = _:=(hk5 _ (by omega)).trans hn1
 replace hg:s5.h.get _ = _:=(hk5 _ (by omega)).trans hg
 refine qVL ?_
 refine aX ?_
 dsimp only [aQ]
 refine az (aq ?_)
 refine qPL ?_
 refine qLL ?_
 refine qPL ?_
 refine qVL ?_
 refine aX ?_
 dsimp only [aQ]
 refine az (aq ?_)
 refine qVL ?_
 refine qVL ?_
 refine qVL ?_
 refine qCL (hC:=Ux hS5 hD ⟨by omega,by omega,by omega⟩ ⟨by omega,by omega,by omega⟩ (by rw [mw]; exact Nat.lt_succ_self _) (by rw [mw]; exact Nat.lt_succ_self _)) (h:=?_)
 intro v6 s6 hq6
 obtain ⟨hS6,hD6,hc6,hk6⟩:=hq6
 replace hn1:s6.h.get _ = _:=(hk6 _ (by omega) (by omega)).trans hn1
 replace hg:s6.h.get _ = _:=(hk6 _ (by omega) (by omega)).trans hg
 refine aX ?_
 dsimp only [aQ]
 have hT:avj b s4.c pb mb kb s4 s6 ((List.replicate (obs.length + 1) 0).set obs.length obs.length) ((List.replicate (obs.length + 1) false).set obs.length true):=⟨hS6,by omega,hD6,fun k hk=>by rw [hk6 k (by omega) (by omega)]; exact hk5 k hk⟩
 have bds:b≤pb∧b≤mb∧b≤kb∧s4.c≤pb∧s4.c≤mb∧s4.c≤kb∧pb < s4.c + 3∧mb < s4.c + 3∧kb < s4.c + 3∧pb ≠ mb∧pb ≠ kb∧mb ≠ kb:=by omega
 have hn14:=(hT.keep s.c (by omega)).symm.trans hn1
 have hg4:=(hT.keep g u1).symm.trans hg
 have hTc:=hT.c
 try clear G
 clear hD6 hk6 hD hk5 e1 e2 e3 ec
 refine fW (fun Γ t=>look Γ 2 = .c (.ptr s.c 0)∧look Γ 7 = iV (want:Int)∧look Γ 10 = .c (.ptr pb 0)∧look Γ 11 = iV (obs.length:Int)∧avj b s4.c pb mb kb s4 t bv bk) ?_ ?_
 ·skip
  replace G:=bw g0 g1
  refine az (aq ?_)
  refine qVL ?_
  refine qM (MS.bsl1 hS6 iW) ?_
  refine ej hS6 ?_
  intro s7 hst7 hsc7 hS7
  replace hn1:=hst7.at hn1 (by omega)
  replace hg:=hst7.at hg (by omega)
  have hn7:=hst7.self
  refine qVL ?_
  refine aX ?_
  dsimp only [aQ]
  refine dz (KV (fun f Γ t=>look Γ 2 = .c (.ptr s.c 0)∧look Γ 7 = iV (want:Int)∧look Γ 9 = .c (.ptr g 0)∧look Γ 10 = .c (.ptr pb 0)∧look Γ 11 = iV (obs.length:Int)∧∃ (p:QSt) (x:X) (m:Nat),L0 to f p = some (bv,bk)∧look Γ 12 = .c x∧aAQ t.h.get x p.2 m∧s4.c + 3≤m∧avj b s4.c pb mb kb s4 t p.1.1 p.1.2) f ⟨lkL,lkL,lkL,lkL,lkL,_,_,s6.c,hbfs,lkL,⟨0,_,rfl,hn7,rfl⟩,hTc,hS7,by omega,?_,fun k hk=>by rw [hst7.keep k (by omega)]; exact hT.keep k hk⟩ ?_)
  ·exact hT.nums.keep (hst7.keep _ (by omega)) (hst7.keep _ (by omega)) (hst7.keep _ (by omega))
  try clear G
  clear g0 g1 hT hbfs f Γ hn1 hg hn7
  rintro f Γ t ⟨g2,g7,g9,g10,g11,p,x,m,hbfs,g12,hQ,hm4,hT⟩
  obtain ⟨off,qs,rfl,hqm,hqc⟩:=hQ
  have hS:=hT.sb
  have hD:=hT.nums
  have hD1:=hD.box
  have hD2:=hD.vals
  have hD3:=hD.known
  have hnt:t.h.get s.c = _:=(hT.keep s.c (by omega)).trans hn14
  have hgt:t.h.get g = _:=(hT.keep g u1).trans hg4
  have htt:Rows t.h.get own 0 nt to xs:=hto.keep (hT.keep nt u2) (fun n i hn=>hT.keep n (hown n _ hn).2)
  have hta:=htt.arr
  have hmt:=hS.lt hqm
  have htc:=hT.c
  cases f with
  | zero=>simp [L0] at hbfs
  | succ f =>
   simp only [L0] at hbfs
   refine az (az ?_)
   replace G:=bw g2 (bw g7 (bw g9 (bw g10 (bw g11 g12))))
   refine aq ?_
   refine qV ?_
   refine qP ?_
   refine qP ?_
   refine aX ?_
   try dsimp only [aQ]
   split at hbfs
   ·rename_i hq0
    refine bQ (t:=false) ?_ (ox ?_)
    ·simp only [evS,reduceIte,isB,hq0]; rfl
    have hp1:p.1 = (bv,bk):=Option.some.inj hbfs
    rw [hp1] at hT
    simp only [aQ,Nat.beq_refl,cond_true]
    exact ⟨lk,lk,lk,lk,hT⟩
   ·rename_i q0 qr hq0
    rw [hq0] at hqc
    have hql:p.2.length = qr.length + 1:=by rw [hq0]; rfl
    refine bQ (t:=true) ?_ (eW ?_)
    ·simp only [evS,reduceIte,isB]
     rw [decide_eq_true (by omega)]
    dsimp only [aQ]
    split at hbfs
    ·simp at hbfs
    rename_i l hl
    split at hbfs
    ·simp at hbfs
    rename_i p' hfold
    have hil:q0 < to.length:=(cw.1 hl).1
    obtain ⟨xr,hxr⟩ : ∃ x,xs[q0]? = some x:=⟨_,ck (by rw [hto.len]; exact hil)⟩
    have hll:=htl l (iw hl)
    have hq0c:qs[off + 0 * 1]? = some (nI q0):=apV (i:=0 * 1) hqc rfl
    have hqpos:0 < p.2.length:=by omega
    refine fW (fun Γ t=>look Γ 2 = .c (.ptr s.c 0)∧look Γ 7 = iV (want:Int)∧look Γ 9 = .c (.ptr g 0)∧look Γ 10 = .c (.ptr pb 0)∧look Γ 11 = iV (obs.length:Int)∧∃ (x:X) (m:Nat) (r:List Nat),look Γ 12 = .c x∧p'.2 = q0 :: r∧aAQ t.h.get x p'.2 m∧s4.c + 3≤m∧avj b s4.c pb mb kb s4 t p'.1.1 p'.1.2) (dz ?_) ?_
    ·refine fW (fun Γ t'=>t = t'∧look Γ 2 = .c (.ptr s.c 0)∧look Γ 7 = iV (want:Int)∧look Γ 9 = .c (.ptr g 0)∧look Γ 10 = .c (.ptr pb 0)∧look Γ 11 = iV (obs.length:Int)∧look Γ 12 = .c (.sl m 1 off p.2.length)∧look Γ 60 = .c xr∧look Γ 61 = iV (l.length:Int)∧look Γ 62 = iV 0) ?_ ?_
     ·rcases htt.row q0 xr l hxr hl with ⟨hx1,hx2⟩ | ⟨n,hx1,hx2,hx3⟩
      ·rw [hx1] at hxr
       replace G:=bw g2 (bw g7 (bw g9 (bw g10 (bw g11 g12))))
       refine sj rfl ?_
       refine rV ?_
       refine rP ?_
       refine rP ?_
       refine Az rfl G4 cK (fun x hx=>by simp at hx) ?_
       refine rV ?_
       refine uX rfl aEj ?_
       refine rL ?_
       refine rX ?_
       refine rL ?_
       refine rP ?_
       refine rV ?_
       refine wz ?_
       try dsimp only [aQ]
       rw [hx1,hx2]
       exact ⟨rfl,lk,lk,lk,lk,lk,lk,lk,lk,lk⟩
      ·rw [hx1] at hxr
       replace G:=bw g2 (bw g7 (bw g9 (bw g10 (bw g11 g12))))
       refine sj rfl ?_
       refine rV ?_
       refine rP ?_
       refine rP ?_
       refine Az rfl G4 cK (fun x hx=>by simp at hx) ?_
       refine rV ?_
       refine uX rfl aEj ?_
       refine rL ?_
       refine rX ?_
       refine rL ?_
       refine rP ?_
       refine rV ?_
       refine wz ?_
       try dsimp only [aQ]
       rw [hx1]
       exact ⟨rfl,lk,lk,lk,lk,lk,lk,lk,lk,lk⟩
     ·have hQ0:aAQ t.h.get (.sl m 1 off p.2.length) p.2 m:=⟨off,qs,rfl,hqm,by rw [hq0]; exact hqc⟩
      try clear G
      clear g2 g7 g9 g10 g11 g12 hD1 hD2 hD3 hD hnt hgt hta hbfs
      rintro Γ2 t' ⟨rfl,g2,g7,g9,g10,g11,g12,g60,g61,g62⟩
      refine dz (uJ (fun Γ t=>look Γ 2 = .c (.ptr s.c 0)∧look Γ 7 = iV (want:Int)∧look Γ 9 = .c (.ptr g 0)∧look Γ 10 = .c (.ptr pb 0)∧look Γ 11 = iV (obs.length:Int)∧look Γ 60 = .c xr∧look Γ 61 = iV (l.length:Int)∧∃ (j:Nat) (pj:QSt) (x:X) (m:Nat) (r:List Nat),look Γ 62 = iV (j:Int)∧look Γ 12 = .c x∧j≤l.length∧(l.drop j).foldlM (Rx q0) pj = some p'∧pj.2 = q0 :: r∧aAQ t.h.get x pj.2 m∧s4.c + 3≤m∧avj b s4.c pb mb kb s4 t pj.1.1 pj.1.2) (fun Γ _=>match look Γ 62 with
       | .c (.sc (.int _ i))=>l.length - i.toNat
       | _=>0) ⟨g2,g7,g9,g10,g11,g60,g61,0,p,_,m,qr,g62,g12,Nat.zero_le _,hfold,hq0,hQ0,hm4,hT⟩ ?_)
      try clear G
      clear g2 g7 g9 g10 g11 g12 g60 g61 g62 Γ2 hQ0 hT hfold hq0c hqpos hql hqc hqm hq0 hS htt hmt htc hm4 qs off m qr p
      rintro Γ2 t' ⟨g2,g7,g9,g10,g11,g60,g61,j,pj,x,m,qr,g62,g12,hj,hfold,hq0,hQ,hm4,hT⟩
      obtain ⟨off,qs,rfl,hqm,hqc⟩:=hQ
      have hS:=hT.sb
      have hD:=hT.nums
      have hD1:=hD.box
      have hD2:=hD.vals
      have hD3:=hD.known
      have htt:Rows t'.h.get own 0 nt to xs:=hto.keep (hT.keep nt u2) (fun n i hn=>hT.keep n (hown n _ hn).2)
      have hmt:=hS.lt hqm
      have htc:=hT.c
      replace G:=bw g2 (bw g7 (bw g9 (bw g10 (bw g11 (bw g60 (bw g61 (bw g62 g12)))))))
      refine az (aq ?_)
      refine qP ?_
      refine aX ?_
      dsimp only [aQ]
      by_cases hjl:j < l.length
      ·refine az (bQ (t:=true) ?_ (eW ?_))
       ·simp only [kq,cq,qw,isB,bV,scV]
        rw [decide_eq_true (by omega)]
       dsimp only [aQ]
       obtain ⟨k,hk⟩ : ∃ k,l[j]? = some k:=⟨_,ck hjl⟩
       have hdrop:l.drop j = k :: l.drop (j + 1):=by
        have hh:=(cw.1 hk)
        rw [List.drop_eq_getElem_cons hh.1,hh.2]
       rw [hdrop,List.foldlM_cons,Option.bind_eq_bind,ak] at hfold
       obtain ⟨p2,hstep,hfold⟩:=hfold
       rcases htt.row q0 xr l hxr hl with ⟨hx1,hx2⟩ | ⟨n,hx1,hrow,hx3⟩
       ·rw [hx2] at hjl; simp at hjl
       rw [hx1] at g60
       have hbn:=(hown n _ hx3).1
       have hbn2:=(hown n _ hx3).2
       have hkn:(l.map nI)[j]? = some (nI k):=by rw [gw,hk]; rfl
       refine fW (fun Γ t=>look Γ 2 = .c (.ptr s.c 0)∧look Γ 7 = iV (want:Int)∧look Γ 9 = .c (.ptr g 0)∧look Γ 10 = .c (.ptr pb 0)∧look Γ 11 = iV (obs.length:Int)∧look Γ 60 = .c xr∧look Γ 61 = iV (l.length:Int)∧look Γ 62 = iV (j:Int)∧∃ (x:X) (m:Nat) (r:List Nat),look Γ 12 = .c x∧p2.2 = q0 :: r∧aAQ t.h.get x p2.2 m∧s4.c + 3≤m∧avj b s4.c pb mb kb s4 t p2.1.1 p2.1.2) (dz ?_) ?_
       ·skip
        replace G:=bw g2 (bw g7 (bw g9 (bw g10 (bw g11 (bw g60 (bw g61 (bw g62 g12)))))))
        refine az (aq ?_)
        refine qX ?_
        refine qL ?_
        refine qV ?_
        refine aX ?_
        dsimp only [aQ]
        unfold Rx at hstep
        split at hstep
        ·rename_i hdk hdv
         cases hstep
         have hkl:k < pj.1.2.length:=(cw.1 hdk).1
         have hdk':(pj.1.2.map bI)[k]? = some (.sc (.bool true)):=by rw [gw,hdk]; rfl
         replace G:=bw g2 (bw g7 (bw g9 (bw g10 (bw g11 (bw g60 (bw g61 (bw g62 g12)))))))
         refine az (aq ?_)
         refine qV ?_
         refine qP ?_
         refine qP ?_
         refine qL ?_
         refine qV ?_
         refine qX ?_
         refine qL ?_
         refine qP ?_
         refine aX ?_
         dsimp only [aQ]
         refine bQ (t:=false) (by simp only [evS,reduceIte]; rfl) (eW ?_)
         exact ⟨lk,lk,lk,lk,lk,(by simp only [evS,Nat.reduceEqDiff,reduceIte,G,hx1]; try rfl),lk,lk,_,m,qr,lk,hq0,⟨off,qs,rfl,hqm,hqc⟩,hm4,hT⟩
        ·rename_i hdk hdv
         split at hstep
         ·rename_i hcap
          cases hstep
          have hkl:k < pj.1.2.length:=(cw.1 hdk).1
          have hkl2:k < pj.1.1.length:=(cw.1 hdv).1
          have hdk':(pj.1.2.map bI)[k]? = some (.sc (.bool false)):=by rw [gw,hdk]; rfl
          have hqc2:=hqc
          rw [hq0] at hqc2
          have hq0c:qs[off + 0 * 1]? = some (nI q0):=apV (i:=0 * 1) hqc2 rfl
          have hqpos:0 < pj.2.length:=by rw [hq0]; exact Nat.succ_pos _
          have rq:nJ 8 (pj.2.length + 1) = true:=F5 (by omega)
          replace G:=bw g2 (bw g7 (bw g9 (bw g10 (bw g11 (bw g60 (bw g61 (bw g62 g12)))))))
          refine az (aq ?_)
          refine qV ?_
          refine qP ?_
          refine qP ?_
          refine qL ?_
          refine qV ?_
          refine qX ?_
          refine qL ?_
          refine qP ?_
          refine aX ?_
          dsimp only [aQ]
          refine bQ (t:=true) (by simp only [evS,reduceIte]; rfl) ?_
          dsimp only [cond_true]
          refine az (aq ?_)
          refine qV ?_
          refine qV ?_
          refine qV ?_
          refine dq rfl aEj ?_
          refine qL ?_
          refine qC (hC:=Ux hS hD ⟨bds.1,bds.2.1,bds.2.2.1⟩ ⟨by omega,by omega,by omega⟩ hkl2 hkl) (h:=?_)
          intro v8 s8 hq8
          obtain ⟨hS8,hD8,hc8,hk8⟩:=hq8
          replace hqm:s8.h.get m = _:=(hk8 m (by omega) (by omega)).trans hqm
          refine aX ?_
          dsimp only [aQ]
          refine aq ?_
          refine qV ?_
          refine qV ?_
          refine qM (MS.bsl1 hS8 aK) ?_
          refine ej hS8 ?_
          intro s9 hst9 hsc9 hS9
          replace hqm:=hst9.at hqm (by omega)
          have hn9:=hst9.self
          refine oY rfl (MS.app_own hS9 aK (by assumption) (by first | assumption | rfl) aK (by assumption) (by first | assumption | rfl) rfl (by first | assumption | rfl)) cK ?_
          refine ZK hS9 (by omega) (by omega) ?_
          intro s10 hst10 hS10
          have hsa10:=hst10.c
          first | replace hqm:=hst10.at hqm (by omega) (by omega) | replace hqm:=hst10.dead
          first | replace hn9:=hst10.at hn9 (by omega) (by omega) | replace hn9:=hst10.dead
          have hn10:=hst10.self
          refine qV ?_
          refine aX ?_
          try dsimp only [aQ]
          have hcat:(pj.2.map nI++List.take (1 * 1) (List.drop 0 [nI k])) = (pj.2++[k]).map nI:=by rw [List.map_append]; rfl
          rw [hcat] at hn10
          have hkk:∀ q,q ≠ m→q < t'.c→s10.h.get q = s8.h.get q:=fun q h1 h2=>by rw [hst10.keep q h1 (by omega),hst9.keep q (by omega)]
          refine ⟨lk,lk,lk,lk,lk,(by simp only [evS,Nat.reduceEqDiff,reduceIte,G,hx1]; try rfl),lk,lk,.sl s9.c 1 0 (pj.2++[k]).length,s9.c,qr++[k],(by simp only [evS,Nat.reduceEqDiff,reduceIte,G,lw,xw]; try rfl),by rw [hq0]; rfl,⟨0,_,rfl,hn10,Z5 (by rw [List.length_map])⟩,by omega,hS10,by omega,hD8.keep (hkk _ (by omega) (hS.lt hD1)) (hkk _ (by omega) (hS.lt hD2)) (hkk _ (by omega) (hS.lt hD3)),fun q hq=>?_⟩
          rw [hkk q (by omega) (by omega),hk8 q (by omega) (by omega)]
          exact hT.keep q hq
         ·simp at hstep
        ·simp at hstep
       ·try clear G
        clear g2 g7 g9 g10 g11 g60 g61 g12
        rintro Γ3 t3 ⟨g2,g7,g9,g10,g11,g60,g61,k62,x3,m3,r3,g12,hr3,hQ3,hm3,hT3⟩
        replace G:=bw g2 (bw g7 (bw g9 (bw g10 (bw g11 (bw g60 (bw g61 (bw k62 g12)))))))
        refine aq ?_
        refine qP ?_
        refine qV ?_
        refine aX ?_
        try dsimp only [aQ]
        refine ⟨⟨lk,lk,lk,lk,lk,lk,lk,j + 1,p2,x3,m3,r3,?_,lk,by omega,hfold,hr3,hQ3,hm3,hT3⟩,?_⟩
        ·simp only [evS,Nat.reduceEqDiff,reduceIte]
         rw [wr (by omega) (by omega)]; rfl
        ·simp only [evS,Nat.reduceEqDiff,reduceIte,g62,iV]
         rw [wr (by omega) (by omega)]
         omega
      ·have hjl:j = l.length:=by omega
       refine az (bQ (t:=false) ?_ (ox ?_))
       ·simp only [kq,cq,qw,isB,bV,scV]
        rw [vk (by omega)]
       rw [hjl,List.drop_length] at hfold
       simp only [List.foldlM_nil,Option.pure_def,dw] at hfold
       subst hfold
       simp only [aQ,Nat.beq_refl,cond_true]
       have G:=bw g2 (bw g7 (bw g9 (bw g10 (bw g11 (bw g60 (bw g61 (bw g62 g12)))))))
       exact ⟨aK,aK,aK,aK,aK,_,m,qr,aK,hq0,⟨off,qs,rfl,hqm,hqc⟩,hm4,hT⟩
    ·try clear G
     clear g2 g7 g9 g10 g11 g12 hD1 hD2 hD3 hD hnt hgt hta htt hqm hqc hq0c hS hT
     rintro Γ2 t2 ⟨g2,g7,g9,g10,g11,x2,m2,r2,g12,hr2,hQ2,hm2,hT2⟩
     obtain ⟨off2,qs2,rfl,hqm2,hqc2⟩:=hQ2
     have hql2:p'.2.length = r2.length + 1:=by rw [hr2]; rfl
     replace G:=bw g2 (bw g7 (bw g9 (bw g10 (bw g11 g12))))
     refine aq ?_
     refine qV ?_
     refine dq rfl (by first | exact alX  (m:=1) aK aK (by omega) | (simp only [evS,Nat.reduceEqDiff,reduceIte,PU,bJ,scV,bV,iV,dZ,isB,isI,pX,wQ,mkV,G]; rfl)) ?_
     refine qV ?_
     refine aX ?_
     try dsimp only [aQ]
     rw [hr2] at hqc2
     refine ⟨f,Nat.lt_succ_self f,lk,lk,lk,lk,lk,_,_,m2,hbfs,lk,⟨off2 + 1,qs2,?_,hqm2,?_⟩,hm2,hT2⟩
     ·simp only [hr2,List.drop_succ_cons,List.drop_zero,List.length_cons,Nat.add_sub_cancel]
     ·simp only [hr2,List.drop_succ_cons,List.drop_zero]
      exact aDz hqc2 (List.length_map _)
 ·try clear G
  clear g0 g1 hT hbfs hn1 hg
  rintro Γ2 t ⟨g2,g7,g10,g11,hT⟩
  have hS:=hT.sb
  have hD:=hT.nums
  have hD1:=hD.box
  have hD2:=hD.vals
  have hD3:=hD.known
  have htc:=hT.c
  have hnt:t.h.get s.c = _:=(hT.keep s.c (by omega)).trans hn14
  have hwl:want < bk.length:=(cw.1 hkw).1
  have hkw':(bk.map bI)[want]? = some (.sc (.bool kw)):=by rw [gw,hkw]; rfl
  refine az (az ?_)
  replace G:=bw g2 (bw g7 (bw g10 g11))
  refine aq ?_
  refine qV ?_
  refine qP ?_
  refine qP ?_
  refine qL ?_
  refine qV ?_
  refine qX ?_
  refine qL ?_
  refine qP ?_
  refine aX ?_
  try dsimp only [aQ]
  cases hkw0:kw with
  | false =>
   refine bQ (t:=true) (by simp only [evS,reduceIte,hkw0]; rfl) ?_
   dsimp only [cond_true]
   replace G:=bw g2 (bw g7 (bw g10 g11))
   refine az (aq ?_)
   refine qV ?_
   refine qV ?_
   refine aX ?_
   dsimp only [aQ]
   exact pZ ⟨.inr rfl,[.c (.sc dZ),iV 5],0,by simp only [tK,evS,Nat.reduceEqDiff,reduceIte]; rfl,cY,.inl ⟨rfl,rfl⟩⟩
  | true =>
   refine bQ (t:=false) (by simp only [evS,reduceIte,hkw0]; rfl) (eW ?_)
   dsimp only [aQ]
   obtain ⟨hback,hacl,hac0⟩:=hback hkw0
   replace G:=bw g2 (bw g7 (bw g10 g11))
   refine az (aq ?_)
   refine qV ?_
   refine aX ?_
   dsimp only [aQ]
   refine fW (fun Γ t=>∃ m,look Γ 15 = .c (.sl m 1 0 acc.length)∧t.h.get m = some (.cells cj (acc.map sI))∧Sb b t∧b≤m) ?_ ?_
   ·skip
    refine az (aq ?_)
    refine qV ?_
    refine qV ?_
    refine aX ?_
    dsimp only [aQ]
    refine dz (KV (fun f Γ t2=>look Γ 2 = .c (.ptr s.c 0)∧look Γ 10 = .c (.ptr pb 0)∧look Γ 11 = iV (obs.length:Int)∧∃ (i m:Nat) (a:List Int) (x:X),look Γ 16 = iV (i:Int)∧look Γ 15 = .c x∧BQ obs bv f i a = some acc∧RowN t2.h.get cj x (a.map sI) m∧(t.c≤m∧(m < t2.c∨m = t2.c + 1000))∧Sb b t2∧t.c≤t2.c∧∀ k,k < t.c→t2.h.get k = t.h.get k) f2 ⟨lk,lk,lk,want,t.c + 1000,[],_,lk,lk,hback,.inl ⟨rfl,rfl⟩,⟨by omega,.inr rfl⟩,hS,ik _,fun _ _=>rfl⟩ ?_)
    try clear G
    clear g2 g7 g10 g11 Γ2 hback
    rintro f Γ2 t2 ⟨g2,g10,g11,i,m,a,x,g16,g15,hback,hrow,hmt,hS2,hc2,hk2⟩
    cases f with
    | zero=>simp [BQ] at hback
    | succ f =>
     simp only [BQ] at hback
     have e1:t2.h.get s.c = _:=(hk2 _ (by omega)).trans hnt
     have e2:t2.h.get pb = _:=(hk2 _ (hS.lt hD1)).trans hD1
     have e3:t2.h.get mb = _:=(hk2 _ (hS.lt hD2)).trans hD2
     have lt2:=hS.lt hD1
     have hleT:=hS.le
     have lt1:=hS.lt hnt
     have lt3:=hS.lt hD2
     refine az (az ?_)
     replace G:=bw g2 (bw g10 (bw g11 (bw g16 g15)))
     refine aq ?_
     refine qV ?_
     refine qV ?_
     refine qP ?_
     refine aX ?_
     try dsimp only [aQ]
     split at hback
     ·rename_i hio
      cases hback
      refine bQ (t:=false) ?_ (ox ?_)
      ·simp only [evS,reduceIte,isB]
       rw [decide_eq_true (by omega)]; rfl
      simp only [aQ,Nat.beq_refl,cond_true]
      rcases hrow with ⟨h1,h2⟩ | ⟨h1,h2⟩
      ·rw [List.map_eq_nil_iff] at h2; rw [h2] at hac0; simp at hac0
      ·rw [h1,List.length_map] at g15
       exact ⟨m,(by simp only [evS,Nat.reduceEqDiff,reduceIte,g2,g10,g11,g16,g15]; try rfl),h2,hS2,by omega⟩
     ·rename_i hio
      refine bQ (t:=true) ?_ (eW ?_)
      ·simp only [evS,reduceIte,isB]
       rw [vk (by omega)]; rfl
      dsimp only [aQ]
      split at hback
      ·rename_i o pp ho hpp
       have hil:i < bv.length:=(cw.1 hpp).1
       have hrowo:(obs.map eQ)[i]? = some [.sc (.int .i64 o.id),tI o.size,.sc (.string o.ty),.sl 1 (o.refs.map fY)]:=by rw [gw,ho]; rfl
       have hpp':(bv.map nI)[i]? = some (nI pp):=by rw [gw,hpp]; rfl
       have hal:a.length + 1≤1000000:=by have:=XQ obs bv f _ _ acc hback; rw [lw] at this; simp only [xw] at this; omega
       have r8:nJ 8 ((a.map sI).length + 1) = true:=F5 (by rw [List.length_map]; exact hal)
       refine az (dz ?_)
       replace G:=bw g2 (bw g10 (bw g11 (bw g16 g15)))
       refine aq ?_
       refine qV ?_
       refine qP ?_
       refine qL ?_
       refine qV ?_
       refine qX ?_
       refine qP ?_
       refine qL ?_
       refine qM (MS.bsl1 hS2 aK) ?_
       refine ej hS2 ?_
       intro s11 hst11 hsc11 hS11
       replace e1:=hst11.at e1 (by omega)
       replace e2:=hst11.at e2 (by omega)
       replace e3:=hst11.at e3 (by omega)
       have hn11:=hst11.self
       replace hrow:=hrow.keep (hst11.keep _ (by omega))
       refine HQ rfl hS11 aK hrow (by omega) aK (by assumption) (by first | assumption | rfl) cK ?_
       intro s12 hst12 hS12
       have hsa12:=hst12.c
       replace e1:=hst12.at e1 (by omega) (by omega)
       replace e2:=hst12.at e2 (by omega) (by omega)
       replace e3:=hst12.at e3 (by omega) (by omega)
       replace hn11:=hst12.at hn11 (by omega) (by omega)
       have hn12:=hst12.self
       refine qV ?_
       refine aX ?_
       try dsimp only [aQ]
       have hcat:a.map sI++[X.sc (.int .i64 o.id)] = (a++[o.id]).map sI:=by rw [List.map_append]; rfl
       rw [hcat] at hn12
       have hk12:∀ q,q < t.c→s12.h.get q = t.h.get q:=fun q hq=>by rw [hst12.keep q (by omega) (by omega),hst11.keep q (by omega)]; exact hk2 q hq
       refine aq ?_
       refine qV ?_
       refine qP ?_
       refine qP ?_
       refine qL ?_
       refine qV ?_
       refine qX ?_
       refine qL ?_
       refine qV ?_
       refine aX ?_
       try dsimp only [aQ]
       refine ⟨f,Nat.lt_succ_self f,lk,lk,lk,pp,s11.c,a++[o.id],.sl s11.c 1 0 ((a.map sI).length + 1),lk,lk,hback,.inr ⟨by rw [List.length_map,List.length_map,lw]; rfl,hn12⟩,⟨by omega,.inl (by omega)⟩,hS12,by omega,hk12⟩
      ·simp at hback
   ·try clear G
    clear g2 g7 g10 g11 hD1 hD2 hD3 hD hnt hS hT
    rintro Γ3 t3 ⟨m,g15,hm,hS3,hbm⟩
    replace G:=g15
    refine az (aq ?_)
    refine qVL ?_
    refine qCL (hC:=RZ hS3 hm hbm (by rw [List.length_map]; omega)) (h:=?_)
    intro v13 s13 hq13
    obtain ⟨hS13,hm13,hc13,hk13⟩:=hq13
    refine aX ?_
    dsimp only [aQ]
    refine az (aq ?_)
    refine qVL ?_
    refine qVL ?_
    refine qVL ?_
    refine aX ?_
    dsimp only [aQ]
    refine pZ ⟨.inr rfl,[.c (.sl m 1 0 acc.length),iV 0],0,by simp only [tK,evS,Nat.reduceEqDiff,reduceIte,g15]; rfl,cY,.inr ⟨rfl,m,rfl,?_⟩⟩
    rw [hm13,← List.map_reverse]
end Go.RM
namespace Go.Proofs
open Go.RowKit Go.Shelf
attribute [local go_sem] Oper.semAt_some
def Good (A:Addr) (b off:Nat) (zs:List Int) (W:World):Prop :=
 ∃ o cap,W.cell? A = some (.slice (some ⟨b,o,none⟩) zs.length cap)∧(0 < zs.length→o = off)∧∀ j,j < zs.length→W.cell? ⟨b,off + j,none⟩ = some (.int .i64 (zs[j]?.getD 0))
def upK {α:Type} (el:Nat→α) (k:Nat):List α:=(List.range k).map el
theorem azz {α:Type} (el:Nat→α) (k:Nat):upK el (k + 1) = upK el k++[el k]:=by simp [upK,List.range_succ]
theorem akq {α:Type} (el:Nat→α) (k:Nat):(upK el k).length = k:=by simp [upK]
set_option maxRecDepth 100000 in
set_option maxHeartbeats 2000000 in
theorem aOq {α:Type} (F:Fence) (n:Nat) (h8:F.fn 49) (hro:F.round = none) (hn:1≤n) (l Bs Bo b off:Nat) (zs:List Int) (hlz:zs.length < 1000000) (encs:α→Array Value) (el:Nat→α)
  (hel:∀ k,k < zs.length→encs (el k) = #[.int .i64 ((zs.length - 1 - k:Nat):Int),.int .i64 (zs[zs.length - 1 - k]?.getD 0)]) (J Jx:List α→World→Prop)
  (hY:∀ pre x W,J pre W→pre.length < zs.length→YieldAt F (n - 1) Try.prog l (encs x) W fun e W' =>
   (e = .returned (.bool true)∧J (pre++[x]) W'∧(Good ⟨Bs,Bo,none⟩ b off zs W→Good ⟨Bs,Bo,none⟩ b off zs W'))∨(e = .returned (.bool false)∧Jx (pre++[x]) W'))
  (W:World) (hG:Good ⟨Bs,Bo,none⟩ b off zs W) (h0:J [] W) :
  CallsIn F n Try.prog 49 #[.func (.yield l) #[] #[],.pointer (some ⟨Bs,Bo,none⟩)] W fun e W'=>(∃ v,e = .returned v) ∧
   ((∃ ys,ys = upK el zs.length∧J ys W')∨(∃ pre,True∧Jx pre W')):=by
 refine callsIn_of_wp Try.func49 rfl h8 ?_ hro
 simp only [Try.ntmps49,List.size_toArray,List.length_cons,List.length_nil,Nat.reduceAdd,Nat.reduceSub,Array.replicate_succ,Array.replicate_zero,List.push_toArray,List.append_toArray,List.nil_append,List.cons_append]
 obtain ⟨o0,cap0,hBs,ho0,_⟩:=id hG
 gi_wp2
 gi_loopw [3] (fun i wr=>∃ k:Nat,k≤zs.length∧i = .int .i64 ((zs.length:Int) - 1 - k)∧J (upK el k) wr∧Good ⟨Bs,Bo,none⟩ b off zs wr)
  (fun i _=>(intOf i + 1).toNat)
 case atStart =>
  refine ⟨0,Nat.zero_le _,?_,h0,hG⟩
  congr 1
  simp
 case round =>
  obtain ⟨k,hk,rfl,hJs,hnx⟩:=hrel
  clear hBs
  by_cases hlt:k < zs.length
  ·obtain ⟨o,cap,hbx,ho,hcx⟩:=id hnx
   obtain rfl:=ho (by omega)
   obtain ⟨fn,tmps,assign,body,hy,hR⟩:=hY _ (el k) wr hJs (by rw [akq]; exact hlt)
   rw [hel k hlt] at hy
   have hcx':=hcx (zs.length - 1 - k) (by omega)
   have hbs:=azz el k
   obtain ⟨i,hi⟩ : ∃ i,i = zs.length - 1 - k:=⟨_,rfl⟩
   have hi2:(zs.length:Int) - 1 - k = (i:Int):=by omega
   rw [← hi] at hy hcx'
   rw [hi2]
   have hil:i < zs.length:=by omega
   have hki:Unit→i + k + 1 = zs.length:=fun _=>by omega
   obtain ⟨v,hv⟩ : ∃ v,v = zs[i]?.getD 0:=⟨_,rfl⟩
   rw [← hv] at hy hcx'
   clear hi hi2 hv hcx ho
   gi_wp2
   refine hR.mono ?_
   rintro e W3 (⟨rfl,hJ3,hk3⟩ | ⟨rfl,hJx3⟩)
   ·gi_wp2
    go_roundw
    case rel =>
     refine ⟨k + 1,by have:=hki (); omega,?_,by rw [hbs]; exact hJ3,hk3 hnx⟩
     congr 1
     have:=hki ()
     omega
    case measure =>
     simp only [intOf]
     show (_:Int).toNat < (_:Int).toNat
     omega
   ·gi_wp2
    refine bodyPost_ret (results_none rfl _ _ _) rfl ?_
    exact ⟨⟨_,rfl⟩,.inr ⟨_,trivial,hJx3⟩⟩
  ·obtain rfl:k = zs.length:=by omega
   have hm:(zs.length:Int) - 1 - (zs.length:Int) = -1:=by omega
   rw [hm]
   gi_wp2
   go_end0
   exact ⟨⟨_,rfl⟩,.inl ⟨_,rfl,hJs⟩⟩
end Go.Proofs
namespace Go.RM
open Go.VM (T mV tI)
def p_heap_Retained_asg:RF:=⟨.region none [oP 9 (.mv (tO 31)) 2147483648],[]⟩
def p_heap_Retained_bod:RF:=⟨.block 1 (.seq (.region (some [0,0,3,7,0,16,0,112,240,496,1023,2047,4095]) [oP 32 (.load 1 false (tO 7)) 128,oP 33 (.mv (tO 9)) 512,oP 34 (.ixA 1 (tO 32) (tO 33)) 12884901888,oP 35 (.load 1 false (tO 34)) 17179869184,oP 36 (.fld 0 (tO 1)) 2,oP 37 (.load 1 false (tO 36)) 68719476736,oP 38 (.mv (tO 9)) 512,oP 39 (.ixA 4 (tO 37) (tO 38)) 412316860416,oP 40 (.fld 1 (tO 39)) 549755813888,oP 41 (.load 1 false (tO 40)) 1099511627776,oP 42 (.bin .add (tO 35) (tO 41)) 2233382993920,oP 43 (.ixA 1 (tO 32) (tO 33)) 12884901888,oN (.store 1 (tO 43) (tO 42)) 13194139533312]) (.region (some [0,0,2,6,14,0,62,126,255,511,0,0,3072,7168,16383,32767,65535]) [oP 44 (.load 1 false (tO 7)) 128,oP 45 (.load 1 false (tO 6)) 64,oP 46 (.nilc (tO 45)) 35184372088832,oP 47 (.fld 0 (tO 46)) 70368744177664,oP 48 (.load 1 false (tO 47)) 140737488355328,oP 49 (.mv (tO 9)) 512,oP 50 (.ixA 1 (tO 48) (tO 49)) 844424930131968,oP 51 (.load 1 false (tO 50)) 1125899906842624,oP 52 (.ixA 1 (tO 44) (tO 51)) 2269391999729664,oP 53 (.load 1 false (tO 52)) 4503599627370496,oP 54 (.load 1 false (tO 7)) 128,oP 55 (.mv (tO 9)) 512,oP 56 (.ixA 1 (tO 54) (tO 55)) 54043195528445952,oP 57 (.load 1 false (tO 56)) 72057594037927936,oP 58 (.bin .add (tO 53) (tO 57)) 153122387330596864,oP 59 (.ixA 1 (tO 44) (tO 51)) 2269391999729664,oN (.store 1 (tO 59) (tO 58)) 864691128455135232])),[]⟩
def ZY (szs zs:List Int) (i:Nat):List Int:=zs.set i (IntKind.i64.wrap (zs.getD i 0 + szs.getD i 0))
def akx (dv:List Nat) (zs:List Int) (i:Nat):List Int:=zs.set (dv.getD i 0) (IntKind.i64.wrap (zs.getD (dv.getD i 0) 0 + zs.getD i 0))
def D6 (szs:List Int) (dv:List Nat) (zs:List Int) (i:Nat):List Int:=akx dv (ZY szs zs i) i
set_option maxHeartbeats 4000000 in
theorem aHX {orc:bZ} {b:Nat} {t:S} (hSt:Sb b t) {obs:List HO} {rts:List T} {roots:List (List T)} {hb n6 n7 pd mv mk mz i:Nat} {dv:List Nat} {dk:List Bool} {zs:List Int} {Γ:Tr V}
  (g1:look Γ 1 = .c (.ptr hb 0)) (g6:look Γ 6 = .c (.ptr n6 0)) (g7:look Γ 7 = .c (.ptr n7 0)) (g9:look Γ 9 = iV (i:Int))
  (e1:t.h.get hb = some (.cells e8 [.im 4 (obs.map eQ),.im 1 roots])) (e6:t.h.get n6 = some (.cells mj [.ptr pd 0])) (e7:t.h.get n7 = some (.cells i8 [.sl mz 1 0 zs.length])) (hN:Nums t.h.get pd mv mk dv dk) (ez:t.h.get mz = some (.cells cj (zs.map sI)))
  (hn:obs.length≤60) (hi:i < obs.length) (hzl:zs.length = obs.length + 1) (hdl:dv.length = obs.length + 1) (hd:∀ v∈dv,v < obs.length + 1)
  (hne:mz ≠ hb∧mz ≠ n6∧mz ≠ n7∧mz ≠ pd∧mz ≠ mv∧mz ≠ mk) (hb0:b≤mz∧b≤hb∧b≤n6∧b≤n7∧b≤pd∧b≤mv) :
  Wp orc p_T p_heap_Retained_bod.code Γ t (fun k=>b≤k) True fun e Γ t'=>e = .normal∧Sb b t'∧t'.c = t.c∧t'.h.get mz = some (.cells cj ((D6 (obs.map HO.size) dv zs i).map sI))∧∀ k,k ≠ mz→t'.h.get k = t.h.get k:=by
 unfold p_heap_Retained_bod
 obtain ⟨b1,b2,b3,b4,b5,b6⟩:=hb0
 have c1:=hSt.lt ez
 have d1:=hN.box
 have d2:=hN.vals
 have o1:(obs.map eQ)[i]? = some (eQ (obs[i])):=by rw [gw,ck hi]; rfl
 have z1:(zs.map sI)[i]? = some (sI (zs[i]'(by omega))):=by rw [gw,ck (by omega)]; rfl
 have v1:(dv.map nI)[i]? = some (nI (dv[i]'(by omega))):=by rw [gw,ck (by omega)]; rfl
 have hdi:=hd (dv[i]'(by omega)) (List.getElem_mem _)
 refine dz ?_
 replace G:=bw g1 (bw g6 (bw g7 g9))
 refine az (sj rfl ?_)
 refine Az rfl Uz cK (fun x hx=>by simp at hx) ?_
 refine rVL ?_
 refine rXL ?_
 refine rLL ?_
 refine rPL ?_
 refine rLL ?_
 refine rVL ?_
 refine rXL ?_
 refine rPL ?_
 refine rLL ?_
 refine rPL ?_
 refine rXL ?_
 refine rTL ?_
 refine zX hSt (by omega) (by omega) ?_
 intro s1 hst1 hsc1 hS1
 first | replace e1:=hst1.at e1 (by omega) | replace e1:=hst1.self
 first | replace e6:=hst1.at e6 (by omega) | replace e6:=hst1.self
 first | replace e7:=hst1.at e7 (by omega) | replace e7:=hst1.self
 first | replace ez:=hst1.at ez (by omega) | replace ez:=hst1.self
 first | replace d1:=hst1.at d1 (by omega) | replace d1:=hst1.self
 first | replace d2:=hst1.at d2 (by omega) | replace d2:=hst1.self
 refine wz ?_
 dsimp only [aQ]
 have hr1:(zs.map sI).set i (.sc (.int .i64 (IntKind.i64.wrap (zs[i]'(by omega) + obs[i].size)))) = (ZY (obs.map HO.size) zs i).map sI:=by
  unfold ZY
  rw [List.map_set,List.getD,List.getD,gw,ck (by omega),ck hi]
  rfl
 rw [hr1] at ez
 have hk1:∀ k,k ≠ mz→s1.h.get k = t.h.get k:=hst1.keep
 try clear G
 clear hst1 z1 o1
 obtain ⟨zs1,hzs1⟩ : ∃ zs1,zs1 = ZY (obs.map HO.size) zs i:=⟨_,rfl⟩
 have hl1:zs1.length = obs.length + 1:=by rw [hzs1,ZY,uw]; exact hzl
 rw [← hzs1] at ez
 have z2:(zs1.map sI)[i]? = some (sI (zs1[i]'(by omega))):=by rw [gw,ck (by omega)]; rfl
 have z3:(zs1.map sI)[dv[i]'(by omega)]? = some (sI (zs1[dv[i]'(by omega)]'(by omega))):=by rw [gw,ck (by omega)]; rfl
 replace G:=bw g1 (bw g6 (bw g7 g9))
 refine sj rfl ?_
 refine Az rfl Uz cK (fun x hx=>by simp at hx) ?_
 refine rLL ?_
 refine rPL ?_
 refine rPL ?_
 refine rLL ?_
 refine rVL ?_
 refine rXL ?_
 refine rLL ?_
 refine rXL ?_
 refine rLL ?_
 refine rLL ?_
 refine rVL ?_
 refine rXL ?_
 refine rLL ?_
 refine rPL ?_
 refine rXL ?_
 refine rTL ?_
 refine zX hS1 (by omega) (by omega) ?_
 intro s2 hst2 hsc2 hS2
 first | replace e1:=hst2.at e1 (by omega) | replace e1:=hst2.self
 first | replace e6:=hst2.at e6 (by omega) | replace e6:=hst2.self
 first | replace e7:=hst2.at e7 (by omega) | replace e7:=hst2.self
 first | replace ez:=hst2.at ez (by omega) | replace ez:=hst2.self
 first | replace d1:=hst2.at d1 (by omega) | replace d1:=hst2.self
 first | replace d2:=hst2.at d2 (by omega) | replace d2:=hst2.self
 refine wz ?_
 try dsimp only [aQ]
 refine ⟨rfl,hS2,by omega,?_,fun k hk=>by rw [hst2.keep k hk,hk1 k hk]⟩
 rw [hst2.self]
 have hr2:(zs1.map sI).set (dv[i]'(by omega)) (.sc (.int .i64 (IntKind.i64.wrap ((zs1[dv[i]'(by omega)]'(by omega)) + zs1[i]'(by omega))))) = (akx dv zs1 i).map sI:=by
  unfold akx
  rw [List.map_set,show dv.getD i 0 = dv[i]'(by omega) by simp only [List.getD]; rw [ck (by omega)]; rfl,List.getD,List.getD,ck (by omega),ck (by omega)]
  rfl
 rw [D6,← hzs1,← hr2]
end Go.RM
namespace Go.RM
open Go.VM (T mV tI)
def p_heap_Retained_pre:RF:=⟨.seq (.region none [oP 1 (.box e8 (tO 0)) 1,oP 2 (.mv (.con (.c (.sc (.slice none 0 0))))) 0,oP 3 (.mv (kI 0)) 0]) (.seq (.seq (.region none [oP 10 (.load 2 true (tO 1)) 2,oP 11 (.call i3 [(tO 10)]) 1024,oP 4 (.mv (tO 11)) 2048]) (.seq (.region none [oP 12 (.mv (tO 4)) 16,oP 13 (.bin .neq (tO 12) (kI 0)) 4096]) (.cond (tO 13) (.seq (.region none [oP 14 (.mv (tO 4)) 16,oP 2 (.mv (.con (.c (.sc (.slice none 0 0))))) 0,oP 3 (.mv (tO 14)) 16384]) (.ret)) (.skip)))) (.seq (.region none [oP 15 (.load 2 true (tO 1)) 2,oP 16 (.call k9 [(tO 15)]) 32768,oP 5 (.mv (tO 16)) 65536]) (.seq (.region none [oP 17 (.mv (tO 5)) 32,oP 18 (.call e9 [(tO 17)]) 131072,oP 6 (.alloc mj [(.sc (.pointer none))]) 0,oN (.store 1 (tO 6) (tO 18)) 262208]) (.seq (.region none [oP 19 (.fld 0 (tO 1)) 2,oP 20 (.load 1 false (tO 19)) 524288,oP 21 (.lenS (tO 20)) 1048576,oP 22 (.bin .add (tO 21) (kI 1)) 2097152,oP 23 (.mksl cj 1 8 [(.sc (.int .i64 0))] (tO 22) (tO 22)) 4194304,oP 7 (.alloc i8 [(.sc (.slice none 0 0))]) 0,oN (.store 1 (tO 7) (tO 23)) 8388736]) (.region none [oP 24 (.mv (tO 5)) 32,oP 25 (.nilc (tO 24)) 16777216,oP 26 (.fld 2 (tO 25)) 33554432,oP 27 (.load 1 false (tO 26)) 67108864,oP 28 (.sub 1 (tO 27) (some (kI 1)) none) 134217728,oP 29 (.call gq [(tO 28)]) 268435456]))))),[]⟩
def p_heap_Retained_post:RF:=⟨.seq (.region none [oP 60 (.load 1 false (tO 7)) 128,oP 61 (.fld 0 (tO 1)) 2,oP 62 (.load 1 false (tO 61)) 2305843009213693952,oP 63 (.lenS (tO 62)) 4611686018427387904,oP 64 (.sub 1 (tO 60) none (some (tO 63))) 10376293541461622784,oP 2 (.mv (tO 64)) 18446744073709551616,oP 3 (.mv (kI 0)) 0]) (.ret),[.tmp 2,.tmp 3]⟩
set_option maxHeartbeats 4000000 in
theorem adV {orc:bZ} {b:Nat} {s:S} (hS:Sb b s) (x:X):Cp orc p_T gq [.c x] s (fun k=>b≤k) True fun v s'=>v = .c (.fn dJ [.ptr s.c 0])∧Sb b s'∧s'.c = s.c + 1∧s'.h.get s.c = some (.cells i8 [x])∧∀ k,k < s.c→s'.h.get k = s.h.get k:=by
 have hle:=hS.le
 refine k8 (rf:=f0) rfl ?_
 unfold f0
 obtain ⟨Γ,hΓ⟩ : ∃ Γ,Γ = ofL [V.c x] 0 .lf:=⟨_,rfl⟩
 have g0:look Γ 0 = .c x:=by rw [hΓ]; rfl
 rw [← hΓ]
 try clear G
 clear hΓ
 replace G:=g0
 refine az (aq ?_)
 refine oY rfl (MS.box hS zj) cK ?_
 refine ej hS ?_
 intro s1 hst1 hsc1 hS1
 have hn1:=hst1.self
 refine qV ?_
 refine aX ?_
 dsimp only [aQ]
 refine az (aq ?_)
 refine dq rfl (by simp only [evS,Nat.reduceEqDiff,reduceIte,PU,bJ,scV,bV,iV,dZ,isB,isI,pX,wQ,mkV,Yj,List.mapM_cons,List.mapM_nil,Option.pure_def,Option.bind_eq_bind,G]; try rfl) ?_
 refine qV ?_
 refine aX ?_
 dsimp only [aQ]
 refine pZ ?_
 exact ⟨.inr rfl,[.c (.fn dJ [.ptr s.c 0])],0,by simp only [tK,evS,Nat.reduceEqDiff,reduceIte]; rfl,cY,rfl,hS1,by omega,hn1,fun k hk=>hst1.keep k (by omega)⟩
def M1 (orc:bZ) (rows roots:List (List T)) (e:Int):Prop :=
 ∀ s,Cp orc aKV i3 [.agg [.im 4 rows,.im 1 roots]] s (fun _=>False) True fun v s'=>s = s'∧v = iV e
set_option maxHeartbeats 4000000 in
theorem O8 {orc:bZ} {b:Nat} {s:S} (hS:Sb b s) {rows roots:List (List T)} {e:Int} (hc:M1 orc rows roots e) (he:e ≠ 0) :
  Cp orc aKV j8 [.agg [.im 4 rows,.im 1 roots]] s (fun k=>b≤k) True fun v s'=>v = .tup [.c (.sc dZ),iV e]∧Sb b s':=by
 have hle:=hS.le
 refine k8 (rf:=uY) rfl ?_
 unfold uY
 obtain ⟨Γ,hΓ⟩ : ∃ Γ,Γ = ofL [V.agg [.im 4 rows,.im 1 roots]] 0 .lf:=⟨_,rfl⟩
 have g0:look Γ 0 = .agg [.im 4 rows,.im 1 roots]:=by rw [hΓ]; rfl
 rw [← hΓ]
 try clear G
 clear hΓ
 replace G:=g0
 refine az (aq ?_)
 refine oY rfl (MS.box hS zj) cK ?_
 refine ej hS ?_
 intro s1 hst1 hsc1 hS1
 have hn1:=hst1.self
 refine qV ?_
 refine qV ?_
 refine aX ?_
 dsimp only [aQ]
 refine az (az ?_)
 refine aq ?_
 refine qA ?_
 refine qC (hC:=hc s1) (h:=?_)
 intro v2 s2 hq2
 obtain ⟨rfl,rfl⟩:=hq2
 refine qV ?_
 refine aX ?_
 try dsimp only [aQ]
 refine az (aq ?_)
 refine qV ?_
 refine qP ?_
 refine aX ?_
 dsimp only [aQ]
 refine bQ (t:=true) ?_ ?_
 ·simp only [evS,Nat.reduceEqDiff,reduceIte]
  rw [vk he]
  rfl
 dsimp only [cond_true]
 refine az (aq ?_)
 refine qV ?_
 refine qV ?_
 refine qV ?_
 refine aX ?_
 dsimp only [aQ]
 refine pZ ?_
 exact ⟨.inr rfl,[.c (.sc dZ),iV e],0,by simp only [tK,evS,Nat.reduceEqDiff,reduceIte]; rfl,cY,rfl,by assumption⟩
structure aBQ (b:Nat) (obs:List HO) (rts:List Int) (ord dv:List Nat) (dk:List Bool) (zs:List Int) (hb n6 n7 pd mv mk mz nb no:Nat) (s:S):Prop where
 sb:Sb b s
 e1:s.h.get hb = some (.cells e8 [.im 4 (obs.map eQ),.im 1 (rts.map fY)])
 e6:s.h.get n6 = some (.cells mj [.ptr pd 0])
 e7:s.h.get n7 = some (.cells i8 [.sl mz 1 0 zs.length])
 nums:Nums s.h.get pd mv mk dv dk
 ez:s.h.get mz = some (.cells cj (zs.map sI))
 eb:s.h.get nb = some (.cells i8 [.sl no 1 1 (ord.length - 1)])
 eo:s.h.get no = some (.cells cj (ord.map nI))
 ne:mz ≠ hb∧mz ≠ n6∧mz ≠ n7∧mz ≠ pd∧mz ≠ mv∧mz ≠ mk∧mz ≠ nb∧mz ≠ no
 le:b≤mz∧b≤hb∧b≤n6∧b≤n7∧b≤pd∧b≤mv∧b≤nb∧b≤no
set_option maxHeartbeats 4000000 in
theorem aLK {orc:bZ} {b:Nat} {s:S} (hS:Sb b s) {obs:List HO} {rts:List Int} {to fr:List (List Nat)} {ord vals:List Nat} {known:List Bool} (hB:AW orc obs rts to fr ord vals known) {dv:List Nat} {dk:List Bool} (hD:aeV orc to fr ord vals known dv dk) (hc:lV orc (obs.map eQ) (rts.map fY) 0) (hol:1≤ord.length) {Γ:Tr V} (g0:look Γ 0 = .agg [.im 4 (obs.map eQ),.im 1 (rts.map fY)]) :
  Wp orc p_T p_heap_Retained_pre.code Γ s (fun k=>b≤k) True fun e Γ t=>e = .normal∧∃ hb n6 n7 pd mv mk mz nb no,look Γ 1 = .c (.ptr hb 0)∧look Γ 6 = .c (.ptr n6 0)∧look Γ 7 = .c (.ptr n7 0)∧look Γ 29 = .c (.fn dJ [.ptr nb 0])∧aBQ b obs rts ord dv dk (List.replicate (obs.length + 1) 0) hb n6 n7 pd mv mk mz nb no t:=by
 have hle:=hS.le
 unfold p_heap_Retained_pre
 replace G:=g0
 refine az (aq ?_)
 refine oY rfl (MS.box hS zj) cK ?_
 refine ej hS ?_
 intro s1 hst1 hsc1 hS1
 have hn1:=hst1.self
 refine qV ?_
 refine qV ?_
 refine aX ?_
 dsimp only [aQ]
 refine az (az ?_)
 refine aq ?_
 refine qA ?_
 refine qC (hC:=hc s1) (h:=?_)
 intro v2 s2 hq2
 obtain ⟨rfl,rfl⟩:=hq2
 refine qV ?_
 refine aX ?_
 try dsimp only [aQ]
 refine az (aq ?_)
 refine qV ?_
 refine qP ?_
 refine aX ?_
 dsimp only [aQ]
 refine bQ (t:=false) ?_ (eW ?_)
 ·simp only [evS,Nat.reduceEqDiff,reduceIte]; rfl
 dsimp only [aQ]
 have hsm:=hB.small
 have hvl:=hD.vl
 have hkl:=hD.kl
 rw [hB.tol] at hvl hkl
 replace G:=g0
 refine az (aq ?_)
 refine qAL ?_
 refine qCL (hC:=hB.cp b s1 hS1) (h:=?_)
 intro v3 s3 hq3
 obtain ⟨g,rfl,hSg,hcg,hkg,hG⟩:=hq3
 replace hn1:s3.h.get _ = _:=(hkg _ (by omega)).trans hn1
 refine qVL ?_
 refine aX ?_
 dsimp only [aQ]
 refine az (aq ?_)
 refine qVL ?_
 refine qCL (hC:=hD.cp b s3 g hSg hG) (h:=?_)
 intro v4 s4 hq4
 obtain ⟨pd,mv,mk,rfl,hSd,hcd,hN,⟨lo1,lo2,lo3⟩,hkd⟩:=hq4
 replace hn1:s4.h.get _ = _:=(hkd _ (by omega)).trans hn1
 replace hG:=hG.keep (h':=s4.h.get) (fun k _ hk=>hkd k hk)
 have d1:=hN.box
 have d2:=hN.vals
 have d3:=hN.known
 obtain ⟨own,nt,nf,no,np,nv,nk,xs,xf,q1,_,_,q4,_,_,⟨v1,_,_,v4,_,_,_⟩,⟨u1,_,_,u4,_,_,_⟩⟩:=hG.ex
 have cN:=hSd.lt d1
 have cN2:=hSd.lt d2
 have cN3:=hSd.lt d3
 refine qM (MS.alloc hSd) ?_
 refine ej hSd ?_
 intro s5 hst5 hsc5 hS5
 replace hn1:=hst5.at hn1 (by omega)
 replace d1:=hst5.at d1 (by omega)
 replace d2:=hst5.at d2 (by omega)
 replace d3:=hst5.at d3 (by omega)
 replace q1:=hst5.at q1 (by omega)
 replace q4:=hst5.at q4 (by omega)
 have hn5:=hst5.self
 refine qTL ?_
 refine xX hS5 (by omega) (by omega) ?_
 intro s6 hst6 hsc6 hS6
 first | replace hn1:=hst6.at hn1 (by omega) | replace hn1:=hst6.self
 first | replace d1:=hst6.at d1 (by omega) | replace d1:=hst6.self
 first | replace d2:=hst6.at d2 (by omega) | replace d2:=hst6.self
 first | replace d3:=hst6.at d3 (by omega) | replace d3:=hst6.self
 first | replace q1:=hst6.at q1 (by omega) | replace q1:=hst6.self
 first | replace q4:=hst6.at q4 (by omega) | replace q4:=hst6.self
 first | replace hn5:=hst6.at hn5 (by omega) | replace hn5:=hst6.self
 refine aX ?_
 dsimp only [aQ]
 have r1:=F5 (n:=obs.length + 1) (by omega)
 have hwr:IntKind.i64.wrap ((obs.length:Int) + 1) = ((obs.length + 1:Nat):Int):=by rw [wr (by omega) (by omega)]; rfl
 replace G:=bw g0 hwr
 refine az (aq ?_)
 refine qPL ?_
 refine qLL ?_
 refine qPL ?_
 refine qPL ?_
 refine oY rfl (MS.mksl hS6 iW iW (by first | exact ik _ | omega) (by first | assumption | rfl)) cK ?_
 refine ej hS6 ?_
 intro s7 hst7 hsc7 hS7
 replace hn1:=hst7.at hn1 (by omega)
 replace d1:=hst7.at d1 (by omega)
 replace d2:=hst7.at d2 (by omega)
 replace d3:=hst7.at d3 (by omega)
 replace q1:=hst7.at q1 (by omega)
 replace q4:=hst7.at q4 (by omega)
 replace hn5:=hst7.at hn5 (by omega)
 have hn7:=hst7.self
 refine qM (MS.alloc hS7) ?_
 refine ej hS7 ?_
 intro s8 hst8 hsc8 hS8
 replace hn1:=hst8.at hn1 (by omega)
 replace d1:=hst8.at d1 (by omega)
 replace d2:=hst8.at d2 (by omega)
 replace d3:=hst8.at d3 (by omega)
 replace q1:=hst8.at q1 (by omega)
 replace q4:=hst8.at q4 (by omega)
 replace hn5:=hst8.at hn5 (by omega)
 replace hn7:=hst8.at hn7 (by omega)
 have hn8:=hst8.self
 refine qTL ?_
 refine xX hS8 (by omega) (by omega) ?_
 intro s9 hst9 hsc9 hS9
 first | replace hn1:=hst9.at hn1 (by omega) | replace hn1:=hst9.self
 first | replace d1:=hst9.at d1 (by omega) | replace d1:=hst9.self
 first | replace d2:=hst9.at d2 (by omega) | replace d2:=hst9.self
 first | replace d3:=hst9.at d3 (by omega) | replace d3:=hst9.self
 first | replace q1:=hst9.at q1 (by omega) | replace q1:=hst9.self
 first | replace q4:=hst9.at q4 (by omega) | replace q4:=hst9.self
 first | replace hn5:=hst9.at hn5 (by omega) | replace hn5:=hst9.self
 first | replace hn7:=hst9.at hn7 (by omega) | replace hn7:=hst9.self
 first | replace hn8:=hst9.at hn8 (by omega) | replace hn8:=hst9.self
 refine aX ?_
 dsimp only [aQ]
 refine aq ?_
 refine qVL ?_
 refine qPL ?_
 refine qPL ?_
 refine qLL ?_
 refine dq rfl (by first | exact alX  (m:=1) iW iW (by omega) | (simp only [evS,Nat.reduceEqDiff,reduceIte,PU,bJ,scV,bV,iV,dZ,isB,isI,pX,wQ,mkV,List.length_map,G]; rfl)) ?_
 refine qCL (hC:=adV hS9 (.sl no 1 1 (ord.length - 1))) (h:=?_)
 intro v10 s10 hq10
 obtain ⟨rfl,hSb,hcb,hnb,hkb⟩:=hq10
 refine aX ?_
 try dsimp only [aQ]
 have f1:=hS9.lt hn1
 have f2:=hS9.lt d1
 have f3:=hS9.lt d2
 have f4:=hS9.lt d3
 have f5:=hS9.lt q4
 have f6:=hS9.lt hn5
 have f7:=hS9.lt hn7
 have f8:=hS9.lt hn8
 exact ⟨rfl,s.c,s4.c,s7.c,pd,mv,mk,s6.c,s9.c,no,lkL,lkL,lkL,lkL,⟨hSb,(hkb _ f1).trans hn1,(hkb _ f6).trans hn5,by rw [mw]; exact (hkb _ f8).trans hn8,⟨(hkb _ f2).trans d1,(hkb _ f3).trans d2,(hkb _ f4).trans d3⟩,by rw [hkb _ f7,hn7]; simp [sI],hnb,(hkb _ f5).trans q4,by omega,by omega⟩⟩
set_option maxHeartbeats 4000000 in
theorem aEz {orc:bZ} {b:Nat} {s:S} {obs:List HO} {rts:List Int} {ord dv:List Nat} {dk:List Bool} {zs:List Int} {hb n6 n7 pd mv mk mz nb no:Nat} (hR:aBQ b obs rts ord dv dk zs hb n6 n7 pd mv mk mz nb no s) (hzl:zs.length = obs.length + 1) {Γ:Tr V} (g1:look Γ 1 = .c (.ptr hb 0)) (g7:look Γ 7 = .c (.ptr n7 0)) :
  Wp orc p_T p_heap_Retained_post.code Γ s (fun k=>b≤k) True fun e Γ t=>e = .ret∧t = s∧look Γ 2 = .c (.sl mz 1 0 obs.length)∧look Γ 3 = iV 0:=by
 obtain ⟨hS,e1,e6,e7,hN,ez,eb,eo,⟨x1,x2,x3,x4,x5,x6,x7,x8⟩,⟨b1,b2,b3,b4,b5,b6,b7,b8⟩⟩:=hR
 unfold p_heap_Retained_post
 replace G:=bw g1 g7
 refine az (aq ?_)
 refine qLL ?_
 refine qPL ?_
 refine qLL ?_
 refine qPL ?_
 refine dq rfl (by first | exact RW  iW iW (by omega) | (simp only [evS,Nat.reduceEqDiff,reduceIte,PU,bJ,scV,bV,iV,dZ,isB,isI,pX,wQ,mkV,List.length_map,G]; rfl)) ?_
 refine qVL ?_
 refine qVL ?_
 refine aX ?_
 dsimp only [aQ]
 exact pZ ⟨rfl,rfl,lkL,lkL⟩
end Go.RM
namespace Go.RM
open Go.Proofs Go.Proofs.Ytliccamocpglcab
def sL:Code→Code | .seq a _=>a | c=>c
def sR:Code→Code | .seq _ b=>b | c=>c
def bB:Code→Code | .block _ b=>b | c=>c
def rgA:Code→Code | .rangeFunc _ _ a _=>a | c=>c
def rB:Code→Code | .rangeFunc _ _ _ b=>b | c=>c
noncomputable def Oz:Code:=((Try.prog.funcs[16]?).bind (·.body)).getD .skip
noncomputable def aoY:Code:=sR (sR (sR (sR (sR Oz))))
noncomputable def PX:Code:=bB (sR (sL aoY))
noncomputable def cPost:Code:=sR aoY
set_option maxRecDepth 100000 in
theorem atY:Oz = .seq (sL Oz) (.seq (sL (sR Oz)) (.seq (sL (sR (sR Oz))) (.seq (sL (sR (sR (sR Oz)))) (.seq (sL (sR (sR (sR (sR Oz))))) (.seq (.seq (sL (sL aoY)) (.block 0 (.rangeFunc (.tmp 29) #[30,31] (rgA PX) (rB PX)))) cPost))))):=by kernel_rfl
set_option maxRecDepth 100000 in
theorem auW:cV Try.prog 65 cPost = some p_heap_Retained_post.code:=by kernel_rfl
set_option maxRecDepth 100000 in
theorem aDW:cV Try.prog 65 (rgA PX) = some p_heap_Retained_asg.code:=by kernel_rfl
set_option maxRecDepth 100000 in
theorem aEK:cV Try.prog 65 (rB PX) = some p_heap_Retained_bod.code:=by kernel_rfl
end Go.RM
namespace Go.RM
open Go.VM (T mV tI)
open Go.Proofs Go.Proofs.Ytliccamocpglcab
theorem aJq {φ:Ren} {v:Value} {z:Int} (h:RepX φ v (sI z)):v = .int .i64 z:=by cases h; rfl
theorem QW {φ ψ:Ren} (hle:φ.le ψ) {v:Value} {n off:Nat} (h:RepV ψ v (.c (.ptr n off))) (hs:∃ l,φ n = some l):RepV φ v (.c (.ptr n off)):=by
 obtain ⟨l,hl⟩:=hs
 have h:RepX ψ v (.ptr n off):=h
 cases h with
 | ptr _ _ b β lim hb =>
  have:=hle.loc n l hl
  rw [hb] at this
  cases this
  exact RepX.ptr n off b β lim hl
theorem arj {w:World} {b:Nat} {arr:Array Value} {e:TypeId} {p:Nat × Nat} (h:w.heap[b]? = some (.cells arr e p)) (o:Nat):w.cell? ⟨b,o,none⟩ = arr[o]?:=by
 simp [World.cell?,h]
theorem W2 {X Y:World} {b o:Nat} (h:Y.heap[b]? = X.heap[b]?):Y.cell? ⟨b,o,none⟩ = X.cell? ⟨b,o,none⟩:=by
 simp [World.cell?,h]
theorem apW {w0 w:World} {φ:Ren} {h:Hp} (R:Rel w0 φ h w) {nb no:Nat} {ls:List Nat} {r:Nat} {e e':TypeId} (eb:h nb = some (.cells e [.sl no 1 1 ls.length])) (eo:h no = some (.cells e' ((r :: ls).map nI))) :
  ∃ Bs Bo lm bo βo lo,φ nb = some (Bs,Bo,lm)∧φ no = some (bo,βo,lo)∧Go.Proofs.Good ⟨Bs,Bo,none⟩ bo (βo + 1) (ls.map fun (k:Nat)=>(k:Int)) w:=by
 obtain ⟨Bs,Bo,lm,arr,h1,h2,h3,h4,h5⟩:=R.rep _ _ eb
 obtain ⟨bo,βo,lo,arr',k1,k2,k3,k4,k5⟩:=R.rep _ _ eo
 refine ⟨Bs,Bo,lm,bo,βo,lo,h1,k1,?_⟩
 obtain ⟨v,e1,e2⟩:=h5 0 _ rfl
 cases e2 with
 | sl _ _ _ _ b β lim o cap g1 g2 g3 g4 =>
  rw [k1] at g1
  cases g1
  refine ⟨o,cap,?_,?_,fun j hj=>?_⟩
  ·rw [arj h2,List.length_map]; exact e1
  ·rw [List.length_map]; exact g3
  ·rw [List.length_map] at hj
   obtain ⟨v,q1,q2⟩:=k5 (j + 1) (nI ls[j]) (by rw [List.map_cons,List.getElem?_cons_succ,gw,ck hj]; rfl)
   rw [arj k2,show βo + 1 + j = βo + (j + 1) by omega,q1,aJq q2,gw,ck hj]
   rfl
theorem Wz {Bs Bo b off:Nat} {zs:List Int} {X Y:World} (h:Go.Proofs.Good ⟨Bs,Bo,none⟩ b off zs X) (h1:Y.heap[Bs]? = X.heap[Bs]?) (h2:Y.heap[b]? = X.heap[b]?):Go.Proofs.Good ⟨Bs,Bo,none⟩ b off zs Y:=by
 obtain ⟨o,cap,g1,g2,g3⟩:=h
 exact ⟨o,cap,(W2 h1).trans g1,g2,fun j hj=>(W2 h2).trans (g3 j hj)⟩
end Go.RM
namespace Go.RM
open Go.VM (T mV tI)
open Go.Proofs Go.Proofs.Ytliccamocpglcab
theorem Cx {H:Hp} {s:S} (hi:Inv H s):d7 H s = s.h.get:=by
 funext m
 unfold d7
 cases hb:s.w.testBit m with
 | true=>rfl
 | false=>exact (hi m hb).symm
theorem arW {φ:Ren} {w:World} {n:Nat} {o:O} (h:RepO φ w n o) (hl:o.live = true):∃ l,φ n = some l:=by
 cases o with
 | cells e xs=>obtain ⟨b,β,lim,arr,h1,_⟩:=h; exact ⟨_,h1⟩
 | map kd rng es=>obtain ⟨b,es',clock,h1,_⟩:=h; exact ⟨_,h1⟩
 | iter m size seen=>obtain ⟨b,bm,β,lim,last,es',h1,_⟩:=h; exact ⟨_,h1⟩
 | itern=>obtain ⟨b,h1,_⟩:=h; exact ⟨_,h1⟩
 | dmap kd es=>obtain ⟨b,es',clock,h1,_⟩:=h; exact ⟨_,h1⟩
 | dead=>simp [O.live] at hl
def aEQ (ψ:Ren) (h:Hp) (D:Nat):Prop:=∃ n p,h n = some p∧p.live = true∧blk ψ n D
open Classical in
noncomputable def frz (ψ:Ren) (h:Hp) (W:World):Nat→Option Obj:=fun D=>if aEQ ψ h D then none else W.heap[D]?
theorem apK {w0 W:World} {ψ:Ren} {h:Hp} (R:Rel w0 ψ h W):Rel w0 (ψ.withFz (frz ψ h W)) h W:=R.refz _ fun D o hD=>by
 unfold frz at hD
 split at hD
 ·simp at hD
 ·rename_i hn
  exact ⟨hD,fun n p h1 h2 h3=>hn ⟨n,p,h1,h2,h3⟩⟩
theorem aeY {w0 W W':World} {φ1 ψ ψ2:Ren} {h h':Hp} {B:Nat} (hf1:∀ D,φ1.fz D = none) (hψ:φ1.le ψ) (R:Rel w0 ψ h W) (hlv:∀ n p k,h n = some p→p.live = true→blk ψ n k→k < B) (hle:(ψ.withFz (frz ψ h W)).le ψ2) (R2:Rel w0 ψ2 h' W') (hdom:∀ n p,h' n = some p→p.live = true→∃ p',h n = some p'∧p'.live = true) :
  KeepsFrom B W W'∧φ1.le (ψ2.withFz fun _=>none)∧Rel w0 (ψ2.withFz fun _=>none) h' W'∧∀ n p k,h' n = some p→p.live = true→blk (ψ2.withFz fun _=>none) n k→k < B:=by
 have hstay:∀ D o,¬ aEQ ψ h D→W.heap[D]? = some o→W'.heap[D]? = some o:=fun D o hn ho=>(R2.fz D o (hle.fz D o (by show frz ψ h W D = some o; unfold frz; rw [if_neg hn]; exact ho))).1
 have hloc:∀ n l,ψ n = some l→ψ2 n = some l:=fun n l hn=>hle.loc n l hn
 refine ⟨⟨?_,fun k o hk ho _=>hstay k o (fun ⟨n,p,h1,h2,h3⟩=>by have:=hlv n p k h1 h2 h3; omega) ho⟩,⟨fun n l hn=>hloc n l (hψ.loc n l hn),hle.w0.trans hψ.w0,hle.ok.trans hψ.ok,fun D o hD=>by rw [hf1 D] at hD; simp at hD⟩,R2.refz _ (fun D o hD=>by simp at hD),fun n p k hn hp hb=>?_⟩
 ·rcases Nat.lt_or_ge W'.heap.size W.heap.size with hlt | hge
  ·exfalso
   have hD:W.heap.size - 1 < W.heap.size:=by omega
   by_cases hL:aEQ ψ h (W.heap.size - 1)
   ·obtain ⟨n,p,_,_,β,lim,h3⟩:=hL
    have:=R2.lt n (W.heap.size - 1) ⟨β,lim,hloc n _ h3⟩
    omega
   ·have:=hstay (W.heap.size - 1) _ hL (Array.getElem?_eq_getElem hD)
    have:=(nw.1 this).1
    omega
  ·exact hge
 ·obtain ⟨p',h1,h2⟩:=hdom n p hn hp
  obtain ⟨l,hl⟩:=arW (R.rep n p' h1) h2
  obtain ⟨β,lim,h3⟩:=hb
  have h4:=hloc n l hl
  rw [show ψ2.loc n = some (k,β,lim) from h3] at h4
  cases h4
  exact hlv n p' k h1 h2 ⟨β,lim,hl⟩
structure ixAll (n:Nat) where
 k:Nat
 i:Nat
 ok:n = 0∨i < n
def akz (n:Nat) (x:ixAll n):Array Value:=#[.int .i64 (x.k:Int),.int .i64 (x.i:Int)]
theorem aIW {n:Nat} {ls:List Nat} (h:∀ v∈ls,v < n) (k:Nat):n = 0∨(ls[k]?).getD 0 < n:=by
 cases he:ls[k]? with
 | none=>show n = 0∨0 < n; omega
 | some v=>exact .inr (h v (iw he))
def elI (n:Nat) (ls:List Nat) (h:∀ v∈ls,v < n) (k:Nat):ixAll n:=⟨ls.length - 1 - k,(ls[ls.length - 1 - k]?).getD 0,aIW h _⟩
theorem aNK (n:Nat) (ls:List Nat) (h:∀ v∈ls,v < n) (k:Nat):akz n (elI n ls h k) = #[.int .i64 (((ls.map fun (k:Nat)=>(k:Int)).length - 1 - k:Nat):Int),.int .i64 ((ls.map fun (k:Nat)=>(k:Int))[(ls.map fun (k:Nat)=>(k:Int)).length - 1 - k]?.getD 0)]:=by
 show (#[Value.int .i64 ((ls.length - 1 - k:Nat):Int),Value.int .i64 (((ls[ls.length - 1 - k]?).getD 0:Nat):Int)]:Array Value) = _
 rw [List.length_map,gw]
 cases ls[ls.length - 1 - k]? <;> rfl
theorem aJz (n:Nat) (ls:List Nat) (h:∀ v∈ls,v < n):(upK (elI n ls h) ls.length).map ixAll.i = ls.reverse:=by
 refine List.ext_getElem? fun j=>?_
 unfold upK
 rw [gw,gw]
 rcases Nat.lt_or_ge j ls.length with hj | hj
 ·rw [List.getElem?_range hj,List.getElem?_reverse hj,ck (by omega)]
  simp only [wk,elI]
  rw [ck (by omega)]; rfl
 ·rw [List.getElem?_eq_none (by simpa using hj),List.getElem?_eq_none (by simpa using hj)]; rfl
end Go.RM
namespace Go.RM
open Go.VM (T mV tI)
open Go.Proofs Go.Proofs.Ytliccamocpglcab Go.RowKit Go.Shelf
def slots (l:List (Nat × V)):Tr V:=l.foldr (fun p Γ=>putO (some p.1) p.2 Γ) .lf
theorem aSZ {orc:bZ} {F:Nat→Prop} {D:Prop} {s:S} {hb n6 n7:Nat} {i:Nat}:Wp orc p_T p_heap_Retained_asg.code (slots [(1,.c (.ptr hb 0)),(6,.c (.ptr n6 0)),(7,.c (.ptr n7 0)),(31,iV (i:Int))]) s F D fun e Γ t=>e = .normal∧t = s∧look Γ 9 = iV (i:Int)∧look Γ 1 = .c (.ptr hb 0)∧look Γ 6 = .c (.ptr n6 0)∧look Γ 7 = .c (.ptr n7 0):=by
 unfold p_heap_Retained_asg
 refine aq ?_
 refine dq (v:=iV (i:Int)) rfl (by simp only [evS,slots,List.foldr,Nat.reduceEqDiff,reduceIte,bJ]) ?_
 refine aX ?_
 refine ⟨rfl,rfl,?_,?_,?_,?_⟩ <;> simp only [evS,slots,List.foldr,Nat.reduceEqDiff,reduceIte]
def AxR (n:Nat) (φ1:Ren) (hb n6 n7:Nat) (x:ixAll n) (a':Act):Prop :=
 a'.defers = []∧65≤a'.tmps.size∧RepV φ1 (a'.tmps.getD 1 undef) (.c (.ptr hb 0))∧RepV φ1 (a'.tmps.getD 6 undef) (.c (.ptr n6 0))∧RepV φ1 (a'.tmps.getD 7 undef) (.c (.ptr n7 0))∧RepV φ1 (a'.tmps.getD 9 undef) (iV (x.i:Int))
def InvR (w0:World) (H:Hp) (φ1:Ren) (b:Nat) (B:Nat) (obs:List HO) (rts:List Int) (ord dv:List Nat) (dk:List Bool) (hb n6 n7 pd mv mk mz nb no:Nat) (zs:List Int) (W:World):Prop :=
 ∃ ψ s',φ1.le ψ∧(∀ D,ψ.fz D = none)∧Rel w0 ψ s'.h.get W∧Inv H s'∧(∀ n p k,s'.h.get n = some p→p.live = true→blk ψ n k→k < B)∧aBQ b obs rts ord dv dk zs hb n6 n7 pd mv mk mz nb no s'
section
variable {orc:bZ} {w0:World} {H:Hp} {φ1:Ren} {b B n:Nat} {obs:List HO} {rts:List Int} {ord dv:List Nat} {dk:List Bool} {hb n6 n7 pd mv mk mz nb no:Nat} {zs:List Int} {W:World}
theorem InvR.grown (h:InvR w0 H φ1 b B obs rts ord dv dk hb n6 n7 pd mv mk mz nb no zs W) (hB:w0.heap.size≤B) {Y:World} {row:Option Nat} (hg:W.grownBy Y row) (hr:∀ r,row = some r→B≤r):InvR w0 H φ1 b B obs rts ord dv dk hb n6 n7 pd mv mk mz nb no zs Y:=by
 obtain ⟨ψ,s',h1,h2,h3,h4,h5,h6⟩:=h
 exact ⟨ψ,s',h1,h2,h3.grown h2 hg h5 hr hB,h4,h5,h6⟩
theorem N9 {ψ:Ren} {a':Act} {l:List (Nat × V)} (h:∀ p∈l,RepV ψ (a'.tmps.getD p.1 undef) p.2):EnvR ψ a' (look (slots l)):=by
 intro t
 induction l with
 | nil=>exact trivial
 | cons p l ih =>
  show RepV ψ _ (look (putO (some p.1) p.2 (slots l)) t)
  rw [cq]
  split
  ·rename_i hp; subst hp; exact h p (List.mem_cons_self ..)
  ·exact ih fun q hq=>h q (List.mem_cons_of_mem _ hq)
theorem aAK (ho:jY Try.prog w0 orc) (hoi:fq orc) (hf1:∀ D,φ1.fz D = none) (hs1:(∃ l,φ1 hb = some l)∧(∃ l,φ1 n6 = some l)∧∃ l,φ1 n7 = some l) {a:Act} (ha:65≤a.tmps.size) (k1:RepV φ1 (a.tmps.getD 1 undef) (.c (.ptr hb 0))) (k6:RepV φ1 (a.tmps.getD 6 undef) (.c (.ptr n6 0))) (k7:RepV φ1 (a.tmps.getD 7 undef) (.c (.ptr n7 0)))
  (h:InvR w0 H φ1 b B obs rts ord dv dk hb n6 n7 pd mv mk mz nb no zs W) (x:ixAll n) {l dn:Nat} {K:Act→World→Prop} (hK:∀ a' W',KeepsFrom B W W'→InvR w0 H φ1 b B obs rts ord dv dk hb n6 n7 pd mv mk mz nb no zs W'→AxR n φ1 hb n6 n7 x a'→K a' W') :
  (rgA PX).wpIn (FW (some l)) dn Try.prog (Exit.then K (fun _ _ _=>False)) { tmps:=((#[30,31]:Array Tmp).zip (akz n x)).foldl (fun t (p,v)=>t.setIfInBounds p v) a.tmps,defers:=[] } W:=by
 obtain ⟨ψ,s',h1,h2,h3,h4,h5,h6⟩:=h
 have hst:StR [] w0 65 H H (ψ.withFz (frz ψ s'.h.get W)) (look (slots [(1,.c (.ptr hb 0)),(6,.c (.ptr n6 0)),(7,.c (.ptr n7 0)),(31,iV (x.i:Int))])) s' { tmps:=((#[30,31]:Array Tmp).zip (akz n x)).foldl (fun t (p,v)=>t.setIfInBounds p v) a.tmps,defers:=[] } W:=by
  have hfold:((#[30,31]:Array Tmp).zip (akz n x)).foldl (fun t (p,v)=>t.setIfInBounds p v) a.tmps = (a.tmps.setIfInBounds 30 (.int .i64 (x.k:Int))).setIfInBounds 31 (.int .i64 (x.i:Int)):=by
   unfold akz
   simp
  rw [hfold]
  have hle1:φ1.le (ψ.withFz (frz ψ s'.h.get W)):=⟨h1.loc,h1.w0,h1.ok,fun D o hD=>by rw [hf1 D] at hD; simp at hD⟩
  have bj:∀ t,t ≠ 30→t ≠ 31→((a.tmps.setIfInBounds 30 (.int .i64 (x.k:Int))).setIfInBounds 31 (.int .i64 (x.i:Int))).getD t undef = a.tmps.getD t undef:=by
   intro t t1 t2
   simp [Array.getD_eq_getD_getElem?,Array.getElem?_setIfInBounds,Ne.symm t1,Ne.symm t2]
  refine ⟨_,Ren.le_refl _,N9 fun p hp=>?_,by rw [Cx h4]; exact apK h3,h4,rfl,by simpa using ha⟩
  simp only [qk,List.not_mem_nil,or_false] at hp
  rcases hp with rfl | rfl | rfl | rfl
  ·rw [bj _ (by dsimp only; decide) (by dsimp only; decide)]; exact k1.mono hle1
  ·rw [bj _ (by dsimp only; decide) (by dsimp only; decide)]; exact k6.mono hle1
  ·rw [bj _ (by dsimp only; decide) (by dsimp only; decide)]; exact k7.mono hle1
  ·have:((a.tmps.setIfInBounds 30 (.int .i64 (x.k:Int))).setIfInBounds 31 (.int .i64 (x.i:Int))).getD 31 undef = .int .i64 (x.i:Int):=by
    rw [Array.getD_eq_getD_getElem?,Array.getElem?_setIfInBounds,if_pos rfl,if_pos (by rw [Array.size_setIfInBounds]; omega)]
    rfl
   rw [this]
   exact RepX.sc _ rfl
 refine wpIn_mono (GW (P:=Try.prog) rW ho hoi (aSZ (F:=fun _=>True) (D:=True)) aDW (fun _ _=>rfl) hst) ?_
 rintro e a' W' ⟨ex,Γ',t,hx,⟨rfl,rfl,q9,q1,q6,q7⟩,ψ2,hle2,he2,R2,hi2,hd2,hs2⟩
 rw [Cx hi2] at R2
 obtain ⟨m1,m2,m3,m4⟩:=aeY hf1 h1 h3 h5 hle2 R2 (fun n p hn hp=>⟨p,hn,hp⟩)
 have hle3:φ1.le ψ2:=⟨m2.loc,m2.w0,m2.ok,fun D o hD=>by rw [hf1 D] at hD; simp at hD⟩
 cases e <;> simp only [XM] at hx
 refine hK a' W' m1 ⟨_,t,m2,fun _=>rfl,m3,hi2,m4,h6⟩ ⟨hd2,hs2,QW hle3 (q1 ▸ he2 1) hs1.1,QW hle3 (q6 ▸ he2 6) hs1.2.1,QW hle3 (q7 ▸ he2 7) hs1.2.2,?_⟩
 have:=he2 9
 rw [q9] at this
 rw [d8 (u:=.int .i64 (x.i:Int)) this]
 exact RepX.sc _ rfl
theorem awJ (ho:jY Try.prog w0 orc) (hoi:fq orc) (hf1:∀ D,φ1.fz D = none) (hn:obs.length≤60) (hzl:zs.length = obs.length + 1) (hdl:dv.length = obs.length + 1) (hd:∀ v∈dv,v < obs.length + 1) {x:ixAll n} {a':Act} (hA:AxR n φ1 hb n6 n7 x a') (hx:x.i < obs.length)
  (h:InvR w0 H φ1 b B obs rts ord dv dk hb n6 n7 pd mv mk mz nb no zs W) {l dn:Nat} {Q:Exit→Act→World→Prop} (hQ:∀ a'' W',KeepsFrom B W W'→InvR w0 H φ1 b B obs rts ord dv dk hb n6 n7 pd mv mk mz nb no (D6 (obs.map HO.size) dv zs x.i) W'→Q .normal a'' W') :
  (rB PX).wpIn (FW (some l)) dn Try.prog Q a' W:=by
 obtain ⟨ψ,s',h1,h2,h3,h4,h5,h6⟩:=h
 obtain ⟨A1,A2,A3,A4,A5,A6⟩:=hA
 have hle1:φ1.le (ψ.withFz (frz ψ s'.h.get W)):=⟨h1.loc,h1.w0,h1.ok,fun D o hD=>by rw [hf1 D] at hD; simp at hD⟩
 have hst:StR [] w0 65 H H (ψ.withFz (frz ψ s'.h.get W)) (look (slots [(1,.c (.ptr hb 0)),(6,.c (.ptr n6 0)),(7,.c (.ptr n7 0)),(9,iV (x.i:Int))])) s' a' W:=by
  refine ⟨_,Ren.le_refl _,N9 fun p hp=>?_,by rw [Cx h4]; exact apK h3,h4,A1,A2⟩
  simp only [qk,List.not_mem_nil,or_false] at hp
  rcases hp with rfl | rfl | rfl | rfl
  ·exact A3.mono hle1
  ·exact A4.mono hle1
  ·exact A5.mono hle1
  ·exact A6.mono hle1
 obtain ⟨hS,e1,e6,e7,hN,ez,eb,eo,⟨x1,x2,x3,x4,x5,x6,x7,x8⟩,⟨b1,b2,b3,b4,b5,b6,b7,b8⟩⟩:=h6
 refine wpIn_mono (GW (P:=Try.prog) rW ho hoi (aHX (rts:=[]) (roots:=rts.map fY) (i:=x.i) hS (by simp only [evS,slots,List.foldr,Nat.reduceEqDiff,reduceIte]) (by simp only [evS,slots,List.foldr,Nat.reduceEqDiff,reduceIte]) (by simp only [evS,slots,List.foldr,Nat.reduceEqDiff,reduceIte]) (by simp only [evS,slots,List.foldr,Nat.reduceEqDiff,reduceIte]) e1 e6 e7 hN ez hn hx hzl hdl hd ⟨x1,x2,x3,x4,x5,x6⟩ ⟨b1,b2,b3,b4,b5,b6⟩) aEK (fun _ _=>rfl) hst) ?_
 rintro e a'' W' ⟨ex,Γ',t,hx',⟨rfl,k1,k2,k3,k4⟩,ψ2,hle2,he2,R2,hi2,hd2,hs2⟩
 rw [Cx hi2] at R2
 have hdom:∀ n p,t.h.get n = some p→p.live = true→∃ p',s'.h.get n = some p'∧p'.live = true:=fun m p hm hp=>by
  by_cases hmz:m = mz
  ·subst hmz; exact ⟨_,ez,rfl⟩
  ·rw [k4 m hmz] at hm; exact ⟨p,hm,hp⟩
 obtain ⟨m1,m2,m3,m4⟩:=aeY hf1 h1 h3 h5 hle2 R2 hdom
 cases e <;> simp only [XM] at hx'
 have hrl:(D6 (obs.map HO.size) dv zs x.i).length = zs.length:=by unfold D6 akx ZY; rw [uw,uw]
 refine hQ a'' W' m1 ⟨_,t,m2,fun _=>rfl,m3,hi2,m4,⟨k1,(k4 _ x1.symm).trans e1,(k4 _ x2.symm).trans e6,by rw [hrl]; exact (k4 _ x3.symm).trans e7,hN.keep (k4 _ x4.symm) (k4 _ x5.symm) (k4 _ x6.symm),k3,(k4 _ x7.symm).trans eb,(k4 _ x8.symm).trans eo,⟨x1,x2,x3,x4,x5,x6,x7,x8⟩,⟨b1,b2,b3,b4,b5,b6,b7,b8⟩⟩⟩
end
end Go.RM
