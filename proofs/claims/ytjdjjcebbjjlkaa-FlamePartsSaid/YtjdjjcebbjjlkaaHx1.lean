/- The functions of the layer, walked by symbols in the raw machine, and their contracts. -/
import Derived.Test.YtjdjjcebbjjlkaaRm2
import Derived.Test.YtjdjjcebbjjlkaaRows
import Derived.KernelRfl
import Derived.Shelf.Sort.Plain
import Derived.Shelf.Slices.In.SortNone
import Derived.Shelf.Slices.In.SortNone2
import Derived.Lib.OwnBridge
namespace Go.RM
open Go.Proofs Go.Proofs.Ytjdjjcebbjjlkaa
def vY:Nat:=10
def rJ:Nat:=27
def oK:Nat:=28
def qQ:Nat:=42
def D1:Nat:=22
def G2:Nat:=38
def i5:Nat:=50
def wJ:Nat:=26
def pV:Nat:=14
def eV:Nat:=51
def fV:Nat:=53
def T3:Nat:=32
def d4:Nat:=9
def b9:Nat:=40
def BY:Nat:=25
def oW:RF:=⟨.seq (.region none [oP 2 (.mv (.con (.c (.sc (.slice none 0 0))))) 0,oP 3 (.mv (kI 0)) 0]) (.seq (.seq (.region none [oP 8 (.mv (tO 0)) 1,oP 9 (.call wJ [(tO 8)]) 256,oP 4 (.mv (tO 9)) 512]) (.seq (.region none [oP 10 (.mv (tO 4)) 16,oP 11 (.bin .neq (tO 10) (kI 0)) 1024]) (.cond (tO 11) (.seq (.region none [oP 12 (.mv (tO 4)) 16,oP 2 (.mv (.con (.c (.sc (.slice none 0 0))))) 0,oP 3 (.mv (tO 12)) 4096]) (.ret)) (.skip)))) (.seq (.region none [oP 13 (.build [(.sc (.int .i64 0)),(.sc (.int .i64 0)),(.sc (.map none))] []) 0,oP 14 (.box fV (tO 13)) 8192,oP 5 (.mv (tO 14)) 16384]) (.seq (.seq (.region none [oP 15 (.mv (tO 0)) 1,oP 16 (.lenS (tO 15)) 32768,oP 17 (.mv (kI 0)) 0]) (.block 0 (.loop (.seq (.region none [oP 18 (.bin .lss (tO 17) (tO 16)) 196608]) (.seq (.cond (tO 18) (.skip) (.exit 0)) (.seq (.block 1 (.seq (.region none [oP 19 (.ixA 4 (tO 15) (tO 17)) 163840,oP 20 (.load 4 true (tO 19)) 524288,oP 7 (.alloc T3 [(.sc (.int .i64 0)),(.sc (.int .i64 0)),(.sc (.int .i64 0)),(.sc (.slice none 0 0))]) 0,oN (.store 4 (tO 7) (tO 20)) 1048704]) (.seq (.region none [oP 21 (.fld 3 (tO 7)) 128,oP 22 (.load 1 false (tO 21)) 2097152,oP 23 (.lenS (tO 22)) 4194304,oP 24 (.bin .gtr (tO 23) (kI 0)) 8388608]) (.cond (tO 24) (.region none [oP 25 (.mv (tO 5)) 32,oP 26 (.fld 3 (tO 7)) 128,oP 27 (.load 1 false (tO 26)) 67108864,oP 28 (.fld 2 (tO 7)) 128,oP 29 (.load 1 false (tO 28)) 268435456,oP 30 (.call rJ [(tO 25),(tO 27),(tO 29),(kI 1)]) 704643072]) (.skip))))) (.region none [oP 31 (.bin .add (tO 17) (kI 1)) 131072,oP 17 (.mv (tO 31)) 2147483648]))))))) (.seq (.region none [oP 32 (.mv (tO 5)) 32,oP 33 (.call oK [(tO 32)]) 4294967296,oP 34 (.ext (tO 33) 0) 8589934592,oP 35 (.ext (tO 33) 1) 8589934592,oP 2 (.mv (tO 34)) 17179869184,oP 3 (.mv (tO 35)) 34359738368]) (.ret))))),[.tmp 2,.tmp 3]⟩
set_option maxRecDepth 100000 in
theorem H5:jY Try.prog 10 = some oW∧cX Try.prog 10 = true:=⟨by kernel_rfl,by kernel_rfl⟩
def qz:RF:=⟨.seq (.seq (.region none [oP 10 (.mv (tO 1)) 2,oP 11 (.lenS (tO 10)) 1024,oP 12 (.mv (kI 0)) 0]) (.block 0 (.loop (.seq (.region none [oP 13 (.bin .lss (tO 12) (tO 11)) 6144]) (.seq (.cond (tO 13) (.skip) (.exit 0)) (.seq (.block 1 (.seq (.region none [oP 14 (.ixA 1 (tO 10) (tO 12)) 5120,oP 15 (.load 1 false (tO 14)) 16384,oP 9 (.mv (tO 15)) 32768]) (.seq (.seq (.region none [oP 16 (.mv (tO 0)) 1,oP 17 (.nilc (tO 16)) 65536,oP 18 (.fld 2 (tO 17)) 131072,oP 19 (.load 1 false (tO 18)) 262144,oP 20 (.neq 1 false (tO 19) (.con (.c (.sc (.map none))))) 524288]) (.cond (tO 20) (.region none [oP 21 (.mv (tO 0)) 1,oP 22 (.mkmap .string) 0,oP 23 (.nilc (tO 21)) 2097152,oP 24 (.fld 2 (tO 23)) 8388608,oN (.store 1 (tO 24) (tO 22)) 20971520]) (.skip))) (.seq (.seq (.region none [oP 25 (.mv (tO 0)) 1,oP 26 (.nilc (tO 25)) 33554432,oP 27 (.fld 2 (tO 26)) 67108864,oP 28 (.load 1 false (tO 27)) 134217728,oP 29 (.mv (tO 9)) 512,oP 30 (.look .string (.c (.sc (.pointer none))) false (tO 28) (tO 29)) 805306368,oP 31 (.neq 0 false (tO 30) (.con (.c (.sc (.pointer none))))) 1073741824]) (.cond (tO 31) (.region none [oP 32 (.mv (tO 0)) 1,oP 33 (.nilc (tO 32)) 4294967296,oP 34 (.fld 2 (tO 33)) 8589934592,oP 35 (.load 1 false (tO 34)) 17179869184,oP 36 (.mv (tO 9)) 512,oP 37 (.build [(.sc (.int .i64 0)),(.sc (.int .i64 0)),(.sc (.map none))] []) 0,oP 38 (.box fV (tO 37)) 137438953472,oN (.mupd .string (tO 35) (tO 36) (tO 38)) 377957122048]) (.skip))) (.region none [oP 39 (.mv (tO 0)) 1,oP 40 (.nilc (tO 39)) 549755813888,oP 41 (.fld 2 (tO 40)) 1099511627776,oP 42 (.load 1 false (tO 41)) 2199023255552,oP 43 (.mv (tO 9)) 512,oP 44 (.look .string (.c (.sc (.pointer none))) false (tO 42) (tO 43)) 13194139533312,oP 0 (.mv (tO 44)) 17592186044416]))))) (.region none [oP 45 (.bin .add (tO 12) (kI 1)) 4096,oP 12 (.mv (tO 45)) 35184372088832]))))))) (.seq (.region none [oP 46 (.mv (tO 0)) 1,oP 47 (.mv (tO 0)) 1,oP 48 (.nilc (tO 47)) 140737488355328,oP 49 (.fld 0 (tO 48)) 281474976710656,oP 50 (.load 1 false (tO 49)) 562949953421312,oP 51 (.mv (tO 2)) 4,oP 52 (.bin .add (tO 50) (tO 51)) 3377699720527872,oP 53 (.mm false [(tO 52),(kI 100000000000001)]) 4503599627370496,oP 54 (.nilc (tO 46)) 70368744177664,oP 55 (.fld 0 (tO 54)) 18014398509481984,oN (.store 1 (tO 55) (tO 53)) 45035996273704960]) (.region none [oP 56 (.mv (tO 0)) 1,oP 57 (.mv (tO 0)) 1,oP 58 (.nilc (tO 57)) 144115188075855872,oP 59 (.fld 1 (tO 58)) 288230376151711744,oP 60 (.load 1 false (tO 59)) 576460752303423488,oP 61 (.mv (tO 3)) 8,oP 62 (.bin .add (tO 60) (tO 61)) 3458764513820540928,oP 63 (.mm false [(tO 62),(kI 20001)]) 4611686018427387904,oP 64 (.nilc (tO 56)) 72057594037927936,oP 65 (.fld 1 (tO 64)) 18446744073709551616,oN (.store 1 (tO 65) (tO 63)) 46116860184273879040])),[]⟩
set_option maxRecDepth 100000 in
theorem I6:jY Try.prog 27 = some qz∧cX Try.prog 27 = true:=⟨by kernel_rfl,by kernel_rfl⟩
def nJ:RF:=⟨.seq (.region none [oP 2 (.mv (.con (.c (.sc (.slice none 0 0))))) 0,oP 3 (.mv (kI 0)) 0]) (.seq (.region none [oP 8 (.mv (tO 0)) 1,oP 9 (.call qQ [(tO 8),(.con (.c (.sc (.slice none 0 0)))),(kI (-1))]) 256,oP 7 (.mv (tO 9)) 512,oP 10 (.ext (tO 7) 0) 128,oP 11 (.ext (tO 7) 1) 128,oP 4 (.mv (tO 10)) 1024,oP 5 (.mv (tO 11)) 2048]) (.seq (.seq (.region none [oP 12 (.mv (tO 4)) 16,oP 13 (.call pV [(tO 12)]) 4096,oP 6 (.mv (tO 13)) 8192]) (.seq (.region none [oP 14 (.mv (tO 6)) 64,oP 15 (.bin .neq (tO 14) (kI 0)) 16384]) (.cond (tO 15) (.seq (.region none [oP 16 (.mv (tO 6)) 64,oP 2 (.mv (.con (.c (.sc (.slice none 0 0))))) 0,oP 3 (.mv (tO 16)) 65536]) (.ret)) (.skip)))) (.seq (.region none [oP 17 (.mv (tO 4)) 16,oP 2 (.mv (tO 17)) 131072,oP 3 (.mv (kI 0)) 0]) (.ret)))),[.tmp 2,.tmp 3]⟩
set_option maxRecDepth 100000 in
theorem G3:jY Try.prog 28 = some nJ∧cX Try.prog 28 = true:=⟨by kernel_rfl,by kernel_rfl⟩
def o3:RF:=⟨.seq (.region none [oP 6 (.mv (.con (.c (.sc (.slice none 0 0))))) 0,oP 7 (.mv (kI 0)) 0]) (.seq (.region none [oP 8 (.mv (.con (.c (.sc (.slice none 0 0))))) 0]) (.seq (.seq (.region none [oP 16 (.mv (tO 0)) 1,oP 17 (.nilc (tO 16)) 65536,oP 18 (.fld 2 (tO 17)) 131072,oP 19 (.load 1 false (tO 18)) 262144,oP 20 (.rng (tO 19)) 524288]) (.block 0 (.loop (.seq (.region none [oP 21 (.nxt (tO 20)) 1048576,oP 22 (.ext (tO 21) 0) 2097152]) (.seq (.cond (tO 22) (.skip) (.exit 0)) (.block 1 (.seq (.region none [oP 23 (.ent (tO 20)) 1048576,oP 24 (.ext (tO 23) 0) 8388608,oP 9 (.mv (tO 24)) 16777216]) (.region none [oP 25 (.mv (tO 8)) 256,oP 26 (.mv (tO 9)) 512,oP 27 (.bsl d4 1 1 [(.sc (.string ⟨#[]⟩))] [(0,1,(tO 26))]) 67108864,oP 28 (.app d4 1 16 (tO 25) (tO 27)) 167772160,oP 8 (.mv (tO 28)) 268435456])))))))) (.seq (.region none [oP 29 (.mv (tO 8)) 256,oP 30 (.call eV [(tO 29)]) 536870912]) (.seq (.region none [oP 10 (.mv (kI 0)) 0]) (.seq (.seq (.region none [oP 31 (.mv (tO 8)) 256,oP 32 (.lenS (tO 31)) 2147483648,oP 33 (.mv (kI 0)) 0]) (.block 2 (.loop (.seq (.region none [oP 34 (.bin .lss (tO 33) (tO 32)) 12884901888]) (.seq (.cond (tO 34) (.skip) (.exit 2)) (.seq (.block 3 (.seq (.region none [oP 35 (.ixA 1 (tO 31) (tO 33)) 10737418240,oP 36 (.load 1 false (tO 35)) 34359738368,oP 12 (.mv (tO 36)) 68719476736]) (.seq (.region none [oP 37 (.mv (tO 0)) 1,oP 38 (.nilc (tO 37)) 137438953472,oP 39 (.fld 2 (tO 38)) 274877906944,oP 40 (.load 1 false (tO 39)) 549755813888,oP 41 (.mv (tO 12)) 4096,oP 42 (.look .string (.c (.sc (.pointer none))) false (tO 40) (tO 41)) 3298534883328,oP 13 (.mv (tO 42)) 4398046511104]) (.seq (.region none [oP 43 (.mv (tO 1)) 2,oP 44 (.lenS (tO 43)) 8796093022208,oP 14 (.mv (tO 44)) 17592186044416]) (.seq (.region (some [0,0,0,0,8,24,56,0,128,384,896,2046,4094,8191,16383]) [oP 45 (.mv (tO 1)) 2,oP 46 (.mv (tO 2)) 4,oP 47 (.mv (tO 12)) 4096,oP 48 (.mv (tO 13)) 8192,oP 49 (.nilc (tO 48)) 281474976710656,oP 50 (.fld 0 (tO 49)) 562949953421312,oP 51 (.load 1 false (tO 50)) 1125899906842624,oP 52 (.mv (tO 13)) 8192,oP 53 (.nilc (tO 52)) 4503599627370496,oP 54 (.fld 1 (tO 53)) 9007199254740992,oP 55 (.load 1 false (tO 54)) 18014398509481984,oP 56 (.build [(.sc (.int .i64 0)),(.sc (.string ⟨#[]⟩)),(.sc (.int .i64 0)),(.sc (.int .i64 0)),(.sc (.int .i64 0))] [(0,1,(tO 46)),(1,1,(tO 47)),(2,1,(tO 51)),(4,1,(tO 55))]) 38491703065182208,oP 57 (.bsl b9 5 1 [(.sc (.int .i64 0)),(.sc (.string ⟨#[]⟩)),(.sc (.int .i64 0)),(.sc (.int .i64 0)),(.sc (.int .i64 0))] [(0,5,(tO 56))]) 72057594037927936,oP 58 (.app b9 5 48 (tO 45) (tO 57)) 144150372447944704,oP 1 (.mv (tO 58)) 288230376151711744]) (.seq (.region none [oP 15 (.mv (kI 0)) 0]) (.seq (.region none [oP 60 (.mv (tO 13)) 8192,oP 61 (.mv (tO 1)) 2,oP 62 (.mv (tO 14)) 16384,oP 63 (.call qQ [(tO 60),(tO 61),(tO 62)]) 8070450532247928832,oP 59 (.mv (tO 63)) 9223372036854775808,oP 64 (.ext (tO 59) 0) 576460752303423488,oP 65 (.ext (tO 59) 1) 576460752303423488,oP 1 (.mv (tO 64)) 18446744073709551616,oP 15 (.mv (tO 65)) 36893488147419103232]) (.seq (.region none [oP 66 (.mv (tO 1)) 2,oP 67 (.mv (tO 14)) 16384,oP 68 (.mv (tO 13)) 8192,oP 69 (.nilc (tO 68)) 295147905179352825856,oP 70 (.fld 0 (tO 69)) 590295810358705651712,oP 71 (.load 1 false (tO 70)) 1180591620717411303424,oP 72 (.mv (tO 15)) 32768,oP 73 (.bin .add (tO 71) (tO 72)) 7083549724304467820544,oP 74 (.ixA 5 (tO 66) (tO 67)) 221360928884514619392,oP 75 (.fld 3 (tO 74)) 18889465931478580854784,oN (.store 1 (tO 75) (tO 73)) 47223664828696452136960]) (.region none [oP 76 (.mv (tO 10)) 1024,oP 77 (.mv (tO 1)) 2,oP 78 (.mv (tO 14)) 16384,oP 79 (.ixA 5 (tO 77) (tO 78)) 453347182355485940514816,oP 80 (.fld 3 (tO 79)) 604462909807314587353088,oP 81 (.load 1 false (tO 80)) 1208925819614629174706176,oP 82 (.bin .add (tO 76) (tO 81)) 2493409502955172672831488,oP 10 (.mv (tO 82)) 4835703278458516698824704]))))))))) (.region none [oP 83 (.bin .add (tO 33) (kI 1)) 8589934592,oP 33 (.mv (tO 83)) 9671406556917033397649408]))))))) (.seq (.region none [oP 84 (.mv (tO 1)) 2,oP 85 (.mv (tO 10)) 1024,oP 6 (.mv (tO 84)) 19342813113834066795298816,oP 7 (.mv (tO 85)) 38685626227668133590597632]) (.ret))))))),[.tmp 6,.tmp 7]⟩
set_option maxRecDepth 100000 in
theorem H2:jY Try.prog 42 = some o3∧cX Try.prog 42 = true:=⟨by kernel_rfl,by kernel_rfl⟩
def u6:RF:=⟨.seq (.region none [oP 4 (.mv (.con (.c (.sc (.slice none 0 0))))) 0,oP 5 (.mv (kI 0)) 0]) (.seq (.region none [oP 12 (.build [(.sc (.int .i64 0)),(.sc (.int .i64 0)),(.sc (.map none))] []) 0,oP 13 (.box fV (tO 12)) 4096,oP 6 (.mv (tO 13)) 8192]) (.seq (.seq (.region none [oP 14 (.mv (tO 0)) 1,oP 15 (.mv (tO 1)) 2,oP 16 (.bsl BY 1 2 [(.sc (.slice none 0 0))] [(0,1,(tO 14)),(1,1,(tO 15))]) 49152,oP 17 (.lenS (tO 16)) 65536,oP 18 (.mv (kI 0)) 0]) (.block 0 (.loop (.seq (.region none [oP 19 (.bin .lss (tO 18) (tO 17)) 393216]) (.seq (.cond (tO 19) (.skip) (.exit 0)) (.seq (.block 1 (.seq (.region none [oP 20 (.ixA 1 (tO 16) (tO 18)) 327680,oP 21 (.load 1 false (tO 20)) 1048576,oP 8 (.mv (tO 21)) 2097152]) (.seq (.seq (.region none [oP 22 (.mv (tO 8)) 256,oP 23 (.call pV [(tO 22)]) 4194304,oP 9 (.mv (tO 23)) 8388608]) (.seq (.region none [oP 24 (.mv (tO 9)) 512,oP 25 (.bin .neq (tO 24) (kI 0)) 16777216]) (.cond (tO 25) (.seq (.region none [oP 26 (.mv (tO 9)) 512,oP 4 (.mv (.con (.c (.sc (.slice none 0 0))))) 0,oP 5 (.mv (tO 26)) 67108864]) (.ret)) (.skip)))) (.seq (.region none [oP 27 (.mv (tO 8)) 256,oP 28 (.lenS (tO 27)) 134217728,oP 29 (.mv (kI 0)) 0]) (.block 2 (.loop (.seq (.region none [oP 30 (.bin .lss (tO 29) (tO 28)) 805306368]) (.seq (.cond (tO 30) (.skip) (.exit 2)) (.seq (.block 3 (.seq (.region none [oP 31 (.mv (tO 29)) 536870912,oP 32 (.ixA 5 (tO 27) (tO 29)) 671088640,oP 33 (.load 5 true (tO 32)) 4294967296,oP 11 (.alloc b9 [(.sc (.int .i64 0)),(.sc (.string ⟨#[]⟩)),(.sc (.int .i64 0)),(.sc (.int .i64 0)),(.sc (.int .i64 0))]) 0,oP 10 (.mv (tO 31)) 2147483648,oN (.store 5 (tO 11) (tO 33)) 8589936640]) (.region (some [0,0,0,6,0,16,0,64,255]) [oP 34 (.mv (tO 6)) 64,oP 35 (.mv (tO 8)) 256,oP 36 (.mv (tO 10)) 1024,oP 37 (.call G2 [(tO 35),(tO 36)]) 103079215104,oP 38 (.fld 2 (tO 11)) 2048,oP 39 (.load 1 false (tO 38)) 274877906944,oP 40 (.fld 4 (tO 11)) 2048,oP 41 (.load 1 false (tO 40)) 1099511627776,oP 42 (.call rJ [(tO 34),(tO 37),(tO 39),(tO 41)]) 2903397892096]))) (.region none [oP 43 (.bin .add (tO 29) (kI 1)) 536870912,oP 29 (.mv (tO 43)) 8796093022208])))))))))) (.region none [oP 44 (.bin .add (tO 18) (kI 1)) 262144,oP 18 (.mv (tO 44)) 17592186044416]))))))) (.seq (.region none [oP 45 (.mv (tO 6)) 64,oP 46 (.call oK [(tO 45)]) 35184372088832,oP 47 (.ext (tO 46) 0) 70368744177664,oP 48 (.ext (tO 46) 1) 70368744177664,oP 4 (.mv (tO 47)) 140737488355328,oP 5 (.mv (tO 48)) 281474976710656]) (.ret)))),[.tmp 4,.tmp 5]⟩
set_option maxRecDepth 100000 in
theorem P8:jY Try.prog 22 = some u6∧cX Try.prog 22 = true:=⟨by kernel_rfl,by kernel_rfl⟩
def x6:RF:=⟨.seq (.region none [oP 4 (.mv (.con (.c (.sc (.slice none 0 0))))) 0]) (.seq (.region none [oP 5 (.mv (.con (.c (.sc (.slice none 0 0))))) 0]) (.seq (.block 0 (.loop (.seq (.seq (.region none [oP 6 (.mv (tO 1)) 2,oP 7 (.bin .geq (tO 6) (kI 0)) 64]) (.cond (tO 7) (.skip) (.exit 0))) (.seq (.block 1 (.region none [oP 13 (.mv (tO 5)) 32,oP 14 (.mv (tO 0)) 1,oP 15 (.mv (tO 1)) 2,oP 16 (.ixA 5 (tO 14) (tO 15)) 49152,oP 17 (.fld 1 (tO 16)) 65536,oP 18 (.load 1 false (tO 17)) 131072,oP 19 (.bsl d4 1 1 [(.sc (.string ⟨#[]⟩))] [(0,1,(tO 18))]) 262144,oP 20 (.app d4 1 16 (tO 13) (tO 19)) 532480,oP 5 (.mv (tO 20)) 1048576])) (.region none [oP 8 (.mv (tO 0)) 1,oP 9 (.mv (tO 1)) 2,oP 10 (.ixA 5 (tO 8) (tO 9)) 768,oP 11 (.fld 0 (tO 10)) 1024,oP 12 (.load 1 false (tO 11)) 2048,oP 1 (.mv (tO 12)) 4096]))))) (.seq (.region none [oP 21 (.mv (tO 5)) 32,oP 22 (.call i5 [(tO 21)]) 2097152]) (.seq (.region none [oP 23 (.mv (tO 5)) 32,oP 4 (.mv (tO 23)) 8388608]) (.ret))))),[.tmp 4]⟩
set_option maxRecDepth 100000 in
theorem R3:jY Try.prog 38 = some x6∧cX Try.prog 38 = true:=⟨by kernel_rfl,by kernel_rfl⟩
def e8:RF:=⟨.seq (.region none [oP 4 (.mv (tO 0)) 1,oP 5 (.lenS (tO 4)) 16,oP 6 (.bin .sub (tO 5) (kI 1)) 32,oP 2 (.mv (kI 0)) 0,oP 3 (.mv (tO 6)) 64]) (.block 0 (.loop (.seq (.seq (.region none [oP 7 (.mv (tO 2)) 4,oP 8 (.mv (tO 3)) 8,oP 9 (.bin .lss (tO 7) (tO 8)) 384]) (.cond (tO 9) (.skip) (.exit 0))) (.seq (.block 1 (.region (some [0,0,0,0,0,0,48,112,0,0,768,1792,4083,8179,16383,32767]) [oP 14 (.mv (tO 0)) 1,oP 15 (.mv (tO 2)) 4,oP 16 (.mv (tO 0)) 1,oP 17 (.mv (tO 3)) 8,oP 18 (.mv (tO 0)) 1,oP 19 (.mv (tO 3)) 8,oP 20 (.ixA 1 (tO 18) (tO 19)) 786432,oP 21 (.load 1 false (tO 20)) 1048576,oP 22 (.mv (tO 0)) 1,oP 23 (.mv (tO 2)) 4,oP 24 (.ixA 1 (tO 22) (tO 23)) 12582912,oP 25 (.load 1 false (tO 24)) 16777216,oP 26 (.ixA 1 (tO 14) (tO 15)) 49152,oN (.store 1 (tO 26) (tO 21)) 69206016,oP 27 (.ixA 1 (tO 16) (tO 17)) 196608,oN (.store 1 (tO 27) (tO 25)) 167772160])) (.region none [oP 10 (.mv (tO 2)) 4,oP 11 (.bin .add (tO 10) (kI 1)) 1024,oP 12 (.mv (tO 3)) 8,oP 13 (.bin .sub (tO 12) (kI 1)) 4096,oP 2 (.mv (tO 11)) 2048,oP 3 (.mv (tO 13)) 8192]))))),[]⟩
set_option maxRecDepth 100000 in
theorem sW:jY Try.prog 50 = some e8∧cX Try.prog 50 = true:=⟨by kernel_rfl,by kernel_rfl⟩
def PV:Tr RF:=F2 [(vY,oW),(rJ,qz),(oK,nJ),(qQ,o3),(D1,u6),(G2,x6),(i5,e8)]
theorem avj:TOk Try.prog PV:=aLQ fun p hp=>by
 simp only [iw,List.not_mem_nil,or_false] at hp
 rcases hp with rfl | rfl | rfl | rfl | rfl | rfl | rfl
 ·exact H5
 ·exact I6
 ·exact G3
 ·exact H2
 ·exact P8
 ·exact R3
 ·exact sW
end Go.RM
namespace Go.RM
open Go.VM (T yJ tI)
theorem U3 (a b:Nat):Nat.ble a b = decide (a≤b):=by
 rw [Bool.eq_iff_iff,Nat.ble_eq,vw]
theorem UJ (a b:Nat):Nat.beq a b = decide (a = b):=by
 rw [Bool.eq_iff_iff,vw]
 exact ⟨Nat.eq_of_beq_eq_true,fun h=>h ▸ Nat.beq_refl a⟩
theorem aOJ {Γ:Tr V} {s:S} {t:Nat} {v:V} (h:look Γ t = v) (hp:kY v = true):F9 Γ s [.tmp t] = some ([v],0):=by
 simp only [F9,uq,h,hp,gd,cond_true,jk]
theorem wr {x:Int} (h1 : -9000000000000000000≤x) (h2:x≤9000000000000000000):IntKind.i64.wrap x = x:=by
 simp only [IntKind.wrap,IntKind.bits,IntKind.signed]
 simp
 omega
def RevI (xs ys:List X) (i:Nat):Prop:=ys.length = xs.length∧∀ k,k < xs.length→ys[k]? = if k < i∨xs.length - i≤k then xs[xs.length - 1 - k]? else xs[k]?
theorem RevI.start (xs:List X):RevI xs xs 0:=⟨rfl,fun k hk=>by rw [if_neg (by omega)]⟩
theorem RevI.step {xs ys:List X} {i:Nat} {a c:X} (h:RevI xs ys i) (hi:i < xs.length - 1 - i) (ha:ys[xs.length - 1 - i]? = some a) (hc:ys[i]? = some c):RevI xs ((ys.set i a).set (xs.length - 1 - i) c) (i + 1):=by
 refine ⟨by rw [sk,sk]; exact h.1,fun k hk=>?_⟩
 have ha':=h.2 (xs.length - 1 - i) (by omega)
 have hc':=h.2 i (by omega)
 rw [if_neg (by omega),ha] at ha'
 rw [if_neg (by omega),hc] at hc'
 rw [List.getElem?_set,sk,List.getElem?_set]
 by_cases e1:xs.length - 1 - i = k
 ·rw [if_pos e1,if_pos (by rw [h.1]; omega),if_pos (by omega),hc']
  congr 1
  omega
 ·rw [if_neg e1]
  by_cases e2:i = k
  ·rw [if_pos e2,if_pos (by rw [h.1]; omega),if_pos (by omega),ha']
   congr 1
   omega
  ·rw [if_neg e2,h.2 k hk]
   by_cases e3:k < i∨xs.length - i≤k
   ·rw [if_pos e3,if_pos (by omega)]
   ·rw [if_neg e3,if_neg (by omega)]
theorem RevI.fin {xs ys:List X} {i:Nat} (h:RevI xs ys i) (hi:xs.length - 1 - i≤i):ys = xs.reverse:=by
 apply List.ext_getElem?
 intro k
 by_cases hk:k < xs.length
 ·rw [h.2 k hk,List.getElem?_reverse hk]
  by_cases e:k < i∨xs.length - i≤k
  ·rw [if_pos e]
  ·rw [if_neg e]
   congr 1
   omega
 ·rw [uw (by rw [h.1]; omega),uw (by rw [List.length_reverse]; omega)]
theorem qq {orc:cV} {T:Tr RF} {F:Nat→Prop} {D:Prop} {Q:Ex→Tr V→S→Prop} {a c:RC} {Γ:Tr V} {s:S} (mid:Tr V→S→Prop) (h1:Wp orc T a Γ s F D (bZ mid (fun _ _ _=>False))) (h2:∀ Γ s,mid Γ s→Wp orc T c Γ s F D Q):Wp orc T (.seq a c) Γ s F D Q:=by
 refine bJ (Wp.mono h1 (fun _ h=>h) (fun h=>h) fun e Γ s h=>?_)
 cases e with
 | normal=>exact h2 Γ s h
 | exit _=>exact h.elim
 | ret=>exact h.elim
theorem akZ {orc:cV} {T:Tr RF} {F:Nat→Prop} {D:Prop} {Q:Ex→Tr V→S→Prop} {c:RC} {Γ:Tr V} {s:S} (I:Nat→Tr V→S→Prop) (n:Nat) (hI:I n Γ s) (h:∀ n Γ s,I n Γ s→Wp orc T c Γ s F D (bZ (fun Γ' s'=>∃ m,m < n∧I m Γ' s') Q)):Wp orc T (.loop c) Γ s F D Q:=by
 have key:∀ k n Γ s,n < k→I n Γ s→Wp orc T (.loop c) Γ s F D Q:=by
  intro k
  induction k with
  | zero=>intro n Γ s hn; omega
  | succ k ih =>
   intro n Γ s hn hI
   refine YX (Wp.mono (h n Γ s hI) (fun _ h=>h) (fun h=>h) fun e Γ' s' hq=>?_)
   cases e with
   | normal =>
    obtain ⟨m,hm,hI'⟩:=hq
    exact ih m Γ' s' (by omega) hI'
   | _=>exact hq
 exact key _ n Γ s (Nat.lt_succ_self _) hI
theorem aFQ {e:Opd→V} {a c:Opd} {x y:Int} (ha:e a = iV x) (hc:e c = iV y):bX e (.mm false [a,c]) = some (iV (min x y)):=by
 simp only [bX,nk,List.map_nil,ha,hc]
 rfl
theorem yW {s:S} {m:Nat} {kd:TypeDesc} {r:Bool} {es:List (Value × V)} (h:s.h.get m = some (.map kd r es)):IV s m = some (kd,es):=by
 unfold IV; rw [h]
section
variable {e:Opd→V} {s:S}
theorem MS.lookS {kd:TypeDesc} {z v:V} {x i:Opd} {m:Nat} {key:Value} {kd':TypeDesc} {es:List (Value × V)} (hx:e x = .c (.mp m)) (hi:FX kd (e i) = some key) (hm:IV s m = some (kd',es)) (hk:VX kd' kd = true) (hg:Go.VM.getK key es = some v):MS e s (.look kd z false x i) v s (fun k=>k = m) (fun _=>False):=by
 have:=MS.look (z:=z) (ok:=false) hx hi hm hk
 rw [hg] at this
 exact this
theorem MS.lookN {kd:TypeDesc} {z:V} {x i:Opd} {m:Nat} {key:Value} {kd':TypeDesc} {es:List (Value × V)} (hx:e x = .c (.mp m)) (hi:FX kd (e i) = some key) (hm:IV s m = some (kd',es)) (hk:VX kd' kd = true) (hg:Go.VM.getK key es = none):MS e s (.look kd z false x i) z s (fun k=>k = m) (fun _=>False):=by
 have:=MS.look (z:=z) (ok:=false) hx hi hm hk
 rw [hg] at this
 exact this
theorem agx {x y:Opd} {m:Nat} (hx:e x = .c (.mp m)) (hy:e y = .c (.sc (.map none))):bX e (.neq 1 false x y) = some (bV false):=by
 simp only [bX,hx,hy]; rfl
theorem U4 {x y:Opd} (hx:e x = .c (.sc (.map none))) (hy:e y = .c (.sc (.map none))):bX e (.neq 1 false x y) = some (bV true):=by
 simp only [bX,hx,hy]; rfl
theorem afz {x y:Opd} {m off:Nat} (hx:e x = .c (.ptr m off)) (hy:e y = .c (.sc (.pointer none))):bX e (.neq 0 false x y) = some (bV false):=by
 simp only [bX,hx,hy]; rfl
theorem UY {x y:Opd} (hx:e x = .c (.sc (.pointer none))) (hy:e y = .c (.sc (.pointer none))):bX e (.neq 0 false x y) = some (bV true):=by
 simp only [bX,hx,hy]; rfl
end
theorem avQ {s:S} {d m size:Nat} {seen:List Nat} {es:List (Value × V)}:∀ l:List Nat,(∀ i∈l,i < es.length)→∃ L,OQ s d m size seen es l = some L∧(∀ p∈L,∃ i q,i∈l∧seen.contains i = false∧es[i]? = some q∧p = (.tup [bV true,scV q.1,q.2],l6 s d (.iter m size (seen++[i]))))∧(L = []→∀ i∈l,seen.contains i = true)
 | [],_=>⟨[],rfl,fun p hp=>by simp at hp,fun _ i hi=>by simp at hi⟩
 | i :: l,h=>by
  obtain ⟨L,h1,h2,h3⟩:=avQ (s:=s) (d:=d) (m:=m) (size:=size) (seen:=seen) l fun j hj=>h j (ik _ hj)
  cases hc:seen.contains i with
  | true =>
   refine ⟨L,by simp only [OQ,hc,cond_true]; exact h1,fun p hp=>?_,fun e j hj=>?_⟩
   ·obtain ⟨j,q,g1,g2⟩:=h2 p hp
    exact ⟨j,q,ik _ g1,g2⟩
   ·rcases iw.1 hj with rfl | hj
    ·exact hc
    ·exact h3 e j hj
  | false =>
   obtain ⟨q,hq⟩ : ∃ q,es[i]? = some q:=⟨_,bk (h i lw)⟩
   refine ⟨(.tup [bV true,scV q.1,q.2],l6 s d (.iter m size (seen++[i]))) :: L,by simp only [OQ,hc,cond_false,hq,put,ck,h1,jk]; rfl,fun p hp=>?_,fun e=>by simp at e⟩
   rcases iw.1 hp with rfl | hp
   ·exact ⟨i,q,lw,hc,hq,rfl⟩
   ·obtain ⟨j,q',g1,g2⟩:=h2 p hp
    exact ⟨j,q',ik _ g1,g2⟩
section
variable {orc:cV} {T:Tr RF} {F:Nat→Prop} {D:Prop} {os:List (ROp × Nat)} {Γ:Tr V} {s:S} {b mk:Nat} {d:Option Nat} {Q:Tr V→S→Prop}
theorem aVV {x:Opd} {n m:Nat} {seen:List Nat} {kd:TypeDesc} {fl:Bool} {es:List (Value × V)} (hx:ev Γ x = .c (.ptr n 0)) (hn:s.h.get n = some (.iter m es.length seen)) (hm:s.h.get m = some (.map kd fl es)) (hF:F n∧F m)
  (h0:(∀ i,i < es.length→i∈seen)→Sq orc T os (putO d (.tup [bV false]) Γ) s F False Q)
  (h1:∀ i q,i ∉ seen→es[i]? = some q→Sq orc T os (putO d (.tup [bV true,scV q.1,q.2]) Γ) (l6 s n (.iter m es.length (seen++[i]))) F False Q) :
  Sq orc T ((⟨d,.nxt x,none⟩,mk) :: os) Γ s F False Q:=by
 refine O0 (o:=⟨d,.nxt x,none⟩) rfl ?_
 obtain ⟨L,g1,g2,g3⟩:=avQ (s:=s) (d:=n) (m:=m) (size:=es.length) (seen:=seen) (es:=es) (List.range es.length) fun i hi=>List.mem_range.1 hi
 have hb:∀ k,(Nat.lor (bit n) (bit m)).testBit k = true→F k:=fun k hk=>by
  rw [iq,xk] at hk
  rcases hk with hk | hk
  ·rw [cQ k hk]; exact hF.1
  ·rw [cQ k hk]; exact hF.2
 cases L with
 | nil =>
  refine ⟨0,[(.tup [bV false],s)],Nat.lor (bit n) (bit m),?_,fun p hp=>?_,hb,fun h=>h.elim⟩
  ·simp only [opX,ajj,hx,hn,hm,Nat.beq_refl,cond_true,g1]
  ·rw [dk.1 hp]
   exact h0 fun i hi=>by simpa using g3 rfl i (List.mem_range.2 hi)
 | cons y L =>
  refine ⟨0,y :: L,Nat.lor (bit n) (bit m),?_,fun p hp=>?_,hb,fun h=>h.elim⟩
  ·simp only [opX,ajj,hx,hn,hm,Nat.beq_refl,cond_true,g1]
  ·obtain ⟨i,q,_,f2,f3,rfl⟩:=g2 p hp
   exact h1 i q (by simpa using f2) f3
theorem aWq {x:Opd} {m:Nat} {kd:TypeDesc} {fl:Bool} {es:List (Value × V)} (hS:Sb b s) (hx:ev Γ x = .c (.mp m)) (hm:s.h.get m = some (.map kd fl es)) (hbm:b≤m) (hF:F m∧F s.c)
  (h:∀ s1,s1.h.get m = some (.map kd true es)→s1.h.get s.c = some (.iter m es.length [])→(∀ k,k ≠ m→k ≠ s.c→s1.h.get k = s.h.get k)→s1.c = s.c + 1→Sb b s1→Sq orc T os (putO d (.c (.ptr s.c 0)) Γ) s1 F D Q) :
  Sq orc T ((⟨d,.rng x,none⟩,mk) :: os) Γ s F D Q:=by
 have hlt:=hS.lt hm
 have hg:amX s m = some (kd,fl,es):=by unfold amX; rw [hm]
 have hnc:((l6 s m (.map kd true es)).h.get (l6 s m (.map kd true es)).c) = none:=by
  show (l6 s m (.map kd true es)).h.get s.c = none
  rw [(zx s m _).keep s.c (by omega)]
  exact hS.free _ (gk _)
 have hnew:new (l6 s m (.map kd true es)) (.iter m es.length []) = some (zz (l6 s m (.map kd true es)) (.iter m es.length [])):=AJ (s:=l6 s m (.map kd true es)) hnc _
 refine afq (o:=⟨d,.rng x,none⟩) rfl rfl (v:=.c (.ptr s.c 0)) (s':=zz (l6 s m (.map kd true es)) (.iter m es.length [])) (r:=Nat.lor (bit m) (bit s.c)) ?_ (fun k hk=>?_) (h _ ?_ (vq (l6 s m (.map kd true es)) _).self (fun k h1 h2=>?_) rfl ((hS.put hbm hlt _).new _))
 ·simp only [d5,hx,hg,ck,put]
  show (new (l6 s m (.map kd true es)) (.iter m es.length [])).map _ = _
  rw [hnew]; rfl
 ·rw [iq,xk] at hk
  rcases hk with hk | hk
  ·rw [cQ k hk]; exact hF.1
  ·rw [cQ k hk]; exact hF.2
 ·rw [(vq (l6 s m (.map kd true es)) _).keep m (by show m ≠ s.c; omega)]; exact (zx s m _).self
 ·rw [(vq (l6 s m (.map kd true es)) _).keep k h2]; exact (zx s m _).keep k h1
theorem aPV {x:Opd} (hS:Sb b s) (hx:ev Γ x = .c (.sc (.map none))) (hF:F s.c)
  (h:∀ s1,St s s1 s.c .itern→s1.c = s.c + 1→Sb b s1→Sq orc T os (putO d (.c (.ptr s.c 0)) Γ) s1 F D Q) :
  Sq orc T ((⟨d,.rng x,none⟩,mk) :: os) Γ s F D Q:=by
 refine afq (o:=⟨d,.rng x,none⟩) rfl rfl (v:=.c (.ptr s.c 0)) (s':=zz s .itern) (r:=bit s.c) ?_ (fun k hk=>by rw [cQ k hk]; exact hF) (h _ (vq s _) rfl (hS.new _))
 simp only [d5,hx]
 rw [AJ (hS.free _ (gk _))]; rfl
theorem aPQ {x:Opd} {n:Nat} (hx:ev Γ x = .c (.ptr n 0)) (hn:s.h.get n = some .itern) (hF:F n) (h:Sq orc T os (putO d (.tup [bV false]) Γ) s F D Q):Sq orc T ((⟨d,.nxt x,none⟩,mk) :: os) Γ s F D Q:=by
 refine O0 (o:=⟨d,.nxt x,none⟩) rfl ?_
 refine ⟨0,[(.tup [bV false],s)],bit n,?_,fun p hp=>by rw [dk.1 hp]; exact h,fun k hk=>by rw [cQ k hk]; exact hF,fun _=>⟨_,rfl⟩⟩
 simp only [opX,ajj,hx,hn]
theorem aXJ {x:Opd} {n m i:Nat} {seen:List Nat} {kd:TypeDesc} {fl:Bool} {es:List (Value × V)} {q:Value × V} (hx:ev Γ x = .c (.ptr n 0)) (hn:s.h.get n = some (.iter m es.length (seen++[i]))) (hm:s.h.get m = some (.map kd fl es)) (hq:es[i]? = some q) (hF:F n∧F m)
  (h:Sq orc T os (putO d (.tup [scV q.1,q.2]) Γ) s F D Q):Sq orc T ((⟨d,.ent x,none⟩,mk) :: os) Γ s F D Q:=by
 refine afq (o:=⟨d,.ent x,none⟩) rfl rfl (v:=.tup [scV q.1,q.2]) (s':=s) (r:=Nat.lor (bit n) (bit m)) ?_ (fun k hk=>?_) h
 ·simp only [d5,hx,hn,hm,Nat.beq_refl,gd,cond_true,List.getLast?_append,List.getLast?_singleton,Option.or_some,Option.some_or,ck,hq,jk]
 ·rw [iq,xk] at hk
  rcases hk with hk | hk
  ·rw [cQ k hk]; exact hF.1
  ·rw [cQ k hk]; exact hF.2
end
end Go.RM
namespace Go.RM
open Go Go.Proofs
structure TN where
 self:Int
 count:Int
 kids:Option (List (ByteArray × Nat))
abbrev Ar:=List TN
def rj (s:ByteArray):List (ByteArray × Nat)→Option Nat
 | []=>none
 | e :: l=>if s = e.1 then some e.2 else rj s l
def LZ (p:Ar × Nat) (s:ByteArray):Option (Ar × Nat):=p.1[p.2]?.map fun t =>
 let l:=t.kids.getD []
 match rj s l with
 | some k=>(p.1.set p.2 { t with kids:=some l },k)
 | none=>(p.1.set p.2 { t with kids:=some (l++[(s,p.1.length)]) }++[⟨0,0,none⟩],p.1.length)
def TX:Int:=100000000000000
def T4 (ar:Ar) (path:List ByteArray) (self count:Int):Option Ar:=(path.foldlM LZ (ar,0)).bind fun p=>p.1[p.2]?.map fun t =>
 p.1.set p.2 { t with self:=min (IntKind.i64.wrap (t.self + self)) (TX + 1),count:=min (IntKind.i64.wrap (t.count + count)) 20001 }
def yZ (ar:Ar):Nat→Nat→Int→Int→Option (List (Int × ByteArray × Int × Int × Int) × Int)
 | 0,_,_,_=>none
 | f + 1,i,parent,len=>ar[i]?.bind fun t =>
  let names:=(t.kids.getD []).mergeSort fun a b=>decide (a.1.data.toList≤b.1.data.toList)
  names.foldlM (fun (p:List (Int × ByteArray × Int × Int × Int) × Int) e=>ar[e.2]?.bind fun k =>
   (yZ ar f e.2 (len + p.1.length) (len + p.1.length + 1)).map fun q =>
    (p.1++(parent,e.1,k.self,IntKind.i64.wrap (k.self + q.2),k.count) :: q.1,IntKind.i64.wrap (p.2 + IntKind.i64.wrap (k.self + q.2)))) ([],0)
def IJ (t:TN) (m:Nat):X:=match t.kids with
 | none=>.sc (.map none)
 | some _=>.mp m
structure ArH (b:Nat) (h:Hp) (ps:List (Nat × Nat)) (ar:Ar):Prop where
 len:ps.length = ar.length
 cell:∀ (i:Nat) t p,ar[i]? = some t→ps[i]? = some p→b≤p.1∧h p.1 = some (.cells fV [.sc (.int .i64 t.self),.sc (.int .i64 t.count),IJ t p.2])
 kmap:∀ (i:Nat) t p l,ar[i]? = some t→ps[i]? = some p→t.kids = some l→b≤p.2∧h p.2 = some (.map .string false (l.map fun e=>(.string e.1,.c (.ptr ((ps.getD e.2 (0,0)).1) 0))))∧∀ e∈l,e.2 < ar.length
 inj:∀ (i j:Nat) p q,ps[i]? = some p→ps[j]? = some q→p.1 = q.1→i = j
 injm:∀ (i j:Nat) t u p q,ar[i]? = some t→ar[j]? = some u→ps[i]? = some p→ps[j]? = some q→t.kids ≠ none→u.kids ≠ none→p.2 = q.2→i = j
 ne:∀ (i j:Nat) u p q,ar[j]? = some u→ps[i]? = some p→ps[j]? = some q→u.kids ≠ none→p.1 ≠ q.2
theorem J8 (ps:List (Nat × Nat)) (s:ByteArray):∀ l:List (ByteArray × Nat),Go.VM.getK (.string s) (l.map fun e=>((Value.string e.1,V.c (.ptr ((ps.getD e.2 (0,0)).1) 0)):Value × V)) = (rj s l).map fun k=>V.c (.ptr ((ps.getD k (0,0)).1) 0)
 | []=>rfl
 | e :: l=>by
  simp only [nk,Go.VM.getK,Go.VM.keyB,rj,vw]
  by_cases h:s = e.1
  ·rw [if_pos h,if_pos h]; rfl
  ·rw [if_neg h,if_neg h]; exact J8 ps s l
end Go.RM
namespace Go.RM
open Go Go.Proofs
theorem aOY {ps:List (Nat × Nat)} {i m:Nat} {p:Nat × Nat} (hp:ps[i]? = some p) (j:Nat):((ps.set i (p.1,m)).getD j (0,0)).1 = (ps.getD j (0,0)).1:=by
 rw [List.getD_eq_getElem?_getD,List.getD_eq_getElem?_getD,List.getElem?_set]
 by_cases e:i = j
 ·subst e
  rw [if_pos rfl,if_pos (bw.1 hp).1,hp]; rfl
 ·rw [if_neg e]
theorem iX {α:Type} {l:List α} {i j:Nat} {x y:α} (h:(l.set i x)[j]? = some y):(i = j∧y = x)∨(i ≠ j∧l[j]? = some y):=by
 rw [List.getElem?_set] at h
 by_cases e:i = j
 ·subst e
  rw [if_pos rfl] at h
  split at h
  ·cases h; exact .inl ⟨rfl,rfl⟩
  ·cases h
 ·rw [if_neg e] at h; exact .inr ⟨e,h⟩
theorem ArH.mkmap {b:Nat} {h h':Hp} {ps:List (Nat × Nat)} {ar:Ar} (hA:ArH b h ps ar) {i m:Nat} {t:TN} {p:Nat × Nat} (ht:ar[i]? = some t) (hp:ps[i]? = some p) (hk:t.kids = none) (hm1:∀ (j:Nat) q,ps[j]? = some q→q.1 ≠ m) (hm2:∀ (j:Nat) u q,ar[j]? = some u→ps[j]? = some q→u.kids ≠ none→q.2 ≠ m) (hbm:b≤m)
  (h1:h' p.1 = some (.cells fV [.sc (.int .i64 t.self),.sc (.int .i64 t.count),.mp m])) (h2:h' m = some (.map .string false [])) (hkeep:∀ k,k ≠ p.1→k ≠ m→h' k = h k) :
  ArH b h' (ps.set i (p.1,m)) (ar.set i { t with kids:=some [] }):=by
 refine ⟨by rw [sk,sk]; exact hA.len,fun j u q hu hq=>?_,fun j u q l hu hq hl=>?_,fun j k q r hq hr e=>?_,fun j k u v q r hu hv hq hr hu2 hv2 e=>?_,fun j k v q r hv hq hr hv2=>?_⟩
 ·rcases iX hu with ⟨e,rfl⟩ | ⟨e,hu⟩
  ·subst e
   rcases iX hq with ⟨_,rfl⟩ | ⟨e,_⟩
   ·exact ⟨(hA.cell _ _ _ ht hp).1,h1⟩
   ·exact absurd rfl e
  ·rcases iX hq with ⟨e',_⟩ | ⟨_,hq⟩
   ·exact absurd e' e
   ·obtain ⟨c1,c2⟩:=hA.cell j u q hu hq
    exact ⟨c1,(hkeep _ (fun e2=>e (hA.inj _ _ _ _ hp hq e2.symm)) (hm1 j q hq)).trans c2⟩
 ·rcases iX hu with ⟨e,rfl⟩ | ⟨e,hu⟩
  ·subst e
   rcases iX hq with ⟨_,rfl⟩ | ⟨e,_⟩
   ·cases hl
    exact ⟨hbm,h2,fun e he=>by simp at he⟩
   ·exact absurd rfl e
  ·rcases iX hq with ⟨e',_⟩ | ⟨_,hq⟩
   ·exact absurd e' e
   ·obtain ⟨c1,c2,c3⟩:=hA.kmap j u q l hu hq hl
    have hne:u.kids ≠ none:=by rw [hl]; simp
    refine ⟨c1,?_,fun x hx=>by rw [sk]; exact c3 x hx⟩
    rw [hkeep _ (fun e2=>hA.ne i j u p q hu hp hq hne e2.symm) (hm2 j u q hu hq hne),c2]
    congr 2
    refine List.map_congr_left fun x _=>?_
    rw [aOY hp]
 ·rcases iX hq with ⟨e1,rfl⟩ | ⟨e1,hq⟩ <;> rcases iX hr with ⟨e2,rfl⟩ | ⟨e2,hr⟩
  ·rw [← e1,← e2]
  ·exact (hA.inj i k p r hp hr e ▸ e1.symm)
  ·rw [← e2]; exact hA.inj j i q p hq hp e
  ·exact hA.inj j k q r hq hr e
 ·rcases iX hq with ⟨e1,rfl⟩ | ⟨e1,hq⟩ <;> rcases iX hr with ⟨e2,rfl⟩ | ⟨e2,hr⟩
  ·rw [← e1,← e2]
  ·rcases iX hv with ⟨e3,_⟩ | ⟨_,hv⟩
   ·exact absurd e3 e2
   ·exact absurd e.symm (hm2 k v r hv hr hv2)
  ·rcases iX hu with ⟨e3,_⟩ | ⟨_,hu⟩
   ·exact absurd e3 e1
   ·exact absurd e (hm2 j u q hu hq hu2)
  ·rcases iX hu with ⟨e3,_⟩ | ⟨_,hu⟩
   ·exact absurd e3 e1
   ·rcases iX hv with ⟨e3,_⟩ | ⟨_,hv⟩
    ·exact absurd e3 e2
    ·exact hA.injm j k u v q r hu hv hq hr hu2 hv2 e
 ·rcases iX hr with ⟨e2,rfl⟩ | ⟨e2,hr⟩
  ·rcases iX hq with ⟨e1,rfl⟩ | ⟨e1,hq⟩
   ·exact hm1 i p hp
   ·exact hm1 j q hq
  ·rcases iX hv with ⟨e3,_⟩ | ⟨_,hv⟩
   ·exact absurd e3 e2
   ·rcases iX hq with ⟨e1,rfl⟩ | ⟨e1,hq⟩
    ·exact hA.ne i k v p r hv hp hr hv2
    ·exact hA.ne j k v q r hv hq hr hv2
end Go.RM
namespace Go.RM
open Go Go.Proofs
theorem BW {α:Type} {l:List α} {j:Nat} {x y:α} (h:(l++[x])[j]? = some y):(j < l.length∧l[j]? = some y)∨(j = l.length∧y = x):=by
 rcases Nat.lt_or_ge j l.length with h1 | h1
 ·rw [nw h1] at h; exact .inl ⟨h1,h⟩
 ·rw [uk h1] at h
  have h2:=(bw.1 h).1
  simp only [List.length_singleton] at h2
  have e:j - l.length = 0:=by omega
  rw [e] at h
  cases h; exact .inr ⟨by omega,rfl⟩
theorem ArH.mkkid {b:Nat} {h h':Hp} {ps:List (Nat × Nat)} {ar:Ar} (hA:ArH b h ps ar) {i n:Nat} {t:TN} {p:Nat × Nat} {l:List (ByteArray × Nat)} {s:ByteArray} (ht:ar[i]? = some t) (hp:ps[i]? = some p) (hk:t.kids = some l) (hm1:∀ (j:Nat) q,ps[j]? = some q→q.1 ≠ n) (hm2:∀ (j:Nat) u q,ar[j]? = some u→ps[j]? = some q→u.kids ≠ none→q.2 ≠ n) (hbn:b≤n)
  (h1:h' n = some (.cells fV [.sc (.int .i64 0),.sc (.int .i64 0),.sc (.map none)])) (h2:h' p.2 = some (.map .string false (l.map (fun e=>((Value.string e.1,V.c (.ptr ((ps.getD e.2 (0,0)).1) 0)):Value × V))++[(.string s,.c (.ptr n 0))]))) (hkeep:∀ k,k ≠ p.2→k ≠ n→h' k = h k) :
  ArH b h' (ps++[(n,0)]) (ar.set i { t with kids:=some (l++[(s,ar.length)]) }++[⟨0,0,none⟩]):=by
 have hl:=hA.len
 have hin:=(bw.1 ht).1
 have hkn:t.kids ≠ none:=by rw [hk]; simp
 have hg:∀ j,j < ar.length→((ps++[(n,0)]).getD j (0,0)).1 = (ps.getD j (0,0)).1:=fun j hj=>by
  rw [List.getD_eq_getElem?_getD,List.getD_eq_getElem?_getD,nw (by omega)]
 have hgn:((ps++[(n,0)]).getD ar.length (0,0)).1 = n:=by
  rw [List.getD_eq_getElem?_getD,uk (by omega),show ar.length - ps.length = 0 from by omega]; rfl
 have hent:∀ (j:Nat) u q,(ar.set i { t with kids:=some (l++[(s,ar.length)]) }++[⟨0,0,none⟩])[j]? = some u→(ps++[(n,0)])[j]? = some q→(j = i∧u = { t with kids:=some (l++[(s,ar.length)]) }∧q = p)∨(j ≠ i∧j < ar.length∧ar[j]? = some u∧ps[j]? = some q)∨(j = ar.length∧u = ⟨0,0,none⟩∧q = (n,0)):=by
  intro j u q hu hq
  rcases BW hu with ⟨e1,hu⟩ | ⟨e1,rfl⟩
  ·rw [sk] at e1
   rcases BW hq with ⟨_,hq⟩ | ⟨e2,_⟩
   ·rcases iX hu with ⟨e,rfl⟩ | ⟨e,hu⟩
    ·subst e
     rw [hp] at hq; cases hq
     exact .inl ⟨rfl,rfl,rfl⟩
    ·exact .inr (.inl ⟨Ne.symm e,e1,hu,hq⟩)
   ·omega
  ·rw [sk] at e1
   rcases BW hq with ⟨e2,_⟩ | ⟨_,rfl⟩
   ·omega
   ·exact .inr (.inr ⟨e1,rfl,rfl⟩)
 have hfst:∀ (j:Nat) q,(ps++[(n,0)])[j]? = some q→ps[j]? = some q∨(j = ar.length∧q = (n,0)):=fun j q hq=>by
  rcases BW hq with ⟨_,hq⟩ | ⟨e,rfl⟩
  ·exact .inl hq
  ·exact .inr ⟨by omega,rfl⟩
 refine ⟨by rw [kw,kw,sk,hl]; rfl,fun j u q hu hq=>?_,fun j u q l' hu hq hl'=>?_,fun j k q r hq hr e=>?_,fun j k u v q r hu hv hq hr hu2 hv2 e=>?_,fun j k v q r hv hq hr hv2=>?_⟩
 ·rcases hent j u q hu hq with ⟨rfl,rfl,rfl⟩ | ⟨e,_,hu,hq⟩ | ⟨_,rfl,rfl⟩
  ·obtain ⟨c1,c2⟩:=hA.cell _ _ _ ht hp
   refine ⟨c1,?_⟩
   rw [hkeep _ (hA.ne _ _ t _ _ ht hp hp hkn) (hm1 _ _ hp),c2]
   unfold IJ; rw [hk]
  ·obtain ⟨c1,c2⟩:=hA.cell _ _ _ hu hq
   exact ⟨c1,(hkeep _ (hA.ne _ _ t _ _ ht hq hp hkn) (hm1 _ _ hq)).trans c2⟩
  ·exact ⟨hbn,h1⟩
 ·rcases hent j u q hu hq with ⟨rfl,rfl,rfl⟩ | ⟨e,hj,hu,hq⟩ | ⟨_,rfl,rfl⟩
  ·cases hl'
   obtain ⟨c1,_,c3⟩:=hA.kmap _ _ _ _ ht hp hk
   refine ⟨c1,?_,fun x hx=>?_⟩
   ·rw [h2,vk,List.map_singleton,hgn]
    congr 3
    refine List.map_congr_left fun x hx=>?_
    rw [hg _ (c3 x hx)]
   ·rw [kw,sk,List.length_singleton]
    rcases qw.1 hx with hx | hx
    ·have:=c3 x hx; omega
    ·rw [dk.1 hx]; show ar.length < ar.length + 1; omega
  ·obtain ⟨c1,c2,c3⟩:=hA.kmap _ _ _ _ hu hq hl'
   have hne:u.kids ≠ none:=by rw [hl']; simp
   refine ⟨c1,?_,fun x hx=>?_⟩
   ·rw [hkeep _ (fun e2=>e (hA.injm _ _ _ _ _ _ hu ht hq hp hne hkn e2)) (hm2 _ _ _ hu hq hne),c2]
    congr 2
    refine List.map_congr_left fun x hx=>?_
    rw [hg _ (c3 x hx)]
   ·rw [kw,sk,List.length_singleton]
    have:=c3 x hx; omega
  ·cases hl'
 ·rcases hfst j q hq with hq | ⟨e1,rfl⟩ <;> rcases hfst k r hr with hr | ⟨e2,rfl⟩
  ·exact hA.inj _ _ _ _ hq hr e
  ·exact absurd e (hm1 _ _ hq)
  ·exact absurd e.symm (hm1 _ _ hr)
  ·rw [e1,e2]
 ·rcases hent j u q hu hq with ⟨rfl,rfl,rfl⟩ | ⟨e1,_,hu',hq'⟩ | ⟨_,rfl,rfl⟩
  ·rcases hent k v r hv hr with ⟨rfl,rfl,rfl⟩ | ⟨e2,_,hv',hr'⟩ | ⟨_,rfl,rfl⟩
   ·rfl
   ·exact hA.injm _ _ _ _ _ _ ht hv' hp hr' hkn hv2 e
   ·exact absurd rfl hv2
  ·rcases hent k v r hv hr with ⟨rfl,rfl,rfl⟩ | ⟨e2,_,hv',hr'⟩ | ⟨_,rfl,rfl⟩
   ·exact hA.injm _ _ _ _ _ _ hu' ht hq' hp hu2 hkn e
   ·exact hA.injm _ _ _ _ _ _ hu' hv' hq' hr' hu2 hv2 e
   ·exact absurd rfl hv2
  ·exact absurd rfl hu2
 ·rcases hent k v r hv hr with ⟨rfl,rfl,rfl⟩ | ⟨e2,_,hv,hr⟩ | ⟨_,rfl,rfl⟩
  ·rcases hfst j q hq with hq | ⟨e1,rfl⟩
   ·exact hA.ne _ _ t _ _ ht hq hp hkn
   ·exact fun e=>hm2 _ _ _ ht hp hkn e.symm
  ·rcases hfst j q hq with hq | ⟨e1,rfl⟩
   ·exact hA.ne _ _ _ _ _ hv hq hr hv2
   ·exact fun e=>hm2 _ _ _ hv hr hv2 e.symm
  ·exact absurd rfl hv2
end Go.RM
namespace Go.RM
open Go Go.Proofs
theorem ArH.sums {b:Nat} {h h':Hp} {ps:List (Nat × Nat)} {ar:Ar} (hA:ArH b h ps ar) {i:Nat} {t:TN} {p:Nat × Nat} {x y:Int} (ht:ar[i]? = some t) (hp:ps[i]? = some p)
  (h1:h' p.1 = some (.cells fV [.sc (.int .i64 x),.sc (.int .i64 y),IJ t p.2])) (hkeep:∀ k,k ≠ p.1→h' k = h k) :
  ArH b h' ps (ar.set i { t with self:=x,count:=y }):=by
 have hent:∀ (j:Nat) u q,(ar.set i { t with self:=x,count:=y })[j]? = some u→ps[j]? = some q→∃ u',ar[j]? = some u'∧u'.kids = u.kids∧(j = i→u = { t with self:=x,count:=y }∧q = p)∧(j ≠ i→u = u'):=by
  intro j u q hu hq
  rcases iX hu with ⟨e,rfl⟩ | ⟨e,hu⟩
  ·subst e
   rw [hp] at hq; cases hq
   exact ⟨t,ht,rfl,fun _=>⟨rfl,rfl⟩,fun h=>absurd rfl h⟩
  ·exact ⟨u,hu,rfl,fun h=>absurd h.symm e,fun _=>rfl⟩
 refine ⟨by rw [sk]; exact hA.len,fun j u q hu hq=>?_,fun j u q l hu hq hl=>?_,hA.inj,fun j k u v q r hu hv hq hr hu2 hv2 e=>?_,fun j k v q r hv hq hr hv2=>?_⟩
 ·obtain ⟨u',c1,c2,c3,c4⟩:=hent j u q hu hq
  obtain ⟨d1,d2⟩:=hA.cell j u' q c1 hq
  by_cases e:j = i
  ·obtain ⟨rfl,rfl⟩:=c3 e
   exact ⟨d1,h1⟩
  ·rw [c4 e]
   exact ⟨d1,(hkeep _ fun e2=>e (hA.inj _ _ _ _ hq hp e2)).trans d2⟩
 ·obtain ⟨u',c1,c2,_,_⟩:=hent j u q hu hq
  obtain ⟨d1,d2,d3⟩:=hA.kmap j u' q l c1 hq (c2.trans hl)
  refine ⟨d1,(hkeep _ fun e2=>hA.ne _ _ _ _ _ c1 hp hq (by rw [c2,hl]; simp) e2.symm).trans d2,fun e he=>by rw [sk]; exact d3 e he⟩
 ·obtain ⟨u',c1,c2,_,_⟩:=hent j u q hu hq
  obtain ⟨v',d1,d2,_,_⟩:=hent k v r hv hr
  exact hA.injm j k u' v' q r c1 d1 hq hr (by rw [c2]; exact hu2) (by rw [d2]; exact hv2) e
 ·obtain ⟨v',d1,d2,_,_⟩:=hent k v r hv hr
  exact hA.ne j k v' q r d1 hq hr (by rw [d2]; exact hv2)
end Go.RM
namespace Go.RM
open Go.VM (T yJ tI)
def rz (s:ByteArray):X:=.sc (.string s)
def PathX (b:Nat) (h:Hp) (x:X) (l:List ByteArray):Prop:=x = .im 1 (l.map fun s=>[.sc (.string s)])∨∃ m,b≤m∧x = .sl m 1 0 l.length∧h m = some (.cells d4 (l.map rz))
def KeepC (s s':S):Prop:=s.c≤s'.c∧∀ k e xs,s.h.get k = some (.cells e xs)→e ≠ fV→s'.h.get k = some (.cells e xs)
theorem KeepC.refl (s:S):KeepC s s:=⟨gk _,fun _ _ _ h _=>h⟩
theorem KeepC.trans {s s' s'':S} (h:KeepC s s') (k:KeepC s' s''):KeepC s s'':=⟨Nat.le_trans h.1 k.1,fun n e xs hn he=>k.2 n e xs (h.2 n e xs hn he) he⟩
theorem PathX.keep {b:Nat} {s s':S} {x:X} {l:List ByteArray} (h:PathX b s.h.get x l) (k:KeepC s s'):PathX b s'.h.get x l:=by
 rcases h with h | ⟨m,h0,h1,h2⟩
 ·exact .inl h
 ·exact .inr ⟨m,h0,h1,k.2 m _ _ h2 (by decide)⟩
theorem aNj {ar:Ar} {i:Nat} {t:TN} {l:List (ByteArray × Nat)} (ht:ar[i]? = some t) (hk:t.kids = some l):ar.set i { t with kids:=some l } = ar:=by
 have:({ t with kids:=some l }:TN) = t:=by cases t; simp only at hk; subst hk; rfl
 rw [this]
 apply List.ext_getElem?
 intro j
 rw [List.getElem?_set]
 by_cases e:i = j
 ·subst e; rw [if_pos rfl,if_pos (bw.1 ht).1,ht]
 ·rw [if_neg e]
theorem ArH.ar {b:Nat} {h:Hp} {ps:List (Nat × Nat)} {ar:Ar} (hA:ArH b h ps ar) {i:Nat} {p:Nat × Nat} (hp:ps[i]? = some p):∃ t,ar[i]? = some t:=⟨_,bk (by rw [← hA.len]; exact (bw.1 hp).1)⟩
theorem ArH.lt {b:Nat} {s:S} {ps:List (Nat × Nat)} {ar:Ar} (hS:Sb b s) (hA:ArH b s.h.get ps ar):(∀ (j:Nat) q,ps[j]? = some q→q.1 < s.c)∧(∀ (j:Nat) u q,ar[j]? = some u→ps[j]? = some q→u.kids ≠ none→q.2 < s.c):=by
 refine ⟨fun j q hq=>?_,fun j u q hu hq hk=>?_⟩
 ·obtain ⟨t,ht⟩:=hA.ar hq
  exact hS.lt (hA.cell j t q ht hq).2
 ·cases hl:u.kids with
  | none=>exact absurd hl hk
  | some l=>exact hS.lt (hA.kmap j u q l hu hq hl).2.1
theorem ArH.keep {b:Nat} {h h':Hp} {ps:List (Nat × Nat)} {ar:Ar} (hA:ArH b h ps ar) (h1:∀ (j:Nat) q,ps[j]? = some q→h' q.1 = h q.1) (h2:∀ (j:Nat) u q,ar[j]? = some u→ps[j]? = some q→u.kids ≠ none→h' q.2 = h q.2):ArH b h' ps ar :=
 ⟨hA.len,fun i t p ht hp=>⟨(hA.cell i t p ht hp).1,(h1 i p hp).trans (hA.cell i t p ht hp).2⟩,fun i t p l ht hp hl=>⟨(hA.kmap i t p l ht hp hl).1,(h2 i t p ht hp (by rw [hl]; simp)).trans (hA.kmap i t p l ht hp hl).2.1,(hA.kmap i t p l ht hp hl).2.2⟩,hA.inj,hA.injm,hA.ne⟩
theorem D4 {s:ByteArray} {k:Nat}:∀ {L:List (ByteArray × Nat)},rj s L = some k→(s,k)∈L
 | [],h=>by simp [rj] at h
 | a :: L,h=>by
  simp only [rj] at h
  split at h
  ·rename_i e
   cases h
   rw [e]; exact lw
  ·exact ik _ (D4 h)
theorem B7 {s:ByteArray}:∀ {L:List (ByteArray × Nat)},rj s L = none→∀ e∈L,e.1 ≠ s
 | [],_,e,he=>by simp at he
 | a :: L,h,e,he=>by
  simp only [rj] at h
  split at h
  ·simp at h
  ·rename_i hne
   rcases iw.1 he with rfl | he
   ·exact Ne.symm hne
   ·exact B7 h e he
theorem abX {s:ByteArray} {k:Nat}:∀ {L:List (ByteArray × Nat)},rj s L = none→rj s (L++[(s,k)]) = some k
 | [],_=>by simp [rj]
 | a :: L,h=>by
  simp only [rj,List.cons_append] at h ⊢
  split at h
  ·simp at h
  ·rename_i hne
   rw [if_neg hne]; exact abX h
theorem ajZ {s:ByteArray} {v:V} (f:ByteArray × Nat→V):∀ {L:List (ByteArray × Nat)},(∀ e∈L,e.1 ≠ s)→Go.VM.putK (.string s) v (L.map fun e=>((Value.string e.1,f e):Value × V)) = (L.map fun e=>((Value.string e.1,f e):Value × V))++[(.string s,v)]
 | [],_=>rfl
 | a :: L,h=>by
  have h1:=h a lw
  have hb:Go.VM.keyB (.string s) (.string a.1) = false:=by simp [Go.VM.keyB,Ne.symm h1]
  simp only [nk,Go.VM.putK,hb,pw,mw,List.cons_append]
  rw [ajZ f fun e he=>h e (ik _ he)]
set_option maxHeartbeats 4000000 in
theorem aJX {orc:cV} {b:Nat} {s:S} {ps:List (Nat × Nat)} {ar ar':Ar} {x:X} {l:List ByteArray} {self count:Int} {p0:Nat × Nat} (hS:Sb b s) (hA:ArH b s.h.get ps ar) (hl:l.length≤1000000) (hp0:ps[0]? = some p0) (hx:PathX b s.h.get x l) (hadd:T4 ar l self count = some ar') :
  Cp orc PV rJ [.c (.ptr p0.1 0),.c x,iV self,iV count] s (fun k=>b≤k) True fun _ s'=>∃ ps' m,Sb b s'∧ArH b s'.h.get ps' ar'∧ps'[0]? = some (p0.1,m)∧KeepC s s':=by
 refine GW (rf:=qz) rfl ?_
 unfold qz
 obtain ⟨Γ,hΓ⟩ : ∃ Γ,Γ = ofL [V.c (.ptr p0.1 0),.c x,iV self,iV count] 0 .lf:=⟨_,rfl⟩
 have g0:look Γ 0 = .c (.ptr p0.1 0):=by rw [hΓ]; rfl
 have g1:look Γ 1 = .c x:=by rw [hΓ]; rfl
 have g2:look Γ 2 = iV self:=by rw [hΓ]; rfl
 have g3:look Γ 3 = iV count:=by rw [hΓ]; rfl
 rw [← hΓ]
 try clear G
 clear hΓ
 unfold T4 at hadd
 obtain ⟨pf,hfold,hadd⟩:=ak.1 hadd
 obtain ⟨tf,htf,rfl⟩:=aw.1 hadd
 try clear G
 clear hadd
 refine qq (fun Γ t=>look Γ 2 = iV self∧look Γ 3 = iV count∧∃ (ps1:List (Nat × Nat)) (m0:Nat) (q:Nat × Nat),look Γ 0 = .c (.ptr q.1 0)∧ps1[pf.2]? = some q∧Sb b t∧ArH b t.h.get ps1 pf.1∧ps1[0]? = some (p0.1,m0)∧KeepC s t) ?_ ?_
 ·refine qq (fun Γ t=>s = t∧look Γ 0 = .c (.ptr p0.1 0)∧look Γ 2 = iV self∧look Γ 3 = iV count∧look Γ 10 = .c x∧look Γ 11 = iV (l.length:Int)∧look Γ 12 = iV 0) ?_ ?_
  ·rcases hx with rfl | ⟨m,_,rfl,_⟩
   ·skip
    replace G:=dw g0 (dw g1 (dw g2 g3))
    refine aZ ?_
    refine qVL ?_
    refine qPL ?_
    refine qVL ?_
    refine bY ?_
    try dsimp only [bZ]
    exact ⟨rfl,lkL,lkL,lkL,lkL,lkL,lkL⟩
   ·skip
    replace G:=dw g0 (dw g1 (dw g2 g3))
    refine aZ ?_
    refine qV ?_
    refine qP ?_
    refine qV ?_
    refine bY ?_
    try dsimp only [bZ]
    exact ⟨rfl,lk,lk,lk,lk,lk,lk⟩
  ·try clear G
   clear g0 g1 g2 g3
   rintro Γ t ⟨rfl,g0,g2,g3,g10,g11,g12⟩
   refine j4 (J7 (fun Γ t=>look Γ 2 = iV self∧look Γ 3 = iV count∧look Γ 10 = .c x∧look Γ 11 = iV (l.length:Int)∧∃ (j:Nat) (ps1:List (Nat × Nat)) (m0:Nat) (q:Nat × Nat) (p:Ar × Nat),look Γ 12 = iV (j:Int)∧j≤l.length∧(l.drop j).foldlM LZ p = some pf∧look Γ 0 = .c (.ptr q.1 0)∧ps1[p.2]? = some q∧Sb b t∧ArH b t.h.get ps1 p.1∧ps1[0]? = some (p0.1,m0)∧KeepC s t) (fun Γ _=>match look Γ 12 with
    | .c (.sc (.int _ i))=>l.length - i.toNat
    | _=>0) ⟨g2,g3,g10,g11,0,ps,p0.2,p0,(ar,0),g12,Nat.zero_le _,hfold,g0,hp0,hS,hA,hp0,KeepC.refl _⟩ ?_)
   try clear G
   clear g0 g2 g3 g10 g11 g12 Γ hA hfold hp0
   rintro Γ t ⟨g2,g3,g10,g11,j,ps1,m0,q,p,g12,hj,hfold,g0,hq,hS,hA,hp0,hK⟩
   replace G:=dw g0 (dw g2 (dw g3 (dw g10 (dw g11 g12))))
   refine bJ (aZ ?_)
   refine qP ?_
   refine bY ?_
   dsimp only [bZ]
   by_cases hjl:j < l.length
   ·refine bJ (fq (t:=true) ?_ (p8 ?_))
    ·simp only [uq,fX,rk,isB,bV,scV]
     rw [decide_eq_true (by omega)]
    dsimp only [bZ]
    obtain ⟨sj,hsj⟩ : ∃ sj,l[j]? = some sj:=⟨_,bk hjl⟩
    have hdrop:l.drop j = sj :: l.drop (j + 1):=by
     rw [List.drop_eq_getElem_cons hjl]
     rw [bk hjl] at hsj
     cases hsj; rfl
    rw [hdrop,List.foldlM_cons] at hfold
    obtain ⟨p',hdown,hfold2⟩:=ak.1 hfold
    obtain ⟨a1,i⟩:=p
    simp only at hq hA
    unfold LZ at hdown
    obtain ⟨tn,htn,hdown⟩:=aw.1 hdown
    simp only at htn hdown
    have hxt:=hx.keep hK
    refine qq (fun Γ t'=>look Γ 2 = iV self∧look Γ 3 = iV count∧look Γ 10 = .c x∧look Γ 11 = iV (l.length:Int)∧look Γ 12 = iV (j:Int)∧∃ (ps1:List (Nat × Nat)) (m0:Nat) (q:Nat × Nat),look Γ 0 = .c (.ptr q.1 0)∧ps1[p'.2]? = some q∧Sb b t'∧ArH b t'.h.get ps1 p'.1∧ps1[0]? = some (p0.1,m0)∧KeepC s t') (j4 ?_) ?_
    ·refine qq (fun Γ t'=>t = t'∧look Γ 0 = .c (.ptr q.1 0)∧look Γ 2 = iV self∧look Γ 3 = iV count∧look Γ 10 = .c x∧look Γ 11 = iV (l.length:Int)∧look Γ 12 = iV (j:Int)∧look Γ 9 = .c (.sc (.string sj))) ?_ ?_
     ·rcases hxt with rfl | ⟨m,hbm,rfl,hm⟩
      ·have hrow:(l.map fun s=>[T.sc (.string s)])[j]? = some [.sc (.string sj)]:=by rw [ow,hsj]; rfl
       replace G:=dw g0 (dw g2 (dw g3 (dw g10 (dw g11 g12))))
       refine aZ ?_
       refine qX ?_
       refine qL ?_
       refine qV ?_
       refine bY ?_
       try dsimp only [bZ]
       exact ⟨rfl,lk,lk,lk,lk,lk,lk,lk⟩
      ·have hrow:(l.map rz)[j]? = some (.sc (.string sj)):=by rw [ow,hsj]; rfl
       replace G:=dw g0 (dw g2 (dw g3 (dw g10 (dw g11 g12))))
       refine aZ ?_
       refine qX ?_
       refine qL ?_
       refine qV ?_
       refine bY ?_
       try dsimp only [bZ]
       exact ⟨rfl,lk,lk,lk,lk,lk,lk,lk⟩
     ·try clear G
      clear g0 g2 g3 g10 g11 g12
      rintro Γ _ ⟨rfl,g0,g2,g3,g10,g11,g12,g9⟩
      obtain ⟨hbq,hcell⟩:=hA.cell i tn q htn hq
      have hqc:=hS.lt hcell
      obtain ⟨lt1,lt2⟩:=hA.lt hS
      refine qq (fun Γ t'=>look Γ 0 = .c (.ptr q.1 0)∧look Γ 2 = iV self∧look Γ 3 = iV count∧look Γ 10 = .c x∧look Γ 11 = iV (l.length:Int)∧look Γ 12 = iV (j:Int)∧look Γ 9 = .c (.sc (.string sj))∧∃ (ps2:List (Nat × Nat)) (m2 m0:Nat),ps2[i]? = some (q.1,m2)∧Sb b t'∧ArH b t'.h.get ps2 (a1.set i { tn with kids:=some (tn.kids.getD []) })∧ps2[0]? = some (p0.1,m0)∧KeepC s t') ?_ ?_
      ·cases hk:tn.kids with
       | none =>
        have hkx:IJ tn q.2 = .sc (.map none):=by unfold IJ; rw [hk]
        rw [hkx] at hcell
        replace G:=dw g0 (dw g2 (dw g3 (dw g10 (dw g11 (dw g12 g9)))))
        refine bJ (aZ ?_)
        refine qV ?_
        refine qP ?_
        refine qP ?_
        refine qL ?_
        refine eX rfl (by first | exact agx bK bK | exact U4 bK bK | exact afz bK bK | exact UY bK bK) ?_
        refine bY ?_
        dsimp only [bZ]
        refine fq (t:=true) (by simp only [evS,Nat.reduceEqDiff,reduceIte]; rfl) ?_
        dsimp only [cond_true]
        refine aZ ?_
        refine qV ?_
        refine H6 rfl (MS.mkmap hS) mq ?_
        refine AQ hS ?_
        intro s1 hst1 hsc1 hS1
        replace hcell:=hst1.at hcell (by omega)
        have hn1:=hst1.self
        refine qP ?_
        refine qP ?_
        refine qT ?_
        refine C7 hS1 (by omega) (by omega) ?_
        intro s2 hst2 hsc2 hS2
        first | replace hcell:=hst2.at hcell (by omega) | replace hcell:=hst2.self
        first | replace hn1:=hst2.at hn1 (by omega) | replace hn1:=hst2.self
        refine bY ?_
        try dsimp only [bZ]
        have hgd:((none:Option (List (ByteArray × Nat))).getD []) = []:=rfl
        refine ⟨lk,lk,lk,lk,lk,lk,lk,ps1.set i (q.1,t.c),t.c,if i = 0 then t.c else m0,?_,hS2,?_,?_,?_⟩
        ·rw [List.getElem?_set,if_pos rfl,if_pos (bw.1 hq).1]
        ·rw [hgd]
         refine hA.mkmap htn hq hk (fun j q' hq'=>by have:=lt1 j q' hq'; omega) (fun j u q' hu hq' hk'=>by have:=lt2 j u q' hu hq' hk'; omega) hS.le hcell ?_ (fun k h1 h2=>?_)
         ·exact hn1
         ·rw [hst2.keep k h1,hst1.keep k h2]
        ·rw [List.getElem?_set]
         by_cases e:i = 0
         ·subst e
          rw [hp0] at hq; cases hq
          rw [if_pos rfl,if_pos (bw.1 hp0).1,if_pos rfl]
         ·rw [if_neg e,if_neg e]; exact hp0
        ·refine hK.trans ⟨by omega,fun k e xs hk he=>?_⟩
         have hkc:=hS.lt hk
         have hkq:k ≠ q.1:=fun h=>by
          rw [h,(hA.cell i tn q htn hq).2] at hk
          cases hk; exact he rfl
         rw [hst2.keep k hkq,hst1.keep k (by omega)]; exact hk
       | some l0 =>
        have hkx:IJ tn q.2 = .mp q.2:=by unfold IJ; rw [hk]
        rw [hkx] at hcell
        replace G:=dw g0 (dw g2 (dw g3 (dw g10 (dw g11 (dw g12 g9)))))
        refine bJ (aZ ?_)
        refine qV ?_
        refine qP ?_
        refine qP ?_
        refine qL ?_
        refine eX rfl (by first | exact agx bK bK | exact U4 bK bK | exact afz bK bK | exact UY bK bK) ?_
        refine bY ?_
        dsimp only [bZ]
        refine fq (t:=false) (by simp only [evS,Nat.reduceEqDiff,reduceIte]; rfl) (p8 ?_)
        refine ⟨lk,lk,lk,lk,lk,lk,lk,ps1,q.2,m0,hq,hS,?_,hp0,hK⟩
        rw [show ((some l0:Option (List (ByteArray × Nat))).getD []) = l0 from rfl,aNj htn hk]
        exact hA
      ·try clear G
       clear g0 g2 g3 g10 g11 g12 g9 hcell hqc lt1 lt2 hA hS hK hp0
       rintro Γ t2 ⟨g0,g2,g3,g10,g11,g12,g9,ps2,m2,m0,hq2,hS,hA,hp0,hK⟩
       generalize hL:tn.kids.getD [] = L at hdown hA
       have hin:i < a1.length:=(bw.1 htn).1
       have ht2:(a1.set i { tn with kids:=some L })[i]? = some { tn with kids:=some L }:=by rw [List.getElem?_set,if_pos rfl,if_pos hin]
       obtain ⟨hbq,hcell⟩:=hA.cell i _ _ ht2 hq2
       obtain ⟨hbm,hmap,hkl⟩:=hA.kmap i _ _ L ht2 hq2 rfl
       have hqc:=hS.lt hcell
       have hmc:=hS.lt hmap
       obtain ⟨lt1,lt2⟩:=hA.lt hS
       have hqm:q.1 ≠ m2:=hA.ne i i _ _ _ ht2 hq2 hq2 (by simp)
       simp only [IJ] at hcell hbq hbm hmap hqc hmc
       have hkey:=J8 ps2 sj L
       refine qq (fun Γ t'=>look Γ 0 = .c (.ptr q.1 0)∧look Γ 2 = iV self∧look Γ 3 = iV count∧look Γ 10 = .c x∧look Γ 11 = iV (l.length:Int)∧look Γ 12 = iV (j:Int)∧look Γ 9 = .c (.sc (.string sj))∧∃ (ps2:List (Nat × Nat)) (m2 m0:Nat) (tk:TN) (kk:List (ByteArray × Nat)),ps2[i]? = some (q.1,m2)∧Sb b t'∧ArH b t'.h.get ps2 p'.1∧p'.1[i]? = some tk∧tk.kids = some kk∧rj sj kk = some p'.2∧p'.2 < p'.1.length∧ps2[0]? = some (p0.1,m0)∧KeepC s t') ?_ ?_
       ·cases hka:rj sj L with
        | none =>
         rw [hka] at hkey hdown
         cases hdown
         simp only [Option.map_none] at hkey
         replace G:=dw g0 (dw g2 (dw g3 (dw g10 (dw g11 (dw g12 g9)))))
         refine bJ (aZ ?_)
         refine qV ?_
         refine qP ?_
         refine qP ?_
         refine qL ?_
         refine qV ?_
         refine H6 rfl (by first | exact MS.lookS bK (by simp only [evS,Nat.reduceEqDiff,reduceIte,FX,G]; rfl) (yW (by assumption)) rfl (by assumption) | exact MS.lookN bK (by simp only [evS,Nat.reduceEqDiff,reduceIte,FX,G]; rfl) (yW (by assumption)) rfl (by assumption)) mq ?_
         refine eX rfl (by first | exact agx bK bK | exact U4 bK bK | exact afz bK bK | exact UY bK bK) ?_
         refine bY ?_
         dsimp only [bZ]
         refine fq (t:=true) (by simp only [evS,Nat.reduceEqDiff,reduceIte]; rfl) ?_
         dsimp only [cond_true]
         refine aZ ?_
         refine qV ?_
         refine qP ?_
         refine qP ?_
         refine qL ?_
         refine qV ?_
         refine eX rfl (by simp only [evS,Nat.reduceEqDiff,reduceIte,PU,bX,scV,bV,iV,gK,isB,isI,qZ,CV,mkV,fill,cY,setAt,List.take_zero,List.take_succ_cons,List.take_nil,List.drop_nil,List.append_nil,List.nil_append,List.cons_append,List.length_cons,List.length_nil,Nat.reduceAdd,Nat.reduceLeDiff,UJ,U3,eq_self,decide_true,Bool.and_self,G]; first | done | rfl) ?_
         refine H6 rfl (MS.box hS aiq) mq ?_
         refine AQ hS ?_
         intro s3 hst3 hsc3 hS3
         replace hcell:=hst3.at hcell (by omega)
         replace hmap:=hst3.at hmap (by omega)
         have hn3:=hst3.self
         refine H6 rfl (MS.mupd bK (by simp only [evS,Nat.reduceEqDiff,reduceIte,FX,G]; rfl) (by assumption) rfl (by simp only [evS,Nat.reduceEqDiff,reduceIte,kY,G])) mq ?_
         refine C7 hS3 (by omega) (by omega) ?_
         intro s4 hst4 hsc4 hS4
         first | replace hcell:=hst4.at hcell (by omega) | replace hcell:=hst4.self
         first | replace hmap:=hst4.at hmap (by omega) | replace hmap:=hst4.self
         first | replace hn3:=hst4.at hn3 (by omega) | replace hn3:=hst4.self
         refine bY ?_
         try dsimp only [bZ]
         have hp2:ps2[i]? = some (q.1,m2):=hq2
         have hlen:=hA.len
         rw [sk] at hlen
         have hput:=ajZ (v:=V.c (.ptr t2.c 0)) (fun e=>V.c (.ptr ((ps2.getD e.2 (0,0)).1) 0)) (B7 hka)
         have hmk:=hA.mkkid (h':=s4.h.get) (n:=t2.c) (s:=sj) ht2 hq2 rfl (fun j q' hq'=>by have:=lt1 j q' hq'; omega) (fun j u q' hu hq' hk'=>by have:=lt2 j u q' hu hq' hk'; omega) hS.le hn3 ?_ (fun k h1 h2=>?_)
         ·refine ⟨lk,lk,lk,lk,lk,lk,lk,ps2++[(t2.c,0)],m2,m0,{ tn with kids:=some (L++[(sj,a1.length)]) },L++[(sj,a1.length)],?_,hS4,?_,?_,rfl,?_,?_,?_,?_⟩
          rotate_left 1
          ·rw [List.set_set] at hmk
           simp only [sk] at hmk
           exact hmk
          ·rw [nw (by rw [sk]; exact hin),List.getElem?_set,if_pos rfl,if_pos hin]
          ·exact abX hka
          ·rw [kw,sk]; simp
          ·rw [nw (bw.1 hp0).1]; exact hp0
          ·refine hK.trans ⟨by omega,fun k e xs hk he=>?_⟩
           have hkc:=hS.lt hk
           have hkm:k ≠ m2:=fun h=>by
            have h2:=(hA.kmap i _ _ L ht2 hq2 rfl).2.1
            rw [h,h2] at hk
            cases hk
           rw [hst4.keep k hkm,hst3.keep k (by omega)]; exact hk
          ·rw [nw (bw.1 hq2).1]; exact hq2
         ·rw [hst4.self,← hput]
          congr 2
          simp only [evS,Nat.reduceEqDiff,reduceIte]
         ·rw [hst4.keep k h1,hst3.keep k h2]
        | some k =>
         rw [hka] at hkey hdown
         cases hdown
         simp only [jk] at hkey
         replace G:=dw g0 (dw g2 (dw g3 (dw g10 (dw g11 (dw g12 g9)))))
         refine bJ (aZ ?_)
         refine qV ?_
         refine qP ?_
         refine qP ?_
         refine qL ?_
         refine qV ?_
         refine H6 rfl (by first | exact MS.lookS bK (by simp only [evS,Nat.reduceEqDiff,reduceIte,FX,G]; rfl) (yW (by assumption)) rfl (by assumption) | exact MS.lookN bK (by simp only [evS,Nat.reduceEqDiff,reduceIte,FX,G]; rfl) (yW (by assumption)) rfl (by assumption)) mq ?_
         refine eX rfl (by first | exact agx bK bK | exact U4 bK bK | exact afz bK bK | exact UY bK bK) ?_
         refine bY ?_
         dsimp only [bZ]
         refine fq (t:=false) (by simp only [evS,Nat.reduceEqDiff,reduceIte]; rfl) (p8 ?_)
         have hkm:(sj,k)∈L:=D4 hka
         have hkk:=hkl _ hkm
         rw [sk] at hkk
         refine ⟨lk,lk,lk,lk,lk,lk,lk,ps2,m2,m0,_,L,hq2,hS,hA,ht2,rfl,hka,by rw [sk]; exact hkk,hp0,hK⟩
       ·try clear G
        clear g0 g2 g3 g10 g11 g12 g9 hcell hmap hkey hqc hmc hqm lt1 lt2 hA hS hK hp0 hq2 hbq hbm hkl
        rintro Γ t3 ⟨g0,g2,g3,g10,g11,g12,g9,ps3,m3,m0,tk,kk,hq3,hS,hA,htk,hlk,hka,hkn,hp0,hK⟩
        obtain ⟨hbq,hcell⟩:=hA.cell i _ _ htk hq3
        obtain ⟨hbm,hmap,hkl⟩:=hA.kmap i _ _ kk htk hq3 hlk
        have hkx:IJ tk m3 = .mp m3:=by unfold IJ; rw [hlk]
        rw [hkx] at hcell
        have hkey:=J8 ps3 sj kk
        rw [hka] at hkey
        simp only [jk] at hkey
        obtain ⟨q3,hq4⟩ : ∃ q3,ps3[p'.2]? = some q3:=⟨_,bk (by rw [hA.len]; exact hkn)⟩
        have hgd:(ps3.getD p'.2 (0,0)).1 = q3.1:=by rw [List.getD_eq_getElem?_getD,hq4]; rfl
        rw [hgd] at hkey
        simp only at hbq hbm hmap
        replace G:=dw g0 (dw g2 (dw g3 (dw g10 (dw g11 (dw g12 g9)))))
        refine aZ ?_
        refine qV ?_
        refine qP ?_
        refine qP ?_
        refine qL ?_
        refine qV ?_
        refine H6 rfl (by first | exact MS.lookS bK (by simp only [evS,Nat.reduceEqDiff,reduceIte,FX,G]; rfl) (yW (by assumption)) rfl (by assumption) | exact MS.lookN bK (by simp only [evS,Nat.reduceEqDiff,reduceIte,FX,G]; rfl) (yW (by assumption)) rfl (by assumption)) mq ?_
        refine qV ?_
        refine bY ?_
        try dsimp only [bZ]
        exact ⟨lk,lk,lk,lk,lk,ps3,m0,q3,lk,hq4,hS,hA,hp0,hK⟩
    ·try clear G
     clear g0 g2 g3 g10 g11 hA hS hK hp0 hq hxt htn
     rintro Γ2 t4 ⟨g2,g3,g10,g11,k12,ps4,m0,q4,g0,hq,hS,hA,hp0,hK⟩
     replace G:=dw g0 (dw g2 (dw g3 (dw g10 (dw g11 k12))))
     refine aZ ?_
     refine qP ?_
     refine qV ?_
     refine bY ?_
     try dsimp only [bZ]
     refine ⟨⟨lk,lk,lk,lk,j + 1,ps4,m0,q4,p',?_,by omega,hfold2,lk,hq,hS,hA,hp0,hK⟩,?_⟩
     ·simp only [evS,Nat.reduceEqDiff,reduceIte]
      rw [wr (by omega) (by omega)]; rfl
     ·simp only [evS,Nat.reduceEqDiff,reduceIte,g12,iV]
      rw [wr (by omega) (by omega)]
      omega
   ·refine bJ (fq (t:=false) ?_ (z6 ?_))
    ·simp only [uq,fX,rk,isB,bV,scV]
     rw [decide_eq_false (by omega)]
    have hjl:j = l.length:=by omega
    subst hjl
    rw [List.drop_length] at hfold
    simp only [List.foldlM_nil,Option.pure_def,cw] at hfold
    subst hfold
    simp only [bZ,Nat.beq_refl,cond_true]
    exact ⟨(by simp only [evS,Nat.reduceEqDiff,reduceIte,g0,g2,g3,g10,g11,g12]; try rfl),(by simp only [evS,Nat.reduceEqDiff,reduceIte,g0,g2,g3,g10,g11,g12]; try rfl),ps1,m0,q,(by simp only [evS,Nat.reduceEqDiff,reduceIte,g0,g2,g3,g10,g11,g12]; try rfl),hq,hS,hA,hp0,hK⟩
 ·try clear G
  clear g0 g1 g2 g3 hA hS hp0
  rintro Γ t ⟨g2,g3,ps1,m0,q,g0,hq,hS,hA,hp0,hK⟩
  obtain ⟨hbq,hcell⟩:=hA.cell pf.2 tf q htf hq
  have hqc:=hS.lt hcell
  replace G:=dw g0 (dw g2 g3)
  refine bJ (aZ ?_)
  refine qV ?_
  refine qV ?_
  refine qP ?_
  refine qP ?_
  refine qL ?_
  refine qV ?_
  refine qP ?_
  refine eX rfl (aFQ bK bK) ?_
  refine qP ?_
  refine qP ?_
  refine qT ?_
  refine C7 hS (by omega) (by omega) ?_
  intro s5 hst5 hsc5 hS5
  first | replace hcell:=hst5.at hcell (by omega) | replace hcell:=hst5.self
  refine bY ?_
  dsimp only [bZ]
  refine aZ ?_
  refine qV ?_
  refine qV ?_
  refine qP ?_
  refine qP ?_
  refine qL ?_
  refine qV ?_
  refine qP ?_
  refine eX rfl (aFQ bK bK) ?_
  refine qP ?_
  refine qP ?_
  refine qT ?_
  refine C7 hS5 (by omega) (by omega) ?_
  intro s6 hst6 hsc6 hS6
  first | replace hcell:=hst6.at hcell (by omega) | replace hcell:=hst6.self
  refine bY ?_
  try dsimp only [bZ]
  refine ⟨.inl rfl,[],0,rfl,iY,ps1,m0,hS6,?_,hp0,hK.trans ⟨by omega,fun k e xs hk he=>?_⟩⟩
  ·refine hA.sums htf hq ?_ (fun k hk=>by rw [hst6.keep k hk,hst5.keep k hk])
   rw [hcell]
   unfold TX
   rfl
  ·have hkq:k ≠ q.1:=fun h=>by
    rw [h,(hA.cell pf.2 tf q htf hq).2] at hk
    cases hk; exact he rfl
   rw [hst6.keep k hkq,hst5.keep k hkq]; exact hk
end Go.RM
namespace Go.RM
open Go.VM (T yJ tI)
theorem E9 (a b:List UInt8):(decide (a≤b) || decide (b≤a)) = true:=by
 simp only [xk,vw]
 exact List.le_total a b
theorem D3 (a b c:List UInt8) (h1:decide (a≤b) = true) (h2:decide (b≤c) = true):decide (a≤c) = true:=by
 simp only [vw] at *
 exact List.le_trans h1 h2
theorem aJZ (a b:List UInt8) (h1:decide (a≤b) = true) (h2:decide (b≤a) = true):a = b:=by
 simp only [vw] at *
 exact List.le_antisymm h1 h2
def leS (a b:ByteArray):Bool:=decide (a.data.toList≤b.data.toList)
def mX (l:List ByteArray):List ByteArray:=l.mergeSort leS
theorem aMY {a b:ByteArray} (h1:leS a b = true) (h2:leS b a = true):a = b:=by
 have h:=aJZ _ _ h1 h2
 cases a with | mk a => cases b with | mk b =>
 have:a = b:=by
  cases a; cases b; simp only at h; rw [h]
 rw [this]
theorem Gq:∀ {l l':List ByteArray},l.Perm l'→l.Pairwise (fun a b=>leS a b = true)→l'.Pairwise (fun a b=>leS a b = true)→l = l'
 | [],l',h,_,_=>h.nil_eq
 | a :: l,[],h,_,_=>by have:=h.length_eq; simp at this
 | a :: l,b :: l',h,h1,h2=>by
  rw [List.pairwise_cons] at h1 h2
  have hab:a = b:=by
   have ha:a∈b :: l':=h.subset lw
   have hb:b∈a :: l:=h.symm.subset lw
   rcases iw.1 ha with e | ha
   ·exact e
   ·rcases iw.1 hb with e | hb
    ·exact e.symm
    ·exact aMY (h1.1 b hb) (h2.1 a ha)
  subst hab
  rw [Gq (h.cons_inv) h1.2 h2.2]
theorem JV (l:List ByteArray):(mX l).Pairwise (fun a b=>leS a b = true) :=
 List.pairwise_mergeSort (le:=leS) (fun a b c h1 h2=>D3 _ _ _ h1 h2) (fun a b=>E9 _ _) l
def C3 (l:List (ByteArray × Nat)):List (ByteArray × Nat):=l.mergeSort fun a b=>leS a.1 b.1
theorem ux (l:List (ByteArray × Nat)):(C3 l).Perm l:=List.mergeSort_perm l _
theorem aoV {l:List (ByteArray × Nat)} {names:List ByteArray} (h:names.Perm (l.map (·.1))):mX names = (C3 l).map (·.1):=by
 refine Gq ?_ (JV names) ?_
 ·exact ((List.mergeSort_perm names leS).trans h).trans ((ux l).map (·.1)).symm
 ·rw [List.pairwise_map]
  exact List.pairwise_mergeSort (le:=fun a b:ByteArray × Nat=>leS a.1 b.1) (fun a b c h1 h2=>D3 _ _ _ h1 h2) (fun a b=>E9 _ _) l
def RowK (h:Hp) (t:TypeId) (k:Nat) (x:X) (cs:List X) (cnt n:Nat):Prop:=cs.length = cnt * k∧((x = .sc gK∧cnt = 0)∨(x = .sl n k 0 cnt∧h n = some (.cells t cs)))
theorem RowK.keep {h h':Hp} {t:TypeId} {k cnt:Nat} {x:X} {cs:List X} {n:Nat} (hr:RowK h t k x cs cnt n) (hk:h' n = h n):RowK h' t k x cs cnt n:=by
 obtain ⟨h0,hr | ⟨h1,h2⟩⟩:=hr
 ·exact ⟨h0,.inl hr⟩
 ·exact ⟨h0,.inr ⟨h1,hk.trans h2⟩⟩
def Cel (s t:S):Prop:=∀ k e xs,s.h.get k = some (.cells e xs)→t.h.get k = some (.cells e xs)
theorem RowK.cel {s s':S} {t:TypeId} {k cnt:Nat} {x:X} {cs:List X} {n:Nat} (hr:RowK s.h.get t k x cs cnt n) (hc:Cel s s'):RowK s'.h.get t k x cs cnt n:=by
 obtain ⟨h0,hr | ⟨h1,h2⟩⟩:=hr
 ·exact ⟨h0,.inl hr⟩
 ·exact ⟨h0,.inr ⟨h1,hc _ _ _ h2⟩⟩
theorem Cel.trans {s s' s'':S} (h:Cel s s') (k:Cel s' s''):Cel s s'':=fun n e xs hn=>k n e xs (h n e xs hn)
theorem Cel.lt {b:Nat} {s t t':S} (h:Cel s t) (hS:Sb b s) (hk:∀ k,k < s.c→t'.h.get k = t.h.get k):Cel s t':=fun k e xs hn=>by rw [hk k (hS.lt hn)]; exact h k e xs hn
theorem Cp.weak {orc:cV} {T:Tr RF} {f:FuncId} {args:List V} {s:S} {F:Nat→Prop} {Q:V→S→Prop} (h:Cp orc T f args s F True Q):Cp orc T f args s F False Q:=h.mono (fun _ h=>h) (fun h=>h.elim) (fun _ _ h=>h)
theorem aWY {xs:List X} {n:Nat} (h:xs.length = n):cut xs 0 n = some xs:=by
 unfold cut
 simp only [List.drop_zero]
 rw [List.take_of_length_le (by omega),h,Nat.beq_refl]
 rfl
theorem aGZ {e:Opd→V} {s:S} {b:Nat} {t:TypeId} {k bytes:Nat} {sl x:Opd} {xv:X} {cs ys:List X} {cnt n m:Nat} {t2:TypeId} (hS:Sb b s) (hs:e sl = .c xv) (hr:RowK s.h.get t k xv cs cnt n) (hbn:b≤n) (hx:e x = .c (.sl m k 0 1)) (hm:s.h.get m = some (.cells t2 ys)) (hy:ys.length = k) (hr1:r9 bytes (cnt + 1) = true) :
  ∃ s1,MS e s (.app t k bytes sl x) (.c (.sl s.c k 0 (cnt + 1))) s1 (fun j=>j = m∨j = n∨j = s.c) (fun j=>j = n∨j = s.c)∧SaN s s1 n (.cells t (cs++ys))∧Sb b s1:=by
 have hc:cut ys 0 (1 * k) = some ys:=aWY (by omega)
 obtain ⟨h0,⟨rfl,rfl⟩ | ⟨rfl,hn⟩⟩:=hr
 ·have:cs = []:=fk (by omega)
  subst this
  refine ⟨zz s (.cells t ys),?_,⟨(vq s _).self,fun k _ h=>(vq s _).keep k h,rfl⟩,hS.new _⟩
  obtain ⟨r,wm,h1,h2,h3,h4,h5⟩:=MS.app_nil (t:=t) (k:=k) (bytes:=bytes) hS hs hx hm hc rfl hr1
  exact ⟨r,wm,h1,h2,h3,fun k hk=>(h4 k hk).imp id .inr,fun k hk=>.inr (h5 k hk)⟩
 ·have hlt:=hS.lt hn
  exact ⟨_,MS.app_own (t:=t) (k:=k) (bytes:=bytes) hS hs hn (aWY h0) hx hm hc rfl hr1,⟨(aeX hlt).self,(aeX hlt).keep,rfl⟩,(hS.put hbn hlt .dead).new _⟩
theorem MS.bslK {e:Opd→V} {s:S} {b:Nat} {t:TypeId} {k:Nat} {z ys:List X} {x:Opd} (hS:Sb b s) (hx:e x = .agg ys) (hz:z.length = k) (hy:ys.length = k):MS e s (.bsl t k 1 z [(0,k,x)]) (.c (.sl s.c k 0 1)) (zz s (.cells t ys)) (fun j=>j = s.c) (fun j=>j = s.c):=by
 refine MS.bsl hS ?_
 have e1:(List.replicate 1 z).flatten = z:=by simp
 have e2:setAt z 0 ys = ys:=by
  unfold setAt
  rw [List.take_zero,List.drop_eq_nil_of_le (by omega)]
  simp
 have h1:Nat.beq ys.length k = true:=by rw [hy]; exact Nat.beq_refl k
 have h2:Nat.ble (0 + k) z.length = true:=by rw [Nat.ble_eq]; omega
 simp only [e1,fill,hx,cY,ck,h1,h2,Bool.and_self,gd,cond_true,e2]
section
variable {orc:cV} {T:Tr RF} {F:Nat→Prop} {D:Prop} {os:List (ROp × Nat)} {Γ:Tr V} {s:S} {b n m:Nat} {d:Option Nat} {g:Option (Nat × Bool)} {mk:Nat} {t t2:TypeId} {kk bytes cnt:Nat} {sl x:Opd} {xv:X} {cs ys:List X}
theorem aNW {bb:Nat} {tab:List Nat} {i:Nat} {ds:List Fp} {k:Tr V→S→Prop} (hw:wQ Γ g = some true) (hS:Sb b s) (hs:ev Γ sl = .c xv) (hr:RowK s.h.get t kk xv cs cnt n) (hbn:b≤n) (hx:ev Γ x = .c (.sl m kk 0 1)) (hm:s.h.get m = some (.cells t2 ys)) (hy:ys.length = kk) (hr1:r9 bytes (cnt + 1) = true) (hF:∀ k,(k = m∨k = n∨k = s.c)→F k)
  (ha:∀ z∈ds,apO bb z (fun k=>k = m∨k = n∨k = s.c) (fun k=>k = n∨k = s.c))
  (hk:∀ s1,SaN s s1 n (.cells t (cs++ys))→Sb b s1→Dr orc T F D os tab (i + 1) (ds++[⟨i,fun k=>k = m∨k = n∨k = s.c,fun k=>k = n∨k = s.c⟩]) (putO d (.c (.sl s.c kk 0 (cnt + 1))) Γ) s1 k):Dr orc T F D ((⟨d,.app t kk bytes sl x,g⟩,mk) :: os) (bb :: tab) i ds Γ s k:=by
 obtain ⟨s1,h1,h2,h3⟩:=aGZ (bytes:=bytes) hS hs hr hbn hx hm hy hr1
 exact aAJ hw h1 hF ha (hk s1 h2 h3)
theorem D6 {e:Opd→V} {x:Opd} {h:Hp} (hx:e x = .c xv) (hr:RowK h t kk xv cs cnt n):bX e (.lenS x) = some (iV (cnt:Int)):=by
 obtain ⟨_,⟨rfl,rfl⟩ | ⟨rfl,_⟩⟩:=hr
 ·simp only [bX,hx,gK]; rfl
 ·simp only [bX,hx]
end
abbrev N5:=Int × ByteArray × Int × Int × Int
def akQ (n:N5):List X:=[.sc (.int .i64 n.1),.sc (.string n.2.1),.sc (.int .i64 n.2.2.1),.sc (.int .i64 n.2.2.2.1),.sc (.int .i64 n.2.2.2.2)]
def gz (l:List N5):List X:=(l.map akQ).flatten
theorem nY (l:List N5):(gz l).length = l.length * 5:=by
 unfold gz
 induction l with
 | nil=>rfl
 | cons a l ih=>simp only [nk,List.flatten_cons,kw,ih,List.length_cons]; simp [akQ]; omega
theorem Rq (l l':List N5):gz (l++l') = gz l++gz l':=by unfold gz; rw [vk,List.flatten_append]
theorem aAx (l l':List N5) (n:N5) (j:Nat) (hj:j < 5):(gz (l++n :: l'))[l.length * 5 + j]? = (akQ n)[j]?:=by
 have e:gz (l++n :: l') = gz l++(akQ n++gz l'):=by
  rw [Rq]; rfl
 rw [e,uk (by rw [nY]; omega),nY,nw (by simp [akQ]; omega)]
 congr 1; omega
theorem aDW (l l':List N5) (a:Int) (b:ByteArray) (c d e d':Int):(gz (l++(a,b,c,d,e) :: l')).set (l.length * 5 + 3) (.sc (.int .i64 d')) = gz (l++(a,b,c,d',e) :: l'):=by
 have e1:∀ n:N5,gz (l++n :: l') = gz l++(akQ n++gz l'):=fun n=>by rw [Rq]; rfl
 rw [e1,e1,List.set_append_right _ _ (by rw [nY]; omega),nY,show l.length * 5 + 3 - l.length * 5 = 3 by omega]
 rfl
theorem GK {Γ:Tr V} {s:S} {t t':Nat} {v v':V} (h:look Γ t = v) (h':look Γ t' = v') (hp:kY v = true) (hp':kY v' = true):F9 Γ s [.tmp t,.tmp t'] = some ([v,v'],0):=by
 simp only [F9,uq,h,h',hp,hp',gd,cond_true,jk]
structure OZ (orc:cV):Prop where
 nil:∀ s,Cp orc PV eV [.c (.sc gK)] s (fun _=>False) True fun v s'=>s = s'∧v = .tup []
 own:∀ b s m (ss:List ByteArray),Sb b s→s.h.get m = some (.cells d4 (ss.map rz))→b≤m→ss.length≤1000000 →
  Cp orc PV eV [.c (.sl m 1 0 ss.length)] s (fun k=>b≤k) True fun v s'=>v = .tup []∧Sb b s'∧s'.c = s.c∧s'.h.get m = some (.cells d4 ((mX ss).map rz))∧∀ k,k ≠ m→s'.h.get k = s.h.get k
structure ArR (b:Nat) (h:Hp) (ps:List (Nat × Nat)) (ar:Ar):Prop where
 len:ps.length = ar.length
 cell:∀ (i:Nat) t p,ar[i]? = some t→ps[i]? = some p→b≤p.1∧h p.1 = some (.cells fV [.sc (.int .i64 t.self),.sc (.int .i64 t.count),IJ t p.2])
 kmap:∀ (i:Nat) t p l,ar[i]? = some t→ps[i]? = some p→t.kids = some l→b≤p.2∧(∃ fl,h p.2 = some (.map .string fl (l.map fun e=>(.string e.1,.c (.ptr ((ps.getD e.2 (0,0)).1) 0)))))∧∀ e∈l,e.2 < ar.length
theorem ArH.toR {b:Nat} {h:Hp} {ps:List (Nat × Nat)} {ar:Ar} (hA:ArH b h ps ar):ArR b h ps ar:=⟨hA.len,hA.cell,fun i t p l ht hp hl=>by
 obtain ⟨h1,h2,h3⟩:=hA.kmap i t p l ht hp hl
 exact ⟨h1,⟨_,h2⟩,h3⟩⟩
def KeepL (s s':S):Prop:=s.c≤s'.c∧(∀ k e xs,s.h.get k = some (.cells e xs)→e ≠ b9→s'.h.get k = some (.cells e xs))∧∀ k kd fl es,s.h.get k = some (.map kd fl es)→∃ fl',s'.h.get k = some (.map kd fl' es)
theorem KeepL.refl (s:S):KeepL s s:=⟨gk _,fun _ _ _ h _=>h,fun _ _ fl _ h=>⟨fl,h⟩⟩
theorem KeepL.trans {s s' s'':S} (h:KeepL s s') (k:KeepL s' s''):KeepL s s'':=⟨Nat.le_trans h.1 k.1,fun n e xs hn he=>k.2.1 n e xs (h.2.1 n e xs hn he) he,fun n kd fl es hn=>by
 obtain ⟨fl',h1⟩:=h.2.2 n kd fl es hn
 exact k.2.2 n kd fl' es h1⟩
theorem ArR.keep {b:Nat} {s s':S} {ps:List (Nat × Nat)} {ar:Ar} (hA:ArR b s.h.get ps ar) (hk:KeepL s s'):ArR b s'.h.get ps ar:=⟨hA.len,fun i t p ht hp=>⟨(hA.cell i t p ht hp).1,hk.2.1 _ _ _ (hA.cell i t p ht hp).2 (by decide)⟩,fun i t p l ht hp hl=>by
 obtain ⟨h1,⟨fl,h2⟩,h3⟩:=hA.kmap i t p l ht hp hl
 exact ⟨h1,hk.2.2 _ _ _ _ h2,h3⟩⟩
end Go.RM
namespace Go.RM
open Go.VM (T yJ tI)
theorem aNY {e:Opd→V} {x:Opd} {vs:List V} {i:Nat} {y:X} (hx:e x = .tup vs) (hy:vs[i]? = some (.c y)):bX e (.ext x i) = some (.c y):=by
 simp only [bX,hx,hy]
def L7 (ar:Ar) (f:Nat) (parent len:Int) (p:List N5 × Int) (e:ByteArray × Nat):Option (List N5 × Int):=ar[e.2]?.bind fun k =>
 (yZ ar f e.2 (len + p.1.length) (len + p.1.length + 1)).map fun q =>
  (p.1++(parent,e.1,k.self,IntKind.i64.wrap (k.self + q.2),k.count) :: q.1,IntKind.i64.wrap (p.2 + IntKind.i64.wrap (k.self + q.2)))
theorem GX (ar:Ar) (f i:Nat) (parent len:Int):yZ ar (f + 1) i parent len = ar[i]?.bind fun t=>(C3 (t.kids.getD [])).foldlM (L7 ar f parent len) ([],0):=rfl
theorem Sz {ar:Ar} {f:Nat} {parent len:Int}:∀ {l:List (ByteArray × Nat)} {p q:List N5 × Int},l.foldlM (L7 ar f parent len) p = some q→p.1.length + l.length≤q.1.length
 | [],p,q,h=>by simp only [List.foldlM_nil,Option.pure_def,cw] at h; subst h; simp
 | e :: l,p,q,h=>by
  rw [List.foldlM_cons] at h
  obtain ⟨p',h1,h2⟩:=ak.1 h
  have:=Sz h2
  unfold L7 at h1
  obtain ⟨k,hk,h1⟩:=ak.1 h1
  obtain ⟨r,hr,rfl⟩:=aw.1 h1
  simp only [kw,List.length_cons] at this ⊢
  omega
def y9 (ar:Ar):Prop:=∀ (i:Nat) t,ar[i]? = some t→((t.kids.getD []).map (·.1)).Nodup
theorem aqq {s:ByteArray} {k:Nat}:∀ {L:List (ByteArray × Nat)},(L.map (·.1)).Nodup→(s,k)∈L→rj s L = some k
 | [],_,h=>by simp at h
 | a :: L,hn,h=>by
  rw [nk,List.nodup_cons] at hn
  simp only [rj]
  rcases iw.1 h with e | h
  ·rw [← e]; simp
  ·rw [if_neg,aqq hn.2 h]
   intro e
   exact hn.1 (e ▸ List.mem_map_of_mem h)
theorem adQ:∀ (n:Nat) (l:List Nat),l.Nodup→(∀ i∈l,i < n)→l.length≤n
 | 0,[],_,_=>gk _
 | 0,a :: l,_,h=>by have:=h a lw; omega
 | n + 1,l,hn,h=>by
  have h1:=adQ n (l.erase n) (hn.erase n) fun i hi=>by
   have h2:=h i (List.mem_of_mem_erase hi)
   have h3:=(hn.mem_erase_iff.1 hi).1
   omega
  rw [List.length_erase] at h1
  split at h1 <;> omega
def aRj (h:Hp) (x:X) (l:List ByteArray) (m:Nat):Prop:=(x = .sc gK∧l = [])∨(x = .sl m 1 0 l.length∧h m = some (.cells d4 (l.map rz)))
theorem aBX {n:Nat} {seen:List Nat} (h1:seen.Nodup) (h2:∀ i∈seen,i < n) (h3:∀ i,i < n→i∈seen):seen.Perm (List.range n):=by
 rw [List.perm_ext_iff_of_nodup h1 List.nodup_range]
 intro i
 rw [List.mem_range]
 exact ⟨h2 i,h3 i⟩
theorem aHz {n:Nat} (h:n≤1000000):r9 16 n = true:=by
 unfold r9
 rw [ek,Nat.ble_eq,Nat.ble_eq]
 omega
theorem aWW {n:Nat} (h:n≤1000000):r9 48 n = true:=by
 unfold r9
 rw [ek,Nat.ble_eq,Nat.ble_eq]
 omega
structure aJq (b:Nat) (s t:S) (ps:List (Nat × Nat)) (ar:Ar) (xn:X) (names:List ByteArray) (m:Nat):Prop where
 sb:Sb b t
 keep:KeepL s t
 nam:RowN t.h.get d4 xn (names.map rz) m
 hi:s.c≤m
 cel:Cel s t
theorem KeepL.row {b:Nat} {s t t':S} (h:KeepL s t) (hS:Sb b s) (hc:t.c≤t'.c) (hk:∀ k,k < s.c→t'.h.get k = t.h.get k):KeepL s t' :=
 ⟨Nat.le_trans h.1 hc,fun k e xs hn he=>by rw [hk k (hS.lt hn)]; exact h.2.1 k e xs hn he,fun k kd fl es hn=>by rw [hk k (hS.lt hn)]; exact h.2.2 k kd fl es hn⟩
set_option maxHeartbeats 1000000 in
theorem aTj {orc:cV} (hsort:OZ orc) {b:Nat} {ps:List (Nat × Nat)} {ar:Ar} (hkids:y9 ar):∀ (f i:Nat) (parent:Int) (L out:List N5) (w:Int) (s:S) (x:X) (n:Nat) (p:Nat × Nat),yZ ar f i parent (L.length:Int) = some (out,w)→(L++out).length≤100000→Sb b s→ArR b s.h.get ps ar→ps[i]? = some p→RowK s.h.get b9 5 x (gz L) L.length n→b≤n →
  Cp orc PV qQ [.c (.ptr p.1 0),.c x,iV parent] s (fun k=>b≤k) False fun v s'=>∃ x' n',v = .tup [.c x',iV w]∧RowK s'.h.get b9 5 x' (gz (L++out)) (L++out).length n'∧b≤n'∧Sb b s'∧KeepL s s':=by
 intro f
 induction f with
 | zero=>intro i parent L out w s x n p h; simp [yZ] at h
 | succ f ih =>
  intro i parent L out w s x n p hlist hlen hS hA hp hrow hbn
  rw [GX] at hlist
  obtain ⟨tn,htn,hfold⟩:=ak.1 hlist
  obtain ⟨hbp,hcell⟩:=hA.cell i tn p htn hp
  have hle:=hS.le
  have hpc:=hS.lt hcell
  have hkl:=Sz hfold
  simp only [List.length_nil,Nat.zero_add] at hkl
  have hlo:L.length + out.length≤100000:=by rw [kw] at hlen; exact hlen
  have hsl:(C3 (tn.kids.getD [])).length = (tn.kids.getD []).length:=(ux _).length_eq
  refine GW (rf:=o3) rfl ?_
  unfold o3
  obtain ⟨Γ,hΓ⟩ : ∃ Γ,Γ = ofL [V.c (.ptr p.1 0),.c x,iV parent] 0 .lf:=⟨_,rfl⟩
  have g0:look Γ 0 = .c (.ptr p.1 0):=by rw [hΓ]; rfl
  have g1:look Γ 1 = .c x:=by rw [hΓ]; rfl
  have g2:look Γ 2 = iV parent:=by rw [hΓ]; rfl
  rw [← hΓ]
  try clear G
  clear hΓ
  replace G:=dw g0 (dw g1 g2)
  refine bJ (aZ ?_)
  refine qV ?_
  refine qV ?_
  refine bY ?_
  dsimp only [bZ]
  refine bJ (aZ ?_)
  refine qV ?_
  refine bY ?_
  dsimp only [bZ]
  refine qq (fun Γ t=>look Γ 0 = .c (.ptr p.1 0)∧look Γ 1 = .c x∧look Γ 2 = iV parent∧∃ (xn:X) (names:List ByteArray) (m:Nat),look Γ 8 = .c xn∧names.Perm ((tn.kids.getD []).map (·.1))∧aJq b s t ps ar xn names m) ?_ ?_
  ·cases hk:tn.kids with
   | none =>
    have hkx:IJ tn p.2 = .sc (.map none):=by unfold IJ; rw [hk]
    rw [hkx] at hcell
    refine bJ (aZ ?_)
    refine qV ?_
    refine qP ?_
    refine qP ?_
    refine qL ?_
    refine aPV hS (by simp only [evS,Nat.reduceEqDiff,reduceIte,g0,g1,g2]; try rfl) hle fun s1 hst1 hsc1 hS1=>bY ?_
    dsimp only [bZ]
    refine j4 (YX (bJ (aZ ?_)))
    refine aPQ (n:=s.c) (by simp only [evS,reduceIte]) hst1.self hle ?_
    refine eX rfl (aNY (by simp only [evS,reduceIte]; rfl) rfl) (bY ?_)
    dsimp only [bZ]
    refine bJ (fq (t:=false) (by simp only [evS,reduceIte]; rfl) (z6 ?_))
    simp only [bZ,Nat.beq_refl,cond_true]
    refine ⟨(by simp only [evS,Nat.reduceEqDiff,reduceIte,g0,g1,g2]; try rfl),(by simp only [evS,Nat.reduceEqDiff,reduceIte,g0,g1,g2]; try rfl),(by simp only [evS,Nat.reduceEqDiff,reduceIte,g0,g1,g2]; try rfl),.sc gK,[],s.c,(by simp only [evS,Nat.reduceEqDiff,reduceIte,g0,g1,g2]; try rfl),List.Perm.refl _,hS1,(KeepL.refl s).row hS (by omega) (fun k hk=>hst1.keep k (by omega)),.inl ⟨rfl,rfl⟩,gk _,fun k e xs hk=>by rw [hst1.keep k (by have:=hS.lt hk; omega)]; exact hk⟩
   | some l =>
    obtain ⟨hbm,⟨fl,hmap⟩,hkb⟩:=hA.kmap i tn p l htn hp hk
    have hmc:=hS.lt hmap
    have hkx:IJ tn p.2 = .mp p.2:=by unfold IJ; rw [hk]
    rw [hkx] at hcell
    rw [hk] at hkl hsl
    have hgd:((some l:Option (List (ByteArray × Nat))).getD []) = l:=rfl
    rw [hgd] at hkl hsl ⊢
    refine bJ (aZ ?_)
    refine qV ?_
    refine qP ?_
    refine qP ?_
    refine qL ?_
    generalize hes:(l.map fun e=>((Value.string e.1,V.c (.ptr ((ps.getD e.2 (0,0)).1) 0)):Value × V)) = es at hmap
    have hel:es.length = l.length:=by rw [← hes,jw]
    refine aWq hS (by simp only [evS,Nat.reduceEqDiff,reduceIte,g0,g1,g2]; try rfl) hmap hbm ⟨hbm,hle⟩ fun s1 hm1 hi1 hk1 hsc1 hS1=>bY ?_
    dsimp only [bZ]
    have hKL:KeepL s s1:=⟨by omega,fun k e xs hn he=>by
     have:=hS.lt hn
     rw [hk1 k (fun h=>by rw [h,hmap] at hn; cases hn) (by omega)]; exact hn,fun k kd fl' es' hn=>by
     have:=hS.lt hn
     by_cases e:k = p.2
     ·subst e; rw [hmap] at hn; cases hn; exact ⟨_,hm1⟩
     ·rw [hk1 k e (by omega)]; exact ⟨_,hn⟩⟩
    have hCL:Cel s s1:=fun k e xs hn=>by
     have:=hS.lt hn
     rw [hk1 k (fun h=>by rw [h,hmap] at hn; cases hn) (by omega)]; exact hn
    refine j4 (akZ (fun fuel Γ t=>look Γ 0 = .c (.ptr p.1 0)∧look Γ 1 = .c x∧look Γ 2 = iV parent∧look Γ 20 = .c (.ptr s.c 0)∧∃ (xn:X) (seen:List Nat) (m:Nat),fuel + seen.length = l.length∧look Γ 8 = .c xn∧seen.Nodup∧(∀ i∈seen,i < l.length)∧t.h.get s.c = some (.iter p.2 es.length seen)∧t.h.get p.2 = some (.map .string true es)∧m ≠ s.c∧aJq b s t ps ar xn (seen.map fun i=>(l.getD i default).1) m) l.length ⟨(by simp only [evS,Nat.reduceEqDiff,reduceIte,g0,g1,g2]; try rfl),(by simp only [evS,Nat.reduceEqDiff,reduceIte,g0,g1,g2]; try rfl),(by simp only [evS,Nat.reduceEqDiff,reduceIte,g0,g1,g2]; try rfl),(by simp only [evS,Nat.reduceEqDiff,reduceIte,g0,g1,g2]; try rfl),.sc gK,[],s.c + 1,rfl,(by simp only [evS,Nat.reduceEqDiff,reduceIte,g0,g1,g2]; try rfl),List.nodup_nil,fun i hi=>by simp at hi,hi1,hm1,by omega,hS1,hKL,.inl ⟨rfl,rfl⟩,by omega,hCL⟩ ?_)
    try clear G
    clear g0 g1 g2 hcell hm1 hi1 hk1 hsc1 hS1 hKL Γ
    rintro fuel Γ t ⟨g0,g1,g2,g20,xn,seen,m,hfu,g8,hnd,hsb,hit,hmp,hmne,hN⟩
    obtain ⟨hSt,hK,hnam,hmi,hCel⟩:=hN
    refine bJ (aZ ?_)
    refine aVV (es:=es) (m:=p.2) (seen:=seen) g20 hit hmp ⟨hle,hbm⟩ (fun hall=>?_) (fun ix q hni hq=>?_)
    ·refine eX rfl (aNY (by simp only [evS,reduceIte]; rfl) rfl) (bY ?_)
     dsimp only [bZ]
     refine bJ (fq (t:=false) (by simp only [evS,reduceIte]; rfl) (z6 ?_))
     simp only [bZ,Nat.beq_refl,cond_true]
     have hperm:(seen.map fun i=>(l.getD i default).1).Perm (l.map (·.1)):=by
      have h1:=(aBX hnd hsb (fun i hi=>hall i (by omega))).map fun i=>(l.getD i default).1
      have h2:((List.range l.length).map fun i=>(l.getD i default).1) = l.map (·.1):=by
       apply List.ext_getElem?
       intro k
       rw [ow,ow]
       by_cases hk:k < l.length
       ·rw [List.getElem?_range hk,bk hk]
        simp only [jk,List.getD_eq_getElem?_getD,bk hk,Option.getD_some]
       ·rw [uw (by rw [List.length_range]; omega),uw (by omega)]; rfl
      rw [h2] at h1; exact h1
     exact ⟨(by simp only [evS,Nat.reduceEqDiff,reduceIte,g0,g1,g2,g8]; try rfl),(by simp only [evS,Nat.reduceEqDiff,reduceIte,g0,g1,g2,g8]; try rfl),(by simp only [evS,Nat.reduceEqDiff,reduceIte,g0,g1,g2,g8]; try rfl),xn,_,m,(by simp only [evS,Nat.reduceEqDiff,reduceIte,g0,g1,g2,g8]; try rfl),hperm,hSt,hK,hnam,hmi,hCel⟩
    ·have hil:ix < l.length:=by have:=(bw.1 hq).1; omega
     obtain ⟨e,he⟩ : ∃ e,l[ix]? = some e:=⟨_,bk hil⟩
     have hqe:q = (Value.string e.1,V.c (.ptr ((ps.getD e.2 (0,0)).1) 0)):=by
      rw [← hes,ow,he] at hq
      cases hq; rfl
     have hlec:=hSt.lt hit
     refine C7 hSt hle hlec fun u2 hut2 huc2 hU2=>?_
     refine eX rfl (aNY (by simp only [evS,reduceIte]; rfl) rfl) (bY ?_)
     dsimp only [bZ]
     refine bJ (fq (t:=true) (by simp only [evS,reduceIte]; rfl) (p8 ?_))
     dsimp only [bZ]
     have hmp2:u2.h.get p.2 = some (.map .string true es):=(hut2.keep p.2 (by omega)).trans hmp
     have hnam2:RowN u2.h.get d4 xn ((seen.map fun i=>(l.getD i default).1).map rz) m:=hnam.keep (hut2.keep m hmne)
     replace hnam2:∃ m',RowN u2.h.get d4 xn ((seen.map fun i=>(l.getD i default).1).map rz) m'∧m' ≠ s.c∧s.c≤m'∧(m' < u2.c∨u2.c + 1000≤m'):=by
      rcases hnam2 with h | h
      ·exact ⟨u2.c + 1000,.inl h,by omega,by omega,.inr (by omega)⟩
      ·exact ⟨m,.inr h,hmne,hmi,.inl (hU2.lt h.2)⟩
     obtain ⟨m',hnam2,hm1,hm2,hm3⟩:=hnam2
     refine j4 (bJ (aZ ?_))
     refine aXJ (n:=s.c) (m:=p.2) (i:=ix) (seen:=seen) (es:=es) (by simp only [evS,Nat.reduceEqDiff,reduceIte,g20]) hut2.self hmp2 hq ⟨hle,hbm⟩ ?_
     refine eX rfl (aNY (by simp only [evS,reduceIte]; rfl) (by subst hqe; rfl)) ?_
     refine eX rfl (pmv (v:=.c (.sc (.string e.1))) (by simp only [evS,reduceIte]; try rfl)) (bY ?_)
     dsimp only [bZ]
     have hsl2:seen.length < l.length:=by
      have h1:=adQ l.length (ix :: seen) (List.nodup_cons.2 ⟨hni,hnd⟩) fun j hj=>by
       rcases iw.1 hj with rfl | hj
       ·exact hil
       ·exact hsb j hj
      rw [List.length_cons] at h1; omega
     have hroom:r9 16 (((seen.map fun i=>(l.getD i default).1).map rz).length + 1) = true:=aHz (by rw [jw,jw]; omega)
     have hit2:=hut2.self
     replace G:=dw g0 (dw g1 (dw g2 (dw g20 g8)))
     refine aZ ?_
     refine qV ?_
     refine qV ?_
     refine qM (MS.bsl1 hU2 bK) ?_
     refine AQ hU2 ?_
     intro s1 hst1 hsc1 hS1
     replace hit2:=hst1.at hit2 (by omega)
     replace hmp2:=hst1.at hmp2 (by omega)
     have hn1:=hst1.self
     replace hnam2:=hnam2.keep (hst1.keep _ (by omega))
     refine ayz rfl hS1 bK hnam2 (by omega) bK (by assumption) (by first | assumption | rfl) mq ?_
     intro s2 hst2 hS2
     have hsa2:=hst2.c
     replace hit2:=hst2.at hit2 (by omega) (by omega)
     replace hmp2:=hst2.at hmp2 (by omega) (by omega)
     replace hn1:=hst2.at hn1 (by omega) (by omega)
     have hn2:=hst2.self
     refine qV ?_
     refine bY ?_
     try dsimp only [bZ]
     have hgi:(l.getD ix default).1 = e.1:=by rw [List.getD_eq_getElem?_getD,he]; rfl
     have hlenn:((seen.map fun i=>(l.getD i default).1).map rz).length + 1 = (((seen++[ix]).map fun i=>(l.getD i default).1).map rz).length:=by simp
     refine ⟨fuel - 1,by omega,lk,lk,lk,lk,_,seen++[ix],s1.c,by rw [kw]; simp only [List.length_singleton]; omega,lk,?_,fun j hj=>?_,hit2,hmp2,by omega,hS2,?_,.inr ⟨?_,?_⟩,by omega,?_⟩
     ·rw [List.nodup_append]
      exact ⟨hnd,by simp,fun a ha c hc=>by rw [dk.1 hc]; intro e; exact hni (e ▸ ha)⟩
     ·rcases qw.1 hj with hj | hj
      ·exact hsb j hj
      ·rw [dk.1 hj]; exact hil
     ·refine hK.row hS (by omega) fun k hk=>?_
      rw [hst2.keep k (by omega) (by omega),hst1.keep k (by omega),hut2.keep k (by omega)]
     ·rw [← hlenn]
     ·rw [hn2,vk,vk]
      simp only [nk,List.map_nil,hgi]
      rfl
     ·exact hCel.lt hS fun k hk=>by rw [hst2.keep k (by omega) (by omega),hst1.keep k (by omega),hut2.keep k (by omega)]
  ·try clear G
   clear g0 g1 g2
   rintro Γ t ⟨g0,g1,g2,xn,names,m,g8,hperm,hN⟩
   obtain ⟨hSt,hK,hnam,hmi,hCel⟩:=hN
   replace hrow:=hrow.cel hCel
   have hsn:=aoV hperm
   have hmemK:∀ e∈C3 (tn.kids.getD []),e∈tn.kids.getD []:=fun e he=>(ux _).mem_iff.1 he
   have hnl:names.length = (tn.kids.getD []).length:=by rw [hperm.length_eq,jw]
   generalize hKs:C3 (tn.kids.getD []) = K at hfold hsl hkl hsn hmemK
   refine qq (fun Γ t=>look Γ 0 = .c (.ptr p.1 0)∧look Γ 1 = .c x∧look Γ 2 = iV parent∧look Γ 8 = .c xn∧Sb b t∧KeepL s t∧aRj t.h.get xn (K.map (·.1)) m∧RowK t.h.get b9 5 x (gz L) L.length n) ?_ ?_
   ·rcases hnam with ⟨rfl,hnil⟩ | ⟨rfl,hm⟩
    ·have h0:K.map (·.1) = []:=by
      have:names = []:=by simpa using hnil
      rw [this] at hsn
      rw [← hsn]; simp [mX]
     replace G:=dw g0 (dw g1 (dw g2 g8))
     refine aZ ?_
     refine qV ?_
     refine qC (hC:=(hsort.nil t).weak) (h:=?_)
     intro v3 s3 hq3
     obtain ⟨rfl,rfl⟩:=hq3
     refine bY ?_
     try dsimp only [bZ]
     exact ⟨lk,lk,lk,lk,hSt,hK,.inl ⟨rfl,h0⟩,hrow⟩
    ·have hbm:b≤m:=by omega
     replace G:=dw g0 (dw g1 (dw g2 g8))
     refine aZ ?_
     refine qVL ?_
     refine qCL (hC:=(hsort.own b t m names hSt hm hbm (by omega)).weak) (h:=?_)
     intro v4 s4 hq4
     obtain ⟨rfl,hS',hc',hm',hk'⟩:=hq4
     refine bY ?_
     try dsimp only [bZ]
     refine ⟨lkL,lkL,lkL,lkL,hS',hK.row hS (by omega) (fun k hk=>hk' k (by omega)),.inr ⟨?_,?_⟩,?_⟩
     ·rw [jw,jw,hsl,hnl]
     ·rw [← hsn]; exact hm'
     ·obtain ⟨h0,hr | ⟨h1,h2⟩⟩:=hrow
      ·exact ⟨h0,.inl hr⟩
      ·refine ⟨h0,.inr ⟨h1,?_⟩⟩
       rw [hk' n (fun e=>?_)]
       ·exact h2
       ·rw [e,hm] at h2
        have h3:=(O.cells.inj (Option.some.inj h2)).1
        exact absurd h3 (by decide)
   ·try clear G
    clear g0 g1 g2 g8 hK hnam hSt hrow
    rintro Γ t ⟨g0,g1,g2,g8,hSt,hK,hnam,hrow⟩
    replace G:=dw g0 (dw g1 (dw g2 g8))
    refine bJ (aZ ?_)
    refine qV ?_
    refine bY ?_
    dsimp only [bZ]
    refine qq (fun Γ t=>∃ (x':X) (n':Nat),look Γ 1 = .c x'∧look Γ 10 = iV w∧RowK t.h.get b9 5 x' (gz (L++out)) (L++out).length n'∧b≤n'∧Sb b t∧KeepL s t) ?_ ?_
    ·refine qq (fun Γ t'=>t = t'∧look Γ 0 = .c (.ptr p.1 0)∧look Γ 1 = .c x∧look Γ 2 = iV parent∧look Γ 10 = iV 0∧look Γ 31 = .c xn∧look Γ 32 = iV (K.length:Int)∧look Γ 33 = iV 0) ?_ ?_
     ·have hnr:RowK t.h.get d4 1 xn ((K.map (·.1)).map rz) K.length m:=by
       refine ⟨by simp,?_⟩
       rcases hnam with ⟨h1,h2⟩ | ⟨h1,h2⟩
       ·exact .inl ⟨h1,by rw [List.map_eq_nil_iff] at h2; rw [h2]; rfl⟩
       ·rw [jw] at h1; exact .inr ⟨h1,h2⟩
      replace G:=dw g0 (dw g1 (dw g2 g8))
      refine aZ ?_
      refine qV ?_
      refine eX rfl (by first | exact D6 bK (by assumption) | simp only [evS,Nat.reduceEqDiff,reduceIte,PU,bX,scV,bV,iV,gK,isB,isI,qZ,CV,mkV,G]; try rfl) ?_
      refine qV ?_
      refine bY ?_
      try dsimp only [bZ]
      exact ⟨rfl,lk,lk,lk,lk,lk,lk,lk⟩
     ·try clear G
      clear g0 g1 g2 g8
      rintro Γ _ ⟨rfl,g0,g1,g2,g10,g31,g32,g33⟩
      refine j4 (J7 (fun Γ t=>look Γ 0 = .c (.ptr p.1 0)∧look Γ 2 = iV parent∧look Γ 31 = .c xn∧look Γ 32 = iV (K.length:Int)∧∃ (j:Nat) (pj:List N5 × Int) (xj:X) (nj:Nat),look Γ 33 = iV (j:Int)∧j≤K.length∧(K.drop j).foldlM (L7 ar f parent (L.length:Int)) pj = some (out,w)∧look Γ 1 = .c xj∧look Γ 10 = iV pj.2∧RowK t.h.get b9 5 xj (gz (L++pj.1)) (L++pj.1).length nj∧b≤nj∧Sb b t∧KeepL s t∧aRj t.h.get xn (K.map (·.1)) m) (fun Γ _=>match look Γ 33 with
       | .c (.sc (.int _ i))=>K.length - i.toNat
       | _=>0) ⟨g0,g2,g31,g32,0,([],0),x,n,g33,Nat.zero_le _,hfold,g1,g10,by rw [List.append_nil]; exact hrow,hbn,hSt,hK,hnam⟩ ?_)
      try clear G
      clear g0 g1 g2 g10 g31 g32 g33 hSt hK hnam hrow Γ
      rintro Γ t ⟨g0,g2,g31,g32,j,pj,xj,nj,g33,hj,hfold,g1,g10,hrow,hbn,hS1,hK,hnam⟩
      replace G:=dw g0 (dw g1 (dw g2 (dw g10 (dw g31 (dw g32 g33)))))
      refine bJ (aZ ?_)
      refine qP ?_
      refine bY ?_
      dsimp only [bZ]
      by_cases hjl:j < K.length
      ·refine bJ (fq (t:=true) ?_ (p8 ?_))
       ·simp only [uq,fX,rk,isB,bV,scV]
        rw [decide_eq_true (by omega)]
       dsimp only [bZ]
       obtain ⟨e,he⟩ : ∃ e,K[j]? = some e:=⟨_,bk hjl⟩
       have hdrop:K.drop j = e :: K.drop (j + 1):=by
        rw [List.drop_eq_getElem_cons hjl]
        rw [bk hjl] at he
        cases he; rfl
       rw [hdrop,List.foldlM_cons] at hfold
       obtain ⟨p',hstep,hfold2⟩:=ak.1 hfold
       have hlp:=Sz hfold2
       unfold L7 at hstep
       obtain ⟨kn,hkn,hstep⟩:=ak.1 hstep
       obtain ⟨q,hq,rfl⟩:=aw.1 hstep
       simp only [kw,List.length_cons] at hlp
       have heK:=hmemK e (fw he)
       obtain ⟨l,hkl2⟩ : ∃ l,tn.kids = some l:=by
        cases hk:tn.kids with
        | none=>rw [hk] at heK; simp at heK
        | some l=>exact ⟨l,rfl⟩
       have hgd:tn.kids.getD [] = l:=by rw [hkl2]; rfl
       rw [hgd] at heK
       have hA1:=hA.keep hK
       obtain ⟨hbp1,hcell1⟩:=hA1.cell i tn p htn hp
       obtain ⟨hbm,⟨fl,hmap⟩,hkb⟩:=hA1.kmap i tn p l htn hp hkl2
       have hkx:IJ tn p.2 = .mp p.2:=by unfold IJ; rw [hkl2]
       rw [hkx] at hcell1
       have hnd:=hkids i tn htn
       rw [hgd] at hnd
       have hkey:=J8 ps e.1 l
       rw [aqq hnd (show (e.1,e.2)∈l from heK)] at hkey
       simp only [jk] at hkey
       obtain ⟨pk,hpk⟩ : ∃ pk,ps[e.2]? = some pk:=⟨_,bk (by rw [hA1.len]; exact hkb e heK)⟩
       have hgk:(ps.getD e.2 (0,0)).1 = pk.1:=by rw [List.getD_eq_getElem?_getD,hpk]; rfl
       rw [hgk] at hkey
       obtain ⟨hbk,hcellk⟩:=hA1.cell e.2 kn pk hkn hpk
       obtain ⟨rfl,hnm⟩ : xn = .sl m 1 0 K.length∧t.h.get m = some (.cells d4 ((K.map (·.1)).map rz)):=by
        rcases hnam with ⟨_,h2⟩ | ⟨h1,h2⟩
        ·rw [List.map_eq_nil_iff] at h2; rw [h2] at hjl; simp at hjl
        ·rw [jw] at h1; exact ⟨h1,h2⟩
       have hcj:((K.map (·.1)).map rz)[j]? = some (.sc (.string e.1)):=by rw [ow,ow,he]; rfl
       have hmb:b≤m:=by omega
       have hmc:=hS1.lt hnm
       have hkc:=hS1.lt hcellk
       have hpc1:=hS1.lt hcell1
       have hmc1:=hS1.lt hmap
       obtain ⟨N0,hN0⟩ : ∃ N0,(L++pj.1).length = N0:=⟨_,rfl⟩
       rw [hN0] at hrow
       obtain ⟨n1,hrow1,hn1b,hn1c,hn1m,hn1k,hn1p,hn1q⟩ : ∃ n1,RowK t.h.get b9 5 xj (gz (L++pj.1)) N0 n1∧b≤n1∧((n1 < t.c∧t.h.get n1 = some (.cells b9 (gz (L++pj.1))))∨t.c + 1000≤n1)∧n1 ≠ m∧n1 ≠ pk.1∧n1 ≠ p.1∧n1 ≠ p.2:=by
        obtain ⟨h0,hr | ⟨h1,h2⟩⟩:=hrow
        ·exact ⟨t.c + 1000,⟨h0,.inl hr⟩,by have:=hS1.le; omega,.inr (gk _),by omega,by omega,by omega,by omega⟩
        ·refine ⟨nj,⟨h0,.inr ⟨h1,h2⟩⟩,hbn,.inl ⟨hS1.lt h2,h2⟩,fun e1=>?_,fun e1=>?_,fun e1=>?_,fun e1=>?_⟩
         ·rw [e1,hnm] at h2; exact absurd (O.cells.inj (Option.some.inj h2)).1 (by decide)
         ·rw [e1,hcellk] at h2; exact absurd (O.cells.inj (Option.some.inj h2)).1 (by decide)
         ·rw [e1,hcell1] at h2; exact absurd (O.cells.inj (Option.some.inj h2)).1 (by decide)
         ·rw [e1,hmap] at h2; cases h2
       have hroom:r9 48 (N0 + 1) = true:=aWW (by rw [← hN0,kw]; omega)
       have hK1:∀ t':S,t.c≤t'.c→(∀ k,k < t.c→k ≠ n1→t'.h.get k = t.h.get k)→KeepL s t'∧aRj t'.h.get (.sl m 1 0 K.length) (K.map (·.1)) m:=fun t' hc hk=>by
        refine ⟨hK.trans ⟨hc,fun k e' xs hn he'=>?_,fun k kd fl es hn=>⟨fl,?_⟩⟩,.inr ⟨by rw [jw],by rw [hk m hmc (Ne.symm hn1m)]; exact hnm⟩⟩
        ·rw [hk k (hS1.lt hn) (fun e1=>?_)]; · exact hn
         rcases hn1c with ⟨_,h2⟩ | h2
         ·rw [e1,h2] at hn; cases hn; exact he' rfl
         ·have:=hS1.lt hn; omega
        ·rw [hk k (hS1.lt hn) (fun e1=>?_)]; · exact hn
         rcases hn1c with ⟨_,h2⟩ | h2
         ·rw [e1,h2] at hn; cases hn
         ·have:=hS1.lt hn; omega
       refine qq (fun Γ t'=>look Γ 0 = .c (.ptr p.1 0)∧look Γ 2 = iV parent∧look Γ 31 = .c (.sl m 1 0 K.length)∧look Γ 32 = iV (K.length:Int)∧look Γ 33 = iV (j:Int)∧∃ (xj:X) (nj:Nat),look Γ 1 = .c xj∧look Γ 10 = iV (IntKind.i64.wrap (pj.2 + IntKind.i64.wrap (kn.self + q.2)))∧RowK t'.h.get b9 5 xj (gz (L++(pj.1++(parent,e.1,kn.self,IntKind.i64.wrap (kn.self + q.2),kn.count) :: q.1))) (L++(pj.1++(parent,e.1,kn.self,IntKind.i64.wrap (kn.self + q.2),kn.count) :: q.1)).length nj∧b≤nj∧Sb b t'∧KeepL s t'∧aRj t'.h.get (.sl m 1 0 K.length) (K.map (·.1)) m) (j4 ?_) ?_
       ·skip
        replace G:=dw g0 (dw g1 (dw g2 (dw g10 (dw g31 (dw g32 g33)))))
        refine bJ (aZ ?_)
        refine qX ?_
        refine qL ?_
        refine qV ?_
        refine bY ?_
        dsimp only [bZ]
        refine bJ (aZ ?_)
        refine qV ?_
        refine qP ?_
        refine qP ?_
        refine qL ?_
        refine qV ?_
        refine H6 rfl (by first | exact MS.lookS bK (by simp only [evS,Nat.reduceEqDiff,reduceIte,FX,G]; rfl) (yW (by assumption)) rfl (by assumption) | exact MS.lookN bK (by simp only [evS,Nat.reduceEqDiff,reduceIte,FX,G]; rfl) (yW (by assumption)) rfl (by assumption)) mq ?_
        refine qV ?_
        refine bY ?_
        dsimp only [bZ]
        refine bJ (aZ ?_)
        refine qV ?_
        refine eX rfl (by first | exact D6 bK (by assumption) | simp only [evS,Nat.reduceEqDiff,reduceIte,PU,bX,scV,bV,iV,gK,isB,isI,qZ,CV,mkV,G]; try rfl) ?_
        refine qV ?_
        refine bY ?_
        dsimp only [bZ]
        have hn1c2:n1 < t.c∨t.c + 1000≤n1:=hn1c.imp (·.1) id
        refine bJ (afQ rfl ?_)
        refine rV ?_
        refine rV ?_
        refine rV ?_
        refine rV ?_
        refine rP ?_
        refine rP ?_
        refine aAJ rfl ayW mq (fun x hx=>by simp at hx) ?_
        refine rV ?_
        refine rP ?_
        refine rP ?_
        refine rL ?_
        refine U0 rfl (by simp only [evS,Nat.reduceEqDiff,reduceIte,PU,bX,scV,bV,iV,gK,isB,isI,qZ,CV,mkV,fill,cY,setAt,List.take_zero,List.take_succ_cons,List.take_nil,List.drop_nil,List.append_nil,List.nil_append,List.cons_append,List.length_cons,List.length_nil,Nat.reduceAdd,Nat.reduceLeDiff,UJ,U3,eq_self,decide_true,Bool.and_self,G]; first | done | rfl) ?_
        refine aAJ rfl (MS.bslK hS1 bK rfl rfl) mq (by intro x hx; simp only [List.nil_append,List.cons_append,iw,List.not_mem_nil,or_false] at hx; rcases hx with rfl | rfl <;> first | exact .inl (by dsimp only; decide) | (refine .inr fun k => ?_; refine ⟨?_,?_,?_⟩ <;> (intro hk; (try dsimp only at hk); first | exact hk.1.elim | exact hk.2.elim | omega))) ?_
        refine aTJ hS1 ?_
        intro s5 hst5 hsc5 hS5
        replace hnm:=hst5.at hnm (by omega)
        replace hcell1:=hst5.at hcell1 (by omega)
        replace hmap:=hst5.at hmap (by omega)
        replace hcellk:=hst5.at hcellk (by omega)
        have hn5:=hst5.self
        replace hrow1:=hrow1.keep (hst5.keep _ (by omega))
        refine aNW rfl hS5 bK hrow1 (by omega) bK (by assumption) rfl (by first | assumption | rfl) mq (by intro x hx; simp only [List.nil_append,List.cons_append,iw,List.not_mem_nil,or_false] at hx; rcases hx with rfl | rfl | rfl <;> first | exact .inl (by dsimp only; decide) | (refine .inr fun k => ?_; refine ⟨?_,?_,?_⟩ <;> (intro hk; (try dsimp only at hk); first | exact hk.1.elim | exact hk.2.elim | omega))) ?_
        intro s6 hst6 hS6
        have hsa6:=hst6.c
        replace hnm:=hst6.at hnm (by omega) (by omega)
        replace hcell1:=hst6.at hcell1 (by omega) (by omega)
        replace hmap:=hst6.at hmap (by omega) (by omega)
        replace hcellk:=hst6.at hcellk (by omega) (by omega)
        replace hn5:=hst6.at hn5 (by omega) (by omega)
        have hn6:=hst6.self
        refine rV ?_
        refine auY ?_
        dsimp only [bZ]
        obtain ⟨hK6,hN6⟩:=hK1 s6 (by omega) fun k hk1 hk2=>by rw [hst6.keep k hk2 (by omega),hst5.keep k (by omega)]
        have hl1:((L++pj.1)++[((parent,e.1,kn.self,0,kn.count):N5)]).length = N0 + 1:=by rw [kw,hN0]; rfl
        have hrow7:RowK s6.h.get b9 5 (.sl s5.c 5 0 (N0 + 1)) (gz ((L++pj.1)++[(parent,e.1,kn.self,0,kn.count)])) ((L++pj.1)++[((parent,e.1,kn.self,0,kn.count):N5)]).length s5.c:=by
         refine ⟨nY _,.inr ⟨by rw [hl1],?_⟩⟩
         rw [hn6,Rq (L++pj.1)]; rfl
        have hA6:=hA.keep hK6
        have hq7:yZ ar f e.2 (N0:Int) ((((L++pj.1)++[((parent,e.1,kn.self,0,kn.count):N5)]).length:Nat):Int) = some (q.1,q.2):=by
         rw [hl1,← hq]
         have e1:(L.length:Int) + (pj.1.length:Int) = (N0:Int):=by rw [← hN0,kw]; omega
         rw [e1]; rfl
        have hl7:(((L++pj.1)++[((parent,e.1,kn.self,0,kn.count):N5)])++q.1).length≤100000:=by
         rw [kw,hl1,← hN0,kw]; omega
        have hb7:b≤s5.c:=by have:=hS1.le; omega
        refine bJ (aZ ?_)
        refine qV ?_
        refine bY ?_
        dsimp only [bZ]
        refine bJ (aZ ?_)
        refine qV ?_
        refine qV ?_
        refine qV ?_
        refine qC (hC:=ih e.2 (N0:Int) ((L++pj.1)++[(parent,e.1,kn.self,0,kn.count)]) q.1 q.2 s6 _ s5.c pk hq7 hl7 hS6 hA6 hpk hrow7 hb7) (h:=?_)
        intro v7 s7 hq7
        obtain ⟨x8,n8,rfl,hrow8,hb8,hS8,hK8⟩:=hq7
        obtain ⟨N8,R8,rfl,h8,hR8,hN8,hNR⟩ : ∃ N8 R8,x8 = .sl n8 5 0 N8∧s7.h.get n8 = some (.cells b9 R8)∧R8 = gz (((L++pj.1)++[((parent,e.1,kn.self,0,kn.count):N5)])++q.1)∧N8 = N0 + 1 + q.1.length∧R8.length = N8 * 5:=by
         have hl8:(((L++pj.1)++[((parent,e.1,kn.self,0,kn.count):N5)])++q.1).length = N0 + 1 + q.1.length:=by rw [kw,hl1]
         obtain ⟨h0,⟨_,h1⟩ | ⟨h1,h2⟩⟩:=hrow8
         ·rw [hl8] at h1; omega
         ·exact ⟨_,_,h1,h2,rfl,hl8,h0⟩
        refine qV ?_
        refine qP ?_
        refine qP ?_
        refine qV ?_
        refine qV ?_
        refine bY ?_
        dsimp only [bZ]
        try clear G
        clear hl7 hq7 hrow7 hl1
        have hKa:=hK6.trans hK8
        have hcell9:=hK8.2.1 _ _ _ hcellk (by decide)
        have hnm9:=hK8.2.1 _ _ _ hnm (by decide)
        have hc8:=hS8.lt h8
        have h8o:=h8
        have hkc9:=hS8.lt hcell9
        have hat:N0 < N8:=by omega
        have hne8:pk.1 ≠ n8:=fun e1=>by
         rw [e1,h8] at hcell9
         exact absurd (O.cells.inj (Option.some.inj hcell9)).1 (by decide)
        have hne9:m ≠ n8:=fun e1=>by
         rw [e1,h8] at hnm9
         exact absurd (O.cells.inj (Option.some.inj hnm9)).1 (by decide)
        replace G:=dw g0 (dw g1 (dw g2 (dw g10 (dw g31 (dw g32 g33)))))
        refine bJ (aZ ?_)
        refine qV ?_
        refine qV ?_
        refine qV ?_
        refine qP ?_
        refine qP ?_
        refine qL ?_
        refine qV ?_
        refine qP ?_
        refine eX rfl (by first | exact atQ bK bK (by assumption) | exact auz bK bK (by first | assumption | omega)) ?_
        refine qP ?_
        refine qT ?_
        refine C7 hS8 (by omega) (by omega) ?_
        intro s8 hst8 hsc8 hS8
        first | replace hcell9:=hst8.at hcell9 (by omega) | replace hcell9:=hst8.self
        first | replace h8:=hst8.at h8 (by omega) | replace h8:=hst8.self
        first | replace hnm9:=hst8.at hnm9 (by omega) | replace hnm9:=hst8.self
        refine bY ?_
        dsimp only [bZ]
        have D7:R8.set (N0 * 5 + 3) (.sc (.int .i64 (IntKind.i64.wrap (kn.self + q.2)))) = gz ((L++pj.1)++(parent,e.1,kn.self,IntKind.i64.wrap (kn.self + q.2),kn.count) :: q.1):=by
         rw [hR8,List.append_assoc,List.singleton_append,← hN0,aDW]
        obtain ⟨R9,hR9,bq,hl9⟩ : ∃ R9,R9 = gz ((L++pj.1)++(parent,e.1,kn.self,IntKind.i64.wrap (kn.self + q.2),kn.count) :: q.1)∧R9[N0 * 5 + 3]? = some (.sc (.int .i64 (IntKind.i64.wrap (kn.self + q.2))))∧R9.length = N8 * 5:=by
         refine ⟨_,rfl,?_,?_⟩
         ·rw [← hN0,aAx _ _ _ 3 (by omega)]; rfl
         ·rw [← D7,sk]; exact hNR
        rw [D7,← hR9] at h8
        have hst8':=hst8
        rw [D7,← hR9] at hst8'
        try clear G
        clear D7 hR8
        replace G:=dw g0 (dw g1 (dw g2 (dw g10 (dw g31 (dw g32 g33)))))
        refine aZ ?_
        refine qV ?_
        refine qV ?_
        refine qV ?_
        refine eX rfl (by first | exact atQ bK bK (by assumption) | exact auz bK bK (by first | assumption | omega)) ?_
        refine qP ?_
        refine qL ?_
        refine qP ?_
        refine qV ?_
        refine bY ?_
        try dsimp only [bZ]
        have hKb:KeepL s s8:=hKa.trans ⟨by omega,fun k e' xs hn he'=>by
         rw [hst8'.keep k (fun e1=>?_)]
         ·exact hn
         ·rw [e1,h8o] at hn; cases hn; exact he' rfl,fun k kd fl es hn=>⟨fl,by
         rw [hst8'.keep k (fun e1=>?_)]
         ·exact hn
         ·rw [e1,h8o] at hn; cases hn⟩⟩
        have hfin:(L++pj.1)++(parent,e.1,kn.self,IntKind.i64.wrap (kn.self + q.2),kn.count) :: q.1 = L++(pj.1++(parent,e.1,kn.self,IntKind.i64.wrap (kn.self + q.2),kn.count) :: q.1):=List.append_assoc _ _ _
        have hcnt:N8 = (L++(pj.1++((parent,e.1,kn.self,IntKind.i64.wrap (kn.self + q.2),kn.count):N5) :: q.1)).length:=by
         rw [← hfin,kw,hN0,List.length_cons]; omega
        refine ⟨lk,lk,lk,lk,lk,_,n8,lk,lk,⟨nY _,.inr ⟨by rw [← hcnt],?_⟩⟩,hb8,hS8,hKb,.inr ⟨by rw [jw],hnm9⟩⟩
        rw [h8,hR9,hfin]
       ·try clear G
        clear g0 g1 g2 g10 g31 g32 hS1 hK hK1 hnam hrow hrow1 hA1 hcell1 hmap hcellk hnm
        rintro Γ2 t2 ⟨g0,g2,g31,g32,k33,xj2,nj2,g1,g10,hrow,hbn,hS1,hK,hnam⟩
        replace G:=dw g0 (dw g1 (dw g2 (dw g10 (dw g31 (dw g32 k33)))))
        refine aZ ?_
        refine qP ?_
        refine qV ?_
        refine bY ?_
        try dsimp only [bZ]
        refine ⟨⟨lk,lk,lk,lk,j + 1,_,xj2,nj2,?_,by omega,hfold2,lk,lk,hrow,hbn,hS1,hK,hnam⟩,?_⟩
        ·simp only [evS,Nat.reduceEqDiff,reduceIte]
         rw [wr (by omega) (by omega)]; rfl
        ·simp only [evS,Nat.reduceEqDiff,reduceIte,g33,iV]
         rw [wr (by omega) (by omega)]
         omega
      ·refine bJ (fq (t:=false) ?_ (z6 ?_))
       ·simp only [uq,fX,rk,isB,bV,scV]
        rw [decide_eq_false (by omega)]
       have hjl:j = K.length:=by omega
       subst hjl
       rw [List.drop_length] at hfold
       simp only [List.foldlM_nil,Option.pure_def,cw] at hfold
       subst hfold
       simp only [bZ,Nat.beq_refl,cond_true]
       exact ⟨xj,nj,(by simp only [evS,Nat.reduceEqDiff,reduceIte,g0,g1,g2,g10,g31,g32,g33]; try rfl),(by simp only [evS,Nat.reduceEqDiff,reduceIte,g0,g1,g2,g10,g31,g32,g33]; try rfl),hrow,hbn,hS1,hK⟩
    ·try clear G
     clear g0 g1 g2 g8 hK hnam hSt hrow hbn
     rintro Γ t ⟨x',n',g1,g10,hrow,hbn,hSt,hK⟩
     replace G:=dw g1 g10
     refine bJ (aZ ?_)
     refine qV ?_
     refine qV ?_
     refine qV ?_
     refine qV ?_
     refine bY ?_
     dsimp only [bZ]
     exact JK ⟨.inr rfl,[.c x',iV w],0,GK lk lk rfl rfl,iY,x',n',rfl,hrow,hbn,hSt,hK⟩
end Go.RM
namespace Go.RM
open Go.VM (T yJ tI)
theorem arK {orc:cV} {b:Nat} {s:S} (hS:Sb b s) {n:Nat} {xs:List X} (hn:s.h.get n = some (.cells d4 xs)) (hb:b≤n) (hl:xs.length≤1000000) :
  Cp orc PV i5 [.c (.sl n 1 0 xs.length)] s (fun k=>b≤k) True fun _ s'=>Sb b s'∧s'.h.get n = some (.cells d4 xs.reverse)∧s'.c = s.c∧∀ k,k ≠ n→s'.h.get k = s.h.get k:=by
 have hlt:=hS.lt hn
 refine GW (rf:=e8) rfl ?_
 unfold e8
 obtain ⟨Γ,hΓ⟩ : ∃ Γ,Γ = ofL [V.c (.sl n 1 0 xs.length)] 0 .lf:=⟨_,rfl⟩
 have g0:look Γ 0 = .c (.sl n 1 0 xs.length):=by rw [hΓ]; rfl
 rw [← hΓ]
 try clear G
 clear hΓ
 replace G:=g0
 refine bJ (aZ ?_)
 refine qV ?_
 refine qP ?_
 refine qP ?_
 refine qV ?_
 refine qV ?_
 refine bY ?_
 dsimp only [bZ]
 refine j4 (J7 (fun Γ s1=>∃ (i:Nat) (ys:List X),look Γ 0 = .c (.sl n 1 0 xs.length)∧look Γ 2 = iV (i:Int)∧look Γ 3 = iV ((xs.length:Int) - 1 - i)∧i≤xs.length∧RevI xs ys i∧Sb b s1∧s1.h.get n = some (.cells d4 ys)∧s1.c = s.c∧∀ k,k ≠ n→s1.h.get k = s.h.get k) (fun Γ _=>match look Γ 2 with
  | .c (.sc (.int _ i))=>xs.length - i.toNat
  | _=>0) ⟨0,xs,?_,?_,?_,Nat.zero_le _,RevI.start xs,hS,hn,rfl,fun _ _=>rfl⟩ ?_)
 ·simp only [fX,Nat.reduceEqDiff,mw,g0]
 ·simp only [fX,Nat.reduceEqDiff,rk,mw]; rfl
 ·simp only [fX,Nat.reduceEqDiff,rk,mw]
  rw [wr (by omega) (by omega)]
  simp [iV]
 ·try clear G
  clear g0 Γ
  rintro Γ σ ⟨i,ys,g0,g2,g3,hi,hR,hS1,hn1,hc1,hk1⟩
  refine bJ ?_
  replace G:=dw g0 (dw g2 g3)
  refine bJ (aZ ?_)
  refine qV ?_
  refine qV ?_
  refine qP ?_
  refine bY ?_
  dsimp only [bZ]
  by_cases hlt2:(i:Int) < (xs.length:Int) - 1 - i
  ·refine fq (t:=true) ?_ ?_
   ·simp only [uq,fX,rk,isB,bV,scV]
    rw [decide_eq_true hlt2]
   refine p8 ?_
   dsimp only [bZ]
   have hj:(xs.length:Int) - 1 - i = ((xs.length - 1 - i:Nat):Int):=by omega
   rw [hj] at g3
   have hyl:=hR.1
   obtain ⟨a,ha⟩ : ∃ a,ys[xs.length - 1 - i]? = some a:=⟨_,bk (by omega)⟩
   obtain ⟨c,hc⟩ : ∃ c,ys[i]? = some c:=⟨_,bk (by omega)⟩
   refine bJ (j4 ?_)
   replace G:=dw g0 (dw g2 g3)
   refine afQ rfl ?_
   refine rV ?_
   refine rV ?_
   refine rV ?_
   refine rV ?_
   refine rV ?_
   refine rV ?_
   refine rX ?_
   refine aAJ rfl ayW mq (fun x hx=>by simp at hx) ?_
   refine rV ?_
   refine rV ?_
   refine rX ?_
   refine rL ?_
   refine rX ?_
   refine rT ?_
   refine axY hS1 (by omega) (by omega) ?_
   intro s1 hst1 hsc1 hS1
   first | replace hn1:=hst1.at hn1 (by omega) | replace hn1:=hst1.self
   refine rX ?_
   refine rT ?_
   refine axY hS1 (by omega) (by omega) ?_
   intro s2 hst2 hsc2 hS2
   first | replace hn1:=hst2.at hn1 (by omega) | replace hn1:=hst2.self
   refine auY ?_
   try dsimp only [bZ]
   refine aZ ?_
   refine qV ?_
   refine qP ?_
   refine qV ?_
   refine qP ?_
   refine qV ?_
   refine qV ?_
   refine bY ?_
   try dsimp only [bZ]
   refine ⟨⟨i + 1,_,?_,?_,?_,by omega,RevI.step hR (by omega) ha hc,hS2,hn1,by omega,fun k hk=>by rw [hst2.keep k hk,hst1.keep k hk,hk1 k hk]⟩,?_⟩
   ·simp only [fX,E1,Nat.reduceEqDiff,mw,g0]
   ·simp only [fX,E1,Nat.reduceEqDiff,rk,mw]
    rw [wr (by omega) (by omega)]; rfl
   ·simp only [fX,E1,Nat.reduceEqDiff,rk,mw]
    rw [wr (by omega) (by omega)]
    simp only [iV]
    congr 3
    omega
   ·simp only [fX,E1,Nat.reduceEqDiff,rk,mw,g2,iV]
    rw [wr (by omega) (by omega)]
    omega
  ·refine fq (t:=false) ?_ ?_
   ·simp only [uq,fX,rk,isB,bV,scV]
    rw [decide_eq_false hlt2]
   refine z6 ?_
   simp only [bZ,Nat.beq_refl,cond_true]
   refine ⟨.inl trivial,[],0,rfl,iY,hS1,?_,hc1,hk1⟩
   rw [hn1,RevI.fin hR (by omega)]
def tN5 (n:N5):List T:=[tI n.1,.sc (.string n.2.1),tI n.2.2.1,tI n.2.2.2.1,tI n.2.2.2.2]
def upF (l:List N5):Nat→Int→List ByteArray→Option (List ByteArray)
 | 0,_,_=>none
 | f + 1,i,acc=>if i < 0 then some acc else l[i.toNat]?.bind fun y=>upF l f y.1 (acc++[y.2.1])
theorem ayJ {l:List N5}:∀ {f:Nat} {i:Int} {acc r:List ByteArray},upF l f i acc = some r→acc.length≤r.length
 | 0,i,acc,r,h=>by simp [upF] at h
 | f + 1,i,acc,r,h=>by
  unfold upF at h
  split at h
  ·cases h; exact gk _
  ·obtain ⟨y,hy,h⟩:=ak.1 h
   have:=ayJ h
   rw [kw,List.length_singleton] at this
   omega
theorem aTY {orc:cV} {b:Nat} {s:S} (hS:Sb b s) {l:List N5} {f:Nat} {i:Int} {acc:List ByteArray} (hup:upF l f i [] = some acc) (hne:acc ≠ []) (hlen:acc.length≤100000) :
  Cp orc PV G2 [.c (.im 5 (l.map tN5)),iV i] s (fun k=>b≤k) True fun v s'=>∃ m,v = .c (.sl m 1 0 acc.reverse.length)∧s.c≤m∧s'.h.get m = some (.cells d4 (acc.reverse.map rz))∧Sb b s'∧s.c≤s'.c∧∀ k,k < s.c→s'.h.get k = s.h.get k:=by
 refine GW (rf:=x6) rfl ?_
 unfold x6
 obtain ⟨Γ,hΓ⟩ : ∃ Γ,Γ = ofL [V.c (.im 5 (l.map tN5)),iV i] 0 .lf:=⟨_,rfl⟩
 have g0:look Γ 0 = .c (.im 5 (l.map tN5)):=by rw [hΓ]; rfl
 have g1:look Γ 1 = iV i:=by rw [hΓ]; rfl
 rw [← hΓ]
 try clear G
 clear hΓ
 replace G:=dw g0 g1
 refine bJ (aZ ?_)
 refine qV ?_
 refine bY ?_
 dsimp only [bZ]
 refine bJ (aZ ?_)
 refine qV ?_
 refine bY ?_
 dsimp only [bZ]
 refine qq (fun Γ t=>∃ (x:X) (m:Nat),look Γ 5 = .c x∧RowN t.h.get d4 x (acc.map rz) m∧s.c≤m∧Sb b t∧s.c≤t.c∧∀ k,k < s.c→t.h.get k = s.h.get k) ?_ ?_
 ·refine j4 (akZ (fun f Γ t=>look Γ 0 = .c (.im 5 (l.map tN5))∧∃ (i:Int) (x:X) (m:Nat) (a:List ByteArray),upF l f i a = some acc∧look Γ 1 = iV i∧look Γ 5 = .c x∧RowN t.h.get d4 x (a.map rz) m∧s.c≤m∧Sb b t∧s.c≤t.c∧∀ k,k < s.c→t.h.get k = s.h.get k) f ⟨lk,i,.sc gK,s.c,[],hup,lk,lk,.inl ⟨rfl,rfl⟩,gk _,hS,gk _,fun _ _=>rfl⟩ ?_)
  try clear G
  clear g0 g1 hup f i Γ
  rintro f Γ t ⟨g0,i,x,m,a,hup,g1,g5,hrow,hsm,hSt,hct,hk⟩
  cases f with
  | zero=>simp [upF] at hup
  | succ f =>
   have hla:=ayJ hup
   unfold upF at hup
   refine bJ (bJ ?_)
   replace G:=dw g0 (dw g1 g5)
   refine aZ ?_
   refine qV ?_
   refine qP ?_
   refine bY ?_
   try dsimp only [bZ]
   split at hup
   ·rename_i hi
    refine fq (t:=false) ?_ (z6 ?_)
    ·simp only [evS,reduceIte,isB]
     rw [decide_eq_false (by omega)]
    cases hup
    simp only [bZ,Nat.beq_refl,cond_true]
    exact ⟨x,m,(by simp only [evS,Nat.reduceEqDiff,reduceIte,g0,g1,g5]; try rfl),hrow,hsm,hSt,hct,hk⟩
   ·rename_i hi
    obtain ⟨y,hy,hup2⟩:=ak.1 hup
    refine fq (t:=true) ?_ (p8 ?_)
    ·simp only [evS,reduceIte,isB]
     rw [decide_eq_true (by omega)]
    dsimp only [bZ]
    obtain ⟨k,rfl⟩:=Int.eq_ofNat_of_zero_le (show 0≤i by omega)
    have hy2:(l.map tN5)[k]? = some (tN5 y):=by rw [ow,show l[k]? = some y from hy]; rfl
    have hroom:r9 16 ((a.map rz).length + 1) = true:=aHz (by rw [jw]; omega)
    obtain ⟨m',hrow,hm1,hm2⟩ : ∃ m',RowN t.h.get d4 x (a.map rz) m'∧s.c≤m'∧(m' < t.c∨t.c + 1000≤m'):=by
     rcases hrow with h | h
     ·exact ⟨t.c + 1000,.inl h,by omega,.inr (by omega)⟩
     ·exact ⟨m,.inr h,hsm,.inl (hSt.lt h.2)⟩
    have hle:=hS.le
    unfold tN5 at hy2
    refine bJ (j4 ?_)
    replace G:=dw g0 (dw g1 g5)
    refine aZ ?_
    refine qV ?_
    refine qV ?_
    refine qV ?_
    refine eX rfl (by first | exact atQ bK bK (by assumption) | exact auz bK bK (by first | assumption | omega)) ?_
    refine qP ?_
    refine qL ?_
    refine qM (MS.bsl1 hSt bK) ?_
    refine AQ hSt ?_
    intro s1 hst1 hsc1 hS1
    have hn1:=hst1.self
    replace hrow:=hrow.keep (hst1.keep _ (by omega))
    refine ayz rfl hS1 bK hrow (by omega) bK (by assumption) (by first | assumption | rfl) mq ?_
    intro s2 hst2 hS2
    have hsa2:=hst2.c
    replace hn1:=hst2.at hn1 (by omega) (by omega)
    have hn2:=hst2.self
    refine qV ?_
    refine bY ?_
    try dsimp only [bZ]
    refine aZ ?_
    refine qV ?_
    refine qV ?_
    refine eX rfl (by first | exact atQ bK bK (by assumption) | exact auz bK bK (by first | assumption | omega)) ?_
    refine qP ?_
    refine qL ?_
    refine qV ?_
    refine bY ?_
    try dsimp only [bZ]
    have hl1:(a.map rz).length + 1 = ((a++[y.2.1]).map rz).length:=by simp
    refine ⟨f,by omega,lk,y.1,_,s1.c,a++[y.2.1],hup2,lk,lk,.inr ⟨by rw [← hl1],?_⟩,by omega,hS2,by omega,fun q hq=>?_⟩
    ·rw [hn2,vk]; rfl
    ·rw [hst2.keep q (by omega) (by omega),hst1.keep q (by omega)]; exact hk q hq
 ·try clear G
  clear g0 g1
  rintro Γ t ⟨x,m,g5,hrow,hsm,hSt,hct,hk⟩
  rcases hrow with ⟨_,h⟩ | ⟨rfl,hm⟩
  ·exact absurd (by simpa using h) hne
  have hmb:b≤m:=by have:=hS.le; omega
  replace G:=g5
  refine bJ (aZ ?_)
  refine qV ?_
  refine qC (hC:=arK hSt hm hmb (by rw [jw]; omega)) (h:=?_)
  intro v3 s3 hq3
  obtain ⟨hS4,hm4,hc4,hk4⟩:=hq3
  refine bY ?_
  dsimp only [bZ]
  refine bJ (aZ ?_)
  refine qV ?_
  refine qV ?_
  refine bY ?_
  dsimp only [bZ]
  refine JK ⟨.inr rfl,[.c (.sl m 1 0 (acc.map rz).length)],0,aOJ lk rfl,iY,m,by rw [jw,List.length_reverse]; rfl,hsm,?_,hS4,by omega,fun q hq=>?_⟩
  ·rw [hm4,List.map_reverse]
  ·rw [hk4 q (by omega)]; exact hk q hq
end Go.RM
namespace Go.RM
open Go.VM (T yJ tI)
structure awJ (orc:cV) (chk:List N5→Option Int):Prop where
 own:∀ s x l n r,RowK s.h.get b9 5 x (gz l) l.length n→chk l = some r→Cp orc PV pV [.c x] s (fun k=>k = n∧x ≠ .sc gK) True fun v s'=>s = s'∧v = iV r
 lent:∀ s l r,chk l = some r→Cp orc PV pV [.c (.im 5 (l.map tN5))] s (fun _=>False) True fun v s'=>s = s'∧v = iV r
def t8 (chk:List N5→Option Int) (ar:Ar):Option (List N5 × Int):=(yZ ar 1000 0 (-1) 0).bind fun p=>bif decide (p.1.length≤100000) then (chk p.1).map fun r=>bif decide (r = 0) then (p.1,0) else ([],r) else none
set_option maxHeartbeats 1000000 in
theorem amK {orc:cV} (hsort:OZ orc) {chk:List N5→Option Int} (hchk:awJ orc chk) {b:Nat} {s:S} {ps:List (Nat × Nat)} {ar:Ar} {m0 p0:Nat} (hS:Sb b s) (hA:ArH b s.h.get ps ar) (hkids:y9 ar) (hp0:ps[0]? = some (p0,m0)) {out:List N5} {r:Int} (hb:t8 chk ar = some (out,r)) :
  Cp orc PV oK [.c (.ptr p0 0)] s (fun k=>b≤k) False fun v s'=>∃ x n,v = .tup [.c x,iV r]∧RowK s'.h.get b9 5 x (gz out) out.length n∧Sb b s':=by
 unfold t8 at hb
 obtain ⟨⟨o,w⟩,hl,hb⟩:=ak.1 hb
 simp only at hb
 cases hc:decide (o.length≤100000) with
 | false=>rw [hc] at hb; cases hb
 | true =>
 rw [hc] at hb
 have hlen:=of_decide_eq_true hc
 simp only [cond_true] at hb
 obtain ⟨e,he,hb⟩:=aw.1 hb
 refine GW (rf:=nJ) rfl ?_
 unfold nJ
 obtain ⟨Γ,hΓ⟩ : ∃ Γ,Γ = ofL [V.c (.ptr p0 0)] 0 .lf:=⟨_,rfl⟩
 have g0:look Γ 0 = .c (.ptr p0 0):=by rw [hΓ]; rfl
 rw [← hΓ]
 try clear G
 clear hΓ
 have hr0:RowK s.h.get b9 5 (.sc gK) (gz []) ([]:List N5).length s.c:=⟨rfl,.inl ⟨rfl,rfl⟩⟩
 have hle:=hS.le
 replace G:=g0
 refine bJ (aZ ?_)
 refine qV ?_
 refine qV ?_
 refine bY ?_
 dsimp only [bZ]
 refine bJ (aZ ?_)
 refine qV ?_
 refine qC (hC:=aTj hsort hkids 1000 0 (-1) [] o w s (.sc gK) s.c (p0,m0) hl (by simpa using hlen) hS hA.toR hp0 hr0 hle) (h:=?_)
 intro v1 s1 hq1
 obtain ⟨x,n,rfl,hrow,hbn,hS1,hK1⟩:=hq1
 rw [List.nil_append] at hrow
 refine qV ?_
 refine qP ?_
 refine qP ?_
 refine qV ?_
 refine qV ?_
 refine bY ?_
 dsimp only [bZ]
 refine bJ (bJ ?_)
 refine aZ ?_
 refine qV ?_
 refine qC (hC:=(hchk.own s1 x o n e hrow he).weak) (h:=?_)
 intro v2 s2 hq2
 obtain ⟨rfl,rfl⟩:=hq2
 refine qV ?_
 refine bY ?_
 try dsimp only [bZ]
 refine bJ (aZ ?_)
 refine qV ?_
 refine qP ?_
 refine bY ?_
 dsimp only [bZ]
 by_cases e0:e = 0
 ·subst e0
  refine fq (t:=false) (by simp only [evS,Nat.reduceEqDiff,reduceIte]; rfl) (p8 ?_)
  dsimp only [bZ]
  simp only [decide_true,cond_true] at hb
  cases hb
  replace G:=g0
  refine bJ (aZ ?_)
  refine qV ?_
  refine qV ?_
  refine qV ?_
  refine bY ?_
  dsimp only [bZ]
  exact JK ⟨.inr rfl,[.c x,iV 0],0,GK lk lk rfl rfl,iY,x,n,rfl,hrow,hS1⟩
 ·refine fq (t:=true) ?_ ?_
  ·simp only [evS,Nat.reduceEqDiff,reduceIte,isB,bV,scV]
   rw [decide_eq_false e0]; rfl
  dsimp only [cond_true]
  rw [decide_eq_false e0] at hb
  cases hb
  replace G:=g0
  refine bJ (aZ ?_)
  refine qV ?_
  refine qV ?_
  refine qV ?_
  refine bY ?_
  dsimp only [bZ]
  exact JK ⟨.inr rfl,[.c (.sc gK),iV r],0,GK lk lk rfl rfl,iY,.sc gK,n,rfl,⟨rfl,.inl ⟨rfl,rfl⟩⟩,hS1⟩
structure Smp where
 thread:Int
 at':Int
 weight:Int
 stack:List ByteArray
def tSmp (y:Smp):List T:=[tI y.thread,tI y.at',tI y.weight,.sl 1 (y.stack.map fun s=>[.sc (.string s)])]
def ar0:Ar:=[⟨0,0,none⟩]
def Hz (ar:Ar) (y:Smp):Option Ar:=if y.stack = [] then some ar else if y.stack.length≤1000000 then T4 ar y.stack y.weight 1 else none
theorem aVj {b:Nat} {h:Hp} {k:Nat} (hb:b≤k) (hk:h k = some (.cells fV [.sc (.int .i64 0),.sc (.int .i64 0),.sc (.map none)])):ArH b h [(k,0)] ar0:=by
 have h0:∀ (i:Nat) t,ar0[i]? = some t→t = ⟨0,0,none⟩:=fun i t ht=>by
  unfold ar0 at ht
  cases i with
  | zero=>cases ht; rfl
  | succ i=>simp at ht
 have h1:∀ (i:Nat) p,[((k,0):Nat × Nat)][i]? = some p→i = 0∧p = (k,0):=fun i p hp=>by
  cases i with
  | zero=>cases hp; exact ⟨rfl,rfl⟩
  | succ i=>simp at hp
 refine ⟨rfl,fun i t p ht hp=>?_,fun i t p l ht hp hl=>?_,fun i j p q hp hq _=>?_,fun i j t u p q ht hu hp hq ht2 _ _=>?_,fun i j u p q hu hp hq hu2=>?_⟩
 ·rw [h0 i t ht,(h1 i p hp).2]; exact ⟨hb,hk⟩
 ·rw [h0 i t ht] at hl; cases hl
 ·rw [(h1 i p hp).1,(h1 j q hq).1]
 ·rw [h0 i t ht] at ht2; exact absurd rfl ht2
 ·rw [h0 j u hu] at hu2; exact absurd rfl hu2
set_option maxHeartbeats 1000000 in
theorem ahZ {orc:cV} (hsort:OZ orc) {chk:List N5→Option Int} (hchk:awJ orc chk) {b:Nat} {s:S} (hS:Sb b s) {sm:List Smp} (hsl:sm.length≤1000000) {e:Int} (hsc:∀ s,Cp orc PV wJ [.c (.im 4 (sm.map tSmp))] s (fun _=>False) True fun v s'=>s = s'∧v = iV e) {out:List N5} {r:Int}
  (hres:(e ≠ 0∧out = []∧r = e)∨(e = 0∧∃ ar,sm.foldlM Hz ar0 = some ar∧y9 ar∧t8 chk ar = some (out,r))) :
  Cp orc PV vY [.c (.im 4 (sm.map tSmp))] s (fun k=>b≤k) False fun v s'=>∃ x n,v = .tup [.c x,iV r]∧RowK s'.h.get b9 5 x (gz out) out.length n:=by
 refine GW (rf:=oW) rfl ?_
 unfold oW
 obtain ⟨Γ,hΓ⟩ : ∃ Γ,Γ = ofL [V.c (.im 4 (sm.map tSmp))] 0 .lf:=⟨_,rfl⟩
 have g0:look Γ 0 = .c (.im 4 (sm.map tSmp)):=by rw [hΓ]; rfl
 rw [← hΓ]
 try clear G
 clear hΓ
 have hle:=hS.le
 replace G:=g0
 refine bJ (aZ ?_)
 refine qV ?_
 refine qV ?_
 refine bY ?_
 dsimp only [bZ]
 refine bJ (bJ ?_)
 refine aZ ?_
 refine qV ?_
 refine qC (hC:=(hsc s).weak) (h:=?_)
 intro v1 s1 hq1
 obtain ⟨rfl,rfl⟩:=hq1
 refine qV ?_
 refine bY ?_
 try dsimp only [bZ]
 refine bJ (aZ ?_)
 refine qV ?_
 refine qP ?_
 refine bY ?_
 dsimp only [bZ]
 by_cases e0:e = 0
 ·subst e0
  obtain ⟨ar,hfold,hkids,hbuilt⟩ : ∃ ar,sm.foldlM Hz ar0 = some ar∧y9 ar∧t8 chk ar = some (out,r):=by
   rcases hres with ⟨h,_⟩ | ⟨_,h⟩
   ·exact absurd rfl h
   ·exact h
  refine fq (t:=false) (by simp only [evS,Nat.reduceEqDiff,reduceIte]; rfl) (p8 ?_)
  dsimp only [bZ]
  replace G:=g0
  refine bJ (aZ ?_)
  refine eX rfl (by simp only [evS,Nat.reduceEqDiff,reduceIte,PU,bX,scV,bV,iV,gK,isB,isI,qZ,CV,mkV,fill,cY,setAt,List.take_zero,List.take_succ_cons,List.take_nil,List.drop_nil,List.append_nil,List.nil_append,List.cons_append,List.length_cons,List.length_nil,Nat.reduceAdd,Nat.reduceLeDiff,UJ,U3,eq_self,decide_true,Bool.and_self,G]; first | done | rfl) ?_
  refine H6 rfl (MS.box hS aiq) mq ?_
  refine AQ hS ?_
  intro s2 hst2 hsc2 hS2
  have hn2:=hst2.self
  refine qV ?_
  refine bY ?_
  dsimp only [bZ]
  have hA0:=aVj (h:=s2.h.get) hle hn2
  refine qq (fun Γ t=>look Γ 5 = .c (.ptr s.c 0)∧∃ (ps:List (Nat × Nat)) (m0:Nat),Sb b t∧ArH b t.h.get ps ar∧ps[0]? = some (s.c,m0)) ?_ ?_
  ·skip
   replace G:=g0
   refine bJ (aZ ?_)
   refine qVL ?_
   refine eX rfl (by first | exact D6 S7 (by assumption) | simp only [evS,Nat.reduceEqDiff,reduceIte,PU,bX,scV,bV,iV,gK,isB,isI,qZ,CV,mkV,jw,G]; try rfl) ?_
   refine qVL ?_
   refine bY ?_
   dsimp only [bZ]
   refine j4 (J7 (fun Γ t=>look Γ 5 = .c (.ptr s.c 0)∧look Γ 15 = .c (.im 4 (sm.map tSmp))∧look Γ 16 = iV (sm.length:Int)∧∃ (j:Nat) (arj:Ar) (ps:List (Nat × Nat)) (m0:Nat),look Γ 17 = iV (j:Int)∧j≤sm.length∧(sm.drop j).foldlM Hz arj = some ar∧Sb b t∧ArH b t.h.get ps arj∧ps[0]? = some (s.c,m0)) (fun Γ _=>match look Γ 17 with
    | .c (.sc (.int _ i))=>sm.length - i.toNat
    | _=>0) ⟨lkL,lkL,lkL,0,ar0,_,0,lkL,Nat.zero_le _,hfold,hS2,hA0,rfl⟩ ?_)
   try clear G
   clear g0 hA0 hn2 hfold Γ
   rintro Γ t ⟨g5,g15,g16,j,arj,ps,m0,g17,hj,hfold,hSt,hA,hp0⟩
   replace G:=dw g5 (dw g15 (dw g16 g17))
   refine bJ (aZ ?_)
   refine qP ?_
   refine bY ?_
   dsimp only [bZ]
   by_cases hjl:j < sm.length
   ·refine bJ (fq (t:=true) ?_ (p8 ?_))
    ·simp only [uq,fX,rk,isB,bV,scV]
     rw [decide_eq_true (by omega)]
    dsimp only [bZ]
    obtain ⟨y,hy⟩ : ∃ y,sm[j]? = some y:=⟨_,bk hjl⟩
    have hdrop:sm.drop j = y :: sm.drop (j + 1):=by
     rw [List.drop_eq_getElem_cons hjl]
     rw [bk hjl] at hy
     cases hy; rfl
    rw [hdrop,List.foldlM_cons] at hfold
    obtain ⟨ar',hstep,hfold2⟩:=ak.1 hfold
    have hy2:(sm.map tSmp)[j]? = some (tSmp y):=by rw [ow,hy]; rfl
    unfold tSmp at hy2
    refine qq (fun Γ t=>look Γ 5 = .c (.ptr s.c 0)∧look Γ 15 = .c (.im 4 (sm.map tSmp))∧look Γ 16 = iV (sm.length:Int)∧look Γ 17 = iV (j:Int)∧∃ (ps:List (Nat × Nat)) (m0:Nat),Sb b t∧ArH b t.h.get ps ar'∧ps[0]? = some (s.c,m0)) (j4 ?_) ?_
    ·have hle2:=hSt.le
     replace G:=dw g5 (dw g15 (dw g16 g17))
     refine bJ (aZ ?_)
     refine eX rfl (by first | exact atQ bK bK (by assumption) | exact auz bK bK (by first | assumption | omega)) ?_
     refine qA ?_
     refine qM (MS.alloc hSt) ?_
     refine AQ hSt ?_
     intro s3 hst3 hsc3 hS3
     have hn3:=hst3.self
     refine H6 rfl (MS.storeA bK aiq (by assumption) rfl (by first | rfl | (simp; done) | omega)) mq ?_
     refine C7 hS3 (by omega) (by omega) ?_
     intro s4 hst4 hsc4 hS4
     first | replace hn3:=hst4.at hn3 (by omega) | replace hn3:=hst4.self
     refine bY ?_
     dsimp only [bZ]
     replace G:=dw g5 (dw g15 (dw g16 g17))
     refine bJ (aZ ?_)
     refine qPL ?_
     refine qLL ?_
     refine eX rfl (by first | exact D6 S7 (by assumption) | simp only [evS,Nat.reduceEqDiff,reduceIte,PU,bX,scV,bV,iV,gK,isB,isI,qZ,CV,mkV,jw,G]; try rfl) ?_
     refine qPL ?_
     refine bY ?_
     dsimp only [bZ]
     have hA4:ArH b s4.h.get ps arj:=hA.keep (fun i q hq=>by
      have:=(hA.lt hSt).1 i q hq
      rw [hst4.keep _ (by omega),hst3.keep _ (by omega)]) (fun i u q hu hq hk=>by
      have:=(hA.lt hSt).2 i u q hu hq hk
      rw [hst4.keep _ (by omega),hst3.keep _ (by omega)])
     unfold Hz at hstep
     by_cases hst:y.stack = []
     ·rw [if_pos hst] at hstep
      cases hstep
      refine fq (t:=false) ?_ (p8 ?_)
      ·simp only [evS,Nat.reduceEqDiff,reduceIte,isB,bV,scV]
       rw [hst]; rfl
      exact ⟨(by simp only [evS,Nat.reduceEqDiff,reduceIte,g5,g15,g16,g17,jw]; try rfl),(by simp only [evS,Nat.reduceEqDiff,reduceIte,g5,g15,g16,g17,jw]; try rfl),(by simp only [evS,Nat.reduceEqDiff,reduceIte,g5,g15,g16,g17,jw]; try rfl),(by simp only [evS,Nat.reduceEqDiff,reduceIte,g5,g15,g16,g17,jw]; try rfl),ps,m0,hS4,hA4,hp0⟩
     ·rw [if_neg hst] at hstep
      split at hstep
      ·rename_i hlen
       refine fq (t:=true) ?_ ?_
       ·simp only [evS,Nat.reduceEqDiff,reduceIte,isB,bV,scV]
        have:0 < y.stack.length:=List.length_pos_iff.2 hst
        rw [decide_eq_true (by omega)]
       dsimp only [cond_true]
       replace G:=dw g5 (dw g15 (dw g16 g17))
       refine aZ ?_
       refine qVL ?_
       refine qPL ?_
       refine qLL ?_
       refine qPL ?_
       refine qLL ?_
       refine qCL (hC:=(aJX hS4 hA4 hlen hp0 (.inl rfl) hstep).weak) (h:=?_)
       intro v5 s5 hq5
       obtain ⟨ps',m',hS5,hA5,hp5,_⟩:=hq5
       refine bY ?_
       try dsimp only [bZ]
       exact ⟨lkL,lkL,lkL,lkL,ps',m',hS5,hA5,hp5⟩
      ·cases hstep
    ·try clear G
     clear g5 g15 g16 hSt hA hp0
     rintro Γ2 t2 ⟨g5,g15,g16,k17,ps,m0,hSt,hA,hp0⟩
     replace G:=dw g5 (dw g15 (dw g16 k17))
     refine aZ ?_
     refine qP ?_
     refine qV ?_
     refine bY ?_
     try dsimp only [bZ]
     refine ⟨⟨lk,lk,lk,j + 1,ar',ps,m0,?_,by omega,hfold2,hSt,hA,hp0⟩,?_⟩
     ·simp only [evS,Nat.reduceEqDiff,reduceIte]
      rw [wr (by omega) (by omega)]; rfl
     ·simp only [evS,Nat.reduceEqDiff,reduceIte,g17,iV]
      rw [wr (by omega) (by omega)]
      omega
   ·refine bJ (fq (t:=false) ?_ (z6 ?_))
    ·simp only [uq,fX,rk,isB,bV,scV]
     rw [decide_eq_false (by omega)]
    have hjl:j = sm.length:=by omega
    subst hjl
    rw [List.drop_length] at hfold
    simp only [List.foldlM_nil,Option.pure_def,cw] at hfold
    subst hfold
    simp only [bZ,Nat.beq_refl,cond_true]
    exact ⟨(by simp only [evS,Nat.reduceEqDiff,reduceIte,g5,g15,g16,g17]; try rfl),ps,m0,hSt,hA,hp0⟩
  ·try clear G
   clear g0
   rintro Γ t ⟨g5,ps,m0,hSt,hA,hp0⟩
   replace G:=g5
   refine bJ (aZ ?_)
   refine qV ?_
   refine qC (hC:=amK hsort hchk hSt hA hkids hp0 hbuilt) (h:=?_)
   intro v6 s6 hq6
   obtain ⟨x,n,rfl,hrow,hS6⟩:=hq6
   refine qP ?_
   refine qP ?_
   refine qV ?_
   refine qV ?_
   refine bY ?_
   dsimp only [bZ]
   exact JK ⟨.inr rfl,[.c x,iV r],0,GK lk lk rfl rfl,iY,x,n,rfl,hrow⟩
 ·obtain ⟨rfl,rfl⟩ : out = []∧r = e:=by
   rcases hres with ⟨_,h⟩ | ⟨h,_⟩
   ·exact h
   ·exact absurd h e0
  refine fq (t:=true) ?_ ?_
  ·simp only [evS,Nat.reduceEqDiff,reduceIte,isB,bV,scV]
   rw [decide_eq_false e0]; rfl
  dsimp only [cond_true]
  replace G:=g0
  refine bJ (aZ ?_)
  refine qV ?_
  refine qV ?_
  refine qV ?_
  refine bY ?_
  dsimp only [bZ]
  exact JK ⟨.inr rfl,[.c (.sc gK),iV r],0,GK lk lk rfl rfl,iY,.sc gK,0,rfl,⟨rfl,.inl ⟨rfl,rfl⟩⟩⟩
end Go.RM
namespace Go.RM
open Go.VM (T yJ tI)
theorem MS.bsl2 {e:Opd→V} {s:S} {b:Nat} {t:TypeId} {z u v:X} {x y:Opd} (hS:Sb b s) (hx:e x = .c u) (hy:e y = .c v):MS e s (.bsl t 1 2 [z] [(0,1,x),(1,1,y)]) (.c (.sl s.c 1 0 2)) (zz s (.cells t [u,v])) (fun k=>k = s.c) (fun k=>k = s.c):=by
 refine MS.bsl hS ?_
 simp only [fill,hx,hy,cY,ck]
 rfl
theorem avW {orc:cV} {T:Tr RF} {F:Nat→Prop} {D:Prop} {Q:Ex→Tr V→S→Prop} {a c:RC} {Γ:Tr V} {s:S} (mid:Tr V→S→Prop) (h1:Wp orc T a Γ s F D (bZ mid Q)) (h2:∀ Γ s,mid Γ s→Wp orc T c Γ s F D Q):Wp orc T (.seq a c) Γ s F D Q:=by
 refine bJ (Wp.mono h1 (fun _ h=>h) (fun h=>h) fun e Γ s h=>?_)
 cases e with
 | normal=>exact h2 Γ s h
 | exit _=>exact h
 | ret=>exact h
theorem aKz {orc:cV} {T:Tr RF} {F:Nat→Prop} {D:Prop} {os:List (ROp × Nat)} {tab:List Nat} {i:Nat} {ds:List Fp} {Γ:Tr V} {s:S} {b:Nat} {d:Option Nat} {g:Option (Nat × Bool)} {m bb:Nat} {f:FuncId} {qs:List Opd} {args:List V} {k:Tr V→S→Prop} (R:Nat→Prop) (hw:wQ Γ g = some true) (hargs:qs.map (ev Γ) = args) (hS:Sb b s) (hF:∀ j,R j→F j) (ha:∀ x∈ds,apO bb x R R)
  (hC:Cp orc T f args { s with w:=0 } R True fun v s'=>(∀ j,b≤j→R j)∧Sb b s'∧s.c≤s'.c∧∀ s1,s1.h = s'.h→s1.c = s'.c→Sb b s1→Dr orc T F D os tab (i + 1) (ds++[⟨i,R,R⟩]) (putO d v Γ) s1 k):Dr orc T F D ((⟨d,.call f qs,g⟩,m) :: os) (bb :: tab) i ds Γ s k:=by
 refine ayZ R R hw hargs hF ha (Cp.mono hC (fun _ h=>h) (fun h=>h) fun v s' hq=>?_)
 obtain ⟨h0,h1,h2,h3⟩:=hq
 exact ⟨fun j hj=>h0 j (h1.own j hj).1,h3 _ rfl rfl (hS.join h1 (gk _) h2)⟩
def TZ (l:List N5) (ar:Ar) (j:Nat):Option Ar:=(upF l 2001 (j:Int) []).bind fun acc=>l[j]?.bind fun y=>if acc ≠ []∧acc.length≤100000 then T4 ar acc.reverse y.2.2.1 y.2.2.2.2 else none
def aaZ (l:List N5) (ar:Ar):Option Ar:=if l.length≤1000000 then (List.range l.length).foldlM (TZ l) ar else none
def sx (chk:List N5→Option Int):List (List N5)→Ar→Option (Int ⊕ Ar)
 | [],ar=>some (.inr ar)
 | l :: ls,ar=>(chk l).bind fun e=>if e = 0 then (aaZ l ar).bind fun ar'=>sx chk ls ar' else some (.inl e)
theorem arJ {n j:Nat} (h:j < n):(List.range n).drop j = j :: (List.range n).drop (j + 1):=by
 rw [List.drop_eq_getElem_cons (by rw [List.length_range]; exact h),List.getElem_range]
set_option maxHeartbeats 1000000 in
theorem aHQ {orc:cV} (hsort:OZ orc) {chk:List N5→Option Int} (hchk:awJ orc chk) {b:Nat} {s:S} (hS:Sb b s) {la lb out:List N5} {r:Int}
  (hres:(out = []∧sx chk [la,lb] ar0 = some (.inl r))∨∃ ar,sx chk [la,lb] ar0 = some (.inr ar)∧y9 ar∧t8 chk ar = some (out,r)) :
  Cp orc PV D1 [.c (.im 5 (la.map tN5)),.c (.im 5 (lb.map tN5))] s (fun k=>b≤k) False fun v s'=>∃ x n,v = .tup [.c x,iV r]∧RowK s'.h.get b9 5 x (gz out) out.length n:=by
 refine GW (rf:=u6) rfl ?_
 unfold u6
 obtain ⟨Γ,hΓ⟩ : ∃ Γ,Γ = ofL [V.c (.im 5 (la.map tN5)),.c (.im 5 (lb.map tN5))] 0 .lf:=⟨_,rfl⟩
 have g0:look Γ 0 = .c (.im 5 (la.map tN5)):=by rw [hΓ]; rfl
 have g1:look Γ 1 = .c (.im 5 (lb.map tN5)):=by rw [hΓ]; rfl
 rw [← hΓ]
 try clear G
 clear hΓ
 have hle:=hS.le
 obtain ⟨R,hR⟩ : ∃ R,sx chk [la,lb] ar0 = some R:=by
  rcases hres with ⟨_,h⟩ | ⟨ar,h,_⟩
  ·exact ⟨_,h⟩
  ·exact ⟨_,h⟩
 rw [hR] at hres
 replace G:=dw g0 g1
 refine bJ (aZ ?_)
 refine qV ?_
 refine qV ?_
 refine bY ?_
 dsimp only [bZ]
 refine bJ (aZ ?_)
 refine eX rfl (by simp only [evS,Nat.reduceEqDiff,reduceIte,PU,bX,scV,bV,iV,gK,isB,isI,qZ,CV,mkV,fill,cY,setAt,List.take_zero,List.take_succ_cons,List.take_nil,List.drop_nil,List.append_nil,List.nil_append,List.cons_append,List.length_cons,List.length_nil,Nat.reduceAdd,Nat.reduceLeDiff,UJ,U3,eq_self,decide_true,Bool.and_self,G]; first | done | rfl) ?_
 refine H6 rfl (MS.box hS aiq) mq ?_
 refine AQ hS ?_
 intro s1 hst1 hsc1 hS1
 have hn1:=hst1.self
 refine qV ?_
 refine bY ?_
 dsimp only [bZ]
 have hA0:=aVj (h:=s1.h.get) hle hn1
 have hlo:=(hA0.lt hS1)
 refine bJ (bJ ?_)
 refine aZ ?_
 refine qV ?_
 refine qV ?_
 refine H6 rfl (MS.bsl2 hS1 bK bK) mq ?_
 refine AQ hS1 ?_
 intro s2 hst2 hsc2 hS2
 replace hn1:=hst2.at hn1 (by omega)
 have hn2:=hst2.self
 refine eX rfl (by first | exact D6 bK (by assumption) | simp only [evS,Nat.reduceEqDiff,reduceIte,PU,bX,scV,bV,iV,gK,isB,isI,qZ,CV,mkV,G]; try rfl) ?_
 refine qV ?_
 refine bY ?_
 try dsimp only [bZ]
 have hA2:ArH b s2.h.get [(s.c,0)] ar0:=aVj hle hn1
 generalize hls:[la,lb] = ls at hR
 have hln:ls.length = 2:=by rw [← hls]; rfl
 have hcx:[X.im 5 (la.map tN5),.im 5 (lb.map tN5)] = ls.map fun l=>.im 5 (l.map tN5):=by rw [← hls]; rfl
 rw [hcx] at hn2
 refine j4 (J7 (fun Γ t=>look Γ 6 = .c (.ptr s.c 0)∧look Γ 16 = .c (.sl s1.c 1 0 2)∧look Γ 17 = iV 2∧∃ (j:Nat) (arj:Ar) (ps:List (Nat × Nat)) (m0:Nat),look Γ 18 = iV (j:Int)∧j≤2∧sx chk (ls.drop j) arj = some R∧Sb b t∧ArH b t.h.get ps arj∧ps[0]? = some (s.c,m0)∧t.h.get s1.c = some (.cells BY (ls.map fun l=>.im 5 (l.map tN5)))) (fun Γ _=>match look Γ 18 with
  | .c (.sc (.int _ i))=>2 - i.toNat
  | _=>0) ⟨lk,lk,lk,0,ar0,_,0,lk,Nat.zero_le _,hR,hS2,hA2,rfl,hn2⟩ ?_)
 try clear G
 clear g0 g1 hA0 hA2 hn1 hn2 hR hls hcx Γ
 rintro Γ t ⟨g6,g16,g17,j,arj,ps,m0,g18,hj,hR,hSt,hA,hp0,hl⟩
 replace G:=dw g6 (dw g16 (dw g17 g18))
 refine bJ (aZ ?_)
 refine qP ?_
 refine bY ?_
 dsimp only [bZ]
 by_cases hjl:j < 2
 ·refine bJ (fq (t:=true) ?_ (p8 ?_))
  ·simp only [uq,fX,rk,isB,bV,scV]
   rw [decide_eq_true (by omega)]
  dsimp only [bZ]
  obtain ⟨l,hlj⟩ : ∃ l,ls[j]? = some l:=⟨_,bk (by omega)⟩
  have hdrop:ls.drop j = l :: ls.drop (j + 1):=by
   rw [List.drop_eq_getElem_cons (by omega)]
   rw [bk (by omega)] at hlj
   cases hlj; rfl
  rw [hdrop] at hR
  unfold sx at hR
  obtain ⟨e,he,hR⟩:=ak.1 hR
  have hcj:(ls.map fun l=>X.im 5 (l.map tN5))[j]? = some (.im 5 (l.map tN5)):=by rw [ow,hlj]; rfl
  have hlc:=hSt.lt hl
  refine avW (fun Γ t=>look Γ 6 = .c (.ptr s.c 0)∧look Γ 16 = .c (.sl s1.c 1 0 2)∧look Γ 17 = iV 2∧look Γ 18 = iV (j:Int)∧∃ (arj:Ar) (ps:List (Nat × Nat)) (m0:Nat),sx chk (ls.drop (j + 1)) arj = some R∧Sb b t∧ArH b t.h.get ps arj∧ps[0]? = some (s.c,m0)∧t.h.get s1.c = some (.cells BY (ls.map fun l=>.im 5 (l.map tN5)))) (j4 ?_) ?_
  ·skip
   replace G:=dw g6 (dw g16 (dw g17 g18))
   refine bJ (aZ ?_)
   refine qX ?_
   refine qL ?_
   refine qV ?_
   refine bY ?_
   dsimp only [bZ]
   refine bJ (bJ ?_)
   refine aZ ?_
   refine qV ?_
   refine qC (hC:=(hchk.lent t l e he).weak) (h:=?_)
   intro v3 s3 hq3
   obtain ⟨rfl,rfl⟩:=hq3
   refine qV ?_
   refine bY ?_
   try dsimp only [bZ]
   refine bJ (aZ ?_)
   refine qV ?_
   refine qP ?_
   refine bY ?_
   dsimp only [bZ]
   by_cases e0:e = 0
   ·subst e0
    rw [if_pos rfl] at hR
    obtain ⟨ar2,hadds,hR⟩:=ak.1 hR
    unfold aaZ at hadds
    split at hadds
    case isFalse=>cases hadds
    rename_i hll
    refine fq (t:=false) (by simp only [evS,Nat.reduceEqDiff,reduceIte]; rfl) (p8 ?_)
    dsimp only [bZ]
    replace G:=dw g6 (dw g16 (dw g17 g18))
    refine bJ (aZ ?_)
    refine qVL ?_
    refine eX rfl (by first | exact D6 S7 (by assumption) | simp only [evS,Nat.reduceEqDiff,reduceIte,PU,bX,scV,bV,iV,gK,isB,isI,qZ,CV,mkV,jw,G]; try rfl) ?_
    refine qVL ?_
    refine bY ?_
    dsimp only [bZ]
    refine j4 (J7 (fun Γ t=>look Γ 6 = .c (.ptr s.c 0)∧look Γ 8 = .c (.im 5 (l.map tN5))∧look Γ 16 = .c (.sl s1.c 1 0 2)∧look Γ 17 = iV 2∧look Γ 18 = iV (j:Int)∧look Γ 27 = .c (.im 5 (l.map tN5))∧look Γ 28 = iV (l.length:Int)∧∃ (k:Nat) (ark:Ar) (ps:List (Nat × Nat)) (m0:Nat),look Γ 29 = iV (k:Int)∧k≤l.length∧((List.range l.length).drop k).foldlM (TZ l) ark = some ar2∧Sb b t∧ArH b t.h.get ps ark∧ps[0]? = some (s.c,m0)∧t.h.get s1.c = some (.cells BY (ls.map fun l=>.im 5 (l.map tN5)))) (fun Γ _=>match look Γ 29 with
     | .c (.sc (.int _ i))=>l.length - i.toNat
     | _=>0) ⟨lkL,lkL,lkL,lkL,lkL,lkL,lkL,0,arj,ps,m0,lkL,Nat.zero_le _,hadds,hSt,hA,hp0,hl⟩ ?_)
    try clear G
    clear g6 g16 g17 g18 hadds hSt hA hp0 hl hlc hle
    rintro Γ1 t ⟨g6,g8,g16,g17,g18,g27,g28,k,ark,ps,m0,g29,hk,hadds,hSt,hA,hp0,hl⟩
    have hlc:=hSt.lt hl
    have hle:=hSt.le
    replace G:=dw g6 (dw g8 (dw g16 (dw g17 (dw g18 (dw g27 (dw g28 g29))))))
    refine bJ (aZ ?_)
    refine qP ?_
    refine bY ?_
    dsimp only [bZ]
    by_cases hkl:k < l.length
    ·refine bJ (fq (t:=true) ?_ (p8 ?_))
     ·simp only [uq,fX,rk,isB,bV,scV]
      rw [decide_eq_true (by omega)]
     dsimp only [bZ]
     rw [arJ hkl,List.foldlM_cons] at hadds
     obtain ⟨ark2,hstep,hadds2⟩:=ak.1 hadds
     unfold TZ at hstep
     obtain ⟨acc,hup,hstep⟩:=ak.1 hstep
     obtain ⟨y,hy,hstep⟩:=ak.1 hstep
     split at hstep
     case isFalse=>cases hstep
     rename_i hacc
     have hy2:(l.map tN5)[k]? = some (tN5 y):=by rw [ow,hy]; rfl
     unfold tN5 at hy2
     refine avW (fun Γ t=>look Γ 6 = .c (.ptr s.c 0)∧look Γ 8 = .c (.im 5 (l.map tN5))∧look Γ 16 = .c (.sl s1.c 1 0 2)∧look Γ 17 = iV 2∧look Γ 18 = iV (j:Int)∧look Γ 27 = .c (.im 5 (l.map tN5))∧look Γ 28 = iV (l.length:Int)∧look Γ 29 = iV (k:Int)∧∃ (ps:List (Nat × Nat)) (m0:Nat),Sb b t∧ArH b t.h.get ps ark2∧ps[0]? = some (s.c,m0)∧t.h.get s1.c = some (.cells BY (ls.map fun l=>.im 5 (l.map tN5)))) (j4 ?_) ?_
     ·skip
      refine bJ (aZ ?_)
      refine qV ?_
      refine eX rfl (by first | exact atQ bK bK (by assumption) | exact auz bK bK (by first | assumption | omega)) ?_
      refine qA ?_
      refine qM (MS.alloc hSt) ?_
      refine AQ hSt ?_
      intro s4 hst4 hsc4 hS4
      replace hl:=hst4.at hl (by omega)
      have hn4:=hst4.self
      refine qV ?_
      refine H6 rfl (MS.storeA bK aiq (by assumption) rfl (by first | rfl | (simp; done) | omega)) mq ?_
      refine C7 hS4 (by omega) (by omega) ?_
      intro s5 hst5 hsc5 hS5
      first | replace hl:=hst5.at hl (by omega) | replace hl:=hst5.self
      first | replace hn4:=hst5.at hn4 (by omega) | replace hn4:=hst5.self
      refine bY ?_
      dsimp only [bZ]
      have hA4:ArH b s5.h.get ps ark:=hA.keep (fun i q hq=>by
       have:=(hA.lt hSt).1 i q hq
       rw [hst5.keep _ (by omega),hst4.keep _ (by omega)]) (fun i u q hu hq hk=>by
       have:=(hA.lt hSt).2 i u q hu hq hk
       rw [hst5.keep _ (by omega),hst4.keep _ (by omega)])
      refine afQ rfl ?_
      refine rV ?_
      refine rV ?_
      refine rV ?_
      refine aIW (fun k=>s5.c≤k) rfl aKx hS5 mq (fun x hx=>by simp at hx) (Cp.mono (aTY (Sb.zero hS5 (gk _)) hup hacc.1 hacc.2) (fun _ h=>h) (fun h=>h) ?_)
      intro v6 s6 hq6
      obtain ⟨mp,rfl,hmp,hpm,hSp,hcp,hkp⟩:=hq6
      refine ⟨hSp,fun j h1 _=>h1,?_⟩
      intro σ e1 e2 hSσ
      rw [← e1] at hpm hkp
      rw [← e2] at hcp
      have hkp:∀ k,k < s5.c→σ.h.get k = s5.h.get k:=hkp
      have hcp:s5.c≤σ.c:=hcp
      replace hn4:σ.h.get _ = _:=(hkp _ (by omega)).trans hn4
      replace hl:σ.h.get _ = _:=(hkp _ (by omega)).trans hl
      have hA5:ArH b σ.h.get ps ark:=hA4.keep (fun i q hq=>hkp _ ((hA4.lt hS5).1 i q hq)) (fun i u q hu hq hk=>hkp _ ((hA4.lt hS5).2 i u q hu hq hk))
      have hmb:b≤mp:=by have h:s5.c≤mp:=hmp; omega
      clear e1 e2 hSp
      refine rP ?_
      refine rL ?_
      refine rP ?_
      refine rL ?_
      refine aKz (fun k => b ≤ k) rfl aKx hSσ mq (by intro x hx; simp only [List.nil_append,List.cons_append,iw,List.not_mem_nil,or_false] at hx; rcases hx with rfl | rfl | rfl <;> first | exact .inl (by dsimp only; decide) | (refine .inr fun k => ?_; refine ⟨?_,?_,?_⟩ <;> (intro hk; (try dsimp only at hk); first | exact hk.1.elim | exact hk.2.elim | omega))) (Cp.mono (aJX (Sb.zero hSσ (Sb.le hSσ)) (show ArH b ({ σ with w := 0 }:S).h.get ps ark from hA5) (by rw [List.length_reverse]; omega) hp0 (.inr ⟨mp,hmb,rfl,hpm⟩) hstep) (fun _ h => h) (fun h => h) ?_)
      intro v7 s7 hq7
      obtain ⟨ps',m',hS6,hA6,hp6,hK6⟩:=hq7
      refine ⟨fun j h=>h,hS6,hK6.1,?_⟩
      intro τ e1 e2 hSτ
      rw [← e1] at hA6
      have hl6:=hK6.2 _ _ _ (show ({ σ with w:=0 }:S).h.get s1.c = _ from hl) (by decide)
      rw [← e1] at hl6
      refine auY ?_
      try dsimp only [bZ]
      exact ⟨lk,lk,lk,lk,lk,lk,lk,lk,ps',m',hSτ,hA6,hp6,hl6⟩
     ·try clear G
      clear g6 g8 g16 g17 g18 g27 g28 hSt hA hp0 hl hlc hle
      rintro Γ2 t2 ⟨g6,g8,g16,g17,g18,g27,g28,k29,ps,m0,hSt,hA,hp0,hl⟩
      replace G:=dw g6 (dw g8 (dw g16 (dw g17 (dw g18 (dw g27 (dw g28 k29))))))
      refine aZ ?_
      refine qP ?_
      refine qV ?_
      refine bY ?_
      try dsimp only [bZ]
      refine ⟨⟨lk,lk,lk,lk,lk,lk,lk,k + 1,ark2,ps,m0,?_,by omega,hadds2,hSt,hA,hp0,hl⟩,?_⟩
      ·simp only [evS,Nat.reduceEqDiff,reduceIte]
       rw [wr (by omega) (by omega)]; rfl
      ·simp only [evS,Nat.reduceEqDiff,reduceIte,g29,iV]
       rw [wr (by omega) (by omega)]
       omega
    ·refine bJ (fq (t:=false) ?_ (z6 ?_))
     ·simp only [uq,fX,rk,isB,bV,scV]
      rw [decide_eq_false (by omega)]
     have hkl:k = l.length:=by omega
     subst hkl
     rw [show (List.range l.length).drop l.length = [] from List.drop_eq_nil_of_le (by rw [List.length_range]; omega)] at hadds
     simp only [List.foldlM_nil,Option.pure_def,cw] at hadds
     subst hadds
     simp only [bZ,Nat.beq_refl,cond_true]
     exact ⟨(by simp only [evS,Nat.reduceEqDiff,reduceIte,g6,g8,g16,g17,g18,g27,g28,g29]; try rfl),(by simp only [evS,Nat.reduceEqDiff,reduceIte,g6,g8,g16,g17,g18,g27,g28,g29]; try rfl),(by simp only [evS,Nat.reduceEqDiff,reduceIte,g6,g8,g16,g17,g18,g27,g28,g29]; try rfl),(by simp only [evS,Nat.reduceEqDiff,reduceIte,g6,g8,g16,g17,g18,g27,g28,g29]; try rfl),ark,ps,m0,hR,hSt,hA,hp0,hl⟩
   ·rw [if_neg e0] at hR
    cases hR
    obtain ⟨rfl,rfl⟩ : out = []∧r = e:=by
     rcases hres with ⟨h1,h2⟩ | ⟨ar,h,_⟩
     ·cases h2; exact ⟨h1,rfl⟩
     ·cases h
    refine fq (t:=true) ?_ ?_
    ·simp only [evS,Nat.reduceEqDiff,reduceIte,isB,bV,scV]
     rw [decide_eq_false e0]; rfl
    dsimp only [cond_true]
    replace G:=dw g6 (dw g16 (dw g17 g18))
    refine bJ (aZ ?_)
    refine qV ?_
    refine qV ?_
    refine qV ?_
    refine bY ?_
    dsimp only [bZ]
    exact JK ⟨.inr rfl,[.c (.sc gK),iV r],0,GK lk lk rfl rfl,iY,.sc gK,0,rfl,⟨rfl,.inl ⟨rfl,rfl⟩⟩⟩
  ·try clear G
   clear g6 g16 g17 hSt hA hp0 hl hlc
   rintro Γ2 t2 ⟨g6,g16,g17,k18,arj,ps,m0,hR2,hSt,hA,hp0,hl⟩
   replace G:=dw g6 (dw g16 (dw g17 k18))
   refine aZ ?_
   refine qP ?_
   refine qV ?_
   refine bY ?_
   try dsimp only [bZ]
   refine ⟨⟨lk,lk,lk,j + 1,arj,ps,m0,?_,by omega,hR2,hSt,hA,hp0,hl⟩,?_⟩
   ·simp only [evS,Nat.reduceEqDiff,reduceIte]
    rw [wr (by omega) (by omega)]; rfl
   ·simp only [evS,Nat.reduceEqDiff,reduceIte,g18,iV]
    rw [wr (by omega) (by omega)]
    omega
 ·refine bJ (fq (t:=false) ?_ (z6 ?_))
  ·simp only [uq,fX,rk,isB,bV,scV]
   rw [decide_eq_false (by omega)]
  have hjl:j = 2:=by omega
  subst hjl
  rw [List.drop_eq_nil_of_le (by omega)] at hR
  simp only [sx,cw] at hR
  subst hR
  obtain ⟨hkids,hbuilt⟩ : y9 arj∧t8 chk arj = some (out,r):=by
   rcases hres with ⟨_,h⟩ | ⟨ar,h,h2⟩
   ·cases h
   ·cases h; exact h2
  simp only [bZ,Nat.beq_refl,cond_true]
  replace G:=dw g6 (dw g16 (dw g17 g18))
  refine bJ (aZ ?_)
  refine qV ?_
  refine qC (hC:=amK hsort hchk hSt hA hkids hp0 hbuilt) (h:=?_)
  intro v8 s8 hq8
  obtain ⟨x,n,rfl,hrow,hS9⟩:=hq8
  refine qP ?_
  refine qP ?_
  refine qV ?_
  refine qV ?_
  refine bY ?_
  dsimp only [bZ]
  exact JK ⟨.inr rfl,[.c x,iV r],0,GK lk lk rfl rfl,iY,x,n,rfl,hrow⟩
end Go.RM
namespace Go.VM
open Go Go.Proofs Go.Proofs.Ytjdjjcebbjjlkaa
open Go.Shelf
def arV:Go.Shelf.Ren:=⟨fun | 190=>51 | 125=>55 | 258=>54 | 128=>66 | 129=>67 | 302=>57 | 303=>58 | 304=>59 | 305=>60 | 306=>61 | 307=>62 | 308=>63 | 309=>64 | 310=>65 | 333=>69 | 329=>70 | 330=>71 | 334=>72 | 335=>73 | 336=>74 | 344=>76 | n=>n,fun | 31=>30 | 9=>9 | 3=>3 | 46=>78 | 0=>0 | 51=>89 | 53=>91 | 4=>4 | 183=>81 | 182=>80 | 131=>86 | 5=>5 | 218=>92 | 222=>96 | 228=>99 | 229=>100 | n=>n,fun | n=>n⟩
theorem flSort:Go.Proofs.Lays.n190 Try.prog arV:={
 mixed:=by kernel_rfl
 f125:=Try.func55.trans (congrArg some (by kernel_rfl))
 f128:=Try.func66.trans (congrArg some (by kernel_rfl))
 f129:=Try.func67.trans (congrArg some (by kernel_rfl))
 f190:=Try.func51.trans (congrArg some (by kernel_rfl))
 f258:=Try.func54.trans (congrArg some (by kernel_rfl))
 f302:=Try.func57.trans (congrArg some (by kernel_rfl))
 f303:=Try.func58.trans (congrArg some (by kernel_rfl))
 f304:=Try.func59.trans (congrArg some (by kernel_rfl))
 f305:=Try.func60.trans (congrArg some (by kernel_rfl))
 f306:=Try.func61.trans (congrArg some (by kernel_rfl))
 f307:=Try.func62.trans (congrArg some (by kernel_rfl))
 f308:=Try.func63.trans (congrArg some (by kernel_rfl))
 f309:=Try.func64.trans (congrArg some (by kernel_rfl))
 f310:=Try.func65.trans (congrArg some (by kernel_rfl))
 f329:=Try.func70.trans (congrArg some (by kernel_rfl))
 f330:=Try.func71.trans (congrArg some (by kernel_rfl))
 f333:=Try.func69.trans (congrArg some (by kernel_rfl))
 f334:=Try.func72.trans (congrArg some (by kernel_rfl))
 f335:=Try.func73.trans (congrArg some (by kernel_rfl))
 f336:=Try.func74.trans (congrArg some (by kernel_rfl))
 f344:=Try.func76.trans (congrArg some (by kernel_rfl))
 t0:=Try.underlying0
 a0:=Try.isAgg0
 z0:=Try.sizeOf0
 v0:=Try.zeroValue0
 t3:=Try.underlying3
 a3:=Try.isAgg3
 z3:=Try.sizeOf3
 v3:=Try.zeroValue3
 t4:=Try.underlying4
 a4:=Try.isAgg4
 z4:=Try.sizeOf4
 v4:=Try.zeroValue4
 t5:=Try.underlying5
 a5:=Try.isAgg5
 z5:=Try.sizeOf5
 v5:=Try.zeroValue5
 t9:=Try.underlying9
 a9:=Try.isAgg9
 z9:=Try.sizeOf9
 v9:=Try.zeroValue9
 t31:=Try.underlying30
 a31:=Try.isAgg30
 z31:=Try.sizeOf30
 v31:=Try.zeroValue30
 t46:=Try.underlying78
 a46:=Try.isAgg78
 z46:=Try.sizeOf78
 v46:=Try.zeroValue78
 t51:=Try.underlying89
 a51:=Try.isAgg89
 z51:=Try.sizeOf89
 v51:=Try.zeroValue89
 t53:=Try.underlying91
 a53:=Try.isAgg91
 z53:=Try.sizeOf91
 v53:=Try.zeroValue91
 t131:=Try.underlying86
 a131:=Try.isAgg86
 z131:=Try.sizeOf86
 v131:=Try.zeroValue86
 t182:=Try.underlying80
 a182:=Try.isAgg80
 z182:=Try.sizeOf80
 v182:=Try.zeroValue80
 t183:=Try.underlying81
 a183:=Try.isAgg81
 z183:=Try.sizeOf81
 v183:=Try.zeroValue81
 t218:=Try.underlying92
 a218:=Try.isAgg92
 z218:=Try.sizeOf92
 v218:=Try.zeroValue92
 t222:=Try.underlying96
 a222:=Try.isAgg96
 z222:=Try.sizeOf96
 v222:=Try.zeroValue96
 t228:=Try.underlying99
 a228:=Try.isAgg99
 z228:=Try.sizeOf99
 v228:=Try.zeroValue99
 t229:=Try.underlying100
 a229:=Try.isAgg100
 z229:=Try.sizeOf100
 v229:=Try.zeroValue100 }
end Go.VM
namespace Go.RM
open Go.VM (T yJ tI Pt Fr RepT Fun noHeap lW tq k6)
open Go Go.Proofs Go.Proofs.Ytjdjjcebbjjlkaa Go.Shelf Go.Sort Go.RowKit
theorem TY (b:ByteArray):encStr b.data.toList = .string b:=by simp [encStr]
theorem aeV (ss:List ByteArray):(ss.map (·.data.toList)).mergeSort (fun x y=>decide (x≤y)) = (mX ss).map (·.data.toList):=by
  have key:((ss.map (·.data.toList)).mergeSort (fun x y=>decide (x≤y))).map (fun l:List UInt8=>(⟨l.toArray⟩ : ByteArray)) = mX ss:=by
    refine Gq ?_ ?_ (JV ss)
    · have h1:=(List.mergeSort_perm (ss.map (·.data.toList)) (fun x y:List UInt8=>decide (x≤y))).map (fun l:List UInt8=>(⟨l.toArray⟩ : ByteArray))
      rw [List.map_map] at h1
      have h2:ss.map ((fun l:List UInt8=>(⟨l.toArray⟩ : ByteArray)) ∘ (·.data.toList)) = ss:=by
        conv=>rhs; rw [← List.map_id ss]
        exact List.map_congr_left fun x _=>by simp
      rw [h2] at h1
      exact h1.trans (List.mergeSort_perm ss leS).symm
    · rw [List.pairwise_map]
      exact (List.pairwise_mergeSort (le:=fun x y:List UInt8=>decide (x≤y)) (fun a b c h1 h2=>D3 _ _ _ h1 h2) (fun a b=>E9 _ _) _).imp fun h=>by unfold leS; simpa using h
  rw [← key,List.map_map]
  conv=>lhs; rw [← List.map_id ((ss.map (·.data.toList)).mergeSort (fun x y=>decide (x≤y)))]
  exact List.map_congr_left fun x _=>by simp
section
variable {α:Type} [Inhabited α] {enc:α→Value}
theorem aRK {w:World} {q off n:Nat} {d:Array α} {os:Array Obj} {cur:Array Value} {e:TypeId} {fr:Nat × Nat} (hb:w.heap[q]? = some (.cells cur e fr)) :
    (grow (putRow enc (Sort.ahead w n) q off d) os).heap[q]? = some (.cells (putCells enc off d cur) e fr):=by
  have hg:q < w.heap.size:=(gw.1 hb).1
  rw [heap_grow_old _ _ (by simpa using hg)]
  simp [putRow,mapBlock,Sort.ahead,Array.getElem?_modify,hb,onCells]
theorem aYJ {w:World} {q off n:Nat} {d:Array α} {os:Array Obj} {mine:Nat→Prop} (hm:mine q):Fr w (grow (putRow enc (Sort.ahead w n) q off d) os) mine:=by
  refine ⟨rfl,rfl,rfl,by simp [grow,putRow,mapBlock,Sort.ahead],fun k hk hne=>?_⟩
  rw [heap_grow_old _ _ (by simpa using hk)]
  have:q ≠ k:=fun e=>hne (by rw [← e]; exact hm)
  simp [putRow,mapBlock,Sort.ahead,Array.getElem?_modify,this]
theorem aQQ {w:World} {b:Nat} {arr:Array Value} {e:TypeId} {fr:Nat × Nat} (h:w.heap[b]? = some (.cells arr e fr)) (i:Nat):w.cell? ⟨b,i,none⟩ = arr[i]?:=by
  simp [World.cell?,h]
end
set_option maxHeartbeats 1000000 in
theorem anq {ss:List ByteArray} (hll:ss.length≤1000000) {w0 w:World} {s:S} {g h2:Hp} {φ:Ren} {vs:List Value} {m:Nat} (hm:s.h.get m = some (.cells d4 (ss.map rz))) (rm:h2 m = g m) (hi:Inv g s) (R:Rel w0 φ (dX h2 s) w) (hv:Pt (RepV φ) vs [.c (.sl m 1 0 ss.length)]) :
    Calls Try.prog 51 vs.toArray w fun e w'=>∃ v,e = .returned v∧∃ φ',φ.le φ'∧Rel w0 φ' (dX h2 (l6 s m (.cells d4 ((mX ss).map rz)))) w'∧RepV φ' v (.tup []):=by
  obtain ⟨v,rfl⟩ : ∃ v,vs = [v]:=by
    have:=hv.1
    match vs,this with
    | [v],_=>exact ⟨v,rfl⟩
  have hv0:RepX φ v (.sl m 1 0 ss.length):=hv.2 0 v _ rfl rfl
  have gm:=(eQ hi rm).trans hm
  obtain ⟨b,β,lim,arr,a1,a2,a3,a4,a5⟩:=R.rep m _ gm
  have lb:=(gw.1 a2).1
  have hsl:(mX ss).length = ss.length:=List.length_mergeSort _
  have hov:dX h2 (l6 s m (.cells d4 ((mX ss).map rz))) = upd (dX h2 s) m (.cells d4 ((mX ss).map rz)):=V5
  rw [hov]
  have hni:∀ p m' size seen,dX h2 s p = some (.iter m' size seen)→m' = m→p ≠ m→(∃ kd es,O.cells d4 ((mX ss).map rz) = .map kd true es)∧∀ b,blk φ m b→True:=fun p m' size seen hp he _=>by
    obtain ⟨kd,es,h⟩:=R.iters p m' size seen hp
    subst he
    rw [gm] at h; cases h
  cases hv0 with
  | sl _ _ _ _ b' β' lim' o cap g1 g2 g3 g4 =>
  rw [a1] at g1
  cases g1
  by_cases h0:ss = []
  · subst h0
    have:=Any.slices_Sort_string_none Go.VM.flSort (some ⟨b,o,none⟩) cap w
    change Calls Try.prog 51 _ _ _ at this
    refine this.mono fun e w' ⟨he,hw⟩=>?_
    subst hw
    refine ⟨_,he,φ,Ren.le_refl φ,?_,⟨#[],rfl,Go.VM.Pt.nil⟩⟩
    have hs0:(mX []).map rz = []:=by simp [mX]
    rw [hs0]
    refine R.put gm rfl (Fr.refl _ _) ⟨b,β,lim,arr,a1,a2,a3,a4,fun j x hx=>by simp at hx⟩ (fun p m' size seen hp he _=>?_) (fun m' size seen he=>by cases he)
    obtain ⟨kd,es,h⟩:=R.iters p m' size seen hp
    subst he
    rw [gm] at h; cases h
  · have hpos:0 < ss.length:=List.length_pos_iff.2 h0
    have ho:=(g3 hpos).symm
    simp only [Nat.add_zero] at ho
    subst ho
    have hH:Holds encStr w b β (ss.map (·.data.toList)).toArray:=by
      intro j hj
      have hj':j < ss.length:=by simpa using hj
      obtain ⟨u,hu,hr⟩:=a5 j (rz ss[j]) (by rw [ow,bk hj']; rfl)
      cases hr
      refine ⟨?_,by simp [World.frozen?,a2]⟩
      rw [aQQ a2,hu]
      simp [hj',TY]
    have cS:=Any.slices_Sort_string Go.VM.flSort b β cap (ss.map (·.data.toList)) w hH lb (by rw [jw]; omega)
    change Calls Try.prog 51 _ _ _ at cS
    rw [jw,aeV] at cS
    refine cS.mono ?_
    rintro e w' ⟨rfl,nn,os,rfl⟩
    refine ⟨_,rfl,φ,Ren.le_refl φ,?_,⟨#[],rfl,Go.VM.Pt.nil⟩⟩
    refine R.put gm rfl (aYJ ⟨_,_,a1⟩) ⟨b,β,lim,_,a1,aRK a2,by simp [putCells,a3],by rw [jw,hsl]; rw [jw] at a4; exact a4,fun j x hx=>?_⟩ (fun p m' size seen hp he _=>?_) (fun m' size seen he=>by cases he)
    · rw [ow] at hx
      obtain ⟨t,ht,rfl⟩:=aw.1 hx
      have hjl:j < (mX ss).length:=(bw.1 ht).1
      have hlt:β + j < arr.size:=by rw [jw] at a4; omega
      refine ⟨.string t,?_,.sc _ rfl⟩
      simp only [putCells,Array.getElem?_mapIdx,Array.getElem?_eq_getElem hlt,jk]
      have h1:β≤β + j∧β + j < β + ((mX ss).map (·.data.toList)).toArray.size:=by simp; omega
      rw [if_pos h1]
      congr 1
      have h3:β + j - β = j:=by omega
      rw [h3]
      simp [getElem!_def,ht,TY]
    · obtain ⟨kd,es,h⟩:=R.iters p m' size seen hp
      subst he
      rw [gm] at h; cases h
theorem anZ:∀ {a b:List ByteArray},a.map rz = b.map rz→a = b
  | [],[],_=>rfl
  | [],b :: l,h=>by simp at h
  | a :: l,[],h=>by simp at h
  | a :: l,b :: l',h=>by
    rw [nk,nk,List.cons.injEq] at h
    obtain ⟨h1,h2⟩:=h
    simp only [rz,X.sc.injEq,Value.string.injEq] at h1
    rw [h1,anZ h2]
def SSA (args:List V) (s:S) (q:Nat × List ByteArray):Prop:=args = [.c (.sl q.1 1 0 q.2.length)]∧s.h.get q.1 = some (.cells d4 (q.2.map rz))∧q.2.length≤1000000
theorem SSA.uniq {args:List V} {s:S} {q q':Nat × List ByteArray} (h:SSA args s q) (h':SSA args s q'):q' = q:=by
  obtain ⟨m,ss⟩:=q
  obtain ⟨m',ss'⟩:=q'
  have e:=h.1.symm.trans h'.1
  simp only [List.cons.injEq,V.c.injEq,X.sl.injEq,and_true,true_and] at e
  obtain ⟨rfl,_⟩:=e
  have e2:=h.2.1.symm.trans h'.2.1
  simp only [cw,O.cells.injEq,true_and] at e2
  rw [anZ e2]
open Classical in
noncomputable def wX (base:cV):cV:=fun f args s =>
  if f = eV then
    (if args = [.c (.sc gK)] then some ([(.tup [],s)],0)
     else if h:∃ q,SSA args s q then some ([(.tup [],l6 s h.choose.1 (.cells d4 ((mX h.choose.2).map rz)))],bit h.choose.1) else none)
  else base f args s
theorem aPJ {g:Hp} {s:S} {n:Nat} {o:O} (h:Inv g s):Inv g (l6 s n o):=fun k hk=>by
  simp only [l6] at hk
  have h1:s.w.testBit k = false∧(bit n).testBit k = false:=by
    have:(Nat.lor s.w (bit n)).testBit k = (s.w.testBit k || (bit n).testBit k):=Nat.testBit_or ..
    rw [this,Bool.or_eq_false_iff] at hk; exact hk
  have hne:k ≠ n:=fun e=>by rw [q6,e] at h1; simp at h1
  rw [(zx s n o).keep k hne]; exact h k h1.1
section
variable {base:cV}
theorem TJ (hb:nX base):nX (wX base):=by
  intro f args s outs r h g hi p hp
  unfold wX at h
  split at h
  · split at h
    · cases h; rw [dk.1 hp]; exact hi
    · split at h
      · cases h; rw [dk.1 hp]; exact aPJ hi
      · cases h
  · exact hb f args s outs r h g hi p hp
theorem Vz (ho:∀ w0,wx Try.prog w0 base):∀ w0,wx Try.prog w0 (wX base):=by
  intro w0 f args s outs rr h
  unfold wX at h
  split at h
  · rename_i hf
    subst hf
    split at h
    · rename_i ha
      subst ha
      cases h
      refine ⟨⟨_,Try.func51,by kernel_rfl,by kernel_rfl⟩,fun g h2 φ w vs hr hi R hv=>?_⟩
      obtain ⟨v,rfl⟩ : ∃ v,vs = [v]:=by
        have:=hv.1
        match vs,this with
        | [v],_=>exact ⟨v,rfl⟩
      have hv0:RepX φ v (.sc gK):=hv.2 0 v _ rfl rfl
      cases hv0 with
      | sc _ _ =>
      have:=Any.slices_Sort_string_none Go.VM.flSort none 0 w
      change Calls Try.prog 51 _ _ _ at this
      refine this.mono fun e w' ⟨he,hw⟩=>?_
      subst hw
      exact ⟨_,he,_,dk.2 rfl,φ,Ren.le_refl φ,R,⟨#[],rfl,Go.VM.Pt.nil⟩⟩
    · split at h
      · rename_i hq
        have hs:=hq.choose_spec
        generalize hq.choose = q at hs h
        cases h
        obtain ⟨rfl,hm,hlen⟩:=hs
        refine ⟨⟨_,Try.func51,by kernel_rfl,by kernel_rfl⟩,fun g h2 φ w vs hr hi R hv=>?_⟩
        refine (anq hlen hm (hr _ (by rw [q6]; simp)) hi R hv).mono fun e w' ⟨v,he,φ',h1,h3,h4⟩=>?_
        exact ⟨v,he,_,dk.2 rfl,φ',h1,h3,h4⟩
      · cases h
  · exact ho w0 f args s outs rr h
theorem P4:OZ (wX base):=by
  constructor
  · intro s
    refine Q6 (outs:=[(.tup [],s)]) (r:=0) rfl ?_ iY (fun _=>⟨_,rfl⟩) fun p hp=>?_
    · unfold wX
      rw [if_pos rfl,if_pos rfl]
    · rw [dk.1 hp]; exact ⟨rfl,rfl⟩
  · intro b s m ss hS hm bm hlen
    have hSA:SSA [.c (.sl m 1 0 ss.length)] s (m,ss):=⟨rfl,hm,hlen⟩
    refine Q6 (outs:=[(.tup [],l6 s m (.cells d4 ((mX ss).map rz)))]) (r:=bit m) rfl ?_ (fun k hk=>by rw [cQ k hk]; exact bm) (fun _=>⟨_,rfl⟩) fun p hp=>?_
    · unfold wX
      have hq:∃ q,SSA [.c (.sl m 1 0 ss.length)] s q:=⟨_,hSA⟩
      rw [if_pos rfl,if_neg (by simp [gK]),dif_pos hq,hSA.uniq hq.choose_spec]
    · rw [dk.1 hp]
      exact ⟨rfl,hS.put bm (hS.lt hm) _,rfl,(zx s _ _).self,fun k hk=>(zx s _ _).keep k hk⟩
theorem Ax {f:FuncId} (h:f ≠ eV) (args:List V) (s:S):wX base f args s = base f args s:=by
  unfold wX
  rw [if_neg h]
end
end Go.RM
namespace Go.RM
open Go.VM (T yJ tI Pt Fr RepT Fun noHeap lW tq k6)
open Go Go.Proofs Go.Proofs.Ytjdjjcebbjjlkaa
theorem XJ (l:List N5):gz l = ((l.map tN5).flatten).map imX:=by
  unfold gz
  induction l with
  | nil=>rfl
  | cons a l ih=>rw [nk,List.flatten_cons,ih,nk,List.flatten_cons,vk]; rfl
theorem aWV (l:List N5):∀ t∈(l.map tN5).flatten,∃ v,t = .sc v:=by
  intro t ht
  obtain ⟨r,hr,ht⟩:=List.mem_flatten.1 ht
  obtain ⟨n,_,rfl⟩:=qk.1 hr
  simp only [tN5,iw,List.not_mem_nil,or_false] at ht
  rcases ht with rfl | rfl | rfl | rfl | rfl <;> exact ⟨_,rfl⟩
theorem Wq {h:Hp} {fresh:Bool} {n:Nat} {e:TypeId} {l:List N5} (hn:h n = some (.cells e (gz l))):TreeX h fresh (.sl n 5 0 l.length) (.sl 5 (l.map tN5)):=by
  have hl:(l.map tN5).length = l.length:=jw _
  have:=TreeX.sl (h:=h) (fresh:=fresh) n 5 0 (l.map tN5) e (gz l) (gz l) hn ?_ ?_ ?_ ?_
  · rw [hl] at this; exact this
  · rw [hl]; exact aWY (nY l)
  · intro row hr
    obtain ⟨z,_,rfl⟩:=qk.1 hr
    rfl
  · rw [XJ,jw]
  · intro j x t hx ht
    rw [XJ,ow,ht] at hx
    cases hx
    obtain ⟨v,rfl⟩:=aWV l t (fw ht)
    exact TreeX.sc _
theorem anY {h:Hp} {fresh:Bool} {x:X} {l:List N5} {n:Nat} {e:TypeId} (hr:RowK h e 5 x (gz l) l.length n):TreeX h fresh x (.sl 5 (l.map tN5)):=by
  obtain ⟨_,⟨rfl,h0⟩ | ⟨rfl,h1⟩⟩:=hr
  · have:l = []:=fk h0
    subst this
    exact TreeX.nil 5
  · exact Wq h1
theorem axx:∀ {a b:List N5},a.map tN5 = b.map tN5→a = b
  | [],[],_=>rfl
  | [],b :: l,h=>by simp at h
  | a :: l,[],h=>by simp at h
  | (a1,a2,a3,a4,a5) :: l,(b1,b2,b3,b4,b5) :: l',h=>by
    rw [nk,nk,List.cons.injEq] at h
    obtain ⟨h1,h2⟩:=h
    simp only [tN5,tI,List.cons.injEq,T.sc.injEq,Value.int.injEq,Value.string.injEq,true_and,and_true] at h1
    obtain ⟨rfl,rfl,rfl,rfl,rfl⟩:=h1
    rw [axx h2]
theorem Z5:∀ {a b:List N5},gz a = gz b→a = b
  | [],[],_=>rfl
  | [],b :: l,h=>by have:=congrArg List.length h; rw [nY,nY] at this; simp at this
  | a :: l,[],h=>by have:=congrArg List.length h; rw [nY,nY] at this; simp at this
  | (a1,a2,a3,a4,a5) :: l,(b1,b2,b3,b4,b5) :: l',h=>by
    have e:∀ (n:N5) (l:List N5),gz (n :: l) = akQ n++gz l:=fun n l=>rfl
    rw [e,e] at h
    have h2:=List.append_inj h rfl
    obtain ⟨h1,h2⟩:=h2
    simp only [akQ,List.cons.injEq,X.sc.injEq,Value.int.injEq,Value.string.injEq,true_and,and_true] at h1
    obtain ⟨rfl,rfl,rfl,rfl,rfl⟩:=h1
    rw [Z5 h2]
structure aqV (chk:List N5→Option Int) (sm:List (List T)) (sc:Option Int):Prop where
  chk:∀ l r,chk l = some r→Fun Try.prog 14 true [] [.c (.imm (.sl 5 (l.map tN5)))] noHeap (.c (.imm (tI r))) noHeap
  smp:∀ e,sc = some e→Fun Try.prog 26 true [] [.c (.imm (.sl 4 sm))] noHeap (.c (.imm (tI e))) noHeap
open Classical in
noncomputable def K50 (chk:List N5→Option Int) (sm:List (List T)) (sc:Option Int):FuncId→List V→S→Option (V × Nat):=fun f args s =>
  if f = wJ then (if args = [.c (.im 4 sm)] then sc.map fun e=>(iV e,0) else none)
  else if f = pV then
    (if args = [.c (.sc gK)] then (chk []).map fun e=>(iV e,0)
     else if h:∃ l:List N5,args = [.c (.im 5 (l.map tN5))] then (chk h.choose).map fun e=>(iV e,0)
     else if h:∃ q:Nat × List N5,args = [.c (.sl q.1 5 0 q.2.length)]∧s.h.get q.1 = some (.cells b9 (gz q.2)) then (chk h.choose.2).map fun e=>(iV e,bit h.choose.1)
     else none)
  else none
section
variable {chk:List N5→Option Int} {sm:List (List T)} {sc:Option Int}
theorem abY (hB:aqV chk sm sc) (f:FuncId) (args:List V) (s:S) (res:V) (mask:Nat) (h:K50 chk sm sc f args s = some (res,mask)):acx Try.prog f args s mask res:=by
  unfold K50 at h
  split at h
  · rename_i hf
    subst hf
    split at h
    · rename_i ha
      subst ha
      obtain ⟨e,he,h⟩:=aw.1 h
      cases h
      exact ⟨⟨_,Try.func26,by kernel_rfl,by kernel_rfl⟩,_,_,true,Go.VM.Pt.cons (show TreeV _ false (V.c (.im 4 sm)) (Go.VM.V.c (.imm (.sl 4 sm))) from TreeX.im _ _ rfl) Go.VM.Pt.nil,hB.smp e he,rfl⟩
    · cases h
  · split at h
    · rename_i hf
      subst hf
      have fn : ∃ fn, Try.prog.funcs[pV]? = some fn ∧ fn.body.isSome = true ∧ (fn.name == "runtime.NumGoroutine") = false := ⟨_, Try.func14, by kernel_rfl, by kernel_rfl⟩
      split at h
      · rename_i ha
        subst ha
        obtain ⟨e,he,h⟩:=aw.1 h
        cases h
        exact ⟨fn,_,_,true,Go.VM.Pt.cons (show TreeV _ false (V.c (.sc gK)) (Go.VM.V.c (.imm (.sl 5 (([]:List N5).map tN5)))) from TreeX.nil 5) Go.VM.Pt.nil,hB.chk [] e he,rfl⟩
      · split at h
        · rename_i hq
          have hs:=hq.choose_spec
          generalize hq.choose = l at hs h
          subst hs
          obtain ⟨e,he,h⟩:=aw.1 h
          cases h
          exact ⟨fn,_,_,true,Go.VM.Pt.cons (show TreeV _ false (V.c (.im 5 (l.map tN5))) (Go.VM.V.c (.imm (.sl 5 (l.map tN5)))) from TreeX.im _ _ rfl) Go.VM.Pt.nil,hB.chk l e he,rfl⟩
        · split at h
          · rename_i hq
            have hs:=hq.choose_spec
            generalize hq.choose = q at hs h
            obtain ⟨rfl,hm⟩:=hs
            obtain ⟨e,he,h⟩:=aw.1 h
            cases h
            refine ⟨fn,_,_,true,Go.VM.Pt.cons (show TreeV _ false (V.c (.sl q.1 5 0 q.2.length)) (Go.VM.V.c (.imm (.sl 5 (q.2.map tN5)))) from Wq (e:=b9) ?_) Go.VM.Pt.nil,hB.chk q.2 e he,rfl⟩
            have:(bit q.1).testBit q.1 = true:=by rw [q6]; simp
            simp only [this,cond_true]
            exact hm
          · cases h
    · cases h
theorem axV:awJ (wX (S3 (K50 chk sm sc))) chk:=by
  constructor
  · intro s x l n r hrow hc
    obtain ⟨_,⟨rfl,h0⟩ | ⟨rfl,hm⟩⟩:=hrow
    · have:l = []:=fk h0
      subst this
      refine Q6 (outs:=[(iV r,s)]) (r:=0) rfl ?_ iY (fun _=>⟨_,rfl⟩) fun p hp=>by rw [dk.1 hp]; exact ⟨rfl,rfl⟩
      rw [Ax (by decide)]
      unfold S3 K50
      rw [if_neg (by decide),if_pos rfl,if_pos rfl,hc]
      rfl
    · refine Q6 (outs:=[(iV r,s)]) (r:=bit n) rfl ?_ (fun k hk=>⟨cQ k hk,by simp [gK]⟩) (fun _=>⟨_,rfl⟩) fun p hp=>by rw [dk.1 hp]; exact ⟨rfl,rfl⟩
      rw [Ax (by decide)]
      have hq:∃ q:Nat × List N5,[V.c (.sl n 5 0 l.length)] = [.c (.sl q.1 5 0 q.2.length)]∧s.h.get q.1 = some (.cells b9 (gz q.2)):=⟨(n,l),rfl,hm⟩
      have hs:=hq.choose_spec
      unfold S3 K50
      rw [if_neg (by decide),if_pos rfl,if_neg (by simp [gK]),dif_neg (by rintro ⟨l',h⟩; simp at h),dif_pos hq]
      generalize hq.choose = q at hs
      obtain ⟨m',l'⟩:=q
      obtain ⟨h1,h2⟩:=hs
      simp only [List.cons.injEq,V.c.injEq,X.sl.injEq,and_true,true_and] at h1
      obtain ⟨rfl,_⟩:=h1
      have e2:=hm.symm.trans h2
      simp only [cw,O.cells.injEq,true_and] at e2
      have:=Z5 e2
      subst this
      simp only [hc]
      rfl
  · intro s l r hc
    refine Q6 (outs:=[(iV r,s)]) (r:=0) rfl ?_ iY (fun _=>⟨_,rfl⟩) fun p hp=>by rw [dk.1 hp]; exact ⟨rfl,rfl⟩
    rw [Ax (by decide)]
    have hq:∃ l':List N5,[V.c (.im 5 (l.map tN5))] = [.c (.im 5 (l'.map tN5))]:=⟨l,rfl⟩
    have hs:=hq.choose_spec
    unfold S3 K50
    rw [if_neg (by decide),if_pos rfl,if_neg (by simp),dif_pos hq]
    generalize hq.choose = l' at hs
    simp only [List.cons.injEq,V.c.injEq,X.im.injEq,and_true,true_and] at hs
    have:=axx hs
    subst this
    rw [hc]
    rfl
theorem aQz {e:Int} (hs:sc = some e) (s:S):Cp (wX (S3 (K50 chk sm sc))) PV wJ [.c (.im 4 sm)] s (fun _=>False) True fun v s'=>s = s'∧v = iV e:=by
  refine Q6 (outs:=[(iV e,s)]) (r:=0) rfl ?_ iY (fun _=>⟨_,rfl⟩) fun p hp=>by rw [dk.1 hp]; exact ⟨rfl,rfl⟩
  rw [Ax (by decide)]
  unfold S3 K50
  rw [if_pos rfl,if_pos rfl,hs]
  rfl
end
def zY (ar:Ar):Bool:=ar.all fun t=>decide ((t.kids.getD []).map (·.1)).Nodup
theorem apQ {ar:Ar} (h:zY ar = true):y9 ar:=fun i t ht=>by
  unfold zY at h
  rw [List.all_eq_true] at h
  exact of_decide_eq_true (h t (fw ht))
def ofSamplesF (chk:List N5→Option Int) (sc:Option Int) (sm:List Smp):Option (List N5 × Int) :=
  sc.bind fun e=>bif decide (sm.length≤1000000) then (bif decide (e = 0) then (sm.foldlM Hz ar0).bind fun ar=>bif zY ar then t8 chk ar else none else some ([],e)) else none
def mergeF (chk:List N5→Option Int) (la lb:List N5):Option (List N5 × Int):=(sx chk [la,lb] ar0).bind fun r=>match r with
  | .inl e=>some ([],e)
  | .inr ar=>bif zY ar then t8 chk ar else none
theorem sb0:Sb 0 s0:=⟨gk _,fun _ _=>rfl,fun k h=>by simp [s0] at h⟩
theorem ofSamplesF_fun {chk:List N5→Option Int} {sc:Option Int} {sm:List Smp} (hB:aqV chk (sm.map tSmp) sc) {r:List N5 × Int} (h:ofSamplesF chk sc sm = some r) (fresh:Bool) :
    Fun Try.prog vY fresh [] [.c (.imm (.sl 4 (sm.map tSmp)))] noHeap (.tup [.c (.imm (.sl 5 (r.1.map tN5))),.c (.imm (tI r.2))]) noHeap:=by
  unfold ofSamplesF at h
  obtain ⟨e,he,h⟩:=ak.1 h
  cases hc:decide (sm.length≤1000000) with
  | false=>rw [hc] at h; cases h
  | true =>
  rw [hc] at h
  simp only [cond_true] at h
  have hres:(e ≠ 0∧r.1 = []∧r.2 = e)∨(e = 0∧∃ ar,sm.foldlM Hz ar0 = some ar∧y9 ar∧t8 chk ar = some (r.1,r.2)):=by
    by_cases e0:e = 0
    · subst e0
      simp only [decide_true,cond_true] at h
      obtain ⟨ar,h1,h2⟩:=ak.1 h
      cases hk:zY ar with
      | false=>rw [hk] at h2; cases h2
      | true=>rw [hk] at h2; exact .inr ⟨rfl,ar,h1,apQ hk,h2⟩
    · rw [decide_eq_false e0] at h
      cases h
      exact .inl ⟨e0,rfl,rfl⟩
  refine aaW avj (Vz (akV (abY hB))) (TJ (acZ _)) (us:=[.c (.im 4 (sm.map tSmp))]) rfl (ahZ P4 axV sb0 (of_decide_eq_true hc) (fun s=>aQz he s) hres) fun v s hv=>?_
  obtain ⟨x,n,rfl,hrow⟩:=hv
  exact Pt.cons (show TreeS _ fresh (V.c x) _ from anY hrow) (Pt.cons (TreeX.sc _) Pt.nil)
theorem mergeF_fun {chk:List N5→Option Int} {la lb:List N5} (hB:aqV chk [] none) {r:List N5 × Int} (h:mergeF chk la lb = some r) (fresh:Bool) :
    Fun Try.prog D1 fresh [] [.c (.imm (.sl 5 (la.map tN5))),.c (.imm (.sl 5 (lb.map tN5)))] noHeap (.tup [.c (.imm (.sl 5 (r.1.map tN5))),.c (.imm (tI r.2))]) noHeap:=by
  unfold mergeF at h
  obtain ⟨q,hq,h⟩:=ak.1 h
  have hres:(r.1 = []∧sx chk [la,lb] ar0 = some (.inl r.2))∨∃ ar,sx chk [la,lb] ar0 = some (.inr ar)∧y9 ar∧t8 chk ar = some (r.1,r.2):=by
    split at h
    · cases h; exact .inl ⟨rfl,hq⟩
    · rename_i ar
      cases hk:zY ar with
      | false=>rw [hk] at h; cases h
      | true=>rw [hk] at h; exact .inr ⟨ar,hq,apQ hk,h⟩
  refine aaW avj (Vz (akV (abY hB))) (TJ (acZ _)) (us:=[.c (.im 5 (la.map tN5)),.c (.im 5 (lb.map tN5))]) rfl (aHQ P4 axV sb0 hres) fun v s hv=>?_
  obtain ⟨x,n,rfl,hrow⟩:=hv
  exact Pt.cons (show TreeS _ fresh (V.c x) _ from anY hrow) (Pt.cons (TreeX.sc _) Pt.nil)
end Go.RM
