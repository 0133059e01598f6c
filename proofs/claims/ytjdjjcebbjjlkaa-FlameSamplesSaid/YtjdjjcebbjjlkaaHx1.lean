/- The functions of the layer, walked by symbols in the raw machine, and their contracts. -/
import Derived.Test.YtjdjjcebbjjlkaaRm2
import Derived.Test.YtjdjjcebbjjlkaaRows
import Derived.KernelRfl
import Derived.Shelf.Sort.Plain
import Derived.Shelf.Slices.In.SortNone
import Derived.Shelf.Slices.In.SortNone2
import Derived.Lib.OwnBridge
namespace Go.RM
open Go.Proofs Go.Proofs.Ytjdjjcebbjjlkaa
def tX:Nat:=10
def p5:Nat:=27
def nY:Nat:=28
def o7:Nat:=42
def W8:Nat:=22
def OJ:Nat:=38
def l7:Nat:=50
def uQ:Nat:=26
def oJ:Nat:=14
def d8:Nat:=51
def eK:Nat:=53
def R4:Nat:=32
def fQ:Nat:=9
def b7:Nat:=40
def anV:Nat:=25
def nJ:RF:=⟨.seq (.region none [(⟨(some 2),.mv (.con (.c (.sc (.slice none 0 0)))),none⟩,0),(⟨(some 3),.mv (.con (.c (.sc (.int .i64 0)))),none⟩,0)]) (.seq (.seq (.region none [(⟨(some 8),.mv (.tmp 0),none⟩,1),(⟨(some 9),.call uQ [(.tmp 8)],none⟩,256),(⟨(some 4),.mv (.tmp 9),none⟩,512)]) (.seq (.region none [(⟨(some 10),.mv (.tmp 4),none⟩,16),(⟨(some 11),.bin .neq (.tmp 10) (.con (.c (.sc (.int .i64 0)))),none⟩,1024)]) (.cond (.tmp 11) (.seq (.region none [(⟨(some 12),.mv (.tmp 4),none⟩,16),(⟨(some 2),.mv (.con (.c (.sc (.slice none 0 0)))),none⟩,0),(⟨(some 3),.mv (.tmp 12),none⟩,4096)]) (.ret)) (.skip)))) (.seq (.region none [(⟨(some 13),.build [(.sc (.int .i64 0)),(.sc (.int .i64 0)),(.sc (.map none))] [],none⟩,0),(⟨(some 14),.box eK (.tmp 13),none⟩,8192),(⟨(some 5),.mv (.tmp 14),none⟩,16384)]) (.seq (.seq (.region none [(⟨(some 15),.mv (.tmp 0),none⟩,1),(⟨(some 16),.lenS (.tmp 15),none⟩,32768),(⟨(some 17),.mv (.con (.c (.sc (.int .i64 0)))),none⟩,0)]) (.block 0 (.loop (.seq (.region none [(⟨(some 18),.bin .lss (.tmp 17) (.tmp 16),none⟩,196608)]) (.seq (.cond (.tmp 18) (.skip) (.exit 0)) (.seq (.block 1 (.seq (.region none [(⟨(some 19),.ixA 4 (.tmp 15) (.tmp 17),none⟩,163840),(⟨(some 20),.load 4 true (.tmp 19),none⟩,524288),(⟨(some 7),.alloc R4 [(.sc (.int .i64 0)),(.sc (.int .i64 0)),(.sc (.int .i64 0)),(.sc (.slice none 0 0))],none⟩,0),(⟨none,.store 4 (.tmp 7) (.tmp 20),none⟩,1048704)]) (.seq (.region none [(⟨(some 21),.fld 3 (.tmp 7),none⟩,128),(⟨(some 22),.load 1 false (.tmp 21),none⟩,2097152),(⟨(some 23),.lenS (.tmp 22),none⟩,4194304),(⟨(some 24),.bin .gtr (.tmp 23) (.con (.c (.sc (.int .i64 0)))),none⟩,8388608)]) (.cond (.tmp 24) (.region none [(⟨(some 25),.mv (.tmp 5),none⟩,32),(⟨(some 26),.fld 3 (.tmp 7),none⟩,128),(⟨(some 27),.load 1 false (.tmp 26),none⟩,67108864),(⟨(some 28),.fld 2 (.tmp 7),none⟩,128),(⟨(some 29),.load 1 false (.tmp 28),none⟩,268435456),(⟨(some 30),.call p5 [(.tmp 25),(.tmp 27),(.tmp 29),(.con (.c (.sc (.int .i64 1))))],none⟩,704643072)]) (.skip))))) (.region none [(⟨(some 31),.bin .add (.tmp 17) (.con (.c (.sc (.int .i64 1)))),none⟩,131072),(⟨(some 17),.mv (.tmp 31),none⟩,2147483648)]))))))) (.seq (.region none [(⟨(some 32),.mv (.tmp 5),none⟩,32),(⟨(some 33),.call nY [(.tmp 32)],none⟩,4294967296),(⟨(some 34),.ext (.tmp 33) 0,none⟩,8589934592),(⟨(some 35),.ext (.tmp 33) 1,none⟩,8589934592),(⟨(some 2),.mv (.tmp 34),none⟩,17179869184),(⟨(some 3),.mv (.tmp 35),none⟩,34359738368)]) (.ret))))),[.tmp 2,.tmp 3]⟩
set_option maxRecDepth 100000 in
theorem F9:iX Try.prog 10 = some nJ∧cQ Try.prog 10 = true:=⟨by kernel_rfl,by kernel_rfl⟩
def o5:RF:=⟨.seq (.seq (.region none [(⟨(some 10),.mv (.tmp 1),none⟩,2),(⟨(some 11),.lenS (.tmp 10),none⟩,1024),(⟨(some 12),.mv (.con (.c (.sc (.int .i64 0)))),none⟩,0)]) (.block 0 (.loop (.seq (.region none [(⟨(some 13),.bin .lss (.tmp 12) (.tmp 11),none⟩,6144)]) (.seq (.cond (.tmp 13) (.skip) (.exit 0)) (.seq (.block 1 (.seq (.region none [(⟨(some 14),.ixA 1 (.tmp 10) (.tmp 12),none⟩,5120),(⟨(some 15),.load 1 false (.tmp 14),none⟩,16384),(⟨(some 9),.mv (.tmp 15),none⟩,32768)]) (.seq (.seq (.region none [(⟨(some 16),.mv (.tmp 0),none⟩,1),(⟨(some 17),.nilc (.tmp 16),none⟩,65536),(⟨(some 18),.fld 2 (.tmp 17),none⟩,131072),(⟨(some 19),.load 1 false (.tmp 18),none⟩,262144),(⟨(some 20),.neq 1 false (.tmp 19) (.con (.c (.sc (.map none)))),none⟩,524288)]) (.cond (.tmp 20) (.region none [(⟨(some 21),.mv (.tmp 0),none⟩,1),(⟨(some 22),.mkmap .string,none⟩,0),(⟨(some 23),.nilc (.tmp 21),none⟩,2097152),(⟨(some 24),.fld 2 (.tmp 23),none⟩,8388608),(⟨none,.store 1 (.tmp 24) (.tmp 22),none⟩,20971520)]) (.skip))) (.seq (.seq (.region none [(⟨(some 25),.mv (.tmp 0),none⟩,1),(⟨(some 26),.nilc (.tmp 25),none⟩,33554432),(⟨(some 27),.fld 2 (.tmp 26),none⟩,67108864),(⟨(some 28),.load 1 false (.tmp 27),none⟩,134217728),(⟨(some 29),.mv (.tmp 9),none⟩,512),(⟨(some 30),.look .string (.c (.sc (.pointer none))) false (.tmp 28) (.tmp 29),none⟩,805306368),(⟨(some 31),.neq 0 false (.tmp 30) (.con (.c (.sc (.pointer none)))),none⟩,1073741824)]) (.cond (.tmp 31) (.region none [(⟨(some 32),.mv (.tmp 0),none⟩,1),(⟨(some 33),.nilc (.tmp 32),none⟩,4294967296),(⟨(some 34),.fld 2 (.tmp 33),none⟩,8589934592),(⟨(some 35),.load 1 false (.tmp 34),none⟩,17179869184),(⟨(some 36),.mv (.tmp 9),none⟩,512),(⟨(some 37),.build [(.sc (.int .i64 0)),(.sc (.int .i64 0)),(.sc (.map none))] [],none⟩,0),(⟨(some 38),.box eK (.tmp 37),none⟩,137438953472),(⟨none,.mupd .string (.tmp 35) (.tmp 36) (.tmp 38),none⟩,377957122048)]) (.skip))) (.region none [(⟨(some 39),.mv (.tmp 0),none⟩,1),(⟨(some 40),.nilc (.tmp 39),none⟩,549755813888),(⟨(some 41),.fld 2 (.tmp 40),none⟩,1099511627776),(⟨(some 42),.load 1 false (.tmp 41),none⟩,2199023255552),(⟨(some 43),.mv (.tmp 9),none⟩,512),(⟨(some 44),.look .string (.c (.sc (.pointer none))) false (.tmp 42) (.tmp 43),none⟩,13194139533312),(⟨(some 0),.mv (.tmp 44),none⟩,17592186044416)]))))) (.region none [(⟨(some 45),.bin .add (.tmp 12) (.con (.c (.sc (.int .i64 1)))),none⟩,4096),(⟨(some 12),.mv (.tmp 45),none⟩,35184372088832)]))))))) (.seq (.region none [(⟨(some 46),.mv (.tmp 0),none⟩,1),(⟨(some 47),.mv (.tmp 0),none⟩,1),(⟨(some 48),.nilc (.tmp 47),none⟩,140737488355328),(⟨(some 49),.fld 0 (.tmp 48),none⟩,281474976710656),(⟨(some 50),.load 1 false (.tmp 49),none⟩,562949953421312),(⟨(some 51),.mv (.tmp 2),none⟩,4),(⟨(some 52),.bin .add (.tmp 50) (.tmp 51),none⟩,3377699720527872),(⟨(some 53),.mm false [(.tmp 52),(.con (.c (.sc (.int .i64 100000000000001))))],none⟩,4503599627370496),(⟨(some 54),.nilc (.tmp 46),none⟩,70368744177664),(⟨(some 55),.fld 0 (.tmp 54),none⟩,18014398509481984),(⟨none,.store 1 (.tmp 55) (.tmp 53),none⟩,45035996273704960)]) (.region none [(⟨(some 56),.mv (.tmp 0),none⟩,1),(⟨(some 57),.mv (.tmp 0),none⟩,1),(⟨(some 58),.nilc (.tmp 57),none⟩,144115188075855872),(⟨(some 59),.fld 1 (.tmp 58),none⟩,288230376151711744),(⟨(some 60),.load 1 false (.tmp 59),none⟩,576460752303423488),(⟨(some 61),.mv (.tmp 3),none⟩,8),(⟨(some 62),.bin .add (.tmp 60) (.tmp 61),none⟩,3458764513820540928),(⟨(some 63),.mm false [(.tmp 62),(.con (.c (.sc (.int .i64 20001))))],none⟩,4611686018427387904),(⟨(some 64),.nilc (.tmp 56),none⟩,72057594037927936),(⟨(some 65),.fld 1 (.tmp 64),none⟩,18446744073709551616),(⟨none,.store 1 (.tmp 65) (.tmp 63),none⟩,46116860184273879040)])),[]⟩
set_option maxRecDepth 100000 in
theorem G4:iX Try.prog 27 = some o5∧cQ Try.prog 27 = true:=⟨by kernel_rfl,by kernel_rfl⟩
def mq:RF:=⟨.seq (.region none [(⟨(some 2),.mv (.con (.c (.sc (.slice none 0 0)))),none⟩,0),(⟨(some 3),.mv (.con (.c (.sc (.int .i64 0)))),none⟩,0)]) (.seq (.region none [(⟨(some 8),.mv (.tmp 0),none⟩,1),(⟨(some 9),.call o7 [(.tmp 8),(.con (.c (.sc (.slice none 0 0)))),(.con (.c (.sc (.int .i64 (-1)))))],none⟩,256),(⟨(some 7),.mv (.tmp 9),none⟩,512),(⟨(some 10),.ext (.tmp 7) 0,none⟩,128),(⟨(some 11),.ext (.tmp 7) 1,none⟩,128),(⟨(some 4),.mv (.tmp 10),none⟩,1024),(⟨(some 5),.mv (.tmp 11),none⟩,2048)]) (.seq (.seq (.region none [(⟨(some 12),.mv (.tmp 4),none⟩,16),(⟨(some 13),.call oJ [(.tmp 12)],none⟩,4096),(⟨(some 6),.mv (.tmp 13),none⟩,8192)]) (.seq (.region none [(⟨(some 14),.mv (.tmp 6),none⟩,64),(⟨(some 15),.bin .neq (.tmp 14) (.con (.c (.sc (.int .i64 0)))),none⟩,16384)]) (.cond (.tmp 15) (.seq (.region none [(⟨(some 16),.mv (.tmp 6),none⟩,64),(⟨(some 2),.mv (.con (.c (.sc (.slice none 0 0)))),none⟩,0),(⟨(some 3),.mv (.tmp 16),none⟩,65536)]) (.ret)) (.skip)))) (.seq (.region none [(⟨(some 17),.mv (.tmp 4),none⟩,16),(⟨(some 2),.mv (.tmp 17),none⟩,131072),(⟨(some 3),.mv (.con (.c (.sc (.int .i64 0)))),none⟩,0)]) (.ret)))),[.tmp 2,.tmp 3]⟩
set_option maxRecDepth 100000 in
theorem Fx:iX Try.prog 28 = some mq∧cQ Try.prog 28 = true:=⟨by kernel_rfl,by kernel_rfl⟩
def nX:RF:=⟨.seq (.region none [(⟨(some 6),.mv (.con (.c (.sc (.slice none 0 0)))),none⟩,0),(⟨(some 7),.mv (.con (.c (.sc (.int .i64 0)))),none⟩,0)]) (.seq (.region none [(⟨(some 8),.mv (.con (.c (.sc (.slice none 0 0)))),none⟩,0)]) (.seq (.seq (.region none [(⟨(some 16),.mv (.tmp 0),none⟩,1),(⟨(some 17),.nilc (.tmp 16),none⟩,65536),(⟨(some 18),.fld 2 (.tmp 17),none⟩,131072),(⟨(some 19),.load 1 false (.tmp 18),none⟩,262144),(⟨(some 20),.rng (.tmp 19),none⟩,524288)]) (.block 0 (.loop (.seq (.region none [(⟨(some 21),.nxt (.tmp 20),none⟩,1048576),(⟨(some 22),.ext (.tmp 21) 0,none⟩,2097152)]) (.seq (.cond (.tmp 22) (.skip) (.exit 0)) (.block 1 (.seq (.region none [(⟨(some 23),.ent (.tmp 20),none⟩,1048576),(⟨(some 24),.ext (.tmp 23) 0,none⟩,8388608),(⟨(some 9),.mv (.tmp 24),none⟩,16777216)]) (.region none [(⟨(some 25),.mv (.tmp 8),none⟩,256),(⟨(some 26),.mv (.tmp 9),none⟩,512),(⟨(some 27),.bsl fQ 1 1 [(.sc (.string ⟨#[]⟩))] [(0,1,(.tmp 26))],none⟩,67108864),(⟨(some 28),.app fQ 1 16 (.tmp 25) (.tmp 27),none⟩,167772160),(⟨(some 8),.mv (.tmp 28),none⟩,268435456)])))))))) (.seq (.region none [(⟨(some 29),.mv (.tmp 8),none⟩,256),(⟨(some 30),.call d8 [(.tmp 29)],none⟩,536870912)]) (.seq (.region none [(⟨(some 10),.mv (.con (.c (.sc (.int .i64 0)))),none⟩,0)]) (.seq (.seq (.region none [(⟨(some 31),.mv (.tmp 8),none⟩,256),(⟨(some 32),.lenS (.tmp 31),none⟩,2147483648),(⟨(some 33),.mv (.con (.c (.sc (.int .i64 0)))),none⟩,0)]) (.block 2 (.loop (.seq (.region none [(⟨(some 34),.bin .lss (.tmp 33) (.tmp 32),none⟩,12884901888)]) (.seq (.cond (.tmp 34) (.skip) (.exit 2)) (.seq (.block 3 (.seq (.region none [(⟨(some 35),.ixA 1 (.tmp 31) (.tmp 33),none⟩,10737418240),(⟨(some 36),.load 1 false (.tmp 35),none⟩,34359738368),(⟨(some 12),.mv (.tmp 36),none⟩,68719476736)]) (.seq (.region none [(⟨(some 37),.mv (.tmp 0),none⟩,1),(⟨(some 38),.nilc (.tmp 37),none⟩,137438953472),(⟨(some 39),.fld 2 (.tmp 38),none⟩,274877906944),(⟨(some 40),.load 1 false (.tmp 39),none⟩,549755813888),(⟨(some 41),.mv (.tmp 12),none⟩,4096),(⟨(some 42),.look .string (.c (.sc (.pointer none))) false (.tmp 40) (.tmp 41),none⟩,3298534883328),(⟨(some 13),.mv (.tmp 42),none⟩,4398046511104)]) (.seq (.region none [(⟨(some 43),.mv (.tmp 1),none⟩,2),(⟨(some 44),.lenS (.tmp 43),none⟩,8796093022208),(⟨(some 14),.mv (.tmp 44),none⟩,17592186044416)]) (.seq (.region (some [0,0,0,0,8,24,56,0,128,384,896,2046,4094,8191,16383]) [(⟨(some 45),.mv (.tmp 1),none⟩,2),(⟨(some 46),.mv (.tmp 2),none⟩,4),(⟨(some 47),.mv (.tmp 12),none⟩,4096),(⟨(some 48),.mv (.tmp 13),none⟩,8192),(⟨(some 49),.nilc (.tmp 48),none⟩,281474976710656),(⟨(some 50),.fld 0 (.tmp 49),none⟩,562949953421312),(⟨(some 51),.load 1 false (.tmp 50),none⟩,1125899906842624),(⟨(some 52),.mv (.tmp 13),none⟩,8192),(⟨(some 53),.nilc (.tmp 52),none⟩,4503599627370496),(⟨(some 54),.fld 1 (.tmp 53),none⟩,9007199254740992),(⟨(some 55),.load 1 false (.tmp 54),none⟩,18014398509481984),(⟨(some 56),.build [(.sc (.int .i64 0)),(.sc (.string ⟨#[]⟩)),(.sc (.int .i64 0)),(.sc (.int .i64 0)),(.sc (.int .i64 0))] [(0,1,(.tmp 46)),(1,1,(.tmp 47)),(2,1,(.tmp 51)),(4,1,(.tmp 55))],none⟩,38491703065182208),(⟨(some 57),.bsl b7 5 1 [(.sc (.int .i64 0)),(.sc (.string ⟨#[]⟩)),(.sc (.int .i64 0)),(.sc (.int .i64 0)),(.sc (.int .i64 0))] [(0,5,(.tmp 56))],none⟩,72057594037927936),(⟨(some 58),.app b7 5 48 (.tmp 45) (.tmp 57),none⟩,144150372447944704),(⟨(some 1),.mv (.tmp 58),none⟩,288230376151711744)]) (.seq (.region none [(⟨(some 15),.mv (.con (.c (.sc (.int .i64 0)))),none⟩,0)]) (.seq (.region none [(⟨(some 60),.mv (.tmp 13),none⟩,8192),(⟨(some 61),.mv (.tmp 1),none⟩,2),(⟨(some 62),.mv (.tmp 14),none⟩,16384),(⟨(some 63),.call o7 [(.tmp 60),(.tmp 61),(.tmp 62)],none⟩,8070450532247928832),(⟨(some 59),.mv (.tmp 63),none⟩,9223372036854775808),(⟨(some 64),.ext (.tmp 59) 0,none⟩,576460752303423488),(⟨(some 65),.ext (.tmp 59) 1,none⟩,576460752303423488),(⟨(some 1),.mv (.tmp 64),none⟩,18446744073709551616),(⟨(some 15),.mv (.tmp 65),none⟩,36893488147419103232)]) (.seq (.region none [(⟨(some 66),.mv (.tmp 1),none⟩,2),(⟨(some 67),.mv (.tmp 14),none⟩,16384),(⟨(some 68),.mv (.tmp 13),none⟩,8192),(⟨(some 69),.nilc (.tmp 68),none⟩,295147905179352825856),(⟨(some 70),.fld 0 (.tmp 69),none⟩,590295810358705651712),(⟨(some 71),.load 1 false (.tmp 70),none⟩,1180591620717411303424),(⟨(some 72),.mv (.tmp 15),none⟩,32768),(⟨(some 73),.bin .add (.tmp 71) (.tmp 72),none⟩,7083549724304467820544),(⟨(some 74),.ixA 5 (.tmp 66) (.tmp 67),none⟩,221360928884514619392),(⟨(some 75),.fld 3 (.tmp 74),none⟩,18889465931478580854784),(⟨none,.store 1 (.tmp 75) (.tmp 73),none⟩,47223664828696452136960)]) (.region none [(⟨(some 76),.mv (.tmp 10),none⟩,1024),(⟨(some 77),.mv (.tmp 1),none⟩,2),(⟨(some 78),.mv (.tmp 14),none⟩,16384),(⟨(some 79),.ixA 5 (.tmp 77) (.tmp 78),none⟩,453347182355485940514816),(⟨(some 80),.fld 3 (.tmp 79),none⟩,604462909807314587353088),(⟨(some 81),.load 1 false (.tmp 80),none⟩,1208925819614629174706176),(⟨(some 82),.bin .add (.tmp 76) (.tmp 81),none⟩,2493409502955172672831488),(⟨(some 10),.mv (.tmp 82),none⟩,4835703278458516698824704)]))))))))) (.region none [(⟨(some 83),.bin .add (.tmp 33) (.con (.c (.sc (.int .i64 1)))),none⟩,8589934592),(⟨(some 33),.mv (.tmp 83),none⟩,9671406556917033397649408)]))))))) (.seq (.region none [(⟨(some 84),.mv (.tmp 1),none⟩,2),(⟨(some 85),.mv (.tmp 10),none⟩,1024),(⟨(some 6),.mv (.tmp 84),none⟩,19342813113834066795298816),(⟨(some 7),.mv (.tmp 85),none⟩,38685626227668133590597632)]) (.ret))))))),[.tmp 6,.tmp 7]⟩
set_option maxRecDepth 100000 in
theorem Gq:iX Try.prog 42 = some nX∧cQ Try.prog 42 = true:=⟨by kernel_rfl,by kernel_rfl⟩
def HZ:RF:=⟨.seq (.region none [(⟨(some 4),.mv (.con (.c (.sc (.slice none 0 0)))),none⟩,0),(⟨(some 5),.mv (.con (.c (.sc (.int .i64 0)))),none⟩,0)]) (.seq (.region none [(⟨(some 12),.build [(.sc (.int .i64 0)),(.sc (.int .i64 0)),(.sc (.map none))] [],none⟩,0),(⟨(some 13),.box eK (.tmp 12),none⟩,4096),(⟨(some 6),.mv (.tmp 13),none⟩,8192)]) (.seq (.seq (.region none [(⟨(some 14),.mv (.tmp 0),none⟩,1),(⟨(some 15),.mv (.tmp 1),none⟩,2),(⟨(some 16),.bsl anV 1 2 [(.sc (.slice none 0 0))] [(0,1,(.tmp 14)),(1,1,(.tmp 15))],none⟩,49152),(⟨(some 17),.lenS (.tmp 16),none⟩,65536),(⟨(some 18),.mv (.con (.c (.sc (.int .i64 0)))),none⟩,0)]) (.block 0 (.loop (.seq (.region none [(⟨(some 19),.bin .lss (.tmp 18) (.tmp 17),none⟩,393216)]) (.seq (.cond (.tmp 19) (.skip) (.exit 0)) (.seq (.block 1 (.seq (.region none [(⟨(some 20),.ixA 1 (.tmp 16) (.tmp 18),none⟩,327680),(⟨(some 21),.load 1 false (.tmp 20),none⟩,1048576),(⟨(some 8),.mv (.tmp 21),none⟩,2097152)]) (.seq (.seq (.region none [(⟨(some 22),.mv (.tmp 8),none⟩,256),(⟨(some 23),.call oJ [(.tmp 22)],none⟩,4194304),(⟨(some 9),.mv (.tmp 23),none⟩,8388608)]) (.seq (.region none [(⟨(some 24),.mv (.tmp 9),none⟩,512),(⟨(some 25),.bin .neq (.tmp 24) (.con (.c (.sc (.int .i64 0)))),none⟩,16777216)]) (.cond (.tmp 25) (.seq (.region none [(⟨(some 26),.mv (.tmp 9),none⟩,512),(⟨(some 4),.mv (.con (.c (.sc (.slice none 0 0)))),none⟩,0),(⟨(some 5),.mv (.tmp 26),none⟩,67108864)]) (.ret)) (.skip)))) (.seq (.region none [(⟨(some 27),.mv (.tmp 8),none⟩,256),(⟨(some 28),.lenS (.tmp 27),none⟩,134217728),(⟨(some 29),.mv (.con (.c (.sc (.int .i64 0)))),none⟩,0)]) (.block 2 (.loop (.seq (.region none [(⟨(some 30),.bin .lss (.tmp 29) (.tmp 28),none⟩,805306368)]) (.seq (.cond (.tmp 30) (.skip) (.exit 2)) (.seq (.block 3 (.seq (.region none [(⟨(some 31),.mv (.tmp 29),none⟩,536870912),(⟨(some 32),.ixA 5 (.tmp 27) (.tmp 29),none⟩,671088640),(⟨(some 33),.load 5 true (.tmp 32),none⟩,4294967296),(⟨(some 11),.alloc b7 [(.sc (.int .i64 0)),(.sc (.string ⟨#[]⟩)),(.sc (.int .i64 0)),(.sc (.int .i64 0)),(.sc (.int .i64 0))],none⟩,0),(⟨(some 10),.mv (.tmp 31),none⟩,2147483648),(⟨none,.store 5 (.tmp 11) (.tmp 33),none⟩,8589936640)]) (.region (some [0,0,0,6,0,16,0,64,255]) [(⟨(some 34),.mv (.tmp 6),none⟩,64),(⟨(some 35),.mv (.tmp 8),none⟩,256),(⟨(some 36),.mv (.tmp 10),none⟩,1024),(⟨(some 37),.call OJ [(.tmp 35),(.tmp 36)],none⟩,103079215104),(⟨(some 38),.fld 2 (.tmp 11),none⟩,2048),(⟨(some 39),.load 1 false (.tmp 38),none⟩,274877906944),(⟨(some 40),.fld 4 (.tmp 11),none⟩,2048),(⟨(some 41),.load 1 false (.tmp 40),none⟩,1099511627776),(⟨(some 42),.call p5 [(.tmp 34),(.tmp 37),(.tmp 39),(.tmp 41)],none⟩,2903397892096)]))) (.region none [(⟨(some 43),.bin .add (.tmp 29) (.con (.c (.sc (.int .i64 1)))),none⟩,536870912),(⟨(some 29),.mv (.tmp 43),none⟩,8796093022208)])))))))))) (.region none [(⟨(some 44),.bin .add (.tmp 18) (.con (.c (.sc (.int .i64 1)))),none⟩,262144),(⟨(some 18),.mv (.tmp 44),none⟩,17592186044416)]))))))) (.seq (.region none [(⟨(some 45),.mv (.tmp 6),none⟩,64),(⟨(some 46),.call nY [(.tmp 45)],none⟩,35184372088832),(⟨(some 47),.ext (.tmp 46) 0,none⟩,70368744177664),(⟨(some 48),.ext (.tmp 46) 1,none⟩,70368744177664),(⟨(some 4),.mv (.tmp 47),none⟩,140737488355328),(⟨(some 5),.mv (.tmp 48),none⟩,281474976710656)]) (.ret)))),[.tmp 4,.tmp 5]⟩
set_option maxRecDepth 100000 in
theorem N2:iX Try.prog 22 = some HZ∧cQ Try.prog 22 = true:=⟨by kernel_rfl,by kernel_rfl⟩
def Kx:RF:=⟨.seq (.region none [(⟨(some 4),.mv (.con (.c (.sc (.slice none 0 0)))),none⟩,0)]) (.seq (.region none [(⟨(some 5),.mv (.con (.c (.sc (.slice none 0 0)))),none⟩,0)]) (.seq (.block 0 (.loop (.seq (.seq (.region none [(⟨(some 6),.mv (.tmp 1),none⟩,2),(⟨(some 7),.bin .geq (.tmp 6) (.con (.c (.sc (.int .i64 0)))),none⟩,64)]) (.cond (.tmp 7) (.skip) (.exit 0))) (.seq (.block 1 (.region none [(⟨(some 13),.mv (.tmp 5),none⟩,32),(⟨(some 14),.mv (.tmp 0),none⟩,1),(⟨(some 15),.mv (.tmp 1),none⟩,2),(⟨(some 16),.ixA 5 (.tmp 14) (.tmp 15),none⟩,49152),(⟨(some 17),.fld 1 (.tmp 16),none⟩,65536),(⟨(some 18),.load 1 false (.tmp 17),none⟩,131072),(⟨(some 19),.bsl fQ 1 1 [(.sc (.string ⟨#[]⟩))] [(0,1,(.tmp 18))],none⟩,262144),(⟨(some 20),.app fQ 1 16 (.tmp 13) (.tmp 19),none⟩,532480),(⟨(some 5),.mv (.tmp 20),none⟩,1048576)])) (.region none [(⟨(some 8),.mv (.tmp 0),none⟩,1),(⟨(some 9),.mv (.tmp 1),none⟩,2),(⟨(some 10),.ixA 5 (.tmp 8) (.tmp 9),none⟩,768),(⟨(some 11),.fld 0 (.tmp 10),none⟩,1024),(⟨(some 12),.load 1 false (.tmp 11),none⟩,2048),(⟨(some 1),.mv (.tmp 12),none⟩,4096)]))))) (.seq (.region none [(⟨(some 21),.mv (.tmp 5),none⟩,32),(⟨(some 22),.call l7 [(.tmp 21)],none⟩,2097152)]) (.seq (.region none [(⟨(some 23),.mv (.tmp 5),none⟩,32),(⟨(some 4),.mv (.tmp 23),none⟩,8388608)]) (.ret))))),[.tmp 4]⟩
set_option maxRecDepth 100000 in
theorem O1:iX Try.prog 38 = some Kx∧cQ Try.prog 38 = true:=⟨by kernel_rfl,by kernel_rfl⟩
def lX:RF:=⟨.seq (.region none [(⟨(some 4),.mv (.tmp 0),none⟩,1),(⟨(some 5),.lenS (.tmp 4),none⟩,16),(⟨(some 6),.bin .sub (.tmp 5) (.con (.c (.sc (.int .i64 1)))),none⟩,32),(⟨(some 2),.mv (.con (.c (.sc (.int .i64 0)))),none⟩,0),(⟨(some 3),.mv (.tmp 6),none⟩,64)]) (.block 0 (.loop (.seq (.seq (.region none [(⟨(some 7),.mv (.tmp 2),none⟩,4),(⟨(some 8),.mv (.tmp 3),none⟩,8),(⟨(some 9),.bin .lss (.tmp 7) (.tmp 8),none⟩,384)]) (.cond (.tmp 9) (.skip) (.exit 0))) (.seq (.block 1 (.region (some [0,0,0,0,0,0,48,112,0,0,768,1792,4083,8179,16383,32767]) [(⟨(some 14),.mv (.tmp 0),none⟩,1),(⟨(some 15),.mv (.tmp 2),none⟩,4),(⟨(some 16),.mv (.tmp 0),none⟩,1),(⟨(some 17),.mv (.tmp 3),none⟩,8),(⟨(some 18),.mv (.tmp 0),none⟩,1),(⟨(some 19),.mv (.tmp 3),none⟩,8),(⟨(some 20),.ixA 1 (.tmp 18) (.tmp 19),none⟩,786432),(⟨(some 21),.load 1 false (.tmp 20),none⟩,1048576),(⟨(some 22),.mv (.tmp 0),none⟩,1),(⟨(some 23),.mv (.tmp 2),none⟩,4),(⟨(some 24),.ixA 1 (.tmp 22) (.tmp 23),none⟩,12582912),(⟨(some 25),.load 1 false (.tmp 24),none⟩,16777216),(⟨(some 26),.ixA 1 (.tmp 14) (.tmp 15),none⟩,49152),(⟨none,.store 1 (.tmp 26) (.tmp 21),none⟩,69206016),(⟨(some 27),.ixA 1 (.tmp 16) (.tmp 17),none⟩,196608),(⟨none,.store 1 (.tmp 27) (.tmp 25),none⟩,167772160)])) (.region none [(⟨(some 10),.mv (.tmp 2),none⟩,4),(⟨(some 11),.bin .add (.tmp 10) (.con (.c (.sc (.int .i64 1)))),none⟩,1024),(⟨(some 12),.mv (.tmp 3),none⟩,8),(⟨(some 13),.bin .sub (.tmp 12) (.con (.c (.sc (.int .i64 1)))),none⟩,4096),(⟨(some 2),.mv (.tmp 11),none⟩,2048),(⟨(some 3),.mv (.tmp 13),none⟩,8192)]))))),[]⟩
set_option maxRecDepth 100000 in
theorem qY:iX Try.prog 50 = some lX∧cQ Try.prog 50 = true:=⟨by kernel_rfl,by kernel_rfl⟩
def VK:Tr RF:=EJ [(tX,nJ),(p5,o5),(nY,mq),(o7,nX),(W8,HZ),(OJ,Kx),(l7,lX)]
theorem aOx:TOk Try.prog VK:=aGV fun p hp=>by
 simp only [List.mem_cons,List.not_mem_nil,or_false] at hp
 rcases hp with rfl | rfl | rfl | rfl | rfl | rfl | rfl
 ·exact F9
 ·exact G4
 ·exact Fx
 ·exact Gq
 ·exact N2
 ·exact O1
 ·exact qY
end Go.RM
namespace Go.RM
open Go.VM (T wj tI)
theorem abq (a b:Nat):Nat.ble a b = decide (a≤b):=by
 rw [Bool.eq_iff_iff,Nat.ble_eq,uk]
theorem acj (a b:Nat):Nat.beq a b = decide (a = b):=by
 rw [Bool.eq_iff_iff,uk]
 exact ⟨Nat.eq_of_beq_eq_true,fun h=>h ▸ Nat.beq_refl a⟩
theorem wr {x:Int} (h1 : -9000000000000000000≤x) (h2:x≤9000000000000000000):IntKind.i64.wrap x = x:=by
 simp only [IntKind.wrap,IntKind.bits,IntKind.signed]
 simp
 omega
def RevI (xs ys:List X) (i:Nat):Prop:=ys.length = xs.length∧∀ k,k < xs.length→ys[k]? = if k < i∨xs.length - i≤k then xs[xs.length - 1 - k]? else xs[k]?
theorem RevI.step {xs ys:List X} {i:Nat} {a c:X} (h:RevI xs ys i) (hi:i < xs.length - 1 - i) (ha:ys[xs.length - 1 - i]? = some a) (hc:ys[i]? = some c):RevI xs ((ys.set i a).set (xs.length - 1 - i) c) (i + 1):=by
 refine ⟨by rw [qk,qk]; exact h.1,fun k hk=>?_⟩
 have ha':=h.2 (xs.length - 1 - i) (by omega)
 have hc':=h.2 i (by omega)
 rw [if_neg (by omega),ha] at ha'
 rw [if_neg (by omega),hc] at hc'
 rw [uw,qk,uw]
 by_cases e1:xs.length - 1 - i = k
 ·rw [if_pos e1,if_pos (by rw [h.1]; omega),if_pos (by omega),hc']
  congr 1
  omega
 ·rw [if_neg e1]
  by_cases e2:i = k
  ·rw [if_pos e2,if_pos (by rw [h.1]; omega),if_pos (by omega),ha']
   congr 1
   omega
  ·rw [if_neg e2,h.2 k hk]
   by_cases e3:k < i∨xs.length - i≤k
   ·rw [if_pos e3,if_pos (by omega)]
   ·rw [if_neg e3,if_neg (by omega)]
theorem p7 {orc:c6} {T:Tr RF} {F:Nat→Prop} {D:Prop} {Q:Ex→Tr V→S→Prop} {a c:RC} {Γ:Tr V} {s:S} (mid:Tr V→S→Prop) (h1:Wp orc T a Γ s F D (cj mid (fun _ _ _=>False))) (h2:∀ Γ s,mid Γ s→Wp orc T c Γ s F D Q):Wp orc T (.seq a c) Γ s F D Q:=by
 refine cY (Wp.mono h1 (fun _ h=>h) (fun h=>h) fun e Γ s h=>?_)
 cases e with
 | normal=>exact h2 Γ s h
 | exit _=>exact h.elim
 | ret=>exact h.elim
theorem aCQ {orc:c6} {T:Tr RF} {F:Nat→Prop} {D:Prop} {Q:Ex→Tr V→S→Prop} {c:RC} {Γ:Tr V} {s:S} (I:Nat→Tr V→S→Prop) (n:Nat) (hI:I n Γ s) (h:∀ n Γ s,I n Γ s→Wp orc T c Γ s F D (cj (fun Γ' s'=>∃ m,m < n∧I m Γ' s') Q)):Wp orc T (.loop c) Γ s F D Q:=by
 have key:∀ k n Γ s,n < k→I n Γ s→Wp orc T (.loop c) Γ s F D Q:=by
  intro k
  induction k with
  | zero=>intro n Γ s hn; omega
  | succ k ih =>
   intro n Γ s hn hI
   refine U4 (Wp.mono (h n Γ s hI) (fun _ h=>h) (fun h=>h) fun e Γ' s' hq=>?_)
   cases e with
   | normal =>
    obtain ⟨m,hm,hI'⟩:=hq
    exact ih m Γ' s' (by omega) hI'
   | _=>exact hq
 exact key _ n Γ s (Nat.lt_succ_self _) hI
theorem aDj {e:Opd→V} {a c:Opd} {x y:Int} (ha:e a = iV x) (hc:e c = iV y):bj e (.mm false [a,c]) = some (iV (min x y)):=by
 simp only [bj,lw,List.map_nil,ha,hc]
 rfl
theorem wQ {s:S} {m:Nat} {kd:TypeDesc} {r:Bool} {es:List (Value × V)} (h:s.h.get m = some (.map kd r es)):G3 s m = some (kd,es):=by
 unfold G3; rw [h]
section
variable {e:Opd→V} {s:S}
theorem MS.lookS {kd:TypeDesc} {z v:V} {x i:Opd} {m:Nat} {key:Value} {kd':TypeDesc} {es:List (Value × V)} (hx:e x = .c (.mp m)) (hi:E4 kd (e i) = some key) (hm:G3 s m = some (kd',es)) (hk:Tz kd' kd = true) (hg:Go.VM.getK key es = some v):MS e s (.look kd z false x i) v s (fun k=>k = m) (fun _=>False):=by
 have:=MS.look (z:=z) (ok:=false) hx hi hm hk
 rw [hg] at this
 exact this
theorem MS.lookN {kd:TypeDesc} {z:V} {x i:Opd} {m:Nat} {key:Value} {kd':TypeDesc} {es:List (Value × V)} (hx:e x = .c (.mp m)) (hi:E4 kd (e i) = some key) (hm:G3 s m = some (kd',es)) (hk:Tz kd' kd = true) (hg:Go.VM.getK key es = none):MS e s (.look kd z false x i) z s (fun k=>k = m) (fun _=>False):=by
 have:=MS.look (z:=z) (ok:=false) hx hi hm hk
 rw [hg] at this
 exact this
theorem acV {x y:Opd} {m:Nat} (hx:e x = .c (.mp m)) (hy:e y = .c (.sc (.map none))):bj e (.neq 1 false x y) = some (bV false):=by
 simp only [bj,hx,hy]; rfl
theorem SX {x y:Opd} (hx:e x = .c (.sc (.map none))) (hy:e y = .c (.sc (.map none))):bj e (.neq 1 false x y) = some (bV true):=by
 simp only [bj,hx,hy]; rfl
theorem aaK {x y:Opd} {m off:Nat} (hx:e x = .c (.ptr m off)) (hy:e y = .c (.sc (.pointer none))):bj e (.neq 0 false x y) = some (bV false):=by
 simp only [bj,hx,hy]; rfl
theorem SK {x y:Opd} (hx:e x = .c (.sc (.pointer none))) (hy:e y = .c (.sc (.pointer none))):bj e (.neq 0 false x y) = some (bV true):=by
 simp only [bj,hx,hy]; rfl
end
theorem asK {s:S} {d m size:Nat} {seen:List Nat} {es:List (Value × V)}:∀ l:List Nat,(∀ i∈l,i < es.length)→∃ L,M6 s d m size seen es l = some L∧(∀ p∈L,∃ i q,i∈l∧seen.contains i = false∧es[i]? = some q∧p = (.tup [bV true,scV q.1,q.2],lQ s d (.iter m size (seen++[i]))))∧(L = []→∀ i∈l,seen.contains i = true)
 | [],_=>⟨[],rfl,fun p hp=>by simp at hp,fun _ i hi=>by simp at hi⟩
 | i :: l,h=>by
  obtain ⟨L,h1,h2,h3⟩:=asK (s:=s) (d:=d) (m:=m) (size:=size) (seen:=seen) l fun j hj=>h j (ik _ hj)
  cases hc:seen.contains i with
  | true =>
   refine ⟨L,by simp only [M6,hc,cond_true]; exact h1,fun p hp=>?_,fun e j hj=>?_⟩
   ·obtain ⟨j,q,g1,g2⟩:=h2 p hp
    exact ⟨j,q,ik _ g1,g2⟩
   ·rcases List.mem_cons.1 hj with rfl | hj
    ·exact hc
    ·exact h3 e j hj
  | false =>
   obtain ⟨q,hq⟩ : ∃ q,es[i]? = some q:=⟨_,bk (h i mw)⟩
   refine ⟨(.tup [bV true,scV q.1,q.2],lQ s d (.iter m size (seen++[i]))) :: L,by simp only [M6,hc,cond_false,hq,put,ck,h1,kw]; rfl,fun p hp=>?_,fun e=>by simp at e⟩
   rcases List.mem_cons.1 hp with rfl | hp
   ·exact ⟨i,q,mw,hc,hq,rfl⟩
   ·obtain ⟨j,q',g1,g2⟩:=h2 p hp
    exact ⟨j,q',ik _ g1,g2⟩
section
variable {orc:c6} {T:Tr RF} {F:Nat→Prop} {D:Prop} {os:List (ROp × Nat)} {Γ:Tr V} {s:S} {b mk:Nat} {d:Option Nat} {Q:Tr V→S→Prop}
theorem aRW {x:Opd} {n m:Nat} {seen:List Nat} {kd:TypeDesc} {fl:Bool} {es:List (Value × V)} (hx:ev Γ x = .c (.ptr n 0)) (hn:s.h.get n = some (.iter m es.length seen)) (hm:s.h.get m = some (.map kd fl es)) (hF:F n∧F m)
  (h0:(∀ i,i < es.length→i∈seen)→Sq orc T os (putO d (.tup [bV false]) Γ) s F False Q)
  (h1:∀ i q,i ∉ seen→es[i]? = some q→Sq orc T os (putO d (.tup [bV true,scV q.1,q.2]) Γ) (lQ s n (.iter m es.length (seen++[i]))) F False Q) :
  Sq orc T ((⟨d,.nxt x,none⟩,mk) :: os) Γ s F False Q:=by
 refine M2 (o:=⟨d,.nxt x,none⟩) rfl ?_
 obtain ⟨L,g1,g2,g3⟩:=asK (s:=s) (d:=n) (m:=m) (size:=es.length) (seen:=seen) (es:=es) (List.range es.length) fun i hi=>List.mem_range.1 hi
 have hb:∀ k,(Nat.lor (bit n) (bit m)).testBit k = true→F k:=fun k hk=>by
  rw [gz,vk] at hk
  rcases hk with hk | hk
  ·rw [b8 k hk]; exact hF.1
  ·rw [b8 k hk]; exact hF.2
 cases L with
 | nil =>
  refine ⟨0,[(.tup [bV false],s)],Nat.lor (bit n) (bit m),?_,fun p hp=>?_,hb,fun h=>h.elim⟩
  ·simp only [opX,adX,hx,hn,hm,Nat.beq_refl,cond_true,g1]
  ·rw [dk.1 hp]
   exact h0 fun i hi=>by simpa using g3 rfl i (List.mem_range.2 hi)
 | cons y L =>
  refine ⟨0,y :: L,Nat.lor (bit n) (bit m),?_,fun p hp=>?_,hb,fun h=>h.elim⟩
  ·simp only [opX,adX,hx,hn,hm,Nat.beq_refl,cond_true,g1]
  ·obtain ⟨i,q,_,f2,f3,rfl⟩:=g2 p hp
   exact h1 i q (by simpa using f2) f3
theorem aPz {x:Opd} {m:Nat} {kd:TypeDesc} {fl:Bool} {es:List (Value × V)} (hS:Sb b s) (hx:ev Γ x = .c (.mp m)) (hm:s.h.get m = some (.map kd fl es)) (hbm:b≤m) (hF:F m∧F s.c)
  (h:∀ s1,s1.h.get m = some (.map kd true es)→s1.h.get s.c = some (.iter m es.length [])→(∀ k,k ≠ m→k ≠ s.c→s1.h.get k = s.h.get k)→s1.c = s.c + 1→Sb b s1→Sq orc T os (putO d (.c (.ptr s.c 0)) Γ) s1 F D Q) :
  Sq orc T ((⟨d,.rng x,none⟩,mk) :: os) Γ s F D Q:=by
 have hlt:=hS.lt hm
 have hg:adK s m = some (kd,fl,es):=by unfold adK; rw [hm]
 have hnc:((lQ s m (.map kd true es)).h.get (lQ s m (.map kd true es)).c) = none:=by
  show (lQ s m (.map kd true es)).h.get s.c = none
  rw [(zX s m _).keep s.c (by omega)]
  exact hS.free _ (gw _)
 have hnew:new (lQ s m (.map kd true es)) (.iter m es.length []) = some (xY (lQ s m (.map kd true es)) (.iter m es.length [])):=x5 (s:=lQ s m (.map kd true es)) hnc _
 refine acK (o:=⟨d,.rng x,none⟩) rfl rfl (v:=.c (.ptr s.c 0)) (s':=xY (lQ s m (.map kd true es)) (.iter m es.length [])) (r:=Nat.lor (bit m) (bit s.c)) ?_ (fun k hk=>?_) (h _ ?_ (uq (lQ s m (.map kd true es)) _).self (fun k h1 h2=>?_) rfl ((hS.put hbm hlt _).new _))
 ·simp only [dZ,hx,hg,ck,put]
  show (new (lQ s m (.map kd true es)) (.iter m es.length [])).map _ = _
  rw [hnew]; rfl
 ·rw [gz,vk] at hk
  rcases hk with hk | hk
  ·rw [b8 k hk]; exact hF.1
  ·rw [b8 k hk]; exact hF.2
 ·rw [(uq (lQ s m (.map kd true es)) _).keep m (by show m ≠ s.c; omega)]; exact (zX s m _).self
 ·rw [(uq (lQ s m (.map kd true es)) _).keep k h2]; exact (zX s m _).keep k h1
theorem aMW {x:Opd} (hS:Sb b s) (hx:ev Γ x = .c (.sc (.map none))) (hF:F s.c)
  (h:∀ s1,St s s1 s.c .itern→s1.c = s.c + 1→Sb b s1→Sq orc T os (putO d (.c (.ptr s.c 0)) Γ) s1 F D Q) :
  Sq orc T ((⟨d,.rng x,none⟩,mk) :: os) Γ s F D Q:=by
 refine acK (o:=⟨d,.rng x,none⟩) rfl rfl (v:=.c (.ptr s.c 0)) (s':=xY s .itern) (r:=bit s.c) ?_ (fun k hk=>by rw [b8 k hk]; exact hF) (h _ (uq s _) rfl (hS.new _))
 simp only [dZ,hx]
 rw [x5 (hS.free _ (gw _))]; rfl
theorem aIz {x:Opd} {n:Nat} (hx:ev Γ x = .c (.ptr n 0)) (hn:s.h.get n = some .itern) (hF:F n) (h:Sq orc T os (putO d (.tup [bV false]) Γ) s F D Q):Sq orc T ((⟨d,.nxt x,none⟩,mk) :: os) Γ s F D Q:=by
 refine M2 (o:=⟨d,.nxt x,none⟩) rfl ?_
 refine ⟨0,[(.tup [bV false],s)],bit n,?_,fun p hp=>by rw [dk.1 hp]; exact h,fun k hk=>by rw [b8 k hk]; exact hF,fun _=>⟨_,rfl⟩⟩
 simp only [opX,adX,hx,hn]
theorem aPY {x:Opd} {n m i:Nat} {seen:List Nat} {kd:TypeDesc} {fl:Bool} {es:List (Value × V)} {q:Value × V} (hx:ev Γ x = .c (.ptr n 0)) (hn:s.h.get n = some (.iter m es.length (seen++[i]))) (hm:s.h.get m = some (.map kd fl es)) (hq:es[i]? = some q) (hF:F n∧F m)
  (h:Sq orc T os (putO d (.tup [scV q.1,q.2]) Γ) s F D Q):Sq orc T ((⟨d,.ent x,none⟩,mk) :: os) Γ s F D Q:=by
 refine acK (o:=⟨d,.ent x,none⟩) rfl rfl (v:=.tup [scV q.1,q.2]) (s':=s) (r:=Nat.lor (bit n) (bit m)) ?_ (fun k hk=>?_) h
 ·simp only [dZ,hx,hn,hm,Nat.beq_refl,gd,cond_true,List.getLast?_append,List.getLast?_singleton,Option.or_some,Option.some_or,ck,hq,kw]
 ·rw [gz,vk] at hk
  rcases hk with hk | hk
  ·rw [b8 k hk]; exact hF.1
  ·rw [b8 k hk]; exact hF.2
end
end Go.RM
namespace Go.RM
open Go Go.Proofs
structure TN where
 self:Int
 count:Int
 kids:Option (List (ByteArray × Nat))
abbrev Ar:=List TN
def pZ (s:ByteArray):List (ByteArray × Nat)→Option Nat
 | []=>none
 | e :: l=>if s = e.1 then some e.2 else pZ s l
def J6 (p:Ar × Nat) (s:ByteArray):Option (Ar × Nat):=p.1[p.2]?.map fun t =>
 let l:=t.kids.getD []
 match pZ s l with
 | some k=>(p.1.set p.2 { t with kids:=some l },k)
 | none=>(p.1.set p.2 { t with kids:=some (l++[(s,p.1.length)]) }++[⟨0,0,none⟩],p.1.length)
def QK:Int:=100000000000000
def aaW (ar:Ar) (path:List ByteArray) (self count:Int):Option Ar:=(path.foldlM J6 (ar,0)).bind fun p=>p.1[p.2]?.map fun t =>
 p.1.set p.2 { t with self:=min (IntKind.i64.wrap (t.self + self)) (QK + 1),count:=min (IntKind.i64.wrap (t.count + count)) 20001 }
def A6 (ar:Ar):Nat→Nat→Int→Int→Option (List (Int × ByteArray × Int × Int × Int) × Int)
 | 0,_,_,_=>none
 | f + 1,i,parent,len=>ar[i]?.bind fun t =>
  let names:=(t.kids.getD []).mergeSort fun a b=>decide (a.1.data.toList≤b.1.data.toList)
  names.foldlM (fun (p:List (Int × ByteArray × Int × Int × Int) × Int) e=>ar[e.2]?.bind fun k =>
   (A6 ar f e.2 (len + p.1.length) (len + p.1.length + 1)).map fun q =>
    (p.1++(parent,e.1,k.self,IntKind.i64.wrap (k.self + q.2),k.count) :: q.1,IntKind.i64.wrap (p.2 + IntKind.i64.wrap (k.self + q.2)))) ([],0)
def HV (t:TN) (m:Nat):X:=match t.kids with
 | none=>.sc (.map none)
 | some _=>.mp m
structure ArH (b:Nat) (h:Hp) (ps:List (Nat × Nat)) (ar:Ar):Prop where
 len:ps.length = ar.length
 cell:∀ (i:Nat) t p,ar[i]? = some t→ps[i]? = some p→b≤p.1∧h p.1 = some (.cells eK [.sc (.int .i64 t.self),.sc (.int .i64 t.count),HV t p.2])
 kmap:∀ (i:Nat) t p l,ar[i]? = some t→ps[i]? = some p→t.kids = some l→b≤p.2∧h p.2 = some (.map .string false (l.map fun e=>(.string e.1,.c (.ptr ((ps.getD e.2 (0,0)).1) 0))))∧∀ e∈l,e.2 < ar.length
 inj:∀ (i j:Nat) p q,ps[i]? = some p→ps[j]? = some q→p.1 = q.1→i = j
 injm:∀ (i j:Nat) t u p q,ar[i]? = some t→ar[j]? = some u→ps[i]? = some p→ps[j]? = some q→t.kids ≠ none→u.kids ≠ none→p.2 = q.2→i = j
 ne:∀ (i j:Nat) u p q,ar[j]? = some u→ps[i]? = some p→ps[j]? = some q→u.kids ≠ none→p.1 ≠ q.2
theorem I3 (ps:List (Nat × Nat)) (s:ByteArray):∀ l:List (ByteArray × Nat),Go.VM.getK (.string s) (l.map fun e=>((Value.string e.1,V.c (.ptr ((ps.getD e.2 (0,0)).1) 0)):Value × V)) = (pZ s l).map fun k=>V.c (.ptr ((ps.getD k (0,0)).1) 0)
 | []=>rfl
 | e :: l=>by
  simp only [lw,Go.VM.getK,Go.VM.keyB,pZ,uk]
  by_cases h:s = e.1
  ·rw [if_pos h,if_pos h]; rfl
  ·rw [if_neg h,if_neg h]; exact I3 ps s l
end Go.RM
namespace Go.RM
open Go Go.Proofs
theorem aMJ {ps:List (Nat × Nat)} {i m:Nat} {p:Nat × Nat} (hp:ps[i]? = some p) (j:Nat):((ps.set i (p.1,m)).getD j (0,0)).1 = (ps.getD j (0,0)).1:=by
 rw [List.getD_eq_getElem?_getD,List.getD_eq_getElem?_getD,uw]
 by_cases e:i = j
 ·subst e
  rw [if_pos rfl,if_pos (bw.1 hp).1,hp]; rfl
 ·rw [if_neg e]
theorem gq {α:Type} {l:List α} {i j:Nat} {x y:α} (h:(l.set i x)[j]? = some y):(i = j∧y = x)∨(i ≠ j∧l[j]? = some y):=by
 rw [uw] at h
 by_cases e:i = j
 ·subst e
  rw [if_pos rfl] at h
  split at h
  ·cases h; exact .inl ⟨rfl,rfl⟩
  ·cases h
 ·rw [if_neg e] at h; exact .inr ⟨e,h⟩
theorem ArH.mkmap {b:Nat} {h h':Hp} {ps:List (Nat × Nat)} {ar:Ar} (hA:ArH b h ps ar) {i m:Nat} {t:TN} {p:Nat × Nat} (ht:ar[i]? = some t) (hp:ps[i]? = some p) (hk:t.kids = none) (hm1:∀ (j:Nat) q,ps[j]? = some q→q.1 ≠ m) (hm2:∀ (j:Nat) u q,ar[j]? = some u→ps[j]? = some q→u.kids ≠ none→q.2 ≠ m) (hbm:b≤m)
  (h1:h' p.1 = some (.cells eK [.sc (.int .i64 t.self),.sc (.int .i64 t.count),.mp m])) (h2:h' m = some (.map .string false [])) (hkeep:∀ k,k ≠ p.1→k ≠ m→h' k = h k) :
  ArH b h' (ps.set i (p.1,m)) (ar.set i { t with kids:=some [] }):=by
 refine ⟨by rw [qk,qk]; exact hA.len,fun j u q hu hq=>?_,fun j u q l hu hq hl=>?_,fun j k q r hq hr e=>?_,fun j k u v q r hu hv hq hr hu2 hv2 e=>?_,fun j k v q r hv hq hr hv2=>?_⟩
 ·rcases gq hu with ⟨e,rfl⟩ | ⟨e,hu⟩
  ·subst e
   rcases gq hq with ⟨_,rfl⟩ | ⟨e,_⟩
   ·exact ⟨(hA.cell _ _ _ ht hp).1,h1⟩
   ·exact absurd rfl e
  ·rcases gq hq with ⟨e',_⟩ | ⟨_,hq⟩
   ·exact absurd e' e
   ·obtain ⟨c1,c2⟩:=hA.cell j u q hu hq
    exact ⟨c1,(hkeep _ (fun e2=>e (hA.inj _ _ _ _ hp hq e2.symm)) (hm1 j q hq)).trans c2⟩
 ·rcases gq hu with ⟨e,rfl⟩ | ⟨e,hu⟩
  ·subst e
   rcases gq hq with ⟨_,rfl⟩ | ⟨e,_⟩
   ·cases hl
    exact ⟨hbm,h2,fun e he=>by simp at he⟩
   ·exact absurd rfl e
  ·rcases gq hq with ⟨e',_⟩ | ⟨_,hq⟩
   ·exact absurd e' e
   ·obtain ⟨c1,c2,c3⟩:=hA.kmap j u q l hu hq hl
    have hne:u.kids ≠ none:=by rw [hl]; simp
    refine ⟨c1,?_,fun x hx=>by rw [qk]; exact c3 x hx⟩
    rw [hkeep _ (fun e2=>hA.ne i j u p q hu hp hq hne e2.symm) (hm2 j u q hu hq hne),c2]
    congr 2
    refine List.map_congr_left fun x _=>?_
    rw [aMJ hp]
 ·rcases gq hq with ⟨e1,rfl⟩ | ⟨e1,hq⟩ <;> rcases gq hr with ⟨e2,rfl⟩ | ⟨e2,hr⟩
  ·rw [← e1,← e2]
  ·exact (hA.inj i k p r hp hr e ▸ e1.symm)
  ·rw [← e2]; exact hA.inj j i q p hq hp e
  ·exact hA.inj j k q r hq hr e
 ·rcases gq hq with ⟨e1,rfl⟩ | ⟨e1,hq⟩ <;> rcases gq hr with ⟨e2,rfl⟩ | ⟨e2,hr⟩
  ·rw [← e1,← e2]
  ·rcases gq hv with ⟨e3,_⟩ | ⟨_,hv⟩
   ·exact absurd e3 e2
   ·exact absurd e.symm (hm2 k v r hv hr hv2)
  ·rcases gq hu with ⟨e3,_⟩ | ⟨_,hu⟩
   ·exact absurd e3 e1
   ·exact absurd e (hm2 j u q hu hq hu2)
  ·rcases gq hu with ⟨e3,_⟩ | ⟨_,hu⟩
   ·exact absurd e3 e1
   ·rcases gq hv with ⟨e3,_⟩ | ⟨_,hv⟩
    ·exact absurd e3 e2
    ·exact hA.injm j k u v q r hu hv hq hr hu2 hv2 e
 ·rcases gq hr with ⟨e2,rfl⟩ | ⟨e2,hr⟩
  ·rcases gq hq with ⟨e1,rfl⟩ | ⟨e1,hq⟩
   ·exact hm1 i p hp
   ·exact hm1 j q hq
  ·rcases gq hv with ⟨e3,_⟩ | ⟨_,hv⟩
   ·exact absurd e3 e2
   ·rcases gq hq with ⟨e1,rfl⟩ | ⟨e1,hq⟩
    ·exact hA.ne i k v p r hv hp hr hv2
    ·exact hA.ne j k v q r hv hq hr hv2
end Go.RM
namespace Go.RM
open Go Go.Proofs
theorem yW {α:Type} {l:List α} {j:Nat} {x y:α} (h:(l++[x])[j]? = some y):(j < l.length∧l[j]? = some y)∨(j = l.length∧y = x):=by
 rcases Nat.lt_or_ge j l.length with h1 | h1
 ·rw [jk h1] at h; exact .inl ⟨h1,h⟩
 ·rw [rk h1] at h
  have h2:=(bw.1 h).1
  simp only [List.length_singleton] at h2
  have e:j - l.length = 0:=by omega
  rw [e] at h
  cases h; exact .inr ⟨by omega,rfl⟩
theorem ArH.mkkid {b:Nat} {h h':Hp} {ps:List (Nat × Nat)} {ar:Ar} (hA:ArH b h ps ar) {i n:Nat} {t:TN} {p:Nat × Nat} {l:List (ByteArray × Nat)} {s:ByteArray} (ht:ar[i]? = some t) (hp:ps[i]? = some p) (hk:t.kids = some l) (hm1:∀ (j:Nat) q,ps[j]? = some q→q.1 ≠ n) (hm2:∀ (j:Nat) u q,ar[j]? = some u→ps[j]? = some q→u.kids ≠ none→q.2 ≠ n) (hbn:b≤n)
  (h1:h' n = some (.cells eK [.sc (.int .i64 0),.sc (.int .i64 0),.sc (.map none)])) (h2:h' p.2 = some (.map .string false (l.map (fun e=>((Value.string e.1,V.c (.ptr ((ps.getD e.2 (0,0)).1) 0)):Value × V))++[(.string s,.c (.ptr n 0))]))) (hkeep:∀ k,k ≠ p.2→k ≠ n→h' k = h k) :
  ArH b h' (ps++[(n,0)]) (ar.set i { t with kids:=some (l++[(s,ar.length)]) }++[⟨0,0,none⟩]):=by
 have hl:=hA.len
 have hin:=(bw.1 ht).1
 have hkn:t.kids ≠ none:=by rw [hk]; simp
 have hg:∀ j,j < ar.length→((ps++[(n,0)]).getD j (0,0)).1 = (ps.getD j (0,0)).1:=fun j hj=>by
  rw [List.getD_eq_getElem?_getD,List.getD_eq_getElem?_getD,jk (by omega)]
 have hgn:((ps++[(n,0)]).getD ar.length (0,0)).1 = n:=by
  rw [List.getD_eq_getElem?_getD,rk (by omega),show ar.length - ps.length = 0 from by omega]; rfl
 have hent:∀ (j:Nat) u q,(ar.set i { t with kids:=some (l++[(s,ar.length)]) }++[⟨0,0,none⟩])[j]? = some u→(ps++[(n,0)])[j]? = some q→(j = i∧u = { t with kids:=some (l++[(s,ar.length)]) }∧q = p)∨(j ≠ i∧j < ar.length∧ar[j]? = some u∧ps[j]? = some q)∨(j = ar.length∧u = ⟨0,0,none⟩∧q = (n,0)):=by
  intro j u q hu hq
  rcases yW hu with ⟨e1,hu⟩ | ⟨e1,rfl⟩
  ·rw [qk] at e1
   rcases yW hq with ⟨_,hq⟩ | ⟨e2,_⟩
   ·rcases gq hu with ⟨e,rfl⟩ | ⟨e,hu⟩
    ·subst e
     rw [hp] at hq; cases hq
     exact .inl ⟨rfl,rfl,rfl⟩
    ·exact .inr (.inl ⟨Ne.symm e,e1,hu,hq⟩)
   ·omega
  ·rw [qk] at e1
   rcases yW hq with ⟨e2,_⟩ | ⟨_,rfl⟩
   ·omega
   ·exact .inr (.inr ⟨e1,rfl,rfl⟩)
 have hfst:∀ (j:Nat) q,(ps++[(n,0)])[j]? = some q→ps[j]? = some q∨(j = ar.length∧q = (n,0)):=fun j q hq=>by
  rcases yW hq with ⟨_,hq⟩ | ⟨e,rfl⟩
  ·exact .inl hq
  ·exact .inr ⟨by omega,rfl⟩
 refine ⟨by rw [nw,nw,qk,hl]; rfl,fun j u q hu hq=>?_,fun j u q l' hu hq hl'=>?_,fun j k q r hq hr e=>?_,fun j k u v q r hu hv hq hr hu2 hv2 e=>?_,fun j k v q r hv hq hr hv2=>?_⟩
 ·rcases hent j u q hu hq with ⟨rfl,rfl,rfl⟩ | ⟨e,_,hu,hq⟩ | ⟨_,rfl,rfl⟩
  ·obtain ⟨c1,c2⟩:=hA.cell _ _ _ ht hp
   refine ⟨c1,?_⟩
   rw [hkeep _ (hA.ne _ _ t _ _ ht hp hp hkn) (hm1 _ _ hp),c2]
   unfold HV; rw [hk]
  ·obtain ⟨c1,c2⟩:=hA.cell _ _ _ hu hq
   exact ⟨c1,(hkeep _ (hA.ne _ _ t _ _ ht hq hp hkn) (hm1 _ _ hq)).trans c2⟩
  ·exact ⟨hbn,h1⟩
 ·rcases hent j u q hu hq with ⟨rfl,rfl,rfl⟩ | ⟨e,hj,hu,hq⟩ | ⟨_,rfl,rfl⟩
  ·cases hl'
   obtain ⟨c1,_,c3⟩:=hA.kmap _ _ _ _ ht hp hk
   refine ⟨c1,?_,fun x hx=>?_⟩
   ·rw [h2,List.map_append,List.map_singleton,hgn]
    congr 3
    refine List.map_congr_left fun x hx=>?_
    rw [hg _ (c3 x hx)]
   ·rw [nw,qk,List.length_singleton]
    rcases qw.1 hx with hx | hx
    ·have:=c3 x hx; omega
    ·rw [dk.1 hx]; show ar.length < ar.length + 1; omega
  ·obtain ⟨c1,c2,c3⟩:=hA.kmap _ _ _ _ hu hq hl'
   have hne:u.kids ≠ none:=by rw [hl']; simp
   refine ⟨c1,?_,fun x hx=>?_⟩
   ·rw [hkeep _ (fun e2=>e (hA.injm _ _ _ _ _ _ hu ht hq hp hne hkn e2)) (hm2 _ _ _ hu hq hne),c2]
    congr 2
    refine List.map_congr_left fun x hx=>?_
    rw [hg _ (c3 x hx)]
   ·rw [nw,qk,List.length_singleton]
    have:=c3 x hx; omega
  ·cases hl'
 ·rcases hfst j q hq with hq | ⟨e1,rfl⟩ <;> rcases hfst k r hr with hr | ⟨e2,rfl⟩
  ·exact hA.inj _ _ _ _ hq hr e
  ·exact absurd e (hm1 _ _ hq)
  ·exact absurd e.symm (hm1 _ _ hr)
  ·rw [e1,e2]
 ·rcases hent j u q hu hq with ⟨rfl,rfl,rfl⟩ | ⟨e1,_,hu',hq'⟩ | ⟨_,rfl,rfl⟩
  ·rcases hent k v r hv hr with ⟨rfl,rfl,rfl⟩ | ⟨e2,_,hv',hr'⟩ | ⟨_,rfl,rfl⟩
   ·rfl
   ·exact hA.injm _ _ _ _ _ _ ht hv' hp hr' hkn hv2 e
   ·exact absurd rfl hv2
  ·rcases hent k v r hv hr with ⟨rfl,rfl,rfl⟩ | ⟨e2,_,hv',hr'⟩ | ⟨_,rfl,rfl⟩
   ·exact hA.injm _ _ _ _ _ _ hu' ht hq' hp hu2 hkn e
   ·exact hA.injm _ _ _ _ _ _ hu' hv' hq' hr' hu2 hv2 e
   ·exact absurd rfl hv2
  ·exact absurd rfl hu2
 ·rcases hent k v r hv hr with ⟨rfl,rfl,rfl⟩ | ⟨e2,_,hv,hr⟩ | ⟨_,rfl,rfl⟩
  ·rcases hfst j q hq with hq | ⟨e1,rfl⟩
   ·exact hA.ne _ _ t _ _ ht hq hp hkn
   ·exact fun e=>hm2 _ _ _ ht hp hkn e.symm
  ·rcases hfst j q hq with hq | ⟨e1,rfl⟩
   ·exact hA.ne _ _ _ _ _ hv hq hr hv2
   ·exact fun e=>hm2 _ _ _ hv hr hv2 e.symm
  ·exact absurd rfl hv2
end Go.RM
namespace Go.RM
open Go Go.Proofs
theorem ArH.sums {b:Nat} {h h':Hp} {ps:List (Nat × Nat)} {ar:Ar} (hA:ArH b h ps ar) {i:Nat} {t:TN} {p:Nat × Nat} {x y:Int} (ht:ar[i]? = some t) (hp:ps[i]? = some p)
  (h1:h' p.1 = some (.cells eK [.sc (.int .i64 x),.sc (.int .i64 y),HV t p.2])) (hkeep:∀ k,k ≠ p.1→h' k = h k) :
  ArH b h' ps (ar.set i { t with self:=x,count:=y }):=by
 have hent:∀ (j:Nat) u q,(ar.set i { t with self:=x,count:=y })[j]? = some u→ps[j]? = some q→∃ u',ar[j]? = some u'∧u'.kids = u.kids∧(j = i→u = { t with self:=x,count:=y }∧q = p)∧(j ≠ i→u = u'):=by
  intro j u q hu hq
  rcases gq hu with ⟨e,rfl⟩ | ⟨e,hu⟩
  ·subst e
   rw [hp] at hq; cases hq
   exact ⟨t,ht,rfl,fun _=>⟨rfl,rfl⟩,fun h=>absurd rfl h⟩
  ·exact ⟨u,hu,rfl,fun h=>absurd h.symm e,fun _=>rfl⟩
 refine ⟨by rw [qk]; exact hA.len,fun j u q hu hq=>?_,fun j u q l hu hq hl=>?_,hA.inj,fun j k u v q r hu hv hq hr hu2 hv2 e=>?_,fun j k v q r hv hq hr hv2=>?_⟩
 ·obtain ⟨u',c1,c2,c3,c4⟩:=hent j u q hu hq
  obtain ⟨d1,d2⟩:=hA.cell j u' q c1 hq
  by_cases e:j = i
  ·obtain ⟨rfl,rfl⟩:=c3 e
   exact ⟨d1,h1⟩
  ·rw [c4 e]
   exact ⟨d1,(hkeep _ fun e2=>e (hA.inj _ _ _ _ hq hp e2)).trans d2⟩
 ·obtain ⟨u',c1,c2,_,_⟩:=hent j u q hu hq
  obtain ⟨d1,d2,d3⟩:=hA.kmap j u' q l c1 hq (c2.trans hl)
  refine ⟨d1,(hkeep _ fun e2=>hA.ne _ _ _ _ _ c1 hp hq (by rw [c2,hl]; simp) e2.symm).trans d2,fun e he=>by rw [qk]; exact d3 e he⟩
 ·obtain ⟨u',c1,c2,_,_⟩:=hent j u q hu hq
  obtain ⟨v',d1,d2,_,_⟩:=hent k v r hv hr
  exact hA.injm j k u' v' q r c1 d1 hq hr (by rw [c2]; exact hu2) (by rw [d2]; exact hv2) e
 ·obtain ⟨v',d1,d2,_,_⟩:=hent k v r hv hr
  exact hA.ne j k v' q r d1 hq hr (by rw [d2]; exact hv2)
end Go.RM
namespace Go.RM
open Go.VM (T wj tI)
def vQ (s:ByteArray):X:=.sc (.string s)
def PathX (b:Nat) (h:Hp) (x:X) (l:List ByteArray):Prop:=x = .im 1 (l.map fun s=>[.sc (.string s)])∨∃ m,b≤m∧x = .sl m 1 0 l.length∧h m = some (.cells fQ (l.map vQ))
def KeepC (s s':S):Prop:=s.c≤s'.c∧∀ k e xs,s.h.get k = some (.cells e xs)→e ≠ eK→s'.h.get k = some (.cells e xs)
theorem KeepC.refl (s:S):KeepC s s:=⟨gw _,fun _ _ _ h _=>h⟩
theorem KeepC.trans {s s' s'':S} (h:KeepC s s') (k:KeepC s' s''):KeepC s s'':=⟨Nat.le_trans h.1 k.1,fun n e xs hn he=>k.2 n e xs (h.2 n e xs hn he) he⟩
theorem PathX.keep {b:Nat} {s s':S} {x:X} {l:List ByteArray} (h:PathX b s.h.get x l) (k:KeepC s s'):PathX b s'.h.get x l:=by
 rcases h with h | ⟨m,h0,h1,h2⟩
 ·exact .inl h
 ·exact .inr ⟨m,h0,h1,k.2 m _ _ h2 (by decide)⟩
theorem aCV {ar:Ar} {i:Nat} {t:TN} {l:List (ByteArray × Nat)} (ht:ar[i]? = some t) (hk:t.kids = some l):ar.set i { t with kids:=some l } = ar:=by
 have:({ t with kids:=some l }:TN) = t:=by cases t; simp only at hk; subst hk; rfl
 rw [this]
 apply List.ext_getElem?
 intro j
 rw [uw]
 by_cases e:i = j
 ·subst e; rw [if_pos rfl,if_pos (bw.1 ht).1,ht]
 ·rw [if_neg e]
theorem ArH.ar {b:Nat} {h:Hp} {ps:List (Nat × Nat)} {ar:Ar} (hA:ArH b h ps ar) {i:Nat} {p:Nat × Nat} (hp:ps[i]? = some p):∃ t,ar[i]? = some t:=⟨_,bk (by rw [← hA.len]; exact (bw.1 hp).1)⟩
theorem ArH.lt {b:Nat} {s:S} {ps:List (Nat × Nat)} {ar:Ar} (hS:Sb b s) (hA:ArH b s.h.get ps ar):(∀ (j:Nat) q,ps[j]? = some q→q.1 < s.c)∧(∀ (j:Nat) u q,ar[j]? = some u→ps[j]? = some q→u.kids ≠ none→q.2 < s.c):=by
 refine ⟨fun j q hq=>?_,fun j u q hu hq hk=>?_⟩
 ·obtain ⟨t,ht⟩:=hA.ar hq
  exact hS.lt (hA.cell j t q ht hq).2
 ·cases hl:u.kids with
  | none=>exact absurd hl hk
  | some l=>exact hS.lt (hA.kmap j u q l hu hq hl).2.1
theorem ArH.keep {b:Nat} {h h':Hp} {ps:List (Nat × Nat)} {ar:Ar} (hA:ArH b h ps ar) (h1:∀ (j:Nat) q,ps[j]? = some q→h' q.1 = h q.1) (h2:∀ (j:Nat) u q,ar[j]? = some u→ps[j]? = some q→u.kids ≠ none→h' q.2 = h q.2):ArH b h' ps ar :=
 ⟨hA.len,fun i t p ht hp=>⟨(hA.cell i t p ht hp).1,(h1 i p hp).trans (hA.cell i t p ht hp).2⟩,fun i t p l ht hp hl=>⟨(hA.kmap i t p l ht hp hl).1,(h2 i t p ht hp (by rw [hl]; simp)).trans (hA.kmap i t p l ht hp hl).2.1,(hA.kmap i t p l ht hp hl).2.2⟩,hA.inj,hA.injm,hA.ne⟩
theorem DJ {s:ByteArray} {k:Nat}:∀ {L:List (ByteArray × Nat)},pZ s L = some k→(s,k)∈L
 | [],h=>by simp [pZ] at h
 | a :: L,h=>by
  simp only [pZ] at h
  split at h
  ·rename_i e
   cases h
   rw [e]; exact mw
  ·exact ik _ (DJ h)
theorem yY {s:ByteArray}:∀ {L:List (ByteArray × Nat)},pZ s L = none→∀ e∈L,e.1 ≠ s
 | [],_,e,he=>by simp at he
 | a :: L,h,e,he=>by
  simp only [pZ] at h
  split at h
  ·simp at h
  ·rename_i hne
   rcases List.mem_cons.1 he with rfl | he
   ·exact Ne.symm hne
   ·exact yY h e he
theorem X8 {s:ByteArray} {k:Nat}:∀ {L:List (ByteArray × Nat)},pZ s L = none→pZ s (L++[(s,k)]) = some k
 | [],_=>by simp [pZ]
 | a :: L,h=>by
  simp only [pZ,List.cons_append] at h ⊢
  split at h
  ·simp at h
  ·rename_i hne
   rw [if_neg hne]; exact X8 h
theorem aij {s:ByteArray} {v:V} (f:ByteArray × Nat→V):∀ {L:List (ByteArray × Nat)},(∀ e∈L,e.1 ≠ s)→Go.VM.putK (.string s) v (L.map fun e=>((Value.string e.1,f e):Value × V)) = (L.map fun e=>((Value.string e.1,f e):Value × V))++[(.string s,v)]
 | [],_=>rfl
 | a :: L,h=>by
  have h1:=h a mw
  have hb:Go.VM.keyB (.string s) (.string a.1) = false:=by simp [Go.VM.keyB,Ne.symm h1]
  simp only [lw,Go.VM.putK,hb,iw,jw,List.cons_append]
  rw [aij f fun e he=>h e (ik _ he)]
set_option maxHeartbeats 4000000 in
theorem aQJ {orc:c6} {b:Nat} {s:S} {ps:List (Nat × Nat)} {ar ar':Ar} {x:X} {l:List ByteArray} {self count:Int} {p0:Nat × Nat} (hS:Sb b s) (hA:ArH b s.h.get ps ar) (hl:l.length≤1000000) (hp0:ps[0]? = some p0) (hx:PathX b s.h.get x l) (hadd:aaW ar l self count = some ar') :
  Cp orc VK p5 [.c (.ptr p0.1 0),.c x,iV self,iV count] s (fun k=>b≤k) True fun _ s'=>∃ ps' m,Sb b s'∧ArH b s'.h.get ps' ar'∧ps'[0]? = some (p0.1,m)∧KeepC s s':=by
 refine SZ (rf:=o5) rfl ?_
 unfold o5
 obtain ⟨Γ,hΓ⟩ : ∃ Γ,Γ = ofL [V.c (.ptr p0.1 0),.c x,iV self,iV count] 0 .lf:=⟨_,rfl⟩
 have g0:look Γ 0 = .c (.ptr p0.1 0):=by rw [hΓ]; rfl
 have g1:look Γ 1 = .c x:=by rw [hΓ]; rfl
 have g2:look Γ 2 = iV self:=by rw [hΓ]; rfl
 have g3:look Γ 3 = iV count:=by rw [hΓ]; rfl
 rw [← hΓ]
 try clear G
 clear hΓ
 unfold aaW at hadd
 obtain ⟨pf,hfold,hadd⟩:=ak.1 hadd
 obtain ⟨tf,htf,rfl⟩:=aw.1 hadd
 try clear G
 clear hadd
 refine p7 (fun Γ t=>look Γ 2 = iV self∧look Γ 3 = iV count∧∃ (ps1:List (Nat × Nat)) (m0:Nat) (q:Nat × Nat),look Γ 0 = .c (.ptr q.1 0)∧ps1[pf.2]? = some q∧Sb b t∧ArH b t.h.get ps1 pf.1∧ps1[0]? = some (p0.1,m0)∧KeepC s t) ?_ ?_
 ·refine p7 (fun Γ t=>s = t∧look Γ 0 = .c (.ptr p0.1 0)∧look Γ 2 = iV self∧look Γ 3 = iV count∧look Γ 10 = .c x∧look Γ 11 = iV (l.length:Int)∧look Γ 12 = iV 0) ?_ ?_
  ·rcases hx with rfl | ⟨m,_,rfl,_⟩
   ·skip
    replace G:=fk g0 (fk g1 (fk g2 g3))
    refine a6 ?_
    refine qVL ?_
    refine qPL ?_
    refine qVL ?_
    refine cq ?_
    try dsimp only [cj]
    exact ⟨rfl,lkL,lkL,lkL,lkL,lkL,lkL⟩
   ·skip
    replace G:=fk g0 (fk g1 (fk g2 g3))
    refine a6 ?_
    refine qV ?_
    refine qP ?_
    refine qV ?_
    refine cq ?_
    try dsimp only [cj]
    exact ⟨rfl,lk,lk,lk,lk,lk,lk⟩
  ·try clear G
   clear g0 g1 g2 g3
   rintro Γ t ⟨rfl,g0,g2,g3,g10,g11,g12⟩
   refine uj (abV (fun Γ t=>look Γ 2 = iV self∧look Γ 3 = iV count∧look Γ 10 = .c x∧look Γ 11 = iV (l.length:Int)∧∃ (j:Nat) (ps1:List (Nat × Nat)) (m0:Nat) (q:Nat × Nat) (p:Ar × Nat),look Γ 12 = iV (j:Int)∧j≤l.length∧(l.drop j).foldlM J6 p = some pf∧look Γ 0 = .c (.ptr q.1 0)∧ps1[p.2]? = some q∧Sb b t∧ArH b t.h.get ps1 p.1∧ps1[0]? = some (p0.1,m0)∧KeepC s t) (fun Γ _=>match look Γ 12 with
    | .c (.sc (.int _ i))=>l.length - i.toNat
    | _=>0) ⟨g2,g3,g10,g11,0,ps,p0.2,p0,(ar,0),g12,Nat.zero_le _,hfold,g0,hp0,hS,hA,hp0,KeepC.refl _⟩ ?_)
   try clear G
   clear g0 g2 g3 g10 g11 g12 Γ hA hfold hp0
   rintro Γ t ⟨g2,g3,g10,g11,j,ps1,m0,q,p,g12,hj,hfold,g0,hq,hS,hA,hp0,hK⟩
   replace G:=fk g0 (fk g2 (fk g3 (fk g10 (fk g11 g12))))
   refine cY (a6 ?_)
   refine qP ?_
   refine cq ?_
   dsimp only [cj]
   by_cases hjl:j < l.length
   ·refine cY (j2 (t:=true) ?_ (xJ ?_))
    ·simp only [G8,vj,if_true,isB,bV,scV]
     rw [decide_eq_true (by omega)]
    dsimp only [cj]
    obtain ⟨sj,hsj⟩ : ∃ sj,l[j]? = some sj:=⟨_,bk hjl⟩
    have hdrop:l.drop j = sj :: l.drop (j + 1):=by
     rw [List.drop_eq_getElem_cons hjl]
     rw [bk hjl] at hsj
     cases hsj; rfl
    rw [hdrop,List.foldlM_cons] at hfold
    obtain ⟨p',hdown,hfold2⟩:=ak.1 hfold
    obtain ⟨a1,i⟩:=p
    simp only at hq hA
    unfold J6 at hdown
    obtain ⟨tn,htn,hdown⟩:=aw.1 hdown
    simp only at htn hdown
    have hxt:=hx.keep hK
    refine p7 (fun Γ t'=>look Γ 2 = iV self∧look Γ 3 = iV count∧look Γ 10 = .c x∧look Γ 11 = iV (l.length:Int)∧look Γ 12 = iV (j:Int)∧∃ (ps1:List (Nat × Nat)) (m0:Nat) (q:Nat × Nat),look Γ 0 = .c (.ptr q.1 0)∧ps1[p'.2]? = some q∧Sb b t'∧ArH b t'.h.get ps1 p'.1∧ps1[0]? = some (p0.1,m0)∧KeepC s t') (uj ?_) ?_
    ·refine p7 (fun Γ t'=>t = t'∧look Γ 0 = .c (.ptr q.1 0)∧look Γ 2 = iV self∧look Γ 3 = iV count∧look Γ 10 = .c x∧look Γ 11 = iV (l.length:Int)∧look Γ 12 = iV (j:Int)∧look Γ 9 = .c (.sc (.string sj))) ?_ ?_
     ·rcases hxt with rfl | ⟨m,hbm,rfl,hm⟩
      ·have hrow:(l.map fun s=>[T.sc (.string s)])[j]? = some [.sc (.string sj)]:=by rw [ow,hsj]; rfl
       replace G:=fk g0 (fk g2 (fk g3 (fk g10 (fk g11 g12))))
       refine a6 ?_
       refine qX ?_
       refine qL ?_
       refine qV ?_
       refine cq ?_
       try dsimp only [cj]
       exact ⟨rfl,lk,lk,lk,lk,lk,lk,lk⟩
      ·have hrow:(l.map vQ)[j]? = some (.sc (.string sj)):=by rw [ow,hsj]; rfl
       replace G:=fk g0 (fk g2 (fk g3 (fk g10 (fk g11 g12))))
       refine a6 ?_
       refine qX ?_
       refine qL ?_
       refine qV ?_
       refine cq ?_
       try dsimp only [cj]
       exact ⟨rfl,lk,lk,lk,lk,lk,lk,lk⟩
     ·try clear G
      clear g0 g2 g3 g10 g11 g12
      rintro Γ _ ⟨rfl,g0,g2,g3,g10,g11,g12,g9⟩
      obtain ⟨hbq,hcell⟩:=hA.cell i tn q htn hq
      have hqc:=hS.lt hcell
      obtain ⟨lt1,lt2⟩:=hA.lt hS
      refine p7 (fun Γ t'=>look Γ 0 = .c (.ptr q.1 0)∧look Γ 2 = iV self∧look Γ 3 = iV count∧look Γ 10 = .c x∧look Γ 11 = iV (l.length:Int)∧look Γ 12 = iV (j:Int)∧look Γ 9 = .c (.sc (.string sj))∧∃ (ps2:List (Nat × Nat)) (m2 m0:Nat),ps2[i]? = some (q.1,m2)∧Sb b t'∧ArH b t'.h.get ps2 (a1.set i { tn with kids:=some (tn.kids.getD []) })∧ps2[0]? = some (p0.1,m0)∧KeepC s t') ?_ ?_
      ·cases hk:tn.kids with
       | none =>
        have hkx:HV tn q.2 = .sc (.map none):=by unfold HV; rw [hk]
        rw [hkx] at hcell
        replace G:=fk g0 (fk g2 (fk g3 (fk g10 (fk g11 (fk g12 g9)))))
        refine cY (a6 ?_)
        refine qV ?_
        refine qP ?_
        refine qP ?_
        refine qL ?_
        refine fX rfl (by first | exact acV (by simp only [evS,Nat.reduceEqDiff,reduceIte,G]; first | done | rfl) (by simp only [evS,Nat.reduceEqDiff,reduceIte,G]; first | done | rfl) | exact SX (by simp only [evS,Nat.reduceEqDiff,reduceIte,G]; first | done | rfl) (by simp only [evS,Nat.reduceEqDiff,reduceIte,G]; first | done | rfl) | exact aaK (by simp only [evS,Nat.reduceEqDiff,reduceIte,G]; first | done | rfl) (by simp only [evS,Nat.reduceEqDiff,reduceIte,G]; first | done | rfl) | exact SK (by simp only [evS,Nat.reduceEqDiff,reduceIte,G]; first | done | rfl) (by simp only [evS,Nat.reduceEqDiff,reduceIte,G]; first | done | rfl)) ?_
        refine cq ?_
        dsimp only [cj]
        refine j2 (t:=true) (by simp only [evS,Nat.reduceEqDiff,reduceIte]; rfl) ?_
        dsimp only [cond_true]
        refine a6 ?_
        refine qV ?_
        refine KV rfl (MS.mkmap hS) (fun k hk=>by first | exact False.elim hk | (dsimp only at hk ⊢; omega) | omega) ?_
        refine OQ hS ?_
        intro s1 hst1 hsc1 hS1
        replace hcell:=hst1.at hcell (by omega)
        have hn1:=hst1.self
        refine qP ?_
        refine qP ?_
        refine qT ?_
        refine E6 hS1 (by omega) (by omega) ?_
        intro s2 hst2 hsc2 hS2
        first | replace hcell:=hst2.at hcell (by omega) | replace hcell:=hst2.self
        first | replace hn1:=hst2.at hn1 (by omega) | replace hn1:=hst2.self
        refine cq ?_
        try dsimp only [cj]
        have hgd:((none:Option (List (ByteArray × Nat))).getD []) = []:=rfl
        refine ⟨lk,lk,lk,lk,lk,lk,lk,ps1.set i (q.1,t.c),t.c,if i = 0 then t.c else m0,?_,hS2,?_,?_,?_⟩
        ·rw [uw,if_pos rfl,if_pos (bw.1 hq).1]
        ·rw [hgd]
         refine hA.mkmap htn hq hk (fun j q' hq'=>by have:=lt1 j q' hq'; omega) (fun j u q' hu hq' hk'=>by have:=lt2 j u q' hu hq' hk'; omega) hS.le hcell ?_ (fun k h1 h2=>?_)
         ·exact hn1
         ·rw [hst2.keep k h1,hst1.keep k h2]
        ·rw [uw]
         by_cases e:i = 0
         ·subst e
          rw [hp0] at hq; cases hq
          rw [if_pos rfl,if_pos (bw.1 hp0).1,if_pos rfl]
         ·rw [if_neg e,if_neg e]; exact hp0
        ·refine hK.trans ⟨by omega,fun k e xs hk he=>?_⟩
         have hkc:=hS.lt hk
         have hkq:k ≠ q.1:=fun h=>by
          rw [h,(hA.cell i tn q htn hq).2] at hk
          cases hk; exact he rfl
         rw [hst2.keep k hkq,hst1.keep k (by omega)]; exact hk
       | some l0 =>
        have hkx:HV tn q.2 = .mp q.2:=by unfold HV; rw [hk]
        rw [hkx] at hcell
        replace G:=fk g0 (fk g2 (fk g3 (fk g10 (fk g11 (fk g12 g9)))))
        refine cY (a6 ?_)
        refine qV ?_
        refine qP ?_
        refine qP ?_
        refine qL ?_
        refine fX rfl (by first | exact acV (by simp only [evS,Nat.reduceEqDiff,reduceIte,G]; first | done | rfl) (by simp only [evS,Nat.reduceEqDiff,reduceIte,G]; first | done | rfl) | exact SX (by simp only [evS,Nat.reduceEqDiff,reduceIte,G]; first | done | rfl) (by simp only [evS,Nat.reduceEqDiff,reduceIte,G]; first | done | rfl) | exact aaK (by simp only [evS,Nat.reduceEqDiff,reduceIte,G]; first | done | rfl) (by simp only [evS,Nat.reduceEqDiff,reduceIte,G]; first | done | rfl) | exact SK (by simp only [evS,Nat.reduceEqDiff,reduceIte,G]; first | done | rfl) (by simp only [evS,Nat.reduceEqDiff,reduceIte,G]; first | done | rfl)) ?_
        refine cq ?_
        dsimp only [cj]
        refine j2 (t:=false) (by simp only [evS,Nat.reduceEqDiff,reduceIte]; rfl) (xJ ?_)
        refine ⟨lk,lk,lk,lk,lk,lk,lk,ps1,q.2,m0,hq,hS,?_,hp0,hK⟩
        rw [show ((some l0:Option (List (ByteArray × Nat))).getD []) = l0 from rfl,aCV htn hk]
        exact hA
      ·try clear G
       clear g0 g2 g3 g10 g11 g12 g9 hcell hqc lt1 lt2 hA hS hK hp0
       rintro Γ t2 ⟨g0,g2,g3,g10,g11,g12,g9,ps2,m2,m0,hq2,hS,hA,hp0,hK⟩
       generalize hL:tn.kids.getD [] = L at hdown hA
       have hin:i < a1.length:=(bw.1 htn).1
       have ht2:(a1.set i { tn with kids:=some L })[i]? = some { tn with kids:=some L }:=by rw [uw,if_pos rfl,if_pos hin]
       obtain ⟨hbq,hcell⟩:=hA.cell i _ _ ht2 hq2
       obtain ⟨hbm,hmap,hkl⟩:=hA.kmap i _ _ L ht2 hq2 rfl
       have hqc:=hS.lt hcell
       have hmc:=hS.lt hmap
       obtain ⟨lt1,lt2⟩:=hA.lt hS
       have hqm:q.1 ≠ m2:=hA.ne i i _ _ _ ht2 hq2 hq2 (by simp)
       simp only [HV] at hcell hbq hbm hmap hqc hmc
       have hkey:=I3 ps2 sj L
       refine p7 (fun Γ t'=>look Γ 0 = .c (.ptr q.1 0)∧look Γ 2 = iV self∧look Γ 3 = iV count∧look Γ 10 = .c x∧look Γ 11 = iV (l.length:Int)∧look Γ 12 = iV (j:Int)∧look Γ 9 = .c (.sc (.string sj))∧∃ (ps2:List (Nat × Nat)) (m2 m0:Nat) (tk:TN) (kk:List (ByteArray × Nat)),ps2[i]? = some (q.1,m2)∧Sb b t'∧ArH b t'.h.get ps2 p'.1∧p'.1[i]? = some tk∧tk.kids = some kk∧pZ sj kk = some p'.2∧p'.2 < p'.1.length∧ps2[0]? = some (p0.1,m0)∧KeepC s t') ?_ ?_
       ·cases hka:pZ sj L with
        | none =>
         rw [hka] at hkey hdown
         cases hdown
         simp only [Option.map_none] at hkey
         replace G:=fk g0 (fk g2 (fk g3 (fk g10 (fk g11 (fk g12 g9)))))
         refine cY (a6 ?_)
         refine qV ?_
         refine qP ?_
         refine qP ?_
         refine qL ?_
         refine qV ?_
         refine KV rfl (by first | exact MS.lookS (by simp only [evS,Nat.reduceEqDiff,reduceIte,G]; first | done | rfl) (by simp only [evS,Nat.reduceEqDiff,reduceIte,E4,G]; rfl) (wQ (by assumption)) rfl (by assumption) | exact MS.lookN (by simp only [evS,Nat.reduceEqDiff,reduceIte,G]; first | done | rfl) (by simp only [evS,Nat.reduceEqDiff,reduceIte,E4,G]; rfl) (wQ (by assumption)) rfl (by assumption)) (fun k hk=>by first | exact False.elim hk | (dsimp only at hk ⊢; omega) | omega) ?_
         refine fX rfl (by first | exact acV (by simp only [evS,Nat.reduceEqDiff,reduceIte,G]; first | done | rfl) (by simp only [evS,Nat.reduceEqDiff,reduceIte,G]; first | done | rfl) | exact SX (by simp only [evS,Nat.reduceEqDiff,reduceIte,G]; first | done | rfl) (by simp only [evS,Nat.reduceEqDiff,reduceIte,G]; first | done | rfl) | exact aaK (by simp only [evS,Nat.reduceEqDiff,reduceIte,G]; first | done | rfl) (by simp only [evS,Nat.reduceEqDiff,reduceIte,G]; first | done | rfl) | exact SK (by simp only [evS,Nat.reduceEqDiff,reduceIte,G]; first | done | rfl) (by simp only [evS,Nat.reduceEqDiff,reduceIte,G]; first | done | rfl)) ?_
         refine cq ?_
         dsimp only [cj]
         refine j2 (t:=true) (by simp only [evS,Nat.reduceEqDiff,reduceIte]; rfl) ?_
         dsimp only [cond_true]
         refine a6 ?_
         refine qV ?_
         refine qP ?_
         refine qP ?_
         refine qL ?_
         refine qV ?_
         refine fX rfl (by simp only [evS,Nat.reduceEqDiff,reduceIte,PU,bj,scV,bV,iV,ij,isB,isI,q5,H8,mkV,fill,cZ,setAt,List.take_zero,List.take_succ_cons,List.take_nil,List.drop_nil,List.append_nil,List.nil_append,List.cons_append,List.length_cons,List.length_nil,Nat.reduceAdd,Nat.reduceLeDiff,acj,abq,eq_self,decide_true,Bool.and_self,G]; first | done | rfl) ?_
         refine KV rfl (MS.box hS (by simp only [evS,Nat.reduceEqDiff,reduceIte,cZ,G]; first | done | rfl)) (fun k hk=>by first | exact False.elim hk | (dsimp only at hk ⊢; omega) | omega) ?_
         refine OQ hS ?_
         intro s3 hst3 hsc3 hS3
         replace hcell:=hst3.at hcell (by omega)
         replace hmap:=hst3.at hmap (by omega)
         have hn3:=hst3.self
         refine KV rfl (MS.mupd (by simp only [evS,Nat.reduceEqDiff,reduceIte,G]; try rfl) (by simp only [evS,Nat.reduceEqDiff,reduceIte,E4,G]; rfl) (by assumption) rfl (by simp only [evS,Nat.reduceEqDiff,reduceIte,j3,G])) (fun k hk=>by first | exact False.elim hk | (dsimp only at hk ⊢; omega) | omega) ?_
         refine E6 hS3 (by omega) (by omega) ?_
         intro s4 hst4 hsc4 hS4
         first | replace hcell:=hst4.at hcell (by omega) | replace hcell:=hst4.self
         first | replace hmap:=hst4.at hmap (by omega) | replace hmap:=hst4.self
         first | replace hn3:=hst4.at hn3 (by omega) | replace hn3:=hst4.self
         refine cq ?_
         try dsimp only [cj]
         have hp2:ps2[i]? = some (q.1,m2):=hq2
         have hlen:=hA.len
         rw [qk] at hlen
         have hput:=aij (v:=V.c (.ptr t2.c 0)) (fun e=>V.c (.ptr ((ps2.getD e.2 (0,0)).1) 0)) (yY hka)
         have hmk:=hA.mkkid (h':=s4.h.get) (n:=t2.c) (s:=sj) ht2 hq2 rfl (fun j q' hq'=>by have:=lt1 j q' hq'; omega) (fun j u q' hu hq' hk'=>by have:=lt2 j u q' hu hq' hk'; omega) hS.le hn3 ?_ (fun k h1 h2=>?_)
         ·refine ⟨lk,lk,lk,lk,lk,lk,lk,ps2++[(t2.c,0)],m2,m0,{ tn with kids:=some (L++[(sj,a1.length)]) },L++[(sj,a1.length)],?_,hS4,?_,?_,rfl,?_,?_,?_,?_⟩
          rotate_left 1
          ·rw [List.set_set] at hmk
           simp only [qk] at hmk
           exact hmk
          ·rw [jk (by rw [qk]; exact hin),uw,if_pos rfl,if_pos hin]
          ·exact X8 hka
          ·rw [nw,qk]; simp
          ·rw [jk (bw.1 hp0).1]; exact hp0
          ·refine hK.trans ⟨by omega,fun k e xs hk he=>?_⟩
           have hkc:=hS.lt hk
           have hkm:k ≠ m2:=fun h=>by
            have h2:=(hA.kmap i _ _ L ht2 hq2 rfl).2.1
            rw [h,h2] at hk
            cases hk
           rw [hst4.keep k hkm,hst3.keep k (by omega)]; exact hk
          ·rw [jk (bw.1 hq2).1]; exact hq2
         ·rw [hst4.self,← hput]
          congr 2
          simp only [evS,Nat.reduceEqDiff,reduceIte]
         ·rw [hst4.keep k h1,hst3.keep k h2]
        | some k =>
         rw [hka] at hkey hdown
         cases hdown
         simp only [kw] at hkey
         replace G:=fk g0 (fk g2 (fk g3 (fk g10 (fk g11 (fk g12 g9)))))
         refine cY (a6 ?_)
         refine qV ?_
         refine qP ?_
         refine qP ?_
         refine qL ?_
         refine qV ?_
         refine KV rfl (by first | exact MS.lookS (by simp only [evS,Nat.reduceEqDiff,reduceIte,G]; first | done | rfl) (by simp only [evS,Nat.reduceEqDiff,reduceIte,E4,G]; rfl) (wQ (by assumption)) rfl (by assumption) | exact MS.lookN (by simp only [evS,Nat.reduceEqDiff,reduceIte,G]; first | done | rfl) (by simp only [evS,Nat.reduceEqDiff,reduceIte,E4,G]; rfl) (wQ (by assumption)) rfl (by assumption)) (fun k hk=>by first | exact False.elim hk | (dsimp only at hk ⊢; omega) | omega) ?_
         refine fX rfl (by first | exact acV (by simp only [evS,Nat.reduceEqDiff,reduceIte,G]; first | done | rfl) (by simp only [evS,Nat.reduceEqDiff,reduceIte,G]; first | done | rfl) | exact SX (by simp only [evS,Nat.reduceEqDiff,reduceIte,G]; first | done | rfl) (by simp only [evS,Nat.reduceEqDiff,reduceIte,G]; first | done | rfl) | exact aaK (by simp only [evS,Nat.reduceEqDiff,reduceIte,G]; first | done | rfl) (by simp only [evS,Nat.reduceEqDiff,reduceIte,G]; first | done | rfl) | exact SK (by simp only [evS,Nat.reduceEqDiff,reduceIte,G]; first | done | rfl) (by simp only [evS,Nat.reduceEqDiff,reduceIte,G]; first | done | rfl)) ?_
         refine cq ?_
         dsimp only [cj]
         refine j2 (t:=false) (by simp only [evS,Nat.reduceEqDiff,reduceIte]; rfl) (xJ ?_)
         have hkm:(sj,k)∈L:=DJ hka
         have hkk:=hkl _ hkm
         rw [qk] at hkk
         refine ⟨lk,lk,lk,lk,lk,lk,lk,ps2,m2,m0,_,L,hq2,hS,hA,ht2,rfl,hka,by rw [qk]; exact hkk,hp0,hK⟩
       ·try clear G
        clear g0 g2 g3 g10 g11 g12 g9 hcell hmap hkey hqc hmc hqm lt1 lt2 hA hS hK hp0 hq2 hbq hbm hkl
        rintro Γ t3 ⟨g0,g2,g3,g10,g11,g12,g9,ps3,m3,m0,tk,kk,hq3,hS,hA,htk,hlk,hka,hkn,hp0,hK⟩
        obtain ⟨hbq,hcell⟩:=hA.cell i _ _ htk hq3
        obtain ⟨hbm,hmap,hkl⟩:=hA.kmap i _ _ kk htk hq3 hlk
        have hkx:HV tk m3 = .mp m3:=by unfold HV; rw [hlk]
        rw [hkx] at hcell
        have hkey:=I3 ps3 sj kk
        rw [hka] at hkey
        simp only [kw] at hkey
        obtain ⟨q3,hq4⟩ : ∃ q3,ps3[p'.2]? = some q3:=⟨_,bk (by rw [hA.len]; exact hkn)⟩
        have hgd:(ps3.getD p'.2 (0,0)).1 = q3.1:=by rw [List.getD_eq_getElem?_getD,hq4]; rfl
        rw [hgd] at hkey
        simp only at hbq hbm hmap
        replace G:=fk g0 (fk g2 (fk g3 (fk g10 (fk g11 (fk g12 g9)))))
        refine a6 ?_
        refine qV ?_
        refine qP ?_
        refine qP ?_
        refine qL ?_
        refine qV ?_
        refine KV rfl (by first | exact MS.lookS (by simp only [evS,Nat.reduceEqDiff,reduceIte,G]; first | done | rfl) (by simp only [evS,Nat.reduceEqDiff,reduceIte,E4,G]; rfl) (wQ (by assumption)) rfl (by assumption) | exact MS.lookN (by simp only [evS,Nat.reduceEqDiff,reduceIte,G]; first | done | rfl) (by simp only [evS,Nat.reduceEqDiff,reduceIte,E4,G]; rfl) (wQ (by assumption)) rfl (by assumption)) (fun k hk=>by first | exact False.elim hk | (dsimp only at hk ⊢; omega) | omega) ?_
        refine qV ?_
        refine cq ?_
        try dsimp only [cj]
        exact ⟨lk,lk,lk,lk,lk,ps3,m0,q3,lk,hq4,hS,hA,hp0,hK⟩
    ·try clear G
     clear g0 g2 g3 g10 g11 hA hS hK hp0 hq hxt htn
     rintro Γ2 t4 ⟨g2,g3,g10,g11,k12,ps4,m0,q4,g0,hq,hS,hA,hp0,hK⟩
     replace G:=fk g0 (fk g2 (fk g3 (fk g10 (fk g11 k12))))
     refine a6 ?_
     refine qP ?_
     refine qV ?_
     refine cq ?_
     try dsimp only [cj]
     refine ⟨⟨lk,lk,lk,lk,j + 1,ps4,m0,q4,p',?_,by omega,hfold2,lk,hq,hS,hA,hp0,hK⟩,?_⟩
     ·simp only [evS,Nat.reduceEqDiff,reduceIte]
      rw [wr (by omega) (by omega)]; rfl
     ·simp only [evS,Nat.reduceEqDiff,reduceIte,g12,iV]
      rw [wr (by omega) (by omega)]
      omega
   ·refine cY (j2 (t:=false) ?_ (N9 ?_))
    ·simp only [G8,vj,if_true,isB,bV,scV]
     rw [decide_eq_false (by omega)]
    have hjl:j = l.length:=by omega
    subst hjl
    rw [List.drop_length] at hfold
    simp only [List.foldlM_nil,Option.pure_def,cw] at hfold
    subst hfold
    simp only [cj,Nat.beq_refl,cond_true]
    exact ⟨(by simp only [evS,Nat.reduceEqDiff,reduceIte,g0,g2,g3,g10,g11,g12]; try rfl),(by simp only [evS,Nat.reduceEqDiff,reduceIte,g0,g2,g3,g10,g11,g12]; try rfl),ps1,m0,q,(by simp only [evS,Nat.reduceEqDiff,reduceIte,g0,g2,g3,g10,g11,g12]; try rfl),hq,hS,hA,hp0,hK⟩
 ·try clear G
  clear g0 g1 g2 g3 hA hS hp0
  rintro Γ t ⟨g2,g3,ps1,m0,q,g0,hq,hS,hA,hp0,hK⟩
  obtain ⟨hbq,hcell⟩:=hA.cell pf.2 tf q htf hq
  have hqc:=hS.lt hcell
  replace G:=fk g0 (fk g2 g3)
  refine cY (a6 ?_)
  refine qV ?_
  refine qV ?_
  refine qP ?_
  refine qP ?_
  refine qL ?_
  refine qV ?_
  refine qP ?_
  refine fX rfl (aDj (by simp only [evS,Nat.reduceEqDiff,reduceIte,G]; try rfl) (by simp only [evS,Nat.reduceEqDiff,reduceIte,G]; try rfl)) ?_
  refine qP ?_
  refine qP ?_
  refine qT ?_
  refine E6 hS (by omega) (by omega) ?_
  intro s5 hst5 hsc5 hS5
  first | replace hcell:=hst5.at hcell (by omega) | replace hcell:=hst5.self
  refine cq ?_
  dsimp only [cj]
  refine a6 ?_
  refine qV ?_
  refine qV ?_
  refine qP ?_
  refine qP ?_
  refine qL ?_
  refine qV ?_
  refine qP ?_
  refine fX rfl (aDj (by simp only [evS,Nat.reduceEqDiff,reduceIte,G]; try rfl) (by simp only [evS,Nat.reduceEqDiff,reduceIte,G]; try rfl)) ?_
  refine qP ?_
  refine qP ?_
  refine qT ?_
  refine E6 hS5 (by omega) (by omega) ?_
  intro s6 hst6 hsc6 hS6
  first | replace hcell:=hst6.at hcell (by omega) | replace hcell:=hst6.self
  refine cq ?_
  try dsimp only [cj]
  refine ⟨.inl rfl,[],0,rfl,kx,ps1,m0,hS6,?_,hp0,hK.trans ⟨by omega,fun k e xs hk he=>?_⟩⟩
  ·refine hA.sums htf hq ?_ (fun k hk=>by rw [hst6.keep k hk,hst5.keep k hk])
   rw [hcell]
   unfold QK
   rfl
  ·have hkq:k ≠ q.1:=fun h=>by
    rw [h,(hA.cell pf.2 tf q htf hq).2] at hk
    cases hk; exact he rfl
   rw [hst6.keep k hkq,hst5.keep k hkq]; exact hk
end Go.RM
namespace Go.RM
open Go.VM (T wj tI)
theorem Dj (a b:List UInt8):(decide (a≤b) || decide (b≤a)) = true:=by
 simp only [vk,uk]
 exact List.le_total a b
theorem CW (a b c:List UInt8) (h1:decide (a≤b) = true) (h2:decide (b≤c) = true):decide (a≤c) = true:=by
 simp only [uk] at *
 exact List.le_trans h1 h2
theorem aGW (a b:List UInt8) (h1:decide (a≤b) = true) (h2:decide (b≤a) = true):a = b:=by
 simp only [uk] at *
 exact List.le_antisymm h1 h2
def leS (a b:ByteArray):Bool:=decide (a.data.toList≤b.data.toList)
def lK (l:List ByteArray):List ByteArray:=l.mergeSort leS
theorem aFK {a b:ByteArray} (h1:leS a b = true) (h2:leS b a = true):a = b:=by
 have h:=aGW _ _ h1 h2
 cases a with | mk a => cases b with | mk b =>
 have:a = b:=by
  cases a; cases b; simp only at h; rw [h]
 rw [this]
theorem Fq:∀ {l l':List ByteArray},l.Perm l'→l.Pairwise (fun a b=>leS a b = true)→l'.Pairwise (fun a b=>leS a b = true)→l = l'
 | [],l',h,_,_=>h.nil_eq
 | a :: l,[],h,_,_=>by have:=h.length_eq; simp at this
 | a :: l,b :: l',h,h1,h2=>by
  rw [List.pairwise_cons] at h1 h2
  have hab:a = b:=by
   have ha:a∈b :: l':=h.subset mw
   have hb:b∈a :: l:=h.symm.subset mw
   rcases List.mem_cons.1 ha with e | ha
   ·exact e
   ·rcases List.mem_cons.1 hb with e | hb
    ·exact e.symm
    ·exact aFK (h1.1 b hb) (h2.1 a ha)
  subst hab
  rw [Fq (h.cons_inv) h1.2 h2.2]
theorem HW (l:List ByteArray):(lK l).Pairwise (fun a b=>leS a b = true) :=
 List.pairwise_mergeSort (le:=leS) (fun a b c h1 h2=>CW _ _ _ h1 h2) (fun a b=>Dj _ _) l
def A2 (l:List (ByteArray × Nat)):List (ByteArray × Nat):=l.mergeSort fun a b=>leS a.1 b.1
theorem sq (l:List (ByteArray × Nat)):(A2 l).Perm l:=List.mergeSort_perm l _
theorem afY {l:List (ByteArray × Nat)} {names:List ByteArray} (h:names.Perm (l.map (·.1))):lK names = (A2 l).map (·.1):=by
 refine Fq ?_ (HW names) ?_
 ·exact ((List.mergeSort_perm names leS).trans h).trans ((sq l).map (·.1)).symm
 ·rw [List.pairwise_map]
  exact List.pairwise_mergeSort (le:=fun a b:ByteArray × Nat=>leS a.1 b.1) (fun a b c h1 h2=>CW _ _ _ h1 h2) (fun a b=>Dj _ _) l
def RowK (h:Hp) (t:TypeId) (k:Nat) (x:X) (cs:List X) (cnt n:Nat):Prop:=cs.length = cnt * k∧((x = .sc ij∧cnt = 0)∨(x = .sl n k 0 cnt∧h n = some (.cells t cs)))
theorem RowK.keep {h h':Hp} {t:TypeId} {k cnt:Nat} {x:X} {cs:List X} {n:Nat} (hr:RowK h t k x cs cnt n) (hk:h' n = h n):RowK h' t k x cs cnt n:=by
 obtain ⟨h0,hr | ⟨h1,h2⟩⟩:=hr
 ·exact ⟨h0,.inl hr⟩
 ·exact ⟨h0,.inr ⟨h1,hk.trans h2⟩⟩
def Cel (s t:S):Prop:=∀ k e xs,s.h.get k = some (.cells e xs)→t.h.get k = some (.cells e xs)
theorem RowK.cel {s s':S} {t:TypeId} {k cnt:Nat} {x:X} {cs:List X} {n:Nat} (hr:RowK s.h.get t k x cs cnt n) (hc:Cel s s'):RowK s'.h.get t k x cs cnt n:=by
 obtain ⟨h0,hr | ⟨h1,h2⟩⟩:=hr
 ·exact ⟨h0,.inl hr⟩
 ·exact ⟨h0,.inr ⟨h1,hc _ _ _ h2⟩⟩
theorem Cel.trans {s s' s'':S} (h:Cel s s') (k:Cel s' s''):Cel s s'':=fun n e xs hn=>k n e xs (h n e xs hn)
theorem Cel.lt {b:Nat} {s t t':S} (h:Cel s t) (hS:Sb b s) (hk:∀ k,k < s.c→t'.h.get k = t.h.get k):Cel s t':=fun k e xs hn=>by rw [hk k (hS.lt hn)]; exact h k e xs hn
theorem Cp.weak {orc:c6} {T:Tr RF} {f:FuncId} {args:List V} {s:S} {F:Nat→Prop} {Q:V→S→Prop} (h:Cp orc T f args s F True Q):Cp orc T f args s F False Q:=h.mono (fun _ h=>h) (fun h=>h.elim) (fun _ _ h=>h)
theorem aQX {xs:List X} {n:Nat} (h:xs.length = n):cut xs 0 n = some xs:=by
 unfold cut
 simp only [List.drop_zero]
 rw [List.take_of_length_le (by omega),h,Nat.beq_refl]
 rfl
theorem aDW {e:Opd→V} {s:S} {b:Nat} {t:TypeId} {k bytes:Nat} {sl x:Opd} {xv:X} {cs ys:List X} {cnt n m:Nat} {t2:TypeId} (hS:Sb b s) (hs:e sl = .c xv) (hr:RowK s.h.get t k xv cs cnt n) (hbn:b≤n) (hx:e x = .c (.sl m k 0 1)) (hm:s.h.get m = some (.cells t2 ys)) (hy:ys.length = k) (hr1:qZ bytes (cnt + 1) = true) :
  ∃ s1,MS e s (.app t k bytes sl x) (.c (.sl s.c k 0 (cnt + 1))) s1 (fun j=>j = m∨j = n∨j = s.c) (fun j=>j = n∨j = s.c)∧SaN s s1 n (.cells t (cs++ys))∧Sb b s1:=by
 have hc:cut ys 0 (1 * k) = some ys:=aQX (by omega)
 obtain ⟨h0,⟨rfl,rfl⟩ | ⟨rfl,hn⟩⟩:=hr
 ·have:cs = []:=ek (by omega)
  subst this
  refine ⟨xY s (.cells t ys),?_,⟨(uq s _).self,fun k _ h=>(uq s _).keep k h,rfl⟩,hS.new _⟩
  obtain ⟨r,wm,h1,h2,h3,h4,h5⟩:=MS.app_nil (t:=t) (k:=k) (bytes:=bytes) hS hs hx hm hc rfl hr1
  exact ⟨r,wm,h1,h2,h3,fun k hk=>(h4 k hk).imp id .inr,fun k hk=>.inr (h5 k hk)⟩
 ·have hlt:=hS.lt hn
  exact ⟨_,MS.app_own (t:=t) (k:=k) (bytes:=bytes) hS hs hn (aQX h0) hx hm hc rfl hr1,⟨(acZ hlt).self,(acZ hlt).keep,rfl⟩,(hS.put hbn hlt .dead).new _⟩
theorem MS.bslK {e:Opd→V} {s:S} {b:Nat} {t:TypeId} {k:Nat} {z ys:List X} {x:Opd} (hS:Sb b s) (hx:e x = .agg ys) (hz:z.length = k) (hy:ys.length = k):MS e s (.bsl t k 1 z [(0,k,x)]) (.c (.sl s.c k 0 1)) (xY s (.cells t ys)) (fun j=>j = s.c) (fun j=>j = s.c):=by
 refine MS.bsl hS ?_
 have e1:(List.replicate 1 z).flatten = z:=by simp
 have e2:setAt z 0 ys = ys:=by
  unfold setAt
  rw [List.take_zero,List.drop_eq_nil_of_le (by omega)]
  simp
 have h1:Nat.beq ys.length k = true:=by rw [hy]; exact Nat.beq_refl k
 have h2:Nat.ble (0 + k) z.length = true:=by rw [Nat.ble_eq]; omega
 simp only [e1,fill,hx,cZ,ck,h1,h2,Bool.and_self,gd,cond_true,e2]
section
variable {orc:c6} {T:Tr RF} {F:Nat→Prop} {D:Prop} {os:List (ROp × Nat)} {Γ:Tr V} {s:S} {b n m:Nat} {d:Option Nat} {g:Option (Nat × Bool)} {mk:Nat} {t t2:TypeId} {kk bytes cnt:Nat} {sl x:Opd} {xv:X} {cs ys:List X}
theorem aIZ {bb:Nat} {tab:List Nat} {i:Nat} {ds:List Fp} {k:Tr V→S→Prop} (hw:zq Γ g = some true) (hS:Sb b s) (hs:ev Γ sl = .c xv) (hr:RowK s.h.get t kk xv cs cnt n) (hbn:b≤n) (hx:ev Γ x = .c (.sl m kk 0 1)) (hm:s.h.get m = some (.cells t2 ys)) (hy:ys.length = kk) (hr1:qZ bytes (cnt + 1) = true) (hF:∀ k,(k = m∨k = n∨k = s.c)→F k)
  (ha:∀ z∈ds,apO bb z (fun k=>k = m∨k = n∨k = s.c) (fun k=>k = n∨k = s.c))
  (hk:∀ s1,SaN s s1 n (.cells t (cs++ys))→Sb b s1→Dr orc T F D os tab (i + 1) (ds++[⟨i,fun k=>k = m∨k = n∨k = s.c,fun k=>k = n∨k = s.c⟩]) (putO d (.c (.sl s.c kk 0 (cnt + 1))) Γ) s1 k):Dr orc T F D ((⟨d,.app t kk bytes sl x,g⟩,mk) :: os) (bb :: tab) i ds Γ s k:=by
 obtain ⟨s1,h1,h2,h3⟩:=aDW (bytes:=bytes) hS hs hr hbn hx hm hy hr1
 exact aIW hw h1 hF ha (hk s1 h2 h3)
theorem NJ {e:Opd→V} {x:Opd} {h:Hp} (hx:e x = .c xv) (hr:RowK h t kk xv cs cnt n):bj e (.lenS x) = some (iV (cnt:Int)):=by
 obtain ⟨_,⟨rfl,rfl⟩ | ⟨rfl,_⟩⟩:=hr
 ·simp only [bj,hx,ij]; rfl
 ·simp only [bj,hx]
end
abbrev N5:=Int × ByteArray × Int × Int × Int
def alz (n:N5):List X:=[.sc (.int .i64 n.1),.sc (.string n.2.1),.sc (.int .i64 n.2.2.1),.sc (.int .i64 n.2.2.2.1),.sc (.int .i64 n.2.2.2.2)]
def fq (l:List N5):List X:=(l.map alz).flatten
theorem mV (l:List N5):(fq l).length = l.length * 5:=by
 unfold fq
 induction l with
 | nil=>rfl
 | cons a l ih=>simp only [lw,List.flatten_cons,nw,ih,List.length_cons]; simp [alz]; omega
theorem O8 (l l':List N5):fq (l++l') = fq l++fq l':=by unfold fq; rw [List.map_append,List.flatten_append]
theorem avj (l l':List N5) (n:N5) (j:Nat) (hj:j < 5):(fq (l++n :: l'))[l.length * 5 + j]? = (alz n)[j]?:=by
 have e:fq (l++n :: l') = fq l++(alz n++fq l'):=by
  rw [O8]; rfl
 rw [e,rk (by rw [mV]; omega),mV,jk (by simp [alz]; omega)]
 congr 1; omega
theorem ayj (l l':List N5) (a:Int) (b:ByteArray) (c d e d':Int):(fq (l++(a,b,c,d,e) :: l')).set (l.length * 5 + 3) (.sc (.int .i64 d')) = fq (l++(a,b,c,d',e) :: l'):=by
 have e1:∀ n:N5,fq (l++n :: l') = fq l++(alz n++fq l'):=fun n=>by rw [O8]; rfl
 rw [e1,e1,List.set_append_right _ _ (by rw [mV]; omega),mV,show l.length * 5 + 3 - l.length * 5 = 3 by omega]
 rfl
theorem MJ {Γ:Tr V} {s:S} {t t':Nat} {v v':V} (h:look Γ t = v) (h':look Γ t' = v') (hp:j3 v = true) (hp':j3 v' = true):GJ Γ s [.tmp t,.tmp t'] = some ([v,v'],0):=by
 simp only [GJ,G8,h,h',hp,hp',gd,cond_true,kw]
structure Sj (orc:c6):Prop where
 nil:∀ s,Cp orc VK d8 [.c (.sc ij)] s (fun _=>False) True fun v s'=>s = s'∧v = .tup []
 own:∀ b s m (ss:List ByteArray),Sb b s→s.h.get m = some (.cells fQ (ss.map vQ))→b≤m→ss.length≤1000000 →
  Cp orc VK d8 [.c (.sl m 1 0 ss.length)] s (fun k=>b≤k) True fun v s'=>v = .tup []∧Sb b s'∧s'.c = s.c∧s'.h.get m = some (.cells fQ ((lK ss).map vQ))∧∀ k,k ≠ m→s'.h.get k = s.h.get k
structure ArR (b:Nat) (h:Hp) (ps:List (Nat × Nat)) (ar:Ar):Prop where
 len:ps.length = ar.length
 cell:∀ (i:Nat) t p,ar[i]? = some t→ps[i]? = some p→b≤p.1∧h p.1 = some (.cells eK [.sc (.int .i64 t.self),.sc (.int .i64 t.count),HV t p.2])
 kmap:∀ (i:Nat) t p l,ar[i]? = some t→ps[i]? = some p→t.kids = some l→b≤p.2∧(∃ fl,h p.2 = some (.map .string fl (l.map fun e=>(.string e.1,.c (.ptr ((ps.getD e.2 (0,0)).1) 0)))))∧∀ e∈l,e.2 < ar.length
theorem ArH.toR {b:Nat} {h:Hp} {ps:List (Nat × Nat)} {ar:Ar} (hA:ArH b h ps ar):ArR b h ps ar:=⟨hA.len,hA.cell,fun i t p l ht hp hl=>by
 obtain ⟨h1,h2,h3⟩:=hA.kmap i t p l ht hp hl
 exact ⟨h1,⟨_,h2⟩,h3⟩⟩
def KeepL (s s':S):Prop:=s.c≤s'.c∧(∀ k e xs,s.h.get k = some (.cells e xs)→e ≠ b7→s'.h.get k = some (.cells e xs))∧∀ k kd fl es,s.h.get k = some (.map kd fl es)→∃ fl',s'.h.get k = some (.map kd fl' es)
theorem KeepL.refl (s:S):KeepL s s:=⟨gw _,fun _ _ _ h _=>h,fun _ _ fl _ h=>⟨fl,h⟩⟩
theorem KeepL.trans {s s' s'':S} (h:KeepL s s') (k:KeepL s' s''):KeepL s s'':=⟨Nat.le_trans h.1 k.1,fun n e xs hn he=>k.2.1 n e xs (h.2.1 n e xs hn he) he,fun n kd fl es hn=>by
 obtain ⟨fl',h1⟩:=h.2.2 n kd fl es hn
 exact k.2.2 n kd fl' es h1⟩
theorem ArR.keep {b:Nat} {s s':S} {ps:List (Nat × Nat)} {ar:Ar} (hA:ArR b s.h.get ps ar) (hk:KeepL s s'):ArR b s'.h.get ps ar:=⟨hA.len,fun i t p ht hp=>⟨(hA.cell i t p ht hp).1,hk.2.1 _ _ _ (hA.cell i t p ht hp).2 (by decide)⟩,fun i t p l ht hp hl=>by
 obtain ⟨h1,⟨fl,h2⟩,h3⟩:=hA.kmap i t p l ht hp hl
 exact ⟨h1,hk.2.2 _ _ _ _ h2,h3⟩⟩
end Go.RM
namespace Go.RM
open Go.VM (T wj tI)
theorem aKY {e:Opd→V} {x:Opd} {vs:List V} {i:Nat} {y:X} (hx:e x = .tup vs) (hy:vs[i]? = some (.c y)):bj e (.ext x i) = some (.c y):=by
 simp only [bj,hx,hy]
def KQ (ar:Ar) (f:Nat) (parent len:Int) (p:List N5 × Int) (e:ByteArray × Nat):Option (List N5 × Int):=ar[e.2]?.bind fun k =>
 (A6 ar f e.2 (len + p.1.length) (len + p.1.length + 1)).map fun q =>
  (p.1++(parent,e.1,k.self,IntKind.i64.wrap (k.self + q.2),k.count) :: q.1,IntKind.i64.wrap (p.2 + IntKind.i64.wrap (k.self + q.2)))
theorem E3 (ar:Ar) (f i:Nat) (parent len:Int):A6 ar (f + 1) i parent len = ar[i]?.bind fun t=>(A2 (t.kids.getD [])).foldlM (KQ ar f parent len) ([],0):=rfl
theorem O6 {ar:Ar} {f:Nat} {parent len:Int}:∀ {l:List (ByteArray × Nat)} {p q:List N5 × Int},l.foldlM (KQ ar f parent len) p = some q→p.1.length + l.length≤q.1.length
 | [],p,q,h=>by simp only [List.foldlM_nil,Option.pure_def,cw] at h; subst h; simp
 | e :: l,p,q,h=>by
  rw [List.foldlM_cons] at h
  obtain ⟨p',h1,h2⟩:=ak.1 h
  have:=O6 h2
  unfold KQ at h1
  obtain ⟨k,hk,h1⟩:=ak.1 h1
  obtain ⟨r,hr,rfl⟩:=aw.1 h1
  simp only [nw,List.length_cons] at this ⊢
  omega
def E0 (ar:Ar):Prop:=∀ (i:Nat) t,ar[i]? = some t→((t.kids.getD []).map (·.1)).Nodup
theorem ahQ {s:ByteArray} {k:Nat}:∀ {L:List (ByteArray × Nat)},(L.map (·.1)).Nodup→(s,k)∈L→pZ s L = some k
 | [],_,h=>by simp at h
 | a :: L,hn,h=>by
  rw [lw,List.nodup_cons] at hn
  simp only [pZ]
  rcases List.mem_cons.1 h with e | h
  ·rw [← e]; simp
  ·rw [if_neg,ahQ hn.2 h]
   intro e
   exact hn.1 (e ▸ List.mem_map_of_mem h)
theorem ZJ:∀ (n:Nat) (l:List Nat),l.Nodup→(∀ i∈l,i < n)→l.length≤n
 | 0,[],_,_=>gw _
 | 0,a :: l,_,h=>by have:=h a mw; omega
 | n + 1,l,hn,h=>by
  have h1:=ZJ n (l.erase n) (hn.erase n) fun i hi=>by
   have h2:=h i (List.mem_of_mem_erase hi)
   have h3:=(hn.mem_erase_iff.1 hi).1
   omega
  rw [List.length_erase] at h1
  split at h1 <;> omega
def aNz (h:Hp) (x:X) (l:List ByteArray) (m:Nat):Prop:=(x = .sc ij∧l = [])∨(x = .sl m 1 0 l.length∧h m = some (.cells fQ (l.map vQ)))
theorem awQ {n:Nat} {seen:List Nat} (h1:seen.Nodup) (h2:∀ i∈seen,i < n) (h3:∀ i,i < n→i∈seen):seen.Perm (List.range n):=by
 rw [List.perm_ext_iff_of_nodup h1 List.nodup_range]
 intro i
 rw [List.mem_range]
 exact ⟨h2 i,h3 i⟩
theorem aPX {n:Nat} (h:n≤1000000):qZ 16 n = true:=by
 unfold qZ
 rw [dw,Nat.ble_eq,Nat.ble_eq]
 omega
theorem aRV {n:Nat} (h:n≤1000000):qZ 48 n = true:=by
 unfold qZ
 rw [dw,Nat.ble_eq,Nat.ble_eq]
 omega
structure azj (b:Nat) (s t:S) (ps:List (Nat × Nat)) (ar:Ar) (xn:X) (names:List ByteArray) (m:Nat):Prop where
 sb:Sb b t
 keep:KeepL s t
 nam:RowN t.h.get fQ xn (names.map vQ) m
 hi:s.c≤m
 cel:Cel s t
theorem KeepL.row {b:Nat} {s t t':S} (h:KeepL s t) (hS:Sb b s) (hc:t.c≤t'.c) (hk:∀ k,k < s.c→t'.h.get k = t.h.get k):KeepL s t' :=
 ⟨Nat.le_trans h.1 hc,fun k e xs hn he=>by rw [hk k (hS.lt hn)]; exact h.2.1 k e xs hn he,fun k kd fl es hn=>by rw [hk k (hS.lt hn)]; exact h.2.2 k kd fl es hn⟩
set_option maxHeartbeats 1000000 in
theorem aNq {orc:c6} (hsort:Sj orc) {b:Nat} {ps:List (Nat × Nat)} {ar:Ar} (hkids:E0 ar):∀ (f i:Nat) (parent:Int) (L out:List N5) (w:Int) (s:S) (x:X) (n:Nat) (p:Nat × Nat),A6 ar f i parent (L.length:Int) = some (out,w)→(L++out).length≤100000→Sb b s→ArR b s.h.get ps ar→ps[i]? = some p→RowK s.h.get b7 5 x (fq L) L.length n→b≤n →
  Cp orc VK o7 [.c (.ptr p.1 0),.c x,iV parent] s (fun k=>b≤k) False fun v s'=>∃ x' n',v = .tup [.c x',iV w]∧RowK s'.h.get b7 5 x' (fq (L++out)) (L++out).length n'∧b≤n'∧Sb b s'∧KeepL s s':=by
 intro f
 induction f with
 | zero=>intro i parent L out w s x n p h; simp [A6] at h
 | succ f ih =>
  intro i parent L out w s x n p hlist hlen hS hA hp hrow hbn
  rw [E3] at hlist
  obtain ⟨tn,htn,hfold⟩:=ak.1 hlist
  obtain ⟨hbp,hcell⟩:=hA.cell i tn p htn hp
  have hle:=hS.le
  have hpc:=hS.lt hcell
  have hkl:=O6 hfold
  simp only [List.length_nil,Nat.zero_add] at hkl
  have hlo:L.length + out.length≤100000:=by rw [nw] at hlen; exact hlen
  have hsl:(A2 (tn.kids.getD [])).length = (tn.kids.getD []).length:=(sq _).length_eq
  refine SZ (rf:=nX) rfl ?_
  unfold nX
  obtain ⟨Γ,hΓ⟩ : ∃ Γ,Γ = ofL [V.c (.ptr p.1 0),.c x,iV parent] 0 .lf:=⟨_,rfl⟩
  have g0:look Γ 0 = .c (.ptr p.1 0):=by rw [hΓ]; rfl
  have g1:look Γ 1 = .c x:=by rw [hΓ]; rfl
  have g2:look Γ 2 = iV parent:=by rw [hΓ]; rfl
  rw [← hΓ]
  try clear G
  clear hΓ
  replace G:=fk g0 (fk g1 g2)
  refine cY (a6 ?_)
  refine qV ?_
  refine qV ?_
  refine cq ?_
  dsimp only [cj]
  refine cY (a6 ?_)
  refine qV ?_
  refine cq ?_
  dsimp only [cj]
  refine p7 (fun Γ t=>look Γ 0 = .c (.ptr p.1 0)∧look Γ 1 = .c x∧look Γ 2 = iV parent∧∃ (xn:X) (names:List ByteArray) (m:Nat),look Γ 8 = .c xn∧names.Perm ((tn.kids.getD []).map (·.1))∧azj b s t ps ar xn names m) ?_ ?_
  ·cases hk:tn.kids with
   | none =>
    have hkx:HV tn p.2 = .sc (.map none):=by unfold HV; rw [hk]
    rw [hkx] at hcell
    refine cY (a6 ?_)
    refine qV ?_
    refine qP ?_
    refine qP ?_
    refine qL ?_
    refine aMW hS (by simp only [evS,Nat.reduceEqDiff,reduceIte,g0,g1,g2]; try rfl) hle fun s1 hst1 hsc1 hS1=>cq ?_
    dsimp only [cj]
    refine uj (U4 (cY (a6 ?_)))
    refine aIz (n:=s.c) (by simp only [evS,reduceIte]) hst1.self hle ?_
    refine fX rfl (aKY (by simp only [evS,reduceIte]; rfl) rfl) (cq ?_)
    dsimp only [cj]
    refine cY (j2 (t:=false) (by simp only [evS,reduceIte]; rfl) (N9 ?_))
    simp only [cj,Nat.beq_refl,cond_true]
    refine ⟨(by simp only [evS,Nat.reduceEqDiff,reduceIte,g0,g1,g2]; try rfl),(by simp only [evS,Nat.reduceEqDiff,reduceIte,g0,g1,g2]; try rfl),(by simp only [evS,Nat.reduceEqDiff,reduceIte,g0,g1,g2]; try rfl),.sc ij,[],s.c,(by simp only [evS,Nat.reduceEqDiff,reduceIte,g0,g1,g2]; try rfl),List.Perm.refl _,hS1,(KeepL.refl s).row hS (by omega) (fun k hk=>hst1.keep k (by omega)),.inl ⟨rfl,rfl⟩,gw _,fun k e xs hk=>by rw [hst1.keep k (by have:=hS.lt hk; omega)]; exact hk⟩
   | some l =>
    obtain ⟨hbm,⟨fl,hmap⟩,hkb⟩:=hA.kmap i tn p l htn hp hk
    have hmc:=hS.lt hmap
    have hkx:HV tn p.2 = .mp p.2:=by unfold HV; rw [hk]
    rw [hkx] at hcell
    rw [hk] at hkl hsl
    have hgd:((some l:Option (List (ByteArray × Nat))).getD []) = l:=rfl
    rw [hgd] at hkl hsl ⊢
    refine cY (a6 ?_)
    refine qV ?_
    refine qP ?_
    refine qP ?_
    refine qL ?_
    generalize hes:(l.map fun e=>((Value.string e.1,V.c (.ptr ((ps.getD e.2 (0,0)).1) 0)):Value × V)) = es at hmap
    have hel:es.length = l.length:=by rw [← hes,nk]
    refine aPz hS (by simp only [evS,Nat.reduceEqDiff,reduceIte,g0,g1,g2]; try rfl) hmap hbm ⟨hbm,hle⟩ fun s1 hm1 hi1 hk1 hsc1 hS1=>cq ?_
    dsimp only [cj]
    have hKL:KeepL s s1:=⟨by omega,fun k e xs hn he=>by
     have:=hS.lt hn
     rw [hk1 k (fun h=>by rw [h,hmap] at hn; cases hn) (by omega)]; exact hn,fun k kd fl' es' hn=>by
     have:=hS.lt hn
     by_cases e:k = p.2
     ·subst e; rw [hmap] at hn; cases hn; exact ⟨_,hm1⟩
     ·rw [hk1 k e (by omega)]; exact ⟨_,hn⟩⟩
    have hCL:Cel s s1:=fun k e xs hn=>by
     have:=hS.lt hn
     rw [hk1 k (fun h=>by rw [h,hmap] at hn; cases hn) (by omega)]; exact hn
    refine uj (aCQ (fun fuel Γ t=>look Γ 0 = .c (.ptr p.1 0)∧look Γ 1 = .c x∧look Γ 2 = iV parent∧look Γ 20 = .c (.ptr s.c 0)∧∃ (xn:X) (seen:List Nat) (m:Nat),fuel + seen.length = l.length∧look Γ 8 = .c xn∧seen.Nodup∧(∀ i∈seen,i < l.length)∧t.h.get s.c = some (.iter p.2 es.length seen)∧t.h.get p.2 = some (.map .string true es)∧m ≠ s.c∧azj b s t ps ar xn (seen.map fun i=>(l.getD i default).1) m) l.length ⟨(by simp only [evS,Nat.reduceEqDiff,reduceIte,g0,g1,g2]; try rfl),(by simp only [evS,Nat.reduceEqDiff,reduceIte,g0,g1,g2]; try rfl),(by simp only [evS,Nat.reduceEqDiff,reduceIte,g0,g1,g2]; try rfl),(by simp only [evS,Nat.reduceEqDiff,reduceIte,g0,g1,g2]; try rfl),.sc ij,[],s.c + 1,rfl,(by simp only [evS,Nat.reduceEqDiff,reduceIte,g0,g1,g2]; try rfl),List.nodup_nil,fun i hi=>by simp at hi,hi1,hm1,by omega,hS1,hKL,.inl ⟨rfl,rfl⟩,by omega,hCL⟩ ?_)
    try clear G
    clear g0 g1 g2 hcell hm1 hi1 hk1 hsc1 hS1 hKL Γ
    rintro fuel Γ t ⟨g0,g1,g2,g20,xn,seen,m,hfu,g8,hnd,hsb,hit,hmp,hmne,hN⟩
    obtain ⟨hSt,hK,hnam,hmi,hCel⟩:=hN
    refine cY (a6 ?_)
    refine aRW (es:=es) (m:=p.2) (seen:=seen) g20 hit hmp ⟨hle,hbm⟩ (fun hall=>?_) (fun ix q hni hq=>?_)
    ·refine fX rfl (aKY (by simp only [evS,reduceIte]; rfl) rfl) (cq ?_)
     dsimp only [cj]
     refine cY (j2 (t:=false) (by simp only [evS,reduceIte]; rfl) (N9 ?_))
     simp only [cj,Nat.beq_refl,cond_true]
     have hperm:(seen.map fun i=>(l.getD i default).1).Perm (l.map (·.1)):=by
      have h1:=(awQ hnd hsb (fun i hi=>hall i (by omega))).map fun i=>(l.getD i default).1
      have h2:((List.range l.length).map fun i=>(l.getD i default).1) = l.map (·.1):=by
       apply List.ext_getElem?
       intro k
       rw [ow,ow]
       by_cases hk:k < l.length
       ·rw [List.getElem?_range hk,bk hk]
        simp only [kw,List.getD_eq_getElem?_getD,bk hk,Option.getD_some]
       ·rw [List.getElem?_eq_none (by rw [List.length_range]; omega),List.getElem?_eq_none (by omega)]; rfl
      rw [h2] at h1; exact h1
     exact ⟨(by simp only [evS,Nat.reduceEqDiff,reduceIte,g0,g1,g2,g8]; try rfl),(by simp only [evS,Nat.reduceEqDiff,reduceIte,g0,g1,g2,g8]; try rfl),(by simp only [evS,Nat.reduceEqDiff,reduceIte,g0,g1,g2,g8]; try rfl),xn,_,m,(by simp only [evS,Nat.reduceEqDiff,reduceIte,g0,g1,g2,g8]; try rfl),hperm,hSt,hK,hnam,hmi,hCel⟩
    ·have hil:ix < l.length:=by have:=(bw.1 hq).1; omega
     obtain ⟨e,he⟩ : ∃ e,l[ix]? = some e:=⟨_,bk hil⟩
     have hqe:q = (Value.string e.1,V.c (.ptr ((ps.getD e.2 (0,0)).1) 0)):=by
      rw [← hes,ow,he] at hq
      cases hq; rfl
     have hlec:=hSt.lt hit
     refine E6 hSt hle hlec fun u2 hut2 huc2 hU2=>?_
     refine fX rfl (aKY (by simp only [evS,reduceIte]; rfl) rfl) (cq ?_)
     dsimp only [cj]
     refine cY (j2 (t:=true) (by simp only [evS,reduceIte]; rfl) (xJ ?_))
     dsimp only [cj]
     have hmp2:u2.h.get p.2 = some (.map .string true es):=(hut2.keep p.2 (by omega)).trans hmp
     have hnam2:RowN u2.h.get fQ xn ((seen.map fun i=>(l.getD i default).1).map vQ) m:=hnam.keep (hut2.keep m hmne)
     replace hnam2:∃ m',RowN u2.h.get fQ xn ((seen.map fun i=>(l.getD i default).1).map vQ) m'∧m' ≠ s.c∧s.c≤m'∧(m' < u2.c∨u2.c + 1000≤m'):=by
      rcases hnam2 with h | h
      ·exact ⟨u2.c + 1000,.inl h,by omega,by omega,.inr (by omega)⟩
      ·exact ⟨m,.inr h,hmne,hmi,.inl (hU2.lt h.2)⟩
     obtain ⟨m',hnam2,hm1,hm2,hm3⟩:=hnam2
     refine uj (cY (a6 ?_))
     refine aPY (n:=s.c) (m:=p.2) (i:=ix) (seen:=seen) (es:=es) (by simp only [evS,Nat.reduceEqDiff,reduceIte,g20]) hut2.self hmp2 hq ⟨hle,hbm⟩ ?_
     refine fX rfl (aKY (by simp only [evS,reduceIte]; rfl) (by subst hqe; rfl)) ?_
     refine fX rfl (pmv (v:=.c (.sc (.string e.1))) (by simp only [evS,reduceIte]; try rfl)) (cq ?_)
     dsimp only [cj]
     have hsl2:seen.length < l.length:=by
      have h1:=ZJ l.length (ix :: seen) (List.nodup_cons.2 ⟨hni,hnd⟩) fun j hj=>by
       rcases List.mem_cons.1 hj with rfl | hj
       ·exact hil
       ·exact hsb j hj
      rw [List.length_cons] at h1; omega
     have hroom:qZ 16 (((seen.map fun i=>(l.getD i default).1).map vQ).length + 1) = true:=aPX (by rw [nk,nk]; omega)
     have hit2:=hut2.self
     replace G:=fk g0 (fk g1 (fk g2 (fk g20 g8)))
     refine a6 ?_
     refine qV ?_
     refine qV ?_
     refine qM (MS.bsl1 hU2 (by simp only [evS,Nat.reduceEqDiff,reduceIte,G]; try rfl)) ?_
     refine OQ hU2 ?_
     intro s1 hst1 hsc1 hS1
     replace hit2:=hst1.at hit2 (by omega)
     replace hmp2:=hst1.at hmp2 (by omega)
     have hn1:=hst1.self
     replace hnam2:=hnam2.keep (hst1.keep _ (by omega))
     refine aMK rfl hS1 (by simp only [evS,Nat.reduceEqDiff,reduceIte,G]; try rfl) hnam2 (by omega) (by simp only [evS,Nat.reduceEqDiff,reduceIte,G]; try rfl) (by assumption) (by first | assumption | rfl) (fun k hk=>by first | exact False.elim hk | (dsimp only at hk ⊢; omega) | omega) ?_
     intro s2 hst2 hS2
     have hsa2:=hst2.c
     replace hit2:=hst2.at hit2 (by omega) (by omega)
     replace hmp2:=hst2.at hmp2 (by omega) (by omega)
     replace hn1:=hst2.at hn1 (by omega) (by omega)
     have hn2:=hst2.self
     refine qV ?_
     refine cq ?_
     try dsimp only [cj]
     have hgi:(l.getD ix default).1 = e.1:=by rw [List.getD_eq_getElem?_getD,he]; rfl
     have hlenn:((seen.map fun i=>(l.getD i default).1).map vQ).length + 1 = (((seen++[ix]).map fun i=>(l.getD i default).1).map vQ).length:=by simp
     refine ⟨fuel - 1,by omega,lk,lk,lk,lk,_,seen++[ix],s1.c,by rw [nw]; simp only [List.length_singleton]; omega,lk,?_,fun j hj=>?_,hit2,hmp2,by omega,hS2,?_,.inr ⟨?_,?_⟩,by omega,?_⟩
     ·rw [List.nodup_append]
      exact ⟨hnd,by simp,fun a ha c hc=>by rw [dk.1 hc]; intro e; exact hni (e ▸ ha)⟩
     ·rcases qw.1 hj with hj | hj
      ·exact hsb j hj
      ·rw [dk.1 hj]; exact hil
     ·refine hK.row hS (by omega) fun k hk=>?_
      rw [hst2.keep k (by omega) (by omega),hst1.keep k (by omega),hut2.keep k (by omega)]
     ·rw [← hlenn]
     ·rw [hn2,List.map_append,List.map_append]
      simp only [lw,List.map_nil,hgi]
      rfl
     ·exact hCel.lt hS fun k hk=>by rw [hst2.keep k (by omega) (by omega),hst1.keep k (by omega),hut2.keep k (by omega)]
  ·try clear G
   clear g0 g1 g2
   rintro Γ t ⟨g0,g1,g2,xn,names,m,g8,hperm,hN⟩
   obtain ⟨hSt,hK,hnam,hmi,hCel⟩:=hN
   replace hrow:=hrow.cel hCel
   have hsn:=afY hperm
   have hmemK:∀ e∈A2 (tn.kids.getD []),e∈tn.kids.getD []:=fun e he=>(sq _).mem_iff.1 he
   have hnl:names.length = (tn.kids.getD []).length:=by rw [hperm.length_eq,nk]
   generalize hKs:A2 (tn.kids.getD []) = K at hfold hsl hkl hsn hmemK
   refine p7 (fun Γ t=>look Γ 0 = .c (.ptr p.1 0)∧look Γ 1 = .c x∧look Γ 2 = iV parent∧look Γ 8 = .c xn∧Sb b t∧KeepL s t∧aNz t.h.get xn (K.map (·.1)) m∧RowK t.h.get b7 5 x (fq L) L.length n) ?_ ?_
   ·rcases hnam with ⟨rfl,hnil⟩ | ⟨rfl,hm⟩
    ·have h0:K.map (·.1) = []:=by
      have:names = []:=by simpa using hnil
      rw [this] at hsn
      rw [← hsn]; simp [lK]
     replace G:=fk g0 (fk g1 (fk g2 g8))
     refine a6 ?_
     refine qV ?_
     refine qC (hC:=(hsort.nil t).weak) (h:=?_)
     intro v3 s3 hq3
     obtain ⟨rfl,rfl⟩:=hq3
     refine cq ?_
     try dsimp only [cj]
     exact ⟨lk,lk,lk,lk,hSt,hK,.inl ⟨rfl,h0⟩,hrow⟩
    ·have hbm:b≤m:=by omega
     replace G:=fk g0 (fk g1 (fk g2 g8))
     refine a6 ?_
     refine qVL ?_
     refine qCL (hC:=(hsort.own b t m names hSt hm hbm (by omega)).weak) (h:=?_)
     intro v4 s4 hq4
     obtain ⟨rfl,hS',hc',hm',hk'⟩:=hq4
     refine cq ?_
     try dsimp only [cj]
     refine ⟨lkL,lkL,lkL,lkL,hS',hK.row hS (by omega) (fun k hk=>hk' k (by omega)),.inr ⟨?_,?_⟩,?_⟩
     ·rw [nk,nk,hsl,hnl]
     ·rw [← hsn]; exact hm'
     ·obtain ⟨h0,hr | ⟨h1,h2⟩⟩:=hrow
      ·exact ⟨h0,.inl hr⟩
      ·refine ⟨h0,.inr ⟨h1,?_⟩⟩
       rw [hk' n (fun e=>?_)]
       ·exact h2
       ·rw [e,hm] at h2
        have h3:=(O.cells.inj (Option.some.inj h2)).1
        exact absurd h3 (by decide)
   ·try clear G
    clear g0 g1 g2 g8 hK hnam hSt hrow
    rintro Γ t ⟨g0,g1,g2,g8,hSt,hK,hnam,hrow⟩
    replace G:=fk g0 (fk g1 (fk g2 g8))
    refine cY (a6 ?_)
    refine qV ?_
    refine cq ?_
    dsimp only [cj]
    refine p7 (fun Γ t=>∃ (x':X) (n':Nat),look Γ 1 = .c x'∧look Γ 10 = iV w∧RowK t.h.get b7 5 x' (fq (L++out)) (L++out).length n'∧b≤n'∧Sb b t∧KeepL s t) ?_ ?_
    ·refine p7 (fun Γ t'=>t = t'∧look Γ 0 = .c (.ptr p.1 0)∧look Γ 1 = .c x∧look Γ 2 = iV parent∧look Γ 10 = iV 0∧look Γ 31 = .c xn∧look Γ 32 = iV (K.length:Int)∧look Γ 33 = iV 0) ?_ ?_
     ·have hnr:RowK t.h.get fQ 1 xn ((K.map (·.1)).map vQ) K.length m:=by
       refine ⟨by simp,?_⟩
       rcases hnam with ⟨h1,h2⟩ | ⟨h1,h2⟩
       ·exact .inl ⟨h1,by rw [List.map_eq_nil_iff] at h2; rw [h2]; rfl⟩
       ·rw [nk] at h1; exact .inr ⟨h1,h2⟩
      replace G:=fk g0 (fk g1 (fk g2 g8))
      refine a6 ?_
      refine qV ?_
      refine fX rfl (by first | exact NJ (by simp only [evS,Nat.reduceEqDiff,reduceIte,G]; first | done | rfl) (by assumption) | simp only [evS,Nat.reduceEqDiff,reduceIte,PU,bj,scV,bV,iV,ij,isB,isI,q5,H8,mkV,G]; try rfl) ?_
      refine qV ?_
      refine cq ?_
      try dsimp only [cj]
      exact ⟨rfl,lk,lk,lk,lk,lk,lk,lk⟩
     ·try clear G
      clear g0 g1 g2 g8
      rintro Γ _ ⟨rfl,g0,g1,g2,g10,g31,g32,g33⟩
      refine uj (abV (fun Γ t=>look Γ 0 = .c (.ptr p.1 0)∧look Γ 2 = iV parent∧look Γ 31 = .c xn∧look Γ 32 = iV (K.length:Int)∧∃ (j:Nat) (pj:List N5 × Int) (xj:X) (nj:Nat),look Γ 33 = iV (j:Int)∧j≤K.length∧(K.drop j).foldlM (KQ ar f parent (L.length:Int)) pj = some (out,w)∧look Γ 1 = .c xj∧look Γ 10 = iV pj.2∧RowK t.h.get b7 5 xj (fq (L++pj.1)) (L++pj.1).length nj∧b≤nj∧Sb b t∧KeepL s t∧aNz t.h.get xn (K.map (·.1)) m) (fun Γ _=>match look Γ 33 with
       | .c (.sc (.int _ i))=>K.length - i.toNat
       | _=>0) ⟨g0,g2,g31,g32,0,([],0),x,n,g33,Nat.zero_le _,hfold,g1,g10,by rw [List.append_nil]; exact hrow,hbn,hSt,hK,hnam⟩ ?_)
      try clear G
      clear g0 g1 g2 g10 g31 g32 g33 hSt hK hnam hrow Γ
      rintro Γ t ⟨g0,g2,g31,g32,j,pj,xj,nj,g33,hj,hfold,g1,g10,hrow,hbn,hS1,hK,hnam⟩
      replace G:=fk g0 (fk g1 (fk g2 (fk g10 (fk g31 (fk g32 g33)))))
      refine cY (a6 ?_)
      refine qP ?_
      refine cq ?_
      dsimp only [cj]
      by_cases hjl:j < K.length
      ·refine cY (j2 (t:=true) ?_ (xJ ?_))
       ·simp only [G8,vj,if_true,isB,bV,scV]
        rw [decide_eq_true (by omega)]
       dsimp only [cj]
       obtain ⟨e,he⟩ : ∃ e,K[j]? = some e:=⟨_,bk hjl⟩
       have hdrop:K.drop j = e :: K.drop (j + 1):=by
        rw [List.drop_eq_getElem_cons hjl]
        rw [bk hjl] at he
        cases he; rfl
       rw [hdrop,List.foldlM_cons] at hfold
       obtain ⟨p',hstep,hfold2⟩:=ak.1 hfold
       have hlp:=O6 hfold2
       unfold KQ at hstep
       obtain ⟨kn,hkn,hstep⟩:=ak.1 hstep
       obtain ⟨q,hq,rfl⟩:=aw.1 hstep
       simp only [nw,List.length_cons] at hlp
       have heK:=hmemK e (fw he)
       obtain ⟨l,hkl2⟩ : ∃ l,tn.kids = some l:=by
        cases hk:tn.kids with
        | none=>rw [hk] at heK; simp at heK
        | some l=>exact ⟨l,rfl⟩
       have hgd:tn.kids.getD [] = l:=by rw [hkl2]; rfl
       rw [hgd] at heK
       have hA1:=hA.keep hK
       obtain ⟨hbp1,hcell1⟩:=hA1.cell i tn p htn hp
       obtain ⟨hbm,⟨fl,hmap⟩,hkb⟩:=hA1.kmap i tn p l htn hp hkl2
       have hkx:HV tn p.2 = .mp p.2:=by unfold HV; rw [hkl2]
       rw [hkx] at hcell1
       have hnd:=hkids i tn htn
       rw [hgd] at hnd
       have hkey:=I3 ps e.1 l
       rw [ahQ hnd (show (e.1,e.2)∈l from heK)] at hkey
       simp only [kw] at hkey
       obtain ⟨pk,hpk⟩ : ∃ pk,ps[e.2]? = some pk:=⟨_,bk (by rw [hA1.len]; exact hkb e heK)⟩
       have hgk:(ps.getD e.2 (0,0)).1 = pk.1:=by rw [List.getD_eq_getElem?_getD,hpk]; rfl
       rw [hgk] at hkey
       obtain ⟨hbk,hcellk⟩:=hA1.cell e.2 kn pk hkn hpk
       obtain ⟨rfl,hnm⟩ : xn = .sl m 1 0 K.length∧t.h.get m = some (.cells fQ ((K.map (·.1)).map vQ)):=by
        rcases hnam with ⟨_,h2⟩ | ⟨h1,h2⟩
        ·rw [List.map_eq_nil_iff] at h2; rw [h2] at hjl; simp at hjl
        ·rw [nk] at h1; exact ⟨h1,h2⟩
       have hcj:((K.map (·.1)).map vQ)[j]? = some (.sc (.string e.1)):=by rw [ow,ow,he]; rfl
       have hmb:b≤m:=by omega
       have hmc:=hS1.lt hnm
       have hkc:=hS1.lt hcellk
       have hpc1:=hS1.lt hcell1
       have hmc1:=hS1.lt hmap
       obtain ⟨N0,hN0⟩ : ∃ N0,(L++pj.1).length = N0:=⟨_,rfl⟩
       rw [hN0] at hrow
       obtain ⟨n1,hrow1,hn1b,hn1c,hn1m,hn1k,hn1p,hn1q⟩ : ∃ n1,RowK t.h.get b7 5 xj (fq (L++pj.1)) N0 n1∧b≤n1∧((n1 < t.c∧t.h.get n1 = some (.cells b7 (fq (L++pj.1))))∨t.c + 1000≤n1)∧n1 ≠ m∧n1 ≠ pk.1∧n1 ≠ p.1∧n1 ≠ p.2:=by
        obtain ⟨h0,hr | ⟨h1,h2⟩⟩:=hrow
        ·exact ⟨t.c + 1000,⟨h0,.inl hr⟩,by have:=hS1.le; omega,.inr (gw _),by omega,by omega,by omega,by omega⟩
        ·refine ⟨nj,⟨h0,.inr ⟨h1,h2⟩⟩,hbn,.inl ⟨hS1.lt h2,h2⟩,fun e1=>?_,fun e1=>?_,fun e1=>?_,fun e1=>?_⟩
         ·rw [e1,hnm] at h2; exact absurd (O.cells.inj (Option.some.inj h2)).1 (by decide)
         ·rw [e1,hcellk] at h2; exact absurd (O.cells.inj (Option.some.inj h2)).1 (by decide)
         ·rw [e1,hcell1] at h2; exact absurd (O.cells.inj (Option.some.inj h2)).1 (by decide)
         ·rw [e1,hmap] at h2; cases h2
       have hroom:qZ 48 (N0 + 1) = true:=aRV (by rw [← hN0,nw]; omega)
       have hK1:∀ t':S,t.c≤t'.c→(∀ k,k < t.c→k ≠ n1→t'.h.get k = t.h.get k)→KeepL s t'∧aNz t'.h.get (.sl m 1 0 K.length) (K.map (·.1)) m:=fun t' hc hk=>by
        refine ⟨hK.trans ⟨hc,fun k e' xs hn he'=>?_,fun k kd fl es hn=>⟨fl,?_⟩⟩,.inr ⟨by rw [nk],by rw [hk m hmc (Ne.symm hn1m)]; exact hnm⟩⟩
        ·rw [hk k (hS1.lt hn) (fun e1=>?_)]; · exact hn
         rcases hn1c with ⟨_,h2⟩ | h2
         ·rw [e1,h2] at hn; cases hn; exact he' rfl
         ·have:=hS1.lt hn; omega
        ·rw [hk k (hS1.lt hn) (fun e1=>?_)]; · exact hn
         rcases hn1c with ⟨_,h2⟩ | h2
         ·rw [e1,h2] at hn; cases hn
         ·have:=hS1.lt hn; omega
       refine p7 (fun Γ t'=>look Γ 0 = .c (.ptr p.1 0)∧look Γ 2 = iV parent∧look Γ 31 = .c (.sl m 1 0 K.length)∧look Γ 32 = iV (K.length:Int)∧look Γ 33 = iV (j:Int)∧∃ (xj:X) (nj:Nat),look Γ 1 = .c xj∧look Γ 10 = iV (IntKind.i64.wrap (pj.2 + IntKind.i64.wrap (kn.self + q.2)))∧RowK t'.h.get b7 5 xj (fq (L++(pj.1++(parent,e.1,kn.self,IntKind.i64.wrap (kn.self + q.2),kn.count) :: q.1))) (L++(pj.1++(parent,e.1,kn.self,IntKind.i64.wrap (kn.self + q.2),kn.count) :: q.1)).length nj∧b≤nj∧Sb b t'∧KeepL s t'∧aNz t'.h.get (.sl m 1 0 K.length) (K.map (·.1)) m) (uj ?_) ?_
       ·skip
        replace G:=fk g0 (fk g1 (fk g2 (fk g10 (fk g31 (fk g32 g33)))))
        refine cY (a6 ?_)
        refine qX ?_
        refine qL ?_
        refine qV ?_
        refine cq ?_
        dsimp only [cj]
        refine cY (a6 ?_)
        refine qV ?_
        refine qP ?_
        refine qP ?_
        refine qL ?_
        refine qV ?_
        refine KV rfl (by first | exact MS.lookS (by simp only [evS,Nat.reduceEqDiff,reduceIte,G]; first | done | rfl) (by simp only [evS,Nat.reduceEqDiff,reduceIte,E4,G]; rfl) (wQ (by assumption)) rfl (by assumption) | exact MS.lookN (by simp only [evS,Nat.reduceEqDiff,reduceIte,G]; first | done | rfl) (by simp only [evS,Nat.reduceEqDiff,reduceIte,E4,G]; rfl) (wQ (by assumption)) rfl (by assumption)) (fun k hk=>by first | exact False.elim hk | (dsimp only at hk ⊢; omega) | omega) ?_
        refine qV ?_
        refine cq ?_
        dsimp only [cj]
        refine cY (a6 ?_)
        refine qV ?_
        refine fX rfl (by first | exact NJ (by simp only [evS,Nat.reduceEqDiff,reduceIte,G]; first | done | rfl) (by assumption) | simp only [evS,Nat.reduceEqDiff,reduceIte,PU,bj,scV,bV,iV,ij,isB,isI,q5,H8,mkV,G]; try rfl) ?_
        refine qV ?_
        refine cq ?_
        dsimp only [cj]
        have hn1c2:n1 < t.c∨t.c + 1000≤n1:=hn1c.imp (·.1) id
        refine cY (aLJ rfl ?_)
        refine rV ?_
        refine rV ?_
        refine rV ?_
        refine rV ?_
        refine rP ?_
        refine rP ?_
        refine aIW rfl (by first | exact MS.load1 (by simp only [evS,Nat.reduceEqDiff,reduceIte,G]; first | done | rfl) (by assumption) (by first | rfl | assumption | (simp only [uw,ow,G]; done) | simp) | exact MS.loadI1 (by simp only [evS,Nat.reduceEqDiff,reduceIte,G]; first | done | rfl) | exact MS.loadI2 (by simp only [evS,Nat.reduceEqDiff,reduceIte,G]; first | done | rfl)) (fun k hk=>by first | exact False.elim hk | (dsimp only at hk ⊢; omega) | omega) (fun x hx=>by simp at hx) ?_
        refine rV ?_
        refine rP ?_
        refine rP ?_
        refine rL ?_
        refine acz rfl (by simp only [evS,Nat.reduceEqDiff,reduceIte,PU,bj,scV,bV,iV,ij,isB,isI,q5,H8,mkV,fill,cZ,setAt,List.take_zero,List.take_succ_cons,List.take_nil,List.drop_nil,List.append_nil,List.nil_append,List.cons_append,List.length_cons,List.length_nil,Nat.reduceAdd,Nat.reduceLeDiff,acj,abq,eq_self,decide_true,Bool.and_self,G]; first | done | rfl) ?_
        refine aIW rfl (MS.bslK hS1 (by simp only [evS,Nat.reduceEqDiff,reduceIte,G]; first | done | rfl) rfl rfl) (fun k hk => by first | exact False.elim hk | (dsimp only at hk ⊢; omega) | omega) (by intro x hx; simp only [List.nil_append,List.cons_append,List.mem_cons,List.not_mem_nil,or_false] at hx; rcases hx with rfl | rfl <;> first | exact .inl (by dsimp only; decide) | (refine .inr fun k => ?_; refine ⟨?_,?_,?_⟩ <;> (intro hk; (try dsimp only at hk); first | exact hk.1.elim | exact hk.2.elim | omega))) ?_
        refine aNJ hS1 ?_
        intro s5 hst5 hsc5 hS5
        replace hnm:=hst5.at hnm (by omega)
        replace hcell1:=hst5.at hcell1 (by omega)
        replace hmap:=hst5.at hmap (by omega)
        replace hcellk:=hst5.at hcellk (by omega)
        have hn5:=hst5.self
        replace hrow1:=hrow1.keep (hst5.keep _ (by omega))
        refine aIZ rfl hS5 (by simp only [evS,Nat.reduceEqDiff,reduceIte,G]; try rfl) hrow1 (by omega) (by simp only [evS,Nat.reduceEqDiff,reduceIte,G]; try rfl) (by assumption) rfl (by first | assumption | rfl) (fun k hk => by first | exact False.elim hk | (dsimp only at hk ⊢; omega) | omega) (by intro x hx; simp only [List.nil_append,List.cons_append,List.mem_cons,List.not_mem_nil,or_false] at hx; rcases hx with rfl | rfl | rfl <;> first | exact .inl (by dsimp only; decide) | (refine .inr fun k => ?_; refine ⟨?_,?_,?_⟩ <;> (intro hk; (try dsimp only at hk); first | exact hk.1.elim | exact hk.2.elim | omega))) ?_
        intro s6 hst6 hS6
        have hsa6:=hst6.c
        replace hnm:=hst6.at hnm (by omega) (by omega)
        replace hcell1:=hst6.at hcell1 (by omega) (by omega)
        replace hmap:=hst6.at hmap (by omega) (by omega)
        replace hcellk:=hst6.at hcellk (by omega) (by omega)
        replace hn5:=hst6.at hn5 (by omega) (by omega)
        have hn6:=hst6.self
        refine rV ?_
        refine aPZ ?_
        dsimp only [cj]
        obtain ⟨hK6,hN6⟩:=hK1 s6 (by omega) fun k hk1 hk2=>by rw [hst6.keep k hk2 (by omega),hst5.keep k (by omega)]
        have hl1:((L++pj.1)++[((parent,e.1,kn.self,0,kn.count):N5)]).length = N0 + 1:=by rw [nw,hN0]; rfl
        have hrow7:RowK s6.h.get b7 5 (.sl s5.c 5 0 (N0 + 1)) (fq ((L++pj.1)++[(parent,e.1,kn.self,0,kn.count)])) ((L++pj.1)++[((parent,e.1,kn.self,0,kn.count):N5)]).length s5.c:=by
         refine ⟨mV _,.inr ⟨by rw [hl1],?_⟩⟩
         rw [hn6,O8 (L++pj.1)]; rfl
        have hA6:=hA.keep hK6
        have hq7:A6 ar f e.2 (N0:Int) ((((L++pj.1)++[((parent,e.1,kn.self,0,kn.count):N5)]).length:Nat):Int) = some (q.1,q.2):=by
         rw [hl1,← hq]
         have e1:(L.length:Int) + (pj.1.length:Int) = (N0:Int):=by rw [← hN0,nw]; omega
         rw [e1]; rfl
        have hl7:(((L++pj.1)++[((parent,e.1,kn.self,0,kn.count):N5)])++q.1).length≤100000:=by
         rw [nw,hl1,← hN0,nw]; omega
        have hb7:b≤s5.c:=by have:=hS1.le; omega
        refine cY (a6 ?_)
        refine qV ?_
        refine cq ?_
        dsimp only [cj]
        refine cY (a6 ?_)
        refine qV ?_
        refine qV ?_
        refine qV ?_
        refine qC (hC:=ih e.2 (N0:Int) ((L++pj.1)++[(parent,e.1,kn.self,0,kn.count)]) q.1 q.2 s6 _ s5.c pk hq7 hl7 hS6 hA6 hpk hrow7 hb7) (h:=?_)
        intro v7 s7 hq7
        obtain ⟨x8,n8,rfl,hrow8,hb8,hS8,hK8⟩:=hq7
        obtain ⟨N8,R8,rfl,h8,hR8,hN8,hNR⟩ : ∃ N8 R8,x8 = .sl n8 5 0 N8∧s7.h.get n8 = some (.cells b7 R8)∧R8 = fq (((L++pj.1)++[((parent,e.1,kn.self,0,kn.count):N5)])++q.1)∧N8 = N0 + 1 + q.1.length∧R8.length = N8 * 5:=by
         have hl8:(((L++pj.1)++[((parent,e.1,kn.self,0,kn.count):N5)])++q.1).length = N0 + 1 + q.1.length:=by rw [nw,hl1]
         obtain ⟨h0,⟨_,h1⟩ | ⟨h1,h2⟩⟩:=hrow8
         ·rw [hl8] at h1; omega
         ·exact ⟨_,_,h1,h2,rfl,hl8,h0⟩
        refine qV ?_
        refine qP ?_
        refine qP ?_
        refine qV ?_
        refine qV ?_
        refine cq ?_
        dsimp only [cj]
        try clear G
        clear hl7 hq7 hrow7 hl1
        have hKa:=hK6.trans hK8
        have hcell9:=hK8.2.1 _ _ _ hcellk (by decide)
        have hnm9:=hK8.2.1 _ _ _ hnm (by decide)
        have hc8:=hS8.lt h8
        have h8o:=h8
        have hkc9:=hS8.lt hcell9
        have hat:N0 < N8:=by omega
        have hne8:pk.1 ≠ n8:=fun e1=>by
         rw [e1,h8] at hcell9
         exact absurd (O.cells.inj (Option.some.inj hcell9)).1 (by decide)
        have hne9:m ≠ n8:=fun e1=>by
         rw [e1,h8] at hnm9
         exact absurd (O.cells.inj (Option.some.inj hnm9)).1 (by decide)
        replace G:=fk g0 (fk g1 (fk g2 (fk g10 (fk g31 (fk g32 g33)))))
        refine cY (a6 ?_)
        refine qV ?_
        refine qV ?_
        refine qV ?_
        refine qP ?_
        refine qP ?_
        refine qL ?_
        refine qV ?_
        refine qP ?_
        refine fX rfl (by first | exact aKJ (by simp only [evS,Nat.reduceEqDiff,reduceIte,G]; first | done | rfl) (by simp only [evS,Nat.reduceEqDiff,reduceIte,G]; first | done | rfl) (by assumption) | exact aNV (by simp only [evS,Nat.reduceEqDiff,reduceIte,G]; first | done | rfl) (by simp only [evS,Nat.reduceEqDiff,reduceIte,G]; first | done | rfl) (by first | assumption | omega)) ?_
        refine qP ?_
        refine qT ?_
        refine E6 hS8 (by omega) (by omega) ?_
        intro s8 hst8 hsc8 hS8
        first | replace hcell9:=hst8.at hcell9 (by omega) | replace hcell9:=hst8.self
        first | replace h8:=hst8.at h8 (by omega) | replace h8:=hst8.self
        first | replace hnm9:=hst8.at hnm9 (by omega) | replace hnm9:=hst8.self
        refine cq ?_
        dsimp only [cj]
        have C4:R8.set (N0 * 5 + 3) (.sc (.int .i64 (IntKind.i64.wrap (kn.self + q.2)))) = fq ((L++pj.1)++(parent,e.1,kn.self,IntKind.i64.wrap (kn.self + q.2),kn.count) :: q.1):=by
         rw [hR8,List.append_assoc,List.singleton_append,← hN0,ayj]
        obtain ⟨R9,hR9,bq,hl9⟩ : ∃ R9,R9 = fq ((L++pj.1)++(parent,e.1,kn.self,IntKind.i64.wrap (kn.self + q.2),kn.count) :: q.1)∧R9[N0 * 5 + 3]? = some (.sc (.int .i64 (IntKind.i64.wrap (kn.self + q.2))))∧R9.length = N8 * 5:=by
         refine ⟨_,rfl,?_,?_⟩
         ·rw [← hN0,avj _ _ _ 3 (by omega)]; rfl
         ·rw [← C4,qk]; exact hNR
        rw [C4,← hR9] at h8
        have hst8':=hst8
        rw [C4,← hR9] at hst8'
        try clear G
        clear C4 hR8
        replace G:=fk g0 (fk g1 (fk g2 (fk g10 (fk g31 (fk g32 g33)))))
        refine a6 ?_
        refine qV ?_
        refine qV ?_
        refine qV ?_
        refine fX rfl (by first | exact aKJ (by simp only [evS,Nat.reduceEqDiff,reduceIte,G]; first | done | rfl) (by simp only [evS,Nat.reduceEqDiff,reduceIte,G]; first | done | rfl) (by assumption) | exact aNV (by simp only [evS,Nat.reduceEqDiff,reduceIte,G]; first | done | rfl) (by simp only [evS,Nat.reduceEqDiff,reduceIte,G]; first | done | rfl) (by first | assumption | omega)) ?_
        refine qP ?_
        refine qL ?_
        refine qP ?_
        refine qV ?_
        refine cq ?_
        try dsimp only [cj]
        have hKb:KeepL s s8:=hKa.trans ⟨by omega,fun k e' xs hn he'=>by
         rw [hst8'.keep k (fun e1=>?_)]
         ·exact hn
         ·rw [e1,h8o] at hn; cases hn; exact he' rfl,fun k kd fl es hn=>⟨fl,by
         rw [hst8'.keep k (fun e1=>?_)]
         ·exact hn
         ·rw [e1,h8o] at hn; cases hn⟩⟩
        have hfin:(L++pj.1)++(parent,e.1,kn.self,IntKind.i64.wrap (kn.self + q.2),kn.count) :: q.1 = L++(pj.1++(parent,e.1,kn.self,IntKind.i64.wrap (kn.self + q.2),kn.count) :: q.1):=List.append_assoc _ _ _
        have hcnt:N8 = (L++(pj.1++((parent,e.1,kn.self,IntKind.i64.wrap (kn.self + q.2),kn.count):N5) :: q.1)).length:=by
         rw [← hfin,nw,hN0,List.length_cons]; omega
        refine ⟨lk,lk,lk,lk,lk,_,n8,lk,lk,⟨mV _,.inr ⟨by rw [← hcnt],?_⟩⟩,hb8,hS8,hKb,.inr ⟨by rw [nk],hnm9⟩⟩
        rw [h8,hR9,hfin]
       ·try clear G
        clear g0 g1 g2 g10 g31 g32 hS1 hK hK1 hnam hrow hrow1 hA1 hcell1 hmap hcellk hnm
        rintro Γ2 t2 ⟨g0,g2,g31,g32,k33,xj2,nj2,g1,g10,hrow,hbn,hS1,hK,hnam⟩
        replace G:=fk g0 (fk g1 (fk g2 (fk g10 (fk g31 (fk g32 k33)))))
        refine a6 ?_
        refine qP ?_
        refine qV ?_
        refine cq ?_
        try dsimp only [cj]
        refine ⟨⟨lk,lk,lk,lk,j + 1,_,xj2,nj2,?_,by omega,hfold2,lk,lk,hrow,hbn,hS1,hK,hnam⟩,?_⟩
        ·simp only [evS,Nat.reduceEqDiff,reduceIte]
         rw [wr (by omega) (by omega)]; rfl
        ·simp only [evS,Nat.reduceEqDiff,reduceIte,g33,iV]
         rw [wr (by omega) (by omega)]
         omega
      ·refine cY (j2 (t:=false) ?_ (N9 ?_))
       ·simp only [G8,vj,if_true,isB,bV,scV]
        rw [decide_eq_false (by omega)]
       have hjl:j = K.length:=by omega
       subst hjl
       rw [List.drop_length] at hfold
       simp only [List.foldlM_nil,Option.pure_def,cw] at hfold
       subst hfold
       simp only [cj,Nat.beq_refl,cond_true]
       exact ⟨xj,nj,(by simp only [evS,Nat.reduceEqDiff,reduceIte,g0,g1,g2,g10,g31,g32,g33]; try rfl),(by simp only [evS,Nat.reduceEqDiff,reduceIte,g0,g1,g2,g10,g31,g32,g33]; try rfl),hrow,hbn,hS1,hK⟩
    ·try clear G
     clear g0 g1 g2 g8 hK hnam hSt hrow hbn
     rintro Γ t ⟨x',n',g1,g10,hrow,hbn,hSt,hK⟩
     replace G:=fk g1 g10
     refine cY (a6 ?_)
     refine qV ?_
     refine qV ?_
     refine qV ?_
     refine qV ?_
     refine cq ?_
     dsimp only [cj]
     exact UJ ⟨.inr rfl,[.c x',iV w],0,MJ lk lk rfl rfl,kx,x',n',rfl,hrow,hbn,hSt,hK⟩
end Go.RM
namespace Go.RM
open Go.VM (T wj tI)
def tN5 (n:N5):List T:=[tI n.1,.sc (.string n.2.1),tI n.2.2.1,tI n.2.2.2.1,tI n.2.2.2.2]
end Go.RM
namespace Go.RM
open Go.VM (T wj tI)
structure aHx (orc:c6) (chk:List N5→Option Int):Prop where
 own:∀ s x l n r,RowK s.h.get b7 5 x (fq l) l.length n→chk l = some r→Cp orc VK oJ [.c x] s (fun k=>k = n∧x ≠ .sc ij) True fun v s'=>s = s'∧v = iV r
 aFZ:∀ s l r,chk l = some r→Cp orc VK oJ [.c (.im 5 (l.map tN5))] s (fun _=>False) True fun v s'=>s = s'∧v = iV r
def G0 (chk:List N5→Option Int) (ar:Ar):Option (List N5 × Int):=(A6 ar 1000 0 (-1) 0).bind fun p=>bif decide (p.1.length≤100000) then (chk p.1).map fun r=>bif decide (r = 0) then (p.1,0) else ([],r) else none
set_option maxHeartbeats 1000000 in
theorem aGK {orc:c6} (hsort:Sj orc) {chk:List N5→Option Int} (hchk:aHx orc chk) {b:Nat} {s:S} {ps:List (Nat × Nat)} {ar:Ar} {m0 p0:Nat} (hS:Sb b s) (hA:ArH b s.h.get ps ar) (hkids:E0 ar) (hp0:ps[0]? = some (p0,m0)) {out:List N5} {r:Int} (hb:G0 chk ar = some (out,r)) :
  Cp orc VK nY [.c (.ptr p0 0)] s (fun k=>b≤k) False fun v s'=>∃ x n,v = .tup [.c x,iV r]∧RowK s'.h.get b7 5 x (fq out) out.length n∧Sb b s':=by
 unfold G0 at hb
 obtain ⟨⟨o,w⟩,hl,hb⟩:=ak.1 hb
 simp only at hb
 cases hc:decide (o.length≤100000) with
 | false=>rw [hc] at hb; cases hb
 | true =>
 rw [hc] at hb
 have hlen:=of_decide_eq_true hc
 simp only [cond_true] at hb
 obtain ⟨e,he,hb⟩:=aw.1 hb
 refine SZ (rf:=mq) rfl ?_
 unfold mq
 obtain ⟨Γ,hΓ⟩ : ∃ Γ,Γ = ofL [V.c (.ptr p0 0)] 0 .lf:=⟨_,rfl⟩
 have g0:look Γ 0 = .c (.ptr p0 0):=by rw [hΓ]; rfl
 rw [← hΓ]
 try clear G
 clear hΓ
 have hr0:RowK s.h.get b7 5 (.sc ij) (fq []) ([]:List N5).length s.c:=⟨rfl,.inl ⟨rfl,rfl⟩⟩
 have hle:=hS.le
 replace G:=g0
 refine cY (a6 ?_)
 refine qV ?_
 refine qV ?_
 refine cq ?_
 dsimp only [cj]
 refine cY (a6 ?_)
 refine qV ?_
 refine qC (hC:=aNq hsort hkids 1000 0 (-1) [] o w s (.sc ij) s.c (p0,m0) hl (by simpa using hlen) hS hA.toR hp0 hr0 hle) (h:=?_)
 intro v1 s1 hq1
 obtain ⟨x,n,rfl,hrow,hbn,hS1,hK1⟩:=hq1
 rw [List.nil_append] at hrow
 refine qV ?_
 refine qP ?_
 refine qP ?_
 refine qV ?_
 refine qV ?_
 refine cq ?_
 dsimp only [cj]
 refine cY (cY ?_)
 refine a6 ?_
 refine qV ?_
 refine qC (hC:=(hchk.own s1 x o n e hrow he).weak) (h:=?_)
 intro v2 s2 hq2
 obtain ⟨rfl,rfl⟩:=hq2
 refine qV ?_
 refine cq ?_
 try dsimp only [cj]
 refine cY (a6 ?_)
 refine qV ?_
 refine qP ?_
 refine cq ?_
 dsimp only [cj]
 by_cases e0:e = 0
 ·subst e0
  refine j2 (t:=false) (by simp only [evS,Nat.reduceEqDiff,reduceIte]; rfl) (xJ ?_)
  dsimp only [cj]
  simp only [decide_true,cond_true] at hb
  cases hb
  replace G:=g0
  refine cY (a6 ?_)
  refine qV ?_
  refine qV ?_
  refine qV ?_
  refine cq ?_
  dsimp only [cj]
  exact UJ ⟨.inr rfl,[.c x,iV 0],0,MJ lk lk rfl rfl,kx,x,n,rfl,hrow,hS1⟩
 ·refine j2 (t:=true) ?_ ?_
  ·simp only [evS,Nat.reduceEqDiff,reduceIte,isB,bV,scV]
   rw [decide_eq_false e0]; rfl
  dsimp only [cond_true]
  rw [decide_eq_false e0] at hb
  cases hb
  replace G:=g0
  refine cY (a6 ?_)
  refine qV ?_
  refine qV ?_
  refine qV ?_
  refine cq ?_
  dsimp only [cj]
  exact UJ ⟨.inr rfl,[.c (.sc ij),iV r],0,MJ lk lk rfl rfl,kx,.sc ij,n,rfl,⟨rfl,.inl ⟨rfl,rfl⟩⟩,hS1⟩
structure Smp where
 thread:Int
 at':Int
 weight:Int
 stack:List ByteArray
def tSmp (y:Smp):List T:=[tI y.thread,tI y.at',tI y.weight,.sl 1 (y.stack.map fun s=>[.sc (.string s)])]
def ar0:Ar:=[⟨0,0,none⟩]
def F2 (ar:Ar) (y:Smp):Option Ar:=if y.stack = [] then some ar else if y.stack.length≤1000000 then aaW ar y.stack y.weight 1 else none
theorem aVZ {b:Nat} {h:Hp} {k:Nat} (hb:b≤k) (hk:h k = some (.cells eK [.sc (.int .i64 0),.sc (.int .i64 0),.sc (.map none)])):ArH b h [(k,0)] ar0:=by
 have h0:∀ (i:Nat) t,ar0[i]? = some t→t = ⟨0,0,none⟩:=fun i t ht=>by
  unfold ar0 at ht
  cases i with
  | zero=>cases ht; rfl
  | succ i=>simp at ht
 have h1:∀ (i:Nat) p,[((k,0):Nat × Nat)][i]? = some p→i = 0∧p = (k,0):=fun i p hp=>by
  cases i with
  | zero=>cases hp; exact ⟨rfl,rfl⟩
  | succ i=>simp at hp
 refine ⟨rfl,fun i t p ht hp=>?_,fun i t p l ht hp hl=>?_,fun i j p q hp hq _=>?_,fun i j t u p q ht hu hp hq ht2 _ _=>?_,fun i j u p q hu hp hq hu2=>?_⟩
 ·rw [h0 i t ht,(h1 i p hp).2]; exact ⟨hb,hk⟩
 ·rw [h0 i t ht] at hl; cases hl
 ·rw [(h1 i p hp).1,(h1 j q hq).1]
 ·rw [h0 i t ht] at ht2; exact absurd rfl ht2
 ·rw [h0 j u hu] at hu2; exact absurd rfl hu2
set_option maxHeartbeats 1000000 in
theorem abz {orc:c6} (hsort:Sj orc) {chk:List N5→Option Int} (hchk:aHx orc chk) {b:Nat} {s:S} (hS:Sb b s) {sm:List Smp} (hsl:sm.length≤1000000) {e:Int} (hsc:∀ s,Cp orc VK uQ [.c (.im 4 (sm.map tSmp))] s (fun _=>False) True fun v s'=>s = s'∧v = iV e) {out:List N5} {r:Int}
  (hres:(e ≠ 0∧out = []∧r = e)∨(e = 0∧∃ ar,sm.foldlM F2 ar0 = some ar∧E0 ar∧G0 chk ar = some (out,r))) :
  Cp orc VK tX [.c (.im 4 (sm.map tSmp))] s (fun k=>b≤k) False fun v s'=>∃ x n,v = .tup [.c x,iV r]∧RowK s'.h.get b7 5 x (fq out) out.length n:=by
 refine SZ (rf:=nJ) rfl ?_
 unfold nJ
 obtain ⟨Γ,hΓ⟩ : ∃ Γ,Γ = ofL [V.c (.im 4 (sm.map tSmp))] 0 .lf:=⟨_,rfl⟩
 have g0:look Γ 0 = .c (.im 4 (sm.map tSmp)):=by rw [hΓ]; rfl
 rw [← hΓ]
 try clear G
 clear hΓ
 have hle:=hS.le
 replace G:=g0
 refine cY (a6 ?_)
 refine qV ?_
 refine qV ?_
 refine cq ?_
 dsimp only [cj]
 refine cY (cY ?_)
 refine a6 ?_
 refine qV ?_
 refine qC (hC:=(hsc s).weak) (h:=?_)
 intro v1 s1 hq1
 obtain ⟨rfl,rfl⟩:=hq1
 refine qV ?_
 refine cq ?_
 try dsimp only [cj]
 refine cY (a6 ?_)
 refine qV ?_
 refine qP ?_
 refine cq ?_
 dsimp only [cj]
 by_cases e0:e = 0
 ·subst e0
  obtain ⟨ar,hfold,hkids,hbuilt⟩ : ∃ ar,sm.foldlM F2 ar0 = some ar∧E0 ar∧G0 chk ar = some (out,r):=by
   rcases hres with ⟨h,_⟩ | ⟨_,h⟩
   ·exact absurd rfl h
   ·exact h
  refine j2 (t:=false) (by simp only [evS,Nat.reduceEqDiff,reduceIte]; rfl) (xJ ?_)
  dsimp only [cj]
  replace G:=g0
  refine cY (a6 ?_)
  refine fX rfl (by simp only [evS,Nat.reduceEqDiff,reduceIte,PU,bj,scV,bV,iV,ij,isB,isI,q5,H8,mkV,fill,cZ,setAt,List.take_zero,List.take_succ_cons,List.take_nil,List.drop_nil,List.append_nil,List.nil_append,List.cons_append,List.length_cons,List.length_nil,Nat.reduceAdd,Nat.reduceLeDiff,acj,abq,eq_self,decide_true,Bool.and_self,G]; first | done | rfl) ?_
  refine KV rfl (MS.box hS (by simp only [evS,Nat.reduceEqDiff,reduceIte,cZ,G]; first | done | rfl)) (fun k hk=>by first | exact False.elim hk | (dsimp only at hk ⊢; omega) | omega) ?_
  refine OQ hS ?_
  intro s2 hst2 hsc2 hS2
  have hn2:=hst2.self
  refine qV ?_
  refine cq ?_
  dsimp only [cj]
  have hA0:=aVZ (h:=s2.h.get) hle hn2
  refine p7 (fun Γ t=>look Γ 5 = .c (.ptr s.c 0)∧∃ (ps:List (Nat × Nat)) (m0:Nat),Sb b t∧ArH b t.h.get ps ar∧ps[0]? = some (s.c,m0)) ?_ ?_
  ·skip
   replace G:=g0
   refine cY (a6 ?_)
   refine qVL ?_
   refine fX rfl (by first | exact NJ (by simp only [evS,Nat.reduceEqDiff,reduceIte,nk,G]; first | done | rfl) (by assumption) | simp only [evS,Nat.reduceEqDiff,reduceIte,PU,bj,scV,bV,iV,ij,isB,isI,q5,H8,mkV,nk,G]; try rfl) ?_
   refine qVL ?_
   refine cq ?_
   dsimp only [cj]
   refine uj (abV (fun Γ t=>look Γ 5 = .c (.ptr s.c 0)∧look Γ 15 = .c (.im 4 (sm.map tSmp))∧look Γ 16 = iV (sm.length:Int)∧∃ (j:Nat) (arj:Ar) (ps:List (Nat × Nat)) (m0:Nat),look Γ 17 = iV (j:Int)∧j≤sm.length∧(sm.drop j).foldlM F2 arj = some ar∧Sb b t∧ArH b t.h.get ps arj∧ps[0]? = some (s.c,m0)) (fun Γ _=>match look Γ 17 with
    | .c (.sc (.int _ i))=>sm.length - i.toNat
    | _=>0) ⟨lkL,lkL,lkL,0,ar0,_,0,lkL,Nat.zero_le _,hfold,hS2,hA0,rfl⟩ ?_)
   try clear G
   clear g0 hA0 hn2 hfold Γ
   rintro Γ t ⟨g5,g15,g16,j,arj,ps,m0,g17,hj,hfold,hSt,hA,hp0⟩
   replace G:=fk g5 (fk g15 (fk g16 g17))
   refine cY (a6 ?_)
   refine qP ?_
   refine cq ?_
   dsimp only [cj]
   by_cases hjl:j < sm.length
   ·refine cY (j2 (t:=true) ?_ (xJ ?_))
    ·simp only [G8,vj,if_true,isB,bV,scV]
     rw [decide_eq_true (by omega)]
    dsimp only [cj]
    obtain ⟨y,hy⟩ : ∃ y,sm[j]? = some y:=⟨_,bk hjl⟩
    have hdrop:sm.drop j = y :: sm.drop (j + 1):=by
     rw [List.drop_eq_getElem_cons hjl]
     rw [bk hjl] at hy
     cases hy; rfl
    rw [hdrop,List.foldlM_cons] at hfold
    obtain ⟨ar',hstep,hfold2⟩:=ak.1 hfold
    have hy2:(sm.map tSmp)[j]? = some (tSmp y):=by rw [ow,hy]; rfl
    unfold tSmp at hy2
    refine p7 (fun Γ t=>look Γ 5 = .c (.ptr s.c 0)∧look Γ 15 = .c (.im 4 (sm.map tSmp))∧look Γ 16 = iV (sm.length:Int)∧look Γ 17 = iV (j:Int)∧∃ (ps:List (Nat × Nat)) (m0:Nat),Sb b t∧ArH b t.h.get ps ar'∧ps[0]? = some (s.c,m0)) (uj ?_) ?_
    ·have hle2:=hSt.le
     replace G:=fk g5 (fk g15 (fk g16 g17))
     refine cY (a6 ?_)
     refine fX rfl (by first | exact aKJ (by simp only [evS,Nat.reduceEqDiff,reduceIte,G]; first | done | rfl) (by simp only [evS,Nat.reduceEqDiff,reduceIte,G]; first | done | rfl) (by assumption) | exact aNV (by simp only [evS,Nat.reduceEqDiff,reduceIte,G]; first | done | rfl) (by simp only [evS,Nat.reduceEqDiff,reduceIte,G]; first | done | rfl) (by first | assumption | omega)) ?_
     refine qA ?_
     refine qM (MS.alloc hSt) ?_
     refine OQ hSt ?_
     intro s3 hst3 hsc3 hS3
     have hn3:=hst3.self
     refine KV rfl (MS.storeA (by simp only [evS,Nat.reduceEqDiff,reduceIte,G]; try rfl) (by simp only [evS,Nat.reduceEqDiff,reduceIte,cZ,G]; first | done | rfl) (by assumption) rfl (by first | rfl | (simp; done) | omega)) (fun k hk=>by first | exact False.elim hk | (dsimp only at hk ⊢; omega) | omega) ?_
     refine E6 hS3 (by omega) (by omega) ?_
     intro s4 hst4 hsc4 hS4
     first | replace hn3:=hst4.at hn3 (by omega) | replace hn3:=hst4.self
     refine cq ?_
     dsimp only [cj]
     replace G:=fk g5 (fk g15 (fk g16 g17))
     refine cY (a6 ?_)
     refine qPL ?_
     refine qLL ?_
     refine fX rfl (by first | exact NJ (by simp only [evS,Nat.reduceEqDiff,reduceIte,nk,G]; first | done | rfl) (by assumption) | simp only [evS,Nat.reduceEqDiff,reduceIte,PU,bj,scV,bV,iV,ij,isB,isI,q5,H8,mkV,nk,G]; try rfl) ?_
     refine qPL ?_
     refine cq ?_
     dsimp only [cj]
     have hA4:ArH b s4.h.get ps arj:=hA.keep (fun i q hq=>by
      have:=(hA.lt hSt).1 i q hq
      rw [hst4.keep _ (by omega),hst3.keep _ (by omega)]) (fun i u q hu hq hk=>by
      have:=(hA.lt hSt).2 i u q hu hq hk
      rw [hst4.keep _ (by omega),hst3.keep _ (by omega)])
     unfold F2 at hstep
     by_cases hst:y.stack = []
     ·rw [if_pos hst] at hstep
      cases hstep
      refine j2 (t:=false) ?_ (xJ ?_)
      ·simp only [evS,Nat.reduceEqDiff,reduceIte,isB,bV,scV]
       rw [hst]; rfl
      exact ⟨(by simp only [evS,Nat.reduceEqDiff,reduceIte,g5,g15,g16,g17,nk]; try rfl),(by simp only [evS,Nat.reduceEqDiff,reduceIte,g5,g15,g16,g17,nk]; try rfl),(by simp only [evS,Nat.reduceEqDiff,reduceIte,g5,g15,g16,g17,nk]; try rfl),(by simp only [evS,Nat.reduceEqDiff,reduceIte,g5,g15,g16,g17,nk]; try rfl),ps,m0,hS4,hA4,hp0⟩
     ·rw [if_neg hst] at hstep
      split at hstep
      ·rename_i hlen
       refine j2 (t:=true) ?_ ?_
       ·simp only [evS,Nat.reduceEqDiff,reduceIte,isB,bV,scV]
        have:0 < y.stack.length:=List.length_pos_iff.2 hst
        rw [decide_eq_true (by omega)]
       dsimp only [cond_true]
       replace G:=fk g5 (fk g15 (fk g16 g17))
       refine a6 ?_
       refine qVL ?_
       refine qPL ?_
       refine qLL ?_
       refine qPL ?_
       refine qLL ?_
       refine qCL (hC:=(aQJ hS4 hA4 hlen hp0 (.inl rfl) hstep).weak) (h:=?_)
       intro v5 s5 hq5
       obtain ⟨ps',m',hS5,hA5,hp5,_⟩:=hq5
       refine cq ?_
       try dsimp only [cj]
       exact ⟨lkL,lkL,lkL,lkL,ps',m',hS5,hA5,hp5⟩
      ·cases hstep
    ·try clear G
     clear g5 g15 g16 hSt hA hp0
     rintro Γ2 t2 ⟨g5,g15,g16,k17,ps,m0,hSt,hA,hp0⟩
     replace G:=fk g5 (fk g15 (fk g16 k17))
     refine a6 ?_
     refine qP ?_
     refine qV ?_
     refine cq ?_
     try dsimp only [cj]
     refine ⟨⟨lk,lk,lk,j + 1,ar',ps,m0,?_,by omega,hfold2,hSt,hA,hp0⟩,?_⟩
     ·simp only [evS,Nat.reduceEqDiff,reduceIte]
      rw [wr (by omega) (by omega)]; rfl
     ·simp only [evS,Nat.reduceEqDiff,reduceIte,g17,iV]
      rw [wr (by omega) (by omega)]
      omega
   ·refine cY (j2 (t:=false) ?_ (N9 ?_))
    ·simp only [G8,vj,if_true,isB,bV,scV]
     rw [decide_eq_false (by omega)]
    have hjl:j = sm.length:=by omega
    subst hjl
    rw [List.drop_length] at hfold
    simp only [List.foldlM_nil,Option.pure_def,cw] at hfold
    subst hfold
    simp only [cj,Nat.beq_refl,cond_true]
    exact ⟨(by simp only [evS,Nat.reduceEqDiff,reduceIte,g5,g15,g16,g17]; try rfl),ps,m0,hSt,hA,hp0⟩
  ·try clear G
   clear g0
   rintro Γ t ⟨g5,ps,m0,hSt,hA,hp0⟩
   replace G:=g5
   refine cY (a6 ?_)
   refine qV ?_
   refine qC (hC:=aGK hsort hchk hSt hA hkids hp0 hbuilt) (h:=?_)
   intro v6 s6 hq6
   obtain ⟨x,n,rfl,hrow,hS6⟩:=hq6
   refine qP ?_
   refine qP ?_
   refine qV ?_
   refine qV ?_
   refine cq ?_
   dsimp only [cj]
   exact UJ ⟨.inr rfl,[.c x,iV r],0,MJ lk lk rfl rfl,kx,x,n,rfl,hrow⟩
 ·obtain ⟨rfl,rfl⟩ : out = []∧r = e:=by
   rcases hres with ⟨_,h⟩ | ⟨h,_⟩
   ·exact h
   ·exact absurd h e0
  refine j2 (t:=true) ?_ ?_
  ·simp only [evS,Nat.reduceEqDiff,reduceIte,isB,bV,scV]
   rw [decide_eq_false e0]; rfl
  dsimp only [cond_true]
  replace G:=g0
  refine cY (a6 ?_)
  refine qV ?_
  refine qV ?_
  refine qV ?_
  refine cq ?_
  dsimp only [cj]
  exact UJ ⟨.inr rfl,[.c (.sc ij),iV r],0,MJ lk lk rfl rfl,kx,.sc ij,0,rfl,⟨rfl,.inl ⟨rfl,rfl⟩⟩⟩
end Go.RM
namespace Go.RM
open Go.VM (T wj tI)
end Go.RM
namespace Go.VM
open Go Go.Proofs Go.Proofs.Ytjdjjcebbjjlkaa
open Go.Shelf
def amQ:Go.Shelf.Ren:=⟨fun | 190=>51 | 125=>55 | 258=>54 | 128=>66 | 129=>67 | 302=>57 | 303=>58 | 304=>59 | 305=>60 | 306=>61 | 307=>62 | 308=>63 | 309=>64 | 310=>65 | 333=>69 | 329=>70 | 330=>71 | 334=>72 | 335=>73 | 336=>74 | 344=>76 | n=>n,fun | 31=>30 | 9=>9 | 3=>3 | 46=>78 | 0=>0 | 51=>89 | 53=>91 | 4=>4 | 183=>81 | 182=>80 | 131=>86 | 5=>5 | 218=>92 | 222=>96 | 228=>99 | 229=>100 | n=>n,fun | n=>n⟩
theorem flSort:Go.Proofs.Lays.n190 Try.prog amQ:={
 mixed:=by kernel_rfl
 f125:=Try.func55.trans (congrArg some (by kernel_rfl))
 f128:=Try.func66.trans (congrArg some (by kernel_rfl))
 f129:=Try.func67.trans (congrArg some (by kernel_rfl))
 f190:=Try.func51.trans (congrArg some (by kernel_rfl))
 f258:=Try.func54.trans (congrArg some (by kernel_rfl))
 f302:=Try.func57.trans (congrArg some (by kernel_rfl))
 f303:=Try.func58.trans (congrArg some (by kernel_rfl))
 f304:=Try.func59.trans (congrArg some (by kernel_rfl))
 f305:=Try.func60.trans (congrArg some (by kernel_rfl))
 f306:=Try.func61.trans (congrArg some (by kernel_rfl))
 f307:=Try.func62.trans (congrArg some (by kernel_rfl))
 f308:=Try.func63.trans (congrArg some (by kernel_rfl))
 f309:=Try.func64.trans (congrArg some (by kernel_rfl))
 f310:=Try.func65.trans (congrArg some (by kernel_rfl))
 f329:=Try.func70.trans (congrArg some (by kernel_rfl))
 f330:=Try.func71.trans (congrArg some (by kernel_rfl))
 f333:=Try.func69.trans (congrArg some (by kernel_rfl))
 f334:=Try.func72.trans (congrArg some (by kernel_rfl))
 f335:=Try.func73.trans (congrArg some (by kernel_rfl))
 f336:=Try.func74.trans (congrArg some (by kernel_rfl))
 f344:=Try.func76.trans (congrArg some (by kernel_rfl))
 t0:=Try.underlying0
 a0:=Try.isAgg0
 z0:=Try.sizeOf0
 v0:=Try.zeroValue0
 t3:=Try.underlying3
 a3:=Try.isAgg3
 z3:=Try.sizeOf3
 v3:=Try.zeroValue3
 t4:=Try.underlying4
 a4:=Try.isAgg4
 z4:=Try.sizeOf4
 v4:=Try.zeroValue4
 t5:=Try.underlying5
 a5:=Try.isAgg5
 z5:=Try.sizeOf5
 v5:=Try.zeroValue5
 t9:=Try.underlying9
 a9:=Try.isAgg9
 z9:=Try.sizeOf9
 v9:=Try.zeroValue9
 t31:=Try.underlying30
 a31:=Try.isAgg30
 z31:=Try.sizeOf30
 v31:=Try.zeroValue30
 t46:=Try.underlying78
 a46:=Try.isAgg78
 z46:=Try.sizeOf78
 v46:=Try.zeroValue78
 t51:=Try.underlying89
 a51:=Try.isAgg89
 z51:=Try.sizeOf89
 v51:=Try.zeroValue89
 t53:=Try.underlying91
 a53:=Try.isAgg91
 z53:=Try.sizeOf91
 v53:=Try.zeroValue91
 t131:=Try.underlying86
 a131:=Try.isAgg86
 z131:=Try.sizeOf86
 v131:=Try.zeroValue86
 t182:=Try.underlying80
 a182:=Try.isAgg80
 z182:=Try.sizeOf80
 v182:=Try.zeroValue80
 t183:=Try.underlying81
 a183:=Try.isAgg81
 z183:=Try.sizeOf81
 v183:=Try.zeroValue81
 t218:=Try.underlying92
 a218:=Try.isAgg92
 z218:=Try.sizeOf92
 v218:=Try.zeroValue92
 t222:=Try.underlying96
 a222:=Try.isAgg96
 z222:=Try.sizeOf96
 v222:=Try.zeroValue96
 t228:=Try.underlying99
 a228:=Try.isAgg99
 z228:=Try.sizeOf99
 v228:=Try.zeroValue99
 t229:=Try.underlying100
 a229:=Try.isAgg100
 z229:=Try.sizeOf100
 v229:=Try.zeroValue100 }
end Go.VM
namespace Go.RM
open Go.VM (T wj tI Pt Fr RepT Fun noHeap kZ qj jV)
open Go Go.Proofs Go.Proofs.Ytjdjjcebbjjlkaa Go.Shelf Go.Sort Go.RowKit
theorem Q8 (b:ByteArray):encStr b.data.toList = .string b:=by simp [encStr]
theorem aaJ (ss:List ByteArray):(ss.map (·.data.toList)).mergeSort (fun x y=>decide (x≤y)) = (lK ss).map (·.data.toList):=by
  have key:((ss.map (·.data.toList)).mergeSort (fun x y=>decide (x≤y))).map (fun l:List UInt8=>(⟨l.toArray⟩ : ByteArray)) = lK ss:=by
    refine Fq ?_ ?_ (HW ss)
    · have h1:=(List.mergeSort_perm (ss.map (·.data.toList)) (fun x y:List UInt8=>decide (x≤y))).map (fun l:List UInt8=>(⟨l.toArray⟩ : ByteArray))
      rw [List.map_map] at h1
      have h2:ss.map ((fun l:List UInt8=>(⟨l.toArray⟩ : ByteArray)) ∘ (·.data.toList)) = ss:=by
        conv=>rhs; rw [← List.map_id ss]
        exact List.map_congr_left fun x _=>by simp
      rw [h2] at h1
      exact h1.trans (List.mergeSort_perm ss leS).symm
    · rw [List.pairwise_map]
      exact (List.pairwise_mergeSort (le:=fun x y:List UInt8=>decide (x≤y)) (fun a b c h1 h2=>CW _ _ _ h1 h2) (fun a b=>Dj _ _) _).imp fun h=>by unfold leS; simpa using h
  rw [← key,List.map_map]
  conv=>lhs; rw [← List.map_id ((ss.map (·.data.toList)).mergeSort (fun x y=>decide (x≤y)))]
  exact List.map_congr_left fun x _=>by simp
section
variable {α:Type} [Inhabited α] {enc:α→Value}
theorem aMX {w:World} {q off n:Nat} {d:Array α} {os:Array Obj} {cur:Array Value} {e:TypeId} {fr:Nat × Nat} (hb:w.heap[q]? = some (.cells cur e fr)) :
    (grow (putRow enc (Sort.ahead w n) q off d) os).heap[q]? = some (.cells (putCells enc off d cur) e fr):=by
  have hg:q < w.heap.size:=(gk.1 hb).1
  rw [heap_grow_old _ _ (by simpa using hg)]
  simp [putRow,mapBlock,Sort.ahead,Array.getElem?_modify,hb,onCells]
theorem aUX {w:World} {q off n:Nat} {d:Array α} {os:Array Obj} {mine:Nat→Prop} (hm:mine q):Fr w (grow (putRow enc (Sort.ahead w n) q off d) os) mine:=by
  refine ⟨rfl,rfl,rfl,by simp [grow,putRow,mapBlock,Sort.ahead],fun k hk hne=>?_⟩
  rw [heap_grow_old _ _ (by simpa using hk)]
  have:q ≠ k:=fun e=>hne (by rw [← e]; exact hm)
  simp [putRow,mapBlock,Sort.ahead,Array.getElem?_modify,this]
theorem aJJ {w:World} {b:Nat} {arr:Array Value} {e:TypeId} {fr:Nat × Nat} (h:w.heap[b]? = some (.cells arr e fr)) (i:Nat):w.cell? ⟨b,i,none⟩ = arr[i]?:=by
  simp [World.cell?,h]
end
set_option maxHeartbeats 1000000 in
theorem ahK {ss:List ByteArray} (hll:ss.length≤1000000) {w0 w:World} {s:S} {g h2:Hp} {φ:Ren} {vs:List Value} {m:Nat} (hm:s.h.get m = some (.cells fQ (ss.map vQ))) (rm:h2 m = g m) (hi:Inv g s) (R:Rel w0 φ (c7 h2 s) w) (hv:Pt (RepV φ) vs [.c (.sl m 1 0 ss.length)]) :
    Calls Try.prog 51 vs.toArray w fun e w'=>∃ v,e = .returned v∧∃ φ',φ.le φ'∧Rel w0 φ' (c7 h2 (lQ s m (.cells fQ ((lK ss).map vQ)))) w'∧RepV φ' v (.tup []):=by
  obtain ⟨v,rfl⟩ : ∃ v,vs = [v]:=by
    have:=hv.1
    match vs,this with
    | [v],_=>exact ⟨v,rfl⟩
  have hv0:RepX φ v (.sl m 1 0 ss.length):=hv.2 0 v _ rfl rfl
  have gm:=(d5 hi rm).trans hm
  obtain ⟨b,β,lim,arr,a1,a2,a3,a4,a5⟩:=R.rep m _ gm
  have lb:=(gk.1 a2).1
  have hsl:(lK ss).length = ss.length:=List.length_mergeSort _
  have hov:c7 h2 (lQ s m (.cells fQ ((lK ss).map vQ))) = upd (c7 h2 s) m (.cells fQ ((lK ss).map vQ)):=VW
  rw [hov]
  have hni:∀ p m' size seen,c7 h2 s p = some (.iter m' size seen)→m' = m→p ≠ m→(∃ kd es,O.cells fQ ((lK ss).map vQ) = .map kd true es)∧∀ b,blk φ m b→True:=fun p m' size seen hp he _=>by
    obtain ⟨kd,es,h⟩:=R.iters p m' size seen hp
    subst he
    rw [gm] at h; cases h
  cases hv0 with
  | sl _ _ _ _ b' β' lim' o cap g1 g2 g3 g4 =>
  rw [a1] at g1
  cases g1
  by_cases h0:ss = []
  · subst h0
    have:=Any.slices_Sort_string_none Go.VM.flSort (some ⟨b,o,none⟩) cap w
    change Calls Try.prog 51 _ _ _ at this
    refine this.mono fun e w' ⟨he,hw⟩=>?_
    subst hw
    refine ⟨_,he,φ,Ren.le_refl φ,?_,⟨#[],rfl,Go.VM.Pt.nil⟩⟩
    have hs0:(lK []).map vQ = []:=by simp [lK]
    rw [hs0]
    refine R.put gm rfl (Fr.refl _ _) ⟨b,β,lim,arr,a1,a2,a3,a4,fun j x hx=>by simp at hx⟩ (fun p m' size seen hp he _=>?_) (fun m' size seen he=>by cases he)
    obtain ⟨kd,es,h⟩:=R.iters p m' size seen hp
    subst he
    rw [gm] at h; cases h
  · have hpos:0 < ss.length:=List.length_pos_iff.2 h0
    have ho:=(g3 hpos).symm
    simp only [Nat.add_zero] at ho
    subst ho
    have hH:Holds encStr w b β (ss.map (·.data.toList)).toArray:=by
      intro j hj
      have hj':j < ss.length:=by simpa using hj
      obtain ⟨u,hu,hr⟩:=a5 j (vQ ss[j]) (by rw [ow,bk hj']; rfl)
      cases hr
      refine ⟨?_,by simp [World.frozen?,a2]⟩
      rw [aJJ a2,hu]
      simp [hj',Q8]
    have cS:=Any.slices_Sort_string Go.VM.flSort b β cap (ss.map (·.data.toList)) w hH lb (by rw [nk]; omega)
    change Calls Try.prog 51 _ _ _ at cS
    rw [nk,aaJ] at cS
    refine cS.mono ?_
    rintro e w' ⟨rfl,nn,os,rfl⟩
    refine ⟨_,rfl,φ,Ren.le_refl φ,?_,⟨#[],rfl,Go.VM.Pt.nil⟩⟩
    refine R.put gm rfl (aUX ⟨_,_,a1⟩) ⟨b,β,lim,_,a1,aMX a2,by simp [putCells,a3],by rw [nk,hsl]; rw [nk] at a4; exact a4,fun j x hx=>?_⟩ (fun p m' size seen hp he _=>?_) (fun m' size seen he=>by cases he)
    · rw [ow] at hx
      obtain ⟨t,ht,rfl⟩:=aw.1 hx
      have hjl:j < (lK ss).length:=(bw.1 ht).1
      have hlt:β + j < arr.size:=by rw [nk] at a4; omega
      refine ⟨.string t,?_,.sc _ rfl⟩
      simp only [putCells,Array.getElem?_mapIdx,Array.getElem?_eq_getElem hlt,kw]
      have h1:β≤β + j∧β + j < β + ((lK ss).map (·.data.toList)).toArray.size:=by simp; omega
      rw [if_pos h1]
      congr 1
      have h3:β + j - β = j:=by omega
      rw [h3]
      simp [getElem!_def,ht,Q8]
    · obtain ⟨kd,es,h⟩:=R.iters p m' size seen hp
      subst he
      rw [gm] at h; cases h
theorem ajK:∀ {a b:List ByteArray},a.map vQ = b.map vQ→a = b
  | [],[],_=>rfl
  | [],b :: l,h=>by simp at h
  | a :: l,[],h=>by simp at h
  | a :: l,b :: l',h=>by
    rw [lw,lw,List.cons.injEq] at h
    obtain ⟨h1,h2⟩:=h
    simp only [vQ,X.sc.injEq,Value.string.injEq] at h1
    rw [h1,ajK h2]
def SSA (args:List V) (s:S) (q:Nat × List ByteArray):Prop:=args = [.c (.sl q.1 1 0 q.2.length)]∧s.h.get q.1 = some (.cells fQ (q.2.map vQ))∧q.2.length≤1000000
theorem SSA.uniq {args:List V} {s:S} {q q':Nat × List ByteArray} (h:SSA args s q) (h':SSA args s q'):q' = q:=by
  obtain ⟨m,ss⟩:=q
  obtain ⟨m',ss'⟩:=q'
  have e:=h.1.symm.trans h'.1
  simp only [List.cons.injEq,V.c.injEq,X.sl.injEq,and_true,true_and] at e
  obtain ⟨rfl,_⟩:=e
  have e2:=h.2.1.symm.trans h'.2.1
  simp only [cw,O.cells.injEq,true_and] at e2
  rw [ajK e2]
open Classical in
noncomputable def t8 (base:c6):c6:=fun f args s =>
  if f = d8 then
    (if args = [.c (.sc ij)] then some ([(.tup [],s)],0)
     else if h:∃ q,SSA args s q then some ([(.tup [],lQ s h.choose.1 (.cells fQ ((lK h.choose.2).map vQ)))],bit h.choose.1) else none)
  else base f args s
theorem aLQ {g:Hp} {s:S} {n:Nat} {o:O} (h:Inv g s):Inv g (lQ s n o):=fun k hk=>by
  simp only [lQ] at hk
  have h1:s.w.testBit k = false∧(bit n).testBit k = false:=by
    have:(Nat.lor s.w (bit n)).testBit k = (s.w.testBit k || (bit n).testBit k):=Nat.testBit_or ..
    rw [this,Bool.or_eq_false_iff] at hk; exact hk
  have hne:k ≠ n:=fun e=>by rw [pK,e] at h1; simp at h1
  rw [(zX s n o).keep k hne]; exact h k h1.1
section
variable {base:c6}
theorem afq (hb:mz base):mz (t8 base):=by
  intro f args s outs r h g hi p hp
  unfold t8 at h
  split at h
  · split at h
    · cases h; rw [dk.1 hp]; exact hi
    · split at h
      · cases h; rw [dk.1 hp]; exact aLQ hi
      · cases h
  · exact hb f args s outs r h g hi p hp
theorem amz (ho:∀ w0,tQ Try.prog w0 base):∀ w0,tQ Try.prog w0 (t8 base):=by
  intro w0 f args s outs rr h
  unfold t8 at h
  split at h
  · rename_i hf
    subst hf
    split at h
    · rename_i ha
      subst ha
      cases h
      refine ⟨⟨_,Try.func51,by kernel_rfl,by kernel_rfl⟩,fun g h2 φ w vs hr hi R hv=>?_⟩
      obtain ⟨v,rfl⟩ : ∃ v,vs = [v]:=by
        have:=hv.1
        match vs,this with
        | [v],_=>exact ⟨v,rfl⟩
      have hv0:RepX φ v (.sc ij):=hv.2 0 v _ rfl rfl
      cases hv0 with
      | sc _ _ =>
      have:=Any.slices_Sort_string_none Go.VM.flSort none 0 w
      change Calls Try.prog 51 _ _ _ at this
      refine this.mono fun e w' ⟨he,hw⟩=>?_
      subst hw
      exact ⟨_,he,_,dk.2 rfl,φ,Ren.le_refl φ,R,⟨#[],rfl,Go.VM.Pt.nil⟩⟩
    · split at h
      · rename_i hq
        have hs:=hq.choose_spec
        generalize hq.choose = q at hs h
        cases h
        obtain ⟨rfl,hm,hlen⟩:=hs
        refine ⟨⟨_,Try.func51,by kernel_rfl,by kernel_rfl⟩,fun g h2 φ w vs hr hi R hv=>?_⟩
        refine (ahK hlen hm (hr _ (by rw [pK]; simp)) hi R hv).mono fun e w' ⟨v,he,φ',h1,h3,h4⟩=>?_
        exact ⟨v,he,_,dk.2 rfl,φ',h1,h3,h4⟩
      · cases h
  · exact ho w0 f args s outs rr h
theorem Z9:Sj (t8 base):=by
  constructor
  · intro s
    refine O2 (outs:=[(.tup [],s)]) (r:=0) rfl ?_ kx (fun _=>⟨_,rfl⟩) fun p hp=>?_
    · unfold t8
      rw [if_pos rfl,if_pos rfl]
    · rw [dk.1 hp]; exact ⟨rfl,rfl⟩
  · intro b s m ss hS hm bm hlen
    have hSA:SSA [.c (.sl m 1 0 ss.length)] s (m,ss):=⟨rfl,hm,hlen⟩
    refine O2 (outs:=[(.tup [],lQ s m (.cells fQ ((lK ss).map vQ)))]) (r:=bit m) rfl ?_ (fun k hk=>by rw [b8 k hk]; exact bm) (fun _=>⟨_,rfl⟩) fun p hp=>?_
    · unfold t8
      have hq:∃ q,SSA [.c (.sl m 1 0 ss.length)] s q:=⟨_,hSA⟩
      rw [if_pos rfl,if_neg (by simp [ij]),dif_pos hq,hSA.uniq hq.choose_spec]
    · rw [dk.1 hp]
      exact ⟨rfl,hS.put bm (hS.lt hm) _,rfl,(zX s _ _).self,fun k hk=>(zX s _ _).keep k hk⟩
theorem x7 {f:FuncId} (h:f ≠ d8) (args:List V) (s:S):t8 base f args s = base f args s:=by
  unfold t8
  rw [if_neg h]
end
end Go.RM
namespace Go.RM
open Go.VM (T wj tI Pt Fr RepT Fun noHeap kZ qj jV)
open Go Go.Proofs Go.Proofs.Ytjdjjcebbjjlkaa
theorem S4 (l:List N5):fq l = ((l.map tN5).flatten).map imX:=by
  unfold fq
  induction l with
  | nil=>rfl
  | cons a l ih=>rw [lw,List.flatten_cons,ih,lw,List.flatten_cons,List.map_append]; rfl
theorem aRj (l:List N5):∀ t∈(l.map tN5).flatten,∃ v,t = .sc v:=by
  intro t ht
  obtain ⟨r,hr,ht⟩:=List.mem_flatten.1 ht
  obtain ⟨n,_,rfl⟩:=pw.1 hr
  simp only [tN5,List.mem_cons,List.not_mem_nil,or_false] at ht
  rcases ht with rfl | rfl | rfl | rfl | rfl <;> exact ⟨_,rfl⟩
theorem S7 {h:Hp} {fresh:Bool} {n:Nat} {e:TypeId} {l:List N5} (hn:h n = some (.cells e (fq l))):TreeX h fresh (.sl n 5 0 l.length) (.sl 5 (l.map tN5)):=by
  have hl:(l.map tN5).length = l.length:=nk _
  have:=TreeX.sl (h:=h) (fresh:=fresh) n 5 0 (l.map tN5) e (fq l) (fq l) hn ?_ ?_ ?_ ?_
  · rw [hl] at this; exact this
  · rw [hl]; exact aQX (mV l)
  · intro row hr
    obtain ⟨z,_,rfl⟩:=pw.1 hr
    rfl
  · rw [S4,nk]
  · intro j x t hx ht
    rw [S4,ow,ht] at hx
    cases hx
    obtain ⟨v,rfl⟩:=aRj l t (fw ht)
    exact TreeX.sc _
theorem aBj {h:Hp} {fresh:Bool} {x:X} {l:List N5} {n:Nat} {e:TypeId} (hr:RowK h e 5 x (fq l) l.length n):TreeX h fresh x (.sl 5 (l.map tN5)):=by
  obtain ⟨_,⟨rfl,h0⟩ | ⟨rfl,h1⟩⟩:=hr
  · have:l = []:=ek h0
    subst this
    exact TreeX.nil 5
  · exact S7 h1
theorem apY:∀ {a b:List N5},a.map tN5 = b.map tN5→a = b
  | [],[],_=>rfl
  | [],b :: l,h=>by simp at h
  | a :: l,[],h=>by simp at h
  | (a1,a2,a3,a4,a5) :: l,(b1,b2,b3,b4,b5) :: l',h=>by
    rw [lw,lw,List.cons.injEq] at h
    obtain ⟨h1,h2⟩:=h
    simp only [tN5,tI,List.cons.injEq,T.sc.injEq,Value.int.injEq,Value.string.injEq,true_and,and_true] at h1
    obtain ⟨rfl,rfl,rfl,rfl,rfl⟩:=h1
    rw [apY h2]
theorem YK:∀ {a b:List N5},fq a = fq b→a = b
  | [],[],_=>rfl
  | [],b :: l,h=>by have:=congrArg List.length h; rw [mV,mV] at this; simp at this
  | a :: l,[],h=>by have:=congrArg List.length h; rw [mV,mV] at this; simp at this
  | (a1,a2,a3,a4,a5) :: l,(b1,b2,b3,b4,b5) :: l',h=>by
    have e:∀ (n:N5) (l:List N5),fq (n :: l) = alz n++fq l:=fun n l=>rfl
    rw [e,e] at h
    have h2:=List.append_inj h rfl
    obtain ⟨h1,h2⟩:=h2
    simp only [alz,List.cons.injEq,X.sc.injEq,Value.int.injEq,Value.string.injEq,true_and,and_true] at h1
    obtain ⟨rfl,rfl,rfl,rfl,rfl⟩:=h1
    rw [YK h2]
structure aAK (chk:List N5→Option Int) (sm:List (List T)) (sc:Option Int):Prop where
  chk:∀ l r,chk l = some r→Fun Try.prog 14 true [] [.c (.imm (.sl 5 (l.map tN5)))] noHeap (.c (.imm (tI r))) noHeap
  smp:∀ e,sc = some e→Fun Try.prog 26 true [] [.c (.imm (.sl 4 sm))] noHeap (.c (.imm (tI e))) noHeap
open Classical in
noncomputable def K50 (chk:List N5→Option Int) (sm:List (List T)) (sc:Option Int):FuncId→List V→S→Option (V × Nat):=fun f args s =>
  if f = uQ then (if args = [.c (.im 4 sm)] then sc.map fun e=>(iV e,0) else none)
  else if f = oJ then
    (if args = [.c (.sc ij)] then (chk []).map fun e=>(iV e,0)
     else if h:∃ l:List N5,args = [.c (.im 5 (l.map tN5))] then (chk h.choose).map fun e=>(iV e,0)
     else if h:∃ q:Nat × List N5,args = [.c (.sl q.1 5 0 q.2.length)]∧s.h.get q.1 = some (.cells b7 (fq q.2)) then (chk h.choose.2).map fun e=>(iV e,bit h.choose.1)
     else none)
  else none
section
variable {chk:List N5→Option Int} {sm:List (List T)} {sc:Option Int}
theorem ayQ (hB:aAK chk sm sc) (f:FuncId) (args:List V) (s:S) (res:V) (mask:Nat) (h:K50 chk sm sc f args s = some (res,mask)):ZQ Try.prog f args s mask res:=by
  unfold K50 at h
  split at h
  · rename_i hf
    subst hf
    split at h
    · rename_i ha
      subst ha
      obtain ⟨e,he,h⟩:=aw.1 h
      cases h
      exact ⟨⟨_,Try.func26,by kernel_rfl,by kernel_rfl⟩,_,_,true,Go.VM.Pt.cons (show TreeV _ false (V.c (.im 4 sm)) (Go.VM.V.c (.imm (.sl 4 sm))) from TreeX.im _ _ rfl) Go.VM.Pt.nil,hB.smp e he,rfl⟩
    · cases h
  · split at h
    · rename_i hf
      subst hf
      have fn : ∃ fn, Try.prog.funcs[oJ]? = some fn ∧ fn.body.isSome = true ∧ (fn.name == "runtime.NumGoroutine") = false := ⟨_, Try.func14, by kernel_rfl, by kernel_rfl⟩
      split at h
      · rename_i ha
        subst ha
        obtain ⟨e,he,h⟩:=aw.1 h
        cases h
        exact ⟨fn,_,_,true,Go.VM.Pt.cons (show TreeV _ false (V.c (.sc ij)) (Go.VM.V.c (.imm (.sl 5 (([]:List N5).map tN5)))) from TreeX.nil 5) Go.VM.Pt.nil,hB.chk [] e he,rfl⟩
      · split at h
        · rename_i hq
          have hs:=hq.choose_spec
          generalize hq.choose = l at hs h
          subst hs
          obtain ⟨e,he,h⟩:=aw.1 h
          cases h
          exact ⟨fn,_,_,true,Go.VM.Pt.cons (show TreeV _ false (V.c (.im 5 (l.map tN5))) (Go.VM.V.c (.imm (.sl 5 (l.map tN5)))) from TreeX.im _ _ rfl) Go.VM.Pt.nil,hB.chk l e he,rfl⟩
        · split at h
          · rename_i hq
            have hs:=hq.choose_spec
            generalize hq.choose = q at hs h
            obtain ⟨rfl,hm⟩:=hs
            obtain ⟨e,he,h⟩:=aw.1 h
            cases h
            refine ⟨fn,_,_,true,Go.VM.Pt.cons (show TreeV _ false (V.c (.sl q.1 5 0 q.2.length)) (Go.VM.V.c (.imm (.sl 5 (q.2.map tN5)))) from S7 (e:=b7) ?_) Go.VM.Pt.nil,hB.chk q.2 e he,rfl⟩
            have:(bit q.1).testBit q.1 = true:=by rw [pK]; simp
            simp only [this,cond_true]
            exact hm
          · cases h
    · cases h
theorem aHY:aHx (t8 (Q6 (K50 chk sm sc))) chk:=by
  constructor
  · intro s x l n r hrow hc
    obtain ⟨_,⟨rfl,h0⟩ | ⟨rfl,hm⟩⟩:=hrow
    · have:l = []:=ek h0
      subst this
      refine O2 (outs:=[(iV r,s)]) (r:=0) rfl ?_ kx (fun _=>⟨_,rfl⟩) fun p hp=>by rw [dk.1 hp]; exact ⟨rfl,rfl⟩
      rw [x7 (by decide)]
      unfold Q6 K50
      rw [if_neg (by decide),if_pos rfl,if_pos rfl,hc]
      rfl
    · refine O2 (outs:=[(iV r,s)]) (r:=bit n) rfl ?_ (fun k hk=>⟨b8 k hk,by simp [ij]⟩) (fun _=>⟨_,rfl⟩) fun p hp=>by rw [dk.1 hp]; exact ⟨rfl,rfl⟩
      rw [x7 (by decide)]
      have hq:∃ q:Nat × List N5,[V.c (.sl n 5 0 l.length)] = [.c (.sl q.1 5 0 q.2.length)]∧s.h.get q.1 = some (.cells b7 (fq q.2)):=⟨(n,l),rfl,hm⟩
      have hs:=hq.choose_spec
      unfold Q6 K50
      rw [if_neg (by decide),if_pos rfl,if_neg (by simp [ij]),dif_neg (by rintro ⟨l',h⟩; simp at h),dif_pos hq]
      generalize hq.choose = q at hs
      obtain ⟨m',l'⟩:=q
      obtain ⟨h1,h2⟩:=hs
      simp only [List.cons.injEq,V.c.injEq,X.sl.injEq,and_true,true_and] at h1
      obtain ⟨rfl,_⟩:=h1
      have e2:=hm.symm.trans h2
      simp only [cw,O.cells.injEq,true_and] at e2
      have:=YK e2
      subst this
      simp only [hc]
      rfl
  · intro s l r hc
    refine O2 (outs:=[(iV r,s)]) (r:=0) rfl ?_ kx (fun _=>⟨_,rfl⟩) fun p hp=>by rw [dk.1 hp]; exact ⟨rfl,rfl⟩
    rw [x7 (by decide)]
    have hq:∃ l':List N5,[V.c (.im 5 (l.map tN5))] = [.c (.im 5 (l'.map tN5))]:=⟨l,rfl⟩
    have hs:=hq.choose_spec
    unfold Q6 K50
    rw [if_neg (by decide),if_pos rfl,if_neg (by simp),dif_pos hq]
    generalize hq.choose = l' at hs
    simp only [List.cons.injEq,V.c.injEq,X.im.injEq,and_true,true_and] at hs
    have:=apY hs
    subst this
    rw [hc]
    rfl
theorem aIX {e:Int} (hs:sc = some e) (s:S):Cp (t8 (Q6 (K50 chk sm sc))) VK uQ [.c (.im 4 sm)] s (fun _=>False) True fun v s'=>s = s'∧v = iV e:=by
  refine O2 (outs:=[(iV e,s)]) (r:=0) rfl ?_ kx (fun _=>⟨_,rfl⟩) fun p hp=>by rw [dk.1 hp]; exact ⟨rfl,rfl⟩
  rw [x7 (by decide)]
  unfold Q6 K50
  rw [if_pos rfl,if_pos rfl,hs]
  rfl
end
def GV (ar:Ar):Bool:=ar.all fun t=>decide ((t.kids.getD []).map (·.1)).Nodup
theorem aGj {ar:Ar} (h:GV ar = true):E0 ar:=fun i t ht=>by
  unfold GV at h
  rw [List.all_eq_true] at h
  exact of_decide_eq_true (h t (fw ht))
def ofSamplesF (chk:List N5→Option Int) (sc:Option Int) (sm:List Smp):Option (List N5 × Int) :=
  sc.bind fun e=>bif decide (sm.length≤1000000) then (bif decide (e = 0) then (sm.foldlM F2 ar0).bind fun ar=>bif GV ar then G0 chk ar else none else some ([],e)) else none
theorem sb0:Sb 0 s0:=⟨gw _,fun _ _=>rfl,fun k h=>by simp [s0] at h⟩
theorem ofSamplesF_fun {chk:List N5→Option Int} {sc:Option Int} {sm:List Smp} (hB:aAK chk (sm.map tSmp) sc) {r:List N5 × Int} (h:ofSamplesF chk sc sm = some r) (fresh:Bool) :
    Fun Try.prog tX fresh [] [.c (.imm (.sl 4 (sm.map tSmp)))] noHeap (.tup [.c (.imm (.sl 5 (r.1.map tN5))),.c (.imm (tI r.2))]) noHeap:=by
  unfold ofSamplesF at h
  obtain ⟨e,he,h⟩:=ak.1 h
  cases hc:decide (sm.length≤1000000) with
  | false=>rw [hc] at h; cases h
  | true =>
  rw [hc] at h
  simp only [cond_true] at h
  have hres:(e ≠ 0∧r.1 = []∧r.2 = e)∨(e = 0∧∃ ar,sm.foldlM F2 ar0 = some ar∧E0 ar∧G0 chk ar = some (r.1,r.2)):=by
    by_cases e0:e = 0
    · subst e0
      simp only [decide_true,cond_true] at h
      obtain ⟨ar,h1,h2⟩:=ak.1 h
      cases hk:GV ar with
      | false=>rw [hk] at h2; cases h2
      | true=>rw [hk] at h2; exact .inr ⟨rfl,ar,h1,aGj hk,h2⟩
    · rw [decide_eq_false e0] at h
      cases h
      exact .inl ⟨e0,rfl,rfl⟩
  refine auz aOx (amz (aCZ (ayQ hB))) (afq (axj _)) (us:=[.c (.im 4 (sm.map tSmp))]) rfl (abz Z9 aHY sb0 (of_decide_eq_true hc) (fun s=>aIX he s) hres) fun v s hv=>?_
  obtain ⟨x,n,rfl,hrow⟩:=hv
  exact Pt.cons (show TreeS _ fresh (V.c x) _ from aBj hrow) (Pt.cons (TreeX.sc _) Pt.nil)
end Go.RM
