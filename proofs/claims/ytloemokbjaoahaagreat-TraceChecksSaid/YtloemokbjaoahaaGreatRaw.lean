/- The code that the examples reach, as the raw machine walks it; what the walk comes to. -/
import Derived.Test.YtloemokbjaoahaaGreatRm2
import Derived.Test.YtloemokbjaoahaaGreatRows
import Derived.KernelRfl
namespace Go.RM
open Go Go.Proofs Go.Proofs.YtloemokbjaoahaaGreat
def l32:List Nat:=[8,9,13,14,18,19,20,21,22,23,24,25,26,27,39,40,41,42,43,44,45,46,47,51,68,69,70,71,72,73,74,77,78,79,80,81,83,86,88,89,91,93,108,109,110,111,112,113,114,117,118,120,121,122,124,125,126,127,128,129,130,132,135,137,139,140,145,147,148,149,150,151,155,157,158,159,175,176,177,178,179,180,183,184,185,186,187,188,189,190,199,200,201,202,203,204,205,207,210,221,223,235,236,237,238,239,240,241,242,243,244,261,262,263,264,265,266,267,268,269,270,271,272,273,274,275,289,291,292,293,294,295,297,298,299,300,301,302,303,304,305,312,315,316,317,318,319,320,321,322,323,324,334,335,348,349,350,351,352,353,354,367,373,377,378,380]
def m32:List Nat:=l32.filter fun f=>!(Nat.beq f 269||Nat.beq f 235||Nat.beq f 13)
def v32:List Go.VM.V:=[.agg [.imm (.sl 3 [[(.sc (.int .i64 1)),(.sc (.string ⟨#[97]⟩)),(.sc (.int .i64 0))]]),.imm (.sl 2 [[(.sc (.int .i64 0)),(.sc (.int .i64 0))]]),.imm (.sl 0 []),.imm (.sl 4 [[(.sc (.int .i64 1)),(.sc (.int .i64 0)),(.sc (.int .i64 0)),(.sl 6 [[(.sc (.int .i64 2)),(.sc (.int .i64 1)),(.sc (.string ⟨#[102]⟩)),(.sc (.int .i64 0)),(.sc (.int .i64 0)),(.sl 0 [])],[(.sc (.int .i64 6)),(.sc (.int .i64 2)),(.sc (.string ⟨#[]⟩)),(.sc (.int .i64 0)),(.sc (.int .i64 0)),(.sl 0 [])]])]])]]
def u32:List Go.VM.V:=[.agg [.imm (.sc (.int .i64 0)),.imm (.sc (.int .i64 7)),.imm (.sl 3 [[(.sc (.int .i64 1)),(.sc (.string ⟨#[97]⟩)),(.sc (.int .i64 0))]]),.imm (.sl 8 [[(.sc (.int .i64 1)),(.sc (.int .i64 (-1))),(.sc (.int .i64 0)),(.sc (.string ⟨#[102]⟩)),(.sc (.int .i64 2)),(.sc (.int .i64 6)),(.sc (.int .i64 4)),(.sc (.bool false))]]),.imm (.sl 7 [[(.sc (.int .i64 1)),(.sc (.int .i64 5)),(.sc (.int .i64 0)),(.sc (.int .i64 7)),(.sc (.int .i64 (-1))),(.sc (.int .i64 (-1))),(.sc (.int .i64 (-1)))]]),.imm (.sl 0 []),.imm (.sl 0 []),.imm (.sl 0 []),.imm (.sl 0 []),.imm (.sl 0 [])]]
def k32:List (FuncId×List Go.VM.V×V):=[(269,v32,.c (.sc (.int .i64 0))),(235,v32,.c (.sc (.int .i64 0))),(13,u32,.c (.sc (.int .i64 0)))]
theorem bgj:∀e∈k32,a5Z Tryz.prog e:=by
  intro e he
  have hT:=aQj (P:=Tryz.prog) (l:=l32) (by kernel_rfl)
  simp only[k32,iw,List.not_mem_nil,or_false]at he
  rcases he with rfl | rfl | rfl
  ·exact⟨by kernel_rfl,_,true,awY hT (.int .i64 0) true 1000 (by kernel_rfl),rfl⟩
  ·exact⟨by kernel_rfl,_,true,awY hT (.int .i64 0) true 1000 (by kernel_rfl),rfl⟩
  ·exact⟨by kernel_rfl,_,true,awY hT (.int .i64 0) true 1000 (by kernel_rfl),rfl⟩
theorem awake32(fresh:Bool):Go.VM.Fun Tryz.prog 8 fresh [] [] Go.VM.noHeap (.c (.imm (.sc (.bool true)))) Go.VM.noHeap:=aSX (aQj (l:=m32) (by kernel_rfl)) bgj fresh 1000 (by kernel_rfl)
end Go.RM
