/- What the functions of the law compute, each with its proof. -/
import Derived.Test.YtloemokbjaoahaaGreatL321
import Derived.Test.YtloemokbjaoahaaGreatRows
import Derived.KernelRfl
import Derived.Lib.Bytealg
import Derived.Laws.Externs
import Derived.WalkKit
namespace Go.VM
open Go.Proofs Go.Proofs.YtloemokbjaoahaaGreat
open Go.RowKit
set_option maxRecDepth 100000
set_option maxHeartbeats 4000000
theorem FY(p0:(List aY))(p1:(List aY))(r:Bool)(hF:mW p0 p1=some r):Fun Tryz.prog 52 true [] [cL 8 aj p0,cL 8 aj p1] noHeap (cB r) noHeap:=by
 refine fW Tryz.func52 ?_
 unfold mW at hF
 refine wA rfl (az (wC 1 rfl (rS (d0 (tc:=aj) p0 .tree (aQ SV 1 rfl (rS (d0 (tc:=aj) p1 .tree (QV rfl (wIf hF rfl (fun _ hF=>?_) fun _ hF=>?_)))))))))
 ·refine wA rfl ?_;cases hF
  exact bQ wR
 refine aJ (az (wC 1 rfl (rS (d0 (tc:=aj) p0 .tree (QV rfl (eZ (fun _ _ h=>h) hF (.inl) (fun a12=>[(0,cL 8 aj p0),(1,cL 8 aj p1),(12,cI (List.length p0:Int)),(13,cI a12)]) (fun a12=>[]) (fun _=>[]) (fun _=>[]) sw ?_ ?_))))))
 ·rintro⟨⟩ hF
  refine wA rfl ?_;cases hF
  exact bQ wR
 rintro a12 x_0 hF cont_0 brk_0 fin_0
 unfold lJ at hF
 refine wA rfl (az (wIf hF rfl (fun _ hF=>?_) fun _ hF=>?_))
 ·refine aJ (az (c7 (wA rfl (az (f7 (by decide) (by kernel_rfl) rfl (aQ SP 2 rfl ?_))))));obtain⟨y17,hy17,hF⟩:=bB hF
  refine aW SP trivial (dz (tc:=aj) p0 rfl rfl hy17 (aQ SP 3 rfl ?_));obtain⟨y18,hy18,hF⟩:=bB hF
  refine aW SP trivial (dz (tc:=aj) p1 rfl rfl hy18 (aQ SP 1 rfl (aW SP trivial (J0 (b:=(decide (y17.q6=y18.q6)&&(decide (y17.z1=y18.z1)&&(decide (y17.z9=y18.z9)&&(decide (y17.q8=y18.q8)&&(decide (y17.q5.q0=y18.q5.q0)&&(decide (y17.q5.q9=y18.q5.q9)&&(decide (y17.j9=y18.j9)&&(decide (y17.v8=y18.v8)&&true))))))))) (eqOk_of (n:=8) (sh:=[.int .i64,.int .i64,.int .i64,.string,.int .i64,.int .i64,.int .i64,.bool]) Tryz.underlying66 (by kernel_rfl) (by kernel_rfl)) rfl rfl rfl rfl (QP rfl (wIf hF rfl (fun _ hF=>?_) fun _ hF=>?_))))))
  ·refine wA rfl ?_;have hF:=fin_0 _ (oi hF);cases hF
   exact bQ wR
  exact aJ (wB rfl (cont_0 _ _ _ (oi hF) sw))
 exact dK (aq (aq (bj (brk_0 _ _ _ (oi hF) sw))))
def lZ(p0:(List cZ))(p1:(List cZ)):Int→Option (Int ⊕ (Unit ⊕ Bool)):=fun a12 =>
  (bif (decide (a12<(List.length p0:Int)))then((idx p0 a12).bind fun y17=>((idx p1 a12).bind fun y18=>(bif ((decide (y17.q6=y18.q6)&&(decide (y17.j3=y18.j3)&&(decide (y17.q5.q0=y18.q5.q0)&&(decide (y17.q5.q9=y18.q5.q9)&&(decide (y17.w9=y18.w9)&&(decide (y17.x5=y18.x5)&&(decide (y17.x6=y18.x6)&&true))))))) != true)then some (.inr (.inr false))else some (.inl (w64 (a12+1))))))else some (.inr (.inl ())))
def kj(p0:(List cZ))(p1:(List cZ)):Option Bool :=
  (bif (!decide ((List.length p0:Int)=(List.length p1:Int)))then some false else((loop (lZ p0 p1) 0).bind fun | .inl _=>some true | .inr rv=>some rv))
theorem FV(p0:(List cZ))(p1:(List cZ))(r:Bool)(hF:kj p0 p1=some r):Fun Tryz.prog 53 true [] [cL 7 bz p0,cL 7 bz p1] noHeap (cB r) noHeap:=by
 refine fW Tryz.func53 ?_
 unfold kj at hF
 refine wA rfl (az (wC 1 rfl (rS (d0 (tc:=bz) p0 .tree (aQ SV 1 rfl (rS (d0 (tc:=bz) p1 .tree (QV rfl (wIf hF rfl (fun _ hF=>?_) fun _ hF=>?_)))))))))
 ·refine wA rfl ?_;cases hF
  exact bQ wR
 refine aJ (az (wC 1 rfl (rS (d0 (tc:=bz) p0 .tree (QV rfl (eZ (fun _ _ h=>h) hF (.inl) (fun a12=>[(0,cL 7 bz p0),(1,cL 7 bz p1),(12,cI (List.length p0:Int)),(13,cI a12)]) (fun a12=>[]) (fun _=>[]) (fun _=>[]) sw ?_ ?_))))))
 ·rintro⟨⟩ hF
  refine wA rfl ?_;cases hF
  exact bQ wR
 rintro a12 x_0 hF cont_0 brk_0 fin_0
 unfold lZ at hF
 refine wA rfl (az (wIf hF rfl (fun _ hF=>?_) fun _ hF=>?_))
 ·refine aJ (az (c7 (wA rfl (az (f7 (by decide) (by kernel_rfl) rfl (aQ SP 2 rfl ?_))))));obtain⟨y17,hy17,hF⟩:=bB hF
  refine aW SP trivial (dz (tc:=bz) p0 rfl rfl hy17 (aQ SP 3 rfl ?_));obtain⟨y18,hy18,hF⟩:=bB hF
  refine aW SP trivial (dz (tc:=bz) p1 rfl rfl hy18 (aQ SP 1 rfl (aW SP trivial (J0 (b:=(decide (y17.q6=y18.q6)&&(decide (y17.j3=y18.j3)&&(decide (y17.q5.q0=y18.q5.q0)&&(decide (y17.q5.q9=y18.q5.q9)&&(decide (y17.w9=y18.w9)&&(decide (y17.x5=y18.x5)&&(decide (y17.x6=y18.x6)&&true)))))))) (eqOk_of (n:=7) (sh:=[.int .i64,.int .i64,.int .i64,.int .i64,.int .i64,.int .i64,.int .i64]) Tryz.underlying106 (by kernel_rfl) (by kernel_rfl)) rfl rfl rfl rfl (QP rfl (wIf hF rfl (fun _ hF=>?_) fun _ hF=>?_))))))
  ·refine wA rfl ?_;have hF:=fin_0 _ (oi hF);cases hF
   exact bQ wR
  exact aJ (wB rfl (cont_0 _ _ _ (oi hF) sw))
 exact dK (aq (aq (bj (brk_0 _ _ _ (oi hF) sw))))
def mq(p0:(List d3))(p1:(List d3)):Int→Option (Int ⊕ (Unit ⊕ Bool)):=fun a12 =>
  (bif (decide (a12<(List.length p0:Int)))then((idx p0 a12).bind fun y17=>((idx p1 a12).bind fun y18=>(bif ((decide (y17.w5=y18.w5)&&(decide (y17.q0.q6=y18.q0.q6)&&(decide (y17.q0.w6=y18.q0.w6)&&(decide (y17.q9.q6=y18.q9.q6)&&(decide (y17.q9.w6=y18.q9.w6)&&(decide (y17.w7=y18.w7)&&(decide (y17.w4=y18.w4)&&true))))))) != true)then some (.inr (.inr false))else some (.inl (w64 (a12+1))))))else some (.inr (.inl ())))
def oV(p0:(List d3))(p1:(List d3)):Option Bool :=
  (bif (!decide ((List.length p0:Int)=(List.length p1:Int)))then some false else((loop (mq p0 p1) 0).bind fun | .inl _=>some true | .inr rv=>some rv))
theorem GK(p0:(List d3))(p1:(List d3))(r:Bool)(hF:oV p0 p1=some r):Fun Tryz.prog 54 true [] [cL 7 cz p0,cL 7 cz p1] noHeap (cB r) noHeap:=by
 refine fW Tryz.func54 ?_
 unfold oV at hF
 refine wA rfl (az (wC 1 rfl (rS (d0 (tc:=cz) p0 .tree (aQ SV 1 rfl (rS (d0 (tc:=cz) p1 .tree (QV rfl (wIf hF rfl (fun _ hF=>?_) fun _ hF=>?_)))))))))
 ·refine wA rfl ?_;cases hF
  exact bQ wR
 refine aJ (az (wC 1 rfl (rS (d0 (tc:=cz) p0 .tree (QV rfl (eZ (fun _ _ h=>h) hF (.inl) (fun a12=>[(0,cL 7 cz p0),(1,cL 7 cz p1),(12,cI (List.length p0:Int)),(13,cI a12)]) (fun a12=>[]) (fun _=>[]) (fun _=>[]) sw ?_ ?_))))))
 ·rintro⟨⟩ hF
  refine wA rfl ?_;cases hF
  exact bQ wR
 rintro a12 x_0 hF cont_0 brk_0 fin_0
 unfold mq at hF
 refine wA rfl (az (wIf hF rfl (fun _ hF=>?_) fun _ hF=>?_))
 ·refine aJ (az (c7 (wA rfl (az (f7 (by decide) (by kernel_rfl) rfl (aQ SP 2 rfl ?_))))));obtain⟨y17,hy17,hF⟩:=bB hF
  refine aW SP trivial (dz (tc:=cz) p0 rfl rfl hy17 (aQ SP 3 rfl ?_));obtain⟨y18,hy18,hF⟩:=bB hF
  refine aW SP trivial (dz (tc:=cz) p1 rfl rfl hy18 (aQ SP 1 rfl (aW SP trivial (J0 (b:=(decide (y17.w5=y18.w5)&&(decide (y17.q0.q6=y18.q0.q6)&&(decide (y17.q0.w6=y18.q0.w6)&&(decide (y17.q9.q6=y18.q9.q6)&&(decide (y17.q9.w6=y18.q9.w6)&&(decide (y17.w7=y18.w7)&&(decide (y17.w4=y18.w4)&&true)))))))) (eqOk_of (n:=7) (sh:=[.int .i64,.int .i64,.int .i64,.int .i64,.int .i64,.int .i64,.int .i64]) Tryz.underlying89 (by kernel_rfl) (by kernel_rfl)) rfl rfl rfl rfl (QP rfl (wIf hF rfl (fun _ hF=>?_) fun _ hF=>?_))))))
  ·refine wA rfl ?_;have hF:=fin_0 _ (oi hF);cases hF
   exact bQ wR
  exact aJ (wB rfl (cont_0 _ _ _ (oi hF) sw))
 exact dK (aq (aq (bj (brk_0 _ _ _ (oi hF) sw))))
def l9(p0:(List cV))(p1:(List cV)):Int→Option (Int ⊕ (Unit ⊕ Bool)):=fun a12 =>
  (bif (decide (a12<(List.length p0:Int)))then((idx p0 a12).bind fun y17=>((idx p1 a12).bind fun y18=>(bif ((decide (y17.q8=y18.q8)&&(decide (y17.j8=y18.j8)&&(decide (y17.j2=y18.j2)&&true))) != true)then some (.inr (.inr false))else some (.inl (w64 (a12+1))))))else some (.inr (.inl ())))
def oZ(p0:(List cV))(p1:(List cV)):Option Bool :=
  (bif (!decide ((List.length p0:Int)=(List.length p1:Int)))then some false else((loop (l9 p0 p1) 0).bind fun | .inl _=>some true | .inr rv=>some rv))
theorem GV(p0:(List cV))(p1:(List cV))(r:Bool)(hF:oZ p0 p1=some r):Fun Tryz.prog 55 true [] [cL 3 bX p0,cL 3 bX p1] noHeap (cB r) noHeap:=by
 refine fW Tryz.func55 ?_
 unfold oZ at hF
 refine wA rfl (az (wC 1 rfl (rS (d0 (tc:=bX) p0 .tree (aQ SV 1 rfl (rS (d0 (tc:=bX) p1 .tree (QV rfl (wIf hF rfl (fun _ hF=>?_) fun _ hF=>?_)))))))))
 ·refine wA rfl ?_;cases hF
  exact bQ wR
 refine aJ (az (wC 1 rfl (rS (d0 (tc:=bX) p0 .tree (QV rfl (eZ (fun _ _ h=>h) hF (.inl) (fun a12=>[(0,cL 3 bX p0),(1,cL 3 bX p1),(12,cI (List.length p0:Int)),(13,cI a12)]) (fun a12=>[]) (fun _=>[]) (fun _=>[]) sw ?_ ?_))))))
 ·rintro⟨⟩ hF
  refine wA rfl ?_;cases hF
  exact bQ wR
 rintro a12 x_0 hF cont_0 brk_0 fin_0
 unfold l9 at hF
 refine wA rfl (az (wIf hF rfl (fun _ hF=>?_) fun _ hF=>?_))
 ·refine aJ (az (c7 (wA rfl (az (f7 (by decide) (by kernel_rfl) rfl (aQ SP 2 rfl ?_))))));obtain⟨y17,hy17,hF⟩:=bB hF
  refine aW SP trivial (dz (tc:=bX) p0 rfl rfl hy17 (aQ SP 3 rfl ?_));obtain⟨y18,hy18,hF⟩:=bB hF
  refine aW SP trivial (dz (tc:=bX) p1 rfl rfl hy18 (aQ SP 1 rfl (aW SP trivial (J0 (b:=(decide (y17.q8=y18.q8)&&(decide (y17.j8=y18.j8)&&(decide (y17.j2=y18.j2)&&true)))) (eqOk_of (n:=3) (sh:=[.string,.int .i64,.int .i64]) Tryz.underlying94 (by kernel_rfl) (by kernel_rfl)) rfl rfl rfl rfl (QP rfl (wIf hF rfl (fun _ hF=>?_) fun _ hF=>?_))))))
  ·refine wA rfl ?_;have hF:=fin_0 _ (oi hF);cases hF
   exact bQ wR
  exact aJ (wB rfl (cont_0 _ _ _ (oi hF) sw))
 exact dK (aq (aq (bj (brk_0 _ _ _ (oi hF) sw))))
def mz(p0:(List f6))(p1:(List f6)):Int→Option (Int ⊕ (Unit ⊕ Bool)):=fun a12 =>
  (bif (decide (a12<(List.length p0:Int)))then((idx p0 a12).bind fun y17=>((idx p1 a12).bind fun y18=>(bif ((decide (y17.q6=y18.q6)&&(decide (y17.q5.q0=y18.q5.q0)&&(decide (y17.q5.q9=y18.q5.q9)&&(decide (y17.j6=y18.j6)&&true)))) != true)then some (.inr (.inr false))else some (.inl (w64 (a12+1))))))else some (.inr (.inl ())))
def oX(p0:(List f6))(p1:(List f6)):Option Bool :=
  (bif (!decide ((List.length p0:Int)=(List.length p1:Int)))then some false else((loop (mz p0 p1) 0).bind fun | .inl _=>some true | .inr rv=>some rv))
theorem G3(p0:(List f6))(p1:(List f6))(r:Bool)(hF:oX p0 p1=some r):Fun Tryz.prog 56 true [] [cL 4 d7 p0,cL 4 d7 p1] noHeap (cB r) noHeap:=by
 refine fW Tryz.func56 ?_
 unfold oX at hF
 refine wA rfl (az (wC 1 rfl (rS (d0 (tc:=d7) p0 .tree (aQ SV 1 rfl (rS (d0 (tc:=d7) p1 .tree (QV rfl (wIf hF rfl (fun _ hF=>?_) fun _ hF=>?_)))))))))
 ·refine wA rfl ?_;cases hF
  exact bQ wR
 refine aJ (az (wC 1 rfl (rS (d0 (tc:=d7) p0 .tree (QV rfl (eZ (fun _ _ h=>h) hF (.inl) (fun a12=>[(0,cL 4 d7 p0),(1,cL 4 d7 p1),(12,cI (List.length p0:Int)),(13,cI a12)]) (fun a12=>[]) (fun _=>[]) (fun _=>[]) sw ?_ ?_))))))
 ·rintro⟨⟩ hF
  refine wA rfl ?_;cases hF
  exact bQ wR
 rintro a12 x_0 hF cont_0 brk_0 fin_0
 unfold mz at hF
 refine wA rfl (az (wIf hF rfl (fun _ hF=>?_) fun _ hF=>?_))
 ·refine aJ (az (c7 (wA rfl (az (f7 (by decide) (by kernel_rfl) rfl (aQ SP 2 rfl ?_))))));obtain⟨y17,hy17,hF⟩:=bB hF
  refine aW SP trivial (dz (tc:=d7) p0 rfl rfl hy17 (aQ SP 3 rfl ?_));obtain⟨y18,hy18,hF⟩:=bB hF
  refine aW SP trivial (dz (tc:=d7) p1 rfl rfl hy18 (aQ SP 1 rfl (aW SP trivial (J0 (b:=(decide (y17.q6=y18.q6)&&(decide (y17.q5.q0=y18.q5.q0)&&(decide (y17.q5.q9=y18.q5.q9)&&(decide (y17.j6=y18.j6)&&true))))) (eqOk_of (n:=4) (sh:=[.int .i64,.int .i64,.int .i64,.int .i64]) Tryz.underlying76 (by kernel_rfl) (by kernel_rfl)) rfl rfl rfl rfl (QP rfl (wIf hF rfl (fun _ hF=>?_) fun _ hF=>?_))))))
  ·refine wA rfl ?_;have hF:=fin_0 _ (oi hF);cases hF
   exact bQ wR
  exact aJ (wB rfl (cont_0 _ _ _ (oi hF) sw))
 exact dK (aq (aq (bj (brk_0 _ _ _ (oi hF) sw))))
def o8(p0:(List ByteArray))(p1:(List ByteArray)):Int→Option (Int ⊕ (Unit ⊕ Bool)):=fun a12 =>
  (bif (decide (a12<(List.length p0:Int)))then((idx p0 a12).bind fun y17=>((idx p1 a12).bind fun y18=>(bif (!decide (y17=y18))then some (.inr (.inr false))else some (.inl (w64 (a12+1))))))else some (.inr (.inl ())))
def lQ(p0:(List ByteArray))(p1:(List ByteArray)):Option Bool :=
  (bif (!decide ((List.length p0:Int)=(List.length p1:Int)))then some false else((loop (o8 p0 p1) 0).bind fun | .inl _=>some true | .inr rv=>some rv))
theorem Bj(p0:(List ByteArray))(p1:(List ByteArray))(r:Bool)(hF:lQ p0 p1=some r):Fun Tryz.prog 145 true [] [cL 1 u7 p0,cL 1 u7 p1] noHeap (cB r) noHeap:=by
 refine fW Tryz.func145 ?_
 unfold lQ at hF
 refine wA rfl (az (wC 1 rfl (rS (d0 (tc:=u7) p0 .tree (aQ SV 1 rfl (rS (d0 (tc:=u7) p1 .tree (QV rfl (wIf hF rfl (fun _ hF=>?_) fun _ hF=>?_)))))))))
 ·refine wA rfl ?_;cases hF
  exact bQ wR
 refine aJ (az (wC 1 rfl (rS (d0 (tc:=u7) p0 .tree (QV rfl (eZ (fun _ _ h=>h) hF (.inl) (fun a12=>[(0,cL 1 u7 p0),(1,cL 1 u7 p1),(12,cI (List.length p0:Int)),(13,cI a12)]) (fun a12=>[]) (fun _=>[]) (fun _=>[]) sw ?_ ?_))))))
 ·rintro⟨⟩ hF
  refine wA rfl ?_;cases hF
  exact bQ wR
 rintro a12 x_0 hF cont_0 brk_0 fin_0
 unfold o8 at hF
 refine wA rfl (az (wIf hF rfl (fun _ hF=>?_) fun _ hF=>?_))
 ·refine aJ (az (c7 (wA rfl (az (f7 (by decide) (by kernel_rfl) rfl (aQ SP 2 rfl ?_))))));obtain⟨y17,hy17,hF⟩:=bB hF
  refine aW SP trivial (dz (tc:=u7) p0 rfl rfl hy17 (aQ SP 3 rfl ?_));obtain⟨y18,hy18,hF⟩:=bB hF
  refine aW SP trivial (dz (tc:=u7) p1 rfl rfl hy18 (QP rfl (wIf hF rfl (fun _ hF=>?_) fun _ hF=>?_)))
  ·refine wA rfl ?_;have hF:=fin_0 _ (oi hF);cases hF
   exact bQ wR
  exact aJ (wB rfl (cont_0 _ _ _ (oi hF) sw))
 exact dK (aq (aq (bj (brk_0 _ _ _ (oi hF) sw))))
def BW(p0:cY)(p1:cY):Option Bool :=
  (((bif (decide (p0.q6=p1.q6))then(bif (decide (p0.j8=p1.j8))then(bif (decide (p0.j5=p1.j5))then((lQ p0.z7 p1.z7).bind fun r5=>some r5)else some false)else some false)else some false):Option Bool).bind fun v1=>some v1)
theorem SX(p0:cY)(p1:cY)(r:Bool)(hF:BW p0 p1=some r):Fun Tryz.prog 59 true [] [.agg (zZ p0),.agg (zZ p1)] noHeap (cB r) noHeap:=by
 refine fW Tryz.func59 ?_
 unfold BW at hF
 refine wA rfl (az (cW (fun _ _ h=>h) hF (fun v1=>[(4,cB v1)]) (fun v1=>[]) ?_ ?_))
 ·rintro v1 hF
  cases hF
  exact bQ wR
 intro join hF
 refine wD 6 rfl ?_;cases h2:(decide (p0.q6=p1.q6))
 ·have hF:=bF' h2 hF;exact QV rfl (join false _ _ hF sw)
 have hF:=bT' h2 hF;refine aQ SV 7 rfl ?_;cases h3:(decide (p0.j8=p1.j8))
 ·have hF:=bF' h3 hF;exact QV rfl (join false _ _ hF sw)
 have hF:=bT' h3 hF;refine aQ SV 7 rfl ?_;cases h4:(decide (p0.j5=p1.j5))
 ·have hF:=bF' h4 hF;exact QV rfl (join false _ _ hF sw)
 have hF:=bT' h4 hF;refine aQ SV 4 rfl ?_;obtain⟨r5,hr5,hF⟩:=bB' hF
 exact aW SV rfl (cJ (Bj _ _ _ hr5) ⟨rfl,rfl,trivial⟩ rfl (.inl rfl) (QV rfl (join r5 _ _ hF sw)))
def KJ(p0:cY)(p1:cY):Option Bool :=
  ((BW p0 p1).bind fun r1=>some r1)
theorem aaJ(p0:cY)(p1:cY)(r:Bool)(hF:KJ p0 p1=some r):Fun Tryz.prog 58 true [] [.agg (zZ p0),.agg (zZ p1)] noHeap (cB r) noHeap:=by
 refine fW Tryz.func58 ?_
 unfold KJ at hF
 refine wA rfl (wC 2 rfl ?_);obtain⟨r1,hr1,hF⟩:=bB hF
 refine rS (cJ (SX _ _ _ hr1) ⟨⟨rfl,rfl,rfl,rfl,trivial⟩,⟨rfl,rfl,rfl,rfl,trivial⟩,trivial⟩ rfl (.inl rfl) (QV rfl ?_));cases hF
 exact bQ wR
def eW(p0:(List cY))(p1:(List cY)):Int→Option (Int ⊕ (Unit ⊕ Bool)):=fun a14 =>
  (bif (decide (a14<(List.length p0:Int)))then((idx p0 a14).bind fun y20=>((idx p1 a14).bind fun y21=>((KJ y20 y21).bind fun r22=>(bif (!r22)then some (.inr (.inr false))else some (.inl (w64 (a14+1)))))))else some (.inr (.inl ())))
def fj(p0:(List cY))(p1:(List cY)):Option Bool :=
  (bif (!decide ((List.length p0:Int)=(List.length p1:Int)))then some false else((loop (eW p0 p1) 0).bind fun | .inl _=>some true | .inr rv=>some rv))
theorem pY(p0:(List cY))(p1:(List cY))(r:Bool)(hF:fj p0 p1=some r):Fun Tryz.prog 57 false [] [cL 4 b9 p0,cL 4 b9 p1,.c (.fn 58 [])] (aV []) (cB r) (aV []):=by
 refine fM [] (some []) Tryz.func57 ?_
 unfold fj at hF
 refine wA rfl (az (wC 1 rfl (rS (d0 (tc:=b9) p0 .tree (aQ SV 1 rfl (rS (d0 (tc:=b9) p1 .tree (QV rfl (wIf hF rfl (fun _ hF=>?_) fun _ hF=>?_)))))))))
 ·refine wA rfl ?_;cases hF
  exact bQ ⟨_,_,fq,_,rfl,rfl,⟨rfl,fun _=>rfl⟩,(AgM.weak trivial)⟩
 refine aJ (az (wC 1 rfl (rS (d0 (tc:=b9) p0 .tree (QV rfl (eZ (fun _ _ h=>h) hF (.inl) (fun a14=>[(1,cL 4 b9 p1),(2,.c (.fn 58 [])),(15,cL 4 b9 p0),(16,cI (List.length p0:Int)),(17,cI a14)]) (fun a14=>[]) (fun _=>[]) (fun _=>[]) sw ?_ ?_))))))
 ·rintro⟨⟩ hF
  refine wA rfl ?_;cases hF
  exact bQ ⟨_,_,fq,_,rfl,rfl,⟨rfl,fun _=>rfl⟩,(AgM.weak trivial)⟩
 rintro a14 x_0 hF cont_0 brk_0 fin_0
 unfold eW at hF
 refine wA rfl (az (wIf hF rfl (fun _ hF=>?_) fun _ hF=>?_))
 ·refine aJ (az (c7 (wC 1 rfl ?_)));obtain⟨y20,hy20,hF⟩:=bB hF
  refine rS (dz (tc:=b9) p0 rfl rfl hy20 (QV rfl (wC 2 rfl ?_)));obtain⟨y21,hy21,hF⟩:=bB hF
  refine rS (dz (tc:=b9) p1 rfl rfl hy21 (QV rfl (wC 3 rfl ?_)));obtain⟨r22,hr22,hF⟩:=bB hF
  refine jj trivial (IX (I8 _ rfl bdK) (aaJ _ _ _ hr22) ⟨⟨rfl,rfl,rfl,rfl,trivial⟩,⟨rfl,rfl,rfl,rfl,trivial⟩,trivial⟩ rfl (.inl rfl) (QV rfl (wIf hF rfl (fun _ hF=>?_) fun _ hF=>?_)))
  ·refine wA rfl ?_;have hF:=fin_0 _ (oi hF);cases hF
   exact bQ ⟨_,_,fq,_,rfl,rfl,⟨rfl,fun _=>rfl⟩,(AgM.weak trivial)⟩
  exact aJ (wB rfl (cont_0 _ _ _ (oi hF) sw))
 exact dK (aq (aq (bj (brk_0 _ _ _ (oi hF) sw))))
def C9(p0:dq)(p1:dq):Option Bool :=
  (((bif (decide (p0.w5=p1.w5))then(bif (decide (p0.q6=p1.q6))then(bif (decide (p0.w8=p1.w8))then(bif ((decide (p0.q5.q0=p1.q5.q0)&&(decide (p0.q5.q9=p1.q5.q9)&&true)) != false)then(bif (decide (p0.x4=p1.x4) != false)then((lQ p0.z7 p1.z7).bind fun r7=>some r7)else some false)else some false)else some false)else some false)else some false):Option Bool).bind fun v1=>some v1)
theorem UX(p0:dq)(p1:dq)(r:Bool)(hF:C9 p0 p1=some r):Fun Tryz.prog 62 true [] [.agg (o9 p0),.agg (o9 p1)] noHeap (cB r) noHeap:=by
 refine fW Tryz.func62 ?_
 unfold C9 at hF
 refine wA rfl (az (cW (fun _ _ h=>h) hF (fun v1=>[(4,cB v1)]) (fun v1=>[]) ?_ ?_))
 ·rintro v1 hF
  cases hF
  exact bQ wR
 intro join hF
 refine wD 6 rfl ?_;cases h2:(decide (p0.w5=p1.w5))
 ·have hF:=bF' h2 hF;exact QV rfl (join false _ _ hF sw)
 have hF:=bT' h2 hF;refine aQ SV 7 rfl ?_;cases h3:(decide (p0.q6=p1.q6))
 ·have hF:=bF' h3 hF;exact QV rfl (join false _ _ hF sw)
 have hF:=bT' h3 hF;refine aQ SV 7 rfl ?_;cases h4:(decide (p0.w8=p1.w8))
 ·have hF:=bF' h4 hF;exact QV rfl (join false _ _ hF sw)
 have hF:=bT' h4 hF;refine aQ SV 4 rfl (aW SV rfl (J0 (b:=(decide (p0.q5.q0=p1.q5.q0)&&(decide (p0.q5.q9=p1.q5.q9)&&true))) (eqOk_of (n:=2) (sh:=[.int .i64,.int .i64]) Tryz.underlying32 (by kernel_rfl) (by kernel_rfl)) rfl rfl rfl rfl (aQ SV 2 rfl ?_)));cases h5:((decide (p0.q5.q0=p1.q5.q0)&&(decide (p0.q5.q9=p1.q5.q9)&&true)) != false)
 ·have hF:=bF' h5 hF;exact QV rfl (join false _ _ hF sw)
 have hF:=bT' h5 hF;refine aQ SV 7 rfl ?_;cases h6:(decide (p0.x4=p1.x4) != false)
 ·have hF:=bF' h6 hF;exact QV rfl (join false _ _ hF sw)
 have hF:=bT' h6 hF;refine aQ SV 4 rfl ?_;obtain⟨r7,hr7,hF⟩:=bB' hF
 exact aW SV rfl (cJ (Bj _ _ _ hr7) ⟨rfl,rfl,trivial⟩ rfl (.inl rfl) (QV rfl (join r7 _ _ hF sw)))
def KZ(p0:dq)(p1:dq):Option Bool :=
  ((C9 p0 p1).bind fun r1=>some r1)
theorem Z6(p0:dq)(p1:dq)(r:Bool)(hF:KZ p0 p1=some r):Fun Tryz.prog 61 true [] [.agg (o9 p0),.agg (o9 p1)] noHeap (cB r) noHeap:=by
 refine fW Tryz.func61 ?_
 unfold KZ at hF
 refine wA rfl (wC 2 rfl ?_);obtain⟨r1,hr1,hF⟩:=bB hF
 refine rS (cJ (UX _ _ _ hr1) ⟨⟨rfl,rfl,rfl,rfl,rfl,rfl,rfl,trivial⟩,⟨rfl,rfl,rfl,rfl,rfl,rfl,rfl,trivial⟩,trivial⟩ rfl (.inl rfl) (QV rfl ?_));cases hF
 exact bQ wR
def fJ(p0:(List dq))(p1:(List dq)):Int→Option (Int ⊕ (Unit ⊕ Bool)):=fun a14 =>
  (bif (decide (a14<(List.length p0:Int)))then((idx p0 a14).bind fun y20=>((idx p1 a14).bind fun y21=>((KZ y20 y21).bind fun r22=>(bif (!r22)then some (.inr (.inr false))else some (.inl (w64 (a14+1)))))))else some (.inr (.inl ())))
def f0(p0:(List dq))(p1:(List dq)):Option Bool :=
  (bif (!decide ((List.length p0:Int)=(List.length p1:Int)))then some false else((loop (fJ p0 p1) 0).bind fun | .inl _=>some true | .inr rv=>some rv))
theorem rq(p0:(List dq))(p1:(List dq))(r:Bool)(hF:f0 p0 p1=some r):Fun Tryz.prog 60 false [] [cL 7 bJ p0,cL 7 bJ p1,.c (.fn 61 [])] (aV []) (cB r) (aV []):=by
 refine fM [] (some []) Tryz.func60 ?_
 unfold f0 at hF
 refine wA rfl (az (wC 1 rfl (rS (d0 (tc:=bJ) p0 .tree (aQ SV 1 rfl (rS (d0 (tc:=bJ) p1 .tree (QV rfl (wIf hF rfl (fun _ hF=>?_) fun _ hF=>?_)))))))))
 ·refine wA rfl ?_;cases hF
  exact bQ ⟨_,_,fq,_,rfl,rfl,⟨rfl,fun _=>rfl⟩,(AgM.weak trivial)⟩
 refine aJ (az (wC 1 rfl (rS (d0 (tc:=bJ) p0 .tree (QV rfl (eZ (fun _ _ h=>h) hF (.inl) (fun a14=>[(1,cL 7 bJ p1),(2,.c (.fn 61 [])),(15,cL 7 bJ p0),(16,cI (List.length p0:Int)),(17,cI a14)]) (fun a14=>[]) (fun _=>[]) (fun _=>[]) sw ?_ ?_))))))
 ·rintro⟨⟩ hF
  refine wA rfl ?_;cases hF
  exact bQ ⟨_,_,fq,_,rfl,rfl,⟨rfl,fun _=>rfl⟩,(AgM.weak trivial)⟩
 rintro a14 x_0 hF cont_0 brk_0 fin_0
 unfold fJ at hF
 refine wA rfl (az (wIf hF rfl (fun _ hF=>?_) fun _ hF=>?_))
 ·refine aJ (az (c7 (wC 1 rfl ?_)));obtain⟨y20,hy20,hF⟩:=bB hF
  refine rS (dz (tc:=bJ) p0 rfl rfl hy20 (QV rfl (wC 2 rfl ?_)));obtain⟨y21,hy21,hF⟩:=bB hF
  refine rS (dz (tc:=bJ) p1 rfl rfl hy21 (QV rfl (wC 3 rfl ?_)));obtain⟨r22,hr22,hF⟩:=bB hF
  refine jj trivial (IX (I8 _ rfl bej) (Z6 _ _ _ hr22) ⟨⟨rfl,rfl,rfl,rfl,rfl,rfl,rfl,trivial⟩,⟨rfl,rfl,rfl,rfl,rfl,rfl,rfl,trivial⟩,trivial⟩ rfl (.inl rfl) (QV rfl (wIf hF rfl (fun _ hF=>?_) fun _ hF=>?_)))
  ·refine wA rfl ?_;have hF:=fin_0 _ (oi hF);cases hF
   exact bQ ⟨_,_,fq,_,rfl,rfl,⟨rfl,fun _=>rfl⟩,(AgM.weak trivial)⟩
  exact aJ (wB rfl (cont_0 _ _ _ (oi hF) sw))
 exact dK (aq (aq (bj (brk_0 _ _ _ (oi hF) sw))))
def MY(p0:a0)(p1:a0):Option Bool :=
  (((bif ((decide (p0.q5.q0=p1.q5.q0)&&(decide (p0.q5.q9=p1.q5.q9)&&true)) != false)then((lW p0.q7 p1.q7).bind fun r3=>(bif r3 then((mW p0.z3 p1.z3).bind fun r5=>(bif r5 then((kj p0.z8 p1.z8).bind fun r7=>(bif r7 then((oV p0.z6 p1.z6).bind fun r9=>(bif r9 then((oZ p0.j4 p1.j4).bind fun r11=>(bif r11 then((oX p0.j7 p1.j7).bind fun r13=>(bif r13 then((fj p0.z2 p1.z2).bind fun r15=>(bif r15 then((f0 p0.z5 p1.z5).bind fun r17=>some r17)else some false))else some false))else some false))else some false))else some false))else some false))else some false))else some false):Option Bool).bind fun v1=>some v1)
theorem amX(p0:a0)(p1:a0)(r:Bool)(hF:MY p0 p1=some r):Fun Tryz.prog 16 true [] [.agg (bq p0),.agg (bq p1)] noHeap (cB r) noHeap:=by
 refine fW Tryz.func16 ?_
 unfold MY at hF
 refine wA rfl (az (cW (fun _ _ h=>h) hF (fun v1=>[(4,cB v1)]) (fun v1=>[]) ?_ ?_))
 ·rintro v1 hF
  cases hF
  exact bQ wR
 intro join hF
 refine wD 4 rfl (rS (J0 (b:=(decide (p0.q5.q0=p1.q5.q0)&&(decide (p0.q5.q9=p1.q5.q9)&&true))) (eqOk_of (n:=2) (sh:=[.int .i64,.int .i64]) Tryz.underlying32 (by kernel_rfl) (by kernel_rfl)) rfl rfl rfl rfl (aQ SV 1 rfl ?_)));cases h2:((decide (p0.q5.q0=p1.q5.q0)&&(decide (p0.q5.q9=p1.q5.q9)&&true)) != false)
 ·have hF:=bF' h2 hF;exact QV rfl (join false _ _ hF sw)
 have hF:=bT' h2 hF;refine aQ SV 4 rfl ?_;obtain⟨r3,hr3,hF⟩:=bB' hF
 refine aW SV rfl (cJ (E3 _ _ _ hr3) ⟨rfl,rfl,trivial⟩ rfl (.inl rfl) (aQ SV 2 rfl ?_));cases h4:r3
 ·have hF:=bF' h4 hF;exact QV rfl (join false _ _ hF sw)
 have hF:=bT' h4 hF;refine aQ SV 4 rfl ?_;obtain⟨r5,hr5,hF⟩:=bB' hF
 refine aW SV rfl (cJ (FY _ _ _ hr5) ⟨rfl,rfl,trivial⟩ rfl (.inl rfl) (aQ SV 2 rfl ?_));cases h6:r5
 ·have hF:=bF' h6 hF;exact QV rfl (join false _ _ hF sw)
 have hF:=bT' h6 hF;refine aQ SV 4 rfl ?_;obtain⟨r7,hr7,hF⟩:=bB' hF
 refine aW SV rfl (cJ (FV _ _ _ hr7) ⟨rfl,rfl,trivial⟩ rfl (.inl rfl) (aQ SV 2 rfl ?_));cases h8:r7
 ·have hF:=bF' h8 hF;exact QV rfl (join false _ _ hF sw)
 have hF:=bT' h8 hF;refine aQ SV 4 rfl ?_;obtain⟨r9,hr9,hF⟩:=bB' hF
 refine aW SV rfl (cJ (GK _ _ _ hr9) ⟨rfl,rfl,trivial⟩ rfl (.inl rfl) (aQ SV 2 rfl ?_));cases h10:r9
 ·have hF:=bF' h10 hF;exact QV rfl (join false _ _ hF sw)
 have hF:=bT' h10 hF;refine aQ SV 4 rfl ?_;obtain⟨r11,hr11,hF⟩:=bB' hF
 refine aW SV rfl (cJ (GV _ _ _ hr11) ⟨rfl,rfl,trivial⟩ rfl (.inl rfl) (aQ SV 2 rfl ?_));cases h12:r11
 ·have hF:=bF' h12 hF;exact QV rfl (join false _ _ hF sw)
 have hF:=bT' h12 hF;refine aQ SV 4 rfl ?_;obtain⟨r13,hr13,hF⟩:=bB' hF
 refine aW SV rfl (cJ (G3 _ _ _ hr13) ⟨rfl,rfl,trivial⟩ rfl (.inl rfl) (aQ SV 2 rfl ?_));cases h14:r13
 ·have hF:=bF' h14 hF;exact QV rfl (join false _ _ hF sw)
 have hF:=bT' h14 hF;refine aQ SV 4 rfl ?_;obtain⟨r15,hr15,hF⟩:=bB' hF
 refine aW SV rfl (vj [] rfl (pY _ _ _ hr15) trivial rfl rfl (.inr ⟨.inl rfl,.inl rfl,.inl rfl,trivial⟩) (aQ SV 2 rfl ?_))
 cases h16:r15
 ·have hF:=bF' h16 hF;exact QV rfl (join false _ _ hF sw)
 have hF:=bT' h16 hF;refine aQ SV 4 rfl ?_;obtain⟨r17,hr17,hF⟩:=bB' hF
 exact aW SV rfl (vj [] rfl (rq _ _ _ hr17) trivial rfl rfl (.inr ⟨.inl rfl,.inl rfl,.inl rfl,trivial⟩) (QV rfl (join r17 _ _ hF sw)))
def H0(p0:(List cZ))(p1:(List cZ)):Int→Option (Int ⊕ (Unit ⊕ Bool)):=fun a12 =>
  (bif (decide (a12<(List.length p0:Int)))then((idx p0 a12).bind fun y17=>((idx p1 a12).bind fun y18=>(bif ((decide (y17.q6=y18.q6)&&(decide (y17.j3=y18.j3)&&(decide (y17.q5.q0=y18.q5.q0)&&(decide (y17.q5.q9=y18.q5.q9)&&(decide (y17.w9=y18.w9)&&(decide (y17.x5=y18.x5)&&(decide (y17.x6=y18.x6)&&true))))))) != true)then some (.inr (.inr false))else some (.inl (w64 (a12+1))))))else some (.inr (.inl ())))
def A4(p0:(List cZ))(p1:(List cZ)):Option Bool :=
  (bif (!decide ((List.length p0:Int)=(List.length p1:Int)))then some false else((loop (H0 p0 p1) 0).bind fun | .inl _=>some true | .inr rv=>some rv))
theorem O9(p0:(List cZ))(p1:(List cZ))(r:Bool)(hF:A4 p0 p1=some r):Fun Tryz.prog 37 true [] [cL 7 bz p0,cL 7 bz p1] noHeap (cB r) noHeap:=by
 refine fW Tryz.func37 ?_
 unfold A4 at hF
 refine wA rfl (az (wC 1 rfl (rS (d0 (tc:=bz) p0 .tree (aQ SV 1 rfl (rS (d0 (tc:=bz) p1 .tree (QV rfl (wIf hF rfl (fun _ hF=>?_) fun _ hF=>?_)))))))))
 ·refine wA rfl ?_;cases hF
  exact bQ wR
 refine aJ (az (wA rfl (eZ (fun _ _ h=>h) hF (.inl) (fun a12=>[(0,cL 7 bz p0),(1,cL 7 bz p1),(5,cI a12)]) (fun a12=>[]) (fun _=>[]) (fun _=>[]) sw ?_ ?_)))
 ·rintro⟨⟩ hF
  refine wA rfl ?_;cases hF
  exact bQ wR
 rintro a12 x_0 hF cont_0 brk_0 fin_0
 unfold H0 at hF
 refine az (wC 2 rfl (rS (d0 (tc:=bz) p0 .tree (QV rfl (wIf hF rfl (fun _ hF=>?_) fun _ hF=>?_)))))
 ·refine aJ (az (c7 (az (f7 (by decide) (by kernel_rfl) rfl (aQ SP 2 rfl ?_)))));obtain⟨y17,hy17,hF⟩:=bB hF
  refine aW SP trivial (dz (tc:=bz) p0 rfl rfl hy17 (aQ SP 3 rfl ?_));obtain⟨y18,hy18,hF⟩:=bB hF
  refine aW SP trivial (dz (tc:=bz) p1 rfl rfl hy18 (aQ SP 1 rfl (aW SP trivial (J0 (b:=(decide (y17.q6=y18.q6)&&(decide (y17.j3=y18.j3)&&(decide (y17.q5.q0=y18.q5.q0)&&(decide (y17.q5.q9=y18.q5.q9)&&(decide (y17.w9=y18.w9)&&(decide (y17.x5=y18.x5)&&(decide (y17.x6=y18.x6)&&true)))))))) (eqOk_of (n:=7) (sh:=[.int .i64,.int .i64,.int .i64,.int .i64,.int .i64,.int .i64,.int .i64]) Tryz.underlying106 (by kernel_rfl) (by kernel_rfl)) rfl rfl rfl rfl (QP rfl (wIf hF rfl (fun _ hF=>?_) fun _ hF=>?_))))))
  ·refine wA rfl ?_;have hF:=fin_0 _ (oi hF);cases hF
   exact bQ wR
  exact aJ (wB rfl (cont_0 _ _ _ (oi hF) sw))
 exact dK (aq (aq (bj (brk_0 _ _ _ (oi hF) sw))))
def D5(p0:(List ByteArray))(p1:(List ByteArray)):Int→Option (Int ⊕ (Unit ⊕ Bool)):=fun a12 =>
  (bif (decide (a12<(List.length p0:Int)))then((idx p0 a12).bind fun y17=>((idx p1 a12).bind fun y18=>(bif (!decide (y17=y18))then some (.inr (.inr false))else some (.inl (w64 (a12+1))))))else some (.inr (.inl ())))
def pJ(p0:(List ByteArray))(p1:(List ByteArray)):Option Bool :=
  (bif (!decide ((List.length p0:Int)=(List.length p1:Int)))then some false else((loop (D5 p0 p1) 0).bind fun | .inl _=>some true | .inr rv=>some rv))
theorem C5(p0:(List ByteArray))(p1:(List ByteArray))(r:Bool)(hF:pJ p0 p1=some r):Fun Tryz.prog 38 true [] [cL 1 u7 p0,cL 1 u7 p1] noHeap (cB r) noHeap:=by
 refine fW Tryz.func38 ?_
 unfold pJ at hF
 refine wA rfl (az (wC 1 rfl (rS (d0 (tc:=u7) p0 .tree (aQ SV 1 rfl (rS (d0 (tc:=u7) p1 .tree (QV rfl (wIf hF rfl (fun _ hF=>?_) fun _ hF=>?_)))))))))
 ·refine wA rfl ?_;cases hF
  exact bQ wR
 refine aJ (az (wA rfl (eZ (fun _ _ h=>h) hF (.inl) (fun a12=>[(0,cL 1 u7 p0),(1,cL 1 u7 p1),(5,cI a12)]) (fun a12=>[]) (fun _=>[]) (fun _=>[]) sw ?_ ?_)))
 ·rintro⟨⟩ hF
  refine wA rfl ?_;cases hF
  exact bQ wR
 rintro a12 x_0 hF cont_0 brk_0 fin_0
 unfold D5 at hF
 refine az (wC 2 rfl (rS (d0 (tc:=u7) p0 .tree (QV rfl (wIf hF rfl (fun _ hF=>?_) fun _ hF=>?_)))))
 ·refine aJ (az (c7 (az (f7 (by decide) (by kernel_rfl) rfl (aQ SP 2 rfl ?_)))));obtain⟨y17,hy17,hF⟩:=bB hF
  refine aW SP trivial (dz (tc:=u7) p0 rfl rfl hy17 (aQ SP 3 rfl ?_));obtain⟨y18,hy18,hF⟩:=bB hF
  refine aW SP trivial (dz (tc:=u7) p1 rfl rfl hy18 (QP rfl (wIf hF rfl (fun _ hF=>?_) fun _ hF=>?_)))
  ·refine wA rfl ?_;have hF:=fin_0 _ (oi hF);cases hF
   exact bQ wR
  exact aJ (wB rfl (cont_0 _ _ _ (oi hF) sw))
 exact dK (aq (aq (bj (brk_0 _ _ _ (oi hF) sw))))
def rQ(p0:a0)(p1:a0):Int→Option (Int ⊕ (Unit ⊕ Bool)):=fun a145 =>
  (bif (decide (a145<(List.length p0.j7:Int)))then((idx p0.j7 a145).bind fun y150=>((idx p1.j7 a145).bind fun y151=>(bif ((decide (y150.q6=y151.q6)&&(decide (y150.q5.q0=y151.q5.q0)&&(decide (y150.q5.q9=y151.q5.q9)&&(decide (y150.j6=y151.j6)&&true)))) != true)then some (.inr (.inr false))else some (.inl (w64 (a145+1))))))else some (.inr (.inl ())))
def rX(p0:a0)(p1:a0):Int→Option (Int ⊕ (Unit ⊕ Bool)):=fun a122 =>
  (bif (decide (a122<(List.length p0.z5:Int)))then((idx p0.z5 a122).bind fun y154=>((idx p1.z5 a122).bind fun y155=>(((bif (!decide (y154.w5=y155.w5))then some true else(bif (!decide (y154.q6=y155.q6))then some true else(bif (!decide (y154.w8=y155.w8))then some true else(bif ((decide (y154.q5.q0=y155.q5.q0)&&(decide (y154.q5.q9=y155.q5.q9)&&true)) != true)then some true else(bif (decide (y154.x4=y155.x4) != true)then some true else((pJ y154.z7 y155.z7).bind fun r163=>some (!r163))))))):Option Bool).bind fun v156=>(bif v156 then some (.inr (.inr false))else some (.inl (w64 (a122+1)))))))else some (.inr (.inl ())))
def rK(p0:a0)(p1:a0):Int→Option (Int ⊕ (Unit ⊕ Bool)):=fun a92 =>
  (bif (decide (a92<(List.length p0.j4:Int)))then((idx p0.j4 a92).bind fun y165=>((idx p1.j4 a92).bind fun y166=>(bif ((decide (y165.q8=y166.q8)&&(decide (y165.j8=y166.j8)&&(decide (y165.j2=y166.j2)&&true))) != true)then some (.inr (.inr false))else some (.inl (w64 (a92+1))))))else some (.inr (.inl ())))
def rY(p0:a0)(p1:a0):Int→Option (Int ⊕ (Unit ⊕ Bool)):=fun a71 =>
  (bif (decide (a71<(List.length p0.z2:Int)))then((idx p0.z2 a71).bind fun y169=>((idx p1.z2 a71).bind fun y170=>(((bif (!decide (y169.q6=y170.q6))then some true else(bif (!decide (y169.j8=y170.j8))then some true else(bif (!decide (y169.j5=y170.j5))then some true else((pJ y169.z7 y170.z7).bind fun r176=>some (!r176))))):Option Bool).bind fun v171=>(bif v171 then some (.inr (.inr false))else some (.inl (w64 (a71+1)))))))else some (.inr (.inl ())))
def rW(p0:a0)(p1:a0):Int→Option (Int ⊕ (Unit ⊕ Bool)):=fun a45 =>
  (bif (decide (a45<(List.length p0.z6:Int)))then((idx p0.z6 a45).bind fun y178=>((idx p1.z6 a45).bind fun y179=>(bif ((decide (y178.w5=y179.w5)&&(decide (y178.q0.q6=y179.q0.q6)&&(decide (y178.q0.w6=y179.q0.w6)&&(decide (y178.q9.q6=y179.q9.q6)&&(decide (y178.q9.w6=y179.q9.w6)&&(decide (y178.w7=y179.w7)&&(decide (y178.w4=y179.w4)&&true))))))) != true)then some (.inr (.inr false))else some (.inl (w64 (a45+1))))))else some (.inr (.inl ())))
def rZ(p0:a0)(p1:a0):Int→Option (Int ⊕ (Unit ⊕ Bool)):=fun a29 =>
  (bif (decide (a29<(List.length p0.z3:Int)))then((idx p0.z3 a29).bind fun y182=>((idx p1.z3 a29).bind fun y183=>(bif ((decide (y182.q6=y183.q6)&&(decide (y182.z1=y183.z1)&&(decide (y182.z9=y183.z9)&&(decide (y182.q8=y183.q8)&&(decide (y182.q5.q0=y183.q5.q0)&&(decide (y182.q5.q9=y183.q5.q9)&&(decide (y182.j9=y183.j9)&&(decide (y182.v8=y183.v8)&&true)))))))) != true)then some (.inr (.inr false))else some (.inl (w64 (a29+1))))))else some (.inr (.inl ())))
def rJ(p0:a0)(p1:a0):Int→Option (Int ⊕ (Unit ⊕ Bool)):=fun a13 =>
  (bif (decide (a13<(List.length p0.q7:Int)))then((idx p0.q7 a13).bind fun y186=>((idx p1.q7 a13).bind fun y187=>(bif ((decide (y186.w5=y187.w5)&&(decide (y186.q8=y187.q8)&&(decide (y186.x3=y187.x3)&&true))) != true)then some (.inr (.inr false))else some (.inl (w64 (a13+1))))))else some (.inr (.inl ())))
def sq(p0:a0)(p1:a0):Option Bool :=
  (((bif ((decide (p0.q5.q0=p1.q5.q0)&&(decide (p0.q5.q9=p1.q5.q9)&&true)) != true)then some true else(bif (!decide ((List.length p0.q7:Int)=(List.length p1.q7:Int)))then some true else(bif (!decide ((List.length p0.z3:Int)=(List.length p1.z3:Int)))then some true else((A4 p0.z8 p1.z8).bind fun r194=>(bif (!r194)then some true else(bif (!decide ((List.length p0.z6:Int)=(List.length p1.z6:Int)))then some true else(bif (!decide ((List.length p0.z2:Int)=(List.length p1.z2:Int)))then some true else(bif (!decide ((List.length p0.j4:Int)=(List.length p1.j4:Int)))then some true else(bif (!decide ((List.length p0.z5:Int)=(List.length p1.z5:Int)))then some true else some (!decide ((List.length p0.j7:Int)=(List.length p1.j7:Int)))))))))))):Option Bool).bind fun v1=>(bif v1 then some false else((loop (rJ p0 p1) 0).bind fun | .inl _=>((loop (rZ p0 p1) 0).bind fun | .inl _=>((loop (rW p0 p1) 0).bind fun | .inl _=>((loop (rY p0 p1) 0).bind fun | .inl _=>((loop (rK p0 p1) 0).bind fun | .inl _=>((loop (rX p0 p1) 0).bind fun | .inl _=>((loop (rQ p0 p1) 0).bind fun | .inl _=>some true | .inr rv=>some rv) | .inr rv=>some rv) | .inr rv=>some rv) | .inr rv=>some rv) | .inr rv=>some rv) | .inr rv=>some rv) | .inr rv=>some rv)))
theorem Hx(p0:a0)(p1:a0)(r:Bool)(hF:sq p0 p1=some r):Fun Tryz.prog 11 true [] [.agg (bq p0),.agg (bq p1)] noHeap (cB r) noHeap:=by
 refine fW Tryz.func11 ?_
 unfold sq at hF
 refine wA rfl (az (az (cW (fun _ _ h=>h) hF (fun v1=>[(2,cP (2,0) 0),(3,cP (3,0) 0),(91,cB v1)]) (fun v1=>[((2,0),.box (bq p0)),((3,0),.box (bq p1))]) ?_ ?_)))
 ·rintro v1 hF
  refine wIf hF rfl (fun _ hF=>?_) fun _ hF=>?_
  ·refine wA rfl ?_;cases hF
   exact bQ wR
  refine aJ (az (wA rfl (eZ (fun _ _ h=>h) hF (.inl) (fun a13=>[(2,cP (2,0) 0),(3,cP (3,0) 0),(5,cI a13)]) (fun a13=>[((2,0),.box (bq p0)),((3,0),.box (bq p1))]) (fun _=>[(2,cP (2,0) 0),(3,cP (3,0) 0)]) (fun _=>[((2,0),.box (bq p0)),((3,0),.box (bq p1))]) sw ?_ ?_)))
  ·rintro⟨⟩ hF
   refine az (wA rfl (eZ (fun _ _ h=>h) hF (.inl) (fun a29=>[(2,cP (2,0) 0),(3,cP (3,0) 0),(6,cI a29)]) (fun a29=>[((2,0),.box (bq p0)),((3,0),.box (bq p1))]) (fun _=>[(2,cP (2,0) 0),(3,cP (3,0) 0)]) (fun _=>[((2,0),.box (bq p0)),((3,0),.box (bq p1))]) sw ?_ ?_))
   ·rintro⟨⟩ hF
    refine az (wA rfl (eZ (fun _ _ h=>h) hF (.inl) (fun a45=>[(2,cP (2,0) 0),(3,cP (3,0) 0),(7,cI a45)]) (fun a45=>[((2,0),.box (bq p0)),((3,0),.box (bq p1))]) (fun _=>[(2,cP (2,0) 0),(3,cP (3,0) 0)]) (fun _=>[((2,0),.box (bq p0)),((3,0),.box (bq p1))]) sw ?_ ?_))
    ·rintro⟨⟩ hF
     refine az (wA rfl (eZ (fun _ _ h=>h) hF (.inl) (fun a71=>[(2,cP (2,0) 0),(3,cP (3,0) 0),(8,cI a71)]) (fun a71=>[((2,0),.box (bq p0)),((3,0),.box (bq p1))]) (fun _=>[(2,cP (2,0) 0),(3,cP (3,0) 0)]) (fun _=>[((2,0),.box (bq p0)),((3,0),.box (bq p1))]) sw ?_ ?_))
     ·rintro⟨⟩ hF
      refine az (wA rfl (eZ (fun _ _ h=>h) hF (.inl) (fun a92=>[(2,cP (2,0) 0),(3,cP (3,0) 0),(11,cI a92)]) (fun a92=>[((2,0),.box (bq p0)),((3,0),.box (bq p1))]) (fun _=>[(2,cP (2,0) 0),(3,cP (3,0) 0)]) (fun _=>[((2,0),.box (bq p0)),((3,0),.box (bq p1))]) sw ?_ ?_))
      ·rintro⟨⟩ hF
       refine az (wA rfl (eZ (fun _ _ h=>h) hF (.inl) (fun a122=>[(2,cP (2,0) 0),(3,cP (3,0) 0),(12,cI a122)]) (fun a122=>[((2,0),.box (bq p0)),((3,0),.box (bq p1))]) (fun _=>[(2,cP (2,0) 0),(3,cP (3,0) 0)]) (fun _=>[((2,0),.box (bq p0)),((3,0),.box (bq p1))]) sw ?_ ?_))
       ·rintro⟨⟩ hF
        refine az (wA rfl (eZ (fun _ _ h=>h) hF (.inl) (fun a145=>[(2,cP (2,0) 0),(3,cP (3,0) 0),(15,cI a145)]) (fun a145=>[((2,0),.box (bq p0)),((3,0),.box (bq p1))]) (fun _=>[]) (fun _=>[]) sw ?_ ?_))
        ·rintro⟨⟩ hF
         refine wA rfl ?_;cases hF
         exact bQ wR
        rintro a145 x_0 hF cont_0 brk_0 fin_0
        unfold rQ at hF
        refine az (wC 3 rfl (rS (d0 (tc:=d7) p0.j7 .tree (QV rfl (wIf hF rfl (fun _ hF=>?_) fun _ hF=>?_)))))
        ·refine aJ (az (c7 (az (f7 (by decide) (by kernel_rfl) rfl (aQ SP 3 rfl ?_)))));obtain⟨y150,hy150,hF⟩:=bB hF
         refine aW SP trivial (dz (tc:=d7) p0.j7 rfl rfl hy150 (aQ SP 4 rfl ?_));obtain⟨y151,hy151,hF⟩:=bB hF
         refine aW SP trivial (dz (tc:=d7) p1.j7 rfl rfl hy151 (aQ SP 1 rfl (aW SP trivial (J0 (b:=(decide (y150.q6=y151.q6)&&(decide (y150.q5.q0=y151.q5.q0)&&(decide (y150.q5.q9=y151.q5.q9)&&(decide (y150.j6=y151.j6)&&true))))) (eqOk_of (n:=4) (sh:=[.int .i64,.int .i64,.int .i64,.int .i64]) Tryz.underlying76 (by kernel_rfl) (by kernel_rfl)) rfl rfl rfl rfl (QP rfl (wIf hF rfl (fun _ hF=>?_) fun _ hF=>?_))))))
         ·refine wA rfl ?_;have hF:=fin_0 _ (oi hF);cases hF
          exact bQ wR
         exact aJ (wB rfl (cont_0 _ _ _ (oi hF) sw))
        exact dK (aq (aq (bj (brk_0 _ _ _ (oi hF) sw))))
       rintro a122 x_0 hF cont_0 brk_0 fin_0
       unfold rX at hF
       refine az (wC 3 rfl (rS (d0 (tc:=bJ) p0.z5 .tree (QV rfl (wIf hF rfl (fun _ hF=>?_) fun _ hF=>?_)))))
       ·refine aJ (az (c7 (wC 3 rfl ?_)));obtain⟨y154,hy154,hF⟩:=bB hF
        refine rS (dz (tc:=bJ) p0.z5 rfl rfl hy154 (QV rfl (wC 3 rfl ?_)));obtain⟨y155,hy155,hF⟩:=bB hF
        refine rS (dz (tc:=bJ) p1.z5 rfl rfl hy155 (QV rfl (az (cW (fun _ _ h=>h) hF (fun v156=>[(2,cP (2,0) 0),(3,cP (3,0) 0),(12,cI a122),(265,cB v156)]) (fun v156=>[((2,0),.box (bq p0)),((3,0),.box (bq p1))]) ?_ ?_))))
        ·rintro v156 hF
         refine wIf hF rfl (fun _ hF=>?_) fun _ hF=>?_
         ·refine wA rfl ?_;have hF:=fin_0 _ (oi hF);cases hF
          exact bQ wR
         exact aJ (wB rfl (cont_0 _ _ _ (oi hF) sw))
        intro join hF
        refine wD 6 rfl ?_;cases h158:(!decide (y154.w5=y155.w5))
        ·have hF:=bF' h158 hF;refine aQ SV 7 rfl ?_;cases h159:(!decide (y154.q6=y155.q6))
         ·have hF:=bF' h159 hF;refine aQ SV 7 rfl ?_;cases h160:(!decide (y154.w8=y155.w8))
          ·have hF:=bF' h160 hF;refine aQ SV 4 rfl (aW SV rfl (J0 (b:=(decide (y154.q5.q0=y155.q5.q0)&&(decide (y154.q5.q9=y155.q5.q9)&&true))) (eqOk_of (n:=2) (sh:=[.int .i64,.int .i64]) Tryz.underlying32 (by kernel_rfl) (by kernel_rfl)) rfl rfl rfl rfl (aQ SV 2 rfl ?_)));cases h161:((decide (y154.q5.q0=y155.q5.q0)&&(decide (y154.q5.q9=y155.q5.q9)&&true)) != true)
           ·have hF:=bF' h161 hF;refine aQ SV 7 rfl ?_;cases h162:(decide (y154.x4=y155.x4) != true)
            ·have hF:=bF' h162 hF;refine aQ SV 4 rfl ?_;obtain⟨r163,hr163,hF⟩:=bB' hF
             exact aW SV rfl (cJ (C5 _ _ _ hr163) ⟨rfl,rfl,trivial⟩ rfl (.inl rfl) (QV rfl (join (!r163) _ _ hF sw)))
            have hF:=bT' h162 hF;exact QV rfl (join true _ _ hF sw)
           have hF:=bT' h161 hF;exact QV rfl (join true _ _ hF sw)
          have hF:=bT' h160 hF;exact QV rfl (join true _ _ hF sw)
         have hF:=bT' h159 hF;exact QV rfl (join true _ _ hF sw)
        have hF:=bT' h158 hF;exact QV rfl (join true _ _ hF sw)
       exact dK (aq (aq (bj (brk_0 _ _ _ (oi hF) sw))))
      rintro a92 x_0 hF cont_0 brk_0 fin_0
      unfold rK at hF
      refine az (wC 3 rfl (rS (d0 (tc:=bX) p0.j4 .tree (QV rfl (wIf hF rfl (fun _ hF=>?_) fun _ hF=>?_)))))
      ·refine aJ (az (c7 (az (f7 (by decide) (by kernel_rfl) rfl (aQ SP 3 rfl ?_)))));obtain⟨y165,hy165,hF⟩:=bB hF
       refine aW SP trivial (dz (tc:=bX) p0.j4 rfl rfl hy165 (aQ SP 4 rfl ?_));obtain⟨y166,hy166,hF⟩:=bB hF
       refine aW SP trivial (dz (tc:=bX) p1.j4 rfl rfl hy166 (aQ SP 1 rfl (aW SP trivial (J0 (b:=(decide (y165.q8=y166.q8)&&(decide (y165.j8=y166.j8)&&(decide (y165.j2=y166.j2)&&true)))) (eqOk_of (n:=3) (sh:=[.string,.int .i64,.int .i64]) Tryz.underlying94 (by kernel_rfl) (by kernel_rfl)) rfl rfl rfl rfl (QP rfl (wIf hF rfl (fun _ hF=>?_) fun _ hF=>?_))))))
       ·refine wA rfl ?_;have hF:=fin_0 _ (oi hF);cases hF
        exact bQ wR
       exact aJ (wB rfl (cont_0 _ _ _ (oi hF) sw))
      exact dK (aq (aq (bj (brk_0 _ _ _ (oi hF) sw))))
     rintro a71 x_0 hF cont_0 brk_0 fin_0
     unfold rY at hF
     refine az (wC 3 rfl (rS (d0 (tc:=b9) p0.z2 .tree (QV rfl (wIf hF rfl (fun _ hF=>?_) fun _ hF=>?_)))))
     ·refine aJ (az (c7 (wC 3 rfl ?_)));obtain⟨y169,hy169,hF⟩:=bB hF
      refine rS (dz (tc:=b9) p0.z2 rfl rfl hy169 (QV rfl (wC 3 rfl ?_)));obtain⟨y170,hy170,hF⟩:=bB hF
      refine rS (dz (tc:=b9) p1.z2 rfl rfl hy170 (QV rfl (az (cW (fun _ _ h=>h) hF (fun v171=>[(2,cP (2,0) 0),(3,cP (3,0) 0),(8,cI a71),(189,cB v171)]) (fun v171=>[((2,0),.box (bq p0)),((3,0),.box (bq p1))]) ?_ ?_))))
      ·rintro v171 hF
       refine wIf hF rfl (fun _ hF=>?_) fun _ hF=>?_
       ·refine wA rfl ?_;have hF:=fin_0 _ (oi hF);cases hF
        exact bQ wR
       exact aJ (wB rfl (cont_0 _ _ _ (oi hF) sw))
      intro join hF
      refine wD 6 rfl ?_;cases h173:(!decide (y169.q6=y170.q6))
      ·have hF:=bF' h173 hF;refine aQ SV 7 rfl ?_;cases h174:(!decide (y169.j8=y170.j8))
       ·have hF:=bF' h174 hF;refine aQ SV 7 rfl ?_;cases h175:(!decide (y169.j5=y170.j5))
        ·have hF:=bF' h175 hF;refine aQ SV 4 rfl ?_;obtain⟨r176,hr176,hF⟩:=bB' hF
         exact aW SV rfl (cJ (C5 _ _ _ hr176) ⟨rfl,rfl,trivial⟩ rfl (.inl rfl) (QV rfl (join (!r176) _ _ hF sw)))
        have hF:=bT' h175 hF;exact QV rfl (join true _ _ hF sw)
       have hF:=bT' h174 hF;exact QV rfl (join true _ _ hF sw)
      have hF:=bT' h173 hF;exact QV rfl (join true _ _ hF sw)
     exact dK (aq (aq (bj (brk_0 _ _ _ (oi hF) sw))))
    rintro a45 x_0 hF cont_0 brk_0 fin_0
    unfold rW at hF
    refine az (wC 3 rfl (rS (d0 (tc:=cz) p0.z6 .tree (QV rfl (wIf hF rfl (fun _ hF=>?_) fun _ hF=>?_)))))
    ·refine aJ (az (c7 (az (f7 (by decide) (by kernel_rfl) rfl (aQ SP 3 rfl ?_)))));obtain⟨y178,hy178,hF⟩:=bB hF
     refine aW SP trivial (dz (tc:=cz) p0.z6 rfl rfl hy178 (aQ SP 4 rfl ?_));obtain⟨y179,hy179,hF⟩:=bB hF
     refine aW SP trivial (dz (tc:=cz) p1.z6 rfl rfl hy179 (aQ SP 1 rfl (aW SP trivial (J0 (b:=(decide (y178.w5=y179.w5)&&(decide (y178.q0.q6=y179.q0.q6)&&(decide (y178.q0.w6=y179.q0.w6)&&(decide (y178.q9.q6=y179.q9.q6)&&(decide (y178.q9.w6=y179.q9.w6)&&(decide (y178.w7=y179.w7)&&(decide (y178.w4=y179.w4)&&true)))))))) (eqOk_of (n:=7) (sh:=[.int .i64,.int .i64,.int .i64,.int .i64,.int .i64,.int .i64,.int .i64]) Tryz.underlying89 (by kernel_rfl) (by kernel_rfl)) rfl rfl rfl rfl (QP rfl (wIf hF rfl (fun _ hF=>?_) fun _ hF=>?_))))))
     ·refine wA rfl ?_;have hF:=fin_0 _ (oi hF);cases hF
      exact bQ wR
     exact aJ (wB rfl (cont_0 _ _ _ (oi hF) sw))
    exact dK (aq (aq (bj (brk_0 _ _ _ (oi hF) sw))))
   rintro a29 x_0 hF cont_0 brk_0 fin_0
   unfold rZ at hF
   refine az (wC 3 rfl (rS (d0 (tc:=aj) p0.z3 .tree (QV rfl (wIf hF rfl (fun _ hF=>?_) fun _ hF=>?_)))))
   ·refine aJ (az (c7 (az (f7 (by decide) (by kernel_rfl) rfl (aQ SP 3 rfl ?_)))));obtain⟨y182,hy182,hF⟩:=bB hF
    refine aW SP trivial (dz (tc:=aj) p0.z3 rfl rfl hy182 (aQ SP 4 rfl ?_));obtain⟨y183,hy183,hF⟩:=bB hF
    refine aW SP trivial (dz (tc:=aj) p1.z3 rfl rfl hy183 (aQ SP 1 rfl (aW SP trivial (J0 (b:=(decide (y182.q6=y183.q6)&&(decide (y182.z1=y183.z1)&&(decide (y182.z9=y183.z9)&&(decide (y182.q8=y183.q8)&&(decide (y182.q5.q0=y183.q5.q0)&&(decide (y182.q5.q9=y183.q5.q9)&&(decide (y182.j9=y183.j9)&&(decide (y182.v8=y183.v8)&&true))))))))) (eqOk_of (n:=8) (sh:=[.int .i64,.int .i64,.int .i64,.string,.int .i64,.int .i64,.int .i64,.bool]) Tryz.underlying66 (by kernel_rfl) (by kernel_rfl)) rfl rfl rfl rfl (QP rfl (wIf hF rfl (fun _ hF=>?_) fun _ hF=>?_))))))
    ·refine wA rfl ?_;have hF:=fin_0 _ (oi hF);cases hF
     exact bQ wR
    exact aJ (wB rfl (cont_0 _ _ _ (oi hF) sw))
   exact dK (aq (aq (bj (brk_0 _ _ _ (oi hF) sw))))
  rintro a13 x_0 hF cont_0 brk_0 fin_0
  unfold rJ at hF
  refine az (wC 3 rfl (rS (d0 (tc:=bZ) p0.q7 .tree (QV rfl (wIf hF rfl (fun _ hF=>?_) fun _ hF=>?_)))))
  ·refine aJ (az (c7 (az (f7 (by decide) (by kernel_rfl) rfl (aQ SP 3 rfl ?_)))));obtain⟨y186,hy186,hF⟩:=bB hF
   refine aW SP trivial (dz (tc:=bZ) p0.q7 rfl rfl hy186 (aQ SP 4 rfl ?_));obtain⟨y187,hy187,hF⟩:=bB hF
   refine aW SP trivial (dz (tc:=bZ) p1.q7 rfl rfl hy187 (aQ SP 1 rfl (aW SP trivial (J0 (b:=(decide (y186.w5=y187.w5)&&(decide (y186.q8=y187.q8)&&(decide (y186.x3=y187.x3)&&true)))) (eqOk_of (n:=3) (sh:=[.int .i64,.string,.int .i64]) Tryz.underlying58 (by kernel_rfl) (by kernel_rfl)) rfl rfl rfl rfl (QP rfl (wIf hF rfl (fun _ hF=>?_) fun _ hF=>?_))))))
   ·refine wA rfl ?_;have hF:=fin_0 _ (oi hF);cases hF
    exact bQ wR
   exact aJ (wB rfl (cont_0 _ _ _ (oi hF) sw))
  exact dK (aq (aq (bj (brk_0 _ _ _ (oi hF) sw))))
 intro join hF
 refine wD 4 rfl (rS (J0 (b:=(decide (p0.q5.q0=p1.q5.q0)&&(decide (p0.q5.q9=p1.q5.q9)&&true))) (eqOk_of (n:=2) (sh:=[.int .i64,.int .i64]) Tryz.underlying32 (by kernel_rfl) (by kernel_rfl)) rfl rfl rfl rfl (aQ SV 1 rfl ?_)));cases h191:((decide (p0.q5.q0=p1.q5.q0)&&(decide (p0.q5.q9=p1.q5.q9)&&true)) != true)
 ·have hF:=bF' h191 hF;refine aQ SV 2 rfl (aW SV rfl (d0 (tc:=bZ) p0.q7 .tree (aQ SV 2 rfl (aW SV rfl (d0 (tc:=bZ) p1.q7 .tree (aQ SV 3 rfl ?_))))));cases h192:(!decide ((List.length p0.q7:Int)=(List.length p1.q7:Int)))
  ·have hF:=bF' h192 hF;refine aQ SV 2 rfl (aW SV rfl (d0 (tc:=aj) p0.z3 .tree (aQ SV 2 rfl (aW SV rfl (d0 (tc:=aj) p1.z3 .tree (aQ SV 3 rfl ?_))))));cases h193:(!decide ((List.length p0.z3:Int)=(List.length p1.z3:Int)))
   ·have hF:=bF' h193 hF;refine aQ SV 4 rfl ?_;obtain⟨r194,hr194,hF⟩:=bB' hF
    refine aW SV rfl (cJ (O9 _ _ _ hr194) ⟨rfl,rfl,trivial⟩ rfl (.inl rfl) (aQ SV 3 rfl ?_));cases h195:(!r194)
    ·have hF:=bF' h195 hF;refine aQ SV 2 rfl (aW SV rfl (d0 (tc:=cz) p0.z6 .tree (aQ SV 2 rfl (aW SV rfl (d0 (tc:=cz) p1.z6 .tree (aQ SV 3 rfl ?_))))));cases h196:(!decide ((List.length p0.z6:Int)=(List.length p1.z6:Int)))
     ·have hF:=bF' h196 hF;refine aQ SV 2 rfl (aW SV rfl (d0 (tc:=b9) p0.z2 .tree (aQ SV 2 rfl (aW SV rfl (d0 (tc:=b9) p1.z2 .tree (aQ SV 3 rfl ?_))))));cases h197:(!decide ((List.length p0.z2:Int)=(List.length p1.z2:Int)))
      ·have hF:=bF' h197 hF;refine aQ SV 2 rfl (aW SV rfl (d0 (tc:=bX) p0.j4 .tree (aQ SV 2 rfl (aW SV rfl (d0 (tc:=bX) p1.j4 .tree (aQ SV 3 rfl ?_))))));cases h198:(!decide ((List.length p0.j4:Int)=(List.length p1.j4:Int)))
       ·have hF:=bF' h198 hF;refine aQ SV 2 rfl (aW SV rfl (d0 (tc:=bJ) p0.z5 .tree (aQ SV 2 rfl (aW SV rfl (d0 (tc:=bJ) p1.z5 .tree (aQ SV 3 rfl ?_))))));cases h199:(!decide ((List.length p0.z5:Int)=(List.length p1.z5:Int)))
        ·have hF:=bF' h199 hF;exact aQ SV 2 rfl (aW SV rfl (d0 (tc:=d7) p0.j7 .tree (aQ SV 2 rfl (aW SV rfl (d0 (tc:=d7) p1.j7 .tree (QV rfl (join (!decide ((List.length p0.j7:Int)=(List.length p1.j7:Int))) _ _ hF sw)))))))
        have hF:=bT' h199 hF;exact QV rfl (join true _ _ hF sw)
       have hF:=bT' h198 hF;exact QV rfl (join true _ _ hF sw)
      have hF:=bT' h197 hF;exact QV rfl (join true _ _ hF sw)
     have hF:=bT' h196 hF;exact QV rfl (join true _ _ hF sw)
    have hF:=bT' h195 hF;exact QV rfl (join true _ _ hF sw)
   have hF:=bT' h193 hF;exact QV rfl (join true _ _ hF sw)
  have hF:=bT' h192 hF;exact QV rfl (join true _ _ hF sw)
 have hF:=bT' h191 hF;exact QV rfl (join true _ _ hF sw)
def nY(p0:aZ)(p1:aZ):Option (aZ×Bool×Bool) :=
  some (({q0:=(w64 ((max p0.q0 p1.q0)-p1.q0)),q9:=(w64 ((min p0.q9 p1.q9)-p1.q0))}:aZ),(decide ((max p0.q0 p1.q0)<(min p0.q9 p1.q9))),(decide (p1.q9<p0.q9)))
theorem CV(p0:aZ)(p1:aZ)(r:(aZ×Bool×Bool))(hF:nY p0 p1=some r):Fun Tryz.prog 139 true [] [.agg [jI p0.q0,jI p0.q9],.agg [jI p1.q0,jI p1.q9]] noHeap (.tup [.agg [jI r.1.q0,jI r.1.q9],cB r.2.1,cB r.2.2]) noHeap:=by
 refine fW Tryz.func139 ?_
 unfold nY at hF
 refine wA rfl (wA rfl (az (a5V [none,none,none,none,none,none,none,none,none,none,none,none,(some ([(7,0)],[])),none,(some ([(7,0)],[])),none,none,(some ([(2,0)],[])),none,(some ([(3,0)],[])),none,(some ([],[(4,0)])),none,none] (by decide) rfl (by kernel_rfl) rfl (acY 12 rfl rfl (Sj trivial rfl (zz rfl (acY 1 rfl rfl (Sj trivial rfl (zz rfl (acY 2 rfl rfl (Sj trivial rfl (zz rfl (acY 1 rfl rfl (Sj trivial rfl (zz rfl (acY 1 rfl rfl (Sj trivial rfl (zz rfl (ZE rfl rfl ?_)))))))))))))))))));cases hF
 exact bQ ⟨_,rfl,rfl,⟨⟨⟨rfl,fun _=>rfl⟩,⟨rfl,fun _=>rfl⟩,trivial⟩,⟨rfl,fun _=>rfl⟩,⟨rfl,fun _=>rfl⟩,trivial⟩,a2J _⟩
def o7(p0:aX)(p1:aX):Option Int :=
  ((kq p0.z4.q5.q0 p1.z4.q5.q0).bind fun r1=>((kq p1.z4.q5.q9 p0.z4.q5.q9).bind fun r2=>((kq p0.z4.q6 p1.z4.q6).bind fun r3=>((CJ [r1,r2,r3]).bind fun r4=>some r4))))
theorem yX(p0:aX)(p1:aX)(r:Int)(hF:o7 p0 p1=some r):Fun Tryz.prog 141 true [] [.agg (U3 p0),.agg (U3 p1)] noHeap (cI r) noHeap:=by
 refine fW Tryz.func141 ?_
 unfold o7 at hF
 refine wA rfl (az (f7 (by decide) (by kernel_rfl) rfl (aQ SP 8 rfl ?_)));obtain⟨r1,hr1,hF⟩:=bB hF
 refine aW SP trivial (cJ (o4 _ _ _ hr1) ⟨rfl,rfl,trivial⟩ rfl (.inl rfl) (aQ SP 8 rfl ?_));obtain⟨r2,hr2,hF⟩:=bB hF
 refine aW SP trivial (cJ (o4 _ _ _ hr2) ⟨rfl,rfl,trivial⟩ rfl (.inl rfl) (aQ SP 6 rfl ?_));obtain⟨r3,hr3,hF⟩:=bB hF
 refine aW SP trivial (cJ (o4 _ _ _ hr3) ⟨rfl,rfl,trivial⟩ rfl (.inl rfl) ?_);refine aW SP trivial (E5 (tc:=A9) [r1,r2,r3] rfl ⟨rfl,rfl,rfl,trivial⟩ rfl (fun _=>rfl) rfl ?_)
 obtain⟨r4,hr4,hF⟩:=bB hF
 refine aW SP trivial (cJ (LK _ _ hr4) ⟨⟨_,rfl⟩,trivial⟩ rfl (.inl rfl) (QP rfl ?_));cases hF
 exact bQ wR
def i5(p1:Int):((List aX)×Int)→Option (((List aX)×Int) ⊕ (List aX)):=fun(a135,a136) =>
  (((bif (decide (p1<a136))then((idx a135 a136).bind fun y155=>((idx a135 (w64 (a136-1))).bind fun y156=>((o7 y155 y156).bind fun r157=>some (decide (r157<0)))))else some false):Option Bool).bind fun v148=>(bif v148 then((idx a135 (w64 (a136-1))).bind fun y149=>((idx a135 a136).bind fun y150=>((idx a135 a136).bind fun y151=>((idx (List.set a135 (Int.toNat a136) y149) (w64 (a136-1))).bind fun y152=>some (.inl ((List.set (List.set a135 (Int.toNat a136) y149) (Int.toNat (w64 (a136-1))) y150),(w64 (a136-1))))))))else some (.inr a135)))
def i6(p1:Int)(p2:Int):((List aX)×Int)→Option (((List aX)×Int) ⊕ (List aX)):=fun(a107,a108) =>
  (bif (decide (a108<p2))then((loop (i5 p1) (a107,a108)).bind fun e147=>some (.inl (e147,(w64 (a108+1)))))else some (.inr a107))
def e9(p0:(List aX))(p1:Int)(p2:Int):Option (List aX) :=
  (loop (i6 p1 p2) (p0,(w64 (p1+1))))
theorem pZ(p0:(List aX))(p1:Int)(p2:Int)(r:(List aX))(hF:e9 p0 p1 p2=some r):Fun Tryz.prog 223 false [(9920,0)] [cO (9920,0),cI p1,cI p2,.c (.fn 141 [])] (aV [((9920,0),.arr 220 9 (List.map aK p0))]) (.tup []) (aV [((9920,0),.arr 220 9 (List.map aK r))]):=by
 refine fM [(9920,0)] (some [(9920,0)]) Tryz.func223 ?_
 unfold e9 at hF
 refine wA rfl (aMY hF (fun(a107,a108)=>[(0,cO (9920,0)),(1,cI p1),(2,cI p2),(3,.c (.fn 141 [])),(8,cI a108)]) (fun(a107,a108)=>[((9920,0),.arr 220 9 (List.map aK a107))]) sw ?_)
 rintro⟨a107,a108⟩ x_0 hF cont_0 fin_0
 unfold i6 at hF
 refine az (wA rfl (wIf hF rfl (fun _ hF=>?_) fun _ hF=>?_))
 ·refine aJ (az (c7 (wA rfl (eZ (fun _ _ h=>h) hF (id) (fun(a135,a136)=>[(0,cO (9920,0)),(1,cI p1),(2,cI p2),(3,.c (.fn 141 [])),(8,cI a108),(9,cI a136)]) (fun(a135,a136)=>[((9920,0),.arr 220 9 (List.map aK a135))]) (fun e147=>[(0,cO (9920,0)),(1,cI p1),(2,cI p2),(3,.c (.fn 141 [])),(8,cI a108)]) (fun e147=>[((9920,0),.arr 220 9 (List.map aK e147))]) sw ?_ ?_))))
  ·rintro e147 hF
   exact wB rfl (cont_0 _ _ _ (oi hF) sw)
  rintro⟨a135,a136⟩ x_1 hF cont_1 brk_1 fin_1
  unfold i5 at hF
  refine az (az (cW (fun _ _ h=>h) hF (fun v148=>[(0,cO (9920,0)),(1,cI p1),(2,cI p2),(3,.c (.fn 141 [])),(8,cI a108),(9,cI a136),(34,cB v148)]) (fun v148=>[((9920,0),.arr 220 9 (List.map aK a135))]) ?_ ?_))
  ·rintro v148 hF
   refine wIf hF rfl (fun _ hF=>?_) fun _ hF=>?_
   ·refine aJ (az (c7 (f7 (by decide) (by kernel_rfl) rfl (aQ SP 8 rfl ?_))));obtain⟨y149,hy149,hF⟩:=bB hF
    refine aW SP trivial (pW (tc:=aK) a135 rfl rfl rfl hy149 (aW SP trivial (zW (tc:=aK) a135 rfl rfl (iK hy149).2.1 rfl (aQ SP 2 rfl ?_))))
    obtain⟨y150,hy150,hF⟩:=bB hF
    refine aW SP trivial (pW (tc:=aK) a135 rfl rfl rfl hy150 (aW SP trivial (zW (tc:=aK) a135 rfl rfl (iK hy150).2.1 rfl ?_)));obtain⟨y151,hy151,hF⟩:=bB hF
    refine aW SP trivial (pW (tc:=aK) a135 rfl rfl rfl hy151 (aW SP trivial (OX (tc:=aK) a135 y149 rfl rfl (iK hy151).2.1 rfl rfl rfl rfl rfl ?_)));obtain⟨y152,hy152,hF⟩:=bB hF
    exact aW SP trivial (pW (tc:=aK) (List.set a135 (Int.toNat a136) y149) rfl rfl rfl hy152 (aW SP trivial (OX (tc:=aK) (List.set a135 (Int.toNat a136) y149) y150 rfl rfl (iK hy152).2.1 rfl rfl rfl rfl rfl (QP rfl (wB rfl (cont_1 _ _ _ (oi hF) sw))))))
   exact dK (aq (aq (bj (brk_1 _ _ _ (oi hF) sw))))
  intro join hF
  refine f7 (by decide) (by kernel_rfl) rfl (aQ SP 4 rfl ?_);cases h154:(decide (p1<a136))
  ·have hF:=bF' h154 hF;exact QP rfl (join false _ _ hF sw)
  have hF:=bT' h154 hF;refine aQ SP 3 rfl ?_;obtain⟨y155,hy155,hF⟩:=bB' hF
  refine aW SP rfl (pW (tc:=aK) a135 rfl rfl rfl hy155 (aW SP rfl (zW (tc:=aK) a135 rfl rfl (iK hy155).2.1 rfl (aQ SP 3 rfl ?_))));obtain⟨y156,hy156,hF⟩:=bB' hF
  refine aW SP rfl (pW (tc:=aK) a135 rfl rfl rfl hy156 (aW SP rfl (zW (tc:=aK) a135 rfl rfl (iK hy156).2.1 rfl ?_)));obtain⟨r157,hr157,hF⟩:=bB' hF
  exact aW SP rfl (agW (I8 _ rfl agQ) (yX _ _ _ hr157) ⟨⟨rfl,rfl,rfl,rfl,rfl,rfl,rfl,rfl,rfl,trivial⟩,⟨rfl,rfl,rfl,rfl,rfl,rfl,rfl,rfl,rfl,trivial⟩,trivial⟩ rfl (.inl rfl) (QP rfl (join (decide (r157<0)) _ _ hF sw)))
 refine dK (aq (aq (bj ?_)));have hF:=fin_0 _ (oi hF);cases hF
 exact⟨_,_,fq,_,rfl,rfl,trivial,(AgM.weak ⟨rfl,trivial⟩)⟩
def l5(p1:Int)(p2:Int)(p3:Int):((List aX)×Int)→Option (((List aX)×Int) ⊕ (List aX)):=fun(a17,a18) =>
  (bif (decide (a18<p3))then((idx a17 (w64 (p2+a18))).bind fun y19=>((idx a17 (w64 (p1+a18))).bind fun y20=>((idx a17 (w64 (p1+a18))).bind fun y21=>((idx (List.set a17 (Int.toNat (w64 (p1+a18))) y19) (w64 (p2+a18))).bind fun y22=>some (.inl ((List.set (List.set a17 (Int.toNat (w64 (p1+a18))) y19) (Int.toNat (w64 (p2+a18))) y20),(w64 (a18+1))))))))else some (.inr a17))
def eJ(p0:(List aX))(p1:Int)(p2:Int)(p3:Int):Option (List aX) :=
  (loop (l5 p1 p2 p3) (p0,0))
theorem l2(p0:(List aX))(p1:Int)(p2:Int)(p3:Int)(r:(List aX))(hF:eJ p0 p1 p2 p3=some r):Fun Tryz.prog 288 false [(12520,0)] [cO (12520,0),cI p1,cI p2,cI p3,.c (.fn 141 [])] (aV [((12520,0),.arr 220 9 (List.map aK p0))]) (.tup []) (aV [((12520,0),.arr 220 9 (List.map aK r))]):=by
 refine fM [(12520,0)] (some [(12520,0)]) Tryz.func288 ?_
 unfold eJ at hF
 refine wA rfl (aMY hF (fun(a17,a18)=>[(0,cO (12520,0)),(1,cI p1),(2,cI p2),(3,cI p3),(10,cI a18)]) (fun(a17,a18)=>[((12520,0),.arr 220 9 (List.map aK a17))]) sw ?_)
 rintro⟨a17,a18⟩ x_0 hF cont_0 fin_0
 unfold l5 at hF
 refine az (wA rfl (wIf hF rfl (fun _ hF=>?_) fun _ hF=>?_))
 ·refine aJ (az (c7 (f7 (by decide) (by kernel_rfl) rfl (aQ SP 12 rfl ?_))));obtain⟨y19,hy19,hF⟩:=bB hF
  refine aW SP trivial (pW (tc:=aK) a17 rfl rfl rfl hy19 (aW SP trivial (zW (tc:=aK) a17 rfl rfl (iK hy19).2.1 rfl (aQ SP 4 rfl ?_))));obtain⟨y20,hy20,hF⟩:=bB hF
  refine aW SP trivial (pW (tc:=aK) a17 rfl rfl rfl hy20 (aW SP trivial (zW (tc:=aK) a17 rfl rfl (iK hy20).2.1 rfl ?_)));obtain⟨y21,hy21,hF⟩:=bB hF
  refine aW SP trivial (pW (tc:=aK) a17 rfl rfl rfl hy21 (aW SP trivial (OX (tc:=aK) a17 y19 rfl rfl (iK hy21).2.1 rfl rfl rfl rfl rfl ?_)));obtain⟨y22,hy22,hF⟩:=bB hF
  exact aW SP trivial (pW (tc:=aK) (List.set a17 (Int.toNat (w64 (p1+a18))) y19) rfl rfl rfl hy22 (aW SP trivial (OX (tc:=aK) (List.set a17 (Int.toNat (w64 (p1+a18))) y19) y20 rfl rfl (iK hy22).2.1 rfl rfl rfl rfl rfl (QP rfl (wB rfl (cont_0 _ _ _ (oi hF) sw))))))
 refine dK (aq (aq (bj ?_)));have hF:=fin_0 _ (oi hF);cases hF
 exact⟨_,_,fq,_,rfl,rfl,trivial,(AgM.weak ⟨rfl,trivial⟩)⟩
def oq(p2:Int):((List aX)×Int×Int)→Option (((List aX)×Int×Int) ⊕ ((List aX)×Int)):=fun(a18,a19,a20) =>
  (bif (!decide (a19=a20))then(bif (decide (a20<a19))then((eJ a18 (w64 (p2-a19)) p2 a20).bind fun r28=>some (.inl (r28,(w64 (a19-a20)),a20)))else((eJ a18 (w64 (p2-a19)) (w64 ((w64 (p2+a20))-a19)) a19).bind fun r29=>some (.inl (r29,a19,(w64 (a20-a19))))))else some (.inr (a18,a19)))
def gJ(p0:(List aX))(p1:Int)(p2:Int)(p3:Int):Option (List aX) :=
  ((loop (oq p2) (p0,(w64 (p2-p1)),(w64 (p3-p2)))).bind fun(e25,e26)=>((eJ e25 (w64 (p2-e26)) p2 e26).bind fun r27=>some r27))
theorem D8(p0:(List aX))(p1:Int)(p2:Int)(p3:Int)(r:(List aX))(hF:gJ p0 p1 p2 p3=some r):Fun Tryz.prog 258 false [(11320,0)] [cO (11320,0),cI p1,cI p2,cI p3,.c (.fn 141 [])] (aV [((11320,0),.arr 220 9 (List.map aK p0))]) (.tup []) (aV [((11320,0),.arr 220 9 (List.map aK r))]):=by
 refine fM [(11320,0)] (some [(11320,0)]) Tryz.func258 ?_
 unfold gJ at hF
 refine wA rfl (wA rfl (az (eZ (fun _ _ h=>h) hF (id) (fun(a18,a19,a20)=>[(0,cO (11320,0)),(2,cI p2),(4,.c (.fn 141 [])),(10,cI a19),(11,cI a20)]) (fun(a18,a19,a20)=>[((11320,0),.arr 220 9 (List.map aK a18))]) (fun(e25,e26)=>[(0,cO (11320,0)),(2,cI p2),(4,.c (.fn 141 [])),(10,cI e26)]) (fun(e25,e26)=>[((11320,0),.arr 220 9 (List.map aK e25))]) sw ?_ ?_)))
 ·rintro⟨e25,e26⟩ hF
  refine wD 7 rfl ?_;obtain⟨r27,hr27,hF⟩:=bB hF
  refine jj trivial (oz [((12520,0),(11320,0))] rfl (AY _) (l2 _ _ _ _ _ hr27) ⟨rfl,trivial⟩ ⟨.inl rfl,.inl rfl,.inl rfl,.inl rfl,.inl rfl,trivial⟩ rfl rfl rfl ?_)
  refine QV rfl ?_;cases hF
  exact⟨_,_,fq,_,rfl,rfl,trivial,(AgM.weak ⟨rfl,trivial⟩)⟩
 rintro⟨a18,a19,a20⟩ x_0 hF cont_0 brk_0 fin_0
 unfold oq at hF
 refine az (wA rfl (wIf hF rfl (fun _ hF=>?_) fun _ hF=>?_))
 ·refine aJ (c7 (wA rfl (wIf hF rfl (fun _ hF=>?_) fun _ hF=>?_)))
  ·refine wC 7 rfl ?_;obtain⟨r28,hr28,hF⟩:=bB hF
   refine jj trivial (oz [((12520,0),(11320,0))] rfl (AY _) (l2 _ _ _ _ _ hr28) ⟨rfl,trivial⟩ ⟨.inl rfl,.inl rfl,.inl rfl,.inl rfl,.inl rfl,trivial⟩ rfl rfl rfl ?_)
   exact QV rfl (wB rfl (cont_0 _ _ _ (oi hF) sw))
  refine wC 11 rfl ?_;obtain⟨r29,hr29,hF⟩:=bB hF
  refine jj trivial (oz [((12520,0),(11320,0))] rfl (AY _) (l2 _ _ _ _ _ hr29) ⟨rfl,trivial⟩ ⟨.inl rfl,.inl rfl,.inl rfl,.inl rfl,.inl rfl,trivial⟩ rfl rfl rfl ?_)
  exact QV rfl (wB rfl (cont_0 _ _ _ (oi hF) sw))
 exact dK (aq (aq (bj (brk_0 _ _ _ (oi hF) sw))))
def iz(e24:Int):((List aX)×Int)→Option (((List aX)×Int) ⊕ (List aX)):=fun(a41,a42) =>
  (bif (decide (a42<(w64 (e24-1))))then((idx a41 (w64 (a42+1))).bind fun y49=>((idx a41 a42).bind fun y50=>((idx a41 a42).bind fun y51=>((idx (List.set a41 (Int.toNat a42) y49) (w64 (a42+1))).bind fun y52=>some (.inl ((List.set (List.set a41 (Int.toNat a42) y49) (Int.toNat (w64 (a42+1))) y50),(w64 (a42+1))))))))else some (.inr a41))
def gW(p0:(List aX))(p1:Int):(Int×Int)→Option ((Int×Int) ⊕ Int):=fun(a17,a18) =>
  (bif (decide (a17<a18))then((idx p0 (w64 (shR .u64 (IntKind.wrap .u64 (w64 (a17+a18))) 1))).bind fun y54=>((idx p0 p1).bind fun y55=>((o7 y54 y55).bind fun r56=>(bif (decide (r56<0))then some (.inl ((w64 ((w64 (shR .u64 (IntKind.wrap .u64 (w64 (a17+a18))) 1))+1)),a18))else some (.inl (a17,(w64 (shR .u64 (IntKind.wrap .u64 (w64 (a17+a18))) 1))))))))else some (.inr a17))
def gK(e82:Int):((List aX)×Int)→Option (((List aX)×Int) ⊕ (List aX)):=fun(a99,a100) =>
  (bif (decide (e82<a100))then((idx a99 (w64 (a100-1))).bind fun y107=>((idx a99 a100).bind fun y108=>((idx a99 a100).bind fun y109=>((idx (List.set a99 (Int.toNat a100) y107) (w64 (a100-1))).bind fun y110=>some (.inl ((List.set (List.set a99 (Int.toNat a100) y107) (Int.toNat (w64 (a100-1))) y108),(w64 (a100-1))))))))else some (.inr a99))
def gV(p0:(List aX))(p2:Int):(Int×Int)→Option ((Int×Int) ⊕ Int):=fun(a75,a76) =>
  (bif (decide (a75<a76))then((idx p0 p2).bind fun y112=>((idx p0 (w64 (shR .u64 (IntKind.wrap .u64 (w64 (a75+a76))) 1))).bind fun y113=>((o7 y112 y113).bind fun r114=>(bif (!(decide (r114<0)))then some (.inl ((w64 ((w64 (shR .u64 (IntKind.wrap .u64 (w64 (a75+a76))) 1))+1)),a76))else some (.inl (a75,(w64 (shR .u64 (IntKind.wrap .u64 (w64 (a75+a76))) 1))))))))else some (.inr a75))
def ij(p0:(List aX))(p1:Int)(p2:Int)(p3:Int):(Int×Int)→Option ((Int×Int) ⊕ Int):=fun(a135,a136) =>
  (bif (decide (a135<a136))then((idx p0 (w64 ((w64 ((w64 ((w64 (shR .u64 (IntKind.wrap .u64 (w64 (p1+p3))) 1))+p2))-1))-(w64 (shR .u64 (IntKind.wrap .u64 (w64 (a135+a136))) 1))))).bind fun y157=>((idx p0 (w64 (shR .u64 (IntKind.wrap .u64 (w64 (a135+a136))) 1))).bind fun y158=>((o7 y157 y158).bind fun r159=>(bif (!(decide (r159<0)))then some (.inl ((w64 ((w64 (shR .u64 (IntKind.wrap .u64 (w64 (a135+a136))) 1))+1)),a136))else some (.inl (a135,(w64 (shR .u64 (IntKind.wrap .u64 (w64 (a135+a136))) 1))))))))else some (.inr a135))
def m5(rec:((List aX)→Int→Int→Int→Option (List aX)))(p0:(List aX))(p1:Int)(p2:Int)(p3:Int):Option (List aX) :=
  (bif (decide ((w64 (p2-p1))=1))then((loop (gW p0 p1) (p2,p3)).bind fun e24=>((loop (iz e24) (p0,p1)).bind fun e48=>some e48))else(bif (decide ((w64 (p3-p2))=1))then((loop (gV p0 p2) (p1,p2)).bind fun e82=>((loop (gK e82) (p0,p2)).bind fun e106=>some e106))else(((bif (decide ((w64 (shR .u64 (IntKind.wrap .u64 (w64 (p1+p3))) 1))<p2))then some ((w64 ((w64 ((w64 (shR .u64 (IntKind.wrap .u64 (w64 (p1+p3))) 1))+p2))-p3)),(w64 (shR .u64 (IntKind.wrap .u64 (w64 (p1+p3))) 1)))else some (p1,p2)):Option (Int×Int)).bind fun(v117,v118)=>((loop (ij p0 p1 p2 p3) (v117,v118)).bind fun e142=>(((bif (decide (e142<p2))then some (decide (p2<(w64 ((w64 ((w64 (shR .u64 (IntKind.wrap .u64 (w64 (p1+p3))) 1))+p2))-e142))))else some false):Option Bool).bind fun v143=>(((bif v143 then((gJ p0 e142 p2 (w64 ((w64 ((w64 (shR .u64 (IntKind.wrap .u64 (w64 (p1+p3))) 1))+p2))-e142))).bind fun r154=>some r154)else some p0):Option (List aX)).bind fun v144=>(((bif (decide (p1<e142))then some (decide (e142<(w64 (shR .u64 (IntKind.wrap .u64 (w64 (p1+p3))) 1))))else some false):Option Bool).bind fun v145=>(((bif v145 then((rec v144 p1 e142 (w64 (shR .u64 (IntKind.wrap .u64 (w64 (p1+p3))) 1))).bind fun r151=>some r151)else some v144):Option (List aX)).bind fun v146=>(((bif (decide ((w64 (shR .u64 (IntKind.wrap .u64 (w64 (p1+p3))) 1))<(w64 ((w64 ((w64 (shR .u64 (IntKind.wrap .u64 (w64 (p1+p3))) 1))+p2))-e142))))then some (decide ((w64 ((w64 ((w64 (shR .u64 (IntKind.wrap .u64 (w64 (p1+p3))) 1))+p2))-e142))<p3))else some false):Option Bool).bind fun v147=>(bif v147 then((rec v146 (w64 (shR .u64 (IntKind.wrap .u64 (w64 (p1+p3))) 1)) (w64 ((w64 ((w64 (shR .u64 (IntKind.wrap .u64 (w64 (p1+p3))) 1))+p2))-e142)) p3).bind fun r148=>some r148)else some v146))))))))))
def fV:Nat→(List aX)→Int→Int→Int→Option (List aX)
  | 0=>fun _ _ _ _=>none
  | n+1=>m5 (fV n)
def gz(p0:(List aX))(p1:Int)(p2:Int)(p3:Int):Option (List aX):=fV 9223372036854775808 p0 p1 p2 p3
theorem Cq:∀(n:Nat) (p0:(List aX)) (p1:Int) (p2:Int) (p3:Int) (r:(List aX)),fV n p0 p1 p2 p3=some r→Fun Tryz.prog 224 false [(9960,0)] [cO (9960,0),cI p1,cI p2,cI p3,.c (.fn 141 [])] (aV [((9960,0),.arr 220 9 (List.map aK p0))]) (.tup []) (aV [((9960,0),.arr 220 9 (List.map aK r))]):=by
 intro n
 induction n
 ·intro p0 p1 p2 p3 r hF;simp[fV]at hF
 rename_i n ih;intro p0 p1 p2 p3 r hF
 refine fM [(9960,0)] (some [(9960,0)]) Tryz.func224 ?_
 unfold fV at hF
 unfold m5 at hF
 refine az (wA rfl (wIf hF rfl (fun _ hF=>?_) fun _ hF=>?_))
 ·refine wA rfl (wA rfl (az (eZ (fun _ _ h=>h) hF (id) (fun(a17,a18)=>[(0,cO (9960,0)),(1,cI p1),(4,.c (.fn 141 [])),(10,cI a17),(11,cI a18)]) (fun(a17,a18)=>[((9960,0),.arr 220 9 (List.map aK p0))]) (fun e24=>[(0,cO (9960,0)),(1,cI p1),(10,cI e24)]) (fun e24=>[((9960,0),.arr 220 9 (List.map aK p0))]) sw ?_ ?_)))
  ·rintro e24 hF
   refine az (wA rfl (eZ (fun _ _ h=>h) hF (id) (fun(a41,a42)=>[(0,cO (9960,0)),(10,cI e24),(13,cI a42)]) (fun(a41,a42)=>[((9960,0),.arr 220 9 (List.map aK a41))]) (fun e48=>[]) (fun e48=>[((9960,0),.arr 220 9 (List.map aK e48))]) sw ?_ ?_))
   ·rintro e48 hF
    cases hF
    exact bQ ⟨_,_,fq,_,rfl,rfl,trivial,(AgM.weak ⟨rfl,trivial⟩)⟩
   rintro⟨a41,a42⟩ x_0 hF cont_0 brk_0 fin_0
   unfold iz at hF
   refine az (wA rfl (wIf hF rfl (fun _ hF=>?_) fun _ hF=>?_))
   ·refine aJ (az (c7 (f7 (by decide) (by kernel_rfl) rfl (aQ SP 8 rfl ?_))));obtain⟨y49,hy49,hF⟩:=bB hF
    refine aW SP trivial (pW (tc:=aK) a41 rfl rfl rfl hy49 (aW SP trivial (zW (tc:=aK) a41 rfl rfl (iK hy49).2.1 rfl (aQ SP 2 rfl ?_))));obtain⟨y50,hy50,hF⟩:=bB hF
    refine aW SP trivial (pW (tc:=aK) a41 rfl rfl rfl hy50 (aW SP trivial (zW (tc:=aK) a41 rfl rfl (iK hy50).2.1 rfl ?_)));obtain⟨y51,hy51,hF⟩:=bB hF
    refine aW SP trivial (pW (tc:=aK) a41 rfl rfl rfl hy51 (aW SP trivial (OX (tc:=aK) a41 y49 rfl rfl (iK hy51).2.1 rfl rfl rfl rfl rfl ?_)));obtain⟨y52,hy52,hF⟩:=bB hF
    exact aW SP trivial (pW (tc:=aK) (List.set a41 (Int.toNat a42) y49) rfl rfl rfl hy52 (aW SP trivial (OX (tc:=aK) (List.set a41 (Int.toNat a42) y49) y50 rfl rfl (iK hy52).2.1 rfl rfl rfl rfl rfl (QP rfl (wB rfl (cont_0 _ _ _ (oi hF) sw))))))
   exact dK (aq (aq (bj (brk_0 _ _ _ (oi hF) sw))))
  rintro⟨a17,a18⟩ x_0 hF cont_0 brk_0 fin_0
  unfold gW at hF
  refine az (wA rfl (wIf hF rfl (fun _ hF=>?_) fun _ hF=>?_))
  ·refine aJ (c7 (wA rfl (az (f7 (by decide) (by kernel_rfl) rfl (aQ SP 3 rfl ?_)))));obtain⟨y54,hy54,hF⟩:=bB hF
   refine aW SP trivial (pW (tc:=aK) p0 rfl rfl rfl hy54 (aW SP trivial (zW (tc:=aK) p0 rfl rfl (iK hy54).2.1 rfl (aQ SP 2 rfl ?_))));obtain⟨y55,hy55,hF⟩:=bB hF
   refine aW SP trivial (pW (tc:=aK) p0 rfl rfl rfl hy55 (aW SP trivial (zW (tc:=aK) p0 rfl rfl (iK hy55).2.1 rfl ?_)));obtain⟨r56,hr56,hF⟩:=bB hF
   refine aW SP trivial (agW (I8 _ rfl agQ) (yX _ _ _ hr56) ⟨⟨rfl,rfl,rfl,rfl,rfl,rfl,rfl,rfl,rfl,trivial⟩,⟨rfl,rfl,rfl,rfl,rfl,rfl,rfl,rfl,rfl,trivial⟩,trivial⟩ rfl (.inl rfl) (QP rfl (wIf hF rfl (fun _ hF=>?_) fun _ hF=>?_)))
   ·exact wB rfl (cont_0 _ _ _ (oi hF) sw)
   exact wB rfl (cont_0 _ _ _ (oi hF) sw)
  exact dK (aq (aq (bj (brk_0 _ _ _ (oi hF) sw))))
 refine aJ (az (wA rfl (wIf hF rfl (fun _ hF=>?_) fun _ hF=>?_)))
 ·refine wA rfl (wA rfl (az (eZ (fun _ _ h=>h) hF (id) (fun(a75,a76)=>[(0,cO (9960,0)),(2,cI p2),(4,.c (.fn 141 [])),(14,cI a75),(15,cI a76)]) (fun(a75,a76)=>[((9960,0),.arr 220 9 (List.map aK p0))]) (fun e82=>[(0,cO (9960,0)),(2,cI p2),(14,cI e82)]) (fun e82=>[((9960,0),.arr 220 9 (List.map aK p0))]) sw ?_ ?_)))
  ·rintro e82 hF
   refine az (wA rfl (eZ (fun _ _ h=>h) hF (id) (fun(a99,a100)=>[(0,cO (9960,0)),(14,cI e82),(17,cI a100)]) (fun(a99,a100)=>[((9960,0),.arr 220 9 (List.map aK a99))]) (fun e106=>[]) (fun e106=>[((9960,0),.arr 220 9 (List.map aK e106))]) sw ?_ ?_))
   ·rintro e106 hF
    cases hF
    exact bQ ⟨_,_,fq,_,rfl,rfl,trivial,(AgM.weak ⟨rfl,trivial⟩)⟩
   rintro⟨a99,a100⟩ x_0 hF cont_0 brk_0 fin_0
   unfold gK at hF
   refine az (wA rfl (wIf hF rfl (fun _ hF=>?_) fun _ hF=>?_))
   ·refine aJ (az (c7 (f7 (by decide) (by kernel_rfl) rfl (aQ SP 8 rfl ?_))));obtain⟨y107,hy107,hF⟩:=bB hF
    refine aW SP trivial (pW (tc:=aK) a99 rfl rfl rfl hy107 (aW SP trivial (zW (tc:=aK) a99 rfl rfl (iK hy107).2.1 rfl (aQ SP 2 rfl ?_))))
    obtain⟨y108,hy108,hF⟩:=bB hF
    refine aW SP trivial (pW (tc:=aK) a99 rfl rfl rfl hy108 (aW SP trivial (zW (tc:=aK) a99 rfl rfl (iK hy108).2.1 rfl ?_)));obtain⟨y109,hy109,hF⟩:=bB hF
    refine aW SP trivial (pW (tc:=aK) a99 rfl rfl rfl hy109 (aW SP trivial (OX (tc:=aK) a99 y107 rfl rfl (iK hy109).2.1 rfl rfl rfl rfl rfl ?_)));obtain⟨y110,hy110,hF⟩:=bB hF
    exact aW SP trivial (pW (tc:=aK) (List.set a99 (Int.toNat a100) y107) rfl rfl rfl hy110 (aW SP trivial (OX (tc:=aK) (List.set a99 (Int.toNat a100) y107) y108 rfl rfl (iK hy110).2.1 rfl rfl rfl rfl rfl (QP rfl (wB rfl (cont_0 _ _ _ (oi hF) sw))))))
   exact dK (aq (aq (bj (brk_0 _ _ _ (oi hF) sw))))
  rintro⟨a75,a76⟩ x_0 hF cont_0 brk_0 fin_0
  unfold gV at hF
  refine az (wA rfl (wIf hF rfl (fun _ hF=>?_) fun _ hF=>?_))
  ·refine aJ (c7 (wA rfl (az (f7 (by decide) (by kernel_rfl) rfl (aQ SP 3 rfl ?_)))));obtain⟨y112,hy112,hF⟩:=bB hF
   refine aW SP trivial (pW (tc:=aK) p0 rfl rfl rfl hy112 (aW SP trivial (zW (tc:=aK) p0 rfl rfl (iK hy112).2.1 rfl (aQ SP 2 rfl ?_))));obtain⟨y113,hy113,hF⟩:=bB hF
   refine aW SP trivial (pW (tc:=aK) p0 rfl rfl rfl hy113 (aW SP trivial (zW (tc:=aK) p0 rfl rfl (iK hy113).2.1 rfl ?_)));obtain⟨r114,hr114,hF⟩:=bB hF
   refine aW SP trivial (agW (I8 _ rfl agQ) (yX _ _ _ hr114) ⟨⟨rfl,rfl,rfl,rfl,rfl,rfl,rfl,rfl,rfl,trivial⟩,⟨rfl,rfl,rfl,rfl,rfl,rfl,rfl,rfl,rfl,trivial⟩,trivial⟩ rfl (.inl rfl) (QP rfl (wIf hF rfl (fun _ hF=>?_) fun _ hF=>?_)))
   ·exact wB rfl (cont_0 _ _ _ (oi hF) sw)
   exact wB rfl (cont_0 _ _ _ (oi hF) sw)
  exact dK (aq (aq (bj (brk_0 _ _ _ (oi hF) sw))))
 refine aJ (wA rfl (wA rfl (wA rfl (az (wA rfl (cW (fun _ _ h=>h) hF (fun(v117,v118)=>[(0,cO (9960,0)),(1,cI p1),(2,cI p2),(3,cI p3),(4,.c (.fn 141 [])),(18,cI (w64 (shR .u64 (IntKind.wrap .u64 (w64 (p1+p3))) 1))),(19,cI (w64 ((w64 (shR .u64 (IntKind.wrap .u64 (w64 (p1+p3))) 1))+p2))),(20,cI v117),(21,cI v118)]) (fun(v117,v118)=>[((9960,0),.arr 220 9 (List.map aK p0))]) ?_ ?_))))))
 ·rintro⟨v117,v118⟩ hF
  refine wA rfl (az (eZ (fun _ _ h=>h) hF (id) (fun(a135,a136)=>[(0,cO (9960,0)),(1,cI p1),(2,cI p2),(3,cI p3),(4,.c (.fn 141 [])),(18,cI (w64 (shR .u64 (IntKind.wrap .u64 (w64 (p1+p3))) 1))),(19,cI (w64 ((w64 (shR .u64 (IntKind.wrap .u64 (w64 (p1+p3))) 1))+p2))),(20,cI a135),(21,cI a136),(22,cI (w64 ((w64 ((w64 (shR .u64 (IntKind.wrap .u64 (w64 (p1+p3))) 1))+p2))-1)))]) (fun(a135,a136)=>[((9960,0),.arr 220 9 (List.map aK p0))]) (fun e142=>[(0,cO (9960,0)),(1,cI p1),(2,cI p2),(3,cI p3),(4,.c (.fn 141 [])),(18,cI (w64 (shR .u64 (IntKind.wrap .u64 (w64 (p1+p3))) 1))),(19,cI (w64 ((w64 (shR .u64 (IntKind.wrap .u64 (w64 (p1+p3))) 1))+p2))),(20,cI e142)]) (fun e142=>[((9960,0),.arr 220 9 (List.map aK p0))]) sw ?_ ?_))
  ·rintro e142 hF
   refine wA rfl (az (az (cW (fun _ _ h=>h) hF (fun v143=>[(0,cO (9960,0)),(1,cI p1),(2,cI p2),(3,cI p3),(4,.c (.fn 141 [])),(18,cI (w64 (shR .u64 (IntKind.wrap .u64 (w64 (p1+p3))) 1))),(20,cI e142),(24,cI (w64 ((w64 ((w64 (shR .u64 (IntKind.wrap .u64 (w64 (p1+p3))) 1))+p2))-e142))),(185,cB v143)]) (fun v143=>[((9960,0),.arr 220 9 (List.map aK p0))]) ?_ ?_)))
   ·rintro v143 hF
    refine cW (fun _ _ h=>h) hF (fun v144=>[(0,cO (9960,0)),(1,cI p1),(3,cI p3),(4,.c (.fn 141 [])),(18,cI (w64 (shR .u64 (IntKind.wrap .u64 (w64 (p1+p3))) 1))),(20,cI e142),(24,cI (w64 ((w64 ((w64 (shR .u64 (IntKind.wrap .u64 (w64 (p1+p3))) 1))+p2))-e142)))]) (fun v144=>[((9960,0),.arr 220 9 (List.map aK v144))]) ?_ ?_
    ·rintro v144 hF
     refine az (az (cW (fun _ _ h=>h) hF (fun v145=>[(0,cO (9960,0)),(1,cI p1),(3,cI p3),(4,.c (.fn 141 [])),(18,cI (w64 (shR .u64 (IntKind.wrap .u64 (w64 (p1+p3))) 1))),(20,cI e142),(24,cI (w64 ((w64 ((w64 (shR .u64 (IntKind.wrap .u64 (w64 (p1+p3))) 1))+p2))-e142))),(199,cB v145)]) (fun v145=>[((9960,0),.arr 220 9 (List.map aK v144))]) ?_ ?_))
     ·rintro v145 hF
      refine cW (fun _ _ h=>h) hF (fun v146=>[(0,cO (9960,0)),(3,cI p3),(4,.c (.fn 141 [])),(18,cI (w64 (shR .u64 (IntKind.wrap .u64 (w64 (p1+p3))) 1))),(24,cI (w64 ((w64 ((w64 (shR .u64 (IntKind.wrap .u64 (w64 (p1+p3))) 1))+p2))-e142)))]) (fun v146=>[((9960,0),.arr 220 9 (List.map aK v146))]) ?_ ?_
      ·rintro v146 hF
       refine az (cW (fun _ _ h=>h) hF (fun v147=>[(0,cO (9960,0)),(3,cI p3),(4,.c (.fn 141 [])),(18,cI (w64 (shR .u64 (IntKind.wrap .u64 (w64 (p1+p3))) 1))),(24,cI (w64 ((w64 ((w64 (shR .u64 (IntKind.wrap .u64 (w64 (p1+p3))) 1))+p2))-e142))),(213,cB v147)]) (fun v147=>[((9960,0),.arr 220 9 (List.map aK v146))]) ?_ ?_)
       ·rintro v147 hF
        refine wIf hF rfl (fun _ hF=>?_) fun _ hF=>?_
        ·refine wD 5 rfl ?_;obtain⟨r148,hr148,hF⟩:=bB hF
         refine jj trivial (oz [] rfl (AY _) (ih _ _ _ _ _ hr148) ⟨rfl,trivial⟩ ⟨.inl rfl,.inl rfl,.inl rfl,.inl rfl,.inl rfl,trivial⟩ rfl rfl rfl ?_);refine QV rfl ?_;cases hF
         exact⟨_,_,fq,_,rfl,rfl,trivial,(AgM.weak ⟨rfl,trivial⟩)⟩
        refine aJ ?_;cases hF
        exact⟨_,_,fq,_,rfl,rfl,trivial,(AgM.weak ⟨rfl,trivial⟩)⟩
       intro join hF
       refine wD 4 rfl ?_;cases h150:(decide ((w64 (shR .u64 (IntKind.wrap .u64 (w64 (p1+p3))) 1))<(w64 ((w64 ((w64 (shR .u64 (IntKind.wrap .u64 (w64 (p1+p3))) 1))+p2))-e142))))
       ·have hF:=bF' h150 hF;exact QV rfl (join false _ _ hF sw)
       have hF:=bT' h150 hF;exact QV rfl (join (decide ((w64 ((w64 ((w64 (shR .u64 (IntKind.wrap .u64 (w64 (p1+p3))) 1))+p2))-e142))<p3)) _ _ hF sw)
      intro join hF
      refine wX hF rfl (fun _ hF=>?_) fun _ hF=>?_
      ·refine wD 5 rfl ?_;obtain⟨r151,hr151,hF⟩:=bB' hF
       refine jj trivial (oz [] rfl (AY _) (ih _ _ _ _ _ hr151) ⟨rfl,trivial⟩ ⟨.inl rfl,.inl rfl,.inl rfl,.inl rfl,.inl rfl,trivial⟩ rfl rfl rfl ?_);exact QV rfl (join r151 _ _ hF sw)
      exact aJ (join v144 _ _ hF sw)
     intro join hF
     refine wD 4 rfl ?_;cases h153:(decide (p1<e142))
     ·have hF:=bF' h153 hF;exact QV rfl (join false _ _ hF sw)
     have hF:=bT' h153 hF;exact QV rfl (join (decide (e142<(w64 (shR .u64 (IntKind.wrap .u64 (w64 (p1+p3))) 1)))) _ _ hF sw)
    intro join hF
    refine wX hF rfl (fun _ hF=>?_) fun _ hF=>?_
    ·refine wD 5 rfl ?_;obtain⟨r154,hr154,hF⟩:=bB' hF
     refine jj trivial (oz [((11320,0),(9960,0))] rfl (AY _) (D8 _ _ _ _ _ hr154) ⟨rfl,trivial⟩ ⟨.inl rfl,.inl rfl,.inl rfl,.inl rfl,.inl rfl,trivial⟩ rfl rfl rfl ?_)
     exact QV rfl (join r154 _ _ hF sw)
    exact aJ (join p0 _ _ hF sw)
   intro join hF
   refine wD 4 rfl ?_;cases h156:(decide (e142<p2))
   ·have hF:=bF' h156 hF;exact QV rfl (join false _ _ hF sw)
   have hF:=bT' h156 hF;exact QV rfl (join (decide (p2<(w64 ((w64 ((w64 (shR .u64 (IntKind.wrap .u64 (w64 (p1+p3))) 1))+p2))-e142)))) _ _ hF sw)
  rintro⟨a135,a136⟩ x_0 hF cont_0 brk_0 fin_0
  unfold ij at hF
  refine az (wA rfl (wIf hF rfl (fun _ hF=>?_) fun _ hF=>?_))
  ·refine aJ (c7 (wA rfl (az (f7 (by decide) (by kernel_rfl) rfl (aQ SP 5 rfl ?_)))));obtain⟨y157,hy157,hF⟩:=bB hF
   refine aW SP trivial (pW (tc:=aK) p0 rfl rfl rfl hy157 (aW SP trivial (zW (tc:=aK) p0 rfl rfl (iK hy157).2.1 rfl (aQ SP 2 rfl ?_))));obtain⟨y158,hy158,hF⟩:=bB hF
   refine aW SP trivial (pW (tc:=aK) p0 rfl rfl rfl hy158 (aW SP trivial (zW (tc:=aK) p0 rfl rfl (iK hy158).2.1 rfl ?_)));obtain⟨r159,hr159,hF⟩:=bB hF
   refine aW SP trivial (agW (I8 _ rfl agQ) (yX _ _ _ hr159) ⟨⟨rfl,rfl,rfl,rfl,rfl,rfl,rfl,rfl,rfl,trivial⟩,⟨rfl,rfl,rfl,rfl,rfl,rfl,rfl,rfl,rfl,trivial⟩,trivial⟩ rfl (.inl rfl) (QP rfl (wIf hF rfl (fun _ hF=>?_) fun _ hF=>?_)))
   ·exact wB rfl (cont_0 _ _ _ (oi hF) sw)
   exact wB rfl (cont_0 _ _ _ (oi hF) sw)
  exact dK (aq (aq (bj (brk_0 _ _ _ (oi hF) sw))))
 intro join hF
 refine wX hF rfl (fun _ hF=>?_) fun _ hF=>?_
 ·exact wA rfl (wB rfl (join ((w64 ((w64 ((w64 (shR .u64 (IntKind.wrap .u64 (w64 (p1+p3))) 1))+p2))-p3)),(w64 (shR .u64 (IntKind.wrap .u64 (w64 (p1+p3))) 1))) _ _ hF sw))
 exact wA rfl (wB rfl (join (p1,p2) _ _ hF sw))
theorem sX(p0:(List aX))(p1:Int)(p2:Int)(p3:Int)(r:(List aX))(hF:gz p0 p1 p2 p3=some r):Fun Tryz.prog 224 false [(9960,0)] [.c (.slO (9960,0)),.c (.imm (tI p1)),.c (.imm (tI p2)),.c (.imm (tI p3)),.c (.fn 141 [])] (aV [((9960,0),.arr 220 9 (List.map aK p0))]) (.tup []) (aV [((9960,0),.arr 220 9 (List.map aK r))]):=Cq _ p0 p1 p2 p3 r hF
def i4(p1:Int)(a81:Int):((List aX)×Int×Int)→Option (((List aX)×Int×Int) ⊕ ((List aX)×Int)):=fun(a95,a96,a97) =>
  (bif (decide (a97≤p1))then((gz a95 a96 (w64 (a96+a81)) a97).bind fun r105=>some (.inl (r105,a97,(w64 (a97+(w64 (2*a81)))))))else some (.inr (a95,a96)))
def nK(p1:Int):((List aX)×Int)→Option (((List aX)×Int) ⊕ (List aX)):=fun(a80,a81) =>
  (bif (decide (a81<p1))then((loop (i4 p1 a81) (a80,0,(w64 (2*a81)))).bind fun(e100,e101)=>(((bif (decide ((w64 (e101+a81))<p1))then((gz e100 e101 (w64 (e101+a81)) p1).bind fun r103=>some r103)else some e100):Option (List aX)).bind fun v102=>some (.inl (v102,(w64 (a81*2))))))else some (.inr a80))
def kz(p1:Int):((List aX)×Int×Int)→Option (((List aX)×Int×Int) ⊕ ((List aX)×Int)):=fun(a14,a15,a16) =>
  (bif (decide (a16≤p1))then((e9 a14 a15 a16).bind fun r108=>some (.inl (r108,a16,(w64 (a16+20)))))else some (.inr (a14,a15)))
def jZ(p0:(List aX))(p1:Int):Option (List aX) :=
  ((loop (kz p1) (p0,0,20)).bind fun(e19,e20)=>((e9 e19 e20 p1).bind fun r21=>(loop (nK p1) (r21,20))))
theorem D9(p0:(List aX))(p1:Int)(r:(List aX))(hF:jZ p0 p1=some r):Fun Tryz.prog 190 false [(8600,0)] [cO (8600,0),cI p1,.c (.fn 141 [])] (aV [((8600,0),.arr 220 9 (List.map aK p0))]) (.tup []) (aV [((8600,0),.arr 220 9 (List.map aK r))]):=by
 refine fM [(8600,0)] (some [(8600,0)]) Tryz.func190 ?_
 unfold jZ at hF
 refine wA rfl (wA rfl (az (eZ (fun _ _ h=>h) hF (id) (fun(a14,a15,a16)=>[(0,cO (8600,0)),(1,cI p1),(2,.c (.fn 141 [])),(6,cI 20),(7,cI a15),(8,cI a16)]) (fun(a14,a15,a16)=>[((8600,0),.arr 220 9 (List.map aK a14))]) (fun(e19,e20)=>[(0,cO (8600,0)),(1,cI p1),(2,.c (.fn 141 [])),(6,cI 20),(7,cI e20)]) (fun(e19,e20)=>[((8600,0),.arr 220 9 (List.map aK e19))]) sw ?_ ?_)))
 ·rintro⟨e19,e20⟩ hF
  refine wC 4 rfl ?_;obtain⟨r21,hr21,hF⟩:=bB hF
  refine jj trivial (oz [((9920,0),(8600,0))] rfl (AY _) (pZ _ _ _ _ hr21) ⟨rfl,trivial⟩ ⟨.inl rfl,.inl rfl,.inl rfl,.inl rfl,trivial⟩ rfl rfl rfl ?_)
  refine QV rfl (aMY hF (fun(a80,a81)=>[(0,cO (8600,0)),(1,cI p1),(2,.c (.fn 141 [])),(6,cI a81)]) (fun(a80,a81)=>[((8600,0),.arr 220 9 (List.map aK a80))]) sw ?_)
  rintro⟨a80,a81⟩ x_0 hF cont_0 fin_0
  unfold nK at hF
  refine az (wA rfl (wIf hF rfl (fun _ hF=>?_) fun _ hF=>?_))
  ·refine aJ (c7 (wA rfl (az (eZ (fun _ _ h=>h) hF (id) (fun(a95,a96,a97)=>[(0,cO (8600,0)),(1,cI p1),(2,.c (.fn 141 [])),(6,cI a81),(7,cI a96),(8,cI a97)]) (fun(a95,a96,a97)=>[((8600,0),.arr 220 9 (List.map aK a95))]) (fun(e100,e101)=>[(0,cO (8600,0)),(1,cI p1),(2,.c (.fn 141 [])),(6,cI a81),(7,cI e101)]) (fun(e100,e101)=>[((8600,0),.arr 220 9 (List.map aK e100))]) sw ?_ ?_))))
   ·rintro⟨e100,e101⟩ hF
    refine az (wA rfl (wA rfl (cW (fun _ _ h=>h) hF (fun v102=>[(0,cO (8600,0)),(1,cI p1),(2,.c (.fn 141 [])),(6,cI a81)]) (fun v102=>[((8600,0),.arr 220 9 (List.map aK v102))]) ?_ ?_)))
    ·rintro v102 hF
     exact wB rfl (cont_0 _ _ _ (oi hF) sw)
    intro join hF
    refine wX hF rfl (fun _ hF=>?_) fun _ hF=>?_
    ·refine wD 5 rfl ?_;obtain⟨r103,hr103,hF⟩:=bB' hF
     refine jj trivial (oz [((9960,0),(8600,0))] rfl (AY _) (sX _ _ _ _ _ hr103) ⟨rfl,trivial⟩ ⟨.inl rfl,.inl rfl,.inl rfl,.inl rfl,.inl rfl,trivial⟩ rfl rfl rfl ?_)
     exact QV rfl (join r103 _ _ hF sw)
    exact aJ (join e100 _ _ hF sw)
   rintro⟨a95,a96,a97⟩ x_1 hF cont_1 brk_1 fin_1
   unfold i4 at hF
   refine az (wA rfl (wIf hF rfl (fun _ hF=>?_) fun _ hF=>?_))
   ·refine aJ (c7 (wC 7 rfl ?_));obtain⟨r105,hr105,hF⟩:=bB hF
    refine jj trivial (oz [((9960,0),(8600,0))] rfl (AY _) (sX _ _ _ _ _ hr105) ⟨rfl,trivial⟩ ⟨.inl rfl,.inl rfl,.inl rfl,.inl rfl,.inl rfl,trivial⟩ rfl rfl rfl ?_)
    exact QV rfl (wA rfl (wB rfl (cont_1 _ _ _ (oi hF) sw)))
   exact dK (aq (aq (bj (brk_1 _ _ _ (oi hF) sw))))
  refine dK (aq (aq (bj ?_)));have hF:=fin_0 _ (oi hF);cases hF
  exact⟨_,_,fq,_,rfl,rfl,trivial,(AgM.weak ⟨rfl,trivial⟩)⟩
 rintro⟨a14,a15,a16⟩ x_0 hF cont_0 brk_0 fin_0
 unfold kz at hF
 refine az (wA rfl (wIf hF rfl (fun _ hF=>?_) fun _ hF=>?_))
 ·refine aJ (c7 (wC 4 rfl ?_));obtain⟨r108,hr108,hF⟩:=bB hF
  refine jj trivial (oz [((9920,0),(8600,0))] rfl (AY _) (pZ _ _ _ _ hr108) ⟨rfl,trivial⟩ ⟨.inl rfl,.inl rfl,.inl rfl,.inl rfl,trivial⟩ rfl rfl rfl ?_)
  exact QV rfl (wA rfl (wB rfl (cont_0 _ _ _ (oi hF) sw)))
 exact dK (aq (aq (bj (brk_0 _ _ _ (oi hF) sw))))
def d9(p0:(List aX)):Option (List aX) :=
  ((jZ p0 (List.length p0:Int)).bind fun r1=>some r1)
theorem wZ(p0:(List aX))(r:(List aX))(hF:d9 p0=some r):Fun Tryz.prog 140 false [(6600,0)] [cO (6600,0),.c (.fn 141 [])] (aV [((6600,0),.arr 220 9 (List.map aK p0))]) (.tup []) (aV [((6600,0),.arr 220 9 (List.map aK r))]):=by
 refine fM [(6600,0)] (some [(6600,0)]) Tryz.func140 ?_
 unfold d9 at hF
 refine wD 2 rfl (rS (d0 (tc:=aK) p0 (.own _ _ rfl) (aQ SV 1 rfl ?_)));obtain⟨r1,hr1,hF⟩:=bB hF
 refine jj trivial (oz [((8600,0),(6600,0))] rfl (AY _) (D9 _ _ _ hr1) ⟨rfl,trivial⟩ ⟨.inl rfl,.inl rfl,.inl rfl,trivial⟩ rfl rfl rfl ?_);refine QV rfl ?_
 cases hF
 exact⟨_,_,fq,_,rfl,rfl,trivial,(AgM.weak ⟨rfl,trivial⟩)⟩
def l4(r34:(List aX))(e49:(List (Int×Int))):((List aY)×Int)→Option (((List aY)×Int) ⊕ (List aY)):=fun(a69,a70) =>
  (bif (decide (a70<(List.length r34:Int)))then((idx r34 a70).bind fun y81=>(((bif (decide (0≤(Option.getD (xZ y81.z4.z1 e49) 0)))then((idx a69 (Option.getD (xZ y81.z4.z1 e49) 0)).bind fun y85=>((idx a69 (Option.getD (xZ y81.z4.z1 e49) 0)).bind fun y86=>((idx a69 (Option.getD (xZ y81.z4.z1 e49) 0)).bind fun y87=>some ((List.set a69 (Int.toNat (Option.getD (xZ y81.z4.z1 e49) 0)) ({q6:=y87.q6,z1:=y87.z1,z9:=y87.z9,q8:=y87.q8,q5:=y87.q5,j9:=(w64 (y86.j9-(w64 (y81.z4.q5.q9-y81.z4.q5.q0)))),v8:=y87.v8}:aY)),(w64 (y85.z9+1))))))else some (a69,0)):Option ((List aY)×Int)).bind fun(v82,v83)=>(bif Ej 72 (List.length v82+List.length [({q6:=y81.z4.q6,z1:=(Option.getD (xZ y81.z4.z1 e49) 0),z9:=v83,q8:=y81.z4.q8,q5:=y81.z4.q5,j9:=(w64 (y81.z4.q5.q9-y81.z4.q5.q0)),v8:=y81.z4.v8}:aY)])then some (.inl ((v82++[({q6:=y81.z4.q6,z1:=(Option.getD (xZ y81.z4.z1 e49) 0),z9:=v83,q8:=y81.z4.q8,q5:=y81.z4.q5,j9:=(w64 (y81.z4.q5.q9-y81.z4.q5.q0)),v8:=y81.z4.v8}:aY)]),(w64 (a70+1))))else none)))else some (.inr a69))
def CQ(r34:(List aX)):((List (Int×Int))×Int)→Option (((List (Int×Int))×Int) ⊕ (List (Int×Int))):=fun(a45,a46) =>
  (bif (decide (a46<(List.length r34:Int)))then((idx r34 a46).bind fun y90=>some (.inl ((alj y90.fold a46 a45),(w64 (a46+1)))))else some (.inr a45))
def x9(p0:(List aY))(p1:aZ):((List aX)×Int)→Option (((List aX)×Int) ⊕ (List aX)):=fun(a23,a24) =>
  (bif (decide (a24<(List.length p0:Int)))then((((idx p0 a24).bind fun y93=>((nY y93.q5 p1).bind fun r94=>(bif r94.2.1 then(((bif y93.v8 then some true else some r94.2.2):Option Bool).bind fun v95=>(bif Ej 80 (List.length a23+List.length [({z4:=({q6:=y93.q6,z1:=y93.z1,z9:=y93.z9,q8:=y93.q8,q5:=r94.1,j9:=y93.j9,v8:=v95}:aY),fold:=a24}:aX)])then some (a23++[({z4:=({q6:=y93.q6,z1:=y93.z1,z9:=y93.z9,q8:=y93.q8,q5:=r94.1,j9:=y93.j9,v8:=v95}:aY),fold:=a24}:aX)])else none))else some a23))):Option (List aX)).bind fun v92=>some (.inl (v92,(w64 (a24+1)))))else some (.inr a23))
def Dz(p0:(List aY))(p1:aZ):Option (List aY) :=
  ((loop (x9 p0 p1) ([],0)).bind fun e33=>((d9 e33).bind fun r34=>((loop (CQ r34) ((alj (-1) (-1) []),0)).bind fun e49=>((loop (l4 r34 e49) ([],0)).bind fun e80=>some e80))))
theorem Uz(p0:(List aY))(p1:aZ)(r:(List aY))(hF:Dz p0 p1=some r):Fun Tryz.prog 41 false [] [cL 8 aj p0,.agg [jI p1.q0,jI p1.q9]] (aV []) (cO (902,1640)) (aV [((902,1640),.arr 67 8 (List.map aj r))]):=by
 refine fM [] (some []) Tryz.func41 ?_
 unfold Dz at hF
 refine wA rfl (wA rfl (az (wC 1 rfl (rS (d0 (tc:=aj) p0 .tree (QV rfl (eZ (fun _ _ h=>h) hF (id) (fun(a23,a24)=>[(3,cP (3,0) 0),(5,cO (47,1)),(18,cL 8 aj p0),(19,cI (List.length p0:Int)),(20,cI a24)]) (fun(a23,a24)=>[((3,0),.box [jI p1.q0,jI p1.q9]),((47,1),.arr 220 9 (List.map aK a23))]) (fun e33=>[(5,cO (47,1))]) (fun e33=>[((47,1),.arr 220 9 (List.map aK e33))]) (Nq 5 (47,1) 220 9 rfl rfl rfl rfl sw) ?_ ?_)))))))
 ·rintro e33 hF
  refine wC 1 rfl ?_;obtain⟨r34,hr34,hF⟩:=bB hF
  refine jj trivial (oz [((6600,0),(47,1))] rfl (AY _) (wZ _ _ hr34) ⟨rfl,trivial⟩ ⟨.inl rfl,.inl rfl,trivial⟩ rfl rfl rfl ?_);refine QV rfl (wE (rS (aQZ (kd:=(.int .i64)) (kv:=kvI) (vv:=(fun y:Int=>(.one (tI y):MT))) rfl (rS (aMX (anj .i64) (vv:=(fun y:Int=>(.one (tI y):MT))) [] (-1) (-1) rfl rfl rfl rfl (QV rfl (az (wC 1 rfl (rS (d0 (tc:=aK) r34 (.own _ _ rfl) (QV rfl (eZ (fun _ _ h=>h) hF (id) (fun(a45,a46)=>[(5,cO (47,1)),(11,cM (51,0)),(53,cO (47,1)),(54,cI (List.length r34:Int)),(55,cI a46)]) (fun(a45,a46)=>[((47,1),.arr 220 9 (List.map aK r34)),((51,0),sW (.int .i64) kvI (fun y:Int=>(.one (tI y):MT)) a45)]) (fun e49=>[(5,cO (47,1)),(11,cM (51,0))]) (fun e49=>[((47,1),.arr 220 9 (List.map aK r34)),((51,0),sW (.int .i64) kvI (fun y:Int=>(.one (tI y):MT)) e49)]) sw ?_ ?_))))))))))))
  ·rintro e49 hF
   refine wA rfl (az (wC 1 rfl (rS (d0 (tc:=aK) r34 (.own _ _ rfl) (QV rfl (eZ (fun _ _ h=>h) hF (id) (fun(a69,a70)=>[(11,cM (51,0)),(14,cO (112,1)),(65,cO (47,1)),(66,cI (List.length r34:Int)),(67,cI a70)]) (fun(a69,a70)=>[((51,0),sW (.int .i64) kvI (fun y:Int=>(.one (tI y):MT)) e49),((112,1),.arr 67 8 (List.map aj a69)),((47,1),.arr 220 9 (List.map aK r34))]) (fun e80=>[(14,cO (112,1))]) (fun e80=>[((112,1),.arr 67 8 (List.map aj e80))]) (Nq 14 (112,1) 67 8 rfl rfl rfl rfl sw) ?_ ?_))))))
   ·rintro e80 hF
    refine wA rfl ?_;cases hF
    exact bQ ⟨_,_,(xz (112,1) (902,1640) rfl rfl fq),_,rfl,rfl,rfl,(AgM.weak ⟨rfl,trivial⟩)⟩
   rintro⟨a69,a70⟩ x_0 hF cont_0 brk_0 fin_0
   unfold l4 at hF
   refine wA rfl (az (wIf hF rfl (fun _ hF=>?_) fun _ hF=>?_))
   ·refine aJ (az (c7 (wE ?_)));obtain⟨y81,hy81,hF⟩:=bB hF
    refine rS (pW (tc:=aK) r34 rfl rfl rfl hy81 (rS (zW (tc:=aK) r34 rfl rfl (iK hy81).2.1 rfl (QV rfl (wA rfl (wC 3 rfl (rS (beV (anj .i64) (vv:=(fun y:Int=>(.one (tI y):MT))) e49 y81.z4.z1 0 (.own _ rfl) rfl rfl (QV rfl (az (wA rfl (cW (fun _ _ h=>h) hF (fun(v82,v83)=>[(11,cM (51,0)),(14,cO (112,1)),(17,cP (17,0) 0),(65,cO (47,1)),(66,cI (List.length r34:Int)),(67,cI a70)]) (fun(v82,v83)=>[((51,0),sW (.int .i64) kvI (fun y:Int=>(.one (tI y):MT)) e49),((112,1),.arr 67 8 (List.map aj v82)),((17,0),.box [jI y81.z4.q6,jI (Option.getD (xZ y81.z4.z1 e49) 0),jI v83,jS y81.z4.q8,jI y81.z4.q5.q0,jI y81.z4.q5.q9,jI (w64 (y81.z4.q5.q9-y81.z4.q5.q0)),jB y81.z4.v8]),((47,1),.arr 220 9 (List.map aK r34))]) ?_ ?_))))))))))))
    ·rintro⟨v82,v83⟩ hF
     refine wD 2 rfl ?_;refine rS (E5 (tc:=aj) [({q6:=y81.z4.q6,z1:=(Option.getD (xZ y81.z4.z1 e49) 0),z9:=v83,q8:=y81.z4.q8,q5:=y81.z4.q5,j9:=(w64 (y81.z4.q5.q9-y81.z4.q5.q0)),v8:=y81.z4.v8}:aY)] rfl ⟨rfl,rfl,rfl,rfl,rfl,rfl,rfl,rfl,trivial⟩ rfl (fun _=>rfl) rfl ?_)
     obtain⟨h84,hF⟩:=a0K hF
     exact rS (BK (tc:=aj) v82 [({q6:=y81.z4.q6,z1:=(Option.getD (xZ y81.z4.z1 e49) 0),z9:=v83,q8:=y81.z4.q8,q5:=y81.z4.q5,j9:=(w64 (y81.z4.q5.q9-y81.z4.q5.q0)),v8:=y81.z4.v8}:aY)] rfl rfl (.own _ _ rfl) h84 rfl (QV rfl (wB rfl (cont_0 _ _ _ (oi hF) (xz (112,0) (112,1) rfl rfl sw)))))
    intro join hF
    refine wX hF rfl (fun _ hF=>?_) fun _ hF=>?_
    ·refine wC 3 rfl ?_;obtain⟨y85,hy85,hF⟩:=bB' hF
     refine rS (pW (tc:=aj) a69 rfl rfl rfl hy85 (aQ SV 1 rfl (rS (zW (tc:=aj) a69 rfl rfl (iK hy85).2.1 rfl (QV rfl (f7 (by decide) (by kernel_rfl) rfl (aQ SP 3 rfl ?_)))))));obtain⟨y86,hy86,hF⟩:=bB' hF
     refine aW SP trivial (pW (tc:=aj) a69 rfl rfl rfl hy86 (aQ SP 1 rfl (aW SP trivial (zW (tc:=aj) a69 rfl rfl (iK hy86).2.1 rfl (aQ SP 3 rfl ?_)))))
     obtain⟨y87,hy87,hF⟩:=bB' hF
     exact aW SP trivial (pW (tc:=aj) a69 rfl rfl rfl hy87 (aQ SP 1 rfl (aW SP trivial (OX (tc:=aj) a69 ({q6:=y87.q6,z1:=y87.z1,z9:=y87.z9,q8:=y87.q8,q5:=y87.q5,j9:=(w64 (y86.j9-(w64 (y81.z4.q5.q9-y81.z4.q5.q0)))),v8:=y87.v8}:aY) rfl rfl (iK hy87).2.1 rfl rfl rfl rfl rfl (QP rfl (join ((List.set a69 (Int.toNat (Option.getD (xZ y81.z4.z1 e49) 0)) ({q6:=y87.q6,z1:=y87.z1,z9:=y87.z9,q8:=y87.q8,q5:=y87.q5,j9:=(w64 (y86.j9-(w64 (y81.z4.q5.q9-y81.z4.q5.q0)))),v8:=y87.v8}:aY)),(w64 (y85.z9+1))) _ _ hF sw))))))
    exact aJ (join (a69,0) _ _ hF sw)
   exact dK (aq (aq (bj (brk_0 _ _ _ (oi hF) sw))))
  rintro⟨a45,a46⟩ x_0 hF cont_0 brk_0 fin_0
  unfold CQ at hF
  refine wA rfl (az (wIf hF rfl (fun _ hF=>?_) fun _ hF=>?_))
  ·refine aJ (az (c7 (wC 1 rfl ?_)));obtain⟨y90,hy90,hF⟩:=bB hF
   exact rS (pW (tc:=aK) r34 rfl rfl rfl hy90 (rS (zW (tc:=aK) r34 rfl rfl (iK hy90).2.1 rfl (QV rfl (wD 4 rfl (rS (aMX (anj .i64) (vv:=(fun y:Int=>(.one (tI y):MT))) a45 y90.fold a46 rfl rfl rfl rfl (QV rfl (wB rfl (cont_0 _ _ _ (oi hF) sw))))))))))
  exact dK (aq (aq (bj (brk_0 _ _ _ (oi hF) sw))))
 rintro⟨a23,a24⟩ x_0 hF cont_0 brk_0 fin_0
 unfold x9 at hF
 refine wA rfl (az (wIf hF rfl (fun _ hF=>?_) fun _ hF=>?_))
 ·refine aJ (az (cW (fun _ _ h=>h) hF (fun v92=>[(3,cP (3,0) 0),(5,cO (47,1)),(18,cL 8 aj p0),(19,cI (List.length p0:Int)),(20,cI a24)]) (fun v92=>[((3,0),.box [jI p1.q0,jI p1.q9]),((47,1),.arr 220 9 (List.map aK v92))]) ?_ ?_))
  ·rintro v92 hF
   exact wB rfl (cont_0 _ _ _ (oi hF) sw)
  intro join hF
  refine c7 (wC 1 rfl ?_);obtain⟨y93,hy93,hF⟩:=bB' hF
  refine rS (dz (tc:=aj) p0 rfl rfl hy93 (QV rfl (wC 3 rfl ?_)));obtain⟨r94,hr94,hF⟩:=bB' hF
  refine rS (cJ (CV _ _ _ hr94) ⟨⟨rfl,rfl,trivial⟩,⟨rfl,rfl,trivial⟩,trivial⟩ rfl (.inl rfl) (QV rfl (wA rfl (wX hF rfl (fun _ hF=>?_) fun _ hF=>?_))))
  ·refine az ?_;have hF:=bA hF;refine cW (fun _ _ h=>h) hF (fun v95=>[(3,cP (3,0) 0),(5,cO (47,1)),(6,cI a24),(7,cP (7,0) 0),(18,cL 8 aj p0),(19,cI (List.length p0:Int)),(20,cI a24)]) (fun v95=>[((3,0),.box [jI p1.q0,jI p1.q9]),((47,1),.arr 220 9 (List.map aK a23)),((7,0),.box [jI y93.q6,jI y93.z1,jI y93.z9,jS y93.q8,jI r94.1.q0,jI r94.1.q9,jI y93.j9,jB v95])]) ?_ ?_
   ·rintro v95 hF
    refine wD 4 rfl ?_;refine rS (E5 (tc:=aK) [({z4:=({q6:=y93.q6,z1:=y93.z1,z9:=y93.z9,q8:=y93.q8,q5:=r94.1,j9:=y93.j9,v8:=v95}:aY),fold:=a24}:aX)] rfl ⟨rfl,rfl,rfl,rfl,rfl,rfl,rfl,rfl,rfl,trivial⟩ rfl (fun _=>rfl) rfl ?_)
    obtain⟨h96,hF⟩:=EW hF
    exact rS (BK (tc:=aK) a23 [({z4:=({q6:=y93.q6,z1:=y93.z1,z9:=y93.z9,q8:=y93.q8,q5:=r94.1,j9:=y93.j9,v8:=v95}:aY),fold:=a24}:aX)] rfl rfl (.own _ _ rfl) h96 rfl (QV rfl (join (a23++[({z4:=({q6:=y93.q6,z1:=y93.z1,z9:=y93.z9,q8:=y93.q8,q5:=r94.1,j9:=y93.j9,v8:=v95}:aY),fold:=a24}:aX)]) _ _ hF (xz (47,0) (47,1) rfl rfl sw))))
   intro join hF
   refine wD 4 rfl ?_;cases h97:y93.v8
   ·have hF:=bF' h97 hF;exact QV rfl (join r94.2.2 _ _ hF (P5 (by repeat' first | constructor | (rw[h97];rfl)) (by repeat' first | constructor | (rw[h97];rfl))))
   have hF:=bT' h97 hF;exact QV rfl (join true _ _ hF (P5 (by repeat' first | constructor | (rw[h97];rfl)) (by repeat' first | constructor | (rw[h97];rfl))))
  exact aJ (join a23 _ _ hF sw)
 exact dK (aq (aq (bj (brk_0 _ _ _ (oi hF) sw))))
def nX(p0:(List cZ))(p1:aZ):((List cZ)×Int)→Option (((List cZ)×Int) ⊕ (List cZ)):=fun(a23,a24) =>
  (bif (decide (a24<(List.length p0:Int)))then((((idx p0 a24).bind fun y35=>((nY y35.q5 p1).bind fun r36=>(bif (!r36.2.1)then some a23 else(((bif r36.2.2 then some (-1)else some y35.x6):Option Int).bind fun v37=>(bif Ej 56 (List.length a23+List.length [({q6:=y35.q6,j3:=y35.j3,q5:=r36.1,w9:=y35.w9,x5:=y35.x5,x6:=v37}:cZ)])then some (a23++[({q6:=y35.q6,j3:=y35.j3,q5:=r36.1,w9:=y35.w9,x5:=y35.x5,x6:=v37}:cZ)])else none))))):Option (List cZ)).bind fun v34=>some (.inl (v34,(w64 (a24+1)))))else some (.inr a23))
def zX(p0:(List cZ))(p1:aZ):Option (List cZ) :=
  ((loop (nX p0 p1) ([],0)).bind fun e33=>some e33)
theorem UZ(p0:(List cZ))(p1:aZ)(r:(List cZ))(hF:zX p0 p1=some r):Fun Tryz.prog 42 false [] [cL 7 bz p0,.agg [jI p1.q0,jI p1.q9]] (aV []) (cO (902,1680)) (aV [((902,1680),.arr 107 7 (List.map bz r))]):=by
 refine fM [] (some []) Tryz.func42 ?_
 unfold zX at hF
 refine wA rfl (wA rfl (az (wC 1 rfl (rS (d0 (tc:=bz) p0 .tree (QV rfl (eZ (fun _ _ h=>h) hF (id) (fun(a23,a24)=>[(3,cP (3,0) 0),(5,cO (34,1)),(11,cL 7 bz p0),(12,cI (List.length p0:Int)),(13,cI a24)]) (fun(a23,a24)=>[((3,0),.box [jI p1.q0,jI p1.q9]),((34,1),.arr 107 7 (List.map bz a23))]) (fun e33=>[(5,cO (34,1))]) (fun e33=>[((34,1),.arr 107 7 (List.map bz e33))]) (Nq 5 (34,1) 107 7 rfl rfl rfl rfl sw) ?_ ?_)))))))
 ·rintro e33 hF
  refine wA rfl ?_;cases hF
  exact bQ ⟨_,_,(xz (34,1) (902,1680) rfl rfl fq),_,rfl,rfl,rfl,(AgM.weak ⟨rfl,trivial⟩)⟩
 rintro⟨a23,a24⟩ x_0 hF cont_0 brk_0 fin_0
 unfold nX at hF
 refine wA rfl (az (wIf hF rfl (fun _ hF=>?_) fun _ hF=>?_))
 ·refine aJ (az (cW (fun _ _ h=>h) hF (fun v34=>[(3,cP (3,0) 0),(5,cO (34,1)),(11,cL 7 bz p0),(12,cI (List.length p0:Int)),(13,cI a24)]) (fun v34=>[((3,0),.box [jI p1.q0,jI p1.q9]),((34,1),.arr 107 7 (List.map bz v34))]) ?_ ?_))
  ·rintro v34 hF
   exact wB rfl (cont_0 _ _ _ (oi hF) sw)
  intro join hF
  refine c7 (wE ?_);obtain⟨y35,hy35,hF⟩:=bB' hF
  refine rS (dz (tc:=bz) p0 rfl rfl hy35 (QV rfl (wC 3 rfl ?_)));obtain⟨r36,hr36,hF⟩:=bB' hF
  refine rS (cJ (CV _ _ _ hr36) ⟨⟨rfl,rfl,trivial⟩,⟨rfl,rfl,trivial⟩,trivial⟩ rfl (.inl rfl) (QV rfl (az (wA rfl (wX hF rfl (fun _ hF=>?_) fun _ hF=>?_)))))
  ·exact dK (aq (bj (join a23 _ _ hF sw)))
  refine aJ (wA rfl (az (wA rfl ?_)));have hF:=bA hF;refine cW (fun _ _ h=>h) hF (fun v37=>[(3,cP (3,0) 0),(5,cO (34,1)),(7,cP (7,0) 0),(11,cL 7 bz p0),(12,cI (List.length p0:Int)),(13,cI a24)]) (fun v37=>[((3,0),.box [jI p1.q0,jI p1.q9]),((34,1),.arr 107 7 (List.map bz a23)),((7,0),.box [jI y35.q6,jI y35.j3,jI r36.1.q0,jI r36.1.q9,jI y35.w9,jI y35.x5,jI v37])]) ?_ ?_
  ·rintro v37 hF
   refine wD 2 rfl ?_;refine rS (E5 (tc:=bz) [({q6:=y35.q6,j3:=y35.j3,q5:=r36.1,w9:=y35.w9,x5:=y35.x5,x6:=v37}:cZ)] rfl ⟨rfl,rfl,rfl,rfl,rfl,rfl,rfl,trivial⟩ rfl (fun _=>rfl) rfl ?_)
   obtain⟨h38,hF⟩:=EW hF
   exact rS (BK (tc:=bz) a23 [({q6:=y35.q6,j3:=y35.j3,q5:=r36.1,w9:=y35.w9,x5:=y35.x5,x6:=v37}:cZ)] rfl rfl (.own _ _ rfl) h38 rfl (QV rfl (join (a23++[({q6:=y35.q6,j3:=y35.j3,q5:=r36.1,w9:=y35.w9,x5:=y35.x5,x6:=v37}:cZ)]) _ _ hF (xz (34,0) (34,1) rfl rfl sw))))
  intro join hF
  refine wX hF rfl (fun _ hF=>?_) fun _ hF=>?_
  ·exact wB rfl (join (-1) _ _ hF sw)
  exact aJ (join y35.x6 _ _ hF sw)
 exact dK (aq (aq (bj (brk_0 _ _ _ (oi hF) sw))))
def rj(p0:(List d3))(p1:aZ):((List d3)×Int)→Option (((List d3)×Int) ⊕ (List d3)):=fun(a25,a26) =>
  (bif (decide (a26<(List.length p0:Int)))then((((idx p0 a26).bind fun y38=>((((l3 p1 y38.w7).bind fun r42=>(bif r42 then((l3 p1 y38.w4).bind fun r44=>some r44)else some false)):Option Bool).bind fun v39=>(bif v39 then(bif Ej 56 (List.length a25+List.length [({w5:=y38.w5,q0:=y38.q0,q9:=y38.q9,w7:=(w64 (y38.w7-p1.q0)),w4:=(w64 (y38.w4-p1.q0))}:d3)])then some (a25++[({w5:=y38.w5,q0:=y38.q0,q9:=y38.q9,w7:=(w64 (y38.w7-p1.q0)),w4:=(w64 (y38.w4-p1.q0))}:d3)])else none)else some a25))):Option (List d3)).bind fun v37=>some (.inl (v37,(w64 (a26+1)))))else some (.inr a25))
def B4(p0:(List d3))(p1:aZ):Option (List d3) :=
  ((loop (rj p0 p1) ([],0)).bind fun e36=>some e36)
theorem WY(p0:(List d3))(p1:aZ)(r:(List d3))(hF:B4 p0 p1=some r):Fun Tryz.prog 43 false [] [cL 7 cz p0,.agg [jI p1.q0,jI p1.q9]] (aV []) (cO (902,1720)) (aV [((902,1720),.arr 90 7 (List.map cz r))]):=by
 refine fM [] (some []) Tryz.func43 ?_
 unfold B4 at hF
 refine wA rfl (wA rfl (az (wC 1 rfl (rS (d0 (tc:=cz) p0 .tree (QV rfl (eZ (fun _ _ h=>h) hF (id) (fun(a25,a26)=>[(3,cP (3,0) 0),(5,cO (39,1)),(8,cL 7 cz p0),(9,cI (List.length p0:Int)),(10,cI a26)]) (fun(a25,a26)=>[((3,0),.box [jI p1.q0,jI p1.q9]),((39,1),.arr 90 7 (List.map cz a25))]) (fun e36=>[(5,cO (39,1))]) (fun e36=>[((39,1),.arr 90 7 (List.map cz e36))]) (Nq 5 (39,1) 90 7 rfl rfl rfl rfl sw) ?_ ?_)))))))
 ·rintro e36 hF
  refine wA rfl ?_;cases hF
  exact bQ ⟨_,_,(xz (39,1) (902,1720) rfl rfl fq),_,rfl,rfl,rfl,(AgM.weak ⟨rfl,trivial⟩)⟩
 rintro⟨a25,a26⟩ x_0 hF cont_0 brk_0 fin_0
 unfold rj at hF
 refine wA rfl (az (wIf hF rfl (fun _ hF=>?_) fun _ hF=>?_))
 ·refine aJ (az (cW (fun _ _ h=>h) hF (fun v37=>[(3,cP (3,0) 0),(5,cO (39,1)),(8,cL 7 cz p0),(9,cI (List.length p0:Int)),(10,cI a26)]) (fun v37=>[((3,0),.box [jI p1.q0,jI p1.q9]),((39,1),.arr 90 7 (List.map cz v37))]) ?_ ?_))
  ·rintro v37 hF
   exact wB rfl (cont_0 _ _ _ (oi hF) sw)
  intro join hF
  refine c7 (wE ?_);obtain⟨y38,hy38,hF⟩:=bB' hF
  refine rS (dz (tc:=cz) p0 rfl rfl hy38 (QV rfl (az ?_)));have hF:=bA hF;refine cW (fun _ _ h=>h) hF (fun v39=>[(3,cP (3,0) 0),(5,cO (39,1)),(7,cP (7,0) 0),(8,cL 7 cz p0),(9,cI (List.length p0:Int)),(10,cI a26),(23,cB v39)]) (fun v39=>[((3,0),.box [jI p1.q0,jI p1.q9]),((39,1),.arr 90 7 (List.map cz a25)),((7,0),.box (G8 y38))]) ?_ ?_
  ·rintro v39 hF
   refine wX hF rfl (fun _ hF=>?_) fun _ hF=>?_
   ·refine wA rfl (wA rfl (wD 2 rfl ?_));refine rS (E5 (tc:=cz) [({w5:=y38.w5,q0:=y38.q0,q9:=y38.q9,w7:=(w64 (y38.w7-p1.q0)),w4:=(w64 (y38.w4-p1.q0))}:d3)] rfl ⟨rfl,rfl,rfl,rfl,rfl,rfl,rfl,trivial⟩ rfl (fun _=>rfl) rfl ?_)
    obtain⟨h40,hF⟩:=EW hF
    exact rS (BK (tc:=cz) a25 [({w5:=y38.w5,q0:=y38.q0,q9:=y38.q9,w7:=(w64 (y38.w7-p1.q0)),w4:=(w64 (y38.w4-p1.q0))}:d3)] rfl rfl (.own _ _ rfl) h40 rfl (QV rfl (join (a25++[({w5:=y38.w5,q0:=y38.q0,q9:=y38.q9,w7:=(w64 (y38.w7-p1.q0)),w4:=(w64 (y38.w4-p1.q0))}:d3)]) _ _ hF (xz (39,0) (39,1) rfl rfl sw))))
   exact aJ (join a25 _ _ hF sw)
  intro join hF
  refine wD 3 rfl ?_;obtain⟨r42,hr42,hF⟩:=bB' hF
  refine rS (cJ (tZ _ _ _ hr42) ⟨⟨rfl,rfl,trivial⟩,rfl,trivial⟩ rfl (.inl rfl) (aQ SV 1 rfl ?_));cases h43:r42
  ·have hF:=bF' h43 hF;exact QV rfl (join false _ _ hF sw)
  have hF:=bT' h43 hF;refine aQ SV 3 rfl ?_;obtain⟨r44,hr44,hF⟩:=bB' hF
  exact aW SV rfl (cJ (tZ _ _ _ hr44) ⟨⟨rfl,rfl,trivial⟩,rfl,trivial⟩ rfl (.inl rfl) (QV rfl (join r44 _ _ hF sw)))
 exact dK (aq (aq (bj (brk_0 _ _ _ (oi hF) sw))))
def o6(p0:(List cY))(p1:aZ):((List cY)×Int)→Option (((List cY)×Int) ⊕ (List cY)):=fun(a19,a20) =>
  (bif (decide (a20<(List.length p0:Int)))then((((idx p0 a20).bind fun y29=>((l3 p1 y29.j8).bind fun r30=>(bif r30 then(bif Ej 48 (List.length a19+List.length [({q6:=y29.q6,j8:=(w64 (y29.j8-p1.q0)),j5:=y29.j5,z7:=y29.z7}:cY)])then some (a19++[({q6:=y29.q6,j8:=(w64 (y29.j8-p1.q0)),j5:=y29.j5,z7:=y29.z7}:cY)])else none)else some a19))):Option (List cY)).bind fun v28=>some (.inl (v28,(w64 (a20+1)))))else some (.inr a19))
def xX(p0:(List cY))(p1:aZ):Option (List cY) :=
  ((loop (o6 p0 p1) ([],0)).bind fun e27=>some e27)
theorem S4(p0:(List cY))(p1:aZ)(r:(List cY))(hF:xX p0 p1=some r):Fun Tryz.prog 44 false [] [cL 4 b9 p0,.agg [jI p1.q0,jI p1.q9]] (aV []) (cO (902,1760)) (aV [((902,1760),.arr 92 4 (List.map b9 r))]):=by
 refine fM [] (some []) Tryz.func44 ?_
 unfold xX at hF
 refine wA rfl (wA rfl (az (wC 1 rfl (rS (d0 (tc:=b9) p0 .tree (QV rfl (eZ (fun _ _ h=>h) hF (id) (fun(a19,a20)=>[(3,cP (3,0) 0),(5,cO (27,1)),(8,cL 4 b9 p0),(9,cI (List.length p0:Int)),(10,cI a20)]) (fun(a19,a20)=>[((3,0),.box [jI p1.q0,jI p1.q9]),((27,1),.arr 92 4 (List.map b9 a19))]) (fun e27=>[(5,cO (27,1))]) (fun e27=>[((27,1),.arr 92 4 (List.map b9 e27))]) (Nq 5 (27,1) 92 4 rfl rfl rfl rfl sw) ?_ ?_)))))))
 ·rintro e27 hF
  refine wA rfl ?_;cases hF
  exact bQ ⟨_,_,(xz (27,1) (902,1760) rfl rfl fq),_,rfl,rfl,rfl,(AgM.weak ⟨rfl,trivial⟩)⟩
 rintro⟨a19,a20⟩ x_0 hF cont_0 brk_0 fin_0
 unfold o6 at hF
 refine wA rfl (az (wIf hF rfl (fun _ hF=>?_) fun _ hF=>?_))
 ·refine aJ (az (cW (fun _ _ h=>h) hF (fun v28=>[(3,cP (3,0) 0),(5,cO (27,1)),(8,cL 4 b9 p0),(9,cI (List.length p0:Int)),(10,cI a20)]) (fun v28=>[((3,0),.box [jI p1.q0,jI p1.q9]),((27,1),.arr 92 4 (List.map b9 v28))]) ?_ ?_))
  ·rintro v28 hF
   exact wB rfl (cont_0 _ _ _ (oi hF) sw)
  intro join hF
  refine c7 (wE ?_);obtain⟨y29,hy29,hF⟩:=bB' hF
  refine rS (dz (tc:=b9) p0 rfl rfl hy29 (QV rfl (wC 3 rfl ?_)));obtain⟨r30,hr30,hF⟩:=bB' hF
  refine rS (cJ (tZ _ _ _ hr30) ⟨⟨rfl,rfl,trivial⟩,rfl,trivial⟩ rfl (.inl rfl) (QV rfl (wX hF rfl (fun _ hF=>?_) fun _ hF=>?_)))
  ·refine wA rfl (wD 2 rfl ?_);refine rS (E5 (tc:=b9) [({q6:=y29.q6,j8:=(w64 (y29.j8-p1.q0)),j5:=y29.j5,z7:=y29.z7}:cY)] rfl ⟨rfl,rfl,rfl,rfl,trivial⟩ rfl (fun _=>rfl) rfl ?_)
   obtain⟨h31,hF⟩:=EW hF
   exact rS (BK (tc:=b9) a19 [({q6:=y29.q6,j8:=(w64 (y29.j8-p1.q0)),j5:=y29.j5,z7:=y29.z7}:cY)] rfl rfl (.own _ _ rfl) h31 rfl (QV rfl (join (a19++[({q6:=y29.q6,j8:=(w64 (y29.j8-p1.q0)),j5:=y29.j5,z7:=y29.z7}:cY)]) _ _ hF (xz (27,0) (27,1) rfl rfl sw))))
  exact aJ (join a19 _ _ hF sw)
 exact dK (aq (aq (bj (brk_0 _ _ _ (oi hF) sw))))
def zK(p0:(List cV))(p1:aZ):((List cV)×Int)→Option (((List cV)×Int) ⊕ (List cV)):=fun(a24,a25) =>
  (bif (decide (a25<(List.length p0:Int)))then((((idx p0 a25).bind fun y39=>(bif (decide (p1.q9≤y39.j8))then some a24 else(((bif (decide (0<(List.length a24:Int)))then((idx a24 (w64 ((List.length a24:Int)-1))).bind fun y45=>(bif (decide (y45.q8=y39.q8))then some (decide ((max (w64 (y39.j8-p1.q0)) 0)=0))else some false))else some false):Option Bool).bind fun v40=>(bif v40 then((idx a24 (w64 ((List.length a24:Int)-1))).bind fun y41=>some (List.set a24 (Int.toNat (w64 ((List.length a24:Int)-1))) ({q8:=y39.q8,j8:=(max (w64 (y39.j8-p1.q0)) 0),j2:=y39.j2}:cV)))else(bif Ej 32 (List.length a24+List.length [({q8:=y39.q8,j8:=(max (w64 (y39.j8-p1.q0)) 0),j2:=y39.j2}:cV)])then some (a24++[({q8:=y39.q8,j8:=(max (w64 (y39.j8-p1.q0)) 0),j2:=y39.j2}:cV)])else none))))):Option (List cV)).bind fun v38=>some (.inl (v38,(w64 (a25+1)))))else some (.inr a24))
def EQ(p0:(List cV))(p1:aZ):Option (List cV) :=
  ((loop (zK p0 p1) ([],0)).bind fun e37=>some e37)
theorem WJ(p0:(List cV))(p1:aZ)(r:(List cV))(hF:EQ p0 p1=some r):Fun Tryz.prog 45 false [] [cL 3 bX p0,.agg [jI p1.q0,jI p1.q9]] (aV []) (cO (902,1800)) (aV [((902,1800),.arr 95 3 (List.map bX r))]):=by
 refine fM [] (some []) Tryz.func45 ?_
 unfold EQ at hF
 refine wA rfl (wA rfl (az (wC 1 rfl (rS (d0 (tc:=bX) p0 .tree (QV rfl (eZ (fun _ _ h=>h) hF (id) (fun(a24,a25)=>[(3,cP (3,0) 0),(5,cO (55,1)),(9,cL 3 bX p0),(10,cI (List.length p0:Int)),(11,cI a25)]) (fun(a24,a25)=>[((3,0),.box [jI p1.q0,jI p1.q9]),((55,1),.arr 95 3 (List.map bX a24))]) (fun e37=>[(5,cO (55,1))]) (fun e37=>[((55,1),.arr 95 3 (List.map bX e37))]) (Nq 5 (55,1) 95 3 rfl rfl rfl rfl sw) ?_ ?_)))))))
 ·rintro e37 hF
  refine wA rfl ?_;cases hF
  exact bQ ⟨_,_,(xz (55,1) (902,1800) rfl rfl fq),_,rfl,rfl,rfl,(AgM.weak ⟨rfl,trivial⟩)⟩
 rintro⟨a24,a25⟩ x_0 hF cont_0 brk_0 fin_0
 unfold zK at hF
 refine wA rfl (az (wIf hF rfl (fun _ hF=>?_) fun _ hF=>?_))
 ·refine aJ (az (cW (fun _ _ h=>h) hF (fun v38=>[(3,cP (3,0) 0),(5,cO (55,1)),(9,cL 3 bX p0),(10,cI (List.length p0:Int)),(11,cI a25)]) (fun v38=>[((3,0),.box [jI p1.q0,jI p1.q9]),((55,1),.arr 95 3 (List.map bX v38))]) ?_ ?_))
  ·rintro v38 hF
   exact wB rfl (cont_0 _ _ _ (oi hF) sw)
  intro join hF
  refine c7 (wE ?_);obtain⟨y39,hy39,hF⟩:=bB' hF
  refine rS (dz (tc:=bX) p0 rfl rfl hy39 (QV rfl (az (wA rfl (wX hF rfl (fun _ hF=>?_) fun _ hF=>?_)))))
  ·exact dK (aq (bj (join a24 _ _ hF sw)))
  refine aJ (wA rfl (az (wC 1 rfl (rS (d0 (tc:=bX) a24 (.own _ _ rfl) (QV rfl (az ?_)))))));have hF:=bA hF;refine cW (fun _ _ h=>h) hF (fun v40=>[(3,cP (3,0) 0),(5,cO (55,1)),(7,cP (7,0) 0),(8,cI (List.length a24:Int)),(9,cL 3 bX p0),(10,cI (List.length p0:Int)),(11,cI a25),(46,cB v40)]) (fun v40=>[((3,0),.box [jI p1.q0,jI p1.q9]),((55,1),.arr 95 3 (List.map bX a24)),((7,0),.box [jS y39.q8,jI (max (w64 (y39.j8-p1.q0)) 0),jI y39.j2])]) ?_ ?_
  ·rintro v40 hF
   refine wX hF rfl (fun _ hF=>?_) fun _ hF=>?_
   ·refine wC 4 rfl ?_;obtain⟨y41,hy41,hF⟩:=bB' hF
    exact rS (pW (tc:=bX) a24 rfl rfl rfl hy41 (rS (OX (tc:=bX) a24 ({q8:=y39.q8,j8:=(max (w64 (y39.j8-p1.q0)) 0),j2:=y39.j2}:cV) rfl rfl (iK hy41).2.1 rfl rfl rfl rfl rfl (QV rfl (dK (aq (bj (join (List.set a24 (Int.toNat (w64 ((List.length a24:Int)-1))) ({q8:=y39.q8,j8:=(max (w64 (y39.j8-p1.q0)) 0),j2:=y39.j2}:cV)) _ _ hF sw))))))))
   refine aJ (wD 2 rfl ?_);refine rS (E5 (tc:=bX) [({q8:=y39.q8,j8:=(max (w64 (y39.j8-p1.q0)) 0),j2:=y39.j2}:cV)] rfl ⟨rfl,rfl,rfl,trivial⟩ rfl (fun _=>rfl) rfl ?_)
   obtain⟨h42,hF⟩:=EW hF
   exact rS (BK (tc:=bX) a24 [({q8:=y39.q8,j8:=(max (w64 (y39.j8-p1.q0)) 0),j2:=y39.j2}:cV)] rfl rfl (.own _ _ rfl) h42 rfl (QV rfl (join (a24++[({q8:=y39.q8,j8:=(max (w64 (y39.j8-p1.q0)) 0),j2:=y39.j2}:cV)]) _ _ hF (xz (55,0) (55,1) rfl rfl sw))))
  intro join hF
  refine f7 (by decide) (by kernel_rfl) rfl (aQ SP 3 rfl ?_);cases h44:(decide (0<(List.length a24:Int)))
  ·have hF:=bF' h44 hF;exact QP rfl (join false _ _ hF sw)
  have hF:=bT' h44 hF;refine aQ SP 3 rfl ?_;obtain⟨y45,hy45,hF⟩:=bB' hF
  refine aW SP rfl (pW (tc:=bX) a24 rfl rfl rfl hy45 (aQ SP 1 rfl (aW SP rfl (zW (tc:=bX) a24 rfl rfl (iK hy45).2.1 rfl (aQ SP 5 rfl ?_)))))
  cases h46:(decide (y45.q8=y39.q8))
  ·have hF:=bF' h46 hF;exact QP rfl (join false _ _ hF sw)
  have hF:=bT' h46 hF;exact QP rfl (join (decide ((max (w64 (y39.j8-p1.q0)) 0)=0)) _ _ hF sw)
 exact dK (aq (aq (bj (brk_0 _ _ _ (oi hF) sw))))
def nQ(p0:(List dq))(p1:aZ):((List dq)×Int)→Option (((List dq)×Int) ⊕ (List dq)):=fun(a23,a24) =>
  (bif (decide (a24<(List.length p0:Int)))then((((idx p0 a24).bind fun y35=>((nY y35.q5 p1).bind fun r36=>(bif r36.2.1 then(((bif y35.x4 then some true else some r36.2.2):Option Bool).bind fun v37=>(bif Ej 72 (List.length a23+List.length [({w5:=y35.w5,q6:=y35.q6,w8:=y35.w8,q5:=r36.1,z7:=y35.z7,x4:=v37}:dq)])then some (a23++[({w5:=y35.w5,q6:=y35.q6,w8:=y35.w8,q5:=r36.1,z7:=y35.z7,x4:=v37}:dq)])else none))else some a23))):Option (List dq)).bind fun v34=>some (.inl (v34,(w64 (a24+1)))))else some (.inr a23))
def zQ(p0:(List dq))(p1:aZ):Option (List dq) :=
  ((loop (nQ p0 p1) ([],0)).bind fun e33=>some e33)
theorem UY(p0:(List dq))(p1:aZ)(r:(List dq))(hF:zQ p0 p1=some r):Fun Tryz.prog 46 false [] [cL 7 bJ p0,.agg [jI p1.q0,jI p1.q9]] (aV []) (cO (902,1840)) (aV [((902,1840),.arr 97 7 (List.map bJ r))]):=by
 refine fM [] (some []) Tryz.func46 ?_
 unfold zQ at hF
 refine wA rfl (wA rfl (az (wC 1 rfl (rS (d0 (tc:=bJ) p0 .tree (QV rfl (eZ (fun _ _ h=>h) hF (id) (fun(a23,a24)=>[(3,cP (3,0) 0),(5,cO (37,1)),(11,cL 7 bJ p0),(12,cI (List.length p0:Int)),(13,cI a24)]) (fun(a23,a24)=>[((3,0),.box [jI p1.q0,jI p1.q9]),((37,1),.arr 97 7 (List.map bJ a23))]) (fun e33=>[(5,cO (37,1))]) (fun e33=>[((37,1),.arr 97 7 (List.map bJ e33))]) (Nq 5 (37,1) 97 7 rfl rfl rfl rfl sw) ?_ ?_)))))))
 ·rintro e33 hF
  refine wA rfl ?_;cases hF
  exact bQ ⟨_,_,(xz (37,1) (902,1840) rfl rfl fq),_,rfl,rfl,rfl,(AgM.weak ⟨rfl,trivial⟩)⟩
 rintro⟨a23,a24⟩ x_0 hF cont_0 brk_0 fin_0
 unfold nQ at hF
 refine wA rfl (az (wIf hF rfl (fun _ hF=>?_) fun _ hF=>?_))
 ·refine aJ (az (cW (fun _ _ h=>h) hF (fun v34=>[(3,cP (3,0) 0),(5,cO (37,1)),(11,cL 7 bJ p0),(12,cI (List.length p0:Int)),(13,cI a24)]) (fun v34=>[((3,0),.box [jI p1.q0,jI p1.q9]),((37,1),.arr 97 7 (List.map bJ v34))]) ?_ ?_))
  ·rintro v34 hF
   exact wB rfl (cont_0 _ _ _ (oi hF) sw)
  intro join hF
  refine c7 (wE ?_);obtain⟨y35,hy35,hF⟩:=bB' hF
  refine rS (dz (tc:=bJ) p0 rfl rfl hy35 (QV rfl (wC 3 rfl ?_)));obtain⟨r36,hr36,hF⟩:=bB' hF
  refine rS (cJ (CV _ _ _ hr36) ⟨⟨rfl,rfl,trivial⟩,⟨rfl,rfl,trivial⟩,trivial⟩ rfl (.inl rfl) (QV rfl (wA rfl (wX hF rfl (fun _ hF=>?_) fun _ hF=>?_))))
  ·refine az ?_;have hF:=bA hF;refine cW (fun _ _ h=>h) hF (fun v37=>[(3,cP (3,0) 0),(5,cO (37,1)),(7,cP (7,0) 0),(11,cL 7 bJ p0),(12,cI (List.length p0:Int)),(13,cI a24)]) (fun v37=>[((3,0),.box [jI p1.q0,jI p1.q9]),((37,1),.arr 97 7 (List.map bJ a23)),((7,0),.box [jI y35.w5,jI y35.q6,jI y35.w8,jI r36.1.q0,jI r36.1.q9,jL 1 u7 y35.z7,jB v37])]) ?_ ?_
   ·rintro v37 hF
    refine wD 2 rfl ?_;refine rS (E5 (tc:=bJ) [({w5:=y35.w5,q6:=y35.q6,w8:=y35.w8,q5:=r36.1,z7:=y35.z7,x4:=v37}:dq)] rfl ⟨rfl,rfl,rfl,rfl,rfl,rfl,rfl,trivial⟩ rfl (fun _=>rfl) rfl ?_)
    obtain⟨h38,hF⟩:=EW hF
    exact rS (BK (tc:=bJ) a23 [({w5:=y35.w5,q6:=y35.q6,w8:=y35.w8,q5:=r36.1,z7:=y35.z7,x4:=v37}:dq)] rfl rfl (.own _ _ rfl) h38 rfl (QV rfl (join (a23++[({w5:=y35.w5,q6:=y35.q6,w8:=y35.w8,q5:=r36.1,z7:=y35.z7,x4:=v37}:dq)]) _ _ hF (xz (37,0) (37,1) rfl rfl sw))))
   intro join hF
   refine wD 4 rfl ?_;cases h39:y35.x4
   ·have hF:=bF' h39 hF;exact QV rfl (join r36.2.2 _ _ hF (P5 (by repeat' first | constructor | (rw[h39];rfl)) (by repeat' first | constructor | (rw[h39];rfl))))
   have hF:=bT' h39 hF;exact QV rfl (join true _ _ hF (P5 (by repeat' first | constructor | (rw[h39];rfl)) (by repeat' first | constructor | (rw[h39];rfl))))
  exact aJ (join a23 _ _ hF sw)
 exact dK (aq (aq (bj (brk_0 _ _ _ (oi hF) sw))))
def nz(p0:(List f6))(p1:aZ):((List f6)×Int)→Option (((List f6)×Int) ⊕ (List f6)):=fun(a19,a20) =>
  (bif (decide (a20<(List.length p0:Int)))then((((idx p0 a20).bind fun y29=>((nY y29.q5 p1).bind fun r30=>(bif r30.2.1 then(bif Ej 32 (List.length a19+List.length [({q6:=y29.q6,q5:=r30.1,j6:=y29.j6}:f6)])then some (a19++[({q6:=y29.q6,q5:=r30.1,j6:=y29.j6}:f6)])else none)else some a19))):Option (List f6)).bind fun v28=>some (.inl (v28,(w64 (a20+1)))))else some (.inr a19))
def zj(p0:(List f6))(p1:aZ):Option (List f6) :=
  ((loop (nz p0 p1) ([],0)).bind fun e27=>some e27)
theorem UV(p0:(List f6))(p1:aZ)(r:(List f6))(hF:zj p0 p1=some r):Fun Tryz.prog 47 false [] [cL 4 d7 p0,.agg [jI p1.q0,jI p1.q9]] (aV []) (cO (902,1880)) (aV [((902,1880),.arr 77 4 (List.map d7 r))]):=by
 refine fM [] (some []) Tryz.func47 ?_
 unfold zj at hF
 refine wA rfl (wA rfl (az (wC 1 rfl (rS (d0 (tc:=d7) p0 .tree (QV rfl (eZ (fun _ _ h=>h) hF (id) (fun(a19,a20)=>[(3,cP (3,0) 0),(5,cO (31,1)),(11,cL 4 d7 p0),(12,cI (List.length p0:Int)),(13,cI a20)]) (fun(a19,a20)=>[((3,0),.box [jI p1.q0,jI p1.q9]),((31,1),.arr 77 4 (List.map d7 a19))]) (fun e27=>[(5,cO (31,1))]) (fun e27=>[((31,1),.arr 77 4 (List.map d7 e27))]) (Nq 5 (31,1) 77 4 rfl rfl rfl rfl sw) ?_ ?_)))))))
 ·rintro e27 hF
  refine wA rfl ?_;cases hF
  exact bQ ⟨_,_,(xz (31,1) (902,1880) rfl rfl fq),_,rfl,rfl,rfl,(AgM.weak ⟨rfl,trivial⟩)⟩
 rintro⟨a19,a20⟩ x_0 hF cont_0 brk_0 fin_0
 unfold nz at hF
 refine wA rfl (az (wIf hF rfl (fun _ hF=>?_) fun _ hF=>?_))
 ·refine aJ (az (cW (fun _ _ h=>h) hF (fun v28=>[(3,cP (3,0) 0),(5,cO (31,1)),(11,cL 4 d7 p0),(12,cI (List.length p0:Int)),(13,cI a20)]) (fun v28=>[((3,0),.box [jI p1.q0,jI p1.q9]),((31,1),.arr 77 4 (List.map d7 v28))]) ?_ ?_))
  ·rintro v28 hF
   exact wB rfl (cont_0 _ _ _ (oi hF) sw)
  intro join hF
  refine c7 (wE ?_);obtain⟨y29,hy29,hF⟩:=bB' hF
  refine rS (dz (tc:=d7) p0 rfl rfl hy29 (QV rfl (wC 3 rfl ?_)));obtain⟨r30,hr30,hF⟩:=bB' hF
  refine rS (cJ (CV _ _ _ hr30) ⟨⟨rfl,rfl,trivial⟩,⟨rfl,rfl,trivial⟩,trivial⟩ rfl (.inl rfl) (QV rfl (wA rfl (wX hF rfl (fun _ hF=>?_) fun _ hF=>?_))))
  ·refine wA rfl (wD 2 rfl ?_);refine rS (E5 (tc:=d7) [({q6:=y29.q6,q5:=r30.1,j6:=y29.j6}:f6)] rfl ⟨rfl,rfl,rfl,rfl,trivial⟩ rfl (fun _=>rfl) rfl ?_)
   obtain⟨h31,hF⟩:=EW hF
   exact rS (BK (tc:=d7) a19 [({q6:=y29.q6,q5:=r30.1,j6:=y29.j6}:f6)] rfl rfl (.own _ _ rfl) h31 rfl (QV rfl (join (a19++[({q6:=y29.q6,q5:=r30.1,j6:=y29.j6}:f6)]) _ _ hF (xz (31,0) (31,1) rfl rfl sw))))
  exact aJ (join a19 _ _ hF sw)
 exact dK (aq (aq (bj (brk_0 _ _ _ (oi hF) sw))))
def PW(p0:a0)(p1:aZ):Option (a0×Int) :=
  ((Cz p0).bind fun r1=>(bif (!decide (r1=0))then some (({q5:=({q0:=0,q9:=0}:aZ),q7:=[],z3:=[],z8:=[],z6:=[],z2:=[],j4:=[],z5:=[],j7:=[]}:a0),r1)else((nV p1).bind fun r2=>(bif (!r2)then some (({q5:=({q0:=0,q9:=0}:aZ),q7:=[],z3:=[],z8:=[],z6:=[],z2:=[],j4:=[],z5:=[],j7:=[]}:a0),1)else(bif (decide ((min p1.q9 p0.q5.q9)≤(max p1.q0 p0.q5.q0)))then some (({q5:=({q0:=0,q9:=0}:aZ),q7:=p0.q7,z3:=[],z8:=[],z6:=[],z2:=[],j4:=[],z5:=[],j7:=[]}:a0),0)else((Dz p0.z3 ({q0:=(max p1.q0 p0.q5.q0),q9:=(min p1.q9 p0.q5.q9)}:aZ)).bind fun r3=>((zX p0.z8 ({q0:=(max p1.q0 p0.q5.q0),q9:=(min p1.q9 p0.q5.q9)}:aZ)).bind fun r4=>((B4 p0.z6 ({q0:=(max p1.q0 p0.q5.q0),q9:=(min p1.q9 p0.q5.q9)}:aZ)).bind fun r5=>((xX p0.z2 ({q0:=(max p1.q0 p0.q5.q0),q9:=(min p1.q9 p0.q5.q9)}:aZ)).bind fun r6=>((EQ p0.j4 ({q0:=(max p1.q0 p0.q5.q0),q9:=(min p1.q9 p0.q5.q9)}:aZ)).bind fun r7=>((zQ p0.z5 ({q0:=(max p1.q0 p0.q5.q0),q9:=(min p1.q9 p0.q5.q9)}:aZ)).bind fun r8=>((zj p0.j7 ({q0:=(max p1.q0 p0.q5.q0),q9:=(min p1.q9 p0.q5.q9)}:aZ)).bind fun r9=>some (({q5:=({q0:=0,q9:=(w64 ((min p1.q9 p0.q5.q9)-(max p1.q0 p0.q5.q0)))}:aZ),q7:=p0.q7,z3:=r3,z8:=r4,z6:=r5,z2:=r6,j4:=r7,z5:=r8,j7:=r9}:a0),0)))))))))))))
theorem aqJ(p0:a0)(p1:aZ)(r:(a0×Int))(hF:PW p0 p1=some r):Fun Tryz.prog 14 false [] [.agg (bq p0),.agg [jI p1.q0,jI p1.q9]] (aV []) (.tup [.agg [jI r.1.q5.q0,jI r.1.q5.q9,jL 3 bZ r.1.q7,.slO (902,560),.slO (902,561),.slO (902,562),.slO (902,563),.slO (902,564),.slO (902,565),.slO (902,566)],cI r.2]) (aV [((902,560),.arr 67 8 (List.map aj r.1.z3)),((902,561),.arr 107 7 (List.map bz r.1.z8)),((902,562),.arr 90 7 (List.map cz r.1.z6)),((902,563),.arr 92 4 (List.map b9 r.1.z2)),((902,564),.arr 95 3 (List.map bX r.1.j4)),((902,565),.arr 97 7 (List.map bJ r.1.z5)),((902,566),.arr 77 4 (List.map d7 r.1.j7))]):=by
 refine fM [] (some []) Tryz.func14 ?_
 unfold PW at hF
 refine wA rfl (az (wC 1 rfl ?_));obtain⟨r1,hr1,hF⟩:=bB hF
 refine rS (cJ (Rz _ _ hr1) ⟨⟨rfl,rfl,rfl,rfl,rfl,rfl,rfl,rfl,rfl,rfl,trivial⟩,trivial⟩ rfl (.inl rfl) (QV rfl (wA rfl (wIf hF rfl (fun _ hF=>?_) fun _ hF=>?_))))
 ·refine wA rfl ?_;cases hF
  exact bQ ⟨_,_,(pX (4,0) _ 3 (902,560) 67 8 rfl rfl rfl rfl rfl (pX (4,0) _ 4 (902,561) 107 7 rfl rfl rfl rfl rfl (pX (4,0) _ 5 (902,562) 90 7 rfl rfl rfl rfl rfl (pX (4,0) _ 6 (902,563) 92 4 rfl rfl rfl rfl rfl (pX (4,0) _ 7 (902,564) 95 3 rfl rfl rfl rfl rfl (pX (4,0) _ 8 (902,565) 97 7 rfl rfl rfl rfl rfl (pX (4,0) _ 9 (902,566) 77 4 rfl rfl rfl rfl rfl fq))))))),_,rfl,rfl,⟨⟨⟨rfl,fun _=>rfl⟩,⟨rfl,fun _=>rfl⟩,rfl,rfl,rfl,rfl,rfl,rfl,rfl,rfl,trivial⟩,⟨rfl,fun _=>rfl⟩,trivial⟩,(AgM.weak ⟨rfl,rfl,rfl,rfl,rfl,rfl,rfl,trivial⟩)⟩
 refine aJ (az (wC 1 rfl ?_));obtain⟨r2,hr2,hF⟩:=bB hF
 refine rS (cJ (C8 _ _ hr2) ⟨⟨rfl,rfl,trivial⟩,trivial⟩ rfl (.inl rfl) (QV rfl (wIf hF rfl (fun _ hF=>?_) fun _ hF=>?_)))
 ·refine wA rfl ?_;cases hF
  exact bQ ⟨_,_,(pX (4,0) _ 3 (902,560) 67 8 rfl rfl rfl rfl rfl (pX (4,0) _ 4 (902,561) 107 7 rfl rfl rfl rfl rfl (pX (4,0) _ 5 (902,562) 90 7 rfl rfl rfl rfl rfl (pX (4,0) _ 6 (902,563) 92 4 rfl rfl rfl rfl rfl (pX (4,0) _ 7 (902,564) 95 3 rfl rfl rfl rfl rfl (pX (4,0) _ 8 (902,565) 97 7 rfl rfl rfl rfl rfl (pX (4,0) _ 9 (902,566) 77 4 rfl rfl rfl rfl rfl fq))))))),_,rfl,rfl,⟨⟨⟨rfl,fun _=>rfl⟩,⟨rfl,fun _=>rfl⟩,rfl,rfl,rfl,rfl,rfl,rfl,rfl,rfl,trivial⟩,⟨rfl,fun _=>rfl⟩,trivial⟩,(AgM.weak ⟨rfl,rfl,rfl,rfl,rfl,rfl,rfl,trivial⟩)⟩
 refine aJ (wA rfl (wA rfl (az (wA rfl (wIf hF rfl (fun _ hF=>?_) fun _ hF=>?_)))))
 ·refine wA rfl ?_;cases hF
  exact bQ ⟨_,_,(pX (4,0) _ 3 (902,560) 67 8 rfl rfl rfl rfl rfl (pX (4,0) _ 4 (902,561) 107 7 rfl rfl rfl rfl rfl (pX (4,0) _ 5 (902,562) 90 7 rfl rfl rfl rfl rfl (pX (4,0) _ 6 (902,563) 92 4 rfl rfl rfl rfl rfl (pX (4,0) _ 7 (902,564) 95 3 rfl rfl rfl rfl rfl (pX (4,0) _ 8 (902,565) 97 7 rfl rfl rfl rfl rfl (pX (4,0) _ 9 (902,566) 77 4 rfl rfl rfl rfl rfl fq))))))),_,rfl,rfl,⟨⟨⟨rfl,fun _=>rfl⟩,⟨rfl,fun _=>rfl⟩,⟨rfl,fun h=>(by cases h)⟩,rfl,rfl,rfl,rfl,rfl,rfl,rfl,trivial⟩,⟨rfl,fun _=>rfl⟩,trivial⟩,(AgM.weak ⟨rfl,rfl,rfl,rfl,rfl,rfl,rfl,trivial⟩)⟩
 refine aJ (wA rfl (wC 3 rfl ?_));obtain⟨r3,hr3,hF⟩:=bB hF
 refine jj trivial (oz [((902,1640),(51,1))] rfl (AY _) (Uz _ _ _ hr3) trivial ⟨.inl rfl,.inr ⟨rfl,rfl,trivial⟩,trivial⟩ rfl rfl rfl ?_);refine QV rfl (wC 3 rfl ?_)
 obtain⟨r4,hr4,hF⟩:=bB hF
 refine jj trivial (oz [((902,1680),(56,1))] rfl (AY _) (UZ _ _ _ hr4) trivial ⟨.inl rfl,.inr ⟨rfl,rfl,trivial⟩,trivial⟩ rfl rfl rfl ?_);refine QV rfl (wC 3 rfl ?_)
 obtain⟨r5,hr5,hF⟩:=bB hF
 refine jj trivial (oz [((902,1720),(61,1))] rfl (AY _) (WY _ _ _ hr5) trivial ⟨.inl rfl,.inr ⟨rfl,rfl,trivial⟩,trivial⟩ rfl rfl rfl ?_);refine QV rfl (wC 3 rfl ?_)
 obtain⟨r6,hr6,hF⟩:=bB hF
 refine jj trivial (oz [((902,1760),(66,1))] rfl (AY _) (S4 _ _ _ hr6) trivial ⟨.inl rfl,.inr ⟨rfl,rfl,trivial⟩,trivial⟩ rfl rfl rfl ?_);refine QV rfl (wC 3 rfl ?_)
 obtain⟨r7,hr7,hF⟩:=bB hF
 refine jj trivial (oz [((902,1800),(71,1))] rfl (AY _) (WJ _ _ _ hr7) trivial ⟨.inl rfl,.inr ⟨rfl,rfl,trivial⟩,trivial⟩ rfl rfl rfl ?_);refine QV rfl (wC 3 rfl ?_)
 obtain⟨r8,hr8,hF⟩:=bB hF
 refine jj trivial (oz [((902,1840),(76,1))] rfl (AY _) (UY _ _ _ hr8) trivial ⟨.inl rfl,.inr ⟨rfl,rfl,trivial⟩,trivial⟩ rfl rfl rfl ?_);refine QV rfl (wC 3 rfl ?_)
 obtain⟨r9,hr9,hF⟩:=bB hF
 refine jj trivial (oz [((902,1880),(81,1))] rfl (AY _) (UV _ _ _ hr9) trivial ⟨.inl rfl,.inr ⟨rfl,rfl,trivial⟩,trivial⟩ rfl rfl rfl ?_);refine QV rfl (wA rfl ?_)
 cases hF
 exact bQ ⟨_,_,(aJW [((51,1),(902,560)),((56,1),(902,561)),((61,1),(902,562)),((66,1),(902,563)),((71,1),(902,564)),((76,1),(902,565)),((81,1),(902,566))] rfl fq),_,rfl,rfl,⟨⟨⟨rfl,fun _=>rfl⟩,⟨rfl,fun _=>rfl⟩,⟨rfl,fun h=>(by cases h)⟩,rfl,rfl,rfl,rfl,rfl,rfl,rfl,trivial⟩,⟨rfl,fun _=>rfl⟩,trivial⟩,(AgM.weak ⟨rfl,rfl,rfl,rfl,rfl,rfl,rfl,trivial⟩)⟩
def kV(p0:aZ)(p1:aZ):Option (aZ×Bool×Bool) :=
  (((bif (decide (p0.q0<p1.q0))then some p1.q0 else some p0.q0):Option Int).bind fun v1=>(((bif (decide (p1.q9<p0.q9))then some p1.q9 else some p0.q9):Option Int).bind fun v2=>some (({q0:=(w64 (v1-p1.q0)),q9:=(w64 (v2-p1.q0))}:aZ),(decide (v1<v2)),(decide (v2<p0.q9)))))
theorem qK(p0:aZ)(p1:aZ)(r:(aZ×Bool×Bool))(hF:kV p0 p1=some r):Fun Tryz.prog 64 true [] [.agg [jI p0.q0,jI p0.q9],.agg [jI p1.q0,jI p1.q9]] noHeap (.tup [.agg [jI r.1.q0,jI r.1.q9],cB r.2.1,cB r.2.2]) noHeap:=by
 refine fW Tryz.func64 ?_
 unfold kV at hF
 refine wA rfl (wA rfl (az (wA rfl (cW (fun _ _ h=>h) hF (fun v1=>[(2,cP (2,0) 0),(3,cP (3,0) 0),(4,cP (4,0) 0),(7,cP (7,0) 0)]) (fun v1=>[((2,0),.box [jI p0.q0,jI p0.q9]),((3,0),.box [jI p1.q0,jI p1.q9]),((4,0),.box [jI 0,jI 0]),((7,0),.box [jI v1,jI p0.q9])]) ?_ ?_))))
 ·rintro v1 hF
  refine az (wA rfl (cW (fun _ _ h=>h) hF (fun v2=>[(2,cP (2,0) 0),(3,cP (3,0) 0),(4,cP (4,0) 0),(7,cP (7,0) 0)]) (fun v2=>[((2,0),.box [jI p0.q0,jI p0.q9]),((3,0),.box [jI p1.q0,jI p1.q9]),((4,0),.box [jI 0,jI 0]),((7,0),.box [jI v1,jI v2])]) ?_ ?_))
  ·rintro v2 hF
   refine wA rfl (az (a5V [none,none,none,none,none,none,none,none,none,none,none,none,(some ([(7,0)],[])),none,(some ([(7,0)],[])),none,none,(some ([],[(4,0)])),none,none] (by decide) rfl (by kernel_rfl) rfl (acY 12 rfl rfl (Sj trivial rfl (zz rfl (acY 1 rfl rfl (Sj trivial rfl (zz rfl (acY 2 rfl rfl (Sj trivial rfl (zz rfl (ZE rfl rfl ?_))))))))))));cases hF
   exact bQ ⟨_,rfl,rfl,⟨⟨⟨rfl,fun _=>rfl⟩,⟨rfl,fun _=>rfl⟩,trivial⟩,⟨rfl,fun _=>rfl⟩,⟨rfl,fun _=>rfl⟩,trivial⟩,a2J _⟩
  intro join hF
  refine wX hF rfl (fun _ hF=>?_) fun _ hF=>?_
  ·exact wB rfl (join p1.q9 _ _ hF sw)
  exact aJ (join p0.q9 _ _ hF sw)
 intro join hF
 refine wX hF rfl (fun _ hF=>?_) fun _ hF=>?_
 ·exact wB rfl (join p1.q0 _ _ hF sw)
 exact aJ (join p0.q0 _ _ hF sw)
def rV(p0:c9)(p1:c9):Option Bool :=
  (bif (!decide (p0.x8.q5.q0=p1.x8.q5.q0))then some (decide (p0.x8.q5.q0<p1.x8.q5.q0))else(bif (!decide (p0.x8.q5.q9=p1.x8.q5.q9))then some (decide (p1.x8.q5.q9<p0.x8.q5.q9))else(bif (!decide (p0.x8.q6=p1.x8.q6))then some (decide (p0.x8.q6<p1.x8.q6))else some (decide (p0.x7<p1.x7)))))
theorem LQ(p0:c9)(p1:c9)(r:Bool)(hF:rV p0 p1=some r):Fun Tryz.prog 146 true [] [.agg (Ix p0),.agg (Ix p1)] noHeap (cB r) noHeap:=by
 refine fW Tryz.func146 ?_
 unfold rV at hF
 refine wA rfl (az (wA rfl (wIf hF rfl (fun _ hF=>?_) fun _ hF=>?_)))
 ·refine wA rfl ?_;cases hF
  exact bQ wR
 refine aJ (az (wA rfl (wIf hF rfl (fun _ hF=>?_) fun _ hF=>?_)))
 ·refine wA rfl ?_;cases hF
  exact bQ wR
 refine aJ (az (wA rfl (wIf hF rfl (fun _ hF=>?_) fun _ hF=>?_)))
 ·refine wA rfl ?_;cases hF
  exact bQ wR
 refine aJ (wA rfl ?_);cases hF
 exact bQ wR
def iJ(e165:(List c9))(a250:Int)(y310:c9):((List aY)×Int×Int×Int)→Option (((List aY)×Int×Int×Int) ⊕ ((List aY)×Int×Int)):=fun(a341,a342,a343,a344) =>
  (bif (decide (a344<a250))then((((idx e165 a344).bind fun y361=>(bif (decide (y361.x7=y310.x8.z1))then((idx a341 a344).bind fun y362=>((idx a341 a344).bind fun y363=>((idx a341 a344).bind fun y364=>some ((List.set a341 (Int.toNat a344) ({q6:=y364.q6,z1:=y364.z1,z9:=y364.z9,q8:=y364.q8,q5:=y364.q5,j9:=(w64 (y363.j9-(w64 (y310.x8.q5.q9-y310.x8.q5.q0)))),v8:=y364.v8}:aY)),a344,(w64 (y362.z9+1))))))else some (a341,a342,a343))):Option ((List aY)×Int×Int)).bind fun(v358,v359,v360)=>some (.inl (v358,v359,v360,(w64 (a344+1)))))else some (.inr (a341,a342,a343)))
def mj(e165:(List c9)):((List aY)×Int)→Option (((List aY)×Int) ⊕ (List aY)):=fun(a249,a250) =>
  (bif (decide (a250<(List.length e165:Int)))then((idx e165 a250).bind fun y310=>((loop (iJ e165 a250 y310) (a249,(-1),0,0)).bind fun(e354,e355,e356)=>(bif Ej 72 (List.length e354+List.length [({q6:=y310.x8.q6,z1:=e355,z9:=e356,q8:=y310.x8.q8,q5:=y310.x8.q5,j9:=(w64 (y310.x8.q5.q9-y310.x8.q5.q0)),v8:=y310.x8.v8}:aY)])then some (.inl ((e354++[({q6:=y310.x8.q6,z1:=e355,z9:=e356,q8:=y310.x8.q8,q5:=y310.x8.q5,j9:=(w64 (y310.x8.q5.q9-y310.x8.q5.q0)),v8:=y310.x8.v8}:aY)]),(w64 (a250+1))))else none)))else some (.inr a249))
def uX  : ((List c9)×Int)→Option (((List c9)×Int) ⊕ (List c9)):=fun(a396,a397) =>
  (((bif (decide (0<a397))then((idx a396 a397).bind fun y416=>((idx a396 (w64 (a397-1))).bind fun y417=>((rV y416 y417).bind fun r418=>some r418)))else some false):Option Bool).bind fun v409=>(bif v409 then((idx a396 a397).bind fun y410=>((idx a396 (w64 (a397-1))).bind fun y411=>((idx a396 a397).bind fun y412=>((idx (List.set a396 (Int.toNat a397) y411) (w64 (a397-1))).bind fun y413=>some (.inl ((List.set (List.set a396 (Int.toNat a397) y411) (Int.toNat (w64 (a397-1))) y410),(w64 (a397-1))))))))else some (.inr a396)))
def pQ(p0:(List c9)):((List c9)×Int)→Option (((List c9)×Int) ⊕ (List c9)):=fun(a111,a112) =>
  (bif (decide (a112<(List.length p0:Int)))then((idx p0 a112).bind fun y368=>(bif Ej 80 (List.length a111+List.length [y368])then((loop (uX) ((a111++[y368]),(w64 ((List.length (a111++[y368]):Int)-1)))).bind fun e408=>some (.inl (e408,(w64 (a112+1)))))else none))else some (.inr a111))
def sK(p0:(List c9)):Option (List aY) :=
  ((loop (pQ p0) ([],0)).bind fun e165=>((loop (mj e165) ([],0)).bind fun e309=>some e309))
theorem M5(p0:(List c9))(r:(List aY))(hF:sK p0=some r):Fun Tryz.prog 65 false [] [cL 9 bK p0] (aV []) (cO (902,2600)) (aV [((902,2600),.arr 67 8 (List.map aj r))]):=by
 refine fM [] (some []) Tryz.func65 ?_
 unfold sK at hF
 refine wA rfl (wA rfl (az (wA rfl (eZ (fun _ _ h=>h) hF (id) (fun(a111,a112)=>[(0,cL 9 bK p0),(3,cO (24,1)),(4,cI a112)]) (fun(a111,a112)=>[((24,1),.arr 122 9 (List.map bK a111))]) (fun e165=>[(3,cO (24,1))]) (fun e165=>[((24,1),.arr 122 9 (List.map bK e165))]) (Nq 3 (24,1) 122 9 rfl rfl rfl rfl sw) ?_ ?_))))
 ·rintro e165 hF
  refine wA rfl (az (wA rfl (eZ (fun _ _ h=>h) hF (id) (fun(a249,a250)=>[(3,cO (24,1)),(7,cO (120,1)),(8,cI a250)]) (fun(a249,a250)=>[((24,1),.arr 122 9 (List.map bK e165)),((120,1),.arr 67 8 (List.map aj a249))]) (fun e309=>[(7,cO (120,1))]) (fun e309=>[((120,1),.arr 67 8 (List.map aj e309))]) (Nq 7 (120,1) 67 8 rfl rfl rfl rfl sw) ?_ ?_)))
  ·rintro e309 hF
   refine wA rfl ?_;cases hF
   exact bQ ⟨_,_,(xz (120,1) (902,2600) rfl rfl fq),_,rfl,rfl,rfl,(AgM.weak ⟨rfl,trivial⟩)⟩
  rintro⟨a249,a250⟩ x_0 hF cont_0 brk_0 fin_0
  unfold mj at hF
  refine az (wC 2 rfl (rS (d0 (tc:=bK) e165 (.own _ _ rfl) (QV rfl (wIf hF rfl (fun _ hF=>?_) fun _ hF=>?_)))))
  ·refine aJ (az (c7 (wC 2 rfl ?_)));obtain⟨y310,hy310,hF⟩:=bB hF
   refine rS (pW (tc:=bK) e165 rfl rfl rfl hy310 (aQ SV 1 rfl (rS (zW (tc:=bK) e165 rfl rfl (iK hy310).2.1 rfl (QV rfl (wA rfl (wA rfl (wA rfl (wA rfl (az (wA rfl (eZ (fun _ _ h=>h) hF (id) (fun(a341,a342,a343,a344)=>[(3,cO (24,1)),(7,cO (120,1)),(8,cI a250),(9,cP (9,0) 0),(10,cI y310.x8.z1),(11,cI a344)]) (fun(a341,a342,a343,a344)=>[((24,1),.arr 122 9 (List.map bK e165)),((120,1),.arr 67 8 (List.map aj a341)),((9,0),.box [jI y310.x8.q6,jI a342,jI a343,jS y310.x8.q8,jI y310.x8.q5.q0,jI y310.x8.q5.q9,jI (w64 (y310.x8.q5.q9-y310.x8.q5.q0)),jB y310.x8.v8])]) (fun(e354,e355,e356)=>[(3,cO (24,1)),(7,cO (120,1)),(8,cI a250),(9,cP (9,0) 0)]) (fun(e354,e355,e356)=>[((24,1),.arr 122 9 (List.map bK e165)),((120,1),.arr 67 8 (List.map aj e354)),((9,0),.box [jI y310.x8.q6,jI e355,jI e356,jS y310.x8.q8,jI y310.x8.q5.q0,jI y310.x8.q5.q9,jI (w64 (y310.x8.q5.q9-y310.x8.q5.q0)),jB y310.x8.v8])]) sw ?_ ?_))))))))))))
   ·rintro⟨e354,e355,e356⟩ hF
    refine wD 2 rfl ?_;refine rS (E5 (tc:=aj) [({q6:=y310.x8.q6,z1:=e355,z9:=e356,q8:=y310.x8.q8,q5:=y310.x8.q5,j9:=(w64 (y310.x8.q5.q9-y310.x8.q5.q0)),v8:=y310.x8.v8}:aY)] rfl ⟨rfl,rfl,rfl,rfl,rfl,rfl,rfl,rfl,trivial⟩ rfl (fun _=>rfl) rfl ?_)
    obtain⟨h357,hF⟩:=a0K hF
    exact rS (BK (tc:=aj) e354 [({q6:=y310.x8.q6,z1:=e355,z9:=e356,q8:=y310.x8.q8,q5:=y310.x8.q5,j9:=(w64 (y310.x8.q5.q9-y310.x8.q5.q0)),v8:=y310.x8.v8}:aY)] rfl rfl (.own _ _ rfl) h357 rfl (QV rfl (wB rfl (cont_0 _ _ _ (oi hF) (xz (120,0) (120,1) rfl rfl sw)))))
   rintro⟨a341,a342,a343,a344⟩ x_1 hF cont_1 brk_1 fin_1
   unfold iJ at hF
   refine az (wA rfl (wIf hF rfl (fun _ hF=>?_) fun _ hF=>?_))
   ·refine aJ (az (cW (fun _ _ h=>h) hF (fun(v358,v359,v360)=>[(3,cO (24,1)),(7,cO (120,1)),(8,cI a250),(9,cP (9,0) 0),(10,cI y310.x8.z1),(11,cI a344)]) (fun(v358,v359,v360)=>[((24,1),.arr 122 9 (List.map bK e165)),((120,1),.arr 67 8 (List.map aj v358)),((9,0),.box [jI y310.x8.q6,jI v359,jI v360,jS y310.x8.q8,jI y310.x8.q5.q0,jI y310.x8.q5.q9,jI (w64 (y310.x8.q5.q9-y310.x8.q5.q0)),jB y310.x8.v8])]) ?_ ?_))
    ·rintro⟨v358,v359,v360⟩ hF
     exact wB rfl (cont_1 _ _ _ (oi hF) sw)
    intro join hF
    refine c7 (wC 2 rfl ?_);obtain⟨y361,hy361,hF⟩:=bB' hF
    refine rS (pW (tc:=bK) e165 rfl rfl rfl hy361 (aQ SV 1 rfl (rS (zW (tc:=bK) e165 rfl rfl (iK hy361).2.1 rfl (QV rfl (wX hF rfl (fun _ hF=>?_) fun _ hF=>?_))))))
    ·refine wA rfl (wC 2 rfl ?_);obtain⟨y362,hy362,hF⟩:=bB' hF
     refine rS (pW (tc:=aj) a341 rfl rfl rfl hy362 (aQ SV 1 rfl (rS (zW (tc:=aj) a341 rfl rfl (iK hy362).2.1 rfl (QV rfl (f7 (by decide) (by kernel_rfl) rfl (aQ SP 4 rfl ?_)))))));obtain⟨y363,hy363,hF⟩:=bB' hF
     refine aW SP trivial (pW (tc:=aj) a341 rfl rfl rfl hy363 (aQ SP 1 rfl (aW SP trivial (zW (tc:=aj) a341 rfl rfl (iK hy363).2.1 rfl (aQ SP 3 rfl ?_)))))
     obtain⟨y364,hy364,hF⟩:=bB' hF
     exact aW SP trivial (pW (tc:=aj) a341 rfl rfl rfl hy364 (aQ SP 1 rfl (aW SP trivial (OX (tc:=aj) a341 ({q6:=y364.q6,z1:=y364.z1,z9:=y364.z9,q8:=y364.q8,q5:=y364.q5,j9:=(w64 (y363.j9-(w64 (y310.x8.q5.q9-y310.x8.q5.q0)))),v8:=y364.v8}:aY) rfl rfl (iK hy364).2.1 rfl rfl rfl rfl rfl (QP rfl (join ((List.set a341 (Int.toNat a344) ({q6:=y364.q6,z1:=y364.z1,z9:=y364.z9,q8:=y364.q8,q5:=y364.q5,j9:=(w64 (y363.j9-(w64 (y310.x8.q5.q9-y310.x8.q5.q0)))),v8:=y364.v8}:aY)),a344,(w64 (y362.z9+1))) _ _ hF sw))))))
    exact aJ (join (a341,a342,a343) _ _ hF sw)
   exact dK (aq (aq (bj (brk_1 _ _ _ (oi hF) sw))))
  exact dK (aq (aq (bj (brk_0 _ _ _ (oi hF) sw))))
 rintro⟨a111,a112⟩ x_0 hF cont_0 brk_0 fin_0
 unfold pQ at hF
 refine az (wC 2 rfl (rS (d0 (tc:=bK) p0 .tree (QV rfl (wIf hF rfl (fun _ hF=>?_) fun _ hF=>?_)))))
 ·refine aJ (az (c7 (wC 3 rfl ?_)));obtain⟨y368,hy368,hF⟩:=bB hF
  refine rS (dz (tc:=bK) p0 rfl rfl hy368 (aQ SV 1 rfl ?_));refine rS (E5 (tc:=bK) [y368] rfl ⟨rfl,rfl,rfl,rfl,rfl,rfl,rfl,rfl,rfl,trivial⟩ rfl (fun _=>rfl) rfl ?_)
  obtain⟨h369,hF⟩:=a0K hF
  refine rS (BK (tc:=bK) a111 [y368] rfl rfl (.own _ _ rfl) h369 rfl (QV rfl (wC 1 rfl (rS (d0 (tc:=bK) (a111++[y368]) (.own _ _ rfl) (QV rfl (eZ (fun _ _ h=>h) hF (id) (fun(a396,a397)=>[(0,cL 9 bK p0),(3,cO (24,0)),(4,cI a112),(5,cI a397)]) (fun(a396,a397)=>[((24,0),.arr 122 9 (List.map bK a396))]) (fun e408=>[(0,cL 9 bK p0),(3,cO (24,0)),(4,cI a112)]) (fun e408=>[((24,0),.arr 122 9 (List.map bK e408))]) sw ?_ ?_)))))))
  ·rintro e408 hF
   exact wB rfl (cont_0 _ _ _ (oi hF) (xz (24,0) (24,1) rfl rfl sw))
  rintro⟨a396,a397⟩ x_1 hF cont_1 brk_1 fin_1
  unfold uX at hF
  refine az (az (cW (fun _ _ h=>h) hF (fun v409=>[(0,cL 9 bK p0),(3,cO (24,0)),(4,cI a112),(5,cI a397),(41,cB v409)]) (fun v409=>[((24,0),.arr 122 9 (List.map bK a396))]) ?_ ?_))
  ·rintro v409 hF
   refine wIf hF rfl (fun _ hF=>?_) fun _ hF=>?_
   ·refine aJ (az (c7 (wC 2 rfl ?_)));obtain⟨y410,hy410,hF⟩:=bB hF
    refine rS (pW (tc:=bK) a396 rfl rfl rfl hy410 (rS (zW (tc:=bK) a396 rfl rfl (iK hy410).2.1 rfl (QV rfl (wC 5 rfl ?_)))))
    obtain⟨y411,hy411,hF⟩:=bB hF
    refine rS (pW (tc:=bK) a396 rfl rfl rfl hy411 (rS (zW (tc:=bK) a396 rfl rfl (iK hy411).2.1 rfl ?_)));obtain⟨y412,hy412,hF⟩:=bB hF
    refine rS (pW (tc:=bK) a396 rfl rfl rfl hy412 (rS (OX (tc:=bK) a396 y411 rfl rfl (iK hy412).2.1 rfl rfl rfl rfl rfl (QV rfl (wD 4 rfl ?_)))));obtain⟨y413,hy413,hF⟩:=bB hF
    exact rS (pW (tc:=bK) (List.set a396 (Int.toNat a397) y411) rfl rfl rfl hy413 (rS (OX (tc:=bK) (List.set a396 (Int.toNat a397) y411) y410 rfl rfl (iK hy413).2.1 rfl rfl rfl rfl rfl (QV rfl (wB rfl (cont_1 _ _ _ (oi hF) sw))))))
   exact dK (aq (aq (bj (brk_1 _ _ _ (oi hF) sw))))
  intro join hF
  refine f7 (by decide) (by kernel_rfl) rfl (aQ SP 3 rfl ?_);cases h415:(decide (0<a397))
  ·have hF:=bF' h415 hF;exact QP rfl (join false _ _ hF sw)
  have hF:=bT' h415 hF;refine aQ SP 2 rfl ?_;obtain⟨y416,hy416,hF⟩:=bB' hF
  refine aW SP rfl (pW (tc:=bK) a396 rfl rfl rfl hy416 (aW SP rfl (zW (tc:=bK) a396 rfl rfl (iK hy416).2.1 rfl (aQ SP 3 rfl ?_))))
  obtain⟨y417,hy417,hF⟩:=bB' hF
  refine aW SP rfl (pW (tc:=bK) a396 rfl rfl rfl hy417 (aW SP rfl (zW (tc:=bK) a396 rfl rfl (iK hy417).2.1 rfl ?_)));obtain⟨r418,hr418,hF⟩:=bB' hF
  exact aW SP rfl (cJ (LQ _ _ _ hr418) ⟨⟨rfl,rfl,rfl,rfl,rfl,rfl,rfl,rfl,rfl,trivial⟩,⟨rfl,rfl,rfl,rfl,rfl,rfl,rfl,rfl,rfl,trivial⟩,trivial⟩ rfl (.inl rfl) (QP rfl (join r418 _ _ hF sw)))
 exact dK (aq (aq (bj (brk_0 _ _ _ (oi hF) sw))))
def p7(p0:(List cV))(p1:aZ):((List cV)×Int)→Option (((List cV)×Int) ⊕ (List cV)):=fun(a41,a42) =>
  (bif (decide (a42<(List.length p0:Int)))then((((idx p0 a42).bind fun y62=>(((bif (decide ((w64 (a42+1))=(List.length p0:Int)))then some true else((idx p0 (w64 (a42+1))).bind fun y74=>(bif (!decide (y74.q8=y62.q8))then some true else((idx p0 (w64 (a42+1))).bind fun y76=>some (decide (p1.q0<y76.j8)))))):Option Bool).bind fun v63=>(((bif (decide (y62.j8≤p1.q0))then some v63 else some false):Option Bool).bind fun v64=>(((bif v64 then(bif Ej 32 (List.length a41+List.length [({q8:=y62.q8,j8:=0,j2:=y62.j2}:cV)])then some (a41++[({q8:=y62.q8,j8:=0,j2:=y62.j2}:cV)])else none)else some a41):Option (List cV)).bind fun v65=>(((bif (decide (p1.q0<y62.j8))then some (decide (y62.j8<p1.q9))else some false):Option Bool).bind fun v66=>(bif v66 then(bif Ej 32 (List.length v65+List.length [({q8:=y62.q8,j8:=(w64 (y62.j8-p1.q0)),j2:=y62.j2}:cV)])then some (v65++[({q8:=y62.q8,j8:=(w64 (y62.j8-p1.q0)),j2:=y62.j2}:cV)])else none)else some v65)))))):Option (List cV)).bind fun v61=>some (.inl (v61,(w64 (a42+1)))))else some (.inr a41))
def uY(p0:(List cV))(p1:aZ):Option (List cV) :=
  ((loop (p7 p0 p1) ([],0)).bind fun e60=>some e60)
theorem N2(p0:(List cV))(p1:aZ)(r:(List cV))(hF:uY p0 p1=some r):Fun Tryz.prog 66 false [] [cL 3 bX p0,.agg [jI p1.q0,jI p1.q9]] (aV []) (cO (902,2640)) (aV [((902,2640),.arr 95 3 (List.map bX r))]):=by
 refine fM [] (some []) Tryz.func66 ?_
 unfold uY at hF
 refine wA rfl (wA rfl (az (wA rfl (eZ (fun _ _ h=>h) hF (id) (fun(a41,a42)=>[(0,cL 3 bX p0),(3,cP (3,0) 0),(5,cO (61,1)),(6,cI a42)]) (fun(a41,a42)=>[((3,0),.box [jI p1.q0,jI p1.q9]),((61,1),.arr 95 3 (List.map bX a41))]) (fun e60=>[(5,cO (61,1))]) (fun e60=>[((61,1),.arr 95 3 (List.map bX e60))]) (Nq 5 (61,1) 95 3 rfl rfl rfl rfl sw) ?_ ?_))))
 ·rintro e60 hF
  refine wA rfl ?_;cases hF
  exact bQ ⟨_,_,(xz (61,1) (902,2640) rfl rfl fq),_,rfl,rfl,rfl,(AgM.weak ⟨rfl,trivial⟩)⟩
 rintro⟨a41,a42⟩ x_0 hF cont_0 brk_0 fin_0
 unfold p7 at hF
 refine az (wC 2 rfl (rS (d0 (tc:=bX) p0 .tree (QV rfl (wIf hF rfl (fun _ hF=>?_) fun _ hF=>?_)))))
 ·refine aJ (az (cW (fun _ _ h=>h) hF (fun v61=>[(0,cL 3 bX p0),(3,cP (3,0) 0),(5,cO (61,1)),(6,cI a42)]) (fun v61=>[((3,0),.box [jI p1.q0,jI p1.q9]),((61,1),.arr 95 3 (List.map bX v61))]) ?_ ?_))
  ·rintro v61 hF
   exact wB rfl (cont_0 _ _ _ (oi hF) sw)
  intro join hF
  refine c7 (wC 2 rfl ?_);obtain⟨y62,hy62,hF⟩:=bB' hF
  refine rS (dz (tc:=bX) p0 rfl rfl hy62 (QV rfl (az ?_)));have hF:=bA hF;refine cW (fun _ _ h=>h) hF (fun v63=>[(0,cL 3 bX p0),(3,cP (3,0) 0),(5,cO (61,1)),(6,cI a42),(7,cP (7,0) 0),(8,cB v63)]) (fun v63=>[((3,0),.box [jI p1.q0,jI p1.q9]),((61,1),.arr 95 3 (List.map bX a41)),((7,0),.box (E0 y62))]) ?_ ?_
  ·rintro v63 hF
   refine az (az ?_);have hF:=bA hF;refine cW (fun _ _ h=>h) hF (fun v64=>[(0,cL 3 bX p0),(3,cP (3,0) 0),(5,cO (61,1)),(6,cI a42),(7,cP (7,0) 0),(53,cB v64)]) (fun v64=>[((3,0),.box [jI p1.q0,jI p1.q9]),((61,1),.arr 95 3 (List.map bX a41)),((7,0),.box (E0 y62))]) ?_ ?_
   ·rintro v64 hF
    have hF:=bA hF;refine cW (fun _ _ h=>h) hF (fun v65=>[(0,cL 3 bX p0),(3,cP (3,0) 0),(5,cO (61,1)),(6,cI a42),(7,cP (7,0) 0)]) (fun v65=>[((3,0),.box [jI p1.q0,jI p1.q9]),((61,1),.arr 95 3 (List.map bX v65)),((7,0),.box (E0 y62))]) ?_ ?_
    ·rintro v65 hF
     refine az ?_;have hF:=bA hF;refine cW (fun _ _ h=>h) hF (fun v66=>[(0,cL 3 bX p0),(3,cP (3,0) 0),(5,cO (61,1)),(6,cI a42),(7,cP (7,0) 0),(73,cB v66)]) (fun v66=>[((3,0),.box [jI p1.q0,jI p1.q9]),((61,1),.arr 95 3 (List.map bX v65)),((7,0),.box (E0 y62))]) ?_ ?_
     ·rintro v66 hF
      refine wX hF rfl (fun _ hF=>?_) fun _ hF=>?_
      ·refine wD 11 rfl ?_;refine rS (E5 (tc:=bX) [({q8:=y62.q8,j8:=(w64 (y62.j8-p1.q0)),j2:=y62.j2}:cV)] rfl ⟨rfl,rfl,rfl,trivial⟩ rfl (fun _=>rfl) rfl ?_)
       obtain⟨h67,hF⟩:=EW hF
       exact rS (BK (tc:=bX) v65 [({q8:=y62.q8,j8:=(w64 (y62.j8-p1.q0)),j2:=y62.j2}:cV)] rfl rfl (.own _ _ rfl) h67 rfl (QV rfl (join (v65++[({q8:=y62.q8,j8:=(w64 (y62.j8-p1.q0)),j2:=y62.j2}:cV)]) _ _ hF (xz (86,0) (61,1) rfl rfl sw))))
      exact aJ (join v65 _ _ hF sw)
     intro join hF
     refine wD 6 rfl ?_;cases h69:(decide (p1.q0<y62.j8))
     ·have hF:=bF' h69 hF;exact QV rfl (join false _ _ hF sw)
     have hF:=bT' h69 hF;exact QV rfl (join (decide (y62.j8<p1.q9)) _ _ hF sw)
    intro join hF
    refine wX hF rfl (fun _ hF=>?_) fun _ hF=>?_
    ·refine wD 6 rfl ?_;refine rS (E5 (tc:=bX) [({q8:=y62.q8,j8:=0,j2:=y62.j2}:cV)] rfl ⟨rfl,rfl,rfl,trivial⟩ rfl (fun _=>rfl) rfl ?_)
     obtain⟨h70,hF⟩:=EW hF
     exact rS (BK (tc:=bX) a41 [({q8:=y62.q8,j8:=0,j2:=y62.j2}:cV)] rfl rfl (.own _ _ rfl) h70 rfl (QV rfl (join (a41++[({q8:=y62.q8,j8:=0,j2:=y62.j2}:cV)]) _ _ hF (xz (61,0) (61,1) rfl rfl sw))))
    exact aJ (join a41 _ _ hF sw)
   intro join hF
   refine wD 6 rfl ?_;cases h72:(decide (y62.j8≤p1.q0))
   ·have hF:=bF' h72 hF;exact QV rfl (join false _ _ hF sw)
   have hF:=bT' h72 hF;exact QV rfl (join v63 _ _ hF sw)
  intro join hF
  refine f7 (by decide) (by kernel_rfl) rfl (aQ SP 3 rfl (aW SP trivial (d0 (tc:=bX) p0 .tree (aQ SP 2 rfl ?_))));cases h73:(decide ((w64 (a42+1))=(List.length p0:Int)))
  ·have hF:=bF' h73 hF;refine aQ SP 3 rfl ?_;obtain⟨y74,hy74,hF⟩:=bB' hF
   refine aW SP rfl (dz (tc:=bX) p0 rfl rfl hy74 (aQ SP 7 rfl ?_));cases h75:(!decide (y74.q8=y62.q8))
   ·have hF:=bF' h75 hF;refine aQ SP 3 rfl ?_;obtain⟨y76,hy76,hF⟩:=bB' hF
    exact aW SP rfl (dz (tc:=bX) p0 rfl rfl hy76 (QP rfl (join (decide (p1.q0<y76.j8)) _ _ hF sw)))
   have hF:=bT' h75 hF;exact QP rfl (join true _ _ hF sw)
  have hF:=bT' h73 hF;exact QP rfl (join true _ _ hF sw)
 exact dK (aq (aq (bj (brk_0 _ _ _ (oi hF) sw))))
def xq(p1:a0)(p2:aZ):((List f6)×Int)→Option (((List f6)×Int) ⊕ (List f6)):=fun(a52,a53) =>
  (bif (decide (a53<(List.length p1.j7:Int)))then((((idx p1.j7 a53).bind fun y62=>((kV y62.q5 p2).bind fun r63=>(bif r63.2.1 then(bif Ej 32 (List.length a52+List.length [({q6:=y62.q6,q5:=r63.1,j6:=y62.j6}:f6)])then some (a52++[({q6:=y62.q6,q5:=r63.1,j6:=y62.j6}:f6)])else none)else some a52))):Option (List f6)).bind fun v61=>some (.inl (v61,(w64 (a53+1)))))else some (.inr a52))
def wK(p1:a0)(p2:aZ):((List dq)×Int)→Option (((List dq)×Int) ⊕ (List dq)):=fun(a23,a24) =>
  (bif (decide (a24<(List.length p1.z5:Int)))then((((idx p1.z5 a24).bind fun y68=>((kV y68.q5 p2).bind fun r69=>(bif r69.2.1 then(((bif y68.x4 then some true else some r69.2.2):Option Bool).bind fun v70=>(bif Ej 72 (List.length a23+List.length [({w5:=y68.w5,q6:=y68.q6,w8:=y68.w8,q5:=r69.1,z7:=y68.z7,x4:=v70}:dq)])then some (a23++[({w5:=y68.w5,q6:=y68.q6,w8:=y68.w8,q5:=r69.1,z7:=y68.z7,x4:=v70}:dq)])else none))else some a23))):Option (List dq)).bind fun v67=>some (.inl (v67,(w64 (a24+1)))))else some (.inr a23))
def A6(p0:a0)(p1:a0)(p2:aZ):Option a0 :=
  ((loop (wK p1 p2) ([],0)).bind fun e33=>((loop (xq p1 p2) ([],0)).bind fun e60=>some ({q5:=p0.q5,q7:=p0.q7,z3:=p0.z3,z8:=p0.z8,z6:=p0.z6,z2:=p0.z2,j4:=p0.j4,z5:=e33,j7:=e60}:a0)))
theorem O5(p0:a0)(p1:a0)(p2:aZ)(r:a0)(hF:A6 p0 p1 p2=some r):Fun Tryz.prog 67 false [] [.agg [jI p0.q5.q0,jI p0.q5.q9,jL 3 bZ p0.q7,jL 8 aj p0.z3,jL 7 bz p0.z8,jL 7 cz p0.z6,jL 4 b9 p0.z2,jL 3 bX p0.j4,.nilS,.nilS],.agg (bq p1),.agg [jI p2.q0,jI p2.q9]] (aV []) (.agg [jI r.q5.q0,jI r.q5.q9,jL 3 bZ r.q7,jL 8 aj r.z3,jL 7 bz r.z8,jL 7 cz r.z6,jL 4 b9 r.z2,jL 3 bX r.j4,.slO (902,2680),.slO (902,2681)]) (aV [((902,2680),.arr 97 7 (List.map bJ r.z5)),((902,2681),.arr 77 4 (List.map d7 r.j7))]):=by
 refine fM [] (some []) Tryz.func67 ?_
 unfold A6 at hF
 refine wA rfl (az (wA rfl (eZ (fun _ _ h=>h) hF (id) (fun(a23,a24)=>[(3,cP (3,0) 0),(4,cP (4,0) 0),(5,cP (5,0) 0),(6,cP (6,0) 0),(7,cI a24)]) (fun(a23,a24)=>[((3,0),.box [jI p0.q5.q0,jI p0.q5.q9,jL 3 bZ p0.q7,jL 8 aj p0.z3,jL 7 bz p0.z8,jL 7 cz p0.z6,jL 4 b9 p0.z2,jL 3 bX p0.j4,.slO (50,1),.nilS]),((50,1),.arr 97 7 (List.map bJ a23)),((4,0),.box (bq p1)),((5,0),.box [jI p2.q0,jI p2.q9]),((6,0),.box [jI 0,jI 0,.nilS,.nilS,.nilS,.nilS,.nilS,.nilS,.nilS,.nilS])]) (fun e33=>[(3,cP (3,0) 0),(4,cP (4,0) 0),(5,cP (5,0) 0),(6,cP (6,0) 0)]) (fun e33=>[((3,0),.box [jI p0.q5.q0,jI p0.q5.q9,jL 3 bZ p0.q7,jL 8 aj p0.z3,jL 7 bz p0.z8,jL 7 cz p0.z6,jL 4 b9 p0.z2,jL 3 bX p0.j4,.slO (50,1),.nilS]),((50,1),.arr 97 7 (List.map bJ e33)),((4,0),.box (bq p1)),((5,0),.box [jI p2.q0,jI p2.q9]),((6,0),.box [jI 0,jI 0,.nilS,.nilS,.nilS,.nilS,.nilS,.nilS,.nilS,.nilS])]) (pX (3,0) _ 8 (50,1) 97 7 rfl rfl rfl rfl rfl sw) ?_ ?_)))
 ·rintro e33 hF
  refine az (wA rfl (eZ (fun _ _ h=>h) hF (id) (fun(a52,a53)=>[(3,cP (3,0) 0),(4,cP (4,0) 0),(5,cP (5,0) 0),(6,cP (6,0) 0),(12,cI a53)]) (fun(a52,a53)=>[((3,0),.box [jI p0.q5.q0,jI p0.q5.q9,jL 3 bZ p0.q7,jL 8 aj p0.z3,jL 7 bz p0.z8,jL 7 cz p0.z6,jL 4 b9 p0.z2,jL 3 bX p0.j4,.slO (50,1),.slO (79,1)]),((50,1),.arr 97 7 (List.map bJ e33)),((79,1),.arr 77 4 (List.map d7 a52)),((4,0),.box (bq p1)),((5,0),.box [jI p2.q0,jI p2.q9]),((6,0),.box [jI 0,jI 0,.nilS,.nilS,.nilS,.nilS,.nilS,.nilS,.nilS,.nilS])]) (fun e60=>[(3,cP (3,0) 0),(6,cP (6,0) 0)]) (fun e60=>[((3,0),.box [jI p0.q5.q0,jI p0.q5.q9,jL 3 bZ p0.q7,jL 8 aj p0.z3,jL 7 bz p0.z8,jL 7 cz p0.z6,jL 4 b9 p0.z2,jL 3 bX p0.j4,.slO (50,1),.slO (79,1)]),((50,1),.arr 97 7 (List.map bJ e33)),((79,1),.arr 77 4 (List.map d7 e60)),((6,0),.box [jI 0,jI 0,.nilS,.nilS,.nilS,.nilS,.nilS,.nilS,.nilS,.nilS])]) (pX (3,0) _ 9 (79,1) 77 4 rfl rfl rfl rfl rfl sw) ?_ ?_))
  ·rintro e60 hF
   refine wA rfl ?_;cases hF
   exact bQ ⟨_,_,(aJW [((50,1),(902,2680)),((79,1),(902,2681))] rfl fq),_,rfl,rfl,⟨⟨rfl,fun _=>rfl⟩,⟨rfl,fun _=>rfl⟩,⟨rfl,fun h=>(by cases h)⟩,⟨rfl,fun h=>(by cases h)⟩,⟨rfl,fun h=>(by cases h)⟩,⟨rfl,fun h=>(by cases h)⟩,⟨rfl,fun h=>(by cases h)⟩,⟨rfl,fun h=>(by cases h)⟩,rfl,rfl,trivial⟩,(AgM.weak ⟨rfl,rfl,trivial⟩)⟩
  rintro⟨a52,a53⟩ x_0 hF cont_0 brk_0 fin_0
  unfold xq at hF
  refine az (wC 3 rfl (rS (d0 (tc:=d7) p1.j7 .tree (QV rfl (wIf hF rfl (fun _ hF=>?_) fun _ hF=>?_)))))
  ·refine aJ (az (cW (fun _ _ h=>h) hF (fun v61=>[(3,cP (3,0) 0),(4,cP (4,0) 0),(5,cP (5,0) 0),(6,cP (6,0) 0),(12,cI a53)]) (fun v61=>[((3,0),.box [jI p0.q5.q0,jI p0.q5.q9,jL 3 bZ p0.q7,jL 8 aj p0.z3,jL 7 bz p0.z8,jL 7 cz p0.z6,jL 4 b9 p0.z2,jL 3 bX p0.j4,.slO (50,1),.slO (79,1)]),((50,1),.arr 97 7 (List.map bJ e33)),((79,1),.arr 77 4 (List.map d7 v61)),((4,0),.box (bq p1)),((5,0),.box [jI p2.q0,jI p2.q9]),((6,0),.box [jI 0,jI 0,.nilS,.nilS,.nilS,.nilS,.nilS,.nilS,.nilS,.nilS])]) ?_ ?_))
   ·rintro v61 hF
    exact wB rfl (cont_0 _ _ _ (oi hF) sw)
   intro join hF
   refine c7 (wC 3 rfl ?_);obtain⟨y62,hy62,hF⟩:=bB' hF
   refine rS (dz (tc:=d7) p1.j7 rfl rfl hy62 (QV rfl (wC 3 rfl ?_)));obtain⟨r63,hr63,hF⟩:=bB' hF
   refine rS (cJ (qK _ _ _ hr63) ⟨⟨rfl,rfl,trivial⟩,⟨rfl,rfl,trivial⟩,trivial⟩ rfl (.inl rfl) (QV rfl (wA rfl (wX hF rfl (fun _ hF=>?_) fun _ hF=>?_))))
   ·refine wA rfl (wD 3 rfl ?_);refine rS (E5 (tc:=d7) [({q6:=y62.q6,q5:=r63.1,j6:=y62.j6}:f6)] rfl ⟨rfl,rfl,rfl,rfl,trivial⟩ rfl (fun _=>rfl) rfl ?_)
    obtain⟨h64,hF⟩:=EW hF
    exact rS (BK (tc:=d7) a52 [({q6:=y62.q6,q5:=r63.1,j6:=y62.j6}:f6)] rfl rfl (.own _ _ rfl) h64 rfl (QV rfl (join (a52++[({q6:=y62.q6,q5:=r63.1,j6:=y62.j6}:f6)]) _ _ hF (xz (79,0) (79,1) rfl rfl sw))))
   exact aJ (join a52 _ _ hF sw)
  exact dK (aq (aq (bj (brk_0 _ _ _ (oi hF) sw))))
 rintro⟨a23,a24⟩ x_0 hF cont_0 brk_0 fin_0
 unfold wK at hF
 refine az (wC 3 rfl (rS (d0 (tc:=bJ) p1.z5 .tree (QV rfl (wIf hF rfl (fun _ hF=>?_) fun _ hF=>?_)))))
 ·refine aJ (az (cW (fun _ _ h=>h) hF (fun v67=>[(3,cP (3,0) 0),(4,cP (4,0) 0),(5,cP (5,0) 0),(6,cP (6,0) 0),(7,cI a24)]) (fun v67=>[((3,0),.box [jI p0.q5.q0,jI p0.q5.q9,jL 3 bZ p0.q7,jL 8 aj p0.z3,jL 7 bz p0.z8,jL 7 cz p0.z6,jL 4 b9 p0.z2,jL 3 bX p0.j4,.slO (50,1),.nilS]),((50,1),.arr 97 7 (List.map bJ v67)),((4,0),.box (bq p1)),((5,0),.box [jI p2.q0,jI p2.q9]),((6,0),.box [jI 0,jI 0,.nilS,.nilS,.nilS,.nilS,.nilS,.nilS,.nilS,.nilS])]) ?_ ?_))
  ·rintro v67 hF
   exact wB rfl (cont_0 _ _ _ (oi hF) sw)
  intro join hF
  refine c7 (wC 3 rfl ?_);obtain⟨y68,hy68,hF⟩:=bB' hF
  refine rS (dz (tc:=bJ) p1.z5 rfl rfl hy68 (QV rfl (wC 3 rfl ?_)));obtain⟨r69,hr69,hF⟩:=bB' hF
  refine rS (cJ (qK _ _ _ hr69) ⟨⟨rfl,rfl,trivial⟩,⟨rfl,rfl,trivial⟩,trivial⟩ rfl (.inl rfl) (QV rfl (wA rfl (wX hF rfl (fun _ hF=>?_) fun _ hF=>?_))))
  ·refine wA rfl (az ?_);have hF:=bA hF;refine cW (fun _ _ h=>h) hF (fun v70=>[(3,cP (3,0) 0),(4,cP (4,0) 0),(5,cP (5,0) 0),(6,cP (6,0) 0),(7,cI a24),(8,cP (8,0) 0)]) (fun v70=>[((3,0),.box [jI p0.q5.q0,jI p0.q5.q9,jL 3 bZ p0.q7,jL 8 aj p0.z3,jL 7 bz p0.z8,jL 7 cz p0.z6,jL 4 b9 p0.z2,jL 3 bX p0.j4,.slO (50,1),.nilS]),((50,1),.arr 97 7 (List.map bJ a23)),((4,0),.box (bq p1)),((5,0),.box [jI p2.q0,jI p2.q9]),((6,0),.box [jI 0,jI 0,.nilS,.nilS,.nilS,.nilS,.nilS,.nilS,.nilS,.nilS]),((8,0),.box [jI y68.w5,jI y68.q6,jI y68.w8,jI r69.1.q0,jI r69.1.q9,jL 1 u7 y68.z7,jB v70])]) ?_ ?_
   ·rintro v70 hF
    refine wD 3 rfl ?_;refine rS (E5 (tc:=bJ) [({w5:=y68.w5,q6:=y68.q6,w8:=y68.w8,q5:=r69.1,z7:=y68.z7,x4:=v70}:dq)] rfl ⟨rfl,rfl,rfl,rfl,rfl,rfl,rfl,trivial⟩ rfl (fun _=>rfl) rfl ?_)
    obtain⟨h71,hF⟩:=EW hF
    exact rS (BK (tc:=bJ) a23 [({w5:=y68.w5,q6:=y68.q6,w8:=y68.w8,q5:=r69.1,z7:=y68.z7,x4:=v70}:dq)] rfl rfl (.own _ _ rfl) h71 rfl (QV rfl (join (a23++[({w5:=y68.w5,q6:=y68.q6,w8:=y68.w8,q5:=r69.1,z7:=y68.z7,x4:=v70}:dq)]) _ _ hF (xz (50,0) (50,1) rfl rfl sw))))
   intro join hF
   refine wD 3 rfl ?_;cases h72:y68.x4
   ·have hF:=bF' h72 hF;exact QV rfl (join r69.2.2 _ _ hF (P5 (by repeat' first | constructor | (rw[h72];rfl)) (by repeat' first | constructor | (rw[h72];rfl))))
   have hF:=bT' h72 hF;exact QV rfl (join true _ _ hF (P5 (by repeat' first | constructor | (rw[h72];rfl)) (by repeat' first | constructor | (rw[h72];rfl))))
  exact aJ (join a23 _ _ hF sw)
 exact dK (aq (aq (bj (brk_0 _ _ _ (oi hF) sw))))
def D1(p0:a0)(p1:aZ)(r3:(aZ×Bool×Bool)):((List cY)×Int)→Option (((List cY)×Int) ⊕ (List cY)):=fun(a125,a126) =>
  (bif (decide (a126<(List.length p0.z2:Int)))then((((idx p0.z2 a126).bind fun y137=>((gY y137.j8 ({q0:=(w64 (r3.1.q0+p1.q0)),q9:=(w64 (r3.1.q9+p1.q0))}:aZ)).bind fun r138=>(bif r138 then(bif Ej 48 (List.length a125+List.length [({q6:=y137.q6,j8:=(w64 (y137.j8-(w64 (r3.1.q0+p1.q0)))),j5:=y137.j5,z7:=y137.z7}:cY)])then some (a125++[({q6:=y137.q6,j8:=(w64 (y137.j8-(w64 (r3.1.q0+p1.q0)))),j5:=y137.j5,z7:=y137.z7}:cY)])else none)else some a125))):Option (List cY)).bind fun v136=>some (.inl (v136,(w64 (a126+1)))))else some (.inr a125))
def D2(p0:a0)(p1:aZ)(r3:(aZ×Bool×Bool)):((List d3)×Int)→Option (((List d3)×Int) ⊕ (List d3)):=fun(a95,a96) =>
  (bif (decide (a96<(List.length p0.z6:Int)))then((((idx p0.z6 a96).bind fun y143=>((((gY y143.w7 ({q0:=(w64 (r3.1.q0+p1.q0)),q9:=(w64 (r3.1.q9+p1.q0))}:aZ)).bind fun r147=>(bif r147 then((gY y143.w4 ({q0:=(w64 (r3.1.q0+p1.q0)),q9:=(w64 (r3.1.q9+p1.q0))}:aZ)).bind fun r149=>some r149)else some false)):Option Bool).bind fun v144=>(bif v144 then(bif Ej 56 (List.length a95+List.length [({w5:=y143.w5,q0:=y143.q0,q9:=y143.q9,w7:=(w64 (y143.w7-(w64 (r3.1.q0+p1.q0)))),w4:=(w64 (y143.w4-(w64 (r3.1.q0+p1.q0))))}:d3)])then some (a95++[({w5:=y143.w5,q0:=y143.q0,q9:=y143.q9,w7:=(w64 (y143.w7-(w64 (r3.1.q0+p1.q0)))),w4:=(w64 (y143.w4-(w64 (r3.1.q0+p1.q0))))}:d3)])else none)else some a95))):Option (List d3)).bind fun v142=>some (.inl (v142,(w64 (a96+1)))))else some (.inr a95))
def yY(p0:a0)(p1:aZ)(r3:(aZ×Bool×Bool)):((List cZ)×Int)→Option (((List cZ)×Int) ⊕ (List cZ)):=fun(a60,a61) =>
  (bif (decide (a61<(List.length p0.z8:Int)))then((((idx p0.z8 a61).bind fun y152=>((kV y152.q5 ({q0:=(w64 (r3.1.q0+p1.q0)),q9:=(w64 (r3.1.q9+p1.q0))}:aZ)).bind fun r153=>(bif r153.2.1 then(((bif r153.2.2 then some (-1)else some y152.x6):Option Int).bind fun v154=>(bif Ej 56 (List.length a60+List.length [({q6:=y152.q6,j3:=y152.j3,q5:=r153.1,w9:=y152.w9,x5:=y152.x5,x6:=v154}:cZ)])then some (a60++[({q6:=y152.q6,j3:=y152.j3,q5:=r153.1,w9:=y152.w9,x5:=y152.x5,x6:=v154}:cZ)])else none))else some a60))):Option (List cZ)).bind fun v151=>some (.inl (v151,(w64 (a61+1)))))else some (.inr a60))
def s6(p0:a0)(p1:aZ)(r3:(aZ×Bool×Bool)):((List c9)×Int)→Option (((List c9)×Int) ⊕ (List c9)):=fun(a26,a27) =>
  (bif (decide (a27<(List.length p0.z3:Int)))then((((idx p0.z3 a27).bind fun y160=>((kV y160.q5 ({q0:=(w64 (r3.1.q0+p1.q0)),q9:=(w64 (r3.1.q9+p1.q0))}:aZ)).bind fun r161=>(bif r161.2.1 then(((bif y160.v8 then some true else some r161.2.2):Option Bool).bind fun v162=>(bif Ej 80 (List.length a26+List.length [({x8:=({q6:=y160.q6,z1:=y160.z1,z9:=y160.z9,q8:=y160.q8,q5:=r161.1,j9:=y160.j9,v8:=v162}:aY),x7:=a27}:c9)])then some (a26++[({x8:=({q6:=y160.q6,z1:=y160.z1,z9:=y160.z9,q8:=y160.q8,q5:=r161.1,j9:=y160.j9,v8:=v162}:aY),x7:=a27}:c9)])else none))else some a26))):Option (List c9)).bind fun v159=>some (.inl (v159,(w64 (a27+1)))))else some (.inr a26))
def xK(p0:a0)(p1:aZ):Option (a0×Int) :=
  ((qx p0).bind fun r1=>(bif (!decide (r1=0))then some (({q5:=({q0:=0,q9:=0}:aZ),q7:=[],z3:=[],z8:=[],z6:=[],z2:=[],j4:=[],z5:=[],j7:=[]}:a0),r1)else((nZ p1).bind fun r2=>(bif (!r2)then some (({q5:=({q0:=0,q9:=0}:aZ),q7:=[],z3:=[],z8:=[],z6:=[],z2:=[],j4:=[],z5:=[],j7:=[]}:a0),1)else((kV p0.q5 p1).bind fun r3=>(bif (!r3.2.1)then some (({q5:=({q0:=0,q9:=0}:aZ),q7:=p0.q7,z3:=[],z8:=[],z6:=[],z2:=[],j4:=[],z5:=[],j7:=[]}:a0),0)else((loop (s6 p0 p1 r3) ([],0)).bind fun e36=>((sK e36).bind fun r37=>((loop (yY p0 p1 r3) ([],0)).bind fun e70=>((loop (D2 p0 p1 r3) ([],0)).bind fun e106=>((loop (D1 p0 p1 r3) ([],0)).bind fun e133=>((uY p0.j4 ({q0:=(w64 (r3.1.q0+p1.q0)),q9:=(w64 (r3.1.q9+p1.q0))}:aZ)).bind fun r134=>((A6 ({q5:=({q0:=0,q9:=(w64 ((w64 (r3.1.q9+p1.q0))-(w64 (r3.1.q0+p1.q0))))}:aZ),q7:=p0.q7,z3:=r37,z8:=e70,z6:=e106,z2:=e133,j4:=r134,z5:=[],j7:=[]}:a0) p0 ({q0:=(w64 (r3.1.q0+p1.q0)),q9:=(w64 (r3.1.q9+p1.q0))}:aZ)).bind fun r135=>some (r135,0))))))))))))))
theorem Q0(p0:a0)(p1:aZ)(r:(a0×Int))(hF:xK p0 p1=some r):Fun Tryz.prog 17 false [] [.agg (bq p0),.agg [jI p1.q0,jI p1.q9]] (aV []) (.tup [.agg [jI r.1.q5.q0,jI r.1.q5.q9,jL 3 bZ r.1.q7,jL 8 aj r.1.z3,jL 7 bz r.1.z8,jL 7 cz r.1.z6,jL 4 b9 r.1.z2,jL 3 bX r.1.j4,.slO (902,680),.slO (902,681)],cI r.2]) (aV [((902,680),.arr 97 7 (List.map bJ r.1.z5)),((902,681),.arr 77 4 (List.map d7 r.1.j7))]):=by
 refine fM [] (some []) Tryz.func17 ?_
 unfold xK at hF
 refine wA rfl (wC 1 rfl ?_);obtain⟨r1,hr1,hF⟩:=bB hF
 refine rS (cJ (F1 _ _ hr1) ⟨⟨rfl,rfl,rfl,rfl,rfl,rfl,rfl,rfl,rfl,rfl,trivial⟩,trivial⟩ rfl (.inl rfl) (QV rfl (az (wA rfl (wIf hF rfl (fun _ hF=>?_) fun _ hF=>?_)))))
 ·refine wA rfl ?_;cases hF
  exact bQ ⟨_,_,(pX (4,0) _ 8 (902,680) 97 7 rfl rfl rfl rfl rfl (pX (4,0) _ 9 (902,681) 77 4 rfl rfl rfl rfl rfl fq)),_,rfl,rfl,⟨⟨⟨rfl,fun _=>rfl⟩,⟨rfl,fun _=>rfl⟩,rfl,rfl,rfl,rfl,rfl,rfl,rfl,rfl,trivial⟩,⟨rfl,fun _=>rfl⟩,trivial⟩,(AgM.weak ⟨rfl,rfl,trivial⟩)⟩
 refine aJ (az (wC 1 rfl ?_));obtain⟨r2,hr2,hF⟩:=bB hF
 refine rS (cJ (uz _ _ hr2) ⟨⟨rfl,rfl,trivial⟩,trivial⟩ rfl (.inl rfl) (QV rfl (wIf hF rfl (fun _ hF=>?_) fun _ hF=>?_)))
 ·refine wA rfl ?_;cases hF
  exact bQ ⟨_,_,(pX (4,0) _ 8 (902,680) 97 7 rfl rfl rfl rfl rfl (pX (4,0) _ 9 (902,681) 77 4 rfl rfl rfl rfl rfl fq)),_,rfl,rfl,⟨⟨⟨rfl,fun _=>rfl⟩,⟨rfl,fun _=>rfl⟩,rfl,rfl,rfl,rfl,rfl,rfl,rfl,rfl,trivial⟩,⟨rfl,fun _=>rfl⟩,trivial⟩,(AgM.weak ⟨rfl,rfl,trivial⟩)⟩
 refine aJ (wA rfl (wC 3 rfl ?_));obtain⟨r3,hr3,hF⟩:=bB hF
 refine rS (cJ (qK _ _ _ hr3) ⟨⟨rfl,rfl,trivial⟩,⟨rfl,rfl,trivial⟩,trivial⟩ rfl (.inl rfl) (QV rfl (az (wA rfl (wIf hF rfl (fun _ hF=>?_) fun _ hF=>?_)))))
 ·refine wA rfl ?_;cases hF
  exact bQ ⟨_,_,(pX (4,0) _ 8 (902,680) 97 7 rfl rfl rfl rfl rfl (pX (4,0) _ 9 (902,681) 77 4 rfl rfl rfl rfl rfl fq)),_,rfl,rfl,⟨⟨⟨rfl,fun _=>rfl⟩,⟨rfl,fun _=>rfl⟩,⟨rfl,fun h=>(by cases h)⟩,rfl,rfl,rfl,rfl,rfl,rfl,rfl,trivial⟩,⟨rfl,fun _=>rfl⟩,trivial⟩,(AgM.weak ⟨rfl,rfl,trivial⟩)⟩
 refine aJ (wA rfl (wA rfl (wA rfl (wA rfl (az (wA rfl (eZ (fun _ _ h=>h) hF (id) (fun(a26,a27)=>[(2,cP (2,0) 0),(4,cP (4,0) 0),(7,cP (7,0) 0),(8,cP (8,0) 0),(11,cO (103,1)),(12,cI a27)]) (fun(a26,a27)=>[((2,0),.box (bq p0)),((4,0),.box [jI 0,jI 0,.nilS,.nilS,.nilS,.nilS,.nilS,.nilS,.nilS,.nilS]),((7,0),.box [jI 0,jI (w64 ((w64 (r3.1.q9+p1.q0))-(w64 (r3.1.q0+p1.q0)))),jL 3 bZ p0.q7,.nilS,.nilS,.nilS,.nilS,.nilS,.nilS,.nilS]),((8,0),.box [jI (w64 (r3.1.q0+p1.q0)),jI (w64 (r3.1.q9+p1.q0))]),((103,1),.arr 122 9 (List.map bK a26))]) (fun e36=>[(2,cP (2,0) 0),(4,cP (4,0) 0),(7,cP (7,0) 0),(8,cP (8,0) 0),(11,cO (103,1))]) (fun e36=>[((2,0),.box (bq p0)),((4,0),.box [jI 0,jI 0,.nilS,.nilS,.nilS,.nilS,.nilS,.nilS,.nilS,.nilS]),((7,0),.box [jI 0,jI (w64 ((w64 (r3.1.q9+p1.q0))-(w64 (r3.1.q0+p1.q0)))),jL 3 bZ p0.q7,.nilS,.nilS,.nilS,.nilS,.nilS,.nilS,.nilS]),((8,0),.box [jI (w64 (r3.1.q0+p1.q0)),jI (w64 (r3.1.q9+p1.q0))]),((103,1),.arr 122 9 (List.map bK e36))]) (Nq 11 (103,1) 122 9 rfl rfl rfl rfl sw) ?_ ?_)))))))
 ·rintro e36 hF
  refine wC 1 rfl ?_;obtain⟨r37,hr37,hF⟩:=bB hF
  refine jj trivial (a9q [((902,2600),(105,1))] rfl (AY _) (M5 _ _ hr37) trivial ⟨.inr ⟨_,rfl⟩,trivial⟩ rfl rfl rfl rfl ⟨(a7W fun _=>rfl),trivial⟩ (QV rfl (az (wA rfl (eZ (fun _ _ h=>h) hF (id) (fun(a60,a61)=>[(2,cP (2,0) 0),(4,cP (4,0) 0),(7,cP (7,0) 0),(8,cP (8,0) 0),(17,cI a61)]) (fun(a60,a61)=>[((2,0),.box (bq p0)),((4,0),.box [jI 0,jI 0,.nilS,.nilS,.nilS,.nilS,.nilS,.nilS,.nilS,.nilS]),((7,0),.box [jI 0,jI (w64 ((w64 (r3.1.q9+p1.q0))-(w64 (r3.1.q0+p1.q0)))),jL 3 bZ p0.q7,.slO (105,1),.slO (136,1),.nilS,.nilS,.nilS,.nilS,.nilS]),((105,1),.arr 67 8 (List.map aj r37)),((136,1),.arr 107 7 (List.map bz a60)),((8,0),.box [jI (w64 (r3.1.q0+p1.q0)),jI (w64 (r3.1.q9+p1.q0))])]) (fun e70=>[(2,cP (2,0) 0),(4,cP (4,0) 0),(7,cP (7,0) 0),(8,cP (8,0) 0)]) (fun e70=>[((2,0),.box (bq p0)),((4,0),.box [jI 0,jI 0,.nilS,.nilS,.nilS,.nilS,.nilS,.nilS,.nilS,.nilS]),((7,0),.box [jI 0,jI (w64 ((w64 (r3.1.q9+p1.q0))-(w64 (r3.1.q0+p1.q0)))),jL 3 bZ p0.q7,.slO (105,1),.slO (136,1),.nilS,.nilS,.nilS,.nilS,.nilS]),((105,1),.arr 67 8 (List.map aj r37)),((136,1),.arr 107 7 (List.map bz e70)),((8,0),.box [jI (w64 (r3.1.q0+p1.q0)),jI (w64 (r3.1.q9+p1.q0))])]) (pX (7,0) _ 4 (136,1) 107 7 rfl rfl rfl rfl rfl sw) ?_ ?_)))))
  ·rintro e70 hF
   refine az (wA rfl (eZ (fun _ _ h=>h) hF (id) (fun(a95,a96)=>[(2,cP (2,0) 0),(4,cP (4,0) 0),(7,cP (7,0) 0),(8,cP (8,0) 0),(22,cI a96)]) (fun(a95,a96)=>[((2,0),.box (bq p0)),((4,0),.box [jI 0,jI 0,.nilS,.nilS,.nilS,.nilS,.nilS,.nilS,.nilS,.nilS]),((7,0),.box [jI 0,jI (w64 ((w64 (r3.1.q9+p1.q0))-(w64 (r3.1.q0+p1.q0)))),jL 3 bZ p0.q7,.slO (105,1),.slO (136,1),.slO (176,1),.nilS,.nilS,.nilS,.nilS]),((105,1),.arr 67 8 (List.map aj r37)),((136,1),.arr 107 7 (List.map bz e70)),((176,1),.arr 90 7 (List.map cz a95)),((8,0),.box [jI (w64 (r3.1.q0+p1.q0)),jI (w64 (r3.1.q9+p1.q0))])]) (fun e106=>[(2,cP (2,0) 0),(4,cP (4,0) 0),(7,cP (7,0) 0),(8,cP (8,0) 0)]) (fun e106=>[((2,0),.box (bq p0)),((4,0),.box [jI 0,jI 0,.nilS,.nilS,.nilS,.nilS,.nilS,.nilS,.nilS,.nilS]),((7,0),.box [jI 0,jI (w64 ((w64 (r3.1.q9+p1.q0))-(w64 (r3.1.q0+p1.q0)))),jL 3 bZ p0.q7,.slO (105,1),.slO (136,1),.slO (176,1),.nilS,.nilS,.nilS,.nilS]),((105,1),.arr 67 8 (List.map aj r37)),((136,1),.arr 107 7 (List.map bz e70)),((176,1),.arr 90 7 (List.map cz e106)),((8,0),.box [jI (w64 (r3.1.q0+p1.q0)),jI (w64 (r3.1.q9+p1.q0))])]) (pX (7,0) _ 5 (176,1) 90 7 rfl rfl rfl rfl rfl sw) ?_ ?_))
   ·rintro e106 hF
    refine az (wA rfl (eZ (fun _ _ h=>h) hF (id) (fun(a125,a126)=>[(2,cP (2,0) 0),(4,cP (4,0) 0),(7,cP (7,0) 0),(8,cP (8,0) 0),(24,cI a126)]) (fun(a125,a126)=>[((2,0),.box (bq p0)),((4,0),.box [jI 0,jI 0,.nilS,.nilS,.nilS,.nilS,.nilS,.nilS,.nilS,.nilS]),((7,0),.box [jI 0,jI (w64 ((w64 (r3.1.q9+p1.q0))-(w64 (r3.1.q0+p1.q0)))),jL 3 bZ p0.q7,.slO (105,1),.slO (136,1),.slO (176,1),.slO (204,1),.nilS,.nilS,.nilS]),((105,1),.arr 67 8 (List.map aj r37)),((136,1),.arr 107 7 (List.map bz e70)),((176,1),.arr 90 7 (List.map cz e106)),((204,1),.arr 92 4 (List.map b9 a125)),((8,0),.box [jI (w64 (r3.1.q0+p1.q0)),jI (w64 (r3.1.q9+p1.q0))])]) (fun e133=>[(2,cP (2,0) 0),(4,cP (4,0) 0),(7,cP (7,0) 0),(8,cP (8,0) 0)]) (fun e133=>[((2,0),.box (bq p0)),((4,0),.box [jI 0,jI 0,.nilS,.nilS,.nilS,.nilS,.nilS,.nilS,.nilS,.nilS]),((7,0),.box [jI 0,jI (w64 ((w64 (r3.1.q9+p1.q0))-(w64 (r3.1.q0+p1.q0)))),jL 3 bZ p0.q7,.slO (105,1),.slO (136,1),.slO (176,1),.slO (204,1),.nilS,.nilS,.nilS]),((105,1),.arr 67 8 (List.map aj r37)),((136,1),.arr 107 7 (List.map bz e70)),((176,1),.arr 90 7 (List.map cz e106)),((204,1),.arr 92 4 (List.map b9 e133)),((8,0),.box [jI (w64 (r3.1.q0+p1.q0)),jI (w64 (r3.1.q9+p1.q0))])]) (pX (7,0) _ 6 (204,1) 92 4 rfl rfl rfl rfl rfl sw) ?_ ?_))
    ·rintro e133 hF
     refine wC 3 rfl ?_;obtain⟨r134,hr134,hF⟩:=bB hF
     refine jj trivial (oz [((902,2640),(209,1))] rfl (AY _) (N2 _ _ _ hr134) trivial ⟨.inl rfl,.inr ⟨rfl,rfl,trivial⟩,trivial⟩ rfl rfl rfl ?_);refine QV rfl (wC 3 rfl ?_)
     obtain⟨r135,hr135,hF⟩:=bB hF
     refine a8Y trivial (aCY (105,1) rfl rfl (aCY (136,1) rfl rfl (aCY (176,1) rfl rfl (aCY (204,1) rfl rfl (aCY (209,1) rfl rfl fq))))) (oz [((902,2680),(214,1)),((902,2681),(214,2))] rfl (AY _) (O5 _ _ _ _ hr135) trivial ⟨.inr ⟨rfl,rfl,rfl,rfl,rfl,rfl,rfl,rfl,trivial,trivial,trivial⟩,.inr ⟨rfl,rfl,rfl,rfl,rfl,rfl,rfl,rfl,rfl,rfl,trivial⟩,.inr ⟨rfl,rfl,trivial⟩,trivial⟩ rfl rfl rfl ?_)
     refine QV rfl ?_;cases hF
     exact bQ ⟨_,_,(aJW [((214,1),(902,680)),((214,2),(902,681))] rfl fq),_,rfl,rfl,⟨⟨⟨rfl,fun _=>rfl⟩,⟨rfl,fun _=>rfl⟩,⟨rfl,fun h=>(by cases h)⟩,⟨rfl,fun h=>(by cases h)⟩,⟨rfl,fun h=>(by cases h)⟩,⟨rfl,fun h=>(by cases h)⟩,⟨rfl,fun h=>(by cases h)⟩,⟨rfl,fun h=>(by cases h)⟩,rfl,rfl,trivial⟩,⟨rfl,fun _=>rfl⟩,trivial⟩,(AgM.weak ⟨rfl,rfl,trivial⟩)⟩
    rintro⟨a125,a126⟩ x_0 hF cont_0 brk_0 fin_0
    unfold D1 at hF
    refine az (wC 3 rfl (rS (d0 (tc:=b9) p0.z2 .tree (QV rfl (wIf hF rfl (fun _ hF=>?_) fun _ hF=>?_)))))
    ·refine aJ (az (cW (fun _ _ h=>h) hF (fun v136=>[(2,cP (2,0) 0),(4,cP (4,0) 0),(7,cP (7,0) 0),(8,cP (8,0) 0),(24,cI a126)]) (fun v136=>[((2,0),.box (bq p0)),((4,0),.box [jI 0,jI 0,.nilS,.nilS,.nilS,.nilS,.nilS,.nilS,.nilS,.nilS]),((7,0),.box [jI 0,jI (w64 ((w64 (r3.1.q9+p1.q0))-(w64 (r3.1.q0+p1.q0)))),jL 3 bZ p0.q7,.slO (105,1),.slO (136,1),.slO (176,1),.slO (204,1),.nilS,.nilS,.nilS]),((105,1),.arr 67 8 (List.map aj r37)),((136,1),.arr 107 7 (List.map bz e70)),((176,1),.arr 90 7 (List.map cz e106)),((204,1),.arr 92 4 (List.map b9 v136)),((8,0),.box [jI (w64 (r3.1.q0+p1.q0)),jI (w64 (r3.1.q9+p1.q0))])]) ?_ ?_))
     ·rintro v136 hF
      exact wB rfl (cont_0 _ _ _ (oi hF) sw)
     intro join hF
     refine c7 (wC 3 rfl ?_);obtain⟨y137,hy137,hF⟩:=bB' hF
     refine rS (dz (tc:=b9) p0.z2 rfl rfl hy137 (QV rfl (wC 3 rfl ?_)));obtain⟨r138,hr138,hF⟩:=bB' hF
     refine rS (cJ (jK _ _ _ hr138) ⟨rfl,⟨rfl,rfl,trivial⟩,trivial⟩ rfl (.inl rfl) (QV rfl (wX hF rfl (fun _ hF=>?_) fun _ hF=>?_)))
     ·refine wA rfl (wD 3 rfl ?_);refine rS (E5 (tc:=b9) [({q6:=y137.q6,j8:=(w64 (y137.j8-(w64 (r3.1.q0+p1.q0)))),j5:=y137.j5,z7:=y137.z7}:cY)] rfl ⟨rfl,rfl,rfl,rfl,trivial⟩ rfl (fun _=>rfl) rfl ?_)
      obtain⟨h139,hF⟩:=EW hF
      exact rS (BK (tc:=b9) a125 [({q6:=y137.q6,j8:=(w64 (y137.j8-(w64 (r3.1.q0+p1.q0)))),j5:=y137.j5,z7:=y137.z7}:cY)] rfl rfl (.own _ _ rfl) h139 rfl (QV rfl (join (a125++[({q6:=y137.q6,j8:=(w64 (y137.j8-(w64 (r3.1.q0+p1.q0)))),j5:=y137.j5,z7:=y137.z7}:cY)]) _ _ hF (xz (204,0) (204,1) rfl rfl sw))))
     exact aJ (join a125 _ _ hF sw)
    exact dK (aq (aq (bj (brk_0 _ _ _ (oi hF) sw))))
   rintro⟨a95,a96⟩ x_0 hF cont_0 brk_0 fin_0
   unfold D2 at hF
   refine az (wC 3 rfl (rS (d0 (tc:=cz) p0.z6 .tree (QV rfl (wIf hF rfl (fun _ hF=>?_) fun _ hF=>?_)))))
   ·refine aJ (az (cW (fun _ _ h=>h) hF (fun v142=>[(2,cP (2,0) 0),(4,cP (4,0) 0),(7,cP (7,0) 0),(8,cP (8,0) 0),(22,cI a96)]) (fun v142=>[((2,0),.box (bq p0)),((4,0),.box [jI 0,jI 0,.nilS,.nilS,.nilS,.nilS,.nilS,.nilS,.nilS,.nilS]),((7,0),.box [jI 0,jI (w64 ((w64 (r3.1.q9+p1.q0))-(w64 (r3.1.q0+p1.q0)))),jL 3 bZ p0.q7,.slO (105,1),.slO (136,1),.slO (176,1),.nilS,.nilS,.nilS,.nilS]),((105,1),.arr 67 8 (List.map aj r37)),((136,1),.arr 107 7 (List.map bz e70)),((176,1),.arr 90 7 (List.map cz v142)),((8,0),.box [jI (w64 (r3.1.q0+p1.q0)),jI (w64 (r3.1.q9+p1.q0))])]) ?_ ?_))
    ·rintro v142 hF
     exact wB rfl (cont_0 _ _ _ (oi hF) sw)
    intro join hF
    refine c7 (wC 3 rfl ?_);obtain⟨y143,hy143,hF⟩:=bB' hF
    refine rS (dz (tc:=cz) p0.z6 rfl rfl hy143 (QV rfl (az ?_)));have hF:=bA hF;refine cW (fun _ _ h=>h) hF (fun v144=>[(2,cP (2,0) 0),(4,cP (4,0) 0),(7,cP (7,0) 0),(8,cP (8,0) 0),(22,cI a96),(23,cP (23,0) 0),(159,cB v144)]) (fun v144=>[((2,0),.box (bq p0)),((4,0),.box [jI 0,jI 0,.nilS,.nilS,.nilS,.nilS,.nilS,.nilS,.nilS,.nilS]),((7,0),.box [jI 0,jI (w64 ((w64 (r3.1.q9+p1.q0))-(w64 (r3.1.q0+p1.q0)))),jL 3 bZ p0.q7,.slO (105,1),.slO (136,1),.slO (176,1),.nilS,.nilS,.nilS,.nilS]),((105,1),.arr 67 8 (List.map aj r37)),((136,1),.arr 107 7 (List.map bz e70)),((176,1),.arr 90 7 (List.map cz a95)),((8,0),.box [jI (w64 (r3.1.q0+p1.q0)),jI (w64 (r3.1.q9+p1.q0))]),((23,0),.box (G8 y143))]) ?_ ?_
    ·rintro v144 hF
     refine wX hF rfl (fun _ hF=>?_) fun _ hF=>?_
     ·refine wA rfl (wA rfl (wD 3 rfl ?_));refine rS (E5 (tc:=cz) [({w5:=y143.w5,q0:=y143.q0,q9:=y143.q9,w7:=(w64 (y143.w7-(w64 (r3.1.q0+p1.q0)))),w4:=(w64 (y143.w4-(w64 (r3.1.q0+p1.q0))))}:d3)] rfl ⟨rfl,rfl,rfl,rfl,rfl,rfl,rfl,trivial⟩ rfl (fun _=>rfl) rfl ?_)
      obtain⟨h145,hF⟩:=EW hF
      exact rS (BK (tc:=cz) a95 [({w5:=y143.w5,q0:=y143.q0,q9:=y143.q9,w7:=(w64 (y143.w7-(w64 (r3.1.q0+p1.q0)))),w4:=(w64 (y143.w4-(w64 (r3.1.q0+p1.q0))))}:d3)] rfl rfl (.own _ _ rfl) h145 rfl (QV rfl (join (a95++[({w5:=y143.w5,q0:=y143.q0,q9:=y143.q9,w7:=(w64 (y143.w7-(w64 (r3.1.q0+p1.q0)))),w4:=(w64 (y143.w4-(w64 (r3.1.q0+p1.q0))))}:d3)]) _ _ hF (xz (176,0) (176,1) rfl rfl sw))))
     exact aJ (join a95 _ _ hF sw)
    intro join hF
    refine wD 3 rfl ?_;obtain⟨r147,hr147,hF⟩:=bB' hF
    refine rS (cJ (jK _ _ _ hr147) ⟨rfl,⟨rfl,rfl,trivial⟩,trivial⟩ rfl (.inl rfl) (aQ SV 1 rfl ?_));cases h148:r147
    ·have hF:=bF' h148 hF;exact QV rfl (join false _ _ hF sw)
    have hF:=bT' h148 hF;refine aQ SV 3 rfl ?_;obtain⟨r149,hr149,hF⟩:=bB' hF
    exact aW SV rfl (cJ (jK _ _ _ hr149) ⟨rfl,⟨rfl,rfl,trivial⟩,trivial⟩ rfl (.inl rfl) (QV rfl (join r149 _ _ hF sw)))
   exact dK (aq (aq (bj (brk_0 _ _ _ (oi hF) sw))))
  rintro⟨a60,a61⟩ x_0 hF cont_0 brk_0 fin_0
  unfold yY at hF
  refine az (wC 3 rfl (rS (d0 (tc:=bz) p0.z8 .tree (QV rfl (wIf hF rfl (fun _ hF=>?_) fun _ hF=>?_)))))
  ·refine aJ (az (cW (fun _ _ h=>h) hF (fun v151=>[(2,cP (2,0) 0),(4,cP (4,0) 0),(7,cP (7,0) 0),(8,cP (8,0) 0),(17,cI a61)]) (fun v151=>[((2,0),.box (bq p0)),((4,0),.box [jI 0,jI 0,.nilS,.nilS,.nilS,.nilS,.nilS,.nilS,.nilS,.nilS]),((7,0),.box [jI 0,jI (w64 ((w64 (r3.1.q9+p1.q0))-(w64 (r3.1.q0+p1.q0)))),jL 3 bZ p0.q7,.slO (105,1),.slO (136,1),.nilS,.nilS,.nilS,.nilS,.nilS]),((105,1),.arr 67 8 (List.map aj r37)),((136,1),.arr 107 7 (List.map bz v151)),((8,0),.box [jI (w64 (r3.1.q0+p1.q0)),jI (w64 (r3.1.q9+p1.q0))])]) ?_ ?_))
   ·rintro v151 hF
    exact wB rfl (cont_0 _ _ _ (oi hF) sw)
   intro join hF
   refine c7 (wC 3 rfl ?_);obtain⟨y152,hy152,hF⟩:=bB' hF
   refine rS (dz (tc:=bz) p0.z8 rfl rfl hy152 (QV rfl (wC 3 rfl ?_)));obtain⟨r153,hr153,hF⟩:=bB' hF
   refine rS (cJ (qK _ _ _ hr153) ⟨⟨rfl,rfl,trivial⟩,⟨rfl,rfl,trivial⟩,trivial⟩ rfl (.inl rfl) (QV rfl (wA rfl (wX hF rfl (fun _ hF=>?_) fun _ hF=>?_))))
   ·refine wA rfl (az (wA rfl ?_));have hF:=bA hF;refine cW (fun _ _ h=>h) hF (fun v154=>[(2,cP (2,0) 0),(4,cP (4,0) 0),(7,cP (7,0) 0),(8,cP (8,0) 0),(17,cI a61),(18,cP (18,0) 0)]) (fun v154=>[((2,0),.box (bq p0)),((4,0),.box [jI 0,jI 0,.nilS,.nilS,.nilS,.nilS,.nilS,.nilS,.nilS,.nilS]),((7,0),.box [jI 0,jI (w64 ((w64 (r3.1.q9+p1.q0))-(w64 (r3.1.q0+p1.q0)))),jL 3 bZ p0.q7,.slO (105,1),.slO (136,1),.nilS,.nilS,.nilS,.nilS,.nilS]),((105,1),.arr 67 8 (List.map aj r37)),((136,1),.arr 107 7 (List.map bz a60)),((8,0),.box [jI (w64 (r3.1.q0+p1.q0)),jI (w64 (r3.1.q9+p1.q0))]),((18,0),.box [jI y152.q6,jI y152.j3,jI r153.1.q0,jI r153.1.q9,jI y152.w9,jI y152.x5,jI v154])]) ?_ ?_
    ·rintro v154 hF
     refine wD 3 rfl ?_;refine rS (E5 (tc:=bz) [({q6:=y152.q6,j3:=y152.j3,q5:=r153.1,w9:=y152.w9,x5:=y152.x5,x6:=v154}:cZ)] rfl ⟨rfl,rfl,rfl,rfl,rfl,rfl,rfl,trivial⟩ rfl (fun _=>rfl) rfl ?_)
     obtain⟨h155,hF⟩:=EW hF
     exact rS (BK (tc:=bz) a60 [({q6:=y152.q6,j3:=y152.j3,q5:=r153.1,w9:=y152.w9,x5:=y152.x5,x6:=v154}:cZ)] rfl rfl (.own _ _ rfl) h155 rfl (QV rfl (join (a60++[({q6:=y152.q6,j3:=y152.j3,q5:=r153.1,w9:=y152.w9,x5:=y152.x5,x6:=v154}:cZ)]) _ _ hF (xz (136,0) (136,1) rfl rfl sw))))
    intro join hF
    refine wX hF rfl (fun _ hF=>?_) fun _ hF=>?_
    ·exact wB rfl (join (-1) _ _ hF sw)
    exact aJ (join y152.x6 _ _ hF sw)
   exact aJ (join a60 _ _ hF sw)
  exact dK (aq (aq (bj (brk_0 _ _ _ (oi hF) sw))))
 rintro⟨a26,a27⟩ x_0 hF cont_0 brk_0 fin_0
 unfold s6 at hF
 refine az (wC 3 rfl (rS (d0 (tc:=aj) p0.z3 .tree (QV rfl (wIf hF rfl (fun _ hF=>?_) fun _ hF=>?_)))))
 ·refine aJ (az (cW (fun _ _ h=>h) hF (fun v159=>[(2,cP (2,0) 0),(4,cP (4,0) 0),(7,cP (7,0) 0),(8,cP (8,0) 0),(11,cO (103,1)),(12,cI a27)]) (fun v159=>[((2,0),.box (bq p0)),((4,0),.box [jI 0,jI 0,.nilS,.nilS,.nilS,.nilS,.nilS,.nilS,.nilS,.nilS]),((7,0),.box [jI 0,jI (w64 ((w64 (r3.1.q9+p1.q0))-(w64 (r3.1.q0+p1.q0)))),jL 3 bZ p0.q7,.nilS,.nilS,.nilS,.nilS,.nilS,.nilS,.nilS]),((8,0),.box [jI (w64 (r3.1.q0+p1.q0)),jI (w64 (r3.1.q9+p1.q0))]),((103,1),.arr 122 9 (List.map bK v159))]) ?_ ?_))
  ·rintro v159 hF
   exact wB rfl (cont_0 _ _ _ (oi hF) sw)
  intro join hF
  refine c7 (wC 3 rfl ?_);obtain⟨y160,hy160,hF⟩:=bB' hF
  refine rS (dz (tc:=aj) p0.z3 rfl rfl hy160 (QV rfl (wC 3 rfl ?_)));obtain⟨r161,hr161,hF⟩:=bB' hF
  refine rS (cJ (qK _ _ _ hr161) ⟨⟨rfl,rfl,trivial⟩,⟨rfl,rfl,trivial⟩,trivial⟩ rfl (.inl rfl) (QV rfl (wA rfl (wX hF rfl (fun _ hF=>?_) fun _ hF=>?_))))
  ·refine wA rfl (az ?_);have hF:=bA hF;refine cW (fun _ _ h=>h) hF (fun v162=>[(2,cP (2,0) 0),(4,cP (4,0) 0),(7,cP (7,0) 0),(8,cP (8,0) 0),(11,cO (103,1)),(12,cI a27),(13,cP (13,0) 0)]) (fun v162=>[((2,0),.box (bq p0)),((4,0),.box [jI 0,jI 0,.nilS,.nilS,.nilS,.nilS,.nilS,.nilS,.nilS,.nilS]),((7,0),.box [jI 0,jI (w64 ((w64 (r3.1.q9+p1.q0))-(w64 (r3.1.q0+p1.q0)))),jL 3 bZ p0.q7,.nilS,.nilS,.nilS,.nilS,.nilS,.nilS,.nilS]),((8,0),.box [jI (w64 (r3.1.q0+p1.q0)),jI (w64 (r3.1.q9+p1.q0))]),((103,1),.arr 122 9 (List.map bK a26)),((13,0),.box [jI y160.q6,jI y160.z1,jI y160.z9,jS y160.q8,jI r161.1.q0,jI r161.1.q9,jI y160.j9,jB v162])]) ?_ ?_
   ·rintro v162 hF
    refine wD 4 rfl ?_;refine rS (E5 (tc:=bK) [({x8:=({q6:=y160.q6,z1:=y160.z1,z9:=y160.z9,q8:=y160.q8,q5:=r161.1,j9:=y160.j9,v8:=v162}:aY),x7:=a27}:c9)] rfl ⟨rfl,rfl,rfl,rfl,rfl,rfl,rfl,rfl,rfl,trivial⟩ rfl (fun _=>rfl) rfl ?_)
    obtain⟨h163,hF⟩:=EW hF
    exact rS (BK (tc:=bK) a26 [({x8:=({q6:=y160.q6,z1:=y160.z1,z9:=y160.z9,q8:=y160.q8,q5:=r161.1,j9:=y160.j9,v8:=v162}:aY),x7:=a27}:c9)] rfl rfl (.own _ _ rfl) h163 rfl (QV rfl (join (a26++[({x8:=({q6:=y160.q6,z1:=y160.z1,z9:=y160.z9,q8:=y160.q8,q5:=r161.1,j9:=y160.j9,v8:=v162}:aY),x7:=a27}:c9)]) _ _ hF (xz (103,0) (103,1) rfl rfl sw))))
   intro join hF
   refine wD 3 rfl ?_;cases h164:y160.v8
   ·have hF:=bF' h164 hF;exact QV rfl (join r161.2.2 _ _ hF (P5 (by repeat' first | constructor | (rw[h164];rfl)) (by repeat' first | constructor | (rw[h164];rfl))))
   have hF:=bT' h164 hF;exact QV rfl (join true _ _ hF (P5 (by repeat' first | constructor | (rw[h164];rfl)) (by repeat' first | constructor | (rw[h164];rfl))))
  exact aJ (join a26 _ _ hF sw)
 exact dK (aq (aq (bj (brk_0 _ _ _ (oi hF) sw))))
def iW(p0:a0)(p1:a0)(p2:aZ):Option Bool :=
  ((((s9 p0).bind fun r18=>(bif (!r18)then some true else((s9 p1).bind fun r20=>some (!r20)))):Option Bool).bind fun v1=>(bif v1 then((zY ).bind fun r2=>some r2)else((((Cz p0).bind fun r12=>((qx p0).bind fun r13=>(bif (!decide (r12=r13))then some true else((MY p0 p1).bind fun r15=>((sq p0 p1).bind fun r16=>some (decide (r15=r16) != true)))))):Option Bool).bind fun v3=>(bif v3 then some false else((PW p0 p2).bind fun r4=>((xK p0 p2).bind fun r5=>(((bif (decide (r4.2=r5.2))then((sq r4.1 r5.1).bind fun r8=>(bif r8 then((zY ).bind fun r10=>some r10)else some false))else some false):Option Bool).bind fun v6=>some v6)))))))
theorem IV(p0:a0)(p1:a0)(p2:aZ)(r:Bool)(hF:iW p0 p1 p2=some r):Fun Tryz.prog 5 true [] [.agg (bq p0),.agg (bq p1),.agg [jI p2.q0,jI p2.q9]] noHeap (cB r) noHeap:=by
 refine fW Tryz.func5 ?_
 unfold iW at hF
 refine wA rfl (az (az (cW (fun _ _ h=>h) hF (fun v1=>[(3,cP (3,0) 0),(4,cP (4,0) 0),(5,cP (5,0) 0),(18,cB v1)]) (fun v1=>[((3,0),.box (bq p0)),((4,0),.box (bq p1)),((5,0),.box [jI p2.q0,jI p2.q9])]) ?_ ?_)))
 ·rintro v1 hF
  refine wIf hF rfl (fun _ hF=>?_) fun _ hF=>?_
  ·refine wE ?_;obtain⟨r2,hr2,hF⟩:=bB hF
   refine rS (cJ (F6 _ hr2) trivial rfl (.inl rfl) (QV rfl ?_));cases hF
   exact bQ wR
  refine aJ (az (az (cW (fun _ _ h=>h) hF (fun v3=>[(3,cP (3,0) 0),(5,cP (5,0) 0),(33,cB v3)]) (fun v3=>[((3,0),.box (bq p0)),((5,0),.box [jI p2.q0,jI p2.q9])]) ?_ ?_)))
  ·rintro v3 hF
   refine wIf hF rfl (fun _ hF=>?_) fun _ hF=>?_
   ·refine wA rfl ?_;cases hF
    exact bQ wR
   refine aJ (wC 2 rfl ?_);obtain⟨r4,hr4,hF⟩:=bB hF
   refine jj trivial (oz [((902,560),(37,1)),((902,561),(37,2)),((902,562),(37,3)),((902,563),(37,4)),((902,564),(37,5)),((902,565),(37,6)),((902,566),(37,7))] rfl (AY _) (aqJ _ _ _ hr4) trivial ⟨.inr ⟨rfl,rfl,rfl,rfl,rfl,rfl,rfl,rfl,rfl,rfl,trivial⟩,.inr ⟨rfl,rfl,trivial⟩,trivial⟩ rfl rfl rfl ?_)
   refine QV rfl (wC 2 rfl ?_);obtain⟨r5,hr5,hF⟩:=bB hF
   refine jj trivial (oz [((902,680),(43,1)),((902,681),(43,2))] rfl (AY _) (Q0 _ _ _ hr5) trivial ⟨.inr ⟨rfl,rfl,rfl,rfl,rfl,rfl,rfl,rfl,rfl,rfl,trivial⟩,.inr ⟨rfl,rfl,trivial⟩,trivial⟩ rfl rfl rfl ?_)
   refine QV rfl (az (cW (fun _ _ h=>h) hF (fun v6=>[(6,cB v6)]) (fun v6=>[]) ?_ ?_))
   ·rintro v6 hF
    cases hF
    exact bQ wR
   intro join hF
   refine wD 4 rfl ?_;cases h7:(decide (r4.2=r5.2))
   ·have hF:=bF' h7 hF;exact QV rfl (join false _ _ hF sw)
   have hF:=bT' h7 hF;refine aQ SV 2 rfl ?_;obtain⟨r8,hr8,hF⟩:=bB' hF
   refine aW SV rfl (cJ (Hx _ _ _ hr8) ⟨⟨rfl,rfl,rfl,⟨_,rfl⟩,⟨_,rfl⟩,⟨_,rfl⟩,⟨_,rfl⟩,⟨_,rfl⟩,⟨_,rfl⟩,⟨_,rfl⟩,trivial⟩,⟨rfl,rfl,rfl,rfl,rfl,rfl,rfl,rfl,⟨_,rfl⟩,⟨_,rfl⟩,trivial⟩,trivial⟩ rfl (.inl rfl) (aQ SV 2 rfl ?_));cases h9:r8
   ·have hF:=bF' h9 hF;exact QV rfl (join false _ _ hF sw)
   have hF:=bT' h9 hF;obtain⟨r10,hr10,hF⟩:=bB' hF
   exact aW SV rfl (cJ (F6 _ hr10) trivial rfl (.inl rfl) (QV rfl (join r10 _ _ hF sw)))
  intro join hF
  refine f7 (by decide) (by kernel_rfl) rfl (aQ SP 1 rfl ?_);obtain⟨r12,hr12,hF⟩:=bB' hF
  refine aW SP trivial (cJ (Rz _ _ hr12) ⟨⟨rfl,rfl,rfl,rfl,rfl,rfl,rfl,rfl,rfl,rfl,trivial⟩,trivial⟩ rfl (.inl rfl) (aQ SP 1 rfl ?_));obtain⟨r13,hr13,hF⟩:=bB' hF
  refine aW SP trivial (cJ (F1 _ _ hr13) ⟨⟨rfl,rfl,rfl,rfl,rfl,rfl,rfl,rfl,rfl,rfl,trivial⟩,trivial⟩ rfl (.inl rfl) (aQ SP 2 rfl ?_));cases h14:(!decide (r12=r13))
  ·have hF:=bF' h14 hF;refine aQ SP 2 rfl ?_;obtain⟨r15,hr15,hF⟩:=bB' hF
   refine aW SP rfl (cJ (amX _ _ _ hr15) ⟨⟨rfl,rfl,rfl,rfl,rfl,rfl,rfl,rfl,rfl,rfl,trivial⟩,⟨rfl,rfl,rfl,rfl,rfl,rfl,rfl,rfl,rfl,rfl,trivial⟩,trivial⟩ rfl (.inl rfl) (aQ SP 2 rfl ?_));obtain⟨r16,hr16,hF⟩:=bB' hF
   exact aW SP rfl (cJ (Hx _ _ _ hr16) ⟨⟨rfl,rfl,rfl,rfl,rfl,rfl,rfl,rfl,rfl,rfl,trivial⟩,⟨rfl,rfl,rfl,rfl,rfl,rfl,rfl,rfl,rfl,rfl,trivial⟩,trivial⟩ rfl (.inl rfl) (QP rfl (join (decide (r15=r16) != true) _ _ hF sw)))
  have hF:=bT' h14 hF;exact QP rfl (join true _ _ hF sw)
 intro join hF
 refine wD 1 rfl ?_;obtain⟨r18,hr18,hF⟩:=bB' hF
 refine rS (cJ (H2 _ _ hr18) ⟨⟨rfl,rfl,rfl,rfl,rfl,rfl,rfl,rfl,rfl,rfl,trivial⟩,trivial⟩ rfl (.inl rfl) (aQ SV 2 rfl ?_));cases h19:(!r18)
 ·have hF:=bF' h19 hF;refine aQ SV 1 rfl ?_;obtain⟨r20,hr20,hF⟩:=bB' hF
  exact aW SV rfl (cJ (H2 _ _ hr20) ⟨⟨rfl,rfl,rfl,rfl,rfl,rfl,rfl,rfl,rfl,rfl,trivial⟩,trivial⟩ rfl (.inl rfl) (QV rfl (join (!r20) _ _ hF sw)))
 have hF:=bT' h19 hF;exact QV rfl (join true _ _ hF sw)
end Go.VM
