/- What the functions of the law compute, each with its proof. -/
import Derived.Test.YtkemjaomoopdnaaGreatL541
import Derived.Test.YtkemjaomoopdnaaGreatRows
import Derived.KernelRfl
import Derived.Lib.Bytealg
import Derived.Laws.Externs
import Derived.WalkKit
namespace Go.VM
open Go.Proofs Go.Proofs.YtkemjaomoopdnaaGreat
open Go.RowKit
set_option maxRecDepth 100000
set_option maxHeartbeats 4000000
theorem IX(p0:(List aK))(r:Bool)(hF:tj p0=some r):Fun Tryz.prog 140 true [] [cL 8 aj p0] noHeap (cB r) noHeap:=by
 refine fW Tryz.func140 ?_
 unfold tj at hF
 refine wA rfl ?_;refine az ?_;refine wA rfl ?_;refine fQ (fun _ _ h=>h) hF (.inl) (fun a46=>[(0,cL 8 aj p0),(3,cI a46)]) (fun a46=>[]) (fun _=>[(0,cL 8 aj p0)]) (fun _=>[]) sw ?_ ?_
 ·rintro⟨⟩ hF
  refine az ?_;refine wA rfl ?_;refine fQ (fun _ _ h=>h) hF (.inl) (fun a259=>[(0,cL 8 aj p0),(5,cI a259)]) (fun a259=>[]) (fun _=>[]) (fun _=>[]) sw ?_ ?_
  ·rintro⟨⟩ hF
   refine wA rfl ?_;cases hF
   exact bq wR
  rintro a259 x_0 hF cont_0 brk_0 fin_0
  unfold pX at hF
  refine az ?_;refine wC 2 rfl ?_;refine rS (d3 (tc:=aj) p0 .tree ?_);refine QV rfl ?_;refine wIf hF rfl (fun _ hF=>?_) fun _ hF=>?_
  ·refine aJ ?_;refine az ?_;refine c7 ?_;refine az ?_;refine hZ (by decide) (by kernel_rfl) rfl ?_;refine aX SP 2 rfl ?_;obtain⟨y354,hy354,hF⟩:=bB hF
   refine aV SP trivial (cY (tc:=aj) p0 rfl rfl hy354 ?_);refine aX SP 5 rfl ?_;obtain⟨y355,hy355,hF⟩:=bB hF
   refine aV SP trivial (cY (tc:=aj) p0 rfl rfl hy355 ?_);refine QP rfl ?_;refine az ?_;refine wA rfl ?_;refine fQ (fun _ _ h=>h) hF (.inl) (fun(a402,a403)=>[(0,cL 8 aj p0),(5,cI a259),(6,cI a402),(7,cI a403)]) (fun(a402,a403)=>[]) (fun e424=>[(0,cL 8 aj p0),(5,cI a259),(6,cI e424)]) (fun e424=>[]) sw ?_ ?_
   ·rintro e424 hF
    refine wC 2 rfl ?_;obtain⟨y425,hy425,hF⟩:=bB hF
    refine rS (cY (tc:=aj) p0 rfl rfl hy425 ?_);refine QV rfl ?_;refine wIf hF rfl (fun _ hF=>?_) fun _ hF=>?_
    ·refine wA rfl ?_;have hF:=fin_0 _ (oi hF);cases hF
     exact bq wR
    refine aJ ?_;refine wB rfl ?_;exact cont_0 _ _ _ (oi hF) sw
   rintro⟨a402,a403⟩ x_1 hF cont_1 brk_1 fin_1
   unfold uK at hF
   refine az ?_;refine wC 2 rfl ?_;refine rS (d3 (tc:=aj) p0 .tree ?_);refine QV rfl ?_;refine wIf hF rfl (fun _ hF=>?_) fun _ hF=>?_
   ·refine aJ ?_;refine az ?_;refine c7 ?_;refine az ?_;refine wC 2 rfl ?_;obtain⟨y427,hy427,hF⟩:=bB hF
    refine rS (cY (tc:=aj) p0 rfl rfl hy427 ?_);refine QV rfl ?_;refine cz (fun _ _ h=>h) hF (fun v428=>[(0,cL 8 aj p0),(5,cI a259),(6,cI v428),(7,cI a403)]) (fun v428=>[]) ?_ ?_
    ·rintro v428 hF
     refine az ?_;refine cz (fun _ _ h=>h) hF (fun v429=>[(0,cL 8 aj p0),(5,cI a259),(6,cI v428),(7,cI a403),(8,cB v429)]) (fun v429=>[]) ?_ ?_
     ·rintro v429 hF
      refine az ?_;refine cz (fun _ _ h=>h) hF (fun v430=>[(0,cL 8 aj p0),(5,cI a259),(6,cI v428),(7,cI a403),(180,cB v430)]) (fun v430=>[]) ?_ ?_
      ·rintro v430 hF
       refine wIf hF rfl (fun _ hF=>?_) fun _ hF=>?_
       ·refine wA rfl ?_;have hF:=fin_1 _ (oi hF);have hF:=fin_0 _ (oi hF);cases hF
        exact bq wR
       refine aJ ?_;refine wB rfl ?_;exact cont_1 _ _ _ (oi hF) sw
      intro join hF
      refine hZ (by decide) (by kernel_rfl) rfl ?_;refine aX SP 4 rfl ?_;cases h432:(decide (a259<a403))
      ·have hF:=bF' h432 hF;refine QP rfl ?_;exact join false _ _ hF sw
      have hF:=bT' h432 hF;refine aX SP 2 rfl ?_;obtain⟨y433,hy433,hF⟩:=bB' hF
      refine aV SP rfl (cY (tc:=aj) p0 rfl rfl hy433 ?_);refine aX SP 4 rfl ?_;obtain⟨y434,hy434,hF⟩:=bB' hF
      refine aV SP rfl (cY (tc:=aj) p0 rfl rfl hy434 ?_);refine aX SP 5 rfl ?_;cases h435:(decide (y433.fThread=y434.fThread))
      ·have hF:=bF' h435 hF;refine QP rfl ?_;exact join false _ _ hF sw
      have hF:=bT' h435 hF;refine aX SP 3 rfl ?_;cases h436:v429
      ·have hF:=bF' h436 hF;refine QP rfl ?_;exact join false _ _ hF sw
      have hF:=bT' h436 hF;refine aX SP 3 rfl ?_;obtain⟨r437,hr437,hF⟩:=bB' hF
      refine aV SP rfl (cq (J2 _ _ _ _ hr437) ⟨rfl,rfl,rfl,trivial⟩ rfl (.inl rfl) ?_);refine QP rfl ?_;exact join (!r437) _ _ hF sw
     intro join hF
     refine hZ (by decide) (by kernel_rfl) rfl ?_;refine aX SP 2 rfl ?_;obtain⟨y438,hy438,hF⟩:=bB' hF
     refine aV SP trivial (cY (tc:=aj) p0 rfl rfl hy438 ?_);refine aX SP 5 rfl ?_;obtain⟨y439,hy439,hF⟩:=bB' hF
     refine aV SP trivial (cY (tc:=aj) p0 rfl rfl hy439 ?_);refine aX SP 5 rfl ?_;cases h440:(decide (y438.fSpan.fFrom<y439.fSpan.fTo))
     ·have hF:=bF' h440 hF;refine QP rfl ?_;exact join false _ _ hF sw
     have hF:=bT' h440 hF;refine aX SP 2 rfl ?_;obtain⟨y441,hy441,hF⟩:=bB' hF
     refine aV SP rfl (cY (tc:=aj) p0 rfl rfl hy441 ?_);refine aX SP 5 rfl ?_;obtain⟨y442,hy442,hF⟩:=bB' hF
     refine aV SP rfl (cY (tc:=aj) p0 rfl rfl hy442 ?_);refine QP rfl ?_;exact join (decide (y441.fSpan.fFrom<y442.fSpan.fTo)) _ _ hF sw
    intro join hF
    refine tW hF rfl (fun _ hF=>?_) fun _ hF=>?_
    ·refine hZ (by decide) (by kernel_rfl) rfl ?_;refine aX SP 3 rfl ?_;obtain⟨y443,hy443,hF⟩:=bB' hF
     refine aV SP trivial (cY (tc:=aj) p0 rfl rfl hy443 ?_);refine aX SP 5 rfl ?_;obtain⟨y444,hy444,hF⟩:=bB' hF
     refine aV SP trivial (cY (tc:=aj) p0 rfl rfl hy444 ?_);refine QP rfl ?_;exact join (w64 (a402-(w64 (y443.fSpan.fTo-y444.fSpan.fFrom)))) _ _ hF sw
    refine aJ ?_;exact join a402 _ _ hF sw
   refine dZ ?_;refine aQ ?_;refine aQ ?_;refine bj ?_;exact brk_1 _ _ _ (oi hF) sw
  refine dZ ?_;refine aQ ?_;refine aQ ?_;refine bj ?_;exact brk_0 _ _ _ (oi hF) sw
 rintro a46 x_0 hF cont_0 brk_0 fin_0
 unfold pZ at hF
 refine az ?_;refine wC 2 rfl ?_;refine rS (d3 (tc:=aj) p0 .tree ?_);refine QV rfl ?_;refine wIf hF rfl (fun _ hF=>?_) fun _ hF=>?_
 ·refine aJ ?_;refine az ?_;refine c7 ?_;refine wC 2 rfl ?_;obtain⟨y448,hy448,hF⟩:=bB hF
  refine rS (cY (tc:=aj) p0 rfl rfl hy448 ?_);refine QV rfl ?_;refine az ?_;refine az ?_;refine cz (fun _ _ h=>h) hF (fun v449=>[(0,cL 8 aj p0),(3,cI a46),(4,cI y448.fParent),(26,cB v449)]) (fun v449=>[]) ?_ ?_
  ·rintro v449 hF
   refine wIf hF rfl (fun _ hF=>?_) fun _ hF=>?_
   ·refine wA rfl ?_;have hF:=fin_0 _ (oi hF);cases hF
    exact bq wR
   refine aJ ?_;refine az ?_;refine az ?_;refine cz (fun _ _ h=>h) hF (fun v450=>[(0,cL 8 aj p0),(3,cI a46),(4,cI y448.fParent),(36,cB v450)]) (fun v450=>[]) ?_ ?_
   ·rintro v450 hF
    refine wIf hF rfl (fun _ hF=>?_) fun _ hF=>?_
    ·refine wA rfl ?_;have hF:=fin_0 _ (oi hF);cases hF
     exact bq wR
    refine aJ ?_;refine az ?_;refine cz (fun _ _ h=>h) hF (fun v451=>[(0,cL 8 aj p0),(3,cI a46),(79,cB v451)]) (fun v451=>[]) ?_ ?_
    ·rintro v451 hF
     refine wIf hF rfl (fun _ hF=>?_) fun _ hF=>?_
     ·refine wA rfl ?_;have hF:=fin_0 _ (oi hF);cases hF
      exact bq wR
     refine aJ ?_;refine wB rfl ?_;exact cont_0 _ _ _ (oi hF) sw
    intro join hF
    refine hZ (by decide) (by kernel_rfl) rfl ?_;refine aX SP 3 rfl ?_;cases h453:(decide (0≤y448.fParent))
    ·have hF:=bF' h453 hF;refine QP rfl ?_;exact join false _ _ hF sw
    have hF:=bT' h453 hF;refine aX SP 2 rfl ?_;obtain⟨y454,hy454,hF⟩:=bB' hF
    refine aV SP rfl (cY (tc:=aj) p0 rfl rfl hy454 ?_);refine aX SP 4 rfl ?_;obtain⟨y455,hy455,hF⟩:=bB' hF
    refine aV SP rfl (cY (tc:=aj) p0 rfl rfl hy455 ?_);refine aX SP 4 rfl ?_;cases h456:(!decide (y454.fThread=y455.fThread))
    ·have hF:=bF' h456 hF;refine aX SP 2 rfl ?_;obtain⟨y457,hy457,hF⟩:=bB' hF
     refine aV SP rfl (cY (tc:=aj) p0 rfl rfl hy457 ?_);refine aX SP 4 rfl ?_;obtain⟨y458,hy458,hF⟩:=bB' hF
     refine aV SP rfl (cY (tc:=aj) p0 rfl rfl hy458 ?_);refine aX SP 2 rfl ?_;obtain⟨r459,hr459,hF⟩:=bB' hF
     refine aV SP rfl (cq (F7 _ _ _ hr459) ⟨⟨rfl,rfl,trivial⟩,⟨rfl,rfl,trivial⟩,trivial⟩ rfl (.inl rfl) ?_);refine aX SP 3 rfl ?_;cases h460:(!r459)
     ·have hF:=bF' h460 hF;refine aX SP 2 rfl ?_;obtain⟨y461,hy461,hF⟩:=bB' hF
      refine aV SP rfl (cY (tc:=aj) p0 rfl rfl hy461 ?_);refine aX SP 4 rfl ?_;obtain⟨y462,hy462,hF⟩:=bB' hF
      refine aV SP rfl (cY (tc:=aj) p0 rfl rfl hy462 ?_);refine QP rfl ?_;exact join (!decide (y461.fDepth=(w64 (y462.fDepth+1)))) _ _ hF sw
     have hF:=bT' h460 hF;refine QP rfl ?_;exact join true _ _ hF sw
    have hF:=bT' h456 hF;refine QP rfl ?_;exact join true _ _ hF sw
   intro join hF
   refine wD 3 rfl ?_;cases h464:(decide (y448.fParent=(-1)))
   ·have hF:=bF' h464 hF;refine QV rfl ?_;exact join false _ _ hF sw
   have hF:=bT' h464 hF;refine aX SV 2 rfl ?_;obtain⟨y465,hy465,hF⟩:=bB' hF
   refine aV SV rfl (cY (tc:=aj) p0 rfl rfl hy465 ?_);refine QV rfl ?_;exact join (!decide (y465.fDepth=0)) _ _ hF sw
  intro join hF
  refine wD 3 rfl ?_;cases h467:(decide (y448.fParent<(-1)))
  ·have hF:=bF' h467 hF;refine QV rfl ?_;exact join (decide (a46≤y448.fParent)) _ _ hF sw
  have hF:=bT' h467 hF;refine QV rfl ?_;exact join true _ _ hF sw
 refine dZ ?_;refine aQ ?_;refine aQ ?_;refine bj ?_;exact brk_0 _ _ _ (oi hF) sw
def q7(p0:(List aK)):Int→Option (Int ⊕ (Unit ⊕ Int)):=fun a40 =>
  (bif (decide (a40<(List.length p0:Int)))then((((idx p0 a40).bind fun y72=>(bif (decide (y72.fThread<0))then some true else((idx p0 a40).bind fun y74=>(bif (decide (1000000000000000<y74.fThread))then some true else((idx p0 a40).bind fun y76=>((lZ y76.fSpan).bind fun r77=>some (!r77))))))):Option Bool).bind fun v61=>(bif v61 then some (.inr (.inr 2))else((idx p0 a40).bind fun y62=>((j9 y62.fName).bind fun r63=>(bif (!decide (r63=0))then some (.inr (.inr r63))else(((bif (decide (0<a40))then((idx p0 a40).bind fun y67=>((idx p0 (w64 (a40-1))).bind fun y68=>((kW y67 y68).bind fun r69=>some r69)))else some false):Option Bool).bind fun v64=>(bif v64 then some (.inr (.inr 11))else some (.inl (w64 (a40+1))))))))))else some (.inr (.inl ())))
def qq(p0:(List aK)):Option Int :=
  ((loop (q7 p0) 0).bind fun | .inl _=>((tj p0).bind fun r59=>(bif (!r59)then some 10 else some 0)) | .inr rv=>some rv)
theorem J3(p0:(List aK))(r:Int)(hF:qq p0=some r):Fun Tryz.prog 120 true [] [cL 8 aj p0] noHeap (cI r) noHeap:=by
 refine fW Tryz.func120 ?_
 unfold qq at hF
 refine wA rfl ?_;refine az ?_;refine wA rfl ?_;refine fQ (fun _ _ h=>h) hF (.inl) (fun a40=>[(0,cL 8 aj p0),(3,cI a40)]) (fun a40=>[]) (fun _=>[(0,cL 8 aj p0)]) (fun _=>[]) sw ?_ ?_
 ·rintro⟨⟩ hF
  refine az ?_;refine wC 1 rfl ?_;obtain⟨r59,hr59,hF⟩:=bB hF
  refine rS (cq (IX _ _ hr59) ⟨rfl,trivial⟩ rfl (.inl rfl) ?_);refine QV rfl ?_;refine wIf hF rfl (fun _ hF=>?_) fun _ hF=>?_
  ·refine wA rfl ?_;cases hF
   exact bq wR
  refine aJ ?_;refine wA rfl ?_;cases hF
  exact bq wR
 rintro a40 x_0 hF cont_0 brk_0 fin_0
 unfold q7 at hF
 refine az ?_;refine wC 2 rfl ?_;refine rS (d3 (tc:=aj) p0 .tree ?_);refine QV rfl ?_;refine wIf hF rfl (fun _ hF=>?_) fun _ hF=>?_
 ·refine aJ ?_;refine az ?_;refine c7 ?_;refine az ?_;refine az ?_;refine cz (fun _ _ h=>h) hF (fun v61=>[(0,cL 8 aj p0),(3,cI a40),(33,cB v61)]) (fun v61=>[]) ?_ ?_
  ·rintro v61 hF
   refine wIf hF rfl (fun _ hF=>?_) fun _ hF=>?_
   ·refine wA rfl ?_;have hF:=fin_0 _ (oi hF);cases hF
    exact bq wR
   refine aJ ?_;refine wC 2 rfl ?_;obtain⟨y62,hy62,hF⟩:=bB hF
   refine rS (cY (tc:=aj) p0 rfl rfl hy62 ?_);refine aX SV 2 rfl ?_;obtain⟨r63,hr63,hF⟩:=bB hF
   refine rS (cq (q5 _ _ hr63) ⟨rfl,trivial⟩ rfl (.inl rfl) ?_);refine QV rfl ?_;refine az ?_;refine wA rfl ?_;refine wIf hF rfl (fun _ hF=>?_) fun _ hF=>?_
   ·refine wA rfl ?_;have hF:=fin_0 _ (oi hF);cases hF
    exact bq wR
   refine aJ ?_;refine az ?_;refine cz (fun _ _ h=>h) hF (fun v64=>[(0,cL 8 aj p0),(3,cI a40),(56,cB v64)]) (fun v64=>[]) ?_ ?_
   ·rintro v64 hF
    refine wIf hF rfl (fun _ hF=>?_) fun _ hF=>?_
    ·refine wA rfl ?_;have hF:=fin_0 _ (oi hF);cases hF
     exact bq wR
    refine aJ ?_;refine wB rfl ?_;exact cont_0 _ _ _ (oi hF) sw
   intro join hF
   refine hZ (by decide) (by kernel_rfl) rfl ?_;refine aX SP 3 rfl ?_;cases h66:(decide (0<a40))
   ·have hF:=bF' h66 hF;refine QP rfl ?_;exact join false _ _ hF sw
   have hF:=bT' h66 hF;refine aX SP 2 rfl ?_;obtain⟨y67,hy67,hF⟩:=bB' hF
   refine aV SP rfl (cY (tc:=aj) p0 rfl rfl hy67 ?_);refine aX SP 4 rfl ?_;obtain⟨y68,hy68,hF⟩:=bB' hF
   refine aV SP rfl (cY (tc:=aj) p0 rfl rfl hy68 ?_);refine aX SP 1 rfl ?_;obtain⟨r69,hr69,hF⟩:=bB' hF
   refine aV SP rfl (cq (Gj _ _ _ hr69) ⟨⟨rfl,rfl,rfl,rfl,rfl,rfl,rfl,rfl,trivial⟩,⟨rfl,rfl,rfl,rfl,rfl,rfl,rfl,rfl,trivial⟩,trivial⟩ rfl (.inl rfl) ?_)
   refine QP rfl ?_;exact join r69 _ _ hF sw
  intro join hF
  refine wD 2 rfl ?_;obtain⟨y72,hy72,hF⟩:=bB' hF
  refine rS (cY (tc:=aj) p0 rfl rfl hy72 ?_);refine aX SV 4 rfl ?_;cases h73:(decide (y72.fThread<0))
  ·have hF:=bF' h73 hF;refine aX SV 2 rfl ?_;obtain⟨y74,hy74,hF⟩:=bB' hF
   refine aV SV rfl (cY (tc:=aj) p0 rfl rfl hy74 ?_);refine aX SV 5 rfl ?_;cases h75:(decide (1000000000000000<y74.fThread))
   ·have hF:=bF' h75 hF;refine aX SV 2 rfl ?_;obtain⟨y76,hy76,hF⟩:=bB' hF
    refine aV SV rfl (cY (tc:=aj) p0 rfl rfl hy76 ?_);refine aX SV 2 rfl ?_;obtain⟨r77,hr77,hF⟩:=bB' hF
    refine aV SV rfl (cq (pz _ _ hr77) ⟨⟨rfl,rfl,trivial⟩,trivial⟩ rfl (.inl rfl) ?_);refine QV rfl ?_;exact join (!r77) _ _ hF sw
   have hF:=bT' h75 hF;refine QV rfl ?_;exact join true _ _ hF sw
  have hF:=bT' h73 hF;refine QV rfl ?_;exact join true _ _ hF sw
 refine dZ ?_;refine aQ ?_;refine aQ ?_;refine bj ?_;exact brk_0 _ _ _ (oi hF) sw
def tZ(p0:aY)(p1:Int):Int→Option (Int ⊕ (Unit ⊕ Bool)):=fun a10 =>
  (bif (decide (a10<(List.length p0.fThreads:Int)))then((idx p0.fThreads a10).bind fun y14=>(bif (decide (y14.fId=p1))then some (.inr (.inr true))else some (.inl (w64 (a10+1)))))else some (.inr (.inl ())))
def jq(p0:aY)(p1:Int):Option Bool :=
  ((loop (tZ p0 p1) 0).bind fun | .inl _=>some false | .inr rv=>some rv)
theorem l5(p0:aY)(p1:Int)(r:Bool)(hF:jq p0 p1=some r):Fun Tryz.prog 121 true [] [.agg (aW p0),cI p1] noHeap (cB r) noHeap:=by
 refine fW Tryz.func121 ?_
 unfold jq at hF
 refine wA rfl ?_;refine az ?_;refine wA rfl ?_;refine fQ (fun _ _ h=>h) hF (.inl) (fun a10=>[(1,cI p1),(2,cP (2,0) 0),(5,cI a10)]) (fun a10=>[((2,0),.box (aW p0))]) (fun _=>[]) (fun _=>[]) sw ?_ ?_
 ·rintro⟨⟩ hF
  refine wA rfl ?_;cases hF
  exact bq wR
 rintro a10 x_0 hF cont_0 brk_0 fin_0
 unfold tZ at hF
 refine az ?_;refine wC 3 rfl ?_;refine rS (d3 (tc:=cV) p0.fThreads .tree ?_);refine QV rfl ?_;refine wIf hF rfl (fun _ hF=>?_) fun _ hF=>?_
 ·refine aJ ?_;refine az ?_;refine c7 ?_;refine wC 3 rfl ?_;obtain⟨y14,hy14,hF⟩:=bB hF
  refine rS (cY (tc:=cV) p0.fThreads rfl rfl hy14 ?_);refine QV rfl ?_;refine wIf hF rfl (fun _ hF=>?_) fun _ hF=>?_
  ·refine wA rfl ?_;have hF:=fin_0 _ (oi hF);cases hF
   exact bq wR
  refine aJ ?_;refine wB rfl ?_;exact cont_0 _ _ _ (oi hF) sw
 refine dZ ?_;refine aQ ?_;refine aQ ?_;refine bj ?_;exact brk_0 _ _ _ (oi hF) sw
def qK(p0:(List dz))(p1:Int):Int→Option (Int ⊕ (Unit ⊕ Int)):=fun a10 =>
  (bif (decide (a10<(List.length p0:Int)))then((idx p0 a10).bind fun y14=>(bif (decide (y14.fId=p1))then some (.inr (.inr a10))else some (.inl (w64 (a10+1)))))else some (.inr (.inl ())))
def m9(p0:(List dz))(p1:Int):Option Int :=
  ((loop (qK p0 p1) 0).bind fun | .inl _=>some (-1) | .inr rv=>some rv)
theorem BW(p0:(List dz))(p1:Int)(r:Int)(hF:m9 p0 p1=some r):Fun Tryz.prog 142 true [] [cL 3 cV p0,cI p1] noHeap (cI r) noHeap:=by
 refine fW Tryz.func142 ?_
 unfold m9 at hF
 refine wA rfl ?_;refine az ?_;refine wA rfl ?_;refine fQ (fun _ _ h=>h) hF (.inl) (fun a10=>[(0,cL 3 cV p0),(1,cI p1),(5,cI a10)]) (fun a10=>[]) (fun _=>[]) (fun _=>[]) sw ?_ ?_
 ·rintro⟨⟩ hF
  refine wA rfl ?_;cases hF
  exact bq wR
 rintro a10 x_0 hF cont_0 brk_0 fin_0
 unfold qK at hF
 refine az ?_;refine wC 2 rfl ?_;refine rS (d3 (tc:=cV) p0 .tree ?_);refine QV rfl ?_;refine wIf hF rfl (fun _ hF=>?_) fun _ hF=>?_
 ·refine aJ ?_;refine az ?_;refine c7 ?_;refine wC 2 rfl ?_;obtain⟨y14,hy14,hF⟩:=bB hF
  refine rS (cY (tc:=cV) p0 rfl rfl hy14 ?_);refine QV rfl ?_;refine wIf hF rfl (fun _ hF=>?_) fun _ hF=>?_
  ·refine wA rfl ?_;have hF:=fin_0 _ (oi hF);cases hF
   exact bq wR
  refine aJ ?_;refine wB rfl ?_;exact cont_0 _ _ _ (oi hF) sw
 refine dZ ?_;refine aQ ?_;refine aQ ?_;refine bj ?_;exact brk_0 _ _ _ (oi hF) sw
def tx(p0:(List dz)):((List dz)×Int)→Option (((List dz)×Int) ⊕ (List dz)):=fun(a21,a22) =>
  (bif (decide (a22<(List.length p0:Int)))then((((idx p0 a22).bind fun y32=>((m9 a21 y32.fId).bind fun r33=>(bif (decide (r33<0))then((idx p0 a22).bind fun y34=>(bif KV 32 (List.length a21+List.length [y34])then some (a21++[y34])else none))else some a21))):Option (List dz)).bind fun v31=>some (.inl (v31,(w64 (a22+1)))))else some (.inr a21))
def kZ(p0:(List dz)):Option (List dz) :=
  ((loop (tx p0) ([],0)).bind fun e30=>some e30)
theorem F9(p0:(List dz))(r:(List dz))(hF:kZ p0=some r):Fun Tryz.prog 141 false [] [cL 3 cV p0] (aZ []) (cO (902,5640)) (aZ [((902,5640),.arr 76 3 (List.map cV r))]):=by
 refine fM [] (some []) Tryz.func141 ?_
 unfold kZ at hF
 refine wA rfl ?_;refine wA rfl ?_;refine az ?_;refine wA rfl ?_;refine fQ (fun _ _ h=>h) hF (id) (fun(a21,a22)=>[(0,cL 3 cV p0),(3,cO (25,1)),(4,cI a22)]) (fun(a21,a22)=>[((25,1),.arr 76 3 (List.map cV a21))]) (fun e30=>[(3,cO (25,1))]) (fun e30=>[((25,1),.arr 76 3 (List.map cV e30))]) (IW 3 (25,1) 76 3 rfl rfl rfl rfl sw) ?_ ?_
 ·rintro e30 hF
  refine wA rfl ?_;cases hF
  exact bq ⟨_,_,(vq (25,1) (902,5640) rfl rfl fq),_,rfl,rfl,rfl,(AgM.weak ⟨rfl,trivial⟩)⟩
 rintro⟨a21,a22⟩ x_0 hF cont_0 brk_0 fin_0
 unfold tx at hF
 refine az ?_;refine wC 2 rfl ?_;refine rS (d3 (tc:=cV) p0 .tree ?_);refine QV rfl ?_;refine wIf hF rfl (fun _ hF=>?_) fun _ hF=>?_
 ·refine aJ ?_;refine az ?_;refine cz (fun _ _ h=>h) hF (fun v31=>[(0,cL 3 cV p0),(3,cO (25,1)),(4,cI a22)]) (fun v31=>[((25,1),.arr 76 3 (List.map cV v31))]) ?_ ?_
  ·rintro v31 hF
   refine wB rfl ?_;exact cont_0 _ _ _ (oi hF) sw
  intro join hF
  refine c7 ?_;refine wC 3 rfl ?_;obtain⟨y32,hy32,hF⟩:=bB' hF
  refine rS (cY (tc:=cV) p0 rfl rfl hy32 ?_);refine aX SV 2 rfl ?_;obtain⟨r33,hr33,hF⟩:=bB' hF
  refine rS (cq (BW _ _ _ hr33) ⟨⟨_,rfl⟩,rfl,trivial⟩ rfl (.inl rfl) ?_);refine QV rfl ?_;refine tW hF rfl (fun _ hF=>?_) fun _ hF=>?_
  ·refine wD 3 rfl ?_;obtain⟨y34,hy34,hF⟩:=bB' hF
   refine rS (cY (tc:=cV) p0 rfl rfl hy34 ?_);refine aX SV 1 rfl ?_;refine rS (AQ (tc:=cV) [y34] rfl ⟨rfl,rfl,rfl,trivial⟩ rfl (fun _=>rfl) rfl ?_)
   obtain⟨h35,hF⟩:=LV hF
   refine rS (Ej (tc:=cV) a21 [y34] rfl rfl (.own _ _ rfl) h35 rfl ?_);refine QV rfl ?_;exact join (a21++[y34]) _ _ hF (vq (25,0) (25,1) rfl rfl sw)
  refine aJ ?_;exact join a21 _ _ hF sw
 refine dZ ?_;refine aQ ?_;refine aQ ?_;refine bj ?_;exact brk_0 _ _ _ (oi hF) sw
def p9(p0:cZ):Option Bool :=
  (((bif (decide (p0.fState<0))then some true else some (decide (5<p0.fState))):Option Bool).bind fun v1=>(bif v1 then some false else(((bif (decide (p0.fState=4))then(bif (decide (p0.fCpu<0))then some true else(bif (decide (63<p0.fCpu))then some true else(bif (!decide (p0.fState=4))then some (!decide (p0.fCpu=(-1)))else some false)))else(bif (!decide (p0.fState=4))then some (!decide (p0.fCpu=(-1)))else some false)):Option Bool).bind fun v2=>(bif v2 then some false else(((bif (decide (p0.fState=2))then(bif (decide (p0.fOn<0))then some true else(bif (decide (1000000000000000<p0.fOn))then some true else(bif (!decide (p0.fState=2))then some (!decide (p0.fOn=(-1)))else some false)))else(bif (!decide (p0.fState=2))then some (!decide (p0.fOn=(-1)))else some false)):Option Bool).bind fun v3=>(bif v3 then some false else(((bif (decide (p0.fBy=(-1)))then some true else(bif (decide (0≤p0.fBy))then(bif (decide (p0.fBy≤1000000000000000))then(bif (decide (p0.fState=1))then some true else some (decide (p0.fState=2)))else some false)else some false)):Option Bool).bind fun v4=>some v4)))))))
theorem J4(p0:cZ)(r:Bool)(hF:p9 p0=some r):Fun Tryz.prog 143 true [] [.agg (j2 p0)] noHeap (cB r) noHeap:=by
 refine fW Tryz.func143 ?_
 unfold p9 at hF
 refine wA rfl ?_;refine az ?_;refine az ?_;refine cz (fun _ _ h=>h) hF (fun v1=>[(1,cP (1,0) 0),(10,cB v1)]) (fun v1=>[((1,0),.box (j2 p0))]) ?_ ?_
 ·rintro v1 hF
  refine wIf hF rfl (fun _ hF=>?_) fun _ hF=>?_
  ·refine wA rfl ?_;cases hF
   exact bq wR
  refine aJ ?_;refine az ?_;refine az ?_;refine cz (fun _ _ h=>h) hF (fun v2=>[(1,cP (1,0) 0),(33,cB v2)]) (fun v2=>[((1,0),.box (j2 p0))]) ?_ ?_
  ·rintro v2 hF
   refine wIf hF rfl (fun _ hF=>?_) fun _ hF=>?_
   ·refine wA rfl ?_;cases hF
    exact bq wR
   refine aJ ?_;refine az ?_;refine az ?_;refine cz (fun _ _ h=>h) hF (fun v3=>[(1,cP (1,0) 0),(56,cB v3)]) (fun v3=>[((1,0),.box (j2 p0))]) ?_ ?_
   ·rintro v3 hF
    refine wIf hF rfl (fun _ hF=>?_) fun _ hF=>?_
    ·refine wA rfl ?_;cases hF
     exact bq wR
    refine aJ ?_;refine az ?_;refine cz (fun _ _ h=>h) hF (fun v4=>[(2,cB v4)]) (fun v4=>[]) ?_ ?_
    ·rintro v4 hF
     cases hF
     exact bq wR
    intro join hF
    refine wD 4 rfl ?_;cases h5:(decide (p0.fBy=(-1)))
    ·have hF:=bF' h5 hF;refine aX SV 4 rfl ?_;cases h6:(decide (0≤p0.fBy))
     ·have hF:=bF' h6 hF;refine QV rfl ?_;exact join false _ _ hF sw
     have hF:=bT' h6 hF;refine aX SV 5 rfl ?_;cases h7:(decide (p0.fBy≤1000000000000000))
     ·have hF:=bF' h7 hF;refine QV rfl ?_;exact join false _ _ hF sw
     have hF:=bT' h7 hF;refine aX SV 4 rfl ?_;cases h8:(decide (p0.fState=1))
     ·have hF:=bF' h8 hF;refine QV rfl ?_;exact join (decide (p0.fState=2)) _ _ hF sw
     have hF:=bT' h8 hF;refine QV rfl ?_;exact join true _ _ hF sw
    have hF:=bT' h5 hF;refine QV rfl ?_;exact join true _ _ hF sw
   intro join hF
   refine wD 4 rfl ?_;cases h10:(decide (p0.fState=2))
   ·have hF:=bF' h10 hF;refine aX SV 14 rfl ?_;cases h11:(!decide (p0.fState=2))
    ·have hF:=bF' h11 hF;refine QV rfl ?_;exact join false _ _ hF sw
    have hF:=bT' h11 hF;refine QV rfl ?_;exact join (!decide (p0.fOn=(-1))) _ _ hF sw
   have hF:=bT' h10 hF;refine aX SV 4 rfl ?_;cases h12:(decide (p0.fOn<0))
   ·have hF:=bF' h12 hF;refine aX SV 6 rfl ?_;cases h13:(decide (1000000000000000<p0.fOn))
    ·have hF:=bF' h13 hF;refine aX SV 4 rfl ?_;cases h14:(!decide (p0.fState=2))
     ·have hF:=bF' h14 hF;refine QV rfl ?_;exact join false _ _ hF sw
     have hF:=bT' h14 hF;refine QV rfl ?_;exact join (!decide (p0.fOn=(-1))) _ _ hF sw
    have hF:=bT' h13 hF;refine QV rfl ?_;exact join true _ _ hF sw
   have hF:=bT' h12 hF;refine QV rfl ?_;exact join true _ _ hF sw
  intro join hF
  refine wD 4 rfl ?_;cases h16:(decide (p0.fState=4))
  ·have hF:=bF' h16 hF;refine aX SV 14 rfl ?_;cases h17:(!decide (p0.fState=4))
   ·have hF:=bF' h17 hF;refine QV rfl ?_;exact join false _ _ hF sw
   have hF:=bT' h17 hF;refine QV rfl ?_;exact join (!decide (p0.fCpu=(-1))) _ _ hF sw
  have hF:=bT' h16 hF;refine aX SV 4 rfl ?_;cases h18:(decide (p0.fCpu<0))
  ·have hF:=bF' h18 hF;refine aX SV 6 rfl ?_;cases h19:(decide (63<p0.fCpu))
   ·have hF:=bF' h19 hF;refine aX SV 4 rfl ?_;cases h20:(!decide (p0.fState=4))
    ·have hF:=bF' h20 hF;refine QV rfl ?_;exact join false _ _ hF sw
    have hF:=bT' h20 hF;refine QV rfl ?_;exact join (!decide (p0.fCpu=(-1))) _ _ hF sw
   have hF:=bT' h19 hF;refine QV rfl ?_;exact join true _ _ hF sw
  have hF:=bT' h18 hF;refine QV rfl ?_;exact join true _ _ hF sw
 intro join hF
 refine wD 4 rfl ?_;cases h22:(decide (p0.fState<0))
 ·have hF:=bF' h22 hF;refine QV rfl ?_;exact join (decide (5<p0.fState)) _ _ hF sw
 have hF:=bT' h22 hF;refine QV rfl ?_;exact join true _ _ hF sw
def rq(p1:(List cZ)):Int→Option (Int ⊕ (Unit ⊕ Int)):=fun a117 =>
  (bif (decide (a117<(List.length p1:Int)))then((((idx p1 a117).bind fun y128=>((idx p1 (w64 (a117-1))).bind fun y129=>(bif (!decide (y128.fThread=y129.fThread))then((idx p1 (w64 (a117-1))).bind fun y131=>((idx p1 (w64 ((List.length p1:Int)-1))).bind fun y132=>some (!decide (y131.fSpan.fTo=y132.fSpan.fTo))))else some false))):Option Bool).bind fun v126=>(bif v126 then some (.inr (.inr 11))else some (.inl (w64 (a117+1)))))else some (.inr (.inl ())))
def nz(p1:(List cZ))(r1:(List dz)):(Int×Int)→Option ((Int×Int) ⊕ (Int ⊕ Int)):=fun(a66,a67) =>
  (bif (decide (a67<(List.length p1:Int)))then((idx p1 a67).bind fun y135=>((m9 r1 y135.fThread).bind fun r136=>(bif (decide (r136<0))then some (.inr (.inr 5))else((idx p1 a67).bind fun y137=>((lZ y137.fSpan).bind fun r138=>(bif (!r138)then some (.inr (.inr 2))else((idx p1 a67).bind fun y139=>((p9 y139).bind fun r140=>(bif (!r140)then some (.inr (.inr 1))else(((bif (decide (0<a67))then((idx p1 (w64 (a67-1))).bind fun y158=>((idx p1 a67).bind fun y159=>some (decide (y158.fThread=y159.fThread))))else some false):Option Bool).bind fun v141=>(bif v141 then((idx p1 (w64 (a67-1))).bind fun y142=>((((idx p1 a67).bind fun y145=>(bif (!decide (y142.fSpan.fTo=y145.fSpan.fFrom))then some true else((idx p1 a67).bind fun y147=>(bif (decide (y142.fState=y147.fState))then((idx p1 a67).bind fun y149=>(bif (decide (y142.fCpu=y149.fCpu))then((idx p1 a67).bind fun y151=>some (decide (y142.fOn=y151.fOn)))else some false))else some false)))):Option Bool).bind fun v143=>(bif v143 then some (.inr (.inr 11))else some (.inl (a66,(w64 (a67+1)))))))else((((idx p1 a67).bind fun y154=>(bif (!decide (y154.fSpan.fFrom=0))then some true else some (!decide (r136=(w64 (a66+1)))))):Option Bool).bind fun v152=>(bif v152 then some (.inr (.inr 11))else some (.inl (r136,(w64 (a67+1)))))))))))))))))else some (.inr (.inl a66)))
def qx(p0:(List dz))(p1:(List cZ)):Option Int :=
  ((kZ p0).bind fun r1=>(bif (decide ((List.length p1:Int)=0))then some 0 else((loop (nz p1 r1) ((-1),0)).bind fun | .inl e97=>(bif (!decide (e97=(w64 ((List.length r1:Int)-1))))then some 11 else((loop (rq p1) 1).bind fun | .inl _=>some 0 | .inr rv=>some rv)) | .inr rv=>some rv)))
theorem Kz(p0:(List dz))(p1:(List cZ))(r:Int)(hF:qx p0 p1=some r):Fun Tryz.prog 122 true [] [cL 3 cV p0,cL 7 bz p1] noHeap (cI r) noHeap:=by
 refine fW Tryz.func122 ?_
 unfold qx at hF
 refine wA rfl ?_;refine wC 1 rfl ?_;obtain⟨r1,hr1,hF⟩:=bB hF
 refine lq trivial (nY [((902,5640),(11,1))] rfl (zW _) (F9 _ _ hr1) trivial ⟨.inl rfl,trivial⟩ rfl rfl rfl ?_);refine QV rfl ?_;refine az ?_;refine wC 1 rfl ?_
 refine rS (d3 (tc:=bz) p1 .tree ?_);refine QV rfl ?_;refine wIf hF rfl (fun _ hF=>?_) fun _ hF=>?_
 ·refine wA rfl ?_;cases hF
  exact bq wR
 refine aJ ?_;refine wA rfl ?_;refine az ?_;refine wA rfl ?_;refine fQ (fun _ _ h=>h) hF (.inl) (fun(a66,a67)=>[(0,cO (11,1)),(1,cL 7 bz p1),(5,cI a66),(6,cI a67)]) (fun(a66,a67)=>[((11,1),.arr 76 3 (List.map cV r1))]) (fun e97=>[(0,cO (11,1)),(1,cL 7 bz p1),(5,cI e97)]) (fun e97=>[((11,1),.arr 76 3 (List.map cV r1))]) sw ?_ ?_
 ·rintro e97 hF
  refine az ?_;refine wC 2 rfl ?_;refine rS (d3 (tc:=cV) r1 (.own _ _ rfl) ?_);refine QV rfl ?_;refine wIf hF rfl (fun _ hF=>?_) fun _ hF=>?_
  ·refine wA rfl ?_;cases hF
   exact bq wR
  refine aJ ?_;refine az ?_;refine wA rfl ?_;refine fQ (fun _ _ h=>h) hF (.inl) (fun a117=>[(1,cL 7 bz p1),(9,cI a117)]) (fun a117=>[]) (fun _=>[]) (fun _=>[]) sw ?_ ?_
  ·rintro⟨⟩ hF
   refine wA rfl ?_;cases hF
   exact bq wR
  rintro a117 x_0 hF cont_0 brk_0 fin_0
  unfold rq at hF
  refine az ?_;refine wC 2 rfl ?_;refine rS (d3 (tc:=bz) p1 .tree ?_);refine QV rfl ?_;refine wIf hF rfl (fun _ hF=>?_) fun _ hF=>?_
  ·refine aJ ?_;refine az ?_;refine c7 ?_;refine az ?_;refine cz (fun _ _ h=>h) hF (fun v126=>[(1,cL 7 bz p1),(9,cI a117),(158,cB v126)]) (fun v126=>[]) ?_ ?_
   ·rintro v126 hF
    refine wIf hF rfl (fun _ hF=>?_) fun _ hF=>?_
    ·refine wA rfl ?_;have hF:=fin_0 _ (oi hF);cases hF
     exact bq wR
    refine aJ ?_;refine wB rfl ?_;exact cont_0 _ _ _ (oi hF) sw
   intro join hF
   refine hZ (by decide) (by kernel_rfl) rfl ?_;refine aX SP 2 rfl ?_;obtain⟨y128,hy128,hF⟩:=bB' hF
   refine aV SP trivial (cY (tc:=bz) p1 rfl rfl hy128 ?_);refine aX SP 5 rfl ?_;obtain⟨y129,hy129,hF⟩:=bB' hF
   refine aV SP trivial (cY (tc:=bz) p1 rfl rfl hy129 ?_);refine aX SP 4 rfl ?_;cases h130:(!decide (y128.fThread=y129.fThread))
   ·have hF:=bF' h130 hF;refine QP rfl ?_;exact join false _ _ hF sw
   have hF:=bT' h130 hF;refine aX SP 3 rfl ?_;obtain⟨y131,hy131,hF⟩:=bB' hF
   refine aV SP rfl (cY (tc:=bz) p1 rfl rfl hy131 ?_);refine aX SP 5 rfl ?_;refine aV SP rfl (d3 (tc:=bz) p1 .tree ?_);refine aX SP 1 rfl ?_;obtain⟨y132,hy132,hF⟩:=bB' hF
   refine aV SP rfl (cY (tc:=bz) p1 rfl rfl hy132 ?_);refine QP rfl ?_;exact join (!decide (y131.fSpan.fTo=y132.fSpan.fTo)) _ _ hF sw
  refine dZ ?_;refine aQ ?_;refine aQ ?_;refine bj ?_;exact brk_0 _ _ _ (oi hF) sw
 rintro⟨a66,a67⟩ x_0 hF cont_0 brk_0 fin_0
 unfold nz at hF
 refine az ?_;refine wC 2 rfl ?_;refine rS (d3 (tc:=bz) p1 .tree ?_);refine QV rfl ?_;refine wIf hF rfl (fun _ hF=>?_) fun _ hF=>?_
 ·refine aJ ?_;refine az ?_;refine c7 ?_;refine wC 3 rfl ?_;obtain⟨y135,hy135,hF⟩:=bB hF
  refine rS (cY (tc:=bz) p1 rfl rfl hy135 ?_);refine aX SV 2 rfl ?_;obtain⟨r136,hr136,hF⟩:=bB hF
  refine rS (cq (BW _ _ _ hr136) ⟨⟨_,rfl⟩,rfl,trivial⟩ rfl (.inl rfl) ?_);refine QV rfl ?_;refine az ?_;refine wA rfl ?_;refine wIf hF rfl (fun _ hF=>?_) fun _ hF=>?_
  ·refine wA rfl ?_;have hF:=fin_0 _ (oi hF);cases hF
   exact bq wR
  refine aJ ?_;refine az ?_;refine wC 2 rfl ?_;obtain⟨y137,hy137,hF⟩:=bB hF
  refine rS (cY (tc:=bz) p1 rfl rfl hy137 ?_);refine aX SV 2 rfl ?_;obtain⟨r138,hr138,hF⟩:=bB hF
  refine rS (cq (pz _ _ hr138) ⟨⟨rfl,rfl,trivial⟩,trivial⟩ rfl (.inl rfl) ?_);refine QV rfl ?_;refine wIf hF rfl (fun _ hF=>?_) fun _ hF=>?_
  ·refine wA rfl ?_;have hF:=fin_0 _ (oi hF);cases hF
   exact bq wR
  refine aJ ?_;refine az ?_;refine wC 2 rfl ?_;obtain⟨y139,hy139,hF⟩:=bB hF
  refine rS (cY (tc:=bz) p1 rfl rfl hy139 ?_);refine aX SV 1 rfl ?_;obtain⟨r140,hr140,hF⟩:=bB hF
  refine rS (cq (J4 _ _ hr140) ⟨⟨rfl,rfl,rfl,rfl,rfl,rfl,rfl,trivial⟩,trivial⟩ rfl (.inl rfl) ?_);refine QV rfl ?_;refine wIf hF rfl (fun _ hF=>?_) fun _ hF=>?_
  ·refine wA rfl ?_;have hF:=fin_0 _ (oi hF);cases hF
   exact bq wR
  refine aJ ?_;refine az ?_;refine cz (fun _ _ h=>h) hF (fun v141=>[(0,cO (11,1)),(1,cL 7 bz p1),(5,cI a66),(6,cI a67),(7,cI r136),(58,cB v141)]) (fun v141=>[((11,1),.arr 76 3 (List.map cV r1))]) ?_ ?_
  ·rintro v141 hF
   refine wIf hF rfl (fun _ hF=>?_) fun _ hF=>?_
   ·refine wC 3 rfl ?_;obtain⟨y142,hy142,hF⟩:=bB hF
    refine rS (cY (tc:=bz) p1 rfl rfl hy142 ?_);refine QV rfl ?_;refine az ?_;refine cz (fun _ _ h=>h) hF (fun v143=>[(0,cO (11,1)),(1,cL 7 bz p1),(5,cI a66),(6,cI a67),(103,cB v143)]) (fun v143=>[((11,1),.arr 76 3 (List.map cV r1))]) ?_ ?_
    ·rintro v143 hF
     refine wIf hF rfl (fun _ hF=>?_) fun _ hF=>?_
     ·refine wA rfl ?_;have hF:=fin_0 _ (oi hF);cases hF
      exact bq wR
     refine aJ ?_;refine wB rfl ?_;exact cont_0 _ _ _ (oi hF) sw
    intro join hF
    refine hZ (by decide) (by kernel_rfl) rfl ?_;refine aX SP 5 rfl ?_;obtain⟨y145,hy145,hF⟩:=bB' hF
    refine aV SP trivial (cY (tc:=bz) p1 rfl rfl hy145 ?_);refine aX SP 5 rfl ?_;cases h146:(!decide (y142.fSpan.fTo=y145.fSpan.fFrom))
    ·have hF:=bF' h146 hF;refine aX SP 4 rfl ?_;obtain⟨y147,hy147,hF⟩:=bB' hF
     refine aV SP rfl (cY (tc:=bz) p1 rfl rfl hy147 ?_);refine aX SP 4 rfl ?_;cases h148:(decide (y142.fState=y147.fState))
     ·have hF:=bF' h148 hF;refine QP rfl ?_;exact join false _ _ hF sw
     have hF:=bT' h148 hF;refine aX SP 4 rfl ?_;obtain⟨y149,hy149,hF⟩:=bB' hF
     refine aV SP rfl (cY (tc:=bz) p1 rfl rfl hy149 ?_);refine aX SP 5 rfl ?_;cases h150:(decide (y142.fCpu=y149.fCpu))
     ·have hF:=bF' h150 hF;refine QP rfl ?_;exact join false _ _ hF sw
     have hF:=bT' h150 hF;refine aX SP 4 rfl ?_;obtain⟨y151,hy151,hF⟩:=bB' hF
     refine aV SP rfl (cY (tc:=bz) p1 rfl rfl hy151 ?_);refine QP rfl ?_;exact join (decide (y142.fOn=y151.fOn)) _ _ hF sw
    have hF:=bT' h146 hF;refine QP rfl ?_;exact join true _ _ hF sw
   refine az ?_;refine az ?_;refine cz (fun _ _ h=>h) hF (fun v152=>[(0,cO (11,1)),(1,cL 7 bz p1),(6,cI a67),(7,cI r136),(116,cB v152)]) (fun v152=>[((11,1),.arr 76 3 (List.map cV r1))]) ?_ ?_
   ·rintro v152 hF
    refine wIf hF rfl (fun _ hF=>?_) fun _ hF=>?_
    ·refine wA rfl ?_;have hF:=fin_0 _ (oi hF);cases hF
     exact bq wR
    refine aJ ?_;refine wB rfl ?_;refine wB rfl ?_;exact cont_0 _ _ _ (oi hF) sw
   intro join hF
   refine wD 2 rfl ?_;obtain⟨y154,hy154,hF⟩:=bB' hF
   refine rS (cY (tc:=bz) p1 rfl rfl hy154 ?_);refine aX SV 5 rfl ?_;cases h155:(!decide (y154.fSpan.fFrom=0))
   ·have hF:=bF' h155 hF;refine QV rfl ?_;exact join (!decide (r136=(w64 (a66+1)))) _ _ hF sw
   have hF:=bT' h155 hF;refine QV rfl ?_;exact join true _ _ hF sw
  intro join hF
  refine hZ (by decide) (by kernel_rfl) rfl ?_;refine aX SP 3 rfl ?_;cases h157:(decide (0<a67))
  ·have hF:=bF' h157 hF;refine QP rfl ?_;exact join false _ _ hF sw
  have hF:=bT' h157 hF;refine aX SP 3 rfl ?_;obtain⟨y158,hy158,hF⟩:=bB' hF
  refine aV SP rfl (cY (tc:=bz) p1 rfl rfl hy158 ?_);refine aX SP 4 rfl ?_;obtain⟨y159,hy159,hF⟩:=bB' hF
  refine aV SP rfl (cY (tc:=bz) p1 rfl rfl hy159 ?_);refine QP rfl ?_;exact join (decide (y158.fThread=y159.fThread)) _ _ hF sw
 refine dZ ?_;refine aQ ?_;refine aQ ?_;refine bj ?_;exact brk_0 _ _ _ (oi hF) sw
def iX(p0:Int):Option Bool :=
  (((bif (decide (0≤p0))then some (decide (p0≤1000000000000000))else some false):Option Bool).bind fun v1=>some v1)
theorem lX(p0:Int)(r:Bool)(hF:iX p0=some r):Fun Tryz.prog 144 true [] [cI p0] noHeap (cB r) noHeap:=by
 refine fW Tryz.func144 ?_
 unfold iX at hF
 refine wA rfl ?_;refine az ?_;refine cz (fun _ _ h=>h) hF (fun v1=>[(2,cB v1)]) (fun v1=>[]) ?_ ?_
 ·rintro v1 hF
  cases hF
  exact bq wR
 intro join hF
 refine wD 3 rfl ?_;cases h2:(decide (0≤p0))
 ·have hF:=bF' h2 hF;refine QV rfl ?_;exact join false _ _ hF sw
 have hF:=bT' h2 hF;refine QV rfl ?_;exact join (decide (p0≤1000000000000000)) _ _ hF sw
def lK(p0:Int):Option Bool :=
  (((bif (decide (0≤p0))then some (decide (p0≤1000000000000))else some false):Option Bool).bind fun v1=>some v1)
theorem AZ(p0:Int)(r:Bool)(hF:lK p0=some r):Fun Tryz.prog 145 true [] [cI p0] noHeap (cB r) noHeap:=by
 refine fW Tryz.func145 ?_
 unfold lK at hF
 refine wA rfl ?_;refine az ?_;refine cz (fun _ _ h=>h) hF (fun v1=>[(2,cB v1)]) (fun v1=>[]) ?_ ?_
 ·rintro v1 hF
  cases hF
  exact bq wR
 intro join hF
 refine wD 3 rfl ?_;cases h2:(decide (0≤p0))
 ·have hF:=bF' h2 hF;refine QV rfl ?_;exact join false _ _ hF sw
 have hF:=bT' h2 hF;refine QV rfl ?_;exact join (decide (p0≤1000000000000)) _ _ hF sw
def q6(p0:(List fX)):Int→Option (Int ⊕ (Unit ⊕ Int)):=fun a48 =>
  (bif (decide (a48<(List.length p0:Int)))then((idx p0 a48).bind fun y71=>((((iX y71.fId).bind fun r79=>(bif (!r79)then some true else((iX y71.fFrom.fThread).bind fun r81=>(bif (!r81)then some true else((iX y71.fFrom.fSerial).bind fun r83=>(bif (!r83)then some true else((iX y71.fTo.fThread).bind fun r85=>(bif (!r85)then some true else((iX y71.fTo.fSerial).bind fun r87=>(bif (!r87)then some true else((lK y71.fSend).bind fun r89=>(bif (!r89)then some true else((lK y71.fRecv).bind fun r91=>some (!r91)))))))))))))):Option Bool).bind fun v72=>(bif v72 then some (.inr (.inr 2))else(((bif (decide (y71.fRecv<y71.fSend))then some true else(bif (decide (0<a48))then((idx p0 (w64 (a48-1))).bind fun y77=>some (decide (y71.fRecv<y77.fRecv)))else some false)):Option Bool).bind fun v73=>(bif v73 then some (.inr (.inr 11))else some (.inl (w64 (a48+1))))))))else some (.inr (.inl ())))
def p7(p0:(List fX)):Option Int :=
  ((loop (q6 p0) 0).bind fun | .inl _=>some 0 | .inr rv=>some rv)
theorem Kx(p0:(List fX))(r:Int)(hF:p7 p0=some r):Fun Tryz.prog 123 true [] [cL 7 d5 p0] noHeap (cI r) noHeap:=by
 refine fW Tryz.func123 ?_
 unfold p7 at hF
 refine wA rfl ?_;refine az ?_;refine wA rfl ?_;refine fQ (fun _ _ h=>h) hF (.inl) (fun a48=>[(0,cL 7 d5 p0),(3,cI a48)]) (fun a48=>[]) (fun _=>[]) (fun _=>[]) sw ?_ ?_
 ·rintro⟨⟩ hF
  refine wA rfl ?_;cases hF
  exact bq wR
 rintro a48 x_0 hF cont_0 brk_0 fin_0
 unfold q6 at hF
 refine az ?_;refine wC 2 rfl ?_;refine rS (d3 (tc:=d5) p0 .tree ?_);refine QV rfl ?_;refine wIf hF rfl (fun _ hF=>?_) fun _ hF=>?_
 ·refine aJ ?_;refine az ?_;refine c7 ?_;refine wC 2 rfl ?_;obtain⟨y71,hy71,hF⟩:=bB hF
  refine rS (cY (tc:=d5) p0 rfl rfl hy71 ?_);refine QV rfl ?_;refine az ?_;refine az ?_;refine cz (fun _ _ h=>h) hF (fun v72=>[(0,cL 7 d5 p0),(3,cI a48),(4,cP (4,0) 0),(58,cB v72)]) (fun v72=>[((4,0),.box (HV y71))]) ?_ ?_
  ·rintro v72 hF
   refine wIf hF rfl (fun _ hF=>?_) fun _ hF=>?_
   ·refine wA rfl ?_;have hF:=fin_0 _ (oi hF);cases hF
    exact bq wR
   refine aJ ?_;refine az ?_;refine cz (fun _ _ h=>h) hF (fun v73=>[(0,cL 7 d5 p0),(3,cI a48),(78,cB v73)]) (fun v73=>[]) ?_ ?_
   ·rintro v73 hF
    refine wIf hF rfl (fun _ hF=>?_) fun _ hF=>?_
    ·refine wA rfl ?_;have hF:=fin_0 _ (oi hF);cases hF
     exact bq wR
    refine aJ ?_;refine wB rfl ?_;exact cont_0 _ _ _ (oi hF) sw
   intro join hF
   refine hZ (by decide) (by kernel_rfl) rfl ?_;refine aX SP 6 rfl ?_;cases h75:(decide (y71.fRecv<y71.fSend))
   ·have hF:=bF' h75 hF;refine aX SP 3 rfl ?_;cases h76:(decide (0<a48))
    ·have hF:=bF' h76 hF;refine QP rfl ?_;exact join false _ _ hF sw
    have hF:=bT' h76 hF;refine aX SP 5 rfl ?_;obtain⟨y77,hy77,hF⟩:=bB' hF
    refine aV SP rfl (cY (tc:=d5) p0 rfl rfl hy77 ?_);refine QP rfl ?_;exact join (decide (y71.fRecv<y77.fRecv)) _ _ hF sw
   have hF:=bT' h75 hF;refine QP rfl ?_;exact join true _ _ hF sw
  intro join hF
  refine wD 2 rfl ?_;obtain⟨r79,hr79,hF⟩:=bB' hF
  refine rS (cq (lX _ _ hr79) ⟨rfl,trivial⟩ rfl (.inl rfl) ?_);refine aX SV 2 rfl ?_;cases h80:(!r79)
  ·have hF:=bF' h80 hF;refine aX SV 3 rfl ?_;obtain⟨r81,hr81,hF⟩:=bB' hF
   refine aV SV rfl (cq (lX _ _ hr81) ⟨rfl,trivial⟩ rfl (.inl rfl) ?_);refine aX SV 3 rfl ?_;cases h82:(!r81)
   ·have hF:=bF' h82 hF;refine aX SV 3 rfl ?_;obtain⟨r83,hr83,hF⟩:=bB' hF
    refine aV SV rfl (cq (lX _ _ hr83) ⟨rfl,trivial⟩ rfl (.inl rfl) ?_);refine aX SV 3 rfl ?_;cases h84:(!r83)
    ·have hF:=bF' h84 hF;refine aX SV 3 rfl ?_;obtain⟨r85,hr85,hF⟩:=bB' hF
     refine aV SV rfl (cq (lX _ _ hr85) ⟨rfl,trivial⟩ rfl (.inl rfl) ?_);refine aX SV 3 rfl ?_;cases h86:(!r85)
     ·have hF:=bF' h86 hF;refine aX SV 3 rfl ?_;obtain⟨r87,hr87,hF⟩:=bB' hF
      refine aV SV rfl (cq (lX _ _ hr87) ⟨rfl,trivial⟩ rfl (.inl rfl) ?_);refine aX SV 3 rfl ?_;cases h88:(!r87)
      ·have hF:=bF' h88 hF;refine aX SV 2 rfl ?_;obtain⟨r89,hr89,hF⟩:=bB' hF
       refine aV SV rfl (cq (AZ _ _ hr89) ⟨rfl,trivial⟩ rfl (.inl rfl) ?_);refine aX SV 3 rfl ?_;cases h90:(!r89)
       ·have hF:=bF' h90 hF;refine aX SV 2 rfl ?_;obtain⟨r91,hr91,hF⟩:=bB' hF
        refine aV SV rfl (cq (AZ _ _ hr91) ⟨rfl,trivial⟩ rfl (.inl rfl) ?_);refine QV rfl ?_;exact join (!r91) _ _ hF sw
       have hF:=bT' h90 hF;refine QV rfl ?_;exact join true _ _ hF sw
      have hF:=bT' h88 hF;refine QV rfl ?_;exact join true _ _ hF sw
     have hF:=bT' h86 hF;refine QV rfl ?_;exact join true _ _ hF sw
    have hF:=bT' h84 hF;refine QV rfl ?_;exact join true _ _ hF sw
   have hF:=bT' h82 hF;refine QV rfl ?_;exact join true _ _ hF sw
  have hF:=bT' h80 hF;refine QV rfl ?_;exact join true _ _ hF sw
 refine dZ ?_;refine aQ ?_;refine aQ ?_;refine bj ?_;exact brk_0 _ _ _ (oi hF) sw
def x4(p0:eY):Option Bool :=
  (((bif (decide (0≤p0.fThread))then(bif (decide (p0.fThread≤1000000000000000))then(bif (decide (0≤p0.fAt))then(bif (decide (p0.fAt≤1000000000000))then(bif (decide (1≤p0.fWeight))then some (decide (p0.fWeight≤1000000000000))else some false)else some false)else some false)else some false)else some false):Option Bool).bind fun v1=>some v1)
theorem Hz(p0:eY)(r:Bool)(hF:x4 p0=some r):Fun Tryz.prog 146 true [] [.agg (GJ p0)] noHeap (cB r) noHeap:=by
 refine fW Tryz.func146 ?_
 unfold x4 at hF
 refine wA rfl ?_;refine az ?_;refine cz (fun _ _ h=>h) hF (fun v1=>[(2,cB v1)]) (fun v1=>[]) ?_ ?_
 ·rintro v1 hF
  cases hF
  exact bq wR
 intro join hF
 refine wD 4 rfl ?_;cases h2:(decide (0≤p0.fThread))
 ·have hF:=bF' h2 hF;refine QV rfl ?_;exact join false _ _ hF sw
 have hF:=bT' h2 hF;refine aX SV 5 rfl ?_;cases h3:(decide (p0.fThread≤1000000000000000))
 ·have hF:=bF' h3 hF;refine QV rfl ?_;exact join false _ _ hF sw
 have hF:=bT' h3 hF;refine aX SV 5 rfl ?_;cases h4:(decide (0≤p0.fAt))
 ·have hF:=bF' h4 hF;refine QV rfl ?_;exact join false _ _ hF sw
 have hF:=bT' h4 hF;refine aX SV 5 rfl ?_;cases h5:(decide (p0.fAt≤1000000000000))
 ·have hF:=bF' h5 hF;refine QV rfl ?_;exact join false _ _ hF sw
 have hF:=bT' h5 hF;refine aX SV 5 rfl ?_;cases h6:(decide (1≤p0.fWeight))
 ·have hF:=bF' h6 hF;refine QV rfl ?_;exact join false _ _ hF sw
 have hF:=bT' h6 hF;refine QV rfl ?_;exact join (decide (p0.fWeight≤1000000000000)) _ _ hF sw
def pq(p0:(List ByteArray)):Int→Option (Int ⊕ (Unit ⊕ Int)):=fun a12 =>
  (bif (decide (a12<(List.length p0:Int)))then((idx p0 a12).bind fun y17=>((j9 y17).bind fun r18=>(bif (!decide (r18=0))then some (.inr (.inr 3))else some (.inl (w64 (a12+1))))))else some (.inr (.inl ())))
def mj(p0:(List ByteArray)):Option Int :=
  (bif (decide (32<(List.length p0:Int)))then some 7 else((loop (pq p0) 0).bind fun | .inl _=>some 0 | .inr rv=>some rv))
theorem BQ(p0:(List ByteArray))(r:Int)(hF:mj p0=some r):Fun Tryz.prog 147 true [] [cL 1 iJ p0] noHeap (cI r) noHeap:=by
 refine fW Tryz.func147 ?_
 unfold mj at hF
 refine wA rfl ?_;refine az ?_;refine wC 1 rfl ?_;refine rS (d3 (tc:=iJ) p0 .tree ?_);refine QV rfl ?_;refine wIf hF rfl (fun _ hF=>?_) fun _ hF=>?_
 ·refine wA rfl ?_;cases hF
  exact bq wR
 refine aJ ?_;refine az ?_;refine wA rfl ?_;refine fQ (fun _ _ h=>h) hF (.inl) (fun a12=>[(0,cL 1 iJ p0),(3,cI a12)]) (fun a12=>[]) (fun _=>[]) (fun _=>[]) sw ?_ ?_
 ·rintro⟨⟩ hF
  refine wA rfl ?_;cases hF
  exact bq wR
 rintro a12 x_0 hF cont_0 brk_0 fin_0
 unfold pq at hF
 refine az ?_;refine wC 2 rfl ?_;refine rS (d3 (tc:=iJ) p0 .tree ?_);refine QV rfl ?_;refine wIf hF rfl (fun _ hF=>?_) fun _ hF=>?_
 ·refine aJ ?_;refine az ?_;refine c7 ?_;refine wC 2 rfl ?_;obtain⟨y17,hy17,hF⟩:=bB hF
  refine rS (cY (tc:=iJ) p0 rfl rfl hy17 ?_);refine aX SV 1 rfl ?_;obtain⟨r18,hr18,hF⟩:=bB hF
  refine rS (cq (q5 _ _ hr18) ⟨rfl,trivial⟩ rfl (.inl rfl) ?_);refine QV rfl ?_;refine wIf hF rfl (fun _ hF=>?_) fun _ hF=>?_
  ·refine wA rfl ?_;have hF:=fin_0 _ (oi hF);cases hF
   exact bq wR
  refine aJ ?_;refine wB rfl ?_;exact cont_0 _ _ _ (oi hF) sw
 refine dZ ?_;refine aQ ?_;refine aQ ?_;refine bj ?_;exact brk_0 _ _ _ (oi hF) sw
def q8(p0:(List eY)):Int→Option (Int ⊕ (Unit ⊕ Int)):=fun a28 =>
  (bif (decide (a28<(List.length p0:Int)))then((idx p0 a28).bind fun y41=>((x4 y41).bind fun r42=>(bif (!r42)then some (.inr (.inr 2))else((idx p0 a28).bind fun y43=>((mj y43.fStack).bind fun r44=>(bif (!decide (r44=0))then some (.inr (.inr r44))else(((bif (decide (0<a28))then((idx p0 a28).bind fun y48=>((idx p0 (w64 (a28-1))).bind fun y49=>some (decide (y48.fAt<y49.fAt))))else some false):Option Bool).bind fun v45=>(bif v45 then some (.inr (.inr 11))else some (.inl (w64 (a28+1)))))))))))else some (.inr (.inl ())))
def qz(p0:(List eY)):Option Int :=
  ((loop (q8 p0) 0).bind fun | .inl _=>some 0 | .inr rv=>some rv)
theorem J8(p0:(List eY))(r:Int)(hF:qz p0=some r):Fun Tryz.prog 124 true [] [cL 4 dY p0] noHeap (cI r) noHeap:=by
 refine fW Tryz.func124 ?_
 unfold qz at hF
 refine wA rfl ?_;refine az ?_;refine wA rfl ?_;refine fQ (fun _ _ h=>h) hF (.inl) (fun a28=>[(0,cL 4 dY p0),(3,cI a28)]) (fun a28=>[]) (fun _=>[]) (fun _=>[]) sw ?_ ?_
 ·rintro⟨⟩ hF
  refine wA rfl ?_;cases hF
  exact bq wR
 rintro a28 x_0 hF cont_0 brk_0 fin_0
 unfold q8 at hF
 refine az ?_;refine wC 2 rfl ?_;refine rS (d3 (tc:=dY) p0 .tree ?_);refine QV rfl ?_;refine wIf hF rfl (fun _ hF=>?_) fun _ hF=>?_
 ·refine aJ ?_;refine az ?_;refine c7 ?_;refine az ?_;refine wC 2 rfl ?_;obtain⟨y41,hy41,hF⟩:=bB hF
  refine rS (cY (tc:=dY) p0 rfl rfl hy41 ?_);refine aX SV 1 rfl ?_;obtain⟨r42,hr42,hF⟩:=bB hF
  refine rS (cq (Hz _ _ hr42) ⟨⟨rfl,rfl,rfl,rfl,trivial⟩,trivial⟩ rfl (.inl rfl) ?_);refine QV rfl ?_;refine wIf hF rfl (fun _ hF=>?_) fun _ hF=>?_
  ·refine wA rfl ?_;have hF:=fin_0 _ (oi hF);cases hF
   exact bq wR
  refine aJ ?_;refine wC 2 rfl ?_;obtain⟨y43,hy43,hF⟩:=bB hF
  refine rS (cY (tc:=dY) p0 rfl rfl hy43 ?_);refine aX SV 2 rfl ?_;obtain⟨r44,hr44,hF⟩:=bB hF
  refine rS (cq (BQ _ _ hr44) ⟨rfl,trivial⟩ rfl (.inl rfl) ?_);refine QV rfl ?_;refine az ?_;refine wA rfl ?_;refine wIf hF rfl (fun _ hF=>?_) fun _ hF=>?_
  ·refine wA rfl ?_;have hF:=fin_0 _ (oi hF);cases hF
   exact bq wR
  refine aJ ?_;refine az ?_;refine cz (fun _ _ h=>h) hF (fun v45=>[(0,cL 4 dY p0),(3,cI a28),(41,cB v45)]) (fun v45=>[]) ?_ ?_
  ·rintro v45 hF
   refine wIf hF rfl (fun _ hF=>?_) fun _ hF=>?_
   ·refine wA rfl ?_;have hF:=fin_0 _ (oi hF);cases hF
    exact bq wR
   refine aJ ?_;refine wB rfl ?_;exact cont_0 _ _ _ (oi hF) sw
  intro join hF
  refine hZ (by decide) (by kernel_rfl) rfl ?_;refine aX SP 3 rfl ?_;cases h47:(decide (0<a28))
  ·have hF:=bF' h47 hF;refine QP rfl ?_;exact join false _ _ hF sw
  have hF:=bT' h47 hF;refine aX SP 2 rfl ?_;obtain⟨y48,hy48,hF⟩:=bB' hF
  refine aV SP rfl (cY (tc:=dY) p0 rfl rfl hy48 ?_);refine aX SP 5 rfl ?_;obtain⟨y49,hy49,hF⟩:=bB' hF
  refine aV SP rfl (cY (tc:=dY) p0 rfl rfl hy49 ?_);refine QP rfl ?_;exact join (decide (y48.fAt<y49.fAt)) _ _ hF sw
 refine dZ ?_;refine aQ ?_;refine aQ ?_;refine bj ?_;exact brk_0 _ _ _ (oi hF) sw
def rj(p0:(List jj)):Int→Option (Int ⊕ (Unit ⊕ Int)):=fun a58 =>
  (bif (decide (a58<(List.length p0:Int)))then((idx p0 a58).bind fun y86=>((j9 y86.fName).bind fun r87=>(bif (!decide (r87=0))then some (.inr (.inr r87))else((((idx p0 a58).bind fun y104=>(bif (decide (y104.fAt<0))then some true else((idx p0 a58).bind fun y106=>(bif (decide (1000000000000<y106.fAt))then some true else((idx p0 a58).bind fun y108=>(bif (decide (y108.fValue<(-1000000000000000)))then some true else((idx p0 a58).bind fun y110=>some (decide (1000000000000000<y110.fValue))))))))):Option Bool).bind fun v88=>(bif v88 then some (.inr (.inr 2))else(((bif (decide (0<a58))then((idx p0 a58).bind fun y92=>((idx p0 (w64 (a58-1))).bind fun y93=>(bif (sLt y92.fName y93.fName)then some true else((idx p0 a58).bind fun y95=>((idx p0 (w64 (a58-1))).bind fun y96=>(bif (decide (y95.fName=y96.fName))then((idx p0 a58).bind fun y98=>((idx p0 (w64 (a58-1))).bind fun y99=>(bif (decide (y98.fAt≤y99.fAt))then some true else((idx p0 a58).bind fun y101=>((idx p0 (w64 (a58-1))).bind fun y102=>some (decide (y101.fValue=y102.fValue)))))))else some false))))))else some false):Option Bool).bind fun v89=>(bif v89 then some (.inr (.inr 11))else some (.inl (w64 (a58+1))))))))))else some (.inr (.inl ())))
def p8(p0:(List jj)):Option Int :=
  ((loop (rj p0) 0).bind fun | .inl _=>some 0 | .inr rv=>some rv)
theorem Jj(p0:(List jj))(r:Int)(hF:p8 p0=some r):Fun Tryz.prog 125 true [] [cL 3 dW p0] noHeap (cI r) noHeap:=by
 refine fW Tryz.func125 ?_
 unfold p8 at hF
 refine wA rfl ?_;refine az ?_;refine wA rfl ?_;refine fQ (fun _ _ h=>h) hF (.inl) (fun a58=>[(0,cL 3 dW p0),(3,cI a58)]) (fun a58=>[]) (fun _=>[]) (fun _=>[]) sw ?_ ?_
 ·rintro⟨⟩ hF
  refine wA rfl ?_;cases hF
  exact bq wR
 rintro a58 x_0 hF cont_0 brk_0 fin_0
 unfold rj at hF
 refine az ?_;refine wC 2 rfl ?_;refine rS (d3 (tc:=dW) p0 .tree ?_);refine QV rfl ?_;refine wIf hF rfl (fun _ hF=>?_) fun _ hF=>?_
 ·refine aJ ?_;refine az ?_;refine c7 ?_;refine wC 2 rfl ?_;obtain⟨y86,hy86,hF⟩:=bB hF
  refine rS (cY (tc:=dW) p0 rfl rfl hy86 ?_);refine aX SV 2 rfl ?_;obtain⟨r87,hr87,hF⟩:=bB hF
  refine rS (cq (q5 _ _ hr87) ⟨rfl,trivial⟩ rfl (.inl rfl) ?_);refine QV rfl ?_;refine az ?_;refine wA rfl ?_;refine wIf hF rfl (fun _ hF=>?_) fun _ hF=>?_
  ·refine wA rfl ?_;have hF:=fin_0 _ (oi hF);cases hF
   exact bq wR
  refine aJ ?_;refine az ?_;refine az ?_;refine cz (fun _ _ h=>h) hF (fun v88=>[(0,cL 3 dW p0),(3,cI a58),(49,cB v88)]) (fun v88=>[]) ?_ ?_
  ·rintro v88 hF
   refine wIf hF rfl (fun _ hF=>?_) fun _ hF=>?_
   ·refine wA rfl ?_;have hF:=fin_0 _ (oi hF);cases hF
    exact bq wR
   refine aJ ?_;refine az ?_;refine cz (fun _ _ h=>h) hF (fun v89=>[(0,cL 3 dW p0),(3,cI a58),(107,cB v89)]) (fun v89=>[]) ?_ ?_
   ·rintro v89 hF
    refine wIf hF rfl (fun _ hF=>?_) fun _ hF=>?_
    ·refine wA rfl ?_;have hF:=fin_0 _ (oi hF);cases hF
     exact bq wR
    refine aJ ?_;refine wB rfl ?_;exact cont_0 _ _ _ (oi hF) sw
   intro join hF
   refine hZ (by decide) (by kernel_rfl) rfl ?_;refine aX SP 3 rfl ?_;cases h91:(decide (0<a58))
   ·have hF:=bF' h91 hF;refine QP rfl ?_;exact join false _ _ hF sw
   have hF:=bT' h91 hF;refine aX SP 2 rfl ?_;obtain⟨y92,hy92,hF⟩:=bB' hF
   refine aV SP rfl (cY (tc:=dW) p0 rfl rfl hy92 ?_);refine aX SP 5 rfl ?_;obtain⟨y93,hy93,hF⟩:=bB' hF
   refine aV SP rfl (cY (tc:=dW) p0 rfl rfl hy93 ?_);refine aX SP 4 rfl ?_;cases h94:(sLt y92.fName y93.fName)
   ·have hF:=bF' h94 hF;refine aX SP 2 rfl ?_;obtain⟨y95,hy95,hF⟩:=bB' hF
    refine aV SP rfl (cY (tc:=dW) p0 rfl rfl hy95 ?_);refine aX SP 5 rfl ?_;obtain⟨y96,hy96,hF⟩:=bB' hF
    refine aV SP rfl (cY (tc:=dW) p0 rfl rfl hy96 ?_);refine aX SP 4 rfl ?_;cases h97:(decide (y95.fName=y96.fName))
    ·have hF:=bF' h97 hF;refine QP rfl ?_;exact join false _ _ hF sw
    have hF:=bT' h97 hF;refine aX SP 2 rfl ?_;obtain⟨y98,hy98,hF⟩:=bB' hF
    refine aV SP rfl (cY (tc:=dW) p0 rfl rfl hy98 ?_);refine aX SP 5 rfl ?_;obtain⟨y99,hy99,hF⟩:=bB' hF
    refine aV SP rfl (cY (tc:=dW) p0 rfl rfl hy99 ?_);refine aX SP 4 rfl ?_;cases h100:(decide (y98.fAt≤y99.fAt))
    ·have hF:=bF' h100 hF;refine aX SP 2 rfl ?_;obtain⟨y101,hy101,hF⟩:=bB' hF
     refine aV SP rfl (cY (tc:=dW) p0 rfl rfl hy101 ?_);refine aX SP 5 rfl ?_;obtain⟨y102,hy102,hF⟩:=bB' hF
     refine aV SP rfl (cY (tc:=dW) p0 rfl rfl hy102 ?_);refine QP rfl ?_;exact join (decide (y101.fValue=y102.fValue)) _ _ hF sw
    have hF:=bT' h100 hF;refine QP rfl ?_;exact join true _ _ hF sw
   have hF:=bT' h94 hF;refine QP rfl ?_;exact join true _ _ hF sw
  intro join hF
  refine wD 2 rfl ?_;obtain⟨y104,hy104,hF⟩:=bB' hF
  refine rS (cY (tc:=dW) p0 rfl rfl hy104 ?_);refine aX SV 4 rfl ?_;cases h105:(decide (y104.fAt<0))
  ·have hF:=bF' h105 hF;refine aX SV 2 rfl ?_;obtain⟨y106,hy106,hF⟩:=bB' hF
   refine aV SV rfl (cY (tc:=dW) p0 rfl rfl hy106 ?_);refine aX SV 5 rfl ?_;cases h107:(decide (1000000000000<y106.fAt))
   ·have hF:=bF' h107 hF;refine aX SV 2 rfl ?_;obtain⟨y108,hy108,hF⟩:=bB' hF
    refine aV SV rfl (cY (tc:=dW) p0 rfl rfl hy108 ?_);refine aX SV 5 rfl ?_;cases h109:(decide (y108.fValue<(-1000000000000000)))
    ·have hF:=bF' h109 hF;refine aX SV 2 rfl ?_;obtain⟨y110,hy110,hF⟩:=bB' hF
     refine aV SV rfl (cY (tc:=dW) p0 rfl rfl hy110 ?_);refine QV rfl ?_;exact join (decide (1000000000000000<y110.fValue)) _ _ hF sw
    have hF:=bT' h109 hF;refine QV rfl ?_;exact join true _ _ hF sw
   have hF:=bT' h107 hF;refine QV rfl ?_;exact join true _ _ hF sw
  have hF:=bT' h105 hF;refine QV rfl ?_;exact join true _ _ hF sw
 refine dZ ?_;refine aQ ?_;refine aQ ?_;refine bj ?_;exact brk_0 _ _ _ (oi hF) sw
def tX(p0:bZ)(p1:bZ):Option Bool :=
  (((bif (decide (p0.fFrom<p1.fTo))then some (decide (p1.fFrom<p0.fTo))else some false):Option Bool).bind fun v1=>some v1)
theorem IK(p0:bZ)(p1:bZ)(r:Bool)(hF:tX p0 p1=some r):Fun Tryz.prog 148 true [] [.agg [jI p0.fFrom,jI p0.fTo],.agg [jI p1.fFrom,jI p1.fTo]] noHeap (cB r) noHeap:=by
 refine fW Tryz.func148 ?_
 unfold tX at hF
 refine wA rfl ?_;refine az ?_;refine cz (fun _ _ h=>h) hF (fun v1=>[(4,cB v1)]) (fun v1=>[]) ?_ ?_
 ·rintro v1 hF
  cases hF
  exact bq wR
 intro join hF
 refine wD 6 rfl ?_;cases h2:(decide (p0.fFrom<p1.fTo))
 ·have hF:=bF' h2 hF;refine QV rfl ?_;exact join false _ _ hF sw
 have hF:=bT' h2 hF;refine QV rfl ?_;exact join (decide (p1.fFrom<p0.fTo)) _ _ hF sw
def rQ(p0:(List eJ))(a104:Int)(y155:eJ):Int→Option (Int ⊕ (Unit ⊕ (Int ⊕ (Unit ⊕ Int)))):=fun a176 =>
  (bif (decide (a176<a104))then((((idx p0 a176).bind fun y186=>(bif (decide (y186.fId=y155.fId))then((idx p0 a176).bind fun y188=>((tX y188.fSpan y155.fSpan).bind fun r189=>some r189))else some false)):Option Bool).bind fun v184=>(bif v184 then some (.inr (.inr (.inr (.inr 4))))else some (.inl (w64 (a176+1)))))else some (.inr (.inl ())))
def kX(p0:(List eJ)):Int→Option (Int ⊕ (Unit ⊕ Int)):=fun a104 =>
  (bif (decide (a104<(List.length p0:Int)))then((idx p0 a104).bind fun y155=>(((bif (decide (y155.fId<0))then some true else(bif (decide (1000000000000000<y155.fId))then some true else(bif (decide (y155.fThread<0))then some true else(bif (decide (1000000000000000<y155.fThread))then some true else(bif (decide (y155.fSize<1))then some true else(bif (decide (1000000000000<y155.fSize))then some true else(bif (decide (y155.fSpan.fFrom<0))then some true else(bif (decide (y155.fSpan.fTo≤y155.fSpan.fFrom))then some true else some (decide (1000000000000<y155.fSpan.fTo)))))))))):Option Bool).bind fun v156=>(bif v156 then some (.inr (.inr 2))else((mj y155.fStack).bind fun r157=>(bif (!decide (r157=0))then some (.inr (.inr r157))else(((bif (decide (0<a104))then((idx p0 (w64 (a104-1))).bind fun y193=>some (decide (y155.fSpan.fFrom<y193.fSpan.fFrom)))else some false):Option Bool).bind fun v158=>(bif v158 then some (.inr (.inr 11))else((loop (rQ p0 a104 y155) 0).bind fun | .inl _=>some (.inl (w64 (a104+1))) | .inr rv=>some rv))))))))else some (.inr (.inl ())))
def qV(p0:(List eJ)):Option Int :=
  ((loop (kX p0) 0).bind fun | .inl _=>some 0 | .inr rv=>some rv)
theorem J7(p0:(List eJ))(r:Int)(hF:qV p0=some r):Fun Tryz.prog 126 true [] [cL 7 cW p0] noHeap (cI r) noHeap:=by
 refine fW Tryz.func126 ?_
 unfold qV at hF
 refine wA rfl ?_;refine az ?_;refine wA rfl ?_;refine fQ (fun _ _ h=>h) hF (.inl) (fun a104=>[(0,cL 7 cW p0),(3,cI a104)]) (fun a104=>[]) (fun _=>[]) (fun _=>[]) sw ?_ ?_
 ·rintro⟨⟩ hF
  refine wA rfl ?_;cases hF
  exact bq wR
 rintro a104 x_0 hF cont_0 brk_0 fin_0
 unfold kX at hF
 refine az ?_;refine wC 2 rfl ?_;refine rS (d3 (tc:=cW) p0 .tree ?_);refine QV rfl ?_;refine wIf hF rfl (fun _ hF=>?_) fun _ hF=>?_
 ·refine aJ ?_;refine az ?_;refine c7 ?_;refine wC 2 rfl ?_;obtain⟨y155,hy155,hF⟩:=bB hF
  refine rS (cY (tc:=cW) p0 rfl rfl hy155 ?_);refine QV rfl ?_;refine az ?_;refine az ?_;refine cz (fun _ _ h=>h) hF (fun v156=>[(0,cL 7 cW p0),(3,cI a104),(4,cP (4,0) 0),(65,cB v156)]) (fun v156=>[((4,0),.box (sK y155))]) ?_ ?_
  ·rintro v156 hF
   refine wIf hF rfl (fun _ hF=>?_) fun _ hF=>?_
   ·refine wA rfl ?_;have hF:=fin_0 _ (oi hF);cases hF
    exact bq wR
   refine aJ ?_;refine wC 2 rfl ?_;obtain⟨r157,hr157,hF⟩:=bB hF
   refine rS (cq (BQ _ _ hr157) ⟨rfl,trivial⟩ rfl (.inl rfl) ?_);refine QV rfl ?_;refine az ?_;refine wA rfl ?_;refine wIf hF rfl (fun _ hF=>?_) fun _ hF=>?_
   ·refine wA rfl ?_;have hF:=fin_0 _ (oi hF);cases hF
    exact bq wR
   refine aJ ?_;refine az ?_;refine az ?_;refine cz (fun _ _ h=>h) hF (fun v158=>[(0,cL 7 cW p0),(3,cI a104),(4,cP (4,0) 0),(86,cB v158)]) (fun v158=>[((4,0),.box (sK y155))]) ?_ ?_
   ·rintro v158 hF
    refine wIf hF rfl (fun _ hF=>?_) fun _ hF=>?_
    ·refine wA rfl ?_;have hF:=fin_0 _ (oi hF);cases hF
     exact bq wR
    refine aJ ?_;refine wA rfl ?_;refine fQ (fun _ _ h=>h) hF (.inl) (fun a176=>[(0,cL 7 cW p0),(3,cI a104),(4,cP (4,0) 0),(6,cI a176)]) (fun a176=>[((4,0),.box (sK y155))]) (fun _=>[(0,cL 7 cW p0),(3,cI a104)]) (fun _=>[]) sw ?_ ?_
    ·rintro⟨⟩ hF
     refine wB rfl ?_;exact cont_0 _ _ _ (oi hF) sw
    rintro a176 x_1 hF cont_1 brk_1 fin_1
    unfold rQ at hF
    refine az ?_;refine wA rfl ?_;refine wIf hF rfl (fun _ hF=>?_) fun _ hF=>?_
    ·refine aJ ?_;refine az ?_;refine c7 ?_;refine az ?_;refine cz (fun _ _ h=>h) hF (fun v184=>[(0,cL 7 cW p0),(3,cI a104),(4,cP (4,0) 0),(6,cI a176),(109,cB v184)]) (fun v184=>[((4,0),.box (sK y155))]) ?_ ?_
     ·rintro v184 hF
      refine wIf hF rfl (fun _ hF=>?_) fun _ hF=>?_
      ·refine wA rfl ?_;have hF:=fin_1 _ (oi hF);have hF:=fin_0 _ (oi hF);cases hF
       exact bq wR
      refine aJ ?_;refine wB rfl ?_;exact cont_1 _ _ _ (oi hF) sw
     intro join hF
     refine hZ (by decide) (by kernel_rfl) rfl ?_;refine aX SP 2 rfl ?_;obtain⟨y186,hy186,hF⟩:=bB' hF
     refine aV SP trivial (cY (tc:=cW) p0 rfl rfl hy186 ?_);refine aX SP 6 rfl ?_;cases h187:(decide (y186.fId=y155.fId))
     ·have hF:=bF' h187 hF;refine QP rfl ?_;exact join false _ _ hF sw
     have hF:=bT' h187 hF;refine aX SP 2 rfl ?_;obtain⟨y188,hy188,hF⟩:=bB' hF
     refine aV SP rfl (cY (tc:=cW) p0 rfl rfl hy188 ?_);refine aX SP 4 rfl ?_;obtain⟨r189,hr189,hF⟩:=bB' hF
     refine aV SP rfl (cq (IK _ _ _ hr189) ⟨⟨rfl,rfl,trivial⟩,⟨rfl,rfl,trivial⟩,trivial⟩ rfl (.inl rfl) ?_);refine QP rfl ?_;exact join r189 _ _ hF sw
    refine dZ ?_;refine aQ ?_;refine aQ ?_;refine bj ?_;exact brk_1 _ _ _ (oi hF) sw
   intro join hF
   refine hZ (by decide) (by kernel_rfl) rfl ?_;refine aX SP 3 rfl ?_;cases h192:(decide (0<a104))
   ·have hF:=bF' h192 hF;refine QP rfl ?_;exact join false _ _ hF sw
   have hF:=bT' h192 hF;refine aX SP 6 rfl ?_;obtain⟨y193,hy193,hF⟩:=bB' hF
   refine aV SP rfl (cY (tc:=cW) p0 rfl rfl hy193 ?_);refine QP rfl ?_;exact join (decide (y155.fSpan.fFrom<y193.fSpan.fFrom)) _ _ hF sw
  intro join hF
  refine wD 4 rfl ?_;cases h196:(decide (y155.fId<0))
  ·have hF:=bF' h196 hF;refine aX SV 5 rfl ?_;cases h197:(decide (1000000000000000<y155.fId))
   ·have hF:=bF' h197 hF;refine aX SV 5 rfl ?_;cases h198:(decide (y155.fThread<0))
    ·have hF:=bF' h198 hF;refine aX SV 5 rfl ?_;cases h199:(decide (1000000000000000<y155.fThread))
     ·have hF:=bF' h199 hF;refine aX SV 5 rfl ?_;cases h200:(decide (y155.fSize<1))
      ·have hF:=bF' h200 hF;refine aX SV 5 rfl ?_;cases h201:(decide (1000000000000<y155.fSize))
       ·have hF:=bF' h201 hF;refine aX SV 6 rfl ?_;cases h202:(decide (y155.fSpan.fFrom<0))
        ·have hF:=bF' h202 hF;refine aX SV 9 rfl ?_;cases h203:(decide (y155.fSpan.fTo≤y155.fSpan.fFrom))
         ·have hF:=bF' h203 hF;refine QV rfl ?_;exact join (decide (1000000000000<y155.fSpan.fTo)) _ _ hF sw
         have hF:=bT' h203 hF;refine QV rfl ?_;exact join true _ _ hF sw
        have hF:=bT' h202 hF;refine QV rfl ?_;exact join true _ _ hF sw
       have hF:=bT' h201 hF;refine QV rfl ?_;exact join true _ _ hF sw
      have hF:=bT' h200 hF;refine QV rfl ?_;exact join true _ _ hF sw
     have hF:=bT' h199 hF;refine QV rfl ?_;exact join true _ _ hF sw
    have hF:=bT' h198 hF;refine QV rfl ?_;exact join true _ _ hF sw
   have hF:=bT' h197 hF;refine QV rfl ?_;exact join true _ _ hF sw
  have hF:=bT' h196 hF;refine QV rfl ?_;exact join true _ _ hF sw
 refine dZ ?_;refine aQ ?_;refine aQ ?_;refine bj ?_;exact brk_0 _ _ _ (oi hF) sw
def l7(p0:aY):(Int×Int)→Option ((Int×Int) ⊕ Int):=fun(a169,a170) =>
  (((bif (decide (a170<(List.length p0.fLost:Int)))then some (decide (a169=0))else some false):Option Bool).bind fun v184=>(bif v184 then((((idx p0.fLost a170).bind fun y186=>((jq p0 y186.fThread).bind fun r187=>(bif (!r187)then some 5 else((((lZ y186.fSpan).bind fun r190=>(bif (!r190)then some true else(bif (decide (y186.fCount<1))then some true else some (decide (1000000000000000<y186.fCount))))):Option Bool).bind fun v188=>(bif v188 then some 2 else some a169))))):Option Int).bind fun v185=>some (.inl (v185,(w64 (a170+1)))))else some (.inr a169)))
def lW(p0:aY):(Int×Int)→Option ((Int×Int) ⊕ Int):=fun(a129,a130) =>
  (((bif (decide (a130<(List.length p0.fBlocks:Int)))then some (decide (a129=0))else some false):Option Bool).bind fun v196=>(bif v196 then((((idx p0.fBlocks a130).bind fun y198=>((jq p0 y198.fThread).bind fun r199=>(bif (!r199)then some 5 else some a129))):Option Int).bind fun v197=>some (.inl (v197,(w64 (a130+1)))))else some (.inr a129)))
def l9(p0:aY):(Int×Int)→Option ((Int×Int) ⊕ Int):=fun(a97,a98) =>
  (((bif (decide (a98<(List.length p0.fSamples:Int)))then some (decide (a97=0))else some false):Option Bool).bind fun v207=>(bif v207 then((((idx p0.fSamples a98).bind fun y209=>((jq p0 y209.fThread).bind fun r210=>(bif (!r210)then some 5 else some a97))):Option Int).bind fun v208=>some (.inl (v208,(w64 (a98+1)))))else some (.inr a97)))
def l8(p0:aY):(Int×Int)→Option ((Int×Int) ⊕ Int):=fun(a62,a63) =>
  (((bif (decide (a63<(List.length p0.fFlows:Int)))then some (decide (a62=0))else some false):Option Bool).bind fun v216=>(bif v216 then((((((idx p0.fFlows a63).bind fun y220=>((jq p0 y220.fFrom.fThread).bind fun r221=>(bif (!r221)then some true else((idx p0.fFlows a63).bind fun y223=>((jq p0 y223.fTo.fThread).bind fun r224=>some (!r224)))))):Option Bool).bind fun v218=>(bif v218 then some 5 else some a62)):Option Int).bind fun v217=>some (.inl (v217,(w64 (a63+1)))))else some (.inr a62)))
def l3(p0:aY):(Int×Int)→Option ((Int×Int) ⊕ Int):=fun(a22,a23) =>
  (((bif (decide (a23<(List.length p0.fSlices:Int)))then some (decide (a22=0))else some false):Option Bool).bind fun v231=>(bif v231 then((((idx p0.fSlices a23).bind fun y233=>((jq p0 y233.fThread).bind fun r234=>(bif (!r234)then some 5 else some a22))):Option Int).bind fun v232=>some (.inl (v232,(w64 (a23+1)))))else some (.inr a22)))
def vJ(p0:aY):Option Int :=
  ((qq p0.fSlices).bind fun r1=>((loop (l3 p0) (r1,0)).bind fun e31=>(((bif (decide (e31=0))then((qx p0.fThreads p0.fStates).bind fun r229=>some r229)else some e31):Option Int).bind fun v32=>(((bif (decide (v32=0))then((p7 p0.fFlows).bind fun r227=>some r227)else some v32):Option Int).bind fun v33=>((loop (l8 p0) (v33,0)).bind fun e75=>(((bif (decide (e75=0))then((qz p0.fSamples).bind fun r214=>some r214)else some e75):Option Int).bind fun v76=>((loop (l9 p0) (v76,0)).bind fun e106=>(((bif (decide (e106=0))then((p8 p0.fSteps).bind fun r205=>some r205)else some e106):Option Int).bind fun v107=>(((bif (decide (v107=0))then((qV p0.fBlocks).bind fun r203=>some r203)else some v107):Option Int).bind fun v108=>((loop (lW p0) (v108,0)).bind fun e138=>((loop (l7 p0) (e138,0)).bind fun e183=>some e183)))))))))))
theorem K4(p0:aY)(r:Int)(hF:vJ p0=some r):Fun Tryz.prog 85 true [] [.agg (aW p0)] noHeap (cI r) noHeap:=by
 refine fW Tryz.func85 ?_
 unfold vJ at hF
 refine wA rfl ?_;refine wC 2 rfl ?_;obtain⟨r1,hr1,hF⟩:=bB hF
 refine rS (cq (J3 _ _ hr1) ⟨rfl,trivial⟩ rfl (.inl rfl) ?_);refine QV rfl ?_;refine az ?_;refine wA rfl ?_;refine fQ (fun _ _ h=>h) hF (id) (fun(a22,a23)=>[(1,cP (1,0) 0),(3,cI a22),(4,cI a23)]) (fun(a22,a23)=>[((1,0),.box (aW p0))]) (fun e31=>[(1,cP (1,0) 0),(3,cI e31)]) (fun e31=>[((1,0),.box (aW p0))]) sw ?_ ?_
 ·rintro e31 hF
  refine az ?_;refine wA rfl ?_;refine cz (fun _ _ h=>h) hF (fun v32=>[(1,cP (1,0) 0),(3,cI v32)]) (fun v32=>[((1,0),.box (aW p0))]) ?_ ?_
  ·rintro v32 hF
   refine az ?_;refine wA rfl ?_;refine cz (fun _ _ h=>h) hF (fun v33=>[(1,cP (1,0) 0),(3,cI v33)]) (fun v33=>[((1,0),.box (aW p0))]) ?_ ?_
   ·rintro v33 hF
    refine az ?_;refine wA rfl ?_;refine fQ (fun _ _ h=>h) hF (id) (fun(a62,a63)=>[(1,cP (1,0) 0),(3,cI a62),(5,cI a63)]) (fun(a62,a63)=>[((1,0),.box (aW p0))]) (fun e75=>[(1,cP (1,0) 0),(3,cI e75)]) (fun e75=>[((1,0),.box (aW p0))]) sw ?_ ?_
    ·rintro e75 hF
     refine az ?_;refine wA rfl ?_;refine cz (fun _ _ h=>h) hF (fun v76=>[(1,cP (1,0) 0),(3,cI v76)]) (fun v76=>[((1,0),.box (aW p0))]) ?_ ?_
     ·rintro v76 hF
      refine az ?_;refine wA rfl ?_;refine fQ (fun _ _ h=>h) hF (id) (fun(a97,a98)=>[(1,cP (1,0) 0),(3,cI a97),(6,cI a98)]) (fun(a97,a98)=>[((1,0),.box (aW p0))]) (fun e106=>[(1,cP (1,0) 0),(3,cI e106)]) (fun e106=>[((1,0),.box (aW p0))]) sw ?_ ?_
      ·rintro e106 hF
       refine az ?_;refine wA rfl ?_;refine cz (fun _ _ h=>h) hF (fun v107=>[(1,cP (1,0) 0),(3,cI v107)]) (fun v107=>[((1,0),.box (aW p0))]) ?_ ?_
       ·rintro v107 hF
        refine az ?_;refine wA rfl ?_;refine cz (fun _ _ h=>h) hF (fun v108=>[(1,cP (1,0) 0),(3,cI v108)]) (fun v108=>[((1,0),.box (aW p0))]) ?_ ?_
        ·rintro v108 hF
         refine az ?_;refine wA rfl ?_;refine fQ (fun _ _ h=>h) hF (id) (fun(a129,a130)=>[(1,cP (1,0) 0),(3,cI a129),(7,cI a130)]) (fun(a129,a130)=>[((1,0),.box (aW p0))]) (fun e138=>[(1,cP (1,0) 0),(3,cI e138)]) (fun e138=>[((1,0),.box (aW p0))]) sw ?_ ?_
         ·rintro e138 hF
          refine az ?_;refine wA rfl ?_;refine fQ (fun _ _ h=>h) hF (id) (fun(a169,a170)=>[(1,cP (1,0) 0),(3,cI a169),(8,cI a170)]) (fun(a169,a170)=>[((1,0),.box (aW p0))]) (fun e183=>[(3,cI e183)]) (fun e183=>[]) sw ?_ ?_
          ·rintro e183 hF
           refine wA rfl ?_;cases hF
           exact bq wR
          rintro⟨a169,a170⟩ x_0 hF cont_0 brk_0 fin_0
          unfold l7 at hF
          refine az ?_;refine az ?_;refine cz (fun _ _ h=>h) hF (fun v184=>[(1,cP (1,0) 0),(3,cI a169),(8,cI a170),(141,cB v184)]) (fun v184=>[((1,0),.box (aW p0))]) ?_ ?_
          ·rintro v184 hF
           refine wIf hF rfl (fun _ hF=>?_) fun _ hF=>?_
           ·refine aJ ?_;refine az ?_;refine cz (fun _ _ h=>h) hF (fun v185=>[(1,cP (1,0) 0),(3,cI v185),(8,cI a170)]) (fun v185=>[((1,0),.box (aW p0))]) ?_ ?_
            ·rintro v185 hF
             refine wB rfl ?_;exact cont_0 _ _ _ (oi hF) sw
            intro join hF
            refine c7 ?_;refine wC 3 rfl ?_;obtain⟨y186,hy186,hF⟩:=bB' hF
            refine rS (cY (tc:=rX) p0.fLost rfl rfl hy186 ?_);refine QV rfl ?_;refine wC 3 rfl ?_;obtain⟨r187,hr187,hF⟩:=bB' hF
            refine rS (cq (l5 _ _ _ hr187) ⟨⟨rfl,rfl,rfl,rfl,rfl,rfl,rfl,rfl,rfl,rfl,trivial⟩,rfl,trivial⟩ rfl (.inl rfl) ?_);refine QV rfl ?_;refine tW hF rfl (fun _ hF=>?_) fun _ hF=>?_
            ·refine wB rfl ?_;exact join 5 _ _ hF sw
            refine az ?_;have hF:=bA hF;refine cz (fun _ _ h=>h) hF (fun v188=>[(1,cP (1,0) 0),(3,cI a169),(8,cI a170),(167,cB v188)]) (fun v188=>[((1,0),.box (aW p0))]) ?_ ?_
            ·rintro v188 hF
             refine tW hF rfl (fun _ hF=>?_) fun _ hF=>?_
             ·refine wB rfl ?_;exact join 2 _ _ hF sw
             refine aJ ?_;exact join a169 _ _ hF sw
            intro join hF
            refine wD 2 rfl ?_;obtain⟨r190,hr190,hF⟩:=bB' hF
            refine rS (cq (pz _ _ hr190) ⟨⟨rfl,rfl,trivial⟩,trivial⟩ rfl (.inl rfl) ?_);refine aX SV 2 rfl ?_;cases h191:(!r190)
            ·have hF:=bF' h191 hF;refine aX SV 5 rfl ?_;cases h192:(decide (y186.fCount<1))
             ·have hF:=bF' h192 hF;refine QV rfl ?_;exact join (decide (1000000000000000<y186.fCount)) _ _ hF sw
             have hF:=bT' h192 hF;refine QV rfl ?_;exact join true _ _ hF sw
            have hF:=bT' h191 hF;refine QV rfl ?_;exact join true _ _ hF sw
           refine dZ ?_;refine aQ ?_;refine aQ ?_;refine bj ?_;exact brk_0 _ _ _ (oi hF) sw
          intro join hF
          refine wD 3 rfl ?_;refine rS (d3 (tc:=rX) p0.fLost .tree ?_);refine aX SV 2 rfl ?_;cases h195:(decide (a170<(List.length p0.fLost:Int)))
          ·have hF:=bF' h195 hF;refine QV rfl ?_;exact join false _ _ hF sw
          have hF:=bT' h195 hF;refine QV rfl ?_;exact join (decide (a169=0)) _ _ hF sw
         rintro⟨a129,a130⟩ x_0 hF cont_0 brk_0 fin_0
         unfold lW at hF
         refine az ?_;refine az ?_;refine cz (fun _ _ h=>h) hF (fun v196=>[(1,cP (1,0) 0),(3,cI a129),(7,cI a130),(121,cB v196)]) (fun v196=>[((1,0),.box (aW p0))]) ?_ ?_
         ·rintro v196 hF
          refine wIf hF rfl (fun _ hF=>?_) fun _ hF=>?_
          ·refine aJ ?_;refine az ?_;refine cz (fun _ _ h=>h) hF (fun v197=>[(1,cP (1,0) 0),(3,cI v197),(7,cI a130)]) (fun v197=>[((1,0),.box (aW p0))]) ?_ ?_
           ·rintro v197 hF
            refine wB rfl ?_;exact cont_0 _ _ _ (oi hF) sw
           intro join hF
           refine c7 ?_;refine az ?_;refine hZ (by decide) (by kernel_rfl) rfl ?_;refine aX SP 4 rfl ?_;obtain⟨y198,hy198,hF⟩:=bB' hF
           refine aV SP trivial (cY (tc:=cW) p0.fBlocks rfl rfl hy198 ?_);refine aX SP 2 rfl ?_;obtain⟨r199,hr199,hF⟩:=bB' hF
           refine aV SP trivial (cq (l5 _ _ _ hr199) ⟨⟨rfl,rfl,rfl,rfl,rfl,rfl,rfl,rfl,rfl,rfl,trivial⟩,rfl,trivial⟩ rfl (.inl rfl) ?_);refine QP rfl ?_;refine tW hF rfl (fun _ hF=>?_) fun _ hF=>?_
           ·refine wB rfl ?_;exact join 5 _ _ hF sw
           refine aJ ?_;exact join a129 _ _ hF sw
          refine dZ ?_;refine aQ ?_;refine aQ ?_;refine bj ?_;exact brk_0 _ _ _ (oi hF) sw
         intro join hF
         refine wD 3 rfl ?_;refine rS (d3 (tc:=cW) p0.fBlocks .tree ?_);refine aX SV 2 rfl ?_;cases h202:(decide (a130<(List.length p0.fBlocks:Int)))
         ·have hF:=bF' h202 hF;refine QV rfl ?_;exact join false _ _ hF sw
         have hF:=bT' h202 hF;refine QV rfl ?_;exact join (decide (a129=0)) _ _ hF sw
        intro join hF
        refine tW hF rfl (fun _ hF=>?_) fun _ hF=>?_
        ·refine wD 2 rfl ?_;obtain⟨r203,hr203,hF⟩:=bB' hF
         refine rS (cq (J7 _ _ hr203) ⟨rfl,trivial⟩ rfl (.inl rfl) ?_);refine QV rfl ?_;exact join r203 _ _ hF sw
        refine aJ ?_;exact join v107 _ _ hF sw
       intro join hF
       refine tW hF rfl (fun _ hF=>?_) fun _ hF=>?_
       ·refine wD 2 rfl ?_;obtain⟨r205,hr205,hF⟩:=bB' hF
        refine rS (cq (Jj _ _ hr205) ⟨rfl,trivial⟩ rfl (.inl rfl) ?_);refine QV rfl ?_;exact join r205 _ _ hF sw
       refine aJ ?_;exact join e106 _ _ hF sw
      rintro⟨a97,a98⟩ x_0 hF cont_0 brk_0 fin_0
      unfold l9 at hF
      refine az ?_;refine az ?_;refine cz (fun _ _ h=>h) hF (fun v207=>[(1,cP (1,0) 0),(3,cI a97),(6,cI a98),(91,cB v207)]) (fun v207=>[((1,0),.box (aW p0))]) ?_ ?_
      ·rintro v207 hF
       refine wIf hF rfl (fun _ hF=>?_) fun _ hF=>?_
       ·refine aJ ?_;refine az ?_;refine cz (fun _ _ h=>h) hF (fun v208=>[(1,cP (1,0) 0),(3,cI v208),(6,cI a98)]) (fun v208=>[((1,0),.box (aW p0))]) ?_ ?_
        ·rintro v208 hF
         refine wB rfl ?_;exact cont_0 _ _ _ (oi hF) sw
        intro join hF
        refine c7 ?_;refine az ?_;refine hZ (by decide) (by kernel_rfl) rfl ?_;refine aX SP 4 rfl ?_;obtain⟨y209,hy209,hF⟩:=bB' hF
        refine aV SP trivial (cY (tc:=dY) p0.fSamples rfl rfl hy209 ?_);refine aX SP 2 rfl ?_;obtain⟨r210,hr210,hF⟩:=bB' hF
        refine aV SP trivial (cq (l5 _ _ _ hr210) ⟨⟨rfl,rfl,rfl,rfl,rfl,rfl,rfl,rfl,rfl,rfl,trivial⟩,rfl,trivial⟩ rfl (.inl rfl) ?_);refine QP rfl ?_;refine tW hF rfl (fun _ hF=>?_) fun _ hF=>?_
        ·refine wB rfl ?_;exact join 5 _ _ hF sw
        refine aJ ?_;exact join a97 _ _ hF sw
       refine dZ ?_;refine aQ ?_;refine aQ ?_;refine bj ?_;exact brk_0 _ _ _ (oi hF) sw
      intro join hF
      refine wD 3 rfl ?_;refine rS (d3 (tc:=dY) p0.fSamples .tree ?_);refine aX SV 2 rfl ?_;cases h213:(decide (a98<(List.length p0.fSamples:Int)))
      ·have hF:=bF' h213 hF;refine QV rfl ?_;exact join false _ _ hF sw
      have hF:=bT' h213 hF;refine QV rfl ?_;exact join (decide (a97=0)) _ _ hF sw
     intro join hF
     refine tW hF rfl (fun _ hF=>?_) fun _ hF=>?_
     ·refine wD 2 rfl ?_;obtain⟨r214,hr214,hF⟩:=bB' hF
      refine rS (cq (J8 _ _ hr214) ⟨rfl,trivial⟩ rfl (.inl rfl) ?_);refine QV rfl ?_;exact join r214 _ _ hF sw
     refine aJ ?_;exact join e75 _ _ hF sw
    rintro⟨a62,a63⟩ x_0 hF cont_0 brk_0 fin_0
    unfold l8 at hF
    refine az ?_;refine az ?_;refine cz (fun _ _ h=>h) hF (fun v216=>[(1,cP (1,0) 0),(3,cI a62),(5,cI a63),(53,cB v216)]) (fun v216=>[((1,0),.box (aW p0))]) ?_ ?_
    ·rintro v216 hF
     refine wIf hF rfl (fun _ hF=>?_) fun _ hF=>?_
     ·refine aJ ?_;refine az ?_;refine cz (fun _ _ h=>h) hF (fun v217=>[(1,cP (1,0) 0),(3,cI v217),(5,cI a63)]) (fun v217=>[((1,0),.box (aW p0))]) ?_ ?_
      ·rintro v217 hF
       refine wB rfl ?_;exact cont_0 _ _ _ (oi hF) sw
      intro join hF
      refine c7 ?_;refine az ?_;have hF:=bA hF;refine cz (fun _ _ h=>h) hF (fun v218=>[(1,cP (1,0) 0),(3,cI a62),(5,cI a63),(77,cB v218)]) (fun v218=>[((1,0),.box (aW p0))]) ?_ ?_
      ·rintro v218 hF
       refine tW hF rfl (fun _ hF=>?_) fun _ hF=>?_
       ·refine wB rfl ?_;exact join 5 _ _ hF sw
       refine aJ ?_;exact join a62 _ _ hF sw
      intro join hF
      refine hZ (by decide) (by kernel_rfl) rfl ?_;refine aX SP 4 rfl ?_;obtain⟨y220,hy220,hF⟩:=bB' hF
      refine aV SP trivial (cY (tc:=d5) p0.fFlows rfl rfl hy220 ?_);refine aX SP 3 rfl ?_;obtain⟨r221,hr221,hF⟩:=bB' hF
      refine aV SP trivial (cq (l5 _ _ _ hr221) ⟨⟨rfl,rfl,rfl,rfl,rfl,rfl,rfl,rfl,rfl,rfl,trivial⟩,rfl,trivial⟩ rfl (.inl rfl) ?_);refine aX SP 2 rfl ?_;cases h222:(!r221)
      ·have hF:=bF' h222 hF;refine aX SP 4 rfl ?_;obtain⟨y223,hy223,hF⟩:=bB' hF
       refine aV SP rfl (cY (tc:=d5) p0.fFlows rfl rfl hy223 ?_);refine aX SP 3 rfl ?_;obtain⟨r224,hr224,hF⟩:=bB' hF
       refine aV SP rfl (cq (l5 _ _ _ hr224) ⟨⟨rfl,rfl,rfl,rfl,rfl,rfl,rfl,rfl,rfl,rfl,trivial⟩,rfl,trivial⟩ rfl (.inl rfl) ?_);refine QP rfl ?_;exact join (!r224) _ _ hF sw
      have hF:=bT' h222 hF;refine QP rfl ?_;exact join true _ _ hF sw
     refine dZ ?_;refine aQ ?_;refine aQ ?_;refine bj ?_;exact brk_0 _ _ _ (oi hF) sw
    intro join hF
    refine wD 3 rfl ?_;refine rS (d3 (tc:=d5) p0.fFlows .tree ?_);refine aX SV 2 rfl ?_;cases h226:(decide (a63<(List.length p0.fFlows:Int)))
    ·have hF:=bF' h226 hF;refine QV rfl ?_;exact join false _ _ hF sw
    have hF:=bT' h226 hF;refine QV rfl ?_;exact join (decide (a62=0)) _ _ hF sw
   intro join hF
   refine tW hF rfl (fun _ hF=>?_) fun _ hF=>?_
   ·refine wD 2 rfl ?_;obtain⟨r227,hr227,hF⟩:=bB' hF
    refine rS (cq (Kx _ _ hr227) ⟨rfl,trivial⟩ rfl (.inl rfl) ?_);refine QV rfl ?_;exact join r227 _ _ hF sw
   refine aJ ?_;exact join v32 _ _ hF sw
  intro join hF
  refine tW hF rfl (fun _ hF=>?_) fun _ hF=>?_
  ·refine wD 4 rfl ?_;obtain⟨r229,hr229,hF⟩:=bB' hF
   refine rS (cq (Kz _ _ _ hr229) ⟨rfl,rfl,trivial⟩ rfl (.inl rfl) ?_);refine QV rfl ?_;exact join r229 _ _ hF sw
  refine aJ ?_;exact join e31 _ _ hF sw
 rintro⟨a22,a23⟩ x_0 hF cont_0 brk_0 fin_0
 unfold l3 at hF
 refine az ?_;refine az ?_;refine cz (fun _ _ h=>h) hF (fun v231=>[(1,cP (1,0) 0),(3,cI a22),(4,cI a23),(21,cB v231)]) (fun v231=>[((1,0),.box (aW p0))]) ?_ ?_
 ·rintro v231 hF
  refine wIf hF rfl (fun _ hF=>?_) fun _ hF=>?_
  ·refine aJ ?_;refine az ?_;refine cz (fun _ _ h=>h) hF (fun v232=>[(1,cP (1,0) 0),(3,cI v232),(4,cI a23)]) (fun v232=>[((1,0),.box (aW p0))]) ?_ ?_
   ·rintro v232 hF
    refine wB rfl ?_;exact cont_0 _ _ _ (oi hF) sw
   intro join hF
   refine c7 ?_;refine az ?_;refine hZ (by decide) (by kernel_rfl) rfl ?_;refine aX SP 4 rfl ?_;obtain⟨y233,hy233,hF⟩:=bB' hF
   refine aV SP trivial (cY (tc:=aj) p0.fSlices rfl rfl hy233 ?_);refine aX SP 2 rfl ?_;obtain⟨r234,hr234,hF⟩:=bB' hF
   refine aV SP trivial (cq (l5 _ _ _ hr234) ⟨⟨rfl,rfl,rfl,rfl,rfl,rfl,rfl,rfl,rfl,rfl,trivial⟩,rfl,trivial⟩ rfl (.inl rfl) ?_);refine QP rfl ?_;refine tW hF rfl (fun _ hF=>?_) fun _ hF=>?_
   ·refine wB rfl ?_;exact join 5 _ _ hF sw
   refine aJ ?_;exact join a22 _ _ hF sw
  refine dZ ?_;refine aQ ?_;refine aQ ?_;refine bj ?_;exact brk_0 _ _ _ (oi hF) sw
 intro join hF
 refine wD 3 rfl ?_;refine rS (d3 (tc:=aj) p0.fSlices .tree ?_);refine aX SV 2 rfl ?_;cases h237:(decide (a23<(List.length p0.fSlices:Int)))
 ·have hF:=bF' h237 hF;refine QV rfl ?_;exact join false _ _ hF sw
 have hF:=bT' h237 hF;refine QV rfl ?_;exact join (decide (a22=0)) _ _ hF sw
def u7(p0:aY)(a52:Int):Int→Option (Int ⊕ (Unit ⊕ (Int ⊕ (Unit ⊕ Int)))):=fun a91 =>
  (bif (decide (a91<a52))then((idx p0.fThreads a91).bind fun y96=>((idx p0.fThreads a52).bind fun y97=>(bif (decide (y96.fId=y97.fId))then some (.inr (.inr (.inr (.inr 4))))else some (.inl (w64 (a91+1))))))else some (.inr (.inl ())))
def pV(p0:aY):Int→Option (Int ⊕ (Unit ⊕ Int)):=fun a52 =>
  (bif (decide (a52<(List.length p0.fThreads:Int)))then((idx p0.fThreads a52).bind fun y78=>((oX y78).bind fun r79=>(bif (!decide (r79=0))then some (.inr (.inr r79))else((loop (u7 p0 a52) 0).bind fun | .inl _=>some (.inl (w64 (a52+1))) | .inr rv=>some rv))))else some (.inr (.inl ())))
def oJ(p0:aY):Option Int :=
  (bif (decide (64<(List.length p0.fThreads:Int)))then some 7 else((loop (pV p0) 0).bind fun | .inl _=>((vJ p0).bind fun r77=>some r77) | .inr rv=>some rv))
theorem IJ(p0:aY)(r:Int)(hF:oJ p0=some r):Fun Tryz.prog 37 true [] [.agg (aW p0)] noHeap (cI r) noHeap:=by
 refine fW Tryz.func37 ?_
 unfold oJ at hF
 refine wA rfl ?_;refine az ?_;refine wC 2 rfl ?_;refine rS (d3 (tc:=cV) p0.fThreads .tree ?_);refine QV rfl ?_;refine wIf hF rfl (fun _ hF=>?_) fun _ hF=>?_
 ·refine wA rfl ?_;cases hF
  exact bq wR
 refine aJ ?_;refine az ?_;refine wA rfl ?_;refine fQ (fun _ _ h=>h) hF (.inl) (fun a52=>[(1,cP (1,0) 0),(3,cI a52)]) (fun a52=>[((1,0),.box (aW p0))]) (fun _=>[(1,cP (1,0) 0)]) (fun _=>[((1,0),.box (aW p0))]) sw ?_ ?_
 ·rintro⟨⟩ hF
  refine wC 1 rfl ?_;obtain⟨r77,hr77,hF⟩:=bB hF
  refine rS (cq (K4 _ _ hr77) ⟨⟨rfl,rfl,rfl,rfl,rfl,rfl,rfl,rfl,rfl,rfl,trivial⟩,trivial⟩ rfl (.inl rfl) ?_);refine QV rfl ?_;cases hF
  exact bq wR
 rintro a52 x_0 hF cont_0 brk_0 fin_0
 unfold pV at hF
 refine az ?_;refine wC 3 rfl ?_;refine rS (d3 (tc:=cV) p0.fThreads .tree ?_);refine QV rfl ?_;refine wIf hF rfl (fun _ hF=>?_) fun _ hF=>?_
 ·refine aJ ?_;refine az ?_;refine c7 ?_;refine wC 3 rfl ?_;obtain⟨y78,hy78,hF⟩:=bB hF
  refine rS (cY (tc:=cV) p0.fThreads rfl rfl hy78 ?_);refine aX SV 1 rfl ?_;obtain⟨r79,hr79,hF⟩:=bB hF
  refine rS (cq (IZ _ _ hr79) ⟨⟨rfl,rfl,rfl,trivial⟩,trivial⟩ rfl (.inl rfl) ?_);refine QV rfl ?_;refine az ?_;refine wA rfl ?_;refine wIf hF rfl (fun _ hF=>?_) fun _ hF=>?_
  ·refine wA rfl ?_;have hF:=fin_0 _ (oi hF);cases hF
   exact bq wR
  refine aJ ?_;refine wA rfl ?_;refine fQ (fun _ _ h=>h) hF (.inl) (fun a91=>[(1,cP (1,0) 0),(3,cI a52),(5,cI a91)]) (fun a91=>[((1,0),.box (aW p0))]) (fun _=>[(1,cP (1,0) 0),(3,cI a52)]) (fun _=>[((1,0),.box (aW p0))]) sw ?_ ?_
  ·rintro⟨⟩ hF
   refine wB rfl ?_;exact cont_0 _ _ _ (oi hF) sw
  rintro a91 x_1 hF cont_1 brk_1 fin_1
  unfold u7 at hF
  refine az ?_;refine wA rfl ?_;refine wIf hF rfl (fun _ hF=>?_) fun _ hF=>?_
  ·refine aJ ?_;refine az ?_;refine c7 ?_;refine az ?_;refine hZ (by decide) (by kernel_rfl) rfl ?_;refine aX SP 3 rfl ?_;obtain⟨y96,hy96,hF⟩:=bB hF
   refine aV SP trivial (cY (tc:=cV) p0.fThreads rfl rfl hy96 ?_);refine aX SP 5 rfl ?_;obtain⟨y97,hy97,hF⟩:=bB hF
   refine aV SP trivial (cY (tc:=cV) p0.fThreads rfl rfl hy97 ?_);refine QP rfl ?_;refine wIf hF rfl (fun _ hF=>?_) fun _ hF=>?_
   ·refine wA rfl ?_;have hF:=fin_1 _ (oi hF);have hF:=fin_0 _ (oi hF);cases hF
    exact bq wR
   refine aJ ?_;refine wB rfl ?_;exact cont_1 _ _ _ (oi hF) sw
  refine dZ ?_;refine aQ ?_;refine aQ ?_;refine bj ?_;exact brk_1 _ _ _ (oi hF) sw
 refine dZ ?_;refine aQ ?_;refine aQ ?_;refine bj ?_;exact brk_0 _ _ _ (oi hF) sw
def kq(p0:bZ)(p1:bZ):Option Bool :=
  (((bif (decide (p1.fFrom≤p0.fFrom))then some (decide (p0.fTo≤p1.fTo))else some false):Option Bool).bind fun v1=>some v1)
theorem tY(p0:bZ)(p1:bZ)(r:Bool)(hF:kq p0 p1=some r):Fun Tryz.prog 38 true [] [.agg [jI p0.fFrom,jI p0.fTo],.agg [jI p1.fFrom,jI p1.fTo]] noHeap (cB r) noHeap:=by
 refine fW Tryz.func38 ?_
 unfold kq at hF
 refine wA rfl ?_;refine az ?_;refine cz (fun _ _ h=>h) hF (fun v1=>[(4,cB v1)]) (fun v1=>[]) ?_ ?_
 ·rintro v1 hF
  cases hF
  exact bq wR
 intro join hF
 refine wD 6 rfl ?_;cases h2:(decide (p1.fFrom≤p0.fFrom))
 ·have hF:=bF' h2 hF;refine QV rfl ?_;exact join false _ _ hF sw
 have hF:=bT' h2 hF;refine QV rfl ?_;exact join (decide (p0.fTo≤p1.fTo)) _ _ hF sw
def jX(p0:Int)(p1:bZ):Option Bool :=
  (((bif (decide (p1.fFrom≤p0))then some (decide (p0<p1.fTo))else some false):Option Bool).bind fun v1=>some v1)
theorem ox(p0:Int)(p1:bZ)(r:Bool)(hF:jX p0 p1=some r):Fun Tryz.prog 39 true [] [cI p0,.agg [jI p1.fFrom,jI p1.fTo]] noHeap (cB r) noHeap:=by
 refine fW Tryz.func39 ?_
 unfold jX at hF
 refine wA rfl ?_;refine az ?_;refine cz (fun _ _ h=>h) hF (fun v1=>[(4,cB v1)]) (fun v1=>[]) ?_ ?_
 ·rintro v1 hF
  cases hF
  exact bq wR
 intro join hF
 refine wD 5 rfl ?_;cases h2:(decide (p1.fFrom≤p0))
 ·have hF:=bF' h2 hF;refine QV rfl ?_;exact join false _ _ hF sw
 have hF:=bT' h2 hF;refine QV rfl ?_;exact join (decide (p0<p1.fTo)) _ _ hF sw
def mW(p0:aY):(Bool×Int)→Option ((Bool×Int) ⊕ Bool):=fun(a146,a147) =>
  (bif (decide (a147<(List.length p0.fSteps:Int)))then(((bif a146 then((idx p0.fSteps a147).bind fun y157=>((jX y157.fAt p0.fSpan).bind fun r158=>some r158))else some false):Option Bool).bind fun v155=>some (.inl (v155,(w64 (a147+1)))))else some (.inr a146))
def nj(p0:aY):(Bool×Int)→Option ((Bool×Int) ⊕ Bool):=fun(a122,a123) =>
  (bif (decide (a123<(List.length p0.fSamples:Int)))then(((bif a122 then((idx p0.fSamples a123).bind fun y162=>((jX y162.fAt p0.fSpan).bind fun r163=>some r163))else some false):Option Bool).bind fun v160=>some (.inl (v160,(w64 (a123+1)))))else some (.inr a122))
def nQ(p0:aY):(Bool×Int)→Option ((Bool×Int) ⊕ Bool):=fun(a95,a96) =>
  (bif (decide (a96<(List.length p0.fFlows:Int)))then(((bif a95 then((idx p0.fFlows a96).bind fun y167=>((jX y167.fSend p0.fSpan).bind fun r168=>(bif r168 then((idx p0.fFlows a96).bind fun y170=>((jX y170.fRecv p0.fSpan).bind fun r171=>some r171))else some false)))else some false):Option Bool).bind fun v165=>some (.inl (v165,(w64 (a96+1)))))else some (.inr a95))
def m7(p0:aY):(Bool×Int)→Option ((Bool×Int) ⊕ Bool):=fun(a65,a66) =>
  (bif (decide (a66<(List.length p0.fBlocks:Int)))then(((bif a65 then((idx p0.fBlocks a66).bind fun y175=>((kq y175.fSpan p0.fSpan).bind fun r176=>some r176))else some false):Option Bool).bind fun v173=>some (.inl (v173,(w64 (a66+1)))))else some (.inr a65))
def nX(p0:aY):(Bool×Int)→Option ((Bool×Int) ⊕ Bool):=fun(a41,a42) =>
  (bif (decide (a42<(List.length p0.fStates:Int)))then(((bif a41 then((idx p0.fStates a42).bind fun y180=>((kq y180.fSpan p0.fSpan).bind fun r181=>some r181))else some false):Option Bool).bind fun v178=>some (.inl (v178,(w64 (a42+1)))))else some (.inr a41))
def m5(p0:aY):(Bool×Int)→Option ((Bool×Int) ⊕ Bool):=fun(a17,a18) =>
  (bif (decide (a18<(List.length p0.fSlices:Int)))then(((bif a17 then((idx p0.fSlices a18).bind fun y185=>((kq y185.fSpan p0.fSpan).bind fun r186=>some r186))else some false):Option Bool).bind fun v183=>some (.inl (v183,(w64 (a18+1)))))else some (.inr a17))
def p5(p0:aY):Option Int :=
  ((oJ p0).bind fun r1=>(bif (!decide (r1=0))then some r1 else(((bif (decide (p0.fSpan.fFrom<0))then some true else(bif (decide (p0.fSpan.fTo<p0.fSpan.fFrom))then some true else some (decide (1000000000000<p0.fSpan.fTo)))):Option Bool).bind fun v2=>(bif v2 then some 2 else((loop (m5 p0) (true,0)).bind fun e24=>((loop (nX p0) (e24,0)).bind fun e48=>((loop (m7 p0) (e48,0)).bind fun e72=>((loop (nQ p0) (e72,0)).bind fun e105=>((loop (nj p0) (e105,0)).bind fun e129=>((loop (mW p0) (e129,0)).bind fun e153=>(bif (!e153)then some 10 else some 0)))))))))))
theorem JK(p0:aY)(r:Int)(hF:p5 p0=some r):Fun Tryz.prog 24 true [] [.agg (aW p0)] noHeap (cI r) noHeap:=by
 refine fW Tryz.func24 ?_
 unfold p5 at hF
 refine wA rfl ?_;refine wC 1 rfl ?_;obtain⟨r1,hr1,hF⟩:=bB hF
 refine rS (cq (IJ _ _ hr1) ⟨⟨rfl,rfl,rfl,rfl,rfl,rfl,rfl,rfl,rfl,rfl,trivial⟩,trivial⟩ rfl (.inl rfl) ?_);refine QV rfl ?_;refine az ?_;refine wA rfl ?_;refine wIf hF rfl (fun _ hF=>?_) fun _ hF=>?_
 ·refine wA rfl ?_;cases hF
  exact bq wR
 refine aJ ?_;refine wA rfl ?_;refine az ?_;refine az ?_;refine cz (fun _ _ h=>h) hF (fun v2=>[(1,cP (1,0) 0),(4,cP (4,0) 0),(33,cB v2)]) (fun v2=>[((1,0),.box (aW p0)),((4,0),.box [jI p0.fSpan.fFrom,jI p0.fSpan.fTo])]) ?_ ?_
 ·rintro v2 hF
  refine wIf hF rfl (fun _ hF=>?_) fun _ hF=>?_
  ·refine wA rfl ?_;cases hF
   exact bq wR
  refine aJ ?_;refine wA rfl ?_;refine az ?_;refine wA rfl ?_;refine fQ (fun _ _ h=>h) hF (id) (fun(a17,a18)=>[(1,cP (1,0) 0),(4,cP (4,0) 0),(5,cB a17),(6,cI a18)]) (fun(a17,a18)=>[((1,0),.box (aW p0)),((4,0),.box [jI p0.fSpan.fFrom,jI p0.fSpan.fTo])]) (fun e24=>[(1,cP (1,0) 0),(4,cP (4,0) 0),(5,cB e24)]) (fun e24=>[((1,0),.box (aW p0)),((4,0),.box [jI p0.fSpan.fFrom,jI p0.fSpan.fTo])]) sw ?_ ?_
  ·rintro e24 hF
   refine az ?_;refine wA rfl ?_;refine fQ (fun _ _ h=>h) hF (id) (fun(a41,a42)=>[(1,cP (1,0) 0),(4,cP (4,0) 0),(5,cB a41),(7,cI a42)]) (fun(a41,a42)=>[((1,0),.box (aW p0)),((4,0),.box [jI p0.fSpan.fFrom,jI p0.fSpan.fTo])]) (fun e48=>[(1,cP (1,0) 0),(4,cP (4,0) 0),(5,cB e48)]) (fun e48=>[((1,0),.box (aW p0)),((4,0),.box [jI p0.fSpan.fFrom,jI p0.fSpan.fTo])]) sw ?_ ?_
   ·rintro e48 hF
    refine az ?_;refine wA rfl ?_;refine fQ (fun _ _ h=>h) hF (id) (fun(a65,a66)=>[(1,cP (1,0) 0),(4,cP (4,0) 0),(5,cB a65),(8,cI a66)]) (fun(a65,a66)=>[((1,0),.box (aW p0)),((4,0),.box [jI p0.fSpan.fFrom,jI p0.fSpan.fTo])]) (fun e72=>[(1,cP (1,0) 0),(4,cP (4,0) 0),(5,cB e72)]) (fun e72=>[((1,0),.box (aW p0)),((4,0),.box [jI p0.fSpan.fFrom,jI p0.fSpan.fTo])]) sw ?_ ?_
    ·rintro e72 hF
     refine az ?_;refine wA rfl ?_;refine fQ (fun _ _ h=>h) hF (id) (fun(a95,a96)=>[(1,cP (1,0) 0),(4,cP (4,0) 0),(5,cB a95),(9,cI a96)]) (fun(a95,a96)=>[((1,0),.box (aW p0)),((4,0),.box [jI p0.fSpan.fFrom,jI p0.fSpan.fTo])]) (fun e105=>[(1,cP (1,0) 0),(4,cP (4,0) 0),(5,cB e105)]) (fun e105=>[((1,0),.box (aW p0)),((4,0),.box [jI p0.fSpan.fFrom,jI p0.fSpan.fTo])]) sw ?_ ?_
     ·rintro e105 hF
      refine az ?_;refine wA rfl ?_;refine fQ (fun _ _ h=>h) hF (id) (fun(a122,a123)=>[(1,cP (1,0) 0),(4,cP (4,0) 0),(5,cB a122),(10,cI a123)]) (fun(a122,a123)=>[((1,0),.box (aW p0)),((4,0),.box [jI p0.fSpan.fFrom,jI p0.fSpan.fTo])]) (fun e129=>[(1,cP (1,0) 0),(4,cP (4,0) 0),(5,cB e129)]) (fun e129=>[((1,0),.box (aW p0)),((4,0),.box [jI p0.fSpan.fFrom,jI p0.fSpan.fTo])]) sw ?_ ?_
      ·rintro e129 hF
       refine az ?_;refine wA rfl ?_;refine fQ (fun _ _ h=>h) hF (id) (fun(a146,a147)=>[(1,cP (1,0) 0),(4,cP (4,0) 0),(5,cB a146),(11,cI a147)]) (fun(a146,a147)=>[((1,0),.box (aW p0)),((4,0),.box [jI p0.fSpan.fFrom,jI p0.fSpan.fTo])]) (fun e153=>[(5,cB e153)]) (fun e153=>[]) sw ?_ ?_
       ·rintro e153 hF
        refine az ?_;refine wA rfl ?_;refine wIf hF rfl (fun _ hF=>?_) fun _ hF=>?_
        ·refine wA rfl ?_;cases hF
         exact bq wR
        refine aJ ?_;refine wA rfl ?_;cases hF
        exact bq wR
       rintro⟨a146,a147⟩ x_0 hF cont_0 brk_0 fin_0
       unfold mW at hF
       refine az ?_;refine wC 3 rfl ?_;refine rS (d3 (tc:=dW) p0.fSteps .tree ?_);refine QV rfl ?_;refine wIf hF rfl (fun _ hF=>?_) fun _ hF=>?_
       ·refine aJ ?_;refine az ?_;refine cz (fun _ _ h=>h) hF (fun v155=>[(1,cP (1,0) 0),(4,cP (4,0) 0),(5,cB v155),(11,cI a147)]) (fun v155=>[((1,0),.box (aW p0)),((4,0),.box [jI p0.fSpan.fFrom,jI p0.fSpan.fTo])]) ?_ ?_
        ·rintro v155 hF
         refine wB rfl ?_;exact cont_0 _ _ _ (oi hF) sw
        intro join hF
        refine c7 ?_;refine hZ (by decide) (by kernel_rfl) rfl ?_;refine aX SP 2 rfl ?_;cases h156:a146
        ·have hF:=bF' h156 hF;refine QP rfl ?_;exact join false _ _ hF sw
        have hF:=bT' h156 hF;refine aX SP 3 rfl ?_;obtain⟨y157,hy157,hF⟩:=bB' hF
        refine aV SP rfl (cY (tc:=dW) p0.fSteps rfl rfl hy157 ?_);refine aX SP 3 rfl ?_;obtain⟨r158,hr158,hF⟩:=bB' hF
        refine aV SP rfl (cq (ox _ _ _ hr158) ⟨rfl,⟨rfl,rfl,trivial⟩,trivial⟩ rfl (.inl rfl) ?_);refine QP rfl ?_;exact join r158 _ _ hF sw
       refine dZ ?_;refine aQ ?_;refine aQ ?_;refine bj ?_;exact brk_0 _ _ _ (oi hF) sw
      rintro⟨a122,a123⟩ x_0 hF cont_0 brk_0 fin_0
      unfold nj at hF
      refine az ?_;refine wC 3 rfl ?_;refine rS (d3 (tc:=dY) p0.fSamples .tree ?_);refine QV rfl ?_;refine wIf hF rfl (fun _ hF=>?_) fun _ hF=>?_
      ·refine aJ ?_;refine az ?_;refine cz (fun _ _ h=>h) hF (fun v160=>[(1,cP (1,0) 0),(4,cP (4,0) 0),(5,cB v160),(10,cI a123)]) (fun v160=>[((1,0),.box (aW p0)),((4,0),.box [jI p0.fSpan.fFrom,jI p0.fSpan.fTo])]) ?_ ?_
       ·rintro v160 hF
        refine wB rfl ?_;exact cont_0 _ _ _ (oi hF) sw
       intro join hF
       refine c7 ?_;refine hZ (by decide) (by kernel_rfl) rfl ?_;refine aX SP 2 rfl ?_;cases h161:a122
       ·have hF:=bF' h161 hF;refine QP rfl ?_;exact join false _ _ hF sw
       have hF:=bT' h161 hF;refine aX SP 3 rfl ?_;obtain⟨y162,hy162,hF⟩:=bB' hF
       refine aV SP rfl (cY (tc:=dY) p0.fSamples rfl rfl hy162 ?_);refine aX SP 3 rfl ?_;obtain⟨r163,hr163,hF⟩:=bB' hF
       refine aV SP rfl (cq (ox _ _ _ hr163) ⟨rfl,⟨rfl,rfl,trivial⟩,trivial⟩ rfl (.inl rfl) ?_);refine QP rfl ?_;exact join r163 _ _ hF sw
      refine dZ ?_;refine aQ ?_;refine aQ ?_;refine bj ?_;exact brk_0 _ _ _ (oi hF) sw
     rintro⟨a95,a96⟩ x_0 hF cont_0 brk_0 fin_0
     unfold nQ at hF
     refine az ?_;refine wC 3 rfl ?_;refine rS (d3 (tc:=d5) p0.fFlows .tree ?_);refine QV rfl ?_;refine wIf hF rfl (fun _ hF=>?_) fun _ hF=>?_
     ·refine aJ ?_;refine az ?_;refine cz (fun _ _ h=>h) hF (fun v165=>[(1,cP (1,0) 0),(4,cP (4,0) 0),(5,cB v165),(9,cI a96)]) (fun v165=>[((1,0),.box (aW p0)),((4,0),.box [jI p0.fSpan.fFrom,jI p0.fSpan.fTo])]) ?_ ?_
      ·rintro v165 hF
       refine wB rfl ?_;exact cont_0 _ _ _ (oi hF) sw
      intro join hF
      refine c7 ?_;refine hZ (by decide) (by kernel_rfl) rfl ?_;refine aX SP 2 rfl ?_;cases h166:a95
      ·have hF:=bF' h166 hF;refine QP rfl ?_;exact join false _ _ hF sw
      have hF:=bT' h166 hF;refine aX SP 3 rfl ?_;obtain⟨y167,hy167,hF⟩:=bB' hF
      refine aV SP rfl (cY (tc:=d5) p0.fFlows rfl rfl hy167 ?_);refine aX SP 3 rfl ?_;obtain⟨r168,hr168,hF⟩:=bB' hF
      refine aV SP rfl (cq (ox _ _ _ hr168) ⟨rfl,⟨rfl,rfl,trivial⟩,trivial⟩ rfl (.inl rfl) ?_);refine aX SP 2 rfl ?_;cases h169:r168
      ·have hF:=bF' h169 hF;refine QP rfl ?_;exact join false _ _ hF sw
      have hF:=bT' h169 hF;refine aX SP 3 rfl ?_;obtain⟨y170,hy170,hF⟩:=bB' hF
      refine aV SP rfl (cY (tc:=d5) p0.fFlows rfl rfl hy170 ?_);refine aX SP 3 rfl ?_;obtain⟨r171,hr171,hF⟩:=bB' hF
      refine aV SP rfl (cq (ox _ _ _ hr171) ⟨rfl,⟨rfl,rfl,trivial⟩,trivial⟩ rfl (.inl rfl) ?_);refine QP rfl ?_;exact join r171 _ _ hF sw
     refine dZ ?_;refine aQ ?_;refine aQ ?_;refine bj ?_;exact brk_0 _ _ _ (oi hF) sw
    rintro⟨a65,a66⟩ x_0 hF cont_0 brk_0 fin_0
    unfold m7 at hF
    refine az ?_;refine wC 3 rfl ?_;refine rS (d3 (tc:=cW) p0.fBlocks .tree ?_);refine QV rfl ?_;refine wIf hF rfl (fun _ hF=>?_) fun _ hF=>?_
    ·refine aJ ?_;refine az ?_;refine cz (fun _ _ h=>h) hF (fun v173=>[(1,cP (1,0) 0),(4,cP (4,0) 0),(5,cB v173),(8,cI a66)]) (fun v173=>[((1,0),.box (aW p0)),((4,0),.box [jI p0.fSpan.fFrom,jI p0.fSpan.fTo])]) ?_ ?_
     ·rintro v173 hF
      refine wB rfl ?_;exact cont_0 _ _ _ (oi hF) sw
     intro join hF
     refine c7 ?_;refine hZ (by decide) (by kernel_rfl) rfl ?_;refine aX SP 2 rfl ?_;cases h174:a65
     ·have hF:=bF' h174 hF;refine QP rfl ?_;exact join false _ _ hF sw
     have hF:=bT' h174 hF;refine aX SP 3 rfl ?_;obtain⟨y175,hy175,hF⟩:=bB' hF
     refine aV SP rfl (cY (tc:=cW) p0.fBlocks rfl rfl hy175 ?_);refine aX SP 3 rfl ?_;obtain⟨r176,hr176,hF⟩:=bB' hF
     refine aV SP rfl (cq (tY _ _ _ hr176) ⟨⟨rfl,rfl,trivial⟩,⟨rfl,rfl,trivial⟩,trivial⟩ rfl (.inl rfl) ?_);refine QP rfl ?_;exact join r176 _ _ hF sw
    refine dZ ?_;refine aQ ?_;refine aQ ?_;refine bj ?_;exact brk_0 _ _ _ (oi hF) sw
   rintro⟨a41,a42⟩ x_0 hF cont_0 brk_0 fin_0
   unfold nX at hF
   refine az ?_;refine wC 3 rfl ?_;refine rS (d3 (tc:=bz) p0.fStates .tree ?_);refine QV rfl ?_;refine wIf hF rfl (fun _ hF=>?_) fun _ hF=>?_
   ·refine aJ ?_;refine az ?_;refine cz (fun _ _ h=>h) hF (fun v178=>[(1,cP (1,0) 0),(4,cP (4,0) 0),(5,cB v178),(7,cI a42)]) (fun v178=>[((1,0),.box (aW p0)),((4,0),.box [jI p0.fSpan.fFrom,jI p0.fSpan.fTo])]) ?_ ?_
    ·rintro v178 hF
     refine wB rfl ?_;exact cont_0 _ _ _ (oi hF) sw
    intro join hF
    refine c7 ?_;refine hZ (by decide) (by kernel_rfl) rfl ?_;refine aX SP 2 rfl ?_;cases h179:a41
    ·have hF:=bF' h179 hF;refine QP rfl ?_;exact join false _ _ hF sw
    have hF:=bT' h179 hF;refine aX SP 3 rfl ?_;obtain⟨y180,hy180,hF⟩:=bB' hF
    refine aV SP rfl (cY (tc:=bz) p0.fStates rfl rfl hy180 ?_);refine aX SP 3 rfl ?_;obtain⟨r181,hr181,hF⟩:=bB' hF
    refine aV SP rfl (cq (tY _ _ _ hr181) ⟨⟨rfl,rfl,trivial⟩,⟨rfl,rfl,trivial⟩,trivial⟩ rfl (.inl rfl) ?_);refine QP rfl ?_;exact join r181 _ _ hF sw
   refine dZ ?_;refine aQ ?_;refine aQ ?_;refine bj ?_;exact brk_0 _ _ _ (oi hF) sw
  rintro⟨a17,a18⟩ x_0 hF cont_0 brk_0 fin_0
  unfold m5 at hF
  refine az ?_;refine wC 3 rfl ?_;refine rS (d3 (tc:=aj) p0.fSlices .tree ?_);refine QV rfl ?_;refine wIf hF rfl (fun _ hF=>?_) fun _ hF=>?_
  ·refine aJ ?_;refine az ?_;refine cz (fun _ _ h=>h) hF (fun v183=>[(1,cP (1,0) 0),(4,cP (4,0) 0),(5,cB v183),(6,cI a18)]) (fun v183=>[((1,0),.box (aW p0)),((4,0),.box [jI p0.fSpan.fFrom,jI p0.fSpan.fTo])]) ?_ ?_
   ·rintro v183 hF
    refine wB rfl ?_;exact cont_0 _ _ _ (oi hF) sw
   intro join hF
   refine c7 ?_;refine hZ (by decide) (by kernel_rfl) rfl ?_;refine aX SP 2 rfl ?_;cases h184:a17
   ·have hF:=bF' h184 hF;refine QP rfl ?_;exact join false _ _ hF sw
   have hF:=bT' h184 hF;refine aX SP 3 rfl ?_;obtain⟨y185,hy185,hF⟩:=bB' hF
   refine aV SP rfl (cY (tc:=aj) p0.fSlices rfl rfl hy185 ?_);refine aX SP 3 rfl ?_;obtain⟨r186,hr186,hF⟩:=bB' hF
   refine aV SP rfl (cq (tY _ _ _ hr186) ⟨⟨rfl,rfl,trivial⟩,⟨rfl,rfl,trivial⟩,trivial⟩ rfl (.inl rfl) ?_);refine QP rfl ?_;exact join r186 _ _ hF sw
  refine dZ ?_;refine aQ ?_;refine aQ ?_;refine bj ?_;exact brk_0 _ _ _ (oi hF) sw
 intro join hF
 refine wD 4 rfl ?_;cases h189:(decide (p0.fSpan.fFrom<0))
 ·have hF:=bF' h189 hF;refine aX SV 7 rfl ?_;cases h190:(decide (p0.fSpan.fTo<p0.fSpan.fFrom))
  ·have hF:=bF' h190 hF;refine QV rfl ?_;exact join (decide (1000000000000<p0.fSpan.fTo)) _ _ hF sw
  have hF:=bT' h190 hF;refine QV rfl ?_;exact join true _ _ hF sw
 have hF:=bT' h189 hF;refine QV rfl ?_;exact join true _ _ hF sw
def oz(p0:aY)(p1:ByteArray):((List Int)×Int)→Option (((List Int)×Int) ⊕ (List Int)):=fun(a21,a22) =>
  (bif (decide (a22<(List.length p0.fSlices:Int)))then((((idx p0.fSlices a22).bind fun y32=>(((bif (decide (y32.fName=p1))then some (!y32.fOpen)else some false):Option Bool).bind fun v33=>(bif v33 then(bif KV 8 (List.length a21+List.length [(w64 (y32.fSpan.fTo-y32.fSpan.fFrom))])then some (a21++[(w64 (y32.fSpan.fTo-y32.fSpan.fFrom))])else none)else some a21))):Option (List Int)).bind fun v31=>some (.inl (v31,(w64 (a22+1)))))else some (.inr a21))
def l6(p0:aY)(p1:ByteArray):Option (List Int) :=
  ((loop (oz p0 p1) ([],0)).bind fun e30=>some e30)
theorem Aj(p0:aY)(p1:ByteArray)(r:(List Int))(hF:l6 p0 p1=some r):Fun Tryz.prog 25 false [] [.agg (aW p0),.c (jS p1)] (aZ []) (cO (902,1000)) (aZ [((902,1000),.arr 3 1 (List.map dV r))]):=by
 refine fM [] (some []) Tryz.func25 ?_
 unfold l6 at hF
 refine wA rfl ?_;refine wA rfl ?_;refine az ?_;refine wA rfl ?_;refine fQ (fun _ _ h=>h) hF (id) (fun(a21,a22)=>[(1,.c (jS p1)),(2,cP (2,0) 0),(5,cO (38,1)),(6,cI a22)]) (fun(a21,a22)=>[((2,0),.box (aW p0)),((38,1),.arr 3 1 (List.map dV a21))]) (fun e30=>[(5,cO (38,1))]) (fun e30=>[((38,1),.arr 3 1 (List.map dV e30))]) (IW 5 (38,1) 3 1 rfl rfl rfl rfl sw) ?_ ?_
 ·rintro e30 hF
  refine wA rfl ?_;cases hF
  exact bq ⟨_,_,(vq (38,1) (902,1000) rfl rfl fq),_,rfl,rfl,rfl,(AgM.weak ⟨rfl,trivial⟩)⟩
 rintro⟨a21,a22⟩ x_0 hF cont_0 brk_0 fin_0
 unfold oz at hF
 refine az ?_;refine wC 3 rfl ?_;refine rS (d3 (tc:=aj) p0.fSlices .tree ?_);refine QV rfl ?_;refine wIf hF rfl (fun _ hF=>?_) fun _ hF=>?_
 ·refine aJ ?_;refine az ?_;refine cz (fun _ _ h=>h) hF (fun v31=>[(1,.c (jS p1)),(2,cP (2,0) 0),(5,cO (38,1)),(6,cI a22)]) (fun v31=>[((2,0),.box (aW p0)),((38,1),.arr 3 1 (List.map dV v31))]) ?_ ?_
  ·rintro v31 hF
   refine wB rfl ?_;exact cont_0 _ _ _ (oi hF) sw
  intro join hF
  refine c7 ?_;refine wC 3 rfl ?_;obtain⟨y32,hy32,hF⟩:=bB' hF
  refine rS (cY (tc:=aj) p0.fSlices rfl rfl hy32 ?_);refine QV rfl ?_;refine az ?_;have hF:=bA hF;refine cz (fun _ _ h=>h) hF (fun v33=>[(1,.c (jS p1)),(2,cP (2,0) 0),(5,cO (38,1)),(6,cI a22),(7,cP (7,0) 0),(28,cB v33)]) (fun v33=>[((2,0),.box (aW p0)),((38,1),.arr 3 1 (List.map dV a21)),((7,0),.box (i5 y32))]) ?_ ?_
  ·rintro v33 hF
   refine tW hF rfl (fun _ hF=>?_) fun _ hF=>?_
   ·refine wD 8 rfl ?_;refine rS (AQ (tc:=dV) [(w64 (y32.fSpan.fTo-y32.fSpan.fFrom))] rfl ⟨rfl,trivial⟩ rfl (fun _=>rfl) rfl ?_)
    obtain⟨h34,hF⟩:=LV hF
    refine rS (Ej (tc:=dV) a21 [(w64 (y32.fSpan.fTo-y32.fSpan.fFrom))] rfl rfl (.own _ _ rfl) h34 rfl ?_);refine QV rfl ?_;exact join (a21++[(w64 (y32.fSpan.fTo-y32.fSpan.fFrom))]) _ _ hF (vq (38,0) (38,1) rfl rfl sw)
   refine aJ ?_;exact join a21 _ _ hF sw
  intro join hF
  refine wD 5 rfl ?_;cases h36:(decide (y32.fName=p1))
  ·have hF:=bF' h36 hF;refine QV rfl ?_;exact join false _ _ hF sw
  have hF:=bT' h36 hF;refine QV rfl ?_;exact join (!y32.fOpen) _ _ hF sw
 refine dZ ?_;refine aQ ?_;refine aQ ?_;refine bj ?_;exact brk_0 _ _ _ (oi hF) sw
def lj(p0:(List Int))(a87:Int):(Int×Int)→Option ((Int×Int) ⊕ Int):=fun(a145,a146) =>
  (bif (decide (a146<(List.length p0:Int)))then((((idx p0 a146).bind fun y160=>((idx p0 a87).bind fun y161=>(bif (decide (y160≤y161))then some (w64 (a145+1))else some a145))):Option Int).bind fun v159=>some (.inl (v159,(w64 (a146+1)))))else some (.inr a145))
def s8(p0:(List Int))(p1:Int)(p2:Int):(Int×Bool×Int)→Option ((Int×Bool×Int) ⊕ Int):=fun(a85,a86,a87) =>
  (bif (decide (a87<(List.length p0:Int)))then((((loop (lj p0 a87) (0,0)).bind fun e152=>(((bif (decide ((w64 (p1*(List.length p0:Int)))≤(w64 (p2*e152))))then(bif (!a86)then some true else((idx p0 a87).bind fun y158=>some (decide (y158<a85))))else some false):Option Bool).bind fun v153=>(bif v153 then((idx p0 a87).bind fun y154=>some (y154,true))else some (a85,a86)))):Option (Int×Bool)).bind fun(v127,auj)=>some (.inl (v127,auj,(w64 (a87+1)))))else some (.inr a85))
def kK(p0:(List Int))(p1:Int)(p2:Int):Option (Int×Bool) :=
  (((bif (decide ((List.length p0:Int)=0))then some true else(bif (decide (p2<1))then some true else(bif (decide (1000000000000000<p2))then some true else(bif (decide (p1<0))then some true else some (decide (p2<p1)))))):Option Bool).bind fun v1=>(bif v1 then some (0,false)else((loop (s8 p0 p1 p2) (0,false,0)).bind fun e126=>some (e126,true))))
theorem Gx(p0:(List Int))(p1:Int)(p2:Int)(r:(Int×Bool))(hF:kK p0 p1 p2=some r):Fun Tryz.prog 40 true [] [cL 1 dV p0,cI p1,cI p2] noHeap (.tup [cI r.1,cB r.2]) noHeap:=by
 refine fW Tryz.func40 ?_
 unfold kK at hF
 refine wA rfl ?_;refine az ?_;refine az ?_;refine cz (fun _ _ h=>h) hF (fun v1=>[(0,cL 1 dV p0),(1,cI p1),(2,cI p2),(32,cB v1)]) (fun v1=>[]) ?_ ?_
 ·rintro v1 hF
  refine wIf hF rfl (fun _ hF=>?_) fun _ hF=>?_
  ·refine wA rfl ?_;cases hF
   exact bq ⟨_,rfl,rfl,⟨⟨rfl,fun _=>rfl⟩,⟨rfl,fun _=>rfl⟩,trivial⟩,FV _⟩
  refine aJ ?_;refine wA rfl ?_;refine az ?_;refine wA rfl ?_;refine fQ (fun _ _ h=>h) hF (id) (fun(a85,a86,a87)=>[(0,cL 1 dV p0),(1,cI p1),(2,cI p2),(8,cI a85),(9,cB a86),(10,cI a87)]) (fun(a85,a86,a87)=>[]) (fun e126=>[(8,cI e126)]) (fun e126=>[]) sw ?_ ?_
  ·rintro e126 hF
   refine wA rfl ?_;cases hF
   exact bq ⟨_,rfl,rfl,⟨⟨rfl,fun _=>rfl⟩,⟨rfl,fun _=>rfl⟩,trivial⟩,FV _⟩
  rintro⟨a85,a86,a87⟩ x_0 hF cont_0 brk_0 fin_0
  unfold s8 at hF
  refine az ?_;refine wC 2 rfl ?_;refine rS (d3 (tc:=dV) p0 .tree ?_);refine QV rfl ?_;refine wIf hF rfl (fun _ hF=>?_) fun _ hF=>?_
  ·refine aJ ?_;refine az ?_;refine cz (fun _ _ h=>h) hF (fun(v127,auj)=>[(0,cL 1 dV p0),(1,cI p1),(2,cI p2),(8,cI v127),(9,cB auj),(10,cI a87)]) (fun(v127,auj)=>[]) ?_ ?_
   ·rintro⟨v127,auj⟩ hF
    refine wB rfl ?_;exact cont_0 _ _ _ (oi hF) sw
   intro join hF
   refine c7 ?_;refine wA rfl ?_;refine az ?_;refine wA rfl ?_;have hF:=bA hF;refine fQ (fun _ _ h=>h) hF (id) (fun(a145,a146)=>[(0,cL 1 dV p0),(1,cI p1),(2,cI p2),(8,cI a85),(9,cB a86),(10,cI a87),(11,cI a145),(12,cI a146)]) (fun(a145,a146)=>[]) (fun e152=>[(0,cL 1 dV p0),(1,cI p1),(2,cI p2),(8,cI a85),(9,cB a86),(10,cI a87),(11,cI e152)]) (fun e152=>[]) sw ?_ ?_
   ·rintro e152 hF
    refine az ?_;have hF:=bA hF;refine cz (fun _ _ h=>h) hF (fun v153=>[(0,cL 1 dV p0),(1,cI p1),(2,cI p2),(8,cI a85),(9,cB a86),(10,cI a87),(75,cB v153)]) (fun v153=>[]) ?_ ?_
    ·rintro v153 hF
     refine tW hF rfl (fun _ hF=>?_) fun _ hF=>?_
     ·refine wC 2 rfl ?_;obtain⟨y154,hy154,hF⟩:=bB' hF
      refine rS (cY (tc:=dV) p0 rfl rfl hy154 ?_);refine QV rfl ?_;refine wB rfl ?_;exact join (y154,true) _ _ hF sw
     refine aJ ?_;exact join (a85,a86) _ _ hF sw
    intro join hF
    refine wD 5 rfl ?_;refine rS (d3 (tc:=dV) p0 .tree ?_);refine aX SV 3 rfl ?_;cases h156:(decide ((w64 (p1*(List.length p0:Int)))≤(w64 (p2*e152))))
    ·have hF:=bF' h156 hF;refine QV rfl ?_;exact join false _ _ hF sw
    have hF:=bT' h156 hF;refine aX SV 3 rfl ?_;cases h157:(!a86)
    ·have hF:=bF' h157 hF;refine aX SV 2 rfl ?_;obtain⟨y158,hy158,hF⟩:=bB' hF
     refine aV SV rfl (cY (tc:=dV) p0 rfl rfl hy158 ?_);refine QV rfl ?_;exact join (decide (y158<a85)) _ _ hF sw
    have hF:=bT' h157 hF;refine QV rfl ?_;exact join true _ _ hF sw
   rintro⟨a145,a146⟩ x_1 hF cont_1 brk_1 fin_1
   unfold lj at hF
   refine az ?_;refine wC 2 rfl ?_;refine rS (d3 (tc:=dV) p0 .tree ?_);refine QV rfl ?_;refine wIf hF rfl (fun _ hF=>?_) fun _ hF=>?_
   ·refine aJ ?_;refine az ?_;refine cz (fun _ _ h=>h) hF (fun v159=>[(0,cL 1 dV p0),(1,cI p1),(2,cI p2),(8,cI a85),(9,cB a86),(10,cI a87),(11,cI v159),(12,cI a146)]) (fun v159=>[]) ?_ ?_
    ·rintro v159 hF
     refine wB rfl ?_;exact cont_1 _ _ _ (oi hF) sw
    intro join hF
    refine c7 ?_;refine az ?_;refine hZ (by decide) (by kernel_rfl) rfl ?_;refine aX SP 2 rfl ?_;obtain⟨y160,hy160,hF⟩:=bB' hF
    refine aV SP trivial (cY (tc:=dV) p0 rfl rfl hy160 ?_);refine aX SP 3 rfl ?_;obtain⟨y161,hy161,hF⟩:=bB' hF
    refine aV SP trivial (cY (tc:=dV) p0 rfl rfl hy161 ?_);refine QP rfl ?_;refine tW hF rfl (fun _ hF=>?_) fun _ hF=>?_
    ·refine wB rfl ?_;exact join (w64 (a145+1)) _ _ hF sw
    refine aJ ?_;exact join a145 _ _ hF sw
   refine dZ ?_;refine aQ ?_;refine aQ ?_;refine bj ?_;exact brk_1 _ _ _ (oi hF) sw
  refine dZ ?_;refine aQ ?_;refine aQ ?_;refine bj ?_;exact brk_0 _ _ _ (oi hF) sw
 intro join hF
 refine wD 1 rfl ?_;refine rS (d3 (tc:=dV) p0 .tree ?_);refine aX SV 2 rfl ?_;cases h166:(decide ((List.length p0:Int)=0))
 ·have hF:=bF' h166 hF;refine aX SV 4 rfl ?_;cases h167:(decide (p2<1))
  ·have hF:=bF' h167 hF;refine aX SV 4 rfl ?_;cases h168:(decide (1000000000000000<p2))
   ·have hF:=bF' h168 hF;refine aX SV 4 rfl ?_;cases h169:(decide (p1<0))
    ·have hF:=bF' h169 hF;refine QV rfl ?_;exact join (decide (p2<p1)) _ _ hF sw
    have hF:=bT' h169 hF;refine QV rfl ?_;exact join true _ _ hF sw
   have hF:=bT' h168 hF;refine QV rfl ?_;exact join true _ _ hF sw
  have hF:=bT' h167 hF;refine QV rfl ?_;exact join true _ _ hF sw
 have hF:=bT' h166 hF;refine QV rfl ?_;exact join true _ _ hF sw
def jV(p0:aY)(p1:ByteArray)(r2:(Int×Bool)):Int→Option (Int ⊕ (Unit ⊕ Int)):=fun a22 =>
  (((bif (decide (a22<(List.length p0.fSlices:Int)))then some r2.2 else some false):Option Bool).bind fun v31=>(bif v31 then((idx p0.fSlices a22).bind fun y32=>(((bif (decide (y32.fName=p1))then(bif (!y32.fOpen)then some (decide ((w64 (y32.fSpan.fTo-y32.fSpan.fFrom))=r2.1))else some false)else some false):Option Bool).bind fun v33=>(bif v33 then some (.inr (.inr a22))else some (.inl (w64 (a22+1))))))else some (.inr (.inl ()))))
def qZ(p0:aY)(p1:ByteArray):Option Int :=
  ((l6 p0 p1).bind fun r1=>((kK r1 1 2).bind fun r2=>((loop (jV p0 p1 r2) 0).bind fun | .inl _=>some (-1) | .inr rv=>some rv)))
theorem J1(p0:aY)(p1:ByteArray)(r:Int)(hF:qZ p0 p1=some r):Fun Tryz.prog 26 true [] [.agg (aW p0),.c (jS p1)] noHeap (cI r) noHeap:=by
 refine fW Tryz.func26 ?_
 unfold qZ at hF
 refine wA rfl ?_;refine wC 2 rfl ?_;obtain⟨r1,hr1,hF⟩:=bB hF
 refine lq trivial (nY [((902,1000),(12,1))] rfl (zW _) (Aj _ _ _ hr1) trivial ⟨.inr ⟨rfl,rfl,rfl,rfl,rfl,rfl,rfl,rfl,rfl,rfl,trivial⟩,.inl rfl,trivial⟩ rfl rfl rfl ?_)
 obtain⟨r2,hr2,hF⟩:=bB hF
 refine rS (cq (Gx _ _ _ _ hr2) ⟨⟨_,rfl⟩,rfl,rfl,trivial⟩ rfl (.inl rfl) ?_);refine QV rfl ?_;refine az ?_;refine wA rfl ?_;refine fQ (fun _ _ h=>h) hF (.inl) (fun a22=>[(1,.c (jS p1)),(2,cP (2,0) 0),(5,cI r2.1),(6,cB r2.2),(7,cI a22)]) (fun a22=>[((2,0),.box (aW p0))]) (fun _=>[]) (fun _=>[]) sw ?_ ?_
 ·rintro⟨⟩ hF
  refine wA rfl ?_;cases hF
  exact bq wR
 rintro a22 x_0 hF cont_0 brk_0 fin_0
 unfold jV at hF
 refine az ?_;refine az ?_;refine cz (fun _ _ h=>h) hF (fun v31=>[(1,.c (jS p1)),(2,cP (2,0) 0),(5,cI r2.1),(6,cB r2.2),(7,cI a22),(23,cB v31)]) (fun v31=>[((2,0),.box (aW p0))]) ?_ ?_
 ·rintro v31 hF
  refine wIf hF rfl (fun _ hF=>?_) fun _ hF=>?_
  ·refine aJ ?_;refine az ?_;refine c7 ?_;refine wC 3 rfl ?_;obtain⟨y32,hy32,hF⟩:=bB hF
   refine rS (cY (tc:=aj) p0.fSlices rfl rfl hy32 ?_);refine QV rfl ?_;refine az ?_;refine cz (fun _ _ h=>h) hF (fun v33=>[(1,.c (jS p1)),(2,cP (2,0) 0),(5,cI r2.1),(6,cB r2.2),(7,cI a22),(50,cB v33)]) (fun v33=>[((2,0),.box (aW p0))]) ?_ ?_
   ·rintro v33 hF
    refine wIf hF rfl (fun _ hF=>?_) fun _ hF=>?_
    ·refine wA rfl ?_;have hF:=fin_0 _ (oi hF);cases hF
     exact bq wR
    refine aJ ?_;refine wB rfl ?_;exact cont_0 _ _ _ (oi hF) sw
   intro join hF
   refine wD 5 rfl ?_;cases h35:(decide (y32.fName=p1))
   ·have hF:=bF' h35 hF;refine QV rfl ?_;exact join false _ _ hF sw
   have hF:=bT' h35 hF;refine aX SV 5 rfl ?_;cases h36:(!y32.fOpen)
   ·have hF:=bF' h36 hF;refine QV rfl ?_;exact join false _ _ hF sw
   have hF:=bT' h36 hF;refine QV rfl ?_;exact join (decide ((w64 (y32.fSpan.fTo-y32.fSpan.fFrom))=r2.1)) _ _ hF sw
  refine dZ ?_;refine aQ ?_;refine aQ ?_;refine bj ?_;exact brk_0 _ _ _ (oi hF) sw
 intro join hF
 refine wD 3 rfl ?_;refine rS (d3 (tc:=aj) p0.fSlices .tree ?_);refine aX SV 2 rfl ?_;cases h38:(decide (a22<(List.length p0.fSlices:Int)))
 ·have hF:=bF' h38 hF;refine QV rfl ?_;exact join false _ _ hF sw
 have hF:=bT' h38 hF;refine QV rfl ?_;exact join r2.2 _ _ hF sw
def q0(p0:(List cZ))(p1:Int)(p2:Int)(p3:bZ):(Int×Int)→Option ((Int×Int) ⊕ Int):=fun(a36,a37) =>
  (bif (decide (a37<(List.length p0:Int)))then((((((idx p0 a37).bind fun y63=>(bif (!decide (y63.fThread=p1))then some true else((idx p0 a37).bind fun y65=>some (!decide (y65.fState=p2))))):Option Bool).bind fun v54=>(bif v54 then some a36 else((idx p0 a37).bind fun y55=>(((bif (decide (y55.fSpan.fFrom<p3.fFrom))then some p3.fFrom else some y55.fSpan.fFrom):Option Int).bind fun v56=>((idx p0 a37).bind fun y57=>(((bif (decide (p3.fTo<y57.fSpan.fTo))then some p3.fTo else some y57.fSpan.fTo):Option Int).bind fun v58=>(bif (decide (v56<v58))then some (w64 ((w64 (a36+v58))-v56))else some a36))))))):Option Int).bind fun v53=>some (.inl (v53,(w64 (a37+1)))))else some (.inr a36))
def qX(p0:(List cZ))(p1:Int)(p2:Int)(p3:bZ):Option Int :=
  ((lZ p3).bind fun r1=>(bif (!r1)then some 0 else((loop (q0 p0 p1 p2 p3) (0,0)).bind fun e52=>some e52)))
theorem JJ(p0:(List cZ))(p1:Int)(p2:Int)(p3:bZ)(r:Int)(hF:qX p0 p1 p2 p3=some r):Fun Tryz.prog 41 true [] [cL 7 bz p0,cI p1,cI p2,.agg [jI p3.fFrom,jI p3.fTo]] noHeap (cI r) noHeap:=by
 refine fW Tryz.func41 ?_
 unfold qX at hF
 refine wA rfl ?_;refine az ?_;refine wC 1 rfl ?_;obtain⟨r1,hr1,hF⟩:=bB hF
 refine rS (cq (pz _ _ hr1) ⟨⟨rfl,rfl,trivial⟩,trivial⟩ rfl (.inl rfl) ?_);refine QV rfl ?_;refine wIf hF rfl (fun _ hF=>?_) fun _ hF=>?_
 ·refine wA rfl ?_;cases hF
  exact bq wR
 refine aJ ?_;refine wA rfl ?_;refine az ?_;refine wA rfl ?_;refine fQ (fun _ _ h=>h) hF (id) (fun(a36,a37)=>[(0,cL 7 bz p0),(1,cI p1),(2,cI p2),(7,cP (7,0) 0),(9,cI a36),(10,cI a37)]) (fun(a36,a37)=>[((7,0),.box [jI p3.fFrom,jI p3.fTo])]) (fun e52=>[(9,cI e52)]) (fun e52=>[]) sw ?_ ?_
 ·rintro e52 hF
  refine wA rfl ?_;cases hF
  exact bq wR
 rintro⟨a36,a37⟩ x_0 hF cont_0 brk_0 fin_0
 unfold q0 at hF
 refine az ?_;refine wC 2 rfl ?_;refine rS (d3 (tc:=bz) p0 .tree ?_);refine QV rfl ?_;refine wIf hF rfl (fun _ hF=>?_) fun _ hF=>?_
 ·refine aJ ?_;refine az ?_;refine cz (fun _ _ h=>h) hF (fun v53=>[(0,cL 7 bz p0),(1,cI p1),(2,cI p2),(7,cP (7,0) 0),(9,cI v53),(10,cI a37)]) (fun v53=>[((7,0),.box [jI p3.fFrom,jI p3.fTo])]) ?_ ?_
  ·rintro v53 hF
   refine wB rfl ?_;exact cont_0 _ _ _ (oi hF) sw
  intro join hF
  refine c7 ?_;refine az ?_;refine az ?_;have hF:=bA hF;refine cz (fun _ _ h=>h) hF (fun v54=>[(0,cL 7 bz p0),(1,cI p1),(2,cI p2),(7,cP (7,0) 0),(9,cI a36),(10,cI a37),(37,cB v54)]) (fun v54=>[((7,0),.box [jI p3.fFrom,jI p3.fTo])]) ?_ ?_
  ·rintro v54 hF
   refine tW hF rfl (fun _ hF=>?_) fun _ hF=>?_
   ·refine dZ ?_;refine aQ ?_;refine bj ?_;exact join a36 _ _ hF sw
   refine aJ ?_;refine wC 2 rfl ?_;obtain⟨y55,hy55,hF⟩:=bB' hF
   refine rS (cY (tc:=bz) p0 rfl rfl hy55 ?_);refine QV rfl ?_;refine az ?_;refine wA rfl ?_;have hF:=bA hF;refine cz (fun _ _ h=>h) hF (fun v56=>[(0,cL 7 bz p0),(1,cI p1),(2,cI p2),(7,cP (7,0) 0),(9,cI a36),(10,cI a37),(11,cI v56)]) (fun v56=>[((7,0),.box [jI p3.fFrom,jI p3.fTo])]) ?_ ?_
   ·rintro v56 hF
    refine wC 2 rfl ?_;obtain⟨y57,hy57,hF⟩:=bB' hF
    refine rS (cY (tc:=bz) p0 rfl rfl hy57 ?_);refine QV rfl ?_;refine az ?_;refine wA rfl ?_;have hF:=bA hF;refine cz (fun _ _ h=>h) hF (fun v58=>[(0,cL 7 bz p0),(1,cI p1),(2,cI p2),(7,cP (7,0) 0),(9,cI a36),(10,cI a37),(11,cI v56),(12,cI v58)]) (fun v58=>[((7,0),.box [jI p3.fFrom,jI p3.fTo])]) ?_ ?_
    ·rintro v58 hF
     refine wA rfl ?_;refine tW hF rfl (fun _ hF=>?_) fun _ hF=>?_
     ·refine wB rfl ?_;exact join (w64 ((w64 (a36+v58))-v56)) _ _ hF sw
     refine aJ ?_;exact join a36 _ _ hF sw
    intro join hF
    refine tW hF rfl (fun _ hF=>?_) fun _ hF=>?_
    ·refine wB rfl ?_;exact join p3.fTo _ _ hF sw
    refine aJ ?_;exact join y57.fSpan.fTo _ _ hF sw
   intro join hF
   refine tW hF rfl (fun _ hF=>?_) fun _ hF=>?_
   ·refine wB rfl ?_;exact join p3.fFrom _ _ hF sw
   refine aJ ?_;exact join y55.fSpan.fFrom _ _ hF sw
  intro join hF
  refine wD 2 rfl ?_;obtain⟨y63,hy63,hF⟩:=bB' hF
  refine rS (cY (tc:=bz) p0 rfl rfl hy63 ?_);refine aX SV 5 rfl ?_;cases h64:(!decide (y63.fThread=p1))
  ·have hF:=bF' h64 hF;refine aX SV 2 rfl ?_;obtain⟨y65,hy65,hF⟩:=bB' hF
   refine aV SV rfl (cY (tc:=bz) p0 rfl rfl hy65 ?_);refine QV rfl ?_;exact join (!decide (y65.fState=p2)) _ _ hF sw
  have hF:=bT' h64 hF;refine QV rfl ?_;exact join true _ _ hF sw
 refine dZ ?_;refine aQ ?_;refine aQ ?_;refine bj ?_;exact brk_0 _ _ _ (oi hF) sw
def rz(p0:aY)(y1:aK):((List Int)×Int×Int)→Option (((List Int)×Int×Int) ⊕ ((List Int)×Int)):=fun(a17,a18,a19) =>
  (bif (decide (a19≤5))then((qX p0.fStates y1.fThread a19 y1.fSpan).bind fun r27=>(bif KV 8 (List.length a17+List.length [r27])then some (.inl ((a17++[r27]),(w64 (a18-r27)),(w64 (a19+1))))else none))else some (.inr (a17,a18)))
def j3(p0:aY)(p1:Int):Option (List Int) :=
  ((idx p0.fSlices p1).bind fun y1=>((loop (rz p0 y1) ([],(w64 (y1.fSpan.fTo-y1.fSpan.fFrom)),0)).bind fun(e23,e24)=>((idx e23 5).bind fun y25=>((idx e23 5).bind fun y26=>some (List.set e23 (Int.toNat 5) (w64 (y25+e24)))))))
theorem B7(p0:aY)(p1:Int)(r:(List Int))(hF:j3 p0 p1=some r):Fun Tryz.prog 27 false [] [.agg (aW p0),cI p1] (aZ []) (cO (902,1080)) (aZ [((902,1080),.arr 3 1 (List.map dV r))]):=by
 refine fM [] (some []) Tryz.func27 ?_
 unfold j3 at hF
 refine wA rfl ?_;refine wC 3 rfl ?_;obtain⟨y1,hy1,hF⟩:=bB hF
 refine rS (cY (tc:=aj) p0.fSlices rfl rfl hy1 ?_);refine QV rfl ?_;refine wA rfl ?_;refine wA rfl ?_;refine az ?_;refine wA rfl ?_;refine fQ (fun _ _ h=>h) hF (id) (fun(a17,a18,a19)=>[(2,cP (2,0) 0),(5,cP (5,0) 0),(6,cO (37,1)),(7,cI a18),(8,cI a19)]) (fun(a17,a18,a19)=>[((2,0),.box (aW p0)),((5,0),.box (i5 y1)),((37,1),.arr 3 1 (List.map dV a17))]) (fun(e23,e24)=>[(6,cO (37,1)),(7,cI e24)]) (fun(e23,e24)=>[((37,1),.arr 3 1 (List.map dV e23))]) (IW 6 (37,1) 3 1 rfl rfl rfl rfl sw) ?_ ?_
 ·rintro⟨e23,e24⟩ hF
  refine wC 2 rfl ?_;obtain⟨y25,hy25,hF⟩:=bB hF
  refine rS (wK (tc:=dV) e23 rfl rfl rfl hy25 ?_);refine rS (AV (tc:=dV) e23 rfl rfl (lz hy25).2.1 rfl ?_);refine aX SV 2 rfl ?_;obtain⟨y26,hy26,hF⟩:=bB hF
  refine rS (wK (tc:=dV) e23 rfl rfl rfl hy26 ?_);refine rS (azW (tc:=dV) e23 (w64 (y25+e24)) rfl rfl (lz hy26).2.1 rfl rfl rfl rfl rfl ?_);refine QV rfl ?_;refine wA rfl ?_;cases hF
  exact bq ⟨_,_,(vq (37,1) (902,1080) rfl rfl fq),_,rfl,rfl,rfl,(AgM.weak ⟨rfl,trivial⟩)⟩
 rintro⟨a17,a18,a19⟩ x_0 hF cont_0 brk_0 fin_0
 unfold rz at hF
 refine az ?_;refine wA rfl ?_;refine wIf hF rfl (fun _ hF=>?_) fun _ hF=>?_
 ·refine aJ ?_;refine az ?_;refine c7 ?_;refine wC 7 rfl ?_;obtain⟨r27,hr27,hF⟩:=bB hF
  refine rS (cq (JJ _ _ _ _ _ hr27) ⟨rfl,rfl,rfl,⟨rfl,rfl,trivial⟩,trivial⟩ rfl (.inl rfl) ?_);refine QV rfl ?_;refine wC 2 rfl ?_;refine rS (AQ (tc:=dV) [r27] rfl ⟨rfl,trivial⟩ rfl (fun _=>rfl) rfl ?_)
  obtain⟨h28,hF⟩:=Hq hF
  refine rS (Ej (tc:=dV) a17 [r27] rfl rfl (.own _ _ rfl) h28 rfl ?_);refine QV rfl ?_;refine wB rfl ?_;refine wB rfl ?_;exact cont_0 _ _ _ (oi hF) (vq (37,0) (37,1) rfl rfl sw)
 refine dZ ?_;refine aQ ?_;refine aQ ?_;refine bj ?_;exact brk_0 _ _ _ (oi hF) sw
def iK:Nat→(List aK)→Int→Option (List ByteArray)
  | 0,_,_=>none
  | n+1,l,i=>if i<0∨(l.length:Int)≤i then some []else match l[i.toNat]? with
    | some y=>(iK n l y.fParent).map fun p=>p++[y.fName]
    | none=>none
def n3(p0:(List aK))(p1:Int):Option (List ByteArray):=iK 1000 p0 p1
theorem D6(l:List aK):∀(n:Nat) (i:Int) (r:List ByteArray),iK n l i=some r→Go.RM.PathQ (l.map fun y=>(y.fParent,y.fName)) i r∧r.length≤n
  | 0,i,r,h=>by simp[iK]at h
  | n+1,i,r,h=>by
    unfold iK at h
    by_cases e:i<0∨(l.length:Int)≤i
    ·rw[if_pos e]at h
     cases h
     exact⟨.out (by rw[List.length_map];exact e),Nat.zero_le _⟩
    ·rw[if_neg e]at h
     split at h
     ·rename_i y hy
      obtain⟨p,hp,rfl⟩:=aw.1 h
      obtain⟨h1,h2⟩:=D6 l n y.fParent p hp
      have hi:i=((i.toNat:Nat):Int):=by omega
      rw[hi]
      exact⟨.up (by rw[List.getElem?_map,hy];rfl) h1,by rw[ow];simp only[List.length_cons,List.length_nil];omega⟩
     ·simp at h
theorem J6(p0:(List aK)):Go.RM.RowOk (List.map aj p0) (p0.map fun y=>(y.fParent,y.fName)):=by
 refine⟨by rw[List.length_map,List.length_map],fun j a s hj=>?_⟩
 rw[List.getElem?_map]at hj;obtain⟨y,hy,e⟩:=aw.1 hj
 cases e
 exact⟨_,_,_,by rw[List.getElem?_map,hy];rfl⟩
theorem K0(p0:(List aK))(p1:Int)(r:(List ByteArray))(hF:n3 p0 p1=some r):Fun Tryz.prog 28 true [] [cL 8 aj p0,cI p1] noHeap (cL 1 iJ r) noHeap:=by
 obtain⟨h1,h2⟩:=D6 p0 1000 p1 r hF
 exact Go.RM.path_fun (J6 p0) h1 (by omega)
def m4(p0:aY)(a136:Int)(r207:(List Int))(r208:(List Int)):((List fV)×Int)→Option (((List fV)×Int) ⊕ (List fV)):=fun(a235,a236) =>
  (bif (decide (a236<(List.length [(⟨#[114,101,97,100,121]⟩ : ByteArray),(⟨#[97,115,108,101,101,112]⟩ : ByteArray),(⟨#[98,108,111,99,107,101,100]⟩ : ByteArray),(⟨#[103,111,110,101]⟩ : ByteArray),(⟨#[114,117,110,110,105,110,103]⟩ : ByteArray),(⟨#[117,110,107,110,111,119,110]⟩ : ByteArray)]:Int)))then((((idx r207 a236).bind fun y250=>((idx r208 a236).bind fun y251=>(bif (!decide (y250=y251))then((n3 p0.fSlices a136).bind fun r252=>((idx [(⟨#[114,101,97,100,121]⟩ : ByteArray),(⟨#[97,115,108,101,101,112]⟩ : ByteArray),(⟨#[98,108,111,99,107,101,100]⟩ : ByteArray),(⟨#[103,111,110,101]⟩ : ByteArray),(⟨#[114,117,110,110,105,110,103]⟩ : ByteArray),(⟨#[117,110,107,110,111,119,110]⟩ : ByteArray)] a236).bind fun y253=>((idx r207 a236).bind fun y254=>((idx r208 a236).bind fun y255=>(bif KV 56 (List.length a235+List.length [({fPath:=r252,fCause:=y253,fValue:=({fN:=(w64 (y254-y255)),fD:=1}:wY)}:fV)])then some (a235++[({fPath:=r252,fCause:=y253,fValue:=({fN:=(w64 (y254-y255)),fD:=1}:wY)}:fV)])else none)))))else some a235))):Option (List fV)).bind fun v249=>some (.inl (v249,(w64 (a236+1)))))else some (.inr a235))
def m6(p0:aY)(p1:Int)(p2:Int):((List eK)×Int)→Option (((List eK)×Int) ⊕ (List eK)):=fun(a135,a136) =>
  (bif (decide (a136<(List.length p0.fSlices:Int)))then((((idx p0.fSlices a136).bind fun y202=>(((bif y202.fOpen then some true else((l6 p0 y202.fName).bind fun r262=>some (decide ((List.length r262:Int)<3)))):Option Bool).bind fun v203=>(bif v203 then some a135 else((qZ p0 y202.fName).bind fun r204=>((idx p0.fSlices r204).bind fun y205=>((idx p0.fSlices r204).bind fun y206=>(bif (decide ((w64 (p2*(w64 (y202.fSpan.fTo-y202.fSpan.fFrom))))≤(w64 (p1*(w64 (y205.fSpan.fTo-y206.fSpan.fFrom))))))then some a135 else((j3 p0 a136).bind fun r207=>((j3 p0 r204).bind fun r208=>((loop (m4 p0 a136 r207 r208) ([],0)).bind fun e247=>(bif KV 40 (List.length a135+List.length [({fSlice:=a136,fExcess:=(w64 ((w64 (y202.fSpan.fTo-y202.fSpan.fFrom))-(w64 (y205.fSpan.fTo-y206.fSpan.fFrom)))),fParts:=e247}:eK)])then some (a135++[({fSlice:=a136,fExcess:=(w64 ((w64 (y202.fSpan.fTo-y202.fSpan.fFrom))-(w64 (y205.fSpan.fTo-y206.fSpan.fFrom)))),fParts:=e247}:eK)])else none))))))))))):Option (List eK)).bind fun v201=>some (.inl (v201,(w64 (a136+1)))))else some (.inr a135))
def uX(p0:aY)(p1:Int)(p2:Int):Option ((List eK)×Int) :=
  ((p5 p0).bind fun r1=>(bif (!decide (r1=0))then some ([],r1)else(((bif (decide (p2<1))then some true else(bif (decide (p1<p2))then some true else some (decide (1000<p1)))):Option Bool).bind fun v2=>(bif v2 then some ([],1)else((loop (m6 p0 p1 p2) ([],0)).bind fun e200=>some (e200,0))))))
theorem NJ(p0:aY)(p1:Int)(p2:Int)(r:((List eK)×Int))(hF:uX p0 p1 p2=some r):Fun Tryz.prog 11 false [] [.agg (aW p0),cI p1,cI p2] (aZ []) (.tup [cO (902,440),cI r.2]) (aZ [((902,440),.arr 42 3 (List.map b9 r.1))]):=by
 refine Fun.of_walkM [] (some []) Tryz.func11 c11 (by kernel_rfl) (rs:=[.tmp 6,.tmp 7]) (by kernel_rfl) rfl rfl rfl ?_;unfold v11
 unfold uX at hF
 refine wA rfl ?_;refine wC 1 rfl ?_;obtain⟨r1,hr1,hF⟩:=bB hF
 refine rS (cq (JK _ _ hr1) ⟨⟨rfl,rfl,rfl,rfl,rfl,rfl,rfl,rfl,rfl,rfl,trivial⟩,trivial⟩ rfl (.inl rfl) ?_);refine QV rfl ?_;refine az ?_;refine wA rfl ?_;refine wIf hF rfl (fun _ hF=>?_) fun _ hF=>?_
 ·refine wA rfl ?_;cases hF
  exact bq ⟨_,_,(IW 6 (902,440) 42 3 rfl rfl rfl rfl fq),_,rfl,rfl,⟨rfl,⟨rfl,fun _=>rfl⟩,trivial⟩,(AgM.weak ⟨rfl,trivial⟩)⟩
 refine aJ ?_;refine az ?_;refine az ?_;refine cz (fun _ _ h=>h) hF (fun v2=>[(1,cI p1),(2,cI p2),(3,cP (3,0) 0),(35,cB v2)]) (fun v2=>[((3,0),.box (aW p0))]) ?_ ?_
 ·rintro v2 hF
  refine wIf hF rfl (fun _ hF=>?_) fun _ hF=>?_
  ·refine wA rfl ?_;cases hF
   exact bq ⟨_,_,(IW 6 (902,440) 42 3 rfl rfl rfl rfl fq),_,rfl,rfl,⟨rfl,⟨rfl,fun _=>rfl⟩,trivial⟩,(AgM.weak ⟨rfl,trivial⟩)⟩
  refine aJ ?_;refine wE ?_;refine rS (AQ (tc:=iJ) [(⟨#[114,101,97,100,121]⟩ : ByteArray),(⟨#[97,115,108,101,101,112]⟩ : ByteArray),(⟨#[98,108,111,99,107,101,100]⟩ : ByteArray),(⟨#[103,111,110,101]⟩ : ByteArray),(⟨#[114,117,110,110,105,110,103]⟩ : ByteArray),(⟨#[117,110,107,110,111,119,110]⟩ : ByteArray)] rfl ⟨rfl,rfl,rfl,rfl,rfl,rfl,trivial⟩ rfl (fun _=>rfl) rfl ?_)
  refine QV rfl ?_;refine wA rfl ?_;refine az ?_;refine wA rfl ?_;refine fQ (fun _ _ h=>h) hF (id) (fun(a135,a136)=>[(1,cI p1),(2,cI p2),(3,cP (3,0) 0),(9,cO (36,0)),(10,cO (145,1)),(11,cI a136)]) (fun(a135,a136)=>[((3,0),.box (aW p0)),((36,0),.arr 9 1 (List.map iJ [(⟨#[114,101,97,100,121]⟩ : ByteArray),(⟨#[97,115,108,101,101,112]⟩ : ByteArray),(⟨#[98,108,111,99,107,101,100]⟩ : ByteArray),(⟨#[103,111,110,101]⟩ : ByteArray),(⟨#[114,117,110,110,105,110,103]⟩ : ByteArray),(⟨#[117,110,107,110,111,119,110]⟩ : ByteArray)])),((145,1),.arr 42 3 (List.map b9 a135))]) (fun e200=>[(10,cO (145,1))]) (fun e200=>[((145,1),.arr 42 3 (List.map b9 e200))]) (IW 10 (145,1) 42 3 rfl rfl rfl rfl sw) ?_ ?_
  ·rintro e200 hF
   refine wA rfl ?_;cases hF
   exact bq ⟨_,_,(vq (145,1) (902,440) rfl rfl fq),_,rfl,rfl,⟨rfl,⟨rfl,fun _=>rfl⟩,trivial⟩,(AgM.weak ⟨rfl,trivial⟩)⟩
  rintro⟨a135,a136⟩ x_0 hF cont_0 brk_0 fin_0
  unfold m6 at hF
  refine az ?_;refine wC 3 rfl ?_;refine rS (d3 (tc:=aj) p0.fSlices .tree ?_);refine QV rfl ?_;refine wIf hF rfl (fun _ hF=>?_) fun _ hF=>?_
  ·refine aJ ?_;refine az ?_;refine cz (fun _ _ h=>h) hF (fun v201=>[(1,cI p1),(2,cI p2),(3,cP (3,0) 0),(9,cO (36,0)),(10,cO (145,1)),(11,cI a136)]) (fun v201=>[((3,0),.box (aW p0)),((36,0),.arr 9 1 (List.map iJ [(⟨#[114,101,97,100,121]⟩ : ByteArray),(⟨#[97,115,108,101,101,112]⟩ : ByteArray),(⟨#[98,108,111,99,107,101,100]⟩ : ByteArray),(⟨#[103,111,110,101]⟩ : ByteArray),(⟨#[114,117,110,110,105,110,103]⟩ : ByteArray),(⟨#[117,110,107,110,111,119,110]⟩ : ByteArray)])),((145,1),.arr 42 3 (List.map b9 v201))]) ?_ ?_
   ·rintro v201 hF
    refine wB rfl ?_;exact cont_0 _ _ _ (oi hF) sw
   intro join hF
   refine c7 ?_;refine wC 3 rfl ?_;obtain⟨y202,hy202,hF⟩:=bB' hF
   refine rS (cY (tc:=aj) p0.fSlices rfl rfl hy202 ?_);refine QV rfl ?_;refine az ?_;refine az ?_;have hF:=bA hF;refine cz (fun _ _ h=>h) hF (fun v203=>[(1,cI p1),(2,cI p2),(3,cP (3,0) 0),(9,cO (36,0)),(10,cO (145,1)),(11,cI a136),(12,cP (12,0) 0),(58,cB v203)]) (fun v203=>[((3,0),.box (aW p0)),((36,0),.arr 9 1 (List.map iJ [(⟨#[114,101,97,100,121]⟩ : ByteArray),(⟨#[97,115,108,101,101,112]⟩ : ByteArray),(⟨#[98,108,111,99,107,101,100]⟩ : ByteArray),(⟨#[103,111,110,101]⟩ : ByteArray),(⟨#[114,117,110,110,105,110,103]⟩ : ByteArray),(⟨#[117,110,107,110,111,119,110]⟩ : ByteArray)])),((145,1),.arr 42 3 (List.map b9 a135)),((12,0),.box [jI y202.fThread,jI y202.fParent,jI y202.fDepth,jS y202.fName,jI y202.fSpan.fFrom,jI y202.fSpan.fTo,jI y202.fSelf,jB y202.fOpen])]) ?_ ?_
   ·rintro v203 hF
    refine tW hF rfl (fun _ hF=>?_) fun _ hF=>?_
    ·refine dZ ?_;refine aQ ?_;refine bj ?_;exact join a135 _ _ hF sw
    refine aJ ?_;refine wC 3 rfl ?_;obtain⟨r204,hr204,hF⟩:=bB' hF
    refine rS (cq (J1 _ _ _ hr204) ⟨⟨rfl,rfl,rfl,rfl,rfl,rfl,rfl,rfl,rfl,rfl,trivial⟩,rfl,trivial⟩ rfl (.inl rfl) ?_);refine QV rfl ?_;refine wA rfl ?_;refine az ?_
    refine hZ (by decide) (by kernel_rfl) rfl ?_;refine aX SP 3 rfl ?_;obtain⟨y205,hy205,hF⟩:=bB' hF
    refine aV SP trivial (cY (tc:=aj) p0.fSlices rfl rfl hy205 ?_);refine aX SP 6 rfl ?_;obtain⟨y206,hy206,hF⟩:=bB' hF
    refine aV SP trivial (cY (tc:=aj) p0.fSlices rfl rfl hy206 ?_);refine QP rfl ?_;refine az ?_;refine wA rfl ?_;refine tW hF rfl (fun _ hF=>?_) fun _ hF=>?_
    ·refine dZ ?_;refine aQ ?_;refine bj ?_;exact join a135 _ _ hF sw
    refine aJ ?_;refine wC 2 rfl ?_;obtain⟨r207,hr207,hF⟩:=bB' hF
    refine lq trivial (nY [((902,1080),(94,1))] rfl (zW _) (B7 _ _ _ hr207) trivial ⟨.inr ⟨rfl,rfl,rfl,rfl,rfl,rfl,rfl,rfl,rfl,rfl,trivial⟩,.inl rfl,trivial⟩ rfl rfl rfl ?_)
    refine QV rfl ?_;refine wC 2 rfl ?_;obtain⟨r208,hr208,hF⟩:=bB' hF
    refine lq trivial (nY [((902,1080),(97,1))] rfl (zW _) (B7 _ _ _ hr208) trivial ⟨.inr ⟨rfl,rfl,rfl,rfl,rfl,rfl,rfl,rfl,rfl,rfl,trivial⟩,.inl rfl,trivial⟩ rfl rfl rfl ?_)
    refine QV rfl ?_;refine wA rfl ?_;refine az ?_;refine wA rfl ?_;have hF:=bA hF;refine fQ (fun _ _ h=>h) hF (id) (fun(a235,a236)=>[(1,cI p1),(2,cI p2),(3,cP (3,0) 0),(9,cO (36,0)),(10,cO (145,1)),(11,cI a136),(16,cO (94,1)),(17,cO (97,1)),(18,cP (18,0) 0),(19,cI a236)]) (fun(a235,a236)=>[((3,0),.box (aW p0)),((36,0),.arr 9 1 (List.map iJ [(⟨#[114,101,97,100,121]⟩ : ByteArray),(⟨#[97,115,108,101,101,112]⟩ : ByteArray),(⟨#[98,108,111,99,107,101,100]⟩ : ByteArray),(⟨#[103,111,110,101]⟩ : ByteArray),(⟨#[114,117,110,110,105,110,103]⟩ : ByteArray),(⟨#[117,110,107,110,111,119,110]⟩ : ByteArray)])),((145,1),.arr 42 3 (List.map b9 a135)),((94,1),.arr 3 1 (List.map dV r207)),((97,1),.arr 3 1 (List.map dV r208)),((18,0),.box [jI a136,jI (w64 ((w64 (y202.fSpan.fTo-y202.fSpan.fFrom))-(w64 (y205.fSpan.fTo-y206.fSpan.fFrom)))),.slO (140,1)]),((140,1),.arr 61 4 (List.map e9 a235))]) (fun e247=>[(1,cI p1),(2,cI p2),(3,cP (3,0) 0),(9,cO (36,0)),(10,cO (145,1)),(11,cI a136),(18,cP (18,0) 0)]) (fun e247=>[((3,0),.box (aW p0)),((36,0),.arr 9 1 (List.map iJ [(⟨#[114,101,97,100,121]⟩ : ByteArray),(⟨#[97,115,108,101,101,112]⟩ : ByteArray),(⟨#[98,108,111,99,107,101,100]⟩ : ByteArray),(⟨#[103,111,110,101]⟩ : ByteArray),(⟨#[114,117,110,110,105,110,103]⟩ : ByteArray),(⟨#[117,110,107,110,111,119,110]⟩ : ByteArray)])),((145,1),.arr 42 3 (List.map b9 a135)),((18,0),.box [jI a136,jI (w64 ((w64 (y202.fSpan.fTo-y202.fSpan.fFrom))-(w64 (y205.fSpan.fTo-y206.fSpan.fFrom)))),.slO (140,1)]),((140,1),.arr 61 4 (List.map e9 e247))]) (aLz (18,0) _ 2 (140,1) 61 4 rfl rfl rfl rfl rfl sw) ?_ ?_
    ·rintro e247 hF
     refine wD 2 rfl ?_;refine F3 trivial (G6 (140,1) rfl rfl fq) (.inl (AQ (tc:=b9) [({fSlice:=a136,fExcess:=(w64 ((w64 (y202.fSpan.fTo-y202.fSpan.fFrom))-(w64 (y205.fSpan.fTo-y206.fSpan.fFrom)))),fParts:=e247}:eK)] rfl ⟨rfl,rfl,rfl,trivial⟩ rfl (fun _=>rfl) rfl ?_))
     obtain⟨h248,hF⟩:=LV hF
     refine rS (Ej (tc:=b9) a135 [({fSlice:=a136,fExcess:=(w64 ((w64 (y202.fSpan.fTo-y202.fSpan.fFrom))-(w64 (y205.fSpan.fTo-y206.fSpan.fFrom)))),fParts:=e247}:eK)] rfl rfl (.own _ _ rfl) h248 rfl ?_)
     refine QV rfl ?_;exact join (a135++[({fSlice:=a136,fExcess:=(w64 ((w64 (y202.fSpan.fTo-y202.fSpan.fFrom))-(w64 (y205.fSpan.fTo-y206.fSpan.fFrom)))),fParts:=e247}:eK)]) _ _ hF (vq (145,0) (145,1) rfl rfl sw)
    rintro⟨a235,a236⟩ x_1 hF cont_1 brk_1 fin_1
    unfold m4 at hF
    refine az ?_;refine wC 2 rfl ?_;refine rS (d3 (tc:=iJ) [(⟨#[114,101,97,100,121]⟩ : ByteArray),(⟨#[97,115,108,101,101,112]⟩ : ByteArray),(⟨#[98,108,111,99,107,101,100]⟩ : ByteArray),(⟨#[103,111,110,101]⟩ : ByteArray),(⟨#[114,117,110,110,105,110,103]⟩ : ByteArray),(⟨#[117,110,107,110,111,119,110]⟩ : ByteArray)] (.own _ _ rfl) ?_)
    refine QV rfl ?_;refine wIf hF rfl (fun _ hF=>?_) fun _ hF=>?_
    ·refine aJ ?_;refine az ?_;refine cz (fun _ _ h=>h) hF (fun v249=>[(1,cI p1),(2,cI p2),(3,cP (3,0) 0),(9,cO (36,0)),(10,cO (145,1)),(11,cI a136),(16,cO (94,1)),(17,cO (97,1)),(18,cP (18,0) 0),(19,cI a236)]) (fun v249=>[((3,0),.box (aW p0)),((36,0),.arr 9 1 (List.map iJ [(⟨#[114,101,97,100,121]⟩ : ByteArray),(⟨#[97,115,108,101,101,112]⟩ : ByteArray),(⟨#[98,108,111,99,107,101,100]⟩ : ByteArray),(⟨#[103,111,110,101]⟩ : ByteArray),(⟨#[114,117,110,110,105,110,103]⟩ : ByteArray),(⟨#[117,110,107,110,111,119,110]⟩ : ByteArray)])),((145,1),.arr 42 3 (List.map b9 a135)),((94,1),.arr 3 1 (List.map dV r207)),((97,1),.arr 3 1 (List.map dV r208)),((18,0),.box [jI a136,jI (w64 ((w64 (y202.fSpan.fTo-y202.fSpan.fFrom))-(w64 (y205.fSpan.fTo-y206.fSpan.fFrom)))),.slO (140,1)]),((140,1),.arr 61 4 (List.map e9 v249))]) ?_ ?_
     ·rintro v249 hF
      refine wB rfl ?_;exact cont_1 _ _ _ (oi hF) sw
     intro join hF
     refine c7 ?_;refine az ?_;refine hZ (by decide) (by kernel_rfl) rfl ?_;refine aX SP 2 rfl ?_;obtain⟨y250,hy250,hF⟩:=bB' hF
     refine aV SP trivial (wK (tc:=dV) r207 rfl rfl rfl hy250 ?_);refine aV SP trivial (AV (tc:=dV) r207 rfl rfl (lz hy250).2.1 rfl ?_);refine aX SP 2 rfl ?_;obtain⟨y251,hy251,hF⟩:=bB' hF
     refine aV SP trivial (wK (tc:=dV) r208 rfl rfl rfl hy251 ?_);refine aV SP trivial (AV (tc:=dV) r208 rfl rfl (lz hy251).2.1 rfl ?_);refine QP rfl ?_;refine tW hF rfl (fun _ hF=>?_) fun _ hF=>?_
     ·refine hZ (by decide) (by kernel_rfl) rfl ?_;refine aX SP 5 rfl ?_;obtain⟨r252,hr252,hF⟩:=bB' hF
      refine aV SP trivial (cq (K0 _ _ _ hr252) ⟨rfl,rfl,trivial⟩ rfl (.inl rfl) ?_);refine aX SP 2 rfl ?_;obtain⟨y253,hy253,hF⟩:=bB' hF
      refine aV SP trivial (wK (tc:=iJ) [(⟨#[114,101,97,100,121]⟩ : ByteArray),(⟨#[97,115,108,101,101,112]⟩ : ByteArray),(⟨#[98,108,111,99,107,101,100]⟩ : ByteArray),(⟨#[103,111,110,101]⟩ : ByteArray),(⟨#[114,117,110,110,105,110,103]⟩ : ByteArray),(⟨#[117,110,107,110,111,119,110]⟩ : ByteArray)] rfl rfl rfl hy253 ?_)
      refine aV SP trivial (AV (tc:=iJ) [(⟨#[114,101,97,100,121]⟩ : ByteArray),(⟨#[97,115,108,101,101,112]⟩ : ByteArray),(⟨#[98,108,111,99,107,101,100]⟩ : ByteArray),(⟨#[103,111,110,101]⟩ : ByteArray),(⟨#[114,117,110,110,105,110,103]⟩ : ByteArray),(⟨#[117,110,107,110,111,119,110]⟩ : ByteArray)] rfl rfl (lz hy253).2.1 rfl ?_)
      refine aX SP 2 rfl ?_;obtain⟨y254,hy254,hF⟩:=bB' hF
      refine aV SP trivial (wK (tc:=dV) r207 rfl rfl rfl hy254 ?_);refine aV SP trivial (AV (tc:=dV) r207 rfl rfl (lz hy254).2.1 rfl ?_);refine aX SP 2 rfl ?_;obtain⟨y255,hy255,hF⟩:=bB' hF
      refine aV SP trivial (wK (tc:=dV) r208 rfl rfl rfl hy255 ?_);refine aV SP trivial (AV (tc:=dV) r208 rfl rfl (lz hy255).2.1 rfl ?_);refine aX SP 3 rfl ?_;refine aV SP trivial (AQ (tc:=e9) [({fPath:=r252,fCause:=y253,fValue:=({fN:=(w64 (y254-y255)),fD:=1}:wY)}:fV)] rfl ⟨rfl,rfl,rfl,rfl,trivial⟩ rfl (fun _=>rfl) rfl ?_)
      obtain⟨h256,hF⟩:=LV hF
      refine aV SP trivial (Ej (tc:=e9) a235 [({fPath:=r252,fCause:=y253,fValue:=({fN:=(w64 (y254-y255)),fD:=1}:wY)}:fV)] rfl rfl (.own _ _ rfl) h256 rfl ?_)
      refine QP rfl ?_;exact join (a235++[({fPath:=r252,fCause:=y253,fValue:=({fN:=(w64 (y254-y255)),fD:=1}:wY)}:fV)]) _ _ hF (vq (140,0) (140,1) rfl rfl sw)
     refine aJ ?_;exact join a235 _ _ hF sw
    refine dZ ?_;refine aQ ?_;refine aQ ?_;refine bj ?_;exact brk_1 _ _ _ (oi hF) sw
   intro join hF
   refine wD 3 rfl ?_;cases h261:y202.fOpen
   ·have hF:=bF' h261 hF;refine aX SV 3 rfl ?_;obtain⟨r262,hr262,hF⟩:=bB' hF
    refine lq rfl (nY [((902,1000),(55,1))] rfl (zW _) (Aj _ _ _ hr262) trivial ⟨.inr ⟨rfl,rfl,rfl,rfl,rfl,rfl,rfl,rfl,rfl,rfl,trivial⟩,.inl rfl,trivial⟩ rfl rfl rfl ?_)
    refine aV SV rfl (d3 (tc:=dV) r262 (.own _ _ rfl) ?_);refine QV rfl ?_;exact join (decide ((List.length r262:Int)<3)) _ _ hF (abV (by repeat' first | constructor | (rw[h261];rfl)) (by repeat' first | constructor | (rw[h261];rfl)))
   have hF:=bT' h261 hF;refine QV rfl ?_;exact join true _ _ hF (abV (by repeat' first | constructor | (rw[h261];rfl)) (by repeat' first | constructor | (rw[h261];rfl)))
  refine dZ ?_;refine aQ ?_;refine aQ ?_;refine bj ?_;exact brk_0 _ _ _ (oi hF) sw
 intro join hF
 refine wD 3 rfl ?_;cases h265:(decide (p2<1))
 ·have hF:=bF' h265 hF;refine aX SV 5 rfl ?_;cases h266:(decide (p1<p2))
  ·have hF:=bF' h266 hF;refine QV rfl ?_;exact join (decide (1000<p1)) _ _ hF sw
  have hF:=bT' h266 hF;refine QV rfl ?_;exact join true _ _ hF sw
 have hF:=bT' h265 hF;refine QV rfl ?_;exact join true _ _ hF sw
def pK(p0:(List ByteArray))(p1:(List ByteArray)):Int→Option (Int ⊕ (Unit ⊕ Bool)):=fun a12 =>
  (bif (decide (a12<(List.length p1:Int)))then((idx p0 a12).bind fun y17=>((idx p1 a12).bind fun y18=>(bif (!decide (y17=y18))then some (.inr (.inr false))else some (.inl (w64 (a12+1))))))else some (.inr (.inl ())))
def oQ(p0:(List ByteArray))(p1:(List ByteArray)):Option Bool :=
  (bif (decide ((List.length p0:Int)<(List.length p1:Int)))then some false else((loop (pK p0 p1) 0).bind fun | .inl _=>some true | .inr rv=>some rv))
theorem Ij(p0:(List ByteArray))(p1:(List ByteArray))(r:Bool)(hF:oQ p0 p1=some r):Fun Tryz.prog 29 true [] [cL 1 iJ p0,cL 1 iJ p1] noHeap (cB r) noHeap:=by
 refine fW Tryz.func29 ?_
 unfold oQ at hF
 refine wA rfl ?_;refine az ?_;refine wC 1 rfl ?_;refine rS (d3 (tc:=iJ) p0 .tree ?_);refine aX SV 1 rfl ?_;refine rS (d3 (tc:=iJ) p1 .tree ?_);refine QV rfl ?_;refine wIf hF rfl (fun _ hF=>?_) fun _ hF=>?_
 ·refine wA rfl ?_;cases hF
  exact bq wR
 refine aJ ?_;refine az ?_;refine wA rfl ?_;refine fQ (fun _ _ h=>h) hF (.inl) (fun a12=>[(0,cL 1 iJ p0),(1,cL 1 iJ p1),(5,cI a12)]) (fun a12=>[]) (fun _=>[]) (fun _=>[]) sw ?_ ?_
 ·rintro⟨⟩ hF
  refine wA rfl ?_;cases hF
  exact bq wR
 rintro a12 x_0 hF cont_0 brk_0 fin_0
 unfold pK at hF
 refine az ?_;refine wC 2 rfl ?_;refine rS (d3 (tc:=iJ) p1 .tree ?_);refine QV rfl ?_;refine wIf hF rfl (fun _ hF=>?_) fun _ hF=>?_
 ·refine aJ ?_;refine az ?_;refine c7 ?_;refine az ?_;refine hZ (by decide) (by kernel_rfl) rfl ?_;refine aX SP 2 rfl ?_;obtain⟨y17,hy17,hF⟩:=bB hF
  refine aV SP trivial (cY (tc:=iJ) p0 rfl rfl hy17 ?_);refine aX SP 3 rfl ?_;obtain⟨y18,hy18,hF⟩:=bB hF
  refine aV SP trivial (cY (tc:=iJ) p1 rfl rfl hy18 ?_);refine QP rfl ?_;refine wIf hF rfl (fun _ hF=>?_) fun _ hF=>?_
  ·refine wA rfl ?_;have hF:=fin_0 _ (oi hF);cases hF
   exact bq wR
  refine aJ ?_;refine wB rfl ?_;exact cont_0 _ _ _ (oi hF) sw
 refine dZ ?_;refine aQ ?_;refine aQ ?_;refine bj ?_;exact brk_0 _ _ _ (oi hF) sw
def sj(p0:(List fV))(p1:(List fV)):Int→Option (Int ⊕ (Unit ⊕ Bool)):=fun a34 =>
  (bif (decide (a34<(List.length p0:Int)))then((((idx p0 a34).bind fun y52=>((idx p1 a34).bind fun y53=>(bif (!decide (y52.fCause=y53.fCause))then some true else((idx p0 a34).bind fun y55=>((idx p1 a34).bind fun y56=>(bif ((decide (y55.fValue.fN=y56.fValue.fN)&&(decide (y55.fValue.fD=y56.fValue.fD)&&true)) != true)then some true else((idx p0 a34).bind fun y58=>((idx p1 a34).bind fun y59=>(bif (!decide ((List.length y58.fPath:Int)=(List.length y59.fPath:Int)))then some true else((idx p0 a34).bind fun y61=>((idx p1 a34).bind fun y62=>((oQ y61.fPath y62.fPath).bind fun r63=>some (!r63))))))))))))):Option Bool).bind fun v50=>(bif v50 then some (.inr (.inr false))else some (.inl (w64 (a34+1)))))else some (.inr (.inl ())))
def rV(p0:(List fV))(p1:(List fV)):Option Bool :=
  (bif (!decide ((List.length p0:Int)=(List.length p1:Int)))then some false else((loop (sj p0 p1) 0).bind fun | .inl _=>some true | .inr rv=>some rv))
theorem Lx(p0:(List fV))(p1:(List fV))(r:Bool)(hF:rV p0 p1=some r):Fun Tryz.prog 12 true [] [cL 4 e9 p0,cL 4 e9 p1] noHeap (cB r) noHeap:=by
 refine fW Tryz.func12 ?_
 unfold rV at hF
 refine wA rfl ?_;refine az ?_;refine wC 1 rfl ?_;refine rS (d3 (tc:=e9) p0 .tree ?_);refine aX SV 1 rfl ?_;refine rS (d3 (tc:=e9) p1 .tree ?_);refine QV rfl ?_;refine wIf hF rfl (fun _ hF=>?_) fun _ hF=>?_
 ·refine wA rfl ?_;cases hF
  exact bq wR
 refine aJ ?_;refine az ?_;refine wA rfl ?_;refine fQ (fun _ _ h=>h) hF (.inl) (fun a34=>[(0,cL 4 e9 p0),(1,cL 4 e9 p1),(5,cI a34)]) (fun a34=>[]) (fun _=>[]) (fun _=>[]) sw ?_ ?_
 ·rintro⟨⟩ hF
  refine wA rfl ?_;cases hF
  exact bq wR
 rintro a34 x_0 hF cont_0 brk_0 fin_0
 unfold sj at hF
 refine az ?_;refine wC 2 rfl ?_;refine rS (d3 (tc:=e9) p0 .tree ?_);refine QV rfl ?_;refine wIf hF rfl (fun _ hF=>?_) fun _ hF=>?_
 ·refine aJ ?_;refine az ?_;refine c7 ?_;refine az ?_;refine cz (fun _ _ h=>h) hF (fun v50=>[(0,cL 4 e9 p0),(1,cL 4 e9 p1),(5,cI a34),(69,cB v50)]) (fun v50=>[]) ?_ ?_
  ·rintro v50 hF
   refine wIf hF rfl (fun _ hF=>?_) fun _ hF=>?_
   ·refine wA rfl ?_;have hF:=fin_0 _ (oi hF);cases hF
    exact bq wR
   refine aJ ?_;refine wB rfl ?_;exact cont_0 _ _ _ (oi hF) sw
  intro join hF
  refine hZ (by decide) (by kernel_rfl) rfl ?_;refine aX SP 2 rfl ?_;obtain⟨y52,hy52,hF⟩:=bB' hF
  refine aV SP trivial (cY (tc:=e9) p0 rfl rfl hy52 ?_);refine aX SP 4 rfl ?_;obtain⟨y53,hy53,hF⟩:=bB' hF
  refine aV SP trivial (cY (tc:=e9) p1 rfl rfl hy53 ?_);refine aX SP 4 rfl ?_;cases h54:(!decide (y52.fCause=y53.fCause))
  ·have hF:=bF' h54 hF;refine aX SP 2 rfl ?_;obtain⟨y55,hy55,hF⟩:=bB' hF
   refine aV SP rfl (cY (tc:=e9) p0 rfl rfl hy55 ?_);refine aX SP 4 rfl ?_;obtain⟨y56,hy56,hF⟩:=bB' hF
   refine aV SP rfl (cY (tc:=e9) p1 rfl rfl hy56 ?_);refine aX SP 2 rfl ?_;refine aV SP rfl (a1j (b:=(decide (y55.fValue.fN=y56.fValue.fN)&&(decide (y55.fValue.fD=y56.fValue.fD)&&true))) (aUJ (n:=2) (sh:=[.int .i64,.int .i64]) Tryz.underlying54 (by kernel_rfl) (by kernel_rfl)) rfl rfl rfl rfl ?_)
   refine aX SP 2 rfl ?_;cases h57:((decide (y55.fValue.fN=y56.fValue.fN)&&(decide (y55.fValue.fD=y56.fValue.fD)&&true)) != true)
   ·have hF:=bF' h57 hF;refine aX SP 2 rfl ?_;obtain⟨y58,hy58,hF⟩:=bB' hF
    refine aV SP rfl (cY (tc:=e9) p0 rfl rfl hy58 ?_);refine aX SP 2 rfl ?_;refine aV SP rfl (d3 (tc:=iJ) y58.fPath .tree ?_);refine aX SP 2 rfl ?_;obtain⟨y59,hy59,hF⟩:=bB' hF
    refine aV SP rfl (cY (tc:=e9) p1 rfl rfl hy59 ?_);refine aX SP 2 rfl ?_;refine aV SP rfl (d3 (tc:=iJ) y59.fPath .tree ?_);refine aX SP 3 rfl ?_;cases h60:(!decide ((List.length y58.fPath:Int)=(List.length y59.fPath:Int)))
    ·have hF:=bF' h60 hF;refine aX SP 2 rfl ?_;obtain⟨y61,hy61,hF⟩:=bB' hF
     refine aV SP rfl (cY (tc:=e9) p0 rfl rfl hy61 ?_);refine aX SP 4 rfl ?_;obtain⟨y62,hy62,hF⟩:=bB' hF
     refine aV SP rfl (cY (tc:=e9) p1 rfl rfl hy62 ?_);refine aX SP 2 rfl ?_;obtain⟨r63,hr63,hF⟩:=bB' hF
     refine aV SP rfl (cq (Ij _ _ _ hr63) ⟨rfl,rfl,trivial⟩ rfl (.inl rfl) ?_);refine QP rfl ?_;exact join (!r63) _ _ hF sw
    have hF:=bT' h60 hF;refine QP rfl ?_;exact join true _ _ hF sw
   have hF:=bT' h57 hF;refine QP rfl ?_;exact join true _ _ hF sw
  have hF:=bT' h54 hF;refine QP rfl ?_;exact join true _ _ hF sw
 refine dZ ?_;refine aQ ?_;refine aQ ?_;refine bj ?_;exact brk_0 _ _ _ (oi hF) sw
def nV(r3:((List eK)×Int))(r4:((List eK)×Int)):Int→Option (Int ⊕ (Unit ⊕ Bool)):=fun a33 =>
  (bif (decide (a33<(List.length r3.1:Int)))then((((idx r3.1 a33).bind fun y49=>((idx r4.1 a33).bind fun y50=>(bif (!decide (y49.fSlice=y50.fSlice))then some true else((idx r3.1 a33).bind fun y52=>((idx r4.1 a33).bind fun y53=>(bif (!decide (y52.fExcess=y53.fExcess))then some true else((idx r3.1 a33).bind fun y55=>((idx r4.1 a33).bind fun y56=>((rV y55.fParts y56.fParts).bind fun r57=>some (!r57)))))))))):Option Bool).bind fun v47=>(bif v47 then some (.inr (.inr false))else some (.inl (w64 (a33+1)))))else some (.inr (.inl ())))
def i9(p0:aY)(p1:Int)(p2:Int):Option Bool :=
  ((tz p0).bind fun r1=>(bif (!r1)then((qj ).bind fun r2=>some r2)else((z8 p0 p1 p2).bind fun r3=>((uX p0 p1 p2).bind fun r4=>(((bif (!decide (r3.2=r4.2))then some true else some (!decide ((List.length r3.1:Int)=(List.length r4.1:Int)))):Option Bool).bind fun v5=>(bif v5 then some false else((loop (nV r3 r4) 0).bind fun | .inl _=>((qj ).bind fun r46=>some r46) | .inr rv=>some rv)))))))
theorem Fx(p0:aY)(p1:Int)(p2:Int)(r:Bool)(hF:i9 p0 p1 p2=some r):Fun Tryz.prog 3 true [] [.agg (aW p0),cI p1,cI p2] noHeap (cB r) noHeap:=by
 refine fW Tryz.func3 ?_
 unfold i9 at hF
 refine wA rfl ?_;refine az ?_;refine wC 1 rfl ?_;obtain⟨r1,hr1,hF⟩:=bB hF
 refine rS (cq (M0 _ _ hr1) ⟨⟨rfl,rfl,rfl,rfl,rfl,rfl,rfl,rfl,rfl,rfl,trivial⟩,trivial⟩ rfl (.inl rfl) ?_);refine QV rfl ?_;refine wIf hF rfl (fun _ hF=>?_) fun _ hF=>?_
 ·refine wE ?_;obtain⟨r2,hr2,hF⟩:=bB hF
  refine rS (cq (BV _ hr2) trivial rfl (.inl rfl) ?_);refine QV rfl ?_;cases hF
  exact bq wR
 refine aJ ?_;refine wC 3 rfl ?_;obtain⟨r3,hr3,hF⟩:=bB hF
 refine lq trivial (nY [((902,400),(20,1))] rfl (zW _) (DJ _ _ _ _ hr3) trivial ⟨.inr ⟨rfl,rfl,rfl,rfl,rfl,rfl,rfl,rfl,rfl,rfl,trivial⟩,.inl rfl,.inl rfl,trivial⟩ rfl rfl rfl ?_)
 refine QV rfl ?_;refine wC 3 rfl ?_;obtain⟨r4,hr4,hF⟩:=bB hF
 refine lq trivial (nY [((902,440),(27,1))] rfl (zW _) (NJ _ _ _ _ hr4) trivial ⟨.inr ⟨rfl,rfl,rfl,rfl,rfl,rfl,rfl,rfl,rfl,rfl,trivial⟩,.inl rfl,.inl rfl,trivial⟩ rfl rfl rfl ?_)
 refine QV rfl ?_;refine az ?_;refine az ?_;refine cz (fun _ _ h=>h) hF (fun v5=>[(7,cO (20,1)),(9,cO (27,1)),(39,cB v5)]) (fun v5=>[((20,1),.arr 42 3 (List.map b9 r3.1)),((27,1),.arr 42 3 (List.map b9 r4.1))]) ?_ ?_
 ·rintro v5 hF
  refine wIf hF rfl (fun _ hF=>?_) fun _ hF=>?_
  ·refine wA rfl ?_;cases hF
   exact bq wR
  refine aJ ?_;refine az ?_;refine wC 1 rfl ?_;refine rS (d3 (tc:=b9) r3.1 (.own _ _ rfl) ?_);refine QV rfl ?_;refine fQ (fun _ _ h=>h) hF (.inl) (fun a33=>[(7,cO (20,1)),(9,cO (27,1)),(41,cI (List.length r3.1:Int)),(42,cI a33)]) (fun a33=>[((20,1),.arr 42 3 (List.map b9 r3.1)),((27,1),.arr 42 3 (List.map b9 r4.1))]) (fun _=>[]) (fun _=>[]) sw ?_ ?_
  ·rintro⟨⟩ hF
   refine wE ?_;obtain⟨r46,hr46,hF⟩:=bB hF
   refine rS (cq (BV _ hr46) trivial rfl (.inl rfl) ?_);refine QV rfl ?_;cases hF
   exact bq wR
  rintro a33 x_0 hF cont_0 brk_0 fin_0
  unfold nV at hF
  refine wA rfl ?_;refine az ?_;refine wIf hF rfl (fun _ hF=>?_) fun _ hF=>?_
  ·refine aJ ?_;refine az ?_;refine c7 ?_;refine wA rfl ?_;refine az ?_;refine cz (fun _ _ h=>h) hF (fun v47=>[(7,cO (20,1)),(9,cO (27,1)),(41,cI (List.length r3.1:Int)),(42,cI a33),(82,cB v47)]) (fun v47=>[((20,1),.arr 42 3 (List.map b9 r3.1)),((27,1),.arr 42 3 (List.map b9 r4.1))]) ?_ ?_
   ·rintro v47 hF
    refine wIf hF rfl (fun _ hF=>?_) fun _ hF=>?_
    ·refine wA rfl ?_;have hF:=fin_0 _ (oi hF);cases hF
     exact bq wR
    refine aJ ?_;refine wB rfl ?_;exact cont_0 _ _ _ (oi hF) sw
   intro join hF
   refine hZ (by decide) (by kernel_rfl) rfl ?_;refine aX SP 2 rfl ?_;obtain⟨y49,hy49,hF⟩:=bB' hF
   refine aV SP trivial (wK (tc:=b9) r3.1 rfl rfl rfl hy49 ?_);refine aX SP 1 rfl ?_;refine aV SP trivial (AV (tc:=b9) r3.1 rfl rfl (lz hy49).2.1 rfl ?_)
   refine aX SP 2 rfl ?_;obtain⟨y50,hy50,hF⟩:=bB' hF
   refine aV SP trivial (wK (tc:=b9) r4.1 rfl rfl rfl hy50 ?_);refine aX SP 1 rfl ?_;refine aV SP trivial (AV (tc:=b9) r4.1 rfl rfl (lz hy50).2.1 rfl ?_)
   refine aX SP 2 rfl ?_;cases h51:(!decide (y49.fSlice=y50.fSlice))
   ·have hF:=bF' h51 hF;refine aX SP 2 rfl ?_;obtain⟨y52,hy52,hF⟩:=bB' hF
    refine aV SP rfl (wK (tc:=b9) r3.1 rfl rfl rfl hy52 ?_);refine aX SP 1 rfl ?_;refine aV SP rfl (AV (tc:=b9) r3.1 rfl rfl (lz hy52).2.1 rfl ?_);refine aX SP 2 rfl ?_
    obtain⟨y53,hy53,hF⟩:=bB' hF
    refine aV SP rfl (wK (tc:=b9) r4.1 rfl rfl rfl hy53 ?_);refine aX SP 1 rfl ?_;refine aV SP rfl (AV (tc:=b9) r4.1 rfl rfl (lz hy53).2.1 rfl ?_);refine aX SP 3 rfl ?_
    cases h54:(!decide (y52.fExcess=y53.fExcess))
    ·have hF:=bF' h54 hF;refine aX SP 2 rfl ?_;obtain⟨y55,hy55,hF⟩:=bB' hF
     refine aV SP rfl (wK (tc:=b9) r3.1 rfl rfl rfl hy55 ?_);refine aX SP 1 rfl ?_;refine aV SP rfl (AV (tc:=b9) r3.1 rfl rfl (lz hy55).2.1 rfl ?_);refine aX SP 2 rfl ?_
     obtain⟨y56,hy56,hF⟩:=bB' hF
     refine aV SP rfl (wK (tc:=b9) r4.1 rfl rfl rfl hy56 ?_);refine aX SP 1 rfl ?_;refine aV SP rfl (AV (tc:=b9) r4.1 rfl rfl (lz hy56).2.1 rfl ?_);obtain⟨r57,hr57,hF⟩:=bB' hF
     refine aV SP rfl (cq (Lx _ _ _ hr57) ⟨rfl,rfl,trivial⟩ rfl (.inl rfl) ?_);refine QP rfl ?_;exact join (!r57) _ _ hF sw
    have hF:=bT' h54 hF;refine QP rfl ?_;exact join true _ _ hF sw
   have hF:=bT' h51 hF;refine QP rfl ?_;exact join true _ _ hF sw
  refine dZ ?_;refine aQ ?_;refine aQ ?_;refine bj ?_;exact brk_0 _ _ _ (oi hF) sw
 intro join hF
 refine wD 4 rfl ?_;cases h60:(!decide (r3.2=r4.2))
 ·have hF:=bF' h60 hF;refine aX SV 1 rfl ?_;refine aV SV rfl (d3 (tc:=b9) r3.1 (.own _ _ rfl) ?_);refine aX SV 1 rfl ?_;refine aV SV rfl (d3 (tc:=b9) r4.1 (.own _ _ rfl) ?_)
  refine QV rfl ?_;exact join (!decide ((List.length r3.1:Int)=(List.length r4.1:Int))) _ _ hF sw
 have hF:=bT' h60 hF;refine QV rfl ?_;exact join true _ _ hF sw
end Go.VM
