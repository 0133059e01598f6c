/- What the functions of the law compute, each with its proof. -/
import Derived.Test.YtloemokbjaoahaaGreatL321
import Derived.Test.YtloemokbjaoahaaGreatRows
import Derived.KernelRfl
import Derived.Lib.Bytealg
import Derived.Laws.Externs
import Derived.WalkKit
namespace Go.VM
open Go.Proofs Go.Proofs.YtloemokbjaoahaaGreat
open Go.RowKit
set_option maxRecDepth 100000
set_option maxHeartbeats 4000000
theorem C7(p0:cW)(p1:az)(p2:az)(r:Bool)(hF:gz p0 p1 p2=some r):Fun Tryz.prog 6 true [] [.agg (nJ p0),.agg [jI p1.q5,jI p1.q8],.agg [jI p2.q5,jI p2.q8]] noHeap (cB r) noHeap:=by
 refine fW Tryz.func6 ?_
 unfold gz at hF
 refine wA rfl (aJ (wC 1 rfl ?_));obtain⟨r1,hr1,hF⟩:=bB hF
 refine rS (dj (K8 _ _ hr1) ⟨⟨rfl,rfl,rfl,rfl,rfl,rfl,rfl,rfl,rfl,rfl,trivial⟩,trivial⟩ rfl (.inl rfl) (QV rfl (wIf hF rfl (fun _ hF=>?_) fun _ hF=>?_)))
 ·refine wE ?_;obtain⟨r2,hr2,hF⟩:=bB hF
  refine rS (dj (p5 _ hr2) trivial rfl (.inl rfl) (QV rfl ?_));cases hF
  exact bZ wR
 refine aW (wC 2 rfl ?_);obtain⟨r3,hr3,hF⟩:=bB hF
 refine jX trivial (n8 [((902,560),(22,1)),((902,561),(22,2)),((902,562),(22,3)),((902,563),(22,4)),((902,564),(22,5)),((902,565),(22,6)),((902,566),(22,7))] rfl (xJ _) (I3 _ _ _ hr3) trivial ⟨.inr ⟨rfl,rfl,rfl,rfl,rfl,rfl,rfl,rfl,rfl,rfl,trivial⟩,.inr ⟨rfl,rfl,trivial⟩,trivial⟩ rfl rfl rfl ?_)
 refine QV rfl (aJ (aJ (eV (fun _ _ h=>h) hF (fun v4=>[(3,cP (3,0) 0),(4,cP (4,0) 0),(5,cP (5,0) 0),(7,cP (7,0) 0),(37,cB v4)]) (fun v4=>[((3,0),.box (nJ p0)),((4,0),.box [jI p1.q5,jI p1.q8]),((5,0),.box [jI p2.q5,jI p2.q8]),((7,0),.box [jI r3.1.q0.q5,jI r3.1.q0.q8,jL 3 fX r3.1.z3,.slO (22,1),.slO (22,2),.slO (22,3),.slO (22,4),.slO (22,5),.slO (22,6),.slO (22,7)]),((22,1),.arr 67 8 (List.map aK r3.1.z6)),((22,2),.arr 107 7 (List.map bW r3.1.j7)),((22,3),.arr 90 7 (List.map c4 r3.1.v9)),((22,4),.arr 92 4 (List.map cV r3.1.z9)),((22,5),.arr 95 3 (List.map c5 r3.1.w4)),((22,6),.arr 97 7 (List.map cq r3.1.j5)),((22,7),.arr 77 4 (List.map fj r3.1.x4))]) ?_ ?_)))
 ·rintro v4 hF
  refine wIf hF rfl (fun _ hF=>?_) fun _ hF=>?_
  ·refine wE ?_;obtain⟨r5,hr5,hF⟩:=bB hF
   refine rS (dj (p5 _ hr5) trivial rfl (.inl rfl) (QV rfl ?_));cases hF
   exact bZ wR
  refine aW (wA rfl (wA rfl (wC 2 rfl ?_)));obtain⟨r6,hr6,hF⟩:=bB hF
  refine a3X trivial (aQJ [(22,1),(22,2),(22,3),(22,4),(22,5),(22,6),(22,7)] [(62,.agg [jI p2.q5,jI p2.q8]),(61,.agg (nJ r3.1)),(10,cP (10,0) 0),(59,.agg [jI (w64 ((max p1.q5 p0.q0.q5)+p2.q5)),jI (min (w64 ((max p1.q5 p0.q0.q5)+p2.q8)) (w64 ((max p1.q5 p0.q0.q5)+r3.1.q0.q8)))]),(58,cI (min (w64 ((max p1.q5 p0.q0.q5)+p2.q8)) (w64 ((max p1.q5 p0.q0.q5)+r3.1.q0.q8)))),(57,cI (w64 ((max p1.q5 p0.q0.q5)+r3.1.q0.q8))),(56,cI r3.1.q0.q8),(55,cP (7,0) 1),(54,cP (7,0) 0),(53,cI (max p1.q5 p0.q0.q5)),(52,cI (w64 ((max p1.q5 p0.q0.q5)+p2.q8))),(51,cI p2.q8),(50,cP (5,0) 1),(49,cI (max p1.q5 p0.q0.q5)),(48,cI (w64 ((max p1.q5 p0.q0.q5)+p2.q5))),(47,cI p2.q5),(46,cP (5,0) 0),(45,cI (max p1.q5 p0.q0.q5)),(9,cI (max p1.q5 p0.q0.q5)),(44,cI (max p1.q5 p0.q0.q5)),(43,cI p0.q0.q5),(42,cP (3,0) 0),(41,cP (3,0) 0),(40,cI p1.q5),(39,cP (4,0) 0),(3,cP (3,0) 0),(4,cP (4,0) 0),(5,cP (5,0) 0),(7,cP (7,0) 0),(37,cB v4)] [((10,0),.box [jI (w64 ((max p1.q5 p0.q0.q5)+p2.q5)),jI (min (w64 ((max p1.q5 p0.q0.q5)+p2.q8)) (w64 ((max p1.q5 p0.q0.q5)+r3.1.q0.q8)))]),((3,0),.box (nJ p0)),((4,0),.box [jI p1.q5,jI p1.q8]),((5,0),.box [jI p2.q5,jI p2.q8]),((7,0),.box (nJ r3.1))] (by kernel_rfl) e9) (n8 [((902,560),(63,1)),((902,561),(63,2)),((902,562),(63,3)),((902,563),(63,4)),((902,564),(63,5)),((902,565),(63,6)),((902,566),(63,7))] rfl (xJ _) (I3 _ _ _ hr6) trivial ⟨.inr ⟨rfl,rfl,rfl,rfl,rfl,rfl,rfl,rfl,rfl,rfl,trivial⟩,.inr ⟨rfl,rfl,trivial⟩,trivial⟩ rfl rfl rfl ?_)
  refine QV rfl (aJ (wA rfl (wIf hF rfl (fun _ hF=>?_) fun _ hF=>?_)))
  ·refine aJ (eV (fun _ _ h=>h) hF (fun v7=>[(6,cB v7)]) (fun v7=>[]) ?_ ?_)
   ·rintro v7 hF
    cases hF
    exact bZ wR
   intro join hF
   refine wD 3 rfl ?_;cases h8:(decide (r6.2=0))
   ·have hF:=bF' h8 hF;exact QV rfl (join false _ _ hF sw)
   have hF:=bT' h8 hF;refine bq SV 2 rfl (bz SV rfl (fQ (tc:=aK) r6.1.z6 (.own _ _ rfl) (bq SV 2 rfl (bz SV rfl (fQ (tc:=bW) r6.1.j7 (.own _ _ rfl) (bq SV 3 rfl (bz SV rfl (fQ (tc:=c4) r6.1.v9 (.own _ _ rfl) (bq SV 3 rfl (bz SV rfl (fQ (tc:=cV) r6.1.z9 (.own _ _ rfl) (bq SV 3 rfl (bz SV rfl (fQ (tc:=c5) r6.1.w4 (.own _ _ rfl) (bq SV 3 rfl (bz SV rfl (fQ (tc:=cq) r6.1.j5 (.own _ _ rfl) (bq SV 3 rfl (bz SV rfl (fQ (tc:=fj) r6.1.x4 (.own _ _ rfl) (bq SV 4 rfl ?_)))))))))))))))))))));cases h9:(decide ((w64 ((w64 ((w64 ((w64 ((w64 ((w64 ((List.length r6.1.z6:Int)+(List.length r6.1.j7:Int)))+(List.length r6.1.v9:Int)))+(List.length r6.1.z9:Int)))+(List.length r6.1.w4:Int)))+(List.length r6.1.j5:Int)))+(List.length r6.1.x4:Int)))=0))
   ·have hF:=bF' h9 hF;exact QV rfl (join false _ _ hF sw)
   have hF:=bT' h9 hF;refine bq SV 3 rfl (bz SV rfl (TV (b:=(decide (r6.1.q0.q5=0)&&(decide (r6.1.q0.q8=0)&&true))) (eqOk_of (n:=2) (sh:=[.int .i64,.int .i64]) Tryz.underlying32 (by kernel_rfl) (by kernel_rfl)) rfl rfl rfl rfl (bq SV 2 rfl ?_)));cases h10:((decide (r6.1.q0.q5=0)&&(decide (r6.1.q0.q8=0)&&true)) != false)
   ·have hF:=bF' h10 hF;exact QV rfl (join false _ _ hF sw)
   have hF:=bT' h10 hF;obtain⟨r11,hr11,hF⟩:=bB' hF
   exact bz SV rfl (dj (p5 _ hr11) trivial rfl (.inl rfl) (QV rfl (join r11 _ _ hF sw)))
  refine aW (wC 2 rfl ?_);obtain⟨r12,hr12,hF⟩:=bB hF
  refine jX trivial (n8 [((902,560),(115,1)),((902,561),(115,2)),((902,562),(115,3)),((902,563),(115,4)),((902,564),(115,5)),((902,565),(115,6)),((902,566),(115,7))] rfl (xJ _) (I3 _ _ _ hr12) trivial ⟨.inr ⟨rfl,rfl,rfl,rfl,rfl,rfl,rfl,rfl,rfl,rfl,trivial⟩,.inr ⟨rfl,rfl,trivial⟩,trivial⟩ rfl rfl rfl ?_)
  refine QV rfl (aJ (eV (fun _ _ h=>h) hF (fun v13=>[(6,cB v13)]) (fun v13=>[]) ?_ ?_))
  ·rintro v13 hF
   cases hF
   exact bZ wR
  intro join hF
  refine wD 3 rfl ?_;cases h14:(decide (r6.2=0))
  ·have hF:=bF' h14 hF;exact QV rfl (join false _ _ hF sw)
  have hF:=bT' h14 hF;refine bq SV 4 rfl ?_;cases h15:(decide (r12.2=0))
  ·have hF:=bF' h15 hF;exact QV rfl (join false _ _ hF sw)
  have hF:=bT' h15 hF;refine bq SV 2 rfl ?_;obtain⟨r16,hr16,hF⟩:=bB' hF
  refine bz SV rfl (dj (aaW _ _ _ hr16) ⟨⟨rfl,rfl,rfl,⟨_,rfl⟩,⟨_,rfl⟩,⟨_,rfl⟩,⟨_,rfl⟩,⟨_,rfl⟩,⟨_,rfl⟩,⟨_,rfl⟩,trivial⟩,⟨rfl,rfl,rfl,⟨_,rfl⟩,⟨_,rfl⟩,⟨_,rfl⟩,⟨_,rfl⟩,⟨_,rfl⟩,⟨_,rfl⟩,⟨_,rfl⟩,trivial⟩,trivial⟩ rfl (.inl rfl) (bq SV 2 rfl ?_));cases h17:r16
  ·have hF:=bF' h17 hF;exact QV rfl (join false _ _ hF sw)
  have hF:=bT' h17 hF;obtain⟨r18,hr18,hF⟩:=bB' hF
  exact bz SV rfl (dj (p5 _ hr18) trivial rfl (.inl rfl) (QV rfl (join r18 _ _ hF sw)))
 intro join hF
 refine wD 3 rfl ?_;cases h21:(!decide (r3.2=0))
 ·have hF:=bF' h21 hF;refine bq SV 6 rfl ?_;cases h22:(decide (r3.1.q0.q8=0))
  ·have hF:=bF' h22 hF;refine bq SV 1 rfl ?_;obtain⟨r23,hr23,hF⟩:=bB' hF
   exact bz SV rfl (dj (s8 _ _ hr23) ⟨⟨rfl,rfl,trivial⟩,trivial⟩ rfl (.inl rfl) (QV rfl (join (!r23) _ _ hF sw)))
  have hF:=bT' h22 hF;exact QV rfl (join true _ _ hF sw)
 have hF:=bT' h21 hF;exact QV rfl (join true _ _ hF sw)
end Go.VM
