/- The code that the examples reach, as the raw machine walks it; what the walk comes to. -/
import Derived.Test.YtkemjaomoopdnaaGreatRm2
import Derived.Test.YtkemjaomoopdnaaGreatRows
import Derived.KernelRfl
namespace Go.RM
open Go.Proofs Go.Proofs.YtkemjaomoopdnaaGreat
def zX:Nat:=28
def wZ:Nat:=9
def mX:RF:=⟨.seq (.region none [(⟨(some 4),.mv (.con (.c (.sc (.slice none 0 0)))),none⟩,0)]) (.seq (.seq (.region none [(⟨(some 5),.mv (.tmp 1),none⟩,2),(⟨(some 6),.bin .lss (.tmp 5) (.con (.c (.sc (.int .i64 0)))),none⟩,32),(⟨(some 7),.mv (.tmp 6),none⟩,64),(⟨(some 8),.mv (.tmp 1),(some (7,false))⟩,130),(⟨(some 9),.mv (.tmp 0),(some (7,false))⟩,129),(⟨(some 10),.lenS (.tmp 9),(some (7,false))⟩,640),(⟨(some 11),.bin .geq (.tmp 8) (.tmp 10),(some (7,false))⟩,1408),(⟨(some 12),.pick (.tmp 7) (.con (.c (.sc (.bool true)))) (.tmp 11),none⟩,2176)]) (.cond (.tmp 12) (.seq (.region none [(⟨(some 4),.mv (.con (.c (.sc (.slice none 0 0)))),none⟩,0)]) (.ret)) (.skip))) (.seq (.region (some [0,0,0,6,14,30,63,0,0,384,896,1920,3968,8191,16383]) [(⟨(some 13),.mv (.tmp 0),none⟩,1),(⟨(some 14),.mv (.tmp 0),none⟩,1),(⟨(some 15),.mv (.tmp 1),none⟩,2),(⟨(some 16),.ixA 8 (.tmp 14) (.tmp 15),none⟩,49152),(⟨(some 17),.fld 1 (.tmp 16),none⟩,65536),(⟨(some 18),.load 1 false (.tmp 17),none⟩,131072),(⟨(some 19),.call zX [(.tmp 13),(.tmp 18)],none⟩,270336),(⟨(some 20),.mv (.tmp 0),none⟩,1),(⟨(some 21),.mv (.tmp 1),none⟩,2),(⟨(some 22),.ixA 8 (.tmp 20) (.tmp 21),none⟩,3145728),(⟨(some 23),.fld 3 (.tmp 22),none⟩,4194304),(⟨(some 24),.load 1 false (.tmp 23),none⟩,8388608),(⟨(some 25),.bsl wZ 1 1 [(.sc (.string ⟨#[]⟩))] [(0,1,(.tmp 24))],none⟩,16777216),(⟨(some 26),.app wZ 1 16 (.tmp 19) (.tmp 25),none⟩,34078720),(⟨(some 4),.mv (.tmp 26),none⟩,67108864)]) (.ret))),[.tmp 4]⟩
set_option maxRecDepth 100000 in
theorem JQ:aZK Tryz.prog 28=some mX∧awX Tryz.prog 28=true:=⟨by kernel_rfl,by kernel_rfl⟩
def p_T:Tr RF:=PK [(zX,mX)]
theorem aWZ:TOk Tryz.prog p_T:=aXz fun p hp=>by
  simp only[mw,List.not_mem_nil,or_false]at hp
  rcases hp with rfl
  ·exact JQ
end Go.RM
namespace Go.RM
open Go.VM (T T2)
def RowOk(rows:List (List T))(l:List (Int×ByteArray)):Prop:=rows.length=l.length∧∀(j:Nat) a s,l[j]? = some (a,s)→∃t0 t2 rest,rows[j]? = some (t0 :: .sc (.int .i64 a)::t2 :: .sc (.string s)::rest)
inductive PathQ(l:List (Int×ByteArray)):Int→List ByteArray→Prop
  | out {i:Int}:i<0∨(l.length:Int)≤i→PathQ l i []
  | up {i:Nat} {a:Int} {s:ByteArray} {p:List ByteArray}:l[i]? = some (a,s)→PathQ l a p→PathQ l (i:Int) (p++[s])
def WfS(s:S):Prop:=∀k,s.c≤k→s.h.get k=none
structure Fresh(s s':S):Prop where
  c:s.c≤s'.c
  h:∀k,k<s.c→s'.h.get k=s.h.get k
  w:∀k,s'.w.testBit k=true→s.w.testBit k=true∨(s.c≤k∧k<s'.c)
  wf:WfS s'
theorem Fresh.refl{s:S}(h:WfS s):Fresh s s:=⟨kw _,fun _ _=>rfl,fun _ h=>.inl h,h⟩
def anW(b:ByteArray):X:=.sc (.string b)
def aWq(c:Nat)(p:List ByteArray)(v:V)(s':S):Prop:=(p=[]∧v = .c (.sc i8))∨∃n,v = .c (.sl n 1 0 p.length)∧c≤n∧n<s'.c∧s'.h.get n=some (.cells wZ (p.map anW))
theorem e7(a b:Int):T2 .lss (.int .i64 a) (.int .i64 b)=some (.bool (decide (a<b))):=rfl
theorem e8(a b:Int):T2 .geq (.int .i64 a) (.int .i64 b)=some (.bool (decide (b≤a))):=rfl
theorem dX(a b:V)(t:Nat):look (ofL [a,b] 0 .lf) t=if t=0 then a else if t=1 then b else .junk:=by
  simp only[ofL,look,Tr.get_set,Tr.get]
  by_cases e:t=0
  ·subst e;rfl
  ·by_cases e1:t=1
   ·subst e1;rfl
   ·simp[e,e1]
theorem alx{Γ:Tr V}{s:S}{t:Nat}{v:V}(h:look Γ t=v)(hp:wX v=true):NX Γ s [.tmp t]=some ([v],0):=by
  simp only[NX,gJ,h,hp,gd,cond_true,ek]
theorem mq(k:Nat):i7 (k:Int)=some k:=rfl
theorem vV{α:Type}(x:Option α):gd true x=x:=rfl
theorem P4{α:Type}(x:α)(l:List α):Nat.ble 1 (x::l).length=true:=rfl
theorem P9(x:T)(l:List T):mkV false (List.map imX (List.take 1 (x::l))) = .c (imX x):=rfl
theorem BJ(v:Value):imX (.sc v) = .sc v:=rfl
theorem FK(P:Nat→Prop):(∀j,bits 0 j→P j)↔True:=⟨fun _=>trivial,fun _ j h=>by simp[bits]at h⟩
theorem a3q(b:Nat)(x:Fp):apO b x (bits 0) (bits 0)↔True:=⟨fun _=>trivial,fun _=>.inr fun k=>⟨fun h=>by simp[bits]at h,fun h=>by simp[bits]at h,fun h=>by simp[bits]at h⟩⟩
theorem a2K(b i:Nat)(R W:Nat→Prop):apO b ⟨i,bits 0,bits 0⟩ R W↔True:=⟨fun _=>trivial,fun _=>.inr fun k=>⟨fun h=>by simp[bits]at h,fun h=>by simp[bits]at h,fun h=>by simp[bits]at h⟩⟩
theorem P3(w:Nat):Nat.lor w 0=w:=Nat.or_zero w
theorem tQ(a b:Nat):Nat.ble a b=decide (a≤b):=by
  rw[Bool.eq_iff_iff,Nat.ble_eq,decide_eq_true_eq]
theorem uZ(a b:Nat):Nat.beq a b=decide (a=b):=by
  rw[Bool.eq_iff_iff,decide_eq_true_eq]
  exact⟨Nat.eq_of_beq_eq_true,fun h=>h▸Nat.beq_refl a⟩
theorem a1Z:Ox 16 1=true:=rfl
theorem a2W(e:Opd→V)(z:X)(o:Opd)(x:X)(h:e o = .c x):fill e [z] [(0,1,o)]=some [x]:=by
  simp only[fill,h,i3,Option.bind_some,setAt]
  rfl
theorem aSV{rows:List (List T)}{l:List (Int×ByteArray)}(hr:RowOk rows l){i:Int}{p:List ByteArray}(h:PathQ l i p):p.length≤1000000→∀s,WfS s→Cp ajX p_T zX [.c (.im 8 rows),.c (.sc (.int .i64 i))] s (fun k=>s.c≤k∧k<s.c+2*p.length) True fun v s'=>s'.c=s.c+2*p.length∧Fresh s s'∧aWq s.c p v s':=by
  induction h with
  | @out i hi =>
    intro _ s hs
    refine aCq (rf:=mX) rfl ?_
    unfold mX
    refine MW (VW ?_)
    simp only[oq,opP,iZ,d6,gK,j1,gJ,gV,dQ,dj,dX,e7,e8,ek,Option.bind_some,scV,bV,iV,i8,isB,isI,i4,i7,bnd,ik,ck,reduceIte,Nat.reduceEqDiff,iw,dk,fw,cond_true,cond_false]
    refine MW (MW (VW ?_))
    by_cases h0:i<0
    ·simp only[oq,opP,iZ,d6,gK,j1,gJ,gV,dQ,dj,dX,e7,e8,ek,Option.bind_some,scV,bV,iV,i8,isB,isI,i4,i7,bnd,ik,ck,reduceIte,Nat.reduceEqDiff,iw,dk,fw,cond_true,cond_false,h0,decide_true]
     refine alJ (t:=true) ?_ ?_
     ·simp only[oq,opP,iZ,d6,gK,j1,gJ,gV,dQ,dj,dX,e7,e8,ek,Option.bind_some,scV,bV,iV,i8,isB,isI,i4,i7,bnd,ik,ck,reduceIte,Nat.reduceEqDiff,iw,dk,fw,cond_true,cond_false]
     ·refine MW (VW ?_)
      simp only[oq,opP,iZ,d6,gK,j1,gJ,gV,dQ,dj,dX,e7,e8,ek,Option.bind_some,scV,bV,iV,i8,isB,isI,i4,i7,bnd,ik,ck,reduceIte,Nat.reduceEqDiff,iw,dk,fw,cond_true,cond_false]
      refine ayK ?_
      simp only[oq,opP,iZ,d6,gK,j1,gJ,gV,dQ,dj,dX,e7,e8,ek,Option.bind_some,scV,bV,iV,i8,isB,isI,i4,i7,bnd,ik,ck,reduceIte,Nat.reduceEqDiff,iw,dk,fw,cond_true,cond_false]
      exact⟨.inr trivial,_,_,alx (v:=.c (.sc i8)) (by simp only[oq,opP,iZ,d6,gK,j1,gJ,gV,dQ,dj,dX,e7,e8,ek,Option.bind_some,scV,bV,iV,i8,isB,isI,i4,i7,bnd,ik,ck,reduceIte,Nat.reduceEqDiff,iw,dk,fw,cond_true,cond_false]) rfl,fun k hk=>by simp at hk,rfl,Fresh.refl hs,.inl ⟨rfl,rfl⟩⟩
    ·have h1:(rows.length:Int)≤i:=by rw[hr.1];omega
     simp only[oq,opP,iZ,d6,gK,j1,gJ,gV,dQ,dj,dX,e7,e8,ek,Option.bind_some,scV,bV,iV,i8,isB,isI,i4,i7,bnd,ik,ck,reduceIte,Nat.reduceEqDiff,iw,dk,fw,cond_true,cond_false,h0,h1,decide_true,decide_false]
     refine alJ (t:=true) ?_ ?_
     ·simp only[oq,opP,iZ,d6,gK,j1,gJ,gV,dQ,dj,dX,e7,e8,ek,Option.bind_some,scV,bV,iV,i8,isB,isI,i4,i7,bnd,ik,ck,reduceIte,Nat.reduceEqDiff,iw,dk,fw,cond_true,cond_false]
     ·refine MW (VW ?_)
      simp only[oq,opP,iZ,d6,gK,j1,gJ,gV,dQ,dj,dX,e7,e8,ek,Option.bind_some,scV,bV,iV,i8,isB,isI,i4,i7,bnd,ik,ck,reduceIte,Nat.reduceEqDiff,iw,dk,fw,cond_true,cond_false]
      refine ayK ?_
      simp only[oq,opP,iZ,d6,gK,j1,gJ,gV,dQ,dj,dX,e7,e8,ek,Option.bind_some,scV,bV,iV,i8,isB,isI,i4,i7,bnd,ik,ck,reduceIte,Nat.reduceEqDiff,iw,dk,fw,cond_true,cond_false]
      exact⟨.inr trivial,_,_,alx (v:=.c (.sc i8)) (by simp only[oq,opP,iZ,d6,gK,j1,gJ,gV,dQ,dj,dX,e7,e8,ek,Option.bind_some,scV,bV,iV,i8,isB,isI,i4,i7,bnd,ik,ck,reduceIte,Nat.reduceEqDiff,iw,dk,fw,cond_true,cond_false]) rfl,fun k hk=>by simp at hk,rfl,Fresh.refl hs,.inl ⟨rfl,rfl⟩⟩
  | @up i a nm p hi hp ih =>
    intro hlen s hs
    obtain⟨t0,t2,rest,hrow⟩:=hr.2 i a nm hi
    have hlt:i<rows.length:=(cw.1 hrow).1
    have h0 : ¬((i:Int)<0):=by omega
    have h1 : ¬((rows.length:Int)≤(i:Int)):=by omega
    have hlp:p.length≤1000000:=by rw[ow]at hlen;omega
    have ih':=ih hlp {s with w:=0} hs
    refine aCq (rf:=mX) rfl ?_
    unfold mX
    refine MW (VW ?_)
    simp only[oq,opP,iZ,d6,gK,j1,gJ,gV,dQ,dj,dX,e7,e8,ek,Option.bind_some,scV,bV,iV,i8,isB,isI,i4,i7,bnd,ik,ck,reduceIte,Nat.reduceEqDiff,iw,dk,fw,cond_true,cond_false]
    refine MW (MW (VW ?_))
    simp only[oq,opP,iZ,d6,gK,j1,gJ,gV,dQ,dj,dX,e7,e8,ek,Option.bind_some,scV,bV,iV,i8,isB,isI,i4,i7,bnd,ik,ck,reduceIte,Nat.reduceEqDiff,iw,dk,fw,cond_true,cond_false,h0,h1,decide_false]
    refine alJ (t:=false) ?_ ?_
    ·simp only[oq,opP,iZ,d6,gK,j1,gJ,gV,dQ,dj,dX,e7,e8,ek,Option.bind_some,scV,bV,iV,i8,isB,isI,i4,i7,bnd,ik,ck,reduceIte,Nat.reduceEqDiff,iw,dk,fw,cond_true,cond_false]
    refine aRZ ?_
    simp only[oq,opP,iZ,d6,gK,j1,gJ,gV,dQ,dj,dX,e7,e8,ek,Option.bind_some,scV,bV,iV,i8,isB,isI,i4,i7,bnd,ik,ck,reduceIte,Nat.reduceEqDiff,iw,dk,fw,cond_true,cond_false]
    refine MW (aRJ rfl ?_)
    refine DY (by simp only[oq,opP,iZ,d6,gK,j1,gJ,gV,dQ,dj,dX,e7,e8,ek,Option.bind_some,scV,bV,iV,i8,isB,isI,i4,i7,bnd,ik,ck,reduceIte,Nat.reduceEqDiff,iw,dk,fw,cond_true,cond_false]) (by simp only[oq,opP,iZ,d6,gK,j1,gJ,gV,dQ,dj,dX,e7,e8,ek,Option.bind_some,scV,bV,iV,i8,isB,isI,i4,i7,bnd,ik,ck,reduceIte,Nat.reduceEqDiff,iw,dk,fw,cond_true,cond_false,mq,vV,uZ,tQ,eq_self,decide_true,decide_false,List.drop_succ_cons,List.drop_zero,lw,List.map_nil,P4,P9,BJ,FK,P3,true_and,and_true];try rfl) ?_
    refine DY (by simp only[oq,opP,iZ,d6,gK,j1,gJ,gV,dQ,dj,dX,e7,e8,ek,Option.bind_some,scV,bV,iV,i8,isB,isI,i4,i7,bnd,ik,ck,reduceIte,Nat.reduceEqDiff,iw,dk,fw,cond_true,cond_false]) (by simp only[oq,opP,iZ,d6,gK,j1,gJ,gV,dQ,dj,dX,e7,e8,ek,Option.bind_some,scV,bV,iV,i8,isB,isI,i4,i7,bnd,ik,ck,reduceIte,Nat.reduceEqDiff,iw,dk,fw,cond_true,cond_false,mq,vV,uZ,tQ,eq_self,decide_true,decide_false,List.drop_succ_cons,List.drop_zero,lw,List.map_nil,P4,P9,BJ,FK,P3,true_and,and_true];try rfl) ?_
    refine DY (by simp only[oq,opP,iZ,d6,gK,j1,gJ,gV,dQ,dj,dX,e7,e8,ek,Option.bind_some,scV,bV,iV,i8,isB,isI,i4,i7,bnd,ik,ck,reduceIte,Nat.reduceEqDiff,iw,dk,fw,cond_true,cond_false]) (by simp only[oq,opP,iZ,d6,gK,j1,gJ,gV,dQ,dj,dX,e7,e8,ek,Option.bind_some,scV,bV,iV,i8,isB,isI,i4,i7,bnd,ik,ck,reduceIte,Nat.reduceEqDiff,iw,dk,fw,cond_true,cond_false,mq,vV,uZ,tQ,eq_self,decide_true,decide_false,List.drop_succ_cons,List.drop_zero,lw,List.map_nil,P4,P9,BJ,FK,P3,true_and,and_true];try rfl) ?_
    refine DY (by simp only[oq,opP,iZ,d6,gK,j1,gJ,gV,dQ,dj,dX,e7,e8,ek,Option.bind_some,scV,bV,iV,i8,isB,isI,i4,i7,bnd,ik,ck,reduceIte,Nat.reduceEqDiff,iw,dk,fw,cond_true,cond_false]) (by simp only[oq,opP,iZ,d6,gK,j1,gJ,gV,dQ,dj,dX,e7,e8,ek,Option.bind_some,scV,bV,iV,i8,isB,isI,i4,i7,bnd,ik,ck,reduceIte,Nat.reduceEqDiff,iw,dk,fw,cond_true,cond_false,mq,vV,uZ,tQ,eq_self,decide_true,decide_false,List.drop_succ_cons,List.drop_zero,lw,List.map_nil,P4,P9,BJ,FK,P3,true_and,and_true,hrow];try rfl) ?_
    refine DY (by simp only[oq,opP,iZ,d6,gK,j1,gJ,gV,dQ,dj,dX,e7,e8,ek,Option.bind_some,scV,bV,iV,i8,isB,isI,i4,i7,bnd,ik,ck,reduceIte,Nat.reduceEqDiff,iw,dk,fw,cond_true,cond_false]) (by simp only[oq,opP,iZ,d6,gK,j1,gJ,gV,dQ,dj,dX,e7,e8,ek,Option.bind_some,scV,bV,iV,i8,isB,isI,i4,i7,bnd,ik,ck,reduceIte,Nat.reduceEqDiff,iw,dk,fw,cond_true,cond_false,mq,vV,uZ,tQ,eq_self,decide_true,decide_false,List.drop_succ_cons,List.drop_zero,lw,List.map_nil,P4,P9,BJ,FK,P3,true_and,and_true];try rfl) ?_
    refine aAX (by simp only[oq,opP,iZ,d6,gK,j1,gJ,gV,dQ,dj,dX,e7,e8,ek,Option.bind_some,scV,bV,iV,i8,isB,isI,i4,i7,bnd,ik,ck,reduceIte,Nat.reduceEqDiff,iw,dk,fw,cond_true,cond_false]) (by simp only[d6]) (by simp only[oq,opP,iZ,d6,gK,j1,gJ,gV,dQ,dj,dX,e7,e8,ek,Option.bind_some,scV,bV,iV,i8,isB,isI,i4,i7,bnd,ik,ck,reduceIte,Nat.reduceEqDiff,iw,dk,fw,cond_true,cond_false,mq,vV,uZ,tQ,eq_self,decide_true,decide_false,List.drop_succ_cons,List.drop_zero,lw,List.map_nil,P4,P9,BJ,FK,P3,true_and,and_true];try rfl) ?_
    refine aRq (fun k=>s.c≤k∧k<s.c+2*p.length) (fun k=>s.c≤k∧k<s.c+2*p.length) rfl (args:=[.c (.im 8 rows),.c (.sc (.int .i64 a))]) (by simp only[oq,opP,iZ,d6,gK,j1,gJ,gV,dQ,dj,dX,e7,e8,ek,Option.bind_some,scV,bV,iV,i8,isB,isI,i4,i7,bnd,ik,ck,reduceIte,Nat.reduceEqDiff,iw,dk,fw,cond_true,cond_false,lw,List.map_nil]) (fun _ h=>⟨h.1,by rw[ow];omega⟩) (fun x hx=>by simp at hx) (Cp.mono ih' (fun _ h=>h) (fun h=>h) fun v s1 hv=>⟨fun j hj=>?_,?_⟩)
    ·rcases hv.2.1.w j hj with h | h
     ·simp at h
     ·have:=hv.1;exact⟨h.1,by have:=h.2;simp only at *;omega⟩
    obtain⟨hcc,hf,hv⟩:=hv
    have hcc:s1.c=s.c+2*p.length:=hcc
    have hsc:s.c≤s1.c:=hf.c
    have hn:s1.h.get s1.c=none:=hf.wf _ (kw _)
    refine DY (by simp only[oq,opP,iZ,d6,gK,j1,gJ,gV,dQ,dj,dX,e7,e8,ek,Option.bind_some,scV,bV,iV,i8,isB,isI,i4,i7,bnd,ik,ck,reduceIte,Nat.reduceEqDiff,iw,dk,fw,cond_true,cond_false]) (by simp only[oq,opP,iZ,d6,gK,j1,gJ,gV,dQ,dj,dX,e7,e8,ek,Option.bind_some,scV,bV,iV,i8,isB,isI,i4,i7,bnd,ik,ck,reduceIte,Nat.reduceEqDiff,iw,dk,fw,cond_true,cond_false,mq,vV,uZ,tQ,eq_self,decide_true,decide_false,List.drop_succ_cons,List.drop_zero,lw,List.map_nil,P4,P9,BJ,FK,P3,true_and,and_true];try rfl) ?_
    refine DY (by simp only[oq,opP,iZ,d6,gK,j1,gJ,gV,dQ,dj,dX,e7,e8,ek,Option.bind_some,scV,bV,iV,i8,isB,isI,i4,i7,bnd,ik,ck,reduceIte,Nat.reduceEqDiff,iw,dk,fw,cond_true,cond_false]) (by simp only[oq,opP,iZ,d6,gK,j1,gJ,gV,dQ,dj,dX,e7,e8,ek,Option.bind_some,scV,bV,iV,i8,isB,isI,i4,i7,bnd,ik,ck,reduceIte,Nat.reduceEqDiff,iw,dk,fw,cond_true,cond_false,mq,vV,uZ,tQ,eq_self,decide_true,decide_false,List.drop_succ_cons,List.drop_zero,lw,List.map_nil,P4,P9,BJ,FK,P3,true_and,and_true];try rfl) ?_
    refine DY (by simp only[oq,opP,iZ,d6,gK,j1,gJ,gV,dQ,dj,dX,e7,e8,ek,Option.bind_some,scV,bV,iV,i8,isB,isI,i4,i7,bnd,ik,ck,reduceIte,Nat.reduceEqDiff,iw,dk,fw,cond_true,cond_false]) (by simp only[oq,opP,iZ,d6,gK,j1,gJ,gV,dQ,dj,dX,e7,e8,ek,Option.bind_some,scV,bV,iV,i8,isB,isI,i4,i7,bnd,ik,ck,reduceIte,Nat.reduceEqDiff,iw,dk,fw,cond_true,cond_false,mq,vV,uZ,tQ,eq_self,decide_true,decide_false,List.drop_succ_cons,List.drop_zero,lw,List.map_nil,P4,P9,BJ,FK,P3,true_and,and_true,hrow];try rfl) ?_
    refine DY (by simp only[oq,opP,iZ,d6,gK,j1,gJ,gV,dQ,dj,dX,e7,e8,ek,Option.bind_some,scV,bV,iV,i8,isB,isI,i4,i7,bnd,ik,ck,reduceIte,Nat.reduceEqDiff,iw,dk,fw,cond_true,cond_false]) (by simp only[oq,opP,iZ,d6,gK,j1,gJ,gV,dQ,dj,dX,e7,e8,ek,Option.bind_some,scV,bV,iV,i8,isB,isI,i4,i7,bnd,ik,ck,reduceIte,Nat.reduceEqDiff,iw,dk,fw,cond_true,cond_false,mq,vV,uZ,tQ,eq_self,decide_true,decide_false,List.drop_succ_cons,List.drop_zero,lw,List.map_nil,P4,P9,BJ,FK,P3,true_and,and_true];try rfl) ?_
    refine aAX (by simp only[oq,opP,iZ,d6,gK,j1,gJ,gV,dQ,dj,dX,e7,e8,ek,Option.bind_some,scV,bV,iV,i8,isB,isI,i4,i7,bnd,ik,ck,reduceIte,Nat.reduceEqDiff,iw,dk,fw,cond_true,cond_false]) (by simp only[d6]) (by simp only[oq,opP,iZ,d6,gK,j1,gJ,gV,dQ,dj,dX,e7,e8,ek,Option.bind_some,scV,bV,iV,i8,isB,isI,i4,i7,bnd,ik,ck,reduceIte,Nat.reduceEqDiff,iw,dk,fw,cond_true,cond_false,mq,vV,uZ,tQ,eq_self,decide_true,decide_false,List.drop_succ_cons,List.drop_zero,lw,List.map_nil,P4,P9,BJ,FK,P3,true_and,and_true];try rfl) ?_
    refine auK (by simp only[oq,opP,iZ,d6,gK,j1,gJ,gV,dQ,dj,dX,e7,e8,ek,Option.bind_some,scV,bV,iV,i8,isB,isI,i4,i7,bnd,ik,ck,reduceIte,Nat.reduceEqDiff,iw,dk,fw,cond_true,cond_false]) (by simp only[d6]) (by simp only[oq,opP,iZ,d6,gK,j1,gJ,gV,dQ,dj,dX,e7,e8,ek,Option.bind_some,scV,bV,iV,i8,isB,isI,i4,i7,bnd,ik,ck,reduceIte,Nat.reduceEqDiff,iw,dk,fw,cond_true,cond_false,mq,vV,uZ,tQ,eq_self,decide_true,decide_false,List.drop_succ_cons,List.drop_zero,lw,List.map_nil,P4,P9,BJ,FK,P3,true_and,and_true,fill,i3,setAt,new,put,aGX,X5,cut,Tr.get_set,Option.isNone_none,List.replicate_succ,List.replicate_zero,List.flatten_cons,List.flatten_nil,List.append_nil,List.nil_append,List.cons_append,List.length_cons,List.length_nil,List.take_zero,List.take_succ_cons,List.take_nil,List.drop_nil,Nat.reduceLeDiff,Nat.reduceMul,Nat.reduceAdd,Bool.and_self,Bool.and_true,Bool.true_and,Nat.zero_add,Nat.add_zero,Nat.mul_one,Nat.one_mul,hn];try rfl) ?_ ?_ ?_
    ·intro j hj
     unfold bits at hj
     rw[AX]at hj
     have:=of_decide_eq_true hj
     rw[ow];simp only[List.length_cons,List.length_nil];omega
    ·intro x hx
     simp only[List.nil_append,mw,List.not_mem_nil,or_false]at hx
     subst hx
     refine .inr fun k=>?_
     simp only[bits,AX,s6,Nat.zero_testBit,Bool.false_or,decide_eq_true_eq]
     omega
    have hn2:(s1.h.set s1.c (O.cells wZ [X.sc (Value.string nm)])).get (s1.c+1)=none:=by
      rw[Tr.get_set,if_neg (by omega)];exact hf.wf _ (by omega)
    have hg1:(s1.h.set s1.c (O.cells wZ [X.sc (Value.string nm)])).get s1.c=some (O.cells wZ [X.sc (Value.string nm)]):=by
      rw[Tr.get_set,if_pos rfl]
    have hroom:Ox 16 (p.length+1)=true:=by
      unfold Ox
      rw[tQ,tQ,decide_eq_true (by omega),decide_eq_true (by omega)];rfl
    have hds:∀x∈([]++[(⟨0+1+1+1+1+1+1,fun k=>s.c≤k∧k<s.c+2*p.length,fun k=>s.c≤k∧k<s.c+2*p.length⟩ : Fp)]++[(⟨0+1+1+1+1+1+1+1+1+1+1+1+1,bits (bit s1.c),bits {h:=s1.h.set s1.c (O.cells wZ [X.sc (Value.string nm)]),c:=s1.c+1,w:=Nat.lor 0 (bit s1.c):S}.w⟩ : Fp)]),∀R W,apO 8191 x R W:=by
      intro x hx R W
      simp only[List.nil_append,List.cons_append,mw,List.not_mem_nil,or_false]at hx
      rcases hx with rfl | rfl
      ·exact .inl (show Nat.testBit 8191 6=true by decide)
      ·exact .inl (show Nat.testBit 8191 12=true by decide)
    have fin:∀(s2:S) (Γ:Tr V),s2.c=s1.c+2→(∀k,k<s.c→s2.h.get k=s1.h.get k)→(∀k,s2.w.testBit k=true→s.w.testBit k=true∨(s.c≤k∧k<s2.c))→(∀k,s2.c≤k→s2.h.get k=none)→s2.h.get (s1.c+1)=some (.cells wZ ((p++[nm]).map anW))→look Γ 4 = .c (.sl (s1.c+1) 1 0 (p.length+1)) →
        Wp ajX p_T .ret Γ s2 (fun k=>s.c≤k∧k<s.c+2*(p++[nm]).length) True fun e Γ s'=>(e = .normal∨e = .ret)∧∃vs r,NX Γ s' [.tmp 4]=some (vs,r)∧(∀k,r.testBit k=true→s.c≤k∧k<s.c+2*(p++[nm]).length)∧s'.c=s.c+2*(p++[nm]).length∧Fresh s s'∧aWq s.c (p++[nm]) (U5 vs) s':=by
      intro s2 Γ e1 e2 e3 e4 e5 e6
      refine ayK ⟨.inr rfl,_,_,alx e6 rfl,fun k hk=>by simp at hk,?_,⟨by omega,fun k hk=>(e2 k hk).trans (hf.h k hk),e3,e4⟩,.inr ⟨s1.c+1,?_,by omega,by omega,e5⟩⟩
      ·rw[ow];simp only[List.length_cons,List.length_nil];omega
      ·rw[ow];rfl
    rcases hv with⟨rfl,rfl⟩ | ⟨n,rfl,hc1,hc2,hn1⟩
    ·skip
     refine auK (by simp only[oq,opP,iZ,d6,gK,j1,gJ,gV,dQ,dj,dX,e7,e8,ek,Option.bind_some,scV,bV,iV,i8,isB,isI,i4,i7,bnd,ik,ck,reduceIte,Nat.reduceEqDiff,iw,dk,fw,cond_true,cond_false]) (by simp only[d6]) (by simp only[oq,opP,iZ,d6,gK,j1,gJ,gV,dQ,dj,dX,e7,e8,ek,Option.bind_some,scV,bV,iV,i8,isB,isI,i4,i7,bnd,ik,ck,reduceIte,Nat.reduceEqDiff,iw,dk,fw,cond_true,cond_false,mq,vV,uZ,tQ,eq_self,decide_true,decide_false,List.drop_succ_cons,List.drop_zero,lw,List.map_nil,P4,P9,BJ,FK,P3,true_and,and_true,fill,i3,setAt,new,put,aGX,X5,cut,Tr.get_set,Option.isNone_none,List.replicate_succ,List.replicate_zero,List.flatten_cons,List.flatten_nil,List.append_nil,List.nil_append,List.cons_append,List.length_cons,List.length_nil,List.take_zero,List.take_succ_cons,List.take_nil,List.drop_nil,Nat.reduceLeDiff,Nat.reduceMul,Nat.reduceAdd,Bool.and_self,Bool.and_true,Bool.true_and,Nat.zero_add,Nat.add_zero,Nat.mul_one,Nat.one_mul,hn2,hg1,a1Z];try rfl) ?_ ?_ ?_
     ·intro j hj
      simp only[bits,s6,AX,Bool.or_eq_true,decide_eq_true_eq]at hj
      simp only[ow,List.length_cons,List.length_nil]at hcc ⊢
      omega
     ·exact fun x hx=>hds x hx _ _
     refine DY (by simp only[oq,opP,iZ,d6,gK,j1,gJ,gV,dQ,dj,dX,e7,e8,ek,Option.bind_some,scV,bV,iV,i8,isB,isI,i4,i7,bnd,ik,ck,reduceIte,Nat.reduceEqDiff,iw,dk,fw,cond_true,cond_false]) (by simp only[oq,opP,iZ,d6,gK,j1,gJ,gV,dQ,dj,dX,e7,e8,ek,Option.bind_some,scV,bV,iV,i8,isB,isI,i4,i7,bnd,ik,ck,reduceIte,Nat.reduceEqDiff,iw,dk,fw,cond_true,cond_false,mq,vV,uZ,tQ,eq_self,decide_true,decide_false,List.drop_succ_cons,List.drop_zero,lw,List.map_nil,P4,P9,BJ,FK,P3,true_and,and_true];try rfl) ?_
     refine aMJ ?_
     simp only[oq,opP,iZ,d6,gK,j1,gJ,gV,dQ,dj,dX,e7,e8,ek,Option.bind_some,scV,bV,iV,i8,isB,isI,i4,i7,bnd,ik,ck,reduceIte,Nat.reduceEqDiff,iw,dk,fw,cond_true,cond_false]
     refine fin _ _ rfl (fun k hk=>?_) (fun k hk=>?_) (fun k hk=>?_) ?_ ?_
     ·simp only[Tr.get_set]
      rw[if_neg (by omega),if_neg (by omega)]
     ·simp only[s6,AX,Bool.or_eq_true,Nat.zero_testBit,Bool.false_or,decide_eq_true_eq]at hk
      show s.w.testBit k=true∨(s.c≤k∧k<s1.c+1+1)
      rcases hk with ((hk | hk) | hk) | hk
      ·exact .inl hk
      ·rcases hf.w k hk with h | h
       ·simp at h
       ·exact .inr ⟨h.1,by have:=h.2;omega⟩
      ·exact .inr (by omega)
      ·exact .inr (by omega)
     ·have hk:s1.c+1+1≤k:=hk
      simp only[Tr.get_set]
      rw[if_neg (by omega),if_neg (by omega)]
      exact hf.wf k (by omega)
     ·simp only[Tr.get_set,ik]
      rfl
     ·simp only[oq,opP,iZ,d6,gK,j1,gJ,gV,dQ,dj,dX,e7,e8,ek,Option.bind_some,scV,bV,iV,i8,isB,isI,i4,i7,bnd,ik,ck,reduceIte,Nat.reduceEqDiff,iw,dk,fw,cond_true,cond_false,List.length_nil,Nat.zero_add]
    ·have hc1:s.c≤n:=hc1
     have hn3:((s1.h.set s1.c (O.cells wZ [X.sc (Value.string nm)])).set n .dead).get (s1.c+1)=none:=by
       rw[Tr.get_set,if_neg (by omega)];exact hn2
     have hgn:(s1.h.set s1.c (O.cells wZ [X.sc (Value.string nm)])).get n=some (.cells wZ (p.map anW)):=by
       rw[Tr.get_set,if_neg (by omega)];exact hn1
     have htake:List.take p.length (p.map anW)=p.map anW:=List.take_of_length_le (by rw[List.length_map];exact kw _)
     refine auK (by simp only[oq,opP,iZ,d6,gK,j1,gJ,gV,dQ,dj,dX,e7,e8,ek,Option.bind_some,scV,bV,iV,i8,isB,isI,i4,i7,bnd,ik,ck,reduceIte,Nat.reduceEqDiff,iw,dk,fw,cond_true,cond_false]) (by simp only[d6]) (by simp only[oq,opP,iZ,d6,gK,j1,gJ,gV,dQ,dj,dX,e7,e8,ek,Option.bind_some,scV,bV,iV,i8,isB,isI,i4,i7,bnd,ik,ck,reduceIte,Nat.reduceEqDiff,iw,dk,fw,cond_true,cond_false,mq,vV,uZ,tQ,eq_self,decide_true,decide_false,List.drop_succ_cons,List.drop_zero,lw,List.map_nil,P4,P9,BJ,FK,P3,true_and,and_true,fill,i3,setAt,new,put,aGX,X5,cut,Tr.get_set,Option.isNone_none,List.replicate_succ,List.replicate_zero,List.flatten_cons,List.flatten_nil,List.append_nil,List.nil_append,List.cons_append,List.length_cons,List.length_nil,List.take_zero,List.take_succ_cons,List.take_nil,List.drop_nil,Nat.reduceLeDiff,Nat.reduceMul,Nat.reduceAdd,Bool.and_self,Bool.and_true,Bool.true_and,Nat.zero_add,Nat.add_zero,Nat.mul_one,Nat.one_mul,hn3,hgn,hg1,hroom,htake,List.length_map];try rfl) ?_ ?_ ?_
     ·intro j hj
      simp only[bits,s6,AX,Bool.or_eq_true,decide_eq_true_eq]at hj
      simp only[ow,List.length_cons,List.length_nil]at hcc ⊢
      omega
     ·exact fun x hx=>hds x hx _ _
     refine DY (by simp only[oq,opP,iZ,d6,gK,j1,gJ,gV,dQ,dj,dX,e7,e8,ek,Option.bind_some,scV,bV,iV,i8,isB,isI,i4,i7,bnd,ik,ck,reduceIte,Nat.reduceEqDiff,iw,dk,fw,cond_true,cond_false]) (by simp only[oq,opP,iZ,d6,gK,j1,gJ,gV,dQ,dj,dX,e7,e8,ek,Option.bind_some,scV,bV,iV,i8,isB,isI,i4,i7,bnd,ik,ck,reduceIte,Nat.reduceEqDiff,iw,dk,fw,cond_true,cond_false,mq,vV,uZ,tQ,eq_self,decide_true,decide_false,List.drop_succ_cons,List.drop_zero,lw,List.map_nil,P4,P9,BJ,FK,P3,true_and,and_true];try rfl) ?_
     refine aMJ ?_
     simp only[oq,opP,iZ,d6,gK,j1,gJ,gV,dQ,dj,dX,e7,e8,ek,Option.bind_some,scV,bV,iV,i8,isB,isI,i4,i7,bnd,ik,ck,reduceIte,Nat.reduceEqDiff,iw,dk,fw,cond_true,cond_false]
     refine fin _ _ rfl (fun k hk=>?_) (fun k hk=>?_) (fun k hk=>?_) ?_ ?_
     ·simp only[Tr.get_set]
      rw[if_neg (by omega),if_neg (by omega),if_neg (by omega)]
     ·simp only[s6,AX,Bool.or_eq_true,Nat.zero_testBit,Bool.false_or,decide_eq_true_eq]at hk
      show s.w.testBit k=true∨(s.c≤k∧k<s1.c+1+1)
      rcases hk with ((hk | hk) | hk) | (hk | hk)
      ·exact .inl hk
      ·rcases hf.w k hk with h | h
       ·simp at h
       ·exact .inr ⟨h.1,by have:=h.2;omega⟩
      ·exact .inr (by omega)
      ·exact .inr (by omega)
      ·exact .inr (by omega)
     ·have hk:s1.c+1+1≤k:=hk
      simp only[Tr.get_set]
      rw[if_neg (by omega),if_neg (by omega),if_neg (by omega)]
      exact hf.wf k (by omega)
     ·simp only[Tr.get_set,ik]
      rw[List.map_append];rfl
     ·simp only[oq,opP,iZ,d6,gK,j1,gJ,gV,dQ,dj,dX,e7,e8,ek,Option.bind_some,scV,bV,iV,i8,isB,isI,i4,i7,bnd,ik,ck,reduceIte,Nat.reduceEqDiff,iw,dk,fw,cond_true,cond_false,List.length_nil,Nat.zero_add]
theorem a2J:WfS s0:=fun k _=>rfl
theorem aIj{h:Hp}{fresh:Bool}{n:Nat}{p:List ByteArray}(hn:h n=some (.cells wZ (p.map anW))):TreeX h fresh (.sl n 1 0 p.length) (.sl 1 (p.map fun s=>[.sc (.string s)])):=by
  have hlen:(p.map fun s=>[T.sc (.string s)]).length=p.length:=List.length_map _
  have hfl:(p.map fun s=>[T.sc (.string s)]).flatten=p.map fun s=>T.sc (.string s):=by
    clear hn hlen
    induction p with
    | nil=>rfl
    | cons a p ih=>simp only[lw,List.flatten_cons,ih];rfl
  have:=TreeX.sl (h:=h) (fresh:=fresh) n 1 0 (p.map fun s=>[T.sc (.string s)]) wZ (p.map anW) (p.map anW) hn (by
    simp only[cut,List.drop_zero,hlen,Nat.mul_one]
    rw[List.take_of_length_le (by rw[List.length_map];exact kw _),List.length_map,uZ,decide_eq_true rfl]
    rfl) (fun row hrow=>by
    obtain⟨s,_,rfl⟩:=List.mem_map.1 hrow
    rfl) (by rw[hfl,List.length_map,List.length_map]) (fun j x t hx ht=>by
    rw[hfl,List.getElem?_map]at ht
    rw[List.getElem?_map]at hx
    cases hp:p[j]? with
    | none=>rw[hp]at hx;simp at hx
    | some s =>
      rw[hp]at hx ht
      cases hx;cases ht
      exact TreeX.sc _)
  rw[hlen]at this
  exact this
theorem path_fun{rows:List (List T)}{l:List (Int×ByteArray)}(hr:RowOk rows l){i:Int}{p:List ByteArray}(h:PathQ l i p)(hp:p.length≤1000000):Go.VM.Fun Go.Proofs.Tryz.prog 28 true [] [.c (.imm (.sl 8 rows)),.c (.imm (.sc (.int .i64 i)))] Go.VM.noHeap (.c (.imm (.sl 1 (p.map fun s=>[.sc (.string s)])))) Go.VM.noHeap:=by
  obtain⟨n,outs,r,e1,q1,_,_⟩:=aSV hr h hp s0 a2J
  refine ayZ aWZ (fun w0=>aPY _ w0) aEY (us:=[.c (.im 8 rows),.c (.sc (.int .i64 i))]) rfl e1 fun q hq=>?_
  obtain⟨_,_,hv⟩:=q1 q hq
  rcases hv with⟨rfl,hv⟩ | ⟨n,hv,_,_,hn⟩
  ·rw[hv];exact TreeX.nil 1
  ·rw[hv];exact aIj hn
end Go.RM
