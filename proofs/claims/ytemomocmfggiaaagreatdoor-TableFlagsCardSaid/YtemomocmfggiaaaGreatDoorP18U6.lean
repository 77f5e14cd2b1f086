import Derived.Test.YtemomocmfggiaaaGreatDoorZ1U6
import Derived.Test.YtemomocmfggiaaaGreatDoorD1U6
set_option linter.unusedSimpArgs false
set_option linter.unusedVariables false
set_option maxRecDepth 100000
namespace Go.Proofs.YtemomocmfggiaaaGreatDoor
open Go.RowKit
theorem avC (f m t a1 a0 b1 b0:Int) (hf:fN f<4) (hm:u8 m≤4):Pt [f,m,t,a1,a0,b1,b0]=oR (FI (fN f) (u8 m).toNat (vG t) (nB a1 a0) (nB b1 b0)):=by
 have hf3:fN (u8 f)<4:=by rw[vH];exact hf
 have hm3:u8 (u8 m)≤4:=by rw[wS];exact hm
 have known:=Db hf
 have knownm:=LG hm
 have sg:∀ x,yU (fN f) x=FP.sgn (fN f) x:=fun x=>by unfold yU;rw[decide_eq_true hf,Bool.true_and]
 have unA:yA [u8 f,u64 a1,u64 a0] = [vw (FP.sgn (fN f) (nB a1 a0)),((uZ (fN f) (nB a1 a0):Nat):Int),vQ (fN f) (nB a1 a0),wd (wu (fN f) (nB a1 a0)) 1,wd (wu (fN f) (nB a1 a0)) 0]:=by
  rw[Bl,vH,vM,sg,vR];rfl
 have unB:yA [u8 f,u64 b1,u64 b0] = [vw (FP.sgn (fN f) (nB b1 b0)),((uZ (fN f) (nB b1 b0):Nat):Int),vQ (fN f) (nB b1 b0),wd (wu (fN f) (nB b1 b0)) 1,wd (wu (fN f) (nB b1 b0)) 0]:=by
  rw[Bl,vH,vM,sg,vR];rfl
 have u8A:=Ak (fN f) (nB a1 a0)
 have u8B:=Ak (fN f) (nB b1 b0)
 have pk:∀ j,vG j=xM (uZ (fN f) (nB a1 a0)) (uZ (fN f) (nB b1 b0))→DF [u8 f,j,u64 a1,u64 a0,u64 b1,u64 b0] = [wd (yj (fN f) (xM (uZ (fN f) (nB a1 a0)) (uZ (fN f) (nB b1 b0))) (nB a1 a0) (nB b1 b0)) 1,wd (yj (fN f) (xM (uZ (fN f) (nB a1 a0)) (uZ (fN f) (nB b1 b0))) (nB a1 a0) (nB b1 b0)) 0,((yL (fN f) (xM (uZ (fN f) (nB a1 a0)) (uZ (fN f) (nB b1 b0))) (nB a1 a0) (nB b1 b0):Nat):Int),vw (xc (fN f) (xM (uZ (fN f) (nB a1 a0)) (uZ (fN f) (nB b1 b0))) (nB a1 a0) (nB b1 b0))]:=fun j hj=>by
  rw[aaA _ _ _ _ _ _ hf3,vH,vM,vM,hj]
 have xb:(!(FP.sgn (fN f) (nB a1 a0)==FP.sgn (fN f) (nB b1 b0)))=(FP.sgn (fN f) (nB a1 a0) != FP.sgn (fN f) (nB b1 b0)):=rfl
 have infE:AR [u8 f,vw (!(FP.sgn (fN f) (nB a1 a0)==FP.sgn (fN f) (nB b1 b0)))] = [wd (FP.mk (fN f) (FP.sgn (fN f) (nB a1 a0) != FP.sgn (fN f) (nB b1 b0)) (FP.inf (fN f))) 1,wd (FP.mk (fN f) (FP.sgn (fN f) (nB a1 a0) != FP.sgn (fN f) (nB b1 b0)) (FP.inf (fN f))) 0]:=by
  rw[Lr,vH,if_pos hf,vJ,vR,xb]
 have norE:EJ [u8 f,vw (!(FP.sgn (fN f) (nB a1 a0)==FP.sgn (fN f) (nB b1 b0)))] = [wd (FP.mk (fN f) (FP.sgn (fN f) (nB a1 a0) != FP.sgn (fN f) (nB b1 b0)) 0) 1,wd (FP.mk (fN f) (FP.sgn (fN f) (nB a1 a0) != FP.sgn (fN f) (nB b1 b0)) 0) 0]:=by
  rw[ZV,vH,if_pos hf,vJ,vR,xb]
 have like_ok:(uZ (fN f) (nB a1 a0)=uZ (fN f) (nB b1 b0)∧(uZ (fN f) (nB a1 a0)=3∨uZ (fN f) (nB a1 a0)=0))→xc (fN f) (xM (uZ (fN f) (nB a1 a0)) (uZ (fN f) (nB b1 b0))) (nB a1 a0) (nB b1 b0)=true:=fun h=>by
  unfold xc
  rw[(agi _ _).2 h,Bool.or_true,Bool.or_true]
 rw[Am]
 generalize hR:FI (fN f) (u8 m).toNat (vG t) (nB a1 a0) (nB b1 b0)=R
 have not_ok:¬ xc (fN f) (xM (uZ (fN f) (nB a1 a0)) (uZ (fN f) (nB b1 b0))) (nB a1 a0) (nB b1 b0)=true→¬ 4≤uZ (fN f) (nB a1 a0)∧¬ 4≤uZ (fN f) (nB b1 b0)∧¬ xM (uZ (fN f) (nB a1 a0)) (uZ (fN f) (nB b1 b0))=true:=fun h=>by
  unfold xc at h
  simp only[Bool.or_eq_true,decide_eq_true_iff,not_or] at h
  exact h
 have rP:xc (fN f) (xM (uZ (fN f) (nB a1 a0)) (uZ (fN f) (nB b1 b0))) (nB a1 a0) (nB b1 b0)=true→R=(yj (fN f) (xM (uZ (fN f) (nB a1 a0)) (uZ (fN f) (nB b1 b0))) (nB a1 a0) (nB b1 b0),yL (fN f) (xM (uZ (fN f) (nB a1 a0)) (uZ (fN f) (nB b1 b0))) (nB a1 a0) (nB b1 b0)):=fun h=>by
  rw[← hR]
  unfold FI yj yL Bv
  have lk:xM (uZ (fN f) (nB a1 a0)) (uZ (fN f) (nB b1 b0))=true→¬ 4≤uZ (fN f) (nB a1 a0)∧¬ 4≤uZ (fN f) (nB b1 b0):=fun h=>by
   unfold xM at h
   simp only[Bool.and_eq_true,Bool.or_eq_true,decide_eq_true_iff] at h
   omega
  by_cases h1:4≤uZ (fN f) (nB a1 a0)
  ·have h3:¬ xM (uZ (fN f) (nB a1 a0)) (uZ (fN f) (nB b1 b0))=true:=fun h=>(lk h).1 h1
   simp only[h1,h3,if_true,true_or,false_or,Bool.false_eq_true]
  ·by_cases h2:4≤uZ (fN f) (nB b1 b0)
   ·have h3:¬ xM (uZ (fN f) (nB a1 a0)) (uZ (fN f) (nB b1 b0))=true:=fun h=>(lk h).2 h2
    simp only[h1,h2,h3,if_true,if_false,or_true,false_or,Bool.false_eq_true]
   ·have h3:xM (uZ (fN f) (nB a1 a0)) (uZ (fN f) (nB b1 b0))=true:=by
     unfold xc at h
     simpa only[Bool.or_eq_true,decide_eq_true_iff,h1,h2,false_or] using h
    simp only[h1,h2,h3,if_true,if_false,or_self]
 have rS:¬ xc (fN f) (xM (uZ (fN f) (nB a1 a0)) (uZ (fN f) (nB b1 b0))) (nB a1 a0) (nB b1 b0)=true→R=(FP.mk (fN f) (FP.sgn (fN f) (nB a1 a0) != FP.sgn (fN f) (nB b1 b0)) (IJ (fN f) (u8 m).toNat (vG t) (FP.sgn (fN f) (nB a1 a0) != FP.sgn (fN f) (nB b1 b0)) (FP.cod (fN f) (nB a1 a0)) (FP.cod (fN f) (nB b1 b0))).1,(IJ (fN f) (u8 m).toNat (vG t) (FP.sgn (fN f) (nB a1 a0) != FP.sgn (fN f) (nB b1 b0)) (FP.cod (fN f) (nB a1 a0)) (FP.cod (fN f) (nB b1 b0))).2):=fun h=>by
  obtain⟨h1,h2,h3⟩:=not_ok h
  rw[← hR];unfold FI;rw[if_neg h1,if_neg h2,if_neg h3]
 have cA:FP.clsC (fN f) (FP.cod (fN f) (nB a1 a0))=uZ (fN f) (nB a1 a0):=(UC hf _).symm
 have cB:FP.clsC (fN f) (FP.cod (fN f) (nB b1 b0))=uZ (fN f) (nB b1 b0):=(UC hf _).symm
 have rI:¬ xc (fN f) (xM (uZ (fN f) (nB a1 a0)) (uZ (fN f) (nB b1 b0))) (nB a1 a0) (nB b1 b0)=true→uZ (fN f) (nB a1 a0)=3→R=(FP.mk (fN f) (FP.sgn (fN f) (nB a1 a0) != FP.sgn (fN f) (nB b1 b0)) (FP.inf (fN f)),0):=fun h h1=>by
  rw[rS h];unfold IJ;rw[cA,if_pos h1]
 have rZ:¬ xc (fN f) (xM (uZ (fN f) (nB a1 a0)) (uZ (fN f) (nB b1 b0))) (nB a1 a0) (nB b1 b0)=true→¬ uZ (fN f) (nB a1 a0)=3→(uZ (fN f) (nB b1 b0)=3∨uZ (fN f) (nB a1 a0)=0)→R=(FP.mk (fN f) (FP.sgn (fN f) (nB a1 a0) != FP.sgn (fN f) (nB b1 b0)) 0,0):=fun h h1 h2=>by
  rw[rS h];unfold IJ;rw[cA,cB,if_neg h1,if_pos h2]
 have rD:¬ xc (fN f) (xM (uZ (fN f) (nB a1 a0)) (uZ (fN f) (nB b1 b0))) (nB a1 a0) (nB b1 b0)=true→¬ uZ (fN f) (nB a1 a0)=3→¬ (uZ (fN f) (nB b1 b0)=3∨uZ (fN f) (nB a1 a0)=0)→uZ (fN f) (nB b1 b0)=0→R=(FP.mk (fN f) (FP.sgn (fN f) (nB a1 a0) != FP.sgn (fN f) (nB b1 b0)) (FP.inf (fN f)),2):=fun h h1 h2 h3=>by
  rw[rS h];unfold IJ;rw[cA,cB,if_neg h1,if_neg h2,if_pos h3]
 have pkF8:u8 ((yL (fN f) (xM (uZ (fN f) (nB a1 a0)) (uZ (fN f) (nB b1 b0))) (nB a1 a0) (nB b1 b0):Nat):Int)=((yL (fN f) (xM (uZ (fN f) (nB a1 a0)) (uZ (fN f) (nB b1 b0))) (nB a1 a0) (nB b1 b0):Nat):Int):=by
  have:=aaz (fN f) (xM (uZ (fN f) (nB a1 a0)) (uZ (fN f) (nB b1 b0))) (nB a1 a0) (nB b1 b0)
  exact BP (by omega) (by omega)
 generalize hQ:FP.divC (fN f) (u8 m).toNat (vG t) (FP.sgn (fN f) (nB a1 a0) != FP.sgn (fN f) (nB b1 b0)) (FP.cod (fN f) (nB a1 a0)) (FP.cod (fN f) (nB b1 b0))=Q
 have rQ:¬ xc (fN f) (xM (uZ (fN f) (nB a1 a0)) (uZ (fN f) (nB b1 b0))) (nB a1 a0) (nB b1 b0)=true→¬ uZ (fN f) (nB a1 a0)=3→¬ (uZ (fN f) (nB b1 b0)=3∨uZ (fN f) (nB a1 a0)=0)→¬ uZ (fN f) (nB b1 b0)=0→R=(FP.mk (fN f) (FP.sgn (fN f) (nB a1 a0) != FP.sgn (fN f) (nB b1 b0)) Q.1,Q.2):=fun h h1 h2 h3=>by
  rw[rS h];unfold IJ;rw[cA,cB,if_neg h1,if_neg h2,if_neg h3,hQ]
 have Q8:u8 (Q.2:Int)=(Q.2:Int):=by
  have:=FP.roundC_flag_set (FP.fP (fN f)) (FP.fE (fN f)) (u8 m).toNat (vG t) (FP.sgn (fN f) (nB a1 a0) != FP.sgn (fN f) (nB b1 b0)) (FP.val (fN f) (FP.cod (fN f) (nB a1 a0))*2^FP.fU (fN f)) (FP.val (fN f) (FP.cod (fN f) (nB b1 b0)))
  rw[← hQ];unfold FP.divC
  exact BP (by omega) (by omega)
 obtain⟨S,hS⟩:∃ S,S=wu (fN f) (nB a1 a0)*vF:=⟨_,rfl⟩
 obtain⟨D,hD⟩:∃ D,D=wu (fN f) (nB b1 b0):=⟨_,rfl⟩
 have hS256:S<vL:=by rw[hS,Lm];exact Nat.mul_lt_mul_of_pos_right (zL _ _) Es
 have hD128:D<vF:=by rw[hD];exact zL _ _
 have joE:yT [wd (wu (fN f) (nB a1 a0)) 1,wd (wu (fN f) (nB a1 a0)) 0,0,0] = [wd S 0,wd S 1,wd S 2,wd S 3]:=by
  have z:nB 0 0=0:=by unfold nB;rw[show u64 0=0 from by decide];rfl
  rw[OO,xn (zL _ _),z,Nat.add_zero,← hS,yC]
 obtain⟨q,hq⟩:∃ q,q=S/D*2^100:=⟨_,rfl⟩
 have fin:¬ xc (fN f) (xM (uZ (fN f) (nB a1 a0)) (uZ (fN f) (nB b1 b0))) (nB a1 a0) (nB b1 b0)=true→¬ uZ (fN f) (nB a1 a0)=3→¬ uZ (fN f) (nB a1 a0)=0→¬ uZ (fN f) (nB b1 b0)=3→¬ uZ (fN f) (nB b1 b0)=0 →
   (uZ (fN f) (nB a1 a0)=1∨uZ (fN f) (nB a1 a0)=2)∧(uZ (fN f) (nB b1 b0)=1∨uZ (fN f) (nB b1 b0)=2):=fun h h1 h2 h3 h4=>by
  obtain⟨k1,k2,k3⟩:=not_ok h;omega
 have quE:∀ g:(uZ (fN f) (nB a1 a0)=1∨uZ (fN f) (nB a1 a0)=2)∧(uZ (fN f) (nB b1 b0)=1∨uZ (fN f) (nB b1 b0)=2),Lv [wd S 0,wd S 1,wd S 2,wd S 3,wd (wu (fN f) (nB b1 b0)) 1,wd (wu (fN f) (nB b1 b0)) 0] = [wd (S/D) 0,wd (S/D) 1,wd (S/D) 2,wd (S/D) 3,wd (S%D) 1,wd (S%D) 0,1]:=fun g=>by
  have hd:=(Co hf g.2).1
  rw[Z7,xP hS256,xn (zL _ _),← hD,Z6 S (by omega),yC,vR];rfl
 have hq256:∀ g:(uZ (fN f) (nB a1 a0)=1∨uZ (fN f) (nB a1 a0)=2)∧(uZ (fN f) (nB b1 b0)=1∨uZ (fN f) (nB b1 b0)=2),q+1<vL:=fun g=>by
  have hd:=(Co hf g.2).1
  rw[hq];exact arx (by rw[← BJ];exact hS256) (by rw[hD];exact hd)
 have leE:∀ g:(uZ (fN f) (nB a1 a0)=1∨uZ (fN f) (nB a1 a0)=2)∧(uZ (fN f) (nB b1 b0)=1∨uZ (fN f) (nB b1 b0)=2),EH [wd (S/D) 0,wd (S/D) 1,wd (S/D) 2,wd (S/D) 3,100] = [wd q 0,wd q 1,wd q 2,wd q 3]:=fun g=>by
  have h1:=hq256 g
  have hlt:S/D<vL:=Nat.lt_of_le_of_lt (Nat.div_le_self _ _) hS256
  have h100:(i64 100).toNat=100:=by decide
  rw[Rj,xP hlt,h100,← hq,Nat.mod_eq_of_lt (by omega),yC]
 have zeE:∀ g:(uZ (fN f) (nB a1 a0)=1∨uZ (fN f) (nB a1 a0)=2)∧(uZ (fN f) (nB b1 b0)=1∨uZ (fN f) (nB b1 b0)=2),Ip [wd (S%D) 1,wd (S%D) 0] = [vw (decide (S%D=0))]:=fun g=>by
  have hd:=(Co hf g.2).1
  have hlt:S%D<vF:=Nat.lt_trans (Nat.mod_lt _ (by omega)) hD128
  rw[ZO,xn hlt]
 have ev:q%2=0:=by
  rw[hq,show(2:Nat)^100=2*2^99 by rw[← Nat.pow_succ'],show S/D*(2*2^99)=2*(S/D*2^99) by ac_rfl,Nat.mul_mod_right]
 have hp:=FP.two_pow_pos 100
 have rnE1:∀ g:(uZ (fN f) (nB a1 a0)=1∨uZ (fN f) (nB a1 a0)=2)∧(uZ (fN f) (nB b1 b0)=1∨uZ (fN f) (nB b1 b0)=2),¬ S%D=0→yu [u8 f,u8 m,vw (vG t),vw (!(FP.sgn (fN f) (nB a1 a0)==FP.sgn (fN f) (nB b1 b0))),i64 (i64 (i64 (vQ (fN f) (nB a1 a0))-i64 (vQ (fN f) (nB b1 b0)))+27),vX .or .u64 (wd q 0) 1,wd q 1,wd q 2,wd q 3] = [wd (FP.mk (fN f) (FP.sgn (fN f) (nB a1 a0) != FP.sgn (fN f) (nB b1 b0)) Q.1) 1,wd (FP.mk (fN f) (FP.sgn (fN f) (nB a1 a0) != FP.sgn (fN f) (nB b1 b0)) Q.1) 0,(Q.2:Int)]:=fun g hz=>by
  obtain⟨w0,w1,w2,w3⟩:=aaB ev
  rw[w0,w1,w2,w3,GI _ _ _ _ _ _ _ _ _ hf3 hm3,vH,wS,vJ,vJ,xP (hq256 g),xb,agk hf g.1 g.2 (n:=q+1) (by
   rw[hq,← hS,← hD,Nat.mul_comm,Nat.mul_add_div hp,Nat.div_eq_of_lt (Nat.one_lt_pow (by decide) (by decide)),Nat.add_zero]) (by
   rw[hq,← hS,← hD,Nat.mul_comm,Nat.mul_add_mod,Nat.mod_eq_of_lt (Nat.one_lt_pow (by decide) (by decide))]
   exact⟨fun h=>(by cases h),fun h=>absurd h hz⟩),hQ,vR];rfl
 have rnE0:∀ g:(uZ (fN f) (nB a1 a0)=1∨uZ (fN f) (nB a1 a0)=2)∧(uZ (fN f) (nB b1 b0)=1∨uZ (fN f) (nB b1 b0)=2),¬ ¬ S%D=0→yu [u8 f,u8 m,vw (vG t),vw (!(FP.sgn (fN f) (nB a1 a0)==FP.sgn (fN f) (nB b1 b0))),i64 (i64 (i64 (vQ (fN f) (nB a1 a0))-i64 (vQ (fN f) (nB b1 b0)))+27),wd q 0,wd q 1,wd q 2,wd q 3] = [wd (FP.mk (fN f) (FP.sgn (fN f) (nB a1 a0) != FP.sgn (fN f) (nB b1 b0)) Q.1) 1,wd (FP.mk (fN f) (FP.sgn (fN f) (nB a1 a0) != FP.sgn (fN f) (nB b1 b0)) Q.1) 0,(Q.2:Int)]:=fun g hz=>by
  have hz:=Decidable.not_not.1 hz
  have hl:=hq256 g
  rw[GI _ _ _ _ _ _ _ _ _ hf3 hm3,vH,wS,vJ,vJ,xP (n:=q) (by omega),xb,agk hf g.1 g.2 (n:=q) (by
   rw[hq,← hS,← hD,Nat.mul_div_cancel _ hp]) (by
   rw[hq,← hS,← hD,Nat.mul_mod_left]
   exact⟨fun _=>hz,fun _=>rfl⟩),hQ,vR];rfl
 rw[Pt,aaY]
 refine tF (by simp only[uY];exact known) ?_
 refine tF (by simp only[uY];exact knownm) ?_
 refine(ve (r:=[vw (FP.sgn (fN f) (nB a1 a0)),((uZ (fN f) (nB a1 a0):Nat):Int),vQ (fN f) (nB a1 a0),wd (wu (fN f) (nB a1 a0)) 1,wd (wu (fN f) (nB a1 a0)) 0]) (by simp only[uY,ag0];exact unA) (by rfl)).trans ?_
 refine(ve (r:=[vw (FP.sgn (fN f) (nB b1 b0)),((uZ (fN f) (nB b1 b0):Nat):Int),vQ (fN f) (nB b1 b0),wd (wu (fN f) (nB b1 b0)) 1,wd (wu (fN f) (nB b1 b0)) 0]) (by simp only[uY,ag0];exact unB) (by rfl)).trans ?_
 refine tI (uZ (fN f) (nB a1 a0)=uZ (fN f) (nB b1 b0)) (by simp only[uY,u8A,u8B];exact UX _ _) (fun h1=>?_) (fun h1=>?_)
 ·refine tI (uZ (fN f) (nB a1 a0)=3) (by simp only[uY,u8A];exact xS _ 3) (fun h2=>?_) (fun h2=>?_)
  ·refine(ve (r:=[wd (yj (fN f) (xM (uZ (fN f) (nB a1 a0)) (uZ (fN f) (nB b1 b0))) (nB a1 a0) (nB b1 b0)) 1,wd (yj (fN f) (xM (uZ (fN f) (nB a1 a0)) (uZ (fN f) (nB b1 b0))) (nB a1 a0) (nB b1 b0)) 0,((yL (fN f) (xM (uZ (fN f) (nB a1 a0)) (uZ (fN f) (nB b1 b0))) (nB a1 a0) (nB b1 b0):Nat):Int),vw (xc (fN f) (xM (uZ (fN f) (nB a1 a0)) (uZ (fN f) (nB b1 b0))) (nB a1 a0) (nB b1 b0))]) (by simp only[uY,aaZ,u8A];exact pk _ (aay (by simp only[vJ,LH,decide_eq_true_iff,show vG 1=true from rfl,show vG 0=false from rfl,Bool.false_eq_true,true_iff,false_iff];omega))) (by rfl)).trans ?_
   refine tI (xc (fN f) (xM (uZ (fN f) (nB a1 a0)) (uZ (fN f) (nB b1 b0))) (nB a1 a0) (nB b1 b0)=true) (by simp only[uY];exact(Bool.decide_coe _).symm) (fun h3=>?_) (fun h3=>?_)
   ·rw[vg rfl]
    simp only[uY]
    rw[rP h3]
    simp only[pkF8]
   ·refine tI (uZ (fN f) (nB b1 b0)=3) (by simp only[uY,u8B];exact xS _ 3) (fun h4=>?_) (fun h4=>?_)
    ·refine(ve (r:=[wd (FP.mk (fN f) (FP.sgn (fN f) (nB a1 a0) != FP.sgn (fN f) (nB b1 b0)) (FP.inf (fN f))) 1,wd (FP.mk (fN f) (FP.sgn (fN f) (nB a1 a0) != FP.sgn (fN f) (nB b1 b0)) (FP.inf (fN f))) 0]) (by simp only[uY,Pv];exact infE) (by rfl)).trans ?_
     rw[vg rfl]
     simp only[uY]
     first|(exact absurd (like_ok (by omega)) h3)|(rw[rI h3 (by omega)];rfl)|(rw[rZ h3 (by omega) (by omega)];rfl)|(rw[rD h3 (by omega) (by omega) (by omega)];rfl)
    ·refine(ve (r:=[wd (FP.mk (fN f) (FP.sgn (fN f) (nB a1 a0) != FP.sgn (fN f) (nB b1 b0)) (FP.inf (fN f))) 1,wd (FP.mk (fN f) (FP.sgn (fN f) (nB a1 a0) != FP.sgn (fN f) (nB b1 b0)) (FP.inf (fN f))) 0]) (by simp only[uY,Pv];exact infE) (by rfl)).trans ?_
     rw[vg rfl]
     simp only[uY]
     first|(exact absurd (like_ok (by omega)) h3)|(rw[rI h3 (by omega)];rfl)|(rw[rZ h3 (by omega) (by omega)];rfl)|(rw[rD h3 (by omega) (by omega) (by omega)];rfl)
  ·refine(ve (r:=[wd (yj (fN f) (xM (uZ (fN f) (nB a1 a0)) (uZ (fN f) (nB b1 b0))) (nB a1 a0) (nB b1 b0)) 1,wd (yj (fN f) (xM (uZ (fN f) (nB a1 a0)) (uZ (fN f) (nB b1 b0))) (nB a1 a0) (nB b1 b0)) 0,((yL (fN f) (xM (uZ (fN f) (nB a1 a0)) (uZ (fN f) (nB b1 b0))) (nB a1 a0) (nB b1 b0):Nat):Int),vw (xc (fN f) (xM (uZ (fN f) (nB a1 a0)) (uZ (fN f) (nB b1 b0))) (nB a1 a0) (nB b1 b0))]) (by simp only[uY,aaZ,u8A];exact pk _ (aay (by simp only[vJ,LH,decide_eq_true_iff,show vG 1=true from rfl,show vG 0=false from rfl,Bool.false_eq_true,true_iff,false_iff];omega))) (by rfl)).trans ?_
   refine tI (xc (fN f) (xM (uZ (fN f) (nB a1 a0)) (uZ (fN f) (nB b1 b0))) (nB a1 a0) (nB b1 b0)=true) (by simp only[uY];exact(Bool.decide_coe _).symm) (fun h5=>?_) (fun h5=>?_)
   ·rw[vg rfl]
    simp only[uY]
    rw[rP h5]
    simp only[pkF8]
   ·refine tI (uZ (fN f) (nB b1 b0)=3) (by simp only[uY,u8B];exact xS _ 3) (fun h6=>?_) (fun h6=>?_)
    ·refine(ve (r:=[wd (FP.mk (fN f) (FP.sgn (fN f) (nB a1 a0) != FP.sgn (fN f) (nB b1 b0)) (0)) 1,wd (FP.mk (fN f) (FP.sgn (fN f) (nB a1 a0) != FP.sgn (fN f) (nB b1 b0)) (0)) 0]) (by simp only[uY,Vo];exact norE) (by rfl)).trans ?_
     rw[vg rfl]
     simp only[uY]
     first|(exact absurd (like_ok (by omega)) h5)|(rw[rI h5 (by omega)];rfl)|(rw[rZ h5 (by omega) (by omega)];rfl)|(rw[rD h5 (by omega) (by omega) (by omega)];rfl)
    ·refine tI (uZ (fN f) (nB a1 a0)=0) (by simp only[uY,u8A];exact xS _ 0) (fun h7=>?_) (fun h7=>?_)
     ·refine(ve (r:=[wd (FP.mk (fN f) (FP.sgn (fN f) (nB a1 a0) != FP.sgn (fN f) (nB b1 b0)) (0)) 1,wd (FP.mk (fN f) (FP.sgn (fN f) (nB a1 a0) != FP.sgn (fN f) (nB b1 b0)) (0)) 0]) (by simp only[uY,Vo];exact norE) (by rfl)).trans ?_
      rw[vg rfl]
      simp only[uY]
      first|(exact absurd (like_ok (by omega)) h5)|(rw[rI h5 (by omega)];rfl)|(rw[rZ h5 (by omega) (by omega)];rfl)|(rw[rD h5 (by omega) (by omega) (by omega)];rfl)
     ·refine tI (uZ (fN f) (nB b1 b0)=0) (by simp only[uY,u8B];exact xS _ 0) (fun h8=>?_) (fun h8=>?_)
      ·refine(ve (r:=[wd (FP.mk (fN f) (FP.sgn (fN f) (nB a1 a0) != FP.sgn (fN f) (nB b1 b0)) (FP.inf (fN f))) 1,wd (FP.mk (fN f) (FP.sgn (fN f) (nB a1 a0) != FP.sgn (fN f) (nB b1 b0)) (FP.inf (fN f))) 0]) (by simp only[uY,Pv];exact infE) (by rfl)).trans ?_
       rw[vg rfl]
       simp only[uY]
       first|(exact absurd (like_ok (by omega)) h5)|(rw[rI h5 (by omega)];rfl)|(rw[rZ h5 (by omega) (by omega)];rfl)|(rw[rD h5 (by omega) (by omega) (by omega)];rfl)
      ·refine(ve (r:=[wd S 0,wd S 1,wd S 2,wd S 3]) (by simp only[uY,ag1];exact joE) (by rfl)).trans ?_
       refine(ve (r:=[wd (S/D) 0,wd (S/D) 1,wd (S/D) 2,wd (S/D) 3,wd (S%D) 1,wd (S%D) 0,1]) (by simp only[uY,ag2];exact quE (fin h5 (by omega) (by omega) (by omega) (by omega))) (by rfl)).trans ?_
       refine(ve (r:=[wd q 0,wd q 1,wd q 2,wd q 3]) (by simp only[uY,ag3];exact leE (fin h5 (by omega) (by omega) (by omega) (by omega))) (by rfl)).trans ?_
       refine(ve (r:=[vw (decide (S%D=0))]) (by simp only[uY,ag4];exact zeE (fin h5 (by omega) (by omega) (by omega) (by omega))) (by rfl)).trans ?_
       refine tI (¬ S%D=0) (by simp only[uY];exact(decide_not).symm) (fun h9=>?_) (fun h9=>?_)
       ·refine(ve (r:=[wd (FP.mk (fN f) (FP.sgn (fN f) (nB a1 a0) != FP.sgn (fN f) (nB b1 b0)) Q.1) 1,wd (FP.mk (fN f) (FP.sgn (fN f) (nB a1 a0) != FP.sgn (fN f) (nB b1 b0)) Q.1) 0,(Q.2:Int)]) (by simp only[uY,Vp];exact rnE1 (fin h5 (by omega) (by omega) (by omega) (by omega)) h9) (by rfl)).trans ?_
        rw[vg rfl]
        simp only[uY]
        rw[rQ h5 (by omega) (by omega) (by omega)]
        simp only[Q8]
       ·refine(ve (r:=[wd (FP.mk (fN f) (FP.sgn (fN f) (nB a1 a0) != FP.sgn (fN f) (nB b1 b0)) Q.1) 1,wd (FP.mk (fN f) (FP.sgn (fN f) (nB a1 a0) != FP.sgn (fN f) (nB b1 b0)) Q.1) 0,(Q.2:Int)]) (by simp only[uY,Vp];exact rnE0 (fin h5 (by omega) (by omega) (by omega) (by omega)) h9) (by rfl)).trans ?_
        replace h9:=Decidable.not_not.1 h9
        rw[vg rfl]
        simp only[uY]
        rw[rQ h5 (by omega) (by omega) (by omega)]
        simp only[Q8]
 ·refine(ve (r:=[wd (yj (fN f) (xM (uZ (fN f) (nB a1 a0)) (uZ (fN f) (nB b1 b0))) (nB a1 a0) (nB b1 b0)) 1,wd (yj (fN f) (xM (uZ (fN f) (nB a1 a0)) (uZ (fN f) (nB b1 b0))) (nB a1 a0) (nB b1 b0)) 0,((yL (fN f) (xM (uZ (fN f) (nB a1 a0)) (uZ (fN f) (nB b1 b0))) (nB a1 a0) (nB b1 b0):Nat):Int),vw (xc (fN f) (xM (uZ (fN f) (nB a1 a0)) (uZ (fN f) (nB b1 b0))) (nB a1 a0) (nB b1 b0))]) (by simp only[uY,aaZ,u8A];exact pk _ (aay (by simp only[vJ,LH,decide_eq_true_iff,show vG 1=true from rfl,show vG 0=false from rfl,Bool.false_eq_true,true_iff,false_iff];omega))) (by rfl)).trans ?_
  refine tI (xc (fN f) (xM (uZ (fN f) (nB a1 a0)) (uZ (fN f) (nB b1 b0))) (nB a1 a0) (nB b1 b0)=true) (by simp only[uY];exact(Bool.decide_coe _).symm) (fun h10=>?_) (fun h10=>?_)
  ·rw[vg rfl]
   simp only[uY]
   rw[rP h10]
   simp only[pkF8]
  ·refine tI (uZ (fN f) (nB b1 b0)=3) (by simp only[uY,u8B];exact xS _ 3) (fun h11=>?_) (fun h11=>?_)
   ·refine tI (uZ (fN f) (nB a1 a0)=3) (by simp only[uY,u8A];exact xS _ 3) (fun h12=>?_) (fun h12=>?_)
    ·refine(ve (r:=[wd (FP.mk (fN f) (FP.sgn (fN f) (nB a1 a0) != FP.sgn (fN f) (nB b1 b0)) (FP.inf (fN f))) 1,wd (FP.mk (fN f) (FP.sgn (fN f) (nB a1 a0) != FP.sgn (fN f) (nB b1 b0)) (FP.inf (fN f))) 0]) (by simp only[uY,Pv];exact infE) (by rfl)).trans ?_
     rw[vg rfl]
     simp only[uY]
     first|(exact absurd (like_ok (by omega)) h10)|(rw[rI h10 (by omega)];rfl)|(rw[rZ h10 (by omega) (by omega)];rfl)|(rw[rD h10 (by omega) (by omega) (by omega)];rfl)
    ·refine(ve (r:=[wd (FP.mk (fN f) (FP.sgn (fN f) (nB a1 a0) != FP.sgn (fN f) (nB b1 b0)) (0)) 1,wd (FP.mk (fN f) (FP.sgn (fN f) (nB a1 a0) != FP.sgn (fN f) (nB b1 b0)) (0)) 0]) (by simp only[uY,Vo];exact norE) (by rfl)).trans ?_
     rw[vg rfl]
     simp only[uY]
     first|(exact absurd (like_ok (by omega)) h10)|(rw[rI h10 (by omega)];rfl)|(rw[rZ h10 (by omega) (by omega)];rfl)|(rw[rD h10 (by omega) (by omega) (by omega)];rfl)
   ·refine tI (uZ (fN f) (nB a1 a0)=3) (by simp only[uY,u8A];exact xS _ 3) (fun h13=>?_) (fun h13=>?_)
    ·refine(ve (r:=[wd (FP.mk (fN f) (FP.sgn (fN f) (nB a1 a0) != FP.sgn (fN f) (nB b1 b0)) (FP.inf (fN f))) 1,wd (FP.mk (fN f) (FP.sgn (fN f) (nB a1 a0) != FP.sgn (fN f) (nB b1 b0)) (FP.inf (fN f))) 0]) (by simp only[uY,Pv];exact infE) (by rfl)).trans ?_
     rw[vg rfl]
     simp only[uY]
     first|(exact absurd (like_ok (by omega)) h10)|(rw[rI h10 (by omega)];rfl)|(rw[rZ h10 (by omega) (by omega)];rfl)|(rw[rD h10 (by omega) (by omega) (by omega)];rfl)
    ·refine tI (uZ (fN f) (nB a1 a0)=0) (by simp only[uY,u8A];exact xS _ 0) (fun h14=>?_) (fun h14=>?_)
     ·refine(ve (r:=[wd (FP.mk (fN f) (FP.sgn (fN f) (nB a1 a0) != FP.sgn (fN f) (nB b1 b0)) (0)) 1,wd (FP.mk (fN f) (FP.sgn (fN f) (nB a1 a0) != FP.sgn (fN f) (nB b1 b0)) (0)) 0]) (by simp only[uY,Vo];exact norE) (by rfl)).trans ?_
      rw[vg rfl]
      simp only[uY]
      first|(exact absurd (like_ok (by omega)) h10)|(rw[rI h10 (by omega)];rfl)|(rw[rZ h10 (by omega) (by omega)];rfl)|(rw[rD h10 (by omega) (by omega) (by omega)];rfl)
     ·refine tI (uZ (fN f) (nB b1 b0)=0) (by simp only[uY,u8B];exact xS _ 0) (fun h15=>?_) (fun h15=>?_)
      ·refine(ve (r:=[wd (FP.mk (fN f) (FP.sgn (fN f) (nB a1 a0) != FP.sgn (fN f) (nB b1 b0)) (FP.inf (fN f))) 1,wd (FP.mk (fN f) (FP.sgn (fN f) (nB a1 a0) != FP.sgn (fN f) (nB b1 b0)) (FP.inf (fN f))) 0]) (by simp only[uY,Pv];exact infE) (by rfl)).trans ?_
       rw[vg rfl]
       simp only[uY]
       first|(exact absurd (like_ok (by omega)) h10)|(rw[rI h10 (by omega)];rfl)|(rw[rZ h10 (by omega) (by omega)];rfl)|(rw[rD h10 (by omega) (by omega) (by omega)];rfl)
      ·refine(ve (r:=[wd S 0,wd S 1,wd S 2,wd S 3]) (by simp only[uY,ag1];exact joE) (by rfl)).trans ?_
       refine(ve (r:=[wd (S/D) 0,wd (S/D) 1,wd (S/D) 2,wd (S/D) 3,wd (S%D) 1,wd (S%D) 0,1]) (by simp only[uY,ag2];exact quE (fin h10 (by omega) (by omega) (by omega) (by omega))) (by rfl)).trans ?_
       refine(ve (r:=[wd q 0,wd q 1,wd q 2,wd q 3]) (by simp only[uY,ag3];exact leE (fin h10 (by omega) (by omega) (by omega) (by omega))) (by rfl)).trans ?_
       refine(ve (r:=[vw (decide (S%D=0))]) (by simp only[uY,ag4];exact zeE (fin h10 (by omega) (by omega) (by omega) (by omega))) (by rfl)).trans ?_
       refine tI (¬ S%D=0) (by simp only[uY];exact(decide_not).symm) (fun h16=>?_) (fun h16=>?_)
       ·refine(ve (r:=[wd (FP.mk (fN f) (FP.sgn (fN f) (nB a1 a0) != FP.sgn (fN f) (nB b1 b0)) Q.1) 1,wd (FP.mk (fN f) (FP.sgn (fN f) (nB a1 a0) != FP.sgn (fN f) (nB b1 b0)) Q.1) 0,(Q.2:Int)]) (by simp only[uY,Vp];exact rnE1 (fin h10 (by omega) (by omega) (by omega) (by omega)) h16) (by rfl)).trans ?_
        rw[vg rfl]
        simp only[uY]
        rw[rQ h10 (by omega) (by omega) (by omega)]
        simp only[Q8]
       ·refine(ve (r:=[wd (FP.mk (fN f) (FP.sgn (fN f) (nB a1 a0) != FP.sgn (fN f) (nB b1 b0)) Q.1) 1,wd (FP.mk (fN f) (FP.sgn (fN f) (nB a1 a0) != FP.sgn (fN f) (nB b1 b0)) Q.1) 0,(Q.2:Int)]) (by simp only[uY,Vp];exact rnE0 (fin h10 (by omega) (by omega) (by omega) (by omega)) h16) (by rfl)).trans ?_
        replace h16:=Decidable.not_not.1 h16
        rw[vg rfl]
        simp only[uY]
        rw[rQ h10 (by omega) (by omega) (by omega)]
        simp only[Q8]
end Go.Proofs.YtemomocmfggiaaaGreatDoor
