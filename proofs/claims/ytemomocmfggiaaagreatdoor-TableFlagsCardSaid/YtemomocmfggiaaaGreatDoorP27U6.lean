import Derived.Test.YtemomocmfggiaaaGreatDoorZRU6
import Derived.Test.YtemomocmfggiaaaGreatDoorZQU6
import Derived.Test.YtemomocmfggiaaaGreatDoorZNU6
set_option linter.unusedSimpArgs false
set_option linter.unusedVariables false
set_option maxRecDepth 100000
set_option maxHeartbeats 1500000
namespace Go.Proofs.YtemomocmfggiaaaGreatDoor
open Go.RowKit
theorem R5 (a b:Bool):(!(a==b))=decide (¬ a=b):=by cases a<;>cases b<;>rfl
theorem abh {x:Nat} (hx:x<vF):yT [wd x 1,wd x 0,0,0] = [wd (x*vF) 0,wd (x*vF) 1,wd (x*vF) 2,wd (x*vF) 3]:=by
 rw[OO,xn hx,show nB 0 0=0 from by unfold nB;rw[show u64 0=0 from by decide];rfl,Nat.add_zero,yC]
theorem aiw {f a b:Nat} {q:Bool} (h:¬ xc f q a b=true):¬ 4≤uZ f a∧¬ 4≤uZ f b∧q=false:=by
 unfold xc at h
 simp only[Bool.or_eq_true,decide_eq_true_iff,not_or,Bool.not_eq_true] at h
 exact h
theorem avB {f a b m:Nat} {after q:Bool} (hq:FJ f a b=q) (h:xc f q a b=true):Cn f m after a b=(yj f q a b,yL f q a b):=by
 unfold Cn yj yL Bv
 by_cases h1:4≤uZ f a
 ·have hq2:¬ q=true:=by rw[← hq];intro h3;have:=(aal h3).1;omega
  simp only[h1,hq2,if_true,true_or,false_or,Bool.false_eq_true]
 ·by_cases h2:4≤uZ f b
  ·have hq2:¬ q=true:=by rw[← hq];intro h3;have:=(aal h3).2;omega
   simp only[h1,h2,hq2,if_true,if_false,or_true,false_or,Bool.false_eq_true]
  ·have hq2:q=true:=by
    unfold xc at h
    simpa only[Bool.or_eq_true,decide_eq_true_iff,h1,h2,false_or] using h
   rw[hq2] at hq
   simp only[h1,h2,hq,hq2,if_true,if_false,or_self]
theorem abj {f a b m:Nat} {after q:Bool} (hq:FJ f a b=q) (h:¬ xc f q a b=true):Cn f m after a b=if uZ f a=3 then(FP.mk f (FP.sgn f a) (FP.inf f),0)
 else if uZ f b=3 then(FP.mk f (FP.sgn f b) (FP.inf f),0)
 else(FP.mk f (FP.addN f m (FP.sgn f a) (FP.sgn f b) (FP.cod f a) (FP.cod f b)) (FP.addC f m after (FP.sgn f a) (FP.sgn f b) (FP.cod f a) (FP.cod f b)).1,(FP.addC f m after (FP.sgn f a) (FP.sgn f b) (FP.cod f a) (FP.cod f b)).2):=by
 obtain⟨h1,h2,h3⟩:=aiw h
 unfold Cn
 rw[if_neg h1,if_neg h2,if_neg (by rw[hq,h3];exact Bool.false_ne_true)]
theorem abk {f a:Nat} (hf:f<4) (h:uZ f a<3):FP.tmE f (FP.cod f a)=vQ f a∧FP.tmS f (FP.cod f a)=wu f a*vF:=by
 obtain⟨h1,h2,h3⟩:=Bw hf h
 unfold FP.tmE FP.tmS vQ wu
 by_cases h0:uZ f a=0
 ·rw[if_pos (h2.1 h0),if_pos (h2.1 h0),if_neg (by omega),if_neg (by omega),Nat.zero_mul];exact⟨rfl,rfl⟩
 ·rw[if_neg (fun h=>h0 (h2.2 h)),if_neg (fun h=>h0 (h2.2 h)),if_pos (by omega),if_pos (by omega),yn];exact⟨rfl,rfl⟩
theorem PW (s t:Bool) (ea:Int) (x:Nat) (eb:Int) (y:Nat):FP.resT s t ea x eb y=if s=t then FP.sumT ea x eb y else Da ea x eb y:=by
 unfold FP.resT Da;rfl
theorem aix (s t:Bool) (ea:Int) (x:Nat) (eb:Int) (y:Nat) (h:¬ s=t):FP.resS s t ea x eb y = !(s==decide (FP.cmpT ea x eb y<0)):=by
 unfold FP.resS
 rw[if_neg h]
 by_cases hc:FP.cmpT ea x eb y<0
 ·rw[if_pos hc,decide_eq_true hc];revert h;cases s<;>cases t<;>decide
 ·rw[if_neg hc,decide_eq_false hc];cases s<;>rfl
theorem aiy (m:Int):(u8 m==3)=decide ((u8 m).toNat=3):=by
 have:=CW m
 rw[Bool.eq_iff_iff,beq_iff_eq,decide_eq_true_iff];omega
theorem aiz {ea eb:Int} (x y:Nat) (ha : -40000≤ea∧ea≤40000) (hb : -40000≤eb∧eb≤40000):(-40001≤(FP.sumT ea x eb y).1∧(FP.sumT ea x eb y).1≤40001)∧(-40001≤(Da ea x eb y).1∧(Da ea x eb y).1≤40001):=by
 have hl:∀ (p q:Int) (u v:Nat),-40000≤p∧p≤40000 → -40000≤q∧q≤40000 → -40000≤FP.lvl p u q v∧FP.lvl p u q v≤40000:=fun p q u v hp hq=>by
  unfold FP.lvl;split
  ·exact hq
  ·split
   ·exact hp
   ·omega
 have h1:=hl ea eb x y ha hb
 have h2:=hl eb ea y x hb ha
 unfold FP.sumT Da FP.difT
 refine⟨by simp only[];omega,?_⟩
 split
 ·simp only[];omega
 ·simp only[];omega
theorem abl (f m t a1 a0 b1 b0:Int) (hf:fN f<4) (hm:u8 m≤4):JW [f,m,t,a1,a0,b1,b0]=oR (Cn (fN f) (u8 m).toNat (vG t) (nB a1 a0) (nB b1 b0)):=by
 have hf3:fN (u8 f)<4:=by rw[vH];exact hf
 have known:=Db hf
 have knownm:=LG hm
 have sg:∀ x,yU (fN f) x=FP.sgn (fN f) x:=fun x=>by unfold yU;rw[decide_eq_true hf,Bool.true_and]
 obtain⟨x,hx⟩:∃ x,x=wu (fN f) (nB a1 a0):=⟨_,rfl⟩
 obtain⟨y,hy⟩:∃ y,y=wu (fN f) (nB b1 b0):=⟨_,rfl⟩
 obtain⟨ea,hea⟩:∃ e,e=vQ (fN f) (nB a1 a0):=⟨_,rfl⟩
 obtain⟨eb,heb⟩:∃ e,e=vQ (fN f) (nB b1 b0):=⟨_,rfl⟩
 obtain⟨sA,hsA⟩:∃ s,s=FP.sgn (fN f) (nB a1 a0):=⟨_,rfl⟩
 obtain⟨sB,hsB⟩:∃ s,s=FP.sgn (fN f) (nB b1 b0):=⟨_,rfl⟩
 have ra:=yJ (f:=fN f) (b:=nB a1 a0)
 have rb:=yJ (f:=fN f) (b:=nB b1 b0)
 rw[← hea] at ra
 rw[← heb] at rb
 have xl:x<vF:=by rw[hx];exact zL _ _
 have yl:y<vF:=by rw[hy];exact zL _ _
 have iea:i64 ea=ea:=wL (by omega) (by omega)
 have ieb:i64 eb=eb:=wL (by omega) (by omega)
 have unA:yA [u8 f,u64 a1,u64 a0] = [vw sA,((uZ (fN f) (nB a1 a0):Nat):Int),ea,wd x 1,wd x 0]:=by
  rw[Bl,vH,vM,sg,vR,hx,hea,hsA];rfl
 have unB:yA [u8 f,u64 b1,u64 b0] = [vw sB,((uZ (fN f) (nB b1 b0):Nat):Int),eb,wd y 1,wd y 0]:=by
  rw[Bl,vH,vM,sg,vR,hy,heb,hsB];rfl
 have u8A:=Ak (fN f) (nB a1 a0)
 have u8B:=Ak (fN f) (nB b1 b0)
 have pk:∀ (j:Int) (q:Bool),vG j=q→DF [u8 f,j,u64 a1,u64 a0,u64 b1,u64 b0] = [wd (yj (fN f) q (nB a1 a0) (nB b1 b0)) 1,wd (yj (fN f) q (nB a1 a0) (nB b1 b0)) 0,((yL (fN f) q (nB a1 a0) (nB b1 b0):Nat):Int),vw (xc (fN f) q (nB a1 a0) (nB b1 b0))]:=fun j q hj=>by
  rw[aaA _ _ _ _ _ _ hf3,vH,vM,vM,hj]
 have infE:∀ {s:Bool},AR [u8 f,vw s] = [wd (FP.mk (fN f) s (FP.inf (fN f))) 1,wd (FP.mk (fN f) s (FP.inf (fN f))) 0]:=fun {s}=>by rw[Lr,vH,if_pos hf,vJ,vR]
 obtain⟨X,hX⟩:∃ X,X=x*vF:=⟨_,rfl⟩
 obtain⟨Y,hY⟩:∃ Y,Y=y*vF:=⟨_,rfl⟩
 have joX:yT [wd x 1,wd x 0,0,0] = [wd X 0,wd X 1,wd X 2,wd X 3]:=by rw[hX];exact abh xl
 have joY:yT [wd y 1,wd y 0,0,0] = [wd Y 0,wd Y 1,wd Y 2,wd Y 3]:=by rw[hY];exact abh yl
 have Xl:X<vL:=by rw[hX];exact Ee xl
 have Yl:Y<vL:=by rw[hY];exact Ee yl
 have sa:zu ea:=by unfold zu;omega
 have sb:zu eb:=by unfold zu;omega
 have suE:=afD sa sb Xl Yl
 have diE:=afG sa sb Xl Yl
 have Ul0:=sum_lt (ea:=ea) (eb:=eb) Xl Yl
 have Dl0:=afF (ea:=ea) (eb:=eb) Xl Yl
 obtain⟨ru,rd⟩:=aiz (ea:=ea) (eb:=eb) X Y (by omega) (by omega)
 rw[Am]
 generalize hR:Cn (fN f) (u8 m).toNat (vG t) (nB a1 a0) (nB b1 b0)=R
 have rP:∀ q:Bool,FJ (fN f) (nB a1 a0) (nB b1 b0)=q→xc (fN f) q (nB a1 a0) (nB b1 b0)=true→R=(yj (fN f) q (nB a1 a0) (nB b1 b0),yL (fN f) q (nB a1 a0) (nB b1 b0)):=fun q h1 h2=>by rw[← hR];exact avB h1 h2
 have aI:uZ (fN f) (nB a1 a0)=3→uZ (fN f) (nB b1 b0)=3→FJ (fN f) (nB a1 a0) (nB b1 b0)=(sA != sB):=fun h1 h2=>by unfold FJ;rw[h1,h2,← hsA,← hsB];rfl
 have aN:¬ (uZ (fN f) (nB a1 a0)=3∧uZ (fN f) (nB b1 b0)=3)→FJ (fN f) (nB a1 a0) (nB b1 b0)=false:=fun h=>by
  rw[← Bool.not_eq_true];exact fun h2=>h (aal h2)
 have rA:∀ q:Bool,FJ (fN f) (nB a1 a0) (nB b1 b0)=q→¬ xc (fN f) q (nB a1 a0) (nB b1 b0)=true→uZ (fN f) (nB a1 a0)=3→R=(FP.mk (fN f) sA (FP.inf (fN f)),0):=fun q hq h h1=>by
  rw[← hR,abj hq h,if_pos h1,hsA]
 have rB:∀ q:Bool,FJ (fN f) (nB a1 a0) (nB b1 b0)=q→¬ xc (fN f) q (nB a1 a0) (nB b1 b0)=true→¬ uZ (fN f) (nB a1 a0)=3→uZ (fN f) (nB b1 b0)=3→R=(FP.mk (fN f) sB (FP.inf (fN f)),0):=fun q hq h h1 h2=>by
  rw[← hR,abj hq h,if_neg h1,if_pos h2,hsB]
 have pkF8:∀ q:Bool,u8 ((yL (fN f) q (nB a1 a0) (nB b1 b0):Nat):Int)=((yL (fN f) q (nB a1 a0) (nB b1 b0):Nat):Int):=fun q=>by
  have:=aaz (fN f) q (nB a1 a0) (nB b1 b0)
  exact BP (by omega) (by omega)
 obtain⟨Gd,hGd⟩:∃ Gd:Prop,Gd=(uZ (fN f) (nB a1 a0)<3∧uZ (fN f) (nB b1 b0)<3):=⟨_,rfl⟩
 have fin:¬ xc (fN f) false (nB a1 a0) (nB b1 b0)=true→¬ uZ (fN f) (nB a1 a0)=3→¬ uZ (fN f) (nB b1 b0)=3→Gd:=fun h h1 h2=>by
  obtain⟨k1,k2,k3⟩:=aiw h
  rw[hGd];omega
 obtain⟨N,hN⟩:∃ N,N=FP.addN (fN f) (u8 m).toNat sA sB (FP.cod (fN f) (nB a1 a0)) (FP.cod (fN f) (nB b1 b0)):=⟨_,rfl⟩
 obtain⟨C,hC⟩:∃ C,C=FP.addC (fN f) (u8 m).toNat (vG t) sA sB (FP.cod (fN f) (nB a1 a0)) (FP.cod (fN f) (nB b1 b0)):=⟨_,rfl⟩
 have C8:u8 (C.2:Int)=(C.2:Int):=by
  have h:C.2≤24:=by
   rw[hC];unfold FP.addC
   have:=FP.roundC_flag_set (FP.fP (fN f)) (FP.fE (fN f)) (u8 m).toNat (vG t) (FP.addN (fN f) (u8 m).toNat sA sB (FP.cod (fN f) (nB a1 a0)) (FP.cod (fN f) (nB b1 b0))) (FP.sgV sA sB (FP.val (fN f) (FP.cod (fN f) (nB a1 a0))) (FP.val (fN f) (FP.cod (fN f) (nB b1 b0)))) 1
   omega
  exact BP (by omega) (by omega)
 have rF:Gd→R=(FP.mk (fN f) N C.1,C.2):=fun g=>by
  rw[hGd] at g
  have h:¬ xc (fN f) false (nB a1 a0) (nB b1 b0)=true:=by
   unfold xc;simp only[Bool.or_eq_true,decide_eq_true_iff,Bool.false_eq_true,or_false];omega
  have g1:¬ uZ (fN f) (nB a1 a0)=3:=by omega
  have g2:¬ uZ (fN f) (nB b1 b0)=3:=by omega
  rw[← hR,abj (aN (fun h=>g1 h.1)) h,if_neg g1,if_neg g2,hN,hC,hsA,hsB]
 obtain⟨U,hU⟩:∃ U,U=FP.sumT ea X eb Y:=⟨_,rfl⟩
 obtain⟨D,hD⟩:∃ D,D=Da ea X eb Y:=⟨_,rfl⟩
 obtain⟨L,hL⟩:∃ L,L=decide (FP.cmpT ea X eb Y<0):=⟨_,rfl⟩
 rw[← hU] at suE ru Ul0
 rw[← hD,← hL] at diE
 rw[← hD] at rd Dl0
 have Ul:U.2<vL:=Ul0
 have Dl:D.2<vL:=Dl0
 have rn:∀ (Z:Int×Nat) (n:Bool),Gd→Z.2<vL→(-40001≤Z.1∧Z.1≤40001)→Z=FP.resT sA sB ea X eb Y→(if Z.2=0 then(if sA=sB then sA else decide ((u8 m).toNat=3)) else FP.resS sA sB ea X eb Y)=n →
   yu [u8 f,u8 m,vw (vG t),vw n,i64 Z.1,wd Z.2 0,wd Z.2 1,wd Z.2 2,wd Z.2 3] = [wd (FP.mk (fN f) N C.1) 1,wd (FP.mk (fN f) N C.1) 0,(C.2:Int)]:=fun Z n g hZ hr hz hn=>by
  rw[hGd] at g
  obtain⟨t1,t2⟩:=abk hf g.1
  obtain⟨t3,t4⟩:=abk hf g.2
  obtain⟨k1,k2⟩:=FP.add_res (m:=(u8 m).toNat) (after:=vG t) hf (Bw hf g.1).1 (Bw hf g.2).1 sA sB
  rw[t1,t2,t3,t4,← hea,← heb,← hx,← hy,← hX,← hY,← hz] at k1 k2
  rw[hn,← hN] at k1
  rw[← hN,← hC] at k2
  have z1:i64 Z.1=Z.1:=wL (by omega) (by omega)
  have z2:Bu Z.1=Z.1:=Lt (by omega) (by omega)
  rw[GI _ _ _ _ _ _ _ _ _ hf3 (by rw[wS];exact hm),vH,wS,vJ,vJ,xI,z1,z2,xP hZ,k1,k2,vR];rfl
 have rnU:Gd→sA=sB→yu [u8 f,u8 m,vw (vG t),vw sA,i64 U.1,wd U.2 0,wd U.2 1,wd U.2 2,wd U.2 3] = [wd (FP.mk (fN f) N C.1) 1,wd (FP.mk (fN f) N C.1) 0,(C.2:Int)]:=fun g h=>by
  refine rn U sA g Ul ru (by rw[PW,if_pos h,hU]) ?_
  rw[if_pos h]
  unfold FP.resS
  rw[if_pos h]
  split<;>rfl
 have rnZ:Gd→¬ sA=sB→D.2=0→yu [u8 f,u8 m,vw (vG t),vw (u8 m==3),i64 D.1,wd D.2 0,wd D.2 1,wd D.2 2,wd D.2 3] = [wd (FP.mk (fN f) N C.1) 1,wd (FP.mk (fN f) N C.1) 0,(C.2:Int)]:=fun g h z=>by
  refine rn D _ g Dl rd (by rw[PW,if_neg h,hD]) ?_
  rw[if_pos z,if_neg h,aiy]
 have rnD:Gd→¬ sA=sB→¬ D.2=0→yu [u8 f,u8 m,vw (vG t),vw (!(sA==L)),i64 D.1,wd D.2 0,wd D.2 1,wd D.2 2,wd D.2 3] = [wd (FP.mk (fN f) N C.1) 1,wd (FP.mk (fN f) N C.1) 0,(C.2:Int)]:=fun g h z=>by
  refine rn D _ g Dl rd (by rw[PW,if_neg h,hD]) ?_
  rw[if_neg z,aix _ _ _ _ _ _ h,← hL]
 clear rn hU hD hL
 rw[JW,aad]
 refine tF (by simp only[uY];exact known) ?_
 refine tF (by simp only[uY];exact knownm) ?_
 refine(ve (r:=[vw sA,((uZ (fN f) (nB a1 a0):Nat):Int),ea,wd (x) 1,wd (x) 0]) (by simp only[uY,Rv];exact unA) (by rfl)).trans ?_
 refine(ve (r:=[vw sB,((uZ (fN f) (nB b1 b0):Nat):Int),eb,wd (y) 1,wd (y) 0]) (by simp only[uY,Rv];exact unB) (by rfl)).trans ?_
 refine tI (uZ (fN f) (nB a1 a0)=3) (by simp only[uY,u8A];exact xS _ 3) (fun h1=>?_) (fun h1=>?_)
 ·refine tI (uZ (fN f) (nB b1 b0)=3) (by simp only[uY,u8B];exact xS _ 3) (fun h2=>?_) (fun h2=>?_)
  ·refine(ve (r:=[wd (yj (fN f) (sA != sB) (nB a1 a0) (nB b1 b0)) 1,wd (yj (fN f) (sA != sB) (nB a1 a0) (nB b1 b0)) 0,((yL (fN f) (sA != sB) (nB a1 a0) (nB b1 b0):Nat):Int),vw (xc (fN f) (sA != sB) (nB a1 a0) (nB b1 b0))]) (by simp only[uY,aaf];exact pk _ _ (by first|rfl|(simp only[vJ];rfl))) (by rfl)).trans ?_
   refine tI (xc (fN f) (sA != sB) (nB a1 a0) (nB b1 b0)=true) (by simp only[uY];exact(Bool.decide_coe _).symm) (fun h3=>?_) (fun h3=>?_)
   ·rw[vg rfl]
    simp only[uY]
    rw[rP _ (aI h1 h2) h3]
    simp only[pkF8]
   ·refine(ve (r:=[wd (FP.mk (fN f) sA (FP.inf (fN f))) 1,wd (FP.mk (fN f) sA (FP.inf (fN f))) 0]) (by simp only[uY,Ei];exact infE) (by rfl)).trans ?_
    rw[vg rfl]
    simp only[uY]
    rw[rA _ (aI h1 h2) h3 h1]
    rfl
  ·refine(ve (r:=[wd (yj (fN f) false (nB a1 a0) (nB b1 b0)) 1,wd (yj (fN f) false (nB a1 a0) (nB b1 b0)) 0,((yL (fN f) false (nB a1 a0) (nB b1 b0):Nat):Int),vw (xc (fN f) false (nB a1 a0) (nB b1 b0))]) (by simp only[uY,aaf];exact pk _ _ (by first|rfl|(simp only[vJ];rfl))) (by rfl)).trans ?_
   refine tI (xc (fN f) false (nB a1 a0) (nB b1 b0)=true) (by simp only[uY];exact(Bool.decide_coe _).symm) (fun h4=>?_) (fun h4=>?_)
   ·rw[vg rfl]
    simp only[uY]
    rw[rP _ (aN (by omega)) h4]
    simp only[pkF8]
   ·refine(ve (r:=[wd (FP.mk (fN f) sA (FP.inf (fN f))) 1,wd (FP.mk (fN f) sA (FP.inf (fN f))) 0]) (by simp only[uY,Ei];exact infE) (by rfl)).trans ?_
    rw[vg rfl]
    simp only[uY]
    rw[rA _ (aN (by omega)) h4 h1]
    rfl
 ·refine(ve (r:=[wd (yj (fN f) false (nB a1 a0) (nB b1 b0)) 1,wd (yj (fN f) false (nB a1 a0) (nB b1 b0)) 0,((yL (fN f) false (nB a1 a0) (nB b1 b0):Nat):Int),vw (xc (fN f) false (nB a1 a0) (nB b1 b0))]) (by simp only[uY,aaf];exact pk _ _ (by first|rfl|(simp only[vJ];rfl))) (by rfl)).trans ?_
  refine tI (xc (fN f) false (nB a1 a0) (nB b1 b0)=true) (by simp only[uY];exact(Bool.decide_coe _).symm) (fun h5=>?_) (fun h5=>?_)
  ·rw[vg rfl]
   simp only[uY]
   rw[rP _ (aN (by omega)) h5]
   simp only[pkF8]
  ·refine tI (uZ (fN f) (nB b1 b0)=3) (by simp only[uY,u8B];exact xS _ 3) (fun h6=>?_) (fun h6=>?_)
   ·refine(ve (r:=[wd (FP.mk (fN f) sB (FP.inf (fN f))) 1,wd (FP.mk (fN f) sB (FP.inf (fN f))) 0]) (by simp only[uY,Ei];exact infE) (by rfl)).trans ?_
    rw[vg rfl]
    simp only[uY]
    rw[rB _ (aN (by omega)) h5 h1 h6]
    rfl
   ·refine tI (¬ sA=sB) (by simp only[uY];exact R5 _ _) (fun h7=>?_) (fun h7=>?_)
    ·refine(ve (r:=[wd (X) 0,wd (X) 1,wd (X) 2,wd (X) 3]) (by simp only[uY,JZ];exact joX) (by rfl)).trans ?_
     refine(ve (r:=[wd (Y) 0,wd (Y) 1,wd (Y) 2,wd (Y) 3]) (by simp only[uY,JZ];exact joY) (by rfl)).trans ?_
     refine(ve (r:=[D.1,wd (D.2) 0,wd (D.2) 1,wd (D.2) 2,wd (D.2) 3,vw L]) (by simp only[uY,aag,iea,ieb];exact diE) (by rfl)).trans ?_
     refine(ve (r:=[vw (decide (D.2=0))]) (by simp only[uY,O5];exact Cq Dl) (by rfl)).trans ?_
     refine tI (D.2=0) (by simp only[uY];try rfl) (fun h8=>?_) (fun h8=>?_)
     ·refine(ve (r:=[wd (FP.mk (fN f) N C.1) 1,wd (FP.mk (fN f) N C.1) 0,(C.2:Int)]) (by simp only[uY,EP];exact rnZ (fin h5 h1 h6) h7 h8) (by rfl)).trans ?_
      rw[vg rfl]
      simp only[uY]
      rw[rF (fin h5 h1 h6),C8]
     ·refine(ve (r:=[wd (FP.mk (fN f) N C.1) 1,wd (FP.mk (fN f) N C.1) 0,(C.2:Int)]) (by simp only[uY,EP];exact rnD (fin h5 h1 h6) h7 h8) (by rfl)).trans ?_
      rw[vg rfl]
      simp only[uY]
      rw[rF (fin h5 h1 h6),C8]
    ·refine(ve (r:=[wd (X) 0,wd (X) 1,wd (X) 2,wd (X) 3]) (by simp only[uY,JZ];exact joX) (by rfl)).trans ?_
     refine(ve (r:=[wd (Y) 0,wd (Y) 1,wd (Y) 2,wd (Y) 3]) (by simp only[uY,JZ];exact joY) (by rfl)).trans ?_
     refine(ve (r:=[U.1,wd (U.2) 0,wd (U.2) 1,wd (U.2) 2,wd (U.2) 3]) (by simp only[uY,aah,iea,ieb];exact suE) (by rfl)).trans ?_
     refine(ve (r:=[vw (decide (U.2=0))]) (by simp only[uY,O5];exact Cq Ul) (by rfl)).trans ?_
     refine tI (U.2=0) (by simp only[uY];try rfl) (fun h9=>?_) (fun h9=>?_)
     ·refine(ve (r:=[wd (FP.mk (fN f) N C.1) 1,wd (FP.mk (fN f) N C.1) 0,(C.2:Int)]) (by simp only[uY,EP];exact rnU (fin h5 h1 h6) (Decidable.not_not.1 h7)) (by rfl)).trans ?_
      rw[vg rfl]
      simp only[uY]
      rw[rF (fin h5 h1 h6),C8]
     ·refine(ve (r:=[wd (FP.mk (fN f) N C.1) 1,wd (FP.mk (fN f) N C.1) 0,(C.2:Int)]) (by simp only[uY,EP];exact rnU (fin h5 h1 h6) (Decidable.not_not.1 h7)) (by rfl)).trans ?_
      rw[vg rfl]
      simp only[uY]
      rw[rF (fin h5 h1 h6),C8]
end Go.Proofs.YtemomocmfggiaaaGreatDoor
