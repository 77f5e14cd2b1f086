import Derived.Test.YtippohicjhilnaaGreatDoorZ1Tn
import Derived.Test.YtippohicjhilnaaGreatDoorZETn
import Derived.Test.YtippohicjhilnaaGreatDoorZGTn
import Derived.Test.YtippohicjhilnaaGreatDoorZNTn
import Derived.Test.YtippohicjhilnaaGreatDoorZQTn
import Derived.Test.YtippohicjhilnaaGreatDoorZRTn
set_option linter.unusedSimpArgs false
set_option linter.unusedVariables false
set_option maxRecDepth 100000
set_option maxHeartbeats 1500000
namespace Go.Proofs.YtippohicjhilnaaGreatDoor
open Go.RowKit
section
variable {F M T a1 a0 b1 b0:Int} {φ μ A B:Nat} {τ:Bool}
theorem afh (hF:fN F=φ) (hA:nB a1 a0=A):Dp [F,a1,a0] = [wd (A%2^FP.fW φ) 1,wd (A%2^FP.fW φ) 0]:=by rw[Xk,hF,hA,wS]
end
theorem Vu (a b:Bool):(!(a==b))=decide (¬ a=b):=by cases a<;>cases b<;>rfl
theorem afi {x:Nat} (hx:x<wy):Gh [wd x 1,wd x 0,0,0] = [wd (x*wy) 0,wd (x*wy) 1,wd (x*wy) 2,wd (x*wy) 3]:=by rw[abZ,yH hx,show nB 0 0=0 from by unfold nB;rw[show u64 0=0 from by decide];rfl,Nat.add_zero,Al]
theorem am1 {f a b:Nat} {q:Bool} (h:¬ BN f q a b=true):¬ 4<=vT f a/\¬ 4<=vT f b/\q=false:=by unfold BN at h;simp only[Bool.or_eq_true,decide_eq_true_iff,not_or,Bool.not_eq_true] at h;exact h
theorem aB8 {f a b m:Nat} {after q:Bool} (hq:Gc f a b=q) (h:BN f q a b=true):Gf f m after a b=(EE f q a b,Fj f q a b):=by
 unfold Gf EE Fj PY;by_cases h1:4<=vT f a
 ·have hq2:¬ q=true:=by rw[<- hq];intro h3;have:=(acR h3).1;omega
  simp only[h1,hq2,if_true,true_or,false_or,Bool.false_eq_true]
 ·by_cases h2:4<=vT f b
  ·have hq2:¬ q=true:=by rw[<- hq];intro h3;have:=(acR h3).2;omega
   simp only[h1,h2,hq2,if_true,if_false,or_true,false_or,Bool.false_eq_true]
  ·have hq2:q=true:=by unfold BN at h;simpa only[Bool.or_eq_true,decide_eq_true_iff,h1,h2,false_or] using h
   rw[hq2] at hq;simp only[h1,h2,hq,hq2,if_true,if_false,or_self]
theorem afj {f a b m:Nat} {after q:Bool} (hq:Gc f a b=q) (h:¬ BN f q a b=true):Gf f m after a b=if vT f a=3 then(FP.mk f (FP.sgn f a) (FP.inf f),0)
 else if vT f b=3 then(FP.mk f (FP.sgn f b) (FP.inf f),0)
 else(FP.mk f (FP.addN f m (FP.sgn f a) (FP.sgn f b) (FP.cod f a) (FP.cod f b)) (FP.aDl f m after (FP.sgn f a) (FP.sgn f b) (FP.cod f a) (FP.cod f b)).1,(FP.aDl f m after (FP.sgn f a) (FP.sgn f b) (FP.cod f a) (FP.cod f b)).2):=by
 obtain⟨h1,h2,h3⟩:=am1 h;unfold Gf;rw[if_neg h1,if_neg h2,if_neg (by rw[hq,h3];exact Bool.false_ne_true)]
theorem afk {f a:Nat} (hf:f<4) (h:vT f a<3):FP.tmE f (FP.cod f a)=zL f a/\FP.tmS f (FP.cod f a)=AX f a*wy:=by
 obtain⟨h1,h2,h3⟩:=IC hf h;unfold FP.tmE FP.tmS zL AX;by_cases h0:vT f a=0
 ·rw[if_pos (h2.1 h0),if_pos (h2.1 h0),if_neg (by omega),if_neg (by omega),Nat.zero_mul];exact⟨rfl,rfl⟩
 ·rw[if_neg (λh=>h0 (h2.2 h)),if_neg (λh=>h0 (h2.2 h)),if_pos (by omega),if_pos (by omega),Bl];exact⟨rfl,rfl⟩
theorem Ta (s t:Bool) (ea:Int) (x:Nat) (eb:Int) (y:Nat):FP.aCP s t ea x eb y=if s=t then FP.aCI ea x eb y else Ea ea x eb y:=by unfold FP.aCP Ea;rfl
theorem am2 (s t:Bool) (ea:Int) (x:Nat) (eb:Int) (y:Nat) (h:¬ s=t):FP.aeY s t ea x eb y = !(s==decide (FP.aCt ea x eb y<0)):=by
 unfold FP.aeY;rw[if_neg h];by_cases hc:FP.aCt ea x eb y<0
 ·rw[if_pos hc,decide_eq_true hc];revert h;cases s<;>cases t<;>decide
 ·rw[if_neg hc,decide_eq_false hc];cases s<;>rfl
theorem am3 (m:Int):(u8 m==3)=decide ((u8 m).toNat=3):=by have:=Ew m;rw[Bool.eq_iff_iff,beq_iff_eq,decide_eq_true_iff];omega
theorem am4 {ea eb:Int} (x y:Nat) (ha : -40000<=ea/\ea<=40000) (hb : -40000<=eb/\eb<=40000):(-40001<=(FP.aCI ea x eb y).1/\(FP.aCI ea x eb y).1<=40001)/\(-40001<=(Ea ea x eb y).1/\(Ea ea x eb y).1<=40001):=by
 have hl:∀ (p q:Int) (u v:Nat),-40000<=p/\p<=40000 -> -40000<=q/\q<=40000 -> -40000<=FP.lvl p u q v/\FP.lvl p u q v<=40000:=λp q u v hp hq=>by
  unfold FP.lvl;split
  ·exact hq
  ·split
   ·exact hp
   ·omega
 have h1:=hl ea eb x y ha hb;have h2:=hl eb ea y x hb ha;unfold FP.aCI Ea FP.aDe;refine⟨by simp only[];omega,?_⟩;split
 ·simp only[];omega
 ·simp only[];omega
theorem aB9 (f m t a1 a0 b1 b0:Int) (hf:fN f<4) (hm:u8 m<=4):NR [f,m,t,a1,a0,b1,b0]=oR (Gf (fN f) (u8 m).toNat (ww t) (nB a1 a0) (nB b1 b0)):=by
 have hf3:fN (u8 f)<4:=by rw[wz];exact hf
 have known:=XW hf;have knownm:=ajC hm;have sg:∀ x,DX (fN f) x=FP.sgn (fN f) x:=λx=>by unfold DX;rw[decide_eq_true hf,Bool.true_and]
 obtain⟨x,hx⟩:∃ x,x=AX (fN f) (nB a1 a0):=⟨_,rfl⟩;obtain⟨y,hy⟩:∃ y,y=AX (fN f) (nB b1 b0):=⟨_,rfl⟩;obtain⟨ea,hea⟩:∃ e,e=zL (fN f) (nB a1 a0):=⟨_,rfl⟩;obtain⟨eb,heb⟩:∃ e,e=zL (fN f) (nB b1 b0):=⟨_,rfl⟩;obtain⟨sA,hsA⟩:∃ s,s=FP.sgn (fN f) (nB a1 a0):=⟨_,rfl⟩;obtain⟨sB,hsB⟩:∃ s,s=FP.sgn (fN f) (nB b1 b0):=⟨_,rfl⟩;have ra:=Lm (f:=fN f) (b:=nB a1 a0);have rb:=Lm (f:=fN f) (b:=nB b1 b0);rw[<- hea] at ra;rw[<- heb] at rb;have xl:x<wy:=by rw[hx];exact JL _ _
 have yl:y<wy:=by rw[hy];exact JL _ _
 have iea:i64 ea=ea:=xG (by omega) (by omega);have ieb:i64 eb=eb:=xG (by omega) (by omega)
 have unA:Fu [u8 f,u64 a1,u64 a0] = [wh sA,((vT (fN f) (nB a1 a0):Nat):Int),ea,wd x 1,wd x 0]:=by rw[Nn,wz,wX,sg,wS,hx,hea,hsA];rfl
 have unB:Fu [u8 f,u64 b1,u64 b0] = [wh sB,((vT (fN f) (nB b1 b0):Nat):Int),eb,wd y 1,wd y 0]:=by rw[Nn,wz,wX,sg,wS,hy,heb,hsB];rfl
 have u8A:=F9 (fN f) (nB a1 a0);have u8B:=F9 (fN f) (nB b1 b0)
 have pk:∀ (j:Int) (q:Bool),ww j=q->LX [u8 f,j,u64 a1,u64 a0,u64 b1,u64 b0] = [wd (EE (fN f) q (nB a1 a0) (nB b1 b0)) 1,wd (EE (fN f) q (nB a1 a0) (nB b1 b0)) 0,((Fj (fN f) q (nB a1 a0) (nB b1 b0):Nat):Int),wh (BN (fN f) q (nB a1 a0) (nB b1 b0))]:=λj q hj=>by rw[at6 _ _ _ _ _ _ hf3,wz,wX,wX,hj]
 have infE:∀ {s:Bool},Gm [u8 f,wh s] = [wd (FP.mk (fN f) s (FP.inf (fN f))) 1,wd (FP.mk (fN f) s (FP.inf (fN f))) 0]:=λ{s}=>by rw[Xn,wz,if_pos hf,wP,wS]
 obtain⟨X,hX⟩:∃ X,X=x*wy:=⟨_,rfl⟩;obtain⟨Y,hY⟩:∃ Y,Y=y*wy:=⟨_,rfl⟩;have joX:Gh [wd x 1,wd x 0,0,0] = [wd X 0,wd X 1,wd X 2,wd X 3]:=by rw[hX];exact afi xl
 have joY:Gh [wd y 1,wd y 0,0,0] = [wd Y 0,wd Y 1,wd Y 2,wd Y 3]:=by rw[hY];exact afi yl
 have Xl:X<wG:=by rw[hX];exact Uy xl
 have Yl:Y<wG:=by rw[hY];exact Uy yl
 have sa:A7 ea:=by unfold A7;omega
 have sb:A7 eb:=by unfold A7;omega
 have suE:=ajl sa sb Xl Yl;have diE:=ajo sa sb Xl Yl;have Ul0:=sum_lt (ea:=ea) (eb:=eb) Xl Yl;have Dl0:=ajn (ea:=ea) (eb:=eb) Xl Yl;obtain⟨ru,rd⟩:=am4 (ea:=ea) (eb:=eb) X Y (by omega) (by omega);rw[UL];generalize hR:Gf (fN f) (u8 m).toNat (ww t) (nB a1 a0) (nB b1 b0)=R;have rP:∀ q:Bool,Gc (fN f) (nB a1 a0) (nB b1 b0)=q->BN (fN f) q (nB a1 a0) (nB b1 b0)=true->R=(EE (fN f) q (nB a1 a0) (nB b1 b0),Fj (fN f) q (nB a1 a0) (nB b1 b0)):=λq h1 h2=>by rw[<- hR];exact aB8 h1 h2
 have aI:vT (fN f) (nB a1 a0)=3->vT (fN f) (nB b1 b0)=3->Gc (fN f) (nB a1 a0) (nB b1 b0)=(sA != sB):=λh1 h2=>by unfold Gc;rw[h1,h2,<- hsA,<- hsB];rfl
 have aN:¬ (vT (fN f) (nB a1 a0)=3/\vT (fN f) (nB b1 b0)=3)->Gc (fN f) (nB a1 a0) (nB b1 b0)=false:=λh=>by rw[<- Bool.not_eq_true];exact λh2=>h (acR h2)
 have rA:∀ q:Bool,Gc (fN f) (nB a1 a0) (nB b1 b0)=q->¬ BN (fN f) q (nB a1 a0) (nB b1 b0)=true->vT (fN f) (nB a1 a0)=3->R=(FP.mk (fN f) sA (FP.inf (fN f)),0):=λq hq h h1=>by rw[<- hR,afj hq h,if_pos h1,hsA]
 have rB:∀ q:Bool,Gc (fN f) (nB a1 a0) (nB b1 b0)=q->¬ BN (fN f) q (nB a1 a0) (nB b1 b0)=true->¬ vT (fN f) (nB a1 a0)=3->vT (fN f) (nB b1 b0)=3->R=(FP.mk (fN f) sB (FP.inf (fN f)),0):=λq hq h h1 h2=>by rw[<- hR,afj hq h,if_neg h1,if_pos h2,hsB]
 have pkF8:∀ q:Bool,u8 ((Fj (fN f) q (nB a1 a0) (nB b1 b0):Nat):Int)=((Fj (fN f) q (nB a1 a0) (nB b1 b0):Nat):Int):=λq=>by have:=at5 (fN f) q (nB a1 a0) (nB b1 b0);exact F6 (by omega) (by omega)
 obtain⟨Gd,hGd⟩:∃ Gd:Prop,Gd=(vT (fN f) (nB a1 a0)<3/\vT (fN f) (nB b1 b0)<3):=⟨_,rfl⟩
 have fin:¬ BN (fN f) false (nB a1 a0) (nB b1 b0)=true->¬ vT (fN f) (nB a1 a0)=3->¬ vT (fN f) (nB b1 b0)=3->Gd:=λh h1 h2=>by obtain⟨k1,k2,k3⟩:=am1 h;rw[hGd];omega
 obtain⟨N,hN⟩:∃ N,N=FP.addN (fN f) (u8 m).toNat sA sB (FP.cod (fN f) (nB a1 a0)) (FP.cod (fN f) (nB b1 b0)):=⟨_,rfl⟩;obtain⟨C,hC⟩:∃ C,C=FP.aDl (fN f) (u8 m).toNat (ww t) sA sB (FP.cod (fN f) (nB a1 a0)) (FP.cod (fN f) (nB b1 b0)):=⟨_,rfl⟩
 have C8:u8 (C.2:Int)=(C.2:Int):=by
  have h:C.2<=24:=by rw[hC];unfold FP.aDl;have:=FP.ak1 (FP.fP (fN f)) (FP.fE (fN f)) (u8 m).toNat (ww t) (FP.addN (fN f) (u8 m).toNat sA sB (FP.cod (fN f) (nB a1 a0)) (FP.cod (fN f) (nB b1 b0))) (FP.sgV sA sB (FP.val (fN f) (FP.cod (fN f) (nB a1 a0))) (FP.val (fN f) (FP.cod (fN f) (nB b1 b0)))) 1;omega
  exact F6 (by omega) (by omega)
 have rF:Gd->R=(FP.mk (fN f) N C.1,C.2):=λg=>by
  rw[hGd] at g
  have h:¬ BN (fN f) false (nB a1 a0) (nB b1 b0)=true:=by unfold BN;simp only[Bool.or_eq_true,decide_eq_true_iff,Bool.false_eq_true,or_false];omega
  have g1:¬ vT (fN f) (nB a1 a0)=3:=by omega
  have g2:¬ vT (fN f) (nB b1 b0)=3:=by omega
  rw[<- hR,afj (aN (λh=>g1 h.1)) h,if_neg g1,if_neg g2,hN,hC,hsA,hsB]
 obtain⟨U,hU⟩:∃ U,U=FP.aCI ea X eb Y:=⟨_,rfl⟩;obtain⟨D,hD⟩:∃ D,D=Ea ea X eb Y:=⟨_,rfl⟩;obtain⟨L,hL⟩:∃ L,L=decide (FP.aCt ea X eb Y<0):=⟨_,rfl⟩;rw[<- hU] at suE ru Ul0;rw[<- hD,<- hL] at diE;rw[<- hD] at rd Dl0;have Ul:U.2<wG:=Ul0;have Dl:D.2<wG:=Dl0
 have rn:∀ (Z:Int×Nat) (n:Bool),Gd->Z.2<wG->(-40001<=Z.1/\Z.1<=40001)->Z=FP.aCP sA sB ea X eb Y->(if Z.2=0 then(if sA=sB then sA else decide ((u8 m).toNat=3)) else FP.aeY sA sB ea X eb Y)=n ->
   Dq [u8 f,u8 m,wh (ww t),wh n,i64 Z.1,wd Z.2 0,wd Z.2 1,wd Z.2 2,wd Z.2 3] = [wd (FP.mk (fN f) N C.1) 1,wd (FP.mk (fN f) N C.1) 0,(C.2:Int)]:=λZ n g hZ hr hz hn=>by
  rw[hGd] at g;obtain⟨t1,t2⟩:=afk hf g.1;obtain⟨t3,t4⟩:=afk hf g.2;obtain⟨k1,k2⟩:=FP.aDY (m:=(u8 m).toNat) (after:=ww t) hf (IC hf g.1).1 (IC hf g.2).1 sA sB;rw[t1,t2,t3,t4,<- hea,<- heb,<- hx,<- hy,<- hX,<- hY,<- hz] at k1 k2;rw[hn,<- hN] at k1;rw[<- hN,<- hC] at k2;have z1:i64 Z.1=Z.1:=xG (by omega) (by omega);have z2:Fe Z.1=Z.1:=ab9 (by omega) (by omega);rw[ab7 _ _ _ _ _ _ _ _ _ hf3 (by rw[Ak];exact hm),wz,Ak,wP,wP,xD,z1,z2,Ai hZ,k1,k2,wS];rfl
 have rnU:Gd->sA=sB->Dq [u8 f,u8 m,wh (ww t),wh sA,i64 U.1,wd U.2 0,wd U.2 1,wd U.2 2,wd U.2 3] = [wd (FP.mk (fN f) N C.1) 1,wd (FP.mk (fN f) N C.1) 0,(C.2:Int)]:=λg h=>by refine rn U sA g Ul ru (by rw[Ta,if_pos h,hU]) ?_;rw[if_pos h];unfold FP.aeY;rw[if_pos h];split<;>rfl
 have rnZ:Gd->¬ sA=sB->D.2=0->Dq [u8 f,u8 m,wh (ww t),wh (u8 m==3),i64 D.1,wd D.2 0,wd D.2 1,wd D.2 2,wd D.2 3] = [wd (FP.mk (fN f) N C.1) 1,wd (FP.mk (fN f) N C.1) 0,(C.2:Int)]:=λg h z=>by refine rn D _ g Dl rd (by rw[Ta,if_neg h,hD]) ?_;rw[if_pos z,if_neg h,am3]
 have rnD:Gd->¬ sA=sB->¬ D.2=0->Dq [u8 f,u8 m,wh (ww t),wh (!(sA==L)),i64 D.1,wd D.2 0,wd D.2 1,wd D.2 2,wd D.2 3] = [wd (FP.mk (fN f) N C.1) 1,wd (FP.mk (fN f) N C.1) 0,(C.2:Int)]:=λg h z=>by refine rn D _ g Dl rd (by rw[Ta,if_neg h,hD]) ?_;rw[if_neg z,am2 _ _ _ _ _ _ h,<- hL]
 clear rn hU hD hL;rw[NR,ad5];refine tF (by simp only[vS];exact known) ?_;refine tF (by simp only[vS];exact knownm) ?_;refine(vX (r:=[wh sA,((vT (fN f) (nB a1 a0):Nat):Int),ea,wd (x) 1,wd (x) 0]) (by simp only[vS,UY];exact unA) (by rfl)).trans ?_;refine(vX (r:=[wh sB,((vT (fN f) (nB b1 b0):Nat):Int),eb,wd (y) 1,wd (y) 0]) (by simp only[vS,UY];exact unB) (by rfl)).trans ?_;refine tI (vT (fN f) (nB a1 a0)=3) (by simp only[vS,u8A];exact JQ _ 3) (λh1=>?_) (λh1=>?_)
 ·refine tI (vT (fN f) (nB b1 b0)=3) (by simp only[vS,u8B];exact JQ _ 3) (λh2=>?_) (λh2=>?_)
  ·refine(vX (r:=[wd (EE (fN f) (sA != sB) (nB a1 a0) (nB b1 b0)) 1,wd (EE (fN f) (sA != sB) (nB a1 a0) (nB b1 b0)) 0,((Fj (fN f) (sA != sB) (nB a1 a0) (nB b1 b0):Nat):Int),wh (BN (fN f) (sA != sB) (nB a1 a0) (nB b1 b0))]) (by simp only[vS,ad7];exact pk _ _ (by first|rfl|(simp only[wP];rfl))) (by rfl)).trans ?_;refine tI (BN (fN f) (sA != sB) (nB a1 a0) (nB b1 b0)=true) (by simp only[vS];exact(Bool.decide_coe _).symm) (λh3=>?_) (λh3=>?_)
   ·rw[wu rfl];simp only[vS];rw[rP _ (aI h1 h2) h3];simp only[pkF8]
   ·refine(vX (r:=[wd (FP.mk (fN f) sA (FP.inf (fN f))) 1,wd (FP.mk (fN f) sA (FP.inf (fN f))) 0]) (by simp only[vS,Fx];exact infE) (by rfl)).trans ?_;rw[wu rfl];simp only[vS];rw[rA _ (aI h1 h2) h3 h1];rfl
  ·refine(vX (r:=[wd (EE (fN f) false (nB a1 a0) (nB b1 b0)) 1,wd (EE (fN f) false (nB a1 a0) (nB b1 b0)) 0,((Fj (fN f) false (nB a1 a0) (nB b1 b0):Nat):Int),wh (BN (fN f) false (nB a1 a0) (nB b1 b0))]) (by simp only[vS,ad7];exact pk _ _ (by first|rfl|(simp only[wP];rfl))) (by rfl)).trans ?_;refine tI (BN (fN f) false (nB a1 a0) (nB b1 b0)=true) (by simp only[vS];exact(Bool.decide_coe _).symm) (λh4=>?_) (λh4=>?_)
   ·rw[wu rfl];simp only[vS];rw[rP _ (aN (by omega)) h4];simp only[pkF8]
   ·refine(vX (r:=[wd (FP.mk (fN f) sA (FP.inf (fN f))) 1,wd (FP.mk (fN f) sA (FP.inf (fN f))) 0]) (by simp only[vS,Fx];exact infE) (by rfl)).trans ?_;rw[wu rfl];simp only[vS];rw[rA _ (aN (by omega)) h4 h1];rfl
 ·refine(vX (r:=[wd (EE (fN f) false (nB a1 a0) (nB b1 b0)) 1,wd (EE (fN f) false (nB a1 a0) (nB b1 b0)) 0,((Fj (fN f) false (nB a1 a0) (nB b1 b0):Nat):Int),wh (BN (fN f) false (nB a1 a0) (nB b1 b0))]) (by simp only[vS,ad7];exact pk _ _ (by first|rfl|(simp only[wP];rfl))) (by rfl)).trans ?_;refine tI (BN (fN f) false (nB a1 a0) (nB b1 b0)=true) (by simp only[vS];exact(Bool.decide_coe _).symm) (λh5=>?_) (λh5=>?_)
  ·rw[wu rfl];simp only[vS];rw[rP _ (aN (by omega)) h5];simp only[pkF8]
  ·refine tI (vT (fN f) (nB b1 b0)=3) (by simp only[vS,u8B];exact JQ _ 3) (λh6=>?_) (λh6=>?_)
   ·refine(vX (r:=[wd (FP.mk (fN f) sB (FP.inf (fN f))) 1,wd (FP.mk (fN f) sB (FP.inf (fN f))) 0]) (by simp only[vS,Fx];exact infE) (by rfl)).trans ?_;rw[wu rfl];simp only[vS];rw[rB _ (aN (by omega)) h5 h1 h6];rfl
   ·refine tI (¬ sA=sB) (by simp only[vS];exact Vu _ _) (λh7=>?_) (λh7=>?_)
    ·refine(vX (r:=[wd (X) 0,wd (X) 1,wd (X) 2,wd (X) 3]) (by simp only[vS,Ma];exact joX) (by rfl)).trans ?_;refine(vX (r:=[wd (Y) 0,wd (Y) 1,wd (Y) 2,wd (Y) 3]) (by simp only[vS,Ma];exact joY) (by rfl)).trans ?_;refine(vX (r:=[D.1,wd (D.2) 0,wd (D.2) 1,wd (D.2) 2,wd (D.2) 3,wh L]) (by simp only[vS,ad8,iea,ieb];exact diE) (by rfl)).trans ?_;refine(vX (r:=[wh (decide (D.2=0))]) (by simp only[vS,Sd];exact LM Dl) (by rfl)).trans ?_;refine tI (D.2=0) (by simp only[vS];try rfl) (λh8=>?_) (λh8=>?_)
     ·refine(vX (r:=[wd (FP.mk (fN f) N C.1) 1,wd (FP.mk (fN f) N C.1) 0,(C.2:Int)]) (by simp only[vS,Gn];exact rnZ (fin h5 h1 h6) h7 h8) (by rfl)).trans ?_;rw[wu rfl];simp only[vS];rw[rF (fin h5 h1 h6),C8]
     ·refine(vX (r:=[wd (FP.mk (fN f) N C.1) 1,wd (FP.mk (fN f) N C.1) 0,(C.2:Int)]) (by simp only[vS,Gn];exact rnD (fin h5 h1 h6) h7 h8) (by rfl)).trans ?_;rw[wu rfl];simp only[vS];rw[rF (fin h5 h1 h6),C8]
    ·refine(vX (r:=[wd (X) 0,wd (X) 1,wd (X) 2,wd (X) 3]) (by simp only[vS,Ma];exact joX) (by rfl)).trans ?_;refine(vX (r:=[wd (Y) 0,wd (Y) 1,wd (Y) 2,wd (Y) 3]) (by simp only[vS,Ma];exact joY) (by rfl)).trans ?_;refine(vX (r:=[U.1,wd (U.2) 0,wd (U.2) 1,wd (U.2) 2,wd (U.2) 3]) (by simp only[vS,ad9,iea,ieb];exact suE) (by rfl)).trans ?_;refine(vX (r:=[wh (decide (U.2=0))]) (by simp only[vS,Sd];exact LM Ul) (by rfl)).trans ?_;refine tI (U.2=0) (by simp only[vS];try rfl) (λh9=>?_) (λh9=>?_)
     ·refine(vX (r:=[wd (FP.mk (fN f) N C.1) 1,wd (FP.mk (fN f) N C.1) 0,(C.2:Int)]) (by simp only[vS,Gn];exact rnU (fin h5 h1 h6) (Decidable.not_not.1 h7)) (by rfl)).trans ?_;rw[wu rfl];simp only[vS];rw[rF (fin h5 h1 h6),C8]
     ·refine(vX (r:=[wd (FP.mk (fN f) N C.1) 1,wd (FP.mk (fN f) N C.1) 0,(C.2:Int)]) (by simp only[vS,Gn];exact rnU (fin h5 h1 h6) (Decidable.not_not.1 h7)) (by rfl)).trans ?_;rw[wu rfl];simp only[vS];rw[rF (fin h5 h1 h6),C8]
theorem aCa {F M T a1 a0 b1 b0:Int} {φ μ A B:Nat} {τ:Bool} (hF:fN F=φ) (hφ:φ<4) (hM:(u8 M).toNat=μ) (hM4:u8 M<=4) (hT:ww T=τ) (hA:nB a1 a0=A) (hB:nB b1 b0=B):NR [F,M,T,a1,a0,b1,b0] = [wd (Gf φ μ τ A B).1 1,wd (Gf φ μ τ A B).1 0,(((Gf φ μ τ A B).2:Nat):Int)]:=by rw[aB9 _ _ _ _ _ _ _ (by rw[hF];exact hφ) hM4,hF,hM,hT,hA,hB,UL]
theorem aCb {F M T a1 a0 b1 b0:Int} {φ μ A B:Nat} {τ:Bool} (hF:fN F=φ) (hφ:φ<4) (hM:(u8 M).toNat=μ) (hM4:u8 M<=4) (hT:ww T=τ) (hA:nB a1 a0=A) (hB:nB b1 b0=B):NL [F,M,T,a1,a0,b1,b0] = [wd (Ll φ μ τ A B).1 1,wd (Ll φ μ τ A B).1 0,(((Ll φ μ τ A B).2:Nat):Int)]:=by rw[arb _ _ _ _ _ _ _ (by rw[hF];exact hφ) hM4,hF,hM,hT,hA,hB,UL]
end Go.Proofs.YtippohicjhilnaaGreatDoor
