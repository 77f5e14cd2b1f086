import Derived.Test.YtippohicjhilnaaGreatDoorZ1Tr
import Derived.Test.YtippohicjhilnaaGreatDoorZETr
import Derived.Test.YtippohicjhilnaaGreatDoorZNTr
import Derived.Test.YtippohicjhilnaaGreatDoorZQTr
import Derived.Test.YtippohicjhilnaaGreatDoorZRTr
set_option linter.unusedSimpArgs false
set_option linter.unusedVariables false
set_option maxRecDepth 100000
set_option maxHeartbeats 1500000
namespace Go.Proofs.YtippohicjhilnaaGreatDoor
open Go.RowKit
section
variable {F M T a1 a0 b1 b0:Int} {φ μ A B:Nat} {τ:Bool}
theorem azX (hF:fN F=φ) (hφ:φ<4) (hA:nB a1 a0=A):Gt [F,a1,a0] = [((uf φ A:Nat):Int),ui (FP.sgn φ A)]:=by rw[afM,hF,hA,if_pos hφ];unfold uf;rw[if_pos hφ]
end
theorem azY (a b:Bool):(!(a==b))=decide (¬ a=b):=by cases a<;>cases b<;>rfl
theorem akS {x:Nat} (hx:x<uh):Fx [wd x 1,wd x 0,0,0] = [wd (x*uh) 0,wd (x*uh) 1,wd (x*uh) 2,wd (x*uh) 3]:=by rw[ZW,vv hx,show nB 0 0=0 from by unfold nB;rw[show u64 0=0 from by decide];rfl,Nat.add_zero,yI]
theorem akT {f a b:Nat} {q:Bool} (h:¬ wG f q a b=true):¬ 4<=uf f a/\¬ 4<=uf f b/\q=false:=by unfold wG at h;simp only[Bool.or_eq_true,decide_eq_true_iff,not_or,Bool.not_eq_true] at h;exact h
theorem azZ {f a b m:Nat} {after q:Bool} (hq:Fs f a b=q) (h:wG f q a b=true):CP f m after a b=(xP f q a b,yK f q a b):=by
 unfold CP xP yK NM;by_cases h1:4<=uf f a
 ·have hq2:¬ q=true:=by rw[<- hq];intro h3;have:=(VB h3).1;omega
  simp only[h1,hq2,if_true,true_or,false_or,Bool.false_eq_true]
 ·by_cases h2:4<=uf f b
  ·have hq2:¬ q=true:=by rw[<- hq];intro h3;have:=(VB h3).2;omega
   simp only[h1,h2,hq2,if_true,if_false,or_true,false_or,Bool.false_eq_true]
  ·have hq2:q=true:=by unfold wG at h;simpa only[Bool.or_eq_true,decide_eq_true_iff,h1,h2,false_or] using h
   rw[hq2] at hq;simp only[h1,h2,hq,hq2,if_true,if_false,or_self]
theorem acX {f a b m:Nat} {after q:Bool} (hq:Fs f a b=q) (h:¬ wG f q a b=true):CP f m after a b=if uf f a=3 then(FP.mk f (FP.sgn f a) (FP.inf f),0)
 else if uf f b=3 then(FP.mk f (FP.sgn f b) (FP.inf f),0)
 else(FP.mk f (FP.addN f m (FP.sgn f a) (FP.sgn f b) (FP.cod f a) (FP.cod f b)) (FP.addC f m after (FP.sgn f a) (FP.sgn f b) (FP.cod f a) (FP.cod f b)).1,(FP.addC f m after (FP.sgn f a) (FP.sgn f b) (FP.cod f a) (FP.cod f b)).2):=by
 obtain⟨h1,h2,h3⟩:=akT h;unfold CP;rw[if_neg h1,if_neg h2,if_neg (by rw[hq,h3];exact Bool.false_ne_true)]
theorem akU {f a:Nat} (hf:f<4) (h:uf f a<3):FP.tmE f (FP.cod f a)=uS f a/\FP.tmS f (FP.cod f a)=wI f a*uh:=by
 obtain⟨h1,h2,h3⟩:=Vi hf h;unfold FP.tmE FP.tmS uS wI;by_cases h0:uf f a=0
 ·rw[if_pos (h2.1 h0),if_pos (h2.1 h0),if_neg (by omega),if_neg (by omega),Nat.zero_mul];exact⟨rfl,rfl⟩
 ·rw[if_neg (λh=>h0 (h2.2 h)),if_neg (λh=>h0 (h2.2 h)),if_pos (by omega),if_pos (by omega),yN];exact⟨rfl,rfl⟩
theorem acY (s t:Bool) (ea:Int) (x:Nat) (eb:Int) (y:Nat):FP.resT s t ea x eb y=if s=t then FP.sumT ea x eb y else CQ ea x eb y:=by unfold FP.resT CQ;rfl
theorem az0 (s t:Bool) (ea:Int) (x:Nat) (eb:Int) (y:Nat) (h:¬ s=t):FP.resS s t ea x eb y = !(s==decide (FP.cmpT ea x eb y<0)):=by
 unfold FP.resS;rw[if_neg h];by_cases hc:FP.cmpT ea x eb y<0
 ·rw[if_pos hc,decide_eq_true hc];revert h;cases s<;>cases t<;>decide
 ·rw[if_neg hc,decide_eq_false hc];cases s<;>rfl
theorem az1 (m:Int):(u8 m==3)=decide ((u8 m).toNat=3):=by have:=Fa m;rw[Bool.eq_iff_iff,beq_iff_eq,decide_eq_true_iff];omega
theorem az2 {ea eb:Int} (x y:Nat) (ha : -40000<=ea/\ea<=40000) (hb : -40000<=eb/\eb<=40000):(-40001<=(FP.sumT ea x eb y).1/\(FP.sumT ea x eb y).1<=40001)/\(-40001<=(CQ ea x eb y).1/\(CQ ea x eb y).1<=40001):=by
 have hl:∀ (p q:Int) (u v:Nat),-40000<=p/\p<=40000 -> -40000<=q/\q<=40000 -> -40000<=FP.lvl p u q v/\FP.lvl p u q v<=40000:=λp q u v hp hq=>by
  unfold FP.lvl;split
  ·exact hq
  ·split
   ·exact hp
   ·omega
 have h1:=hl ea eb x y ha hb;have h2:=hl eb ea y x hb ha;unfold FP.sumT CQ FP.difT;refine⟨by simp only[];omega,?_⟩;split
 ·simp only[];omega
 ·simp only[];omega
theorem az3 (f m t a1 a0 b1 b0:Int) (hf:fN f<4) (hm:u8 m<=4):LG [f,m,t,a1,a0,b1,b0]=oR (CP (fN f) (u8 m).toNat (uk t) (nB a1 a0) (nB b1 b0)):=by
 have hf3:fN (u8 f)<4:=by rw[uD];exact hf
 have known:=aaP hf;have knownm:=ar6 hm;have sg:∀ x,Fj (fN f) x=FP.sgn (fN f) x:=λx=>by unfold Fj;rw[decide_eq_true hf,Bool.true_and]
 obtain⟨x,hx⟩:∃ x,x=wI (fN f) (nB a1 a0):=⟨_,rfl⟩;obtain⟨y,hy⟩:∃ y,y=wI (fN f) (nB b1 b0):=⟨_,rfl⟩;obtain⟨ea,hea⟩:∃ e,e=uS (fN f) (nB a1 a0):=⟨_,rfl⟩;obtain⟨eb,heb⟩:∃ e,e=uS (fN f) (nB b1 b0):=⟨_,rfl⟩;obtain⟨sA,hsA⟩:∃ s,s=FP.sgn (fN f) (nB a1 a0):=⟨_,rfl⟩;obtain⟨sB,hsB⟩:∃ s,s=FP.sgn (fN f) (nB b1 b0):=⟨_,rfl⟩;have ra:=Gi (f:=fN f) (b:=nB a1 a0);have rb:=Gi (f:=fN f) (b:=nB b1 b0);rw[<- hea] at ra;rw[<- heb] at rb;have xl:x<uh:=by rw[hx];exact RQ _ _
 have yl:y<uh:=by rw[hy];exact RQ _ _
 have iea:i64 ea=ea:=vX (by omega) (by omega);have ieb:i64 eb=eb:=vX (by omega) (by omega)
 have unA:Ex [u8 f,u64 a1,u64 a0] = [ui sA,((uf (fN f) (nB a1 a0):Nat):Int),ea,wd x 1,wd x 0]:=by rw[Vf,uD,vQ,sg,uV,hx,hea,hsA];rfl
 have unB:Ex [u8 f,u64 b1,u64 b0] = [ui sB,((uf (fN f) (nB b1 b0):Nat):Int),eb,wd y 1,wd y 0]:=by rw[Vf,uD,vQ,sg,uV,hy,heb,hsB];rfl
 have u8A:=Gh (fN f) (nB a1 a0);have u8B:=Gh (fN f) (nB b1 b0)
 have pk:∀ (j:Int) (q:Bool),uk j=q->FB [u8 f,j,u64 a1,u64 a0,u64 b1,u64 b0] = [wd (xP (fN f) q (nB a1 a0) (nB b1 b0)) 1,wd (xP (fN f) q (nB a1 a0) (nB b1 b0)) 0,((yK (fN f) q (nB a1 a0) (nB b1 b0):Nat):Int),ui (wG (fN f) q (nB a1 a0) (nB b1 b0))]:=λj q hj=>by rw[aht _ _ _ _ _ _ hf3,uD,vQ,vQ,hj]
 have infE:∀ {s:Bool},H9 [u8 f,ui s] = [wd (FP.mk (fN f) s (FP.inf (fN f))) 1,wd (FP.mk (fN f) s (FP.inf (fN f))) 0]:=λ{s}=>by rw[afJ,uD,if_pos hf,uE,uV]
 obtain⟨X,hX⟩:∃ X,X=x*uh:=⟨_,rfl⟩;obtain⟨Y,hY⟩:∃ Y,Y=y*uh:=⟨_,rfl⟩;have joX:Fx [wd x 1,wd x 0,0,0] = [wd X 0,wd X 1,wd X 2,wd X 3]:=by rw[hX];exact akS xl
 have joY:Fx [wd y 1,wd y 0,0,0] = [wd Y 0,wd Y 1,wd Y 2,wd Y 3]:=by rw[hY];exact akS yl
 have Xl:X<uu:=by rw[hX];exact U7 xl
 have Yl:Y<uu:=by rw[hY];exact U7 yl
 have sa:AL ea:=by unfold AL;omega
 have sb:AL eb:=by unfold AL;omega
 have suE:=arN sa sb Xl Yl;have diE:=arR sa sb Xl Yl;have Ul0:=sum_lt (ea:=ea) (eb:=eb) Xl Yl;have Dl0:=arO (ea:=ea) (eb:=eb) Xl Yl;obtain⟨ru,rd⟩:=az2 (ea:=ea) (eb:=eb) X Y (by omega) (by omega);rw[VF];generalize hR:CP (fN f) (u8 m).toNat (uk t) (nB a1 a0) (nB b1 b0)=R;have rP:∀ q:Bool,Fs (fN f) (nB a1 a0) (nB b1 b0)=q->wG (fN f) q (nB a1 a0) (nB b1 b0)=true->R=(xP (fN f) q (nB a1 a0) (nB b1 b0),yK (fN f) q (nB a1 a0) (nB b1 b0)):=λq h1 h2=>by rw[<- hR];exact azZ h1 h2
 have aI:uf (fN f) (nB a1 a0)=3->uf (fN f) (nB b1 b0)=3->Fs (fN f) (nB a1 a0) (nB b1 b0)=(sA != sB):=λh1 h2=>by unfold Fs;rw[h1,h2,<- hsA,<- hsB];rfl
 have aN:¬ (uf (fN f) (nB a1 a0)=3/\uf (fN f) (nB b1 b0)=3)->Fs (fN f) (nB a1 a0) (nB b1 b0)=false:=λh=>by rw[<- Bool.not_eq_true];exact λh2=>h (VB h2)
 have rA:∀ q:Bool,Fs (fN f) (nB a1 a0) (nB b1 b0)=q->¬ wG (fN f) q (nB a1 a0) (nB b1 b0)=true->uf (fN f) (nB a1 a0)=3->R=(FP.mk (fN f) sA (FP.inf (fN f)),0):=λq hq h h1=>by rw[<- hR,acX hq h,if_pos h1,hsA]
 have rB:∀ q:Bool,Fs (fN f) (nB a1 a0) (nB b1 b0)=q->¬ wG (fN f) q (nB a1 a0) (nB b1 b0)=true->¬ uf (fN f) (nB a1 a0)=3->uf (fN f) (nB b1 b0)=3->R=(FP.mk (fN f) sB (FP.inf (fN f)),0):=λq hq h h1 h2=>by rw[<- hR,acX hq h,if_neg h1,if_pos h2,hsB]
 have pkF8:∀ q:Bool,u8 ((yK (fN f) q (nB a1 a0) (nB b1 b0):Nat):Int)=((yK (fN f) q (nB a1 a0) (nB b1 b0):Nat):Int):=λq=>by have:=ahs (fN f) q (nB a1 a0) (nB b1 b0);exact NB (by omega) (by omega)
 obtain⟨Gd,hGd⟩:∃ Gd:Prop,Gd=(uf (fN f) (nB a1 a0)<3/\uf (fN f) (nB b1 b0)<3):=⟨_,rfl⟩
 have fin:¬ wG (fN f) false (nB a1 a0) (nB b1 b0)=true->¬ uf (fN f) (nB a1 a0)=3->¬ uf (fN f) (nB b1 b0)=3->Gd:=λh h1 h2=>by obtain⟨k1,k2,k3⟩:=akT h;rw[hGd];omega
 obtain⟨N,hN⟩:∃ N,N=FP.addN (fN f) (u8 m).toNat sA sB (FP.cod (fN f) (nB a1 a0)) (FP.cod (fN f) (nB b1 b0)):=⟨_,rfl⟩;obtain⟨C,hC⟩:∃ C,C=FP.addC (fN f) (u8 m).toNat (uk t) sA sB (FP.cod (fN f) (nB a1 a0)) (FP.cod (fN f) (nB b1 b0)):=⟨_,rfl⟩
 have C8:u8 (C.2:Int)=(C.2:Int):=by
  have h:C.2<=24:=by rw[hC];unfold FP.addC;have:=FP.roundC_flag_set (FP.fP (fN f)) (FP.fE (fN f)) (u8 m).toNat (uk t) (FP.addN (fN f) (u8 m).toNat sA sB (FP.cod (fN f) (nB a1 a0)) (FP.cod (fN f) (nB b1 b0))) (FP.sgV sA sB (FP.val (fN f) (FP.cod (fN f) (nB a1 a0))) (FP.val (fN f) (FP.cod (fN f) (nB b1 b0)))) 1;omega
  exact NB (by omega) (by omega)
 have rF:Gd->R=(FP.mk (fN f) N C.1,C.2):=λg=>by
  rw[hGd] at g
  have h:¬ wG (fN f) false (nB a1 a0) (nB b1 b0)=true:=by unfold wG;simp only[Bool.or_eq_true,decide_eq_true_iff,Bool.false_eq_true,or_false];omega
  have g1:¬ uf (fN f) (nB a1 a0)=3:=by omega
  have g2:¬ uf (fN f) (nB b1 b0)=3:=by omega
  rw[<- hR,acX (aN (λh=>g1 h.1)) h,if_neg g1,if_neg g2,hN,hC,hsA,hsB]
 obtain⟨U,hU⟩:∃ U,U=FP.sumT ea X eb Y:=⟨_,rfl⟩;obtain⟨D,hD⟩:∃ D,D=CQ ea X eb Y:=⟨_,rfl⟩;obtain⟨L,hL⟩:∃ L,L=decide (FP.cmpT ea X eb Y<0):=⟨_,rfl⟩;rw[<- hU] at suE ru Ul0;rw[<- hD,<- hL] at diE;rw[<- hD] at rd Dl0;have Ul:U.2<uu:=Ul0;have Dl:D.2<uu:=Dl0
 have rn:∀ (Z:Int×Nat) (n:Bool),Gd->Z.2<uu->(-40001<=Z.1/\Z.1<=40001)->Z=FP.resT sA sB ea X eb Y->(if Z.2=0 then(if sA=sB then sA else decide ((u8 m).toNat=3)) else FP.resS sA sB ea X eb Y)=n ->
   DD [u8 f,u8 m,ui (uk t),ui n,i64 Z.1,wd Z.2 0,wd Z.2 1,wd Z.2 2,wd Z.2 3] = [wd (FP.mk (fN f) N C.1) 1,wd (FP.mk (fN f) N C.1) 0,(C.2:Int)]:=λZ n g hZ hr hz hn=>by
  rw[hGd] at g;obtain⟨t1,t2⟩:=akU hf g.1;obtain⟨t3,t4⟩:=akU hf g.2;obtain⟨k1,k2⟩:=FP.add_res (m:=(u8 m).toNat) (after:=uk t) hf (Vi hf g.1).1 (Vi hf g.2).1 sA sB;rw[t1,t2,t3,t4,<- hea,<- heb,<- hx,<- hy,<- hX,<- hY,<- hz] at k1 k2;rw[hn,<- hN] at k1;rw[<- hN,<- hC] at k2;have z1:i64 Z.1=Z.1:=vX (by omega) (by omega);have z2:Fp Z.1=Z.1:=af0 (by omega) (by omega);rw[afW _ _ _ _ _ _ _ _ _ hf3 (by rw[CG];exact hm),uD,CG,uE,uE,vJ,z1,z2,yA hZ,k1,k2,uV];rfl
 have rnU:Gd->sA=sB->DD [u8 f,u8 m,ui (uk t),ui sA,i64 U.1,wd U.2 0,wd U.2 1,wd U.2 2,wd U.2 3] = [wd (FP.mk (fN f) N C.1) 1,wd (FP.mk (fN f) N C.1) 0,(C.2:Int)]:=λg h=>by refine rn U sA g Ul ru (by rw[acY,if_pos h,hU]) ?_;rw[if_pos h];unfold FP.resS;rw[if_pos h];split<;>rfl
 have rnZ:Gd->¬ sA=sB->D.2=0->DD [u8 f,u8 m,ui (uk t),ui (u8 m==3),i64 D.1,wd D.2 0,wd D.2 1,wd D.2 2,wd D.2 3] = [wd (FP.mk (fN f) N C.1) 1,wd (FP.mk (fN f) N C.1) 0,(C.2:Int)]:=λg h z=>by refine rn D _ g Dl rd (by rw[acY,if_neg h,hD]) ?_;rw[if_pos z,if_neg h,az1]
 have rnD:Gd->¬ sA=sB->¬ D.2=0->DD [u8 f,u8 m,ui (uk t),ui (!(sA==L)),i64 D.1,wd D.2 0,wd D.2 1,wd D.2 2,wd D.2 3] = [wd (FP.mk (fN f) N C.1) 1,wd (FP.mk (fN f) N C.1) 0,(C.2:Int)]:=λg h z=>by refine rn D _ g Dl rd (by rw[acY,if_neg h,hD]) ?_;rw[if_neg z,az0 _ _ _ _ _ _ h,<- hL]
 clear rn hU hD hL;rw[LG,abU];refine tF (by simp only[tK];exact known) ?_;refine tF (by simp only[tK];exact knownm) ?_;refine(tX (r:=[ui sA,((uf (fN f) (nB a1 a0):Nat):Int),ea,wd (x) 1,wd (x) 0]) (by simp only[tK,aiL];exact unA) (by rfl)).trans ?_;refine(tX (r:=[ui sB,((uf (fN f) (nB b1 b0):Nat):Int),eb,wd (y) 1,wd (y) 0]) (by simp only[tK,aiL];exact unB) (by rfl)).trans ?_;refine tI (uf (fN f) (nB a1 a0)=3) (by simp only[tK,u8A];exact Ou _ 3) (λh1=>?_) (λh1=>?_)
 ·refine tI (uf (fN f) (nB b1 b0)=3) (by simp only[tK,u8B];exact Ou _ 3) (λh2=>?_) (λh2=>?_)
  ·refine(tX (r:=[wd (xP (fN f) (sA != sB) (nB a1 a0) (nB b1 b0)) 1,wd (xP (fN f) (sA != sB) (nB a1 a0) (nB b1 b0)) 0,((yK (fN f) (sA != sB) (nB a1 a0) (nB b1 b0):Nat):Int),ui (wG (fN f) (sA != sB) (nB a1 a0) (nB b1 b0))]) (by simp only[tK,abV];exact pk _ _ (by first|rfl|(simp only[uE];rfl))) (by rfl)).trans ?_;refine tI (wG (fN f) (sA != sB) (nB a1 a0) (nB b1 b0)=true) (by simp only[tK];exact(Bool.decide_coe _).symm) (λh3=>?_) (λh3=>?_)
   ·rw[uj rfl];simp only[tK];rw[rP _ (aI h1 h2) h3];simp only[pkF8]
   ·refine(tX (r:=[wd (FP.mk (fN f) sA (FP.inf (fN f))) 1,wd (FP.mk (fN f) sA (FP.inf (fN f))) 0]) (by simp only[tK,abW];exact infE) (by rfl)).trans ?_;rw[uj rfl];simp only[tK];rw[rA _ (aI h1 h2) h3 h1];rfl
  ·refine(tX (r:=[wd (xP (fN f) false (nB a1 a0) (nB b1 b0)) 1,wd (xP (fN f) false (nB a1 a0) (nB b1 b0)) 0,((yK (fN f) false (nB a1 a0) (nB b1 b0):Nat):Int),ui (wG (fN f) false (nB a1 a0) (nB b1 b0))]) (by simp only[tK,abV];exact pk _ _ (by first|rfl|(simp only[uE];rfl))) (by rfl)).trans ?_;refine tI (wG (fN f) false (nB a1 a0) (nB b1 b0)=true) (by simp only[tK];exact(Bool.decide_coe _).symm) (λh4=>?_) (λh4=>?_)
   ·rw[uj rfl];simp only[tK];rw[rP _ (aN (by omega)) h4];simp only[pkF8]
   ·refine(tX (r:=[wd (FP.mk (fN f) sA (FP.inf (fN f))) 1,wd (FP.mk (fN f) sA (FP.inf (fN f))) 0]) (by simp only[tK,abW];exact infE) (by rfl)).trans ?_;rw[uj rfl];simp only[tK];rw[rA _ (aN (by omega)) h4 h1];rfl
 ·refine(tX (r:=[wd (xP (fN f) false (nB a1 a0) (nB b1 b0)) 1,wd (xP (fN f) false (nB a1 a0) (nB b1 b0)) 0,((yK (fN f) false (nB a1 a0) (nB b1 b0):Nat):Int),ui (wG (fN f) false (nB a1 a0) (nB b1 b0))]) (by simp only[tK,abV];exact pk _ _ (by first|rfl|(simp only[uE];rfl))) (by rfl)).trans ?_;refine tI (wG (fN f) false (nB a1 a0) (nB b1 b0)=true) (by simp only[tK];exact(Bool.decide_coe _).symm) (λh5=>?_) (λh5=>?_)
  ·rw[uj rfl];simp only[tK];rw[rP _ (aN (by omega)) h5];simp only[pkF8]
  ·refine tI (uf (fN f) (nB b1 b0)=3) (by simp only[tK,u8B];exact Ou _ 3) (λh6=>?_) (λh6=>?_)
   ·refine(tX (r:=[wd (FP.mk (fN f) sB (FP.inf (fN f))) 1,wd (FP.mk (fN f) sB (FP.inf (fN f))) 0]) (by simp only[tK,abW];exact infE) (by rfl)).trans ?_;rw[uj rfl];simp only[tK];rw[rB _ (aN (by omega)) h5 h1 h6];rfl
   ·refine tI (¬ sA=sB) (by simp only[tK];exact azY _ _) (λh7=>?_) (λh7=>?_)
    ·refine(tX (r:=[wd (X) 0,wd (X) 1,wd (X) 2,wd (X) 3]) (by simp only[tK,VW];exact joX) (by rfl)).trans ?_;refine(tX (r:=[wd (Y) 0,wd (Y) 1,wd (Y) 2,wd (Y) 3]) (by simp only[tK,VW];exact joY) (by rfl)).trans ?_;refine(tX (r:=[D.1,wd (D.2) 0,wd (D.2) 1,wd (D.2) 2,wd (D.2) 3,ui L]) (by simp only[tK,avL,iea,ieb];exact diE) (by rfl)).trans ?_;refine(tX (r:=[ui (decide (D.2=0))]) (by simp only[tK,aiM];exact Eu Dl) (by rfl)).trans ?_;refine tI (D.2=0) (by simp only[tK];try rfl) (λh8=>?_) (λh8=>?_)
     ·refine(tX (r:=[wd (FP.mk (fN f) N C.1) 1,wd (FP.mk (fN f) N C.1) 0,(C.2:Int)]) (by simp only[tK,VX];exact rnZ (fin h5 h1 h6) h7 h8) (by rfl)).trans ?_;rw[uj rfl];simp only[tK];rw[rF (fin h5 h1 h6),C8]
     ·refine(tX (r:=[wd (FP.mk (fN f) N C.1) 1,wd (FP.mk (fN f) N C.1) 0,(C.2:Int)]) (by simp only[tK,VX];exact rnD (fin h5 h1 h6) h7 h8) (by rfl)).trans ?_;rw[uj rfl];simp only[tK];rw[rF (fin h5 h1 h6),C8]
    ·refine(tX (r:=[wd (X) 0,wd (X) 1,wd (X) 2,wd (X) 3]) (by simp only[tK,VW];exact joX) (by rfl)).trans ?_;refine(tX (r:=[wd (Y) 0,wd (Y) 1,wd (Y) 2,wd (Y) 3]) (by simp only[tK,VW];exact joY) (by rfl)).trans ?_;refine(tX (r:=[U.1,wd (U.2) 0,wd (U.2) 1,wd (U.2) 2,wd (U.2) 3]) (by simp only[tK,avM,iea,ieb];exact suE) (by rfl)).trans ?_;refine(tX (r:=[ui (decide (U.2=0))]) (by simp only[tK,aiM];exact Eu Ul) (by rfl)).trans ?_;refine tI (U.2=0) (by simp only[tK];try rfl) (λh9=>?_) (λh9=>?_)
     ·refine(tX (r:=[wd (FP.mk (fN f) N C.1) 1,wd (FP.mk (fN f) N C.1) 0,(C.2:Int)]) (by simp only[tK,VX];exact rnU (fin h5 h1 h6) (Decidable.not_not.1 h7)) (by rfl)).trans ?_;rw[uj rfl];simp only[tK];rw[rF (fin h5 h1 h6),C8]
     ·refine(tX (r:=[wd (FP.mk (fN f) N C.1) 1,wd (FP.mk (fN f) N C.1) 0,(C.2:Int)]) (by simp only[tK,VX];exact rnU (fin h5 h1 h6) (Decidable.not_not.1 h7)) (by rfl)).trans ?_;rw[uj rfl];simp only[tK];rw[rF (fin h5 h1 h6),C8]
theorem az4 {F M T a1 a0 b1 b0:Int} {φ μ A B:Nat} {τ:Bool} (hF:fN F=φ) (hφ:φ<4) (hM:(u8 M).toNat=μ) (hM4:u8 M<=4) (hT:uk T=τ) (hA:nB a1 a0=A) (hB:nB b1 b0=B):LG [F,M,T,a1,a0,b1,b0] = [wd (CP φ μ τ A B).1 1,wd (CP φ μ τ A B).1 0,(((CP φ μ τ A B).2:Nat):Int)]:=by rw[az3 _ _ _ _ _ _ _ (by rw[hF];exact hφ) hM4,hF,hM,hT,hA,hB,VF]
end Go.Proofs.YtippohicjhilnaaGreatDoor
