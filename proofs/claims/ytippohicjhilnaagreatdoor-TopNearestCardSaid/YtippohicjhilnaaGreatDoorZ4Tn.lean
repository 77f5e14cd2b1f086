import Derived.Test.YtippohicjhilnaaGreatDoorWMTn
import Derived.Test.YtippohicjhilnaaGreatDoorZNTn
import Derived.Test.YtippohicjhilnaaGreatDoorZQTn
set_option linter.unusedSimpArgs false
set_option linter.unusedVariables false
set_option maxRecDepth 100000
set_option maxHeartbeats 800000
namespace Go.Proofs.YtippohicjhilnaaGreatDoor
open Go.RowKit
def yP (f:Nat) (j:Bool) (a b c:Nat):Nat:=if 4<=vT f a then yI f a else if 4<=vT f b then yI f b else if 4<=vT f c then yI f c else if j=true then zM f else 0
def Az (f:Nat) (j:Bool) (a b c:Nat):Nat:=if 4<=vT f a\/4<=vT f b\/4<=vT f c then(if j=true\/vT f a=5\/vT f b=5\/vT f c=5 then 1 else 0) else if j=true then 1 else 0
def yA (f:Nat) (j:Bool) (a b c:Nat):Bool:=decide (4<=vT f a)||(decide (4<=vT f b)||(decide (4<=vT f c)||j))
theorem aus (f:Nat) (j:Bool) (a b c:Nat):Az f j a b c<=1:=by unfold Az;split<;>split<;>decide
theorem aut (f i a1 a0 b1 b0 c1 c0:Int) (hf:fN f<4):LY [f,i,a1,a0,b1,b0,c1,c0] = [wd (yP (fN f) (ww i) (nB a1 a0) (nB b1 b0) (nB c1 c0)) 1,wd (yP (fN f) (ww i) (nB a1 a0) (nB b1 b0) (nB c1 c0)) 0,((Az (fN f) (ww i) (nB a1 a0) (nB b1 b0) (nB c1 c0):Nat):Int),wh (yA (fN f) (ww i) (nB a1 a0) (nB b1 b0) (nB c1 c0))]:=by
 rw[at0 _ _ _ _ _ _ _ _ hf];unfold yP Az yA;by_cases h1:4<=vT (fN f) (nB a1 a0)
 ·simp only[h1,if_true,decide_true,Bool.true_or,true_or];split<;>rfl
 ·by_cases h2:4<=vT (fN f) (nB b1 b0)
  ·simp only[h1,h2,if_true,if_false,decide_true,decide_false,Bool.true_or,Bool.false_or,or_true,true_or];split<;>rfl
  ·by_cases h3:4<=vT (fN f) (nB c1 c0)
   ·simp only[h1,h2,h3,if_true,if_false,decide_true,decide_false,Bool.true_or,Bool.false_or,or_true,true_or];split<;>rfl
   ·cases hi:ww i with
    | true=>simp only[h1,h2,h3,if_true,if_false,decide_false,Bool.false_or,or_self];rfl
    | false=>simp only[h1,h2,h3,if_false,decide_false,Bool.false_or,or_self,Bool.false_eq_true,acX];rfl
def xm (f a b c:Nat):Bool:=zf (vT f a) (vT f b)||(II f a b c && !yA f false a b c)
theorem auu {x y:Nat} (h:zf x y=true):x<=3/\y<=3:=by unfold zf at h;simp only[Bool.and_eq_true,Bool.or_eq_true,decide_eq_true_iff] at h;omega
theorem auv {f a b c:Nat} (h:zf (vT f a) (vT f b)=true):II f a b c=true:=by unfold II;rw[h,Bool.true_or]
theorem X0 {f a b c:Nat} {q:Bool} : yA f q a b c=true↔4<=vT f a\/4<=vT f b\/4<=vT f c\/q=true:=by unfold yA;simp only[Bool.or_eq_true,decide_eq_true_iff]
theorem auw {f a b c:Nat} (h:4<=vT f a\/4<=vT f b\/4<=vT f c):xm f a b c=zf (vT f a) (vT f b):=by unfold xm;have hp:yA f false a b c=true:=X0.2 (by rcases h with h|h|h<;>simp[h]);rw[hp];simp
theorem ajK {f a b c:Nat} (h:¬ (4<=vT f a\/4<=vT f b\/4<=vT f c)):xm f a b c=II f a b c:=by
 unfold xm
 have hp:yA f false a b c=false:=by rw[<- Bool.not_eq_true,X0];simp only[Bool.false_eq_true,or_false];exact h
 rw[hp]
 cases hb:zf (vT f a) (vT f b) with
 | true=>rw[auv hb];rfl
 | false=>simp
theorem aux {f a b c m:Nat} {after:Bool} (h:yA f (xm f a b c) a b c=true):Ho f m after a b c=(yP f (xm f a b c) a b c,Az f (xm f a b c) a b c):=by
 by_cases hn:4<=vT f a\/4<=vT f b\/4<=vT f c
 ·rw[auw hn];unfold Ho yP Az XT;rw[if_pos hn];by_cases h1:4<=vT f a
  ·rw[if_pos h1,if_pos h1]
  ·rw[if_neg h1,if_neg h1];by_cases h2:4<=vT f b
   ·rw[if_pos h2,if_pos h2]
   ·rw[if_neg h2,if_neg h2];have h3:4<=vT f c:=by rcases hn with h|h|h<;>first|exact absurd h h1|exact absurd h h2|exact h
    rw[if_pos h3,if_pos h3]
 ·rw[ajK hn] at h ⊢
  have hI:II f a b c=true:=by
   rw[X0] at h;rcases h with h|h|h|h
   ·exact absurd (.inl h) hn
   ·exact absurd (.inr (.inl h)) hn
   ·exact absurd (.inr (.inr h)) hn
   ·exact h
  rw[not_or,not_or] at hn;unfold Ho yP Az;rw[if_neg hn.1,if_neg hn.2.1,if_neg hn.2.2,if_pos hI,if_neg hn.1,if_neg hn.2.1,if_neg hn.2.2,if_pos hI,if_neg (by rw[not_or,not_or];exact hn),if_pos hI]
theorem X3 {f a b c m:Nat} {after:Bool} (h:¬ yA f (xm f a b c) a b c=true):Ho f m after a b c=(FP.mk f (Nw f m a b c) (IJ f m after a b c).1,(IJ f m after a b c).2)/\(¬ 4<=vT f a/\¬ 4<=vT f b/\¬ 4<=vT f c)/\II f a b c=false:=by
 rw[X0,not_or,not_or,not_or] at h;obtain⟨h1,h2,h3,h4⟩:=h;have hn:¬ (4<=vT f a\/4<=vT f b\/4<=vT f c):=by rw[not_or,not_or];exact⟨h1,h2,h3⟩
 rw[ajK hn] at h4;refine⟨?_,⟨h1,h2,h3⟩,Bool.not_eq_true _▸h4⟩;rw[atB m after h1 h2 h3,if_neg h4]
theorem auy {f a b:Nat} (hf:f<4) (ha:vT f a<3) (hb:vT f b<3) :
  FP.tpE f (FP.cod f a) (FP.cod f b)=(if (vT f a=1\/vT f a=2)/\(vT f b=1\/vT f b=2) then zL f a+zL f b+1 else 0) /\
  FP.tpS f (FP.cod f a) (FP.cod f b)=(if (vT f a=1\/vT f a=2)/\(vT f b=1\/vT f b=2) then AX f a*AX f b else 0):=by
 obtain⟨a1,a2,a3⟩:=IC hf ha;obtain⟨b1,b2,b3⟩:=IC hf hb;unfold FP.tpE FP.tpS zL AX;by_cases h0:vT f a=0\/vT f b=0
 ·have hz:FP.cod f a=0\/FP.cod f b=0:=by
   rcases h0 with h|h
   ·exact .inl (a2.1 h)
   ·exact .inr (b2.1 h)
  have hz2:¬ ((vT f a=1\/vT f a=2)/\(vT f b=1\/vT f b=2)):=by omega
  rw[if_pos hz,if_pos hz,if_neg hz2,if_neg hz2];exact⟨rfl,rfl⟩
 ·have hz:¬ (FP.cod f a=0\/FP.cod f b=0):=by
   intro h;rcases h with h|h
   ·exact h0 (.inl (a2.2 h))
   ·exact h0 (.inr (b2.2 h))
  have pa:vT f a=1\/vT f a=2:=by omega
  have pb:vT f b=1\/vT f b=2:=by omega
  simp only[hz,pa,pb,and_self,if_true,if_false]
theorem auz {x y:Nat} (hx:x<wy) (hy:y<wy):x*y<wG:=by rw[PU];exact Nat.mul_lt_mul'' hx hy
theorem ac0 {e:Int} (h : -17000<=e/\e<=17000):i64 e=e:=xG (by omega) (by omega)
theorem ajL {e:Int} (h : -40001<=e/\e<=40001):i64 e=e/\Fe e=e:=⟨xG (by omega) (by omega),ab9 (by omega) (by omega)⟩
theorem ajM (b:Bool):(!b)=decide (¬ b=true):=by cases b<;>rfl
theorem auA {a b:Int} (ha : -17000<=a/\a<=17000) (hb : -17000<=b/\b<=17000):i64 (i64 (a+b)+1)=a+b+1:=by rw[xG (n:=a+b) (by omega) (by omega),xG (by omega) (by omega)]
theorem auB:0<wG:=by decide
theorem auC {k:Nat} (h:k=0\/k=16\/k=20\/k=24):u8 (k:Int)=(k:Int):=F6 (by omega) (by omega)
theorem auD (f m t a1 a0 b1 b0 c1 c0:Int) (hf:fN f<4) (hm:u8 m<=4):Sb [f,m,t,a1,a0,b1,b0,c1,c0]=oR (Ho (fN f) (u8 m).toNat (ww t) (nB a1 a0) (nB b1 b0) (nB c1 c0)):=by
 have hf3:fN (u8 f)<4:=by rw[wz];exact hf
 have known:=XW hf;have knownm:=ajC hm;have sg:∀ x,DX (fN f) x=FP.sgn (fN f) x:=λx=>by unfold DX;rw[decide_eq_true hf,Bool.true_and]
 obtain⟨x,hx⟩:∃ x,x=AX (fN f) (nB a1 a0):=⟨_,rfl⟩;obtain⟨ea,hea⟩:∃ e,e=zL (fN f) (nB a1 a0):=⟨_,rfl⟩;obtain⟨sA,hsA⟩:∃ s,s=FP.sgn (fN f) (nB a1 a0):=⟨_,rfl⟩;have ra:=Lm (f:=fN f) (b:=nB a1 a0);rw[<- hea] at ra;have xl:x<wy:=by rw[hx];exact JL _ _
 have iea:i64 ea=ea:=(ac0 ra)
 have unA:Fu [u8 f,u64 a1,u64 a0] = [wh sA,((vT (fN f) (nB a1 a0):Nat):Int),ea,wd x 1,wd x 0]:=by rw[Nn,wz,wX,sg,wS,hx,hea,hsA];rfl
 have u8A:=F9 (fN f) (nB a1 a0);obtain⟨y,hy⟩:∃ x,x=AX (fN f) (nB b1 b0):=⟨_,rfl⟩;obtain⟨eb,heb⟩:∃ e,e=zL (fN f) (nB b1 b0):=⟨_,rfl⟩;obtain⟨sB,hsB⟩:∃ s,s=FP.sgn (fN f) (nB b1 b0):=⟨_,rfl⟩;have rb:=Lm (f:=fN f) (b:=nB b1 b0);rw[<- heb] at rb;have yl:y<wy:=by rw[hy];exact JL _ _
 have ieb:i64 eb=eb:=(ac0 rb)
 have unB:Fu [u8 f,u64 b1,u64 b0] = [wh sB,((vT (fN f) (nB b1 b0):Nat):Int),eb,wd y 1,wd y 0]:=by rw[Nn,wz,wX,sg,wS,hy,heb,hsB];rfl
 have u8B:=F9 (fN f) (nB b1 b0);obtain⟨z,hz'⟩:∃ x,x=AX (fN f) (nB c1 c0):=⟨_,rfl⟩;obtain⟨ec,hec⟩:∃ e,e=zL (fN f) (nB c1 c0):=⟨_,rfl⟩;obtain⟨sC,hsC⟩:∃ s,s=FP.sgn (fN f) (nB c1 c0):=⟨_,rfl⟩;have rc:=Lm (f:=fN f) (b:=nB c1 c0);rw[<- hec] at rc;have zl:z<wy:=by rw[hz'];exact JL _ _
 have iec:i64 ec=ec:=(ac0 rc)
 have unC:Fu [u8 f,u64 c1,u64 c0] = [wh sC,((vT (fN f) (nB c1 c0):Nat):Int),ec,wd z 1,wd z 0]:=by rw[Nn,wz,wX,sg,wS,hz',hec,hsC];rfl
 have u8C:=F9 (fN f) (nB c1 c0);obtain⟨sP,hsP⟩:∃ s:Bool,s=(sA != sB):=⟨_,rfl⟩;have nsP:(!(sA==sB))=sP:=by rw[hsP];rfl
 have pk:∀ (j:Int) (q:Bool),ww j=q->LY [u8 f,j,u64 a1,u64 a0,u64 b1,u64 b0,u64 c1,u64 c0] = [wd (yP (fN f) q (nB a1 a0) (nB b1 b0) (nB c1 c0)) 1,wd (yP (fN f) q (nB a1 a0) (nB b1 b0) (nB c1 c0)) 0,((Az (fN f) q (nB a1 a0) (nB b1 b0) (nB c1 c0):Nat):Int),wh (yA (fN f) q (nB a1 a0) (nB b1 b0) (nB c1 c0))]:=λj q hj=>by rw[aut _ _ _ _ _ _ _ _ hf3,wz,wX,wX,wX,hj]
 have infE:∀ {s:Bool},Gm [u8 f,wh s] = [wd (FP.mk (fN f) s (FP.inf (fN f))) 1,wd (FP.mk (fN f) s (FP.inf (fN f))) 0]:=λ{s}=>by rw[Xn,wz,if_pos hf,wP,wS]
 have JE:xm (fN f) (nB a1 a0) (nB b1 b0) (nB c1 c0)=(zf (vT (fN f) (nB a1 a0)) (vT (fN f) (nB b1 b0))||(((decide (vT (fN f) (nB a1 a0)=3)||decide (vT (fN f) (nB b1 b0)=3))&&(decide (vT (fN f) (nB c1 c0)=3)&&(sP != sC))) && !yA (fN f) false (nB a1 a0) (nB b1 b0) (nB c1 c0))):=by unfold xm II Gg;rw[<- hsA,<- hsB,<- hsC,<- hsP];cases zf (vT (fN f) (nB a1 a0)) (vT (fN f) (nB b1 b0))<;>simp
 have j1:zf (vT (fN f) (nB a1 a0)) (vT (fN f) (nB b1 b0))=true->ww 1=xm (fN f) (nB a1 a0) (nB b1 b0) (nB c1 c0):=λh=>by rw[JE,h];rfl
 have j0a:¬ zf (vT (fN f) (nB a1 a0)) (vT (fN f) (nB b1 b0))=true->¬ vT (fN f) (nB a1 a0)=3->¬ vT (fN f) (nB b1 b0)=3->ww 0=xm (fN f) (nB a1 a0) (nB b1 b0) (nB c1 c0):=λh h1 h2=>by rw[JE,Bool.eq_false_iff.2 h,decide_eq_false h1,decide_eq_false h2];rfl
 have j0c:¬ zf (vT (fN f) (nB a1 a0)) (vT (fN f) (nB b1 b0))=true->¬ vT (fN f) (nB c1 c0)=3->ww 0=xm (fN f) (nB a1 a0) (nB b1 b0) (nB c1 c0):=λh h1=>by rw[JE,Bool.eq_false_iff.2 h,decide_eq_false h1,Bool.false_and,Bool.and_false];rfl
 have j0n:¬ zf (vT (fN f) (nB a1 a0)) (vT (fN f) (nB b1 b0))=true->sP=sC->ww 0=xm (fN f) (nB a1 a0) (nB b1 b0) (nB c1 c0):=λh h1=>by rw[JE,Bool.eq_false_iff.2 h,h1,bne_self_eq_false,Bool.and_false,Bool.and_false];rfl
 have j2:¬ zf (vT (fN f) (nB a1 a0)) (vT (fN f) (nB b1 b0))=true->(vT (fN f) (nB a1 a0)=3\/vT (fN f) (nB b1 b0)=3)->vT (fN f) (nB c1 c0)=3->¬ sP=sC->ww (wh (!yA (fN f) false (nB a1 a0) (nB b1 b0) (nB c1 c0)))=xm (fN f) (nB a1 a0) (nB b1 b0) (nB c1 c0):=λh h1 h2 h3=>by
  have e1:(decide (vT (fN f) (nB a1 a0)=3)||decide (vT (fN f) (nB b1 b0)=3))=true:=by simpa using h1
  have e2:(sP != sC)=true:=by simpa using h3
  rw[JE,Bool.eq_false_iff.2 h,e1,e2,decide_eq_true h2,wP];rfl
 obtain⟨ep,hep⟩:∃ e:Int,e=(if (vT (fN f) (nB a1 a0)=1\/vT (fN f) (nB a1 a0)=2)/\(vT (fN f) (nB b1 b0)=1\/vT (fN f) (nB b1 b0)=2) then ea+eb+1 else 0):=⟨_,rfl⟩;obtain⟨P,hP⟩:∃ e:Nat,e=(if (vT (fN f) (nB a1 a0)=1\/vT (fN f) (nB a1 a0)=2)/\(vT (fN f) (nB b1 b0)=1\/vT (fN f) (nB b1 b0)=2) then x*y else 0):=⟨_,rfl⟩;have rp : -34001<=ep/\ep<=34001:=by rw[hep];split<;>omega
 have Pl:P<wG:=by
  rw[hP];split
  ·exact auz xl yl
  ·exact auB
 have tmE:JX [wh sA,((vT (fN f) (nB a1 a0):Nat):Int),ea,wd x 1,wd x 0,wh sB,((vT (fN f) (nB b1 b0):Nat):Int),eb,wd y 1,wd y 0] = [ep,wd P 0,wd P 1,wd P 2,wd P 3]:=by
  rw[aid,u8A,u8B,hep,hP,yH xl,yH yl];by_cases h:(vT (fN f) (nB a1 a0)=1\/vT (fN f) (nB a1 a0)=2)/\(vT (fN f) (nB b1 b0)=1\/vT (fN f) (nB b1 b0)=2)
  ·rw[if_pos h,if_pos h,if_pos (by omega),iea,ieb,auA ra rb,Al];rfl
  ·rw[if_neg h,if_neg h,if_neg (by omega)];simp only[acX]
 have baE:JS [wh sA,((vT (fN f) (nB a1 a0):Nat):Int),ea,wd x 1,wd x 0,wh sB,((vT (fN f) (nB b1 b0):Nat):Int),eb,wd y 1,wd y 0] = [wh (zf (vT (fN f) (nB a1 a0)) (vT (fN f) (nB b1 b0)))]:=by rw[aic,u8A,u8B,Int.toNat_natCast,Int.toNat_natCast]
 have iep:i64 ep=ep:=(ajL (by omega)).1;have iec':=iec;obtain⟨Z,hZ⟩:∃ Z,Z=z*wy:=⟨_,rfl⟩;have joZ:Gh [wd z 1,wd z 0,0,0] = [wd Z 0,wd Z 1,wd Z 2,wd Z 3]:=by rw[hZ];exact afi zl
 have Zl:Z<wG:=by rw[hZ];exact Uy zl
 have sp:A7 ep:=by unfold A7;omega
 have sc:A7 ec:=by unfold A7;omega
 have suE:=ajl sp sc Pl Zl;have diE:=ajo sp sc Pl Zl;have Ul0:=sum_lt (ea:=ep) (eb:=ec) Pl Zl;have Dl0:=ajn (ea:=ep) (eb:=ec) Pl Zl;obtain⟨ru,rd⟩:=am4 (ea:=ep) (eb:=ec) P Z (by omega) (by omega);rw[UL];generalize hR:Ho (fN f) (u8 m).toNat (ww t) (nB a1 a0) (nB b1 b0) (nB c1 c0)=R;have nab:¬ vT (fN f) (nB a1 a0)=3->¬ vT (fN f) (nB b1 b0)=3->¬ vT (fN f) (nB a1 a0)=3/\¬ vT (fN f) (nB b1 b0)=3:=λh1 h2=>⟨h1,h2⟩
 have rP:yA (fN f) (xm (fN f) (nB a1 a0) (nB b1 b0) (nB c1 c0)) (nB a1 a0) (nB b1 b0) (nB c1 c0)=true->R=(yP (fN f) (xm (fN f) (nB a1 a0) (nB b1 b0) (nB c1 c0)) (nB a1 a0) (nB b1 b0) (nB c1 c0),Az (fN f) (xm (fN f) (nB a1 a0) (nB b1 b0) (nB c1 c0)) (nB a1 a0) (nB b1 b0) (nB c1 c0)):=λh=>by rw[<- hR];exact aux h
 have rA:¬ yA (fN f) (xm (fN f) (nB a1 a0) (nB b1 b0) (nB c1 c0)) (nB a1 a0) (nB b1 b0) (nB c1 c0)=true->(vT (fN f) (nB a1 a0)=3\/vT (fN f) (nB b1 b0)=3)->R=(FP.mk (fN f) sP (FP.inf (fN f)),0):=λh h2=>by
  rw[<- hR,(X3 h).1];have hi:Gg (fN f) (nB a1 a0) (nB b1 b0)=true:=by unfold Gg;simpa using h2
  unfold Nw IJ;rw[if_pos hi,if_pos hi,hsP,hsA,hsB]
 have rC:¬ yA (fN f) (xm (fN f) (nB a1 a0) (nB b1 b0) (nB c1 c0)) (nB a1 a0) (nB b1 b0) (nB c1 c0)=true->(¬ vT (fN f) (nB a1 a0)=3/\¬ vT (fN f) (nB b1 b0)=3)->vT (fN f) (nB c1 c0)=3->R=(FP.mk (fN f) sC (FP.inf (fN f)),0):=λh h2 h3=>by
  rw[<- hR,(X3 h).1];have hi:¬ Gg (fN f) (nB a1 a0) (nB b1 b0)=true:=by unfold Gg;simpa using h2
  unfold Nw IJ;rw[if_neg hi,if_neg hi,if_pos h3,if_pos h3,hsC]
 have pkF8:∀ q:Bool,u8 ((Az (fN f) q (nB a1 a0) (nB b1 b0) (nB c1 c0):Nat):Int)=((Az (fN f) q (nB a1 a0) (nB b1 b0) (nB c1 c0):Nat):Int):=λq=>by have:=aus (fN f) q (nB a1 a0) (nB b1 b0) (nB c1 c0);exact F6 (by omega) (by omega)
 obtain⟨Gd,hGd⟩:∃ Gd:Prop,Gd=(vT (fN f) (nB a1 a0)<3/\vT (fN f) (nB b1 b0)<3/\vT (fN f) (nB c1 c0)<3):=⟨_,rfl⟩
 have fin:¬ yA (fN f) (xm (fN f) (nB a1 a0) (nB b1 b0) (nB c1 c0)) (nB a1 a0) (nB b1 b0) (nB c1 c0)=true->(¬ vT (fN f) (nB a1 a0)=3/\¬ vT (fN f) (nB b1 b0)=3)->¬ vT (fN f) (nB c1 c0)=3->Gd:=λh h1 h2=>by obtain⟨k1,k2,k3⟩:=(X3 (m:=0) (after:=false) h).2.1;rw[hGd];omega
 obtain⟨N,hN⟩:∃ N,N=FP.aDB (fN f) (u8 m).toNat sP sC (FP.cod (fN f) (nB a1 a0)) (FP.cod (fN f) (nB b1 b0)) (FP.cod (fN f) (nB c1 c0)):=⟨_,rfl⟩;obtain⟨C,hC⟩:∃ C,C=FP.aDK (fN f) (u8 m).toNat (ww t) sP sC (FP.cod (fN f) (nB a1 a0)) (FP.cod (fN f) (nB b1 b0)) (FP.cod (fN f) (nB c1 c0)):=⟨_,rfl⟩
 have C8:u8 (C.2:Int)=(C.2:Int):=by rw[hC];unfold FP.aDK;exact auC (FP.ak1 _ _ _ _ _ _ _)
 have rF:Gd->¬ yA (fN f) (xm (fN f) (nB a1 a0) (nB b1 b0) (nB c1 c0)) (nB a1 a0) (nB b1 b0) (nB c1 c0)=true->R=(FP.mk (fN f) N C.1,C.2):=λg h=>by
  rw[hGd] at g;rw[<- hR,(X3 h).1];have hi:¬ Gg (fN f) (nB a1 a0) (nB b1 b0)=true:=by unfold Gg;simp;omega
  have h3:¬ vT (fN f) (nB c1 c0)=3:=by omega
  unfold Nw IJ;rw[if_neg hi,if_neg hi,if_neg h3,if_neg h3,hN,hC,hsP,hsA,hsB,hsC]
 obtain⟨U,hU⟩:∃ U,U=FP.aCI ep P ec Z:=⟨_,rfl⟩;obtain⟨D,hD⟩:∃ D,D=Ea ep P ec Z:=⟨_,rfl⟩;obtain⟨L,hL⟩:∃ L,L=decide (FP.aCt ep P ec Z<0):=⟨_,rfl⟩;rw[<- hU] at suE ru Ul0;rw[<- hD,<- hL] at diE;rw[<- hD] at rd Dl0;have Ul:U.2<wG:=Ul0;have Dl:D.2<wG:=Dl0
 have rn:∀ (V:Int×Nat) (n:Bool),Gd->V.2<wG->(-40001<=V.1/\V.1<=40001)->V=FP.aCP sP sC ep P ec Z->(if V.2=0 then(if sP=sC then sP else decide ((u8 m).toNat=3)) else FP.aeY sP sC ep P ec Z)=n ->
   Dq [u8 f,u8 m,wh (ww t),wh (n),i64 V.1,wd V.2 0,wd V.2 1,wd V.2 2,wd V.2 3] = [wd (FP.mk (fN f) N C.1) 1,wd (FP.mk (fN f) N C.1) 0,(C.2:Int)]:=λV n g hV hr hz hn=>by
  rw[hGd] at g;obtain⟨t1,t2⟩:=auy hf g.1 g.2.1;obtain⟨t3,t4⟩:=afk hf g.2.2;obtain⟨k1,k2⟩:=FP.aDZ (m:=(u8 m).toNat) (after:=ww t) hf (IC hf g.1).1 (IC hf g.2.1).1 (IC hf g.2.2).1 sP sC;rw[t1,t2,t3,t4,<- hea,<- heb,<- hec,<- hx,<- hy,<- hz',<- hZ,<- hep,<- hP,<- hz] at k1 k2;rw[hn,<- hN] at k1;rw[<- hN,<- hC] at k2;obtain⟨z1,z2⟩:=ajL hr;rw[ab7 _ _ _ _ _ _ _ _ _ hf3 (by rw[Ak];exact hm),wz,Ak,wP,wP,xD,z1,z2,Ai hV,k1,k2,wS];rfl
 have rnU:Gd->sP=sC->Dq [u8 f,u8 m,wh (ww t),wh (sP),i64 U.1,wd U.2 0,wd U.2 1,wd U.2 2,wd U.2 3] = [wd (FP.mk (fN f) N C.1) 1,wd (FP.mk (fN f) N C.1) 0,(C.2:Int)]:=λg h=>by refine rn U sP g Ul ru (by rw[Ta,if_pos h,hU]) ?_;rw[if_pos h];unfold FP.aeY;rw[if_pos h];split<;>rfl
 have rnZ:Gd->¬ sP=sC->D.2=0->Dq [u8 f,u8 m,wh (ww t),wh (u8 m==3),i64 D.1,wd D.2 0,wd D.2 1,wd D.2 2,wd D.2 3] = [wd (FP.mk (fN f) N C.1) 1,wd (FP.mk (fN f) N C.1) 0,(C.2:Int)]:=λg h z=>by refine rn D _ g Dl rd (by rw[Ta,if_neg h,hD]) ?_;rw[if_pos z,if_neg h,am3]
 have rnD:Gd->¬ sP=sC->¬ D.2=0->Dq [u8 f,u8 m,wh (ww t),wh (!(sP==L)),i64 D.1,wd D.2 0,wd D.2 1,wd D.2 2,wd D.2 3] = [wd (FP.mk (fN f) N C.1) 1,wd (FP.mk (fN f) N C.1) 0,(C.2:Int)]:=λg h z=>by refine rn D _ g Dl rd (by rw[Ta,if_neg h,hD]) ?_;rw[if_neg z,am2 _ _ _ _ _ _ h,<- hL]
 clear rn hU hD hL;rw[Sb,ad6];refine tF (by simp only[vS];exact known) ?_;refine tF (by simp only[vS];exact knownm) ?_;refine(vX (r:=[wh sC,((vT (fN f) (nB c1 c0):Nat):Int),ec,wd (z) 1,wd (z) 0]) (by simp only[vS,UY];exact unC) (by rfl)).trans ?_;refine(vX (r:=[wh sA,((vT (fN f) (nB a1 a0):Nat):Int),ea,wd (x) 1,wd (x) 0]) (by simp only[vS,UY];exact unA) (by rfl)).trans ?_;refine(vX (r:=[wh sB,((vT (fN f) (nB b1 b0):Nat):Int),eb,wd (y) 1,wd (y) 0]) (by simp only[vS,UY];exact unB) (by rfl)).trans ?_;refine(vX (r:=[ep,wd (P) 0,wd (P) 1,wd (P) 2,wd (P) 3]) (by simp only[vS,axX,iea,ieb,u8A,u8B];exact tmE) (by rfl)).trans ?_;refine tI (vT (fN f) (nB a1 a0)=3) (by simp only[vS,u8A];exact JQ _ 3) (λh1=>?_) (λh1=>?_)
 ·refine(vX (r:=[wh (zf (vT (fN f) (nB a1 a0)) (vT (fN f) (nB b1 b0)))]) (by simp only[vS,akQ,iea,ieb,u8A,u8B];exact baE) (by rfl)).trans ?_;refine tI (¬ zf (vT (fN f) (nB a1 a0)) (vT (fN f) (nB b1 b0))=true) (by simp only[vS];exact ajM _) (λh2=>?_) (λh2=>?_)
  ·refine tI (vT (fN f) (nB c1 c0)=3) (by simp only[vS,u8C];exact JQ _ 3) (λh3=>?_) (λh3=>?_)
   ·refine tI (¬ sP=sC) (by simp only[vS];rw[nsP];exact Vu _ _) (λh4=>?_) (λh4=>?_)
    ·refine(vX (r:=[wd (yP (fN f) false (nB a1 a0) (nB b1 b0) (nB c1 c0)) 1,wd (yP (fN f) false (nB a1 a0) (nB b1 b0) (nB c1 c0)) 0,((Az (fN f) false (nB a1 a0) (nB b1 b0) (nB c1 c0):Nat):Int),wh (yA (fN f) false (nB a1 a0) (nB b1 b0) (nB c1 c0))]) (by simp only[vS,Gp];exact pk _ _ rfl) (by rfl)).trans ?_;refine(vX (r:=[wd (yP (fN f) (xm (fN f) (nB a1 a0) (nB b1 b0) (nB c1 c0)) (nB a1 a0) (nB b1 b0) (nB c1 c0)) 1,wd (yP (fN f) (xm (fN f) (nB a1 a0) (nB b1 b0) (nB c1 c0)) (nB a1 a0) (nB b1 b0) (nB c1 c0)) 0,((Az (fN f) (xm (fN f) (nB a1 a0) (nB b1 b0) (nB c1 c0)) (nB a1 a0) (nB b1 b0) (nB c1 c0):Nat):Int),wh (yA (fN f) (xm (fN f) (nB a1 a0) (nB b1 b0) (nB c1 c0)) (nB a1 a0) (nB b1 b0) (nB c1 c0))]) (by simp only[vS,Gp];exact pk _ _ (j2 h2 (.inl h1) h3 h4)) (by rfl)).trans ?_;refine tI (yA (fN f) (xm (fN f) (nB a1 a0) (nB b1 b0) (nB c1 c0)) (nB a1 a0) (nB b1 b0) (nB c1 c0)=true) (by simp only[vS];exact(Bool.decide_coe _).symm) (λh5=>?_) (λh5=>?_)
     ·rw[wu rfl];simp only[vS];rw[rP h5];simp only[pkF8]
     ·refine(vX (r:=[wd (FP.mk (fN f) sP (FP.inf (fN f))) 1,wd (FP.mk (fN f) sP (FP.inf (fN f))) 0]) (by simp only[vS,Fx];rw[nsP];exact infE) (by rfl)).trans ?_;rw[wu rfl];simp only[vS];rw[rA h5 (.inl h1)];rfl
    ·refine(vX (r:=[wd (yP (fN f) (xm (fN f) (nB a1 a0) (nB b1 b0) (nB c1 c0)) (nB a1 a0) (nB b1 b0) (nB c1 c0)) 1,wd (yP (fN f) (xm (fN f) (nB a1 a0) (nB b1 b0) (nB c1 c0)) (nB a1 a0) (nB b1 b0) (nB c1 c0)) 0,((Az (fN f) (xm (fN f) (nB a1 a0) (nB b1 b0) (nB c1 c0)) (nB a1 a0) (nB b1 b0) (nB c1 c0):Nat):Int),wh (yA (fN f) (xm (fN f) (nB a1 a0) (nB b1 b0) (nB c1 c0)) (nB a1 a0) (nB b1 b0) (nB c1 c0))]) (by simp only[vS,Gp];exact pk _ _ (j0n h2 (Decidable.not_not.1 h4))) (by rfl)).trans ?_;refine tI (yA (fN f) (xm (fN f) (nB a1 a0) (nB b1 b0) (nB c1 c0)) (nB a1 a0) (nB b1 b0) (nB c1 c0)=true) (by simp only[vS];exact(Bool.decide_coe _).symm) (λh6=>?_) (λh6=>?_)
     ·rw[wu rfl];simp only[vS];rw[rP h6];simp only[pkF8]
     ·refine(vX (r:=[wd (FP.mk (fN f) sP (FP.inf (fN f))) 1,wd (FP.mk (fN f) sP (FP.inf (fN f))) 0]) (by simp only[vS,Fx];rw[nsP];exact infE) (by rfl)).trans ?_;rw[wu rfl];simp only[vS];rw[rA h6 (.inl h1)];rfl
   ·refine(vX (r:=[wd (yP (fN f) (xm (fN f) (nB a1 a0) (nB b1 b0) (nB c1 c0)) (nB a1 a0) (nB b1 b0) (nB c1 c0)) 1,wd (yP (fN f) (xm (fN f) (nB a1 a0) (nB b1 b0) (nB c1 c0)) (nB a1 a0) (nB b1 b0) (nB c1 c0)) 0,((Az (fN f) (xm (fN f) (nB a1 a0) (nB b1 b0) (nB c1 c0)) (nB a1 a0) (nB b1 b0) (nB c1 c0):Nat):Int),wh (yA (fN f) (xm (fN f) (nB a1 a0) (nB b1 b0) (nB c1 c0)) (nB a1 a0) (nB b1 b0) (nB c1 c0))]) (by simp only[vS,Gp];exact pk _ _ (j0c h2 h3)) (by rfl)).trans ?_;refine tI (yA (fN f) (xm (fN f) (nB a1 a0) (nB b1 b0) (nB c1 c0)) (nB a1 a0) (nB b1 b0) (nB c1 c0)=true) (by simp only[vS];exact(Bool.decide_coe _).symm) (λh7=>?_) (λh7=>?_)
    ·rw[wu rfl];simp only[vS];rw[rP h7];simp only[pkF8]
    ·refine(vX (r:=[wd (FP.mk (fN f) sP (FP.inf (fN f))) 1,wd (FP.mk (fN f) sP (FP.inf (fN f))) 0]) (by simp only[vS,Fx];rw[nsP];exact infE) (by rfl)).trans ?_;rw[wu rfl];simp only[vS];rw[rA h7 (.inl h1)];rfl
  ·refine(vX (r:=[wd (yP (fN f) (xm (fN f) (nB a1 a0) (nB b1 b0) (nB c1 c0)) (nB a1 a0) (nB b1 b0) (nB c1 c0)) 1,wd (yP (fN f) (xm (fN f) (nB a1 a0) (nB b1 b0) (nB c1 c0)) (nB a1 a0) (nB b1 b0) (nB c1 c0)) 0,((Az (fN f) (xm (fN f) (nB a1 a0) (nB b1 b0) (nB c1 c0)) (nB a1 a0) (nB b1 b0) (nB c1 c0):Nat):Int),wh (yA (fN f) (xm (fN f) (nB a1 a0) (nB b1 b0) (nB c1 c0)) (nB a1 a0) (nB b1 b0) (nB c1 c0))]) (by simp only[vS,Gp];exact pk _ _ (j1 (Decidable.not_not.1 h2))) (by rfl)).trans ?_;refine tI (yA (fN f) (xm (fN f) (nB a1 a0) (nB b1 b0) (nB c1 c0)) (nB a1 a0) (nB b1 b0) (nB c1 c0)=true) (by simp only[vS];exact(Bool.decide_coe _).symm) (λh8=>?_) (λh8=>?_)
   ·rw[wu rfl];simp only[vS];rw[rP h8];simp only[pkF8]
   ·refine(vX (r:=[wd (FP.mk (fN f) sP (FP.inf (fN f))) 1,wd (FP.mk (fN f) sP (FP.inf (fN f))) 0]) (by simp only[vS,Fx];rw[nsP];exact infE) (by rfl)).trans ?_;rw[wu rfl];simp only[vS];rw[rA h8 (.inl h1)];rfl
 ·refine(vX (r:=[wh (zf (vT (fN f) (nB a1 a0)) (vT (fN f) (nB b1 b0)))]) (by simp only[vS,akQ,iea,ieb,u8A,u8B];exact baE) (by rfl)).trans ?_;refine tI (vT (fN f) (nB b1 b0)=3) (by simp only[vS,u8B];exact JQ _ 3) (λh9=>?_) (λh9=>?_)
  ·refine tI (¬ zf (vT (fN f) (nB a1 a0)) (vT (fN f) (nB b1 b0))=true) (by simp only[vS];exact ajM _) (λh10=>?_) (λh10=>?_)
   ·refine tI (vT (fN f) (nB c1 c0)=3) (by simp only[vS,u8C];exact JQ _ 3) (λh11=>?_) (λh11=>?_)
    ·refine tI (¬ sP=sC) (by simp only[vS];rw[nsP];exact Vu _ _) (λh12=>?_) (λh12=>?_)
     ·refine(vX (r:=[wd (yP (fN f) false (nB a1 a0) (nB b1 b0) (nB c1 c0)) 1,wd (yP (fN f) false (nB a1 a0) (nB b1 b0) (nB c1 c0)) 0,((Az (fN f) false (nB a1 a0) (nB b1 b0) (nB c1 c0):Nat):Int),wh (yA (fN f) false (nB a1 a0) (nB b1 b0) (nB c1 c0))]) (by simp only[vS,Gp];exact pk _ _ rfl) (by rfl)).trans ?_;refine(vX (r:=[wd (yP (fN f) (xm (fN f) (nB a1 a0) (nB b1 b0) (nB c1 c0)) (nB a1 a0) (nB b1 b0) (nB c1 c0)) 1,wd (yP (fN f) (xm (fN f) (nB a1 a0) (nB b1 b0) (nB c1 c0)) (nB a1 a0) (nB b1 b0) (nB c1 c0)) 0,((Az (fN f) (xm (fN f) (nB a1 a0) (nB b1 b0) (nB c1 c0)) (nB a1 a0) (nB b1 b0) (nB c1 c0):Nat):Int),wh (yA (fN f) (xm (fN f) (nB a1 a0) (nB b1 b0) (nB c1 c0)) (nB a1 a0) (nB b1 b0) (nB c1 c0))]) (by simp only[vS,Gp];exact pk _ _ (j2 h10 (.inr h9) h11 h12)) (by rfl)).trans ?_;refine tI (yA (fN f) (xm (fN f) (nB a1 a0) (nB b1 b0) (nB c1 c0)) (nB a1 a0) (nB b1 b0) (nB c1 c0)=true) (by simp only[vS];exact(Bool.decide_coe _).symm) (λh13=>?_) (λh13=>?_)
      ·rw[wu rfl];simp only[vS];rw[rP h13];simp only[pkF8]
      ·refine(vX (r:=[wd (FP.mk (fN f) sP (FP.inf (fN f))) 1,wd (FP.mk (fN f) sP (FP.inf (fN f))) 0]) (by simp only[vS,Fx];rw[nsP];exact infE) (by rfl)).trans ?_;rw[wu rfl];simp only[vS];rw[rA h13 (.inr h9)];rfl
     ·refine(vX (r:=[wd (yP (fN f) (xm (fN f) (nB a1 a0) (nB b1 b0) (nB c1 c0)) (nB a1 a0) (nB b1 b0) (nB c1 c0)) 1,wd (yP (fN f) (xm (fN f) (nB a1 a0) (nB b1 b0) (nB c1 c0)) (nB a1 a0) (nB b1 b0) (nB c1 c0)) 0,((Az (fN f) (xm (fN f) (nB a1 a0) (nB b1 b0) (nB c1 c0)) (nB a1 a0) (nB b1 b0) (nB c1 c0):Nat):Int),wh (yA (fN f) (xm (fN f) (nB a1 a0) (nB b1 b0) (nB c1 c0)) (nB a1 a0) (nB b1 b0) (nB c1 c0))]) (by simp only[vS,Gp];exact pk _ _ (j0n h10 (Decidable.not_not.1 h12))) (by rfl)).trans ?_;refine tI (yA (fN f) (xm (fN f) (nB a1 a0) (nB b1 b0) (nB c1 c0)) (nB a1 a0) (nB b1 b0) (nB c1 c0)=true) (by simp only[vS];exact(Bool.decide_coe _).symm) (λh14=>?_) (λh14=>?_)
      ·rw[wu rfl];simp only[vS];rw[rP h14];simp only[pkF8]
      ·refine(vX (r:=[wd (FP.mk (fN f) sP (FP.inf (fN f))) 1,wd (FP.mk (fN f) sP (FP.inf (fN f))) 0]) (by simp only[vS,Fx];rw[nsP];exact infE) (by rfl)).trans ?_;rw[wu rfl];simp only[vS];rw[rA h14 (.inr h9)];rfl
    ·refine(vX (r:=[wd (yP (fN f) (xm (fN f) (nB a1 a0) (nB b1 b0) (nB c1 c0)) (nB a1 a0) (nB b1 b0) (nB c1 c0)) 1,wd (yP (fN f) (xm (fN f) (nB a1 a0) (nB b1 b0) (nB c1 c0)) (nB a1 a0) (nB b1 b0) (nB c1 c0)) 0,((Az (fN f) (xm (fN f) (nB a1 a0) (nB b1 b0) (nB c1 c0)) (nB a1 a0) (nB b1 b0) (nB c1 c0):Nat):Int),wh (yA (fN f) (xm (fN f) (nB a1 a0) (nB b1 b0) (nB c1 c0)) (nB a1 a0) (nB b1 b0) (nB c1 c0))]) (by simp only[vS,Gp];exact pk _ _ (j0c h10 h11)) (by rfl)).trans ?_;refine tI (yA (fN f) (xm (fN f) (nB a1 a0) (nB b1 b0) (nB c1 c0)) (nB a1 a0) (nB b1 b0) (nB c1 c0)=true) (by simp only[vS];exact(Bool.decide_coe _).symm) (λh15=>?_) (λh15=>?_)
     ·rw[wu rfl];simp only[vS];rw[rP h15];simp only[pkF8]
     ·refine(vX (r:=[wd (FP.mk (fN f) sP (FP.inf (fN f))) 1,wd (FP.mk (fN f) sP (FP.inf (fN f))) 0]) (by simp only[vS,Fx];rw[nsP];exact infE) (by rfl)).trans ?_;rw[wu rfl];simp only[vS];rw[rA h15 (.inr h9)];rfl
   ·refine(vX (r:=[wd (yP (fN f) (xm (fN f) (nB a1 a0) (nB b1 b0) (nB c1 c0)) (nB a1 a0) (nB b1 b0) (nB c1 c0)) 1,wd (yP (fN f) (xm (fN f) (nB a1 a0) (nB b1 b0) (nB c1 c0)) (nB a1 a0) (nB b1 b0) (nB c1 c0)) 0,((Az (fN f) (xm (fN f) (nB a1 a0) (nB b1 b0) (nB c1 c0)) (nB a1 a0) (nB b1 b0) (nB c1 c0):Nat):Int),wh (yA (fN f) (xm (fN f) (nB a1 a0) (nB b1 b0) (nB c1 c0)) (nB a1 a0) (nB b1 b0) (nB c1 c0))]) (by simp only[vS,Gp];exact pk _ _ (j1 (Decidable.not_not.1 h10))) (by rfl)).trans ?_;refine tI (yA (fN f) (xm (fN f) (nB a1 a0) (nB b1 b0) (nB c1 c0)) (nB a1 a0) (nB b1 b0) (nB c1 c0)=true) (by simp only[vS];exact(Bool.decide_coe _).symm) (λh16=>?_) (λh16=>?_)
    ·rw[wu rfl];simp only[vS];rw[rP h16];simp only[pkF8]
    ·refine(vX (r:=[wd (FP.mk (fN f) sP (FP.inf (fN f))) 1,wd (FP.mk (fN f) sP (FP.inf (fN f))) 0]) (by simp only[vS,Fx];rw[nsP];exact infE) (by rfl)).trans ?_;rw[wu rfl];simp only[vS];rw[rA h16 (.inr h9)];rfl
  ·refine tI (zf (vT (fN f) (nB a1 a0)) (vT (fN f) (nB b1 b0))=true) (by simp only[vS];exact(Bool.decide_coe _).symm) (λh17=>?_) (λh17=>?_)
   ·refine(vX (r:=[wd (yP (fN f) (xm (fN f) (nB a1 a0) (nB b1 b0) (nB c1 c0)) (nB a1 a0) (nB b1 b0) (nB c1 c0)) 1,wd (yP (fN f) (xm (fN f) (nB a1 a0) (nB b1 b0) (nB c1 c0)) (nB a1 a0) (nB b1 b0) (nB c1 c0)) 0,((Az (fN f) (xm (fN f) (nB a1 a0) (nB b1 b0) (nB c1 c0)) (nB a1 a0) (nB b1 b0) (nB c1 c0):Nat):Int),wh (yA (fN f) (xm (fN f) (nB a1 a0) (nB b1 b0) (nB c1 c0)) (nB a1 a0) (nB b1 b0) (nB c1 c0))]) (by simp only[vS,Gp];exact pk _ _ (j1 h17)) (by rfl)).trans ?_;refine tI (yA (fN f) (xm (fN f) (nB a1 a0) (nB b1 b0) (nB c1 c0)) (nB a1 a0) (nB b1 b0) (nB c1 c0)=true) (by simp only[vS];exact(Bool.decide_coe _).symm) (λh18=>?_) (λh18=>?_)
    ·rw[wu rfl];simp only[vS];rw[rP h18];simp only[pkF8]
    ·refine tI (vT (fN f) (nB c1 c0)=3) (by simp only[vS,u8C];exact JQ _ 3) (λh19=>?_) (λh19=>?_)
     ·refine(vX (r:=[wd (FP.mk (fN f) sC (FP.inf (fN f))) 1,wd (FP.mk (fN f) sC (FP.inf (fN f))) 0]) (by simp only[vS,Fx];exact infE) (by rfl)).trans ?_;rw[wu rfl];simp only[vS];rw[rC h18 (nab h1 h9) h19];rfl
     ·refine(vX (r:=[wd (Z) 0,wd (Z) 1,wd (Z) 2,wd (Z) 3]) (by simp only[vS,Ma];exact joZ) (by rfl)).trans ?_;refine(vX (r:=[U.1,wd (U.2) 0,wd (U.2) 1,wd (U.2) 2,wd (U.2) 3]) (by simp only[vS,ad9,iep,iec];exact suE) (by rfl)).trans ?_;refine tI (¬ sP=sC) (by simp only[vS];rw[nsP];exact Vu _ _) (λh20=>?_) (λh20=>?_)
      ·refine(vX (r:=[wd (Z) 0,wd (Z) 1,wd (Z) 2,wd (Z) 3]) (by simp only[vS,Ma];exact joZ) (by rfl)).trans ?_;refine(vX (r:=[D.1,wd (D.2) 0,wd (D.2) 1,wd (D.2) 2,wd (D.2) 3,wh L]) (by simp only[vS,ad8,iep,iec];exact diE) (by rfl)).trans ?_;refine(vX (r:=[wh (decide (D.2=0))]) (by simp only[vS,Sd];exact LM Dl) (by rfl)).trans ?_;refine tI (D.2=0) (by simp only[vS];try rfl) (λh21=>?_) (λh21=>?_)
       ·refine(vX (r:=[wd (FP.mk (fN f) N C.1) 1,wd (FP.mk (fN f) N C.1) 0,(C.2:Int)]) (by simp only[vS,Gn,nsP];exact rnZ (fin h18 (nab h1 h9) h19) h20 h21) (by rfl)).trans ?_;rw[wu rfl];simp only[vS];rw[rF (fin h18 (nab h1 h9) h19) h18,C8]
       ·refine(vX (r:=[wd (FP.mk (fN f) N C.1) 1,wd (FP.mk (fN f) N C.1) 0,(C.2:Int)]) (by simp only[vS,Gn,nsP];exact rnD (fin h18 (nab h1 h9) h19) h20 h21) (by rfl)).trans ?_;rw[wu rfl];simp only[vS];rw[rF (fin h18 (nab h1 h9) h19) h18,C8]
      ·refine(vX (r:=[wh (decide (U.2=0))]) (by simp only[vS,Sd];exact LM Ul) (by rfl)).trans ?_;refine tI (U.2=0) (by simp only[vS];try rfl) (λh22=>?_) (λh22=>?_)
       ·refine(vX (r:=[wd (FP.mk (fN f) N C.1) 1,wd (FP.mk (fN f) N C.1) 0,(C.2:Int)]) (by simp only[vS,Gn,nsP];exact rnU (fin h18 (nab h1 h9) h19) (Decidable.not_not.1 h20)) (by rfl)).trans ?_;rw[wu rfl];simp only[vS];rw[rF (fin h18 (nab h1 h9) h19) h18,C8]
       ·refine(vX (r:=[wd (FP.mk (fN f) N C.1) 1,wd (FP.mk (fN f) N C.1) 0,(C.2:Int)]) (by simp only[vS,Gn,nsP];exact rnU (fin h18 (nab h1 h9) h19) (Decidable.not_not.1 h20)) (by rfl)).trans ?_;rw[wu rfl];simp only[vS];rw[rF (fin h18 (nab h1 h9) h19) h18,C8]
   ·refine(vX (r:=[wd (yP (fN f) (xm (fN f) (nB a1 a0) (nB b1 b0) (nB c1 c0)) (nB a1 a0) (nB b1 b0) (nB c1 c0)) 1,wd (yP (fN f) (xm (fN f) (nB a1 a0) (nB b1 b0) (nB c1 c0)) (nB a1 a0) (nB b1 b0) (nB c1 c0)) 0,((Az (fN f) (xm (fN f) (nB a1 a0) (nB b1 b0) (nB c1 c0)) (nB a1 a0) (nB b1 b0) (nB c1 c0):Nat):Int),wh (yA (fN f) (xm (fN f) (nB a1 a0) (nB b1 b0) (nB c1 c0)) (nB a1 a0) (nB b1 b0) (nB c1 c0))]) (by simp only[vS,Gp];exact pk _ _ (j0a h17 h1 h9)) (by rfl)).trans ?_;refine tI (yA (fN f) (xm (fN f) (nB a1 a0) (nB b1 b0) (nB c1 c0)) (nB a1 a0) (nB b1 b0) (nB c1 c0)=true) (by simp only[vS];exact(Bool.decide_coe _).symm) (λh23=>?_) (λh23=>?_)
    ·rw[wu rfl];simp only[vS];rw[rP h23];simp only[pkF8]
    ·refine tI (vT (fN f) (nB c1 c0)=3) (by simp only[vS,u8C];exact JQ _ 3) (λh24=>?_) (λh24=>?_)
     ·refine(vX (r:=[wd (FP.mk (fN f) sC (FP.inf (fN f))) 1,wd (FP.mk (fN f) sC (FP.inf (fN f))) 0]) (by simp only[vS,Fx];exact infE) (by rfl)).trans ?_;rw[wu rfl];simp only[vS];rw[rC h23 (nab h1 h9) h24];rfl
     ·refine(vX (r:=[wd (Z) 0,wd (Z) 1,wd (Z) 2,wd (Z) 3]) (by simp only[vS,Ma];exact joZ) (by rfl)).trans ?_;refine(vX (r:=[U.1,wd (U.2) 0,wd (U.2) 1,wd (U.2) 2,wd (U.2) 3]) (by simp only[vS,ad9,iep,iec];exact suE) (by rfl)).trans ?_;refine tI (¬ sP=sC) (by simp only[vS];rw[nsP];exact Vu _ _) (λh25=>?_) (λh25=>?_)
      ·refine(vX (r:=[wd (Z) 0,wd (Z) 1,wd (Z) 2,wd (Z) 3]) (by simp only[vS,Ma];exact joZ) (by rfl)).trans ?_;refine(vX (r:=[D.1,wd (D.2) 0,wd (D.2) 1,wd (D.2) 2,wd (D.2) 3,wh L]) (by simp only[vS,ad8,iep,iec];exact diE) (by rfl)).trans ?_;refine(vX (r:=[wh (decide (D.2=0))]) (by simp only[vS,Sd];exact LM Dl) (by rfl)).trans ?_;refine tI (D.2=0) (by simp only[vS];try rfl) (λh26=>?_) (λh26=>?_)
       ·refine(vX (r:=[wd (FP.mk (fN f) N C.1) 1,wd (FP.mk (fN f) N C.1) 0,(C.2:Int)]) (by simp only[vS,Gn,nsP];exact rnZ (fin h23 (nab h1 h9) h24) h25 h26) (by rfl)).trans ?_;rw[wu rfl];simp only[vS];rw[rF (fin h23 (nab h1 h9) h24) h23,C8]
       ·refine(vX (r:=[wd (FP.mk (fN f) N C.1) 1,wd (FP.mk (fN f) N C.1) 0,(C.2:Int)]) (by simp only[vS,Gn,nsP];exact rnD (fin h23 (nab h1 h9) h24) h25 h26) (by rfl)).trans ?_;rw[wu rfl];simp only[vS];rw[rF (fin h23 (nab h1 h9) h24) h23,C8]
      ·refine(vX (r:=[wh (decide (U.2=0))]) (by simp only[vS,Sd];exact LM Ul) (by rfl)).trans ?_;refine tI (U.2=0) (by simp only[vS];try rfl) (λh27=>?_) (λh27=>?_)
       ·refine(vX (r:=[wd (FP.mk (fN f) N C.1) 1,wd (FP.mk (fN f) N C.1) 0,(C.2:Int)]) (by simp only[vS,Gn,nsP];exact rnU (fin h23 (nab h1 h9) h24) (Decidable.not_not.1 h25)) (by rfl)).trans ?_;rw[wu rfl];simp only[vS];rw[rF (fin h23 (nab h1 h9) h24) h23,C8]
       ·refine(vX (r:=[wd (FP.mk (fN f) N C.1) 1,wd (FP.mk (fN f) N C.1) 0,(C.2:Int)]) (by simp only[vS,Gn,nsP];exact rnU (fin h23 (nab h1 h9) h24) (Decidable.not_not.1 h25)) (by rfl)).trans ?_;rw[wu rfl];simp only[vS];rw[rF (fin h23 (nab h1 h9) h24) h23,C8]
end Go.Proofs.YtippohicjhilnaaGreatDoor
