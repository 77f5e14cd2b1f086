import Derived.Test.YtemomocmfggiaaaGreatDoorZ1U6
import Derived.Test.YtemomocmfggiaaaGreatDoorZGU6
import Derived.Test.YtemomocmfggiaaaGreatDoorZNU6
import Derived.Test.YtemomocmfggiaaaGreatDoorZQU6
import Derived.Test.YtemomocmfggiaaaGreatDoorP27U6
import Derived.Test.YtemomocmfggiaaaGreatDoorP19aU6
import Derived.Test.YtemomocmfggiaaaGreatDoorH1U6
set_option linter.unusedSimpArgs false
set_option linter.unusedVariables false
set_option maxRecDepth 100000
set_option maxHeartbeats 800000
namespace Go.Proofs.YtemomocmfggiaaaGreatDoor
open Go.RowKit
def yD (f:Nat) (j:Bool) (a b c:Nat):Nat:=if 4≤uZ f a then xz f a else if 4≤uZ f b then xz f b else if 4≤uZ f c then xz f c else if j=true then dfl f else 0
def zZ (f:Nat) (j:Bool) (a b c:Nat):Nat:=if 4≤uZ f a∨4≤uZ f b∨4≤uZ f c then(if j=true∨uZ f a=5∨uZ f b=5∨uZ f c=5 then 1 else 0) else if j=true then 1 else 0
def xY (f:Nat) (j:Bool) (a b c:Nat):Bool:=decide (4≤uZ f a)||(decide (4≤uZ f b)||(decide (4≤uZ f c)||j))
theorem asr (f:Nat) (j:Bool) (a b c:Nat):zZ f j a b c≤1:=by unfold zZ;split<;>split<;>decide
theorem ass (f i a1 a0 b1 b0 c1 c0:Int) (hf:fN f<4):Kc [f,i,a1,a0,b1,b0,c1,c0] = [wd (yD (fN f) (vG i) (nB a1 a0) (nB b1 b0) (nB c1 c0)) 1,wd (yD (fN f) (vG i) (nB a1 a0) (nB b1 b0) (nB c1 c0)) 0,((zZ (fN f) (vG i) (nB a1 a0) (nB b1 b0) (nB c1 c0):Nat):Int),vw (xY (fN f) (vG i) (nB a1 a0) (nB b1 b0) (nB c1 c0))]:=by
 rw[arv _ _ _ _ _ _ _ _ hf]
 unfold yD zZ xY
 by_cases h1:4≤uZ (fN f) (nB a1 a0)
 ·simp only[h1,if_true,decide_true,Bool.true_or,true_or]
  split<;>rfl
 ·by_cases h2:4≤uZ (fN f) (nB b1 b0)
  ·simp only[h1,h2,if_true,if_false,decide_true,decide_false,Bool.true_or,Bool.false_or,or_true,true_or]
   split<;>rfl
  ·by_cases h3:4≤uZ (fN f) (nB c1 c0)
   ·simp only[h1,h2,h3,if_true,if_false,decide_true,decide_false,Bool.true_or,Bool.false_or,or_true,true_or]
    split<;>rfl
   ·cases hi:vG i with
    | true=>simp only[h1,h2,h3,if_true,if_false,decide_false,Bool.false_or,or_self];rfl
    | false=>simp only[h1,h2,h3,if_false,decide_false,Bool.false_or,or_self,Bool.false_eq_true,UY];rfl
def wK (f a b c:Nat):Bool:=zt (uZ f a) (uZ f b)||(IK f a b c && !xY f false a b c)
theorem ast {f a b c:Nat} (h:zt (uZ f a) (uZ f b)=true):IK f a b c=true:=by unfold IK;rw[h,Bool.true_or]
theorem Va {f a b c:Nat} {q:Bool} : xY f q a b c=true↔4≤uZ f a∨4≤uZ f b∨4≤uZ f c∨q=true:=by
 unfold xY;simp only[Bool.or_eq_true,decide_eq_true_iff]
theorem asu {f a b c:Nat} (h:4≤uZ f a∨4≤uZ f b∨4≤uZ f c):wK f a b c=zt (uZ f a) (uZ f b):=by
 unfold wK
 have hp:xY f false a b c=true:=Va.2 (by rcases h with h|h|h<;>simp[h])
 rw[hp];simp
theorem agG {f a b c:Nat} (h:¬ (4≤uZ f a∨4≤uZ f b∨4≤uZ f c)):wK f a b c=IK f a b c:=by
 unfold wK
 have hp:xY f false a b c=false:=by
  rw[← Bool.not_eq_true,Va]
  simp only[Bool.false_eq_true,or_false];exact h
 rw[hp]
 cases hb:zt (uZ f a) (uZ f b) with
 | true=>rw[ast hb];rfl
 | false=>simp
theorem asv {f a b c m:Nat} {after:Bool} (h:xY f (wK f a b c) a b c=true):C9 f m after a b c=(yD f (wK f a b c) a b c,zZ f (wK f a b c) a b c):=by
 by_cases hn:4≤uZ f a∨4≤uZ f b∨4≤uZ f c
 ·rw[asu hn]
  unfold C9 yD zZ GL
  rw[if_pos hn]
  by_cases h1:4≤uZ f a
  ·rw[if_pos h1,if_pos h1]
  ·rw[if_neg h1,if_neg h1]
   by_cases h2:4≤uZ f b
   ·rw[if_pos h2,if_pos h2]
   ·rw[if_neg h2,if_neg h2]
    have h3:4≤uZ f c:=by rcases hn with h|h|h<;>first|exact absurd h h1|exact absurd h h2|exact h
    rw[if_pos h3,if_pos h3]
 ·rw[agG hn] at h ⊢
  have hI:IK f a b c=true:=by
   rw[Va] at h
   rcases h with h|h|h|h
   ·exact absurd (.inl h) hn
   ·exact absurd (.inr (.inl h)) hn
   ·exact absurd (.inr (.inr h)) hn
   ·exact h
  rw[not_or,not_or] at hn
  unfold C9 yD zZ
  rw[if_neg hn.1,if_neg hn.2.1,if_neg hn.2.2,if_pos hI,if_neg hn.1,if_neg hn.2.1,if_neg hn.2.2,if_pos hI,if_neg (by rw[not_or,not_or];exact hn),if_pos hI]
theorem Vb {f a b c m:Nat} {after:Bool} (h:¬ xY f (wK f a b c) a b c=true):C9 f m after a b c=(FP.mk f (O7 f m a b c) (GM f m after a b c).1,(GM f m after a b c).2)∧(¬ 4≤uZ f a∧¬ 4≤uZ f b∧¬ 4≤uZ f c)∧IK f a b c=false:=by
 rw[Va,not_or,not_or,not_or] at h
 obtain⟨h1,h2,h3,h4⟩:=h
 have hn:¬ (4≤uZ f a∨4≤uZ f b∨4≤uZ f c):=by rw[not_or,not_or];exact⟨h1,h2,h3⟩
 rw[agG hn] at h4
 refine⟨?_,⟨h1,h2,h3⟩,Bool.not_eq_true _▸h4⟩
 rw[aqr m after h1 h2 h3,if_neg h4]
theorem asw {f a b:Nat} (hf:f<4) (ha:uZ f a<3) (hb:uZ f b<3) :
  FP.tpE f (FP.cod f a) (FP.cod f b)=(if (uZ f a=1∨uZ f a=2)∧(uZ f b=1∨uZ f b=2) then vQ f a+vQ f b+1 else 0) ∧
  FP.tpS f (FP.cod f a) (FP.cod f b)=(if (uZ f a=1∨uZ f a=2)∧(uZ f b=1∨uZ f b=2) then wu f a*wu f b else 0):=by
 obtain⟨a1,a2,a3⟩:=Bw hf ha
 obtain⟨b1,b2,b3⟩:=Bw hf hb
 unfold FP.tpE FP.tpS vQ wu
 by_cases h0:uZ f a=0∨uZ f b=0
 ·have hz:FP.cod f a=0∨FP.cod f b=0:=by
   rcases h0 with h|h
   ·exact .inl (a2.1 h)
   ·exact .inr (b2.1 h)
  have hz2:¬ ((uZ f a=1∨uZ f a=2)∧(uZ f b=1∨uZ f b=2)):=by omega
  rw[if_pos hz,if_pos hz,if_neg hz2,if_neg hz2];exact⟨rfl,rfl⟩
 ·have hz:¬ (FP.cod f a=0∨FP.cod f b=0):=by
   intro h
   rcases h with h|h
   ·exact h0 (.inl (a2.2 h))
   ·exact h0 (.inr (b2.2 h))
  have pa:uZ f a=1∨uZ f a=2:=by omega
  have pb:uZ f b=1∨uZ f b=2:=by omega
  simp only[hz,pa,pb,and_self,if_true,if_false]
theorem asx {x y:Nat} (hx:x<vF) (hy:y<vF):x*y<vL:=by rw[Lm];exact Nat.mul_lt_mul'' hx hy
open Go.RowKit
theorem aaM {e:Int} (h : -17000≤e∧e≤17000):i64 e=e:=wL (by omega) (by omega)
theorem agH {e:Int} (h : -40001≤e∧e≤40001):i64 e=e∧Bu e=e:=⟨wL (by omega) (by omega),Lt (by omega) (by omega)⟩
theorem agI (b:Bool):(!b)=decide (¬ b=true):=by cases b<;>rfl
theorem asy {a b:Int} (ha : -17000≤a∧a≤17000) (hb : -17000≤b∧b≤17000):i64 (i64 (a+b)+1)=a+b+1:=by rw[wL (n:=a+b) (by omega) (by omega),wL (by omega) (by omega)]
theorem asz:0<vL:=by decide
theorem IU {k:Nat} (h:k=0∨k=16∨k=20∨k=24):u8 (k:Int)=(k:Int):=BP (by omega) (by omega)
theorem asA (f m t a1 a0 b1 b0 c1 c0:Int) (hf:fN f<4) (hm:u8 m≤4):O4 [f,m,t,a1,a0,b1,b0,c1,c0]=oR (C9 (fN f) (u8 m).toNat (vG t) (nB a1 a0) (nB b1 b0) (nB c1 c0)):=by
 have hf3:fN (u8 f)<4:=by rw[vH];exact hf
 have known:=Db hf
 have knownm:=LG hm
 have sg:∀ x,yU (fN f) x=FP.sgn (fN f) x:=fun x=>by unfold yU;rw[decide_eq_true hf,Bool.true_and]
 obtain⟨x,hx⟩:∃ x,x=wu (fN f) (nB a1 a0):=⟨_,rfl⟩
 obtain⟨ea,hea⟩:∃ e,e=vQ (fN f) (nB a1 a0):=⟨_,rfl⟩
 obtain⟨sA,hsA⟩:∃ s,s=FP.sgn (fN f) (nB a1 a0):=⟨_,rfl⟩
 have ra:=yJ (f:=fN f) (b:=nB a1 a0)
 rw[← hea] at ra
 have xl:x<vF:=by rw[hx];exact zL _ _
 have iea:i64 ea=ea:=(aaM ra)
 have unA:yA [u8 f,u64 a1,u64 a0] = [vw sA,((uZ (fN f) (nB a1 a0):Nat):Int),ea,wd x 1,wd x 0]:=by
  rw[Bl,vH,vM,sg,vR,hx,hea,hsA];rfl
 have u8A:=Ak (fN f) (nB a1 a0)
 obtain⟨y,hy⟩:∃ x,x=wu (fN f) (nB b1 b0):=⟨_,rfl⟩
 obtain⟨eb,heb⟩:∃ e,e=vQ (fN f) (nB b1 b0):=⟨_,rfl⟩
 obtain⟨sB,hsB⟩:∃ s,s=FP.sgn (fN f) (nB b1 b0):=⟨_,rfl⟩
 have rb:=yJ (f:=fN f) (b:=nB b1 b0)
 rw[← heb] at rb
 have yl:y<vF:=by rw[hy];exact zL _ _
 have ieb:i64 eb=eb:=(aaM rb)
 have unB:yA [u8 f,u64 b1,u64 b0] = [vw sB,((uZ (fN f) (nB b1 b0):Nat):Int),eb,wd y 1,wd y 0]:=by
  rw[Bl,vH,vM,sg,vR,hy,heb,hsB];rfl
 have u8B:=Ak (fN f) (nB b1 b0)
 obtain⟨z,hz'⟩:∃ x,x=wu (fN f) (nB c1 c0):=⟨_,rfl⟩
 obtain⟨ec,hec⟩:∃ e,e=vQ (fN f) (nB c1 c0):=⟨_,rfl⟩
 obtain⟨sC,hsC⟩:∃ s,s=FP.sgn (fN f) (nB c1 c0):=⟨_,rfl⟩
 have rc:=yJ (f:=fN f) (b:=nB c1 c0)
 rw[← hec] at rc
 have zl:z<vF:=by rw[hz'];exact zL _ _
 have iec:i64 ec=ec:=(aaM rc)
 have unC:yA [u8 f,u64 c1,u64 c0] = [vw sC,((uZ (fN f) (nB c1 c0):Nat):Int),ec,wd z 1,wd z 0]:=by
  rw[Bl,vH,vM,sg,vR,hz',hec,hsC];rfl
 have u8C:=Ak (fN f) (nB c1 c0)
 obtain⟨sP,hsP⟩:∃ s:Bool,s=(sA != sB):=⟨_,rfl⟩
 have nsP:(!(sA==sB))=sP:=by rw[hsP];rfl
 have pk:∀ (j:Int) (q:Bool),vG j=q→Kc [u8 f,j,u64 a1,u64 a0,u64 b1,u64 b0,u64 c1,u64 c0] = [wd (yD (fN f) q (nB a1 a0) (nB b1 b0) (nB c1 c0)) 1,wd (yD (fN f) q (nB a1 a0) (nB b1 b0) (nB c1 c0)) 0,((zZ (fN f) q (nB a1 a0) (nB b1 b0) (nB c1 c0):Nat):Int),vw (xY (fN f) q (nB a1 a0) (nB b1 b0) (nB c1 c0))]:=fun j q hj=>by
  rw[ass _ _ _ _ _ _ _ _ hf3,vH,vM,vM,vM,hj]
 have infE:∀ {s:Bool},AR [u8 f,vw s] = [wd (FP.mk (fN f) s (FP.inf (fN f))) 1,wd (FP.mk (fN f) s (FP.inf (fN f))) 0]:=fun {s}=>by rw[Lr,vH,if_pos hf,vJ,vR]
 have JE:wK (fN f) (nB a1 a0) (nB b1 b0) (nB c1 c0)=(zt (uZ (fN f) (nB a1 a0)) (uZ (fN f) (nB b1 b0))||(((decide (uZ (fN f) (nB a1 a0)=3)||decide (uZ (fN f) (nB b1 b0)=3))&&(decide (uZ (fN f) (nB c1 c0)=3)&&(sP != sC))) && !xY (fN f) false (nB a1 a0) (nB b1 b0) (nB c1 c0))):=by
  unfold wK IK GK
  rw[← hsA,← hsB,← hsC,← hsP]
  cases zt (uZ (fN f) (nB a1 a0)) (uZ (fN f) (nB b1 b0))<;>simp
 have j1:zt (uZ (fN f) (nB a1 a0)) (uZ (fN f) (nB b1 b0))=true→vG 1=wK (fN f) (nB a1 a0) (nB b1 b0) (nB c1 c0):=fun h=>by rw[JE,h];rfl
 have j0a:¬ zt (uZ (fN f) (nB a1 a0)) (uZ (fN f) (nB b1 b0))=true→¬ uZ (fN f) (nB a1 a0)=3→¬ uZ (fN f) (nB b1 b0)=3→vG 0=wK (fN f) (nB a1 a0) (nB b1 b0) (nB c1 c0):=fun h h1 h2=>by rw[JE,Bool.eq_false_iff.2 h,decide_eq_false h1,decide_eq_false h2];rfl
 have j0c:¬ zt (uZ (fN f) (nB a1 a0)) (uZ (fN f) (nB b1 b0))=true→¬ uZ (fN f) (nB c1 c0)=3→vG 0=wK (fN f) (nB a1 a0) (nB b1 b0) (nB c1 c0):=fun h h1=>by rw[JE,Bool.eq_false_iff.2 h,decide_eq_false h1,Bool.false_and,Bool.and_false];rfl
 have j0n:¬ zt (uZ (fN f) (nB a1 a0)) (uZ (fN f) (nB b1 b0))=true→sP=sC→vG 0=wK (fN f) (nB a1 a0) (nB b1 b0) (nB c1 c0):=fun h h1=>by rw[JE,Bool.eq_false_iff.2 h,h1,bne_self_eq_false,Bool.and_false,Bool.and_false];rfl
 have j2:¬ zt (uZ (fN f) (nB a1 a0)) (uZ (fN f) (nB b1 b0))=true→(uZ (fN f) (nB a1 a0)=3∨uZ (fN f) (nB b1 b0)=3)→uZ (fN f) (nB c1 c0)=3→¬ sP=sC→vG (vw (!xY (fN f) false (nB a1 a0) (nB b1 b0) (nB c1 c0)))=wK (fN f) (nB a1 a0) (nB b1 b0) (nB c1 c0):=fun h h1 h2 h3=>by
  have e1:(decide (uZ (fN f) (nB a1 a0)=3)||decide (uZ (fN f) (nB b1 b0)=3))=true:=by simpa using h1
  have e2:(sP != sC)=true:=by simpa using h3
  rw[JE,Bool.eq_false_iff.2 h,e1,e2,decide_eq_true h2,vJ];rfl
 obtain⟨ep,hep⟩:∃ e:Int,e=(if (uZ (fN f) (nB a1 a0)=1∨uZ (fN f) (nB a1 a0)=2)∧(uZ (fN f) (nB b1 b0)=1∨uZ (fN f) (nB b1 b0)=2) then ea+eb+1 else 0):=⟨_,rfl⟩
 obtain⟨P,hP⟩:∃ e:Nat,e=(if (uZ (fN f) (nB a1 a0)=1∨uZ (fN f) (nB a1 a0)=2)∧(uZ (fN f) (nB b1 b0)=1∨uZ (fN f) (nB b1 b0)=2) then x*y else 0):=⟨_,rfl⟩
 have rp : -34001≤ep∧ep≤34001:=by rw[hep];split<;>omega
 have Pl:P<vL:=by
  rw[hP];split
  ·exact asx xl yl
  ·exact asz
 have tmE:Iy [vw sA,((uZ (fN f) (nB a1 a0):Nat):Int),ea,wd x 1,wd x 0,vw sB,((uZ (fN f) (nB b1 b0):Nat):Int),eb,wd y 1,wd y 0] = [ep,wd P 0,wd P 1,wd P 2,wd P 3]:=by
  rw[aeU,u8A,u8B,hep,hP,xn xl,xn yl]
  by_cases h:(uZ (fN f) (nB a1 a0)=1∨uZ (fN f) (nB a1 a0)=2)∧(uZ (fN f) (nB b1 b0)=1∨uZ (fN f) (nB b1 b0)=2)
  ·rw[if_pos h,if_pos h,if_pos (by omega),iea,ieb,asy ra rb,yC];rfl
  ·rw[if_neg h,if_neg h,if_neg (by omega)];simp only[UY]
 have baE:Iq [vw sA,((uZ (fN f) (nB a1 a0):Nat):Int),ea,wd x 1,wd x 0,vw sB,((uZ (fN f) (nB b1 b0):Nat):Int),eb,wd y 1,wd y 0] = [vw (zt (uZ (fN f) (nB a1 a0)) (uZ (fN f) (nB b1 b0)))]:=by
  rw[aeT,u8A,u8B,Int.toNat_natCast,Int.toNat_natCast]
 have iep:i64 ep=ep:=(agH (by omega)).1
 have iec':=iec
 obtain⟨Z,hZ⟩:∃ Z,Z=z*vF:=⟨_,rfl⟩
 have joZ:yT [wd z 1,wd z 0,0,0] = [wd Z 0,wd Z 1,wd Z 2,wd Z 3]:=by rw[hZ];exact abh zl
 have Zl:Z<vL:=by rw[hZ];exact Ee zl
 have sp:zu ep:=by unfold zu;omega
 have sc:zu ec:=by unfold zu;omega
 have suE:=afD sp sc Pl Zl
 have diE:=afG sp sc Pl Zl
 have Ul0:=sum_lt (ea:=ep) (eb:=ec) Pl Zl
 have Dl0:=afF (ea:=ep) (eb:=ec) Pl Zl
 obtain⟨ru,rd⟩:=aiz (ea:=ep) (eb:=ec) P Z (by omega) (by omega)
 rw[Am]
 generalize hR:C9 (fN f) (u8 m).toNat (vG t) (nB a1 a0) (nB b1 b0) (nB c1 c0)=R
 have nab:¬ uZ (fN f) (nB a1 a0)=3→¬ uZ (fN f) (nB b1 b0)=3→¬ uZ (fN f) (nB a1 a0)=3∧¬ uZ (fN f) (nB b1 b0)=3:=fun h1 h2=>⟨h1,h2⟩
 have rP:xY (fN f) (wK (fN f) (nB a1 a0) (nB b1 b0) (nB c1 c0)) (nB a1 a0) (nB b1 b0) (nB c1 c0)=true→R=(yD (fN f) (wK (fN f) (nB a1 a0) (nB b1 b0) (nB c1 c0)) (nB a1 a0) (nB b1 b0) (nB c1 c0),zZ (fN f) (wK (fN f) (nB a1 a0) (nB b1 b0) (nB c1 c0)) (nB a1 a0) (nB b1 b0) (nB c1 c0)):=fun h=>by rw[← hR];exact asv h
 have rA:¬ xY (fN f) (wK (fN f) (nB a1 a0) (nB b1 b0) (nB c1 c0)) (nB a1 a0) (nB b1 b0) (nB c1 c0)=true→(uZ (fN f) (nB a1 a0)=3∨uZ (fN f) (nB b1 b0)=3)→R=(FP.mk (fN f) sP (FP.inf (fN f)),0):=fun h h2=>by
  rw[← hR,(Vb h).1]
  have hi:GK (fN f) (nB a1 a0) (nB b1 b0)=true:=by unfold GK;simpa using h2
  unfold O7 GM
  rw[if_pos hi,if_pos hi,hsP,hsA,hsB]
 have rC:¬ xY (fN f) (wK (fN f) (nB a1 a0) (nB b1 b0) (nB c1 c0)) (nB a1 a0) (nB b1 b0) (nB c1 c0)=true→(¬ uZ (fN f) (nB a1 a0)=3∧¬ uZ (fN f) (nB b1 b0)=3)→uZ (fN f) (nB c1 c0)=3→R=(FP.mk (fN f) sC (FP.inf (fN f)),0):=fun h h2 h3=>by
  rw[← hR,(Vb h).1]
  have hi:¬ GK (fN f) (nB a1 a0) (nB b1 b0)=true:=by unfold GK;simpa using h2
  unfold O7 GM
  rw[if_neg hi,if_neg hi,if_pos h3,if_pos h3,hsC]
 have pkF8:∀ q:Bool,u8 ((zZ (fN f) q (nB a1 a0) (nB b1 b0) (nB c1 c0):Nat):Int)=((zZ (fN f) q (nB a1 a0) (nB b1 b0) (nB c1 c0):Nat):Int):=fun q=>by
  have:=asr (fN f) q (nB a1 a0) (nB b1 b0) (nB c1 c0)
  exact BP (by omega) (by omega)
 obtain⟨Gd,hGd⟩:∃ Gd:Prop,Gd=(uZ (fN f) (nB a1 a0)<3∧uZ (fN f) (nB b1 b0)<3∧uZ (fN f) (nB c1 c0)<3):=⟨_,rfl⟩
 have fin:¬ xY (fN f) (wK (fN f) (nB a1 a0) (nB b1 b0) (nB c1 c0)) (nB a1 a0) (nB b1 b0) (nB c1 c0)=true→(¬ uZ (fN f) (nB a1 a0)=3∧¬ uZ (fN f) (nB b1 b0)=3)→¬ uZ (fN f) (nB c1 c0)=3→Gd:=fun h h1 h2=>by
  obtain⟨k1,k2,k3⟩:=(Vb (m:=0) (after:=false) h).2.1
  rw[hGd];omega
 obtain⟨N,hN⟩:∃ N,N=FP.fmaN (fN f) (u8 m).toNat sP sC (FP.cod (fN f) (nB a1 a0)) (FP.cod (fN f) (nB b1 b0)) (FP.cod (fN f) (nB c1 c0)):=⟨_,rfl⟩
 obtain⟨C,hC⟩:∃ C,C=FP.fmaC (fN f) (u8 m).toNat (vG t) sP sC (FP.cod (fN f) (nB a1 a0)) (FP.cod (fN f) (nB b1 b0)) (FP.cod (fN f) (nB c1 c0)):=⟨_,rfl⟩
 have C8:u8 (C.2:Int)=(C.2:Int):=by
  rw[hC];unfold FP.fmaC
  exact IU (FP.roundC_flag_set _ _ _ _ _ _ _)
 have rF:Gd→¬ xY (fN f) (wK (fN f) (nB a1 a0) (nB b1 b0) (nB c1 c0)) (nB a1 a0) (nB b1 b0) (nB c1 c0)=true→R=(FP.mk (fN f) N C.1,C.2):=fun g h=>by
  rw[hGd] at g
  rw[← hR,(Vb h).1]
  have hi:¬ GK (fN f) (nB a1 a0) (nB b1 b0)=true:=by unfold GK;simp;omega
  have h3:¬ uZ (fN f) (nB c1 c0)=3:=by omega
  unfold O7 GM
  rw[if_neg hi,if_neg hi,if_neg h3,if_neg h3,hN,hC,hsP,hsA,hsB,hsC]
 obtain⟨U,hU⟩:∃ U,U=FP.sumT ep P ec Z:=⟨_,rfl⟩
 obtain⟨D,hD⟩:∃ D,D=Da ep P ec Z:=⟨_,rfl⟩
 obtain⟨L,hL⟩:∃ L,L=decide (FP.cmpT ep P ec Z<0):=⟨_,rfl⟩
 rw[← hU] at suE ru Ul0
 rw[← hD,← hL] at diE
 rw[← hD] at rd Dl0
 have Ul:U.2<vL:=Ul0
 have Dl:D.2<vL:=Dl0
 have rn:∀ (V:Int×Nat) (n:Bool),Gd→V.2<vL→(-40001≤V.1∧V.1≤40001)→V=FP.resT sP sC ep P ec Z→(if V.2=0 then(if sP=sC then sP else decide ((u8 m).toNat=3)) else FP.resS sP sC ep P ec Z)=n →
   yu [u8 f,u8 m,vw (vG t),vw (n),i64 V.1,wd V.2 0,wd V.2 1,wd V.2 2,wd V.2 3] = [wd (FP.mk (fN f) N C.1) 1,wd (FP.mk (fN f) N C.1) 0,(C.2:Int)]:=fun V n g hV hr hz hn=>by
  rw[hGd] at g
  obtain⟨t1,t2⟩:=asw hf g.1 g.2.1
  obtain⟨t3,t4⟩:=abk hf g.2.2
  obtain⟨k1,k2⟩:=FP.fma_res (m:=(u8 m).toNat) (after:=vG t) hf (Bw hf g.1).1 (Bw hf g.2.1).1 (Bw hf g.2.2).1 sP sC
  rw[t1,t2,t3,t4,← hea,← heb,← hec,← hx,← hy,← hz',← hZ,← hep,← hP,← hz] at k1 k2
  rw[hn,← hN] at k1
  rw[← hN,← hC] at k2
  obtain⟨z1,z2⟩:=agH hr
  rw[GI _ _ _ _ _ _ _ _ _ hf3 (by rw[wS];exact hm),vH,wS,vJ,vJ,xI,z1,z2,xP hV,k1,k2,vR];rfl
 have rnU:Gd→sP=sC→yu [u8 f,u8 m,vw (vG t),vw (sP),i64 U.1,wd U.2 0,wd U.2 1,wd U.2 2,wd U.2 3] = [wd (FP.mk (fN f) N C.1) 1,wd (FP.mk (fN f) N C.1) 0,(C.2:Int)]:=fun g h=>by
  refine rn U sP g Ul ru (by rw[PW,if_pos h,hU]) ?_
  rw[if_pos h]
  unfold FP.resS
  rw[if_pos h]
  split<;>rfl
 have rnZ:Gd→¬ sP=sC→D.2=0→yu [u8 f,u8 m,vw (vG t),vw (u8 m==3),i64 D.1,wd D.2 0,wd D.2 1,wd D.2 2,wd D.2 3] = [wd (FP.mk (fN f) N C.1) 1,wd (FP.mk (fN f) N C.1) 0,(C.2:Int)]:=fun g h z=>by
  refine rn D _ g Dl rd (by rw[PW,if_neg h,hD]) ?_
  rw[if_pos z,if_neg h,aiy]
 have rnD:Gd→¬ sP=sC→¬ D.2=0→yu [u8 f,u8 m,vw (vG t),vw (!(sP==L)),i64 D.1,wd D.2 0,wd D.2 1,wd D.2 2,wd D.2 3] = [wd (FP.mk (fN f) N C.1) 1,wd (FP.mk (fN f) N C.1) 0,(C.2:Int)]:=fun g h z=>by
  refine rn D _ g Dl rd (by rw[PW,if_neg h,hD]) ?_
  rw[if_neg z,aix _ _ _ _ _ _ h,← hL]
 clear rn hU hD hL
 rw[O4,aae]
 refine tF (by simp only[uY];exact known) ?_
 refine tF (by simp only[uY];exact knownm) ?_
 refine(ve (r:=[vw sC,((uZ (fN f) (nB c1 c0):Nat):Int),ec,wd (z) 1,wd (z) 0]) (by simp only[uY,Rv];exact unC) (by rfl)).trans ?_
 refine(ve (r:=[vw sA,((uZ (fN f) (nB a1 a0):Nat):Int),ea,wd (x) 1,wd (x) 0]) (by simp only[uY,Rv];exact unA) (by rfl)).trans ?_
 refine(ve (r:=[vw sB,((uZ (fN f) (nB b1 b0):Nat):Int),eb,wd (y) 1,wd (y) 0]) (by simp only[uY,Rv];exact unB) (by rfl)).trans ?_
 refine(ve (r:=[ep,wd (P) 0,wd (P) 1,wd (P) 2,wd (P) 3]) (by simp only[uY,ap7,iea,ieb,u8A,u8B];exact tmE) (by rfl)).trans ?_
 refine tI (uZ (fN f) (nB a1 a0)=3) (by simp only[uY,u8A];exact xS _ 3) (fun h1=>?_) (fun h1=>?_)
 ·refine(ve (r:=[vw (zt (uZ (fN f) (nB a1 a0)) (uZ (fN f) (nB b1 b0)))]) (by simp only[uY,afm,iea,ieb,u8A,u8B];exact baE) (by rfl)).trans ?_
  refine tI (¬ zt (uZ (fN f) (nB a1 a0)) (uZ (fN f) (nB b1 b0))=true) (by simp only[uY];exact agI _) (fun h2=>?_) (fun h2=>?_)
  ·refine tI (uZ (fN f) (nB c1 c0)=3) (by simp only[uY,u8C];exact xS _ 3) (fun h3=>?_) (fun h3=>?_)
   ·refine tI (¬ sP=sC) (by simp only[uY];rw[nsP];exact R5 _ _) (fun h4=>?_) (fun h4=>?_)
    ·refine(ve (r:=[wd (yD (fN f) false (nB a1 a0) (nB b1 b0) (nB c1 c0)) 1,wd (yD (fN f) false (nB a1 a0) (nB b1 b0) (nB c1 c0)) 0,((zZ (fN f) false (nB a1 a0) (nB b1 b0) (nB c1 c0):Nat):Int),vw (xY (fN f) false (nB a1 a0) (nB b1 b0) (nB c1 c0))]) (by simp only[uY,EQ];exact pk _ _ rfl) (by rfl)).trans ?_
     refine(ve (r:=[wd (yD (fN f) (wK (fN f) (nB a1 a0) (nB b1 b0) (nB c1 c0)) (nB a1 a0) (nB b1 b0) (nB c1 c0)) 1,wd (yD (fN f) (wK (fN f) (nB a1 a0) (nB b1 b0) (nB c1 c0)) (nB a1 a0) (nB b1 b0) (nB c1 c0)) 0,((zZ (fN f) (wK (fN f) (nB a1 a0) (nB b1 b0) (nB c1 c0)) (nB a1 a0) (nB b1 b0) (nB c1 c0):Nat):Int),vw (xY (fN f) (wK (fN f) (nB a1 a0) (nB b1 b0) (nB c1 c0)) (nB a1 a0) (nB b1 b0) (nB c1 c0))]) (by simp only[uY,EQ];exact pk _ _ (j2 h2 (.inl h1) h3 h4)) (by rfl)).trans ?_
     refine tI (xY (fN f) (wK (fN f) (nB a1 a0) (nB b1 b0) (nB c1 c0)) (nB a1 a0) (nB b1 b0) (nB c1 c0)=true) (by simp only[uY];exact(Bool.decide_coe _).symm) (fun h5=>?_) (fun h5=>?_)
     ·rw[vg rfl]
      simp only[uY]
      rw[rP h5]
      simp only[pkF8]
     ·refine(ve (r:=[wd (FP.mk (fN f) sP (FP.inf (fN f))) 1,wd (FP.mk (fN f) sP (FP.inf (fN f))) 0]) (by simp only[uY,Ei];rw[nsP];exact infE) (by rfl)).trans ?_
      rw[vg rfl]
      simp only[uY]
      rw[rA h5 (.inl h1)]
      rfl
    ·refine(ve (r:=[wd (yD (fN f) (wK (fN f) (nB a1 a0) (nB b1 b0) (nB c1 c0)) (nB a1 a0) (nB b1 b0) (nB c1 c0)) 1,wd (yD (fN f) (wK (fN f) (nB a1 a0) (nB b1 b0) (nB c1 c0)) (nB a1 a0) (nB b1 b0) (nB c1 c0)) 0,((zZ (fN f) (wK (fN f) (nB a1 a0) (nB b1 b0) (nB c1 c0)) (nB a1 a0) (nB b1 b0) (nB c1 c0):Nat):Int),vw (xY (fN f) (wK (fN f) (nB a1 a0) (nB b1 b0) (nB c1 c0)) (nB a1 a0) (nB b1 b0) (nB c1 c0))]) (by simp only[uY,EQ];exact pk _ _ (j0n h2 (Decidable.not_not.1 h4))) (by rfl)).trans ?_
     refine tI (xY (fN f) (wK (fN f) (nB a1 a0) (nB b1 b0) (nB c1 c0)) (nB a1 a0) (nB b1 b0) (nB c1 c0)=true) (by simp only[uY];exact(Bool.decide_coe _).symm) (fun h6=>?_) (fun h6=>?_)
     ·rw[vg rfl]
      simp only[uY]
      rw[rP h6]
      simp only[pkF8]
     ·refine(ve (r:=[wd (FP.mk (fN f) sP (FP.inf (fN f))) 1,wd (FP.mk (fN f) sP (FP.inf (fN f))) 0]) (by simp only[uY,Ei];rw[nsP];exact infE) (by rfl)).trans ?_
      rw[vg rfl]
      simp only[uY]
      rw[rA h6 (.inl h1)]
      rfl
   ·refine(ve (r:=[wd (yD (fN f) (wK (fN f) (nB a1 a0) (nB b1 b0) (nB c1 c0)) (nB a1 a0) (nB b1 b0) (nB c1 c0)) 1,wd (yD (fN f) (wK (fN f) (nB a1 a0) (nB b1 b0) (nB c1 c0)) (nB a1 a0) (nB b1 b0) (nB c1 c0)) 0,((zZ (fN f) (wK (fN f) (nB a1 a0) (nB b1 b0) (nB c1 c0)) (nB a1 a0) (nB b1 b0) (nB c1 c0):Nat):Int),vw (xY (fN f) (wK (fN f) (nB a1 a0) (nB b1 b0) (nB c1 c0)) (nB a1 a0) (nB b1 b0) (nB c1 c0))]) (by simp only[uY,EQ];exact pk _ _ (j0c h2 h3)) (by rfl)).trans ?_
    refine tI (xY (fN f) (wK (fN f) (nB a1 a0) (nB b1 b0) (nB c1 c0)) (nB a1 a0) (nB b1 b0) (nB c1 c0)=true) (by simp only[uY];exact(Bool.decide_coe _).symm) (fun h7=>?_) (fun h7=>?_)
    ·rw[vg rfl]
     simp only[uY]
     rw[rP h7]
     simp only[pkF8]
    ·refine(ve (r:=[wd (FP.mk (fN f) sP (FP.inf (fN f))) 1,wd (FP.mk (fN f) sP (FP.inf (fN f))) 0]) (by simp only[uY,Ei];rw[nsP];exact infE) (by rfl)).trans ?_
     rw[vg rfl]
     simp only[uY]
     rw[rA h7 (.inl h1)]
     rfl
  ·refine(ve (r:=[wd (yD (fN f) (wK (fN f) (nB a1 a0) (nB b1 b0) (nB c1 c0)) (nB a1 a0) (nB b1 b0) (nB c1 c0)) 1,wd (yD (fN f) (wK (fN f) (nB a1 a0) (nB b1 b0) (nB c1 c0)) (nB a1 a0) (nB b1 b0) (nB c1 c0)) 0,((zZ (fN f) (wK (fN f) (nB a1 a0) (nB b1 b0) (nB c1 c0)) (nB a1 a0) (nB b1 b0) (nB c1 c0):Nat):Int),vw (xY (fN f) (wK (fN f) (nB a1 a0) (nB b1 b0) (nB c1 c0)) (nB a1 a0) (nB b1 b0) (nB c1 c0))]) (by simp only[uY,EQ];exact pk _ _ (j1 (Decidable.not_not.1 h2))) (by rfl)).trans ?_
   refine tI (xY (fN f) (wK (fN f) (nB a1 a0) (nB b1 b0) (nB c1 c0)) (nB a1 a0) (nB b1 b0) (nB c1 c0)=true) (by simp only[uY];exact(Bool.decide_coe _).symm) (fun h8=>?_) (fun h8=>?_)
   ·rw[vg rfl]
    simp only[uY]
    rw[rP h8]
    simp only[pkF8]
   ·refine(ve (r:=[wd (FP.mk (fN f) sP (FP.inf (fN f))) 1,wd (FP.mk (fN f) sP (FP.inf (fN f))) 0]) (by simp only[uY,Ei];rw[nsP];exact infE) (by rfl)).trans ?_
    rw[vg rfl]
    simp only[uY]
    rw[rA h8 (.inl h1)]
    rfl
 ·refine(ve (r:=[vw (zt (uZ (fN f) (nB a1 a0)) (uZ (fN f) (nB b1 b0)))]) (by simp only[uY,afm,iea,ieb,u8A,u8B];exact baE) (by rfl)).trans ?_
  refine tI (uZ (fN f) (nB b1 b0)=3) (by simp only[uY,u8B];exact xS _ 3) (fun h9=>?_) (fun h9=>?_)
  ·refine tI (¬ zt (uZ (fN f) (nB a1 a0)) (uZ (fN f) (nB b1 b0))=true) (by simp only[uY];exact agI _) (fun h10=>?_) (fun h10=>?_)
   ·refine tI (uZ (fN f) (nB c1 c0)=3) (by simp only[uY,u8C];exact xS _ 3) (fun h11=>?_) (fun h11=>?_)
    ·refine tI (¬ sP=sC) (by simp only[uY];rw[nsP];exact R5 _ _) (fun h12=>?_) (fun h12=>?_)
     ·refine(ve (r:=[wd (yD (fN f) false (nB a1 a0) (nB b1 b0) (nB c1 c0)) 1,wd (yD (fN f) false (nB a1 a0) (nB b1 b0) (nB c1 c0)) 0,((zZ (fN f) false (nB a1 a0) (nB b1 b0) (nB c1 c0):Nat):Int),vw (xY (fN f) false (nB a1 a0) (nB b1 b0) (nB c1 c0))]) (by simp only[uY,EQ];exact pk _ _ rfl) (by rfl)).trans ?_
      refine(ve (r:=[wd (yD (fN f) (wK (fN f) (nB a1 a0) (nB b1 b0) (nB c1 c0)) (nB a1 a0) (nB b1 b0) (nB c1 c0)) 1,wd (yD (fN f) (wK (fN f) (nB a1 a0) (nB b1 b0) (nB c1 c0)) (nB a1 a0) (nB b1 b0) (nB c1 c0)) 0,((zZ (fN f) (wK (fN f) (nB a1 a0) (nB b1 b0) (nB c1 c0)) (nB a1 a0) (nB b1 b0) (nB c1 c0):Nat):Int),vw (xY (fN f) (wK (fN f) (nB a1 a0) (nB b1 b0) (nB c1 c0)) (nB a1 a0) (nB b1 b0) (nB c1 c0))]) (by simp only[uY,EQ];exact pk _ _ (j2 h10 (.inr h9) h11 h12)) (by rfl)).trans ?_
      refine tI (xY (fN f) (wK (fN f) (nB a1 a0) (nB b1 b0) (nB c1 c0)) (nB a1 a0) (nB b1 b0) (nB c1 c0)=true) (by simp only[uY];exact(Bool.decide_coe _).symm) (fun h13=>?_) (fun h13=>?_)
      ·rw[vg rfl]
       simp only[uY]
       rw[rP h13]
       simp only[pkF8]
      ·refine(ve (r:=[wd (FP.mk (fN f) sP (FP.inf (fN f))) 1,wd (FP.mk (fN f) sP (FP.inf (fN f))) 0]) (by simp only[uY,Ei];rw[nsP];exact infE) (by rfl)).trans ?_
       rw[vg rfl]
       simp only[uY]
       rw[rA h13 (.inr h9)]
       rfl
     ·refine(ve (r:=[wd (yD (fN f) (wK (fN f) (nB a1 a0) (nB b1 b0) (nB c1 c0)) (nB a1 a0) (nB b1 b0) (nB c1 c0)) 1,wd (yD (fN f) (wK (fN f) (nB a1 a0) (nB b1 b0) (nB c1 c0)) (nB a1 a0) (nB b1 b0) (nB c1 c0)) 0,((zZ (fN f) (wK (fN f) (nB a1 a0) (nB b1 b0) (nB c1 c0)) (nB a1 a0) (nB b1 b0) (nB c1 c0):Nat):Int),vw (xY (fN f) (wK (fN f) (nB a1 a0) (nB b1 b0) (nB c1 c0)) (nB a1 a0) (nB b1 b0) (nB c1 c0))]) (by simp only[uY,EQ];exact pk _ _ (j0n h10 (Decidable.not_not.1 h12))) (by rfl)).trans ?_
      refine tI (xY (fN f) (wK (fN f) (nB a1 a0) (nB b1 b0) (nB c1 c0)) (nB a1 a0) (nB b1 b0) (nB c1 c0)=true) (by simp only[uY];exact(Bool.decide_coe _).symm) (fun h14=>?_) (fun h14=>?_)
      ·rw[vg rfl]
       simp only[uY]
       rw[rP h14]
       simp only[pkF8]
      ·refine(ve (r:=[wd (FP.mk (fN f) sP (FP.inf (fN f))) 1,wd (FP.mk (fN f) sP (FP.inf (fN f))) 0]) (by simp only[uY,Ei];rw[nsP];exact infE) (by rfl)).trans ?_
       rw[vg rfl]
       simp only[uY]
       rw[rA h14 (.inr h9)]
       rfl
    ·refine(ve (r:=[wd (yD (fN f) (wK (fN f) (nB a1 a0) (nB b1 b0) (nB c1 c0)) (nB a1 a0) (nB b1 b0) (nB c1 c0)) 1,wd (yD (fN f) (wK (fN f) (nB a1 a0) (nB b1 b0) (nB c1 c0)) (nB a1 a0) (nB b1 b0) (nB c1 c0)) 0,((zZ (fN f) (wK (fN f) (nB a1 a0) (nB b1 b0) (nB c1 c0)) (nB a1 a0) (nB b1 b0) (nB c1 c0):Nat):Int),vw (xY (fN f) (wK (fN f) (nB a1 a0) (nB b1 b0) (nB c1 c0)) (nB a1 a0) (nB b1 b0) (nB c1 c0))]) (by simp only[uY,EQ];exact pk _ _ (j0c h10 h11)) (by rfl)).trans ?_
     refine tI (xY (fN f) (wK (fN f) (nB a1 a0) (nB b1 b0) (nB c1 c0)) (nB a1 a0) (nB b1 b0) (nB c1 c0)=true) (by simp only[uY];exact(Bool.decide_coe _).symm) (fun h15=>?_) (fun h15=>?_)
     ·rw[vg rfl]
      simp only[uY]
      rw[rP h15]
      simp only[pkF8]
     ·refine(ve (r:=[wd (FP.mk (fN f) sP (FP.inf (fN f))) 1,wd (FP.mk (fN f) sP (FP.inf (fN f))) 0]) (by simp only[uY,Ei];rw[nsP];exact infE) (by rfl)).trans ?_
      rw[vg rfl]
      simp only[uY]
      rw[rA h15 (.inr h9)]
      rfl
   ·refine(ve (r:=[wd (yD (fN f) (wK (fN f) (nB a1 a0) (nB b1 b0) (nB c1 c0)) (nB a1 a0) (nB b1 b0) (nB c1 c0)) 1,wd (yD (fN f) (wK (fN f) (nB a1 a0) (nB b1 b0) (nB c1 c0)) (nB a1 a0) (nB b1 b0) (nB c1 c0)) 0,((zZ (fN f) (wK (fN f) (nB a1 a0) (nB b1 b0) (nB c1 c0)) (nB a1 a0) (nB b1 b0) (nB c1 c0):Nat):Int),vw (xY (fN f) (wK (fN f) (nB a1 a0) (nB b1 b0) (nB c1 c0)) (nB a1 a0) (nB b1 b0) (nB c1 c0))]) (by simp only[uY,EQ];exact pk _ _ (j1 (Decidable.not_not.1 h10))) (by rfl)).trans ?_
    refine tI (xY (fN f) (wK (fN f) (nB a1 a0) (nB b1 b0) (nB c1 c0)) (nB a1 a0) (nB b1 b0) (nB c1 c0)=true) (by simp only[uY];exact(Bool.decide_coe _).symm) (fun h16=>?_) (fun h16=>?_)
    ·rw[vg rfl]
     simp only[uY]
     rw[rP h16]
     simp only[pkF8]
    ·refine(ve (r:=[wd (FP.mk (fN f) sP (FP.inf (fN f))) 1,wd (FP.mk (fN f) sP (FP.inf (fN f))) 0]) (by simp only[uY,Ei];rw[nsP];exact infE) (by rfl)).trans ?_
     rw[vg rfl]
     simp only[uY]
     rw[rA h16 (.inr h9)]
     rfl
  ·refine tI (zt (uZ (fN f) (nB a1 a0)) (uZ (fN f) (nB b1 b0))=true) (by simp only[uY];exact(Bool.decide_coe _).symm) (fun h17=>?_) (fun h17=>?_)
   ·refine(ve (r:=[wd (yD (fN f) (wK (fN f) (nB a1 a0) (nB b1 b0) (nB c1 c0)) (nB a1 a0) (nB b1 b0) (nB c1 c0)) 1,wd (yD (fN f) (wK (fN f) (nB a1 a0) (nB b1 b0) (nB c1 c0)) (nB a1 a0) (nB b1 b0) (nB c1 c0)) 0,((zZ (fN f) (wK (fN f) (nB a1 a0) (nB b1 b0) (nB c1 c0)) (nB a1 a0) (nB b1 b0) (nB c1 c0):Nat):Int),vw (xY (fN f) (wK (fN f) (nB a1 a0) (nB b1 b0) (nB c1 c0)) (nB a1 a0) (nB b1 b0) (nB c1 c0))]) (by simp only[uY,EQ];exact pk _ _ (j1 h17)) (by rfl)).trans ?_
    refine tI (xY (fN f) (wK (fN f) (nB a1 a0) (nB b1 b0) (nB c1 c0)) (nB a1 a0) (nB b1 b0) (nB c1 c0)=true) (by simp only[uY];exact(Bool.decide_coe _).symm) (fun h18=>?_) (fun h18=>?_)
    ·rw[vg rfl]
     simp only[uY]
     rw[rP h18]
     simp only[pkF8]
    ·refine tI (uZ (fN f) (nB c1 c0)=3) (by simp only[uY,u8C];exact xS _ 3) (fun h19=>?_) (fun h19=>?_)
     ·refine(ve (r:=[wd (FP.mk (fN f) sC (FP.inf (fN f))) 1,wd (FP.mk (fN f) sC (FP.inf (fN f))) 0]) (by simp only[uY,Ei];exact infE) (by rfl)).trans ?_
      rw[vg rfl]
      simp only[uY]
      rw[rC h18 (nab h1 h9) h19]
      rfl
     ·refine(ve (r:=[wd (Z) 0,wd (Z) 1,wd (Z) 2,wd (Z) 3]) (by simp only[uY,JZ];exact joZ) (by rfl)).trans ?_
      refine(ve (r:=[U.1,wd (U.2) 0,wd (U.2) 1,wd (U.2) 2,wd (U.2) 3]) (by simp only[uY,aah,iep,iec];exact suE) (by rfl)).trans ?_
      refine tI (¬ sP=sC) (by simp only[uY];rw[nsP];exact R5 _ _) (fun h20=>?_) (fun h20=>?_)
      ·refine(ve (r:=[wd (Z) 0,wd (Z) 1,wd (Z) 2,wd (Z) 3]) (by simp only[uY,JZ];exact joZ) (by rfl)).trans ?_
       refine(ve (r:=[D.1,wd (D.2) 0,wd (D.2) 1,wd (D.2) 2,wd (D.2) 3,vw L]) (by simp only[uY,aag,iep,iec];exact diE) (by rfl)).trans ?_
       refine(ve (r:=[vw (decide (D.2=0))]) (by simp only[uY,O5];exact Cq Dl) (by rfl)).trans ?_
       refine tI (D.2=0) (by simp only[uY];try rfl) (fun h21=>?_) (fun h21=>?_)
       ·refine(ve (r:=[wd (FP.mk (fN f) N C.1) 1,wd (FP.mk (fN f) N C.1) 0,(C.2:Int)]) (by simp only[uY,EP,nsP];exact rnZ (fin h18 (nab h1 h9) h19) h20 h21) (by rfl)).trans ?_
        rw[vg rfl]
        simp only[uY]
        rw[rF (fin h18 (nab h1 h9) h19) h18,C8]
       ·refine(ve (r:=[wd (FP.mk (fN f) N C.1) 1,wd (FP.mk (fN f) N C.1) 0,(C.2:Int)]) (by simp only[uY,EP,nsP];exact rnD (fin h18 (nab h1 h9) h19) h20 h21) (by rfl)).trans ?_
        rw[vg rfl]
        simp only[uY]
        rw[rF (fin h18 (nab h1 h9) h19) h18,C8]
      ·refine(ve (r:=[vw (decide (U.2=0))]) (by simp only[uY,O5];exact Cq Ul) (by rfl)).trans ?_
       refine tI (U.2=0) (by simp only[uY];try rfl) (fun h22=>?_) (fun h22=>?_)
       ·refine(ve (r:=[wd (FP.mk (fN f) N C.1) 1,wd (FP.mk (fN f) N C.1) 0,(C.2:Int)]) (by simp only[uY,EP,nsP];exact rnU (fin h18 (nab h1 h9) h19) (Decidable.not_not.1 h20)) (by rfl)).trans ?_
        rw[vg rfl]
        simp only[uY]
        rw[rF (fin h18 (nab h1 h9) h19) h18,C8]
       ·refine(ve (r:=[wd (FP.mk (fN f) N C.1) 1,wd (FP.mk (fN f) N C.1) 0,(C.2:Int)]) (by simp only[uY,EP,nsP];exact rnU (fin h18 (nab h1 h9) h19) (Decidable.not_not.1 h20)) (by rfl)).trans ?_
        rw[vg rfl]
        simp only[uY]
        rw[rF (fin h18 (nab h1 h9) h19) h18,C8]
   ·refine(ve (r:=[wd (yD (fN f) (wK (fN f) (nB a1 a0) (nB b1 b0) (nB c1 c0)) (nB a1 a0) (nB b1 b0) (nB c1 c0)) 1,wd (yD (fN f) (wK (fN f) (nB a1 a0) (nB b1 b0) (nB c1 c0)) (nB a1 a0) (nB b1 b0) (nB c1 c0)) 0,((zZ (fN f) (wK (fN f) (nB a1 a0) (nB b1 b0) (nB c1 c0)) (nB a1 a0) (nB b1 b0) (nB c1 c0):Nat):Int),vw (xY (fN f) (wK (fN f) (nB a1 a0) (nB b1 b0) (nB c1 c0)) (nB a1 a0) (nB b1 b0) (nB c1 c0))]) (by simp only[uY,EQ];exact pk _ _ (j0a h17 h1 h9)) (by rfl)).trans ?_
    refine tI (xY (fN f) (wK (fN f) (nB a1 a0) (nB b1 b0) (nB c1 c0)) (nB a1 a0) (nB b1 b0) (nB c1 c0)=true) (by simp only[uY];exact(Bool.decide_coe _).symm) (fun h23=>?_) (fun h23=>?_)
    ·rw[vg rfl]
     simp only[uY]
     rw[rP h23]
     simp only[pkF8]
    ·refine tI (uZ (fN f) (nB c1 c0)=3) (by simp only[uY,u8C];exact xS _ 3) (fun h24=>?_) (fun h24=>?_)
     ·refine(ve (r:=[wd (FP.mk (fN f) sC (FP.inf (fN f))) 1,wd (FP.mk (fN f) sC (FP.inf (fN f))) 0]) (by simp only[uY,Ei];exact infE) (by rfl)).trans ?_
      rw[vg rfl]
      simp only[uY]
      rw[rC h23 (nab h1 h9) h24]
      rfl
     ·refine(ve (r:=[wd (Z) 0,wd (Z) 1,wd (Z) 2,wd (Z) 3]) (by simp only[uY,JZ];exact joZ) (by rfl)).trans ?_
      refine(ve (r:=[U.1,wd (U.2) 0,wd (U.2) 1,wd (U.2) 2,wd (U.2) 3]) (by simp only[uY,aah,iep,iec];exact suE) (by rfl)).trans ?_
      refine tI (¬ sP=sC) (by simp only[uY];rw[nsP];exact R5 _ _) (fun h25=>?_) (fun h25=>?_)
      ·refine(ve (r:=[wd (Z) 0,wd (Z) 1,wd (Z) 2,wd (Z) 3]) (by simp only[uY,JZ];exact joZ) (by rfl)).trans ?_
       refine(ve (r:=[D.1,wd (D.2) 0,wd (D.2) 1,wd (D.2) 2,wd (D.2) 3,vw L]) (by simp only[uY,aag,iep,iec];exact diE) (by rfl)).trans ?_
       refine(ve (r:=[vw (decide (D.2=0))]) (by simp only[uY,O5];exact Cq Dl) (by rfl)).trans ?_
       refine tI (D.2=0) (by simp only[uY];try rfl) (fun h26=>?_) (fun h26=>?_)
       ·refine(ve (r:=[wd (FP.mk (fN f) N C.1) 1,wd (FP.mk (fN f) N C.1) 0,(C.2:Int)]) (by simp only[uY,EP,nsP];exact rnZ (fin h23 (nab h1 h9) h24) h25 h26) (by rfl)).trans ?_
        rw[vg rfl]
        simp only[uY]
        rw[rF (fin h23 (nab h1 h9) h24) h23,C8]
       ·refine(ve (r:=[wd (FP.mk (fN f) N C.1) 1,wd (FP.mk (fN f) N C.1) 0,(C.2:Int)]) (by simp only[uY,EP,nsP];exact rnD (fin h23 (nab h1 h9) h24) h25 h26) (by rfl)).trans ?_
        rw[vg rfl]
        simp only[uY]
        rw[rF (fin h23 (nab h1 h9) h24) h23,C8]
      ·refine(ve (r:=[vw (decide (U.2=0))]) (by simp only[uY,O5];exact Cq Ul) (by rfl)).trans ?_
       refine tI (U.2=0) (by simp only[uY];try rfl) (fun h27=>?_) (fun h27=>?_)
       ·refine(ve (r:=[wd (FP.mk (fN f) N C.1) 1,wd (FP.mk (fN f) N C.1) 0,(C.2:Int)]) (by simp only[uY,EP,nsP];exact rnU (fin h23 (nab h1 h9) h24) (Decidable.not_not.1 h25)) (by rfl)).trans ?_
        rw[vg rfl]
        simp only[uY]
        rw[rF (fin h23 (nab h1 h9) h24) h23,C8]
       ·refine(ve (r:=[wd (FP.mk (fN f) N C.1) 1,wd (FP.mk (fN f) N C.1) 0,(C.2:Int)]) (by simp only[uY,EP,nsP];exact rnU (fin h23 (nab h1 h9) h24) (Decidable.not_not.1 h25)) (by rfl)).trans ?_
        rw[vg rfl]
        simp only[uY]
        rw[rF (fin h23 (nab h1 h9) h24) h23,C8]
end Go.Proofs.YtemomocmfggiaaaGreatDoor
