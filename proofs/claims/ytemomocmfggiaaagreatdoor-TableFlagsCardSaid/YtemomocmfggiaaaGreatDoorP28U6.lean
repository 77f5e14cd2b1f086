import Derived.Test.YtemomocmfggiaaaGreatDoorZQU6
import Derived.Test.YtemomocmfggiaaaGreatDoorZ1U6
import Derived.Test.YtemomocmfggiaaaGreatDoorS1aU6
set_option linter.unusedSimpArgs false
set_option linter.unusedVariables false
set_option maxRecDepth 100000
set_option maxHeartbeats 400000
namespace Go.Proofs.YtemomocmfggiaaaGreatDoor
open Go.RowKit
def AB (f:Nat) (j:Bool) (a:Nat):Nat:=if 4≤uZ f a then xz f a else if j=true then dfl f else 0
def Bb (f:Nat) (j:Bool) (a:Nat):Nat:=if 4≤uZ f a then(if j=true∨uZ f a=5 then 1 else 0) else if j=true then 1 else 0
def zi (f:Nat) (j:Bool) (a:Nat):Bool:=decide (4≤uZ f a)||j
theorem ain (f:Nat) (j:Bool) (a:Nat):Bb f j a≤1:=by unfold Bb;split<;>split<;>decide
theorem aio (f i a1 a0:Int) (hf:fN f<4):FW [f,i,a1,a0] = [wd (AB (fN f) (vG i) (nB a1 a0)) 1,wd (AB (fN f) (vG i) (nB a1 a0)) 0,((Bb (fN f) (vG i) (nB a1 a0):Nat):Int),vw (zi (fN f) (vG i) (nB a1 a0))]:=by
 rw[art _ _ _ _ hf]
 unfold AB Bb zi
 by_cases h1:4≤uZ (fN f) (nB a1 a0)
 ·simp only[h1,if_true,decide_true,Bool.true_or]
  split<;>rfl
 ·cases hi:vG i with
  | true=>simp only[h1,if_true,if_false,decide_false,Bool.false_or];rfl
  | false=>simp only[h1,if_false,decide_false,Bool.false_or,Bool.false_eq_true,UY];rfl
def G9 (f m:Nat) (after:Bool) (a:Nat):Nat×Nat :=
 if 4≤uZ f a then(xz f a,if uZ f a=5 then 1 else 0)
 else if FP.sgn f a=true∧¬ uZ f a=0 then(dfl f,1)
 else if uZ f a=0 then(FP.mk f (FP.sgn f a) 0,0)
 else if uZ f a=3 then(FP.mk f false (FP.inf f),0)
 else(FP.mk f false (FP.sqrtC f m after (FP.cod f a)).1,(FP.sqrtC f m after (FP.cod f a)).2)
theorem abf (x:Nat):decide ((x:Int)≤3)=decide (x≤3):=by rw[decide_eq_decide];omega
theorem avu (x:Int):(x.tmod 2 != 0)=decide (¬ x%2=0):=by
 have h:x.tmod 2=0↔x%2=0:=by rw[← Int.dvd_iff_tmod_eq_zero,Int.dvd_iff_emod_eq_zero]
 by_cases h0:x%2=0
 ·rw[h.2 h0,decide_eq_false (fun k=>k h0)];rfl
 ·rw[decide_eq_true h0,bne_iff_ne];exact fun k=>h0 (h.1 k)
theorem avv (a b:Int):vX .rem .i64 a b=a.tmod b:=rfl
theorem VB (a b:Int):vX .quo .i64 a b=i64 (a.tdiv b):=Gx _
theorem aip (n:Nat):n*2^100%2=0:=by rw[show(2:Nat)^100=2^99*2 from Nat.pow_succ ..,← Nat.mul_assoc];exact Nat.mul_mod_left _ _
theorem L9 {x:Nat} (hx:x<vF):yT [wd x 1,wd x 0,0,0] = [wd (x*vF) 0,wd (x*vF) 1,wd (x*vF) 2,wd (x*vF) 3]:=by
 rw[OO,xn hx,show nB 0 0=0 from by unfold nB;rw[show u64 0=0 from by decide];rfl,Nat.add_zero,yC]
theorem aiq {n:Nat} (hn:n<vL):LJ [wd n 0,wd n 1,wd n 2,wd n 3] = [wd (FP.isq n) 1,wd (FP.isq n) 0,vw (decide (FP.isq n*FP.isq n=n))]:=by
 rw[aaF,xP hn,aaE]
theorem abg {r:Nat} (hr:r<vF):r*2^100+1<vL:=by
 rw[yn] at hr
 have h2:r*2^100≤2^128*2^100:=Nat.mul_le_mul_right _ (Nat.le_of_lt hr)
 rw[← Nat.pow_add] at h2
 have h3:(2:Nat)^(128+100)+1<2^256:=by decide
 rw[BJ];omega
theorem air:vF<vL:=by decide
theorem ais {r:Nat} (hr:r<vF):EH [wd r 0,wd r 1,wd r 2,wd r 3,100] = [wd (r*2^100) 0,wd (r*2^100) 1,wd (r*2^100) 2,wd (r*2^100) 3]:=by
 have h:=Nat.lt_of_succ_lt (abg hr)
 rw[Rj,xP (Nat.lt_trans hr air),show(i64 100).toNat=100 from by decide,Nat.mod_eq_of_lt h,yC]
theorem ait {x:Int} (h:x%2=0):x.tdiv 2=x/2:=by
 obtain⟨k,rfl⟩:∃ k,x=2*k:=⟨x/2,by omega⟩
 rw[Int.mul_tdiv_cancel_left k (by decide)];omega
theorem aiu {e:Int} (h:(e-255)%2=0) (h1 : -17000≤e) (h2:e≤17000):i64 (i64 ((e-255).tdiv 2)+155)=(e-255)/2+155:=by
 rw[ait h,wL (n:=(e-255)/2) (by omega) (by omega),wL (by omega) (by omega)]
theorem aiv {e:Int} (h:¬ (e-255)%2=0) (h1 : -17000≤e) (h2:e≤17000):i64 (i64 ((e-255+1).tdiv 2)+155)=(e-254)/2+155:=by
 rw[ait (by omega),show(e-255+1)/2=(e-254)/2 by omega,wL (n:=(e-254)/2) (by omega) (by omega),wL (by omega) (by omega)]
theorem avw {e:Int} (h1 : -17000≤e) (h2:e≤17000):(-20000≤(e-255)/2+155∧(e-255)/2+155≤20000)∧(-20000≤(e-254)/2+155∧(e-254)/2+155≤20000):=by omega
theorem avx {e:Int} (h1 : -17000≤e) (h2:e≤17000):i64 e=e∧i64 (e-255)=e-255∧i64 (e-255+1)=e-255+1:=⟨wL (by omega) (by omega),wL (by omega) (by omega),wL (by omega) (by omega)⟩
theorem avy {e:Int} (h : -20000≤e∧e≤20000):i64 e=e∧Bu e=e:=⟨wL (by omega) (by omega),Lt (by omega) (by omega)⟩
theorem IU {k:Nat} (h:k=0∨k=16∨k=20∨k=24):u8 (k:Int)=(k:Int):=BP (by omega) (by omega)
theorem avz (x:Nat):x*2^128/2=x*2^127:=by rw[show(2:Nat)^128=2^127*2 from Nat.pow_succ ..,← Nat.mul_assoc,Nat.mul_div_cancel _ (by decide)]
theorem avA (f m t a1 a0:Int) (hf:fN f<4) (hm:u8 m≤4):Py [f,m,t,a1,a0]=oR (G9 (fN f) (u8 m).toNat (vG t) (nB a1 a0)):=by
 have hf3:fN (u8 f)<4:=by rw[vH];exact hf
 have known:=Db hf
 have knownm:=LG hm
 have sg:∀ x,yU (fN f) x=FP.sgn (fN f) x:=fun x=>by unfold yU;rw[decide_eq_true hf,Bool.true_and]
 obtain⟨x,hx⟩:∃ x,x=wu (fN f) (nB a1 a0):=⟨_,rfl⟩
 obtain⟨ea,hea⟩:∃ e,e=vQ (fN f) (nB a1 a0):=⟨_,rfl⟩
 obtain⟨sA,hsA⟩:∃ s,s=FP.sgn (fN f) (nB a1 a0):=⟨_,rfl⟩
 have ra:=yJ (f:=fN f) (b:=nB a1 a0)
 rw[← hea] at ra
 have xl:x<vF:=by rw[hx];exact zL _ _
 obtain⟨iea,ie1,ie2⟩:=avx ra.1 ra.2
 obtain⟨rg1,rg2⟩:=avw ra.1 ra.2
 have unA:yA [u8 f,u64 a1,u64 a0] = [vw sA,((uZ (fN f) (nB a1 a0):Nat):Int),ea,wd x 1,wd x 0]:=by
  rw[Bl,vH,vM,sg,vR,hx,hea,hsA];rfl
 have u8A:=Ak (fN f) (nB a1 a0)
 have pk:∀ (j:Int) (q:Bool),vG j=q→FW [u8 f,j,u64 a1,u64 a0] = [wd (AB (fN f) q (nB a1 a0)) 1,wd (AB (fN f) q (nB a1 a0)) 0,((Bb (fN f) q (nB a1 a0):Nat):Int),vw (zi (fN f) q (nB a1 a0))]:=fun j q hj=>by
  rw[aio _ _ _ _ hf3,vH,vM,hj]
 have pkN:zi (fN f) (decide (uZ (fN f) (nB a1 a0)≤3)) (nB a1 a0)=true:=by
  unfold zi;simp only[Bool.or_eq_true,decide_eq_true_iff];omega
 have pkF8:∀ q:Bool,u8 ((Bb (fN f) q (nB a1 a0):Nat):Int)=((Bb (fN f) q (nB a1 a0):Nat):Int):=fun q=>by
  have:=ain (fN f) q (nB a1 a0)
  exact BP (by omega) (by omega)
 have infE:∀ {s:Bool},AR [u8 f,vw s] = [wd (FP.mk (fN f) s (FP.inf (fN f))) 1,wd (FP.mk (fN f) s (FP.inf (fN f))) 0]:=fun {s}=>by rw[Lr,vH,if_pos hf,vJ,vR]
 have norE:∀ {s:Bool},EJ [u8 f,vw s] = [wd (FP.mk (fN f) s 0) 1,wd (FP.mk (fN f) s 0) 0]:=fun {s}=>by rw[ZV,vH,if_pos hf,vJ,vR]
 obtain⟨X,hX⟩:∃ X,X=x*vF:=⟨_,rfl⟩
 have joX:yT [wd x 1,wd x 0,0,0] = [wd X 0,wd X 1,wd X 2,wd X 3]:=by rw[hX];exact L9 xl
 have Xl:X<vL:=by rw[hX];exact Ee xl
 obtain⟨Y,hY⟩:∃ Y,Y=X/2:=⟨_,rfl⟩
 have Yl:Y<vL:=by rw[hY];exact Nat.lt_of_le_of_lt (Nat.div_le_self _ _) Xl
 have shY:Ci [wd X 0,wd X 1,wd X 2,wd X 3,1] = [wd Y 0,wd Y 1,wd Y 2,wd Y 3]:=by
  rw[Rk,xP Xl,show(i64 1).toNat=1 from by decide,Nat.pow_one,← hY,yC]
 obtain⟨r,hr⟩:∃ r,r=FP.isq X:=⟨_,rfl⟩
 obtain⟨q,hq⟩:∃ q,q=FP.isq Y:=⟨_,rfl⟩
 have rl:r<vF:=by rw[hr,yn];exact FP.isq_lt (by rw[← BJ];exact Xl)
 have ql:q<vF:=by rw[hq,yn];exact FP.isq_lt (by rw[← BJ];exact Yl)
 have rtX:=aiq Xl
 have rtY:=aiq Yl
 rw[← hr] at rtX
 rw[← hq] at rtY
 have lX:=abg rl
 have leX:=ais rl
 have lY:=abg ql
 have leY:=ais ql
 rw[Am]
 generalize hR:G9 (fN f) (u8 m).toNat (vG t) (nB a1 a0)=R
 have hR':=hR
 unfold G9 at hR'
 rw[← hsA] at hR'
 have rN:sA=true→¬ uZ (fN f) (nB a1 a0)=0→R=(AB (fN f) (decide (uZ (fN f) (nB a1 a0)≤3)) (nB a1 a0),Bb (fN f) (decide (uZ (fN f) (nB a1 a0)≤3)) (nB a1 a0)):=fun h1 h2=>by
  rw[← hR']
  unfold AB Bb
  by_cases h:4≤uZ (fN f) (nB a1 a0)
  ·rw[if_pos h,if_pos h,if_pos h,decide_eq_false (show ¬ uZ (fN f) (nB a1 a0)≤3 by omega)]
   simp only[Bool.false_eq_true,false_or]
  ·rw[if_neg h,if_neg h,if_neg h,decide_eq_true (show uZ (fN f) (nB a1 a0)≤3 by omega),if_pos ⟨h1,h2⟩,if_pos rfl,if_pos rfl]
 have no_na:¬ zi (fN f) false (nB a1 a0)=true→¬ 4≤uZ (fN f) (nB a1 a0):=fun h=>by
  unfold zi at h
  simpa only[Bool.or_false,decide_eq_true_iff] using h
 have rP:zi (fN f) false (nB a1 a0)=true→R=(AB (fN f) false (nB a1 a0),Bb (fN f) false (nB a1 a0)):=fun h=>by
  have h:4≤uZ (fN f) (nB a1 a0):=by
   unfold zi at h
   simpa only[Bool.or_false,decide_eq_true_iff] using h
  rw[← hR']
  unfold AB Bb
  rw[if_pos h,if_pos h,if_pos h]
  simp only[Bool.false_eq_true,false_or]
 have rZ:¬ zi (fN f) false (nB a1 a0)=true→uZ (fN f) (nB a1 a0)=0→R=(FP.mk (fN f) sA 0,0):=fun h h0=>by
  rw[← hR',if_neg (no_na h),if_neg (fun h=>h.2 h0),if_pos h0]
 have rI:¬ zi (fN f) false (nB a1 a0)=true→¬ sA=true→uZ (fN f) (nB a1 a0)=3→R=(FP.mk (fN f) sA (FP.inf (fN f)),0):=fun h hs h3=>by
  rw[← hR',if_neg (no_na h),if_neg (fun h=>hs h.1),if_neg (by omega),if_pos h3,Bool.eq_false_iff.2 hs]
 obtain⟨Gd,hGd⟩:∃ Gd:Prop,Gd=(uZ (fN f) (nB a1 a0)=1∨uZ (fN f) (nB a1 a0)=2):=⟨_,rfl⟩
 have fin:¬ zi (fN f) false (nB a1 a0)=true→¬ uZ (fN f) (nB a1 a0)=0→¬ uZ (fN f) (nB a1 a0)=3→Gd:=fun h h1 h2=>by
  have:=no_na h
  rw[hGd];omega
 obtain⟨C,hC⟩:∃ C,C=FP.sqrtC (fN f) (u8 m).toNat (vG t) (FP.cod (fN f) (nB a1 a0)):=⟨_,rfl⟩
 have rF:Gd→¬ sA=true→R=(FP.mk (fN f) false C.1,C.2):=fun g hs=>by
  rw[hGd] at g
  rw[← hR',if_neg (by omega),if_neg (fun h=>hs h.1),if_neg (by omega),if_neg (by omega),hC]
 have C8:u8 (C.2:Int)=(C.2:Int):=by
  rw[hC,FP.sqrtC_eq]
  exact IU (FP.roundC_flag_set (FP.fP (fN f)) (FP.fE (fN f)) (u8 m).toNat (vG t) false (FP.rtN (fN f) (FP.cod (fN f) (nB a1 a0))) (FP.rtD (fN f) (FP.cod (fN f) (nB a1 a0))))
 have rn:∀ (Z:Nat) (e:Int),Gd→Z<vL→e=FP.sqX (fN f) (FP.cod (fN f) (nB a1 a0))+155→(-20000≤e∧e≤20000)→Z=FP.jamR (FP.sqN (fN f) (FP.cod (fN f) (nB a1 a0))) →
   yu [u8 f,u8 m,vw (vG t),0,e,wd Z 0,wd Z 1,wd Z 2,wd Z 3] = [wd (FP.mk (fN f) false C.1) 1,wd (FP.mk (fN f) false C.1) 0,(C.2:Int)]:=fun Z e g hZ he hr hj=>by
  obtain⟨z1,z2⟩:=avy hr
  rw[GI _ _ _ _ _ _ _ _ _ hf3 (by rw[wS];exact hm),vH,wS,vJ,show vG 0=false from rfl,z1,z2,xP hZ,he,hj,show FP.roundE (FP.fP (fN f)) (FP.fE (fN f)) (u8 m).toNat (vG t) false (FP.sqX (fN f) (FP.cod (fN f) (nB a1 a0))+155) (FP.jamR (FP.sqN (fN f) (FP.cod (fN f) (nB a1 a0))))=C from hC.symm,vR];rfl
 have evn:Gd→(ea-255)%2=0→FP.sqN (fN f) (FP.cod (fN f) (nB a1 a0))=X∧FP.sqX (fN f) (FP.cod (fN f) (nB a1 a0))=(ea-255)/2:=fun g h=>by
  rw[hGd] at g
  obtain⟨b1,b2,b3,b4,b5⟩:=Co hf g
  rw[← hea] at b3
  rw[← hx] at b2
  unfold FP.sqN FP.sqX
  rw[← b3,← b2,if_pos h,if_pos h,hX,yn]
  exact⟨rfl,rfl⟩
 have odd:Gd→¬ (ea-255)%2=0→FP.sqN (fN f) (FP.cod (fN f) (nB a1 a0))=Y∧FP.sqX (fN f) (FP.cod (fN f) (nB a1 a0))=(ea-254)/2:=fun g h=>by
  rw[hGd] at g
  obtain⟨b1,b2,b3,b4,b5⟩:=Co hf g
  rw[← hea] at b3
  rw[← hx] at b2
  unfold FP.sqN FP.sqX
  rw[← b3,← b2,if_neg h,if_neg h,hY,hX,yn,avz]
  exact⟨rfl,rfl⟩
 have rnX0:Gd→¬ ¬ (ea-255)%2=0→¬ ¬ r*r=X→yu [u8 f,u8 m,vw (vG t),0,i64 (i64 ((ea-255).tdiv 2)+155),wd (r*2^100) 0,wd (r*2^100) 1,wd (r*2^100) 2,wd (r*2^100) 3] = [wd (FP.mk (fN f) false C.1) 1,wd (FP.mk (fN f) false C.1) 0,(C.2:Int)]:=fun g h hz=>by
  have h:=Decidable.not_not.1 h
  obtain⟨n1,n2⟩:=evn g h
  rw[aiu h ra.1 ra.2]
  exact rn _ _ g (Nat.lt_of_succ_lt lX) (by rw[n2]) rg1 (by rw[n1];unfold FP.jamR;rw[← hr,if_pos (Decidable.not_not.1 hz),Nat.add_zero])
 have rnX1:Gd→¬ ¬ (ea-255)%2=0→¬ r*r=X→yu [u8 f,u8 m,vw (vG t),0,i64 (i64 ((ea-255).tdiv 2)+155),vX .or .u64 (wd (r*2^100) 0) 1,wd (r*2^100) 1,wd (r*2^100) 2,wd (r*2^100) 3] = [wd (FP.mk (fN f) false C.1) 1,wd (FP.mk (fN f) false C.1) 0,(C.2:Int)]:=fun g h hz=>by
  have h:=Decidable.not_not.1 h
  obtain⟨n1,n2⟩:=evn g h
  obtain⟨o1,o2,o3,o4⟩:=aaB (aip r)
  rw[aiu h ra.1 ra.2,o1,o2,o3,o4]
  exact rn _ _ g lX (by rw[n2]) rg1 (by rw[n1];unfold FP.jamR;rw[← hr,if_neg hz])
 have rnY0:Gd→¬ (ea-255)%2=0→¬ ¬ q*q=Y→yu [u8 f,u8 m,vw (vG t),0,i64 (i64 ((ea-255+1).tdiv 2)+155),wd (q*2^100) 0,wd (q*2^100) 1,wd (q*2^100) 2,wd (q*2^100) 3] = [wd (FP.mk (fN f) false C.1) 1,wd (FP.mk (fN f) false C.1) 0,(C.2:Int)]:=fun g h hz=>by
  obtain⟨n1,n2⟩:=odd g h
  rw[aiv h ra.1 ra.2]
  exact rn _ _ g (Nat.lt_of_succ_lt lY) (by rw[n2]) rg2 (by rw[n1];unfold FP.jamR;rw[← hq,if_pos (Decidable.not_not.1 hz),Nat.add_zero])
 have rnY1:Gd→¬ (ea-255)%2=0→¬ q*q=Y→yu [u8 f,u8 m,vw (vG t),0,i64 (i64 ((ea-255+1).tdiv 2)+155),vX .or .u64 (wd (q*2^100) 0) 1,wd (q*2^100) 1,wd (q*2^100) 2,wd (q*2^100) 3] = [wd (FP.mk (fN f) false C.1) 1,wd (FP.mk (fN f) false C.1) 0,(C.2:Int)]:=fun g h hz=>by
  obtain⟨n1,n2⟩:=odd g h
  obtain⟨o1,o2,o3,o4⟩:=aaB (aip q)
  rw[aiv h ra.1 ra.2,o1,o2,o3,o4]
  exact rn _ _ g lY (by rw[n2]) rg2 (by rw[n1];unfold FP.jamR;rw[← hq,if_neg hz])
 clear rn evn odd hr hq hX hY hR' no_na
 rw[Py,aa4]
 refine tF (by simp only[uY];exact known) ?_
 refine tF (by simp only[uY];exact knownm) ?_
 refine(ve (r:=[vw sA,((uZ (fN f) (nB a1 a0):Nat):Int),ea,wd (x) 1,wd (x) 0]) (by simp only[uY,atQ];exact unA) (by rfl)).trans ?_
 refine tI (sA=true) (by simp only[uY];exact(Bool.decide_coe _).symm) (fun h1=>?_) (fun h1=>?_)
 ·refine tI (¬ uZ (fN f) (nB a1 a0)=0) (by simp only[uY,u8A];exact arw _ 0) (fun h2=>?_) (fun h2=>?_)
  ·refine(ve (r:=[wd (AB (fN f) (decide (uZ (fN f) (nB a1 a0)≤3)) (nB a1 a0)) 1,wd (AB (fN f) (decide (uZ (fN f) (nB a1 a0)≤3)) (nB a1 a0)) 0,((Bb (fN f) (decide (uZ (fN f) (nB a1 a0)≤3)) (nB a1 a0):Nat):Int),vw (zi (fN f) (decide (uZ (fN f) (nB a1 a0)≤3)) (nB a1 a0))]) (by simp only[uY,aa5,u8A];exact pk _ _ (by first|rfl|(simp only[vJ,abf]))) (by rfl)).trans ?_
   refine tT (by simp only[uY];exact pkN) ?_
   rw[vg rfl]
   simp only[uY]
   rw[rN h1 h2]
   simp only[pkF8]
  ·refine(ve (r:=[wd (AB (fN f) false (nB a1 a0)) 1,wd (AB (fN f) false (nB a1 a0)) 0,((Bb (fN f) false (nB a1 a0):Nat):Int),vw (zi (fN f) false (nB a1 a0))]) (by simp only[uY,aa5,u8A];exact pk _ _ (by first|rfl|(simp only[vJ,abf]))) (by rfl)).trans ?_
   refine tI (zi (fN f) false (nB a1 a0)=true) (by simp only[uY];exact(Bool.decide_coe _).symm) (fun h3=>?_) (fun h3=>?_)
   ·rw[vg rfl]
    simp only[uY]
    rw[rP h3]
    simp only[pkF8]
   ·refine(ve (r:=[wd (FP.mk (fN f) sA 0) 1,wd (FP.mk (fN f) sA 0) 0]) (by simp only[uY,ahk];exact norE) (by rfl)).trans ?_
    rw[vg rfl]
    simp only[uY]
    rw[rZ h3 (Decidable.not_not.1 h2)]
    rfl
 ·refine(ve (r:=[wd (AB (fN f) false (nB a1 a0)) 1,wd (AB (fN f) false (nB a1 a0)) 0,((Bb (fN f) false (nB a1 a0):Nat):Int),vw (zi (fN f) false (nB a1 a0))]) (by simp only[uY,aa5,u8A];exact pk _ _ (by first|rfl|(simp only[vJ,abf]))) (by rfl)).trans ?_
  refine tI (zi (fN f) false (nB a1 a0)=true) (by simp only[uY];exact(Bool.decide_coe _).symm) (fun h4=>?_) (fun h4=>?_)
  ·rw[vg rfl]
   simp only[uY]
   rw[rP h4]
   simp only[pkF8]
  ·refine tI (uZ (fN f) (nB a1 a0)=0) (by simp only[uY,u8A];exact xS _ 0) (fun h5=>?_) (fun h5=>?_)
   ·refine(ve (r:=[wd (FP.mk (fN f) sA 0) 1,wd (FP.mk (fN f) sA 0) 0]) (by simp only[uY,ahk];exact norE) (by rfl)).trans ?_
    rw[vg rfl]
    simp only[uY]
    rw[rZ h4 h5]
    rfl
   ·refine tI (uZ (fN f) (nB a1 a0)=3) (by simp only[uY,u8A];exact xS _ 3) (fun h6=>?_) (fun h6=>?_)
    ·refine(ve (r:=[wd (FP.mk (fN f) sA (FP.inf (fN f))) 1,wd (FP.mk (fN f) sA (FP.inf (fN f))) 0]) (by simp only[uY,atS];exact infE) (by rfl)).trans ?_
     rw[vg rfl]
     simp only[uY]
     rw[rI h4 h1 h6]
     rfl
    ·refine(ve (r:=[wd (X) 0,wd (X) 1,wd (X) 2,wd (X) 3]) (by simp only[uY,atT];exact joX) (by rfl)).trans ?_
     refine tI (¬ (ea-255)%2=0) (by simp only[uY,iea,ie1,avv];exact avu _) (fun h7=>?_) (fun h7=>?_)
     ·refine(ve (r:=[wd (Y) 0,wd (Y) 1,wd (Y) 2,wd (Y) 3]) (by simp only[uY,atU];exact shY) (by rfl)).trans ?_
      refine(ve (r:=[wd q 1,wd q 0,vw (decide (q*q=Y))]) (by simp only[uY,ahh];exact rtY) (by rfl)).trans ?_
      refine(ve (r:=[wd (q) 0,wd (q) 1,wd (q) 2,wd (q) 3]) (by simp only[uY,ahi];exact Az ql) (by rfl)).trans ?_
      refine(ve (r:=[wd (q*2^100) 0,wd (q*2^100) 1,wd (q*2^100) 2,wd (q*2^100) 3]) (by simp only[uY,ahj];exact leY) (by rfl)).trans ?_
      refine tI (¬ q*q=Y) (by simp only[uY];exact(decide_not).symm) (fun h8=>?_) (fun h8=>?_)
      ·refine(ve (r:=[wd (FP.mk (fN f) false C.1) 1,wd (FP.mk (fN f) false C.1) 0,(C.2:Int)]) (by simp only[uY,Vt,iea,ie1,ie2,VB];exact rnY1 (fin h4 h5 h6) h7 h8) (by rfl)).trans ?_
       rw[vg rfl]
       simp only[uY]
       rw[rF (fin h4 h5 h6) h1,C8]
      ·refine(ve (r:=[wd (FP.mk (fN f) false C.1) 1,wd (FP.mk (fN f) false C.1) 0,(C.2:Int)]) (by simp only[uY,Vt,iea,ie1,ie2,VB];exact rnY0 (fin h4 h5 h6) h7 h8) (by rfl)).trans ?_
       rw[vg rfl]
       simp only[uY]
       rw[rF (fin h4 h5 h6) h1,C8]
     ·refine(ve (r:=[wd r 1,wd r 0,vw (decide (r*r=X))]) (by simp only[uY,ahh];exact rtX) (by rfl)).trans ?_
      refine(ve (r:=[wd (r) 0,wd (r) 1,wd (r) 2,wd (r) 3]) (by simp only[uY,ahi];exact Az rl) (by rfl)).trans ?_
      refine(ve (r:=[wd (r*2^100) 0,wd (r*2^100) 1,wd (r*2^100) 2,wd (r*2^100) 3]) (by simp only[uY,ahj];exact leX) (by rfl)).trans ?_
      refine tI (¬ r*r=X) (by simp only[uY];exact(decide_not).symm) (fun h9=>?_) (fun h9=>?_)
      ·refine(ve (r:=[wd (FP.mk (fN f) false C.1) 1,wd (FP.mk (fN f) false C.1) 0,(C.2:Int)]) (by simp only[uY,Vt,iea,ie1,ie2,VB];exact rnX1 (fin h4 h5 h6) h7 h9) (by rfl)).trans ?_
       rw[vg rfl]
       simp only[uY]
       rw[rF (fin h4 h5 h6) h1,C8]
      ·refine(ve (r:=[wd (FP.mk (fN f) false C.1) 1,wd (FP.mk (fN f) false C.1) 0,(C.2:Int)]) (by simp only[uY,Vt,iea,ie1,ie2,VB];exact rnX0 (fin h4 h5 h6) h7 h9) (by rfl)).trans ?_
       rw[vg rfl]
       simp only[uY]
       rw[rF (fin h4 h5 h6) h1,C8]
end Go.Proofs.YtemomocmfggiaaaGreatDoor
