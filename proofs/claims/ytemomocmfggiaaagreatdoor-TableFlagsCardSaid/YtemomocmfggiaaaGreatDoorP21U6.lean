import Derived.Test.YtemomocmfggiaaaGreatDoorZ1U6
import Derived.Test.YtemomocmfggiaaaGreatDoorW11U6
set_option linter.unusedSimpArgs false
set_option linter.unusedVariables false
set_option maxRecDepth 100000
namespace Go.Proofs.YtemomocmfggiaaaGreatDoor
open Go.RowKit
theorem aih {r d:Nat} {x:Int} (hr:r<d) (hd:d<vF) (h0:0≤x) (h1:x≤40000):LV [wd r 1,wd r 0,x,wd d 1,wd d 0] = [wd (vO r x.toNat d).1 1,wd (vO r x.toNat d).1 0,vw (vO r x.toNat d).2,1]:=by
 rw[aa1,xn (by omega),xn hd,wL (by omega) (by omega),aa0 ⟨hr,h0,h1⟩,vR];rfl
def L8 (x y:Nat):Bool:=decide (x=3)||decide (y=0)
def Df (f a b:Nat):Nat×Nat :=
 if 4≤uZ f a then(xz f a,Bv f a b) else if 4≤uZ f b then(xz f b,Bv f a b)
 else if L8 (uZ f a) (uZ f b)=true then(dfl f,1)
 else if uZ f a=0∨uZ f b=3 then(FP.mk f (FP.sgn f a) (FP.cod f a),0)
 else(FP.mk f (FP.sgn f a != (FP.remT (FP.val f (FP.cod f a)) (FP.val f (FP.cod f b)) && !decide (FP.remV (FP.val f (FP.cod f a)) (FP.val f (FP.cod f b))=0))) (FP.remC f (FP.cod f a) (FP.cod f b)),0)
theorem avl {f c d k l:Nat} (hf:f<4) (c0:0<c) (c1:c<FP.inf f) (d0:0<d) (d1:d<FP.inf f) (hk:(FP.unExp f c:Int)+40000=k) (hl:(FP.unExp f d:Int)+40000=l) (h:2*(FP.unSig f c*2^k)<FP.unSig f d*2^l) :
  FP.remT (FP.val f c) (FP.val f d)=false∧FP.remC f c d=c:=by
 obtain⟨h1,h2⟩:=FP.rem_at hf c0 c1 d0 d1 hk hl
 obtain⟨e1,e2⟩:=FP.rem_small h
 rw[e1] at h2
 rw[e2] at h1
 have ha:=FP.at_num hf c0 c1
 rw[show(FP.unExp f c+40000).toNat=k by omega,Nat.mul_right_comm,h1] at ha
 have hv:=Nat.eq_of_mul_eq_mul_right (FP.two_pow_pos _) ha
 have r3:=(FP.remC_val hf c1 d0 d1).2.2 false false
 exact⟨h2.symm,congrArg Prod.fst (r3.symm.trans (FP.roundC_exact (FP.fP_ge hf) (by decide) c1 (by rw[Nat.mul_one];exact hv)))⟩
theorem avm {x y:Nat} (h1:x<2*y):FP.remT x (2*y)=decide (y<x)∧FP.remV x (2*y)=if y<x then 2*y-x else x:=by
 have hm:x%(2*y)=x:=Nat.mod_eq_of_lt h1
 have hd:x/(2*y)=0:=Nat.div_eq_of_lt h1
 have ht:FP.remT x (2*y)=decide (y<x):=by
  unfold FP.remT
  rw[hm,hd,Bool.eq_iff_iff]
  simp only[Bool.or_eq_true,Bool.and_eq_true,decide_eq_true_iff]
  omega
 refine⟨ht,?_⟩
 unfold FP.remV
 rw[ht,hm]
 by_cases h:y<x
 ·rw[if_pos (decide_eq_true h),if_pos h]
 ·rw[if_neg h,if_neg (by rw[decide_eq_false h];exact Bool.false_ne_true)]
theorem avn {A B m:Nat} {o:Bool} (hB:0<B) (hm:A%B=m) (ho:decide (A/B%2=1)=o):(FP.remT A B=(decide (B-m<m)||(decide (m=B-m)&&o)))∧FP.remV A B=if FP.remT A B=true then B-m else m:=by
 have hl:m<B:=by rw[← hm];exact Nat.mod_lt _ hB
 refine⟨?_,by unfold FP.remV;rw[hm]⟩
 unfold FP.remT
 rw[hm,ho]
 congr 1
 ·rw[decide_eq_decide];omega
 ·congr 1;rw[decide_eq_decide];omega
theorem aii {x y n:Nat} (hy:0<y) (hx:x<2*y) :
  (y≤x→vO (x-y) (n+1) y=vO x (n+1) y∧vO x 0 y=(x-y,true))∧(¬ y≤x→vO x 0 y=(x,false)):=by
 refine⟨fun h=>?_,fun h=>Vq (by omega)⟩
 obtain⟨_,⟨h1,h2⟩,h3,h4⟩:=FP.rest_pow (n:=n) (r:=x-y) (odd:=true) hy (by rw[if_pos h]) hx
 unfold vO
 rw[h3,h4,Nat.pow_zero,Nat.mul_one,h1,h2]
 exact⟨rfl,rfl⟩
theorem R4 (x y:Nat):L8 x y=true↔x=3∨y=0:=by unfold L8;simp only[Bool.or_eq_true,decide_eq_true_iff]
theorem avo {f a b S:Nat} {T:Bool} {e:Int} (hf:f<4) (ha:uZ f a=1∨uZ f a=2) (hb:uZ f b=1∨uZ f b=2) (he:e=min (vQ f a) (vQ f b))
  (hV:S*2^(e+40000).toNat=FP.remV (wu f a*2^(vQ f a+40000).toNat) (wu f b*2^(vQ f b+40000).toNat)) (hT:FP.remT (wu f a*2^(vQ f a+40000).toNat) (wu f b*2^(vQ f b+40000).toNat)=T) :
  Df f a b=(FP.mk f (FP.sgn f a != (T && !decide (S=0))) (FP.remC f (FP.cod f a) (FP.cod f b)),0)∧∀ after neg,FP.roundE (FP.fP f) (FP.fE f) 4 after neg (e+128) S=(FP.remC f (FP.cod f a) (FP.cod f b),0):=by
 obtain⟨a1,a2,a3,a4,a5⟩:=Co hf ha
 obtain⟨b1,b2,b3,b4,b5⟩:=Co hf hb
 have ra:=yJ (f:=f) (b:=a)
 have rb:=yJ (f:=f) (b:=b)
 rw[a2,a3,b2,b3] at hV hT
 rw[a3] at ra
 rw[b3] at rb
 obtain⟨h1,h2⟩:=FP.rem_at hf a4 a5 b4 b5 (k:=(FP.unExp f (FP.cod f a)+40000).toNat) (l:=(FP.unExp f (FP.cod f b)+40000).toNat) (by omega) (by omega)
 have he2 : -40000≤e:=by rw[he,a3,b3];omega
 refine⟨?_,fun after neg=>FP.rem_round (m:=0) hf a4 a5 b4 b5 he2 hV⟩
 have n1:¬ 4≤uZ f a:=by omega
 have n2:¬ 4≤uZ f b:=by omega
 have n3:¬ L8 (uZ f a) (uZ f b)=true:=by rw[R4];omega
 have n4:¬ (uZ f a=0∨uZ f b=3):=by omega
 have hz:FP.remV (FP.val f (FP.cod f a)) (FP.val f (FP.cod f b))=0↔S=0:=by
  rw[← hV] at h1
  have p1:=FP.two_pow_pos (e+40000).toNat
  have p2:=FP.two_pow_pos 128
  have p3:=FP.two_pow_pos (255-FP.fU f+40000:Int).toNat
  constructor
  ·intro h;rw[h,Nat.zero_mul] at h1
   rcases Nat.mul_eq_zero.1 h1 with h3|h3
   ·rcases Nat.mul_eq_zero.1 h3 with h4|h4
    ·exact h4
    ·omega
   ·omega
  ·intro h;rw[h,Nat.zero_mul,Nat.zero_mul] at h1
   rcases Nat.mul_eq_zero.1 h1.symm with h3|h3
   ·exact h3
   ·omega
 unfold Df
 rw[if_neg n1,if_neg n2,if_neg n3,if_neg n4,← h2,hT,decide_eq_decide.2 hz]
theorem aij {f a b x y:Nat} (hx:x=wu f a) (hy:y=wu f b) (h:vQ f a=vQ f b-1) (hx1:x<2*y) :
  (if y<x then 2*y-x else x)*2^(vQ f a+40000).toNat=FP.remV (wu f a*2^(vQ f a+40000).toNat) (wu f b*2^(vQ f b+40000).toNat)∧FP.remT (wu f a*2^(vQ f a+40000).toNat) (wu f b*2^(vQ f b+40000).toNat)=decide (y<x):=by
 have ra:=yJ (f:=f) (b:=a)
 have e:wu f b*2^(vQ f b+40000).toNat=2*y*2^(vQ f a+40000).toNat:=by
  rw[show(vQ f b+40000).toNat=(vQ f a+40000).toNat+1 by omega,Nat.pow_succ,← hy]
  generalize 2^(vQ f a+40000).toNat=k
  rw[Nat.mul_comm 2 y,Nat.mul_assoc y 2 k,Nat.mul_comm 2 k]
 rw[e,← hx]
 obtain⟨s1,s2⟩:=FP.remV_scale (A:=x) (B:=2*y) (FP.two_pow_pos (vQ f a+40000).toNat)
 obtain⟨t1,t2⟩:=avm hx1
 rw[s1,s2,t1,t2]
 exact⟨rfl,rfl⟩
theorem aik {f a b x y m:Nat} {o:Bool} (hx:x=wu f a) (hy:y=wu f b) (h:vQ f b≤vQ f a) (h0:0<y) (hm:vO x (vQ f a-vQ f b).toNat y=(m,o)) :
  (if (decide (y-m<m)||(decide (m=y-m)&&o))=true then y-m else m)*2^(vQ f b+40000).toNat=FP.remV (wu f a*2^(vQ f a+40000).toNat) (wu f b*2^(vQ f b+40000).toNat)∧FP.remT (wu f a*2^(vQ f a+40000).toNat) (wu f b*2^(vQ f b+40000).toNat)=(decide (y-m<m)||(decide (m=y-m)&&o)):=by
 have rb:=yJ (f:=f) (b:=b)
 have e:wu f a*2^(vQ f a+40000).toNat=x*2^(vQ f a-vQ f b).toNat*2^(vQ f b+40000).toNat:=by
  rw[show(vQ f a+40000).toNat=(vQ f a-vQ f b).toNat+(vQ f b+40000).toNat by omega,Nat.pow_add,← hx,Nat.mul_assoc]
 rw[e,← hy]
 obtain⟨s1,s2⟩:=FP.remV_scale (A:=x*2^(vQ f a-vQ f b).toNat) (B:=y) (FP.two_pow_pos (vQ f b+40000).toNat)
 unfold vO at hm
 obtain⟨m1,m2⟩:=Prod.mk.inj hm
 obtain⟨t1,t2⟩:=avn h0 m1 m2
 rw[s1,s2,t2,t1]
 exact⟨rfl,rfl⟩
theorem ail {x y:Nat} (hx:x<vF) (hy:2^127≤y):x<2*y∧0<y:=by
 rw[yn,show(2:Nat)^128=2*2^127 by rw[← Nat.pow_succ']] at hx
 have:=FP.two_pow_pos 127
 generalize (2:Nat)^127=P at *
 omega
theorem VA:2*vF≤vL:=by decide
theorem avp {x y:Nat} (hy:y<vF):2*y-x<vL:=by have:=VA;omega
theorem avq {y:Nat} (hy:y<vF):y+y<vL:=by have:=VA;omega
theorem avr {p q:Nat} (hp:p<vF):p-q<vL:=by have:=VA;omega
theorem aim {p:Nat} (hp:p<vF):p<vL:=by have:=VA;omega
theorem avs {x y i j:Nat} (hxy:x<2*y) (h:i+2≤j):2*(x*2^i)<y*2^j:=by
 obtain⟨k,rfl⟩:=Nat.exists_eq_add_of_le h
 have hP:=FP.two_pow_pos i
 have hk:=FP.two_pow_pos k
 rw[Nat.pow_add,Nat.pow_add]
 generalize (2:Nat)^i=P at *
 generalize (2:Nat)^k=K at *
 calc 2*(x*P)=x*(2*P):=by ac_rfl
  _<(2*y)*(2*P):=Nat.mul_lt_mul_of_pos_right hxy (by omega)
  _=y*(P*2^2*1):=by rw[show(2:Nat)^2=2*2 from rfl,Nat.mul_one];ac_rfl
  _≤y*(P*2^2*K):=Nat.mul_le_mul_left _ (Nat.mul_le_mul_left _ hk)
theorem avt {f a b:Nat} (hf:f<4) (ha:uZ f a=1∨uZ f a=2) (hb:uZ f b=1∨uZ f b=2) (h:vQ f a<vQ f b-1):Df f a b=(FP.mk f (FP.sgn f a) (FP.cod f a),0):=by
 obtain⟨a1,a2,a3,a4,a5⟩:=Co hf ha
 obtain⟨b1,b2,b3,b4,b5⟩:=Co hf hb
 have ra:=yJ (f:=f) (b:=a)
 have rb:=yJ (f:=f) (b:=b)
 have xl:wu f a<vF:=zL _ _
 have hxy:=(ail xl b1).1
 rw[a2,b2] at hxy
 clear a1 b1 a2 b2 xl
 rw[a3] at ra h
 rw[b3] at rb h
 clear a3 b3
 have hi:(FP.unExp f (FP.cod f a)+40000).toNat+2≤(FP.unExp f (FP.cod f b)+40000).toNat:=by omega
 have hk:(FP.unExp f (FP.cod f a):Int)+40000=((FP.unExp f (FP.cod f a)+40000).toNat:Nat):=by omega
 have hl:(FP.unExp f (FP.cod f b):Int)+40000=((FP.unExp f (FP.cod f b)+40000).toNat:Nat):=by omega
 obtain⟨t1,t2⟩:=avl hf a4 a5 b4 b5 hk hl (avs hxy hi)
 have n1:¬ 4≤uZ f a:=by omega
 have n2:¬ 4≤uZ f b:=by omega
 have n3:¬ L8 (uZ f a) (uZ f b)=true:=by rw[R4];omega
 have n4:¬ (uZ f a=0∨uZ f b=3):=by omega
 unfold Df
 rw[if_neg n1,if_neg n2,if_neg n3,if_neg n4,t1,t2,Bool.false_and,Bool.bne_false]
end Go.Proofs.YtemomocmfggiaaaGreatDoor
