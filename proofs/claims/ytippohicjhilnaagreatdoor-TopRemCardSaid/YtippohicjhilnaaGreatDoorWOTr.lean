import Derived.Test.YtippohicjhilnaaGreatDoorWBTr
import Derived.Test.YtippohicjhilnaaGreatDoorWMTr
import Derived.Test.YtippohicjhilnaaGreatDoorZ1Tr
import Derived.Test.YtippohicjhilnaaGreatDoorZQTr
set_option linter.unusedSimpArgs false
set_option linter.unusedVariables false
set_option maxRecDepth 100000
set_option maxHeartbeats 1500000
namespace Go.Proofs.YtippohicjhilnaaGreatDoor
open Go.RowKit
theorem akV {r d:Nat} {x:Int} (hr:r<d) (hd:d<uh) (h0:0<=x) (h1:x<=40000):Me [wd r 1,wd r 0,x,wd d 1,wd d 0] = [wd (uo r x.toNat d).1 1,wd (uo r x.toNat d).1 0,ui (uo r x.toNat d).2,1]:=by rw[acI,vv (by omega),vv hd,vX (by omega) (by omega),acH ⟨hr,h0,h1⟩,uV];rfl
def Mh (x y:Nat):Bool:=decide (x=3)||decide (y=0)
def Co (f a b:Nat):Nat×Nat :=
 if 4<=uf f a then(Bz f a,NM f a b) else if 4<=uf f b then(Bz f b,NM f a b)
 else if Mh (uf f a) (uf f b)=true then(Dt f,1)
 else if uf f a=0\/uf f b=3 then(FP.mk f (FP.sgn f a) (FP.cod f a),0)
 else(FP.mk f (FP.sgn f a != (FP.remT (FP.val f (FP.cod f a)) (FP.val f (FP.cod f b)) && !decide (FP.remV (FP.val f (FP.cod f a)) (FP.val f (FP.cod f b))=0))) (FP.remC f (FP.cod f a) (FP.cod f b)),0)
theorem az6 {f c d k l:Nat} (hf:f<4) (c0:0<c) (c1:c<FP.inf f) (d0:0<d) (d1:d<FP.inf f) (hk:(FP.unExp f c:Int)+40000=k) (hl:(FP.unExp f d:Int)+40000=l) (h:2*(FP.unSig f c*2^k)<FP.unSig f d*2^l) :
  FP.remT (FP.val f c) (FP.val f d)=false/\FP.remC f c d=c:=by
 obtain⟨h1,h2⟩:=FP.rem_at hf c0 c1 d0 d1 hk hl;obtain⟨e1,e2⟩:=FP.rem_small h;rw[e1] at h2;rw[e2] at h1;have ha:=FP.at_num hf c0 c1;rw[show(FP.unExp f c+40000).toNat=k by omega,Nat.mul_right_comm,h1] at ha;have hv:=Nat.eq_of_mul_eq_mul_right (FP.two_pow_pos _) ha;have r3:=(FP.remC_val hf c1 d0 d1).2.2 false false;exact⟨h2.symm,congrArg Prod.fst (r3.symm.trans (FP.roundC_exact (FP.fP_ge hf) (by decide) c1 (by rw[Nat.mul_one];exact hv)))⟩
theorem az7 {x y:Nat} (h1:x<2*y):FP.remT x (2*y)=decide (y<x)/\FP.remV x (2*y)=if y<x then 2*y-x else x:=by
 have hm:x%(2*y)=x:=Nat.mod_eq_of_lt h1;have hd:x/(2*y)=0:=Nat.div_eq_of_lt h1
 have ht:FP.remT x (2*y)=decide (y<x):=by unfold FP.remT;rw[hm,hd,Bool.eq_iff_iff];simp only[Bool.or_eq_true,Bool.and_eq_true,decide_eq_true_iff];omega
 refine⟨ht,?_⟩;unfold FP.remV;rw[ht,hm];by_cases h:y<x
 ·rw[if_pos (decide_eq_true h),if_pos h]
 ·rw[if_neg h,if_neg (by rw[decide_eq_false h];exact Bool.false_ne_true)]
theorem az8 {A B m:Nat} {o:Bool} (hB:0<B) (hm:A%B=m) (ho:decide (A/B%2=1)=o):(FP.remT A B=(decide (B-m<m)||(decide (m=B-m)&&o)))/\FP.remV A B=if FP.remT A B=true then B-m else m:=by
 have hl:m<B:=by rw[<- hm];exact Nat.mod_lt _ hB
 refine⟨?_,by unfold FP.remV;rw[hm]⟩;unfold FP.remT;rw[hm,ho];congr 1
 ·rw[decide_eq_decide];omega
 ·congr 1;rw[decide_eq_decide];omega
theorem akW {x y n:Nat} (hy:0<y) (hx:x<2*y) :
  (y<=x->uo (x-y) (n+1) y=uo x (n+1) y/\uo x 0 y=(x-y,true))/\(¬ y<=x->uo x 0 y=(x,false)):=by
 refine⟨λh=>?_,λh=>Wu (by omega)⟩;obtain⟨_,⟨h1,h2⟩,h3,h4⟩:=FP.rest_pow (n:=n) (r:=x-y) (odd:=true) hy (by rw[if_pos h]) hx;unfold uo;rw[h3,h4,Nat.pow_zero,Nat.mul_one,h1,h2];exact⟨rfl,rfl⟩
theorem Qv (x y:Nat):Mh x y=true↔x=3\/y=0:=by unfold Mh;simp only[Bool.or_eq_true,decide_eq_true_iff]
theorem az9 {f a b S:Nat} {T:Bool} {e:Int} (hf:f<4) (ha:uf f a=1\/uf f a=2) (hb:uf f b=1\/uf f b=2) (he:e=min (uS f a) (uS f b))
  (hV:S*2^(e+40000).toNat=FP.remV (wI f a*2^(uS f a+40000).toNat) (wI f b*2^(uS f b+40000).toNat)) (hT:FP.remT (wI f a*2^(uS f a+40000).toNat) (wI f b*2^(uS f b+40000).toNat)=T) :
  Co f a b=(FP.mk f (FP.sgn f a != (T && !decide (S=0))) (FP.remC f (FP.cod f a) (FP.cod f b)),0)/\∀ after neg,FP.roundE (FP.fP f) (FP.fE f) 4 after neg (e+128) S=(FP.remC f (FP.cod f a) (FP.cod f b),0):=by
 obtain⟨a1,a2,a3,a4,a5⟩:=Ov hf ha;obtain⟨b1,b2,b3,b4,b5⟩:=Ov hf hb;have ra:=Gi (f:=f) (b:=a);have rb:=Gi (f:=f) (b:=b);rw[a2,a3,b2,b3] at hV hT;rw[a3] at ra;rw[b3] at rb;obtain⟨h1,h2⟩:=FP.rem_at hf a4 a5 b4 b5 (k:=(FP.unExp f (FP.cod f a)+40000).toNat) (l:=(FP.unExp f (FP.cod f b)+40000).toNat) (by omega) (by omega);have he2 : -40000<=e:=by rw[he,a3,b3];omega
 refine⟨?_,λafter neg=>FP.rem_round (m:=0) hf a4 a5 b4 b5 he2 hV⟩;have n1:¬ 4<=uf f a:=by omega
 have n2:¬ 4<=uf f b:=by omega
 have n3:¬ Mh (uf f a) (uf f b)=true:=by rw[Qv];omega
 have n4:¬ (uf f a=0\/uf f b=3):=by omega
 have hz:FP.remV (FP.val f (FP.cod f a)) (FP.val f (FP.cod f b))=0↔S=0:=by
  rw[<- hV] at h1;have p1:=FP.two_pow_pos (e+40000).toNat;have p2:=FP.two_pow_pos 128;have p3:=FP.two_pow_pos (255-FP.fU f+40000:Int).toNat;constructor
  ·intro h;rw[h,Nat.zero_mul] at h1;rcases Nat.mul_eq_zero.1 h1 with h3|h3
   ·rcases Nat.mul_eq_zero.1 h3 with h4|h4
    ·exact h4
    ·omega
   ·omega
  ·intro h;rw[h,Nat.zero_mul,Nat.zero_mul] at h1;rcases Nat.mul_eq_zero.1 h1.symm with h3|h3
   ·exact h3
   ·omega
 unfold Co;rw[if_neg n1,if_neg n2,if_neg n3,if_neg n4,<- h2,hT,decide_eq_decide.2 hz]
theorem akX {f a b x y:Nat} (hx:x=wI f a) (hy:y=wI f b) (h:uS f a=uS f b-1) (hx1:x<2*y) :
  (if y<x then 2*y-x else x)*2^(uS f a+40000).toNat=FP.remV (wI f a*2^(uS f a+40000).toNat) (wI f b*2^(uS f b+40000).toNat)/\FP.remT (wI f a*2^(uS f a+40000).toNat) (wI f b*2^(uS f b+40000).toNat)=decide (y<x):=by
 have ra:=Gi (f:=f) (b:=a)
 have e:wI f b*2^(uS f b+40000).toNat=2*y*2^(uS f a+40000).toNat:=by rw[show(uS f b+40000).toNat=(uS f a+40000).toNat+1 by omega,Nat.pow_succ,<- hy];generalize 2^(uS f a+40000).toNat=k;rw[Nat.mul_comm 2 y,Nat.mul_assoc y 2 k,Nat.mul_comm 2 k]
 rw[e,<- hx];obtain⟨s1,s2⟩:=FP.remV_scale (A:=x) (B:=2*y) (FP.two_pow_pos (uS f a+40000).toNat);obtain⟨t1,t2⟩:=az7 hx1;rw[s1,s2,t1,t2];exact⟨rfl,rfl⟩
theorem akY {f a b x y m:Nat} {o:Bool} (hx:x=wI f a) (hy:y=wI f b) (h:uS f b<=uS f a) (h0:0<y) (hm:uo x (uS f a-uS f b).toNat y=(m,o)) :
  (if (decide (y-m<m)||(decide (m=y-m)&&o))=true then y-m else m)*2^(uS f b+40000).toNat=FP.remV (wI f a*2^(uS f a+40000).toNat) (wI f b*2^(uS f b+40000).toNat)/\FP.remT (wI f a*2^(uS f a+40000).toNat) (wI f b*2^(uS f b+40000).toNat)=(decide (y-m<m)||(decide (m=y-m)&&o)):=by
 have rb:=Gi (f:=f) (b:=b)
 have e:wI f a*2^(uS f a+40000).toNat=x*2^(uS f a-uS f b).toNat*2^(uS f b+40000).toNat:=by rw[show(uS f a+40000).toNat=(uS f a-uS f b).toNat+(uS f b+40000).toNat by omega,Nat.pow_add,<- hx,Nat.mul_assoc]
 rw[e,<- hy];obtain⟨s1,s2⟩:=FP.remV_scale (A:=x*2^(uS f a-uS f b).toNat) (B:=y) (FP.two_pow_pos (uS f b+40000).toNat);unfold uo at hm;obtain⟨m1,m2⟩:=Prod.mk.inj hm;obtain⟨t1,t2⟩:=az8 h0 m1 m2;rw[s1,s2,t2,t1];exact⟨rfl,rfl⟩
theorem akZ {x y:Nat} (hx:x<uh) (hy:2^127<=y):x<2*y/\0<y:=by
 rw[yN,show(2:Nat)^128=2*2^127 by rw[<- Nat.pow_succ']] at hx;have:=FP.two_pow_pos 127;generalize (2:Nat)^127=P at *
 omega
theorem WL:2*uh<=uu:=by decide
theorem aAa {x y:Nat} (hy:y<uh):2*y-x<uu:=by have:=WL;omega
theorem aAb {y:Nat} (hy:y<uh):y+y<uu:=by have:=WL;omega
theorem aAc {p q:Nat} (hp:p<uh):p-q<uu:=by have:=WL;omega
theorem ak0 {p:Nat} (hp:p<uh):p<uu:=by have:=WL;omega
theorem aAd {x y i j:Nat} (hxy:x<2*y) (h:i+2<=j):2*(x*2^i)<y*2^j:=by
 obtain⟨k,rfl⟩:=Nat.exists_eq_add_of_le h;have hP:=FP.two_pow_pos i;have hk:=FP.two_pow_pos k;rw[Nat.pow_add,Nat.pow_add];generalize (2:Nat)^i=P at *
 generalize (2:Nat)^k=K at *
 calc 2*(x*P)=x*(2*P):=by ac_rfl
  _<(2*y)*(2*P):=Nat.mul_lt_mul_of_pos_right hxy (by omega)
  _=y*(P*2^2*1):=by rw[show(2:Nat)^2=2*2 from rfl,Nat.mul_one];ac_rfl
  _<=y*(P*2^2*K):=Nat.mul_le_mul_left _ (Nat.mul_le_mul_left _ hk)
theorem aAe {f a b:Nat} (hf:f<4) (ha:uf f a=1\/uf f a=2) (hb:uf f b=1\/uf f b=2) (h:uS f a<uS f b-1):Co f a b=(FP.mk f (FP.sgn f a) (FP.cod f a),0):=by
 obtain⟨a1,a2,a3,a4,a5⟩:=Ov hf ha;obtain⟨b1,b2,b3,b4,b5⟩:=Ov hf hb;have ra:=Gi (f:=f) (b:=a);have rb:=Gi (f:=f) (b:=b);have xl:wI f a<uh:=RQ _ _;have hxy:=(akZ xl b1).1;rw[a2,b2] at hxy;clear a1 b1 a2 b2 xl;rw[a3] at ra h;rw[b3] at rb h;clear a3 b3;have hi:(FP.unExp f (FP.cod f a)+40000).toNat+2<=(FP.unExp f (FP.cod f b)+40000).toNat:=by omega
 have hk:(FP.unExp f (FP.cod f a):Int)+40000=((FP.unExp f (FP.cod f a)+40000).toNat:Nat):=by omega
 have hl:(FP.unExp f (FP.cod f b):Int)+40000=((FP.unExp f (FP.cod f b)+40000).toNat:Nat):=by omega
 obtain⟨t1,t2⟩:=az6 hf a4 a5 b4 b5 hk hl (aAd hxy hi);have n1:¬ 4<=uf f a:=by omega
 have n2:¬ 4<=uf f b:=by omega
 have n3:¬ Mh (uf f a) (uf f b)=true:=by rw[Qv];omega
 have n4:¬ (uf f a=0\/uf f b=3):=by omega
 unfold Co;rw[if_neg n1,if_neg n2,if_neg n3,if_neg n4,t1,t2,Bool.false_and,Bool.bne_false]
theorem aAf (x y:Int):(x==y)=decide (x=y):=by rw[Bool.eq_iff_iff,beq_iff_eq,decide_eq_true_iff]
theorem aAg (f a1 a0 b1 b0:Int) (hf:fN f<4):Qp [f,a1,a0,b1,b0]=oR (Co (fN f) (nB a1 a0) (nB b1 b0)):=by
 have hf3:fN (u8 f)<4:=by rw[uD];exact hf
 have known:=aaP hf;have sg:∀ x,Fj (fN f) x=FP.sgn (fN f) x:=λx=>by unfold Fj;rw[decide_eq_true hf,Bool.true_and]
 obtain⟨x,hx⟩:∃ x,x=wI (fN f) (nB a1 a0):=⟨_,rfl⟩;obtain⟨y,hy⟩:∃ y,y=wI (fN f) (nB b1 b0):=⟨_,rfl⟩;obtain⟨ea,hea⟩:∃ e,e=uS (fN f) (nB a1 a0):=⟨_,rfl⟩;obtain⟨eb,heb⟩:∃ e,e=uS (fN f) (nB b1 b0):=⟨_,rfl⟩;have ra:=Gi (f:=fN f) (b:=nB a1 a0);have rb:=Gi (f:=fN f) (b:=nB b1 b0);rw[<- hea] at ra;rw[<- heb] at rb;have xl:x<uh:=by rw[hx];exact RQ _ _
 have yl:y<uh:=by rw[hy];exact RQ _ _
 have iea:i64 ea=ea:=vX (by omega) (by omega);have ieb:i64 eb=eb:=vX (by omega) (by omega);have ies:i64 (ea-eb)=ea-eb:=vX (by omega) (by omega);have ie1:i64 (eb-1)=eb-1:=vX (by omega) (by omega);have iem:i64 (min ea eb+128)=min ea eb+128:=vX (by omega) (by omega)
 have unA:Ex [u8 f,u64 a1,u64 a0] = [ui (FP.sgn (fN f) (nB a1 a0)),((uf (fN f) (nB a1 a0):Nat):Int),ea,wd x 1,wd x 0]:=by rw[Vf,uD,vQ,sg,uV,hx,hea];rfl
 have unB:Ex [u8 f,u64 b1,u64 b0] = [ui (FP.sgn (fN f) (nB b1 b0)),((uf (fN f) (nB b1 b0):Nat):Int),eb,wd y 1,wd y 0]:=by rw[Vf,uD,vQ,sg,uV,hy,heb];rfl
 have naA:BC [u8 f,u64 a1,u64 a0] = [ui (decide (4<=uf (fN f) (nB a1 a0)))]:=by rw[NL,uD,vQ]
 have naB:BC [u8 f,u64 b1,u64 b0] = [ui (decide (4<=uf (fN f) (nB b1 b0)))]:=by rw[NL,uD,vQ]
 have u8A:=Gh (fN f) (nB a1 a0);have u8B:=Gh (fN f) (nB b1 b0)
 have pk:∀ (j:Int) (q:Bool),uk j=q->FB [u8 f,j,u64 a1,u64 a0,u64 b1,u64 b0] = [wd (xP (fN f) q (nB a1 a0) (nB b1 b0)) 1,wd (xP (fN f) q (nB a1 a0) (nB b1 b0)) 0,((yK (fN f) q (nB a1 a0) (nB b1 b0):Nat):Int),ui (wG (fN f) q (nB a1 a0) (nB b1 b0))]:=λj q hj=>by rw[aht _ _ _ _ _ _ hf3,uD,vQ,vQ,hj]
 have pk1:∀ {q:Bool},4<=uf (fN f) (nB a1 a0)->wG (fN f) q (nB a1 a0) (nB b1 b0)=true:=λh=>by unfold wG;rw[decide_eq_true h];rfl
 have pk2:∀ {q:Bool},4<=uf (fN f) (nB b1 b0)->wG (fN f) q (nB a1 a0) (nB b1 b0)=true:=λh=>by unfold wG;rw[decide_eq_true h,Bool.true_or,Bool.or_true]
 have pk3:wG (fN f) true (nB a1 a0) (nB b1 b0)=true:=by unfold wG;rw[Bool.or_true,Bool.or_true]
 have cuE:Dy [u8 f,u64 a1,u64 a0] = [wd (FP.mk (fN f) (FP.sgn (fN f) (nB a1 a0)) (FP.cod (fN f) (nB a1 a0))) 1,wd (FP.mk (fN f) (FP.sgn (fN f) (nB a1 a0)) (FP.cod (fN f) (nB a1 a0))) 0]:=by rw[U8,uD,vQ,<- FP.mk_cut hf,uV]
 rw[VF];obtain⟨C,hC⟩:∃ C,C=FP.remC (fN f) (FP.cod (fN f) (nB a1 a0)) (FP.cod (fN f) (nB b1 b0)):=⟨_,rfl⟩;generalize hR:Co (fN f) (nB a1 a0) (nB b1 b0)=R
 have rP:∀ q:Bool,(4<=uf (fN f) (nB a1 a0)/\q=false)\/(¬ 4<=uf (fN f) (nB a1 a0)/\4<=uf (fN f) (nB b1 b0)/\q=false)\/(¬ 4<=uf (fN f) (nB a1 a0)/\¬ 4<=uf (fN f) (nB b1 b0)/\(q=true↔Mh (uf (fN f) (nB a1 a0)) (uf (fN f) (nB b1 b0))=true)/\q=true)->R=(xP (fN f) q (nB a1 a0) (nB b1 b0),yK (fN f) q (nB a1 a0) (nB b1 b0)):=λq h=>by
  rw[<- hR];unfold Co xP yK NM;rcases h with⟨h1,h2⟩|⟨h1,h2,h3⟩|⟨h1,h2,h3,h4⟩
  ·simp only[h1,h2,if_true,true_or,false_or,Bool.false_eq_true]
  ·simp only[h1,h2,h3,if_true,if_false,or_true,false_or,Bool.false_eq_true]
  ·have h5:=h3.1 h4;simp only[h1,h2,h4,h5,if_true,if_false,or_self]
 have bd:∀ {q:Bool},q=true↔q=true:=Iff.rfl
 have rS:¬ 4<=uf (fN f) (nB a1 a0)->¬ 4<=uf (fN f) (nB b1 b0)->¬ Mh (uf (fN f) (nB a1 a0)) (uf (fN f) (nB b1 b0))=true->(uf (fN f) (nB a1 a0)=0\/uf (fN f) (nB b1 b0)=3)->R=(FP.mk (fN f) (FP.sgn (fN f) (nB a1 a0)) (FP.cod (fN f) (nB a1 a0)),0):=λh1 h2 h3 h4=>by rw[<- hR];unfold Co;rw[if_neg h1,if_neg h2,if_neg h3,if_pos h4]
 have not_ok:¬ wG (fN f) (decide (uf (fN f) (nB b1 b0)=0)) (nB a1 a0) (nB b1 b0)=true->¬ 4<=uf (fN f) (nB a1 a0)/\¬ 4<=uf (fN f) (nB b1 b0)/\¬ uf (fN f) (nB b1 b0)=0:=λh=>by unfold wG at h;simp only[Bool.or_eq_true,decide_eq_true_iff,not_or] at h;exact h
 have rP2:¬ 4<=uf (fN f) (nB a1 a0)->¬ 4<=uf (fN f) (nB b1 b0)->¬ uf (fN f) (nB a1 a0)=3->wG (fN f) (decide (uf (fN f) (nB b1 b0)=0)) (nB a1 a0) (nB b1 b0)=true->R=(xP (fN f) (decide (uf (fN f) (nB b1 b0)=0)) (nB a1 a0) (nB b1 b0),yK (fN f) (decide (uf (fN f) (nB b1 b0)=0)) (nB a1 a0) (nB b1 b0)):=λh1 h2 h3 h4=>by
  have h5:uf (fN f) (nB b1 b0)=0:=by unfold wG at h4;simpa only[Bool.or_eq_true,decide_eq_true_iff,h1,h2,false_or] using h4
  exact rP _ (.inr (.inr ⟨h1,h2,by rw[Qv,decide_eq_true_iff];omega,decide_eq_true h5⟩))
 have rO:¬ wG (fN f) (decide (uf (fN f) (nB b1 b0)=0)) (nB a1 a0) (nB b1 b0)=true->¬ uf (fN f) (nB a1 a0)=3->(uf (fN f) (nB a1 a0)=0\/uf (fN f) (nB b1 b0)=3)->R=(FP.mk (fN f) (FP.sgn (fN f) (nB a1 a0)) (FP.cod (fN f) (nB a1 a0)),0):=λh h1 h2=>by obtain⟨k1,k2,k3⟩:=not_ok h;exact rS k1 k2 (by rw[Qv];omega) h2
 have pkF8:∀ q:Bool,u8 ((yK (fN f) q (nB a1 a0) (nB b1 b0):Nat):Int)=((yK (fN f) q (nB a1 a0) (nB b1 b0):Nat):Int):=λq=>by have:=ahs (fN f) q (nB a1 a0) (nB b1 b0);exact NB (by omega) (by omega)
 have fin:¬ wG (fN f) (decide (uf (fN f) (nB b1 b0)=0)) (nB a1 a0) (nB b1 b0)=true->¬ uf (fN f) (nB a1 a0)=3->¬ uf (fN f) (nB a1 a0)=0->¬ uf (fN f) (nB b1 b0)=3 ->
   (uf (fN f) (nB a1 a0)=1\/uf (fN f) (nB a1 a0)=2)/\(uf (fN f) (nB b1 b0)=1\/uf (fN f) (nB b1 b0)=2):=λh h1 h2 h3=>by
  obtain⟨k1,k2,k3⟩:=not_ok h;omega
 obtain⟨Gd,hGd⟩:∃ Gd:Prop,Gd=((uf (fN f) (nB a1 a0)=1\/uf (fN f) (nB a1 a0)=2)/\(uf (fN f) (nB b1 b0)=1\/uf (fN f) (nB b1 b0)=2)):=⟨_,rfl⟩;rw[<- hGd] at fin;have big:Gd->2^127<=x/\2^127<=y:=λg=>by rw[hGd] at g;rw[hx,hy];exact⟨(Ov hf g.1).1,(Ov hf g.2).1⟩
 have xy:Gd->x<2*y/\0<y:=λg=>akZ xl (big g).2
 have rE:Gd->ea<eb-1->R=(FP.mk (fN f) (FP.sgn (fN f) (nB a1 a0)) (FP.cod (fN f) (nB a1 a0)),0):=λg h=>by rw[hGd] at g;rw[<- hR];exact aAe hf g.1 g.2 (by rw[<- hea,<- heb];exact h)
 have sub128:∀ {p q:Nat},p<uh->p-q<uh:=λh=>Nat.lt_of_le_of_lt (Nat.sub_le _ _) h
 have sub256:∀ {p q:Nat},p<uh->p-q<uu:=λh=>aAc h
 have w2lt:2*y-x<uu:=aAa yl;have yy256:y+y<uu:=aAb yl
 have wsE:Gd->Gc [wd (y+y) 0,wd (y+y) 1,wd (y+y) 2,wd (y+y) 3,wd x 0,wd x 1,wd x 2,wd x 3] = [wd (2*y-x) 0,wd (2*y-x) 1,wd (2*y-x) 2,wd (2*y-x) 3,0]:=λg=>by have:=(xy g).1;rw[show 2*y-x=y+y-x by omega];exact aaR yy256 (by omega)
 have r0L:Gd->y<=x->x-y<y:=λg h=>by have:=(xy g).1;omega
 have r0S:Gd->x<y->x<y:=λg h=>h
 have mdL1:Gd->y<=x->0<ea-eb->uo x (ea-eb).toNat y=((uo (x-y) (ea-eb).toNat y).1,(uo (x-y) (ea-eb).toNat y).2):=λg h h2=>by obtain⟨q,hq⟩:∃ q,(ea-eb).toNat=q+1:=⟨(ea-eb).toNat-1,by omega⟩;rw[hq];exact((akW (n:=q) (xy g).2 (xy g).1).1 h).1.symm
 have mdL0:Gd->y<=x->ea=eb->uo x (ea-eb).toNat y=(x-y,true):=λg h h2=>by rw[show(ea-eb).toNat=0 by omega];exact((akW (n:=0) (xy g).2 (xy g).1).1 h).2
 have mdS1:Gd->x<y->0<ea-eb->uo x (ea-eb).toNat y=((uo x (ea-eb).toNat y).1,(uo x (ea-eb).toNat y).2):=λ_ _ _=>rfl
 have mdS0:Gd->x<y->ea=eb->uo x (ea-eb).toNat y=(x,false):=λg h h2=>by rw[show(ea-eb).toNat=0 by omega];exact Wu h
 have mlt:∀ {m:Nat} {o:Bool},Gd->uo x (ea-eb).toNat y=(m,o)->m<y:=λg h=>by have h1:=akc (r:=x) (n:=(ea-eb).toNat) (xy g).2;rw[h] at h1;exact h1
 obtain⟨FS,hFS⟩:∃ FS:Nat->Bool->Prop,FS=λS T=>R=(FP.mk (fN f) (FP.sgn (fN f) (nB a1 a0) != (T && !decide (S=0))) C,0)/\∀ N E:Int,uk N=(FP.sgn (fN f) (nB a1 a0) != (T && !decide (S=0)))->i64 E=min ea eb+128 ->
   DD [u8 f,4,0,N,E,wd S 0,wd S 1,wd S 2,wd S 3] = [wd (FP.mk (fN f) (FP.sgn (fN f) (nB a1 a0) != (T && !decide (S=0))) C) 1,wd (FP.mk (fN f) (FP.sgn (fN f) (nB a1 a0) != (T && !decide (S=0))) C) 0,0]:=⟨_,rfl⟩
 have mkFS:∀ {S:Nat} {T:Bool},Gd->S<uu->S*2^(min ea eb+40000).toNat=FP.remV (wI (fN f) (nB a1 a0)*2^(uS (fN f) (nB a1 a0)+40000).toNat) (wI (fN f) (nB b1 b0)*2^(uS (fN f) (nB b1 b0)+40000).toNat) ->
   FP.remT (wI (fN f) (nB a1 a0)*2^(uS (fN f) (nB a1 a0)+40000).toNat) (wI (fN f) (nB b1 b0)*2^(uS (fN f) (nB b1 b0)+40000).toNat)=T->FS S T:=λ{S T} g hS hV hT=>by
  rw[hGd] at g;obtain⟨h1,h2⟩:=az9 hf g.1 g.2 (by rw[hea,heb]) hV hT;rw[hFS];refine⟨by rw[<- hR,hC];exact h1,λN E hN hE=>?_⟩;rw[afW _ _ _ _ _ _ _ _ _ hf3 (by decide),uD,hN,hE,af0 (by omega) (by omega),yA hS,show(u8 4).toNat=4 from rfl,h2,<- hC,uV];rfl
 have fs2t:Gd->ea=eb-1->y<x->FS (2*y-x) true:=λg h h2=>by obtain⟨q1,q2⟩:=akX hx hy (by rw[<- hea,<- heb];exact h) (xy g).1;rw[if_pos h2] at q1;rw[decide_eq_true h2] at q2;exact mkFS g w2lt (by rw[show min ea eb=uS (fN f) (nB a1 a0) by rw[<- hea];omega];exact q1) q2
 have fs2f:Gd->ea=eb-1->¬ y<x->FS x false:=λg h h2=>by obtain⟨q1,q2⟩:=akX hx hy (by rw[<- hea,<- heb];exact h) (xy g).1;rw[if_neg h2] at q1;rw[decide_eq_false h2] at q2;exact mkFS g (ak0 xl) (by rw[show min ea eb=uS (fN f) (nB a1 a0) by rw[<- hea];omega];exact q1) q2
 have fs3t:∀ {m:Nat} {o:Bool},Gd->eb<=ea->uo x (ea-eb).toNat y=(m,o)->(y-m<m\/(m=y-m/\o=true))->FS (y-m) true:=λ{m o} g h e h2=>by
  have e':uo x (uS (fN f) (nB a1 a0)-uS (fN f) (nB b1 b0)).toNat y=(m,o):=by rw[<- hea,<- heb];exact e
  obtain⟨q1,q2⟩:=akY hx hy (by rw[<- hea,<- heb];exact h) (xy g).2 e';have hT:(decide (y-m<m)||(decide (m=y-m)&&o))=true:=by simp only[Bool.or_eq_true,Bool.and_eq_true,decide_eq_true_iff];exact h2
  rw[hT] at q1 q2;exact mkFS g (sub256 yl) (by rw[show min ea eb=uS (fN f) (nB b1 b0) by rw[<- heb];omega];exact q1) q2
 have fs3f:∀ {m:Nat} {o:Bool},Gd->eb<=ea->uo x (ea-eb).toNat y=(m,o)->¬ y-m<m->¬ (m=y-m/\o=true)->FS m false:=λ{m o} g h e h2 h3=>by
  have e':uo x (uS (fN f) (nB a1 a0)-uS (fN f) (nB b1 b0)).toNat y=(m,o):=by rw[<- hea,<- heb];exact e
  obtain⟨q1,q2⟩:=akY hx hy (by rw[<- hea,<- heb];exact h) (xy g).2 e'
  have hT:(decide (y-m<m)||(decide (m=y-m)&&o))=false:=by rw[Bool.eq_false_iff];intro h4;simp only[Bool.or_eq_true,Bool.and_eq_true,decide_eq_true_iff] at h4;exact h4.elim h2 h3
  rw[hT] at q1 q2;exact mkFS g (ak0 (Nat.lt_trans (mlt g e) yl)) (by rw[show min ea eb=uS (fN f) (nB b1 b0) by rw[<- heb];omega];exact q1) q2
 rw[hFS] at fs2t fs2f fs3t fs3f;clear mkFS hFS;rw[Qp,Wv];refine tF (by simp only[tK];exact known) ?_;refine(tX (r:=[ui (FP.sgn (fN f) (nB a1 a0)),((uf (fN f) (nB a1 a0):Nat):Int),ea,wd (x) 1,wd (x) 0]) (by simp only[tK,akl];exact unA) (by rfl)).trans ?_;refine(tX (r:=[ui (FP.sgn (fN f) (nB b1 b0)),((uf (fN f) (nB b1 b0):Nat):Int),eb,wd (y) 1,wd (y) 0]) (by simp only[tK,akl];exact unB) (by rfl)).trans ?_;refine(tX (r:=[ui (decide (4<=uf (fN f) (nB a1 a0)))]) (by simp only[tK,akm];exact naA) (by rfl)).trans ?_;refine tI (4<=uf (fN f) (nB a1 a0)) (by simp only[tK];try rfl) (λh1=>?_) (λh1=>?_)
 ·refine(tX (r:=[wd (xP (fN f) false (nB a1 a0) (nB b1 b0)) 1,wd (xP (fN f) false (nB a1 a0) (nB b1 b0)) 0,((yK (fN f) false (nB a1 a0) (nB b1 b0):Nat):Int),ui (wG (fN f) false (nB a1 a0) (nB b1 b0))]) (by simp only[tK,Ww,u8B];exact pk _ _ (by first|rfl|(simp only[uE,VE]))) (by rfl)).trans ?_;refine tT (by simp only[tK];exact pk1 h1) ?_;rw[uj rfl];simp only[tK];rw[rP _ (.inl ⟨h1,rfl⟩)];simp only[pkF8]
 ·refine(tX (r:=[ui (decide (4<=uf (fN f) (nB b1 b0)))]) (by simp only[tK,akm];exact naB) (by rfl)).trans ?_;refine tI (4<=uf (fN f) (nB b1 b0)) (by simp only[tK];try rfl) (λh2=>?_) (λh2=>?_)
  ·refine(tX (r:=[wd (xP (fN f) false (nB a1 a0) (nB b1 b0)) 1,wd (xP (fN f) false (nB a1 a0) (nB b1 b0)) 0,((yK (fN f) false (nB a1 a0) (nB b1 b0):Nat):Int),ui (wG (fN f) false (nB a1 a0) (nB b1 b0))]) (by simp only[tK,Ww,u8B];exact pk _ _ (by first|rfl|(simp only[uE,VE]))) (by rfl)).trans ?_;refine tT (by simp only[tK];exact pk2 h2) ?_;rw[uj rfl];simp only[tK];rw[rP _ (.inr (.inl ⟨h1,h2,rfl⟩))];simp only[pkF8]
  ·refine tI (uf (fN f) (nB a1 a0)=3) (by simp only[tK,u8A];exact Ou _ 3) (λh3=>?_) (λh3=>?_)
   ·refine(tX (r:=[wd (xP (fN f) true (nB a1 a0) (nB b1 b0)) 1,wd (xP (fN f) true (nB a1 a0) (nB b1 b0)) 0,((yK (fN f) true (nB a1 a0) (nB b1 b0):Nat):Int),ui (wG (fN f) true (nB a1 a0) (nB b1 b0))]) (by simp only[tK,Ww,u8B];exact pk _ _ (by first|rfl|(simp only[uE,VE]))) (by rfl)).trans ?_;refine tT (by simp only[tK];exact pk3) ?_;rw[uj rfl];simp only[tK];rw[rP _ (.inr (.inr ⟨h1,h2,⟨λ_=>(Qv _ _).2 (.inl h3),λ_=>rfl⟩,rfl⟩))];simp only[pkF8]
   ·refine(tX (r:=[wd (xP (fN f) (decide (uf (fN f) (nB b1 b0)=0)) (nB a1 a0) (nB b1 b0)) 1,wd (xP (fN f) (decide (uf (fN f) (nB b1 b0)=0)) (nB a1 a0) (nB b1 b0)) 0,((yK (fN f) (decide (uf (fN f) (nB b1 b0)=0)) (nB a1 a0) (nB b1 b0):Nat):Int),ui (wG (fN f) (decide (uf (fN f) (nB b1 b0)=0)) (nB a1 a0) (nB b1 b0))]) (by simp only[tK,Ww,u8B];exact pk _ _ (by first|rfl|(simp only[uE,VE]))) (by rfl)).trans ?_;refine tI (wG (fN f) (decide (uf (fN f) (nB b1 b0)=0)) (nB a1 a0) (nB b1 b0)=true) (by simp only[tK];exact(Bool.decide_coe _).symm) (λh4=>?_) (λh4=>?_)
    ·rw[uj rfl];simp only[tK];rw[rP2 h1 h2 h3 h4];simp only[pkF8]
    ·refine tI (uf (fN f) (nB a1 a0)=0) (by simp only[tK,u8A];exact Ou _ 0) (λh5=>?_) (λh5=>?_)
     ·refine(tX (r:=[wd (FP.mk (fN f) (FP.sgn (fN f) (nB a1 a0)) (FP.cod (fN f) (nB a1 a0))) 1,wd (FP.mk (fN f) (FP.sgn (fN f) (nB a1 a0)) (FP.cod (fN f) (nB a1 a0))) 0]) (by simp only[tK,acJ];exact cuE) (by rfl)).trans ?_;rw[uj rfl];simp only[tK];rw[rO h4 h3 (by omega)];rfl
     ·refine tI (uf (fN f) (nB b1 b0)=3) (by simp only[tK,u8B];exact Ou _ 3) (λh6=>?_) (λh6=>?_)
      ·refine(tX (r:=[wd (FP.mk (fN f) (FP.sgn (fN f) (nB a1 a0)) (FP.cod (fN f) (nB a1 a0))) 1,wd (FP.mk (fN f) (FP.sgn (fN f) (nB a1 a0)) (FP.cod (fN f) (nB a1 a0))) 0]) (by simp only[tK,acJ];exact cuE) (by rfl)).trans ?_;rw[uj rfl];simp only[tK];rw[rO h4 h3 (by omega)];rfl
      ·refine tI (ea<eb-1) (by simp only[tK,iea,ieb,ie1]) (λh7=>?_) (λh7=>?_)
       ·refine(tX (r:=[wd (FP.mk (fN f) (FP.sgn (fN f) (nB a1 a0)) (FP.cod (fN f) (nB a1 a0))) 1,wd (FP.mk (fN f) (FP.sgn (fN f) (nB a1 a0)) (FP.cod (fN f) (nB a1 a0))) 0]) (by simp only[tK,acJ];exact cuE) (by rfl)).trans ?_;rw[uj rfl];simp only[tK];rw[rE (fin h4 h3 h5 h6) h7];rfl
       ·refine tI (ea=eb-1) (by simp only[tK,iea,ieb,ie1];exact aAf _ _) (λh8=>?_) (λh8=>?_)
        ·refine(tX (r:=[wd (x) 0,wd (x) 1,wd (x) 2,wd (x) 3]) (by simp only[tK,Bl];exact Bd xl) (by rfl)).trans ?_;refine(tX (r:=[vN x y]) (by simp only[tK,SN];exact Ow xl yl) (by rfl)).trans ?_;refine tI (y<x) (by simp only[tK,BB];exact R6) (λh9=>?_) (λh9=>?_)
         ·refine(tX (r:=[wd (y) 0,wd (y) 1,wd (y) 2,wd (y) 3]) (by simp only[tK,Bl];exact Bd yl) (by rfl)).trans ?_;refine(tX (r:=[wd (y) 0,wd (y) 1,wd (y) 2,wd (y) 3]) (by simp only[tK,Bl];exact Bd yl) (by rfl)).trans ?_;refine(tX (r:=[wd (y+y) 0,wd (y+y) 1,wd (y+y) 2,wd (y+y) 3,0]) (by simp only[tK,ayT];exact ahv yy256) (by rfl)).trans ?_;refine(tX (r:=[wd (2*y-x) 0,wd (2*y-x) 1,wd (2*y-x) 2,wd (2*y-x) 3,0]) (by simp only[tK,ayU];exact wsE (fin h4 h3 h5 h6)) (by rfl)).trans ?_;refine(tX (r:=[ui (decide (2*y-x=0))]) (by simp only[tK,Kb];exact Eu (w2lt)) (by rfl)).trans ?_;refine(tX (r:=[wd (FP.mk (fN f) (FP.sgn (fN f) (nB a1 a0) != (true && !decide (2*y-x=0))) C) 1,wd (FP.mk (fN f) (FP.sgn (fN f) (nB a1 a0) != (true && !decide (2*y-x=0))) C) 0,0]) (by simp only[tK,BI];exact(fs2t (fin h4 h3 h5 h6) h8 h9).2 _ _ (by first|(rw[uE,Bool.true_and];rfl)|(rw[uE,Bool.false_and];rfl)) (by simp only[iea,ieb,vJ,iem])) (by rfl)).trans ?_;refine tF (by simp only[tK];rfl) ?_;rw[uj rfl];simp only[tK];rw[(fs2t (fin h4 h3 h5 h6) h8 h9).1];rfl
         ·refine(tX (r:=[wd (FP.mk (fN f) (FP.sgn (fN f) (nB a1 a0) != (false && !decide (x=0))) C) 1,wd (FP.mk (fN f) (FP.sgn (fN f) (nB a1 a0) != (false && !decide (x=0))) C) 0,0]) (by simp only[tK,BI];exact(fs2f (fin h4 h3 h5 h6) h8 h9).2 _ _ (by first|(rw[uE,Bool.true_and];rfl)|(rw[uE,Bool.false_and];rfl)) (by simp only[iea,ieb,vJ,iem])) (by rfl)).trans ?_;refine tF (by simp only[tK];rfl) ?_;rw[uj rfl];simp only[tK];rw[(fs2f (fin h4 h3 h5 h6) h8 h9).1];rfl
        ·refine(tX (r:=[wd (x+uh-y) 1,wd (x+uh-y) 0,ui (decide (x<y))]) (by simp only[tK,SQ];exact ahu xl yl) (by rfl)).trans ?_;refine tI (¬ x<y) (by simp only[tK];exact(decide_not).symm) (λh10=>?_) (λh10=>?_)
         ·refine tI (ea-eb>0) (by simp only[tK,iea,ieb,ies]) (λh11=>?_) (λh11=>?_)
          ·refine(tX (r:=[wd ((uo (x-y) (ea-eb).toNat y).1) 1,wd ((uo (x-y) (ea-eb).toNat y).1) 0,ui (uo (x-y) (ea-eb).toNat y).2,1]) (by simp only[tK,akn,iea,ieb,ies];rw[Gj (p:=x) (q:=y) (by omega) (by decide),Gj (p:=x) (q:=y) (by omega) (by decide)];exact akV (r0L (fin h4 h3 h5 h6) (by omega)) yl (by omega) (by omega)) (by rfl)).trans ?_;refine(tX (r:=[wd (y-(uo (x-y) (ea-eb).toNat y).1) 1,wd (y-(uo (x-y) (ea-eb).toNat y).1) 0,0]) (by simp only[tK,SQ];exact VH yl (Nat.le_of_lt (mlt (o:=(uo (x-y) (ea-eb).toNat y).2) (fin h4 h3 h5 h6) (mdL1 (fin h4 h3 h5 h6) (by omega) (by omega))))) (by rfl)).trans ?_;refine(tX (r:=[vN ((uo (x-y) (ea-eb).toNat y).1) (y-(uo (x-y) (ea-eb).toNat y).1)]) (by simp only[tK,SN];exact Ow (Nat.lt_trans (mlt (o:=(uo (x-y) (ea-eb).toNat y).2) (fin h4 h3 h5 h6) (mdL1 (fin h4 h3 h5 h6) (by omega) (by omega))) yl) (sub128 yl)) (by rfl)).trans ?_;refine tI (y-(uo (x-y) (ea-eb).toNat y).1<(uo (x-y) (ea-eb).toNat y).1) (by simp only[tK,BB];exact R6) (λh12=>?_) (λh12=>?_)
           ·refine(tX (r:=[wd (y-(uo (x-y) (ea-eb).toNat y).1) 0,wd (y-(uo (x-y) (ea-eb).toNat y).1) 1,wd (y-(uo (x-y) (ea-eb).toNat y).1) 2,wd (y-(uo (x-y) (ea-eb).toNat y).1) 3]) (by simp only[tK,Bl];exact Bd (sub128 yl)) (by rfl)).trans ?_;refine(tX (r:=[ui (decide (y-(uo (x-y) (ea-eb).toNat y).1=0))]) (by simp only[tK,Kb];exact Eu (sub256 yl)) (by rfl)).trans ?_;refine(tX (r:=[wd (FP.mk (fN f) (FP.sgn (fN f) (nB a1 a0) != (true && !decide (y-(uo (x-y) (ea-eb).toNat y).1=0))) C) 1,wd (FP.mk (fN f) (FP.sgn (fN f) (nB a1 a0) != (true && !decide (y-(uo (x-y) (ea-eb).toNat y).1=0))) C) 0,0]) (by simp only[tK,BI];exact(fs3t (fin h4 h3 h5 h6) (by omega) (mdL1 (fin h4 h3 h5 h6) (by omega) (by omega)) (.inl h12)).2 _ _ (by first|(rw[uE,Bool.true_and];rfl)|(rw[uE,Bool.false_and];rfl)) (by simp only[iea,ieb,vJ,iem])) (by rfl)).trans ?_;refine tF (by simp only[tK];rfl) ?_;rw[uj rfl];simp only[tK];rw[(fs3t (fin h4 h3 h5 h6) (by omega) (mdL1 (fin h4 h3 h5 h6) (by omega) (by omega)) (.inl h12)).1];rfl
           ·refine tI ((uo (x-y) (ea-eb).toNat y).1=y-(uo (x-y) (ea-eb).toNat y).1) (by simp only[tK,BB];exact Ox) (λh13=>?_) (λh13=>?_)
            ·refine tI ((uo (x-y) (ea-eb).toNat y).2=true) (by simp only[tK];exact(Bool.decide_coe _).symm) (λh14=>?_) (λh14=>?_)
             ·refine(tX (r:=[wd (y-(uo (x-y) (ea-eb).toNat y).1) 0,wd (y-(uo (x-y) (ea-eb).toNat y).1) 1,wd (y-(uo (x-y) (ea-eb).toNat y).1) 2,wd (y-(uo (x-y) (ea-eb).toNat y).1) 3]) (by simp only[tK,Bl];exact Bd (sub128 yl)) (by rfl)).trans ?_;refine(tX (r:=[ui (decide (y-(uo (x-y) (ea-eb).toNat y).1=0))]) (by simp only[tK,Kb];exact Eu (sub256 yl)) (by rfl)).trans ?_;refine(tX (r:=[wd (FP.mk (fN f) (FP.sgn (fN f) (nB a1 a0) != (true && !decide (y-(uo (x-y) (ea-eb).toNat y).1=0))) C) 1,wd (FP.mk (fN f) (FP.sgn (fN f) (nB a1 a0) != (true && !decide (y-(uo (x-y) (ea-eb).toNat y).1=0))) C) 0,0]) (by simp only[tK,BI];exact(fs3t (fin h4 h3 h5 h6) (by omega) (mdL1 (fin h4 h3 h5 h6) (by omega) (by omega)) (.inr ⟨h13,h14⟩)).2 _ _ (by first|(rw[uE,Bool.true_and];rfl)|(rw[uE,Bool.false_and];rfl)) (by simp only[iea,ieb,vJ,iem])) (by rfl)).trans ?_;refine tF (by simp only[tK];rfl) ?_;rw[uj rfl];simp only[tK];rw[(fs3t (fin h4 h3 h5 h6) (by omega) (mdL1 (fin h4 h3 h5 h6) (by omega) (by omega)) (.inr ⟨h13,h14⟩)).1];rfl
             ·refine(tX (r:=[wd ((uo (x-y) (ea-eb).toNat y).1) 0,wd ((uo (x-y) (ea-eb).toNat y).1) 1,wd ((uo (x-y) (ea-eb).toNat y).1) 2,wd ((uo (x-y) (ea-eb).toNat y).1) 3]) (by simp only[tK,Bl];exact Bd (Nat.lt_trans (mlt (o:=(uo (x-y) (ea-eb).toNat y).2) (fin h4 h3 h5 h6) (mdL1 (fin h4 h3 h5 h6) (by omega) (by omega))) yl)) (by rfl)).trans ?_;refine(tX (r:=[wd (FP.mk (fN f) (FP.sgn (fN f) (nB a1 a0) != (false && !decide ((uo (x-y) (ea-eb).toNat y).1=0))) C) 1,wd (FP.mk (fN f) (FP.sgn (fN f) (nB a1 a0) != (false && !decide ((uo (x-y) (ea-eb).toNat y).1=0))) C) 0,0]) (by simp only[tK,BI];exact(fs3f (fin h4 h3 h5 h6) (by omega) (mdL1 (fin h4 h3 h5 h6) (by omega) (by omega)) h12 (λh=>h14 h.2)).2 _ _ (by first|(rw[uE,Bool.true_and];rfl)|(rw[uE,Bool.false_and];rfl)) (by simp only[iea,ieb,vJ,iem])) (by rfl)).trans ?_;refine tF (by simp only[tK];rfl) ?_;rw[uj rfl];simp only[tK];rw[(fs3f (fin h4 h3 h5 h6) (by omega) (mdL1 (fin h4 h3 h5 h6) (by omega) (by omega)) h12 (λh=>h14 h.2)).1];rfl
            ·refine(tX (r:=[wd ((uo (x-y) (ea-eb).toNat y).1) 0,wd ((uo (x-y) (ea-eb).toNat y).1) 1,wd ((uo (x-y) (ea-eb).toNat y).1) 2,wd ((uo (x-y) (ea-eb).toNat y).1) 3]) (by simp only[tK,Bl];exact Bd (Nat.lt_trans (mlt (o:=(uo (x-y) (ea-eb).toNat y).2) (fin h4 h3 h5 h6) (mdL1 (fin h4 h3 h5 h6) (by omega) (by omega))) yl)) (by rfl)).trans ?_;refine(tX (r:=[wd (FP.mk (fN f) (FP.sgn (fN f) (nB a1 a0) != (false && !decide ((uo (x-y) (ea-eb).toNat y).1=0))) C) 1,wd (FP.mk (fN f) (FP.sgn (fN f) (nB a1 a0) != (false && !decide ((uo (x-y) (ea-eb).toNat y).1=0))) C) 0,0]) (by simp only[tK,BI];exact(fs3f (fin h4 h3 h5 h6) (by omega) (mdL1 (fin h4 h3 h5 h6) (by omega) (by omega)) h12 (λh=>h13 h.1)).2 _ _ (by first|(rw[uE,Bool.true_and];rfl)|(rw[uE,Bool.false_and];rfl)) (by simp only[iea,ieb,vJ,iem])) (by rfl)).trans ?_;refine tF (by simp only[tK];rfl) ?_;rw[uj rfl];simp only[tK];rw[(fs3f (fin h4 h3 h5 h6) (by omega) (mdL1 (fin h4 h3 h5 h6) (by omega) (by omega)) h12 (λh=>h13 h.1)).1];rfl
          ·refine(tX (r:=[wd (y-(x-y)) 1,wd (y-(x-y)) 0,0]) (by simp only[tK,SQ];rw[Gj (p:=x) (q:=y) (by omega) (by decide),Gj (p:=x) (q:=y) (by omega) (by decide)];exact VH yl (Nat.le_of_lt (mlt (o:=true) (fin h4 h3 h5 h6) (mdL0 (fin h4 h3 h5 h6) (by omega) (by omega))))) (by rfl)).trans ?_;refine(tX (r:=[vN ((x-y)) (y-(x-y))]) (by simp only[tK,SN];rw[Gj (p:=x) (q:=y) (by omega) (by decide),Gj (p:=x) (q:=y) (by omega) (by decide)];exact Ow (Nat.lt_trans (mlt (o:=true) (fin h4 h3 h5 h6) (mdL0 (fin h4 h3 h5 h6) (by omega) (by omega))) yl) (sub128 yl)) (by rfl)).trans ?_;refine tI (y-(x-y)<(x-y)) (by simp only[tK,BB];exact R6) (λh15=>?_) (λh15=>?_)
           ·refine(tX (r:=[wd (y-(x-y)) 0,wd (y-(x-y)) 1,wd (y-(x-y)) 2,wd (y-(x-y)) 3]) (by simp only[tK,Bl];exact Bd (sub128 yl)) (by rfl)).trans ?_;refine(tX (r:=[ui (decide (y-(x-y)=0))]) (by simp only[tK,Kb];exact Eu (sub256 yl)) (by rfl)).trans ?_;refine(tX (r:=[wd (FP.mk (fN f) (FP.sgn (fN f) (nB a1 a0) != (true && !decide (y-(x-y)=0))) C) 1,wd (FP.mk (fN f) (FP.sgn (fN f) (nB a1 a0) != (true && !decide (y-(x-y)=0))) C) 0,0]) (by simp only[tK,BI];exact(fs3t (fin h4 h3 h5 h6) (by omega) (mdL0 (fin h4 h3 h5 h6) (by omega) (by omega)) (.inl h15)).2 _ _ (by first|(rw[uE,Bool.true_and];rfl)|(rw[uE,Bool.false_and];rfl)) (by simp only[iea,ieb,vJ,iem])) (by rfl)).trans ?_;refine tF (by simp only[tK];rfl) ?_;rw[uj rfl];simp only[tK];rw[(fs3t (fin h4 h3 h5 h6) (by omega) (mdL0 (fin h4 h3 h5 h6) (by omega) (by omega)) (.inl h15)).1];rfl
           ·refine tI ((x-y)=y-(x-y)) (by simp only[tK,BB];exact Ox) (λh16=>?_) (λh16=>?_)
            ·refine(tX (r:=[wd (y-(x-y)) 0,wd (y-(x-y)) 1,wd (y-(x-y)) 2,wd (y-(x-y)) 3]) (by simp only[tK,Bl];exact Bd (sub128 yl)) (by rfl)).trans ?_;refine(tX (r:=[ui (decide (y-(x-y)=0))]) (by simp only[tK,Kb];exact Eu (sub256 yl)) (by rfl)).trans ?_;refine(tX (r:=[wd (FP.mk (fN f) (FP.sgn (fN f) (nB a1 a0) != (true && !decide (y-(x-y)=0))) C) 1,wd (FP.mk (fN f) (FP.sgn (fN f) (nB a1 a0) != (true && !decide (y-(x-y)=0))) C) 0,0]) (by simp only[tK,BI];exact(fs3t (fin h4 h3 h5 h6) (by omega) (mdL0 (fin h4 h3 h5 h6) (by omega) (by omega)) (.inr ⟨h16,rfl⟩)).2 _ _ (by first|(rw[uE,Bool.true_and];rfl)|(rw[uE,Bool.false_and];rfl)) (by simp only[iea,ieb,vJ,iem])) (by rfl)).trans ?_;refine tF (by simp only[tK];rfl) ?_;rw[uj rfl];simp only[tK];rw[(fs3t (fin h4 h3 h5 h6) (by omega) (mdL0 (fin h4 h3 h5 h6) (by omega) (by omega)) (.inr ⟨h16,rfl⟩)).1];rfl
            ·refine(tX (r:=[wd ((x-y)) 0,wd ((x-y)) 1,wd ((x-y)) 2,wd ((x-y)) 3]) (by simp only[tK,Bl];rw[Gj (p:=x) (q:=y) (by omega) (by decide),Gj (p:=x) (q:=y) (by omega) (by decide)];exact Bd (Nat.lt_trans (mlt (o:=true) (fin h4 h3 h5 h6) (mdL0 (fin h4 h3 h5 h6) (by omega) (by omega))) yl)) (by rfl)).trans ?_;refine(tX (r:=[wd (FP.mk (fN f) (FP.sgn (fN f) (nB a1 a0) != (false && !decide ((x-y)=0))) C) 1,wd (FP.mk (fN f) (FP.sgn (fN f) (nB a1 a0) != (false && !decide ((x-y)=0))) C) 0,0]) (by simp only[tK,BI];exact(fs3f (fin h4 h3 h5 h6) (by omega) (mdL0 (fin h4 h3 h5 h6) (by omega) (by omega)) h15 (λh=>h16 h.1)).2 _ _ (by first|(rw[uE,Bool.true_and];rfl)|(rw[uE,Bool.false_and];rfl)) (by simp only[iea,ieb,vJ,iem])) (by rfl)).trans ?_;refine tF (by simp only[tK];rfl) ?_;rw[uj rfl];simp only[tK];rw[(fs3f (fin h4 h3 h5 h6) (by omega) (mdL0 (fin h4 h3 h5 h6) (by omega) (by omega)) h15 (λh=>h16 h.1)).1];rfl
         ·refine tI (ea-eb>0) (by simp only[tK,iea,ieb,ies]) (λh17=>?_) (λh17=>?_)
          ·refine(tX (r:=[wd ((uo (x) (ea-eb).toNat y).1) 1,wd ((uo (x) (ea-eb).toNat y).1) 0,ui (uo (x) (ea-eb).toNat y).2,1]) (by simp only[tK,akn,iea,ieb,ies];exact akV (r0S (fin h4 h3 h5 h6) (by omega)) yl (by omega) (by omega)) (by rfl)).trans ?_;refine(tX (r:=[wd (y-(uo (x) (ea-eb).toNat y).1) 1,wd (y-(uo (x) (ea-eb).toNat y).1) 0,0]) (by simp only[tK,SQ];exact VH yl (Nat.le_of_lt (mlt (o:=(uo (x) (ea-eb).toNat y).2) (fin h4 h3 h5 h6) (mdS1 (fin h4 h3 h5 h6) (by omega) (by omega))))) (by rfl)).trans ?_;refine(tX (r:=[vN ((uo (x) (ea-eb).toNat y).1) (y-(uo (x) (ea-eb).toNat y).1)]) (by simp only[tK,SN];exact Ow (Nat.lt_trans (mlt (o:=(uo (x) (ea-eb).toNat y).2) (fin h4 h3 h5 h6) (mdS1 (fin h4 h3 h5 h6) (by omega) (by omega))) yl) (sub128 yl)) (by rfl)).trans ?_;refine tI (y-(uo (x) (ea-eb).toNat y).1<(uo (x) (ea-eb).toNat y).1) (by simp only[tK,BB];exact R6) (λh18=>?_) (λh18=>?_)
           ·refine(tX (r:=[wd (y-(uo (x) (ea-eb).toNat y).1) 0,wd (y-(uo (x) (ea-eb).toNat y).1) 1,wd (y-(uo (x) (ea-eb).toNat y).1) 2,wd (y-(uo (x) (ea-eb).toNat y).1) 3]) (by simp only[tK,Bl];exact Bd (sub128 yl)) (by rfl)).trans ?_;refine(tX (r:=[ui (decide (y-(uo (x) (ea-eb).toNat y).1=0))]) (by simp only[tK,Kb];exact Eu (sub256 yl)) (by rfl)).trans ?_;refine(tX (r:=[wd (FP.mk (fN f) (FP.sgn (fN f) (nB a1 a0) != (true && !decide (y-(uo (x) (ea-eb).toNat y).1=0))) C) 1,wd (FP.mk (fN f) (FP.sgn (fN f) (nB a1 a0) != (true && !decide (y-(uo (x) (ea-eb).toNat y).1=0))) C) 0,0]) (by simp only[tK,BI];exact(fs3t (fin h4 h3 h5 h6) (by omega) (mdS1 (fin h4 h3 h5 h6) (by omega) (by omega)) (.inl h18)).2 _ _ (by first|(rw[uE,Bool.true_and];rfl)|(rw[uE,Bool.false_and];rfl)) (by simp only[iea,ieb,vJ,iem])) (by rfl)).trans ?_;refine tF (by simp only[tK];rfl) ?_;rw[uj rfl];simp only[tK];rw[(fs3t (fin h4 h3 h5 h6) (by omega) (mdS1 (fin h4 h3 h5 h6) (by omega) (by omega)) (.inl h18)).1];rfl
           ·refine tI ((uo (x) (ea-eb).toNat y).1=y-(uo (x) (ea-eb).toNat y).1) (by simp only[tK,BB];exact Ox) (λh19=>?_) (λh19=>?_)
            ·refine tI ((uo (x) (ea-eb).toNat y).2=true) (by simp only[tK];exact(Bool.decide_coe _).symm) (λh20=>?_) (λh20=>?_)
             ·refine(tX (r:=[wd (y-(uo (x) (ea-eb).toNat y).1) 0,wd (y-(uo (x) (ea-eb).toNat y).1) 1,wd (y-(uo (x) (ea-eb).toNat y).1) 2,wd (y-(uo (x) (ea-eb).toNat y).1) 3]) (by simp only[tK,Bl];exact Bd (sub128 yl)) (by rfl)).trans ?_;refine(tX (r:=[ui (decide (y-(uo (x) (ea-eb).toNat y).1=0))]) (by simp only[tK,Kb];exact Eu (sub256 yl)) (by rfl)).trans ?_;refine(tX (r:=[wd (FP.mk (fN f) (FP.sgn (fN f) (nB a1 a0) != (true && !decide (y-(uo (x) (ea-eb).toNat y).1=0))) C) 1,wd (FP.mk (fN f) (FP.sgn (fN f) (nB a1 a0) != (true && !decide (y-(uo (x) (ea-eb).toNat y).1=0))) C) 0,0]) (by simp only[tK,BI];exact(fs3t (fin h4 h3 h5 h6) (by omega) (mdS1 (fin h4 h3 h5 h6) (by omega) (by omega)) (.inr ⟨h19,h20⟩)).2 _ _ (by first|(rw[uE,Bool.true_and];rfl)|(rw[uE,Bool.false_and];rfl)) (by simp only[iea,ieb,vJ,iem])) (by rfl)).trans ?_;refine tF (by simp only[tK];rfl) ?_;rw[uj rfl];simp only[tK];rw[(fs3t (fin h4 h3 h5 h6) (by omega) (mdS1 (fin h4 h3 h5 h6) (by omega) (by omega)) (.inr ⟨h19,h20⟩)).1];rfl
             ·refine(tX (r:=[wd ((uo (x) (ea-eb).toNat y).1) 0,wd ((uo (x) (ea-eb).toNat y).1) 1,wd ((uo (x) (ea-eb).toNat y).1) 2,wd ((uo (x) (ea-eb).toNat y).1) 3]) (by simp only[tK,Bl];exact Bd (Nat.lt_trans (mlt (o:=(uo (x) (ea-eb).toNat y).2) (fin h4 h3 h5 h6) (mdS1 (fin h4 h3 h5 h6) (by omega) (by omega))) yl)) (by rfl)).trans ?_;refine(tX (r:=[wd (FP.mk (fN f) (FP.sgn (fN f) (nB a1 a0) != (false && !decide ((uo (x) (ea-eb).toNat y).1=0))) C) 1,wd (FP.mk (fN f) (FP.sgn (fN f) (nB a1 a0) != (false && !decide ((uo (x) (ea-eb).toNat y).1=0))) C) 0,0]) (by simp only[tK,BI];exact(fs3f (fin h4 h3 h5 h6) (by omega) (mdS1 (fin h4 h3 h5 h6) (by omega) (by omega)) h18 (λh=>h20 h.2)).2 _ _ (by first|(rw[uE,Bool.true_and];rfl)|(rw[uE,Bool.false_and];rfl)) (by simp only[iea,ieb,vJ,iem])) (by rfl)).trans ?_;refine tF (by simp only[tK];rfl) ?_;rw[uj rfl];simp only[tK];rw[(fs3f (fin h4 h3 h5 h6) (by omega) (mdS1 (fin h4 h3 h5 h6) (by omega) (by omega)) h18 (λh=>h20 h.2)).1];rfl
            ·refine(tX (r:=[wd ((uo (x) (ea-eb).toNat y).1) 0,wd ((uo (x) (ea-eb).toNat y).1) 1,wd ((uo (x) (ea-eb).toNat y).1) 2,wd ((uo (x) (ea-eb).toNat y).1) 3]) (by simp only[tK,Bl];exact Bd (Nat.lt_trans (mlt (o:=(uo (x) (ea-eb).toNat y).2) (fin h4 h3 h5 h6) (mdS1 (fin h4 h3 h5 h6) (by omega) (by omega))) yl)) (by rfl)).trans ?_;refine(tX (r:=[wd (FP.mk (fN f) (FP.sgn (fN f) (nB a1 a0) != (false && !decide ((uo (x) (ea-eb).toNat y).1=0))) C) 1,wd (FP.mk (fN f) (FP.sgn (fN f) (nB a1 a0) != (false && !decide ((uo (x) (ea-eb).toNat y).1=0))) C) 0,0]) (by simp only[tK,BI];exact(fs3f (fin h4 h3 h5 h6) (by omega) (mdS1 (fin h4 h3 h5 h6) (by omega) (by omega)) h18 (λh=>h19 h.1)).2 _ _ (by first|(rw[uE,Bool.true_and];rfl)|(rw[uE,Bool.false_and];rfl)) (by simp only[iea,ieb,vJ,iem])) (by rfl)).trans ?_;refine tF (by simp only[tK];rfl) ?_;rw[uj rfl];simp only[tK];rw[(fs3f (fin h4 h3 h5 h6) (by omega) (mdS1 (fin h4 h3 h5 h6) (by omega) (by omega)) h18 (λh=>h19 h.1)).1];rfl
          ·refine(tX (r:=[wd (y-(x)) 1,wd (y-(x)) 0,0]) (by simp only[tK,SQ];exact VH yl (Nat.le_of_lt (mlt (o:=false) (fin h4 h3 h5 h6) (mdS0 (fin h4 h3 h5 h6) (by omega) (by omega))))) (by rfl)).trans ?_;refine(tX (r:=[vN ((x)) (y-(x))]) (by simp only[tK,SN];exact Ow (Nat.lt_trans (mlt (o:=false) (fin h4 h3 h5 h6) (mdS0 (fin h4 h3 h5 h6) (by omega) (by omega))) yl) (sub128 yl)) (by rfl)).trans ?_;refine tI (y-(x)<(x)) (by simp only[tK,BB];exact R6) (λh21=>?_) (λh21=>?_)
           ·refine(tX (r:=[wd (y-(x)) 0,wd (y-(x)) 1,wd (y-(x)) 2,wd (y-(x)) 3]) (by simp only[tK,Bl];exact Bd (sub128 yl)) (by rfl)).trans ?_;refine(tX (r:=[ui (decide (y-(x)=0))]) (by simp only[tK,Kb];exact Eu (sub256 yl)) (by rfl)).trans ?_;refine(tX (r:=[wd (FP.mk (fN f) (FP.sgn (fN f) (nB a1 a0) != (true && !decide (y-(x)=0))) C) 1,wd (FP.mk (fN f) (FP.sgn (fN f) (nB a1 a0) != (true && !decide (y-(x)=0))) C) 0,0]) (by simp only[tK,BI];exact(fs3t (fin h4 h3 h5 h6) (by omega) (mdS0 (fin h4 h3 h5 h6) (by omega) (by omega)) (.inl h21)).2 _ _ (by first|(rw[uE,Bool.true_and];rfl)|(rw[uE,Bool.false_and];rfl)) (by simp only[iea,ieb,vJ,iem])) (by rfl)).trans ?_;refine tF (by simp only[tK];rfl) ?_;rw[uj rfl];simp only[tK];rw[(fs3t (fin h4 h3 h5 h6) (by omega) (mdS0 (fin h4 h3 h5 h6) (by omega) (by omega)) (.inl h21)).1];rfl
           ·refine tI ((x)=y-(x)) (by simp only[tK,BB];exact Ox) (λh22=>?_) (λh22=>?_)
            ·refine(tX (r:=[wd ((x)) 0,wd ((x)) 1,wd ((x)) 2,wd ((x)) 3]) (by simp only[tK,Bl];exact Bd (Nat.lt_trans (mlt (o:=false) (fin h4 h3 h5 h6) (mdS0 (fin h4 h3 h5 h6) (by omega) (by omega))) yl)) (by rfl)).trans ?_;refine(tX (r:=[wd (FP.mk (fN f) (FP.sgn (fN f) (nB a1 a0) != (false && !decide ((x)=0))) C) 1,wd (FP.mk (fN f) (FP.sgn (fN f) (nB a1 a0) != (false && !decide ((x)=0))) C) 0,0]) (by simp only[tK,BI];exact(fs3f (fin h4 h3 h5 h6) (by omega) (mdS0 (fin h4 h3 h5 h6) (by omega) (by omega)) h21 (λh=>Bool.false_ne_true h.2)).2 _ _ (by first|(rw[uE,Bool.true_and];rfl)|(rw[uE,Bool.false_and];rfl)) (by simp only[iea,ieb,vJ,iem])) (by rfl)).trans ?_;refine tF (by simp only[tK];rfl) ?_;rw[uj rfl];simp only[tK];rw[(fs3f (fin h4 h3 h5 h6) (by omega) (mdS0 (fin h4 h3 h5 h6) (by omega) (by omega)) h21 (λh=>Bool.false_ne_true h.2)).1];rfl
            ·refine(tX (r:=[wd ((x)) 0,wd ((x)) 1,wd ((x)) 2,wd ((x)) 3]) (by simp only[tK,Bl];exact Bd (Nat.lt_trans (mlt (o:=false) (fin h4 h3 h5 h6) (mdS0 (fin h4 h3 h5 h6) (by omega) (by omega))) yl)) (by rfl)).trans ?_;refine(tX (r:=[wd (FP.mk (fN f) (FP.sgn (fN f) (nB a1 a0) != (false && !decide ((x)=0))) C) 1,wd (FP.mk (fN f) (FP.sgn (fN f) (nB a1 a0) != (false && !decide ((x)=0))) C) 0,0]) (by simp only[tK,BI];exact(fs3f (fin h4 h3 h5 h6) (by omega) (mdS0 (fin h4 h3 h5 h6) (by omega) (by omega)) h21 (λh=>h22 h.1)).2 _ _ (by first|(rw[uE,Bool.true_and];rfl)|(rw[uE,Bool.false_and];rfl)) (by simp only[iea,ieb,vJ,iem])) (by rfl)).trans ?_;refine tF (by simp only[tK];rfl) ?_;rw[uj rfl];simp only[tK];rw[(fs3f (fin h4 h3 h5 h6) (by omega) (mdS0 (fin h4 h3 h5 h6) (by omega) (by omega)) h21 (λh=>h22 h.1)).1];rfl
theorem aAh {f a:Nat} (hf:f<4) (h0:¬ uf f a=0):0<FP.cod f a:=by apply Nat.pos_of_ne_zero;intro e;apply h0;rw[La hf,e];unfold FP.clsC;rw[if_pos rfl]
theorem WM (f c:Nat):FP.val f c=FP.cval (FP.fP f) c:=rfl
theorem aAi {f c d:Nat} (hf:f<4) (h:FP.val f c=FP.val f d):c=d:=FP.cval_inj (FP.fP_ge hf) h
theorem aAj (f:Nat):FP.val f 0=0:=FP.cval_zero _
theorem ak1 {f c:Nat} (hf:f<4) (h:0<c):0<FP.val f c:=FP.cval_pos (FP.fP_ge hf) h
theorem WN {f a:Nat} (hf:f<4):uf f a<3↔FP.cod f a<FP.inf f:=by rw[La hf];exact FP.clsC_fin
theorem aAk {f a:Nat} (hf:f<4) (h:uf f a=1\/uf f a=2):0<FP.cod f a/\FP.cod f a<FP.inf f :=
 ⟨aAh hf (by omega),(WN hf).1 (by omega)⟩
theorem WO {f c:Nat} : FP.mk f false c=c:=by unfold FP.mk;simp
theorem ak2 {f:Nat} (hf:f<4) {a b:Nat} (ha:uf f a<3) (hb:uf f b=1\/uf f b=2) :
  Co f a b=(FP.mk f (FP.sgn f a != (FP.remT (FP.val f (FP.cod f a)) (FP.val f (FP.cod f b)) && !decide (FP.remV (FP.val f (FP.cod f a)) (FP.val f (FP.cod f b))=0))) (FP.remC f (FP.cod f a) (FP.cod f b)),0):=by
 obtain⟨b0,b1⟩:=aAk hf hb;unfold Co;rw[if_neg (by omega),if_neg (by omega),if_neg (by rw[Qv];omega)];by_cases h0:uf f a=0
 ·rw[if_pos (.inl h0)]
  have hc:FP.cod f a=0:=by apply Nat.eq_zero_of_not_pos;intro hp;have h1:=(WN hf).1 ha;rw[La hf] at h0;exact absurd (ag6.1 h0) (by omega)
  have hr:=FP.rem_small (A:=FP.val f 0) (B:=FP.val f (FP.cod f b)) (by rw[aAj];have:=ak1 hf b0;omega);obtain⟨r1,r2,r3⟩:=FP.remC_val (c:=0) hf (FP.inf_pos f) b0 b1;rw[hr.2] at r2;rw[hc,hr.1,aAi hf r2,Bool.false_and,arF]
 ·rw[if_neg (by omega)]
theorem aAl {A B k:Nat} (hB:0<B) (hk:1<=k):FP.remT (A+B*2^k) B=FP.remT A B/\FP.remV (A+B*2^k) B=FP.remV A B:=by
 obtain⟨j,rfl⟩:∃ j,k=j+1:=⟨k-1,by omega⟩;have h1:(A+B*2^(j+1))%B=A%B:=Nat.add_mul_mod_self_left A B _;have h2:(A+B*2^(j+1))/B=A/B+2^(j+1):=Nat.add_mul_div_left A _ hB;have h3:(A/B+2^(j+1))%2=A/B%2:=by rw[Nat.pow_succ];omega
 have ht:FP.remT (A+B*2^(j+1)) B=FP.remT A B:=by unfold FP.remT;rw[h1,h2,h3]
 exact⟨ht,by unfold FP.remV;rw[ht,h1]⟩
theorem WP {p E r:Nat} (hr:r<2^(p-1)) (hE:1<=E):FP.cval p (E*2^(p-1)+r)=(2^(p-1)+r)*2^(E-1):=by
 have hH:=FP.two_pow_pos (p-1)
 have hd:(E*2^(p-1)+r)/2^(p-1)=E:=by rw[Nat.mul_comm,Nat.mul_add_div hH,Nat.div_eq_of_lt hr,Nat.add_zero]
 obtain⟨e,rfl⟩:∃ e,E=e+1:=⟨E-1,by omega⟩;unfold FP.cval FP.cq FP.csh;rw[hd,Nat.add_sub_cancel,Nat.add_mul,Nat.one_mul,Nat.add_assoc,Nat.add_sub_cancel_left]
def Cq (f cx cy:Nat):Nat:=if cy%2^(FP.fP f-1)<=cx%2^(FP.fP f-1) then cx/2^(FP.fP f-1)*2^(FP.fP f-1)+cy%2^(FP.fP f-1) else(cx/2^(FP.fP f-1)-1)*2^(FP.fP f-1)+cy%2^(FP.fP f-1)
theorem aAm {f cx cy:Nat} (hf:f<4) (hx:cx<FP.inf f) (hD:1<=cy/2^(FP.fP f-1)) (hE:cy/2^(FP.fP f-1)+2<=cx/2^(FP.fP f-1)) :
  Cq f cx cy<=cx/\∃ L k,L<FP.inf f/\1<=k/\FP.val f L+FP.val f (Cq f cx cy)=FP.val f cx/\FP.val f (Cq f cx cy)=FP.val f cy*2^k:=by
 have hp:=FP.fP_ge hf;have hH:=FP.two_pow_pos (FP.fP f-1);have hh:=FP.half_pow hp;have ex:=Nat.div_add_mod cx (2^(FP.fP f-1));have ey:=Nat.div_add_mod cy (2^(FP.fP f-1));have lr:=Nat.mod_lt cx hH;have ls:=Nat.mod_lt cy hH;have hfin:=FP.val_fin hf hx;unfold Cq;generalize cx/2^(FP.fP f-1)=E at *
 generalize cy/2^(FP.fP f-1)=D at *
 generalize cx%2^(FP.fP f-1)=r at *
 generalize cy%2^(FP.fP f-1)=s at *
 have vx:FP.val f cx=(2^(FP.fP f-1)+r)*2^(E-1):=by rw[WM,<- ex,Nat.mul_comm];exact WP lr (by omega)
 have vy:FP.val f cy=(2^(FP.fP f-1)+s)*2^(D-1):=by rw[WM,<- ey,Nat.mul_comm];exact WP ls (by omega)
 by_cases h:s<=r
 ·rw[if_pos h];have vp:FP.val f (E*2^(FP.fP f-1)+s)=(2^(FP.fP f-1)+s)*2^(E-1):=by rw[WM];exact WP ls (by omega)
  have hq:(r-s)*2^(E-1)+(2^(FP.fP f-1)+s)*2^(E-1)=(2^(FP.fP f-1)+r)*2^(E-1):=by rw[<- Nat.add_mul];congr 1;omega
  obtain⟨L,l1,l2⟩:=FP.code_of hf (q:=r-s) (k:=E-1) (by omega) (by rw[vx] at hfin;omega);refine⟨by rw[<- ex,Nat.mul_comm];omega,L,E-D,l1,by omega,by rw[l2,vp,vx];exact hq,?_⟩;rw[vp,vy,Nat.mul_assoc,<- Nat.pow_add];congr 2;omega
 ·rw[if_neg h];obtain⟨e,rfl⟩:∃ e,E=e+2:=⟨E-2,by omega⟩;rw[show e+2-1=e+1 by omega] at *
  have vp:FP.val f ((e+1)*2^(FP.fP f-1)+s)=(2^(FP.fP f-1)+s)*2^e:=by rw[WM];exact WP ls (by omega)
  have hq:(2^(FP.fP f-1)+2*r-s)*2^e+(2^(FP.fP f-1)+s)*2^e=(2^(FP.fP f-1)+r)*2^(e+1):=by rw[<- Nat.add_mul,Nat.pow_succ,Nat.mul_comm (2^e) 2,<- Nat.mul_assoc];congr 1;omega
  obtain⟨L,l1,l2⟩:=FP.code_of hf (q:=2^(FP.fP f-1)+2*r-s) (k:=e) (by omega) (by rw[vx] at hfin;omega);have e2:2^(FP.fP f-1)*(e+2)=(e+1)*2^(FP.fP f-1)+2^(FP.fP f-1):=by rw[Nat.mul_comm,show e+2=(e+1)+1 from rfl,Nat.succ_mul]
  refine⟨by rw[<- ex,e2];omega,L,e+1-D,l1,by omega,by rw[l2,vp,vx];exact hq,?_⟩;rw[vp,vy,Nat.mul_assoc,<- Nat.pow_add];congr 2;omega
theorem aAn {f cx cy : Nat} (hf : f < 4) (hx : cx < FP.inf f) (hy : cy < FP.inf f) (hD : 1 <= cy / 2 ^ (FP.fP f - 1)) (hE : cy / 2 ^ (FP.fP f - 1) + 2 <= cx / 2 ^ (FP.fP f - 1)) :
    Cq f cx cy <= cx /\ ¬ 4 <= uf f (Cq f cx cy) /\ ∃ L R, L < FP.inf f /\ R < uh /\ Co f cx cy = (R, 0) /\ CP f 0 false cx (BA f (Cq f cx cy)) = (L, 0) /\ Co f L cy = (R, 0) /\ uf f R < 3 /\ 2 * FP.val f (FP.cod f R) <= FP.val f (FP.cod f cy) := by
  obtain ⟨hpx, L, k, l1, hk, hv, hpk⟩ := aAm hf hx hD hE;have hp := FP.fP_ge hf;have hi := aab hf
  have y0 : 0 < cy := by apply Nat.pos_of_ne_zero; intro e; rw [e, Nat.zero_div] at hD; omega
  have code : ∀ c, c < FP.inf f -> FP.cod f c = c /\ FP.sgn f c = false /\ uf f c < 3 := λc hc => by
    have hl : c < 2 ^ (FP.fW f - 1) := Nat.lt_trans hc hi
    have h1 : FP.cod f c = c := by
      conv => lhs; rw [<- @WO f c]
      exact FP.cod_mk _ hl
    have h2 : FP.sgn f c = false := by rw [<- @WO f c]; exact FP.sgn_mk _ hl
    exact ⟨h1, h2, by rw [WN hf, h1]; exact hc⟩
  obtain ⟨x1, x2, x3⟩ := code cx hx;obtain ⟨y1, y2, y3⟩ := code cy hy;obtain ⟨L1, L2, L3⟩ := code L l1;obtain ⟨p1, p2, p3⟩ := code (Cq f cx cy) (Nat.lt_of_le_of_lt hpx hx)
  have yc : uf f cy = 1 \/ uf f cy = 2 := by
    have : uf f cy ≠ 0 := λe => by rw [La hf, y1] at e;have := ag6.1 e;omega
    omega
  have hB := ak1 hf y0;have g1 := ak2 hf x3 yc;have g2 := ak2 hf L3 yc;rw [x1, x2, y1] at g1;rw [L1, L2, y1] at g2;obtain ⟨t1, t2⟩ := aAl (A := FP.val f L) hB hk;rw [<- hpk, hv] at t1 t2;have hc : FP.remC f cx cy = FP.remC f L cy := by unfold FP.remC; rw [t2]
  rw [t1, t2, hc] at g1;obtain ⟨r1, r2, r3⟩ := FP.remC_val hf l1 y0 hy;have hl : FP.remC f L cy < 2 ^ (FP.fW f - 1) := Nat.lt_trans r1 hi;have hhalf := FP.remV_half (A := FP.val f L) hB;refine ⟨hpx, by omega, L, _, l1, apl hf _ hl, g1, ?_, g2, ?_, ?_⟩
  · have q3 : uf f (BA f (Cq f cx cy)) < 3 := by rw [apk]; exact p3
    unfold CP;rw [if_neg (by omega), if_neg (by omega), if_neg (λh => by have := (VB h).1; omega), if_neg (by omega), if_neg (by omega)];have hpv : FP.val f (Cq f cx cy) <= FP.val f cx := by omega
    have hV : FP.sgV false true (FP.val f cx) (FP.val f (Cq f cx cy)) = FP.val f L := by unfold FP.sgV; rw [if_neg (by decide), if_neg (by omega)]; omega
    have hN : FP.addN f 0 false true cx (Cq f cx cy) = false := by
      unfold FP.addN FP.sgN;split
      · rfl
      · unfold FP.sgS; rw [if_neg (by decide), if_neg (by omega)]
    have hC : FP.addC f 0 false false true cx (Cq f cx cy) = (L, 0) := by unfold FP.addC;rw [hV];exact FP.roundC_exact hp (by decide) l1 (by rw [Nat.mul_one])
    rw [x1, x2, af2 hf, apj hf, p1, p2];rw [show (!false) = true from rfl, hN, hC, WO]
  · rw [WN hf, FP.cod_mk _ hl]; exact r1
  · rw [FP.cod_mk _ hl, r2, y1]; exact hhalf
theorem aAo {f c r:Nat} (hf:f<4) (hc:c<2^(FP.fW f-1)) (hr:r<2^(FP.fP f-1)) {E:Nat} (hE:E<=c/2^(FP.fP f-1)):E*2^(FP.fP f-1)+r<2^(FP.fW f-1):=by
 obtain⟨n1,n2,n3,n4,n5,n6,n7,n8,n9⟩:=FP.fmtN hf;have hH:=FP.two_pow_pos (FP.fP f-1);have e1:2^(FP.fW f-1)=2^(FP.fW f-FP.fP f)*2^(FP.fP f-1):=by rw[<- Nat.pow_add];congr 1;omega
 rw[e1] at hc ⊢;have h1:c/2^(FP.fP f-1)<2^(FP.fW f-FP.fP f):=(Nat.div_lt_iff_lt_mul hH).2 hc;have h2:(E+1)*2^(FP.fP f-1)<=2^(FP.fW f-FP.fP f)*2^(FP.fP f-1):=Nat.mul_le_mul_right _ (by omega);rw[Nat.succ_mul] at h2;omega
end Go.Proofs.YtippohicjhilnaaGreatDoor
