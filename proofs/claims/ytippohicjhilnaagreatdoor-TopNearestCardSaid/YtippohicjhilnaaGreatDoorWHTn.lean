import Derived.Test.YtippohicjhilnaaGreatDoorZJTn
import Derived.Test.YtippohicjhilnaaGreatDoorZQTn
set_option linter.unusedSimpArgs false
set_option linter.unusedVariables false
namespace Go.Proofs.YtippohicjhilnaaGreatDoor.FP
theorem aBC {m:Nat} {neg:Bool} {N E:Nat} (hm:m=0\/m=1) (h:upN m neg N E=true):E<=2*(N%E)/\(E=2*(N%E)->m=0->N/E%2=1):=by
 unfold upN aeW at h;split at h
 ·cases h
 ·split at h
  ·rcases hm with rfl|rfl<;>cases h
  ·split at h
   ·rename_i h0 h1 h2;refine⟨by omega,λ_ hm0=>?_⟩;subst hm0;exact(show _/\_ by simpa [aCK,aDP] using h).2
   ·exact⟨by omega,λh3=>by omega⟩
theorem aBD {m:Nat} {neg:Bool} {N E:Nat} (hE:0<E) (hm:m=0\/m=1) (h:upN m neg N E=false):2*(N%E)<=E/\(E=2*(N%E)->m=0/\N/E%2=0):=by
 unfold upN aeW at h;split at h
 ·rename_i h0;exact⟨by omega,λh1=>by omega⟩
 ·split at h
  ·rename_i h0 h1;exact⟨by omega,λh2=>by omega⟩
  ·split at h
   ·rename_i h0 h1 h2;refine⟨by omega,λ_=>?_⟩;rcases hm with rfl|rfl
    ·refine⟨rfl,?_⟩;have:¬ N/E%2=1:=by intro h3;simp[aCK,aDP,h3] at h
     omega
    ·cases h
   ·rcases hm with rfl|rfl<;>cases h
def dst (a b:Nat):Nat:=if a<b then b-a else a-b
theorem YN {a b:Nat} (h:b<=a):dst a b=a-b:=by unfold dst;split<;>omega
theorem ae9 {a b:Nat} (h:a<=b):dst a b=b-a:=by unfold dst;split<;>omega
theorem aBE {p N D:Nat} (hp:2<=p):zy p N D%2=N/(D*2^xL p N D)%2:=by unfold zy;obtain⟨k,rfl⟩:∃ k,p=k+2:=⟨p-2,by omega⟩;rw[show k+2-1=k+1 from rfl,Nat.pow_succ,<- Nat.mul_assoc];generalize xL (k+2) N D*2^k=x;omega
theorem amK {p m:Nat} {neg:Bool} {N D:Nat} (hp:2<=p) (hD:0<D) (hm:m=0\/m=1) (d:Nat) :
  dst N (xq p (afg p m neg N D)*D)<=dst N (xq p d*D) /\
  (dst N (xq p (afg p m neg N D)*D)=dst N (xq p d*D)->d≠afg p m neg N D->(m=0->afg p m neg N D%2=0)/\(m=1->d<afg p m neg N D)):=by
 obtain⟨h1,h2⟩:=abJ (p:=p) (N:=N) (D:=D) hp;have hE0:0<D*2^xL p N D:=Nat.mul_pos hD (two_pow_pos _);have hpar:=aBE (p:=p) (N:=N) (D:=D) hp;have a1:xq p (zy p N D)*D=N/(D*2^xL p N D)*(D*2^xL p N D):=by rw[h1,Nat.mul_assoc,Nat.mul_comm (2^_) D]
 have a2:xq p (zy p N D+1)*D=N/(D*2^xL p N D)*(D*2^xL p N D)+D*2^xL p N D:=by rw[h2,Nat.mul_assoc,Nat.mul_comm (2^_) D,Nat.succ_mul]
 have em:=Nat.div_add_mod N (D*2^xL p N D);rw[Nat.mul_comm] at em;have lt:=Nat.mod_lt N hE0;have hlo:d<=zy p N D->xq p d*D<=xq p (zy p N D)*D:=λh=>Nat.mul_le_mul_right D ((PL hp).2 h)
 have hhi:zy p N D+1<=d->xq p (zy p N D+1)*D<=xq p d*D:=λh=>Nat.mul_le_mul_right D ((PL hp).2 h)
 have hlo':xq p d*D=xq p (zy p N D)*D->d=zy p N D:=λh=>ahq hp (Nat.eq_of_mul_eq_mul_right hD h)
 have hhi':xq p d*D=xq p (zy p N D+1)*D->d=zy p N D+1:=λh=>ahq hp (Nat.eq_of_mul_eq_mul_right hD h)
 rw[a1] at hlo hlo';rw[a2] at hhi hhi';rw[abI];have ut:=aBC (neg:=neg) (N:=N) (E:=D*2^xL p N D) hm;have uf:=aBD (neg:=neg) (N:=N) hE0 hm;generalize upN m neg N (D*2^xL p N D)=u at *
 generalize zy p N D=g at *
 generalize N/(D*2^xL p N D)=q at *
 generalize N%(D*2^xL p N D)=r at *
 generalize D*2^xL p N D=E at *
 generalize q*E=Q at *
 generalize hY:xq p d*D=Y at *
 cases u with
 | false =>
  obtain⟨u1,u2⟩:=uf rfl;rw[show g+Bool.toNat false=g from rfl,a1];rw[YN (a:=N) (b:=Q) (by omega)];rcases Nat.lt_or_ge g d with hd|hd
  ·have:=hhi hd;rw[ae9 (a:=N) (b:=Y) (by omega)];refine⟨by omega,λhe hne=>?_⟩;obtain⟨rfl,h3⟩:=u2 (by omega);exact⟨λ_=>by omega,λh=>by cases h⟩
  ·have:=hlo hd;rw[YN (a:=N) (b:=Y) (by omega)];refine⟨by omega,λhe hne=>absurd (hlo' (by omega)) hne⟩
 | true =>
  obtain⟨u1,u2⟩:=ut rfl;rw[show g+Bool.toNat true=g+1 from rfl,a2];rw[ae9 (a:=N) (b:=Q+E) (by omega)];rcases Nat.lt_or_ge g d with hd|hd
  ·have:=hhi hd;rw[ae9 (a:=N) (b:=Y) (by omega)];refine⟨by omega,λhe hne=>absurd (hhi' (by omega)) hne⟩
  ·have:=hlo hd;rw[YN (a:=N) (b:=Y) (by omega)];refine⟨by omega,λhe hne=>?_⟩;have hE2:E=2*r:=by omega
   exact⟨λh=>by have:=u2 hE2 h;omega,λ_=>by omega⟩
theorem afa (s:Bool) (A B:Nat):sgV s (!s) A B=dst A B:=by unfold sgV dst;rw[if_neg (by cases s<;>decide)]
theorem amL {s t:Bool} (h:s≠t) (A B:Nat):sgV s (!t) A B=A+B:=by unfold sgV;rw[if_pos];revert h;cases s<;>cases t<;>decide
theorem afb (s t:Bool) (B:Nat):sgV s t 0 B=B:=by unfold sgV;split<;>(try split)<;>omega
theorem aBF (p m:Nat) (neg:Bool) {D:Nat} (hp:2<=p) (hD:0<D):afg p m neg 0 D=0:=abK hp hD (by rw[amR,Nat.zero_mul])
theorem aBG {p m:Nat} {s n t:Bool} {N D c:Nat} (hp:2<=p) (hD:0<D) (hm:m=0\/m=1) (hc:c=afg p m n N D) (hs:N≠0->s=n) (d:Nat) :
  sgV s (!n) N (xq p c*D)<=sgV s (!t) N (xq p d*D) /\
  (sgV s (!n) N (xq p c*D)=sgV s (!t) N (xq p d*D)->sgV n (!t) (xq p c) (xq p d)≠0->(m=0->c%2=0)/\(m=1->d<c)) /\
  (sgV s (!n) N (xq p c*D)=0↔N=xq p c*D):=by
 by_cases hN:N=0
 ·subst hN;have hc0:c=0:=by rw[hc,aBF p m n hp hD]
  subst hc0;rw[amR,Nat.zero_mul,afb,afb,afb];refine⟨Nat.zero_le _,λh hne=>?_,by simp⟩;have:xq p d*D=0:=h.symm;rcases Nat.mul_eq_zero.1 this with h|h
  ·exact absurd h hne
  ·omega
 ·obtain rfl:=hs hN;rw[afa];have hz:dst N (xq p c*D)=0↔N=xq p c*D:=by unfold dst;split<;>omega
  by_cases ht:s=t
  ·subst ht;rw[afa,afa];obtain⟨k1,k2⟩:=amK (neg:=s) (N:=N) hp hD hm d;rw[<- hc] at k1 k2;refine⟨k1,λh hne=>k2 h ?_,hz⟩;rintro rfl;apply hne;unfold dst;split<;>omega
  ·rw[amL ht,amL ht];obtain⟨k1,k2⟩:=amK (neg:=s) (N:=N) hp hD hm 0;rw[<- hc,amR,Nat.zero_mul,YN (a:=N) (Nat.zero_le _),Nat.sub_zero] at k1 k2;refine⟨by omega,λh hne=>?_,hz⟩;have hd:xq p d*D=0:=by omega
   have hd:xq p d=0:=(Nat.mul_eq_zero.1 hd).resolve_right (by omega)
   have hd0:d=0:=by apply Nat.eq_zero_of_not_pos;intro h0;have:=aqt hp h0;omega
   subst hd0;exact k2 (by omega) (by rintro rfl;rw[amR] at hne;exact hne rfl)
theorem aDx {p emax m:Nat} {a neg:Bool} {N D:Nat} (hp:2<=p) (hD:0<D) (hm:m=0\/m=1) (h:(acJ p emax m a neg N D).1<aCE p emax) :
  (acJ p emax m a neg N D).1=afg p m neg N D/\((acJ p emax m a neg N D).2=0↔N=xq p (afg p m neg N D)*D):=by
 unfold acJ at *
 split at h
 ·rename_i h0;exfalso;have:aCQ p emax m neg=aCE p emax:=by unfold aCQ;rcases hm with rfl|rfl<;>rfl
  simp only[this] at h;omega
 ·rename_i h0;rw[if_neg h0];refine⟨rfl,?_⟩;simp only[];constructor
  ·intro h1;split at h1
   ·rename_i h2;have h3:=(WT hp hD).1 h2;have:afg p m neg N D=zy p N D:=abK hp hD h3;rw[this];exact h3
   ·split at h1<;>cases h1
  ·intro h1;have h2:=(WU hp hD h1).1;unfold Iz at h2;rw[if_pos h2]
end Go.Proofs.YtippohicjhilnaaGreatDoor.FP
namespace Go.Proofs.YtippohicjhilnaaGreatDoor
namespace FP
def mg (u M:Nat) (E:Int):Nat:=M*2^(E+u).toNat
theorem amM {u M:Nat} {E:Int} : mg u M E=0↔M=0:=by
 unfold mg;have:=two_pow_pos (E+u).toNat;constructor
 ·intro h;exact(Nat.mul_eq_zero.1 h).resolve_right (by omega)
 ·intro h;rw[h,Nat.zero_mul]
theorem Vq (s t:Bool) {u M K:Nat} {E F:Int} (hE:0<=E+u) (hF:0<=F+u):mg u (aCz s t M E K F) (min E F)=sgV s t (mg u M E) (mg u K F)/\aDk s t M E K F=sgS s t (mg u M E) (mg u K F):=by
 have hm3:0<=min E F+u:=by omega
 have eA:M*2^(E+u).toNat=M*2^(E-min E F).toNat*2^(min E F+u).toNat:=XG (by omega) hm3;have eB:K*2^(F+u).toNat=K*2^(F-min E F).toNat*2^(min E F+u).toNat:=XG (by omega) hm3;obtain⟨k1,k2⟩:=UG s t (M*2^(E-min E F).toNat) (K*2^(F-min E F).toNat) (2^(min E F+u).toNat) (two_pow_pos _);unfold mg aCz aDk;rw[eA,eB];exact⟨k1.symm,k2.symm⟩
theorem aD3 {u M K:Nat} {E F:Int} (hE:0<=E+u) (hF:0<=F+u):M*2^(E-min E F).toNat<K*2^(F-min E F).toNat↔mg u M E<mg u K F:=by
 have hm3:0<=min E F+u:=by omega
 unfold mg;rw[show M*2^(E+u).toNat=M*2^(E-min E F).toNat*2^(min E F+u).toNat from XG (by omega) hm3,show K*2^(F+u).toNat=K*2^(F-min E F).toNat*2^(min E F+u).toNat from XG (by omega) hm3];exact(Nat.mul_lt_mul_right (two_pow_pos _)).symm
theorem aCV {f:Nat} (hf:f<4) (c:Nat):mg (fU f+fU f) (vM f c) (vE f c)=val f c*2^fU f/\0<=vE f c+((fU f+fU f:Nat):Int):=by obtain⟨v1,v2⟩:=acI hf c;unfold mg;refine⟨?_,by omega⟩;rw[v2,Nat.mul_assoc,<- Nat.pow_add];congr 2;omega
theorem amN {f:Nat} (hf:f<4) (c d:Nat):mg (fU f+fU f) (vM f c*vM f d) (vE f c+vE f d)=val f c*val f d/\0<=vE f c+vE f d+((fU f+fU f:Nat):Int):=by obtain⟨v1,v2⟩:=acI hf c;obtain⟨w1,w2⟩:=acI hf d;unfold mg;refine⟨?_,by omega⟩;rw[v2,w2,show vM f c*2^(vE f c+fU f).toNat*(vM f d*2^(vE f d+fU f).toNat)=vM f c*vM f d*(2^(vE f c+fU f).toNat*2^(vE f d+fU f).toNat) by ac_rfl,<- Nat.pow_add];congr 2;omega
structure Exact (f:Nat) (s:Bool) (Q:Nat) (E:Int) (n:Bool) (N D:Nat):Prop where
 pos:0<D
 lvl:0<=E+((fU f+fU f:Nat):Int)
 val:∃ K,0<K/\D*K=2^fU f/\mg (fU f+fU f) Q E=N*K
 sgn:N≠0->s=n
theorem amO {m:Nat} {s t:Bool} {A B:Nat} (h:sgV s t A B≠0):sgS s t A B=JP m s t A B:=by unfold JP;rw[if_neg h]
theorem aDf {f:Nat} (m:Nat) (hf:f<4) (s t:Bool) (c d:Nat) :
  Exact f (aDk s t (vM f c) (vE f c) (vM f d) (vE f d)) (aCz s t (vM f c) (vE f c) (vM f d) (vE f d)) (min (vE f c) (vE f d)) (addN f m s t c d) (sgV s t (val f c) (val f d)) 1:=by
 obtain⟨v1,v2⟩:=aCV hf c;obtain⟨w1,w2⟩:=aCV hf d;obtain⟨k1,k2⟩:=Vq s t (M:=vM f c) (K:=vM f d) v2 w2;obtain⟨j1,j2⟩:=UG s t (FP.val f c) (FP.val f d) (2^fU f) (two_pow_pos _);rw[v1,w1] at k1 k2;refine⟨by decide,by omega,⟨2^fU f,two_pow_pos _,Nat.one_mul _,k1.trans j1⟩,λh=>?_⟩;rw[k2,j2];exact amO h
theorem aDg {f:Nat} (hf:f<4) (n:Bool) (c d:Nat):Exact f n (vM f c*vM f d) (vE f c+vE f d) n (val f c*val f d) (2^fU f):=by obtain⟨v1,v2⟩:=amN hf c d;exact⟨two_pow_pos _,v2,⟨1,by decide,Nat.mul_one _,by rw[v1,Nat.mul_one]⟩,λ_=>rfl⟩
theorem aDh {f:Nat} (m:Nat) (hf:f<4) (s t:Bool) (c d e:Nat) :
  Exact f (aDk s t (vM f c*vM f d) (vE f c+vE f d) (vM f e) (vE f e)) (aCz s t (vM f c*vM f d) (vE f c+vE f d) (vM f e) (vE f e)) (min (vE f c+vE f d) (vE f e)) (aDB f m s t c d e) (sgV s t (val f c*val f d) (val f e*2^fU f)) (2^fU f):=by
 obtain⟨v1,v2⟩:=amN hf c d;obtain⟨w1,w2⟩:=aCV hf e;obtain⟨k1,k2⟩:=Vq s t (M:=vM f c*vM f d) (K:=vM f e) v2 w2;rw[v1,w1] at k1 k2;refine⟨two_pow_pos _,by omega,⟨1,by decide,Nat.mul_one _,by rw[k1,Nat.mul_one]⟩,λh=>?_⟩;rw[k2];exact amO h
theorem nearest {f m:Nat} {s n t:Bool} {Q N D c:Nat} {E:Int} (hf:f<4) (hm:m=0\/m=1) (hX:Exact f s Q E n N D) (hc:c=afg (fP f) m n N D) (d:Nat) :
  ¬ mg (fU f+fU f) (aCz s (!t) Q E (vM f d) (vE f d)) (min E (vE f d))<mg (fU f+fU f) (aCz s (!n) Q E (vM f c) (vE f c)) (min E (vE f c)) /\
  (¬ mg (fU f+fU f) (aCz s (!n) Q E (vM f c) (vE f c)) (min E (vE f c))<mg (fU f+fU f) (aCz s (!t) Q E (vM f d) (vE f d)) (min E (vE f d))->aCz n (!t) (vM f c) (vE f c) (vM f d) (vE f d)≠0 ->
   (m=0->c%2=0)/\(m=1->¬ mg (fU f+fU f) (vM f c) (vE f c)<mg (fU f+fU f) (vM f d) (vE f d))) /\
  (aCz s (!n) Q E (vM f c) (vE f c)=0↔N=val f c*D):=by
 obtain⟨h0,h1,⟨K,h2,h3,h4⟩,h5⟩:=hX;obtain⟨v1,v2⟩:=aCV hf c;obtain⟨w1,w2⟩:=aCV hf d;have p1:=(Vq s (!n) (M:=Q) (K:=vM f c) h1 v2).1;have q1:=(Vq s (!t) (M:=Q) (K:=vM f d) h1 w2).1;have x1:=(Vq n (!t) (M:=vM f c) (K:=vM f d) v2 w2).1;rw[h4,v1,<- h3,<- Nat.mul_assoc,(UG s (!n) N (FP.val f c*D) K h2).1] at p1;rw[h4,w1,<- h3,<- Nat.mul_assoc,(UG s (!t) N (FP.val f d*D) K h2).1] at q1;rw[v1,w1,(UG n (!t) (FP.val f c) (FP.val f d) (2^fU f) (two_pow_pos _)).1] at x1;obtain⟨a1,a2,a3⟩:=aBG (t:=t) (aDr hf) h0 hm hc h5 d;rw[p1,q1];refine⟨?_,λhle hne=>?_,?_⟩
 ·have:=Nat.mul_le_mul_right K a1;exact Nat.not_lt.2 this
 ·have he:sgV s (!n) N (FP.val f c*D)=sgV s (!t) N (FP.val f d*D):=by refine Nat.le_antisymm a1 ?_;exact Nat.le_of_mul_le_mul_right (Nat.not_lt.1 hle) h2
  have hz:sgV n (!t) (xq (fP f) c) (xq (fP f) d)≠0:=by intro h;apply hne;rw[show sgV n (!t) (FP.val f c) (FP.val f d)=0 from h,Nat.zero_mul] at x1;exact amM.1 x1
  obtain⟨b1,b2⟩:=a2 he hz;refine⟨b1,λh=>?_⟩;have:=WS (aDr hf) (b2 h);rw[v1,w1,Nat.not_lt];exact Nat.mul_le_mul_right _ (Nat.le_of_lt this)
 ·rw[<- amM (u:=fU f+fU f) (E:=min E (vE f c)),p1,<- a3];constructor
  ·intro h;exact(Nat.mul_eq_zero.1 h).resolve_right (by omega)
  ·intro h;rw[h,Nat.zero_mul]
end FP
end Go.Proofs.YtippohicjhilnaaGreatDoor
