import Derived.Test.YtippohicjhilnaaGreatDoorZGTr
set_option linter.unusedSimpArgs false
set_option linter.unusedVariables false
set_option maxRecDepth 100000
namespace Go.Proofs.YtippohicjhilnaaGreatDoor.FP
def isqGo (n:Nat):Nat->Nat->Nat
 | 0,r=>r
 | k+1,r=>isqGo n k (if (r+2^k)*(r+2^k)<=n then r+2^k else r)
def isq (n:Nat):Nat:=isqGo n 128 0
theorem aaI (n:Nat):∀ (k r:Nat),r*r<=n->n<(r+2^k)*(r+2^k)->isqGo n k r*isqGo n k r<=n/\n<(isqGo n k r+1)*(isqGo n k r+1)
 | 0,r,h1,h2=>⟨h1,h2⟩
 | k+1,r,h1,h2=>by
  unfold isqGo;split
  ·rename_i h;refine aaI n k _ h ?_;rw[Nat.add_assoc,<- Nat.mul_two,<- Nat.pow_succ];exact h2
  ·rename_i h;exact aaI n k _ h1 (by omega)
theorem ars {n:Nat} (h:n<2^256):isq n*isq n<=n/\n<(isq n+1)*(isq n+1) :=
 aaI n 128 0 (Nat.zero_le _) (by rw[Nat.zero_add,<- Nat.pow_add];exact h)
theorem art {a b:Nat} (h:a*a<b*b):a<b:=by apply Nat.lt_of_not_le;intro hle;have:=Nat.mul_le_mul hle hle;omega
theorem isq_lt {n:Nat} (h:n<2^256):isq n<2^128:=by apply art;rw[<- Nat.pow_add];exact Nat.lt_of_le_of_lt (ars h).1 h
theorem ag0 {p emax m:Nat} {after neg:Bool} {e:Int} {j L M:Nat} (hp:2<=p) (hq:L/2=M/2^(j+1)) (hz:L%2=0↔M%2^(j+1)=0) (hbig:2^(p+1)<=L/2) :
  roundE p emax m after neg (e+j) L=roundE p emax m after neg e M:=by
 unfold roundE;obtain⟨P1,hP1⟩:∃ k,(e+j-255+emax+p-2:Int).toNat=k:=⟨_,rfl⟩;obtain⟨Q1,hQ1⟩:∃ k,(255+2-(e+j)-emax-p:Int).toNat=k:=⟨_,rfl⟩;obtain⟨P2,hP2⟩:∃ k,(e-255+emax+p-2:Int).toNat=k:=⟨_,rfl⟩;obtain⟨Q2,hQ2⟩:∃ k,(255+2-e-emax-p:Int).toNat=k:=⟨_,rfl⟩;rw[hP1,hQ1,hP2,hQ2];have div1:∀ (x k P:Nat),x*2^P/2^(k+P)=x/2^k:=λx k P=>by rw[Nat.pow_add,Nat.mul_div_mul_right _ _ (two_pow_pos _)]
 have mod1:∀ (x k P:Nat),x*2^P%2^(k+P)=0↔x%2^k=0:=λx k P=>by
  rw[Nat.pow_add,Nat.mul_mod_mul_right];have:=two_pow_pos P;constructor
  ·intro h;rcases Nat.mul_eq_zero.1 h with h|h
   ·exact h
   ·omega
  ·intro h;rw[h,Nat.zero_mul]
 refine aoD (G1:=2^(1+P1)) (G2:=2^(j+1+P2)) (a:=(e+j-255+emax+p-1:Int).toNat) (b:=(255+1-(e+j)-emax-p:Int).toNat) hp (two_pow_pos _) (two_pow_pos _) (two_pow_pos _) (two_pow_pos _) ?_ ?_ ?_ ?_ ?_
 ·rw[<- Nat.pow_add,<- Nat.pow_add];congr 1;omega
 ·rw[<- Nat.pow_add,<- Nat.pow_add];congr 1;omega
 ·rw[div1,div1,Nat.pow_one];exact hq
 ·rw[mod1,mod1,Nat.pow_one];exact hz
 ·rw[div1,Nat.pow_one];exact hbig
theorem ag1 {p emax m:Nat} {after neg:Bool} {e:Int} {j L:Nat} (hp:2<=p) :
  roundE p emax m after neg (e+j) L=roundE p emax m after neg e (L*2^j):=by
 unfold roundE;apply ZL hp (two_pow_pos _) (two_pow_pos _);rw[Nat.mul_assoc L,<- Nat.pow_add,Nat.mul_assoc,Nat.mul_assoc,<- Nat.pow_add,<- Nat.pow_add];congr 2;omega
def CO (s:Nat):Prop:=s%2^30=0/\(s=0\/2^253<=s)/\s<2^256
theorem R4 {s k n:Nat} (h:s%2^n=0) (hk:k<=n):s%2^k=0:=by have e:s%2^n%2^k=s%2^k:=Nat.mod_mod_of_dvd s (Nat.pow_dvd_pow 2 hk);rw[h,Nat.zero_mod] at e;exact e.symm
theorem aaJ {s j:Nat} (h:s%2^j=0):jam s j=s/2^j:=by unfold jam;rw[if_pos h]
theorem jam_zero (j:Nat):jam 0 j=0:=by unfold jam;simp
theorem VA {p emax m:Nat} {after neg:Bool} {e:Int} {d s t:Nat} (hp:2<=p) (hp2:p<=240) (hs:CO s) (hs0:s≠0) :
  roundE p emax m after neg (e+(d+1:Nat)) (jam s 1+jam t (d+1))=roundE p emax m after neg e (s*2^d+t):=by
 obtain⟨h1,h2,h3⟩:=hs;have h4:s%4=0:=R4 (k:=2) h1 (by decide);obtain⟨q,rfl⟩:∃ q,s=4*q:=⟨s/4,by omega⟩;have hj:jam (4*q) 1=2*q:=by rw[aaJ (by omega)];omega
 obtain⟨g1,g2⟩:=jam_half t (d+1);rw[hj];generalize jam t (d+1)=J at *
 have hpow:2^(d+1+1)=4*2^d:=by rw[Nat.pow_succ,Nat.pow_succ];omega
 have hM:4*q*2^d+t=2^(d+1+1)*q+t:=by rw[hpow,Nat.mul_right_comm]
 refine ag0 hp ?_ ?_ ?_
 ·rw[hM,Nat.mul_add_div (two_pow_pos _),<- g1];omega
 ·rw[hM,Nat.mul_add_mod,Nat.mul_add_mod];exact g2
 ·have:2^(p+1)<=2^251:=Nat.pow_le_pow_right (by decide) (by omega);have:2^253=4*2^251:=by decide
  omega
theorem aru {p emax m:Nat} {after neg:Bool} {e:Int} {d s t:Nat} (hp:2<=p) (hp2:p<=240) (hs:CO s) (ht:CO t) (hs0:s≠0) (hle:t<=s*2^d) :
  roundE p emax m after neg (e+d) (s-jam t d)=roundE p emax m after neg e (s*2^d-t):=by
 by_cases hx:t%2^d=0
 ·rw[aaJ hx,ag1 hp];congr 1;rw[Nat.sub_mul,Nat.div_mul_cancel (Nat.dvd_of_mod_eq_zero hx)]
 obtain⟨h1,h2,h3⟩:=hs;obtain⟨k1,k2,k3⟩:=ht
 have hd:30<d:=by apply Nat.lt_of_not_le;intro h;exact hx (R4 k1 h)
 have h4:s%4=0:=R4 (k:=2) h1 (by decide);obtain⟨q,rfl⟩:∃ q,s=4*q:=⟨s/4,by omega⟩
 have hj:jam t d=2*(t/2^(d+1))+1:=by unfold jam;rw[if_neg hx,Nat.div_div_eq_div_mul,<- Nat.pow_succ,Nat.mul_comm 2]
 have hsmall:t/2^(d+1)<2^225:=by rw[Nat.div_lt_iff_lt_mul (two_pow_pos _),<- Nat.pow_add];exact Nat.lt_of_lt_of_le k3 (Nat.pow_le_pow_right (by decide) (by omega))
 have hx2:t%2^(d+1)≠0:=λh=>hx (R4 h (by omega))
 have hdm:=Nat.div_add_mod t (2^(d+1));have hml:=Nat.mod_lt t (two_pow_pos (d+1));rw[hj];generalize t/2^(d+1)=u at *
 generalize t%2^(d+1)=r at *
 have big:2^253<=4*q:=by omega
 have c1:2^253=2^225*2^28:=by rw[<- Nat.pow_add]
 have c2:2^251=2^225*2^26:=by rw[<- Nat.pow_add]
 have hM:4*q*2^d-t=2^(d+1)*(2*q-u-1)+(2^(d+1)-r):=by
  have e1:4*q*2^d=2^(d+1)*(2*q):=by rw[Nat.pow_succ,show 4*q=2*(2*q) by omega];ac_rfl
  have e2:2^(d+1)*(2*q)=2^(d+1)*(2*q-u-1)+2^(d+1)*u+2^(d+1):=by rw[<- Nat.mul_add,<- Nat.mul_succ];congr 1;omega
  omega
 have hl:2^(d+1)-r<2^(d+1):=Nat.sub_lt (two_pow_pos _) (by omega);have hl0:2^(d+1)-r≠0:=by omega
 refine ag0 hp ?_ ?_ ?_
 ·rw[hM,Nat.mul_add_div (two_pow_pos _),Nat.div_eq_of_lt hl];omega
 ·rw[hM,Nat.mul_add_mod,Nat.mod_eq_of_lt hl];constructor
  ·intro h;omega
  ·intro h;exact absurd h hl0
 ·have:2^(p+1)<=2^241:=Nat.pow_le_pow_right (by decide) (by omega);have:2^241=2^225*2^16:=by rw[<- Nat.pow_add]
  omega
def lvl (ea:Int) (sa:Nat) (eb:Int) (sb:Nat):Int:=if sa=0/\sb≠0 then eb else if sb=0/\sa≠0 then ea else max ea eb
def sumT (ea:Int) (sa:Nat) (eb:Int) (sb:Nat):Int×Nat :=
 (lvl ea sa eb sb+1,jam sa (lvl ea sa eb sb+1-ea).toNat+jam sb (lvl ea sa eb sb+1-eb).toNat)
def difT (ea:Int) (sa:Nat) (eb:Int) (sb:Nat):Int×Nat :=
 (lvl ea sa eb sb,jam sa (lvl ea sa eb sb-ea).toNat-jam sb (lvl ea sa eb sb-eb).toNat)
def cmpT (ea:Int) (sa:Nat) (eb:Int) (sb:Nat):Int :=
 if sa/2^(max ea eb-ea).toNat<sb/2^(max ea eb-eb).toNat then -1
 else if sb/2^(max ea eb-eb).toNat<sa/2^(max ea eb-ea).toNat then 1
 else if sa%2^(max ea eb-ea).toNat≠0 then 1 else if sb%2^(max ea eb-eb).toNat≠0 then -1 else 0
theorem jam0 (s:Nat):jam s 0=s:=by unfold jam;rw[Nat.pow_zero,Nat.mod_one,if_pos rfl,Nat.div_one]
theorem Oj {p emax m:Nat} {after neg:Bool} {e:Int} : roundE p emax m after neg e 0=(0,0):=by unfold roundE;rw[Nat.zero_mul,ae8]
theorem JG {p emax m:Nat} {after neg:Bool} {e L:Int} {s:Nat} (hp:2<=p) (h:L<=e):roundE p emax m after neg e s=roundE p emax m after neg L (s*2^(e-L).toNat):=by have:=ag1 (p:=p) (emax:=emax) (m:=m) (after:=after) (neg:=neg) (e:=L) (j:=(e-L).toNat) (L:=s) hp;rw[<- this];congr 1;omega
theorem Cg {a b L:Int} (h1:b<=a) (h2:L<=b):2^(a-b).toNat*2^(b-L).toNat=2^(a-L).toNat:=by rw[<- Nat.pow_add];congr 1;omega
theorem arv {p emax m:Nat} {after neg:Bool} {ea eb L:Int} {sa sb:Nat} (hp:2<=p) (hp2:p<=240) (ha:CO sa) (hb:CO sb) (hLa:L<=ea) (hLb:L<=eb) :
  roundE p emax m after neg (sumT ea sa eb sb).1 (sumT ea sa eb sb).2=roundE p emax m after neg L (sa*2^(ea-L).toNat+sb*2^(eb-L).toNat):=by
 unfold sumT;simp only[];by_cases za:sa=0
 ·subst za;by_cases zb:sb=0
  ·subst zb;rw[jam_zero,jam_zero,Nat.zero_mul,Nat.zero_mul,Nat.add_zero,Oj,Oj]
  ·have hl:lvl ea 0 eb sb=eb:=by unfold lvl;rw[if_pos ⟨rfl,zb⟩]
   have:=VA (p:=p) (emax:=emax) (m:=m) (after:=after) (neg:=neg) (e:=eb) (d:=0) (s:=sb) (t:=0) hp hp2 hb zb;rw[jam_zero,Nat.pow_zero,Nat.mul_one] at this;rw[hl,jam_zero,Nat.zero_mul,Nat.zero_add,Nat.zero_add,<- JG hp hLb,show(eb+1-eb).toNat=1 by omega];exact this
 ·by_cases zb:sb=0
  ·subst zb;have hl:lvl ea sa eb 0=ea:=by unfold lvl;rw[if_neg (λh=>h.2 rfl),if_pos ⟨rfl,za⟩]
   have:=VA (p:=p) (emax:=emax) (m:=m) (after:=after) (neg:=neg) (e:=ea) (d:=0) (s:=sa) (t:=0) hp hp2 ha za;rw[jam_zero,Nat.pow_zero,Nat.mul_one] at this;rw[hl,jam_zero,Nat.zero_mul,Nat.add_zero,Nat.add_zero,<- JG hp hLa,show(ea+1-ea).toNat=1 by omega];exact this
  ·have hl:lvl ea sa eb sb=max ea eb:=by unfold lvl;rw[if_neg (λh=>za h.1),if_neg (λh=>zb h.1)]
   rw[hl];by_cases hle:eb<=ea
   ·have:=VA (p:=p) (emax:=emax) (m:=m) (after:=after) (neg:=neg) (e:=eb) (d:=(ea-eb).toNat) (s:=sa) (t:=sb) hp hp2 ha za;rw[show(max ea eb+1-ea).toNat=1 by omega,show(max ea eb+1-eb).toNat=(ea-eb).toNat+1 by omega,show max ea eb+1=eb+(((ea-eb).toNat+1:Nat):Int) by omega,this,JG hp hLb,Nat.add_mul,Nat.mul_assoc,Cg hle hLb]
   ·have:=VA (p:=p) (emax:=emax) (m:=m) (after:=after) (neg:=neg) (e:=ea) (d:=(eb-ea).toNat) (s:=sb) (t:=sa) hp hp2 hb zb;rw[show(max ea eb+1-eb).toNat=1 by omega,show(max ea eb+1-ea).toNat=(eb-ea).toNat+1 by omega,show max ea eb+1=ea+(((eb-ea).toNat+1:Nat):Int) by omega,Nat.add_comm (jam sa _),this,JG hp hLa,Nat.add_mul,Nat.mul_assoc,Cg (by omega) hLa,Nat.add_comm]
theorem ag2 {p emax m:Nat} {after neg:Bool} {ea eb L:Int} {sa sb:Nat} (hp:2<=p) (hp2:p<=240) (ha:CO sa) (hb:CO sb) (hLa:L<=ea) (hLb:L<=eb) (hle:sb*2^(eb-L).toNat<=sa*2^(ea-L).toNat) :
  roundE p emax m after neg (difT ea sa eb sb).1 (difT ea sa eb sb).2=roundE p emax m after neg L (sa*2^(ea-L).toNat-sb*2^(eb-L).toNat):=by
 unfold difT;simp only[];by_cases zb:sb=0
 ·subst zb;by_cases za:sa=0
  ·subst za;rw[jam_zero,jam_zero,Nat.zero_mul,Nat.zero_mul,Nat.sub_zero,Oj,Oj]
  ·have hl:lvl ea sa eb 0=ea:=by unfold lvl;rw[if_neg (λh=>h.2 rfl),if_pos ⟨rfl,za⟩]
   rw[hl,jam_zero,Nat.zero_mul,Nat.sub_zero,Nat.sub_zero,<- JG hp hLa,show(ea-ea).toNat=0 by omega,jam0]
 ·have za:sa≠0:=by intro za;subst za;rw[Nat.zero_mul] at hle;have:=Nat.mul_pos (Nat.pos_of_ne_zero zb) (two_pow_pos (eb-L).toNat);omega
  have hl:lvl ea sa eb sb=max ea eb:=by unfold lvl;rw[if_neg (λh=>za h.1),if_neg (λh=>zb h.1)]
  rw[hl];by_cases hee:eb<=ea
  ·have hle2:sb<=sa*2^(ea-eb).toNat:=by rw[<- Cg hee hLb,<- Nat.mul_assoc] at hle;exact Nat.le_of_mul_le_mul_right hle (two_pow_pos _)
   have:=aru (p:=p) (emax:=emax) (m:=m) (after:=after) (neg:=neg) (e:=eb) (d:=(ea-eb).toNat) (s:=sa) (t:=sb) hp hp2 ha hb za hle2;rw[show(max ea eb-ea).toNat=0 by omega,jam0,show(max ea eb-eb).toNat=(ea-eb).toNat by omega,show max ea eb=eb+((ea-eb).toNat:Int) by omega,this,JG hp hLb,Nat.sub_mul,Nat.mul_assoc,Cg hee hLb]
  ·have hle2:sb*2^(eb-ea).toNat<=sa:=by rw[<- Cg (show ea<=eb by omega) hLa,<- Nat.mul_assoc] at hle;exact Nat.le_of_mul_le_mul_right hle (two_pow_pos _)
   have hd:(eb-ea).toNat<=2:=by apply Nat.le_of_not_lt;intro h;have h1:2^253*2^3<=sb*2^(eb-ea).toNat:=Nat.mul_le_mul (hb.2.1.resolve_left zb) (Nat.pow_le_pow_right (by decide) h);have h2:=ha.2.2;rw[<- Nat.pow_add] at h1;exact absurd (Nat.lt_of_le_of_lt (Nat.le_trans h1 hle2) h2) (by decide)
   have hx:sa%2^(eb-ea).toNat=0:=R4 ha.1 (by omega);rw[show(max ea eb-eb).toNat=0 by omega,jam0,show(max ea eb-ea).toNat=(eb-ea).toNat by omega,aaJ hx,show max ea eb=eb by omega];rw[JG hp hLb,Nat.sub_mul];congr 2;rw[<- Cg (show ea<=eb by omega) hLa,<- Nat.mul_assoc,Nat.div_mul_cancel (Nat.dvd_of_mod_eq_zero hx)]
theorem arw {x y d:Nat} : (x<y/2^d\/(x=y/2^d/\y%2^d≠0))↔x*2^d<y:=by
 have h1:=Nat.div_add_mod y (2^d);have h2:=Nat.mod_lt y (two_pow_pos d);rw[Nat.mul_comm] at h1;generalize y/2^d=q at *
 generalize y%2^d=r at *
 generalize 2^d=D at *
 constructor
 ·rintro(h|⟨rfl,h⟩)
  ·have:=Nat.mul_le_mul_right D h;rw[Nat.succ_mul] at this;omega
  ·omega
 ·intro h;rcases Nat.lt_trichotomy x q with hl|he|hg
  ·exact .inl hl
  ·subst he;exact .inr ⟨rfl,by omega⟩
  ·have:=Nat.mul_le_mul_right D hg;rw[Nat.succ_mul] at this;omega
theorem arx {x y d:Nat} : y/2^d<x↔y<x*2^d:=Nat.div_lt_iff_lt_mul (two_pow_pos d)
theorem cmpT_lt {ea eb L:Int} {sa sb:Nat} (hLa:L<=ea) (hLb:L<=eb):cmpT ea sa eb sb<0↔sa*2^(ea-L).toNat<sb*2^(eb-L).toNat:=by
 unfold cmpT;by_cases hle:eb<=ea
 ·rw[show(max ea eb-ea).toNat=0 by omega,show(max ea eb-eb).toNat=(ea-eb).toNat by omega,Nat.pow_zero,Nat.div_one,Nat.mod_one,<- Cg hle hLb,<- Nat.mul_assoc];rw[show(sa*2^(ea-eb).toNat*2^(eb-L).toNat<sb*2^(eb-L).toNat)↔sa*2^(ea-eb).toNat<sb from Nat.mul_lt_mul_right (two_pow_pos _),<- arw];split
  ·rename_i h;exact⟨λ_=>.inl h,λ_=>by omega⟩
  ·rename_i h;split
   ·rename_i h2;exact⟨λh3=>by omega,λh3=>by omega⟩
   ·rename_i h2;rw[if_neg (by omega)];split
    ·rename_i h3;exact⟨λ_=>.inr ⟨by omega,h3⟩,λ_=>by omega⟩
    ·rename_i h3;exact⟨λh4=>by omega,λh4=>by omega⟩
 ·rw[show(max ea eb-eb).toNat=0 by omega,show(max ea eb-ea).toNat=(eb-ea).toNat by omega,Nat.pow_zero,Nat.div_one,Nat.mod_one,<- Cg (show ea<=eb by omega) hLa,<- Nat.mul_assoc];rw[show(sa*2^(ea-L).toNat<sb*2^(eb-ea).toNat*2^(ea-L).toNat)↔sa<sb*2^(eb-ea).toNat from Nat.mul_lt_mul_right (two_pow_pos _),<- arx];split
  ·rename_i h;exact⟨λ_=>h,λ_=>by omega⟩
  ·rename_i h;split
   ·exact⟨λh3=>by omega,λh3=>by omega⟩
   ·split
    ·exact⟨λh3=>by omega,λh3=>by omega⟩
    ·rw[if_neg (by omega)];exact⟨λh3=>by omega,λh3=>by omega⟩
theorem ary {f c:Nat} (hf:f<4) (h0:0<c) (h1:c<inf f):CO (unSig f c*2^128):=by
 obtain⟨s1,s2⟩:=un_sig hf h0 h1;refine⟨?_,.inr ?_,?_⟩
 ·rw[show(128:Nat)=30+98 from rfl,Nat.pow_add,<- Nat.mul_assoc,Nat.mul_right_comm,Nat.mul_mod_left]
 ·have:=Nat.mul_le_mul_right (2^128) s1;rw[<- Nat.pow_add] at this;exact Nat.le_trans (by decide) this
 ·have:=Nat.mul_lt_mul_of_pos_right s2 (two_pow_pos 128);rw[<- Nat.pow_add] at this;exact this
theorem arz:CO 0:=⟨rfl,.inl rfl,two_pow_pos 256⟩
theorem at_num {f c:Nat} (hf:f<4) (h0:0<c) (h1:c<inf f):unSig f c*2^128*2^(unExp f c+40000).toNat=val f c*2^(255-fU f+40000:Int).toNat:=by
 have hv:=aoF hf h0 h1;have hr:=un_exp hf h1;obtain⟨n1,n2,n3,n4,n5,n6,n7,n8,n9⟩:=fmtN hf;have hU:fU f<=16500:=by unfold fU;omega
 generalize unExp f c=e at *
 generalize unSig f c=x at *
 generalize val f c=C at *
 apply Nat.eq_of_mul_eq_mul_right (two_pow_pos (127-e-fU f:Int).toNat);rw[Nat.mul_right_comm C,<- hv,Nat.mul_assoc x,Nat.mul_assoc x,Nat.mul_assoc x,<- Nat.pow_add,<- Nat.pow_add,<- Nat.pow_add];congr 2;omega
theorem ag3 {f m:Nat} {after neg:Bool} {V:Nat} (hf:f<4):roundE (fP f) (fE f) m after neg (-40000) (V*2^(255-fU f+40000:Int).toNat)=xG (fP f) (fE f) m after neg V 1:=by obtain⟨n1,n2,n3,n4,n5,n6,n7,n8,n9⟩:=fmtN hf;apply aoG n1 (by decide);have hU:fU f=fE f+fP f-2:=rfl;rw[Nat.mul_one,Nat.mul_assoc,<- Nat.pow_add];congr 2;omega
def sgV (s t:Bool) (A B:Nat):Nat:=if s=t then A+B else if A<B then B-A else A-B
def sgS (s t:Bool) (A B:Nat):Bool:=if s=t then s else if A<B then t else s
def sgN (m:Nat) (s t:Bool) (A B:Nat):Bool:=if sgV s t A B=0 then(if s=t then s else decide (m=3)) else sgS s t A B
def resT (s t:Bool) (ea:Int) (sa:Nat) (eb:Int) (sb:Nat):Int×Nat :=
 if s=t then sumT ea sa eb sb else if cmpT ea sa eb sb<0 then difT eb sb ea sa else difT ea sa eb sb
def resS (s t:Bool) (ea:Int) (sa:Nat) (eb:Int) (sb:Nat):Bool:=if s=t then s else if cmpT ea sa eb sb<0 then t else s
theorem ag4 {p emax m:Nat} {after neg:Bool} {e:Int} {s:Nat} (hp:2<=p) (h:roundE p emax m after neg e s=(0,0)):s=0:=by
 unfold roundE at h;have hD:=two_pow_pos (255+2-e-emax-p:Int).toNat;obtain⟨c,hc,hv⟩:=aoy hp hD (by rw[h]);have h2:=roundC_exact (m:=m) (after:=after) (neg:=neg) hp hD hc hv;rw[h] at h2;have hc0:c=0:=(congrArg Prod.fst h2).symm;rw[hc0,cval_zero,Nat.zero_mul] at hv;rcases Nat.mul_eq_zero.1 hv with h|h
 ·exact h
 ·have:=two_pow_pos (e-255+emax+p-2:Int).toNat;omega
theorem arA {p emax m:Nat} {after neg:Bool} {e e2:Int} {s s2:Nat} (hp:2<=p) (h:roundE p emax m after neg e s=roundE p emax m after neg e2 s2):s=0↔s2=0:=by
 constructor
 ·intro h0;rw[h0,Oj] at h;exact ag4 hp h.symm
 ·intro h0;rw[h0,Oj] at h;exact ag4 hp h
theorem arB {p emax m:Nat} {after neg:Bool} {ea eb:Int} {sa sb A B k:Nat} (hp:2<=p) (hp2:p<=240) (ha:CO sa) (hb:CO sb) (hLa : -40000<=ea) (hLb : -40000<=eb)
  (hA:sa*2^(ea+40000).toNat=A*2^k) (hB:sb*2^(eb+40000).toNat=B*2^k) (s t:Bool) :
  roundE p emax m after neg (resT s t ea sa eb sb).1 (resT s t ea sa eb sb).2=roundE p emax m after neg (-40000) (sgV s t A B*2^k)/\resS s t ea sa eb sb=sgS s t A B:=by
 have e1:(ea - -40000).toNat=(ea+40000).toNat:=by congr 1
 have e2:(eb - -40000).toNat=(eb+40000).toNat:=by congr 1
 have hc:=cmpT_lt (ea:=ea) (eb:=eb) (L := -40000) (sa:=sa) (sb:=sb) hLa hLb;rw[e1,e2,hA,hB,show(A*2^k<B*2^k)↔A<B from Nat.mul_lt_mul_right (two_pow_pos k)] at hc;unfold resT resS sgV sgS;by_cases hst:s=t
 ·rw[if_pos hst,if_pos hst,if_pos hst,if_pos hst];refine⟨?_,rfl⟩;rw[arv hp hp2 ha hb hLa hLb,e1,e2,hA,hB,Nat.add_mul]
 ·rw[if_neg hst,if_neg hst,if_neg hst,if_neg hst];by_cases hl:A<B
  ·rw[if_pos (hc.2 hl),if_pos (hc.2 hl),if_pos hl,if_pos hl];refine⟨?_,rfl⟩;rw[ag2 hp hp2 hb ha hLb hLa (by rw[e1,e2,hA,hB];exact Nat.mul_le_mul_right _ (Nat.le_of_lt hl)),e1,e2,hA,hB,Nat.sub_mul]
  ·rw[if_neg (λh=>hl (hc.1 h)),if_neg (λh=>hl (hc.1 h)),if_neg hl,if_neg hl];refine⟨?_,rfl⟩;rw[ag2 hp hp2 ha hb hLa hLb (by rw[e1,e2,hA,hB];exact Nat.mul_le_mul_right _ (by omega)),e1,e2,hA,hB,Nat.sub_mul]
theorem arC {p emax m:Nat} {after:Bool} {ea eb:Int} {sa sb A B k:Nat} (hp:2<=p) (hp2:p<=240) (ha:CO sa) (hb:CO sb) (hLa : -40000<=ea) (hLb : -40000<=eb)
  (hA:sa*2^(ea+40000).toNat=A*2^k) (hB:sb*2^(eb+40000).toNat=B*2^k) (s t:Bool) :
  (if (resT s t ea sa eb sb).2=0 then(if s=t then s else decide (m=3)) else resS s t ea sa eb sb)=sgN m s t A B /\
  roundE p emax m after (sgN m s t A B) (resT s t ea sa eb sb).1 (resT s t ea sa eb sb).2=roundE p emax m after (sgN m s t A B) (-40000) (sgV s t A B*2^k):=by
 obtain⟨h1,h2⟩:=arB (emax:=emax) (m:=m) (after:=after) (neg:=sgN m s t A B) hp hp2 ha hb hLa hLb hA hB s t;refine⟨?_,h1⟩;have hz:=arA hp h1
 have hz2:sgV s t A B*2^k=0↔sgV s t A B=0:=by
  have:=two_pow_pos k;constructor
  ·intro h;rcases Nat.mul_eq_zero.1 h with h|h
   ·exact h
   ·omega
  ·intro h;rw[h,Nat.zero_mul]
 rw[h2];unfold sgN;by_cases h:sgV s t A B=0
 ·rw[if_pos h,if_pos (hz.2 (hz2.2 h))]
 ·rw[if_neg h,if_neg (λh3=>h (hz2.1 (hz.1 h3)))]
def tmE (f c:Nat):Int:=if c=0 then 0 else unExp f c
def tmS (f c:Nat):Nat:=if c=0 then 0 else unSig f c*2^128
theorem ag5 {f c:Nat} (hf:f<4) (hc:c<inf f):CO (tmS f c) /\ -40000<=tmE f c/\tmS f c*2^(tmE f c+40000).toNat=val f c*2^(255-fU f+40000:Int).toNat:=by
 unfold tmS tmE;by_cases h:c=0
 ·rw[if_pos h,if_pos h,h];refine⟨arz,by omega,?_⟩;unfold val;rw[cval_zero,Nat.zero_mul,Nat.zero_mul]
 ·rw[if_neg h,if_neg h];have:=un_exp hf hc;exact⟨ary hf (by omega) hc,by omega,at_num hf (by omega) hc⟩
def addN (f m:Nat) (s t:Bool) (c d:Nat):Bool:=sgN m s t (val f c) (val f d)
def addC (f m:Nat) (after s t:Bool) (c d:Nat):Nat×Nat:=xG (fP f) (fE f) m after (addN f m s t c d) (sgV s t (val f c) (val f d)) 1
theorem arD {f:Nat} (hf:f<4):fP f<=240:=by have:=fP_le hf;omega
theorem add_res {f m c d:Nat} {after:Bool} (hf:f<4) (hc:c<inf f) (hd:d<inf f) (s t:Bool) :
  (if (resT s t (tmE f c) (tmS f c) (tmE f d) (tmS f d)).2=0 then(if s=t then s else decide (m=3)) else resS s t (tmE f c) (tmS f c) (tmE f d) (tmS f d))=addN f m s t c d /\
  roundE (fP f) (fE f) m after (addN f m s t c d) (resT s t (tmE f c) (tmS f c) (tmE f d) (tmS f d)).1 (resT s t (tmE f c) (tmS f c) (tmE f d) (tmS f d)).2=addC f m after s t c d:=by
 obtain⟨a1,a2,a3⟩:=ag5 hf hc;obtain⟨b1,b2,b3⟩:=ag5 hf hd;obtain⟨h1,h2⟩:=arC (emax:=fE f) (m:=m) (after:=after) (fP_ge hf) (arD hf) a1 b1 a2 b2 a3 b3 s t;exact⟨h1,h2.trans (ag3 hf)⟩
def remT (A B:Nat):Bool:=decide (B<2*(A%B))||(decide (2*(A%B)=B)&&decide (A/B%2=1))
def remV (A B:Nat):Nat:=if remT A B=true then B-A%B else A%B
theorem remV_half {A B:Nat} (hB:0<B):2*remV A B<=B:=by
 have:=Nat.mod_lt A hB;unfold remV;by_cases h:remT A B=true
 ·rw[if_pos h];unfold remT at h;simp only[Bool.or_eq_true,Bool.and_eq_true,decide_eq_true_iff] at h;omega
 ·rw[if_neg h];unfold remT at h;simp only[Bool.or_eq_true,Bool.and_eq_true,decide_eq_true_iff] at h;omega
theorem rem_small {A B:Nat} (h:2*A<B):remT A B=false/\remV A B=A:=by
 have e:A%B=A:=Nat.mod_eq_of_lt (by omega)
 have ht:remT A B=false:=by unfold remT;rw[e,decide_eq_false (by omega),decide_eq_false (by omega)];rfl
 refine⟨ht,?_⟩;unfold remV;rw[ht,if_neg (by decide),e]
theorem remV_scale {A B k:Nat} (hk:0<k):remV (A*k) (B*k)=remV A B*k/\remT (A*k) (B*k)=remT A B:=by
 have h1:A*k%(B*k)=A%B*k:=Nat.mul_mod_mul_right k A B;have h2:A*k/(B*k)=A/B:=Nat.mul_div_mul_right A B hk
 have ht:remT (A*k) (B*k)=remT A B:=by
  unfold remT;rw[h1,h2];have e1:(B*k<2*(A%B*k))↔B<2*(A%B):=by rw[<- Nat.mul_assoc];exact Nat.mul_lt_mul_right hk
  have e2:(2*(A%B*k)=B*k)↔2*(A%B)=B:=by rw[<- Nat.mul_assoc];exact Nat.mul_left_inj (by omega)
  rw[decide_eq_decide.2 e1,decide_eq_decide.2 e2]
 refine⟨?_,ht⟩;unfold remV;rw[ht,h1];by_cases h:remT A B=true
 ·rw[if_pos h,if_pos h,Nat.sub_mul]
 ·rw[if_neg h,if_neg h]
theorem arE {f c d:Nat} (hf:f<4) (c1:c<inf f) (d0:0<d) (d1:d<inf f):∃ e,e<inf f/\val f e=remV (val f c) (val f d):=by
 have hp:=fP_ge hf;obtain⟨qc,lc,_⟩:=ZI hp c;obtain⟨qd,ld,_⟩:=ZI hp d;have dpos:0<val f d:=cval_pos hp d0;have hh:=remV_half (A:=val f c) dpos;have hfin:=val_fin hf d1;by_cases h:csh (fP f) d<=csh (fP f) c
 ·obtain⟨j,hj⟩:∃ j,csh (fP f) c=csh (fP f) d+j:=⟨csh (fP f) c-csh (fP f) d,by omega⟩;have eA:val f c=cq (fP f) c*2^j*2^csh (fP f) d:=by unfold val cval;rw[hj,Nat.pow_add,Nat.mul_assoc,Nat.mul_comm (2^j)]
  have eB:val f d=cq (fP f) d*2^csh (fP f) d:=rfl;have hs:=(remV_scale (A:=cq (fP f) c*2^j) (B:=cq (fP f) d) (two_pow_pos (csh (fP f) d))).1;rw[<- eA,<- eB] at hs
  have hq:remV (cq (fP f) c*2^j) (cq (fP f) d)<2^fP f:=by
   have:=remV_half (A:=cq (fP f) c*2^j) (B:=cq (fP f) d) (by
    apply Nat.pos_of_ne_zero;intro h0
    rw[eB,h0,Nat.zero_mul] at dpos;omega)
   omega
  obtain⟨e,he,hv⟩:=code_of hf (k:=csh (fP f) d) hq (by rw[<- hs];omega);exact⟨e,he,by rw[hv,hs]⟩
 ·obtain⟨j,hj⟩:∃ j,csh (fP f) d=csh (fP f) c+(j+1):=⟨csh (fP f) d-csh (fP f) c-1,by omega⟩;have eB:val f d=cq (fP f) d*2^(j+1)*2^csh (fP f) c:=by unfold val cval;rw[hj,Nat.pow_add,Nat.mul_assoc,Nat.mul_comm (2^(j+1))]
  have eA:val f c=cq (fP f) c*2^csh (fP f) c:=rfl;have hs:=(remV_scale (A:=cq (fP f) c) (B:=cq (fP f) d*2^(j+1)) (two_pow_pos (csh (fP f) c))).1;rw[<- eA,<- eB] at hs;have hge:=ld (by omega)
  have hlt:cq (fP f) c<cq (fP f) d*2^(j+1):=by have h1:=half_pow hp;have h2:2^(fP f-1)*2<=cq (fP f) d*2^(j+1):=Nat.mul_le_mul hge (by rw[Nat.pow_succ];have:=two_pow_pos j;omega);omega
  have hq:remV (cq (fP f) c) (cq (fP f) d*2^(j+1))<2^fP f:=by
   have e1:cq (fP f) c%(cq (fP f) d*2^(j+1))=cq (fP f) c:=Nat.mod_eq_of_lt hlt;have e2:cq (fP f) c/(cq (fP f) d*2^(j+1))=0:=Nat.div_eq_of_lt hlt;unfold remV remT;rw[e1,e2];generalize cq (fP f) d*2^(j+1)=Y at *
   split
   ·rename_i ht;simp only[Bool.or_eq_true,Bool.and_eq_true,decide_eq_true_iff] at ht;omega
   ·omega
  obtain⟨e,he,hv⟩:=code_of hf (k:=csh (fP f) c) hq (by rw[<- hs];omega);exact⟨e,he,by rw[hv,hs]⟩
def remC (f c d:Nat):Nat:=(xG (fP f) (fE f) 4 false false (remV (val f c) (val f d)) 1).1
theorem remC_val {f c d:Nat} (hf:f<4) (c1:c<inf f) (d0:0<d) (d1:d<inf f):remC f c d<inf f/\val f (remC f c d)=remV (val f c) (val f d)/\∀ after neg,xG (fP f) (fE f) 4 after neg (remV (val f c) (val f d)) 1=(remC f c d,0):=by
 obtain⟨e,he,hv⟩:=arE hf c1 d0 d1;have h:∀ after neg,xG (fP f) (fE f) 4 after neg (remV (val f c) (val f d)) 1=(e,0):=λafter neg=>roundC_exact (fP_ge hf) (by decide) he (by rw[Nat.mul_one];exact hv.symm)
 have e2:remC f c d=e:=by unfold remC;rw[h]
 rw[e2];exact⟨he,hv,h⟩
theorem rest_pow {x y r n:Nat} {odd:Bool} (hy:0<y) (h:(r,odd)=if y<=x then(x-y,true) else(x,false)) (hx:x<2*y) :
  r<y/\(x%y=r/\decide (x/y%2=1)=odd)/\r*2^(n+1)%y=x*2^(n+1)%y/\(r*2^(n+1)/y)%2=(x*2^(n+1)/y)%2:=by
 by_cases hle:y<=x
 ·rw[if_pos hle] at h;obtain⟨rfl,rfl⟩:r=x-y/\odd=true:=⟨congrArg Prod.fst h,congrArg Prod.snd h⟩;have e:x=(x-y)+y:=by omega
  have m1:x%y=x-y:=by
   conv=>lhs;rw[e]
   rw[Nat.add_mod_right,Nat.mod_eq_of_lt (by omega)]
  have d1:x/y=1:=Nat.div_eq_of_lt_le (by omega) (by omega)
  have e2:x*2^(n+1)=(x-y)*2^(n+1)+y*(2*2^n):=by
   conv=>lhs;rw[e]
   rw[Nat.add_mul,Nat.pow_succ,Nat.mul_comm (2^n) 2]
  refine⟨by omega,⟨m1,by rw[d1];rfl⟩,?_,?_⟩
  ·rw[e2,Nat.add_mul_mod_self_left]
  ·rw[e2,Nat.add_mul_div_left _ _ hy];omega
 ·rw[if_neg hle] at h;obtain⟨rfl,rfl⟩:r=x/\odd=false:=⟨congrArg Prod.fst h,congrArg Prod.snd h⟩;exact⟨by omega,⟨Nat.mod_eq_of_lt (by omega),by rw[Nat.div_eq_of_lt (by omega)];rfl⟩,rfl,rfl⟩
theorem rem_at {f c d:Nat} (hf:f<4) (c0:0<c) (c1:c<inf f) (d0:0<d) (d1:d<inf f) {k l:Nat} (hk:(unExp f c:Int)+40000=k) (hl:(unExp f d:Int)+40000=l) :
  remV (unSig f c*2^k) (unSig f d*2^l)*2^128=remV (val f c) (val f d)*2^(255-fU f+40000:Int).toNat/\remT (unSig f c*2^k) (unSig f d*2^l)=remT (val f c) (val f d):=by
 have ha:=at_num hf c0 c1;have hb:=at_num hf d0 d1;rw[show(unExp f c+40000).toNat=k by omega,Nat.mul_right_comm] at ha;rw[show(unExp f d+40000).toNat=l by omega,Nat.mul_right_comm] at hb;obtain⟨s1,s2⟩:=remV_scale (A:=unSig f c*2^k) (B:=unSig f d*2^l) (two_pow_pos 128);obtain⟨t1,t2⟩:=remV_scale (A:=val f c) (B:=val f d) (two_pow_pos (255-fU f+40000:Int).toNat);rw[ha,hb] at s1 s2;exact⟨s1.symm.trans t1,s2.symm.trans t2⟩
theorem rem_round {f c d S m:Nat} {neg after:Bool} {e:Int} (hf:f<4) (c0:0<c) (c1:c<inf f) (d0:0<d) (d1:d<inf f) (he : -40000<=e)
  (hS:S*2^(e+40000).toNat=remV (unSig f c*2^(unExp f c+40000).toNat) (unSig f d*2^(unExp f d+40000).toNat)) :
  roundE (fP f) (fE f) 4 after neg (e+128) S=(remC f c d,0):=by
 have h1:=un_exp hf c1;have h2:=un_exp hf d1;obtain⟨s1,s2⟩:=rem_at hf c0 c1 d0 d1 (k:=(unExp f c+40000).toNat) (l:=(unExp f d+40000).toNat) (by omega) (by omega)
 have hr:roundE (fP f) (fE f) 4 after neg (e+128) S=roundE (fP f) (fE f) 4 after neg (-40000) (remV (val f c) (val f d)*2^(255-fU f+40000:Int).toNat):=by rw[JG (e:=e+128) (L := -40000) (fP_ge hf) (by omega),<- s1,<- hS,Nat.mul_assoc S,<- Nat.pow_add];congr 3;omega
 rw[hr,ag3 hf];exact(remC_val hf c1 d0 d1).2.2 _ _
end Go.Proofs.YtippohicjhilnaaGreatDoor.FP
namespace Go.Proofs.YtippohicjhilnaaGreatDoor
open Go.RowKit
def Fs (f a b:Nat):Bool:=decide (uf f a=3)&&(decide (uf f b=3)&&(FP.sgn f a != FP.sgn f b))
def CP (f m:Nat) (after:Bool) (a b:Nat):Nat×Nat :=
 if 4<=uf f a then(Bz f a,NM f a b) else if 4<=uf f b then(Bz f b,NM f a b)
 else if Fs f a b=true then(Dt f,1)
 else if uf f a=3 then(FP.mk f (FP.sgn f a) (FP.inf f),0)
 else if uf f b=3 then(FP.mk f (FP.sgn f b) (FP.inf f),0)
 else(FP.mk f (FP.addN f m (FP.sgn f a) (FP.sgn f b) (FP.cod f a) (FP.cod f b)) (FP.addC f m after (FP.sgn f a) (FP.sgn f b) (FP.cod f a) (FP.cod f b)).1,(FP.addC f m after (FP.sgn f a) (FP.sgn f b) (FP.cod f a) (FP.cod f b)).2)
theorem VB {f a b:Nat} (h:Fs f a b=true):uf f a=3/\uf f b=3:=by unfold Fs at h;simp only[Bool.and_eq_true,decide_eq_true_iff] at h;exact⟨h.1,h.2.1⟩
theorem arF (a:Bool):(a != false)=a:=by cases a<;>rfl
theorem ag6 {f k:Nat} : FP.clsC f k=0↔k=0:=by
 unfold FP.clsC;by_cases h:k=0
 ·rw[if_pos h];simp[h]
 ·rw[if_neg h];constructor
  ·intro h2;exfalso;revert h2;split
   ·simp
   ·split
    ·simp
    ·split
     ·simp
     ·split<;>simp
  ·intro h2;exact absurd h2 h
end Go.Proofs.YtippohicjhilnaaGreatDoor
