import Derived.Test.YtippohicjhilnaaGreatDoorZGTn
set_option linter.unusedSimpArgs false
set_option linter.unusedVariables false
set_option maxRecDepth 100000
namespace Go.Proofs.YtippohicjhilnaaGreatDoor.FP
def aCs (n:Nat):Nat->Nat->Nat
 | 0,r=>r
 | k+1,r=>aCs n k (if (r+2^k)*(r+2^k)<=n then r+2^k else r)
def isq (n:Nat):Nat:=aCs n 128 0
theorem acP (n:Nat):∀ (k r:Nat),r*r<=n->n<(r+2^k)*(r+2^k)->aCs n k r*aCs n k r<=n/\n<(aCs n k r+1)*(aCs n k r+1)
 | 0,r,h1,h2=>⟨h1,h2⟩
 | k+1,r,h1,h2=>by
  unfold aCs;split
  ·rename_i h;refine acP n k _ h ?_;rw[Nat.add_assoc,<- Nat.mul_two,<- Nat.pow_succ];exact h2
  ·rename_i h;exact acP n k _ h1 (by omega)
theorem ati {n:Nat} (h:n<2^256):isq n*isq n<=n/\n<(isq n+1)*(isq n+1) :=
 acP n 128 0 (Nat.zero_le _) (by rw[Nat.zero_add,<- Nat.pow_add];exact h)
theorem atj {a b:Nat} (h:a*a<b*b):a<b:=by apply Nat.lt_of_not_le;intro hle;have:=Nat.mul_le_mul hle hle;omega
theorem aD6 {n:Nat} (h:n<2^256):isq n<2^128:=by apply atj;rw[<- Nat.pow_add];exact Nat.lt_of_le_of_lt (ati h).1 h
theorem ai7 {p emax m:Nat} {after neg:Bool} {e:Int} {j L M:Nat} (hp:2<=p) (hq:L/2=M/2^(j+1)) (hz:L%2=0↔M%2^(j+1)=0) (hbig:2^(p+1)<=L/2) :
  abw p emax m after neg (e+j) L=abw p emax m after neg e M:=by
 unfold abw;obtain⟨P1,hP1⟩:∃ k,(e+j-255+emax+p-2:Int).toNat=k:=⟨_,rfl⟩;obtain⟨Q1,hQ1⟩:∃ k,(255+2-(e+j)-emax-p:Int).toNat=k:=⟨_,rfl⟩;obtain⟨P2,hP2⟩:∃ k,(e-255+emax+p-2:Int).toNat=k:=⟨_,rfl⟩;obtain⟨Q2,hQ2⟩:∃ k,(255+2-e-emax-p:Int).toNat=k:=⟨_,rfl⟩;rw[hP1,hQ1,hP2,hQ2];have div1:∀ (x k P:Nat),x*2^P/2^(k+P)=x/2^k:=λx k P=>by rw[Nat.pow_add,Nat.mul_div_mul_right _ _ (two_pow_pos _)]
 have mod1:∀ (x k P:Nat),x*2^P%2^(k+P)=0↔x%2^k=0:=λx k P=>by
  rw[Nat.pow_add,Nat.mul_mod_mul_right];have:=two_pow_pos P;constructor
  ·intro h;rcases Nat.mul_eq_zero.1 h with h|h
   ·exact h
   ·omega
  ·intro h;rw[h,Nat.zero_mul]
 refine aqC (G1:=2^(1+P1)) (G2:=2^(j+1+P2)) (a:=(e+j-255+emax+p-1:Int).toNat) (b:=(255+1-(e+j)-emax-p:Int).toNat) hp (two_pow_pos _) (two_pow_pos _) (two_pow_pos _) (two_pow_pos _) ?_ ?_ ?_ ?_ ?_
 ·rw[<- Nat.pow_add,<- Nat.pow_add];congr 1;omega
 ·rw[<- Nat.pow_add,<- Nat.pow_add];congr 1;omega
 ·rw[div1,div1,Nat.pow_one];exact hq
 ·rw[mod1,mod1,Nat.pow_one];exact hz
 ·rw[div1,Nat.pow_one];exact hbig
theorem ai8 {p emax m:Nat} {after neg:Bool} {e:Int} {j L:Nat} (hp:2<=p) :
  abw p emax m after neg (e+j) L=abw p emax m after neg e (L*2^j):=by
 unfold abw;apply abL hp (two_pow_pos _) (two_pow_pos _);rw[Nat.mul_assoc L,<- Nat.pow_add,Nat.mul_assoc,Nat.mul_assoc,<- Nat.pow_add,<- Nat.pow_add];congr 2;omega
def Dn (s:Nat):Prop:=s%2^30=0/\(s=0\/2^253<=s)/\s<2^256
theorem UI {s k n:Nat} (h:s%2^n=0) (hk:k<=n):s%2^k=0:=by have e:s%2^n%2^k=s%2^k:=Nat.mod_mod_of_dvd s (Nat.pow_dvd_pow 2 hk);rw[h,Nat.zero_mod] at e;exact e.symm
theorem acQ {s j:Nat} (h:s%2^j=0):jam s j=s/2^j:=by unfold jam;rw[if_pos h]
theorem alK (j:Nat):jam 0 j=0:=by unfold jam;simp
theorem XQ {p emax m:Nat} {after neg:Bool} {e:Int} {d s t:Nat} (hp:2<=p) (hp2:p<=240) (hs:Dn s) (hs0:s≠0) :
  abw p emax m after neg (e+(d+1:Nat)) (jam s 1+jam t (d+1))=abw p emax m after neg e (s*2^d+t):=by
 obtain⟨h1,h2,h3⟩:=hs;have h4:s%4=0:=UI (k:=2) h1 (by decide);obtain⟨q,rfl⟩:∃ q,s=4*q:=⟨s/4,by omega⟩;have hj:jam (4*q) 1=2*q:=by rw[acQ (by omega)];omega
 obtain⟨g1,g2⟩:=aCZ t (d+1);rw[hj];generalize jam t (d+1)=J at *
 have hpow:2^(d+1+1)=4*2^d:=by rw[Nat.pow_succ,Nat.pow_succ];omega
 have hM:4*q*2^d+t=2^(d+1+1)*q+t:=by rw[hpow,Nat.mul_right_comm]
 refine ai7 hp ?_ ?_ ?_
 ·rw[hM,Nat.mul_add_div (two_pow_pos _),<- g1];omega
 ·rw[hM,Nat.mul_add_mod,Nat.mul_add_mod];exact g2
 ·have:2^(p+1)<=2^251:=Nat.pow_le_pow_right (by decide) (by omega);have:2^253=4*2^251:=by decide
  omega
theorem atl {p emax m:Nat} {after neg:Bool} {e:Int} {d s t:Nat} (hp:2<=p) (hp2:p<=240) (hs:Dn s) (ht:Dn t) (hs0:s≠0) (hle:t<=s*2^d) :
  abw p emax m after neg (e+d) (s-jam t d)=abw p emax m after neg e (s*2^d-t):=by
 by_cases hx:t%2^d=0
 ·rw[acQ hx,ai8 hp];congr 1;rw[Nat.sub_mul,Nat.div_mul_cancel (Nat.dvd_of_mod_eq_zero hx)]
 obtain⟨h1,h2,h3⟩:=hs;obtain⟨k1,k2,k3⟩:=ht
 have hd:30<d:=by apply Nat.lt_of_not_le;intro h;exact hx (UI k1 h)
 have h4:s%4=0:=UI (k:=2) h1 (by decide);obtain⟨q,rfl⟩:∃ q,s=4*q:=⟨s/4,by omega⟩
 have hj:jam t d=2*(t/2^(d+1))+1:=by unfold jam;rw[if_neg hx,Nat.div_div_eq_div_mul,<- Nat.pow_succ,Nat.mul_comm 2]
 have hsmall:t/2^(d+1)<2^225:=by rw[Nat.div_lt_iff_lt_mul (two_pow_pos _),<- Nat.pow_add];exact Nat.lt_of_lt_of_le k3 (Nat.pow_le_pow_right (by decide) (by omega))
 have hx2:t%2^(d+1)≠0:=λh=>hx (UI h (by omega))
 have hdm:=Nat.div_add_mod t (2^(d+1));have hml:=Nat.mod_lt t (two_pow_pos (d+1));rw[hj];generalize t/2^(d+1)=u at *
 generalize t%2^(d+1)=r at *
 have big:2^253<=4*q:=by omega
 have c1:2^253=2^225*2^28:=by rw[<- Nat.pow_add]
 have c2:2^251=2^225*2^26:=by rw[<- Nat.pow_add]
 have hM:4*q*2^d-t=2^(d+1)*(2*q-u-1)+(2^(d+1)-r):=by
  have e1:4*q*2^d=2^(d+1)*(2*q):=by rw[Nat.pow_succ,show 4*q=2*(2*q) by omega];ac_rfl
  have e2:2^(d+1)*(2*q)=2^(d+1)*(2*q-u-1)+2^(d+1)*u+2^(d+1):=by rw[<- Nat.mul_add,<- Nat.mul_succ];congr 1;omega
  omega
 have hl:2^(d+1)-r<2^(d+1):=Nat.sub_lt (two_pow_pos _) (by omega);have hl0:2^(d+1)-r≠0:=by omega
 refine ai7 hp ?_ ?_ ?_
 ·rw[hM,Nat.mul_add_div (two_pow_pos _),Nat.div_eq_of_lt hl];omega
 ·rw[hM,Nat.mul_add_mod,Nat.mod_eq_of_lt hl];constructor
  ·intro h;omega
  ·intro h;exact absurd h hl0
 ·have:2^(p+1)<=2^241:=Nat.pow_le_pow_right (by decide) (by omega);have:2^241=2^225*2^16:=by rw[<- Nat.pow_add]
  omega
def lvl (ea:Int) (sa:Nat) (eb:Int) (sb:Nat):Int:=if sa=0/\sb≠0 then eb else if sb=0/\sa≠0 then ea else max ea eb
def aCI (ea:Int) (sa:Nat) (eb:Int) (sb:Nat):Int×Nat :=
 (lvl ea sa eb sb+1,jam sa (lvl ea sa eb sb+1-ea).toNat+jam sb (lvl ea sa eb sb+1-eb).toNat)
def aDe (ea:Int) (sa:Nat) (eb:Int) (sb:Nat):Int×Nat :=
 (lvl ea sa eb sb,jam sa (lvl ea sa eb sb-ea).toNat-jam sb (lvl ea sa eb sb-eb).toNat)
def aCt (ea:Int) (sa:Nat) (eb:Int) (sb:Nat):Int :=
 if sa/2^(max ea eb-ea).toNat<sb/2^(max ea eb-eb).toNat then -1
 else if sb/2^(max ea eb-eb).toNat<sa/2^(max ea eb-ea).toNat then 1
 else if sa%2^(max ea eb-ea).toNat≠0 then 1 else if sb%2^(max ea eb-eb).toNat≠0 then -1 else 0
theorem aDT (s:Nat):jam s 0=s:=by unfold jam;rw[Nat.pow_zero,Nat.mod_one,if_pos rfl,Nat.div_one]
theorem Qr {p emax m:Nat} {after neg:Bool} {e:Int} : abw p emax m after neg e 0=(0,0):=by unfold abw;rw[Nat.zero_mul,aCu]
theorem Nv {p emax m:Nat} {after neg:Bool} {e L:Int} {s:Nat} (hp:2<=p) (h:L<=e):abw p emax m after neg e s=abw p emax m after neg L (s*2^(e-L).toNat):=by have:=ai8 (p:=p) (emax:=emax) (m:=m) (after:=after) (neg:=neg) (e:=L) (j:=(e-L).toNat) (L:=s) hp;rw[<- this];congr 1;omega
theorem DZ {a b L:Int} (h1:b<=a) (h2:L<=b):2^(a-b).toNat*2^(b-L).toNat=2^(a-L).toNat:=by rw[<- Nat.pow_add];congr 1;omega
theorem atm {p emax m:Nat} {after neg:Bool} {ea eb L:Int} {sa sb:Nat} (hp:2<=p) (hp2:p<=240) (ha:Dn sa) (hb:Dn sb) (hLa:L<=ea) (hLb:L<=eb) :
  abw p emax m after neg (aCI ea sa eb sb).1 (aCI ea sa eb sb).2=abw p emax m after neg L (sa*2^(ea-L).toNat+sb*2^(eb-L).toNat):=by
 unfold aCI;simp only[];by_cases za:sa=0
 ·subst za;by_cases zb:sb=0
  ·subst zb;rw[alK,alK,Nat.zero_mul,Nat.zero_mul,Nat.add_zero,Qr,Qr]
  ·have hl:lvl ea 0 eb sb=eb:=by unfold lvl;rw[if_pos ⟨rfl,zb⟩]
   have:=XQ (p:=p) (emax:=emax) (m:=m) (after:=after) (neg:=neg) (e:=eb) (d:=0) (s:=sb) (t:=0) hp hp2 hb zb;rw[alK,Nat.pow_zero,Nat.mul_one] at this;rw[hl,alK,Nat.zero_mul,Nat.zero_add,Nat.zero_add,<- Nv hp hLb,show(eb+1-eb).toNat=1 by omega];exact this
 ·by_cases zb:sb=0
  ·subst zb;have hl:lvl ea sa eb 0=ea:=by unfold lvl;rw[if_neg (λh=>h.2 rfl),if_pos ⟨rfl,za⟩]
   have:=XQ (p:=p) (emax:=emax) (m:=m) (after:=after) (neg:=neg) (e:=ea) (d:=0) (s:=sa) (t:=0) hp hp2 ha za;rw[alK,Nat.pow_zero,Nat.mul_one] at this;rw[hl,alK,Nat.zero_mul,Nat.add_zero,Nat.add_zero,<- Nv hp hLa,show(ea+1-ea).toNat=1 by omega];exact this
  ·have hl:lvl ea sa eb sb=max ea eb:=by unfold lvl;rw[if_neg (λh=>za h.1),if_neg (λh=>zb h.1)]
   rw[hl];by_cases hle:eb<=ea
   ·have:=XQ (p:=p) (emax:=emax) (m:=m) (after:=after) (neg:=neg) (e:=eb) (d:=(ea-eb).toNat) (s:=sa) (t:=sb) hp hp2 ha za;rw[show(max ea eb+1-ea).toNat=1 by omega,show(max ea eb+1-eb).toNat=(ea-eb).toNat+1 by omega,show max ea eb+1=eb+(((ea-eb).toNat+1:Nat):Int) by omega,this,Nv hp hLb,Nat.add_mul,Nat.mul_assoc,DZ hle hLb]
   ·have:=XQ (p:=p) (emax:=emax) (m:=m) (after:=after) (neg:=neg) (e:=ea) (d:=(eb-ea).toNat) (s:=sb) (t:=sa) hp hp2 hb zb;rw[show(max ea eb+1-eb).toNat=1 by omega,show(max ea eb+1-ea).toNat=(eb-ea).toNat+1 by omega,show max ea eb+1=ea+(((eb-ea).toNat+1:Nat):Int) by omega,Nat.add_comm (jam sa _),this,Nv hp hLa,Nat.add_mul,Nat.mul_assoc,DZ (by omega) hLa,Nat.add_comm]
theorem ai9 {p emax m:Nat} {after neg:Bool} {ea eb L:Int} {sa sb:Nat} (hp:2<=p) (hp2:p<=240) (ha:Dn sa) (hb:Dn sb) (hLa:L<=ea) (hLb:L<=eb) (hle:sb*2^(eb-L).toNat<=sa*2^(ea-L).toNat) :
  abw p emax m after neg (aDe ea sa eb sb).1 (aDe ea sa eb sb).2=abw p emax m after neg L (sa*2^(ea-L).toNat-sb*2^(eb-L).toNat):=by
 unfold aDe;simp only[];by_cases zb:sb=0
 ·subst zb;by_cases za:sa=0
  ·subst za;rw[alK,alK,Nat.zero_mul,Nat.zero_mul,Nat.sub_zero,Qr,Qr]
  ·have hl:lvl ea sa eb 0=ea:=by unfold lvl;rw[if_neg (λh=>h.2 rfl),if_pos ⟨rfl,za⟩]
   rw[hl,alK,Nat.zero_mul,Nat.sub_zero,Nat.sub_zero,<- Nv hp hLa,show(ea-ea).toNat=0 by omega,aDT]
 ·have za:sa≠0:=by intro za;subst za;rw[Nat.zero_mul] at hle;have:=Nat.mul_pos (Nat.pos_of_ne_zero zb) (two_pow_pos (eb-L).toNat);omega
  have hl:lvl ea sa eb sb=max ea eb:=by unfold lvl;rw[if_neg (λh=>za h.1),if_neg (λh=>zb h.1)]
  rw[hl];by_cases hee:eb<=ea
  ·have hle2:sb<=sa*2^(ea-eb).toNat:=by rw[<- DZ hee hLb,<- Nat.mul_assoc] at hle;exact Nat.le_of_mul_le_mul_right hle (two_pow_pos _)
   have:=atl (p:=p) (emax:=emax) (m:=m) (after:=after) (neg:=neg) (e:=eb) (d:=(ea-eb).toNat) (s:=sa) (t:=sb) hp hp2 ha hb za hle2;rw[show(max ea eb-ea).toNat=0 by omega,aDT,show(max ea eb-eb).toNat=(ea-eb).toNat by omega,show max ea eb=eb+((ea-eb).toNat:Int) by omega,this,Nv hp hLb,Nat.sub_mul,Nat.mul_assoc,DZ hee hLb]
  ·have hle2:sb*2^(eb-ea).toNat<=sa:=by rw[<- DZ (show ea<=eb by omega) hLa,<- Nat.mul_assoc] at hle;exact Nat.le_of_mul_le_mul_right hle (two_pow_pos _)
   have hd:(eb-ea).toNat<=2:=by apply Nat.le_of_not_lt;intro h;have h1:2^253*2^3<=sb*2^(eb-ea).toNat:=Nat.mul_le_mul (hb.2.1.resolve_left zb) (Nat.pow_le_pow_right (by decide) h);have h2:=ha.2.2;rw[<- Nat.pow_add] at h1;exact absurd (Nat.lt_of_le_of_lt (Nat.le_trans h1 hle2) h2) (by decide)
   have hx:sa%2^(eb-ea).toNat=0:=UI ha.1 (by omega);rw[show(max ea eb-eb).toNat=0 by omega,aDT,show(max ea eb-ea).toNat=(eb-ea).toNat by omega,acQ hx,show max ea eb=eb by omega];rw[Nv hp hLb,Nat.sub_mul];congr 2;rw[<- DZ (show ea<=eb by omega) hLa,<- Nat.mul_assoc,Nat.div_mul_cancel (Nat.dvd_of_mod_eq_zero hx)]
theorem atn {x y d:Nat} : (x<y/2^d\/(x=y/2^d/\y%2^d≠0))↔x*2^d<y:=by
 have h1:=Nat.div_add_mod y (2^d);have h2:=Nat.mod_lt y (two_pow_pos d);rw[Nat.mul_comm] at h1;generalize y/2^d=q at *
 generalize y%2^d=r at *
 generalize 2^d=D at *
 constructor
 ·rintro(h|⟨rfl,h⟩)
  ·have:=Nat.mul_le_mul_right D h;rw[Nat.succ_mul] at this;omega
  ·omega
 ·intro h;rcases Nat.lt_trichotomy x q with hl|he|hg
  ·exact .inl hl
  ·subst he;exact .inr ⟨rfl,by omega⟩
  ·have:=Nat.mul_le_mul_right D hg;rw[Nat.succ_mul] at this;omega
theorem ato {x y d:Nat} : y/2^d<x↔y<x*2^d:=Nat.div_lt_iff_lt_mul (two_pow_pos d)
theorem aC6 {ea eb L:Int} {sa sb:Nat} (hLa:L<=ea) (hLb:L<=eb):aCt ea sa eb sb<0↔sa*2^(ea-L).toNat<sb*2^(eb-L).toNat:=by
 unfold aCt;by_cases hle:eb<=ea
 ·rw[show(max ea eb-ea).toNat=0 by omega,show(max ea eb-eb).toNat=(ea-eb).toNat by omega,Nat.pow_zero,Nat.div_one,Nat.mod_one,<- DZ hle hLb,<- Nat.mul_assoc];rw[show(sa*2^(ea-eb).toNat*2^(eb-L).toNat<sb*2^(eb-L).toNat)↔sa*2^(ea-eb).toNat<sb from Nat.mul_lt_mul_right (two_pow_pos _),<- atn];split
  ·rename_i h;exact⟨λ_=>.inl h,λ_=>by omega⟩
  ·rename_i h;split
   ·rename_i h2;exact⟨λh3=>by omega,λh3=>by omega⟩
   ·rename_i h2;rw[if_neg (by omega)];split
    ·rename_i h3;exact⟨λ_=>.inr ⟨by omega,h3⟩,λ_=>by omega⟩
    ·rename_i h3;exact⟨λh4=>by omega,λh4=>by omega⟩
 ·rw[show(max ea eb-eb).toNat=0 by omega,show(max ea eb-ea).toNat=(eb-ea).toNat by omega,Nat.pow_zero,Nat.div_one,Nat.mod_one,<- DZ (show ea<=eb by omega) hLa,<- Nat.mul_assoc];rw[show(sa*2^(ea-L).toNat<sb*2^(eb-ea).toNat*2^(ea-L).toNat)↔sa<sb*2^(eb-ea).toNat from Nat.mul_lt_mul_right (two_pow_pos _),<- ato];split
  ·rename_i h;exact⟨λ_=>h,λ_=>by omega⟩
  ·rename_i h;split
   ·exact⟨λh3=>by omega,λh3=>by omega⟩
   ·split
    ·exact⟨λh3=>by omega,λh3=>by omega⟩
    ·rw[if_neg (by omega)];exact⟨λh3=>by omega,λh3=>by omega⟩
theorem aja {f c:Nat} (hf:f<4):afn f c%2^15=0:=by
 obtain⟨n1,n2,_⟩:=axv hf;unfold afn;split
 ·rename_i h;by_cases h0:c=0
  ·subst h0;rw[Nat.zero_mul]
  have hl:aCy c<=fP f-1:=abO.2 h;rw[show 128-aCy c=15+(113-aCy c) by omega,Nat.pow_add,<- Nat.mul_assoc,Nat.mul_right_comm,Nat.mul_mod_left]
 ·rw[show 128-fP f=15+(113-fP f) by omega,Nat.pow_add,<- Nat.mul_assoc,Nat.mul_right_comm,Nat.mul_mod_left]
theorem atp {f c:Nat} (hf:f<4) (h0:0<c) (h1:c<inf f):Dn (afn f c*2^128):=by
 obtain⟨s1,s2⟩:=aDb hf h0 h1;refine⟨?_,.inr ?_,?_⟩
 ·rw[show(128:Nat)=30+98 from rfl,Nat.pow_add,<- Nat.mul_assoc,Nat.mul_right_comm,Nat.mul_mod_left]
 ·have:=Nat.mul_le_mul_right (2^128) s1;rw[<- Nat.pow_add] at this;exact Nat.le_trans (by decide) this
 ·have:=Nat.mul_lt_mul_of_pos_right s2 (two_pow_pos 128);rw[<- Nat.pow_add] at this;exact this
theorem atq {f c d:Nat} (hf:f<4) (h0:0<c) (h1:c<inf f) (h2:0<d) (h3:d<inf f):Dn (afn f c*afn f d):=by
 obtain⟨s1,s2⟩:=aDb hf h0 h1;obtain⟨t1,t2⟩:=aDb hf h2 h3;refine⟨?_,.inr ?_,?_⟩
 ·obtain⟨x,hx⟩:=Nat.dvd_of_mod_eq_zero (aja (c:=c) hf);obtain⟨y,hy⟩:=Nat.dvd_of_mod_eq_zero (aja (c:=d) hf);rw[hx,hy,show 2^15*x*(2^15*y)=2^30*(x*y) by rw[show(2:Nat)^30=2^15*2^15 from rfl];ac_rfl,Nat.mul_mod_right]
 ·have:=Nat.mul_le_mul s1 t1;rw[<- Nat.pow_add] at this;exact Nat.le_trans (by decide) this
 ·have:=Nat.mul_lt_mul'' s2 t2;rw[<- Nat.pow_add] at this;exact this
theorem ajb:Dn 0:=⟨rfl,.inl rfl,two_pow_pos 256⟩
theorem atr {f c:Nat} (hf:f<4) (h0:0<c) (h1:c<inf f):afn f c*2^128*2^(alc f c+40000).toNat=val f c*2^(255-fU f+40000:Int).toNat:=by
 have hv:=Uq hf h0 h1;have hr:=aCr hf h1;obtain⟨n1,n2,n3,n4,n5,n6,n7,n8,n9⟩:=axv hf;have hU:fU f<=16500:=by unfold fU;omega
 generalize alc f c=e at *
 generalize afn f c=x at *
 generalize val f c=C at *
 apply Nat.eq_of_mul_eq_mul_right (two_pow_pos (127-e-fU f:Int).toNat);rw[Nat.mul_right_comm C,<- hv,Nat.mul_assoc x,Nat.mul_assoc x,Nat.mul_assoc x,<- Nat.pow_add,<- Nat.pow_add,<- Nat.pow_add];congr 2;omega
theorem att {f c d:Nat} (hf:f<4) (h0:0<c) (h1:c<inf f) (h2:0<d) (h3:d<inf f) :
  afn f c*afn f d*2^(alc f c+alc f d+1+40000).toNat=val f c*val f d*2^(255-fU f-fU f+40000:Int).toNat:=by
 have hv:=Uq hf h0 h1;have hw:=Uq hf h2 h3;have hr:=aCr hf h1;have hr2:=aCr hf h3;obtain⟨n1,n2,n3,n4,n5,n6,n7,n8,n9⟩:=axv hf;have hU:fU f<=16500:=by unfold fU;omega
 generalize alc f c=e at *
 generalize afn f c=x at *
 generalize val f c=C at *
 generalize alc f d=g at *
 generalize afn f d=y at *
 generalize val f d=D at *
 apply Nat.eq_of_mul_eq_mul_right (Nat.mul_pos (two_pow_pos (127-e-fU f:Int).toNat) (two_pow_pos (127-g-fU f:Int).toNat));rw[show C*D*2^(255-fU f-fU f+40000:Int).toNat*(2^(127-e-fU f:Int).toNat*2^(127-g-fU f:Int).toNat)=C*2^(127-e-fU f:Int).toNat*(D*2^(127-g-fU f:Int).toNat)*2^(255-fU f-fU f+40000:Int).toNat by ac_rfl,<- hv,<- hw];rw[show x*2^(e-127+fU f:Int).toNat*(y*2^(g-127+fU f:Int).toNat)*2^(255-fU f-fU f+40000:Int).toNat=x*y*(2^(e-127+fU f:Int).toNat*2^(g-127+fU f:Int).toNat*2^(255-fU f-fU f+40000:Int).toNat) by ac_rfl];rw[show x*y*2^(e+g+1+40000).toNat*(2^(127-e-fU f:Int).toNat*2^(127-g-fU f:Int).toNat)=x*y*(2^(e+g+1+40000).toNat*2^(127-e-fU f:Int).toNat*2^(127-g-fU f:Int).toNat) by ac_rfl];rw[<- Nat.pow_add,<- Nat.pow_add,<- Nat.pow_add,<- Nat.pow_add];congr 2;omega
theorem atu {f m:Nat} {after neg:Bool} {V:Nat} (hf:f<4):abw (fP f) (fE f) m after neg (-40000) (V*2^(255-fU f+40000:Int).toNat)=acJ (fP f) (fE f) m after neg V 1:=by obtain⟨n1,n2,n3,n4,n5,n6,n7,n8,n9⟩:=axv hf;apply abP n1 (by decide);have hU:fU f=fE f+fP f-2:=rfl;rw[Nat.mul_one,Nat.mul_assoc,<- Nat.pow_add];congr 2;omega
theorem atv {f m:Nat} {after neg:Bool} {V:Nat} (hf:f<4):abw (fP f) (fE f) m after neg (-40000) (V*2^(255-fU f-fU f+40000:Int).toNat)=acJ (fP f) (fE f) m after neg V (2^fU f):=by obtain⟨n1,n2,n3,n4,n5,n6,n7,n8,n9⟩:=axv hf;apply abP n1 (two_pow_pos _);have hU:fU f=fE f+fP f-2:=rfl;rw[Nat.mul_assoc,Nat.mul_assoc,<- Nat.pow_add,<- Nat.pow_add];congr 2;omega
def sgV (s t:Bool) (A B:Nat):Nat:=if s=t then A+B else if A<B then B-A else A-B
def sgS (s t:Bool) (A B:Nat):Bool:=if s=t then s else if A<B then t else s
def JP (m:Nat) (s t:Bool) (A B:Nat):Bool:=if sgV s t A B=0 then(if s=t then s else decide (m=3)) else sgS s t A B
def aCP (s t:Bool) (ea:Int) (sa:Nat) (eb:Int) (sb:Nat):Int×Nat :=
 if s=t then aCI ea sa eb sb else if aCt ea sa eb sb<0 then aDe eb sb ea sa else aDe ea sa eb sb
def aeY (s t:Bool) (ea:Int) (sa:Nat) (eb:Int) (sb:Nat):Bool:=if s=t then s else if aCt ea sa eb sb<0 then t else s
theorem ajc {p emax m:Nat} {after neg:Bool} {e:Int} {s:Nat} (hp:2<=p) (h:abw p emax m after neg e s=(0,0)):s=0:=by
 unfold abw at h;have hD:=two_pow_pos (255+2-e-emax-p:Int).toNat;obtain⟨c,hc,hv⟩:=aqz hp hD (by rw[h]);have h2:=aqy (m:=m) (after:=after) (neg:=neg) hp hD hc hv;rw[h] at h2;have hc0:c=0:=(congrArg Prod.fst h2).symm;rw[hc0,amR,Nat.zero_mul] at hv;rcases Nat.mul_eq_zero.1 hv with h|h
 ·exact h
 ·have:=two_pow_pos (e-255+emax+p-2:Int).toNat;omega
theorem atw {p emax m:Nat} {after neg:Bool} {e e2:Int} {s s2:Nat} (hp:2<=p) (h:abw p emax m after neg e s=abw p emax m after neg e2 s2):s=0↔s2=0:=by
 constructor
 ·intro h0;rw[h0,Qr] at h;exact ajc hp h.symm
 ·intro h0;rw[h0,Qr] at h;exact ajc hp h
theorem atx {p emax m:Nat} {after neg:Bool} {ea eb:Int} {sa sb A B k:Nat} (hp:2<=p) (hp2:p<=240) (ha:Dn sa) (hb:Dn sb) (hLa : -40000<=ea) (hLb : -40000<=eb)
  (hA:sa*2^(ea+40000).toNat=A*2^k) (hB:sb*2^(eb+40000).toNat=B*2^k) (s t:Bool) :
  abw p emax m after neg (aCP s t ea sa eb sb).1 (aCP s t ea sa eb sb).2=abw p emax m after neg (-40000) (sgV s t A B*2^k)/\aeY s t ea sa eb sb=sgS s t A B:=by
 have e1:(ea - -40000).toNat=(ea+40000).toNat:=by congr 1
 have e2:(eb - -40000).toNat=(eb+40000).toNat:=by congr 1
 have hc:=aC6 (ea:=ea) (eb:=eb) (L := -40000) (sa:=sa) (sb:=sb) hLa hLb;rw[e1,e2,hA,hB,show(A*2^k<B*2^k)↔A<B from Nat.mul_lt_mul_right (two_pow_pos k)] at hc;unfold aCP aeY sgV sgS;by_cases hst:s=t
 ·rw[if_pos hst,if_pos hst,if_pos hst,if_pos hst];refine⟨?_,rfl⟩;rw[atm hp hp2 ha hb hLa hLb,e1,e2,hA,hB,Nat.add_mul]
 ·rw[if_neg hst,if_neg hst,if_neg hst,if_neg hst];by_cases hl:A<B
  ·rw[if_pos (hc.2 hl),if_pos (hc.2 hl),if_pos hl,if_pos hl];refine⟨?_,rfl⟩;rw[ai9 hp hp2 hb ha hLb hLa (by rw[e1,e2,hA,hB];exact Nat.mul_le_mul_right _ (Nat.le_of_lt hl)),e1,e2,hA,hB,Nat.sub_mul]
  ·rw[if_neg (λh=>hl (hc.1 h)),if_neg (λh=>hl (hc.1 h)),if_neg hl,if_neg hl];refine⟨?_,rfl⟩;rw[ai9 hp hp2 ha hb hLa hLb (by rw[e1,e2,hA,hB];exact Nat.mul_le_mul_right _ (by omega)),e1,e2,hA,hB,Nat.sub_mul]
theorem ajd {p emax m:Nat} {after:Bool} {ea eb:Int} {sa sb A B k:Nat} (hp:2<=p) (hp2:p<=240) (ha:Dn sa) (hb:Dn sb) (hLa : -40000<=ea) (hLb : -40000<=eb)
  (hA:sa*2^(ea+40000).toNat=A*2^k) (hB:sb*2^(eb+40000).toNat=B*2^k) (s t:Bool) :
  (if (aCP s t ea sa eb sb).2=0 then(if s=t then s else decide (m=3)) else aeY s t ea sa eb sb)=JP m s t A B /\
  abw p emax m after (JP m s t A B) (aCP s t ea sa eb sb).1 (aCP s t ea sa eb sb).2=abw p emax m after (JP m s t A B) (-40000) (sgV s t A B*2^k):=by
 obtain⟨h1,h2⟩:=atx (emax:=emax) (m:=m) (after:=after) (neg:=JP m s t A B) hp hp2 ha hb hLa hLb hA hB s t;refine⟨?_,h1⟩;have hz:=atw hp h1
 have hz2:sgV s t A B*2^k=0↔sgV s t A B=0:=by
  have:=two_pow_pos k;constructor
  ·intro h;rcases Nat.mul_eq_zero.1 h with h|h
   ·exact h
   ·omega
  ·intro h;rw[h,Nat.zero_mul]
 rw[h2];unfold JP;by_cases h:sgV s t A B=0
 ·rw[if_pos h,if_pos (hz.2 (hz2.2 h))]
 ·rw[if_neg h,if_neg (λh3=>h (hz2.1 (hz.1 h3)))]
def tmE (f c:Nat):Int:=if c=0 then 0 else alc f c
def tmS (f c:Nat):Nat:=if c=0 then 0 else afn f c*2^128
def tpE (f c d:Nat):Int:=if c=0\/d=0 then 0 else alc f c+alc f d+1
def tpS (f c d:Nat):Nat:=if c=0\/d=0 then 0 else afn f c*afn f d
theorem aty {f:Nat} (hf:f<4):fU f<=16500:=by obtain⟨n1,n2,n3,n4,n5,n6,n7,n8,n9⟩:=axv hf;unfold fU;omega
theorem XR {f c:Nat} (hf:f<4) (hc:c<inf f):Dn (tmS f c) /\ -40000<=tmE f c/\tmS f c*2^(tmE f c+40000).toNat=val f c*2^(255-fU f+40000:Int).toNat:=by
 unfold tmS tmE;by_cases h:c=0
 ·rw[if_pos h,if_pos h,h];refine⟨ajb,by omega,?_⟩;unfold val;rw[amR,Nat.zero_mul,Nat.zero_mul]
 ·rw[if_neg h,if_neg h];have:=aCr hf hc;exact⟨atp hf (by omega) hc,by omega,atr hf (by omega) hc⟩
theorem atz {f c d:Nat} (hf:f<4) (hc:c<inf f) (hd:d<inf f):Dn (tpS f c d) /\ -40000<=tpE f c d/\tpS f c d*2^(tpE f c d+40000).toNat=val f c*val f d*2^(255-fU f-fU f+40000:Int).toNat:=by
 unfold tpS tpE;by_cases h:c=0\/d=0
 ·rw[if_pos h,if_pos h];refine⟨ajb,by omega,?_⟩
  have:val f c*val f d=0:=by
   unfold val;rcases h with h|h<;>rw[h,amR]
   ·rw[Nat.zero_mul]
   ·rw[Nat.mul_zero]
  rw[this,Nat.zero_mul,Nat.zero_mul]
 ·rw[if_neg h,if_neg h];have:=aCr hf hc;have:=aCr hf hd;exact⟨atq hf (by omega) hc (by omega) hd,by omega,att hf (by omega) hc (by omega) hd⟩
theorem atA {f c:Nat} (hf:f<4) (hc:c<inf f):tmS f c*2^(tmE f c+40000).toNat=val f c*2^fU f*2^(255-fU f-fU f+40000:Int).toNat:=by rw[(XR hf hc).2.2,Nat.mul_assoc,<- Nat.pow_add];have:=aty hf;congr 2;omega
def addN (f m:Nat) (s t:Bool) (c d:Nat):Bool:=JP m s t (val f c) (val f d)
def aDl (f m:Nat) (after s t:Bool) (c d:Nat):Nat×Nat:=acJ (fP f) (fE f) m after (addN f m s t c d) (sgV s t (val f c) (val f d)) 1
def aDB (f m:Nat) (s t:Bool) (c d e:Nat):Bool:=JP m s t (val f c*val f d) (val f e*2^fU f)
def aDK (f m:Nat) (after s t:Bool) (c d e:Nat):Nat×Nat:=acJ (fP f) (fE f) m after (aDB f m s t c d e) (sgV s t (val f c*val f d) (val f e*2^fU f)) (2^fU f)
theorem aje {f:Nat} (hf:f<4):fP f<=240:=by have:=aDH hf;omega
theorem aDY {f m c d:Nat} {after:Bool} (hf:f<4) (hc:c<inf f) (hd:d<inf f) (s t:Bool) :
  (if (aCP s t (tmE f c) (tmS f c) (tmE f d) (tmS f d)).2=0 then(if s=t then s else decide (m=3)) else aeY s t (tmE f c) (tmS f c) (tmE f d) (tmS f d))=addN f m s t c d /\
  abw (fP f) (fE f) m after (addN f m s t c d) (aCP s t (tmE f c) (tmS f c) (tmE f d) (tmS f d)).1 (aCP s t (tmE f c) (tmS f c) (tmE f d) (tmS f d)).2=aDl f m after s t c d:=by
 obtain⟨a1,a2,a3⟩:=XR hf hc;obtain⟨b1,b2,b3⟩:=XR hf hd;obtain⟨h1,h2⟩:=ajd (emax:=fE f) (m:=m) (after:=after) (aDr hf) (aje hf) a1 b1 a2 b2 a3 b3 s t;exact⟨h1,h2.trans (atu hf)⟩
theorem aDZ {f m c d e:Nat} {after:Bool} (hf:f<4) (hc:c<inf f) (hd:d<inf f) (he:e<inf f) (s t:Bool) :
  (if (aCP s t (tpE f c d) (tpS f c d) (tmE f e) (tmS f e)).2=0 then(if s=t then s else decide (m=3)) else aeY s t (tpE f c d) (tpS f c d) (tmE f e) (tmS f e))=aDB f m s t c d e /\
  abw (fP f) (fE f) m after (aDB f m s t c d e) (aCP s t (tpE f c d) (tpS f c d) (tmE f e) (tmS f e)).1 (aCP s t (tpE f c d) (tpS f c d) (tmE f e) (tmS f e)).2=aDK f m after s t c d e:=by
 obtain⟨a1,a2,a3⟩:=atz hf hc hd;obtain⟨b1,b2,b3⟩:=XR hf he;obtain⟨h1,h2⟩:=ajd (emax:=fE f) (m:=m) (after:=after) (aDr hf) (aje hf) a1 b1 a2 b2 a3 (atA hf he) s t;exact⟨h1,h2.trans (atv hf)⟩
end Go.Proofs.YtippohicjhilnaaGreatDoor.FP
namespace Go.Proofs.YtippohicjhilnaaGreatDoor
open Go.RowKit
def Gc (f a b:Nat):Bool:=decide (vT f a=3)&&(decide (vT f b=3)&&(FP.sgn f a != FP.sgn f b))
def Gf (f m:Nat) (after:Bool) (a b:Nat):Nat×Nat :=
 if 4<=vT f a then(yI f a,PY f a b) else if 4<=vT f b then(yI f b,PY f a b)
 else if Gc f a b=true then(zM f,1)
 else if vT f a=3 then(FP.mk f (FP.sgn f a) (FP.inf f),0)
 else if vT f b=3 then(FP.mk f (FP.sgn f b) (FP.inf f),0)
 else(FP.mk f (FP.addN f m (FP.sgn f a) (FP.sgn f b) (FP.cod f a) (FP.cod f b)) (FP.aDl f m after (FP.sgn f a) (FP.sgn f b) (FP.cod f a) (FP.cod f b)).1,(FP.aDl f m after (FP.sgn f a) (FP.sgn f b) (FP.cod f a) (FP.cod f b)).2)
def Gg (f a b:Nat):Bool:=decide (vT f a=3)||decide (vT f b=3)
def II (f a b c:Nat):Bool:=zf (vT f a) (vT f b)||(Gg f a b&&(decide (vT f c=3)&&((FP.sgn f a != FP.sgn f b) != FP.sgn f c)))
def XT (f a b c:Nat):Nat:=if zf (vT f a) (vT f b)=true\/vT f a=5\/vT f b=5\/vT f c=5 then 1 else 0
def Nw (f m a b c:Nat):Bool:=if Gg f a b=true then(FP.sgn f a != FP.sgn f b) else if vT f c=3 then FP.sgn f c else FP.aDB f m (FP.sgn f a != FP.sgn f b) (FP.sgn f c) (FP.cod f a) (FP.cod f b) (FP.cod f c)
def IJ (f m:Nat) (after:Bool) (a b c:Nat):Nat×Nat:=if Gg f a b=true then(FP.inf f,0) else if vT f c=3 then(FP.inf f,0) else FP.aDK f m after (FP.sgn f a != FP.sgn f b) (FP.sgn f c) (FP.cod f a) (FP.cod f b) (FP.cod f c)
def Ho (f m:Nat) (after:Bool) (a b c:Nat):Nat×Nat :=
 if 4<=vT f a then(yI f a,XT f a b c) else if 4<=vT f b then(yI f b,XT f a b c) else if 4<=vT f c then(yI f c,XT f a b c)
 else if II f a b c=true then(zM f,1)
 else(FP.mk f (Nw f m a b c) (IJ f m after a b c).1,(IJ f m after a b c).2)
theorem atB {f:Nat} (m:Nat) (after:Bool) {a b c:Nat} (ha:¬ 4<=vT f a) (hb:¬ 4<=vT f b) (hc:¬ 4<=vT f c) :
  Ho f m after a b c=if II f a b c=true then(zM f,1) else(FP.mk f (Nw f m a b c) (IJ f m after a b c).1,(IJ f m after a b c).2):=by
 unfold Ho;rw[if_neg ha,if_neg hb,if_neg hc]
theorem acR {f a b:Nat} (h:Gc f a b=true):vT f a=3/\vT f b=3:=by unfold Gc at h;simp only[Bool.and_eq_true,decide_eq_true_iff] at h;exact⟨h.1,h.2.1⟩
end Go.Proofs.YtippohicjhilnaaGreatDoor
