import Derived.Test.YtemomocmfggiaaaGreatDoorZGU6
set_option linter.unusedSimpArgs false
set_option linter.unusedVariables false
set_option maxRecDepth 100000
namespace Go.Proofs.YtemomocmfggiaaaGreatDoor.FP
theorem ap8 {N1 D1 N2 D2:Nat} (h1:0<D1) (h2:0<D2) (h:N1*D2=N2*D1):N1/D1=N2/D2∧(N1%D1=0↔N2%D2=0):=by
 obtain⟨a1,a2⟩:=Uc h1 h2 (Nat.le_of_eq h)
 obtain⟨b1,b2⟩:=Uc h2 h1 (Nat.le_of_eq h.symm)
 have hq:=Nat.le_antisymm a1 b1
 have c1:=a2 hq
 have c2:=b2 hq.symm
 refine⟨hq,fun hz=>?_,fun hz=>?_⟩
 ·rw[hz,Nat.zero_mul] at c2
  rcases Nat.mul_eq_zero.1 (Nat.le_zero.1 c2) with h|h
  ·exact h
  ·omega
 ·rw[hz,Nat.zero_mul] at c1
  rcases Nat.mul_eq_zero.1 (Nat.le_zero.1 c1) with h|h
  ·exact h
  ·omega
def divC (f m:Nat) (after neg:Bool) (c d:Nat):Nat×Nat:=roundC (fP f) (fE f) m after neg (val f c*2^fU f) (val f d)
theorem round_div {f m:Nat} {after neg:Bool} {c d n:Nat} (hf:f<4) (h0:0<c) (h1:c<inf f) (h2:0<d) (h3:d<inf f)
  (hn:n/2^100=unSig f c*2^128/unSig f d) (hz:n%2^100=0↔unSig f c*2^128%unSig f d=0) :
  roundE (fP f) (fE f) m after neg (unExp f c-unExp f d+27) n=divC f m after neg c d:=by
 have hv:=JF hf h0 h1
 have hw:=JF hf h2 h3
 have hr:=un_exp hf h1
 have hr2:=un_exp hf h3
 obtain⟨s1,s2⟩:=un_sig hf h0 h1
 obtain⟨t1,t2⟩:=un_sig hf h2 h3
 obtain⟨n1,n2,n3,n4,n5,n6,n7,n8,n9⟩:=fmtN hf
 have dpos:0<val f d:=ad5 (fP_ge hf) h2
 have zpos:0<unSig f d:=Nat.lt_of_lt_of_le (two_pow_pos 127) t1
 unfold roundE divC
 generalize unExp f c=e at *
 generalize unExp f d=g at *
 generalize unSig f c=x at *
 generalize unSig f d=y at *
 generalize val f c=C at *
 generalize val f d=D at *
 have key:C*2^fU f*2^(128-e+g-fU f:Int).toNat*y=x*2^128*(D*2^(e-g-128+fU f:Int).toNat):=by
  apply Nat.eq_of_mul_eq_mul_right (Nat.mul_pos (two_pow_pos (127-e-fU f:Int).toNat) (two_pow_pos (g-127+fU f:Int).toNat))
  rw[show C*2^fU f*2^(128-e+g-fU f:Int).toNat*y*(2^(127-e-fU f:Int).toNat*2^(g-127+fU f:Int).toNat)=C*2^(127-e-fU f:Int).toNat*(y*2^(g-127+fU f:Int).toNat)*(2^fU f*2^(128-e+g-fU f:Int).toNat) by ac_rfl,← hv,hw]
  rw[show x*2^(e-127+fU f:Int).toNat*(D*2^(127-g-fU f:Int).toNat)*(2^fU f*2^(128-e+g-fU f:Int).toNat)=x*D*(2^(e-127+fU f:Int).toNat*2^(127-g-fU f:Int).toNat*2^fU f*2^(128-e+g-fU f:Int).toNat) by ac_rfl]
  rw[show x*2^128*(D*2^(e-g-128+fU f:Int).toNat)*(2^(127-e-fU f:Int).toNat*2^(g-127+fU f:Int).toNat)=x*D*(2^128*2^(e-g-128+fU f:Int).toNat*2^(127-e-fU f:Int).toNat*2^(g-127+fU f:Int).toNat) by ac_rfl]
  rw[← Nat.pow_add,← Nat.pow_add,← Nat.pow_add,← Nat.pow_add,← Nat.pow_add,← Nat.pow_add]
  congr 2
  omega
 have gpos:0<D*2^(e-g-128+fU f:Int).toNat:=Nat.mul_pos dpos (two_pow_pos _)
 obtain⟨k1,k2⟩:=ap8 gpos zpos key
 have scale:roundC (fP f) (fE f) m after neg (C*2^fU f) D=roundC (fP f) (fE f) m after neg (C*2^fU f*2^(128-e+g-fU f:Int).toNat) (D*2^(128-e+g-fU f:Int).toNat) :=
  Ue n1 dpos (Nat.mul_pos dpos (two_pow_pos _)) (by ac_rfl)
 rw[scale]
 have q1:n*2^(e-g+27-255+fE f+fP f-2:Int).toNat/2^(100+(e-g+27-255+fE f+fP f-2:Int).toNat)=n/2^100:=by
  rw[Nat.pow_add,Nat.mul_div_mul_right _ _ (two_pow_pos _)]
 have q2:n*2^(e-g+27-255+fE f+fP f-2:Int).toNat%2^(100+(e-g+27-255+fE f+fP f-2:Int).toNat)=0↔n%2^100=0:=by
  rw[Nat.pow_add,Nat.mul_mod_mul_right]
  have:=two_pow_pos (e-g+27-255+fE f+fP f-2:Int).toNat
  constructor
  ·intro h
   rcases Nat.mul_eq_zero.1 h with h|h
   ·exact h
   ·omega
  ·intro h;rw[h,Nat.zero_mul]
 refine aeg (G1:=2^(100+(e-g+27-255+fE f+fP f-2:Int).toNat)) (G2:=D*2^(e-g-128+fU f:Int).toNat) (a:=(e-g-128+fU f:Int).toNat) (b:=(128-e+g-fU f:Int).toNat) n1 (two_pow_pos _) (Nat.mul_pos dpos (two_pow_pos _)) (two_pow_pos _) gpos ?_ (by ac_rfl) ?_ ?_ ?_
 ·rw[← Nat.pow_add,← Nat.pow_add]
  congr 1
  unfold fU at *
  omega
 ·rw[q1,hn,k1]
 ·rw[q2,hz,k2]
 ·rw[q1,hn,Nat.le_div_iff_mul_le zpos]
  have p1:2^(fP f+1)≤2^127:=Nat.pow_le_pow_right (by decide) (by omega)
  have p2:2^(fP f+1)*y≤2^127*2^128:=Nat.mul_le_mul p1 (Nat.le_of_lt t2)
  exact Nat.le_trans p2 (Nat.mul_le_mul_right _ s1)
def isqGo (n:Nat):Nat→Nat→Nat
 | 0,r=>r
 | k+1,r=>isqGo n k (if (r+2^k)*(r+2^k)≤n then r+2^k else r)
def isq (n:Nat):Nat:=isqGo n 128 0
theorem aai (n:Nat):∀ (k r:Nat),r*r≤n→n<(r+2^k)*(r+2^k)→isqGo n k r*isqGo n k r≤n∧n<(isqGo n k r+1)*(isqGo n k r+1)
 | 0,r,h1,h2=>⟨h1,h2⟩
 | k+1,r,h1,h2=>by
  unfold isqGo
  split
  ·rename_i h
   refine aai n k _ h ?_
   rw[Nat.add_assoc,← Nat.mul_two,← Nat.pow_succ];exact h2
  ·rename_i h
   exact aai n k _ h1 (by omega)
theorem ap9 {n:Nat} (h:n<2^256):isq n*isq n≤n∧n<(isq n+1)*(isq n+1) :=
 aai n 128 0 (Nat.zero_le _) (by rw[Nat.zero_add,← Nat.pow_add];exact h)
theorem aqa {a b:Nat} (h:a*a<b*b):a<b:=by
 apply Nat.lt_of_not_le;intro hle
 have:=Nat.mul_le_mul hle hle
 omega
theorem isq_lt {n:Nat} (h:n<2^256):isq n<2^128:=by
 apply aqa
 rw[← Nat.pow_add]
 exact Nat.lt_of_le_of_lt (ap9 h).1 h
def jamR (n:Nat):Nat:=isq n*2^100+if isq n*isq n=n then 0 else 1
def sqN (f c:Nat):Nat:=if (unExp f c-255)%2=0 then unSig f c*2^128 else unSig f c*2^127
def sqX (f c:Nat):Int:=if (unExp f c-255)%2=0 then(unExp f c-255)/2 else(unExp f c-254)/2
def sqrtC (f m:Nat) (after:Bool) (c:Nat):Nat×Nat:=roundE (fP f) (fE f) m after false (sqX f c+155) (jamR (sqN f c))
theorem afn {p emax m:Nat} {after neg:Bool} {e:Int} {j L M:Nat} (hp:2≤p) (hq:L/2=M/2^(j+1)) (hz:L%2=0↔M%2^(j+1)=0) (hbig:2^(p+1)≤L/2) :
  roundE p emax m after neg (e+j) L=roundE p emax m after neg e M:=by
 unfold roundE
 obtain⟨P1,hP1⟩:∃ k,(e+j-255+emax+p-2:Int).toNat=k:=⟨_,rfl⟩
 obtain⟨Q1,hQ1⟩:∃ k,(255+2-(e+j)-emax-p:Int).toNat=k:=⟨_,rfl⟩
 obtain⟨P2,hP2⟩:∃ k,(e-255+emax+p-2:Int).toNat=k:=⟨_,rfl⟩
 obtain⟨Q2,hQ2⟩:∃ k,(255+2-e-emax-p:Int).toNat=k:=⟨_,rfl⟩
 rw[hP1,hQ1,hP2,hQ2]
 have div1:∀ (x k P:Nat),x*2^P/2^(k+P)=x/2^k:=fun x k P=>by rw[Nat.pow_add,Nat.mul_div_mul_right _ _ (two_pow_pos _)]
 have mod1:∀ (x k P:Nat),x*2^P%2^(k+P)=0↔x%2^k=0:=fun x k P=>by
  rw[Nat.pow_add,Nat.mul_mod_mul_right]
  have:=two_pow_pos P
  constructor
  ·intro h
   rcases Nat.mul_eq_zero.1 h with h|h
   ·exact h
   ·omega
  ·intro h;rw[h,Nat.zero_mul]
 refine aeg (G1:=2^(1+P1)) (G2:=2^(j+1+P2)) (a:=(e+j-255+emax+p-1:Int).toNat) (b:=(255+1-(e+j)-emax-p:Int).toNat) hp (two_pow_pos _) (two_pow_pos _) (two_pow_pos _) (two_pow_pos _) ?_ ?_ ?_ ?_ ?_
 ·rw[← Nat.pow_add,← Nat.pow_add];congr 1;omega
 ·rw[← Nat.pow_add,← Nat.pow_add];congr 1;omega
 ·rw[div1,div1,Nat.pow_one];exact hq
 ·rw[mod1,mod1,Nat.pow_one];exact hz
 ·rw[div1,Nat.pow_one];exact hbig
theorem afo {p emax m:Nat} {after neg:Bool} {e:Int} {j L:Nat} (hp:2≤p) :
  roundE p emax m after neg (e+j) L=roundE p emax m after neg e (L*2^j):=by
 unfold roundE
 apply Ue hp (two_pow_pos _) (two_pow_pos _)
 rw[Nat.mul_assoc L,← Nat.pow_add,Nat.mul_assoc,Nat.mul_assoc,← Nat.pow_add,← Nat.pow_add]
 congr 2
 omega
def Cm (s:Nat):Prop:=s%2^30=0∧(s=0∨2^253≤s)∧s<2^256
theorem Rw {s k n:Nat} (h:s%2^n=0) (hk:k≤n):s%2^k=0:=by
 have e:s%2^n%2^k=s%2^k:=Nat.mod_mod_of_dvd s (Nat.pow_dvd_pow 2 hk)
 rw[h,Nat.zero_mod] at e;exact e.symm
theorem aaj {s j:Nat} (h:s%2^j=0):jam s j=s/2^j:=by unfold jam;rw[if_pos h]
theorem jam_zero (j:Nat):jam 0 j=0:=by unfold jam;simp
theorem UF {p emax m:Nat} {after neg:Bool} {e:Int} {d s t:Nat} (hp:2≤p) (hp2:p≤240) (hs:Cm s) (hs0:s≠0) :
  roundE p emax m after neg (e+(d+1:Nat)) (jam s 1+jam t (d+1))=roundE p emax m after neg e (s*2^d+t):=by
 obtain⟨h1,h2,h3⟩:=hs
 have h4:s%4=0:=Rw (k:=2) h1 (by decide)
 obtain⟨q,rfl⟩:∃ q,s=4*q:=⟨s/4,by omega⟩
 have hj:jam (4*q) 1=2*q:=by rw[aaj (by omega)];omega
 obtain⟨g1,g2⟩:=jam_half t (d+1)
 rw[hj]
 generalize jam t (d+1)=J at *
 have hpow:2^(d+1+1)=4*2^d:=by rw[Nat.pow_succ,Nat.pow_succ];omega
 have hM:4*q*2^d+t=2^(d+1+1)*q+t:=by
  rw[hpow,Nat.mul_right_comm]
 refine afn hp ?_ ?_ ?_
 ·rw[hM,Nat.mul_add_div (two_pow_pos _),← g1];omega
 ·rw[hM,Nat.mul_add_mod,Nat.mul_add_mod];exact g2
 ·have:2^(p+1)≤2^251:=Nat.pow_le_pow_right (by decide) (by omega)
  have:2^253=4*2^251:=by decide
  omega
theorem aqb {p emax m:Nat} {after neg:Bool} {e:Int} {d s t:Nat} (hp:2≤p) (hp2:p≤240) (hs:Cm s) (ht:Cm t) (hs0:s≠0) (hle:t≤s*2^d) :
  roundE p emax m after neg (e+d) (s-jam t d)=roundE p emax m after neg e (s*2^d-t):=by
 by_cases hx:t%2^d=0
 ·rw[aaj hx,afo hp]
  congr 1
  rw[Nat.sub_mul,Nat.div_mul_cancel (Nat.dvd_of_mod_eq_zero hx)]
 obtain⟨h1,h2,h3⟩:=hs
 obtain⟨k1,k2,k3⟩:=ht
 have hd:30<d:=by
  apply Nat.lt_of_not_le;intro h
  exact hx (Rw k1 h)
 have h4:s%4=0:=Rw (k:=2) h1 (by decide)
 obtain⟨q,rfl⟩:∃ q,s=4*q:=⟨s/4,by omega⟩
 have hj:jam t d=2*(t/2^(d+1))+1:=by
  unfold jam;rw[if_neg hx,Nat.div_div_eq_div_mul,← Nat.pow_succ,Nat.mul_comm 2]
 have hsmall:t/2^(d+1)<2^225:=by
  rw[Nat.div_lt_iff_lt_mul (two_pow_pos _),← Nat.pow_add]
  exact Nat.lt_of_lt_of_le k3 (Nat.pow_le_pow_right (by decide) (by omega))
 have hx2:t%2^(d+1)≠0:=fun h=>hx (Rw h (by omega))
 have hdm:=Nat.div_add_mod t (2^(d+1))
 have hml:=Nat.mod_lt t (two_pow_pos (d+1))
 rw[hj]
 generalize t/2^(d+1)=u at *
 generalize t%2^(d+1)=r at *
 have big:2^253≤4*q:=by omega
 have c1:2^253=2^225*2^28:=by rw[← Nat.pow_add]
 have c2:2^251=2^225*2^26:=by rw[← Nat.pow_add]
 have hM:4*q*2^d-t=2^(d+1)*(2*q-u-1)+(2^(d+1)-r):=by
  have e1:4*q*2^d=2^(d+1)*(2*q):=by
   rw[Nat.pow_succ,show 4*q=2*(2*q) by omega];ac_rfl
  have e2:2^(d+1)*(2*q)=2^(d+1)*(2*q-u-1)+2^(d+1)*u+2^(d+1):=by
   rw[← Nat.mul_add,← Nat.mul_succ];congr 1;omega
  omega
 have hl:2^(d+1)-r<2^(d+1):=Nat.sub_lt (two_pow_pos _) (by omega)
 have hl0:2^(d+1)-r≠0:=by omega
 refine afn hp ?_ ?_ ?_
 ·rw[hM,Nat.mul_add_div (two_pow_pos _),Nat.div_eq_of_lt hl];omega
 ·rw[hM,Nat.mul_add_mod,Nat.mod_eq_of_lt hl]
  constructor
  ·intro h;omega
  ·intro h;exact absurd h hl0
 ·have:2^(p+1)≤2^241:=Nat.pow_le_pow_right (by decide) (by omega)
  have:2^241=2^225*2^16:=by rw[← Nat.pow_add]
  omega
def lvl (ea:Int) (sa:Nat) (eb:Int) (sb:Nat):Int:=if sa=0∧sb≠0 then eb else if sb=0∧sa≠0 then ea else max ea eb
def sumT (ea:Int) (sa:Nat) (eb:Int) (sb:Nat):Int×Nat :=
 (lvl ea sa eb sb+1,jam sa (lvl ea sa eb sb+1-ea).toNat+jam sb (lvl ea sa eb sb+1-eb).toNat)
def difT (ea:Int) (sa:Nat) (eb:Int) (sb:Nat):Int×Nat :=
 (lvl ea sa eb sb,jam sa (lvl ea sa eb sb-ea).toNat-jam sb (lvl ea sa eb sb-eb).toNat)
def cmpT (ea:Int) (sa:Nat) (eb:Int) (sb:Nat):Int :=
 if sa/2^(max ea eb-ea).toNat<sb/2^(max ea eb-eb).toNat then -1
 else if sb/2^(max ea eb-eb).toNat<sa/2^(max ea eb-ea).toNat then 1
 else if sa%2^(max ea eb-ea).toNat≠0 then 1 else if sb%2^(max ea eb-eb).toNat≠0 then -1 else 0
theorem jam0 (s:Nat):jam s 0=s:=by unfold jam;rw[Nat.pow_zero,Nat.mod_one,if_pos rfl,Nat.div_one]
theorem O6 {p emax m:Nat} {after neg:Bool} {e:Int} : roundE p emax m after neg e 0=(0,0):=by unfold roundE;rw[Nat.zero_mul,roundC_zero]
theorem J3 {p emax m:Nat} {after neg:Bool} {e L:Int} {s:Nat} (hp:2≤p) (h:L≤e):roundE p emax m after neg e s=roundE p emax m after neg L (s*2^(e-L).toNat):=by
 have:=afo (p:=p) (emax:=emax) (m:=m) (after:=after) (neg:=neg) (e:=L) (j:=(e-L).toNat) (L:=s) hp
 rw[← this];congr 1;omega
theorem J4 {a b L:Int} (h1:b≤a) (h2:L≤b):2^(a-b).toNat*2^(b-L).toNat=2^(a-L).toNat:=by rw[← Nat.pow_add];congr 1;omega
theorem aqc {p emax m:Nat} {after neg:Bool} {ea eb L:Int} {sa sb:Nat} (hp:2≤p) (hp2:p≤240) (ha:Cm sa) (hb:Cm sb) (hLa:L≤ea) (hLb:L≤eb) :
  roundE p emax m after neg (sumT ea sa eb sb).1 (sumT ea sa eb sb).2=roundE p emax m after neg L (sa*2^(ea-L).toNat+sb*2^(eb-L).toNat):=by
 unfold sumT
 simp only[]
 by_cases za:sa=0
 ·subst za
  by_cases zb:sb=0
  ·subst zb
   rw[jam_zero,jam_zero,Nat.zero_mul,Nat.zero_mul,Nat.add_zero,O6,O6]
  ·have hl:lvl ea 0 eb sb=eb:=by unfold lvl;rw[if_pos ⟨rfl,zb⟩]
   have:=UF (p:=p) (emax:=emax) (m:=m) (after:=after) (neg:=neg) (e:=eb) (d:=0) (s:=sb) (t:=0) hp hp2 hb zb
   rw[jam_zero,Nat.pow_zero,Nat.mul_one] at this
   rw[hl,jam_zero,Nat.zero_mul,Nat.zero_add,Nat.zero_add,← J3 hp hLb,show(eb+1-eb).toNat=1 by omega]
   exact this
 ·by_cases zb:sb=0
  ·subst zb
   have hl:lvl ea sa eb 0=ea:=by unfold lvl;rw[if_neg (fun h=>h.2 rfl),if_pos ⟨rfl,za⟩]
   have:=UF (p:=p) (emax:=emax) (m:=m) (after:=after) (neg:=neg) (e:=ea) (d:=0) (s:=sa) (t:=0) hp hp2 ha za
   rw[jam_zero,Nat.pow_zero,Nat.mul_one] at this
   rw[hl,jam_zero,Nat.zero_mul,Nat.add_zero,Nat.add_zero,← J3 hp hLa,show(ea+1-ea).toNat=1 by omega]
   exact this
  ·have hl:lvl ea sa eb sb=max ea eb:=by unfold lvl;rw[if_neg (fun h=>za h.1),if_neg (fun h=>zb h.1)]
   rw[hl]
   by_cases hle:eb≤ea
   ·have:=UF (p:=p) (emax:=emax) (m:=m) (after:=after) (neg:=neg) (e:=eb) (d:=(ea-eb).toNat) (s:=sa) (t:=sb) hp hp2 ha za
    rw[show(max ea eb+1-ea).toNat=1 by omega,show(max ea eb+1-eb).toNat=(ea-eb).toNat+1 by omega,show max ea eb+1=eb+(((ea-eb).toNat+1:Nat):Int) by omega,this,J3 hp hLb,Nat.add_mul,Nat.mul_assoc,J4 hle hLb]
   ·have:=UF (p:=p) (emax:=emax) (m:=m) (after:=after) (neg:=neg) (e:=ea) (d:=(eb-ea).toNat) (s:=sb) (t:=sa) hp hp2 hb zb
    rw[show(max ea eb+1-eb).toNat=1 by omega,show(max ea eb+1-ea).toNat=(eb-ea).toNat+1 by omega,show max ea eb+1=ea+(((eb-ea).toNat+1:Nat):Int) by omega,Nat.add_comm (jam sa _),this,J3 hp hLa,Nat.add_mul,Nat.mul_assoc,J4 (by omega) hLa,Nat.add_comm]
theorem afp {p emax m:Nat} {after neg:Bool} {ea eb L:Int} {sa sb:Nat} (hp:2≤p) (hp2:p≤240) (ha:Cm sa) (hb:Cm sb) (hLa:L≤ea) (hLb:L≤eb) (hle:sb*2^(eb-L).toNat≤sa*2^(ea-L).toNat) :
  roundE p emax m after neg (difT ea sa eb sb).1 (difT ea sa eb sb).2=roundE p emax m after neg L (sa*2^(ea-L).toNat-sb*2^(eb-L).toNat):=by
 unfold difT
 simp only[]
 by_cases zb:sb=0
 ·subst zb
  by_cases za:sa=0
  ·subst za
   rw[jam_zero,jam_zero,Nat.zero_mul,Nat.zero_mul,Nat.sub_zero,O6,O6]
  ·have hl:lvl ea sa eb 0=ea:=by unfold lvl;rw[if_neg (fun h=>h.2 rfl),if_pos ⟨rfl,za⟩]
   rw[hl,jam_zero,Nat.zero_mul,Nat.sub_zero,Nat.sub_zero,← J3 hp hLa,show(ea-ea).toNat=0 by omega,jam0]
 ·have za:sa≠0:=by
   intro za;subst za
   rw[Nat.zero_mul] at hle
   have:=Nat.mul_pos (Nat.pos_of_ne_zero zb) (two_pow_pos (eb-L).toNat)
   omega
  have hl:lvl ea sa eb sb=max ea eb:=by unfold lvl;rw[if_neg (fun h=>za h.1),if_neg (fun h=>zb h.1)]
  rw[hl]
  by_cases hee:eb≤ea
  ·have hle2:sb≤sa*2^(ea-eb).toNat:=by
    rw[← J4 hee hLb,← Nat.mul_assoc] at hle
    exact Nat.le_of_mul_le_mul_right hle (two_pow_pos _)
   have:=aqb (p:=p) (emax:=emax) (m:=m) (after:=after) (neg:=neg) (e:=eb) (d:=(ea-eb).toNat) (s:=sa) (t:=sb) hp hp2 ha hb za hle2
   rw[show(max ea eb-ea).toNat=0 by omega,jam0,show(max ea eb-eb).toNat=(ea-eb).toNat by omega,show max ea eb=eb+((ea-eb).toNat:Int) by omega,this,J3 hp hLb,Nat.sub_mul,Nat.mul_assoc,J4 hee hLb]
  ·have hle2:sb*2^(eb-ea).toNat≤sa:=by
    rw[← J4 (show ea≤eb by omega) hLa,← Nat.mul_assoc] at hle
    exact Nat.le_of_mul_le_mul_right hle (two_pow_pos _)
   have hd:(eb-ea).toNat≤2:=by
    apply Nat.le_of_not_lt;intro h
    have h1:2^253*2^3≤sb*2^(eb-ea).toNat:=Nat.mul_le_mul (hb.2.1.resolve_left zb) (Nat.pow_le_pow_right (by decide) h)
    have h2:=ha.2.2
    rw[← Nat.pow_add] at h1
    exact absurd (Nat.lt_of_le_of_lt (Nat.le_trans h1 hle2) h2) (by decide)
   have hx:sa%2^(eb-ea).toNat=0:=Rw ha.1 (by omega)
   rw[show(max ea eb-eb).toNat=0 by omega,jam0,show(max ea eb-ea).toNat=(eb-ea).toNat by omega,aaj hx,show max ea eb=eb by omega]
   rw[J3 hp hLb,Nat.sub_mul]
   congr 2
   rw[← J4 (show ea≤eb by omega) hLa,← Nat.mul_assoc,Nat.div_mul_cancel (Nat.dvd_of_mod_eq_zero hx)]
theorem aqd {x y d:Nat} : (x<y/2^d∨(x=y/2^d∧y%2^d≠0))↔x*2^d<y:=by
 have h1:=Nat.div_add_mod y (2^d)
 have h2:=Nat.mod_lt y (two_pow_pos d)
 rw[Nat.mul_comm] at h1
 generalize y/2^d=q at *
 generalize y%2^d=r at *
 generalize 2^d=D at *
 constructor
 ·rintro(h|⟨rfl,h⟩)
  ·have:=Nat.mul_le_mul_right D h
   rw[Nat.succ_mul] at this;omega
  ·omega
 ·intro h
  rcases Nat.lt_trichotomy x q with hl|he|hg
  ·exact .inl hl
  ·subst he;exact .inr ⟨rfl,by omega⟩
  ·have:=Nat.mul_le_mul_right D hg
   rw[Nat.succ_mul] at this;omega
theorem aqe {x y d:Nat} : y/2^d<x↔y<x*2^d:=Nat.div_lt_iff_lt_mul (two_pow_pos d)
theorem cmpT_lt {ea eb L:Int} {sa sb:Nat} (hLa:L≤ea) (hLb:L≤eb):cmpT ea sa eb sb<0↔sa*2^(ea-L).toNat<sb*2^(eb-L).toNat:=by
 unfold cmpT
 by_cases hle:eb≤ea
 ·rw[show(max ea eb-ea).toNat=0 by omega,show(max ea eb-eb).toNat=(ea-eb).toNat by omega,Nat.pow_zero,Nat.div_one,Nat.mod_one,← J4 hle hLb,← Nat.mul_assoc]
  rw[show(sa*2^(ea-eb).toNat*2^(eb-L).toNat<sb*2^(eb-L).toNat)↔sa*2^(ea-eb).toNat<sb from Nat.mul_lt_mul_right (two_pow_pos _),← aqd]
  split
  ·rename_i h;exact⟨fun _=>.inl h,fun _=>by omega⟩
  ·rename_i h
   split
   ·rename_i h2;exact⟨fun h3=>by omega,fun h3=>by omega⟩
   ·rename_i h2
    rw[if_neg (by omega)]
    split
    ·rename_i h3;exact⟨fun _=>.inr ⟨by omega,h3⟩,fun _=>by omega⟩
    ·rename_i h3;exact⟨fun h4=>by omega,fun h4=>by omega⟩
 ·rw[show(max ea eb-eb).toNat=0 by omega,show(max ea eb-ea).toNat=(eb-ea).toNat by omega,Nat.pow_zero,Nat.div_one,Nat.mod_one,← J4 (show ea≤eb by omega) hLa,← Nat.mul_assoc]
  rw[show(sa*2^(ea-L).toNat<sb*2^(eb-ea).toNat*2^(ea-L).toNat)↔sa<sb*2^(eb-ea).toNat from Nat.mul_lt_mul_right (two_pow_pos _),← aqe]
  split
  ·rename_i h;exact⟨fun _=>h,fun _=>by omega⟩
  ·rename_i h
   split
   ·exact⟨fun h3=>by omega,fun h3=>by omega⟩
   ·split
    ·exact⟨fun h3=>by omega,fun h3=>by omega⟩
    ·rw[if_neg (by omega)];exact⟨fun h3=>by omega,fun h3=>by omega⟩
theorem afq {f c:Nat} (hf:f<4):unSig f c%2^15=0:=by
 obtain⟨n1,n2,_⟩:=fmtN hf
 unfold unSig
 split
 ·rename_i h
  by_cases h0:c=0
  ·subst h0;rw[Nat.zero_mul]
  have hl:lenN c≤fP f-1:=Uf.2 h
  rw[show 128-lenN c=15+(113-lenN c) by omega,Nat.pow_add,← Nat.mul_assoc,Nat.mul_right_comm,Nat.mul_mod_left]
 ·rw[show 128-fP f=15+(113-fP f) by omega,Nat.pow_add,← Nat.mul_assoc,Nat.mul_right_comm,Nat.mul_mod_left]
theorem aqf {f c:Nat} (hf:f<4) (h0:0<c) (h1:c<inf f):Cm (unSig f c*2^128):=by
 obtain⟨s1,s2⟩:=un_sig hf h0 h1
 refine⟨?_,.inr ?_,?_⟩
 ·rw[show(128:Nat)=30+98 from rfl,Nat.pow_add,← Nat.mul_assoc,Nat.mul_right_comm,Nat.mul_mod_left]
 ·have:=Nat.mul_le_mul_right (2^128) s1
  rw[← Nat.pow_add] at this
  exact Nat.le_trans (by decide) this
 ·have:=Nat.mul_lt_mul_of_pos_right s2 (two_pow_pos 128)
  rw[← Nat.pow_add] at this;exact this
theorem aqg {f c d:Nat} (hf:f<4) (h0:0<c) (h1:c<inf f) (h2:0<d) (h3:d<inf f):Cm (unSig f c*unSig f d):=by
 obtain⟨s1,s2⟩:=un_sig hf h0 h1
 obtain⟨t1,t2⟩:=un_sig hf h2 h3
 refine⟨?_,.inr ?_,?_⟩
 ·obtain⟨x,hx⟩:=Nat.dvd_of_mod_eq_zero (afq (c:=c) hf)
  obtain⟨y,hy⟩:=Nat.dvd_of_mod_eq_zero (afq (c:=d) hf)
  rw[hx,hy,show 2^15*x*(2^15*y)=2^30*(x*y) by rw[show(2:Nat)^30=2^15*2^15 from rfl];ac_rfl,Nat.mul_mod_right]
 ·have:=Nat.mul_le_mul s1 t1
  rw[← Nat.pow_add] at this
  exact Nat.le_trans (by decide) this
 ·have:=Nat.mul_lt_mul'' s2 t2
  rw[← Nat.pow_add] at this;exact this
theorem afr:Cm 0:=⟨rfl,.inl rfl,two_pow_pos 256⟩
theorem at_num {f c:Nat} (hf:f<4) (h0:0<c) (h1:c<inf f):unSig f c*2^128*2^(unExp f c+40000).toNat=val f c*2^(255-fU f+40000:Int).toNat:=by
 have hv:=JF hf h0 h1
 have hr:=un_exp hf h1
 obtain⟨n1,n2,n3,n4,n5,n6,n7,n8,n9⟩:=fmtN hf
 have hU:fU f≤16500:=by unfold fU;omega
 generalize unExp f c=e at *
 generalize unSig f c=x at *
 generalize val f c=C at *
 apply Nat.eq_of_mul_eq_mul_right (two_pow_pos (127-e-fU f:Int).toNat)
 rw[Nat.mul_right_comm C,← hv,Nat.mul_assoc x,Nat.mul_assoc x,Nat.mul_assoc x,← Nat.pow_add,← Nat.pow_add,← Nat.pow_add]
 congr 2
 omega
theorem aqh {f c d:Nat} (hf:f<4) (h0:0<c) (h1:c<inf f) (h2:0<d) (h3:d<inf f) :
  unSig f c*unSig f d*2^(unExp f c+unExp f d+1+40000).toNat=val f c*val f d*2^(255-fU f-fU f+40000:Int).toNat:=by
 have hv:=JF hf h0 h1
 have hw:=JF hf h2 h3
 have hr:=un_exp hf h1
 have hr2:=un_exp hf h3
 obtain⟨n1,n2,n3,n4,n5,n6,n7,n8,n9⟩:=fmtN hf
 have hU:fU f≤16500:=by unfold fU;omega
 generalize unExp f c=e at *
 generalize unSig f c=x at *
 generalize val f c=C at *
 generalize unExp f d=g at *
 generalize unSig f d=y at *
 generalize val f d=D at *
 apply Nat.eq_of_mul_eq_mul_right (Nat.mul_pos (two_pow_pos (127-e-fU f:Int).toNat) (two_pow_pos (127-g-fU f:Int).toNat))
 rw[show C*D*2^(255-fU f-fU f+40000:Int).toNat*(2^(127-e-fU f:Int).toNat*2^(127-g-fU f:Int).toNat)=C*2^(127-e-fU f:Int).toNat*(D*2^(127-g-fU f:Int).toNat)*2^(255-fU f-fU f+40000:Int).toNat by ac_rfl,← hv,← hw]
 rw[show x*2^(e-127+fU f:Int).toNat*(y*2^(g-127+fU f:Int).toNat)*2^(255-fU f-fU f+40000:Int).toNat=x*y*(2^(e-127+fU f:Int).toNat*2^(g-127+fU f:Int).toNat*2^(255-fU f-fU f+40000:Int).toNat) by ac_rfl]
 rw[show x*y*2^(e+g+1+40000).toNat*(2^(127-e-fU f:Int).toNat*2^(127-g-fU f:Int).toNat)=x*y*(2^(e+g+1+40000).toNat*2^(127-e-fU f:Int).toNat*2^(127-g-fU f:Int).toNat) by ac_rfl]
 rw[← Nat.pow_add,← Nat.pow_add,← Nat.pow_add,← Nat.pow_add]
 congr 2
 omega
theorem afs {f m:Nat} {after neg:Bool} {V:Nat} (hf:f<4):roundE (fP f) (fE f) m after neg (-40000) (V*2^(255-fU f+40000:Int).toNat)=roundC (fP f) (fE f) m after neg V 1:=by
 obtain⟨n1,n2,n3,n4,n5,n6,n7,n8,n9⟩:=fmtN hf
 apply QZ n1 (by decide)
 have hU:fU f=fE f+fP f-2:=rfl
 rw[Nat.mul_one,Nat.mul_assoc,← Nat.pow_add]
 congr 2
 omega
theorem aqi {f m:Nat} {after neg:Bool} {V:Nat} (hf:f<4):roundE (fP f) (fE f) m after neg (-40000) (V*2^(255-fU f-fU f+40000:Int).toNat)=roundC (fP f) (fE f) m after neg V (2^fU f):=by
 obtain⟨n1,n2,n3,n4,n5,n6,n7,n8,n9⟩:=fmtN hf
 apply QZ n1 (two_pow_pos _)
 have hU:fU f=fE f+fP f-2:=rfl
 rw[Nat.mul_assoc,Nat.mul_assoc,← Nat.pow_add,← Nat.pow_add]
 congr 2
 omega
def sgV (s t:Bool) (A B:Nat):Nat:=if s=t then A+B else if A<B then B-A else A-B
def sgS (s t:Bool) (A B:Nat):Bool:=if s=t then s else if A<B then t else s
def LB (m:Nat) (s t:Bool) (A B:Nat):Bool:=if sgV s t A B=0 then(if s=t then s else decide (m=3)) else sgS s t A B
def resT (s t:Bool) (ea:Int) (sa:Nat) (eb:Int) (sb:Nat):Int×Nat :=
 if s=t then sumT ea sa eb sb else if cmpT ea sa eb sb<0 then difT eb sb ea sa else difT ea sa eb sb
def resS (s t:Bool) (ea:Int) (sa:Nat) (eb:Int) (sb:Nat):Bool:=if s=t then s else if cmpT ea sa eb sb<0 then t else s
theorem aft {p emax m:Nat} {after neg:Bool} {e:Int} {s:Nat} (hp:2≤p) (h:roundE p emax m after neg e s=(0,0)):s=0:=by
 unfold roundE at h
 have hD:=two_pow_pos (255+2-e-emax-p:Int).toNat
 obtain⟨c,hc,hv⟩:=aoB hp hD (by rw[h])
 have h2:=roundC_exact (m:=m) (after:=after) (neg:=neg) hp hD hc hv
 rw[h] at h2
 have hc0:c=0:=(congrArg Prod.fst h2).symm
 rw[hc0,cval_zero,Nat.zero_mul] at hv
 rcases Nat.mul_eq_zero.1 hv with h|h
 ·exact h
 ·have:=two_pow_pos (e-255+emax+p-2:Int).toNat;omega
theorem aqj {p emax m:Nat} {after neg:Bool} {e e2:Int} {s s2:Nat} (hp:2≤p) (h:roundE p emax m after neg e s=roundE p emax m after neg e2 s2):s=0↔s2=0:=by
 constructor
 ·intro h0;rw[h0,O6] at h;exact aft hp h.symm
 ·intro h0;rw[h0,O6] at h;exact aft hp h
theorem aqk {p emax m:Nat} {after neg:Bool} {ea eb:Int} {sa sb A B k:Nat} (hp:2≤p) (hp2:p≤240) (ha:Cm sa) (hb:Cm sb) (hLa : -40000≤ea) (hLb : -40000≤eb)
  (hA:sa*2^(ea+40000).toNat=A*2^k) (hB:sb*2^(eb+40000).toNat=B*2^k) (s t:Bool) :
  roundE p emax m after neg (resT s t ea sa eb sb).1 (resT s t ea sa eb sb).2=roundE p emax m after neg (-40000) (sgV s t A B*2^k)∧resS s t ea sa eb sb=sgS s t A B:=by
 have e1:(ea - -40000).toNat=(ea+40000).toNat:=by congr 1
 have e2:(eb - -40000).toNat=(eb+40000).toNat:=by congr 1
 have hc:=cmpT_lt (ea:=ea) (eb:=eb) (L := -40000) (sa:=sa) (sb:=sb) hLa hLb
 rw[e1,e2,hA,hB,show(A*2^k<B*2^k)↔A<B from Nat.mul_lt_mul_right (two_pow_pos k)] at hc
 unfold resT resS sgV sgS
 by_cases hst:s=t
 ·rw[if_pos hst,if_pos hst,if_pos hst,if_pos hst]
  refine⟨?_,rfl⟩
  rw[aqc hp hp2 ha hb hLa hLb,e1,e2,hA,hB,Nat.add_mul]
 ·rw[if_neg hst,if_neg hst,if_neg hst,if_neg hst]
  by_cases hl:A<B
  ·rw[if_pos (hc.2 hl),if_pos (hc.2 hl),if_pos hl,if_pos hl]
   refine⟨?_,rfl⟩
   rw[afp hp hp2 hb ha hLb hLa (by rw[e1,e2,hA,hB];exact Nat.mul_le_mul_right _ (Nat.le_of_lt hl)),e1,e2,hA,hB,Nat.sub_mul]
  ·rw[if_neg (fun h=>hl (hc.1 h)),if_neg (fun h=>hl (hc.1 h)),if_neg hl,if_neg hl]
   refine⟨?_,rfl⟩
   rw[afp hp hp2 ha hb hLa hLb (by rw[e1,e2,hA,hB];exact Nat.mul_le_mul_right _ (by omega)),e1,e2,hA,hB,Nat.sub_mul]
theorem afu {p emax m:Nat} {after:Bool} {ea eb:Int} {sa sb A B k:Nat} (hp:2≤p) (hp2:p≤240) (ha:Cm sa) (hb:Cm sb) (hLa : -40000≤ea) (hLb : -40000≤eb)
  (hA:sa*2^(ea+40000).toNat=A*2^k) (hB:sb*2^(eb+40000).toNat=B*2^k) (s t:Bool) :
  (if (resT s t ea sa eb sb).2=0 then(if s=t then s else decide (m=3)) else resS s t ea sa eb sb)=LB m s t A B ∧
  roundE p emax m after (LB m s t A B) (resT s t ea sa eb sb).1 (resT s t ea sa eb sb).2=roundE p emax m after (LB m s t A B) (-40000) (sgV s t A B*2^k):=by
 obtain⟨h1,h2⟩:=aqk (emax:=emax) (m:=m) (after:=after) (neg:=LB m s t A B) hp hp2 ha hb hLa hLb hA hB s t
 refine⟨?_,h1⟩
 have hz:=aqj hp h1
 have hz2:sgV s t A B*2^k=0↔sgV s t A B=0:=by
  have:=two_pow_pos k
  constructor
  ·intro h
   rcases Nat.mul_eq_zero.1 h with h|h
   ·exact h
   ·omega
  ·intro h;rw[h,Nat.zero_mul]
 rw[h2]
 unfold LB
 by_cases h:sgV s t A B=0
 ·rw[if_pos h,if_pos (hz.2 (hz2.2 h))]
 ·rw[if_neg h,if_neg (fun h3=>h (hz2.1 (hz.1 h3)))]
def tmE (f c:Nat):Int:=if c=0 then 0 else unExp f c
def tmS (f c:Nat):Nat:=if c=0 then 0 else unSig f c*2^128
def tpE (f c d:Nat):Int:=if c=0∨d=0 then 0 else unExp f c+unExp f d+1
def tpS (f c d:Nat):Nat:=if c=0∨d=0 then 0 else unSig f c*unSig f d
theorem aql {f:Nat} (hf:f<4):fU f≤16500:=by
 obtain⟨n1,n2,n3,n4,n5,n6,n7,n8,n9⟩:=fmtN hf
 unfold fU;omega
theorem UG {f c:Nat} (hf:f<4) (hc:c<inf f):Cm (tmS f c) ∧ -40000≤tmE f c∧tmS f c*2^(tmE f c+40000).toNat=val f c*2^(255-fU f+40000:Int).toNat:=by
 unfold tmS tmE
 by_cases h:c=0
 ·rw[if_pos h,if_pos h,h]
  refine⟨afr,by omega,?_⟩
  unfold val
  rw[cval_zero,Nat.zero_mul,Nat.zero_mul]
 ·rw[if_neg h,if_neg h]
  have:=un_exp hf hc
  exact⟨aqf hf (by omega) hc,by omega,at_num hf (by omega) hc⟩
theorem aqm {f c d:Nat} (hf:f<4) (hc:c<inf f) (hd:d<inf f):Cm (tpS f c d) ∧ -40000≤tpE f c d∧tpS f c d*2^(tpE f c d+40000).toNat=val f c*val f d*2^(255-fU f-fU f+40000:Int).toNat:=by
 unfold tpS tpE
 by_cases h:c=0∨d=0
 ·rw[if_pos h,if_pos h]
  refine⟨afr,by omega,?_⟩
  have:val f c*val f d=0:=by
   unfold val
   rcases h with h|h<;>rw[h,cval_zero]
   ·rw[Nat.zero_mul]
   ·rw[Nat.mul_zero]
  rw[this,Nat.zero_mul,Nat.zero_mul]
 ·rw[if_neg h,if_neg h]
  have:=un_exp hf hc
  have:=un_exp hf hd
  exact⟨aqg hf (by omega) hc (by omega) hd,by omega,aqh hf (by omega) hc (by omega) hd⟩
theorem aqn {f c:Nat} (hf:f<4) (hc:c<inf f):tmS f c*2^(tmE f c+40000).toNat=val f c*2^fU f*2^(255-fU f-fU f+40000:Int).toNat:=by
 rw[(UG hf hc).2.2,Nat.mul_assoc,← Nat.pow_add]
 have:=aql hf
 congr 2
 omega
def addN (f m:Nat) (s t:Bool) (c d:Nat):Bool:=LB m s t (val f c) (val f d)
def addC (f m:Nat) (after s t:Bool) (c d:Nat):Nat×Nat:=roundC (fP f) (fE f) m after (addN f m s t c d) (sgV s t (val f c) (val f d)) 1
def fmaN (f m:Nat) (s t:Bool) (c d e:Nat):Bool:=LB m s t (val f c*val f d) (val f e*2^fU f)
def fmaC (f m:Nat) (after s t:Bool) (c d e:Nat):Nat×Nat:=roundC (fP f) (fE f) m after (fmaN f m s t c d e) (sgV s t (val f c*val f d) (val f e*2^fU f)) (2^fU f)
theorem afv {f:Nat} (hf:f<4):fP f≤240:=by have:=ZF hf;omega
theorem add_res {f m c d:Nat} {after:Bool} (hf:f<4) (hc:c<inf f) (hd:d<inf f) (s t:Bool) :
  (if (resT s t (tmE f c) (tmS f c) (tmE f d) (tmS f d)).2=0 then(if s=t then s else decide (m=3)) else resS s t (tmE f c) (tmS f c) (tmE f d) (tmS f d))=addN f m s t c d ∧
  roundE (fP f) (fE f) m after (addN f m s t c d) (resT s t (tmE f c) (tmS f c) (tmE f d) (tmS f d)).1 (resT s t (tmE f c) (tmS f c) (tmE f d) (tmS f d)).2=addC f m after s t c d:=by
 obtain⟨a1,a2,a3⟩:=UG hf hc
 obtain⟨b1,b2,b3⟩:=UG hf hd
 obtain⟨h1,h2⟩:=afu (emax:=fE f) (m:=m) (after:=after) (fP_ge hf) (afv hf) a1 b1 a2 b2 a3 b3 s t
 exact⟨h1,h2.trans (afs hf)⟩
theorem fma_res {f m c d e:Nat} {after:Bool} (hf:f<4) (hc:c<inf f) (hd:d<inf f) (he:e<inf f) (s t:Bool) :
  (if (resT s t (tpE f c d) (tpS f c d) (tmE f e) (tmS f e)).2=0 then(if s=t then s else decide (m=3)) else resS s t (tpE f c d) (tpS f c d) (tmE f e) (tmS f e))=fmaN f m s t c d e ∧
  roundE (fP f) (fE f) m after (fmaN f m s t c d e) (resT s t (tpE f c d) (tpS f c d) (tmE f e) (tmS f e)).1 (resT s t (tpE f c d) (tpS f c d) (tmE f e) (tmS f e)).2=fmaC f m after s t c d e:=by
 obtain⟨a1,a2,a3⟩:=aqm hf hc hd
 obtain⟨b1,b2,b3⟩:=UG hf he
 obtain⟨h1,h2⟩:=afu (emax:=fE f) (m:=m) (after:=after) (fP_ge hf) (afv hf) a1 b1 a2 b2 a3 (aqn hf he) s t
 exact⟨h1,h2.trans (aqi hf)⟩
theorem aqo {f c:Nat} (hf:f<4) (h0:0<c) (h1:c<inf f):unExp f c+fU f-(fP f-1:Nat)≤yg (fP f) c:=by
 obtain⟨n1,n2,n3,n4,n5,n6,n7,n8,n9⟩:=fmtN hf
 unfold unExp fU
 by_cases h:c<2^(fP f-1)
 ·rw[if_pos h,(aeh h).1]
  have:=Uf.2 h
  omega
 ·rw[if_neg h]
  have:=(aei h).1
  omega
def rtN (f c:Nat):Nat:=jamR (sqN f c)*2^(sqX f c+155-255+fE f+fP f-2).toNat
def rtD (f c:Nat):Nat:=2^(255+2-(sqX f c+155)-fE f-fP f).toNat
theorem sqrtC_eq (f m:Nat) (after:Bool) (c:Nat):sqrtC f m after c=roundC (fP f) (fE f) m after false (rtN f c) (rtD f c):=rfl
def remT (A B:Nat):Bool:=decide (B<2*(A%B))||(decide (2*(A%B)=B)&&decide (A/B%2=1))
def remV (A B:Nat):Nat:=if remT A B=true then B-A%B else A%B
theorem afw {A B:Nat} (hB:0<B):2*remV A B≤B:=by
 have:=Nat.mod_lt A hB
 unfold remV
 by_cases h:remT A B=true
 ·rw[if_pos h]
  unfold remT at h
  simp only[Bool.or_eq_true,Bool.and_eq_true,decide_eq_true_iff] at h
  omega
 ·rw[if_neg h]
  unfold remT at h
  simp only[Bool.or_eq_true,Bool.and_eq_true,decide_eq_true_iff] at h
  omega
theorem rem_small {A B:Nat} (h:2*A<B):remT A B=false∧remV A B=A:=by
 have e:A%B=A:=Nat.mod_eq_of_lt (by omega)
 have ht:remT A B=false:=by
  unfold remT
  rw[e,decide_eq_false (by omega),decide_eq_false (by omega)];rfl
 refine⟨ht,?_⟩
 unfold remV
 rw[ht,if_neg (by decide),e]
theorem remV_scale {A B k:Nat} (hk:0<k):remV (A*k) (B*k)=remV A B*k∧remT (A*k) (B*k)=remT A B:=by
 have h1:A*k%(B*k)=A%B*k:=Nat.mul_mod_mul_right k A B
 have h2:A*k/(B*k)=A/B:=Nat.mul_div_mul_right A B hk
 have ht:remT (A*k) (B*k)=remT A B:=by
  unfold remT
  rw[h1,h2]
  have e1:(B*k<2*(A%B*k))↔B<2*(A%B):=by rw[← Nat.mul_assoc];exact Nat.mul_lt_mul_right hk
  have e2:(2*(A%B*k)=B*k)↔2*(A%B)=B:=by
   rw[← Nat.mul_assoc];exact Nat.mul_left_inj (by omega)
  rw[decide_eq_decide.2 e1,decide_eq_decide.2 e2]
 refine⟨?_,ht⟩
 unfold remV
 rw[ht,h1]
 by_cases h:remT A B=true
 ·rw[if_pos h,if_pos h,Nat.sub_mul]
 ·rw[if_neg h,if_neg h]
theorem aqp {f c d:Nat} (hf:f<4) (c1:c<inf f) (d0:0<d) (d1:d<inf f):∃ e,e<inf f∧val f e=remV (val f c) (val f d):=by
 have hp:=fP_ge hf
 obtain⟨qc,lc,_⟩:=Zz hp c
 obtain⟨qd,ld,_⟩:=Zz hp d
 have dpos:0<val f d:=ad5 hp d0
 have hh:=afw (A:=val f c) dpos
 have hfin:=aoE hf d1
 by_cases h:yg (fP f) d≤yg (fP f) c
 ·obtain⟨j,hj⟩:∃ j,yg (fP f) c=yg (fP f) d+j:=⟨yg (fP f) c-yg (fP f) d,by omega⟩
  have eA:val f c=cq (fP f) c*2^j*2^yg (fP f) d:=by unfold val yB;rw[hj,Nat.pow_add,Nat.mul_assoc,Nat.mul_comm (2^j)]
  have eB:val f d=cq (fP f) d*2^yg (fP f) d:=rfl
  have hs:=(remV_scale (A:=cq (fP f) c*2^j) (B:=cq (fP f) d) (two_pow_pos (yg (fP f) d))).1
  rw[← eA,← eB] at hs
  have hq:remV (cq (fP f) c*2^j) (cq (fP f) d)<2^fP f:=by
   have:=afw (A:=cq (fP f) c*2^j) (B:=cq (fP f) d) (by
    apply Nat.pos_of_ne_zero;intro h0
    rw[eB,h0,Nat.zero_mul] at dpos;omega)
   omega
  obtain⟨e,he,hv⟩:=aec hf (k:=yg (fP f) d) hq (by rw[← hs];omega)
  exact⟨e,he,by rw[hv,hs]⟩
 ·obtain⟨j,hj⟩:∃ j,yg (fP f) d=yg (fP f) c+(j+1):=⟨yg (fP f) d-yg (fP f) c-1,by omega⟩
  have eB:val f d=cq (fP f) d*2^(j+1)*2^yg (fP f) c:=by unfold val yB;rw[hj,Nat.pow_add,Nat.mul_assoc,Nat.mul_comm (2^(j+1))]
  have eA:val f c=cq (fP f) c*2^yg (fP f) c:=rfl
  have hs:=(remV_scale (A:=cq (fP f) c) (B:=cq (fP f) d*2^(j+1)) (two_pow_pos (yg (fP f) c))).1
  rw[← eA,← eB] at hs
  have hge:=ld (by omega)
  have hlt:cq (fP f) c<cq (fP f) d*2^(j+1):=by
   have h1:=half_pow hp
   have h2:2^(fP f-1)*2≤cq (fP f) d*2^(j+1):=Nat.mul_le_mul hge (by rw[Nat.pow_succ];have:=two_pow_pos j;omega)
   omega
  have hq:remV (cq (fP f) c) (cq (fP f) d*2^(j+1))<2^fP f:=by
   have e1:cq (fP f) c%(cq (fP f) d*2^(j+1))=cq (fP f) c:=Nat.mod_eq_of_lt hlt
   have e2:cq (fP f) c/(cq (fP f) d*2^(j+1))=0:=Nat.div_eq_of_lt hlt
   unfold remV remT
   rw[e1,e2]
   generalize cq (fP f) d*2^(j+1)=Y at *
   split
   ·rename_i ht
    simp only[Bool.or_eq_true,Bool.and_eq_true,decide_eq_true_iff] at ht
    omega
   ·omega
  obtain⟨e,he,hv⟩:=aec hf (k:=yg (fP f) c) hq (by rw[← hs];omega)
  exact⟨e,he,by rw[hv,hs]⟩
def remC (f c d:Nat):Nat:=(roundC (fP f) (fE f) 4 false false (remV (val f c) (val f d)) 1).1
theorem remC_val {f c d:Nat} (hf:f<4) (c1:c<inf f) (d0:0<d) (d1:d<inf f):remC f c d<inf f∧val f (remC f c d)=remV (val f c) (val f d)∧∀ after neg,roundC (fP f) (fE f) 4 after neg (remV (val f c) (val f d)) 1=(remC f c d,0):=by
 obtain⟨e,he,hv⟩:=aqp hf c1 d0 d1
 have h:∀ after neg,roundC (fP f) (fE f) 4 after neg (remV (val f c) (val f d)) 1=(e,0):=fun after neg=>roundC_exact (fP_ge hf) (by decide) he (by rw[Nat.mul_one];exact hv.symm)
 have e2:remC f c d=e:=by unfold remC;rw[h]
 rw[e2]
 exact⟨he,hv,h⟩
theorem rest_pow {x y r n:Nat} {odd:Bool} (hy:0<y) (h:(r,odd)=if y≤x then(x-y,true) else(x,false)) (hx:x<2*y) :
  r<y∧(x%y=r∧decide (x/y%2=1)=odd)∧r*2^(n+1)%y=x*2^(n+1)%y∧(r*2^(n+1)/y)%2=(x*2^(n+1)/y)%2:=by
 by_cases hle:y≤x
 ·rw[if_pos hle] at h
  obtain⟨rfl,rfl⟩:r=x-y∧odd=true:=⟨congrArg Prod.fst h,congrArg Prod.snd h⟩
  have e:x=(x-y)+y:=by omega
  have m1:x%y=x-y:=by
   conv=>lhs;rw[e]
   rw[Nat.add_mod_right,Nat.mod_eq_of_lt (by omega)]
  have d1:x/y=1:=Nat.div_eq_of_lt_le (by omega) (by omega)
  have e2:x*2^(n+1)=(x-y)*2^(n+1)+y*(2*2^n):=by
   conv=>lhs;rw[e]
   rw[Nat.add_mul,Nat.pow_succ,Nat.mul_comm (2^n) 2]
  refine⟨by omega,⟨m1,by rw[d1];rfl⟩,?_,?_⟩
  ·rw[e2,Nat.add_mul_mod_self_left]
  ·rw[e2,Nat.add_mul_div_left _ _ hy];omega
 ·rw[if_neg hle] at h
  obtain⟨rfl,rfl⟩:r=x∧odd=false:=⟨congrArg Prod.fst h,congrArg Prod.snd h⟩
  exact⟨by omega,⟨Nat.mod_eq_of_lt (by omega),by rw[Nat.div_eq_of_lt (by omega)];rfl⟩,rfl,rfl⟩
theorem rem_at {f c d:Nat} (hf:f<4) (c0:0<c) (c1:c<inf f) (d0:0<d) (d1:d<inf f) {k l:Nat} (hk:(unExp f c:Int)+40000=k) (hl:(unExp f d:Int)+40000=l) :
  remV (unSig f c*2^k) (unSig f d*2^l)*2^128=remV (val f c) (val f d)*2^(255-fU f+40000:Int).toNat∧remT (unSig f c*2^k) (unSig f d*2^l)=remT (val f c) (val f d):=by
 have ha:=at_num hf c0 c1
 have hb:=at_num hf d0 d1
 rw[show(unExp f c+40000).toNat=k by omega,Nat.mul_right_comm] at ha
 rw[show(unExp f d+40000).toNat=l by omega,Nat.mul_right_comm] at hb
 obtain⟨s1,s2⟩:=remV_scale (A:=unSig f c*2^k) (B:=unSig f d*2^l) (two_pow_pos 128)
 obtain⟨t1,t2⟩:=remV_scale (A:=val f c) (B:=val f d) (two_pow_pos (255-fU f+40000:Int).toNat)
 rw[ha,hb] at s1 s2
 exact⟨s1.symm.trans t1,s2.symm.trans t2⟩
theorem rem_round {f c d S m:Nat} {neg after:Bool} {e:Int} (hf:f<4) (c0:0<c) (c1:c<inf f) (d0:0<d) (d1:d<inf f) (he : -40000≤e)
  (hS:S*2^(e+40000).toNat=remV (unSig f c*2^(unExp f c+40000).toNat) (unSig f d*2^(unExp f d+40000).toNat)) :
  roundE (fP f) (fE f) 4 after neg (e+128) S=(remC f c d,0):=by
 have h1:=un_exp hf c1
 have h2:=un_exp hf d1
 obtain⟨s1,s2⟩:=rem_at hf c0 c1 d0 d1 (k:=(unExp f c+40000).toNat) (l:=(unExp f d+40000).toNat) (by omega) (by omega)
 have hr:roundE (fP f) (fE f) 4 after neg (e+128) S=roundE (fP f) (fE f) 4 after neg (-40000) (remV (val f c) (val f d)*2^(255-fU f+40000:Int).toNat):=by
  rw[J3 (e:=e+128) (L := -40000) (fP_ge hf) (by omega),← s1,← hS,Nat.mul_assoc S,← Nat.pow_add]
  congr 3
  omega
 rw[hr,afs hf]
 exact(remC_val hf c1 d0 d1).2.2 _ _
end Go.Proofs.YtemomocmfggiaaaGreatDoor.FP
namespace Go.Proofs.YtemomocmfggiaaaGreatDoor
open Go.RowKit
def xM (x y:Nat):Bool:=decide (x=y)&&(decide (x=3)||decide (x=0))
def IJ (f m:Nat) (after neg:Bool) (c d:Nat):Nat×Nat :=
 if FP.clsC f c=3 then(FP.inf f,0) else if FP.clsC f d=3∨FP.clsC f c=0 then(0,0) else if FP.clsC f d=0 then(FP.inf f,2) else FP.divC f m after neg c d
def FI (f m:Nat) (after:Bool) (a b:Nat):Nat×Nat :=
 if 4≤uZ f a then(xz f a,Bv f a b) else if 4≤uZ f b then(xz f b,Bv f a b)
 else if xM (uZ f a) (uZ f b)=true then(dfl f,1)
 else(FP.mk f (FP.sgn f a != FP.sgn f b) (IJ f m after (FP.sgn f a != FP.sgn f b) (FP.cod f a) (FP.cod f b)).1,(IJ f m after (FP.sgn f a != FP.sgn f b) (FP.cod f a) (FP.cod f b)).2)
open Go.RowKit
def FJ (f a b:Nat):Bool:=decide (uZ f a=3)&&(decide (uZ f b=3)&&(FP.sgn f a != FP.sgn f b))
def Cn (f m:Nat) (after:Bool) (a b:Nat):Nat×Nat :=
 if 4≤uZ f a then(xz f a,Bv f a b) else if 4≤uZ f b then(xz f b,Bv f a b)
 else if FJ f a b=true then(dfl f,1)
 else if uZ f a=3 then(FP.mk f (FP.sgn f a) (FP.inf f),0)
 else if uZ f b=3 then(FP.mk f (FP.sgn f b) (FP.inf f),0)
 else(FP.mk f (FP.addN f m (FP.sgn f a) (FP.sgn f b) (FP.cod f a) (FP.cod f b)) (FP.addC f m after (FP.sgn f a) (FP.sgn f b) (FP.cod f a) (FP.cod f b)).1,(FP.addC f m after (FP.sgn f a) (FP.sgn f b) (FP.cod f a) (FP.cod f b)).2)
def GK (f a b:Nat):Bool:=decide (uZ f a=3)||decide (uZ f b=3)
def IK (f a b c:Nat):Bool:=zt (uZ f a) (uZ f b)||(GK f a b&&(decide (uZ f c=3)&&((FP.sgn f a != FP.sgn f b) != FP.sgn f c)))
def GL (f a b c:Nat):Nat:=if zt (uZ f a) (uZ f b)=true∨uZ f a=5∨uZ f b=5∨uZ f c=5 then 1 else 0
def O7 (f m a b c:Nat):Bool:=if GK f a b=true then(FP.sgn f a != FP.sgn f b) else if uZ f c=3 then FP.sgn f c else FP.fmaN f m (FP.sgn f a != FP.sgn f b) (FP.sgn f c) (FP.cod f a) (FP.cod f b) (FP.cod f c)
def GM (f m:Nat) (after:Bool) (a b c:Nat):Nat×Nat:=if GK f a b=true then(FP.inf f,0) else if uZ f c=3 then(FP.inf f,0) else FP.fmaC f m after (FP.sgn f a != FP.sgn f b) (FP.sgn f c) (FP.cod f a) (FP.cod f b) (FP.cod f c)
def C9 (f m:Nat) (after:Bool) (a b c:Nat):Nat×Nat :=
 if 4≤uZ f a then(xz f a,GL f a b c) else if 4≤uZ f b then(xz f b,GL f a b c) else if 4≤uZ f c then(xz f c,GL f a b c)
 else if IK f a b c=true then(dfl f,1)
 else(FP.mk f (O7 f m a b c) (GM f m after a b c).1,(GM f m after a b c).2)
theorem aqr {f:Nat} (m:Nat) (after:Bool) {a b c:Nat} (ha:¬ 4≤uZ f a) (hb:¬ 4≤uZ f b) (hc:¬ 4≤uZ f c) :
  C9 f m after a b c=if IK f a b c=true then(dfl f,1) else(FP.mk f (O7 f m a b c) (GM f m after a b c).1,(GM f m after a b c).2):=by
 unfold C9;rw[if_neg ha,if_neg hb,if_neg hc]
theorem aqs (f a b c:Nat):GL f a b c≤1:=by unfold GL;split<;>omega
theorem aqt {f b:Nat} (hf:f<4) (h:4≤uZ f b):xz f b<vF∧4≤uZ f (xz f b)∧uZ f (xz f b)≠5:=by
 have hcl:=FP.cod_lt f b
 have hn:FP.inf f<FP.cod f b:=by rw[UC hf] at h;exact FP.clsC_nan.1 h
 obtain⟨i1,i2,i3,i4⟩:=EN hf
 have htop:=FP.inf_top hf
 have hq:EO f (FP.cod f b)<2^(FP.fW f-1)∧FP.inf f+2^(FP.fP f-2)≤EO f (FP.cod f b):=by
  obtain⟨q4,q5⟩:=Ls (c:=FP.cod f b) hf
  unfold EO
  by_cases h5:FP.clsC f (FP.cod f b)=5
  ·rw[if_pos h5]
   have:=q5.1 h5
   omega
  ·rw[if_neg h5]
   refine⟨hcl,?_⟩
   apply Nat.le_of_not_lt;intro hlt
   exact h5 (q5.2 ⟨hn,hlt⟩)
 unfold xz
 have hc:=Ru hf (FP.sgn f b) hq.1
 have h4:FP.clsC f (EO f (FP.cod f b))=4:=(Ls hf).1.2 hq.2
 rw[hc,h4]
 exact⟨apl hf _ hq.1,Nat.le_refl _,by omega⟩
theorem aal {f a b:Nat} (h:FJ f a b=true):uZ f a=3∧uZ f b=3:=by
 unfold FJ at h
 simp only[Bool.and_eq_true,decide_eq_true_iff] at h
 exact⟨h.1,h.2.1⟩
theorem aqu (f a b:Nat):Bv f a b≤1:=by unfold Bv;split<;>omega
end Go.Proofs.YtemomocmfggiaaaGreatDoor
