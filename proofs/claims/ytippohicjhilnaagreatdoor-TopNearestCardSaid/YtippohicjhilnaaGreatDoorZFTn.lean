set_option linter.unusedSimpArgs false
set_option linter.unusedVariables false
namespace Go.Proofs.YtippohicjhilnaaGreatDoor.FP
def aCK (m:Nat) (neg odd:Bool) (r:Nat):Bool:=match m with
 | 0=>Nat.beq r 3||(Nat.beq r 2&&odd)
 | 1=>Nat.ble 2 r
 | 2 => !neg
 | 3=>neg
 | _=>false
def aeW (N D:Nat):Nat:=if N%D=0 then 0 else if 2*(N%D)<D then 1 else if 2*(N%D)=D then 2 else 3
def aDP (n:Nat):Bool:=Nat.beq (n%2) 1
def upN (m:Nat) (neg:Bool) (N D:Nat):Bool := !(Nat.beq (aeW N D) 0)&&aCK m neg (aDP (N/D)) (aeW N D)
def aex (m:Nat) (neg:Bool) (N D:Nat):Nat:=N/D+(upN m neg N D).toNat
theorem aqk {m:Nat} {neg odd:Bool} {r r':Nat} (h:r<=r') (h3:r'<=3) (hn:aCK m neg odd r=true):aCK m neg odd r'=true:=by
 unfold aCK at *
 split at hn<;>simp_all
 ·rcases hn with hn|⟨hn,ho⟩
  ·left;omega
  ·rcases(show r'=2\/r'=3 by omega) with h|h
   ·right;exact⟨h,ho⟩
   ·left;exact h
 ·omega
theorem aDp (N D:Nat):aeW N D<=3:=by unfold aeW;split<;>(try split)<;>(try split)<;>omega
theorem aql {N1 D1 N2 D2:Nat} (h1:0<D1) (h2:0<D2) (h:N1%D1*D2<=N2%D2*D1):aeW N1 D1<=aeW N2 D2:=by
 have l1:=Nat.mod_lt N1 h1;have l2:=Nat.mod_lt N2 h2;unfold aeW;generalize N1%D1=r1 at *
 generalize N2%D2=r2 at *
 by_cases e1:r1=0
 ·rw[if_pos e1];exact Nat.zero_le _
 rw[if_neg e1]
 have e2:r2≠0:=by intro e;subst e;rw[Nat.zero_mul] at h;have:=Nat.mul_pos (Nat.pos_of_ne_zero e1) h2;omega
 rw[if_neg e2];by_cases a1:2*r1<D1
 ·rw[if_pos a1];split<;>(try split)<;>omega
 rw[if_neg a1];have k:D1*D2<=2*r1*D2:=Nat.mul_le_mul_right _ (by omega);have k2:2*r1*D2<=2*r2*D1:=by rw[Nat.mul_assoc,Nat.mul_assoc];omega
 have b2:¬ 2*r2<D2:=by intro hlt;have:2*r2*D1<D2*D1:=Nat.mul_lt_mul_of_pos_right hlt h1;rw[Nat.mul_comm D2 D1] at this;omega
 rw[if_neg b2];by_cases a2:2*r1=D1
 ·rw[if_pos a2];split<;>omega
 rw[if_neg a2];have k3:D1*D2<2*r1*D2:=Nat.mul_lt_mul_of_pos_right (by omega) h2
 have b3:2*r2≠D2:=by intro he;rw[he,Nat.mul_comm D2 D1] at k2;omega
 rw[if_neg b3];exact Nat.le_refl _
theorem ahn {N1 D1 N2 D2:Nat} (h1:0<D1) (h2:0<D2) (h:N1*D2<=N2*D1):N1/D1<=N2/D2/\(N1/D1=N2/D2->N1%D1*D2<=N2%D2*D1):=by
 have e1:=Nat.div_add_mod N1 D1;have e2:=Nat.div_add_mod N2 D2;have l1:=Nat.mod_lt N1 h1;have l2:=Nat.mod_lt N2 h2;generalize N1/D1=q1 at *
 generalize N2/D2=q2 at *
 generalize N1%D1=r1 at *
 generalize N2%D2=r2 at *
 subst e1;subst e2;have x1:(D1*q1+r1)*D2=q1*(D1*D2)+r1*D2:=by rw[Nat.add_mul,Nat.mul_comm D1 q1,Nat.mul_assoc]
 have x2:(D2*q2+r2)*D1=q2*(D1*D2)+r2*D1:=by rw[Nat.add_mul,Nat.mul_comm D2 q2,Nat.mul_assoc,Nat.mul_comm D2 D1]
 rw[x1,x2] at h;constructor
 ·apply Nat.le_of_not_lt;intro hlt;have y1:(q2+1)*(D1*D2)<=q1*(D1*D2):=Nat.mul_le_mul_right _ hlt;have y2:r2*D1<D2*D1:=Nat.mul_lt_mul_of_pos_right l2 h1;rw[Nat.add_mul,Nat.one_mul] at y1;rw[Nat.mul_comm D2 D1] at y2;omega
 ·rintro rfl;omega
theorem PK (m:Nat) (neg:Bool) (N D:Nat):N/D<=aex m neg N D/\aex m neg N D<=N/D+1:=by unfold aex;cases upN m neg N D<;>simp
theorem aqm {m:Nat} {neg:Bool} {N1 D1 N2 D2:Nat} (hq:N1/D1=N2/D2) (hr:aeW N1 D1<=aeW N2 D2) (h:upN m neg N1 D1=true):upN m neg N2 D2=true:=by
 unfold upN at *
 rw[Bool.and_eq_true] at h ⊢;obtain⟨ha,hb⟩:=h;rw[hq] at hb;refine⟨?_,aqk hr (aDp _ _) hb⟩;have ha':aeW N1 D1≠0:=by intro e;rw[e] at ha;simp at ha
 have hb':aeW N2 D2≠0:=by omega
 cases h:Nat.beq (aeW N2 D2) 0 with
 | true=>exact absurd (Nat.eq_of_beq_eq_true h) hb'
 | false=>rfl
theorem Un {m:Nat} {neg:Bool} {N1 D1 N2 D2:Nat} (h1:0<D1) (h2:0<D2) (h:N1*D2<=N2*D1):aex m neg N1 D1<=aex m neg N2 D2:=by
 obtain⟨hq,hr⟩:=ahn h1 h2 h;by_cases e:N1/D1=N2/D2
 ·have hm:=aql h1 h2 (hr e);unfold aex;rw[e]
  cases hu:upN m neg N1 D1 with
  | false=>simp
  | true=>rw[aqm e hm hu];exact Nat.le_refl _
 ·have a:=(PK m neg N1 D1).2;have b:=(PK m neg N2 D2).1;omega
theorem aho (m:Nat) (neg:Bool) {k D:Nat} (h:0<D):aex m neg (k*D) D=k:=by
 have hr:aeW (k*D) D=0:=by unfold aeW;rw[if_pos (Nat.mul_mod_left k D)]
 unfold aex upN;rw[hr,Nat.mul_div_cancel _ h];simp
def xL (p N D:Nat):Nat:=Nat.log2 (N/D)-(p-1)
def afg (p m:Nat) (neg:Bool) (N D:Nat):Nat:=xL p N D*2^(p-1)+aex m neg N (D*2^xL p N D)
def Ev (p c:Nat):Nat:=c/2^(p-1)-1
def cq (p c:Nat):Nat:=c-Ev p c*2^(p-1)
def xq (p c:Nat):Nat:=cq p c*2^Ev p c
theorem log2_lt {n k:Nat} (hn:n≠0):Nat.log2 n<k↔n<2^k:=Nat.log2_lt hn
theorem agP {n:Nat} (hn:n≠0):2^Nat.log2 n<=n/\n<2^(Nat.log2 n+1):=⟨Nat.log2_self_le hn,(Nat.log2_lt hn).1 (Nat.lt_succ_self _)⟩
theorem two_pow_pos (n:Nat):0<2^n:=Nat.pow_pos (by decide)
theorem axu {p:Nat} (hp:2<=p):2^p=2*2^(p-1):=by
 have:p=(p-1)+1:=by omega
 rw[this,Nat.pow_succ];simp;omega
theorem abF {p N D:Nat} (hp:2<=p):N/(D*2^xL p N D)<2^p/\(xL p N D≠0->2^(p-1)<=N/(D*2^xL p N D)):=by
 rw[<- Nat.div_div_eq_div_mul];unfold xL;generalize N/D=n;by_cases hn:n=0
 ·subst hn;simp[two_pow_pos]
 obtain⟨h1,h2⟩:=agP hn;generalize Nat.log2 n=k at *
 constructor
 ·rw[Nat.div_lt_iff_lt_mul (two_pow_pos _),<- Nat.pow_add];exact Nat.lt_of_lt_of_le h2 (Nat.pow_le_pow_right (by decide) (by omega))
 ·intro hk;rw[Nat.le_div_iff_mul_le (two_pow_pos _),<- Nat.pow_add];exact Nat.le_trans (Nat.pow_le_pow_right (by decide) (by omega)) h1
theorem aqn {p N1 D1 N2 D2:Nat} (h1:0<D1) (h2:0<D2) (h:N1*D2<=N2*D1):xL p N1 D1<=xL p N2 D2:=by
 have hq:=(ahn h1 h2 h).1;unfold xL;by_cases e:N1/D1=0
 ·rw[e];simp
 ·have e2:N2/D2≠0:=λh0=>e (by rw[h0] at hq;exact Nat.le_zero.1 hq)
  have:Nat.log2 (N1/D1)<=Nat.log2 (N2/D2):=by rw[<- Nat.not_lt];intro hlt;have:=(agP e2).2;have a:=(agP e).1;have b:2^(Nat.log2 (N2/D2)+1)<=2^Nat.log2 (N1/D1):=Nat.pow_le_pow_right (by decide) hlt;omega
  omega
theorem aqo {N1 D1 N2 D2:Nat} (s:Nat) (h:N1*D2<=N2*D1):N1*(D2*s)<=N2*(D1*s):=by rw[<- Nat.mul_assoc,<- Nat.mul_assoc];exact Nat.mul_le_mul_right _ h
theorem ahp {p m:Nat} {neg:Bool} {N1 D1 N2 D2:Nat} (hp:2<=p) (h1:0<D1) (h2:0<D2) (h:N1*D2<=N2*D1):afg p m neg N1 D1<=afg p m neg N2 D2:=by
 have hs:=aqn (p:=p) h1 h2 h;obtain⟨a1,b1⟩:=abF (p:=p) (N:=N1) (D:=D1) hp;obtain⟨a2,b2⟩:=abF (p:=p) (N:=N2) (D:=D2) hp;unfold afg;by_cases e:xL p N1 D1=xL p N2 D2
 ·rw[e];exact Nat.add_le_add_left (Un (Nat.mul_pos h1 (two_pow_pos _)) (Nat.mul_pos h2 (two_pow_pos _)) (aqo _ h)) _
 ·have c1:=(PK m neg N1 (D1*2^xL p N1 D1)).2;have c2:=(PK m neg N2 (D2*2^xL p N2 D2)).1;have d2:=b2 (by omega);have hh:=axu hp;generalize xL p N1 D1=s1 at *
  generalize xL p N2 D2=s2 at *
  have:(s1+1)*2^(p-1)<=s2*2^(p-1):=Nat.mul_le_mul_right _ (by omega);rw[Nat.add_mul,Nat.one_mul] at this;omega
theorem aqp {p m:Nat} {neg:Bool} {N1 D1 N2 D2:Nat} (hp:2<=p) (h1:0<D1) (h2:0<D2) (h:N1*D2=N2*D1):afg p m neg N1 D1=afg p m neg N2 D2 :=
 Nat.le_antisymm (ahp hp h1 h2 (by omega)) (ahp hp h2 h1 (by omega))
theorem aqr {p:Nat} (hp:2<=p) (c:Nat):cq p c<2^p/\(Ev p c≠0->2^(p-1)<=cq p c)/\c=Ev p c*2^(p-1)+cq p c:=by
 unfold cq Ev;have hh:=axu hp;have hH:=two_pow_pos (p-1);have e:=Nat.div_add_mod c (2^(p-1));have l:=Nat.mod_lt c hH;generalize 2^(p-1)=H at *
 generalize c/H=k at *
 generalize c%H=r at *
 subst e;rcases Nat.eq_zero_or_pos k with rfl|hk
 ·simp;omega
 ·obtain⟨j,rfl⟩:∃ j,k=j+1:=⟨k-1,by omega⟩;simp only[Nat.add_sub_cancel];have:H*(j+1)=j*H+H:=by rw[Nat.mul_add,Nat.mul_one,Nat.mul_comm]
  rw[this];omega
theorem abG {p s q:Nat} (hp:2<=p) (h1:q<=2^p) (h2:s≠0->2^(p-1)<=q):xq p (s*2^(p-1)+q)=q*2^s:=by
 unfold xq cq Ev;have hh:=axu hp;have hH:=two_pow_pos (p-1);generalize 2^(p-1)=H at *
 rcases Nat.lt_or_ge q H with hq|hq
 ·have:s=0:=by apply Classical.byContradiction;intro hs;have:=h2 hs;omega
  subst this;rw[Nat.zero_mul,Nat.zero_add,Nat.div_eq_of_lt hq];simp
 ·rcases Nat.lt_or_ge q (2*H) with hq2|hq2
  ·have e:(s*H+q)/H=s+1:=by obtain⟨r,rfl⟩:∃ r,q=H+r:=⟨q-H,by omega⟩;rw[show s*H+(H+r)=r+(s+1)*H by rw[Nat.add_mul];omega,Nat.add_mul_div_right _ _ hH,Nat.div_eq_of_lt (by omega)];omega
   rw[e];simp
  ·have hq3:q=2*H:=by omega
   subst hq3;have e:(s*H+2*H)/H=s+2:=by rw[<- Nat.add_mul,Nat.mul_div_cancel _ hH]
   rw[e,show s+2-1=s+1 by omega,show s*H+2*H-(s+1)*H=H by rw[Nat.add_mul];omega,Nat.pow_succ];rw[Nat.mul_comm 2 H,Nat.mul_assoc,Nat.mul_comm (2^s) 2]
theorem aqs {p:Nat} (hp:2<=p) (c:Nat):xq p (c+1)=xq p c+2^Ev p c:=by
 obtain⟨h1,h2,h3⟩:=aqr hp c;have:c+1=Ev p c*2^(p-1)+(cq p c+1):=by omega
 rw[this,abG hp (by omega) (λh=>by have:=h2 h;omega),Nat.add_mul,Nat.one_mul];rfl
theorem abH {p:Nat} (hp:2<=p) (c:Nat):xq p c<xq p (c+1):=by rw[aqs hp];have:=two_pow_pos (Ev p c);omega
theorem WS {p:Nat} (hp:2<=p) {a b:Nat} (h:a<b):xq p a<xq p b:=by
 obtain⟨k,rfl⟩:∃ k,b=a+1+k:=⟨b-a-1,by omega⟩
 induction k with
 | zero=>exact abH hp a
 | succ k ih=>exact Nat.lt_trans (ih (by omega)) (abH hp _)
theorem PL {p:Nat} (hp:2<=p) {a b:Nat} : xq p a<=xq p b↔a<=b:=by
 constructor
 ·intro h;apply Nat.le_of_not_lt;intro hlt;have:=WS hp hlt;omega
 ·intro h;rcases Nat.eq_or_lt_of_le h with rfl|h
  ·exact Nat.le_refl _
  ·exact Nat.le_of_lt (WS hp h)
theorem ahq {p:Nat} (hp:2<=p) {a b:Nat} (h:xq p a=xq p b):a=b :=
 Nat.le_antisymm ((PL hp).1 (by omega)) ((PL hp).1 (by omega))
theorem amR (p:Nat):xq p 0=0:=by unfold xq cq Ev;simp
theorem aqt {p:Nat} (hp:2<=p) {c:Nat} (h:0<c):0<xq p c:=by have:=WS hp h;rw[amR] at this;exact this
def zy (p N D:Nat):Nat:=xL p N D*2^(p-1)+N/(D*2^xL p N D)
theorem abI (p m:Nat) (neg:Bool) (N D:Nat):afg p m neg N D=zy p N D+(upN m neg N (D*2^xL p N D)).toNat:=by unfold afg zy aex;omega
theorem abJ {p N D:Nat} (hp:2<=p):xq p (zy p N D)=N/(D*2^xL p N D)*2^xL p N D/\xq p (zy p N D+1)=(N/(D*2^xL p N D)+1)*2^xL p N D:=by obtain⟨a,b⟩:=abF (p:=p) (N:=N) (D:=D) hp;unfold zy;refine⟨abG hp (by omega) b,?_⟩;rw[Nat.add_assoc];exact abG hp (by omega) (λh=>by have:=b h;omega)
theorem aqu {p N D:Nat} (hp:2<=p) (hD:0<D):xq p (zy p N D)*D<=N/\N<xq p (zy p N D+1)*D:=by
 obtain⟨h1,h2⟩:=abJ (p:=p) (N:=N) (D:=D) hp;rw[h1,h2];generalize hE:D*2^xL p N D=E;have hE0:0<E:=by rw[<- hE];exact Nat.mul_pos hD (two_pow_pos _)
 have e1:∀ q,q*2^xL p N D*D=q*E:=λq=>by rw[<- hE,Nat.mul_assoc,Nat.mul_comm (2^_) D]
 rw[e1,e1];exact⟨Nat.div_mul_le_self N E,by rw[Nat.mul_comm];exact Nat.lt_mul_div_succ N hE0⟩
theorem aqv {p N D c:Nat} (hp:2<=p) (hD:0<D) (h1:xq p c*D<=N) (h2:N<xq p (c+1)*D):zy p N D=c:=by
 obtain⟨h3,h4⟩:=aqu (p:=p) (N:=N) hp hD;apply Nat.le_antisymm
 ·apply Nat.le_of_not_lt;intro hlt;have:xq p (c+1)*D<=xq p (zy p N D)*D:=Nat.mul_le_mul_right _ ((PL hp).2 hlt);omega
 ·apply Nat.le_of_not_lt;intro hlt;have:xq p (zy p N D+1)*D<=xq p c*D:=Nat.mul_le_mul_right _ ((PL hp).2 hlt);omega
def Iz (p N D:Nat):Prop:=N%(D*2^xL p N D)=0
theorem WT {p N D:Nat} (hp:2<=p) (hD:0<D):Iz p N D↔N=xq p (zy p N D)*D:=by unfold Iz;rw[(abJ hp).1,Nat.mul_assoc,Nat.mul_comm (2^_) D];generalize D*2^xL p N D=E;have:=Nat.div_add_mod N E;rw[Nat.mul_comm E] at this;omega
theorem WU {p N D c:Nat} (hp:2<=p) (hD:0<D) (h:N=xq p c*D):Iz p N D/\zy p N D=c:=by have:zy p N D=c:=aqv hp hD (by omega) (by rw[h];exact Nat.mul_lt_mul_of_pos_right (abH hp c) hD);exact⟨(WT hp hD).2 (by rw[this];exact h),this⟩
theorem aqw {m:Nat} {neg:Bool} {N E:Nat} (h:N%E=0):upN m neg N E=false:=by unfold upN aeW;rw[if_pos h];rfl
theorem abK {p m:Nat} {neg:Bool} {N D c:Nat} (hp:2<=p) (hD:0<D) (h:N=xq p c*D):afg p m neg N D=c:=by obtain⟨h1,h2⟩:=WU hp hD h;rw[abI,h2,aqw h1];rfl
theorem aqx {p N1 D1 N2 D2:Nat} (hp:2<=p) (h1:0<D1) (h2:0<D2) (h:N1*D2=N2*D1):Iz p N1 D1↔Iz p N2 D2:=by
 have key:∀ {N1 D1 N2 D2:Nat},0<D1->0<D2->N1*D2=N2*D1->Iz p N1 D1->Iz p N2 D2:=by
  intro N1 D1 N2 D2 h1 h2 h e;have:=(WT hp h1).1 e;refine(WU hp h2 (c:=zy p N1 D1) ?_).1;apply Nat.eq_of_mul_eq_mul_right h1;rw[<- h]
  conv=>lhs;rw[this]
  rw[Nat.mul_assoc,Nat.mul_assoc,Nat.mul_comm D1 D2]
 exact⟨key h1 h2 h,key h2 h1 h.symm⟩
def aCE (p emax:Nat):Nat:=(2*emax+1)*2^(p-1)
def aCQ (p emax m:Nat) (neg:Bool):Nat:=if aCK m neg true 3 then aCE p emax else aCE p emax-1
def G9 (p m:Nat) (after neg:Bool) (N D:Nat):Bool:=if after then decide (aex m neg (2*N) D<2^p) else decide (N<D*2^(p-1))
def acJ (p emax m:Nat) (after neg:Bool) (N D:Nat):Nat×Nat :=
 if aCE p emax<=afg p m neg N D then(aCQ p emax m neg,20)
 else(afg p m neg N D,if N%(D*2^xL p N D)=0 then 0 else if G9 p m after neg N D then 24 else 16)
theorem Uo {m:Nat} {neg:Bool} {N1 D1 N2 D2:Nat} (h1:0<D1) (h2:0<D2) (h:N1*D2=N2*D1):aex m neg N1 D1=aex m neg N2 D2 :=
 Nat.le_antisymm (Un h1 h2 (by omega)) (Un h2 h1 (by omega))
theorem abL {p emax m:Nat} {after neg:Bool} {N1 D1 N2 D2:Nat} (hp:2<=p) (h1:0<D1) (h2:0<D2) (h:N1*D2=N2*D1):acJ p emax m after neg N1 D1=acJ p emax m after neg N2 D2:=by
 unfold acJ;rw[aqp hp h1 h2 h];have he:=aqx hp h1 h2 h;unfold Iz at he
 have ht:G9 p m after neg N1 D1=G9 p m after neg N2 D2:=by
  unfold G9;rw[Uo h1 h2 (show 2*N1*D2=2*N2*D1 by rw[Nat.mul_assoc,h,Nat.mul_assoc])];congr 1
  have key:∀ {N1 D1 N2 D2:Nat},0<D1->0<D2->N1*D2=N2*D1->N1<D1*2^(p-1)->N2<D2*2^(p-1):=by intro N1 D1 N2 D2 h1 h2 h hlt;apply Nat.lt_of_mul_lt_mul_right (a:=D1);rw[<- h];have:=Nat.mul_lt_mul_of_pos_right hlt h2;rw[show D2*2^(p-1)*D1=D1*2^(p-1)*D2 by rw[Nat.mul_comm D2,Nat.mul_assoc,Nat.mul_comm D2 D1,<- Nat.mul_assoc,Nat.mul_comm (2^_) D1]];exact this
  rw[decide_eq_decide];exact⟨key h1 h2 h,key h2 h1 h.symm⟩
 rw[ht];by_cases e:N1%(D1*2^xL p N1 D1)=0
 ·rw[if_pos e,if_pos (he.1 e)]
 ·rw[if_neg e,if_neg (λq=>e (he.2 q))]
theorem abM (p emax:Nat):0<aCE p emax:=Nat.mul_pos (by omega) (two_pow_pos _)
theorem aDI (p emax m:Nat) (a neg:Bool) (N D:Nat):(acJ p emax m a neg N D).1<=aCE p emax:=by
 have hi:=abM p emax;unfold acJ aCQ;split
 ·simp only;split<;>omega
 ·simp only;omega
theorem aqy {p emax m:Nat} {after neg:Bool} {N D c:Nat} (hp:2<=p) (hD:0<D) (hc:c<aCE p emax) (h:N=xq p c*D):acJ p emax m after neg N D=(c,0):=by unfold acJ;have he:=(WU hp hD h).1;unfold Iz at he;rw[abK hp hD h,if_neg (by omega),if_pos he]
theorem aqz {p emax m:Nat} {after neg:Bool} {N D:Nat} (hp:2<=p) (hD:0<D) (h:(acJ p emax m after neg N D).2=0):∃ c,c<aCE p emax/\N=xq p c*D:=by
 unfold acJ at h;split at h
 ·cases h
 ·rename_i hc;simp only at h;split at h
  ·rename_i he;refine⟨zy p N D,?_,(WT hp hD).1 he⟩;rw[abI] at hc;omega
  ·split at h<;>cases h
theorem ak1 (p emax m:Nat) (after neg:Bool) (N D:Nat):(acJ p emax m after neg N D).2=0\/(acJ p emax m after neg N D).2=16\/(acJ p emax m after neg N D).2=20\/(acJ p emax m after neg N D).2=24:=by
 unfold acJ;split
 ·simp
 ·simp only;split
  ·simp
  ·split<;>simp
theorem aCu (p emax m:Nat) (after neg:Bool) (D:Nat):acJ p emax m after neg 0 D=(0,0):=by
 have hi:=abM p emax
 have:afg p m neg 0 D=0:=by unfold afg xL aex upN aeW;simp
 unfold acJ;rw[this,if_neg (by omega)];simp
theorem aCR {N E:Nat} (hE:0<E):aeW N E=(if 2*N/E%2=0 then 0 else 2)+(if 2*N%E=0 then 0 else 1)/\N/E=2*N/E/2:=by
 have e:=Nat.div_add_mod N E;have l:=Nat.mod_lt N hE;generalize N/E=q at *
 generalize hr:N%E=r at *
 subst e;have h2:2*(E*q+r)=2*r+E*(2*q):=by rw[Nat.mul_add,<- Nat.mul_assoc,Nat.mul_comm 2 E,Nat.mul_assoc];omega
 rw[h2,Nat.add_mul_div_left _ _ hE,Nat.add_mul_mod_self_left (2*r) E (2*q)];unfold aeW;rw[hr];rcases Nat.lt_or_ge (2*r) E with h|h
 ·rw[Nat.div_eq_of_lt h,Nat.mod_eq_of_lt h];refine⟨?_,by omega⟩;rw[if_pos (show(0+2*q)%2=0 by omega)];by_cases h0:r=0
  ·subst h0;simp
  ·rw[if_neg h0,if_pos h,if_neg (by omega)]
 ·have h3:2*r/E=1:=by rw[Nat.div_eq_iff hE];omega
  have h4:2*r%E=2*r-E:=by rw[Nat.mod_eq_sub_mod h,Nat.mod_eq_of_lt (by omega)]
  rw[h3,h4];refine⟨?_,by omega⟩;rw[if_neg (show r≠0 by omega),if_neg (by omega),if_neg (show ¬ (1+2*q)%2=0 by omega)];by_cases h5:2*r=E
  ·rw[if_pos h5,if_pos (by omega)]
  ·rw[if_neg h5,if_neg (by omega)]
theorem grain {N1 E1 N2 E2 G1 G2 k:Nat} (hG1:0<G1) (hG2:0<G2) (hk:0<k) (h1:E1=2*(k*G1)) (h2:E2=2*(k*G2)) (hq:N1/G1=N2/G2) (hz:N1%G1=0↔N2%G2=0) :
  aeW N1 E1=aeW N2 E2/\N1/E1=N2/E2/\(N1%E1=0↔N2%E2=0):=by
 have key:∀ {N G:Nat},0<G->2*N/(2*(k*G))=N/G/k/\(2*N%(2*(k*G))=0↔N%G=0/\N/G%k=0):=by
  intro N G hG;rw[Nat.mul_div_mul_left _ _ (by decide),Nat.mul_mod_mul_left,Nat.mul_comm k G,<- Nat.div_div_eq_div_mul];refine⟨rfl,?_⟩;rw[Nat.mod_mul];constructor
  ·intro h;have a:N%G+G*(N/G%k)=0:=by omega
   have b:G*(N/G%k)=0:=by omega
   rcases Nat.mul_eq_zero.1 b with c|c
   ·omega
   ·exact⟨by omega,c⟩
  ·rintro⟨a,b⟩;rw[a,b];simp
 have p1:0<E1:=by rw[h1];exact Nat.mul_pos (by decide) (Nat.mul_pos hk hG1)
 have p2:0<E2:=by rw[h2];exact Nat.mul_pos (by decide) (Nat.mul_pos hk hG2)
 obtain⟨r1,q1⟩:=aCR (N:=N1) p1;obtain⟨r2,q2⟩:=aCR (N:=N2) p2;obtain⟨a1,b1⟩:=key (N:=N1) hG1;obtain⟨a2,b2⟩:=key (N:=N2) hG2;subst h1;subst h2;have e:2*N1/(2*(k*G1))=2*N2/(2*(k*G2)):=by rw[a1,a2,hq]
 have z:2*N1%(2*(k*G1))=0↔2*N2%(2*(k*G2))=0:=by rw[b1,b2,hz,hq]
 have rr:aeW N1 (2*(k*G1))=aeW N2 (2*(k*G2)):=by
  rw[r1,r2,e];by_cases hh:2*N1%(2*(k*G1))=0
  ·rw[if_pos hh,if_pos (z.1 hh)]
  ·rw[if_neg hh,if_neg (λx=>hh (z.2 x))]
 refine⟨rr,by rw[q1,q2,e],?_⟩
 have rz:∀ N E:Nat,aeW N E=0↔N%E=0:=by
  intro N E;unfold aeW;split
  ·simp[*]
  ·rename_i h;simp only[h,iff_false];split<;>(try split)<;>omega
 rw[<- rz,<- rz,rr]
theorem aDy (N E:Nat):aeW N E=0↔N%E=0:=by
 unfold aeW;split
 ·simp[*]
 ·rename_i h;simp only[h,iff_false];split<;>(try split)<;>omega
theorem abN {m:Nat} {neg:Bool} {N1 E1 N2 E2:Nat} (hr:aeW N1 E1=aeW N2 E2) (hq:N1/E1=N2/E2):aex m neg N1 E1=aex m neg N2 E2:=by unfold aex upN;rw[hr,hq]
def jam (a j:Nat):Nat:=if a%2^j=0 then a/2^j else a/2^j/2*2+1
theorem aCZ (a j:Nat):jam a j/2=a/2^(j+1)/\(jam a j%2=0↔a%2^(j+1)=0):=by
 have h1:a/2^(j+1)=a/2^j/2:=by rw[Nat.pow_succ,Nat.div_div_eq_div_mul]
 have h2:a%2^(j+1)=a%2^j+2^j*(a/2^j%2):=by rw[Nat.pow_succ,Nat.mod_mul]
 have hp:=two_pow_pos j;rw[h1,h2];unfold jam;split
 ·rename_i h;refine⟨rfl,?_⟩;rw[h,Nat.zero_add];constructor
  ·intro e;rw[e];rfl
  ·intro e;rcases Nat.mul_eq_zero.1 e with c|c
   ·omega
   ·exact c
 ·rename_i h;refine⟨by omega,?_⟩;constructor
  ·intro e;omega
  ·intro e;omega
theorem aDa {p j:Nat} (hp:p<=254) (a:Nat) (m:Nat) (neg:Bool) :
  aex m neg (jam a j) (2^(256-p))=aex m neg a (2^(256-p+j))/\(jam a j%2^(256-p)=0↔a%2^(256-p+j)=0):=by
 obtain⟨h1,h2⟩:=aCZ a j
 have e2:(2:Nat)^(256-p)=2*(2^(254-p)*2):=by rw[show 256-p=(254-p)+1+1 by omega,Nat.pow_succ,Nat.pow_succ];omega
 have e1:(2:Nat)^(256-p+j)=2*(2^(254-p)*2^(j+1)):=by rw[show 256-p+j=1+((254-p)+(j+1)) by omega,Nat.pow_add,Nat.pow_add]
 obtain⟨g1,g2,g3⟩:=grain (N1:=jam a j) (N2:=a) (G1:=2) (G2:=2^(j+1)) (k:=2^(254-p)) (by decide) (two_pow_pos _) (two_pow_pos _) e2 e1 h1 h2;exact⟨abN g1 g2,g3⟩
theorem aqA {p k up:Nat} (hp:2<=p) (hp2:p<=254) (h1:2^255<=up) (h2:up<2^256) (m:Nat) (neg:Bool) :
  xL p (up*2^k) (2^(256-p))=k/\afg p m neg (up*2^k) (2^(256-p))=k*2^(p-1)+aex m neg up (2^(256-p)) /\
  (up*2^k%(2^(256-p)*2^k)=0↔up%2^(256-p)=0):=by
 have hd:=two_pow_pos (256-p)
 have lo:2^(k+(p-1))<=up*2^k/2^(256-p):=by rw[Nat.le_div_iff_mul_le hd,<- Nat.pow_add,show k+(p-1)+(256-p)=255+k by omega,Nat.pow_add];exact Nat.mul_le_mul_right _ h1
 have hi:up*2^k/2^(256-p)<2^(k+p):=by rw[Nat.div_lt_iff_lt_mul hd,<- Nat.pow_add,show k+p+(256-p)=256+k by omega,Nat.pow_add];exact Nat.mul_lt_mul_of_pos_right h2 (two_pow_pos _)
 have hs:xL p (up*2^k) (2^(256-p))=k:=by
  unfold xL;have hne:up*2^k/2^(256-p)≠0:=by have:=two_pow_pos (k+(p-1));omega
  have a:=(log2_lt hne).2 hi;have b:¬ Nat.log2 (up*2^k/2^(256-p))<k+(p-1):=λh=>by have:=(log2_lt hne).1 h;omega
  omega
 refine⟨hs,?_,?_⟩
 ·unfold afg;rw[hs];congr 1;exact Uo (Nat.mul_pos hd (two_pow_pos _)) hd (by rw[Nat.mul_assoc,Nat.mul_comm (2^k)])
 ·rw[Nat.mul_mod_mul_right];constructor
  ·intro h;rcases Nat.mul_eq_zero.1 h with c|c
   ·exact c
   ·have:=two_pow_pos k;omega
  ·intro h;rw[h];simp
theorem aCv {p j up:Nat} (hp:2<=p) (hp2:p<=254) (hj:1<=j) (h2:up<2^256) (m:Nat) (neg:Bool) :
  xL p up (2^(256-p+j))=0/\afg p m neg up (2^(256-p+j))=aex m neg up (2^(256-p+j))/\aex m neg up (2^(256-p+j))<=2^(p-1):=by
 have hd:=two_pow_pos (256-p+j)
 have hi:up/2^(256-p+j)<2^(p-1):=by rw[Nat.div_lt_iff_lt_mul hd,<- Nat.pow_add];exact Nat.lt_of_lt_of_le h2 (Nat.pow_le_pow_right (by decide) (by omega))
 have hs:xL p up (2^(256-p+j))=0:=by
  unfold xL;by_cases hne:up/2^(256-p+j)=0
  ·rw[hne];simp
  ·have:=(log2_lt hne).2 hi;omega
 refine⟨hs,?_,?_⟩
 ·unfold afg;rw[hs];simp
 ·have:=(PK m neg up (2^(256-p+j))).2;omega
theorem aDq {p up:Nat} (hp:2<=p) (hp2:p<=254) (h1:2^255<=up) (h2:up<2^256) (m:Nat) (neg:Bool) :
  2^(p-1)<=aex m neg up (2^(256-p))/\aex m neg up (2^(256-p))<=2^p:=by
 have hd:=two_pow_pos (256-p)
 have lo:2^(p-1)<=up/2^(256-p):=by rw[Nat.le_div_iff_mul_le hd,<- Nat.pow_add,show p-1+(256-p)=255 by omega];exact h1
 have hi:up/2^(256-p)<2^p:=by rw[Nat.div_lt_iff_lt_mul hd,<- Nat.pow_add,show p+(256-p)=256 by omega];exact h2
 obtain⟨a,b⟩:=PK m neg up (2^(256-p));omega
def abw (p emax m:Nat) (after neg:Bool) (exp:Int) (sig:Nat):Nat×Nat :=
 acJ p emax m after neg (sig*2^(exp-255+emax+p-2).toNat) (2^(255+2-exp-emax-p).toNat)
def aC4 (p emax m:Nat) (after neg:Bool) (exp:Int) (sig:Nat):Nat×Nat :=
 if sig=0 then(0,0) else
 let sh:Nat:=255-Nat.log2 sig;let up:=sig*2^sh;let ne:Int:=exp-sh;let b:=aex m neg up (2^(256-p));let e:Int:=if b=2^p then ne+1 else ne
 if (emax:Int)<e then(aCQ p emax m neg,20) else
 let tiny:=decide (ne<1-emax)&&(!after||decide (e<1-emax))
 if ne<1-emax then
  let w:=jam up (1-emax-ne).toNat
  (aex m neg w (2^(256-p)),if w%2^(256-p)=0 then 0 else if tiny then 24 else 16)
 else((ne-(1-emax)).toNat*2^(p-1)+b,if up%2^(256-p)=0 then 0 else if tiny then 24 else 16)
theorem aDz {p emax m:Nat} (hp:2<=p) (hp2:p<=254) (he:1<=emax) (after neg:Bool) (exp:Int) {sig:Nat} (hs:sig<2^256) :
  aC4 p emax m after neg exp sig=abw p emax m after neg exp sig:=by
 unfold aC4;split
 ·rename_i h;subst h;unfold abw;rw[Nat.zero_mul,aCu]
 rename_i h0;obtain⟨l1,l2⟩:=agP h0;have l3:Nat.log2 sig<256:=(log2_lt h0).2 hs;simp only;generalize hsh:255-Nat.log2 sig=sh
 have u1:2^255<=sig*2^sh:=by have:=Nat.mul_le_mul_right (2^sh) l1;rw[<- Nat.pow_add,show Nat.log2 sig+sh=255 by omega] at this;exact this
 have u2:sig*2^sh<2^256:=by have:=Nat.mul_lt_mul_of_pos_right l2 (two_pow_pos sh);rw[<- Nat.pow_add,show Nat.log2 sig+1+sh=256 by omega] at this;exact this
 unfold abw
 have hR:∀ k j:Nat,(exp-sh-(1-emax):Int)=k-j ->
   acJ p emax m after neg (sig*2^(exp-255+emax+p-2).toNat) (2^(255+2-exp-emax-p).toNat)=acJ p emax m after neg (sig*2^sh*2^k) (2^(256-p+j)):=by
  intro k j hkj;apply abL hp (two_pow_pos _) (two_pow_pos _);rw[Nat.mul_assoc,Nat.mul_assoc,Nat.mul_assoc,<- Nat.pow_add,<- Nat.pow_add,<- Nat.pow_add];congr 2;omega
 obtain⟨b1,b2⟩:=aDq hp hp2 u1 u2 m neg;have hh:=axu hp;have hH:=two_pow_pos (p-1);generalize sig*2^sh=up at *
 by_cases hlt:exp-sh<1-emax
 ·-- far down
  obtain⟨j,hj⟩:∃ j:Nat,(1-emax-(exp-sh):Int)=j:=⟨(1-emax-(exp-sh)).toNat,by omega⟩;have hj1:1<=j:=by omega
  rw[hR 0 j (by omega),Nat.pow_zero,Nat.mul_one];obtain⟨d1,d2,d3⟩:=aCv hp hp2 hj1 u2 m neg;obtain⟨j1,j2⟩:=aDa (p:=p) (j:=j) hp2 up m neg;rw[if_neg (by split<;>omega),if_pos hlt];rw[hj,Int.toNat_natCast,j1]
  have hinf:aCE p emax>2^(p-1):=by unfold aCE;have:=Nat.mul_le_mul_right (2^(p-1)) (show 3<=2*emax+1 by omega);omega
  unfold acJ;rw[d2,if_neg (show ¬ aCE p emax<=aex m neg up (2^(256-p+j)) by omega),d1,Nat.pow_zero,Nat.mul_one];refine congrArg (Prod.mk _) ?_;by_cases hz:up%2^(256-p+j)=0
  ·rw[if_pos hz,if_pos (j2.2 hz)]
  ·rw[if_neg hz,if_neg (λh=>hz (j2.1 h))];refine congrArg (λt:Bool=>if t then 24 else 16) ?_;rw[decide_eq_true hlt,Bool.true_and];unfold G9
   cases after with
   | false =>
    simp only[Bool.not_false,Bool.true_or,Bool.false_eq_true,if_false];rw[eq_comm,decide_eq_true_iff,<- Nat.pow_add];exact Nat.lt_of_lt_of_le u2 (Nat.pow_le_pow_right (by decide) (by omega))
   | true =>
    simp only[Bool.not_true,Bool.false_or,if_true];rw[eq_comm,decide_eq_decide];by_cases hj2:j=1
    ·subst hj2
     have e1:aex m neg (2*up) (2^(256-p+1))=aex m neg up (2^(256-p)) :=
      Uo (two_pow_pos _) (two_pow_pos _) (by rw[Nat.pow_succ,Nat.mul_comm 2 up,Nat.mul_assoc,Nat.mul_comm 2])
     rw[e1];split<;>omega
    ·have e1:aex m neg (2*up) (2^(256-p+j))=aex m neg up (2^(256-p+(j-1))) :=
      Uo (two_pow_pos _) (two_pow_pos _) (by rw[show 256-p+j=256-p+(j-1)+1 by omega,Nat.pow_succ,Nat.mul_comm 2 up,Nat.mul_assoc,Nat.mul_comm 2])
     have:=(aCv hp hp2 (j:=j-1) (by omega) u2 m neg).2.2;rw[e1];split<;>omega
 ·obtain⟨k,hk⟩:∃ k:Nat,(exp-sh-(1-emax):Int)=k:=⟨(exp-sh-(1-emax)).toNat,by omega⟩;rw[hR k 0 (by omega),Nat.add_zero];obtain⟨d1,d2,d3⟩:=aqA (k:=k) hp hp2 u1 u2 m neg
  have hover:((emax:Int)<if aex m neg up (2^(256-p))=2^p then exp-sh+1 else exp-sh)↔aCE p emax<=k*2^(p-1)+aex m neg up (2^(256-p)):=by
   unfold aCE;generalize aex m neg up (2^(256-p))=b at *
   generalize 2^(p-1)=H at *
   constructor
   ·intro h;split at h
    ·have:=Nat.mul_le_mul_right H (show 2*emax+1<=k+2 by omega);rw[Nat.add_mul k 2] at this;omega
    ·have:=Nat.mul_le_mul_right H (show 2*emax+1<=k+1 by omega);rw[Nat.add_mul k 1] at this;omega
   ·intro h;split
    ·have:2*emax+1<=k+2:=by apply Nat.le_of_mul_le_mul_right _ hH;rw[Nat.add_mul k 2];omega
     omega
    ·have:2*emax+1<k+2:=by apply Nat.lt_of_mul_lt_mul_right (a:=H);rw[Nat.add_mul k 2];omega
     omega
  unfold acJ;rw[d2,d1];by_cases ho:aCE p emax<=k*2^(p-1)+aex m neg up (2^(256-p))
  ·rw[if_pos (hover.2 ho),if_pos ho]
  ·rw[if_neg (λh=>ho (hover.1 h)),if_neg ho,if_neg hlt];rw[hk,Int.toNat_natCast];refine congrArg (Prod.mk _) ?_;by_cases hz:up%2^(256-p)=0
   ·rw[if_pos hz,if_pos (d3.2 hz)]
   ·rw[if_neg hz,if_neg (λh=>hz (d3.1 h))];refine congrArg (λt:Bool=>if t then 24 else 16) ?_;rw[decide_eq_false hlt,Bool.false_and];unfold G9
    cases after with
    | false =>
     simp only[Bool.false_eq_true,if_false];rw[eq_comm,decide_eq_false_iff_not,Nat.not_lt];refine Nat.le_trans ?_ (Nat.le_mul_of_pos_right _ (two_pow_pos k));rw[<- Nat.pow_add,show 256-p+(p-1)=255 by omega];exact u1
    | true =>
     simp only[if_true];rw[eq_comm,decide_eq_false_iff_not,Nat.not_lt];have e0:2^p=aex m neg (2^p*2^(256-p)) (2^(256-p)):=(aho m neg (two_pow_pos _)).symm;rw[e0];apply Un (two_pow_pos _) (two_pow_pos _);apply Nat.mul_le_mul_right;rw[<- Nat.pow_add,show p+(256-p)=255+1 by omega,Nat.pow_succ,Nat.mul_comm _ 2];apply Nat.mul_le_mul_left;exact Nat.le_trans u1 (Nat.le_mul_of_pos_right _ (two_pow_pos k))
def fP (f:Nat):Nat:=match f with|0=>11|1=>24|2=>53|3=>113|_=>0
def fW (f:Nat):Nat:=match f with|0=>16|1=>32|2=>64|3=>128|_=>0
def fE (f:Nat):Nat:=match f with|0=>15|1=>127|2=>1023|3=>16383|_=>0
def inf (f:Nat):Nat:=aCE (fP f) (fE f)
theorem f4 {f:Nat} (h:f<4):f=0\/f=1\/f=2\/f=3:=by omega
theorem aDr {f:Nat} (h:f<4):2<=fP f:=by rcases f4 h with rfl|rfl|rfl|rfl<;>decide
theorem aDH {f:Nat} (h:f<4):fP f<=113:=by rcases f4 h with rfl|rfl|rfl|rfl<;>decide
theorem ahr {f:Nat} (h:f<4):1<=fW f:=by rcases f4 h with rfl|rfl|rfl|rfl<;>decide
theorem aDs {f:Nat} (h:f<4):fW f<=128:=by rcases f4 h with rfl|rfl|rfl|rfl<;>decide
theorem aC5 {f:Nat} (h:f<4):2^(fW f-1)=inf f+2^(fP f-1):=by rcases f4 h with rfl|rfl|rfl|rfl<;>decide
theorem ahs (f:Nat):0<inf f:=abM _ _
def sgn (f b:Nat):Bool:=b.testBit (fW f-1)
def cod (f b:Nat):Nat:=b%2^(fW f-1)
def mk (f:Nat) (neg:Bool) (c:Nat):Nat:=c+neg.toNat*2^(fW f-1)
theorem aCH (f b:Nat):cod f b<2^(fW f-1):=Nat.mod_lt _ (two_pow_pos _)
theorem aDA {f c:Nat} (neg:Bool) (h:c<2^(fW f-1)):cod f (mk f neg c)=c:=by unfold cod mk;rw[Nat.add_mul_mod_self_right,Nat.mod_eq_of_lt h]
theorem aDQ {f c:Nat} (neg:Bool) (h:c<2^(fW f-1)):sgn f (mk f neg c)=neg:=by unfold sgn mk;rw[Nat.testBit_eq_decide_div_mod_eq,Nat.add_mul_div_right _ _ (two_pow_pos _),Nat.div_eq_of_lt h];cases neg<;>rfl
theorem aDR {f:Nat} (h:f<4) (b:Nat):mk f (sgn f b) (cod f b)=b%2^fW f:=by
 unfold mk sgn cod;have e:fW f=(fW f-1)+1:=by have:=ahr h;omega
 conv=>rhs;rw[e,Nat.pow_succ,Nat.mod_mul]
 rw[Nat.testBit_eq_decide_div_mod_eq];congr 1;rw[Nat.mul_comm];congr 1;rcases Nat.mod_two_eq_zero_or_one (b/2^(fW f-1)) with h|h<;>rw[h]<;>rfl
theorem aDS {f c:Nat} (h:f<4) (neg:Bool) (hc:c<2^(fW f-1)):mk f neg c<2^fW f:=by
 have e:fW f=(fW f-1)+1:=by have:=ahr h;omega
 rw[e,Nat.pow_succ];unfold mk;cases neg<;>simp[<- e]<;>omega
def aeV (f c:Nat):Nat:=if c=0 then 0 else if c<2^(fP f-1) then 1 else if c<inf f then 2 else if c=inf f then 3 else if inf f+2^(fP f-2)<=c then 4 else 5
def cls (f b:Nat):Nat:=aeV f (cod f b)
theorem aDj (f c:Nat):aeV f c<=5:=by unfold aeV;repeat' split<;>try omega
theorem aCn {f c:Nat} : aeV f c<3↔c<inf f:=by
 have:=ahs f;unfold aeV;repeat' split
 all_goals simp
 all_goals first|omega|skip
 ·rename_i h1 h2;unfold inf aCE;have:=Nat.mul_le_mul_right (2^(fP f-1)) (show 1<=2*fE f+1 by omega);omega
theorem aqB {f c:Nat} : aeV f c=3↔c=inf f:=by
 have h0:=ahs f
 have h1:2^(fP f-1)<=inf f:=by unfold inf aCE;have:=Nat.mul_le_mul_right (2^(fP f-1)) (show 1<=2*fE f+1 by omega);omega
 unfold aeV;repeat' split
 all_goals simp
 all_goals omega
theorem aDt {f c:Nat} : 4<=aeV f c↔inf f<c:=by have h1:=aCn (f:=f) (c:=c);have h2:=aqB (f:=f) (c:=c);have h3:=aDj f c;omega
def fU (f:Nat):Nat:=fE f+fP f-2
abbrev val (f c:Nat):Nat:=xq (fP f) c
def aD8 (f t m:Nat) (after neg:Bool) (c:Nat):Nat×Nat:=acJ (fP t) (fE t) m after neg (val f c*2^fU t) (2^fU f)
def mulC (f m:Nat) (after neg:Bool) (c d:Nat):Nat×Nat:=acJ (fP f) (fE f) m after neg (val f c*val f d) (2^fU f)
theorem aht {p N D s:Nat} (hp:2<=p) (hD:0<D):xL p N D=s↔N<D*2^(p+s)/\(s≠0->D*2^(p-1+s)<=N):=by
 have key:∀ k,N/D<2^k↔N<D*2^k:=λk=>by rw[Nat.div_lt_iff_lt_mul hD,Nat.mul_comm]
 have key2:∀ k,2^k<=N/D↔D*2^k<=N:=λk=>by rw[Nat.le_div_iff_mul_le hD,Nat.mul_comm]
 rw[<- key,<- key2];unfold xL;generalize N/D=n;by_cases h0:n=0
 ·subst h0;have:=two_pow_pos (p+s);have h2:=two_pow_pos (p-1+s);constructor
  ·intro h;exact⟨this,λhs=>by simp at h;omega⟩
  ·rintro⟨_,h⟩;simp;apply Classical.byContradiction;intro hs;have:=h (λe=>hs (by omega));omega
 ·have a:=log2_lt (k:=p+s) h0;have b:=log2_lt (k:=p-1+s) h0;constructor
  ·intro h
   exact⟨a.1 (by omega),λhs=>by
    apply Nat.le_of_not_lt;intro hlt
    have:=b.2 hlt;omega⟩
  ·rintro⟨h1,h2⟩;have:=a.2 h1;by_cases hs:s=0
   ·subst hs;omega
   ·have h3:=h2 hs;have:¬ n.log2<p-1+s:=λh=>by have:=b.1 h;omega
    omega
theorem ahu {p m:Nat} {after neg:Bool} {N D:Nat} (hp:2<=p) (hD:0<D) (h:D*2^(p-1)<=N):G9 p m after neg N D=false:=by
 unfold G9
 cases after with
 | false=>simp;omega
 | true =>
  simp only[if_true,decide_eq_false_iff_not,Nat.not_lt];rw[<- aho m neg (k:=2^p) hD];apply Un hD hD;apply Nat.mul_le_mul_right;rw[axu hp,Nat.mul_assoc,Nat.mul_comm _ D];omega
theorem ahv {N G k:Nat} (hG:0<G):N<G*k↔N/G<k:=by rw[Nat.div_lt_iff_lt_mul hG,Nat.mul_comm]
theorem aqC {p emax m:Nat} {after neg:Bool} {N1 D1 G1 N2 D2 G2 a b:Nat} (hp:2<=p) (hD1:0<D1) (hD2:0<D2) (hG1:0<G1) (hG2:0<G2) (h1:D1*2^a=G1*2^b) (h2:D2*2^a=G2*2^b)
  (hq:N1/G1=N2/G2) (hz:N1%G1=0↔N2%G2=0) (hbig:2^(p+1)<=N1/G1):acJ p emax m after neg N1 D1=acJ p emax m after neg N2 D2:=by
 have mult:∀ {D G x:Nat},0<D->0<G->D*2^a=G*2^b->a<=b+x->D*2^x=G*2^(b+x-a):=by intro D G x hD hG h hx;apply Nat.eq_of_mul_eq_mul_right (two_pow_pos a);rw[show D*2^x*2^a=D*2^a*2^x by ac_rfl,h,Nat.mul_assoc,Nat.mul_assoc,<- Nat.pow_add,<- Nat.pow_add];congr 2;omega
 have enough:∀ {x:Nat},N1<D1*2^x->a+(p+1)<b+x:=by
  intro x hx;have h3:G1*2^(p+1)<=N1:=by rw[Nat.mul_comm];exact(Nat.le_div_iff_mul_le hG1).1 hbig
  have h4:G1*2^(p+1)<D1*2^x:=by omega
  have h5:G1*2^(p+1)*2^a<D1*2^x*2^a:=Nat.mul_lt_mul_of_pos_right h4 (two_pow_pos a);rw[show D1*2^x*2^a=D1*2^a*2^x by ac_rfl,h1,Nat.mul_assoc,Nat.mul_assoc,<- Nat.pow_add,<- Nat.pow_add] at h5;have h6:=Nat.lt_of_mul_lt_mul_left h5;have:=(Nat.pow_lt_pow_iff_right (by decide:1<2)).1 h6;omega
 have cmp:∀ {x:Nat},a<=b+x->(N1<D1*2^x↔N2<D2*2^x):=by intro x hx;rw[mult hD1 hG1 h1 hx,mult hD2 hG2 h2 hx,ahv hG1,ahv hG2,hq]
 obtain⟨s,hs⟩:∃ s,xL p N1 D1=s:=⟨_,rfl⟩;obtain⟨b1,b2⟩:=(aht hp hD1).1 hs;have en:=enough b1
 have hs2:xL p N2 D2=s:=by rw[aht hp hD2];refine⟨(cmp (by omega)).1 b1,λh=>?_⟩;have:=b2 h;apply Nat.le_of_not_lt;intro hlt;have:=(cmp (x:=p-1+s) (by omega)).2 hlt;omega
 have e1:D1*2^s=2*(2^(b+s-a-1)*G1):=by rw[mult hD1 hG1 h1 (show a<=b+s by omega),show b+s-a=(b+s-a-1)+1 by omega,Nat.pow_succ,show b+s-a-1+1-1=b+s-a-1 by omega];ac_rfl
 have e2:D2*2^s=2*(2^(b+s-a-1)*G2):=by rw[mult hD2 hG2 h2 (show a<=b+s by omega),show b+s-a=(b+s-a-1)+1 by omega,Nat.pow_succ,show b+s-a-1+1-1=b+s-a-1 by omega];ac_rfl
 obtain⟨g1,g2,g3⟩:=grain (k:=2^(b+s-a-1)) hG1 hG2 (two_pow_pos _) e1 e2 hq hz
 have hcode:afg p m neg N1 D1=afg p m neg N2 D2:=by unfold afg;rw[hs,hs2,abN g1 g2]
 unfold acJ;rw[hcode,hs,hs2];by_cases hz1:N1%(D1*2^s)=0
 ·rw[if_pos hz1,if_pos (g3.1 hz1)]
 rw[if_neg hz1,if_neg (λh=>hz1 (g3.2 h))]
 have ht:G9 p m after neg N1 D1=G9 p m after neg N2 D2:=by
  by_cases hlt:N1<D1*2^(p-1)
  ·have en2:=enough hlt;have hlt2:=(cmp (x:=p-1) (by omega)).1 hlt;unfold G9
   cases after with
   | false=>simp only[Bool.false_eq_true,if_false];rw[decide_eq_true hlt,decide_eq_true hlt2]
   | true =>
    simp only[if_true]
    have f1:D1=2*(2*(2^(b-a-2)*G1)):=by have:=mult hD1 hG1 h1 (x:=0) (by omega);rw[Nat.pow_zero,Nat.mul_one,Nat.add_zero,show b-a=(b-a-2)+1+1 by omega,Nat.pow_succ,Nat.pow_succ] at this;rw[this];ac_rfl
    have f2:D2=2*(2*(2^(b-a-2)*G2)):=by have:=mult hD2 hG2 h2 (x:=0) (by omega);rw[Nat.pow_zero,Nat.mul_one,Nat.add_zero,show b-a=(b-a-2)+1+1 by omega,Nat.pow_succ,Nat.pow_succ] at this;rw[this];ac_rfl
    obtain⟨g4,g5,_⟩:=grain (N1:=N1) (N2:=N2) (E1:=2*(2^(b-a-2)*G1)) (E2:=2*(2^(b-a-2)*G2)) hG1 hG2 (two_pow_pos (b-a-2)) rfl rfl hq hz;have r:=abN (m:=m) (neg:=neg) g4 g5;have pos:∀ {G:Nat},0<G->0<2*(2^(b-a-2)*G):=λhG=>Nat.mul_pos (by decide) (Nat.mul_pos (two_pow_pos _) hG)
    have half:∀ {N E:Nat},0<E->aex m neg (2*N) (2*E)=aex m neg N E:=λhE=>Uo (by omega) hE (by ac_rfl)
    rw[f1,f2,half (pos hG1),half (pos hG2),r]
  ·have hlt2:¬ N2<D2*2^(p-1):=λh=>by
    by_cases hx:a<=b+(p-1)
    ·exact hlt ((cmp hx).2 h)
    ·-- then N2 is too small
     have h3:G2*2^(p+1)<=N2:=by rw[Nat.mul_comm];rw[hq] at hbig;exact(Nat.le_div_iff_mul_le hG2).1 hbig
     have h5:G2*2^(p+1)*2^a<D2*2^(p-1)*2^a:=Nat.mul_lt_mul_of_pos_right (by omega) (two_pow_pos a);rw[show D2*2^(p-1)*2^a=D2*2^a*2^(p-1) by ac_rfl,h2,Nat.mul_assoc,Nat.mul_assoc,<- Nat.pow_add,<- Nat.pow_add] at h5;have:=(Nat.pow_lt_pow_iff_right (by decide:1<2)).1 (Nat.lt_of_mul_lt_mul_left h5);omega
   rw[ahu hp hD1 (by omega),ahu hp hD2 (by omega)]
 rw[ht]
def aCy (n:Nat):Nat:=if n=0 then 0 else Nat.log2 n+1
theorem abO {n k:Nat} : aCy n<=k↔n<2^k:=by
 unfold aCy;split
 ·rename_i h;subst h;simp[two_pow_pos]
 ·rename_i h;rw[<- Nat.log2_lt h];omega
theorem aqD {n:Nat} (h:n≠0):2^(aCy n-1)<=n/\n<2^aCy n/\1<=aCy n:=by obtain⟨a,b⟩:=agP h;unfold aCy;rw[if_neg h];exact⟨a,b,by omega⟩
def alc (f c:Nat):Int:=if c<2^(fP f-1) then 1-(fE f:Int)+128-fP f-((128-aCy c:Nat):Int) else((c/2^(fP f-1):Nat):Int)-fE f
def afn (f c:Nat):Nat:=if c<2^(fP f-1) then c*2^(128-aCy c) else(2^(fP f-1)+c%2^(fP f-1))*2^(128-fP f)
theorem axv {f:Nat} (h:f<4):2<=fP f/\fP f<=113/\fP f<fW f/\fW f<=128/\16<=fW f/\1<=fE f/\fE f<=16383/\fW f-fP f<=15/\2*fE f+2=2^(fW f-fP f):=by rcases f4 h with rfl|rfl|rfl|rfl<;>decide
theorem ahw {f c:Nat} (h:c<2^(fP f-1)):Ev (fP f) c=0/\cq (fP f) c=c:=by unfold cq Ev;rw[Nat.div_eq_of_lt h];simp
theorem ahx {f c:Nat} (h:¬ c<2^(fP f-1)):Ev (fP f) c+1=c/2^(fP f-1)/\cq (fP f) c=2^(fP f-1)+c%2^(fP f-1):=by
 have hH:=two_pow_pos (fP f-1);have h1:1<=c/2^(fP f-1):=by rw[Nat.le_div_iff_mul_le hH];omega
 have e:=Nat.div_add_mod c (2^(fP f-1));unfold cq Ev;refine⟨by omega,?_⟩;obtain⟨k,hk⟩:∃ k,c/2^(fP f-1)=k+1:=⟨c/2^(fP f-1)-1,by omega⟩;rw[hk] at e ⊢;rw[Nat.add_sub_cancel,Nat.mul_comm k];rw[Nat.mul_add,Nat.mul_one] at e;omega
theorem Uq {f c:Nat} (hf:f<4) (h0:0<c) (h1:c<inf f):afn f c*2^(alc f c-127+fU f).toNat=val f c*2^(127-alc f c-fU f).toNat:=by
 obtain⟨n1,n2,n3,n4,n5,n6,n7,n8,n9⟩:=axv hf
 have hc128:c<2^128:=by have:=aC5 hf;have h2:2^(fW f-1)<=2^128:=Nat.pow_le_pow_right (by decide) (by omega);have h3:=two_pow_pos (fP f-1);omega
 have hl:=abO.2 hc128;unfold val xq;by_cases hs:c<2^(fP f-1)
 ·obtain⟨e1,e2⟩:=ahw hs;rw[e1,e2];unfold afn alc fU;rw[if_pos hs,if_pos hs,Nat.pow_zero,Nat.mul_one,Nat.mul_assoc,<- Nat.pow_add];congr 2;omega
 ·obtain⟨e1,e2⟩:=ahx hs;rw[e2];unfold afn alc fU;rw[if_neg hs,if_neg hs,Nat.mul_assoc,Nat.mul_assoc,<- Nat.pow_add,<- Nat.pow_add];congr 2;omega
theorem aDb {f c:Nat} (hf:f<4) (h0:0<c) (h1:c<inf f):2^127<=afn f c/\afn f c<2^128:=by
 obtain⟨n1,n2,n3,n4,n5,n6,n7,n8,n9⟩:=axv hf;unfold afn;by_cases hs:c<2^(fP f-1)
 ·rw[if_pos hs];obtain⟨a,b,d⟩:=aqD (show c≠0 by omega);have hl:aCy c<=128:=abO.2 (Nat.lt_of_lt_of_le hs (Nat.pow_le_pow_right (by decide) (by omega)));constructor
  ·have:=Nat.mul_le_mul_right (2^(128-aCy c)) a;rw[<- Nat.pow_add,show aCy c-1+(128-aCy c)=127 by omega] at this;exact this
  ·have:=Nat.mul_lt_mul_of_pos_right b (two_pow_pos (128-aCy c));rw[<- Nat.pow_add,show aCy c+(128-aCy c)=128 by omega] at this;exact this
 ·rw[if_neg hs];have hm:=Nat.mod_lt c (two_pow_pos (fP f-1));constructor
  ·have:=Nat.mul_le_mul_right (2^(128-fP f)) (show 2^(fP f-1)<=2^(fP f-1)+c%2^(fP f-1) by omega);rw[<- Nat.pow_add,show fP f-1+(128-fP f)=127 by omega] at this;exact this
  ·have:=Nat.mul_lt_mul_of_pos_right (show 2^(fP f-1)+c%2^(fP f-1)<2^fP f by rw[axu n1];omega) (two_pow_pos (128-fP f));rw[<- Nat.pow_add,show fP f+(128-fP f)=128 by omega] at this;exact this
theorem aCr {f c:Nat} (hf:f<4) (h1:c<inf f) : -17000<=alc f c/\alc f c<=17000:=by
 obtain⟨n1,n2,n3,n4,n5,n6,n7,n8,n9⟩:=axv hf;unfold alc;split
 ·omega
 ·have:c/2^(fP f-1)<2*fE f+1:=by rw[Nat.div_lt_iff_lt_mul (two_pow_pos _)];exact h1
  generalize c/2^(fP f-1)=k at *
  omega
theorem abP {p emax m:Nat} {after neg:Bool} {exp:Int} {sig N D:Nat} (hp:2<=p) (hD:0<D) (h:sig*2^(exp-255+emax+p-2).toNat*D=N*2^(255+2-exp-emax-p).toNat) :
  abw p emax m after neg exp sig=acJ p emax m after neg N D:=abL hp (two_pow_pos _) hD h
theorem aDJ {f m:Nat} {after neg:Bool} {c d:Nat} (hf:f<4) (h0:0<c) (h1:c<inf f) (h2:0<d) (h3:d<inf f):abw (fP f) (fE f) m after neg (alc f c+alc f d+1) (afn f c*afn f d)=mulC f m after neg c d:=by
 have hv:=Uq hf h0 h1;have hw:=Uq hf h2 h3;have hr:=aCr hf h1;have hr2:=aCr hf h3;obtain⟨n1,n2,n3,n4,n5,n6,n7,n8,n9⟩:=axv hf;unfold mulC;refine abP (by omega) (two_pow_pos _) ?_;generalize alc f c=e at *
 generalize alc f d=g at *
 apply Nat.eq_of_mul_eq_mul_right (Nat.mul_pos (two_pow_pos (e-127+fU f).toNat) (two_pow_pos (g-127+fU f).toNat));rw[show afn f c*afn f d*2^(e+g+1-255+fE f+fP f-2).toNat*2^fU f*(2^(e-127+fU f).toNat*2^(g-127+fU f).toNat)=(afn f c*2^(e-127+fU f).toNat)*(afn f d*2^(g-127+fU f).toNat)*(2^(e+g+1-255+fE f+fP f-2).toNat*2^fU f) by ac_rfl,hv,hw];rw[show val f c*2^(127-e-fU f).toNat*(val f d*2^(127-g-fU f).toNat)*(2^(e+g+1-255+fE f+fP f-2).toNat*2^fU f)=val f c*val f d*(2^(127-e-fU f).toNat*2^(127-g-fU f).toNat*(2^(e+g+1-255+fE f+fP f-2).toNat*2^fU f)) by ac_rfl,show val f c*val f d*2^(255+2-(e+g+1)-fE f-fP f).toNat*(2^(e-127+fU f).toNat*2^(g-127+fU f).toNat)=val f c*val f d*(2^(255+2-(e+g+1)-fE f-fP f).toNat*(2^(e-127+fU f).toNat*2^(g-127+fU f).toNat)) by ac_rfl];rw[<- Nat.pow_add,<- Nat.pow_add,<- Nat.pow_add,<- Nat.pow_add,<- Nat.pow_add];congr 2;unfold fU at *
 omega
end Go.Proofs.YtippohicjhilnaaGreatDoor.FP
