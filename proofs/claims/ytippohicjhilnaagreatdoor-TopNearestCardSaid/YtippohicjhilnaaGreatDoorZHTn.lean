import Derived.Test.YtippohicjhilnaaGreatDoorZBTn
import Derived.Test.YtippohicjhilnaaGreatDoorZDTn
import Derived.Test.YtippohicjhilnaaGreatDoorZGTn
import Derived.Deep.QuietTactic
import Derived.BigQuiet
import Derived.Laws.OwnMore
set_option linter.unusedSimpArgs false
set_option linter.unusedVariables false
set_option maxRecDepth 100000
set_option maxHeartbeats 2000000
open Go.Proofs.Tryz
namespace Go.Proofs.YtippohicjhilnaaGreatDoor
open Go.RowKit
def wo:Nat:=4294967296
theorem Hl:0<wo:=by decide
theorem PZ:wo=2^32:=by decide
theorem AY (k:Nat):0<wo^k:=Nat.pow_pos Hl
def dg (x j:Nat):Nat:=x/wo^j%wo
def dV (x j:Nat):Value:=.int .u32 (Int.ofNat (dg x j))
theorem Ck (x j:Nat):dg x j<wo:=Nat.mod_lt _ Hl
theorem aca (x:Nat):dg x 0=x%wo:=by unfold dg;rw[Nat.pow_zero,Nat.div_one]
theorem dg_succ (x j:Nat):dg x (j+1)=dg (x/wo) j:=by unfold dg;rw[Nat.pow_succ,Nat.mul_comm,Nat.div_div_eq_div_mul]
theorem P5 {x j:Nat} (h:x<wo^j):dg x j=0:=by unfold dg;rw[Nat.div_eq_of_lt h];rfl
theorem arh {x j k:Nat} (h:x<wo^j) (hk:j<=k):dg x k=0:=P5 (Nat.lt_of_lt_of_le h (Nat.pow_le_pow_right Hl hk))
theorem Nq (x k:Nat):x%wo^(k+1)=x%wo^k+wo^k*dg x k:=by unfold dg;rw[Nat.pow_succ,Nat.mod_mul]
def raw (k x:Nat):List Nat:=(List.range k).map (dg x)
def zS (k x:Nat):List Value:=(List.range k).map (dV x)
theorem aig (k x:Nat):(zS k x).length=k:=by simp[zS]
theorem Xr {k x j:Nat} (h:j<k):(zS k x)[j]? = some (dV x j):=by simp[zS,h]
theorem P6 (k x:Nat):zS (k+1) x=zS k x ++ [dV x k]:=by simp[zS,List.range_succ]
theorem aih (f g:Nat->Nat) (h:∀ j,f (j+1)=g j):∀ k,(List.range (k+1)).map f=f 0::(List.range k).map g
 | 0=>rfl
 | k+1=>by rw[List.range_succ,List.map_append,aih f g h k,List.range_succ (n:=k),List.map_append,List.map_singleton,List.map_singleton,h k];rfl
theorem ari (k x:Nat):raw (k+1) x=dg x 0::raw k (x/wo):=aih (dg x) (dg (x/wo)) (dg_succ x) k
theorem acb (f m:Nat):GH (f+1) (m+1)=(m+1)%4294967296::GH f ((m+1)/4294967296):=rfl
theorem aii (m:Nat):(m+1)/4294967296<=m:=Nat.le_of_lt_succ (Nat.div_lt_self (Nat.succ_pos m) (by decide))
theorem aij (f:Nat):GH f 0 = []:=by cases f<;>rfl
theorem aik:∀ (N f g n:Nat),n<=N->n<=f->n<=g->GH f n=GH g n
 | N,f,g,0,_,_,_=>by rw[aij,aij]
 | 0,f,g,m+1,h,_,_=>absurd h (by omega)
 | N+1,0,g,m+1,_,h,_=>absurd h (by omega)
 | N+1,f+1,0,m+1,_,_,h=>absurd h (by omega)
 | N+1,f+1,g+1,m+1,h1,h2,h3=>by have hd:=aii m;rw[acb,acb];generalize (m+1)/4294967296=q at hd ⊢;rw[aik N f g q (by omega) (by omega) (by omega)]
theorem arj (f n:Nat) (h:n<=f):GH f n=GH n n:=aik n f n n (Nat.le_refl _) h (Nat.le_refl _)
theorem ail {n:Nat} (h:0<n):Tw n=n%wo::Tw (n/wo):=by
 cases n with
 | zero=>omega
 | succ m =>
  have hd:=aii m;show GH (m+1) (m+1)=(m+1)%4294967296::GH ((m+1)/4294967296) ((m+1)/4294967296);rw[acb];generalize (m+1)/4294967296=q at hd ⊢;rw[arj m q hd]
theorem ark:wO 0=0:=rfl
theorem Xt {n:Nat} (h:0<n):wO n=wO (n/wo)+1:=by unfold wO;rw[ail h];rfl
theorem arl (n:Nat):Tw n=raw (wO n) n:=by
 induction n using Nat.strongRecOn with
 | _ n ih =>
  rcases Nat.eq_zero_or_pos n with rfl|h
  ·rfl
  ·rw[ail h,Xt h,ari,aca,<- ih _ (Nat.div_lt_self h (by decide))]
theorem aim (n:Nat):Di n=zS (wO n) n:=by unfold Di zS;rw[arl,raw,List.map_map];rfl
theorem Nr {n k:Nat} : n<wo^k↔wO n<=k:=by
 induction k generalizing n with
 | zero =>
  rw[Nat.pow_zero];constructor
  ·intro h;have:n=0:=by omega
   subst this;exact Nat.le_refl _
  ·intro h;rcases Nat.eq_zero_or_pos n with rfl|h1
   ·decide
   ·rw[Xt h1] at h;omega
 | succ k ih =>
  rcases Nat.eq_zero_or_pos n with rfl|h1
  ·rw[ark];exact⟨λ_=>Nat.zero_le _,λ_=>AY _⟩
  ·rw[Xt h1,Nat.add_le_add_iff_right,<- ih,Nat.pow_succ,Nat.div_lt_iff_lt_mul Hl]
theorem Ff (n:Nat):n<wo^wO n:=Nr.2 (Nat.le_refl _)
theorem arn {n k:Nat} (h:k<wO n):wo^k<=n:=by apply Nat.le_of_not_lt;intro h2;have:=Nr.1 h2;omega
theorem aro {n k:Nat} (h:n<wo^(k+1)) (hd:dg n k≠0):wO n=k+1:=by
 have h1:=Nr.1 h;by_cases h2:wO n<=k
 ·exact absurd (P5 (Nr.2 h2)) hd
 ·omega
theorem arp {n k:Nat} (h:n<wo^(k+1)) (hd:dg n k=0):n<wo^k:=by have h1:=Nq n k;rw[hd,Nat.mul_zero,Nat.add_zero,Nat.mod_eq_of_lt h] at h1;rw[h1];exact Nat.mod_lt _ (AY _)
theorem acd {n:Nat} : wO n=0↔n=0:=by
 constructor
 ·intro h;rcases Nat.eq_zero_or_pos n with h1|h1
  ·exact h1
  ·rw[Xt h1] at h;omega
 ·rintro rfl;rfl
def yc (w:World) (v:Value) (k x:Nat):Prop:=Reads w v k (zS k x)
theorem yc.nat {w:World} {v:Value} {n:Nat} (h:Reads w v (wO n) (Di n)):yc w v (wO n) n:=by unfold yc;rw[<- aim];exact h
theorem yc.to {w:World} {v:Value} {n k:Nat} (h:yc w v k n) (hk:k=wO n):Reads w v (wO n) (Di n):=by subst hk;rw[aim];exact h
theorem yc.nil (w:World) (x:Nat):yc w (.slice none 0 0) 0 x:=.inl ⟨rfl,rfl,rfl⟩
theorem yc.pos {w:World} {v:Value} {k x:Nat} (h:yc w v k x) (hk:0<k):∃ b off cap,v = .slice (some ⟨b,off,none⟩) k cap/\b<w.heap.size/\∀ j,j<k->w.cell? ⟨b,off+j,none⟩=some (dV x j):=by
 rcases h with⟨_,h1,_⟩|⟨b,off,cap,h1,h2,h3⟩
 ·omega
 ·exact⟨b,off,cap,h1,h2,λj hj=>h3 j _ (Xr hj)⟩
theorem yc.any {w:World} {v:Value} {k x:Nat} (h:yc w v k x):∃ ad cap,v = .slice ad k cap/\(0<k->∃ b off,ad=some ⟨b,off,none⟩/\b<w.heap.size/\∀ j,j<k->w.cell? ⟨b,off+j,none⟩=some (dV x j)):=by
 rcases h with⟨h0,h1,_⟩|⟨b,off,cap,h1,h2,h3⟩
 ·subst h1;exact⟨none,0,h0,λh=>absurd h (by omega)⟩
 ·exact⟨_,cap,h1,λ_=>⟨b,off,rfl,h2,λj hj=>h3 j _ (Xr hj)⟩⟩
theorem yc.bel {A C:World} {v:Value} {k x:Nat} (h:yc A v k x) (hb:vY A C):yc C v k x :=
 h.same (Below.size hb) λb _ hlt=>Below.block hb b hlt
theorem UC {w:World} {base e:Nat} {v:Value} {k x:Nat} (h:w.ownsRow base e 1 v k (zS k x)):yc w v k x:=by
 rcases h.2 with⟨rfl,rfl⟩|⟨g,cap,cur,rfl,_,hg,_⟩
 ·exact yc.nil _ _
 ·refine .inr ⟨g,0,cap,rfl,(Array.getElem?_eq_some_iff.1 hg).1,λj y hj=>?_⟩;have hlt:j<k:=by have:=(List.getElem?_eq_some_iff.1 hj).1;rwa [aig] at this
  rw[Nat.zero_add,World.ownsRow.cellAt h j (by omega)];exact hj
theorem ace {S k y:Nat} : (S+wo^k*y)/wo^(k+1)=(S/wo^k+y)/wo:=by rw[Nat.pow_succ,<- Nat.div_div_eq_div_mul,Nat.add_mul_div_left _ _ (AY k)]
theorem acf {x S k y:Nat} (h:x%wo^(k+1)=(S+wo^k*y)%wo^(k+1)):(S/wo^k+y)%wo=dg x k:=by unfold dg;rw[<- Nat.mod_mul_right_div_self,<- Nat.pow_succ,h,Nat.pow_succ,Nat.mod_mul_right_div_self,Nat.add_mul_div_left _ _ (AY k)]
def AZ (a b k:Nat):Nat:=(a%wo^k+b%wo^k)/wo^k
theorem ain (a b:Nat):AZ a b 0=0:=by unfold AZ;rw[Nat.pow_zero,Nat.mod_one,Nat.mod_one]
theorem UD (a b k:Nat):AZ a b k<=1:=by
 have h1:=Nat.mod_lt a (AY k);have h2:=Nat.mod_lt b (AY k);have h3:AZ a b k<2:=by unfold AZ;rw[Nat.div_lt_iff_lt_mul (AY k)];omega
 omega
theorem aio (a b k:Nat):a%wo^(k+1)+b%wo^(k+1)=(a%wo^k+b%wo^k)+wo^k*(dg a k+dg b k):=by rw[Nq,Nq,Nat.mul_add];omega
theorem aip (a b k:Nat):(AZ a b k+dg a k+dg b k)/wo=AZ a b (k+1):=by unfold AZ;rw[aio,ace,Nat.add_assoc]
theorem acg (a b k:Nat):(AZ a b k+dg a k+dg b k)%wo=dg (a+b) k:=by unfold AZ;rw[Nat.add_assoc];apply acf;rw[<- aio];exact Nat.add_mod _ _ _
theorem arq {a b k:Nat} (ha:a<wo^k) (hb:b<wo^k):AZ a b k=dg (a+b) k:=by
 have:=acg a b k;rw[P5 ha,P5 hb,Nat.add_zero,Nat.mod_eq_of_lt] at this
 ·exact this
 ·have:=UD a b k;unfold wo;omega
theorem ars {a b:Nat} (h:b<=a) (k:Nat):(dg a k+wo-dg b k-AZ b (a-b) k)%wo=dg (a-b) k/\1-(dg a k+wo-dg b k-AZ b (a-b) k)/wo=AZ b (a-b) (k+1):=by
 have h1:=acg b (a-b) k;have h2:=aip b (a-b) k;have h3:=UD b (a-b) k;have h4:=UD b (a-b) (k+1);rw[show b+(a-b)=a by omega] at h1;have h5:=Ck b k;have h6:=Ck (a-b) k;generalize dg a k=x at *
 generalize dg b k=y at *
 generalize dg (a-b) k=z at *
 generalize AZ b (a-b) k=c at *
 generalize AZ b (a-b) (k+1)=c' at *
 clear h;unfold wo at *
 omega
def Fg (a s k:Nat):Nat:=a%wo^k*s/wo^k
theorem art (a s:Nat):Fg a s 0=0:=by unfold Fg;rw[Nat.pow_zero,Nat.mod_one,Nat.zero_mul]
theorem aiq {s:Nat} (hs:0<s) (a k:Nat):Fg a s k<s:=by unfold Fg;rw[Nat.div_lt_iff_lt_mul (AY k),Nat.mul_comm];exact Nat.mul_lt_mul_of_pos_left (Nat.mod_lt _ (AY k)) hs
theorem air (a s k:Nat):a%wo^(k+1)*s=a%wo^k*s+wo^k*(dg a k*s):=by rw[Nq,Nat.add_mul,Nat.mul_assoc]
theorem aru (a s k:Nat):(Fg a s k+dg a k*s)/wo=Fg a s (k+1):=by unfold Fg;rw[air,ace]
theorem ais (a s k:Nat):(Fg a s k+dg a k*s)%wo=dg (a*s) k:=by unfold Fg;apply acf;rw[<- air];conv => { lhs;rw[Nat.mul_mod] };conv => { rhs;rw[Nat.mul_mod,Nat.mod_mod] }
theorem arv {a s k:Nat} (ha:a<wo^k) (hs:0<s) (hs2:s<=wo):Fg a s k=dg (a*s) k:=by have h:=ais a s k;have h2:=aiq hs a k;rw[P5 ha,Nat.zero_mul,Nat.add_zero,Nat.mod_eq_of_lt (by omega)] at h;exact h
theorem ait (a s q k:Nat):dg (a*(wo^q*s)) (q+k)=dg (a*s) k:=by unfold dg;rw[Nat.pow_add,<- Nat.div_div_eq_div_mul,<- Nat.mul_assoc,Nat.mul_right_comm,Nat.mul_div_cancel _ (AY q)]
theorem arw {a s q j:Nat} (h:j<q):dg (a*(wo^q*s)) j=0:=by unfold dg;rw[show q=j+((q-j-1)+1) by omega,Nat.pow_add,Nat.pow_succ,show a*(wo^j*(wo^(q-j-1)*wo)*s)=wo^j*(a*wo^(q-j-1)*s*wo) by ac_rfl,Nat.mul_div_cancel_left _ (AY j),Nat.mul_mod_left]
theorem arx {s t:Nat} (hs:s*t=wo) (a i:Nat):(dg a i+wo*dg a (i+1))/s%wo=a/wo^i/s%wo:=by
 have h1:dg a i+wo*dg a (i+1)=a/wo^i%(wo*wo):=by unfold dg;rw[Nat.pow_succ,<- Nat.div_div_eq_div_mul,Nat.mod_mul]
 rw[h1];generalize a/wo^i=X;have e:wo*wo=s*(wo*t):=by rw[<- hs];ac_rfl
 rw[e,Nat.mod_mul_right_div_self,Nat.mod_mul_right_mod]
theorem ary (a q s k:Nat):dg (a/(wo^q*s)) k=a/wo^(q+k)/s%wo:=by
 unfold dg;rw[Nat.div_div_eq_div_mul,Nat.div_div_eq_div_mul,Nat.pow_add];congr 2
 ac_rfl
def mX (a b i:Nat):Nat:=a%wo^i*b
def Fh (a b i k:Nat):Nat:=mX a b i%wo^(i+k)+wo^i*(dg a i*(b%wo^k))
def Bu (a b i k:Nat):Nat:=Fh a b i k/wo^(i+k)
theorem arz (a b:Nat):mX a b 0=0:=by unfold mX;rw[Nat.pow_zero,Nat.mod_one,Nat.zero_mul]
theorem arA {a b i:Nat} (h:a<wo^i):mX a b i=a*b:=by unfold mX;rw[Nat.mod_eq_of_lt h]
theorem Xu (a b i:Nat):mX a b (i+1)=mX a b i+wo^i*(dg a i*b):=by unfold mX;rw[Nq,Nat.add_mul,Nat.mul_assoc]
theorem arB (a b i:Nat):Bu a b i 0=0:=by unfold Bu Fh;rw[Nat.pow_zero,Nat.mod_one,Nat.mul_zero,Nat.mul_zero,Nat.add_zero,Nat.add_zero];exact Nat.div_eq_of_lt (Nat.mod_lt _ (AY i))
theorem aiu (a b i k:Nat):Fh a b i (k+1)=Fh a b i k+wo^(i+k)*(dg a i*dg b k+dg (mX a b i) (i+k)):=by unfold Fh;rw[<- Nat.add_assoc i k 1,Nq (mX a b i),Nq b,Nat.pow_add];generalize mX a b i%(wo^i*wo^k)=x;generalize dg (mX a b i) (i+k)=y;generalize wo^i=p;generalize wo^k=q;generalize b%q=z;simp only[Nat.mul_add];rw[show p*(dg a i*(q*dg b k))=p*q*(dg a i*dg b k) by ac_rfl];omega
theorem arC (a b i k:Nat):(Bu a b i k+(dg a i*dg b k+dg (mX a b i) (i+k)))/wo=Bu a b i (k+1):=by unfold Bu;rw[aiu,<- Nat.add_assoc i k 1,ace]
theorem arD (a b i k:Nat):mX a b (i+1)%wo^(i+k)=Fh a b i k%wo^(i+k):=by
 unfold Fh;have h1:=Nat.mod_add_div (mX a b i) (wo^(i+k));have h2:=Nat.mod_add_div b (wo^k)
 have h3:wo^i*(dg a i*b)=wo^i*(dg a i*(b%wo^k))+wo^(i+k)*(dg a i*(b/wo^k)):=by
  conv => { lhs;rw[<- h2] }
  rw[Nat.mul_add (dg a i),Nat.mul_add (wo^i),Nat.pow_add];congr 1
  ac_rfl
 have e:mX a b (i+1)=mX a b i%wo^(i+k)+wo^i*(dg a i*(b%wo^k))+wo^(i+k)*(mX a b i/wo^(i+k)+dg a i*(b/wo^k)):=by rw[Xu,h3,Nat.mul_add (wo^(i+k))];omega
 rw[e,Nat.add_mul_mod_self_left]
theorem arE (a b i k:Nat):(Bu a b i k+(dg a i*dg b k+dg (mX a b i) (i+k)))%wo=dg (mX a b (i+1)) (i+k):=by unfold Bu;apply acf;rw[<- aiu];exact arD a b i (k+1)
theorem arF (a b i k:Nat):Bu a b i k<wo:=by
 unfold Bu;rw[Nat.div_lt_iff_lt_mul (AY _)];unfold Fh;have h1:=Nat.mod_lt (mX a b i) (AY (i+k));have h2:dg a i*(b%wo^k)<=(wo-1)*wo^k:=Nat.mul_le_mul (by have:=Ck a i;omega) (Nat.le_of_lt (Nat.mod_lt _ (AY k)));have h3:=Nat.mul_le_mul_left (wo^i) h2;have e:wo^i*((wo-1)*wo^k)=(wo-1)*wo^(i+k):=by rw[Nat.pow_add];ac_rfl
 have e2:wo*wo^(i+k)=(wo-1)*wo^(i+k)+wo^(i+k):=by rw[<- Nat.succ_mul];rfl
 rw[e] at h3;rw[e2];omega
theorem aiv {a b i k:Nat} (hb:b<wo^k):Bu a b i (k+1)=0:=by
 unfold Bu;apply Nat.div_eq_of_lt;unfold Fh;rw[Nat.mod_eq_of_lt (Nat.lt_of_lt_of_le hb (Nat.pow_le_pow_right Hl (Nat.le_succ k)))];have h1:=Nat.mod_le (mX a b i) (wo^(i+(k+1)))
 have h2:mX a b (i+1)<wo^(i+(k+1)):=by unfold mX;rw[show i+(k+1)=(i+1)+k by omega,Nat.pow_add wo (i+1) k];exact Nat.mul_lt_mul'' (Nat.mod_lt _ (AY _)) hb
 rw[Xu] at h2;omega
theorem arG {a b i k j:Nat} (hb:b<wo^k) (hc:Bu a b i k=0) (hj:i+k<=j):dg (mX a b i) j=dg (mX a b (i+1)) j:=by
 have ht:Fh a b i k<wo^(i+k):=by unfold Bu at hc;have:=Nat.div_add_mod (Fh a b i k) (wo^(i+k));rw[hc,Nat.mul_zero,Nat.zero_add] at this;rw[<- this];exact Nat.mod_lt _ (AY _)
 have h1:=Nat.mod_add_div (mX a b i) (wo^(i+k))
 have e:mX a b (i+1)=Fh a b i k+wo^(i+k)*(mX a b i/wo^(i+k)):=by unfold Fh;rw[Xu,Nat.mod_eq_of_lt hb];omega
 have hq:mX a b (i+1)/wo^(i+k)=mX a b i/wo^(i+k):=by rw[e,Nat.add_mul_div_left _ _ (AY _),Nat.div_eq_of_lt ht,Nat.zero_add]
 unfold dg;rw[show j=(i+k)+(j-(i+k)) by omega,Nat.pow_add,<- Nat.div_div_eq_div_mul,<- Nat.div_div_eq_div_mul,hq]
def zT (a b:Nat):Int:=if a<b then -1 else if b<a then 1 else 0
theorem ach {a b:Nat} (h:a<b):zT a b = -1:=by unfold zT;rw[if_pos h]
theorem aiw {a b:Nat} (h:b<a):zT a b=1:=by unfold zT;rw[if_neg (by omega),if_pos h]
theorem arH (a:Nat):zT a a=0:=by unfold zT;rw[if_neg (Nat.lt_irrefl _),if_neg (Nat.lt_irrefl _)]
theorem Xv (a i:Nat):a/wo^i=wo*(a/wo^(i+1))+dg a i:=by unfold dg;rw[Nat.pow_succ,<- Nat.div_div_eq_div_mul];exact(Nat.div_add_mod _ _).symm
theorem arI {a b p:Nat} (h:a/p<b/p):a<b:=Nat.lt_of_not_le λh2=>by have:=Nat.div_le_div_right (c:=p) h2;omega
theorem aix {a b i:Nat} (h:a/wo^(i+1)=b/wo^(i+1)) (hd:dg a i<dg b i):a<b:=by refine arI (p:=wo^i) ?_;rw[Xv a,Xv b,h];omega
theorem arJ {a b i:Nat} (h:a/wo^(i+1)=b/wo^(i+1)) (hd:dg a i=dg b i):a/wo^i=b/wo^i:=by rw[Xv a,Xv b,h,hd]
theorem aiy {a b:Nat} (h:wO a<wO b):a<b:=Nat.lt_of_lt_of_le (Ff a) (arn h)
theorem arK (a j k:Nat) (hk:k<32):(dg a j).testBit k=a.testBit (32*j+k):=by unfold dg;rw[PZ,Nat.testBit_mod_two_pow,decide_eq_true hk,Bool.true_and,<- Nat.pow_mul,Nat.testBit_div_two_pow,Nat.add_comm]
def DY (w:World) (fvs:List Value) (n:Nat) (e:Ending) (w':World):Prop :=
 ∃ v,e = .returned v/\yc w' v (wO n) n/\(∀ b,yR v=some b->w.heap.size<=b)/\vY w w'
theorem Ga {w:World} {v:Value} {x:Int} (h:MU w .nat x v):yc w v (wO x.toNat) x.toNat:=yc.nat h
theorem Ns {P:Program} {G:wQ} {g:FuncId} {a:List Sh} {l:List Int} {n:Nat} {fn:Func} (hf:P.funcs[g]? = some fn) (hn:(fn.name == "runtime.NumGoroutine")=false) (hb:fn.body.isNone=false)
  (h:∀ w fvs,Gl G w->yD w (vV a) l fvs->Calls P g (GQ a fvs).toArray w (DY w fvs n)):Io P G g ⟨a,[.sc .nat]⟩ l [(n:Int)]:=by
 intro w fvs hG hfit;refine FC hf hn hb ((h w fvs hG hfit).mono ?_);rintro e w' ⟨v,rfl,h1,h2,h3⟩;refine⟨[v],rfl,⟨?_,trivial⟩,λu hu=>?_,h3⟩
 ·show Reads w' v (wO (n:Int).toNat) (Di (n:Int).toNat);rw[Int.toNat_natCast];exact h1.to rfl
 ·rw[List.mem_singleton.1 hu];exact λb hb=>.inl (h2 b hb)
theorem aci {P:Program} {G:wQ} {g:FuncId} {a r:List Sh} {l:List Int} {m:List Int} {fn:Func} (hf:P.funcs[g]? = some fn) (hn:(fn.name == "runtime.NumGoroutine")=false) (hb:fn.body.isNone=false) (vs:List Value) (hk:∀ w,yD w (vV r) m vs) (hv:∀ v∈vs,yR v=none)
  (h:∀ w fvs,Gl G w->yD w (vV a) l fvs->Calls P g (GQ a fvs).toArray w λe w'=>e = .returned (xU (GQ r vs))/\vY w w'):Io P G g ⟨a,r⟩ l m:=by
 intro w fvs hG hfit;refine FC hf hn hb ((h w fvs hG hfit).mono ?_);rintro e w' ⟨rfl,h3⟩;exact⟨vs,rfl,hk w',λu hu b hb=>(by rw[hv u hu] at hb;cases hb),h3⟩
def EC (n:Nat):Bool:=Nat.blt (Nat.log2 n) 1073741824
theorem arL (n:Nat):wO n<=Nat.log2 n/32+1:=by
 rw[<- Nr];rcases Nat.eq_zero_or_pos n with rfl|h
 ·exact AY _
 ·have h1:=(Nat.log2_lt (by omega:n≠0)).1 (Nat.lt_succ_self (Nat.log2 n));refine Nat.lt_of_lt_of_le h1 ?_;rw[PZ,<- Nat.pow_mul];exact Nat.pow_le_pow_right (by decide) (by omega)
theorem aiz {n:Nat} (h:EC n=true):wO n<=33554432:=by
 have h1:Nat.log2 n<1073741824:=by unfold EC at h;simpa [Nat.blt_eq] using h
 have:=arL n;omega
theorem JM {n k:Nat} (h:n<2^k) (hk:k<=1073741824):EC n=true:=by
 unfold EC;rw[Nat.blt_eq];rcases Nat.eq_zero_or_pos n with rfl|h0
 ·decide
 ·have:=(Nat.log2_lt (by omega:n≠0)).2 h;omega
open Go.RowKit Go.Shelf
attribute [local go_sem] Oper.semAt_some
def acj:Value->Nat
 | .slice _ n _=>n
 | _=>0
theorem yc.some {w:World} {b off k cap x:Nat} (hb:b<w.heap.size) (hc:∀ j,j<k->w.cell? ⟨b,off+j,none⟩=some (dV x j)):yc w (.slice (some ⟨b,off,none⟩) k cap) k x :=
 .inr ⟨b,off,cap,rfl,hb,λj y hj=>by
  have hlt:j<k:=by have:=(List.getElem?_eq_some_iff.1 hj).1;rwa [aig] at this
  rw[Xr hlt] at hj;cases hj;exact hc j hlt⟩
theorem aiA {x j:Nat} : Int.ofNat (dg x j)=0↔dg x j=0:=Int.ofNat_eq_zero
theorem ack {x j:Nat} (h:x<wo^j) (hd:0<j->dg x (j-1)≠0):wO x=j:=by
 rcases Nat.eq_zero_or_pos j with rfl|h0
 ·exact Nat.le_zero.1 (Nr.1 h)
 ·obtain⟨i,rfl⟩:∃ i,j=i+1:=⟨j-1,by omega⟩;exact aro h (by simpa using hd h0)
theorem Nt (w:World) (v:Value) (k x:Nat) (hk:k<=70000000) (hx:x<wo^k) (h:yc w v k x) (hcap:∀ ad n c,v = .slice ad n c->n<=c) :
  Calls prog 59 #[v] w λe w'=>∃ u,e = .returned u/\yc w u (wO x) x/\(∀ b,yR u=some b->yR v=some b)/\w=w':=by
 rcases h with⟨rfl,rfl,_⟩|⟨b,off,cap,rfl,hb,hcc⟩
 ·have h0:wO x=0:=ack hx (λh=>by omega);rw[h0];have hR:=yc.nil w x
  go_enter func59,ntmps59
  go_wp2
  go_loop [0] (λa=>a = .slice none 0 0) (λa=>acj a)
  case atStart=>rfl
  case round =>
   obtain rfl:=hrel
   go_wp2
   go_ret
   exact⟨_,rfl,hR,λb h=>h,rfl⟩
 ·have hcell:∀ j,j<k->w.cell? ⟨b,off+j,none⟩=some (dV x j):=λj hj=>hcc j _ (Xr hj)
  clear hcc;have hkc:=hcap _ _ _ rfl;clear hcap
  go_enter func59,ntmps59
  go_wp2
  go_loop [0] (λa=>∃ j cap',j<=k/\j<=cap'/\a = .slice (some ⟨b,off,none⟩) j cap'/\x<wo^j) (λa=>acj a)
  case atStart=>exact⟨k,cap,Nat.le_refl _,hkc,rfl,hx⟩
  case round =>
   obtain⟨j,cap',hj,hjc,rfl,hxj⟩:=hrel;have hR:yc w (.slice (some ⟨b,off,none⟩) j cap') j x:=yc.some hb λi hi=>hcell i (by omega)
   rcases Nat.eq_zero_or_pos j with rfl|h0
   ·go_wp2
    go_ret
    exact⟨_,rfl,by rw[ack hxj (λh=>by omega)];exact hR,λb h=>h,rfl⟩
   ·have hcx:=hcell (j-1) (by omega);have hcast:((j:Int)-1)=((j-1:Nat):Int):=by omega
    unfold dV at hcx;by_cases hd:dg x (j-1)=0
    ·have hd2:Int.ofNat (dg x (j-1))=0:=aiA.2 hd;rw[hd2] at hcx;have hxx:x<wo^(j-1):=arp (by rw[Nat.sub_add_cancel h0];exact hxj) hd;have hle:((j-1:Nat):Int)<=(cap':Int):=by omega
     go_wp2
     go_round
     case rel=>exact⟨j-1,cap',by omega,by omega,rfl,hxx⟩
     case measure=>simp[acj];omega
    ·have hd2:¬ Int.ofNat (dg x (j-1))=0:=λh=>hd (aiA.1 h)
     generalize Int.ofNat (dg x (j-1))=z at hcx hd2;have hz:(z==0)=false:=by simp[hd2]
     go_wp2
     go_ret
     exact⟨_,rfl,by rw[ack hxj (λ_=>hd)];exact hR,λb h=>h,rfl⟩
theorem Lp (w:World) (v:Value) (k x i:Nat) (hk:k<=70000000) (hi:i<=70000000) (hx:x<wo^k) (h:yc w v k x) :
  Calls prog 60 #[v,.int .i64 (i:Int)] w λe w'=>e = .returned (.int .u32 (dg x i:Int))/\w=w':=by
 by_cases hlt:i<k
 ·obtain⟨b,off,cap,rfl,hb,hcell⟩:=h.pos (by omega);have hcx:=hcell i hlt;unfold dV at hcx;have hi2:(i:Int)<(k:Int):=by omega
  go_enter func60,ntmps60
  go_wp2
  go_ret
  exact⟨rfl,rfl⟩
 ·obtain⟨ad,cap,rfl,_⟩:=h.any;have hz:dg x i=0:=arh hx (by omega);have hi2:¬ (i:Int)<(k:Int):=by omega
  rw[hz]
  go_enter func60,ntmps60
  go_wp2
  go_ret
  exact⟨rfl,rfl⟩
theorem UE:(prog.info? 117).map (λi=>(i.zero,i.size,i.bytes))=some (some (.int .u32 0),1,4):=by kernel_rfl
theorem UF {w:World} {base e:Nat} {v:Value} {k:Nat} {xs:List Value} (h:w.ownsRow base e 1 v k xs):∀ ad n c,v = .slice ad n c->n<=c:=by
 intro ad n c hv;rcases h.2 with⟨h1,h2⟩|⟨g,cap,cur,h1,_,_,h3,_⟩
 ·rw[h1] at hv;cases hv;exact Nat.le_refl _
 ·rw[h1] at hv;cases hv;exact h3
theorem arM {w:World} {base e:Nat} {v:Value} {k:Nat} {xs:List Value} (h:w.ownsRow base e 1 v k xs):∀ b,yR v=some b->base<=b:=λb hb=>by
 rcases h.2 with⟨rfl,_⟩|⟨g,cap,cur,rfl,h3,_⟩
 ·cases hb
 ·cases hb;exact h3
theorem DY.of {w w1:World} {fvs:List Value} {u v:Value} {k x e:Nat} {xs:List Value} (h:w1.ownsRow w.heap.size e 1 v k xs) (hr:yc w1 u (wO x) x) (hb:∀ b,yR u=some b->yR v=some b) (hB:vY w w1):DY w fvs x (.returned u) w1 :=
 ⟨u,rfl,hr,λb h1=>arM h b (hb b h1),hB⟩
theorem add_lt {a b la lb:Nat} (ha:a<wo^la) (hb:b<wo^lb):a<wo^max la lb/\b<wo^max la lb/\a+b<wo^(max la lb+1):=by have h1:a<wo^max la lb:=Nat.lt_of_lt_of_le ha (Nat.pow_le_pow_right Hl (Nat.le_max_left _ _));have h2:b<wo^max la lb:=Nat.lt_of_lt_of_le hb (Nat.pow_le_pow_right Hl (Nat.le_max_right _ _));refine⟨h1,h2,?_⟩;rw[Nat.pow_succ];have h3:wo^max la lb*2<=wo^max la lb*wo:=Nat.mul_le_mul_left _ (by decide);omega
theorem arN (w:World) (va vb:Value) (a b:Nat) (ha:wO a<=34000000) (hb:wO b<=34000000) (hA:yc w va (wO a) a) (hB:yc w vb (wO b) b) :
  Calls prog 30 #[va,vb] w (DY w [va,vb] (a+b)):=by
 obtain⟨i0,hi,hz0,hz1,hz2⟩:=info_parts UE;obtain⟨ada,capa,rfl,_⟩:=hA.any;obtain⟨adb,capb,rfl,_⟩:=hB.any;have hxa:=Ff a;have hxb:=Ff b;generalize wO a=la at *
 generalize wO b=lb at *
 go_enter func30,ntmps30
 go_wp2
 go_loopw [5,6,7] (λout c i wr=>∃ k:Nat,k<=max la lb/\i = .int .i64 (k:Int)/\c = .int .u64 (AZ a b k:Int)/\wr.ownsRow w.heap.size 117 1 out k (zS k (a+b))/\Below w.heap.size w wr)
  (λ_ _ i _=>max la lb-(intOf i).toNat)
 case atStart=>exact⟨0,Nat.zero_le _,rfl,by rw[ain];rfl,World.ownsRow_nil _ _ _ _,Below.refl _ _⟩
 case round =>
  obtain⟨k,hk,rfl,rfl,hown,hnx⟩:=hrel;have hAr:=hA.bel hnx;have hBr:=hB.bel hnx;by_cases hlt:k<max la lb
  ·have e1:=acg a b k;have e2:=aip a b k;have b1:=UD a b k;have b2:=Ck a k;have b3:=Ck b k;have hda:=Lp wr _ la a k (by omega) (by omega) hxa hAr;have hdb:=Lp wr _ lb b k (by omega) (by omega) hxb hBr;generalize AZ a b k=c at *
   generalize dg a k=x at *
   generalize dg b k=y at *
   unfold wo at b2 b3;have ez:(((c:Int)+x+y)%4294967296)=((dg (a+b) k:Nat):Int):=by rw[<- e1];unfold wo;omega
   have ec:(((c:Int)+x+y)/4294967296)=((AZ a b (k+1):Nat):Int):=by rw[<- e2];unfold wo;omega
   clear e1 e2;have hsz:=hnx.size;have qk:(k:Int)<(la:Int)\/(¬ (k:Int)<(la:Int)/\(k:Int)<(lb:Int)):=by omega
   rcases qk with q1|⟨q1,q2⟩
   all_goals
    go_wp2_with (first|(go_at_call 60;with_reducible refine hda.mono ?_;rintro e w' ⟨rfl,rfl⟩)|(go_at_call 60;with_reducible refine hdb.mono ?_;rintro e w' ⟨rfl,rfl⟩)|(at_builtin;refine wpList_append_own _ rfl (.tmp 31) (.tmp 34) 33 rfl w.heap.size 117 i0 (.int .u32 0) 1 4 underlying33 hi hz0 hz1 hz2 rfl (by decide) _ _ _ rfl (hown.alloc _) ⟨wr.heap.size,0,none⟩ 1 1 [.int .u32 ((dg (a+b) k:Nat):Int)] rfl rfl (cell_one_new _ _ _) (by simp[Value.oneCell']) (by unfold maxLen;omega) (by omega) (by simp;omega) ?_;intro v' w1 hown1 hgrow _))
    go_roundw
    case rel=>exact⟨k+1,by omega,by go_num,rfl,by rw[P6];exact hown1,hnx.trans (((Below.refl _ wr).alloc hsz _).grown hgrow (by simp;omega) (Ow hown))⟩
    case measure=>simp[intOf];omega
  ·obtain rfl:k=max la lb:=by omega
   obtain⟨l1,l2,l3⟩:=add_lt hxa hxb;have ec:=arq l1 l2;rw[ec];have b3:=Ck (a+b) (max la lb);have ez:Int.ofNat (dg (a+b) (max la lb))=((dg (a+b) (max la lb):Nat):Int):=rfl;have hsz:=hnx.size;have q1:¬ ((max la lb:Nat):Int)<(la:Int):=by omega
   have q2:¬ ((max la lb:Nat):Int)<(lb:Int):=by omega
   have hmk:max la lb+1<=70000000:=by omega
   have hsucc:=P6 (max la lb) (a+b);unfold dV at hsucc;rw[ez] at hsucc;clear ez ec;generalize max la lb=k at *
   generalize dg (a+b) k=d at *
   unfold wo at b3;have hm:(d:Int)%4294967296=d:=by omega
   go_wp2_with (first|(go_at_call 59;with_reducible refine(Nt _ _ _ _ hmk l3 (UC hown1) (UF hown1)).mono ?_;rintro e w' ⟨u,rfl,hr,hbk,rfl⟩)|(at_builtin;refine wpList_append_own _ rfl (.tmp 38) (.tmp 41) 33 rfl w.heap.size 117 i0 (.int .u32 0) 1 4 underlying33 hi hz0 hz1 hz2 rfl (by decide) _ _ _ rfl (hown.alloc _) ⟨wr.heap.size,0,none⟩ 1 1 [.int .u32 (d:Int)] rfl rfl (cell_one_new _ _ _) (by simp[Value.oneCell']) (by unfold maxLen;omega) (by omega) (by simp;omega) ?_;intro v' w1 hown1 hgrow _;rw[<- hsucc] at hown1))
   go_ret
   exact DY.of hown1 hr hbk (hnx.trans (((Below.refl _ wr).alloc hsz _).grown hgrow (by simp;omega) (Ow hown)))
theorem arO (w:World) (va vb:Value) (a b:Nat) (hba:b<=a) (ha:wO a<=34000000) (hA:yc w va (wO a) a) (hB:yc w vb (wO b) b) :
  Calls prog 32 #[va,vb] w (DY w [va,vb] (a-b)):=by
 obtain⟨i0,hi,hz0,hz1,hz2⟩:=info_parts UE;obtain⟨ada,capa,rfl,_⟩:=hA.any;obtain⟨adb,capb,rfl,_⟩:=hB.any;have hxa:=Ff a;have hxb:=Ff b;have hlb:wO b<=wO a:=Nr.1 (Nat.lt_of_le_of_lt hba hxa);generalize wO a=la at *
 generalize wO b=lb at *
 go_enter func32,ntmps32
 go_wp2
 go_loopw [5,6,7] (λout c i wr=>∃ k:Nat,k<=la/\i = .int .i64 (k:Int)/\c = .int .u64 (AZ b (a-b) k:Int)/\wr.ownsRow w.heap.size 117 1 out k (zS k (a-b))/\Below w.heap.size w wr)
  (λ_ _ i _=>la-(intOf i).toNat)
 case atStart=>exact⟨0,Nat.zero_le _,rfl,by rw[ain];rfl,World.ownsRow_nil _ _ _ _,Below.refl _ _⟩
 case round =>
  obtain⟨k,hk,rfl,rfl,hown,hnx⟩:=hrel;have hAr:=hA.bel hnx;have hBr:=hB.bel hnx;by_cases hlt:k<la
  ·obtain⟨e1,e2⟩:=ars hba k;have b1:=UD b (a-b) k;have b2:=Ck a k;have b3:=Ck b k;have hda:=Lp wr _ la a k (by omega) (by omega) hxa hAr;have hdb:=Lp wr _ lb b k (by omega) (by omega) hxb hBr;generalize AZ b (a-b) k=c at *
   generalize dg a k=x at *
   generalize dg b k=y at *
   unfold wo at b2 b3;have ez:(((x:Int)+4294967296-y-c)%4294967296)=((dg (a-b) k:Nat):Int):=by rw[<- e1];unfold wo;omega
   have ec:(1-((x:Int)+4294967296-y-c)/4294967296)=((AZ b (a-b) (k+1):Nat):Int):=by rw[<- e2];unfold wo;omega
   clear e1 e2;have hsz:=hnx.size;have q1:(k:Int)<(la:Int):=by omega
   go_wp2_with (first|(go_at_call 60;with_reducible refine hda.mono ?_;rintro e w' ⟨rfl,rfl⟩)|(go_at_call 60;with_reducible refine hdb.mono ?_;rintro e w' ⟨rfl,rfl⟩)|(at_builtin;refine wpList_append_own _ rfl (.tmp 27) (.tmp 30) 33 rfl w.heap.size 117 i0 (.int .u32 0) 1 4 underlying33 hi hz0 hz1 hz2 rfl (by decide) _ _ _ rfl (hown.alloc _) ⟨wr.heap.size,0,none⟩ 1 1 [.int .u32 ((dg (a-b) k:Nat):Int)] rfl rfl (cell_one_new _ _ _) (by simp[Value.oneCell']) (by unfold maxLen;omega) (by omega) (by simp;omega) ?_;intro v' w1 hown1 hgrow _))
   go_roundw
   case rel=>exact⟨k+1,by omega,by go_num,rfl,by rw[P6];exact hown1,hnx.trans (((Below.refl _ wr).alloc hsz _).grown hgrow (by simp;omega) (Ow hown))⟩
   case measure=>simp[intOf];omega
  ·obtain rfl:k=la:=by omega
   have l3:a-b<wo^k:=Nat.lt_of_le_of_lt (Nat.sub_le _ _) hxa;have hmk:k<=70000000:=by omega
   go_wp2_with (go_at_call 59;with_reducible refine(Nt _ _ _ _ hmk l3 (UC hown) (UF hown)).mono ?_;rintro e w' ⟨u,rfl,hr,hbk,rfl⟩)
   go_ret
   exact DY.of hown hr hbk hnx
theorem arP {v:Nat} : v%4294967296=dg v 0:=(aca v).symm
theorem arQ {v:Nat} (h:v<18446744073709551616):v/4294967296%4294967296=dg v 1:=by unfold dg;rw[Nat.pow_one];rfl
theorem arR (w:World) (v:Nat) (hv:v<18446744073709551616):Calls prog 67 #[.int .u64 (v:Int)] w (DY w [] v):=by
 have hx:v<wo^2:=by unfold wo;exact hv
 have d0:(v:Int)%4294967296=((dg v 0:Nat):Int):=by rw[<- arP];omega
 have hR:yc (w.alloc (.cells #[.int .u32 ((dg v 0:Nat):Int),.int .u32 ((v:Int)/4294967296)] 117)) (.slice (some ⟨w.heap.size,0,none⟩) 2 2) 2 v:=by
  refine yc.some (by simp) λj hj=>?_
  rcases(show j=0\/j=1 by omega) with rfl|rfl
  ·unfold World.cell?;simp only[World.alloc_heap_new];rfl
  ·have d1:dV v 1 = .int .u32 ((v:Int)/4294967296):=by unfold dV;rw[<- arQ hv];congr 1;simp only[Int.ofNat_eq_natCast];omega
   rw[d1];unfold World.cell?;simp only[World.alloc_heap_new];rfl
 have q:(v:Int)/4294967296<4294967296:=by omega
 go_enter func67,ntmps67
 go_wp2_with (go_at_call 59;refine(Nt _ _ 2 v (by omega) hx hR (λad n c h=>by cases h;exact Nat.le_refl _)).mono ?_;rintro e w' ⟨u,rfl,hr,hbk,rfl⟩)
 go_ret
 exact⟨_,rfl,hr,λb h=>(by have:=hbk b h;cases this;exact Nat.le_refl _),(vY.refl w).alloc _⟩
theorem aiB {c y s:Nat} (hc:c<2^s):c|||y*2^s=c+y*2^s:=by rw[Nat.or_comm,Nat.mul_comm,<- Nat.two_pow_add_eq_or_of_lt hc,Nat.add_comm]
theorem DZ (n:Nat):2^n=wo^(n/32)*2^(n%32):=by rw[PZ,<- Nat.pow_mul,<- Nat.pow_add];congr 1;omega
theorem arS (a n:Nat):zS (n/32) (a*2^n)=List.replicate (n/32) (Value.int .u32 0):=by rw[DZ n];unfold zS;rw[List.eq_replicate_iff];refine⟨by simp,λb hb=>?_⟩;obtain⟨j,hj,rfl⟩:=List.mem_map.1 hb;unfold dV;rw[arw (List.mem_range.1 hj)];rfl
theorem arT {a la:Nat} (n:Nat) (h:a<wo^la):a*2^n<wo^(n/32+la+1):=by
 rw[DZ n,Nat.pow_succ,Nat.pow_add];have h1:(2:Nat)^(n%32)<=wo:=by rw[PZ];exact Nat.pow_le_pow_right (by decide) (by omega)
 have h2:a*(wo^(n/32)*2^(n%32))<=a*(wo^(n/32)*wo):=Nat.mul_le_mul_left _ (Nat.mul_le_mul_left _ h1);refine Nat.lt_of_le_of_lt h2 ?_;rw[show a*(wo^(n/32)*wo)=wo^(n/32)*wo*a by ac_rfl,show wo^(n/32)*wo^la*wo=wo^(n/32)*wo*wo^la by ac_rfl];exact Nat.mul_lt_mul_of_pos_left h (Nat.mul_pos (AY _) Hl)
theorem arU {c x s:Nat} (hc:c<2^s) (hx:x<4294967296) (hs:s<32):bits .or .u64 (c:Int) (IntKind.u64.wrap (IntKind.u64.wrap (x:Int)*2^s))=((c+x*2^s:Nat):Int):=by
 have h1:(2:Nat)^s<=2^31:=Nat.pow_le_pow_right (by decide) (by omega);have h2:x*2^s<=4294967295*2^31:=Nat.mul_le_mul (by omega) h1;have e1:IntKind.u64.wrap (x:Int)=(x:Int):=by rw[zF];exact Hd x (by unfold vZ;omega)
 have e2:IntKind.u64.wrap ((x:Int)*2^s)=((x*2^s:Nat):Int):=by rw[show(x:Int)*2^s=((x*2^s:Nat):Int) by rw[Int.natCast_mul,Int.natCast_pow];rfl,zF];exact Hd _ (by unfold vZ;omega)
 rw[e1,e2,u64_or_nat _ _ (by omega) (by omega),aiB hc]
theorem arV (w:World) (va:Value) (a n:Nat) (hn:n<=1073741824) (ha:wO a<=34000000) (hA:yc w va (wO a) a) :
  Calls prog 29 #[va,.int .i64 (n:Int)] w (DY w [va] (a*2^n)):=by
 obtain⟨i0,hi,hz0,hz1,hz2⟩:=info_parts UE;obtain⟨ada,capa,rfl,hcell⟩:=hA.any;have hxa:=Ff a;generalize wO a=la at *
 have hq1:Int.tdiv (n:Int) 32=((n/32:Nat):Int):=rfl;have hq2:Int.tmod (n:Int) 32=((n%32:Nat):Int):=rfl;have hqq:n/32<=33554432:=by omega
 go_enter func29,ntmps29
 go_wp2_with (at_make;refine wpList_make_full _ rfl (.tmp 9) (.tmp 9) 33 rfl w.heap.size 117 i0 (.int .u32 0) 1 underlying33 hi hz0 hz1 .i64 .i64 ((n:Int)/32) ((n:Int)/32) (n/32) rfl rfl (by omega) (by omega) (by rw[hz2];omega) (by unfold maxLen;omega) (Nat.le_refl _) ?_;intro w1 hown0 hgrow0)
 have hB1:Below w.heap.size w w1:=(Below.refl _ w).grown hgrow0 (Nat.le_refl _) (λk hk=>by cases hk)
 have hz:(madeCells (Value.int .u32 0).cells (n/32*1)).toList=zS (n/32) (a*2^n):=by rw[show(Value.int .u32 0).cells = #[Value.int .u32 0] from rfl,toList_madeCells_one,Nat.mul_one,arS]
 rw[hz] at hown0
 go_loopw [5,6,7] (λout c i wr=>∃ k:Nat,k<=la/\i = .int .i64 (k:Int)/\c = .int .u64 (Fg a (2^(n%32)) k:Int)/\wr.ownsRow w.heap.size 117 1 out (n/32+k) (zS (n/32+k) (a*2^n))/\Below w.heap.size w wr)
  (λ_ _ i _=>la-(intOf i).toNat)
 case atStart=>exact⟨0,Nat.zero_le _,rfl,by rw[art];rfl,hown0,hB1⟩
 case round =>
  obtain⟨k,hk,rfl,rfl,hown,hnx⟩:=hrel;by_cases hlt:k<la
  ·obtain⟨b,off,rfl,hb,hcl⟩:=hcell (by omega);have hcx:=(hnx.cell (p:=⟨b,off+k,none⟩) hb).trans (hcl k hlt);unfold dV at hcx;have q1:(k:Int)<(la:Int):=by omega
   have b1:=aiq (Nat.two_pow_pos (n%32)) a k;have b2:=Ck a k;have e1:=ais a (2^(n%32)) k;have e2:=aru a (2^(n%32)) k;have hor:=arU b1 b2 (show n%32<32 by omega);have hdg:=ait a (2^(n%32)) (n/32) k;rw[<- DZ] at hdg;rw[<- hdg] at e1;rw[show Int.ofNat (dg a k)=((dg a k:Nat):Int) from rfl] at hcx;generalize dg a k=x at *
   generalize Fg a (2^(n%32)) k=c at *
   generalize c+x*2^(n%32)=T at *
   have ez:(T:Int)%4294967296=((dg (a*2^n) (n/32+k):Nat):Int):=by rw[<- e1];unfold wo;omega
   have ec:(T:Int)/4294967296=((Fg a (2^(n%32)) (k+1):Nat):Int):=by rw[<- e2];unfold wo;omega
   clear e1 e2 b1 b2 hdg;have hsz:=hnx.size
   go_wp2_with (at_builtin;refine wpList_append_own _ rfl (.tmp 27) (.tmp 30) 33 rfl w.heap.size 117 i0 (.int .u32 0) 1 4 underlying33 hi hz0 hz1 hz2 rfl (by decide) _ _ _ rfl (hown.alloc _) ⟨wr.heap.size,0,none⟩ 1 1 [.int .u32 ((dg (a*2^n) (n/32+k):Nat):Int)] rfl rfl (cell_one_new _ _ _) (by simp[Value.oneCell']) (by unfold maxLen;omega) (by omega) (by simp;omega) ?_;intro v' w1 hown1 hgrow _)
   go_roundw
   case rel=>exact⟨k+1,by omega,by go_num,rfl,by rw[<- Nat.add_assoc,P6];exact hown1,hnx.trans (((Below.refl _ wr).alloc hsz _).grown hgrow (by simp;omega) (Ow hown))⟩
   case measure=>simp[intOf];omega
  ·obtain rfl:k=la:=by omega
   have h32:(2:Nat)^(n%32)<=wo:=by rw[PZ];exact Nat.pow_le_pow_right (by decide) (by omega)
   have ec:=arv (k:=k) (s:=2^(n%32)) hxa (Nat.two_pow_pos _) h32;have hdg:=ait a (2^(n%32)) (n/32) k;rw[<- DZ] at hdg;rw[<- hdg] at ec;rw[ec];have l3:=arT n hxa;have b3:=Ck (a*2^n) (n/32+k);have hmk:n/32+k+1<=70000000:=by omega
   have hsucc:=P6 (n/32+k) (a*2^n);unfold dV at hsucc;rw[show Int.ofNat (dg (a*2^n) (n/32+k))=((dg (a*2^n) (n/32+k):Nat):Int) from rfl] at hsucc;have hsz:=hnx.size;have q1:¬ ((k:Nat):Int)<(k:Int):=by omega
   clear ec hdg;generalize dg (a*2^n) (n/32+k)=d at *
   unfold wo at b3;have hm:(d:Int)%4294967296=d:=by omega
   go_wp2_with (first|(go_at_call 59;with_reducible refine(Nt _ _ _ _ hmk l3 (UC hown1) (UF hown1)).mono ?_;rintro e w' ⟨u,rfl,hr,hbk,rfl⟩)|(at_builtin;refine wpList_append_own _ rfl (.tmp 34) (.tmp 37) 33 rfl w.heap.size 117 i0 (.int .u32 0) 1 4 underlying33 hi hz0 hz1 hz2 rfl (by decide) _ _ _ rfl (hown.alloc _) ⟨wr.heap.size,0,none⟩ 1 1 [.int .u32 (d:Int)] rfl rfl (cell_one_new _ _ _) (by simp[Value.oneCell']) (by unfold maxLen;omega) (by omega) (by simp;omega) ?_;intro v' w1 hown1 hgrow _;rw[<- hsucc] at hown1))
   go_ret
   exact DY.of hown1 hr hbk (hnx.trans (((Below.refl _ wr).alloc hsz _).grown hgrow (by simp;omega) (Ow hown)))
theorem arW {x y:Nat} (hx:x<4294967296) (hy:y<4294967296):bits .or .u64 (x:Int) ((y:Int)*4294967296)=((x+4294967296*y:Nat):Int):=by rw[show(y:Int)*4294967296=((y*4294967296:Nat):Int) by rw[Int.natCast_mul];rfl,u64_or_nat _ _ (by omega) (by omega)];have h:=aiB (c:=x) (y:=y) (s:=32) (by omega);rw[show(4294967296:Nat)=2^32 by decide,h,Nat.mul_comm y]
theorem arX (w:World) (va:Value) (a n:Nat) (hn:n<=1073741824) (ha:wO a<=34000000) (hA:yc w va (wO a) a) :
  Calls prog 65 #[va,.int .i64 (n:Int)] w (DY w [va] (a/2^n)):=by
 obtain⟨i0,hi,hz0,hz1,hz2⟩:=info_parts UE;obtain⟨ada,capa,rfl,hcell⟩:=hA.any;have hxa:=Ff a;generalize wO a=la at *
 go_enter func65,ntmps65
 go_wp2
 go_loopw [5,6] (λout i wr=>∃ k:Nat,(k=0\/n/32+k<=la)/\i = .int .i64 ((n:Int)/32+(k:Int))/\wr.ownsRow w.heap.size 117 1 out k (zS k (a/2^n))/\Below w.heap.size w wr)
  (λ_ i _=>la-(intOf i).toNat)
 case atStart=>exact⟨0,.inl rfl,by simp,World.ownsRow_nil _ _ _ _,Below.refl _ _⟩
 case round =>
  obtain⟨k,hk,rfl,hown,hnx⟩:=hrel;have hAr:=hA.bel hnx;by_cases hlt:n/32+k<la
  ·obtain⟨b,off,rfl,hb,hcl⟩:=hcell (by omega);obtain⟨i,hi'⟩:∃ i:Nat,n/32+k=i:=⟨_,rfl⟩;have hiI:(n:Int)/32+(k:Int)=(i:Int):=by omega
   rw[hiI];have hcx:=(hnx.cell (p:=⟨b,off+i,none⟩) hb).trans (hcl i (by omega));unfold dV at hcx;rw[show Int.ofNat (dg a i)=((dg a i:Nat):Int) from rfl] at hcx;have b2:=Ck a i;have b3:=Ck a (i+1)
   have hdd:∀ m,Calls prog 60 #[.slice (some ⟨b,off,none⟩) la capa,.int .i64 ((i:Int)+1)] (wr.drewN m) λe w'=>e = .returned (.int .u32 (dg a (i+1):Int))/\w'=wr.drewN m:=λm=>by have:=Lp (wr.drewN m) _ la a (i+1) (by omega) (by omega) hxa (hAr.bel ((vY.refl _).drewN _));rw[show((i+1:Nat):Int)=(i:Int)+1 by omega] at this;exact this.mono λe w' h=>⟨h.1,h.2.symm⟩
   have q1:(i:Int)<(la:Int):=by omega
   have hst:2^(n%32)*2^(32-n%32)=wo:=by rw[<- Nat.pow_add,PZ];congr 1;omega
   have hdg:(dg a i+wo*dg a (i+1))/2^(n%32)%wo=dg (a/2^n) k:=by rw[arx hst,DZ n,ary,hi']
   generalize dg a i=x at *
   generalize dg a (i+1)=y at *
   unfold wo at b2 b3 hdg;have hor:=arW b2 b3;generalize x+4294967296*y=V at *
   have ez:(V:Int)/2^(n%32)%4294967296=((dg (a/2^n) k:Nat):Int):=by rw[<- hdg];simp only[Int.natCast_emod,Int.natCast_ediv,Int.natCast_pow];rfl
   have hsz:=hnx.size;have hlen:k+1<=34000000:=by omega
   go_wp2_with fail
   go_quiet ((go_at_call 60;with_reducible exact Calls.quiet_of_same (hdd _)))
   have hown2:(wr.drewN nq).ownsRow w.heap.size 117 1 _ k (zS k (a/2^n)):=hown;have hnx2:Below w.heap.size w (wr.drewN nq):=⟨hnx.os,hnx.tape,hnx.output,hnx.size,hnx.block⟩;have hsz2:w.heap.size<=(wr.drewN nq).heap.size:=hsz;clear hown hnx hsz hor hdd hAr hcell;generalize wr.drewN nq=w2 at *
   go_wp2_with (at_builtin;refine wpList_append_own _ rfl (.tmp 28) (.tmp 34) 33 rfl w.heap.size 117 i0 (.int .u32 0) 1 4 underlying33 hi hz0 hz1 hz2 rfl (by decide) _ _ _ rfl (hown2.alloc _) ⟨w2.heap.size,0,none⟩ 1 1 [.int .u32 ((dg (a/2^n) k:Nat):Int)] rfl rfl (cell_one_new _ _ _) (by simp[Value.oneCell']) (by unfold maxLen;omega) (by omega) (by simp;omega) ?_;intro v' w1 hown1 hgrow _)
   go_roundw
   case rel=>exact⟨k+1,by omega,by congr 1;omega,by rw[P6];exact hown1,hnx2.trans (((Below.refl _ w2).alloc hsz2 _).grown hgrow (by simp;omega) (Ow hown2))⟩
   case measure=>simp[intOf];omega
  ·have l3:a/2^n<wo^k:=by rw[Nat.div_lt_iff_lt_mul (Nat.two_pow_pos n),DZ n,<- Nat.mul_assoc,<- Nat.pow_add];refine Nat.lt_of_lt_of_le hxa (Nat.le_trans (Nat.pow_le_pow_right Hl (show la<=k+n/32 by omega)) ?_);exact Nat.le_mul_of_pos_right _ (Nat.two_pow_pos _)
   have hmk:k<=70000000:=by omega
   have q1:¬ ((n:Int)/32+(k:Int)<(la:Int)):=by omega
   go_wp2_with (go_at_call 59;with_reducible refine(Nt _ _ _ _ hmk l3 (UC hown) (UF hown)).mono ?_;rintro e w' ⟨u,rfl,hr,hbk,rfl⟩)
   go_ret
   exact DY.of hown hr hbk hnx
theorem arY (w:World) (va vb:Value) (a b:Nat) (ha:wO a<=34000000) (hb:wO b<=34000000) (hA:yc w va (wO a) a) (hB:yc w vb (wO b) b) :
  Calls prog 31 #[va,vb] w λe w'=>e = .returned (.int .i64 (zT a b))/\vY w w':=by
 obtain⟨ada,capa,rfl,hcA⟩:=hA.any;obtain⟨adb,capb,rfl,hcB⟩:=hB.any;have hxa:=Ff a;have hxb:=Ff b;by_cases he:wO a=wO b
 ·rw[<- he] at hcB hxb ⊢;clear hA hB he hb;generalize wO a=l at *
  go_enter func31,ntmps31
  go_wp2
  go_loopw [5] (λi wr=>∃ j:Nat,j<=l/\i = .int .i64 ((j:Int)-1)/\a/wo^j=b/wo^j/\vY w wr) (λi _=>(intOf i+1).toNat)
  case atStart=>exact⟨l,Nat.le_refl _,rfl,by rw[Nat.div_eq_of_lt hxa,Nat.div_eq_of_lt hxb],vY.refl _⟩
  case round =>
   obtain⟨j,hj,rfl,hq,hnx⟩:=hrel;rcases Nat.eq_zero_or_pos j with rfl|h0
   ·have hab:a=b:=by simpa using hq
    have hc:zT a b=0:=by rw[hab];exact arH b
    go_wp2
    go_ret
    exact⟨by first|rfl|(rw[hc];rfl),hnx⟩
   ·obtain⟨i,rfl⟩:∃ i,j=i+1:=⟨j-1,by omega⟩;obtain⟨ba,oa,rfl,hba,hca⟩:=hcA (by omega);obtain⟨bb,ob,rfl,hbb,hcb⟩:=hcB (by omega);have c1:=(hnx.cell ba (oa+i) hba).trans (hca i (by omega));have c2:=(hnx.cell bb (ob+i) hbb).trans (hcb i (by omega));unfold dV at c1 c2;rw[show Int.ofNat (dg a i)=((dg a i:Nat):Int) from rfl] at c1;rw[show Int.ofNat (dg b i)=((dg b i:Nat):Int) from rfl] at c2;have q0:((i+1:Nat):Int)-1=(i:Int):=by omega
    rw[q0];have q1:(i:Int)<(l:Int):=by omega
    have k1:=@aix a b i hq;have k2:=@aix b a i hq.symm;have k3:=@arJ a b i hq;clear hca hcb hcA hcB;generalize dg a i=x at *
    generalize dg b i=y at *
    go_wp2_with fail
    go_quiet (fail)
    have hnx2:vY w (wr.drewN nq):=hnx.drewN nq;rcases Nat.lt_trichotomy x y with h|h|h
    ·have hc:=ach (k1 h);have h1:decide (x<y)=true:=decide_eq_true h
     go_wp2
     go_ret
     exact⟨by first|rfl|(rw[hc];rfl),hnx2⟩
    ·have k4:=k3 h;have h1:decide (x<y)=false:=decide_eq_false (by omega);have h2:decide (y<x)=false:=decide_eq_false (by omega);clear k1 k2 k3 hq
     go_wp2_with fail
     go_quiet (fail)
     go_wp2
     go_roundw
     case rel=>exact⟨i,by omega,by rfl,k4,hnx.drewN _⟩
     case measure=>first|(simp[intOf];done)|(simp[intOf];omega)
    ·have hc:=aiw (k2 h);have h1:decide (x<y)=false:=decide_eq_false (by omega);have h2:decide (y<x)=true:=decide_eq_true h
     go_wp2_with fail
     go_quiet (fail)
     go_wp2
     go_ret
     exact⟨by first|rfl|(rw[hc];rfl),by first|exact hnx.drewN _|exact hnx2.drewN _⟩
 ·rcases Nat.lt_or_gt_of_ne he with h|h
  ·have hc:=ach (aiy h);have q1:((wO a:Nat):Int)<(wO b:Int):=by omega
   have q2:(((wO a:Nat):Int) != (wO b:Int))=true:=by simp;omega
   clear hA hB hcA hcB hxa hxb;generalize wO a=la at *
   generalize wO b=lb at *
   go_enter func31,ntmps31
   go_wp2
   go_ret
   exact⟨by first|rfl|(rw[hc];rfl),vY.refl _⟩
  ·have hc:=aiw (aiy h);have q1:¬ ((wO a:Nat):Int)<(wO b:Int):=by omega
   have q2:(((wO a:Nat):Int) != (wO b:Int))=true:=by simp;omega
   clear hA hB hcA hcB hxa hxb;generalize wO a=la at *
   generalize wO b=lb at *
   go_enter func31,ntmps31
   go_wp2
   go_ret
   exact⟨by first|rfl|(rw[hc];rfl),vY.refl _⟩
theorem arZ {x i s:Nat} (hx:x<4294967296) (hs:s<32):(bits .and .u32 ((x:Int)/2^s) 1==1)=x.testBit s:=by
 have e:(x:Int)/2^s=((x/2^s:Nat):Int):=by rw[Int.natCast_ediv,Int.natCast_pow];rfl
 have h:=u32_and_nat (x/2^s) 1 (Nat.lt_of_le_of_lt (Nat.div_le_self _ _) hx) (by decide);rw[e,show(1:Int)=((1:Nat):Int) from rfl,h,nat_mask1,Nat.testBit_eq_decide_div_mod_eq];rw[Bool.eq_iff_iff,beq_iff_eq,decide_eq_true_eq];omega
theorem ar0 (w:World) (va:Value) (a i:Nat) (hi:i<=1073741824) (ha:wO a<=34000000) (hA:yc w va (wO a) a) :
  Calls prog 66 #[va,.int .i64 (i:Int)] w λe w'=>e = .returned (.bool (a.testBit i))/\w=w':=by
 have hxa:=Ff a;have hd:=Lp w va (wO a) a (i/32) (by omega) (by omega) hxa hA;rw[show((i/32:Nat):Int)=(i:Int)/32 by omega] at hd;have hb:=arZ (i:=i) (x:=dg a (i/32)) (s:=i%32) (by have:=Ck a (i/32);unfold wo at this;exact this) (by omega);rw[arK a (i/32) (i%32) (by omega),show 32*(i/32)+i%32=i by omega] at hb;generalize dg a (i/32)=x at *
 have q0:(i:Int)>=0:=by omega
 clear hxa hA
 go_enter func66,ntmps66
 go_wp2_with (go_at_call 60;with_reducible refine hd.mono ?_;rintro e w' ⟨rfl,rfl⟩)
 go_ret
 exact⟨rfl,rfl⟩
theorem ar1 {h l:Nat} (hh:h<18446744073709551616) (hl:l<18446744073709551616) :
  ((dg (h*18446744073709551616+l) 0:Nat):Int)=(l:Int)%4294967296/\((dg (h*18446744073709551616+l) 1:Nat):Int)=(l:Int)/4294967296/\((dg (h*18446744073709551616+l) 2:Nat):Int)=(h:Int)%4294967296/\((dg (h*18446744073709551616+l) 3:Nat):Int)=(h:Int)/4294967296:=by
 have e2:(h*18446744073709551616+l)/wo^2=h:=by rw[show wo^2=18446744073709551616 by decide];omega
 refine⟨?_,?_,?_,?_⟩
 ·rw[aca];unfold wo;omega
 ·unfold dg;rw[Nat.pow_one];unfold wo;omega
 ·unfold dg;rw[e2];unfold wo;omega
 ·unfold dg;rw[show wo^3=wo^2*wo from rfl,<- Nat.div_div_eq_div_mul,e2];unfold wo;omega
theorem ar2 {P:Nat->Prop} (h0:P 0) (h1:P 1) (h2:P 2) (h3:P 3):∀ j,j<4->P j:=λj hj=>by rcases(show j=0\/j=1\/j=2\/j=3 by omega) with rfl|rfl|rfl|rfl<;>assumption
theorem ar3 (w:World) (h l:Nat) (hh:h<18446744073709551616) (hl:l<18446744073709551616):Calls prog 87 #[.agg #[.int .u64 (h:Int),.int .u64 (l:Int)]] w (DY w [] (h*18446744073709551616+l)):=by
 obtain⟨d0,d1,d2,d3⟩:=ar1 hh hl;have hx:h*18446744073709551616+l<wo^4:=by rw[show wo^4=340282366920938463463374607431768211456 by decide];omega
 have hR:∀ W:World,yc (W.alloc (.cells #[.int .u32 ((l:Int)%4294967296),.int .u32 ((l:Int)/4294967296),.int .u32 ((h:Int)%4294967296),.int .u32 ((h:Int)/4294967296)] 117)) (.slice (some ⟨W.heap.size,0,none⟩) 4 4) 4 (h*18446744073709551616+l):=λW=>by
  refine yc.some (by simp) (ar2 ?_ ?_ ?_ ?_)
  ·rw[show dV (h*18446744073709551616+l) 0 = .int .u32 ((l:Int)%4294967296) by unfold dV;rw[<- d0];rfl];unfold World.cell?;simp only[World.alloc_heap_new];rfl
  ·rw[show dV (h*18446744073709551616+l) 1 = .int .u32 ((l:Int)/4294967296) by unfold dV;rw[<- d1];rfl];unfold World.cell?;simp only[World.alloc_heap_new];rfl
  ·rw[show dV (h*18446744073709551616+l) 2 = .int .u32 ((h:Int)%4294967296) by unfold dV;rw[<- d2];rfl];unfold World.cell?;simp only[World.alloc_heap_new];rfl
  ·rw[show dV (h*18446744073709551616+l) 3 = .int .u32 ((h:Int)/4294967296) by unfold dV;rw[<- d3];rfl];unfold World.cell?;simp only[World.alloc_heap_new];rfl
 have hR1:=hR (w.alloc (.cells #[.int .u64 (h:Int),.int .u64 (l:Int)] 25));rw[show(w.alloc (.cells #[.int .u64 (h:Int),.int .u64 (l:Int)] 25)).heap.size=w.heap.size+1 by simp] at hR1;have q1:(l:Int)/4294967296<4294967296:=by omega
 have q2:(h:Int)/4294967296<4294967296:=by omega
 clear hR d0 d1 d2 d3;generalize h*18446744073709551616+l=X at *
 go_enter func87,ntmps87
 go_wp2_with (go_at_call 59;with_reducible refine(Nt _ _ 4 X (by omega) hx hR1 (λad n c h=>by cases h;exact Nat.le_refl _)).mono ?_;rintro e w' ⟨u,rfl,hr,hbk,rfl⟩)
 go_ret
 exact⟨_,rfl,hr,λb h=>(by have h2:some (w.heap.size+1)=some b:=hbk b h;cases h2;omega),((vY.refl w).alloc _).alloc _⟩
def Gb (N X Y t:Nat):List Value:=(List.range N).map λj=>if j<t then dV Y j else dV X j
theorem acl {N X Y t j:Nat} (h:j<N):(Gb N X Y t)[j]? = some (if j<t then dV Y j else dV X j):=by simp[Gb,h]
theorem ar4 {N X Y t:Nat} (h:t<N):(Gb N X Y t).set t (dV Y t)=Gb N X Y (t+1):=by
 apply List.ext_getElem?;intro j;rw[List.getElem?_set];by_cases hj:j<N
 ·rw[acl (t:=t+1) hj];by_cases e:t=j
  ·subst e;rw[if_pos rfl,if_pos (by simpa [Gb] using h),if_pos (Nat.lt_succ_self _)]
  ·rw[if_neg e,acl hj];by_cases h2:j<t
   ·rw[if_pos h2,if_pos (by omega)]
   ·rw[if_neg h2,if_neg (by omega)]
 ·have hn:∀ t',(Gb N X Y t')[j]? = none:=λt'=>by simp[Gb];omega
  rw[hn,hn,if_neg (by omega)]
theorem ar5 {N X Y t:Nat} (h:∀ j,j<t->dg Y j=dg X j):Gb N X Y t=zS N X:=by
 unfold Gb zS;apply List.map_congr_left;intro j _;split
 ·rename_i h1;unfold dV;rw[h j h1]
 ·rfl
theorem ar6 {N X Y t:Nat} (h:∀ j,t<=j->dg X j=dg Y j):Gb N X Y t=zS N Y:=by
 unfold Gb zS;apply List.map_congr_left;intro j _;split
 ·rfl
 ·rename_i h1;unfold dV;rw[h j (by omega)]
theorem ar7 {a b i j:Nat} (h:j<i):dg (mX a b (i+1)) j=dg (mX a b i) j:=by
 rw[Xu];generalize dg a i*b=z;generalize mX a b i=x
 have e:wo^i*z=wo^j*(wo*(wo^(i-j-1)*z)):=by rw[<- Nat.mul_assoc,<- Nat.mul_assoc,<- Nat.pow_succ,<- Nat.pow_add];congr 2;omega
 unfold dg;rw[e,Nat.add_mul_div_left _ _ (AY j),Nat.add_mul_mod_self_left]
theorem ar8 {x y:Nat} (hx:x<4294967296) (hy:y<4294967296):IntKind.u64.wrap ((x:Int)*(y:Int))=((x*y:Nat):Int)/\x*y<=18446744065119617025:=by have h:x*y<=4294967295*4294967295:=Nat.mul_le_mul (by omega) (by omega);refine⟨?_,by omega⟩;rw[<- Int.natCast_mul,zF];exact Hd _ (by unfold vZ;omega)
theorem ar9 (w:World) (va vb:Value) (a b:Nat) (ha:wO a<=34000000) (hb:wO b<=34000000) (hA:yc w va (wO a) a) (hB:yc w vb (wO b) b) :
  Calls prog 37 #[va,vb] w (DY w [va,vb] (a*b)):=by
 obtain⟨i0,hi,hz0,hz1,hz2⟩:=info_parts UE;obtain⟨ada,capa,rfl,hcA⟩:=hA.any;obtain⟨adb,capb,rfl,_⟩:=hB.any;have hxa:=Ff a;have hxb:=Ff b;generalize wO a=la at *
 generalize wO b=lb at *
 go_enter func37,ntmps37
 go_wp2_with (at_make;refine wpList_make_full _ rfl (.tmp 14) (.tmp 14) 33 rfl w.heap.size 117 i0 (.int .u32 0) 1 underlying33 hi hz0 hz1 .i64 .i64 ((la:Int)+lb+1) ((la:Int)+lb+1) (la+lb+1) rfl rfl (by omega) (by omega) (by rw[hz2];omega) (by unfold maxLen;omega) (Nat.le_refl _) ?_;intro w1 hown0 hgrow0)
 have hB1:Below w.heap.size w w1:=(Below.refl _ w).grown hgrow0 (Nat.le_refl _) (λk hk=>by cases hk)
 have hz:(madeCells (Value.int .u32 0).cells ((la+lb+1)*1)).toList=zS (la+lb+1) (mX a b 0):=by rw[arz,show(Value.int .u32 0).cells = #[Value.int .u32 0] from rfl,toList_madeCells_one,Nat.mul_one];symm;unfold zS;rw[List.eq_replicate_iff];refine⟨by simp,λb hb=>?_⟩;obtain⟨j,hj,rfl⟩:=List.mem_map.1 hb;unfold dV;rw[P5 (AY j)];rfl
 rw[hz] at hown0;clear hz;obtain⟨N,hN⟩:∃ N,la+lb+1=N:=⟨_,rfl⟩;rw[hN] at hown0 ⊢
 go_loopw [6] (λi wr=>∃ k:Nat,k<=la/\i = .int .i64 (k:Int)/\wr.ownsRow w.heap.size 117 1 (.slice (some ⟨w.heap.size,0,none⟩) N N) N (zS N (mX a b k))/\Below w.heap.size w wr)
  (λi _=>la-(intOf i).toNat)
 case atStart=>exact⟨0,Nat.zero_le _,rfl,hown0,hB1⟩
 case round =>
  clear hown0 hB1 hgrow0;obtain⟨i,hi',rfl,hown,hnx⟩:=hrel;by_cases hlt:i<la
  ·obtain⟨ba,oa,rfl,hba,hca⟩:=hcA (by omega);have q1:(i:Int)<(la:Int):=by omega
   rw[<- ar5 (Y:=mX a b (i+1)) (λj hj=>ar7 hj)] at hown
   go_wp2
   go_loopw [7,8] (λc k w2=>∃ j:Nat,j<=lb+1/\k = .int .i64 (j:Int)/\c = .int .u64 (Bu a b i j:Int)/\w2.ownsRow w.heap.size 117 1 (.slice (some ⟨w.heap.size,0,none⟩) N N) N (Gb N (mX a b i) (mX a b (i+1)) (i+j))/\Below w.heap.size w w2)
    (λ_ k _=>lb+1-(intOf k).toNat)
   case atStart=>exact⟨0,Nat.zero_le _,rfl,by rw[arB];rfl,hown,hnx⟩
   case round =>
    clear hown hnx;obtain⟨j,hj,rfl,rfl,hown,hnx⟩:=hrel
    have hiN:i+j<N\/Bu a b i j=0/\lb<=j:=by
     rcases Nat.lt_or_ge j (lb+1) with h|h
     ·left;omega
     ·right;have:j=lb+1:=by omega
      subst this;exact⟨aiv hxb,by omega⟩
    by_cases hend:lb<=j/\Bu a b i j=0
    ·have hx:=ar6 (N:=N) (X:=mX a b i) (Y:=mX a b (i+1)) (t:=i+j) (λr hr=>arG (Nat.lt_of_lt_of_le hxb (Nat.pow_le_pow_right Hl hend.1)) hend.2 hr);rw[hx] at hown;have hc0:=hend.2;have q2:¬ (j:Int)<(lb:Int):=by omega
     rw[hc0]
     go_wp2
     go_roundw
     case rel=>exact⟨i+1,by omega,by go_num,hown,hnx⟩
     case measure=>simp[intOf];omega
    ·have hlj:i+j<N:=by
      rcases hiN with h|h
      ·exact h
      ·exact absurd ⟨h.2,h.1⟩ hend
     have hjl:j<lb+1:=by
      apply Nat.lt_of_not_le;intro hge;have:j=lb+1:=by omega
      subst this;exact hend ⟨by omega,aiv hxb⟩
     have c1:=(hnx.cell (p:=⟨ba,oa+i,none⟩) hba).trans (hca i (by omega));have c2:=(World.ownsRow.cellAt hown (i+j) (by omega)).trans (acl hlj);rw[if_neg (Nat.lt_irrefl _)] at c2;have f2:=World.ownsRow.frozenAt hown (i+j);have hset:=World.ownsRow.stored hown (i+j) (dV (mX a b (i+1)) (i+j));rw[ar4 hlj] at hset;have b1:=arF a b i j;have b2:=Ck a i;have b3:=Ck b j;have b4:=Ck (mX a b i) (i+j);have e1:=arE a b i j;have e2:=arC a b i j;have hBr:=hB.bel (hnx:vY w wr);unfold dV at c1 c2 hset;rw[show Int.ofNat (dg a i)=((dg a i:Nat):Int) from rfl] at c1;rw[show Int.ofNat (dg (mX a b i) (i+j))=((dg (mX a b i) (i+j):Nat):Int) from rfl] at c2;rw[show Int.ofNat (dg (mX a b (i+1)) (i+j))=((dg (mX a b (i+1)) (i+j):Nat):Int) from rfl] at hset
     have hdd:∀ m,Calls prog 60 #[.slice adb lb capb,.int .i64 (j:Int)] (wr.drewN m) λe w'=>e = .returned (.int .u32 (dg b j:Int))/\w'=wr.drewN m:=λm =>
      (Lp (wr.drewN m) _ lb b j (by omega) (by omega) hxb (hBr.bel ((vY.refl _).drewN _))).mono λe w' h=>⟨h.1,h.2.symm⟩
     generalize dg a i=x at *
     generalize dg b j=y at *
     generalize dg (mX a b i) (i+j)=z at *
     generalize hD:dg (mX a b (i+1)) (i+j)=D at *
     unfold wo at b1 b2 b3 b4 e1;obtain⟨m1,m2⟩:=ar8 b2 b3;have qc:(j:Int)<(lb:Int)\/(¬ (j:Int)<(lb:Int)/\(Bu a b i j:Int)>0):=by omega
     have hc':((Bu a b i (j+1):Nat):Int)=((Bu a b i j:Nat)+((x*y:Nat)+z:Nat):Int)/4294967296:=by rw[<- e2];unfold wo;omega
     generalize Bu a b i j=c at *
     generalize hcy:Bu a b i (j+1)=c' at *
     have hcy:=Lib.hid hcy;generalize x*y=P at *
     have ez:((c:Int)+P+z)%4294967296=(D:Int):=by omega
     have ec:((c:Int)+P+z)/4294967296=(c':Int):=by omega
     have qi:((i:Int)+j)<(N:Int):=by omega
     clear e1 e2 hc';rcases qc with q2|⟨q2,q3⟩
     all_goals
      go_wp2_with fail
      go_quiet ((go_at_call 60;with_reducible exact Calls.quiet_of_same (hdd _)))
      clear hdd
      go_wp2_with fail
      refine⟨⟨j+1,by omega,by go_num,by rw[hcy.out],?_,?_⟩,by simp[intOf];omega⟩
      ·rw[<- Nat.add_assoc];exact hset.1
      ·exact(show Below w.heap.size w (wr.drewN nq) from⟨hnx.os,hnx.tape,hnx.output,hnx.size,hnx.block⟩).setCell (p:=⟨w.heap.size,i+j,none⟩) (Nat.le_refl _) _
  ·obtain rfl:i=la:=by omega
   rw[arA hxa] at hown
   have l3:a*b<wo^N:=by rw[<- hN,Nat.pow_succ,Nat.pow_add];exact Nat.lt_of_lt_of_le (Nat.mul_lt_mul'' hxa hxb) (Nat.le_mul_of_pos_right _ Hl)
   have hmk:N<=70000000:=by omega
   have q1:¬ (i:Int)<(i:Int):=by omega
   go_wp2_with (go_at_call 59;with_reducible refine(Nt _ _ _ _ hmk l3 (UC hown) (UF hown)).mono ?_;rintro e w' ⟨u,rfl,hr,hbk,rfl⟩)
   go_ret
   exact DY.of hown hr hbk hnx
def gN (l:List Int) (i:Nat):Nat:=(wC l i).toNat
def gU (l:List Int) (i:Nat):Nat:=(IntKind.u64.wrap (wC l i)).toNat
def gW (l:List Int) (i:Nat):Int:=IntKind.i64.wrap (wC l i)
theorem acm (l:List Int) (i:Nat):gU l i<18446744073709551616:=by unfold gU IntKind.wrap IntKind.bits IntKind.signed;simp;omega
theorem acn (l:List Int) (i:Nat):IntKind.u64.wrap (wC l i)=(gU l i:Int):=by unfold gU IntKind.wrap IntKind.bits IntKind.signed;simp;omega
def Nu (a:Nat) (n:Int):Bool:=EC a&&(decide (0<=n)&&decide (n<=1073741824))
theorem aco {a:Nat} {n:Int} (h:Nu a n=true):wO a<=34000000/\∃ k:Nat,n=(k:Int)/\k<=1073741824:=by unfold Nu at h;simp only[Bool.and_eq_true,decide_eq_true_eq] at h;have:=aiz h.1;exact⟨by omega,n.toNat,by omega,by omega⟩
theorem Lr {a:Nat} (h:EC a=true):wO a<=34000000:=by have:=aiz h;omega
def P7 (l:List Int):List Int:=[(gU l 0:Int)]
def P8 (l:List Int):List Int:=[((gU l 0*18446744073709551616+gU l 1:Nat):Int)]
def IE (l:List Int):List Int:=if (EC (gN l 0)&&EC (gN l 1))=true then [zT (gN l 0) (gN l 1)] else []
def Ls (l:List Int):List Int:=if (EC (gN l 0)&&EC (gN l 1))=true then [((gN l 0+gN l 1:Nat):Int)] else []
def Lt (l:List Int):List Int:=if (EC (gN l 0)&&decide (gN l 1<=gN l 0))=true then [((gN l 0-gN l 1:Nat):Int)] else []
def P9 (l:List Int):List Int:=if (EC (gN l 0)&&EC (gN l 1))=true then [((gN l 0*gN l 1:Nat):Int)] else []
def IG (l:List Int):List Int:=if Nu (gN l 0) (gW l 1)=true then [((gN l 0*2^(gW l 1).toNat:Nat):Int)] else []
def Lu (l:List Int):List Int:=if Nu (gN l 0) (gW l 1)=true then [((gN l 0/2^(gW l 1).toNat:Nat):Int)] else []
def Qa (l:List Int):List Int:=if Nu (gN l 0) (gW l 1)=true then [wh ((gN l 0).testBit (gW l 1).toNat)] else []
theorem aiC {w:World} {l:List Int} {fvs:List Value} {k:VK} (h:yD w [k] l fvs):∃ n v,l = [n]/\fvs = [v]/\MU w k n v:=by
 match l,fvs,h with
 | [n],[v],h=>exact⟨n,v,rfl,rfl,h.1⟩
 | [],fvs,h=>cases fvs<;>exact h.elim
 | _::_::_,[],h=>exact h.elim
 | _::_::_,_ :: [],h=>exact h.2.elim
 | _::_::_,_::_::_,h=>exact h.2.elim
 | [_],[],h=>exact h.elim
 | [_],_::_::_,h=>exact h.2.elim
theorem JO {w:World} {l:List Int} {fvs:List Value} {k k':VK} (h:yD w [k,k'] l fvs):∃ n m v u,l = [n,m]/\fvs = [v,u]/\MU w k n v/\MU w k' m u:=by
 match l,fvs,h with
 | n::l,v::fvs,h =>
  obtain⟨m,u,rfl,rfl,h2⟩:=aiC h.2;exact⟨n,m,v,u,rfl,rfl,h.1,h2⟩
 | [],fvs,h=>cases fvs<;>exact h.elim
 | _::_,[],h=>exact h.elim
theorem asa:yM prog gG ⟨67,⟨[.sc kU],[.sc .nat]⟩,P7⟩:=by
 refine⟨by decide,λl _ _=>Ns func67 (by kernel_rfl) (by kernel_rfl) λw fvs _ hfit=>?_⟩;obtain⟨n,v,rfl,rfl,h1⟩:=aiC hfit;have e:v = .int .u64 (gU [n] 0:Int):=by rw[<- acn];exact h1
 subst e;exact(arR w _ (acm [n] 0)).mono λe w' h=>h
theorem Lv {P:Program} {G:wQ} {g:FuncId} {a r:List Sh} {F v:List Int->List Int} {c:List Int->Bool} (hF:∀ l,F l=if c l=true then v l else []) (hr:0<(vV r).length) (h2:zx (vV r)<=2) (h:∀ l,c l=true->Io P G g ⟨a,r⟩ l (v l)):yM P G ⟨g,⟨a,r⟩,F⟩:=by
 refine⟨h2,λl _ hl=>?_⟩;show Io P G g ⟨a,r⟩ l (F l);have hl:(F l).length=(vV r).length:=hl;by_cases hc:c l=true
 ·rw[hF l,if_pos hc];exact h l hc
 ·rw[hF l,if_neg hc] at hl;simp only[List.length_nil] at hl;omega
theorem asb:yM prog gG ⟨87,⟨[.agg [kU,kU]],[.sc .nat]⟩,P8⟩:=by
 refine⟨by decide,λl _ _=>Ns func87 (by kernel_rfl) (by kernel_rfl) λw fvs _ hfit=>?_⟩;obtain⟨n,m,v,u,rfl,rfl,h1,h2⟩:=JO hfit;have e1:v = .int .u64 (gU [n,m] 0:Int):=by rw[<- acn];exact h1
 have e2:u = .int .u64 (gU [n,m] 1:Int):=by rw[<- acn];exact h2
 subst e1;subst e2;exact(ar3 w _ _ (acm [n,m] 0) (acm [n,m] 1)).mono λe w' h=>h
theorem asc:yM prog gG ⟨31,⟨[.sc .nat,.sc .nat],[.sc (.int .i64)]⟩,IE⟩:=by
 refine Lv (v:=λl=>[zT (gN l 0) (gN l 1)]) (λ_=>rfl) (by decide) (by decide) λl h=>?_
 simp only[Bool.and_eq_true] at h
 have hw:IntKind.i64.wrap (zT (gN l 0) (gN l 1))=zT (gN l 0) (gN l 1):=by
  unfold zT;split
  ·rfl
  ·split<;>rfl
 refine aci func31 (by kernel_rfl) (by kernel_rfl) [.int .i64 (zT (gN l 0) (gN l 1))] (λw=>⟨?_,trivial⟩) (λv hv=>by rw[List.mem_singleton.1 hv];rfl) λw fvs _ hfit=>?_
 ·show Value.int .i64 _ = .int .i64 (IntKind.i64.wrap _);rw[hw]
 ·obtain⟨n,m,v,u,rfl,rfl,h1,h2⟩:=JO hfit;exact(arY w v u _ _ (Lr h.1) (Lr h.2) (Ga h1) (Ga h2)).mono λe w' h=>h
theorem ase:yM prog gG ⟨30,⟨[.sc .nat,.sc .nat],[.sc .nat]⟩,Ls⟩:=by
 refine Lv (v:=λl=>[((gN l 0+gN l 1:Nat):Int)]) (λ_=>rfl) (by decide) (by decide) λl h=>?_
 simp only[Bool.and_eq_true] at h;refine Ns func30 (by kernel_rfl) (by kernel_rfl) λw fvs _ hfit=>?_
 obtain⟨n,m,v,u,rfl,rfl,h1,h2⟩:=JO hfit;exact(arN w v u _ _ (Lr h.1) (Lr h.2) (Ga h1) (Ga h2)).mono λe w' h=>h
theorem asf:yM prog gG ⟨32,⟨[.sc .nat,.sc .nat],[.sc .nat]⟩,Lt⟩:=by
 refine Lv (v:=λl=>[((gN l 0-gN l 1:Nat):Int)]) (λ_=>rfl) (by decide) (by decide) λl h=>?_
 simp only[Bool.and_eq_true,decide_eq_true_eq] at h;refine Ns func32 (by kernel_rfl) (by kernel_rfl) λw fvs _ hfit=>?_
 obtain⟨n,m,v,u,rfl,rfl,h1,h2⟩:=JO hfit;exact(arO w v u _ _ h.2 (Lr h.1) (Ga h1) (Ga h2)).mono λe w' h=>h
theorem asg:yM prog gG ⟨37,⟨[.sc .nat,.sc .nat],[.sc .nat]⟩,P9⟩:=by
 refine Lv (v:=λl=>[((gN l 0*gN l 1:Nat):Int)]) (λ_=>rfl) (by decide) (by decide) λl h=>?_
 simp only[Bool.and_eq_true] at h;refine Ns func37 (by kernel_rfl) (by kernel_rfl) λw fvs _ hfit=>?_
 obtain⟨n,m,v,u,rfl,rfl,h1,h2⟩:=JO hfit;exact(ar9 w v u _ _ (Lr h.1) (Lr h.2) (Ga h1) (Ga h2)).mono λe w' h=>h
theorem ash:yM prog gG ⟨29,⟨[.sc .nat,.sc (.int .i64)],[.sc .nat]⟩,IG⟩:=by
 refine Lv (v:=λl=>[((gN l 0*2^(gW l 1).toNat:Nat):Int)]) (λ_=>rfl) (by decide) (by decide) λl h=>?_
 obtain⟨h0,k,hk,hk2⟩:=aco h;refine Ns func29 (by kernel_rfl) (by kernel_rfl) λw fvs _ hfit=>?_
 obtain⟨n,m,v,u,rfl,rfl,h1,h2⟩:=JO hfit;have e2:u = .int .i64 (gW [n,m] 1):=h2;rw[hk] at e2;subst e2;rw[hk,Int.toNat_natCast];exact(arV w v _ k hk2 h0 (Ga h1)).mono λe w' h=>h
theorem asi:yM prog gG ⟨65,⟨[.sc .nat,.sc (.int .i64)],[.sc .nat]⟩,Lu⟩:=by
 refine Lv (v:=λl=>[((gN l 0/2^(gW l 1).toNat:Nat):Int)]) (λ_=>rfl) (by decide) (by decide) λl h=>?_
 obtain⟨h0,k,hk,hk2⟩:=aco h;refine Ns func65 (by kernel_rfl) (by kernel_rfl) λw fvs _ hfit=>?_
 obtain⟨n,m,v,u,rfl,rfl,h1,h2⟩:=JO hfit;have e2:u = .int .i64 (gW [n,m] 1):=h2;rw[hk] at e2;subst e2;rw[hk,Int.toNat_natCast];exact(arX w v _ k hk2 h0 (Ga h1)).mono λe w' h=>h
theorem asj:yM prog gG ⟨66,⟨[.sc .nat,.sc (.int .i64)],[.sc .bool]⟩,Qa⟩:=by
 refine Lv (v:=λl=>[wh ((gN l 0).testBit (gW l 1).toNat)]) (λ_=>rfl) (by decide) (by decide) λl h=>?_
 obtain⟨h0,k,hk,hk2⟩:=aco h;refine aci func66 (by kernel_rfl) (by kernel_rfl) [.bool ((gN l 0).testBit k)] (λw=>⟨?_,trivial⟩) (λv hv=>by rw[List.mem_singleton.1 hv];rfl) λw fvs _ hfit=>?_
 ·show Value.bool _ = .bool (wh _ != 0);rw[yX,hk,Int.toNat_natCast]
 ·obtain⟨n,m,v,u,rfl,rfl,h1,h2⟩:=JO hfit;have e2:u = .int .i64 (gW [n,m] 1):=h2;rw[hk] at e2;subst e2;exact(ar0 w v _ k hk2 h0 (Ga h1)).mono λe w' h=>⟨h.1,by rw[<- h.2];exact vY.refl w⟩
theorem aiD (n i:Nat):IntKind.u32.wrap (dg n i:Int)=(dg n i:Int):=by have h:=Ck n i;unfold wo at h;unfold IntKind.wrap IntKind.bits IntKind.signed;simp;omega
def okD (a:Nat) (n:Int):Bool:=EC a&&(decide (0<=n)&&decide (n<=1000))
theorem asl:yM prog gG ⟨60,⟨[.sc .nat,.sc (.int .i64)],[.sc (.int .u32)]⟩,λl=>if okD (gN l 0) (gW l 1)=true then [(dg (gN l 0) (gW l 1).toNat:Int)] else []⟩:=by
 refine Lv (v:=λl=>[(dg (gN l 0) (gW l 1).toNat:Int)]) (c:=λl=>okD (gN l 0) (gW l 1)) (λ_=>rfl) (by decide) (by decide) λl h=>?_
 simp only[okD,Bool.and_eq_true,decide_eq_true_eq] at h;obtain⟨k,hk⟩:∃ k:Nat,gW l 1=(k:Int):=⟨(gW l 1).toNat,by omega⟩;have h0:=Lr h.1;refine aci func60 (by kernel_rfl) (by kernel_rfl) [.int .u32 (dg (gN l 0) k:Int)] (λw=>⟨?_,trivial⟩) (λv hv=>by rw[List.mem_singleton.1 hv];rfl) λw fvs _ hfit=>?_
 ·show Value.int .u32 _ = .int .u32 (IntKind.u32.wrap _);rw[hk,Int.toNat_natCast,aiD]
 ·obtain⟨n,m,v,u,rfl,rfl,h1,h2⟩:=JO hfit;have e2:u = .int .i64 (gW [n,m] 1):=h2;rw[hk] at e2;subst e2;exact(Lp w v (wO (gN [n,m] 0)) (gN [n,m] 0) k (by omega) (by omega) (Ff _) (Ga h1)).mono λe w' h=>⟨h.1,by rw[<- h.2];exact vY.refl w⟩
def Qb (l:List Int):List Int:=if okD (gN l 0) (gW l 1)=true then [(dg (gN l 0) (gW l 1).toNat:Int)] else []
def N0:List wY:=[⟨67,⟨[.sc kU],[.sc .nat]⟩,P7⟩,⟨87,⟨[.agg [kU,kU]],[.sc .nat]⟩,P8⟩,⟨31,⟨[.sc .nat,.sc .nat],[.sc (.int .i64)]⟩,IE⟩,⟨30,⟨[.sc .nat,.sc .nat],[.sc .nat]⟩,Ls⟩,⟨32,⟨[.sc .nat,.sc .nat],[.sc .nat]⟩,Lt⟩,⟨37,⟨[.sc .nat,.sc .nat],[.sc .nat]⟩,P9⟩,⟨29,⟨[.sc .nat,.sc (.int .i64)],[.sc .nat]⟩,IG⟩,⟨65,⟨[.sc .nat,.sc (.int .i64)],[.sc .nat]⟩,Lu⟩,⟨66,⟨[.sc .nat,.sc (.int .i64)],[.sc .bool]⟩,Qa⟩,⟨60,⟨[.sc .nat,.sc (.int .i64)],[.sc (.int .u32)]⟩,Qb⟩]
theorem aiE:∀ e∈N0,yM prog gG e:=List.forall_mem_cons.2 ⟨asa,List.forall_mem_cons.2 ⟨asb,List.forall_mem_cons.2 ⟨asc,List.forall_mem_cons.2 ⟨ase,List.forall_mem_cons.2 ⟨asf,List.forall_mem_cons.2 ⟨asg,List.forall_mem_cons.2 ⟨ash,List.forall_mem_cons.2 ⟨asi,List.forall_mem_cons.2 ⟨asj,List.forall_mem_cons.2 ⟨asl,λe he=>by cases he⟩⟩⟩⟩⟩⟩⟩⟩⟩⟩
def C0:List wY:=[]
theorem acp:∀ e∈C0,yT prog gG e:=λe he=>by cases he
def Z0:List yU:=[]
theorem Qc:∀ e∈Z0,WH prog gG e:=λe he=>by cases he
end Go.Proofs.YtippohicjhilnaaGreatDoor
