import Derived.Test.YtippohicjhilnaaGreatDoorZBTr
import Derived.Test.YtippohicjhilnaaGreatDoorZDTr
import Derived.Test.YtippohicjhilnaaGreatDoorZGTr
import Derived.Deep.QuietTactic
import Derived.BigQuiet
import Derived.Laws.OwnMore
set_option linter.unusedSimpArgs false
set_option linter.unusedVariables false
set_option maxRecDepth 100000
set_option maxHeartbeats 2000000
open Go.Proofs.Tryz
namespace Go.Proofs.YtippohicjhilnaaGreatDoor
open Go.RowKit
def ug:Nat:=4294967296
theorem Fq:0<ug:=by decide
theorem NN:ug=2^32:=by decide
theorem yV (k:Nat):0<ug^k:=Nat.pow_pos Fq
def dg (x j:Nat):Nat:=x/ug^j%ug
def dV (x j:Nat):Value:=.int .u32 (Int.ofNat (dg x j))
theorem Ap (x j:Nat):dg x j<ug:=Nat.mod_lt _ Fq
theorem aad (x:Nat):dg x 0=x%ug:=by unfold dg;rw[Nat.pow_zero,Nat.div_one]
theorem dg_succ (x j:Nat):dg x (j+1)=dg (x/ug) j:=by unfold dg;rw[Nat.pow_succ,Nat.mul_comm,Nat.div_div_eq_div_mul]
theorem NP {x j:Nat} (h:x<ug^j):dg x j=0:=by unfold dg;rw[Nat.div_eq_of_lt h];rfl
theorem apm {x j k:Nat} (h:x<ug^j) (hk:j<=k):dg x k=0:=NP (Nat.lt_of_lt_of_le h (Nat.pow_le_pow_right Fq hk))
theorem Lb (x k:Nat):x%ug^(k+1)=x%ug^k+ug^k*dg x k:=by unfold dg;rw[Nat.pow_succ,Nat.mod_mul]
def raw (k x:Nat):List Nat:=(List.range k).map (dg x)
def xY (k x:Nat):List Value:=(List.range k).map (dV x)
theorem af3 (k x:Nat):(xY k x).length=k:=by simp[xY]
theorem Vj {k x j:Nat} (h:j<k):(xY k x)[j]? = some (dV x j):=by simp[xY,h]
theorem NQ (k x:Nat):xY (k+1) x=xY k x ++ [dV x k]:=by simp[xY,List.range_succ]
theorem af4 (f g:Nat->Nat) (h:∀ j,f (j+1)=g j):∀ k,(List.range (k+1)).map f=f 0::(List.range k).map g
 | 0=>rfl
 | k+1=>by rw[List.range_succ,List.map_append,af4 f g h k,List.range_succ (n:=k),List.map_append,List.map_singleton,List.map_singleton,h k];rfl
theorem apn (k x:Nat):raw (k+1) x=dg x 0::raw k (x/ug):=af4 (dg x) (dg (x/ug)) (dg_succ x) k
theorem aae (f m:Nat):EJ (f+1) (m+1)=(m+1)%4294967296::EJ f ((m+1)/4294967296):=rfl
theorem af5 (m:Nat):(m+1)/4294967296<=m:=Nat.le_of_lt_succ (Nat.div_lt_self (Nat.succ_pos m) (by decide))
theorem af6 (f:Nat):EJ f 0 = []:=by cases f<;>rfl
theorem af7:∀ (N f g n:Nat),n<=N->n<=f->n<=g->EJ f n=EJ g n
 | N,f,g,0,_,_,_=>by rw[af6,af6]
 | 0,f,g,m+1,h,_,_=>absurd h (by omega)
 | N+1,0,g,m+1,_,h,_=>absurd h (by omega)
 | N+1,f+1,0,m+1,_,_,h=>absurd h (by omega)
 | N+1,f+1,g+1,m+1,h1,h2,h3=>by have hd:=af5 m;rw[aae,aae];generalize (m+1)/4294967296=q at hd ⊢;rw[af7 N f g q (by omega) (by omega) (by omega)]
theorem apo (f n:Nat) (h:n<=f):EJ f n=EJ n n:=af7 n f n n (Nat.le_refl _) h (Nat.le_refl _)
theorem af8 {n:Nat} (h:0<n):QL n=n%ug::QL (n/ug):=by
 cases n with
 | zero=>omega
 | succ m =>
  have hd:=af5 m;show EJ (m+1) (m+1)=(m+1)%4294967296::EJ ((m+1)/4294967296) ((m+1)/4294967296);rw[aae];generalize (m+1)/4294967296=q at hd ⊢;rw[apo m q hd]
theorem apq:uH 0=0:=rfl
theorem aaf {n:Nat} (h:0<n):uH n=uH (n/ug)+1:=by unfold uH;rw[af8 h];rfl
theorem apr (n:Nat):QL n=raw (uH n) n:=by
 induction n using Nat.strongRecOn with
 | _ n ih =>
  rcases Nat.eq_zero_or_pos n with rfl|h
  ·rfl
  ·rw[af8 h,aaf h,apn,aad,<- ih _ (Nat.div_lt_self h (by decide))]
theorem af9 (n:Nat):Bu n=xY (uH n) n:=by unfold Bu xY;rw[apr,raw,List.map_map];rfl
theorem Lc {n k:Nat} : n<ug^k↔uH n<=k:=by
 induction k generalizing n with
 | zero =>
  rw[Nat.pow_zero];constructor
  ·intro h;have:n=0:=by omega
   subst this;exact Nat.le_refl _
  ·intro h;rcases Nat.eq_zero_or_pos n with rfl|h1
   ·decide
   ·rw[aaf h1] at h;omega
 | succ k ih =>
  rcases Nat.eq_zero_or_pos n with rfl|h1
  ·rw[apq];exact⟨λ_=>Nat.zero_le _,λ_=>yV _⟩
  ·rw[aaf h1,Nat.add_le_add_iff_right,<- ih,Nat.pow_succ,Nat.div_lt_iff_lt_mul Fq]
theorem Du (n:Nat):n<ug^uH n:=Lc.2 (Nat.le_refl _)
theorem aps {n k:Nat} (h:k<uH n):ug^k<=n:=by apply Nat.le_of_not_lt;intro h2;have:=Lc.1 h2;omega
theorem apt {n k:Nat} (h:n<ug^(k+1)) (hd:dg n k≠0):uH n=k+1:=by
 have h1:=Lc.1 h;by_cases h2:uH n<=k
 ·exact absurd (NP (Lc.2 h2)) hd
 ·omega
theorem apu {n k:Nat} (h:n<ug^(k+1)) (hd:dg n k=0):n<ug^k:=by have h1:=Lb n k;rw[hd,Nat.mul_zero,Nat.add_zero,Nat.mod_eq_of_lt h] at h1;rw[h1];exact Nat.mod_lt _ (yV _)
def vY (w:World) (v:Value) (k x:Nat):Prop:=Reads w v k (xY k x)
theorem vY.nat {w:World} {v:Value} {n:Nat} (h:Reads w v (uH n) (Bu n)):vY w v (uH n) n:=by unfold vY;rw[<- af9];exact h
theorem vY.to {w:World} {v:Value} {n k:Nat} (h:vY w v k n) (hk:k=uH n):Reads w v (uH n) (Bu n):=by subst hk;rw[af9];exact h
theorem vY.nil (w:World) (x:Nat):vY w (.slice none 0 0) 0 x:=.inl ⟨rfl,rfl,rfl⟩
theorem vY.pos {w:World} {v:Value} {k x:Nat} (h:vY w v k x) (hk:0<k):∃ b off cap,v = .slice (some ⟨b,off,none⟩) k cap/\b<w.heap.size/\∀ j,j<k->w.cell? ⟨b,off+j,none⟩=some (dV x j):=by
 rcases h with⟨_,h1,_⟩|⟨b,off,cap,h1,h2,h3⟩
 ·omega
 ·exact⟨b,off,cap,h1,h2,λj hj=>h3 j _ (Vj hj)⟩
theorem vY.any {w:World} {v:Value} {k x:Nat} (h:vY w v k x):∃ ad cap,v = .slice ad k cap/\(0<k->∃ b off,ad=some ⟨b,off,none⟩/\b<w.heap.size/\∀ j,j<k->w.cell? ⟨b,off+j,none⟩=some (dV x j)):=by
 rcases h with⟨h0,h1,_⟩|⟨b,off,cap,h1,h2,h3⟩
 ·subst h1;exact⟨none,0,h0,λh=>absurd h (by omega)⟩
 ·exact⟨_,cap,h1,λ_=>⟨b,off,rfl,h2,λj hj=>h3 j _ (Vj hj)⟩⟩
theorem vY.bel {A C:World} {v:Value} {k x:Nat} (h:vY A v k x) (hb:tQ A C):vY C v k x :=
 h.same (Below.size hb) λb _ hlt=>Below.block hb b hlt
theorem RU {w:World} {base e:Nat} {v:Value} {k x:Nat} (h:w.ownsRow base e 1 v k (xY k x)):vY w v k x:=by
 rcases h.2 with⟨rfl,rfl⟩|⟨g,cap,cur,rfl,_,hg,_⟩
 ·exact vY.nil _ _
 ·refine .inr ⟨g,0,cap,rfl,(Array.getElem?_eq_some_iff.1 hg).1,λj y hj=>?_⟩;have hlt:j<k:=by have:=(List.getElem?_eq_some_iff.1 hj).1;rwa [af3] at this
  rw[Nat.zero_add,World.ownsRow.cellAt h j (by omega)];exact hj
theorem aag {S k y:Nat} : (S+ug^k*y)/ug^(k+1)=(S/ug^k+y)/ug:=by rw[Nat.pow_succ,<- Nat.div_div_eq_div_mul,Nat.add_mul_div_left _ _ (yV k)]
theorem aah {x S k y:Nat} (h:x%ug^(k+1)=(S+ug^k*y)%ug^(k+1)):(S/ug^k+y)%ug=dg x k:=by unfold dg;rw[<- Nat.mod_mul_right_div_self,<- Nat.pow_succ,h,Nat.pow_succ,Nat.mod_mul_right_div_self,Nat.add_mul_div_left _ _ (yV k)]
def yX (a b k:Nat):Nat:=(a%ug^k+b%ug^k)/ug^k
theorem aga (a b:Nat):yX a b 0=0:=by unfold yX;rw[Nat.pow_zero,Nat.mod_one,Nat.mod_one]
theorem RV (a b k:Nat):yX a b k<=1:=by
 have h1:=Nat.mod_lt a (yV k);have h2:=Nat.mod_lt b (yV k);have h3:yX a b k<2:=by unfold yX;rw[Nat.div_lt_iff_lt_mul (yV k)];omega
 omega
theorem agb (a b k:Nat):a%ug^(k+1)+b%ug^(k+1)=(a%ug^k+b%ug^k)+ug^k*(dg a k+dg b k):=by rw[Lb,Lb,Nat.mul_add];omega
theorem agc (a b k:Nat):(yX a b k+dg a k+dg b k)/ug=yX a b (k+1):=by unfold yX;rw[agb,aag,Nat.add_assoc]
theorem aai (a b k:Nat):(yX a b k+dg a k+dg b k)%ug=dg (a+b) k:=by unfold yX;rw[Nat.add_assoc];apply aah;rw[<- agb];exact Nat.add_mod _ _ _
theorem apv {a b k:Nat} (ha:a<ug^k) (hb:b<ug^k):yX a b k=dg (a+b) k:=by
 have:=aai a b k;rw[NP ha,NP hb,Nat.add_zero,Nat.mod_eq_of_lt] at this
 ·exact this
 ·have:=RV a b k;unfold ug;omega
theorem apw {a b:Nat} (h:b<=a) (k:Nat):(dg a k+ug-dg b k-yX b (a-b) k)%ug=dg (a-b) k/\1-(dg a k+ug-dg b k-yX b (a-b) k)/ug=yX b (a-b) (k+1):=by
 have h1:=aai b (a-b) k;have h2:=agc b (a-b) k;have h3:=RV b (a-b) k;have h4:=RV b (a-b) (k+1);rw[show b+(a-b)=a by omega] at h1;have h5:=Ap b k;have h6:=Ap (a-b) k;generalize dg a k=x at *
 generalize dg b k=y at *
 generalize dg (a-b) k=z at *
 generalize yX b (a-b) k=c at *
 generalize yX b (a-b) (k+1)=c' at *
 clear h;unfold ug at *
 omega
def Dv (a s k:Nat):Nat:=a%ug^k*s/ug^k
theorem apx (a s:Nat):Dv a s 0=0:=by unfold Dv;rw[Nat.pow_zero,Nat.mod_one,Nat.zero_mul]
theorem agd {s:Nat} (hs:0<s) (a k:Nat):Dv a s k<s:=by unfold Dv;rw[Nat.div_lt_iff_lt_mul (yV k),Nat.mul_comm];exact Nat.mul_lt_mul_of_pos_left (Nat.mod_lt _ (yV k)) hs
theorem age (a s k:Nat):a%ug^(k+1)*s=a%ug^k*s+ug^k*(dg a k*s):=by rw[Lb,Nat.add_mul,Nat.mul_assoc]
theorem apy (a s k:Nat):(Dv a s k+dg a k*s)/ug=Dv a s (k+1):=by unfold Dv;rw[age,aag]
theorem agf (a s k:Nat):(Dv a s k+dg a k*s)%ug=dg (a*s) k:=by unfold Dv;apply aah;rw[<- age];conv => { lhs;rw[Nat.mul_mod] };conv => { rhs;rw[Nat.mul_mod,Nat.mod_mod] }
theorem apz {a s k:Nat} (ha:a<ug^k) (hs:0<s) (hs2:s<=ug):Dv a s k=dg (a*s) k:=by have h:=agf a s k;have h2:=agd hs a k;rw[NP ha,Nat.zero_mul,Nat.add_zero,Nat.mod_eq_of_lt (by omega)] at h;exact h
theorem agh (a s q k:Nat):dg (a*(ug^q*s)) (q+k)=dg (a*s) k:=by unfold dg;rw[Nat.pow_add,<- Nat.div_div_eq_div_mul,<- Nat.mul_assoc,Nat.mul_right_comm,Nat.mul_div_cancel _ (yV q)]
theorem apA {a s q j:Nat} (h:j<q):dg (a*(ug^q*s)) j=0:=by unfold dg;rw[show q=j+((q-j-1)+1) by omega,Nat.pow_add,Nat.pow_succ,show a*(ug^j*(ug^(q-j-1)*ug)*s)=ug^j*(a*ug^(q-j-1)*s*ug) by ac_rfl,Nat.mul_div_cancel_left _ (yV j),Nat.mul_mod_left]
theorem apB {s t:Nat} (hs:s*t=ug) (a i:Nat):(dg a i+ug*dg a (i+1))/s%ug=a/ug^i/s%ug:=by
 have h1:dg a i+ug*dg a (i+1)=a/ug^i%(ug*ug):=by unfold dg;rw[Nat.pow_succ,<- Nat.div_div_eq_div_mul,Nat.mod_mul]
 rw[h1];generalize a/ug^i=X;have e:ug*ug=s*(ug*t):=by rw[<- hs];ac_rfl
 rw[e,Nat.mod_mul_right_div_self,Nat.mod_mul_right_mod]
theorem apC (a q s k:Nat):dg (a/(ug^q*s)) k=a/ug^(q+k)/s%ug:=by
 unfold dg;rw[Nat.div_div_eq_div_mul,Nat.div_div_eq_div_mul,Nat.pow_add];congr 2
 ac_rfl
def mX (a b i:Nat):Nat:=a%ug^i*b
def Dw (a b i k:Nat):Nat:=mX a b i%ug^(i+k)+ug^i*(dg a i*(b%ug^k))
def zA (a b i k:Nat):Nat:=Dw a b i k/ug^(i+k)
theorem apD (a b:Nat):mX a b 0=0:=by unfold mX;rw[Nat.pow_zero,Nat.mod_one,Nat.zero_mul]
theorem apE {a b i:Nat} (h:a<ug^i):mX a b i=a*b:=by unfold mX;rw[Nat.mod_eq_of_lt h]
theorem Vk (a b i:Nat):mX a b (i+1)=mX a b i+ug^i*(dg a i*b):=by unfold mX;rw[Lb,Nat.add_mul,Nat.mul_assoc]
theorem apF (a b i:Nat):zA a b i 0=0:=by unfold zA Dw;rw[Nat.pow_zero,Nat.mod_one,Nat.mul_zero,Nat.mul_zero,Nat.add_zero,Nat.add_zero];exact Nat.div_eq_of_lt (Nat.mod_lt _ (yV i))
theorem agi (a b i k:Nat):Dw a b i (k+1)=Dw a b i k+ug^(i+k)*(dg a i*dg b k+dg (mX a b i) (i+k)):=by unfold Dw;rw[<- Nat.add_assoc i k 1,Lb (mX a b i),Lb b,Nat.pow_add];generalize mX a b i%(ug^i*ug^k)=x;generalize dg (mX a b i) (i+k)=y;generalize ug^i=p;generalize ug^k=q;generalize b%q=z;simp only[Nat.mul_add];rw[show p*(dg a i*(q*dg b k))=p*q*(dg a i*dg b k) by ac_rfl];omega
theorem apG (a b i k:Nat):(zA a b i k+(dg a i*dg b k+dg (mX a b i) (i+k)))/ug=zA a b i (k+1):=by unfold zA;rw[agi,<- Nat.add_assoc i k 1,aag]
theorem apH (a b i k:Nat):mX a b (i+1)%ug^(i+k)=Dw a b i k%ug^(i+k):=by
 unfold Dw;have h1:=Nat.mod_add_div (mX a b i) (ug^(i+k));have h2:=Nat.mod_add_div b (ug^k)
 have h3:ug^i*(dg a i*b)=ug^i*(dg a i*(b%ug^k))+ug^(i+k)*(dg a i*(b/ug^k)):=by
  conv => { lhs;rw[<- h2] }
  rw[Nat.mul_add (dg a i),Nat.mul_add (ug^i),Nat.pow_add];congr 1
  ac_rfl
 have e:mX a b (i+1)=mX a b i%ug^(i+k)+ug^i*(dg a i*(b%ug^k))+ug^(i+k)*(mX a b i/ug^(i+k)+dg a i*(b/ug^k)):=by rw[Vk,h3,Nat.mul_add (ug^(i+k))];omega
 rw[e,Nat.add_mul_mod_self_left]
theorem apI (a b i k:Nat):(zA a b i k+(dg a i*dg b k+dg (mX a b i) (i+k)))%ug=dg (mX a b (i+1)) (i+k):=by unfold zA;apply aah;rw[<- agi];exact apH a b i (k+1)
theorem apJ (a b i k:Nat):zA a b i k<ug:=by
 unfold zA;rw[Nat.div_lt_iff_lt_mul (yV _)];unfold Dw;have h1:=Nat.mod_lt (mX a b i) (yV (i+k));have h2:dg a i*(b%ug^k)<=(ug-1)*ug^k:=Nat.mul_le_mul (by have:=Ap a i;omega) (Nat.le_of_lt (Nat.mod_lt _ (yV k)));have h3:=Nat.mul_le_mul_left (ug^i) h2;have e:ug^i*((ug-1)*ug^k)=(ug-1)*ug^(i+k):=by rw[Nat.pow_add];ac_rfl
 have e2:ug*ug^(i+k)=(ug-1)*ug^(i+k)+ug^(i+k):=by rw[<- Nat.succ_mul];rfl
 rw[e] at h3;rw[e2];omega
theorem agj {a b i k:Nat} (hb:b<ug^k):zA a b i (k+1)=0:=by
 unfold zA;apply Nat.div_eq_of_lt;unfold Dw;rw[Nat.mod_eq_of_lt (Nat.lt_of_lt_of_le hb (Nat.pow_le_pow_right Fq (Nat.le_succ k)))];have h1:=Nat.mod_le (mX a b i) (ug^(i+(k+1)))
 have h2:mX a b (i+1)<ug^(i+(k+1)):=by unfold mX;rw[show i+(k+1)=(i+1)+k by omega,Nat.pow_add ug (i+1) k];exact Nat.mul_lt_mul'' (Nat.mod_lt _ (yV _)) hb
 rw[Vk] at h2;omega
theorem apK {a b i k j:Nat} (hb:b<ug^k) (hc:zA a b i k=0) (hj:i+k<=j):dg (mX a b i) j=dg (mX a b (i+1)) j:=by
 have ht:Dw a b i k<ug^(i+k):=by unfold zA at hc;have:=Nat.div_add_mod (Dw a b i k) (ug^(i+k));rw[hc,Nat.mul_zero,Nat.zero_add] at this;rw[<- this];exact Nat.mod_lt _ (yV _)
 have h1:=Nat.mod_add_div (mX a b i) (ug^(i+k))
 have e:mX a b (i+1)=Dw a b i k+ug^(i+k)*(mX a b i/ug^(i+k)):=by unfold Dw;rw[Vk,Nat.mod_eq_of_lt hb];omega
 have hq:mX a b (i+1)/ug^(i+k)=mX a b i/ug^(i+k):=by rw[e,Nat.add_mul_div_left _ _ (yV _),Nat.div_eq_of_lt ht,Nat.zero_add]
 unfold dg;rw[show j=(i+k)+(j-(i+k)) by omega,Nat.pow_add,<- Nat.div_div_eq_div_mul,<- Nat.div_div_eq_div_mul,hq]
def zC (a b:Nat):Int:=if a<b then -1 else if b<a then 1 else 0
theorem agk {a b:Nat} (h:a<b):zC a b = -1:=by unfold zC;rw[if_pos h]
theorem agl {a b:Nat} (h:b<a):zC a b=1:=by unfold zC;rw[if_neg (by omega),if_pos h]
theorem apL (a:Nat):zC a a=0:=by unfold zC;rw[if_neg (Nat.lt_irrefl _),if_neg (Nat.lt_irrefl _)]
theorem Vl (a i:Nat):a/ug^i=ug*(a/ug^(i+1))+dg a i:=by unfold dg;rw[Nat.pow_succ,<- Nat.div_div_eq_div_mul];exact(Nat.div_add_mod _ _).symm
theorem apM {a b p:Nat} (h:a/p<b/p):a<b:=Nat.lt_of_not_le λh2=>by have:=Nat.div_le_div_right (c:=p) h2;omega
theorem agm {a b i:Nat} (h:a/ug^(i+1)=b/ug^(i+1)) (hd:dg a i<dg b i):a<b:=by refine apM (p:=ug^i) ?_;rw[Vl a,Vl b,h];omega
theorem apN {a b i:Nat} (h:a/ug^(i+1)=b/ug^(i+1)) (hd:dg a i=dg b i):a/ug^i=b/ug^i:=by rw[Vl a,Vl b,h,hd]
theorem agn {a b:Nat} (h:uH a<uH b):a<b:=Nat.lt_of_lt_of_le (Du a) (aps h)
theorem apO (a j k:Nat) (hk:k<32):(dg a j).testBit k=a.testBit (32*j+k):=by unfold dg;rw[NN,Nat.testBit_mod_two_pow,decide_eq_true hk,Bool.true_and,<- Nat.pow_mul,Nat.testBit_div_two_pow,Nat.add_comm]
def Cf (w:World) (fvs:List Value) (n:Nat) (e:Ending) (w':World):Prop :=
 ∃ v,e = .returned v/\vY w' v (uH n) n/\(∀ b,wV v=some b->w.heap.size<=b)/\tQ w w'
theorem Es {w:World} {v:Value} {x:Int} (h:KJ w .nat x v):vY w v (uH x.toNat) x.toNat:=vY.nat h
theorem Ld {P:Program} {G:uG} {g:FuncId} {a:List Sh} {l:List Int} {n:Nat} {fn:Func} (hf:P.funcs[g]? = some fn) (hn:(fn.name == "runtime.NumGoroutine")=false) (hb:fn.body.isNone=false)
  (h:∀ w fvs,Gl G w->wF w (tO a) l fvs->Calls P g (EQ a fvs).toArray w (Cf w fvs n)):F6 P G g ⟨a,[.sc .nat]⟩ l [(n:Int)]:=by
 intro w fvs hG hfit;refine DT hf hn hb ((h w fvs hG hfit).mono ?_);rintro e w' ⟨v,rfl,h1,h2,h3⟩;refine⟨[v],rfl,⟨?_,trivial⟩,λu hu=>?_,h3⟩
 ·show Reads w' v (uH (n:Int).toNat) (Bu (n:Int).toNat);rw[Int.toNat_natCast];exact h1.to rfl
 ·rw[List.mem_singleton.1 hu];exact λb hb=>.inl (h2 b hb)
theorem aaj {P:Program} {G:uG} {g:FuncId} {a r:List Sh} {l:List Int} {m:List Int} {fn:Func} (hf:P.funcs[g]? = some fn) (hn:(fn.name == "runtime.NumGoroutine")=false) (hb:fn.body.isNone=false) (vs:List Value) (hk:∀ w,wF w (tO r) m vs) (hv:∀ v∈vs,wV v=none)
  (h:∀ w fvs,Gl G w->wF w (tO a) l fvs->Calls P g (EQ a fvs).toArray w λe w'=>e = .returned (vP (EQ r vs))/\tQ w w'):F6 P G g ⟨a,r⟩ l m:=by
 intro w fvs hG hfit;refine DT hf hn hb ((h w fvs hG hfit).mono ?_);rintro e w' ⟨rfl,h3⟩;exact⟨vs,rfl,hk w',λu hu b hb=>(by rw[hv u hu] at hb;cases hb),h3⟩
def CL (n:Nat):Bool:=Nat.blt (Nat.log2 n) 1073741824
theorem apP (n:Nat):uH n<=Nat.log2 n/32+1:=by
 rw[<- Lc];rcases Nat.eq_zero_or_pos n with rfl|h
 ·exact yV _
 ·have h1:=(Nat.log2_lt (by omega:n≠0)).1 (Nat.lt_succ_self (Nat.log2 n));refine Nat.lt_of_lt_of_le h1 ?_;rw[NN,<- Nat.pow_mul];exact Nat.pow_le_pow_right (by decide) (by omega)
theorem agp {n:Nat} (h:CL n=true):uH n<=33554432:=by
 have h1:Nat.log2 n<1073741824:=by unfold CL at h;simpa [Nat.blt_eq] using h
 have:=apP n;omega
theorem Le {n k:Nat} (h:n<2^k) (hk:k<=1073741824):CL n=true:=by
 unfold CL;rw[Nat.blt_eq];rcases Nat.eq_zero_or_pos n with rfl|h0
 ·decide
 ·have:=(Nat.log2_lt (by omega:n≠0)).2 h;omega
open Go.RowKit Go.Shelf
attribute [local go_sem] Oper.semAt_some
def aak:Value->Nat
 | .slice _ n _=>n
 | _=>0
theorem vY.some {w:World} {b off k cap x:Nat} (hb:b<w.heap.size) (hc:∀ j,j<k->w.cell? ⟨b,off+j,none⟩=some (dV x j)):vY w (.slice (some ⟨b,off,none⟩) k cap) k x :=
 .inr ⟨b,off,cap,rfl,hb,λj y hj=>by
  have hlt:j<k:=by have:=(List.getElem?_eq_some_iff.1 hj).1;rwa [af3] at this
  rw[Vj hlt] at hj;cases hj;exact hc j hlt⟩
theorem agq {x j:Nat} : Int.ofNat (dg x j)=0↔dg x j=0:=Int.ofNat_eq_zero
theorem aal {x j:Nat} (h:x<ug^j) (hd:0<j->dg x (j-1)≠0):uH x=j:=by
 rcases Nat.eq_zero_or_pos j with rfl|h0
 ·exact Nat.le_zero.1 (Lc.1 h)
 ·obtain⟨i,rfl⟩:∃ i,j=i+1:=⟨j-1,by omega⟩;exact apt h (by simpa using hd h0)
theorem Lf (w:World) (v:Value) (k x:Nat) (hk:k<=70000000) (hx:x<ug^k) (h:vY w v k x) (hcap:∀ ad n c,v = .slice ad n c->n<=c) :
  Calls prog 59 #[v] w λe w'=>∃ u,e = .returned u/\vY w u (uH x) x/\(∀ b,wV u=some b->wV v=some b)/\w=w':=by
 rcases h with⟨rfl,rfl,_⟩|⟨b,off,cap,rfl,hb,hcc⟩
 ·have h0:uH x=0:=aal hx (λh=>by omega);rw[h0];have hR:=vY.nil w x
  go_enter func59,ntmps59
  go_wp2
  go_loop [0] (λa=>a = .slice none 0 0) (λa=>aak a)
  case atStart=>rfl
  case round =>
   obtain rfl:=hrel
   go_wp2
   go_ret
   exact⟨_,rfl,hR,λb h=>h,rfl⟩
 ·have hcell:∀ j,j<k->w.cell? ⟨b,off+j,none⟩=some (dV x j):=λj hj=>hcc j _ (Vj hj)
  clear hcc;have hkc:=hcap _ _ _ rfl;clear hcap
  go_enter func59,ntmps59
  go_wp2
  go_loop [0] (λa=>∃ j cap',j<=k/\j<=cap'/\a = .slice (some ⟨b,off,none⟩) j cap'/\x<ug^j) (λa=>aak a)
  case atStart=>exact⟨k,cap,Nat.le_refl _,hkc,rfl,hx⟩
  case round =>
   obtain⟨j,cap',hj,hjc,rfl,hxj⟩:=hrel;have hR:vY w (.slice (some ⟨b,off,none⟩) j cap') j x:=vY.some hb λi hi=>hcell i (by omega)
   rcases Nat.eq_zero_or_pos j with rfl|h0
   ·go_wp2
    go_ret
    exact⟨_,rfl,by rw[aal hxj (λh=>by omega)];exact hR,λb h=>h,rfl⟩
   ·have hcx:=hcell (j-1) (by omega);have hcast:((j:Int)-1)=((j-1:Nat):Int):=by omega
    unfold dV at hcx;by_cases hd:dg x (j-1)=0
    ·have hd2:Int.ofNat (dg x (j-1))=0:=agq.2 hd;rw[hd2] at hcx;have hxx:x<ug^(j-1):=apu (by rw[Nat.sub_add_cancel h0];exact hxj) hd;have hle:((j-1:Nat):Int)<=(cap':Int):=by omega
     go_wp2
     go_round
     case rel=>exact⟨j-1,cap',by omega,by omega,rfl,hxx⟩
     case measure=>simp[aak];omega
    ·have hd2:¬ Int.ofNat (dg x (j-1))=0:=λh=>hd (agq.1 h)
     generalize Int.ofNat (dg x (j-1))=z at hcx hd2;have hz:(z==0)=false:=by simp[hd2]
     go_wp2
     go_ret
     exact⟨_,rfl,by rw[aal hxj (λ_=>hd)];exact hR,λb h=>h,rfl⟩
theorem Jw (w:World) (v:Value) (k x i:Nat) (hk:k<=70000000) (hi:i<=70000000) (hx:x<ug^k) (h:vY w v k x) :
  Calls prog 60 #[v,.int .i64 (i:Int)] w λe w'=>e = .returned (.int .u32 (dg x i:Int))/\w=w':=by
 by_cases hlt:i<k
 ·obtain⟨b,off,cap,rfl,hb,hcell⟩:=h.pos (by omega);have hcx:=hcell i hlt;unfold dV at hcx;have hi2:(i:Int)<(k:Int):=by omega
  go_enter func60,ntmps60
  go_wp2
  go_ret
  exact⟨rfl,rfl⟩
 ·obtain⟨ad,cap,rfl,_⟩:=h.any;have hz:dg x i=0:=apm hx (by omega);have hi2:¬ (i:Int)<(k:Int):=by omega
  rw[hz]
  go_enter func60,ntmps60
  go_wp2
  go_ret
  exact⟨rfl,rfl⟩
theorem RX:(prog.info? 117).map (λi=>(i.zero,i.size,i.bytes))=some (some (.int .u32 0),1,4):=by kernel_rfl
theorem RY {w:World} {base e:Nat} {v:Value} {k:Nat} {xs:List Value} (h:w.ownsRow base e 1 v k xs):∀ ad n c,v = .slice ad n c->n<=c:=by
 intro ad n c hv;rcases h.2 with⟨h1,h2⟩|⟨g,cap,cur,h1,_,_,h3,_⟩
 ·rw[h1] at hv;cases hv;exact Nat.le_refl _
 ·rw[h1] at hv;cases hv;exact h3
theorem apQ {w:World} {base e:Nat} {v:Value} {k:Nat} {xs:List Value} (h:w.ownsRow base e 1 v k xs):∀ b,wV v=some b->base<=b:=λb hb=>by
 rcases h.2 with⟨rfl,_⟩|⟨g,cap,cur,rfl,h3,_⟩
 ·cases hb
 ·cases hb;exact h3
theorem Cf.of {w w1:World} {fvs:List Value} {u v:Value} {k x e:Nat} {xs:List Value} (h:w1.ownsRow w.heap.size e 1 v k xs) (hr:vY w1 u (uH x) x) (hb:∀ b,wV u=some b->wV v=some b) (hB:tQ w w1):Cf w fvs x (.returned u) w1 :=
 ⟨u,rfl,hr,λb h1=>apQ h b (hb b h1),hB⟩
theorem add_lt {a b la lb:Nat} (ha:a<ug^la) (hb:b<ug^lb):a<ug^max la lb/\b<ug^max la lb/\a+b<ug^(max la lb+1):=by have h1:a<ug^max la lb:=Nat.lt_of_lt_of_le ha (Nat.pow_le_pow_right Fq (Nat.le_max_left _ _));have h2:b<ug^max la lb:=Nat.lt_of_lt_of_le hb (Nat.pow_le_pow_right Fq (Nat.le_max_right _ _));refine⟨h1,h2,?_⟩;rw[Nat.pow_succ];have h3:ug^max la lb*2<=ug^max la lb*ug:=Nat.mul_le_mul_left _ (by decide);omega
theorem apR (w:World) (va vb:Value) (a b:Nat) (ha:uH a<=34000000) (hb:uH b<=34000000) (hA:vY w va (uH a) a) (hB:vY w vb (uH b) b) :
  Calls prog 30 #[va,vb] w (Cf w [va,vb] (a+b)):=by
 obtain⟨i0,hi,hz0,hz1,hz2⟩:=info_parts RX;obtain⟨ada,capa,rfl,_⟩:=hA.any;obtain⟨adb,capb,rfl,_⟩:=hB.any;have hxa:=Du a;have hxb:=Du b;generalize uH a=la at *
 generalize uH b=lb at *
 go_enter func30,ntmps30
 go_wp2
 go_loopw [5,6,7] (λout c i wr=>∃ k:Nat,k<=max la lb/\i = .int .i64 (k:Int)/\c = .int .u64 (yX a b k:Int)/\wr.ownsRow w.heap.size 117 1 out k (xY k (a+b))/\Below w.heap.size w wr)
  (λ_ _ i _=>max la lb-(intOf i).toNat)
 case atStart=>exact⟨0,Nat.zero_le _,rfl,by rw[aga];rfl,World.ownsRow_nil _ _ _ _,Below.refl _ _⟩
 case round =>
  obtain⟨k,hk,rfl,rfl,hown,hnx⟩:=hrel;have hAr:=hA.bel hnx;have hBr:=hB.bel hnx;by_cases hlt:k<max la lb
  ·have e1:=aai a b k;have e2:=agc a b k;have b1:=RV a b k;have b2:=Ap a k;have b3:=Ap b k;have hda:=Jw wr _ la a k (by omega) (by omega) hxa hAr;have hdb:=Jw wr _ lb b k (by omega) (by omega) hxb hBr;generalize yX a b k=c at *
   generalize dg a k=x at *
   generalize dg b k=y at *
   unfold ug at b2 b3;have ez:(((c:Int)+x+y)%4294967296)=((dg (a+b) k:Nat):Int):=by rw[<- e1];unfold ug;omega
   have ec:(((c:Int)+x+y)/4294967296)=((yX a b (k+1):Nat):Int):=by rw[<- e2];unfold ug;omega
   clear e1 e2;have hsz:=hnx.size;have qk:(k:Int)<(la:Int)\/(¬ (k:Int)<(la:Int)/\(k:Int)<(lb:Int)):=by omega
   rcases qk with q1|⟨q1,q2⟩
   all_goals
    go_wp2_with (first|(go_at_call 60;with_reducible refine hda.mono ?_;rintro e w' ⟨rfl,rfl⟩)|(go_at_call 60;with_reducible refine hdb.mono ?_;rintro e w' ⟨rfl,rfl⟩)|(at_builtin;refine wpList_append_own _ rfl (.tmp 31) (.tmp 34) 33 rfl w.heap.size 117 i0 (.int .u32 0) 1 4 underlying33 hi hz0 hz1 hz2 rfl (by decide) _ _ _ rfl (hown.alloc _) ⟨wr.heap.size,0,none⟩ 1 1 [.int .u32 ((dg (a+b) k:Nat):Int)] rfl rfl (cell_one_new _ _ _) (by simp[Value.oneCell']) (by unfold maxLen;omega) (by omega) (by simp;omega) ?_;intro v' w1 hown1 hgrow _))
    go_roundw
    case rel=>exact⟨k+1,by omega,by go_num,rfl,by rw[NQ];exact hown1,hnx.trans (((Below.refl _ wr).alloc hsz _).grown hgrow (by simp;omega) (Mj hown))⟩
    case measure=>simp[intOf];omega
  ·obtain rfl:k=max la lb:=by omega
   obtain⟨l1,l2,l3⟩:=add_lt hxa hxb;have ec:=apv l1 l2;rw[ec];have b3:=Ap (a+b) (max la lb);have ez:Int.ofNat (dg (a+b) (max la lb))=((dg (a+b) (max la lb):Nat):Int):=rfl;have hsz:=hnx.size;have q1:¬ ((max la lb:Nat):Int)<(la:Int):=by omega
   have q2:¬ ((max la lb:Nat):Int)<(lb:Int):=by omega
   have hmk:max la lb+1<=70000000:=by omega
   have hsucc:=NQ (max la lb) (a+b);unfold dV at hsucc;rw[ez] at hsucc;clear ez ec;generalize max la lb=k at *
   generalize dg (a+b) k=d at *
   unfold ug at b3;have hm:(d:Int)%4294967296=d:=by omega
   go_wp2_with (first|(go_at_call 59;with_reducible refine(Lf _ _ _ _ hmk l3 (RU hown1) (RY hown1)).mono ?_;rintro e w' ⟨u,rfl,hr,hbk,rfl⟩)|(at_builtin;refine wpList_append_own _ rfl (.tmp 38) (.tmp 41) 33 rfl w.heap.size 117 i0 (.int .u32 0) 1 4 underlying33 hi hz0 hz1 hz2 rfl (by decide) _ _ _ rfl (hown.alloc _) ⟨wr.heap.size,0,none⟩ 1 1 [.int .u32 (d:Int)] rfl rfl (cell_one_new _ _ _) (by simp[Value.oneCell']) (by unfold maxLen;omega) (by omega) (by simp;omega) ?_;intro v' w1 hown1 hgrow _;rw[<- hsucc] at hown1))
   go_ret
   exact Cf.of hown1 hr hbk (hnx.trans (((Below.refl _ wr).alloc hsz _).grown hgrow (by simp;omega) (Mj hown)))
theorem apS (w:World) (va vb:Value) (a b:Nat) (hba:b<=a) (ha:uH a<=34000000) (hA:vY w va (uH a) a) (hB:vY w vb (uH b) b) :
  Calls prog 32 #[va,vb] w (Cf w [va,vb] (a-b)):=by
 obtain⟨i0,hi,hz0,hz1,hz2⟩:=info_parts RX;obtain⟨ada,capa,rfl,_⟩:=hA.any;obtain⟨adb,capb,rfl,_⟩:=hB.any;have hxa:=Du a;have hxb:=Du b;have hlb:uH b<=uH a:=Lc.1 (Nat.lt_of_le_of_lt hba hxa);generalize uH a=la at *
 generalize uH b=lb at *
 go_enter func32,ntmps32
 go_wp2
 go_loopw [5,6,7] (λout c i wr=>∃ k:Nat,k<=la/\i = .int .i64 (k:Int)/\c = .int .u64 (yX b (a-b) k:Int)/\wr.ownsRow w.heap.size 117 1 out k (xY k (a-b))/\Below w.heap.size w wr)
  (λ_ _ i _=>la-(intOf i).toNat)
 case atStart=>exact⟨0,Nat.zero_le _,rfl,by rw[aga];rfl,World.ownsRow_nil _ _ _ _,Below.refl _ _⟩
 case round =>
  obtain⟨k,hk,rfl,rfl,hown,hnx⟩:=hrel;have hAr:=hA.bel hnx;have hBr:=hB.bel hnx;by_cases hlt:k<la
  ·obtain⟨e1,e2⟩:=apw hba k;have b1:=RV b (a-b) k;have b2:=Ap a k;have b3:=Ap b k;have hda:=Jw wr _ la a k (by omega) (by omega) hxa hAr;have hdb:=Jw wr _ lb b k (by omega) (by omega) hxb hBr;generalize yX b (a-b) k=c at *
   generalize dg a k=x at *
   generalize dg b k=y at *
   unfold ug at b2 b3;have ez:(((x:Int)+4294967296-y-c)%4294967296)=((dg (a-b) k:Nat):Int):=by rw[<- e1];unfold ug;omega
   have ec:(1-((x:Int)+4294967296-y-c)/4294967296)=((yX b (a-b) (k+1):Nat):Int):=by rw[<- e2];unfold ug;omega
   clear e1 e2;have hsz:=hnx.size;have q1:(k:Int)<(la:Int):=by omega
   go_wp2_with (first|(go_at_call 60;with_reducible refine hda.mono ?_;rintro e w' ⟨rfl,rfl⟩)|(go_at_call 60;with_reducible refine hdb.mono ?_;rintro e w' ⟨rfl,rfl⟩)|(at_builtin;refine wpList_append_own _ rfl (.tmp 27) (.tmp 30) 33 rfl w.heap.size 117 i0 (.int .u32 0) 1 4 underlying33 hi hz0 hz1 hz2 rfl (by decide) _ _ _ rfl (hown.alloc _) ⟨wr.heap.size,0,none⟩ 1 1 [.int .u32 ((dg (a-b) k:Nat):Int)] rfl rfl (cell_one_new _ _ _) (by simp[Value.oneCell']) (by unfold maxLen;omega) (by omega) (by simp;omega) ?_;intro v' w1 hown1 hgrow _))
   go_roundw
   case rel=>exact⟨k+1,by omega,by go_num,rfl,by rw[NQ];exact hown1,hnx.trans (((Below.refl _ wr).alloc hsz _).grown hgrow (by simp;omega) (Mj hown))⟩
   case measure=>simp[intOf];omega
  ·obtain rfl:k=la:=by omega
   have l3:a-b<ug^k:=Nat.lt_of_le_of_lt (Nat.sub_le _ _) hxa;have hmk:k<=70000000:=by omega
   go_wp2_with (go_at_call 59;with_reducible refine(Lf _ _ _ _ hmk l3 (RU hown) (RY hown)).mono ?_;rintro e w' ⟨u,rfl,hr,hbk,rfl⟩)
   go_ret
   exact Cf.of hown hr hbk hnx
theorem apT {v:Nat} : v%4294967296=dg v 0:=(aad v).symm
theorem apU {v:Nat} (h:v<18446744073709551616):v/4294967296%4294967296=dg v 1:=by unfold dg;rw[Nat.pow_one];rfl
theorem apV (w:World) (v:Nat) (hv:v<18446744073709551616):Calls prog 67 #[.int .u64 (v:Int)] w (Cf w [] v):=by
 have hx:v<ug^2:=by unfold ug;exact hv
 have d0:(v:Int)%4294967296=((dg v 0:Nat):Int):=by rw[<- apT];omega
 have hR:vY (w.alloc (.cells #[.int .u32 ((dg v 0:Nat):Int),.int .u32 ((v:Int)/4294967296)] 117)) (.slice (some ⟨w.heap.size,0,none⟩) 2 2) 2 v:=by
  refine vY.some (by simp) λj hj=>?_
  rcases(show j=0\/j=1 by omega) with rfl|rfl
  ·unfold World.cell?;simp only[World.alloc_heap_new];rfl
  ·have d1:dV v 1 = .int .u32 ((v:Int)/4294967296):=by unfold dV;rw[<- apU hv];congr 1;simp only[Int.ofNat_eq_natCast];omega
   rw[d1];unfold World.cell?;simp only[World.alloc_heap_new];rfl
 have q:(v:Int)/4294967296<4294967296:=by omega
 go_enter func67,ntmps67
 go_wp2_with (go_at_call 59;refine(Lf _ _ 2 v (by omega) hx hR (λad n c h=>by cases h;exact Nat.le_refl _)).mono ?_;rintro e w' ⟨u,rfl,hr,hbk,rfl⟩)
 go_ret
 exact⟨_,rfl,hr,λb h=>(by have:=hbk b h;cases this;exact Nat.le_refl _),(tQ.refl w).alloc _⟩
theorem agr {c y s:Nat} (hc:c<2^s):c|||y*2^s=c+y*2^s:=by rw[Nat.or_comm,Nat.mul_comm,<- Nat.two_pow_add_eq_or_of_lt hc,Nat.add_comm]
theorem Cg (n:Nat):2^n=ug^(n/32)*2^(n%32):=by rw[NN,<- Nat.pow_mul,<- Nat.pow_add];congr 1;omega
theorem apW (a n:Nat):xY (n/32) (a*2^n)=List.replicate (n/32) (Value.int .u32 0):=by rw[Cg n];unfold xY;rw[List.eq_replicate_iff];refine⟨by simp,λb hb=>?_⟩;obtain⟨j,hj,rfl⟩:=List.mem_map.1 hb;unfold dV;rw[apA (List.mem_range.1 hj)];rfl
theorem apX {a la:Nat} (n:Nat) (h:a<ug^la):a*2^n<ug^(n/32+la+1):=by
 rw[Cg n,Nat.pow_succ,Nat.pow_add];have h1:(2:Nat)^(n%32)<=ug:=by rw[NN];exact Nat.pow_le_pow_right (by decide) (by omega)
 have h2:a*(ug^(n/32)*2^(n%32))<=a*(ug^(n/32)*ug):=Nat.mul_le_mul_left _ (Nat.mul_le_mul_left _ h1);refine Nat.lt_of_le_of_lt h2 ?_;rw[show a*(ug^(n/32)*ug)=ug^(n/32)*ug*a by ac_rfl,show ug^(n/32)*ug^la*ug=ug^(n/32)*ug*ug^la by ac_rfl];exact Nat.mul_lt_mul_of_pos_left h (Nat.mul_pos (yV _) Fq)
theorem apY {c x s:Nat} (hc:c<2^s) (hx:x<4294967296) (hs:s<32):bits .or .u64 (c:Int) (IntKind.u64.wrap (IntKind.u64.wrap (x:Int)*2^s))=((c+x*2^s:Nat):Int):=by
 have h1:(2:Nat)^s<=2^31:=Nat.pow_le_pow_right (by decide) (by omega);have h2:x*2^s<=4294967295*2^31:=Nat.mul_le_mul (by omega) h1;have e1:IntKind.u64.wrap (x:Int)=(x:Int):=by rw[xL];exact Fe x (by unfold tV;omega)
 have e2:IntKind.u64.wrap ((x:Int)*2^s)=((x*2^s:Nat):Int):=by rw[show(x:Int)*2^s=((x*2^s:Nat):Int) by rw[Int.natCast_mul,Int.natCast_pow];rfl,xL];exact Fe _ (by unfold tV;omega)
 rw[e1,e2,u64_or_nat _ _ (by omega) (by omega),agr hc]
theorem apZ (w:World) (va:Value) (a n:Nat) (hn:n<=1073741824) (ha:uH a<=34000000) (hA:vY w va (uH a) a) :
  Calls prog 29 #[va,.int .i64 (n:Int)] w (Cf w [va] (a*2^n)):=by
 obtain⟨i0,hi,hz0,hz1,hz2⟩:=info_parts RX;obtain⟨ada,capa,rfl,hcell⟩:=hA.any;have hxa:=Du a;generalize uH a=la at *
 have hq1:Int.tdiv (n:Int) 32=((n/32:Nat):Int):=rfl;have hq2:Int.tmod (n:Int) 32=((n%32:Nat):Int):=rfl;have hqq:n/32<=33554432:=by omega
 go_enter func29,ntmps29
 go_wp2_with (at_make;refine wpList_make_full _ rfl (.tmp 9) (.tmp 9) 33 rfl w.heap.size 117 i0 (.int .u32 0) 1 underlying33 hi hz0 hz1 .i64 .i64 ((n:Int)/32) ((n:Int)/32) (n/32) rfl rfl (by omega) (by omega) (by rw[hz2];omega) (by unfold maxLen;omega) (Nat.le_refl _) ?_;intro w1 hown0 hgrow0)
 have hB1:Below w.heap.size w w1:=(Below.refl _ w).grown hgrow0 (Nat.le_refl _) (λk hk=>by cases hk)
 have hz:(madeCells (Value.int .u32 0).cells (n/32*1)).toList=xY (n/32) (a*2^n):=by rw[show(Value.int .u32 0).cells = #[Value.int .u32 0] from rfl,toList_madeCells_one,Nat.mul_one,apW]
 rw[hz] at hown0
 go_loopw [5,6,7] (λout c i wr=>∃ k:Nat,k<=la/\i = .int .i64 (k:Int)/\c = .int .u64 (Dv a (2^(n%32)) k:Int)/\wr.ownsRow w.heap.size 117 1 out (n/32+k) (xY (n/32+k) (a*2^n))/\Below w.heap.size w wr)
  (λ_ _ i _=>la-(intOf i).toNat)
 case atStart=>exact⟨0,Nat.zero_le _,rfl,by rw[apx];rfl,hown0,hB1⟩
 case round =>
  obtain⟨k,hk,rfl,rfl,hown,hnx⟩:=hrel;by_cases hlt:k<la
  ·obtain⟨b,off,rfl,hb,hcl⟩:=hcell (by omega);have hcx:=(hnx.cell (p:=⟨b,off+k,none⟩) hb).trans (hcl k hlt);unfold dV at hcx;have q1:(k:Int)<(la:Int):=by omega
   have b1:=agd (Nat.two_pow_pos (n%32)) a k;have b2:=Ap a k;have e1:=agf a (2^(n%32)) k;have e2:=apy a (2^(n%32)) k;have hor:=apY b1 b2 (show n%32<32 by omega);have hdg:=agh a (2^(n%32)) (n/32) k;rw[<- Cg] at hdg;rw[<- hdg] at e1;rw[show Int.ofNat (dg a k)=((dg a k:Nat):Int) from rfl] at hcx;generalize dg a k=x at *
   generalize Dv a (2^(n%32)) k=c at *
   generalize c+x*2^(n%32)=T at *
   have ez:(T:Int)%4294967296=((dg (a*2^n) (n/32+k):Nat):Int):=by rw[<- e1];unfold ug;omega
   have ec:(T:Int)/4294967296=((Dv a (2^(n%32)) (k+1):Nat):Int):=by rw[<- e2];unfold ug;omega
   clear e1 e2 b1 b2 hdg;have hsz:=hnx.size
   go_wp2_with (at_builtin;refine wpList_append_own _ rfl (.tmp 27) (.tmp 30) 33 rfl w.heap.size 117 i0 (.int .u32 0) 1 4 underlying33 hi hz0 hz1 hz2 rfl (by decide) _ _ _ rfl (hown.alloc _) ⟨wr.heap.size,0,none⟩ 1 1 [.int .u32 ((dg (a*2^n) (n/32+k):Nat):Int)] rfl rfl (cell_one_new _ _ _) (by simp[Value.oneCell']) (by unfold maxLen;omega) (by omega) (by simp;omega) ?_;intro v' w1 hown1 hgrow _)
   go_roundw
   case rel=>exact⟨k+1,by omega,by go_num,rfl,by rw[<- Nat.add_assoc,NQ];exact hown1,hnx.trans (((Below.refl _ wr).alloc hsz _).grown hgrow (by simp;omega) (Mj hown))⟩
   case measure=>simp[intOf];omega
  ·obtain rfl:k=la:=by omega
   have h32:(2:Nat)^(n%32)<=ug:=by rw[NN];exact Nat.pow_le_pow_right (by decide) (by omega)
   have ec:=apz (k:=k) (s:=2^(n%32)) hxa (Nat.two_pow_pos _) h32;have hdg:=agh a (2^(n%32)) (n/32) k;rw[<- Cg] at hdg;rw[<- hdg] at ec;rw[ec];have l3:=apX n hxa;have b3:=Ap (a*2^n) (n/32+k);have hmk:n/32+k+1<=70000000:=by omega
   have hsucc:=NQ (n/32+k) (a*2^n);unfold dV at hsucc;rw[show Int.ofNat (dg (a*2^n) (n/32+k))=((dg (a*2^n) (n/32+k):Nat):Int) from rfl] at hsucc;have hsz:=hnx.size;have q1:¬ ((k:Nat):Int)<(k:Int):=by omega
   clear ec hdg;generalize dg (a*2^n) (n/32+k)=d at *
   unfold ug at b3;have hm:(d:Int)%4294967296=d:=by omega
   go_wp2_with (first|(go_at_call 59;with_reducible refine(Lf _ _ _ _ hmk l3 (RU hown1) (RY hown1)).mono ?_;rintro e w' ⟨u,rfl,hr,hbk,rfl⟩)|(at_builtin;refine wpList_append_own _ rfl (.tmp 34) (.tmp 37) 33 rfl w.heap.size 117 i0 (.int .u32 0) 1 4 underlying33 hi hz0 hz1 hz2 rfl (by decide) _ _ _ rfl (hown.alloc _) ⟨wr.heap.size,0,none⟩ 1 1 [.int .u32 (d:Int)] rfl rfl (cell_one_new _ _ _) (by simp[Value.oneCell']) (by unfold maxLen;omega) (by omega) (by simp;omega) ?_;intro v' w1 hown1 hgrow _;rw[<- hsucc] at hown1))
   go_ret
   exact Cf.of hown1 hr hbk (hnx.trans (((Below.refl _ wr).alloc hsz _).grown hgrow (by simp;omega) (Mj hown)))
theorem ap0 {x y:Nat} (hx:x<4294967296) (hy:y<4294967296):bits .or .u64 (x:Int) ((y:Int)*4294967296)=((x+4294967296*y:Nat):Int):=by rw[show(y:Int)*4294967296=((y*4294967296:Nat):Int) by rw[Int.natCast_mul];rfl,u64_or_nat _ _ (by omega) (by omega)];have h:=agr (c:=x) (y:=y) (s:=32) (by omega);rw[show(4294967296:Nat)=2^32 by decide,h,Nat.mul_comm y]
theorem ap1 (w:World) (va:Value) (a n:Nat) (hn:n<=1073741824) (ha:uH a<=34000000) (hA:vY w va (uH a) a) :
  Calls prog 65 #[va,.int .i64 (n:Int)] w (Cf w [va] (a/2^n)):=by
 obtain⟨i0,hi,hz0,hz1,hz2⟩:=info_parts RX;obtain⟨ada,capa,rfl,hcell⟩:=hA.any;have hxa:=Du a;generalize uH a=la at *
 go_enter func65,ntmps65
 go_wp2
 go_loopw [5,6] (λout i wr=>∃ k:Nat,(k=0\/n/32+k<=la)/\i = .int .i64 ((n:Int)/32+(k:Int))/\wr.ownsRow w.heap.size 117 1 out k (xY k (a/2^n))/\Below w.heap.size w wr)
  (λ_ i _=>la-(intOf i).toNat)
 case atStart=>exact⟨0,.inl rfl,by simp,World.ownsRow_nil _ _ _ _,Below.refl _ _⟩
 case round =>
  obtain⟨k,hk,rfl,hown,hnx⟩:=hrel;have hAr:=hA.bel hnx;by_cases hlt:n/32+k<la
  ·obtain⟨b,off,rfl,hb,hcl⟩:=hcell (by omega);obtain⟨i,hi'⟩:∃ i:Nat,n/32+k=i:=⟨_,rfl⟩;have hiI:(n:Int)/32+(k:Int)=(i:Int):=by omega
   rw[hiI];have hcx:=(hnx.cell (p:=⟨b,off+i,none⟩) hb).trans (hcl i (by omega));unfold dV at hcx;rw[show Int.ofNat (dg a i)=((dg a i:Nat):Int) from rfl] at hcx;have b2:=Ap a i;have b3:=Ap a (i+1)
   have hdd:∀ m,Calls prog 60 #[.slice (some ⟨b,off,none⟩) la capa,.int .i64 ((i:Int)+1)] (wr.drewN m) λe w'=>e = .returned (.int .u32 (dg a (i+1):Int))/\w'=wr.drewN m:=λm=>by have:=Jw (wr.drewN m) _ la a (i+1) (by omega) (by omega) hxa (hAr.bel ((tQ.refl _).drewN _));rw[show((i+1:Nat):Int)=(i:Int)+1 by omega] at this;exact this.mono λe w' h=>⟨h.1,h.2.symm⟩
   have q1:(i:Int)<(la:Int):=by omega
   have hst:2^(n%32)*2^(32-n%32)=ug:=by rw[<- Nat.pow_add,NN];congr 1;omega
   have hdg:(dg a i+ug*dg a (i+1))/2^(n%32)%ug=dg (a/2^n) k:=by rw[apB hst,Cg n,apC,hi']
   generalize dg a i=x at *
   generalize dg a (i+1)=y at *
   unfold ug at b2 b3 hdg;have hor:=ap0 b2 b3;generalize x+4294967296*y=V at *
   have ez:(V:Int)/2^(n%32)%4294967296=((dg (a/2^n) k:Nat):Int):=by rw[<- hdg];simp only[Int.natCast_emod,Int.natCast_ediv,Int.natCast_pow];rfl
   have hsz:=hnx.size;have hlen:k+1<=34000000:=by omega
   go_wp2_with fail
   go_quiet ((go_at_call 60;with_reducible exact Calls.quiet_of_same (hdd _)))
   have hown2:(wr.drewN nq).ownsRow w.heap.size 117 1 _ k (xY k (a/2^n)):=hown;have hnx2:Below w.heap.size w (wr.drewN nq):=⟨hnx.os,hnx.tape,hnx.output,hnx.size,hnx.block⟩;have hsz2:w.heap.size<=(wr.drewN nq).heap.size:=hsz;clear hown hnx hsz hor hdd hAr hcell;generalize wr.drewN nq=w2 at *
   go_wp2_with (at_builtin;refine wpList_append_own _ rfl (.tmp 28) (.tmp 34) 33 rfl w.heap.size 117 i0 (.int .u32 0) 1 4 underlying33 hi hz0 hz1 hz2 rfl (by decide) _ _ _ rfl (hown2.alloc _) ⟨w2.heap.size,0,none⟩ 1 1 [.int .u32 ((dg (a/2^n) k:Nat):Int)] rfl rfl (cell_one_new _ _ _) (by simp[Value.oneCell']) (by unfold maxLen;omega) (by omega) (by simp;omega) ?_;intro v' w1 hown1 hgrow _)
   go_roundw
   case rel=>exact⟨k+1,by omega,by congr 1;omega,by rw[NQ];exact hown1,hnx2.trans (((Below.refl _ w2).alloc hsz2 _).grown hgrow (by simp;omega) (Mj hown2))⟩
   case measure=>simp[intOf];omega
  ·have l3:a/2^n<ug^k:=by rw[Nat.div_lt_iff_lt_mul (Nat.two_pow_pos n),Cg n,<- Nat.mul_assoc,<- Nat.pow_add];refine Nat.lt_of_lt_of_le hxa (Nat.le_trans (Nat.pow_le_pow_right Fq (show la<=k+n/32 by omega)) ?_);exact Nat.le_mul_of_pos_right _ (Nat.two_pow_pos _)
   have hmk:k<=70000000:=by omega
   have q1:¬ ((n:Int)/32+(k:Int)<(la:Int)):=by omega
   go_wp2_with (go_at_call 59;with_reducible refine(Lf _ _ _ _ hmk l3 (RU hown) (RY hown)).mono ?_;rintro e w' ⟨u,rfl,hr,hbk,rfl⟩)
   go_ret
   exact Cf.of hown hr hbk hnx
theorem ap2 (w:World) (va vb:Value) (a b:Nat) (ha:uH a<=34000000) (hb:uH b<=34000000) (hA:vY w va (uH a) a) (hB:vY w vb (uH b) b) :
  Calls prog 31 #[va,vb] w λe w'=>e = .returned (.int .i64 (zC a b))/\tQ w w':=by
 obtain⟨ada,capa,rfl,hcA⟩:=hA.any;obtain⟨adb,capb,rfl,hcB⟩:=hB.any;have hxa:=Du a;have hxb:=Du b;by_cases he:uH a=uH b
 ·rw[<- he] at hcB hxb ⊢;clear hA hB he hb;generalize uH a=l at *
  go_enter func31,ntmps31
  go_wp2
  go_loopw [5] (λi wr=>∃ j:Nat,j<=l/\i = .int .i64 ((j:Int)-1)/\a/ug^j=b/ug^j/\tQ w wr) (λi _=>(intOf i+1).toNat)
  case atStart=>exact⟨l,Nat.le_refl _,rfl,by rw[Nat.div_eq_of_lt hxa,Nat.div_eq_of_lt hxb],tQ.refl _⟩
  case round =>
   obtain⟨j,hj,rfl,hq,hnx⟩:=hrel;rcases Nat.eq_zero_or_pos j with rfl|h0
   ·have hab:a=b:=by simpa using hq
    have hc:zC a b=0:=by rw[hab];exact apL b
    go_wp2
    go_ret
    exact⟨by first|rfl|(rw[hc];rfl),hnx⟩
   ·obtain⟨i,rfl⟩:∃ i,j=i+1:=⟨j-1,by omega⟩;obtain⟨ba,oa,rfl,hba,hca⟩:=hcA (by omega);obtain⟨bb,ob,rfl,hbb,hcb⟩:=hcB (by omega);have c1:=(hnx.cell ba (oa+i) hba).trans (hca i (by omega));have c2:=(hnx.cell bb (ob+i) hbb).trans (hcb i (by omega));unfold dV at c1 c2;rw[show Int.ofNat (dg a i)=((dg a i:Nat):Int) from rfl] at c1;rw[show Int.ofNat (dg b i)=((dg b i:Nat):Int) from rfl] at c2;have q0:((i+1:Nat):Int)-1=(i:Int):=by omega
    rw[q0];have q1:(i:Int)<(l:Int):=by omega
    have k1:=@agm a b i hq;have k2:=@agm b a i hq.symm;have k3:=@apN a b i hq;clear hca hcb hcA hcB;generalize dg a i=x at *
    generalize dg b i=y at *
    go_wp2_with fail
    go_quiet (fail)
    have hnx2:tQ w (wr.drewN nq):=hnx.drewN nq;rcases Nat.lt_trichotomy x y with h|h|h
    ·have hc:=agk (k1 h);have h1:decide (x<y)=true:=decide_eq_true h
     go_wp2
     go_ret
     exact⟨by first|rfl|(rw[hc];rfl),hnx2⟩
    ·have k4:=k3 h;have h1:decide (x<y)=false:=decide_eq_false (by omega);have h2:decide (y<x)=false:=decide_eq_false (by omega);clear k1 k2 k3 hq
     go_wp2_with fail
     go_quiet (fail)
     go_wp2
     go_roundw
     case rel=>exact⟨i,by omega,by rfl,k4,hnx.drewN _⟩
     case measure=>first|(simp[intOf];done)|(simp[intOf];omega)
    ·have hc:=agl (k2 h);have h1:decide (x<y)=false:=decide_eq_false (by omega);have h2:decide (y<x)=true:=decide_eq_true h
     go_wp2_with fail
     go_quiet (fail)
     go_wp2
     go_ret
     exact⟨by first|rfl|(rw[hc];rfl),by first|exact hnx.drewN _|exact hnx2.drewN _⟩
 ·rcases Nat.lt_or_gt_of_ne he with h|h
  ·have hc:=agk (agn h);have q1:((uH a:Nat):Int)<(uH b:Int):=by omega
   have q2:(((uH a:Nat):Int) != (uH b:Int))=true:=by simp;omega
   clear hA hB hcA hcB hxa hxb;generalize uH a=la at *
   generalize uH b=lb at *
   go_enter func31,ntmps31
   go_wp2
   go_ret
   exact⟨by first|rfl|(rw[hc];rfl),tQ.refl _⟩
  ·have hc:=agl (agn h);have q1:¬ ((uH a:Nat):Int)<(uH b:Int):=by omega
   have q2:(((uH a:Nat):Int) != (uH b:Int))=true:=by simp;omega
   clear hA hB hcA hcB hxa hxb;generalize uH a=la at *
   generalize uH b=lb at *
   go_enter func31,ntmps31
   go_wp2
   go_ret
   exact⟨by first|rfl|(rw[hc];rfl),tQ.refl _⟩
theorem ap3 {x i s:Nat} (hx:x<4294967296) (hs:s<32):(bits .and .u32 ((x:Int)/2^s) 1==1)=x.testBit s:=by
 have e:(x:Int)/2^s=((x/2^s:Nat):Int):=by rw[Int.natCast_ediv,Int.natCast_pow];rfl
 have h:=u32_and_nat (x/2^s) 1 (Nat.lt_of_le_of_lt (Nat.div_le_self _ _) hx) (by decide);rw[e,show(1:Int)=((1:Nat):Int) from rfl,h,nat_mask1,Nat.testBit_eq_decide_div_mod_eq];rw[Bool.eq_iff_iff,beq_iff_eq,decide_eq_true_eq];omega
theorem ap4 (w:World) (va:Value) (a i:Nat) (hi:i<=1073741824) (ha:uH a<=34000000) (hA:vY w va (uH a) a) :
  Calls prog 66 #[va,.int .i64 (i:Int)] w λe w'=>e = .returned (.bool (a.testBit i))/\w=w':=by
 have hxa:=Du a;have hd:=Jw w va (uH a) a (i/32) (by omega) (by omega) hxa hA;rw[show((i/32:Nat):Int)=(i:Int)/32 by omega] at hd;have hb:=ap3 (i:=i) (x:=dg a (i/32)) (s:=i%32) (by have:=Ap a (i/32);unfold ug at this;exact this) (by omega);rw[apO a (i/32) (i%32) (by omega),show 32*(i/32)+i%32=i by omega] at hb;generalize dg a (i/32)=x at *
 have q0:(i:Int)>=0:=by omega
 clear hxa hA
 go_enter func66,ntmps66
 go_wp2_with (go_at_call 60;with_reducible refine hd.mono ?_;rintro e w' ⟨rfl,rfl⟩)
 go_ret
 exact⟨rfl,rfl⟩
theorem ap5 {h l:Nat} (hh:h<18446744073709551616) (hl:l<18446744073709551616) :
  ((dg (h*18446744073709551616+l) 0:Nat):Int)=(l:Int)%4294967296/\((dg (h*18446744073709551616+l) 1:Nat):Int)=(l:Int)/4294967296/\((dg (h*18446744073709551616+l) 2:Nat):Int)=(h:Int)%4294967296/\((dg (h*18446744073709551616+l) 3:Nat):Int)=(h:Int)/4294967296:=by
 have e2:(h*18446744073709551616+l)/ug^2=h:=by rw[show ug^2=18446744073709551616 by decide];omega
 refine⟨?_,?_,?_,?_⟩
 ·rw[aad];unfold ug;omega
 ·unfold dg;rw[Nat.pow_one];unfold ug;omega
 ·unfold dg;rw[e2];unfold ug;omega
 ·unfold dg;rw[show ug^3=ug^2*ug from rfl,<- Nat.div_div_eq_div_mul,e2];unfold ug;omega
theorem ap6 {P:Nat->Prop} (h0:P 0) (h1:P 1) (h2:P 2) (h3:P 3):∀ j,j<4->P j:=λj hj=>by rcases(show j=0\/j=1\/j=2\/j=3 by omega) with rfl|rfl|rfl|rfl<;>assumption
theorem ap7 (w:World) (h l:Nat) (hh:h<18446744073709551616) (hl:l<18446744073709551616):Calls prog 87 #[.agg #[.int .u64 (h:Int),.int .u64 (l:Int)]] w (Cf w [] (h*18446744073709551616+l)):=by
 obtain⟨d0,d1,d2,d3⟩:=ap5 hh hl;have hx:h*18446744073709551616+l<ug^4:=by rw[show ug^4=340282366920938463463374607431768211456 by decide];omega
 have hR:∀ W:World,vY (W.alloc (.cells #[.int .u32 ((l:Int)%4294967296),.int .u32 ((l:Int)/4294967296),.int .u32 ((h:Int)%4294967296),.int .u32 ((h:Int)/4294967296)] 117)) (.slice (some ⟨W.heap.size,0,none⟩) 4 4) 4 (h*18446744073709551616+l):=λW=>by
  refine vY.some (by simp) (ap6 ?_ ?_ ?_ ?_)
  ·rw[show dV (h*18446744073709551616+l) 0 = .int .u32 ((l:Int)%4294967296) by unfold dV;rw[<- d0];rfl];unfold World.cell?;simp only[World.alloc_heap_new];rfl
  ·rw[show dV (h*18446744073709551616+l) 1 = .int .u32 ((l:Int)/4294967296) by unfold dV;rw[<- d1];rfl];unfold World.cell?;simp only[World.alloc_heap_new];rfl
  ·rw[show dV (h*18446744073709551616+l) 2 = .int .u32 ((h:Int)%4294967296) by unfold dV;rw[<- d2];rfl];unfold World.cell?;simp only[World.alloc_heap_new];rfl
  ·rw[show dV (h*18446744073709551616+l) 3 = .int .u32 ((h:Int)/4294967296) by unfold dV;rw[<- d3];rfl];unfold World.cell?;simp only[World.alloc_heap_new];rfl
 have hR1:=hR (w.alloc (.cells #[.int .u64 (h:Int),.int .u64 (l:Int)] 25));rw[show(w.alloc (.cells #[.int .u64 (h:Int),.int .u64 (l:Int)] 25)).heap.size=w.heap.size+1 by simp] at hR1;have q1:(l:Int)/4294967296<4294967296:=by omega
 have q2:(h:Int)/4294967296<4294967296:=by omega
 clear hR d0 d1 d2 d3;generalize h*18446744073709551616+l=X at *
 go_enter func87,ntmps87
 go_wp2_with (go_at_call 59;with_reducible refine(Lf _ _ 4 X (by omega) hx hR1 (λad n c h=>by cases h;exact Nat.le_refl _)).mono ?_;rintro e w' ⟨u,rfl,hr,hbk,rfl⟩)
 go_ret
 exact⟨_,rfl,hr,λb h=>(by have h2:some (w.heap.size+1)=some b:=hbk b h;cases h2;omega),((tQ.refl w).alloc _).alloc _⟩
def Et (N X Y t:Nat):List Value:=(List.range N).map λj=>if j<t then dV Y j else dV X j
theorem aam {N X Y t j:Nat} (h:j<N):(Et N X Y t)[j]? = some (if j<t then dV Y j else dV X j):=by simp[Et,h]
theorem ap8 {N X Y t:Nat} (h:t<N):(Et N X Y t).set t (dV Y t)=Et N X Y (t+1):=by
 apply List.ext_getElem?;intro j;rw[List.getElem?_set];by_cases hj:j<N
 ·rw[aam (t:=t+1) hj];by_cases e:t=j
  ·subst e;rw[if_pos rfl,if_pos (by simpa [Et] using h),if_pos (Nat.lt_succ_self _)]
  ·rw[if_neg e,aam hj];by_cases h2:j<t
   ·rw[if_pos h2,if_pos (by omega)]
   ·rw[if_neg h2,if_neg (by omega)]
 ·have hn:∀ t',(Et N X Y t')[j]? = none:=λt'=>by simp[Et];omega
  rw[hn,hn,if_neg (by omega)]
theorem ap9 {N X Y t:Nat} (h:∀ j,j<t->dg Y j=dg X j):Et N X Y t=xY N X:=by
 unfold Et xY;apply List.map_congr_left;intro j _;split
 ·rename_i h1;unfold dV;rw[h j h1]
 ·rfl
theorem aqa {N X Y t:Nat} (h:∀ j,t<=j->dg X j=dg Y j):Et N X Y t=xY N Y:=by
 unfold Et xY;apply List.map_congr_left;intro j _;split
 ·rfl
 ·rename_i h1;unfold dV;rw[h j (by omega)]
theorem aqb {a b i j:Nat} (h:j<i):dg (mX a b (i+1)) j=dg (mX a b i) j:=by
 rw[Vk];generalize dg a i*b=z;generalize mX a b i=x
 have e:ug^i*z=ug^j*(ug*(ug^(i-j-1)*z)):=by rw[<- Nat.mul_assoc,<- Nat.mul_assoc,<- Nat.pow_succ,<- Nat.pow_add];congr 2;omega
 unfold dg;rw[e,Nat.add_mul_div_left _ _ (yV j),Nat.add_mul_mod_self_left]
theorem aqc {x y:Nat} (hx:x<4294967296) (hy:y<4294967296):IntKind.u64.wrap ((x:Int)*(y:Int))=((x*y:Nat):Int)/\x*y<=18446744065119617025:=by have h:x*y<=4294967295*4294967295:=Nat.mul_le_mul (by omega) (by omega);refine⟨?_,by omega⟩;rw[<- Int.natCast_mul,xL];exact Fe _ (by unfold tV;omega)
theorem aqd (w:World) (va vb:Value) (a b:Nat) (ha:uH a<=34000000) (hb:uH b<=34000000) (hA:vY w va (uH a) a) (hB:vY w vb (uH b) b) :
  Calls prog 37 #[va,vb] w (Cf w [va,vb] (a*b)):=by
 obtain⟨i0,hi,hz0,hz1,hz2⟩:=info_parts RX;obtain⟨ada,capa,rfl,hcA⟩:=hA.any;obtain⟨adb,capb,rfl,_⟩:=hB.any;have hxa:=Du a;have hxb:=Du b;generalize uH a=la at *
 generalize uH b=lb at *
 go_enter func37,ntmps37
 go_wp2_with (at_make;refine wpList_make_full _ rfl (.tmp 14) (.tmp 14) 33 rfl w.heap.size 117 i0 (.int .u32 0) 1 underlying33 hi hz0 hz1 .i64 .i64 ((la:Int)+lb+1) ((la:Int)+lb+1) (la+lb+1) rfl rfl (by omega) (by omega) (by rw[hz2];omega) (by unfold maxLen;omega) (Nat.le_refl _) ?_;intro w1 hown0 hgrow0)
 have hB1:Below w.heap.size w w1:=(Below.refl _ w).grown hgrow0 (Nat.le_refl _) (λk hk=>by cases hk)
 have hz:(madeCells (Value.int .u32 0).cells ((la+lb+1)*1)).toList=xY (la+lb+1) (mX a b 0):=by rw[apD,show(Value.int .u32 0).cells = #[Value.int .u32 0] from rfl,toList_madeCells_one,Nat.mul_one];symm;unfold xY;rw[List.eq_replicate_iff];refine⟨by simp,λb hb=>?_⟩;obtain⟨j,hj,rfl⟩:=List.mem_map.1 hb;unfold dV;rw[NP (yV j)];rfl
 rw[hz] at hown0;clear hz;obtain⟨N,hN⟩:∃ N,la+lb+1=N:=⟨_,rfl⟩;rw[hN] at hown0 ⊢
 go_loopw [6] (λi wr=>∃ k:Nat,k<=la/\i = .int .i64 (k:Int)/\wr.ownsRow w.heap.size 117 1 (.slice (some ⟨w.heap.size,0,none⟩) N N) N (xY N (mX a b k))/\Below w.heap.size w wr)
  (λi _=>la-(intOf i).toNat)
 case atStart=>exact⟨0,Nat.zero_le _,rfl,hown0,hB1⟩
 case round =>
  clear hown0 hB1 hgrow0;obtain⟨i,hi',rfl,hown,hnx⟩:=hrel;by_cases hlt:i<la
  ·obtain⟨ba,oa,rfl,hba,hca⟩:=hcA (by omega);have q1:(i:Int)<(la:Int):=by omega
   rw[<- ap9 (Y:=mX a b (i+1)) (λj hj=>aqb hj)] at hown
   go_wp2
   go_loopw [7,8] (λc k w2=>∃ j:Nat,j<=lb+1/\k = .int .i64 (j:Int)/\c = .int .u64 (zA a b i j:Int)/\w2.ownsRow w.heap.size 117 1 (.slice (some ⟨w.heap.size,0,none⟩) N N) N (Et N (mX a b i) (mX a b (i+1)) (i+j))/\Below w.heap.size w w2)
    (λ_ k _=>lb+1-(intOf k).toNat)
   case atStart=>exact⟨0,Nat.zero_le _,rfl,by rw[apF];rfl,hown,hnx⟩
   case round =>
    clear hown hnx;obtain⟨j,hj,rfl,rfl,hown,hnx⟩:=hrel
    have hiN:i+j<N\/zA a b i j=0/\lb<=j:=by
     rcases Nat.lt_or_ge j (lb+1) with h|h
     ·left;omega
     ·right;have:j=lb+1:=by omega
      subst this;exact⟨agj hxb,by omega⟩
    by_cases hend:lb<=j/\zA a b i j=0
    ·have hx:=aqa (N:=N) (X:=mX a b i) (Y:=mX a b (i+1)) (t:=i+j) (λr hr=>apK (Nat.lt_of_lt_of_le hxb (Nat.pow_le_pow_right Fq hend.1)) hend.2 hr);rw[hx] at hown;have hc0:=hend.2;have q2:¬ (j:Int)<(lb:Int):=by omega
     rw[hc0]
     go_wp2
     go_roundw
     case rel=>exact⟨i+1,by omega,by go_num,hown,hnx⟩
     case measure=>simp[intOf];omega
    ·have hlj:i+j<N:=by
      rcases hiN with h|h
      ·exact h
      ·exact absurd ⟨h.2,h.1⟩ hend
     have hjl:j<lb+1:=by
      apply Nat.lt_of_not_le;intro hge;have:j=lb+1:=by omega
      subst this;exact hend ⟨by omega,agj hxb⟩
     have c1:=(hnx.cell (p:=⟨ba,oa+i,none⟩) hba).trans (hca i (by omega));have c2:=(World.ownsRow.cellAt hown (i+j) (by omega)).trans (aam hlj);rw[if_neg (Nat.lt_irrefl _)] at c2;have f2:=World.ownsRow.frozenAt hown (i+j);have hset:=World.ownsRow.stored hown (i+j) (dV (mX a b (i+1)) (i+j));rw[ap8 hlj] at hset;have b1:=apJ a b i j;have b2:=Ap a i;have b3:=Ap b j;have b4:=Ap (mX a b i) (i+j);have e1:=apI a b i j;have e2:=apG a b i j;have hBr:=hB.bel (hnx:tQ w wr);unfold dV at c1 c2 hset;rw[show Int.ofNat (dg a i)=((dg a i:Nat):Int) from rfl] at c1;rw[show Int.ofNat (dg (mX a b i) (i+j))=((dg (mX a b i) (i+j):Nat):Int) from rfl] at c2;rw[show Int.ofNat (dg (mX a b (i+1)) (i+j))=((dg (mX a b (i+1)) (i+j):Nat):Int) from rfl] at hset
     have hdd:∀ m,Calls prog 60 #[.slice adb lb capb,.int .i64 (j:Int)] (wr.drewN m) λe w'=>e = .returned (.int .u32 (dg b j:Int))/\w'=wr.drewN m:=λm =>
      (Jw (wr.drewN m) _ lb b j (by omega) (by omega) hxb (hBr.bel ((tQ.refl _).drewN _))).mono λe w' h=>⟨h.1,h.2.symm⟩
     generalize dg a i=x at *
     generalize dg b j=y at *
     generalize dg (mX a b i) (i+j)=z at *
     generalize hD:dg (mX a b (i+1)) (i+j)=D at *
     unfold ug at b1 b2 b3 b4 e1;obtain⟨m1,m2⟩:=aqc b2 b3;have qc:(j:Int)<(lb:Int)\/(¬ (j:Int)<(lb:Int)/\(zA a b i j:Int)>0):=by omega
     have hc':((zA a b i (j+1):Nat):Int)=((zA a b i j:Nat)+((x*y:Nat)+z:Nat):Int)/4294967296:=by rw[<- e2];unfold ug;omega
     generalize zA a b i j=c at *
     generalize hcy:zA a b i (j+1)=c' at *
     have hcy:=Lib.hid hcy;generalize x*y=P at *
     have ez:((c:Int)+P+z)%4294967296=(D:Int):=by omega
     have ec:((c:Int)+P+z)/4294967296=(c':Int):=by omega
     have qi:((i:Int)+j)<(N:Int):=by omega
     clear e1 e2 hc';rcases qc with q2|⟨q2,q3⟩
     all_goals
      go_wp2_with fail
      go_quiet ((go_at_call 60;with_reducible exact Calls.quiet_of_same (hdd _)))
      clear hdd
      go_wp2_with fail
      refine⟨⟨j+1,by omega,by go_num,by rw[hcy.out],?_,?_⟩,by simp[intOf];omega⟩
      ·rw[<- Nat.add_assoc];exact hset.1
      ·exact(show Below w.heap.size w (wr.drewN nq) from⟨hnx.os,hnx.tape,hnx.output,hnx.size,hnx.block⟩).setCell (p:=⟨w.heap.size,i+j,none⟩) (Nat.le_refl _) _
  ·obtain rfl:i=la:=by omega
   rw[apE hxa] at hown
   have l3:a*b<ug^N:=by rw[<- hN,Nat.pow_succ,Nat.pow_add];exact Nat.lt_of_lt_of_le (Nat.mul_lt_mul'' hxa hxb) (Nat.le_mul_of_pos_right _ Fq)
   have hmk:N<=70000000:=by omega
   have q1:¬ (i:Int)<(i:Int):=by omega
   go_wp2_with (go_at_call 59;with_reducible refine(Lf _ _ _ _ hmk l3 (RU hown) (RY hown)).mono ?_;rintro e w' ⟨u,rfl,hr,hbk,rfl⟩)
   go_ret
   exact Cf.of hown hr hbk hnx
def gN (l:List Int) (i:Nat):Nat:=(ul l i).toNat
def gU (l:List Int) (i:Nat):Nat:=(IntKind.u64.wrap (ul l i)).toNat
def gW (l:List Int) (i:Nat):Int:=IntKind.i64.wrap (ul l i)
theorem aan (l:List Int) (i:Nat):gU l i<18446744073709551616:=by unfold gU IntKind.wrap IntKind.bits IntKind.signed;simp;omega
theorem aao (l:List Int) (i:Nat):IntKind.u64.wrap (ul l i)=(gU l i:Int):=by unfold gU IntKind.wrap IntKind.bits IntKind.signed;simp;omega
def Lg (a:Nat) (n:Int):Bool:=CL a&&(decide (0<=n)&&decide (n<=1073741824))
theorem aap {a:Nat} {n:Int} (h:Lg a n=true):uH a<=34000000/\∃ k:Nat,n=(k:Int)/\k<=1073741824:=by unfold Lg at h;simp only[Bool.and_eq_true,decide_eq_true_eq] at h;have:=agp h.1;exact⟨by omega,n.toNat,by omega,by omega⟩
theorem Jy {a:Nat} (h:CL a=true):uH a<=34000000:=by have:=agp h;omega
def NR (l:List Int):List Int:=[(gU l 0:Int)]
def NS (l:List Int):List Int:=[((gU l 0*18446744073709551616+gU l 1:Nat):Int)]
def NT (l:List Int):List Int:=if (CL (gN l 0)&&CL (gN l 1))=true then [zC (gN l 0) (gN l 1)] else []
def NU (l:List Int):List Int:=if (CL (gN l 0)&&CL (gN l 1))=true then [((gN l 0+gN l 1:Nat):Int)] else []
def NV (l:List Int):List Int:=if (CL (gN l 0)&&decide (gN l 1<=gN l 0))=true then [((gN l 0-gN l 1:Nat):Int)] else []
def ags (l:List Int):List Int:=if (CL (gN l 0)&&CL (gN l 1))=true then [((gN l 0*gN l 1:Nat):Int)] else []
def Jz (l:List Int):List Int:=if Lg (gN l 0) (gW l 1)=true then [((gN l 0*2^(gW l 1).toNat:Nat):Int)] else []
def JA (l:List Int):List Int:=if Lg (gN l 0) (gW l 1)=true then [((gN l 0/2^(gW l 1).toNat:Nat):Int)] else []
def NW (l:List Int):List Int:=if Lg (gN l 0) (gW l 1)=true then [ui ((gN l 0).testBit (gW l 1).toNat)] else []
theorem agt {w:World} {l:List Int} {fvs:List Value} {k:VK} (h:wF w [k] l fvs):∃ n v,l = [n]/\fvs = [v]/\KJ w k n v:=by
 match l,fvs,h with
 | [n],[v],h=>exact⟨n,v,rfl,rfl,h.1⟩
 | [],fvs,h=>cases fvs<;>exact h.elim
 | _::_::_,[],h=>exact h.elim
 | _::_::_,_ :: [],h=>exact h.2.elim
 | _::_::_,_::_::_,h=>exact h.2.elim
 | [_],[],h=>exact h.elim
 | [_],_::_::_,h=>exact h.2.elim
theorem HZ {w:World} {l:List Int} {fvs:List Value} {k k':VK} (h:wF w [k,k'] l fvs):∃ n m v u,l = [n,m]/\fvs = [v,u]/\KJ w k n v/\KJ w k' m u:=by
 match l,fvs,h with
 | n::l,v::fvs,h =>
  obtain⟨m,u,rfl,rfl,h2⟩:=agt h.2;exact⟨n,m,v,u,rfl,rfl,h.1,h2⟩
 | [],fvs,h=>cases fvs<;>exact h.elim
 | _::_,[],h=>exact h.elim
theorem aqe:wS prog gG ⟨67,⟨[.sc kU],[.sc .nat]⟩,NR⟩:=by
 refine⟨by decide,λl _ _=>Ld func67 (by kernel_rfl) (by kernel_rfl) λw fvs _ hfit=>?_⟩;obtain⟨n,v,rfl,rfl,h1⟩:=agt hfit;have e:v = .int .u64 (gU [n] 0:Int):=by rw[<- aao];exact h1
 subst e;exact(apV w _ (aan [n] 0)).mono λe w' h=>h
theorem JB {P:Program} {G:uG} {g:FuncId} {a r:List Sh} {F v:List Int->List Int} {c:List Int->Bool} (hF:∀ l,F l=if c l=true then v l else []) (hr:0<(tO r).length) (h2:xD (tO r)<=2) (h:∀ l,c l=true->F6 P G g ⟨a,r⟩ l (v l)):wS P G ⟨g,⟨a,r⟩,F⟩:=by
 refine⟨h2,λl _ hl=>?_⟩;show F6 P G g ⟨a,r⟩ l (F l);have hl:(F l).length=(tO r).length:=hl;by_cases hc:c l=true
 ·rw[hF l,if_pos hc];exact h l hc
 ·rw[hF l,if_neg hc] at hl;simp only[List.length_nil] at hl;omega
theorem aqf:wS prog gG ⟨87,⟨[.agg [kU,kU]],[.sc .nat]⟩,NS⟩:=by
 refine⟨by decide,λl _ _=>Ld func87 (by kernel_rfl) (by kernel_rfl) λw fvs _ hfit=>?_⟩;obtain⟨n,m,v,u,rfl,rfl,h1,h2⟩:=HZ hfit;have e1:v = .int .u64 (gU [n,m] 0:Int):=by rw[<- aao];exact h1
 have e2:u = .int .u64 (gU [n,m] 1:Int):=by rw[<- aao];exact h2
 subst e1;subst e2;exact(ap7 w _ _ (aan [n,m] 0) (aan [n,m] 1)).mono λe w' h=>h
theorem aqg:wS prog gG ⟨31,⟨[.sc .nat,.sc .nat],[.sc (.int .i64)]⟩,NT⟩:=by
 refine JB (v:=λl=>[zC (gN l 0) (gN l 1)]) (λ_=>rfl) (by decide) (by decide) λl h=>?_
 simp only[Bool.and_eq_true] at h
 have hw:IntKind.i64.wrap (zC (gN l 0) (gN l 1))=zC (gN l 0) (gN l 1):=by
  unfold zC;split
  ·rfl
  ·split<;>rfl
 refine aaj func31 (by kernel_rfl) (by kernel_rfl) [.int .i64 (zC (gN l 0) (gN l 1))] (λw=>⟨?_,trivial⟩) (λv hv=>by rw[List.mem_singleton.1 hv];rfl) λw fvs _ hfit=>?_
 ·show Value.int .i64 _ = .int .i64 (IntKind.i64.wrap _);rw[hw]
 ·obtain⟨n,m,v,u,rfl,rfl,h1,h2⟩:=HZ hfit;exact(ap2 w v u _ _ (Jy h.1) (Jy h.2) (Es h1) (Es h2)).mono λe w' h=>h
theorem aqh:wS prog gG ⟨30,⟨[.sc .nat,.sc .nat],[.sc .nat]⟩,NU⟩:=by
 refine JB (v:=λl=>[((gN l 0+gN l 1:Nat):Int)]) (λ_=>rfl) (by decide) (by decide) λl h=>?_
 simp only[Bool.and_eq_true] at h;refine Ld func30 (by kernel_rfl) (by kernel_rfl) λw fvs _ hfit=>?_
 obtain⟨n,m,v,u,rfl,rfl,h1,h2⟩:=HZ hfit;exact(apR w v u _ _ (Jy h.1) (Jy h.2) (Es h1) (Es h2)).mono λe w' h=>h
theorem aqi:wS prog gG ⟨32,⟨[.sc .nat,.sc .nat],[.sc .nat]⟩,NV⟩:=by
 refine JB (v:=λl=>[((gN l 0-gN l 1:Nat):Int)]) (λ_=>rfl) (by decide) (by decide) λl h=>?_
 simp only[Bool.and_eq_true,decide_eq_true_eq] at h;refine Ld func32 (by kernel_rfl) (by kernel_rfl) λw fvs _ hfit=>?_
 obtain⟨n,m,v,u,rfl,rfl,h1,h2⟩:=HZ hfit;exact(apS w v u _ _ h.2 (Jy h.1) (Es h1) (Es h2)).mono λe w' h=>h
theorem aqj:wS prog gG ⟨37,⟨[.sc .nat,.sc .nat],[.sc .nat]⟩,ags⟩:=by
 refine JB (v:=λl=>[((gN l 0*gN l 1:Nat):Int)]) (λ_=>rfl) (by decide) (by decide) λl h=>?_
 simp only[Bool.and_eq_true] at h;refine Ld func37 (by kernel_rfl) (by kernel_rfl) λw fvs _ hfit=>?_
 obtain⟨n,m,v,u,rfl,rfl,h1,h2⟩:=HZ hfit;exact(aqd w v u _ _ (Jy h.1) (Jy h.2) (Es h1) (Es h2)).mono λe w' h=>h
theorem aqk:wS prog gG ⟨29,⟨[.sc .nat,.sc (.int .i64)],[.sc .nat]⟩,Jz⟩:=by
 refine JB (v:=λl=>[((gN l 0*2^(gW l 1).toNat:Nat):Int)]) (λ_=>rfl) (by decide) (by decide) λl h=>?_
 obtain⟨h0,k,hk,hk2⟩:=aap h;refine Ld func29 (by kernel_rfl) (by kernel_rfl) λw fvs _ hfit=>?_
 obtain⟨n,m,v,u,rfl,rfl,h1,h2⟩:=HZ hfit;have e2:u = .int .i64 (gW [n,m] 1):=h2;rw[hk] at e2;subst e2;rw[hk,Int.toNat_natCast];exact(apZ w v _ k hk2 h0 (Es h1)).mono λe w' h=>h
theorem aql:wS prog gG ⟨65,⟨[.sc .nat,.sc (.int .i64)],[.sc .nat]⟩,JA⟩:=by
 refine JB (v:=λl=>[((gN l 0/2^(gW l 1).toNat:Nat):Int)]) (λ_=>rfl) (by decide) (by decide) λl h=>?_
 obtain⟨h0,k,hk,hk2⟩:=aap h;refine Ld func65 (by kernel_rfl) (by kernel_rfl) λw fvs _ hfit=>?_
 obtain⟨n,m,v,u,rfl,rfl,h1,h2⟩:=HZ hfit;have e2:u = .int .i64 (gW [n,m] 1):=h2;rw[hk] at e2;subst e2;rw[hk,Int.toNat_natCast];exact(ap1 w v _ k hk2 h0 (Es h1)).mono λe w' h=>h
theorem aqm:wS prog gG ⟨66,⟨[.sc .nat,.sc (.int .i64)],[.sc .bool]⟩,NW⟩:=by
 refine JB (v:=λl=>[ui ((gN l 0).testBit (gW l 1).toNat)]) (λ_=>rfl) (by decide) (by decide) λl h=>?_
 obtain⟨h0,k,hk,hk2⟩:=aap h;refine aaj func66 (by kernel_rfl) (by kernel_rfl) [.bool ((gN l 0).testBit k)] (λw=>⟨?_,trivial⟩) (λv hv=>by rw[List.mem_singleton.1 hv];rfl) λw fvs _ hfit=>?_
 ·show Value.bool _ = .bool (ui _ != 0);rw[xe,hk,Int.toNat_natCast]
 ·obtain⟨n,m,v,u,rfl,rfl,h1,h2⟩:=HZ hfit;have e2:u = .int .i64 (gW [n,m] 1):=h2;rw[hk] at e2;subst e2;exact(ap4 w v _ k hk2 h0 (Es h1)).mono λe w' h=>⟨h.1,by rw[<- h.2];exact tQ.refl w⟩
theorem agu (n i:Nat):IntKind.u32.wrap (dg n i:Int)=(dg n i:Int):=by have h:=Ap n i;unfold ug at h;unfold IntKind.wrap IntKind.bits IntKind.signed;simp;omega
def okD (a:Nat) (n:Int):Bool:=CL a&&(decide (0<=n)&&decide (n<=1000))
theorem aqn:wS prog gG ⟨60,⟨[.sc .nat,.sc (.int .i64)],[.sc (.int .u32)]⟩,λl=>if okD (gN l 0) (gW l 1)=true then [(dg (gN l 0) (gW l 1).toNat:Int)] else []⟩:=by
 refine JB (v:=λl=>[(dg (gN l 0) (gW l 1).toNat:Int)]) (c:=λl=>okD (gN l 0) (gW l 1)) (λ_=>rfl) (by decide) (by decide) λl h=>?_
 simp only[okD,Bool.and_eq_true,decide_eq_true_eq] at h;obtain⟨k,hk⟩:∃ k:Nat,gW l 1=(k:Int):=⟨(gW l 1).toNat,by omega⟩;have h0:=Jy h.1;refine aaj func60 (by kernel_rfl) (by kernel_rfl) [.int .u32 (dg (gN l 0) k:Int)] (λw=>⟨?_,trivial⟩) (λv hv=>by rw[List.mem_singleton.1 hv];rfl) λw fvs _ hfit=>?_
 ·show Value.int .u32 _ = .int .u32 (IntKind.u32.wrap _);rw[hk,Int.toNat_natCast,agu]
 ·obtain⟨n,m,v,u,rfl,rfl,h1,h2⟩:=HZ hfit;have e2:u = .int .i64 (gW [n,m] 1):=h2;rw[hk] at e2;subst e2;exact(Jw w v (uH (gN [n,m] 0)) (gN [n,m] 0) k (by omega) (by omega) (Du _) (Es h1)).mono λe w' h=>⟨h.1,by rw[<- h.2];exact tQ.refl w⟩
def NY (l:List Int):List Int:=if okD (gN l 0) (gW l 1)=true then [(dg (gN l 0) (gW l 1).toNat:Int)] else []
def N0:List uL:=[⟨67,⟨[.sc kU],[.sc .nat]⟩,NR⟩,⟨87,⟨[.agg [kU,kU]],[.sc .nat]⟩,NS⟩,⟨31,⟨[.sc .nat,.sc .nat],[.sc (.int .i64)]⟩,NT⟩,⟨30,⟨[.sc .nat,.sc .nat],[.sc .nat]⟩,NU⟩,⟨32,⟨[.sc .nat,.sc .nat],[.sc .nat]⟩,NV⟩,⟨37,⟨[.sc .nat,.sc .nat],[.sc .nat]⟩,ags⟩,⟨29,⟨[.sc .nat,.sc (.int .i64)],[.sc .nat]⟩,Jz⟩,⟨65,⟨[.sc .nat,.sc (.int .i64)],[.sc .nat]⟩,JA⟩,⟨66,⟨[.sc .nat,.sc (.int .i64)],[.sc .bool]⟩,NW⟩,⟨60,⟨[.sc .nat,.sc (.int .i64)],[.sc (.int .u32)]⟩,NY⟩]
theorem agv:∀ e∈N0,wS prog gG e:=List.forall_mem_cons.2 ⟨aqe,List.forall_mem_cons.2 ⟨aqf,List.forall_mem_cons.2 ⟨aqg,List.forall_mem_cons.2 ⟨aqh,List.forall_mem_cons.2 ⟨aqi,List.forall_mem_cons.2 ⟨aqj,List.forall_mem_cons.2 ⟨aqk,List.forall_mem_cons.2 ⟨aql,List.forall_mem_cons.2 ⟨aqm,List.forall_mem_cons.2 ⟨aqn,λe he=>by cases he⟩⟩⟩⟩⟩⟩⟩⟩⟩⟩
def C0:List uL:=[]
theorem aaq:∀ e∈C0,wX prog gG e:=λe he=>by cases he
def Z0:List wY:=[]
theorem N7:∀ e∈Z0,UB prog gG e:=λe he=>by cases he
end Go.Proofs.YtippohicjhilnaaGreatDoor
