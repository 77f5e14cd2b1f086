import Derived.Test.YtemomocmfggiaaaGreatDoorZDU6
import Derived.Test.YtemomocmfggiaaaGreatDoorZEU6
import Derived.Test.YtemomocmfggiaaaGreatDoorZFU6
set_option linter.defProp false
set_option linter.unusedSimpArgs false
set_option linter.unusedVariables false
set_option maxRecDepth 100000
namespace Go.Proofs.YtemomocmfggiaaaGreatDoor
open Go.RowKit
theorem xe {α:Type} (l:List α):l ++ []=l:=by rw[List.append_nil]
theorem wB {α:Type} (a:α) (l m:List α):(a::l)++m=a::(l++m):=by rw[List.cons_append]
theorem wC {α:Type} (l:List α) : []++l=l:=by rw[List.nil_append]
theorem xg {α β:Type} (f:α→β) (a:α) (l:List α):List.map f (a::l)=f a::List.map f l:=by rw[List.map_cons]
theorem xh {α β:Type} (f:α→β):List.map f [] = []:=by rw[List.map_nil]
theorem wV (x:Int) (l:List Int):vT (x::l) 0=x:=by rw[vT]
theorem wW (x:Int) (l:List Int) (n:Nat):vT (x::l) (n+1)=vT l n:=by rw[vT]
theorem ZG {β:Sort _} (l:List Int):∀ (xs:List X) (K:List Int→β),evs l xs K=K (xs.map (X.ev l))
 | [],K=>rfl
 | x::xs,K=>by rw[evs,Hy,ZG l xs];rfl
theorem vg {Φ:yY} {ct:Ct} {a:SV} {l:List Int} {xs:List X} (h:DX ct.r (Gg ct.r a)=some xs):vU Φ ct (.leaf a) l=xs.map (X.ev l):=by
 unfold vU;simp only[zg,h,ZG,id]
theorem wG {Φ:yY} {ct:Ct} {c:X} {a b:vo SV} {l:List Int} : vU Φ ct (.ite c a b) l=if vG (c.ev l)=true then vU Φ ct a l else vU Φ ct b l:=by
 unfold vU
 simp only[zg]
 cases vG (c.ev l)<;>rfl
theorem ve {Φ:yY} {ct:Ct} {f:Nat} {args:List X} {base n:Nat} {t:vo SV} {l:List Int} {r:List Int} (h:Φ f (args.map (X.ev l))=r) (hn:r.length=n):vU Φ ct (.call f args base n t) l=vU Φ ct t (l++r):=by
 unfold vU
 simp only[zg,ZG,h]
 rw[show Nat.beq r.length n=true by rw[hn];exact Nat.beq_refl n]
theorem vJ (b:Bool):vG (vw b)=b:=by cases b<;>rfl
def i64 (n:Int):Int:=yX .i64 n
def u8 (n:Int):Int:=yX .u8 n
theorem aej (n:Int) : -9223372036854775808≤i64 n∧i64 n≤9223372036854775807:=by unfold i64;rw[xR];exact Ff .i64 n
theorem CW (n:Int):0≤u8 n∧u8 n≤255:=by unfold u8;rw[xR];exact Ff .u8 n
theorem Ug (n:Int):0≤u64 n∧u64 n≤18446744073709551615:=by unfold u64;rw[xR];exact Ff .u64 n
theorem wL {n:Int} (h1 : -9223372036854775808≤n) (h2:n≤9223372036854775807):i64 n=n:=by unfold i64;rw[xR];exact SL h1 h2
theorem BP {n:Int} (h1:0≤n) (h2:n≤255):u8 n=n:=by unfold u8;rw[xR];exact SL h1 h2
theorem Gx (n:Int):IntKind.i64.wrap n=i64 n:=by unfold i64;rw[xR]
theorem AU (n:Int):IntKind.u64.wrap n=u64 n:=by unfold u64;rw[xR]
theorem ZH (n:Int):IntKind.u8.wrap n=u8 n:=by unfold u8;rw[xR]
theorem aoH (n:Int):yX .u64 n=u64 n:=rfl
theorem aek (n:Int):yX .u8 n=u8 n:=rfl
theorem xI (n:Int):i64 (i64 n)=i64 n:=wL (aej n).1 (aej n).2
theorem zV (n:Int):u64 (u64 n)=u64 n:=Gm (CQ n)
theorem wS (n:Int):u8 (u8 n)=u8 n:=BP (CW n).1 (CW n).2
theorem Gy (n:Nat) (h:n<vC):u64 (n:Int)=n:=Gm ⟨Int.natCast_nonneg _,by exact_mod_cast h⟩
theorem BQ (n i:Nat):u64 (wd n i)=wd n i:=Gm (Er _ _)
abbrev fN (a:Int):Nat:=(u8 a).toNat
theorem vH (a:Int):fN (u8 a)=fN a:=by unfold fN;rw[wS]
def nB (h l:Int):Nat:=(u64 h).toNat*vC+(u64 l).toNat
def nW (a b c d:Int):Nat:=(u64 a).toNat+vC*((u64 b).toNat+vC*((u64 c).toNat+vC*(u64 d).toNat))
def oB (n:Nat):List Int:=[wd n 1,wd n 0]
def oW (n:Nat):List Int:=[wd n 0,wd n 1,wd n 2,wd n 3]
theorem vR (n:Nat):oB n = [wd n 1,wd n 0]:=by rw[oB]
theorem yC (n:Nat):oW n = [wd n 0,wd n 1,wd n 2,wd n 3]:=by rw[oW]
theorem Eb:vC=18446744073709551616:=rfl
theorem OI:vF=340282366920938463463374607431768211456:=by decide
theorem Gz (h l:Int):nB h l<vF:=by
 unfold nB
 have h1:=(yZ h).2;have h2:=(yZ l).2
 rw[Eb] at *;rw[OI];omega
theorem JG (h l:Int):u64 h=wd (nB h l) 1∧u64 l=wd (nB h l) 0:=by
 have h1:=(yZ h);have h2:=(yZ l)
 have e0:=ajy (h:=(u64 h).toNat) h2.2
 have e1:=ajz h1.2 h2.2
 unfold Qb at e0 e1
 unfold nB
 rw[e0,e1]
 exact⟨h1.1.symm,h2.1.symm⟩
theorem ael {n:Nat} (h:n<vF):nB (wd n 1) (wd n 0)=n:=by
 have:=JG (wd n 1) (wd n 0)
 rw[Gm (Er _ _),Gm (Er _ _)] at this
 exact(ab2 h (Gz _ _) this.2 this.1).symm
theorem OJ (n:Nat):nB (wd n 1) (wd n 0)=n%vF:=by
 have:=ael (n:=n%vF) (Nat.mod_lt _ Es)
 rw[F6 n 1 (by decide),F6 n 0 (by decide)] at this
 exact this
theorem JH (a b c d:Int):u64 a=wd (nW a b c d) 0∧u64 b=wd (nW a b c d) 1∧u64 c=wd (nW a b c d) 2∧u64 d=wd (nW a b c d) 3∧nW a b c d<vL:=by
 obtain⟨h0,h1,h2,h3,h4⟩:=ady _ _ _ _ (yZ a).2 (yZ b).2 (yZ c).2 (yZ d).2
 unfold nW
 rw[h0,h1,h2,h3,(yZ _).1,(yZ _).1,(yZ _).1,(yZ _).1]
 exact⟨rfl,rfl,rfl,rfl,h4⟩
theorem JI (a b c d:Int):nW a b c d<vL:=(JH a b c d).2.2.2.2
theorem aoI {n:Nat} (h:n<vL):nW (wd n 0) (wd n 1) (wd n 2) (wd n 3)=n:=by
 obtain⟨h0,h1,h2,h3,h4⟩:=JH (wd n 0) (wd n 1) (wd n 2) (wd n 3)
 rw[Gm (Er _ _)] at h0 h1 h2 h3
 exact(Wu h h4 h0 h1 h2 h3).symm
theorem Ck (h l:Int):∃ n:Nat,n<vF∧nB h l=n∧u64 h=wd n 1∧u64 l=wd n 0:=⟨nB h l,Gz h l,rfl,(JG h l).1,(JG h l).2⟩
theorem Li (a b c d:Int):∃ n:Nat,n<vL∧nW a b c d=n∧u64 a=wd n 0∧u64 b=wd n 1∧u64 c=wd n 2∧u64 d=wd n 3:=by
 obtain⟨h0,h1,h2,h3,h4⟩:=JH a b c d
 exact⟨_,h4,rfl,h0,h1,h2,h3⟩
theorem y9 (n i:Nat):wd n i=((n/vC^i%vC:Nat):Int):=rfl
theorem ZI (i:Nat):vC^i=2^(64*i):=by rw[Fb,← Nat.pow_mul]
theorem Lj (a j k:Nat):(a/vC^j%vC).testBit k=(decide (k<64)&&a.testBit (64*j+k)):=by
 by_cases hk:k<64
 ·rw[MI a j k hk];simp[hk]
 ·rw[Fb,Nat.testBit_mod_two_pow];simp[hk]
theorem aoJ (a r j:Nat) (hr:r<64):a*2^r/vC^j%vC=(a/vC^j%vC*2^r%vC)|||(if j=0 then 0 else a/vC^(j-1)%vC/2^(64-r)):=by
 apply Nat.eq_of_testBit_eq
 intro k
 have e:vC=2^64:=Fb
 rw[Lj,Nat.testBit_or,show a/vC^j%vC*2^r%vC=a/vC^j%vC*2^r%2^64 by rw[← e],Nat.testBit_mod_two_pow,Nat.testBit_mul_two_pow,Nat.testBit_mul_two_pow,Lj]
 by_cases hk:k<64
 ·by_cases hj:j=0
  ·subst hj
   by_cases h:r≤k
   ·simp[hk,h];intro;omega
   ·simp[hk,h]
  ·rw[if_neg hj,Nat.testBit_div_two_pow,Lj]
   by_cases h:r≤k
   ·have h2:¬ (64-r+k<64):=by omega
    have h3:k-r<64:=by omega
    simp[hk,h,h3,show r≤64*j+k by omega,show 64*j+k-r=64*j+(k-r) by omega,show ¬ (k+(64-r)<64) by omega]
   ·simp[hk,h,show r≤64*j+k by omega,show k+(64-r)<64 by omega,show 64*j+k-r=64*(j-1)+(k+(64-r)) by omega]
 ·by_cases hj:j=0
  ·subst hj;simp[hk]
  ·rw[if_neg hj,Nat.testBit_div_two_pow,Lj]
   simp[hk]
   intro h;omega
theorem ZJ (a r j:Nat) (hr:r<64):wd (a*2^r) j=((((wd a j).toNat*2^r%vC)|||(if j=0 then 0 else(wd a (j-1)).toNat/2^(64-r)):Nat):Int):=by
 rw[y9,aoJ a r j hr,y9,y9,Int.toNat_natCast,Int.toNat_natCast]
theorem ZK (a w i:Nat):wd (a*vC^w) i=if i<w then 0 else wd a (i-w):=by
 rw[y9,y9]
 split
 ·rename_i h
  obtain⟨d,rfl⟩:∃ d,w=i+1+d:=⟨w-i-1,by omega⟩
  rw[show a*vC^(i+1+d)=a*vC^d*vC*vC^i by rw[Nat.pow_add,Nat.pow_add,Nat.pow_one];ac_rfl,Nat.mul_div_cancel _ (CG i),Nat.mul_mod_left];rfl
 ·rename_i h
  obtain⟨d,rfl⟩:∃ d,i=w+d:=⟨i-w,by omega⟩
  rw[Nat.pow_add,← Nat.div_div_eq_div_mul,Nat.mul_div_cancel _ (CG w),show w+d-w=d by omega]
theorem Q9 (x y:Nat) (hx:x<vC) (hy:y<vC):vX .or .u64 (x:Int) (y:Int)=((x|||y:Nat):Int):=by
 have e:vC=2^64:=Fb
 rw[← HV]
 simp only[fold]
 have h1:xQ .u64 (x:Int)=x:=by show x%Ar .u64=x;rw[show Ar .u64=vC from rfl,Nat.mod_eq_of_lt hx]
 have h2:xQ .u64 (y:Int)=y:=by show y%Ar .u64=y;rw[show Ar .u64=vC from rfl,Nat.mod_eq_of_lt hy]
 rw[h1,h2]
 have:x|||y<vC:=by rw[e] at *;exact Nat.or_lt_two_pow hx hy
 exact Gy _ this
theorem aoK (x r:Nat) (hr:r≤64):vX .shl .u64 (x:Int) (r:Int)=((x*2^r%vC:Nat):Int):=by
 simp only[vX,Int.toNat_natCast,IntKind.bits,Nat.min_eq_left hr]
 rw[show((x:Int)*2^r)=((x*2^r:Nat):Int) by push_cast;rfl,AU]
 unfold u64
 rw[xR]
 unfold IntKind.wrap IntKind.bits IntKind.signed
 simp[Eb]
theorem ZL (x r:Nat) (hr:r≤64):vX .shr .u64 (x:Int) (r:Int)=((x/2^r:Nat):Int):=by
 simp only[vX,Int.toNat_natCast,IntKind.bits,Nat.min_eq_left hr]
 rw[Int.fdiv_eq_ediv_of_nonneg _ (Int.pow_nonneg (by decide))];simp
theorem Uh (m:Int):vX .and .i64 m 63=m%64:=by
 rw[← HV]
 simp only[fold]
 have h2:xQ .i64 63=63:=by decide
 have h1:=Wy .i64 m
 have h3:Nat.land (xQ .i64 m) 63=xQ .i64 m%64:=Nat.and_two_pow_sub_one_eq_mod (n:=6) (x:=xQ .i64 m)
 rw[h2,xR,h3,show Int.ofNat (xQ .i64 m%64)=((xQ .i64 m%64:Nat):Int) from rfl,Gx,wL (by omega) (by omega)]
 show((xQ .i64 m%64:Nat):Int)=m%64
 have h4:((xQ .i64 m%64:Nat):Int)=(xQ .i64 m:Int)%64:=by simp
 rw[h4,h1]
 show m%18446744073709551616%64=m%64
 omega
theorem aoL (m:Nat):vX .and .i64 (m:Int) 63=((m%64:Nat):Int):=by
 rw[← HV]
 simp only[fold]
 have h2:xQ .i64 63=63:=by decide
 rw[h2,xR]
 have h1:xQ .i64 (m:Int)%64=m%64:=by
  show m%Ar .i64%64=m%64
  rw[show Ar .i64=64*288230376151711744 from rfl,Nat.mod_mul_right_mod]
 have h3:Nat.land (xQ .i64 (m:Int)) 63=m%64:=by
  rw[← h1];exact Nat.and_two_pow_sub_one_eq_mod (n:=6) (x:=xQ .i64 (m:Int))
 rw[h3,show Int.ofNat (m%64)=((m%64:Nat):Int) from rfl,Gx]
 exact wL (by omega) (by omega)
theorem zo (l:List Int) (n:Int):X.ev l (.lit n)=n:=by rw[X.ev]
theorem zq (l:List Int) (op:BinOp) (k:IntKind) (a b:X):X.ev l (.bin op k a b)=vX op k (a.ev l) (b.ev l):=by rw[X.ev,HV]
theorem Ra (l:List Int) (k:IntKind) (a:X):X.ev l (.conv k a)=k.wrap (a.ev l):=by rw[X.ev,xR]
theorem BR (l:List Int) (a:X):X.ev l (.not a)=vw (!vG (a.ev l)):=by rw[X.ev,Dk]
theorem aoM (l:List Int) (a b:X):X.ev l (.and a b)=vw (vG (a.ev l)&&vG (b.ev l)):=by
 rw[X.ev];cases vG (a.ev l)<;>rfl
theorem aoN (l:List Int) (a b:X):X.ev l (.beq a b)=vw (vG (a.ev l)==vG (b.ev l)):=by
 rw[X.ev];cases vG (a.ev l)<;>cases vG (b.ev l)<;>rfl
theorem JJ (l:List Int) (a b:X):X.ev l (.min a b)=min (a.ev l) (b.ev l):=by
 rw[X.ev,Cc]
 by_cases h:b.ev l<a.ev l
 ·rw[decide_eq_true h,Int.min_eq_right (by omega)]
 ·rw[decide_eq_false h,Int.min_eq_left (by omega)]
theorem JK (l:List Int) (a b:X):X.ev l (.max a b)=max (a.ev l) (b.ev l):=by
 rw[X.ev,Cc]
 by_cases h:a.ev l<b.ev l
 ·rw[decide_eq_true h,Int.max_eq_right (by omega)]
 ·rw[decide_eq_false h,Int.max_eq_left (by omega)]
theorem Ll (l:List Int) (c a b:X):X.ev l (.ite c a b)=if vG (c.ev l)=true then a.ev l else b.ev l:=by
 rw[X.ev];cases vG (c.ev l)<;>rfl
theorem Rb (l:List Int) (i:Nat):X.ev l (.var kU i)=u64 (vT l i):=by rw[X.ev];rfl
theorem Ec (l:List Int) (i:Nat):X.ev l (.var kI i)=i64 (vT l i):=by rw[X.ev];rfl
theorem Dv (l:List Int) (i:Nat):X.ev l (.var kB i)=u8 (vT l i):=by rw[X.ev];rfl
theorem yI (l:List Int) (i:Nat):X.ev l (.var .bool i)=vw (vG (vT l i)):=by rw[X.ev];rfl
theorem aoO (l:List Int) (i:Nat):X.ev l (.var .bit i)=vw (vG (vT l i)):=by rw[X.ev];rfl
theorem JL (k:IntKind) (a b:Int):vX .eql k a b=vw (a==b):=by rw[vX]
theorem aem (k:IntKind) (a b:Int):vX .neq k a b=vw (a != b):=by rw[vX]
theorem CX (k:IntKind) (a b:Int):vX .lss k a b=vw (decide (a<b)):=by rw[vX]
theorem OL (k:IntKind) (a b:Int):vX .leq k a b=vw (decide (a≤b)):=by rw[vX]
theorem ZM (k:IntKind) (a b:Int):vX .gtr k a b=vw (decide (a>b)):=by rw[vX]
theorem Rc (k:IntKind) (a b:Int):vX .geq k a b=vw (decide (a≥b)):=by rw[vX]
theorem aen (a b:Int):vX .add .i64 a b=i64 (a+b):=Gx _
theorem EL (a b:Int):vX .sub .i64 a b=i64 (a-b):=Gx _
theorem aoP (a b:Int):vX .sub .u64 a b=u64 (a-b):=AU _
theorem ZN (p q r:Nat) (hp:p<vC) (hq:q<vC) (hr:r<64):vX .or .u64 (vX .shl .u64 (p:Int) (u64 (r:Int))) (vX .shr .u64 (vX .shr .u64 (q:Int) 1) (vX .sub .u64 63 (u64 (r:Int))))=((p*2^r%vC|||q/2^(64-r):Nat):Int):=by
 have e1:u64 (r:Int)=(r:Int):=Gy r (by rw[Eb];omega)
 rw[e1,aoP,show(63:Int)-(r:Int)=((63-r:Nat):Int) by omega,Gy (63-r) (by rw[Eb];omega),aoK p r (by omega),show(1:Int)=((1:Nat):Int) from rfl,ZL q 1 (by omega),ZL _ (63-r) (by omega)]
 have e2:q/2^1/2^(63-r)=q/2^(64-r):=by rw[Nat.div_div_eq_div_mul,← Nat.pow_add];congr 2;omega
 rw[e2]
 exact Q9 _ _ (Nat.mod_lt _ yE) (Nat.lt_of_le_of_lt (Nat.div_le_self _ _) hq)
def uY:=And.intro @xe (And.intro @wB (And.intro @wC (And.intro @xg (And.intro @xh (And.intro @wV (And.intro @wW (And.intro @vR (And.intro @yC (And.intro @zq (And.intro @Ra (And.intro @Ll (And.intro @zo (And.intro @Rb (And.intro @Ec (And.intro @Dv (And.intro @yI (And.intro @aoO (And.intro @BR (And.intro @aoM (And.intro @aoN (And.intro @JK (And.intro @JJ (And.intro @JL (And.intro @aem (And.intro @CX (And.intro @OL (And.intro @ZM (And.intro @Rc (And.intro @aen (And.intro @EL (And.intro @vJ (And.intro @AU (And.intro @Gx (And.intro @ZH (And.intro @BQ (And.intro @zV (And.intro @xI (@wS))))))))))))))))))))))))))))))))))))))
open Go.RowKit
theorem aeo (c:Int) (M:Nat):∃ m:Nat,max (-(M:Int)) (min (max (i64 c) 0) (M:Int))=(m:Int)∧m=min (i64 c).toNat M:=⟨min (i64 c).toNat M,by omega,rfl⟩
theorem aep (c:Int) (M:Nat):∃ m:Nat,max (-(M:Int)) (min (0-min (max (i64 c) 0) (M:Int)) (M:Int)) = -(m:Int)∧m=min (i64 c).toNat M:=⟨min (i64 c).toNat M,by omega,rfl⟩
theorem Re (m:Int):vX .shr .i64 m 6=m/64:=by
 simp only[vX,IntKind.bits]
 rw[show min ((6:Int).toNat) 64=6 by decide,Int.fdiv_eq_ediv_of_nonneg _ (by decide)];rfl
theorem Bi {n:Int} (h1 : -1000≤n) (h2:n≤1000):i64 n=n:=wL (by omega) (by omega)
theorem Rf (n j r:Nat) (hr:r<64):vX .or .u64 (vX .shl .u64 (wd n (j+1)) (u64 (r:Int))) (vX .shr .u64 (vX .shr .u64 (wd n j) 1) (vX .sub .u64 63 (u64 (r:Int))))=wd (n*2^r) (j+1):=by
 rw[ZJ n r (j+1) hr,if_neg (by omega),show j+1-1=j by omega,y9,y9,ZN _ _ r (Nat.mod_lt _ yE) (Nat.mod_lt _ yE) hr,Int.toNat_natCast,Int.toNat_natCast]
theorem Rh (n r:Nat) (hr:r<64):vX .or .u64 (vX .shl .u64 (wd n 0) (u64 (r:Int))) (vX .shr .u64 0 (vX .sub .u64 63 (u64 (r:Int))))=wd (n*2^r) 0:=by
 have:=ZN (n/vC^0%vC) 0 r (Nat.mod_lt _ yE) yE hr
 rw[ZJ n r 0 hr,if_pos rfl,y9,Int.toNat_natCast]
 simp only[Nat.zero_div] at this
 rw[← this]
 congr 1
theorem Ri (n r:Nat) (hr:r<64):vX .or .u64 (vX .shl .u64 (wd n 0) (u64 (r:Int))) (vX .shr .u64 (vX .shr .u64 0 1) (vX .sub .u64 63 (u64 (r:Int))))=wd (n*2^r) 0:=by
 have:=ZN (n/vC^0%vC) 0 r (Nat.mod_lt _ yE) yE hr
 rw[ZJ n r 0 hr,if_pos rfl,y9,Int.toNat_natCast]
 simp only[Nat.zero_div] at this
 rw[← this]
 congr 1
theorem aeq (n j r:Nat) (hr:r<64) (h:wd n (j+1)=0):vX .or .u64 (vX .shl .u64 0 (u64 (r:Int))) (vX .shr .u64 (vX .shr .u64 (wd n j) 1) (vX .sub .u64 63 (u64 (r:Int))))=wd (n*2^r) (j+1):=by
 have:=Rf n j r hr;rw[h] at this;exact this
theorem Ui (r:Nat) (hr:r<64):vX .or .u64 (vX .shl .u64 0 (u64 (r:Int))) (vX .shr .u64 0 (vX .sub .u64 63 (u64 (r:Int))))=0:=by
 have:=Rh 0 r hr;simp only[CJ,Nat.zero_mul] at this;exact this
theorem Uj (r:Nat) (hr:r<64):vX .or .u64 (vX .shl .u64 0 (u64 (r:Int))) (vX .shr .u64 (vX .shr .u64 0 1) (vX .sub .u64 63 (u64 (r:Int))))=0:=by
 have:=Ri 0 r hr;simp only[CJ,Nat.zero_mul] at this;exact this
theorem aer (n m:Nat):wd (n*2^m) 0=(if m/64=0 then wd (n*2^(m%64)) 0 else 0)∧wd (n*2^m) 1=(if m/64=0 then wd (n*2^(m%64)) 1 else if m/64=1 then wd (n*2^(m%64)) 0 else 0):=by
 have e:n*2^m=n*2^(m%64)*vC^(m/64):=by
  conv=>lhs;rw[← Nat.div_add_mod m 64,Nat.pow_add,Nat.pow_mul,← Fb]
  ac_rfl
 rw[e,ZK,ZK]
 constructor
 ·by_cases h:m/64=0
  ·rw[h,if_neg (by omega),if_pos rfl]
  ·rw[if_pos (by omega),if_neg h]
 ·by_cases h:m/64=0
  ·rw[h,if_neg (by omega),if_pos rfl]
  ·by_cases h1:m/64=1
   ·rw[h1,if_neg (by omega),if_neg (by omega),if_pos rfl]
   ·rw[if_pos (by omega),if_neg h,if_neg h1]
theorem Uk (a b c:Int):Aj [a,b,c]=oB (nB a b*2^(i64 c).toNat%vF):=by
 obtain⟨n,hn,e,h1,h0⟩:=Ck a b
 obtain⟨m,hm,hm2⟩:=aeo c 128
 rw[Aj,YH,vg rfl,e]
 simp only[xe,wB,wC,xg,xh,wV,wW,zq,Ra,Ll,zo,Rb,Ec,JK,JJ,h1,h0,AU]
 have hm':max (-128) (min (max (i64 c) 0) 128)=(m:Int):=hm
 rw[hm',Re,Uh,EL,EL,EL]
 have hpow:n*2^(i64 c).toNat%vF=n*2^m%vF:=by
  by_cases h:(i64 c).toNat≤128
  ·rw[hm2,Nat.min_eq_left h]
  ·rw[hm2,Nat.min_eq_right (by omega),yn,Nat.mul_mod_left]
   obtain⟨d,hd⟩:∃ d,(i64 c).toNat=128+d:=⟨(i64 c).toNat-128,by omega⟩
   rw[hd,Nat.pow_add,show n*(2^128*2^d)=n*2^d*2^128 by ac_rfl,Nat.mul_mod_left]
 rw[hpow]
 unfold oB
 rw[F6 _ 1 (by decide),F6 _ 0 (by decide),(aer n m).1,(aer n m).2]
 have hr:m%64<64:=Nat.mod_lt _ (by decide)
 have hc:((m:Int)%64)=((m%64:Nat):Int):=by simp
 have hd:((m:Int)/64)=((m/64:Nat):Int):=by simp
 have hle:m/64≤2:=by omega
 rw[hc,hd]
 generalize m/64=w at *
 generalize m%64=r at *
 rcases(show w=0∨w=1∨w=2 by omega) with rfl|rfl|rfl <;>
  simp[CX,JL,vJ,Bi,Rf,Rh,Ri,Ui,Uj,hr]
theorem Um (n m i:Nat):wd (n*2^m) i=if i<m/64 then 0 else wd (n*2^(m%64)) (i-m/64):=by
 have e:n*2^m=n*2^(m%64)*vC^(m/64):=by
  conv=>lhs;rw[← Nat.div_add_mod m 64,Nat.pow_add,Nat.pow_mul,← Fb]
  ac_rfl
 rw[e,ZK]
theorem OM (n k r w i:Nat) (h:k+r=64*w):wd (n/2^k) i=wd (n*2^r) (w+i):=by
 rw[← ab3,ZI,← h,Nat.pow_add,Nat.mul_comm (2^k),← Nat.div_div_eq_div_mul,Nat.mul_div_cancel _ (FP.two_pow_pos r)]
theorem aoQ {n c M W:Nat} (hW:W=2^M):n*2^c%W=n*2^(min c M)%W:=by
 by_cases h:c≤M
 ·rw[Nat.min_eq_left h]
 ·rw[Nat.min_eq_right (by omega),hW,Nat.mul_mod_left]
  obtain⟨d,hd⟩:∃ d,c=M+d:=⟨c-M,by omega⟩
  rw[hd,Nat.pow_add,show n*(2^M*2^d)=n*2^d*2^M by ac_rfl,Nat.mul_mod_left]
theorem aes {n c M W:Nat} (hW:W=2^M) (hn:n<W):n/2^c=n/2^(min c M):=by
 by_cases h:c≤M
 ·rw[Nat.min_eq_left h]
 ·rw[hW] at hn
  have h2:n<2^c:=Nat.lt_of_lt_of_le hn (Nat.pow_le_pow_right (by decide) (by omega))
  rw[Nat.min_eq_right (by omega),Nat.div_eq_of_lt hn,Nat.div_eq_of_lt h2]
theorem Un (n r i j:Nat) (hr:r<64) (hn:n<vC^j) (hi:j+1≤i):wd (n*2^r) i=0:=by
 refine Qe (m:=j+1) i ?_ hi
 rw[Nat.pow_succ]
 refine Nat.lt_of_lt_of_le (Nat.mul_lt_mul_of_pos_right hn (FP.two_pow_pos r)) ?_
 rw[Fb]
 exact Nat.mul_le_mul_left _ (Nat.pow_le_pow_right (by decide) (by omega))
theorem aet (a b c:Int):Fw [a,b,c]=oB (nB a b/2^(i64 c).toNat):=by
 obtain⟨n,hn,e,h1,h0⟩:=Ck a b
 obtain⟨k,hk,hk2⟩:=aep c 128
 rw[Fw,YI,vg rfl,e]
 simp only[xe,wB,wC,xg,xh,wV,wW,zq,Ra,Ll,zo,Rb,Ec,JK,JJ,h1,h0,AU]
 have hs:vX .sub .i64 0 (min (max (i64 c) 0) 128)=0-min (max (i64 c) 0) 128:=by rw[EL];exact Bi (by omega) (by omega)
 have hk':max (-128) (min (0-min (max (i64 c) 0) 128) 128) = -(k:Int):=hk
 rw[hs,hk',Re,Uh]
 simp only[EL]
 rw[aes yn hn,← hk2]
 obtain⟨w,r,hw,hr,hw2⟩:∃ w r:Nat,k+r=64*w∧r<64∧w≤2:=⟨(k+63)/64,64*((k+63)/64)-k,by omega,by omega,by omega⟩
 have hc:(-(k:Int))%64=((r:Nat):Int):=by omega
 have hd:(-(k:Int))/64 = -((w:Nat):Int):=by omega
 rw[hc,hd]
 unfold oB
 rw[OM n k r w 0 hw,OM n k r w 1 hw]
 have z2:=(Wv hn).1
 have t2:=aeq n 1 r hr z2
 have t3:=Un n r 3 2 hr (by rw[Et];exact hn) (by decide)
 rcases(show w=0∨w=1∨w=2 by omega) with rfl|rfl|rfl <;>
  simp[CX,JL,Rc,vJ,Bi,Rf,Rh,Ri,Ui,Uj,hr,t2,t3]
theorem Rj (a b c d x:Int):EH [a,b,c,d,x]=oW (nW a b c d*2^(i64 x).toNat%vL):=by
 obtain⟨n,hn,e,h0,h1,h2,h3⟩:=Li a b c d
 obtain⟨m,hm,hm2⟩:=aeo x 256
 rw[EH,YJ,vg rfl,e]
 simp only[xe,wB,wC,xg,xh,wV,wW,zq,Ra,Ll,zo,Rb,Ec,JK,JJ,h0,h1,h2,h3,AU]
 have hm':max (-256) (min (max (i64 x) 0) 256)=(m:Int):=hm
 rw[hm',Re,Uh]
 simp only[EL]
 rw[aoQ BJ,← hm2]
 unfold oW
 rw[← Eu,Hw _ _ _ (by decide),Hw _ _ _ (by decide),Hw _ _ _ (by decide),Hw _ _ _ (by decide),Um n m 0,Um n m 1,Um n m 2,Um n m 3]
 have hr:m%64<64:=Nat.mod_lt _ (by decide)
 have hc:((m:Int)%64)=((m%64:Nat):Int):=by simp
 have hd:((m:Int)/64)=((m/64:Nat):Int):=by simp
 have hle:m/64≤4:=by omega
 rw[hc,hd]
 generalize m/64=w at *
 generalize m%64=r at *
 rcases(show w=0∨w=1∨w=2∨w=3∨w=4 by omega) with rfl|rfl|rfl|rfl|rfl <;>
  simp[CX,JL,Rc,vJ,Bi,Rf,Rh,Ri,Ui,Uj,hr]
theorem Rk (a b c d x:Int):Ci [a,b,c,d,x]=oW (nW a b c d/2^(i64 x).toNat):=by
 obtain⟨n,hn,e,h0,h1,h2,h3⟩:=Li a b c d
 obtain⟨k,hk,hk2⟩:=aep x 256
 rw[Ci,YK,vg rfl,e]
 simp only[xe,wB,wC,xg,xh,wV,wW,zq,Ra,Ll,zo,Rb,Ec,JK,JJ,h0,h1,h2,h3,AU]
 have hs:vX .sub .i64 0 (min (max (i64 x) 0) 256)=0-min (max (i64 x) 0) 256:=by rw[EL];exact Bi (by omega) (by omega)
 have hk':max (-256) (min (0-min (max (i64 x) 0) 256) 256) = -(k:Int):=hk
 rw[hs,hk',Re,Uh]
 simp only[EL]
 rw[aes BJ hn,← hk2]
 obtain⟨w,r,hw,hr,hw2⟩:∃ w r:Nat,k+r=64*w∧r<64∧w≤4:=⟨(k+63)/64,64*((k+63)/64)-k,by omega,by omega,by omega⟩
 have hc:(-(k:Int))%64=((r:Nat):Int):=by omega
 have hd:(-(k:Int))/64 = -((w:Nat):Int):=by omega
 rw[hc,hd]
 unfold oW
 rw[OM n k r w 0 hw,OM n k r w 1 hw,OM n k r w 2 hw,OM n k r w 3 hw]
 have hn4:n<vC^4:=by rw[Eu];exact hn
 have z4:wd n 4=0:=Qe (m:=4) 4 hn4 (by decide)
 have t4:=aeq n 3 r hr z4
 have t5:=Un n r 5 4 hr hn4 (by decide)
 have t6:=Un n r 6 4 hr hn4 (by decide)
 have t7:=Un n r 7 4 hr hn4 (by decide)
 rcases(show w=0∨w=1∨w=2∨w=3∨w=4 by omega) with rfl|rfl|rfl|rfl|rfl <;>
  simp[CX,JL,Rc,vJ,Bi,Rf,Rh,Ri,Ui,Uj,hr,t4,t5,t6,t7]
open Go.RowKit
theorem and1 (x:Nat) (hx:x<vC):vX .and .u64 (x:Int) 1=((x%2:Nat):Int):=by
 rw[← HV]
 simp only[fold]
 have h1:xQ .u64 (x:Int)=x:=by show x%Ar .u64=x;rw[show Ar .u64=vC from rfl,Nat.mod_eq_of_lt hx]
 have h2:xQ .u64 1=1:=by decide
 have h3:Nat.land x 1=x%2:=Nat.and_two_pow_sub_one_eq_mod (n:=1) (x:=x)
 rw[h1,h2,h3,show Int.ofNat (x%2)=((x%2:Nat):Int) from rfl,aoH]
 exact Gy _ (by rw[Eb];omega)
theorem Uo (n j k:Nat) (hk:k<64):(vX .and .u64 (vX .shr .u64 (wd n j) (k:Int)) 1==1)=n.testBit (64*j+k):=by
 rw[y9,ZL _ k (by omega),and1 _ (Nat.lt_of_le_of_lt (Nat.div_le_self _ _) (Nat.mod_lt _ yE)),← MI n j k hk,Nat.testBit_eq_decide_div_mod_eq,Bool.eq_iff_iff,beq_iff_eq,decide_eq_true_iff]
 generalize n/vC^j%vC/2^k=y
 omega
theorem ZO (a b:Int):Ip [a,b] = [vw (decide (nB a b=0))]:=by
 obtain⟨n,hn,e,h1,h0⟩:=Ck a b
 rw[Ip,Yx,vg rfl,e]
 simp only[uY,h1,h0,show vG 1=true from rfl,Bool.and_true]
 congr 2
 rw[Bool.eq_iff_iff]
 simp only[Bool.and_eq_true,beq_iff_eq,decide_eq_true_iff]
 exact ajF hn
theorem Uq (a b c:Int):Gp [a,b,c] = [vw (Ku (nB a b) (i64 c))]:=by
 obtain⟨n,hn,e,h1,h0⟩:=Ck a b
 rw[Gp,Yy,e]
 simp only[wG,uY,h1,h0,decide_eq_true_iff]
 generalize hi:i64 c=i
 by_cases h2:i<0
 ·rw[if_pos h2,vg rfl,ajD h2];rfl
 rw[if_neg h2]
 by_cases h3:i>127
 ·rw[if_pos h3,vg rfl,ajE hn h3];rfl
 rw[if_neg h3]
 obtain⟨m,rfl⟩:∃ m:Nat,i=(m:Int):=⟨i.toNat,by omega⟩
 rw[Qd]
 by_cases h4:(m:Int)>63
 ·rw[if_pos h4,vg rfl]
  simp only[uY,h1,h0,hi]
  rw[show i64 ((m:Int)-64)=((m-64:Nat):Int) by rw[wL (by omega) (by omega)];omega,Uo n 1 (m-64) (by omega),show 64*1+(m-64)=m by omega]
 ·rw[if_neg h4,vg rfl]
  simp only[uY,h1,h0,hi]
  rw[Uo n 0 m (by omega)];simp
theorem aeu (a b c d:Int):CS [a,b,c,d] = [wd (nB a b+nB c d) 1,wd (nB a b+nB c d) 0,vw (decide (vF≤nB a b+nB c d))]:=by
 obtain⟨x,hx,e,h1,h0⟩:=Ck a b
 obtain⟨y,hy,e',h1',h0'⟩:=Ck c d
 rw[e,e',CS,Yz]
 have z0:yz 0=((zC x y 0:Nat):Int):=by rw[abW];rfl
 have z1:yz ((zC x y 1:Nat):Int)=((zC x y 1:Nat):Int):=by unfold yz;rw[zm];exact TR (ajS x y 1)
 refine(ve (r:=[wd (x+y) 0,((zC x y 1:Nat):Int)]) ?_ rfl).trans ?_
 ·simp only[uY,adF,KU,h1,h0,h1',h0',z0]
  rw[ME,MF]
 refine(ve (r:=[wd (x+y) 1,((zC x y 2:Nat):Int)]) ?_ rfl).trans ?_
 ·simp only[uY,adF,KU,h1,h0,h1',h0']
  rw[show vw (vG ((zC x y 1:Nat):Int))=yz ((zC x y 1:Nat):Int) from rfl,z1,z1,ME,MF]
 rw[vg rfl]
 simp only[uY]
 congr 3
 rw[abX (i:=2) (by rw[Et];exact hx) (by rw[Et];exact hy),Et]
 by_cases h:vF≤x+y
 ·rw[if_pos h,decide_eq_true h];rfl
 ·rw[if_neg h,decide_eq_false h];rfl
theorem aev (a b c d:Int):Gq [a,b,c,d] = [wd (nB a b+vF-nB c d) 1,wd (nB a b+vF-nB c d) 0,vw (decide (nB a b<nB c d))]:=by
 obtain⟨x,hx,e,h1,h0⟩:=Ck a b
 obtain⟨y,hy,e',h1',h0'⟩:=Ck c d
 rw[e,e',Gq,YA]
 have z0:yz 0=((bin x y 0:Nat):Int):=by rw[abY];rfl
 have z1:yz ((bin x y 1:Nat):Int)=((bin x y 1:Nat):Int):=by unfold yz;rw[zm];exact TR (ajT x y 1)
 have hle:y≤x+vC^2:=by rw[Et];omega
 refine(ve (r:=[wd (x+vF-y) 0,((bin x y 1:Nat):Int)]) ?_ rfl).trans ?_
 ·simp only[uY,adG,KV,h1,h0,h1',h0',z0]
  rw[MH x y 0 2 (by decide) hle,MG,Et]
 refine(ve (r:=[wd (x+vF-y) 1,((bin x y 2:Nat):Int)]) ?_ rfl).trans ?_
 ·simp only[uY,adG,KV,h1,h0,h1',h0']
  rw[show vw (vG ((bin x y 1:Nat):Int))=yz ((bin x y 1:Nat):Int) from rfl,z1,z1,MH x y 1 2 (by decide) hle,MG,Et]
 rw[vg rfl]
 simp only[uY]
 congr 3
 rw[abZ (i:=2) (by rw[Et];exact hx) (by rw[Et];exact hy)]
 by_cases h:x<y
 ·rw[if_pos h,decide_eq_true h];rfl
 ·rw[if_neg h,decide_eq_false h];rfl
theorem Ur (a b:Int):Ns [a,b]=oB ((u64 a).toNat*(u64 b).toNat):=by
 rw[Ns,YB]
 have h:=ab9 (yZ a).2 (yZ b).2
 rw[(yZ a).1,(yZ b).1] at h
 refine(ve (r:=oB ((u64 a).toNat*(u64 b).toNat)) ?_ rfl).trans ?_
 ·simp only[uY,amm,Nl]
  rw[h.1,h.2]
 rw[vg rfl]
 simp only[uY]
theorem OO (a b c d:Int):yT [a,b,c,d]=oW (nB a b*vF+nB c d):=by
 obtain⟨x,hx,e,h1,h0⟩:=Ck a b
 obtain⟨y,hy,e',h1',h0'⟩:=Ck c d
 rw[e,e',yT,YC,vg rfl]
 obtain⟨j0,j1,j2,j3⟩:=ajG (h:=x) hy
 simp only[uY,h1,h0,h1',h0',j0,j1,j2,j3]
theorem aoR (a b:Int):Fv [a,b]=oW (nB a b):=by
 obtain⟨x,hx,e,h1,h0⟩:=Ck a b
 rw[e,Fv,YD,vg rfl]
 simp only[uY,h1,h0,(Wv hx).1,(Wv hx).2]
theorem Us (a b c d:Int):Gr [a,b,c,d]=oB (nW a b c d/vF):=by
 obtain⟨n,hn,e,h0,h1,h2,h3⟩:=Li a b c d
 rw[e,Gr,YE,vg rfl]
 simp only[uY,h2,h3,Ww]
theorem ZP (a b c d:Int):Gs [a,b,c,d]=oB (nW a b c d):=by
 obtain⟨n,hn,e,h0,h1,h2,h3⟩:=Li a b c d
 rw[e,Gs,YF,vg rfl]
 simp only[uY,h0,h1]
theorem aew (a b c d:Int):CU [a,b,c,d] = [vw (decide (nW a b c d=0))]:=by
 obtain⟨n,hn,e,h0,h1,h2,h3⟩:=Li a b c d
 rw[e,CU,YG,vg rfl]
 simp only[uY,h0,h1,h2,h3,show vG 1=true from rfl,Bool.and_true]
 congr 2
 rw[Bool.eq_iff_iff]
 simp only[Bool.and_eq_true,beq_iff_eq,decide_eq_true_iff]
 exact ajH hn
def len (n:Nat):Nat:=if n=0 then 0 else Nat.log2 n+1
theorem Rl {n k:Nat} : len n≤k↔n<2^k:=by
 unfold len
 split
 ·rename_i h;subst h;simp[FP.two_pow_pos]
 ·rename_i h;rw[← Nat.log2_lt h];omega
theorem ZQ {n k:Nat} (h0:n≠0) (h1:2^k≤n) (h2:n<2^(k+1)):len n=k+1:=by
 unfold len;rw[if_neg h0]
 have a:=(Nat.log2_lt h0).2 h2
 have b:¬ Nat.log2 n<k:=fun h=>by have:=(Nat.log2_lt h0).1 h;omega
 omega
theorem Ut (w : Nat) (hw : w < vC) : Lib.bitLen w = len w := by
  have key : ∀ f x, x < 2 ^ f → Lib.bitLenAux f x = len x := by
    intro f
    induction f with
    | zero => intro x hx; have : x = 0 := by simpa using hx
              subst this; rfl
    | succ f ih =>
      intro x hx
      unfold Lib.bitLenAux
      split
      · rename_i h; subst h; rfl
      · rename_i h
        have hx2 : x < 2 ^ f * 2 := by rw [← Nat.pow_succ]; exact hx
        rw [ih (x / 2) (by omega)]
        by_cases h1 : x / 2 = 0
        · have : x = 1 := by omega
          subst this; decide
        · obtain ⟨b1, b2⟩ := FP.log2_bounds h1
          have e1 : len (x / 2) = Nat.log2 (x / 2) + 1 := by unfold len; rw [if_neg h1]
          rw [e1, ZQ (k := Nat.log2 (x / 2) + 1) h (by rw [Nat.pow_succ]; omega) (by rw [Nat.pow_succ]; omega)]; omega
  unfold Lib.bitLen
  exact key 64 w (by rw [← Fb]; exact hw)
theorem Uu {n j:Nat} (h0:(wd n j)≠0) (h1:n<vC^(j+1)):len n=64*j+len (wd n j).toNat:=by
 have hw:(wd n j).toNat=n/vC^j:=by
  rw[y9,Int.toNat_natCast,Nat.mod_eq_of_lt]
  rw[Nat.div_lt_iff_lt_mul (CG j),Nat.mul_comm,← Nat.pow_succ];exact h1
 have hne:n/vC^j≠0:=by
  intro h;apply h0
  rw[y9,h];rfl
 have hn:n≠0:=by intro h;subst h;simp at hne
 rw[hw]
 obtain⟨b1,b2⟩:=FP.log2_bounds hne
 have e1:len (n/vC^j)=Nat.log2 (n/vC^j)+1:=by unfold len;rw[if_neg hne]
 rw[e1,← Nat.add_assoc]
 generalize Nat.log2 (n/vC^j)=k at *
 rw[Nat.le_div_iff_mul_le (CG j),ZI,← Nat.pow_add] at b1
 rw[Nat.div_lt_iff_lt_mul (CG j),ZI,← Nat.pow_add] at b2
 refine ZQ hn (by rw[Nat.add_comm];exact b1) ?_
 rw[show 64*j+k+1=k+1+64*j by omega]
 exact b2
theorem aex (a b c d:Int):ND [a,b,c,d] = [((len (nW a b c d):Nat):Int)]:=by
 obtain⟨n,hn,e,h0,h1,h2,h3⟩:=Li a b c d
 rw[e,ND,YL]
 have hn4:n<vC^4:=by rw[Eu];exact hn
 have hl:len n≤256:=Rl.2 (by rw[← BJ];exact hn)
 have wl:∀ j,(wd n j).toNat<vC:=fun j=>by have:=(Er n j).2;have:=(Er n j).1;omega
 have low:∀ j,n<vC^(j+1)→wd n j=0→n<vC^j:=by
  intro j hlt hz
  have:n/vC^j%vC=0:=by rw[y9] at hz;omega
  rw[Nat.mod_eq_of_lt (by rw[Nat.div_lt_iff_lt_mul (CG j),Nat.mul_comm,← Nat.pow_succ];exact hlt)] at this
  rcases Nat.div_eq_zero_iff.1 this with h|h
  ·have:=CG j;omega
  ·exact h
 simp only[wG,uY,h0,h1,h2,h3,bne_iff_ne]
 by_cases z3:wd n 3=0
 ·rw[if_neg (by simp[z3])]
  have l3:=low 3 hn4 z3
  by_cases z2:wd n 2=0
  ·rw[if_neg (by simp[z2])]
   have l2:=low 2 l3 z2
   by_cases z1:wd n 1=0
   ·rw[if_neg (by simp[z1])]
    have l1:=low 1 l2 z1
    by_cases z0:wd n 0=0
    ·rw[if_neg (by simp[z0])]
     have l0:=low 0 l1 z0
     have:n=0:=by simpa using l0
     subst this
     rw[vg rfl];rfl
    ·rw[if_pos z0]
     refine(ve (r:=[((len (wd n 0).toNat:Nat):Int)]) ?_ rfl).trans ?_
     ·simp only[uY,TY,Ik,h0];rw[Ut _ (wl 0)]
     rw[vg rfl]
     simp only[uY]
     have:=Uu z0 l1
     have hw:=Rl.2 (show(wd n 0).toNat<2^64 by rw[← Fb];exact wl 0)
     rw[Bi (n:=((len (wd n 0).toNat:Nat):Int)) (by omega) (by omega),Bi (by omega) (by omega),this];simp
   ·rw[if_pos z1]
    refine(ve (r:=[((len (wd n 1).toNat:Nat):Int)]) ?_ rfl).trans ?_
    ·simp only[uY,TY,Ik,h1];rw[Ut _ (wl 1)]
    rw[vg rfl]
    simp only[uY]
    have:=Uu z1 l2
    rw[Bi (n:=((len (wd n 1).toNat:Nat):Int)) (by omega) (by omega),Bi (by omega) (by omega),this];simp
  ·rw[if_pos z2]
   refine(ve (r:=[((len (wd n 2).toNat:Nat):Int)]) ?_ rfl).trans ?_
   ·simp only[uY,TY,Ik,h2];rw[Ut _ (wl 2)]
   rw[vg rfl]
   simp only[uY]
   have:=Uu z2 l3
   rw[Bi (n:=((len (wd n 2).toNat:Nat):Int)) (by omega) (by omega),Bi (by omega) (by omega),this];simp
 ·rw[if_pos z3]
  refine(ve (r:=[((len (wd n 3).toNat:Nat):Int)]) ?_ rfl).trans ?_
  ·simp only[uY,TY,Ik,h3];rw[Ut _ (wl 3)]
  rw[vg rfl]
  simp only[uY]
  have:=Uu z3 hn4
  rw[Bi (n:=((len (wd n 3).toNat:Nat):Int)) (by omega) (by omega),Bi (by omega) (by omega),this];simp
theorem Rm (a:Int):Gt [a] = [(FP.fW (fN a):Int),(FP.fP (fN a):Int),(FP.fE (fN a):Int)]:=by
 unfold fN
 rw[Gt,YM]
 obtain⟨h1,h2⟩:=CW a
 simp only[wG,uY,Bool.not_eq_true',decide_eq_false_iff_not,decide_eq_true_iff,beq_iff_eq]
 generalize hf:u8 a=f at *
 by_cases h4:f<4
 ·rw[if_neg (by omega)]
  rcases(show f=0∨f=1∨f=2∨f=3 by omega) with rfl|rfl|rfl|rfl
  ·rw[if_pos rfl,vg rfl];rfl
  ·rw[if_neg (by decide),if_pos rfl,vg rfl];rfl
  ·rw[if_neg (by decide),if_neg (by decide),if_pos rfl,vg rfl];rfl
  ·rw[if_neg (by decide),if_neg (by decide),if_neg (by decide),vg rfl];rfl
 ·rw[if_pos h4,vg rfl]
  obtain⟨m,rfl⟩:∃ m:Nat,f=((m+4:Nat):Int):=⟨(f-4).toNat,by omega⟩
  rw[Int.toNat_natCast];rfl
theorem aey {m r:Int} (hm:0≤m) (hr:0<r) (hr3:r≤3) (neg odd:Bool):MJ m neg odd r=FP.nextN m.toNat neg odd r.toNat:=by
 unfold MJ
 rw[decide_eq_true (show r>0 from hr),decide_eq_true hr3,Bool.true_and,Bool.true_and]
 rcases(show r=1∨r=2∨r=3 by omega) with rfl|rfl|rfl <;>
 ·by_cases h0:m=0
  ·subst h0;rfl
  rw[if_neg h0]
  by_cases h1:m=1
  ·subst h1;rfl
  rw[if_neg h1]
  by_cases h2:m=2
  ·subst h2;rfl
  rw[if_neg h2]
  by_cases h3:m=3
  ·subst h3;rfl
  rw[if_neg h3]
  obtain⟨k,rfl⟩:∃ k:Nat,m=((k+4:Nat):Int):=⟨(m-4).toNat,by omega⟩
  rw[Int.toNat_natCast];rfl
theorem aoS (a b:Int):NG [a,b] = [vw (FP.nextN (u8 a).toNat (vG b) true 3)]:=by
 rw[NG,YN]
 refine(ve (r:=[vw (FP.nextN (u8 a).toNat (vG b) true 3)]) ?_ rfl).trans ?_
 ·simp only[uY,amn,Il,aek]
  rw[show u8 3=3 by decide,show vG 1=true from rfl,aey (CW a).1 (by decide) (by decide)];rfl
 rw[vg rfl]
 simp only[uY]
open Go.RowKit
theorem Rn (f:Nat):FP.fE f≤16383:=by unfold FP.fE;split<;>decide
theorem ZF (f:Nat):FP.fP f≤113:=by unfold FP.fP;split<;>decide
theorem fW_le (f:Nat):FP.fW f≤128:=by unfold FP.fW;split<;>decide
theorem JM {n:Int} (h1 : -17000≤n) (h2:n≤17000):i64 n=n:=wL (by omega) (by omega)
theorem yG {n:Nat} (h:n≤1000000000000):i64 (n:Int)=n:=wL (by omega) (by omega)
theorem AX (f:Nat):i64 (FP.fE f:Int)=FP.fE f:=yG (by have:=Rn f;omega)
theorem zh (f:Nat):i64 (FP.fP f:Int)=FP.fP f:=yG (by have:=ZF f;omega)
theorem Uv (f:Nat):i64 (FP.fW f:Int)=FP.fW f:=yG (by have:=fW_le f;omega)
theorem JO (a:Int):Dr [a] = [(FP.fE (fN a):Int)]:=by
 rw[Dr,YP]
 refine(ve (by simp only[uY,YZ];exact Rm _) (by rfl)).trans ?_
 rw[vg rfl];simp only[uY,vH,AX]
theorem Iz (a:Int):Cj [a] = [(FP.fP (fN a):Int)]:=by
 rw[Cj,YQ]
 refine(ve (by simp only[uY,YZ];exact Rm _) (by rfl)).trans ?_
 rw[vg rfl];simp only[uY,vH,zh]
theorem aoT (a:Int):NL [a] = [(FP.fW (fN a):Int)]:=by
 rw[NL,YR]
 refine(ve (by simp only[uY,YZ];exact Rm _) (by rfl)).trans ?_
 rw[vg rfl];simp only[uY,vH,Uv]
theorem aoU {x k:Nat} (h:k≤128):x*2^(128-k)%vF/2^(128-k)=x%2^k:=by
 rw[yn]
 conv=>lhs;rw[show(2:Nat)^128=2^k*2^(128-k) by rw[← Nat.pow_add];congr 1;omega]
 rw[Nat.mul_mod_mul_right,Nat.mul_div_cancel _ (FP.two_pow_pos _)]
theorem aez (a b c:Int) (h1:0≤i64 c) (h2:i64 c≤128):Ir [a,b,c]=oB (nB a b%2^(i64 c).toNat):=by
 rw[Ir,YS]
 have e:i64 (128-i64 c)=((128-(i64 c).toNat:Nat):Int):=by rw[Bi (by omega) (by omega)];omega
 have e2:i64 ((128-(i64 c).toNat:Nat):Int)=((128-(i64 c).toNat:Nat):Int):=yG (by omega)
 have e3:nB (u64 a) (u64 b)=nB a b:=by unfold nB;rw[zV,zV]
 refine(ve (by simp only[uY,amG,e];exact Uk _ _ _ ) (by rfl)).trans ?_
 refine(ve (by simp only[uY,amH,e,e2,OJ,Int.toNat_natCast];exact aet _ _ _ ) (by rfl)).trans ?_
 rw[vg rfl]
 simp only[uY,OJ,e2,Int.toNat_natCast,Nat.mod_mod,e3]
 rw[aoU (by omega)]
theorem vM (a b:Int):nB (u64 a) (u64 b)=nB a b:=by unfold nB;rw[zV,zV]
theorem Ed (a b c d:Int):nW (u64 a) (u64 b) (u64 c) (u64 d)=nW a b c d:=by unfold nW;rw[zV,zV,zV,zV]
theorem GA (n:Nat):nW (wd n 0) (wd n 1) (wd n 2) (wd n 3)=n%vL:=by
 have:=aoI (n:=n%vL) (Nat.mod_lt _ abV)
 rw[← Eu,Hw _ _ _ (by decide),Hw _ _ _ (by decide),Hw _ _ _ (by decide),Hw _ _ _ (by decide),Eu] at this
 exact this
theorem aoV (l:Int):nB 0 l=(u64 l).toNat:=by unfold nB;rw[show u64 0=0 by decide];simp
theorem aoW {n k:Nat} (h:n≠0):len (n*2^k)=len n+k:=by
 obtain⟨b1,b2⟩:=FP.log2_bounds h
 have e1:len n=Nat.log2 n+1:=by unfold len;rw[if_neg h]
 rw[e1,show Nat.log2 n+1+k=(Nat.log2 n+k)+1 by omega]
 refine ZQ (Nat.ne_of_gt (Nat.mul_pos (Nat.pos_of_ne_zero h) (FP.two_pow_pos k))) ?_ ?_
 ·rw[Nat.pow_add];exact Nat.mul_le_mul_right _ b1
 ·rw[show Nat.log2 n+k+1=Nat.log2 n+1+k by omega,Nat.pow_add];exact Nat.mul_lt_mul_of_pos_right b2 (FP.two_pow_pos k)
theorem aeA {n:Nat} : len n=0↔n=0:=by unfold len;split<;>omega
theorem aeB {n k:Nat} (h:len n≤k):n*2^(k-len n)<2^k:=by
 have:=Rl.1 (Nat.le_refl (len n))
 have h2:=Nat.mul_lt_mul_of_pos_right this (FP.two_pow_pos (k-len n))
 rw[← Nat.pow_add,show len n+(k-len n)=k by omega] at h2;exact h2
def Br (k n:Nat):Nat:=if n=0 then 0 else k-len n
theorem aoX (a b c d:Int):NS [a,b,c,d]=oW (nW a b c d*2^Br 256 (nW a b c d)) ++ [((Br 256 (nW a b c d):Nat):Int)]:=by
 rw[NS,YW]
 have hn:=JI a b c d
 obtain⟨h0,h1,h2,h3,_⟩:=JH a b c d
 have hl:len (nW a b c d)≤256:=Rl.2 (by rw[← BJ];exact hn)
 refine(ve (by simp only[uY,adL];exact aex _ _ _ _) (by rfl)).trans ?_
 rw[wG]
 simp only[uY,Ed,beq_iff_eq]
 rw[yG (show len (nW a b c d)≤1000000000000 by omega)]
 by_cases hz:nW a b c d=0
 ·rw[if_pos (by rw[aeA.2 hz];rfl),vg rfl]
  simp only[uY,h0,h1,h2,h3,Br,if_pos hz,Nat.pow_zero,Nat.mul_one];rfl
 ·rw[if_neg (by have:=mt aeA.1 hz;omega)]
  have e:i64 (256-((len (nW a b c d):Nat):Int))=((256-len (nW a b c d):Nat):Int):=by rw[Bi (by omega) (by omega)];omega
  have e2:i64 ((256-len (nW a b c d):Nat):Int)=((256-len (nW a b c d):Nat):Int):=yG (by omega)
  have e4:=yG (show len (nW a b c d)≤1000000000000 by omega)
  refine(ve (by simp only[uY,Y0,Ed,e4,e];exact Rj _ _ _ _ _ ) (by rfl)).trans ?_
  rw[vg rfl]
  simp only[uY,Ed,e,e2,e4,Int.toNat_natCast,Br,if_neg hz]
  rw[Nat.mod_eq_of_lt (show _<vL by rw[BJ];exact aeB hl)]
theorem Lm:vL=vF*vF:=by unfold vL;rfl
theorem Ee {n:Nat} (h:n<vF):n*vF<vL:=by rw[Lm];exact Nat.mul_lt_mul_of_pos_right h Es
theorem aoY (a b:Int):NP [a,b]=oB (nB a b*2^Br 128 (nB a b)) ++ [((Br 128 (nB a b):Nat):Int)]:=by
 rw[NP,YU]
 have hn:=Gz a b
 have hl:len (nB a b)≤128:=Rl.2 (by rw[← yn];exact hn)
 have z:nB 0 0=0:=by decide
 refine(ve (by simp only[uY,adJ];exact OO _ _ _ _) (by rfl)).trans ?_
 rw[vM,z,Nat.add_zero]
 have hw:nB a b*vF<vL:=Ee hn
 have hw2:nB a b*vF%vL=nB a b*vF:=Nat.mod_eq_of_lt hw
 have hlen:len (nB a b*vF)=if nB a b=0 then 0 else len (nB a b)+128:=by
  split
  ·rename_i h;rw[h];rfl
  ·rename_i h;rw[yn,aoW h]
 have hi:i64 ((len (nB a b*vF):Nat):Int)=((len (nB a b*vF):Nat):Int):=yG (by rw[hlen];split<;>omega)
 refine(ve (by simp only[uY,adL,GA,hw2];exact aex _ _ _ _ ) (by rfl)).trans ?_
 rw[wG]
 simp only[uY,GA,hw2,hi,beq_iff_eq]
 by_cases hz:nB a b=0
 ·rw[if_pos (by rw[hlen,if_pos hz];rfl)]
  refine(ve (by simp only[uY,adM,GA,hw2];exact Us _ _ _ _ ) (by rfl)).trans ?_
  rw[vg rfl]
  simp only[uY,Br,if_pos hz,GA,hw2,Nat.pow_zero,Nat.mul_one,Nat.mul_div_cancel _ Es];rfl
 ·rw[hlen,if_neg hz]
  rw[if_neg (by omega)]
  have e:i64 (256-((len (nB a b)+128:Nat):Int))=((128-len (nB a b):Nat):Int):=by rw[Bi (by omega) (by omega)];omega
  have e2:i64 ((128-len (nB a b):Nat):Int)=((128-len (nB a b):Nat):Int):=yG (by omega)
  have e4:=yG (show len (nB a b)+128≤1000000000000 by omega)
  have hr:=aeB hl
  have big:nB a b*vF*2^(128-len (nB a b))=nB a b*2^(128-len (nB a b))*vF:=by ac_rfl
  have hbig:nB a b*2^(128-len (nB a b))*vF<vL:=Ee (by rw[yn];exact hr)
  refine(ve (by simp only[uY,Y0,GA,hw2,e4,e];exact Rj _ _ _ _ _ ) (by rfl)).trans ?_
  rw[e2,Int.toNat_natCast,GA,hw2,big,Nat.mod_eq_of_lt hbig]
  refine(ve (by simp only[uY,adM,GA,Nat.mod_eq_of_lt hbig];exact Us _ _ _ _ ) (by rfl)).trans ?_
  rw[vg rfl]
  simp only[uY,GA,Nat.mod_eq_of_lt hbig,Nat.mul_div_cancel _ Es,e,e2,e4,Br,if_neg hz]
theorem ZR (a b c d x:Int):Iu [a,b,c,d,x] = [vw (decide (nW a b c d%2^(i64 x).toNat≠0))]:=by
 rw[Iu,YV]
 have hn:=JI a b c d
 obtain⟨h0,h1,h2,h3,_⟩:=JH a b c d
 have hd:nW a b c d/2^(i64 x).toNat<vL:=Nat.lt_of_le_of_lt (Nat.div_le_self _ _) hn
 have hd2:nW a b c d/2^(i64 x).toNat*2^(i64 x).toNat<vL:=Nat.lt_of_le_of_lt (Nat.div_mul_le_self _ _) hn
 refine(ve (by simp only[uY,amI];exact Rk _ _ _ _ _) (by rfl)).trans ?_
 simp only[Ed,xI]
 refine(ve (by simp only[uY,Y0];exact Rj _ _ _ _ _) (by rfl)).trans ?_
 simp only[GA,xI,Nat.mod_eq_of_lt hd,Nat.mod_eq_of_lt hd2]
 rw[vg rfl]
 simp only[uY,h0,h1,h2,h3,show vG 1=true from rfl,Bool.and_true]
 rw[ajM _ _ hd2 hn]
 congr 2
 rw[Bool.eq_iff_iff]
 simp only[Bool.not_eq_true',decide_eq_false_iff_not,decide_eq_true_iff]
 have:=Nat.div_add_mod (nW a b c d) (2^(i64 x).toNat)
 rw[Nat.mul_comm] at this
 omega
open Go.RowKit
theorem zI (n:Nat):((n:Nat):Int).toNat=n:=by omega
theorem OP (x:Nat) {k:Nat} (h:k≤128):x%2^k<vF:=by
 rw[yn]
 exact Nat.lt_of_lt_of_le (Nat.mod_lt _ (FP.two_pow_pos k)) (Nat.pow_le_pow_right (by decide) h)
theorem Ro (f a b:Int):Dt [f,a,b]=oB (nB a b%2^FP.fW (fN f)):=by
 rw[Dt,Y1]
 refine(ve (by simp only[uY,amX];exact aoT _) (by rfl)).trans ?_
 have hl:=fW_le (fN f)
 have h1:i64 (FP.fW (fN f):Int)=FP.fW (fN f):=Uv _
 refine(ve (r:=oB (nB a b%2^FP.fW (fN f))) ?_ rfl).trans ?_
 ·simp only[uY,QS,vH]
  rw[aez _ _ _ (by rw[xI,h1];omega) (by rw[xI,h1];omega),xI,h1,zI,vM];rfl
 rw[vg rfl];simp only[uY]
def CY (f:Nat) (neg:Bool) (e:Int) (frac:Nat):Nat :=
 FP.mk f neg ((if e<0∨e>1048576 then 0 else e.toNat)%2^(FP.fW f-FP.fP f)*2^(FP.fP f-1)+frac%2^(FP.fP f-1))
theorem ZT {f:Nat} (h:f<4):2≤FP.fP f∧FP.fP f≤113∧FP.fP f<FP.fW f∧FP.fW f≤128∧16≤FP.fW f∧1≤FP.fE f∧FP.fE f≤16383∧FP.fW f-FP.fP f≤15:=by
 rcases FP.f4 h with rfl|rfl|rfl|rfl<;>decide
theorem aoZ {f e frac:Nat} (h:f<4):e%2^(FP.fW f-FP.fP f)*2^(FP.fP f-1)+frac%2^(FP.fP f-1)<2^(FP.fW f-1):=by
 obtain⟨h1,h2,h3,h4,_⟩:=ZT h
 have a:=Nat.mod_lt e (FP.two_pow_pos (FP.fW f-FP.fP f))
 have b:=Nat.mod_lt frac (FP.two_pow_pos (FP.fP f-1))
 have e1:2^(FP.fW f-1)=2^(FP.fW f-FP.fP f)*2^(FP.fP f-1):=by rw[← Nat.pow_add];congr 1;omega
 rw[e1]
 have:=Nat.mul_le_mul_right (2^(FP.fP f-1)) (show e%2^(FP.fW f-FP.fP f)+1≤2^(FP.fW f-FP.fP f) from a)
 rw[Nat.add_mul,Nat.one_mul] at this
 omega
theorem GD {k:Nat} (h:k≤128):2^k≤vF:=by rw[yn];exact Nat.pow_le_pow_right (by decide) h
def rB (n:Nat):List Int:=oB n
theorem IA (n:Nat):rB n=oB n:=rfl
def rW (n:Nat):List Int:=oW n
theorem aeC (n:Nat):rW n=oW n:=rfl
theorem xn {n:Nat} (h:n<vF):nB (wd n 1) (wd n 0)=n:=by rw[OJ,Nat.mod_eq_of_lt h]
theorem Ef {a b:Nat} (h:b≤a) (h2:a≤1000000):i64 ((a:Int)-(b:Int))=((a-b:Nat):Int):=by rw[wL (by omega) (by omega)];omega
theorem OQ (x:Nat) {k:Nat} (hx:x<vF) (hk:k≤128):Ir [wd x 1,wd x 0,(k:Int)]=oB (x%2^k):=by
 rw[aez _ _ _ (by rw[yG (by omega)];omega) (by rw[yG (by omega)];omega),yG (by omega),zI,xn hx]
theorem GG (x:Nat) {k:Nat} (hx:x<vF) (hk:k≤1000) (h:x*2^k<vF):Aj [wd x 1,wd x 0,(k:Int)]=oB (x*2^k):=by
 rw[Uk,yG (by omega),zI,xn hx,Nat.mod_eq_of_lt h]
theorem aeD (x:Nat) {k:Nat} (hx:x<vF) (hk:k≤1000):Fw [wd x 1,wd x 0,(k:Int)]=oB (x/2^k):=by
 rw[aet,yG (by omega),zI,xn hx]
theorem JP (x y:Nat) (h:x+y<vF):CS [wd x 1,wd x 0,wd y 1,wd y 0] = [wd (x+y) 1,wd (x+y) 0,0]:=by
 rw[aeu,xn (by omega),xn (by omega),decide_eq_false (by omega)];rfl
theorem EM:wd 1 1=0∧wd 1 0=1:=by decide
theorem Uw (i:Nat):wd 0 i=0:=CJ i
theorem FD (f n e c d:Int):Gu [f,n,e,c,d]=oB (if fN f<4 then CY (fN f) (vG n) (i64 e) (nB c d) else 0):=by
 refine Eq.trans ?_ (IA _)
 rw[Gu,Y2]
 have hW:=Uv (fN f)
 have hP:=zh (fN f)
 refine(ve (by simp only[uY,amY];exact Rm _) (by rfl)).trans ?_
 simp only[vH]
 rw[wG]
 simp only[uY,hW,beq_iff_eq]
 by_cases hf:¬ fN f<4
 ·have:FP.fW (fN f)=0:=by
   obtain⟨m,hm⟩:∃ m,fN f=m+4:=⟨fN f-4,by omega⟩
   rw[hm];rfl
  rw[if_pos (by rw[this];rfl),vg rfl,if_neg hf];rfl
 have hf:=Classical.not_not.1 hf
 obtain⟨h1,h2,h3,h4,h5,_,_,h8⟩:=ZT hf
 rw[if_neg (by omega),if_pos hf]
 have eW:i64 ((FP.fW (fN f):Int)-(FP.fP (fN f):Int))=((FP.fW (fN f)-FP.fP (fN f):Nat):Int):=Ef (by omega) (by omega)
 have eP:i64 ((FP.fP (fN f):Int)-1)=((FP.fP (fN f)-1:Nat):Int):=Ef (b:=1) (by omega) (by omega)
 have eS:i64 ((FP.fW (fN f):Int)-1)=((FP.fW (fN f)-1:Nat):Int):=Ef (b:=1) (by omega) (by omega)
 obtain⟨z,hz,ez,hc,hd⟩:=Ck c d
 have field:∃ ex:Nat,ex<vF∧(if i64 e<0∨i64 e>1048576 then 0 else(i64 e).toNat)=ex∧((i64 e<0∨i64 e>1048576)→ex=0)∧(¬ (i64 e<0∨i64 e>1048576)→u64 (i64 e)=wd ex 0∧wd ex 1=0):=by
  by_cases h:i64 e<0∨i64 e>1048576
  ·exact⟨0,Es,if_pos h,fun _=>rfl,fun h2=>absurd h h2⟩
  ·have hlt:(i64 e).toNat<vC:=by rw[Eb];omega
   have hi:(i64 e)=(((i64 e).toNat:Nat):Int):=by omega
   refine⟨(i64 e).toNat,by rw[OI];omega,if_neg h,fun h2=>absurd h2 h,fun _=>⟨?_,?_⟩⟩
   ·conv=>lhs;rw[hi]
    rw[Gy _ hlt,y9,Nat.pow_zero,Nat.div_one,Nat.mod_eq_of_lt hlt]
   ·exact Qe (m:=1) 1 (by rw[Nat.pow_one];exact hlt) (by decide)
 obtain⟨ex,hex,hex1,hex2,hex3⟩:=field
 unfold CY
 rw[hex1,ez]
 have hcode:=aoZ (e:=ex) (frac:=z) hf
 have hpw:=GD (show FP.fW (fN f)-1≤128 by omega)
 have hpw2:=GD (show FP.fW (fN f)≤128 by omega)
 have hq:=OP ex (show FP.fW (fN f)-FP.fP (fN f)≤128 by omega)
 have hr:=OP z (show FP.fP (fN f)-1≤128 by omega)
 have hmk:=FP.mk_lt (c:=ex%2^(FP.fW (fN f)-FP.fP (fN f))*2^(FP.fP (fN f)-1)+z%2^(FP.fP (fN f)-1)) hf (vG n) hcode
 have e1:1*2^(FP.fW (fN f)-1)<vF:=by
  rw[Nat.one_mul,yn];exact Nat.pow_lt_pow_right (by decide) (by omega)
 have first:∀ (x y:X) (L:List Int),L = [f,n,e,c,d,(FP.fW (fN f):Int),(FP.fP (fN f):Int),(FP.fE (fN f):Int)]→X.ev L x=wd ex 1→X.ev L y=wd ex 0 →
   vK E2 54 (List.map (X.ev L) [x,y,.bin .sub .i64 (.var kI 5) (.var kI 6)])=oB (ex%2^(FP.fW (fN f)-FP.fP (fN f))):=by
  intro x y L hL hx hy
  simp only[List.map_cons,List.map_nil,hx,hy]
  rw[QS,hL]
  simp only[uY,hW,hP,eW]
  exact OQ _ hex (by omega)
 rw[wG]
 simp only[zq,CX,Ec,zo,vJ,xe,wB,wC,xg,xh,wV,wW,decide_eq_true_iff]
 by_cases hlt:i64 e<0
 ·rw[if_pos hlt]
  refine(ve (first _ _ _ rfl (by rw[hex2 (.inl hlt),Uw];rfl) (by rw[hex2 (.inl hlt),Uw];rfl)) rfl).trans ?_
  refine(ve (by simp only[uY,N9,hP,eP];exact GG _ hq (by omega) (by omega) ) (by rfl)).trans ?_
  refine(ve (by simp only[uY,QS,hc,hd,hP,eP];exact OQ _ hz (by omega) ) (by rfl)).trans ?_
  refine(ve (by simp only[uY,Oa];exact JP _ _ (by omega)) (by rfl)).trans ?_
  rw[wG]
  simp only[uY]
  unfold FP.mk
  unfold FP.mk at hmk
  cases hn:vG n with
  | true =>
   rw[hn] at hmk
   rw[if_pos rfl]
   have l1:Aj [0,1,((FP.fW (fN f)-1:Nat):Int)]=oB (1*2^(FP.fW (fN f)-1)):=by
    have:=GG 1 (k:=FP.fW (fN f)-1) (by decide) (by omega) e1
    rw[EM.1,EM.2] at this;exact this
   refine(ve (by simp only[uY,N9,hW,eS];exact l1) (by rfl)).trans ?_
   refine(ve (by simp only[uY,Oa];exact JP _ _ (by rw[show Bool.toNat true=1 from rfl] at hmk;omega)) (by rfl)).trans ?_
   rw[vg rfl]
   simp only[uY]
   rfl
  | false =>
   rw[if_neg (by decide),vg rfl]
   simp only[uY]
   rw[show Bool.toNat false=0 from rfl,Nat.zero_mul,Nat.add_zero];rfl
 rw[if_neg hlt,wG]
 simp only[zq,ZM,Ec,zo,vJ,xe,wB,wC,xg,xh,wV,wW,decide_eq_true_iff]
 by_cases hgt:i64 e>1048576
 ·rw[if_pos hgt]
  refine(ve (first _ _ _ rfl (by rw[hex2 (.inr hgt),Uw];rfl) (by rw[hex2 (.inr hgt),Uw];rfl)) rfl).trans ?_
  refine(ve (by simp only[uY,N9,hP,eP];exact GG _ hq (by omega) (by omega) ) (by rfl)).trans ?_
  refine(ve (by simp only[uY,QS,hc,hd,hP,eP];exact OQ _ hz (by omega) ) (by rfl)).trans ?_
  refine(ve (by simp only[uY,Oa];exact JP _ _ (by omega)) (by rfl)).trans ?_
  rw[wG]
  simp only[uY]
  unfold FP.mk
  unfold FP.mk at hmk
  cases hn:vG n with
  | true =>
   rw[hn] at hmk
   rw[if_pos rfl]
   have l1:Aj [0,1,((FP.fW (fN f)-1:Nat):Int)]=oB (1*2^(FP.fW (fN f)-1)):=by
    have:=GG 1 (k:=FP.fW (fN f)-1) (by decide) (by omega) e1
    rw[EM.1,EM.2] at this;exact this
   refine(ve (by simp only[uY,N9,hW,eS];exact l1) (by rfl)).trans ?_
   refine(ve (by simp only[uY,Oa];exact JP _ _ (by rw[show Bool.toNat true=1 from rfl] at hmk;omega)) (by rfl)).trans ?_
   rw[vg rfl]
   simp only[uY]
   rfl
  | false =>
   rw[if_neg (by decide),vg rfl]
   simp only[uY]
   rw[show Bool.toNat false=0 from rfl,Nat.zero_mul,Nat.add_zero];rfl
 ·rw[if_neg hgt]
  obtain⟨f1,f2⟩:=hex3 (by omega)
  refine(ve (first _ _ _ rfl (by rw[f2];rfl) (by simp only[uY];exact f1)) rfl).trans ?_
  refine(ve (by simp only[uY,N9,hP,eP];exact GG _ hq (by omega) (by omega) ) (by rfl)).trans ?_
  refine(ve (by simp only[uY,QS,hc,hd,hP,eP];exact OQ _ hz (by omega) ) (by rfl)).trans ?_
  refine(ve (by simp only[uY,Oa];exact JP _ _ (by omega)) (by rfl)).trans ?_
  rw[wG]
  simp only[uY]
  unfold FP.mk
  unfold FP.mk at hmk
  cases hn:vG n with
  | true =>
   rw[hn] at hmk
   rw[if_pos rfl]
   have l1:Aj [0,1,((FP.fW (fN f)-1:Nat):Int)]=oB (1*2^(FP.fW (fN f)-1)):=by
    have:=GG 1 (k:=FP.fW (fN f)-1) (by decide) (by omega) e1
    rw[EM.1,EM.2] at this;exact this
   refine(ve (by simp only[uY,N9,hW,eS];exact l1) (by rfl)).trans ?_
   refine(ve (by simp only[uY,Oa];exact JP _ _ (by rw[show Bool.toNat true=1 from rfl] at hmk;omega)) (by rfl)).trans ?_
   rw[vg rfl]
   simp only[uY]
   rfl
  | false =>
   rw[if_neg (by decide),vg rfl]
   simp only[uY]
   rw[show Bool.toNat false=0 from rfl,Nat.zero_mul,Nat.add_zero];rfl
open Go.RowKit
theorem aeE (f e:Int):NW [f,e] = [vw (decide (fN f<4)&&decide ((FP.fE (fN f):Int)<i64 e))]:=by
 rw[NW,Y3,wG]
 simp only[uY,decide_eq_true_iff]
 have h:=CW f
 by_cases hf:u8 f<4
 ·rw[if_pos hf,decide_eq_true (show fN f<4 by unfold fN;omega),Bool.true_and]
  refine(ve (by simp only[uY,amZ];exact JO _) (by rfl)).trans ?_
  rw[vg rfl];simp only[uY,vH,AX,gt_iff_lt]
 ·rw[if_neg hf,decide_eq_false (show ¬ fN f<4 by unfold fN;omega),Bool.false_and,vg rfl];rfl
theorem xP {n:Nat} (h:n<vL):nW (wd n 0) (wd n 1) (wd n 2) (wd n 3)=n:=by rw[GA,Nat.mod_eq_of_lt h]
theorem or1 (x:Nat):vX .or .u64 (wd x 0) 1=wd (x/2*2+1) 0:=by
 rw[y9,y9,show(1:Int)=((1:Nat):Int) from rfl,Q9 _ _ (Nat.mod_lt _ yE) (by decide)]
 congr 1
 rw[Nat.pow_zero,Nat.div_one,Nat.div_one]
 have h:∀ y:Nat,y|||1=y/2*2+1:=by
  intro y
  apply Nat.eq_of_testBit_eq
  intro i
  rw[Nat.testBit_or]
  cases i with
  | zero=>rw[Nat.testBit_zero,Nat.testBit_zero,Nat.testBit_zero,show(y/2*2+1)%2=1 by omega];simp
  | succ i=>rw[Nat.testBit_succ,Nat.testBit_succ,Nat.testBit_succ,show(y/2*2+1)/2=y/2 by omega];simp
 rw[h]
 rw[Eb];omega
theorem ZU (x i:Nat):wd (x/2*2+1) (i+1)=wd x (i+1):=by
 have e:(x/2*2+1)/vC=x/vC:=by rw[Eb];omega
 have h:∀ y,wd y (i+1)=wd (y/vC) i:=fun y=>by rw[y9,y9,Nat.pow_succ,Nat.mul_comm,Nat.div_div_eq_div_mul]
 rw[h,h,e]
theorem GH {a k:Nat} (h:a<vL):FP.jam a k<vL:=by
 unfold FP.jam
 have h1:=Nat.div_le_self a (2^k)
 have h2:vL%2=0:=by decide
 split
 ·omega
 ·generalize a/2^k=y at *;generalize vL=W at *;omega
theorem Rp (a b c d x:Int):BO [a,b,c,d,x]=oW (FP.jam (nW a b c d) (i64 x).toNat):=by
 refine Eq.trans ?_ (aeC _)
 have hn:=JI a b c d
 have hd:nW a b c d/2^(i64 x).toNat<vL:=Nat.lt_of_le_of_lt (Nat.div_le_self _ _) hn
 rw[BO,Y4]
 refine(ve (by simp only[uY,am0];exact Rk _ _ _ _ _) (by rfl)).trans ?_
 rw[Ed,xI]
 refine(ve (by simp only[uY,adN];exact ZR _ _ _ _ _) (by rfl)).trans ?_
 rw[Ed,xI,wG]
 simp only[uY]
 by_cases hz:nW a b c d%2^(i64 x).toNat=0
 ·rw[decide_eq_false (by simpa using hz),if_neg (by decide),vg rfl]
  simp only[uY]
  unfold FP.jam;rw[if_pos hz];rfl
 ·rw[decide_eq_true hz,if_pos rfl,vg rfl]
  simp only[uY,or1]
  unfold FP.jam;rw[if_neg hz]
  unfold rW oW
  rw[ZU,ZU,ZU]
theorem ao1 (a b c d k:Int) (h0:0≤i64 k) (h1:i64 k≤127):N8 [a,b,c,d,k] = [((FP.restN (nW a b c d) (2^(256-(i64 k).toNat)):Nat):Int)]:=by
 obtain⟨n,hn,e,w0,w1,w2,w3⟩:=Li a b c d
 obtain⟨m,hm⟩:∃ m:Nat,i64 k=(m:Int):=⟨(i64 k).toNat,by omega⟩
 rw[N8,Y5,wG]
 simp only[uY,decide_eq_true_iff]
 rw[if_neg (by omega),wG]
 simp only[uY,decide_eq_true_iff]
 rw[if_neg (by omega)]
 have e1:i64 (255-i64 k)=((255-m:Nat):Int):=by rw[hm,Bi (by omega) (by omega)];omega
 have e2:i64 ((255-m:Nat):Int)=((255-m:Nat):Int):=yG (by omega)
 refine(ve (by simp only[uY,adN,e1];exact ZR _ _ _ _ _ ) (by rfl)).trans ?_
 rw[Ed,e,e2,zI,vg rfl]
 simp only[uY,e1,Re,aoL,w2,w3,beq_iff_eq]
 have hm2:m≤127:=by omega
 have hsh:((255-m:Nat):Int)/64=(((255-m)/64:Nat):Int):=by simp
 rw[hsh,Uo n 2 ((255-m)%64) (Nat.mod_lt _ (by decide)),Uo n 3 ((255-m)%64) (Nat.mod_lt _ (by decide))]
 have hb:(if (((255-m)/64:Nat):Int)=2 then vw (n.testBit (64*2+(255-m)%64)) else vw (n.testBit (64*3+(255-m)%64)))=vw (n.testBit (255-m)):=by
  split
  ·congr 2;omega
  ·congr 2;omega
 rw[hb,vJ]
 have hE:2^(256-(i64 k).toNat)=2^(255-m)*2:=by rw[hm,zI,← Nat.pow_succ];congr 1;omega
 rw[hE]
 obtain⟨r,_⟩:=FP.restN_half (N:=n) (E:=2^(255-m)*2) (Nat.mul_pos (FP.two_pow_pos _) (by decide))
 rw[r,Nat.mul_comm (2^(255-m)) 2,Nat.mul_div_mul_left _ _ (by decide),Nat.mul_mod_mul_left]
 rw[Nat.testBit_eq_decide_div_mod_eq]
 rcases Nat.mod_two_eq_zero_or_one (n/2^(255-m)) with h2|h2
 ·rw[h2]
  by_cases hz:n%2^(255-m)=0
  ·simp[hz]
  ·have h2z:¬ 2*(n%2^(255-m))=0:=by omega
   rw[if_neg h2z];simp[hz]
 ·rw[h2]
  by_cases hz:n%2^(255-m)=0
  ·simp[hz]
  ·have h2z:¬ 2*(n%2^(255-m))=0:=by omega
   rw[if_neg h2z];simp[hz]
theorem Lp (a b c d k m g:Int) (h0:0≤i64 k) (h1:i64 k≤127) (hm:u8 m≤4) :
  Du [a,b,c,d,k,m,g]=oB (FP.rdiv (u8 m).toNat (vG g) (nW a b c d) (2^(256-(i64 k).toNat))) ++ [vw (decide (nW a b c d%2^(256-(i64 k).toNat)≠0))]:=by
 have hn:=JI a b c d
 obtain⟨j,hj⟩:∃ j:Nat,i64 k=(j:Int):=⟨(i64 k).toNat,by omega⟩
 have hr8:=CW m
 rw[Du,Zd,wG]
 simp only[zq,CX,Ec,zo,vJ,xe,wB,wC,xg,xh,wV,wW,decide_eq_true_iff]
 rw[if_neg (by omega),wG]
 simp only[zq,ZM,Ec,zo,vJ,xe,wB,wC,xg,xh,wV,wW,decide_eq_true_iff]
 rw[if_neg (by omega),wG]
 simp only[zq,BR,OL,Dv,zo,vJ,xe,wB,wC,xg,xh,wV,wW,Bool.not_eq_true',decide_eq_false_iff_not]
 rw[if_neg (by omega)]
 have e1:i64 (256-i64 k)=((256-j:Nat):Int):=by rw[hj,Bi (by omega) (by omega)];omega
 have e2:i64 ((256-j:Nat):Int)=((256-j:Nat):Int):=yG (by omega)
 rw[hj,zI]
 have hj2:j≤127:=by omega
 generalize hN:nW a b c d=N at *
 have hq:N/2^(256-j)<vF:=by
  rw[Nat.div_lt_iff_lt_mul (FP.two_pow_pos _),yn,← Nat.pow_add]
  rw[BJ] at hn
  exact Nat.lt_of_lt_of_le hn (Nat.pow_le_pow_right (by decide) (by omega))
 have hq1:N/2^(256-j)+1<vF:=by
  have:N/2^(256-j)<2^127:=by
   rw[Nat.div_lt_iff_lt_mul (FP.two_pow_pos _),← Nat.pow_add]
   rw[BJ] at hn
   exact Nat.lt_of_lt_of_le hn (Nat.pow_le_pow_right (by decide) (by omega))
  rw[OI];omega
 have hqW:N/2^(256-j)<vL:=Nat.lt_of_le_of_lt (Nat.div_le_self _ _) hn
 refine(ve (r:=oW (N/2^(256-j))) ?_ rfl).trans ?_
 ·simp only[uY,ank,e1];rw[Rk,Ed,hN,e2,zI];rfl
 refine(ve (r:=oB (N/2^(256-j))) ?_ rfl).trans ?_
 ·simp only[uY,anl];rw[ZP,xP hqW];rfl
 refine(ve (r:=[((FP.restN N (2^(256-j)):Nat):Int)]) ?_ rfl).trans ?_
 ·simp only[uY,anm];rw[ao1 _ _ _ _ _ (by rw[xI,hj];omega) (by rw[xI,hj];omega),Ed,hN,xI,hj,zI]
 have hrest:=FP.restN_le N (2^(256-j))
 have hz:=FP.restN_zero N (2^(256-j))
 have u8r:u8 ((FP.restN N (2^(256-j)):Nat):Int)=((FP.restN N (2^(256-j)):Nat):Int):=BP (by omega) (by omega)
 refine(ve (r:=[vw (FP.upN (u8 m).toNat (vG g) N (2^(256-j)))]) ?_ rfl).trans ?_
 ·simp only[uY,ann,Il,aek,u8r]
  congr 2
  have hodd:(vX .and .u64 (wd (N/2^(256-j)) 0) 1==1)=FP.oddN (N/2^(256-j)):=by
   rw[y9,and1 _ (Nat.mod_lt _ yE)]
   unfold FP.oddN
   rw[Nat.pow_zero,Nat.div_one,Eb]
   generalize N/2^(256-j)=y
   rw[Bool.eq_iff_iff,beq_iff_eq,Nat.beq_eq]
   omega
  rw[hodd]
  unfold FP.upN
  rcases Nat.eq_zero_or_pos (FP.restN N (2^(256-j))) with h|h
  ·rw[h];rfl
  ·rw[aey hr8.1 (by omega) (by omega),zI]
   rw[show Nat.beq (FP.restN N (2^(256-j))) 0=false by cases hb:Nat.beq (FP.restN N (2^(256-j))) 0 with
    | false=>rfl
    | true=>have:=Nat.eq_of_beq_eq_true hb;omega]
   rfl
 rw[wG]
 simp only[yI,xe,wB,wC,xg,xh,wV,wW,oW,oB,vJ]
 have hne:((((FP.restN N (2^(256-j)):Nat):Int) != 0):Bool)=decide (N%2^(256-j)≠0):=by
  rw[Bool.eq_iff_iff,bne_iff_ne,decide_eq_true_iff];omega
 unfold FP.rdiv
 cases hu:FP.upN (u8 m).toNat (vG g) N (2^(256-j)) with
 | true =>
  rw[if_pos rfl]
  have l1:CS [wd (N/2^(256-j)) 1,wd (N/2^(256-j)) 0,0,1] = [wd (N/2^(256-j)+1) 1,wd (N/2^(256-j)+1) 0,0]:=by
   have:=JP (N/2^(256-j)) 1 hq1
   rw[EM.1,EM.2] at this;exact this
  refine(ve (by simp only[uY,ano];exact l1) (by rfl)).trans ?_
  rw[vg rfl]
  simp only[uY,u8r,hne];rfl
 | false =>
  rw[if_neg (by decide),vg rfl]
  simp only[uY,u8r,hne];rfl
theorem ZV (f n:Int):EJ [f,n]=oB (if fN f<4 then FP.mk (fN f) (vG n) 0 else 0):=by
 refine Eq.trans ?_ (IA _)
 rw[EJ,Y7]
 refine(ve (by simp only[uY,JD];exact FD _ _ _ _ _) (by rfl)).trans ?_
 rw[vH,vg rfl]
 simp only[uY,show nB 0 0=0 by decide,show i64 0=0 by decide]
 unfold CY
 simp only[Nat.zero_mod,Nat.zero_mul,Nat.add_zero,Int.lt_irrefl,false_or,show ¬ ((0:Int)>1048576) by decide,if_false,Int.toNat_zero]
 rfl
theorem aeF {f:Nat} (h:f<4):(2*FP.fE f+1)%2^(FP.fW f-FP.fP f)=2*FP.fE f+1∧2*FP.fE f%2^(FP.fW f-FP.fP f)=2*FP.fE f:=by
 rcases FP.f4 h with rfl|rfl|rfl|rfl<;>decide
theorem Rq (e:Int) (h0:0≤e) (h1:e≤1000000):vX .mul .i64 2 e=2*e:=by
 show IntKind.i64.wrap (2*e)=2*e
 rw[Gx];exact wL (by omega) (by omega)
theorem ZW {f:Nat} (h:f<4) (neg:Bool) (frac:Nat):CY f neg ((2*FP.fE f+1:Nat):Int) frac=FP.mk f neg (FP.inf f+frac%2^(FP.fP f-1)):=by
 have hl:=Rn f
 unfold CY
 rw[if_neg (by omega),zI,(aeF h).1];rfl
theorem EN {f:Nat} (h:f<4):2^(FP.fP f-1)≤FP.inf f∧FP.inf f+2^(FP.fP f-2)<2^(FP.fW f-1)∧2^(FP.fP f-2)<2^(FP.fP f-1)∧2^(FP.fP f-1)=2*2^(FP.fP f-2):=by
 rcases FP.f4 h with rfl|rfl|rfl|rfl<;>decide
theorem Lr (f n:Int):AR [f,n]=oB (if fN f<4 then FP.mk (fN f) (vG n) (FP.inf (fN f)) else 0):=by
 refine Eq.trans ?_ (IA _)
 have hl:=Rn (fN f)
 rw[AR,Y8]
 refine(ve (by simp only[uY,Ze];exact JO _) (by rfl)).trans ?_
 rw[vH]
 have e1:i64 (vX .mul .i64 2 (FP.fE (fN f):Int)+1)=((2*FP.fE (fN f)+1:Nat):Int):=by rw[Rq _ (by omega) (by omega),wL (by omega) (by omega)];omega
 refine(ve (by simp only[uY,JD,AX,e1];exact FD _ _ _ _ _ ) (by rfl)).trans ?_
 rw[vH,vg rfl,yG (by omega)]
 simp only[uY,show nB 0 0=0 by decide]
 by_cases hf:fN f<4
 ·rw[if_pos hf,if_pos hf,ZW hf,Nat.zero_mod,Nat.add_zero];rfl
 ·rw[if_neg hf,if_neg hf];rfl
theorem ao2 (f n:Int):Oe [f,n]=oB (if fN f<4 then FP.mk (fN f) (vG n) (FP.inf (fN f)-1) else 0):=by
 refine Eq.trans ?_ (IA _)
 have hl:=Rn (fN f)
 rw[Oe,Y9]
 refine(ve (by simp only[uY,Ze];exact JO _) (by rfl)).trans ?_
 rw[vH]
 have e1:vX .mul .i64 2 (FP.fE (fN f):Int)=((2*FP.fE (fN f):Nat):Int):=by rw[Rq _ (by omega) (by omega)];omega
 refine(ve (by simp only[uY,JD,AX,e1];exact FD _ _ _ _ _ ) (by rfl)).trans ?_
 rw[vH,vg rfl,yG (by omega)]
 simp only[uY]
 by_cases hf:fN f<4
 ·rw[if_pos hf,if_pos hf]
  have e:CY (fN f) (vG n) ((2*FP.fE (fN f):Nat):Int) (nB 18446744073709551615 18446744073709551615)=FP.mk (fN f) (vG n) (FP.inf (fN f)-1):=by
   unfold CY
   rw[if_neg (by omega),zI,(aeF hf).2]
   unfold FP.inf FP.infC
   have hall:nB 18446744073709551615 18446744073709551615%2^(FP.fP (fN f)-1)=2^(FP.fP (fN f)-1)-1:=by
    rcases FP.f4 hf with h|h|h|h<;>rw[h]<;>decide
   rw[hall,Nat.add_mul,Nat.one_mul]
   have:=FP.two_pow_pos (FP.fP (fN f)-1)
   congr 1
   omega
  rw[e];rfl
 ·rw[if_neg hf,if_neg hf];rfl
theorem aeG (f a b:Int):Fy [f,a,b]=(if fN f<4 then [vw (FP.sgn (fN f) (nB a b)),((FP.cod (fN f) (nB a b)/2^(FP.fP (fN f)-1):Nat):Int)]++oB (FP.cod (fN f) (nB a b)%2^(FP.fP (fN f)-1)) else [0,0,0,0]):=by
 rw[Fy,Za]
 have hW:=Uv (fN f)
 have hP:=zh (fN f)
 refine(ve (by simp only[uY,anh];exact Rm _) (by rfl)).trans ?_
 rw[vH,wG]
 simp only[uY,hW,beq_iff_eq]
 by_cases hf:¬ fN f<4
 ·have:FP.fW (fN f)=0:=by
   obtain⟨m,hm⟩:∃ m,fN f=m+4:=⟨fN f-4,by omega⟩
   rw[hm];rfl
  rw[if_pos (by rw[this];rfl),vg rfl,if_neg hf];rfl
 have hf:=Classical.not_not.1 hf
 obtain⟨h1,h2,h3,h4,h5,_,_,h8⟩:=ZT hf
 rw[if_neg (by omega),if_pos hf]
 have eW:i64 ((FP.fW (fN f):Int)-(FP.fP (fN f):Int))=((FP.fW (fN f)-FP.fP (fN f):Nat):Int):=Ef (by omega) (by omega)
 have eP:i64 ((FP.fP (fN f):Int)-1)=((FP.fP (fN f)-1:Nat):Int):=Ef (b:=1) (by omega) (by omega)
 have eS:i64 ((FP.fW (fN f):Int)-1)=((FP.fW (fN f)-1:Nat):Int):=Ef (b:=1) (by omega) (by omega)
 obtain⟨z,hz,ez,hc,hd⟩:=Ck a b
 have hcut:=OP z (show FP.fW (fN f)≤128 by omega)
 rw[ez]
 refine(ve (r:=oB (z%2^FP.fW (fN f))) ?_ rfl).trans ?_
 ·simp only[uY,ani];rw[Ro,vM,ez,vH];rfl
 refine(ve (by simp only[uY,anj,hP,eP];exact aeD _ hcut (by omega) ) (by rfl)).trans ?_
 have eS2:i64 ((FP.fW (fN f)-1:Nat):Int)=((FP.fW (fN f)-1:Nat):Int):=yG (by omega)
 refine(ve (r:=[vw (FP.sgn (fN f) z)]) ?_ rfl).trans ?_
 ·simp only[uY,adO,hW,eS]
  rw[Uq,vM,ez,eS2,Qd];rfl
 have hq:z%2^FP.fW (fN f)/2^(FP.fP (fN f)-1)<vF:=Nat.lt_of_le_of_lt (Nat.div_le_self _ _) hcut
 refine(ve (by simp only[uY,adP,hW,hP,eW];exact OQ _ hq (by omega) ) (by rfl)).trans ?_
 refine(ve (by simp only[uY,adP,hP,eP,hc,hd];exact OQ _ hz (by omega) ) (by rfl)).trans ?_
 rw[vg rfl]
 simp only[uY]
 have hcod:z%2^FP.fW (fN f)/2^(FP.fP (fN f)-1)%2^(FP.fW (fN f)-FP.fP (fN f))=FP.cod (fN f) z/2^(FP.fP (fN f)-1):=by
  unfold FP.cod
  have e1:2^(FP.fW (fN f)-1)=2^(FP.fP (fN f)-1)*2^(FP.fW (fN f)-FP.fP (fN f)):=by rw[← Nat.pow_add];congr 1;omega
  have e2:2^FP.fW (fN f)=2^(FP.fP (fN f)-1)*2^(FP.fW (fN f)-FP.fP (fN f))*2:=by rw[← e1,← Nat.pow_succ];congr 1;omega
  rw[e1,Nat.mod_mul_right_div_self,e2,Nat.mul_assoc,Nat.mod_mul_right_div_self,Nat.mod_mul_right_mod]
 have hfrac:z%2^(FP.fP (fN f)-1)=FP.cod (fN f) z%2^(FP.fP (fN f)-1):=by
  unfold FP.cod
  have e1:2^(FP.fW (fN f)-1)=2^(FP.fP (fN f)-1)*2^(FP.fW (fN f)-FP.fP (fN f)):=by rw[← Nat.pow_add];congr 1;omega
  rw[e1,Nat.mod_mul_right_mod]
 have hsm:z%2^FP.fW (fN f)/2^(FP.fP (fN f)-1)%2^(FP.fW (fN f)-FP.fP (fN f))<32768:=by
  refine Nat.lt_of_lt_of_le (Nat.mod_lt _ (FP.two_pow_pos _)) ?_
  exact(show 2^(FP.fW (fN f)-FP.fP (fN f))≤2^15 from Nat.pow_le_pow_right (by decide) h8)
 have hw0:wd (z%2^FP.fW (fN f)/2^(FP.fP (fN f)-1)%2^(FP.fW (fN f)-FP.fP (fN f))) 0=((z%2^FP.fW (fN f)/2^(FP.fP (fN f)-1)%2^(FP.fW (fN f)-FP.fP (fN f)):Nat):Int):=by
  rw[y9,Nat.pow_zero,Nat.div_one,Nat.mod_eq_of_lt (by rw[Eb];omega)]
 rw[hw0,yG (by omega),hcod,← hfrac]
open Go.RowKit
theorem yh (f:Int):(u8 f<4)↔fN f<4:=by have:=CW f;unfold fN;omega
theorem aeH (f c:Nat):u8 (FP.clsC f c:Int)=FP.clsC f c:=BP (by omega) (by have:=FP.clsC_le f c;omega)
theorem aeI {c H K i:Nat} (hp0:0<K) (hH:H=2*K) (hcm:c=i+c%H) (hl:c%H<H):c%H/K%2=1↔i+K≤c:=by
 generalize c%H=r at *
 have h2:r/K<2:=by rw[Nat.div_lt_iff_lt_mul hp0];omega
 have h1:1≤r/K↔K≤r:=by rw[Nat.le_div_iff_mul_le hp0,Nat.one_mul]
 generalize r/K=y at *
 omega
theorem ao3 (f a b:Int):Ld [f,a,b]=if fN f<4 then [((FP.cls (fN f) (nB a b):Nat):Int),vw (FP.sgn (fN f) (nB a b))] else [0,0]:=by
 rw[Ld,Zf,wG]
 simp only[uY,Bool.not_eq_true',decide_eq_false_iff_not,yh]
 by_cases hf:¬ fN f<4
 ·rw[if_pos hf,if_neg hf,vg rfl];rfl
 rw[if_neg hf]
 have hf:=Classical.not_not.1 hf
 rw[if_pos hf]
 obtain⟨n1,n2,n3,n4,n5,n6,n7,n8,n9⟩:=FP.fmtN hf
 have hcl:=FP.cod_lt (fN f) (nB a b)
 refine(ve (r:=[vw (FP.sgn (fN f) (nB a b)),((FP.cod (fN f) (nB a b)/2^(FP.fP (fN f)-1):Nat):Int)]++oB (FP.cod (fN f) (nB a b)%2^(FP.fP (fN f)-1))) ?_ rfl).trans ?_
 ·simp only[uY,Zj];rw[aeG,vH,if_pos hf,vM];rfl
 unfold FP.cls
 generalize FP.sgn (fN f) (nB a b)=s
 generalize FP.cod (fN f) (nB a b)=c at *
 generalize hH:2^(FP.fP (fN f)-1)=H at *
 have hH0:0<H:=by rw[← hH];exact FP.two_pow_pos _
 have hHW:H≤vF:=by rw[← hH];exact GD (by omega)
 have hfr:c%H<vF:=Nat.lt_of_lt_of_le (Nat.mod_lt _ hH0) hHW
 refine(ve (r:=[vw (decide (c%H=0))]) ?_ rfl).trans ?_
 ·simp only[uY,anz];rw[ZO,xn hfr]
 refine(ve (by simp only[uY,anA];exact JO _) (by rfl)).trans ?_
 rw[vH]
 have hc128:c/H<1000000:=by
  rw[Nat.div_lt_iff_lt_mul hH0]
  have e1:2^(FP.fW (fN f)-1)=2^(FP.fW (fN f)-FP.fP (fN f))*H:=by rw[← hH,← Nat.pow_add];congr 1;omega
  rw[e1] at hcl
  refine Nat.lt_of_lt_of_le hcl (Nat.mul_le_mul_right _ ?_)
  rw[← n9];omega
 have htop:2^(FP.fW (fN f)-1)=FP.inf (fN f)+H:=by rw[← hH];exact FP.inf_top hf
 have hinf:FP.inf (fN f)=(2*FP.fE (fN f)+1)*H:=by rw[← hH];rfl
 have hdm:=Nat.div_add_mod c H
 have hml:=Nat.mod_lt c hH0
 have e1:i64 ((c/H:Nat):Int)=((c/H:Nat):Int):=yG (by omega)
 have e2:i64 (vX .mul .i64 2 (FP.fE (fN f):Int)+1)=((2*FP.fE (fN f)+1:Nat):Int):=by rw[Rq _ (by omega) (by omega),wL (by omega) (by omega)];omega
 rw[wG]
 simp only[uY,e1,beq_iff_eq]
 have cls0:c=0→FP.clsC (fN f) c=0:=fun h=>by unfold FP.clsC;rw[if_pos h]
 have cls1:c≠0→c<H→FP.clsC (fN f) c=1:=fun h h2=>by unfold FP.clsC;rw[if_neg h,hH,if_pos h2]
 have cls2:c≠0→¬ c<H→c<FP.inf (fN f)→FP.clsC (fN f) c=2:=fun h h2 h3=>by unfold FP.clsC;rw[if_neg h,hH,if_neg h2,if_pos h3]
 have cls3:c≠0→¬ c<H→c=FP.inf (fN f)→FP.clsC (fN f) c=3:=fun h h2 h3=>by unfold FP.clsC;rw[if_neg h,hH,if_neg h2,if_neg (by omega),if_pos h3]
 have cls45:c≠0→¬ c<H→¬ c<FP.inf (fN f)→c≠FP.inf (fN f)→FP.clsC (fN f) c=if FP.inf (fN f)+2^(FP.fP (fN f)-2)≤c then 4 else 5:=fun h h2 h3 h4=>by unfold FP.clsC;rw[if_neg h,hH,if_neg h2,if_neg h3,if_neg h4]
 by_cases hz:c/H=0
 ·rw[if_pos (by omega),wG]
  simp only[uY,decide_eq_true_iff]
  have hlt:c<H:=(Nat.div_eq_zero_iff_lt hH0).1 hz
  have hcm:c%H=c:=Nat.mod_eq_of_lt hlt
  rw[hcm]
  by_cases h0:c=0
  ·rw[if_pos h0];rw[vg rfl,show FP.clsC (fN f) c=0 from cls0 h0];(simp only[uY])<;>rfl
  ·rw[if_neg h0];rw[vg rfl,show FP.clsC (fN f) c=1 from cls1 h0 hlt];(simp only[uY])<;>rfl
 ·have hge:¬ c<H:=fun h=>hz (Nat.div_eq_of_lt h)
  have h0:c≠0:=by omega
  rw[if_neg (by omega),wG]
  simp only[uY,e1,AX,e2,decide_eq_true_iff]
  have hcmp:(((c/H:Nat):Int)<((2*FP.fE (fN f)+1:Nat):Int))↔c<FP.inf (fN f):=by
   rw[hinf,← Nat.div_lt_iff_lt_mul hH0];omega
  by_cases h1:c<FP.inf (fN f)
  ·rw[if_pos (hcmp.2 h1)];rw[vg rfl,show FP.clsC (fN f) c=2 from cls2 h0 hge h1];(simp only[uY])<;>rfl
  ·rw[if_neg (fun h=>h1 (hcmp.1 h)),wG]
   simp only[uY,decide_eq_true_iff]
   have hq:c/H=2*FP.fE (fN f)+1:=by
    apply Nat.le_antisymm
    ·have:c/H<2*FP.fE (fN f)+2:=by
      rw[Nat.div_lt_iff_lt_mul hH0,show(2*FP.fE (fN f)+2)*H=FP.inf (fN f)+H by rw[hinf,← Nat.succ_mul],← htop];exact hcl
     omega
    ·rw[Nat.le_div_iff_mul_le hH0,← hinf];omega
   have hcm:c=FP.inf (fN f)+c%H:=by rw[hinf,← hq,Nat.mul_comm];exact hdm.symm
   by_cases h2:c%H=0
   ·rw[if_pos h2];rw[vg rfl,show FP.clsC (fN f) c=3 from cls3 h0 hge (by omega)];(simp only[uY])<;>rfl
   ·rw[if_neg h2]
    have c45:=cls45 h0 hge h1 (by omega)
    refine(ve (by simp only[uY,anB];exact Iz _) (by rfl)).trans ?_
    rw[vH]
    have eP:i64 ((FP.fP (fN f):Int)-2)=((FP.fP (fN f)-2:Nat):Int):=Ef (b:=2) (by omega) (by omega)
    have hHH:H=2*2^(FP.fP (fN f)-2):=by rw[← hH,← Nat.pow_succ'];congr 1;omega
    have hbit:(c%H).testBit (FP.fP (fN f)-2)=decide (FP.inf (fN f)+2^(FP.fP (fN f)-2)≤c):=by
     rw[Nat.testBit_eq_decide_div_mod_eq,decide_eq_decide]
     have hp0:=FP.two_pow_pos (FP.fP (fN f)-2)
     exact aeI hp0 hHH hcm (Nat.mod_lt c hH0)
    refine(ve (r:=[vw (decide (FP.inf (fN f)+2^(FP.fP (fN f)-2)≤c))]) ?_ rfl).trans ?_
    ·simp only[uY,anC,zh,eP]
     rw[Uq,xn hfr,yG (by omega),Qd,hbit]
    rw[wG]
    simp only[uY,decide_eq_true_iff]
    by_cases h3:FP.inf (fN f)+2^(FP.fP (fN f)-2)≤c
    ·rw[if_pos h3];rw[vg rfl,show FP.clsC (fN f) c=4 by rw[c45,if_pos h3]];(simp only[uY])<;>rfl
    ·rw[if_neg h3];rw[vg rfl,show FP.clsC (fN f) c=5 by rw[c45,if_neg h3]];(simp only[uY])<;>rfl
def uZ (f b:Nat):Nat:=if f<4 then FP.cls f b else 0
def yU (f b:Nat):Bool:=decide (f<4)&&FP.sgn f b
def IB (f b:Nat):Nat:=if f<4 then FP.cod f b else 0
theorem ZX (f a b:Int):Ld [f,a,b] = [((uZ (fN f) (nB a b):Nat):Int),vw (yU (fN f) (nB a b))]:=by
 rw[ao3];unfold uZ yU
 by_cases hf:fN f<4
 ·rw[if_pos hf,if_pos hf,decide_eq_true hf,Bool.true_and]
 ·rw[if_neg hf,if_neg hf,decide_eq_false hf];rfl
theorem Ux (f a b:Int):Fy [f,a,b] = [vw (yU (fN f) (nB a b)),((IB (fN f) (nB a b)/2^(FP.fP (fN f)-1):Nat):Int)]++oB (IB (fN f) (nB a b)%2^(FP.fP (fN f)-1)):=by
 rw[aeG];unfold IB yU
 by_cases hf:fN f<4
 ·rw[if_pos hf,if_pos hf,decide_eq_true hf,Bool.true_and]
 ·rw[if_neg hf,if_neg hf,decide_eq_false hf,Nat.zero_div,Nat.zero_mod];rfl
theorem Ak (f b:Nat):u8 (uZ f b:Int)=uZ f b:=by
  unfold uZ;split
  · exact aeH _ _
  · rfl
theorem Bj (f a b:Int):yR [f,a,b] = [vw (decide (4≤uZ (fN f) (nB a b)))]:=by
 rw[yR,Zk]
 refine(ve (by simp only[uY,Zp];exact ZX _ _ _) (by rfl)).trans ?_
 rw[vH,vM,vg rfl]
 simp only[uY,Ak]
 congr 2
 rw[decide_eq_decide];omega
theorem CZ (f a b:Int):zH [f,a,b] = [vw (decide (uZ (fN f) (nB a b)=5))]:=by
 rw[zH,Zo]
 refine(ve (by simp only[uY,Zp];exact ZX _ _ _) (by rfl)).trans ?_
 rw[vH,vM,vg rfl]
 simp only[uY,Ak]
 congr 2
 rw[Bool.eq_iff_iff,beq_iff_eq,decide_eq_true_iff];omega
theorem ZY {f c:Nat} (hf:f<4) (hcl:c<2^(FP.fW f-1)):c/2^(FP.fP f-1)<2^(FP.fW f-FP.fP f)∧c/2^(FP.fP f-1)<1000000:=by
 obtain⟨n1,n2,n3,n4,n5,n6,n7,n8,n9⟩:=FP.fmtN hf
 have hq:c/2^(FP.fP f-1)<2^(FP.fW f-FP.fP f):=by
  rw[Nat.div_lt_iff_lt_mul (FP.two_pow_pos _),← Nat.pow_add,show FP.fW f-FP.fP f+(FP.fP f-1)=FP.fW f-1 by omega];exact hcl
 refine⟨hq,?_⟩
 rw[← n9] at hq
 generalize c/2^(FP.fP f-1)=q at *
 omega
theorem ao4 {f c:Nat} (hf:f<4) (hcl:c<2^(FP.fW f-1)) (neg:Bool):CY f neg ((c/2^(FP.fP f-1):Nat):Int) (c%2^(FP.fP f-1))=FP.mk f neg c:=by
 obtain⟨hq,hq2⟩:=ZY hf hcl
 unfold CY
 rw[if_neg (by generalize c/2^(FP.fP f-1)=q at *;omega),zI,Nat.mod_mod,Nat.mod_eq_of_lt hq,Nat.mul_comm,Nat.div_add_mod]
theorem ao5 (f a b:Int):Lf [f,a,b]=oB (if fN f<4 then FP.mk (fN f) (!FP.sgn (fN f) (nB a b)) (FP.cod (fN f) (nB a b)) else 0):=by
 refine Eq.trans ?_ (IA _)
 rw[Lf,Zi]
 refine(ve (by simp only[uY,Zj];exact Ux _ _ _) (by rfl)).trans ?_
 rw[vH,vM]
 by_cases hf:fN f<4
 ·rw[if_pos hf]
  obtain⟨n1,n2,n3,n4,n5,n6,n7,n8,n9⟩:=FP.fmtN hf
  have hcl:=FP.cod_lt (fN f) (nB a b)
  rw[show yU (fN f) (nB a b)=FP.sgn (fN f) (nB a b) by unfold yU;rw[decide_eq_true hf,Bool.true_and],show IB (fN f) (nB a b)=FP.cod (fN f) (nB a b) by unfold IB;rw[if_pos hf]]
  generalize FP.sgn (fN f) (nB a b)=s
  generalize FP.cod (fN f) (nB a b)=c at *
  have hfr:c%2^(FP.fP (fN f)-1)<vF:=OP _ (by omega)
  have hq2:=(ZY hf hcl).2
  refine(ve (r:=oB (FP.mk (fN f) (!s) c)) ?_ rfl).trans ?_
  ·simp only[uY,adS]
   rw[FD,vH,if_pos hf,xn hfr,xI,yG (by omega),vJ,ao4 hf hcl,vR]
  rw[vg rfl]
  simp only[uY]
  rfl
 ·rw[if_neg hf]
  refine(ve (by simp only[uY,adS];exact FD _ _ _ _ _) (by rfl)).trans ?_
  rw[vH,if_neg hf,vg rfl];rfl
open Go.RowKit
theorem ao6 (n:Nat):len n=FP.lenN n:=rfl
theorem aeJ (k n:Nat) (h:n≠0):Br k n=k-FP.lenN n:=by unfold Br;rw[if_neg h,ao6]
theorem Z0 (f:Int):EK [f]=oB (if fN f<4 then FP.mk (fN f) false (FP.inf (fN f)+2^(FP.fP (fN f)-2)) else 0):=by
 refine Eq.trans ?_ (IA _)
 have hl:=Rn (fN f)
 rw[EK,Zc]
 refine(ve (by simp only[uY,Ze];exact JO _) (by rfl)).trans ?_
 refine(ve (by simp only[uY,adQ];exact Iz _) (by rfl)).trans ?_
 rw[vH]
 by_cases hf:fN f<4
 ·obtain⟨n1,n2,n3,n4,n5,n6,n7,n8,n9⟩:=FP.fmtN hf
  have eP:i64 ((FP.fP (fN f):Int)-2)=((FP.fP (fN f)-2:Nat):Int):=Ef (b:=2) (by omega) (by omega)
  have hK:1*2^(FP.fP (fN f)-2)<vF:=by
   rw[Nat.one_mul,yn];exact Nat.pow_lt_pow_right (by decide) (by omega)
  have l1:Aj [0,1,((FP.fP (fN f)-2:Nat):Int)]=oB (1*2^(FP.fP (fN f)-2)):=by
   have:=GG 1 (k:=FP.fP (fN f)-2) (by decide) (by omega) hK
   rw[EM.1,EM.2] at this;exact this
  refine(ve (by simp only[uY,adR,zh,eP];exact l1) (by rfl)).trans ?_
  have e1:i64 (vX .mul .i64 2 (FP.fE (fN f):Int)+1)=((2*FP.fE (fN f)+1:Nat):Int):=by rw[Rq _ (by omega) (by omega),wL (by omega) (by omega)];omega
  refine(ve (r:=oB (FP.mk (fN f) false (FP.inf (fN f)+2^(FP.fP (fN f)-2)))) ?_ rfl).trans ?_
  ·simp only[uY,JD,AX,e1]
   rw[FD,vH,if_pos hf,xn hK,yG (by omega),show vG 0=false from rfl,ZW hf,Nat.one_mul,Nat.mod_eq_of_lt (EN hf).2.2.1,vR]
  rw[vg rfl]
  simp only[uY,if_pos hf];rfl
 ·rw[if_neg hf]
  refine(ve (by simp only[uY,adR];exact Uk _ _ _) (by rfl)).trans ?_
  refine(ve (by simp only[uY,JD];exact FD _ _ _ _ _) (by rfl)).trans ?_
  rw[vH,if_neg hf,vg rfl];rfl
theorem ao7 (f m n:Int) (hf:fN f<4) (hm:u8 m≤4):Le [f,m,n]=oB (FP.mk (fN f) (vG n) (FP.overC (FP.fP (fN f)) (FP.fE (fN f)) (u8 m).toNat (vG n))) ++ [20]:=by
 have hf2:=(yh f).2 hf
 rw[Le,Zg,wG]
 simp only[zq,BR,CX,Dv,zo,vJ,xe,wB,wC,xg,xh,wV,wW,Bool.not_eq_true',decide_eq_false_iff_not]
 rw[if_neg (by omega),wG]
 simp only[zq,BR,OL,Dv,zo,vJ,xe,wB,wC,xg,xh,wV,wW,Bool.not_eq_true',decide_eq_false_iff_not]
 rw[if_neg (by omega)]
 refine(ve (by simp only[uY,anD];exact aoS _ _) (by rfl)).trans ?_
 rw[wS,vJ,wG]
 simp only[uY]
 unfold FP.overC
 cases hi:FP.nextN (u8 m).toNat (vG n) true 3 with
 | true =>
  rw[if_pos rfl,if_pos rfl]
  refine(ve (by simp only[uY,anE];exact Lr _ _) (by rfl)).trans ?_
  rw[vH,if_pos hf,vJ,vg rfl]
  simp only[uY];rfl
 | false =>
  rw[if_neg (by decide),if_neg (by decide)]
  refine(ve (by simp only[uY,anF];exact ao2 _ _) (by rfl)).trans ?_
  rw[vH,if_pos hf,vJ,vg rfl]
  simp only[uY];rfl
theorem Uy (f n e c d:Int) (hf:fN f<4):Gv [f,n,e,c,d]=oB (CY (fN f) (vG n) (if i64 e=0∧(nB c d).testBit (FP.fP (fN f)-1)=true then 1 else i64 e) (nB c d)):=by
 refine Eq.trans ?_ (IA _)
 obtain⟨n1,n2,n3,n4,n5,n6,n7,n8,n9⟩:=FP.fmtN hf
 have eP:i64 ((FP.fP (fN f):Int)-1)=((FP.fP (fN f)-1:Nat):Int):=Ef (b:=1) (by omega) (by omega)
 rw[Gv,Zb,wG]
 simp only[zq,JL,Ec,zo,vJ,xe,wB,wC,xg,xh,wV,wW,beq_iff_eq]
 by_cases he:i64 e=0
 ·rw[if_pos he]
  refine(ve (by simp only[uY,adQ];exact Iz _) (by rfl)).trans ?_
  rw[vH]
  refine(ve (r:=[vw ((nB c d).testBit (FP.fP (fN f)-1))]) ?_ rfl).trans ?_
  ·simp only[uY,adO,zh,eP];rw[Uq,vM,yG (by omega),Qd]
  rw[wG]
  simp only[uY]
  cases hb:(nB c d).testBit (FP.fP (fN f)-1) with
  | true =>
   rw[if_pos rfl,if_pos ⟨he,rfl⟩]
   refine(ve (by simp only[uY,JD];exact FD _ _ _ _ _) (by rfl)).trans ?_
   rw[vH,if_pos hf,vM,vJ,show i64 1=1 by decide,vg rfl]
   simp only[uY];rfl
  | false =>
   rw[if_neg (by decide),if_neg (by simp)]
   refine(ve (by simp only[uY,JD];exact FD _ _ _ _ _) (by rfl)).trans ?_
   rw[vH,if_pos hf,vM,vJ,xI,vg rfl]
   simp only[uY];rfl
 ·rw[if_neg he,if_neg (fun h=>he h.1)]
  refine(ve (by simp only[uY,JD];exact FD _ _ _ _ _) (by rfl)).trans ?_
  rw[vH,if_pos hf,vM,vJ,xI,vg rfl]
  simp only[uY];rfl
def vQ (f b:Nat):Int:=if uZ f b=1∨uZ f b=2 then FP.unExp f (FP.cod f b) else 0
def wu (f b:Nat):Nat:=if uZ f b=1∨uZ f b=2 then FP.unSig f (FP.cod f b) else 0
theorem aeK {f c:Nat} (hf:f<4):(FP.clsC f c=1↔0<c∧c<2^(FP.fP f-1))∧(FP.clsC f c=2↔¬ c<2^(FP.fP f-1)∧c<FP.inf f):=by
 have h:=(EN hf).1
 have hp:=FP.two_pow_pos (FP.fP f-1)
 unfold FP.clsC
 by_cases h0:c=0
 ·rw[if_pos h0];omega
 rw[if_neg h0]
 by_cases h1:c<2^(FP.fP f-1)
 ·rw[if_pos h1];omega
 rw[if_neg h1]
 by_cases h2:c<FP.inf f
 ·rw[if_pos h2];omega
 rw[if_neg h2]
 by_cases h3:c=FP.inf f
 ·rw[if_pos h3];omega
 rw[if_neg h3]
 split<;>omega
theorem zL (f b:Nat):wu f b<vF:=by
 unfold wu
 split
 ·rename_i h
  have hf:f<4:=by
   apply Classical.byContradiction;intro hf
   unfold uZ at h;rw[if_neg hf] at h;omega
  unfold uZ at h
  rw[if_pos hf] at h
  obtain⟨c1,c2⟩:=aeK (c:=FP.cod f b) hf
  have hin:=(EN hf).1
  have hp:=FP.two_pow_pos (FP.fP f-1)
  have hb:0<FP.cod f b∧FP.cod f b<FP.inf f:=by
   rcases h with h|h
   ·have:=c1.1 h;omega
   ·have:=c2.1 h;omega
  rw[yn]
  exact(FP.un_sig hf hb.1 hb.2).2
 ·exact Es
theorem Bl (f a b:Int):yA [f,a,b] = [vw (yU (fN f) (nB a b)),((uZ (fN f) (nB a b):Nat):Int),vQ (fN f) (nB a b)]++oB (wu (fN f) (nB a b)):=by
 rw[yA,Zm]
 refine(ve (by simp only[uY,Zp];exact ZX _ _ _) (by rfl)).trans ?_
 rw[vH,vM]
 refine(ve (by simp only[uY,adU];exact Iz _) (by rfl)).trans ?_
 refine(ve (by simp only[uY,adV];exact JO _) (by rfl)).trans ?_
 rw[vH]
 refine(ve (by simp only[uY,anP];exact Ux _ _ _) (by rfl)).trans ?_
 rw[vH,vM,wG]
 simp only[uY,Ak,beq_iff_eq]
 by_cases hf:¬ fN f<4
 ·have h0:uZ (fN f) (nB a b)=0:=by unfold uZ;rw[if_neg hf]
  rw[h0,if_neg (by decide),wG]
  simp only[uY,beq_iff_eq,show u8 ((0:Nat):Int)=0 by decide]
  rw[if_neg (by decide),vg rfl]
  unfold vQ wu
  rw[h0,if_neg (by decide),if_neg (by decide)]
  simp only[uY];rfl
 have hf:=Classical.not_not.1 hf
 obtain⟨n1,n2,n3,n4,n5,n6,n7,n8,n9⟩:=FP.fmtN hf
 have hS:IB (fN f) (nB a b)=FP.cod (fN f) (nB a b):=by unfold IB;rw[if_pos hf]
 have hC:uZ (fN f) (nB a b)=FP.clsC (fN f) (FP.cod (fN f) (nB a b)):=by unfold uZ FP.cls;rw[if_pos hf]
 have hcl:=FP.cod_lt (fN f) (nB a b)
 unfold vQ wu
 rw[hS,hC]
 generalize FP.cod (fN f) (nB a b)=c at *
 obtain⟨c1,c2⟩:=aeK (c:=c) hf
 have hk5:=FP.clsC_le (fN f) c
 have hin:=(EN hf).1
 have hp0:=FP.two_pow_pos (FP.fP (fN f)-1)
 have hfr:c%2^(FP.fP (fN f)-1)<vF:=OP _ (by omega)
 have hq2:=(ZY hf hcl).2
 have e0:u8 ((FP.clsC (fN f) c:Nat):Int)=((FP.clsC (fN f) c:Nat):Int):=aeH _ _
 by_cases h2:FP.clsC (fN f) c=2
 ·rw[if_pos (by omega),if_pos (.inr h2),if_pos (.inr h2)]
  obtain⟨hn,hlt⟩:=c2.1 h2
  have hs:=FP.un_sig hf (by omega) hlt
  have hx:=FP.un_exp hf hlt
  have e1:i64 (128-(FP.fP (fN f):Int))=((128-FP.fP (fN f):Nat):Int):=Ef (a:=128) (by omega) (by omega)
  have hpw:2^128=2^(FP.fP (fN f))*2^(128-FP.fP (fN f)):=by rw[← Nat.pow_add];congr 1;omega
  have hpw2:(2:Nat)^127=2^(FP.fP (fN f)-1)*2^(128-FP.fP (fN f)):=by rw[← Nat.pow_add];congr 1;omega
  have hh:=FP.half_pow n1
  have hml:=Nat.mod_lt c hp0
  have hq0:=FP.two_pow_pos (128-FP.fP (fN f))
  have hb:c%2^(FP.fP (fN f)-1)*2^(128-FP.fP (fN f))<2^127:=by rw[hpw2];exact Nat.mul_lt_mul_of_pos_right hml hq0
  have hbW:c%2^(FP.fP (fN f)-1)*2^(128-FP.fP (fN f))<vF:=by rw[OI];omega
  refine(ve (by simp only[uY,anQ,zh,e1];exact GG _ hfr (by omega) hbW ) (by rfl)).trans ?_
  have l1:CS [wd (c%2^(FP.fP (fN f)-1)*2^(128-FP.fP (fN f))) 1,wd (c%2^(FP.fP (fN f)-1)*2^(128-FP.fP (fN f))) 0,9223372036854775808,0] =
    [wd (c%2^(FP.fP (fN f)-1)*2^(128-FP.fP (fN f))+2^127) 1,wd (c%2^(FP.fP (fN f)-1)*2^(128-FP.fP (fN f))+2^127) 0,0]:=by
   have:=JP (c%2^(FP.fP (fN f)-1)*2^(128-FP.fP (fN f))) (2^127) (by rw[OI];omega)
   rw[show wd (2^127) 1=9223372036854775808 by decide,show wd (2^127) 0=0 by decide] at this;exact this
  refine(ve (by simp only[uY,anR];exact l1) (by rfl)).trans ?_
  rw[vg rfl]
  have eS:c%2^(FP.fP (fN f)-1)*2^(128-FP.fP (fN f))+2^127=FP.unSig (fN f) c:=by
   unfold FP.unSig;rw[if_neg hn,hpw2,Nat.add_mul,Nat.add_comm]
  have eE:i64 (((c/2^(FP.fP (fN f)-1):Nat):Int)-(FP.fE (fN f):Int))=FP.unExp (fN f) c:=by
   unfold FP.unExp at hx ⊢;rw[if_neg hn] at hx ⊢
   exact JM hx.1 hx.2
  have e5:i64 ((c/2^(FP.fP (fN f)-1):Nat):Int)=((c/2^(FP.fP (fN f)-1):Nat):Int):=yG (by omega)
  rw[eS]
  simp only[uY,e0,e5,AX,eE]
 ·rw[if_neg (by omega),wG]
  simp only[uY,e0,beq_iff_eq]
  by_cases h1:FP.clsC (fN f) c=1
  ·rw[if_pos (by omega),if_pos (.inl h1),if_pos (.inl h1)]
   obtain⟨hpos,hlt⟩:=c1.1 h1
   have hx:=FP.un_exp hf (show c<FP.inf (fN f) by omega)
   have hcm:c%2^(FP.fP (fN f)-1)=c:=Nat.mod_eq_of_lt hlt
   have hcW:c<vF:=by rw[← hcm];exact hfr
   have hr:=aeJ 128 c (by omega)
   have hle:Br 128 c≤128:=by rw[hr];omega
   refine(ve (r:=oB (c*2^Br 128 c) ++ [((Br 128 c:Nat):Int)]) ?_ rfl).trans ?_
   ·simp only[uY,anS,hcm]
    rw[aoY,xn hcW,vR];rfl
   rw[vg rfl]
   have eS:c*2^Br 128 c=FP.unSig (fN f) c:=by unfold FP.unSig;rw[if_pos hlt,hr]
   have eE:i64 (i64 (i64 (i64 (1-(FP.fE (fN f):Int))+128)-(FP.fP (fN f):Int))-((Br 128 c:Nat):Int))=FP.unExp (fN f) c:=by
    unfold FP.unExp at hx ⊢;rw[if_pos hlt] at hx ⊢
    rw[JM (n:=1-(FP.fE (fN f):Int)) (by omega) (by omega),JM (n:=1-(FP.fE (fN f):Int)+128) (by omega) (by omega),JM (n:=1-(FP.fE (fN f):Int)+128-(FP.fP (fN f):Int)) (by omega) (by omega),hr]
    exact JM hx.1 hx.2
   have e5:i64 ((Br 128 c:Nat):Int)=((Br 128 c:Nat):Int):=yG (by omega)
   rw[eS]
   simp only[uY,e0,e5,AX,zh,eE]
  ·rw[if_neg (by omega),if_neg (by omega),if_neg (by omega),vg rfl]
   simp only[uY,e0];rfl
open Go.RowKit
def JQ (P E m:Nat) (neg after:Bool) (ne e:Int) (up b:Nat):Nat×Nat :=
 if (E:Int)<e then(FP.overC P E m neg,20) else
 let tiny:=decide (ne<1-E)&&(!after||decide (e<1-E))
 if ne<1-E then
  let w:=FP.jam up (1-E-ne).toNat
  (FP.rdiv m neg w (2^(256-P)),if w%2^(256-P)=0 then 0 else if tiny then 24 else 16)
 else((ne-(1-E)).toNat*2^(P-1)+b,if up%2^(256-P)=0 then 0 else if tiny then 24 else 16)
theorem ao8 {P E m:Nat} {after neg:Bool} {exp:Int} {sig:Nat} (h:sig≠0):FP.goRound P E m after neg exp sig =
  JQ P E m neg after (exp-((255-Nat.log2 sig:Nat):Int)) (if FP.rdiv m neg (sig*2^(255-Nat.log2 sig)) (2^(256-P))=2^P then exp-((255-Nat.log2 sig:Nat):Int)+1 else exp-((255-Nat.log2 sig:Nat):Int)) (sig*2^(255-Nat.log2 sig)) (FP.rdiv m neg (sig*2^(255-Nat.log2 sig)) (2^(256-P))):=by
 unfold FP.goRound JQ
 rw[if_neg h]
theorem aeL {P E m:Nat} {neg after:Bool} {ne e:Int} {up b:Nat} (h:(E:Int)<e):JQ P E m neg after ne e up b=(FP.overC P E m neg,20):=by unfold JQ;rw[if_pos h]
theorem aeM {P E m:Nat} {neg after:Bool} {ne e:Int} {up b j:Nat} (h:¬ (E:Int)<e) (h2:ne<1-E) (hj:1-(E:Int)-ne=(j:Int)) :
  JQ P E m neg after ne e up b=(FP.rdiv m neg (FP.jam up j) (2^(256-P)),if FP.jam up j%2^(256-P)=0 then 0 else if (!after||decide (e<1-E)) then 24 else 16):=by
 unfold JQ;rw[if_neg h,if_pos h2,hj,zI,decide_eq_true h2,Bool.true_and]
theorem aeN {P E m:Nat} {neg after:Bool} {ne e:Int} {up b k:Nat} (h:¬ (E:Int)<e) (h2:¬ ne<1-E) (hk:ne-(1-(E:Int))=(k:Int)) :
  JQ P E m neg after ne e up b=(k*2^(P-1)+b,if up%2^(256-P)=0 then 0 else 16):=by
 unfold JQ;rw[if_neg h,if_neg h2,hk,zI,decide_eq_false h2,Bool.false_and];rfl
theorem aeO {f b:Nat} {neg:Bool} (hf:f<4) (h:b≤2^(FP.fP f-1)):CY f neg (if i64 0=0∧b.testBit (FP.fP f-1)=true then 1 else i64 0) b=FP.mk f neg b:=by
 obtain⟨n1,n2,n3,n4,n5,n6,n7,n8,n9⟩:=FP.fmtN hf
 have hp:=FP.two_pow_pos (FP.fP f-1)
 have e0:i64 0=0:=by decide
 rw[e0,Nat.testBit_eq_decide_div_mod_eq]
 rcases Nat.eq_or_lt_of_le h with h|h
 ·subst h
  rw[if_pos ⟨rfl,by rw[Nat.div_self hp];rfl⟩]
  unfold CY
  rw[if_neg (by decide),show(1:Int).toNat=1 from rfl,Nat.mod_self,Nat.add_zero,Nat.mod_eq_of_lt (by omega),Nat.one_mul]
 ·rw[if_neg (by rw[Nat.div_eq_of_lt h];decide)]
  unfold CY
  rw[if_neg (by decide),show(0:Int).toNat=0 from rfl,Nat.zero_mod,Nat.zero_mul,Nat.zero_add,Nat.mod_eq_of_lt h]
theorem aeP {f b k:Nat} {neg:Bool} (hf:f<4) (h1:2^(FP.fP f-1)≤b) (h2:b≤2^FP.fP f) (t:Nat) (ht:t=if b=2^FP.fP f then 2 else 1) (hk:k+t<2*FP.fE f+2) :
  CY f neg (if ((k+t:Nat):Int)=0∧b.testBit (FP.fP f-1)=true then 1 else((k+t:Nat):Int)) b=FP.mk f neg (k*2^(FP.fP f-1)+b):=by
 obtain⟨n1,n2,n3,n4,n5,n6,n7,n8,n9⟩:=FP.fmtN hf
 have hp:=FP.two_pow_pos (FP.fP f-1)
 have hh:=FP.half_pow n1
 have ht0:0<t:=by rw[ht];split<;>omega
 rw[if_neg (fun h=>by have:=h.1;omega)]
 unfold CY
 rw[if_neg (by omega),zI,Nat.mod_eq_of_lt (by omega)]
 congr 1
 by_cases hb:b=2^FP.fP f
 ·rw[if_pos hb] at ht;subst ht
  rw[hb,hh,Nat.mul_mod_left,Nat.add_mul];omega
 ·rw[if_neg hb] at ht;subst ht
  rw[Nat.mod_eq_sub_mod h1,Nat.mod_eq_of_lt (by omega),Nat.add_mul];omega
def Bu (e:Int):Int:=max (-1099511627776) (min e 1099511627776)
theorem GI (f m t n e a b c d:Int) (hf:fN f<4) (hm:u8 m≤4):yu [f,m,t,n,e,a,b,c,d] =
  oB (FP.mk (fN f) (vG n) (FP.roundE (FP.fP (fN f)) (FP.fE (fN f)) (u8 m).toNat (vG t) (vG n) (Bu (i64 e)) (nW a b c d)).1) ++ [(((FP.roundE (FP.fP (fN f)) (FP.fE (fN f)) (u8 m).toNat (vG t) (vG n) (Bu (i64 e)) (nW a b c d)).2:Nat):Int)]:=by
 obtain⟨n1,n2,n3,n4,n5,n6,n7,n8,n9⟩:=FP.fmtN hf
 have hf2:=(yh f).2 hf
 have hm0:=CW m
 have hS:=JI a b c d
 rw[← FP.goRound_eq n1 (by omega) n6 (vG t) (vG n) (Bu (i64 e)) (by rw[← BJ];exact hS)]
 rw[yu,Zn,wG]
 simp only[xe,wB,wC,xg,xh,wV,wW,zq,BR,CX,Dv,zo,vJ,Bool.not_eq_true',decide_eq_false_iff_not]
 rw[if_neg (by omega),wG]
 simp only[xe,wB,wC,xg,xh,wV,wW,zq,BR,OL,Dv,zo,vJ,Bool.not_eq_true',decide_eq_false_iff_not]
 rw[if_neg (by omega)]
 refine(ve (by simp only[uY,anT];exact aew _ _ _ _) (by rfl)).trans ?_
 rw[Ed,wG]
 simp only[xe,wB,wC,xg,xh,wV,wW,yI,vJ,decide_eq_true_iff]
 by_cases hz:nW a b c d=0
 ·rw[if_pos hz]
  refine(ve (by simp only[uY,anU];exact ZV _ _) (by rfl)).trans ?_
  rw[vH,if_pos hf,vJ,vg rfl,hz]
  simp only[uY];rfl
 rw[if_neg hz]
 rw[ao8 hz]
 have hlog:Nat.log2 (nW a b c d)<256:=(FP.log2_lt hz).2 (by rw[← BJ];exact hS)
 have hby:Br 256 (nW a b c d)=255-Nat.log2 (nW a b c d):=by rw[aeJ 256 _ hz];unfold FP.lenN;rw[if_neg hz];omega
 obtain⟨l1,l2⟩:=FP.log2_bounds hz
 have hby2:255-Nat.log2 (nW a b c d)≤255:=by omega
 have hup1:2^255≤nW a b c d*2^(255-Nat.log2 (nW a b c d)):=by
  have:=Nat.mul_le_mul_right (2^(255-Nat.log2 (nW a b c d))) l1
  rw[← Nat.pow_add,show Nat.log2 (nW a b c d)+(255-Nat.log2 (nW a b c d))=255 by omega] at this;exact this
 have hup2:nW a b c d*2^(255-Nat.log2 (nW a b c d))<2^256:=by
  have:=Nat.mul_lt_mul_of_pos_right l2 (FP.two_pow_pos (255-Nat.log2 (nW a b c d)))
  rw[← Nat.pow_add,show Nat.log2 (nW a b c d)+1+(255-Nat.log2 (nW a b c d))=256 by omega] at this;exact this
 refine(ve (r:=oW (nW a b c d*2^(255-Nat.log2 (nW a b c d))) ++ [((255-Nat.log2 (nW a b c d):Nat):Int)]) ?_ rfl).trans ?_
 ·simp only[uY,anV];rw[aoX,Ed,hby,yC];rfl
 generalize nW a b c d*2^(255-Nat.log2 (nW a b c d))=up at *
 generalize 255-Nat.log2 (nW a b c d)=sh at *
 have hupW:up<vL:=by rw[BJ];exact hup2
 have hclip : -1099511627776≤Bu (i64 e)∧Bu (i64 e)≤1099511627776:=by unfold Bu;omega
 have ecl:max (-1099511627776) (min (i64 e) 1099511627776)=Bu (i64 e):=rfl
 generalize Bu (i64 e)=cl at *
 have e5:i64 ((sh:Nat):Int)=((sh:Nat):Int):=yG (by omega)
 have eNe:i64 (cl-(sh:Int))=cl-(sh:Int):=wL (by omega) (by omega)
 generalize hne:cl-(sh:Int)=ne at *
 have hneb : -1099511628100≤ne∧ne≤1099511628100:=by omega
 have eLeast:i64 (1-(FP.fE (fN f):Int))=1-(FP.fE (fN f):Int):=JM (by omega) (by omega)
 refine(ve (by simp only[uY,adU];exact Iz _) (by rfl)).trans ?_
 refine(ve (by simp only[uY,adV];exact JO _) (by rfl)).trans ?_
 rw[vH]
 obtain⟨b1,b2⟩:=FP.raised_b n1 (by omega) hup1 hup2 (u8 m).toNat (vG n)
 have hbW:FP.rdiv (u8 m).toNat (vG n) up (2^(256-FP.fP (fN f)))<vF:=by
  rw[yn];exact Nat.lt_of_le_of_lt b2 (Nat.pow_lt_pow_right (by decide) (by omega))
 refine(ve (r:=oB (FP.rdiv (u8 m).toNat (vG n) up (2^(256-FP.fP (fN f)))) ++ [vw (decide (up%2^(256-FP.fP (fN f))≠0))]) ?_ rfl).trans ?_
 ·simp only[uY,QV,zh]
  rw[Lp _ _ _ _ _ _ _ (by rw[zh];omega) (by rw[zh];omega) (by rw[wS];exact hm),xP hupW,zh,zI,wS,vJ,vR];rfl
 have hh:=FP.half_pow n1
 have hH0:=FP.two_pow_pos (FP.fP (fN f)-1)
 have hHW:2^(FP.fP (fN f)-1)<vF:=by rw[yn];exact Nat.pow_lt_pow_right (by decide) (by omega)
 generalize hB:FP.rdiv (u8 m).toNat (vG n) up (2^(256-FP.fP (fN f)))=B at *
 refine(ve (r:=[vw (decide (B=2^FP.fP (fN f)))]) ?_ rfl).trans ?_
 ·simp only[uY,anW,zh]
  rw[Uq,xn hbW,zh,Qd,Nat.testBit_eq_decide_div_mod_eq]
  congr 2
  rw[decide_eq_decide]
  have hp:=FP.two_pow_pos (FP.fP (fN f))
  constructor
  ·intro h
   apply Classical.byContradiction;intro hne2
   rw[Nat.div_eq_of_lt (by omega)] at h;omega
  ·intro h;rw[h,Nat.div_self hp]
 rw[wG]
 simp only[xe,wB,wC,xg,xh,wV,wW,yC,vR,yI,vJ,decide_eq_true_iff]
 have stepO:∀ q:Int,vG q=vG n→Le [u8 f,u8 m,q]=oB (FP.mk (fN f) (vG n) (FP.overC (FP.fP (fN f)) (FP.fE (fN f)) (u8 m).toNat (vG n))) ++ [20]:=by
  intro q hq
  rw[ao7 _ _ _ (by rw[vH];exact hf) (by rw[wS];exact hm),vH,wS,hq]
 by_cases hb:B=2^FP.fP (fN f)
 ·rw[if_pos hb,if_pos hb]
  have eE:i64 (ne+1)=ne+1:=wL (by omega) (by omega)
  refine(ve (r:=[vw (decide ((FP.fE (fN f):Int)<(ne+1)))]) ?_ rfl).trans ?_
  ·simp only[uY,adW,AX,e5,ecl,hne,eNe,eE]
   rw[aeE,vH,decide_eq_true hf,Bool.true_and,eE]
  rw[wG]
  simp only[xe,wB,wC,xg,xh,wV,wW,yC,vR,yI,vJ,decide_eq_true_iff]
  by_cases ho:(FP.fE (fN f):Int)<(ne+1)
  ·rw[if_pos ho,aeL ho]
   refine(ve (by simp only[uY,adX];exact stepO _ (vJ _)) (by rfl)).trans ?_
   rw[vg rfl]
   (simp only[uY])<;>rfl
  rw[if_neg ho,wG]
  simp only[xe,wB,wC,xg,xh,wV,wW,yC,vR,zq,JK,JJ,Ec,zo,EL,CX,xI,AX,e5,eLeast,ecl,hne,eNe,vJ,decide_eq_true_iff]
  by_cases hlt:ne<1-(FP.fE (fN f):Int)
  ·rw[if_pos hlt]
   obtain⟨j,hj⟩:∃ j:Nat,1-(FP.fE (fN f):Int)-ne=(j:Int):=⟨(1-(FP.fE (fN f):Int)-ne).toNat,by omega⟩
   have hjam:=GH (k:=j) hupW
   have hb2:FP.rdiv (u8 m).toNat (vG n) (FP.jam up j) (2^(256-FP.fP (fN f)))≤2^(FP.fP (fN f)-1):=by
    rw[(FP.jam_rdiv (p:=FP.fP (fN f)) (j:=j) (by omega) up _ _).1]
    exact(FP.raised_down n1 (by omega) (by omega) hup2 _ _).2.2
   have hb2W:FP.rdiv (u8 m).toNat (vG n) (FP.jam up j) (2^(256-FP.fP (fN f)))<vF:=Nat.lt_of_le_of_lt hb2 hHW
   have ej:i64 (1-(FP.fE (fN f):Int)-ne)=(j:Int):=by rw[hj];exact wL (by omega) (by omega)
   have stepJ:BO [wd up 0,wd up 1,wd up 2,wd up 3,(j:Int)]=oW (FP.jam up j):=by
    rw[Rp,xP hupW,wL (by omega) (by omega),zI]
   have stepC:∀ q:Int,vG q=vG n→Du [wd (FP.jam up j) 0,wd (FP.jam up j) 1,wd (FP.jam up j) 2,wd (FP.jam up j) 3,(FP.fP (fN f):Int),u8 m,q]=oB (FP.rdiv (u8 m).toNat (vG n) (FP.jam up j) (2^(256-FP.fP (fN f)))) ++ [vw (decide (FP.jam up j%2^(256-FP.fP (fN f))≠0))]:=by
    intro q hq
    rw[Lp _ _ _ _ _ _ _ (by rw[zh];omega) (by rw[zh];omega) (by rw[wS];exact hm),xP hjam,zh,zI,wS,hq]
   have stepP:∀ q:Int,vG q=vG n→Gv [u8 f,q,0,wd (FP.rdiv (u8 m).toNat (vG n) (FP.jam up j) (2^(256-FP.fP (fN f)))) 1,wd (FP.rdiv (u8 m).toNat (vG n) (FP.jam up j) (2^(256-FP.fP (fN f)))) 0]=oB (FP.mk (fN f) (vG n) (FP.rdiv (u8 m).toNat (vG n) (FP.jam up j) (2^(256-FP.fP (fN f))))):=by
    intro q hq
    rw[Uy _ _ _ _ _ (by rw[vH];exact hf),vH,xn hb2W,hq,aeO hf hb2]
   rw[aeM ho hlt hj,wG]
   simp only[xe,wB,wC,xg,xh,wV,wW,BR,yI,vJ]
   cases hA:vG t with
   | false =>
    rw[if_pos (by decide)]
    refine(ve (by simp only[uY,Ua,AX,e5,eLeast,ecl,hne,eNe,ej];exact stepJ) (by rfl)).trans ?_
    refine(ve (by simp only[uY,QV,zh];exact stepC _ (vJ _)) (by rfl)).trans ?_
    refine(ve (by simp only[uY,Oy];exact stepP _ (vJ _)) (by rfl)).trans ?_
    rw[wG]
    simp only[xe,wB,wC,xg,xh,wV,wW,yC,vR,yI,vJ,decide_eq_true_iff]
    by_cases hz2:FP.jam up j%2^(256-FP.fP (fN f))=0
    ·rw[if_neg (fun h=>h hz2),vg rfl,if_pos hz2]
     (simp only[uY])<;>rfl
    ·rw[if_pos hz2,if_neg hz2]
     rw[vg rfl]
     (simp only[uY])<;>rfl
   | true =>
    rw[if_neg (by decide)]
    refine(ve (by simp only[uY,Ua,AX,e5,eLeast,ecl,hne,eNe,ej];exact stepJ) (by rfl)).trans ?_
    refine(ve (by simp only[uY,QV,zh];exact stepC _ (vJ _)) (by rfl)).trans ?_
    refine(ve (by simp only[uY,Oy];exact stepP _ (vJ _)) (by rfl)).trans ?_
    rw[wG]
    simp only[xe,wB,wC,xg,xh,wV,wW,yC,vR,yI,vJ,decide_eq_true_iff]
    by_cases hz2:FP.jam up j%2^(256-FP.fP (fN f))=0
    ·rw[if_neg (fun h=>h hz2),vg rfl,if_pos hz2]
     (simp only[uY])<;>rfl
    ·rw[if_pos hz2,if_neg hz2]
     rw[wG]
     simp only[xe,wB,wC,xg,xh,wV,wW,yC,vR,zq,JK,JJ,Ec,zo,aen,EL,CX,xI,AX,e5,eLeast,ecl,hne,eNe,eE,vJ,decide_eq_true_iff]
     by_cases hx:(ne+1)<1-(FP.fE (fN f):Int)
     ·rw[if_pos hx,vg rfl,decide_eq_true hx]
      (simp only[uY])<;>rfl
     ·rw[if_neg hx,vg rfl,decide_eq_false hx]
      (simp only[uY])<;>rfl
  ·rw[if_neg hlt]
   obtain⟨k,hk⟩:∃ k:Nat,ne-(1-(FP.fE (fN f):Int))=(k:Int):=⟨(ne-(1-(FP.fE (fN f):Int))).toNat,by omega⟩
   rw[aeN ho hlt hk]
   have efield:i64 (i64 (ne+1-(1-(FP.fE (fN f):Int)))+1)=((k+2:Nat):Int):=by rw[wL (n:=ne+1-(1-(FP.fE (fN f):Int))) (by omega) (by omega),wL (by omega) (by omega)];omega
   have ek:i64 ((k+2:Nat):Int)=((k+2:Nat):Int):=yG (by omega)
   have stepP:∀ q:Int,vG q=vG n→Gv [u8 f,q,((k+2:Nat):Int),wd B 1,wd B 0]=oB (FP.mk (fN f) (vG n) (k*2^(FP.fP (fN f)-1)+B)):=by
    intro q hq
    rw[Uy _ _ _ _ _ (by rw[vH];exact hf),vH,xn hbW,hq,ek,aeP hf b1 b2 2 (by rw[if_pos hb]) (by omega)]
   refine(ve (by simp only[uY,Oy,AX,e5,eLeast,ecl,hne,eNe,eE,efield];exact stepP _ (vJ _)) (by rfl)).trans ?_
   rw[wG]
   simp only[xe,wB,wC,xg,xh,wV,wW,yC,vR,yI,vJ,decide_eq_true_iff]
   by_cases hz2:up%2^(256-FP.fP (fN f))=0
   ·rw[if_neg (fun h=>h hz2),vg rfl,if_pos hz2]
    (simp only[uY])<;>rfl
   ·rw[if_pos hz2,if_neg hz2,vg rfl]
    (simp only[uY])<;>rfl
 ·rw[if_neg hb,if_neg hb]
  refine(ve (r:=[vw (decide ((FP.fE (fN f):Int)<ne))]) ?_ rfl).trans ?_
  ·simp only[uY,adW,AX,e5,ecl,hne,eNe]
   rw[aeE,vH,decide_eq_true hf,Bool.true_and,eNe]
  rw[wG]
  simp only[xe,wB,wC,xg,xh,wV,wW,yC,vR,yI,vJ,decide_eq_true_iff]
  by_cases ho:(FP.fE (fN f):Int)<ne
  ·rw[if_pos ho,aeL ho]
   refine(ve (by simp only[uY,adX];exact stepO _ (vJ _)) (by rfl)).trans ?_
   rw[vg rfl]
   (simp only[uY])<;>rfl
  rw[if_neg ho,wG]
  simp only[xe,wB,wC,xg,xh,wV,wW,yC,vR,zq,JK,JJ,Ec,zo,EL,CX,xI,AX,e5,eLeast,ecl,hne,eNe,vJ,decide_eq_true_iff]
  by_cases hlt:ne<1-(FP.fE (fN f):Int)
  ·rw[if_pos hlt]
   obtain⟨j,hj⟩:∃ j:Nat,1-(FP.fE (fN f):Int)-ne=(j:Int):=⟨(1-(FP.fE (fN f):Int)-ne).toNat,by omega⟩
   have hjam:=GH (k:=j) hupW
   have hb2:FP.rdiv (u8 m).toNat (vG n) (FP.jam up j) (2^(256-FP.fP (fN f)))≤2^(FP.fP (fN f)-1):=by
    rw[(FP.jam_rdiv (p:=FP.fP (fN f)) (j:=j) (by omega) up _ _).1]
    exact(FP.raised_down n1 (by omega) (by omega) hup2 _ _).2.2
   have hb2W:FP.rdiv (u8 m).toNat (vG n) (FP.jam up j) (2^(256-FP.fP (fN f)))<vF:=Nat.lt_of_le_of_lt hb2 hHW
   have ej:i64 (1-(FP.fE (fN f):Int)-ne)=(j:Int):=by rw[hj];exact wL (by omega) (by omega)
   have stepJ:BO [wd up 0,wd up 1,wd up 2,wd up 3,(j:Int)]=oW (FP.jam up j):=by
    rw[Rp,xP hupW,wL (by omega) (by omega),zI]
   have stepC:∀ q:Int,vG q=vG n→Du [wd (FP.jam up j) 0,wd (FP.jam up j) 1,wd (FP.jam up j) 2,wd (FP.jam up j) 3,(FP.fP (fN f):Int),u8 m,q]=oB (FP.rdiv (u8 m).toNat (vG n) (FP.jam up j) (2^(256-FP.fP (fN f)))) ++ [vw (decide (FP.jam up j%2^(256-FP.fP (fN f))≠0))]:=by
    intro q hq
    rw[Lp _ _ _ _ _ _ _ (by rw[zh];omega) (by rw[zh];omega) (by rw[wS];exact hm),xP hjam,zh,zI,wS,hq]
   have stepP:∀ q:Int,vG q=vG n→Gv [u8 f,q,0,wd (FP.rdiv (u8 m).toNat (vG n) (FP.jam up j) (2^(256-FP.fP (fN f)))) 1,wd (FP.rdiv (u8 m).toNat (vG n) (FP.jam up j) (2^(256-FP.fP (fN f)))) 0]=oB (FP.mk (fN f) (vG n) (FP.rdiv (u8 m).toNat (vG n) (FP.jam up j) (2^(256-FP.fP (fN f))))):=by
    intro q hq
    rw[Uy _ _ _ _ _ (by rw[vH];exact hf),vH,xn hb2W,hq,aeO hf hb2]
   rw[aeM ho hlt hj,wG]
   simp only[xe,wB,wC,xg,xh,wV,wW,BR,yI,vJ]
   cases hA:vG t with
   | false =>
    rw[if_pos (by decide)]
    refine(ve (by simp only[uY,Ua,AX,e5,eLeast,ecl,hne,eNe,ej];exact stepJ) (by rfl)).trans ?_
    refine(ve (by simp only[uY,QV,zh];exact stepC _ (vJ _)) (by rfl)).trans ?_
    refine(ve (by simp only[uY,Oy];exact stepP _ (vJ _)) (by rfl)).trans ?_
    rw[wG]
    simp only[xe,wB,wC,xg,xh,wV,wW,yC,vR,yI,vJ,decide_eq_true_iff]
    by_cases hz2:FP.jam up j%2^(256-FP.fP (fN f))=0
    ·rw[if_neg (fun h=>h hz2),vg rfl,if_pos hz2]
     (simp only[uY])<;>rfl
    ·rw[if_pos hz2,if_neg hz2]
     rw[vg rfl]
     (simp only[uY])<;>rfl
   | true =>
    rw[if_neg (by decide)]
    refine(ve (by simp only[uY,Ua,AX,e5,eLeast,ecl,hne,eNe,ej];exact stepJ) (by rfl)).trans ?_
    refine(ve (by simp only[uY,QV,zh];exact stepC _ (vJ _)) (by rfl)).trans ?_
    refine(ve (by simp only[uY,Oy];exact stepP _ (vJ _)) (by rfl)).trans ?_
    rw[wG]
    simp only[xe,wB,wC,xg,xh,wV,wW,yC,vR,yI,vJ,decide_eq_true_iff]
    by_cases hz2:FP.jam up j%2^(256-FP.fP (fN f))=0
    ·rw[if_neg (fun h=>h hz2),vg rfl,if_pos hz2]
     (simp only[uY])<;>rfl
    ·rw[if_pos hz2,if_neg hz2]
     rw[vg rfl,decide_eq_true hlt]
     (simp only[uY])<;>rfl
  ·rw[if_neg hlt]
   obtain⟨k,hk⟩:∃ k:Nat,ne-(1-(FP.fE (fN f):Int))=(k:Int):=⟨(ne-(1-(FP.fE (fN f):Int))).toNat,by omega⟩
   rw[aeN ho hlt hk]
   have efield:i64 (i64 (ne-(1-(FP.fE (fN f):Int)))+1)=((k+1:Nat):Int):=by rw[wL (n:=ne-(1-(FP.fE (fN f):Int))) (by omega) (by omega),wL (by omega) (by omega)];omega
   have ek:i64 ((k+1:Nat):Int)=((k+1:Nat):Int):=yG (by omega)
   have stepP:∀ q:Int,vG q=vG n→Gv [u8 f,q,((k+1:Nat):Int),wd B 1,wd B 0]=oB (FP.mk (fN f) (vG n) (k*2^(FP.fP (fN f)-1)+B)):=by
    intro q hq
    rw[Uy _ _ _ _ _ (by rw[vH];exact hf),vH,xn hbW,hq,ek,aeP hf b1 b2 1 (by rw[if_neg hb]) (by omega)]
   refine(ve (by simp only[uY,Oy,AX,e5,eLeast,ecl,hne,eNe,efield];exact stepP _ (vJ _)) (by rfl)).trans ?_
   rw[wG]
   simp only[xe,wB,wC,xg,xh,wV,wW,yC,vR,yI,vJ,decide_eq_true_iff]
   by_cases hz2:up%2^(256-FP.fP (fN f))=0
   ·rw[if_neg (fun h=>h hz2),vg rfl,if_pos hz2]
    (simp only[uY])<;>rfl
   ·rw[if_pos hz2,if_neg hz2,vg rfl]
    (simp only[uY])<;>rfl
open Go.RowKit
theorem aeQ (a b c d e f g h:Int):EF [a,b,c,d,e,f,g,h]=Jy (nW a b c d+nW e f g h) (Nat.ble vL (nW a b c d+nW e f g h)):=rfl
theorem Rs (s:Nat) (b:Bool):Jy s b = [wd s 0,wd s 1,wd s 2,wd s 3,vw b]:=rfl
theorem aeR {p:Nat} (h:p<vF):nW 0 (wd p 0) (wd p 1) 0=p*vC:=by
 have:=xn h
 unfold nB at this
 rw[BQ,BQ] at this
 unfold nW
 rw[show u64 0=0 by decide,BQ,BQ,show(0:Int).toNat=0 from rfl,Nat.mul_zero,Nat.add_zero,Nat.zero_add,Nat.mul_comm vC]
 congr 1
 rw[Nat.mul_comm vC,Nat.add_comm];exact this
theorem Uz {a b:Nat} (ha:a<vC) (hb:b<vC):a*b<vF:=Nat.mul_lt_mul'' ha hb
theorem ao9 (a1 a0 b1 b0:Nat):(a1*vC+a0)*(b1*vC+b0)=a1*b1*vF+a0*b0+a1*b0*vC+a0*b1*vC:=by
 have e:vF=vC*vC:=vF.eq_1
 rw[e]
 generalize vC=w
 rw[Nat.add_mul,Nat.mul_add,Nat.mul_add]
 have h1:a1*w*(b1*w)=a1*b1*(w*w):=by ac_rfl
 have h2:a1*w*b0=a1*b0*w:=by ac_rfl
 have h3:a0*(b1*w)=a0*b1*w:=by ac_rfl
 rw[h1,h2,h3];omega
theorem aeS (a b c d:Int):K9 [a,b,c,d]=oW (nB a b*nB c d):=by
 refine Eq.trans ?_ (aeC _)
 have ha:=(yZ a).2;have hb:=(yZ b).2;have hc:=(yZ c).2;have hd:=(yZ d).2
 have hab:=Gz a b;have hcd:=Gz c d
 have hprod:nB a b*nB c d<vL:=by
  have:=Nat.mul_lt_mul'' hab hcd
  rw[Lm];exact this
 have e0:nB a b*nB c d=(u64 a).toNat*(u64 c).toNat*vF+(u64 b).toNat*(u64 d).toNat+(u64 a).toNat*(u64 d).toNat*vC+(u64 b).toNat*(u64 c).toNat*vC:=ao9 _ _ _ _
 rw[e0] at hprod ⊢
 rw[K9,YT]
 refine(ve (by simp only[uY,T9];exact Ur _ _) (by rfl)).trans ?_
 refine(ve (by simp only[uY,T9];exact Ur _ _) (by rfl)).trans ?_
 rw[zV,zV,zV,zV]
 have l11:=Uz ha hc;have l00:=Uz hb hd;have l10:=Uz ha hd;have l01:=Uz hb hc
 generalize (u64 a).toNat*(u64 c).toNat=p11 at *
 generalize (u64 b).toNat*(u64 d).toNat=p00 at *
 refine(ve (r:=oW (p11*vF+p00)) ?_ rfl).trans ?_
 ·simp only[uY,adJ];rw[OO,xn l11,xn l00,yC]
 refine(ve (by simp only[uY,T9];exact Ur _ _) (by rfl)).trans ?_
 refine(ve (by simp only[uY,T9];exact Ur _ _) (by rfl)).trans ?_
 rw[zV,zV,zV,zV]
 generalize (u64 a).toNat*(u64 d).toNat=p10 at *
 generalize (u64 b).toNat*(u64 c).toNat=p01 at *
 refine(ve (r:=Jy (p11*vF+p00+p10*vC) (Nat.ble vL (p11*vF+p00+p10*vC))) ?_ rfl).trans ?_
 ·simp only[uY,adK];rw[aeQ,xP (by omega),aeR l10]
 refine(ve (r:=Jy (p11*vF+p00+p10*vC+p01*vC) (Nat.ble vL (p11*vF+p00+p10*vC+p01*vC))) ?_ rfl).trans ?_
 ·simp only[uY,Rs,adK];rw[aeQ,xP (by omega),aeR l01,Rs]
 rw[vg rfl]
 simp only[uY,Rs]
 rfl
def zt (x y:Nat):Bool:=(decide (x=0)||decide (y=0))&&(decide (x=3)||decide (y=3))
theorem aeT (n c e h l n' c' e' h' l':Int):Iq [n,c,e,h,l,n',c',e',h',l'] = [vw (zt (u8 c).toNat (u8 c').toNat)]:=by
 have h1:=CW c;have h2:=CW c'
 rw[Iq,YO,wG]
 simp only[uY,beq_iff_eq,decide_eq_true_iff]
 unfold zt
 obtain⟨i,hi⟩:∃ i:Nat,u8 c=(i:Int):=⟨(u8 c).toNat,by omega⟩
 obtain⟨j,hj⟩:∃ j:Nat,u8 c'=(j:Int):=⟨(u8 c').toNat,by omega⟩
 rw[hi,hj,zI,zI]
 by_cases hz:i=0∨j=0
 ·have hz2:(decide (i=0)||decide (j=0))=true:=by rw[Bool.or_eq_true,decide_eq_true_iff,decide_eq_true_iff];exact hz
  rw[if_pos (by rcases hz with h|h<;>subst h<;>simp<;>(try split)<;>omega),vg rfl,hz2,Bool.true_and]
  simp only[uY,beq_iff_eq,hi,hj]
  congr 2
  rw[Bool.eq_iff_iff,decide_eq_true_iff,Bool.or_eq_true,decide_eq_true_iff,decide_eq_true_iff]
  split
  ·omega
  ·split<;>omega
 ·have hz2:(decide (i=0)||decide (j=0))=false:=by
   cases hb:(decide (i=0)||decide (j=0)) with
   | false=>rfl
   | true=>rw[Bool.or_eq_true,decide_eq_true_iff,decide_eq_true_iff] at hb;exact absurd hb hz
  rw[if_neg (by rw[if_neg (by omega),if_neg (by omega)];decide),vg rfl,hz2,Bool.false_and];rfl
open Go.RowKit
theorem aeU (n c e h l n' c' e' h' l':Int):Iy [n,c,e,h,l,n',c',e',h',l'] =
  if (u8 c=1∨u8 c=2)∧(u8 c'=1∨u8 c'=2) then [i64 (i64 (i64 e+i64 e')+1)]++oW (nB h l*nB h' l') else [0,0,0,0,0]:=by
 have hm:K9 [u64 h,u64 l,u64 h',u64 l']=oW (nB h l*nB h' l'):=by rw[aeS,vM,vM]
 have go:∀ L:List Int,L = [n,c,e,h,l,n',c',e',h',l']→vK E2 207 (List.map (X.ev L) [(.var kU 3),(.var kU 4),(.var kU 8),(.var kU 9)])=oW (nB h l*nB h' l'):=by
  intro L hL;subst hL
  rw[am1,← hm]
  simp only[uY]
 have fin:∀ L:List Int,L = [n,c,e,h,l,n',c',e',h',l']→vU (vK E2) Iw (.leaf (.tup [(.int .i64 (.bin .add .i64 (.bin .add .i64 (.var kI 2) (.var kI 7)) (.lit 1))),(.agg [(.int .u64 (.var kU 10)),(.int .u64 (.var kU 11)),(.int .u64 (.var kU 12)),(.int .u64 (.var kU 13))])])) (L++oW (nB h l*nB h' l')) = [i64 (i64 (i64 e+i64 e')+1)]++oW (nB h l*nB h' l'):=by
  intro L hL;subst hL
  rw[vg rfl]
  simp only[uY]
 have zer:∀ L:List Int,vU (vK E2) Iw (.leaf (.tup [(.int .i64 (.lit 0)),(.agg [(.int .u64 (.lit 0)),(.int .u64 (.lit 0)),(.int .u64 (.lit 0)),(.int .u64 (.lit 0))])])) L = [0,0,0,0,0]:=by
  intro L;rw[vg rfl];rfl
 rw[Iy,Y6]
 simp only[wG,xe,wB,wC,xg,xh,wV,wW,zq,Dv,zo,aem,vJ,bne_iff_ne,ne_eq,zer]
 have call:vU (vK E2) Iw (.call 207 [(.var kU 3),(.var kU 4),(.var kU 8),(.var kU 9)] 10 4 (.leaf (.tup [(.int .i64 (.bin .add .i64 (.bin .add .i64 (.var kI 2) (.var kI 7)) (.lit 1))),(.agg [(.int .u64 (.var kU 10)),(.int .u64 (.var kU 11)),(.int .u64 (.var kU 12)),(.int .u64 (.var kU 13))])]))) [n,c,e,h,l,n',c',e',h',l'] = [i64 (i64 (i64 e+i64 e')+1)]++oW (nB h l*nB h' l') :=
  (ve (go _ rfl) rfl).trans (fin _ rfl)
 rw[call]
 by_cases a1:u8 c=1
 ·rw[if_neg (fun h=>h a1)]
  by_cases b1:u8 c'=1
  ·rw[if_neg (fun h=>h b1),if_pos ⟨.inl a1,.inl b1⟩];rfl
  ·rw[if_pos b1]
   by_cases b2:u8 c'=2
   ·rw[if_neg (fun h=>h b2),if_pos ⟨.inl a1,.inr b2⟩];rfl
   ·rw[if_pos b2,if_neg (fun h=>h.2.elim b1 b2)]
 ·rw[if_pos a1]
  by_cases a2:u8 c=2
  ·rw[if_neg (fun h=>h a2)]
   by_cases b1:u8 c'=1
   ·rw[if_neg (fun h=>h b1),if_pos ⟨.inr a2,.inl b1⟩];rfl
   ·rw[if_pos b1]
    by_cases b2:u8 c'=2
    ·rw[if_neg (fun h=>h b2),if_pos ⟨.inr a2,.inr b2⟩];rfl
    ·rw[if_pos b2,if_neg (fun h=>h.2.elim b1 b2)]
  ·rw[if_pos a2,if_neg (fun h=>h.1.elim a1 a2)]
theorem apa (x i:Nat):x|||2^i=if x.testBit i then x else x+2^i:=by
 by_cases h:x.testBit i
 ·rw[if_pos h]
  apply Nat.eq_of_testBit_eq
  intro k
  rw[Nat.testBit_or,Nat.testBit_two_pow]
  by_cases hk:i=k
  ·subst hk;simp[h]
  ·simp[hk]
 ·rw[if_neg h]
  have h0:x/2^i%2=0:=by
   rw[Nat.testBit_eq_decide_div_mod_eq] at h
   simp at h;exact h
  have hp:=FP.two_pow_pos i
  have hx:x=2^(i+1)*(x/2^(i+1))+x%2^i:=by
   have e1:=Nat.div_add_mod x (2^(i+1))
   have e2:x%2^(i+1)=x%2^i+2^i*(x/2^i%2):=by rw[Nat.pow_succ,Nat.mod_mul]
   rw[e2,h0] at e1;omega
  have hr:x%2^i<2^i:=Nat.mod_lt _ hp
  generalize x/2^(i+1)=q at *
  generalize x%2^i=r at *
  have hr2:r<2^(i+1):=by rw[Nat.pow_succ];omega
  have hr3:2^i+r<2^(i+1):=by rw[Nat.pow_succ];omega
  rw[hx,show 2^(i+1)*q+r+2^i=2^(i+1)*q+(2^i+r) by omega,Nat.two_pow_add_eq_or_of_lt hr2,Nat.two_pow_add_eq_or_of_lt hr3]
  have h3:2^i+r=2^i|||r:=by
   have:=Nat.two_pow_add_eq_or_of_lt hr 1
   rw[Nat.mul_one] at this;exact this
  rw[h3,Nat.or_assoc,Nat.or_comm r]
theorem Rt (x y i:Nat):vX .or .u64 (wd x i) (wd y i)=wd (x|||y) i:=by
 rw[y9,y9,Q9 _ _ (Nat.mod_lt _ yE) (Nat.mod_lt _ yE),y9]
 congr 1
 apply Nat.eq_of_testBit_eq
 intro k
 rw[Nat.testBit_or,Lj,Lj,Lj,Nat.testBit_or]
 cases decide (k<64)<;>simp
def EO (f c:Nat):Nat:=if FP.clsC f c=5 then c+2^(FP.fP f-2) else c
theorem Ls {f c:Nat} (hf:f<4):(FP.clsC f c=4↔FP.inf f+2^(FP.fP f-2)≤c)∧(FP.clsC f c=5↔FP.inf f<c∧c<FP.inf f+2^(FP.fP f-2)):=by
 have h:=EN hf
 have hp:=FP.two_pow_pos (FP.fP f-2)
 have hp1:=FP.two_pow_pos (FP.fP f-1)
 unfold FP.clsC
 by_cases h0:c=0
 ·rw[if_pos h0];omega
 rw[if_neg h0]
 by_cases h1:c<2^(FP.fP f-1)
 ·rw[if_pos h1];omega
 rw[if_neg h1]
 by_cases h2:c<FP.inf f
 ·rw[if_pos h2];omega
 rw[if_neg h2]
 by_cases h3:c=FP.inf f
 ·rw[if_pos h3];omega
 rw[if_neg h3]
 by_cases h4:FP.inf f+2^(FP.fP f-2)≤c
 ·rw[if_pos h4];omega
 ·rw[if_neg h4];omega
theorem apb {f c:Nat} (hf:f<4) (hc:c<2^(FP.fW f-1)) (hn:FP.inf f<c) (neg:Bool):(FP.mk f neg c).testBit (FP.fP f-2)=decide (FP.inf f+2^(FP.fP f-2)≤c):=by
 obtain⟨n1,n2,n3,n4,n5,n6,n7,n8,n9⟩:=FP.fmtN hf
 obtain⟨i1,i2,i3,i4⟩:=EN hf
 have htop:=FP.inf_top hf
 have hp:=FP.two_pow_pos (FP.fP f-2)
 have hp1:=FP.two_pow_pos (FP.fP f-1)
 have hW:2^(FP.fW f-1)=2^(FP.fP f-1)*2^(FP.fW f-FP.fP f):=by rw[← Nat.pow_add];congr 1;omega
 have hinf:FP.inf f=2^(FP.fP f-1)*(2*FP.fE f+1):=by unfold FP.inf FP.infC;rw[Nat.mul_comm]
 have hr:c=FP.inf f+c%2^(FP.fP f-1):=by
  have h1:c%2^(FP.fP f-1)=c-FP.inf f:=by
   obtain⟨r,rfl⟩:∃ r,c=FP.inf f+r:=⟨c-FP.inf f,by omega⟩
   rw[hinf,Nat.mul_add_mod,Nat.mod_eq_of_lt (by omega)];omega
  omega
 rw[Nat.testBit_eq_decide_div_mod_eq,decide_eq_decide]
 have key:FP.mk f neg c/2^(FP.fP f-2)%2=c%2^(FP.fP f-1)/2^(FP.fP f-2)%2:=by
  have e1:FP.mk f neg c%2^(FP.fP f-1)=c%2^(FP.fP f-1):=by
   unfold FP.mk
   rw[hW,show neg.toNat*(2^(FP.fP f-1)*2^(FP.fW f-FP.fP f))=2^(FP.fP f-1)*(neg.toNat*2^(FP.fW f-FP.fP f)) by ac_rfl,Nat.add_mul_mod_self_left]
  rw[← e1,i4,Nat.mul_comm 2,Nat.mod_mul_right_div_self,Nat.mod_mod]
 rw[key]
 exact aeI hp i4 hr (Nat.mod_lt _ hp1)
theorem apc (f c d:Nat) (neg:Bool):FP.mk f neg (c+d)=FP.mk f neg c+d:=by unfold FP.mk;omega
theorem UA (f a b:Int) (hf:fN f<4) (hn:4≤uZ (fN f) (nB a b)):Fz [f,a,b]=oB (FP.mk (fN f) (FP.sgn (fN f) (nB a b)) (EO (fN f) (FP.cod (fN f) (nB a b)))):=by
 refine Eq.trans ?_ (IA _)
 obtain⟨n1,n2,n3,n4,n5,n6,n7,n8,n9⟩:=FP.fmtN hf
 have hcl:=FP.cod_lt (fN f) (nB a b)
 have hcut:=FP.mk_cut hf (nB a b)
 have hlt:=FP.mk_lt hf (FP.sgn (fN f) (nB a b)) hcl
 have hW:FP.mk (fN f) (FP.sgn (fN f) (nB a b)) (FP.cod (fN f) (nB a b))<vF:=Nat.lt_of_lt_of_le hlt (GD (by omega))
 rw[Fz,Zq]
 refine(ve (r:=oB (FP.mk (fN f) (FP.sgn (fN f) (nB a b)) (FP.cod (fN f) (nB a b)))) ?_ rfl).trans ?_
 ·simp only[uY,anZ];rw[Ro,vH,vM,hcut,vR]
 have hcls:uZ (fN f) (nB a b)=FP.clsC (fN f) (FP.cod (fN f) (nB a b)):=by unfold uZ FP.cls;rw[if_pos hf]
 rw[hcls] at hn
 generalize FP.sgn (fN f) (nB a b)=s at *
 generalize FP.cod (fN f) (nB a b)=c at *
 have hc2:uZ (fN f) (FP.mk (fN f) s c)=FP.clsC (fN f) c:=by unfold uZ FP.cls;rw[if_pos hf,FP.cod_mk s hcl]
 refine(ve (r:=[1]) ?_ rfl).trans ?_
 ·simp only[uY,an0];rw[Bj,vH,xn hW,hc2,decide_eq_true hn];rfl
 rw[wG]
 simp only[xe,wB,wC,xg,xh,wV,wW,vR,yI,show vG 1=true from rfl,show vG (vw true)=true from rfl]
 rw[if_pos (by trivial)]
 refine(ve (by simp only[uY,an1];exact Iz _) (by rfl)).trans ?_
 rw[vH]
 have eP:i64 ((FP.fP (fN f):Int)-2)=((FP.fP (fN f)-2:Nat):Int):=Ef (b:=2) (by omega) (by omega)
 have hK:1*2^(FP.fP (fN f)-2)<vF:=by
  rw[Nat.one_mul,yn];exact Nat.pow_lt_pow_right (by decide) (by omega)
 have l1:Aj [0,1,((FP.fP (fN f)-2:Nat):Int)]=oB (1*2^(FP.fP (fN f)-2)):=by
  have:=GG 1 (k:=FP.fP (fN f)-2) (by decide) (by omega) hK
  rw[EM.1,EM.2] at this;exact this
 refine(ve (by simp only[uY,an2,zh,eP];exact l1) (by rfl)).trans ?_
 rw[vg rfl]
 simp only[uY,Rt,Nat.one_mul]
 have hnan:FP.inf (fN f)<c:=FP.clsC_nan.1 hn
 obtain⟨q4,q5⟩:=Ls (c:=c) hf
 have hor:FP.mk (fN f) s c|||2^(FP.fP (fN f)-2)=FP.mk (fN f) s (EO (fN f) c):=by
  rw[apa,apb hf hcl hnan]
  unfold EO
  by_cases h:FP.inf (fN f)+2^(FP.fP (fN f)-2)≤c
  ·rw[decide_eq_true h,if_pos rfl,if_neg (fun h5=>by have:=q5.1 h5;omega)]
  ·rw[decide_eq_false h,if_neg (by decide),if_pos (q5.2 ⟨hnan,by omega⟩),apc]
 rw[hor]
 rfl
def Bv (f a b:Nat):Nat:=if uZ f a=5∨uZ f b=5 then 1 else 0
def xz (f b:Nat):Nat:=FP.mk f (FP.sgn f b) (EO f (FP.cod f b))
def dfl (f:Nat):Nat:=FP.mk f false (FP.inf f+2^(FP.fP f-2))
def IC (f m:Nat) (after:Bool) (a b:Nat):Nat×Nat :=
 if 4≤uZ f a then(xz f a,Bv f a b) else if 4≤uZ f b then(xz f b,Bv f a b)
 else if zt (uZ f a) (uZ f b)=true then(dfl f,1)
 else if uZ f a=3∨uZ f b=3 then(FP.mk f (FP.sgn f a != FP.sgn f b) (FP.inf f),0)
 else(FP.mk f (FP.sgn f a != FP.sgn f b) (FP.mulC f m after (FP.sgn f a != FP.sgn f b) (FP.cod f a) (FP.cod f b)).1,(FP.mulC f m after (FP.sgn f a != FP.sgn f b) (FP.cod f a) (FP.cod f b)).2)
def oR (p:Nat×Nat):List Int:=oB p.1 ++ [(p.2:Int)]
theorem Eg (n k:Nat):oR (n,k) = [wd n 1,wd n 0,(k:Int)]:=by unfold oR;rw[vR];rfl
theorem yJ {f b:Nat} : -17000≤vQ f b∧vQ f b≤17000:=by
 unfold vQ
 split
 ·rename_i h
  have hf:f<4:=by
   apply Classical.byContradiction;intro hf
   unfold uZ at h;rw[if_neg hf] at h;omega
  unfold uZ at h;rw[if_pos hf] at h
  refine FP.un_exp hf (FP.clsC_fin.1 ?_)
  unfold FP.cls at h;omega
 ·omega
theorem Lt {x:Int} (h : -1000000≤x) (h2:x≤1000000):Bu x=x:=by unfold Bu;omega
theorem Bw {f b:Nat} (hf:f<4) (h:uZ f b<3):FP.cod f b<FP.inf f∧(uZ f b=0↔FP.cod f b=0)∧((uZ f b=1∨uZ f b=2)↔FP.cod f b≠0):=by
 unfold uZ at *
 rw[if_pos hf] at *
 unfold FP.cls at *
 have h1:=FP.clsC_fin.1 h
 have h2:FP.clsC f (FP.cod f b)=0↔FP.cod f b=0:=by
  unfold FP.clsC
  by_cases h0:FP.cod f b=0
  ·rw[if_pos h0];omega
  ·rw[if_neg h0]
   by_cases h3:FP.cod f b<2^(FP.fP f-1)
   ·rw[if_pos h3];omega
   ·rw[if_neg h3,if_pos h1];omega
 exact⟨h1,h2,by omega⟩
theorem apd {f m a b:Nat} {after neg:Bool} (hf:f<4) (ha:uZ f a<3) (hb:uZ f b<3) :
  FP.roundE (FP.fP f) (FP.fE f) m after neg (Bu (i64 (if (uZ f a=1∨uZ f a=2)∧(uZ f b=1∨uZ f b=2) then i64 (i64 (vQ f a+vQ f b)+1) else 0))) (if (uZ f a=1∨uZ f a=2)∧(uZ f b=1∨uZ f b=2) then wu f a*wu f b else 0)
   = FP.mulC f m after neg (FP.cod f a) (FP.cod f b):=by
 obtain⟨a1,a2,a3⟩:=Bw hf ha
 obtain⟨b1,b2,b3⟩:=Bw hf hb
 have ra:=yJ (f:=f) (b:=a)
 have rb:=yJ (f:=f) (b:=b)
 by_cases hz:FP.cod f a=0∨FP.cod f b=0
 ·rw[if_neg (fun h=>hz.elim (a3.1 h.1) (b3.1 h.2)),if_neg (fun h=>hz.elim (a3.1 h.1) (b3.1 h.2))]
  unfold FP.roundE FP.mulC
  have:FP.val f (FP.cod f a)*FP.val f (FP.cod f b)=0:=by
   rcases hz with h|h<;>rw[h]<;>unfold FP.val<;>rw[FP.cval_zero]<;>simp
  rw[this,Nat.zero_mul,FP.roundC_zero,FP.roundC_zero]
 ·have hab:(uZ f a=1∨uZ f a=2)∧(uZ f b=1∨uZ f b=2):=⟨a3.2 (fun h=>hz (.inl h)),b3.2 (fun h=>hz (.inr h))⟩
  rw[if_pos hab,if_pos hab]
  rw[wL (n:=vQ f a+vQ f b) (by omega) (by omega),wL (n:=vQ f a+vQ f b+1) (by omega) (by omega),wL (by omega) (by omega),Lt (by omega) (by omega)]
  unfold vQ wu
  rw[if_pos hab.1,if_pos hab.2,if_pos hab.1,if_pos hab.2]
  exact FP.round_mul hf (by omega) a1 (by omega) b1
theorem ape (f m t a1 a0 b1 b0:Int) (hf:fN f<4) (hm:u8 m≤4):OB [f,m,t,a1,a0,b1,b0]=oR (IC (fN f) (u8 m).toNat (vG t) (nB a1 a0) (nB b1 b0)):=by
 have hf2:=(yh f).2 hf
 have hf3:fN (u8 f)<4:=by rw[vH];exact hf
 have hm3:u8 (u8 m)≤4:=by rw[wS];exact hm
 rw[OB,Zr,wG]
 simp only[xe,wB,wC,xg,xh,wV,wW,zq,BR,CX,Dv,zo,vJ,Bool.not_eq_true',decide_eq_false_iff_not]
 rw[if_neg (by omega),wG]
 simp only[xe,wB,wC,xg,xh,wV,wW,zq,BR,OL,Dv,zo,vJ,Bool.not_eq_true',decide_eq_false_iff_not]
 rw[if_neg (by omega)]
 refine(ve (by simp only[uY,adZ];exact Bl _ _ _) (by rfl)).trans ?_
 refine(ve (by simp only[uY,adZ];exact Bl _ _ _) (by rfl)).trans ?_
 rw[vH,vM,vM]
 have sg:∀ x,yU (fN f) x=FP.sgn (fN f) x:=fun x=>by unfold yU;rw[decide_eq_true hf,Bool.true_and]
 rw[sg,sg]
 have ca:=Ak (fN f) (nB a1 a0)
 have cb:=Ak (fN f) (nB b1 b0)
 refine(ve (r:=[vw (zt (uZ (fN f) (nB a1 a0)) (uZ (fN f) (nB b1 b0)))]) ?_ rfl).trans ?_
 ·simp only[uY,an7,ca,cb];rw[aeT,ca,cb,zI,zI]
 unfold IC Bv
 generalize hbad:zt (uZ (fN f) (nB a1 a0)) (uZ (fN f) (nB b1 b0))=bad
 have sigA:zH [u8 f,u64 a1,u64 a0] = [vw (decide (uZ (fN f) (nB a1 a0)=5))]:=by rw[CZ,vH,vM]
 have sigB:zH [u8 f,u64 b1,u64 b0] = [vw (decide (uZ (fN f) (nB b1 b0)=5))]:=by rw[CZ,vH,vM]
 have dflt:EK [u8 f]=oB (dfl (fN f)):=by rw[Z0,vH,if_pos hf];rfl
 refine(ve (r:=[vw (decide (4≤uZ (fN f) (nB a1 a0)))]) ?_ rfl).trans ?_
 ·simp only[uY,Zu];rw[Bj,vH,vM]
 rw[wG]
 simp only[xe,wB,wC,xg,xh,wV,wW,vR,yI,vJ,decide_eq_true_iff]
 by_cases na:4≤uZ (fN f) (nB a1 a0)
 ·rw[if_pos na,if_pos na]
  have hb0:bad=false:=by
   rw[← hbad];unfold zt
   cases h1:(decide (uZ (fN f) (nB a1 a0)=0)||decide (uZ (fN f) (nB b1 b0)=0)) with
   | false=>rfl
   | true =>
    rw[Bool.true_and]
    rw[Bool.or_eq_true,decide_eq_true_iff,decide_eq_true_iff] at h1
    rw[decide_eq_false (by omega),decide_eq_false (by omega)];rfl
  have quA:Fz [u8 f,u64 a1,u64 a0]=oB (xz (fN f) (nB a1 a0)):=by rw[UA _ _ _ hf3 (by rw[vH,vM];exact na),vH,vM];rfl
  refine(ve (by simp only[uY,Zv];exact dflt) (by rfl)).trans ?_
  refine(ve (by simp only[uY,Zw];exact quA) (by rfl)).trans ?_
  rw[wG]
  simp only[xe,wB,wC,xg,xh,wV,wW,vR,yI,vJ,hb0]
  rw[if_neg (by decide)]
  refine(ve (by simp only[uY,QW];exact sigA) (by rfl)).trans ?_
  rw[wG]
  simp only[xe,wB,wC,xg,xh,wV,wW,vR,yI,vJ,decide_eq_true_iff]
  by_cases s1:uZ (fN f) (nB a1 a0)=5
  ·rw[if_pos s1,if_pos (.inl s1),vg rfl,Eg]
   (simp only[uY])<;>rfl
  rw[if_neg s1]
  refine(ve (by simp only[uY,QW];exact sigB) (by rfl)).trans ?_
  rw[wG]
  simp only[xe,wB,wC,xg,xh,wV,wW,vR,yI,vJ,decide_eq_true_iff]
  by_cases s2:uZ (fN f) (nB b1 b0)=5
  ·rw[if_pos s2,if_pos (.inr s2),vg rfl,Eg]
   (simp only[uY])<;>rfl
  ·rw[if_neg s2,if_neg (fun h=>h.elim s1 s2),vg rfl,Eg]
   (simp only[uY])<;>rfl
 rw[if_neg na,if_neg na]
 refine(ve (r:=[vw (decide (4≤uZ (fN f) (nB b1 b0)))]) ?_ rfl).trans ?_
 ·simp only[uY,Zu];rw[Bj,vH,vM]
 rw[wG]
 simp only[xe,wB,wC,xg,xh,wV,wW,vR,yI,vJ,decide_eq_true_iff]
 by_cases nb:4≤uZ (fN f) (nB b1 b0)
 ·rw[if_pos nb,if_pos nb]
  have hb0:bad=false:=by
   rw[← hbad];unfold zt
   cases h1:(decide (uZ (fN f) (nB a1 a0)=0)||decide (uZ (fN f) (nB b1 b0)=0)) with
   | false=>rfl
   | true =>
    rw[Bool.true_and]
    rw[Bool.or_eq_true,decide_eq_true_iff,decide_eq_true_iff] at h1
    rw[decide_eq_false (by omega),decide_eq_false (by omega)];rfl
  have quB:Fz [u8 f,u64 b1,u64 b0]=oB (xz (fN f) (nB b1 b0)):=by rw[UA _ _ _ hf3 (by rw[vH,vM];exact nb),vH,vM];rfl
  refine(ve (by simp only[uY,Zv];exact dflt) (by rfl)).trans ?_
  refine(ve (by simp only[uY,Zw];exact quB) (by rfl)).trans ?_
  rw[wG]
  simp only[xe,wB,wC,xg,xh,wV,wW,vR,yI,vJ,hb0]
  rw[if_neg (by decide)]
  refine(ve (by simp only[uY,QW];exact sigA) (by rfl)).trans ?_
  rw[wG]
  simp only[xe,wB,wC,xg,xh,wV,wW,vR,yI,vJ,decide_eq_true_iff]
  by_cases s1:uZ (fN f) (nB a1 a0)=5
  ·rw[if_pos s1,if_pos (.inl s1),vg rfl,Eg]
   (simp only[uY])<;>rfl
  rw[if_neg s1]
  refine(ve (by simp only[uY,QW];exact sigB) (by rfl)).trans ?_
  rw[wG]
  simp only[xe,wB,wC,xg,xh,wV,wW,vR,yI,vJ,decide_eq_true_iff]
  by_cases s2:uZ (fN f) (nB b1 b0)=5
  ·rw[if_pos s2,if_pos (.inr s2),vg rfl,Eg]
   (simp only[uY])<;>rfl
  ·rw[if_neg s2,if_neg (fun h=>h.elim s1 s2),vg rfl,Eg]
   (simp only[uY])<;>rfl
 rw[if_neg nb,if_neg nb,wG]
 simp only[xe,wB,wC,xg,xh,wV,wW,vR,BR,yI,vJ,Bool.not_eq_true']
 cases bad with
 | true =>
  rw[if_neg (by decide),if_pos rfl]
  refine(ve (by simp only[uY,Zv];exact dflt) (by rfl)).trans ?_
  rw[vg rfl,Eg]
  (simp only[uY])<;>rfl
 | false =>
  rw[if_pos rfl,if_neg (by decide),wG]
  simp only[xe,wB,wC,xg,xh,wV,wW,vR,zq,Ll,Dv,zo,JL,Rc,vJ,ca,cb,beq_iff_eq,decide_eq_true_iff]
  have hor:((if ((uZ (fN f) (nB a1 a0):Nat):Int)=3 then(0:Int) else if ((uZ (fN f) (nB b1 b0):Nat):Int)=3 then 1 else -1)≥0)↔(uZ (fN f) (nB a1 a0)=3∨uZ (fN f) (nB b1 b0)=3):=by
   by_cases h3:uZ (fN f) (nB a1 a0)=3
   ·rw[if_pos (by omega)];simp[h3]
   ·rw[if_neg (by omega)]
    by_cases h4:uZ (fN f) (nB b1 b0)=3
    ·rw[if_pos (by omega)];simp[h4]
    ·rw[if_neg (by omega)];simp[h3,h4]
  by_cases hi:uZ (fN f) (nB a1 a0)=3∨uZ (fN f) (nB b1 b0)=3
  ·rw[if_pos (hor.2 hi),if_pos hi]
   refine(ve (r:=oB (FP.mk (fN f) (FP.sgn (fN f) (nB a1 a0) != FP.sgn (fN f) (nB b1 b0)) (FP.inf (fN f)))) ?_ rfl).trans ?_
   ·simp only[uY,an8];rw[Lr,vH,if_pos hf,vJ,vR];rfl
   rw[vg rfl,Eg]
   (simp only[uY])<;>rfl
  ·rw[if_neg (fun h=>hi (hor.1 h)),if_neg hi]
   have ha3:uZ (fN f) (nB a1 a0)<3:=by omega
   have hb3:uZ (fN f) (nB b1 b0)<3:=by omega
   have eu:∀ x,i64 (vQ (fN f) x)=vQ (fN f) x:=fun x=>by have:=yJ (f:=fN f) (b:=x);exact JM this.1 this.2
   have hcond:∀ x,(((uZ (fN f) x:Nat):Int)=1∨((uZ (fN f) x:Nat):Int)=2)↔(uZ (fN f) x=1∨uZ (fN f) x=2):=fun x=>by omega
   refine(ve (r:=(if (uZ (fN f) (nB a1 a0)=1∨uZ (fN f) (nB a1 a0)=2)∧(uZ (fN f) (nB b1 b0)=1∨uZ (fN f) (nB b1 b0)=2) then i64 (i64 (vQ (fN f) (nB a1 a0)+vQ (fN f) (nB b1 b0))+1) else 0)::oW (if (uZ (fN f) (nB a1 a0)=1∨uZ (fN f) (nB a1 a0)=2)∧(uZ (fN f) (nB b1 b0)=1∨uZ (fN f) (nB b1 b0)=2) then wu (fN f) (nB a1 a0)*wu (fN f) (nB b1 b0) else 0)) ?_ rfl).trans ?_
   ·simp only[uY,an9,ca,cb]
    rw[aeU,ca,cb,xn (zL _ _),xn (zL _ _),xI,xI,eu,eu]
    by_cases hc:(uZ (fN f) (nB a1 a0)=1∨uZ (fN f) (nB a1 a0)=2)∧(uZ (fN f) (nB b1 b0)=1∨uZ (fN f) (nB b1 b0)=2)
    ·rw[if_pos ⟨(hcond _).2 hc.1,(hcond _).2 hc.2⟩,if_pos hc,if_pos hc,yC];rfl
    ·rw[if_neg (fun h=>hc ⟨(hcond _).1 h.1,(hcond _).1 h.2⟩),if_neg hc,if_neg hc];rfl
   have hlt:(if (uZ (fN f) (nB a1 a0)=1∨uZ (fN f) (nB a1 a0)=2)∧(uZ (fN f) (nB b1 b0)=1∨uZ (fN f) (nB b1 b0)=2) then wu (fN f) (nB a1 a0)*wu (fN f) (nB b1 b0) else 0)<vL:=by
    split
    ·rw[Lm];exact Nat.mul_lt_mul'' (zL _ _) (zL _ _)
    ·exact abV
   have key:=apd (m:=(u8 m).toNat) (after:=vG t) (neg:=FP.sgn (fN f) (nB a1 a0) != FP.sgn (fN f) (nB b1 b0)) hf ha3 hb3
   refine(ve (r:=oR (FP.mk (fN f) (FP.sgn (fN f) (nB a1 a0) != FP.sgn (fN f) (nB b1 b0)) (FP.mulC (fN f) (u8 m).toNat (vG t) (FP.sgn (fN f) (nB a1 a0) != FP.sgn (fN f) (nB b1 b0)) (FP.cod (fN f) (nB a1 a0)) (FP.cod (fN f) (nB b1 b0))).1,(FP.mulC (fN f) (u8 m).toNat (vG t) (FP.sgn (fN f) (nB a1 a0) != FP.sgn (fN f) (nB b1 b0)) (FP.cod (fN f) (nB a1 a0)) (FP.cod (fN f) (nB b1 b0))).2)) ?_ rfl).trans ?_
   ·simp only[uY,aoa]
    rw[GI _ _ _ _ _ _ _ _ _ hf3 hm3,vH,wS,vJ,vJ,xP hlt,xI]
    rw[show(!(FP.sgn (fN f) (nB a1 a0)==FP.sgn (fN f) (nB b1 b0)))=(FP.sgn (fN f) (nB a1 a0) != FP.sgn (fN f) (nB b1 b0)) from rfl,key];rfl
   have h8:∀ p:Nat×Nat,p.2=(FP.mulC (fN f) (u8 m).toNat (vG t) (FP.sgn (fN f) (nB a1 a0) != FP.sgn (fN f) (nB b1 b0)) (FP.cod (fN f) (nB a1 a0)) (FP.cod (fN f) (nB b1 b0))).2→u8 (p.2:Int)=(p.2:Int):=by
    intro p hp
    have:=FP.roundC_flag_set (FP.fP (fN f)) (FP.fE (fN f)) (u8 m).toNat (vG t) (FP.sgn (fN f) (nB a1 a0) != FP.sgn (fN f) (nB b1 b0)) (FP.val (fN f) (FP.cod (fN f) (nB a1 a0))*FP.val (fN f) (FP.cod (fN f) (nB b1 b0))) (2^FP.fU (fN f))
    rw[hp]
    unfold FP.mulC
    exact BP (by omega) (by omega)
   rw[vg rfl,Eg]
   simp only[uY,h8 _ rfl]
open Go.RowKit
theorem Z4 {f:Nat} (hf:f<4) (b:Nat):yU f b=FP.sgn f b:=by unfold yU;rw[decide_eq_true hf,Bool.true_and]
theorem aeV {f:Nat} (hf:f<4) (b:Nat):IB f b=FP.cod f b:=by unfold IB;rw[if_pos hf]
theorem apf {f b:Nat} (h:4≤uZ f b):f<4:=by
 apply Classical.byContradiction;intro hf
 unfold uZ at h;rw[if_neg hf] at h;omega
def OT (f t c:Nat):Nat:=c%2^(FP.fP f-1)*2^(129-FP.fP f)/2^(129-FP.fP t)
def JR (f t c:Nat):Nat:=FP.inf t+(OT f t c|||2^(FP.fP t-2))
theorem aeW {f t c:Nat} (hf:f<4) (ht:t<4):OT f t c<2^(FP.fP t-1):=by
 obtain⟨n1,n2,_⟩:=FP.fmtN hf
 obtain⟨t1,t2,_⟩:=FP.fmtN ht
 unfold OT
 rw[Nat.div_lt_iff_lt_mul (FP.two_pow_pos _),← Nat.pow_add]
 have:=Nat.mul_lt_mul_of_pos_right (Nat.mod_lt c (FP.two_pow_pos (FP.fP f-1))) (FP.two_pow_pos (129-FP.fP f))
 rw[← Nat.pow_add,show FP.fP f-1+(129-FP.fP f)=128 by omega] at this
 rw[show FP.fP t-1+(129-FP.fP t)=128 by omega];exact this
theorem UB {x i n:Nat} (h:x<2^n) (hi:i<n):(x|||2^i)<2^n:=Nat.or_lt_two_pow h (Nat.pow_lt_pow_right (by decide) hi)
theorem apg (f a b:Int) (hf:fN f<4):Oq [f,a,b]=oB (nB a b|||2^(FP.fP (fN f)-2)):=by
 refine Eq.trans ?_ (IA _)
 obtain⟨n1,n2,n3,n4,n5,n6,n7,n8,n9⟩:=FP.fmtN hf
 obtain⟨i1,i2,i3,i4⟩:=EN hf
 obtain⟨z,hz,ez,hc,hd⟩:=Ck a b
 have hcl:FP.inf (fN f)+2^(FP.fP (fN f)-2)<2^(FP.fW (fN f)-1):=i2
 have hlt:=FP.mk_lt hf false hcl
 have hW:FP.mk (fN f) false (FP.inf (fN f)+2^(FP.fP (fN f)-2))<vF:=Nat.lt_of_lt_of_le hlt (GD (by omega))
 have hinf:FP.inf (fN f)=2^(FP.fP (fN f)-1)*(2*FP.fE (fN f)+1):=by unfold FP.inf FP.infC;rw[Nat.mul_comm]
 have hfr:(FP.inf (fN f)+2^(FP.fP (fN f)-2))%2^(FP.fP (fN f)-1)=2^(FP.fP (fN f)-2):=by rw[hinf,Nat.mul_add_mod,Nat.mod_eq_of_lt i3]
 rw[Oq,Zh]
 refine(ve (r:=oB (FP.mk (fN f) false (FP.inf (fN f)+2^(FP.fP (fN f)-2)))) ?_ rfl).trans ?_
 ·simp only[uY,anG];rw[Z0,vH,if_pos hf,vR]
 refine(ve (r:=[vw false,(((FP.inf (fN f)+2^(FP.fP (fN f)-2))/2^(FP.fP (fN f)-1):Nat):Int)]++oB (2^(FP.fP (fN f)-2))) ?_ rfl).trans ?_
 ·simp only[uY,Zj]
  rw[Ux,vH,xn hW,Z4 hf,aeV hf,FP.sgn_mk _ hcl,FP.cod_mk _ hcl,hfr,vR];rfl
 rw[vg rfl]
 simp only[uY,hc,hd,Rt,ez]
 rfl
theorem aeX (f t a b:Int):OD [f,t,a,b] =
  if fN t<4∧4≤uZ (fN f) (nB a b) then oB (FP.mk (fN t) (FP.sgn (fN f) (nB a b)) (JR (fN f) (fN t) (FP.cod (fN f) (nB a b)))) ++ [if uZ (fN f) (nB a b)=5 then 1 else 0,1] else [0,0,0,0]:=by
 rw[OD,Zt,wG]
 simp only[xe,wB,wC,xg,xh,wV,wW,zq,BR,CX,Dv,zo,vJ,Bool.not_eq_true',decide_eq_false_iff_not,yh]
 by_cases ht:¬ fN t<4
 ·rw[if_pos ht,if_neg (fun h=>ht h.1),vg rfl];rfl
 rw[if_neg ht]
 have ht:=Classical.not_not.1 ht
 refine(ve (r:=[vw (decide (4≤uZ (fN f) (nB a b)))]) ?_ rfl).trans ?_
 ·simp only[uY,Zu];rw[Bj,vH,vM]
 rw[wG]
 simp only[xe,wB,wC,xg,xh,wV,wW,BR,yI,vJ,Bool.not_eq_true',decide_eq_false_iff_not]
 by_cases hn:¬ 4≤uZ (fN f) (nB a b)
 ·rw[if_pos hn,if_neg (fun h=>hn h.2),vg rfl];rfl
 rw[if_neg hn]
 have hn:=Classical.not_not.1 hn
 rw[if_pos ⟨ht,hn⟩]
 have hf:=apf hn
 obtain⟨n1,n2,n3,n4,n5,n6,n7,n8,n9⟩:=FP.fmtN hf
 obtain⟨t1,t2,t3,t4,t5,t6,t7,t8,t9⟩:=FP.fmtN ht
 obtain⟨i1,i2,i3,i4⟩:=EN ht
 refine(ve (by simp only[uY,aob];exact Ux _ _ _) (by rfl)).trans ?_
 rw[vH,vM,Z4 hf,aeV hf]
 have sigA:zH [u8 f,u64 a,u64 b] = [vw (decide (uZ (fN f) (nB a b)=5))]:=by rw[CZ,vH,vM]
 have hmf:=aeW (c:=FP.cod (fN f) (nB a b)) hf ht
 unfold JR
 generalize hs:FP.sgn (fN f) (nB a b)=s
 generalize hcc:FP.cod (fN f) (nB a b)=c at *
 have hfr:c%2^(FP.fP (fN f)-1)<vF:=OP _ (by omega)
 have hsh:c%2^(FP.fP (fN f)-1)*2^(129-FP.fP (fN f))<vF:=by
  have:=Nat.mul_lt_mul_of_pos_right (Nat.mod_lt c (FP.two_pow_pos (FP.fP (fN f)-1))) (FP.two_pow_pos (129-FP.fP (fN f)))
  rw[← Nat.pow_add,show FP.fP (fN f)-1+(129-FP.fP (fN f))=128 by omega,← yn] at this;exact this
 have e1:i64 (129-(FP.fP (fN f):Int))=((129-FP.fP (fN f):Nat):Int):=Ef (a:=129) (by omega) (by omega)
 have e2:i64 (129-(FP.fP (fN t):Int))=((129-FP.fP (fN t):Nat):Int):=Ef (a:=129) (by omega) (by omega)
 have e3:i64 (vX .mul .i64 2 (FP.fE (fN t):Int)+1)=((2*FP.fE (fN t)+1:Nat):Int):=by rw[Rq _ (by omega) (by omega),wL (by omega) (by omega)];omega
 refine(ve (by simp only[uY,ad1];exact Iz _) (by rfl)).trans ?_
 refine(ve (by simp only[uY,aoc,vH,zh,e1];exact GG _ hfr (by omega) hsh ) (by rfl)).trans ?_
 refine(ve (by simp only[uY,ad1];exact Iz _) (by rfl)).trans ?_
 refine(ve (by simp only[uY,aod,vH,zh,e2];exact aeD _ hsh (by omega) ) (by rfl)).trans ?_
 rw[show c%2^(FP.fP (fN f)-1)*2^(129-FP.fP (fN f))/2^(129-FP.fP (fN t))=OT (fN f) (fN t) c from rfl]
 refine(ve (by simp only[uY,aoe];exact JO _) (by rfl)).trans ?_
 generalize OT (fN f) (fN t) c=q at *
 have hqW:q<vF:=Nat.lt_of_lt_of_le hmf (GD (by omega))
 have hor:=UB (i:=FP.fP (fN t)-2) hmf (by omega)
 have horW:(q|||2^(FP.fP (fN t)-2))<vF:=Nat.lt_of_lt_of_le hor (GD (by omega))
 refine(ve (r:=oB (q|||2^(FP.fP (fN t)-2))) ?_ rfl).trans ?_
 ·simp only[uY,aof];rw[apg _ _ _ (by rw[vH];exact ht),vH,xn hqW,vR]
 have hge:2^(FP.fP (fN t)-2)≤(q|||2^(FP.fP (fN t)-2)):=Nat.right_le_or
 generalize (q|||2^(FP.fP (fN t)-2))=r at *
 have hcl:FP.inf (fN t)+r<2^(FP.fW (fN t)-1):=by have:=FP.inf_top ht;omega
 have hlt:=FP.mk_lt ht s hcl
 have hW:FP.mk (fN t) s (FP.inf (fN t)+r)<vF:=Nat.lt_of_lt_of_le hlt (GD (by omega))
 refine(ve (r:=oB (FP.mk (fN t) s (FP.inf (fN t)+r))) ?_ rfl).trans ?_
 ·simp only[uY,aog,vH,AX,e3]
  rw[FD,vH,if_pos ht,xn horW,yG (by omega),vJ,ZW ht,Nat.mod_eq_of_lt hor,vR]
 have p2:=FP.two_pow_pos (FP.fP (fN t)-2)
 have hc4:FP.clsC (fN t) (FP.inf (fN t)+r)=4:=(Ls ht).1.2 (by omega)
 have hclsR:uZ (fN t) (FP.mk (fN t) s (FP.inf (fN t)+r))=4:=by unfold uZ FP.cls;rw[if_pos ht,FP.cod_mk s hcl,hc4]
 refine(ve (r:=oB (FP.mk (fN t) s (FP.inf (fN t)+r))) ?_ rfl).trans ?_
 ·simp only[uY,Zw]
  rw[UA _ _ _ (by rw[vH];exact ht) (by rw[vH,xn hW,hclsR];exact Nat.le_refl _),vH,xn hW,FP.sgn_mk s hcl,FP.cod_mk s hcl]
  unfold EO;rw[hc4,if_neg (by decide),vR]
 refine(ve (by simp only[uY,QW];exact sigA) (by rfl)).trans ?_
 rw[wG]
 simp only[xe,wB,wC,xg,xh,wV,wW,vR,yI,vJ,decide_eq_true_iff]
 by_cases s1:uZ (fN f) (nB a b)=5
 ·rw[if_pos s1,if_pos s1,vg rfl]
  (simp only[uY])<;>rfl
 ·rw[if_neg s1,if_neg s1,vg rfl]
  (simp only[uY])<;>rfl
def IE (f t m:Nat) (after:Bool) (b:Nat):Nat×Nat :=
 if 4≤uZ f b then(FP.mk t (FP.sgn f b) (JR f t (FP.cod f b)),if uZ f b=5 then 1 else 0)
 else if uZ f b=3 then(FP.mk t (FP.sgn f b) (FP.inf t),0)
 else(FP.mk t (FP.sgn f b) (FP.convC f t m after (FP.sgn f b) (FP.cod f b)).1,(FP.convC f t m after (FP.sgn f b) (FP.cod f b)).2)
theorem aph {f t m b:Nat} {after neg:Bool} (hf:f<4) (ht:t<4) (hb:uZ f b<3) :
  FP.roundE (FP.fP t) (FP.fE t) m after neg (Bu (vQ f b)) (wu f b*vF)=FP.convC f t m after neg (FP.cod f b):=by
 obtain⟨b1,b2,b3⟩:=Bw hf hb
 have rb:=yJ (f:=f) (b:=b)
 rw[Lt (by omega) (by omega),yn]
 by_cases hz:FP.cod f b=0
 ·unfold vQ wu
  rw[if_neg (fun h=>b3.1 h hz),if_neg (fun h=>b3.1 h hz),hz]
  unfold FP.roundE FP.convC FP.val
  rw[FP.cval_zero,Nat.zero_mul,Nat.zero_mul,FP.roundC_zero,FP.roundC_zero]
 ·have h12:=b3.2 hz
  unfold vQ wu
  rw[if_pos h12,if_pos h12]
  exact FP.round_conv hf ht (by omega) b1
theorem api (f t m u a b:Int) (hf:fN f<4) (ht:fN t<4) (hm:u8 m≤4):OG [f,t,m,u,a,b]=oR (IE (fN f) (fN t) (u8 m).toNat (vG u) (nB a b)):=by
 have hf2:=(yh f).2 hf
 have ht2:=(yh t).2 ht
 have ht3:fN (u8 t)<4:=by rw[vH];exact ht
 have hm3:u8 (u8 m)≤4:=by rw[wS];exact hm
 rw[OG,Zx,wG]
 simp only[xe,wB,wC,xg,xh,wV,wW,zq,BR,Ll,CX,Dv,zo,vJ,Bool.not_eq_true',decide_eq_false_iff_not]
 rw[if_neg (show ¬ ¬ u8 f<4 by omega),if_neg (show ¬ ¬ u8 t<4 by omega),if_neg (by decide),wG]
 simp only[xe,wB,wC,xg,xh,wV,wW,zq,BR,OL,Dv,zo,vJ,Bool.not_eq_true',decide_eq_false_iff_not]
 rw[if_neg (by omega)]
 unfold IE
 have eu:i64 (vQ (fN f) (nB a b))=vQ (fN f) (nB a b):=by have:=yJ (f:=fN f) (b:=nB a b);exact JM this.1 this.2
 have ca:=Ak (fN f) (nB a b)
 by_cases hn:4≤uZ (fN f) (nB a b)
 ·rw[if_pos hn]
  refine(ve (r:=oB (FP.mk (fN t) (FP.sgn (fN f) (nB a b)) (JR (fN f) (fN t) (FP.cod (fN f) (nB a b)))) ++ [if uZ (fN f) (nB a b)=5 then 1 else 0,1]) ?_ rfl).trans ?_
  ·simp only[uY,ad2];rw[aeX,vH,vH,vM,if_pos ⟨ht,hn⟩,vR];rfl
  rw[wG]
  simp only[xe,wB,wC,xg,xh,wV,wW,vR,yI,show vG 1=true from rfl,show vG (vw true)=true from rfl]
  rw[if_pos (by trivial),vg rfl,Eg]
  by_cases s1:uZ (fN f) (nB a b)=5
  ·rw[if_pos s1,if_pos s1]
   (simp only[uY])<;>rfl
  ·rw[if_neg s1,if_neg s1]
   (simp only[uY])<;>rfl
 rw[if_neg hn]
 refine(ve (r:=[0,0,0,0]) ?_ rfl).trans ?_
 ·simp only[uY,ad2];rw[aeX,vH,vH,vM,if_neg (fun h=>hn h.2)]
 rw[wG]
 simp only[xe,wB,wC,xg,xh,wV,wW,yI,show vG 0=false from rfl,show vG (vw false)=false from rfl]
 rw[if_neg (by decide)]
 refine(ve (by simp only[uY,aok];exact Bl _ _ _) (by rfl)).trans ?_
 rw[vH,vM,Z4 hf,wG]
 simp only[xe,wB,wC,xg,xh,wV,wW,vR,zq,Dv,zo,JL,vJ,ca,beq_iff_eq]
 by_cases hi:uZ (fN f) (nB a b)=3
 ·rw[if_pos (by omega),if_pos hi]
  refine(ve (r:=oB (FP.mk (fN t) (FP.sgn (fN f) (nB a b)) (FP.inf (fN t)))) ?_ rfl).trans ?_
  ·simp only[uY,aol];rw[Lr,vH,if_pos ht,vJ,vR]
  rw[vg rfl,Eg]
  (simp only[uY])<;>rfl
 ·rw[if_neg (by omega),if_neg hi]
  have hlt:=zL (fN f) (nB a b)
  have hw:=Ee hlt
  have key:=aph (m:=(u8 m).toNat) (after:=vG u) (neg:=FP.sgn (fN f) (nB a b)) hf ht (show uZ (fN f) (nB a b)<3 by omega)
  refine(ve (r:=oW (wu (fN f) (nB a b)*vF)) ?_ rfl).trans ?_
  ·simp only[uY,aom]
   rw[OO,xn hlt,show nB 0 0=0 by decide,yC]
   rw[Nat.add_zero]
  refine(ve (r:=oR (FP.mk (fN t) (FP.sgn (fN f) (nB a b)) (FP.convC (fN f) (fN t) (u8 m).toNat (vG u) (FP.sgn (fN f) (nB a b)) (FP.cod (fN f) (nB a b))).1,(FP.convC (fN f) (fN t) (u8 m).toNat (vG u) (FP.sgn (fN f) (nB a b)) (FP.cod (fN f) (nB a b))).2)) ?_ rfl).trans ?_
  ·simp only[uY,aon]
   rw[GI _ _ _ _ _ _ _ _ _ ht3 hm3,vH,wS,vJ,vJ,xP hw,eu,eu,key];rfl
  have h8:u8 ((FP.convC (fN f) (fN t) (u8 m).toNat (vG u) (FP.sgn (fN f) (nB a b)) (FP.cod (fN f) (nB a b))).2:Int)=((FP.convC (fN f) (fN t) (u8 m).toNat (vG u) (FP.sgn (fN f) (nB a b)) (FP.cod (fN f) (nB a b))).2:Int):=by
   have:=FP.roundC_flag_set (FP.fP (fN t)) (FP.fE (fN t)) (u8 m).toNat (vG u) (FP.sgn (fN f) (nB a b)) (FP.val (fN f) (FP.cod (fN f) (nB a b))*2^FP.fU (fN t)) (2^FP.fU (fN f))
   unfold FP.convC
   exact BP (by omega) (by omega)
  rw[vg rfl,Eg]
  simp only[uY,h8]
open Go.RowKit
namespace FP
end FP
def FE (f b:Nat):Nat:=if f<4 then FP.mk f (!FP.sgn f b) (FP.cod f b) else 0
theorem apj (f a b:Int):Lf [f,a,b]=oB (FE (fN f) (nB a b)):=by
 rw[ao5];rfl
theorem apk (f b:Nat):FE f b<vF:=by
 unfold FE
 by_cases hf:f<4
 ·rw[if_pos hf]
  have:=FP.fW_le hf
  exact Nat.lt_of_lt_of_le (FP.mk_lt hf _ (FP.cod_lt f b)) (GD (by omega))
 ·rw[if_neg hf];decide
theorem Ru {f c:Nat} (hf:f<4) (s:Bool) (hc:c<2^(FP.fW f-1)):uZ f (FP.mk f s c)=FP.clsC f c:=by
 unfold uZ FP.cls;rw[if_pos hf,FP.cod_mk _ hc]
theorem UC {f:Nat} (hf:f<4) (b:Nat):uZ f b=FP.clsC f (FP.cod f b):=by
 unfold uZ FP.cls;rw[if_pos hf]
theorem apl {f c:Nat} (hf:f<4) (s:Bool) (hc:c<2^(FP.fW f-1)):FP.mk f s c<vF:=by
 have:=FP.fW_le hf
 exact Nat.lt_of_lt_of_le (FP.mk_lt hf _ hc) (GD (by omega))
theorem apm {t:Nat} (ht:t<4):FP.inf t<2^(FP.fW t-1):=by
 have:=FP.inf_top ht
 have:=FP.two_pow_pos (FP.fP t-1)
 omega
open Go.RowKit
end Go.Proofs.YtemomocmfggiaaaGreatDoor
