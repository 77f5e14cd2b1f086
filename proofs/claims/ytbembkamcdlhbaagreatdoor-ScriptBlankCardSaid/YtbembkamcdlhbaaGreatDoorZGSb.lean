import Derived.Test.YtbembkamcdlhbaaGreatDoorZDSb
import Derived.Test.YtbembkamcdlhbaaGreatDoorZESb
import Derived.Test.YtbembkamcdlhbaaGreatDoorZFSb
set_option linter.defProp false
set_option linter.unusedSimpArgs false
set_option linter.unusedVariables false
set_option maxRecDepth 100000
namespace Go.Proofs.YtbembkamcdlhbaaGreatDoor
open Go.RowKit
theorem Kq {α:Type} (l:List α):l ++ []=l:=by rw[List.append_nil]
theorem BX {α:Type} (a:α) (l m:List α):(a::l)++m=a::(l++m):=by rw[List.cons_append]
theorem BZ {α:Type} (l:List α) : []++l=l:=by rw[List.nil_append]
theorem Kr {α β:Type} (f:α→β) (a:α) (l:List α):List.map f (a::l)=f a::List.map f l:=by rw[List.map_cons]
theorem Kt {α β:Type} (f:α→β):List.map f [] = []:=by rw[List.map_nil]
theorem Ca (x:Int) (l:List Int):rC (x::l) 0=x:=by rw[rC]
theorem Cb (x:Int) (l:List Int) (n:Nat):rC (x::l) (n+1)=rC l n:=by rw[rC]
theorem Rm {β:Sort _} (l:List Int):∀ (xs:List X) (K:List Int→β),evs l xs K=K (xs.map (X.ev l))
 | [],K=>rfl
 | x::xs,K=>by rw[evs,DX,Rm l xs];rfl
theorem ww {Φ:uD} {ct:Ct} {a:SV} {l:List Int} {xs:List X} (h:wO ct.r (xI ct.r a)=some xs):rE Φ ct (.leaf a) l=xs.map (X.ev l):=by
 unfold rE;simp only[uX,h,Rm,id]
theorem Ku {Φ:uD} {ct:Ct} {c:X} {a b:qZ SV} {l:List Int} : rE Φ ct (.ite c a b) l=if sJ (c.ev l)=true then rE Φ ct a l else rE Φ ct b l:=by
 unfold rE
 simp only[uX]
 cases sJ (c.ev l)<;>rfl
theorem wy {Φ:uD} {ct:Ct} {f:Nat} {args:List X} {base n:Nat} {t:qZ SV} {l:List Int} {r:List Int} (h:Φ f (args.map (X.ev l))=r) (hn:r.length=n):rE Φ ct (.call f args base n t) l=rE Φ ct t (l++r):=by
 unfold rE
 simp only[uX,Rm,h]
 rw[show Nat.beq r.length n=true by rw[hn];exact Nat.beq_refl n]
theorem IB (b:Bool):sJ (rX b)=b:=by cases b<;>rfl
def i64 (n:Int):Int:=uH .i64 n
def u8 (n:Int):Int:=uH .u8 n
theorem XI (n:Int) : -9223372036854775808≤i64 n∧i64 n≤9223372036854775807:=by unfold i64;rw[uh];exact AP .i64 n
theorem M6 (n:Int):0≤u8 n∧u8 n≤255:=by unfold u8;rw[uh];exact AP .u8 n
theorem IC {n:Int} (h1 : -9223372036854775808≤n) (h2:n≤9223372036854775807):i64 n=n:=by unfold i64;rw[uh];exact L6 h1 h2
theorem aga {n:Int} (h1:0≤n) (h2:n≤255):u8 n=n:=by unfold u8;rw[uh];exact L6 h1 h2
theorem EJ (n:Int):IntKind.i64.wrap n=i64 n:=by unfold i64;rw[uh]
theorem xY (n:Int):IntKind.u64.wrap n=u64 n:=by unfold u64;rw[uh]
theorem XJ (n:Int):IntKind.u8.wrap n=u8 n:=by unfold u8;rw[uh]
theorem agb (n:Int):i64 (i64 n)=i64 n:=IC (XI n).1 (XI n).2
theorem zt (n:Int):u64 (u64 n)=u64 n:=Bd (yF n)
theorem XK (n:Int):u8 (u8 n)=u8 n:=aga (M6 n).1 (M6 n).2
theorem M7 (n:Nat) (h:n<rq):u64 (n:Int)=n:=Bd ⟨Int.natCast_nonneg _,by exact_mod_cast h⟩
theorem yG (n i:Nat):u64 (wd n i)=wd n i:=Bd (AB _ _)
abbrev fN (a:Int):Nat:=(u8 a).toNat
theorem agc (a:Int):fN (u8 a)=fN a:=by unfold fN;rw[XK]
def nB (h l:Int):Nat:=(u64 h).toNat*rq+(u64 l).toNat
def nW (a b c d:Int):Nat:=(u64 a).toNat+rq*((u64 b).toNat+rq*((u64 c).toNat+rq*(u64 d).toNat))
def oB (n:Nat):List Int:=[wd n 1,wd n 0]
def oW (n:Nat):List Int:=[wd n 0,wd n 1,wd n 2,wd n 3]
theorem xZ (n:Nat):oB n = [wd n 1,wd n 0]:=by rw[oB]
theorem Kv (n:Nat):oW n = [wd n 0,wd n 1,wd n 2,wd n 3]:=by rw[oW]
theorem EK:rq=18446744073709551616:=rfl
theorem XL:rA=340282366920938463463374607431768211456:=by decide
theorem Dp (h l:Int):nB h l<rA:=by
 unfold nB
 have h1:=(uz h).2;have h2:=(uz l).2
 rw[EK] at *;rw[XL];omega
theorem EL (h l:Int):u64 h=wd (nB h l) 1∧u64 l=wd (nB h l) 0:=by
 have h1:=(uz h);have h2:=(uz l)
 have e0:=ab2 (h:=(u64 h).toNat) h2.2
 have e1:=ab3 h1.2 h2.2
 unfold Ju at e0 e1
 unfold nB
 rw[e0,e1]
 exact⟨h1.1.symm,h2.1.symm⟩
theorem agd {n:Nat} (h:n<rA):nB (wd n 1) (wd n 0)=n:=by
 have:=EL (wd n 1) (wd n 0)
 rw[Bd (AB _ _),Bd (AB _ _)] at this
 exact(Ua h (Dp _ _) this.2 this.1).symm
theorem M8 (n:Nat):nB (wd n 1) (wd n 0)=n%rA:=by
 have:=agd (n:=n%rA) (Nat.mod_lt _ Jv)
 rw[AL n 1 (by decide),AL n 0 (by decide)] at this
 exact this
theorem IE (a b c d:Int):u64 a=wd (nW a b c d) 0∧u64 b=wd (nW a b c d) 1∧u64 c=wd (nW a b c d) 2∧u64 d=wd (nW a b c d) 3∧nW a b c d<sF:=by
 obtain⟨h0,h1,h2,h3,h4⟩:=VE _ _ _ _ (uz a).2 (uz b).2 (uz c).2 (uz d).2
 unfold nW
 rw[h0,h1,h2,h3,(uz _).1,(uz _).1,(uz _).1,(uz _).1]
 exact⟨rfl,rfl,rfl,rfl,h4⟩
theorem Rn (a b c d:Int):nW a b c d<sF:=(IE a b c d).2.2.2.2
theorem age {n:Nat} (h:n<sF):nW (wd n 0) (wd n 1) (wd n 2) (wd n 3)=n:=by
 obtain⟨h0,h1,h2,h3,h4⟩:=IE (wd n 0) (wd n 1) (wd n 2) (wd n 3)
 rw[Bd (AB _ _)] at h0 h1 h2 h3
 exact(ab8 h h4 h0 h1 h2 h3).symm
theorem Bg (h l:Int):∃ n:Nat,n<rA∧nB h l=n∧u64 h=wd n 1∧u64 l=wd n 0:=⟨nB h l,Dp h l,rfl,(EL h l).1,(EL h l).2⟩
theorem XM (a b c d:Int):∃ n:Nat,n<sF∧nW a b c d=n∧u64 a=wd n 0∧u64 b=wd n 1∧u64 c=wd n 2∧u64 d=wd n 3:=by
 obtain⟨h0,h1,h2,h3,h4⟩:=IE a b c d
 exact⟨_,h4,rfl,h0,h1,h2,h3⟩
theorem yc (n i:Nat):wd n i=((n/rq^i%rq:Nat):Int):=rfl
theorem EM (a j k:Nat):(a/rq^j%rq).testBit k=(decide (k<64)&&a.testBit (64*j+k)):=by
 by_cases hk:k<64
 ·rw[Jy a j k hk];simp[hk]
 ·rw[F3,Nat.testBit_mod_two_pow];simp[hk]
theorem agf (a r j:Nat) (hr:r<64):a*2^r/rq^j%rq=(a/rq^j%rq*2^r%rq)|||(if j=0 then 0 else a/rq^(j-1)%rq/2^(64-r)):=by
 apply Nat.eq_of_testBit_eq
 intro k
 have e:rq=2^64:=F3
 rw[EM,Nat.testBit_or,show a/rq^j%rq*2^r%rq=a/rq^j%rq*2^r%2^64 by rw[← e],Nat.testBit_mod_two_pow,Nat.testBit_mul_two_pow,Nat.testBit_mul_two_pow,EM]
 by_cases hk:k<64
 ·by_cases hj:j=0
  ·subst hj
   by_cases h:r≤k
   ·simp[hk,h];intro;omega
   ·simp[hk,h]
  ·rw[if_neg hj,Nat.testBit_div_two_pow,EM]
   by_cases h:r≤k
   ·have h2:¬ (64-r+k<64):=by omega
    have h3:k-r<64:=by omega
    simp[hk,h,h3,show r≤64*j+k by omega,show 64*j+k-r=64*j+(k-r) by omega,show ¬ (k+(64-r)<64) by omega]
   ·simp[hk,h,show r≤64*j+k by omega,show k+(64-r)<64 by omega,show 64*j+k-r=64*(j-1)+(k+(64-r)) by omega]
 ·by_cases hj:j=0
  ·subst hj;simp[hk]
  ·rw[if_neg hj,Nat.testBit_div_two_pow,EM]
   simp[hk]
   intro h;omega
theorem Ro (a r j:Nat) (hr:r<64):wd (a*2^r) j=((((wd a j).toNat*2^r%rq)|||(if j=0 then 0 else(wd a (j-1)).toNat/2^(64-r)):Nat):Int):=by
 rw[yc,agf a r j hr,yc,yc,Int.toNat_natCast,Int.toNat_natCast]
theorem XN (a w i:Nat):wd (a*rq^w) i=if i<w then 0 else wd a (i-w):=by
 rw[yc,yc]
 split
 ·rename_i h
  obtain⟨d,rfl⟩:∃ d,w=i+1+d:=⟨w-i-1,by omega⟩
  rw[show a*rq^(i+1+d)=a*rq^d*rq*rq^i by rw[Nat.pow_add,Nat.pow_add,Nat.pow_one];ac_rfl,Nat.mul_div_cancel _ (AC i),Nat.mul_mod_left];rfl
 ·rename_i h
  obtain⟨d,rfl⟩:∃ d,i=w+d:=⟨i-w,by omega⟩
  rw[Nat.pow_add,← Nat.div_div_eq_div_mul,Nat.mul_div_cancel _ (AC w),show w+d-w=d by omega]
theorem Rp (x y:Nat) (hx:x<rq) (hy:y<rq):rM .or .u64 (x:Int) (y:Int)=((x|||y:Nat):Int):=by
 have e:rq=2^64:=F3
 rw[← Ea]
 simp only[fold]
 have h1:tX .u64 (x:Int)=x:=by show x%xB .u64=x;rw[show xB .u64=rq from rfl,Nat.mod_eq_of_lt hx]
 have h2:tX .u64 (y:Int)=y:=by show y%xB .u64=y;rw[show xB .u64=rq from rfl,Nat.mod_eq_of_lt hy]
 rw[h1,h2]
 have:x|||y<rq:=by rw[e] at *;exact Nat.or_lt_two_pow hx hy
 exact M7 _ this
theorem agh (x r:Nat) (hr:r≤64):rM .shl .u64 (x:Int) (r:Int)=((x*2^r%rq:Nat):Int):=by
 simp only[rM,Int.toNat_natCast,IntKind.bits,Nat.min_eq_left hr]
 rw[show((x:Int)*2^r)=((x*2^r:Nat):Int) by push_cast;rfl,xY]
 unfold u64
 rw[uh]
 unfold IntKind.wrap IntKind.bits IntKind.signed
 simp[EK]
theorem XO (x r:Nat) (hr:r≤64):rM .shr .u64 (x:Int) (r:Int)=((x/2^r:Nat):Int):=by
 simp only[rM,Int.toNat_natCast,IntKind.bits,Nat.min_eq_left hr]
 rw[Int.fdiv_eq_ediv_of_nonneg _ (Int.pow_nonneg (by decide))];simp
theorem agi (m:Int):rM .and .i64 m 63=m%64:=by
 rw[← Ea]
 simp only[fold]
 have h2:tX .i64 63=63:=by decide
 have h1:=OZ .i64 m
 have h3:Nat.land (tX .i64 m) 63=tX .i64 m%64:=Nat.and_two_pow_sub_one_eq_mod (n:=6) (x:=tX .i64 m)
 rw[h2,uh,h3,show Int.ofNat (tX .i64 m%64)=((tX .i64 m%64:Nat):Int) from rfl,EJ,IC (by omega) (by omega)]
 show((tX .i64 m%64:Nat):Int)=m%64
 have h4:((tX .i64 m%64:Nat):Int)=(tX .i64 m:Int)%64:=by simp
 rw[h4,h1]
 show m%18446744073709551616%64=m%64
 omega
theorem XP (l:List Int) (n:Int):X.ev l (.lit n)=n:=by rw[X.ev]
theorem XQ (l:List Int) (op:BinOp) (k:IntKind) (a b:X):X.ev l (.bin op k a b)=rM op k (a.ev l) (b.ev l):=by rw[X.ev,Ea]
theorem XR (l:List Int) (k:IntKind) (a:X):X.ev l (.conv k a)=k.wrap (a.ev l):=by rw[X.ev,uh]
theorem Rq (l:List Int) (a:X):X.ev l (.not a)=rX (!sJ (a.ev l)):=by rw[X.ev,yN]
theorem agj (l:List Int) (a b:X):X.ev l (.and a b)=rX (sJ (a.ev l)&&sJ (b.ev l)):=by
 rw[X.ev];cases sJ (a.ev l)<;>rfl
theorem agk (l:List Int) (a b:X):X.ev l (.beq a b)=rX (sJ (a.ev l)==sJ (b.ev l)):=by
 rw[X.ev];cases sJ (a.ev l)<;>cases sJ (b.ev l)<;>rfl
theorem XT (l:List Int) (a b:X):X.ev l (.min a b)=min (a.ev l) (b.ev l):=by
 rw[X.ev,yM]
 by_cases h:b.ev l<a.ev l
 ·rw[decide_eq_true h,Int.min_eq_right (by omega)]
 ·rw[decide_eq_false h,Int.min_eq_left (by omega)]
theorem XU (l:List Int) (a b:X):X.ev l (.max a b)=max (a.ev l) (b.ev l):=by
 rw[X.ev,yM]
 by_cases h:a.ev l<b.ev l
 ·rw[decide_eq_true h,Int.max_eq_right (by omega)]
 ·rw[decide_eq_false h,Int.max_eq_left (by omega)]
theorem XV (l:List Int) (c a b:X):X.ev l (.ite c a b)=if sJ (c.ev l)=true then a.ev l else b.ev l:=by
 rw[X.ev];cases sJ (c.ev l)<;>rfl
theorem XW (l:List Int) (i:Nat):X.ev l (.var kU i)=u64 (rC l i):=by rw[X.ev];rfl
theorem XX (l:List Int) (i:Nat):X.ev l (.var kI i)=i64 (rC l i):=by rw[X.ev];rfl
theorem agl (l:List Int) (i:Nat):X.ev l (.var kB i)=u8 (rC l i):=by rw[X.ev];rfl
theorem M9 (l:List Int) (i:Nat):X.ev l (.var .bool i)=rX (sJ (rC l i)):=by rw[X.ev];rfl
theorem agm (l:List Int) (i:Nat):X.ev l (.var .bit i)=rX (sJ (rC l i)):=by rw[X.ev];rfl
theorem XY (k:IntKind) (a b:Int):rM .eql k a b=rX (a==b):=by rw[rM]
theorem agn (k:IntKind) (a b:Int):rM .neq k a b=rX (a != b):=by rw[rM]
theorem XZ (k:IntKind) (a b:Int):rM .lss k a b=rX (decide (a<b)):=by rw[rM]
theorem agp (k:IntKind) (a b:Int):rM .leq k a b=rX (decide (a≤b)):=by rw[rM]
theorem agq (k:IntKind) (a b:Int):rM .gtr k a b=rX (decide (a>b)):=by rw[rM]
theorem agr (k:IntKind) (a b:Int):rM .geq k a b=rX (decide (a≥b)):=by rw[rM]
theorem ags (a b:Int):rM .add .i64 a b=i64 (a+b):=EJ _
theorem Na (a b:Int):rM .sub .i64 a b=i64 (a-b):=EJ _
theorem agt (a b:Int):rM .sub .u64 a b=u64 (a-b):=xY _
theorem Rs (p q r:Nat) (hp:p<rq) (hq:q<rq) (hr:r<64):rM .or .u64 (rM .shl .u64 (p:Int) (u64 (r:Int))) (rM .shr .u64 (rM .shr .u64 (q:Int) 1) (rM .sub .u64 63 (u64 (r:Int))))=((p*2^r%rq|||q/2^(64-r):Nat):Int):=by
 have e1:u64 (r:Int)=(r:Int):=M7 r (by rw[EK];omega)
 rw[e1,agt,show(63:Int)-(r:Int)=((63-r:Nat):Int) by omega,M7 (63-r) (by rw[EK];omega),agh p r (by omega),show(1:Int)=((1:Nat):Int) from rfl,XO q 1 (by omega),XO _ (63-r) (by omega)]
 have e2:q/2^1/2^(63-r)=q/2^(64-r):=by rw[Nat.div_div_eq_div_mul,← Nat.pow_add];congr 2;omega
 rw[e2]
 exact Rp _ _ (Nat.mod_lt _ uU) (Nat.lt_of_le_of_lt (Nat.div_le_self _ _) hq)
def tL:=And.intro @Kq (And.intro @BX (And.intro @BZ (And.intro @Kr (And.intro @Kt (And.intro @Ca (And.intro @Cb (And.intro @xZ (And.intro @Kv (And.intro @XQ (And.intro @XR (And.intro @XV (And.intro @XP (And.intro @XW (And.intro @XX (And.intro @agl (And.intro @M9 (And.intro @agm (And.intro @Rq (And.intro @agj (And.intro @agk (And.intro @XU (And.intro @XT (And.intro @XY (And.intro @agn (And.intro @XZ (And.intro @agp (And.intro @agq (And.intro @agr (And.intro @ags (And.intro @Na (And.intro @IB (And.intro @xY (And.intro @EJ (And.intro @XJ (And.intro @yG (And.intro @zt (And.intro @agb (@XK))))))))))))))))))))))))))))))))))))))
open Go.RowKit
theorem agu (c:Int) (M:Nat):∃ m:Nat,max (-(M:Int)) (min (max (i64 c) 0) (M:Int))=(m:Int)∧m=min (i64 c).toNat M:=⟨min (i64 c).toNat M,by omega,rfl⟩
theorem agv (m:Int):rM .shr .i64 m 6=m/64:=by
 simp only[rM,IntKind.bits]
 rw[show min ((6:Int).toNat) 64=6 by decide,Int.fdiv_eq_ediv_of_nonneg _ (by decide)];rfl
theorem agw {n:Int} (h1 : -1000≤n) (h2:n≤1000):i64 n=n:=IC (by omega) (by omega)
theorem agx (n j r:Nat) (hr:r<64):rM .or .u64 (rM .shl .u64 (wd n (j+1)) (u64 (r:Int))) (rM .shr .u64 (rM .shr .u64 (wd n j) 1) (rM .sub .u64 63 (u64 (r:Int))))=wd (n*2^r) (j+1):=by
 rw[Ro n r (j+1) hr,if_neg (by omega),show j+1-1=j by omega,yc,yc,Rs _ _ r (Nat.mod_lt _ uU) (Nat.mod_lt _ uU) hr,Int.toNat_natCast,Int.toNat_natCast]
theorem X0 (n r:Nat) (hr:r<64):rM .or .u64 (rM .shl .u64 (wd n 0) (u64 (r:Int))) (rM .shr .u64 0 (rM .sub .u64 63 (u64 (r:Int))))=wd (n*2^r) 0:=by
 have:=Rs (n/rq^0%rq) 0 r (Nat.mod_lt _ uU) uU hr
 rw[Ro n r 0 hr,if_pos rfl,yc,Int.toNat_natCast]
 simp only[Nat.zero_div] at this
 rw[← this]
 congr 1
theorem X3 (n r:Nat) (hr:r<64):rM .or .u64 (rM .shl .u64 (wd n 0) (u64 (r:Int))) (rM .shr .u64 (rM .shr .u64 0 1) (rM .sub .u64 63 (u64 (r:Int))))=wd (n*2^r) 0:=by
 have:=Rs (n/rq^0%rq) 0 r (Nat.mod_lt _ uU) uU hr
 rw[Ro n r 0 hr,if_pos rfl,yc,Int.toNat_natCast]
 simp only[Nat.zero_div] at this
 rw[← this]
 congr 1
theorem agy (r:Nat) (hr:r<64):rM .or .u64 (rM .shl .u64 0 (u64 (r:Int))) (rM .shr .u64 0 (rM .sub .u64 63 (u64 (r:Int))))=0:=by
 have:=X0 0 r hr;simp only[F8,Nat.zero_mul] at this;exact this
theorem agz (r:Nat) (hr:r<64):rM .or .u64 (rM .shl .u64 0 (u64 (r:Int))) (rM .shr .u64 (rM .shr .u64 0 1) (rM .sub .u64 63 (u64 (r:Int))))=0:=by
 have:=X3 0 r hr;simp only[F8,Nat.zero_mul] at this;exact this
theorem X4 (n m:Nat):wd (n*2^m) 0=(if m/64=0 then wd (n*2^(m%64)) 0 else 0)∧wd (n*2^m) 1=(if m/64=0 then wd (n*2^(m%64)) 1 else if m/64=1 then wd (n*2^(m%64)) 0 else 0):=by
 have e:n*2^m=n*2^(m%64)*rq^(m/64):=by
  conv=>lhs;rw[← Nat.div_add_mod m 64,Nat.pow_add,Nat.pow_mul,← F3]
  ac_rfl
 rw[e,XN,XN]
 constructor
 ·by_cases h:m/64=0
  ·rw[h,if_neg (by omega),if_pos rfl]
  ·rw[if_pos (by omega),if_neg h]
 ·by_cases h:m/64=0
  ·rw[h,if_neg (by omega),if_pos rfl]
  ·by_cases h1:m/64=1
   ·rw[h1,if_neg (by omega),if_neg (by omega),if_pos rfl]
   ·rw[if_pos (by omega),if_neg h,if_neg h1]
theorem agA (a b c:Int):MV [a,b,c]=oB (nB a b*2^(i64 c).toNat%rA):=by
 obtain⟨n,hn,e,h1,h0⟩:=Bg a b
 obtain⟨m,hm,hm2⟩:=agu c 128
 rw[MV,Re,ww rfl,e]
 simp only[Kq,BX,BZ,Kr,Kt,Ca,Cb,XQ,XR,XV,XP,XW,XX,XU,XT,h1,h0,xY]
 have hm':max (-128) (min (max (i64 c) 0) 128)=(m:Int):=hm
 rw[hm',agv,agi,Na,Na,Na]
 have hpow:n*2^(i64 c).toNat%rA=n*2^m%rA:=by
  by_cases h:(i64 c).toNat≤128
  ·rw[hm2,Nat.min_eq_left h]
  ·rw[hm2,Nat.min_eq_right (by omega),LQ,Nat.mul_mod_left]
   obtain⟨d,hd⟩:∃ d,(i64 c).toNat=128+d:=⟨(i64 c).toNat-128,by omega⟩
   rw[hd,Nat.pow_add,show n*(2^128*2^d)=n*2^d*2^128 by ac_rfl,Nat.mul_mod_left]
 rw[hpow]
 unfold oB
 rw[AL _ 1 (by decide),AL _ 0 (by decide),(X4 n m).1,(X4 n m).2]
 have hr:m%64<64:=Nat.mod_lt _ (by decide)
 have hc:((m:Int)%64)=((m%64:Nat):Int):=by simp
 have hd:((m:Int)/64)=((m/64:Nat):Int):=by simp
 have hle:m/64≤2:=by omega
 rw[hc,hd]
 generalize m/64=w at *
 generalize m%64=r at *
 rcases(show w=0∨w=1∨w=2 by omega) with rfl|rfl|rfl <;>
  simp[XZ,XY,IB,agw,agx,X0,X3,agy,agz,hr]
open Go.RowKit
theorem agB (a b:Int):MU [a,b] = [rX (decide (nB a b=0))]:=by
 obtain⟨n,hn,e,h1,h0⟩:=Bg a b
 rw[MU,QX,ww rfl,e]
 simp only[tL,h1,h0,show sJ 1=true from rfl,Bool.and_true]
 congr 2
 rw[Bool.eq_iff_iff]
 simp only[Bool.and_eq_true,beq_iff_eq,decide_eq_true_iff]
 exact ab9 hn
theorem agC (a b c d:Int):GM [a,b,c,d] = [wd (nB a b+nB c d) 1,wd (nB a b+nB c d) 0,rX (decide (rA≤nB a b+nB c d))]:=by
 obtain⟨x,hx,e,h1,h0⟩:=Bg a b
 obtain⟨y,hy,e',h1',h0'⟩:=Bg c d
 rw[e,e',GM,QY]
 have z0:tY 0=((uQ x y 0:Nat):Int):=by rw[TU];rfl
 have z1:tY ((uQ x y 1:Nat):Int)=((uQ x y 1:Nat):Int):=by unfold tY;rw[uI];exact MO (acm x y 1)
 refine(wy (r:=[wd (x+y) 0,((uQ x y 1:Nat):Int)]) ?_ rfl).trans ?_
 ·simp only[tL,V9,Ez,h1,h0,h1',h0',z0]
  rw[F4,F5]
 refine(wy (r:=[wd (x+y) 1,((uQ x y 2:Nat):Int)]) ?_ rfl).trans ?_
 ·simp only[tL,V9,Ez,h1,h0,h1',h0']
  rw[show rX (sJ ((uQ x y 1:Nat):Int))=tY ((uQ x y 1:Nat):Int) from rfl,z1,z1,F4,F5]
 rw[ww rfl]
 simp only[tL]
 congr 3
 rw[TV (i:=2) (by rw[AJ];exact hx) (by rw[AJ];exact hy),AJ]
 by_cases h:rA≤x+y
 ·rw[if_pos h,decide_eq_true h];rfl
 ·rw[if_neg h,decide_eq_false h];rfl
theorem agD (a b c d:Int):GQ [a,b,c,d] = [wd (nB a b+rA-nB c d) 1,wd (nB a b+rA-nB c d) 0,rX (decide (nB a b<nB c d))]:=by
 obtain⟨x,hx,e,h1,h0⟩:=Bg a b
 obtain⟨y,hy,e',h1',h0'⟩:=Bg c d
 rw[e,e',GQ,QZ]
 have z0:tY 0=((bin x y 0:Nat):Int):=by rw[TW];rfl
 have z1:tY ((bin x y 1:Nat):Int)=((bin x y 1:Nat):Int):=by unfold tY;rw[uI];exact MO (acn x y 1)
 have hle:y≤x+rq^2:=by rw[AJ];omega
 refine(wy (r:=[wd (x+rA-y) 0,((bin x y 1:Nat):Int)]) ?_ rfl).trans ?_
 ·simp only[tL,Wd,EA,h1,h0,h1',h0',z0]
  rw[F7 x y 0 2 (by decide) hle,F6,AJ]
 refine(wy (r:=[wd (x+rA-y) 1,((bin x y 2:Nat):Int)]) ?_ rfl).trans ?_
 ·simp only[tL,Wd,EA,h1,h0,h1',h0']
  rw[show rX (sJ ((bin x y 1:Nat):Int))=tY ((bin x y 1:Nat):Int) from rfl,z1,z1,F7 x y 1 2 (by decide) hle,F6,AJ]
 rw[ww rfl]
 simp only[tL]
 congr 3
 rw[TY (i:=2) (by rw[AJ];exact hx) (by rw[AJ];exact hy)]
 by_cases h:x<y
 ·rw[if_pos h,decide_eq_true h];rfl
 ·rw[if_neg h,decide_eq_false h];rfl
theorem Nc (a b:Int):GU [a,b]=oB ((u64 a).toNat*(u64 b).toNat):=by
 rw[GU,Q9]
 have h:=Ug (uz a).2 (uz b).2
 rw[(uz a).1,(uz b).1] at h
 refine(wy (r:=oB ((u64 a).toNat*(u64 b).toNat)) ?_ rfl).trans ?_
 ·simp only[tL,aeR,GI]
  rw[h.1,h.2]
 rw[ww rfl]
 simp only[tL]
theorem agE (a b c d:Int):GX [a,b,c,d]=oW (nB a b*rA+nB c d):=by
 obtain⟨x,hx,e,h1,h0⟩:=Bg a b
 obtain⟨y,hy,e',h1',h0'⟩:=Bg c d
 rw[e,e',GX,Ra,ww rfl]
 obtain⟨j0,j1,j2,j3⟩:=acb (h:=x) hy
 simp only[tL,h1,h0,h1',h0',j0,j1,j2,j3]
theorem X5 (a b c d:Int):Dj [a,b,c,d]=oB (nW a b c d/rA):=by
 obtain⟨n,hn,e,h0,h1,h2,h3⟩:=XM a b c d
 rw[e,Dj,Rb,ww rfl]
 simp only[tL,h2,h3,OX]
theorem X6 (a b c d:Int):Dk [a,b,c,d]=oB (nW a b c d):=by
 obtain⟨n,hn,e,h0,h1,h2,h3⟩:=XM a b c d
 rw[e,Dk,Rc,ww rfl]
 simp only[tL,h0,h1]
def len (n:Nat):Nat:=if n=0 then 0 else Nat.log2 n+1
theorem agF (a:Int):Hm [a] = [(FP.fW (fN a):Int),(FP.fP (fN a):Int),(FP.fE (fN a):Int)]:=by
 unfold fN
 rw[Hm,Rf]
 obtain⟨h1,h2⟩:=M6 a
 simp only[Ku,tL,Bool.not_eq_true',decide_eq_false_iff_not,decide_eq_true_iff,beq_iff_eq]
 generalize hf:u8 a=f at *
 by_cases h4:f<4
 ·rw[if_neg (by omega)]
  rcases(show f=0∨f=1∨f=2∨f=3 by omega) with rfl|rfl|rfl|rfl
  ·rw[if_pos rfl,ww rfl];rfl
  ·rw[if_neg (by decide),if_pos rfl,ww rfl];rfl
  ·rw[if_neg (by decide),if_neg (by decide),if_pos rfl,ww rfl];rfl
  ·rw[if_neg (by decide),if_neg (by decide),if_neg (by decide),ww rfl];rfl
 ·rw[if_pos h4,ww rfl]
  obtain⟨m,rfl⟩:∃ m:Nat,f=((m+4:Nat):Int):=⟨(f-4).toNat,by omega⟩
  rw[Int.toNat_natCast];rfl
open Go.RowKit
theorem XH (f:Nat):FP.fW f≤128:=by unfold FP.fW;split<;>decide
theorem agG {n:Nat} (h:n≤1000000000000):i64 (n:Int)=n:=IC (by omega) (by omega)
theorem agH (f:Nat):i64 (FP.fW f:Int)=FP.fW f:=agG (by have:=XH f;omega)
theorem agI (a:Int):Kn [a] = [(FP.fW (fN a):Int)]:=by
 rw[Kn,Rh]
 refine(wy (by simp only[tL,ae8];exact agF _) (by rfl)).trans ?_
 rw[ww rfl];simp only[tL,agc,agH]
theorem X7 (a b c d:Int):nW (u64 a) (u64 b) (u64 c) (u64 d)=nW a b c d:=by unfold nW;rw[zt,zt,zt,zt]
theorem agJ (n:Nat):nW (wd n 0) (wd n 1) (wd n 2) (wd n 3)=n%sF:=by
 have:=age (n:=n%sF) (Nat.mod_lt _ ab4)
 rw[← BC,Jz _ _ _ (by decide),Jz _ _ _ (by decide),Jz _ _ _ (by decide),Jz _ _ _ (by decide),BC] at this
 exact this
theorem Rt:sF=rA*rA:=by unfold sF;rfl
open Go.RowKit
def rW (n:Nat):List Int:=oW n
theorem agK (n:Nat):rW n=oW n:=rfl
theorem zu {n:Nat} (h:n<rA):nB (wd n 1) (wd n 0)=n:=by rw[M8,Nat.mod_eq_of_lt h]
open Go.RowKit
theorem IG {n:Nat} (h:n<sF):nW (wd n 0) (wd n 1) (wd n 2) (wd n 3)=n:=by rw[agJ,Nat.mod_eq_of_lt h]
open Go.RowKit
open Go.RowKit
open Go.RowKit
open Go.RowKit
theorem X8 (a b c d e f g h:Int):GJ [a,b,c,d,e,f,g,h]=Dh (nW a b c d+nW e f g h) (Nat.ble sF (nW a b c d+nW e f g h)):=rfl
theorem Ru (s:Nat) (b:Bool):Dh s b = [wd s 0,wd s 1,wd s 2,wd s 3,rX b]:=rfl
theorem X9 {p:Nat} (h:p<rA):nW 0 (wd p 0) (wd p 1) 0=p*rq:=by
 have:=zu h
 unfold nB at this
 rw[yG,yG] at this
 unfold nW
 rw[show u64 0=0 by decide,yG,yG,show(0:Int).toNat=0 from rfl,Nat.mul_zero,Nat.add_zero,Nat.zero_add,Nat.mul_comm rq]
 congr 1
 rw[Nat.mul_comm rq,Nat.add_comm];exact this
theorem Nf {a b:Nat} (ha:a<rq) (hb:b<rq):a*b<rA:=Nat.mul_lt_mul'' ha hb
theorem agL (a1 a0 b1 b0:Nat):(a1*rq+a0)*(b1*rq+b0)=a1*b1*rA+a0*b0+a1*b0*rq+a0*b1*rq:=by
 have e:rA=rq*rq:=rA.eq_1
 rw[e]
 generalize rq=w
 rw[Nat.add_mul,Nat.mul_add,Nat.mul_add]
 have h1:a1*w*(b1*w)=a1*b1*(w*w):=by ac_rfl
 have h2:a1*w*b0=a1*b0*w:=by ac_rfl
 have h3:a0*(b1*w)=a0*b1*w:=by ac_rfl
 rw[h1,h2,h3];omega
theorem agM (a b c d:Int):MW [a,b,c,d]=oW (nB a b*nB c d):=by
 refine Eq.trans ?_ (agK _)
 have ha:=(uz a).2;have hb:=(uz b).2;have hc:=(uz c).2;have hd:=(uz d).2
 have hab:=Dp a b;have hcd:=Dp c d
 have hprod:nB a b*nB c d<sF:=by
  have:=Nat.mul_lt_mul'' hab hcd
  rw[Rt];exact this
 have e0:nB a b*nB c d=(u64 a).toNat*(u64 c).toNat*rA+(u64 b).toNat*(u64 d).toNat+(u64 a).toNat*(u64 d).toNat*rq+(u64 b).toNat*(u64 c).toNat*rq:=agL _ _ _ _
 rw[e0] at hprod ⊢
 rw[MW,Ri]
 refine(wy (by simp only[tL,M3];exact Nc _ _) (by rfl)).trans ?_
 refine(wy (by simp only[tL,M3];exact Nc _ _) (by rfl)).trans ?_
 rw[zt,zt,zt,zt]
 have l11:=Nf ha hc;have l00:=Nf hb hd;have l10:=Nf ha hd;have l01:=Nf hb hc
 generalize (u64 a).toNat*(u64 c).toNat=p11 at *
 generalize (u64 b).toNat*(u64 d).toNat=p00 at *
 refine(wy (r:=oW (p11*rA+p00)) ?_ rfl).trans ?_
 ·simp only[tL,ae9];rw[agE,zu l11,zu l00,Kv]
 refine(wy (by simp only[tL,M3];exact Nc _ _) (by rfl)).trans ?_
 refine(wy (by simp only[tL,M3];exact Nc _ _) (by rfl)).trans ?_
 rw[zt,zt,zt,zt]
 generalize (u64 a).toNat*(u64 d).toNat=p10 at *
 generalize (u64 b).toNat*(u64 c).toNat=p01 at *
 refine(wy (r:=Dh (p11*rA+p00+p10*rq) (Nat.ble sF (p11*rA+p00+p10*rq))) ?_ rfl).trans ?_
 ·simp only[tL,Wx];rw[X8,IG (by omega),X9 l10]
 refine(wy (r:=Dh (p11*rA+p00+p10*rq+p01*rq) (Nat.ble sF (p11*rA+p00+p10*rq+p01*rq))) ?_ rfl).trans ?_
 ·simp only[tL,Ru,Wx];rw[X8,IG (by omega),X9 l01,Ru]
 rw[ww rfl]
 simp only[tL,Ru]
 rfl
open Go.RowKit
theorem agN (x y i:Nat):rM .or .u64 (wd x i) (wd y i)=wd (x|||y) i:=by
 rw[yc,yc,Rp _ _ (Nat.mod_lt _ uU) (Nat.mod_lt _ uU),yc]
 congr 1
 apply Nat.eq_of_testBit_eq
 intro k
 rw[Nat.testBit_or,EM,EM,EM,Nat.testBit_or]
 cases decide (k<64)<;>simp
open Go.RowKit
def agO (f t c:Nat):Nat:=c%2^(FP.fP f-1)*2^(129-FP.fP f)/2^(129-FP.fP t)
def agP (f t c:Nat):Nat:=FP.inf t+(agO f t c|||2^(FP.fP t-2))
theorem Ya {x i n:Nat} (h:x<2^n) (hi:i<n):(x|||2^i)<2^n:=Nat.or_lt_two_pow h (Nat.pow_lt_pow_right (by decide) hi)
open Go.RowKit
namespace FP
end FP
def yT (f t m:Nat) (after neg:Bool) (c:Nat):Nat×Nat :=
 if 4≤FP.clsC f c then(agP f t c,if FP.clsC f c=5 then 1 else 0) else if FP.clsC f c=3 then(FP.inf t,0) else FP.convC f t m after neg c
open Go.RowKit
end Go.Proofs.YtbembkamcdlhbaaGreatDoor
