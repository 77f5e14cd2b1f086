import Derived.Test.YtippohicjhilnaaGreatDoorZDTr
import Derived.Test.YtippohicjhilnaaGreatDoorZETr
import Derived.Test.YtippohicjhilnaaGreatDoorZFTr
set_option linter.defProp false
set_option linter.unusedSimpArgs false
set_option linter.unusedVariables false
set_option maxRecDepth 100000
namespace Go.Proofs.YtippohicjhilnaaGreatDoor
open Go.RowKit
theorem wM {α:Type} (l:List α):l ++ []=l:=by rw[List.append_nil]
theorem vK {α:Type} (a:α) (l m:List α):(a::l)++m=a::(l++m):=by rw[List.cons_append]
theorem vL {α:Type} (l:List α) : []++l=l:=by rw[List.nil_append]
theorem wN {α β:Type} (f:α->β) (a:α) (l:List α):List.map f (a::l)=f a::List.map f l:=by rw[List.map_cons]
theorem wO {α β:Type} (f:α->β):List.map f [] = []:=by rw[List.map_nil]
theorem vU (x:Int) (l:List Int):ul (x::l) 0=x:=by rw[ul]
theorem vV (x:Int) (l:List Int) (n:Nat):ul (x::l) (n+1)=ul l n:=by rw[ul]
theorem RA {β:Sort _} (l:List Int):∀ (xs:List X) (K:List Int->β),evs l xs K=K (xs.map (X.ev l))
 | [],K=>rfl
 | x::xs,K=>by rw[evs,Kt,RA l xs];rfl
theorem uj {Φ:wH} {ct:Ct} {a:SV} {l:List Int} {xs:List X} (h:Cy ct.r (ES ct.r a)=some xs):uq Φ ct (.leaf a) l=xs.map (X.ev l):=by unfold uq;simp only[yx,h,RA,id]
theorem uU {Φ:wH} {ct:Ct} {c:X} {a b:tL SV} {l:List Int} : uq Φ ct (.ite c a b) l=if uk (c.ev l)=true then uq Φ ct a l else uq Φ ct b l:=by unfold uq;simp only[yx];cases uk (c.ev l)<;>rfl
theorem tX {Φ:wH} {ct:Ct} {f:Nat} {args:List X} {base n:Nat} {t:tL SV} {l:List Int} {r:List Int} (h:Φ f (args.map (X.ev l))=r) (hn:r.length=n):uq Φ ct (.call f args base n t) l=uq Φ ct t (l++r):=by unfold uq;simp only[yx,RA,h];rw[show Nat.beq r.length n=true by rw[hn];exact Nat.beq_refl n]
theorem uE (b:Bool):uk (ui b)=b:=by cases b<;>rfl
def i64 (n:Int):Int:=xJ .i64 n
def u8 (n:Int):Int:=xJ .u8 n
theorem afh (n:Int) : -9223372036854775808<=i64 n/\i64 n<=9223372036854775807:=by unfold i64;rw[wP];exact EK .i64 n
theorem Fa (n:Int):0<=u8 n/\u8 n<=255:=by unfold u8;rw[wP];exact EK .u8 n
theorem afi (n:Int):0<=u64 n/\u64 n<=18446744073709551615:=by unfold u64;rw[wP];exact EK .u64 n
theorem vX {n:Int} (h1 : -9223372036854775808<=n) (h2:n<=9223372036854775807):i64 n=n:=by unfold i64;rw[wP];exact TR h1 h2
theorem NB {n:Int} (h1:0<=n) (h2:n<=255):u8 n=n:=by unfold u8;rw[wP];exact TR h1 h2
theorem Fb (n:Int):IntKind.i64.wrap n=i64 n:=by unfold i64;rw[wP]
theorem xL (n:Int):IntKind.u64.wrap n=u64 n:=by unfold u64;rw[wP]
theorem ZN (n:Int):IntKind.u8.wrap n=u8 n:=by unfold u8;rw[wP]
theorem aoH (n:Int):xJ .u64 n=u64 n:=rfl
theorem afj (n:Int):xJ .u8 n=u8 n:=rfl
theorem vJ (n:Int):i64 (i64 n)=i64 n:=vX (afh n).1 (afh n).2
theorem AC (n:Int):u64 (u64 n)=u64 n:=Gb (Cb n)
theorem CG (n:Int):u8 (u8 n)=u8 n:=NB (Fa n).1 (Fa n).2
theorem Fe (n:Nat) (h:n<tV):u64 (n:Int)=n:=Gb ⟨Int.natCast_nonneg _,by exact_mod_cast h⟩
theorem zT (n i:Nat):u64 (wd n i)=wd n i:=Gb (Bo _ _)
abbrev fN (a:Int):Nat:=(u8 a).toNat
theorem uD (a:Int):fN (u8 a)=fN a:=by unfold fN;rw[CG]
def nB (h l:Int):Nat:=(u64 h).toNat*tV+(u64 l).toNat
def nW (a b c d:Int):Nat:=(u64 a).toNat+tV*((u64 b).toNat+tV*((u64 c).toNat+tV*(u64 d).toNat))
def oB (n:Nat):List Int:=[wd n 1,wd n 0]
def oW (n:Nat):List Int:=[wd n 0,wd n 1,wd n 2,wd n 3]
theorem uV (n:Nat):oB n = [wd n 1,wd n 0]:=by rw[oB]
theorem yI (n:Nat):oW n = [wd n 0,wd n 1,wd n 2,wd n 3]:=by rw[oW]
theorem Bb:tV=18446744073709551616:=rfl
theorem NC:uh=340282366920938463463374607431768211456:=by decide
theorem Ff (h l:Int):nB h l<uh:=by unfold nB;have h1:=(xK h).2;have h2:=(xK l).2;rw[Bb] at *;rw[NC];omega
theorem Jn (h l:Int):u64 h=wd (nB h l) 1/\u64 l=wd (nB h l) 0:=by have h1:=(xK h);have h2:=(xK l);have e0:=al2 (h:=(u64 h).toNat) h2.2;have e1:=al3 h1.2 h2.2;unfold QE at e0 e1;unfold nB;rw[e0,e1];exact⟨h1.1.symm,h2.1.symm⟩
theorem afk {n:Nat} (h:n<uh):nB (wd n 1) (wd n 0)=n:=by have:=Jn (wd n 1) (wd n 0);rw[Gb (Bo _ _),Gb (Bo _ _)] at this;exact(adE h (Ff _ _) this.2 this.1).symm
theorem ND (n:Nat):nB (wd n 1) (wd n 0)=n%uh:=by have:=afk (n:=n%uh) (Nat.mod_lt _ FX);rw[FY n 1 (by decide),FY n 0 (by decide)] at this;exact this
theorem Jo (a b c d:Int):u64 a=wd (nW a b c d) 0/\u64 b=wd (nW a b c d) 1/\u64 c=wd (nW a b c d) 2/\u64 d=wd (nW a b c d) 3/\nW a b c d<uu:=by obtain⟨h0,h1,h2,h3,h4⟩:=aeY _ _ _ _ (xK a).2 (xK b).2 (xK c).2 (xK d).2;unfold nW;rw[h0,h1,h2,h3,(xK _).1,(xK _).1,(xK _).1,(xK _).1];exact⟨rfl,rfl,rfl,rfl,h4⟩
theorem Jp (a b c d:Int):nW a b c d<uu:=(Jo a b c d).2.2.2.2
theorem aoI {n:Nat} (h:n<uu):nW (wd n 0) (wd n 1) (wd n 2) (wd n 3)=n:=by obtain⟨h0,h1,h2,h3,h4⟩:=Jo (wd n 0) (wd n 1) (wd n 2) (wd n 3);rw[Gb (Bo _ _)] at h0 h1 h2 h3;exact(XG h h4 h0 h1 h2 h3).symm
theorem Ce (h l:Int):∃ n:Nat,n<uh/\nB h l=n/\u64 h=wd n 1/\u64 l=wd n 0:=⟨nB h l,Ff h l,rfl,(Jn h l).1,(Jn h l).2⟩
theorem KU (a b c d:Int):∃ n:Nat,n<uu/\nW a b c d=n/\u64 a=wd n 0/\u64 b=wd n 1/\u64 c=wd n 2/\u64 d=wd n 3:=by obtain⟨h0,h1,h2,h3,h4⟩:=Jo a b c d;exact⟨_,h4,rfl,h0,h1,h2,h3⟩
theorem xH (n i:Nat):wd n i=((n/tV^i%tV:Nat):Int):=rfl
theorem ZO (i:Nat):tV^i=2^(64*i):=by rw[EI,<- Nat.pow_mul]
theorem KV (a j k:Nat):(a/tV^j%tV).testBit k=(decide (k<64)&&a.testBit (64*j+k)):=by
 by_cases hk:k<64
 ·rw[MP a j k hk];simp[hk]
 ·rw[EI,Nat.testBit_mod_two_pow];simp[hk]
theorem aoJ (a r j:Nat) (hr:r<64):a*2^r/tV^j%tV=(a/tV^j%tV*2^r%tV)|||(if j=0 then 0 else a/tV^(j-1)%tV/2^(64-r)):=by
 apply Nat.eq_of_testBit_eq;intro k;have e:tV=2^64:=EI;rw[KV,Nat.testBit_or,show a/tV^j%tV*2^r%tV=a/tV^j%tV*2^r%2^64 by rw[<- e],Nat.testBit_mod_two_pow,Nat.testBit_mul_two_pow,Nat.testBit_mul_two_pow,KV];by_cases hk:k<64
 ·by_cases hj:j=0
  ·subst hj;by_cases h:r<=k
   ·simp[hk,h];intro;omega
   ·simp[hk,h]
  ·rw[if_neg hj,Nat.testBit_div_two_pow,KV];by_cases h:r<=k
   ·have h2:¬ (64-r+k<64):=by omega
    have h3:k-r<64:=by omega
    simp[hk,h,h3,show r<=64*j+k by omega,show 64*j+k-r=64*j+(k-r) by omega,show ¬ (k+(64-r)<64) by omega]
   ·simp[hk,h,show r<=64*j+k by omega,show k+(64-r)<64 by omega,show 64*j+k-r=64*(j-1)+(k+(64-r)) by omega]
 ·by_cases hj:j=0
  ·subst hj;simp[hk]
  ·rw[if_neg hj,Nat.testBit_div_two_pow,KV];simp[hk];intro h;omega
theorem ZP (a r j:Nat) (hr:r<64):wd (a*2^r) j=((((wd a j).toNat*2^r%tV)|||(if j=0 then 0 else(wd a (j-1)).toNat/2^(64-r)):Nat):Int):=by rw[xH,aoJ a r j hr,xH,xH,Int.toNat_natCast,Int.toNat_natCast]
theorem ZQ (a w i:Nat):wd (a*tV^w) i=if i<w then 0 else wd a (i-w):=by
 rw[xH,xH];split
 ·rename_i h;obtain⟨d,rfl⟩:∃ d,w=i+1+d:=⟨w-i-1,by omega⟩;rw[show a*tV^(i+1+d)=a*tV^d*tV*tV^i by rw[Nat.pow_add,Nat.pow_add,Nat.pow_one];ac_rfl,Nat.mul_div_cancel _ (BR i),Nat.mul_mod_left];rfl
 ·rename_i h;obtain⟨d,rfl⟩:∃ d,i=w+d:=⟨i-w,by omega⟩;rw[Nat.pow_add,<- Nat.div_div_eq_div_mul,Nat.mul_div_cancel _ (BR w),show w+d-w=d by omega]
theorem UQ (x y:Nat) (hx:x<tV) (hy:y<tV):uA .or .u64 (x:Int) (y:Int)=((x|||y:Nat):Int):=by
 have e:tV=2^64:=EI;rw[<- GY];simp only[fold];have h1:wm .u64 (x:Int)=x:=by show x%zo .u64=x;rw[show zo .u64=tV from rfl,Nat.mod_eq_of_lt hx]
 have h2:wm .u64 (y:Int)=y:=by show y%zo .u64=y;rw[show zo .u64=tV from rfl,Nat.mod_eq_of_lt hy]
 rw[h1,h2];have:x|||y<tV:=by rw[e] at *;exact Nat.or_lt_two_pow hx hy
 exact Fe _ this
theorem aoK (x r:Nat) (hr:r<=64):uA .shl .u64 (x:Int) (r:Int)=((x*2^r%tV:Nat):Int):=by simp only[uA,Int.toNat_natCast,IntKind.bits,Nat.min_eq_left hr];rw[show((x:Int)*2^r)=((x*2^r:Nat):Int) by push_cast;rfl,xL];unfold u64;rw[wP];unfold IntKind.wrap IntKind.bits IntKind.signed;simp[Bb]
theorem ZR (x r:Nat) (hr:r<=64):uA .shr .u64 (x:Int) (r:Int)=((x/2^r:Nat):Int):=by simp only[uA,Int.toNat_natCast,IntKind.bits,Nat.min_eq_left hr];rw[Int.fdiv_eq_ediv_of_nonneg _ (Int.pow_nonneg (by decide))];simp
theorem UR (m:Int):uA .and .i64 m 63=m%64:=by
 rw[<- GY];simp only[fold];have h2:wm .i64 63=63:=by decide
 have h1:=XK .i64 m;have h3:Nat.land (wm .i64 m) 63=wm .i64 m%64:=Nat.and_two_pow_sub_one_eq_mod (n:=6) (x:=wm .i64 m);rw[h2,wP,h3,show Int.ofNat (wm .i64 m%64)=((wm .i64 m%64:Nat):Int) from rfl,Fb,vX (by omega) (by omega)];show((wm .i64 m%64:Nat):Int)=m%64;have h4:((wm .i64 m%64:Nat):Int)=(wm .i64 m:Int)%64:=by simp
 rw[h4,h1];show m%18446744073709551616%64=m%64;omega
theorem aoL (m:Nat):uA .and .i64 (m:Int) 63=((m%64:Nat):Int):=by
 rw[<- GY];simp only[fold];have h2:wm .i64 63=63:=by decide
 rw[h2,wP]
 have h1:wm .i64 (m:Int)%64=m%64:=by show m%zo .i64%64=m%64;rw[show zo .i64=64*288230376151711744 from rfl,Nat.mod_mul_right_mod]
 have h3:Nat.land (wm .i64 (m:Int)) 63=m%64:=by rw[<- h1];exact Nat.and_two_pow_sub_one_eq_mod (n:=6) (x:=wm .i64 (m:Int))
 rw[h3,show Int.ofNat (m%64)=((m%64:Nat):Int) from rfl,Fb];exact vX (by omega) (by omega)
theorem Ak (l:List Int) (n:Int):X.ev l (.lit n)=n:=by rw[X.ev]
theorem Al (l:List Int) (op:BinOp) (k:IntKind) (a b:X):X.ev l (.bin op k a b)=uA op k (a.ev l) (b.ev l):=by rw[X.ev,GY]
theorem NE (l:List Int) (k:IntKind) (a:X):X.ev l (.conv k a)=k.wrap (a.ev l):=by rw[X.ev,wP]
theorem Fg (l:List Int) (a:X):X.ev l (.not a)=ui (!uk (a.ev l)):=by rw[X.ev,Cu]
theorem afl (l:List Int) (a b:X):X.ev l (.and a b)=ui (uk (a.ev l)&&uk (b.ev l)):=by rw[X.ev];cases uk (a.ev l)<;>rfl
theorem afm (l:List Int) (a b:X):X.ev l (.beq a b)=ui (uk (a.ev l)==uk (b.ev l)):=by rw[X.ev];cases uk (a.ev l)<;>cases uk (b.ev l)<;>rfl
theorem Hz (l:List Int) (a b:X):X.ev l (.min a b)=min (a.ev l) (b.ev l):=by
 rw[X.ev,Cs];by_cases h:b.ev l<a.ev l
 ·rw[decide_eq_true h,Int.min_eq_right (by omega)]
 ·rw[decide_eq_false h,Int.min_eq_left (by omega)]
theorem HV (l:List Int) (a b:X):X.ev l (.max a b)=max (a.ev l) (b.ev l):=by
 rw[X.ev,Cs];by_cases h:a.ev l<b.ev l
 ·rw[decide_eq_true h,Int.max_eq_right (by omega)]
 ·rw[decide_eq_false h,Int.max_eq_left (by omega)]
theorem NF (l:List Int) (c a b:X):X.ev l (.ite c a b)=if uk (c.ev l)=true then a.ev l else b.ev l:=by rw[X.ev];cases uk (c.ev l)<;>rfl
theorem NG (l:List Int) (i:Nat):X.ev l (.var kU i)=u64 (ul l i):=by rw[X.ev];rfl
theorem CJ (l:List Int) (i:Nat):X.ev l (.var kI i)=i64 (ul l i):=by rw[X.ev];rfl
theorem KW (l:List Int) (i:Nat):X.ev l (.var kB i)=u8 (ul l i):=by rw[X.ev];rfl
theorem Am (l:List Int) (i:Nat):X.ev l (.var .bool i)=ui (uk (ul l i)):=by rw[X.ev];rfl
theorem afn (l:List Int) (i:Nat):X.ev l (.var .bit i)=ui (uk (ul l i)):=by rw[X.ev];rfl
theorem KX (k:IntKind) (a b:Int):uA .eql k a b=ui (a==b):=by rw[uA]
theorem afo (k:IntKind) (a b:Int):uA .neq k a b=ui (a != b):=by rw[uA]
theorem Dp (k:IntKind) (a b:Int):uA .lss k a b=ui (decide (a<b)):=by rw[uA]
theorem RB (k:IntKind) (a b:Int):uA .leq k a b=ui (decide (a<=b)):=by rw[uA]
theorem UT (k:IntKind) (a b:Int):uA .gtr k a b=ui (decide (a>b)):=by rw[uA]
theorem RF (k:IntKind) (a b:Int):uA .geq k a b=ui (decide (a>=b)):=by rw[uA]
theorem ZT (a b:Int):uA .add .i64 a b=i64 (a+b):=Fb _
theorem Dq (a b:Int):uA .sub .i64 a b=i64 (a-b):=Fb _
theorem aoM (a b:Int):uA .sub .u64 a b=u64 (a-b):=xL _
theorem ZU (p q r:Nat) (hp:p<tV) (hq:q<tV) (hr:r<64):uA .or .u64 (uA .shl .u64 (p:Int) (u64 (r:Int))) (uA .shr .u64 (uA .shr .u64 (q:Int) 1) (uA .sub .u64 63 (u64 (r:Int))))=((p*2^r%tV|||q/2^(64-r):Nat):Int):=by
 have e1:u64 (r:Int)=(r:Int):=Fe r (by rw[Bb];omega);rw[e1,aoM,show(63:Int)-(r:Int)=((63-r:Nat):Int) by omega,Fe (63-r) (by rw[Bb];omega),aoK p r (by omega),show(1:Int)=((1:Nat):Int) from rfl,ZR q 1 (by omega),ZR _ (63-r) (by omega)];have e2:q/2^1/2^(63-r)=q/2^(64-r):=by rw[Nat.div_div_eq_div_mul,<- Nat.pow_add];congr 2;omega
 rw[e2];exact UQ _ _ (Nat.mod_lt _ xm) (Nat.lt_of_le_of_lt (Nat.div_le_self _ _) hq)
def tK:=And.intro @wM (And.intro @vK (And.intro @vL (And.intro @wN (And.intro @wO (And.intro @vU (And.intro @vV (And.intro @uV (And.intro @yI (And.intro @Al (And.intro @NE (And.intro @NF (And.intro @Ak (And.intro @NG (And.intro @CJ (And.intro @KW (And.intro @Am (And.intro @afn (And.intro @Fg (And.intro @afl (And.intro @afm (And.intro @HV (And.intro @Hz (And.intro @KX (And.intro @afo (And.intro @Dp (And.intro @RB (And.intro @UT (And.intro @RF (And.intro @ZT (And.intro @Dq (And.intro @uE (And.intro @xL (And.intro @Fb (And.intro @ZN (And.intro @zT (And.intro @AC (And.intro @vJ (@CG))))))))))))))))))))))))))))))))))))))
theorem afp (c:Int) (M:Nat):∃ m:Nat,max (-(M:Int)) (min (max (i64 c) 0) (M:Int))=(m:Int)/\m=min (i64 c).toNat M:=⟨min (i64 c).toNat M,by omega,rfl⟩
theorem afq (c:Int) (M:Nat):∃ m:Nat,max (-(M:Int)) (min (0-min (max (i64 c) 0) (M:Int)) (M:Int)) = -(m:Int)/\m=min (i64 c).toNat M:=⟨min (i64 c).toNat M,by omega,rfl⟩
theorem RG (m:Int):uA .shr .i64 m 6=m/64:=by simp only[uA,IntKind.bits];rw[show min ((6:Int).toNat) 64=6 by decide,Int.fdiv_eq_ediv_of_nonneg _ (by decide)];rfl
theorem Ao {n:Int} (h1 : -1000<=n) (h2:n<=1000):i64 n=n:=vX (by omega) (by omega)
theorem RH (n j r:Nat) (hr:r<64):uA .or .u64 (uA .shl .u64 (wd n (j+1)) (u64 (r:Int))) (uA .shr .u64 (uA .shr .u64 (wd n j) 1) (uA .sub .u64 63 (u64 (r:Int))))=wd (n*2^r) (j+1):=by rw[ZP n r (j+1) hr,if_neg (by omega),show j+1-1=j by omega,xH,xH,ZU _ _ r (Nat.mod_lt _ xm) (Nat.mod_lt _ xm) hr,Int.toNat_natCast,Int.toNat_natCast]
theorem RI (n r:Nat) (hr:r<64):uA .or .u64 (uA .shl .u64 (wd n 0) (u64 (r:Int))) (uA .shr .u64 0 (uA .sub .u64 63 (u64 (r:Int))))=wd (n*2^r) 0:=by have:=ZU (n/tV^0%tV) 0 r (Nat.mod_lt _ xm) xm hr;rw[ZP n r 0 hr,if_pos rfl,xH,Int.toNat_natCast];simp only[Nat.zero_div] at this;rw[<- this];congr 1
theorem RJ (n r:Nat) (hr:r<64):uA .or .u64 (uA .shl .u64 (wd n 0) (u64 (r:Int))) (uA .shr .u64 (uA .shr .u64 0 1) (uA .sub .u64 63 (u64 (r:Int))))=wd (n*2^r) 0:=by have:=ZU (n/tV^0%tV) 0 r (Nat.mod_lt _ xm) xm hr;rw[ZP n r 0 hr,if_pos rfl,xH,Int.toNat_natCast];simp only[Nat.zero_div] at this;rw[<- this];congr 1
theorem afr (n j r:Nat) (hr:r<64) (h:wd n (j+1)=0):uA .or .u64 (uA .shl .u64 0 (u64 (r:Int))) (uA .shr .u64 (uA .shr .u64 (wd n j) 1) (uA .sub .u64 63 (u64 (r:Int))))=wd (n*2^r) (j+1):=by have:=RH n j r hr;rw[h] at this;exact this
theorem UU (r:Nat) (hr:r<64):uA .or .u64 (uA .shl .u64 0 (u64 (r:Int))) (uA .shr .u64 0 (uA .sub .u64 63 (u64 (r:Int))))=0:=by have:=RI 0 r hr;simp only[BS,Nat.zero_mul] at this;exact this
theorem UV (r:Nat) (hr:r<64):uA .or .u64 (uA .shl .u64 0 (u64 (r:Int))) (uA .shr .u64 (uA .shr .u64 0 1) (uA .sub .u64 63 (u64 (r:Int))))=0:=by have:=RJ 0 r hr;simp only[BS,Nat.zero_mul] at this;exact this
theorem afs (n m:Nat):wd (n*2^m) 0=(if m/64=0 then wd (n*2^(m%64)) 0 else 0)/\wd (n*2^m) 1=(if m/64=0 then wd (n*2^(m%64)) 1 else if m/64=1 then wd (n*2^(m%64)) 0 else 0):=by
 have e:n*2^m=n*2^(m%64)*tV^(m/64):=by
  conv=>lhs;rw[<- Nat.div_add_mod m 64,Nat.pow_add,Nat.pow_mul,<- EI]
  ac_rfl
 rw[e,ZQ,ZQ];constructor
 ·by_cases h:m/64=0
  ·rw[h,if_neg (by omega),if_pos rfl]
  ·rw[if_pos (by omega),if_neg h]
 ·by_cases h:m/64=0
  ·rw[h,if_neg (by omega),if_pos rfl]
  ·by_cases h1:m/64=1
   ·rw[h1,if_neg (by omega),if_neg (by omega),if_pos rfl]
   ·rw[if_pos (by omega),if_neg h,if_neg h1]
theorem UW (a b c:Int):zU [a,b,c]=oB (nB a b*2^(i64 c).toNat%uh):=by
 obtain⟨n,hn,e,h1,h0⟩:=Ce a b;obtain⟨m,hm,hm2⟩:=afp c 128;rw[zU,aa3,uj rfl,e];simp only[wM,vK,vL,wN,wO,vU,vV,Al,NE,NF,Ak,NG,CJ,HV,Hz,h1,h0,xL];have hm':max (-128) (min (max (i64 c) 0) 128)=(m:Int):=hm;rw[hm',RG,UR,Dq,Dq,Dq]
 have hpow:n*2^(i64 c).toNat%uh=n*2^m%uh:=by
  by_cases h:(i64 c).toNat<=128
  ·rw[hm2,Nat.min_eq_left h]
  ·rw[hm2,Nat.min_eq_right (by omega),yN,Nat.mul_mod_left];obtain⟨d,hd⟩:∃ d,(i64 c).toNat=128+d:=⟨(i64 c).toNat-128,by omega⟩;rw[hd,Nat.pow_add,show n*(2^128*2^d)=n*2^d*2^128 by ac_rfl,Nat.mul_mod_left]
 rw[hpow];unfold oB;rw[FY _ 1 (by decide),FY _ 0 (by decide),(afs n m).1,(afs n m).2];have hr:m%64<64:=Nat.mod_lt _ (by decide);have hc:((m:Int)%64)=((m%64:Nat):Int):=by simp
 have hd:((m:Int)/64)=((m/64:Nat):Int):=by simp
 have hle:m/64<=2:=by omega
 rw[hc,hd];generalize m/64=w at *
 generalize m%64=r at *
 rcases(show w=0\/w=1\/w=2 by omega) with rfl|rfl|rfl <;>
  simp[Dp,KX,uE,Ao,RH,RI,RJ,UU,UV,hr]
theorem UX (n m i:Nat):wd (n*2^m) i=if i<m/64 then 0 else wd (n*2^(m%64)) (i-m/64):=by
 have e:n*2^m=n*2^(m%64)*tV^(m/64):=by
  conv=>lhs;rw[<- Nat.div_add_mod m 64,Nat.pow_add,Nat.pow_mul,<- EI]
  ac_rfl
 rw[e,ZQ]
theorem NH (n k r w i:Nat) (h:k+r=64*w):wd (n/2^k) i=wd (n*2^r) (w+i):=by rw[<- adF,ZO,<- h,Nat.pow_add,Nat.mul_comm (2^k),<- Nat.div_div_eq_div_mul,Nat.mul_div_cancel _ (FP.two_pow_pos r)]
theorem aoN {n c M W:Nat} (hW:W=2^M):n*2^c%W=n*2^(min c M)%W:=by
 by_cases h:c<=M
 ·rw[Nat.min_eq_left h]
 ·rw[Nat.min_eq_right (by omega),hW,Nat.mul_mod_left];obtain⟨d,hd⟩:∃ d,c=M+d:=⟨c-M,by omega⟩;rw[hd,Nat.pow_add,show n*(2^M*2^d)=n*2^d*2^M by ac_rfl,Nat.mul_mod_left]
theorem aft {n c M W:Nat} (hW:W=2^M) (hn:n<W):n/2^c=n/2^(min c M):=by
 by_cases h:c<=M
 ·rw[Nat.min_eq_left h]
 ·rw[hW] at hn;have h2:n<2^c:=Nat.lt_of_lt_of_le hn (Nat.pow_le_pow_right (by decide) (by omega));rw[Nat.min_eq_right (by omega),Nat.div_eq_of_lt hn,Nat.div_eq_of_lt h2]
theorem UY (n r i j:Nat) (hr:r<64) (hn:n<tV^j) (hi:j+1<=i):wd (n*2^r) i=0:=by refine QH (m:=j+1) i ?_ hi;rw[Nat.pow_succ];refine Nat.lt_of_lt_of_le (Nat.mul_lt_mul_of_pos_right hn (FP.two_pow_pos r)) ?_;rw[EI];exact Nat.mul_le_mul_left _ (Nat.pow_le_pow_right (by decide) (by omega))
theorem afu (a b c:Int):H5 [a,b,c]=oB (nB a b/2^(i64 c).toNat):=by
 obtain⟨n,hn,e,h1,h0⟩:=Ce a b;obtain⟨k,hk,hk2⟩:=afq c 128;rw[H5,aa4,uj rfl,e];simp only[wM,vK,vL,wN,wO,vU,vV,Al,NE,NF,Ak,NG,CJ,HV,Hz,h1,h0,xL];have hs:uA .sub .i64 0 (min (max (i64 c) 0) 128)=0-min (max (i64 c) 0) 128:=by rw[Dq];exact Ao (by omega) (by omega)
 have hk':max (-128) (min (0-min (max (i64 c) 0) 128) 128) = -(k:Int):=hk;rw[hs,hk',RG,UR];simp only[Dq];rw[aft yN hn,<- hk2];obtain⟨w,r,hw,hr,hw2⟩:∃ w r:Nat,k+r=64*w/\r<64/\w<=2:=⟨(k+63)/64,64*((k+63)/64)-k,by omega,by omega,by omega⟩;have hc:(-(k:Int))%64=((r:Nat):Int):=by omega
 have hd:(-(k:Int))/64 = -((w:Nat):Int):=by omega
 rw[hc,hd];unfold oB;rw[NH n k r w 0 hw,NH n k r w 1 hw];have z2:=(XH hn).1;have t2:=afr n 1 r hr z2;have t3:=UY n r 3 2 hr (by rw[DV];exact hn) (by decide)
 rcases(show w=0\/w=1\/w=2 by omega) with rfl|rfl|rfl <;>
  simp[Dp,KX,RF,uE,Ao,RH,RI,RJ,UU,UV,hr,t2,t3]
theorem ZV (a b c d x:Int):OO [a,b,c,d,x]=oW (nW a b c d*2^(i64 x).toNat%uu):=by
 obtain⟨n,hn,e,h0,h1,h2,h3⟩:=KU a b c d;obtain⟨m,hm,hm2⟩:=afp x 256;rw[OO,aa5,uj rfl,e];simp only[wM,vK,vL,wN,wO,vU,vV,Al,NE,NF,Ak,NG,CJ,HV,Hz,h0,h1,h2,h3,xL];have hm':max (-256) (min (max (i64 x) 0) 256)=(m:Int):=hm;rw[hm',RG,UR];simp only[Dq];rw[aoN DU,<- hm2];unfold oW;rw[<- DW,GU _ _ _ (by decide),GU _ _ _ (by decide),GU _ _ _ (by decide),GU _ _ _ (by decide),UX n m 0,UX n m 1,UX n m 2,UX n m 3];have hr:m%64<64:=Nat.mod_lt _ (by decide);have hc:((m:Int)%64)=((m%64:Nat):Int):=by simp
 have hd:((m:Int)/64)=((m/64:Nat):Int):=by simp
 have hle:m/64<=4:=by omega
 rw[hc,hd];generalize m/64=w at *
 generalize m%64=r at *
 rcases(show w=0\/w=1\/w=2\/w=3\/w=4 by omega) with rfl|rfl|rfl|rfl|rfl <;>
  simp[Dp,KX,RF,uE,Ao,RH,RI,RJ,UU,UV,hr]
theorem UZ (a b c d x:Int):Dx [a,b,c,d,x]=oW (nW a b c d/2^(i64 x).toNat):=by
 obtain⟨n,hn,e,h0,h1,h2,h3⟩:=KU a b c d;obtain⟨k,hk,hk2⟩:=afq x 256;rw[Dx,aa6,uj rfl,e];simp only[wM,vK,vL,wN,wO,vU,vV,Al,NE,NF,Ak,NG,CJ,HV,Hz,h0,h1,h2,h3,xL];have hs:uA .sub .i64 0 (min (max (i64 x) 0) 256)=0-min (max (i64 x) 0) 256:=by rw[Dq];exact Ao (by omega) (by omega)
 have hk':max (-256) (min (0-min (max (i64 x) 0) 256) 256) = -(k:Int):=hk;rw[hs,hk',RG,UR];simp only[Dq];rw[aft DU hn,<- hk2];obtain⟨w,r,hw,hr,hw2⟩:∃ w r:Nat,k+r=64*w/\r<64/\w<=4:=⟨(k+63)/64,64*((k+63)/64)-k,by omega,by omega,by omega⟩;have hc:(-(k:Int))%64=((r:Nat):Int):=by omega
 have hd:(-(k:Int))/64 = -((w:Nat):Int):=by omega
 rw[hc,hd];unfold oW;rw[NH n k r w 0 hw,NH n k r w 1 hw,NH n k r w 2 hw,NH n k r w 3 hw];have hn4:n<tV^4:=by rw[DW];exact hn
 have z4:wd n 4=0:=QH (m:=4) 4 hn4 (by decide);have t4:=afr n 3 r hr z4;have t5:=UY n r 5 4 hr hn4 (by decide);have t6:=UY n r 6 4 hr hn4 (by decide);have t7:=UY n r 7 4 hr hn4 (by decide)
 rcases(show w=0\/w=1\/w=2\/w=3\/w=4 by omega) with rfl|rfl|rfl|rfl|rfl <;>
  simp[Dp,KX,RF,uE,Ao,RH,RI,RJ,UU,UV,hr,t4,t5,t6,t7]
theorem and1 (x:Nat) (hx:x<tV):uA .and .u64 (x:Int) 1=((x%2:Nat):Int):=by
 rw[<- GY];simp only[fold];have h1:wm .u64 (x:Int)=x:=by show x%zo .u64=x;rw[show zo .u64=tV from rfl,Nat.mod_eq_of_lt hx]
 have h2:wm .u64 1=1:=by decide
 have h3:Nat.land x 1=x%2:=Nat.and_two_pow_sub_one_eq_mod (n:=1) (x:=x);rw[h1,h2,h3,show Int.ofNat (x%2)=((x%2:Nat):Int) from rfl,aoH];exact Fe _ (by rw[Bb];omega)
theorem U0 (n j k:Nat) (hk:k<64):(uA .and .u64 (uA .shr .u64 (wd n j) (k:Int)) 1==1)=n.testBit (64*j+k):=by rw[xH,ZR _ k (by omega),and1 _ (Nat.lt_of_le_of_lt (Nat.div_le_self _ _) (Nat.mod_lt _ xm)),<- MP n j k hk,Nat.testBit_eq_decide_div_mod_eq,Bool.eq_iff_iff,beq_iff_eq,decide_eq_true_iff];generalize n/tV^j%tV/2^k=y;omega
theorem afv (a b:Int):Oy [a,b] = [ui (decide (nB a b=0))]:=by obtain⟨n,hn,e,h1,h0⟩:=Ce a b;rw[Oy,aaT,uj rfl,e];simp only[tK,h1,h0,show uk 1=true from rfl,Bool.and_true];congr 2;rw[Bool.eq_iff_iff];simp only[Bool.and_eq_true,beq_iff_eq,decide_eq_true_iff];exact ama hn
theorem U1 (a b c:Int):Gm [a,b,c] = [ui (Kq (nB a b) (i64 c))]:=by
 obtain⟨n,hn,e,h1,h0⟩:=Ce a b;rw[Gm,aaU,e];simp only[uU,tK,h1,h0,decide_eq_true_iff];generalize hi:i64 c=i;by_cases h2:i<0
 ·rw[if_pos h2,uj rfl,al8 h2];rfl
 rw[if_neg h2];by_cases h3:i>127
 ·rw[if_pos h3,uj rfl,al9 hn h3];rfl
 rw[if_neg h3];obtain⟨m,rfl⟩:∃ m:Nat,i=(m:Int):=⟨i.toNat,by omega⟩;rw[QG];by_cases h4:(m:Int)>63
 ·rw[if_pos h4,uj rfl];simp only[tK,h1,h0,hi];rw[show i64 ((m:Int)-64)=((m-64:Nat):Int) by rw[vX (by omega) (by omega)];omega,U0 n 1 (m-64) (by omega),show 64*1+(m-64)=m by omega]
 ·rw[if_neg h4,uj rfl];simp only[tK,h1,h0,hi];rw[U0 n 0 m (by omega)];simp
theorem afw (a b c d:Int):Ch [a,b,c,d] = [wd (nB a b+nB c d) 1,wd (nB a b+nB c d) 0,ui (decide (uh<=nB a b+nB c d))]:=by
 obtain⟨x,hx,e,h1,h0⟩:=Ce a b;obtain⟨y,hy,e',h1',h0'⟩:=Ce c d;rw[e,e',Ch,aaV];have z0:wT 0=((yn x y 0:Nat):Int):=by rw[ady];rfl
 have z1:wT ((yn x y 1:Nat):Int)=((yn x y 1:Nat):Int):=by unfold wT;rw[xW];exact UG (amn x y 1)
 refine(tX (r:=[wd (x+y) 0,((yn x y 1:Nat):Int)]) ?_ rfl).trans ?_
 ·simp only[tK,ahF,KR,h1,h0,h1',h0',z0];rw[ML,MM]
 refine(tX (r:=[wd (x+y) 1,((yn x y 2:Nat):Int)]) ?_ rfl).trans ?_
 ·simp only[tK,ahF,KR,h1,h0,h1',h0'];rw[show ui (uk ((yn x y 1:Nat):Int))=wT ((yn x y 1:Nat):Int) from rfl,z1,z1,ML,MM]
 rw[uj rfl];simp only[tK];congr 3;rw[adz (i:=2) (by rw[DV];exact hx) (by rw[DV];exact hy),DV];by_cases h:uh<=x+y
 ·rw[if_pos h,decide_eq_true h];rfl
 ·rw[if_neg h,decide_eq_false h];rfl
theorem afx (a b c d:Int):Gn [a,b,c,d] = [wd (nB a b+uh-nB c d) 1,wd (nB a b+uh-nB c d) 0,ui (decide (nB a b<nB c d))]:=by
 obtain⟨x,hx,e,h1,h0⟩:=Ce a b;obtain⟨y,hy,e',h1',h0'⟩:=Ce c d;rw[e,e',Gn,aaW];have z0:wT 0=((bin x y 0:Nat):Int):=by rw[adA];rfl
 have z1:wT ((bin x y 1:Nat):Int)=((bin x y 1:Nat):Int):=by unfold wT;rw[xW];exact UG (amo x y 1)
 have hle:y<=x+tV^2:=by rw[DV];omega
 refine(tX (r:=[wd (x+uh-y) 0,((bin x y 1:Nat):Int)]) ?_ rfl).trans ?_
 ·simp only[tK,ahG,KS,h1,h0,h1',h0',z0];rw[MO x y 0 2 (by decide) hle,MN,DV]
 refine(tX (r:=[wd (x+uh-y) 1,((bin x y 2:Nat):Int)]) ?_ rfl).trans ?_
 ·simp only[tK,ahG,KS,h1,h0,h1',h0'];rw[show ui (uk ((bin x y 1:Nat):Int))=wT ((bin x y 1:Nat):Int) from rfl,z1,z1,MO x y 1 2 (by decide) hle,MN,DV]
 rw[uj rfl];simp only[tK];congr 3;rw[adB (i:=2) (by rw[DV];exact hx) (by rw[DV];exact hy)];by_cases h:x<y
 ·rw[if_pos h,decide_eq_true h];rfl
 ·rw[if_neg h,decide_eq_false h];rfl
theorem U2 (a b:Int):OD [a,b]=oB ((u64 a).toNat*(u64 b).toNat):=by
 rw[OD,aaX];have h:=adL (xK a).2 (xK b).2;rw[(xK a).1,(xK b).1] at h;refine(tX (r:=oB ((u64 a).toNat*(u64 b).toNat)) ?_ rfl).trans ?_
 ·simp only[tK,as3,Nz];rw[h.1,h.2]
 rw[uj rfl];simp only[tK]
theorem ZW (a b c d:Int):Fx [a,b,c,d]=oW (nB a b*uh+nB c d):=by obtain⟨x,hx,e,h1,h0⟩:=Ce a b;obtain⟨y,hy,e',h1',h0'⟩:=Ce c d;rw[e,e',Fx,aaY,uj rfl];obtain⟨j0,j1,j2,j3⟩:=amb (h:=x) hy;simp only[tK,h1,h0,h1',h0',j0,j1,j2,j3]
theorem aoO (a b:Int):Ll [a,b]=oW (nB a b):=by obtain⟨x,hx,e,h1,h0⟩:=Ce a b;rw[e,Ll,aaZ,uj rfl];simp only[tK,h1,h0,(XH hx).1,(XH hx).2]
theorem U3 (a b c d:Int):Gp [a,b,c,d]=oB (nW a b c d/uh):=by obtain⟨n,hn,e,h0,h1,h2,h3⟩:=KU a b c d;rw[e,Gp,aa0,uj rfl];simp only[tK,h2,h3,XI]
theorem ZX (a b c d:Int):Gq [a,b,c,d]=oB (nW a b c d):=by obtain⟨n,hn,e,h0,h1,h2,h3⟩:=KU a b c d;rw[e,Gq,aa1,uj rfl];simp only[tK,h0,h1]
theorem afy (a b c d:Int):Ci [a,b,c,d] = [ui (decide (nW a b c d=0))]:=by obtain⟨n,hn,e,h0,h1,h2,h3⟩:=KU a b c d;rw[e,Ci,aa2,uj rfl];simp only[tK,h0,h1,h2,h3,show uk 1=true from rfl,Bool.and_true];congr 2;rw[Bool.eq_iff_iff];simp only[Bool.and_eq_true,beq_iff_eq,decide_eq_true_iff];exact amc hn
def len (n:Nat):Nat:=if n=0 then 0 else Nat.log2 n+1
theorem RL {n k:Nat} : len n<=k↔n<2^k:=by
 unfold len;split
 ·rename_i h;subst h;simp[FP.two_pow_pos]
 ·rename_i h;rw[<- Nat.log2_lt h];omega
theorem ZY {n k:Nat} (h0:n≠0) (h1:2^k<=n) (h2:n<2^(k+1)):len n=k+1:=by
 unfold len;rw[if_neg h0];have a:=(Nat.log2_lt h0).2 h2;have b:¬ Nat.log2 n<k:=λh=>by have:=(Nat.log2_lt h0).1 h;omega
 omega
theorem U4 (w : Nat) (hw : w < tV) : Lib.bitLen w = len w := by
  have key : ∀ f x, x < 2 ^ f -> Lib.bitLenAux f x = len x := by
    intro f
    induction f with
    | zero => intro x hx; have : x = 0 := by simpa using hx
              subst this; rfl
    | succ f ih =>
      intro x hx;unfold Lib.bitLenAux;split
      · rename_i h; subst h; rfl
      · rename_i h;have hx2 : x < 2 ^ f * 2 := by rw [<- Nat.pow_succ]; exact hx
        rw [ih (x / 2) (by omega)];by_cases h1 : x / 2 = 0
        · have : x = 1 := by omega
          subst this; decide
        · obtain ⟨b1, b2⟩ := FP.log2_bounds h1;have e1 : len (x / 2) = Nat.log2 (x / 2) + 1 := by unfold len; rw [if_neg h1]
          rw [e1, ZY (k := Nat.log2 (x / 2) + 1) h (by rw [Nat.pow_succ]; omega) (by rw [Nat.pow_succ]; omega)]; omega
  unfold Lib.bitLen;exact key 64 w (by rw [<- EI]; exact hw)
theorem U5 {n j:Nat} (h0:(wd n j)≠0) (h1:n<tV^(j+1)):len n=64*j+len (wd n j).toNat:=by
 have hw:(wd n j).toNat=n/tV^j:=by rw[xH,Int.toNat_natCast,Nat.mod_eq_of_lt];rw[Nat.div_lt_iff_lt_mul (BR j),Nat.mul_comm,<- Nat.pow_succ];exact h1
 have hne:n/tV^j≠0:=by intro h;apply h0;rw[xH,h];rfl
 have hn:n≠0:=by intro h;subst h;simp at hne
 rw[hw];obtain⟨b1,b2⟩:=FP.log2_bounds hne;have e1:len (n/tV^j)=Nat.log2 (n/tV^j)+1:=by unfold len;rw[if_neg hne]
 rw[e1,<- Nat.add_assoc];generalize Nat.log2 (n/tV^j)=k at *
 rw[Nat.le_div_iff_mul_le (BR j),ZO,<- Nat.pow_add] at b1;rw[Nat.div_lt_iff_lt_mul (BR j),ZO,<- Nat.pow_add] at b2;refine ZY hn (by rw[Nat.add_comm];exact b1) ?_;rw[show 64*j+k+1=k+1+64*j by omega];exact b2
theorem afz (a b c d:Int):OT [a,b,c,d] = [((len (nW a b c d):Nat):Int)]:=by
 obtain⟨n,hn,e,h0,h1,h2,h3⟩:=KU a b c d;rw[e,OT,aa7];have hn4:n<tV^4:=by rw[DW];exact hn
 have hl:len n<=256:=RL.2 (by rw[<- DU];exact hn);have wl:∀ j,(wd n j).toNat<tV:=λj=>by have:=(Bo n j).2;have:=(Bo n j).1;omega
 have low:∀ j,n<tV^(j+1)->wd n j=0->n<tV^j:=by
  intro j hlt hz;have:n/tV^j%tV=0:=by rw[xH] at hz;omega
  rw[Nat.mod_eq_of_lt (by rw[Nat.div_lt_iff_lt_mul (BR j),Nat.mul_comm,<- Nat.pow_succ];exact hlt)] at this;rcases Nat.div_eq_zero_iff.1 this with h|h
  ·have:=BR j;omega
  ·exact h
 simp only[uU,tK,h0,h1,h2,h3,bne_iff_ne];by_cases z3:wd n 3=0
 ·rw[if_neg (by simp[z3])];have l3:=low 3 hn4 z3;by_cases z2:wd n 2=0
  ·rw[if_neg (by simp[z2])];have l2:=low 2 l3 z2;by_cases z1:wd n 1=0
   ·rw[if_neg (by simp[z1])];have l1:=low 1 l2 z1;by_cases z0:wd n 0=0
    ·rw[if_neg (by simp[z0])];have l0:=low 0 l1 z0;have:n=0:=by simpa using l0
     subst this;rw[uj rfl];rfl
    ·rw[if_pos z0];refine(tX (r:=[((len (wd n 0).toNat:Nat):Int)]) ?_ rfl).trans ?_
     ·simp only[tK,VL,Hu,h0];rw[U4 _ (wl 0)]
     rw[uj rfl];simp only[tK];have:=U5 z0 l1;have hw:=RL.2 (show(wd n 0).toNat<2^64 by rw[<- EI];exact wl 0);rw[Ao (n:=((len (wd n 0).toNat:Nat):Int)) (by omega) (by omega),Ao (by omega) (by omega),this];simp
   ·rw[if_pos z1];refine(tX (r:=[((len (wd n 1).toNat:Nat):Int)]) ?_ rfl).trans ?_
    ·simp only[tK,VL,Hu,h1];rw[U4 _ (wl 1)]
    rw[uj rfl];simp only[tK];have:=U5 z1 l2;rw[Ao (n:=((len (wd n 1).toNat:Nat):Int)) (by omega) (by omega),Ao (by omega) (by omega),this];simp
  ·rw[if_pos z2];refine(tX (r:=[((len (wd n 2).toNat:Nat):Int)]) ?_ rfl).trans ?_
   ·simp only[tK,VL,Hu,h2];rw[U4 _ (wl 2)]
   rw[uj rfl];simp only[tK];have:=U5 z2 l3;rw[Ao (n:=((len (wd n 2).toNat:Nat):Int)) (by omega) (by omega),Ao (by omega) (by omega),this];simp
 ·rw[if_pos z3];refine(tX (r:=[((len (wd n 3).toNat:Nat):Int)]) ?_ rfl).trans ?_
  ·simp only[tK,VL,Hu,h3];rw[U4 _ (wl 3)]
  rw[uj rfl];simp only[tK];have:=U5 z3 hn4;rw[Ao (n:=((len (wd n 3).toNat:Nat):Int)) (by omega) (by omega),Ao (by omega) (by omega),this];simp
theorem RN (a:Int):Gr [a] = [(FP.fW (fN a):Int),(FP.fP (fN a):Int),(FP.fE (fN a):Int)]:=by
 unfold fN;rw[Gr,aa8];obtain⟨h1,h2⟩:=Fa a;simp only[uU,tK,Bool.not_eq_true',decide_eq_false_iff_not,decide_eq_true_iff,beq_iff_eq];generalize hf:u8 a=f at *
 by_cases h4:f<4
 ·rw[if_neg (by omega)];rcases(show f=0\/f=1\/f=2\/f=3 by omega) with rfl|rfl|rfl|rfl
  ·rw[if_pos rfl,uj rfl];rfl
  ·rw[if_neg (by decide),if_pos rfl,uj rfl];rfl
  ·rw[if_neg (by decide),if_neg (by decide),if_pos rfl,uj rfl];rfl
  ·rw[if_neg (by decide),if_neg (by decide),if_neg (by decide),uj rfl];rfl
 ·rw[if_pos h4,uj rfl];obtain⟨m,rfl⟩:∃ m:Nat,f=((m+4:Nat):Int):=⟨(f-4).toNat,by omega⟩;rw[Int.toNat_natCast];rfl
theorem afA {m r:Int} (hm:0<=m) (hr:0<r) (hr3:r<=3) (neg odd:Bool):MQ m neg odd r=FP.nextN m.toNat neg odd r.toNat:=by
 unfold MQ;rw[decide_eq_true (show r>0 from hr),decide_eq_true hr3,Bool.true_and,Bool.true_and];rcases(show r=1\/r=2\/r=3 by omega) with rfl|rfl|rfl <;>
 ·by_cases h0:m=0
  ·subst h0;rfl
  rw[if_neg h0];by_cases h1:m=1
  ·subst h1;rfl
  rw[if_neg h1];by_cases h2:m=2
  ·subst h2;rfl
  rw[if_neg h2];by_cases h3:m=3
  ·subst h3;rfl
  rw[if_neg h3];obtain⟨k,rfl⟩:∃ k:Nat,m=((k+4:Nat):Int):=⟨(m-4).toNat,by omega⟩;rw[Int.toNat_natCast];rfl
theorem aoP (a b:Int):OW [a,b] = [ui (FP.nextN (u8 a).toNat (uk b) true 3)]:=by
 rw[OW,aa9];refine(tX (r:=[ui (FP.nextN (u8 a).toNat (uk b) true 3)]) ?_ rfl).trans ?_
 ·simp only[tK,as4,Hw,afj];rw[show u8 3=3 by decide,show uk 1=true from rfl,afA (Fa a).1 (by decide) (by decide)];rfl
 rw[uj rfl];simp only[tK]
theorem RO (f:Nat):FP.fE f<=16383:=by unfold FP.fE;split<;>decide
theorem fP_le (f:Nat):FP.fP f<=113:=by unfold FP.fP;split<;>decide
theorem fW_le (f:Nat):FP.fW f<=128:=by unfold FP.fW;split<;>decide
theorem NI {n:Int} (h1 : -17000<=n) (h2:n<=17000):i64 n=n:=vX (by omega) (by omega)
theorem wD {n:Nat} (h:n<=1000000000000):i64 (n:Int)=n:=vX (by omega) (by omega)
theorem zz (f:Nat):i64 (FP.fE f:Int)=FP.fE f:=wD (by have:=RO f;omega)
theorem xz (f:Nat):i64 (FP.fP f:Int)=FP.fP f:=wD (by have:=fP_le f;omega)
theorem Jq (f:Nat):i64 (FP.fW f:Int)=FP.fW f:=wD (by have:=fW_le f;omega)
theorem KY (a:Int):Ev [a] = [(FP.fE (fN a):Int)]:=by rw[Ev,aba];refine(tX (by simp only[tK,abm];exact RN _) (by rfl)).trans ?_;rw[uj rfl];simp only[tK,uD,zz]
theorem NJ (a:Int):Ew [a] = [(FP.fP (fN a):Int)]:=by rw[Ew,abb];refine(tX (by simp only[tK,abm];exact RN _) (by rfl)).trans ?_;rw[uj rfl];simp only[tK,uD,xz]
theorem afB (a:Int):Lp [a] = [(FP.fW (fN a):Int)]:=by rw[Lp,abd];refine(tX (by simp only[tK,abm];exact RN _) (by rfl)).trans ?_;rw[uj rfl];simp only[tK,uD,Jq]
theorem aoQ {x k:Nat} (h:k<=128):x*2^(128-k)%uh/2^(128-k)=x%2^k:=by
 rw[yN]
 conv=>lhs;rw[show(2:Nat)^128=2^k*2^(128-k) by rw[<- Nat.pow_add];congr 1;omega]
 rw[Nat.mul_mod_mul_right,Nat.mul_div_cancel _ (FP.two_pow_pos _)]
theorem afC (a b c:Int) (h1:0<=i64 c) (h2:i64 c<=128):H6 [a,b,c]=oB (nB a b%2^(i64 c).toNat):=by
 rw[H6,abe];have e:i64 (128-i64 c)=((128-(i64 c).toNat:Nat):Int):=by rw[Ao (by omega) (by omega)];omega
 have e2:i64 ((128-(i64 c).toNat:Nat):Int)=((128-(i64 c).toNat:Nat):Int):=wD (by omega);have e3:nB (u64 a) (u64 b)=nB a b:=by unfold nB;rw[AC,AC]
 refine(tX (by simp only[tK,atm,e];exact UW _ _ _ ) (by rfl)).trans ?_;refine(tX (by simp only[tK,atn,e,e2,ND,Int.toNat_natCast];exact afu _ _ _ ) (by rfl)).trans ?_;rw[uj rfl];simp only[tK,ND,e2,Int.toNat_natCast,Nat.mod_mod,e3];rw[aoQ (by omega)]
theorem vQ (a b:Int):nB (u64 a) (u64 b)=nB a b:=by unfold nB;rw[AC,AC]
theorem Dr (a b c d:Int):nW (u64 a) (u64 b) (u64 c) (u64 d)=nW a b c d:=by unfold nW;rw[AC,AC,AC,AC]
theorem Gf (n:Nat):nW (wd n 0) (wd n 1) (wd n 2) (wd n 3)=n%uu:=by have:=aoI (n:=n%uu) (Nat.mod_lt _ al4);rw[<- DW,GU _ _ _ (by decide),GU _ _ _ (by decide),GU _ _ _ (by decide),GU _ _ _ (by decide),DW] at this;exact this
theorem aoR {n k:Nat} (h:n≠0):len (n*2^k)=len n+k:=by
 obtain⟨b1,b2⟩:=FP.log2_bounds h;have e1:len n=Nat.log2 n+1:=by unfold len;rw[if_neg h]
 rw[e1,show Nat.log2 n+1+k=(Nat.log2 n+k)+1 by omega];refine ZY (Nat.ne_of_gt (Nat.mul_pos (Nat.pos_of_ne_zero h) (FP.two_pow_pos k))) ?_ ?_
 ·rw[Nat.pow_add];exact Nat.mul_le_mul_right _ b1
 ·rw[show Nat.log2 n+k+1=Nat.log2 n+1+k by omega,Nat.pow_add];exact Nat.mul_lt_mul_of_pos_right b2 (FP.two_pow_pos k)
theorem afD {n:Nat} : len n=0↔n=0:=by unfold len;split<;>omega
theorem afE {n k:Nat} (h:len n<=k):n*2^(k-len n)<2^k:=by have:=RL.1 (Nat.le_refl (len n));have h2:=Nat.mul_lt_mul_of_pos_right this (FP.two_pow_pos (k-len n));rw[<- Nat.pow_add,show len n+(k-len n)=k by omega] at h2;exact h2
def AJ (k n:Nat):Nat:=if n=0 then 0 else k-len n
theorem aoS (a b c d:Int):O6 [a,b,c,d]=oW (nW a b c d*2^AJ 256 (nW a b c d)) ++ [((AJ 256 (nW a b c d):Nat):Int)]:=by
 rw[O6,abj];have hn:=Jp a b c d;obtain⟨h0,h1,h2,h3,_⟩:=Jo a b c d;have hl:len (nW a b c d)<=256:=RL.2 (by rw[<- DU];exact hn);refine(tX (by simp only[tK,ahM];exact afz _ _ _ _) (by rfl)).trans ?_;rw[uU];simp only[tK,Dr,beq_iff_eq];rw[wD (show len (nW a b c d)<=1000000000000 by omega)];by_cases hz:nW a b c d=0
 ·rw[if_pos (by rw[afD.2 hz];rfl),uj rfl];simp only[tK,h0,h1,h2,h3,AJ,if_pos hz,Nat.pow_zero,Nat.mul_one];rfl
 ·rw[if_neg (by have:=mt afD.1 hz;omega)];have e:i64 (256-((len (nW a b c d):Nat):Int))=((256-len (nW a b c d):Nat):Int):=by rw[Ao (by omega) (by omega)];omega
  have e2:i64 ((256-len (nW a b c d):Nat):Int)=((256-len (nW a b c d):Nat):Int):=wD (by omega);have e4:=wD (show len (nW a b c d)<=1000000000000 by omega);refine(tX (by simp only[tK,abn,Dr,e4,e];exact ZV _ _ _ _ _ ) (by rfl)).trans ?_;rw[uj rfl];simp only[tK,Dr,e,e2,e4,Int.toNat_natCast,AJ,if_neg hz];rw[Nat.mod_eq_of_lt (show _<uu by rw[DU];exact afE hl)]
theorem U6:uu=uh*uh:=by unfold uu;rfl
theorem U7 {n:Nat} (h:n<uh):n*uh<uu:=by rw[U6];exact Nat.mul_lt_mul_of_pos_right h FX
theorem aoT (a b:Int):O3 [a,b]=oB (nB a b*2^AJ 128 (nB a b)) ++ [((AJ 128 (nB a b):Nat):Int)]:=by
 rw[O3,abg];have hn:=Ff a b;have hl:len (nB a b)<=128:=RL.2 (by rw[<- yN];exact hn);have z:nB 0 0=0:=by decide
 refine(tX (by simp only[tK,ahK];exact ZW _ _ _ _) (by rfl)).trans ?_;rw[vQ,z,Nat.add_zero];have hw:nB a b*uh<uu:=U7 hn;have hw2:nB a b*uh%uu=nB a b*uh:=Nat.mod_eq_of_lt hw
 have hlen:len (nB a b*uh)=if nB a b=0 then 0 else len (nB a b)+128:=by
  split
  ·rename_i h;rw[h];rfl
  ·rename_i h;rw[yN,aoR h]
 have hi:i64 ((len (nB a b*uh):Nat):Int)=((len (nB a b*uh):Nat):Int):=wD (by rw[hlen];split<;>omega);refine(tX (by simp only[tK,ahM,Gf,hw2];exact afz _ _ _ _ ) (by rfl)).trans ?_;rw[uU];simp only[tK,Gf,hw2,hi,beq_iff_eq];by_cases hz:nB a b=0
 ·rw[if_pos (by rw[hlen,if_pos hz];rfl)];refine(tX (by simp only[tK,ahN,Gf,hw2];exact U3 _ _ _ _ ) (by rfl)).trans ?_;rw[uj rfl];simp only[tK,AJ,if_pos hz,Gf,hw2,Nat.pow_zero,Nat.mul_one,Nat.mul_div_cancel _ FX];rfl
 ·rw[hlen,if_neg hz];rw[if_neg (by omega)];have e:i64 (256-((len (nB a b)+128:Nat):Int))=((128-len (nB a b):Nat):Int):=by rw[Ao (by omega) (by omega)];omega
  have e2:i64 ((128-len (nB a b):Nat):Int)=((128-len (nB a b):Nat):Int):=wD (by omega);have e4:=wD (show len (nB a b)+128<=1000000000000 by omega);have hr:=afE hl;have big:nB a b*uh*2^(128-len (nB a b))=nB a b*2^(128-len (nB a b))*uh:=by ac_rfl
  have hbig:nB a b*2^(128-len (nB a b))*uh<uu:=U7 (by rw[yN];exact hr);refine(tX (by simp only[tK,abn,Gf,hw2,e4,e];exact ZV _ _ _ _ _ ) (by rfl)).trans ?_;rw[e2,Int.toNat_natCast,Gf,hw2,big,Nat.mod_eq_of_lt hbig];refine(tX (by simp only[tK,ahN,Gf,Nat.mod_eq_of_lt hbig];exact U3 _ _ _ _ ) (by rfl)).trans ?_;rw[uj rfl];simp only[tK,Gf,Nat.mod_eq_of_lt hbig,Nat.mul_div_cancel _ FX,e,e2,e4,AJ,if_neg hz]
theorem Z6 (a b c d x:Int):H7 [a,b,c,d,x] = [ui (decide (nW a b c d%2^(i64 x).toNat≠0))]:=by rw[H7,abh];have hn:=Jp a b c d;obtain⟨h0,h1,h2,h3,_⟩:=Jo a b c d;have hd:nW a b c d/2^(i64 x).toNat<uu:=Nat.lt_of_le_of_lt (Nat.div_le_self _ _) hn;have hd2:nW a b c d/2^(i64 x).toNat*2^(i64 x).toNat<uu:=Nat.lt_of_le_of_lt (Nat.div_mul_le_self _ _) hn;refine(tX (by simp only[tK,ato];exact UZ _ _ _ _ _) (by rfl)).trans ?_;simp only[Dr,vJ];refine(tX (by simp only[tK,abn];exact ZV _ _ _ _ _) (by rfl)).trans ?_;simp only[Gf,vJ,Nat.mod_eq_of_lt hd,Nat.mod_eq_of_lt hd2];rw[uj rfl];simp only[tK,h0,h1,h2,h3,show uk 1=true from rfl,Bool.and_true];rw[amh _ _ hd2 hn];congr 2;rw[Bool.eq_iff_iff];simp only[Bool.not_eq_true',decide_eq_false_iff_not,decide_eq_true_iff];have:=Nat.div_add_mod (nW a b c d) (2^(i64 x).toNat);rw[Nat.mul_comm] at this;omega
theorem yU (n:Nat):((n:Nat):Int).toNat=n:=by omega
theorem RP (x:Nat) {k:Nat} (h:k<=128):x%2^k<uh:=by rw[yN];exact Nat.lt_of_lt_of_le (Nat.mod_lt _ (FP.two_pow_pos k)) (Nat.pow_le_pow_right (by decide) h)
theorem U8 (f a b:Int):Dy [f,a,b]=oB (nB a b%2^FP.fW (fN f)):=by
 rw[Dy,abo];refine(tX (by simp only[tK,atE];exact afB _) (by rfl)).trans ?_;have hl:=fW_le (fN f);have h1:i64 (FP.fW (fN f):Int)=FP.fW (fN f):=Jq _;refine(tX (r:=oB (nB a b%2^FP.fW (fN f))) ?_ rfl).trans ?_
 ·simp only[tK,R9,uD];rw[afC _ _ _ (by rw[vJ,h1];omega) (by rw[vJ,h1];omega),vJ,h1,yU,vQ];rfl
 rw[uj rfl];simp only[tK]
def Bc (f:Nat) (neg:Bool) (e:Int) (frac:Nat):Nat :=
 FP.mk f neg ((if e<0\/e>1048576 then 0 else e.toNat)%2^(FP.fW f-FP.fP f)*2^(FP.fP f-1)+frac%2^(FP.fP f-1))
theorem Z7 {f:Nat} (h:f<4):2<=FP.fP f/\FP.fP f<=113/\FP.fP f<FP.fW f/\FP.fW f<=128/\16<=FP.fW f/\1<=FP.fE f/\FP.fE f<=16383/\FP.fW f-FP.fP f<=15:=by rcases FP.f4 h with rfl|rfl|rfl|rfl<;>decide
theorem aoU {f e frac:Nat} (h:f<4):e%2^(FP.fW f-FP.fP f)*2^(FP.fP f-1)+frac%2^(FP.fP f-1)<2^(FP.fW f-1):=by
 obtain⟨h1,h2,h3,h4,_⟩:=Z7 h;have a:=Nat.mod_lt e (FP.two_pow_pos (FP.fW f-FP.fP f));have b:=Nat.mod_lt frac (FP.two_pow_pos (FP.fP f-1));have e1:2^(FP.fW f-1)=2^(FP.fW f-FP.fP f)*2^(FP.fP f-1):=by rw[<- Nat.pow_add];congr 1;omega
 rw[e1];have:=Nat.mul_le_mul_right (2^(FP.fP f-1)) (show e%2^(FP.fW f-FP.fP f)+1<=2^(FP.fW f-FP.fP f) from a);rw[Nat.add_mul,Nat.one_mul] at this;omega
theorem Gg {k:Nat} (h:k<=128):2^k<=uh:=by rw[yN];exact Nat.pow_le_pow_right (by decide) h
def rB (n:Nat):List Int:=oB n
theorem Jr (n:Nat):rB n=oB n:=rfl
def rW (n:Nat):List Int:=oW n
theorem afF (n:Nat):rW n=oW n:=rfl
theorem vv {n:Nat} (h:n<uh):nB (wd n 1) (wd n 0)=n:=by rw[ND,Nat.mod_eq_of_lt h]
theorem Ep {a b:Nat} (h:b<=a) (h2:a<=1000000):i64 ((a:Int)-(b:Int))=((a-b:Nat):Int):=by rw[vX (by omega) (by omega)];omega
theorem NK (x:Nat) {k:Nat} (hx:x<uh) (hk:k<=128):H6 [wd x 1,wd x 0,(k:Int)]=oB (x%2^k):=by rw[afC _ _ _ (by rw[wD (by omega)];omega) (by rw[wD (by omega)];omega),wD (by omega),yU,vv hx]
theorem HY (x:Nat) {k:Nat} (hx:x<uh) (hk:k<=1000) (h:x*2^k<uh):zU [wd x 1,wd x 0,(k:Int)]=oB (x*2^k):=by rw[UW,wD (by omega),yU,vv hx,Nat.mod_eq_of_lt h]
theorem aoV (x:Nat) {k:Nat} (hx:x<uh) (hk:k<=1000):H5 [wd x 1,wd x 0,(k:Int)]=oB (x/2^k):=by rw[afu,wD (by omega),yU,vv hx]
theorem Js (x y:Nat) (h:x+y<uh):Ch [wd x 1,wd x 0,wd y 1,wd y 0] = [wd (x+y) 1,wd (x+y) 0,0]:=by rw[afw,vv (by omega),vv (by omega),decide_eq_false (by omega)];rfl
theorem Er:wd 1 1=0/\wd 1 0=1:=by decide
theorem U9 (i:Nat):wd 0 i=0:=BS i
theorem Fh (f n e c d:Int):Fz [f,n,e,c,d]=oB (if fN f<4 then Bc (fN f) (uk n) (i64 e) (nB c d) else 0):=by
 refine Eq.trans ?_ (Jr _);rw[Fz,abp];have hW:=Jq (fN f);have hP:=xz (fN f);refine(tX (by simp only[tK,atF];exact RN _) (by rfl)).trans ?_;simp only[uD];rw[uU];simp only[tK,hW,beq_iff_eq];by_cases hf:¬ fN f<4
 ·have:FP.fW (fN f)=0:=by obtain⟨m,hm⟩:∃ m,fN f=m+4:=⟨fN f-4,by omega⟩;rw[hm];rfl
  rw[if_pos (by rw[this];rfl),uj rfl,if_neg hf];rfl
 have hf:=Classical.not_not.1 hf;obtain⟨h1,h2,h3,h4,h5,_,_,h8⟩:=Z7 hf;rw[if_neg (by omega),if_pos hf];have eW:i64 ((FP.fW (fN f):Int)-(FP.fP (fN f):Int))=((FP.fW (fN f)-FP.fP (fN f):Nat):Int):=Ep (by omega) (by omega);have eP:i64 ((FP.fP (fN f):Int)-1)=((FP.fP (fN f)-1:Nat):Int):=Ep (b:=1) (by omega) (by omega);have eS:i64 ((FP.fW (fN f):Int)-1)=((FP.fW (fN f)-1:Nat):Int):=Ep (b:=1) (by omega) (by omega);obtain⟨z,hz,ez,hc,hd⟩:=Ce c d
 have field:∃ ex:Nat,ex<uh/\(if i64 e<0\/i64 e>1048576 then 0 else(i64 e).toNat)=ex/\((i64 e<0\/i64 e>1048576)->ex=0)/\(¬ (i64 e<0\/i64 e>1048576)->u64 (i64 e)=wd ex 0/\wd ex 1=0):=by
  by_cases h:i64 e<0\/i64 e>1048576
  ·exact⟨0,FX,if_pos h,λ_=>rfl,λh2=>absurd h h2⟩
  ·have hlt:(i64 e).toNat<tV:=by rw[Bb];omega
   have hi:(i64 e)=(((i64 e).toNat:Nat):Int):=by omega
   refine⟨(i64 e).toNat,by rw[NC];omega,if_neg h,λh2=>absurd h2 h,λ_=>⟨?_,?_⟩⟩
   ·conv=>lhs;rw[hi]
    rw[Fe _ hlt,xH,Nat.pow_zero,Nat.div_one,Nat.mod_eq_of_lt hlt]
   ·exact QH (m:=1) 1 (by rw[Nat.pow_one];exact hlt) (by decide)
 obtain⟨ex,hex,hex1,hex2,hex3⟩:=field;unfold Bc;rw[hex1,ez];have hcode:=aoU (e:=ex) (frac:=z) hf;have hpw:=Gg (show FP.fW (fN f)-1<=128 by omega);have hpw2:=Gg (show FP.fW (fN f)<=128 by omega);have hq:=RP ex (show FP.fW (fN f)-FP.fP (fN f)<=128 by omega);have hr:=RP z (show FP.fP (fN f)-1<=128 by omega);have hmk:=FP.mk_lt (c:=ex%2^(FP.fW (fN f)-FP.fP (fN f))*2^(FP.fP (fN f)-1)+z%2^(FP.fP (fN f)-1)) hf (uk n) hcode
 have e1:1*2^(FP.fW (fN f)-1)<uh:=by rw[Nat.one_mul,yN];exact Nat.pow_lt_pow_right (by decide) (by omega)
 have first:∀ (x y:X) (L:List Int),L = [f,n,e,c,d,(FP.fW (fN f):Int),(FP.fP (fN f):Int),(FP.fE (fN f):Int)]->X.ev L x=wd ex 1->X.ev L y=wd ex 0 ->
   uw E2 27 (List.map (X.ev L) [x,y,.bin .sub .i64 (.var kI 5) (.var kI 6)])=oB (ex%2^(FP.fW (fN f)-FP.fP (fN f))):=by
  intro x y L hL hx hy;simp only[List.map_cons,List.map_nil,hx,hy];rw[R9,hL];simp only[tK,hW,hP,eW];exact NK _ hex (by omega)
 rw[uU];simp only[Al,Dp,CJ,Ak,uE,wM,vK,vL,wN,wO,vU,vV,decide_eq_true_iff];by_cases hlt:i64 e<0
 ·rw[if_pos hlt];refine(tX (first _ _ _ rfl (by rw[hex2 (.inl hlt),U9];rfl) (by rw[hex2 (.inl hlt),U9];rfl)) rfl).trans ?_;refine(tX (by simp only[tK,Pj,hP,eP];exact HY _ hq (by omega) (by omega) ) (by rfl)).trans ?_;refine(tX (by simp only[tK,R9,hc,hd,hP,eP];exact NK _ hz (by omega) ) (by rfl)).trans ?_;refine(tX (by simp only[tK,Pk];exact Js _ _ (by omega)) (by rfl)).trans ?_;rw[uU];simp only[tK];unfold FP.mk;unfold FP.mk at hmk
  cases hn:uk n with
  | true =>
   rw[hn] at hmk;rw[if_pos rfl]
   have l1:zU [0,1,((FP.fW (fN f)-1:Nat):Int)]=oB (1*2^(FP.fW (fN f)-1)):=by have:=HY 1 (k:=FP.fW (fN f)-1) (by decide) (by omega) e1;rw[Er.1,Er.2] at this;exact this
   refine(tX (by simp only[tK,Pj,hW,eS];exact l1) (by rfl)).trans ?_;refine(tX (by simp only[tK,Pk];exact Js _ _ (by rw[show Bool.toNat true=1 from rfl] at hmk;omega)) (by rfl)).trans ?_;rw[uj rfl];simp only[tK];rfl
  | false =>
   rw[if_neg (by decide),uj rfl];simp only[tK];rw[show Bool.toNat false=0 from rfl,Nat.zero_mul,Nat.add_zero];rfl
 rw[if_neg hlt,uU];simp only[Al,UT,CJ,Ak,uE,wM,vK,vL,wN,wO,vU,vV,decide_eq_true_iff];by_cases hgt:i64 e>1048576
 ·rw[if_pos hgt];refine(tX (first _ _ _ rfl (by rw[hex2 (.inr hgt),U9];rfl) (by rw[hex2 (.inr hgt),U9];rfl)) rfl).trans ?_;refine(tX (by simp only[tK,Pj,hP,eP];exact HY _ hq (by omega) (by omega) ) (by rfl)).trans ?_;refine(tX (by simp only[tK,R9,hc,hd,hP,eP];exact NK _ hz (by omega) ) (by rfl)).trans ?_;refine(tX (by simp only[tK,Pk];exact Js _ _ (by omega)) (by rfl)).trans ?_;rw[uU];simp only[tK];unfold FP.mk;unfold FP.mk at hmk
  cases hn:uk n with
  | true =>
   rw[hn] at hmk;rw[if_pos rfl]
   have l1:zU [0,1,((FP.fW (fN f)-1:Nat):Int)]=oB (1*2^(FP.fW (fN f)-1)):=by have:=HY 1 (k:=FP.fW (fN f)-1) (by decide) (by omega) e1;rw[Er.1,Er.2] at this;exact this
   refine(tX (by simp only[tK,Pj,hW,eS];exact l1) (by rfl)).trans ?_;refine(tX (by simp only[tK,Pk];exact Js _ _ (by rw[show Bool.toNat true=1 from rfl] at hmk;omega)) (by rfl)).trans ?_;rw[uj rfl];simp only[tK];rfl
  | false =>
   rw[if_neg (by decide),uj rfl];simp only[tK];rw[show Bool.toNat false=0 from rfl,Nat.zero_mul,Nat.add_zero];rfl
 ·rw[if_neg hgt];obtain⟨f1,f2⟩:=hex3 (by omega);refine(tX (first _ _ _ rfl (by rw[f2];rfl) (by simp only[tK];exact f1)) rfl).trans ?_;refine(tX (by simp only[tK,Pj,hP,eP];exact HY _ hq (by omega) (by omega) ) (by rfl)).trans ?_;refine(tX (by simp only[tK,R9,hc,hd,hP,eP];exact NK _ hz (by omega) ) (by rfl)).trans ?_;refine(tX (by simp only[tK,Pk];exact Js _ _ (by omega)) (by rfl)).trans ?_;rw[uU];simp only[tK];unfold FP.mk;unfold FP.mk at hmk
  cases hn:uk n with
  | true =>
   rw[hn] at hmk;rw[if_pos rfl]
   have l1:zU [0,1,((FP.fW (fN f)-1:Nat):Int)]=oB (1*2^(FP.fW (fN f)-1)):=by have:=HY 1 (k:=FP.fW (fN f)-1) (by decide) (by omega) e1;rw[Er.1,Er.2] at this;exact this
   refine(tX (by simp only[tK,Pj,hW,eS];exact l1) (by rfl)).trans ?_;refine(tX (by simp only[tK,Pk];exact Js _ _ (by rw[show Bool.toNat true=1 from rfl] at hmk;omega)) (by rfl)).trans ?_;rw[uj rfl];simp only[tK];rfl
  | false =>
   rw[if_neg (by decide),uj rfl];simp only[tK];rw[show Bool.toNat false=0 from rfl,Nat.zero_mul,Nat.add_zero];rfl
theorem afG (f e:Int):Pb [f,e] = [ui (decide (fN f<4)&&decide ((FP.fE (fN f):Int)<i64 e))]:=by
 rw[Pb,abq,uU];simp only[tK,decide_eq_true_iff];have h:=Fa f;by_cases hf:u8 f<4
 ·rw[if_pos hf,decide_eq_true (show fN f<4 by unfold fN;omega),Bool.true_and];refine(tX (by simp only[tK,atG];exact KY _) (by rfl)).trans ?_;rw[uj rfl];simp only[tK,uD,zz,gt_iff_lt]
 ·rw[if_neg hf,decide_eq_false (show ¬ fN f<4 by unfold fN;omega),Bool.false_and,uj rfl];rfl
theorem yA {n:Nat} (h:n<uu):nW (wd n 0) (wd n 1) (wd n 2) (wd n 3)=n:=by rw[Gf,Nat.mod_eq_of_lt h]
theorem or1 (x:Nat):uA .or .u64 (wd x 0) 1=wd (x/2*2+1) 0:=by
 rw[xH,xH,show(1:Int)=((1:Nat):Int) from rfl,UQ _ _ (Nat.mod_lt _ xm) (by decide)];congr 1;rw[Nat.pow_zero,Nat.div_one,Nat.div_one]
 have h:∀ y:Nat,y|||1=y/2*2+1:=by
  intro y;apply Nat.eq_of_testBit_eq;intro i;rw[Nat.testBit_or]
  cases i with
  | zero=>rw[Nat.testBit_zero,Nat.testBit_zero,Nat.testBit_zero,show(y/2*2+1)%2=1 by omega];simp
  | succ i=>rw[Nat.testBit_succ,Nat.testBit_succ,Nat.testBit_succ,show(y/2*2+1)/2=y/2 by omega];simp
 rw[h];rw[Bb];omega
theorem Z8 (x i:Nat):wd (x/2*2+1) (i+1)=wd x (i+1):=by
 have e:(x/2*2+1)/tV=x/tV:=by rw[Bb];omega
 have h:∀ y,wd y (i+1)=wd (y/tV) i:=λy=>by rw[xH,xH,Nat.pow_succ,Nat.mul_comm,Nat.div_div_eq_div_mul]
 rw[h,h,e]
theorem Jt {a k:Nat} (h:a<uu):FP.jam a k<uu:=by
 unfold FP.jam;have h1:=Nat.div_le_self a (2^k);have h2:uu%2=0:=by decide
 split
 ·omega
 ·generalize a/2^k=y at *;generalize uu=W at *;omega
theorem Z9 (a b c d x:Int):Dz [a,b,c,d,x]=oW (FP.jam (nW a b c d) (i64 x).toNat):=by
 refine Eq.trans ?_ (afF _);have hn:=Jp a b c d;have hd:nW a b c d/2^(i64 x).toNat<uu:=Nat.lt_of_le_of_lt (Nat.div_le_self _ _) hn;rw[Dz,abr];refine(tX (by simp only[tK,atH];exact UZ _ _ _ _ _) (by rfl)).trans ?_;rw[Dr,vJ];refine(tX (by simp only[tK,ahQ];exact Z6 _ _ _ _ _) (by rfl)).trans ?_;rw[Dr,vJ,uU];simp only[tK];by_cases hz:nW a b c d%2^(i64 x).toNat=0
 ·rw[decide_eq_false (by simpa using hz),if_neg (by decide),uj rfl];simp only[tK];unfold FP.jam;rw[if_pos hz];rfl
 ·rw[decide_eq_true hz,if_pos rfl,uj rfl];simp only[tK,or1];unfold FP.jam;rw[if_neg hz];unfold rW oW;rw[Z8,Z8,Z8]
theorem aoX (a b c d k:Int) (h0:0<=i64 k) (h1:i64 k<=127):Ph [a,b,c,d,k] = [((FP.restN (nW a b c d) (2^(256-(i64 k).toNat)):Nat):Int)]:=by
 obtain⟨n,hn,e,w0,w1,w2,w3⟩:=KU a b c d;obtain⟨m,hm⟩:∃ m:Nat,i64 k=(m:Int):=⟨(i64 k).toNat,by omega⟩;rw[Ph,abt,uU];simp only[tK,decide_eq_true_iff];rw[if_neg (by omega),uU];simp only[tK,decide_eq_true_iff];rw[if_neg (by omega)];have e1:i64 (255-i64 k)=((255-m:Nat):Int):=by rw[hm,Ao (by omega) (by omega)];omega
 have e2:i64 ((255-m:Nat):Int)=((255-m:Nat):Int):=wD (by omega);refine(tX (by simp only[tK,ahQ,e1];exact Z6 _ _ _ _ _ ) (by rfl)).trans ?_;rw[Dr,e,e2,yU,uj rfl];simp only[tK,e1,RG,aoL,w2,w3,beq_iff_eq];have hm2:m<=127:=by omega
 have hsh:((255-m:Nat):Int)/64=(((255-m)/64:Nat):Int):=by simp
 rw[hsh,U0 n 2 ((255-m)%64) (Nat.mod_lt _ (by decide)),U0 n 3 ((255-m)%64) (Nat.mod_lt _ (by decide))]
 have hb:(if (((255-m)/64:Nat):Int)=2 then ui (n.testBit (64*2+(255-m)%64)) else ui (n.testBit (64*3+(255-m)%64)))=ui (n.testBit (255-m)):=by
  split
  ·congr 2;omega
  ·congr 2;omega
 rw[hb,uE];have hE:2^(256-(i64 k).toNat)=2^(255-m)*2:=by rw[hm,yU,<- Nat.pow_succ];congr 1;omega
 rw[hE];obtain⟨r,_⟩:=FP.restN_half (N:=n) (E:=2^(255-m)*2) (Nat.mul_pos (FP.two_pow_pos _) (by decide));rw[r,Nat.mul_comm (2^(255-m)) 2,Nat.mul_div_mul_left _ _ (by decide),Nat.mul_mod_mul_left];rw[Nat.testBit_eq_decide_div_mod_eq];rcases Nat.mod_two_eq_zero_or_one (n/2^(255-m)) with h2|h2
 ·rw[h2];by_cases hz:n%2^(255-m)=0
  ·simp[hz]
  ·have h2z:¬ 2*(n%2^(255-m))=0:=by omega
   rw[if_neg h2z];simp[hz]
 ·rw[h2];by_cases hz:n%2^(255-m)=0
  ·simp[hz]
  ·have h2z:¬ 2*(n%2^(255-m))=0:=by omega
   rw[if_neg h2z];simp[hz]
theorem aaa (a b c d k m g:Int) (h0:0<=i64 k) (h1:i64 k<=127) (hm:u8 m<=4) :
  JP [a,b,c,d,k,m,g]=oB (FP.rdiv (u8 m).toNat (uk g) (nW a b c d) (2^(256-(i64 k).toNat))) ++ [ui (decide (nW a b c d%2^(256-(i64 k).toNat)≠0))]:=by
 have hn:=Jp a b c d;obtain⟨j,hj⟩:∃ j:Nat,i64 k=(j:Int):=⟨(i64 k).toNat,by omega⟩;have hr8:=Fa m;rw[JP,abA,uU];simp only[Al,Dp,CJ,Ak,uE,wM,vK,vL,wN,wO,vU,vV,decide_eq_true_iff];rw[if_neg (by omega),uU];simp only[Al,UT,CJ,Ak,uE,wM,vK,vL,wN,wO,vU,vV,decide_eq_true_iff];rw[if_neg (by omega),uU];simp only[Al,Fg,RB,KW,Ak,uE,wM,vK,vL,wN,wO,vU,vV,Bool.not_eq_true',decide_eq_false_iff_not];rw[if_neg (by omega)];have e1:i64 (256-i64 k)=((256-j:Nat):Int):=by rw[hj,Ao (by omega) (by omega)];omega
 have e2:i64 ((256-j:Nat):Int)=((256-j:Nat):Int):=wD (by omega);rw[hj,yU];have hj2:j<=127:=by omega
 generalize hN:nW a b c d=N at *
 have hq:N/2^(256-j)<uh:=by rw[Nat.div_lt_iff_lt_mul (FP.two_pow_pos _),yN,<- Nat.pow_add];rw[DU] at hn;exact Nat.lt_of_lt_of_le hn (Nat.pow_le_pow_right (by decide) (by omega))
 have hq1:N/2^(256-j)+1<uh:=by
  have:N/2^(256-j)<2^127:=by rw[Nat.div_lt_iff_lt_mul (FP.two_pow_pos _),<- Nat.pow_add];rw[DU] at hn;exact Nat.lt_of_lt_of_le hn (Nat.pow_le_pow_right (by decide) (by omega))
  rw[NC];omega
 have hqW:N/2^(256-j)<uu:=Nat.lt_of_le_of_lt (Nat.div_le_self _ _) hn;refine(tX (r:=oW (N/2^(256-j))) ?_ rfl).trans ?_
 ·simp only[tK,at0,e1];rw[UZ,Dr,hN,e2,yU];rfl
 refine(tX (r:=oB (N/2^(256-j))) ?_ rfl).trans ?_
 ·simp only[tK,at1];rw[ZX,yA hqW];rfl
 refine(tX (r:=[((FP.restN N (2^(256-j)):Nat):Int)]) ?_ rfl).trans ?_
 ·simp only[tK,at5];rw[aoX _ _ _ _ _ (by rw[vJ,hj];omega) (by rw[vJ,hj];omega),Dr,hN,vJ,hj,yU]
 have hrest:=FP.restN_le N (2^(256-j));have hz:=FP.restN_zero N (2^(256-j));have u8r:u8 ((FP.restN N (2^(256-j)):Nat):Int)=((FP.restN N (2^(256-j)):Nat):Int):=NB (by omega) (by omega);refine(tX (r:=[ui (FP.upN (u8 m).toNat (uk g) N (2^(256-j)))]) ?_ rfl).trans ?_
 ·simp only[tK,at6,Hw,afj,u8r];congr 2
  have hodd:(uA .and .u64 (wd (N/2^(256-j)) 0) 1==1)=FP.oddN (N/2^(256-j)):=by rw[xH,and1 _ (Nat.mod_lt _ xm)];unfold FP.oddN;rw[Nat.pow_zero,Nat.div_one,Bb];generalize N/2^(256-j)=y;rw[Bool.eq_iff_iff,beq_iff_eq,Nat.beq_eq];omega
  rw[hodd];unfold FP.upN;rcases Nat.eq_zero_or_pos (FP.restN N (2^(256-j))) with h|h
  ·rw[h];rfl
  ·rw[afA hr8.1 (by omega) (by omega),yU]
   rw[show Nat.beq (FP.restN N (2^(256-j))) 0=false by cases hb:Nat.beq (FP.restN N (2^(256-j))) 0 with
    | false=>rfl
    | true=>have:=Nat.eq_of_beq_eq_true hb;omega]
   rfl
 rw[uU];simp only[Am,wM,vK,vL,wN,wO,vU,vV,oW,oB,uE]
 have hne:((((FP.restN N (2^(256-j)):Nat):Int) != 0):Bool)=decide (N%2^(256-j)≠0):=by rw[Bool.eq_iff_iff,bne_iff_ne,decide_eq_true_iff];omega
 unfold FP.rdiv
 cases hu:FP.upN (u8 m).toNat (uk g) N (2^(256-j)) with
 | true =>
  rw[if_pos rfl]
  have l1:Ch [wd (N/2^(256-j)) 1,wd (N/2^(256-j)) 0,0,1] = [wd (N/2^(256-j)+1) 1,wd (N/2^(256-j)+1) 0,0]:=by have:=Js (N/2^(256-j)) 1 hq1;rw[Er.1,Er.2] at this;exact this
  refine(tX (by simp only[tK,at7];exact l1) (by rfl)).trans ?_;rw[uj rfl];simp only[tK,u8r,hne];rfl
 | false =>
  rw[if_neg (by decide),uj rfl];simp only[tK,u8r,hne];rfl
theorem aoY (f n:Int):Pn [f,n]=oB (if fN f<4 then FP.mk (fN f) (uk n) 0 else 0):=by refine Eq.trans ?_ (Jr _);rw[Pn,abu];refine(tX (by simp only[tK,JQ];exact Fh _ _ _ _ _) (by rfl)).trans ?_;rw[uD,uj rfl];simp only[tK,show nB 0 0=0 by decide,show i64 0=0 by decide];unfold Bc;simp only[Nat.zero_mod,Nat.zero_mul,Nat.add_zero,Int.lt_irrefl,false_or,show ¬ ((0:Int)>1048576) by decide,if_false,Int.toNat_zero];rfl
theorem afH {f:Nat} (h:f<4):(2*FP.fE f+1)%2^(FP.fW f-FP.fP f)=2*FP.fE f+1/\2*FP.fE f%2^(FP.fW f-FP.fP f)=2*FP.fE f:=by rcases FP.f4 h with rfl|rfl|rfl|rfl<;>decide
theorem Va (e:Int) (h0:0<=e) (h1:e<=1000000):uA .mul .i64 2 e=2*e:=by show IntKind.i64.wrap (2*e)=2*e;rw[Fb];exact vX (by omega) (by omega)
theorem afI {f:Nat} (h:f<4) (neg:Bool) (frac:Nat):Bc f neg ((2*FP.fE f+1:Nat):Int) frac=FP.mk f neg (FP.inf f+frac%2^(FP.fP f-1)):=by have hl:=RO f;unfold Bc;rw[if_neg (by omega),yU,(afH h).1];rfl
theorem KZ {f:Nat} (h:f<4):2^(FP.fP f-1)<=FP.inf f/\FP.inf f+2^(FP.fP f-2)<2^(FP.fW f-1)/\2^(FP.fP f-2)<2^(FP.fP f-1)/\2^(FP.fP f-1)=2*2^(FP.fP f-2):=by rcases FP.f4 h with rfl|rfl|rfl|rfl<;>decide
theorem aab {f:Nat} (h:f<4):FP.inf f<2^(FP.fW f-1):=by have:=KZ h;omega
theorem afJ (f n:Int):H9 [f,n]=oB (if fN f<4 then FP.mk (fN f) (uk n) (FP.inf (fN f)) else 0):=by
 refine Eq.trans ?_ (Jr _);have hl:=RO (fN f);rw[H9,abv];refine(tX (by simp only[tK,abB];exact KY _) (by rfl)).trans ?_;rw[uD];have e1:i64 (uA .mul .i64 2 (FP.fE (fN f):Int)+1)=((2*FP.fE (fN f)+1:Nat):Int):=by rw[Va _ (by omega) (by omega),vX (by omega) (by omega)];omega
 refine(tX (by simp only[tK,JQ,zz,e1];exact Fh _ _ _ _ _ ) (by rfl)).trans ?_;rw[uD,uj rfl,wD (by omega)];simp only[tK,show nB 0 0=0 by decide];by_cases hf:fN f<4
 ·rw[if_pos hf,if_pos hf,afI hf,Nat.zero_mod,Nat.add_zero];rfl
 ·rw[if_neg hf,if_neg hf];rfl
theorem aoZ (f n:Int):Pq [f,n]=oB (if fN f<4 then FP.mk (fN f) (uk n) (FP.inf (fN f)-1) else 0):=by
 refine Eq.trans ?_ (Jr _);have hl:=RO (fN f);rw[Pq,abw];refine(tX (by simp only[tK,abB];exact KY _) (by rfl)).trans ?_;rw[uD];have e1:uA .mul .i64 2 (FP.fE (fN f):Int)=((2*FP.fE (fN f):Nat):Int):=by rw[Va _ (by omega) (by omega)];omega
 refine(tX (by simp only[tK,JQ,zz,e1];exact Fh _ _ _ _ _ ) (by rfl)).trans ?_;rw[uD,uj rfl,wD (by omega)];simp only[tK];by_cases hf:fN f<4
 ·rw[if_pos hf,if_pos hf]
  have e:Bc (fN f) (uk n) ((2*FP.fE (fN f):Nat):Int) (nB 18446744073709551615 18446744073709551615)=FP.mk (fN f) (uk n) (FP.inf (fN f)-1):=by
   unfold Bc;rw[if_neg (by omega),yU,(afH hf).2];unfold FP.inf FP.infC
   have hall:nB 18446744073709551615 18446744073709551615%2^(FP.fP (fN f)-1)=2^(FP.fP (fN f)-1)-1:=by rcases FP.f4 hf with h|h|h|h<;>rw[h]<;>decide
   rw[hall,Nat.add_mul,Nat.one_mul];have:=FP.two_pow_pos (FP.fP (fN f)-1);congr 1;omega
  rw[e];rfl
 ·rw[if_neg hf,if_neg hf];rfl
theorem Vb (f a b:Int):DC [f,a,b]=(if fN f<4 then [ui (FP.sgn (fN f) (nB a b)),((FP.cod (fN f) (nB a b)/2^(FP.fP (fN f)-1):Nat):Int)]++oB (FP.cod (fN f) (nB a b)%2^(FP.fP (fN f)-1)) else [0,0,0,0]):=by
 rw[DC,abx];have hW:=Jq (fN f);have hP:=xz (fN f);refine(tX (by simp only[tK,atX];exact RN _) (by rfl)).trans ?_;rw[uD,uU];simp only[tK,hW,beq_iff_eq];by_cases hf:¬ fN f<4
 ·have:FP.fW (fN f)=0:=by obtain⟨m,hm⟩:∃ m,fN f=m+4:=⟨fN f-4,by omega⟩;rw[hm];rfl
  rw[if_pos (by rw[this];rfl),uj rfl,if_neg hf];rfl
 have hf:=Classical.not_not.1 hf;obtain⟨h1,h2,h3,h4,h5,_,_,h8⟩:=Z7 hf;rw[if_neg (by omega),if_pos hf];have eW:i64 ((FP.fW (fN f):Int)-(FP.fP (fN f):Int))=((FP.fW (fN f)-FP.fP (fN f):Nat):Int):=Ep (by omega) (by omega);have eP:i64 ((FP.fP (fN f):Int)-1)=((FP.fP (fN f)-1:Nat):Int):=Ep (b:=1) (by omega) (by omega);have eS:i64 ((FP.fW (fN f):Int)-1)=((FP.fW (fN f)-1:Nat):Int):=Ep (b:=1) (by omega) (by omega);obtain⟨z,hz,ez,hc,hd⟩:=Ce a b;have hcut:=RP z (show FP.fW (fN f)<=128 by omega);rw[ez];refine(tX (r:=oB (z%2^FP.fW (fN f))) ?_ rfl).trans ?_
 ·simp only[tK,atY];rw[U8,vQ,ez,uD];rfl
 refine(tX (by simp only[tK,atZ,hP,eP];exact aoV _ hcut (by omega) ) (by rfl)).trans ?_;have eS2:i64 ((FP.fW (fN f)-1:Nat):Int)=((FP.fW (fN f)-1:Nat):Int):=wD (by omega);refine(tX (r:=[ui (FP.sgn (fN f) z)]) ?_ rfl).trans ?_
 ·simp only[tK,ahR,hW,eS];rw[U1,vQ,ez,eS2,QG];rfl
 have hq:z%2^FP.fW (fN f)/2^(FP.fP (fN f)-1)<uh:=Nat.lt_of_le_of_lt (Nat.div_le_self _ _) hcut;refine(tX (by simp only[tK,ahS,hW,hP,eW];exact NK _ hq (by omega) ) (by rfl)).trans ?_;refine(tX (by simp only[tK,ahS,hP,eP,hc,hd];exact NK _ hz (by omega) ) (by rfl)).trans ?_;rw[uj rfl];simp only[tK]
 have hcod:z%2^FP.fW (fN f)/2^(FP.fP (fN f)-1)%2^(FP.fW (fN f)-FP.fP (fN f))=FP.cod (fN f) z/2^(FP.fP (fN f)-1):=by
  unfold FP.cod;have e1:2^(FP.fW (fN f)-1)=2^(FP.fP (fN f)-1)*2^(FP.fW (fN f)-FP.fP (fN f)):=by rw[<- Nat.pow_add];congr 1;omega
  have e2:2^FP.fW (fN f)=2^(FP.fP (fN f)-1)*2^(FP.fW (fN f)-FP.fP (fN f))*2:=by rw[<- e1,<- Nat.pow_succ];congr 1;omega
  rw[e1,Nat.mod_mul_right_div_self,e2,Nat.mul_assoc,Nat.mod_mul_right_div_self,Nat.mod_mul_right_mod]
 have hfrac:z%2^(FP.fP (fN f)-1)=FP.cod (fN f) z%2^(FP.fP (fN f)-1):=by
  unfold FP.cod;have e1:2^(FP.fW (fN f)-1)=2^(FP.fP (fN f)-1)*2^(FP.fW (fN f)-FP.fP (fN f)):=by rw[<- Nat.pow_add];congr 1;omega
  rw[e1,Nat.mod_mul_right_mod]
 have hsm:z%2^FP.fW (fN f)/2^(FP.fP (fN f)-1)%2^(FP.fW (fN f)-FP.fP (fN f))<32768:=by refine Nat.lt_of_lt_of_le (Nat.mod_lt _ (FP.two_pow_pos _)) ?_;exact(show 2^(FP.fW (fN f)-FP.fP (fN f))<=2^15 from Nat.pow_le_pow_right (by decide) h8)
 have hw0:wd (z%2^FP.fW (fN f)/2^(FP.fP (fN f)-1)%2^(FP.fW (fN f)-FP.fP (fN f))) 0=((z%2^FP.fW (fN f)/2^(FP.fP (fN f)-1)%2^(FP.fW (fN f)-FP.fP (fN f)):Nat):Int):=by rw[xH,Nat.pow_zero,Nat.div_one,Nat.mod_eq_of_lt (by rw[Bb];omega)]
 rw[hw0,wD (by omega),hcod,<- hfrac]
theorem Ju (f:Int):(u8 f<4)↔fN f<4:=by have:=Fa f;unfold fN;omega
theorem afK (f c:Nat):u8 (FP.clsC f c:Int)=FP.clsC f c:=NB (by omega) (by have:=FP.clsC_le f c;omega)
theorem afL {c H K i:Nat} (hp0:0<K) (hH:H=2*K) (hcm:c=i+c%H) (hl:c%H<H):c%H/K%2=1↔i+K<=c:=by
 generalize c%H=r at *
 have h2:r/K<2:=by rw[Nat.div_lt_iff_lt_mul hp0];omega
 have h1:1<=r/K↔K<=r:=by rw[Nat.le_div_iff_mul_le hp0,Nat.one_mul]
 generalize r/K=y at *
 omega
theorem afM (f a b:Int):Gt [f,a,b]=if fN f<4 then [((FP.cls (fN f) (nB a b):Nat):Int),ui (FP.sgn (fN f) (nB a b))] else [0,0]:=by
 rw[Gt,abC,uU];simp only[tK,Bool.not_eq_true',decide_eq_false_iff_not,Ju];by_cases hf:¬ fN f<4
 ·rw[if_pos hf,if_neg hf,uj rfl];rfl
 rw[if_neg hf];have hf:=Classical.not_not.1 hf;rw[if_pos hf];obtain⟨n1,n2,n3,n4,n5,n6,n7,n8,n9⟩:=FP.fmtN hf;have hcl:=FP.cod_lt (fN f) (nB a b);refine(tX (r:=[ui (FP.sgn (fN f) (nB a b)),((FP.cod (fN f) (nB a b)/2^(FP.fP (fN f)-1):Nat):Int)]++oB (FP.cod (fN f) (nB a b)%2^(FP.fP (fN f)-1))) ?_ rfl).trans ?_
 ·simp only[tK,ahX];rw[Vb,uD,if_pos hf,vQ];rfl
 unfold FP.cls;generalize FP.sgn (fN f) (nB a b)=s;generalize FP.cod (fN f) (nB a b)=c at *
 generalize hH:2^(FP.fP (fN f)-1)=H at *
 have hH0:0<H:=by rw[<- hH];exact FP.two_pow_pos _
 have hHW:H<=uh:=by rw[<- hH];exact Gg (by omega)
 have hfr:c%H<uh:=Nat.lt_of_lt_of_le (Nat.mod_lt _ hH0) hHW;refine(tX (r:=[ui (decide (c%H=0))]) ?_ rfl).trans ?_
 ·simp only[tK,aui];rw[afv,vv hfr]
 refine(tX (by simp only[tK,auj];exact KY _) (by rfl)).trans ?_;rw[uD]
 have hc128:c/H<1000000:=by
  rw[Nat.div_lt_iff_lt_mul hH0];have e1:2^(FP.fW (fN f)-1)=2^(FP.fW (fN f)-FP.fP (fN f))*H:=by rw[<- hH,<- Nat.pow_add];congr 1;omega
  rw[e1] at hcl;refine Nat.lt_of_lt_of_le hcl (Nat.mul_le_mul_right _ ?_);rw[<- n9];omega
 have htop:2^(FP.fW (fN f)-1)=FP.inf (fN f)+H:=by rw[<- hH];exact FP.inf_top hf
 have hinf:FP.inf (fN f)=(2*FP.fE (fN f)+1)*H:=by rw[<- hH];rfl
 have hdm:=Nat.div_add_mod c H;have hml:=Nat.mod_lt c hH0;have e1:i64 ((c/H:Nat):Int)=((c/H:Nat):Int):=wD (by omega);have e2:i64 (uA .mul .i64 2 (FP.fE (fN f):Int)+1)=((2*FP.fE (fN f)+1:Nat):Int):=by rw[Va _ (by omega) (by omega),vX (by omega) (by omega)];omega
 rw[uU];simp only[tK,e1,beq_iff_eq];have cls0:c=0->FP.clsC (fN f) c=0:=λh=>by unfold FP.clsC;rw[if_pos h]
 have cls1:c≠0->c<H->FP.clsC (fN f) c=1:=λh h2=>by unfold FP.clsC;rw[if_neg h,hH,if_pos h2]
 have cls2:c≠0->¬ c<H->c<FP.inf (fN f)->FP.clsC (fN f) c=2:=λh h2 h3=>by unfold FP.clsC;rw[if_neg h,hH,if_neg h2,if_pos h3]
 have cls3:c≠0->¬ c<H->c=FP.inf (fN f)->FP.clsC (fN f) c=3:=λh h2 h3=>by unfold FP.clsC;rw[if_neg h,hH,if_neg h2,if_neg (by omega),if_pos h3]
 have cls45:c≠0->¬ c<H->¬ c<FP.inf (fN f)->c≠FP.inf (fN f)->FP.clsC (fN f) c=if FP.inf (fN f)+2^(FP.fP (fN f)-2)<=c then 4 else 5:=λh h2 h3 h4=>by unfold FP.clsC;rw[if_neg h,hH,if_neg h2,if_neg h3,if_neg h4]
 by_cases hz:c/H=0
 ·rw[if_pos (by omega),uU];simp only[tK,decide_eq_true_iff];have hlt:c<H:=(Nat.div_eq_zero_iff_lt hH0).1 hz;have hcm:c%H=c:=Nat.mod_eq_of_lt hlt;rw[hcm];by_cases h0:c=0
  ·rw[if_pos h0];rw[uj rfl,show FP.clsC (fN f) c=0 from cls0 h0];(simp only[tK])<;>rfl
  ·rw[if_neg h0];rw[uj rfl,show FP.clsC (fN f) c=1 from cls1 h0 hlt];(simp only[tK])<;>rfl
 ·have hge:¬ c<H:=λh=>hz (Nat.div_eq_of_lt h)
  have h0:c≠0:=by omega
  rw[if_neg (by omega),uU];simp only[tK,e1,zz,e2,decide_eq_true_iff]
  have hcmp:(((c/H:Nat):Int)<((2*FP.fE (fN f)+1:Nat):Int))↔c<FP.inf (fN f):=by rw[hinf,<- Nat.div_lt_iff_lt_mul hH0];omega
  by_cases h1:c<FP.inf (fN f)
  ·rw[if_pos (hcmp.2 h1)];rw[uj rfl,show FP.clsC (fN f) c=2 from cls2 h0 hge h1];(simp only[tK])<;>rfl
  ·rw[if_neg (λh=>h1 (hcmp.1 h)),uU];simp only[tK,decide_eq_true_iff]
   have hq:c/H=2*FP.fE (fN f)+1:=by
    apply Nat.le_antisymm
    ·have:c/H<2*FP.fE (fN f)+2:=by rw[Nat.div_lt_iff_lt_mul hH0,show(2*FP.fE (fN f)+2)*H=FP.inf (fN f)+H by rw[hinf,<- Nat.succ_mul],<- htop];exact hcl
     omega
    ·rw[Nat.le_div_iff_mul_le hH0,<- hinf];omega
   have hcm:c=FP.inf (fN f)+c%H:=by rw[hinf,<- hq,Nat.mul_comm];exact hdm.symm
   by_cases h2:c%H=0
   ·rw[if_pos h2];rw[uj rfl,show FP.clsC (fN f) c=3 from cls3 h0 hge (by omega)];(simp only[tK])<;>rfl
   ·rw[if_neg h2];have c45:=cls45 h0 hge h1 (by omega);refine(tX (by simp only[tK,auk];exact NJ _) (by rfl)).trans ?_;rw[uD];have eP:i64 ((FP.fP (fN f):Int)-2)=((FP.fP (fN f)-2:Nat):Int):=Ep (b:=2) (by omega) (by omega);have hHH:H=2*2^(FP.fP (fN f)-2):=by rw[<- hH,<- Nat.pow_succ'];congr 1;omega
    have hbit:(c%H).testBit (FP.fP (fN f)-2)=decide (FP.inf (fN f)+2^(FP.fP (fN f)-2)<=c):=by rw[Nat.testBit_eq_decide_div_mod_eq,decide_eq_decide];have hp0:=FP.two_pow_pos (FP.fP (fN f)-2);exact afL hp0 hHH hcm (Nat.mod_lt c hH0)
    refine(tX (r:=[ui (decide (FP.inf (fN f)+2^(FP.fP (fN f)-2)<=c))]) ?_ rfl).trans ?_
    ·simp only[tK,aul,xz,eP];rw[U1,vv hfr,wD (by omega),QG,hbit]
    rw[uU];simp only[tK,decide_eq_true_iff];by_cases h3:FP.inf (fN f)+2^(FP.fP (fN f)-2)<=c
    ·rw[if_pos h3];rw[uj rfl,show FP.clsC (fN f) c=4 by rw[c45,if_pos h3]];(simp only[tK])<;>rfl
    ·rw[if_neg h3];rw[uj rfl,show FP.clsC (fN f) c=5 by rw[c45,if_neg h3]];(simp only[tK])<;>rfl
def uf (f b:Nat):Nat:=if f<4 then FP.cls f b else 0
def Fj (f b:Nat):Bool:=decide (f<4)&&FP.sgn f b
def K9 (f b:Nat):Nat:=if f<4 then FP.cod f b else 0
theorem Vd (f a b:Int):Gt [f,a,b] = [((uf (fN f) (nB a b):Nat):Int),ui (Fj (fN f) (nB a b))]:=by
 rw[afM];unfold uf Fj;by_cases hf:fN f<4
 ·rw[if_pos hf,if_pos hf,decide_eq_true hf,Bool.true_and]
 ·rw[if_neg hf,if_neg hf,decide_eq_false hf];rfl
theorem afN (f a b:Int):DC [f,a,b] = [ui (Fj (fN f) (nB a b)),((K9 (fN f) (nB a b)/2^(FP.fP (fN f)-1):Nat):Int)]++oB (K9 (fN f) (nB a b)%2^(FP.fP (fN f)-1)):=by
 rw[Vb];unfold K9 Fj;by_cases hf:fN f<4
 ·rw[if_pos hf,if_pos hf,decide_eq_true hf,Bool.true_and]
 ·rw[if_neg hf,if_neg hf,decide_eq_false hf,Nat.zero_div,Nat.zero_mod];rfl
theorem Gh (f b:Nat):u8 (uf f b:Int)=uf f b:=by
  unfold uf;split
  · exact afK _ _
  · rfl
theorem NL (f a b:Int):BC [f,a,b] = [ui (decide (4<=uf (fN f) (nB a b)))]:=by rw[BC,abF];refine(tX (by simp only[tK,VP];exact Vd _ _ _) (by rfl)).trans ?_;rw[uD,vQ,uj rfl];simp only[tK,Gh];congr 2;rw[decide_eq_decide];omega
theorem afO (f a b:Int):JR [f,a,b] = [ui (decide (uf (fN f) (nB a b)=5))]:=by rw[JR,abJ];refine(tX (by simp only[tK,VP];exact Vd _ _ _) (by rfl)).trans ?_;rw[uD,vQ,uj rfl];simp only[tK,Gh];congr 2;rw[Bool.eq_iff_iff,beq_iff_eq,decide_eq_true_iff];omega
theorem ao0 (f a b:Int):PI [f,a,b] = [ui (decide (fN f<4)&&decide (uf (fN f) (nB a b)<3))]:=by
 rw[PI,abG];refine(tX (by simp only[tK,VP];exact Vd _ _ _) (by rfl)).trans ?_;rw[uD,vQ,uU];simp only[tK,decide_eq_true_iff,Ju];by_cases hf:fN f<4
 ·rw[if_pos hf,uj rfl];simp only[tK,Gh,decide_eq_true hf,Bool.true_and];congr 2;rw[decide_eq_decide];omega
 ·rw[if_neg hf,uj rfl,decide_eq_false hf];rfl
theorem aac {f c:Nat} (hf:f<4) (hcl:c<2^(FP.fW f-1)):c/2^(FP.fP f-1)<2^(FP.fW f-FP.fP f)/\c/2^(FP.fP f-1)<1000000:=by
 obtain⟨n1,n2,n3,n4,n5,n6,n7,n8,n9⟩:=FP.fmtN hf
 have hq:c/2^(FP.fP f-1)<2^(FP.fW f-FP.fP f):=by rw[Nat.div_lt_iff_lt_mul (FP.two_pow_pos _),<- Nat.pow_add,show FP.fW f-FP.fP f+(FP.fP f-1)=FP.fW f-1 by omega];exact hcl
 refine⟨hq,?_⟩;rw[<- n9] at hq;generalize c/2^(FP.fP f-1)=q at *
 omega
theorem ao1 {f c:Nat} (hf:f<4) (hcl:c<2^(FP.fW f-1)) (neg:Bool):Bc f neg ((c/2^(FP.fP f-1):Nat):Int) (c%2^(FP.fP f-1))=FP.mk f neg c:=by obtain⟨hq,hq2⟩:=aac hf hcl;unfold Bc;rw[if_neg (by generalize c/2^(FP.fP f-1)=q at *;omega),yU,Nat.mod_mod,Nat.mod_eq_of_lt hq,Nat.mul_comm,Nat.div_add_mod]
theorem ao2 (f a b:Int):LA [f,a,b]=oB (if fN f<4 then FP.mk (fN f) (!FP.sgn (fN f) (nB a b)) (FP.cod (fN f) (nB a b)) else 0):=by
 refine Eq.trans ?_ (Jr _);rw[LA,abE];refine(tX (by simp only[tK,ahX];exact afN _ _ _) (by rfl)).trans ?_;rw[uD,vQ];by_cases hf:fN f<4
 ·rw[if_pos hf];obtain⟨n1,n2,n3,n4,n5,n6,n7,n8,n9⟩:=FP.fmtN hf;have hcl:=FP.cod_lt (fN f) (nB a b);rw[show Fj (fN f) (nB a b)=FP.sgn (fN f) (nB a b) by unfold Fj;rw[decide_eq_true hf,Bool.true_and],show K9 (fN f) (nB a b)=FP.cod (fN f) (nB a b) by unfold K9;rw[if_pos hf]];generalize FP.sgn (fN f) (nB a b)=s;generalize FP.cod (fN f) (nB a b)=c at *
  have hfr:c%2^(FP.fP (fN f)-1)<uh:=RP _ (by omega);have hq2:=(aac hf hcl).2;refine(tX (r:=oB (FP.mk (fN f) (!s) c)) ?_ rfl).trans ?_
  ·simp only[tK,ahY];rw[Fh,uD,if_pos hf,vv hfr,vJ,wD (by omega),uE,ao1 hf hcl,uV]
  rw[uj rfl];simp only[tK];rfl
 ·rw[if_neg hf];refine(tX (by simp only[tK,ahY];exact Fh _ _ _ _ _) (by rfl)).trans ?_;rw[uD,if_neg hf,uj rfl];rfl
theorem ao3 (n:Nat):len n=FP.lenN n:=rfl
theorem afP (k n:Nat) (h:n≠0):AJ k n=k-FP.lenN n:=by unfold AJ;rw[if_neg h,ao3]
theorem ao4 (f:Int):Lv [f]=oB (if fN f<4 then FP.mk (fN f) false (FP.inf (fN f)+2^(FP.fP (fN f)-2)) else 0):=by
 refine Eq.trans ?_ (Jr _);have hl:=RO (fN f);rw[Lv,abz];refine(tX (by simp only[tK,abB];exact KY _) (by rfl)).trans ?_;refine(tX (by simp only[tK,ahT];exact NJ _) (by rfl)).trans ?_;rw[uD];by_cases hf:fN f<4
 ·obtain⟨n1,n2,n3,n4,n5,n6,n7,n8,n9⟩:=FP.fmtN hf;have eP:i64 ((FP.fP (fN f):Int)-2)=((FP.fP (fN f)-2:Nat):Int):=Ep (b:=2) (by omega) (by omega)
  have hK:1*2^(FP.fP (fN f)-2)<uh:=by rw[Nat.one_mul,yN];exact Nat.pow_lt_pow_right (by decide) (by omega)
  have l1:zU [0,1,((FP.fP (fN f)-2:Nat):Int)]=oB (1*2^(FP.fP (fN f)-2)):=by have:=HY 1 (k:=FP.fP (fN f)-2) (by decide) (by omega) hK;rw[Er.1,Er.2] at this;exact this
  refine(tX (by simp only[tK,ahU,xz,eP];exact l1) (by rfl)).trans ?_;have e1:i64 (uA .mul .i64 2 (FP.fE (fN f):Int)+1)=((2*FP.fE (fN f)+1:Nat):Int):=by rw[Va _ (by omega) (by omega),vX (by omega) (by omega)];omega
  refine(tX (r:=oB (FP.mk (fN f) false (FP.inf (fN f)+2^(FP.fP (fN f)-2)))) ?_ rfl).trans ?_
  ·simp only[tK,JQ,zz,e1];rw[Fh,uD,if_pos hf,vv hK,wD (by omega),show uk 0=false from rfl,afI hf,Nat.one_mul,Nat.mod_eq_of_lt (KZ hf).2.2.1,uV]
  rw[uj rfl];simp only[tK,if_pos hf];rfl
 ·rw[if_neg hf];refine(tX (by simp only[tK,ahU];exact UW _ _ _) (by rfl)).trans ?_;refine(tX (by simp only[tK,JQ];exact Fh _ _ _ _ _) (by rfl)).trans ?_;rw[uD,if_neg hf,uj rfl];rfl
theorem ao5 (f m n:Int) (hf:fN f<4) (hm:u8 m<=4):Lx [f,m,n]=oB (FP.mk (fN f) (uk n) (FP.overC (FP.fP (fN f)) (FP.fE (fN f)) (u8 m).toNat (uk n))) ++ [20]:=by
 have hf2:=(Ju f).2 hf;rw[Lx,abD,uU];simp only[Al,Fg,Dp,KW,Ak,uE,wM,vK,vL,wN,wO,vU,vV,Bool.not_eq_true',decide_eq_false_iff_not];rw[if_neg (by omega),uU];simp only[Al,Fg,RB,KW,Ak,uE,wM,vK,vL,wN,wO,vU,vV,Bool.not_eq_true',decide_eq_false_iff_not];rw[if_neg (by omega)];refine(tX (by simp only[tK,aum];exact aoP _ _) (by rfl)).trans ?_;rw[CG,uE,uU];simp only[tK];unfold FP.overC
 cases hi:FP.nextN (u8 m).toNat (uk n) true 3 with
 | true =>
  rw[if_pos rfl,if_pos rfl];refine(tX (by simp only[tK,aun];exact afJ _ _) (by rfl)).trans ?_;rw[uD,if_pos hf,uE,uj rfl];simp only[tK];rfl
 | false =>
  rw[if_neg (by decide),if_neg (by decide)];refine(tX (by simp only[tK,auo];exact aoZ _ _) (by rfl)).trans ?_;rw[uD,if_pos hf,uE,uj rfl];simp only[tK];rfl
theorem Ve (f n e c d:Int) (hf:fN f<4):Gs [f,n,e,c,d]=oB (Bc (fN f) (uk n) (if i64 e=0/\(nB c d).testBit (FP.fP (fN f)-1)=true then 1 else i64 e) (nB c d)):=by
 refine Eq.trans ?_ (Jr _);obtain⟨n1,n2,n3,n4,n5,n6,n7,n8,n9⟩:=FP.fmtN hf;have eP:i64 ((FP.fP (fN f):Int)-1)=((FP.fP (fN f)-1:Nat):Int):=Ep (b:=1) (by omega) (by omega);rw[Gs,aby,uU];simp only[Al,KX,CJ,Ak,uE,wM,vK,vL,wN,wO,vU,vV,beq_iff_eq];by_cases he:i64 e=0
 ·rw[if_pos he];refine(tX (by simp only[tK,ahT];exact NJ _) (by rfl)).trans ?_;rw[uD];refine(tX (r:=[ui ((nB c d).testBit (FP.fP (fN f)-1))]) ?_ rfl).trans ?_
  ·simp only[tK,ahR,xz,eP];rw[U1,vQ,wD (by omega),QG]
  rw[uU];simp only[tK]
  cases hb:(nB c d).testBit (FP.fP (fN f)-1) with
  | true =>
   rw[if_pos rfl,if_pos ⟨he,rfl⟩];refine(tX (by simp only[tK,JQ];exact Fh _ _ _ _ _) (by rfl)).trans ?_;rw[uD,if_pos hf,vQ,uE,show i64 1=1 by decide,uj rfl];simp only[tK];rfl
  | false =>
   rw[if_neg (by decide),if_neg (by simp)];refine(tX (by simp only[tK,JQ];exact Fh _ _ _ _ _) (by rfl)).trans ?_;rw[uD,if_pos hf,vQ,uE,vJ,uj rfl];simp only[tK];rfl
 ·rw[if_neg he,if_neg (λh=>he h.1)];refine(tX (by simp only[tK,JQ];exact Fh _ _ _ _ _) (by rfl)).trans ?_;rw[uD,if_pos hf,vQ,uE,vJ,uj rfl];simp only[tK];rfl
def uS (f b:Nat):Int:=if uf f b=1\/uf f b=2 then FP.unExp f (FP.cod f b) else 0
def wI (f b:Nat):Nat:=if uf f b=1\/uf f b=2 then FP.unSig f (FP.cod f b) else 0
theorem afQ {f c:Nat} (hf:f<4):(FP.clsC f c=1↔0<c/\c<2^(FP.fP f-1))/\(FP.clsC f c=2↔¬ c<2^(FP.fP f-1)/\c<FP.inf f):=by
 have h:=(KZ hf).1;have hp:=FP.two_pow_pos (FP.fP f-1);unfold FP.clsC;by_cases h0:c=0
 ·rw[if_pos h0];omega
 rw[if_neg h0];by_cases h1:c<2^(FP.fP f-1)
 ·rw[if_pos h1];omega
 rw[if_neg h1];by_cases h2:c<FP.inf f
 ·rw[if_pos h2];omega
 rw[if_neg h2];by_cases h3:c=FP.inf f
 ·rw[if_pos h3];omega
 rw[if_neg h3];split<;>omega
theorem RQ (f b:Nat):wI f b<uh:=by
 unfold wI;split
 ·rename_i h
  have hf:f<4:=by apply Classical.byContradiction;intro hf;unfold uf at h;rw[if_neg hf] at h;omega
  unfold uf at h;rw[if_pos hf] at h;obtain⟨c1,c2⟩:=afQ (c:=FP.cod f b) hf;have hin:=(KZ hf).1;have hp:=FP.two_pow_pos (FP.fP f-1)
  have hb:0<FP.cod f b/\FP.cod f b<FP.inf f:=by
   rcases h with h|h
   ·have:=c1.1 h;omega
   ·have:=c2.1 h;omega
  rw[yN];exact(FP.un_sig hf hb.1 hb.2).2
 ·exact FX
theorem Vf (f a b:Int):Ex [f,a,b] = [ui (Fj (fN f) (nB a b)),((uf (fN f) (nB a b):Nat):Int),uS (fN f) (nB a b)]++oB (wI (fN f) (nB a b)):=by
 rw[Ex,abH];refine(tX (by simp only[tK,VP];exact Vd _ _ _) (by rfl)).trans ?_;rw[uD,vQ];refine(tX (by simp only[tK,ah0];exact NJ _) (by rfl)).trans ?_;refine(tX (by simp only[tK,ah1];exact KY _) (by rfl)).trans ?_;rw[uD];refine(tX (by simp only[tK,auz];exact afN _ _ _) (by rfl)).trans ?_;rw[uD,vQ,uU];simp only[tK,Gh,beq_iff_eq];by_cases hf:¬ fN f<4
 ·have h0:uf (fN f) (nB a b)=0:=by unfold uf;rw[if_neg hf]
  rw[h0,if_neg (by decide),uU];simp only[tK,beq_iff_eq,show u8 ((0:Nat):Int)=0 by decide];rw[if_neg (by decide),uj rfl];unfold uS wI;rw[h0,if_neg (by decide),if_neg (by decide)];simp only[tK];rfl
 have hf:=Classical.not_not.1 hf;obtain⟨n1,n2,n3,n4,n5,n6,n7,n8,n9⟩:=FP.fmtN hf;have hS:K9 (fN f) (nB a b)=FP.cod (fN f) (nB a b):=by unfold K9;rw[if_pos hf]
 have hC:uf (fN f) (nB a b)=FP.clsC (fN f) (FP.cod (fN f) (nB a b)):=by unfold uf FP.cls;rw[if_pos hf]
 have hcl:=FP.cod_lt (fN f) (nB a b);unfold uS wI;rw[hS,hC];generalize FP.cod (fN f) (nB a b)=c at *
 obtain⟨c1,c2⟩:=afQ (c:=c) hf;have hk5:=FP.clsC_le (fN f) c;have hin:=(KZ hf).1;have hp0:=FP.two_pow_pos (FP.fP (fN f)-1);have hfr:c%2^(FP.fP (fN f)-1)<uh:=RP _ (by omega);have hq2:=(aac hf hcl).2;have e0:u8 ((FP.clsC (fN f) c:Nat):Int)=((FP.clsC (fN f) c:Nat):Int):=afK _ _;by_cases h2:FP.clsC (fN f) c=2
 ·rw[if_pos (by omega),if_pos (.inr h2),if_pos (.inr h2)];obtain⟨hn,hlt⟩:=c2.1 h2;have hs:=FP.un_sig hf (by omega) hlt;have hx:=FP.un_exp hf hlt;have e1:i64 (128-(FP.fP (fN f):Int))=((128-FP.fP (fN f):Nat):Int):=Ep (a:=128) (by omega) (by omega);have hpw:2^128=2^(FP.fP (fN f))*2^(128-FP.fP (fN f)):=by rw[<- Nat.pow_add];congr 1;omega
  have hpw2:(2:Nat)^127=2^(FP.fP (fN f)-1)*2^(128-FP.fP (fN f)):=by rw[<- Nat.pow_add];congr 1;omega
  have hh:=FP.half_pow n1;have hml:=Nat.mod_lt c hp0;have hq0:=FP.two_pow_pos (128-FP.fP (fN f));have hb:c%2^(FP.fP (fN f)-1)*2^(128-FP.fP (fN f))<2^127:=by rw[hpw2];exact Nat.mul_lt_mul_of_pos_right hml hq0
  have hbW:c%2^(FP.fP (fN f)-1)*2^(128-FP.fP (fN f))<uh:=by rw[NC];omega
  refine(tX (by simp only[tK,auA,xz,e1];exact HY _ hfr (by omega) hbW ) (by rfl)).trans ?_
  have l1:Ch [wd (c%2^(FP.fP (fN f)-1)*2^(128-FP.fP (fN f))) 1,wd (c%2^(FP.fP (fN f)-1)*2^(128-FP.fP (fN f))) 0,9223372036854775808,0] =
    [wd (c%2^(FP.fP (fN f)-1)*2^(128-FP.fP (fN f))+2^127) 1,wd (c%2^(FP.fP (fN f)-1)*2^(128-FP.fP (fN f))+2^127) 0,0]:=by
   have:=Js (c%2^(FP.fP (fN f)-1)*2^(128-FP.fP (fN f))) (2^127) (by rw[NC];omega);rw[show wd (2^127) 1=9223372036854775808 by decide,show wd (2^127) 0=0 by decide] at this;exact this
  refine(tX (by simp only[tK,auB];exact l1) (by rfl)).trans ?_;rw[uj rfl]
  have eS:c%2^(FP.fP (fN f)-1)*2^(128-FP.fP (fN f))+2^127=FP.unSig (fN f) c:=by unfold FP.unSig;rw[if_neg hn,hpw2,Nat.add_mul,Nat.add_comm]
  have eE:i64 (((c/2^(FP.fP (fN f)-1):Nat):Int)-(FP.fE (fN f):Int))=FP.unExp (fN f) c:=by unfold FP.unExp at hx ⊢;rw[if_neg hn] at hx ⊢;exact NI hx.1 hx.2
  have e5:i64 ((c/2^(FP.fP (fN f)-1):Nat):Int)=((c/2^(FP.fP (fN f)-1):Nat):Int):=wD (by omega);rw[eS];simp only[tK,e0,e5,zz,eE]
 ·rw[if_neg (by omega),uU];simp only[tK,e0,beq_iff_eq];by_cases h1:FP.clsC (fN f) c=1
  ·rw[if_pos (by omega),if_pos (.inl h1),if_pos (.inl h1)];obtain⟨hpos,hlt⟩:=c1.1 h1;have hx:=FP.un_exp hf (show c<FP.inf (fN f) by omega);have hcm:c%2^(FP.fP (fN f)-1)=c:=Nat.mod_eq_of_lt hlt;have hcW:c<uh:=by rw[<- hcm];exact hfr
   have hr:=afP 128 c (by omega);have hle:AJ 128 c<=128:=by rw[hr];omega
   refine(tX (r:=oB (c*2^AJ 128 c) ++ [((AJ 128 c:Nat):Int)]) ?_ rfl).trans ?_
   ·simp only[tK,auC,hcm];rw[aoT,vv hcW,uV];rfl
   rw[uj rfl];have eS:c*2^AJ 128 c=FP.unSig (fN f) c:=by unfold FP.unSig;rw[if_pos hlt,hr]
   have eE:i64 (i64 (i64 (i64 (1-(FP.fE (fN f):Int))+128)-(FP.fP (fN f):Int))-((AJ 128 c:Nat):Int))=FP.unExp (fN f) c:=by unfold FP.unExp at hx ⊢;rw[if_pos hlt] at hx ⊢;rw[NI (n:=1-(FP.fE (fN f):Int)) (by omega) (by omega),NI (n:=1-(FP.fE (fN f):Int)+128) (by omega) (by omega),NI (n:=1-(FP.fE (fN f):Int)+128-(FP.fP (fN f):Int)) (by omega) (by omega),hr];exact NI hx.1 hx.2
   have e5:i64 ((AJ 128 c:Nat):Int)=((AJ 128 c:Nat):Int):=wD (by omega);rw[eS];simp only[tK,e0,e5,zz,xz,eE]
  ·rw[if_neg (by omega),if_neg (by omega),if_neg (by omega),uj rfl];simp only[tK,e0];rfl
def Jv (P E m:Nat) (neg after:Bool) (ne e:Int) (up b:Nat):Nat×Nat :=
 if (E:Int)<e then(FP.overC P E m neg,20) else
 let tiny:=decide (ne<1-E)&&(!after||decide (e<1-E))
 if ne<1-E then
  let w:=FP.jam up (1-E-ne).toNat
  (FP.rdiv m neg w (2^(256-P)),if w%2^(256-P)=0 then 0 else if tiny then 24 else 16)
 else((ne-(1-E)).toNat*2^(P-1)+b,if up%2^(256-P)=0 then 0 else if tiny then 24 else 16)
theorem ao6 {P E m:Nat} {after neg:Bool} {exp:Int} {sig:Nat} (h:sig≠0):FP.goRound P E m after neg exp sig =
  Jv P E m neg after (exp-((255-Nat.log2 sig:Nat):Int)) (if FP.rdiv m neg (sig*2^(255-Nat.log2 sig)) (2^(256-P))=2^P then exp-((255-Nat.log2 sig:Nat):Int)+1 else exp-((255-Nat.log2 sig:Nat):Int)) (sig*2^(255-Nat.log2 sig)) (FP.rdiv m neg (sig*2^(255-Nat.log2 sig)) (2^(256-P))):=by
 unfold FP.goRound Jv;rw[if_neg h]
theorem afR {P E m:Nat} {neg after:Bool} {ne e:Int} {up b:Nat} (h:(E:Int)<e):Jv P E m neg after ne e up b=(FP.overC P E m neg,20):=by unfold Jv;rw[if_pos h]
theorem afS {P E m:Nat} {neg after:Bool} {ne e:Int} {up b j:Nat} (h:¬ (E:Int)<e) (h2:ne<1-E) (hj:1-(E:Int)-ne=(j:Int)) :
  Jv P E m neg after ne e up b=(FP.rdiv m neg (FP.jam up j) (2^(256-P)),if FP.jam up j%2^(256-P)=0 then 0 else if (!after||decide (e<1-E)) then 24 else 16):=by
 unfold Jv;rw[if_neg h,if_pos h2,hj,yU,decide_eq_true h2,Bool.true_and]
theorem afT {P E m:Nat} {neg after:Bool} {ne e:Int} {up b k:Nat} (h:¬ (E:Int)<e) (h2:¬ ne<1-E) (hk:ne-(1-(E:Int))=(k:Int)) :
  Jv P E m neg after ne e up b=(k*2^(P-1)+b,if up%2^(256-P)=0 then 0 else 16):=by
 unfold Jv;rw[if_neg h,if_neg h2,hk,yU,decide_eq_false h2,Bool.false_and];rfl
theorem afU {f b:Nat} {neg:Bool} (hf:f<4) (h:b<=2^(FP.fP f-1)):Bc f neg (if i64 0=0/\b.testBit (FP.fP f-1)=true then 1 else i64 0) b=FP.mk f neg b:=by
 obtain⟨n1,n2,n3,n4,n5,n6,n7,n8,n9⟩:=FP.fmtN hf;have hp:=FP.two_pow_pos (FP.fP f-1);have e0:i64 0=0:=by decide
 rw[e0,Nat.testBit_eq_decide_div_mod_eq];rcases Nat.eq_or_lt_of_le h with h|h
 ·subst h;rw[if_pos ⟨rfl,by rw[Nat.div_self hp];rfl⟩];unfold Bc;rw[if_neg (by decide),show(1:Int).toNat=1 from rfl,Nat.mod_self,Nat.add_zero,Nat.mod_eq_of_lt (by omega),Nat.one_mul]
 ·rw[if_neg (by rw[Nat.div_eq_of_lt h];decide)];unfold Bc;rw[if_neg (by decide),show(0:Int).toNat=0 from rfl,Nat.zero_mod,Nat.zero_mul,Nat.zero_add,Nat.mod_eq_of_lt h]
theorem afV {f b k:Nat} {neg:Bool} (hf:f<4) (h1:2^(FP.fP f-1)<=b) (h2:b<=2^FP.fP f) (t:Nat) (ht:t=if b=2^FP.fP f then 2 else 1) (hk:k+t<2*FP.fE f+2) :
  Bc f neg (if ((k+t:Nat):Int)=0/\b.testBit (FP.fP f-1)=true then 1 else((k+t:Nat):Int)) b=FP.mk f neg (k*2^(FP.fP f-1)+b):=by
 obtain⟨n1,n2,n3,n4,n5,n6,n7,n8,n9⟩:=FP.fmtN hf;have hp:=FP.two_pow_pos (FP.fP f-1);have hh:=FP.half_pow n1;have ht0:0<t:=by rw[ht];split<;>omega
 rw[if_neg (λh=>by have:=h.1;omega)];unfold Bc;rw[if_neg (by omega),yU,Nat.mod_eq_of_lt (by omega)];congr 1;by_cases hb:b=2^FP.fP f
 ·rw[if_pos hb] at ht;subst ht;rw[hb,hh,Nat.mul_mod_left,Nat.add_mul];omega
 ·rw[if_neg hb] at ht;subst ht;rw[Nat.mod_eq_sub_mod h1,Nat.mod_eq_of_lt (by omega),Nat.add_mul];omega
def Fp (e:Int):Int:=max (-1099511627776) (min e 1099511627776)
theorem afW (f m t n e a b c d:Int) (hf:fN f<4) (hm:u8 m<=4):DD [f,m,t,n,e,a,b,c,d] =
  oB (FP.mk (fN f) (uk n) (FP.roundE (FP.fP (fN f)) (FP.fE (fN f)) (u8 m).toNat (uk t) (uk n) (Fp (i64 e)) (nW a b c d)).1) ++ [(((FP.roundE (FP.fP (fN f)) (FP.fE (fN f)) (u8 m).toNat (uk t) (uk n) (Fp (i64 e)) (nW a b c d)).2:Nat):Int)]:=by
 obtain⟨n1,n2,n3,n4,n5,n6,n7,n8,n9⟩:=FP.fmtN hf;have hf2:=(Ju f).2 hf;have hm0:=Fa m;have hS:=Jp a b c d;rw[<- FP.goRound_eq n1 (by omega) n6 (uk t) (uk n) (Fp (i64 e)) (by rw[<- DU];exact hS)];rw[DD,abI,uU];simp only[wM,vK,vL,wN,wO,vU,vV,Al,Fg,Dp,KW,Ak,uE,Bool.not_eq_true',decide_eq_false_iff_not];rw[if_neg (by omega),uU];simp only[wM,vK,vL,wN,wO,vU,vV,Al,Fg,RB,KW,Ak,uE,Bool.not_eq_true',decide_eq_false_iff_not];rw[if_neg (by omega)];refine(tX (by simp only[tK,auD];exact afy _ _ _ _) (by rfl)).trans ?_;rw[Dr,uU];simp only[wM,vK,vL,wN,wO,vU,vV,Am,uE,decide_eq_true_iff];by_cases hz:nW a b c d=0
 ·rw[if_pos hz];refine(tX (by simp only[tK,auE];exact aoY _ _) (by rfl)).trans ?_;rw[uD,if_pos hf,uE,uj rfl,hz];simp only[tK];rfl
 rw[if_neg hz];rw[ao6 hz];have hlog:Nat.log2 (nW a b c d)<256:=(FP.log2_lt hz).2 (by rw[<- DU];exact hS);have hby:AJ 256 (nW a b c d)=255-Nat.log2 (nW a b c d):=by rw[afP 256 _ hz];unfold FP.lenN;rw[if_neg hz];omega
 obtain⟨l1,l2⟩:=FP.log2_bounds hz;have hby2:255-Nat.log2 (nW a b c d)<=255:=by omega
 have hup1:2^255<=nW a b c d*2^(255-Nat.log2 (nW a b c d)):=by have:=Nat.mul_le_mul_right (2^(255-Nat.log2 (nW a b c d))) l1;rw[<- Nat.pow_add,show Nat.log2 (nW a b c d)+(255-Nat.log2 (nW a b c d))=255 by omega] at this;exact this
 have hup2:nW a b c d*2^(255-Nat.log2 (nW a b c d))<2^256:=by have:=Nat.mul_lt_mul_of_pos_right l2 (FP.two_pow_pos (255-Nat.log2 (nW a b c d)));rw[<- Nat.pow_add,show Nat.log2 (nW a b c d)+1+(255-Nat.log2 (nW a b c d))=256 by omega] at this;exact this
 refine(tX (r:=oW (nW a b c d*2^(255-Nat.log2 (nW a b c d))) ++ [((255-Nat.log2 (nW a b c d):Nat):Int)]) ?_ rfl).trans ?_
 ·simp only[tK,auF];rw[aoS,Dr,hby,yI];rfl
 generalize nW a b c d*2^(255-Nat.log2 (nW a b c d))=up at *
 generalize 255-Nat.log2 (nW a b c d)=sh at *
 have hupW:up<uu:=by rw[DU];exact hup2
 have hclip : -1099511627776<=Fp (i64 e)/\Fp (i64 e)<=1099511627776:=by unfold Fp;omega
 have ecl:max (-1099511627776) (min (i64 e) 1099511627776)=Fp (i64 e):=rfl;generalize Fp (i64 e)=cl at *
 have e5:i64 ((sh:Nat):Int)=((sh:Nat):Int):=wD (by omega);have eNe:i64 (cl-(sh:Int))=cl-(sh:Int):=vX (by omega) (by omega);generalize hne:cl-(sh:Int)=ne at *
 have hneb : -1099511628100<=ne/\ne<=1099511628100:=by omega
 have eLeast:i64 (1-(FP.fE (fN f):Int))=1-(FP.fE (fN f):Int):=NI (by omega) (by omega);refine(tX (by simp only[tK,ah0];exact NJ _) (by rfl)).trans ?_;refine(tX (by simp only[tK,ah1];exact KY _) (by rfl)).trans ?_;rw[uD];obtain⟨b1,b2⟩:=FP.raised_b n1 (by omega) hup1 hup2 (u8 m).toNat (uk n)
 have hbW:FP.rdiv (u8 m).toNat (uk n) up (2^(256-FP.fP (fN f)))<uh:=by rw[yN];exact Nat.lt_of_le_of_lt b2 (Nat.pow_lt_pow_right (by decide) (by omega))
 refine(tX (r:=oB (FP.rdiv (u8 m).toNat (uk n) up (2^(256-FP.fP (fN f)))) ++ [ui (decide (up%2^(256-FP.fP (fN f))≠0))]) ?_ rfl).trans ?_
 ·simp only[tK,Sb,xz];rw[aaa _ _ _ _ _ _ _ (by rw[xz];omega) (by rw[xz];omega) (by rw[CG];exact hm),yA hupW,xz,yU,CG,uE,uV];rfl
 have hh:=FP.half_pow n1;have hH0:=FP.two_pow_pos (FP.fP (fN f)-1);have hHW:2^(FP.fP (fN f)-1)<uh:=by rw[yN];exact Nat.pow_lt_pow_right (by decide) (by omega)
 generalize hB:FP.rdiv (u8 m).toNat (uk n) up (2^(256-FP.fP (fN f)))=B at *
 refine(tX (r:=[ui (decide (B=2^FP.fP (fN f)))]) ?_ rfl).trans ?_
 ·simp only[tK,auG,xz];rw[U1,vv hbW,xz,QG,Nat.testBit_eq_decide_div_mod_eq];congr 2;rw[decide_eq_decide];have hp:=FP.two_pow_pos (FP.fP (fN f));constructor
  ·intro h;apply Classical.byContradiction;intro hne2;rw[Nat.div_eq_of_lt (by omega)] at h;omega
  ·intro h;rw[h,Nat.div_self hp]
 rw[uU];simp only[wM,vK,vL,wN,wO,vU,vV,yI,uV,Am,uE,decide_eq_true_iff]
 have stepO:∀ q:Int,uk q=uk n->Lx [u8 f,u8 m,q]=oB (FP.mk (fN f) (uk n) (FP.overC (FP.fP (fN f)) (FP.fE (fN f)) (u8 m).toNat (uk n))) ++ [20]:=by intro q hq;rw[ao5 _ _ _ (by rw[uD];exact hf) (by rw[CG];exact hm),uD,CG,hq]
 by_cases hb:B=2^FP.fP (fN f)
 ·rw[if_pos hb,if_pos hb];have eE:i64 (ne+1)=ne+1:=vX (by omega) (by omega);refine(tX (r:=[ui (decide ((FP.fE (fN f):Int)<(ne+1)))]) ?_ rfl).trans ?_
  ·simp only[tK,ah2,zz,e5,ecl,hne,eNe,eE];rw[afG,uD,decide_eq_true hf,Bool.true_and,eE]
  rw[uU];simp only[wM,vK,vL,wN,wO,vU,vV,yI,uV,Am,uE,decide_eq_true_iff];by_cases ho:(FP.fE (fN f):Int)<(ne+1)
  ·rw[if_pos ho,afR ho];refine(tX (by simp only[tK,ah3];exact stepO _ (uE _)) (by rfl)).trans ?_;rw[uj rfl]
   (simp only[tK])<;>rfl
  rw[if_neg ho,uU];simp only[wM,vK,vL,wN,wO,vU,vV,yI,uV,Al,HV,Hz,CJ,Ak,Dq,Dp,vJ,zz,e5,eLeast,ecl,hne,eNe,uE,decide_eq_true_iff];by_cases hlt:ne<1-(FP.fE (fN f):Int)
  ·rw[if_pos hlt];obtain⟨j,hj⟩:∃ j:Nat,1-(FP.fE (fN f):Int)-ne=(j:Int):=⟨(1-(FP.fE (fN f):Int)-ne).toNat,by omega⟩;have hjam:=Jt (k:=j) hupW
   have hb2:FP.rdiv (u8 m).toNat (uk n) (FP.jam up j) (2^(256-FP.fP (fN f)))<=2^(FP.fP (fN f)-1):=by rw[(FP.jam_rdiv (p:=FP.fP (fN f)) (j:=j) (by omega) up _ _).1];exact(FP.raised_down n1 (by omega) (by omega) hup2 _ _).2.2
   have hb2W:FP.rdiv (u8 m).toNat (uk n) (FP.jam up j) (2^(256-FP.fP (fN f)))<uh:=Nat.lt_of_le_of_lt hb2 hHW;have ej:i64 (1-(FP.fE (fN f):Int)-ne)=(j:Int):=by rw[hj];exact vX (by omega) (by omega)
   have stepJ:Dz [wd up 0,wd up 1,wd up 2,wd up 3,(j:Int)]=oW (FP.jam up j):=by rw[Z9,yA hupW,vX (by omega) (by omega),yU]
   have stepC:∀ q:Int,uk q=uk n->JP [wd (FP.jam up j) 0,wd (FP.jam up j) 1,wd (FP.jam up j) 2,wd (FP.jam up j) 3,(FP.fP (fN f):Int),u8 m,q]=oB (FP.rdiv (u8 m).toNat (uk n) (FP.jam up j) (2^(256-FP.fP (fN f)))) ++ [ui (decide (FP.jam up j%2^(256-FP.fP (fN f))≠0))]:=by intro q hq;rw[aaa _ _ _ _ _ _ _ (by rw[xz];omega) (by rw[xz];omega) (by rw[CG];exact hm),yA hjam,xz,yU,CG,hq]
   have stepP:∀ q:Int,uk q=uk n->Gs [u8 f,q,0,wd (FP.rdiv (u8 m).toNat (uk n) (FP.jam up j) (2^(256-FP.fP (fN f)))) 1,wd (FP.rdiv (u8 m).toNat (uk n) (FP.jam up j) (2^(256-FP.fP (fN f)))) 0]=oB (FP.mk (fN f) (uk n) (FP.rdiv (u8 m).toNat (uk n) (FP.jam up j) (2^(256-FP.fP (fN f))))):=by intro q hq;rw[Ve _ _ _ _ _ (by rw[uD];exact hf),uD,vv hb2W,hq,afU hf hb2]
   rw[afS ho hlt hj,uU];simp only[wM,vK,vL,wN,wO,vU,vV,Fg,Am,uE]
   cases hA:uk t with
   | false =>
    rw[if_pos (by decide)];refine(tX (by simp only[tK,VQ,zz,e5,eLeast,ecl,hne,eNe,ej];exact stepJ) (by rfl)).trans ?_;refine(tX (by simp only[tK,Sb,xz];exact stepC _ (uE _)) (by rfl)).trans ?_;refine(tX (by simp only[tK,PN];exact stepP _ (uE _)) (by rfl)).trans ?_;rw[uU];simp only[wM,vK,vL,wN,wO,vU,vV,yI,uV,Am,uE,decide_eq_true_iff];by_cases hz2:FP.jam up j%2^(256-FP.fP (fN f))=0
    ·rw[if_neg (λh=>h hz2),uj rfl,if_pos hz2]
     (simp only[tK])<;>rfl
    ·rw[if_pos hz2,if_neg hz2];rw[uj rfl]
     (simp only[tK])<;>rfl
   | true =>
    rw[if_neg (by decide)];refine(tX (by simp only[tK,VQ,zz,e5,eLeast,ecl,hne,eNe,ej];exact stepJ) (by rfl)).trans ?_;refine(tX (by simp only[tK,Sb,xz];exact stepC _ (uE _)) (by rfl)).trans ?_;refine(tX (by simp only[tK,PN];exact stepP _ (uE _)) (by rfl)).trans ?_;rw[uU];simp only[wM,vK,vL,wN,wO,vU,vV,yI,uV,Am,uE,decide_eq_true_iff];by_cases hz2:FP.jam up j%2^(256-FP.fP (fN f))=0
    ·rw[if_neg (λh=>h hz2),uj rfl,if_pos hz2]
     (simp only[tK])<;>rfl
    ·rw[if_pos hz2,if_neg hz2];rw[uU];simp only[wM,vK,vL,wN,wO,vU,vV,yI,uV,Al,HV,Hz,CJ,Ak,ZT,Dq,Dp,vJ,zz,e5,eLeast,ecl,hne,eNe,eE,uE,decide_eq_true_iff];by_cases hx:(ne+1)<1-(FP.fE (fN f):Int)
     ·rw[if_pos hx,uj rfl,decide_eq_true hx]
      (simp only[tK])<;>rfl
     ·rw[if_neg hx,uj rfl,decide_eq_false hx]
      (simp only[tK])<;>rfl
  ·rw[if_neg hlt];obtain⟨k,hk⟩:∃ k:Nat,ne-(1-(FP.fE (fN f):Int))=(k:Int):=⟨(ne-(1-(FP.fE (fN f):Int))).toNat,by omega⟩;rw[afT ho hlt hk];have efield:i64 (i64 (ne+1-(1-(FP.fE (fN f):Int)))+1)=((k+2:Nat):Int):=by rw[vX (n:=ne+1-(1-(FP.fE (fN f):Int))) (by omega) (by omega),vX (by omega) (by omega)];omega
   have ek:i64 ((k+2:Nat):Int)=((k+2:Nat):Int):=wD (by omega)
   have stepP:∀ q:Int,uk q=uk n->Gs [u8 f,q,((k+2:Nat):Int),wd B 1,wd B 0]=oB (FP.mk (fN f) (uk n) (k*2^(FP.fP (fN f)-1)+B)):=by intro q hq;rw[Ve _ _ _ _ _ (by rw[uD];exact hf),uD,vv hbW,hq,ek,afV hf b1 b2 2 (by rw[if_pos hb]) (by omega)]
   refine(tX (by simp only[tK,PN,zz,e5,eLeast,ecl,hne,eNe,eE,efield];exact stepP _ (uE _)) (by rfl)).trans ?_;rw[uU];simp only[wM,vK,vL,wN,wO,vU,vV,yI,uV,Am,uE,decide_eq_true_iff];by_cases hz2:up%2^(256-FP.fP (fN f))=0
   ·rw[if_neg (λh=>h hz2),uj rfl,if_pos hz2]
    (simp only[tK])<;>rfl
   ·rw[if_pos hz2,if_neg hz2,uj rfl]
    (simp only[tK])<;>rfl
 ·rw[if_neg hb,if_neg hb];refine(tX (r:=[ui (decide ((FP.fE (fN f):Int)<ne))]) ?_ rfl).trans ?_
  ·simp only[tK,ah2,zz,e5,ecl,hne,eNe];rw[afG,uD,decide_eq_true hf,Bool.true_and,eNe]
  rw[uU];simp only[wM,vK,vL,wN,wO,vU,vV,yI,uV,Am,uE,decide_eq_true_iff];by_cases ho:(FP.fE (fN f):Int)<ne
  ·rw[if_pos ho,afR ho];refine(tX (by simp only[tK,ah3];exact stepO _ (uE _)) (by rfl)).trans ?_;rw[uj rfl]
   (simp only[tK])<;>rfl
  rw[if_neg ho,uU];simp only[wM,vK,vL,wN,wO,vU,vV,yI,uV,Al,HV,Hz,CJ,Ak,Dq,Dp,vJ,zz,e5,eLeast,ecl,hne,eNe,uE,decide_eq_true_iff];by_cases hlt:ne<1-(FP.fE (fN f):Int)
  ·rw[if_pos hlt];obtain⟨j,hj⟩:∃ j:Nat,1-(FP.fE (fN f):Int)-ne=(j:Int):=⟨(1-(FP.fE (fN f):Int)-ne).toNat,by omega⟩;have hjam:=Jt (k:=j) hupW
   have hb2:FP.rdiv (u8 m).toNat (uk n) (FP.jam up j) (2^(256-FP.fP (fN f)))<=2^(FP.fP (fN f)-1):=by rw[(FP.jam_rdiv (p:=FP.fP (fN f)) (j:=j) (by omega) up _ _).1];exact(FP.raised_down n1 (by omega) (by omega) hup2 _ _).2.2
   have hb2W:FP.rdiv (u8 m).toNat (uk n) (FP.jam up j) (2^(256-FP.fP (fN f)))<uh:=Nat.lt_of_le_of_lt hb2 hHW;have ej:i64 (1-(FP.fE (fN f):Int)-ne)=(j:Int):=by rw[hj];exact vX (by omega) (by omega)
   have stepJ:Dz [wd up 0,wd up 1,wd up 2,wd up 3,(j:Int)]=oW (FP.jam up j):=by rw[Z9,yA hupW,vX (by omega) (by omega),yU]
   have stepC:∀ q:Int,uk q=uk n->JP [wd (FP.jam up j) 0,wd (FP.jam up j) 1,wd (FP.jam up j) 2,wd (FP.jam up j) 3,(FP.fP (fN f):Int),u8 m,q]=oB (FP.rdiv (u8 m).toNat (uk n) (FP.jam up j) (2^(256-FP.fP (fN f)))) ++ [ui (decide (FP.jam up j%2^(256-FP.fP (fN f))≠0))]:=by intro q hq;rw[aaa _ _ _ _ _ _ _ (by rw[xz];omega) (by rw[xz];omega) (by rw[CG];exact hm),yA hjam,xz,yU,CG,hq]
   have stepP:∀ q:Int,uk q=uk n->Gs [u8 f,q,0,wd (FP.rdiv (u8 m).toNat (uk n) (FP.jam up j) (2^(256-FP.fP (fN f)))) 1,wd (FP.rdiv (u8 m).toNat (uk n) (FP.jam up j) (2^(256-FP.fP (fN f)))) 0]=oB (FP.mk (fN f) (uk n) (FP.rdiv (u8 m).toNat (uk n) (FP.jam up j) (2^(256-FP.fP (fN f))))):=by intro q hq;rw[Ve _ _ _ _ _ (by rw[uD];exact hf),uD,vv hb2W,hq,afU hf hb2]
   rw[afS ho hlt hj,uU];simp only[wM,vK,vL,wN,wO,vU,vV,Fg,Am,uE]
   cases hA:uk t with
   | false =>
    rw[if_pos (by decide)];refine(tX (by simp only[tK,VQ,zz,e5,eLeast,ecl,hne,eNe,ej];exact stepJ) (by rfl)).trans ?_;refine(tX (by simp only[tK,Sb,xz];exact stepC _ (uE _)) (by rfl)).trans ?_;refine(tX (by simp only[tK,PN];exact stepP _ (uE _)) (by rfl)).trans ?_;rw[uU];simp only[wM,vK,vL,wN,wO,vU,vV,yI,uV,Am,uE,decide_eq_true_iff];by_cases hz2:FP.jam up j%2^(256-FP.fP (fN f))=0
    ·rw[if_neg (λh=>h hz2),uj rfl,if_pos hz2]
     (simp only[tK])<;>rfl
    ·rw[if_pos hz2,if_neg hz2];rw[uj rfl]
     (simp only[tK])<;>rfl
   | true =>
    rw[if_neg (by decide)];refine(tX (by simp only[tK,VQ,zz,e5,eLeast,ecl,hne,eNe,ej];exact stepJ) (by rfl)).trans ?_;refine(tX (by simp only[tK,Sb,xz];exact stepC _ (uE _)) (by rfl)).trans ?_;refine(tX (by simp only[tK,PN];exact stepP _ (uE _)) (by rfl)).trans ?_;rw[uU];simp only[wM,vK,vL,wN,wO,vU,vV,yI,uV,Am,uE,decide_eq_true_iff];by_cases hz2:FP.jam up j%2^(256-FP.fP (fN f))=0
    ·rw[if_neg (λh=>h hz2),uj rfl,if_pos hz2]
     (simp only[tK])<;>rfl
    ·rw[if_pos hz2,if_neg hz2];rw[uj rfl,decide_eq_true hlt]
     (simp only[tK])<;>rfl
  ·rw[if_neg hlt];obtain⟨k,hk⟩:∃ k:Nat,ne-(1-(FP.fE (fN f):Int))=(k:Int):=⟨(ne-(1-(FP.fE (fN f):Int))).toNat,by omega⟩;rw[afT ho hlt hk];have efield:i64 (i64 (ne-(1-(FP.fE (fN f):Int)))+1)=((k+1:Nat):Int):=by rw[vX (n:=ne-(1-(FP.fE (fN f):Int))) (by omega) (by omega),vX (by omega) (by omega)];omega
   have ek:i64 ((k+1:Nat):Int)=((k+1:Nat):Int):=wD (by omega)
   have stepP:∀ q:Int,uk q=uk n->Gs [u8 f,q,((k+1:Nat):Int),wd B 1,wd B 0]=oB (FP.mk (fN f) (uk n) (k*2^(FP.fP (fN f)-1)+B)):=by intro q hq;rw[Ve _ _ _ _ _ (by rw[uD];exact hf),uD,vv hbW,hq,ek,afV hf b1 b2 1 (by rw[if_neg hb]) (by omega)]
   refine(tX (by simp only[tK,PN,zz,e5,eLeast,ecl,hne,eNe,efield];exact stepP _ (uE _)) (by rfl)).trans ?_;rw[uU];simp only[wM,vK,vL,wN,wO,vU,vV,yI,uV,Am,uE,decide_eq_true_iff];by_cases hz2:up%2^(256-FP.fP (fN f))=0
   ·rw[if_neg (λh=>h hz2),uj rfl,if_pos hz2]
    (simp only[tK])<;>rfl
   ·rw[if_pos hz2,if_neg hz2,uj rfl]
    (simp only[tK])<;>rfl
theorem afX (a b c d e f g h:Int):En [a,b,c,d,e,f,g,h]=Jl (nW a b c d+nW e f g h) (Nat.ble uu (nW a b c d+nW e f g h)):=rfl
theorem RS (s:Nat) (b:Bool):Jl s b = [wd s 0,wd s 1,wd s 2,wd s 3,ui b]:=rfl
theorem afY {p:Nat} (h:p<uh):nW 0 (wd p 0) (wd p 1) 0=p*tV:=by have:=vv h;unfold nB at this;rw[zT,zT] at this;unfold nW;rw[show u64 0=0 by decide,zT,zT,show(0:Int).toNat=0 from rfl,Nat.mul_zero,Nat.add_zero,Nat.zero_add,Nat.mul_comm tV];congr 1;rw[Nat.mul_comm tV,Nat.add_comm];exact this
theorem Vg {a b:Nat} (ha:a<tV) (hb:b<tV):a*b<uh:=Nat.mul_lt_mul'' ha hb
theorem ao7 (a1 a0 b1 b0:Nat):(a1*tV+a0)*(b1*tV+b0)=a1*b1*uh+a0*b0+a1*b0*tV+a0*b1*tV:=by
 have e:uh=tV*tV:=uh.eq_1;rw[e];generalize tV=w;rw[Nat.add_mul,Nat.mul_add,Nat.mul_add];have h1:a1*w*(b1*w)=a1*b1*(w*w):=by ac_rfl
 have h2:a1*w*b0=a1*b0*w:=by ac_rfl
 have h3:a0*(b1*w)=a0*b1*w:=by ac_rfl
 rw[h1,h2,h3];omega
theorem ao8 (a b c d:Int):VM [a,b,c,d]=oW (nB a b*nB c d):=by
 refine Eq.trans ?_ (afF _);have ha:=(xK a).2;have hb:=(xK b).2;have hc:=(xK c).2;have hd:=(xK d).2;have hab:=Ff a b;have hcd:=Ff c d
 have hprod:nB a b*nB c d<uu:=by have:=Nat.mul_lt_mul'' hab hcd;rw[U6];exact this
 have e0:nB a b*nB c d=(u64 a).toNat*(u64 c).toNat*uh+(u64 b).toNat*(u64 d).toNat+(u64 a).toNat*(u64 d).toNat*tV+(u64 b).toNat*(u64 c).toNat*tV:=ao7 _ _ _ _;rw[e0] at hprod ⊢;rw[VM,abf];refine(tX (by simp only[tK,VO];exact U2 _ _) (by rfl)).trans ?_;refine(tX (by simp only[tK,VO];exact U2 _ _) (by rfl)).trans ?_;rw[AC,AC,AC,AC];have l11:=Vg ha hc;have l00:=Vg hb hd;have l10:=Vg ha hd;have l01:=Vg hb hc;generalize (u64 a).toNat*(u64 c).toNat=p11 at *
 generalize (u64 b).toNat*(u64 d).toNat=p00 at *
 refine(tX (r:=oW (p11*uh+p00)) ?_ rfl).trans ?_
 ·simp only[tK,ahK];rw[ZW,vv l11,vv l00,yI]
 refine(tX (by simp only[tK,VO];exact U2 _ _) (by rfl)).trans ?_;refine(tX (by simp only[tK,VO];exact U2 _ _) (by rfl)).trans ?_;rw[AC,AC,AC,AC];generalize (u64 a).toNat*(u64 d).toNat=p10 at *
 generalize (u64 b).toNat*(u64 c).toNat=p01 at *
 refine(tX (r:=Jl (p11*uh+p00+p10*tV) (Nat.ble uu (p11*uh+p00+p10*tV))) ?_ rfl).trans ?_
 ·simp only[tK,ahL];rw[afX,yA (by omega),afY l10]
 refine(tX (r:=Jl (p11*uh+p00+p10*tV+p01*tV) (Nat.ble uu (p11*uh+p00+p10*tV+p01*tV))) ?_ rfl).trans ?_
 ·simp only[tK,RS,ahL];rw[afX,yA (by omega),afY l01,RS]
 rw[uj rfl];simp only[tK,RS];rfl
theorem ao9 (x i:Nat):x|||2^i=if x.testBit i then x else x+2^i:=by
 by_cases h:x.testBit i
 ·rw[if_pos h];apply Nat.eq_of_testBit_eq;intro k;rw[Nat.testBit_or,Nat.testBit_two_pow];by_cases hk:i=k
  ·subst hk;simp[h]
  ·simp[hk]
 ·rw[if_neg h]
  have h0:x/2^i%2=0:=by rw[Nat.testBit_eq_decide_div_mod_eq] at h;simp at h;exact h
  have hp:=FP.two_pow_pos i
  have hx:x=2^(i+1)*(x/2^(i+1))+x%2^i:=by
   have e1:=Nat.div_add_mod x (2^(i+1));have e2:x%2^(i+1)=x%2^i+2^i*(x/2^i%2):=by rw[Nat.pow_succ,Nat.mod_mul]
   rw[e2,h0] at e1;omega
  have hr:x%2^i<2^i:=Nat.mod_lt _ hp;generalize x/2^(i+1)=q at *
  generalize x%2^i=r at *
  have hr2:r<2^(i+1):=by rw[Nat.pow_succ];omega
  have hr3:2^i+r<2^(i+1):=by rw[Nat.pow_succ];omega
  rw[hx,show 2^(i+1)*q+r+2^i=2^(i+1)*q+(2^i+r) by omega,Nat.two_pow_add_eq_or_of_lt hr2,Nat.two_pow_add_eq_or_of_lt hr3]
  have h3:2^i+r=2^i|||r:=by have:=Nat.two_pow_add_eq_or_of_lt hr 1;rw[Nat.mul_one] at this;exact this
  rw[h3,Nat.or_assoc,Nat.or_comm r]
theorem afZ (x y i:Nat):uA .or .u64 (wd x i) (wd y i)=wd (x|||y) i:=by rw[xH,xH,UQ _ _ (Nat.mod_lt _ xm) (Nat.mod_lt _ xm),xH];congr 1;apply Nat.eq_of_testBit_eq;intro k;rw[Nat.testBit_or,KV,KV,KV,Nat.testBit_or];cases decide (k<64)<;>simp
def Vh (f c:Nat):Nat:=if FP.clsC f c=5 then c+2^(FP.fP f-2) else c
theorem apa {f c:Nat} (hf:f<4):(FP.clsC f c=4↔FP.inf f+2^(FP.fP f-2)<=c)/\(FP.clsC f c=5↔FP.inf f<c/\c<FP.inf f+2^(FP.fP f-2)):=by
 have h:=KZ hf;have hp:=FP.two_pow_pos (FP.fP f-2);have hp1:=FP.two_pow_pos (FP.fP f-1);unfold FP.clsC;by_cases h0:c=0
 ·rw[if_pos h0];omega
 rw[if_neg h0];by_cases h1:c<2^(FP.fP f-1)
 ·rw[if_pos h1];omega
 rw[if_neg h1];by_cases h2:c<FP.inf f
 ·rw[if_pos h2];omega
 rw[if_neg h2];by_cases h3:c=FP.inf f
 ·rw[if_pos h3];omega
 rw[if_neg h3];by_cases h4:FP.inf f+2^(FP.fP f-2)<=c
 ·rw[if_pos h4];omega
 ·rw[if_neg h4];omega
theorem apb {f c:Nat} (hf:f<4) (hc:c<2^(FP.fW f-1)) (hn:FP.inf f<c) (neg:Bool):(FP.mk f neg c).testBit (FP.fP f-2)=decide (FP.inf f+2^(FP.fP f-2)<=c):=by
 obtain⟨n1,n2,n3,n4,n5,n6,n7,n8,n9⟩:=FP.fmtN hf;obtain⟨i1,i2,i3,i4⟩:=KZ hf;have htop:=FP.inf_top hf;have hp:=FP.two_pow_pos (FP.fP f-2);have hp1:=FP.two_pow_pos (FP.fP f-1);have hW:2^(FP.fW f-1)=2^(FP.fP f-1)*2^(FP.fW f-FP.fP f):=by rw[<- Nat.pow_add];congr 1;omega
 have hinf:FP.inf f=2^(FP.fP f-1)*(2*FP.fE f+1):=by unfold FP.inf FP.infC;rw[Nat.mul_comm]
 have hr:c=FP.inf f+c%2^(FP.fP f-1):=by
  have h1:c%2^(FP.fP f-1)=c-FP.inf f:=by obtain⟨r,rfl⟩:∃ r,c=FP.inf f+r:=⟨c-FP.inf f,by omega⟩;rw[hinf,Nat.mul_add_mod,Nat.mod_eq_of_lt (by omega)];omega
  omega
 rw[Nat.testBit_eq_decide_div_mod_eq,decide_eq_decide]
 have key:FP.mk f neg c/2^(FP.fP f-2)%2=c%2^(FP.fP f-1)/2^(FP.fP f-2)%2:=by
  have e1:FP.mk f neg c%2^(FP.fP f-1)=c%2^(FP.fP f-1):=by unfold FP.mk;rw[hW,show neg.toNat*(2^(FP.fP f-1)*2^(FP.fW f-FP.fP f))=2^(FP.fP f-1)*(neg.toNat*2^(FP.fW f-FP.fP f)) by ac_rfl,Nat.add_mul_mod_self_left]
  rw[<- e1,i4,Nat.mul_comm 2,Nat.mod_mul_right_div_self,Nat.mod_mod]
 rw[key];exact afL hp i4 hr (Nat.mod_lt _ hp1)
theorem apc (f c d:Nat) (neg:Bool):FP.mk f neg (c+d)=FP.mk f neg c+d:=by unfold FP.mk;omega
theorem apd (f a b:Int) (hf:fN f<4) (hn:4<=uf (fN f) (nB a b)):LB [f,a,b]=oB (FP.mk (fN f) (FP.sgn (fN f) (nB a b)) (Vh (fN f) (FP.cod (fN f) (nB a b)))):=by
 refine Eq.trans ?_ (Jr _);obtain⟨n1,n2,n3,n4,n5,n6,n7,n8,n9⟩:=FP.fmtN hf;have hcl:=FP.cod_lt (fN f) (nB a b);have hcut:=FP.mk_cut hf (nB a b);have hlt:=FP.mk_lt hf (FP.sgn (fN f) (nB a b)) hcl;have hW:FP.mk (fN f) (FP.sgn (fN f) (nB a b)) (FP.cod (fN f) (nB a b))<uh:=Nat.lt_of_lt_of_le hlt (Gg (by omega));rw[LB,abK];refine(tX (r:=oB (FP.mk (fN f) (FP.sgn (fN f) (nB a b)) (FP.cod (fN f) (nB a b)))) ?_ rfl).trans ?_
 ·simp only[tK,auJ];rw[U8,uD,vQ,hcut,uV]
 have hcls:uf (fN f) (nB a b)=FP.clsC (fN f) (FP.cod (fN f) (nB a b)):=by unfold uf FP.cls;rw[if_pos hf]
 rw[hcls] at hn;generalize FP.sgn (fN f) (nB a b)=s at *
 generalize FP.cod (fN f) (nB a b)=c at *
 have hc2:uf (fN f) (FP.mk (fN f) s c)=FP.clsC (fN f) c:=by unfold uf FP.cls;rw[if_pos hf,FP.cod_mk s hcl]
 refine(tX (r:=[1]) ?_ rfl).trans ?_
 ·simp only[tK,auK];rw[NL,uD,vv hW,hc2,decide_eq_true hn];rfl
 rw[uU];simp only[wM,vK,vL,wN,wO,vU,vV,uV,Am,show uk 1=true from rfl,show uk (ui true)=true from rfl];rw[if_pos (by trivial)];refine(tX (by simp only[tK,auL];exact NJ _) (by rfl)).trans ?_;rw[uD];have eP:i64 ((FP.fP (fN f):Int)-2)=((FP.fP (fN f)-2:Nat):Int):=Ep (b:=2) (by omega) (by omega)
 have hK:1*2^(FP.fP (fN f)-2)<uh:=by rw[Nat.one_mul,yN];exact Nat.pow_lt_pow_right (by decide) (by omega)
 have l1:zU [0,1,((FP.fP (fN f)-2:Nat):Int)]=oB (1*2^(FP.fP (fN f)-2)):=by have:=HY 1 (k:=FP.fP (fN f)-2) (by decide) (by omega) hK;rw[Er.1,Er.2] at this;exact this
 refine(tX (by simp only[tK,auM,xz,eP];exact l1) (by rfl)).trans ?_;rw[uj rfl];simp only[tK,afZ,Nat.one_mul];have hnan:FP.inf (fN f)<c:=FP.clsC_nan.1 hn;obtain⟨q4,q5⟩:=apa (c:=c) hf
 have hor:FP.mk (fN f) s c|||2^(FP.fP (fN f)-2)=FP.mk (fN f) s (Vh (fN f) c):=by
  rw[ao9,apb hf hcl hnan];unfold Vh;by_cases h:FP.inf (fN f)+2^(FP.fP (fN f)-2)<=c
  ·rw[decide_eq_true h,if_pos rfl,if_neg (λh5=>by have:=q5.1 h5;omega)]
  ·rw[decide_eq_false h,if_neg (by decide),if_pos (q5.2 ⟨hnan,by omega⟩),apc]
 rw[hor];rfl
def NM (f a b:Nat):Nat:=if uf f a=5\/uf f b=5 then 1 else 0
def Bz (f b:Nat):Nat:=FP.mk f (FP.sgn f b) (Vh f (FP.cod f b))
def Dt (f:Nat):Nat:=FP.mk f false (FP.inf f+2^(FP.fP f-2))
def oR (p:Nat×Nat):List Int:=oB p.1 ++ [(p.2:Int)]
theorem ape (n k:Nat):oR (n,k) = [wd n 1,wd n 0,(k:Int)]:=by unfold oR;rw[uV];rfl
theorem Gi {f b:Nat} : -17000<=uS f b/\uS f b<=17000:=by
 unfold uS;split
 ·rename_i h
  have hf:f<4:=by apply Classical.byContradiction;intro hf;unfold uf at h;rw[if_neg hf] at h;omega
  unfold uf at h;rw[if_pos hf] at h;refine FP.un_exp hf (FP.clsC_fin.1 ?_);unfold FP.cls at h;omega
 ·omega
theorem af0 {x:Int} (h : -1000000<=x) (h2:x<=1000000):Fp x=x:=by unfold Fp;omega
theorem Vi {f b:Nat} (hf:f<4) (h:uf f b<3):FP.cod f b<FP.inf f/\(uf f b=0↔FP.cod f b=0)/\((uf f b=1\/uf f b=2)↔FP.cod f b≠0):=by
 unfold uf at *
 rw[if_pos hf] at *
 unfold FP.cls at *
 have h1:=FP.clsC_fin.1 h
 have h2:FP.clsC f (FP.cod f b)=0↔FP.cod f b=0:=by
  unfold FP.clsC;by_cases h0:FP.cod f b=0
  ·rw[if_pos h0];omega
  ·rw[if_neg h0];by_cases h3:FP.cod f b<2^(FP.fP f-1)
   ·rw[if_pos h3];omega
   ·rw[if_neg h3,if_pos h1];omega
 exact⟨h1,h2,by omega⟩
def apf (f t c:Nat):Nat:=c%2^(FP.fP f-1)*2^(129-FP.fP f)/2^(129-FP.fP t)
def apg (f t c:Nat):Nat:=FP.inf t+(apf f t c|||2^(FP.fP t-2))
theorem af1 {x i n:Nat} (h:x<2^n) (hi:i<n):(x|||2^i)<2^n:=Nat.or_lt_two_pow h (Nat.pow_lt_pow_right (by decide) hi)
namespace FP
end FP
def BA (f b:Nat):Nat:=if f<4 then FP.mk f (!FP.sgn f b) (FP.cod f b) else 0
theorem aph (f a b:Int):LA [f,a,b]=oB (BA (fN f) (nB a b)):=by rw[ao2];rfl
theorem api (f b:Nat):BA f b<uh:=by
 unfold BA;by_cases hf:f<4
 ·rw[if_pos hf];have:=FP.fW_le hf;exact Nat.lt_of_lt_of_le (FP.mk_lt hf _ (FP.cod_lt f b)) (Gg (by omega))
 ·rw[if_neg hf];decide
theorem af2 {f:Nat} (hf:f<4) (b:Nat):FP.cod f (BA f b)=FP.cod f b:=by unfold BA;rw[if_pos hf,FP.cod_mk _ (FP.cod_lt f b)]
theorem apj {f:Nat} (hf:f<4) (b:Nat):FP.sgn f (BA f b) = !FP.sgn f b:=by unfold BA;rw[if_pos hf,FP.sgn_mk _ (FP.cod_lt f b)]
theorem apk (f b:Nat):uf f (BA f b)=uf f b:=by
 unfold uf FP.cls;by_cases hf:f<4
 ·rw[if_pos hf,if_pos hf,af2 hf]
 ·rw[if_neg hf,if_neg hf]
theorem La {f:Nat} (hf:f<4) (b:Nat):uf f b=FP.clsC f (FP.cod f b):=by unfold uf FP.cls;rw[if_pos hf]
theorem apl {f c:Nat} (hf:f<4) (s:Bool) (hc:c<2^(FP.fW f-1)):FP.mk f s c<uh:=by have:=FP.fW_le hf;exact Nat.lt_of_lt_of_le (FP.mk_lt hf _ hc) (Gg (by omega))
def CK (f t m:Nat) (after neg:Bool) (c:Nat):Nat×Nat :=
 if 4<=FP.clsC f c then(apg f t c,if FP.clsC f c=5 then 1 else 0) else if FP.clsC f c=3 then(FP.inf t,0) else FP.convC f t m after neg c
end Go.Proofs.YtippohicjhilnaaGreatDoor
