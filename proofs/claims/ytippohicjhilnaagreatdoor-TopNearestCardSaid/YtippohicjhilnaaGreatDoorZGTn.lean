import Derived.Test.YtippohicjhilnaaGreatDoorZDTn
import Derived.Test.YtippohicjhilnaaGreatDoorZETn
import Derived.Test.YtippohicjhilnaaGreatDoorZFTn
set_option linter.defProp false
set_option linter.unusedSimpArgs false
set_option linter.unusedVariables false
set_option maxRecDepth 100000
namespace Go.Proofs.YtippohicjhilnaaGreatDoor
open Go.RowKit
theorem xM {α:Type} (l:List α):l ++ []=l:=by rw[List.append_nil]
theorem wV {α:Type} (a:α) (l m:List α):(a::l)++m=a::(l++m):=by rw[List.cons_append]
theorem wW {α:Type} (l:List α) : []++l=l:=by rw[List.nil_append]
theorem xQ {α β:Type} (f:α->β) (a:α) (l:List α):List.map f (a::l)=f a::List.map f l:=by rw[List.map_cons]
theorem xR {α β:Type} (f:α->β):List.map f [] = []:=by rw[List.map_nil]
theorem xA (x:Int) (l:List Int):wC (x::l) 0=x:=by rw[wC]
theorem xC (x:Int) (l:List Int) (n:Nat):wC (x::l) (n+1)=wC l n:=by rw[wC]
theorem Ur {β:Sort _} (l:List Int):∀ (xs:List X) (K:List Int->β),evs l xs K=K (xs.map (X.ev l))
 | [],K=>rfl
 | x::xs,K=>by rw[evs,MF,Ur l xs];rfl
theorem wu {Φ:yE} {ct:Ct} {a:SV} {l:List Int} {xs:List X} (h:Er ct.r (GU ct.r a)=some xs):wE Φ ct (.leaf a) l=xs.map (X.ev l):=by unfold wE;simp only[Ag,h,Ur,id]
theorem xg {Φ:yE} {ct:Ct} {c:X} {a b:vU SV} {l:List Int} : wE Φ ct (.ite c a b) l=if ww (c.ev l)=true then wE Φ ct a l else wE Φ ct b l:=by unfold wE;simp only[Ag];cases ww (c.ev l)<;>rfl
theorem vX {Φ:yE} {ct:Ct} {f:Nat} {args:List X} {base n:Nat} {t:vU SV} {l:List Int} {r:List Int} (h:Φ f (args.map (X.ev l))=r) (hn:r.length=n):wE Φ ct (.call f args base n t) l=wE Φ ct t (l++r):=by unfold wE;simp only[Ag,Ur,h];rw[show Nat.beq r.length n=true by rw[hn];exact Nat.beq_refl n]
theorem wP (b:Bool):ww (wh b)=b:=by cases b<;>rfl
def i64 (n:Int):Int:=zC .i64 n
def u8 (n:Int):Int:=zC .u8 n
theorem ahy (n:Int) : -9223372036854775808<=i64 n/\i64 n<=9223372036854775807:=by unfold i64;rw[yJ];exact GI .i64 n
theorem Ew (n:Int):0<=u8 n/\u8 n<=255:=by unfold u8;rw[yJ];exact GI .u8 n
theorem ahz (n:Int):0<=u64 n/\u64 n<=18446744073709551615:=by unfold u64;rw[yJ];exact GI .u64 n
theorem xG {n:Int} (h1 : -9223372036854775808<=n) (h2:n<=9223372036854775807):i64 n=n:=by unfold i64;rw[yJ];exact VY h1 h2
theorem F6 {n:Int} (h1:0<=n) (h2:n<=255):u8 n=n:=by unfold u8;rw[yJ];exact VY h1 h2
theorem Ha (n:Int):IntKind.i64.wrap n=i64 n:=by unfold i64;rw[yJ]
theorem zF (n:Int):IntKind.u64.wrap n=u64 n:=by unfold u64;rw[yJ]
theorem abQ (n:Int):IntKind.u8.wrap n=u8 n:=by unfold u8;rw[yJ]
theorem aqE (n:Int):zC .u64 n=u64 n:=rfl
theorem ahA (n:Int):zC .u8 n=u8 n:=rfl
theorem xD (n:Int):i64 (i64 n)=i64 n:=xG (ahy n).1 (ahy n).2
theorem Cy (n:Int):u64 (u64 n)=u64 n:=Iw (DW n)
theorem Ak (n:Int):u8 (u8 n)=u8 n:=F6 (Ew n).1 (Ew n).2
theorem Hd (n:Nat) (h:n<vZ):u64 (n:Int)=n:=Iw ⟨Int.natCast_nonneg _,by exact_mod_cast h⟩
theorem Dm (n i:Nat):u64 (wd n i)=wd n i:=Iw (FD _ _)
abbrev fN (a:Int):Nat:=(u8 a).toNat
theorem wz (a:Int):fN (u8 a)=fN a:=by unfold fN;rw[Ak]
def nB (h l:Int):Nat:=(u64 h).toNat*vZ+(u64 l).toNat
def nW (a b c d:Int):Nat:=(u64 a).toNat+vZ*((u64 b).toNat+vZ*((u64 c).toNat+vZ*(u64 d).toNat))
def oB (n:Nat):List Int:=[wd n 1,wd n 0]
def oW (n:Nat):List Int:=[wd n 0,wd n 1,wd n 2,wd n 3]
theorem wS (n:Nat):oB n = [wd n 1,wd n 0]:=by rw[oB]
theorem Al (n:Nat):oW n = [wd n 0,wd n 1,wd n 2,wd n 3]:=by rw[oW]
theorem CW:vZ=18446744073709551616:=rfl
theorem PM:wy=340282366920938463463374607431768211456:=by decide
theorem He (h l:Int):nB h l<wy:=by unfold nB;have h1:=(zD h).2;have h2:=(zD l).2;rw[CW] at *;rw[PM];omega
theorem Lb (h l:Int):u64 h=wd (nB h l) 1/\u64 l=wd (nB h l) 0:=by have h1:=(zD h);have h2:=(zD l);have e0:=an4 (h:=(u64 h).toNat) h2.2;have e1:=an5 h1.2 h2.2;unfold Tm at e0 e1;unfold nB;rw[e0,e1];exact⟨h1.1.symm,h2.1.symm⟩
theorem ahB {n:Nat} (h:n<wy):nB (wd n 1) (wd n 0)=n:=by have:=Lb (wd n 1) (wd n 0);rw[Iw (FD _ _),Iw (FD _ _)] at this;exact(afY h (He _ _) this.2 this.1).symm
theorem PN (n:Nat):nB (wd n 1) (wd n 0)=n%wy:=by have:=ahB (n:=n%wy) (Nat.mod_lt _ Ih);rw[Ii n 1 (by decide),Ii n 0 (by decide)] at this;exact this
theorem Lc (a b c d:Int):u64 a=wd (nW a b c d) 0/\u64 b=wd (nW a b c d) 1/\u64 c=wd (nW a b c d) 2/\u64 d=wd (nW a b c d) 3/\nW a b c d<wG:=by obtain⟨h0,h1,h2,h3,h4⟩:=ahj _ _ _ _ (zD a).2 (zD b).2 (zD c).2 (zD d).2;unfold nW;rw[h0,h1,h2,h3,(zD _).1,(zD _).1,(zD _).1,(zD _).1];exact⟨rfl,rfl,rfl,rfl,h4⟩
theorem Ld (a b c d:Int):nW a b c d<wG:=(Lc a b c d).2.2.2.2
theorem aqF {n:Nat} (h:n<wG):nW (wd n 0) (wd n 1) (wd n 2) (wd n 3)=n:=by obtain⟨h0,h1,h2,h3,h4⟩:=Lc (wd n 0) (wd n 1) (wd n 2) (wd n 3);rw[Iw (FD _ _)] at h0 h1 h2 h3;exact(ZL h h4 h0 h1 h2 h3).symm
theorem Ex (h l:Int):∃ n:Nat,n<wy/\nB h l=n/\u64 h=wd n 1/\u64 l=wd n 0:=⟨nB h l,He h l,rfl,(Lb h l).1,(Lb h l).2⟩
theorem Na (a b c d:Int):∃ n:Nat,n<wG/\nW a b c d=n/\u64 a=wd n 0/\u64 b=wd n 1/\u64 c=wd n 2/\u64 d=wd n 3:=by obtain⟨h0,h1,h2,h3,h4⟩:=Lc a b c d;exact⟨_,h4,rfl,h0,h1,h2,h3⟩
theorem zz (n i:Nat):wd n i=((n/vZ^i%vZ:Nat):Int):=rfl
theorem abR (i:Nat):vZ^i=2^(64*i):=by rw[GG,<- Nat.pow_mul]
theorem Nc (a j k:Nat):(a/vZ^j%vZ).testBit k=(decide (k<64)&&a.testBit (64*j+k)):=by
 by_cases hk:k<64
 ·rw[O0 a j k hk];simp[hk]
 ·rw[GG,Nat.testBit_mod_two_pow];simp[hk]
theorem aqG (a r j:Nat) (hr:r<64):a*2^r/vZ^j%vZ=(a/vZ^j%vZ*2^r%vZ)|||(if j=0 then 0 else a/vZ^(j-1)%vZ/2^(64-r)):=by
 apply Nat.eq_of_testBit_eq;intro k;have e:vZ=2^64:=GG;rw[Nc,Nat.testBit_or,show a/vZ^j%vZ*2^r%vZ=a/vZ^j%vZ*2^r%2^64 by rw[<- e],Nat.testBit_mod_two_pow,Nat.testBit_mul_two_pow,Nat.testBit_mul_two_pow,Nc];by_cases hk:k<64
 ·by_cases hj:j=0
  ·subst hj;by_cases h:r<=k
   ·simp[hk,h];intro;omega
   ·simp[hk,h]
  ·rw[if_neg hj,Nat.testBit_div_two_pow,Nc];by_cases h:r<=k
   ·have h2:¬ (64-r+k<64):=by omega
    have h3:k-r<64:=by omega
    simp[hk,h,h3,show r<=64*j+k by omega,show 64*j+k-r=64*j+(k-r) by omega,show ¬ (k+(64-r)<64) by omega]
   ·simp[hk,h,show r<=64*j+k by omega,show k+(64-r)<64 by omega,show 64*j+k-r=64*(j-1)+(k+(64-r)) by omega]
 ·by_cases hj:j=0
  ·subst hj;simp[hk]
  ·rw[if_neg hj,Nat.testBit_div_two_pow,Nc];simp[hk];intro h;omega
theorem abS (a r j:Nat) (hr:r<64):wd (a*2^r) j=((((wd a j).toNat*2^r%vZ)|||(if j=0 then 0 else(wd a (j-1)).toNat/2^(64-r)):Nat):Int):=by rw[zz,aqG a r j hr,zz,zz,Int.toNat_natCast,Int.toNat_natCast]
theorem abT (a w i:Nat):wd (a*vZ^w) i=if i<w then 0 else wd a (i-w):=by
 rw[zz,zz];split
 ·rename_i h;obtain⟨d,rfl⟩:∃ d,w=i+1+d:=⟨w-i-1,by omega⟩;rw[show a*vZ^(i+1+d)=a*vZ^d*vZ*vZ^i by rw[Nat.pow_add,Nat.pow_add,Nat.pow_one];ac_rfl,Nat.mul_div_cancel _ (DJ i),Nat.mul_mod_left];rfl
 ·rename_i h;obtain⟨d,rfl⟩:∃ d,i=w+d:=⟨i-w,by omega⟩;rw[Nat.pow_add,<- Nat.div_div_eq_div_mul,Nat.mul_div_cancel _ (DJ w),show w+d-w=d by omega]
theorem WV (x y:Nat) (hx:x<vZ) (hy:y<vZ):wJ .or .u64 (x:Int) (y:Int)=((x|||y:Nat):Int):=by
 have e:vZ=2^64:=GG;rw[<- Jp];simp only[fold];have h1:yj .u64 (x:Int)=x:=by show x%Bn .u64=x;rw[show Bn .u64=vZ from rfl,Nat.mod_eq_of_lt hx]
 have h2:yj .u64 (y:Int)=y:=by show y%Bn .u64=y;rw[show Bn .u64=vZ from rfl,Nat.mod_eq_of_lt hy]
 rw[h1,h2];have:x|||y<vZ:=by rw[e] at *;exact Nat.or_lt_two_pow hx hy
 exact Hd _ this
theorem aqH (x r:Nat) (hr:r<=64):wJ .shl .u64 (x:Int) (r:Int)=((x*2^r%vZ:Nat):Int):=by simp only[wJ,Int.toNat_natCast,IntKind.bits,Nat.min_eq_left hr];rw[show((x:Int)*2^r)=((x*2^r:Nat):Int) by push_cast;rfl,zF];unfold u64;rw[yJ];unfold IntKind.wrap IntKind.bits IntKind.signed;simp[CW]
theorem abU (x r:Nat) (hr:r<=64):wJ .shr .u64 (x:Int) (r:Int)=((x/2^r:Nat):Int):=by simp only[wJ,Int.toNat_natCast,IntKind.bits,Nat.min_eq_left hr];rw[Int.fdiv_eq_ediv_of_nonneg _ (Int.pow_nonneg (by decide))];simp
theorem WW (m:Int):wJ .and .i64 m 63=m%64:=by
 rw[<- Jp];simp only[fold];have h2:yj .i64 63=63:=by decide
 have h1:=ZO .i64 m;have h3:Nat.land (yj .i64 m) 63=yj .i64 m%64:=Nat.and_two_pow_sub_one_eq_mod (n:=6) (x:=yj .i64 m);rw[h2,yJ,h3,show Int.ofNat (yj .i64 m%64)=((yj .i64 m%64:Nat):Int) from rfl,Ha,xG (by omega) (by omega)];show((yj .i64 m%64:Nat):Int)=m%64;have h4:((yj .i64 m%64:Nat):Int)=(yj .i64 m:Int)%64:=by simp
 rw[h4,h1];show m%18446744073709551616%64=m%64;omega
theorem aqI (m:Nat):wJ .and .i64 (m:Int) 63=((m%64:Nat):Int):=by
 rw[<- Jp];simp only[fold];have h2:yj .i64 63=63:=by decide
 rw[h2,yJ]
 have h1:yj .i64 (m:Int)%64=m%64:=by show m%Bn .i64%64=m%64;rw[show Bn .i64=64*288230376151711744 from rfl,Nat.mod_mul_right_mod]
 have h3:Nat.land (yj .i64 (m:Int)) 63=m%64:=by rw[<- h1];exact Nat.and_two_pow_sub_one_eq_mod (n:=6) (x:=yj .i64 (m:Int))
 rw[h3,show Int.ofNat (m%64)=((m%64:Nat):Int) from rfl,Ha];exact xG (by omega) (by omega)
theorem Av (l:List Int) (n:Int):X.ev l (.lit n)=n:=by rw[X.ev]
theorem Aw (l:List Int) (op:BinOp) (k:IntKind) (a b:X):X.ev l (.bin op k a b)=wJ op k (a.ev l) (b.ev l):=by rw[X.ev,Jp]
theorem PO (l:List Int) (k:IntKind) (a:X):X.ev l (.conv k a)=k.wrap (a.ev l):=by rw[X.ev,yJ]
theorem Ey (l:List Int) (a:X):X.ev l (.not a)=wh (!ww (a.ev l)):=by rw[X.ev,En]
theorem ahC (l:List Int) (a b:X):X.ev l (.and a b)=wh (ww (a.ev l)&&ww (b.ev l)):=by rw[X.ev];cases ww (a.ev l)<;>rfl
theorem ahD (l:List Int) (a b:X):X.ev l (.beq a b)=wh (ww (a.ev l)==ww (b.ev l)):=by rw[X.ev];cases ww (a.ev l)<;>cases ww (b.ev l)<;>rfl
theorem JH (l:List Int) (a b:X):X.ev l (.min a b)=min (a.ev l) (b.ev l):=by
 rw[X.ev,Em];by_cases h:b.ev l<a.ev l
 ·rw[decide_eq_true h,Int.min_eq_right (by omega)]
 ·rw[decide_eq_false h,Int.min_eq_left (by omega)]
theorem JI (l:List Int) (a b:X):X.ev l (.max a b)=max (a.ev l) (b.ev l):=by
 rw[X.ev,Em];by_cases h:a.ev l<b.ev l
 ·rw[decide_eq_true h,Int.max_eq_right (by omega)]
 ·rw[decide_eq_false h,Int.max_eq_left (by omega)]
theorem Nf (l:List Int) (c a b:X):X.ev l (.ite c a b)=if ww (c.ev l)=true then a.ev l else b.ev l:=by rw[X.ev];cases ww (c.ev l)<;>rfl
theorem PP (l:List Int) (i:Nat):X.ev l (.var kU i)=u64 (wC l i):=by rw[X.ev];rfl
theorem Ez (l:List Int) (i:Nat):X.ev l (.var kI i)=i64 (wC l i):=by rw[X.ev];rfl
theorem Hf (l:List Int) (i:Nat):X.ev l (.var kB i)=u8 (wC l i):=by rw[X.ev];rfl
theorem zG (l:List Int) (i:Nat):X.ev l (.var .bool i)=wh (ww (wC l i)):=by rw[X.ev];rfl
theorem ahE (l:List Int) (i:Nat):X.ev l (.var .bit i)=wh (ww (wC l i)):=by rw[X.ev];rfl
theorem Le (k:IntKind) (a b:Int):wJ .eql k a b=wh (a==b):=by rw[wJ]
theorem abV (k:IntKind) (a b:Int):wJ .neq k a b=wh (a != b):=by rw[wJ]
theorem EA (k:IntKind) (a b:Int):wJ .lss k a b=wh (decide (a<b)):=by rw[wJ]
theorem PQ (k:IntKind) (a b:Int):wJ .leq k a b=wh (decide (a<=b)):=by rw[wJ]
theorem WX (k:IntKind) (a b:Int):wJ .gtr k a b=wh (decide (a>b)):=by rw[wJ]
theorem PR (k:IntKind) (a b:Int):wJ .geq k a b=wh (decide (a>=b)):=by rw[wJ]
theorem abW (a b:Int):wJ .add .i64 a b=i64 (a+b):=Ha _
theorem EZ (a b:Int):wJ .sub .i64 a b=i64 (a-b):=Ha _
theorem aqJ (a b:Int):wJ .sub .u64 a b=u64 (a-b):=zF _
theorem abX (p q r:Nat) (hp:p<vZ) (hq:q<vZ) (hr:r<64):wJ .or .u64 (wJ .shl .u64 (p:Int) (u64 (r:Int))) (wJ .shr .u64 (wJ .shr .u64 (q:Int) 1) (wJ .sub .u64 63 (u64 (r:Int))))=((p*2^r%vZ|||q/2^(64-r):Nat):Int):=by
 have e1:u64 (r:Int)=(r:Int):=Hd r (by rw[CW];omega);rw[e1,aqJ,show(63:Int)-(r:Int)=((63-r:Nat):Int) by omega,Hd (63-r) (by rw[CW];omega),aqH p r (by omega),show(1:Int)=((1:Nat):Int) from rfl,abU q 1 (by omega),abU _ (63-r) (by omega)];have e2:q/2^1/2^(63-r)=q/2^(64-r):=by rw[Nat.div_div_eq_div_mul,<- Nat.pow_add];congr 2;omega
 rw[e2];exact WV _ _ (Nat.mod_lt _ zu) (Nat.lt_of_le_of_lt (Nat.div_le_self _ _) hq)
def vS:=And.intro @xM (And.intro @wV (And.intro @wW (And.intro @xQ (And.intro @xR (And.intro @xA (And.intro @xC (And.intro @wS (And.intro @Al (And.intro @Aw (And.intro @PO (And.intro @Nf (And.intro @Av (And.intro @PP (And.intro @Ez (And.intro @Hf (And.intro @zG (And.intro @ahE (And.intro @Ey (And.intro @ahC (And.intro @ahD (And.intro @JI (And.intro @JH (And.intro @Le (And.intro @abV (And.intro @EA (And.intro @PQ (And.intro @WX (And.intro @PR (And.intro @abW (And.intro @EZ (And.intro @wP (And.intro @zF (And.intro @Ha (And.intro @abQ (And.intro @Dm (And.intro @Cy (And.intro @xD (@Ak))))))))))))))))))))))))))))))))))))))
theorem ahF (c:Int) (M:Nat):∃ m:Nat,max (-(M:Int)) (min (max (i64 c) 0) (M:Int))=(m:Int)/\m=min (i64 c).toNat M:=⟨min (i64 c).toNat M,by omega,rfl⟩
theorem ahG (c:Int) (M:Nat):∃ m:Nat,max (-(M:Int)) (min (0-min (max (i64 c) 0) (M:Int)) (M:Int)) = -(m:Int)/\m=min (i64 c).toNat M:=⟨min (i64 c).toNat M,by omega,rfl⟩
theorem Us (m:Int):wJ .shr .i64 m 6=m/64:=by simp only[wJ,IntKind.bits];rw[show min ((6:Int).toNat) 64=6 by decide,Int.fdiv_eq_ediv_of_nonneg _ (by decide)];rfl
theorem Cj {n:Int} (h1 : -1000<=n) (h2:n<=1000):i64 n=n:=xG (by omega) (by omega)
theorem Ut (n j r:Nat) (hr:r<64):wJ .or .u64 (wJ .shl .u64 (wd n (j+1)) (u64 (r:Int))) (wJ .shr .u64 (wJ .shr .u64 (wd n j) 1) (wJ .sub .u64 63 (u64 (r:Int))))=wd (n*2^r) (j+1):=by rw[abS n r (j+1) hr,if_neg (by omega),show j+1-1=j by omega,zz,zz,abX _ _ r (Nat.mod_lt _ zu) (Nat.mod_lt _ zu) hr,Int.toNat_natCast,Int.toNat_natCast]
theorem Uu (n r:Nat) (hr:r<64):wJ .or .u64 (wJ .shl .u64 (wd n 0) (u64 (r:Int))) (wJ .shr .u64 0 (wJ .sub .u64 63 (u64 (r:Int))))=wd (n*2^r) 0:=by have:=abX (n/vZ^0%vZ) 0 r (Nat.mod_lt _ zu) zu hr;rw[abS n r 0 hr,if_pos rfl,zz,Int.toNat_natCast];simp only[Nat.zero_div] at this;rw[<- this];congr 1
theorem Uv (n r:Nat) (hr:r<64):wJ .or .u64 (wJ .shl .u64 (wd n 0) (u64 (r:Int))) (wJ .shr .u64 (wJ .shr .u64 0 1) (wJ .sub .u64 63 (u64 (r:Int))))=wd (n*2^r) 0:=by have:=abX (n/vZ^0%vZ) 0 r (Nat.mod_lt _ zu) zu hr;rw[abS n r 0 hr,if_pos rfl,zz,Int.toNat_natCast];simp only[Nat.zero_div] at this;rw[<- this];congr 1
theorem ahH (n j r:Nat) (hr:r<64) (h:wd n (j+1)=0):wJ .or .u64 (wJ .shl .u64 0 (u64 (r:Int))) (wJ .shr .u64 (wJ .shr .u64 (wd n j) 1) (wJ .sub .u64 63 (u64 (r:Int))))=wd (n*2^r) (j+1):=by have:=Ut n j r hr;rw[h] at this;exact this
theorem WY (r:Nat) (hr:r<64):wJ .or .u64 (wJ .shl .u64 0 (u64 (r:Int))) (wJ .shr .u64 0 (wJ .sub .u64 63 (u64 (r:Int))))=0:=by have:=Uu 0 r hr;simp only[DK,Nat.zero_mul] at this;exact this
theorem WZ (r:Nat) (hr:r<64):wJ .or .u64 (wJ .shl .u64 0 (u64 (r:Int))) (wJ .shr .u64 (wJ .shr .u64 0 1) (wJ .sub .u64 63 (u64 (r:Int))))=0:=by have:=Uv 0 r hr;simp only[DK,Nat.zero_mul] at this;exact this
theorem ahI (n m:Nat):wd (n*2^m) 0=(if m/64=0 then wd (n*2^(m%64)) 0 else 0)/\wd (n*2^m) 1=(if m/64=0 then wd (n*2^(m%64)) 1 else if m/64=1 then wd (n*2^(m%64)) 0 else 0):=by
 have e:n*2^m=n*2^(m%64)*vZ^(m/64):=by
  conv=>lhs;rw[<- Nat.div_add_mod m 64,Nat.pow_add,Nat.pow_mul,<- GG]
  ac_rfl
 rw[e,abT,abT];constructor
 ·by_cases h:m/64=0
  ·rw[h,if_neg (by omega),if_pos rfl]
  ·rw[if_pos (by omega),if_neg h]
 ·by_cases h:m/64=0
  ·rw[h,if_neg (by omega),if_pos rfl]
  ·by_cases h1:m/64=1
   ·rw[h1,if_neg (by omega),if_neg (by omega),if_pos rfl]
   ·rw[if_pos (by omega),if_neg h,if_neg h1]
theorem W9 (a b c:Int):BO [a,b,c]=oB (nB a b*2^(i64 c).toNat%wy):=by
 obtain⟨n,hn,e,h1,h0⟩:=Ex a b;obtain⟨m,hm,hm2⟩:=ahF c 128;rw[BO,adc,wu rfl,e];simp only[xM,wV,wW,xQ,xR,xA,xC,Aw,PO,Nf,Av,PP,Ez,JI,JH,h1,h0,zF];have hm':max (-128) (min (max (i64 c) 0) 128)=(m:Int):=hm;rw[hm',Us,WW,EZ,EZ,EZ]
 have hpow:n*2^(i64 c).toNat%wy=n*2^m%wy:=by
  by_cases h:(i64 c).toNat<=128
  ·rw[hm2,Nat.min_eq_left h]
  ·rw[hm2,Nat.min_eq_right (by omega),Bl,Nat.mul_mod_left];obtain⟨d,hd⟩:∃ d,(i64 c).toNat=128+d:=⟨(i64 c).toNat-128,by omega⟩;rw[hd,Nat.pow_add,show n*(2^128*2^d)=n*2^d*2^128 by ac_rfl,Nat.mul_mod_left]
 rw[hpow];unfold oB;rw[Ii _ 1 (by decide),Ii _ 0 (by decide),(ahI n m).1,(ahI n m).2];have hr:m%64<64:=Nat.mod_lt _ (by decide);have hc:((m:Int)%64)=((m%64:Nat):Int):=by simp
 have hd:((m:Int)/64)=((m/64:Nat):Int):=by simp
 have hle:m/64<=2:=by omega
 rw[hc,hd];generalize m/64=w at *
 generalize m%64=r at *
 rcases(show w=0\/w=1\/w=2 by omega) with rfl|rfl|rfl <;>
  simp[EA,Le,wP,Cj,Ut,Uu,Uv,WY,WZ,hr]
theorem Xa (n m i:Nat):wd (n*2^m) i=if i<m/64 then 0 else wd (n*2^(m%64)) (i-m/64):=by
 have e:n*2^m=n*2^(m%64)*vZ^(m/64):=by
  conv=>lhs;rw[<- Nat.div_add_mod m 64,Nat.pow_add,Nat.pow_mul,<- GG]
  ac_rfl
 rw[e,abT]
theorem PS (n k r w i:Nat) (h:k+r=64*w):wd (n/2^k) i=wd (n*2^r) (w+i):=by rw[<- afZ,abR,<- h,Nat.pow_add,Nat.mul_comm (2^k),<- Nat.div_div_eq_div_mul,Nat.mul_div_cancel _ (FP.two_pow_pos r)]
theorem aqK {n c M W:Nat} (hW:W=2^M):n*2^c%W=n*2^(min c M)%W:=by
 by_cases h:c<=M
 ·rw[Nat.min_eq_left h]
 ·rw[Nat.min_eq_right (by omega),hW,Nat.mul_mod_left];obtain⟨d,hd⟩:∃ d,c=M+d:=⟨c-M,by omega⟩;rw[hd,Nat.pow_add,show n*(2^M*2^d)=n*2^d*2^M by ac_rfl,Nat.mul_mod_left]
theorem ahJ {n c M W:Nat} (hW:W=2^M) (hn:n<W):n/2^c=n/2^(min c M):=by
 by_cases h:c<=M
 ·rw[Nat.min_eq_left h]
 ·rw[hW] at hn;have h2:n<2^c:=Nat.lt_of_lt_of_le hn (Nat.pow_le_pow_right (by decide) (by omega));rw[Nat.min_eq_right (by omega),Nat.div_eq_of_lt hn,Nat.div_eq_of_lt h2]
theorem Xb (n r i j:Nat) (hr:r<64) (hn:n<vZ^j) (hi:j+1<=i):wd (n*2^r) i=0:=by refine Tq (m:=j+1) i ?_ hi;rw[Nat.pow_succ];refine Nat.lt_of_lt_of_le (Nat.mul_lt_mul_of_pos_right hn (FP.two_pow_pos r)) ?_;rw[GG];exact Nat.mul_le_mul_left _ (Nat.pow_le_pow_right (by decide) (by omega))
theorem ahK (a b c:Int):JR [a,b,c]=oB (nB a b/2^(i64 c).toNat):=by
 obtain⟨n,hn,e,h1,h0⟩:=Ex a b;obtain⟨k,hk,hk2⟩:=ahG c 128;rw[JR,ade,wu rfl,e];simp only[xM,wV,wW,xQ,xR,xA,xC,Aw,PO,Nf,Av,PP,Ez,JI,JH,h1,h0,zF];have hs:wJ .sub .i64 0 (min (max (i64 c) 0) 128)=0-min (max (i64 c) 0) 128:=by rw[EZ];exact Cj (by omega) (by omega)
 have hk':max (-128) (min (0-min (max (i64 c) 0) 128) 128) = -(k:Int):=hk;rw[hs,hk',Us,WW];simp only[EZ];rw[ahJ Bl hn,<- hk2];obtain⟨w,r,hw,hr,hw2⟩:∃ w r:Nat,k+r=64*w/\r<64/\w<=2:=⟨(k+63)/64,64*((k+63)/64)-k,by omega,by omega,by omega⟩;have hc:(-(k:Int))%64=((r:Nat):Int):=by omega
 have hd:(-(k:Int))/64 = -((w:Nat):Int):=by omega
 rw[hc,hd];unfold oB;rw[PS n k r w 0 hw,PS n k r w 1 hw];have z2:=(aoc hn).1;have t2:=ahH n 1 r hr z2;have t3:=Xb n r 3 2 hr (by rw[FI];exact hn) (by decide)
 rcases(show w=0\/w=1\/w=2 by omega) with rfl|rfl|rfl <;>
  simp[EA,Le,PR,wP,Cj,Ut,Uu,Uv,WY,WZ,hr,t2,t3]
theorem abY (a b c d x:Int):QL [a,b,c,d,x]=oW (nW a b c d*2^(i64 x).toNat%wG):=by
 obtain⟨n,hn,e,h0,h1,h2,h3⟩:=Na a b c d;obtain⟨m,hm,hm2⟩:=ahF x 256;rw[QL,adf,wu rfl,e];simp only[xM,wV,wW,xQ,xR,xA,xC,Aw,PO,Nf,Av,PP,Ez,JI,JH,h0,h1,h2,h3,zF];have hm':max (-256) (min (max (i64 x) 0) 256)=(m:Int):=hm;rw[hm',Us,WW];simp only[EZ];rw[aqK FE,<- hm2];unfold oW;rw[<- FJ,Jm _ _ _ (by decide),Jm _ _ _ (by decide),Jm _ _ _ (by decide),Jm _ _ _ (by decide),Xa n m 0,Xa n m 1,Xa n m 2,Xa n m 3];have hr:m%64<64:=Nat.mod_lt _ (by decide);have hc:((m:Int)%64)=((m%64:Nat):Int):=by simp
 have hd:((m:Int)/64)=((m/64:Nat):Int):=by simp
 have hle:m/64<=4:=by omega
 rw[hc,hd];generalize m/64=w at *
 generalize m%64=r at *
 rcases(show w=0\/w=1\/w=2\/w=3\/w=4 by omega) with rfl|rfl|rfl|rfl|rfl <;>
  simp[EA,Le,PR,wP,Cj,Ut,Uu,Uv,WY,WZ,hr]
theorem Xc (a b c d x:Int):Fq [a,b,c,d,x]=oW (nW a b c d/2^(i64 x).toNat):=by
 obtain⟨n,hn,e,h0,h1,h2,h3⟩:=Na a b c d;obtain⟨k,hk,hk2⟩:=ahG x 256;rw[Fq,adg,wu rfl,e];simp only[xM,wV,wW,xQ,xR,xA,xC,Aw,PO,Nf,Av,PP,Ez,JI,JH,h0,h1,h2,h3,zF];have hs:wJ .sub .i64 0 (min (max (i64 x) 0) 256)=0-min (max (i64 x) 0) 256:=by rw[EZ];exact Cj (by omega) (by omega)
 have hk':max (-256) (min (0-min (max (i64 x) 0) 256) 256) = -(k:Int):=hk;rw[hs,hk',Us,WW];simp only[EZ];rw[ahJ FE hn,<- hk2];obtain⟨w,r,hw,hr,hw2⟩:∃ w r:Nat,k+r=64*w/\r<64/\w<=4:=⟨(k+63)/64,64*((k+63)/64)-k,by omega,by omega,by omega⟩;have hc:(-(k:Int))%64=((r:Nat):Int):=by omega
 have hd:(-(k:Int))/64 = -((w:Nat):Int):=by omega
 rw[hc,hd];unfold oW;rw[PS n k r w 0 hw,PS n k r w 1 hw,PS n k r w 2 hw,PS n k r w 3 hw];have hn4:n<vZ^4:=by rw[FJ];exact hn
 have z4:wd n 4=0:=Tq (m:=4) 4 hn4 (by decide);have t4:=ahH n 3 r hr z4;have t5:=Xb n r 5 4 hr hn4 (by decide);have t6:=Xb n r 6 4 hr hn4 (by decide);have t7:=Xb n r 7 4 hr hn4 (by decide)
 rcases(show w=0\/w=1\/w=2\/w=3\/w=4 by omega) with rfl|rfl|rfl|rfl|rfl <;>
  simp[EA,Le,PR,wP,Cj,Ut,Uu,Uv,WY,WZ,hr,t4,t5,t6,t7]
theorem and1 (x:Nat) (hx:x<vZ):wJ .and .u64 (x:Int) 1=((x%2:Nat):Int):=by
 rw[<- Jp];simp only[fold];have h1:yj .u64 (x:Int)=x:=by show x%Bn .u64=x;rw[show Bn .u64=vZ from rfl,Nat.mod_eq_of_lt hx]
 have h2:yj .u64 1=1:=by decide
 have h3:Nat.land x 1=x%2:=Nat.and_two_pow_sub_one_eq_mod (n:=1) (x:=x);rw[h1,h2,h3,show Int.ofNat (x%2)=((x%2:Nat):Int) from rfl,aqE];exact Hd _ (by rw[CW];omega)
theorem Xd (n j k:Nat) (hk:k<64):(wJ .and .u64 (wJ .shr .u64 (wd n j) (k:Int)) 1==1)=n.testBit (64*j+k):=by rw[zz,abU _ k (by omega),and1 _ (Nat.lt_of_le_of_lt (Nat.div_le_self _ _) (Nat.mod_lt _ zu)),<- O0 n j k hk,Nat.testBit_eq_decide_div_mod_eq,Bool.eq_iff_iff,beq_iff_eq,decide_eq_true_iff];generalize n/vZ^j%vZ/2^k=y;omega
theorem ahL (a b:Int):Qx [a,b] = [wh (decide (nB a b=0))]:=by obtain⟨n,hn,e,h1,h0⟩:=Ex a b;rw[Qx,ac1,wu rfl,e];simp only[vS,h1,h0,show ww 1=true from rfl,Bool.and_true];congr 2;rw[Bool.eq_iff_iff];simp only[Bool.and_eq_true,beq_iff_eq,decide_eq_true_iff];exact aob hn
theorem Xe (a b c:Int):IK [a,b,c] = [wh (MC (nB a b) (i64 c))]:=by
 obtain⟨n,hn,e,h1,h0⟩:=Ex a b;rw[IK,ac2,e];simp only[xg,vS,h1,h0,decide_eq_true_iff];generalize hi:i64 c=i;by_cases h2:i<0
 ·rw[if_pos h2,wu rfl,an9 h2];rfl
 rw[if_neg h2];by_cases h3:i>127
 ·rw[if_pos h3,wu rfl,aoa hn h3];rfl
 rw[if_neg h3];obtain⟨m,rfl⟩:∃ m:Nat,i=(m:Int):=⟨i.toNat,by omega⟩;rw[Tp];by_cases h4:(m:Int)>63
 ·rw[if_pos h4,wu rfl];simp only[vS,h1,h0,hi];rw[show i64 ((m:Int)-64)=((m-64:Nat):Int) by rw[xG (by omega) (by omega)];omega,Xd n 1 (m-64) (by omega),show 64*1+(m-64)=m by omega]
 ·rw[if_neg h4,wu rfl];simp only[vS,h1,h0,hi];rw[Xd n 0 m (by omega)];simp
theorem ahM (a b c d:Int):Eb [a,b,c,d] = [wd (nB a b+nB c d) 1,wd (nB a b+nB c d) 0,wh (decide (wy<=nB a b+nB c d))]:=by
 obtain⟨x,hx,e,h1,h0⟩:=Ex a b;obtain⟨y,hy,e',h1',h0'⟩:=Ex c d;rw[e,e',Eb,ac3];have z0:yN 0=((Ad x y 0:Nat):Int):=by rw[afS];rfl
 have z1:yN ((Ad x y 1:Nat):Int)=((Ad x y 1:Nat):Int):=by unfold yN;rw[zR];exact WM (aop x y 1)
 refine(vX (r:=[wd (x+y) 0,((Ad x y 1:Nat):Int)]) ?_ rfl).trans ?_
 ·simp only[vS,ajR,M6,h1,h0,h1',h0',z0];rw[OW,OX]
 refine(vX (r:=[wd (x+y) 1,((Ad x y 2:Nat):Int)]) ?_ rfl).trans ?_
 ·simp only[vS,ajR,M6,h1,h0,h1',h0'];rw[show wh (ww ((Ad x y 1:Nat):Int))=yN ((Ad x y 1:Nat):Int) from rfl,z1,z1,OW,OX]
 rw[wu rfl];simp only[vS];congr 3;rw[afT (i:=2) (by rw[FI];exact hx) (by rw[FI];exact hy),FI];by_cases h:wy<=x+y
 ·rw[if_pos h,decide_eq_true h];rfl
 ·rw[if_neg h,decide_eq_false h];rfl
theorem aqL (a b c d:Int):QB [a,b,c,d] = [wd (nB a b+wy-nB c d) 1,wd (nB a b+wy-nB c d) 0,wh (decide (nB a b<nB c d))]:=by
 obtain⟨x,hx,e,h1,h0⟩:=Ex a b;obtain⟨y,hy,e',h1',h0'⟩:=Ex c d;rw[e,e',QB,ac4];have z0:yN 0=((bin x y 0:Nat):Int):=by rw[afU];rfl
 have z1:yN ((bin x y 1:Nat):Int)=((bin x y 1:Nat):Int):=by unfold yN;rw[zR];exact WM (aoq x y 1)
 have hle:y<=x+vZ^2:=by rw[FI];omega
 refine(vX (r:=[wd (x+wy-y) 0,((bin x y 1:Nat):Int)]) ?_ rfl).trans ?_
 ·simp only[vS,ajS,M7,h1,h0,h1',h0',z0];rw[OZ x y 0 2 (by decide) hle,OY,FI]
 refine(vX (r:=[wd (x+wy-y) 1,((bin x y 2:Nat):Int)]) ?_ rfl).trans ?_
 ·simp only[vS,ajS,M7,h1,h0,h1',h0'];rw[show wh (ww ((bin x y 1:Nat):Int))=yN ((bin x y 1:Nat):Int) from rfl,z1,z1,OZ x y 1 2 (by decide) hle,OY,FI]
 rw[wu rfl];simp only[vS];congr 3;rw[afV (i:=2) (by rw[FI];exact hx) (by rw[FI];exact hy)];by_cases h:x<y
 ·rw[if_pos h,decide_eq_true h];rfl
 ·rw[if_neg h,decide_eq_false h];rfl
theorem Xf (a b:Int):QD [a,b]=oB ((u64 a).toNat*(u64 b).toNat):=by
 rw[QD,ac5];have h:=af5 (zD a).2 (zD b).2;rw[(zD a).1,(zD b).1] at h;refine(vX (r:=oB ((u64 a).toNat*(u64 b).toNat)) ?_ rfl).trans ?_
 ·simp only[vS,avc,PI];rw[h.1,h.2]
 rw[wu rfl];simp only[vS]
theorem abZ (a b c d:Int):Gh [a,b,c,d]=oW (nB a b*wy+nB c d):=by obtain⟨x,hx,e,h1,h0⟩:=Ex a b;obtain⟨y,hy,e',h1',h0'⟩:=Ex c d;rw[e,e',Gh,ac6,wu rfl];obtain⟨j0,j1,j2,j3⟩:=aod (h:=x) hy;simp only[vS,h1,h0,h1',h0',j0,j1,j2,j3]
theorem Xg (a b c d:Int):IL [a,b,c,d]=oB (nW a b c d/wy):=by obtain⟨n,hn,e,h0,h1,h2,h3⟩:=Na a b c d;rw[e,IL,ac7,wu rfl];simp only[vS,h2,h3,ZM]
theorem ab0 (a b c d:Int):IM [a,b,c,d]=oB (nW a b c d):=by obtain⟨n,hn,e,h0,h1,h2,h3⟩:=Na a b c d;rw[e,IM,ac8,wu rfl];simp only[vS,h0,h1]
theorem ahN (a b c d:Int):Fp [a,b,c,d] = [wh (decide (nW a b c d=0))]:=by obtain⟨n,hn,e,h0,h1,h2,h3⟩:=Na a b c d;rw[e,Fp,ac9,wu rfl];simp only[vS,h0,h1,h2,h3,show ww 1=true from rfl,Bool.and_true];congr 2;rw[Bool.eq_iff_iff];simp only[Bool.and_eq_true,beq_iff_eq,decide_eq_true_iff];exact aoe hn
def len (n:Nat):Nat:=if n=0 then 0 else Nat.log2 n+1
theorem Uw {n k:Nat} : len n<=k↔n<2^k:=by
 unfold len;split
 ·rename_i h;subst h;simp[FP.two_pow_pos]
 ·rename_i h;rw[<- Nat.log2_lt h];omega
theorem ab1 {n k:Nat} (h0:n≠0) (h1:2^k<=n) (h2:n<2^(k+1)):len n=k+1:=by
 unfold len;rw[if_neg h0];have a:=(Nat.log2_lt h0).2 h2;have b:¬ Nat.log2 n<k:=λh=>by have:=(Nat.log2_lt h0).1 h;omega
 omega
theorem Xh (w : Nat) (hw : w < vZ) : Lib.bitLen w = len w := by
  have key : ∀ f x, x < 2 ^ f -> Lib.bitLenAux f x = len x := by
    intro f
    induction f with
    | zero => intro x hx; have : x = 0 := by simpa using hx
              subst this; rfl
    | succ f ih =>
      intro x hx;unfold Lib.bitLenAux;split
      · rename_i h; subst h; rfl
      · rename_i h;have hx2 : x < 2 ^ f * 2 := by rw [<- Nat.pow_succ]; exact hx
        rw [ih (x / 2) (by omega)];by_cases h1 : x / 2 = 0
        · have : x = 1 := by omega
          subst this; decide
        · obtain ⟨b1, b2⟩ := FP.agP h1;have e1 : len (x / 2) = Nat.log2 (x / 2) + 1 := by unfold len; rw [if_neg h1]
          rw [e1, ab1 (k := Nat.log2 (x / 2) + 1) h (by rw [Nat.pow_succ]; omega) (by rw [Nat.pow_succ]; omega)]; omega
  unfold Lib.bitLen;exact key 64 w (by rw [<- GG]; exact hw)
theorem Xi {n j:Nat} (h0:(wd n j)≠0) (h1:n<vZ^(j+1)):len n=64*j+len (wd n j).toNat:=by
 have hw:(wd n j).toNat=n/vZ^j:=by rw[zz,Int.toNat_natCast,Nat.mod_eq_of_lt];rw[Nat.div_lt_iff_lt_mul (DJ j),Nat.mul_comm,<- Nat.pow_succ];exact h1
 have hne:n/vZ^j≠0:=by intro h;apply h0;rw[zz,h];rfl
 have hn:n≠0:=by intro h;subst h;simp at hne
 rw[hw];obtain⟨b1,b2⟩:=FP.agP hne;have e1:len (n/vZ^j)=Nat.log2 (n/vZ^j)+1:=by unfold len;rw[if_neg hne]
 rw[e1,<- Nat.add_assoc];generalize Nat.log2 (n/vZ^j)=k at *
 rw[Nat.le_div_iff_mul_le (DJ j),abR,<- Nat.pow_add] at b1;rw[Nat.div_lt_iff_lt_mul (DJ j),abR,<- Nat.pow_add] at b2;refine ab1 hn (by rw[Nat.add_comm];exact b1) ?_;rw[show 64*j+k+1=k+1+64*j by omega];exact b2
theorem ahO (a b c d:Int):QO [a,b,c,d] = [((len (nW a b c d):Nat):Int)]:=by
 obtain⟨n,hn,e,h0,h1,h2,h3⟩:=Na a b c d;rw[e,QO,adh];have hn4:n<vZ^4:=by rw[FJ];exact hn
 have hl:len n<=256:=Uw.2 (by rw[<- FE];exact hn);have wl:∀ j,(wd n j).toNat<vZ:=λj=>by have:=(FD n j).2;have:=(FD n j).1;omega
 have low:∀ j,n<vZ^(j+1)->wd n j=0->n<vZ^j:=by
  intro j hlt hz;have:n/vZ^j%vZ=0:=by rw[zz] at hz;omega
  rw[Nat.mod_eq_of_lt (by rw[Nat.div_lt_iff_lt_mul (DJ j),Nat.mul_comm,<- Nat.pow_succ];exact hlt)] at this;rcases Nat.div_eq_zero_iff.1 this with h|h
  ·have:=DJ j;omega
  ·exact h
 simp only[xg,vS,h0,h1,h2,h3,bne_iff_ne];by_cases z3:wd n 3=0
 ·rw[if_neg (by simp[z3])];have l3:=low 3 hn4 z3;by_cases z2:wd n 2=0
  ·rw[if_neg (by simp[z2])];have l2:=low 2 l3 z2;by_cases z1:wd n 1=0
   ·rw[if_neg (by simp[z1])];have l1:=low 1 l2 z1;by_cases z0:wd n 0=0
    ·rw[if_neg (by simp[z0])];have l0:=low 0 l1 z0;have:n=0:=by simpa using l0
     subst this;rw[wu rfl];rfl
    ·rw[if_pos z0];refine(vX (r:=[((len (wd n 0).toNat:Nat):Int)]) ?_ rfl).trans ?_
     ·simp only[vS,X4,JD,h0];rw[Xh _ (wl 0)]
     rw[wu rfl];simp only[vS];have:=Xi z0 l1;have hw:=Uw.2 (show(wd n 0).toNat<2^64 by rw[<- GG];exact wl 0);rw[Cj (n:=((len (wd n 0).toNat:Nat):Int)) (by omega) (by omega),Cj (by omega) (by omega),this];simp
   ·rw[if_pos z1];refine(vX (r:=[((len (wd n 1).toNat:Nat):Int)]) ?_ rfl).trans ?_
    ·simp only[vS,X4,JD,h1];rw[Xh _ (wl 1)]
    rw[wu rfl];simp only[vS];have:=Xi z1 l2;rw[Cj (n:=((len (wd n 1).toNat:Nat):Int)) (by omega) (by omega),Cj (by omega) (by omega),this];simp
  ·rw[if_pos z2];refine(vX (r:=[((len (wd n 2).toNat:Nat):Int)]) ?_ rfl).trans ?_
   ·simp only[vS,X4,JD,h2];rw[Xh _ (wl 2)]
   rw[wu rfl];simp only[vS];have:=Xi z2 l3;rw[Cj (n:=((len (wd n 2).toNat:Nat):Int)) (by omega) (by omega),Cj (by omega) (by omega),this];simp
 ·rw[if_pos z3];refine(vX (r:=[((len (wd n 3).toNat:Nat):Int)]) ?_ rfl).trans ?_
  ·simp only[vS,X4,JD,h3];rw[Xh _ (wl 3)]
  rw[wu rfl];simp only[vS];have:=Xi z3 hn4;rw[Cj (n:=((len (wd n 3).toNat:Nat):Int)) (by omega) (by omega),Cj (by omega) (by omega),this];simp
theorem Ux (a:Int):IP [a] = [(FP.fW (fN a):Int),(FP.fP (fN a):Int),(FP.fE (fN a):Int)]:=by
 unfold fN;rw[IP,adi];obtain⟨h1,h2⟩:=Ew a;simp only[xg,vS,Bool.not_eq_true',decide_eq_false_iff_not,decide_eq_true_iff,beq_iff_eq];generalize hf:u8 a=f at *
 by_cases h4:f<4
 ·rw[if_neg (by omega)];rcases(show f=0\/f=1\/f=2\/f=3 by omega) with rfl|rfl|rfl|rfl
  ·rw[if_pos rfl,wu rfl];rfl
  ·rw[if_neg (by decide),if_pos rfl,wu rfl];rfl
  ·rw[if_neg (by decide),if_neg (by decide),if_pos rfl,wu rfl];rfl
  ·rw[if_neg (by decide),if_neg (by decide),if_neg (by decide),wu rfl];rfl
 ·rw[if_pos h4,wu rfl];obtain⟨m,rfl⟩:∃ m:Nat,f=((m+4:Nat):Int):=⟨(f-4).toNat,by omega⟩;rw[Int.toNat_natCast];rfl
theorem ahP {m r:Int} (hm:0<=m) (hr:0<r) (hr3:r<=3) (neg odd:Bool):O1 m neg odd r=FP.aCK m.toNat neg odd r.toNat:=by
 unfold O1;rw[decide_eq_true (show r>0 from hr),decide_eq_true hr3,Bool.true_and,Bool.true_and];rcases(show r=1\/r=2\/r=3 by omega) with rfl|rfl|rfl <;>
 ·by_cases h0:m=0
  ·subst h0;rfl
  rw[if_neg h0];by_cases h1:m=1
  ·subst h1;rfl
  rw[if_neg h1];by_cases h2:m=2
  ·subst h2;rfl
  rw[if_neg h2];by_cases h3:m=3
  ·subst h3;rfl
  rw[if_neg h3];obtain⟨k,rfl⟩:∃ k:Nat,m=((k+4:Nat):Int):=⟨(m-4).toNat,by omega⟩;rw[Int.toNat_natCast];rfl
theorem aqM (a b:Int):QR [a,b] = [wh (FP.aCK (u8 a).toNat (ww b) true 3)]:=by
 rw[QR,adj];refine(vX (r:=[wh (FP.aCK (u8 a).toNat (ww b) true 3)]) ?_ rfl).trans ?_
 ·simp only[vS,avd,JF,ahA];rw[show u8 3=3 by decide,show ww 1=true from rfl,ahP (Ew a).1 (by decide) (by decide)];rfl
 rw[wu rfl];simp only[vS]
theorem Ng (f:Nat):FP.fE f<=16383:=by unfold FP.fE;split<;>decide
theorem aDH (f:Nat):FP.fP f<=113:=by unfold FP.fP;split<;>decide
theorem aDs (f:Nat):FP.fW f<=128:=by unfold FP.fW;split<;>decide
theorem Nh {n:Int} (h1 : -17000<=n) (h2:n<=17000):i64 n=n:=xG (by omega) (by omega)
theorem yz {n:Nat} (h:n<=1000000000000):i64 (n:Int)=n:=xG (by omega) (by omega)
theorem AU (f:Nat):i64 (FP.fE f:Int)=FP.fE f:=yz (by have:=Ng f;omega)
theorem ze (f:Nat):i64 (FP.fP f:Int)=FP.fP f:=yz (by have:=aDH f;omega)
theorem Lf (f:Nat):i64 (FP.fW f:Int)=FP.fW f:=yz (by have:=aDs f;omega)
theorem Ni (a:Int):Gi [a] = [(FP.fE (fN a):Int)]:=by rw[Gi,adl];refine(vX (by simp only[vS,adv];exact Ux _) (by rfl)).trans ?_;rw[wu rfl];simp only[vS,wz,AU]
theorem PT (a:Int):Gj [a] = [(FP.fP (fN a):Int)]:=by rw[Gj,adm];refine(vX (by simp only[vS,adv];exact Ux _) (by rfl)).trans ?_;rw[wu rfl];simp only[vS,wz,ze]
theorem ahQ (a:Int):NC [a] = [(FP.fW (fN a):Int)]:=by rw[NC,adn];refine(vX (by simp only[vS,adv];exact Ux _) (by rfl)).trans ?_;rw[wu rfl];simp only[vS,wz,Lf]
theorem aqN {x k:Nat} (h:k<=128):x*2^(128-k)%wy/2^(128-k)=x%2^k:=by
 rw[Bl]
 conv=>lhs;rw[show(2:Nat)^128=2^k*2^(128-k) by rw[<- Nat.pow_add];congr 1;omega]
 rw[Nat.mul_mod_mul_right,Nat.mul_div_cancel _ (FP.two_pow_pos _)]
theorem ahR (a b c:Int) (h1:0<=i64 c) (h2:i64 c<=128):JU [a,b,c]=oB (nB a b%2^(i64 c).toNat):=by
 rw[JU,ado];have e:i64 (128-i64 c)=((128-(i64 c).toNat:Nat):Int):=by rw[Cj (by omega) (by omega)];omega
 have e2:i64 ((128-(i64 c).toNat:Nat):Int)=((128-(i64 c).toNat:Nat):Int):=yz (by omega);have e3:nB (u64 a) (u64 b)=nB a b:=by unfold nB;rw[Cy,Cy]
 refine(vX (by simp only[vS,avu,e];exact W9 _ _ _ ) (by rfl)).trans ?_;refine(vX (by simp only[vS,avv,e,e2,PN,Int.toNat_natCast];exact ahK _ _ _ ) (by rfl)).trans ?_;rw[wu rfl];simp only[vS,PN,e2,Int.toNat_natCast,Nat.mod_mod,e3];rw[aqN (by omega)]
theorem wX (a b:Int):nB (u64 a) (u64 b)=nB a b:=by unfold nB;rw[Cy,Cy]
theorem Fa (a b c d:Int):nW (u64 a) (u64 b) (u64 c) (u64 d)=nW a b c d:=by unfold nW;rw[Cy,Cy,Cy,Cy]
theorem IA (n:Nat):nW (wd n 0) (wd n 1) (wd n 2) (wd n 3)=n%wG:=by have:=aqF (n:=n%wG) (Nat.mod_lt _ afR);rw[<- FJ,Jm _ _ _ (by decide),Jm _ _ _ (by decide),Jm _ _ _ (by decide),Jm _ _ _ (by decide),FJ] at this;exact this
theorem aqO {n k:Nat} (h:n≠0):len (n*2^k)=len n+k:=by
 obtain⟨b1,b2⟩:=FP.agP h;have e1:len n=Nat.log2 n+1:=by unfold len;rw[if_neg h]
 rw[e1,show Nat.log2 n+1+k=(Nat.log2 n+k)+1 by omega];refine ab1 (Nat.ne_of_gt (Nat.mul_pos (Nat.pos_of_ne_zero h) (FP.two_pow_pos k))) ?_ ?_
 ·rw[Nat.pow_add];exact Nat.mul_le_mul_right _ b1
 ·rw[show Nat.log2 n+k+1=Nat.log2 n+1+k by omega,Nat.pow_add];exact Nat.mul_lt_mul_of_pos_right b2 (FP.two_pow_pos k)
theorem ahS {n:Nat} : len n=0↔n=0:=by unfold len;split<;>omega
theorem ahT {n k:Nat} (h:len n<=k):n*2^(k-len n)<2^k:=by have:=Uw.1 (Nat.le_refl (len n));have h2:=Nat.mul_lt_mul_of_pos_right this (FP.two_pow_pos (k-len n));rw[<- Nat.pow_add,show len n+(k-len n)=k by omega] at h2;exact h2
def Cz (k n:Nat):Nat:=if n=0 then 0 else k-len n
theorem aqP (a b c d:Int):Q9 [a,b,c,d]=oW (nW a b c d*2^Cz 256 (nW a b c d)) ++ [((Cz 256 (nW a b c d):Nat):Int)]:=by
 rw[Q9,ads];have hn:=Ld a b c d;obtain⟨h0,h1,h2,h3,_⟩:=Lc a b c d;have hl:len (nW a b c d)<=256:=Uw.2 (by rw[<- FE];exact hn);refine(vX (by simp only[vS,ajY];exact ahO _ _ _ _) (by rfl)).trans ?_;rw[xg];simp only[vS,Fa,beq_iff_eq];rw[yz (show len (nW a b c d)<=1000000000000 by omega)];by_cases hz:nW a b c d=0
 ·rw[if_pos (by rw[ahS.2 hz];rfl),wu rfl];simp only[vS,h0,h1,h2,h3,Cz,if_pos hz,Nat.pow_zero,Nat.mul_one];rfl
 ·rw[if_neg (by have:=mt ahS.1 hz;omega)];have e:i64 (256-((len (nW a b c d):Nat):Int))=((256-len (nW a b c d):Nat):Int):=by rw[Cj (by omega) (by omega)];omega
  have e2:i64 ((256-len (nW a b c d):Nat):Int)=((256-len (nW a b c d):Nat):Int):=yz (by omega);have e4:=yz (show len (nW a b c d)<=1000000000000 by omega);refine(vX (by simp only[vS,adw,Fa,e4,e];exact abY _ _ _ _ _ ) (by rfl)).trans ?_;rw[wu rfl];simp only[vS,Fa,e,e2,e4,Int.toNat_natCast,Cz,if_neg hz];rw[Nat.mod_eq_of_lt (show _<wG by rw[FE];exact ahT hl)]
theorem PU:wG=wy*wy:=by unfold wG;rfl
theorem Uy {n:Nat} (h:n<wy):n*wy<wG:=by rw[PU];exact Nat.mul_lt_mul_of_pos_right h Ih
theorem aqQ (a b:Int):QX [a,b]=oB (nB a b*2^Cz 128 (nB a b)) ++ [((Cz 128 (nB a b):Nat):Int)]:=by
 rw[QX,adq];have hn:=He a b;have hl:len (nB a b)<=128:=Uw.2 (by rw[<- Bl];exact hn);have z:nB 0 0=0:=by decide
 refine(vX (by simp only[vS,ajW];exact abZ _ _ _ _) (by rfl)).trans ?_;rw[wX,z,Nat.add_zero];have hw:nB a b*wy<wG:=Uy hn;have hw2:nB a b*wy%wG=nB a b*wy:=Nat.mod_eq_of_lt hw
 have hlen:len (nB a b*wy)=if nB a b=0 then 0 else len (nB a b)+128:=by
  split
  ·rename_i h;rw[h];rfl
  ·rename_i h;rw[Bl,aqO h]
 have hi:i64 ((len (nB a b*wy):Nat):Int)=((len (nB a b*wy):Nat):Int):=yz (by rw[hlen];split<;>omega);refine(vX (by simp only[vS,ajY,IA,hw2];exact ahO _ _ _ _ ) (by rfl)).trans ?_;rw[xg];simp only[vS,IA,hw2,hi,beq_iff_eq];by_cases hz:nB a b=0
 ·rw[if_pos (by rw[hlen,if_pos hz];rfl)];refine(vX (by simp only[vS,ajZ,IA,hw2];exact Xg _ _ _ _ ) (by rfl)).trans ?_;rw[wu rfl];simp only[vS,Cz,if_pos hz,IA,hw2,Nat.pow_zero,Nat.mul_one,Nat.mul_div_cancel _ Ih];rfl
 ·rw[hlen,if_neg hz];rw[if_neg (by omega)];have e:i64 (256-((len (nB a b)+128:Nat):Int))=((128-len (nB a b):Nat):Int):=by rw[Cj (by omega) (by omega)];omega
  have e2:i64 ((128-len (nB a b):Nat):Int)=((128-len (nB a b):Nat):Int):=yz (by omega);have e4:=yz (show len (nB a b)+128<=1000000000000 by omega);have hr:=ahT hl;have big:nB a b*wy*2^(128-len (nB a b))=nB a b*2^(128-len (nB a b))*wy:=by ac_rfl
  have hbig:nB a b*2^(128-len (nB a b))*wy<wG:=Uy (by rw[Bl];exact hr);refine(vX (by simp only[vS,adw,IA,hw2,e4,e];exact abY _ _ _ _ _ ) (by rfl)).trans ?_;rw[e2,Int.toNat_natCast,IA,hw2,big,Nat.mod_eq_of_lt hbig];refine(vX (by simp only[vS,ajZ,IA,Nat.mod_eq_of_lt hbig];exact Xg _ _ _ _ ) (by rfl)).trans ?_;rw[wu rfl];simp only[vS,IA,Nat.mod_eq_of_lt hbig,Nat.mul_div_cancel _ Ih,e,e2,e4,Cz,if_neg hz]
theorem ab2 (a b c d x:Int):JV [a,b,c,d,x] = [wh (decide (nW a b c d%2^(i64 x).toNat≠0))]:=by rw[JV,adr];have hn:=Ld a b c d;obtain⟨h0,h1,h2,h3,_⟩:=Lc a b c d;have hd:nW a b c d/2^(i64 x).toNat<wG:=Nat.lt_of_le_of_lt (Nat.div_le_self _ _) hn;have hd2:nW a b c d/2^(i64 x).toNat*2^(i64 x).toNat<wG:=Nat.lt_of_le_of_lt (Nat.div_mul_le_self _ _) hn;refine(vX (by simp only[vS,avw];exact Xc _ _ _ _ _) (by rfl)).trans ?_;simp only[Fa,xD];refine(vX (by simp only[vS,adw];exact abY _ _ _ _ _) (by rfl)).trans ?_;simp only[IA,xD,Nat.mod_eq_of_lt hd,Nat.mod_eq_of_lt hd2];rw[wu rfl];simp only[vS,h0,h1,h2,h3,show ww 1=true from rfl,Bool.and_true];rw[aoj _ _ hd2 hn];congr 2;rw[Bool.eq_iff_iff];simp only[Bool.not_eq_true',decide_eq_false_iff_not,decide_eq_true_iff];have:=Nat.div_add_mod (nW a b c d) (2^(i64 x).toNat);rw[Nat.mul_comm] at this;omega
theorem Ah (n:Nat):((n:Nat):Int).toNat=n:=by omega
theorem Xj (x:Nat) {k:Nat} (h:k<=128):x%2^k<wy:=by rw[Bl];exact Nat.lt_of_lt_of_le (Nat.mod_lt _ (FP.two_pow_pos k)) (Nat.pow_le_pow_right (by decide) h)
theorem Xk (f a b:Int):Dp [f,a,b]=oB (nB a b%2^FP.fW (fN f)):=by
 rw[Dp,adx];refine(vX (by simp only[vS,avL];exact ahQ _) (by rfl)).trans ?_;have hl:=aDs (fN f);have h1:i64 (FP.fW (fN f):Int)=FP.fW (fN f):=Lf _;refine(vX (r:=oB (nB a b%2^FP.fW (fN f))) ?_ rfl).trans ?_
 ·simp only[vS,UM,wz];rw[ahR _ _ _ (by rw[xD,h1];omega) (by rw[xD,h1];omega),xD,h1,Ah,wX];rfl
 rw[wu rfl];simp only[vS]
def Fb (f:Nat) (neg:Bool) (e:Int) (frac:Nat):Nat :=
 FP.mk f neg ((if e<0\/e>1048576 then 0 else e.toNat)%2^(FP.fW f-FP.fP f)*2^(FP.fP f-1)+frac%2^(FP.fP f-1))
theorem ab3 {f:Nat} (h:f<4):2<=FP.fP f/\FP.fP f<=113/\FP.fP f<FP.fW f/\FP.fW f<=128/\16<=FP.fW f/\1<=FP.fE f/\FP.fE f<=16383/\FP.fW f-FP.fP f<=15:=by rcases FP.f4 h with rfl|rfl|rfl|rfl<;>decide
theorem aqR {f e frac:Nat} (h:f<4):e%2^(FP.fW f-FP.fP f)*2^(FP.fP f-1)+frac%2^(FP.fP f-1)<2^(FP.fW f-1):=by
 obtain⟨h1,h2,h3,h4,_⟩:=ab3 h;have a:=Nat.mod_lt e (FP.two_pow_pos (FP.fW f-FP.fP f));have b:=Nat.mod_lt frac (FP.two_pow_pos (FP.fP f-1));have e1:2^(FP.fW f-1)=2^(FP.fW f-FP.fP f)*2^(FP.fP f-1):=by rw[<- Nat.pow_add];congr 1;omega
 rw[e1];have:=Nat.mul_le_mul_right (2^(FP.fP f-1)) (show e%2^(FP.fW f-FP.fP f)+1<=2^(FP.fW f-FP.fP f) from a);rw[Nat.add_mul,Nat.one_mul] at this;omega
theorem PV {k:Nat} (h:k<=128):2^k<=wy:=by rw[Bl];exact Nat.pow_le_pow_right (by decide) h
def rB (n:Nat):List Int:=oB n
theorem Nj (n:Nat):rB n=oB n:=rfl
def rW (n:Nat):List Int:=oW n
theorem ahU (n:Nat):rW n=oW n:=rfl
theorem yH {n:Nat} (h:n<wy):nB (wd n 1) (wd n 0)=n:=by rw[PN,Nat.mod_eq_of_lt h]
theorem F7 {a b:Nat} (h:b<=a) (h2:a<=1000000):i64 ((a:Int)-(b:Int))=((a-b:Nat):Int):=by rw[xG (by omega) (by omega)];omega
theorem PW (x:Nat) {k:Nat} (hx:x<wy) (hk:k<=128):JU [wd x 1,wd x 0,(k:Int)]=oB (x%2^k):=by rw[ahR _ _ _ (by rw[yz (by omega)];omega) (by rw[yz (by omega)];omega),yz (by omega),Ah,yH hx]
theorem JJ (x:Nat) {k:Nat} (hx:x<wy) (hk:k<=1000) (h:x*2^k<wy):BO [wd x 1,wd x 0,(k:Int)]=oB (x*2^k):=by rw[W9,yz (by omega),Ah,yH hx,Nat.mod_eq_of_lt h]
theorem aqS (x:Nat) {k:Nat} (hx:x<wy) (hk:k<=1000):JR [wd x 1,wd x 0,(k:Int)]=oB (x/2^k):=by rw[ahK,yz (by omega),Ah,yH hx]
theorem Lg (x y:Nat) (h:x+y<wy):Eb [wd x 1,wd x 0,wd y 1,wd y 0] = [wd (x+y) 1,wd (x+y) 0,0]:=by rw[ahM,yH (by omega),yH (by omega),decide_eq_false (by omega)];rfl
theorem F8:wd 1 1=0/\wd 1 0=1:=by decide
theorem Xm (i:Nat):wd 0 i=0:=DK i
theorem Lh (f n e c d:Int):Rc [f,n,e,c,d]=oB (if fN f<4 then Fb (fN f) (ww n) (i64 e) (nB c d) else 0):=by
 refine Eq.trans ?_ (Nj _);rw[Rc,ady];have hW:=Lf (fN f);have hP:=ze (fN f);refine(vX (by simp only[vS,avM];exact Ux _) (by rfl)).trans ?_;simp only[wz];rw[xg];simp only[vS,hW,beq_iff_eq];by_cases hf:¬ fN f<4
 ·have:FP.fW (fN f)=0:=by obtain⟨m,hm⟩:∃ m,fN f=m+4:=⟨fN f-4,by omega⟩;rw[hm];rfl
  rw[if_pos (by rw[this];rfl),wu rfl,if_neg hf];rfl
 have hf:=Classical.not_not.1 hf;obtain⟨h1,h2,h3,h4,h5,_,_,h8⟩:=ab3 hf;rw[if_neg (by omega),if_pos hf];have eW:i64 ((FP.fW (fN f):Int)-(FP.fP (fN f):Int))=((FP.fW (fN f)-FP.fP (fN f):Nat):Int):=F7 (by omega) (by omega);have eP:i64 ((FP.fP (fN f):Int)-1)=((FP.fP (fN f)-1:Nat):Int):=F7 (b:=1) (by omega) (by omega);have eS:i64 ((FP.fW (fN f):Int)-1)=((FP.fW (fN f)-1:Nat):Int):=F7 (b:=1) (by omega) (by omega);obtain⟨z,hz,ez,hc,hd⟩:=Ex c d
 have field:∃ ex:Nat,ex<wy/\(if i64 e<0\/i64 e>1048576 then 0 else(i64 e).toNat)=ex/\((i64 e<0\/i64 e>1048576)->ex=0)/\(¬ (i64 e<0\/i64 e>1048576)->u64 (i64 e)=wd ex 0/\wd ex 1=0):=by
  by_cases h:i64 e<0\/i64 e>1048576
  ·exact⟨0,Ih,if_pos h,λ_=>rfl,λh2=>absurd h h2⟩
  ·have hlt:(i64 e).toNat<vZ:=by rw[CW];omega
   have hi:(i64 e)=(((i64 e).toNat:Nat):Int):=by omega
   refine⟨(i64 e).toNat,by rw[PM];omega,if_neg h,λh2=>absurd h2 h,λ_=>⟨?_,?_⟩⟩
   ·conv=>lhs;rw[hi]
    rw[Hd _ hlt,zz,Nat.pow_zero,Nat.div_one,Nat.mod_eq_of_lt hlt]
   ·exact Tq (m:=1) 1 (by rw[Nat.pow_one];exact hlt) (by decide)
 obtain⟨ex,hex,hex1,hex2,hex3⟩:=field;unfold Fb;rw[hex1,ez];have hcode:=aqR (e:=ex) (frac:=z) hf;have hpw:=PV (show FP.fW (fN f)-1<=128 by omega);have hpw2:=PV (show FP.fW (fN f)<=128 by omega);have hq:=Xj ex (show FP.fW (fN f)-FP.fP (fN f)<=128 by omega);have hr:=Xj z (show FP.fP (fN f)-1<=128 by omega);have hmk:=FP.aDS (c:=ex%2^(FP.fW (fN f)-FP.fP (fN f))*2^(FP.fP (fN f)-1)+z%2^(FP.fP (fN f)-1)) hf (ww n) hcode
 have e1:1*2^(FP.fW (fN f)-1)<wy:=by rw[Nat.one_mul,Bl];exact Nat.pow_lt_pow_right (by decide) (by omega)
 have first:∀ (x y:X) (L:List Int),L = [f,n,e,c,d,(FP.fW (fN f):Int),(FP.fP (fN f):Int),(FP.fE (fN f):Int)]->X.ev L x=wd ex 1->X.ev L y=wd ex 0 ->
   wD E2 27 (List.map (X.ev L) [x,y,.bin .sub .i64 (.var kI 5) (.var kI 6)])=oB (ex%2^(FP.fW (fN f)-FP.fP (fN f))):=by
  intro x y L hL hx hy;simp only[List.map_cons,List.map_nil,hx,hy];rw[UM,hL];simp only[vS,hW,hP,eW];exact PW _ hex (by omega)
 rw[xg];simp only[Aw,EA,Ez,Av,wP,xM,wV,wW,xQ,xR,xA,xC,decide_eq_true_iff];by_cases hlt:i64 e<0
 ·rw[if_pos hlt];refine(vX (first _ _ _ rfl (by rw[hex2 (.inl hlt),Xm];rfl) (by rw[hex2 (.inl hlt),Xm];rfl)) rfl).trans ?_;refine(vX (by simp only[vS,Rk,hP,eP];exact JJ _ hq (by omega) (by omega) ) (by rfl)).trans ?_;refine(vX (by simp only[vS,UM,hc,hd,hP,eP];exact PW _ hz (by omega) ) (by rfl)).trans ?_;refine(vX (by simp only[vS,Rl];exact Lg _ _ (by omega)) (by rfl)).trans ?_;rw[xg];simp only[vS];unfold FP.mk;unfold FP.mk at hmk
  cases hn:ww n with
  | true =>
   rw[hn] at hmk;rw[if_pos rfl]
   have l1:BO [0,1,((FP.fW (fN f)-1:Nat):Int)]=oB (1*2^(FP.fW (fN f)-1)):=by have:=JJ 1 (k:=FP.fW (fN f)-1) (by decide) (by omega) e1;rw[F8.1,F8.2] at this;exact this
   refine(vX (by simp only[vS,Rk,hW,eS];exact l1) (by rfl)).trans ?_;refine(vX (by simp only[vS,Rl];exact Lg _ _ (by rw[show Bool.toNat true=1 from rfl] at hmk;omega)) (by rfl)).trans ?_;rw[wu rfl];simp only[vS];rfl
  | false =>
   rw[if_neg (by decide),wu rfl];simp only[vS];rw[show Bool.toNat false=0 from rfl,Nat.zero_mul,Nat.add_zero];rfl
 rw[if_neg hlt,xg];simp only[Aw,WX,Ez,Av,wP,xM,wV,wW,xQ,xR,xA,xC,decide_eq_true_iff];by_cases hgt:i64 e>1048576
 ·rw[if_pos hgt];refine(vX (first _ _ _ rfl (by rw[hex2 (.inr hgt),Xm];rfl) (by rw[hex2 (.inr hgt),Xm];rfl)) rfl).trans ?_;refine(vX (by simp only[vS,Rk,hP,eP];exact JJ _ hq (by omega) (by omega) ) (by rfl)).trans ?_;refine(vX (by simp only[vS,UM,hc,hd,hP,eP];exact PW _ hz (by omega) ) (by rfl)).trans ?_;refine(vX (by simp only[vS,Rl];exact Lg _ _ (by omega)) (by rfl)).trans ?_;rw[xg];simp only[vS];unfold FP.mk;unfold FP.mk at hmk
  cases hn:ww n with
  | true =>
   rw[hn] at hmk;rw[if_pos rfl]
   have l1:BO [0,1,((FP.fW (fN f)-1:Nat):Int)]=oB (1*2^(FP.fW (fN f)-1)):=by have:=JJ 1 (k:=FP.fW (fN f)-1) (by decide) (by omega) e1;rw[F8.1,F8.2] at this;exact this
   refine(vX (by simp only[vS,Rk,hW,eS];exact l1) (by rfl)).trans ?_;refine(vX (by simp only[vS,Rl];exact Lg _ _ (by rw[show Bool.toNat true=1 from rfl] at hmk;omega)) (by rfl)).trans ?_;rw[wu rfl];simp only[vS];rfl
  | false =>
   rw[if_neg (by decide),wu rfl];simp only[vS];rw[show Bool.toNat false=0 from rfl,Nat.zero_mul,Nat.add_zero];rfl
 ·rw[if_neg hgt];obtain⟨f1,f2⟩:=hex3 (by omega);refine(vX (first _ _ _ rfl (by rw[f2];rfl) (by simp only[vS];exact f1)) rfl).trans ?_;refine(vX (by simp only[vS,Rk,hP,eP];exact JJ _ hq (by omega) (by omega) ) (by rfl)).trans ?_;refine(vX (by simp only[vS,UM,hc,hd,hP,eP];exact PW _ hz (by omega) ) (by rfl)).trans ?_;refine(vX (by simp only[vS,Rl];exact Lg _ _ (by omega)) (by rfl)).trans ?_;rw[xg];simp only[vS];unfold FP.mk;unfold FP.mk at hmk
  cases hn:ww n with
  | true =>
   rw[hn] at hmk;rw[if_pos rfl]
   have l1:BO [0,1,((FP.fW (fN f)-1:Nat):Int)]=oB (1*2^(FP.fW (fN f)-1)):=by have:=JJ 1 (k:=FP.fW (fN f)-1) (by decide) (by omega) e1;rw[F8.1,F8.2] at this;exact this
   refine(vX (by simp only[vS,Rk,hW,eS];exact l1) (by rfl)).trans ?_;refine(vX (by simp only[vS,Rl];exact Lg _ _ (by rw[show Bool.toNat true=1 from rfl] at hmk;omega)) (by rfl)).trans ?_;rw[wu rfl];simp only[vS];rfl
  | false =>
   rw[if_neg (by decide),wu rfl];simp only[vS];rw[show Bool.toNat false=0 from rfl,Nat.zero_mul,Nat.add_zero];rfl
theorem ahV (f e:Int):Rf [f,e] = [wh (decide (fN f<4)&&decide ((FP.fE (fN f):Int)<i64 e))]:=by
 rw[Rf,adz,xg];simp only[vS,decide_eq_true_iff];have h:=Ew f;by_cases hf:u8 f<4
 ·rw[if_pos hf,decide_eq_true (show fN f<4 by unfold fN;omega),Bool.true_and];refine(vX (by simp only[vS,avN];exact Ni _) (by rfl)).trans ?_;rw[wu rfl];simp only[vS,wz,AU,gt_iff_lt]
 ·rw[if_neg hf,decide_eq_false (show ¬ fN f<4 by unfold fN;omega),Bool.false_and,wu rfl];rfl
theorem Ai {n:Nat} (h:n<wG):nW (wd n 0) (wd n 1) (wd n 2) (wd n 3)=n:=by rw[IA,Nat.mod_eq_of_lt h]
theorem or1 (x:Nat):wJ .or .u64 (wd x 0) 1=wd (x/2*2+1) 0:=by
 rw[zz,zz,show(1:Int)=((1:Nat):Int) from rfl,WV _ _ (Nat.mod_lt _ zu) (by decide)];congr 1;rw[Nat.pow_zero,Nat.div_one,Nat.div_one]
 have h:∀ y:Nat,y|||1=y/2*2+1:=by
  intro y;apply Nat.eq_of_testBit_eq;intro i;rw[Nat.testBit_or]
  cases i with
  | zero=>rw[Nat.testBit_zero,Nat.testBit_zero,Nat.testBit_zero,show(y/2*2+1)%2=1 by omega];simp
  | succ i=>rw[Nat.testBit_succ,Nat.testBit_succ,Nat.testBit_succ,show(y/2*2+1)/2=y/2 by omega];simp
 rw[h];rw[CW];omega
theorem ab4 (x i:Nat):wd (x/2*2+1) (i+1)=wd x (i+1):=by
 have e:(x/2*2+1)/vZ=x/vZ:=by rw[CW];omega
 have h:∀ y,wd y (i+1)=wd (y/vZ) i:=λy=>by rw[zz,zz,Nat.pow_succ,Nat.mul_comm,Nat.div_div_eq_div_mul]
 rw[h,h,e]
theorem Li {a k:Nat} (h:a<wG):FP.jam a k<wG:=by
 unfold FP.jam;have h1:=Nat.div_le_self a (2^k);have h2:wG%2=0:=by decide
 split
 ·omega
 ·generalize a/2^k=y at *;generalize wG=W at *;omega
theorem ab5 (a b c d x:Int):Fs [a,b,c,d,x]=oW (FP.jam (nW a b c d) (i64 x).toNat):=by
 refine Eq.trans ?_ (ahU _);have hn:=Ld a b c d;have hd:nW a b c d/2^(i64 x).toNat<wG:=Nat.lt_of_le_of_lt (Nat.div_le_self _ _) hn;rw[Fs,adA];refine(vX (by simp only[vS,avO];exact Xc _ _ _ _ _) (by rfl)).trans ?_;rw[Fa,xD];refine(vX (by simp only[vS,aj0];exact ab2 _ _ _ _ _) (by rfl)).trans ?_;rw[Fa,xD,xg];simp only[vS];by_cases hz:nW a b c d%2^(i64 x).toNat=0
 ·rw[decide_eq_false (by simpa using hz),if_neg (by decide),wu rfl];simp only[vS];unfold FP.jam;rw[if_pos hz];rfl
 ·rw[decide_eq_true hz,if_pos rfl,wu rfl];simp only[vS,or1];unfold FP.jam;rw[if_neg hz];unfold rW oW;rw[ab4,ab4,ab4]
theorem aqU (a b c d k:Int) (h0:0<=i64 k) (h1:i64 k<=127):Rj [a,b,c,d,k] = [((FP.aeW (nW a b c d) (2^(256-(i64 k).toNat)):Nat):Int)]:=by
 obtain⟨n,hn,e,w0,w1,w2,w3⟩:=Na a b c d;obtain⟨m,hm⟩:∃ m:Nat,i64 k=(m:Int):=⟨(i64 k).toNat,by omega⟩;rw[Rj,adB,xg];simp only[vS,decide_eq_true_iff];rw[if_neg (by omega),xg];simp only[vS,decide_eq_true_iff];rw[if_neg (by omega)];have e1:i64 (255-i64 k)=((255-m:Nat):Int):=by rw[hm,Cj (by omega) (by omega)];omega
 have e2:i64 ((255-m:Nat):Int)=((255-m:Nat):Int):=yz (by omega);refine(vX (by simp only[vS,aj0,e1];exact ab2 _ _ _ _ _ ) (by rfl)).trans ?_;rw[Fa,e,e2,Ah,wu rfl];simp only[vS,e1,Us,aqI,w2,w3,beq_iff_eq];have hm2:m<=127:=by omega
 have hsh:((255-m:Nat):Int)/64=(((255-m)/64:Nat):Int):=by simp
 rw[hsh,Xd n 2 ((255-m)%64) (Nat.mod_lt _ (by decide)),Xd n 3 ((255-m)%64) (Nat.mod_lt _ (by decide))]
 have hb:(if (((255-m)/64:Nat):Int)=2 then wh (n.testBit (64*2+(255-m)%64)) else wh (n.testBit (64*3+(255-m)%64)))=wh (n.testBit (255-m)):=by
  split
  ·congr 2;omega
  ·congr 2;omega
 rw[hb,wP];have hE:2^(256-(i64 k).toNat)=2^(255-m)*2:=by rw[hm,Ah,<- Nat.pow_succ];congr 1;omega
 rw[hE];obtain⟨r,_⟩:=FP.aCR (N:=n) (E:=2^(255-m)*2) (Nat.mul_pos (FP.two_pow_pos _) (by decide));rw[r,Nat.mul_comm (2^(255-m)) 2,Nat.mul_div_mul_left _ _ (by decide),Nat.mul_mod_mul_left];rw[Nat.testBit_eq_decide_div_mod_eq];rcases Nat.mod_two_eq_zero_or_one (n/2^(255-m)) with h2|h2
 ·rw[h2];by_cases hz:n%2^(255-m)=0
  ·simp[hz]
  ·have h2z:¬ 2*(n%2^(255-m))=0:=by omega
   rw[if_neg h2z];simp[hz]
 ·rw[h2];by_cases hz:n%2^(255-m)=0
  ·simp[hz]
  ·have h2z:¬ 2*(n%2^(255-m))=0:=by omega
   rw[if_neg h2z];simp[hz]
theorem ab6 (a b c d k m g:Int) (h0:0<=i64 k) (h1:i64 k<=127) (hm:u8 m<=4) :
  LV [a,b,c,d,k,m,g]=oB (FP.aex (u8 m).toNat (ww g) (nW a b c d) (2^(256-(i64 k).toNat))) ++ [wh (decide (nW a b c d%2^(256-(i64 k).toNat)≠0))]:=by
 have hn:=Ld a b c d;obtain⟨j,hj⟩:∃ j:Nat,i64 k=(j:Int):=⟨(i64 k).toNat,by omega⟩;have hr8:=Ew m;rw[LV,adJ,xg];simp only[Aw,EA,Ez,Av,wP,xM,wV,wW,xQ,xR,xA,xC,decide_eq_true_iff];rw[if_neg (by omega),xg];simp only[Aw,WX,Ez,Av,wP,xM,wV,wW,xQ,xR,xA,xC,decide_eq_true_iff];rw[if_neg (by omega),xg];simp only[Aw,Ey,PQ,Hf,Av,wP,xM,wV,wW,xQ,xR,xA,xC,Bool.not_eq_true',decide_eq_false_iff_not];rw[if_neg (by omega)];have e1:i64 (256-i64 k)=((256-j:Nat):Int):=by rw[hj,Cj (by omega) (by omega)];omega
 have e2:i64 ((256-j:Nat):Int)=((256-j:Nat):Int):=yz (by omega);rw[hj,Ah];have hj2:j<=127:=by omega
 generalize hN:nW a b c d=N at *
 have hq:N/2^(256-j)<wy:=by rw[Nat.div_lt_iff_lt_mul (FP.two_pow_pos _),Bl,<- Nat.pow_add];rw[FE] at hn;exact Nat.lt_of_lt_of_le hn (Nat.pow_le_pow_right (by decide) (by omega))
 have hq1:N/2^(256-j)+1<wy:=by
  have:N/2^(256-j)<2^127:=by rw[Nat.div_lt_iff_lt_mul (FP.two_pow_pos _),<- Nat.pow_add];rw[FE] at hn;exact Nat.lt_of_lt_of_le hn (Nat.pow_le_pow_right (by decide) (by omega))
  rw[PM];omega
 have hqW:N/2^(256-j)<wG:=Nat.lt_of_le_of_lt (Nat.div_le_self _ _) hn;refine(vX (r:=oW (N/2^(256-j))) ?_ rfl).trans ?_
 ·simp only[vS,av7,e1];rw[Xc,Fa,hN,e2,Ah];rfl
 refine(vX (r:=oB (N/2^(256-j))) ?_ rfl).trans ?_
 ·simp only[vS,av8];rw[ab0,Ai hqW];rfl
 refine(vX (r:=[((FP.aeW N (2^(256-j)):Nat):Int)]) ?_ rfl).trans ?_
 ·simp only[vS,av9];rw[aqU _ _ _ _ _ (by rw[xD,hj];omega) (by rw[xD,hj];omega),Fa,hN,xD,hj,Ah]
 have hrest:=FP.aDp N (2^(256-j));have hz:=FP.aDy N (2^(256-j));have u8r:u8 ((FP.aeW N (2^(256-j)):Nat):Int)=((FP.aeW N (2^(256-j)):Nat):Int):=F6 (by omega) (by omega);refine(vX (r:=[wh (FP.upN (u8 m).toNat (ww g) N (2^(256-j)))]) ?_ rfl).trans ?_
 ·simp only[vS,awc,JF,ahA,u8r];congr 2
  have hodd:(wJ .and .u64 (wd (N/2^(256-j)) 0) 1==1)=FP.aDP (N/2^(256-j)):=by rw[zz,and1 _ (Nat.mod_lt _ zu)];unfold FP.aDP;rw[Nat.pow_zero,Nat.div_one,CW];generalize N/2^(256-j)=y;rw[Bool.eq_iff_iff,beq_iff_eq,Nat.beq_eq];omega
  rw[hodd];unfold FP.upN;rcases Nat.eq_zero_or_pos (FP.aeW N (2^(256-j))) with h|h
  ·rw[h];rfl
  ·rw[ahP hr8.1 (by omega) (by omega),Ah]
   rw[show Nat.beq (FP.aeW N (2^(256-j))) 0=false by cases hb:Nat.beq (FP.aeW N (2^(256-j))) 0 with
    | false=>rfl
    | true=>have:=Nat.eq_of_beq_eq_true hb;omega]
   rfl
 rw[xg];simp only[zG,xM,wV,wW,xQ,xR,xA,xC,oW,oB,wP]
 have hne:((((FP.aeW N (2^(256-j)):Nat):Int) != 0):Bool)=decide (N%2^(256-j)≠0):=by rw[Bool.eq_iff_iff,bne_iff_ne,decide_eq_true_iff];omega
 unfold FP.aex
 cases hu:FP.upN (u8 m).toNat (ww g) N (2^(256-j)) with
 | true =>
  rw[if_pos rfl]
  have l1:Eb [wd (N/2^(256-j)) 1,wd (N/2^(256-j)) 0,0,1] = [wd (N/2^(256-j)+1) 1,wd (N/2^(256-j)+1) 0,0]:=by have:=Lg (N/2^(256-j)) 1 hq1;rw[F8.1,F8.2] at this;exact this
  refine(vX (by simp only[vS,awd];exact l1) (by rfl)).trans ?_;rw[wu rfl];simp only[vS,u8r,hne];rfl
 | false =>
  rw[if_neg (by decide),wu rfl];simp only[vS,u8r,hne];rfl
theorem aqV (f n:Int):Rn [f,n]=oB (if fN f<4 then FP.mk (fN f) (ww n) 0 else 0):=by refine Eq.trans ?_ (Nj _);rw[Rn,adD];refine(vX (by simp only[vS,LW];exact Lh _ _ _ _ _) (by rfl)).trans ?_;rw[wz,wu rfl];simp only[vS,show nB 0 0=0 by decide,show i64 0=0 by decide];unfold Fb;simp only[Nat.zero_mod,Nat.zero_mul,Nat.add_zero,Int.lt_irrefl,false_or,show ¬ ((0:Int)>1048576) by decide,if_false,Int.toNat_zero];rfl
theorem ahW {f:Nat} (h:f<4):(2*FP.fE f+1)%2^(FP.fW f-FP.fP f)=2*FP.fE f+1/\2*FP.fE f%2^(FP.fW f-FP.fP f)=2*FP.fE f:=by rcases FP.f4 h with rfl|rfl|rfl|rfl<;>decide
theorem Uz (e:Int) (h0:0<=e) (h1:e<=1000000):wJ .mul .i64 2 e=2*e:=by show IntKind.i64.wrap (2*e)=2*e;rw[Ha];exact xG (by omega) (by omega)
theorem ahX {f:Nat} (h:f<4) (neg:Bool) (frac:Nat):Fb f neg ((2*FP.fE f+1:Nat):Int) frac=FP.mk f neg (FP.inf f+frac%2^(FP.fP f-1)):=by have hl:=Ng f;unfold Fb;rw[if_neg (by omega),Ah,(ahW h).1];rfl
theorem Nk {f:Nat} (h:f<4):2^(FP.fP f-1)<=FP.inf f/\FP.inf f+2^(FP.fP f-2)<2^(FP.fW f-1)/\2^(FP.fP f-2)<2^(FP.fP f-1)/\2^(FP.fP f-1)=2*2^(FP.fP f-2):=by rcases FP.f4 h with rfl|rfl|rfl|rfl<;>decide
theorem aqW {f:Nat} (h:f<4):FP.inf f<2^(FP.fW f-1):=by have:=Nk h;omega
theorem Xn (f n:Int):Gm [f,n]=oB (if fN f<4 then FP.mk (fN f) (ww n) (FP.inf (fN f)) else 0):=by
 refine Eq.trans ?_ (Nj _);have hl:=Ng (fN f);rw[Gm,adE];refine(vX (by simp only[vS,adK];exact Ni _) (by rfl)).trans ?_;rw[wz];have e1:i64 (wJ .mul .i64 2 (FP.fE (fN f):Int)+1)=((2*FP.fE (fN f)+1:Nat):Int):=by rw[Uz _ (by omega) (by omega),xG (by omega) (by omega)];omega
 refine(vX (by simp only[vS,LW,AU,e1];exact Lh _ _ _ _ _ ) (by rfl)).trans ?_;rw[wz,wu rfl,yz (by omega)];simp only[vS,show nB 0 0=0 by decide];by_cases hf:fN f<4
 ·rw[if_pos hf,if_pos hf,ahX hf,Nat.zero_mod,Nat.add_zero];rfl
 ·rw[if_neg hf,if_neg hf];rfl
theorem aqX (f n:Int):Rq [f,n]=oB (if fN f<4 then FP.mk (fN f) (ww n) (FP.inf (fN f)-1) else 0):=by
 refine Eq.trans ?_ (Nj _);have hl:=Ng (fN f);rw[Rq,adF];refine(vX (by simp only[vS,adK];exact Ni _) (by rfl)).trans ?_;rw[wz];have e1:wJ .mul .i64 2 (FP.fE (fN f):Int)=((2*FP.fE (fN f):Nat):Int):=by rw[Uz _ (by omega) (by omega)];omega
 refine(vX (by simp only[vS,LW,AU,e1];exact Lh _ _ _ _ _ ) (by rfl)).trans ?_;rw[wz,wu rfl,yz (by omega)];simp only[vS];by_cases hf:fN f<4
 ·rw[if_pos hf,if_pos hf]
  have e:Fb (fN f) (ww n) ((2*FP.fE (fN f):Nat):Int) (nB 18446744073709551615 18446744073709551615)=FP.mk (fN f) (ww n) (FP.inf (fN f)-1):=by
   unfold Fb;rw[if_neg (by omega),Ah,(ahW hf).2];unfold FP.inf FP.aCE
   have hall:nB 18446744073709551615 18446744073709551615%2^(FP.fP (fN f)-1)=2^(FP.fP (fN f)-1)-1:=by rcases FP.f4 hf with h|h|h|h<;>rw[h]<;>decide
   rw[hall,Nat.add_mul,Nat.one_mul];have:=FP.two_pow_pos (FP.fP (fN f)-1);congr 1;omega
  rw[e];rfl
 ·rw[if_neg hf,if_neg hf];rfl
theorem ahY (f a b:Int):JY [f,a,b]=(if fN f<4 then [wh (FP.sgn (fN f) (nB a b)),((FP.cod (fN f) (nB a b)/2^(FP.fP (fN f)-1):Nat):Int)]++oB (FP.cod (fN f) (nB a b)%2^(FP.fP (fN f)-1)) else [0,0,0,0]):=by
 rw[JY,adG];have hW:=Lf (fN f);have hP:=ze (fN f);refine(vX (by simp only[vS,av4];exact Ux _) (by rfl)).trans ?_;rw[wz,xg];simp only[vS,hW,beq_iff_eq];by_cases hf:¬ fN f<4
 ·have:FP.fW (fN f)=0:=by obtain⟨m,hm⟩:∃ m,fN f=m+4:=⟨fN f-4,by omega⟩;rw[hm];rfl
  rw[if_pos (by rw[this];rfl),wu rfl,if_neg hf];rfl
 have hf:=Classical.not_not.1 hf;obtain⟨h1,h2,h3,h4,h5,_,_,h8⟩:=ab3 hf;rw[if_neg (by omega),if_pos hf];have eW:i64 ((FP.fW (fN f):Int)-(FP.fP (fN f):Int))=((FP.fW (fN f)-FP.fP (fN f):Nat):Int):=F7 (by omega) (by omega);have eP:i64 ((FP.fP (fN f):Int)-1)=((FP.fP (fN f)-1:Nat):Int):=F7 (b:=1) (by omega) (by omega);have eS:i64 ((FP.fW (fN f):Int)-1)=((FP.fW (fN f)-1:Nat):Int):=F7 (b:=1) (by omega) (by omega);obtain⟨z,hz,ez,hc,hd⟩:=Ex a b;have hcut:=Xj z (show FP.fW (fN f)<=128 by omega);rw[ez];refine(vX (r:=oB (z%2^FP.fW (fN f))) ?_ rfl).trans ?_
 ·simp only[vS,av5];rw[Xk,wX,ez,wz];rfl
 refine(vX (by simp only[vS,av6,hP,eP];exact aqS _ hcut (by omega) ) (by rfl)).trans ?_;have eS2:i64 ((FP.fW (fN f)-1:Nat):Int)=((FP.fW (fN f)-1:Nat):Int):=yz (by omega);refine(vX (r:=[wh (FP.sgn (fN f) z)]) ?_ rfl).trans ?_
 ·simp only[vS,aj1,hW,eS];rw[Xe,wX,ez,eS2,Tp];rfl
 have hq:z%2^FP.fW (fN f)/2^(FP.fP (fN f)-1)<wy:=Nat.lt_of_le_of_lt (Nat.div_le_self _ _) hcut;refine(vX (by simp only[vS,aj2,hW,hP,eW];exact PW _ hq (by omega) ) (by rfl)).trans ?_;refine(vX (by simp only[vS,aj2,hP,eP,hc,hd];exact PW _ hz (by omega) ) (by rfl)).trans ?_;rw[wu rfl];simp only[vS]
 have hcod:z%2^FP.fW (fN f)/2^(FP.fP (fN f)-1)%2^(FP.fW (fN f)-FP.fP (fN f))=FP.cod (fN f) z/2^(FP.fP (fN f)-1):=by
  unfold FP.cod;have e1:2^(FP.fW (fN f)-1)=2^(FP.fP (fN f)-1)*2^(FP.fW (fN f)-FP.fP (fN f)):=by rw[<- Nat.pow_add];congr 1;omega
  have e2:2^FP.fW (fN f)=2^(FP.fP (fN f)-1)*2^(FP.fW (fN f)-FP.fP (fN f))*2:=by rw[<- e1,<- Nat.pow_succ];congr 1;omega
  rw[e1,Nat.mod_mul_right_div_self,e2,Nat.mul_assoc,Nat.mod_mul_right_div_self,Nat.mod_mul_right_mod]
 have hfrac:z%2^(FP.fP (fN f)-1)=FP.cod (fN f) z%2^(FP.fP (fN f)-1):=by
  unfold FP.cod;have e1:2^(FP.fW (fN f)-1)=2^(FP.fP (fN f)-1)*2^(FP.fW (fN f)-FP.fP (fN f)):=by rw[<- Nat.pow_add];congr 1;omega
  rw[e1,Nat.mod_mul_right_mod]
 have hsm:z%2^FP.fW (fN f)/2^(FP.fP (fN f)-1)%2^(FP.fW (fN f)-FP.fP (fN f))<32768:=by refine Nat.lt_of_lt_of_le (Nat.mod_lt _ (FP.two_pow_pos _)) ?_;exact(show 2^(FP.fW (fN f)-FP.fP (fN f))<=2^15 from Nat.pow_le_pow_right (by decide) h8)
 have hw0:wd (z%2^FP.fW (fN f)/2^(FP.fP (fN f)-1)%2^(FP.fW (fN f)-FP.fP (fN f))) 0=((z%2^FP.fW (fN f)/2^(FP.fP (fN f)-1)%2^(FP.fW (fN f)-FP.fP (fN f)):Nat):Int):=by rw[zz,Nat.pow_zero,Nat.div_one,Nat.mod_eq_of_lt (by rw[CW];omega)]
 rw[hw0,yz (by omega),hcod,<- hfrac]
theorem Hg (f:Int):(u8 f<4)↔fN f<4:=by have:=Ew f;unfold fN;omega
theorem ahZ (f c:Nat):u8 (FP.aeV f c:Int)=FP.aeV f c:=F6 (by omega) (by have:=FP.aDj f c;omega)
theorem ah0 {c H K i:Nat} (hp0:0<K) (hH:H=2*K) (hcm:c=i+c%H) (hl:c%H<H):c%H/K%2=1↔i+K<=c:=by
 generalize c%H=r at *
 have h2:r/K<2:=by rw[Nat.div_lt_iff_lt_mul hp0];omega
 have h1:1<=r/K↔K<=r:=by rw[Nat.le_div_iff_mul_le hp0,Nat.one_mul]
 generalize r/K=y at *
 omega
theorem aqY (f a b:Int):NJ [f,a,b]=if fN f<4 then [((FP.cls (fN f) (nB a b):Nat):Int),wh (FP.sgn (fN f) (nB a b))] else [0,0]:=by
 rw[NJ,adL,xg];simp only[vS,Bool.not_eq_true',decide_eq_false_iff_not,Hg];by_cases hf:¬ fN f<4
 ·rw[if_pos hf,if_neg hf,wu rfl];rfl
 rw[if_neg hf];have hf:=Classical.not_not.1 hf;rw[if_pos hf];obtain⟨n1,n2,n3,n4,n5,n6,n7,n8,n9⟩:=FP.axv hf;have hcl:=FP.aCH (fN f) (nB a b);refine(vX (r:=[wh (FP.sgn (fN f) (nB a b)),((FP.cod (fN f) (nB a b)/2^(FP.fP (fN f)-1):Nat):Int)]++oB (FP.cod (fN f) (nB a b)%2^(FP.fP (fN f)-1))) ?_ rfl).trans ?_
 ·simp only[vS,awm];rw[ahY,wz,if_pos hf,wX];rfl
 unfold FP.cls;generalize FP.sgn (fN f) (nB a b)=s;generalize FP.cod (fN f) (nB a b)=c at *
 generalize hH:2^(FP.fP (fN f)-1)=H at *
 have hH0:0<H:=by rw[<- hH];exact FP.two_pow_pos _
 have hHW:H<=wy:=by rw[<- hH];exact PV (by omega)
 have hfr:c%H<wy:=Nat.lt_of_lt_of_le (Nat.mod_lt _ hH0) hHW;refine(vX (r:=[wh (decide (c%H=0))]) ?_ rfl).trans ?_
 ·simp only[vS,awn];rw[ahL,yH hfr]
 refine(vX (by simp only[vS,awo];exact Ni _) (by rfl)).trans ?_;rw[wz]
 have hc128:c/H<1000000:=by
  rw[Nat.div_lt_iff_lt_mul hH0];have e1:2^(FP.fW (fN f)-1)=2^(FP.fW (fN f)-FP.fP (fN f))*H:=by rw[<- hH,<- Nat.pow_add];congr 1;omega
  rw[e1] at hcl;refine Nat.lt_of_lt_of_le hcl (Nat.mul_le_mul_right _ ?_);rw[<- n9];omega
 have htop:2^(FP.fW (fN f)-1)=FP.inf (fN f)+H:=by rw[<- hH];exact FP.aC5 hf
 have hinf:FP.inf (fN f)=(2*FP.fE (fN f)+1)*H:=by rw[<- hH];rfl
 have hdm:=Nat.div_add_mod c H;have hml:=Nat.mod_lt c hH0;have e1:i64 ((c/H:Nat):Int)=((c/H:Nat):Int):=yz (by omega);have e2:i64 (wJ .mul .i64 2 (FP.fE (fN f):Int)+1)=((2*FP.fE (fN f)+1:Nat):Int):=by rw[Uz _ (by omega) (by omega),xG (by omega) (by omega)];omega
 rw[xg];simp only[vS,e1,beq_iff_eq];have cls0:c=0->FP.aeV (fN f) c=0:=λh=>by unfold FP.aeV;rw[if_pos h]
 have cls1:c≠0->c<H->FP.aeV (fN f) c=1:=λh h2=>by unfold FP.aeV;rw[if_neg h,hH,if_pos h2]
 have cls2:c≠0->¬ c<H->c<FP.inf (fN f)->FP.aeV (fN f) c=2:=λh h2 h3=>by unfold FP.aeV;rw[if_neg h,hH,if_neg h2,if_pos h3]
 have cls3:c≠0->¬ c<H->c=FP.inf (fN f)->FP.aeV (fN f) c=3:=λh h2 h3=>by unfold FP.aeV;rw[if_neg h,hH,if_neg h2,if_neg (by omega),if_pos h3]
 have cls45:c≠0->¬ c<H->¬ c<FP.inf (fN f)->c≠FP.inf (fN f)->FP.aeV (fN f) c=if FP.inf (fN f)+2^(FP.fP (fN f)-2)<=c then 4 else 5:=λh h2 h3 h4=>by unfold FP.aeV;rw[if_neg h,hH,if_neg h2,if_neg h3,if_neg h4]
 by_cases hz:c/H=0
 ·rw[if_pos (by omega),xg];simp only[vS,decide_eq_true_iff];have hlt:c<H:=(Nat.div_eq_zero_iff_lt hH0).1 hz;have hcm:c%H=c:=Nat.mod_eq_of_lt hlt;rw[hcm];by_cases h0:c=0
  ·rw[if_pos h0];rw[wu rfl,show FP.aeV (fN f) c=0 from cls0 h0];(simp only[vS])<;>rfl
  ·rw[if_neg h0];rw[wu rfl,show FP.aeV (fN f) c=1 from cls1 h0 hlt];(simp only[vS])<;>rfl
 ·have hge:¬ c<H:=λh=>hz (Nat.div_eq_of_lt h)
  have h0:c≠0:=by omega
  rw[if_neg (by omega),xg];simp only[vS,e1,AU,e2,decide_eq_true_iff]
  have hcmp:(((c/H:Nat):Int)<((2*FP.fE (fN f)+1:Nat):Int))↔c<FP.inf (fN f):=by rw[hinf,<- Nat.div_lt_iff_lt_mul hH0];omega
  by_cases h1:c<FP.inf (fN f)
  ·rw[if_pos (hcmp.2 h1)];rw[wu rfl,show FP.aeV (fN f) c=2 from cls2 h0 hge h1];(simp only[vS])<;>rfl
  ·rw[if_neg (λh=>h1 (hcmp.1 h)),xg];simp only[vS,decide_eq_true_iff]
   have hq:c/H=2*FP.fE (fN f)+1:=by
    apply Nat.le_antisymm
    ·have:c/H<2*FP.fE (fN f)+2:=by rw[Nat.div_lt_iff_lt_mul hH0,show(2*FP.fE (fN f)+2)*H=FP.inf (fN f)+H by rw[hinf,<- Nat.succ_mul],<- htop];exact hcl
     omega
    ·rw[Nat.le_div_iff_mul_le hH0,<- hinf];omega
   have hcm:c=FP.inf (fN f)+c%H:=by rw[hinf,<- hq,Nat.mul_comm];exact hdm.symm
   by_cases h2:c%H=0
   ·rw[if_pos h2];rw[wu rfl,show FP.aeV (fN f) c=3 from cls3 h0 hge (by omega)];(simp only[vS])<;>rfl
   ·rw[if_neg h2];have c45:=cls45 h0 hge h1 (by omega);refine(vX (by simp only[vS,awp];exact PT _) (by rfl)).trans ?_;rw[wz];have eP:i64 ((FP.fP (fN f):Int)-2)=((FP.fP (fN f)-2:Nat):Int):=F7 (b:=2) (by omega) (by omega);have hHH:H=2*2^(FP.fP (fN f)-2):=by rw[<- hH,<- Nat.pow_succ'];congr 1;omega
    have hbit:(c%H).testBit (FP.fP (fN f)-2)=decide (FP.inf (fN f)+2^(FP.fP (fN f)-2)<=c):=by rw[Nat.testBit_eq_decide_div_mod_eq,decide_eq_decide];have hp0:=FP.two_pow_pos (FP.fP (fN f)-2);exact ah0 hp0 hHH hcm (Nat.mod_lt c hH0)
    refine(vX (r:=[wh (decide (FP.inf (fN f)+2^(FP.fP (fN f)-2)<=c))]) ?_ rfl).trans ?_
    ·simp only[vS,awq,ze,eP];rw[Xe,yH hfr,yz (by omega),Tp,hbit]
    rw[xg];simp only[vS,decide_eq_true_iff];by_cases h3:FP.inf (fN f)+2^(FP.fP (fN f)-2)<=c
    ·rw[if_pos h3];rw[wu rfl,show FP.aeV (fN f) c=4 by rw[c45,if_pos h3]];(simp only[vS])<;>rfl
    ·rw[if_neg h3];rw[wu rfl,show FP.aeV (fN f) c=5 by rw[c45,if_neg h3]];(simp only[vS])<;>rfl
def vT (f b:Nat):Nat:=if f<4 then FP.cls f b else 0
def DX (f b:Nat):Bool:=decide (f<4)&&FP.sgn f b
def UA (f b:Nat):Nat:=if f<4 then FP.cod f b else 0
theorem Xo (f a b:Int):NJ [f,a,b] = [((vT (fN f) (nB a b):Nat):Int),wh (DX (fN f) (nB a b))]:=by
 rw[aqY];unfold vT DX;by_cases hf:fN f<4
 ·rw[if_pos hf,if_pos hf,decide_eq_true hf,Bool.true_and]
 ·rw[if_neg hf,if_neg hf,decide_eq_false hf];rfl
theorem aqZ (f a b:Int):JY [f,a,b] = [wh (DX (fN f) (nB a b)),((UA (fN f) (nB a b)/2^(FP.fP (fN f)-1):Nat):Int)]++oB (UA (fN f) (nB a b)%2^(FP.fP (fN f)-1)):=by
 rw[ahY];unfold UA DX;by_cases hf:fN f<4
 ·rw[if_pos hf,if_pos hf,decide_eq_true hf,Bool.true_and]
 ·rw[if_neg hf,if_neg hf,decide_eq_false hf,Nat.zero_div,Nat.zero_mod];rfl
theorem F9 (f b:Nat):u8 (vT f b:Int)=vT f b:=by
  unfold vT;split
  · exact ahZ _ _
  · rfl
theorem JK (f a b:Int):CX [f,a,b] = [wh (decide (4<=vT (fN f) (nB a b)))]:=by rw[CX,adN];refine(vX (by simp only[vS,X7];exact Xo _ _ _) (by rfl)).trans ?_;rw[wz,wX,wu rfl];simp only[vS,F9];congr 2;rw[decide_eq_decide];omega
theorem Nl (f a b:Int):Ee [f,a,b] = [wh (decide (vT (fN f) (nB a b)=5))]:=by rw[Ee,adR];refine(vX (by simp only[vS,X7];exact Xo _ _ _) (by rfl)).trans ?_;rw[wz,wX,wu rfl];simp only[vS,F9];congr 2;rw[Bool.eq_iff_iff,beq_iff_eq,decide_eq_true_iff];omega
theorem aq0 (f a b:Int):RH [f,a,b] = [wh (decide (fN f<4)&&decide (vT (fN f) (nB a b)<3))]:=by
 rw[RH,adO];refine(vX (by simp only[vS,X7];exact Xo _ _ _) (by rfl)).trans ?_;rw[wz,wX,xg];simp only[vS,decide_eq_true_iff,Hg];by_cases hf:fN f<4
 ·rw[if_pos hf,wu rfl];simp only[vS,F9,decide_eq_true hf,Bool.true_and];congr 2;rw[decide_eq_decide];omega
 ·rw[if_neg hf,wu rfl,decide_eq_false hf];rfl
theorem aq1 {f c:Nat} (hf:f<4) (hcl:c<2^(FP.fW f-1)):c/2^(FP.fP f-1)<2^(FP.fW f-FP.fP f)/\c/2^(FP.fP f-1)<1000000:=by
 obtain⟨n1,n2,n3,n4,n5,n6,n7,n8,n9⟩:=FP.axv hf
 have hq:c/2^(FP.fP f-1)<2^(FP.fW f-FP.fP f):=by rw[Nat.div_lt_iff_lt_mul (FP.two_pow_pos _),<- Nat.pow_add,show FP.fW f-FP.fP f+(FP.fP f-1)=FP.fW f-1 by omega];exact hcl
 refine⟨hq,?_⟩;rw[<- n9] at hq;generalize c/2^(FP.fP f-1)=q at *
 omega
theorem aq2 (n:Nat):len n=FP.aCy n:=rfl
theorem ah1 (k n:Nat) (h:n≠0):Cz k n=k-FP.aCy n:=by unfold Cz;rw[if_neg h,aq2]
theorem ah2 (f:Int):IR [f]=oB (if fN f<4 then FP.mk (fN f) false (FP.inf (fN f)+2^(FP.fP (fN f)-2)) else 0):=by
 refine Eq.trans ?_ (Nj _);have hl:=Ng (fN f);rw[IR,adI];refine(vX (by simp only[vS,adK];exact Ni _) (by rfl)).trans ?_;refine(vX (by simp only[vS,aj3];exact PT _) (by rfl)).trans ?_;rw[wz];by_cases hf:fN f<4
 ·obtain⟨n1,n2,n3,n4,n5,n6,n7,n8,n9⟩:=FP.axv hf;have eP:i64 ((FP.fP (fN f):Int)-2)=((FP.fP (fN f)-2:Nat):Int):=F7 (b:=2) (by omega) (by omega)
  have hK:1*2^(FP.fP (fN f)-2)<wy:=by rw[Nat.one_mul,Bl];exact Nat.pow_lt_pow_right (by decide) (by omega)
  have l1:BO [0,1,((FP.fP (fN f)-2:Nat):Int)]=oB (1*2^(FP.fP (fN f)-2)):=by have:=JJ 1 (k:=FP.fP (fN f)-2) (by decide) (by omega) hK;rw[F8.1,F8.2] at this;exact this
  refine(vX (by simp only[vS,aj4,ze,eP];exact l1) (by rfl)).trans ?_;have e1:i64 (wJ .mul .i64 2 (FP.fE (fN f):Int)+1)=((2*FP.fE (fN f)+1:Nat):Int):=by rw[Uz _ (by omega) (by omega),xG (by omega) (by omega)];omega
  refine(vX (r:=oB (FP.mk (fN f) false (FP.inf (fN f)+2^(FP.fP (fN f)-2)))) ?_ rfl).trans ?_
  ·simp only[vS,LW,AU,e1];rw[Lh,wz,if_pos hf,yH hK,yz (by omega),show ww 0=false from rfl,ahX hf,Nat.one_mul,Nat.mod_eq_of_lt (Nk hf).2.2.1,wS]
  rw[wu rfl];simp only[vS,if_pos hf];rfl
 ·rw[if_neg hf];refine(vX (by simp only[vS,aj4];exact W9 _ _ _) (by rfl)).trans ?_;refine(vX (by simp only[vS,LW];exact Lh _ _ _ _ _) (by rfl)).trans ?_;rw[wz,if_neg hf,wu rfl];rfl
theorem aq3 (f m n:Int) (hf:fN f<4) (hm:u8 m<=4):NK [f,m,n]=oB (FP.mk (fN f) (ww n) (FP.aCQ (FP.fP (fN f)) (FP.fE (fN f)) (u8 m).toNat (ww n))) ++ [20]:=by
 have hf2:=(Hg f).2 hf;rw[NK,adM,xg];simp only[Aw,Ey,EA,Hf,Av,wP,xM,wV,wW,xQ,xR,xA,xC,Bool.not_eq_true',decide_eq_false_iff_not];rw[if_neg (by omega),xg];simp only[Aw,Ey,PQ,Hf,Av,wP,xM,wV,wW,xQ,xR,xA,xC,Bool.not_eq_true',decide_eq_false_iff_not];rw[if_neg (by omega)];refine(vX (by simp only[vS,awr];exact aqM _ _) (by rfl)).trans ?_;rw[Ak,wP,xg];simp only[vS];unfold FP.aCQ
 cases hi:FP.aCK (u8 m).toNat (ww n) true 3 with
 | true =>
  rw[if_pos rfl,if_pos rfl];refine(vX (by simp only[vS,aws];exact Xn _ _) (by rfl)).trans ?_;rw[wz,if_pos hf,wP,wu rfl];simp only[vS];rfl
 | false =>
  rw[if_neg (by decide),if_neg (by decide)];refine(vX (by simp only[vS,awt];exact aqX _ _) (by rfl)).trans ?_;rw[wz,if_pos hf,wP,wu rfl];simp only[vS];rfl
theorem Xp (f n e c d:Int) (hf:fN f<4):IQ [f,n,e,c,d]=oB (Fb (fN f) (ww n) (if i64 e=0/\(nB c d).testBit (FP.fP (fN f)-1)=true then 1 else i64 e) (nB c d)):=by
 refine Eq.trans ?_ (Nj _);obtain⟨n1,n2,n3,n4,n5,n6,n7,n8,n9⟩:=FP.axv hf;have eP:i64 ((FP.fP (fN f):Int)-1)=((FP.fP (fN f)-1:Nat):Int):=F7 (b:=1) (by omega) (by omega);rw[IQ,adH,xg];simp only[Aw,Le,Ez,Av,wP,xM,wV,wW,xQ,xR,xA,xC,beq_iff_eq];by_cases he:i64 e=0
 ·rw[if_pos he];refine(vX (by simp only[vS,aj3];exact PT _) (by rfl)).trans ?_;rw[wz];refine(vX (r:=[wh ((nB c d).testBit (FP.fP (fN f)-1))]) ?_ rfl).trans ?_
  ·simp only[vS,aj1,ze,eP];rw[Xe,wX,yz (by omega),Tp]
  rw[xg];simp only[vS]
  cases hb:(nB c d).testBit (FP.fP (fN f)-1) with
  | true =>
   rw[if_pos rfl,if_pos ⟨he,rfl⟩];refine(vX (by simp only[vS,LW];exact Lh _ _ _ _ _) (by rfl)).trans ?_;rw[wz,if_pos hf,wX,wP,show i64 1=1 by decide,wu rfl];simp only[vS];rfl
  | false =>
   rw[if_neg (by decide),if_neg (by simp)];refine(vX (by simp only[vS,LW];exact Lh _ _ _ _ _) (by rfl)).trans ?_;rw[wz,if_pos hf,wX,wP,xD,wu rfl];simp only[vS];rfl
 ·rw[if_neg he,if_neg (λh=>he h.1)];refine(vX (by simp only[vS,LW];exact Lh _ _ _ _ _) (by rfl)).trans ?_;rw[wz,if_pos hf,wX,wP,xD,wu rfl];simp only[vS];rfl
def zL (f b:Nat):Int:=if vT f b=1\/vT f b=2 then FP.alc f (FP.cod f b) else 0
def AX (f b:Nat):Nat:=if vT f b=1\/vT f b=2 then FP.afn f (FP.cod f b) else 0
theorem ah3 {f c:Nat} (hf:f<4):(FP.aeV f c=1↔0<c/\c<2^(FP.fP f-1))/\(FP.aeV f c=2↔¬ c<2^(FP.fP f-1)/\c<FP.inf f):=by
 have h:=(Nk hf).1;have hp:=FP.two_pow_pos (FP.fP f-1);unfold FP.aeV;by_cases h0:c=0
 ·rw[if_pos h0];omega
 rw[if_neg h0];by_cases h1:c<2^(FP.fP f-1)
 ·rw[if_pos h1];omega
 rw[if_neg h1];by_cases h2:c<FP.inf f
 ·rw[if_pos h2];omega
 rw[if_neg h2];by_cases h3:c=FP.inf f
 ·rw[if_pos h3];omega
 rw[if_neg h3];split<;>omega
theorem JL (f b:Nat):AX f b<wy:=by
 unfold AX;split
 ·rename_i h
  have hf:f<4:=by apply Classical.byContradiction;intro hf;unfold vT at h;rw[if_neg hf] at h;omega
  unfold vT at h;rw[if_pos hf] at h;obtain⟨c1,c2⟩:=ah3 (c:=FP.cod f b) hf;have hin:=(Nk hf).1;have hp:=FP.two_pow_pos (FP.fP f-1)
  have hb:0<FP.cod f b/\FP.cod f b<FP.inf f:=by
   rcases h with h|h
   ·have:=c1.1 h;omega
   ·have:=c2.1 h;omega
  rw[Bl];exact(FP.aDb hf hb.1 hb.2).2
 ·exact Ih
theorem Nn (f a b:Int):Fu [f,a,b] = [wh (DX (fN f) (nB a b)),((vT (fN f) (nB a b):Nat):Int),zL (fN f) (nB a b)]++oB (AX (fN f) (nB a b)):=by
 rw[Fu,adP];refine(vX (by simp only[vS,X7];exact Xo _ _ _) (by rfl)).trans ?_;rw[wz,wX];refine(vX (by simp only[vS,aka];exact PT _) (by rfl)).trans ?_;refine(vX (by simp only[vS,akb];exact Ni _) (by rfl)).trans ?_;rw[wz];refine(vX (by simp only[vS,awG];exact aqZ _ _ _) (by rfl)).trans ?_;rw[wz,wX,xg];simp only[vS,F9,beq_iff_eq];by_cases hf:¬ fN f<4
 ·have h0:vT (fN f) (nB a b)=0:=by unfold vT;rw[if_neg hf]
  rw[h0,if_neg (by decide),xg];simp only[vS,beq_iff_eq,show u8 ((0:Nat):Int)=0 by decide];rw[if_neg (by decide),wu rfl];unfold zL AX;rw[h0,if_neg (by decide),if_neg (by decide)];simp only[vS];rfl
 have hf:=Classical.not_not.1 hf;obtain⟨n1,n2,n3,n4,n5,n6,n7,n8,n9⟩:=FP.axv hf;have hS:UA (fN f) (nB a b)=FP.cod (fN f) (nB a b):=by unfold UA;rw[if_pos hf]
 have hC:vT (fN f) (nB a b)=FP.aeV (fN f) (FP.cod (fN f) (nB a b)):=by unfold vT FP.cls;rw[if_pos hf]
 have hcl:=FP.aCH (fN f) (nB a b);unfold zL AX;rw[hS,hC];generalize FP.cod (fN f) (nB a b)=c at *
 obtain⟨c1,c2⟩:=ah3 (c:=c) hf;have hk5:=FP.aDj (fN f) c;have hin:=(Nk hf).1;have hp0:=FP.two_pow_pos (FP.fP (fN f)-1);have hfr:c%2^(FP.fP (fN f)-1)<wy:=Xj _ (by omega);have hq2:=(aq1 hf hcl).2;have e0:u8 ((FP.aeV (fN f) c:Nat):Int)=((FP.aeV (fN f) c:Nat):Int):=ahZ _ _;by_cases h2:FP.aeV (fN f) c=2
 ·rw[if_pos (by omega),if_pos (.inr h2),if_pos (.inr h2)];obtain⟨hn,hlt⟩:=c2.1 h2;have hs:=FP.aDb hf (by omega) hlt;have hx:=FP.aCr hf hlt;have e1:i64 (128-(FP.fP (fN f):Int))=((128-FP.fP (fN f):Nat):Int):=F7 (a:=128) (by omega) (by omega);have hpw:2^128=2^(FP.fP (fN f))*2^(128-FP.fP (fN f)):=by rw[<- Nat.pow_add];congr 1;omega
  have hpw2:(2:Nat)^127=2^(FP.fP (fN f)-1)*2^(128-FP.fP (fN f)):=by rw[<- Nat.pow_add];congr 1;omega
  have hh:=FP.axu n1;have hml:=Nat.mod_lt c hp0;have hq0:=FP.two_pow_pos (128-FP.fP (fN f));have hb:c%2^(FP.fP (fN f)-1)*2^(128-FP.fP (fN f))<2^127:=by rw[hpw2];exact Nat.mul_lt_mul_of_pos_right hml hq0
  have hbW:c%2^(FP.fP (fN f)-1)*2^(128-FP.fP (fN f))<wy:=by rw[PM];omega
  refine(vX (by simp only[vS,awH,ze,e1];exact JJ _ hfr (by omega) hbW ) (by rfl)).trans ?_
  have l1:Eb [wd (c%2^(FP.fP (fN f)-1)*2^(128-FP.fP (fN f))) 1,wd (c%2^(FP.fP (fN f)-1)*2^(128-FP.fP (fN f))) 0,9223372036854775808,0] =
    [wd (c%2^(FP.fP (fN f)-1)*2^(128-FP.fP (fN f))+2^127) 1,wd (c%2^(FP.fP (fN f)-1)*2^(128-FP.fP (fN f))+2^127) 0,0]:=by
   have:=Lg (c%2^(FP.fP (fN f)-1)*2^(128-FP.fP (fN f))) (2^127) (by rw[PM];omega);rw[show wd (2^127) 1=9223372036854775808 by decide,show wd (2^127) 0=0 by decide] at this;exact this
  refine(vX (by simp only[vS,awI];exact l1) (by rfl)).trans ?_;rw[wu rfl]
  have eS:c%2^(FP.fP (fN f)-1)*2^(128-FP.fP (fN f))+2^127=FP.afn (fN f) c:=by unfold FP.afn;rw[if_neg hn,hpw2,Nat.add_mul,Nat.add_comm]
  have eE:i64 (((c/2^(FP.fP (fN f)-1):Nat):Int)-(FP.fE (fN f):Int))=FP.alc (fN f) c:=by unfold FP.alc at hx ⊢;rw[if_neg hn] at hx ⊢;exact Nh hx.1 hx.2
  have e5:i64 ((c/2^(FP.fP (fN f)-1):Nat):Int)=((c/2^(FP.fP (fN f)-1):Nat):Int):=yz (by omega);rw[eS];simp only[vS,e0,e5,AU,eE]
 ·rw[if_neg (by omega),xg];simp only[vS,e0,beq_iff_eq];by_cases h1:FP.aeV (fN f) c=1
  ·rw[if_pos (by omega),if_pos (.inl h1),if_pos (.inl h1)];obtain⟨hpos,hlt⟩:=c1.1 h1;have hx:=FP.aCr hf (show c<FP.inf (fN f) by omega);have hcm:c%2^(FP.fP (fN f)-1)=c:=Nat.mod_eq_of_lt hlt;have hcW:c<wy:=by rw[<- hcm];exact hfr
   have hr:=ah1 128 c (by omega);have hle:Cz 128 c<=128:=by rw[hr];omega
   refine(vX (r:=oB (c*2^Cz 128 c) ++ [((Cz 128 c:Nat):Int)]) ?_ rfl).trans ?_
   ·simp only[vS,awJ,hcm];rw[aqQ,yH hcW,wS];rfl
   rw[wu rfl];have eS:c*2^Cz 128 c=FP.afn (fN f) c:=by unfold FP.afn;rw[if_pos hlt,hr]
   have eE:i64 (i64 (i64 (i64 (1-(FP.fE (fN f):Int))+128)-(FP.fP (fN f):Int))-((Cz 128 c:Nat):Int))=FP.alc (fN f) c:=by unfold FP.alc at hx ⊢;rw[if_pos hlt] at hx ⊢;rw[Nh (n:=1-(FP.fE (fN f):Int)) (by omega) (by omega),Nh (n:=1-(FP.fE (fN f):Int)+128) (by omega) (by omega),Nh (n:=1-(FP.fE (fN f):Int)+128-(FP.fP (fN f):Int)) (by omega) (by omega),hr];exact Nh hx.1 hx.2
   have e5:i64 ((Cz 128 c:Nat):Int)=((Cz 128 c:Nat):Int):=yz (by omega);rw[eS];simp only[vS,e0,e5,AU,ze,eE]
  ·rw[if_neg (by omega),if_neg (by omega),if_neg (by omega),wu rfl];simp only[vS,e0];rfl
def Lj (P E m:Nat) (neg after:Bool) (ne e:Int) (up b:Nat):Nat×Nat :=
 if (E:Int)<e then(FP.aCQ P E m neg,20) else
 let tiny:=decide (ne<1-E)&&(!after||decide (e<1-E))
 if ne<1-E then
  let w:=FP.jam up (1-E-ne).toNat
  (FP.aex m neg w (2^(256-P)),if w%2^(256-P)=0 then 0 else if tiny then 24 else 16)
 else((ne-(1-E)).toNat*2^(P-1)+b,if up%2^(256-P)=0 then 0 else if tiny then 24 else 16)
theorem aq4 {P E m:Nat} {after neg:Bool} {exp:Int} {sig:Nat} (h:sig≠0):FP.aC4 P E m after neg exp sig =
  Lj P E m neg after (exp-((255-Nat.log2 sig:Nat):Int)) (if FP.aex m neg (sig*2^(255-Nat.log2 sig)) (2^(256-P))=2^P then exp-((255-Nat.log2 sig:Nat):Int)+1 else exp-((255-Nat.log2 sig:Nat):Int)) (sig*2^(255-Nat.log2 sig)) (FP.aex m neg (sig*2^(255-Nat.log2 sig)) (2^(256-P))):=by
 unfold FP.aC4 Lj;rw[if_neg h]
theorem ah4 {P E m:Nat} {neg after:Bool} {ne e:Int} {up b:Nat} (h:(E:Int)<e):Lj P E m neg after ne e up b=(FP.aCQ P E m neg,20):=by unfold Lj;rw[if_pos h]
theorem ah5 {P E m:Nat} {neg after:Bool} {ne e:Int} {up b j:Nat} (h:¬ (E:Int)<e) (h2:ne<1-E) (hj:1-(E:Int)-ne=(j:Int)) :
  Lj P E m neg after ne e up b=(FP.aex m neg (FP.jam up j) (2^(256-P)),if FP.jam up j%2^(256-P)=0 then 0 else if (!after||decide (e<1-E)) then 24 else 16):=by
 unfold Lj;rw[if_neg h,if_pos h2,hj,Ah,decide_eq_true h2,Bool.true_and]
theorem ah6 {P E m:Nat} {neg after:Bool} {ne e:Int} {up b k:Nat} (h:¬ (E:Int)<e) (h2:¬ ne<1-E) (hk:ne-(1-(E:Int))=(k:Int)) :
  Lj P E m neg after ne e up b=(k*2^(P-1)+b,if up%2^(256-P)=0 then 0 else 16):=by
 unfold Lj;rw[if_neg h,if_neg h2,hk,Ah,decide_eq_false h2,Bool.false_and];rfl
theorem ah7 {f b:Nat} {neg:Bool} (hf:f<4) (h:b<=2^(FP.fP f-1)):Fb f neg (if i64 0=0/\b.testBit (FP.fP f-1)=true then 1 else i64 0) b=FP.mk f neg b:=by
 obtain⟨n1,n2,n3,n4,n5,n6,n7,n8,n9⟩:=FP.axv hf;have hp:=FP.two_pow_pos (FP.fP f-1);have e0:i64 0=0:=by decide
 rw[e0,Nat.testBit_eq_decide_div_mod_eq];rcases Nat.eq_or_lt_of_le h with h|h
 ·subst h;rw[if_pos ⟨rfl,by rw[Nat.div_self hp];rfl⟩];unfold Fb;rw[if_neg (by decide),show(1:Int).toNat=1 from rfl,Nat.mod_self,Nat.add_zero,Nat.mod_eq_of_lt (by omega),Nat.one_mul]
 ·rw[if_neg (by rw[Nat.div_eq_of_lt h];decide)];unfold Fb;rw[if_neg (by decide),show(0:Int).toNat=0 from rfl,Nat.zero_mod,Nat.zero_mul,Nat.zero_add,Nat.mod_eq_of_lt h]
theorem ah8 {f b k:Nat} {neg:Bool} (hf:f<4) (h1:2^(FP.fP f-1)<=b) (h2:b<=2^FP.fP f) (t:Nat) (ht:t=if b=2^FP.fP f then 2 else 1) (hk:k+t<2*FP.fE f+2) :
  Fb f neg (if ((k+t:Nat):Int)=0/\b.testBit (FP.fP f-1)=true then 1 else((k+t:Nat):Int)) b=FP.mk f neg (k*2^(FP.fP f-1)+b):=by
 obtain⟨n1,n2,n3,n4,n5,n6,n7,n8,n9⟩:=FP.axv hf;have hp:=FP.two_pow_pos (FP.fP f-1);have hh:=FP.axu n1;have ht0:0<t:=by rw[ht];split<;>omega
 rw[if_neg (λh=>by have:=h.1;omega)];unfold Fb;rw[if_neg (by omega),Ah,Nat.mod_eq_of_lt (by omega)];congr 1;by_cases hb:b=2^FP.fP f
 ·rw[if_pos hb] at ht;subst ht;rw[hb,hh,Nat.mul_mod_left,Nat.add_mul];omega
 ·rw[if_neg hb] at ht;subst ht;rw[Nat.mod_eq_sub_mod h1,Nat.mod_eq_of_lt (by omega),Nat.add_mul];omega
def Fe (e:Int):Int:=max (-1099511627776) (min e 1099511627776)
theorem ab7 (f m t n e a b c d:Int) (hf:fN f<4) (hm:u8 m<=4):Dq [f,m,t,n,e,a,b,c,d] =
  oB (FP.mk (fN f) (ww n) (FP.abw (FP.fP (fN f)) (FP.fE (fN f)) (u8 m).toNat (ww t) (ww n) (Fe (i64 e)) (nW a b c d)).1) ++ [(((FP.abw (FP.fP (fN f)) (FP.fE (fN f)) (u8 m).toNat (ww t) (ww n) (Fe (i64 e)) (nW a b c d)).2:Nat):Int)]:=by
 obtain⟨n1,n2,n3,n4,n5,n6,n7,n8,n9⟩:=FP.axv hf;have hf2:=(Hg f).2 hf;have hm0:=Ew m;have hS:=Ld a b c d;rw[<- FP.aDz n1 (by omega) n6 (ww t) (ww n) (Fe (i64 e)) (by rw[<- FE];exact hS)];rw[Dq,adQ,xg];simp only[xM,wV,wW,xQ,xR,xA,xC,Aw,Ey,EA,Hf,Av,wP,Bool.not_eq_true',decide_eq_false_iff_not];rw[if_neg (by omega),xg];simp only[xM,wV,wW,xQ,xR,xA,xC,Aw,Ey,PQ,Hf,Av,wP,Bool.not_eq_true',decide_eq_false_iff_not];rw[if_neg (by omega)];refine(vX (by simp only[vS,awK];exact ahN _ _ _ _) (by rfl)).trans ?_;rw[Fa,xg];simp only[xM,wV,wW,xQ,xR,xA,xC,zG,wP,decide_eq_true_iff];by_cases hz:nW a b c d=0
 ·rw[if_pos hz];refine(vX (by simp only[vS,awL];exact aqV _ _) (by rfl)).trans ?_;rw[wz,if_pos hf,wP,wu rfl,hz];simp only[vS];rfl
 rw[if_neg hz];rw[aq4 hz];have hlog:Nat.log2 (nW a b c d)<256:=(FP.log2_lt hz).2 (by rw[<- FE];exact hS);have hby:Cz 256 (nW a b c d)=255-Nat.log2 (nW a b c d):=by rw[ah1 256 _ hz];unfold FP.aCy;rw[if_neg hz];omega
 obtain⟨l1,l2⟩:=FP.agP hz;have hby2:255-Nat.log2 (nW a b c d)<=255:=by omega
 have hup1:2^255<=nW a b c d*2^(255-Nat.log2 (nW a b c d)):=by have:=Nat.mul_le_mul_right (2^(255-Nat.log2 (nW a b c d))) l1;rw[<- Nat.pow_add,show Nat.log2 (nW a b c d)+(255-Nat.log2 (nW a b c d))=255 by omega] at this;exact this
 have hup2:nW a b c d*2^(255-Nat.log2 (nW a b c d))<2^256:=by have:=Nat.mul_lt_mul_of_pos_right l2 (FP.two_pow_pos (255-Nat.log2 (nW a b c d)));rw[<- Nat.pow_add,show Nat.log2 (nW a b c d)+1+(255-Nat.log2 (nW a b c d))=256 by omega] at this;exact this
 refine(vX (r:=oW (nW a b c d*2^(255-Nat.log2 (nW a b c d))) ++ [((255-Nat.log2 (nW a b c d):Nat):Int)]) ?_ rfl).trans ?_
 ·simp only[vS,awM];rw[aqP,Fa,hby,Al];rfl
 generalize nW a b c d*2^(255-Nat.log2 (nW a b c d))=up at *
 generalize 255-Nat.log2 (nW a b c d)=sh at *
 have hupW:up<wG:=by rw[FE];exact hup2
 have hclip : -1099511627776<=Fe (i64 e)/\Fe (i64 e)<=1099511627776:=by unfold Fe;omega
 have ecl:max (-1099511627776) (min (i64 e) 1099511627776)=Fe (i64 e):=rfl;generalize Fe (i64 e)=cl at *
 have e5:i64 ((sh:Nat):Int)=((sh:Nat):Int):=yz (by omega);have eNe:i64 (cl-(sh:Int))=cl-(sh:Int):=xG (by omega) (by omega);generalize hne:cl-(sh:Int)=ne at *
 have hneb : -1099511628100<=ne/\ne<=1099511628100:=by omega
 have eLeast:i64 (1-(FP.fE (fN f):Int))=1-(FP.fE (fN f):Int):=Nh (by omega) (by omega);refine(vX (by simp only[vS,aka];exact PT _) (by rfl)).trans ?_;refine(vX (by simp only[vS,akb];exact Ni _) (by rfl)).trans ?_;rw[wz];obtain⟨b1,b2⟩:=FP.aDq n1 (by omega) hup1 hup2 (u8 m).toNat (ww n)
 have hbW:FP.aex (u8 m).toNat (ww n) up (2^(256-FP.fP (fN f)))<wy:=by rw[Bl];exact Nat.lt_of_le_of_lt b2 (Nat.pow_lt_pow_right (by decide) (by omega))
 refine(vX (r:=oB (FP.aex (u8 m).toNat (ww n) up (2^(256-FP.fP (fN f)))) ++ [wh (decide (up%2^(256-FP.fP (fN f))≠0))]) ?_ rfl).trans ?_
 ·simp only[vS,UO,ze];rw[ab6 _ _ _ _ _ _ _ (by rw[ze];omega) (by rw[ze];omega) (by rw[Ak];exact hm),Ai hupW,ze,Ah,Ak,wP,wS];rfl
 have hh:=FP.axu n1;have hH0:=FP.two_pow_pos (FP.fP (fN f)-1);have hHW:2^(FP.fP (fN f)-1)<wy:=by rw[Bl];exact Nat.pow_lt_pow_right (by decide) (by omega)
 generalize hB:FP.aex (u8 m).toNat (ww n) up (2^(256-FP.fP (fN f)))=B at *
 refine(vX (r:=[wh (decide (B=2^FP.fP (fN f)))]) ?_ rfl).trans ?_
 ·simp only[vS,awN,ze];rw[Xe,yH hbW,ze,Tp,Nat.testBit_eq_decide_div_mod_eq];congr 2;rw[decide_eq_decide];have hp:=FP.two_pow_pos (FP.fP (fN f));constructor
  ·intro h;apply Classical.byContradiction;intro hne2;rw[Nat.div_eq_of_lt (by omega)] at h;omega
  ·intro h;rw[h,Nat.div_self hp]
 rw[xg];simp only[xM,wV,wW,xQ,xR,xA,xC,Al,wS,zG,wP,decide_eq_true_iff]
 have stepO:∀ q:Int,ww q=ww n->NK [u8 f,u8 m,q]=oB (FP.mk (fN f) (ww n) (FP.aCQ (FP.fP (fN f)) (FP.fE (fN f)) (u8 m).toNat (ww n))) ++ [20]:=by intro q hq;rw[aq3 _ _ _ (by rw[wz];exact hf) (by rw[Ak];exact hm),wz,Ak,hq]
 by_cases hb:B=2^FP.fP (fN f)
 ·rw[if_pos hb,if_pos hb];have eE:i64 (ne+1)=ne+1:=xG (by omega) (by omega);refine(vX (r:=[wh (decide ((FP.fE (fN f):Int)<(ne+1)))]) ?_ rfl).trans ?_
  ·simp only[vS,akc,AU,e5,ecl,hne,eNe,eE];rw[ahV,wz,decide_eq_true hf,Bool.true_and,eE]
  rw[xg];simp only[xM,wV,wW,xQ,xR,xA,xC,Al,wS,zG,wP,decide_eq_true_iff];by_cases ho:(FP.fE (fN f):Int)<(ne+1)
  ·rw[if_pos ho,ah4 ho];refine(vX (by simp only[vS,akd];exact stepO _ (wP _)) (by rfl)).trans ?_;rw[wu rfl]
   (simp only[vS])<;>rfl
  rw[if_neg ho,xg];simp only[xM,wV,wW,xQ,xR,xA,xC,Al,wS,Aw,JI,JH,Ez,Av,EZ,EA,xD,AU,e5,eLeast,ecl,hne,eNe,wP,decide_eq_true_iff];by_cases hlt:ne<1-(FP.fE (fN f):Int)
  ·rw[if_pos hlt];obtain⟨j,hj⟩:∃ j:Nat,1-(FP.fE (fN f):Int)-ne=(j:Int):=⟨(1-(FP.fE (fN f):Int)-ne).toNat,by omega⟩;have hjam:=Li (k:=j) hupW
   have hb2:FP.aex (u8 m).toNat (ww n) (FP.jam up j) (2^(256-FP.fP (fN f)))<=2^(FP.fP (fN f)-1):=by rw[(FP.aDa (p:=FP.fP (fN f)) (j:=j) (by omega) up _ _).1];exact(FP.aCv n1 (by omega) (by omega) hup2 _ _).2.2
   have hb2W:FP.aex (u8 m).toNat (ww n) (FP.jam up j) (2^(256-FP.fP (fN f)))<wy:=Nat.lt_of_le_of_lt hb2 hHW;have ej:i64 (1-(FP.fE (fN f):Int)-ne)=(j:Int):=by rw[hj];exact xG (by omega) (by omega)
   have stepJ:Fs [wd up 0,wd up 1,wd up 2,wd up 3,(j:Int)]=oW (FP.jam up j):=by rw[ab5,Ai hupW,xG (by omega) (by omega),Ah]
   have stepC:∀ q:Int,ww q=ww n->LV [wd (FP.jam up j) 0,wd (FP.jam up j) 1,wd (FP.jam up j) 2,wd (FP.jam up j) 3,(FP.fP (fN f):Int),u8 m,q]=oB (FP.aex (u8 m).toNat (ww n) (FP.jam up j) (2^(256-FP.fP (fN f)))) ++ [wh (decide (FP.jam up j%2^(256-FP.fP (fN f))≠0))]:=by intro q hq;rw[ab6 _ _ _ _ _ _ _ (by rw[ze];omega) (by rw[ze];omega) (by rw[Ak];exact hm),Ai hjam,ze,Ah,Ak,hq]
   have stepP:∀ q:Int,ww q=ww n->IQ [u8 f,q,0,wd (FP.aex (u8 m).toNat (ww n) (FP.jam up j) (2^(256-FP.fP (fN f)))) 1,wd (FP.aex (u8 m).toNat (ww n) (FP.jam up j) (2^(256-FP.fP (fN f)))) 0]=oB (FP.mk (fN f) (ww n) (FP.aex (u8 m).toNat (ww n) (FP.jam up j) (2^(256-FP.fP (fN f))))):=by intro q hq;rw[Xp _ _ _ _ _ (by rw[wz];exact hf),wz,yH hb2W,hq,ah7 hf hb2]
   rw[ah5 ho hlt hj,xg];simp only[xM,wV,wW,xQ,xR,xA,xC,Ey,zG,wP]
   cases hA:ww t with
   | false =>
    rw[if_pos (by decide)];refine(vX (by simp only[vS,X8,AU,e5,eLeast,ecl,hne,eNe,ej];exact stepJ) (by rfl)).trans ?_;refine(vX (by simp only[vS,UO,ze];exact stepC _ (wP _)) (by rfl)).trans ?_;refine(vX (by simp only[vS,RN];exact stepP _ (wP _)) (by rfl)).trans ?_;rw[xg];simp only[xM,wV,wW,xQ,xR,xA,xC,Al,wS,zG,wP,decide_eq_true_iff];by_cases hz2:FP.jam up j%2^(256-FP.fP (fN f))=0
    ·rw[if_neg (λh=>h hz2),wu rfl,if_pos hz2]
     (simp only[vS])<;>rfl
    ·rw[if_pos hz2,if_neg hz2];rw[wu rfl]
     (simp only[vS])<;>rfl
   | true =>
    rw[if_neg (by decide)];refine(vX (by simp only[vS,X8,AU,e5,eLeast,ecl,hne,eNe,ej];exact stepJ) (by rfl)).trans ?_;refine(vX (by simp only[vS,UO,ze];exact stepC _ (wP _)) (by rfl)).trans ?_;refine(vX (by simp only[vS,RN];exact stepP _ (wP _)) (by rfl)).trans ?_;rw[xg];simp only[xM,wV,wW,xQ,xR,xA,xC,Al,wS,zG,wP,decide_eq_true_iff];by_cases hz2:FP.jam up j%2^(256-FP.fP (fN f))=0
    ·rw[if_neg (λh=>h hz2),wu rfl,if_pos hz2]
     (simp only[vS])<;>rfl
    ·rw[if_pos hz2,if_neg hz2];rw[xg];simp only[xM,wV,wW,xQ,xR,xA,xC,Al,wS,Aw,JI,JH,Ez,Av,abW,EZ,EA,xD,AU,e5,eLeast,ecl,hne,eNe,eE,wP,decide_eq_true_iff];by_cases hx:(ne+1)<1-(FP.fE (fN f):Int)
     ·rw[if_pos hx,wu rfl,decide_eq_true hx]
      (simp only[vS])<;>rfl
     ·rw[if_neg hx,wu rfl,decide_eq_false hx]
      (simp only[vS])<;>rfl
  ·rw[if_neg hlt];obtain⟨k,hk⟩:∃ k:Nat,ne-(1-(FP.fE (fN f):Int))=(k:Int):=⟨(ne-(1-(FP.fE (fN f):Int))).toNat,by omega⟩;rw[ah6 ho hlt hk];have efield:i64 (i64 (ne+1-(1-(FP.fE (fN f):Int)))+1)=((k+2:Nat):Int):=by rw[xG (n:=ne+1-(1-(FP.fE (fN f):Int))) (by omega) (by omega),xG (by omega) (by omega)];omega
   have ek:i64 ((k+2:Nat):Int)=((k+2:Nat):Int):=yz (by omega)
   have stepP:∀ q:Int,ww q=ww n->IQ [u8 f,q,((k+2:Nat):Int),wd B 1,wd B 0]=oB (FP.mk (fN f) (ww n) (k*2^(FP.fP (fN f)-1)+B)):=by intro q hq;rw[Xp _ _ _ _ _ (by rw[wz];exact hf),wz,yH hbW,hq,ek,ah8 hf b1 b2 2 (by rw[if_pos hb]) (by omega)]
   refine(vX (by simp only[vS,RN,AU,e5,eLeast,ecl,hne,eNe,eE,efield];exact stepP _ (wP _)) (by rfl)).trans ?_;rw[xg];simp only[xM,wV,wW,xQ,xR,xA,xC,Al,wS,zG,wP,decide_eq_true_iff];by_cases hz2:up%2^(256-FP.fP (fN f))=0
   ·rw[if_neg (λh=>h hz2),wu rfl,if_pos hz2]
    (simp only[vS])<;>rfl
   ·rw[if_pos hz2,if_neg hz2,wu rfl]
    (simp only[vS])<;>rfl
 ·rw[if_neg hb,if_neg hb];refine(vX (r:=[wh (decide ((FP.fE (fN f):Int)<ne))]) ?_ rfl).trans ?_
  ·simp only[vS,akc,AU,e5,ecl,hne,eNe];rw[ahV,wz,decide_eq_true hf,Bool.true_and,eNe]
  rw[xg];simp only[xM,wV,wW,xQ,xR,xA,xC,Al,wS,zG,wP,decide_eq_true_iff];by_cases ho:(FP.fE (fN f):Int)<ne
  ·rw[if_pos ho,ah4 ho];refine(vX (by simp only[vS,akd];exact stepO _ (wP _)) (by rfl)).trans ?_;rw[wu rfl]
   (simp only[vS])<;>rfl
  rw[if_neg ho,xg];simp only[xM,wV,wW,xQ,xR,xA,xC,Al,wS,Aw,JI,JH,Ez,Av,EZ,EA,xD,AU,e5,eLeast,ecl,hne,eNe,wP,decide_eq_true_iff];by_cases hlt:ne<1-(FP.fE (fN f):Int)
  ·rw[if_pos hlt];obtain⟨j,hj⟩:∃ j:Nat,1-(FP.fE (fN f):Int)-ne=(j:Int):=⟨(1-(FP.fE (fN f):Int)-ne).toNat,by omega⟩;have hjam:=Li (k:=j) hupW
   have hb2:FP.aex (u8 m).toNat (ww n) (FP.jam up j) (2^(256-FP.fP (fN f)))<=2^(FP.fP (fN f)-1):=by rw[(FP.aDa (p:=FP.fP (fN f)) (j:=j) (by omega) up _ _).1];exact(FP.aCv n1 (by omega) (by omega) hup2 _ _).2.2
   have hb2W:FP.aex (u8 m).toNat (ww n) (FP.jam up j) (2^(256-FP.fP (fN f)))<wy:=Nat.lt_of_le_of_lt hb2 hHW;have ej:i64 (1-(FP.fE (fN f):Int)-ne)=(j:Int):=by rw[hj];exact xG (by omega) (by omega)
   have stepJ:Fs [wd up 0,wd up 1,wd up 2,wd up 3,(j:Int)]=oW (FP.jam up j):=by rw[ab5,Ai hupW,xG (by omega) (by omega),Ah]
   have stepC:∀ q:Int,ww q=ww n->LV [wd (FP.jam up j) 0,wd (FP.jam up j) 1,wd (FP.jam up j) 2,wd (FP.jam up j) 3,(FP.fP (fN f):Int),u8 m,q]=oB (FP.aex (u8 m).toNat (ww n) (FP.jam up j) (2^(256-FP.fP (fN f)))) ++ [wh (decide (FP.jam up j%2^(256-FP.fP (fN f))≠0))]:=by intro q hq;rw[ab6 _ _ _ _ _ _ _ (by rw[ze];omega) (by rw[ze];omega) (by rw[Ak];exact hm),Ai hjam,ze,Ah,Ak,hq]
   have stepP:∀ q:Int,ww q=ww n->IQ [u8 f,q,0,wd (FP.aex (u8 m).toNat (ww n) (FP.jam up j) (2^(256-FP.fP (fN f)))) 1,wd (FP.aex (u8 m).toNat (ww n) (FP.jam up j) (2^(256-FP.fP (fN f)))) 0]=oB (FP.mk (fN f) (ww n) (FP.aex (u8 m).toNat (ww n) (FP.jam up j) (2^(256-FP.fP (fN f))))):=by intro q hq;rw[Xp _ _ _ _ _ (by rw[wz];exact hf),wz,yH hb2W,hq,ah7 hf hb2]
   rw[ah5 ho hlt hj,xg];simp only[xM,wV,wW,xQ,xR,xA,xC,Ey,zG,wP]
   cases hA:ww t with
   | false =>
    rw[if_pos (by decide)];refine(vX (by simp only[vS,X8,AU,e5,eLeast,ecl,hne,eNe,ej];exact stepJ) (by rfl)).trans ?_;refine(vX (by simp only[vS,UO,ze];exact stepC _ (wP _)) (by rfl)).trans ?_;refine(vX (by simp only[vS,RN];exact stepP _ (wP _)) (by rfl)).trans ?_;rw[xg];simp only[xM,wV,wW,xQ,xR,xA,xC,Al,wS,zG,wP,decide_eq_true_iff];by_cases hz2:FP.jam up j%2^(256-FP.fP (fN f))=0
    ·rw[if_neg (λh=>h hz2),wu rfl,if_pos hz2]
     (simp only[vS])<;>rfl
    ·rw[if_pos hz2,if_neg hz2];rw[wu rfl]
     (simp only[vS])<;>rfl
   | true =>
    rw[if_neg (by decide)];refine(vX (by simp only[vS,X8,AU,e5,eLeast,ecl,hne,eNe,ej];exact stepJ) (by rfl)).trans ?_;refine(vX (by simp only[vS,UO,ze];exact stepC _ (wP _)) (by rfl)).trans ?_;refine(vX (by simp only[vS,RN];exact stepP _ (wP _)) (by rfl)).trans ?_;rw[xg];simp only[xM,wV,wW,xQ,xR,xA,xC,Al,wS,zG,wP,decide_eq_true_iff];by_cases hz2:FP.jam up j%2^(256-FP.fP (fN f))=0
    ·rw[if_neg (λh=>h hz2),wu rfl,if_pos hz2]
     (simp only[vS])<;>rfl
    ·rw[if_pos hz2,if_neg hz2];rw[wu rfl,decide_eq_true hlt]
     (simp only[vS])<;>rfl
  ·rw[if_neg hlt];obtain⟨k,hk⟩:∃ k:Nat,ne-(1-(FP.fE (fN f):Int))=(k:Int):=⟨(ne-(1-(FP.fE (fN f):Int))).toNat,by omega⟩;rw[ah6 ho hlt hk];have efield:i64 (i64 (ne-(1-(FP.fE (fN f):Int)))+1)=((k+1:Nat):Int):=by rw[xG (n:=ne-(1-(FP.fE (fN f):Int))) (by omega) (by omega),xG (by omega) (by omega)];omega
   have ek:i64 ((k+1:Nat):Int)=((k+1:Nat):Int):=yz (by omega)
   have stepP:∀ q:Int,ww q=ww n->IQ [u8 f,q,((k+1:Nat):Int),wd B 1,wd B 0]=oB (FP.mk (fN f) (ww n) (k*2^(FP.fP (fN f)-1)+B)):=by intro q hq;rw[Xp _ _ _ _ _ (by rw[wz];exact hf),wz,yH hbW,hq,ek,ah8 hf b1 b2 1 (by rw[if_neg hb]) (by omega)]
   refine(vX (by simp only[vS,RN,AU,e5,eLeast,ecl,hne,eNe,efield];exact stepP _ (wP _)) (by rfl)).trans ?_;rw[xg];simp only[xM,wV,wW,xQ,xR,xA,xC,Al,wS,zG,wP,decide_eq_true_iff];by_cases hz2:up%2^(256-FP.fP (fN f))=0
   ·rw[if_neg (λh=>h hz2),wu rfl,if_pos hz2]
    (simp only[vS])<;>rfl
   ·rw[if_pos hz2,if_neg hz2,wu rfl]
    (simp only[vS])<;>rfl
theorem ah9 (a b c d e f g h:Int):Iy [a,b,c,d,e,f,g,h]=K9 (nW a b c d+nW e f g h) (Nat.ble wG (nW a b c d+nW e f g h)):=rfl
theorem UB (s:Nat) (b:Bool):K9 s b = [wd s 0,wd s 1,wd s 2,wd s 3,wh b]:=rfl
theorem aia {p:Nat} (h:p<wy):nW 0 (wd p 0) (wd p 1) 0=p*vZ:=by have:=yH h;unfold nB at this;rw[Dm,Dm] at this;unfold nW;rw[show u64 0=0 by decide,Dm,Dm,show(0:Int).toNat=0 from rfl,Nat.mul_zero,Nat.add_zero,Nat.zero_add,Nat.mul_comm vZ];congr 1;rw[Nat.mul_comm vZ,Nat.add_comm];exact this
theorem Xq {a b:Nat} (ha:a<vZ) (hb:b<vZ):a*b<wy:=Nat.mul_lt_mul'' ha hb
theorem aq5 (a1 a0 b1 b0:Nat):(a1*vZ+a0)*(b1*vZ+b0)=a1*b1*wy+a0*b0+a1*b0*vZ+a0*b1*vZ:=by
 have e:wy=vZ*vZ:=wy.eq_1;rw[e];generalize vZ=w;rw[Nat.add_mul,Nat.mul_add,Nat.mul_add];have h1:a1*w*(b1*w)=a1*b1*(w*w):=by ac_rfl
 have h2:a1*w*b0=a1*b0*w:=by ac_rfl
 have h3:a0*(b1*w)=a0*b1*w:=by ac_rfl
 rw[h1,h2,h3];omega
theorem aib (a b c d:Int):NE [a,b,c,d]=oW (nB a b*nB c d):=by
 refine Eq.trans ?_ (ahU _);have ha:=(zD a).2;have hb:=(zD b).2;have hc:=(zD c).2;have hd:=(zD d).2;have hab:=He a b;have hcd:=He c d
 have hprod:nB a b*nB c d<wG:=by have:=Nat.mul_lt_mul'' hab hcd;rw[PU];exact this
 have e0:nB a b*nB c d=(u64 a).toNat*(u64 c).toNat*wy+(u64 b).toNat*(u64 d).toNat+(u64 a).toNat*(u64 d).toNat*vZ+(u64 b).toNat*(u64 c).toNat*vZ:=aq5 _ _ _ _;rw[e0] at hprod ⊢;rw[NE,adp];refine(vX (by simp only[vS,X6];exact Xf _ _) (by rfl)).trans ?_;refine(vX (by simp only[vS,X6];exact Xf _ _) (by rfl)).trans ?_;rw[Cy,Cy,Cy,Cy];have l11:=Xq ha hc;have l00:=Xq hb hd;have l10:=Xq ha hd;have l01:=Xq hb hc;generalize (u64 a).toNat*(u64 c).toNat=p11 at *
 generalize (u64 b).toNat*(u64 d).toNat=p00 at *
 refine(vX (r:=oW (p11*wy+p00)) ?_ rfl).trans ?_
 ·simp only[vS,ajW];rw[abZ,yH l11,yH l00,Al]
 refine(vX (by simp only[vS,X6];exact Xf _ _) (by rfl)).trans ?_;refine(vX (by simp only[vS,X6];exact Xf _ _) (by rfl)).trans ?_;rw[Cy,Cy,Cy,Cy];generalize (u64 a).toNat*(u64 d).toNat=p10 at *
 generalize (u64 b).toNat*(u64 c).toNat=p01 at *
 refine(vX (r:=K9 (p11*wy+p00+p10*vZ) (Nat.ble wG (p11*wy+p00+p10*vZ))) ?_ rfl).trans ?_
 ·simp only[vS,ajX];rw[ah9,Ai (by omega),aia l10]
 refine(vX (r:=K9 (p11*wy+p00+p10*vZ+p01*vZ) (Nat.ble wG (p11*wy+p00+p10*vZ+p01*vZ))) ?_ rfl).trans ?_
 ·simp only[vS,UB,ajX];rw[ah9,Ai (by omega),aia l01,UB]
 rw[wu rfl];simp only[vS,UB];rfl
def zf (x y:Nat):Bool:=(decide (x=0)||decide (y=0))&&(decide (x=3)||decide (y=3))
theorem aic (n c e h l n' c' e' h' l':Int):JS [n,c,e,h,l,n',c',e',h',l'] = [wh (zf (u8 c).toNat (u8 c').toNat)]:=by
 have h1:=Ew c;have h2:=Ew c';rw[JS,adk,xg];simp only[vS,beq_iff_eq,decide_eq_true_iff];unfold zf;obtain⟨i,hi⟩:∃ i:Nat,u8 c=(i:Int):=⟨(u8 c).toNat,by omega⟩;obtain⟨j,hj⟩:∃ j:Nat,u8 c'=(j:Int):=⟨(u8 c').toNat,by omega⟩;rw[hi,hj,Ah,Ah];by_cases hz:i=0\/j=0
 ·have hz2:(decide (i=0)||decide (j=0))=true:=by rw[Bool.or_eq_true,decide_eq_true_iff,decide_eq_true_iff];exact hz
  rw[if_pos (by rcases hz with h|h<;>subst h<;>simp<;>(try split)<;>omega),wu rfl,hz2,Bool.true_and];simp only[vS,beq_iff_eq,hi,hj];congr 2;rw[Bool.eq_iff_iff,decide_eq_true_iff,Bool.or_eq_true,decide_eq_true_iff,decide_eq_true_iff];split
  ·omega
  ·split<;>omega
 ·have hz2:(decide (i=0)||decide (j=0))=false:=by
   cases hb:(decide (i=0)||decide (j=0)) with
   | false=>rfl
   | true=>rw[Bool.or_eq_true,decide_eq_true_iff,decide_eq_true_iff] at hb;exact absurd hb hz
  rw[if_neg (by rw[if_neg (by omega),if_neg (by omega)];decide),wu rfl,hz2,Bool.false_and];rfl
theorem aid (n c e h l n' c' e' h' l':Int):JX [n,c,e,h,l,n',c',e',h',l'] =
  if (u8 c=1\/u8 c=2)/\(u8 c'=1\/u8 c'=2) then [i64 (i64 (i64 e+i64 e')+1)]++oW (nB h l*nB h' l') else [0,0,0,0,0]:=by
 have hm:NE [u64 h,u64 l,u64 h',u64 l']=oW (nB h l*nB h' l'):=by rw[aib,wX,wX]
 have go:∀ L:List Int,L = [n,c,e,h,l,n',c',e',h',l']->wD E2 218 (List.map (X.ev L) [(.var kU 3),(.var kU 4),(.var kU 8),(.var kU 9)])=oW (nB h l*nB h' l'):=by intro L hL;subst hL;rw[avP,<- hm];simp only[vS]
 have fin:∀ L:List Int,L = [n,c,e,h,l,n',c',e',h',l']->wE (wD E2) JW (.leaf (.tup [(.int .i64 (.bin .add .i64 (.bin .add .i64 (.var kI 2) (.var kI 7)) (.lit 1))),(.agg [(.int .u64 (.var kU 10)),(.int .u64 (.var kU 11)),(.int .u64 (.var kU 12)),(.int .u64 (.var kU 13))])])) (L++oW (nB h l*nB h' l')) = [i64 (i64 (i64 e+i64 e')+1)]++oW (nB h l*nB h' l'):=by intro L hL;subst hL;rw[wu rfl];simp only[vS]
 have zer:∀ L:List Int,wE (wD E2) JW (.leaf (.tup [(.int .i64 (.lit 0)),(.agg [(.int .u64 (.lit 0)),(.int .u64 (.lit 0)),(.int .u64 (.lit 0)),(.int .u64 (.lit 0))])])) L = [0,0,0,0,0]:=by intro L;rw[wu rfl];rfl
 rw[JX,adC];simp only[xg,xM,wV,wW,xQ,xR,xA,xC,Aw,Hf,Av,abV,wP,bne_iff_ne,ne_eq,zer]
 have call:wE (wD E2) JW (.call 218 [(.var kU 3),(.var kU 4),(.var kU 8),(.var kU 9)] 10 4 (.leaf (.tup [(.int .i64 (.bin .add .i64 (.bin .add .i64 (.var kI 2) (.var kI 7)) (.lit 1))),(.agg [(.int .u64 (.var kU 10)),(.int .u64 (.var kU 11)),(.int .u64 (.var kU 12)),(.int .u64 (.var kU 13))])]))) [n,c,e,h,l,n',c',e',h',l'] = [i64 (i64 (i64 e+i64 e')+1)]++oW (nB h l*nB h' l') :=
  (vX (go _ rfl) rfl).trans (fin _ rfl)
 rw[call];by_cases a1:u8 c=1
 ·rw[if_neg (λh=>h a1)];by_cases b1:u8 c'=1
  ·rw[if_neg (λh=>h b1),if_pos ⟨.inl a1,.inl b1⟩];rfl
  ·rw[if_pos b1];by_cases b2:u8 c'=2
   ·rw[if_neg (λh=>h b2),if_pos ⟨.inl a1,.inr b2⟩];rfl
   ·rw[if_pos b2,if_neg (λh=>h.2.elim b1 b2)]
 ·rw[if_pos a1];by_cases a2:u8 c=2
  ·rw[if_neg (λh=>h a2)];by_cases b1:u8 c'=1
   ·rw[if_neg (λh=>h b1),if_pos ⟨.inr a2,.inl b1⟩];rfl
   ·rw[if_pos b1];by_cases b2:u8 c'=2
    ·rw[if_neg (λh=>h b2),if_pos ⟨.inr a2,.inr b2⟩];rfl
    ·rw[if_pos b2,if_neg (λh=>h.2.elim b1 b2)]
  ·rw[if_pos a2,if_neg (λh=>h.1.elim a1 a2)]
theorem aq6 (x i:Nat):x|||2^i=if x.testBit i then x else x+2^i:=by
 by_cases h:x.testBit i
 ·rw[if_pos h];apply Nat.eq_of_testBit_eq;intro k;rw[Nat.testBit_or,Nat.testBit_two_pow];by_cases hk:i=k
  ·subst hk;simp[h]
  ·simp[hk]
 ·rw[if_neg h]
  have h0:x/2^i%2=0:=by rw[Nat.testBit_eq_decide_div_mod_eq] at h;simp at h;exact h
  have hp:=FP.two_pow_pos i
  have hx:x=2^(i+1)*(x/2^(i+1))+x%2^i:=by
   have e1:=Nat.div_add_mod x (2^(i+1));have e2:x%2^(i+1)=x%2^i+2^i*(x/2^i%2):=by rw[Nat.pow_succ,Nat.mod_mul]
   rw[e2,h0] at e1;omega
  have hr:x%2^i<2^i:=Nat.mod_lt _ hp;generalize x/2^(i+1)=q at *
  generalize x%2^i=r at *
  have hr2:r<2^(i+1):=by rw[Nat.pow_succ];omega
  have hr3:2^i+r<2^(i+1):=by rw[Nat.pow_succ];omega
  rw[hx,show 2^(i+1)*q+r+2^i=2^(i+1)*q+(2^i+r) by omega,Nat.two_pow_add_eq_or_of_lt hr2,Nat.two_pow_add_eq_or_of_lt hr3]
  have h3:2^i+r=2^i|||r:=by have:=Nat.two_pow_add_eq_or_of_lt hr 1;rw[Nat.mul_one] at this;exact this
  rw[h3,Nat.or_assoc,Nat.or_comm r]
theorem aie (x y i:Nat):wJ .or .u64 (wd x i) (wd y i)=wd (x|||y) i:=by rw[zz,zz,WV _ _ (Nat.mod_lt _ zu) (Nat.mod_lt _ zu),zz];congr 1;apply Nat.eq_of_testBit_eq;intro k;rw[Nat.testBit_or,Nc,Nc,Nc,Nat.testBit_or];cases decide (k<64)<;>simp
def PX (f c:Nat):Nat:=if FP.aeV f c=5 then c+2^(FP.fP f-2) else c
theorem aq7 {f c:Nat} (hf:f<4):(FP.aeV f c=4↔FP.inf f+2^(FP.fP f-2)<=c)/\(FP.aeV f c=5↔FP.inf f<c/\c<FP.inf f+2^(FP.fP f-2)):=by
 have h:=Nk hf;have hp:=FP.two_pow_pos (FP.fP f-2);have hp1:=FP.two_pow_pos (FP.fP f-1);unfold FP.aeV;by_cases h0:c=0
 ·rw[if_pos h0];omega
 rw[if_neg h0];by_cases h1:c<2^(FP.fP f-1)
 ·rw[if_pos h1];omega
 rw[if_neg h1];by_cases h2:c<FP.inf f
 ·rw[if_pos h2];omega
 rw[if_neg h2];by_cases h3:c=FP.inf f
 ·rw[if_pos h3];omega
 rw[if_neg h3];by_cases h4:FP.inf f+2^(FP.fP f-2)<=c
 ·rw[if_pos h4];omega
 ·rw[if_neg h4];omega
theorem aq8 {f c:Nat} (hf:f<4) (hc:c<2^(FP.fW f-1)) (hn:FP.inf f<c) (neg:Bool):(FP.mk f neg c).testBit (FP.fP f-2)=decide (FP.inf f+2^(FP.fP f-2)<=c):=by
 obtain⟨n1,n2,n3,n4,n5,n6,n7,n8,n9⟩:=FP.axv hf;obtain⟨i1,i2,i3,i4⟩:=Nk hf;have htop:=FP.aC5 hf;have hp:=FP.two_pow_pos (FP.fP f-2);have hp1:=FP.two_pow_pos (FP.fP f-1);have hW:2^(FP.fW f-1)=2^(FP.fP f-1)*2^(FP.fW f-FP.fP f):=by rw[<- Nat.pow_add];congr 1;omega
 have hinf:FP.inf f=2^(FP.fP f-1)*(2*FP.fE f+1):=by unfold FP.inf FP.aCE;rw[Nat.mul_comm]
 have hr:c=FP.inf f+c%2^(FP.fP f-1):=by
  have h1:c%2^(FP.fP f-1)=c-FP.inf f:=by obtain⟨r,rfl⟩:∃ r,c=FP.inf f+r:=⟨c-FP.inf f,by omega⟩;rw[hinf,Nat.mul_add_mod,Nat.mod_eq_of_lt (by omega)];omega
  omega
 rw[Nat.testBit_eq_decide_div_mod_eq,decide_eq_decide]
 have key:FP.mk f neg c/2^(FP.fP f-2)%2=c%2^(FP.fP f-1)/2^(FP.fP f-2)%2:=by
  have e1:FP.mk f neg c%2^(FP.fP f-1)=c%2^(FP.fP f-1):=by unfold FP.mk;rw[hW,show neg.toNat*(2^(FP.fP f-1)*2^(FP.fW f-FP.fP f))=2^(FP.fP f-1)*(neg.toNat*2^(FP.fW f-FP.fP f)) by ac_rfl,Nat.add_mul_mod_self_left]
  rw[<- e1,i4,Nat.mul_comm 2,Nat.mod_mul_right_div_self,Nat.mod_mod]
 rw[key];exact ah0 hp i4 hr (Nat.mod_lt _ hp1)
theorem aq9 (f c d:Nat) (neg:Bool):FP.mk f neg (c+d)=FP.mk f neg c+d:=by unfold FP.mk;omega
theorem ab8 (f a b:Int) (hf:fN f<4) (hn:4<=vT (fN f) (nB a b)):Hy [f,a,b]=oB (FP.mk (fN f) (FP.sgn (fN f) (nB a b)) (PX (fN f) (FP.cod (fN f) (nB a b)))):=by
 refine Eq.trans ?_ (Nj _);obtain⟨n1,n2,n3,n4,n5,n6,n7,n8,n9⟩:=FP.axv hf;have hcl:=FP.aCH (fN f) (nB a b);have hcut:=FP.aDR hf (nB a b);have hlt:=FP.aDS hf (FP.sgn (fN f) (nB a b)) hcl;have hW:FP.mk (fN f) (FP.sgn (fN f) (nB a b)) (FP.cod (fN f) (nB a b))<wy:=Nat.lt_of_lt_of_le hlt (PV (by omega));rw[Hy,adS];refine(vX (r:=oB (FP.mk (fN f) (FP.sgn (fN f) (nB a b)) (FP.cod (fN f) (nB a b)))) ?_ rfl).trans ?_
 ·simp only[vS,awQ];rw[Xk,wz,wX,hcut,wS]
 have hcls:vT (fN f) (nB a b)=FP.aeV (fN f) (FP.cod (fN f) (nB a b)):=by unfold vT FP.cls;rw[if_pos hf]
 rw[hcls] at hn;generalize FP.sgn (fN f) (nB a b)=s at *
 generalize FP.cod (fN f) (nB a b)=c at *
 have hc2:vT (fN f) (FP.mk (fN f) s c)=FP.aeV (fN f) c:=by unfold vT FP.cls;rw[if_pos hf,FP.aDA s hcl]
 refine(vX (r:=[1]) ?_ rfl).trans ?_
 ·simp only[vS,awR];rw[JK,wz,yH hW,hc2,decide_eq_true hn];rfl
 rw[xg];simp only[xM,wV,wW,xQ,xR,xA,xC,wS,zG,show ww 1=true from rfl,show ww (wh true)=true from rfl];rw[if_pos (by trivial)];refine(vX (by simp only[vS,awS];exact PT _) (by rfl)).trans ?_;rw[wz];have eP:i64 ((FP.fP (fN f):Int)-2)=((FP.fP (fN f)-2:Nat):Int):=F7 (b:=2) (by omega) (by omega)
 have hK:1*2^(FP.fP (fN f)-2)<wy:=by rw[Nat.one_mul,Bl];exact Nat.pow_lt_pow_right (by decide) (by omega)
 have l1:BO [0,1,((FP.fP (fN f)-2:Nat):Int)]=oB (1*2^(FP.fP (fN f)-2)):=by have:=JJ 1 (k:=FP.fP (fN f)-2) (by decide) (by omega) hK;rw[F8.1,F8.2] at this;exact this
 refine(vX (by simp only[vS,awT,ze,eP];exact l1) (by rfl)).trans ?_;rw[wu rfl];simp only[vS,aie,Nat.one_mul];have hnan:FP.inf (fN f)<c:=FP.aDt.1 hn;obtain⟨q4,q5⟩:=aq7 (c:=c) hf
 have hor:FP.mk (fN f) s c|||2^(FP.fP (fN f)-2)=FP.mk (fN f) s (PX (fN f) c):=by
  rw[aq6,aq8 hf hcl hnan];unfold PX;by_cases h:FP.inf (fN f)+2^(FP.fP (fN f)-2)<=c
  ·rw[decide_eq_true h,if_pos rfl,if_neg (λh5=>by have:=q5.1 h5;omega)]
  ·rw[decide_eq_false h,if_neg (by decide),if_pos (q5.2 ⟨hnan,by omega⟩),aq9]
 rw[hor];rfl
def PY (f a b:Nat):Nat:=if vT f a=5\/vT f b=5 then 1 else 0
def yI (f b:Nat):Nat:=FP.mk f (FP.sgn f b) (PX f (FP.cod f b))
def zM (f:Nat):Nat:=FP.mk f false (FP.inf f+2^(FP.fP f-2))
def Ll (f m:Nat) (after:Bool) (a b:Nat):Nat×Nat :=
 if 4<=vT f a then(yI f a,PY f a b) else if 4<=vT f b then(yI f b,PY f a b)
 else if zf (vT f a) (vT f b)=true then(zM f,1)
 else if vT f a=3\/vT f b=3 then(FP.mk f (FP.sgn f a != FP.sgn f b) (FP.inf f),0)
 else(FP.mk f (FP.sgn f a != FP.sgn f b) (FP.mulC f m after (FP.sgn f a != FP.sgn f b) (FP.cod f a) (FP.cod f b)).1,(FP.mulC f m after (FP.sgn f a != FP.sgn f b) (FP.cod f a) (FP.cod f b)).2)
def oR (p:Nat×Nat):List Int:=oB p.1 ++ [(p.2:Int)]
theorem IB (n k:Nat):oR (n,k) = [wd n 1,wd n 0,(k:Int)]:=by unfold oR;rw[wS];rfl
theorem Lm {f b:Nat} : -17000<=zL f b/\zL f b<=17000:=by
 unfold zL;split
 ·rename_i h
  have hf:f<4:=by apply Classical.byContradiction;intro hf;unfold vT at h;rw[if_neg hf] at h;omega
  unfold vT at h;rw[if_pos hf] at h;refine FP.aCr hf (FP.aCn.1 ?_);unfold FP.cls at h;omega
 ·omega
theorem ab9 {x:Int} (h : -1000000<=x) (h2:x<=1000000):Fe x=x:=by unfold Fe;omega
theorem IC {f b:Nat} (hf:f<4) (h:vT f b<3):FP.cod f b<FP.inf f/\(vT f b=0↔FP.cod f b=0)/\((vT f b=1\/vT f b=2)↔FP.cod f b≠0):=by
 unfold vT at *
 rw[if_pos hf] at *
 unfold FP.cls at *
 have h1:=FP.aCn.1 h
 have h2:FP.aeV f (FP.cod f b)=0↔FP.cod f b=0:=by
  unfold FP.aeV;by_cases h0:FP.cod f b=0
  ·rw[if_pos h0];omega
  ·rw[if_neg h0];by_cases h3:FP.cod f b<2^(FP.fP f-1)
   ·rw[if_pos h3];omega
   ·rw[if_neg h3,if_pos h1];omega
 exact⟨h1,h2,by omega⟩
theorem ara {f m a b:Nat} {after neg:Bool} (hf:f<4) (ha:vT f a<3) (hb:vT f b<3) :
  FP.abw (FP.fP f) (FP.fE f) m after neg (Fe (i64 (if (vT f a=1\/vT f a=2)/\(vT f b=1\/vT f b=2) then i64 (i64 (zL f a+zL f b)+1) else 0))) (if (vT f a=1\/vT f a=2)/\(vT f b=1\/vT f b=2) then AX f a*AX f b else 0)
   = FP.mulC f m after neg (FP.cod f a) (FP.cod f b):=by
 obtain⟨a1,a2,a3⟩:=IC hf ha;obtain⟨b1,b2,b3⟩:=IC hf hb;have ra:=Lm (f:=f) (b:=a);have rb:=Lm (f:=f) (b:=b);by_cases hz:FP.cod f a=0\/FP.cod f b=0
 ·rw[if_neg (λh=>hz.elim (a3.1 h.1) (b3.1 h.2)),if_neg (λh=>hz.elim (a3.1 h.1) (b3.1 h.2))];unfold FP.abw FP.mulC
  have:FP.val f (FP.cod f a)*FP.val f (FP.cod f b)=0:=by rcases hz with h|h<;>rw[h]<;>unfold FP.val<;>rw[FP.amR]<;>simp
  rw[this,Nat.zero_mul,FP.aCu,FP.aCu]
 ·have hab:(vT f a=1\/vT f a=2)/\(vT f b=1\/vT f b=2):=⟨a3.2 (λh=>hz (.inl h)),b3.2 (λh=>hz (.inr h))⟩;rw[if_pos hab,if_pos hab];rw[xG (n:=zL f a+zL f b) (by omega) (by omega),xG (n:=zL f a+zL f b+1) (by omega) (by omega),xG (by omega) (by omega),ab9 (by omega) (by omega)];unfold zL AX;rw[if_pos hab.1,if_pos hab.2,if_pos hab.1,if_pos hab.2];exact FP.aDJ hf (by omega) a1 (by omega) b1
theorem arb (f m t a1 a0 b1 b0:Int) (hf:fN f<4) (hm:u8 m<=4):NL [f,m,t,a1,a0,b1,b0]=oR (Ll (fN f) (u8 m).toNat (ww t) (nB a1 a0) (nB b1 b0)):=by
 have hf2:=(Hg f).2 hf;have hf3:fN (u8 f)<4:=by rw[wz];exact hf
 have hm3:u8 (u8 m)<=4:=by rw[Ak];exact hm
 rw[NL,adT,xg];simp only[xM,wV,wW,xQ,xR,xA,xC,Aw,Ey,EA,Hf,Av,wP,Bool.not_eq_true',decide_eq_false_iff_not];rw[if_neg (by omega),xg];simp only[xM,wV,wW,xQ,xR,xA,xC,Aw,Ey,PQ,Hf,Av,wP,Bool.not_eq_true',decide_eq_false_iff_not];rw[if_neg (by omega)];refine(vX (by simp only[vS,akh];exact Nn _ _ _) (by rfl)).trans ?_;refine(vX (by simp only[vS,akh];exact Nn _ _ _) (by rfl)).trans ?_;rw[wz,wX,wX];have sg:∀ x,DX (fN f) x=FP.sgn (fN f) x:=λx=>by unfold DX;rw[decide_eq_true hf,Bool.true_and]
 rw[sg,sg];have ca:=F9 (fN f) (nB a1 a0);have cb:=F9 (fN f) (nB b1 b0);refine(vX (r:=[wh (zf (vT (fN f) (nB a1 a0)) (vT (fN f) (nB b1 b0)))]) ?_ rfl).trans ?_
 ·simp only[vS,awY,ca,cb];rw[aic,ca,cb,Ah,Ah]
 unfold Ll PY;generalize hbad:zf (vT (fN f) (nB a1 a0)) (vT (fN f) (nB b1 b0))=bad;have sigA:Ee [u8 f,u64 a1,u64 a0] = [wh (decide (vT (fN f) (nB a1 a0)=5))]:=by rw[Nl,wz,wX]
 have sigB:Ee [u8 f,u64 b1,u64 b0] = [wh (decide (vT (fN f) (nB b1 b0)=5))]:=by rw[Nl,wz,wX]
 have dflt:IR [u8 f]=oB (zM (fN f)):=by rw[ah2,wz,if_pos hf];rfl
 refine(vX (r:=[wh (decide (4<=vT (fN f) (nB a1 a0)))]) ?_ rfl).trans ?_
 ·simp only[vS,aki];rw[JK,wz,wX]
 rw[xg];simp only[xM,wV,wW,xQ,xR,xA,xC,wS,zG,wP,decide_eq_true_iff];by_cases na:4<=vT (fN f) (nB a1 a0)
 ·rw[if_pos na,if_pos na]
  have hb0:bad=false:=by
   rw[<- hbad];unfold zf
   cases h1:(decide (vT (fN f) (nB a1 a0)=0)||decide (vT (fN f) (nB b1 b0)=0)) with
   | false=>rfl
   | true =>
    rw[Bool.true_and];rw[Bool.or_eq_true,decide_eq_true_iff,decide_eq_true_iff] at h1;rw[decide_eq_false (by omega),decide_eq_false (by omega)];rfl
  have quA:Hy [u8 f,u64 a1,u64 a0]=oB (yI (fN f) (nB a1 a0)):=by rw[ab8 _ _ _ hf3 (by rw[wz,wX];exact na),wz,wX];rfl
  refine(vX (by simp only[vS,adU];exact dflt) (by rfl)).trans ?_;refine(vX (by simp only[vS,akj];exact quA) (by rfl)).trans ?_;rw[xg];simp only[xM,wV,wW,xQ,xR,xA,xC,wS,zG,wP,hb0];rw[if_neg (by decide)];refine(vX (by simp only[vS,Ya];exact sigA) (by rfl)).trans ?_;rw[xg];simp only[xM,wV,wW,xQ,xR,xA,xC,wS,zG,wP,decide_eq_true_iff];by_cases s1:vT (fN f) (nB a1 a0)=5
  ·rw[if_pos s1,if_pos (.inl s1),wu rfl,IB]
   (simp only[vS])<;>rfl
  rw[if_neg s1];refine(vX (by simp only[vS,Ya];exact sigB) (by rfl)).trans ?_;rw[xg];simp only[xM,wV,wW,xQ,xR,xA,xC,wS,zG,wP,decide_eq_true_iff];by_cases s2:vT (fN f) (nB b1 b0)=5
  ·rw[if_pos s2,if_pos (.inr s2),wu rfl,IB]
   (simp only[vS])<;>rfl
  ·rw[if_neg s2,if_neg (λh=>h.elim s1 s2),wu rfl,IB]
   (simp only[vS])<;>rfl
 rw[if_neg na,if_neg na];refine(vX (r:=[wh (decide (4<=vT (fN f) (nB b1 b0)))]) ?_ rfl).trans ?_
 ·simp only[vS,aki];rw[JK,wz,wX]
 rw[xg];simp only[xM,wV,wW,xQ,xR,xA,xC,wS,zG,wP,decide_eq_true_iff];by_cases nb:4<=vT (fN f) (nB b1 b0)
 ·rw[if_pos nb,if_pos nb]
  have hb0:bad=false:=by
   rw[<- hbad];unfold zf
   cases h1:(decide (vT (fN f) (nB a1 a0)=0)||decide (vT (fN f) (nB b1 b0)=0)) with
   | false=>rfl
   | true =>
    rw[Bool.true_and];rw[Bool.or_eq_true,decide_eq_true_iff,decide_eq_true_iff] at h1;rw[decide_eq_false (by omega),decide_eq_false (by omega)];rfl
  have quB:Hy [u8 f,u64 b1,u64 b0]=oB (yI (fN f) (nB b1 b0)):=by rw[ab8 _ _ _ hf3 (by rw[wz,wX];exact nb),wz,wX];rfl
  refine(vX (by simp only[vS,adU];exact dflt) (by rfl)).trans ?_;refine(vX (by simp only[vS,akj];exact quB) (by rfl)).trans ?_;rw[xg];simp only[xM,wV,wW,xQ,xR,xA,xC,wS,zG,wP,hb0];rw[if_neg (by decide)];refine(vX (by simp only[vS,Ya];exact sigA) (by rfl)).trans ?_;rw[xg];simp only[xM,wV,wW,xQ,xR,xA,xC,wS,zG,wP,decide_eq_true_iff];by_cases s1:vT (fN f) (nB a1 a0)=5
  ·rw[if_pos s1,if_pos (.inl s1),wu rfl,IB]
   (simp only[vS])<;>rfl
  rw[if_neg s1];refine(vX (by simp only[vS,Ya];exact sigB) (by rfl)).trans ?_;rw[xg];simp only[xM,wV,wW,xQ,xR,xA,xC,wS,zG,wP,decide_eq_true_iff];by_cases s2:vT (fN f) (nB b1 b0)=5
  ·rw[if_pos s2,if_pos (.inr s2),wu rfl,IB]
   (simp only[vS])<;>rfl
  ·rw[if_neg s2,if_neg (λh=>h.elim s1 s2),wu rfl,IB]
   (simp only[vS])<;>rfl
 rw[if_neg nb,if_neg nb,xg];simp only[xM,wV,wW,xQ,xR,xA,xC,wS,Ey,zG,wP,Bool.not_eq_true']
 cases bad with
 | true =>
  rw[if_neg (by decide),if_pos rfl];refine(vX (by simp only[vS,adU];exact dflt) (by rfl)).trans ?_;rw[wu rfl,IB]
  (simp only[vS])<;>rfl
 | false =>
  rw[if_pos rfl,if_neg (by decide),xg];simp only[xM,wV,wW,xQ,xR,xA,xC,wS,Aw,Nf,Hf,Av,Le,PR,wP,ca,cb,beq_iff_eq,decide_eq_true_iff]
  have hor:((if ((vT (fN f) (nB a1 a0):Nat):Int)=3 then(0:Int) else if ((vT (fN f) (nB b1 b0):Nat):Int)=3 then 1 else -1)>=0)↔(vT (fN f) (nB a1 a0)=3\/vT (fN f) (nB b1 b0)=3):=by
   by_cases h3:vT (fN f) (nB a1 a0)=3
   ·rw[if_pos (by omega)];simp[h3]
   ·rw[if_neg (by omega)];by_cases h4:vT (fN f) (nB b1 b0)=3
    ·rw[if_pos (by omega)];simp[h4]
    ·rw[if_neg (by omega)];simp[h3,h4]
  by_cases hi:vT (fN f) (nB a1 a0)=3\/vT (fN f) (nB b1 b0)=3
  ·rw[if_pos (hor.2 hi),if_pos hi];refine(vX (r:=oB (FP.mk (fN f) (FP.sgn (fN f) (nB a1 a0) != FP.sgn (fN f) (nB b1 b0)) (FP.inf (fN f)))) ?_ rfl).trans ?_
   ·simp only[vS,awZ];rw[Xn,wz,if_pos hf,wP,wS];rfl
   rw[wu rfl,IB]
   (simp only[vS])<;>rfl
  ·rw[if_neg (λh=>hi (hor.1 h)),if_neg hi];have ha3:vT (fN f) (nB a1 a0)<3:=by omega
   have hb3:vT (fN f) (nB b1 b0)<3:=by omega
   have eu:∀ x,i64 (zL (fN f) x)=zL (fN f) x:=λx=>by have:=Lm (f:=fN f) (b:=x);exact Nh this.1 this.2
   have hcond:∀ x,(((vT (fN f) x:Nat):Int)=1\/((vT (fN f) x:Nat):Int)=2)↔(vT (fN f) x=1\/vT (fN f) x=2):=λx=>by omega
   refine(vX (r:=(if (vT (fN f) (nB a1 a0)=1\/vT (fN f) (nB a1 a0)=2)/\(vT (fN f) (nB b1 b0)=1\/vT (fN f) (nB b1 b0)=2) then i64 (i64 (zL (fN f) (nB a1 a0)+zL (fN f) (nB b1 b0))+1) else 0)::oW (if (vT (fN f) (nB a1 a0)=1\/vT (fN f) (nB a1 a0)=2)/\(vT (fN f) (nB b1 b0)=1\/vT (fN f) (nB b1 b0)=2) then AX (fN f) (nB a1 a0)*AX (fN f) (nB b1 b0) else 0)) ?_ rfl).trans ?_
   ·simp only[vS,aw0,ca,cb];rw[aid,ca,cb,yH (JL _ _),yH (JL _ _),xD,xD,eu,eu];by_cases hc:(vT (fN f) (nB a1 a0)=1\/vT (fN f) (nB a1 a0)=2)/\(vT (fN f) (nB b1 b0)=1\/vT (fN f) (nB b1 b0)=2)
    ·rw[if_pos ⟨(hcond _).2 hc.1,(hcond _).2 hc.2⟩,if_pos hc,if_pos hc,Al];rfl
    ·rw[if_neg (λh=>hc ⟨(hcond _).1 h.1,(hcond _).1 h.2⟩),if_neg hc,if_neg hc];rfl
   have hlt:(if (vT (fN f) (nB a1 a0)=1\/vT (fN f) (nB a1 a0)=2)/\(vT (fN f) (nB b1 b0)=1\/vT (fN f) (nB b1 b0)=2) then AX (fN f) (nB a1 a0)*AX (fN f) (nB b1 b0) else 0)<wG:=by
    split
    ·rw[PU];exact Nat.mul_lt_mul'' (JL _ _) (JL _ _)
    ·exact afR
   have key:=ara (m:=(u8 m).toNat) (after:=ww t) (neg:=FP.sgn (fN f) (nB a1 a0) != FP.sgn (fN f) (nB b1 b0)) hf ha3 hb3;refine(vX (r:=oR (FP.mk (fN f) (FP.sgn (fN f) (nB a1 a0) != FP.sgn (fN f) (nB b1 b0)) (FP.mulC (fN f) (u8 m).toNat (ww t) (FP.sgn (fN f) (nB a1 a0) != FP.sgn (fN f) (nB b1 b0)) (FP.cod (fN f) (nB a1 a0)) (FP.cod (fN f) (nB b1 b0))).1,(FP.mulC (fN f) (u8 m).toNat (ww t) (FP.sgn (fN f) (nB a1 a0) != FP.sgn (fN f) (nB b1 b0)) (FP.cod (fN f) (nB a1 a0)) (FP.cod (fN f) (nB b1 b0))).2)) ?_ rfl).trans ?_
   ·simp only[vS,aw2];rw[ab7 _ _ _ _ _ _ _ _ _ hf3 hm3,wz,Ak,wP,wP,Ai hlt,xD];rw[show(!(FP.sgn (fN f) (nB a1 a0)==FP.sgn (fN f) (nB b1 b0)))=(FP.sgn (fN f) (nB a1 a0) != FP.sgn (fN f) (nB b1 b0)) from rfl,key];rfl
   have h8:∀ p:Nat×Nat,p.2=(FP.mulC (fN f) (u8 m).toNat (ww t) (FP.sgn (fN f) (nB a1 a0) != FP.sgn (fN f) (nB b1 b0)) (FP.cod (fN f) (nB a1 a0)) (FP.cod (fN f) (nB b1 b0))).2->u8 (p.2:Int)=(p.2:Int):=by intro p hp;have:=FP.ak1 (FP.fP (fN f)) (FP.fE (fN f)) (u8 m).toNat (ww t) (FP.sgn (fN f) (nB a1 a0) != FP.sgn (fN f) (nB b1 b0)) (FP.val (fN f) (FP.cod (fN f) (nB a1 a0))*FP.val (fN f) (FP.cod (fN f) (nB b1 b0))) (2^FP.fU (fN f));rw[hp];unfold FP.mulC;exact F6 (by omega) (by omega)
   rw[wu rfl,IB];simp only[vS,h8 _ rfl]
def arc (f t c:Nat):Nat:=c%2^(FP.fP f-1)*2^(129-FP.fP f)/2^(129-FP.fP t)
def ard (f t c:Nat):Nat:=FP.inf t+(arc f t c|||2^(FP.fP t-2))
theorem aif {x i n:Nat} (h:x<2^n) (hi:i<n):(x|||2^i)<2^n:=Nat.or_lt_two_pow h (Nat.pow_lt_pow_right (by decide) hi)
namespace FP
end FP
theorem Np {f:Nat} (hf:f<4) (b:Nat):vT f b=FP.aeV f (FP.cod f b):=by unfold vT FP.cls;rw[if_pos hf]
theorem arf {f c:Nat} (hf:f<4) (s:Bool) (hc:c<2^(FP.fW f-1)):FP.mk f s c<wy:=by have:=FP.aDs hf;exact Nat.lt_of_lt_of_le (FP.aDS hf _ hc) (PV (by omega))
def EB (f t m:Nat) (after neg:Bool) (c:Nat):Nat×Nat :=
 if 4<=FP.aeV f c then(ard f t c,if FP.aeV f c=5 then 1 else 0) else if FP.aeV f c=3 then(FP.inf t,0) else FP.aD8 f t m after neg c
end Go.Proofs.YtippohicjhilnaaGreatDoor
