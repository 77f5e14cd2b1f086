import Derived.Test.YtbembkamcdlhbaaGreatDoorZDSb
import Derived.Test.YtbembkamcdlhbaaGreatDoorZESb
import Derived.Test.YtbembkamcdlhbaaGreatDoorZFSb
set_option linter.defProp false
set_option linter.unusedSimpArgs false
set_option linter.unusedVariables false
set_option maxRecDepth 100000
namespace Go.Proofs.YtbembkamcdlhbaaGreatDoor
open Go.RowKit
theorem KG {α:Type} (l:List α):l ++ []=l:=by rw[List.append_nil]
theorem Ci {α:Type} (a:α) (l m:List α):(a::l)++m=a::(l++m):=by rw[List.cons_append]
theorem Cj {α:Type} (l:List α) : []++l=l:=by rw[List.nil_append]
theorem KH {α β:Type} (f:α→β) (a:α) (l:List α):List.map f (a::l)=f a::List.map f l:=by rw[List.map_cons]
theorem KI {α β:Type} (f:α→β):List.map f [] = []:=by rw[List.map_nil]
theorem Ck (x:Int) (l:List Int):rP (x::l) 0=x:=by rw[rP]
theorem Cm (x:Int) (l:List Int) (n:Nat):rP (x::l) (n+1)=rP l n:=by rw[rP]
theorem RH {β:Sort _} (l:List Int):∀ (xs:List X) (K:List Int→β),evs l xs K=K (xs.map (X.ev l))
 | [],K=>rfl
 | x::xs,K=>by rw[evs,Ei,RH l xs];rfl
theorem wI {Φ:uM} {ct:Ct} {a:SV} {l:List Int} {xs:List X} (h:wY ct.r (xU ct.r a)=some xs):rR Φ ct (.leaf a) l=xs.map (X.ev l):=by
 unfold rR;simp only[vF,h,RH,id]
theorem KJ {Φ:uM} {ct:Ct} {c:X} {a b:ru SV} {l:List Int} : rR Φ ct (.ite c a b) l=if sV (c.ev l)=true then rR Φ ct a l else rR Φ ct b l:=by
 unfold rR
 simp only[vF]
 cases sV (c.ev l)<;>rfl
theorem wJ {Φ:uM} {ct:Ct} {f:Nat} {args:List X} {base n:Nat} {t:ru SV} {l:List Int} {r:List Int} (h:Φ f (args.map (X.ev l))=r) (hn:r.length=n):rR Φ ct (.call f args base n t) l=rR Φ ct t (l++r):=by
 unfold rR
 simp only[vF,RH,h]
 rw[show Nat.beq r.length n=true by rw[hn];exact Nat.beq_refl n]
theorem IV (b:Bool):sV (sF b)=b:=by cases b<;>rfl
def i64 (n:Int):Int:=uR .i64 n
def u8 (n:Int):Int:=uR .u8 n
theorem X0 (n:Int) : -9223372036854775808≤i64 n∧i64 n≤9223372036854775807:=by unfold i64;rw[uw];exact Bc .i64 n
theorem Ns (n:Int):0≤u8 n∧u8 n≤255:=by unfold u8;rw[uw];exact Bc .u8 n
theorem IW {n:Int} (h1 : -9223372036854775808≤n) (h2:n≤9223372036854775807):i64 n=n:=by unfold i64;rw[uw];exact Mr h1 h2
theorem agE {n:Int} (h1:0≤n) (h2:n≤255):u8 n=n:=by unfold u8;rw[uw];exact Mr h1 h2
theorem EU (n:Int):IntKind.i64.wrap n=i64 n:=by unfold i64;rw[uw]
theorem yu (n:Int):IntKind.u64.wrap n=u64 n:=by unfold u64;rw[uw]
theorem X3 (n:Int):IntKind.u8.wrap n=u8 n:=by unfold u8;rw[uw]
theorem agF (n:Int):i64 (i64 n)=i64 n:=IW (X0 n).1 (X0 n).2
theorem zF (n:Int):u64 (u64 n)=u64 n:=Bo (yP n)
theorem X4 (n:Int):u8 (u8 n)=u8 n:=agE (Ns n).1 (Ns n).2
theorem Nt (n:Nat) (h:n<rH):u64 (n:Int)=n:=Bo ⟨Int.natCast_nonneg _,by exact_mod_cast h⟩
theorem yQ (n i:Nat):u64 (wd n i)=wd n i:=Bo (AY _ _)
abbrev fN (a:Int):Nat:=(u8 a).toNat
theorem agG (a:Int):fN (u8 a)=fN a:=by unfold fN;rw[X4]
def nB (h l:Int):Nat:=(u64 h).toNat*rH+(u64 l).toNat
def nW (a b c d:Int):Nat:=(u64 a).toNat+rH*((u64 b).toNat+rH*((u64 c).toNat+rH*(u64 d).toNat))
def oB (n:Nat):List Int:=[wd n 1,wd n 0]
def oW (n:Nat):List Int:=[wd n 0,wd n 1,wd n 2,wd n 3]
theorem yw (n:Nat):oB n = [wd n 1,wd n 0]:=by rw[oB]
theorem KL (n:Nat):oW n = [wd n 0,wd n 1,wd n 2,wd n 3]:=by rw[oW]
theorem EW:rH=18446744073709551616:=rfl
theorem X5:rO=340282366920938463463374607431768211456:=by decide
theorem Dz (h l:Int):nB h l<rO:=by
 unfold nB
 have h1:=(uJ h).2;have h2:=(uJ l).2
 rw[EW] at *;rw[X5];omega
theorem EX (h l:Int):u64 h=wd (nB h l) 1∧u64 l=wd (nB h l) 0:=by
 have h1:=(uJ h);have h2:=(uJ l)
 have e0:=acx (h:=(u64 h).toNat) h2.2
 have e1:=acy h1.2 h2.2
 unfold JI at e0 e1
 unfold nB
 rw[e0,e1]
 exact⟨h1.1.symm,h2.1.symm⟩
theorem agH {n:Nat} (h:n<rO):nB (wd n 1) (wd n 0)=n:=by
 have:=EX (wd n 1) (wd n 0)
 rw[Bo (AY _ _),Bo (AY _ _)] at this
 exact(Us h (Dz _ _) this.2 this.1).symm
theorem Nu (n:Nat):nB (wd n 1) (wd n 0)=n%rO:=by
 have:=agH (n:=n%rO) (Nat.mod_lt _ JJ)
 rw[Bb n 1 (by decide),Bb n 0 (by decide)] at this
 exact this
theorem IX (a b c d:Int):u64 a=wd (nW a b c d) 0∧u64 b=wd (nW a b c d) 1∧u64 c=wd (nW a b c d) 2∧u64 d=wd (nW a b c d) 3∧nW a b c d<sP:=by
 obtain⟨h0,h1,h2,h3,h4⟩:=VW _ _ _ _ (uJ a).2 (uJ b).2 (uJ c).2 (uJ d).2
 unfold nW
 rw[h0,h1,h2,h3,(uJ _).1,(uJ _).1,(uJ _).1,(uJ _).1]
 exact⟨rfl,rfl,rfl,rfl,h4⟩
theorem RI (a b c d:Int):nW a b c d<sP:=(IX a b c d).2.2.2.2
theorem agI {n:Nat} (h:n<sP):nW (wd n 0) (wd n 1) (wd n 2) (wd n 3)=n:=by
 obtain⟨h0,h1,h2,h3,h4⟩:=IX (wd n 0) (wd n 1) (wd n 2) (wd n 3)
 rw[Bo (AY _ _)] at h0 h1 h2 h3
 exact(acD h h4 h0 h1 h2 h3).symm
theorem Br (h l:Int):∃ n:Nat,n<rO∧nB h l=n∧u64 h=wd n 1∧u64 l=wd n 0:=⟨nB h l,Dz h l,rfl,(EX h l).1,(EX h l).2⟩
theorem X6 (a b c d:Int):∃ n:Nat,n<sP∧nW a b c d=n∧u64 a=wd n 0∧u64 b=wd n 1∧u64 c=wd n 2∧u64 d=wd n 3:=by
 obtain⟨h0,h1,h2,h3,h4⟩:=IX a b c d
 exact⟨_,h4,rfl,h0,h1,h2,h3⟩
theorem yx (n i:Nat):wd n i=((n/rH^i%rH:Nat):Int):=rfl
theorem EY (a j k:Nat):(a/rH^j%rH).testBit k=(decide (k<64)&&a.testBit (64*j+k)):=by
 by_cases hk:k<64
 ·rw[JL a j k hk];simp[hk]
 ·rw[Gh,Nat.testBit_mod_two_pow];simp[hk]
theorem agJ (a r j:Nat) (hr:r<64):a*2^r/rH^j%rH=(a/rH^j%rH*2^r%rH)|||(if j=0 then 0 else a/rH^(j-1)%rH/2^(64-r)):=by
 apply Nat.eq_of_testBit_eq
 intro k
 have e:rH=2^64:=Gh
 rw[EY,Nat.testBit_or,show a/rH^j%rH*2^r%rH=a/rH^j%rH*2^r%2^64 by rw[← e],Nat.testBit_mod_two_pow,Nat.testBit_mul_two_pow,Nat.testBit_mul_two_pow,EY]
 by_cases hk:k<64
 ·by_cases hj:j=0
  ·subst hj
   by_cases h:r≤k
   ·simp[hk,h];intro;omega
   ·simp[hk,h]
  ·rw[if_neg hj,Nat.testBit_div_two_pow,EY]
   by_cases h:r≤k
   ·have h2:¬ (64-r+k<64):=by omega
    have h3:k-r<64:=by omega
    simp[hk,h,h3,show r≤64*j+k by omega,show 64*j+k-r=64*j+(k-r) by omega,show ¬ (k+(64-r)<64) by omega]
   ·simp[hk,h,show r≤64*j+k by omega,show k+(64-r)<64 by omega,show 64*j+k-r=64*(j-1)+(k+(64-r)) by omega]
 ·by_cases hj:j=0
  ·subst hj;simp[hk]
  ·rw[if_neg hj,Nat.testBit_div_two_pow,EY]
   simp[hk]
   intro h;omega
theorem RJ (a r j:Nat) (hr:r<64):wd (a*2^r) j=((((wd a j).toNat*2^r%rH)|||(if j=0 then 0 else(wd a (j-1)).toNat/2^(64-r)):Nat):Int):=by
 rw[yx,agJ a r j hr,yx,yx,Int.toNat_natCast,Int.toNat_natCast]
theorem X7 (a w i:Nat):wd (a*rH^w) i=if i<w then 0 else wd a (i-w):=by
 rw[yx,yx]
 split
 ·rename_i h
  obtain⟨d,rfl⟩:∃ d,w=i+1+d:=⟨w-i-1,by omega⟩
  rw[show a*rH^(i+1+d)=a*rH^d*rH*rH^i by rw[Nat.pow_add,Nat.pow_add,Nat.pow_one];ac_rfl,Nat.mul_div_cancel _ (AZ i),Nat.mul_mod_left];rfl
 ·rename_i h
  obtain⟨d,rfl⟩:∃ d,i=w+d:=⟨i-w,by omega⟩
  rw[Nat.pow_add,← Nat.div_div_eq_div_mul,Nat.mul_div_cancel _ (AZ w),show w+d-w=d by omega]
theorem RL (x y:Nat) (hx:x<rH) (hy:y<rH):rY .or .u64 (x:Int) (y:Int)=((x|||y:Nat):Int):=by
 have e:rH=2^64:=Gh
 rw[← Em]
 simp only[fold]
 have h1:um .u64 (x:Int)=x:=by show x%xO .u64=x;rw[show xO .u64=rH from rfl,Nat.mod_eq_of_lt hx]
 have h2:um .u64 (y:Int)=y:=by show y%xO .u64=y;rw[show xO .u64=rH from rfl,Nat.mod_eq_of_lt hy]
 rw[h1,h2]
 have:x|||y<rH:=by rw[e] at *;exact Nat.or_lt_two_pow hx hy
 exact Nt _ this
theorem agK (x r:Nat) (hr:r≤64):rY .shl .u64 (x:Int) (r:Int)=((x*2^r%rH:Nat):Int):=by
 simp only[rY,Int.toNat_natCast,IntKind.bits,Nat.min_eq_left hr]
 rw[show((x:Int)*2^r)=((x*2^r:Nat):Int) by push_cast;rfl,yu]
 unfold u64
 rw[uw]
 unfold IntKind.wrap IntKind.bits IntKind.signed
 simp[EW]
theorem X8 (x r:Nat) (hr:r≤64):rY .shr .u64 (x:Int) (r:Int)=((x/2^r:Nat):Int):=by
 simp only[rY,Int.toNat_natCast,IntKind.bits,Nat.min_eq_left hr]
 rw[Int.fdiv_eq_ediv_of_nonneg _ (Int.pow_nonneg (by decide))];simp
theorem agL (m:Int):rY .and .i64 m 63=m%64:=by
 rw[← Em]
 simp only[fold]
 have h2:um .i64 63=63:=by decide
 have h1:=Pm .i64 m
 have h3:Nat.land (um .i64 m) 63=um .i64 m%64:=Nat.and_two_pow_sub_one_eq_mod (n:=6) (x:=um .i64 m)
 rw[h2,uw,h3,show Int.ofNat (um .i64 m%64)=((um .i64 m%64:Nat):Int) from rfl,EU,IW (by omega) (by omega)]
 show((um .i64 m%64:Nat):Int)=m%64
 have h4:((um .i64 m%64:Nat):Int)=(um .i64 m:Int)%64:=by simp
 rw[h4,h1]
 show m%18446744073709551616%64=m%64
 omega
theorem X9 (l:List Int) (n:Int):X.ev l (.lit n)=n:=by rw[X.ev]
theorem Ya (l:List Int) (op:BinOp) (k:IntKind) (a b:X):X.ev l (.bin op k a b)=rY op k (a.ev l) (b.ev l):=by rw[X.ev,Em]
theorem Yb (l:List Int) (k:IntKind) (a:X):X.ev l (.conv k a)=k.wrap (a.ev l):=by rw[X.ev,uw]
theorem RN (l:List Int) (a:X):X.ev l (.not a)=sF (!sV (a.ev l)):=by rw[X.ev,yY]
theorem agM (l:List Int) (a b:X):X.ev l (.and a b)=sF (sV (a.ev l)&&sV (b.ev l)):=by
 rw[X.ev];cases sV (a.ev l)<;>rfl
theorem agN (l:List Int) (a b:X):X.ev l (.beq a b)=sF (sV (a.ev l)==sV (b.ev l)):=by
 rw[X.ev];cases sV (a.ev l)<;>cases sV (b.ev l)<;>rfl
theorem Yc (l:List Int) (a b:X):X.ev l (.min a b)=min (a.ev l) (b.ev l):=by
 rw[X.ev,yX]
 by_cases h:b.ev l<a.ev l
 ·rw[decide_eq_true h,Int.min_eq_right (by omega)]
 ·rw[decide_eq_false h,Int.min_eq_left (by omega)]
theorem Yd (l:List Int) (a b:X):X.ev l (.max a b)=max (a.ev l) (b.ev l):=by
 rw[X.ev,yX]
 by_cases h:a.ev l<b.ev l
 ·rw[decide_eq_true h,Int.max_eq_right (by omega)]
 ·rw[decide_eq_false h,Int.max_eq_left (by omega)]
theorem Ye (l:List Int) (c a b:X):X.ev l (.ite c a b)=if sV (c.ev l)=true then a.ev l else b.ev l:=by
 rw[X.ev];cases sV (c.ev l)<;>rfl
theorem Yf (l:List Int) (i:Nat):X.ev l (.var kU i)=u64 (rP l i):=by rw[X.ev];rfl
theorem Yg (l:List Int) (i:Nat):X.ev l (.var kI i)=i64 (rP l i):=by rw[X.ev];rfl
theorem agO (l:List Int) (i:Nat):X.ev l (.var kB i)=u8 (rP l i):=by rw[X.ev];rfl
theorem Nv (l:List Int) (i:Nat):X.ev l (.var .bool i)=sF (sV (rP l i)):=by rw[X.ev];rfl
theorem agP (l:List Int) (i:Nat):X.ev l (.var .bit i)=sF (sV (rP l i)):=by rw[X.ev];rfl
theorem Yh (k:IntKind) (a b:Int):rY .eql k a b=sF (a==b):=by rw[rY]
theorem agQ (k:IntKind) (a b:Int):rY .neq k a b=sF (a != b):=by rw[rY]
theorem Yi (k:IntKind) (a b:Int):rY .lss k a b=sF (decide (a<b)):=by rw[rY]
theorem agR (k:IntKind) (a b:Int):rY .leq k a b=sF (decide (a≤b)):=by rw[rY]
theorem agS (k:IntKind) (a b:Int):rY .gtr k a b=sF (decide (a>b)):=by rw[rY]
theorem agT (k:IntKind) (a b:Int):rY .geq k a b=sF (decide (a≥b)):=by rw[rY]
theorem agU (a b:Int):rY .add .i64 a b=i64 (a+b):=EU _
theorem Nw (a b:Int):rY .sub .i64 a b=i64 (a-b):=EU _
theorem agV (a b:Int):rY .sub .u64 a b=u64 (a-b):=yu _
theorem RO (p q r:Nat) (hp:p<rH) (hq:q<rH) (hr:r<64):rY .or .u64 (rY .shl .u64 (p:Int) (u64 (r:Int))) (rY .shr .u64 (rY .shr .u64 (q:Int) 1) (rY .sub .u64 63 (u64 (r:Int))))=((p*2^r%rH|||q/2^(64-r):Nat):Int):=by
 have e1:u64 (r:Int)=(r:Int):=Nt r (by rw[EW];omega)
 rw[e1,agV,show(63:Int)-(r:Int)=((63-r:Nat):Int) by omega,Nt (63-r) (by rw[EW];omega),agK p r (by omega),show(1:Int)=((1:Nat):Int) from rfl,X8 q 1 (by omega),X8 _ (63-r) (by omega)]
 have e2:q/2^1/2^(63-r)=q/2^(64-r):=by rw[Nat.div_div_eq_div_mul,← Nat.pow_add];congr 2;omega
 rw[e2]
 exact RL _ _ (Nat.mod_lt _ vC) (Nat.lt_of_le_of_lt (Nat.div_le_self _ _) hq)
def uf:=And.intro @KG (And.intro @Ci (And.intro @Cj (And.intro @KH (And.intro @KI (And.intro @Ck (And.intro @Cm (And.intro @yw (And.intro @KL (And.intro @Ya (And.intro @Yb (And.intro @Ye (And.intro @X9 (And.intro @Yf (And.intro @Yg (And.intro @agO (And.intro @Nv (And.intro @agP (And.intro @RN (And.intro @agM (And.intro @agN (And.intro @Yd (And.intro @Yc (And.intro @Yh (And.intro @agQ (And.intro @Yi (And.intro @agR (And.intro @agS (And.intro @agT (And.intro @agU (And.intro @Nw (And.intro @IV (And.intro @yu (And.intro @EU (And.intro @X3 (And.intro @yQ (And.intro @zF (And.intro @agF (@X4))))))))))))))))))))))))))))))))))))))
open Go.RowKit
theorem agW (c:Int) (M:Nat):∃ m:Nat,max (-(M:Int)) (min (max (i64 c) 0) (M:Int))=(m:Int)∧m=min (i64 c).toNat M:=⟨min (i64 c).toNat M,by omega,rfl⟩
theorem agX (m:Int):rY .shr .i64 m 6=m/64:=by
 simp only[rY,IntKind.bits]
 rw[show min ((6:Int).toNat) 64=6 by decide,Int.fdiv_eq_ediv_of_nonneg _ (by decide)];rfl
theorem agY {n:Int} (h1 : -1000≤n) (h2:n≤1000):i64 n=n:=IW (by omega) (by omega)
theorem agZ (n j r:Nat) (hr:r<64):rY .or .u64 (rY .shl .u64 (wd n (j+1)) (u64 (r:Int))) (rY .shr .u64 (rY .shr .u64 (wd n j) 1) (rY .sub .u64 63 (u64 (r:Int))))=wd (n*2^r) (j+1):=by
 rw[RJ n r (j+1) hr,if_neg (by omega),show j+1-1=j by omega,yx,yx,RO _ _ r (Nat.mod_lt _ vC) (Nat.mod_lt _ vC) hr,Int.toNat_natCast,Int.toNat_natCast]
theorem Yj (n r:Nat) (hr:r<64):rY .or .u64 (rY .shl .u64 (wd n 0) (u64 (r:Int))) (rY .shr .u64 0 (rY .sub .u64 63 (u64 (r:Int))))=wd (n*2^r) 0:=by
 have:=RO (n/rH^0%rH) 0 r (Nat.mod_lt _ vC) vC hr
 rw[RJ n r 0 hr,if_pos rfl,yx,Int.toNat_natCast]
 simp only[Nat.zero_div] at this
 rw[← this]
 congr 1
theorem Yk (n r:Nat) (hr:r<64):rY .or .u64 (rY .shl .u64 (wd n 0) (u64 (r:Int))) (rY .shr .u64 (rY .shr .u64 0 1) (rY .sub .u64 63 (u64 (r:Int))))=wd (n*2^r) 0:=by
 have:=RO (n/rH^0%rH) 0 r (Nat.mod_lt _ vC) vC hr
 rw[RJ n r 0 hr,if_pos rfl,yx,Int.toNat_natCast]
 simp only[Nat.zero_div] at this
 rw[← this]
 congr 1
theorem ag0 (r:Nat) (hr:r<64):rY .or .u64 (rY .shl .u64 0 (u64 (r:Int))) (rY .shr .u64 0 (rY .sub .u64 63 (u64 (r:Int))))=0:=by
 have:=Yj 0 r hr;simp only[Gp,Nat.zero_mul] at this;exact this
theorem ag1 (r:Nat) (hr:r<64):rY .or .u64 (rY .shl .u64 0 (u64 (r:Int))) (rY .shr .u64 (rY .shr .u64 0 1) (rY .sub .u64 63 (u64 (r:Int))))=0:=by
 have:=Yk 0 r hr;simp only[Gp,Nat.zero_mul] at this;exact this
theorem Yl (n m:Nat):wd (n*2^m) 0=(if m/64=0 then wd (n*2^(m%64)) 0 else 0)∧wd (n*2^m) 1=(if m/64=0 then wd (n*2^(m%64)) 1 else if m/64=1 then wd (n*2^(m%64)) 0 else 0):=by
 have e:n*2^m=n*2^(m%64)*rH^(m/64):=by
  conv=>lhs;rw[← Nat.div_add_mod m 64,Nat.pow_add,Nat.pow_mul,← Gh]
  ac_rfl
 rw[e,X7,X7]
 constructor
 ·by_cases h:m/64=0
  ·rw[h,if_neg (by omega),if_pos rfl]
  ·rw[if_pos (by omega),if_neg h]
 ·by_cases h:m/64=0
  ·rw[h,if_neg (by omega),if_pos rfl]
  ·by_cases h1:m/64=1
   ·rw[h1,if_neg (by omega),if_neg (by omega),if_pos rfl]
   ·rw[if_pos (by omega),if_neg h,if_neg h1]
theorem ag2 (a b c:Int):Nk [a,b,c]=oB (nB a b*2^(i64 c).toNat%rO):=by
 obtain⟨n,hn,e,h1,h0⟩:=Br a b
 obtain⟨m,hm,hm2⟩:=agW c 128
 rw[Nk,Rx,wI rfl,e]
 simp only[KG,Ci,Cj,KH,KI,Ck,Cm,Ya,Yb,Ye,X9,Yf,Yg,Yd,Yc,h1,h0,yu]
 have hm':max (-128) (min (max (i64 c) 0) 128)=(m:Int):=hm
 rw[hm',agX,agL,Nw,Nw,Nw]
 have hpow:n*2^(i64 c).toNat%rO=n*2^m%rO:=by
  by_cases h:(i64 c).toNat≤128
  ·rw[hm2,Nat.min_eq_left h]
  ·rw[hm2,Nat.min_eq_right (by omega),Mi,Nat.mul_mod_left]
   obtain⟨d,hd⟩:∃ d,(i64 c).toNat=128+d:=⟨(i64 c).toNat-128,by omega⟩
   rw[hd,Nat.pow_add,show n*(2^128*2^d)=n*2^d*2^128 by ac_rfl,Nat.mul_mod_left]
 rw[hpow]
 unfold oB
 rw[Bb _ 1 (by decide),Bb _ 0 (by decide),(Yl n m).1,(Yl n m).2]
 have hr:m%64<64:=Nat.mod_lt _ (by decide)
 have hc:((m:Int)%64)=((m%64:Nat):Int):=by simp
 have hd:((m:Int)/64)=((m/64:Nat):Int):=by simp
 have hle:m/64≤2:=by omega
 rw[hc,hd]
 generalize m/64=w at *
 generalize m%64=r at *
 rcases(show w=0∨w=1∨w=2 by omega) with rfl|rfl|rfl <;>
  simp[Yi,Yh,IV,agY,agZ,Yj,Yk,ag0,ag1,hr]
open Go.RowKit
theorem ag3 (a b:Int):Nj [a,b] = [sF (decide (nB a b=0))]:=by
 obtain⟨n,hn,e,h1,h0⟩:=Br a b
 rw[Nj,Rp,wI rfl,e]
 simp only[uf,h1,h0,show sV 1=true from rfl,Bool.and_true]
 congr 2
 rw[Bool.eq_iff_iff]
 simp only[Bool.and_eq_true,beq_iff_eq,decide_eq_true_iff]
 exact acE hn
theorem ag4 (a b c d:Int):Hf [a,b,c,d] = [wd (nB a b+nB c d) 1,wd (nB a b+nB c d) 0,sF (decide (rO≤nB a b+nB c d))]:=by
 obtain⟨x,hx,e,h1,h0⟩:=Br a b
 obtain⟨y,hy,e',h1',h0'⟩:=Br c d
 rw[e,e',Hf,Rq]
 have z0:uo 0=((vg x y 0:Nat):Int):=by rw[Ul];rfl
 have z1:uo ((vg x y 1:Nat):Int)=((vg x y 1:Nat):Int):=by unfold uo;rw[uS];exact Nc (acQ x y 1)
 refine(wJ (r:=[wd (x+y) 0,((vg x y 1:Nat):Int)]) ?_ rfl).trans ?_
 ·simp only[uf,Wx,EK,h1,h0,h1',h0',z0]
  rw[Gi,Gj]
 refine(wJ (r:=[wd (x+y) 1,((vg x y 2:Nat):Int)]) ?_ rfl).trans ?_
 ·simp only[uf,Wx,EK,h1,h0,h1',h0']
  rw[show sF (sV ((vg x y 1:Nat):Int))=uo ((vg x y 1:Nat):Int) from rfl,z1,z1,Gi,Gj]
 rw[wI rfl]
 simp only[uf]
 congr 3
 rw[Um (i:=2) (by rw[Ba];exact hx) (by rw[Ba];exact hy),Ba]
 by_cases h:rO≤x+y
 ·rw[if_pos h,decide_eq_true h];rfl
 ·rw[if_neg h,decide_eq_false h];rfl
theorem ag5 (a b c d:Int):Hl [a,b,c,d] = [wd (nB a b+rO-nB c d) 1,wd (nB a b+rO-nB c d) 0,sF (decide (nB a b<nB c d))]:=by
 obtain⟨x,hx,e,h1,h0⟩:=Br a b
 obtain⟨y,hy,e',h1',h0'⟩:=Br c d
 rw[e,e',Hl,Rs]
 have z0:uo 0=((bin x y 0:Nat):Int):=by rw[Un];rfl
 have z1:uo ((bin x y 1:Nat):Int)=((bin x y 1:Nat):Int):=by unfold uo;rw[uS];exact Nc (acR x y 1)
 have hle:y≤x+rH^2:=by rw[Ba];omega
 refine(wJ (r:=[wd (x+rO-y) 0,((bin x y 1:Nat):Int)]) ?_ rfl).trans ?_
 ·simp only[uf,Wy,EL,h1,h0,h1',h0',z0]
  rw[Gn x y 0 2 (by decide) hle,Gm,Ba]
 refine(wJ (r:=[wd (x+rO-y) 1,((bin x y 2:Nat):Int)]) ?_ rfl).trans ?_
 ·simp only[uf,Wy,EL,h1,h0,h1',h0']
  rw[show sF (sV ((bin x y 1:Nat):Int))=uo ((bin x y 1:Nat):Int) from rfl,z1,z1,Gn x y 1 2 (by decide) hle,Gm,Ba]
 rw[wI rfl]
 simp only[uf]
 congr 3
 rw[Uo (i:=2) (by rw[Ba];exact hx) (by rw[Ba];exact hy)]
 by_cases h:x<y
 ·rw[if_pos h,decide_eq_true h];rfl
 ·rw[if_neg h,decide_eq_false h];rfl
theorem Ny (a b:Int):Ho [a,b]=oB ((u64 a).toNat*(u64 b).toNat):=by
 rw[Ho,Rt]
 have h:=Uy (uJ a).2 (uJ b).2
 rw[(uJ a).1,(uJ b).1] at h
 refine(wJ (r:=oB ((u64 a).toNat*(u64 b).toNat)) ?_ rfl).trans ?_
 ·simp only[uf,afj,G9]
  rw[h.1,h.2]
 rw[wI rfl]
 simp only[uf]
theorem ag6 (a b c d:Int):Hr [a,b,c,d]=oW (nB a b*rO+nB c d):=by
 obtain⟨x,hx,e,h1,h0⟩:=Br a b
 obtain⟨y,hy,e',h1',h0'⟩:=Br c d
 rw[e,e',Hr,Ru,wI rfl]
 obtain⟨j0,j1,j2,j3⟩:=acG (h:=x) hy
 simp only[uf,h1,h0,h1',h0',j0,j1,j2,j3]
theorem Ym (a b c d:Int):Du [a,b,c,d]=oB (nW a b c d/rO):=by
 obtain⟨n,hn,e,h0,h1,h2,h3⟩:=X6 a b c d
 rw[e,Du,Rv,wI rfl]
 simp only[uf,h2,h3,Pj]
theorem Yn (a b c d:Int):Dv [a,b,c,d]=oB (nW a b c d):=by
 obtain⟨n,hn,e,h0,h1,h2,h3⟩:=X6 a b c d
 rw[e,Dv,Rw,wI rfl]
 simp only[uf,h0,h1]
def len (n:Nat):Nat:=if n=0 then 0 else Nat.log2 n+1
theorem ag7 (a:Int):H7 [a] = [(FP.fW (fN a):Int),(FP.fP (fN a):Int),(FP.fE (fN a):Int)]:=by
 unfold fN
 rw[H7,Ry]
 obtain⟨h1,h2⟩:=Ns a
 simp only[KJ,uf,Bool.not_eq_true',decide_eq_false_iff_not,decide_eq_true_iff,beq_iff_eq]
 generalize hf:u8 a=f at *
 by_cases h4:f<4
 ·rw[if_neg (by omega)]
  rcases(show f=0∨f=1∨f=2∨f=3 by omega) with rfl|rfl|rfl|rfl
  ·rw[if_pos rfl,wI rfl];rfl
  ·rw[if_neg (by decide),if_pos rfl,wI rfl];rfl
  ·rw[if_neg (by decide),if_neg (by decide),if_pos rfl,wI rfl];rfl
  ·rw[if_neg (by decide),if_neg (by decide),if_neg (by decide),wI rfl];rfl
 ·rw[if_pos h4,wI rfl]
  obtain⟨m,rfl⟩:∃ m:Nat,f=((m+4:Nat):Int):=⟨(f-4).toNat,by omega⟩
  rw[Int.toNat_natCast];rfl
open Go.RowKit
theorem XZ (f:Nat):FP.fW f≤128:=by unfold FP.fW;split<;>decide
theorem ag8 {n:Nat} (h:n≤1000000000000):i64 (n:Int)=n:=IW (by omega) (by omega)
theorem ag9 (f:Nat):i64 (FP.fW f:Int)=FP.fW f:=ag8 (by have:=XZ f;omega)
theorem aha (a:Int):KE [a] = [(FP.fW (fN a):Int)]:=by
 rw[KE,Rz]
 refine(wJ (by simp only[uf,afA];exact ag7 _) (by rfl)).trans ?_
 rw[wI rfl];simp only[uf,agG,ag9]
theorem Yo (a b c d:Int):nW (u64 a) (u64 b) (u64 c) (u64 d)=nW a b c d:=by unfold nW;rw[zF,zF,zF,zF]
theorem ahb (n:Nat):nW (wd n 0) (wd n 1) (wd n 2) (wd n 3)=n%sP:=by
 have:=agI (n:=n%sP) (Nat.mod_lt _ acz)
 rw[← BM,JM _ _ _ (by decide),JM _ _ _ (by decide),JM _ _ _ (by decide),JM _ _ _ (by decide),BM] at this
 exact this
theorem RP:sP=rO*rO:=by unfold sP;rfl
open Go.RowKit
def rW (n:Nat):List Int:=oW n
theorem ahc (n:Nat):rW n=oW n:=rfl
theorem zG {n:Nat} (h:n<rO):nB (wd n 1) (wd n 0)=n:=by rw[Nu,Nat.mod_eq_of_lt h]
open Go.RowKit
theorem IY {n:Nat} (h:n<sP):nW (wd n 0) (wd n 1) (wd n 2) (wd n 3)=n:=by rw[ahb,Nat.mod_eq_of_lt h]
open Go.RowKit
open Go.RowKit
open Go.RowKit
open Go.RowKit
theorem Yp (a b c d e f g h:Int):Ha [a,b,c,d,e,f,g,h]=Dr (nW a b c d+nW e f g h) (Nat.ble sP (nW a b c d+nW e f g h)):=rfl
theorem RQ (s:Nat) (b:Bool):Dr s b = [wd s 0,wd s 1,wd s 2,wd s 3,sF b]:=rfl
theorem Yq {p:Nat} (h:p<rO):nW 0 (wd p 0) (wd p 1) 0=p*rH:=by
 have:=zG h
 unfold nB at this
 rw[yQ,yQ] at this
 unfold nW
 rw[show u64 0=0 by decide,yQ,yQ,show(0:Int).toNat=0 from rfl,Nat.mul_zero,Nat.add_zero,Nat.zero_add,Nat.mul_comm rH]
 congr 1
 rw[Nat.mul_comm rH,Nat.add_comm];exact this
theorem Nz {a b:Nat} (ha:a<rH) (hb:b<rH):a*b<rO:=Nat.mul_lt_mul'' ha hb
theorem ahd (a1 a0 b1 b0:Nat):(a1*rH+a0)*(b1*rH+b0)=a1*b1*rO+a0*b0+a1*b0*rH+a0*b1*rH:=by
 have e:rO=rH*rH:=rO.eq_1
 rw[e]
 generalize rH=w
 rw[Nat.add_mul,Nat.mul_add,Nat.mul_add]
 have h1:a1*w*(b1*w)=a1*b1*(w*w):=by ac_rfl
 have h2:a1*w*b0=a1*b0*w:=by ac_rfl
 have h3:a0*(b1*w)=a0*b1*w:=by ac_rfl
 rw[h1,h2,h3];omega
theorem ahe (a b c d:Int):Nl [a,b,c,d]=oW (nB a b*nB c d):=by
 refine Eq.trans ?_ (ahc _)
 have ha:=(uJ a).2;have hb:=(uJ b).2;have hc:=(uJ c).2;have hd:=(uJ d).2
 have hab:=Dz a b;have hcd:=Dz c d
 have hprod:nB a b*nB c d<sP:=by
  have:=Nat.mul_lt_mul'' hab hcd
  rw[RP];exact this
 have e0:nB a b*nB c d=(u64 a).toNat*(u64 c).toNat*rO+(u64 b).toNat*(u64 d).toNat+(u64 a).toNat*(u64 d).toNat*rH+(u64 b).toNat*(u64 c).toNat*rH:=ahd _ _ _ _
 rw[e0] at hprod ⊢
 rw[Nl,RA]
 refine(wJ (by simp only[uf,Np];exact Ny _ _) (by rfl)).trans ?_
 refine(wJ (by simp only[uf,Np];exact Ny _ _) (by rfl)).trans ?_
 rw[zF,zF,zF,zF]
 have l11:=Nz ha hc;have l00:=Nz hb hd;have l10:=Nz ha hd;have l01:=Nz hb hc
 generalize (u64 a).toNat*(u64 c).toNat=p11 at *
 generalize (u64 b).toNat*(u64 d).toNat=p00 at *
 refine(wJ (r:=oW (p11*rO+p00)) ?_ rfl).trans ?_
 ·simp only[uf,afB];rw[ag6,zG l11,zG l00,KL]
 refine(wJ (by simp only[uf,Np];exact Ny _ _) (by rfl)).trans ?_
 refine(wJ (by simp only[uf,Np];exact Ny _ _) (by rfl)).trans ?_
 rw[zF,zF,zF,zF]
 generalize (u64 a).toNat*(u64 d).toNat=p10 at *
 generalize (u64 b).toNat*(u64 c).toNat=p01 at *
 refine(wJ (r:=Dr (p11*rO+p00+p10*rH) (Nat.ble sP (p11*rO+p00+p10*rH))) ?_ rfl).trans ?_
 ·simp only[uf,WP];rw[Yp,IY (by omega),Yq l10]
 refine(wJ (r:=Dr (p11*rO+p00+p10*rH+p01*rH) (Nat.ble sP (p11*rO+p00+p10*rH+p01*rH))) ?_ rfl).trans ?_
 ·simp only[uf,RQ,WP];rw[Yp,IY (by omega),Yq l01,RQ]
 rw[wI rfl]
 simp only[uf,RQ]
 rfl
open Go.RowKit
theorem ahf (x y i:Nat):rY .or .u64 (wd x i) (wd y i)=wd (x|||y) i:=by
 rw[yx,yx,RL _ _ (Nat.mod_lt _ vC) (Nat.mod_lt _ vC),yx]
 congr 1
 apply Nat.eq_of_testBit_eq
 intro k
 rw[Nat.testBit_or,EY,EY,EY,Nat.testBit_or]
 cases decide (k<64)<;>simp
open Go.RowKit
def ahg (f t c:Nat):Nat:=c%2^(FP.fP f-1)*2^(129-FP.fP f)/2^(129-FP.fP t)
def ahh (f t c:Nat):Nat:=FP.inf t+(ahg f t c|||2^(FP.fP t-2))
theorem Yr {x i n:Nat} (h:x<2^n) (hi:i<n):(x|||2^i)<2^n:=Nat.or_lt_two_pow h (Nat.pow_lt_pow_right (by decide) hi)
open Go.RowKit
namespace FP
end FP
def zg (f t m:Nat) (after neg:Bool) (c:Nat):Nat×Nat :=
 if 4≤FP.clsC f c then(ahh f t c,if FP.clsC f c=5 then 1 else 0) else if FP.clsC f c=3 then(FP.inf t,0) else FP.convC f t m after neg c
open Go.RowKit
end Go.Proofs.YtbembkamcdlhbaaGreatDoor
