import Derived.Test.YtbembkamcdlhbaaGreatDoorZDSc
import Derived.Test.YtbembkamcdlhbaaGreatDoorZESc
import Derived.Test.YtbembkamcdlhbaaGreatDoorZFSc
set_option linter.defProp false
set_option linter.unusedSimpArgs false
set_option linter.unusedVariables false
set_option maxRecDepth 100000
namespace Go.Proofs.YtbembkamcdlhbaaGreatDoor
open Go.RowKit
theorem KY {α:Type} (l:List α):l ++ []=l:=by rw[List.append_nil]
theorem Cw {α:Type} (a:α) (l m:List α):(a::l)++m=a::(l++m):=by rw[List.cons_append]
theorem Cy {α:Type} (l:List α) : []++l=l:=by rw[List.nil_append]
theorem KZ {α β:Type} (f:α→β) (a:α) (l:List α):List.map f (a::l)=f a::List.map f l:=by rw[List.map_cons]
theorem K9 {α β:Type} (f:α→β):List.map f [] = []:=by rw[List.map_nil]
theorem Cz (x:Int) (l:List Int):rE (x::l) 0=x:=by rw[rE]
theorem CB (x:Int) (l:List Int) (n:Nat):rE (x::l) (n+1)=rE l n:=by rw[rE]
theorem RX {β:Sort _} (l:List Int):∀ (xs:List X) (K:List Int→β),evs l xs K=K (xs.map (X.ev l))
 | [],K=>rfl
 | x::xs,K=>by rw[evs,Ey,RX l xs];rfl
theorem wS {Φ:uL} {ct:Ct} {a:SV} {l:List Int} {xs:List X} (h:wY ct.r (xW ct.r a)=some xs):rG Φ ct (.leaf a) l=xs.map (X.ev l):=by
 unfold rG;simp only[vE,h,RX,id]
theorem La {Φ:uL} {ct:Ct} {c:X} {a b:rf SV} {l:List Int} : rG Φ ct (.ite c a b) l=if sN (c.ev l)=true then rG Φ ct a l else rG Φ ct b l:=by
 unfold rG
 simp only[vE]
 cases sN (c.ev l)<;>rfl
theorem wT {Φ:uL} {ct:Ct} {f:Nat} {args:List X} {base n:Nat} {t:rf SV} {l:List Int} {r:List Int} (h:Φ f (args.map (X.ev l))=r) (hn:r.length=n):rG Φ ct (.call f args base n t) l=rG Φ ct t (l++r):=by
 unfold rG
 simp only[vE,RX,h]
 rw[show Nat.beq r.length n=true by rw[hn];exact Nat.beq_refl n]
theorem Jl (b:Bool):sN (rZ b)=b:=by cases b<;>rfl
def i64 (n:Int):Int:=uP .i64 n
def u8 (n:Int):Int:=uP .u8 n
theorem Yg (n:Int) : -9223372036854775808≤i64 n∧i64 n≤9223372036854775807:=by unfold i64;rw[um];exact Bl .i64 n
theorem NF (n:Int):0≤u8 n∧u8 n≤255:=by unfold u8;rw[um];exact Bl .u8 n
theorem Fs {n:Int} (h1 : -9223372036854775808≤n) (h2:n≤9223372036854775807):i64 n=n:=by unfold i64;rw[um];exact MI h1 h2
theorem agZ {n:Int} (h1:0≤n) (h2:n≤255):u8 n=n:=by unfold u8;rw[um];exact MI h1 h2
theorem DW (n:Int):IntKind.i64.wrap n=i64 n:=by unfold i64;rw[um]
theorem yA (n:Int):IntKind.u64.wrap n=u64 n:=by unfold u64;rw[um]
theorem Yh (n:Int):IntKind.u8.wrap n=u8 n:=by unfold u8;rw[um]
theorem ag0 (n:Int):i64 (i64 n)=i64 n:=Fs (Yg n).1 (Yg n).2
theorem zN (n:Int):u64 (u64 n)=u64 n:=BA (yV n)
theorem Yi (n:Int):u8 (u8 n)=u8 n:=agZ (NF n).1 (NF n).2
theorem NG (n:Nat) (h:n<ry):u64 (n:Int)=n:=BA ⟨Int.natCast_nonneg _,by exact_mod_cast h⟩
theorem yX (n i:Nat):u64 (wd n i)=wd n i:=BA (Bg _ _)
abbrev fN (a:Int):Nat:=(u8 a).toNat
theorem ag1 (a:Int):fN (u8 a)=fN a:=by unfold fN;rw[Yi]
def nB (h l:Int):Nat:=(u64 h).toNat*ry+(u64 l).toNat
def nW (a b c d:Int):Nat:=(u64 a).toNat+ry*((u64 b).toNat+ry*((u64 c).toNat+ry*(u64 d).toNat))
def oB (n:Nat):List Int:=[wd n 1,wd n 0]
def oW (n:Nat):List Int:=[wd n 0,wd n 1,wd n 2,wd n 3]
theorem yC (n:Nat):oB n = [wd n 1,wd n 0]:=by rw[oB]
theorem Lb (n:Nat):oW n = [wd n 0,wd n 1,wd n 2,wd n 3]:=by rw[oW]
theorem Fu:ry=18446744073709551616:=rfl
theorem Yj:rD=340282366920938463463374607431768211456:=by decide
theorem DX (h l:Int):nB h l<rD:=by
 unfold nB
 have h1:=(uF h).2;have h2:=(uF l).2
 rw[Fu] at *;rw[Yj];omega
theorem Fv (h l:Int):u64 h=wd (nB h l) 1∧u64 l=wd (nB h l) 0:=by
 have h1:=(uF h);have h2:=(uF l)
 have e0:=acR (h:=(u64 h).toNat) h2.2
 have e1:=acS h1.2 h2.2
 unfold J7 at e0 e1
 unfold nB
 rw[e0,e1]
 exact⟨h1.1.symm,h2.1.symm⟩
theorem ag2 {n:Nat} (h:n<rD):nB (wd n 1) (wd n 0)=n:=by
 have:=Fv (wd n 1) (wd n 0)
 rw[BA (Bg _ _),BA (Bg _ _)] at this
 exact(UF h (DX _ _) this.2 this.1).symm
theorem NH (n:Nat):nB (wd n 1) (wd n 0)=n%rD:=by
 have:=ag2 (n:=n%rD) (Nat.mod_lt _ J8)
 rw[Bj n 1 (by decide),Bj n 0 (by decide)] at this
 exact this
theorem Jm (a b c d:Int):u64 a=wd (nW a b c d) 0∧u64 b=wd (nW a b c d) 1∧u64 c=wd (nW a b c d) 2∧u64 d=wd (nW a b c d) 3∧nW a b c d<sI:=by
 obtain⟨h0,h1,h2,h3,h4⟩:=Wi _ _ _ _ (uF a).2 (uF b).2 (uF c).2 (uF d).2
 unfold nW
 rw[h0,h1,h2,h3,(uF _).1,(uF _).1,(uF _).1,(uF _).1]
 exact⟨rfl,rfl,rfl,rfl,h4⟩
theorem RY (a b c d:Int):nW a b c d<sI:=(Jm a b c d).2.2.2.2
theorem ag3 {n:Nat} (h:n<sI):nW (wd n 0) (wd n 1) (wd n 2) (wd n 3)=n:=by
 obtain⟨h0,h1,h2,h3,h4⟩:=Jm (wd n 0) (wd n 1) (wd n 2) (wd n 3)
 rw[BA (Bg _ _)] at h0 h1 h2 h3
 exact(acX h h4 h0 h1 h2 h3).symm
theorem BD (h l:Int):∃ n:Nat,n<rD∧nB h l=n∧u64 h=wd n 1∧u64 l=wd n 0:=⟨nB h l,DX h l,rfl,(Fv h l).1,(Fv h l).2⟩
theorem Yk (a b c d:Int):∃ n:Nat,n<sI∧nW a b c d=n∧u64 a=wd n 0∧u64 b=wd n 1∧u64 c=wd n 2∧u64 d=wd n 3:=by
 obtain⟨h0,h1,h2,h3,h4⟩:=Jm a b c d
 exact⟨_,h4,rfl,h0,h1,h2,h3⟩
theorem yD (n i:Nat):wd n i=((n/ry^i%ry:Nat):Int):=rfl
theorem Fw (a j k:Nat):(a/ry^j%ry).testBit k=(decide (k<64)&&a.testBit (64*j+k)):=by
 by_cases hk:k<64
 ·rw[Ka a j k hk];simp[hk]
 ·rw[GD,Nat.testBit_mod_two_pow];simp[hk]
theorem ag4 (a r j:Nat) (hr:r<64):a*2^r/ry^j%ry=(a/ry^j%ry*2^r%ry)|||(if j=0 then 0 else a/ry^(j-1)%ry/2^(64-r)):=by
 apply Nat.eq_of_testBit_eq
 intro k
 have e:ry=2^64:=GD
 rw[Fw,Nat.testBit_or,show a/ry^j%ry*2^r%ry=a/ry^j%ry*2^r%2^64 by rw[← e],Nat.testBit_mod_two_pow,Nat.testBit_mul_two_pow,Nat.testBit_mul_two_pow,Fw]
 by_cases hk:k<64
 ·by_cases hj:j=0
  ·subst hj
   by_cases h:r≤k
   ·simp[hk,h];intro;omega
   ·simp[hk,h]
  ·rw[if_neg hj,Nat.testBit_div_two_pow,Fw]
   by_cases h:r≤k
   ·have h2:¬ (64-r+k<64):=by omega
    have h3:k-r<64:=by omega
    simp[hk,h,h3,show r≤64*j+k by omega,show 64*j+k-r=64*j+(k-r) by omega,show ¬ (k+(64-r)<64) by omega]
   ·simp[hk,h,show r≤64*j+k by omega,show k+(64-r)<64 by omega,show 64*j+k-r=64*(j-1)+(k+(64-r)) by omega]
 ·by_cases hj:j=0
  ·subst hj;simp[hk]
  ·rw[if_neg hj,Nat.testBit_div_two_pow,Fw]
   simp[hk]
   intro h;omega
theorem RZ (a r j:Nat) (hr:r<64):wd (a*2^r) j=((((wd a j).toNat*2^r%ry)|||(if j=0 then 0 else(wd a (j-1)).toNat/2^(64-r)):Nat):Int):=by
 rw[yD,ag4 a r j hr,yD,yD,Int.toNat_natCast,Int.toNat_natCast]
theorem Yl (a w i:Nat):wd (a*ry^w) i=if i<w then 0 else wd a (i-w):=by
 rw[yD,yD]
 split
 ·rename_i h
  obtain⟨d,rfl⟩:∃ d,w=i+1+d:=⟨w-i-1,by omega⟩
  rw[show a*ry^(i+1+d)=a*ry^d*ry*ry^i by rw[Nat.pow_add,Nat.pow_add,Nat.pow_one];ac_rfl,Nat.mul_div_cancel _ (Bh i),Nat.mul_mod_left];rfl
 ·rename_i h
  obtain⟨d,rfl⟩:∃ d,i=w+d:=⟨i-w,by omega⟩
  rw[Nat.pow_add,← Nat.div_div_eq_div_mul,Nat.mul_div_cancel _ (Bh w),show w+d-w=d by omega]
theorem R4 (x y:Nat) (hx:x<ry) (hy:y<ry):rP .or .u64 (x:Int) (y:Int)=((x|||y:Nat):Int):=by
 have e:ry=2^64:=GD
 rw[← EB]
 simp only[fold]
 have h1:uh .u64 (x:Int)=x:=by show x%xQ .u64=x;rw[show xQ .u64=ry from rfl,Nat.mod_eq_of_lt hx]
 have h2:uh .u64 (y:Int)=y:=by show y%xQ .u64=y;rw[show xQ .u64=ry from rfl,Nat.mod_eq_of_lt hy]
 rw[h1,h2]
 have:x|||y<ry:=by rw[e] at *;exact Nat.or_lt_two_pow hx hy
 exact NG _ this
theorem ag5 (x r:Nat) (hr:r≤64):rP .shl .u64 (x:Int) (r:Int)=((x*2^r%ry:Nat):Int):=by
 simp only[rP,Int.toNat_natCast,IntKind.bits,Nat.min_eq_left hr]
 rw[show((x:Int)*2^r)=((x*2^r:Nat):Int) by push_cast;rfl,yA]
 unfold u64
 rw[um]
 unfold IntKind.wrap IntKind.bits IntKind.signed
 simp[Fu]
theorem Ym (x r:Nat) (hr:r≤64):rP .shr .u64 (x:Int) (r:Int)=((x/2^r:Nat):Int):=by
 simp only[rP,Int.toNat_natCast,IntKind.bits,Nat.min_eq_left hr]
 rw[Int.fdiv_eq_ediv_of_nonneg _ (Int.pow_nonneg (by decide))];simp
theorem ag6 (m:Int):rP .and .i64 m 63=m%64:=by
 rw[← EB]
 simp only[fold]
 have h2:uh .i64 63=63:=by decide
 have h1:=Pz .i64 m
 have h3:Nat.land (uh .i64 m) 63=uh .i64 m%64:=Nat.and_two_pow_sub_one_eq_mod (n:=6) (x:=uh .i64 m)
 rw[h2,um,h3,show Int.ofNat (uh .i64 m%64)=((uh .i64 m%64:Nat):Int) from rfl,DW,Fs (by omega) (by omega)]
 show((uh .i64 m%64:Nat):Int)=m%64
 have h4:((uh .i64 m%64:Nat):Int)=(uh .i64 m:Int)%64:=by simp
 rw[h4,h1]
 show m%18446744073709551616%64=m%64
 omega
theorem Yn (l:List Int) (n:Int):X.ev l (.lit n)=n:=by rw[X.ev]
theorem Yo (l:List Int) (op:BinOp) (k:IntKind) (a b:X):X.ev l (.bin op k a b)=rP op k (a.ev l) (b.ev l):=by rw[X.ev,EB]
theorem Yp (l:List Int) (k:IntKind) (a:X):X.ev l (.conv k a)=k.wrap (a.ev l):=by rw[X.ev,um]
theorem R5 (l:List Int) (a:X):X.ev l (.not a)=rZ (!sN (a.ev l)):=by rw[X.ev,zh]
theorem ag7 (l:List Int) (a b:X):X.ev l (.and a b)=rZ (sN (a.ev l)&&sN (b.ev l)):=by
 rw[X.ev];cases sN (a.ev l)<;>rfl
theorem ag8 (l:List Int) (a b:X):X.ev l (.beq a b)=rZ (sN (a.ev l)==sN (b.ev l)):=by
 rw[X.ev];cases sN (a.ev l)<;>cases sN (b.ev l)<;>rfl
theorem Yq (l:List Int) (a b:X):X.ev l (.min a b)=min (a.ev l) (b.ev l):=by
 rw[X.ev,zg]
 by_cases h:b.ev l<a.ev l
 ·rw[decide_eq_true h,Int.min_eq_right (by omega)]
 ·rw[decide_eq_false h,Int.min_eq_left (by omega)]
theorem Yr (l:List Int) (a b:X):X.ev l (.max a b)=max (a.ev l) (b.ev l):=by
 rw[X.ev,zg]
 by_cases h:a.ev l<b.ev l
 ·rw[decide_eq_true h,Int.max_eq_right (by omega)]
 ·rw[decide_eq_false h,Int.max_eq_left (by omega)]
theorem Yt (l:List Int) (c a b:X):X.ev l (.ite c a b)=if sN (c.ev l)=true then a.ev l else b.ev l:=by
 rw[X.ev];cases sN (c.ev l)<;>rfl
theorem Yu (l:List Int) (i:Nat):X.ev l (.var kU i)=u64 (rE l i):=by rw[X.ev];rfl
theorem Yv (l:List Int) (i:Nat):X.ev l (.var kI i)=i64 (rE l i):=by rw[X.ev];rfl
theorem ag9 (l:List Int) (i:Nat):X.ev l (.var kB i)=u8 (rE l i):=by rw[X.ev];rfl
theorem NI (l:List Int) (i:Nat):X.ev l (.var .bool i)=rZ (sN (rE l i)):=by rw[X.ev];rfl
theorem aha (l:List Int) (i:Nat):X.ev l (.var .bit i)=rZ (sN (rE l i)):=by rw[X.ev];rfl
theorem Yw (k:IntKind) (a b:Int):rP .eql k a b=rZ (a==b):=by rw[rP]
theorem ahb (k:IntKind) (a b:Int):rP .neq k a b=rZ (a != b):=by rw[rP]
theorem Yx (k:IntKind) (a b:Int):rP .lss k a b=rZ (decide (a<b)):=by rw[rP]
theorem ahc (k:IntKind) (a b:Int):rP .leq k a b=rZ (decide (a≤b)):=by rw[rP]
theorem ahd (k:IntKind) (a b:Int):rP .gtr k a b=rZ (decide (a>b)):=by rw[rP]
theorem ahe (k:IntKind) (a b:Int):rP .geq k a b=rZ (decide (a≥b)):=by rw[rP]
theorem ahf (a b:Int):rP .add .i64 a b=i64 (a+b):=DW _
theorem NJ (a b:Int):rP .sub .i64 a b=i64 (a-b):=DW _
theorem ahg (a b:Int):rP .sub .u64 a b=u64 (a-b):=yA _
theorem R6 (p q r:Nat) (hp:p<ry) (hq:q<ry) (hr:r<64):rP .or .u64 (rP .shl .u64 (p:Int) (u64 (r:Int))) (rP .shr .u64 (rP .shr .u64 (q:Int) 1) (rP .sub .u64 63 (u64 (r:Int))))=((p*2^r%ry|||q/2^(64-r):Nat):Int):=by
 have e1:u64 (r:Int)=(r:Int):=NG r (by rw[Fu];omega)
 rw[e1,ahg,show(63:Int)-(r:Int)=((63-r:Nat):Int) by omega,NG (63-r) (by rw[Fu];omega),ag5 p r (by omega),show(1:Int)=((1:Nat):Int) from rfl,Ym q 1 (by omega),Ym _ (63-r) (by omega)]
 have e2:q/2^1/2^(63-r)=q/2^(64-r):=by rw[Nat.div_div_eq_div_mul,← Nat.pow_add];congr 2;omega
 rw[e2]
 exact R4 _ _ (Nat.mod_lt _ vw) (Nat.lt_of_le_of_lt (Nat.div_le_self _ _) hq)
def tX:=And.intro @KY (And.intro @Cw (And.intro @Cy (And.intro @KZ (And.intro @K9 (And.intro @Cz (And.intro @CB (And.intro @yC (And.intro @Lb (And.intro @Yo (And.intro @Yp (And.intro @Yt (And.intro @Yn (And.intro @Yu (And.intro @Yv (And.intro @ag9 (And.intro @NI (And.intro @aha (And.intro @R5 (And.intro @ag7 (And.intro @ag8 (And.intro @Yr (And.intro @Yq (And.intro @Yw (And.intro @ahb (And.intro @Yx (And.intro @ahc (And.intro @ahd (And.intro @ahe (And.intro @ahf (And.intro @NJ (And.intro @Jl (And.intro @yA (And.intro @DW (And.intro @Yh (And.intro @yX (And.intro @zN (And.intro @ag0 (@Yi))))))))))))))))))))))))))))))))))))))
open Go.RowKit
theorem ahh (c:Int) (M:Nat):∃ m:Nat,max (-(M:Int)) (min (max (i64 c) 0) (M:Int))=(m:Int)∧m=min (i64 c).toNat M:=⟨min (i64 c).toNat M,by omega,rfl⟩
theorem ahi (m:Int):rP .shr .i64 m 6=m/64:=by
 simp only[rP,IntKind.bits]
 rw[show min ((6:Int).toNat) 64=6 by decide,Int.fdiv_eq_ediv_of_nonneg _ (by decide)];rfl
theorem ahj {n:Int} (h1 : -1000≤n) (h2:n≤1000):i64 n=n:=Fs (by omega) (by omega)
theorem ahk (n j r:Nat) (hr:r<64):rP .or .u64 (rP .shl .u64 (wd n (j+1)) (u64 (r:Int))) (rP .shr .u64 (rP .shr .u64 (wd n j) 1) (rP .sub .u64 63 (u64 (r:Int))))=wd (n*2^r) (j+1):=by
 rw[RZ n r (j+1) hr,if_neg (by omega),show j+1-1=j by omega,yD,yD,R6 _ _ r (Nat.mod_lt _ vw) (Nat.mod_lt _ vw) hr,Int.toNat_natCast,Int.toNat_natCast]
theorem Yy (n r:Nat) (hr:r<64):rP .or .u64 (rP .shl .u64 (wd n 0) (u64 (r:Int))) (rP .shr .u64 0 (rP .sub .u64 63 (u64 (r:Int))))=wd (n*2^r) 0:=by
 have:=R6 (n/ry^0%ry) 0 r (Nat.mod_lt _ vw) vw hr
 rw[RZ n r 0 hr,if_pos rfl,yD,Int.toNat_natCast]
 simp only[Nat.zero_div] at this
 rw[← this]
 congr 1
theorem Yz (n r:Nat) (hr:r<64):rP .or .u64 (rP .shl .u64 (wd n 0) (u64 (r:Int))) (rP .shr .u64 (rP .shr .u64 0 1) (rP .sub .u64 63 (u64 (r:Int))))=wd (n*2^r) 0:=by
 have:=R6 (n/ry^0%ry) 0 r (Nat.mod_lt _ vw) vw hr
 rw[RZ n r 0 hr,if_pos rfl,yD,Int.toNat_natCast]
 simp only[Nat.zero_div] at this
 rw[← this]
 congr 1
theorem ahl (r:Nat) (hr:r<64):rP .or .u64 (rP .shl .u64 0 (u64 (r:Int))) (rP .shr .u64 0 (rP .sub .u64 63 (u64 (r:Int))))=0:=by
 have:=Yy 0 r hr;simp only[GK,Nat.zero_mul] at this;exact this
theorem ahm (r:Nat) (hr:r<64):rP .or .u64 (rP .shl .u64 0 (u64 (r:Int))) (rP .shr .u64 (rP .shr .u64 0 1) (rP .sub .u64 63 (u64 (r:Int))))=0:=by
 have:=Yz 0 r hr;simp only[GK,Nat.zero_mul] at this;exact this
theorem YA (n m:Nat):wd (n*2^m) 0=(if m/64=0 then wd (n*2^(m%64)) 0 else 0)∧wd (n*2^m) 1=(if m/64=0 then wd (n*2^(m%64)) 1 else if m/64=1 then wd (n*2^(m%64)) 0 else 0):=by
 have e:n*2^m=n*2^(m%64)*ry^(m/64):=by
  conv=>lhs;rw[← Nat.div_add_mod m 64,Nat.pow_add,Nat.pow_mul,← GD]
  ac_rfl
 rw[e,Yl,Yl]
 constructor
 ·by_cases h:m/64=0
  ·rw[h,if_neg (by omega),if_pos rfl]
  ·rw[if_pos (by omega),if_neg h]
 ·by_cases h:m/64=0
  ·rw[h,if_neg (by omega),if_pos rfl]
  ·by_cases h1:m/64=1
   ·rw[h1,if_neg (by omega),if_neg (by omega),if_pos rfl]
   ·rw[if_pos (by omega),if_neg h,if_neg h1]
theorem ahn (a b c:Int):Nz [a,b,c]=oB (nB a b*2^(i64 c).toNat%rD):=by
 obtain⟨n,hn,e,h1,h0⟩:=BD a b
 obtain⟨m,hm,hm2⟩:=ahh c 128
 rw[Nz,RN,wS rfl,e]
 simp only[KY,Cw,Cy,KZ,K9,Cz,CB,Yo,Yp,Yt,Yn,Yu,Yv,Yr,Yq,h1,h0,yA]
 have hm':max (-128) (min (max (i64 c) 0) 128)=(m:Int):=hm
 rw[hm',ahi,ag6,NJ,NJ,NJ]
 have hpow:n*2^(i64 c).toNat%rD=n*2^m%rD:=by
  by_cases h:(i64 c).toNat≤128
  ·rw[hm2,Nat.min_eq_left h]
  ·rw[hm2,Nat.min_eq_right (by omega),Mx,Nat.mul_mod_left]
   obtain⟨d,hd⟩:∃ d,(i64 c).toNat=128+d:=⟨(i64 c).toNat-128,by omega⟩
   rw[hd,Nat.pow_add,show n*(2^128*2^d)=n*2^d*2^128 by ac_rfl,Nat.mul_mod_left]
 rw[hpow]
 unfold oB
 rw[Bj _ 1 (by decide),Bj _ 0 (by decide),(YA n m).1,(YA n m).2]
 have hr:m%64<64:=Nat.mod_lt _ (by decide)
 have hc:((m:Int)%64)=((m%64:Nat):Int):=by simp
 have hd:((m:Int)/64)=((m/64:Nat):Int):=by simp
 have hle:m/64≤2:=by omega
 rw[hc,hd]
 generalize m/64=w at *
 generalize m%64=r at *
 rcases(show w=0∨w=1∨w=2 by omega) with rfl|rfl|rfl <;>
  simp[Yx,Yw,Jl,ahj,ahk,Yy,Yz,ahl,ahm,hr]
open Go.RowKit
theorem aho (a b:Int):Ny [a,b] = [rZ (decide (nB a b=0))]:=by
 obtain⟨n,hn,e,h1,h0⟩:=BD a b
 rw[Ny,RB,wS rfl,e]
 simp only[tX,h1,h0,show sN 1=true from rfl,Bool.and_true]
 congr 2
 rw[Bool.eq_iff_iff]
 simp only[Bool.and_eq_true,beq_iff_eq,decide_eq_true_iff]
 exact acY hn
theorem ahp (a b c d:Int):H7 [a,b,c,d] = [wd (nB a b+nB c d) 1,wd (nB a b+nB c d) 0,rZ (decide (rD≤nB a b+nB c d))]:=by
 obtain⟨x,hx,e,h1,h0⟩:=BD a b
 obtain⟨y,hy,e',h1',h0'⟩:=BD c d
 rw[e,e',H7,RF]
 have z0:ui 0=((uZ x y 0:Nat):Int):=by rw[Uz];rfl
 have z1:ui ((uZ x y 1:Nat):Int)=((uZ x y 1:Nat):Int):=by unfold ui;rw[uQ];exact Ns (ada x y 1)
 refine(wT (r:=[wd (x+y) 0,((uZ x y 1:Nat):Int)]) ?_ rfl).trans ?_
 ·simp only[tX,WL,EZ,h1,h0,h1',h0',z0]
  rw[GG,GH]
 refine(wT (r:=[wd (x+y) 1,((uZ x y 2:Nat):Int)]) ?_ rfl).trans ?_
 ·simp only[tX,WL,EZ,h1,h0,h1',h0']
  rw[show rZ (sN ((uZ x y 1:Nat):Int))=ui ((uZ x y 1:Nat):Int) from rfl,z1,z1,GG,GH]
 rw[wS rfl]
 simp only[tX]
 congr 3
 rw[UA (i:=2) (by rw[Bi];exact hx) (by rw[Bi];exact hy),Bi]
 by_cases h:rD≤x+y
 ·rw[if_pos h,decide_eq_true h];rfl
 ·rw[if_neg h,decide_eq_false h];rfl
theorem ahq (a b c d:Int):H9 [a,b,c,d] = [wd (nB a b+rD-nB c d) 1,wd (nB a b+rD-nB c d) 0,rZ (decide (nB a b<nB c d))]:=by
 obtain⟨x,hx,e,h1,h0⟩:=BD a b
 obtain⟨y,hy,e',h1',h0'⟩:=BD c d
 rw[e,e',H9,RG]
 have z0:ui 0=((bin x y 0:Nat):Int):=by rw[UB];rfl
 have z1:ui ((bin x y 1:Nat):Int)=((bin x y 1:Nat):Int):=by unfold ui;rw[uQ];exact Ns (adb x y 1)
 have hle:y≤x+ry^2:=by rw[Bi];omega
 refine(wT (r:=[wd (x+rD-y) 0,((bin x y 1:Nat):Int)]) ?_ rfl).trans ?_
 ·simp only[tX,WM,Fa,h1,h0,h1',h0',z0]
  rw[GJ x y 0 2 (by decide) hle,GI,Bi]
 refine(wT (r:=[wd (x+rD-y) 1,((bin x y 2:Nat):Int)]) ?_ rfl).trans ?_
 ·simp only[tX,WM,Fa,h1,h0,h1',h0']
  rw[show rZ (sN ((bin x y 1:Nat):Int))=ui ((bin x y 1:Nat):Int) from rfl,z1,z1,GJ x y 1 2 (by decide) hle,GI,Bi]
 rw[wS rfl]
 simp only[tX]
 congr 3
 rw[UC (i:=2) (by rw[Bi];exact hx) (by rw[Bi];exact hy)]
 by_cases h:x<y
 ·rw[if_pos h,decide_eq_true h];rfl
 ·rw[if_neg h,decide_eq_false h];rfl
theorem NK (a b:Int):Ib [a,b]=oB ((u64 a).toNat*(u64 b).toNat):=by
 rw[Ib,RH]
 have h:=UL (uF a).2 (uF b).2
 rw[(uF a).1,(uF b).1] at h
 refine(wT (r:=oB ((u64 a).toNat*(u64 b).toNat)) ?_ rfl).trans ?_
 ·simp only[tX,afE,HY]
  rw[h.1,h.2]
 rw[wS rfl]
 simp only[tX]
theorem ahr (a b c d:Int):Ie [a,b,c,d]=oW (nB a b*rD+nB c d):=by
 obtain⟨x,hx,e,h1,h0⟩:=BD a b
 obtain⟨y,hy,e',h1',h0'⟩:=BD c d
 rw[e,e',Ie,RI,wS rfl]
 obtain⟨j0,j1,j2,j3⟩:=ac0 (h:=x) hy
 simp only[tX,h1,h0,h1',h0',j0,j1,j2,j3]
theorem YB (a b c d:Int):DN [a,b,c,d]=oB (nW a b c d/rD):=by
 obtain⟨n,hn,e,h0,h1,h2,h3⟩:=Yk a b c d
 rw[e,DN,RJ,wS rfl]
 simp only[tX,h2,h3,Px]
theorem YC (a b c d:Int):DR [a,b,c,d]=oB (nW a b c d):=by
 obtain⟨n,hn,e,h0,h1,h2,h3⟩:=Yk a b c d
 rw[e,DR,RL,wS rfl]
 simp only[tX,h0,h1]
def len (n:Nat):Nat:=if n=0 then 0 else Nat.log2 n+1
theorem ahs (a:Int):Iq [a] = [(FP.fW (fN a):Int),(FP.fP (fN a):Int),(FP.fE (fN a):Int)]:=by
 unfold fN
 rw[Iq,RO]
 obtain⟨h1,h2⟩:=NF a
 simp only[La,tX,Bool.not_eq_true',decide_eq_false_iff_not,decide_eq_true_iff,beq_iff_eq]
 generalize hf:u8 a=f at *
 by_cases h4:f<4
 ·rw[if_neg (by omega)]
  rcases(show f=0∨f=1∨f=2∨f=3 by omega) with rfl|rfl|rfl|rfl
  ·rw[if_pos rfl,wS rfl];rfl
  ·rw[if_neg (by decide),if_pos rfl,wS rfl];rfl
  ·rw[if_neg (by decide),if_neg (by decide),if_pos rfl,wS rfl];rfl
  ·rw[if_neg (by decide),if_neg (by decide),if_neg (by decide),wS rfl];rfl
 ·rw[if_pos h4,wS rfl]
  obtain⟨m,rfl⟩:∃ m:Nat,f=((m+4:Nat):Int):=⟨(f-4).toNat,by omega⟩
  rw[Int.toNat_natCast];rfl
open Go.RowKit
theorem Yf (f:Nat):FP.fW f≤128:=by unfold FP.fW;split<;>decide
theorem aht {n:Nat} (h:n≤1000000000000):i64 (n:Int)=n:=Fs (by omega) (by omega)
theorem ahu (f:Nat):i64 (FP.fW f:Int)=FP.fW f:=aht (by have:=Yf f;omega)
theorem ahv (a:Int):KW [a] = [(FP.fW (fN a):Int)]:=by
 rw[KW,RP]
 refine(wT (by simp only[tX,afV];exact ahs _) (by rfl)).trans ?_
 rw[wS rfl];simp only[tX,ag1,ahu]
theorem YD (a b c d:Int):nW (u64 a) (u64 b) (u64 c) (u64 d)=nW a b c d:=by unfold nW;rw[zN,zN,zN,zN]
theorem ahw (n:Nat):nW (wd n 0) (wd n 1) (wd n 2) (wd n 3)=n%sI:=by
 have:=ag3 (n:=n%sI) (Nat.mod_lt _ acT)
 rw[← Ca,Kb _ _ _ (by decide),Kb _ _ _ (by decide),Kb _ _ _ (by decide),Kb _ _ _ (by decide),Ca] at this
 exact this
theorem R9:sI=rD*rD:=by unfold sI;rfl
open Go.RowKit
def rW (n:Nat):List Int:=oW n
theorem ahx (n:Nat):rW n=oW n:=rfl
theorem zO {n:Nat} (h:n<rD):nB (wd n 1) (wd n 0)=n:=by rw[NH,Nat.mod_eq_of_lt h]
open Go.RowKit
theorem Jn {n:Nat} (h:n<sI):nW (wd n 0) (wd n 1) (wd n 2) (wd n 3)=n:=by rw[ahw,Nat.mod_eq_of_lt h]
open Go.RowKit
open Go.RowKit
open Go.RowKit
open Go.RowKit
theorem YE (a b c d e f g h:Int):HZ [a,b,c,d,e,f,g,h]=DJ (nW a b c d+nW e f g h) (Nat.ble sI (nW a b c d+nW e f g h)):=rfl
theorem Sa (s:Nat) (b:Bool):DJ s b = [wd s 0,wd s 1,wd s 2,wd s 3,rZ b]:=rfl
theorem YF {p:Nat} (h:p<rD):nW 0 (wd p 0) (wd p 1) 0=p*ry:=by
 have:=zO h
 unfold nB at this
 rw[yX,yX] at this
 unfold nW
 rw[show u64 0=0 by decide,yX,yX,show(0:Int).toNat=0 from rfl,Nat.mul_zero,Nat.add_zero,Nat.zero_add,Nat.mul_comm ry]
 congr 1
 rw[Nat.mul_comm ry,Nat.add_comm];exact this
theorem NL {a b:Nat} (ha:a<ry) (hb:b<ry):a*b<rD:=Nat.mul_lt_mul'' ha hb
theorem ahy (a1 a0 b1 b0:Nat):(a1*ry+a0)*(b1*ry+b0)=a1*b1*rD+a0*b0+a1*b0*ry+a0*b1*ry:=by
 have e:rD=ry*ry:=rD.eq_1
 rw[e]
 generalize ry=w
 rw[Nat.add_mul,Nat.mul_add,Nat.mul_add]
 have h1:a1*w*(b1*w)=a1*b1*(w*w):=by ac_rfl
 have h2:a1*w*b0=a1*b0*w:=by ac_rfl
 have h3:a0*(b1*w)=a0*b1*w:=by ac_rfl
 rw[h1,h2,h3];omega
theorem ahz (a b c d:Int):NA [a,b,c,d]=oW (nB a b*nB c d):=by
 refine Eq.trans ?_ (ahx _)
 have ha:=(uF a).2;have hb:=(uF b).2;have hc:=(uF c).2;have hd:=(uF d).2
 have hab:=DX a b;have hcd:=DX c d
 have hprod:nB a b*nB c d<sI:=by
  have:=Nat.mul_lt_mul'' hab hcd
  rw[R9];exact this
 have e0:nB a b*nB c d=(u64 a).toNat*(u64 c).toNat*rD+(u64 b).toNat*(u64 d).toNat+(u64 a).toNat*(u64 d).toNat*ry+(u64 b).toNat*(u64 c).toNat*ry:=ahy _ _ _ _
 rw[e0] at hprod ⊢
 rw[NA,RQ]
 refine(wT (by simp only[tX,NC];exact NK _ _) (by rfl)).trans ?_
 refine(wT (by simp only[tX,NC];exact NK _ _) (by rfl)).trans ?_
 rw[zN,zN,zN,zN]
 have l11:=NL ha hc;have l00:=NL hb hd;have l10:=NL ha hd;have l01:=NL hb hc
 generalize (u64 a).toNat*(u64 c).toNat=p11 at *
 generalize (u64 b).toNat*(u64 d).toNat=p00 at *
 refine(wT (r:=oW (p11*rD+p00)) ?_ rfl).trans ?_
 ·simp only[tX,afW];rw[ahr,zO l11,zO l00,Lb]
 refine(wT (by simp only[tX,NC];exact NK _ _) (by rfl)).trans ?_
 refine(wT (by simp only[tX,NC];exact NK _ _) (by rfl)).trans ?_
 rw[zN,zN,zN,zN]
 generalize (u64 a).toNat*(u64 d).toNat=p10 at *
 generalize (u64 b).toNat*(u64 c).toNat=p01 at *
 refine(wT (r:=DJ (p11*rD+p00+p10*ry) (Nat.ble sI (p11*rD+p00+p10*ry))) ?_ rfl).trans ?_
 ·simp only[tX,Xb];rw[YE,Jn (by omega),YF l10]
 refine(wT (r:=DJ (p11*rD+p00+p10*ry+p01*ry) (Nat.ble sI (p11*rD+p00+p10*ry+p01*ry))) ?_ rfl).trans ?_
 ·simp only[tX,Sa,Xb];rw[YE,Jn (by omega),YF l01,Sa]
 rw[wS rfl]
 simp only[tX,Sa]
 rfl
open Go.RowKit
theorem ahA (x y i:Nat):rP .or .u64 (wd x i) (wd y i)=wd (x|||y) i:=by
 rw[yD,yD,R4 _ _ (Nat.mod_lt _ vw) (Nat.mod_lt _ vw),yD]
 congr 1
 apply Nat.eq_of_testBit_eq
 intro k
 rw[Nat.testBit_or,Fw,Fw,Fw,Nat.testBit_or]
 cases decide (k<64)<;>simp
open Go.RowKit
def ahB (f t c:Nat):Nat:=c%2^(FP.fP f-1)*2^(129-FP.fP f)/2^(129-FP.fP t)
def ahC (f t c:Nat):Nat:=FP.inf t+(ahB f t c|||2^(FP.fP t-2))
theorem YG {x i n:Nat} (h:x<2^n) (hi:i<n):(x|||2^i)<2^n:=Nat.or_lt_two_pow h (Nat.pow_lt_pow_right (by decide) hi)
open Go.RowKit
namespace FP
end FP
def yE (f t m:Nat) (after neg:Bool) (c:Nat):Nat×Nat :=
 if 4≤FP.clsC f c then(ahC f t c,if FP.clsC f c=5 then 1 else 0) else if FP.clsC f c=3 then(FP.inf t,0) else FP.convC f t m after neg c
open Go.RowKit
end Go.Proofs.YtbembkamcdlhbaaGreatDoor
