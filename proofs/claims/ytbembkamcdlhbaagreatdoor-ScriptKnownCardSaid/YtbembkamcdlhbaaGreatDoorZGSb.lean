import Derived.Test.YtbembkamcdlhbaaGreatDoorZDSb
import Derived.Test.YtbembkamcdlhbaaGreatDoorZESb
import Derived.Test.YtbembkamcdlhbaaGreatDoorZFSb
set_option linter.defProp false
set_option linter.unusedSimpArgs false
set_option linter.unusedVariables false
set_option maxRecDepth 100000
namespace Go.Proofs.YtbembkamcdlhbaaGreatDoor
open Go.RowKit
theorem Ky {α:Type} (l:List α):l ++ []=l:=by rw[List.append_nil]
theorem Cg {α:Type} (a:α) (l m:List α):(a::l)++m=a::(l++m):=by rw[List.cons_append]
theorem Ch {α:Type} (l:List α) : []++l=l:=by rw[List.nil_append]
theorem Kz {α β:Type} (f:α→β) (a:α) (l:List α):List.map f (a::l)=f a::List.map f l:=by rw[List.map_cons]
theorem KA {α β:Type} (f:α→β):List.map f [] = []:=by rw[List.map_nil]
theorem Ci (x:Int) (l:List Int):rF (x::l) 0=x:=by rw[rF]
theorem Cj (x:Int) (l:List Int) (n:Nat):rF (x::l) (n+1)=rF l n:=by rw[rF]
theorem Rp {β:Sort _} (l:List Int):∀ (xs:List X) (K:List Int→β),evs l xs K=K (xs.map (X.ev l))
 | [],K=>rfl
 | x::xs,K=>by rw[evs,Ee,Rp l xs];rfl
theorem wE {Φ:uI} {ct:Ct} {a:SV} {l:List Int} {xs:List X} (h:wW ct.r (xP ct.r a)=some xs):rH Φ ct (.leaf a) l=xs.map (X.ev l):=by
 unfold rH;simp only[vw,h,Rp,id]
theorem KC {Φ:uI} {ct:Ct} {c:X} {a b:rf SV} {l:List Int} : rH Φ ct (.ite c a b) l=if sO (c.ev l)=true then rH Φ ct a l else rH Φ ct b l:=by
 unfold rH
 simp only[vw]
 cases sO (c.ev l)<;>rfl
theorem wF {Φ:uI} {ct:Ct} {f:Nat} {args:List X} {base n:Nat} {t:rf SV} {l:List Int} {r:List Int} (h:Φ f (args.map (X.ev l))=r) (hn:r.length=n):rH Φ ct (.call f args base n t) l=rH Φ ct t (l++r):=by
 unfold rH
 simp only[vw,Rp,h]
 rw[show Nat.beq r.length n=true by rw[hn];exact Nat.beq_refl n]
theorem IK (b:Bool):sO (r9 b)=b:=by cases b<;>rfl
def i64 (n:Int):Int:=uN .i64 n
def u8 (n:Int):Int:=uN .u8 n
theorem XM (n:Int) : -9223372036854775808≤i64 n∧i64 n≤9223372036854775807:=by unfold i64;rw[uo];exact Ba .i64 n
theorem M8 (n:Int):0≤u8 n∧u8 n≤255:=by unfold u8;rw[uo];exact Ba .u8 n
theorem IL {n:Int} (h1 : -9223372036854775808≤n) (h2:n≤9223372036854775807):i64 n=n:=by unfold i64;rw[uo];exact L9 h1 h2
theorem agm {n:Int} (h1:0≤n) (h2:n≤255):u8 n=n:=by unfold u8;rw[uo];exact L9 h1 h2
theorem EQ (n:Int):IntKind.i64.wrap n=i64 n:=by unfold i64;rw[uo]
theorem yh (n:Int):IntKind.u64.wrap n=u64 n:=by unfold u64;rw[uo]
theorem XN (n:Int):IntKind.u8.wrap n=u8 n:=by unfold u8;rw[uo]
theorem agn (n:Int):i64 (i64 n)=i64 n:=IL (XM n).1 (XM n).2
theorem zA (n:Int):u64 (u64 n)=u64 n:=Bl (yK n)
theorem XO (n:Int):u8 (u8 n)=u8 n:=agm (M8 n).1 (M8 n).2
theorem M9 (n:Nat) (h:n<rA):u64 (n:Int)=n:=Bl ⟨Int.natCast_nonneg _,by exact_mod_cast h⟩
theorem yL (n i:Nat):u64 (wd n i)=wd n i:=Bl (AU _ _)
abbrev fN (a:Int):Nat:=(u8 a).toNat
theorem agp (a:Int):fN (u8 a)=fN a:=by unfold fN;rw[XO]
def nB (h l:Int):Nat:=(u64 h).toNat*rA+(u64 l).toNat
def nW (a b c d:Int):Nat:=(u64 a).toNat+rA*((u64 b).toNat+rA*((u64 c).toNat+rA*(u64 d).toNat))
def oB (n:Nat):List Int:=[wd n 1,wd n 0]
def oW (n:Nat):List Int:=[wd n 0,wd n 1,wd n 2,wd n 3]
theorem yj (n:Nat):oB n = [wd n 1,wd n 0]:=by rw[oB]
theorem KD (n:Nat):oW n = [wd n 0,wd n 1,wd n 2,wd n 3]:=by rw[oW]
theorem ER:rA=18446744073709551616:=rfl
theorem XP:rE=340282366920938463463374607431768211456:=by decide
theorem Dx (h l:Int):nB h l<rE:=by
 unfold nB
 have h1:=(uF h).2;have h2:=(uF l).2
 rw[ER] at *;rw[XP];omega
theorem ES (h l:Int):u64 h=wd (nB h l) 1∧u64 l=wd (nB h l) 0:=by
 have h1:=(uF h);have h2:=(uF l)
 have e0:=ace (h:=(u64 h).toNat) h2.2
 have e1:=acf h1.2 h2.2
 unfold JB at e0 e1
 unfold nB
 rw[e0,e1]
 exact⟨h1.1.symm,h2.1.symm⟩
theorem agq {n:Nat} (h:n<rE):nB (wd n 1) (wd n 0)=n:=by
 have:=ES (wd n 1) (wd n 0)
 rw[Bl (AU _ _),Bl (AU _ _)] at this
 exact(Ue h (Dx _ _) this.2 this.1).symm
theorem Na (n:Nat):nB (wd n 1) (wd n 0)=n%rE:=by
 have:=agq (n:=n%rE) (Nat.mod_lt _ JC)
 rw[AZ n 1 (by decide),AZ n 0 (by decide)] at this
 exact this
theorem IM (a b c d:Int):u64 a=wd (nW a b c d) 0∧u64 b=wd (nW a b c d) 1∧u64 c=wd (nW a b c d) 2∧u64 d=wd (nW a b c d) 3∧nW a b c d<sI:=by
 obtain⟨h0,h1,h2,h3,h4⟩:=VI _ _ _ _ (uF a).2 (uF b).2 (uF c).2 (uF d).2
 unfold nW
 rw[h0,h1,h2,h3,(uF _).1,(uF _).1,(uF _).1,(uF _).1]
 exact⟨rfl,rfl,rfl,rfl,h4⟩
theorem Rq (a b c d:Int):nW a b c d<sI:=(IM a b c d).2.2.2.2
theorem agr {n:Nat} (h:n<sI):nW (wd n 0) (wd n 1) (wd n 2) (wd n 3)=n:=by
 obtain⟨h0,h1,h2,h3,h4⟩:=IM (wd n 0) (wd n 1) (wd n 2) (wd n 3)
 rw[Bl (AU _ _)] at h0 h1 h2 h3
 exact(ack h h4 h0 h1 h2 h3).symm
theorem Bp (h l:Int):∃ n:Nat,n<rE∧nB h l=n∧u64 h=wd n 1∧u64 l=wd n 0:=⟨nB h l,Dx h l,rfl,(ES h l).1,(ES h l).2⟩
theorem XQ (a b c d:Int):∃ n:Nat,n<sI∧nW a b c d=n∧u64 a=wd n 0∧u64 b=wd n 1∧u64 c=wd n 2∧u64 d=wd n 3:=by
 obtain⟨h0,h1,h2,h3,h4⟩:=IM a b c d
 exact⟨_,h4,rfl,h0,h1,h2,h3⟩
theorem yl (n i:Nat):wd n i=((n/rA^i%rA:Nat):Int):=rfl
theorem ET (a j k:Nat):(a/rA^j%rA).testBit k=(decide (k<64)&&a.testBit (64*j+k)):=by
 by_cases hk:k<64
 ·rw[JE a j k hk];simp[hk]
 ·rw[F9,Nat.testBit_mod_two_pow];simp[hk]
theorem ags (a r j:Nat) (hr:r<64):a*2^r/rA^j%rA=(a/rA^j%rA*2^r%rA)|||(if j=0 then 0 else a/rA^(j-1)%rA/2^(64-r)):=by
 apply Nat.eq_of_testBit_eq
 intro k
 have e:rA=2^64:=F9
 rw[ET,Nat.testBit_or,show a/rA^j%rA*2^r%rA=a/rA^j%rA*2^r%2^64 by rw[← e],Nat.testBit_mod_two_pow,Nat.testBit_mul_two_pow,Nat.testBit_mul_two_pow,ET]
 by_cases hk:k<64
 ·by_cases hj:j=0
  ·subst hj
   by_cases h:r≤k
   ·simp[hk,h];intro;omega
   ·simp[hk,h]
  ·rw[if_neg hj,Nat.testBit_div_two_pow,ET]
   by_cases h:r≤k
   ·have h2:¬ (64-r+k<64):=by omega
    have h3:k-r<64:=by omega
    simp[hk,h,h3,show r≤64*j+k by omega,show 64*j+k-r=64*j+(k-r) by omega,show ¬ (k+(64-r)<64) by omega]
   ·simp[hk,h,show r≤64*j+k by omega,show k+(64-r)<64 by omega,show 64*j+k-r=64*(j-1)+(k+(64-r)) by omega]
 ·by_cases hj:j=0
  ·subst hj;simp[hk]
  ·rw[if_neg hj,Nat.testBit_div_two_pow,ET]
   simp[hk]
   intro h;omega
theorem Rs (a r j:Nat) (hr:r<64):wd (a*2^r) j=((((wd a j).toNat*2^r%rA)|||(if j=0 then 0 else(wd a (j-1)).toNat/2^(64-r)):Nat):Int):=by
 rw[yl,ags a r j hr,yl,yl,Int.toNat_natCast,Int.toNat_natCast]
theorem XR (a w i:Nat):wd (a*rA^w) i=if i<w then 0 else wd a (i-w):=by
 rw[yl,yl]
 split
 ·rename_i h
  obtain⟨d,rfl⟩:∃ d,w=i+1+d:=⟨w-i-1,by omega⟩
  rw[show a*rA^(i+1+d)=a*rA^d*rA*rA^i by rw[Nat.pow_add,Nat.pow_add,Nat.pow_one];ac_rfl,Nat.mul_div_cancel _ (AX i),Nat.mul_mod_left];rfl
 ·rename_i h
  obtain⟨d,rfl⟩:∃ d,i=w+d:=⟨i-w,by omega⟩
  rw[Nat.pow_add,← Nat.div_div_eq_div_mul,Nat.mul_div_cancel _ (AX w),show w+d-w=d by omega]
theorem Rt (x y:Nat) (hx:x<rA) (hy:y<rA):rQ .or .u64 (x:Int) (y:Int)=((x|||y:Nat):Int):=by
 have e:rA=2^64:=F9
 rw[← Eh]
 simp only[fold]
 have h1:uh .u64 (x:Int)=x:=by show x%xK .u64=x;rw[show xK .u64=rA from rfl,Nat.mod_eq_of_lt hx]
 have h2:uh .u64 (y:Int)=y:=by show y%xK .u64=y;rw[show xK .u64=rA from rfl,Nat.mod_eq_of_lt hy]
 rw[h1,h2]
 have:x|||y<rA:=by rw[e] at *;exact Nat.or_lt_two_pow hx hy
 exact M9 _ this
theorem agt (x r:Nat) (hr:r≤64):rQ .shl .u64 (x:Int) (r:Int)=((x*2^r%rA:Nat):Int):=by
 simp only[rQ,Int.toNat_natCast,IntKind.bits,Nat.min_eq_left hr]
 rw[show((x:Int)*2^r)=((x*2^r:Nat):Int) by push_cast;rfl,yh]
 unfold u64
 rw[uo]
 unfold IntKind.wrap IntKind.bits IntKind.signed
 simp[ER]
theorem XT (x r:Nat) (hr:r≤64):rQ .shr .u64 (x:Int) (r:Int)=((x/2^r:Nat):Int):=by
 simp only[rQ,Int.toNat_natCast,IntKind.bits,Nat.min_eq_left hr]
 rw[Int.fdiv_eq_ediv_of_nonneg _ (Int.pow_nonneg (by decide))];simp
theorem agu (m:Int):rQ .and .i64 m 63=m%64:=by
 rw[← Eh]
 simp only[fold]
 have h2:uh .i64 63=63:=by decide
 have h1:=O3 .i64 m
 have h3:Nat.land (uh .i64 m) 63=uh .i64 m%64:=Nat.and_two_pow_sub_one_eq_mod (n:=6) (x:=uh .i64 m)
 rw[h2,uo,h3,show Int.ofNat (uh .i64 m%64)=((uh .i64 m%64:Nat):Int) from rfl,EQ,IL (by omega) (by omega)]
 show((uh .i64 m%64:Nat):Int)=m%64
 have h4:((uh .i64 m%64:Nat):Int)=(uh .i64 m:Int)%64:=by simp
 rw[h4,h1]
 show m%18446744073709551616%64=m%64
 omega
theorem XU (l:List Int) (n:Int):X.ev l (.lit n)=n:=by rw[X.ev]
theorem XV (l:List Int) (op:BinOp) (k:IntKind) (a b:X):X.ev l (.bin op k a b)=rQ op k (a.ev l) (b.ev l):=by rw[X.ev,Eh]
theorem XW (l:List Int) (k:IntKind) (a:X):X.ev l (.conv k a)=k.wrap (a.ev l):=by rw[X.ev,uo]
theorem Ru (l:List Int) (a:X):X.ev l (.not a)=r9 (!sO (a.ev l)):=by rw[X.ev,yS]
theorem agv (l:List Int) (a b:X):X.ev l (.and a b)=r9 (sO (a.ev l)&&sO (b.ev l)):=by
 rw[X.ev];cases sO (a.ev l)<;>rfl
theorem agw (l:List Int) (a b:X):X.ev l (.beq a b)=r9 (sO (a.ev l)==sO (b.ev l)):=by
 rw[X.ev];cases sO (a.ev l)<;>cases sO (b.ev l)<;>rfl
theorem XX (l:List Int) (a b:X):X.ev l (.min a b)=min (a.ev l) (b.ev l):=by
 rw[X.ev,yR]
 by_cases h:b.ev l<a.ev l
 ·rw[decide_eq_true h,Int.min_eq_right (by omega)]
 ·rw[decide_eq_false h,Int.min_eq_left (by omega)]
theorem XY (l:List Int) (a b:X):X.ev l (.max a b)=max (a.ev l) (b.ev l):=by
 rw[X.ev,yR]
 by_cases h:a.ev l<b.ev l
 ·rw[decide_eq_true h,Int.max_eq_right (by omega)]
 ·rw[decide_eq_false h,Int.max_eq_left (by omega)]
theorem XZ (l:List Int) (c a b:X):X.ev l (.ite c a b)=if sO (c.ev l)=true then a.ev l else b.ev l:=by
 rw[X.ev];cases sO (c.ev l)<;>rfl
theorem X0 (l:List Int) (i:Nat):X.ev l (.var kU i)=u64 (rF l i):=by rw[X.ev];rfl
theorem X3 (l:List Int) (i:Nat):X.ev l (.var kI i)=i64 (rF l i):=by rw[X.ev];rfl
theorem agx (l:List Int) (i:Nat):X.ev l (.var kB i)=u8 (rF l i):=by rw[X.ev];rfl
theorem Nc (l:List Int) (i:Nat):X.ev l (.var .bool i)=r9 (sO (rF l i)):=by rw[X.ev];rfl
theorem agy (l:List Int) (i:Nat):X.ev l (.var .bit i)=r9 (sO (rF l i)):=by rw[X.ev];rfl
theorem X4 (k:IntKind) (a b:Int):rQ .eql k a b=r9 (a==b):=by rw[rQ]
theorem agz (k:IntKind) (a b:Int):rQ .neq k a b=r9 (a != b):=by rw[rQ]
theorem X5 (k:IntKind) (a b:Int):rQ .lss k a b=r9 (decide (a<b)):=by rw[rQ]
theorem agA (k:IntKind) (a b:Int):rQ .leq k a b=r9 (decide (a≤b)):=by rw[rQ]
theorem agB (k:IntKind) (a b:Int):rQ .gtr k a b=r9 (decide (a>b)):=by rw[rQ]
theorem agC (k:IntKind) (a b:Int):rQ .geq k a b=r9 (decide (a≥b)):=by rw[rQ]
theorem agD (a b:Int):rQ .add .i64 a b=i64 (a+b):=EQ _
theorem Nf (a b:Int):rQ .sub .i64 a b=i64 (a-b):=EQ _
theorem agE (a b:Int):rQ .sub .u64 a b=u64 (a-b):=yh _
theorem Rv (p q r:Nat) (hp:p<rA) (hq:q<rA) (hr:r<64):rQ .or .u64 (rQ .shl .u64 (p:Int) (u64 (r:Int))) (rQ .shr .u64 (rQ .shr .u64 (q:Int) 1) (rQ .sub .u64 63 (u64 (r:Int))))=((p*2^r%rA|||q/2^(64-r):Nat):Int):=by
 have e1:u64 (r:Int)=(r:Int):=M9 r (by rw[ER];omega)
 rw[e1,agE,show(63:Int)-(r:Int)=((63-r:Nat):Int) by omega,M9 (63-r) (by rw[ER];omega),agt p r (by omega),show(1:Int)=((1:Nat):Int) from rfl,XT q 1 (by omega),XT _ (63-r) (by omega)]
 have e2:q/2^1/2^(63-r)=q/2^(64-r):=by rw[Nat.div_div_eq_div_mul,← Nat.pow_add];congr 2;omega
 rw[e2]
 exact Rt _ _ (Nat.mod_lt _ vg) (Nat.lt_of_le_of_lt (Nat.div_le_self _ _) hq)
def tT:=And.intro @Ky (And.intro @Cg (And.intro @Ch (And.intro @Kz (And.intro @KA (And.intro @Ci (And.intro @Cj (And.intro @yj (And.intro @KD (And.intro @XV (And.intro @XW (And.intro @XZ (And.intro @XU (And.intro @X0 (And.intro @X3 (And.intro @agx (And.intro @Nc (And.intro @agy (And.intro @Ru (And.intro @agv (And.intro @agw (And.intro @XY (And.intro @XX (And.intro @X4 (And.intro @agz (And.intro @X5 (And.intro @agA (And.intro @agB (And.intro @agC (And.intro @agD (And.intro @Nf (And.intro @IK (And.intro @yh (And.intro @EQ (And.intro @XN (And.intro @yL (And.intro @zA (And.intro @agn (@XO))))))))))))))))))))))))))))))))))))))
open Go.RowKit
theorem agF (c:Int) (M:Nat):∃ m:Nat,max (-(M:Int)) (min (max (i64 c) 0) (M:Int))=(m:Int)∧m=min (i64 c).toNat M:=⟨min (i64 c).toNat M,by omega,rfl⟩
theorem agG (m:Int):rQ .shr .i64 m 6=m/64:=by
 simp only[rQ,IntKind.bits]
 rw[show min ((6:Int).toNat) 64=6 by decide,Int.fdiv_eq_ediv_of_nonneg _ (by decide)];rfl
theorem agH {n:Int} (h1 : -1000≤n) (h2:n≤1000):i64 n=n:=IL (by omega) (by omega)
theorem agI (n j r:Nat) (hr:r<64):rQ .or .u64 (rQ .shl .u64 (wd n (j+1)) (u64 (r:Int))) (rQ .shr .u64 (rQ .shr .u64 (wd n j) 1) (rQ .sub .u64 63 (u64 (r:Int))))=wd (n*2^r) (j+1):=by
 rw[Rs n r (j+1) hr,if_neg (by omega),show j+1-1=j by omega,yl,yl,Rv _ _ r (Nat.mod_lt _ vg) (Nat.mod_lt _ vg) hr,Int.toNat_natCast,Int.toNat_natCast]
theorem X6 (n r:Nat) (hr:r<64):rQ .or .u64 (rQ .shl .u64 (wd n 0) (u64 (r:Int))) (rQ .shr .u64 0 (rQ .sub .u64 63 (u64 (r:Int))))=wd (n*2^r) 0:=by
 have:=Rv (n/rA^0%rA) 0 r (Nat.mod_lt _ vg) vg hr
 rw[Rs n r 0 hr,if_pos rfl,yl,Int.toNat_natCast]
 simp only[Nat.zero_div] at this
 rw[← this]
 congr 1
theorem X7 (n r:Nat) (hr:r<64):rQ .or .u64 (rQ .shl .u64 (wd n 0) (u64 (r:Int))) (rQ .shr .u64 (rQ .shr .u64 0 1) (rQ .sub .u64 63 (u64 (r:Int))))=wd (n*2^r) 0:=by
 have:=Rv (n/rA^0%rA) 0 r (Nat.mod_lt _ vg) vg hr
 rw[Rs n r 0 hr,if_pos rfl,yl,Int.toNat_natCast]
 simp only[Nat.zero_div] at this
 rw[← this]
 congr 1
theorem agJ (r:Nat) (hr:r<64):rQ .or .u64 (rQ .shl .u64 0 (u64 (r:Int))) (rQ .shr .u64 0 (rQ .sub .u64 63 (u64 (r:Int))))=0:=by
 have:=X6 0 r hr;simp only[Gf,Nat.zero_mul] at this;exact this
theorem agK (r:Nat) (hr:r<64):rQ .or .u64 (rQ .shl .u64 0 (u64 (r:Int))) (rQ .shr .u64 (rQ .shr .u64 0 1) (rQ .sub .u64 63 (u64 (r:Int))))=0:=by
 have:=X7 0 r hr;simp only[Gf,Nat.zero_mul] at this;exact this
theorem X8 (n m:Nat):wd (n*2^m) 0=(if m/64=0 then wd (n*2^(m%64)) 0 else 0)∧wd (n*2^m) 1=(if m/64=0 then wd (n*2^(m%64)) 1 else if m/64=1 then wd (n*2^(m%64)) 0 else 0):=by
 have e:n*2^m=n*2^(m%64)*rA^(m/64):=by
  conv=>lhs;rw[← Nat.div_add_mod m 64,Nat.pow_add,Nat.pow_mul,← F9]
  ac_rfl
 rw[e,XR,XR]
 constructor
 ·by_cases h:m/64=0
  ·rw[h,if_neg (by omega),if_pos rfl]
  ·rw[if_pos (by omega),if_neg h]
 ·by_cases h:m/64=0
  ·rw[h,if_neg (by omega),if_pos rfl]
  ·by_cases h1:m/64=1
   ·rw[h1,if_neg (by omega),if_neg (by omega),if_pos rfl]
   ·rw[if_pos (by omega),if_neg h,if_neg h1]
theorem agL (a b c:Int):MZ [a,b,c]=oB (nB a b*2^(i64 c).toNat%rE):=by
 obtain⟨n,hn,e,h1,h0⟩:=Bp a b
 obtain⟨m,hm,hm2⟩:=agF c 128
 rw[MZ,Ri,wE rfl,e]
 simp only[Ky,Cg,Ch,Kz,KA,Ci,Cj,XV,XW,XZ,XU,X0,X3,XY,XX,h1,h0,yh]
 have hm':max (-128) (min (max (i64 c) 0) 128)=(m:Int):=hm
 rw[hm',agG,agu,Nf,Nf,Nf]
 have hpow:n*2^(i64 c).toNat%rE=n*2^m%rE:=by
  by_cases h:(i64 c).toNat≤128
  ·rw[hm2,Nat.min_eq_left h]
  ·rw[hm2,Nat.min_eq_right (by omega),LV,Nat.mul_mod_left]
   obtain⟨d,hd⟩:∃ d,(i64 c).toNat=128+d:=⟨(i64 c).toNat-128,by omega⟩
   rw[hd,Nat.pow_add,show n*(2^128*2^d)=n*2^d*2^128 by ac_rfl,Nat.mul_mod_left]
 rw[hpow]
 unfold oB
 rw[AZ _ 1 (by decide),AZ _ 0 (by decide),(X8 n m).1,(X8 n m).2]
 have hr:m%64<64:=Nat.mod_lt _ (by decide)
 have hc:((m:Int)%64)=((m%64:Nat):Int):=by simp
 have hd:((m:Int)/64)=((m/64:Nat):Int):=by simp
 have hle:m/64≤2:=by omega
 rw[hc,hd]
 generalize m/64=w at *
 generalize m%64=r at *
 rcases(show w=0∨w=1∨w=2 by omega) with rfl|rfl|rfl <;>
  simp[X5,X4,IK,agH,agI,X6,X7,agJ,agK,hr]
open Go.RowKit
theorem agM (a b:Int):MW [a,b] = [r9 (decide (nB a b=0))]:=by
 obtain⟨n,hn,e,h1,h0⟩:=Bp a b
 rw[MW,Q9,wE rfl,e]
 simp only[tT,h1,h0,show sO 1=true from rfl,Bool.and_true]
 congr 2
 rw[Bool.eq_iff_iff]
 simp only[Bool.and_eq_true,beq_iff_eq,decide_eq_true_iff]
 exact acl hn
theorem agN (a b c d:Int):GX [a,b,c,d] = [wd (nB a b+nB c d) 1,wd (nB a b+nB c d) 0,r9 (decide (rE≤nB a b+nB c d))]:=by
 obtain⟨x,hx,e,h1,h0⟩:=Bp a b
 obtain⟨y,hy,e',h1',h0'⟩:=Bp c d
 rw[e,e',GX,Ra]
 have z0:ui 0=((uW x y 0:Nat):Int):=by rw[TZ];rfl
 have z1:ui ((uW x y 1:Nat):Int)=((uW x y 1:Nat):Int):=by unfold ui;rw[uO];exact MQ (acz x y 1)
 refine(wF (r:=[wd (x+y) 0,((uW x y 1:Nat):Int)]) ?_ rfl).trans ?_
 ·simp only[tT,Wi,EG,h1,h0,h1',h0',z0]
  rw[Ga,Gb]
 refine(wF (r:=[wd (x+y) 1,((uW x y 2:Nat):Int)]) ?_ rfl).trans ?_
 ·simp only[tT,Wi,EG,h1,h0,h1',h0']
  rw[show r9 (sO ((uW x y 1:Nat):Int))=ui ((uW x y 1:Nat):Int) from rfl,z1,z1,Ga,Gb]
 rw[wE rfl]
 simp only[tT]
 congr 3
 rw[T9 (i:=2) (by rw[AY];exact hx) (by rw[AY];exact hy),AY]
 by_cases h:rE≤x+y
 ·rw[if_pos h,decide_eq_true h];rfl
 ·rw[if_neg h,decide_eq_false h];rfl
theorem agO (a b c d:Int):GZ [a,b,c,d] = [wd (nB a b+rE-nB c d) 1,wd (nB a b+rE-nB c d) 0,r9 (decide (nB a b<nB c d))]:=by
 obtain⟨x,hx,e,h1,h0⟩:=Bp a b
 obtain⟨y,hy,e',h1',h0'⟩:=Bp c d
 rw[e,e',GZ,Rb]
 have z0:ui 0=((bin x y 0:Nat):Int):=by rw[Ua];rfl
 have z1:ui ((bin x y 1:Nat):Int)=((bin x y 1:Nat):Int):=by unfold ui;rw[uO];exact MQ (acA x y 1)
 have hle:y≤x+rA^2:=by rw[AY];omega
 refine(wF (r:=[wd (x+rE-y) 0,((bin x y 1:Nat):Int)]) ?_ rfl).trans ?_
 ·simp only[tT,Wj,EH,h1,h0,h1',h0',z0]
  rw[Gd x y 0 2 (by decide) hle,Gc,AY]
 refine(wF (r:=[wd (x+rE-y) 1,((bin x y 2:Nat):Int)]) ?_ rfl).trans ?_
 ·simp only[tT,Wj,EH,h1,h0,h1',h0']
  rw[show r9 (sO ((bin x y 1:Nat):Int))=ui ((bin x y 1:Nat):Int) from rfl,z1,z1,Gd x y 1 2 (by decide) hle,Gc,AY]
 rw[wE rfl]
 simp only[tT]
 congr 3
 rw[Ub (i:=2) (by rw[AY];exact hx) (by rw[AY];exact hy)]
 by_cases h:x<y
 ·rw[if_pos h,decide_eq_true h];rfl
 ·rw[if_neg h,decide_eq_false h];rfl
theorem Ng (a b:Int):Ha [a,b]=oB ((u64 a).toNat*(u64 b).toNat):=by
 rw[Ha,Rc]
 have h:=Uk (uF a).2 (uF b).2
 rw[(uF a).1,(uF b).1] at h
 refine(wF (r:=oB ((u64 a).toNat*(u64 b).toNat)) ?_ rfl).trans ?_
 ·simp only[tT,ae2,GQ]
  rw[h.1,h.2]
 rw[wE rfl]
 simp only[tT]
theorem agP (a b c d:Int):He [a,b,c,d]=oW (nB a b*rE+nB c d):=by
 obtain⟨x,hx,e,h1,h0⟩:=Bp a b
 obtain⟨y,hy,e',h1',h0'⟩:=Bp c d
 rw[e,e',He,Re,wE rfl]
 obtain⟨j0,j1,j2,j3⟩:=acn (h:=x) hy
 simp only[tT,h1,h0,h1',h0',j0,j1,j2,j3]
theorem X9 (a b c d:Int):Dr [a,b,c,d]=oB (nW a b c d/rE):=by
 obtain⟨n,hn,e,h0,h1,h2,h3⟩:=XQ a b c d
 rw[e,Dr,Rf,wE rfl]
 simp only[tT,h2,h3,O0]
theorem Ya (a b c d:Int):Dt [a,b,c,d]=oB (nW a b c d):=by
 obtain⟨n,hn,e,h0,h1,h2,h3⟩:=XQ a b c d
 rw[e,Dt,Rh,wE rfl]
 simp only[tT,h0,h1]
def len (n:Nat):Nat:=if n=0 then 0 else Nat.log2 n+1
theorem agQ (a:Int):Hy [a] = [(FP.fW (fN a):Int),(FP.fP (fN a):Int),(FP.fE (fN a):Int)]:=by
 unfold fN
 rw[Hy,Rj]
 obtain⟨h1,h2⟩:=M8 a
 simp only[KC,tT,Bool.not_eq_true',decide_eq_false_iff_not,decide_eq_true_iff,beq_iff_eq]
 generalize hf:u8 a=f at *
 by_cases h4:f<4
 ·rw[if_neg (by omega)]
  rcases(show f=0∨f=1∨f=2∨f=3 by omega) with rfl|rfl|rfl|rfl
  ·rw[if_pos rfl,wE rfl];rfl
  ·rw[if_neg (by decide),if_pos rfl,wE rfl];rfl
  ·rw[if_neg (by decide),if_neg (by decide),if_pos rfl,wE rfl];rfl
  ·rw[if_neg (by decide),if_neg (by decide),if_neg (by decide),wE rfl];rfl
 ·rw[if_pos h4,wE rfl]
  obtain⟨m,rfl⟩:∃ m:Nat,f=((m+4:Nat):Int):=⟨(f-4).toNat,by omega⟩
  rw[Int.toNat_natCast];rfl
open Go.RowKit
theorem XL (f:Nat):FP.fW f≤128:=by unfold FP.fW;split<;>decide
theorem agR {n:Nat} (h:n≤1000000000000):i64 (n:Int)=n:=IL (by omega) (by omega)
theorem agS (f:Nat):i64 (FP.fW f:Int)=FP.fW f:=agR (by have:=XL f;omega)
theorem agT (a:Int):Kv [a] = [(FP.fW (fN a):Int)]:=by
 rw[Kv,Rk]
 refine(wF (by simp only[tT,afj];exact agQ _) (by rfl)).trans ?_
 rw[wE rfl];simp only[tT,agp,agS]
theorem Yb (a b c d:Int):nW (u64 a) (u64 b) (u64 c) (u64 d)=nW a b c d:=by unfold nW;rw[zA,zA,zA,zA]
theorem agU (n:Nat):nW (wd n 0) (wd n 1) (wd n 2) (wd n 3)=n%sI:=by
 have:=agr (n:=n%sI) (Nat.mod_lt _ acg)
 rw[← BK,JF _ _ _ (by decide),JF _ _ _ (by decide),JF _ _ _ (by decide),JF _ _ _ (by decide),BK] at this
 exact this
theorem Rw:sI=rE*rE:=by unfold sI;rfl
open Go.RowKit
def rW (n:Nat):List Int:=oW n
theorem agV (n:Nat):rW n=oW n:=rfl
theorem zB {n:Nat} (h:n<rE):nB (wd n 1) (wd n 0)=n:=by rw[Na,Nat.mod_eq_of_lt h]
open Go.RowKit
theorem IP {n:Nat} (h:n<sI):nW (wd n 0) (wd n 1) (wd n 2) (wd n 3)=n:=by rw[agU,Nat.mod_eq_of_lt h]
open Go.RowKit
open Go.RowKit
open Go.RowKit
open Go.RowKit
theorem Yc (a b c d e f g h:Int):GR [a,b,c,d,e,f,g,h]=Dp (nW a b c d+nW e f g h) (Nat.ble sI (nW a b c d+nW e f g h)):=rfl
theorem Rx (s:Nat) (b:Bool):Dp s b = [wd s 0,wd s 1,wd s 2,wd s 3,r9 b]:=rfl
theorem Yd {p:Nat} (h:p<rE):nW 0 (wd p 0) (wd p 1) 0=p*rA:=by
 have:=zB h
 unfold nB at this
 rw[yL,yL] at this
 unfold nW
 rw[show u64 0=0 by decide,yL,yL,show(0:Int).toNat=0 from rfl,Nat.mul_zero,Nat.add_zero,Nat.zero_add,Nat.mul_comm rA]
 congr 1
 rw[Nat.mul_comm rA,Nat.add_comm];exact this
theorem Nh {a b:Nat} (ha:a<rA) (hb:b<rA):a*b<rE:=Nat.mul_lt_mul'' ha hb
theorem agW (a1 a0 b1 b0:Nat):(a1*rA+a0)*(b1*rA+b0)=a1*b1*rE+a0*b0+a1*b0*rA+a0*b1*rA:=by
 have e:rE=rA*rA:=rE.eq_1
 rw[e]
 generalize rA=w
 rw[Nat.add_mul,Nat.mul_add,Nat.mul_add]
 have h1:a1*w*(b1*w)=a1*b1*(w*w):=by ac_rfl
 have h2:a1*w*b0=a1*b0*w:=by ac_rfl
 have h3:a0*(b1*w)=a0*b1*w:=by ac_rfl
 rw[h1,h2,h3];omega
theorem agX (a b c d:Int):M3 [a,b,c,d]=oW (nB a b*nB c d):=by
 refine Eq.trans ?_ (agV _)
 have ha:=(uF a).2;have hb:=(uF b).2;have hc:=(uF c).2;have hd:=(uF d).2
 have hab:=Dx a b;have hcd:=Dx c d
 have hprod:nB a b*nB c d<sI:=by
  have:=Nat.mul_lt_mul'' hab hcd
  rw[Rw];exact this
 have e0:nB a b*nB c d=(u64 a).toNat*(u64 c).toNat*rE+(u64 b).toNat*(u64 d).toNat+(u64 a).toNat*(u64 d).toNat*rA+(u64 b).toNat*(u64 c).toNat*rA:=agW _ _ _ _
 rw[e0] at hprod ⊢
 rw[M3,Rl]
 refine(wF (by simp only[tT,M5];exact Ng _ _) (by rfl)).trans ?_
 refine(wF (by simp only[tT,M5];exact Ng _ _) (by rfl)).trans ?_
 rw[zA,zA,zA,zA]
 have l11:=Nh ha hc;have l00:=Nh hb hd;have l10:=Nh ha hd;have l01:=Nh hb hc
 generalize (u64 a).toNat*(u64 c).toNat=p11 at *
 generalize (u64 b).toNat*(u64 d).toNat=p00 at *
 refine(wF (r:=oW (p11*rE+p00)) ?_ rfl).trans ?_
 ·simp only[tT,afk];rw[agP,zB l11,zB l00,KD]
 refine(wF (by simp only[tT,M5];exact Ng _ _) (by rfl)).trans ?_
 refine(wF (by simp only[tT,M5];exact Ng _ _) (by rfl)).trans ?_
 rw[zA,zA,zA,zA]
 generalize (u64 a).toNat*(u64 d).toNat=p10 at *
 generalize (u64 b).toNat*(u64 c).toNat=p01 at *
 refine(wF (r:=Dp (p11*rE+p00+p10*rA) (Nat.ble sI (p11*rE+p00+p10*rA))) ?_ rfl).trans ?_
 ·simp only[tT,WB];rw[Yc,IP (by omega),Yd l10]
 refine(wF (r:=Dp (p11*rE+p00+p10*rA+p01*rA) (Nat.ble sI (p11*rE+p00+p10*rA+p01*rA))) ?_ rfl).trans ?_
 ·simp only[tT,Rx,WB];rw[Yc,IP (by omega),Yd l01,Rx]
 rw[wE rfl]
 simp only[tT,Rx]
 rfl
open Go.RowKit
theorem agY (x y i:Nat):rQ .or .u64 (wd x i) (wd y i)=wd (x|||y) i:=by
 rw[yl,yl,Rt _ _ (Nat.mod_lt _ vg) (Nat.mod_lt _ vg),yl]
 congr 1
 apply Nat.eq_of_testBit_eq
 intro k
 rw[Nat.testBit_or,ET,ET,ET,Nat.testBit_or]
 cases decide (k<64)<;>simp
open Go.RowKit
def agZ (f t c:Nat):Nat:=c%2^(FP.fP f-1)*2^(129-FP.fP f)/2^(129-FP.fP t)
def ag0 (f t c:Nat):Nat:=FP.inf t+(agZ f t c|||2^(FP.fP t-2))
theorem Ye {x i n:Nat} (h:x<2^n) (hi:i<n):(x|||2^i)<2^n:=Nat.or_lt_two_pow h (Nat.pow_lt_pow_right (by decide) hi)
open Go.RowKit
namespace FP
end FP
def yZ (f t m:Nat) (after neg:Bool) (c:Nat):Nat×Nat :=
 if 4≤FP.clsC f c then(ag0 f t c,if FP.clsC f c=5 then 1 else 0) else if FP.clsC f c=3 then(FP.inf t,0) else FP.convC f t m after neg c
open Go.RowKit
end Go.Proofs.YtbembkamcdlhbaaGreatDoor
