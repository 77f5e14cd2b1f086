import Derived.Test.YtbembkamcdlhbaaGreatDoorZASc
import Derived.Laws.BitsAllLaws
import Derived.WalkKit
import Derived.Shelf.Spec.BitsCarry
import Derived.Shelf.Sort.So_math_bits_Len64In
import Derived.ChangeKeysEq
import Derived.WideMake
import Derived.Lib.Hide
set_option linter.unusedSimpArgs false
set_option linter.unusedVariables false
set_option maxRecDepth 1000000
set_option maxHeartbeats 4000000
namespace Go.Proofs.YtbembkamcdlhbaaGreatDoor
def ry:Nat:=18446744073709551616
theorem vw:0<ry:=by decide
theorem GD:ry=2^64:=by decide
def wd (n i:Nat):Int:=((n/ry^i%ry:Nat):Int)
def uY (x:Int):Prop:=0≤x∧x<(ry:Int)
theorem Bg (n i:Nat):uY (wd n i):=by
 unfold uY wd
 exact⟨Int.natCast_nonneg _,Int.ofNat_lt.2 (Nat.mod_lt _ vw)⟩
theorem uY.nat {x:Int} (h:uY x):∃ n:Nat,x=(n:Int)∧n<ry:=⟨x.toNat,(Int.toNat_of_nonneg h.1).symm,by have:=h.2;have:=h.1;omega⟩
abbrev vB (n:Nat):Value:=.agg #[.int .u64 (wd n 1),.int .u64 (wd n 0)]
abbrev vW (n:Nat):Value:=.agg #[.int .u64 (wd n 0),.int .u64 (wd n 1),.int .u64 (wd n 2),.int .u64 (wd n 3)]
def J7 (h l:Nat):Nat:=h*ry+l
theorem acR {h l:Nat} (hl:l<ry):wd (J7 h l) 0=(l:Int):=by
 unfold wd J7;rw[Nat.pow_zero,Nat.div_one,Nat.add_comm,Nat.add_mul_mod_self_right,Nat.mod_eq_of_lt hl]
theorem acS {h l:Nat} (hh:h<ry) (hl:l<ry):wd (J7 h l) 1=(h:Int):=by
 unfold wd J7
 rw[Nat.pow_one,Nat.add_comm,Nat.add_mul_div_right _ _ vw,Nat.div_eq_of_lt hl,Nat.zero_add,Nat.mod_eq_of_lt hh]
def yQ (x y c:Int):Int:=(x+y+c)%(ry:Int)
def vM (x y c:Int):Int:=(x+y+c)/(ry:Int)
def ym (x y c:Int):Int:=(x+(ry:Int)-y-c)%(ry:Int)
def vC (x y c:Int):Int:=if x<y+c then 1 else 0
def rD:Nat:=ry*ry
def sI:Nat:=rD*rD
theorem Mx:rD=2^128:=by decide
theorem Uy:sI=2^256:=by decide
theorem J8:0<rD:=by decide
theorem acT:0<sI:=by decide
theorem J9 (n i:Nat):n%ry^(i+1)=n%ry^i+ry^i*(n/ry^i%ry):=by
 rw[Nat.pow_succ,Nat.mod_mul]
def uZ (a b i:Nat):Nat:=(a%ry^i+b%ry^i)/ry^i
theorem Uz (a b:Nat):uZ a b 0=0:=by simp[uZ,Nat.mod_one]
theorem Bh (i:Nat):0<ry^i:=Nat.pow_pos vw
theorem acU (a b i:Nat):uZ a b i≤1:=by
 have h1:=Nat.mod_lt a (Bh i)
 have h2:=Nat.mod_lt b (Bh i)
 unfold uZ
 have:(a%ry^i+b%ry^i)/ry^i<2:=by rw[Nat.div_lt_iff_lt_mul (Bh i)];omega
 omega
theorem acV (a b i:Nat):(a+b)/ry^i=a/ry^i+b/ry^i+uZ a b i:=by
 have hp:=Bh i
 have ha:=Nat.div_add_mod a (ry^i)
 have hb:=Nat.div_add_mod b (ry^i)
 unfold uZ
 generalize ry^i=p at *
 generalize a/p=x at *;generalize b/p=y at *;generalize a%p=r at *;generalize b%p=s at *
 have:a+b=(r+s)+p*(x+y):=by rw[← ha,← hb,Nat.mul_add];omega
 rw[this,Nat.add_mul_div_left _ _ hp];omega
theorem GG (a b i:Nat):yQ (wd a i) (wd b i) (uZ a b i:Int)=wd (a+b) i:=by
 unfold yQ wd
 rw[acV,← Int.natCast_add,← Int.natCast_add,← Int.natCast_emod]
 congr 1
 simp[Nat.add_mod]
theorem GH (a b i:Nat):vM (wd a i) (wd b i) (uZ a b i:Int)=(uZ a b (i+1):Int):=by
 unfold vM wd
 rw[← Int.natCast_add,← Int.natCast_add,← Int.natCast_ediv]
 congr 1
 have hp:=Bh i
 have e:uZ a b (i+1)=(a%ry^i+b%ry^i+ry^i*(a/ry^i%ry+b/ry^i%ry))/ry^i/ry:=by
  unfold uZ
  rw[J9,J9,Nat.div_div_eq_div_mul,← Nat.pow_succ]
  congr 1
  rw[Nat.mul_add];omega
 rw[e,Nat.add_mul_div_left _ _ hp]
 unfold uZ
 congr 1;omega
theorem UA {a b i:Nat} (ha:a<ry^i) (hb:b<ry^i):uZ a b i=if ry^i≤a+b then 1 else 0:=by
 unfold uZ
 rw[Nat.mod_eq_of_lt ha,Nat.mod_eq_of_lt hb]
 split
 ·have:(a+b)/ry^i=1:=by rw[Nat.div_eq_iff (Bh i)];constructor<;>omega
  exact this
 ·exact Nat.div_eq_of_lt (by omega)
def bin (a b i:Nat):Nat:=if a%ry^i<b%ry^i then 1 else 0
theorem UB (a b:Nat):bin a b 0=0:=by simp[bin,Nat.mod_one]
theorem acW (a b i:Nat):bin a b i≤1:=by unfold bin;split<;>omega
theorem UC {a b i:Nat} (ha:a<ry^i) (hb:b<ry^i):bin a b i=if a<b then 1 else 0:=by
 unfold bin;rw[Nat.mod_eq_of_lt ha,Nat.mod_eq_of_lt hb]
theorem GI (a b i:Nat):vC (wd a i) (wd b i) (bin a b i:Int)=(bin a b (i+1):Int):=by
 have hp:=Bh i
 have h1:=Nat.mod_lt a hp
 have h2:=Nat.mod_lt b hp
 have h3:bin a b (i+1)=if a/ry^i%ry<b/ry^i%ry+bin a b i then 1 else 0:=by
  unfold bin
  rw[J9,J9]
  generalize ry^i=p at *
  generalize a/p%ry=x;generalize b/p%ry=y;generalize a%p=r at *;generalize b%p=s at *
  by_cases hrs:r<s
  ·simp only[hrs,if_true]
   by_cases hxy:x<y+1
   ·rw[if_pos hxy,if_pos]
    have:p*x≤p*y:=Nat.mul_le_mul_left _ (by omega)
    omega
   ·rw[if_neg hxy,if_neg]
    have:p*(y+1)≤p*x:=Nat.mul_le_mul_left _ (by omega)
    rw[Nat.mul_add] at this;omega
  ·simp only[hrs,if_false,Nat.add_zero]
   by_cases hxy:x<y
   ·rw[if_pos hxy,if_pos]
    have:p*(x+1)≤p*y:=Nat.mul_le_mul_left _ (by omega)
    rw[Nat.mul_add] at this;omega
   ·rw[if_neg hxy,if_neg]
    have:p*y≤p*x:=Nat.mul_le_mul_left _ (by omega)
    omega
 unfold vC wd
 rw[h3,← Int.natCast_add]
 simp only[Int.ofNat_lt]
 split<;>rfl
theorem GJ (a b i m:Nat) (hm:i<m) (hb:b≤a+ry^m):ym (wd a i) (wd b i) (bin a b i:Int)=wd (a+ry^m-b) i:=by
 have hp:=Bh i
 have h1:=Nat.mod_lt a hp
 have h2:=Nat.mod_lt b hp
 have e1:=Nat.div_add_mod a (ry^i)
 have e2:=Nat.div_add_mod b (ry^i)
 have e3:ry^m=ry^i*(ry*ry^(m-i-1)):=by
  rw[← Nat.pow_succ',← Nat.pow_add];congr 1;omega
 have e4:(a+ry^m-b)/ry^i=a/ry^i+ry*ry^(m-i-1)-b/ry^i-bin a b i:=by
  rw[e3] at hb ⊢
  unfold bin
  generalize ry^i=p at *
  generalize ry*ry^(m-i-1)=q at *
  generalize a/p=x at *;generalize b/p=y at *;generalize a%p=r at *;generalize b%p=s at *
  have hxy:p*y≤p*(x+q)+r:=by rw[Nat.mul_add];omega
  by_cases hrs:r<s
  ·simp only[hrs,if_true]
   have hlt:y<x+q:=by
    apply Classical.byContradiction
    intro hn
    have:p*(x+q)≤p*y:=Nat.mul_le_mul_left _ (by omega)
    have:p*y+s≤p*(x+q)+r:=by rw[Nat.mul_add];omega
    omega
   have e:a+p*q-b=(p+r-s)+p*(x+q-y-1):=by
    have:p*(x+q)=p*(x+q-y-1)+p*y+p:=by
     rw[show x+q=(x+q-y-1)+y+1 by omega,Nat.mul_add,Nat.mul_add,Nat.mul_one]
     rw[show x+q-y-1+y+1-y-1=x+q-y-1 by omega]
    rw[Nat.mul_add] at this;omega
   rw[e,Nat.add_mul_div_left _ _ hp,Nat.div_eq_of_lt (by omega)];omega
  ·simp only[hrs,if_false,Nat.sub_zero]
   have hle:y≤x+q:=by
    apply Classical.byContradiction
    intro hn
    have:p*(x+q+1)≤p*y:=Nat.mul_le_mul_left _ (by omega)
    rw[Nat.mul_add] at this;omega
   have e:a+p*q-b=(r-s)+p*(x+q-y):=by
    have:p*(x+q)=p*(x+q-y)+p*y:=by rw[← Nat.mul_add];congr 1;omega
    rw[Nat.mul_add] at this;omega
   rw[e,Nat.add_mul_div_left _ _ hp,Nat.div_eq_of_lt (by omega)];omega
 have hle:b/ry^i+bin a b i≤a/ry^i+ry*ry^(m-i-1):=by
  rw[e3] at hb
  unfold bin
  generalize ry^i=p at *
  generalize ry*ry^(m-i-1)=q at *
  generalize a/p=x at *;generalize b/p=y at *;generalize a%p=r at *;generalize b%p=s at *
  apply Classical.byContradiction
  intro hn
  split at hn
  ·have:p*(x+q)≤p*y:=Nat.mul_le_mul_left _ (by omega)
   rw[Nat.mul_add] at this;omega
  ·have:p*(x+q+1)≤p*y:=Nat.mul_le_mul_left _ (by omega)
   rw[Nat.mul_add,Nat.mul_add] at this;omega
 unfold ym wd
 rw[e4]
 generalize a/ry^i=x at *;generalize b/ry^i=y at *;generalize bin a b i=c at *
 generalize ry^(m-i-1)=t at *
 have hw:=vw
 generalize ry=z at *
 rw[Int.natCast_emod,Int.natCast_emod,Int.natCast_emod]
 rw[show((x+z*t-y-c:Nat):Int)=(x:Int)+(z:Int)*(t:Int)-(y:Int)-(c:Int) by
  have:((z*t:Nat):Int)=(z:Int)*(t:Int):=Int.natCast_mul z t
  omega]
 have e5:=Int.emod_add_mul_ediv (x:Int) (z:Int)
 have e6:=Int.emod_add_mul_ediv (y:Int) (z:Int)
 have e7:(x:Int)%(z:Int)+(z:Int)-(y:Int)%(z:Int)-(c:Int)=((x:Int)+(z:Int)*(t:Int)-(y:Int)-(c:Int))+(z:Int)*(1-(t:Int)-(x:Int)/(z:Int)+(y:Int)/(z:Int)):=by
  simp only[Int.mul_add,Int.mul_sub,Int.mul_one];omega
 rw[e7,Int.add_mul_emod_self_left]
theorem Ka (a j k:Nat) (hk:k<64):(a/ry^j%ry).testBit k=a.testBit (64*j+k):=by
 rw[GD,← Nat.pow_mul,Nat.testBit_mod_two_pow,Nat.testBit_div_two_pow]
 simp[hk,Nat.add_comm]
theorem Kb (n i j:Nat) (h:i<j):wd (n%ry^j) i=wd n i:=by
 unfold wd
 congr 1
 have e:ry^j=ry^i*(ry*ry^(j-i-1)):=by rw[← Nat.pow_succ',← Nat.pow_add];congr 1;omega
 rw[e,Nat.mod_mul_right_div_self,Nat.mod_mul_right_mod]
theorem UD (n i:Nat):n%ry^(i+1)=n%ry^i+ry^i*(wd n i).toNat:=by
 rw[J9];unfold wd;rw[Int.toNat_natCast]
theorem UE {a b:Nat} (m:Nat) (h:∀ i,i<m→wd a i=wd b i):a%ry^m=b%ry^m:=by
 induction m with
 | zero=>simp[Nat.mod_one]
 | succ m ih=>rw[UD,UD,ih (fun i hi=>h i (by omega)),h m (by omega)]
theorem UF {a b:Nat} (ha:a<rD) (hb:b<rD) (h0:wd a 0=wd b 0) (h1:wd a 1=wd b 1):a=b:=by
 have:=UE (a:=a) (b:=b) 2 (fun i hi=>by
  have:i=0∨i=1:=by omega
  rcases this with rfl|rfl<;>assumption)
 rw[show ry^2=rD by decide,Nat.mod_eq_of_lt ha,Nat.mod_eq_of_lt hb] at this
 exact this
theorem acX {a b:Nat} (ha:a<sI) (hb:b<sI) (h0:wd a 0=wd b 0) (h1:wd a 1=wd b 1) (h2:wd a 2=wd b 2) (h3:wd a 3=wd b 3):a=b:=by
 have:=UE (a:=a) (b:=b) 4 (fun i hi=>by
  have:i=0∨i=1∨i=2∨i=3:=by omega
  rcases this with rfl|rfl|rfl|rfl<;>assumption)
 rw[show ry^4=sI by decide,Nat.mod_eq_of_lt ha,Nat.mod_eq_of_lt hb] at this
 exact this
theorem GK (i:Nat):wd 0 i=0:=by simp[wd]
theorem acY {a:Nat} (ha:a<rD):(wd a 1=0∧wd a 0=0)↔a=0:=by
 constructor
 ·rintro⟨h1,h0⟩;exact UF ha (by decide) (by rw[h0,GK]) (by rw[h1,GK])
 ·rintro rfl;exact⟨GK _,GK _⟩
theorem Bi:ry^2=rD:=by decide
theorem Ca:ry^4=sI:=by decide
theorem acZ (a i j:Nat):wd (a/ry^i) j=wd a (i+j):=by
 unfold wd;rw[Nat.div_div_eq_div_mul,← Nat.pow_add]
theorem Px (a j:Nat):wd (a/rD) j=wd a (2+j):=by rw[← Bi,acZ]
theorem Bj (a j:Nat) (h:j<2):wd (a%rD) j=wd a j:=by rw[← Bi,Kb _ _ _ h]
theorem UG {a:Nat} (ha:a<sI):a/rD<rD:=by
 rw[Nat.div_lt_iff_lt_mul J8];exact ha
theorem UH {h l:Nat} (hl:l<rD):(h*rD+l)/rD=h:=by
 rw[Nat.add_comm,Nat.add_mul_div_right _ _ J8,Nat.div_eq_of_lt hl,Nat.zero_add]
theorem UI {h l:Nat} (hl:l<rD):(h*rD+l)%rD=l:=by
 rw[Nat.add_comm,Nat.add_mul_mod_self_right,Nat.mod_eq_of_lt hl]
theorem ac0 {h l:Nat} (hl:l<rD):wd (h*rD+l) 0=wd l 0∧wd (h*rD+l) 1=wd l 1∧wd (h*rD+l) 2=wd h 0∧wd (h*rD+l) 3=wd h 1:=by
 refine⟨?_,?_,?_,?_⟩
 ·rw[← Bj (h*rD+l) 0 (by omega),UI hl]
 ·rw[← Bj (h*rD+l) 1 (by omega),UI hl]
 ·rw[← Px _ 0,UH hl]
 ·rw[← Px _ 1,UH hl]
open Go.RowKit Go.Shelf
theorem UJ (x y c:Int) (hx:uY x) (hy:uY y) (hc:0≤c∧c≤1) (w:World) :
  (callFunc 124 #[.int .u64 x,.int .u64 y,.int .u64 c]).run Tryz.prog w = .ok (.value (.tuple #[.int .u64 (yQ x y c),.int .u64 (vM x y c)])) w:=by
 obtain⟨x,rfl,hx'⟩:=hx.nat
 obtain⟨y,rfl,hy'⟩:=hy.nat
 obtain⟨c,rfl⟩:=Int.eq_ofNat_of_zero_le hc.1
 rw[run_callFunc_extern Tryz.func124 (by kernel_rfl) (by kernel_rfl) (by kernel_rfl) (e:=add64Entry) (by kernel_rfl),run_add64 x y c (by omega) (by omega) (by omega) (by omega)]
 simp only[Result.andThen]
 unfold yQ vM ry
 congr 5<;>omega
theorem UK (x y c:Int) (hx:uY x) (hy:uY y) (hc:0≤c∧c≤1) (w:World) :
  (callFunc 308 #[.int .u64 x,.int .u64 y,.int .u64 c]).run Tryz.prog w = .ok (.value (.tuple #[.int .u64 (ym x y c),.int .u64 (vC x y c)])) w:=by
 obtain⟨x,rfl,hx'⟩:=hx.nat
 obtain⟨y,rfl,hy'⟩:=hy.nat
 obtain⟨c,rfl⟩:=Int.eq_ofNat_of_zero_le hc.1
 have h1:x<18446744073709551616:=hx'
 have h2:y<18446744073709551616:=hy'
 rw[run_callFunc_extern Tryz.func308 (by kernel_rfl) (by kernel_rfl) (by kernel_rfl) (e:=sub64Entry) (by kernel_rfl),run_sub64 x y c (by omega)]
 simp only[Result.andThen]
 have e1:(((x+18446744073709551616-y-c)%18446744073709551616:Nat):Int)=ym x y c:=by unfold ym ry;omega
 have e2:((if x<y+c then 1 else 0:Nat):Int)=vC x y c:=by
  unfold vC
  by_cases h:x<y+c
  ·rw[if_pos h,if_pos (by omega)];rfl
  ·rw[if_neg h,if_neg (by omega)];rfl
 rw[e1,e2]
theorem ac1 (z:Int):bits .and .u64 (z%18446744073709551616) 4294967295=z%18446744073709551616%4294967296:=and_low32 _ (by omega) (by omega)
theorem ac2 {k:IntKind} {a b c d:Int} (h1:a=c) (h2:b=d):Ending.returned (.tuple #[.int k a,.int k b]) = .returned (.tuple #[.int k c,.int k d]):=by rw[h1,h2]
theorem ac3 (a b:Int) (w:World) (ha:uY a) (hb:uY b) :
  Calls Tryz.prog 367 #[.int .u64 a,.int .u64 b] w fun e w'=>e = .returned (.tuple #[.int .u64 (a*b/(ry:Int)),.int .u64 (a*b%(ry:Int))])∧w=w':=by
 have HA:=Lib.hid ha;have HB:=Lib.hid hb;clear ha hb
 go_enter Tryz.func367,Tryz.ntmps367
 go_wp2
 go_ret2
 have ha:0≤a∧a<18446744073709551616:=HA.out
 have hb:0≤b∧b<18446744073709551616:=HB.out
 refine⟨ac2 ?_ ?_,rfl⟩
 ·show _=a*b/18446744073709551616
  rw[← mul64_arith a b ha.1 ha.2 hb.1 hb.2]
  simp only[IntKind.wrap_u64,ac1,and_low32 a ha.1 ha.2,and_low32 b hb.1 hb.2]
 ·show _=a*b%18446744073709551616
  rw[← IntKind.wrap_u64]
theorem UL {a b:Nat} (ha:a<ry) (hb:b<ry):(a:Int)*(b:Int)/(ry:Int)=wd (a*b) 1∧(a:Int)*(b:Int)%(ry:Int)=wd (a*b) 0:=by
 rw[← Int.natCast_mul,← Int.natCast_ediv,← Int.natCast_emod]
 unfold wd
 have hlt:a*b/ry<ry:=by
  rw[Nat.div_lt_iff_lt_mul vw]
  exact Nat.mul_lt_mul'' ha hb
 exact⟨by rw[Nat.pow_one,Nat.mod_eq_of_lt hlt],by rw[Nat.pow_zero,Nat.div_one]⟩
theorem ac4 (x : Int) (w : World) (hx : uY x) :
    Calls Tryz.prog 342 #[.int .u64 x] w fun e w' => e = .returned (.int .i64 (Lib.bitLen x.toNat : Int)) ∧ w = w' := by
  have h0 : 0 ≤ x := hx.1
  have h1 : x ≤ 18446744073709551615 := by have h : x < 18446744073709551616 := hx.2; omega
  clear hx
  go_enter Tryz.func342, Tryz.ntmps342
  go_wp2
  all_goals first
    | (go_ret; refine ⟨congrArg Ending.returned (congrArg (Value.int .i64) ?_), rfl⟩; go_light)
    | (exfalso
       go_light
       have hs := len8tab_size
       omega)
  all_goals first
    | (rw [len8_get (x / 4294967296 / 65536 / 256) _, Lib.len8_of (x / 4294967296 / 65536 / 256) (by omega) (by omega)]
       have e : (x / 4294967296 / 65536 / 256).toNat = x.toNat / 72057594037927936 := by omega
       have l := Lib.bitLen_le8' (x / 4294967296 / 65536 / 256) (by omega) (by omega)
       have s := Lib.bitLen_shift56 x.toNat (by omega) (by omega)
       rw [e] at l ⊢
       exact wrap_add 56 _ _ (by decide) l s)
    | (rw [len8_get (x / 4294967296 / 65536) _, Lib.len8_of (x / 4294967296 / 65536) (by omega) (by omega)]
       have e : (x / 4294967296 / 65536).toNat = x.toNat / 281474976710656 := by omega
       have l := Lib.bitLen_le8' (x / 4294967296 / 65536) (by omega) (by omega)
       have s := Lib.bitLen_shift48 x.toNat (by omega) (by omega)
       rw [e] at l ⊢
       exact wrap_add 48 _ _ (by decide) l s)
    | (rw [len8_get (x / 4294967296 / 256) _, Lib.len8_of (x / 4294967296 / 256) (by omega) (by omega)]
       have e : (x / 4294967296 / 256).toNat = x.toNat / 1099511627776 := by omega
       have l := Lib.bitLen_le8' (x / 4294967296 / 256) (by omega) (by omega)
       have s := Lib.bitLen_shift40 x.toNat (by omega) (by omega)
       rw [e] at l ⊢
       exact wrap_add 40 _ _ (by decide) l s)
    | (rw [len8_get (x / 4294967296) _, Lib.len8_of (x / 4294967296) (by omega) (by omega)]
       have e : (x / 4294967296).toNat = x.toNat / 4294967296 := by omega
       have l := Lib.bitLen_le8' (x / 4294967296) (by omega) (by omega)
       have s := Lib.bitLen_shift32 x.toNat (by omega) (by omega)
       rw [e] at l ⊢
       exact wrap_add 32 _ _ (by decide) l s)
    | (rw [len8_get (x / 65536 / 256) _, Lib.len8_of (x / 65536 / 256) (by omega) (by omega)]
       have e : (x / 65536 / 256).toNat = x.toNat / 16777216 := by omega
       have l := Lib.bitLen_le8' (x / 65536 / 256) (by omega) (by omega)
       have s := Lib.bitLen_shift24 x.toNat (by omega) (by omega)
       rw [e] at l ⊢
       exact wrap_add 24 _ _ (by decide) l s)
    | (rw [len8_get (x / 65536) _, Lib.len8_of (x / 65536) (by omega) (by omega)]
       have e : (x / 65536).toNat = x.toNat / 65536 := by omega
       have l := Lib.bitLen_le8' (x / 65536) (by omega) (by omega)
       have s := Lib.bitLen_shift16 x.toNat (by omega) (by omega)
       rw [e] at l ⊢
       exact wrap_add 16 _ _ (by decide) l s)
    | (rw [len8_get (x / 256) _, Lib.len8_of (x / 256) (by omega) (by omega)]
       have e : (x / 256).toNat = x.toNat / 256 := by omega
       have l := Lib.bitLen_le8' (x / 256) (by omega) (by omega)
       have s := Lib.bitLen_shift8 x.toNat (by omega) (by omega)
       rw [e] at l ⊢
       exact wrap_add 8 _ _ (by decide) l s)
    | (rw [len8_get (x) _, Lib.len8_of (x) (by omega) (by omega)]
       have l := Lib.bitLen_le8' (x) (by omega) (by omega)
       first | exact wrap_wrap _ l | exact wrap_add 0 _ _ (by decide) l (by omega) | exact wrap_one _ l)
open Go.RowKit Go.Shelf
theorem MB (w:World) {e:TypeId} (hu:Tryz.prog.underlying e=some (.int .u64)) (xs:Array Value) (i:Nat) (v:Value) (h:xs[i]? = some v):(part e xs i).run Tryz.prog w = .ok v w:=by
 simp[part,isAgg,run_underlying hu,h]
open Go.RowKit Go.Shelf
attribute [local go_sem] Oper.semAt_some
def upto:Nat→List (Fin 4)
 | 0=>[]
 | k+1=>if h:k<4 then upto k ++ [⟨k,h⟩] else upto k
theorem UM {k:Nat} (hk:k<4):upto (k+1)=upto k ++ [⟨k,hk⟩]:=by simp[upto,hk]
theorem UN:∀ k,k≤4→(upto k).length=k
 | 0,_=>rfl
 | k+1,h=>by rw[UM (by omega),List.length_append,UN k (by omega)];rfl
theorem ac5 (F:Fence) (n:Nat) (h7:F.fn 368) (hro:F.round=none) (hn:1≤n) (l:Nat) (J Jx:List (Fin 4)→World→Prop)
  (hY:∀ pre x W,J pre W→pre.length<4→YieldAt F (n-1) Tryz.prog l #[.int .i64 (x.1:Int)] W fun e W' =>
   (e = .returned (.bool true)∧J (pre ++ [x]) W'∧True)∨(e = .returned (.bool false)∧Jx (pre ++ [x]) W'))
  (W:World) (h0:J [] W) :
  CallsIn F n Tryz.prog 368 #[.func (.yield l) #[] #[]] W fun e W'=>(∃ v,e = .returned v) ∧
   ((∃ ys,ys=upto 4∧J ys W')∨(∃ pre,True∧Jx pre W')):=by
 refine callsIn_of_wp Tryz.func368 rfl h7 ?_ hro
 simp only[Tryz.ntmps368,List.size_toArray,List.length_cons,List.length_nil,Nat.reduceAdd,Nat.reduceSub,Array.replicate_succ,Array.replicate_zero,List.push_toArray,List.append_toArray,List.nil_append,List.cons_append]
 gi_wp2
 gi_loopw [2] (fun i wr=>∃ k:Nat,k≤4∧i = .int .i64 k∧J (upto k) wr)
  (fun i _=>4-(intOf i).toNat)
 case atStart=>exact⟨0,Nat.zero_le _,rfl,h0⟩
 case round =>
  obtain⟨k,hk,rfl,hJs⟩:=hrel
  by_cases hlt:k<4
  ·have Hs:=Lib.hid (UM hlt)
   have hlen:=UN k hk
   obtain⟨fn,tmps,assign,body,hy,hR⟩:=hY _ ⟨k,hlt⟩ wr hJs (by omega)
   dsimp only at hy
   gi_wp2
   refine hR.mono ?_
   rintro e W3 (⟨rfl,hJ3,-⟩|⟨rfl,hJx3⟩)
   ·gi_wp2
    go_roundw
    case rel=>exact⟨k+1,by omega,by simp,by rw[Hs.out];exact hJ3⟩
    case measure=>simp[intOf];omega
   ·gi_wp2
    go_end0
    exact⟨⟨_,rfl⟩,.inr ⟨_,trivial,hJx3⟩⟩
  ·obtain rfl:k=4:=by omega
   gi_wp2
   refine⟨fun _ h=>(by cases h),?_⟩
   gi_wp2
   go_end0
   exact⟨⟨_,rfl⟩,.inl ⟨_,rfl,hJs⟩⟩
theorem ac6 (F:Fence) (n:Nat) (h7:F.fn 368) (hro:F.round=none) (hn:1≤n) (w:World) :
  SeqStopsK F n Tryz.prog 368 #[] (fun x:Fin 4=>#[Value.int .i64 (x.1:Int)]) (fun _ _=>True) (fun ys=>ys=upto 4)
   (fun _=>True) 4 w:=fun l J Jx W hW _ _ hY h0 =>
 ac5 F n h7 hro hn l J Jx hY W h0
theorem ac7 (F:Fence) (n:Nat) (h5:F.fn 352) (hro:F.round=none) (w:World) :
  CallsIn F n Tryz.prog 352 #[] w fun e w'=>e = .returned (.func (.func 368) #[] #[])∧w'=w:=by
 refine callsIn_of_wp Tryz.func352 rfl h5 ?_ hro
 simp only[Tryz.ntmps352,List.size_toArray,List.length_nil,Nat.reduceSub,Array.replicate_succ,Array.replicate_zero,List.push_toArray,List.append_toArray,List.nil_append]
 gi_wp2
 go_ret
 exact⟨rfl,rfl⟩
structure MC (one:Nat) (f g:Int→Int→Int→Int):Prop where
 run:∀ x y c w,uY x→uY y→0≤c∧c≤1→(callFunc one #[.int .u64 x,.int .u64 y,.int .u64 c]).run Tryz.prog w = .ok (.value (.tuple #[.int .u64 (f x y c),.int .u64 (g x y c)])) w
 carry:∀ x y c,uY x→uY y→0≤c∧c≤1→0≤g x y c∧g x y c≤1
def uw (f g:Int→Int→Int→Int) (a b:Nat) (pre:List (Fin 4)):Array Value×Int :=
 pre.foldl (fun s x=>(s.1.setIfInBounds x.1 (.int .u64 (f (wd a x.1) (wd b x.1) s.2)),g (wd a x.1) (wd b x.1) s.2)) (#[.int .u64 0,.int .u64 0,.int .u64 0,.int .u64 0],0)
theorem UO (f g:Int→Int→Int→Int) (a b:Nat) (pre:List (Fin 4)) (x:Fin 4) :
  uw f g a b (pre ++ [x])=((uw f g a b pre).1.setIfInBounds x.1 (.int .u64 (f (wd a x.1) (wd b x.1) (uw f g a b pre).2)),g (wd a x.1) (wd b x.1) (uw f g a b pre).2):=by simp[uw]
theorem ac8 (f g:Int→Int→Int→Int) (a b:Nat) (pre:List (Fin 4)):(uw f g a b pre).1.size=4:=by
 unfold uw
 suffices h:∀ (pre:List (Fin 4)) (s:Array Value×Int),s.1.size=4→(pre.foldl (fun s x=>(s.1.setIfInBounds x.1 (Value.int .u64 (f (wd a x.1) (wd b x.1) s.2)),g (wd a x.1) (wd b x.1) s.2)) s).1.size=4 from h pre _ rfl
 intro pre
 induction pre with
 | nil=>intro s h;exact h
 | cons x xs ih=>intro s h;exact ih _ (by simp[h])
theorem ac9 {one:Nat} {f g:Int→Int→Int→Int} (hc:MC one f g) (a b:Nat) (pre:List (Fin 4)):0≤(uw f g a b pre).2∧(uw f g a b pre).2≤1:=by
 unfold uw
 suffices h:∀ (pre:List (Fin 4)) (s:Array Value×Int),0≤s.2∧s.2≤1→0≤(pre.foldl (fun s x=>(s.1.setIfInBounds x.1 (Value.int .u64 (f (wd a x.1) (wd b x.1) s.2)),g (wd a x.1) (wd b x.1) s.2)) s).2∧(pre.foldl (fun s x=>(s.1.setIfInBounds x.1 (Value.int .u64 (f (wd a x.1) (wd b x.1) s.2)),g (wd a x.1) (wd b x.1) s.2)) s).2≤1 from h pre _ (by decide)
 intro pre
 induction pre with
 | nil=>intro s h;exact h
 | cons x xs ih=>intro s h;exact ih _ (hc.carry _ _ _ (Bg _ _) (Bg _ _) h)
theorem yR {β:Type} (B:Nat) (t:TypeId) (f:β→Array Value):Own (fun s W=>W.heap[B]? = some (.cells (f s) t (0,0))):=fun s X Y row hs hg hrow=>by
 have hlt:=C9 hs
 have hb:=hg.block B hlt (fun e'=>by obtain⟨o,ho,hc⟩:=hrow B e'.symm;rw[show X.heap[B]? = _ from hs] at ho;cases ho;cases hc)
 exact hb.trans hs
theorem Kc (a:Nat) (x:Fin 4):(#[Value.int .u64 (wd a 0),.int .u64 (wd a 1),.int .u64 (wd a 2),.int .u64 (wd a 3)])[x.1]? = some (.int .u64 (wd a x.1)) :=
 match x with|0=>rfl|1=>rfl|2=>rfl|3=>rfl
theorem UQ {one:Nat} {f g:Int→Int→Int→Int} (hC:MC one f g) (F:Fence) (n:Nat) (h1:F.fn 307) (h2:F.fn 352) (h3:F.fn 368) (h4:F.fn one) (hro:F.round=none) (hn:3≤n) (a b:Nat) (w:World) (r0 r1 r2 r3 rc:Int)
  (hst:uw f g a b (upto 4)=(#[.int .u64 r0,.int .u64 r1,.int .u64 r2,.int .u64 r3],rc)) :
  CallsIn F n Tryz.prog 307 #[vW a,vW b,.func (.func one) #[] #[]] w fun e w'=>e = .returned (.tuple #[.agg #[.int .u64 r0,.int .u64 r1,.int .u64 r2,.int .u64 r3],.bool (rc != 0)])∧q9 w w':=by
 have hn1:1≤n:=by omega
 refine callsIn_of_wp_marks Tryz.func307 rfl h1 ?_ hro
 simp only[Tryz.ntmps307,List.size_toArray,List.length_cons,List.length_nil,Nat.reduceAdd,Nat.reduceSub,Array.replicate_succ,Array.replicate_zero,List.push_toArray,List.append_toArray,List.nil_append,List.cons_append]
 gi_wp2_with (gi_at_call 352;refine(ac7 F (n-1) h2 hro _).mono ?_;rintro e w' ⟨rfl,rfl⟩)
 have hB0:Below w.heap.size w ((((((w.alloc (.cells #[.int .u64 (wd a 0),.int .u64 (wd a 1),.int .u64 (wd a 2),.int .u64 (wd a 3)] 252)).alloc (.cells #[.int .u64 (wd b 0),.int .u64 (wd b 1),.int .u64 (wd b 2),.int .u64 (wd b 3)] 252)).alloc (.cells #[.func (.func one) #[] #[]] 194)).alloc (.cells #[.int .u64 0,.int .u64 0,.int .u64 0,.int .u64 0] 252)).alloc (.cells #[.int .u64 0,.int .u64 0,.int .u64 0,.int .u64 0] 252)).alloc (.cells #[.int .u64 0] 25)):=((((((q9.refl w).alloc _).alloc _).alloc _).alloc _).alloc _).alloc _
 refine wpIn_rangeFunc_ownG hro hn1 (gf:=368) (lb:=#[]) rfl h3 (enters_of Tryz.func368 (by kernel_rfl) rfl)
  (ac6 F (n-1) h3 hro (by omega) _) (fun _ _=>trivial) (fun _ _ _ _ _ _ _ _=>trivial) (Below.refl _ _) (fun _=>rfl)
  (fun pre W=>(((W.heap[w.heap.size]? = some (.cells #[.int .u64 (wd a 0),.int .u64 (wd a 1),.int .u64 (wd a 2),.int .u64 (wd a 3)] 252 (0,0))∧W.heap[w.heap.size+1]? = some (.cells #[.int .u64 (wd b 0),.int .u64 (wd b 1),.int .u64 (wd b 2),.int .u64 (wd b 3)] 252 (0,0))) ∧
   (W.heap[w.heap.size+1+1]? = some (.cells #[.func (.func one) #[] #[]] 194 (0,0))∧W.heap[w.heap.size+1+1+1]? = some (.cells #[.int .u64 0,.int .u64 0,.int .u64 0,.int .u64 0] 252 (0,0)))) ∧
   (W.heap[w.heap.size+1+1+1+1]? = some (.cells (uw f g a b pre).1 252 (0,0))∧W.heap[w.heap.size+1+1+1+1+1]? = some (.cells #[.int .u64 (uw f g a b pre).2] 25 (0,0))))∧Below w.heap.size w W)
  (fun _ _ _=>False)
  (OwnFrom.and (OwnFrom.and (OwnFrom.and (OwnFrom.and (Own.from (yR _ _ _) _) (Own.from (yR _ _ _) _)) (OwnFrom.and (Own.from (yR _ _ _) _) (Own.from (yR _ _ _) _))) (OwnFrom.and (Own.from (yR _ _ _) _) (Own.from (yR _ _ (fun pre=>#[.int .u64 (uw f g a b pre).2])) _))) (ownFrom_below (Nat.le_refl _) (by simp;omega)))
  (fun _ _ _ _ _ hs _ _=>hs)
  ⟨⟨⟨⟨heap_alloc (heap_alloc (heap_alloc (heap_alloc (heap_alloc (BO _ _) _) _) _) _) _,heap_alloc (heap_alloc (heap_alloc (heap_alloc (JR _ _ _) _) _) _) _⟩,heap_alloc (heap_alloc (heap_alloc (zz _ _ _ _) _) _) _,heap_alloc (heap_alloc (Ma _ _ _ _ _) _) _⟩,heap_alloc (Mc _ _ _ _ _ _) _,Md _ _ _ _ _ _ _⟩,hB0⟩
  (fun x => { tmps:=#[vW a,vW b,.func (.func one) #[] #[],.pointer (some ⟨w.heap.size,0,none⟩),.pointer (some ⟨w.heap.size+1,0,none⟩),.pointer (some ⟨w.heap.size+1+1,0,none⟩),.pointer (some ⟨w.heap.size+1+1+1,0,none⟩),.bool false,.pointer (some ⟨w.heap.size+1+1+1+1,0,none⟩),.pointer (some ⟨w.heap.size+1+1+1+1+1,0,none⟩),.int .i64 (x.1:Int),.func (.func 368) #[] #[],.int .i64 (x.1:Int),undef,undef,undef,undef,undef,undef,undef,undef,undef,undef,undef,undef,undef,undef,undef,undef,undef],defers:=[] }) ?assign ?body ?done ?stop
 case assign =>
  intro l x W K hK
  gi_wp2
  exact hK
 case body =>
  rintro l pre x V ⟨⟨⟨⟨bA,bB⟩,bF,bR⟩,bO,bC⟩,hB⟩ hlt
  have hx:(x.1:Int)<4:=by have:=x.2;omega
  obtain⟨v0,hv0⟩:∃ v,(uw f g a b pre).1[x.1]? = some v:=⟨_,Array.getElem?_eq_getElem (by rw[ac8];exact x.2)⟩
  gi_wp2
  refine C8 (fun(L:Nat→Bool) (A:Act) (W:World)=>∃ u14 u15 u16 u17 u18 u19 u20 u21 u22 u23 u13 u24 u25 u26:Value,A=⟨#[vW a,vW b,Value.func (Fn.func one) #[] #[],Value.pointer (some { block:=w.heap.size,off:=0 }),Value.pointer (some { block:=w.heap.size+1,off:=0 }),Value.pointer (some { block:=w.heap.size+1+1,off:=0 }),Value.pointer (some { block:=w.heap.size+1+1+1,off:=0 }),Value.bool false,Value.pointer (some { block:=w.heap.size+1+1+1+1,off:=0 }),Value.pointer (some { block:=w.heap.size+1+1+1+1+1,off:=0 }),Value.int IntKind.i64 ↑↑x,Value.func (Fn.func 368) #[] #[],Value.int IntKind.i64 ↑↑x,u13,u14,u15,u16,u17,u18,u19,u20,u21,u22,u23,u24,u25,u26,undef,undef,undef],[]⟩∧q9 w W∧KeepsOthers V W∧W.heap[w.heap.size]? = some (.cells #[.int .u64 (wd a 0),.int .u64 (wd a 1),.int .u64 (wd a 2),.int .u64 (wd a 3)] 252 (0,0))∧W.heap[w.heap.size+1]? = some (.cells #[.int .u64 (wd b 0),.int .u64 (wd b 1),.int .u64 (wd b 2),.int .u64 (wd b 3)] 252 (0,0))∧W.heap[w.heap.size+1+1]? = some (.cells #[.func (.func one) #[] #[]] 194 (0,0))∧W.heap[w.heap.size+1+1+1]? = some (.cells #[.int .u64 0,.int .u64 0,.int .u64 0,.int .u64 0] 252 (0,0))∧W.heap[w.heap.size+1+1+1+1]? = some (.cells (bif L 14 then((uw f g a b pre).1.setIfInBounds x.1 (.int .u64 (f (wd a x.1) (wd b x.1) (uw f g a b pre).2))) else(uw f g a b pre).1) 252 (0,0))∧W.heap[w.heap.size+1+1+1+1+1]? = some (.cells (bif L 15 then #[.int .u64 (g (wd a x.1) (wd b x.1) (uw f g a b pre).2)] else #[.int .u64 (uw f g a b pre).2]) 25 (0,0))∧(L 0=true→u14=Value.int IntKind.i64 ↑↑x)∧(L 1=true→u15 = .func (.func one) #[] #[])∧(L 2=true→u16=Value.int IntKind.i64 ↑↑x)∧(L 3=true→u17 = .pointer (some ⟨w.heap.size,x.1,none⟩))∧(L 4=true→u18 = .int .u64 (wd a x.1))∧(L 5=true→u19=Value.int IntKind.i64 ↑↑x)∧(L 6=true→u20 = .pointer (some ⟨w.heap.size+1,x.1,none⟩))∧(L 7=true→u21 = .int .u64 (wd b x.1))∧(L 8=true→u22 = .int .u64 (uw f g a b pre).2)∧(L 9=true→u23 = .tuple #[.int .u64 (f (wd a x.1) (wd b x.1) (uw f g a b pre).2),.int .u64 (g (wd a x.1) (wd b x.1) (uw f g a b pre).2)])∧(L 10=true→u13 = .tuple #[.int .u64 (f (wd a x.1) (wd b x.1) (uw f g a b pre).2),.int .u64 (g (wd a x.1) (wd b x.1) (uw f g a b pre).2)])∧(L 11=true→u24 = .int .u64 (f (wd a x.1) (wd b x.1) (uw f g a b pre).2))∧(L 12=true→u25 = .int .u64 (g (wd a x.1) (wd b x.1) (uw f g a b pre).2))∧(L 13=true→u26 = .pointer (some ⟨w.heap.size+1+1+1+1,x.1,none⟩))) (by kernel_rfl) (by kernel_rfl) ?h0 ⟨?s0,?s1,?s2,?s3,?s4,?s5,?s6,?s7,?s8,?s9,?s10,?s11,?s12,?s13,?s14,?s15,trivial⟩ ?hd
  case h0 =>
   exact⟨_,_,_,_,_,_,_,_,_,_,_,_,_,_,rfl,(q9.drew hB),⟨Nat.le_refl _,fun _ _ hk _=>hk⟩,bA,bB,bF,bR,bO,bC,fun h=>absurd h Bool.false_ne_true,fun h=>absurd h Bool.false_ne_true,fun h=>absurd h Bool.false_ne_true,fun h=>absurd h Bool.false_ne_true,fun h=>absurd h Bool.false_ne_true,fun h=>absurd h Bool.false_ne_true,fun h=>absurd h Bool.false_ne_true,fun h=>absurd h Bool.false_ne_true,fun h=>absurd h Bool.false_ne_true,fun h=>absurd h Bool.false_ne_true,fun h=>absurd h Bool.false_ne_true,fun h=>absurd h Bool.false_ne_true,fun h=>absurd h Bool.false_ne_true,fun h=>absurd h Bool.false_ne_true⟩
  case s0 =>
   rintro L _ W K ⟨u14,u15,u16,u17,u18,u19,u20,u21,u22,u23,u13,u24,u25,u26,rfl,hb,x0,c3,c4,c5,c6,c8,c9,f0,f1,f2,f3,f4,f5,f6,f7,f8,f9,f10,f11,f12,f13⟩ hL hD hN hK
   refine sw (su rfl) ?_
   go_simp
   refine hK _ _ ⟨_,_,_,_,_,_,_,_,_,_,_,_,_,_,rfl,hb,x0,c3,c4,c5,c6,c8,c9,fun _=>rfl,f1,f2,f3,f4,f5,f6,f7,f8,f9,f10,f11,f12,f13⟩
  case s1 =>
   rintro L _ W K ⟨u14,u15,u16,u17,u18,u19,u20,u21,u22,u23,u13,u24,u25,u26,rfl,hb,x0,c3,c4,c5,c6,c8,c9,f0,f1,f2,f3,f4,f5,f6,f7,f8,f9,f10,f11,f12,f13⟩ hL hD hN hK
   refine sw (su rfl) ?_
   have e0:=rA c5 0 rfl
   have hf:=rY c5 0
   go_simp
   refine hK _ _ ⟨_,_,_,_,_,_,_,_,_,_,_,_,_,_,rfl,hb,x0,c3,c4,c5,c6,c8,c9,f0,fun _=>rfl,f2,f3,f4,f5,f6,f7,f8,f9,f10,f11,f12,f13⟩
  case s2 =>
   rintro L _ W K ⟨u14,u15,u16,u17,u18,u19,u20,u21,u22,u23,u13,u24,u25,u26,rfl,hb,x0,c3,c4,c5,c6,c8,c9,f0,f1,f2,f3,f4,f5,f6,f7,f8,f9,f10,f11,f12,f13⟩ hL hD hN hK
   refine sw (su rfl) ?_
   go_simp
   refine hK _ _ ⟨_,_,_,_,_,_,_,_,_,_,_,_,_,_,rfl,hb,x0,c3,c4,c5,c6,c8,c9,f0,f1,fun _=>rfl,f3,f4,f5,f6,f7,f8,f9,f10,f11,f12,f13⟩
  case s3 =>
   rintro L _ W K ⟨u14,u15,u16,u17,u18,u19,u20,u21,u22,u23,u13,u24,u25,u26,rfl,hb,x0,c3,c4,c5,c6,c8,c9,f0,f1,f2,f3,f4,f5,f6,f7,f8,f9,f10,f11,f12,f13⟩ hL hD hN hK
   obtain rfl:=f2 (hD 2 (by kernel_rfl))
   refine sw (su rfl) ?_
   go_simp
   refine hK _ _ ⟨_,_,_,_,_,_,_,_,_,_,_,_,_,_,rfl,hb,x0,c3,c4,c5,c6,c8,c9,f0,f1,f2,fun _=>rfl,f4,f5,f6,f7,f8,f9,f10,f11,f12,f13⟩
  case s4 =>
   rintro L _ W K ⟨u14,u15,u16,u17,u18,u19,u20,u21,u22,u23,u13,u24,u25,u26,rfl,hb,x0,c3,c4,c5,c6,c8,c9,f0,f1,f2,f3,f4,f5,f6,f7,f8,f9,f10,f11,f12,f13⟩ hL hD hN hK
   obtain rfl:=f3 (hD 3 (by kernel_rfl))
   refine sw (su rfl) ?_
   have e0:=rA c3 x.1 (Kc a x)
   have hf:=rY c3 x.1
   go_simp
   refine hK _ _ ⟨_,_,_,_,_,_,_,_,_,_,_,_,_,_,rfl,hb,x0,c3,c4,c5,c6,c8,c9,f0,f1,f2,f3,fun _=>rfl,f5,f6,f7,f8,f9,f10,f11,f12,f13⟩
  case s5 =>
   rintro L _ W K ⟨u14,u15,u16,u17,u18,u19,u20,u21,u22,u23,u13,u24,u25,u26,rfl,hb,x0,c3,c4,c5,c6,c8,c9,f0,f1,f2,f3,f4,f5,f6,f7,f8,f9,f10,f11,f12,f13⟩ hL hD hN hK
   refine sw (su rfl) ?_
   go_simp
   refine hK _ _ ⟨_,_,_,_,_,_,_,_,_,_,_,_,_,_,rfl,hb,x0,c3,c4,c5,c6,c8,c9,f0,f1,f2,f3,f4,fun _=>rfl,f6,f7,f8,f9,f10,f11,f12,f13⟩
  case s6 =>
   rintro L _ W K ⟨u14,u15,u16,u17,u18,u19,u20,u21,u22,u23,u13,u24,u25,u26,rfl,hb,x0,c3,c4,c5,c6,c8,c9,f0,f1,f2,f3,f4,f5,f6,f7,f8,f9,f10,f11,f12,f13⟩ hL hD hN hK
   obtain rfl:=f5 (hD 5 (by kernel_rfl))
   refine sw (su rfl) ?_
   go_simp
   refine hK _ _ ⟨_,_,_,_,_,_,_,_,_,_,_,_,_,_,rfl,hb,x0,c3,c4,c5,c6,c8,c9,f0,f1,f2,f3,f4,f5,fun _=>rfl,f7,f8,f9,f10,f11,f12,f13⟩
  case s7 =>
   rintro L _ W K ⟨u14,u15,u16,u17,u18,u19,u20,u21,u22,u23,u13,u24,u25,u26,rfl,hb,x0,c3,c4,c5,c6,c8,c9,f0,f1,f2,f3,f4,f5,f6,f7,f8,f9,f10,f11,f12,f13⟩ hL hD hN hK
   obtain rfl:=f6 (hD 6 (by kernel_rfl))
   refine sw (su rfl) ?_
   have e0:=rA c4 x.1 (Kc b x)
   have hf:=rY c4 x.1
   go_simp
   refine hK _ _ ⟨_,_,_,_,_,_,_,_,_,_,_,_,_,_,rfl,hb,x0,c3,c4,c5,c6,c8,c9,f0,f1,f2,f3,f4,f5,f6,fun _=>rfl,f8,f9,f10,f11,f12,f13⟩
  case s8 =>
   rintro L _ W K ⟨u14,u15,u16,u17,u18,u19,u20,u21,u22,u23,u13,u24,u25,u26,rfl,hb,x0,c3,c4,c5,c6,c8,c9,f0,f1,f2,f3,f4,f5,f6,f7,f8,f9,f10,f11,f12,f13⟩ hL hD hN hK
   refine sw (su rfl) ?_
   have hz:L 15=false:=hN 15 _ rfl (by kernel_rfl)
   have d9:=c9
   rw[hz] at d9
   have e0:=rA d9 0 rfl
   have hf:=rY d9 0
   go_simp
   refine hK _ _ ⟨_,_,_,_,_,_,_,_,_,_,_,_,_,_,rfl,hb,x0,c3,c4,c5,c6,c8,c9,f0,f1,f2,f3,f4,f5,f6,f7,fun _=>rfl,f9,f10,f11,f12,f13⟩
  case s9 =>
   rintro L _ W K ⟨u14,u15,u16,u17,u18,u19,u20,u21,u22,u23,u13,u24,u25,u26,rfl,hb,x0,c3,c4,c5,c6,c8,c9,f0,f1,f2,f3,f4,f5,f6,f7,f8,f9,f10,f11,f12,f13⟩ hL hD hN hK
   obtain rfl:=f1 (hD 1 (by kernel_rfl))
   obtain rfl:=f4 (hD 4 (by kernel_rfl))
   obtain rfl:=f7 (hD 7 (by kernel_rfl))
   obtain rfl:=f8 (hD 8 (by kernel_rfl))
   refine sw (su rfl) ?_
   have hr:=fun w=>hC.run (wd a x.1) (wd b x.1) (uw f g a b pre).2 w (Bg _ _) (Bg _ _) (ac9 hC a b pre)
   go_simp
   refine hK _ _ ⟨_,_,_,_,_,_,_,_,_,_,_,_,_,_,rfl,hb,x0,c3,c4,c5,c6,c8,c9,f0,f1,f2,f3,f4,f5,f6,f7,f8,fun _=>rfl,f10,f11,f12,f13⟩
  case s10 =>
   rintro L _ W K ⟨u14,u15,u16,u17,u18,u19,u20,u21,u22,u23,u13,u24,u25,u26,rfl,hb,x0,c3,c4,c5,c6,c8,c9,f0,f1,f2,f3,f4,f5,f6,f7,f8,f9,f10,f11,f12,f13⟩ hL hD hN hK
   obtain rfl:=f9 (hD 9 (by kernel_rfl))
   refine sw (su rfl) ?_
   go_simp
   refine hK _ _ ⟨_,_,_,_,_,_,_,_,_,_,_,_,_,_,rfl,hb,x0,c3,c4,c5,c6,c8,c9,f0,f1,f2,f3,f4,f5,f6,f7,f8,f9,fun _=>rfl,f11,f12,f13⟩
  case s11 =>
   rintro L _ W K ⟨u14,u15,u16,u17,u18,u19,u20,u21,u22,u23,u13,u24,u25,u26,rfl,hb,x0,c3,c4,c5,c6,c8,c9,f0,f1,f2,f3,f4,f5,f6,f7,f8,f9,f10,f11,f12,f13⟩ hL hD hN hK
   obtain rfl:=f10 (hD 10 (by kernel_rfl))
   refine sw (su rfl) ?_
   go_simp
   refine hK _ _ ⟨_,_,_,_,_,_,_,_,_,_,_,_,_,_,rfl,hb,x0,c3,c4,c5,c6,c8,c9,f0,f1,f2,f3,f4,f5,f6,f7,f8,f9,f10,fun _=>rfl,f12,f13⟩
  case s12 =>
   rintro L _ W K ⟨u14,u15,u16,u17,u18,u19,u20,u21,u22,u23,u13,u24,u25,u26,rfl,hb,x0,c3,c4,c5,c6,c8,c9,f0,f1,f2,f3,f4,f5,f6,f7,f8,f9,f10,f11,f12,f13⟩ hL hD hN hK
   obtain rfl:=f10 (hD 10 (by kernel_rfl))
   refine sw (su rfl) ?_
   go_simp
   refine hK _ _ ⟨_,_,_,_,_,_,_,_,_,_,_,_,_,_,rfl,hb,x0,c3,c4,c5,c6,c8,c9,f0,f1,f2,f3,f4,f5,f6,f7,f8,f9,f10,f11,fun _=>rfl,f13⟩
  case s13 =>
   rintro L _ W K ⟨u14,u15,u16,u17,u18,u19,u20,u21,u22,u23,u13,u24,u25,u26,rfl,hb,x0,c3,c4,c5,c6,c8,c9,f0,f1,f2,f3,f4,f5,f6,f7,f8,f9,f10,f11,f12,f13⟩ hL hD hN hK
   obtain rfl:=f0 (hD 0 (by kernel_rfl))
   refine sw (su rfl) ?_
   go_simp
   refine hK _ _ ⟨_,_,_,_,_,_,_,_,_,_,_,_,_,_,rfl,hb,x0,c3,c4,c5,c6,c8,c9,f0,f1,f2,f3,f4,f5,f6,f7,f8,f9,f10,f11,f12,fun _=>rfl⟩
  case s14 =>
   rintro L _ W K ⟨u14,u15,u16,u17,u18,u19,u20,u21,u22,u23,u13,u24,u25,u26,rfl,hb,x0,c3,c4,c5,c6,c8,c9,f0,f1,f2,f3,f4,f5,f6,f7,f8,f9,f10,f11,f12,f13⟩ hL hD hN hK
   obtain rfl:=f13 (hD 13 (by kernel_rfl))
   obtain rfl:=f11 (hD 11 (by kernel_rfl))
   refine sw (su rfl) ?_
   have hz:L 14=false:=hL
   rw[hz] at c8
   have e0:=rA c8 x.1 (hv0)
   have h0:=rY c8 x.1
   go_simp
   refine hK _ _ ⟨_,_,_,_,_,_,_,_,_,_,_,_,_,_,rfl,(q9.set hb (by omega) _),(x0.trans (KeepsOthers.setCell _ _ _)),(rH c3 _ _ (show w.heap.size≠w.heap.size+1+1+1+1 by omega)),(rH c4 _ _ (show w.heap.size+1≠w.heap.size+1+1+1+1 by omega)),(rH c5 _ _ (show w.heap.size+1+1≠w.heap.size+1+1+1+1 by omega)),(rH c6 _ _ (show w.heap.size+1+1+1≠w.heap.size+1+1+1+1 by omega)),(heap_set c8 _),(rH c9 _ _ (show w.heap.size+1+1+1+1+1≠w.heap.size+1+1+1+1 by omega)),f0,f1,f2,f3,f4,f5,f6,f7,f8,f9,f10,f11,f12,f13⟩
  case s15 =>
   rintro L _ W K ⟨u14,u15,u16,u17,u18,u19,u20,u21,u22,u23,u13,u24,u25,u26,rfl,hb,x0,c3,c4,c5,c6,c8,c9,f0,f1,f2,f3,f4,f5,f6,f7,f8,f9,f10,f11,f12,f13⟩ hL hD hN hK
   obtain rfl:=f12 (hD 12 (by kernel_rfl))
   refine sw (su rfl) ?_
   have hz:L 15=false:=hL
   rw[hz] at c9
   have e0:=rA c9 0 (rfl)
   have h0:=rY c9 0
   go_simp
   refine hK _ _ ⟨_,_,_,_,_,_,_,_,_,_,_,_,_,_,rfl,(q9.set hb (by omega) _),(x0.trans (KeepsOthers.setCell _ _ _)),(rH c3 _ _ (show w.heap.size≠w.heap.size+1+1+1+1+1 by omega)),(rH c4 _ _ (show w.heap.size+1≠w.heap.size+1+1+1+1+1 by omega)),(rH c5 _ _ (show w.heap.size+1+1≠w.heap.size+1+1+1+1+1 by omega)),(rH c6 _ _ (show w.heap.size+1+1+1≠w.heap.size+1+1+1+1+1 by omega)),(rH c8 _ _ (show w.heap.size+1+1+1+1≠w.heap.size+1+1+1+1+1 by omega)),(heap_set c9 _),f0,f1,f2,f3,f4,f5,f6,f7,f8,f9,f10,f11,f12,f13⟩
  case hd =>
   rintro L _ W ⟨u14,u15,u16,u17,u18,u19,u20,u21,u22,u23,u13,u24,u25,u26,rfl,hb,x0,c3,c4,c5,c6,c8,c9,f0,f1,f2,f3,f4,f5,f6,f7,f8,f9,f10,f11,f12,f13⟩ hall
   rw[hall 14 (by decide)] at c8
   rw[hall 15 (by decide)] at c9
   obtain rfl:=f0 (hall 0 (by decide))
   obtain rfl:=f1 (hall 1 (by decide))
   obtain rfl:=f2 (hall 2 (by decide))
   obtain rfl:=f3 (hall 3 (by decide))
   obtain rfl:=f4 (hall 4 (by decide))
   obtain rfl:=f5 (hall 5 (by decide))
   obtain rfl:=f6 (hall 6 (by decide))
   obtain rfl:=f7 (hall 7 (by decide))
   obtain rfl:=f8 (hall 8 (by decide))
   obtain rfl:=f9 (hall 9 (by decide))
   obtain rfl:=f10 (hall 10 (by decide))
   obtain rfl:=f11 (hall 11 (by decide))
   obtain rfl:=f12 (hall 12 (by decide))
   obtain rfl:=f13 (hall 13 (by decide))
   gi_wp2
   exact⟨x0.from _,trivial,⟨⟨⟨⟨c3,c4⟩,c5,c6⟩,by rw[UO];exact c8,by rw[UO];exact c9⟩,hb⟩⟩
 case done =>
  rintro D ys V hD rfl ⟨⟨⟨⟨bA,bB⟩,bF,bR⟩,bO,bC⟩,hB⟩ hK
  rw[hst] at bO bC
  have hD':w.heap.size+1+1+1+1+1+1≤D:=by first|exact hD|simpa using hD
  gi_wp2
  refine C8 (fun(L:Nat→Bool) (A:Act) (W:World)=>∃ u27 u28 u29 u7:Value,A=⟨#[vW a,vW b,Value.func (Fn.func one) #[] #[],Value.pointer (some { block:=w.heap.size,off:=0 }),Value.pointer (some { block:=w.heap.size+1,off:=0 }),Value.pointer (some { block:=w.heap.size+1+1,off:=0 }),Value.pointer (some { block:=w.heap.size+1+1+1,off:=0 }),u7,Value.pointer (some { block:=w.heap.size+1+1+1+1,off:=0 }),Value.pointer (some { block:=w.heap.size+1+1+1+1+1,off:=0 }),undef,Value.func (Fn.func 368) #[] #[],undef,undef,undef,undef,undef,undef,undef,undef,undef,undef,undef,undef,undef,undef,undef,u27,u28,u29],[{ target:=Target.collected D,args:=#[] }]⟩∧q9 w W∧W.heap[D]? = some (.deferred (some []))∧W.heap[w.heap.size+1+1+1]? = some (.cells (bif L 3 then #[.int .u64 r0,.int .u64 r1,.int .u64 r2,.int .u64 r3] else #[.int .u64 0,.int .u64 0,.int .u64 0,.int .u64 0]) 252 (0,0))∧W.heap[w.heap.size+1+1+1+1]? = some (.cells #[.int .u64 r0,.int .u64 r1,.int .u64 r2,.int .u64 r3] 252 (0,0))∧W.heap[w.heap.size+1+1+1+1+1]? = some (.cells #[.int .u64 rc] 25 (0,0))∧(L 0=true→u27 = .agg #[.int .u64 r0,.int .u64 r1,.int .u64 r2,.int .u64 r3])∧(L 1=true→u28 = .int .u64 rc)∧(L 2=true→u29 = .bool (rc != 0))∧(L 4=true→u7 = .bool (rc != 0))) (by kernel_rfl) (by kernel_rfl) ?h0 ⟨?s0,?s1,?s2,?s3,?s4,trivial⟩ ?hd
  case h0 =>
   exact⟨_,_,_,_,rfl,(q9.drew hB),hK,bR,bO,bC,fun h=>absurd h Bool.false_ne_true,fun h=>absurd h Bool.false_ne_true,fun h=>absurd h Bool.false_ne_true,fun h=>absurd h Bool.false_ne_true⟩
  case s0 =>
   rintro L _ W K ⟨u27,u28,u29,u7,rfl,hb,x0,c6,c8,c9,f0,f1,f2,f4⟩ hL hD hN hK
   refine sw (su rfl) ?_
   have e0:=rA c8 0 rfl
   have e1:=rA c8 1 rfl
   have e2:=rA c8 2 rfl
   have e3:=rA c8 3 rfl
   have hf:=rY c8 0
   go_simp
   refine hK _ _ ⟨_,_,_,_,rfl,hb,x0,c6,c8,c9,fun _=>rfl,f1,f2,f4⟩
  case s1 =>
   rintro L _ W K ⟨u27,u28,u29,u7,rfl,hb,x0,c6,c8,c9,f0,f1,f2,f4⟩ hL hD hN hK
   refine sw (su rfl) ?_
   have e0:=rA c9 0 rfl
   have hf:=rY c9 0
   go_simp
   refine hK _ _ ⟨_,_,_,_,rfl,hb,x0,c6,c8,c9,f0,fun _=>rfl,f2,f4⟩
  case s2 =>
   rintro L _ W K ⟨u27,u28,u29,u7,rfl,hb,x0,c6,c8,c9,f0,f1,f2,f4⟩ hL hD hN hK
   obtain rfl:=f1 (hD 1 (by kernel_rfl))
   refine sw (su rfl) ?_
   go_simp
   refine hK _ _ ⟨_,_,_,_,rfl,hb,x0,c6,c8,c9,f0,f1,fun _=>rfl,f4⟩
  case s3 =>
   rintro L _ W K ⟨u27,u28,u29,u7,rfl,hb,x0,c6,c8,c9,f0,f1,f2,f4⟩ hL hD hN hK
   obtain rfl:=f0 (hD 0 (by kernel_rfl))
   refine sw (su rfl) ?_
   have hz:L 3=false:=hL
   rw[hz] at c6
   have e0:=rA c6 0 (rfl)
   have h0:=rY c6 0
   have e1:=rA c6 1 (rfl)
   have h1:=rY c6 1
   have e2:=rA c6 2 (rfl)
   have h2:=rY c6 2
   have e3:=rA c6 3 (rfl)
   have h3:=rY c6 3
   go_simp
   refine hK _ _ ⟨_,_,_,_,rfl,(q9.set (q9.set (q9.set (q9.set hb (by omega) _) (by omega) _) (by omega) _) (by omega) _),(rH (rH (rH (rH x0 _ _ (by show D≠w.heap.size+1+1+1;omega)) _ _ (by show D≠w.heap.size+1+1+1;omega)) _ _ (by show D≠w.heap.size+1+1+1;omega)) _ _ (by show D≠w.heap.size+1+1+1;omega)),(heap_set (heap_set (heap_set (heap_set c6 _) _) _) _),(rH (rH (rH (rH c8 _ _ (show w.heap.size+1+1+1+1≠w.heap.size+1+1+1 by omega)) _ _ (show w.heap.size+1+1+1+1≠w.heap.size+1+1+1 by omega)) _ _ (show w.heap.size+1+1+1+1≠w.heap.size+1+1+1 by omega)) _ _ (show w.heap.size+1+1+1+1≠w.heap.size+1+1+1 by omega)),(rH (rH (rH (rH c9 _ _ (show w.heap.size+1+1+1+1+1≠w.heap.size+1+1+1 by omega)) _ _ (show w.heap.size+1+1+1+1+1≠w.heap.size+1+1+1 by omega)) _ _ (show w.heap.size+1+1+1+1+1≠w.heap.size+1+1+1 by omega)) _ _ (show w.heap.size+1+1+1+1+1≠w.heap.size+1+1+1 by omega)),f0,f1,f2,f4⟩
  case s4 =>
   rintro L _ W K ⟨u27,u28,u29,u7,rfl,hb,x0,c6,c8,c9,f0,f1,f2,f4⟩ hL hD hN hK
   obtain rfl:=f2 (hD 2 (by kernel_rfl))
   refine sw (su rfl) ?_
   go_simp
   refine hK _ _ ⟨_,_,_,_,rfl,hb,x0,c6,c8,c9,f0,f1,f2,fun _=>rfl⟩
  case hd =>
   rintro L _ W ⟨u27,u28,u29,u7,rfl,hb,x0,c6,c8,c9,f0,f1,f2,f4⟩ hall
   rw[hall 3 (by decide)] at c6
   obtain rfl:=f0 (hall 0 (by decide))
   obtain rfl:=f1 (hall 1 (by decide))
   obtain rfl:=f2 (hall 2 (by decide))
   obtain rfl:=f4 (hall 4 (by decide))
   gi_wp2
   refine⟨by simp,.inl ⟨_,_,rfl,run_takeDeferred x0,?_⟩⟩
   have cR:(W.putObj D (.deferred none)).heap[w.heap.size+1+1+1]? = _:=(World.putObj_heap_other (by omega)).trans c6
   have q0:=rA cR 0 rfl
   have q1:=rA cR 1 rfl
   have q2:=rA cR 2 rfl
   have q3:=rA cR 3 rfl
   exact⟨_,by simp[results,Tryz.results307,go_sem,q0,q1,q2,q3],rfl,Below.trans hb (belowK_b (w:=w) (Nat.le_refl _) W D _ _ (by omega) x0 rfl rfl)⟩
 case stop =>
  rintro D c pre W _ _ h _
  exact h.elim
open Go.RowKit Go.Shelf
theorem ada (a b i:Nat):(0:Int)≤(uZ a b i:Int)∧(uZ a b i:Int)≤1:=by have:=acU a b i;omega
theorem adb (a b i:Nat):(0:Int)≤(bin a b i:Int)∧(bin a b i:Int)≤1:=by have:=acW a b i;omega
theorem adc:MC 124 yQ vM where
 run x y c w hx hy hc:=UJ x y c hx hy hc w
 carry x y c hx hy hc:=by
  obtain⟨x,rfl,hx'⟩:=hx.nat
  obtain⟨y,rfl,hy'⟩:=hy.nat
  obtain⟨c,rfl⟩:=Int.eq_ofNat_of_zero_le hc.1
  unfold vM ry
  unfold ry at hx' hy'
  omega
theorem ade:MC 308 ym vC where
 run x y c w hx hy hc:=UK x y c hx hy hc w
 carry x y c hx hy hc:=by unfold vC;split<;>omega
theorem adf (a b:Nat):uw yQ vM a b (upto 4)=(#[.int .u64 (wd (a+b) 0),.int .u64 (wd (a+b) 1),.int .u64 (wd (a+b) 2),.int .u64 (wd (a+b) 3)],(uZ a b 4:Int)):=by
 have e0:=GG a b 0;have e1:=GG a b 1;have e2:=GG a b 2;have e3:=GG a b 3
 have c0:=GH a b 0;have c1:=GH a b 1;have c2:=GH a b 2;have c3:=GH a b 3
 rw[Uz] at e0 c0
 show(#[Value.int .u64 (yQ (wd a 0) (wd b 0) 0),.int .u64 (yQ (wd a 1) (wd b 1) (vM (wd a 0) (wd b 0) 0)),.int .u64 (yQ (wd a 2) (wd b 2) (vM (wd a 1) (wd b 1) (vM (wd a 0) (wd b 0) 0))),.int .u64 (yQ (wd a 3) (wd b 3) (vM (wd a 2) (wd b 2) (vM (wd a 1) (wd b 1) (vM (wd a 0) (wd b 0) 0))))],vM (wd a 3) (wd b 3) (vM (wd a 2) (wd b 2) (vM (wd a 1) (wd b 1) (vM (wd a 0) (wd b 0) 0))))=_
 rw[show((0:Nat):Int)=0 from rfl] at e0 c0
 rw[c0,c1,c2,c3,e0,e1,e2,e3]
theorem adg (a b:Nat) (hb:b<sI):uw ym vC a b (upto 4)=(#[.int .u64 (wd (a+sI-b) 0),.int .u64 (wd (a+sI-b) 1),.int .u64 (wd (a+sI-b) 2),.int .u64 (wd (a+sI-b) 3)],(bin a b 4:Int)):=by
 have hb':b≤a+ry^4:=by rw[Ca];omega
 have e0:=GJ a b 0 4 (by omega) hb';have e1:=GJ a b 1 4 (by omega) hb';have e2:=GJ a b 2 4 (by omega) hb';have e3:=GJ a b 3 4 (by omega) hb'
 have c0:=GI a b 0;have c1:=GI a b 1;have c2:=GI a b 2;have c3:=GI a b 3
 rw[UB] at e0 c0
 rw[Ca] at e0 e1 e2 e3
 show(#[Value.int .u64 (ym (wd a 0) (wd b 0) 0),.int .u64 (ym (wd a 1) (wd b 1) (vC (wd a 0) (wd b 0) 0)),.int .u64 (ym (wd a 2) (wd b 2) (vC (wd a 1) (wd b 1) (vC (wd a 0) (wd b 0) 0))),.int .u64 (ym (wd a 3) (wd b 3) (vC (wd a 2) (wd b 2) (vC (wd a 1) (wd b 1) (vC (wd a 0) (wd b 0) 0))))],vC (wd a 3) (wd b 3) (vC (wd a 2) (wd b 2) (vC (wd a 1) (wd b 1) (vC (wd a 0) (wd b 0) 0))))=_
 rw[show((0:Nat):Int)=0 from rfl] at e0 c0
 rw[c0,c1,c2,c3,e0,e1,e2,e3]
theorem adh (a b:Nat) (w:World) (ha:a<sI) (hb:b<sI) :
  Calls Tryz.prog 235 #[vW a,vW b] w fun e w'=>e = .returned (.tuple #[vW (a+b),.bool (decide (sI≤a+b))])∧q9 w w':=by
 have h2:(((uZ a b 4:Nat):Int) != 0)=decide (sI≤a+b):=by
  rw[UA (i:=4) (by rw[Ca];exact ha) (by rw[Ca];exact hb),Ca]
  split<;>simp_all
 have hc:=fun w=>(callsIn_wide (n:=3)).1 (UQ adc Fence.wide 3 trivial trivial trivial trivial rfl (by omega) a b w _ _ _ _ _ (adf a b))
 rw[h2] at hc
 have HC:=Lib.hid hc
 clear hc h2
 go_enter Tryz.func235,Tryz.ntmps235
 go_wp2_with (go_at_call 307;refine(HC.out _).mono ?_;rintro e w1 ⟨rfl,hb1⟩;have cR:=sM (zz _ _ _ _) hb1;have q0:=rA cR 0 rfl;have q1:=rA cR 1 rfl;have q2:=rA cR 2 rfl;have q3:=rA cR 3 rfl;have f0:=rY cR 0;have f1:=rY cR 1;have f2:=rY cR 2;have f3:=rY cR 3)
 refine bodyPost_ret (v:=.tuple #[vW (a+b),.bool (decide (sI≤a+b))]) (by have cZ:=T9 cR (.int .u64 (wd (a+b) 0)) (.int .u64 (wd (a+b) 1)) (.int .u64 (wd (a+b) 2)) (.int .u64 (wd (a+b) 3));simp[results,Tryz.results235,go_sem,rA cZ 0 rfl,rA cZ 1 rfl,rA cZ 2 rfl,rA cZ 3 rfl]) rfl ⟨rfl,?_⟩
 exact(((((((q9.refl w).alloc _).alloc _).alloc _).trans hb1).set (by omega) _).set (by omega) _ |>.set (by omega) _ |>.set (by omega) _)
theorem adi (a b:Nat) (w:World) (ha:a<sI) (hb:b<sI) :
  Calls Tryz.prog 236 #[vW a,vW b] w fun e w'=>e = .returned (.tuple #[vW (a+sI-b),.bool (decide (a<b))])∧q9 w w':=by
 have h2:(((bin a b 4:Nat):Int) != 0)=decide (a<b):=by
  rw[UC (i:=4) (by rw[Ca];exact ha) (by rw[Ca];exact hb)]
  split<;>simp_all
 have hc:=fun w=>(callsIn_wide (n:=3)).1 (UQ ade Fence.wide 3 trivial trivial trivial trivial rfl (by omega) a b w _ _ _ _ _ (adg a b hb))
 rw[h2] at hc
 have HC:=Lib.hid hc
 clear hc h2
 go_enter Tryz.func236,Tryz.ntmps236
 go_wp2_with (go_at_call 307;refine(HC.out _).mono ?_;rintro e w1 ⟨rfl,hb1⟩;have cR:=sM (zz _ _ _ _) hb1;have q0:=rA cR 0 rfl;have q1:=rA cR 1 rfl;have q2:=rA cR 2 rfl;have q3:=rA cR 3 rfl;have f0:=rY cR 0;have f1:=rY cR 1;have f2:=rY cR 2;have f3:=rY cR 3)
 refine bodyPost_ret (v:=.tuple #[vW (a+sI-b),.bool (decide (a<b))]) (by have cZ:=T9 cR (.int .u64 (wd (a+sI-b) 0)) (.int .u64 (wd (a+sI-b) 1)) (.int .u64 (wd (a+sI-b) 2)) (.int .u64 (wd (a+sI-b) 3));simp[results,Tryz.results236,go_sem,rA cZ 0 rfl,rA cZ 1 rfl,rA cZ 2 rfl,rA cZ 3 rfl]) rfl ⟨rfl,?_⟩
 exact(((((((q9.refl w).alloc _).alloc _).alloc _).trans hb1).set (by omega) _).set (by omega) _ |>.set (by omega) _ |>.set (by omega) _)
open Go.RowKit
theorem Ew {P:Program} {g:FuncId} {fn:Func} (hf:P.funcs[g]? = some fn) (hn:(fn.name == "runtime.NumGoroutine")=false) (hb:fn.body.isNone=false) (args:Array Value) (w:World):(callFunc g args).run P w = .ok (.enter g args) w:=by
 unfold callFunc
 have hp:(program).run P w = .ok P w:=rfl
 simp only[Sem.run_bind,hp,Result.andThen,hf,hn,hb,Bool.false_eq_true,if_false]
 rfl
def tq (k:Nat):MapEntry := { key:=.int .u8 (k:Int),val:=.func (.func (369+k)) #[] #[],born:=k }
theorem Ke (w:World) (es:Array MapEntry) (c:Nat) (k:Int) (v:Value) (h:Instr.findNow (.int .u8) (.int .u8 k) es.toList 0=some none) :
  (Instr.mapUpdate 416 (.map (some w.heap.size)) (.int .u8 k) v).run Tryz.prog (w.alloc (.map es c)) = .ok () (w.alloc (.map (es.push { key:=.int .u8 k,val:=v,born:=c }) (c+1))):=by
 have hb:(w.alloc (.map es c)).heap[w.heap.size]? = some (.map es c):=by show(w.heap.push _)[w.heap.size]? = _;simp
 have hk:Tryz.prog.underlying 64=some (.int .u8):=by kernel_rfl
 have hm:Tryz.prog.underlying 416=some (.map 64 414):=by kernel_rfl
 have hc:(Instr.checkKey false 10000 64 (.int .u8 k)).run Tryz.prog (w.alloc (.map es c)) = .ok () (w.alloc (.map es c)):=MapKept.run_checkKey (k:=.int .u8 k) hk (by simp[MapKept.IsKey]) false 9999
 have hs:(w.alloc (.map es c)).heap.setIfInBounds w.heap.size (.map (es.push { key:=.int .u8 k,val:=v,born:=c }) (c+1))=w.heap.push (.map (es.push { key:=.int .u8 k,val:=v,born:=c }) (c+1)):=by
  show(w.heap.push _).setIfInBounds w.heap.size _=_
  apply Array.ext'
  simp
 simp[Instr.mapUpdate,run_underlying hm,MapKept.run_getObj_map hb,hc,MapKept.run_findKey hk h,MapKept.run_setObj_map _ hb,Result.andThen,hs]
 rfl
theorem UR (w:World):Calls Tryz.prog 357 #[] w fun e w'=>e = .returned (.map (some w.heap.size))∧w'=w.alloc (.map #[tq 0,tq 1,tq 2,tq 3,tq 4] 5):=by
 have e0:=Go.run_makeMap_plain (P:=Tryz.prog) (w:=w) 416
 have e1:=Ke w #[] 0 0 (.func (.func 369) #[] #[]) rfl
 have e2:=Ke w #[tq 0] 1 1 (.func (.func 370) #[] #[]) rfl
 have e3:=Ke w #[tq 0,tq 1] 2 2 (.func (.func 371) #[] #[]) rfl
 have e4:=Ke w #[tq 0,tq 1,tq 2] 3 3 (.func (.func 372) #[] #[]) rfl
 have e5:=Ke w #[tq 0,tq 1,tq 2,tq 3] 4 4 (.func (.func 373) #[] #[]) rfl
 have f1:(#[].push { key:=.int .u8 0,val:=.func (.func 369) #[] #[],born:=0 } : Array MapEntry) = #[tq 0]:=rfl
 have f2:(#[tq 0].push { key:=.int .u8 1,val:=.func (.func 370) #[] #[],born:=1 } : Array MapEntry) = #[tq 0,tq 1]:=rfl
 have f3:(#[tq 0,tq 1].push { key:=.int .u8 2,val:=.func (.func 371) #[] #[],born:=2 } : Array MapEntry) = #[tq 0,tq 1,tq 2]:=rfl
 have f4:(#[tq 0,tq 1,tq 2].push { key:=.int .u8 3,val:=.func (.func 372) #[] #[],born:=3 } : Array MapEntry) = #[tq 0,tq 1,tq 2,tq 3]:=rfl
 have f5:(#[tq 0,tq 1,tq 2,tq 3].push { key:=.int .u8 4,val:=.func (.func 373) #[] #[],born:=4 } : Array MapEntry) = #[tq 0,tq 1,tq 2,tq 3,tq 4]:=rfl
 rw[f1] at e1;rw[f2] at e2;rw[f3] at e3;rw[f4] at e4;rw[f5] at e5
 clear f1 f2 f3 f4 f5
 go_enter Tryz.func357,Tryz.ntmps357
 go_wp2
 go_ret
 exact⟨rfl,rfl⟩
theorem adj (w:World) (es:Array MapEntry) (c:Nat) (m:Int) (i:Nat) (v:Value) (h:Instr.findNow (.int .u8) (.int .u8 m) es.toList 0=some (some (i,v))) :
  (Instr.lookup 416 (.map (some w.heap.size)) (.int .u8 m) true).run Tryz.prog (w.alloc (.map es c)) = .ok (.tuple #[v,.bool true]) (w.alloc (.map es c)):=by
 have hb:(w.alloc (.map es c)).heap[w.heap.size]? = some (.map es c):=by show(w.heap.push _)[w.heap.size]? = _;simp
 have hk:Tryz.prog.underlying 64=some (.int .u8):=by kernel_rfl
 have hm:Tryz.prog.underlying 416=some (.map 64 414):=by kernel_rfl
 have hc:(Instr.checkKey es.isEmpty 10000 64 (.int .u8 m)).run Tryz.prog (w.alloc (.map es c)) = .ok () (w.alloc (.map es c)):=MapKept.run_checkKey (k:=.int .u8 m) hk (by simp[MapKept.IsKey]) _ 9999
 simp[Instr.lookup,run_underlying hm,MapKept.run_getObj_map hb,hc,MapKept.run_findKey hk h,Result.andThen]
theorem adk (w:World) (es:Array MapEntry) (c:Nat) (m:Int) (h:Instr.findNow (.int .u8) (.int .u8 m) es.toList 0=some none) :
  (Instr.lookup 416 (.map (some w.heap.size)) (.int .u8 m) true).run Tryz.prog (w.alloc (.map es c)) = .ok (.tuple #[.nilFunc,.bool false]) (w.alloc (.map es c)):=by
 have hb:(w.alloc (.map es c)).heap[w.heap.size]? = some (.map es c):=by show(w.heap.push _)[w.heap.size]? = _;simp
 have hk:Tryz.prog.underlying 64=some (.int .u8):=by kernel_rfl
 have hm:Tryz.prog.underlying 416=some (.map 64 414):=by kernel_rfl
 have hc:(Instr.checkKey es.isEmpty 10000 64 (.int .u8 m)).run Tryz.prog (w.alloc (.map es c)) = .ok () (w.alloc (.map es c)):=MapKept.run_checkKey (k:=.int .u8 m) hk (by simp[MapKept.IsKey]) _ 9999
 have hi:(Tryz.prog.info? 414).bind (·.zero)=some .nilFunc:=by kernel_rfl
 have hz:(zeroValue 414).run Tryz.prog (w.alloc (.map es c)) = .ok .nilFunc (w.alloc (.map es c)):=by
  cases hx:Tryz.prog.info? 414 with
  | none=>rw[hx] at hi;cases hi
  | some x=>rw[hx] at hi;simp at hi;simp[zeroValue,typeInfo,hx,hi]
 simp[Instr.lookup,run_underlying hm,MapKept.run_getObj_map hb,hc,MapKept.run_findKey hk h,hz,Result.andThen]
abbrev Kg:Array MapEntry:=#[tq 0,tq 1,tq 2,tq 3,tq 4]
theorem adl {m:Int} (h:m<0∨4<m):Instr.findNow (.int .u8) (.int .u8 m) Kg.toList 0=some none:=by
 have a (j:Int) (hj:0≤j∧j≤4):(m==j)=false:=by rw[beq_eq_false_iff_ne];omega
 simp only[tq,Instr.findNow,Instr.sameNow,if_true]
 rw[show((0:Nat):Int)=0 from rfl,show((1:Nat):Int)=1 from rfl,show((2:Nat):Int)=2 from rfl,show((3:Nat):Int)=3 from rfl,show((4:Nat):Int)=4 from rfl,a 0 (by omega),a 1 (by omega),a 2 (by omega),a 3 (by omega),a 4 (by omega)]
theorem adm (m:Int) (neg odd:Bool) (r:Int) (w:World) (hm:m<0∨4<m):Calls Tryz.prog 323 #[.int .u8 m,.bool neg,.bool odd,.int .u8 r] w fun e w'=>e = .returned (.bool false)∧q9 w w':=by
 have HR:=Lib.hid UR
 have hl:=adk w Kg 5 m (adl hm)
 clear hm
 go_enter Tryz.func323,Tryz.ntmps323
 go_wp2_with (go_at_call 357;refine(HR.out _).mono ?_;rintro e w' ⟨rfl,rfl⟩)
 exact bodyPost_ret (v:=.bool false) (by simp[results,Tryz.results323,go_sem]) rfl ⟨rfl,(q9.refl w).alloc _⟩
def xx (k:Nat) (neg odd:Bool) (r:Int):Bool:=match k with
 | 0=>(r==3)||((r==2)&&odd)
 | 1=>decide (r≥2)
 | 2 => !neg
 | 3=>neg
 | _=>false
theorem adn (neg odd:Bool) (r:Int) (w:World):Calls Tryz.prog 373 #[.bool neg,.bool odd,.int .u8 r] w fun e w'=>e = .returned (.bool (xx 4 neg odd r))∧w'=w:=by
 go_enter Tryz.func373,Tryz.ntmps373
 go_wp2
 go_ret
 exact⟨rfl,rfl⟩
theorem ado (neg odd:Bool) (r:Int) (w:World):Calls Tryz.prog 372 #[.bool neg,.bool odd,.int .u8 r] w fun e w'=>e = .returned (.bool (xx 3 neg odd r))∧w'=w:=by
 go_enter Tryz.func372,Tryz.ntmps372
 go_wp2
 go_ret
 exact⟨rfl,rfl⟩
theorem adp (neg odd:Bool) (r:Int) (w:World):Calls Tryz.prog 371 #[.bool neg,.bool odd,.int .u8 r] w fun e w'=>e = .returned (.bool (xx 2 neg odd r))∧w'=w:=by
 go_enter Tryz.func371,Tryz.ntmps371
 go_wp2
 go_ret
 exact⟨rfl,rfl⟩
theorem adq (neg odd:Bool) (r:Int) (w:World):Calls Tryz.prog 370 #[.bool neg,.bool odd,.int .u8 r] w fun e w'=>e = .returned (.bool (xx 1 neg odd r))∧w'=w:=by
 go_enter Tryz.func370,Tryz.ntmps370
 go_wp2
 go_ret
 exact⟨rfl,rfl⟩
theorem adr (neg odd:Bool) (r:Int) (w:World):Calls Tryz.prog 369 #[.bool neg,.bool odd,.int .u8 r] w fun e w'=>e = .returned (.bool (xx 0 neg odd r))∧w'=w:=by
 by_cases h3:(r==3)=true
 ·have hb:xx 0 neg odd r=true:=by simp[xx,h3]
  rw[hb]
  go_enter Tryz.func369,Tryz.ntmps369
  go_wp2
  go_ret
  exact⟨rfl,rfl⟩
 ·have h3:(r==3)=false:=by simpa using h3
  by_cases h2:(r==2)=true
  ·have hb:xx 0 neg odd r=odd:=by simp[xx,h3,h2]
   rw[hb]
   go_enter Tryz.func369,Tryz.ntmps369
   go_wp2
   go_ret
   exact⟨rfl,rfl⟩
  ·have h2:(r==2)=false:=by simpa using h2
   have hb:xx 0 neg odd r=false:=by simp[xx,h3,h2]
   rw[hb]
   go_enter Tryz.func369,Tryz.ntmps369
   go_wp2
   go_ret
   exact⟨rfl,rfl⟩
theorem ads (k:Nat) (hk:k<5) (neg odd:Bool) (r:Int) (w:World):Calls Tryz.prog 323 #[.int .u8 (k:Int),.bool neg,.bool odd,.int .u8 r] w fun e w'=>e = .returned (.bool (decide (r>0)&&(decide (r≤3)&&xx k neg odd r)))∧q9 w w':=by
 have HR:=Lib.hid UR
 have hl:=adj w Kg 5 k k (.func (.func (369+k)) #[] #[]) (by
  rcases(show k=0∨k=1∨k=2∨k=3∨k=4 by omega) with rfl|rfl|rfl|rfl|rfl<;>rfl)
 have HC:=Lib.hid (show ∀ w,Calls Tryz.prog (369+k) #[.bool neg,.bool odd,.int .u8 r] w fun e w'=>e = .returned (.bool (xx k neg odd r))∧w'=w by
  rcases(show k=0∨k=1∨k=2∨k=3∨k=4 by omega) with rfl|rfl|rfl|rfl|rfl
  ·exact adr neg odd r
  ·exact adq neg odd r
  ·exact adp neg odd r
  ·exact ado neg odd r
  ·exact adn neg odd r)
 have hf:(callFunc (369+k) #[.bool neg,.bool odd,.int .u8 r]).run Tryz.prog (w.alloc (.map Kg 5)) = .ok (.enter (369+k) #[.bool neg,.bool odd,.int .u8 r]) (w.alloc (.map Kg 5)):=by
  rcases(show k=0∨k=1∨k=2∨k=3∨k=4 by omega) with rfl|rfl|rfl|rfl|rfl
  ·exact Ew Tryz.func369 (by kernel_rfl) (by kernel_rfl) _ _
  ·exact Ew Tryz.func370 (by kernel_rfl) (by kernel_rfl) _ _
  ·exact Ew Tryz.func371 (by kernel_rfl) (by kernel_rfl) _ _
  ·exact Ew Tryz.func372 (by kernel_rfl) (by kernel_rfl) _ _
  ·exact Ew Tryz.func373 (by kernel_rfl) (by kernel_rfl) _ _
 generalize 369+k=q at *
 generalize xx k neg odd r=b at *
 clear hk
 cases h1:decide (r>0) with
 | false =>
  go_enter Tryz.func323,Tryz.ntmps323
  go_wp2_with (go_at_call 357;refine(HR.out _).mono ?_;rintro e w' ⟨rfl,rfl⟩)
  exact bodyPost_ret (v:=.bool false) (by simp[results,Tryz.results323,go_sem]) rfl ⟨rfl,(q9.refl w).alloc _⟩
 | true =>
  cases h2:decide (r≤3) with
  | false =>
   go_enter Tryz.func323,Tryz.ntmps323
   go_wp2_with (go_at_call 357;refine(HR.out _).mono ?_;rintro e w' ⟨rfl,rfl⟩)
   exact bodyPost_ret (v:=.bool false) (by simp[results,Tryz.results323,go_sem]) rfl ⟨rfl,(q9.refl w).alloc _⟩
  | true =>
   go_enter Tryz.func323,Tryz.ntmps323
   go_wp2_with (go_at_call 357;refine(HR.out _).mono ?_;rintro e w' ⟨rfl,rfl⟩)
   refine(HC.out _).mono ?_
   rintro e w' ⟨rfl,rfl⟩
   go_wp2
   exact bodyPost_ret (v:=.bool b) (by simp[results,Tryz.results323,go_sem]) rfl ⟨by simp,(q9.refl w).alloc _⟩
def ME (m:Int) (neg odd:Bool) (r:Int):Bool :=
 decide (r>0)&&(decide (r≤3)&&(if m=0 then xx 0 neg odd r else if m=1 then xx 1 neg odd r else if m=2 then xx 2 neg odd r else if m=3 then xx 3 neg odd r else false))
theorem adt (m:Int) (neg odd:Bool) (r:Int) (w:World):Calls Tryz.prog 323 #[.int .u8 m,.bool neg,.bool odd,.int .u8 r] w fun e w'=>e = .returned (.bool (ME m neg odd r))∧q9 w w':=by
 have hit:=fun k hk=>ads k hk neg odd r w
 unfold ME
 by_cases h0:m=0
 ·subst h0;simpa using hit 0 (by decide)
 ·by_cases h1:m=1
  ·subst h1;simpa using hit 1 (by decide)
  ·by_cases h2:m=2
   ·subst h2;simpa using hit 2 (by decide)
   ·by_cases h3:m=3
    ·subst h3;simpa using hit 3 (by decide)
    ·rw[if_neg h0,if_neg h1,if_neg h2,if_neg h3,Bool.and_false,Bool.and_false]
     by_cases h4:m=4
     ·subst h4;simpa [xx] using hit 4 (by decide)
     ·exact adm m neg odd r w (by omega)
end Go.Proofs.YtbembkamcdlhbaaGreatDoor
