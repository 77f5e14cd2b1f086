import Derived.Test.YtippohicjhilnaaGreatDoorZATn
import Derived.Laws.BitsAllLaws
import Derived.WalkKit
import Derived.Shelf.Spec.BitsCarry
import Derived.Shelf.Sort.So_math_bits_Len64In
import Derived.ChangeKeysEq
import Derived.WideMake
import Derived.Lib.Hide
set_option linter.unusedSimpArgs false
set_option linter.unusedVariables false
set_option maxRecDepth 1000000
set_option maxHeartbeats 4000000
open Go.Proofs.Tryz
namespace Go.Proofs.YtippohicjhilnaaGreatDoor
def vZ:Nat:=18446744073709551616
theorem zu:0<vZ:=by decide
theorem GG:vZ=2^64:=by decide
def wd (n i:Nat):Int:=((n/vZ^i%vZ:Nat):Int)
def Ac (x:Int):Prop:=0<=x/\x<(vZ:Int)
theorem FD (n i:Nat):Ac (wd n i):=by unfold Ac wd;exact⟨Int.natCast_nonneg _,Int.ofNat_lt.2 (Nat.mod_lt _ zu)⟩
theorem Ac.nat {x:Int} (h:Ac x):∃ n:Nat,x=(n:Int)/\n<vZ:=⟨x.toNat,(Int.toNat_of_nonneg h.1).symm,by have:=h.2;have:=h.1;omega⟩
abbrev vB (n:Nat):Value:=.agg #[.int .u64 (wd n 1),.int .u64 (wd n 0)]
abbrev vW (n:Nat):Value:=.agg #[.int .u64 (wd n 0),.int .u64 (wd n 1),.int .u64 (wd n 2),.int .u64 (wd n 3)]
def Tm (h l:Nat):Nat:=h*vZ+l
theorem an4 {h l:Nat} (hl:l<vZ):wd (Tm h l) 0=(l:Int):=by unfold wd Tm;rw[Nat.pow_zero,Nat.div_one,Nat.add_comm,Nat.add_mul_mod_self_right,Nat.mod_eq_of_lt hl]
theorem an5 {h l:Nat} (hh:h<vZ) (hl:l<vZ):wd (Tm h l) 1=(h:Int):=by unfold wd Tm;rw[Nat.pow_one,Nat.add_comm,Nat.add_mul_div_right _ _ zu,Nat.div_eq_of_lt hl,Nat.zero_add,Nat.mod_eq_of_lt hh]
def DI (x y c:Int):Int:=(x+y+c)%(vZ:Int)
def Ar (x y c:Int):Int:=(x+y+c)/(vZ:Int)
def Df (x y c:Int):Int:=(x+(vZ:Int)-y-c)%(vZ:Int)
def Aj (x y c:Int):Int:=if x<y+c then 1 else 0
def wy:Nat:=vZ*vZ
def wG:Nat:=wy*wy
theorem Bl:wy=2^128:=by decide
theorem FE:wG=2^256:=by decide
theorem Ih:0<wy:=by decide
theorem afR:0<wG:=by decide
theorem Tn (n i:Nat):n%vZ^(i+1)=n%vZ^i+vZ^i*(n/vZ^i%vZ):=by rw[Nat.pow_succ,Nat.mod_mul]
def Ad (a b i:Nat):Nat:=(a%vZ^i+b%vZ^i)/vZ^i
theorem afS (a b:Nat):Ad a b 0=0:=by simp[Ad,Nat.mod_one]
theorem DJ (i:Nat):0<vZ^i:=Nat.pow_pos zu
theorem an6 (a b i:Nat):Ad a b i<=1:=by
 have h1:=Nat.mod_lt a (DJ i);have h2:=Nat.mod_lt b (DJ i);unfold Ad;have:(a%vZ^i+b%vZ^i)/vZ^i<2:=by rw[Nat.div_lt_iff_lt_mul (DJ i)];omega
 omega
theorem an7 (a b i:Nat):(a+b)/vZ^i=a/vZ^i+b/vZ^i+Ad a b i:=by
 have hp:=DJ i;have ha:=Nat.div_add_mod a (vZ^i);have hb:=Nat.div_add_mod b (vZ^i);unfold Ad;generalize vZ^i=p at *
 generalize a/p=x at *;generalize b/p=y at *;generalize a%p=r at *;generalize b%p=s at *
 have:a+b=(r+s)+p*(x+y):=by rw[<- ha,<- hb,Nat.mul_add];omega
 rw[this,Nat.add_mul_div_left _ _ hp];omega
theorem OW (a b i:Nat):DI (wd a i) (wd b i) (Ad a b i:Int)=wd (a+b) i:=by unfold DI wd;rw[an7,<- Int.natCast_add,<- Int.natCast_add,<- Int.natCast_emod];congr 1;simp[Nat.add_mod]
theorem OX (a b i:Nat):Ar (wd a i) (wd b i) (Ad a b i:Int)=(Ad a b (i+1):Int):=by
 unfold Ar wd;rw[<- Int.natCast_add,<- Int.natCast_add,<- Int.natCast_ediv];congr 1;have hp:=DJ i
 have e:Ad a b (i+1)=(a%vZ^i+b%vZ^i+vZ^i*(a/vZ^i%vZ+b/vZ^i%vZ))/vZ^i/vZ:=by unfold Ad;rw[Tn,Tn,Nat.div_div_eq_div_mul,<- Nat.pow_succ];congr 1;rw[Nat.mul_add];omega
 rw[e,Nat.add_mul_div_left _ _ hp];unfold Ad;congr 1;omega
theorem afT {a b i:Nat} (ha:a<vZ^i) (hb:b<vZ^i):Ad a b i=if vZ^i<=a+b then 1 else 0:=by
 unfold Ad;rw[Nat.mod_eq_of_lt ha,Nat.mod_eq_of_lt hb];split
 ·have:(a+b)/vZ^i=1:=by rw[Nat.div_eq_iff (DJ i)];constructor<;>omega
  exact this
 ·exact Nat.div_eq_of_lt (by omega)
def bin (a b i:Nat):Nat:=if a%vZ^i<b%vZ^i then 1 else 0
theorem afU (a b:Nat):bin a b 0=0:=by simp[bin,Nat.mod_one]
theorem an8 (a b i:Nat):bin a b i<=1:=by unfold bin;split<;>omega
theorem afV {a b i:Nat} (ha:a<vZ^i) (hb:b<vZ^i):bin a b i=if a<b then 1 else 0:=by unfold bin;rw[Nat.mod_eq_of_lt ha,Nat.mod_eq_of_lt hb]
theorem OY (a b i:Nat):Aj (wd a i) (wd b i) (bin a b i:Int)=(bin a b (i+1):Int):=by
 have hp:=DJ i;have h1:=Nat.mod_lt a hp;have h2:=Nat.mod_lt b hp
 have h3:bin a b (i+1)=if a/vZ^i%vZ<b/vZ^i%vZ+bin a b i then 1 else 0:=by
  unfold bin;rw[Tn,Tn];generalize vZ^i=p at *
  generalize a/p%vZ=x;generalize b/p%vZ=y;generalize a%p=r at *;generalize b%p=s at *
  by_cases hrs:r<s
  ·simp only[hrs,if_true];by_cases hxy:x<y+1
   ·rw[if_pos hxy,if_pos];have:p*x<=p*y:=Nat.mul_le_mul_left _ (by omega);omega
   ·rw[if_neg hxy,if_neg];have:p*(y+1)<=p*x:=Nat.mul_le_mul_left _ (by omega);rw[Nat.mul_add] at this;omega
  ·simp only[hrs,if_false,Nat.add_zero];by_cases hxy:x<y
   ·rw[if_pos hxy,if_pos];have:p*(x+1)<=p*y:=Nat.mul_le_mul_left _ (by omega);rw[Nat.mul_add] at this;omega
   ·rw[if_neg hxy,if_neg];have:p*y<=p*x:=Nat.mul_le_mul_left _ (by omega);omega
 unfold Aj wd;rw[h3,<- Int.natCast_add];simp only[Int.ofNat_lt];split<;>rfl
theorem OZ (a b i m:Nat) (hm:i<m) (hb:b<=a+vZ^m):Df (wd a i) (wd b i) (bin a b i:Int)=wd (a+vZ^m-b) i:=by
 have hp:=DJ i;have h1:=Nat.mod_lt a hp;have h2:=Nat.mod_lt b hp;have e1:=Nat.div_add_mod a (vZ^i);have e2:=Nat.div_add_mod b (vZ^i)
 have e3:vZ^m=vZ^i*(vZ*vZ^(m-i-1)):=by rw[<- Nat.pow_succ',<- Nat.pow_add];congr 1;omega
 have e4:(a+vZ^m-b)/vZ^i=a/vZ^i+vZ*vZ^(m-i-1)-b/vZ^i-bin a b i:=by
  rw[e3] at hb ⊢;unfold bin;generalize vZ^i=p at *
  generalize vZ*vZ^(m-i-1)=q at *
  generalize a/p=x at *;generalize b/p=y at *;generalize a%p=r at *;generalize b%p=s at *
  have hxy:p*y<=p*(x+q)+r:=by rw[Nat.mul_add];omega
  by_cases hrs:r<s
  ·simp only[hrs,if_true]
   have hlt:y<x+q:=by
    apply Classical.byContradiction;intro hn;have:p*(x+q)<=p*y:=Nat.mul_le_mul_left _ (by omega);have:p*y+s<=p*(x+q)+r:=by rw[Nat.mul_add];omega
    omega
   have e:a+p*q-b=(p+r-s)+p*(x+q-y-1):=by
    have:p*(x+q)=p*(x+q-y-1)+p*y+p:=by rw[show x+q=(x+q-y-1)+y+1 by omega,Nat.mul_add,Nat.mul_add,Nat.mul_one];rw[show x+q-y-1+y+1-y-1=x+q-y-1 by omega]
    rw[Nat.mul_add] at this;omega
   rw[e,Nat.add_mul_div_left _ _ hp,Nat.div_eq_of_lt (by omega)];omega
  ·simp only[hrs,if_false,Nat.sub_zero]
   have hle:y<=x+q:=by apply Classical.byContradiction;intro hn;have:p*(x+q+1)<=p*y:=Nat.mul_le_mul_left _ (by omega);rw[Nat.mul_add] at this;omega
   have e:a+p*q-b=(r-s)+p*(x+q-y):=by
    have:p*(x+q)=p*(x+q-y)+p*y:=by rw[<- Nat.mul_add];congr 1;omega
    rw[Nat.mul_add] at this;omega
   rw[e,Nat.add_mul_div_left _ _ hp,Nat.div_eq_of_lt (by omega)];omega
 have hle:b/vZ^i+bin a b i<=a/vZ^i+vZ*vZ^(m-i-1):=by
  rw[e3] at hb;unfold bin;generalize vZ^i=p at *
  generalize vZ*vZ^(m-i-1)=q at *
  generalize a/p=x at *;generalize b/p=y at *;generalize a%p=r at *;generalize b%p=s at *
  apply Classical.byContradiction;intro hn;split at hn
  ·have:p*(x+q)<=p*y:=Nat.mul_le_mul_left _ (by omega);rw[Nat.mul_add] at this;omega
  ·have:p*(x+q+1)<=p*y:=Nat.mul_le_mul_left _ (by omega);rw[Nat.mul_add,Nat.mul_add] at this;omega
 unfold Df wd;rw[e4];generalize a/vZ^i=x at *;generalize b/vZ^i=y at *;generalize bin a b i=c at *
 generalize vZ^(m-i-1)=t at *
 have hw:=zu;generalize vZ=z at *
 rw[Int.natCast_emod,Int.natCast_emod,Int.natCast_emod]
 rw[show((x+z*t-y-c:Nat):Int)=(x:Int)+(z:Int)*(t:Int)-(y:Int)-(c:Int) by
  have:((z*t:Nat):Int)=(z:Int)*(t:Int):=Int.natCast_mul z t
  omega]
 have e5:=Int.emod_add_mul_ediv (x:Int) (z:Int);have e6:=Int.emod_add_mul_ediv (y:Int) (z:Int)
 have e7:(x:Int)%(z:Int)+(z:Int)-(y:Int)%(z:Int)-(c:Int)=((x:Int)+(z:Int)*(t:Int)-(y:Int)-(c:Int))+(z:Int)*(1-(t:Int)-(x:Int)/(z:Int)+(y:Int)/(z:Int)):=by simp only[Int.mul_add,Int.mul_sub,Int.mul_one];omega
 rw[e7,Int.add_mul_emod_self_left]
theorem O0 (a j k:Nat) (hk:k<64):(a/vZ^j%vZ).testBit k=a.testBit (64*j+k):=by rw[GG,<- Nat.pow_mul,Nat.testBit_mod_two_pow,Nat.testBit_div_two_pow];simp[hk,Nat.add_comm]
def MC (a:Nat) (i:Int):Bool:=decide (0<=i)&&a.testBit i.toNat
theorem an9 {a:Nat} {i:Int} (h:i<0):MC a i=false:=by simp[MC];omega
theorem Tp (a i:Nat):MC a (i:Int)=a.testBit i:=by simp[MC]
theorem aoa {a:Nat} (ha:a<wy) {i:Int} (h:127<i):MC a i=false:=by have:a.testBit i.toNat=false:=Nat.testBit_lt_two_pow (Nat.lt_of_lt_of_le ha (by rw[Bl];exact Nat.pow_le_pow_right (by decide) (by omega)));simp[MC,this]
theorem Jm (n i j:Nat) (h:i<j):wd (n%vZ^j) i=wd n i:=by
 unfold wd;congr 1;have e:vZ^j=vZ^i*(vZ*vZ^(j-i-1)):=by rw[<- Nat.pow_succ',<- Nat.pow_add];congr 1;omega
 rw[e,Nat.mod_mul_right_div_self,Nat.mod_mul_right_mod]
theorem afW (n i:Nat):n%vZ^(i+1)=n%vZ^i+vZ^i*(wd n i).toNat:=by rw[Tn];unfold wd;rw[Int.toNat_natCast]
theorem afX {a b:Nat} (m:Nat) (h:∀ i,i<m->wd a i=wd b i):a%vZ^m=b%vZ^m:=by
 induction m with
 | zero=>simp[Nat.mod_one]
 | succ m ih=>rw[afW,afW,ih (λi hi=>h i (by omega)),h m (by omega)]
theorem afY {a b:Nat} (ha:a<wy) (hb:b<wy) (h0:wd a 0=wd b 0) (h1:wd a 1=wd b 1):a=b:=by
 have:=afX (a:=a) (b:=b) 2 (λi hi=>by
  have:i=0\/i=1:=by omega
  rcases this with rfl|rfl<;>assumption)
 rw[show vZ^2=wy by decide,Nat.mod_eq_of_lt ha,Nat.mod_eq_of_lt hb] at this;exact this
theorem ZL {a b:Nat} (ha:a<wG) (hb:b<wG) (h0:wd a 0=wd b 0) (h1:wd a 1=wd b 1) (h2:wd a 2=wd b 2) (h3:wd a 3=wd b 3):a=b:=by
 have:=afX (a:=a) (b:=b) 4 (λi hi=>by
  have:i=0\/i=1\/i=2\/i=3:=by omega
  rcases this with rfl|rfl|rfl|rfl<;>assumption)
 rw[show vZ^4=wG by decide,Nat.mod_eq_of_lt ha,Nat.mod_eq_of_lt hb] at this;exact this
theorem DK (i:Nat):wd 0 i=0:=by simp[wd]
theorem aob {a:Nat} (ha:a<wy):(wd a 1=0/\wd a 0=0)↔a=0:=by
 constructor
 ·rintro⟨h1,h0⟩;exact afY ha (by decide) (by rw[h0,DK]) (by rw[h1,DK])
 ·rintro rfl;exact⟨DK _,DK _⟩
theorem FI:vZ^2=wy:=by decide
theorem FJ:vZ^4=wG:=by decide
theorem Tq {a m:Nat} (i:Nat) (ha:a<vZ^m) (h:m<=i):wd a i=0:=by unfold wd;rw[Nat.div_eq_of_lt (Nat.lt_of_lt_of_le ha (Nat.pow_le_pow_right zu h))];rfl
theorem aoc {a:Nat} (ha:a<wy):wd a 2=0/\wd a 3=0:=by rw[<- FI] at ha;exact⟨Tq 2 ha (by omega),Tq 3 ha (by omega)⟩
theorem afZ (a i j:Nat):wd (a/vZ^i) j=wd a (i+j):=by unfold wd;rw[Nat.div_div_eq_div_mul,<- Nat.pow_add]
theorem ZM (a j:Nat):wd (a/wy) j=wd a (2+j):=by rw[<- FI,afZ]
theorem Ii (a j:Nat) (h:j<2):wd (a%wy) j=wd a j:=by rw[<- FI,Jm _ _ _ h]
theorem af0 {a:Nat} (ha:a<wG):a/wy<wy:=by rw[Nat.div_lt_iff_lt_mul Ih];exact ha
theorem af1 {h l:Nat} (hl:l<wy):(h*wy+l)/wy=h:=by rw[Nat.add_comm,Nat.add_mul_div_right _ _ Ih,Nat.div_eq_of_lt hl,Nat.zero_add]
theorem af2 {h l:Nat} (hl:l<wy):(h*wy+l)%wy=l:=by rw[Nat.add_comm,Nat.add_mul_mod_self_right,Nat.mod_eq_of_lt hl]
theorem aod {h l:Nat} (hl:l<wy):wd (h*wy+l) 0=wd l 0/\wd (h*wy+l) 1=wd l 1/\wd (h*wy+l) 2=wd h 0/\wd (h*wy+l) 3=wd h 1:=by
 refine⟨?_,?_,?_,?_⟩
 ·rw[<- Ii (h*wy+l) 0 (by omega),af2 hl]
 ·rw[<- Ii (h*wy+l) 1 (by omega),af2 hl]
 ·rw[<- ZM _ 0,af1 hl]
 ·rw[<- ZM _ 1,af1 hl]
theorem aoe {a:Nat} (ha:a<wG):(wd a 0=0/\wd a 1=0/\wd a 2=0/\wd a 3=0)↔a=0:=by
 constructor
 ·rintro⟨h0,h1,h2,h3⟩;exact ZL ha (by decide) (by rw[h0,DK]) (by rw[h1,DK]) (by rw[h2,DK]) (by rw[h3,DK])
 ·rintro rfl;exact⟨DK _,DK _,DK _,DK _⟩
open Go.RowKit Go.Shelf
theorem af3 (x y c:Int) (hx:Ac x) (hy:Ac y) (hc:0<=c/\c<=1) (w:World) :
  (callFunc 75 #[.int .u64 x,.int .u64 y,.int .u64 c]).run prog w = .ok (.value (.tuple #[.int .u64 (DI x y c),.int .u64 (Ar x y c)])) w:=by
 obtain⟨x,rfl,hx'⟩:=hx.nat;obtain⟨y,rfl,hy'⟩:=hy.nat;obtain⟨c,rfl⟩:=Int.eq_ofNat_of_zero_le hc.1;rw[run_callFunc_extern func75 (by kernel_rfl) (by kernel_rfl) (by kernel_rfl) (e:=add64Entry) (by kernel_rfl),run_add64 x y c (by omega) (by omega) (by omega) (by omega)];simp only[Result.andThen];unfold DI Ar vZ;congr 5<;>omega
theorem af4 (x y c:Int) (hx:Ac x) (hy:Ac y) (hc:0<=c/\c<=1) (w:World) :
  (callFunc 228 #[.int .u64 x,.int .u64 y,.int .u64 c]).run prog w = .ok (.value (.tuple #[.int .u64 (Df x y c),.int .u64 (Aj x y c)])) w:=by
 obtain⟨x,rfl,hx'⟩:=hx.nat;obtain⟨y,rfl,hy'⟩:=hy.nat;obtain⟨c,rfl⟩:=Int.eq_ofNat_of_zero_le hc.1;have h1:x<18446744073709551616:=hx';have h2:y<18446744073709551616:=hy';rw[run_callFunc_extern func228 (by kernel_rfl) (by kernel_rfl) (by kernel_rfl) (e:=sub64Entry) (by kernel_rfl),run_sub64 x y c (by omega)];simp only[Result.andThen];have e1:(((x+18446744073709551616-y-c)%18446744073709551616:Nat):Int)=Df x y c:=by unfold Df vZ;omega
 have e2:((if x<y+c then 1 else 0:Nat):Int)=Aj x y c:=by
  unfold Aj;by_cases h:x<y+c
  ·rw[if_pos h,if_pos (by omega)];rfl
  ·rw[if_neg h,if_neg (by omega)];rfl
 rw[e1,e2]
theorem aof (z:Int):bits .and .u64 (z%18446744073709551616) 4294967295=z%18446744073709551616%4294967296:=and_low32 _ (by omega) (by omega)
theorem aog {k:IntKind} {a b c d:Int} (h1:a=c) (h2:b=d):Ending.returned (.tuple #[.int k a,.int k b]) = .returned (.tuple #[.int k c,.int k d]):=by rw[h1,h2]
theorem aoh (a b:Int) (w:World) (ha:Ac a) (hb:Ac b) :
  Calls prog 288 #[.int .u64 a,.int .u64 b] w λe w'=>e = .returned (.tuple #[.int .u64 (a*b/(vZ:Int)),.int .u64 (a*b%(vZ:Int))])/\w=w':=by
 have HA:=Lib.hid ha;have HB:=Lib.hid hb;clear ha hb
 go_enter func288,ntmps288
 go_wp2
 go_ret2
 have ha:0<=a/\a<18446744073709551616:=HA.out;have hb:0<=b/\b<18446744073709551616:=HB.out;refine⟨aog ?_ ?_,rfl⟩
 ·show _=a*b/18446744073709551616;rw[<- mul64_arith a b ha.1 ha.2 hb.1 hb.2];simp only[IntKind.wrap_u64,aof,and_low32 a ha.1 ha.2,and_low32 b hb.1 hb.2]
 ·show _=a*b%18446744073709551616;rw[<- IntKind.wrap_u64]
theorem af5 {a b:Nat} (ha:a<vZ) (hb:b<vZ):(a:Int)*(b:Int)/(vZ:Int)=wd (a*b) 1/\(a:Int)*(b:Int)%(vZ:Int)=wd (a*b) 0:=by
 rw[<- Int.natCast_mul,<- Int.natCast_ediv,<- Int.natCast_emod];unfold wd
 have hlt:a*b/vZ<vZ:=by rw[Nat.div_lt_iff_lt_mul zu];exact Nat.mul_lt_mul'' ha hb
 exact⟨by rw[Nat.pow_one,Nat.mod_eq_of_lt hlt],by rw[Nat.pow_zero,Nat.div_one]⟩
theorem aoi (x : Int) (w : World) (hx : Ac x) :
    Calls prog 263 #[.int .u64 x] w λe w' => e = .returned (.int .i64 (Lib.bitLen x.toNat : Int)) /\ w = w' := by
  have h0 : 0 <= x := hx.1;have h1 : x <= 18446744073709551615 := by have h : x < 18446744073709551616 := hx.2; omega
  clear hx
  go_enter func263, ntmps263
  go_wp2
  all_goals first
    | (go_ret; refine ⟨congrArg Ending.returned (congrArg (Value.int .i64) ?_), rfl⟩; go_light)
    | (exfalso
       go_light
       have hs := len8tab_size
       omega)
  all_goals first
    | (rw [len8_get (x / 4294967296 / 65536 / 256) _, Lib.len8_of (x / 4294967296 / 65536 / 256) (by omega) (by omega)]
       have e : (x / 4294967296 / 65536 / 256).toNat = x.toNat / 72057594037927936 := by omega
       have l := Lib.bitLen_le8' (x / 4294967296 / 65536 / 256) (by omega) (by omega);have s := Lib.bitLen_shift56 x.toNat (by omega) (by omega);rw [e] at l ⊢
       exact wrap_add 56 _ _ (by decide) l s)
    | (rw [len8_get (x / 4294967296 / 65536) _, Lib.len8_of (x / 4294967296 / 65536) (by omega) (by omega)]
       have e : (x / 4294967296 / 65536).toNat = x.toNat / 281474976710656 := by omega
       have l := Lib.bitLen_le8' (x / 4294967296 / 65536) (by omega) (by omega);have s := Lib.bitLen_shift48 x.toNat (by omega) (by omega);rw [e] at l ⊢
       exact wrap_add 48 _ _ (by decide) l s)
    | (rw [len8_get (x / 4294967296 / 256) _, Lib.len8_of (x / 4294967296 / 256) (by omega) (by omega)]
       have e : (x / 4294967296 / 256).toNat = x.toNat / 1099511627776 := by omega
       have l := Lib.bitLen_le8' (x / 4294967296 / 256) (by omega) (by omega);have s := Lib.bitLen_shift40 x.toNat (by omega) (by omega);rw [e] at l ⊢
       exact wrap_add 40 _ _ (by decide) l s)
    | (rw [len8_get (x / 4294967296) _, Lib.len8_of (x / 4294967296) (by omega) (by omega)]
       have e : (x / 4294967296).toNat = x.toNat / 4294967296 := by omega
       have l := Lib.bitLen_le8' (x / 4294967296) (by omega) (by omega);have s := Lib.bitLen_shift32 x.toNat (by omega) (by omega);rw [e] at l ⊢
       exact wrap_add 32 _ _ (by decide) l s)
    | (rw [len8_get (x / 65536 / 256) _, Lib.len8_of (x / 65536 / 256) (by omega) (by omega)]
       have e : (x / 65536 / 256).toNat = x.toNat / 16777216 := by omega
       have l := Lib.bitLen_le8' (x / 65536 / 256) (by omega) (by omega);have s := Lib.bitLen_shift24 x.toNat (by omega) (by omega);rw [e] at l ⊢
       exact wrap_add 24 _ _ (by decide) l s)
    | (rw [len8_get (x / 65536) _, Lib.len8_of (x / 65536) (by omega) (by omega)]
       have e : (x / 65536).toNat = x.toNat / 65536 := by omega
       have l := Lib.bitLen_le8' (x / 65536) (by omega) (by omega);have s := Lib.bitLen_shift16 x.toNat (by omega) (by omega);rw [e] at l ⊢
       exact wrap_add 16 _ _ (by decide) l s)
    | (rw [len8_get (x / 256) _, Lib.len8_of (x / 256) (by omega) (by omega)]
       have e : (x / 256).toNat = x.toNat / 256 := by omega
       have l := Lib.bitLen_le8' (x / 256) (by omega) (by omega);have s := Lib.bitLen_shift8 x.toNat (by omega) (by omega);rw [e] at l ⊢
       exact wrap_add 8 _ _ (by decide) l s)
    | (rw [len8_get (x) _, Lib.len8_of (x) (by omega) (by omega)]
       have l := Lib.bitLen_le8' (x) (by omega) (by omega)
       first | exact wrap_wrap _ l | exact wrap_add 0 _ _ (by decide) l (by omega) | exact wrap_one _ l)
theorem VT (w:World) {e:TypeId} (hu:prog.underlying e=some (.int .u64)) (xs:Array Value) (i:Nat) (v:Value) (h:xs[i]? = some v):(part e xs i).run prog w = .ok v w:=by simp[part,isAgg,run_underlying hu,h]
theorem aoj (a b:Nat) (ha:a<wG) (hb:b<wG):(wd a 0==wd b 0&&(wd a 1==wd b 1&&(wd a 2==wd b 2&&wd a 3==wd b 3)))=decide (a=b):=by
 by_cases h:a=b
 ·subst h;simp
 ·rw[decide_eq_false h]
  cases hx:(wd a 0==wd b 0&&(wd a 1==wd b 1&&(wd a 2==wd b 2&&wd a 3==wd b 3))) with
  | false=>rfl
  | true =>
   simp only[Bool.and_eq_true,beq_iff_eq] at hx;exact absurd (ZL ha hb hx.1 hx.2.1 hx.2.2.1 hx.2.2.2) h
attribute [local go_sem] Oper.semAt_some
def upto:Nat->List (Fin 4)
 | 0=>[]
 | k+1=>if h:k<4 then upto k ++ [⟨k,h⟩] else upto k
theorem af6 {k:Nat} (hk:k<4):upto (k+1)=upto k ++ [⟨k,hk⟩]:=by simp[upto,hk]
theorem af7:∀ k,k<=4->(upto k).length=k
 | 0,_=>rfl
 | k+1,h=>by rw[af6 (by omega),List.length_append,af7 k (by omega)];rfl
theorem aok (F:Fence) (n:Nat) (h7:F.fn 289) (hro:F.round=none) (hn:1<=n) (l:Nat) (J Jx:List (Fin 4)->World->Prop)
  (hY:∀ pre x W,J pre W->pre.length<4->YieldAt F (n-1) prog l #[.int .i64 (x.1:Int)] W λe W' =>
   (e = .returned (.bool true)/\J (pre ++ [x]) W'/\True)\/(e = .returned (.bool false)/\Jx (pre ++ [x]) W'))
  (W:World) (h0:J [] W) :
  CallsIn F n prog 289 #[.func (.yield l) #[] #[]] W λe W'=>(∃ v,e = .returned v) /\
   ((∃ ys,ys=upto 4/\J ys W')\/(∃ pre,True/\Jx pre W')):=by
 refine callsIn_of_wp func289 rfl h7 ?_ hro;simp only[ntmps289,List.size_toArray,List.length_cons,List.length_nil,Nat.reduceAdd,Nat.reduceSub,Array.replicate_succ,Array.replicate_zero,List.push_toArray,List.append_toArray,List.nil_append,List.cons_append]
 gi_wp2
 gi_loopw [2] (λi wr=>∃ k:Nat,k<=4/\i = .int .i64 k/\J (upto k) wr)
  (λi _=>4-(intOf i).toNat)
 case atStart=>exact⟨0,Nat.zero_le _,rfl,h0⟩
 case round =>
  obtain⟨k,hk,rfl,hJs⟩:=hrel;by_cases hlt:k<4
  ·have Hs:=Lib.hid (af6 hlt);have hlen:=af7 k hk;obtain⟨fn,tmps,assign,body,hy,hR⟩:=hY _ ⟨k,hlt⟩ wr hJs (by omega);dsimp only at hy
   gi_wp2
   refine hR.mono ?_;rintro e W3 (⟨rfl,hJ3,-⟩|⟨rfl,hJx3⟩)
   ·gi_wp2
    go_roundw
    case rel=>exact⟨k+1,by omega,by simp,by rw[Hs.out];exact hJ3⟩
    case measure=>simp[intOf];omega
   ·gi_wp2
    go_end0
    exact⟨⟨_,rfl⟩,.inr ⟨_,trivial,hJx3⟩⟩
  ·obtain rfl:k=4:=by omega
   gi_wp2
   refine⟨λ_ h=>(by cases h),?_⟩
   gi_wp2
   go_end0
   exact⟨⟨_,rfl⟩,.inl ⟨_,rfl,hJs⟩⟩
theorem aol (F:Fence) (n:Nat) (h7:F.fn 289) (hro:F.round=none) (hn:1<=n) (w:World) :
  SeqStopsK F n prog 289 #[] (λx:Fin 4=>#[Value.int .i64 (x.1:Int)]) (λ_ _=>True) (λys=>ys=upto 4)
   (λ_=>True) 4 w:=λl J Jx W hW _ _ hY h0 =>
 aok F n h7 hro hn l J Jx hY W h0
theorem aom (F:Fence) (n:Nat) (h5:F.fn 273) (hro:F.round=none) (w:World) :
  CallsIn F n prog 273 #[] w λe w'=>e = .returned (.func (.func 289) #[] #[])/\w'=w:=by
 refine callsIn_of_wp func273 rfl h5 ?_ hro;simp only[ntmps273,List.size_toArray,List.length_nil,Nat.reduceSub,Array.replicate_succ,Array.replicate_zero,List.push_toArray,List.append_toArray,List.nil_append]
 gi_wp2
 go_ret
 exact⟨rfl,rfl⟩
structure VU (one:Nat) (f g:Int->Int->Int->Int):Prop where
 run:∀ x y c w,Ac x->Ac y->0<=c/\c<=1->(callFunc one #[.int .u64 x,.int .u64 y,.int .u64 c]).run prog w = .ok (.value (.tuple #[.int .u64 (f x y c),.int .u64 (g x y c)])) w
 carry:∀ x y c,Ac x->Ac y->0<=c/\c<=1->0<=g x y c/\g x y c<=1
def zi (f g:Int->Int->Int->Int) (a b:Nat) (pre:List (Fin 4)):Array Value×Int :=
 pre.foldl (λs x=>(s.1.setIfInBounds x.1 (.int .u64 (f (wd a x.1) (wd b x.1) s.2)),g (wd a x.1) (wd b x.1) s.2)) (#[.int .u64 0,.int .u64 0,.int .u64 0,.int .u64 0],0)
theorem af8 (f g:Int->Int->Int->Int) (a b:Nat) (pre:List (Fin 4)) (x:Fin 4) :
  zi f g a b (pre ++ [x])=((zi f g a b pre).1.setIfInBounds x.1 (.int .u64 (f (wd a x.1) (wd b x.1) (zi f g a b pre).2)),g (wd a x.1) (wd b x.1) (zi f g a b pre).2):=by simp[zi]
theorem aon (f g:Int->Int->Int->Int) (a b:Nat) (pre:List (Fin 4)):(zi f g a b pre).1.size=4:=by
 unfold zi
 suffices h:∀ (pre:List (Fin 4)) (s:Array Value×Int),s.1.size=4->(pre.foldl (λs x=>(s.1.setIfInBounds x.1 (Value.int .u64 (f (wd a x.1) (wd b x.1) s.2)),g (wd a x.1) (wd b x.1) s.2)) s).1.size=4 from h pre _ rfl
 intro pre
 induction pre with
 | nil=>intro s h;exact h
 | cons x xs ih=>intro s h;exact ih _ (by simp[h])
theorem aoo {one:Nat} {f g:Int->Int->Int->Int} (hc:VU one f g) (a b:Nat) (pre:List (Fin 4)):0<=(zi f g a b pre).2/\(zi f g a b pre).2<=1:=by
 unfold zi
 suffices h:∀ (pre:List (Fin 4)) (s:Array Value×Int),0<=s.2/\s.2<=1->0<=(pre.foldl (λs x=>(s.1.setIfInBounds x.1 (Value.int .u64 (f (wd a x.1) (wd b x.1) s.2)),g (wd a x.1) (wd b x.1) s.2)) s).2/\(pre.foldl (λs x=>(s.1.setIfInBounds x.1 (Value.int .u64 (f (wd a x.1) (wd b x.1) s.2)),g (wd a x.1) (wd b x.1) s.2)) s).2<=1 from h pre _ (by decide)
 intro pre
 induction pre with
 | nil=>intro s h;exact h
 | cons x xs ih=>intro s h;exact ih _ (hc.carry _ _ _ (FD _ _) (FD _ _) h)
theorem DN {β:Type} (B:Nat) (t:TypeId) (f:β->Array Value):Own (λs W=>W.heap[B]? = some (.cells (f s) t (0,0))):=λs X Y row hs hg hrow=>by have hlt:=Kr hs;have hb:=hg.block B hlt (λe'=>by obtain⟨o,ho,hc⟩:=hrow B e'.symm;rw[show X.heap[B]? = _ from hs] at ho;cases ho;cases hc);exact hb.trans hs
theorem Tt (a:Nat) (x:Fin 4):(#[Value.int .u64 (wd a 0),.int .u64 (wd a 1),.int .u64 (wd a 2),.int .u64 (wd a 3)])[x.1]? = some (.int .u64 (wd a x.1)) :=
 match x with|0=>rfl|1=>rfl|2=>rfl|3=>rfl
theorem af9 {one:Nat} {f g:Int->Int->Int->Int} (hC:VU one f g) (F:Fence) (n:Nat) (h1:F.fn 227) (h2:F.fn 273) (h3:F.fn 289) (h4:F.fn one) (hro:F.round=none) (hn:3<=n) (a b:Nat) (w:World) (r0 r1 r2 r3 rc:Int)
  (hst:zi f g a b (upto 4)=(#[.int .u64 r0,.int .u64 r1,.int .u64 r2,.int .u64 r3],rc)) :
  CallsIn F n prog 227 #[vW a,vW b,.func (.func one) #[] #[]] w λe w'=>e = .returned (.tuple #[.agg #[.int .u64 r0,.int .u64 r1,.int .u64 r2,.int .u64 r3],.bool (rc != 0)])/\vY w w':=by
 have hn1:1<=n:=by omega
 refine callsIn_of_wp_marks func227 rfl h1 ?_ hro;simp only[ntmps227,List.size_toArray,List.length_cons,List.length_nil,Nat.reduceAdd,Nat.reduceSub,Array.replicate_succ,Array.replicate_zero,List.push_toArray,List.append_toArray,List.nil_append,List.cons_append]
 gi_wp2_with (gi_at_call 273;refine(aom F (n-1) h2 hro _).mono ?_;rintro e w' ⟨rfl,rfl⟩)
 have hB0:Below w.heap.size w ((((((w.alloc (.cells #[.int .u64 (wd a 0),.int .u64 (wd a 1),.int .u64 (wd a 2),.int .u64 (wd a 3)] 188)).alloc (.cells #[.int .u64 (wd b 0),.int .u64 (wd b 1),.int .u64 (wd b 2),.int .u64 (wd b 3)] 188)).alloc (.cells #[.func (.func one) #[] #[]] 137)).alloc (.cells #[.int .u64 0,.int .u64 0,.int .u64 0,.int .u64 0] 188)).alloc (.cells #[.int .u64 0,.int .u64 0,.int .u64 0,.int .u64 0] 188)).alloc (.cells #[.int .u64 0] 23)):=((((((vY.refl w).alloc _).alloc _).alloc _).alloc _).alloc _).alloc _
 refine wpIn_rangeFunc_ownG hro hn1 (gf:=289) (lb:=#[]) rfl h3 (enters_of func289 (by kernel_rfl) rfl)
  (aol F (n-1) h3 hro (by omega) _) (λ_ _=>trivial) (λ_ _ _ _ _ _ _ _=>trivial) (Below.refl _ _) (λ_=>rfl)
  (λpre W=>(((W.heap[w.heap.size]? = some (.cells #[.int .u64 (wd a 0),.int .u64 (wd a 1),.int .u64 (wd a 2),.int .u64 (wd a 3)] 188 (0,0))/\W.heap[w.heap.size+1]? = some (.cells #[.int .u64 (wd b 0),.int .u64 (wd b 1),.int .u64 (wd b 2),.int .u64 (wd b 3)] 188 (0,0))) /\
   (W.heap[w.heap.size+1+1]? = some (.cells #[.func (.func one) #[] #[]] 137 (0,0))/\W.heap[w.heap.size+1+1+1]? = some (.cells #[.int .u64 0,.int .u64 0,.int .u64 0,.int .u64 0] 188 (0,0)))) /\
   (W.heap[w.heap.size+1+1+1+1]? = some (.cells (zi f g a b pre).1 188 (0,0))/\W.heap[w.heap.size+1+1+1+1+1]? = some (.cells #[.int .u64 (zi f g a b pre).2] 23 (0,0))))/\Below w.heap.size w W)
  (λ_ _ _=>False)
  (OwnFrom.and (OwnFrom.and (OwnFrom.and (OwnFrom.and (Own.from (DN _ _ _) _) (Own.from (DN _ _ _) _)) (OwnFrom.and (Own.from (DN _ _ _) _) (Own.from (DN _ _ _) _))) (OwnFrom.and (Own.from (DN _ _ _) _) (Own.from (DN _ _ (λpre=>#[.int .u64 (zi f g a b pre).2])) _))) (ownFrom_below (Nat.le_refl _) (by simp;omega)))
  (λ_ _ _ _ _ hs _ _=>hs)
  ⟨⟨⟨⟨heap_alloc (heap_alloc (heap_alloc (heap_alloc (heap_alloc (Jc _ _) _) _) _) _) _,heap_alloc (heap_alloc (heap_alloc (heap_alloc (Tc _ _ _) _) _) _) _⟩,heap_alloc (heap_alloc (heap_alloc (EO _ _ _ _) _) _) _,heap_alloc (heap_alloc (Vw _ _ _ _ _) _) _⟩,heap_alloc (Vx _ _ _ _ _ _) _,Vy _ _ _ _ _ _ _⟩,hB0⟩
  (λx => { tmps:=#[vW a,vW b,.func (.func one) #[] #[],.pointer (some ⟨w.heap.size,0,none⟩),.pointer (some ⟨w.heap.size+1,0,none⟩),.pointer (some ⟨w.heap.size+1+1,0,none⟩),.pointer (some ⟨w.heap.size+1+1+1,0,none⟩),.bool false,.pointer (some ⟨w.heap.size+1+1+1+1,0,none⟩),.pointer (some ⟨w.heap.size+1+1+1+1+1,0,none⟩),.int .i64 (x.1:Int),.func (.func 289) #[] #[],.int .i64 (x.1:Int),undef,undef,undef,undef,undef,undef,undef,undef,undef,undef,undef,undef,undef,undef,undef,undef,undef],defers:=[] }) ?assign ?body ?done ?stop
 case assign =>
  intro l x W K hK
  gi_wp2
  exact hK
 case body =>
  rintro l pre x V ⟨⟨⟨⟨bA,bB⟩,bF,bR⟩,bO,bC⟩,hB⟩ hlt;have hx:(x.1:Int)<4:=by have:=x.2;omega
  obtain⟨v0,hv0⟩:∃ v,(zi f g a b pre).1[x.1]? = some v:=⟨_,Array.getElem?_eq_getElem (by rw[aon];exact x.2)⟩
  gi_wp2
  refine Kq (λ(L:Nat->Bool) (A:Act) (W:World)=>∃ u14 u15 u16 u17 u18 u19 u20 u21 u22 u23 u13 u24 u25 u26:Value,A=⟨#[vW a,vW b,Value.func (Fn.func one) #[] #[],Value.pointer (some { block:=w.heap.size,off:=0 }),Value.pointer (some { block:=w.heap.size+1,off:=0 }),Value.pointer (some { block:=w.heap.size+1+1,off:=0 }),Value.pointer (some { block:=w.heap.size+1+1+1,off:=0 }),Value.bool false,Value.pointer (some { block:=w.heap.size+1+1+1+1,off:=0 }),Value.pointer (some { block:=w.heap.size+1+1+1+1+1,off:=0 }),Value.int IntKind.i64 ↑↑x,Value.func (Fn.func 289) #[] #[],Value.int IntKind.i64 ↑↑x,u13,u14,u15,u16,u17,u18,u19,u20,u21,u22,u23,u24,u25,u26,undef,undef,undef],[]⟩/\vY w W/\KeepsOthers V W/\W.heap[w.heap.size]? = some (.cells #[.int .u64 (wd a 0),.int .u64 (wd a 1),.int .u64 (wd a 2),.int .u64 (wd a 3)] 188 (0,0))/\W.heap[w.heap.size+1]? = some (.cells #[.int .u64 (wd b 0),.int .u64 (wd b 1),.int .u64 (wd b 2),.int .u64 (wd b 3)] 188 (0,0))/\W.heap[w.heap.size+1+1]? = some (.cells #[.func (.func one) #[] #[]] 137 (0,0))/\W.heap[w.heap.size+1+1+1]? = some (.cells #[.int .u64 0,.int .u64 0,.int .u64 0,.int .u64 0] 188 (0,0))/\W.heap[w.heap.size+1+1+1+1]? = some (.cells (bif L 14 then((zi f g a b pre).1.setIfInBounds x.1 (.int .u64 (f (wd a x.1) (wd b x.1) (zi f g a b pre).2))) else(zi f g a b pre).1) 188 (0,0))/\W.heap[w.heap.size+1+1+1+1+1]? = some (.cells (bif L 15 then #[.int .u64 (g (wd a x.1) (wd b x.1) (zi f g a b pre).2)] else #[.int .u64 (zi f g a b pre).2]) 23 (0,0))/\(L 0=true->u14=Value.int IntKind.i64 ↑↑x)/\(L 1=true->u15 = .func (.func one) #[] #[])/\(L 2=true->u16=Value.int IntKind.i64 ↑↑x)/\(L 3=true->u17 = .pointer (some ⟨w.heap.size,x.1,none⟩))/\(L 4=true->u18 = .int .u64 (wd a x.1))/\(L 5=true->u19=Value.int IntKind.i64 ↑↑x)/\(L 6=true->u20 = .pointer (some ⟨w.heap.size+1,x.1,none⟩))/\(L 7=true->u21 = .int .u64 (wd b x.1))/\(L 8=true->u22 = .int .u64 (zi f g a b pre).2)/\(L 9=true->u23 = .tuple #[.int .u64 (f (wd a x.1) (wd b x.1) (zi f g a b pre).2),.int .u64 (g (wd a x.1) (wd b x.1) (zi f g a b pre).2)])/\(L 10=true->u13 = .tuple #[.int .u64 (f (wd a x.1) (wd b x.1) (zi f g a b pre).2),.int .u64 (g (wd a x.1) (wd b x.1) (zi f g a b pre).2)])/\(L 11=true->u24 = .int .u64 (f (wd a x.1) (wd b x.1) (zi f g a b pre).2))/\(L 12=true->u25 = .int .u64 (g (wd a x.1) (wd b x.1) (zi f g a b pre).2))/\(L 13=true->u26 = .pointer (some ⟨w.heap.size+1+1+1+1,x.1,none⟩))) (by kernel_rfl) (by kernel_rfl) ?h0 ⟨?s0,?s1,?s2,?s3,?s4,?s5,?s6,?s7,?s8,?s9,?s10,?s11,?s12,?s13,?s14,?s15,trivial⟩ ?hd
  case h0 =>
   exact⟨_,_,_,_,_,_,_,_,_,_,_,_,_,_,rfl,(vY.drew hB),⟨Nat.le_refl _,λ_ _ hk _=>hk⟩,bA,bB,bF,bR,bO,bC,λh=>absurd h Bool.false_ne_true,λh=>absurd h Bool.false_ne_true,λh=>absurd h Bool.false_ne_true,λh=>absurd h Bool.false_ne_true,λh=>absurd h Bool.false_ne_true,λh=>absurd h Bool.false_ne_true,λh=>absurd h Bool.false_ne_true,λh=>absurd h Bool.false_ne_true,λh=>absurd h Bool.false_ne_true,λh=>absurd h Bool.false_ne_true,λh=>absurd h Bool.false_ne_true,λh=>absurd h Bool.false_ne_true,λh=>absurd h Bool.false_ne_true,λh=>absurd h Bool.false_ne_true⟩
  case s0 =>
   rintro L _ W K ⟨u14,u15,u16,u17,u18,u19,u20,u21,u22,u23,u13,u24,u25,u26,rfl,hb,x0,c3,c4,c5,c6,c8,c9,f0,f1,f2,f3,f4,f5,f6,f7,f8,f9,f10,f11,f12,f13⟩ hL hD hN hK;refine xy (xx rfl) ?_
   go_simp
   refine hK _ _ ⟨_,_,_,_,_,_,_,_,_,_,_,_,_,_,rfl,hb,x0,c3,c4,c5,c6,c8,c9,λ_=>rfl,f1,f2,f3,f4,f5,f6,f7,f8,f9,f10,f11,f12,f13⟩
  case s1 =>
   rintro L _ W K ⟨u14,u15,u16,u17,u18,u19,u20,u21,u22,u23,u13,u24,u25,u26,rfl,hb,x0,c3,c4,c5,c6,c8,c9,f0,f1,f2,f3,f4,f5,f6,f7,f8,f9,f10,f11,f12,f13⟩ hL hD hN hK;refine xy (xx rfl) ?_;have e0:=wB c5 0 rfl;have hf:=xn c5 0
   go_simp
   refine hK _ _ ⟨_,_,_,_,_,_,_,_,_,_,_,_,_,_,rfl,hb,x0,c3,c4,c5,c6,c8,c9,f0,λ_=>rfl,f2,f3,f4,f5,f6,f7,f8,f9,f10,f11,f12,f13⟩
  case s2 =>
   rintro L _ W K ⟨u14,u15,u16,u17,u18,u19,u20,u21,u22,u23,u13,u24,u25,u26,rfl,hb,x0,c3,c4,c5,c6,c8,c9,f0,f1,f2,f3,f4,f5,f6,f7,f8,f9,f10,f11,f12,f13⟩ hL hD hN hK;refine xy (xx rfl) ?_
   go_simp
   refine hK _ _ ⟨_,_,_,_,_,_,_,_,_,_,_,_,_,_,rfl,hb,x0,c3,c4,c5,c6,c8,c9,f0,f1,λ_=>rfl,f3,f4,f5,f6,f7,f8,f9,f10,f11,f12,f13⟩
  case s3 =>
   rintro L _ W K ⟨u14,u15,u16,u17,u18,u19,u20,u21,u22,u23,u13,u24,u25,u26,rfl,hb,x0,c3,c4,c5,c6,c8,c9,f0,f1,f2,f3,f4,f5,f6,f7,f8,f9,f10,f11,f12,f13⟩ hL hD hN hK;obtain rfl:=f2 (hD 2 (by kernel_rfl));refine xy (xx rfl) ?_
   go_simp
   refine hK _ _ ⟨_,_,_,_,_,_,_,_,_,_,_,_,_,_,rfl,hb,x0,c3,c4,c5,c6,c8,c9,f0,f1,f2,λ_=>rfl,f4,f5,f6,f7,f8,f9,f10,f11,f12,f13⟩
  case s4 =>
   rintro L _ W K ⟨u14,u15,u16,u17,u18,u19,u20,u21,u22,u23,u13,u24,u25,u26,rfl,hb,x0,c3,c4,c5,c6,c8,c9,f0,f1,f2,f3,f4,f5,f6,f7,f8,f9,f10,f11,f12,f13⟩ hL hD hN hK;obtain rfl:=f3 (hD 3 (by kernel_rfl));refine xy (xx rfl) ?_;have e0:=wB c3 x.1 (Tt a x);have hf:=xn c3 x.1
   go_simp
   refine hK _ _ ⟨_,_,_,_,_,_,_,_,_,_,_,_,_,_,rfl,hb,x0,c3,c4,c5,c6,c8,c9,f0,f1,f2,f3,λ_=>rfl,f5,f6,f7,f8,f9,f10,f11,f12,f13⟩
  case s5 =>
   rintro L _ W K ⟨u14,u15,u16,u17,u18,u19,u20,u21,u22,u23,u13,u24,u25,u26,rfl,hb,x0,c3,c4,c5,c6,c8,c9,f0,f1,f2,f3,f4,f5,f6,f7,f8,f9,f10,f11,f12,f13⟩ hL hD hN hK;refine xy (xx rfl) ?_
   go_simp
   refine hK _ _ ⟨_,_,_,_,_,_,_,_,_,_,_,_,_,_,rfl,hb,x0,c3,c4,c5,c6,c8,c9,f0,f1,f2,f3,f4,λ_=>rfl,f6,f7,f8,f9,f10,f11,f12,f13⟩
  case s6 =>
   rintro L _ W K ⟨u14,u15,u16,u17,u18,u19,u20,u21,u22,u23,u13,u24,u25,u26,rfl,hb,x0,c3,c4,c5,c6,c8,c9,f0,f1,f2,f3,f4,f5,f6,f7,f8,f9,f10,f11,f12,f13⟩ hL hD hN hK;obtain rfl:=f5 (hD 5 (by kernel_rfl));refine xy (xx rfl) ?_
   go_simp
   refine hK _ _ ⟨_,_,_,_,_,_,_,_,_,_,_,_,_,_,rfl,hb,x0,c3,c4,c5,c6,c8,c9,f0,f1,f2,f3,f4,f5,λ_=>rfl,f7,f8,f9,f10,f11,f12,f13⟩
  case s7 =>
   rintro L _ W K ⟨u14,u15,u16,u17,u18,u19,u20,u21,u22,u23,u13,u24,u25,u26,rfl,hb,x0,c3,c4,c5,c6,c8,c9,f0,f1,f2,f3,f4,f5,f6,f7,f8,f9,f10,f11,f12,f13⟩ hL hD hN hK;obtain rfl:=f6 (hD 6 (by kernel_rfl));refine xy (xx rfl) ?_;have e0:=wB c4 x.1 (Tt b x);have hf:=xn c4 x.1
   go_simp
   refine hK _ _ ⟨_,_,_,_,_,_,_,_,_,_,_,_,_,_,rfl,hb,x0,c3,c4,c5,c6,c8,c9,f0,f1,f2,f3,f4,f5,f6,λ_=>rfl,f8,f9,f10,f11,f12,f13⟩
  case s8 =>
   rintro L _ W K ⟨u14,u15,u16,u17,u18,u19,u20,u21,u22,u23,u13,u24,u25,u26,rfl,hb,x0,c3,c4,c5,c6,c8,c9,f0,f1,f2,f3,f4,f5,f6,f7,f8,f9,f10,f11,f12,f13⟩ hL hD hN hK;refine xy (xx rfl) ?_;have hz:L 15=false:=hN 15 _ rfl (by kernel_rfl);have d9:=c9;rw[hz] at d9;have e0:=wB d9 0 rfl;have hf:=xn d9 0
   go_simp
   refine hK _ _ ⟨_,_,_,_,_,_,_,_,_,_,_,_,_,_,rfl,hb,x0,c3,c4,c5,c6,c8,c9,f0,f1,f2,f3,f4,f5,f6,f7,λ_=>rfl,f9,f10,f11,f12,f13⟩
  case s9 =>
   rintro L _ W K ⟨u14,u15,u16,u17,u18,u19,u20,u21,u22,u23,u13,u24,u25,u26,rfl,hb,x0,c3,c4,c5,c6,c8,c9,f0,f1,f2,f3,f4,f5,f6,f7,f8,f9,f10,f11,f12,f13⟩ hL hD hN hK;obtain rfl:=f1 (hD 1 (by kernel_rfl));obtain rfl:=f4 (hD 4 (by kernel_rfl));obtain rfl:=f7 (hD 7 (by kernel_rfl));obtain rfl:=f8 (hD 8 (by kernel_rfl));refine xy (xx rfl) ?_;have hr:=λw=>hC.run (wd a x.1) (wd b x.1) (zi f g a b pre).2 w (FD _ _) (FD _ _) (aoo hC a b pre)
   go_simp
   refine hK _ _ ⟨_,_,_,_,_,_,_,_,_,_,_,_,_,_,rfl,hb,x0,c3,c4,c5,c6,c8,c9,f0,f1,f2,f3,f4,f5,f6,f7,f8,λ_=>rfl,f10,f11,f12,f13⟩
  case s10 =>
   rintro L _ W K ⟨u14,u15,u16,u17,u18,u19,u20,u21,u22,u23,u13,u24,u25,u26,rfl,hb,x0,c3,c4,c5,c6,c8,c9,f0,f1,f2,f3,f4,f5,f6,f7,f8,f9,f10,f11,f12,f13⟩ hL hD hN hK;obtain rfl:=f9 (hD 9 (by kernel_rfl));refine xy (xx rfl) ?_
   go_simp
   refine hK _ _ ⟨_,_,_,_,_,_,_,_,_,_,_,_,_,_,rfl,hb,x0,c3,c4,c5,c6,c8,c9,f0,f1,f2,f3,f4,f5,f6,f7,f8,f9,λ_=>rfl,f11,f12,f13⟩
  case s11 =>
   rintro L _ W K ⟨u14,u15,u16,u17,u18,u19,u20,u21,u22,u23,u13,u24,u25,u26,rfl,hb,x0,c3,c4,c5,c6,c8,c9,f0,f1,f2,f3,f4,f5,f6,f7,f8,f9,f10,f11,f12,f13⟩ hL hD hN hK;obtain rfl:=f10 (hD 10 (by kernel_rfl));refine xy (xx rfl) ?_
   go_simp
   refine hK _ _ ⟨_,_,_,_,_,_,_,_,_,_,_,_,_,_,rfl,hb,x0,c3,c4,c5,c6,c8,c9,f0,f1,f2,f3,f4,f5,f6,f7,f8,f9,f10,λ_=>rfl,f12,f13⟩
  case s12 =>
   rintro L _ W K ⟨u14,u15,u16,u17,u18,u19,u20,u21,u22,u23,u13,u24,u25,u26,rfl,hb,x0,c3,c4,c5,c6,c8,c9,f0,f1,f2,f3,f4,f5,f6,f7,f8,f9,f10,f11,f12,f13⟩ hL hD hN hK;obtain rfl:=f10 (hD 10 (by kernel_rfl));refine xy (xx rfl) ?_
   go_simp
   refine hK _ _ ⟨_,_,_,_,_,_,_,_,_,_,_,_,_,_,rfl,hb,x0,c3,c4,c5,c6,c8,c9,f0,f1,f2,f3,f4,f5,f6,f7,f8,f9,f10,f11,λ_=>rfl,f13⟩
  case s13 =>
   rintro L _ W K ⟨u14,u15,u16,u17,u18,u19,u20,u21,u22,u23,u13,u24,u25,u26,rfl,hb,x0,c3,c4,c5,c6,c8,c9,f0,f1,f2,f3,f4,f5,f6,f7,f8,f9,f10,f11,f12,f13⟩ hL hD hN hK;obtain rfl:=f0 (hD 0 (by kernel_rfl));refine xy (xx rfl) ?_
   go_simp
   refine hK _ _ ⟨_,_,_,_,_,_,_,_,_,_,_,_,_,_,rfl,hb,x0,c3,c4,c5,c6,c8,c9,f0,f1,f2,f3,f4,f5,f6,f7,f8,f9,f10,f11,f12,λ_=>rfl⟩
  case s14 =>
   rintro L _ W K ⟨u14,u15,u16,u17,u18,u19,u20,u21,u22,u23,u13,u24,u25,u26,rfl,hb,x0,c3,c4,c5,c6,c8,c9,f0,f1,f2,f3,f4,f5,f6,f7,f8,f9,f10,f11,f12,f13⟩ hL hD hN hK;obtain rfl:=f13 (hD 13 (by kernel_rfl));obtain rfl:=f11 (hD 11 (by kernel_rfl));refine xy (xx rfl) ?_;have hz:L 14=false:=hL;rw[hz] at c8;have e0:=wB c8 x.1 (hv0);have h0:=xn c8 x.1
   go_simp
   refine hK _ _ ⟨_,_,_,_,_,_,_,_,_,_,_,_,_,_,rfl,(vY.set hb (by omega) _),(x0.trans (KeepsOthers.setCell _ _ _)),(wL c3 _ _ (show w.heap.size≠w.heap.size+1+1+1+1 by omega)),(wL c4 _ _ (show w.heap.size+1≠w.heap.size+1+1+1+1 by omega)),(wL c5 _ _ (show w.heap.size+1+1≠w.heap.size+1+1+1+1 by omega)),(wL c6 _ _ (show w.heap.size+1+1+1≠w.heap.size+1+1+1+1 by omega)),(heap_set c8 _),(wL c9 _ _ (show w.heap.size+1+1+1+1+1≠w.heap.size+1+1+1+1 by omega)),f0,f1,f2,f3,f4,f5,f6,f7,f8,f9,f10,f11,f12,f13⟩
  case s15 =>
   rintro L _ W K ⟨u14,u15,u16,u17,u18,u19,u20,u21,u22,u23,u13,u24,u25,u26,rfl,hb,x0,c3,c4,c5,c6,c8,c9,f0,f1,f2,f3,f4,f5,f6,f7,f8,f9,f10,f11,f12,f13⟩ hL hD hN hK;obtain rfl:=f12 (hD 12 (by kernel_rfl));refine xy (xx rfl) ?_;have hz:L 15=false:=hL;rw[hz] at c9;have e0:=wB c9 0 (rfl);have h0:=xn c9 0
   go_simp
   refine hK _ _ ⟨_,_,_,_,_,_,_,_,_,_,_,_,_,_,rfl,(vY.set hb (by omega) _),(x0.trans (KeepsOthers.setCell _ _ _)),(wL c3 _ _ (show w.heap.size≠w.heap.size+1+1+1+1+1 by omega)),(wL c4 _ _ (show w.heap.size+1≠w.heap.size+1+1+1+1+1 by omega)),(wL c5 _ _ (show w.heap.size+1+1≠w.heap.size+1+1+1+1+1 by omega)),(wL c6 _ _ (show w.heap.size+1+1+1≠w.heap.size+1+1+1+1+1 by omega)),(wL c8 _ _ (show w.heap.size+1+1+1+1≠w.heap.size+1+1+1+1+1 by omega)),(heap_set c9 _),f0,f1,f2,f3,f4,f5,f6,f7,f8,f9,f10,f11,f12,f13⟩
  case hd =>
   rintro L _ W ⟨u14,u15,u16,u17,u18,u19,u20,u21,u22,u23,u13,u24,u25,u26,rfl,hb,x0,c3,c4,c5,c6,c8,c9,f0,f1,f2,f3,f4,f5,f6,f7,f8,f9,f10,f11,f12,f13⟩ hall;rw[hall 14 (by decide)] at c8;rw[hall 15 (by decide)] at c9;obtain rfl:=f0 (hall 0 (by decide));obtain rfl:=f1 (hall 1 (by decide));obtain rfl:=f2 (hall 2 (by decide));obtain rfl:=f3 (hall 3 (by decide));obtain rfl:=f4 (hall 4 (by decide));obtain rfl:=f5 (hall 5 (by decide));obtain rfl:=f6 (hall 6 (by decide));obtain rfl:=f7 (hall 7 (by decide));obtain rfl:=f8 (hall 8 (by decide));obtain rfl:=f9 (hall 9 (by decide));obtain rfl:=f10 (hall 10 (by decide));obtain rfl:=f11 (hall 11 (by decide));obtain rfl:=f12 (hall 12 (by decide));obtain rfl:=f13 (hall 13 (by decide))
   gi_wp2
   exact⟨x0.from _,trivial,⟨⟨⟨⟨c3,c4⟩,c5,c6⟩,by rw[af8];exact c8,by rw[af8];exact c9⟩,hb⟩⟩
 case done =>
  rintro D ys V hD rfl ⟨⟨⟨⟨bA,bB⟩,bF,bR⟩,bO,bC⟩,hB⟩ hK;rw[hst] at bO bC;have hD':w.heap.size+1+1+1+1+1+1<=D:=by first|exact hD|simpa using hD
  gi_wp2
  refine Kq (λ(L:Nat->Bool) (A:Act) (W:World)=>∃ u27 u28 u29 u7:Value,A=⟨#[vW a,vW b,Value.func (Fn.func one) #[] #[],Value.pointer (some { block:=w.heap.size,off:=0 }),Value.pointer (some { block:=w.heap.size+1,off:=0 }),Value.pointer (some { block:=w.heap.size+1+1,off:=0 }),Value.pointer (some { block:=w.heap.size+1+1+1,off:=0 }),u7,Value.pointer (some { block:=w.heap.size+1+1+1+1,off:=0 }),Value.pointer (some { block:=w.heap.size+1+1+1+1+1,off:=0 }),undef,Value.func (Fn.func 289) #[] #[],undef,undef,undef,undef,undef,undef,undef,undef,undef,undef,undef,undef,undef,undef,undef,u27,u28,u29],[{ target:=Target.collected D,args:=#[] }]⟩/\vY w W/\W.heap[D]? = some (.deferred (some []))/\W.heap[w.heap.size+1+1+1]? = some (.cells (bif L 3 then #[.int .u64 r0,.int .u64 r1,.int .u64 r2,.int .u64 r3] else #[.int .u64 0,.int .u64 0,.int .u64 0,.int .u64 0]) 188 (0,0))/\W.heap[w.heap.size+1+1+1+1]? = some (.cells #[.int .u64 r0,.int .u64 r1,.int .u64 r2,.int .u64 r3] 188 (0,0))/\W.heap[w.heap.size+1+1+1+1+1]? = some (.cells #[.int .u64 rc] 23 (0,0))/\(L 0=true->u27 = .agg #[.int .u64 r0,.int .u64 r1,.int .u64 r2,.int .u64 r3])/\(L 1=true->u28 = .int .u64 rc)/\(L 2=true->u29 = .bool (rc != 0))/\(L 4=true->u7 = .bool (rc != 0))) (by kernel_rfl) (by kernel_rfl) ?h0 ⟨?s0,?s1,?s2,?s3,?s4,trivial⟩ ?hd
  case h0 =>
   exact⟨_,_,_,_,rfl,(vY.drew hB),hK,bR,bO,bC,λh=>absurd h Bool.false_ne_true,λh=>absurd h Bool.false_ne_true,λh=>absurd h Bool.false_ne_true,λh=>absurd h Bool.false_ne_true⟩
  case s0 =>
   rintro L _ W K ⟨u27,u28,u29,u7,rfl,hb,x0,c6,c8,c9,f0,f1,f2,f4⟩ hL hD hN hK;refine xy (xx rfl) ?_;have e0:=wB c8 0 rfl;have e1:=wB c8 1 rfl;have e2:=wB c8 2 rfl;have e3:=wB c8 3 rfl;have hf:=xn c8 0
   go_simp
   refine hK _ _ ⟨_,_,_,_,rfl,hb,x0,c6,c8,c9,λ_=>rfl,f1,f2,f4⟩
  case s1 =>
   rintro L _ W K ⟨u27,u28,u29,u7,rfl,hb,x0,c6,c8,c9,f0,f1,f2,f4⟩ hL hD hN hK;refine xy (xx rfl) ?_;have e0:=wB c9 0 rfl;have hf:=xn c9 0
   go_simp
   refine hK _ _ ⟨_,_,_,_,rfl,hb,x0,c6,c8,c9,f0,λ_=>rfl,f2,f4⟩
  case s2 =>
   rintro L _ W K ⟨u27,u28,u29,u7,rfl,hb,x0,c6,c8,c9,f0,f1,f2,f4⟩ hL hD hN hK;obtain rfl:=f1 (hD 1 (by kernel_rfl));refine xy (xx rfl) ?_
   go_simp
   refine hK _ _ ⟨_,_,_,_,rfl,hb,x0,c6,c8,c9,f0,f1,λ_=>rfl,f4⟩
  case s3 =>
   rintro L _ W K ⟨u27,u28,u29,u7,rfl,hb,x0,c6,c8,c9,f0,f1,f2,f4⟩ hL hD hN hK;obtain rfl:=f0 (hD 0 (by kernel_rfl));refine xy (xx rfl) ?_;have hz:L 3=false:=hL;rw[hz] at c6;have e0:=wB c6 0 (rfl);have h0:=xn c6 0;have e1:=wB c6 1 (rfl);have h1:=xn c6 1;have e2:=wB c6 2 (rfl);have h2:=xn c6 2;have e3:=wB c6 3 (rfl);have h3:=xn c6 3
   go_simp
   refine hK _ _ ⟨_,_,_,_,rfl,(vY.set (vY.set (vY.set (vY.set hb (by omega) _) (by omega) _) (by omega) _) (by omega) _),(wL (wL (wL (wL x0 _ _ (by show D≠w.heap.size+1+1+1;omega)) _ _ (by show D≠w.heap.size+1+1+1;omega)) _ _ (by show D≠w.heap.size+1+1+1;omega)) _ _ (by show D≠w.heap.size+1+1+1;omega)),(heap_set (heap_set (heap_set (heap_set c6 _) _) _) _),(wL (wL (wL (wL c8 _ _ (show w.heap.size+1+1+1+1≠w.heap.size+1+1+1 by omega)) _ _ (show w.heap.size+1+1+1+1≠w.heap.size+1+1+1 by omega)) _ _ (show w.heap.size+1+1+1+1≠w.heap.size+1+1+1 by omega)) _ _ (show w.heap.size+1+1+1+1≠w.heap.size+1+1+1 by omega)),(wL (wL (wL (wL c9 _ _ (show w.heap.size+1+1+1+1+1≠w.heap.size+1+1+1 by omega)) _ _ (show w.heap.size+1+1+1+1+1≠w.heap.size+1+1+1 by omega)) _ _ (show w.heap.size+1+1+1+1+1≠w.heap.size+1+1+1 by omega)) _ _ (show w.heap.size+1+1+1+1+1≠w.heap.size+1+1+1 by omega)),f0,f1,f2,f4⟩
  case s4 =>
   rintro L _ W K ⟨u27,u28,u29,u7,rfl,hb,x0,c6,c8,c9,f0,f1,f2,f4⟩ hL hD hN hK;obtain rfl:=f2 (hD 2 (by kernel_rfl));refine xy (xx rfl) ?_
   go_simp
   refine hK _ _ ⟨_,_,_,_,rfl,hb,x0,c6,c8,c9,f0,f1,f2,λ_=>rfl⟩
  case hd =>
   rintro L _ W ⟨u27,u28,u29,u7,rfl,hb,x0,c6,c8,c9,f0,f1,f2,f4⟩ hall;rw[hall 3 (by decide)] at c6;obtain rfl:=f0 (hall 0 (by decide));obtain rfl:=f1 (hall 1 (by decide));obtain rfl:=f2 (hall 2 (by decide));obtain rfl:=f4 (hall 4 (by decide))
   gi_wp2
   refine⟨by simp,.inl ⟨_,_,rfl,run_takeDeferred x0,?_⟩⟩;have cR:(W.putObj D (.deferred none)).heap[w.heap.size+1+1+1]? = _:=(World.putObj_heap_other (by omega)).trans c6;have q0:=wB cR 0 rfl;have q1:=wB cR 1 rfl;have q2:=wB cR 2 rfl;have q3:=wB cR 3 rfl;exact⟨_,by simp[results,results227,go_sem,q0,q1,q2,q3],rfl,Below.trans hb (belowK_b (w:=w) (Nat.le_refl _) W D _ _ (by omega) x0 rfl rfl)⟩
 case stop =>
  rintro D c pre W _ _ h _;exact h.elim
theorem aop (a b i:Nat):(0:Int)<=(Ad a b i:Int)/\(Ad a b i:Int)<=1:=by have:=an6 a b i;omega
theorem aoq (a b i:Nat):(0:Int)<=(bin a b i:Int)/\(bin a b i:Int)<=1:=by have:=an8 a b i;omega
theorem aor:VU 75 DI Ar where
 run x y c w hx hy hc:=af3 x y c hx hy hc w
 carry x y c hx hy hc:=by obtain⟨x,rfl,hx'⟩:=hx.nat;obtain⟨y,rfl,hy'⟩:=hy.nat;obtain⟨c,rfl⟩:=Int.eq_ofNat_of_zero_le hc.1;unfold Ar vZ;unfold vZ at hx' hy';omega
theorem aos:VU 228 Df Aj where
 run x y c w hx hy hc:=af4 x y c hx hy hc w
 carry x y c hx hy hc:=by unfold Aj;split<;>omega
theorem aot (a b:Nat):zi DI Ar a b (upto 4)=(#[.int .u64 (wd (a+b) 0),.int .u64 (wd (a+b) 1),.int .u64 (wd (a+b) 2),.int .u64 (wd (a+b) 3)],(Ad a b 4:Int)):=by have e0:=OW a b 0;have e1:=OW a b 1;have e2:=OW a b 2;have e3:=OW a b 3;have c0:=OX a b 0;have c1:=OX a b 1;have c2:=OX a b 2;have c3:=OX a b 3;rw[afS] at e0 c0;show(#[Value.int .u64 (DI (wd a 0) (wd b 0) 0),.int .u64 (DI (wd a 1) (wd b 1) (Ar (wd a 0) (wd b 0) 0)),.int .u64 (DI (wd a 2) (wd b 2) (Ar (wd a 1) (wd b 1) (Ar (wd a 0) (wd b 0) 0))),.int .u64 (DI (wd a 3) (wd b 3) (Ar (wd a 2) (wd b 2) (Ar (wd a 1) (wd b 1) (Ar (wd a 0) (wd b 0) 0))))],Ar (wd a 3) (wd b 3) (Ar (wd a 2) (wd b 2) (Ar (wd a 1) (wd b 1) (Ar (wd a 0) (wd b 0) 0))))=_;rw[show((0:Nat):Int)=0 from rfl] at e0 c0;rw[c0,c1,c2,c3,e0,e1,e2,e3]
theorem aou (a b:Nat) (hb:b<wG):zi Df Aj a b (upto 4)=(#[.int .u64 (wd (a+wG-b) 0),.int .u64 (wd (a+wG-b) 1),.int .u64 (wd (a+wG-b) 2),.int .u64 (wd (a+wG-b) 3)],(bin a b 4:Int)):=by
 have hb':b<=a+vZ^4:=by rw[FJ];omega
 have e0:=OZ a b 0 4 (by omega) hb';have e1:=OZ a b 1 4 (by omega) hb';have e2:=OZ a b 2 4 (by omega) hb';have e3:=OZ a b 3 4 (by omega) hb';have c0:=OY a b 0;have c1:=OY a b 1;have c2:=OY a b 2;have c3:=OY a b 3;rw[afU] at e0 c0;rw[FJ] at e0 e1 e2 e3;show(#[Value.int .u64 (Df (wd a 0) (wd b 0) 0),.int .u64 (Df (wd a 1) (wd b 1) (Aj (wd a 0) (wd b 0) 0)),.int .u64 (Df (wd a 2) (wd b 2) (Aj (wd a 1) (wd b 1) (Aj (wd a 0) (wd b 0) 0))),.int .u64 (Df (wd a 3) (wd b 3) (Aj (wd a 2) (wd b 2) (Aj (wd a 1) (wd b 1) (Aj (wd a 0) (wd b 0) 0))))],Aj (wd a 3) (wd b 3) (Aj (wd a 2) (wd b 2) (Aj (wd a 1) (wd b 1) (Aj (wd a 0) (wd b 0) 0))))=_;rw[show((0:Nat):Int)=0 from rfl] at e0 c0;rw[c0,c1,c2,c3,e0,e1,e2,e3]
theorem aov (a b:Nat) (w:World) (ha:a<wG) (hb:b<wG) :
  Calls prog 157 #[vW a,vW b] w λe w'=>e = .returned (.tuple #[vW (a+b),.bool (decide (wG<=a+b))])/\vY w w':=by
 have h2:(((Ad a b 4:Nat):Int) != 0)=decide (wG<=a+b):=by rw[afT (i:=4) (by rw[FJ];exact ha) (by rw[FJ];exact hb),FJ];split<;>simp_all
 have hc:=λw=>(callsIn_wide (n:=3)).1 (af9 aor Fence.wide 3 trivial trivial trivial trivial rfl (by omega) a b w _ _ _ _ _ (aot a b))
 rw[h2] at hc;have HC:=Lib.hid hc;clear hc h2
 go_enter func157,ntmps157
 go_wp2_with (go_at_call 227;refine(HC.out _).mono ?_;rintro e w1 ⟨rfl,hb1⟩;have cR:=xK (EO _ _ _ _) hb1;have q0:=wB cR 0 rfl;have q1:=wB cR 1 rfl;have q2:=wB cR 2 rfl;have q3:=wB cR 3 rfl;have f0:=xn cR 0;have f1:=xn cR 1;have f2:=xn cR 2;have f3:=xn cR 3)
 refine bodyPost_ret (v:=.tuple #[vW (a+b),.bool (decide (wG<=a+b))]) (by have cZ:=afs cR (.int .u64 (wd (a+b) 0)) (.int .u64 (wd (a+b) 1)) (.int .u64 (wd (a+b) 2)) (.int .u64 (wd (a+b) 3));simp[results,results157,go_sem,wB cZ 0 rfl,wB cZ 1 rfl,wB cZ 2 rfl,wB cZ 3 rfl]) rfl ⟨rfl,?_⟩;exact(((((((vY.refl w).alloc _).alloc _).alloc _).trans hb1).set (by omega) _).set (by omega) _ |>.set (by omega) _ |>.set (by omega) _)
theorem aow (a b:Nat) (w:World) (ha:a<wG) (hb:b<wG) :
  Calls prog 158 #[vW a,vW b] w λe w'=>e = .returned (.tuple #[vW (a+wG-b),.bool (decide (a<b))])/\vY w w':=by
 have h2:(((bin a b 4:Nat):Int) != 0)=decide (a<b):=by rw[afV (i:=4) (by rw[FJ];exact ha) (by rw[FJ];exact hb)];split<;>simp_all
 have hc:=λw=>(callsIn_wide (n:=3)).1 (af9 aos Fence.wide 3 trivial trivial trivial trivial rfl (by omega) a b w _ _ _ _ _ (aou a b hb))
 rw[h2] at hc;have HC:=Lib.hid hc;clear hc h2
 go_enter func158,ntmps158
 go_wp2_with (go_at_call 227;refine(HC.out _).mono ?_;rintro e w1 ⟨rfl,hb1⟩;have cR:=xK (EO _ _ _ _) hb1;have q0:=wB cR 0 rfl;have q1:=wB cR 1 rfl;have q2:=wB cR 2 rfl;have q3:=wB cR 3 rfl;have f0:=xn cR 0;have f1:=xn cR 1;have f2:=xn cR 2;have f3:=xn cR 3)
 refine bodyPost_ret (v:=.tuple #[vW (a+wG-b),.bool (decide (a<b))]) (by have cZ:=afs cR (.int .u64 (wd (a+wG-b) 0)) (.int .u64 (wd (a+wG-b) 1)) (.int .u64 (wd (a+wG-b) 2)) (.int .u64 (wd (a+wG-b) 3));simp[results,results158,go_sem,wB cZ 0 rfl,wB cZ 1 rfl,wB cZ 2 rfl,wB cZ 3 rfl]) rfl ⟨rfl,?_⟩;exact(((((((vY.refl w).alloc _).alloc _).alloc _).trans hb1).set (by omega) _).set (by omega) _ |>.set (by omega) _ |>.set (by omega) _)
open Go.RowKit
theorem KE {P:Program} {g:FuncId} {fn:Func} (hf:P.funcs[g]? = some fn) (hn:(fn.name == "runtime.NumGoroutine")=false) (hb:fn.body.isNone=false) (args:Array Value) (w:World):(callFunc g args).run P w = .ok (.enter g args) w:=by unfold callFunc;have hp:(program).run P w = .ok P w:=rfl;simp only[Sem.run_bind,hp,Result.andThen,hf,hn,hb,Bool.false_eq_true,if_false];rfl
def xW (k:Nat):MapEntry := { key:=.int .u8 (k:Int),val:=.func (.func (290+k)) #[] #[],born:=k }
theorem Tu (w:World) (es:Array MapEntry) (c:Nat) (k:Int) (v:Value) (h:Instr.findNow (.int .u8) (.int .u8 k) es.toList 0=some none) :
  (Instr.mapUpdate 354 (.map (some w.heap.size)) (.int .u8 k) v).run prog (w.alloc (.map es c)) = .ok () (w.alloc (.map (es.push { key:=.int .u8 k,val:=v,born:=c }) (c+1))):=by
 have hb:(w.alloc (.map es c)).heap[w.heap.size]? = some (.map es c):=by show(w.heap.push _)[w.heap.size]? = _;simp
 have hk:prog.underlying 53=some (.int .u8):=by kernel_rfl
 have hm:prog.underlying 354=some (.map 53 352):=by kernel_rfl
 have hc:(Instr.checkKey false 10000 53 (.int .u8 k)).run prog (w.alloc (.map es c)) = .ok () (w.alloc (.map es c)):=MapKept.run_checkKey (k:=.int .u8 k) hk (by simp[MapKept.IsKey]) false 9999
 have hs:(w.alloc (.map es c)).heap.setIfInBounds w.heap.size (.map (es.push { key:=.int .u8 k,val:=v,born:=c }) (c+1))=w.heap.push (.map (es.push { key:=.int .u8 k,val:=v,born:=c }) (c+1)):=by show(w.heap.push _).setIfInBounds w.heap.size _=_;apply Array.ext';simp
 simp[Instr.mapUpdate,run_underlying hm,MapKept.run_getObj_map hb,hc,MapKept.run_findKey hk h,MapKept.run_setObj_map _ hb,Result.andThen,hs];rfl
theorem aga (w:World):Calls prog 278 #[] w λe w'=>e = .returned (.map (some w.heap.size))/\w'=w.alloc (.map #[xW 0,xW 1,xW 2,xW 3,xW 4] 5):=by
 have e0:=Go.run_makeMap_plain (P:=prog) (w:=w) 354;have e1:=Tu w #[] 0 0 (.func (.func 290) #[] #[]) rfl;have e2:=Tu w #[xW 0] 1 1 (.func (.func 291) #[] #[]) rfl;have e3:=Tu w #[xW 0,xW 1] 2 2 (.func (.func 292) #[] #[]) rfl;have e4:=Tu w #[xW 0,xW 1,xW 2] 3 3 (.func (.func 293) #[] #[]) rfl;have e5:=Tu w #[xW 0,xW 1,xW 2,xW 3] 4 4 (.func (.func 294) #[] #[]) rfl;have f1:(#[].push { key:=.int .u8 0,val:=.func (.func 290) #[] #[],born:=0 } : Array MapEntry) = #[xW 0]:=rfl;have f2:(#[xW 0].push { key:=.int .u8 1,val:=.func (.func 291) #[] #[],born:=1 } : Array MapEntry) = #[xW 0,xW 1]:=rfl;have f3:(#[xW 0,xW 1].push { key:=.int .u8 2,val:=.func (.func 292) #[] #[],born:=2 } : Array MapEntry) = #[xW 0,xW 1,xW 2]:=rfl;have f4:(#[xW 0,xW 1,xW 2].push { key:=.int .u8 3,val:=.func (.func 293) #[] #[],born:=3 } : Array MapEntry) = #[xW 0,xW 1,xW 2,xW 3]:=rfl;have f5:(#[xW 0,xW 1,xW 2,xW 3].push { key:=.int .u8 4,val:=.func (.func 294) #[] #[],born:=4 } : Array MapEntry) = #[xW 0,xW 1,xW 2,xW 3,xW 4]:=rfl;rw[f1] at e1;rw[f2] at e2;rw[f3] at e3;rw[f4] at e4;rw[f5] at e5;clear f1 f2 f3 f4 f5
 go_enter func278,ntmps278
 go_wp2
 go_ret
 exact⟨rfl,rfl⟩
theorem aox (w:World) (es:Array MapEntry) (c:Nat) (m:Int) (i:Nat) (v:Value) (h:Instr.findNow (.int .u8) (.int .u8 m) es.toList 0=some (some (i,v))) :
  (Instr.lookup 354 (.map (some w.heap.size)) (.int .u8 m) true).run prog (w.alloc (.map es c)) = .ok (.tuple #[v,.bool true]) (w.alloc (.map es c)):=by
 have hb:(w.alloc (.map es c)).heap[w.heap.size]? = some (.map es c):=by show(w.heap.push _)[w.heap.size]? = _;simp
 have hk:prog.underlying 53=some (.int .u8):=by kernel_rfl
 have hm:prog.underlying 354=some (.map 53 352):=by kernel_rfl
 have hc:(Instr.checkKey es.isEmpty 10000 53 (.int .u8 m)).run prog (w.alloc (.map es c)) = .ok () (w.alloc (.map es c)):=MapKept.run_checkKey (k:=.int .u8 m) hk (by simp[MapKept.IsKey]) _ 9999;simp[Instr.lookup,run_underlying hm,MapKept.run_getObj_map hb,hc,MapKept.run_findKey hk h,Result.andThen]
theorem aoy (w:World) (es:Array MapEntry) (c:Nat) (m:Int) (h:Instr.findNow (.int .u8) (.int .u8 m) es.toList 0=some none) :
  (Instr.lookup 354 (.map (some w.heap.size)) (.int .u8 m) true).run prog (w.alloc (.map es c)) = .ok (.tuple #[.nilFunc,.bool false]) (w.alloc (.map es c)):=by
 have hb:(w.alloc (.map es c)).heap[w.heap.size]? = some (.map es c):=by show(w.heap.push _)[w.heap.size]? = _;simp
 have hk:prog.underlying 53=some (.int .u8):=by kernel_rfl
 have hm:prog.underlying 354=some (.map 53 352):=by kernel_rfl
 have hc:(Instr.checkKey es.isEmpty 10000 53 (.int .u8 m)).run prog (w.alloc (.map es c)) = .ok () (w.alloc (.map es c)):=MapKept.run_checkKey (k:=.int .u8 m) hk (by simp[MapKept.IsKey]) _ 9999;have hi:(prog.info? 352).bind (·.zero)=some .nilFunc:=by kernel_rfl
 have hz:(zeroValue 352).run prog (w.alloc (.map es c)) = .ok .nilFunc (w.alloc (.map es c)):=by
  cases hx:prog.info? 352 with
  | none=>rw[hx] at hi;cases hi
  | some x=>rw[hx] at hi;simp at hi;simp[zeroValue,typeInfo,hx,hi]
 simp[Instr.lookup,run_underlying hm,MapKept.run_getObj_map hb,hc,MapKept.run_findKey hk h,hz,Result.andThen]
abbrev Tv:Array MapEntry:=#[xW 0,xW 1,xW 2,xW 3,xW 4]
theorem aoz {m:Int} (h:m<0\/4<m):Instr.findNow (.int .u8) (.int .u8 m) Tv.toList 0=some none:=by
 have a (j:Int) (hj:0<=j/\j<=4):(m==j)=false:=by rw[beq_eq_false_iff_ne];omega
 simp only[xW,Instr.findNow,Instr.sameNow,if_true];rw[show((0:Nat):Int)=0 from rfl,show((1:Nat):Int)=1 from rfl,show((2:Nat):Int)=2 from rfl,show((3:Nat):Int)=3 from rfl,show((4:Nat):Int)=4 from rfl,a 0 (by omega),a 1 (by omega),a 2 (by omega),a 3 (by omega),a 4 (by omega)]
theorem aoA (m:Int) (neg odd:Bool) (r:Int) (w:World) (hm:m<0\/4<m):Calls prog 243 #[.int .u8 m,.bool neg,.bool odd,.int .u8 r] w λe w'=>e = .returned (.bool false)/\vY w w':=by
 have HR:=Lib.hid aga;have hl:=aoy w Tv 5 m (aoz hm);clear hm
 go_enter func243,ntmps243
 go_wp2_with (go_at_call 278;refine(HR.out _).mono ?_;rintro e w' ⟨rfl,rfl⟩)
 exact bodyPost_ret (v:=.bool false) (by simp[results,results243,go_sem]) rfl ⟨rfl,(vY.refl w).alloc _⟩
def Cg (k:Nat) (neg odd:Bool) (r:Int):Bool:=match k with
 | 0=>(r==3)||((r==2)&&odd)
 | 1=>decide (r>=2)
 | 2 => !neg
 | 3=>neg
 | _=>false
theorem aoB (neg odd:Bool) (r:Int) (w:World):Calls prog 294 #[.bool neg,.bool odd,.int .u8 r] w λe w'=>e = .returned (.bool (Cg 4 neg odd r))/\w'=w:=by
 go_enter func294,ntmps294
 go_wp2
 go_ret
 exact⟨rfl,rfl⟩
theorem aoC (neg odd:Bool) (r:Int) (w:World):Calls prog 293 #[.bool neg,.bool odd,.int .u8 r] w λe w'=>e = .returned (.bool (Cg 3 neg odd r))/\w'=w:=by
 go_enter func293,ntmps293
 go_wp2
 go_ret
 exact⟨rfl,rfl⟩
theorem aoD (neg odd:Bool) (r:Int) (w:World):Calls prog 292 #[.bool neg,.bool odd,.int .u8 r] w λe w'=>e = .returned (.bool (Cg 2 neg odd r))/\w'=w:=by
 go_enter func292,ntmps292
 go_wp2
 go_ret
 exact⟨rfl,rfl⟩
theorem aoE (neg odd:Bool) (r:Int) (w:World):Calls prog 291 #[.bool neg,.bool odd,.int .u8 r] w λe w'=>e = .returned (.bool (Cg 1 neg odd r))/\w'=w:=by
 go_enter func291,ntmps291
 go_wp2
 go_ret
 exact⟨rfl,rfl⟩
theorem aoF (neg odd:Bool) (r:Int) (w:World):Calls prog 290 #[.bool neg,.bool odd,.int .u8 r] w λe w'=>e = .returned (.bool (Cg 0 neg odd r))/\w'=w:=by
 by_cases h3:(r==3)=true
 ·have hb:Cg 0 neg odd r=true:=by simp[Cg,h3]
  rw[hb]
  go_enter func290,ntmps290
  go_wp2
  go_ret
  exact⟨rfl,rfl⟩
 ·have h3:(r==3)=false:=by simpa using h3
  by_cases h2:(r==2)=true
  ·have hb:Cg 0 neg odd r=odd:=by simp[Cg,h3,h2]
   rw[hb]
   go_enter func290,ntmps290
   go_wp2
   go_ret
   exact⟨rfl,rfl⟩
  ·have h2:(r==2)=false:=by simpa using h2
   have hb:Cg 0 neg odd r=false:=by simp[Cg,h3,h2]
   rw[hb]
   go_enter func290,ntmps290
   go_wp2
   go_ret
   exact⟨rfl,rfl⟩
theorem aoG (k:Nat) (hk:k<5) (neg odd:Bool) (r:Int) (w:World):Calls prog 243 #[.int .u8 (k:Int),.bool neg,.bool odd,.int .u8 r] w λe w'=>e = .returned (.bool (decide (r>0)&&(decide (r<=3)&&Cg k neg odd r)))/\vY w w':=by
 have HR:=Lib.hid aga
 have hl:=aox w Tv 5 k k (.func (.func (290+k)) #[] #[]) (by
  rcases(show k=0\/k=1\/k=2\/k=3\/k=4 by omega) with rfl|rfl|rfl|rfl|rfl<;>rfl)
 have HC:=Lib.hid (show ∀ w,Calls prog (290+k) #[.bool neg,.bool odd,.int .u8 r] w λe w'=>e = .returned (.bool (Cg k neg odd r))/\w'=w by
  rcases(show k=0\/k=1\/k=2\/k=3\/k=4 by omega) with rfl|rfl|rfl|rfl|rfl
  ·exact aoF neg odd r
  ·exact aoE neg odd r
  ·exact aoD neg odd r
  ·exact aoC neg odd r
  ·exact aoB neg odd r)
 have hf:(callFunc (290+k) #[.bool neg,.bool odd,.int .u8 r]).run prog (w.alloc (.map Tv 5)) = .ok (.enter (290+k) #[.bool neg,.bool odd,.int .u8 r]) (w.alloc (.map Tv 5)):=by
  rcases(show k=0\/k=1\/k=2\/k=3\/k=4 by omega) with rfl|rfl|rfl|rfl|rfl
  ·exact KE func290 (by kernel_rfl) (by kernel_rfl) _ _
  ·exact KE func291 (by kernel_rfl) (by kernel_rfl) _ _
  ·exact KE func292 (by kernel_rfl) (by kernel_rfl) _ _
  ·exact KE func293 (by kernel_rfl) (by kernel_rfl) _ _
  ·exact KE func294 (by kernel_rfl) (by kernel_rfl) _ _
 generalize 290+k=q at *
 generalize Cg k neg odd r=b at *
 clear hk
 cases h1:decide (r>0) with
 | false =>
  go_enter func243,ntmps243
  go_wp2_with (go_at_call 278;refine(HR.out _).mono ?_;rintro e w' ⟨rfl,rfl⟩)
  exact bodyPost_ret (v:=.bool false) (by simp[results,results243,go_sem]) rfl ⟨rfl,(vY.refl w).alloc _⟩
 | true =>
  cases h2:decide (r<=3) with
  | false =>
   go_enter func243,ntmps243
   go_wp2_with (go_at_call 278;refine(HR.out _).mono ?_;rintro e w' ⟨rfl,rfl⟩)
   exact bodyPost_ret (v:=.bool false) (by simp[results,results243,go_sem]) rfl ⟨rfl,(vY.refl w).alloc _⟩
  | true =>
   go_enter func243,ntmps243
   go_wp2_with (go_at_call 278;refine(HR.out _).mono ?_;rintro e w' ⟨rfl,rfl⟩)
   refine(HC.out _).mono ?_;rintro e w' ⟨rfl,rfl⟩
   go_wp2
   exact bodyPost_ret (v:=.bool b) (by simp[results,results243,go_sem]) rfl ⟨by simp,(vY.refl w).alloc _⟩
def O1 (m:Int) (neg odd:Bool) (r:Int):Bool :=
 decide (r>0)&&(decide (r<=3)&&(if m=0 then Cg 0 neg odd r else if m=1 then Cg 1 neg odd r else if m=2 then Cg 2 neg odd r else if m=3 then Cg 3 neg odd r else false))
theorem aoH (m:Int) (neg odd:Bool) (r:Int) (w:World):Calls prog 243 #[.int .u8 m,.bool neg,.bool odd,.int .u8 r] w λe w'=>e = .returned (.bool (O1 m neg odd r))/\vY w w':=by
 have hit:=λk hk=>aoG k hk neg odd r w
 unfold O1;by_cases h0:m=0
 ·subst h0;simpa using hit 0 (by decide)
 ·by_cases h1:m=1
  ·subst h1;simpa using hit 1 (by decide)
  ·by_cases h2:m=2
   ·subst h2;simpa using hit 2 (by decide)
   ·by_cases h3:m=3
    ·subst h3;simpa using hit 3 (by decide)
    ·rw[if_neg h0,if_neg h1,if_neg h2,if_neg h3,Bool.and_false,Bool.and_false];by_cases h4:m=4
     ·subst h4;simpa [Cg] using hit 4 (by decide)
     ·exact aoA m neg odd r w (by omega)
end Go.Proofs.YtippohicjhilnaaGreatDoor
