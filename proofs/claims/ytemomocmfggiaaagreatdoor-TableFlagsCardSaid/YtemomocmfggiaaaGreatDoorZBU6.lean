import Derived.Test.YtemomocmfggiaaaGreatDoorZAU6
import Derived.Laws.BitsAllLaws
import Derived.WalkKit
import Derived.Shelf.Spec.BitsCarry
import Derived.Shelf.Sort.So_math_bits_Len64In
import Derived.ChangeKeysEq
import Derived.WideMake
import Derived.Lib.Hide
set_option linter.unusedSimpArgs false
set_option linter.unusedVariables false
set_option maxRecDepth 1000000
set_option maxHeartbeats 4000000
namespace Go.Proofs.YtemomocmfggiaaaGreatDoor
def vC:Nat:=18446744073709551616
theorem yE:0<vC:=by decide
theorem Fb:vC=2^64:=by decide
def wd (n i:Nat):Int:=((n/vC^i%vC:Nat):Int)
def zA (x:Int):Prop:=0≤x∧x<(vC:Int)
theorem Er (n i:Nat):zA (wd n i):=by
 unfold zA wd
 exact⟨Int.natCast_nonneg _,Int.ofNat_lt.2 (Nat.mod_lt _ yE)⟩
theorem zA.nat {x:Int} (h:zA x):∃ n:Nat,x=(n:Int)∧n<vC:=⟨x.toNat,(Int.toNat_of_nonneg h.1).symm,by have:=h.2;have:=h.1;omega⟩
abbrev vB (n:Nat):Value:=.agg #[.int .u64 (wd n 1),.int .u64 (wd n 0)]
abbrev vW (n:Nat):Value:=.agg #[.int .u64 (wd n 0),.int .u64 (wd n 1),.int .u64 (wd n 2),.int .u64 (wd n 3)]
def Qb (h l:Nat):Nat:=h*vC+l
theorem ajy {h l:Nat} (hl:l<vC):wd (Qb h l) 0=(l:Int):=by
 unfold wd Qb;rw[Nat.pow_zero,Nat.div_one,Nat.add_comm,Nat.add_mul_mod_self_right,Nat.mod_eq_of_lt hl]
theorem ajz {h l:Nat} (hh:h<vC) (hl:l<vC):wd (Qb h l) 1=(h:Int):=by
 unfold wd Qb
 rw[Nat.pow_one,Nat.add_comm,Nat.add_mul_div_right _ _ yE,Nat.div_eq_of_lt hl,Nat.zero_add,Nat.mod_eq_of_lt hh]
def CE (x y c:Int):Int:=(x+y+c)%(vC:Int)
def zR (x y c:Int):Int:=(x+y+c)/(vC:Int)
def Cb (x y c:Int):Int:=(x+(vC:Int)-y-c)%(vC:Int)
def zJ (x y c:Int):Int:=if x<y+c then 1 else 0
def vF:Nat:=vC*vC
def vL:Nat:=vF*vF
theorem yn:vF=2^128:=by decide
theorem BJ:vL=2^256:=by decide
theorem Es:0<vF:=by decide
theorem abV:0<vL:=by decide
theorem Qc (n i:Nat):n%vC^(i+1)=n%vC^i+vC^i*(n/vC^i%vC):=by
 rw[Nat.pow_succ,Nat.mod_mul]
def zC (a b i:Nat):Nat:=(a%vC^i+b%vC^i)/vC^i
theorem abW (a b:Nat):zC a b 0=0:=by simp[zC,Nat.mod_one]
theorem CG (i:Nat):0<vC^i:=Nat.pow_pos yE
theorem ajA (a b i:Nat):zC a b i≤1:=by
 have h1:=Nat.mod_lt a (CG i)
 have h2:=Nat.mod_lt b (CG i)
 unfold zC
 have:(a%vC^i+b%vC^i)/vC^i<2:=by rw[Nat.div_lt_iff_lt_mul (CG i)];omega
 omega
theorem ajB (a b i:Nat):(a+b)/vC^i=a/vC^i+b/vC^i+zC a b i:=by
 have hp:=CG i
 have ha:=Nat.div_add_mod a (vC^i)
 have hb:=Nat.div_add_mod b (vC^i)
 unfold zC
 generalize vC^i=p at *
 generalize a/p=x at *;generalize b/p=y at *;generalize a%p=r at *;generalize b%p=s at *
 have:a+b=(r+s)+p*(x+y):=by rw[← ha,← hb,Nat.mul_add];omega
 rw[this,Nat.add_mul_div_left _ _ hp];omega
theorem ME (a b i:Nat):CE (wd a i) (wd b i) (zC a b i:Int)=wd (a+b) i:=by
 unfold CE wd
 rw[ajB,← Int.natCast_add,← Int.natCast_add,← Int.natCast_emod]
 congr 1
 simp[Nat.add_mod]
theorem MF (a b i:Nat):zR (wd a i) (wd b i) (zC a b i:Int)=(zC a b (i+1):Int):=by
 unfold zR wd
 rw[← Int.natCast_add,← Int.natCast_add,← Int.natCast_ediv]
 congr 1
 have hp:=CG i
 have e:zC a b (i+1)=(a%vC^i+b%vC^i+vC^i*(a/vC^i%vC+b/vC^i%vC))/vC^i/vC:=by
  unfold zC
  rw[Qc,Qc,Nat.div_div_eq_div_mul,← Nat.pow_succ]
  congr 1
  rw[Nat.mul_add];omega
 rw[e,Nat.add_mul_div_left _ _ hp]
 unfold zC
 congr 1;omega
theorem abX {a b i:Nat} (ha:a<vC^i) (hb:b<vC^i):zC a b i=if vC^i≤a+b then 1 else 0:=by
 unfold zC
 rw[Nat.mod_eq_of_lt ha,Nat.mod_eq_of_lt hb]
 split
 ·have:(a+b)/vC^i=1:=by rw[Nat.div_eq_iff (CG i)];constructor<;>omega
  exact this
 ·exact Nat.div_eq_of_lt (by omega)
def bin (a b i:Nat):Nat:=if a%vC^i<b%vC^i then 1 else 0
theorem abY (a b:Nat):bin a b 0=0:=by simp[bin,Nat.mod_one]
theorem ajC (a b i:Nat):bin a b i≤1:=by unfold bin;split<;>omega
theorem abZ {a b i:Nat} (ha:a<vC^i) (hb:b<vC^i):bin a b i=if a<b then 1 else 0:=by
 unfold bin;rw[Nat.mod_eq_of_lt ha,Nat.mod_eq_of_lt hb]
theorem MG (a b i:Nat):zJ (wd a i) (wd b i) (bin a b i:Int)=(bin a b (i+1):Int):=by
 have hp:=CG i
 have h1:=Nat.mod_lt a hp
 have h2:=Nat.mod_lt b hp
 have h3:bin a b (i+1)=if a/vC^i%vC<b/vC^i%vC+bin a b i then 1 else 0:=by
  unfold bin
  rw[Qc,Qc]
  generalize vC^i=p at *
  generalize a/p%vC=x;generalize b/p%vC=y;generalize a%p=r at *;generalize b%p=s at *
  by_cases hrs:r<s
  ·simp only[hrs,if_true]
   by_cases hxy:x<y+1
   ·rw[if_pos hxy,if_pos]
    have:p*x≤p*y:=Nat.mul_le_mul_left _ (by omega)
    omega
   ·rw[if_neg hxy,if_neg]
    have:p*(y+1)≤p*x:=Nat.mul_le_mul_left _ (by omega)
    rw[Nat.mul_add] at this;omega
  ·simp only[hrs,if_false,Nat.add_zero]
   by_cases hxy:x<y
   ·rw[if_pos hxy,if_pos]
    have:p*(x+1)≤p*y:=Nat.mul_le_mul_left _ (by omega)
    rw[Nat.mul_add] at this;omega
   ·rw[if_neg hxy,if_neg]
    have:p*y≤p*x:=Nat.mul_le_mul_left _ (by omega)
    omega
 unfold zJ wd
 rw[h3,← Int.natCast_add]
 simp only[Int.ofNat_lt]
 split<;>rfl
theorem MH (a b i m:Nat) (hm:i<m) (hb:b≤a+vC^m):Cb (wd a i) (wd b i) (bin a b i:Int)=wd (a+vC^m-b) i:=by
 have hp:=CG i
 have h1:=Nat.mod_lt a hp
 have h2:=Nat.mod_lt b hp
 have e1:=Nat.div_add_mod a (vC^i)
 have e2:=Nat.div_add_mod b (vC^i)
 have e3:vC^m=vC^i*(vC*vC^(m-i-1)):=by
  rw[← Nat.pow_succ',← Nat.pow_add];congr 1;omega
 have e4:(a+vC^m-b)/vC^i=a/vC^i+vC*vC^(m-i-1)-b/vC^i-bin a b i:=by
  rw[e3] at hb ⊢
  unfold bin
  generalize vC^i=p at *
  generalize vC*vC^(m-i-1)=q at *
  generalize a/p=x at *;generalize b/p=y at *;generalize a%p=r at *;generalize b%p=s at *
  have hxy:p*y≤p*(x+q)+r:=by rw[Nat.mul_add];omega
  by_cases hrs:r<s
  ·simp only[hrs,if_true]
   have hlt:y<x+q:=by
    apply Classical.byContradiction
    intro hn
    have:p*(x+q)≤p*y:=Nat.mul_le_mul_left _ (by omega)
    have:p*y+s≤p*(x+q)+r:=by rw[Nat.mul_add];omega
    omega
   have e:a+p*q-b=(p+r-s)+p*(x+q-y-1):=by
    have:p*(x+q)=p*(x+q-y-1)+p*y+p:=by
     rw[show x+q=(x+q-y-1)+y+1 by omega,Nat.mul_add,Nat.mul_add,Nat.mul_one]
     rw[show x+q-y-1+y+1-y-1=x+q-y-1 by omega]
    rw[Nat.mul_add] at this;omega
   rw[e,Nat.add_mul_div_left _ _ hp,Nat.div_eq_of_lt (by omega)];omega
  ·simp only[hrs,if_false,Nat.sub_zero]
   have hle:y≤x+q:=by
    apply Classical.byContradiction
    intro hn
    have:p*(x+q+1)≤p*y:=Nat.mul_le_mul_left _ (by omega)
    rw[Nat.mul_add] at this;omega
   have e:a+p*q-b=(r-s)+p*(x+q-y):=by
    have:p*(x+q)=p*(x+q-y)+p*y:=by rw[← Nat.mul_add];congr 1;omega
    rw[Nat.mul_add] at this;omega
   rw[e,Nat.add_mul_div_left _ _ hp,Nat.div_eq_of_lt (by omega)];omega
 have hle:b/vC^i+bin a b i≤a/vC^i+vC*vC^(m-i-1):=by
  rw[e3] at hb
  unfold bin
  generalize vC^i=p at *
  generalize vC*vC^(m-i-1)=q at *
  generalize a/p=x at *;generalize b/p=y at *;generalize a%p=r at *;generalize b%p=s at *
  apply Classical.byContradiction
  intro hn
  split at hn
  ·have:p*(x+q)≤p*y:=Nat.mul_le_mul_left _ (by omega)
   rw[Nat.mul_add] at this;omega
  ·have:p*(x+q+1)≤p*y:=Nat.mul_le_mul_left _ (by omega)
   rw[Nat.mul_add,Nat.mul_add] at this;omega
 unfold Cb wd
 rw[e4]
 generalize a/vC^i=x at *;generalize b/vC^i=y at *;generalize bin a b i=c at *
 generalize vC^(m-i-1)=t at *
 have hw:=yE
 generalize vC=z at *
 rw[Int.natCast_emod,Int.natCast_emod,Int.natCast_emod]
 rw[show((x+z*t-y-c:Nat):Int)=(x:Int)+(z:Int)*(t:Int)-(y:Int)-(c:Int) by
  have:((z*t:Nat):Int)=(z:Int)*(t:Int):=Int.natCast_mul z t
  omega]
 have e5:=Int.emod_add_mul_ediv (x:Int) (z:Int)
 have e6:=Int.emod_add_mul_ediv (y:Int) (z:Int)
 have e7:(x:Int)%(z:Int)+(z:Int)-(y:Int)%(z:Int)-(c:Int)=((x:Int)+(z:Int)*(t:Int)-(y:Int)-(c:Int))+(z:Int)*(1-(t:Int)-(x:Int)/(z:Int)+(y:Int)/(z:Int)):=by
  simp only[Int.mul_add,Int.mul_sub,Int.mul_one];omega
 rw[e7,Int.add_mul_emod_self_left]
theorem MI (a j k:Nat) (hk:k<64):(a/vC^j%vC).testBit k=a.testBit (64*j+k):=by
 rw[Fb,← Nat.pow_mul,Nat.testBit_mod_two_pow,Nat.testBit_div_two_pow]
 simp[hk,Nat.add_comm]
def Ku (a:Nat) (i:Int):Bool:=decide (0≤i)&&a.testBit i.toNat
theorem ajD {a:Nat} {i:Int} (h:i<0):Ku a i=false:=by simp[Ku];omega
theorem Qd (a i:Nat):Ku a (i:Int)=a.testBit i:=by simp[Ku]
theorem ajE {a:Nat} (ha:a<vF) {i:Int} (h:127<i):Ku a i=false:=by
 have:a.testBit i.toNat=false:=Nat.testBit_lt_two_pow (Nat.lt_of_lt_of_le ha (by rw[yn];exact Nat.pow_le_pow_right (by decide) (by omega)))
 simp[Ku,this]
theorem Hw (n i j:Nat) (h:i<j):wd (n%vC^j) i=wd n i:=by
 unfold wd
 congr 1
 have e:vC^j=vC^i*(vC*vC^(j-i-1)):=by rw[← Nat.pow_succ',← Nat.pow_add];congr 1;omega
 rw[e,Nat.mod_mul_right_div_self,Nat.mod_mul_right_mod]
theorem ab0 (n i:Nat):n%vC^(i+1)=n%vC^i+vC^i*(wd n i).toNat:=by
 rw[Qc];unfold wd;rw[Int.toNat_natCast]
theorem ab1 {a b:Nat} (m:Nat) (h:∀ i,i<m→wd a i=wd b i):a%vC^m=b%vC^m:=by
 induction m with
 | zero=>simp[Nat.mod_one]
 | succ m ih=>rw[ab0,ab0,ih (fun i hi=>h i (by omega)),h m (by omega)]
theorem ab2 {a b:Nat} (ha:a<vF) (hb:b<vF) (h0:wd a 0=wd b 0) (h1:wd a 1=wd b 1):a=b:=by
 have:=ab1 (a:=a) (b:=b) 2 (fun i hi=>by
  have:i=0∨i=1:=by omega
  rcases this with rfl|rfl<;>assumption)
 rw[show vC^2=vF by decide,Nat.mod_eq_of_lt ha,Nat.mod_eq_of_lt hb] at this
 exact this
theorem Wu {a b:Nat} (ha:a<vL) (hb:b<vL) (h0:wd a 0=wd b 0) (h1:wd a 1=wd b 1) (h2:wd a 2=wd b 2) (h3:wd a 3=wd b 3):a=b:=by
 have:=ab1 (a:=a) (b:=b) 4 (fun i hi=>by
  have:i=0∨i=1∨i=2∨i=3:=by omega
  rcases this with rfl|rfl|rfl|rfl<;>assumption)
 rw[show vC^4=vL by decide,Nat.mod_eq_of_lt ha,Nat.mod_eq_of_lt hb] at this
 exact this
theorem CJ (i:Nat):wd 0 i=0:=by simp[wd]
theorem ajF {a:Nat} (ha:a<vF):(wd a 1=0∧wd a 0=0)↔a=0:=by
 constructor
 ·rintro⟨h1,h0⟩;exact ab2 ha (by decide) (by rw[h0,CJ]) (by rw[h1,CJ])
 ·rintro rfl;exact⟨CJ _,CJ _⟩
theorem Et:vC^2=vF:=by decide
theorem Eu:vC^4=vL:=by decide
theorem Qe {a m:Nat} (i:Nat) (ha:a<vC^m) (h:m≤i):wd a i=0:=by
 unfold wd
 rw[Nat.div_eq_of_lt (Nat.lt_of_lt_of_le ha (Nat.pow_le_pow_right yE h))];rfl
theorem Wv {a:Nat} (ha:a<vF):wd a 2=0∧wd a 3=0:=by
 rw[← Et] at ha;exact⟨Qe 2 ha (by omega),Qe 3 ha (by omega)⟩
theorem ab3 (a i j:Nat):wd (a/vC^i) j=wd a (i+j):=by
 unfold wd;rw[Nat.div_div_eq_div_mul,← Nat.pow_add]
theorem Ww (a j:Nat):wd (a/vF) j=wd a (2+j):=by rw[← Et,ab3]
theorem F6 (a j:Nat) (h:j<2):wd (a%vF) j=wd a j:=by rw[← Et,Hw _ _ _ h]
theorem ab4 {a:Nat} (ha:a<vL):a/vF<vF:=by
 rw[Nat.div_lt_iff_lt_mul Es];exact ha
theorem ab5 {h l:Nat} (hl:l<vF):(h*vF+l)/vF=h:=by
 rw[Nat.add_comm,Nat.add_mul_div_right _ _ Es,Nat.div_eq_of_lt hl,Nat.zero_add]
theorem ab6 {h l:Nat} (hl:l<vF):(h*vF+l)%vF=l:=by
 rw[Nat.add_comm,Nat.add_mul_mod_self_right,Nat.mod_eq_of_lt hl]
theorem ajG {h l:Nat} (hl:l<vF):wd (h*vF+l) 0=wd l 0∧wd (h*vF+l) 1=wd l 1∧wd (h*vF+l) 2=wd h 0∧wd (h*vF+l) 3=wd h 1:=by
 refine⟨?_,?_,?_,?_⟩
 ·rw[← F6 (h*vF+l) 0 (by omega),ab6 hl]
 ·rw[← F6 (h*vF+l) 1 (by omega),ab6 hl]
 ·rw[← Ww _ 0,ab5 hl]
 ·rw[← Ww _ 1,ab5 hl]
theorem ajH {a:Nat} (ha:a<vL):(wd a 0=0∧wd a 1=0∧wd a 2=0∧wd a 3=0)↔a=0:=by
 constructor
 ·rintro⟨h0,h1,h2,h3⟩;exact Wu ha (by decide) (by rw[h0,CJ]) (by rw[h1,CJ]) (by rw[h2,CJ]) (by rw[h3,CJ])
 ·rintro rfl;exact⟨CJ _,CJ _,CJ _,CJ _⟩
open Go.RowKit Go.Shelf
theorem ab7 (x y c:Int) (hx:zA x) (hy:zA y) (hc:0≤c∧c≤1) (w:World) :
  (callFunc 225 #[.int .u64 x,.int .u64 y,.int .u64 c]).run Tryz.prog w = .ok (.value (.tuple #[.int .u64 (CE x y c),.int .u64 (zR x y c)])) w:=by
 obtain⟨x,rfl,hx'⟩:=hx.nat
 obtain⟨y,rfl,hy'⟩:=hy.nat
 obtain⟨c,rfl⟩:=Int.eq_ofNat_of_zero_le hc.1
 rw[run_callFunc_extern Tryz.func225 (by kernel_rfl) (by kernel_rfl) (by kernel_rfl) (e:=add64Entry) (by kernel_rfl),run_add64 x y c (by omega) (by omega) (by omega) (by omega)]
 simp only[Result.andThen]
 unfold CE zR vC
 congr 5<;>omega
theorem ab8 (x y c:Int) (hx:zA x) (hy:zA y) (hc:0≤c∧c≤1) (w:World) :
  (callFunc 226 #[.int .u64 x,.int .u64 y,.int .u64 c]).run Tryz.prog w = .ok (.value (.tuple #[.int .u64 (Cb x y c),.int .u64 (zJ x y c)])) w:=by
 obtain⟨x,rfl,hx'⟩:=hx.nat
 obtain⟨y,rfl,hy'⟩:=hy.nat
 obtain⟨c,rfl⟩:=Int.eq_ofNat_of_zero_le hc.1
 have h1:x<18446744073709551616:=hx'
 have h2:y<18446744073709551616:=hy'
 rw[run_callFunc_extern Tryz.func226 (by kernel_rfl) (by kernel_rfl) (by kernel_rfl) (e:=sub64Entry) (by kernel_rfl),run_sub64 x y c (by omega)]
 simp only[Result.andThen]
 have e1:(((x+18446744073709551616-y-c)%18446744073709551616:Nat):Int)=Cb x y c:=by unfold Cb vC;omega
 have e2:((if x<y+c then 1 else 0:Nat):Int)=zJ x y c:=by
  unfold zJ
  by_cases h:x<y+c
  ·rw[if_pos h,if_pos (by omega)];rfl
  ·rw[if_neg h,if_neg (by omega)];rfl
 rw[e1,e2]
theorem ajI (z:Int):bits .and .u64 (z%18446744073709551616) 4294967295=z%18446744073709551616%4294967296:=and_low32 _ (by omega) (by omega)
theorem ajJ {k:IntKind} {a b c d:Int} (h1:a=c) (h2:b=d):Ending.returned (.tuple #[.int k a,.int k b]) = .returned (.tuple #[.int k c,.int k d]):=by rw[h1,h2]
theorem ajK (a b:Int) (w:World) (ha:zA a) (hb:zA b) :
  Calls Tryz.prog 268 #[.int .u64 a,.int .u64 b] w fun e w'=>e = .returned (.tuple #[.int .u64 (a*b/(vC:Int)),.int .u64 (a*b%(vC:Int))])∧w=w':=by
 have HA:=Lib.hid ha;have HB:=Lib.hid hb;clear ha hb
 go_enter Tryz.func268,Tryz.ntmps268
 go_wp2
 go_ret2
 have ha:0≤a∧a<18446744073709551616:=HA.out
 have hb:0≤b∧b<18446744073709551616:=HB.out
 refine⟨ajJ ?_ ?_,rfl⟩
 ·show _=a*b/18446744073709551616
  rw[← mul64_arith a b ha.1 ha.2 hb.1 hb.2]
  simp only[IntKind.wrap_u64,ajI,and_low32 a ha.1 ha.2,and_low32 b hb.1 hb.2]
 ·show _=a*b%18446744073709551616
  rw[← IntKind.wrap_u64]
theorem ab9 {a b:Nat} (ha:a<vC) (hb:b<vC):(a:Int)*(b:Int)/(vC:Int)=wd (a*b) 1∧(a:Int)*(b:Int)%(vC:Int)=wd (a*b) 0:=by
 rw[← Int.natCast_mul,← Int.natCast_ediv,← Int.natCast_emod]
 unfold wd
 have hlt:a*b/vC<vC:=by
  rw[Nat.div_lt_iff_lt_mul yE]
  exact Nat.mul_lt_mul'' ha hb
 exact⟨by rw[Nat.pow_one,Nat.mod_eq_of_lt hlt],by rw[Nat.pow_zero,Nat.div_one]⟩
theorem ajL (x : Int) (w : World) (hx : zA x) :
    Calls Tryz.prog 273 #[.int .u64 x] w fun e w' => e = .returned (.int .i64 (Lib.bitLen x.toNat : Int)) ∧ w = w' := by
  have h0 : 0 ≤ x := hx.1
  have h1 : x ≤ 18446744073709551615 := by have h : x < 18446744073709551616 := hx.2; omega
  clear hx
  go_enter Tryz.func273, Tryz.ntmps273
  go_wp2
  all_goals first
    | (go_ret; refine ⟨congrArg Ending.returned (congrArg (Value.int .i64) ?_), rfl⟩; go_light)
    | (exfalso
       go_light
       have hs := len8tab_size
       omega)
  all_goals first
    | (rw [len8_get (x / 4294967296 / 65536 / 256) _, Lib.len8_of (x / 4294967296 / 65536 / 256) (by omega) (by omega)]
       have e : (x / 4294967296 / 65536 / 256).toNat = x.toNat / 72057594037927936 := by omega
       have l := Lib.bitLen_le8' (x / 4294967296 / 65536 / 256) (by omega) (by omega)
       have s := Lib.bitLen_shift56 x.toNat (by omega) (by omega)
       rw [e] at l ⊢
       exact wrap_add 56 _ _ (by decide) l s)
    | (rw [len8_get (x / 4294967296 / 65536) _, Lib.len8_of (x / 4294967296 / 65536) (by omega) (by omega)]
       have e : (x / 4294967296 / 65536).toNat = x.toNat / 281474976710656 := by omega
       have l := Lib.bitLen_le8' (x / 4294967296 / 65536) (by omega) (by omega)
       have s := Lib.bitLen_shift48 x.toNat (by omega) (by omega)
       rw [e] at l ⊢
       exact wrap_add 48 _ _ (by decide) l s)
    | (rw [len8_get (x / 4294967296 / 256) _, Lib.len8_of (x / 4294967296 / 256) (by omega) (by omega)]
       have e : (x / 4294967296 / 256).toNat = x.toNat / 1099511627776 := by omega
       have l := Lib.bitLen_le8' (x / 4294967296 / 256) (by omega) (by omega)
       have s := Lib.bitLen_shift40 x.toNat (by omega) (by omega)
       rw [e] at l ⊢
       exact wrap_add 40 _ _ (by decide) l s)
    | (rw [len8_get (x / 4294967296) _, Lib.len8_of (x / 4294967296) (by omega) (by omega)]
       have e : (x / 4294967296).toNat = x.toNat / 4294967296 := by omega
       have l := Lib.bitLen_le8' (x / 4294967296) (by omega) (by omega)
       have s := Lib.bitLen_shift32 x.toNat (by omega) (by omega)
       rw [e] at l ⊢
       exact wrap_add 32 _ _ (by decide) l s)
    | (rw [len8_get (x / 65536 / 256) _, Lib.len8_of (x / 65536 / 256) (by omega) (by omega)]
       have e : (x / 65536 / 256).toNat = x.toNat / 16777216 := by omega
       have l := Lib.bitLen_le8' (x / 65536 / 256) (by omega) (by omega)
       have s := Lib.bitLen_shift24 x.toNat (by omega) (by omega)
       rw [e] at l ⊢
       exact wrap_add 24 _ _ (by decide) l s)
    | (rw [len8_get (x / 65536) _, Lib.len8_of (x / 65536) (by omega) (by omega)]
       have e : (x / 65536).toNat = x.toNat / 65536 := by omega
       have l := Lib.bitLen_le8' (x / 65536) (by omega) (by omega)
       have s := Lib.bitLen_shift16 x.toNat (by omega) (by omega)
       rw [e] at l ⊢
       exact wrap_add 16 _ _ (by decide) l s)
    | (rw [len8_get (x / 256) _, Lib.len8_of (x / 256) (by omega) (by omega)]
       have e : (x / 256).toNat = x.toNat / 256 := by omega
       have l := Lib.bitLen_le8' (x / 256) (by omega) (by omega)
       have s := Lib.bitLen_shift8 x.toNat (by omega) (by omega)
       rw [e] at l ⊢
       exact wrap_add 8 _ _ (by decide) l s)
    | (rw [len8_get (x) _, Lib.len8_of (x) (by omega) (by omega)]
       have l := Lib.bitLen_le8' (x) (by omega) (by omega)
       first | exact wrap_wrap _ l | exact wrap_add 0 _ _ (by decide) l (by omega) | exact wrap_one _ l)
open Go.RowKit Go.Shelf
theorem SB (w:World) {e:TypeId} (hu:Tryz.prog.underlying e=some (.int .u64)) (xs:Array Value) (i:Nat) (v:Value) (h:xs[i]? = some v):(part e xs i).run Tryz.prog w = .ok v w:=by
 simp[part,isAgg,run_underlying hu,h]
theorem ajM (a b:Nat) (ha:a<vL) (hb:b<vL):(wd a 0==wd b 0&&(wd a 1==wd b 1&&(wd a 2==wd b 2&&wd a 3==wd b 3)))=decide (a=b):=by
 by_cases h:a=b
 ·subst h;simp
 ·rw[decide_eq_false h]
  cases hx:(wd a 0==wd b 0&&(wd a 1==wd b 1&&(wd a 2==wd b 2&&wd a 3==wd b 3))) with
  | false=>rfl
  | true =>
   simp only[Bool.and_eq_true,beq_iff_eq] at hx
   exact absurd (Wu ha hb hx.1 hx.2.1 hx.2.2.1 hx.2.2.2) h
open Go.RowKit Go.Shelf
attribute [local go_sem] Oper.semAt_some
def upto:Nat→List (Fin 4)
 | 0=>[]
 | k+1=>if h:k<4 then upto k ++ [⟨k,h⟩] else upto k
theorem aca {k:Nat} (hk:k<4):upto (k+1)=upto k ++ [⟨k,hk⟩]:=by simp[upto,hk]
theorem acb:∀ k,k≤4→(upto k).length=k
 | 0,_=>rfl
 | k+1,h=>by rw[aca (by omega),List.length_append,acb k (by omega)];rfl
theorem ajN (F:Fence) (n:Nat) (h7:F.fn 272) (hro:F.round=none) (hn:1≤n) (l:Nat) (J Jx:List (Fin 4)→World→Prop)
  (hY:∀ pre x W,J pre W→pre.length<4→YieldAt F (n-1) Tryz.prog l #[.int .i64 (x.1:Int)] W fun e W' =>
   (e = .returned (.bool true)∧J (pre ++ [x]) W'∧True)∨(e = .returned (.bool false)∧Jx (pre ++ [x]) W'))
  (W:World) (h0:J [] W) :
  CallsIn F n Tryz.prog 272 #[.func (.yield l) #[] #[]] W fun e W'=>(∃ v,e = .returned v) ∧
   ((∃ ys,ys=upto 4∧J ys W')∨(∃ pre,True∧Jx pre W')):=by
 refine callsIn_of_wp Tryz.func272 rfl h7 ?_ hro
 simp only[Tryz.ntmps272,List.size_toArray,List.length_cons,List.length_nil,Nat.reduceAdd,Nat.reduceSub,Array.replicate_succ,Array.replicate_zero,List.push_toArray,List.append_toArray,List.nil_append,List.cons_append]
 gi_wp2
 gi_loopw [2] (fun i wr=>∃ k:Nat,k≤4∧i = .int .i64 k∧J (upto k) wr)
  (fun i _=>4-(intOf i).toNat)
 case atStart=>exact⟨0,Nat.zero_le _,rfl,h0⟩
 case round =>
  obtain⟨k,hk,rfl,hJs⟩:=hrel
  by_cases hlt:k<4
  ·have Hs:=Lib.hid (aca hlt)
   have hlen:=acb k hk
   obtain⟨fn,tmps,assign,body,hy,hR⟩:=hY _ ⟨k,hlt⟩ wr hJs (by omega)
   dsimp only at hy
   gi_wp2
   refine hR.mono ?_
   rintro e W3 (⟨rfl,hJ3,-⟩|⟨rfl,hJx3⟩)
   ·gi_wp2
    go_roundw
    case rel=>exact⟨k+1,by omega,by simp,by rw[Hs.out];exact hJ3⟩
    case measure=>simp[intOf];omega
   ·gi_wp2
    go_end0
    exact⟨⟨_,rfl⟩,.inr ⟨_,trivial,hJx3⟩⟩
  ·obtain rfl:k=4:=by omega
   gi_wp2
   refine⟨fun _ h=>(by cases h),?_⟩
   gi_wp2
   go_end0
   exact⟨⟨_,rfl⟩,.inl ⟨_,rfl,hJs⟩⟩
theorem ajO (F:Fence) (n:Nat) (h7:F.fn 272) (hro:F.round=none) (hn:1≤n) (w:World) :
  SeqStopsK F n Tryz.prog 272 #[] (fun x:Fin 4=>#[Value.int .i64 (x.1:Int)]) (fun _ _=>True) (fun ys=>ys=upto 4)
   (fun _=>True) 4 w:=fun l J Jx W hW _ _ hY h0 =>
 ajN F n h7 hro hn l J Jx hY W h0
theorem ajP (F:Fence) (n:Nat) (h5:F.fn 261) (hro:F.round=none) (w:World) :
  CallsIn F n Tryz.prog 261 #[] w fun e w'=>e = .returned (.func (.func 272) #[] #[])∧w'=w:=by
 refine callsIn_of_wp Tryz.func261 rfl h5 ?_ hro
 simp only[Tryz.ntmps261,List.size_toArray,List.length_nil,Nat.reduceSub,Array.replicate_succ,Array.replicate_zero,List.push_toArray,List.append_toArray,List.nil_append]
 gi_wp2
 go_ret
 exact⟨rfl,rfl⟩
structure SF (one:Nat) (f g:Int→Int→Int→Int):Prop where
 run:∀ x y c w,zA x→zA y→0≤c∧c≤1→(callFunc one #[.int .u64 x,.int .u64 y,.int .u64 c]).run Tryz.prog w = .ok (.value (.tuple #[.int .u64 (f x y c),.int .u64 (g x y c)])) w
 carry:∀ x y c,zA x→zA y→0≤c∧c≤1→0≤g x y c∧g x y c≤1
def yM (f g:Int→Int→Int→Int) (a b:Nat) (pre:List (Fin 4)):Array Value×Int :=
 pre.foldl (fun s x=>(s.1.setIfInBounds x.1 (.int .u64 (f (wd a x.1) (wd b x.1) s.2)),g (wd a x.1) (wd b x.1) s.2)) (#[.int .u64 0,.int .u64 0,.int .u64 0,.int .u64 0],0)
theorem acd (f g:Int→Int→Int→Int) (a b:Nat) (pre:List (Fin 4)) (x:Fin 4) :
  yM f g a b (pre ++ [x])=((yM f g a b pre).1.setIfInBounds x.1 (.int .u64 (f (wd a x.1) (wd b x.1) (yM f g a b pre).2)),g (wd a x.1) (wd b x.1) (yM f g a b pre).2):=by simp[yM]
theorem ajQ (f g:Int→Int→Int→Int) (a b:Nat) (pre:List (Fin 4)):(yM f g a b pre).1.size=4:=by
 unfold yM
 suffices h:∀ (pre:List (Fin 4)) (s:Array Value×Int),s.1.size=4→(pre.foldl (fun s x=>(s.1.setIfInBounds x.1 (Value.int .u64 (f (wd a x.1) (wd b x.1) s.2)),g (wd a x.1) (wd b x.1) s.2)) s).1.size=4 from h pre _ rfl
 intro pre
 induction pre with
 | nil=>intro s h;exact h
 | cons x xs ih=>intro s h;exact ih _ (by simp[h])
theorem ajR {one:Nat} {f g:Int→Int→Int→Int} (hc:SF one f g) (a b:Nat) (pre:List (Fin 4)):0≤(yM f g a b pre).2∧(yM f g a b pre).2≤1:=by
 unfold yM
 suffices h:∀ (pre:List (Fin 4)) (s:Array Value×Int),0≤s.2∧s.2≤1→0≤(pre.foldl (fun s x=>(s.1.setIfInBounds x.1 (Value.int .u64 (f (wd a x.1) (wd b x.1) s.2)),g (wd a x.1) (wd b x.1) s.2)) s).2∧(pre.foldl (fun s x=>(s.1.setIfInBounds x.1 (Value.int .u64 (f (wd a x.1) (wd b x.1) s.2)),g (wd a x.1) (wd b x.1) s.2)) s).2≤1 from h pre _ (by decide)
 intro pre
 induction pre with
 | nil=>intro s h;exact h
 | cons x xs ih=>intro s h;exact ih _ (hc.carry _ _ _ (Er _ _) (Er _ _) h)
theorem CK {β:Type} (B:Nat) (t:TypeId) (f:β→Array Value):Own (fun s W=>W.heap[B]? = some (.cells (f s) t (0,0))):=fun s X Y row hs hg hrow=>by
 have hlt:=I7 hs
 have hb:=hg.block B hlt (fun e'=>by obtain⟨o,ho,hc⟩:=hrow B e'.symm;rw[show X.heap[B]? = _ from hs] at ho;cases ho;cases hc)
 exact hb.trans hs
theorem Qf (a:Nat) (x:Fin 4):(#[Value.int .u64 (wd a 0),.int .u64 (wd a 1),.int .u64 (wd a 2),.int .u64 (wd a 3)])[x.1]? = some (.int .u64 (wd a x.1)) :=
 match x with|0=>rfl|1=>rfl|2=>rfl|3=>rfl
theorem ace {one:Nat} {f g:Int→Int→Int→Int} (hC:SF one f g) (F:Fence) (n:Nat) (h1:F.fn 224) (h2:F.fn 261) (h3:F.fn 272) (h4:F.fn one) (hro:F.round=none) (hn:3≤n) (a b:Nat) (w:World) (r0 r1 r2 r3 rc:Int)
  (hst:yM f g a b (upto 4)=(#[.int .u64 r0,.int .u64 r1,.int .u64 r2,.int .u64 r3],rc)) :
  CallsIn F n Tryz.prog 224 #[vW a,vW b,.func (.func one) #[] #[]] w fun e w'=>e = .returned (.tuple #[.agg #[.int .u64 r0,.int .u64 r1,.int .u64 r2,.int .u64 r3],.bool (rc != 0)])∧vI w w':=by
 have hn1:1≤n:=by omega
 refine callsIn_of_wp_marks Tryz.func224 rfl h1 ?_ hro
 simp only[Tryz.ntmps224,List.size_toArray,List.length_cons,List.length_nil,Nat.reduceAdd,Nat.reduceSub,Array.replicate_succ,Array.replicate_zero,List.push_toArray,List.append_toArray,List.nil_append,List.cons_append]
 gi_wp2_with (gi_at_call 261;refine(ajP F (n-1) h2 hro _).mono ?_;rintro e w' ⟨rfl,rfl⟩)
 have hB0:Below w.heap.size w ((((((w.alloc (.cells #[.int .u64 (wd a 0),.int .u64 (wd a 1),.int .u64 (wd a 2),.int .u64 (wd a 3)] 177)).alloc (.cells #[.int .u64 (wd b 0),.int .u64 (wd b 1),.int .u64 (wd b 2),.int .u64 (wd b 3)] 177)).alloc (.cells #[.func (.func one) #[] #[]] 272)).alloc (.cells #[.int .u64 0,.int .u64 0,.int .u64 0,.int .u64 0] 177)).alloc (.cells #[.int .u64 0,.int .u64 0,.int .u64 0,.int .u64 0] 177)).alloc (.cells #[.int .u64 0] 22)):=((((((vI.refl w).alloc _).alloc _).alloc _).alloc _).alloc _).alloc _
 refine wpIn_rangeFunc_ownG hro hn1 (gf:=272) (lb:=#[]) rfl h3 (enters_of Tryz.func272 (by kernel_rfl) rfl)
  (ajO F (n-1) h3 hro (by omega) _) (fun _ _=>trivial) (fun _ _ _ _ _ _ _ _=>trivial) (Below.refl _ _) (fun _=>rfl)
  (fun pre W=>(((W.heap[w.heap.size]? = some (.cells #[.int .u64 (wd a 0),.int .u64 (wd a 1),.int .u64 (wd a 2),.int .u64 (wd a 3)] 177 (0,0))∧W.heap[w.heap.size+1]? = some (.cells #[.int .u64 (wd b 0),.int .u64 (wd b 1),.int .u64 (wd b 2),.int .u64 (wd b 3)] 177 (0,0))) ∧
   (W.heap[w.heap.size+1+1]? = some (.cells #[.func (.func one) #[] #[]] 272 (0,0))∧W.heap[w.heap.size+1+1+1]? = some (.cells #[.int .u64 0,.int .u64 0,.int .u64 0,.int .u64 0] 177 (0,0)))) ∧
   (W.heap[w.heap.size+1+1+1+1]? = some (.cells (yM f g a b pre).1 177 (0,0))∧W.heap[w.heap.size+1+1+1+1+1]? = some (.cells #[.int .u64 (yM f g a b pre).2] 22 (0,0))))∧Below w.heap.size w W)
  (fun _ _ _=>False)
  (OwnFrom.and (OwnFrom.and (OwnFrom.and (OwnFrom.and (Own.from (CK _ _ _) _) (Own.from (CK _ _ _) _)) (OwnFrom.and (Own.from (CK _ _ _) _) (Own.from (CK _ _ _) _))) (OwnFrom.and (Own.from (CK _ _ _) _) (Own.from (CK _ _ (fun pre=>#[.int .u64 (yM f g a b pre).2])) _))) (ownFrom_below (Nat.le_refl _) (by simp;omega)))
  (fun _ _ _ _ _ hs _ _=>hs)
  ⟨⟨⟨⟨heap_alloc (heap_alloc (heap_alloc (heap_alloc (heap_alloc (Hd _ _) _) _) _) _) _,heap_alloc (heap_alloc (heap_alloc (heap_alloc (PX _ _ _) _) _) _) _⟩,heap_alloc (heap_alloc (heap_alloc (DL _ _ _ _) _) _) _,heap_alloc (heap_alloc (Sa _ _ _ _ _) _) _⟩,heap_alloc (Sb _ _ _ _ _ _) _,Sc _ _ _ _ _ _ _⟩,hB0⟩
  (fun x => { tmps:=#[vW a,vW b,.func (.func one) #[] #[],.pointer (some ⟨w.heap.size,0,none⟩),.pointer (some ⟨w.heap.size+1,0,none⟩),.pointer (some ⟨w.heap.size+1+1,0,none⟩),.pointer (some ⟨w.heap.size+1+1+1,0,none⟩),.bool false,.pointer (some ⟨w.heap.size+1+1+1+1,0,none⟩),.pointer (some ⟨w.heap.size+1+1+1+1+1,0,none⟩),.int .i64 (x.1:Int),.func (.func 272) #[] #[],.int .i64 (x.1:Int),undef,undef,undef,undef,undef,undef,undef,undef,undef,undef,undef,undef,undef,undef,undef,undef,undef],defers:=[] }) ?assign ?body ?done ?stop
 case assign =>
  intro l x W K hK
  gi_wp2
  exact hK
 case body =>
  rintro l pre x V ⟨⟨⟨⟨bA,bB⟩,bF,bR⟩,bO,bC⟩,hB⟩ hlt
  have hx:(x.1:Int)<4:=by have:=x.2;omega
  obtain⟨v0,hv0⟩:∃ v,(yM f g a b pre).1[x.1]? = some v:=⟨_,Array.getElem?_eq_getElem (by rw[ajQ];exact x.2)⟩
  gi_wp2
  refine I6 (fun(L:Nat→Bool) (A:Act) (W:World)=>∃ u14 u15 u16 u17 u18 u19 u20 u21 u22 u23 u13 u24 u25 u26:Value,A=⟨#[vW a,vW b,Value.func (Fn.func one) #[] #[],Value.pointer (some { block:=w.heap.size,off:=0 }),Value.pointer (some { block:=w.heap.size+1,off:=0 }),Value.pointer (some { block:=w.heap.size+1+1,off:=0 }),Value.pointer (some { block:=w.heap.size+1+1+1,off:=0 }),Value.bool false,Value.pointer (some { block:=w.heap.size+1+1+1+1,off:=0 }),Value.pointer (some { block:=w.heap.size+1+1+1+1+1,off:=0 }),Value.int IntKind.i64 ↑↑x,Value.func (Fn.func 272) #[] #[],Value.int IntKind.i64 ↑↑x,u13,u14,u15,u16,u17,u18,u19,u20,u21,u22,u23,u24,u25,u26,undef,undef,undef],[]⟩∧vI w W∧KeepsOthers V W∧W.heap[w.heap.size]? = some (.cells #[.int .u64 (wd a 0),.int .u64 (wd a 1),.int .u64 (wd a 2),.int .u64 (wd a 3)] 177 (0,0))∧W.heap[w.heap.size+1]? = some (.cells #[.int .u64 (wd b 0),.int .u64 (wd b 1),.int .u64 (wd b 2),.int .u64 (wd b 3)] 177 (0,0))∧W.heap[w.heap.size+1+1]? = some (.cells #[.func (.func one) #[] #[]] 272 (0,0))∧W.heap[w.heap.size+1+1+1]? = some (.cells #[.int .u64 0,.int .u64 0,.int .u64 0,.int .u64 0] 177 (0,0))∧W.heap[w.heap.size+1+1+1+1]? = some (.cells (bif L 14 then((yM f g a b pre).1.setIfInBounds x.1 (.int .u64 (f (wd a x.1) (wd b x.1) (yM f g a b pre).2))) else(yM f g a b pre).1) 177 (0,0))∧W.heap[w.heap.size+1+1+1+1+1]? = some (.cells (bif L 15 then #[.int .u64 (g (wd a x.1) (wd b x.1) (yM f g a b pre).2)] else #[.int .u64 (yM f g a b pre).2]) 22 (0,0))∧(L 0=true→u14=Value.int IntKind.i64 ↑↑x)∧(L 1=true→u15 = .func (.func one) #[] #[])∧(L 2=true→u16=Value.int IntKind.i64 ↑↑x)∧(L 3=true→u17 = .pointer (some ⟨w.heap.size,x.1,none⟩))∧(L 4=true→u18 = .int .u64 (wd a x.1))∧(L 5=true→u19=Value.int IntKind.i64 ↑↑x)∧(L 6=true→u20 = .pointer (some ⟨w.heap.size+1,x.1,none⟩))∧(L 7=true→u21 = .int .u64 (wd b x.1))∧(L 8=true→u22 = .int .u64 (yM f g a b pre).2)∧(L 9=true→u23 = .tuple #[.int .u64 (f (wd a x.1) (wd b x.1) (yM f g a b pre).2),.int .u64 (g (wd a x.1) (wd b x.1) (yM f g a b pre).2)])∧(L 10=true→u13 = .tuple #[.int .u64 (f (wd a x.1) (wd b x.1) (yM f g a b pre).2),.int .u64 (g (wd a x.1) (wd b x.1) (yM f g a b pre).2)])∧(L 11=true→u24 = .int .u64 (f (wd a x.1) (wd b x.1) (yM f g a b pre).2))∧(L 12=true→u25 = .int .u64 (g (wd a x.1) (wd b x.1) (yM f g a b pre).2))∧(L 13=true→u26 = .pointer (some ⟨w.heap.size+1+1+1+1,x.1,none⟩))) (by kernel_rfl) (by kernel_rfl) ?h0 ⟨?s0,?s1,?s2,?s3,?s4,?s5,?s6,?s7,?s8,?s9,?s10,?s11,?s12,?s13,?s14,?s15,trivial⟩ ?hd
  case h0 =>
   exact⟨_,_,_,_,_,_,_,_,_,_,_,_,_,_,rfl,(vI.drew hB),⟨Nat.le_refl _,fun _ _ hk _=>hk⟩,bA,bB,bF,bR,bO,bC,fun h=>absurd h Bool.false_ne_true,fun h=>absurd h Bool.false_ne_true,fun h=>absurd h Bool.false_ne_true,fun h=>absurd h Bool.false_ne_true,fun h=>absurd h Bool.false_ne_true,fun h=>absurd h Bool.false_ne_true,fun h=>absurd h Bool.false_ne_true,fun h=>absurd h Bool.false_ne_true,fun h=>absurd h Bool.false_ne_true,fun h=>absurd h Bool.false_ne_true,fun h=>absurd h Bool.false_ne_true,fun h=>absurd h Bool.false_ne_true,fun h=>absurd h Bool.false_ne_true,fun h=>absurd h Bool.false_ne_true⟩
  case s0 =>
   rintro L _ W K ⟨u14,u15,u16,u17,u18,u19,u20,u21,u22,u23,u13,u24,u25,u26,rfl,hb,x0,c3,c4,c5,c6,c8,c9,f0,f1,f2,f3,f4,f5,f6,f7,f8,f9,f10,f11,f12,f13⟩ hL hD hN hK
   refine wU (wT rfl) ?_
   go_simp
   refine hK _ _ ⟨_,_,_,_,_,_,_,_,_,_,_,_,_,_,rfl,hb,x0,c3,c4,c5,c6,c8,c9,fun _=>rfl,f1,f2,f3,f4,f5,f6,f7,f8,f9,f10,f11,f12,f13⟩
  case s1 =>
   rintro L _ W K ⟨u14,u15,u16,u17,u18,u19,u20,u21,u22,u23,u13,u24,u25,u26,rfl,hb,x0,c3,c4,c5,c6,c8,c9,f0,f1,f2,f3,f4,f5,f6,f7,f8,f9,f10,f11,f12,f13⟩ hL hD hN hK
   refine wU (wT rfl) ?_
   have e0:=vN c5 0 rfl
   have hf:=wN c5 0
   go_simp
   refine hK _ _ ⟨_,_,_,_,_,_,_,_,_,_,_,_,_,_,rfl,hb,x0,c3,c4,c5,c6,c8,c9,f0,fun _=>rfl,f2,f3,f4,f5,f6,f7,f8,f9,f10,f11,f12,f13⟩
  case s2 =>
   rintro L _ W K ⟨u14,u15,u16,u17,u18,u19,u20,u21,u22,u23,u13,u24,u25,u26,rfl,hb,x0,c3,c4,c5,c6,c8,c9,f0,f1,f2,f3,f4,f5,f6,f7,f8,f9,f10,f11,f12,f13⟩ hL hD hN hK
   refine wU (wT rfl) ?_
   go_simp
   refine hK _ _ ⟨_,_,_,_,_,_,_,_,_,_,_,_,_,_,rfl,hb,x0,c3,c4,c5,c6,c8,c9,f0,f1,fun _=>rfl,f3,f4,f5,f6,f7,f8,f9,f10,f11,f12,f13⟩
  case s3 =>
   rintro L _ W K ⟨u14,u15,u16,u17,u18,u19,u20,u21,u22,u23,u13,u24,u25,u26,rfl,hb,x0,c3,c4,c5,c6,c8,c9,f0,f1,f2,f3,f4,f5,f6,f7,f8,f9,f10,f11,f12,f13⟩ hL hD hN hK
   obtain rfl:=f2 (hD 2 (by kernel_rfl))
   refine wU (wT rfl) ?_
   go_simp
   refine hK _ _ ⟨_,_,_,_,_,_,_,_,_,_,_,_,_,_,rfl,hb,x0,c3,c4,c5,c6,c8,c9,f0,f1,f2,fun _=>rfl,f4,f5,f6,f7,f8,f9,f10,f11,f12,f13⟩
  case s4 =>
   rintro L _ W K ⟨u14,u15,u16,u17,u18,u19,u20,u21,u22,u23,u13,u24,u25,u26,rfl,hb,x0,c3,c4,c5,c6,c8,c9,f0,f1,f2,f3,f4,f5,f6,f7,f8,f9,f10,f11,f12,f13⟩ hL hD hN hK
   obtain rfl:=f3 (hD 3 (by kernel_rfl))
   refine wU (wT rfl) ?_
   have e0:=vN c3 x.1 (Qf a x)
   have hf:=wN c3 x.1
   go_simp
   refine hK _ _ ⟨_,_,_,_,_,_,_,_,_,_,_,_,_,_,rfl,hb,x0,c3,c4,c5,c6,c8,c9,f0,f1,f2,f3,fun _=>rfl,f5,f6,f7,f8,f9,f10,f11,f12,f13⟩
  case s5 =>
   rintro L _ W K ⟨u14,u15,u16,u17,u18,u19,u20,u21,u22,u23,u13,u24,u25,u26,rfl,hb,x0,c3,c4,c5,c6,c8,c9,f0,f1,f2,f3,f4,f5,f6,f7,f8,f9,f10,f11,f12,f13⟩ hL hD hN hK
   refine wU (wT rfl) ?_
   go_simp
   refine hK _ _ ⟨_,_,_,_,_,_,_,_,_,_,_,_,_,_,rfl,hb,x0,c3,c4,c5,c6,c8,c9,f0,f1,f2,f3,f4,fun _=>rfl,f6,f7,f8,f9,f10,f11,f12,f13⟩
  case s6 =>
   rintro L _ W K ⟨u14,u15,u16,u17,u18,u19,u20,u21,u22,u23,u13,u24,u25,u26,rfl,hb,x0,c3,c4,c5,c6,c8,c9,f0,f1,f2,f3,f4,f5,f6,f7,f8,f9,f10,f11,f12,f13⟩ hL hD hN hK
   obtain rfl:=f5 (hD 5 (by kernel_rfl))
   refine wU (wT rfl) ?_
   go_simp
   refine hK _ _ ⟨_,_,_,_,_,_,_,_,_,_,_,_,_,_,rfl,hb,x0,c3,c4,c5,c6,c8,c9,f0,f1,f2,f3,f4,f5,fun _=>rfl,f7,f8,f9,f10,f11,f12,f13⟩
  case s7 =>
   rintro L _ W K ⟨u14,u15,u16,u17,u18,u19,u20,u21,u22,u23,u13,u24,u25,u26,rfl,hb,x0,c3,c4,c5,c6,c8,c9,f0,f1,f2,f3,f4,f5,f6,f7,f8,f9,f10,f11,f12,f13⟩ hL hD hN hK
   obtain rfl:=f6 (hD 6 (by kernel_rfl))
   refine wU (wT rfl) ?_
   have e0:=vN c4 x.1 (Qf b x)
   have hf:=wN c4 x.1
   go_simp
   refine hK _ _ ⟨_,_,_,_,_,_,_,_,_,_,_,_,_,_,rfl,hb,x0,c3,c4,c5,c6,c8,c9,f0,f1,f2,f3,f4,f5,f6,fun _=>rfl,f8,f9,f10,f11,f12,f13⟩
  case s8 =>
   rintro L _ W K ⟨u14,u15,u16,u17,u18,u19,u20,u21,u22,u23,u13,u24,u25,u26,rfl,hb,x0,c3,c4,c5,c6,c8,c9,f0,f1,f2,f3,f4,f5,f6,f7,f8,f9,f10,f11,f12,f13⟩ hL hD hN hK
   refine wU (wT rfl) ?_
   have hz:L 15=false:=hN 15 _ rfl (by kernel_rfl)
   have d9:=c9
   rw[hz] at d9
   have e0:=vN d9 0 rfl
   have hf:=wN d9 0
   go_simp
   refine hK _ _ ⟨_,_,_,_,_,_,_,_,_,_,_,_,_,_,rfl,hb,x0,c3,c4,c5,c6,c8,c9,f0,f1,f2,f3,f4,f5,f6,f7,fun _=>rfl,f9,f10,f11,f12,f13⟩
  case s9 =>
   rintro L _ W K ⟨u14,u15,u16,u17,u18,u19,u20,u21,u22,u23,u13,u24,u25,u26,rfl,hb,x0,c3,c4,c5,c6,c8,c9,f0,f1,f2,f3,f4,f5,f6,f7,f8,f9,f10,f11,f12,f13⟩ hL hD hN hK
   obtain rfl:=f1 (hD 1 (by kernel_rfl))
   obtain rfl:=f4 (hD 4 (by kernel_rfl))
   obtain rfl:=f7 (hD 7 (by kernel_rfl))
   obtain rfl:=f8 (hD 8 (by kernel_rfl))
   refine wU (wT rfl) ?_
   have hr:=fun w=>hC.run (wd a x.1) (wd b x.1) (yM f g a b pre).2 w (Er _ _) (Er _ _) (ajR hC a b pre)
   go_simp
   refine hK _ _ ⟨_,_,_,_,_,_,_,_,_,_,_,_,_,_,rfl,hb,x0,c3,c4,c5,c6,c8,c9,f0,f1,f2,f3,f4,f5,f6,f7,f8,fun _=>rfl,f10,f11,f12,f13⟩
  case s10 =>
   rintro L _ W K ⟨u14,u15,u16,u17,u18,u19,u20,u21,u22,u23,u13,u24,u25,u26,rfl,hb,x0,c3,c4,c5,c6,c8,c9,f0,f1,f2,f3,f4,f5,f6,f7,f8,f9,f10,f11,f12,f13⟩ hL hD hN hK
   obtain rfl:=f9 (hD 9 (by kernel_rfl))
   refine wU (wT rfl) ?_
   go_simp
   refine hK _ _ ⟨_,_,_,_,_,_,_,_,_,_,_,_,_,_,rfl,hb,x0,c3,c4,c5,c6,c8,c9,f0,f1,f2,f3,f4,f5,f6,f7,f8,f9,fun _=>rfl,f11,f12,f13⟩
  case s11 =>
   rintro L _ W K ⟨u14,u15,u16,u17,u18,u19,u20,u21,u22,u23,u13,u24,u25,u26,rfl,hb,x0,c3,c4,c5,c6,c8,c9,f0,f1,f2,f3,f4,f5,f6,f7,f8,f9,f10,f11,f12,f13⟩ hL hD hN hK
   obtain rfl:=f10 (hD 10 (by kernel_rfl))
   refine wU (wT rfl) ?_
   go_simp
   refine hK _ _ ⟨_,_,_,_,_,_,_,_,_,_,_,_,_,_,rfl,hb,x0,c3,c4,c5,c6,c8,c9,f0,f1,f2,f3,f4,f5,f6,f7,f8,f9,f10,fun _=>rfl,f12,f13⟩
  case s12 =>
   rintro L _ W K ⟨u14,u15,u16,u17,u18,u19,u20,u21,u22,u23,u13,u24,u25,u26,rfl,hb,x0,c3,c4,c5,c6,c8,c9,f0,f1,f2,f3,f4,f5,f6,f7,f8,f9,f10,f11,f12,f13⟩ hL hD hN hK
   obtain rfl:=f10 (hD 10 (by kernel_rfl))
   refine wU (wT rfl) ?_
   go_simp
   refine hK _ _ ⟨_,_,_,_,_,_,_,_,_,_,_,_,_,_,rfl,hb,x0,c3,c4,c5,c6,c8,c9,f0,f1,f2,f3,f4,f5,f6,f7,f8,f9,f10,f11,fun _=>rfl,f13⟩
  case s13 =>
   rintro L _ W K ⟨u14,u15,u16,u17,u18,u19,u20,u21,u22,u23,u13,u24,u25,u26,rfl,hb,x0,c3,c4,c5,c6,c8,c9,f0,f1,f2,f3,f4,f5,f6,f7,f8,f9,f10,f11,f12,f13⟩ hL hD hN hK
   obtain rfl:=f0 (hD 0 (by kernel_rfl))
   refine wU (wT rfl) ?_
   go_simp
   refine hK _ _ ⟨_,_,_,_,_,_,_,_,_,_,_,_,_,_,rfl,hb,x0,c3,c4,c5,c6,c8,c9,f0,f1,f2,f3,f4,f5,f6,f7,f8,f9,f10,f11,f12,fun _=>rfl⟩
  case s14 =>
   rintro L _ W K ⟨u14,u15,u16,u17,u18,u19,u20,u21,u22,u23,u13,u24,u25,u26,rfl,hb,x0,c3,c4,c5,c6,c8,c9,f0,f1,f2,f3,f4,f5,f6,f7,f8,f9,f10,f11,f12,f13⟩ hL hD hN hK
   obtain rfl:=f13 (hD 13 (by kernel_rfl))
   obtain rfl:=f11 (hD 11 (by kernel_rfl))
   refine wU (wT rfl) ?_
   have hz:L 14=false:=hL
   rw[hz] at c8
   have e0:=vN c8 x.1 (hv0)
   have h0:=wN c8 x.1
   go_simp
   refine hK _ _ ⟨_,_,_,_,_,_,_,_,_,_,_,_,_,_,rfl,(vI.set hb (by omega) _),(x0.trans (KeepsOthers.setCell _ _ _)),(vY c3 _ _ (show w.heap.size≠w.heap.size+1+1+1+1 by omega)),(vY c4 _ _ (show w.heap.size+1≠w.heap.size+1+1+1+1 by omega)),(vY c5 _ _ (show w.heap.size+1+1≠w.heap.size+1+1+1+1 by omega)),(vY c6 _ _ (show w.heap.size+1+1+1≠w.heap.size+1+1+1+1 by omega)),(heap_set c8 _),(vY c9 _ _ (show w.heap.size+1+1+1+1+1≠w.heap.size+1+1+1+1 by omega)),f0,f1,f2,f3,f4,f5,f6,f7,f8,f9,f10,f11,f12,f13⟩
  case s15 =>
   rintro L _ W K ⟨u14,u15,u16,u17,u18,u19,u20,u21,u22,u23,u13,u24,u25,u26,rfl,hb,x0,c3,c4,c5,c6,c8,c9,f0,f1,f2,f3,f4,f5,f6,f7,f8,f9,f10,f11,f12,f13⟩ hL hD hN hK
   obtain rfl:=f12 (hD 12 (by kernel_rfl))
   refine wU (wT rfl) ?_
   have hz:L 15=false:=hL
   rw[hz] at c9
   have e0:=vN c9 0 (rfl)
   have h0:=wN c9 0
   go_simp
   refine hK _ _ ⟨_,_,_,_,_,_,_,_,_,_,_,_,_,_,rfl,(vI.set hb (by omega) _),(x0.trans (KeepsOthers.setCell _ _ _)),(vY c3 _ _ (show w.heap.size≠w.heap.size+1+1+1+1+1 by omega)),(vY c4 _ _ (show w.heap.size+1≠w.heap.size+1+1+1+1+1 by omega)),(vY c5 _ _ (show w.heap.size+1+1≠w.heap.size+1+1+1+1+1 by omega)),(vY c6 _ _ (show w.heap.size+1+1+1≠w.heap.size+1+1+1+1+1 by omega)),(vY c8 _ _ (show w.heap.size+1+1+1+1≠w.heap.size+1+1+1+1+1 by omega)),(heap_set c9 _),f0,f1,f2,f3,f4,f5,f6,f7,f8,f9,f10,f11,f12,f13⟩
  case hd =>
   rintro L _ W ⟨u14,u15,u16,u17,u18,u19,u20,u21,u22,u23,u13,u24,u25,u26,rfl,hb,x0,c3,c4,c5,c6,c8,c9,f0,f1,f2,f3,f4,f5,f6,f7,f8,f9,f10,f11,f12,f13⟩ hall
   rw[hall 14 (by decide)] at c8
   rw[hall 15 (by decide)] at c9
   obtain rfl:=f0 (hall 0 (by decide))
   obtain rfl:=f1 (hall 1 (by decide))
   obtain rfl:=f2 (hall 2 (by decide))
   obtain rfl:=f3 (hall 3 (by decide))
   obtain rfl:=f4 (hall 4 (by decide))
   obtain rfl:=f5 (hall 5 (by decide))
   obtain rfl:=f6 (hall 6 (by decide))
   obtain rfl:=f7 (hall 7 (by decide))
   obtain rfl:=f8 (hall 8 (by decide))
   obtain rfl:=f9 (hall 9 (by decide))
   obtain rfl:=f10 (hall 10 (by decide))
   obtain rfl:=f11 (hall 11 (by decide))
   obtain rfl:=f12 (hall 12 (by decide))
   obtain rfl:=f13 (hall 13 (by decide))
   gi_wp2
   exact⟨x0.from _,trivial,⟨⟨⟨⟨c3,c4⟩,c5,c6⟩,by rw[acd];exact c8,by rw[acd];exact c9⟩,hb⟩⟩
 case done =>
  rintro D ys V hD rfl ⟨⟨⟨⟨bA,bB⟩,bF,bR⟩,bO,bC⟩,hB⟩ hK
  rw[hst] at bO bC
  have hD':w.heap.size+1+1+1+1+1+1≤D:=by first|exact hD|simpa using hD
  gi_wp2
  refine I6 (fun(L:Nat→Bool) (A:Act) (W:World)=>∃ u27 u28 u29 u7:Value,A=⟨#[vW a,vW b,Value.func (Fn.func one) #[] #[],Value.pointer (some { block:=w.heap.size,off:=0 }),Value.pointer (some { block:=w.heap.size+1,off:=0 }),Value.pointer (some { block:=w.heap.size+1+1,off:=0 }),Value.pointer (some { block:=w.heap.size+1+1+1,off:=0 }),u7,Value.pointer (some { block:=w.heap.size+1+1+1+1,off:=0 }),Value.pointer (some { block:=w.heap.size+1+1+1+1+1,off:=0 }),undef,Value.func (Fn.func 272) #[] #[],undef,undef,undef,undef,undef,undef,undef,undef,undef,undef,undef,undef,undef,undef,undef,u27,u28,u29],[{ target:=Target.collected D,args:=#[] }]⟩∧vI w W∧W.heap[D]? = some (.deferred (some []))∧W.heap[w.heap.size+1+1+1]? = some (.cells (bif L 3 then #[.int .u64 r0,.int .u64 r1,.int .u64 r2,.int .u64 r3] else #[.int .u64 0,.int .u64 0,.int .u64 0,.int .u64 0]) 177 (0,0))∧W.heap[w.heap.size+1+1+1+1]? = some (.cells #[.int .u64 r0,.int .u64 r1,.int .u64 r2,.int .u64 r3] 177 (0,0))∧W.heap[w.heap.size+1+1+1+1+1]? = some (.cells #[.int .u64 rc] 22 (0,0))∧(L 0=true→u27 = .agg #[.int .u64 r0,.int .u64 r1,.int .u64 r2,.int .u64 r3])∧(L 1=true→u28 = .int .u64 rc)∧(L 2=true→u29 = .bool (rc != 0))∧(L 4=true→u7 = .bool (rc != 0))) (by kernel_rfl) (by kernel_rfl) ?h0 ⟨?s0,?s1,?s2,?s3,?s4,trivial⟩ ?hd
  case h0 =>
   exact⟨_,_,_,_,rfl,(vI.drew hB),hK,bR,bO,bC,fun h=>absurd h Bool.false_ne_true,fun h=>absurd h Bool.false_ne_true,fun h=>absurd h Bool.false_ne_true,fun h=>absurd h Bool.false_ne_true⟩
  case s0 =>
   rintro L _ W K ⟨u27,u28,u29,u7,rfl,hb,x0,c6,c8,c9,f0,f1,f2,f4⟩ hL hD hN hK
   refine wU (wT rfl) ?_
   have e0:=vN c8 0 rfl
   have e1:=vN c8 1 rfl
   have e2:=vN c8 2 rfl
   have e3:=vN c8 3 rfl
   have hf:=wN c8 0
   go_simp
   refine hK _ _ ⟨_,_,_,_,rfl,hb,x0,c6,c8,c9,fun _=>rfl,f1,f2,f4⟩
  case s1 =>
   rintro L _ W K ⟨u27,u28,u29,u7,rfl,hb,x0,c6,c8,c9,f0,f1,f2,f4⟩ hL hD hN hK
   refine wU (wT rfl) ?_
   have e0:=vN c9 0 rfl
   have hf:=wN c9 0
   go_simp
   refine hK _ _ ⟨_,_,_,_,rfl,hb,x0,c6,c8,c9,f0,fun _=>rfl,f2,f4⟩
  case s2 =>
   rintro L _ W K ⟨u27,u28,u29,u7,rfl,hb,x0,c6,c8,c9,f0,f1,f2,f4⟩ hL hD hN hK
   obtain rfl:=f1 (hD 1 (by kernel_rfl))
   refine wU (wT rfl) ?_
   go_simp
   refine hK _ _ ⟨_,_,_,_,rfl,hb,x0,c6,c8,c9,f0,f1,fun _=>rfl,f4⟩
  case s3 =>
   rintro L _ W K ⟨u27,u28,u29,u7,rfl,hb,x0,c6,c8,c9,f0,f1,f2,f4⟩ hL hD hN hK
   obtain rfl:=f0 (hD 0 (by kernel_rfl))
   refine wU (wT rfl) ?_
   have hz:L 3=false:=hL
   rw[hz] at c6
   have e0:=vN c6 0 (rfl)
   have h0:=wN c6 0
   have e1:=vN c6 1 (rfl)
   have h1:=wN c6 1
   have e2:=vN c6 2 (rfl)
   have h2:=wN c6 2
   have e3:=vN c6 3 (rfl)
   have h3:=wN c6 3
   go_simp
   refine hK _ _ ⟨_,_,_,_,rfl,(vI.set (vI.set (vI.set (vI.set hb (by omega) _) (by omega) _) (by omega) _) (by omega) _),(vY (vY (vY (vY x0 _ _ (by show D≠w.heap.size+1+1+1;omega)) _ _ (by show D≠w.heap.size+1+1+1;omega)) _ _ (by show D≠w.heap.size+1+1+1;omega)) _ _ (by show D≠w.heap.size+1+1+1;omega)),(heap_set (heap_set (heap_set (heap_set c6 _) _) _) _),(vY (vY (vY (vY c8 _ _ (show w.heap.size+1+1+1+1≠w.heap.size+1+1+1 by omega)) _ _ (show w.heap.size+1+1+1+1≠w.heap.size+1+1+1 by omega)) _ _ (show w.heap.size+1+1+1+1≠w.heap.size+1+1+1 by omega)) _ _ (show w.heap.size+1+1+1+1≠w.heap.size+1+1+1 by omega)),(vY (vY (vY (vY c9 _ _ (show w.heap.size+1+1+1+1+1≠w.heap.size+1+1+1 by omega)) _ _ (show w.heap.size+1+1+1+1+1≠w.heap.size+1+1+1 by omega)) _ _ (show w.heap.size+1+1+1+1+1≠w.heap.size+1+1+1 by omega)) _ _ (show w.heap.size+1+1+1+1+1≠w.heap.size+1+1+1 by omega)),f0,f1,f2,f4⟩
  case s4 =>
   rintro L _ W K ⟨u27,u28,u29,u7,rfl,hb,x0,c6,c8,c9,f0,f1,f2,f4⟩ hL hD hN hK
   obtain rfl:=f2 (hD 2 (by kernel_rfl))
   refine wU (wT rfl) ?_
   go_simp
   refine hK _ _ ⟨_,_,_,_,rfl,hb,x0,c6,c8,c9,f0,f1,f2,fun _=>rfl⟩
  case hd =>
   rintro L _ W ⟨u27,u28,u29,u7,rfl,hb,x0,c6,c8,c9,f0,f1,f2,f4⟩ hall
   rw[hall 3 (by decide)] at c6
   obtain rfl:=f0 (hall 0 (by decide))
   obtain rfl:=f1 (hall 1 (by decide))
   obtain rfl:=f2 (hall 2 (by decide))
   obtain rfl:=f4 (hall 4 (by decide))
   gi_wp2
   refine⟨by simp,.inl ⟨_,_,rfl,run_takeDeferred x0,?_⟩⟩
   have cR:(W.putObj D (.deferred none)).heap[w.heap.size+1+1+1]? = _:=(World.putObj_heap_other (by omega)).trans c6
   have q0:=vN cR 0 rfl
   have q1:=vN cR 1 rfl
   have q2:=vN cR 2 rfl
   have q3:=vN cR 3 rfl
   exact⟨_,by simp[results,Tryz.results224,go_sem,q0,q1,q2,q3],rfl,Below.trans hb (belowK_b (w:=w) (Nat.le_refl _) W D _ _ (by omega) x0 rfl rfl)⟩
 case stop =>
  rintro D c pre W _ _ h _
  exact h.elim
open Go.RowKit Go.Shelf
theorem ajS (a b i:Nat):(0:Int)≤(zC a b i:Int)∧(zC a b i:Int)≤1:=by have:=ajA a b i;omega
theorem ajT (a b i:Nat):(0:Int)≤(bin a b i:Int)∧(bin a b i:Int)≤1:=by have:=ajC a b i;omega
theorem ajU:SF 225 CE zR where
 run x y c w hx hy hc:=ab7 x y c hx hy hc w
 carry x y c hx hy hc:=by
  obtain⟨x,rfl,hx'⟩:=hx.nat
  obtain⟨y,rfl,hy'⟩:=hy.nat
  obtain⟨c,rfl⟩:=Int.eq_ofNat_of_zero_le hc.1
  unfold zR vC
  unfold vC at hx' hy'
  omega
theorem ajV:SF 226 Cb zJ where
 run x y c w hx hy hc:=ab8 x y c hx hy hc w
 carry x y c hx hy hc:=by unfold zJ;split<;>omega
theorem ajW (a b:Nat):yM CE zR a b (upto 4)=(#[.int .u64 (wd (a+b) 0),.int .u64 (wd (a+b) 1),.int .u64 (wd (a+b) 2),.int .u64 (wd (a+b) 3)],(zC a b 4:Int)):=by
 have e0:=ME a b 0;have e1:=ME a b 1;have e2:=ME a b 2;have e3:=ME a b 3
 have c0:=MF a b 0;have c1:=MF a b 1;have c2:=MF a b 2;have c3:=MF a b 3
 rw[abW] at e0 c0
 show(#[Value.int .u64 (CE (wd a 0) (wd b 0) 0),.int .u64 (CE (wd a 1) (wd b 1) (zR (wd a 0) (wd b 0) 0)),.int .u64 (CE (wd a 2) (wd b 2) (zR (wd a 1) (wd b 1) (zR (wd a 0) (wd b 0) 0))),.int .u64 (CE (wd a 3) (wd b 3) (zR (wd a 2) (wd b 2) (zR (wd a 1) (wd b 1) (zR (wd a 0) (wd b 0) 0))))],zR (wd a 3) (wd b 3) (zR (wd a 2) (wd b 2) (zR (wd a 1) (wd b 1) (zR (wd a 0) (wd b 0) 0))))=_
 rw[show((0:Nat):Int)=0 from rfl] at e0 c0
 rw[c0,c1,c2,c3,e0,e1,e2,e3]
theorem ajX (a b:Nat) (hb:b<vL):yM Cb zJ a b (upto 4)=(#[.int .u64 (wd (a+vL-b) 0),.int .u64 (wd (a+vL-b) 1),.int .u64 (wd (a+vL-b) 2),.int .u64 (wd (a+vL-b) 3)],(bin a b 4:Int)):=by
 have hb':b≤a+vC^4:=by rw[Eu];omega
 have e0:=MH a b 0 4 (by omega) hb';have e1:=MH a b 1 4 (by omega) hb';have e2:=MH a b 2 4 (by omega) hb';have e3:=MH a b 3 4 (by omega) hb'
 have c0:=MG a b 0;have c1:=MG a b 1;have c2:=MG a b 2;have c3:=MG a b 3
 rw[abY] at e0 c0
 rw[Eu] at e0 e1 e2 e3
 show(#[Value.int .u64 (Cb (wd a 0) (wd b 0) 0),.int .u64 (Cb (wd a 1) (wd b 1) (zJ (wd a 0) (wd b 0) 0)),.int .u64 (Cb (wd a 2) (wd b 2) (zJ (wd a 1) (wd b 1) (zJ (wd a 0) (wd b 0) 0))),.int .u64 (Cb (wd a 3) (wd b 3) (zJ (wd a 2) (wd b 2) (zJ (wd a 1) (wd b 1) (zJ (wd a 0) (wd b 0) 0))))],zJ (wd a 3) (wd b 3) (zJ (wd a 2) (wd b 2) (zJ (wd a 1) (wd b 1) (zJ (wd a 0) (wd b 0) 0))))=_
 rw[show((0:Nat):Int)=0 from rfl] at e0 c0
 rw[c0,c1,c2,c3,e0,e1,e2,e3]
theorem ajY (a b:Nat) (w:World) (ha:a<vL) (hb:b<vL) :
  Calls Tryz.prog 160 #[vW a,vW b] w fun e w'=>e = .returned (.tuple #[vW (a+b),.bool (decide (vL≤a+b))])∧vI w w':=by
 have h2:(((zC a b 4:Nat):Int) != 0)=decide (vL≤a+b):=by
  rw[abX (i:=4) (by rw[Eu];exact ha) (by rw[Eu];exact hb),Eu]
  split<;>simp_all
 have hc:=fun w=>(callsIn_wide (n:=3)).1 (ace ajU Fence.wide 3 trivial trivial trivial trivial rfl (by omega) a b w _ _ _ _ _ (ajW a b))
 rw[h2] at hc
 have HC:=Lib.hid hc
 clear hc h2
 go_enter Tryz.func160,Tryz.ntmps160
 go_wp2_with (go_at_call 224;refine(HC.out _).mono ?_;rintro e w1 ⟨rfl,hb1⟩;have cR:=xu (DL _ _ _ _) hb1;have q0:=vN cR 0 rfl;have q1:=vN cR 1 rfl;have q2:=vN cR 2 rfl;have q3:=vN cR 3 rfl;have f0:=wN cR 0;have f1:=wN cR 1;have f2:=wN cR 2;have f3:=wN cR 3)
 refine bodyPost_ret (v:=.tuple #[vW (a+b),.bool (decide (vL≤a+b))]) (by have cZ:=abx cR (.int .u64 (wd (a+b) 0)) (.int .u64 (wd (a+b) 1)) (.int .u64 (wd (a+b) 2)) (.int .u64 (wd (a+b) 3));simp[results,Tryz.results160,go_sem,vN cZ 0 rfl,vN cZ 1 rfl,vN cZ 2 rfl,vN cZ 3 rfl]) rfl ⟨rfl,?_⟩
 exact(((((((vI.refl w).alloc _).alloc _).alloc _).trans hb1).set (by omega) _).set (by omega) _ |>.set (by omega) _ |>.set (by omega) _)
theorem ajZ (a b:Nat) (w:World) (ha:a<vL) (hb:b<vL) :
  Calls Tryz.prog 161 #[vW a,vW b] w fun e w'=>e = .returned (.tuple #[vW (a+vL-b),.bool (decide (a<b))])∧vI w w':=by
 have h2:(((bin a b 4:Nat):Int) != 0)=decide (a<b):=by
  rw[abZ (i:=4) (by rw[Eu];exact ha) (by rw[Eu];exact hb)]
  split<;>simp_all
 have hc:=fun w=>(callsIn_wide (n:=3)).1 (ace ajV Fence.wide 3 trivial trivial trivial trivial rfl (by omega) a b w _ _ _ _ _ (ajX a b hb))
 rw[h2] at hc
 have HC:=Lib.hid hc
 clear hc h2
 go_enter Tryz.func161,Tryz.ntmps161
 go_wp2_with (go_at_call 224;refine(HC.out _).mono ?_;rintro e w1 ⟨rfl,hb1⟩;have cR:=xu (DL _ _ _ _) hb1;have q0:=vN cR 0 rfl;have q1:=vN cR 1 rfl;have q2:=vN cR 2 rfl;have q3:=vN cR 3 rfl;have f0:=wN cR 0;have f1:=wN cR 1;have f2:=wN cR 2;have f3:=wN cR 3)
 refine bodyPost_ret (v:=.tuple #[vW (a+vL-b),.bool (decide (a<b))]) (by have cZ:=abx cR (.int .u64 (wd (a+vL-b) 0)) (.int .u64 (wd (a+vL-b) 1)) (.int .u64 (wd (a+vL-b) 2)) (.int .u64 (wd (a+vL-b) 3));simp[results,Tryz.results161,go_sem,vN cZ 0 rfl,vN cZ 1 rfl,vN cZ 2 rfl,vN cZ 3 rfl]) rfl ⟨rfl,?_⟩
 exact(((((((vI.refl w).alloc _).alloc _).alloc _).trans hb1).set (by omega) _).set (by omega) _ |>.set (by omega) _ |>.set (by omega) _)
open Go.RowKit
theorem Kv {P:Program} {g:FuncId} {fn:Func} (hf:P.funcs[g]? = some fn) (hn:(fn.name == "runtime.NumGoroutine")=false) (hb:fn.body.isNone=false) (args:Array Value) (w:World):(callFunc g args).run P w = .ok (.enter g args) w:=by
 unfold callFunc
 have hp:(program).run P w = .ok P w:=rfl
 simp only[Sem.run_bind,hp,Result.andThen,hf,hn,hb,Bool.false_eq_true,if_false]
 rfl
def xH (k:Nat):MapEntry := { key:=.int .u8 (k:Int),val:=.func (.func (274+k)) #[] #[],born:=k }
theorem Qg (w:World) (es:Array MapEntry) (c:Nat) (k:Int) (v:Value) (h:Instr.findNow (.int .u8) (.int .u8 k) es.toList 0=some none) :
  (Instr.mapUpdate 318 (.map (some w.heap.size)) (.int .u8 k) v).run Tryz.prog (w.alloc (.map es c)) = .ok () (w.alloc (.map (es.push { key:=.int .u8 k,val:=v,born:=c }) (c+1))):=by
 have hb:(w.alloc (.map es c)).heap[w.heap.size]? = some (.map es c):=by show(w.heap.push _)[w.heap.size]? = _;simp
 have hk:Tryz.prog.underlying 59=some (.int .u8):=by kernel_rfl
 have hm:Tryz.prog.underlying 318=some (.map 59 316):=by kernel_rfl
 have hc:(Instr.checkKey false 10000 59 (.int .u8 k)).run Tryz.prog (w.alloc (.map es c)) = .ok () (w.alloc (.map es c)):=MapKept.run_checkKey (k:=.int .u8 k) hk (by simp[MapKept.IsKey]) false 9999
 have hs:(w.alloc (.map es c)).heap.setIfInBounds w.heap.size (.map (es.push { key:=.int .u8 k,val:=v,born:=c }) (c+1))=w.heap.push (.map (es.push { key:=.int .u8 k,val:=v,born:=c }) (c+1)):=by
  show(w.heap.push _).setIfInBounds w.heap.size _=_
  apply Array.ext'
  simp
 simp[Instr.mapUpdate,run_underlying hm,MapKept.run_getObj_map hb,hc,MapKept.run_findKey hk h,MapKept.run_setObj_map _ hb,Result.andThen,hs]
 rfl
theorem acf (w:World):Calls Tryz.prog 271 #[] w fun e w'=>e = .returned (.map (some w.heap.size))∧w'=w.alloc (.map #[xH 0,xH 1,xH 2,xH 3,xH 4] 5):=by
 have e0:=Go.run_makeMap_plain (P:=Tryz.prog) (w:=w) 318
 have e1:=Qg w #[] 0 0 (.func (.func 274) #[] #[]) rfl
 have e2:=Qg w #[xH 0] 1 1 (.func (.func 275) #[] #[]) rfl
 have e3:=Qg w #[xH 0,xH 1] 2 2 (.func (.func 276) #[] #[]) rfl
 have e4:=Qg w #[xH 0,xH 1,xH 2] 3 3 (.func (.func 277) #[] #[]) rfl
 have e5:=Qg w #[xH 0,xH 1,xH 2,xH 3] 4 4 (.func (.func 278) #[] #[]) rfl
 have f1:(#[].push { key:=.int .u8 0,val:=.func (.func 274) #[] #[],born:=0 } : Array MapEntry) = #[xH 0]:=rfl
 have f2:(#[xH 0].push { key:=.int .u8 1,val:=.func (.func 275) #[] #[],born:=1 } : Array MapEntry) = #[xH 0,xH 1]:=rfl
 have f3:(#[xH 0,xH 1].push { key:=.int .u8 2,val:=.func (.func 276) #[] #[],born:=2 } : Array MapEntry) = #[xH 0,xH 1,xH 2]:=rfl
 have f4:(#[xH 0,xH 1,xH 2].push { key:=.int .u8 3,val:=.func (.func 277) #[] #[],born:=3 } : Array MapEntry) = #[xH 0,xH 1,xH 2,xH 3]:=rfl
 have f5:(#[xH 0,xH 1,xH 2,xH 3].push { key:=.int .u8 4,val:=.func (.func 278) #[] #[],born:=4 } : Array MapEntry) = #[xH 0,xH 1,xH 2,xH 3,xH 4]:=rfl
 rw[f1] at e1;rw[f2] at e2;rw[f3] at e3;rw[f4] at e4;rw[f5] at e5
 clear f1 f2 f3 f4 f5
 go_enter Tryz.func271,Tryz.ntmps271
 go_wp2
 go_ret
 exact⟨rfl,rfl⟩
theorem aj0 (w:World) (es:Array MapEntry) (c:Nat) (m:Int) (i:Nat) (v:Value) (h:Instr.findNow (.int .u8) (.int .u8 m) es.toList 0=some (some (i,v))) :
  (Instr.lookup 318 (.map (some w.heap.size)) (.int .u8 m) true).run Tryz.prog (w.alloc (.map es c)) = .ok (.tuple #[v,.bool true]) (w.alloc (.map es c)):=by
 have hb:(w.alloc (.map es c)).heap[w.heap.size]? = some (.map es c):=by show(w.heap.push _)[w.heap.size]? = _;simp
 have hk:Tryz.prog.underlying 59=some (.int .u8):=by kernel_rfl
 have hm:Tryz.prog.underlying 318=some (.map 59 316):=by kernel_rfl
 have hc:(Instr.checkKey es.isEmpty 10000 59 (.int .u8 m)).run Tryz.prog (w.alloc (.map es c)) = .ok () (w.alloc (.map es c)):=MapKept.run_checkKey (k:=.int .u8 m) hk (by simp[MapKept.IsKey]) _ 9999
 simp[Instr.lookup,run_underlying hm,MapKept.run_getObj_map hb,hc,MapKept.run_findKey hk h,Result.andThen]
theorem aj1 (w:World) (es:Array MapEntry) (c:Nat) (m:Int) (h:Instr.findNow (.int .u8) (.int .u8 m) es.toList 0=some none) :
  (Instr.lookup 318 (.map (some w.heap.size)) (.int .u8 m) true).run Tryz.prog (w.alloc (.map es c)) = .ok (.tuple #[.nilFunc,.bool false]) (w.alloc (.map es c)):=by
 have hb:(w.alloc (.map es c)).heap[w.heap.size]? = some (.map es c):=by show(w.heap.push _)[w.heap.size]? = _;simp
 have hk:Tryz.prog.underlying 59=some (.int .u8):=by kernel_rfl
 have hm:Tryz.prog.underlying 318=some (.map 59 316):=by kernel_rfl
 have hc:(Instr.checkKey es.isEmpty 10000 59 (.int .u8 m)).run Tryz.prog (w.alloc (.map es c)) = .ok () (w.alloc (.map es c)):=MapKept.run_checkKey (k:=.int .u8 m) hk (by simp[MapKept.IsKey]) _ 9999
 have hi:(Tryz.prog.info? 316).bind (·.zero)=some .nilFunc:=by kernel_rfl
 have hz:(zeroValue 316).run Tryz.prog (w.alloc (.map es c)) = .ok .nilFunc (w.alloc (.map es c)):=by
  cases hx:Tryz.prog.info? 316 with
  | none=>rw[hx] at hi;cases hi
  | some x=>rw[hx] at hi;simp at hi;simp[zeroValue,typeInfo,hx,hi]
 simp[Instr.lookup,run_underlying hm,MapKept.run_getObj_map hb,hc,MapKept.run_findKey hk h,hz,Result.andThen]
abbrev Qh:Array MapEntry:=#[xH 0,xH 1,xH 2,xH 3,xH 4]
theorem aj2 {m:Int} (h:m<0∨4<m):Instr.findNow (.int .u8) (.int .u8 m) Qh.toList 0=some none:=by
 have a (j:Int) (hj:0≤j∧j≤4):(m==j)=false:=by rw[beq_eq_false_iff_ne];omega
 simp only[xH,Instr.findNow,Instr.sameNow,if_true]
 rw[show((0:Nat):Int)=0 from rfl,show((1:Nat):Int)=1 from rfl,show((2:Nat):Int)=2 from rfl,show((3:Nat):Int)=3 from rfl,show((4:Nat):Int)=4 from rfl,a 0 (by omega),a 1 (by omega),a 2 (by omega),a 3 (by omega),a 4 (by omega)]
theorem aj3 (m:Int) (neg odd:Bool) (r:Int) (w:World) (hm:m<0∨4<m):Calls Tryz.prog 251 #[.int .u8 m,.bool neg,.bool odd,.int .u8 r] w fun e w'=>e = .returned (.bool false)∧vI w w':=by
 have HR:=Lib.hid acf
 have hl:=aj1 w Qh 5 m (aj2 hm)
 clear hm
 go_enter Tryz.func251,Tryz.ntmps251
 go_wp2_with (go_at_call 271;refine(HR.out _).mono ?_;rintro e w' ⟨rfl,rfl⟩)
 exact bodyPost_ret (v:=.bool false) (by simp[results,Tryz.results251,go_sem]) rfl ⟨rfl,(vI.refl w).alloc _⟩
def Bd (k:Nat) (neg odd:Bool) (r:Int):Bool:=match k with
 | 0=>(r==3)||((r==2)&&odd)
 | 1=>decide (r≥2)
 | 2 => !neg
 | 3=>neg
 | _=>false
theorem aj4 (neg odd:Bool) (r:Int) (w:World):Calls Tryz.prog 278 #[.bool neg,.bool odd,.int .u8 r] w fun e w'=>e = .returned (.bool (Bd 4 neg odd r))∧w'=w:=by
 go_enter Tryz.func278,Tryz.ntmps278
 go_wp2
 go_ret
 exact⟨rfl,rfl⟩
theorem aj5 (neg odd:Bool) (r:Int) (w:World):Calls Tryz.prog 277 #[.bool neg,.bool odd,.int .u8 r] w fun e w'=>e = .returned (.bool (Bd 3 neg odd r))∧w'=w:=by
 go_enter Tryz.func277,Tryz.ntmps277
 go_wp2
 go_ret
 exact⟨rfl,rfl⟩
theorem aj6 (neg odd:Bool) (r:Int) (w:World):Calls Tryz.prog 276 #[.bool neg,.bool odd,.int .u8 r] w fun e w'=>e = .returned (.bool (Bd 2 neg odd r))∧w'=w:=by
 go_enter Tryz.func276,Tryz.ntmps276
 go_wp2
 go_ret
 exact⟨rfl,rfl⟩
theorem aj7 (neg odd:Bool) (r:Int) (w:World):Calls Tryz.prog 275 #[.bool neg,.bool odd,.int .u8 r] w fun e w'=>e = .returned (.bool (Bd 1 neg odd r))∧w'=w:=by
 go_enter Tryz.func275,Tryz.ntmps275
 go_wp2
 go_ret
 exact⟨rfl,rfl⟩
theorem aj8 (neg odd:Bool) (r:Int) (w:World):Calls Tryz.prog 274 #[.bool neg,.bool odd,.int .u8 r] w fun e w'=>e = .returned (.bool (Bd 0 neg odd r))∧w'=w:=by
 by_cases h3:(r==3)=true
 ·have hb:Bd 0 neg odd r=true:=by simp[Bd,h3]
  rw[hb]
  go_enter Tryz.func274,Tryz.ntmps274
  go_wp2
  go_ret
  exact⟨rfl,rfl⟩
 ·have h3:(r==3)=false:=by simpa using h3
  by_cases h2:(r==2)=true
  ·have hb:Bd 0 neg odd r=odd:=by simp[Bd,h3,h2]
   rw[hb]
   go_enter Tryz.func274,Tryz.ntmps274
   go_wp2
   go_ret
   exact⟨rfl,rfl⟩
  ·have h2:(r==2)=false:=by simpa using h2
   have hb:Bd 0 neg odd r=false:=by simp[Bd,h3,h2]
   rw[hb]
   go_enter Tryz.func274,Tryz.ntmps274
   go_wp2
   go_ret
   exact⟨rfl,rfl⟩
theorem aj9 (k:Nat) (hk:k<5) (neg odd:Bool) (r:Int) (w:World):Calls Tryz.prog 251 #[.int .u8 (k:Int),.bool neg,.bool odd,.int .u8 r] w fun e w'=>e = .returned (.bool (decide (r>0)&&(decide (r≤3)&&Bd k neg odd r)))∧vI w w':=by
 have HR:=Lib.hid acf
 have hl:=aj0 w Qh 5 k k (.func (.func (274+k)) #[] #[]) (by
  rcases(show k=0∨k=1∨k=2∨k=3∨k=4 by omega) with rfl|rfl|rfl|rfl|rfl<;>rfl)
 have HC:=Lib.hid (show ∀ w,Calls Tryz.prog (274+k) #[.bool neg,.bool odd,.int .u8 r] w fun e w'=>e = .returned (.bool (Bd k neg odd r))∧w'=w by
  rcases(show k=0∨k=1∨k=2∨k=3∨k=4 by omega) with rfl|rfl|rfl|rfl|rfl
  ·exact aj8 neg odd r
  ·exact aj7 neg odd r
  ·exact aj6 neg odd r
  ·exact aj5 neg odd r
  ·exact aj4 neg odd r)
 have hf:(callFunc (274+k) #[.bool neg,.bool odd,.int .u8 r]).run Tryz.prog (w.alloc (.map Qh 5)) = .ok (.enter (274+k) #[.bool neg,.bool odd,.int .u8 r]) (w.alloc (.map Qh 5)):=by
  rcases(show k=0∨k=1∨k=2∨k=3∨k=4 by omega) with rfl|rfl|rfl|rfl|rfl
  ·exact Kv Tryz.func274 (by kernel_rfl) (by kernel_rfl) _ _
  ·exact Kv Tryz.func275 (by kernel_rfl) (by kernel_rfl) _ _
  ·exact Kv Tryz.func276 (by kernel_rfl) (by kernel_rfl) _ _
  ·exact Kv Tryz.func277 (by kernel_rfl) (by kernel_rfl) _ _
  ·exact Kv Tryz.func278 (by kernel_rfl) (by kernel_rfl) _ _
 generalize 274+k=q at *
 generalize Bd k neg odd r=b at *
 clear hk
 cases h1:decide (r>0) with
 | false =>
  go_enter Tryz.func251,Tryz.ntmps251
  go_wp2_with (go_at_call 271;refine(HR.out _).mono ?_;rintro e w' ⟨rfl,rfl⟩)
  exact bodyPost_ret (v:=.bool false) (by simp[results,Tryz.results251,go_sem]) rfl ⟨rfl,(vI.refl w).alloc _⟩
 | true =>
  cases h2:decide (r≤3) with
  | false =>
   go_enter Tryz.func251,Tryz.ntmps251
   go_wp2_with (go_at_call 271;refine(HR.out _).mono ?_;rintro e w' ⟨rfl,rfl⟩)
   exact bodyPost_ret (v:=.bool false) (by simp[results,Tryz.results251,go_sem]) rfl ⟨rfl,(vI.refl w).alloc _⟩
  | true =>
   go_enter Tryz.func251,Tryz.ntmps251
   go_wp2_with (go_at_call 271;refine(HR.out _).mono ?_;rintro e w' ⟨rfl,rfl⟩)
   refine(HC.out _).mono ?_
   rintro e w' ⟨rfl,rfl⟩
   go_wp2
   exact bodyPost_ret (v:=.bool b) (by simp[results,Tryz.results251,go_sem]) rfl ⟨by simp,(vI.refl w).alloc _⟩
def MJ (m:Int) (neg odd:Bool) (r:Int):Bool :=
 decide (r>0)&&(decide (r≤3)&&(if m=0 then Bd 0 neg odd r else if m=1 then Bd 1 neg odd r else if m=2 then Bd 2 neg odd r else if m=3 then Bd 3 neg odd r else false))
theorem aka (m:Int) (neg odd:Bool) (r:Int) (w:World):Calls Tryz.prog 251 #[.int .u8 m,.bool neg,.bool odd,.int .u8 r] w fun e w'=>e = .returned (.bool (MJ m neg odd r))∧vI w w':=by
 have hit:=fun k hk=>aj9 k hk neg odd r w
 unfold MJ
 by_cases h0:m=0
 ·subst h0;simpa using hit 0 (by decide)
 ·by_cases h1:m=1
  ·subst h1;simpa using hit 1 (by decide)
  ·by_cases h2:m=2
   ·subst h2;simpa using hit 2 (by decide)
   ·by_cases h3:m=3
    ·subst h3;simpa using hit 3 (by decide)
    ·rw[if_neg h0,if_neg h1,if_neg h2,if_neg h3,Bool.and_false,Bool.and_false]
     by_cases h4:m=4
     ·subst h4;simpa [Bd] using hit 4 (by decide)
     ·exact aj3 m neg odd r w (by omega)
end Go.Proofs.YtemomocmfggiaaaGreatDoor
