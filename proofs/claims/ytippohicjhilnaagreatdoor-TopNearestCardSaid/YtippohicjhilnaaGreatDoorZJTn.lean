import Derived.Test.YtippohicjhilnaaGreatDoorZFTn
import Derived.Test.YtippohicjhilnaaGreatDoorZQTn
set_option linter.unusedSimpArgs false
set_option linter.unusedVariables false
namespace Go.Proofs.YtippohicjhilnaaGreatDoor
namespace FP
def vM (f c:Nat):Nat:=if c/2^(fP f-1)=0 then c%2^(fP f-1) else c%2^(fP f-1)+2^(fP f-1)
def vE (f c:Nat):Int:=if c/2^(fP f-1)=0 then 1-(fE f:Int)-(fP f-1) else((c/2^(fP f-1):Nat):Int)-fE f-(fP f-1)
theorem acI {f:Nat} (hf:f<4) (c:Nat):0<=vE f c+fU f/\val f c=vM f c*2^(vE f c+fU f).toNat:=by
 obtain⟨n1,n2,n3,n4,n5,n6,n7,n8,n9⟩:=axv hf;have hU:(fU f:Int)=fE f+fP f-2:=by unfold fU;omega
 unfold vE vM;by_cases h:c/2^(fP f-1)=0
 ·have hlt:c<2^(fP f-1):=(Nat.div_eq_zero_iff.1 h).resolve_left (by have:=two_pow_pos (fP f-1);omega);obtain⟨s1,s2⟩:=ahw (f:=f) hlt;rw[if_pos h,if_pos h,Nat.mod_eq_of_lt hlt];refine⟨by omega,?_⟩;unfold val xq;rw[s1,s2];congr 2;omega
 ·have hge:¬ c<2^(fP f-1):=λh2=>h (Nat.div_eq_of_lt h2)
  obtain⟨s1,s2⟩:=ahx (f:=f) hge;rw[if_neg h,if_neg h];refine⟨by omega,?_⟩;unfold val xq;rw[s2,Nat.add_comm (2^(fP f-1))];congr 2;omega
theorem aDc {f c:Nat} (hf:f<4) (hc:c<inf f) : -17000<=vE f c/\vE f c<=17000:=by
 obtain⟨n1,n2,n3,n4,n5,n6,n7,n8,n9⟩:=axv hf
 have h1:c/2^(fP f-1)<2*fE f+1:=by rw[Nat.div_lt_iff_lt_mul (two_pow_pos _)];exact hc
 unfold vE;generalize c/2^(fP f-1)=q at *
 split<;>omega
theorem UG (s t:Bool) (A B k:Nat) (hk:0<k):sgV s t (A*k) (B*k)=sgV s t A B*k/\sgS s t (A*k) (B*k)=sgS s t A B:=by
 have h:A*k<B*k↔A<B:=Nat.mul_lt_mul_right hk;unfold sgV sgS;by_cases h1:s=t
 ·rw[if_pos h1,if_pos h1,if_pos h1,if_pos h1,Nat.add_mul];exact⟨rfl,rfl⟩
 ·rw[if_neg h1,if_neg h1,if_neg h1,if_neg h1];by_cases h2:A<B
  ·rw[if_pos h2,if_pos (h.2 h2),if_pos h2,if_pos (h.2 h2),Nat.sub_mul];exact⟨rfl,rfl⟩
  ·rw[if_neg h2,if_neg (λh3=>h2 (h.1 h3)),if_neg h2,if_neg (λh3=>h2 (h.1 h3)),Nat.sub_mul];exact⟨rfl,rfl⟩
set_option exponentiation.threshold 500
theorem XG {M:Nat} {E e:Int} {u:Nat} (h:e<=E) (hu:0<=e+u):M*2^(E+u).toNat=M*2^(E-e).toNat*2^(e+u).toNat:=by rw[Nat.mul_assoc,<- Nat.pow_add];congr 2;omega
def aCz (s t:Bool) (M:Nat) (E:Int) (N:Nat) (F:Int):Nat:=sgV s t (M*2^(E-min E F).toNat) (N*2^(F-min E F).toNat)
def aDk (s t:Bool) (M:Nat) (E:Int) (N:Nat) (F:Int):Bool:=sgS s t (M*2^(E-min E F).toNat) (N*2^(F-min E F).toNat)
set_option exponentiation.threshold 500
end FP
end Go.Proofs.YtippohicjhilnaaGreatDoor
