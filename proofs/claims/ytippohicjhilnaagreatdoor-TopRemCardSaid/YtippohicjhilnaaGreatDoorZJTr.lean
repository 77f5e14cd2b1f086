import Derived.Test.YtippohicjhilnaaGreatDoorZFTr
import Derived.Test.YtippohicjhilnaaGreatDoorZQTr
set_option linter.unusedSimpArgs false
set_option linter.unusedVariables false
namespace Go.Proofs.YtippohicjhilnaaGreatDoor
namespace FP
def rE (Q:Nat) (E:Int):Int:=(lenN Q:Int)-1+E
def vM (f c:Nat):Nat:=if c/2^(fP f-1)=0 then c%2^(fP f-1) else c%2^(fP f-1)+2^(fP f-1)
def vE (f c:Nat):Int:=if c/2^(fP f-1)=0 then 1-(fE f:Int)-(fP f-1) else((c/2^(fP f-1):Nat):Int)-fE f-(fP f-1)
theorem aq4 {f:Nat} (hf:f<4) (c:Nat):0<=vE f c+fU f/\val f c=vM f c*2^(vE f c+fU f).toNat:=by
 obtain⟨n1,n2,n3,n4,n5,n6,n7,n8,n9⟩:=fmtN hf;have hU:(fU f:Int)=fE f+fP f-2:=by unfold fU;omega
 unfold vE vM;by_cases h:c/2^(fP f-1)=0
 ·have hlt:c<2^(fP f-1):=(Nat.div_eq_zero_iff.1 h).resolve_left (by have:=two_pow_pos (fP f-1);omega);obtain⟨s1,s2⟩:=aff (f:=f) hlt;rw[if_pos h,if_pos h,Nat.mod_eq_of_lt hlt];refine⟨by omega,?_⟩;unfold val cval;rw[s1,s2];congr 2;omega
 ·have hge:¬ c<2^(fP f-1):=λh2=>h (Nat.div_eq_of_lt h2)
  obtain⟨s1,s2⟩:=afg (f:=f) hge;rw[if_neg h,if_neg h];refine⟨by omega,?_⟩;unfold val cval;rw[s2,Nat.add_comm (2^(fP f-1))];congr 2;omega
theorem vE_rng {f c:Nat} (hf:f<4) (hc:c<inf f) : -17000<=vE f c/\vE f c<=17000:=by
 obtain⟨n1,n2,n3,n4,n5,n6,n7,n8,n9⟩:=fmtN hf
 have h1:c/2^(fP f-1)<2*fE f+1:=by rw[Nat.div_lt_iff_lt_mul (two_pow_pos _)];exact hc
 unfold vE;generalize c/2^(fP f-1)=q at *
 split<;>omega
set_option exponentiation.threshold 500
theorem agP {M:Nat} {E e:Int} {u:Nat} (h:e<=E) (hu:0<=e+u):M*2^(E+u).toNat=M*2^(E-e).toNat*2^(e+u).toNat:=by rw[Nat.mul_assoc,<- Nat.pow_add];congr 2;omega
set_option exponentiation.threshold 500
end FP
end Go.Proofs.YtippohicjhilnaaGreatDoor
