import Derived.Test.YtippohicjhilnaaGreatDoorZJTr
import Derived.Test.YtippohicjhilnaaGreatDoorZQTr
set_option linter.unusedSimpArgs false
set_option linter.unusedVariables false
namespace Go.Proofs.YtippohicjhilnaaGreatDoor.FP
def dst (a b:Nat):Nat:=if a<b then b-a else a-b
end Go.Proofs.YtippohicjhilnaaGreatDoor.FP
namespace Go.Proofs.YtippohicjhilnaaGreatDoor
namespace FP
def mg (u M:Nat) (E:Int):Nat:=M*2^(E+u).toNat
theorem mg_less {u M K:Nat} {E F:Int} (hE:0<=E+u) (hF:0<=F+u):M*2^(E-min E F).toNat<K*2^(F-min E F).toNat↔mg u M E<mg u K F:=by
 have hm3:0<=min E F+u:=by omega
 unfold mg;rw[show M*2^(E+u).toNat=M*2^(E-min E F).toNat*2^(min E F+u).toNat from agP (by omega) hm3,show K*2^(F+u).toNat=K*2^(F-min E F).toNat*2^(min E F+u).toNat from agP (by omega) hm3];exact(Nat.mul_lt_mul_right (two_pow_pos _)).symm
theorem mg_val {f:Nat} (hf:f<4) (c:Nat):mg (fU f+fU f) (vM f c) (vE f c)=val f c*2^fU f/\0<=vE f c+((fU f+fU f:Nat):Int):=by obtain⟨v1,v2⟩:=aq4 hf c;unfold mg;refine⟨?_,by omega⟩;rw[v2,Nat.mul_assoc,<- Nat.pow_add];congr 2;omega
structure aAy (f:Nat) (s:Bool) (Q:Nat) (E:Int) (n:Bool) (N D:Nat):Prop where
 pos:0<D
 lvl:0<=E+((fU f+fU f:Nat):Int)
 val:∃ K,0<K/\D*K=2^fU f/\mg (fU f+fU f) Q E=N*K
 sgn:N≠0->s=n
end FP
end Go.Proofs.YtippohicjhilnaaGreatDoor
