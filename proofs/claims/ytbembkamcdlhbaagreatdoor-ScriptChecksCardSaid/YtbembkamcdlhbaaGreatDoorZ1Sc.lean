import Derived.Test.YtbembkamcdlhbaaGreatDoorZGSc
import Derived.Test.YtbembkamcdlhbaaGreatDoorZQSc
import Derived.Test.YtbembkamcdlhbaaGreatDoorK1Sc
set_option linter.unusedSimpArgs false
set_option linter.unusedVariables false
set_option maxRecDepth 100000
namespace Go.Proofs.YtbembkamcdlhbaaGreatDoor
open Go.RowKit
theorem tI {Φ:uL} {ct:Ct} {c:X} {a b:rf SV} {l r:List Int} (p:Prop) [Decidable p] (hc:sN (c.ev l)=decide p) (ht:p→rG Φ ct a l=r) (hf:¬ p→rG Φ ct b l=r):rG Φ ct (.ite c a b) l=r:=by
 rw[La,hc]
 by_cases h:p
 ·rw[decide_eq_true h,if_pos rfl];exact ht h
 ·rw[decide_eq_false h,if_neg Bool.false_ne_true];exact hf h
open Go.RowKit
open Go.RowKit
def uf (x y:Nat):Int:=if x<y then -1 else if y<x then 1 else 0
theorem Si (a b c d:Int):Fp [a,b,c,d] = [uf (nB a b) (nB c d)]:=by
 obtain⟨n,hn,e,h1,h0⟩:=BD a b
 obtain⟨m,hm,f,k1,k0⟩:=BD c d
 rw[Fp,RU,wS rfl,e,f]
 simp only[tX,h1,h0,k1,k0]
 have e1:wd n 1=((n/ry:Nat):Int):=by
  unfold wd;rw[Nat.pow_one,Nat.mod_eq_of_lt (Nat.div_lt_of_lt_mul (show n<ry*ry from hn))]
 have e0:wd n 0=((n%ry:Nat):Int):=by unfold wd;rw[Nat.pow_zero,Nat.div_one]
 have f1:wd m 1=((m/ry:Nat):Int):=by
  unfold wd;rw[Nat.pow_one,Nat.mod_eq_of_lt (Nat.div_lt_of_lt_mul (show m<ry*ry from hm))]
 have f0:wd m 0=((m%ry:Nat):Int):=by unfold wd;rw[Nat.pow_zero,Nat.div_one]
 rw[e1,e0,f1,f0]
 have dn:=Nat.div_add_mod n ry
 have dm:=Nat.div_add_mod m ry
 have ln:=Nat.mod_lt n vw
 have lm:=Nat.mod_lt m vw
 rw[Fu] at *
 generalize n/18446744073709551616=n1 at *
 generalize n%18446744073709551616=n0 at *
 generalize m/18446744073709551616=m1 at *
 generalize m%18446744073709551616=m0 at *
 congr 1
 unfold uf
 simp only[bne_self_eq_false,Bool.false_eq_true,if_false,decide_eq_true_iff,bne_iff_ne,ne_eq,gt_iff_lt]
 clear h1 h0 k1 k0 e f
 have r1:((n1:Int)<(m1:Int))↔n1<m1:=Int.ofNat_lt
 have r2:((m1:Int)<(n1:Int))↔m1<n1:=Int.ofNat_lt
 have r3:((n0:Int)<(m0:Int))↔n0<m0:=Int.ofNat_lt
 have r4:((m0:Int)<(n0:Int))↔m0<n0:=Int.ofNat_lt
 simp only[r1,r2,r3,r4]
 by_cases c1:n1<m1
 ·rw[if_pos c1,if_pos (by decide),if_pos (by omega)]
 rw[if_neg c1]
 by_cases c2:m1<n1
 ·rw[if_pos c2,if_pos (by decide),if_neg (by omega),if_pos (by omega)]
 rw[if_neg c2,if_neg (by decide)]
 by_cases c3:n0<m0
 ·rw[if_pos c3,if_pos (by decide),if_pos (by omega)]
 rw[if_neg c3]
 by_cases c4:m0<n0
 ·rw[if_pos c4,if_pos (by decide),if_neg (by omega),if_pos (by omega)]
 rw[if_neg c4,if_neg (by decide),if_neg (by omega),if_neg (by omega)]
open Go.RowKit
theorem aiz {p q:Nat} (hp:p<rD) (hq:q<rD):Fp [wd p 1,wd p 0,wd q 1,wd q 0] = [uf p q]:=by
 rw[Si,zO hp,zO hq]
theorem aiA {p q:Nat} : (uf p q==0)=decide (p=q):=by
 rw[Bool.eq_iff_iff,beq_iff_eq,decide_eq_true_iff];unfold uf
 by_cases h1:p<q
 ·rw[if_pos h1];omega
 ·rw[if_neg h1]
  by_cases h2:q<p
  ·rw[if_pos h2];omega
  ·rw[if_neg h2];omega
theorem NU (p q:Nat):i64 (uf p q)=uf p q:=by
 unfold uf
 by_cases h1:p<q
 ·rw[if_pos h1];rfl
 ·rw[if_neg h1]
  by_cases h2:q<p
  ·rw[if_pos h2];rfl
  ·rw[if_neg h2];rfl
end Go.Proofs.YtbembkamcdlhbaaGreatDoor
