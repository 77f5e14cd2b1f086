import Derived.Test.YtbembkamcdlhbaaGreatDoorZGSc
set_option linter.unusedSimpArgs false
set_option linter.unusedVariables false
set_option maxRecDepth 100000
namespace Go.Proofs.YtbembkamcdlhbaaGreatDoor.FP
def isqGo (n:Nat):Nat→Nat→Nat
 | 0,r=>r
 | k+1,r=>isqGo n k (if (r+2^k)*(r+2^k)≤n then r+2^k else r)
def isq (n:Nat):Nat:=isqGo n 128 0
theorem Sg (n:Nat):∀ (k r:Nat),r*r≤n→n<(r+2^k)*(r+2^k)→isqGo n k r*isqGo n k r≤n∧n<(isqGo n k r+1)*(isqGo n k r+1)
 | 0,r,h1,h2=>⟨h1,h2⟩
 | k+1,r,h1,h2=>by
  unfold isqGo
  split
  ·rename_i h
   refine Sg n k _ h ?_
   rw[Nat.add_assoc,← Nat.mul_two,← Nat.pow_succ];exact h2
  ·rename_i h
   exact Sg n k _ h1 (by omega)
theorem aii {n:Nat} (h:n<2^256):isq n*isq n≤n∧n<(isq n+1)*(isq n+1) :=
 Sg n 128 0 (Nat.zero_le _) (by rw[Nat.zero_add,← Nat.pow_add];exact h)
theorem aij {a b:Nat} (h:a*a<b*b):a<b:=by
 apply Nat.lt_of_not_le;intro hle
 have:=Nat.mul_le_mul hle hle
 omega
theorem isq_lt {n:Nat} (h:n<2^256):isq n<2^128:=by
 apply aij
 rw[← Nat.pow_add]
 exact Nat.lt_of_le_of_lt (aii h).1 h
def aik (ea:Int) (sa:Nat) (eb:Int) (sb:Nat):Int :=
 if sa/2^(max ea eb-ea).toNat<sb/2^(max ea eb-eb).toNat then -1
 else if sb/2^(max ea eb-eb).toNat<sa/2^(max ea eb-ea).toNat then 1
 else if sa%2^(max ea eb-ea).toNat≠0 then 1 else if sb%2^(max ea eb-eb).toNat≠0 then -1 else 0
def sgV (s t:Bool) (A B:Nat):Nat:=if s=t then A+B else if A<B then B-A else A-B
def sgS (s t:Bool) (A B:Nat):Bool:=if s=t then s else if A<B then t else s
def sgN (m:Nat) (s t:Bool) (A B:Nat):Bool:=if sgV s t A B=0 then(if s=t then s else decide (m=3)) else sgS s t A B
def tT (s t:Bool) (ea:Int) (sa:Nat) (eb:Int) (sb:Nat):Bool:=if s=t then s else if aik ea sa eb sb<0 then t else s
def addN (f m:Nat) (s t:Bool) (c d:Nat):Bool:=sgN m s t (val f c) (val f d)
end Go.Proofs.YtbembkamcdlhbaaGreatDoor.FP
namespace Go.Proofs.YtbembkamcdlhbaaGreatDoor
open Go.RowKit
open Go.RowKit
end Go.Proofs.YtbembkamcdlhbaaGreatDoor
