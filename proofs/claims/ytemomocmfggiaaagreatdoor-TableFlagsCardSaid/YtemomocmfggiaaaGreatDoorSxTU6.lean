import Derived.Test.YtemomocmfggiaaaGreatDoorZDU6
set_option linter.unusedSimpArgs false
set_option linter.unusedVariables false
namespace Go.Proofs.YtemomocmfggiaaaGreatDoor
def vo.th {α:Type} : vo α→vo α
 | .ite _ a _=>a
 | t=>t
def vo.el {α:Type} : vo α→vo α
 | .ite _ _ b=>b
 | t=>t
def vo.nx {α:Type} : vo α→vo α
 | .call _ _ _ _ t=>t
 | t=>t
def vo.hI {α:Type} : vo α→Option X
 | .ite c _ _=>some c
 | _=>none
def vo.hC {α:Type} : vo α→Option (Nat×List X×Nat×Nat)
 | .call f a m n _=>some (f,a,m,n)
 | _=>none
theorem xJ {α:Type} {T a b:vo α} {c:X} (h1:T.hI=some c) (ha:T.th=a) (hb:T.el=b):T = .ite c a b:=by
 subst ha hb
 cases T<;>simp_all[vo.hI,vo.th,vo.el]
theorem AA {α:Type} {T a:vo α} {q:Nat×List X×Nat×Nat} (h1:T.hC=some q) (ha:T.nx=a):T = .call q.1 q.2.1 q.2.2.1 q.2.2.2 a:=by
 subst ha
 cases T<;>simp_all[vo.hC,vo.nx]
 subst h1
 exact⟨rfl,rfl,rfl,rfl⟩
end Go.Proofs.YtemomocmfggiaaaGreatDoor
