import Derived.Test.YtemomocmfggiaaaGreatDoorZDU5
namespace Go.Proofs.YtemomocmfggiaaaGreatDoor
def Tr'.th {α : Type} : Tr' α → Tr' α
 | .ite _ a _ => a
 | t => t
def Tr'.el {α : Type} : Tr' α → Tr' α
 | .ite _ _ b => b
 | t => t
def Tr'.nx {α : Type} : Tr' α → Tr' α
 | .call _ _ _ _ t => t
 | t => t
def Tr'.hI {α : Type} : Tr' α → Option X
 | .ite c _ _ => some c
 | _ => none
def Tr'.hC {α : Type} : Tr' α → Option (Nat × List X × Nat × Nat)
 | .call f a m n _ => some (f, a, m, n)
 | _ => none
theorem trT_ite {α : Type} {T a b : Tr' α} {c : X} (h1 : T.hI = some c) (ha : T.th = a) (hb : T.el = b) : T = .ite c a b := by
 subst ha hb
 cases T <;> simp_all [Tr'.hI, Tr'.th, Tr'.el]
theorem trT_call {α : Type} {T a : Tr' α} {q : Nat × List X × Nat × Nat} (h1 : T.hC = some q) (ha : T.nx = a) : T = .call q.1 q.2.1 q.2.2.1 q.2.2.2 a := by
 subst ha
 cases T <;> simp_all [Tr'.hC, Tr'.nx]
 subst h1
 exact ⟨rfl, rfl, rfl, rfl⟩
end Go.Proofs.YtemomocmfggiaaaGreatDoor
