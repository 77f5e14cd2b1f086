import Derived.Test.YtngiodcdelfdmaaGreatDoorZDR6
namespace Go.Proofs.YtngiodcdelfdmaaGreatDoor
def Tr'.th {α : Type} : Tr' α → Tr' α
 | .ite _ a _ => a
 | t => t
def Tr'.el {α : Type} : Tr' α → Tr' α
 | .ite _ _ b => b
 | t => t
def Tr'.nx {α : Type} : Tr' α → Tr' α
 | .call _ _ _ _ t => t
 | t => t
def Tr'.hI {α : Type} : Tr' α → Option X
 | .ite c _ _ => some c
 | _ => none
def Tr'.hC {α : Type} : Tr' α → Option (Nat × List X × Nat × Nat)
 | .call f a m n _ => some (f, a, m, n)
 | _ => none
end Go.Proofs.YtngiodcdelfdmaaGreatDoor
