import Derived.Test.YtemomocmfggiaaaGreatDoorZQU2
import Derived.Test.YtemomocmfggiaaaGreatDoorK1U2
namespace Go.Proofs.YtemomocmfggiaaaGreatDoor
set_option linter.unusedVariables false
set_option linter.unusedSimpArgs false
set_option maxRecDepth 100000
open Go.RowKit
theorem tI {Φ : Phi} {ct : Ct} {c : X} {a b : Tr' SV} {l r : List Int} (p : Prop) [Decidable p] (hc : iNz (c.ev l) = decide p) (ht : p → treeF Φ ct a l = r) (hf : ¬ p → treeF Φ ct b l = r) : treeF Φ ct (.ite c a b) l = r := by
 rw [treeF_ite, hc]
 by_cases h : p
 ·rw [decide_eq_true h, if_pos rfl]; exact ht h
 ·rw [decide_eq_false h, if_neg Bool.false_ne_true]; exact hf h
theorem tT {Φ : Phi} {ct : Ct} {c : X} {a b : Tr' SV} {l r : List Int} (hc : iNz (c.ev l) = true) (h : treeF Φ ct a l = r) : treeF Φ ct (.ite c a b) l = r := by rw [treeF_ite, if_pos hc]; exact h
theorem tF {Φ : Phi} {ct : Ct} {c : X} {a b : Tr' SV} {l r : List Int} (hc : iNz (c.ev l) = false) (h : treeF Φ ct b l = r) : treeF Φ ct (.ite c a b) l = r := by rw [treeF_ite, hc, if_neg Bool.false_ne_true]; exact h
end Go.Proofs.YtemomocmfggiaaaGreatDoor
