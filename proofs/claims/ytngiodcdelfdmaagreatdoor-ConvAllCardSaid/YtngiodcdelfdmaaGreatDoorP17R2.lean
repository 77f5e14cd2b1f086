import Derived.Test.YtngiodcdelfdmaaGreatDoorZGR2
import Derived.Test.YtngiodcdelfdmaaGreatDoorFQR2
import Derived.Test.YtngiodcdelfdmaaGreatDoorZER2
/- What nan.Pick answers, by its number of operands. -/
namespace Go.Proofs.YtngiodcdelfdmaaGreatDoor
set_option linter.unusedVariables false
set_option linter.unusedSimpArgs false
set_option maxRecDepth 100000
open Go.RowKit
theorem tI {Φ : Phi} {ct : Ct} {c : X} {a b : Tr' SV} {l r : List Int} (p : Prop) [Decidable p] (hc : iNz (c.ev l) = decide p) (ht : p → treeF Φ ct a l = r) (hf : ¬ p → treeF Φ ct b l = r) : treeF Φ ct (.ite c a b) l = r := by
  rw [treeF_ite, hc]
  by_cases h : p
  · rw [decide_eq_true h, if_pos rfl]; exact ht h
  · rw [decide_eq_false h, if_neg Bool.false_ne_true]; exact hf h
theorem tT {Φ : Phi} {ct : Ct} {c : X} {a b : Tr' SV} {l r : List Int} (hc : iNz (c.ev l) = true) (h : treeF Φ ct a l = r) : treeF Φ ct (.ite c a b) l = r := by rw [treeF_ite, if_pos hc]; exact h
theorem tF {Φ : Phi} {ct : Ct} {c : X} {a b : Tr' SV} {l r : List Int} (hc : iNz (c.ev l) = false) (h : treeF Φ ct b l = r) : treeF Φ ct (.ite c a b) l = r := by rw [treeF_ite, hc, if_neg Bool.false_ne_true]; exact h
theorem known_f {f : Int} (hf : fN f < 4) : (!decide (u8 f < 4)) = false := by rw [decide_eq_true ((u8_lt4 f).2 hf)]; rfl
end Go.Proofs.YtngiodcdelfdmaaGreatDoor
