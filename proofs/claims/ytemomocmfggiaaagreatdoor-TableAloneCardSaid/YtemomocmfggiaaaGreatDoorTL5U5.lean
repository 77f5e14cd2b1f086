import Derived.Test.YtemomocmfggiaaaGreatDoorZTU5
import Derived.Deep.RegionHeld3
import Derived.Test.YtemomocmfggiaaaGreatDoorTM3U5
namespace Go.Proofs.YtemomocmfggiaaaGreatDoor
set_option linter.unusedVariables false
open Go.RowKit Go.Shelf FlagM
attribute [local go_sem] Oper.semAt_some
set_option maxRecDepth 100000 in
theorem goes_c (hF : F_law29_goes [] = [1]) (w : World) (hG : Gl gG w) : Calls Tryz.prog 11 #[] w fun e w' => e = .returned (.bool true) ∧ Bel w w' := by
 have h := calls_of_pc (e_law29_goes.ok [] rfl (by show (F_law29_goes []).length = _; rw [hF]; rfl)) Tryz.func11 (by kernel_rfl) (by kernel_rfl) w hG
 have h2 : resVal (valsS c_law29_goes.r (F_law29_goes [])) = .bool true := by rw [hF]; rfl
 simp only [h2] at h
 exact h
abbrev cellsAt (W : World) (b q : Nat) (x : Nat → Int) : Prop := W.cell? ⟨b, q, none⟩ = some (.int .u8 (x 0)) ∧ W.cell? ⟨b, q + 1, none⟩ = some (.int .u8 (x 1)) ∧ W.cell? ⟨b, q + 2, none⟩ = some (.int .u8 (x 2)) ∧ W.cell? ⟨b, q + 3, none⟩ = some (.int .u8 (x 3)) ∧ W.cell? ⟨b, q + 4, none⟩ = some (.int .u8 (x 4)) ∧ W.cell? ⟨b, q + 5, none⟩ = some (.int .u64 (x 5)) ∧ W.cell? ⟨b, q + 6, none⟩ = some (.int .u64 (x 6)) ∧ W.cell? ⟨b, q + 7, none⟩ = some (.int .u64 (x 7)) ∧ W.cell? ⟨b, q + 8, none⟩ = some (.int .u64 (x 8)) ∧ W.cell? ⟨b, q + 9, none⟩ = some (.int .u64 (x 9)) ∧ W.cell? ⟨b, q + 10, none⟩ = some (.int .u64 (x 10))
theorem cellsAt.bel {A B : World} {b q : Nat} {x : Nat → Int} (h : cellsAt A b q x) (hb : b < A.heap.size) (hB : Bel A B) : cellsAt B b q x := by
 have hc : ∀ j, B.cell? ⟨b, j, none⟩ = A.cell? ⟨b, j, none⟩ := fun j => hB.cell b j hb
 unfold cellsAt
 simp only [hc]
 exact h
end Go.Proofs.YtemomocmfggiaaaGreatDoor
