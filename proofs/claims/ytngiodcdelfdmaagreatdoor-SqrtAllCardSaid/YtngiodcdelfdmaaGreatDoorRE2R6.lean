import Derived.Test.YtngiodcdelfdmaaGreatDoorRW9R6
import Derived.Test.YtngiodcdelfdmaaGreatDoorZIR6
namespace Go.Proofs.YtngiodcdelfdmaaGreatDoor
set_option linter.unusedVariables false
set_option linter.unusedSimpArgs false
set_option maxRecDepth 100000
open Go.RowKit
def fDiv (l : List Int) : List Int := if (okN (gN l 0) && (okN (gN l 1) && decide (0 < gN l 1))) = true then [((gN l 0 / gN l 1 : Nat) : Int), ((gN l 0 % gN l 1 : Nat) : Int)] else []
def fRootN (l : List Int) : List Int := if okN (gN l 0) = true then [((rootX (gN l 0) : Nat) : Int)] else []
theorem ent_Root1 : EntNC Tryz.prog gG ⟨86, ⟨[.sc .nat], [.sc .nat]⟩, fRootN⟩ := by
 refine entNC_if (v := fun l => [((rootX (gN l 0) : Nat) : Int)]) (fun _ => rfl) (by decide) (by decide) fun l h => ?_
 refine npc_nat Tryz.func86 (by kernel_rfl) (by kernel_rfl) fun w fvs _ hfit => ?_
 obtain ⟨n, v, rfl, rfl, h1⟩ := fit_one hfit
 exact (Root_c w v _ (okN_dlen h) (fit_nat h1)).mono fun e w' h => h
theorem ent_Div1 : EntNC Tryz.prog gG ⟨79, ⟨[.sc .nat, .sc .nat], [.sc .nat, .sc .nat]⟩, fDiv⟩ := by
 refine entNC_if (v := fun l => [((gN l 0 / gN l 1 : Nat) : Int), ((gN l 0 % gN l 1 : Nat) : Int)]) (fun _ => rfl) (by decide) (by decide) fun l h => ?_
 simp only [Bool.and_eq_true, decide_eq_true_eq] at h
 intro w fvs hG hfit
 obtain ⟨n, m, v, u, rfl, rfl, h1, h2⟩ := fit_two hfit
 refine callsX_of_calls Tryz.func79 (by kernel_rfl) (by kernel_rfl) ((Div_c w v u _ _ h.2.2 (okN_dlen h.1) (okN_dlen h.2.1) (fit_nat h1) (fit_nat h2)).mono ?_)
 rintro e w' ⟨x, y, rfl, k1, k2, k3, k4, k5⟩
 refine ⟨[x, y], rfl, ⟨?_, ?_, trivial⟩, fun z hz b hb => ?_, k5⟩
 ·show Reads w' x (dlenN (((_ : Nat) : Int)).toNat) (digV (((_ : Nat) : Int)).toNat)
  rw [Int.toNat_natCast]; exact k1.to rfl
 ·show Reads w' y (dlenN (((_ : Nat) : Int)).toNat) (digV (((_ : Nat) : Int)).toNat)
  rw [Int.toNat_natCast]; exact k2.to rfl
 ·rcases List.mem_cons.1 hz with rfl | hz
  ·exact .inl (k3 b hb)
  ·rw [List.mem_singleton.1 hz] at hb; exact .inl (k4 b hb)
def N10 : List Ent := ⟨86, ⟨[.sc .nat], [.sc .nat]⟩, fRootN⟩ :: ⟨79, ⟨[.sc .nat, .sc .nat], [.sc .nat, .sc .nat]⟩, fDiv⟩ :: N9
theorem N10_ok : ∀ e ∈ N10, EntNC Tryz.prog gG e := List.forall_mem_cons.2 ⟨ent_Root1, List.forall_mem_cons.2 ⟨ent_Div1, N9_ok⟩⟩
end Go.Proofs.YtngiodcdelfdmaaGreatDoor
