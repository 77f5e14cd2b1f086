import Derived.Test.YtemomocmfggiaaaGreatDoorLawTU5
import Derived.Test.YtemomocmfggiaaaGreatDoorZTU5
import Derived.Test.YtemomocmfggiaaaGreatDoorTT1U5
import Derived.Deep.Slices
namespace Go.Proofs.YtemomocmfggiaaaGreatDoor
set_option linter.unusedVariables false
set_option linter.unusedSimpArgs false
set_option maxRecDepth 100000
open Go.ChangeShapes Go.WideShapes Go.ChangeAt Go.WideMaps Go.WideElems Go.RowKit Go.Deep
theorem cellsEntry : Tryz.prog.cellsOf 26 = 11 := by kernel_rfl
theorem open_entries {H : Type} {enc : TypeId × Value → H} {W : World} {r : Reach} {b0 base : Nat} {sp : Nat → Bool} {hd : Bool} {v : Value} {d : DataW H} {p : List MemPlace} (hv : Value.okWide Tryz.prog W r b0 38 v)
  (h : DataW.Trod enc Tryz.prog W base sp hd 38 v d p) : ∃ (n : Nat) (x : Nat → Nat → Int), n ≤ maxLen ∧ EntsAt W v n x ∧ ∀ i, i < n → entW (x i) := by
 obtain ⟨sa, len, cap, rfl⟩ := okWide_slice Tryz.underlying38 hv
 obtain ⟨fuel, hf⟩ := h
 rcases open_slice Tryz.underlying38 hf with ⟨h0, _⟩ | ⟨a, len', cap', m, n, D, Pl, hcs, hb, hl, hm, hmm, hx, hi⟩
 ·simp [Value.cells] at h0
  obtain ⟨rfl, rfl, rfl⟩ := h0
  exact ⟨0, fun _ _ => 0, Nat.zero_le _, ⟨none, 0, rfl, fun h => absurd h (by decide)⟩, fun i hi => absurd hi (by omega)⟩
 ·simp [Value.cells] at hcs
  obtain ⟨rfl, rfl, rfl⟩ := hcs
  have hle : len ≤ m := by rw [hmm]; split <;> omega
  have key : ∀ i, i < m → ∃ x : Nat → Int, entW x ∧ ∀ j, j < 11 → W.cell? ((a.add (i * 11)).add j) = some (entC x j) := fun i him => by
   obtain ⟨cs', hc, ht'⟩ := hi i him
   rw [cellsEntry] at hc
   obtain ⟨x, h1, h2, h3⟩ := ent_trod ht'
   obtain ⟨_, hcl, hat⟩ := World.cells?_some hc
   refine ⟨x, h3, fun j hj => ?_⟩
   rw [hat j hj, h1]
   exact entC_get x j hj
  let x : Nat → Nat → Int := fun i => if h : i < m then Classical.choose (key i h) else fun _ => 0
  have hx : ∀ i, i < m → entW (x i) ∧ ∀ j, j < 11 → W.cell? ((a.add (i * 11)).add j) = some (entC (x i) j) := fun i h => by
   have := Classical.choose_spec (key i h)
   show entW (if h : i < m then Classical.choose (key i h) else fun _ => 0) ∧ _
   simp only [x, dif_pos h]
   exact this
  refine ⟨len, x, Nat.le_trans hl hm, ⟨some a, cap, rfl, fun h0 => ?_⟩, fun i hi' => (hx i (by omega)).1⟩
  have hsp : a.spot = none := by
   have := (hx 0 (by omega)).2 0 (by omega)
   have h1 := World.cell?_spot this
   unfold Addr.add at h1
   cases hs : a.spot with
   | none => rfl
   | some q => simp [hs] at h1
  obtain ⟨b, off, spot⟩ := a
  simp only at hsp
  subst hsp
  refine ⟨b, off, rfl, ?_, fun i hi' j hj => ?_⟩
  ·have := (hx 0 (by omega)).2 0 (by omega)
   exact World.block_lt_of_cell? W _ this
  ·have := (hx i (by omega)).2 j hj
   simp only [Addr.add_lit] at this; exact this
end Go.Proofs.YtemomocmfggiaaaGreatDoor
