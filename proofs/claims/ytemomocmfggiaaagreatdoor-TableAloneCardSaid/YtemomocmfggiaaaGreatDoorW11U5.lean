import Derived.Test.YtemomocmfggiaaaGreatDoorW10U5
namespace Go.Proofs.YtemomocmfggiaaaGreatDoor
set_option linter.unusedVariables false
set_option linter.unusedSimpArgs false
set_option maxRecDepth 100000
open Go.RowKit
def mOut (r : Nat) (x : Int) (d : Nat) : List Int := match decide (r < d ∧ 0 ≤ x ∧ x ≤ 40000) with
 | true => oB (mdN r x.toNat d).1 ++ [b2i (mdN r x.toNat d).2, 1]
 | false => [0, 0, 0, 0]
def fMod (l : List Int) : List Int := mOut (nB (getI l 0) (getI l 1)) (i64 (getI l 2)) (nB (getI l 3) (getI l 4))
abbrev ctMod : Ct := ⟨[.agg [kU, kU], .sc kI, .agg [kU, kU]], [.agg [kU, kU], .sc .bool, .sc .bool]⟩
theorem five {α : Type} {l : List α} (h : l.length = 5) : ∃ a b c d e, l = [a, b, c, d, e] := by match l, h with | [a, b, c, d, e], _ => exact ⟨a, b, c, d, e, rfl⟩
theorem argM (a b c d e : Int) : valsS ctMod.a [a, b, c, d, e] = [vB (nB a b), .int .i64 (i64 c), vB (nB d e)] := by
 obtain ⟨n1, n0⟩ := nB_words a b
 obtain ⟨m1, m0⟩ := nB_words d e
 simp only [ctMod, valsS, val1, valXs, valX, w64_u, w64_i, Sh.kinds, List.drop_succ_cons, List.drop_zero, List.length_cons, List.length_nil, n1, n0, m1, m0]
theorem resM (q : Nat) (o : Bool) : resVal (valsS ctMod.r (oB q ++ [b2i o, 1])) = .tuple #[vB q, .bool o, .bool true] := by
 rw [oB_eq]
 simp only [ctMod, l_ca, l_na, valsS, val1, valXs, valX, w64_u, Sh.kinds, List.drop_succ_cons, List.drop_zero, List.length_cons, List.length_nil, u64_wd, b2i_ne, resVal]
 rfl
theorem resM0 : resVal (valsS ctMod.r [0, 0, 0, 0]) = .tuple #[vB 0, .bool false, .bool false] := by
 have zw : ∀ j, wd 0 j = 0 := fun j => by unfold wd; simp
 have z : u64 0 = 0 := by decide
 simp only [ctMod, valsS, val1, valXs, valX, w64_u, Sh.kinds, List.drop_succ_cons, List.drop_zero, List.length_cons, List.length_nil, resVal, z, vB, zw]
 rfl
theorem mOut_p {r d : Nat} {x : Int} (h : r < d ∧ 0 ≤ x ∧ x ≤ 40000) : mOut r x d = oB (mdN r x.toNat d).1 ++ [b2i (mdN r x.toNat d).2, 1] := by
 have : decide (r < d ∧ 0 ≤ x ∧ x ≤ 40000) = true := decide_eq_true h
 unfold mOut; rw [this]
theorem mOut_z {r d : Nat} {x : Int} (h : ¬ (r < d ∧ 0 ≤ x ∧ x ≤ 40000)) : mOut r x d = [0, 0, 0, 0] := by
 have : decide (r < d ∧ 0 ≤ x ∧ x ≤ 40000) = false := decide_eq_false h
 unfold mOut; rw [this]
theorem mOut_len (r : Nat) (x : Int) (d : Nat) : (mOut r x d).length = 4 := by
 by_cases h : r < d ∧ 0 ≤ x ∧ x ≤ 40000
 ·rw [mOut_p h, oB_eq]; rfl
 ·rw [mOut_z h]; rfl
theorem pc_of_callsM {args : List Value} {v : Value} (h : ∀ w, Gl gG w → Calls Tryz.prog 228 args.toArray w fun e w' => e = .returned v ∧ Bel w w') : PC Tryz.prog gG 228 args v := fun w hG =>
 callsX_of_calls Tryz.func228 (by kernel_rfl) (by kernel_rfl) (h w hG)
theorem mod_c1 (r d k : Nat) (hr : r < d) (hd : d < W128) (hk : k ≤ 40000) (w : World) (hG : Gl gG w) : Calls Tryz.prog 228 #[vB r, .int .i64 (k : Int), vB d] w fun e w' => e = .returned (.tuple #[vB (mdN r k d).1, .bool (mdN r k d).2, .bool true]) ∧ Bel w w' :=
 callsIn_wide.1 (Mod_in 3 (Nat.le_refl _) r d k hr hd hk w hG)
theorem mod_c0 (r d : Nat) (x : Int) (hr : r < W128) (hd : d < W128) (hx : d ≤ r ∨ x < 0 ∨ 40000 < x) (w : World) (hG : Gl gG w) : Calls Tryz.prog 228 #[vB r, .int .i64 x, vB d] w fun e w' => e = .returned (.tuple #[vB 0, .bool false, .bool false]) ∧ Bel w w' :=
 callsIn_wide.1 (Mod0_in 3 (Nat.le_refl _) r d x hr hd hx w hG)
theorem mOut_pc (r d : Nat) (x : Int) (hr : r < W128) (hd : d < W128) : PC Tryz.prog gG 228 [vB r, .int .i64 x, vB d] (resVal (valsS ctMod.r (mOut r x d))) := by
 by_cases h : r < d ∧ 0 ≤ x ∧ x ≤ 40000
 ·rw [mOut_p h, resM]
  obtain ⟨k, rfl⟩ : ∃ k : Nat, x = (k : Int) := ⟨x.toNat, by omega⟩
  exact pc_of_callsM fun w hG => mod_c1 r d k h.1 hd (by omega) w hG
 ·rw [mOut_z h, resM0]
  exact pc_of_callsM fun w hG => mod_c0 r d x hr hd (by omega) w hG
theorem fMod_eq (a b c d e : Int) : fMod [a, b, c, d, e] = mOut (nB a b) (i64 c) (nB d e) := by rw [fMod]; simp only [getI_0, getI_s]
theorem ent_Mod : EntOK Tryz.prog gG ⟨228, ctMod, fMod⟩ := by
 intro l hl
 obtain ⟨a, b, c, d, e, rfl⟩ := five hl
 have h1 := mOut_len (nB a b) (i64 c) (nB d e)
 have h2 := mOut_pc (nB a b) (nB d e) (i64 c) (nB_lt a b) (nB_lt d e)
 rw [← argM, ← fMod_eq] at h2
 rw [← fMod_eq] at h1
 exact ⟨h1, h2⟩
end Go.Proofs.YtemomocmfggiaaaGreatDoor
