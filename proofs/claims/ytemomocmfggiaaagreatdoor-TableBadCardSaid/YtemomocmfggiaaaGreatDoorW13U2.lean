import Derived.Test.YtemomocmfggiaaaGreatDoorW12U2
namespace Go.Proofs.YtemomocmfggiaaaGreatDoor
set_option linter.unusedVariables false
set_option linter.unusedSimpArgs false
set_option maxRecDepth 100000
open Go.RowKit
def isqF (n : Nat) : Nat → Nat → Nat
 | 0, r => r
 | k + 1, r => forceNat (match Nat.ble ((r + 2 ^ k) * (r + 2 ^ k)) n with | true => r + 2 ^ k | false => r) (isqF n k)
theorem isqF_eq (n : Nat) : ∀ k r, isqF n k r = FP.isqGo n k r
 | 0, r => rfl
 | k + 1, r => by
  rw [isqF, forceNat_eq, isqF_eq n k]
  rw [show FP.isqGo n (k + 1) r = FP.isqGo n k (if (r + 2 ^ k) * (r + 2 ^ k) ≤ n then r + 2 ^ k else r) from rfl]
  congr 1
  by_cases h : (r + 2 ^ k) * (r + 2 ^ k) ≤ n
  ·rw [if_pos h, Nat.ble_eq_true_of_le h]
  ·rw [if_neg h]
   cases hb : Nat.ble ((r + 2 ^ k) * (r + 2 ^ k)) n with
   | true => exact absurd (Nat.le_of_ble_eq_true hb) h
   | false => rfl
def rtOut (n : Nat) : List Int := forceNat (isqF n 128 0) fun r => [wd r 1, wd r 0, b2i (Nat.beq (r * r) n)]
theorem rtOut_eq (n : Nat) : rtOut n = [wd (FP.isq n) 1, wd (FP.isq n) 0, b2i (decide (FP.isq n * FP.isq n = n))] := by
 unfold rtOut
 rw [forceNat_eq, isqF_eq, show FP.isqGo n 128 0 = FP.isq n from rfl]
 have : Nat.beq (FP.isq n * FP.isq n) n = decide (FP.isq n * FP.isq n = n) := by
  rw [Bool.eq_iff_iff, decide_eq_true_iff]; exact ⟨Nat.eq_of_beq_eq_true, fun h => by rw [h]; exact Nat.beq_refl n⟩
 rw [this]
def fRoot (l : List Int) : List Int := rtOut (nW (getI l 0) (getI l 1) (getI l 2) (getI l 3))
abbrev ctRoot : Ct := ⟨[.agg [kU, kU, kU, kU]], [.agg [kU, kU], .sc .bool]⟩
theorem fourR {α : Type} {l : List α} (h : l.length = 4) : ∃ a b c d, l = [a, b, c, d] := by match l, h with | [a, b, c, d], _ => exact ⟨a, b, c, d, rfl⟩
theorem argR (a b c d : Int) : valsS ctRoot.a [a, b, c, d] = [vW (nW a b c d)] := by
 obtain ⟨n0, n1, n2, n3, n4⟩ := nW_words a b c d
 simp only [ctRoot, valsS, val1, valXs, valX, w64_u, Sh.kinds, List.drop_succ_cons, List.drop_zero, List.length_cons, List.length_nil, n0, n1, n2, n3]
theorem resRt (r : Nat) (q : Bool) : resVal (valsS ctRoot.r [wd r 1, wd r 0, b2i q]) = .tuple #[vB r, .bool q] := by
 simp only [ctRoot, valsS, val1, valXs, valX, w64_u, Sh.kinds, List.drop_succ_cons, List.drop_zero, List.length_cons, List.length_nil, u64_wd, b2i_ne, resVal]
theorem root_c (n : Nat) (hn : n < W256) (w : World) (hG : Gl gG w) : Calls Tryz.prog 154 #[vW n] w fun e w' => e = .returned (.tuple #[vB (FP.isq n), .bool (decide (FP.isq n * FP.isq n = n))]) ∧ Bel w w' :=
 callsIn_wide.1 (Root_in 3 (Nat.le_refl _) n hn w hG)
theorem pc_of_callsR {args : List Value} {v : Value} (h : ∀ w, Gl gG w → Calls Tryz.prog 154 args.toArray w fun e w' => e = .returned v ∧ Bel w w') : PC Tryz.prog gG 154 args v := fun w hG =>
 callsX_of_calls Tryz.func154 (by kernel_rfl) (by kernel_rfl) (h w hG)
theorem fRoot_eq (a b c d : Int) : fRoot [a, b, c, d] = rtOut (nW a b c d) := by rw [fRoot]; simp only [getI_0, getI_s]
theorem ent_Root : EntOK Tryz.prog gG ⟨154, ctRoot, fRoot⟩ := by
 intro l hl
 obtain ⟨a, b, c, d, rfl⟩ := fourR hl
 have hn := nW_lt a b c d
 have h2 : PC Tryz.prog gG 154 [vW (nW a b c d)] (resVal (valsS ctRoot.r (rtOut (nW a b c d)))) := by
  rw [rtOut_eq, resRt]
  exact pc_of_callsR fun w hG => root_c _ hn w hG
 have h1 : (rtOut (nW a b c d)).length = 3 := by rw [rtOut_eq]; rfl
 rw [← argR, ← fRoot_eq] at h2
 rw [← fRoot_eq] at h1
 exact ⟨h1, h2⟩
def E50 : List Ent := ⟨154, ctRoot, fRoot⟩ :: E11
theorem E50_ok : ∀ e ∈ E50, EntOK Tryz.prog gG e := List.forall_mem_cons.2 ⟨ent_Root, E11_ok⟩
end Go.Proofs.YtemomocmfggiaaaGreatDoor
