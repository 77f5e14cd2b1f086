import Derived.Test.YtngiodcdelfdmaaGreatDoorW8R8
import Derived.Test.YtngiodcdelfdmaaGreatDoorH1R8
namespace Go.Proofs.YtngiodcdelfdmaaGreatDoor
set_option linter.unusedVariables false
set_option linter.unusedSimpArgs false
set_option maxRecDepth 100000
open Go.RowKit
def qOut (s d : Nat) : List Int := match Nat.beq d 0 with
 | true => [0, 0, 0, 0, 0, 0, 0]
 | false => oW (s / d) ++ oB (s % d) ++ [1]
def fQuot (l : List Int) : List Int := qOut (nW (getI l 0) (getI l 1) (getI l 2) (getI l 3)) (nB (getI l 4) (getI l 5))
theorem dc0 (s : Nat) (w : World) (hG : Gl gG w) : CallsIn Fence.wide 3 Tryz.prog 75 #[vW s, vB 0] w fun e w' => e = .returned (.tuple #[vW 0, vB 0, .bool false]) ∧ Bel w w' :=
 Div0_in Fence.wide steps1 3 trivial trivial rfl (Nat.le_refl _) s w hG
theorem dc1 (s d : Nat) (hd : d < W128) (h0 : d ≠ 0) (w : World) (hG : Gl gG w) : CallsIn Fence.wide 3 Tryz.prog 75 #[vW s, vB d] w fun e w' => e = .returned (.tuple #[vW (stD nxF s d (downto 256)).1, vB (stD nxF s d (downto 256)).2, .bool true]) ∧ Bel w w' :=
 Div_in Fence.wide steps1 3 trivial trivial trivial trivial trivial rfl (Nat.le_refl _) s d hd h0 w hG
theorem dc2 (s d : Nat) (hs : s < W256) (hd : d < W128) (h0 : d ≠ 0) : stD nxF s d (downto 256) = (s / d, s % d) :=
 stD_all (by rw [← W256_pow]; exact hs) (by omega) (fun r x hr hx => nxF_eq hd r x hr hx)
theorem div_calls0 (s : Nat) (w : World) (hG : Gl gG w) : Calls Tryz.prog 75 #[vW s, vB 0] w fun e w' => e = .returned (.tuple #[vW 0, vB 0, .bool false]) ∧ Bel w w' := callsIn_wide.1 (dc0 s w hG)
theorem div_calls1 (s d : Nat) (hs : s < W256) (hd : d < W128) (h0 : d ≠ 0) (w : World) (hG : Gl gG w) :
  Calls Tryz.prog 75 #[vW s, vB d] w fun e w' => e = .returned (.tuple #[vW (s / d), vB (s % d), .bool true]) ∧ Bel w w' :=
 (callsIn_wide.1 (dc1 s d hd h0 w hG)).mono fun e w' h => ⟨h.1.trans (congrArg (fun p : Nat × Nat => Ending.returned (.tuple #[vW p.1, vB p.2, .bool true])) (dc2 s d hs hd h0)), h.2⟩
theorem pc_of_calls0 {args : List Value} {v : Value} (h : ∀ w, Gl gG w → Calls Tryz.prog 75 args.toArray w fun e w' => e = .returned v ∧ Bel w w') : PC Tryz.prog gG 75 args v := fun w hG =>
 callsX_of_calls Tryz.func75 (by kernel_rfl) (by kernel_rfl) (h w hG)
abbrev ctDiv : Ct := ⟨[.agg [kU, kU, kU, kU], .agg [kU, kU]], [.agg [kU, kU, kU, kU], .agg [kU, kU], .sc .bool]⟩
theorem resQ (q r : Nat) : resVal (valsS ctDiv.r (oW q ++ oB r ++ [1])) = .tuple #[vW q, vB r, .bool true] := by
 rw [oW_eq, oB_eq]
 simp only [ctDiv, l_ca, l_na, valsS, val1, valXs, valX_u64, Sh.kinds, List.drop_succ_cons, List.drop_zero, List.length_cons, List.length_nil, u64_wd, resVal]
 rfl
theorem resQ0 : resVal (valsS ctDiv.r [0, 0, 0, 0, 0, 0, 0]) = .tuple #[vW 0, vB 0, .bool false] := by
 have zw : ∀ j, wd 0 j = 0 := fun j => by unfold wd; simp
 have z : u64 0 = 0 := by decide
 simp only [ctDiv, valsS, val1, valXs, valX_u64, Sh.kinds, List.drop_succ_cons, List.drop_zero, List.length_cons, List.length_nil, resVal, z, vW, vB, zw]
 rfl
theorem argQ (a b c d e f : Int) : valsS ctDiv.a [a, b, c, d, e, f] = [vW (nW a b c d), vB (nB e f)] := by
 obtain ⟨n0, n1, n2, n3, n4⟩ := nW_words a b c d
 obtain ⟨m1, m0⟩ := nB_words e f
 simp only [ctDiv, valsS, val1, valXs, valX_u64, Sh.kinds, List.drop_succ_cons, List.drop_zero, List.length_cons, List.length_nil, n0, n1, n2, n3, m1, m0]
theorem qOut_z (s : Nat) : qOut s 0 = [0, 0, 0, 0, 0, 0, 0] := by rw [qOut]
theorem qOut_p (s : Nat) {y : Nat} (hy : y ≠ 0) : qOut s y = oW (s / y) ++ oB (s % y) ++ [1] := by
 have hb : Nat.beq y 0 = false := by
  cases h : Nat.beq y 0 with
  | false => rfl
  | true => exact absurd (Nat.eq_of_beq_eq_true h) hy
 unfold qOut; rw [hb]
theorem qOut_len (s y : Nat) : (qOut s y).length = 7 := by
 by_cases hy : y = 0
 ·subst hy; rw [qOut_z]; rfl
 ·rw [qOut_p s hy, oW_eq, oB_eq]; rfl
theorem qOut_pc (s y : Nat) (hs : s < W256) (hd : y < W128) : PC Tryz.prog gG 75 [vW s, vB y] (resVal (valsS ctDiv.r (qOut s y))) := by
 by_cases hy : y = 0
 ·subst hy
  rw [qOut_z, resQ0]
  exact pc_of_calls0 fun w hG => div_calls0 s w hG
 ·rw [qOut_p s hy, resQ]
  exact pc_of_calls0 fun w hG => div_calls1 s y hs hd hy w hG
theorem six {α : Type} {l : List α} (h : l.length = 6) : ∃ a b c d e f, l = [a, b, c, d, e, f] := by match l, h with | [a, b, c, d, e, f], _ => exact ⟨a, b, c, d, e, f, rfl⟩
theorem fQuot_eq (a b c d e f : Int) : fQuot [a, b, c, d, e, f] = qOut (nW a b c d) (nB e f) := by rw [fQuot]; simp only [getI_0, getI_s]
theorem ent_Div : EntOK Tryz.prog gG ⟨75, ctDiv, fQuot⟩ := by
 intro l hl
 obtain ⟨a, b, c, d, e, f, rfl⟩ := six hl
 have h1 := qOut_len (nW a b c d) (nB e f)
 have h2 := qOut_pc (nW a b c d) (nB e f) (nW_words a b c d).2.2.2.2 (nB_lt e f)
 rw [← argQ, ← fQuot_eq] at h2
 rw [← fQuot_eq] at h1
 exact ⟨h1, h2⟩
end Go.Proofs.YtngiodcdelfdmaaGreatDoor
