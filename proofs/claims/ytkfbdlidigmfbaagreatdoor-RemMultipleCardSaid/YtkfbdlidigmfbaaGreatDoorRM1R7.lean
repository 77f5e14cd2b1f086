import Derived.Test.YtkfbdlidigmfbaaGreatDoorP44R7
import Derived.Test.YtkfbdlidigmfbaaGreatDoorP29R7
import Derived.Test.YtkfbdlidigmfbaaGreatDoorZNR7
import Derived.Test.YtkfbdlidigmfbaaGreatDoorP32R7
import Derived.Test.YtkfbdlidigmfbaaGreatDoorP22R7
import Derived.Test.YtkfbdlidigmfbaaGreatDoorRM0R7
namespace Go.Proofs.YtkfbdlidigmfbaaGreatDoor
set_option linter.unusedVariables false
set_option linter.unusedSimpArgs false
set_option maxRecDepth 100000
open Go.RowKit
def vR (r : Nat × Nat) : Value := .agg #[.int .u64 (wd r.1 1), .int .u64 (wd r.1 0), .int .u8 (r.2 : Int)]
def vE0 : Value := .agg #[.int .u8 0, .bool false]
theorem rm_add {f : Int} (hu : u8 f = f) (hf : fN f < 4) {a b : Nat} (ha : a < W128) (hb : b < W128) (w : World) (hG : Gl gG w) :
  Calls Tryz.prog 18 #[.int .u8 f, vE0, vB a, vB b] w fun e w' => e = .returned (vR (addR (fN f) 0 false a b)) ∧ Bel w w' := by
 have h := calls_of_pc (e_addsub_Add [f, 0, 0, wd a 1, wd a 0, wd b 1, wd b 0] rfl).2 Tryz.func18 (by kernel_rfl) (by kernel_rfl) w hG
 simp only [] at h
 have hk := addR_flag (fN f) 0 false a b
 rw [k_addsub_Add (φ := fN f) (M := 0) rfl hf (show (u8 0).toNat = 0 by decide) (show u8 0 ≤ 4 by decide) (show iNz 0 = false from rfl) (nB_small ha) (nB_small hb)] at h
 have h8 := u8_flag (k := (addR (fN f) 0 false a b).2) (by omega)
 simp only [c_addsub_Add, valsS, val1, valXs, valX, Sh.kinds, List.drop_succ_cons, List.drop_zero, List.length_cons, List.length_nil, w64_u, w8_u, u64_wd, hu, h8, u8_0, resVal] at h
 exact h
theorem rm_mul {f : Int} (hu : u8 f = f) (hf : fN f < 4) {a b : Nat} (ha : a < W128) (hb : b < W128) (hk : (mulR (fN f) 0 false a b).2 ≤ 24) (w : World) (hG : Gl gG w) :
  Calls Tryz.prog 19 #[.int .u8 f, vE0, vB a, vB b] w fun e w' => e = .returned (vR (mulR (fN f) 0 false a b)) ∧ Bel w w' := by
 have h := calls_of_pc (e_mul_Mul [f, 0, 0, wd a 1, wd a 0, wd b 1, wd b 0] rfl).2 Tryz.func19 (by kernel_rfl) (by kernel_rfl) w hG
 simp only [] at h
 rw [k_mul_Mul (φ := fN f) (M := 0) rfl hf (show (u8 0).toNat = 0 by decide) (show u8 0 ≤ 4 by decide) (show iNz 0 = false from rfl) (nB_small ha) (nB_small hb)] at h
 have h8 := u8_flag (k := (mulR (fN f) 0 false a b).2) (by omega)
 simp only [c_mul_Mul, valsS, val1, valXs, valX, Sh.kinds, List.drop_succ_cons, List.drop_zero, List.length_cons, List.length_nil, w64_u, w8_u, u64_wd, hu, h8, u8_0, resVal] at h
 exact h
theorem rm_class {f : Int} (hu : u8 f = f) {a : Nat} (ha : a < W128) (w : World) (hG : Gl gG w) :
  Calls Tryz.prog 6 #[.int .u8 f, vB a] w fun e w' => e = .returned (.tuple #[.int .u8 (if fN f < 4 then ((clsF (fN f) a : Nat) : Int) else 0), .bool (if fN f < 4 then FP.sgn (fN f) a else false)]) ∧ Bel w w' := by
 have h := calls_of_pc (e_class_Of [f, wd a 1, wd a 0] rfl).2 Tryz.func6 (by kernel_rfl) (by kernel_rfl) w hG
 simp only [] at h
 by_cases hf : fN f < 4
 ·rw [k_class_Of (φ := fN f) rfl hf (nB_small ha)] at h
  simp only [if_pos hf]
  simp only [c_class_Of, valsS, val1, valXs, valX, Sh.kinds, List.drop_succ_cons, List.drop_zero, List.length_cons, List.length_nil, w64_u, w8_u, u64_wd, hu, clsF_u8, b2i_ne, resVal] at h
  exact h
 ·rw [s_class_Of, if_neg hf] at h
  simp only [if_neg hf]
  simp only [c_class_Of, valsS, val1, valXs, valX, Sh.kinds, List.drop_succ_cons, List.drop_zero, List.length_cons, List.length_nil, w64_u, w8_u, u64_wd, hu, u8_0, resVal] at h
  exact h
theorem rm_known {f : Int} (hu : u8 f = f) (w : World) (hG : Gl gG w) :
  Calls Tryz.prog 13 #[.int .u8 f] w fun e w' => e = .returned (.bool (decide (f < 4))) ∧ Bel w w' := by
 have h := calls_of_pc (e_format_Known [f] rfl).2 Tryz.func13 (by kernel_rfl) (by kernel_rfl) w hG
 simp only [] at h
 have e : F_format_Known [f] = [b2i (decide (f < 4))] := by
  rw [F_format_Known, t_format_Known, treeF_leaf rfl]; simp only [sxs, hu]
 rw [e] at h
 simp only [c_format_Known, valsS, val1, valXs, valX, Sh.kinds, List.drop_succ_cons, List.drop_zero, List.length_cons, List.length_nil, w8_u, hu, b2i_ne, resVal] at h
 exact h
theorem rm_nought {f : Int} (hu : u8 f = f) (hf : fN f < 4) (s : Bool) (w : World) (hG : Gl gG w) :
  Calls Tryz.prog 15 #[.int .u8 f, .bool s] w fun e w' => e = .returned (vB (FP.mk (fN f) s 0)) ∧ Bel w w' := by
 have h := calls_of_pc (e_format_Nought [f, b2i s] rfl).2 Tryz.func15 (by kernel_rfl) (by kernel_rfl) w hG
 simp only [] at h
 rw [k_format_Nought (φ := fN f) (τ := s) rfl hf (iNz_b2i s)] at h
 simp only [c_format_Nought, valsS, val1, valXs, valX, Sh.kinds, List.drop_succ_cons, List.drop_zero, List.length_cons, List.length_nil, w64_u, w8_u, u64_wd, hu, b2i_ne, resVal] at h
 exact h
theorem rm_emax {f : Int} (hu : u8 f = f) (w : World) (hG : Gl gG w) :
  Calls Tryz.prog 17 #[.int .u8 f] w fun e w' => e = .returned (.int .i64 (FP.fE (fN f) : Int)) ∧ Bel w w' := by
 have h := calls_of_pc (e_format_Emax [f] rfl).2 Tryz.func17 (by kernel_rfl) (by kernel_rfl) w hG
 simp only [] at h
 rw [k_format_Emax (φ := fN f) rfl] at h
 have e := i64_fE (fN f)
 simp only [c_format_Emax, valsS, val1, valXs, valX, Sh.kinds, List.drop_succ_cons, List.drop_zero, List.length_cons, List.length_nil, w64_i, w8_u, hu, e, resVal] at h
 exact h
theorem rm_one {f : Int} (hu : u8 f = f) (hf : fN f < 4) (w : World) (hG : Gl gG w) :
  Calls Tryz.prog 16 #[.int .u8 f, .bool false, .int .i64 (FP.fE (fN f) : Int), .agg #[.int .u64 0, .int .u64 0]] w fun e w' => e = .returned (vB (pwB (fN f) 0)) ∧ Bel w w' := by
 have h := calls_of_pc (e_format_Make [f, 0, i64 (FP.fE (fN f) : Int), 0, 0] rfl).2 Tryz.func16 (by kernel_rfl) (by kernel_rfl) w hG
 simp only [] at h
 rw [k_one (φ := fN f) rfl hf] at h
 have e := i64_fE (fN f)
 have e0 : FP.mk (fN f) false (FP.oneC (fN f)) = pwB (fN f) 0 := by unfold pwB; rw [Nat.zero_mul, Nat.add_zero]
 rw [e0] at h
 simp only [c_format_Make, valsS, val1, valXs, valX, Sh.kinds, List.drop_succ_cons, List.drop_zero, List.length_cons, List.length_nil, w64_i, w64_u, w8_u, hu, e, u64_0, u64_wd, resVal] at h
 exact h
theorem rm_rem {f : Int} (hu : u8 f = f) (hf : fN f < 4) {a b r : Nat} (ha : a < W128) (hb : b < W128) (hr : remR (fN f) a b = (r, 0)) (w : World) (hG : Gl gG w) :
  Calls Tryz.prog 20 #[.int .u8 f, vB a, vB b] w fun e w' => e = .returned (vR (r, 0)) ∧ Bel w w' := by
 have h := calls_of_pc (e_rem_Rem [f, wd a 1, wd a 0, wd b 1, wd b 0] rfl).2 Tryz.func20 (by kernel_rfl) (by kernel_rfl) w hG
 simp only [] at h
 rw [k_rem_Rem (φ := fN f) rfl hf (nB_small ha) (nB_small hb), hr] at h
 simp only [c_rem_Rem, valsS, val1, valXs, valX, Sh.kinds, List.drop_succ_cons, List.drop_zero, List.length_cons, List.length_nil, w64_u, w8_u, u64_wd, hu, Int.natCast_zero, u8_0, resVal] at h
 exact h
theorem rm_goes (w : World) (hG : Gl gG w) : Calls Tryz.prog 14 #[] w fun e w' => e = .returned (.bool true) ∧ Bel w w' := by
 have h := calls_of_pc (e_law23_goes [] rfl).2 Tryz.func14 (by kernel_rfl) (by kernel_rfl) w hG
 have e : F_law23_goes [] = [1] := by kernel_rfl
 simp only [] at h
 rw [e] at h
 exact h
end Go.Proofs.YtkfbdlidigmfbaaGreatDoor
