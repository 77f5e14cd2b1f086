import Derived.Test.YtngiodcdelfdmaaGreatDoorZGR6
import Derived.Test.YtngiodcdelfdmaaGreatDoorZHR6
import Derived.Test.YtngiodcdelfdmaaGreatDoorZIR6
import Derived.Test.YtngiodcdelfdmaaGreatDoorZJR6
import Derived.Test.YtngiodcdelfdmaaGreatDoorZNR6
import Derived.Test.YtngiodcdelfdmaaGreatDoorZQR6
import Derived.Test.YtngiodcdelfdmaaGreatDoorZRR6
import Derived.Test.YtngiodcdelfdmaaGreatDoorP17R6
import Derived.Test.YtngiodcdelfdmaaGreatDoorP28R6
import Derived.Test.YtngiodcdelfdmaaGreatDoorP19aR6
import Derived.Test.YtngiodcdelfdmaaGreatDoorP20wR6
import Derived.Test.YtngiodcdelfdmaaGreatDoorH1R6
namespace Go.Proofs.YtngiodcdelfdmaaGreatDoor
set_option linter.unusedVariables false
set_option linter.unusedSimpArgs false
set_option maxRecDepth 100000
open Go.RowKit
theorem treeFN_leaf {Φ : Phi} {a : SV} {l : List Int} {xs : List X} (h : xsA a = xs) : treeFN Φ (.leaf a) l = xs.map (X.ev l) := by
 unfold treeFN; simp only [evalL, h, evs_ev, id]
theorem treeFN_ite {Φ : Phi} {c : X} {a b : Tr' SV} {l : List Int} : treeFN Φ (.ite c a b) l = if iNz (c.ev l) = true then treeFN Φ a l else treeFN Φ b l := by
 unfold treeFN
 simp only [evalL]
 cases iNz (c.ev l) <;> rfl
theorem treeFN_call {Φ : Phi} {f : Nat} {args : List X} {base n : Nat} {t : Tr' SV} {l : List Int} {r : List Int} (h : Φ f (args.map (X.ev l)) = r) (hn : r.length = n) : treeFN Φ (.call f args base n t) l = treeFN Φ t (l ++ r) := by
 unfold treeFN
 simp only [evalL, evs_ev, h]
 rw [show Nat.beq r.length n = true by rw [hn]; exact Nat.beq_refl n]
theorem ev_var_n (l : List Int) (i : Nat) : X.ev l (.var .nat i) = (((getI l i).toNat : Nat) : Int) := rfl
theorem ev_dlen (l : List Int) (a : X) : X.ev l (.dlen a) = ((dlenN (X.ev l a).toNat : Nat) : Int) := by
 rw [X.ev_den, X.den, X.ev_den]; rfl
theorem ev_var_w (l : List Int) (i : Nat) : X.ev l (.var (.int .u32) i) = IntKind.u32.wrap (getI l i) := by rw [X.ev]; exact wrapC_eq _ _
theorem xsA_agg (l : List SV) : xsA (.agg l) = l.map xX := by rw [xsA]
theorem xX_int (k : IntKind) (x : X) : xX (.int k x) = x := by rw [xX]
set_option linter.defProp false in
def nxs := And.intro @xsA_agg (And.intro @xX_int (And.intro @l_an (And.intro @l_ca (And.intro @l_na (And.intro @l_mc (And.intro @l_mn (And.intro @getI_0 (And.intro @getI_s (And.intro @oB_eq (And.intro @oW_eq (And.intro @ev_bin (And.intro @ev_conv (And.intro @ev_ite (And.intro @ev_lit (And.intro @ev_var_u (And.intro @ev_var_i (And.intro @ev_var_8 (And.intro @ev_var_b (And.intro @ev_var_t (And.intro @ev_not (And.intro @ev_and (And.intro @ev_beq (And.intro @ev_max (And.intro @ev_min (And.intro @op_eql (And.intro @op_neq (And.intro @op_lss (And.intro @op_leq (And.intro @op_gtr (And.intro @op_geq (And.intro @op_add (And.intro @op_sub (And.intro @iNz_b2i (And.intro @w64_u (And.intro @w64_i (And.intro @w8_u (And.intro @u64_wd (And.intro @u64_u64 (And.intro @i64_i64 (And.intro @u8_u8 (And.intro @ev_var_n (And.intro @ev_var_w (And.intro @ev_dlen (@toNat_c))))))))))))))))))))))))))))))))))))))))))))
theorem tnT {Φ : Phi} {c : X} {a b : Tr' SV} {l r : List Int} (h : iNz (c.ev l) = true) (k : treeFN Φ a l = r) : treeFN Φ (.ite c a b) l = r := by rw [treeFN_ite, if_pos h]; exact k
theorem tnF {Φ : Phi} {c : X} {a b : Tr' SV} {l r : List Int} (h : iNz (c.ev l) = false) (k : treeFN Φ b l = r) : treeFN Φ (.ite c a b) l = r := by rw [treeFN_ite, if_neg (by rw [h]; exact Bool.false_ne_true)]; exact k
theorem sz_mono {n j k : Nat} (h : n < 2 ^ j) (hk : j ≤ k) : n < 2 ^ k := Nat.lt_of_lt_of_le h (Nat.pow_le_pow_right (by decide) hk)
theorem sz_shl {n j k : Nat} (h : n < 2 ^ j) : n * 2 ^ k < 2 ^ (j + k) := by rw [Nat.pow_add]; exact Nat.mul_lt_mul_of_pos_right h (Nat.pow_pos (by decide))
theorem sz_mul {n m j k : Nat} (h : n < 2 ^ j) (h2 : m < 2 ^ k) : n * m < 2 ^ (j + k) := by rw [Nat.pow_add]; exact Nat.mul_lt_mul'' h h2
theorem sz_add {n m j : Nat} (h : n < 2 ^ j) (h2 : m < 2 ^ j) : n + m < 2 ^ (j + 1) := by rw [Nat.pow_succ]; omega
theorem sz_sub {n m j : Nat} (h : n < 2 ^ j) : n - m < 2 ^ j := Nat.lt_of_le_of_lt (Nat.sub_le _ _) h
theorem sz_div {n m j : Nat} (h : n < 2 ^ j) : n / m < 2 ^ j := Nat.lt_of_le_of_lt (Nat.div_le_self _ _) h
theorem sz_mod {n m j : Nat} (h : n < 2 ^ j) : n % m < 2 ^ j := Nat.lt_of_le_of_lt (Nat.mod_le _ _) h
theorem v_Of {x : Int} {n : Nat} (hx : u64 x = (n : Int)) : fOf [x] = [(n : Int)] := by
 unfold fOf gU; rw [getI_0, w64_u, hx]; rfl
theorem v_Big (h l : Int) : fBig [h, l] = [((nB h l : Nat) : Int)] := by
 unfold fBig gU nB; rw [getI_0, getI_s, getI_0, w64_u, w64_u]; rfl
theorem gN_0 (a : Nat) (l : List Int) : gN ((a : Int) :: l) 0 = a := by unfold gN; rw [getI_0]; omega
theorem gN_1 (x : Int) (a : Nat) (l : List Int) : gN (x :: (a : Int) :: l) 1 = a := by unfold gN; rw [getI_s, getI_0]; omega
theorem gW_1 (x y : Int) (l : List Int) : gW (x :: y :: l) 1 = i64 y := by unfold gW; rw [getI_s, getI_0, w64_i]
theorem v_Cmp {a b j k : Nat} (ha : a < 2 ^ j) (hb : b < 2 ^ k) (hj : j ≤ 1073741824) (hk : k ≤ 1073741824) : fCmp [(a : Int), (b : Int)] = [cmpI a b] := by
 unfold fCmp; rw [gN_0, gN_1, okN_of ha hj, okN_of hb hk]; rfl
theorem v_Add {a b j k : Nat} (ha : a < 2 ^ j) (hb : b < 2 ^ k) (hj : j ≤ 1073741824) (hk : k ≤ 1073741824) : fAdd [(a : Int), (b : Int)] = [((a + b : Nat) : Int)] := by
 unfold fAdd; rw [gN_0, gN_1, okN_of ha hj, okN_of hb hk]; rfl
theorem v_Sub {a b j : Nat} (ha : a < 2 ^ j) (hb : b ≤ a) (hj : j ≤ 1073741824) : fSub [(a : Int), (b : Int)] = [((a - b : Nat) : Int)] := by
 unfold fSub; rw [gN_0, gN_1, okN_of ha hj, decide_eq_true hb]; rfl
theorem v_Mul {a b j k : Nat} (ha : a < 2 ^ j) (hb : b < 2 ^ k) (hj : j ≤ 1073741824) (hk : k ≤ 1073741824) : fMul [(a : Int), (b : Int)] = [((a * b : Nat) : Int)] := by
 unfold fMul; rw [gN_0, gN_1, okN_of ha hj, okN_of hb hk]; rfl
theorem v_Len {a j : Nat} (ha : a < 2 ^ j) (hj : j ≤ 1073741824) : fLen [(a : Int)] = [((lenX a : Nat) : Int)] := by
 unfold fLen; rw [gN_0, okN_of ha hj]; rfl
theorem okS_is {a j k : Nat} {n : Int} (ha : a < 2 ^ j) (hj : j ≤ 1073741824) (hn : n = (k : Int)) (hk : k ≤ 1073741824) : okS a n = true := by
 subst hn
 unfold okS; rw [okN_of ha hj, decide_eq_true (by omega), decide_eq_true (by omega)]; rfl
theorem v_Shl {a j k : Nat} {n : Int} (ha : a < 2 ^ j) (hj : j ≤ 1073741824) (hn : i64 n = (k : Int)) (hk : k ≤ 1073741824) : fShl [(a : Int), n] = [((a * 2 ^ k : Nat) : Int)] := by
 unfold fShl; rw [gN_0, gW_1, if_pos (okS_is ha hj hn hk), hn, Int.toNat_natCast]
theorem v_Shr {a j k : Nat} {n : Int} (ha : a < 2 ^ j) (hj : j ≤ 1073741824) (hn : i64 n = (k : Int)) (hk : k ≤ 1073741824) : fShr [(a : Int), n] = [((a / 2 ^ k : Nat) : Int)] := by
 unfold fShr; rw [gN_0, gW_1, if_pos (okS_is ha hj hn hk), hn, Int.toNat_natCast]
theorem v_Bit {a j k : Nat} {n : Int} (ha : a < 2 ^ j) (hj : j ≤ 1073741824) (hn : i64 n = (k : Int)) (hk : k ≤ 1073741824) : fBit [(a : Int), n] = [b2i (a.testBit k)] := by
 unfold fBit; rw [gN_0, gW_1, if_pos (okS_is ha hj hn hk), hn, Int.toNat_natCast]
theorem v_Dig {a j k : Nat} {n : Int} (ha : a < 2 ^ j) (hj : j ≤ 1073741824) (hn : i64 n = (k : Int)) (hk : k ≤ 1000) : fDig [(a : Int), n] = [((dg a k : Nat) : Int)] := by
 unfold fDig okD; rw [gN_0, gW_1, okN_of ha hj, hn, decide_eq_true (by omega), decide_eq_true (by omega), Int.toNat_natCast]; rfl
theorem lenX_eq (n : Nat) : lenX n = FP.lenN n := rfl
end Go.Proofs.YtngiodcdelfdmaaGreatDoor
namespace Go.Proofs.YtngiodcdelfdmaaGreatDoor
set_option linter.unusedVariables false
set_option linter.unusedSimpArgs false
set_option maxRecDepth 100000
open Go.RowKit
theorem v_Cut {a j k : Nat} {n : Int} (ha : a < 2 ^ j) (hj : j ≤ 1073741824) (hn : i64 n = (k : Int)) (hk : k ≤ 1073741824) : F_ref01_Cut [(a : Int), n] = [((a % 2 ^ k : Nat) : Int)] := by
 rw [F_ref01_Cut, t_ref01_Cut]
 refine (treeFN_call (r := [((a / 2 ^ k : Nat) : Int)]) (by simp only [nxs, ph_RL1_ref01_Shr]; exact v_Shr ha hj (by rw [i64_i64]; exact hn) hk) (by rfl)).trans ?_
 refine (treeFN_call (r := [((a / 2 ^ k * 2 ^ k : Nat) : Int)]) (by simp only [nxs, ph_RL1_ref01_Shl]; exact v_Shl (sz_div ha) hj (by rw [i64_i64]; exact hn) hk) (by rfl)).trans ?_
 refine (treeFN_call (r := [((a - a / 2 ^ k * 2 ^ k : Nat) : Int)]) (by simp only [nxs, ph_RL1_ref01_Sub]; exact v_Sub ha (Nat.div_mul_le_self _ _) hj) (by rfl)).trans ?_
 rw [treeFN_leaf rfl]
 simp only [nxs]
 rw [show a - a / 2 ^ k * 2 ^ k = a % 2 ^ k by have := Nat.div_add_mod a (2 ^ k); rw [Nat.mul_comm] at this; omega]
theorem v_Full {k : Nat} {n : Int} (hn : i64 n = (k : Int)) (hk : k ≤ 1073741824) : F_ref01_Full [n] = [((2 ^ k : Nat) : Int)] := by
 rw [F_ref01_Full, t_ref01_Full]
 refine (treeFN_call (r := [((1 : Nat) : Int)]) (by simp only [nxs, ph_RL1_ref01_Of]; exact v_Of (by rfl)) (by rfl)).trans ?_
 refine (treeFN_call (r := [((1 * 2 ^ k : Nat) : Int)]) (by simp only [nxs, ph_RL1_ref01_Shl]; exact v_Shl (j := 1) (by decide) (by decide) (by rw [i64_i64]; exact hn) hk) (by rfl)).trans ?_
 rw [treeFN_leaf rfl]
 simp only [nxs, Nat.one_mul]
theorem dg_wd (n i : Nat) : iOp .add .u64 ((dg n (2 * i) : Nat) : Int) (iOp .shl .u64 ((dg n (2 * i + 1) : Nat) : Int) 32) = wd n i := by
 show IntKind.u64.wrap (_ + _) = _
 rw [w64_u]
 have h0 := dg_lt n (2 * i); have h1 := dg_lt n (2 * i + 1)
 unfold B32 at h0 h1
 have e1 : iOp .shl .u64 ((dg n (2 * i + 1) : Nat) : Int) 32 = ((dg n (2 * i + 1) * 4294967296 : Nat) : Int) := by
  show IntKind.u64.wrap (_ * 2 ^ 32) = _
  rw [w64_u, show ((dg n (2 * i + 1) : Nat) : Int) * 2 ^ 32 = ((dg n (2 * i + 1) * 4294967296 : Nat) : Int) by rw [Int.natCast_mul]; rfl]
  exact u64_nat' _ (by rw [W64_val]; omega)
 rw [e1, ← Int.natCast_add, u64_nat' _ (by rw [W64_val]; omega), wd_cast]
 congr 1
 have e2 : W64 ^ i = B32 ^ (2 * i) := by rw [Nat.pow_mul]; rfl
 unfold dg
 rw [e2, Nat.pow_succ, ← Nat.div_div_eq_div_mul, W64_val]
 unfold B32
 omega
theorem k_dig (n i : Nat) {j : Nat} {x : Int} (h : n < 2 ^ j) (hj : j ≤ 1073741824) (hx : x = (i : Int)) (hi : i ≤ 100) : fDig [(n : Int), x] = [((dg n i : Nat) : Int)] := v_Dig h hj (by rw [hx, i64_nat (by omega)]) (by omega)
theorem v_Bits {n j : Nat} (h : n < 2 ^ j) (hj : j ≤ 1073741824) : F_ref01_Bits [(n : Int)] = oB n := by
 rw [F_ref01_Bits, t_ref01_Bits]
 refine (treeFN_call (r := [((dg n 0 : Nat) : Int)]) (by simp only [nxs, ph_RL1_ref01_digit]; exact k_dig n 0 h hj (by rfl) (by decide)) (by rfl)).trans ?_
 refine (treeFN_call (r := [((dg n 1 : Nat) : Int)]) (by simp only [nxs, ph_RL1_ref01_digit]; exact k_dig n 1 h hj (by rfl) (by decide)) (by rfl)).trans ?_
 refine (treeFN_call (r := [((dg n 2 : Nat) : Int)]) (by simp only [nxs, ph_RL1_ref01_digit]; exact k_dig n 2 h hj (by rfl) (by decide)) (by rfl)).trans ?_
 refine (treeFN_call (r := [((dg n 3 : Nat) : Int)]) (by simp only [nxs, ph_RL1_ref01_digit]; exact k_dig n 3 h hj (by rfl) (by decide)) (by rfl)).trans ?_
 rw [treeFN_leaf rfl]
 simp only [nxs, dg_wrap]
 rw [show iOp .add .u64 ((dg n 2 : Nat) : Int) (iOp .shl .u64 ((dg n 3 : Nat) : Int) 32) = wd n 1 from dg_wd n 1, show iOp .add .u64 ((dg n 0 : Nat) : Int) (iOp .shl .u64 ((dg n 1 : Nat) : Int) 32) = wd n 0 from dg_wd n 0]
theorem u8_fN (f : Int) : u8 f = ((fN f : Nat) : Int) := by have := u8_rng f; unfold fN; omega
theorem v_Width (f : Int) : F_ref07_Width [f] = [((FP.fW (fN f) : Nat) : Int)] := by
 rw [F_ref07_Width, t_ref07_Width]
 simp only [treeF_ite, nxs, beq_iff_eq, u8_fN f]
 rcases (show fN f = 0 ∨ fN f = 1 ∨ fN f = 2 ∨ fN f = 3 ∨ 4 ≤ fN f by omega) with h | h | h | h | h
 ·rw [h, if_pos (by omega), treeF_leaf rfl]; rfl
 ·rw [h, if_neg (by omega), if_pos (by omega), treeF_leaf rfl]; rfl
 ·rw [h, if_neg (by omega), if_neg (by omega), if_pos (by omega), treeF_leaf rfl]; rfl
 ·rw [h, if_neg (by omega), if_neg (by omega), if_neg (by omega), if_pos (by omega), treeF_leaf rfl]; rfl
 ·obtain ⟨m, hm⟩ : ∃ m, fN f = m + 4 := ⟨fN f - 4, by omega⟩
  rw [hm, if_neg (by omega), if_neg (by omega), if_neg (by omega), if_neg (by omega), treeF_leaf rfl]; rfl
theorem v_Prec (f : Int) : F_ref07_Prec [f] = [((FP.fP (fN f) : Nat) : Int)] := by
 rw [F_ref07_Prec, t_ref07_Prec]
 simp only [treeF_ite, nxs, beq_iff_eq, u8_fN f]
 rcases (show fN f = 0 ∨ fN f = 1 ∨ fN f = 2 ∨ fN f = 3 ∨ 4 ≤ fN f by omega) with h | h | h | h | h
 ·rw [h, if_pos (by omega), treeF_leaf rfl]; rfl
 ·rw [h, if_neg (by omega), if_pos (by omega), treeF_leaf rfl]; rfl
 ·rw [h, if_neg (by omega), if_neg (by omega), if_pos (by omega), treeF_leaf rfl]; rfl
 ·rw [h, if_neg (by omega), if_neg (by omega), if_neg (by omega), if_pos (by omega), treeF_leaf rfl]; rfl
 ·obtain ⟨m, hm⟩ : ∃ m, fN f = m + 4 := ⟨fN f - 4, by omega⟩
  rw [hm, if_neg (by omega), if_neg (by omega), if_neg (by omega), if_neg (by omega), treeF_leaf rfl]; rfl
theorem v_Emax (f : Int) : F_ref07_Emax [f] = [((FP.fE (fN f) : Nat) : Int)] := by
 rw [F_ref07_Emax, t_ref07_Emax]
 simp only [treeF_ite, nxs, beq_iff_eq, u8_fN f]
 rcases (show fN f = 0 ∨ fN f = 1 ∨ fN f = 2 ∨ fN f = 3 ∨ 4 ≤ fN f by omega) with h | h | h | h | h
 ·rw [h, if_pos (by omega), treeF_leaf rfl]; rfl
 ·rw [h, if_neg (by omega), if_pos (by omega), treeF_leaf rfl]; rfl
 ·rw [h, if_neg (by omega), if_neg (by omega), if_pos (by omega), treeF_leaf rfl]; rfl
 ·rw [h, if_neg (by omega), if_neg (by omega), if_neg (by omega), if_pos (by omega), treeF_leaf rfl]; rfl
 ·obtain ⟨m, hm⟩ : ∃ m, fN f = m + 4 := ⟨fN f - 4, by omega⟩
  rw [hm, if_neg (by omega), if_neg (by omega), if_neg (by omega), if_neg (by omega), treeF_leaf rfl]; rfl
theorem nB_128 (a b : Int) : nB a b < 2 ^ 128 := by have := nB_lt a b; rw [W128_pow] at this; exact this
theorem v_r07Cut (f a b : Int) : F_ref07_Cut [f, a, b] = [((nB a b % 2 ^ FP.fW (fN f) : Nat) : Int)] := by
 have hW := fW_le (fN f)
 rw [F_ref07_Cut, t_ref07_Cut]
 refine (treeFN_call (r := [((nB a b : Nat) : Int)]) (by simp only [nxs, ph_RL3_ref01_Big]; exact (v_Big _ _).trans (by rw [nB_u])) (by rfl)).trans ?_
 refine (treeFN_call (r := [((FP.fW (fN f) : Nat) : Int)]) (by simp only [nxs, ph_RL3_ref07_Width]; exact (v_Width _).trans (by rw [fN_u])) (by rfl)).trans ?_
 refine (treeFN_call (r := [((nB a b % 2 ^ FP.fW (fN f) : Nat) : Int)]) (by simp only [nxs, ph_RL3_ref01_Cut]; exact v_Cut (nB_128 a b) (by decide) (by rw [i64_i64, i64_fW]) (by omega)) (by rfl)).trans ?_
 rw [treeFN_leaf rfl]
 simp only [nxs]
theorem i64_less {a b : Nat} {x : Int} (h : b ≤ a) (h2 : a ≤ 1000000) (hx : x = (b : Int)) : i64 ((a : Int) - x) = ((a - b : Nat) : Int) := by rw [hx]; exact i64_sub h h2
theorem v_Split (f a b : Int) (hf : fN f < 4) : F_ref07_Split [f, a, b] = [b2i (FP.sgn (fN f) (nB a b)), ((FP.cod (fN f) (nB a b) / 2 ^ (FP.fP (fN f) - 1) : Nat) : Int), ((FP.cod (fN f) (nB a b) % 2 ^ (FP.fP (fN f) - 1) : Nat) : Int)] := by
 obtain ⟨n1, n2, n3, n4, n5, n6, n7, n8, n9⟩ := FP.fmtN hf
 have hn := nB_128 a b
 have hcl := FP.cod_lt (fN f) (nB a b)
 rw [F_ref07_Split, t_ref07_Split]
 refine (treeFN_call (r := [((FP.fW (fN f) : Nat) : Int)]) (by simp only [nxs, ph_RL4_ref07_Width]; exact (v_Width _).trans (by rw [fN_u])) (by rfl)).trans ?_
 refine tnF (by simp only [nxs, i64_fW, beq_eq_false_iff_ne]; omega) ?_
 refine (treeFN_call (r := [((nB a b % 2 ^ FP.fW (fN f) : Nat) : Int)]) (by simp only [nxs, ph_RL4_ref07_Cut]; exact (v_r07Cut _ _ _).trans (by rw [fN_u, nB_u])) (by rfl)).trans ?_
 refine (treeFN_call (r := [((FP.fW (fN f) : Nat) : Int)]) (by simp only [nxs, ph_RL4_ref07_Width]; exact (v_Width _).trans (by rw [fN_u])) (by rfl)).trans ?_
 have hc : nB a b % 2 ^ FP.fW (fN f) % 2 ^ (FP.fW (fN f) - 1) = FP.cod (fN f) (nB a b) := by
  unfold FP.cod
  exact Nat.mod_mod_of_dvd _ (Nat.pow_dvd_pow 2 (by omega))
 refine (treeFN_call (r := [((FP.cod (fN f) (nB a b) : Nat) : Int)]) (by simp only [nxs, ph_RL4_ref01_Cut]; exact (v_Cut (k := FP.fW (fN f) - 1) (sz_mod hn) (by decide) (by rw [i64_fW, i64_i64]; exact i64_less (by omega) (by omega) (by rfl)) (by omega)).trans (by rw [hc])) (by rfl)).trans ?_
 have hs : (nB a b % 2 ^ FP.fW (fN f)).testBit (FP.fW (fN f) - 1) = FP.sgn (fN f) (nB a b) := by
  unfold FP.sgn; rw [Nat.testBit_mod_two_pow, decide_eq_true (by omega), Bool.true_and]
 generalize FP.cod (fN f) (nB a b) = c at *
 have hc1 : c < 2 ^ 128 := sz_mono hcl (by omega)
 refine (treeFN_call (r := [((FP.fP (fN f) : Nat) : Int)]) (by simp only [nxs, ph_RL4_ref07_Prec]; exact (v_Prec _).trans (by rw [fN_u])) (by rfl)).trans ?_
 refine (treeFN_call (r := [((c / 2 ^ (FP.fP (fN f) - 1) : Nat) : Int)]) (by simp only [nxs, ph_RL4_ref01_Shr]; exact v_Shr hc1 (by decide) (by rw [i64_fP, i64_i64]; exact i64_less (by omega) (by omega) (by rfl)) (by omega)) (by rfl)).trans ?_
 refine (treeFN_call (r := [wd (c / 2 ^ (FP.fP (fN f) - 1)) 1, wd (c / 2 ^ (FP.fP (fN f) - 1)) 0]) (by simp only [nxs, ph_RL4_ref01_Bits]; exact (v_Bits (sz_div hc1) (by decide)).trans (oB_eq _)) (by rfl)).trans ?_
 refine (treeFN_call (r := [((FP.fW (fN f) : Nat) : Int)]) (by simp only [nxs, ph_RL4_ref07_Width]; exact (v_Width _).trans (by rw [fN_u])) (by rfl)).trans ?_
 refine (treeFN_call (r := [b2i (FP.sgn (fN f) (nB a b))]) (by simp only [nxs, ph_RL4_ref01_Bit]; exact (v_Bit (k := FP.fW (fN f) - 1) (sz_mod hn) (by decide) (by rw [i64_fW, i64_i64]; exact i64_less (by omega) (by omega) (by rfl)) (by omega)).trans (by rw [hs])) (by rfl)).trans ?_
 refine (treeFN_call (r := [((FP.fP (fN f) : Nat) : Int)]) (by simp only [nxs, ph_RL4_ref07_Prec]; exact (v_Prec _).trans (by rw [fN_u])) (by rfl)).trans ?_
 refine (treeFN_call (r := [((c % 2 ^ (FP.fP (fN f) - 1) : Nat) : Int)]) (by simp only [nxs, ph_RL4_ref01_Cut]; exact v_Cut hc1 (by decide) (by rw [i64_fP, i64_i64]; exact i64_less (by omega) (by omega) (by rfl)) (by omega)) (by rfl)).trans ?_
 rw [treeFN_leaf rfl]
 simp only [nxs]
 have hq : c / 2 ^ (FP.fP (fN f) - 1) < 32768 := by
  rw [Nat.div_lt_iff_lt_mul (FP.two_pow_pos _), show (32768 : Nat) = 2 ^ 15 by decide, ← Nat.pow_add]
  exact Nat.lt_of_lt_of_le hcl (Nat.pow_le_pow_right (by decide) (by omega))
 have e1 : wd (c / 2 ^ (FP.fP (fN f) - 1)) 0 = ((c / 2 ^ (FP.fP (fN f) - 1) : Nat) : Int) := by
  rw [wd_cast, Nat.pow_zero, Nat.div_one, Nat.mod_eq_of_lt (by rw [W64_val]; omega)]
 rw [e1, i64_nat (by omega)]
theorem v_Make {f n e : Int} {x j : Nat} (hf : fN f < 4) (hx : x < 2 ^ j) (hj : j ≤ 536870912) : F_ref07_Make [f, n, e, (x : Int)] = oB (makeN (fN f) (iNz n) (i64 e) x) := by
 refine Eq.trans ?_ (rB_eq _)
 obtain ⟨n1, n2, n3, n4, n5, n6, n7, n8, n9⟩ := FP.fmtN hf
 have er := i64_rng e
 unfold makeN FP.mk
 rw [F_ref07_Make, t_ref07_Make]
 refine (treeFN_call (r := [((FP.fW (fN f) : Nat) : Int)]) (by simp only [nxs, ph_RL4_ref07_Width]; exact (v_Width _).trans (by rw [fN_u])) (by rfl)).trans ?_
 refine tnF (by simp only [nxs, i64_fW, beq_eq_false_iff_ne]; omega) ?_
 by_cases h1 : i64 e < 0
 ·refine tnT (by simp only [nxs]; exact decide_eq_true h1) ?_
  rw [if_pos (.inl h1)]
  refine (treeFN_call (r := [((0 : Nat) : Int)]) (by simp only [nxs, ph_RL4_ref01_Of]; exact v_Of (by rfl)) (by rfl)).trans ?_
  refine (treeFN_call (r := [((FP.fW (fN f) : Nat) : Int)]) (by simp only [nxs, ph_RL4_ref07_Width]; exact (v_Width _).trans (by rw [fN_u])) (by rfl)).trans ?_
  refine (treeFN_call (r := [((FP.fP (fN f) : Nat) : Int)]) (by simp only [nxs, ph_RL4_ref07_Prec]; exact (v_Prec _).trans (by rw [fN_u])) (by rfl)).trans ?_
  refine (treeFN_call (r := [((0 % 2 ^ (FP.fW (fN f) - FP.fP (fN f)) : Nat) : Int)]) (by simp only [nxs, ph_RL4_ref01_Cut]; exact v_Cut (j := 64) (FP.two_pow_pos _) (by decide) (by rw [i64_fW, i64_fP, i64_i64]; exact i64_less (by omega) (by omega) (by rfl)) (by omega)) (by rfl)).trans ?_
  refine (treeFN_call (r := [((FP.fP (fN f) : Nat) : Int)]) (by simp only [nxs, ph_RL4_ref07_Prec]; exact (v_Prec _).trans (by rw [fN_u])) (by rfl)).trans ?_
  refine (treeFN_call (r := [((0 % 2 ^ (FP.fW (fN f) - FP.fP (fN f)) * 2 ^ (FP.fP (fN f) - 1) : Nat) : Int)]) (by simp only [nxs, ph_RL4_ref01_Shl]; exact v_Shl (j := 64) (sz_mod (FP.two_pow_pos _)) (by decide) (by rw [i64_fP, i64_i64]; exact i64_less (by omega) (by omega) (by rfl)) (by omega)) (by rfl)).trans ?_
  refine (treeFN_call (r := [((FP.fP (fN f) : Nat) : Int)]) (by simp only [nxs, ph_RL4_ref07_Prec]; exact (v_Prec _).trans (by rw [fN_u])) (by rfl)).trans ?_
  refine (treeFN_call (r := [((x % 2 ^ (FP.fP (fN f) - 1) : Nat) : Int)]) (by simp only [nxs, ph_RL4_ref01_Cut]; exact v_Cut hx (by omega) (by rw [i64_fP, i64_i64]; exact i64_less (by omega) (by omega) (by rfl)) (by omega)) (by rfl)).trans ?_
  have hA : 0 % 2 ^ (FP.fW (fN f) - FP.fP (fN f)) * 2 ^ (FP.fP (fN f) - 1) < 2 ^ 128 := sz_mono (Nat.lt_of_le_of_lt (Nat.le_add_right _ _) (code_lt (frac := 0) hf)) (by omega)
  have hB : x % 2 ^ (FP.fP (fN f) - 1) < 2 ^ 128 := sz_mono (Nat.mod_lt _ (FP.two_pow_pos _)) (by omega)
  generalize 0 % 2 ^ (FP.fW (fN f) - FP.fP (fN f)) * 2 ^ (FP.fP (fN f) - 1) = A at *
  generalize x % 2 ^ (FP.fP (fN f) - 1) = B at *
  refine (treeFN_call (r := [((A + B : Nat) : Int)]) (by simp only [nxs, ph_RL4_ref01_Add]; exact v_Add hA hB (by decide) (by decide)) (by rfl)).trans ?_
  cases hn : iNz n with
  | true =>
   refine tnT (by simp only [nxs]; exact hn) ?_
   refine (treeFN_call (r := [((FP.fW (fN f) : Nat) : Int)]) (by simp only [nxs, ph_RL4_ref07_Width]; exact (v_Width _).trans (by rw [fN_u])) (by rfl)).trans ?_
   refine (treeFN_call (r := [((2 ^ (FP.fW (fN f) - 1) : Nat) : Int)]) (by simp only [nxs, ph_RL4_ref01_Full]; exact v_Full (by rw [i64_fW, i64_i64]; exact i64_less (by omega) (by omega) (by rfl)) (by omega)) (by rfl)).trans ?_
   have hC : 2 ^ (FP.fW (fN f) - 1) < 2 ^ 128 := Nat.pow_lt_pow_right (by decide) (by omega)
   refine (treeFN_call (r := [((A + B + 2 ^ (FP.fW (fN f) - 1) : Nat) : Int)]) (by simp only [nxs, ph_RL4_ref01_Add]; exact v_Add (sz_add hA hB) hC (by decide) (by decide)) (by rfl)).trans ?_
   refine (treeFN_call (r := [wd (A + B + 2 ^ (FP.fW (fN f) - 1)) 1, wd (A + B + 2 ^ (FP.fW (fN f) - 1)) 0]) (by simp only [nxs, ph_RL4_ref01_Bits]; exact (v_Bits (j := 130) (sz_add (sz_add hA hB) (sz_mono hC (by decide))) (by decide)).trans (oB_eq _)) (by rfl)).trans ?_
   rw [treeFN_leaf rfl]; simp only [nxs]; rw [rB_eq, oB_eq, show A + B + Bool.toNat true * 2 ^ (FP.fW (fN f) - 1) = A + B + 2 ^ (FP.fW (fN f) - 1) by rw [show Bool.toNat true = 1 from rfl, Nat.one_mul]]
  | false =>
   refine tnF (by simp only [nxs]; exact hn) ?_
   refine (treeFN_call (r := [wd (A + B) 1, wd (A + B) 0]) (by simp only [nxs, ph_RL4_ref01_Bits]; exact (v_Bits (sz_add hA hB) (by decide)).trans (oB_eq _)) (by rfl)).trans ?_
   rw [treeFN_leaf rfl]; simp only [nxs]; rw [rB_eq, oB_eq, show A + B + Bool.toNat false * 2 ^ (FP.fW (fN f) - 1) = A + B by rw [show Bool.toNat false = 0 from rfl, Nat.zero_mul, Nat.add_zero]]
 ·refine tnF (by simp only [nxs]; exact decide_eq_false h1) ?_
  by_cases h2 : i64 e > 1048576
  ·refine tnT (by simp only [nxs]; exact decide_eq_true h2) ?_
   rw [if_pos (.inr h2)]
   refine (treeFN_call (r := [((0 : Nat) : Int)]) (by simp only [nxs, ph_RL4_ref01_Of]; exact v_Of (by rfl)) (by rfl)).trans ?_
   refine (treeFN_call (r := [((FP.fW (fN f) : Nat) : Int)]) (by simp only [nxs, ph_RL4_ref07_Width]; exact (v_Width _).trans (by rw [fN_u])) (by rfl)).trans ?_
   refine (treeFN_call (r := [((FP.fP (fN f) : Nat) : Int)]) (by simp only [nxs, ph_RL4_ref07_Prec]; exact (v_Prec _).trans (by rw [fN_u])) (by rfl)).trans ?_
   refine (treeFN_call (r := [((0 % 2 ^ (FP.fW (fN f) - FP.fP (fN f)) : Nat) : Int)]) (by simp only [nxs, ph_RL4_ref01_Cut]; exact v_Cut (j := 64) (FP.two_pow_pos _) (by decide) (by rw [i64_fW, i64_fP, i64_i64]; exact i64_less (by omega) (by omega) (by rfl)) (by omega)) (by rfl)).trans ?_
   refine (treeFN_call (r := [((FP.fP (fN f) : Nat) : Int)]) (by simp only [nxs, ph_RL4_ref07_Prec]; exact (v_Prec _).trans (by rw [fN_u])) (by rfl)).trans ?_
   refine (treeFN_call (r := [((0 % 2 ^ (FP.fW (fN f) - FP.fP (fN f)) * 2 ^ (FP.fP (fN f) - 1) : Nat) : Int)]) (by simp only [nxs, ph_RL4_ref01_Shl]; exact v_Shl (j := 64) (sz_mod (FP.two_pow_pos _)) (by decide) (by rw [i64_fP, i64_i64]; exact i64_less (by omega) (by omega) (by rfl)) (by omega)) (by rfl)).trans ?_
   refine (treeFN_call (r := [((FP.fP (fN f) : Nat) : Int)]) (by simp only [nxs, ph_RL4_ref07_Prec]; exact (v_Prec _).trans (by rw [fN_u])) (by rfl)).trans ?_
   refine (treeFN_call (r := [((x % 2 ^ (FP.fP (fN f) - 1) : Nat) : Int)]) (by simp only [nxs, ph_RL4_ref01_Cut]; exact v_Cut hx (by omega) (by rw [i64_fP, i64_i64]; exact i64_less (by omega) (by omega) (by rfl)) (by omega)) (by rfl)).trans ?_
   have hA : 0 % 2 ^ (FP.fW (fN f) - FP.fP (fN f)) * 2 ^ (FP.fP (fN f) - 1) < 2 ^ 128 := sz_mono (Nat.lt_of_le_of_lt (Nat.le_add_right _ _) (code_lt (frac := 0) hf)) (by omega)
   have hB : x % 2 ^ (FP.fP (fN f) - 1) < 2 ^ 128 := sz_mono (Nat.mod_lt _ (FP.two_pow_pos _)) (by omega)
   generalize 0 % 2 ^ (FP.fW (fN f) - FP.fP (fN f)) * 2 ^ (FP.fP (fN f) - 1) = A at *
   generalize x % 2 ^ (FP.fP (fN f) - 1) = B at *
   refine (treeFN_call (r := [((A + B : Nat) : Int)]) (by simp only [nxs, ph_RL4_ref01_Add]; exact v_Add hA hB (by decide) (by decide)) (by rfl)).trans ?_
   cases hn : iNz n with
   | true =>
    refine tnT (by simp only [nxs]; exact hn) ?_
    refine (treeFN_call (r := [((FP.fW (fN f) : Nat) : Int)]) (by simp only [nxs, ph_RL4_ref07_Width]; exact (v_Width _).trans (by rw [fN_u])) (by rfl)).trans ?_
    refine (treeFN_call (r := [((2 ^ (FP.fW (fN f) - 1) : Nat) : Int)]) (by simp only [nxs, ph_RL4_ref01_Full]; exact v_Full (by rw [i64_fW, i64_i64]; exact i64_less (by omega) (by omega) (by rfl)) (by omega)) (by rfl)).trans ?_
    have hC : 2 ^ (FP.fW (fN f) - 1) < 2 ^ 128 := Nat.pow_lt_pow_right (by decide) (by omega)
    refine (treeFN_call (r := [((A + B + 2 ^ (FP.fW (fN f) - 1) : Nat) : Int)]) (by simp only [nxs, ph_RL4_ref01_Add]; exact v_Add (sz_add hA hB) hC (by decide) (by decide)) (by rfl)).trans ?_
    refine (treeFN_call (r := [wd (A + B + 2 ^ (FP.fW (fN f) - 1)) 1, wd (A + B + 2 ^ (FP.fW (fN f) - 1)) 0]) (by simp only [nxs, ph_RL4_ref01_Bits]; exact (v_Bits (j := 130) (sz_add (sz_add hA hB) (sz_mono hC (by decide))) (by decide)).trans (oB_eq _)) (by rfl)).trans ?_
    rw [treeFN_leaf rfl]; simp only [nxs]; rw [rB_eq, oB_eq, show A + B + Bool.toNat true * 2 ^ (FP.fW (fN f) - 1) = A + B + 2 ^ (FP.fW (fN f) - 1) by rw [show Bool.toNat true = 1 from rfl, Nat.one_mul]]
   | false =>
    refine tnF (by simp only [nxs]; exact hn) ?_
    refine (treeFN_call (r := [wd (A + B) 1, wd (A + B) 0]) (by simp only [nxs, ph_RL4_ref01_Bits]; exact (v_Bits (sz_add hA hB) (by decide)).trans (oB_eq _)) (by rfl)).trans ?_
    rw [treeFN_leaf rfl]; simp only [nxs]; rw [rB_eq, oB_eq, show A + B + Bool.toNat false * 2 ^ (FP.fW (fN f) - 1) = A + B by rw [show Bool.toNat false = 0 from rfl, Nat.zero_mul, Nat.add_zero]]
  ·refine tnF (by simp only [nxs]; exact decide_eq_false h2) ?_
   rw [if_neg (by omega)]
   obtain ⟨y, hy⟩ : ∃ y : Nat, i64 e = (y : Int) := ⟨(i64 e).toNat, by omega⟩
   rw [hy, Int.toNat_natCast]
   have hy2 : y ≤ 1048576 := by omega
   have hy3 : y < 2 ^ 64 := Nat.lt_of_le_of_lt hy2 (by decide)
   refine (treeFN_call (r := [((y : Nat) : Int)]) (by simp only [nxs, ph_RL4_ref01_Of]; exact v_Of (by rw [u64_u64, hy]; exact u64_nat' _ (by rw [W64_val]; omega))) (by rfl)).trans ?_
   refine (treeFN_call (r := [((FP.fW (fN f) : Nat) : Int)]) (by simp only [nxs, ph_RL4_ref07_Width]; exact (v_Width _).trans (by rw [fN_u])) (by rfl)).trans ?_
   refine (treeFN_call (r := [((FP.fP (fN f) : Nat) : Int)]) (by simp only [nxs, ph_RL4_ref07_Prec]; exact (v_Prec _).trans (by rw [fN_u])) (by rfl)).trans ?_
   refine (treeFN_call (r := [((y % 2 ^ (FP.fW (fN f) - FP.fP (fN f)) : Nat) : Int)]) (by simp only [nxs, ph_RL4_ref01_Cut]; exact v_Cut (j := 64) (hy3) (by decide) (by rw [i64_fW, i64_fP, i64_i64]; exact i64_less (by omega) (by omega) (by rfl)) (by omega)) (by rfl)).trans ?_
   refine (treeFN_call (r := [((FP.fP (fN f) : Nat) : Int)]) (by simp only [nxs, ph_RL4_ref07_Prec]; exact (v_Prec _).trans (by rw [fN_u])) (by rfl)).trans ?_
   refine (treeFN_call (r := [((y % 2 ^ (FP.fW (fN f) - FP.fP (fN f)) * 2 ^ (FP.fP (fN f) - 1) : Nat) : Int)]) (by simp only [nxs, ph_RL4_ref01_Shl]; exact v_Shl (j := 64) (sz_mod (hy3)) (by decide) (by rw [i64_fP, i64_i64]; exact i64_less (by omega) (by omega) (by rfl)) (by omega)) (by rfl)).trans ?_
   refine (treeFN_call (r := [((FP.fP (fN f) : Nat) : Int)]) (by simp only [nxs, ph_RL4_ref07_Prec]; exact (v_Prec _).trans (by rw [fN_u])) (by rfl)).trans ?_
   refine (treeFN_call (r := [((x % 2 ^ (FP.fP (fN f) - 1) : Nat) : Int)]) (by simp only [nxs, ph_RL4_ref01_Cut]; exact v_Cut hx (by omega) (by rw [i64_fP, i64_i64]; exact i64_less (by omega) (by omega) (by rfl)) (by omega)) (by rfl)).trans ?_
   have hA : y % 2 ^ (FP.fW (fN f) - FP.fP (fN f)) * 2 ^ (FP.fP (fN f) - 1) < 2 ^ 128 := sz_mono (Nat.lt_of_le_of_lt (Nat.le_add_right _ _) (code_lt (frac := 0) hf)) (by omega)
   have hB : x % 2 ^ (FP.fP (fN f) - 1) < 2 ^ 128 := sz_mono (Nat.mod_lt _ (FP.two_pow_pos _)) (by omega)
   generalize y % 2 ^ (FP.fW (fN f) - FP.fP (fN f)) * 2 ^ (FP.fP (fN f) - 1) = A at *
   generalize x % 2 ^ (FP.fP (fN f) - 1) = B at *
   refine (treeFN_call (r := [((A + B : Nat) : Int)]) (by simp only [nxs, ph_RL4_ref01_Add]; exact v_Add hA hB (by decide) (by decide)) (by rfl)).trans ?_
   cases hn : iNz n with
   | true =>
    refine tnT (by simp only [nxs]; exact hn) ?_
    refine (treeFN_call (r := [((FP.fW (fN f) : Nat) : Int)]) (by simp only [nxs, ph_RL4_ref07_Width]; exact (v_Width _).trans (by rw [fN_u])) (by rfl)).trans ?_
    refine (treeFN_call (r := [((2 ^ (FP.fW (fN f) - 1) : Nat) : Int)]) (by simp only [nxs, ph_RL4_ref01_Full]; exact v_Full (by rw [i64_fW, i64_i64]; exact i64_less (by omega) (by omega) (by rfl)) (by omega)) (by rfl)).trans ?_
    have hC : 2 ^ (FP.fW (fN f) - 1) < 2 ^ 128 := Nat.pow_lt_pow_right (by decide) (by omega)
    refine (treeFN_call (r := [((A + B + 2 ^ (FP.fW (fN f) - 1) : Nat) : Int)]) (by simp only [nxs, ph_RL4_ref01_Add]; exact v_Add (sz_add hA hB) hC (by decide) (by decide)) (by rfl)).trans ?_
    refine (treeFN_call (r := [wd (A + B + 2 ^ (FP.fW (fN f) - 1)) 1, wd (A + B + 2 ^ (FP.fW (fN f) - 1)) 0]) (by simp only [nxs, ph_RL4_ref01_Bits]; exact (v_Bits (j := 130) (sz_add (sz_add hA hB) (sz_mono hC (by decide))) (by decide)).trans (oB_eq _)) (by rfl)).trans ?_
    rw [treeFN_leaf rfl]; simp only [nxs]; rw [rB_eq, oB_eq, show A + B + Bool.toNat true * 2 ^ (FP.fW (fN f) - 1) = A + B + 2 ^ (FP.fW (fN f) - 1) by rw [show Bool.toNat true = 1 from rfl, Nat.one_mul]]
   | false =>
    refine tnF (by simp only [nxs]; exact hn) ?_
    refine (treeFN_call (r := [wd (A + B) 1, wd (A + B) 0]) (by simp only [nxs, ph_RL4_ref01_Bits]; exact (v_Bits (sz_add hA hB) (by decide)).trans (oB_eq _)) (by rfl)).trans ?_
    rw [treeFN_leaf rfl]; simp only [nxs]; rw [rB_eq, oB_eq, show A + B + Bool.toNat false * 2 ^ (FP.fW (fN f) - 1) = A + B by rw [show Bool.toNat false = 0 from rfl, Nat.zero_mul, Nat.add_zero]]
end Go.Proofs.YtngiodcdelfdmaaGreatDoor
namespace Go.Proofs.YtngiodcdelfdmaaGreatDoor
set_option linter.unusedVariables false
set_option linter.unusedSimpArgs false
set_option maxRecDepth 100000
open Go.RowKit
theorem v_Next {m n o x : Int} {r : Nat} (hr : r ≤ 3) (hx : i64 x = (r : Int)) : F_ref13_Next [m, n, o, x] = [b2i (!(Nat.beq r 0) && FP.nextN (fN m) (iNz n) (iNz o) r)] := by
 rw [F_ref13_Next, t_ref13_Next]
 by_cases h0 : r = 0
 ·subst h0
  refine tT (by simp only [nxs, hx]; rfl) ?_
  rw [treeF_leaf rfl]; rfl
 refine tF (by simp only [nxs, hx]; exact decide_eq_false (by omega)) ?_
 refine tF (by simp only [nxs, hx]; exact decide_eq_false (by omega)) ?_
 rcases (show r = 1 ∨ r = 2 ∨ r = 3 by omega) with rfl | rfl | rfl
 ·rcases (show fN m = 0 ∨ fN m = 1 ∨ fN m = 2 ∨ fN m = 3 ∨ 4 ≤ fN m by omega) with h | h | h | h | h
  ·skip
   refine tT (by simp only [nxs, u8_fN m, h]; rfl) ?_
   refine tF (by simp only [nxs, hx]; rfl) ?_
   refine tF (by simp only [nxs, hx]; rfl) ?_
   rw [treeF_leaf rfl, h]; simp only [nxs, hx]; cases iNz n <;> cases iNz o <;> rfl
  ·skip
   refine tF (by simp only [nxs, u8_fN m, h]; rfl) ?_
   refine tT (by simp only [nxs, u8_fN m, h]; rfl) ?_
   rw [treeF_leaf rfl, h]; simp only [nxs, hx]; cases iNz n <;> cases iNz o <;> rfl
  ·skip
   refine tF (by simp only [nxs, u8_fN m, h]; rfl) ?_
   refine tF (by simp only [nxs, u8_fN m, h]; rfl) ?_
   refine tT (by simp only [nxs, u8_fN m, h]; rfl) ?_
   rw [treeF_leaf rfl, h]; simp only [nxs, hx]; cases iNz n <;> cases iNz o <;> rfl
  ·skip
   refine tF (by simp only [nxs, u8_fN m, h]; rfl) ?_
   refine tF (by simp only [nxs, u8_fN m, h]; rfl) ?_
   refine tF (by simp only [nxs, u8_fN m, h]; rfl) ?_
   refine tT (by simp only [nxs, u8_fN m, h]; rfl) ?_
   rw [treeF_leaf rfl, h]; simp only [nxs, hx]; cases iNz n <;> cases iNz o <;> rfl
  ·obtain ⟨k, hk⟩ : ∃ k, fN m = k + 4 := ⟨fN m - 4, by omega⟩
   refine tF (by simp only [nxs, u8_fN m, beq_eq_false_iff_ne]; omega) ?_
   refine tF (by simp only [nxs, u8_fN m, beq_eq_false_iff_ne]; omega) ?_
   refine tF (by simp only [nxs, u8_fN m, beq_eq_false_iff_ne]; omega) ?_
   refine tF (by simp only [nxs, u8_fN m, beq_eq_false_iff_ne]; omega) ?_
   rw [treeF_leaf rfl, hk]; rfl
 ·rcases (show fN m = 0 ∨ fN m = 1 ∨ fN m = 2 ∨ fN m = 3 ∨ 4 ≤ fN m by omega) with h | h | h | h | h
  ·skip
   refine tT (by simp only [nxs, u8_fN m, h]; rfl) ?_
   refine tF (by simp only [nxs, hx]; rfl) ?_
   refine tT (by simp only [nxs, hx]; rfl) ?_
   rw [treeF_leaf rfl, h]; simp only [nxs, hx]; cases iNz n <;> cases iNz o <;> rfl
  ·skip
   refine tF (by simp only [nxs, u8_fN m, h]; rfl) ?_
   refine tT (by simp only [nxs, u8_fN m, h]; rfl) ?_
   rw [treeF_leaf rfl, h]; simp only [nxs, hx]; cases iNz n <;> cases iNz o <;> rfl
  ·skip
   refine tF (by simp only [nxs, u8_fN m, h]; rfl) ?_
   refine tF (by simp only [nxs, u8_fN m, h]; rfl) ?_
   refine tT (by simp only [nxs, u8_fN m, h]; rfl) ?_
   rw [treeF_leaf rfl, h]; simp only [nxs, hx]; cases iNz n <;> cases iNz o <;> rfl
  ·skip
   refine tF (by simp only [nxs, u8_fN m, h]; rfl) ?_
   refine tF (by simp only [nxs, u8_fN m, h]; rfl) ?_
   refine tF (by simp only [nxs, u8_fN m, h]; rfl) ?_
   refine tT (by simp only [nxs, u8_fN m, h]; rfl) ?_
   rw [treeF_leaf rfl, h]; simp only [nxs, hx]; cases iNz n <;> cases iNz o <;> rfl
  ·obtain ⟨k, hk⟩ : ∃ k, fN m = k + 4 := ⟨fN m - 4, by omega⟩
   refine tF (by simp only [nxs, u8_fN m, beq_eq_false_iff_ne]; omega) ?_
   refine tF (by simp only [nxs, u8_fN m, beq_eq_false_iff_ne]; omega) ?_
   refine tF (by simp only [nxs, u8_fN m, beq_eq_false_iff_ne]; omega) ?_
   refine tF (by simp only [nxs, u8_fN m, beq_eq_false_iff_ne]; omega) ?_
   rw [treeF_leaf rfl, hk]; rfl
 ·rcases (show fN m = 0 ∨ fN m = 1 ∨ fN m = 2 ∨ fN m = 3 ∨ 4 ≤ fN m by omega) with h | h | h | h | h
  ·skip
   refine tT (by simp only [nxs, u8_fN m, h]; rfl) ?_
   refine tT (by simp only [nxs, hx]; rfl) ?_
   rw [treeF_leaf rfl, h]; simp only [nxs, hx]; cases iNz n <;> cases iNz o <;> rfl
  ·skip
   refine tF (by simp only [nxs, u8_fN m, h]; rfl) ?_
   refine tT (by simp only [nxs, u8_fN m, h]; rfl) ?_
   rw [treeF_leaf rfl, h]; simp only [nxs, hx]; cases iNz n <;> cases iNz o <;> rfl
  ·skip
   refine tF (by simp only [nxs, u8_fN m, h]; rfl) ?_
   refine tF (by simp only [nxs, u8_fN m, h]; rfl) ?_
   refine tT (by simp only [nxs, u8_fN m, h]; rfl) ?_
   rw [treeF_leaf rfl, h]; simp only [nxs, hx]; cases iNz n <;> cases iNz o <;> rfl
  ·skip
   refine tF (by simp only [nxs, u8_fN m, h]; rfl) ?_
   refine tF (by simp only [nxs, u8_fN m, h]; rfl) ?_
   refine tF (by simp only [nxs, u8_fN m, h]; rfl) ?_
   refine tT (by simp only [nxs, u8_fN m, h]; rfl) ?_
   rw [treeF_leaf rfl, h]; simp only [nxs, hx]; cases iNz n <;> cases iNz o <;> rfl
  ·obtain ⟨k, hk⟩ : ∃ k, fN m = k + 4 := ⟨fN m - 4, by omega⟩
   refine tF (by simp only [nxs, u8_fN m, beq_eq_false_iff_ne]; omega) ?_
   refine tF (by simp only [nxs, u8_fN m, beq_eq_false_iff_ne]; omega) ?_
   refine tF (by simp only [nxs, u8_fN m, beq_eq_false_iff_ne]; omega) ?_
   refine tF (by simp only [nxs, u8_fN m, beq_eq_false_iff_ne]; omega) ?_
   rw [treeF_leaf rfl, hk]; rfl
theorem v_Infinite (m n : Int) : F_ref13_Infinite [m, n] = [b2i (FP.nextN (fN m) (iNz n) true 3)] := by
 rw [F_ref13_Infinite, t_ref13_Infinite]
 rcases (show fN m = 0 ∨ fN m = 1 ∨ fN m = 2 ∨ fN m = 3 ∨ 4 ≤ fN m by omega) with h | h | h | h | h
 ·refine tT (by simp only [nxs, u8_fN m, h]; rfl) ?_
  rw [treeF_leaf rfl, h]; rfl
 ·refine tF (by simp only [nxs, u8_fN m, h]; rfl) ?_
  refine tT (by simp only [nxs, u8_fN m, h]; rfl) ?_
  rw [treeF_leaf rfl, h]; rfl
 ·refine tF (by simp only [nxs, u8_fN m, h]; rfl) ?_
  refine tF (by simp only [nxs, u8_fN m, h]; rfl) ?_
  refine tT (by simp only [nxs, u8_fN m, h]; rfl) ?_
  cases hn : iNz n with
  | true =>
   refine tF (by simp only [nxs, hn]; rfl) ?_
   rw [treeF_leaf rfl, h]; rfl
  | false =>
   refine tT (by simp only [nxs, hn]; rfl) ?_
   rw [treeF_leaf rfl, h]; rfl
 ·refine tF (by simp only [nxs, u8_fN m, h]; rfl) ?_
  refine tF (by simp only [nxs, u8_fN m, h]; rfl) ?_
  refine tF (by simp only [nxs, u8_fN m, h]; rfl) ?_
  refine tT (by simp only [nxs, u8_fN m, h]; rfl) ?_
  rw [treeF_leaf rfl, h]; simp only [nxs]; cases iNz n <;> rfl
 ·obtain ⟨k, hk⟩ : ∃ k, fN m = k + 4 := ⟨fN m - 4, by omega⟩
  refine tF (by simp only [nxs, u8_fN m, beq_eq_false_iff_ne]; omega) ?_
  refine tF (by simp only [nxs, u8_fN m, beq_eq_false_iff_ne]; omega) ?_
  refine tF (by simp only [nxs, u8_fN m, beq_eq_false_iff_ne]; omega) ?_
  refine tF (by simp only [nxs, u8_fN m, beq_eq_false_iff_ne]; omega) ?_
  rw [treeF_leaf rfl, hk]; rfl
theorem two_E (f : Nat) : iOp .mul .i64 2 ((FP.fE f : Nat) : Int) = ((2 * FP.fE f : Nat) : Int) := by
 have := fE_le f
 rw [mul2 _ (by omega) (by omega)]; omega
theorem v_MakeX {F n e X E : Int} {φ x j : Nat} {s : Bool} (hF : fN F = φ) (hφ : φ < 4) (hn : iNz n = s) (he : i64 e = E) (hX : X = (x : Int)) (hx : x < 2 ^ j) (hj : j ≤ 536870912) : F_ref07_Make [F, n, e, X] = [wd (makeN φ s E x) 1, wd (makeN φ s E x) 0] := by
 rw [hX, v_Make (by rw [hF]; exact hφ) hx hj, hF, hn, he, oB_eq]
theorem Ex2 (f : Nat) : i64 (i64 (iOp .mul .i64 2 (i64 ((FP.fE f : Nat) : Int))) + 1) = ((2 * FP.fE f + 1 : Nat) : Int) := by
 have hl := fE_le f
 rw [i64_fE, two_E, i64_nat (by omega), i64_id (by omega) (by omega)]; omega
theorem Ex2' (f : Nat) : i64 (iOp .mul .i64 2 (i64 ((FP.fE f : Nat) : Int)) + 1) = ((2 * FP.fE f + 1 : Nat) : Int) := by
 have hl := fE_le f
 rw [i64_fE, two_E, i64_id (by omega) (by omega)]; omega
theorem v_Inf {f n : Int} (hf : fN f < 4) : F_ref07_Inf [f, n] = oB (FP.mk (fN f) (iNz n) (FP.inf (fN f))) := by
 have hl := fE_le (fN f)
 have hm := make_inf hf (iNz n) 0
 simp only [Nat.zero_mod, Nat.add_zero] at hm
 rw [F_ref07_Inf, t_ref07_Inf]
 refine (treeF_call (r := [((FP.fE (fN f) : Nat) : Int)]) (by simp only [nxs, ph_RL5_ref07_Emax]; exact (v_Emax _).trans (by rw [fN_u])) (by rfl)).trans ?_
 refine (treeF_call (r := [wd (makeN (fN f) (iNz n) ((2 * FP.fE (fN f) + 1 : Nat) : Int) 0) 1, wd (makeN (fN f) (iNz n) ((2 * FP.fE (fN f) + 1 : Nat) : Int) 0) 0]) (by simp only [nxs, ph_RL5_ref07_Make]; exact v_MakeX (j := 1) (fN_u f) hf (iNz_b2i _) (by first | exact Ex2 _ | (rw [i64_i64]; exact Ex2' _) | exact Ex2' _) (by rfl) (by decide) (by decide)) (by rfl)).trans ?_
 rw [treeF_leaf rfl, hm]
 simp only [nxs]
theorem v_Max {f n : Int} (hf : fN f < 4) : F_ref07_Max [f, n] = oB (FP.mk (fN f) (iNz n) (FP.inf (fN f) - 1)) := by
 obtain ⟨n1, n2, n3, n4, n5, n6, n7, n8, n9⟩ := FP.fmtN hf
 have hH := FP.two_pow_pos (FP.fP (fN f) - 1)
 have hm : makeN (fN f) (iNz n) ((2 * FP.fE (fN f) : Nat) : Int) (2 ^ (FP.fP (fN f) - 1) - 1) = FP.mk (fN f) (iNz n) (FP.inf (fN f) - 1) := by
  have hlt : FP.inf (fN f) - 1 < 2 ^ (FP.fW (fN f) - 1) := by have := inf_lt hf; omega
  have h := make_code hf hlt (iNz n)
  have hI : FP.inf (fN f) = (2 * FP.fE (fN f) + 1) * 2 ^ (FP.fP (fN f) - 1) := rfl
  have e : FP.inf (fN f) - 1 = 2 * FP.fE (fN f) * 2 ^ (FP.fP (fN f) - 1) + (2 ^ (FP.fP (fN f) - 1) - 1) := by rw [hI, Nat.add_mul, Nat.one_mul]; omega
  have d1 : (FP.inf (fN f) - 1) / 2 ^ (FP.fP (fN f) - 1) = 2 * FP.fE (fN f) := by
   rw [e, Nat.mul_comm, Nat.mul_add_div hH, Nat.div_eq_of_lt (by omega), Nat.add_zero]
  have d2 : (FP.inf (fN f) - 1) % 2 ^ (FP.fP (fN f) - 1) = 2 ^ (FP.fP (fN f) - 1) - 1 := by
   rw [e, Nat.mul_comm, Nat.mul_add_mod, Nat.mod_eq_of_lt (by omega)]
  rw [d1, d2] at h; exact h
 rw [F_ref07_Max, t_ref07_Max]
 refine (treeF_call (r := [((FP.fW (fN f) : Nat) : Int)]) (by simp only [nxs, ph_RL5_ref07_Width]; exact (v_Width _).trans (by rw [fN_u])) (by rfl)).trans ?_
 refine tF (by simp only [nxs, i64_fW, beq_eq_false_iff_ne]; omega) ?_
 refine (treeF_call (r := [((FP.fE (fN f) : Nat) : Int)]) (by simp only [nxs, ph_RL5_ref07_Emax]; exact (v_Emax _).trans (by rw [fN_u])) (by rfl)).trans ?_
 refine (treeF_call (r := [((FP.fP (fN f) : Nat) : Int)]) (by simp only [nxs, ph_RL5_ref07_Prec]; exact (v_Prec _).trans (by rw [fN_u])) (by rfl)).trans ?_
 refine (treeF_call (r := [((2 ^ (FP.fP (fN f) - 1) : Nat) : Int)]) (by simp only [nxs, ph_RL5_ref01_Full]; exact v_Full (by rw [i64_fP, i64_i64]; exact i64_less (by omega) (by omega) (by rfl)) (by omega)) (by rfl)).trans ?_
 refine (treeF_call (r := [((1 : Nat) : Int)]) (by simp only [nxs, ph_RL5_ref01_Of]; exact v_Of (by rfl)) (by rfl)).trans ?_
 have hp : 2 ^ (FP.fP (fN f) - 1) < 2 ^ 128 := Nat.pow_lt_pow_right (by decide) (by omega)
 refine (treeF_call (r := [((2 ^ (FP.fP (fN f) - 1) - 1 : Nat) : Int)]) (by simp only [nxs, ph_RL5_ref01_Sub]; exact v_Sub hp (by omega) (by decide)) (by rfl)).trans ?_
 refine (treeF_call (r := [wd (makeN (fN f) (iNz n) ((2 * FP.fE (fN f) : Nat) : Int) (2 ^ (FP.fP (fN f) - 1) - 1)) 1, wd (makeN (fN f) (iNz n) ((2 * FP.fE (fN f) : Nat) : Int) (2 ^ (FP.fP (fN f) - 1) - 1)) 0]) (by simp only [nxs, ph_RL5_ref07_Make]; exact v_MakeX (j := 128) (fN_u f) hf (iNz_b2i _) (by first | (rw [i64_fE, two_E, i64_i64]; exact i64_nat (by omega)) | (rw [i64_fE, two_E]; exact i64_nat (by omega))) (by rfl) (sz_sub hp) (by decide)) (by rfl)).trans ?_
 rw [treeF_leaf rfl, hm]
 simp only [nxs]
theorem dlen_beq (n : Nat) : ((((dlenN n : Nat) : Int)) == 0) = decide (n = 0) := by
 rw [Bool.eq_iff_iff, beq_iff_eq, decide_eq_true_eq, ← dlen_zero_iff]; omega
theorem cmpI_ge (a b : Nat) : decide (cmpI a b ≥ 0) = decide (b ≤ a) := by
 rw [decide_eq_decide]; unfold cmpI; split
 ·omega
 ·split <;> omega
theorem i64_cmp (a b : Nat) : i64 (cmpI a b) = cmpI a b := by
 unfold cmpI; split
 ·rfl
 ·split <;> rfl
theorem v_clsOf (f a b : Int) : F_ref08_Of [f, a, b] = [((clsF (fN f) (nB a b) : Nat) : Int), b2i (sgnF (fN f) (nB a b))] := by
 rw [F_ref08_Of, t_ref08_Of]
 have hu := u8_fN f
 by_cases hf : ¬ fN f < 4
 ·refine tT (by simp only [nxs]; exact decide_eq_true (by omega)) ?_
  rw [treeF_leaf rfl]; unfold clsF sgnF; rw [if_neg hf, decide_eq_false hf]; rfl
 have hf := Classical.not_not.1 hf
 refine tF (by simp only [nxs]; exact decide_eq_false (by omega)) ?_
 obtain ⟨n1, n2, n3, n4, n5, n6, n7, n8, n9⟩ := FP.fmtN hf
 have hcl := FP.cod_lt (fN f) (nB a b)
 refine (treeF_call (r := [b2i (FP.sgn (fN f) (nB a b)), ((FP.cod (fN f) (nB a b) / 2 ^ (FP.fP (fN f) - 1) : Nat) : Int), ((FP.cod (fN f) (nB a b) % 2 ^ (FP.fP (fN f) - 1) : Nat) : Int)]) (by simp only [nxs, ph_RL5_ref07_Split]; exact (v_Split _ _ _ (by rw [fN_u]; exact hf)).trans (by rw [fN_u, nB_u])) (by rfl)).trans ?_
 unfold clsF sgnF FP.cls
 rw [if_pos hf, decide_eq_true hf, Bool.true_and]
 generalize FP.sgn (fN f) (nB a b) = s
 generalize FP.cod (fN f) (nB a b) = c at *
 generalize hH : 2 ^ (FP.fP (fN f) - 1) = H at *
 have hH0 : 0 < H := by rw [← hH]; exact FP.two_pow_pos _
 have hc128 : c / H < 1000000 := by
  rw [Nat.div_lt_iff_lt_mul hH0]
  have e1 : 2 ^ (FP.fW (fN f) - 1) = 2 ^ (FP.fW (fN f) - FP.fP (fN f)) * H := by rw [← hH, ← Nat.pow_add]; congr 1; omega
  rw [e1] at hcl
  refine Nat.lt_of_lt_of_le hcl (Nat.mul_le_mul_right _ ?_)
  rw [← n9]; omega
 have htop : 2 ^ (FP.fW (fN f) - 1) = FP.inf (fN f) + H := by rw [← hH]; exact FP.inf_top hf
 have hinf : FP.inf (fN f) = (2 * FP.fE (fN f) + 1) * H := by rw [← hH]; rfl
 have hdm := Nat.div_add_mod c H
 have hml := Nat.mod_lt c hH0
 have e1 : i64 ((c / H : Nat) : Int) = ((c / H : Nat) : Int) := i64_nat (by omega)
 have cls0 : c = 0 → FP.clsC (fN f) c = 0 := fun h => by unfold FP.clsC; rw [if_pos h]
 have cls1 : c ≠ 0 → c < H → FP.clsC (fN f) c = 1 := fun h h2 => by unfold FP.clsC; rw [if_neg h, hH, if_pos h2]
 have cls2 : c ≠ 0 → ¬ c < H → c < FP.inf (fN f) → FP.clsC (fN f) c = 2 := fun h h2 h3 => by unfold FP.clsC; rw [if_neg h, hH, if_neg h2, if_pos h3]
 have cls3 : c ≠ 0 → ¬ c < H → c = FP.inf (fN f) → FP.clsC (fN f) c = 3 := fun h h2 h3 => by unfold FP.clsC; rw [if_neg h, hH, if_neg h2, if_neg (by omega), if_pos h3]
 have cls45 : c ≠ 0 → ¬ c < H → ¬ c < FP.inf (fN f) → c ≠ FP.inf (fN f) → FP.clsC (fN f) c = if FP.inf (fN f) + 2 ^ (FP.fP (fN f) - 2) ≤ c then 4 else 5 := fun h h2 h3 h4 => by unfold FP.clsC; rw [if_neg h, hH, if_neg h2, if_neg h3, if_neg h4]
 by_cases hz : c / H = 0
 ·have hlt : c < H := (Nat.div_eq_zero_iff_lt hH0).1 hz
  have hcm : c % H = c := Nat.mod_eq_of_lt hlt
  rw [hcm]
  refine tT (by simp only [nxs, e1, hz]; rfl) ?_
  by_cases h0 : c = 0
  ·refine tT (by simp only [nxs, dlen_beq]; exact decide_eq_true h0) ?_
   rw [treeF_leaf rfl, cls0 h0]; (simp only [nxs]) <;> rfl
  ·refine tF (by simp only [nxs, dlen_beq]; exact decide_eq_false h0) ?_
   rw [treeF_leaf rfl, cls1 h0 hlt]; (simp only [nxs]) <;> rfl
 ·have hge : ¬ c < H := fun h => hz (Nat.div_eq_of_lt h)
  have h0 : c ≠ 0 := by omega
  refine tF (by simp only [nxs, e1, beq_eq_false_iff_ne]; omega) ?_
  refine (treeF_call (r := [((FP.fE (fN f) : Nat) : Int)]) (by simp only [nxs, ph_RL5_ref07_Emax]; exact (v_Emax _).trans (by rw [fN_u])) (by rfl)).trans ?_
  have hq : c / H ≤ 2 * FP.fE (fN f) + 1 := by
   have : c / H < 2 * FP.fE (fN f) + 2 := by
    rw [Nat.div_lt_iff_lt_mul hH0, show (2 * FP.fE (fN f) + 2) * H = FP.inf (fN f) + H by rw [hinf, ← Nat.succ_mul], ← htop]; exact hcl
   omega
  have hcmp : c / H < 2 * FP.fE (fN f) + 1 ↔ c < FP.inf (fN f) := by rw [hinf, ← Nat.div_lt_iff_lt_mul hH0]
  by_cases h1 : c < FP.inf (fN f)
  ·have h1' := hcmp.2 h1
   refine tT (by simp only [nxs, e1, Ex2', bne_iff_ne]; omega) ?_
   rw [treeF_leaf rfl, cls2 h0 hge h1]; (simp only [nxs]) <;> rfl
  ·have hq2 : c / H = 2 * FP.fE (fN f) + 1 := by
    have : ¬ c / H < 2 * FP.fE (fN f) + 1 := fun h => h1 (hcmp.1 h)
    omega
   refine tF (by simp only [nxs, e1, Ex2', bne_eq_false_iff_eq]; omega) ?_
   have hcm : c = FP.inf (fN f) + c % H := by rw [hinf, ← hq2, Nat.mul_comm]; exact hdm.symm
   by_cases h2 : c % H = 0
   ·refine tT (by simp only [nxs, dlen_beq]; exact decide_eq_true h2) ?_
    rw [treeF_leaf rfl, cls3 h0 hge (by omega)]; (simp only [nxs]) <;> rfl
   ·refine tF (by simp only [nxs, dlen_beq]; exact decide_eq_false h2) ?_
    have c45 := cls45 h0 hge h1 (by omega)
    refine (treeF_call (r := [((FP.fP (fN f) : Nat) : Int)]) (by simp only [nxs, ph_RL5_ref07_Prec]; exact (v_Prec _).trans (by rw [fN_u])) (by rfl)).trans ?_
    refine (treeF_call (r := [((2 ^ (FP.fP (fN f) - 2) : Nat) : Int)]) (by simp only [nxs, ph_RL5_ref01_Full]; exact v_Full (by rw [i64_fP, i64_i64]; exact i64_less (b := 2) (by omega) (by omega) (by rfl)) (by omega)) (by rfl)).trans ?_
    have hp : 2 ^ (FP.fP (fN f) - 2) < 2 ^ 128 := Nat.pow_lt_pow_right (by decide) (by omega)
    have hr : c % H < 2 ^ 128 := Nat.lt_of_lt_of_le hml (by rw [← hH]; exact Nat.pow_le_pow_right (by decide) (by omega))
    refine (treeF_call (r := [cmpI (c % H) (2 ^ (FP.fP (fN f) - 2))]) (by simp only [nxs, ph_RL5_ref01_Cmp]; exact v_Cmp hr hp (by decide) (by decide)) (by rfl)).trans ?_
    by_cases h3 : 2 ^ (FP.fP (fN f) - 2) ≤ c % H
    ·refine tT (by simp only [nxs, i64_cmp, cmpI_ge]; exact decide_eq_true h3) ?_
     rw [treeF_leaf rfl, show FP.clsC (fN f) c = 4 by rw [c45, if_pos (by omega)]]; (simp only [nxs]) <;> rfl
    ·refine tF (by simp only [nxs, i64_cmp, cmpI_ge]; exact decide_eq_false h3) ?_
     rw [treeF_leaf rfl, show FP.clsC (fN f) c = 5 by rw [c45, if_neg (by omega)]]; (simp only [nxs]) <;> rfl
theorem v_NaN (f a b : Int) : F_ref08_NaN [f, a, b] = [b2i (decide (4 ≤ clsF (fN f) (nB a b)))] := by
 rw [F_ref08_NaN, t_ref08_NaN]
 refine (treeF_call (r := [((clsF (fN f) (nB a b) : Nat) : Int), b2i (sgnF (fN f) (nB a b))]) (by simp only [nxs, ph_RL6_ref08_Of]; exact (v_clsOf _ _ _).trans (by rw [fN_u, nB_u])) (by rfl)).trans ?_
 have hle : clsF (fN f) (nB a b) ≤ 5 := by unfold clsF; split; exact FP.clsC_le _ _; omega
 by_cases h : clsF (fN f) (nB a b) = 4
 ·refine tT (by simp only [nxs, clsF_u8, h]; rfl) ?_
  rw [treeF_leaf rfl, h]; rfl
 ·refine tF (by simp only [nxs, clsF_u8, beq_eq_false_iff_ne]; omega) ?_
  rw [treeF_leaf rfl]; simp only [nxs, clsF_u8]
  rw [show (((clsF (fN f) (nB a b) : Nat) : Int) == 5) = decide (4 ≤ clsF (fN f) (nB a b)) by rw [Bool.eq_iff_iff, beq_iff_eq, decide_eq_true_eq]; omega]
theorem v_Signaling (f a b : Int) : F_ref08_Signaling [f, a, b] = [b2i (decide (clsF (fN f) (nB a b) = 5))] := by
 rw [F_ref08_Signaling, t_ref08_Signaling]
 refine (treeF_call (r := [((clsF (fN f) (nB a b) : Nat) : Int), b2i (sgnF (fN f) (nB a b))]) (by simp only [nxs, ph_RL6_ref08_Of]; exact (v_clsOf _ _ _).trans (by rw [fN_u, nB_u])) (by rfl)).trans ?_
 rw [treeF_leaf rfl]; simp only [nxs, clsF_u8]
 rw [show (((clsF (fN f) (nB a b) : Nat) : Int) == 5) = decide (clsF (fN f) (nB a b) = 5) by rw [Bool.eq_iff_iff, beq_iff_eq, decide_eq_true_eq]; omega]
theorem v_Of9 {f a b : Int} (hf : fN f < 4) : F_ref09_Of [f, a, b] = [b2i (FP.sgn (fN f) (nB a b)), ((FP.vM (fN f) (FP.cod (fN f) (nB a b)) : Nat) : Int), FP.vE (fN f) (FP.cod (fN f) (nB a b))] := by
 rw [F_ref09_Of, t_ref09_Of]
 obtain ⟨n1, n2, n3, n4, n5, n6, n7, n8, n9⟩ := FP.fmtN hf
 have hcl := FP.cod_lt (fN f) (nB a b)
 refine (treeFN_call (r := [b2i (FP.sgn (fN f) (nB a b)), ((FP.cod (fN f) (nB a b) / 2 ^ (FP.fP (fN f) - 1) : Nat) : Int), ((FP.cod (fN f) (nB a b) % 2 ^ (FP.fP (fN f) - 1) : Nat) : Int)]) (by simp only [nxs, ph_RL5_ref07_Split]; exact (v_Split _ _ _ (by rw [fN_u]; exact hf)).trans (by rw [fN_u, nB_u])) (by rfl)).trans ?_
 refine (treeFN_call (r := [((FP.fP (fN f) : Nat) : Int)]) (by simp only [nxs, ph_RL5_ref07_Prec]; exact (v_Prec _).trans (by rw [fN_u])) (by rfl)).trans ?_
 unfold FP.vM FP.vE
 generalize FP.sgn (fN f) (nB a b) = s
 generalize FP.cod (fN f) (nB a b) = c at *
 have hH0 := FP.two_pow_pos (FP.fP (fN f) - 1)
 have hml := Nat.mod_lt c hH0
 have hc128 : c / 2 ^ (FP.fP (fN f) - 1) < 1000000 := by
  rw [Nat.div_lt_iff_lt_mul hH0]
  have e1 : 2 ^ (FP.fW (fN f) - 1) = 2 ^ (FP.fW (fN f) - FP.fP (fN f)) * 2 ^ (FP.fP (fN f) - 1) := by rw [← Nat.pow_add]; congr 1; omega
  rw [e1] at hcl
  refine Nat.lt_of_lt_of_le hcl (Nat.mul_le_mul_right _ ?_)
  rw [← n9]; omega
 generalize c / 2 ^ (FP.fP (fN f) - 1) = q at *
 have hH1 : 2 ^ (FP.fP (fN f) - 1) < 2 ^ 128 := Nat.pow_lt_pow_right (by decide) (by omega)
 have e1 : i64 ((q : Nat) : Int) = ((q : Nat) : Int) := i64_nat (by omega)
 have e2 : i64 (((FP.fP (fN f) : Nat) : Int) - 1) = ((FP.fP (fN f) - 1 : Nat) : Int) := i64_less (b := 1) (by omega) (by omega) (by rfl)
 by_cases h : q = 0
 ·refine tnT (by simp only [nxs, e1, h]; rfl) ?_
  refine (treeFN_call (r := [((FP.fE (fN f) : Nat) : Int)]) (by simp only [nxs, ph_RL5_ref07_Emax]; exact (v_Emax _).trans (by rw [fN_u])) (by rfl)).trans ?_
  rw [treeFN_leaf rfl, if_pos h, if_pos h]
  simp only [nxs, i64_fE, i64_fP, e2]
  rw [i64_id (n := 1 - ((FP.fE (fN f) : Nat) : Int)) (by omega) (by omega), i64_id (by omega) (by omega), show (1 : Int) - ((FP.fE (fN f) : Nat) : Int) - ((FP.fP (fN f) - 1 : Nat) : Int) = 1 - ((FP.fE (fN f) : Nat) : Int) - (((FP.fP (fN f) : Nat) : Int) - 1) by omega]
 ·refine tnF (by simp only [nxs, e1, beq_eq_false_iff_ne]; omega) ?_
  refine (treeFN_call (r := [((2 ^ (FP.fP (fN f) - 1) : Nat) : Int)]) (by simp only [nxs, ph_RL5_ref01_Full]; exact v_Full (by rw [i64_fP, e2]; exact i64_nat (by omega)) (by omega)) (by rfl)).trans ?_
  refine (treeFN_call (r := [((c % 2 ^ (FP.fP (fN f) - 1) + 2 ^ (FP.fP (fN f) - 1) : Nat) : Int)]) (by simp only [nxs, ph_RL5_ref01_Add]; exact v_Add (Nat.lt_trans hml hH1) hH1 (by decide) (by decide)) (by rfl)).trans ?_
  refine (treeFN_call (r := [((FP.fE (fN f) : Nat) : Int)]) (by simp only [nxs, ph_RL5_ref07_Emax]; exact (v_Emax _).trans (by rw [fN_u])) (by rfl)).trans ?_
  rw [treeFN_leaf rfl, if_neg h, if_neg h]
  simp only [nxs, i64_fE, i64_fP, e1, e2]
  rw [i64_id (n := ((q : Nat) : Int) - ((FP.fE (fN f) : Nat) : Int)) (by omega) (by omega), i64_id (by omega) (by omega), show ((q : Nat) : Int) - ((FP.fE (fN f) : Nat) : Int) - ((FP.fP (fN f) - 1 : Nat) : Int) = ((q : Nat) : Int) - ((FP.fE (fN f) : Nat) : Int) - (((FP.fP (fN f) : Nat) : Int) - 1) by omega]
end Go.Proofs.YtngiodcdelfdmaaGreatDoor
namespace Go.Proofs.YtngiodcdelfdmaaGreatDoor
set_option linter.unusedVariables false
set_option linter.unusedSimpArgs false
set_option maxRecDepth 100000
open Go.RowKit
theorem u8_gt3 {f : Int} (hf : fN f < 4) : decide (u8 f > 3) = false := decide_eq_false (by rw [u8_fN]; omega)
theorem u8_gt3' {f : Int} (hf : ¬ fN f < 4) : decide (u8 f > 3) = true := decide_eq_true (by rw [u8_fN]; omega)
theorem u8_gt4 {m : Int} (hm : fN m ≤ 4) : decide (u8 m > 4) = false := decide_eq_false (by rw [u8_fN]; omega)
theorem v_Over {f m n : Int} (hf : fN f < 4) (hm : fN m ≤ 4) : F_ref14_Over [f, m, n] = [wd (FP.mk (fN f) (iNz n) (FP.overC (FP.fP (fN f)) (FP.fE (fN f)) (fN m) (iNz n))) 1, wd (FP.mk (fN f) (iNz n) (FP.overC (FP.fP (fN f)) (FP.fE (fN f)) (fN m) (iNz n))) 0, 20] := by
 rw [F_ref14_Over, t_ref14_Over]
 refine tF (by simp only [nxs]; exact u8_gt3 hf) ?_
 refine tF (by simp only [nxs]; exact u8_gt4 hm) ?_
 refine (treeF_call (r := [wd (FP.mk (fN f) (iNz n) (FP.inf (fN f) - 1)) 1, wd (FP.mk (fN f) (iNz n) (FP.inf (fN f) - 1)) 0]) (by simp only [nxs, ph_RL6_ref07_Max]; exact (v_Max (by rw [fN_u]; exact hf)).trans (by rw [fN_u, iNz_b2i, oB_eq])) (by rfl)).trans ?_
 refine (treeF_call (r := [b2i (FP.nextN (fN m) (iNz n) true 3)]) (by simp only [nxs, ph_RL6_ref13_Infinite]; exact (v_Infinite _ _).trans (by rw [fN_u, iNz_b2i])) (by rfl)).trans ?_
 have hI : FP.inf (fN f) = FP.infC (FP.fP (fN f)) (FP.fE (fN f)) := rfl
 unfold FP.overC
 cases hn : FP.nextN (fN m) (iNz n) true 3 with
 | true =>
  refine tT (by simp only [nxs]) ?_
  refine (treeF_call (r := [wd (FP.mk (fN f) (iNz n) (FP.inf (fN f))) 1, wd (FP.mk (fN f) (iNz n) (FP.inf (fN f))) 0]) (by simp only [nxs, ph_RL6_ref07_Inf]; exact (v_Inf (by rw [fN_u]; exact hf)).trans (by rw [fN_u, iNz_b2i, oB_eq])) (by rfl)).trans ?_
  rw [treeF_leaf rfl, if_pos rfl, ← hI]; simp only [nxs]
 | false =>
  refine tF (by simp only [nxs]) ?_
  rw [treeF_leaf rfl, if_neg Bool.false_ne_true, ← hI]; simp only [nxs]
theorem v_Default {f : Int} (hf : fN f < 4) : F_ref10_Default [f] = [wd (dfl (fN f)) 1, wd (dfl (fN f)) 0] := by
 obtain ⟨n1, n2, n3, n4, n5, n6, n7, n8, n9⟩ := FP.fmtN hf
 rw [F_ref10_Default, t_ref10_Default]
 refine tF (by simp only [nxs]; exact u8_gt3 hf) ?_
 have hp : 2 ^ (FP.fP (fN f) - 2) < 2 ^ 128 := Nat.pow_lt_pow_right (by decide) (by omega)
 have hm := make_inf hf false (2 ^ (FP.fP (fN f) - 2))
 rw [Nat.mod_eq_of_lt (Nat.pow_lt_pow_right (by decide) (by omega))] at hm
 refine (treeF_call (r := [((FP.fE (fN f) : Nat) : Int)]) (by simp only [nxs, ph_RL6_ref07_Emax]; exact (v_Emax _).trans (by rw [fN_u])) (by rfl)).trans ?_
 refine (treeF_call (r := [((FP.fP (fN f) : Nat) : Int)]) (by simp only [nxs, ph_RL6_ref07_Prec]; exact (v_Prec _).trans (by rw [fN_u])) (by rfl)).trans ?_
 refine (treeF_call (r := [((2 ^ (FP.fP (fN f) - 2) : Nat) : Int)]) (by simp only [nxs, ph_RL6_ref01_Full]; exact v_Full (by rw [i64_fP, i64_i64]; exact i64_less (b := 2) (by omega) (by omega) (by rfl)) (by omega)) (by rfl)).trans ?_
 refine (treeF_call (r := [wd (makeN (fN f) false ((2 * FP.fE (fN f) + 1 : Nat) : Int) (2 ^ (FP.fP (fN f) - 2))) 1, wd (makeN (fN f) false ((2 * FP.fE (fN f) + 1 : Nat) : Int) (2 ^ (FP.fP (fN f) - 2))) 0]) (by simp only [nxs, ph_RL6_ref07_Make]; exact v_MakeX (fN_u f) hf (by rfl) (by first | exact Ex2 _ | (rw [i64_i64]; exact Ex2' _) | exact Ex2' _) (by rfl) hp (by decide)) (by rfl)).trans ?_
 rw [treeF_leaf rfl, hm]; simp only [nxs]; rfl
theorem v_Quiet {f a b : Int} (hf : fN f < 4) : F_ref10_Quiet [f, a, b] = [wd (quN (fN f) (nB a b)) 1, wd (quN (fN f) (nB a b)) 0] := by
 obtain ⟨n1, n2, n3, n4, n5, n6, n7, n8, n9⟩ := FP.fmtN hf
 have hn := nB_128 a b
 rw [F_ref10_Quiet, t_ref10_Quiet]
 refine (treeF_call (r := [((nB a b % 2 ^ FP.fW (fN f) : Nat) : Int)]) (by simp only [nxs, ph_RL7_ref07_Cut]; exact (v_r07Cut _ _ _).trans (by rw [fN_u, nB_u])) (by rfl)).trans ?_
 refine (treeF_call (r := [b2i (decide (clsF (fN f) (nB a b) = 5))]) (by simp only [nxs, ph_RL7_ref08_Signaling]; exact (v_Signaling _ _ _).trans (by rw [fN_u, nB_u])) (by rfl)).trans ?_
 have hcut := FP.mk_cut hf (nB a b)
 have hcl := clsF_cod hf (nB a b)
 have hr : nB a b % 2 ^ FP.fW (fN f) < 2 ^ 128 := sz_mod hn
 have hp : 2 ^ (FP.fP (fN f) - 2) < 2 ^ 128 := Nat.pow_lt_pow_right (by decide) (by omega)
 unfold quN quC
 rw [← hcl]
 by_cases h5 : clsF (fN f) (nB a b) = 5
 ·refine tT (by simp only [nxs]; exact decide_eq_true h5) ?_
  refine (treeF_call (r := [((FP.fP (fN f) : Nat) : Int)]) (by simp only [nxs, ph_RL7_ref07_Prec]; exact (v_Prec _).trans (by rw [fN_u])) (by rfl)).trans ?_
  refine (treeF_call (r := [((2 ^ (FP.fP (fN f) - 2) : Nat) : Int)]) (by simp only [nxs, ph_RL7_ref01_Full]; exact v_Full (by rw [i64_fP, i64_i64]; exact i64_less (b := 2) (by omega) (by omega) (by rfl)) (by omega)) (by rfl)).trans ?_
  refine (treeF_call (r := [((nB a b % 2 ^ FP.fW (fN f) + 2 ^ (FP.fP (fN f) - 2) : Nat) : Int)]) (by simp only [nxs, ph_RL7_ref01_Add]; exact v_Add hr hp (by decide) (by decide)) (by rfl)).trans ?_
  refine (treeF_call (r := [wd (nB a b % 2 ^ FP.fW (fN f) + 2 ^ (FP.fP (fN f) - 2)) 1, wd (nB a b % 2 ^ FP.fW (fN f) + 2 ^ (FP.fP (fN f) - 2)) 0]) (by simp only [nxs, ph_RL7_ref01_Bits]; exact (v_Bits (sz_add hr hp) (by decide)).trans (oB_eq _)) (by rfl)).trans ?_
  rw [treeF_leaf rfl, if_pos h5, ← hcut]; simp only [nxs]
  have e : FP.mk (fN f) (FP.sgn (fN f) (nB a b)) (FP.cod (fN f) (nB a b)) + 2 ^ (FP.fP (fN f) - 2) = FP.mk (fN f) (FP.sgn (fN f) (nB a b)) (FP.cod (fN f) (nB a b) + 2 ^ (FP.fP (fN f) - 2)) := by unfold FP.mk; omega
  rw [e]
 ·refine tF (by simp only [nxs]; exact decide_eq_false h5) ?_
  refine (treeF_call (r := [wd (nB a b % 2 ^ FP.fW (fN f)) 1, wd (nB a b % 2 ^ FP.fW (fN f)) 0]) (by simp only [nxs, ph_RL7_ref01_Bits]; exact (v_Bits hr (by decide)).trans (oB_eq _)) (by rfl)).trans ?_
  rw [treeF_leaf rfl, if_neg h5, ← hcut]; simp only [nxs]
theorem v_Pick_1 {f i a1 a0 : Int} (hf : fN f < 4) : F_ref10_Pick_1 [f, i, a1, a0] = [wd (pkB1 (fN f) (iNz i) (nB a1 a0)) 1, wd (pkB1 (fN f) (iNz i) (nB a1 a0)) 0, ((pkF1 (fN f) (iNz i) (nB a1 a0) : Nat) : Int), b2i (pkO1 (fN f) (iNz i) (nB a1 a0))] := by
 rw [F_ref10_Pick_1, t_ref10_Pick_1]
 unfold pkB1 pkF1 pkO1
 refine tF (by simp only [nxs]; exact u8_gt3 hf) ?_
 refine (treeF_call (r := [wd (dfl (fN f)) 1, wd (dfl (fN f)) 0]) (by simp only [nxs, ph_RL8_ref10_Default]; exact (v_Default (by rw [fN_u]; exact hf)).trans (by rw [fN_u])) (by rfl)).trans ?_
 refine (treeF_call (r := [b2i (decide (4 ≤ clsF (fN f) (nB a1 a0)))]) (by simp only [nxs, ph_RL8_ref08_NaN]; exact (v_NaN _ _ _).trans (by rw [fN_u, nB_u])) (by rfl)).trans ?_
 refine tI (4 ≤ clsF (fN f) (nB a1 a0)) (by simp only [nxs]) (fun h0 => ?_) (fun h0 => ?_)
 ·skip
  refine (treeF_call (r := [wd (quN (fN f) (nB a1 a0)) 1, wd (quN (fN f) (nB a1 a0)) 0]) (by simp only [nxs, ph_RL8_ref10_Quiet]; exact (v_Quiet (by rw [fN_u]; exact hf)).trans (by rw [fN_u, nB_u])) (by rfl)).trans ?_
  refine (treeF_call (r := [b2i (decide (clsF (fN f) (nB a1 a0) = 5))]) (by simp only [nxs, ph_RL8_ref08_Signaling]; exact (v_Signaling _ _ _).trans (by rw [fN_u, nB_u])) (by rfl)).trans ?_
  refine tI (clsF (fN f) (nB a1 a0) = 5) (by simp only [nxs]) (fun h1 => ?_) (fun h1 => ?_)
  ·skip
   refine tI (iNz i = true) (by simp only [nxs]; cases iNz i <;> rfl) (fun h2 => ?_) (fun h2 => ?_)
   ·skip
    rw [treeF_leaf rfl]; simp only [nxs, h0, h1, h2, if_true, if_false, decide_true, decide_false, Bool.true_or, Bool.or_true, Bool.false_or, Bool.or_false, true_or, or_true, false_or, or_false, or_self, Bool.false_eq_true, wd_0] <;> rfl
   ·skip
    rw [treeF_leaf rfl]; simp only [nxs, h0, h1, h2, if_true, if_false, decide_true, decide_false, Bool.true_or, Bool.or_true, Bool.false_or, Bool.or_false, true_or, or_true, false_or, or_false, or_self, Bool.false_eq_true, wd_0] <;> rfl
  ·skip
   refine tI (iNz i = true) (by simp only [nxs]; cases iNz i <;> rfl) (fun h2 => ?_) (fun h2 => ?_)
   ·skip
    rw [treeF_leaf rfl]; simp only [nxs, h0, h1, h2, if_true, if_false, decide_true, decide_false, Bool.true_or, Bool.or_true, Bool.false_or, Bool.or_false, true_or, or_true, false_or, or_false, or_self, Bool.false_eq_true, wd_0] <;> rfl
   ·skip
    rw [treeF_leaf rfl]; simp only [nxs, h0, h1, h2, if_true, if_false, decide_true, decide_false, Bool.true_or, Bool.or_true, Bool.false_or, Bool.or_false, true_or, or_true, false_or, or_false, or_self, Bool.false_eq_true, wd_0] <;> rfl
 ·skip
  refine (treeF_call (r := [b2i (decide (clsF (fN f) (nB a1 a0) = 5))]) (by simp only [nxs, ph_RL8_ref08_Signaling]; exact (v_Signaling _ _ _).trans (by rw [fN_u, nB_u])) (by rfl)).trans ?_
  refine tF (by simp only [nxs]; exact decide_eq_false (by omega)) ?_
  refine tI (iNz i = true) (by simp only [nxs]; cases iNz i <;> rfl) (fun h2 => ?_) (fun h2 => ?_)
  ·skip
   have g1 : ¬ clsF (fN f) (nB a1 a0) = 5 := by omega
   rw [treeF_leaf rfl]; simp only [nxs, h0, g1, h2, if_true, if_false, decide_true, decide_false, Bool.true_or, Bool.or_true, Bool.false_or, Bool.or_false, true_or, or_true, false_or, or_false, or_self, Bool.false_eq_true, wd_0] <;> rfl
  ·skip
   have g1 : ¬ clsF (fN f) (nB a1 a0) = 5 := by omega
   rw [treeF_leaf rfl]; simp only [nxs, h0, g1, h2, if_true, if_false, decide_true, decide_false, Bool.true_or, Bool.or_true, Bool.false_or, Bool.or_false, true_or, or_true, false_or, or_false, or_self, Bool.false_eq_true, wd_0] <;> rfl
end Go.Proofs.YtngiodcdelfdmaaGreatDoor
namespace Go.Proofs.YtngiodcdelfdmaaGreatDoor
set_option linter.unusedVariables false
set_option linter.unusedSimpArgs false
set_option maxRecDepth 100000
open Go.RowKit
theorem lenX_i {Q j : Nat} (hQ : Q < 2 ^ j) (hj : j ≤ 10000000) : i64 ((lenX Q : Nat) : Int) = ((lenX Q : Nat) : Int) ∧ lenX Q ≤ j ∧ lenX Q = FP.lenN Q := by
 have h : FP.lenN Q ≤ j := FP.lenN_iff.2 hQ
 rw [lenX_eq]
 exact ⟨i64_nat (by omega), h, rfl⟩
theorem len_zero_iff {Q : Nat} : FP.lenN Q = 0 ↔ Q = 0 := by
 have h := FP.lenN_iff (n := Q) (k := 0)
 rw [Nat.pow_zero] at h
 omega
theorem cmpI_zero (a b : Nat) : (cmpI a b == 0) = decide (a = b) := by
 rw [Bool.eq_iff_iff, beq_iff_eq, decide_eq_true_eq]; unfold cmpI; split
 ·omega
 ·split <;> omega
theorem v_Rest {Q j : Nat} {n ν mo : Int} (hQ : Q < 2 ^ j) (hj : j ≤ 1000000) (hn : i64 n = ν) (h1 : -1000000 ≤ ν) (h2 : ν ≤ 1000000) : F_ref15_Rest [(Q : Int), n, mo] = [((FP.restX Q ν (iNz mo) : Nat) : Int)] := by
 obtain ⟨l1, l2, l3⟩ := lenX_i hQ (by omega)
 rw [F_ref15_Rest, t_ref15_Rest]
 unfold FP.restX
 by_cases h0 : ν ≤ 0
 ·rw [if_pos h0]
  refine tnT (by simp only [nxs, hn]; exact decide_eq_true h0) ?_
  cases hm : iNz mo with
  | true =>
   refine tnT (by simp only [nxs]; exact hm) ?_
   rw [treeFN_leaf rfl]; simp only [nxs]; rfl
  | false =>
   refine tnF (by simp only [nxs]; exact hm) ?_
   rw [treeFN_leaf rfl]; simp only [nxs]; rfl
 rw [if_neg h0]
 refine tnF (by simp only [nxs, hn]; exact decide_eq_false h0) ?_
 obtain ⟨k, hk⟩ : ∃ k : Nat, ν = (k : Int) := ⟨ν.toNat, by omega⟩
 have hkk : ν.toNat = k := by omega
 rw [hkk]
 have hn' : i64 n = (k : Int) := by rw [hn, hk]
 refine (treeFN_call (r := [((lenX Q : Nat) : Int)]) (by simp only [nxs, ph_RL4_ref01_Len]; exact v_Len hQ (by omega)) (by rfl)).trans ?_
 by_cases hle : k ≤ lenX Q
 ·refine tnT (by simp only [nxs, l1, hn']; exact decide_eq_true (by omega)) ?_
  refine (treeFN_call (r := [((Q % 2 ^ k : Nat) : Int)]) (by simp only [nxs, ph_RL4_ref01_Cut]; exact v_Cut hQ (by omega) (by rw [i64_i64]; exact hn') (by omega)) (by rfl)).trans ?_
  obtain ⟨r1, r2, r3⟩ := lenX_i (sz_mod hQ) (by omega)
  by_cases hz : Q % 2 ^ k = 0
  ·refine tnT (by simp only [nxs, dlen_beq]; exact decide_eq_true hz) ?_
   cases hm : iNz mo with
   | false =>
    refine tnT (by simp only [nxs, hm]; rfl) ?_
    rw [treeFN_leaf rfl, if_pos ⟨hz, rfl⟩]; simp only [nxs]; rfl
   | true =>
    refine tnF (by simp only [nxs, hm]; rfl) ?_
    refine (treeFN_call (r := [((lenX (Q % 2 ^ k) : Nat) : Int)]) (by simp only [nxs, ph_RL4_ref01_Len]; exact v_Len (sz_mod hQ) (by omega)) (by rfl)).trans ?_
    have hl : lenX (Q % 2 ^ k) = 0 := by rw [r3, hz]; rfl
    refine tnT (by simp only [nxs, r1, hn']; exact decide_eq_true (by omega)) ?_
    rw [treeFN_leaf rfl, if_neg (fun h => by cases h.2), if_pos (by rw [← r3]; omega)]; simp only [nxs]; rfl
  ·refine tnF (by simp only [nxs, dlen_beq]; exact decide_eq_false hz) ?_
   rw [if_neg (fun h => hz (h.1))]
   refine (treeFN_call (r := [((lenX (Q % 2 ^ k) : Nat) : Int)]) (by simp only [nxs, ph_RL4_ref01_Len]; exact v_Len (sz_mod hQ) (by omega)) (by rfl)).trans ?_
   by_cases hl : lenX (Q % 2 ^ k) < k
   ·refine tnT (by simp only [nxs, r1, hn']; exact decide_eq_true (by omega)) ?_
    rw [treeFN_leaf rfl, if_pos (by rw [← r3]; omega)]; simp only [nxs]; rfl
   ·refine tnF (by simp only [nxs, r1, hn']; exact decide_eq_false (by omega)) ?_
    rw [if_neg (by rw [← r3]; omega)]
    cases hm : iNz mo with
    | true =>
     refine tnF (by simp only [nxs, hm]; rfl) ?_
     rw [treeFN_leaf rfl, if_neg (fun h => by cases h.1)]; simp only [nxs]; rfl
    | false =>
     refine tnT (by simp only [nxs, hm]; rfl) ?_
     refine (treeFN_call (r := [((2 ^ (k - 1) : Nat) : Int)]) (by simp only [nxs, ph_RL4_ref01_Full]; exact v_Full (by rw [hn', i64_i64]; exact i64_less (b := 1) (by omega) (by omega) (by rfl)) (by omega)) (by rfl)).trans ?_
     have hp : 2 ^ (k - 1) < 2 ^ k := Nat.pow_lt_pow_right (by decide) (by omega)
     refine (treeFN_call (r := [cmpI (Q % 2 ^ k) (2 ^ (k - 1))]) (by simp only [nxs, ph_RL4_ref01_Cmp]; exact v_Cmp (sz_mod hQ) hp (by omega) (by omega)) (by rfl)).trans ?_
     by_cases he : Q % 2 ^ k = 2 ^ (k - 1)
     ·refine tnT (by simp only [nxs, i64_cmp, cmpI_zero]; exact decide_eq_true he) ?_
      rw [treeFN_leaf rfl, if_pos ⟨rfl, he⟩]; simp only [nxs]; rfl
     ·refine tnF (by simp only [nxs, i64_cmp, cmpI_zero]; exact decide_eq_false he) ?_
      rw [treeFN_leaf rfl, if_neg (fun h => he (h.2))]; simp only [nxs]; rfl
 ·refine tnF (by simp only [nxs, l1, hn']; exact decide_eq_false (by omega)) ?_
  have hmod : Q % 2 ^ k = Q := Nat.mod_eq_of_lt (FP.lenN_iff.1 (by omega))
  obtain ⟨r1, r2, r3⟩ := lenX_i hQ (by omega)
  by_cases hz : Q = 0
  ·refine tnT (by simp only [nxs, dlen_beq]; exact decide_eq_true hz) ?_
   cases hm : iNz mo with
   | false =>
    refine tnT (by simp only [nxs, hm]; rfl) ?_
    rw [treeFN_leaf rfl, if_pos ⟨hmod.trans hz, rfl⟩]; simp only [nxs]; rfl
   | true =>
    refine tnF (by simp only [nxs, hm]; rfl) ?_
    refine (treeFN_call (r := [((lenX (Q) : Nat) : Int)]) (by simp only [nxs, ph_RL4_ref01_Len]; exact v_Len hQ (by omega)) (by rfl)).trans ?_
    have hl : lenX (Q) = 0 := by rw [r3, hz]; rfl
    refine tnT (by simp only [nxs, r1, hn']; exact decide_eq_true (by omega)) ?_
    rw [treeFN_leaf rfl, if_neg (fun h => by cases h.2), if_pos (by rw [hmod, ← r3]; omega)]; simp only [nxs]; rfl
  ·refine tnF (by simp only [nxs, dlen_beq]; exact decide_eq_false hz) ?_
   rw [if_neg (fun h => hz (hmod.symm.trans h.1))]
   refine (treeFN_call (r := [((lenX (Q) : Nat) : Int)]) (by simp only [nxs, ph_RL4_ref01_Len]; exact v_Len hQ (by omega)) (by rfl)).trans ?_
   by_cases hl : lenX (Q) < k
   ·refine tnT (by simp only [nxs, r1, hn']; exact decide_eq_true (by omega)) ?_
    rw [treeFN_leaf rfl, if_pos (by rw [hmod, ← r3]; omega)]; simp only [nxs]; rfl
   ·refine tnF (by simp only [nxs, r1, hn']; exact decide_eq_false (by omega)) ?_
    rw [if_neg (by rw [hmod, ← r3]; omega)]
    cases hm : iNz mo with
    | true =>
     refine tnF (by simp only [nxs, hm]; rfl) ?_
     rw [treeFN_leaf rfl, if_neg (fun h => by cases h.1)]; simp only [nxs]; rfl
    | false =>
     refine tnT (by simp only [nxs, hm]; rfl) ?_
     refine (treeFN_call (r := [((2 ^ (k - 1) : Nat) : Int)]) (by simp only [nxs, ph_RL4_ref01_Full]; exact v_Full (by rw [hn', i64_i64]; exact i64_less (b := 1) (by omega) (by omega) (by rfl)) (by omega)) (by rfl)).trans ?_
     have hp : 2 ^ (k - 1) < 2 ^ k := Nat.pow_lt_pow_right (by decide) (by omega)
     refine (treeFN_call (r := [cmpI (Q) (2 ^ (k - 1))]) (by simp only [nxs, ph_RL4_ref01_Cmp]; exact v_Cmp hQ hp (by omega) (by omega)) (by rfl)).trans ?_
     by_cases he : Q = 2 ^ (k - 1)
     ·refine tnT (by simp only [nxs, i64_cmp, cmpI_zero]; exact decide_eq_true he) ?_
      rw [treeFN_leaf rfl, if_pos ⟨rfl, hmod.trans he⟩]; simp only [nxs]; rfl
     ·refine tnF (by simp only [nxs, i64_cmp, cmpI_zero]; exact decide_eq_false he) ?_
      rw [treeFN_leaf rfl, if_neg (fun h => he (hmod.symm.trans h.2))]; simp only [nxs]; rfl
theorem restX_le (Q : Nat) (n : Int) (m : Bool) : FP.restX Q n m ≤ 3 := by
 unfold FP.restX; split
 ·cases m <;> decide
 ·split
  ·omega
  ·split
   ·omega
   ·split <;> omega
theorem bit0 (n : Nat) : n.testBit 0 = FP.oddN n := by
 rw [Nat.testBit_zero]; unfold FP.oddN
 rw [Bool.eq_iff_iff, decide_eq_true_eq, Nat.beq_eq]
theorem v_rCut {Q j : Nat} {n ν mo m ng : Int} (hQ : Q < 2 ^ j) (hj : j ≤ 1000000) (hn : i64 n = ν) (h1 : -1000000 ≤ ν) (h2 : ν ≤ 1000000) : F_ref15_Cut [(Q : Int), n, mo, m, ng] = [((FP.cutX (fN m) (iNz ng) Q ν (iNz mo) : Nat) : Int), ((FP.restX Q ν (iNz mo) : Nat) : Int)] := by
 obtain ⟨l1, l2, l3⟩ := lenX_i hQ (by omega)
 have hr3 := restX_le Q ν (iNz mo)
 rw [F_ref15_Cut, t_ref15_Cut]
 refine (treeFN_call (r := [((FP.restX Q ν (iNz mo) : Nat) : Int)]) (by simp only [nxs, ph_RL5_ref15_Rest]; exact (v_Rest hQ hj (by rw [i64_i64]; exact hn) h1 h2).trans (by rw [iNz_b2i])) (by rfl)).trans ?_
 unfold FP.cutX FP.floorX
 generalize hr : FP.restX Q ν (iNz mo) = r at *
 have hri : i64 ((r : Nat) : Int) = ((r : Nat) : Int) := i64_nat (by omega)
 by_cases h0 : ν ≤ 0
 ·rw [if_pos h0]
  refine tnT (by simp only [nxs, hn]; exact decide_eq_true h0) ?_
  obtain ⟨k, hk⟩ : ∃ k : Nat, -ν = (k : Int) := ⟨(-ν).toNat, by omega⟩
  rw [show (-ν).toNat = k by omega]
  refine (treeFN_call (r := [((Q * 2 ^ k : Nat) : Int)]) (by simp only [nxs, ph_RL5_ref01_Shl]; exact v_Shl hQ (by omega) (by rw [hn, i64_i64, i64_id (by omega) (by omega)]; omega) (by omega)) (by rfl)).trans ?_
  have hF : Q * 2 ^ k < 2 ^ (j + k) := sz_shl hQ
  refine (treeFN_call (r := [b2i (FP.oddN (Q * 2 ^ k))]) (by simp only [nxs, ph_RL5_ref01_Bit]; exact (v_Bit (k := 0) hF (by omega) (by rfl) (by decide)).trans (by rw [bit0])) (by rfl)).trans ?_
  refine (treeFN_call (r := [b2i (!(Nat.beq r 0) && FP.nextN (fN m) (iNz ng) (FP.oddN (Q * 2 ^ k)) r)]) (by simp only [nxs, ph_RL5_ref13_Next]; exact (v_Next hr3 (by rw [hri]; exact hri)).trans (by rw [fN_u, iNz_b2i, iNz_b2i])) (by rfl)).trans ?_
  cases hx : (!(Nat.beq r 0) && FP.nextN (fN m) (iNz ng) (FP.oddN (Q * 2 ^ k)) r) with
  | true =>
   refine tnT (by simp only [nxs]) ?_
   refine (treeFN_call (r := [((1 : Nat) : Int)]) (by simp only [nxs, ph_RL5_ref01_Of]; exact v_Of (by rfl)) (by rfl)).trans ?_
   refine (treeFN_call (r := [((Q * 2 ^ k + 1 : Nat) : Int)]) (by simp only [nxs, ph_RL5_ref01_Add]; exact v_Add (b := 1) (k := 1) hF (by decide) (by omega) (by decide)) (by rfl)).trans ?_
   rw [treeFN_leaf rfl]; simp only [nxs, hri]; rfl
  | false =>
   refine tnF (by simp only [nxs]) ?_
   rw [treeFN_leaf rfl]; simp only [nxs, hri]; rfl
 ·rw [if_neg h0]
  refine tnF (by simp only [nxs, hn]; exact decide_eq_false h0) ?_
  obtain ⟨k, hk⟩ : ∃ k : Nat, ν = (k : Int) := ⟨ν.toNat, by omega⟩
  rw [show ν.toNat = k by omega]
  refine (treeFN_call (r := [((lenX Q : Nat) : Int)]) (by simp only [nxs, ph_RL5_ref01_Len]; exact v_Len hQ (by omega)) (by rfl)).trans ?_
  by_cases hle : k ≤ lenX Q
  ·refine tnT (by simp only [nxs, l1, hn]; exact decide_eq_true (by omega)) ?_
   refine (treeFN_call (r := [((Q / 2 ^ k : Nat) : Int)]) (by simp only [nxs, ph_RL5_ref01_Shr]; exact v_Shr hQ (by omega) (by rw [i64_i64, hn, hk]) (by omega)) (by rfl)).trans ?_
   have hF : Q / 2 ^ k < 2 ^ j := sz_div hQ
   refine (treeFN_call (r := [b2i (FP.oddN (Q / 2 ^ k))]) (by simp only [nxs, ph_RL5_ref01_Bit]; exact (v_Bit (k := 0) hF (by omega) (by rfl) (by decide)).trans (by rw [bit0])) (by rfl)).trans ?_
   refine (treeFN_call (r := [b2i (!(Nat.beq r 0) && FP.nextN (fN m) (iNz ng) (FP.oddN (Q / 2 ^ k)) r)]) (by simp only [nxs, ph_RL5_ref13_Next]; exact (v_Next hr3 (by rw [hri]; exact hri)).trans (by rw [fN_u, iNz_b2i, iNz_b2i])) (by rfl)).trans ?_
   cases hx : (!(Nat.beq r 0) && FP.nextN (fN m) (iNz ng) (FP.oddN (Q / 2 ^ k)) r) with
   | true =>
    refine tnT (by simp only [nxs]) ?_
    refine (treeFN_call (r := [((1 : Nat) : Int)]) (by simp only [nxs, ph_RL5_ref01_Of]; exact v_Of (by rfl)) (by rfl)).trans ?_
    refine (treeFN_call (r := [((Q / 2 ^ k + 1 : Nat) : Int)]) (by simp only [nxs, ph_RL5_ref01_Add]; exact v_Add (b := 1) (k := 1) hF (by decide) (by omega) (by decide)) (by rfl)).trans ?_
    rw [treeFN_leaf rfl]; simp only [nxs, hri]; rfl
   | false =>
    refine tnF (by simp only [nxs]) ?_
    rw [treeFN_leaf rfl]; simp only [nxs, hri]; rfl
  ·refine tnF (by simp only [nxs, l1, hn]; exact decide_eq_false (by omega)) ?_
   rw [show Q / 2 ^ k = 0 from Nat.div_eq_of_lt (FP.lenN_iff.1 (by omega))]
   have hF : 0 < 2 ^ j := FP.two_pow_pos j
   refine (treeFN_call (r := [b2i (FP.oddN (0))]) (by simp only [nxs, ph_RL5_ref01_Bit]; exact (v_Bit (a := 0) (k := 0) hF (by omega) (by rfl) (by decide)).trans (by rw [bit0])) (by rfl)).trans ?_
   refine (treeFN_call (r := [b2i (!(Nat.beq r 0) && FP.nextN (fN m) (iNz ng) (FP.oddN (0)) r)]) (by simp only [nxs, ph_RL5_ref13_Next]; exact (v_Next hr3 (by rw [hri]; exact hri)).trans (by rw [fN_u, iNz_b2i, iNz_b2i])) (by rfl)).trans ?_
   cases hx : (!(Nat.beq r 0) && FP.nextN (fN m) (iNz ng) (FP.oddN (0)) r) with
   | true =>
    refine tnT (by simp only [nxs]) ?_
    refine (treeFN_call (r := [((1 : Nat) : Int)]) (by simp only [nxs, ph_RL5_ref01_Of]; exact v_Of (by rfl)) (by rfl)).trans ?_
    refine (treeFN_call (r := [((0 + 1 : Nat) : Int)]) (by simp only [nxs, ph_RL5_ref01_Add]; exact v_Add (a := 0) (b := 1) (k := 1) hF (by decide) (by omega) (by decide)) (by rfl)).trans ?_
    rw [treeFN_leaf rfl]; simp only [nxs, hri]; rfl
   | false =>
    refine tnF (by simp only [nxs]) ?_
    rw [treeFN_leaf rfl]; simp only [nxs, hri]; rfl
end Go.Proofs.YtngiodcdelfdmaaGreatDoor
namespace Go.Proofs.YtngiodcdelfdmaaGreatDoor
set_option linter.unusedVariables false
set_option linter.unusedSimpArgs false
set_option maxRecDepth 100000
open Go.RowKit
theorem make_low {f n : Nat} {s : Bool} (hf : f < 4) (h : FP.lenN n < FP.fP f) : makeN f s 0 n = FP.mk f s n := by
 have hl : n < 2 ^ (FP.fP f - 1) := FP.lenN_iff.1 (by omega)
 unfold makeN
 rw [if_neg (by omega), show (0 : Int).toNat = 0 from rfl, Nat.zero_mod, Nat.zero_mul, Nat.zero_add, Nat.mod_eq_of_lt hl]
theorem make_high {f n : Nat} {s : Bool} {e : Int} (hf : f < 4) (h : e.toNat * 2 ^ (FP.fP f - 1) + n % 2 ^ (FP.fP f - 1) ≤ FP.inf f) : makeN f s e n = FP.mk f s (e.toNat * 2 ^ (FP.fP f - 1) + n % 2 ^ (FP.fP f - 1)) := by
 obtain ⟨n1, n2, n3, n4, n5, n6, n7, n8, n9⟩ := FP.fmtN hf
 have hI : FP.inf f = (2 * FP.fE f + 1) * 2 ^ (FP.fP f - 1) := rfl
 have hp := FP.two_pow_pos (FP.fP f - 1)
 have he : e.toNat ≤ 2 * FP.fE f + 1 := by
  have h2 : e.toNat * 2 ^ (FP.fP f - 1) ≤ (2 * FP.fE f + 1) * 2 ^ (FP.fP f - 1) := by rw [← hI]; omega
  exact Nat.le_of_mul_le_mul_right h2 hp
 unfold makeN
 by_cases h0 : e < 0
 ·rw [if_pos (.inl h0), Nat.zero_mod, show e.toNat = 0 by omega]
 ·rw [if_neg (by omega), Nat.mod_eq_of_lt (show e.toNat < 2 ^ (FP.fW f - FP.fP f) by rw [← n9]; omega)]
theorem cut_lt' (m : Nat) (ng : Bool) {Q j : Nat} {ν : Int} (mo : Bool) (hQ : Q < 2 ^ j) (h1 : -1000000 ≤ ν) : FP.cutX m ng Q ν mo < 2 ^ (j + 1000000 + 1) := by
 have hF : FP.floorX Q ν < 2 ^ (j + 1000000) := by
  unfold FP.floorX; split
  ·exact sz_mono (sz_shl (k := (-ν).toNat) hQ) (by omega)
  ·exact sz_mono (sz_div hQ) (by omega)
 unfold FP.cutX
 have hb : ∀ b : Bool, b.toNat ≤ 1 := fun b => by cases b <;> decide
 have := hb (!(Nat.beq (FP.restX Q ν mo) 0) && FP.nextN m ng (FP.oddN (FP.floorX Q ν)) (FP.restX Q ν mo))
 rw [Nat.pow_succ]
 have := FP.two_pow_pos (j + 1000000)
 omega
theorem v_Round {f m af ng e ε mo : Int} {Q j : Nat} {r : Nat × Nat} (hf : fN f < 4) (hm : fN m ≤ 4) (h0 : 0 < Q) (hQ : Q < 2 ^ j) (hj : j ≤ 200000) (he : i64 e = ε) (h1 : -200000 ≤ ε) (h2 : ε ≤ 200000)
  (hr : FP.refX (FP.fP (fN f)) (FP.fE (fN f)) (fN m) (iNz af) (iNz ng) Q ε (iNz mo) = r) (hle : r.1 ≤ FP.inf (fN f)) :
  F_ref16_Round [f, m, af, ng, (Q : Int), e, mo] = [wd (FP.mk (fN f) (iNz ng) r.1) 1, wd (FP.mk (fN f) (iNz ng) r.1) 0, ((r.2 : Nat) : Int)] := by
 obtain ⟨n1, n2, n3, n4, n5, n6, n7, n8, n9⟩ := FP.fmtN hf
 obtain ⟨l1, l2, l3⟩ := lenX_i hQ (by omega)
 have hlp : 1 ≤ FP.lenN Q := by
  have := len_zero_iff (Q := Q); omega
 rw [F_ref16_Round, t_ref16_Round]
 refine tnF (by simp only [nxs]; exact u8_gt3 hf) ?_
 refine tnF (by simp only [nxs]; exact u8_gt4 hm) ?_
 refine tnF (by simp only [nxs, dlen_beq]; exact decide_eq_false (by omega)) ?_
 refine (treeFN_call (r := [((FP.fP (fN f) : Nat) : Int)]) (by simp only [nxs, ph_RL7_ref07_Prec]; exact (v_Prec _).trans (by rw [fN_u])) (by rfl)).trans ?_
 refine (treeFN_call (r := [((FP.fE (fN f) : Nat) : Int)]) (by simp only [nxs, ph_RL7_ref07_Emax]; exact (v_Emax _).trans (by rw [fN_u])) (by rfl)).trans ?_
 refine (treeFN_call (r := [((lenX Q : Nat) : Int)]) (by simp only [nxs, ph_RL7_ref01_Len]; exact v_Len hQ (by omega)) (by rfl)).trans ?_
 unfold FP.refX FP.ownX FP.rUnit at hr
 have hE : FP.rE Q ε = (lenX Q : Int) - 1 + ε := by unfold FP.rE; rw [l3]
 rw [hE, ← l3] at hr
 generalize hp : FP.fP (fN f) = p at *
 generalize hem : FP.fE (fN f) = E at *
 generalize lenX Q = L at *
 have lp : i64 ((p : Nat) : Int) = p := i64_nat (by omega)
 have lE : i64 ((E : Nat) : Int) = E := i64_nat (by omega)
 obtain ⟨c1, hc1⟩ : ∃ c, FP.cutX (fN m) (iNz ng) Q ((L : Int) - p) (iNz mo) = c := ⟨_, rfl⟩
 obtain ⟨ρ1, hρ1⟩ : ∃ c, FP.restX Q ((L : Int) - p) (iNz mo) = c := ⟨_, rfl⟩
 have s1 : c1 < 2 ^ (j + 1000000 + 1) := by rw [← hc1]; exact cut_lt' _ _ _ hQ (by omega)
 refine (treeFN_call (r := [((c1 : Nat) : Int), ((ρ1 : Nat) : Int)]) (by simp only [nxs, ph_RL7_ref15_Cut]; exact (v_rCut (ν := (L : Int) - p) hQ (by omega) (by rw [l1, lp, he]; simp (disch := omega) only [i64_id]; omega) (by omega) (by omega)).trans (by rw [fN_u, iNz_b2i, iNz_b2i, hc1, hρ1])) (by rfl)).trans ?_
 refine (treeFN_call (r := [((lenX c1 : Nat) : Int)]) (by simp only [nxs, ph_RL7_ref01_Len]; exact v_Len s1 (by omega)) (by rfl)).trans ?_
 refine (treeFN_call (r := [((E : Nat) : Int)]) (by simp only [nxs, ph_RL7_ref07_Emax]; exact (v_Emax _).trans (by rw [fN_u, hem])) (by rfl)).trans ?_
 obtain ⟨k1, k2, k3⟩ := lenX_i s1 (by omega)
 rw [hc1, ← k3] at hr
 generalize lenX c1 = Λ at *
 have eo : ∀ X : Int, X = i64 (i64 (i64 ((Λ : Int) - 1) + i64 (i64 ((L : Int) - 1) + ε)) - i64 ((p : Int) - 1)) → X = (Λ : Int) - 1 + ((L : Int) - 1 + ε) - (p - 1) := fun X hX => by
  rw [hX]; simp (disch := omega) only [i64_id]
 have eo := eo _ rfl
 have eL : i64 (1 - (E : Int)) = 1 - (E : Int) := i64_id (by omega) (by omega)
 have ee : i64 (i64 ((L : Int) - 1) + ε) = (L : Int) - 1 + ε := by simp (disch := omega) only [i64_id]
 by_cases ho : (Λ : Int) - 1 + ((L : Int) - 1 + ε) - (p - 1) > E
 ·refine tnT (by simp only [nxs, k1, l1, lp, lE, he, eo]; exact decide_eq_true ho) ?_
  rw [if_pos ho] at hr
  refine (treeFN_call (r := [wd (FP.mk (fN f) (iNz ng) (FP.overC p E (fN m) (iNz ng))) 1, wd (FP.mk (fN f) (iNz ng) (FP.overC p E (fN m) (iNz ng))) 0, 20]) (by simp only [nxs, ph_RL7_ref14_Over]; exact (v_Over (by rw [fN_u]; exact hf) (by rw [fN_u]; exact hm)).trans (by rw [fN_u, fN_u, iNz_b2i, hp, hem])) (by rfl)).trans ?_
  rw [treeFN_leaf rfl, ← hr]; simp only [nxs]; rfl
 ·refine tnF (by simp only [nxs, k1, l1, lp, lE, he, eo]; exact decide_eq_false ho) ?_
  rw [if_neg ho] at hr
  obtain ⟨υ, hυ⟩ : ∃ υ : Int, max ((L : Int) - 1 + ε) (1 - (E : Int)) - (p - 1) = υ := ⟨_, rfl⟩
  rw [hυ] at hr
  have hυr : -300000 ≤ υ ∧ υ ≤ 500000 := by omega
  obtain ⟨c2, hc2⟩ : ∃ c, FP.cutX (fN m) (iNz ng) Q (υ - ε) (iNz mo) = c := ⟨_, rfl⟩
  obtain ⟨ρ2, hρ2⟩ : ∃ c, FP.restX Q (υ - ε) (iNz mo) = c := ⟨_, rfl⟩
  have hρ3 : ρ2 ≤ 3 := by rw [← hρ2]; exact restX_le _ _ _
  have s2 : c2 < 2 ^ (j + 1000000 + 1) := by rw [← hc2]; exact cut_lt' _ _ _ hQ (by omega)
  rw [hc2, hρ2] at hr
  have eu : i64 (max ((L : Int) - 1 + ε) (1 - (E : Int)) - i64 ((p : Int) - 1)) = υ := by
   rw [i64_id (n := (p : Int) - 1) (by omega) (by omega), hυ]; exact i64_id (by omega) (by omega)
  refine (treeFN_call (r := [((c2 : Nat) : Int), ((ρ2 : Nat) : Int)]) (by simp only [nxs, ph_RL7_ref15_Cut]; exact (v_rCut (ν := υ - ε) hQ (by omega) (by first | (simp only [l1, lp, lE, he, ee, eL, eu]; rw [i64_i64]; exact i64_id (by omega) (by omega)) | (simp only [l1, lp, lE, he, ee, eL, eu]; exact i64_id (by omega) (by omega))) (by omega) (by omega)).trans (by rw [fN_u, iNz_b2i, iNz_b2i, hc2, hρ2])) (by rfl)).trans ?_
  refine (treeFN_call (r := [((lenX c2 : Nat) : Int)]) (by simp only [nxs, ph_RL7_ref01_Len]; exact v_Len s2 (by omega)) (by rfl)).trans ?_
  obtain ⟨q1, q2, q3⟩ := lenX_i s2 (by omega)
  have hri : i64 ((ρ2 : Nat) : Int) = ((ρ2 : Nat) : Int) := i64_nat (by omega)
  by_cases hlow : lenX c2 < p
  ·refine tnT (by simp only [nxs, q1, lp]; exact decide_eq_true (by omega)) ?_
   have hcode : FP.rCode p E υ c2 = c2 := by unfold FP.rCode; rw [if_pos (by rw [← q3]; exact hlow)]
   rw [hcode] at hr
   have hmk := make_low (s := iNz ng) hf (show FP.lenN c2 < FP.fP (fN f) by rw [hp, ← q3]; exact hlow)
   refine (treeFN_call (r := [wd (FP.mk (fN f) (iNz ng) c2) 1, wd (FP.mk (fN f) (iNz ng) c2) 0]) (by simp only [nxs, ph_RL7_ref07_Make]; exact (v_MakeX (E := 0) (fN_u f) hf (iNz_b2i _) (by rfl) (by rfl) s2 (by omega)).trans (by rw [hmk])) (by rfl)).trans ?_
   by_cases hz : ρ2 = 0
   ·refine tnT (by simp only [nxs, hri, hz]; rfl) ?_
    rw [treeFN_leaf rfl, ← hr, if_pos hz]; simp only [nxs]; rfl
   ·refine tnF (by simp only [nxs, hri, beq_eq_false_iff_ne]; omega) ?_
    rw [if_neg hz] at hr
    cases ha : iNz af with
    | true =>
     refine tnT (by simp only [nxs]; exact ha) ?_
     rw [ha] at hr
     by_cases ht : (Λ : Int) - 1 + ((L : Int) - 1 + ε) - (p - 1) < 1 - E
     ·refine tnT (by simp only [nxs, k1, l1, lp, lE, he, eo, eL]; exact decide_eq_true ht) ?_
      rw [treeFN_leaf rfl, ← hr]; simp only [nxs, decide_eq_true ht, if_true, Bool.false_eq_true, if_false]; rfl
     ·refine tnF (by simp only [nxs, k1, l1, lp, lE, he, eo, eL]; exact decide_eq_false ht) ?_
      rw [treeFN_leaf rfl, ← hr]; simp only [nxs, decide_eq_false ht, if_true, Bool.false_eq_true, if_false]; rfl
    | false =>
     refine tnF (by simp only [nxs]; exact ha) ?_
     rw [ha] at hr
     by_cases ht : (L : Int) - 1 + ε < 1 - E
     ·refine tnT (by simp only [nxs, k1, l1, lp, lE, he, ee, eL]; exact decide_eq_true ht) ?_
      rw [treeFN_leaf rfl, ← hr]; simp only [nxs, decide_eq_true ht, if_true, Bool.false_eq_true, if_false]; rfl
     ·refine tnF (by simp only [nxs, k1, l1, lp, lE, he, ee, eL]; exact decide_eq_false ht) ?_
      rw [treeFN_leaf rfl, ← hr]; simp only [nxs, decide_eq_false ht, if_true, Bool.false_eq_true, if_false]; rfl
  ·refine tnF (by simp only [nxs, q1, lp]; exact decide_eq_false (by omega)) ?_
   refine (treeFN_call (r := [((lenX c2 : Nat) : Int)]) (by simp only [nxs, ph_RL7_ref01_Len]; exact v_Len s2 (by omega)) (by rfl)).trans ?_
   refine (treeFN_call (r := [((lenX c2 : Nat) : Int)]) (by simp only [nxs, ph_RL7_ref01_Len]; exact v_Len s2 (by omega)) (by rfl)).trans ?_
   obtain ⟨d, hd⟩ : ∃ d : Nat, lenX c2 = p + d := ⟨lenX c2 - p, by omega⟩
   refine (treeFN_call (r := [((c2 / 2 ^ d : Nat) : Int)]) (by simp only [nxs, ph_RL7_ref01_Shr]; exact v_Shr s2 (by omega) (by simp only [q1, lp]; rw [i64_i64, i64_id (by omega) (by omega)]; omega) (by omega)) (by rfl)).trans ?_
   have hcode : FP.rCode p E υ c2 = (((lenX c2 : Nat) : Int) - 1 + υ - (1 - E) + 1).toNat * 2 ^ (p - 1) + c2 / 2 ^ d % 2 ^ (p - 1) := by
    unfold FP.rCode; rw [if_neg (by rw [← q3]; exact hlow), ← q3, show lenX c2 - p = d by omega]
   have hle2 : (((lenX c2 : Nat) : Int) - 1 + υ - (1 - E) + 1).toNat * 2 ^ (FP.fP (fN f) - 1) + c2 / 2 ^ d % 2 ^ (FP.fP (fN f) - 1) ≤ FP.inf (fN f) := by
    rw [hp, ← hcode]; rw [← hr] at hle; exact hle
   have hmk := make_high (s := iNz ng) hf hle2
   rw [hp, ← hcode] at hmk
   generalize FP.rCode p E υ c2 = code at *
   have ef : i64 (i64 (i64 (i64 (((lenX c2 : Nat) : Int) - 1) + υ) - (1 - (E : Int))) + 1) = ((lenX c2 : Nat) : Int) - 1 + υ - (1 - E) + 1 := by simp (disch := omega) only [i64_id]
   refine (treeFN_call (r := [wd (FP.mk (fN f) (iNz ng) code) 1, wd (FP.mk (fN f) (iNz ng) code) 0]) (by simp only [nxs, ph_RL7_ref07_Make]; exact (v_MakeX (E := ((lenX c2 : Nat) : Int) - 1 + υ - (1 - E) + 1) (fN_u f) hf (iNz_b2i _) (by first | (simp only [q1, l1, lp, lE, he, ee, eL, eu]; rw [i64_i64]; exact ef) | (simp only [q1, l1, lp, lE, he, ee, eL, eu]; exact ef)) (by rfl) (sz_div s2) (by omega)).trans (by rw [hmk])) (by rfl)).trans ?_
   by_cases hz : ρ2 = 0
   ·refine tnT (by simp only [nxs, hri, hz]; rfl) ?_
    rw [treeFN_leaf rfl, ← hr, if_pos hz]; simp only [nxs]; rfl
   ·refine tnF (by simp only [nxs, hri, beq_eq_false_iff_ne]; omega) ?_
    rw [if_neg hz] at hr
    cases ha : iNz af with
    | true =>
     refine tnT (by simp only [nxs]; exact ha) ?_
     rw [ha] at hr
     by_cases ht : (Λ : Int) - 1 + ((L : Int) - 1 + ε) - (p - 1) < 1 - E
     ·refine tnT (by simp only [nxs, k1, l1, lp, lE, he, eo, eL]; exact decide_eq_true ht) ?_
      rw [treeFN_leaf rfl, ← hr]; simp only [nxs, decide_eq_true ht, if_true, Bool.false_eq_true, if_false]; rfl
     ·refine tnF (by simp only [nxs, k1, l1, lp, lE, he, eo, eL]; exact decide_eq_false ht) ?_
      rw [treeFN_leaf rfl, ← hr]; simp only [nxs, decide_eq_false ht, if_true, Bool.false_eq_true, if_false]; rfl
    | false =>
     refine tnF (by simp only [nxs]; exact ha) ?_
     rw [ha] at hr
     by_cases ht : (L : Int) - 1 + ε < 1 - E
     ·refine tnT (by simp only [nxs, k1, l1, lp, lE, he, ee, eL]; exact decide_eq_true ht) ?_
      rw [treeFN_leaf rfl, ← hr]; simp only [nxs, decide_eq_true ht, if_true, Bool.false_eq_true, if_false]; rfl
     ·refine tnF (by simp only [nxs, k1, l1, lp, lE, he, ee, eL]; exact decide_eq_false ht) ?_
      rw [treeFN_leaf rfl, ← hr]; simp only [nxs, decide_eq_false ht, if_true, Bool.false_eq_true, if_false]; rfl
end Go.Proofs.YtngiodcdelfdmaaGreatDoor
namespace Go.Proofs.YtngiodcdelfdmaaGreatDoor
set_option linter.unusedVariables false
set_option linter.unusedSimpArgs false
set_option maxRecDepth 100000
open Go.RowKit
end Go.Proofs.YtngiodcdelfdmaaGreatDoor
namespace Go.Proofs.YtngiodcdelfdmaaGreatDoor
set_option linter.unusedVariables false
set_option linter.unusedSimpArgs false
set_option maxRecDepth 100000
open Go.RowKit
theorem vE_i {f c : Nat} (hf : f < 4) (hc : c < FP.inf f) : i64 (FP.vE f c) = FP.vE f c ∧ -17000 ≤ FP.vE f c ∧ FP.vE f c ≤ 17000 := by
 obtain ⟨h1, h2⟩ := FP.vE_rng hf hc
 exact ⟨i64_id (by omega) (by omega), h1, h2⟩
theorem vM_128 {f : Nat} (hf : f < 4) (c : Nat) : FP.vM f c < 2 ^ 128 := sz_mono (FP.vM_lt hf c) (by have := FP.fP_le hf; omega)
theorem roundC_flag8 (p e m : Nat) (a n : Bool) (A D : Nat) : u8 (((FP.roundC p e m a n A D).2 : Nat) : Int) = (((FP.roundC p e m a n A D).2 : Nat) : Int) := by
 rcases FP.roundC_flag_set p e m a n A D with h | h | h | h <;> rw [h] <;> rfl
end Go.Proofs.YtngiodcdelfdmaaGreatDoor
