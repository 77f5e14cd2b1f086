import Derived.Test.YtikjbocagnolmaaDoorH4
import Derived.Test.YtikjbocagnolmaaDoorT3
/- fields.Pack puts together what Unpack took apart; a number in the next wider format. -/
namespace Go.Proofs.YtikjbocagnolmaaDoor
set_option linter.unusedVariables false
set_option linter.unusedSimpArgs false
set_option maxRecDepth 100000
open Go.RowKit
namespace FP
/-- a number's parts are its own -/
theorem un_uniq {t d sig : Nat} {e : Int} (ht : t < 4) (h0 : 0 < d) (h1 : d < inf t) (s1 : 2 ^ 127 ≤ sig) (s2 : sig < 2 ^ 128)
    (h : sig * 2 ^ (e - 127 + fU t).toNat = val t d * 2 ^ (127 - e - fU t).toNat) : e = unExp t d ∧ sig = unSig t d := by
  have hv := un_val ht h0 h1
  obtain ⟨r1, r2⟩ := un_sig ht h0 h1
  generalize unExp t d = g at *
  generalize unSig t d = z at *
  have key : sig * 2 ^ ((e - 127 + fU t).toNat + (127 - g - fU t).toNat) = z * 2 ^ ((g - 127 + fU t).toNat + (127 - e - fU t).toNat) := by
    rw [Nat.pow_add, Nat.pow_add, ← Nat.mul_assoc, ← Nat.mul_assoc, h, hv]; ac_rfl
  have far : ∀ (a b : Nat) (x y k : Nat), 2 ^ 127 ≤ b → a < 2 ^ 128 → x + k = y → a * 2 ^ x = b * 2 ^ y → k = 0 := by
    intro a b x y k hb ha hk he
    rw [← hk, Nat.pow_add, Nat.mul_comm (2 ^ x), ← Nat.mul_assoc] at he
    have he := Nat.eq_of_mul_eq_mul_right (two_pow_pos x) he
    apply Classical.byContradiction; intro hn
    have h2 : 2 ≤ 2 ^ k := by
      obtain ⟨j, rfl⟩ : ∃ j, k = j + 1 := ⟨k - 1, by omega⟩
      rw [Nat.pow_succ]; have := two_pow_pos j; omega
    have h3 : 2 ^ 127 * 2 ≤ b * 2 ^ k := Nat.mul_le_mul hb h2
    omega
  have heg : e = g := by
    rcases Int.lt_trichotomy e g with hlt | heq | hgt
    · have := far sig z _ _ (g - e).toNat r1 s2 (by omega) key; omega
    · exact heq
    · have := far z sig _ _ (e - g).toNat s1 r2 (by omega) key.symm; omega
  refine ⟨heg, ?_⟩
  rw [heg] at key
  rw [show (g - 127 + (fU t : Int)).toNat + (127 - g - fU t).toNat = (g - 127 + fU t).toNat + (127 - g - fU t).toNat from rfl] at key
  exact Nat.eq_of_mul_eq_mul_right (two_pow_pos _) key
/-- a number that another format has: its parts there are its parts here -/
theorem un_conv {f t c d : Nat} (hf : f < 4) (ht : t < 4) (c0 : 0 < c) (c1 : c < inf f) (d0 : 0 < d) (d1 : d < inf t) (h : val f c * 2 ^ fU t = val t d * 2 ^ fU f) :
    unExp f c = unExp t d ∧ unSig f c = unSig t d := by
  have hv := un_val hf c0 c1
  obtain ⟨s1, s2⟩ := un_sig hf c0 c1
  refine un_uniq ht d0 d1 s1 s2 ?_
  generalize unExp f c = e at *
  generalize unSig f c = z at *
  apply Nat.eq_of_mul_eq_mul_right (Nat.mul_pos (two_pow_pos (fU f)) (two_pow_pos (e - 127 + fU f).toNat))
  rw [show z * 2 ^ (e - 127 + fU t).toNat * (2 ^ fU f * 2 ^ (e - 127 + fU f).toNat) = z * 2 ^ (e - 127 + fU f).toNat * (2 ^ (e - 127 + fU t).toNat * 2 ^ fU f) by ac_rfl, hv]
  rw [show val t d * 2 ^ (127 - e - fU t).toNat * (2 ^ fU f * 2 ^ (e - 127 + fU f).toNat) = val t d * 2 ^ fU f * (2 ^ (127 - e - fU t).toNat * 2 ^ (e - 127 + fU f).toNat) by ac_rfl, ← h]
  rw [show val f c * 2 ^ (127 - e - fU f).toNat * (2 ^ (e - 127 + fU t).toNat * 2 ^ fU f) = val f c * (2 ^ (127 - e - fU f).toNat * 2 ^ (e - 127 + fU t).toNat * 2 ^ fU f) by ac_rfl, show val f c * 2 ^ fU t * (2 ^ (127 - e - fU t).toNat * 2 ^ (e - 127 + fU f).toNat) = val f c * (2 ^ fU t * 2 ^ (127 - e - fU t).toNat * 2 ^ (e - 127 + fU f).toNat) by ac_rfl]
  rw [← Nat.pow_add, ← Nat.pow_add, ← Nat.pow_add, ← Nat.pow_add]
  congr 2
  omega
/-- a product in the next wider format -/
theorem mulC_wider {f c d x y m : Nat} {a n : Bool} (hf : f < 3) (hc : c < inf f) (hd : d < inf f) (ex : val f c * 2 ^ fU (f + 1) = val (f + 1) x * 2 ^ fU f) (ey : val f d * 2 ^ fU (f + 1) = val (f + 1) y * 2 ^ fU f) :
    ∃ z, z < inf (f + 1) ∧ mulC (f + 1) m a n x y = (z, 0) ∧ ∀ m' a' n', convC (f + 1) f m' a' n' z = mulC f m' a' n' c d := by
  obtain ⟨z, hz, e⟩ := mul_wide hf hc hd
  refine ⟨z, hz, ?_, fun m' a' n' => ?_⟩
  · refine roundC_exact (fP_ge (by omega)) (two_pow_pos _) hz ?_
    apply Nat.eq_of_mul_eq_mul_right (Nat.mul_pos (two_pow_pos (fU f)) (two_pow_pos (fU f)))
    rw [show val (f + 1) x * val (f + 1) y * (2 ^ fU f * 2 ^ fU f) = (val (f + 1) x * 2 ^ fU f) * (val (f + 1) y * 2 ^ fU f) by ac_rfl, ← ex, ← ey]
    have : val (f + 1) z * 2 ^ fU (f + 1) * (2 ^ fU f * 2 ^ fU f) = val (f + 1) z * 2 ^ (fU f + fU f) * 2 ^ fU (f + 1) := by rw [Nat.pow_add]; ac_rfl
    rw [show cval (fP (f + 1)) z = val (f + 1) z from rfl, this, e]; ac_rfl
  · refine roundC_ratio (fP_ge (by omega)) (two_pow_pos _) (two_pow_pos _) ?_
    rw [show val (f + 1) z * 2 ^ fU f * 2 ^ fU f = val (f + 1) z * 2 ^ (fU f + fU f) by rw [Nat.pow_add]; ac_rfl, e]
end FP
theorem bit127 {n : Nat} (h1 : 2 ^ 127 ≤ n) (h2 : n < 2 ^ 128) : bitB n 127 = true := by
  unfold bitB
  have e : n.testBit 127 = true := by
    rw [Nat.testBit_eq_decide_div_mod_eq, decide_eq_true_iff]
    have : n / 2 ^ 127 = 1 := by omega
    rw [this]
  simp [e]
/-- what was taken apart, put together -/
theorem s_pack_un (f n c e h l : Int) {d : Nat} (hf : fN f < 4) (hc : u8 c = 1 ∨ u8 c = 2) (d0 : 0 < d) (d1 : d < FP.inf (fN f)) (he : i64 e = FP.unExp (fN f) d) (hs : nB h l = FP.unSig (fN f) d) :
    F_fields_Pack [f, n, c, e, h, l] = oB (FP.mk (fN f) (iNz n) d) ++ [1] := by
  obtain ⟨n1, n2, n3, n4, n5, n6, n7, n8, n9⟩ := FP.fmtN hf
  have hff : fN (u8 f) < 4 := by rw [fN_u]; exact hf
  have ru := FP.un_exp hf d1
  obtain ⟨su1, su2⟩ := FP.un_sig hf d0 d1
  obtain ⟨z, hz, ez, hh, hl⟩ := bits_in h l
  rw [ez] at hs
  subst hs
  rw [F_fields_Pack, t_fields_Pack]
  refine (treeF_call (by simp only [l_an, l_ca, l_na, l_mc, l_mn, getI_0, getI_s, oB_eq, oW_eq, ev_bin, ev_conv, ev_ite, ev_lit, ev_var_u, ev_var_i, ev_var_8, ev_var_b, ev_var_t, ev_not, ev_and, ev_beq, ev_max, ev_min, op_eql, op_neq, op_lss, op_leq, op_gtr, op_geq, op_add, op_sub, iNz_b2i, w64_u, w64_i, w8_u, u64_wd, u64_u64, i64_i64, u8_u8, ph_E4_format_Prec]; exact s_format_Prec _) (by rfl)).trans ?_
  refine (treeF_call (by simp only [l_an, l_ca, l_na, l_mc, l_mn, getI_0, getI_s, oB_eq, oW_eq, ev_bin, ev_conv, ev_ite, ev_lit, ev_var_u, ev_var_i, ev_var_8, ev_var_b, ev_var_t, ev_not, ev_and, ev_beq, ev_max, ev_min, op_eql, op_neq, op_lss, op_leq, op_gtr, op_geq, op_add, op_sub, iNz_b2i, w64_u, w64_i, w8_u, u64_wd, u64_u64, i64_i64, u8_u8, ph_E4_format_Emax]; exact s_format_Emax _) (by rfl)).trans ?_
  have eP : i64 (FP.fP (fN f) : Int) = (FP.fP (fN f) : Int) := i64_fP _
  have eE : i64 (FP.fE (fN f) : Int) = (FP.fE (fN f) : Int) := i64_fE _
  rw [fN_u, treeF_ite]
  simp only [l_an, l_ca, l_na, l_mc, l_mn, getI_0, getI_s, ev_bin, ev_not, op_lss, ev_var_8, ev_lit, iNz_b2i, Bool.not_eq_true', decide_eq_false_iff_not, u8_lt4]
  rw [if_neg (show ¬ ¬ fN f < 4 from fun h => h hf), treeF_ite]
  simp only [l_an, l_ca, l_na, l_mc, l_mn, getI_0, getI_s, ev_bin, op_gtr, ev_var_8, ev_lit, iNz_b2i, decide_eq_true_iff]
  rw [if_neg (show ¬ u8 c > 3 by omega), treeF_ite]
  simp only [l_an, l_ca, l_na, l_mc, l_mn, getI_0, getI_s, ev_bin, op_eql, ev_var_8, ev_lit, iNz_b2i, beq_iff_eq]
  rw [if_neg (show ¬ u8 c = 0 by omega), treeF_ite]
  simp only [l_an, l_ca, l_na, l_mc, l_mn, getI_0, getI_s, ev_bin, op_eql, ev_var_8, ev_lit, iNz_b2i, beq_iff_eq]
  rw [if_neg (show ¬ u8 c = 3 by omega)]
  have hzW : FP.unSig (fN f) d < W128 := by rw [W128_pow]; exact su2
  refine (treeF_call (r := [b2i true]) ?_ rfl).trans ?_
  · simp only [l_an, l_ca, l_na, l_mc, l_mn, getI_0, getI_s, oB_eq, oW_eq, ev_bin, ev_conv, ev_ite, ev_lit, ev_var_u, ev_var_i, ev_var_8, ev_var_b, ev_var_t, ev_not, ev_and, ev_beq, ev_max, ev_min, op_eql, op_neq, op_lss, op_leq, op_gtr, op_geq, op_add, op_sub, iNz_b2i, w64_u, w64_i, w8_u, u64_wd, u64_u64, i64_i64, u8_u8, ph_E4_word_Bit]
    rw [s_word_Bit, hh, hl, nB_small hzW, i64_id (by decide) (by decide), bit127 su1 su2]
  rw [treeF_ite]
  simp only [l_an, l_ca, l_na, l_mc, l_mn, getI_0, getI_s, ev_not, ev_var_b, iNz_b2i, Bool.not_true, Bool.false_eq_true, ↓reduceIte]
  have hge : FP.unExp (fN f) d ≤ (FP.fE (fN f) : Int) ∧ ¬ FP.unExp (fN f) d < 1 - (FP.fE (fN f) : Int) - FP.fP (fN f) + 1 ∧ (FP.unExp (fN f) d + (FP.fE (fN f) : Int) < 1 ↔ d < 2 ^ (FP.fP (fN f) - 1)) := by
    unfold FP.unExp
    by_cases hs : d < 2 ^ (FP.fP (fN f) - 1)
    · rw [if_pos hs]
      obtain ⟨a1, a2, a3⟩ := FP.lenN_lo (show d ≠ 0 by omega)
      have a4 : FP.lenN d ≤ FP.fP (fN f) - 1 := FP.lenN_iff.2 hs
      refine ⟨by omega, by omega, fun _ => hs, fun _ => by omega⟩
    · rw [if_neg hs]
      have b1 : d / 2 ^ (FP.fP (fN f) - 1) < 2 * FP.fE (fN f) + 1 := by
        rw [Nat.div_lt_iff_lt_mul (FP.two_pow_pos _)]; exact d1
      have b2 : 1 ≤ d / 2 ^ (FP.fP (fN f) - 1) := by rw [Nat.le_div_iff_mul_le (FP.two_pow_pos _)]; omega
      generalize d / 2 ^ (FP.fP (fN f) - 1) = k at *
      refine ⟨by omega, by omega, fun h => absurd h (by omega), fun h => absurd h hs⟩
  obtain ⟨g1, g2, g3⟩ := hge
  have hcl : d < 2 ^ (FP.fW (fN f) - 1) := Nat.lt_trans d1 (inf_W hf)
  have e1 : i64 (1 - (FP.fE (fN f) : Int)) = 1 - (FP.fE (fN f) : Int) := i64_id (by omega) (by omega)
  have e2 : i64 (1 - (FP.fE (fN f) : Int) - (FP.fP (fN f) : Int)) = 1 - (FP.fE (fN f) : Int) - (FP.fP (fN f) : Int) := i64_id (by omega) (by omega)
  have e3 : i64 (1 - (FP.fE (fN f) : Int) - (FP.fP (fN f) : Int) + 1) = 1 - (FP.fE (fN f) : Int) - (FP.fP (fN f) : Int) + 1 := i64_id (by omega) (by omega)
  have e5 : i64 (128 - (FP.fP (fN f) : Int)) = ((128 - FP.fP (fN f) : Nat) : Int) := i64_sub (a := 128) (by omega) (by omega)
  have e6 : i64 (((128 - FP.fP (fN f) : Nat) : Int) + 1) = ((129 - FP.fP (fN f) : Nat) : Int) := by rw [i64_id (by omega) (by omega)]; omega
  rw [treeF_ite]
  simp only [l_an, l_ca, l_na, l_mc, l_mn, getI_0, getI_s, ev_bin, op_gtr, ev_var_i, eE, he, iNz_b2i, decide_eq_true_iff]
  rw [if_neg (show ¬ FP.unExp (fN f) d > (FP.fE (fN f) : Int) by omega), treeF_ite]
  simp only [l_an, l_ca, l_na, l_mc, l_mn, getI_0, getI_s, ev_bin, ev_lit, op_lss, op_add, op_sub, ev_var_i, eE, eP, he, e1, e2, e3, iNz_b2i, decide_eq_true_iff]
  rw [if_neg g2, treeF_ite]
  have e4 : i64 (FP.unExp (fN f) d + (FP.fE (fN f) : Int)) = FP.unExp (fN f) d + (FP.fE (fN f) : Int) := i64_id (by omega) (by omega)
  simp only [l_an, l_ca, l_na, l_mc, l_mn, getI_0, getI_s, ev_bin, ev_lit, op_lss, op_add, ev_var_i, eE, he, e4, iNz_b2i, decide_eq_true_iff]
  have hzz : FP.unSig (fN f) d < W256 := Nat.lt_trans hzW (by decide)
  by_cases hs : d < 2 ^ (FP.fP (fN f) - 1)
  · rw [if_pos (g3.2 hs)]
    obtain ⟨a1, a2, a3⟩ := FP.lenN_lo (show d ≠ 0 by omega)
    have a4 : FP.lenN d ≤ FP.fP (fN f) - 1 := FP.lenN_iff.2 hs
    have eS : FP.unSig (fN f) d = d * 2 ^ (128 - FP.lenN d) := by unfold FP.unSig; rw [if_pos hs]
    have eX : FP.unExp (fN f) d = 1 - (FP.fE (fN f) : Int) + 128 - FP.fP (fN f) - ((128 - FP.lenN d : Nat) : Int) := by unfold FP.unExp; rw [if_pos hs]
    have e7 : i64 (((129 - FP.fP (fN f) : Nat) : Int) - (FP.unExp (fN f) d + (FP.fE (fN f) : Int))) = ((128 - FP.lenN d : Nat) : Int) := by rw [i64_id (by omega) (by omega)]; omega
    refine (treeF_call (r := oW (FP.unSig (fN f) d)) ?_ rfl).trans ?_
    · simp only [l_an, l_ca, l_na, l_mc, l_mn, getI_0, getI_s, oB_eq, oW_eq, ev_bin, ev_conv, ev_ite, ev_lit, ev_var_u, ev_var_i, ev_var_8, ev_var_b, ev_var_t, ev_not, ev_and, ev_beq, ev_max, ev_min, op_eql, op_neq, op_lss, op_leq, op_gtr, op_geq, op_add, op_sub, iNz_b2i, w64_u, w64_i, w8_u, u64_wd, u64_u64, i64_i64, u8_u8, ph_E4_wide_Of]; rw [s_wide_Of, hh, hl, nB_small hzW, oW_eq]
    refine (treeF_call (r := [b2i false]) ?_ rfl).trans ?_
    · simp only [l_an, l_ca, l_na, l_mc, l_mn, getI_0, getI_s, oB_eq, oW_eq, ev_bin, ev_conv, ev_ite, ev_lit, ev_var_u, ev_var_i, ev_var_8, ev_var_b, ev_var_t, ev_not, ev_and, ev_beq, ev_max, ev_min, op_eql, op_neq, op_lss, op_leq, op_gtr, op_geq, op_add, op_sub, iNz_b2i, w64_u, w64_i, w8_u, u64_wd, u64_u64, i64_i64, u8_u8, ph_E4_shift_Lost, eE, eP, he, e4, e5, e6, e7]
      rw [s_shift_Lost, nW_small hzz, i64_nat (by omega), toNat_c, eS, Nat.mul_mod_left]; rfl
    rw [treeF_ite]
    simp only [l_an, l_ca, l_na, l_mc, l_mn, getI_0, getI_s, oB_eq, oW_eq, ev_bin, ev_conv, ev_ite, ev_lit, ev_var_u, ev_var_i, ev_var_8, ev_var_b, ev_var_t, ev_not, ev_and, ev_beq, ev_max, ev_min, op_eql, op_neq, op_lss, op_leq, op_gtr, op_geq, op_add, op_sub, iNz_b2i, w64_u, w64_i, w8_u, u64_wd, u64_u64, i64_i64, u8_u8, Bool.false_eq_true, ↓reduceIte]
    have hd128 : d < W128 := Nat.lt_of_lt_of_le hs (pow_le128 (by omega))
    refine (treeF_call (r := oB d) ?_ rfl).trans ?_
    · simp only [l_an, l_ca, l_na, l_mc, l_mn, getI_0, getI_s, oB_eq, oW_eq, ev_bin, ev_conv, ev_ite, ev_lit, ev_var_u, ev_var_i, ev_var_8, ev_var_b, ev_var_t, ev_not, ev_and, ev_beq, ev_max, ev_min, op_eql, op_neq, op_lss, op_leq, op_gtr, op_geq, op_add, op_sub, iNz_b2i, w64_u, w64_i, w8_u, u64_wd, u64_u64, i64_i64, u8_u8, ph_E4_shift_Right, eE, eP, he, e4, e5, e6, e7]
      rw [hh, hl, s_Right' _ hzW (by omega), eS, Nat.mul_div_cancel _ (FP.two_pow_pos _), oB_eq]
    refine (treeF_call (r := oB (FP.mk (fN f) (iNz n) d)) ?_ rfl).trans ?_
    · simp only [l_an, l_ca, l_na, l_mc, l_mn, getI_0, getI_s, oB_eq, oW_eq, ev_bin, ev_conv, ev_ite, ev_lit, ev_var_u, ev_var_i, ev_var_8, ev_var_b, ev_var_t, ev_not, ev_and, ev_beq, ev_max, ev_min, op_eql, op_neq, op_lss, op_leq, op_gtr, op_geq, op_add, op_sub, iNz_b2i, w64_u, w64_i, w8_u, u64_wd, u64_u64, i64_i64, u8_u8, ph_E4_format_Make]
      have := make_code hf hcl (iNz n)
      rw [Nat.div_eq_of_lt hs, Nat.mod_eq_of_lt hs] at this
      rw [s_format_Make, fN_u, if_pos hf, nB_small hd128, show i64 0 = ((0 : Nat) : Int) by decide, iNz_b2i, this, oB_eq]
    rw [treeF_leaf rfl]
    simp only [l_an, l_ca, l_na, l_mc, l_mn, getI_0, getI_s, oB_eq, oW_eq, ev_bin, ev_conv, ev_ite, ev_lit, ev_var_u, ev_var_i, ev_var_8, ev_var_b, ev_var_t, ev_not, ev_and, ev_beq, ev_max, ev_min, op_eql, op_neq, op_lss, op_leq, op_gtr, op_geq, op_add, op_sub, iNz_b2i, w64_u, w64_i, w8_u, u64_wd, u64_u64, i64_i64, u8_u8]
  · rw [if_neg (fun h => hs (g3.1 h))]
    have b1 : d / 2 ^ (FP.fP (fN f) - 1) < 2 * FP.fE (fN f) + 1 := by
      rw [Nat.div_lt_iff_lt_mul (FP.two_pow_pos _)]; exact d1
    have eS : FP.unSig (fN f) d = (2 ^ (FP.fP (fN f) - 1) + d % 2 ^ (FP.fP (fN f) - 1)) * 2 ^ (128 - FP.fP (fN f)) := by unfold FP.unSig; rw [if_neg hs]
    have eX : FP.unExp (fN f) d + (FP.fE (fN f) : Int) = ((d / 2 ^ (FP.fP (fN f) - 1) : Nat) : Int) := by unfold FP.unExp; rw [if_neg hs]; omega
    have hm := Nat.mod_lt d (FP.two_pow_pos (FP.fP (fN f) - 1))
    have hq : 2 ^ (FP.fP (fN f) - 1) + d % 2 ^ (FP.fP (fN f) - 1) < W128 := by
      have h2 : 2 ^ (FP.fP (fN f) - 1) + d % 2 ^ (FP.fP (fN f) - 1) < 2 ^ FP.fP (fN f) := by rw [FP.half_pow n1]; omega
      exact Nat.lt_of_lt_of_le h2 (pow_le128 (by omega))
    refine (treeF_call (r := oW (FP.unSig (fN f) d)) ?_ rfl).trans ?_
    · simp only [l_an, l_ca, l_na, l_mc, l_mn, getI_0, getI_s, oB_eq, oW_eq, ev_bin, ev_conv, ev_ite, ev_lit, ev_var_u, ev_var_i, ev_var_8, ev_var_b, ev_var_t, ev_not, ev_and, ev_beq, ev_max, ev_min, op_eql, op_neq, op_lss, op_leq, op_gtr, op_geq, op_add, op_sub, iNz_b2i, w64_u, w64_i, w8_u, u64_wd, u64_u64, i64_i64, u8_u8, ph_E4_wide_Of]; rw [s_wide_Of, hh, hl, nB_small hzW, oW_eq]
    refine (treeF_call (r := [b2i false]) ?_ rfl).trans ?_
    · simp only [l_an, l_ca, l_na, l_mc, l_mn, getI_0, getI_s, oB_eq, oW_eq, ev_bin, ev_conv, ev_ite, ev_lit, ev_var_u, ev_var_i, ev_var_8, ev_var_b, ev_var_t, ev_not, ev_and, ev_beq, ev_max, ev_min, op_eql, op_neq, op_lss, op_leq, op_gtr, op_geq, op_add, op_sub, iNz_b2i, w64_u, w64_i, w8_u, u64_wd, u64_u64, i64_i64, u8_u8, ph_E4_shift_Lost, eP, e5]
      rw [s_shift_Lost, nW_small hzz, i64_nat (by omega), toNat_c, eS, Nat.mul_mod_left]; rfl
    rw [treeF_ite]
    simp only [l_an, l_ca, l_na, l_mc, l_mn, getI_0, getI_s, oB_eq, oW_eq, ev_bin, ev_conv, ev_ite, ev_lit, ev_var_u, ev_var_i, ev_var_8, ev_var_b, ev_var_t, ev_not, ev_and, ev_beq, ev_max, ev_min, op_eql, op_neq, op_lss, op_leq, op_gtr, op_geq, op_add, op_sub, iNz_b2i, w64_u, w64_i, w8_u, u64_wd, u64_u64, i64_i64, u8_u8, Bool.false_eq_true, ↓reduceIte]
    refine (treeF_call (r := oB (2 ^ (FP.fP (fN f) - 1) + d % 2 ^ (FP.fP (fN f) - 1))) ?_ rfl).trans ?_
    · simp only [l_an, l_ca, l_na, l_mc, l_mn, getI_0, getI_s, oB_eq, oW_eq, ev_bin, ev_conv, ev_ite, ev_lit, ev_var_u, ev_var_i, ev_var_8, ev_var_b, ev_var_t, ev_not, ev_and, ev_beq, ev_max, ev_min, op_eql, op_neq, op_lss, op_leq, op_gtr, op_geq, op_add, op_sub, iNz_b2i, w64_u, w64_i, w8_u, u64_wd, u64_u64, i64_i64, u8_u8, ph_E4_shift_Right, eP, e5]
      rw [hh, hl, s_Right' _ hzW (by omega), eS, Nat.mul_div_cancel _ (FP.two_pow_pos _), oB_eq]
    refine (treeF_call (r := oB (FP.mk (fN f) (iNz n) d)) ?_ rfl).trans ?_
    · simp only [l_an, l_ca, l_na, l_mc, l_mn, getI_0, getI_s, oB_eq, oW_eq, ev_bin, ev_conv, ev_ite, ev_lit, ev_var_u, ev_var_i, ev_var_8, ev_var_b, ev_var_t, ev_not, ev_and, ev_beq, ev_max, ev_min, op_eql, op_neq, op_lss, op_leq, op_gtr, op_geq, op_add, op_sub, iNz_b2i, w64_u, w64_i, w8_u, u64_wd, u64_u64, i64_i64, u8_u8, ph_E4_format_Make, eE, he, e4]
      have := make_code hf hcl (iNz n)
      rw [s_format_Make, fN_u, if_pos hf, nB_small hq, e4, eX, iNz_b2i]
      unfold makeN at this ⊢
      rw [Nat.mod_mod] at this
      rw [Nat.add_mod_left, Nat.mod_mod, this, oB_eq]
    rw [treeF_leaf rfl]
    simp only [l_an, l_ca, l_na, l_mc, l_mn, getI_0, getI_s, oB_eq, oW_eq, ev_bin, ev_conv, ev_ite, ev_lit, ev_var_u, ev_var_i, ev_var_8, ev_var_b, ev_var_t, ev_not, ev_and, ev_beq, ev_max, ev_min, op_eql, op_neq, op_lss, op_leq, op_gtr, op_geq, op_add, op_sub, iNz_b2i, w64_u, w64_i, w8_u, u64_wd, u64_u64, i64_i64, u8_u8]
end Go.Proofs.YtikjbocagnolmaaDoor
