/- What the executor of this seat begins with: the program, its variables, contracts walked by hand. -/
import Derived.Test.YtikjbocagnolmaaDoorSxE
import Derived.Test.YtikjbocagnolmaaDoorNext
namespace Go.Proofs.YtikjbocagnolmaaDoor
set_option linter.unusedVariables false
set_option linter.unusedSimpArgs false
open Go.RowKit
noncomputable def cE : SCx := ⟨Tryd.prog, gG, seT, fun _ => none, fun _ _ => []⟩
theorem names_ok : (Tryd.prog.funcs.toList.all fun fn => fn.body.isNone || !(fn.name == "runtime.NumGoroutine")) = true := by kernel_rfl
theorem cE_ok : SOK cE eE := by
  refine ⟨seT_ok, eOK, by kernel_rfl, ?_, fun g ct h => by cases h⟩
  intro g fn hf hb
  have h := List.all_eq_true.1 names_ok fn (Array.mem_toList_iff.2 (Array.mem_of_getElem? hf))
  rw [Bool.or_eq_true] at h
  rcases h with h | h
  · rw [Option.isNone_iff_eq_none] at h; rw [h] at hb; cases hb
  · simpa using h
/-! ### the kinds that stand often -/
abbrev kU : VK := .int .u64
abbrev kI : VK := .int .i64
abbrev kB : VK := .int .u8
abbrev sBits : Sh := .agg [kU, kU]
abbrev sWide : Sh := .agg [kU, kU, kU, kU]
def u64 (n : Int) : Int := wrapC .u64 n
theorem u64_U (n : Int) : U64 (u64 n) := by
  unfold u64; rw [wrapC_eq]
  show 0 ≤ _ ∧ _ < (18446744073709551616 : Int)
  unfold IntKind.wrap IntKind.bits IntKind.signed; simp; omega
theorem u64_id {n : Int} (h : U64 n) : IntKind.u64.wrap n = n := by
  have h1 := h.1; have h2 : n < 18446744073709551616 := h.2
  unfold IntKind.wrap IntKind.bits IntKind.signed; simp; omega
def bitN (n : Int) : Int := b2i (iNz n)
theorem bitN_c (n : Int) : 0 ≤ bitN n ∧ bitN n ≤ 1 := by unfold bitN; cases iNz n <;> decide
theorem bit_id {n : Int} (h : 0 ≤ n ∧ n ≤ 1) : b2i (n != 0) = n := by
  rcases (show n = 0 ∨ n = 1 by omega) with rfl | rfl <;> rfl
theorem valX_u64 (n : Int) : valX kU n = .int .u64 (u64 n) := by simp only [valX, u64, wrapC_eq]
theorem valX_bit (n : Int) : valX .bit n = .int .u64 (bitN n) := by simp only [valX, bitN, iNz_eq]
theorem pc_extern {g : FuncId} {vs : List Value} {v : Value} (h : ∀ w, (callFunc g vs.toArray).run Tryd.prog w = .ok (.value v) w) : PC Tryd.prog gG g vs v := fun w _ => by
  unfold CallsX; rw [h w]; exact ⟨rfl, Bel.refl w⟩
theorem three {α : Type} {l : List α} (h : l.length = 3) : ∃ a b c, l = [a, b, c] := by match l, h with | [a, b, c], _ => exact ⟨a, b, c, rfl⟩
theorem two {α : Type} {l : List α} (h : l.length = 2) : ∃ a b, l = [a, b] := by match l, h with | [a, b], _ => exact ⟨a, b, rfl⟩
theorem one' {α : Type} {l : List α} (h : l.length = 1) : ∃ a, l = [a] := by match l, h with | [a], _ => exact ⟨a, rfl⟩
theorem four {α : Type} {l : List α} (h : l.length = 4) : ∃ a b c d, l = [a, b, c, d] := by match l, h with | [a, b, c, d], _ => exact ⟨a, b, c, d, rfl⟩
theorem eight {α : Type} {l : List α} (h : l.length = 8) : ∃ a b c d e f g i, l = [a, b, c, d, e, f, g, i] := by match l, h with | [a, b, c, d, e, f, g, i], _ => exact ⟨a, b, c, d, e, f, g, i, rfl⟩
/-! ### words -/
def fAdd64 (l : List Int) : List Int := [addw (u64 (getI l 0)) (u64 (getI l 1)) (bitN (getI l 2)), addc (u64 (getI l 0)) (u64 (getI l 1)) (bitN (getI l 2))]
def fSub64 (l : List Int) : List Int := [subw (u64 (getI l 0)) (u64 (getI l 1)) (bitN (getI l 2)), subc (u64 (getI l 0)) (u64 (getI l 1)) (bitN (getI l 2))]
def fMul64 (l : List Int) : List Int := [u64 (getI l 0) * u64 (getI l 1) / (W64 : Int), u64 (getI l 0) * u64 (getI l 1) % (W64 : Int)]
def fLen64 (l : List Int) : List Int := [(Lib.bitLen (u64 (getI l 0)).toNat : Int)]
theorem addw_U (x y c : Int) : U64 (addw x y c) := by
  unfold addw; exact ⟨Int.emod_nonneg _ (by decide), Int.emod_lt_of_pos _ (by decide)⟩
theorem subw_U (x y c : Int) : U64 (subw x y c) := by
  unfold subw; exact ⟨Int.emod_nonneg _ (by decide), Int.emod_lt_of_pos _ (by decide)⟩
theorem addc_bit {x y c : Int} (hx : U64 x) (hy : U64 y) (hc : 0 ≤ c ∧ c ≤ 1) : 0 ≤ addc x y c ∧ addc x y c ≤ 1 := by
  have h1 := hx.1; have h2 : x < 18446744073709551616 := hx.2; have h3 := hy.1; have h4 : y < 18446744073709551616 := hy.2
  unfold addc
  show 0 ≤ (x + y + c) / 18446744073709551616 ∧ (x + y + c) / 18446744073709551616 ≤ 1
  omega
theorem subc_bit (x y c : Int) : 0 ≤ subc x y c ∧ subc x y c ≤ 1 := by unfold subc; split <;> decide
set_option maxRecDepth 100000 in
theorem ent_Add64 : EntOK Tryd.prog gG ⟨99, ⟨[.sc kU, .sc kU, .sc .bit], [.sc kU, .sc .bit]⟩, fAdd64⟩ := by
  intro l hl
  obtain ⟨a, b, c, rfl⟩ := three hl
  refine ⟨rfl, ?_⟩
  have h := pc_extern (g := 99) (vs := [_, _, _]) (add64_run (u64 a) (u64 b) (bitN c) (u64_U a) (u64_U b) (bitN_c c))
  have e1 := u64_id (addw_U (u64 a) (u64 b) (bitN c))
  have e2 := bit_id (addc_bit (u64_U a) (u64_U b) (bitN_c c))
  simp only [valsS, val1, Sh.kinds, List.drop_succ_cons, List.drop_zero, List.length_cons, List.length_nil, valX_u64, valX_bit, fAdd64, getI, resVal]
  have e3 : u64 (addw (u64 a) (u64 b) (bitN c)) = addw (u64 a) (u64 b) (bitN c) := by conv => { lhs; unfold u64 }; rw [wrapC_eq]; exact e1
  have e4 : bitN (addc (u64 a) (u64 b) (bitN c)) = addc (u64 a) (u64 b) (bitN c) := by conv => { lhs; unfold bitN }; rw [iNz_eq]; exact e2
  rw [e3, e4]; exact h
set_option maxRecDepth 100000 in
theorem ent_Sub64 : EntOK Tryd.prog gG ⟨128, ⟨[.sc kU, .sc kU, .sc .bit], [.sc kU, .sc .bit]⟩, fSub64⟩ := by
  intro l hl
  obtain ⟨a, b, c, rfl⟩ := three hl
  refine ⟨rfl, ?_⟩
  have h := pc_extern (g := 128) (vs := [_, _, _]) (sub64_run (u64 a) (u64 b) (bitN c) (u64_U a) (u64_U b) (bitN_c c))
  have e1 := u64_id (subw_U (u64 a) (u64 b) (bitN c))
  have e2 := bit_id (subc_bit (u64 a) (u64 b) (bitN c))
  simp only [valsS, val1, Sh.kinds, List.drop_succ_cons, List.drop_zero, List.length_cons, List.length_nil, valX_u64, valX_bit, fSub64, getI, resVal]
  have e3 : u64 (subw (u64 a) (u64 b) (bitN c)) = subw (u64 a) (u64 b) (bitN c) := by conv => { lhs; unfold u64 }; rw [wrapC_eq]; exact e1
  have e4 : bitN (subc (u64 a) (u64 b) (bitN c)) = subc (u64 a) (u64 b) (bitN c) := by conv => { lhs; unfold bitN }; rw [iNz_eq]; exact e2
  rw [e3, e4]; exact h
theorem u64_idem {n : Int} (h : U64 n) : u64 n = n := by unfold u64; rw [wrapC_eq]; exact u64_id h
theorem mulhi_U {x y : Int} (hx : U64 x) (hy : U64 y) : U64 (x * y / (W64 : Int)) := by
  obtain ⟨a, rfl, ha⟩ := hx.nat
  obtain ⟨b, rfl, hb⟩ := hy.nat
  rw [(mul_words ha hb).1]; exact wd_u64 _ _
set_option maxRecDepth 100000 in
theorem ent_Mul64 : EntOK Tryd.prog gG ⟨117, ⟨[.sc kU, .sc kU], [.sc kU, .sc kU]⟩, fMul64⟩ := by
  intro l hl
  obtain ⟨a, b, rfl⟩ := two hl
  refine ⟨rfl, ?_⟩
  have h : PC Tryd.prog gG 117 [.int .u64 (u64 a), .int .u64 (u64 b)] (.tuple #[.int .u64 (u64 a * u64 b / (W64 : Int)), .int .u64 (u64 a * u64 b % (W64 : Int))]) :=
    pc_of_calls Tryd.func117 (by kernel_rfl) (by kernel_rfl) fun w => (mul64_c (u64 a) (u64 b) w (u64_U a) (u64_U b)).mono fun e w' ⟨h1, h2⟩ => ⟨h1, by rw [← h2]; exact Bel.refl w⟩
  simp only [valsS, val1, Sh.kinds, List.drop_succ_cons, List.drop_zero, List.length_cons, List.length_nil, valX_u64, fMul64, getI, resVal]
  rw [u64_idem (mulhi_U (u64_U a) (u64_U b)), u64_idem (n := u64 a * u64 b % (W64 : Int)) ⟨Int.emod_nonneg _ (by decide), Int.emod_lt_of_pos _ (by decide)⟩]
  exact h
theorem bitLen_le (n : Nat) (h : n < W64) : Lib.bitLen n ≤ 64 := by
  unfold Lib.bitLen
  have key : ∀ f x, Lib.bitLenAux f x ≤ f := by
    intro f
    induction f with
    | zero => intro x; exact Nat.le_refl _
    | succ f ih => intro x; unfold Lib.bitLenAux; split
                   · omega
                   · have := ih (x / 2); omega
  exact key _ _
set_option maxRecDepth 100000 in
theorem ent_Len64 : EntOK Tryd.prog gG ⟨129, ⟨[.sc kU], [.sc kI]⟩, fLen64⟩ := by
  intro l hl
  obtain ⟨a, rfl⟩ := one' hl
  refine ⟨rfl, ?_⟩
  have h : PC Tryd.prog gG 129 [.int .u64 (u64 a)] (.int .i64 (Lib.bitLen (u64 a).toNat : Int)) :=
    pc_of_calls Tryd.func129 (by kernel_rfl) (by kernel_rfl) fun w => (len64_c (u64 a) w (u64_U a)).mono fun e w' ⟨h1, h2⟩ => ⟨h1, by rw [← h2]; exact Bel.refl w⟩
  have hb := bitLen_le (u64 a).toNat (by have h1 := (u64_U a).1; have h2 := (u64_U a).2; omega)
  simp only [valsS, val1, valX_u64, fLen64, getI, resVal]
  have e : valX kI (Lib.bitLen (u64 a).toNat : Int) = .int .i64 (Lib.bitLen (u64 a).toNat : Int) := by
    simp only [valX]
    rw [wrap_i64 (by omega)]
  rw [e]; exact h
/-! ### modes -/
def fNext (l : List Int) : List Int := [b2i (nextB (wrapC .u8 (getI l 0)) (iNz (getI l 1)) (iNz (getI l 2)) (wrapC .u8 (getI l 3)))]
set_option maxRecDepth 100000 in
theorem ent_Next : EntOK Tryd.prog gG ⟨111, ⟨[.sc kB, .sc .bool, .sc .bool, .sc kB], [.sc .bool]⟩, fNext⟩ := by
  intro l hl
  obtain ⟨a, b, c, d, rfl⟩ := four hl
  refine ⟨rfl, ?_⟩
  have h : PC Tryd.prog gG 111 [.int .u8 (wrapC .u8 a), .bool (iNz b), .bool (iNz c), .int .u8 (wrapC .u8 d)] (.bool (nextB (wrapC .u8 a) (iNz b) (iNz c) (wrapC .u8 d))) :=
    pc_of_calls Tryd.func111 (by kernel_rfl) (by kernel_rfl) fun w => next_c _ _ _ _ w
  simp only [valsS, val1, Sh.kinds, List.drop_succ_cons, List.drop_zero, List.length_cons, List.length_nil, valX, fNext, getI, resVal, b2i_ne, ← wrapC_eq, ← iNz_eq]
  simp only [iNz_eq, b2i_ne] at h ⊢
  exact h
/-! ### wide sums -/
/-- four words as a number -/
def w4 (l : List Int) (i : Nat) : Nat := (u64 (getI l i)).toNat + W64 * ((u64 (getI l (i + 1))).toNat + W64 * ((u64 (getI l (i + 2))).toNat + W64 * (u64 (getI l (i + 3))).toNat))
theorem u64_nat (n : Int) : ((u64 n).toNat : Int) = u64 n ∧ (u64 n).toNat < W64 := by
  have h := u64_U n
  exact ⟨Int.toNat_of_nonneg h.1, by have := h.2; have := h.1; omega⟩
theorem words4 (a b c d : Nat) (ha : a < W64) (hb : b < W64) (hc : c < W64) (hd : d < W64) : wd (a + W64 * (b + W64 * (c + W64 * d))) 0 = a ∧ wd (a + W64 * (b + W64 * (c + W64 * d))) 1 = b ∧ wd (a + W64 * (b + W64 * (c + W64 * d))) 2 = c ∧
    wd (a + W64 * (b + W64 * (c + W64 * d))) 3 = d ∧ a + W64 * (b + W64 * (c + W64 * d)) < W256 := by
  have hW : W64 = 18446744073709551616 := rfl
  unfold wd W256 W128
  rw [Nat.pow_zero, Nat.pow_one, show W64 ^ 2 = W64 * W64 by rw [Nat.pow_two], show W64 ^ 3 = W64 * (W64 * W64) by rw [Nat.pow_succ, Nat.pow_two, Nat.mul_comm]]
  have d1 : (a + W64 * (b + W64 * (c + W64 * d))) / W64 = b + W64 * (c + W64 * d) := by rw [Nat.add_mul_div_left _ _ W64_pos, Nat.div_eq_of_lt ha, Nat.zero_add]
  have d2 : (b + W64 * (c + W64 * d)) / W64 = c + W64 * d := by rw [Nat.add_mul_div_left _ _ W64_pos, Nat.div_eq_of_lt hb, Nat.zero_add]
  have d3 : (c + W64 * d) / W64 = d := by rw [Nat.add_mul_div_left _ _ W64_pos, Nat.div_eq_of_lt hc, Nat.zero_add]
  rw [← Nat.div_div_eq_div_mul, ← Nat.div_div_eq_div_mul, ← Nat.div_div_eq_div_mul, d1, d2, d3, Nat.div_one]
  refine ⟨?_, ?_, ?_, ?_, ?_⟩
  · rw [Nat.add_mul_mod_self_left, Nat.mod_eq_of_lt ha]
  · rw [Nat.add_mul_mod_self_left, Nat.mod_eq_of_lt hb]
  · rw [Nat.add_mul_mod_self_left, Nat.mod_eq_of_lt hc]
  · rw [Nat.mod_eq_of_lt hd]
  · have ha' : a < 18446744073709551616 := ha
    have hb' : b < 18446744073709551616 := hb
    have hc' : c < 18446744073709551616 := hc
    have hd' : d < 18446744073709551616 := hd
    clear d1 d2 d3 ha hb hc hd hW
    show a + 18446744073709551616 * (b + 18446744073709551616 * (c + 18446744073709551616 * d)) < 115792089237316195423570985008687907853269984665640564039457584007913129639936
    omega
theorem vW_w4 (l : List Int) (i : Nat) : vW (w4 l i) = .agg #[.int .u64 (u64 (getI l i)), .int .u64 (u64 (getI l (i + 1))), .int .u64 (u64 (getI l (i + 2))), .int .u64 (u64 (getI l (i + 3)))] ∧ w4 l i < W256 := by
  obtain ⟨h0, h1, h2, h3, h4⟩ := words4 _ _ _ _ (u64_nat (getI l i)).2 (u64_nat (getI l (i + 1))).2 (u64_nat (getI l (i + 2))).2 (u64_nat (getI l (i + 3))).2
  unfold w4 vW
  rw [h0, h1, h2, h3, (u64_nat _).1, (u64_nat _).1, (u64_nat _).1, (u64_nat _).1]
  exact ⟨rfl, h4⟩
def fWide (s : Nat) (b : Bool) : List Int := [wd s 0, wd s 1, wd s 2, wd s 3, b2i b]
theorem fWide_val (s : Nat) (b : Bool) : resVal (valsS [sWide, .sc .bool] (fWide s b)) = .tuple #[vW s, .bool b] := by
  simp only [valsS, val1, valXs, Sh.kinds, List.drop_succ_cons, List.drop_zero, List.length_cons, List.length_nil, valX_u64, fWide, resVal, u64_idem (wd_u64 _ _)]
  simp only [valX, b2i_ne]
def fWideAdd (l : List Int) : List Int := fWide (w4 l 0 + w4 l 4) (Nat.ble W256 (w4 l 0 + w4 l 4))
set_option maxRecDepth 100000 in
theorem ent_WideAdd : EntOK Tryd.prog gG ⟨91, ⟨[sWide, sWide], [sWide, .sc .bool]⟩, fWideAdd⟩ := by
  intro l hl
  refine ⟨rfl, ?_⟩
  have h : PC Tryd.prog gG 91 [vW (w4 l 0), vW (w4 l 4)] (.tuple #[vW (w4 l 0 + w4 l 4), .bool (decide (W256 ≤ w4 l 0 + w4 l 4))]) :=
    pc_of_calls Tryd.func91 (by kernel_rfl) (by kernel_rfl) fun w => wideAdd_c _ _ w (vW_w4 l 0).2 (vW_w4 l 4).2
  obtain ⟨a, b, c, d, e, f, g, i, rfl⟩ := eight hl
  unfold fWideAdd
  rw [fWide_val, show Nat.ble W256 (w4 [a, b, c, d, e, f, g, i] 0 + w4 [a, b, c, d, e, f, g, i] 4) = decide (W256 ≤ w4 [a, b, c, d, e, f, g, i] 0 + w4 [a, b, c, d, e, f, g, i] 4) by
    rw [Bool.eq_iff_iff, Nat.ble_eq, decide_eq_true_iff]]
  rw [(vW_w4 _ 0).1, (vW_w4 _ 4).1] at h
  simpa only [valsS, val1, valXs, Sh.kinds, List.drop_succ_cons, List.drop_zero, List.length_cons, List.length_nil, valX_u64, getI] using h
def fWideSub (l : List Int) : List Int := fWide (w4 l 0 + W256 - w4 l 4) (Nat.blt (w4 l 0) (w4 l 4))
/-- the table of contracts that were walked by hand -/
def ents0 : List Ent := [
  ⟨99, ⟨[.sc kU, .sc kU, .sc .bit], [.sc kU, .sc .bit]⟩, fAdd64⟩,
  ⟨128, ⟨[.sc kU, .sc kU, .sc .bit], [.sc kU, .sc .bit]⟩, fSub64⟩,
  ⟨117, ⟨[.sc kU, .sc kU], [.sc kU, .sc kU]⟩, fMul64⟩,
  ⟨91, ⟨[sWide, sWide], [sWide, .sc .bool]⟩, fWideAdd⟩,
  ⟨111, ⟨[.sc kB, .sc .bool, .sc .bool, .sc kB], [.sc .bool]⟩, fNext⟩,
  ⟨129, ⟨[.sc kU], [.sc kI]⟩, fLen64⟩]
noncomputable def c0 : SCx := addE cE ents0
theorem c0_ok : SOK c0 eE := by
  refine cE_ok.add fun e he => ?_
  simp only [ents0, List.mem_cons, List.not_mem_nil, or_false] at he
  rcases he with rfl | he
  · exact ent_Add64
  rcases he with rfl | he
  · exact ent_Sub64
  rcases he with rfl | he
  · exact ent_Mul64
  rcases he with rfl | he
  · exact ent_WideAdd
  rcases he with rfl | he
  · exact ent_Next
  · subst he; exact ent_Len64
end Go.Proofs.YtikjbocagnolmaaDoor
