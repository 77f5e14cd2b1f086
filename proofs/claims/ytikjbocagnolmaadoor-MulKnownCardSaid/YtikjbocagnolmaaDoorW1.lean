/- math/bits and word, walked. -/
import Derived.Test.YtikjbocagnolmaaDoorBase
import Derived.Test.YtikjbocagnolmaaDoorNum
import Derived.Shelf.Spec.BitsCarry
import Derived.Shelf.Sort.So_math_bits_Len64In
namespace Go.Proofs.YtikjbocagnolmaaDoor
set_option linter.unusedVariables false
open Go.RowKit Go.Shelf
theorem add64_run (x y c : Int) (hx : U64 x) (hy : U64 y) (hc : 0 ≤ c ∧ c ≤ 1) (w : World) :
    (callFunc 99 #[.int .u64 x, .int .u64 y, .int .u64 c]).run Tryd.prog w = .ok (.value (.tuple #[.int .u64 (addw x y c), .int .u64 (addc x y c)])) w := by
  obtain ⟨x, rfl, hx'⟩ := hx.nat
  obtain ⟨y, rfl, hy'⟩ := hy.nat
  obtain ⟨c, rfl⟩ := Int.eq_ofNat_of_zero_le hc.1
  rw [run_callFunc_extern Tryd.func99 (by kernel_rfl) (by kernel_rfl) (by kernel_rfl) (e := add64Entry) (by kernel_rfl), run_add64 x y c (by omega) (by omega) (by omega) (by omega)]
  simp only [Result.andThen]
  unfold addw addc W64
  congr 5 <;> omega
theorem sub64_run (x y c : Int) (hx : U64 x) (hy : U64 y) (hc : 0 ≤ c ∧ c ≤ 1) (w : World) :
    (callFunc 128 #[.int .u64 x, .int .u64 y, .int .u64 c]).run Tryd.prog w = .ok (.value (.tuple #[.int .u64 (subw x y c), .int .u64 (subc x y c)])) w := by
  obtain ⟨x, rfl, hx'⟩ := hx.nat
  obtain ⟨y, rfl, hy'⟩ := hy.nat
  obtain ⟨c, rfl⟩ := Int.eq_ofNat_of_zero_le hc.1
  have h1 : x < 18446744073709551616 := hx'
  have h2 : y < 18446744073709551616 := hy'
  rw [run_callFunc_extern Tryd.func128 (by kernel_rfl) (by kernel_rfl) (by kernel_rfl) (e := sub64Entry) (by kernel_rfl), run_sub64 x y c (by omega)]
  simp only [Result.andThen]
  have e1 : (((x + 18446744073709551616 - y - c) % 18446744073709551616 : Nat) : Int) = subw x y c := by unfold subw W64; omega
  have e2 : ((if x < y + c then 1 else 0 : Nat) : Int) = subc x y c := by
    unfold subc
    by_cases h : x < y + c
    · rw [if_pos h, if_pos (by omega)]; rfl
    · rw [if_neg h, if_neg (by omega)]; rfl
  rw [e1, e2]
set_option maxHeartbeats 400000 in
theorem wordAdd_c (a b : Nat) (w : World) (ha : a < W128) (hb : b < W128) :
    Calls Tryd.prog 65 #[vB a, vB b] w fun e w' => e = .returned (.tuple #[vB (a + b), .bool (decide (W128 ≤ a + b))]) ∧ Bel w w' := by
  have e0 := fun w => add64_run (wd a 0) (wd b 0) 0 (wd_u64 _ _) (wd_u64 _ _) (by omega) w
  have h0 : addw (wd a 0) (wd b 0) 0 = wd (a + b) 0 := by have := addw_wd a b 0; rwa [cin_zero] at this
  have h1 : addc (wd a 0) (wd b 0) 0 = (cin a b 1 : Int) := by have := addc_wd a b 0; rwa [cin_zero] at this
  rw [h0, h1] at e0
  have hc := cin_le a b 1
  have e1 := fun w => add64_run (wd a 1) (wd b 1) (cin a b 1 : Int) (wd_u64 _ _) (wd_u64 _ _) (by omega) w
  rw [addw_wd a b 1, addc_wd a b 1] at e1
  have h2 : (((cin a b 2 : Nat) : Int) != 0) = decide (W128 ≤ a + b) := by
    rw [cin_end (i := 2) ha hb, show W64 ^ 2 = W128 by decide]
    split <;> simp_all
  clear h0 h1
  go_enter Tryd.func65, Tryd.ntmps65
  go_wp2
  refine bodyPost_ret (v := .tuple #[vB (a + b), .bool (decide (W128 ≤ a + b))]) (by simp [results, Tryd.results65, go_sem]) rfl ⟨rfl, ?_⟩
  exact (((Bel.refl w).alloc _).alloc _).alloc _
set_option maxHeartbeats 400000 in
theorem wordSub_c (a b : Nat) (w : World) (ha : a < W128) (hb : b < W128) :
    Calls Tryd.prog 120 #[vB a, vB b] w fun e w' => e = .returned (.tuple #[vB (a + W128 - b), .bool (decide (a < b))]) ∧ Bel w w' := by
  have hp : W64 ^ 2 = W128 := by decide
  have e0 := fun w => sub64_run (wd a 0) (wd b 0) 0 (wd_u64 _ _) (wd_u64 _ _) (by omega) w
  have h0 : subw (wd a 0) (wd b 0) 0 = wd (a + W128 - b) 0 := by
    have := subw_wd a b 0 2 (by decide) (by rw [hp]; omega); rwa [bin_zero, hp] at this
  have h1 : subc (wd a 0) (wd b 0) 0 = (bin a b 1 : Int) := by have := subc_wd a b 0; rwa [bin_zero] at this
  have h3 : subw (wd a 1) (wd b 1) (bin a b 1 : Int) = wd (a + W128 - b) 1 := by
    have := subw_wd a b 1 2 (by decide) (by rw [hp]; omega); rwa [hp] at this
  rw [h0, h1] at e0
  have hc := bin_le a b 1
  have e1 := fun w => sub64_run (wd a 1) (wd b 1) (bin a b 1 : Int) (wd_u64 _ _) (wd_u64 _ _) (by omega) w
  rw [h3, subc_wd a b 1] at e1
  have h2 : (((bin a b 2 : Nat) : Int) != 0) = decide (a < b) := by
    rw [bin_end (i := 2) ha hb]
    split <;> simp_all
  clear h0 h1 h3
  clear hp
  go_enter Tryd.func120, Tryd.ntmps120
  go_wp2
  refine bodyPost_ret (v := .tuple #[vB (a + W128 - b), .bool (decide (a < b))]) (by simp [results, Tryd.results120, go_sem]) rfl ⟨rfl, ?_⟩
  exact (((Bel.refl w).alloc _).alloc _).alloc _
set_option maxHeartbeats 400000 in
theorem wordBit_c (a : Nat) (i : Int) (w : World) (ha : a < W128) :
    Calls Tryd.prog 53 #[vB a, .int .i64 i] w fun e w' => e = .returned (.bool (bitB a i)) ∧ Bel w w' := by
  by_cases h0 : i < 0
  · have HB := Lib.hid (bitB_neg (a := a) h0)
    go_enter Tryd.func53, Tryd.ntmps53
    go_wp2
    go_ret
    exact ⟨ret_bool HB.out.symm, (Bel.refl w).alloc _⟩
  · by_cases h1 : 127 < i
    · have HB := Lib.hid (bitB_big ha h1)
      go_enter Tryd.func53, Tryd.ntmps53
      go_wp2
      go_ret
      exact ⟨ret_bool HB.out.symm, (Bel.refl w).alloc _⟩
    · by_cases h2 : 63 < i
      · have HB := Lib.hid (bitB_hi (a := a) h2 (by omega))
        go_enter Tryd.func53, Tryd.ntmps53
        go_wp2
        go_ret
        exact ⟨ret_bool HB.out, (Bel.refl w).alloc _⟩
      · have HB := Lib.hid (bitB_lo (a := a) (i := i) (by omega) (by omega))
        go_enter Tryd.func53, Tryd.ntmps53
        go_wp2
        go_ret
        exact ⟨ret_bool HB.out, (Bel.refl w).alloc _⟩
set_option maxHeartbeats 400000 in
theorem wordZero_c (a : Nat) (w : World) (ha : a < W128) :
    Calls Tryd.prog 52 #[vB a] w fun e w' => e = .returned (.bool (decide (a = 0))) ∧ Bel w w' := by
  have hz := eq_zero2 ha
  by_cases h0 : a = 0
  · subst h0
    show Calls _ _ #[.agg #[.int .u64 (wd 0 1), .int .u64 (wd 0 0)]] _ _
    rw [wd_zero, wd_zero]
    go_enter Tryd.func52, Tryd.ntmps52
    go_wp2
    go_ret
    exact ⟨rfl, (Bel.refl w).alloc _⟩
  · have HD := Lib.hid (show decide (a = 0) = false by simp [h0])
    rw [HD.out]
    go_enter Tryd.func52, Tryd.ntmps52
    go_wp2
    all_goals
      go_ret
      exact ⟨rfl, (Bel.refl w).alloc _⟩
theorem and_low32m (z : Int) : bits .and .u64 (z % 18446744073709551616) 4294967295 = z % 18446744073709551616 % 4294967296 := and_low32 _ (by omega) (by omega)
theorem ret_two {k : IntKind} {a b c d : Int} (h1 : a = c) (h2 : b = d) : Ending.returned (.tuple #[.int k a, .int k b]) = .returned (.tuple #[.int k c, .int k d]) := by rw [h1, h2]
set_option maxHeartbeats 400000 in
theorem mul64_c (a b : Int) (w : World) (ha : U64 a) (hb : U64 b) :
    Calls Tryd.prog 117 #[.int .u64 a, .int .u64 b] w fun e w' => e = .returned (.tuple #[.int .u64 (a * b / (W64 : Int)), .int .u64 (a * b % (W64 : Int))]) ∧ w = w' := by
  have HA := Lib.hid ha; have HB := Lib.hid hb; clear ha hb
  go_enter Tryd.func117, Tryd.ntmps117
  go_wp2
  go_ret2
  have ha : 0 ≤ a ∧ a < 18446744073709551616 := HA.out
  have hb : 0 ≤ b ∧ b < 18446744073709551616 := HB.out
  refine ⟨ret_two ?_ ?_, rfl⟩
  · show _ = a * b / 18446744073709551616
    rw [← mul64_arith a b ha.1 ha.2 hb.1 hb.2]
    simp only [IntKind.wrap_u64, and_low32m, and_low32 a ha.1 ha.2, and_low32 b hb.1 hb.2]
  · show _ = a * b % 18446744073709551616
    rw [← IntKind.wrap_u64]
theorem mul_words {a b : Nat} (ha : a < W64) (hb : b < W64) : (a : Int) * (b : Int) / (W64 : Int) = wd (a * b) 1 ∧ (a : Int) * (b : Int) % (W64 : Int) = wd (a * b) 0 := by
  rw [← Int.natCast_mul, ← Int.natCast_ediv, ← Int.natCast_emod]
  unfold wd
  have hlt : a * b / W64 < W64 := by
    rw [Nat.div_lt_iff_lt_mul W64_pos]
    exact Nat.mul_lt_mul'' ha hb
  exact ⟨by rw [Nat.pow_one, Nat.mod_eq_of_lt hlt], by rw [Nat.pow_zero, Nat.div_one]⟩
set_option maxHeartbeats 400000 in
theorem wordMul_c (a b : Nat) (w : World) (ha : a < W64) (hb : b < W64) :
    Calls Tryd.prog 90 #[.int .u64 (a : Int), .int .u64 (b : Int)] w fun e w' => e = .returned (vB (a * b)) ∧ Bel w w' := by
  have hm := mul_words ha hb
  have ha' : U64 (a : Int) := ⟨by omega, by omega⟩
  have hb' : U64 (b : Int) := ⟨by omega, by omega⟩
  have HC := Lib.hid (fun w => mul64_c a b w ha' hb')
  simp only [hm.1, hm.2] at HC
  clear hm ha' hb'
  go_enter Tryd.func90, Tryd.ntmps90
  go_wp2_with (go_at_call 117; refine (HC.out _).mono ?_; rintro e w' ⟨rfl, rfl⟩)
  refine bodyPost_ret (v := vB (a * b)) (by simp [results, Tryd.results90, go_sem]) rfl ⟨rfl, ?_⟩
  exact (Bel.refl w).alloc _
set_option maxHeartbeats 4000000 in
set_option maxRecDepth 1000000 in
/-- the end of this walk: the lines of the library's own contract of Len64, turned. -/
theorem len64_c (x : Int) (w : World) (hx : U64 x) :
    Calls Tryd.prog 129 #[.int .u64 x] w fun e w' => e = .returned (.int .i64 (Lib.bitLen x.toNat : Int)) ∧ w = w' := by
  have h0 : 0 ≤ x := hx.1
  have h1 : x ≤ 18446744073709551615 := by have h : x < 18446744073709551616 := hx.2; omega
  clear hx
  go_enter Tryd.func129, Tryd.ntmps129
  go_wp2
  all_goals first
    | (go_ret; refine ⟨congrArg Ending.returned (congrArg (Value.int .i64) ?_), rfl⟩; go_light)
    | (exfalso
       go_light
       have hs := len8tab_size
       omega)
  all_goals first
    | (rw [len8_get (x / 4294967296 / 65536 / 256) _, Lib.len8_of (x / 4294967296 / 65536 / 256) (by omega) (by omega)]
       have e : (x / 4294967296 / 65536 / 256).toNat = x.toNat / 72057594037927936 := by omega
       have l := Lib.bitLen_le8' (x / 4294967296 / 65536 / 256) (by omega) (by omega)
       have s := Lib.bitLen_shift56 x.toNat (by omega) (by omega)
       rw [e] at l ⊢
       exact wrap_add 56 _ _ (by decide) l s)
    | (rw [len8_get (x / 4294967296 / 65536) _, Lib.len8_of (x / 4294967296 / 65536) (by omega) (by omega)]
       have e : (x / 4294967296 / 65536).toNat = x.toNat / 281474976710656 := by omega
       have l := Lib.bitLen_le8' (x / 4294967296 / 65536) (by omega) (by omega)
       have s := Lib.bitLen_shift48 x.toNat (by omega) (by omega)
       rw [e] at l ⊢
       exact wrap_add 48 _ _ (by decide) l s)
    | (rw [len8_get (x / 4294967296 / 256) _, Lib.len8_of (x / 4294967296 / 256) (by omega) (by omega)]
       have e : (x / 4294967296 / 256).toNat = x.toNat / 1099511627776 := by omega
       have l := Lib.bitLen_le8' (x / 4294967296 / 256) (by omega) (by omega)
       have s := Lib.bitLen_shift40 x.toNat (by omega) (by omega)
       rw [e] at l ⊢
       exact wrap_add 40 _ _ (by decide) l s)
    | (rw [len8_get (x / 4294967296) _, Lib.len8_of (x / 4294967296) (by omega) (by omega)]
       have e : (x / 4294967296).toNat = x.toNat / 4294967296 := by omega
       have l := Lib.bitLen_le8' (x / 4294967296) (by omega) (by omega)
       have s := Lib.bitLen_shift32 x.toNat (by omega) (by omega)
       rw [e] at l ⊢
       exact wrap_add 32 _ _ (by decide) l s)
    | (rw [len8_get (x / 65536 / 256) _, Lib.len8_of (x / 65536 / 256) (by omega) (by omega)]
       have e : (x / 65536 / 256).toNat = x.toNat / 16777216 := by omega
       have l := Lib.bitLen_le8' (x / 65536 / 256) (by omega) (by omega)
       have s := Lib.bitLen_shift24 x.toNat (by omega) (by omega)
       rw [e] at l ⊢
       exact wrap_add 24 _ _ (by decide) l s)
    | (rw [len8_get (x / 65536) _, Lib.len8_of (x / 65536) (by omega) (by omega)]
       have e : (x / 65536).toNat = x.toNat / 65536 := by omega
       have l := Lib.bitLen_le8' (x / 65536) (by omega) (by omega)
       have s := Lib.bitLen_shift16 x.toNat (by omega) (by omega)
       rw [e] at l ⊢
       exact wrap_add 16 _ _ (by decide) l s)
    | (rw [len8_get (x / 256) _, Lib.len8_of (x / 256) (by omega) (by omega)]
       have e : (x / 256).toNat = x.toNat / 256 := by omega
       have l := Lib.bitLen_le8' (x / 256) (by omega) (by omega)
       have s := Lib.bitLen_shift8 x.toNat (by omega) (by omega)
       rw [e] at l ⊢
       exact wrap_add 8 _ _ (by decide) l s)
    | (rw [len8_get (x) _, Lib.len8_of (x) (by omega) (by omega)]
       have l := Lib.bitLen_le8' (x) (by omega) (by omega)
       first | exact wrap_wrap _ l | exact wrap_add 0 _ _ (by decide) l (by omega) | exact wrap_one _ l)
end Go.Proofs.YtikjbocagnolmaaDoor
