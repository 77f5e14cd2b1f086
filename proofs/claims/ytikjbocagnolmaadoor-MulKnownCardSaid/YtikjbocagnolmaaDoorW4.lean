/- wide: Add, Sub. -/
import Derived.Test.YtikjbocagnolmaaDoorW3
namespace Go.Proofs.YtikjbocagnolmaaDoor
set_option linter.unusedVariables false
open Go.RowKit Go.Shelf
theorem cin_c (a b i : Nat) : (0 : Int) ≤ (cin a b i : Int) ∧ (cin a b i : Int) ≤ 1 := by have := cin_le a b i; omega
theorem bin_c (a b i : Nat) : (0 : Int) ≤ (bin a b i : Int) ∧ (bin a b i : Int) ≤ 1 := by have := bin_le a b i; omega
theorem add_chained : Chained 99 addw addc where
  run x y c w hx hy hc := add64_run x y c hx hy hc w
  carry x y c hx hy hc := by
    obtain ⟨x, rfl, hx'⟩ := hx.nat
    obtain ⟨y, rfl, hy'⟩ := hy.nat
    obtain ⟨c, rfl⟩ := Int.eq_ofNat_of_zero_le hc.1
    unfold addc W64
    unfold W64 at hx' hy'
    omega
theorem sub_chained : Chained 128 subw subc where
  run x y c w hx hy hc := sub64_run x y c hx hy hc w
  carry x y c hx hy hc := by unfold subc; split <;> omega
theorem stC_add (a b : Nat) : stC addw addc a b (upto 4) = (#[.int .u64 (wd (a + b) 0), .int .u64 (wd (a + b) 1), .int .u64 (wd (a + b) 2), .int .u64 (wd (a + b) 3)], (cin a b 4 : Int)) := by
  have e0 := addw_wd a b 0; have e1 := addw_wd a b 1; have e2 := addw_wd a b 2; have e3 := addw_wd a b 3
  have c0 := addc_wd a b 0; have c1 := addc_wd a b 1; have c2 := addc_wd a b 2; have c3 := addc_wd a b 3
  rw [cin_zero] at e0 c0
  show (#[Value.int .u64 (addw (wd a 0) (wd b 0) 0), .int .u64 (addw (wd a 1) (wd b 1) (addc (wd a 0) (wd b 0) 0)), .int .u64 (addw (wd a 2) (wd b 2) (addc (wd a 1) (wd b 1) (addc (wd a 0) (wd b 0) 0))), .int .u64 (addw (wd a 3) (wd b 3) (addc (wd a 2) (wd b 2) (addc (wd a 1) (wd b 1) (addc (wd a 0) (wd b 0) 0))))], addc (wd a 3) (wd b 3) (addc (wd a 2) (wd b 2) (addc (wd a 1) (wd b 1) (addc (wd a 0) (wd b 0) 0)))) = _
  rw [show ((0 : Nat) : Int) = 0 from rfl] at e0 c0
  rw [c0, c1, c2, c3, e0, e1, e2, e3]
theorem stC_sub (a b : Nat) (hb : b < W256) : stC subw subc a b (upto 4) = (#[.int .u64 (wd (a + W256 - b) 0), .int .u64 (wd (a + W256 - b) 1), .int .u64 (wd (a + W256 - b) 2), .int .u64 (wd (a + W256 - b) 3)], (bin a b 4 : Int)) := by
  have hb' : b ≤ a + W64 ^ 4 := by rw [pw_four]; omega
  have e0 := subw_wd a b 0 4 (by omega) hb'; have e1 := subw_wd a b 1 4 (by omega) hb'; have e2 := subw_wd a b 2 4 (by omega) hb'; have e3 := subw_wd a b 3 4 (by omega) hb'
  have c0 := subc_wd a b 0; have c1 := subc_wd a b 1; have c2 := subc_wd a b 2; have c3 := subc_wd a b 3
  rw [bin_zero] at e0 c0
  rw [pw_four] at e0 e1 e2 e3
  show (#[Value.int .u64 (subw (wd a 0) (wd b 0) 0), .int .u64 (subw (wd a 1) (wd b 1) (subc (wd a 0) (wd b 0) 0)), .int .u64 (subw (wd a 2) (wd b 2) (subc (wd a 1) (wd b 1) (subc (wd a 0) (wd b 0) 0))), .int .u64 (subw (wd a 3) (wd b 3) (subc (wd a 2) (wd b 2) (subc (wd a 1) (wd b 1) (subc (wd a 0) (wd b 0) 0))))], subc (wd a 3) (wd b 3) (subc (wd a 2) (wd b 2) (subc (wd a 1) (wd b 1) (subc (wd a 0) (wd b 0) 0)))) = _
  rw [show ((0 : Nat) : Int) = 0 from rfl] at e0 c0
  rw [c0, c1, c2, c3, e0, e1, e2, e3]
set_option maxHeartbeats 400000 in
theorem wideAdd_c (a b : Nat) (w : World) (ha : a < W256) (hb : b < W256) :
    Calls Tryd.prog 91 #[vW a, vW b] w fun e w' => e = .returned (.tuple #[vW (a + b), .bool (decide (W256 ≤ a + b))]) ∧ Bel w w' := by
  have h2 : (((cin a b 4 : Nat) : Int) != 0) = decide (W256 ≤ a + b) := by
    rw [cin_end (i := 4) (by rw [pw_four]; exact ha) (by rw [pw_four]; exact hb), pw_four]
    split <;> simp_all
  have hc := fun w => (callsIn_wide (n := 3)).1 (chain_in add_chained Fence.wide 3 trivial trivial trivial trivial rfl (by omega) a b w _ _ _ _ _ (stC_add a b))
  rw [h2] at hc
  have HC := Lib.hid hc
  clear hc h2
  go_enter Tryd.func91, Tryd.ntmps91
  go_wp2_with (go_at_call 118; refine (HC.out _).mono ?_; rintro e w1 ⟨rfl, hb1⟩; have cR := heap_below (heap_new2 _ _ _ _) hb1; have q0 := heap_cell cR 0 rfl; have q1 := heap_cell cR 1 rfl; have q2 := heap_cell cR 2 rfl; have q3 := heap_cell cR 3 rfl; have f0 := heap_free cR 0; have f1 := heap_free cR 1; have f2 := heap_free cR 2; have f3 := heap_free cR 3)
  refine bodyPost_ret (v := .tuple #[vW (a + b), .bool (decide (W256 ≤ a + b))]) (by have cZ := heap_set4 cR (.int .u64 (wd (a + b) 0)) (.int .u64 (wd (a + b) 1)) (.int .u64 (wd (a + b) 2)) (.int .u64 (wd (a + b) 3)); simp [results, Tryd.results91, go_sem, heap_cell cZ 0 rfl, heap_cell cZ 1 rfl, heap_cell cZ 2 rfl, heap_cell cZ 3 rfl]) rfl ⟨rfl, ?_⟩
  exact (((((((Bel.refl w).alloc _).alloc _).alloc _).trans hb1).set (by omega) _).set (by omega) _ |>.set (by omega) _ |>.set (by omega) _)
end Go.Proofs.YtikjbocagnolmaaDoor
