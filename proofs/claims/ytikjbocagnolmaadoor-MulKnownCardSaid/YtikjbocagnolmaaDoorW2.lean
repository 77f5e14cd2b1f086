/- wide, walked: what only takes words apart. -/
import Derived.Test.YtikjbocagnolmaaDoorW1
import Derived.Test.YtikjbocagnolmaaDoorNum2
import Derived.ChangeKeysEq
namespace Go.Proofs.YtikjbocagnolmaaDoor
set_option linter.unusedVariables false
open Go.RowKit Go.Shelf
set_option maxHeartbeats 400000 in
theorem wideOf_c (a : Nat) (w : World) (ha : a < W128) :
    Calls Tryd.prog 102 #[vB a] w fun e w' => e = .returned (vW a) ∧ Bel w w' := by
  have h2 := wd_lt2 ha
  show Calls _ _ _ _ fun e w' => e = .returned (.agg #[.int .u64 (wd a 0), .int .u64 (wd a 1), .int .u64 (wd a 2), .int .u64 (wd a 3)]) ∧ Bel w w'
  rw [h2.1, h2.2]
  clear h2
  go_enter Tryd.func102, Tryd.ntmps102
  go_wp2
  refine bodyPost_ret (by simp [results, Tryd.results102, go_sem]) rfl ⟨rfl, ?_⟩
  exact ((Bel.refl w).alloc _).alloc _
set_option maxHeartbeats 400000 in
theorem wideHigh_c (a : Nat) (w : World) (ha : a < W256) :
    Calls Tryd.prog 106 #[vW a] w fun e w' => e = .returned (vB (a / W128)) ∧ Bel w w' := by
  show Calls _ _ _ _ fun e w' => e = .returned (.agg #[.int .u64 (wd (a / W128) 1), .int .u64 (wd (a / W128) 0)]) ∧ Bel w w'
  rw [wd_div128, wd_div128]
  go_enter Tryd.func106, Tryd.ntmps106
  go_wp2
  refine bodyPost_ret (by simp [results, Tryd.results106, go_sem]) rfl ⟨rfl, ?_⟩
  exact ((Bel.refl w).alloc _).alloc _
set_option maxHeartbeats 400000 in
theorem wideLow_c (a : Nat) (w : World) (ha : a < W256) :
    Calls Tryd.prog 108 #[vW a] w fun e w' => e = .returned (vB (a % W128)) ∧ Bel w w' := by
  show Calls _ _ _ _ fun e w' => e = .returned (.agg #[.int .u64 (wd (a % W128) 1), .int .u64 (wd (a % W128) 0)]) ∧ Bel w w'
  rw [wd_mod128 _ _ (by omega), wd_mod128 _ _ (by omega)]
  go_enter Tryd.func108, Tryd.ntmps108
  go_wp2
  refine bodyPost_ret (by simp [results, Tryd.results108, go_sem]) rfl ⟨rfl, ?_⟩
  exact ((Bel.refl w).alloc _).alloc _
set_option maxHeartbeats 400000 in
theorem wideJoin_c (h l : Nat) (w : World) (hh : h < W128) (hl : l < W128) :
    Calls Tryd.prog 48 #[vB h, vB l] w fun e w' => e = .returned (vW (h * W128 + l)) ∧ Bel w w' := by
  have hj := join_words (h := h) hl
  show Calls _ _ _ _ fun e w' => e = .returned (.agg #[.int .u64 (wd (h * W128 + l) 0), .int .u64 (wd (h * W128 + l) 1), .int .u64 (wd (h * W128 + l) 2), .int .u64 (wd (h * W128 + l) 3)]) ∧ Bel w w'
  rw [hj.1, hj.2.1, hj.2.2.1, hj.2.2.2]
  clear hj
  go_enter Tryd.func48, Tryd.ntmps48
  go_wp2
  refine bodyPost_ret (by simp [results, Tryd.results48, go_sem]) rfl ⟨rfl, ?_⟩
  exact (((Bel.refl w).alloc _).alloc _).alloc _
theorem part_u64 (w : World) {e : TypeId} (hu : Tryd.prog.underlying e = some (.int .u64)) (xs : Array Value) (i : Nat) (v : Value) (h : xs[i]? = some v) : (part e xs i).run Tryd.prog w = .ok v w := by
  simp [part, isAgg, run_underlying hu, h]
set_option maxRecDepth 100000 in
theorem eqW_run (w : World) (a b : Nat) : (Op.equalIn 10000 53 (vW a) (vW b)).run Tryd.prog w = .ok (wd a 0 == wd b 0 && (wd a 1 == wd b 1 && (wd a 2 == wd b 2 && wd a 3 == wd b 3))) w := by
  have hu : Tryd.prog.underlying 26 = some (.int .u64) := by kernel_rfl
  obtain ⟨i, hi⟩ : ∃ i, Tryd.prog.info? 26 = some i := Option.isSome_iff_exists.1 (by kernel_rfl)
  rw [run_equalIn_array (P := Tryd.prog) (w := w) (d := 9999) (e := 26) (n := 4) _ _ (by kernel_rfl) hi]
  rw [show Tryd.prog.cellsOf 26 = 1 by kernel_rfl, show List.range 4 = [0, 1, 2, 3] by decide]
  have p0 (x0 x1 x2 x3 : Value) : (part 26 #[x0, x1, x2, x3] 0).run Tryd.prog w = .ok x0 w := part_u64 w hu _ _ _ rfl
  have p1 (x0 x1 x2 x3 : Value) : (part 26 #[x0, x1, x2, x3] 1).run Tryd.prog w = .ok x1 w := part_u64 w hu _ _ _ rfl
  have p2 (x0 x1 x2 x3 : Value) : (part 26 #[x0, x1, x2, x3] 2).run Tryd.prog w = .ok x2 w := part_u64 w hu _ _ _ rfl
  have p3 (x0 x1 x2 x3 : Value) : (part 26 #[x0, x1, x2, x3] 3).run Tryd.prog w = .ok x3 w := part_u64 w hu _ _ _ rfl
  have q (x y : Int) : (Op.equalIn 9999 26 (.int .u64 x) (.int .u64 y)).run Tryd.prog w = .ok (x == y) w := run_equalIn_int w 9998 _ .u64 .u64 x y hu
  generalize wd a 0 = x0; generalize wd a 1 = x1; generalize wd a 2 = x2; generalize wd a 3 = x3
  generalize wd b 0 = y0; generalize wd b 1 = y1; generalize wd b 2 = y2; generalize wd b 3 = y3
  simp only [Op.eqItems, Sem.run_bind, Nat.mul_one]
  rw [p0, Result.andThen_ok, p0, Result.andThen_ok, q, Result.andThen_ok]
  cases (x0 == y0)
  · rfl
  rw [if_neg (by decide)]
  simp only [Sem.run_bind]
  rw [p1, Result.andThen_ok, p1, Result.andThen_ok, q, Result.andThen_ok]
  cases (x1 == y1)
  · rfl
  rw [if_neg (by decide)]
  simp only [Sem.run_bind]
  rw [p2, Result.andThen_ok, p2, Result.andThen_ok, q, Result.andThen_ok]
  cases (x2 == y2)
  · rfl
  rw [if_neg (by decide)]
  simp only [Sem.run_bind]
  rw [p3, Result.andThen_ok, p3, Result.andThen_ok, q, Result.andThen_ok]
  cases (x3 == y3)
  · rfl
  rfl
theorem eqW_dec (a b : Nat) (ha : a < W256) (hb : b < W256) : (wd a 0 == wd b 0 && (wd a 1 == wd b 1 && (wd a 2 == wd b 2 && wd a 3 == wd b 3))) = decide (a = b) := by
  by_cases h : a = b
  · subst h; simp
  · rw [decide_eq_false h]
    cases hx : (wd a 0 == wd b 0 && (wd a 1 == wd b 1 && (wd a 2 == wd b 2 && wd a 3 == wd b 3))) with
    | false => rfl
    | true =>
      simp only [Bool.and_eq_true, beq_iff_eq] at hx
      exact absurd (wd_ext4 ha hb hx.1 hx.2.1 hx.2.2.1 hx.2.2.2) h
/-- two values of 256 bits compared -/
theorem eqW_at (w : World) (a b : Nat) (ha : a < W256) (hb : b < W256) : (Op.equalIn 10000 53 (vW a) (vW b)).run Tryd.prog w = .ok (decide (a = b)) w := by
  rw [eqW_run, eqW_dec a b ha hb]
set_option maxHeartbeats 400000 in
set_option maxRecDepth 100000 in
theorem wideZero_c (a : Nat) (w : World) (ha : a < W256) :
    Calls Tryd.prog 71 #[vW a] w fun e w' => e = .returned (.bool (decide (a = 0))) ∧ Bel w w' := by
  have he := fun w => eqW_at w a 0 ha (by decide)
  have hz : vW 0 = .agg #[.int .u64 0, .int .u64 0, .int .u64 0, .int .u64 0] := by unfold vW; rw [wd_zero, wd_zero, wd_zero, wd_zero]
  rw [hz] at he
  clear hz
  clear ha
  go_enter Tryd.func71, Tryd.ntmps71
  go_wp2
  go_ret
  exact ⟨rfl, (Bel.refl w).alloc _⟩
end Go.Proofs.YtikjbocagnolmaaDoor
