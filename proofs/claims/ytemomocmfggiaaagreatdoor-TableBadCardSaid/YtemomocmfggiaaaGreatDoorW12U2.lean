import Derived.Test.YtemomocmfggiaaaGreatDoorW7bU2
import Derived.Test.YtemomocmfggiaaaGreatDoorZGU2
import Derived.Test.YtemomocmfggiaaaGreatDoorZNU2
import Derived.Test.YtemomocmfggiaaaGreatDoorZRU2
namespace Go.Proofs.YtemomocmfggiaaaGreatDoor
set_option linter.unusedVariables false
set_option linter.unusedSimpArgs false
set_option maxRecDepth 100000
open Go.RowKit Go.Shelf
attribute [local go_sem] Oper.semAt_some
def dnto : Nat → List (Fin 128)
 | 0 => []
 | k + 1 => if h : k < 128 then dnto k ++ [⟨k, h⟩] else dnto k
theorem dnto_succ {k : Nat} (hk : k < 128) : dnto (k + 1) = dnto k ++ [⟨k, hk⟩] := by simp [dnto, hk]
theorem dnto_len : ∀ k, k ≤ 128 → (dnto k).length = k
 | 0, _ => rfl
 | k + 1, h => by rw [dnto_succ (by omega), List.length_append, dnto_len k (by omega)]; rfl
theorem pw128 {k : Nat} (h : k < 128) : 2 ^ k < W128 := by rw [W128_pow]; exact Nat.pow_lt_pow_right (by decide) h
theorem shl_in (m k : Nat) (hk : k < 128) (w : World) (hG : Gl gG w) : CallsIn Fence.wide m Tryz.prog 111 #[.agg #[.int .u64 0, .int .u64 1], .int .i64 (127 - (k : Int))] w fun e w' => e = .returned (vB (2 ^ (127 - k))) ∧ Bel w w' := callsIn_wide.2 (by
 have h := calls_of_pc (e_shift_Left [0, 1, 127 - (k : Int)] rfl).2 Tryz.func111 (by kernel_rfl) (by kernel_rfl) w hG
 simp only [] at h
 have e0 : nB 0 1 = 1 := by unfold nB; rw [show u64 0 = 0 from by decide, show u64 1 = 1 from by decide]; rfl
 have e1 : i64 (127 - (k : Int)) = ((127 - k : Nat) : Int) := by rw [i64_id (by omega) (by omega)]; omega
 rw [s_shift_Left, e0, e1, Int.toNat_natCast, Nat.one_mul, Nat.mod_eq_of_lt (pw128 (by omega)), oB_eq] at h
 have z0 : u64 0 = 0 := by decide
 have z1 : u64 1 = 1 := by decide
 have e2 : i64 (127 - (k : Int)) = 127 - (k : Int) := i64_id (by omega) (by omega)
 simpa only [c_shift_Left, valsS, val1, valXs, valX, Sh.kinds, List.drop_succ_cons, List.drop_zero, List.length_cons, List.length_nil, w64_u, w64_i, u64_wd, resVal, z0, z1, e2] using h)
theorem wmul_in (m a b : Nat) (ha : a < W128) (hb : b < W128) (w : World) (hG : Gl gG w) : CallsIn Fence.wide m Tryz.prog 207 #[vB a, vB b] w fun e w' => e = .returned (vW (a * b)) ∧ Bel w w' := callsIn_wide.2 (by
 have h := calls_of_pc (e_wide_Mul [wd a 1, wd a 0, wd b 1, wd b 0] rfl).2 Tryz.func207 (by kernel_rfl) (by kernel_rfl) w hG
 simp only [] at h
 rw [s_wide_Mul, nB_small ha, nB_small hb, oW_eq] at h
 simpa only [c_wide_Mul, valsS, val1, valXs, valX, Sh.kinds, List.drop_succ_cons, List.drop_zero, List.length_cons, List.length_nil, w64_u, u64_wd, resVal] using h)
theorem wcmp_in (m a b : Nat) (ha : a < W256) (hb : b < W256) (w : World) (hG : Gl gG w) : CallsIn Fence.wide m Tryz.prog 221 #[vW a, vW b] w fun e w' => e = .returned (.int .i64 (nCmp a b)) ∧ Bel w w' := callsIn_wide.2 (by
 have h := calls_of_pc (e_wide_Cmp [wd a 0, wd a 1, wd a 2, wd a 3, wd b 0, wd b 1, wd b 2, wd b 3] rfl).2 Tryz.func221 (by kernel_rfl) (by kernel_rfl) w hG
 simp only [] at h
 rw [s_wide_Cmp, nW_small ha, nW_small hb] at h
 have hc : i64 (nCmp a b) = nCmp a b := nCmp_i64 a b
 simpa only [c_wide_Cmp, valsS, val1, valXs, valX, Sh.kinds, List.drop_succ_cons, List.drop_zero, List.length_cons, List.length_nil, w64_u, w64_i, u64_wd, resVal, hc] using h)
def GlK (A B : World) : Prop := Gl gG A → Gl gG B
set_option maxHeartbeats 4000000 in
theorem bits1_in (n : Nat) (hn : 1 ≤ n) (l B : Nat) (J Jx : List (Fin 128) → World → Prop) (hJ : AbidesFrom B J)
  (hY : ∀ pre x W, J pre W → pre.length < 128 → YieldAt Fence.wide (n - 1) Tryz.prog l #[vB (2 ^ (127 - x.1))] W fun e W' =>
   (e = .returned (.bool true) ∧ J (pre ++ [x]) W' ∧ GlK W W') ∨ (e = .returned (.bool false) ∧ Jx (pre ++ [x]) W'))
  (W : World) (hG : Gl gG W) (h0 : J [] W) :
  CallsIn Fence.wide n Tryz.prog 259 #[.func (.yield l) #[] #[]] W fun e W' => (∃ v, e = .returned v) ∧
   ((∃ ys, ys = dnto 128 ∧ J ys W') ∨ (∃ pre, True ∧ Jx pre W')) := by
 refine callsIn_of_wp Tryz.func259 rfl trivial ?_ rfl
 have hL : Fence.wide.fn 111 := trivial
 simp only [Tryz.ntmps259, List.size_toArray, List.length_cons, List.length_nil, Nat.reduceAdd, Nat.reduceSub, Array.replicate_succ, Array.replicate_zero, List.push_toArray, List.append_toArray, List.nil_append, List.cons_append]
 gi_wp2
 gi_loopw [2] (fun i wr => ∃ k : Nat, k ≤ 128 ∧ i = .int .i64 (127 - (k : Int)) ∧ J (dnto k) wr ∧ Gl gG wr)
  (fun i _ => (intOf i + 1).toNat)
 case atStart => exact ⟨0, Nat.zero_le _, rfl, h0, hG⟩
 case round =>
  obtain ⟨k, hk, rfl, hJs, hGr⟩ := hrel
  by_cases hlt : k < 128
  ·have Hs := Lib.hid (dnto_succ hlt)
   have hlen := dnto_len k hk
   have hge : (0 : Int) ≤ 127 - (k : Int) := by omega
   gi_wp2_with (gi_at_call 111; refine (shl_in (n - 1) k hlt wr hGr).mono ?_; rintro e w3 ⟨rfl, hw3⟩; have hJ3 : J (dnto k) w3 := hJ _ wr w3 none hJs ⟨hw3.os, hw3.tape, hw3.output, hw3.size, fun q hq _ => hw3.block q hq⟩ (fun r e => by cases e); have hG3 := hGr.bel hw3; obtain ⟨fn, tmps, assign, body, hy, hR⟩ := hY _ ⟨k, hlt⟩ w3 hJ3 (by omega); simp only [] at hy)
   refine hR.mono ?_
   rintro e W3 (⟨rfl, hJ4, hk4⟩ | ⟨rfl, hJx3⟩)
   ·gi_wp2
    go_roundw
    case rel => exact ⟨k + 1, by omega, by congr 1; omega, by rw [Hs.out]; exact hJ4, hk4 hG3⟩
    case measure => simp [intOf]; omega
   ·gi_wp2
    go_end0
    exact ⟨⟨_, rfl⟩, .inr ⟨_, trivial, hJx3⟩⟩
  ·obtain rfl : k = 128 := by omega
   gi_wp2
   refine ⟨(fun f h => (by cases h)), ?_⟩
   gi_wp2
   go_end0
   exact ⟨⟨_, rfl⟩, .inl ⟨_, rfl, hJs⟩⟩
theorem bits_stops (n : Nat) (hn : 1 ≤ n) (w : World) (hG : Gl gG w) :
  SeqStopsK Fence.wide n Tryz.prog 259 #[] (fun x : Fin 128 => #[vB (2 ^ (127 - x.1))]) GlK (fun ys => ys = dnto 128)
   (fun _ => True) 128 w := fun l J Jx W hW hJ _ hY h0 => by
 have hG2 : Gl gG W := hG.bel hW
 exact bits1_in n hn l W.heap.size J Jx hJ hY W hG2 h0
theorem rbits_in (n : Nat) (w : World) :
  CallsIn Fence.wide n Tryz.prog 220 #[] w fun e w' => e = .returned (.func (.func 259) #[] #[]) ∧ w' = w := by
 refine callsIn_of_wp Tryz.func220 rfl trivial ?_ rfl
 simp only [Tryz.ntmps220, List.size_toArray, List.length_cons, List.length_nil, Nat.reduceAdd, Nat.reduceSub, Array.replicate_succ, Array.replicate_zero, List.push_toArray, List.append_toArray, List.nil_append, List.cons_append]
 gi_wp2
 go_ret
 exact ⟨rfl, rfl⟩
def stR (n : Nat) (pre : List (Fin 128)) : Nat := pre.foldl (fun r x => if (r ||| 2 ^ (127 - x.1)) * (r ||| 2 ^ (127 - x.1)) ≤ n then r ||| 2 ^ (127 - x.1) else r) 0
theorem stR_snoc (n : Nat) (pre : List (Fin 128)) (x : Fin 128) : stR n (pre ++ [x]) = if (stR n pre ||| 2 ^ (127 - x.1)) * (stR n pre ||| 2 ^ (127 - x.1)) ≤ n then stR n pre ||| 2 ^ (127 - x.1) else stR n pre := by
 unfold stR; rw [List.foldl_append]; rfl
theorem or128 {a b : Nat} (ha : a < W128) (hb : b < W128) : a ||| b < W128 := by rw [W128_pow] at *; exact Nat.or_lt_two_pow ha hb
theorem stR_lt (n : Nat) (pre : List (Fin 128)) : stR n pre < W128 := by
 unfold stR
 suffices k : ∀ (pre : List (Fin 128)) (r : Nat), r < W128 → pre.foldl (fun r x => if (r ||| 2 ^ (127 - x.1)) * (r ||| 2 ^ (127 - x.1)) ≤ n then r ||| 2 ^ (127 - x.1) else r) r < W128 from k pre 0 (by decide)
 intro pre
 induction pre with
 | nil => intro r h; exact h
 | cons x xs ih =>
  intro r h
  refine ih _ ?_
  dsimp only
  split
  ·exact or128 h (pw128 (by omega))
  ·exact h
theorem stR_go (n : Nat) : ∀ k, k ≤ 128 → (∃ q, stR n (dnto k) = q * 2 ^ (128 - k)) ∧ FP.isqGo n (128 - k) (stR n (dnto k)) = FP.isqGo n 128 0
 | 0, _ => ⟨⟨0, by rw [Nat.zero_mul]; rfl⟩, rfl⟩
 | k + 1, h => by
  obtain ⟨⟨q, hq⟩, h2⟩ := stR_go n k (by omega)
  have hk : k < 128 := by omega
  rw [dnto_succ hk, stR_snoc]
  obtain ⟨i, hi⟩ : ∃ i, i = 127 - k := ⟨_, rfl⟩
  rw [show 128 - k = i + 1 by omega] at hq h2
  rw [show 128 - (k + 1) = i by omega]
  simp only [← hi]
  have ho : stR n (dnto k) ||| 2 ^ i = stR n (dnto k) + 2 ^ i := by
   rw [hq]
   have h := Nat.two_pow_add_eq_or_of_lt (i := i + 1) (b := 2 ^ i) (Nat.pow_lt_pow_right (by decide) (by omega)) q
   rw [Nat.mul_comm q]; exact h.symm
  rw [ho]
  have hg : FP.isqGo n (i + 1) (stR n (dnto k)) = FP.isqGo n i (if (stR n (dnto k) + 2 ^ i) * (stR n (dnto k) + 2 ^ i) ≤ n then stR n (dnto k) + 2 ^ i else stR n (dnto k)) := rfl
  rw [hg] at h2
  refine ⟨?_, h2⟩
  split
  ·exact ⟨2 * q + 1, by rw [hq, Nat.pow_succ, Nat.add_mul, Nat.one_mul]; congr 1; ac_rfl⟩
  ·exact ⟨2 * q, by rw [hq, Nat.pow_succ]; ac_rfl⟩
theorem stR_all (n : Nat) : stR n (dnto 128) = FP.isq n := (stR_go n 128 (Nat.le_refl _)).2
theorem nCmp_le {p q : Nat} : decide (nCmp p q ≤ 0) = decide (p ≤ q) := by
 unfold nCmp
 by_cases h : p < q
 ·rw [if_pos h, decide_eq_true (show p ≤ q by omega)]; rfl
 ·rw [if_neg h]
  by_cases h2 : q < p
  ·rw [if_pos h2, decide_eq_false (show ¬ p ≤ q by omega)]; rfl
  ·rw [if_neg h2, decide_eq_true (show p ≤ q by omega)]; rfl
theorem wide_eq {a b : Nat} (ha : a < W256) (hb : b < W256) : (wd a 0 == wd b 0 && (wd a 1 == wd b 1 && (wd a 2 == wd b 2 && wd a 3 == wd b 3))) = decide (a = b) := by
 rw [Bool.eq_iff_iff]
 simp only [Bool.and_eq_true, beq_iff_eq, decide_eq_true_iff]
 constructor
 ·rintro ⟨h0, h1, h2, h3⟩
  rw [← nW_small ha, ← nW_small hb, h0, h1, h2, h3]
 ·rintro rfl; exact ⟨rfl, rfl, rfl, rfl⟩
def AxR (n w1 w2 w4 : Nat) (m : Nat) (x : Fin 128) (a' : Act) (W : World) : Prop := ∃ B, m ≤ B ∧
 a' = { tmps := #[vW n, .pointer (some ⟨w1, 0, none⟩), .pointer (some ⟨w2, 0, none⟩), .bool false, .pointer (some ⟨w4, 0, none⟩), .pointer (some ⟨B, 0, none⟩), undef, .func (.func 259) #[] #[], vB (2 ^ (127 - x.1)), undef, undef, undef, undef, undef, undef, undef, undef, undef, undef, undef, undef, undef, undef, undef, undef, undef, undef, undef, undef, undef, undef, undef, undef], defers := [] } ∧
 W.heap[B]? = some (.cells #[.int .u64 (wd (2 ^ (127 - x.1)) 1), .int .u64 (wd (2 ^ (127 - x.1)) 0)] 24 (0, 0))
theorem AxR_own (n w1 w2 w4 m : Nat) (x : Fin 128) (a' : Act) (B0 : Nat) : OwnFrom B0 (fun (_ : Unit) W => AxR n w1 w2 w4 m x a' W) := by
 rintro s X Y row ⟨B, hB, ha, hc⟩ hg hr
 refine ⟨B, hB, ha, ?_⟩
 exact (Own.from (blk_own B 24 (fun (_ : Unit) => #[.int .u64 (wd (2 ^ (127 - x.1)) 1), .int .u64 (wd (2 ^ (127 - x.1)) 0)])) B0) () X Y row hc hg hr
set_option maxHeartbeats 4000000 in
theorem Root_in (m : Nat) (hm : 3 ≤ m) (n : Nat) (hn : n < W256) (w : World) (hG : Gl gG w) :
  CallsIn Fence.wide m Tryz.prog 154 #[vW n] w fun e w' => e = .returned (.tuple #[vB (FP.isq n), .bool (decide (FP.isq n * FP.isq n = n))]) ∧ Bel w w' := by
 have hn1 : 1 ≤ m := by omega
 refine callsIn_of_wp_marks Tryz.func154 rfl trivial ?_ rfl
 simp only [Tryz.ntmps154, List.size_toArray, List.length_cons, List.length_nil, Nat.reduceAdd, Nat.reduceSub, Array.replicate_succ, Array.replicate_zero, List.push_toArray, List.append_toArray, List.nil_append, List.cons_append]
 have h96 : Fence.wide.fn 220 := trivial
 have h85 : Fence.wide.fn 207 := trivial
 have h97 : Fence.wide.fn 221 := trivial
 gi_wp2_with (gi_at_call 220; refine (rbits_in (m - 1) _).mono ?_; rintro e w2 ⟨rfl, rfl⟩)
 obtain ⟨W0, hW0⟩ : ∃ W0, W0 = ((w.alloc (.cells #[.int .u64 (wd n 0), .int .u64 (wd n 1), .int .u64 (wd n 2), .int .u64 (wd n 3)] 177)).alloc (.cells #[.int .u64 0, .int .u64 0] 24)).alloc (.cells #[.int .u64 0, .int .u64 0] 24) := ⟨_, rfl⟩
 have bN : W0.heap[w.heap.size]? = some (.cells #[.int .u64 (wd n 0), .int .u64 (wd n 1), .int .u64 (wd n 2), .int .u64 (wd n 3)] 177 (0, 0)) := by rw [hW0]; exact heap_alloc (heap_alloc (heap_new _ _) _) _
 have b2 : W0.heap[w.heap.size + 1]? = some (.cells #[.int .u64 0, .int .u64 0] 24 (0, 0)) := by rw [hW0]; exact heap_alloc (heap_new1 _ _ _) _
 have b4 : W0.heap[w.heap.size + 1 + 1]? = some (.cells #[.int .u64 0, .int .u64 0] 24 (0, 0)) := by rw [hW0]; exact heap_new2 _ _ _ _
 have hB0 : Below w.heap.size w W0 := by rw [hW0]; show Bel w _; exact (((Bel.refl w).alloc _).alloc _).alloc _
 have hsz : W0.heap.size = w.heap.size + 1 + 1 + 1 := by rw [hW0]; simp
 have hG0 : Gl gG W0 := hG.bel hB0
 rw [← hW0]
 clear hW0
 have zw : ∀ j, wd 0 j = 0 := fun j => by unfold wd; simp
 have z0 : stR n [] = 0 := rfl
 refine wpIn_rangeFunc_ownH rfl hn1 (gf := 259) (lb := #[]) rfl trivial (enters_of Tryz.func259 (by kernel_rfl) rfl) (bits_stops (m - 1) (by omega) W0 hG0) (fun h1 h2 h => h2 (h1 h)) ?hKb (Below.refl _ _) (fun _ => rfl)
  (fun pre W => ((W.heap[w.heap.size]? = some (.cells #[.int .u64 (wd n 0), .int .u64 (wd n 1), .int .u64 (wd n 2), .int .u64 (wd n 3)] 177 (0, 0)) ∧ W.heap[w.heap.size + 1]? = some (.cells #[.int .u64 0, .int .u64 0] 24 (0, 0))) ∧
   W.heap[w.heap.size + 1 + 1]? = some (.cells #[.int .u64 (wd (stR n pre) 1), .int .u64 (wd (stR n pre) 0)] 24 (0, 0))) ∧ Below w.heap.size w W)
  (fun _ _ _ => False)
  (OwnFrom.and (OwnFrom.and (OwnFrom.and (Own.from (blk_own _ _ (fun _ => #[.int .u64 (wd n 0), .int .u64 (wd n 1), .int .u64 (wd n 2), .int .u64 (wd n 3)])) _) (Own.from (blk_own _ _ (fun _ => #[.int .u64 0, .int .u64 0])) _)) (Own.from (blk_own _ _ (fun pre => #[.int .u64 (wd (stR n pre) 1), .int .u64 (wd (stR n pre) 0)])) _)) (ownFrom_below (Nat.le_refl _) (by omega)))
  (fun _ _ _ _ _ hs _ _ => hs)
  ⟨⟨⟨bN, b2⟩, by rw [z0]; simp only [zw]; exact b4⟩, hB0⟩
  (AxR n w.heap.size (w.heap.size + 1) (w.heap.size + 1 + 1) W0.heap.size) (fun x a' => AxR_own _ _ _ _ _ x a' _) ?assign ?body ?done ?stop
 case hKb =>
  intro W l o o' hl ho _ _ hGW x hx
  have h1 := (hG0 x hx).1
  have h2 := hGW x hx
  refine ⟨by have := h2.1; simpa using this, fun j v hv => ?_⟩
  have h3 := h2.2 j v hv
  unfold World.cell? at h3 ⊢
  rw [World.putObj_heap_other (show x.1 ≠ l by omega)]
  exact h3
 case assign =>
  intro l pre x W K hI hK
  have hx : 2 ^ (127 - x.1) < W128 := pw128 (by omega)
  gi_wp2
  have hlt := heap_lt hI.1.2
  exact hK _ _ ((KeepsOthers.alloc W _).from _) (fun h => h.bel ((Bel.refl W).alloc _)) ⟨⟨⟨heap_alloc hI.1.1.1 _, heap_alloc hI.1.1.2 _⟩, heap_alloc hI.1.2 _⟩, Bel.alloc hI.2 _⟩ ⟨W.heap.size, by omega, rfl, heap_new _ _⟩
 case body =>
  rintro l pre x a' V hwl hrec ⟨⟨⟨bN, b2⟩, b4⟩, hB⟩ ⟨B, hmB, rfl, cB⟩ hlt
  have e0 := heap_cell b4 0 rfl
  have e1 := heap_cell b4 1 rfl
  have e2 := heap_cell cB 0 rfl
  have e3 := heap_cell cB 1 rfl
  have hr := stR_lt n pre
  have hsn := stR_snoc n pre x
  generalize stR n pre = r at *
  have hb : 2 ^ (127 - x.1) < W128 := pw128 (by omega)
  generalize 2 ^ (127 - x.1) = b at *
  have ho1 : ∀ i, bits .or .u64 (wd r i) (wd b i) = wd (r ||| b) i := fun i => wd_or r b i
  have ht := or128 hr hb
  gi_wp2
  obtain ⟨V4, hV4⟩ : ∃ V4, V4 = V.alloc (.cells #[.int .u64 (wd (r ||| b) 1), .int .u64 (wd (r ||| b) 0)] 24) := ⟨_, rfl⟩
  have dN : V4.heap[w.heap.size]? = some (.cells #[.int .u64 (wd n 0), .int .u64 (wd n 1), .int .u64 (wd n 2), .int .u64 (wd n 3)] 177 (0, 0)) := by rw [hV4]; exact heap_alloc bN _
  have d2 : V4.heap[w.heap.size + 1]? = some (.cells #[.int .u64 0, .int .u64 0] 24 (0, 0)) := by rw [hV4]; exact heap_alloc b2 _
  have d4 : V4.heap[w.heap.size + 1 + 1]? = some (.cells #[.int .u64 (wd r 1), .int .u64 (wd r 0)] 24 (0, 0)) := by rw [hV4]; exact heap_alloc b4 _
  have dT : V4.heap[V.heap.size]? = some (.cells #[.int .u64 (wd (r ||| b) 1), .int .u64 (wd (r ||| b) 0)] 24 (0, 0)) := by rw [hV4]; exact heap_new _ _
  have dB : Bel V V4 := by rw [hV4]; exact (Bel.refl V).alloc _
  have h4l := heap_lt b4
  rw [← hV4]
  clear hV4
  have hGV : Gl gG V := hG.bel hB
  have hle : decide (nCmp ((r ||| b) * (r ||| b)) n ≤ 0) = decide ((r ||| b) * (r ||| b) ≤ n) := nCmp_le
  have hmul := fun W (h : Bel V W) => wmul_in (m - 1 - 1 - 1) (r ||| b) (r ||| b) ht ht W (hGV.bel h)
  have hcmp := fun W (h : Bel V W) => wcmp_in (m - 1 - 1 - 1) ((r ||| b) * (r ||| b)) n (by rw [W256_sq]; exact Nat.mul_lt_mul'' ht ht) hn W (hGV.bel h)
  generalize r ||| b = t at *
  obtain ⟨q, hq⟩ : ∃ q, q = decide (t * t ≤ n) := ⟨_, rfl⟩
  rw [← hq] at hle
  have hq2 : (q = true ∧ t * t ≤ n) ∨ (q = false ∧ ¬ t * t ≤ n) := by
   rw [hq]; by_cases h : t * t ≤ n
   ·exact .inl ⟨decide_eq_true h, h⟩
   ·exact .inr ⟨decide_eq_false h, h⟩
  clear hq
  generalize V.heap.size = Bt at *
  refine wpIn_region_inv (fun (L : Nat → Bool) (A : Act) (W : World) => ∃ u20 u21 u22 u23 u24 u25 : Value, A = ⟨#[vW n, Value.pointer (some { block := w.heap.size, off := 0 }), Value.pointer (some { block := w.heap.size + 1, off := 0 }), Value.bool false, Value.pointer (some { block := w.heap.size + 1 + 1, off := 0 }), Value.pointer (some { block := B, off := 0 }), Value.pointer (some { block := Bt, off := 0 }), Value.func (Fn.func 259) #[] #[], vB b, Value.pointer (some { block := w.heap.size + 1 + 1, off := 0 }), Value.int IntKind.u64 (wd r 1), Value.pointer (some { block := B, off := 0 }), Value.int IntKind.u64 (wd b 1), Value.int IntKind.u64 (wd t 1), Value.pointer (some { block := w.heap.size + 1 + 1, off := 1 }), Value.int IntKind.u64 (wd r 0), Value.pointer (some { block := B, off := 1 }), Value.int IntKind.u64 (wd b 0), Value.int IntKind.u64 (wd t 0), Value.agg #[Value.int IntKind.u64 (wd t 1), Value.int IntKind.u64 (wd t 0)], u20, u21, u22, u23, u24, u25, undef, undef, undef, undef, undef, undef, undef], []⟩ ∧ Bel V W ∧ W.heap[w.heap.size]? = some (.cells #[.int .u64 (wd n 0), .int .u64 (wd n 1), .int .u64 (wd n 2), .int .u64 (wd n 3)] 177 (0, 0)) ∧ W.heap[w.heap.size + 1]? = some (.cells #[.int .u64 0, .int .u64 0] 24 (0, 0)) ∧ W.heap[w.heap.size + 1 + 1]? = some (.cells #[.int .u64 (wd r 1), .int .u64 (wd r 0)] 24 (0, 0)) ∧ W.heap[Bt]? = some (.cells #[.int .u64 (wd t 1), .int .u64 (wd t 0)] 24 (0, 0)) ∧ (L 0 = true → u20 = .agg #[.int .u64 (wd t 1), .int .u64 (wd t 0)]) ∧ (L 1 = true → u21 = .agg #[.int .u64 (wd t 1), .int .u64 (wd t 0)]) ∧ (L 2 = true → u22 = vW (t * t)) ∧ (L 3 = true → u23 = .agg #[.int .u64 (wd n 0), .int .u64 (wd n 1), .int .u64 (wd n 2), .int .u64 (wd n 3)]) ∧ (L 4 = true → u24 = .int .i64 (nCmp (t * t) n)) ∧ (L 5 = true → u25 = .bool q)) (by kernel_rfl) (by kernel_rfl) ?h0 ⟨?s0, ?s1, ?s2, ?s3, ?s4, ?s5, trivial⟩ ?hd
  case h0 =>
   exact ⟨_, _, _, _, _, _, rfl, (Bel.drew dB), dN, d2, d4, dT, fun h => absurd h Bool.false_ne_true, fun h => absurd h Bool.false_ne_true, fun h => absurd h Bool.false_ne_true, fun h => absurd h Bool.false_ne_true, fun h => absurd h Bool.false_ne_true, fun h => absurd h Bool.false_ne_true⟩
  case s0 =>
   rintro L _ W K ⟨u20, u21, u22, u23, u24, u25, rfl, hb, c1, c2, c4, c6, f0, f1, f2, f3, f4, f5⟩ hL hD hN hK
   refine step_on (wanted_none rfl) ?_
   have e0 := heap_cell c6 0 rfl
   have e1 := heap_cell c6 1 rfl
   have hf := heap_free c6 0
   go_simp
   refine hK _ _ ⟨_, _, _, _, _, _, rfl, hb, c1, c2, c4, c6, fun _ => rfl, f1, f2, f3, f4, f5⟩
  case s1 =>
   rintro L _ W K ⟨u20, u21, u22, u23, u24, u25, rfl, hb, c1, c2, c4, c6, f0, f1, f2, f3, f4, f5⟩ hL hD hN hK
   refine step_on (wanted_none rfl) ?_
   have e0 := heap_cell c6 0 rfl
   have e1 := heap_cell c6 1 rfl
   have hf := heap_free c6 0
   go_simp
   refine hK _ _ ⟨_, _, _, _, _, _, rfl, hb, c1, c2, c4, c6, f0, fun _ => rfl, f2, f3, f4, f5⟩
  case s2 =>
   rintro L _ W K ⟨u20, u21, u22, u23, u24, u25, rfl, hb, c1, c2, c4, c6, f0, f1, f2, f3, f4, f5⟩ hL hD hN hK
   obtain rfl := f0 (hD 0 (by kernel_rfl))
   obtain rfl := f1 (hD 1 (by kernel_rfl))
   refine step_on (wanted_none rfl) ?_
   go_simp
   refine ⟨fun h => (by first | cases h | omega), (hmul _ hb).mono ?_⟩
   rintro e W1 ⟨rfl, hw⟩
   refine hK _ _ ⟨_, _, _, _, _, _, rfl, (hb.trans hw), (heap_below c1 hw), (heap_below c2 hw), (heap_below c4 hw), (heap_below c6 hw), f0, f1, fun _ => rfl, f3, f4, f5⟩
  case s3 =>
   rintro L _ W K ⟨u20, u21, u22, u23, u24, u25, rfl, hb, c1, c2, c4, c6, f0, f1, f2, f3, f4, f5⟩ hL hD hN hK
   refine step_on (wanted_none rfl) ?_
   have e0 := heap_cell c1 0 rfl
   have e1 := heap_cell c1 1 rfl
   have e2 := heap_cell c1 2 rfl
   have e3 := heap_cell c1 3 rfl
   have hf := heap_free c1 0
   go_simp
   refine hK _ _ ⟨_, _, _, _, _, _, rfl, hb, c1, c2, c4, c6, f0, f1, f2, fun _ => rfl, f4, f5⟩
  case s4 =>
   rintro L _ W K ⟨u20, u21, u22, u23, u24, u25, rfl, hb, c1, c2, c4, c6, f0, f1, f2, f3, f4, f5⟩ hL hD hN hK
   obtain rfl := f2 (hD 2 (by kernel_rfl))
   obtain rfl := f3 (hD 3 (by kernel_rfl))
   refine step_on (wanted_none rfl) ?_
   go_simp
   refine ⟨fun h => (by first | cases h | omega), (hcmp _ hb).mono ?_⟩
   rintro e W1 ⟨rfl, hw⟩
   refine hK _ _ ⟨_, _, _, _, _, _, rfl, (hb.trans hw), (heap_below c1 hw), (heap_below c2 hw), (heap_below c4 hw), (heap_below c6 hw), f0, f1, f2, f3, fun _ => rfl, f5⟩
  case s5 =>
   rintro L _ W K ⟨u20, u21, u22, u23, u24, u25, rfl, hb, c1, c2, c4, c6, f0, f1, f2, f3, f4, f5⟩ hL hD hN hK
   obtain rfl := f4 (hD 4 (by kernel_rfl))
   refine step_on (wanted_none rfl) ?_
   go_simp
   refine hK _ _ ⟨_, _, _, _, _, _, rfl, hb, c1, c2, c4, c6, f0, f1, f2, f3, f4, fun _ => rfl⟩
  case hd =>
   rintro L _ W ⟨u20, u21, u22, u23, u24, u25, rfl, hb, c1, c2, c4, c6, f0, f1, f2, f3, f4, f5⟩ hall
   obtain rfl := f0 (hall 0 (by decide))
   obtain rfl := f1 (hall 1 (by decide))
   obtain rfl := f2 (hall 2 (by decide))
   obtain rfl := f3 (hall 3 (by decide))
   obtain rfl := f4 (hall 4 (by decide))
   obtain rfl := f5 (hall 5 (by decide))
   have f0 := heap_cell c6 0 rfl
   have f1 := heap_cell c6 1 rfl
   have g0 := heap_cell c4 0 rfl
   have g1 := heap_cell c4 1 rfl
   have g2 := heap_free c4 0
   have g3 := heap_free c4 1
   have kO : KeepsOthers V W := ⟨hb.size, fun k o hk _ => heap_below hk hb⟩
   have hBW : Bel w W := Bel.trans hB hb
   rcases hq2 with ⟨rfl, hc⟩ | ⟨rfl, hc⟩
   ·rw [if_pos hc] at hsn
    gi_wp2
    have hBF : Bel w ((W.setCell ⟨w.heap.size + 1 + 1, 0, none⟩ (.int .u64 (wd t 1))).setCell ⟨w.heap.size + 1 + 1, 1, none⟩ (.int .u64 (wd t 0))) := Bel.set (Bel.set hBW (by omega) _) (by omega) _
    refine ⟨((kO.trans (KeepsOthers.setCell _ _ _)).trans (KeepsOthers.setCell _ _ _)).from _, fun _ => hG.bel hBF, ⟨⟨⟨?_, ?_⟩, ?_⟩, hBF⟩⟩
    ·exact heap_set_other (heap_set_other c1 _ _ (by show w.heap.size ≠ w.heap.size + 1 + 1; omega)) _ _ (by show w.heap.size ≠ w.heap.size + 1 + 1; omega)
    ·exact heap_set_other (heap_set_other c2 _ _ (by show w.heap.size + 1 ≠ w.heap.size + 1 + 1; omega)) _ _ (by show w.heap.size + 1 ≠ w.heap.size + 1 + 1; omega)
    ·rw [hsn]; exact heap_set (heap_set c4 _) _
   ·rw [if_neg hc] at hsn
    gi_wp2
    exact ⟨kO.from _, fun _ => hG.bel hBW, ⟨⟨⟨c1, c2⟩, by rw [hsn]; exact c4⟩, hBW⟩⟩
 case done =>
  rintro D ys V hD rfl ⟨⟨⟨bN, b2⟩, b4⟩, hB⟩ hK
  rw [stR_all] at b4
  have hr : FP.isq n < W128 := by rw [W128_pow]; exact FP.isq_lt (by rw [← W256_pow]; exact hn)
  obtain ⟨r, hre⟩ : ∃ r, FP.isq n = r := ⟨_, rfl⟩
  rw [hre] at b4 hr
  have hD' : w.heap.size + 1 + 1 + 1 ≤ D := by rw [← hsz]; exact hD
  have hrr : r * r < W256 := by rw [W256_sq]; exact Nat.mul_lt_mul'' hr hr
  have hmul := fun W (h : Bel w W) => wmul_in (m - 1) r r hr hr W (hG.bel h)
  have hq := fun W => eqAt_run (t := 177) (x := vW (r * r)) (y := .agg #[.int .u64 (wd n 0), .int .u64 (wd n 1), .int .u64 (wd n 2), .int .u64 (wd n 3)]) (b := (wd (r * r) 0 == wd n 0 && (wd (r * r) 1 == wd n 1 && (wd (r * r) 2 == wd n 2 && wd (r * r) 3 == wd n 3)))) rfl W
  rw [wide_eq hrr hn] at hq
  have hq1 := fun W op xo yo => (hq W).1 op xo yo
  have hq2 := fun W => (hq W).2.1
  clear hq hn hr hrr
  obtain ⟨q, hqd⟩ : ∃ q, decide (r * r = n) = q := ⟨_, rfl⟩
  rw [hqd] at hq2
  have HF := Lib.hid (And.intro hre hqd)
  clear hre hqd
  gi_wp2
  refine wpIn_region_inv (fun (L : Nat → Bool) (A : Act) (W : World) => ∃ u27 u28 u29 u30 u31 u32 u3 : Value, A = ⟨#[vW n, Value.pointer (some { block := w.heap.size, off := 0 }), Value.pointer (some { block := w.heap.size + 1, off := 0 }), u3, Value.pointer (some { block := w.heap.size + 1 + 1, off := 0 }), undef, undef, Value.func (Fn.func 259) #[] #[], undef, undef, undef, undef, undef, undef, undef, undef, undef, undef, undef, undef, undef, undef, undef, undef, undef, undef, undef, u27, u28, u29, u30, u31, u32], [{ target := Target.collected D, args := #[] }]⟩ ∧ Bel w W ∧ W.heap[D]? = some (.deferred (some [])) ∧ W.heap[w.heap.size]? = some (.cells #[.int .u64 (wd n 0), .int .u64 (wd n 1), .int .u64 (wd n 2), .int .u64 (wd n 3)] 177 (0, 0)) ∧ W.heap[w.heap.size + 1]? = some (.cells (bif L 6 then #[.int .u64 (wd r 1), .int .u64 (wd r 0)] else #[.int .u64 0, .int .u64 0]) 24 (0, 0)) ∧ W.heap[w.heap.size + 1 + 1]? = some (.cells #[.int .u64 (wd r 1), .int .u64 (wd r 0)] 24 (0, 0)) ∧ (L 0 = true → u27 = .agg #[.int .u64 (wd r 1), .int .u64 (wd r 0)]) ∧ (L 1 = true → u28 = .agg #[.int .u64 (wd r 1), .int .u64 (wd r 0)]) ∧ (L 2 = true → u29 = .agg #[.int .u64 (wd r 1), .int .u64 (wd r 0)]) ∧ (L 3 = true → u30 = vW (r * r)) ∧ (L 4 = true → u31 = .agg #[.int .u64 (wd n 0), .int .u64 (wd n 1), .int .u64 (wd n 2), .int .u64 (wd n 3)]) ∧ (L 5 = true → u32 = .bool q) ∧ (L 7 = true → u3 = .bool q)) (by kernel_rfl) (by kernel_rfl) ?h0 ⟨?s0, ?s1, ?s2, ?s3, ?s4, ?s5, ?s6, ?s7, trivial⟩ ?hd
  case h0 =>
   exact ⟨_, _, _, _, _, _, _, rfl, (Bel.drew hB), hK, bN, b2, b4, fun h => absurd h Bool.false_ne_true, fun h => absurd h Bool.false_ne_true, fun h => absurd h Bool.false_ne_true, fun h => absurd h Bool.false_ne_true, fun h => absurd h Bool.false_ne_true, fun h => absurd h Bool.false_ne_true, fun h => absurd h Bool.false_ne_true⟩
  case s0 =>
   rintro L _ W K ⟨u27, u28, u29, u30, u31, u32, u3, rfl, hb, x0, c1, c2, c4, f0, f1, f2, f3, f4, f5, f7⟩ hL hD hN hK
   refine step_on (wanted_none rfl) ?_
   have e0 := heap_cell c4 0 rfl
   have e1 := heap_cell c4 1 rfl
   have hf := heap_free c4 0
   go_simp
   refine hK _ _ ⟨_, _, _, _, _, _, _, rfl, hb, x0, c1, c2, c4, fun _ => rfl, f1, f2, f3, f4, f5, f7⟩
  case s1 =>
   rintro L _ W K ⟨u27, u28, u29, u30, u31, u32, u3, rfl, hb, x0, c1, c2, c4, f0, f1, f2, f3, f4, f5, f7⟩ hL hD hN hK
   refine step_on (wanted_none rfl) ?_
   have e0 := heap_cell c4 0 rfl
   have e1 := heap_cell c4 1 rfl
   have hf := heap_free c4 0
   go_simp
   refine hK _ _ ⟨_, _, _, _, _, _, _, rfl, hb, x0, c1, c2, c4, f0, fun _ => rfl, f2, f3, f4, f5, f7⟩
  case s2 =>
   rintro L _ W K ⟨u27, u28, u29, u30, u31, u32, u3, rfl, hb, x0, c1, c2, c4, f0, f1, f2, f3, f4, f5, f7⟩ hL hD hN hK
   refine step_on (wanted_none rfl) ?_
   have e0 := heap_cell c4 0 rfl
   have e1 := heap_cell c4 1 rfl
   have hf := heap_free c4 0
   go_simp
   refine hK _ _ ⟨_, _, _, _, _, _, _, rfl, hb, x0, c1, c2, c4, f0, f1, fun _ => rfl, f3, f4, f5, f7⟩
  case s3 =>
   rintro L _ W K ⟨u27, u28, u29, u30, u31, u32, u3, rfl, hb, x0, c1, c2, c4, f0, f1, f2, f3, f4, f5, f7⟩ hL hD hN hK
   obtain rfl := f1 (hD 1 (by kernel_rfl))
   obtain rfl := f2 (hD 2 (by kernel_rfl))
   refine step_on (wanted_none rfl) ?_
   go_simp
   refine ((hmul _ hb).mono ?_)
   rintro e W1 ⟨rfl, hw⟩
   refine hK _ _ ⟨_, _, _, _, _, _, _, rfl, (hb.trans hw), (heap_below x0 hw), (heap_below c1 hw), (heap_below c2 hw), (heap_below c4 hw), f0, f1, f2, fun _ => rfl, f4, f5, f7⟩
  case s4 =>
   rintro L _ W K ⟨u27, u28, u29, u30, u31, u32, u3, rfl, hb, x0, c1, c2, c4, f0, f1, f2, f3, f4, f5, f7⟩ hL hD hN hK
   refine step_on (wanted_none rfl) ?_
   have e0 := heap_cell c1 0 rfl
   have e1 := heap_cell c1 1 rfl
   have e2 := heap_cell c1 2 rfl
   have e3 := heap_cell c1 3 rfl
   have hf := heap_free c1 0
   go_simp
   refine hK _ _ ⟨_, _, _, _, _, _, _, rfl, hb, x0, c1, c2, c4, f0, f1, f2, f3, fun _ => rfl, f5, f7⟩
  case s5 =>
   rintro L _ W K ⟨u27, u28, u29, u30, u31, u32, u3, rfl, hb, x0, c1, c2, c4, f0, f1, f2, f3, f4, f5, f7⟩ hL hD hN hK
   obtain rfl := f3 (hD 3 (by kernel_rfl))
   obtain rfl := f4 (hD 4 (by kernel_rfl))
   refine step_on (wanted_none rfl) ?_
   go_simp
   refine hK _ _ ⟨_, _, _, _, _, _, _, rfl, hb, x0, c1, c2, c4, f0, f1, f2, f3, f4, fun _ => rfl, f7⟩
  case s6 =>
   rintro L _ W K ⟨u27, u28, u29, u30, u31, u32, u3, rfl, hb, x0, c1, c2, c4, f0, f1, f2, f3, f4, f5, f7⟩ hL hD hN hK
   obtain rfl := f0 (hD 0 (by kernel_rfl))
   refine step_on (wanted_none rfl) ?_
   have hz : L 6 = false := hL
   rw [hz] at c2
   have e0 := heap_cell c2 0 (rfl)
   have h0 := heap_free c2 0
   have e1 := heap_cell c2 1 (rfl)
   have h1 := heap_free c2 1
   go_simp
   refine hK _ _ ⟨_, _, _, _, _, _, _, rfl, (Bel.set (Bel.set hb (by omega) _) (by omega) _), (heap_set_other (heap_set_other x0 _ _ (by show D ≠ w.heap.size + 1; omega)) _ _ (by show D ≠ w.heap.size + 1; omega)), (heap_set_other (heap_set_other c1 _ _ (show w.heap.size ≠ w.heap.size + 1 by omega)) _ _ (show w.heap.size ≠ w.heap.size + 1 by omega)), (heap_set (heap_set c2 _) _), (heap_set_other (heap_set_other c4 _ _ (show w.heap.size + 1 + 1 ≠ w.heap.size + 1 by omega)) _ _ (show w.heap.size + 1 + 1 ≠ w.heap.size + 1 by omega)), f0, f1, f2, f3, f4, f5, f7⟩
  case s7 =>
   rintro L _ W K ⟨u27, u28, u29, u30, u31, u32, u3, rfl, hb, x0, c1, c2, c4, f0, f1, f2, f3, f4, f5, f7⟩ hL hD hN hK
   obtain rfl := f5 (hD 5 (by kernel_rfl))
   refine step_on (wanted_none rfl) ?_
   go_simp
   refine hK _ _ ⟨_, _, _, _, _, _, _, rfl, hb, x0, c1, c2, c4, f0, f1, f2, f3, f4, f5, fun _ => rfl⟩
  case hd =>
   rintro L _ W ⟨u27, u28, u29, u30, u31, u32, u3, rfl, hb, x0, c1, c2, c4, f0, f1, f2, f3, f4, f5, f7⟩ hall
   rw [hall 6 (by decide)] at c2
   obtain rfl := f0 (hall 0 (by decide))
   obtain rfl := f1 (hall 1 (by decide))
   obtain rfl := f2 (hall 2 (by decide))
   obtain rfl := f3 (hall 3 (by decide))
   obtain rfl := f4 (hall 4 (by decide))
   obtain rfl := f5 (hall 5 (by decide))
   obtain rfl := f7 (hall 7 (by decide))
   gi_wp2
   refine ⟨by simp, .inl ⟨_, _, rfl, run_takeDeferred x0, ?_⟩⟩
   have cX : (W.putObj D (.deferred none)).heap[w.heap.size + 1]? = _ := (World.putObj_heap_other (by omega)).trans c2
   have q0 := heap_cell cX 0 rfl
   have q1 := heap_cell cX 1 rfl
   exact ⟨.tuple #[vB r, .bool q], by simp [results, Tryz.results154, go_sem, q0, q1, vB], by rw [HF.out.1, HF.out.2], Below.trans hb (belowK_b (w := w) (Nat.le_refl _) W D _ _ (by omega) x0 rfl rfl)⟩
 case stop =>
  rintro D c pre W _ _ h _
  exact h.elim
end Go.Proofs.YtemomocmfggiaaaGreatDoor
