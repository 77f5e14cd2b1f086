import Derived.Test.YtemomocmfggiaaaGreatDoorZAU5
import Derived.Test.YtemomocmfggiaaaGreatDoorZBU5
import Derived.Test.YtemomocmfggiaaaGreatDoorZGU5
import Derived.Test.YtemomocmfggiaaaGreatDoorW7aU5
import Derived.Test.YtemomocmfggiaaaGreatDoorH1U5
namespace Go.Proofs.YtemomocmfggiaaaGreatDoor
set_option linter.unusedVariables false
open Go.RowKit Go.Shelf
attribute [local go_sem] Oper.semAt_some
def downto : Nat → List (Fin 256)
 | 0 => []
 | k + 1 => if h : k < 256 then downto k ++ [⟨k, h⟩] else downto k
theorem downto_succ {k : Nat} (hk : k < 256) : downto (k + 1) = downto k ++ [⟨k, hk⟩] := by simp [downto, hk]
theorem downto_len : ∀ k, k ≤ 256 → (downto k).length = k
 | 0, _ => rfl
 | k + 1, h => by rw [downto_succ (by omega), List.length_append, downto_len k (by omega)]; rfl
def KpW (b : Nat) (A B : World) : Prop := ∀ o : Obj, o.isCells = true → A.heap[b]? = some o → B.heap[b]? = some o
theorem KpW_t {b : Nat} {A B C : World} (h1 : KpW b A B) (h2 : KpW b B C) : KpW b A C := fun o ho h => h2 o ho (h1 o ho h)
def bitE (n k : Nat) : Int := bits .and .u64 (wd n ((255 - k) / 64) / 2 ^ ((255 - k) % 64)) 1
theorem dgAnd63 : ∀ n : Fin 256, bits .and .i64 ((n.1 : Nat) : Int) 63 = ((n.1 % 64 : Nat) : Int) := by decide +kernel
theorem dgAnd63' {k : Nat} (h : k < 256) : bits .and .i64 (255 - (k : Int)) 63 = (((255 - k) % 64 : Nat) : Int) := by
 have := dgAnd63 ⟨255 - k, by omega⟩
 rw [show (255 - (k : Int)) = ((255 - k : Nat) : Int) by omega]; exact this
set_option maxRecDepth 100000 in
set_option maxHeartbeats 2000000 in
theorem digits1_in (F : Fence) (n : Nat) (h7 : F.fn 257) (hro : F.round = none) (hn : 1 ≤ n) (l Bs : Nat) (s : Nat) (J Jx : List (Fin 256) → World → Prop)
  (hY : ∀ pre x W, J pre W → pre.length < 256 → YieldAt F (n - 1) Tryz.prog l #[.int .i64 (255 - (x.1 : Int)), .int .u64 (bitE s x.1)] W fun e W' =>
   (e = .returned (.bool true) ∧ J (pre ++ [x]) W' ∧ KpW Bs W W') ∨ (e = .returned (.bool false) ∧ Jx (pre ++ [x]) W'))
  (W : World) (hBs : W.heap[Bs]? = some (.cells #[.int .u64 (wd s 0), .int .u64 (wd s 1), .int .u64 (wd s 2), .int .u64 (wd s 3)] 177 (0, 0))) (h0 : J [] W) :
  CallsIn F n Tryz.prog 257 #[.func (.yield l) #[] #[], .pointer (some ⟨Bs, 0, none⟩)] W fun e W' => (∃ v, e = .returned v) ∧
   ((∃ ys, ys = downto 256 ∧ J ys W') ∨ (∃ pre, True ∧ Jx pre W')) := by
 refine callsIn_of_wp Tryz.func257 rfl h7 ?_ hro
 simp only [Tryz.ntmps257, List.size_toArray, List.length_cons, List.length_nil, Nat.reduceAdd, Nat.reduceSub, Array.replicate_succ, Array.replicate_zero, List.push_toArray, List.append_toArray, List.nil_append, List.cons_append]
 gi_wp2
 gi_loopw [3] (fun i wr => ∃ k : Nat, k ≤ 256 ∧ i = .int .i64 (255 - (k : Int)) ∧ J (downto k) wr ∧ wr.heap[Bs]? = some (.cells #[.int .u64 (wd s 0), .int .u64 (wd s 1), .int .u64 (wd s 2), .int .u64 (wd s 3)] 177 (0, 0)))
  (fun i _ => (intOf i + 1).toNat)
 case atStart => exact ⟨0, Nat.zero_le _, rfl, h0, hBs⟩
 case round =>
  obtain ⟨k, hk, rfl, hJs, hcx⟩ := hrel
  by_cases hlt : k < 256
  ·have Hs := Lib.hid (downto_succ hlt)
   have hlen := downto_len k hk
   obtain ⟨fn, tmps, assign, body, hy, hR⟩ := hY _ ⟨k, hlt⟩ wr hJs (by omega)
   simp only [bitE] at hy
   have hc1 : wr.cell? ⟨Bs, (255 - k) / 64, none⟩ = some (.int .u64 (wd s ((255 - k) / 64))) := heap_cell hcx _ (vW_get s ⟨(255 - k) / 64, by omega⟩)
   have hb := dgAnd63' hlt
   gi_wp2
   refine hR.mono ?_
   rintro e W3 (⟨rfl, hJ3, hk3⟩ | ⟨rfl, hJx3⟩)
   ·gi_wp2
    go_roundw
    case rel => exact ⟨k + 1, by omega, by congr 1; omega, by rw [Hs.out]; exact hJ3, hk3 _ rfl hcx⟩
    case measure => simp [intOf]; omega
   ·gi_wp2
    refine bodyPost_ret (results_none rfl _ _ _) rfl ?_
    exact ⟨⟨_, rfl⟩, .inr ⟨_, trivial, hJx3⟩⟩
  ·obtain rfl : k = 256 := by omega
   gi_wp2
   go_end0
   exact ⟨⟨_, rfl⟩, .inl ⟨_, rfl, hJs⟩⟩
theorem digits_stops (F : Fence) (n : Nat) (h7 : F.fn 257) (hro : F.round = none) (hn : 1 ≤ n) (Bs s : Nat) (w : World) (hBs : Bs < w.heap.size)
  (hc : w.heap[Bs]? = some (.cells #[.int .u64 (wd s 0), .int .u64 (wd s 1), .int .u64 (wd s 2), .int .u64 (wd s 3)] 177 (0, 0))) :
  SeqStopsK F n Tryz.prog 257 #[.pointer (some ⟨Bs, 0, none⟩)] (fun x : Fin 256 => #[Value.int .i64 (255 - (x.1 : Int)), Value.int .u64 (bitE s x.1)]) (KpW Bs) (fun ys => ys = downto 256)
   (fun _ => True) 256 w := fun l J Jx W hW _ _ hY h0 =>
 digits1_in F n h7 hro hn l Bs s J Jx hY W (heap_below hc hW) h0
theorem digits_in (F : Fence) (n : Nat) (h5 : F.fn 216) (hro : F.round = none) (s : Nat) (w : World) :
  CallsIn F n Tryz.prog 216 #[vW s] w fun e w' => e = .returned (.func (.func 257) #[] #[.pointer (some ⟨w.heap.size, 0, none⟩)]) ∧ w' = w.alloc (.cells #[.int .u64 (wd s 0), .int .u64 (wd s 1), .int .u64 (wd s 2), .int .u64 (wd s 3)] 177) := by
 refine callsIn_of_wp Tryz.func216 rfl h5 ?_ hro
 simp only [Tryz.ntmps216, List.size_toArray, List.length_cons, List.length_nil, Nat.reduceAdd, Nat.reduceSub, Array.replicate_succ, Array.replicate_zero, List.push_toArray, List.append_toArray, List.nil_append, List.cons_append]
 gi_wp2
 go_ret
 exact ⟨rfl, rfl⟩
theorem KpW_b {B : Nat} {n : Nat} (W : World) (l : Nat) (o o' : Obj) (h0 : n ≤ l) (h : W.heap[l]? = some o) (hn : o.isCells = false) (h1 : o.isWalk = false) : KpW B W (W.putObj l o') := fun x hx hv => by
 have hne : B ≠ l := fun e => by subst e; rw [h] at hv; cases hv; rw [hn] at hx; cases hx
 exact (World.putObj_heap_other hne).trans hv
theorem dgShl {i : Nat} : IntKind.u64.wrap (2 ^ (((i : Nat) : Int) % 64).toNat) = ((2 ^ (i % 64) : Nat) : Int) := by
 have e : (((i : Nat) : Int) % 64).toNat = i % 64 := by omega
 have h : (2 : Nat) ^ (i % 64) < 2 ^ 64 := Nat.pow_lt_pow_right (by decide) (by omega)
 rw [e]
 have h2 : (0 : Int) ≤ ((2 ^ (i % 64) : Nat) : Int) := Int.natCast_nonneg _
 rw [show (2 : Int) ^ (i % 64) = ((2 ^ (i % 64) : Nat) : Int) by push_cast; rfl]
 generalize (2 : Nat) ^ (i % 64) = y at *
 unfold IntKind.wrap IntKind.bits IntKind.signed
 simp only [Bool.false_and, Bool.false_eq_true, if_false]
 omega
theorem dgOr (q i j : Nat) : (q ||| 2 ^ i) / W64 ^ j % W64 = if j = i / 64 then q / W64 ^ j % W64 ||| 2 ^ (i % 64) else q / W64 ^ j % W64 := by
 apply Nat.eq_of_testBit_eq
 intro k
 have h64 : W64 = 2 ^ 64 := W64_pow
 by_cases hk : k < 64
 ·rw [wd_testBit _ _ _ hk, Nat.testBit_or, Nat.testBit_two_pow]
  split
  ·rename_i hj
   rw [Nat.testBit_or, wd_testBit _ _ _ hk, Nat.testBit_two_pow]
   congr 1
   rw [decide_eq_decide]; omega
  ·rename_i hj
   rw [wd_testBit _ _ _ hk, decide_eq_false (by omega), Bool.or_false]
 ·have l1 : (q ||| 2 ^ i) / W64 ^ j % W64 < 2 ^ 64 := by rw [← h64]; exact Nat.mod_lt _ W64_pos
  have l0 : q / W64 ^ j % W64 < 2 ^ 64 := by rw [← h64]; exact Nat.mod_lt _ W64_pos
  have l2 : (2 : Nat) ^ (i % 64) < 2 ^ 64 := Nat.pow_lt_pow_right (by decide) (by omega)
  have far : ∀ {a : Nat}, a < 2 ^ 64 → a.testBit k = false := fun {a} ha => Nat.testBit_lt_two_pow (Nat.lt_of_lt_of_le ha (Nat.pow_le_pow_right (by decide) (by omega)))
  rw [far l1]
  split
  ·rw [far (Nat.or_lt_two_pow l0 l2)]
  ·rw [far l0]
theorem dgSet {q i : Nat} (hi : i < 256) : (#[Value.int .u64 (wd q 0), .int .u64 (wd q 1), .int .u64 (wd q 2), .int .u64 (wd q 3)].setIfInBounds (i / 64) (.int .u64 (bits .or .u64 (wd q (i / 64)) (IntKind.u64.wrap (2 ^ (((i : Nat) : Int) % 64).toNat))))) =
  #[Value.int .u64 (wd (q ||| 2 ^ i) 0), .int .u64 (wd (q ||| 2 ^ i) 1), .int .u64 (wd (q ||| 2 ^ i) 2), .int .u64 (wd (q ||| 2 ^ i) 3)] := by
 have l0 : ∀ j, q / W64 ^ j % W64 < 18446744073709551616 := fun j => Nat.mod_lt _ W64_pos
 have hor : ∀ j, bits .or .u64 (wd q j) (IntKind.u64.wrap (2 ^ (((i : Nat) : Int) % 64).toNat)) = ((q / W64 ^ j % W64 ||| 2 ^ (i % 64) : Nat) : Int) := fun j => by
  rw [dgShl]
  exact u64_or_nat _ _ (l0 j) (Nat.pow_lt_pow_right (by decide) (by omega) : (2 : Nat) ^ (i % 64) < 2 ^ 64)
 rw [hor]
 have ho := dgOr q i
 unfold wd
 rw [ho 0, ho 1, ho 2, ho 3]
 rcases (show i / 64 = 0 ∨ i / 64 = 1 ∨ i / 64 = 2 ∨ i / 64 = 3 by omega) with e | e | e | e <;> rw [e] <;> rfl
theorem bitE_eq (s k : Nat) (hk : k < 256) : bitE s k = ((s / 2 ^ (255 - k) % 2 : Nat) : Int) := by
 unfold bitE
 generalize hi : 255 - k = i
 have hlt : s / W64 ^ (i / 64) % W64 < 18446744073709551616 := Nat.mod_lt _ W64_pos
 have e : wd s (i / 64) / 2 ^ (i % 64) = ((s / W64 ^ (i / 64) % W64 / 2 ^ (i % 64) : Nat) : Int) := by unfold wd; rw [Int.natCast_ediv]; simp
 have h1 := u64_and_nat (s / W64 ^ (i / 64) % W64 / 2 ^ (i % 64)) 1 (Nat.lt_of_le_of_lt (Nat.div_le_self _ _) hlt) (by decide)
 rw [e]
 refine h1.trans ?_
 rw [Nat.and_one_is_mod]
 have h2 : s / W64 ^ (i / 64) % W64 / 2 ^ (i % 64) % 2 = s / 2 ^ i % 2 := by
  rw [← Nat.toNat_testBit, ← Nat.toNat_testBit, wd_testBit _ _ _ (by omega), show 64 * (i / 64) + i % 64 = i by omega]
 rw [h2]
theorem bitE_rng (s k : Nat) (hk : k < 256) : 0 ≤ bitE s k ∧ bitE s k ≤ 1 := by rw [bitE_eq s k hk]; omega
structure Steps1 (Gw : World → Prop) (nx : Nat → Int → Nat → Nat × Bool) (F : Fence) : Prop where
 keep : ∀ X Y, Gw X → Bel X Y → Gw Y
 zero : ∀ m b w, Gw w → b < W128 → CallsIn F m Tryz.prog 50 #[vB b] w fun e w' => e = .returned (.bool (decide (b = 0))) ∧ Bel w w'
 next : ∀ l m r x d w, Gw w → (0 ≤ x ∧ x ≤ 1) → r < W128 → d < W128 → CallsIn (F.inRound l) m Tryz.prog 217 #[vB r, .int .u64 x, vB d] w fun e w' => e = .returned (.tuple #[vB (nx r x d).1, .bool (nx r x d).2]) ∧ Bel w w'
 lt : ∀ r x d, (nx r x d).1 < W128
def stD (nx : Nat → Int → Nat → Nat × Bool) (s d : Nat) (pre : List (Fin 256)) : Nat × Nat :=
 pre.foldl (fun st x => (if (nx st.2 (bitE s x.1) d).2 then st.1 ||| 2 ^ (255 - x.1) else st.1, (nx st.2 (bitE s x.1) d).1)) (0, 0)
theorem stD_snoc (nx : Nat → Int → Nat → Nat × Bool) (s d : Nat) (pre : List (Fin 256)) (x : Fin 256) :
  stD nx s d (pre ++ [x]) = (if (nx (stD nx s d pre).2 (bitE s x.1) d).2 then (stD nx s d pre).1 ||| 2 ^ (255 - x.1) else (stD nx s d pre).1, (nx (stD nx s d pre).2 (bitE s x.1) d).1) := by
 unfold stD; rw [List.foldl_append]; rfl
theorem stD_lt {Gw : World → Prop} {nx : Nat → Int → Nat → Nat × Bool} {F : Fence} (h : Steps1 Gw nx F) (s d : Nat) (pre : List (Fin 256)) : (stD nx s d pre).2 < W128 := by
 unfold stD
 suffices k : ∀ (pre : List (Fin 256)) (st : Nat × Nat), st.2 < W128 → (pre.foldl (fun st x => (if (nx st.2 (bitE s x.1) d).2 then st.1 ||| 2 ^ (255 - x.1) else st.1, (nx st.2 (bitE s x.1) d).1)) st).2 < W128 from k pre _ (by decide)
 intro pre
 induction pre with
 | nil => intro st h; exact h
 | cons x xs ih => intro st _; exact ih _ (h.lt _ _ _)
set_option maxRecDepth 100000 in
set_option maxHeartbeats 4000000 in
theorem Div_in {Gw : World → Prop} {nx : Nat → Int → Nat → Nat × Bool} (F : Fence) (hS : Steps1 Gw nx F) (n : Nat) (h1 : F.fn 149) (h2 : F.fn 216) (h3 : F.fn 257) (h4 : F.fn 50) (h5 : F.fn 217) (hro : F.round = none) (hn : 3 ≤ n) (s d : Nat) (hd : d < W128) (hd0 : d ≠ 0) (w : World) (hG : Gw w) :
  CallsIn F n Tryz.prog 149 #[vW s, vB d] w fun e w' => e = .returned (.tuple #[vW (stD nx s d (downto 256)).1, vB (stD nx s d (downto 256)).2, .bool true]) ∧ Bel w w' := by
 have hn1 : 1 ≤ n := by omega
 have hz := hS.zero
 refine callsIn_of_wp_marks Tryz.func149 rfl h1 ?_ hro
 simp only [Tryz.ntmps149, List.size_toArray, List.length_cons, List.length_nil, Nat.reduceAdd, Nat.reduceSub, Array.replicate_succ, Array.replicate_zero, List.push_toArray, List.append_toArray, List.nil_append, List.cons_append]
 gi_wp2_with (first | (gi_at_call 216; refine (digits_in F (n - 1) h2 hro s _).mono ?_; rintro e w2 ⟨rfl, rfl⟩) | (gi_at_call 50; refine (hz (n - 1) d _ (hS.keep _ _ hG ((((((Bel.refl w).alloc _).alloc _).alloc _).alloc _).alloc _ |>.alloc _)) hd).mono ?_; rintro e w' ⟨rfl, hw⟩; have hA : w'.heap[w.heap.size]? = some (.cells #[.int .u64 (wd s 0), .int .u64 (wd s 1), .int .u64 (wd s 2), .int .u64 (wd s 3)] 177 (0, 0)) := heap_below (heap_alloc (heap_alloc (heap_alloc (heap_alloc (heap_alloc (heap_new _ _) _) _) _) _) _) hw; have e0 := heap_cell hA 0 rfl; have e1 := heap_cell hA 1 rfl; have e2 := heap_cell hA 2 rfl; have e3 := heap_cell hA 3 rfl))
 have hw0 := w.heap.size
 have bD : (w'.alloc (.cells #[.int .u64 (wd s 0), .int .u64 (wd s 1), .int .u64 (wd s 2), .int .u64 (wd s 3)] 177)).heap[w.heap.size + 1]? = some (.cells #[.int .u64 (wd d 1), .int .u64 (wd d 0)] 24 (0, 0)) := heap_alloc (heap_below (heap_alloc (heap_alloc (heap_alloc (heap_alloc (heap_new1 _ _ _) _) _) _) _) hw) _
 have bX : (w'.alloc (.cells #[.int .u64 (wd s 0), .int .u64 (wd s 1), .int .u64 (wd s 2), .int .u64 (wd s 3)] 177)).heap[w.heap.size + 1 + 1]? = some (.cells #[.int .u64 0, .int .u64 0, .int .u64 0, .int .u64 0] 177 (0, 0)) := heap_alloc (heap_below (heap_alloc (heap_alloc (heap_alloc (heap_new2 _ _ _ _) _) _) _) hw) _
 have bY : (w'.alloc (.cells #[.int .u64 (wd s 0), .int .u64 (wd s 1), .int .u64 (wd s 2), .int .u64 (wd s 3)] 177)).heap[w.heap.size + 1 + 1 + 1]? = some (.cells #[.int .u64 0, .int .u64 0] 24 (0, 0)) := heap_alloc (heap_below (heap_alloc (heap_alloc (heap_new3 _ _ _ _ _) _) _) hw) _
 have bQ : (w'.alloc (.cells #[.int .u64 (wd s 0), .int .u64 (wd s 1), .int .u64 (wd s 2), .int .u64 (wd s 3)] 177)).heap[w.heap.size + 1 + 1 + 1 + 1]? = some (.cells #[.int .u64 0, .int .u64 0, .int .u64 0, .int .u64 0] 177 (0, 0)) := heap_alloc (heap_below (heap_alloc (heap_new4 _ _ _ _ _ _) _) hw) _
 have bR : (w'.alloc (.cells #[.int .u64 (wd s 0), .int .u64 (wd s 1), .int .u64 (wd s 2), .int .u64 (wd s 3)] 177)).heap[w.heap.size + 1 + 1 + 1 + 1 + 1]? = some (.cells #[.int .u64 0, .int .u64 0] 24 (0, 0)) := heap_alloc (heap_below (heap_new5 _ _ _ _ _ _ _) hw) _
 have hsz : w.heap.size + 1 + 1 + 1 + 1 + 1 < w'.heap.size := by have := heap_lt (heap_below (heap_new5 w _ _ _ _ _ _) hw); exact this
 have hB0 : Below w.heap.size w (w'.alloc (.cells #[.int .u64 (wd s 0), .int .u64 (wd s 1), .int .u64 (wd s 2), .int .u64 (wd s 3)] 177)) := by
  show Bel w _
  exact (((((((((Bel.refl w).alloc _).alloc _).alloc _).alloc _).alloc _).alloc _).trans hw).alloc _)
 have z0 : stD nx s d [] = (0, 0) := rfl
 have zw : ∀ j, wd 0 j = 0 := fun j => by unfold wd; simp
 refine wpIn_rangeFunc_ownG hro hn1 (gf := 257) (lb := #[.pointer (some ⟨w'.heap.size, 0, none⟩)]) rfl h3 (enters_of Tryz.func257 (by kernel_rfl) rfl)
  (digits_stops F (n - 1) h3 hro (by omega) w'.heap.size s _ (by simp) (heap_new _ _)) KpW_t KpW_b (Below.refl _ _) (fun _ => rfl)
  (fun pre W => (((W.heap[w.heap.size + 1]? = some (.cells #[.int .u64 (wd d 1), .int .u64 (wd d 0)] 24 (0, 0)) ∧ W.heap[w.heap.size + 1 + 1]? = some (.cells #[.int .u64 0, .int .u64 0, .int .u64 0, .int .u64 0] 177 (0, 0))) ∧
   (W.heap[w.heap.size + 1 + 1 + 1]? = some (.cells #[.int .u64 0, .int .u64 0] 24 (0, 0)) ∧ W.heap[w.heap.size + 1 + 1 + 1 + 1]? = some (.cells #[.int .u64 (wd (stD nx s d pre).1 0), .int .u64 (wd (stD nx s d pre).1 1), .int .u64 (wd (stD nx s d pre).1 2), .int .u64 (wd (stD nx s d pre).1 3)] 177 (0, 0)))) ∧
   W.heap[w.heap.size + 1 + 1 + 1 + 1 + 1]? = some (.cells #[.int .u64 (wd (stD nx s d pre).2 1), .int .u64 (wd (stD nx s d pre).2 0)] 24 (0, 0))) ∧ Below w.heap.size w W)
  (fun _ _ _ => False)
  (OwnFrom.and (OwnFrom.and (OwnFrom.and (OwnFrom.and (Own.from (blk_own _ _ (fun _ => #[.int .u64 (wd d 1), .int .u64 (wd d 0)])) _) (Own.from (blk_own _ _ (fun _ => #[.int .u64 0, .int .u64 0, .int .u64 0, .int .u64 0])) _)) (OwnFrom.and (Own.from (blk_own _ _ (fun _ => #[.int .u64 0, .int .u64 0])) _) (Own.from (blk_own _ _ (fun pre => #[.int .u64 (wd (stD nx s d pre).1 0), .int .u64 (wd (stD nx s d pre).1 1), .int .u64 (wd (stD nx s d pre).1 2), .int .u64 (wd (stD nx s d pre).1 3)])) _))) (Own.from (blk_own _ _ (fun pre => #[.int .u64 (wd (stD nx s d pre).2 1), .int .u64 (wd (stD nx s d pre).2 0)])) _)) (ownFrom_below (Nat.le_refl _) (by simp; omega)))
  (fun _ _ _ _ _ hs _ _ => hs)
  ⟨⟨⟨⟨bD, bX⟩, bY, by rw [z0]; simp only [zw]; exact bQ⟩, by rw [z0]; simp only [zw]; exact bR⟩, hB0⟩
  (fun x => { tmps := #[vW s, vB d, .pointer (some ⟨w.heap.size, 0, none⟩), .pointer (some ⟨w.heap.size + 1, 0, none⟩), .pointer (some ⟨w.heap.size + 1 + 1, 0, none⟩), .pointer (some ⟨w.heap.size + 1 + 1 + 1, 0, none⟩), .bool false, .pointer (some ⟨w.heap.size + 1 + 1 + 1 + 1, 0, none⟩), .pointer (some ⟨w.heap.size + 1 + 1 + 1 + 1 + 1, 0, none⟩), .int .i64 (255 - (x.1 : Int)), .int .u64 (bitE s x.1), undef, .agg #[.int .u64 (wd d 1), .int .u64 (wd d 0)], .bool false, undef, undef, .agg #[.int .u64 (wd s 0), .int .u64 (wd s 1), .int .u64 (wd s 2), .int .u64 (wd s 3)], .func (.func 257) #[] #[.pointer (some ⟨w'.heap.size, 0, none⟩)], .int .i64 (255 - (x.1 : Int)), .int .u64 (bitE s x.1), undef, undef, undef, undef, undef, undef, undef, undef, undef, undef, undef, undef, undef, undef, undef, undef, undef, undef, undef], defers := [] }) ?assign ?body ?done ?stop
 case assign =>
  intro l x W K hK
  gi_wp2
  exact hK
 case body =>
  rintro l pre x V ⟨⟨⟨⟨bD, bX⟩, bY, bQ⟩, bR⟩, hB⟩ hlt
  have hr := stD_lt hS s d pre
  have hxx := x.2
  have hn2 : 1 ≤ n - 1 - 1 := by omega
  have hsn := stD_snoc nx s d pre x
  generalize stD nx s d pre = st at *
  obtain ⟨q, r⟩ := st
  dsimp only at bQ bR hr hsn
  have hnext := hS.next l (n - 1 - 1 - 1) r (bitE s x.1) d V (hS.keep _ _ hG hB) (bitE_rng s x.1 hxx) hr hd
  have e0 := heap_cell bR 0 rfl
  have e1 := heap_cell bR 1 rfl
  have e2 := heap_cell bD 0 rfl
  have e3 := heap_cell bD 1 rfl
  obtain ⟨r', once, hnx⟩ : ∃ a b, nx r (bitE s x.1) d = (a, b) := ⟨_, _, rfl⟩
  rw [hnx] at hnext hsn
  dsimp only at hnext hsn
  cases once with
  | false =>
   gi_wp2_with (gi_at_call 217; refine hnext.mono ?_; rintro e w3 ⟨rfl, hw3⟩; have g0 := heap_below bR hw3; have k0 := heap_cell g0 0 rfl; have k1 := heap_cell g0 1 rfl; have k2 := heap_free g0 0; have k3 := heap_free g0 1)
   have hk3 : KeepsOthers V w3 := ⟨hw3.size, fun k o hk _ => heap_below hk hw3⟩
   rw [if_neg Bool.false_ne_true] at hsn
   refine ⟨((hk3.trans (KeepsOthers.setCell _ _ _)).trans (KeepsOthers.setCell _ _ _)).from _, fun o ho hh => heap_set_other (heap_set_other (heap_below hh hw3) _ _ (by show w'.heap.size ≠ w.heap.size + 1 + 1 + 1 + 1 + 1; omega)) _ _ (by show w'.heap.size ≠ w.heap.size + 1 + 1 + 1 + 1 + 1; omega), ⟨⟨⟨?_, ?_⟩, ?_, ?_⟩, ?_⟩, ?_⟩
   ·exact heap_set_other (heap_set_other (heap_below bD hw3) _ _ (by show w.heap.size + 1 ≠ w.heap.size + 1 + 1 + 1 + 1 + 1; omega)) _ _ (by show w.heap.size + 1 ≠ w.heap.size + 1 + 1 + 1 + 1 + 1; omega)
   ·exact heap_set_other (heap_set_other (heap_below bX hw3) _ _ (by show w.heap.size + 1 + 1 ≠ w.heap.size + 1 + 1 + 1 + 1 + 1; omega)) _ _ (by show w.heap.size + 1 + 1 ≠ w.heap.size + 1 + 1 + 1 + 1 + 1; omega)
   ·exact heap_set_other (heap_set_other (heap_below bY hw3) _ _ (by show w.heap.size + 1 + 1 + 1 ≠ w.heap.size + 1 + 1 + 1 + 1 + 1; omega)) _ _ (by show w.heap.size + 1 + 1 + 1 ≠ w.heap.size + 1 + 1 + 1 + 1 + 1; omega)
   ·rw [hsn]; exact heap_set_other (heap_set_other (heap_below bQ hw3) _ _ (by show w.heap.size + 1 + 1 + 1 + 1 ≠ w.heap.size + 1 + 1 + 1 + 1 + 1; omega)) _ _ (by show w.heap.size + 1 + 1 + 1 + 1 ≠ w.heap.size + 1 + 1 + 1 + 1 + 1; omega)
   ·rw [hsn]; exact heap_set (heap_set g0 _) _
   ·show Bel w _
    exact Bel.set (Bel.set (Bel.trans hB hw3) (by show w.heap.size ≤ w.heap.size + 1 + 1 + 1 + 1 + 1; omega) _) (by show w.heap.size ≤ w.heap.size + 1 + 1 + 1 + 1 + 1; omega) _
  | true =>
   gi_wp2_with (gi_at_call 217; refine hnext.mono ?_; rintro e w3 ⟨rfl, hw3⟩; have g0 := heap_below bR hw3; have k0 := heap_cell g0 0 rfl; have k1 := heap_cell g0 1 rfl; have k2 := heap_free g0 0; have k3 := heap_free g0 1)
   have hk3 : KeepsOthers V w3 := ⟨hw3.size, fun k o hk _ => heap_below hk hw3⟩
   rw [if_pos trivial] at hsn
   obtain ⟨V4, hV4⟩ : ∃ V4, V4 = (w3.setCell ⟨w.heap.size + 1 + 1 + 1 + 1 + 1, 0, none⟩ (.int .u64 (wd r' 1))).setCell ⟨w.heap.size + 1 + 1 + 1 + 1 + 1, 1, none⟩ (.int .u64 (wd r' 0)) := ⟨_, rfl⟩
   rw [← hV4]
   have cD : V4.heap[w.heap.size + 1]? = some (.cells #[.int .u64 (wd d 1), .int .u64 (wd d 0)] 24 (0, 0)) := by rw [hV4]; exact heap_set_other (heap_set_other (heap_below bD hw3) _ _ (by show w.heap.size + 1 ≠ w.heap.size + 1 + 1 + 1 + 1 + 1; omega)) _ _ (by show w.heap.size + 1 ≠ w.heap.size + 1 + 1 + 1 + 1 + 1; omega)
   have cX : V4.heap[w.heap.size + 1 + 1]? = some (.cells #[.int .u64 0, .int .u64 0, .int .u64 0, .int .u64 0] 177 (0, 0)) := by rw [hV4]; exact heap_set_other (heap_set_other (heap_below bX hw3) _ _ (by show w.heap.size + 1 + 1 ≠ w.heap.size + 1 + 1 + 1 + 1 + 1; omega)) _ _ (by show w.heap.size + 1 + 1 ≠ w.heap.size + 1 + 1 + 1 + 1 + 1; omega)
   have cY : V4.heap[w.heap.size + 1 + 1 + 1]? = some (.cells #[.int .u64 0, .int .u64 0] 24 (0, 0)) := by rw [hV4]; exact heap_set_other (heap_set_other (heap_below bY hw3) _ _ (by show w.heap.size + 1 + 1 + 1 ≠ w.heap.size + 1 + 1 + 1 + 1 + 1; omega)) _ _ (by show w.heap.size + 1 + 1 + 1 ≠ w.heap.size + 1 + 1 + 1 + 1 + 1; omega)
   have cQ : V4.heap[w.heap.size + 1 + 1 + 1 + 1]? = some (.cells #[.int .u64 (wd q 0), .int .u64 (wd q 1), .int .u64 (wd q 2), .int .u64 (wd q 3)] 177 (0, 0)) := by rw [hV4]; exact heap_set_other (heap_set_other (heap_below bQ hw3) _ _ (by show w.heap.size + 1 + 1 + 1 + 1 ≠ w.heap.size + 1 + 1 + 1 + 1 + 1; omega)) _ _ (by show w.heap.size + 1 + 1 + 1 + 1 ≠ w.heap.size + 1 + 1 + 1 + 1 + 1; omega)
   have cR : V4.heap[w.heap.size + 1 + 1 + 1 + 1 + 1]? = some (.cells #[.int .u64 (wd r' 1), .int .u64 (wd r' 0)] 24 (0, 0)) := by rw [hV4]; exact heap_set (heap_set g0 _) _
   have cB : Bel w V4 := by rw [hV4]; exact Bel.set (Bel.set (Bel.trans hB hw3) (by show w.heap.size ≤ w.heap.size + 1 + 1 + 1 + 1 + 1; omega) _) (by show w.heap.size ≤ w.heap.size + 1 + 1 + 1 + 1 + 1; omega) _
   have cK : KeepsOthers V V4 := by rw [hV4]; exact (hk3.trans (KeepsOthers.setCell _ _ _)).trans (KeepsOthers.setCell _ _ _)
   have cP : KpW w'.heap.size V V4 := fun o ho hh => by rw [hV4]; exact heap_set_other (heap_set_other (heap_below hh hw3) _ _ (by show w'.heap.size ≠ w.heap.size + 1 + 1 + 1 + 1 + 1; omega)) _ _ (by show w'.heap.size ≠ w.heap.size + 1 + 1 + 1 + 1 + 1; omega)
   have hb63 := dgAnd63' hxx
   clear hV4
   refine wpIn_region_inv (fun (L : Nat → Bool) (A : Act) (W : World) => ∃ u28 u29 u30 u31 u32 u33 u34 u35 u36 : Value, A = ⟨#[vW s, vB d, Value.pointer (some { block := w.heap.size, off := 0 }), Value.pointer (some { block := w.heap.size + 1, off := 0 }), Value.pointer (some { block := w.heap.size + 1 + 1, off := 0 }), Value.pointer (some { block := w.heap.size + 1 + 1 + 1, off := 0 }), Value.bool false, Value.pointer (some { block := w.heap.size + 1 + 1 + 1 + 1, off := 0 }), Value.pointer (some { block := w.heap.size + 1 + 1 + 1 + 1 + 1, off := 0 }), Value.int IntKind.i64 (255 - ↑↑x), Value.int IntKind.u64 (bitE s ↑x), Value.bool true, Value.agg #[Value.int IntKind.u64 (wd d 1), Value.int IntKind.u64 (wd d 0)], Value.bool false, undef, undef, Value.agg #[Value.int IntKind.u64 (wd s 0), Value.int IntKind.u64 (wd s 1), Value.int IntKind.u64 (wd s 2), Value.int IntKind.u64 (wd s 3)], Value.func (Fn.func 257) #[] #[Value.pointer (some { block := w'.heap.size, off := 0 })], Value.int IntKind.i64 (255 - ↑↑x), Value.int IntKind.u64 (bitE s ↑x), Value.tuple #[vB r', Value.bool true], Value.agg #[Value.int IntKind.u64 (wd r 1), Value.int IntKind.u64 (wd r 0)], Value.int IntKind.u64 (bitE s ↑x), Value.agg #[Value.int IntKind.u64 (wd d 1), Value.int IntKind.u64 (wd d 0)], Value.tuple #[vB r', Value.bool true], vB r', Value.bool true, Value.bool true, u28, u29, u30, u31, u32, u33, u34, u35, u36, undef, undef], []⟩ ∧ Bel w W ∧ KeepsOthers V W ∧ KpW w'.heap.size V W ∧ W.heap[w.heap.size + 1]? = some (.cells #[.int .u64 (wd d 1), .int .u64 (wd d 0)] 24 (0, 0)) ∧ W.heap[w.heap.size + 1 + 1]? = some (.cells #[.int .u64 0, .int .u64 0, .int .u64 0, .int .u64 0] 177 (0, 0)) ∧ W.heap[w.heap.size + 1 + 1 + 1]? = some (.cells #[.int .u64 0, .int .u64 0] 24 (0, 0)) ∧ W.heap[w.heap.size + 1 + 1 + 1 + 1]? = some (.cells (bif L 9 then (#[Value.int .u64 (wd q 0), .int .u64 (wd q 1), .int .u64 (wd q 2), .int .u64 (wd q 3)].setIfInBounds ((255 - x.1) / 64) (.int .u64 (bits .or .u64 (wd q ((255 - x.1) / 64)) (IntKind.u64.wrap (2 ^ (((255 - x.1 : Nat) : Int) % 64).toNat))))) else #[.int .u64 (wd q 0), .int .u64 (wd q 1), .int .u64 (wd q 2), .int .u64 (wd q 3)]) 177 (0, 0)) ∧ W.heap[w.heap.size + 1 + 1 + 1 + 1 + 1]? = some (.cells #[.int .u64 (wd r' 1), .int .u64 (wd r' 0)] 24 (0, 0)) ∧ (L 0 = true → u28 = Value.int IntKind.i64 (255 - ↑↑x)) ∧ (L 1 = true → u29 = .int .i64 ((255 - (x.1 : Int)) / 64)) ∧ (L 2 = true → u30 = .pointer (some ⟨w.heap.size + 1 + 1 + 1 + 1, ((255 - x.1) / 64), none⟩)) ∧ (L 3 = true → u31 = .int .u64 (wd q ((255 - x.1) / 64))) ∧ (L 4 = true → u32 = Value.int IntKind.i64 (255 - ↑↑x)) ∧ (L 5 = true → u33 = .int .i64 (((255 - x.1 : Nat) : Int) % 64)) ∧ (L 6 = true → u34 = .int .u64 (IntKind.u64.wrap (2 ^ (((255 - x.1 : Nat) : Int) % 64).toNat))) ∧ (L 7 = true → u35 = .int .u64 (bits .or .u64 (wd q ((255 - x.1) / 64)) (IntKind.u64.wrap (2 ^ (((255 - x.1 : Nat) : Int) % 64).toNat)))) ∧ (L 8 = true → u36 = .pointer (some ⟨w.heap.size + 1 + 1 + 1 + 1, ((255 - x.1) / 64), none⟩))) (by kernel_rfl) (by kernel_rfl) ?h0 ⟨?s0, ?s1, ?s2, ?s3, ?s4, ?s5, ?s6, ?s7, ?s8, ?s9, trivial⟩ ?hd
   case h0 =>
    exact ⟨_, _, _, _, _, _, _, _, _, rfl, (Bel.drew cB), ⟨cK.size, cK.same⟩, (fun o ho hh => cP o ho hh), cD, cX, cY, cQ, cR, fun h => absurd h Bool.false_ne_true, fun h => absurd h Bool.false_ne_true, fun h => absurd h Bool.false_ne_true, fun h => absurd h Bool.false_ne_true, fun h => absurd h Bool.false_ne_true, fun h => absurd h Bool.false_ne_true, fun h => absurd h Bool.false_ne_true, fun h => absurd h Bool.false_ne_true, fun h => absurd h Bool.false_ne_true⟩
   case s0 =>
    rintro L _ W K ⟨u28, u29, u30, u31, u32, u33, u34, u35, u36, rfl, hb, x0, x1, c3, c4, c5, c7, c8, f0, f1, f2, f3, f4, f5, f6, f7, f8⟩ hL hD hN hK
    refine step_on (wanted_none rfl) ?_
    go_simp
    refine hK _ _ ⟨_, _, _, _, _, _, _, _, _, rfl, hb, x0, x1, c3, c4, c5, c7, c8, fun _ => rfl, f1, f2, f3, f4, f5, f6, f7, f8⟩
   case s1 =>
    rintro L _ W K ⟨u28, u29, u30, u31, u32, u33, u34, u35, u36, rfl, hb, x0, x1, c3, c4, c5, c7, c8, f0, f1, f2, f3, f4, f5, f6, f7, f8⟩ hL hD hN hK
    obtain rfl := f0 (hD 0 (by kernel_rfl))
    refine step_on (wanted_none rfl) ?_
    go_simp
    refine hK _ _ ⟨_, _, _, _, _, _, _, _, _, rfl, hb, x0, x1, c3, c4, c5, c7, c8, f0, fun _ => rfl, f2, f3, f4, f5, f6, f7, f8⟩
   case s2 =>
    rintro L _ W K ⟨u28, u29, u30, u31, u32, u33, u34, u35, u36, rfl, hb, x0, x1, c3, c4, c5, c7, c8, f0, f1, f2, f3, f4, f5, f6, f7, f8⟩ hL hD hN hK
    obtain rfl := f1 (hD 1 (by kernel_rfl))
    refine step_on (wanted_none rfl) ?_
    have hq1 : (0 : Int) ≤ (255 - (x.1 : Int)) / 64 := by omega
    have hq3 : (255 - (x.1 : Int)) / 64 < 4 := by omega
    have hq2 : ((255 - (x.1 : Int)) / 64).toNat = (255 - x.1) / 64 := by omega
    go_simp
    refine hK _ _ ⟨_, _, _, _, _, _, _, _, _, rfl, hb, x0, x1, c3, c4, c5, c7, c8, f0, f1, fun _ => rfl, f3, f4, f5, f6, f7, f8⟩
   case s3 =>
    rintro L _ W K ⟨u28, u29, u30, u31, u32, u33, u34, u35, u36, rfl, hb, x0, x1, c3, c4, c5, c7, c8, f0, f1, f2, f3, f4, f5, f6, f7, f8⟩ hL hD hN hK
    obtain rfl := f2 (hD 2 (by kernel_rfl))
    refine step_on (wanted_none rfl) ?_
    have hz : L 9 = false := hN 9 _ rfl (by kernel_rfl)
    have d7 := c7
    rw [hz] at d7
    have e0 := heap_cell d7 ((255 - x.1) / 64) (vW_get q ⟨(255 - x.1) / 64, by omega⟩)
    have hf := heap_free d7 ((255 - x.1) / 64)
    go_simp
    refine hK _ _ ⟨_, _, _, _, _, _, _, _, _, rfl, hb, x0, x1, c3, c4, c5, c7, c8, f0, f1, f2, fun _ => rfl, f4, f5, f6, f7, f8⟩
   case s4 =>
    rintro L _ W K ⟨u28, u29, u30, u31, u32, u33, u34, u35, u36, rfl, hb, x0, x1, c3, c4, c5, c7, c8, f0, f1, f2, f3, f4, f5, f6, f7, f8⟩ hL hD hN hK
    refine step_on (wanted_none rfl) ?_
    go_simp
    refine hK _ _ ⟨_, _, _, _, _, _, _, _, _, rfl, hb, x0, x1, c3, c4, c5, c7, c8, f0, f1, f2, f3, fun _ => rfl, f5, f6, f7, f8⟩
   case s5 =>
    rintro L _ W K ⟨u28, u29, u30, u31, u32, u33, u34, u35, u36, rfl, hb, x0, x1, c3, c4, c5, c7, c8, f0, f1, f2, f3, f4, f5, f6, f7, f8⟩ hL hD hN hK
    obtain rfl := f4 (hD 4 (by kernel_rfl))
    refine step_on (wanted_none rfl) ?_
    go_simp
    refine hK _ _ ⟨_, _, _, _, _, _, _, _, _, rfl, hb, x0, x1, c3, c4, c5, c7, c8, f0, f1, f2, f3, f4, fun _ => rfl, f6, f7, f8⟩
   case s6 =>
    rintro L _ W K ⟨u28, u29, u30, u31, u32, u33, u34, u35, u36, rfl, hb, x0, x1, c3, c4, c5, c7, c8, f0, f1, f2, f3, f4, f5, f6, f7, f8⟩ hL hD hN hK
    obtain rfl := f5 (hD 5 (by kernel_rfl))
    refine step_on (wanted_none rfl) ?_
    go_simp
    refine hK _ _ ⟨_, _, _, _, _, _, _, _, _, rfl, hb, x0, x1, c3, c4, c5, c7, c8, f0, f1, f2, f3, f4, f5, fun _ => rfl, f7, f8⟩
   case s7 =>
    rintro L _ W K ⟨u28, u29, u30, u31, u32, u33, u34, u35, u36, rfl, hb, x0, x1, c3, c4, c5, c7, c8, f0, f1, f2, f3, f4, f5, f6, f7, f8⟩ hL hD hN hK
    obtain rfl := f3 (hD 3 (by kernel_rfl))
    obtain rfl := f6 (hD 6 (by kernel_rfl))
    refine step_on (wanted_none rfl) ?_
    go_simp
    refine hK _ _ ⟨_, _, _, _, _, _, _, _, _, rfl, hb, x0, x1, c3, c4, c5, c7, c8, f0, f1, f2, f3, f4, f5, f6, fun _ => rfl, f8⟩
   case s8 =>
    rintro L _ W K ⟨u28, u29, u30, u31, u32, u33, u34, u35, u36, rfl, hb, x0, x1, c3, c4, c5, c7, c8, f0, f1, f2, f3, f4, f5, f6, f7, f8⟩ hL hD hN hK
    obtain rfl := f1 (hD 1 (by kernel_rfl))
    refine step_on (wanted_none rfl) ?_
    have hq1 : (0 : Int) ≤ (255 - (x.1 : Int)) / 64 := by omega
    have hq3 : (255 - (x.1 : Int)) / 64 < 4 := by omega
    have hq2 : ((255 - (x.1 : Int)) / 64).toNat = (255 - x.1) / 64 := by omega
    go_simp
    refine hK _ _ ⟨_, _, _, _, _, _, _, _, _, rfl, hb, x0, x1, c3, c4, c5, c7, c8, f0, f1, f2, f3, f4, f5, f6, f7, fun _ => rfl⟩
   case s9 =>
    rintro L _ W K ⟨u28, u29, u30, u31, u32, u33, u34, u35, u36, rfl, hb, x0, x1, c3, c4, c5, c7, c8, f0, f1, f2, f3, f4, f5, f6, f7, f8⟩ hL hD hN hK
    obtain rfl := f8 (hD 8 (by kernel_rfl))
    obtain rfl := f7 (hD 7 (by kernel_rfl))
    refine step_on (wanted_none rfl) ?_
    have hz : L 9 = false := hL
    rw [hz] at c7
    have e0 := heap_cell c7 ((255 - x.1) / 64) (vW_get q ⟨(255 - x.1) / 64, by omega⟩)
    have h0 := heap_free c7 ((255 - x.1) / 64)
    go_simp
    refine hK _ _ ⟨_, _, _, _, _, _, _, _, _, rfl, (Bel.set hb (by omega) _), (x0.trans (KeepsOthers.setCell _ _ _)), (fun o ho hh => heap_set_other (x1 o ho hh) _ _ (by show w'.heap.size ≠ w.heap.size + 1 + 1 + 1 + 1; omega)), (heap_set_other c3 _ _ (show w.heap.size + 1 ≠ w.heap.size + 1 + 1 + 1 + 1 by omega)), (heap_set_other c4 _ _ (show w.heap.size + 1 + 1 ≠ w.heap.size + 1 + 1 + 1 + 1 by omega)), (heap_set_other c5 _ _ (show w.heap.size + 1 + 1 + 1 ≠ w.heap.size + 1 + 1 + 1 + 1 by omega)), (heap_set c7 _), (heap_set_other c8 _ _ (show w.heap.size + 1 + 1 + 1 + 1 + 1 ≠ w.heap.size + 1 + 1 + 1 + 1 by omega)), f0, f1, f2, f3, f4, f5, f6, f7, f8⟩
   case hd =>
    rintro L _ W ⟨u28, u29, u30, u31, u32, u33, u34, u35, u36, rfl, hb, x0, x1, c3, c4, c5, c7, c8, f0, f1, f2, f3, f4, f5, f6, f7, f8⟩ hall
    rw [hall 9 (by decide)] at c7
    obtain rfl := f0 (hall 0 (by decide))
    obtain rfl := f1 (hall 1 (by decide))
    obtain rfl := f2 (hall 2 (by decide))
    obtain rfl := f3 (hall 3 (by decide))
    obtain rfl := f4 (hall 4 (by decide))
    obtain rfl := f5 (hall 5 (by decide))
    obtain rfl := f6 (hall 6 (by decide))
    obtain rfl := f7 (hall 7 (by decide))
    obtain rfl := f8 (hall 8 (by decide))
    gi_wp2
    refine ⟨x0.from _, x1, ⟨⟨⟨⟨c3, c4⟩, c5, ?_⟩, ?_⟩, hb⟩⟩
    ·rw [hsn]; rw [dgSet (by omega)] at c7; exact c7
    ·rw [hsn]; exact c8
 case done =>
  rintro D ys V hD rfl ⟨⟨⟨⟨bD, bX⟩, bY, bQ⟩, bR⟩, hB⟩ hK
  generalize hst : stD nx s d (downto 256) = st at *
  obtain ⟨q, r⟩ := st
  dsimp only at bQ bR ⊢
  have hD' : w.heap.size + 1 + 1 + 1 + 1 + 1 + 1 ≤ D := by have : (w'.alloc (.cells #[.int .u64 (wd s 0), .int .u64 (wd s 1), .int .u64 (wd s 2), .int .u64 (wd s 3)] 177)).heap.size ≤ D := hD; simp at this; omega
  gi_wp2
  refine wpIn_region_inv (fun (L : Nat → Bool) (A : Act) (W : World) => ∃ u37 u38 u6 : Value, A = ⟨#[vW s, vB d, Value.pointer (some { block := w.heap.size, off := 0 }), Value.pointer (some { block := w.heap.size + 1, off := 0 }), Value.pointer (some { block := w.heap.size + 1 + 1, off := 0 }), Value.pointer (some { block := w.heap.size + 1 + 1 + 1, off := 0 }), u6, Value.pointer (some { block := w.heap.size + 1 + 1 + 1 + 1, off := 0 }), Value.pointer (some { block := w.heap.size + 1 + 1 + 1 + 1 + 1, off := 0 }), undef, undef, undef, Value.agg #[Value.int IntKind.u64 (wd d 1), Value.int IntKind.u64 (wd d 0)], Value.bool false, undef, undef, Value.agg #[Value.int IntKind.u64 (wd s 0), Value.int IntKind.u64 (wd s 1), Value.int IntKind.u64 (wd s 2), Value.int IntKind.u64 (wd s 3)], Value.func (Fn.func 257) #[] #[Value.pointer (some { block := w'.heap.size, off := 0 })], undef, undef, undef, undef, undef, undef, undef, undef, undef, undef, undef, undef, undef, undef, undef, undef, undef, undef, undef, u37, u38], [{ target := Target.collected D, args := #[] }]⟩ ∧ Bel w W ∧ W.heap[D]? = some (.deferred (some [])) ∧ W.heap[w.heap.size + 1 + 1]? = some (.cells (bif L 2 then #[.int .u64 (wd q 0), .int .u64 (wd q 1), .int .u64 (wd q 2), .int .u64 (wd q 3)] else #[.int .u64 0, .int .u64 0, .int .u64 0, .int .u64 0]) 177 (0, 0)) ∧ W.heap[w.heap.size + 1 + 1 + 1]? = some (.cells (bif L 3 then #[.int .u64 (wd r 1), .int .u64 (wd r 0)] else #[.int .u64 0, .int .u64 0]) 24 (0, 0)) ∧ W.heap[w.heap.size + 1 + 1 + 1 + 1]? = some (.cells #[.int .u64 (wd q 0), .int .u64 (wd q 1), .int .u64 (wd q 2), .int .u64 (wd q 3)] 177 (0, 0)) ∧ W.heap[w.heap.size + 1 + 1 + 1 + 1 + 1]? = some (.cells #[.int .u64 (wd r 1), .int .u64 (wd r 0)] 24 (0, 0)) ∧ (L 0 = true → u37 = .agg #[.int .u64 (wd q 0), .int .u64 (wd q 1), .int .u64 (wd q 2), .int .u64 (wd q 3)]) ∧ (L 1 = true → u38 = .agg #[.int .u64 (wd r 1), .int .u64 (wd r 0)]) ∧ (L 4 = true → u6 = (Value.bool true))) (by kernel_rfl) (by kernel_rfl) ?h0 ⟨?s0, ?s1, ?s2, ?s3, ?s4, trivial⟩ ?hd
  case h0 =>
   exact ⟨_, _, _, rfl, (Bel.drew hB), hK, bX, bY, bQ, bR, fun h => absurd h Bool.false_ne_true, fun h => absurd h Bool.false_ne_true, fun h => absurd h Bool.false_ne_true⟩
  case s0 =>
   rintro L _ W K ⟨u37, u38, u6, rfl, hb, x0, c4, c5, c7, c8, f0, f1, f4⟩ hL hD hN hK
   refine step_on (wanted_none rfl) ?_
   have e0 := heap_cell c7 0 rfl
   have e1 := heap_cell c7 1 rfl
   have e2 := heap_cell c7 2 rfl
   have e3 := heap_cell c7 3 rfl
   have hf := heap_free c7 0
   go_simp
   refine hK _ _ ⟨_, _, _, rfl, hb, x0, c4, c5, c7, c8, fun _ => rfl, f1, f4⟩
  case s1 =>
   rintro L _ W K ⟨u37, u38, u6, rfl, hb, x0, c4, c5, c7, c8, f0, f1, f4⟩ hL hD hN hK
   refine step_on (wanted_none rfl) ?_
   have e0 := heap_cell c8 0 rfl
   have e1 := heap_cell c8 1 rfl
   have hf := heap_free c8 0
   go_simp
   refine hK _ _ ⟨_, _, _, rfl, hb, x0, c4, c5, c7, c8, f0, fun _ => rfl, f4⟩
  case s2 =>
   rintro L _ W K ⟨u37, u38, u6, rfl, hb, x0, c4, c5, c7, c8, f0, f1, f4⟩ hL hD hN hK
   obtain rfl := f0 (hD 0 (by kernel_rfl))
   refine step_on (wanted_none rfl) ?_
   have hz : L 2 = false := hL
   rw [hz] at c4
   have e0 := heap_cell c4 0 (rfl)
   have h0 := heap_free c4 0
   have e1 := heap_cell c4 1 (rfl)
   have h1 := heap_free c4 1
   have e2 := heap_cell c4 2 (rfl)
   have h2 := heap_free c4 2
   have e3 := heap_cell c4 3 (rfl)
   have h3 := heap_free c4 3
   go_simp
   refine hK _ _ ⟨_, _, _, rfl, (Bel.set (Bel.set (Bel.set (Bel.set hb (by omega) _) (by omega) _) (by omega) _) (by omega) _), (heap_set_other (heap_set_other (heap_set_other (heap_set_other x0 _ _ (by first | (show D ≠ w.heap.size + 1 + 1; omega) | (show D ≠ w.heap.size + 1 + 1 + 1; omega))) _ _ (by first | (show D ≠ w.heap.size + 1 + 1; omega) | (show D ≠ w.heap.size + 1 + 1 + 1; omega))) _ _ (by first | (show D ≠ w.heap.size + 1 + 1; omega) | (show D ≠ w.heap.size + 1 + 1 + 1; omega))) _ _ (by first | (show D ≠ w.heap.size + 1 + 1; omega) | (show D ≠ w.heap.size + 1 + 1 + 1; omega))), (heap_set (heap_set (heap_set (heap_set c4 _) _) _) _), (heap_set_other (heap_set_other (heap_set_other (heap_set_other c5 _ _ (show w.heap.size + 1 + 1 + 1 ≠ w.heap.size + 1 + 1 by omega)) _ _ (show w.heap.size + 1 + 1 + 1 ≠ w.heap.size + 1 + 1 by omega)) _ _ (show w.heap.size + 1 + 1 + 1 ≠ w.heap.size + 1 + 1 by omega)) _ _ (show w.heap.size + 1 + 1 + 1 ≠ w.heap.size + 1 + 1 by omega)), (heap_set_other (heap_set_other (heap_set_other (heap_set_other c7 _ _ (show w.heap.size + 1 + 1 + 1 + 1 ≠ w.heap.size + 1 + 1 by omega)) _ _ (show w.heap.size + 1 + 1 + 1 + 1 ≠ w.heap.size + 1 + 1 by omega)) _ _ (show w.heap.size + 1 + 1 + 1 + 1 ≠ w.heap.size + 1 + 1 by omega)) _ _ (show w.heap.size + 1 + 1 + 1 + 1 ≠ w.heap.size + 1 + 1 by omega)), (heap_set_other (heap_set_other (heap_set_other (heap_set_other c8 _ _ (show w.heap.size + 1 + 1 + 1 + 1 + 1 ≠ w.heap.size + 1 + 1 by omega)) _ _ (show w.heap.size + 1 + 1 + 1 + 1 + 1 ≠ w.heap.size + 1 + 1 by omega)) _ _ (show w.heap.size + 1 + 1 + 1 + 1 + 1 ≠ w.heap.size + 1 + 1 by omega)) _ _ (show w.heap.size + 1 + 1 + 1 + 1 + 1 ≠ w.heap.size + 1 + 1 by omega)), f0, f1, f4⟩
  case s3 =>
   rintro L _ W K ⟨u37, u38, u6, rfl, hb, x0, c4, c5, c7, c8, f0, f1, f4⟩ hL hD hN hK
   obtain rfl := f1 (hD 1 (by kernel_rfl))
   refine step_on (wanted_none rfl) ?_
   have hz : L 3 = false := hL
   rw [hz] at c5
   have e0 := heap_cell c5 0 (rfl)
   have h0 := heap_free c5 0
   have e1 := heap_cell c5 1 (rfl)
   have h1 := heap_free c5 1
   go_simp
   refine hK _ _ ⟨_, _, _, rfl, (Bel.set (Bel.set hb (by omega) _) (by omega) _), (heap_set_other (heap_set_other x0 _ _ (by first | (show D ≠ w.heap.size + 1 + 1; omega) | (show D ≠ w.heap.size + 1 + 1 + 1; omega))) _ _ (by first | (show D ≠ w.heap.size + 1 + 1; omega) | (show D ≠ w.heap.size + 1 + 1 + 1; omega))), (heap_set_other (heap_set_other c4 _ _ (show w.heap.size + 1 + 1 ≠ w.heap.size + 1 + 1 + 1 by omega)) _ _ (show w.heap.size + 1 + 1 ≠ w.heap.size + 1 + 1 + 1 by omega)), (heap_set (heap_set c5 _) _), (heap_set_other (heap_set_other c7 _ _ (show w.heap.size + 1 + 1 + 1 + 1 ≠ w.heap.size + 1 + 1 + 1 by omega)) _ _ (show w.heap.size + 1 + 1 + 1 + 1 ≠ w.heap.size + 1 + 1 + 1 by omega)), (heap_set_other (heap_set_other c8 _ _ (show w.heap.size + 1 + 1 + 1 + 1 + 1 ≠ w.heap.size + 1 + 1 + 1 by omega)) _ _ (show w.heap.size + 1 + 1 + 1 + 1 + 1 ≠ w.heap.size + 1 + 1 + 1 by omega)), f0, f1, f4⟩
  case s4 =>
   rintro L _ W K ⟨u37, u38, u6, rfl, hb, x0, c4, c5, c7, c8, f0, f1, f4⟩ hL hD hN hK
   refine step_on (wanted_none rfl) ?_
   go_simp
   refine hK _ _ ⟨_, _, _, rfl, hb, x0, c4, c5, c7, c8, f0, f1, fun _ => rfl⟩
  case hd =>
   rintro L _ W ⟨u37, u38, u6, rfl, hb, x0, c4, c5, c7, c8, f0, f1, f4⟩ hall
   rw [hall 2 (by decide)] at c4
   rw [hall 3 (by decide)] at c5
   obtain rfl := f0 (hall 0 (by decide))
   obtain rfl := f1 (hall 1 (by decide))
   obtain rfl := f4 (hall 4 (by decide))
   gi_wp2
   refine ⟨by simp, .inl ⟨_, _, rfl, run_takeDeferred x0, ?_⟩⟩
   have cX : (W.putObj D (.deferred none)).heap[w.heap.size + 1 + 1]? = _ := (World.putObj_heap_other (by omega)).trans c4
   have cY : (W.putObj D (.deferred none)).heap[w.heap.size + 1 + 1 + 1]? = _ := (World.putObj_heap_other (by omega)).trans c5
   have q0 := heap_cell cX 0 rfl
   have q1 := heap_cell cX 1 rfl
   have q2 := heap_cell cX 2 rfl
   have q3 := heap_cell cX 3 rfl
   have q4 := heap_cell cY 0 rfl
   have q5 := heap_cell cY 1 rfl
   exact ⟨_, by simp [results, Tryz.results149, go_sem, q0, q1, q2, q3, q4, q5], rfl, Below.trans hb (belowK_b (w := w) (Nat.le_refl _) W D _ _ (by omega) x0 rfl rfl)⟩
 case stop =>
  rintro D c pre W _ _ h _
  exact h.elim
set_option maxRecDepth 100000 in
set_option maxHeartbeats 4000000 in
theorem Div0_in {Gw : World → Prop} {nx : Nat → Int → Nat → Nat × Bool} (F : Fence) (hS : Steps1 Gw nx F) (n : Nat) (h1 : F.fn 149) (h4 : F.fn 50) (hro : F.round = none) (hn : 3 ≤ n) (s : Nat) (w : World) (hG : Gw w) :
  CallsIn F n Tryz.prog 149 #[vW s, vB 0] w fun e w' => e = .returned (.tuple #[vW 0, vB 0, .bool false]) ∧ Bel w w' := by
 have hn1 : 1 ≤ n := by omega
 have hz := hS.zero
 have zw : ∀ j, wd 0 j = 0 := fun j => by unfold wd; simp
 refine callsIn_of_wp Tryz.func149 rfl h1 ?_ hro
 simp only [Tryz.ntmps149, List.size_toArray, List.length_cons, List.length_nil, Nat.reduceAdd, Nat.reduceSub, Array.replicate_succ, Array.replicate_zero, List.push_toArray, List.append_toArray, List.nil_append, List.cons_append]
 gi_wp2_with (gi_at_call 50; refine (hz (n - 1) 0 _ (hS.keep _ _ hG ((((((Bel.refl w).alloc _).alloc _).alloc _).alloc _).alloc _ |>.alloc _)) (by decide)).mono ?_; rintro e w' ⟨rfl, hw⟩)
 have bX : w'.heap[w.heap.size + 1 + 1]? = some (.cells #[.int .u64 0, .int .u64 0, .int .u64 0, .int .u64 0] 177 (0, 0)) := heap_below (heap_alloc (heap_alloc (heap_alloc (heap_new2 _ _ _ _) _) _) _) hw
 have bY : w'.heap[w.heap.size + 1 + 1 + 1]? = some (.cells #[.int .u64 0, .int .u64 0] 24 (0, 0)) := heap_below (heap_alloc (heap_alloc (heap_new3 _ _ _ _ _) _) _) hw
 have bQ : w'.heap[w.heap.size + 1 + 1 + 1 + 1]? = some (.cells #[.int .u64 0, .int .u64 0, .int .u64 0, .int .u64 0] 177 (0, 0)) := heap_below (heap_alloc (heap_new4 _ _ _ _ _ _) _) hw
 have bR : w'.heap[w.heap.size + 1 + 1 + 1 + 1 + 1]? = some (.cells #[.int .u64 0, .int .u64 0] 24 (0, 0)) := heap_below (heap_new5 _ _ _ _ _ _ _) hw
 have hB : Bel w w' := (((((((Bel.refl w).alloc _).alloc _).alloc _).alloc _).alloc _).alloc _).trans hw
 refine wpIn_region_inv (fun (L : Nat → Bool) (A : Act) (W : World) => ∃ u14 u15 u6 : Value, A = ⟨#[vW s, vB 0, Value.pointer (some { block := w.heap.size, off := 0 }), Value.pointer (some { block := w.heap.size + 1, off := 0 }), Value.pointer (some { block := w.heap.size + 1 + 1, off := 0 }), Value.pointer (some { block := w.heap.size + 1 + 1 + 1, off := 0 }), u6, Value.pointer (some { block := w.heap.size + 1 + 1 + 1 + 1, off := 0 }), Value.pointer (some { block := w.heap.size + 1 + 1 + 1 + 1 + 1, off := 0 }), undef, undef, undef, Value.agg #[Value.int IntKind.u64 0, Value.int IntKind.u64 0], Value.bool true, u14, u15, undef, undef, undef, undef, undef, undef, undef, undef, undef, undef, undef, undef, undef, undef, undef, undef, undef, undef, undef, undef, undef, undef, undef], []⟩ ∧ Bel w W ∧ W.heap[w.heap.size + 1 + 1]? = some (.cells (bif L 2 then #[.int .u64 0, .int .u64 0, .int .u64 0, .int .u64 0] else #[.int .u64 0, .int .u64 0, .int .u64 0, .int .u64 0]) 177 (0, 0)) ∧ W.heap[w.heap.size + 1 + 1 + 1]? = some (.cells (bif L 3 then #[.int .u64 0, .int .u64 0] else #[.int .u64 0, .int .u64 0]) 24 (0, 0)) ∧ W.heap[w.heap.size + 1 + 1 + 1 + 1]? = some (.cells #[.int .u64 0, .int .u64 0, .int .u64 0, .int .u64 0] 177 (0, 0)) ∧ W.heap[w.heap.size + 1 + 1 + 1 + 1 + 1]? = some (.cells #[.int .u64 0, .int .u64 0] 24 (0, 0)) ∧ (L 0 = true → u14 = .agg #[.int .u64 0, .int .u64 0, .int .u64 0, .int .u64 0]) ∧ (L 1 = true → u15 = .agg #[.int .u64 0, .int .u64 0]) ∧ (L 4 = true → u6 = (Value.bool false))) (by kernel_rfl) (by kernel_rfl) ?h0 ⟨?s0, ?s1, ?s2, ?s3, ?s4, trivial⟩ ?hd
 case h0 =>
  exact ⟨_, _, _, rfl, (Bel.drew hB), bX, bY, bQ, bR, fun h => absurd h Bool.false_ne_true, fun h => absurd h Bool.false_ne_true, fun h => absurd h Bool.false_ne_true⟩
 case s0 =>
  rintro L _ W K ⟨u14, u15, u6, rfl, hb, c4, c5, c7, c8, f0, f1, f4⟩ hL hD hN hK
  refine step_on (wanted_none rfl) ?_
  have e0 := heap_cell c7 0 rfl
  have e1 := heap_cell c7 1 rfl
  have e2 := heap_cell c7 2 rfl
  have e3 := heap_cell c7 3 rfl
  have hf := heap_free c7 0
  go_simp
  refine hK _ _ ⟨_, _, _, rfl, hb, c4, c5, c7, c8, fun _ => rfl, f1, f4⟩
 case s1 =>
  rintro L _ W K ⟨u14, u15, u6, rfl, hb, c4, c5, c7, c8, f0, f1, f4⟩ hL hD hN hK
  refine step_on (wanted_none rfl) ?_
  have e0 := heap_cell c8 0 rfl
  have e1 := heap_cell c8 1 rfl
  have hf := heap_free c8 0
  go_simp
  refine hK _ _ ⟨_, _, _, rfl, hb, c4, c5, c7, c8, f0, fun _ => rfl, f4⟩
 case s2 =>
  rintro L _ W K ⟨u14, u15, u6, rfl, hb, c4, c5, c7, c8, f0, f1, f4⟩ hL hD hN hK
  obtain rfl := f0 (hD 0 (by kernel_rfl))
  refine step_on (wanted_none rfl) ?_
  have hz : L 2 = false := hL
  rw [hz] at c4
  have e0 := heap_cell c4 0 (rfl)
  have h0 := heap_free c4 0
  have e1 := heap_cell c4 1 (rfl)
  have h1 := heap_free c4 1
  have e2 := heap_cell c4 2 (rfl)
  have h2 := heap_free c4 2
  have e3 := heap_cell c4 3 (rfl)
  have h3 := heap_free c4 3
  go_simp
  refine hK _ _ ⟨_, _, _, rfl, (Bel.set (Bel.set (Bel.set (Bel.set hb (by omega) _) (by omega) _) (by omega) _) (by omega) _), (heap_set (heap_set (heap_set (heap_set c4 _) _) _) _), (heap_set_other (heap_set_other (heap_set_other (heap_set_other c5 _ _ (show w.heap.size + 1 + 1 + 1 ≠ w.heap.size + 1 + 1 by omega)) _ _ (show w.heap.size + 1 + 1 + 1 ≠ w.heap.size + 1 + 1 by omega)) _ _ (show w.heap.size + 1 + 1 + 1 ≠ w.heap.size + 1 + 1 by omega)) _ _ (show w.heap.size + 1 + 1 + 1 ≠ w.heap.size + 1 + 1 by omega)), (heap_set_other (heap_set_other (heap_set_other (heap_set_other c7 _ _ (show w.heap.size + 1 + 1 + 1 + 1 ≠ w.heap.size + 1 + 1 by omega)) _ _ (show w.heap.size + 1 + 1 + 1 + 1 ≠ w.heap.size + 1 + 1 by omega)) _ _ (show w.heap.size + 1 + 1 + 1 + 1 ≠ w.heap.size + 1 + 1 by omega)) _ _ (show w.heap.size + 1 + 1 + 1 + 1 ≠ w.heap.size + 1 + 1 by omega)), (heap_set_other (heap_set_other (heap_set_other (heap_set_other c8 _ _ (show w.heap.size + 1 + 1 + 1 + 1 + 1 ≠ w.heap.size + 1 + 1 by omega)) _ _ (show w.heap.size + 1 + 1 + 1 + 1 + 1 ≠ w.heap.size + 1 + 1 by omega)) _ _ (show w.heap.size + 1 + 1 + 1 + 1 + 1 ≠ w.heap.size + 1 + 1 by omega)) _ _ (show w.heap.size + 1 + 1 + 1 + 1 + 1 ≠ w.heap.size + 1 + 1 by omega)), f0, f1, f4⟩
 case s3 =>
  rintro L _ W K ⟨u14, u15, u6, rfl, hb, c4, c5, c7, c8, f0, f1, f4⟩ hL hD hN hK
  obtain rfl := f1 (hD 1 (by kernel_rfl))
  refine step_on (wanted_none rfl) ?_
  have hz : L 3 = false := hL
  rw [hz] at c5
  have e0 := heap_cell c5 0 (rfl)
  have h0 := heap_free c5 0
  have e1 := heap_cell c5 1 (rfl)
  have h1 := heap_free c5 1
  go_simp
  refine hK _ _ ⟨_, _, _, rfl, (Bel.set (Bel.set hb (by omega) _) (by omega) _), (heap_set_other (heap_set_other c4 _ _ (show w.heap.size + 1 + 1 ≠ w.heap.size + 1 + 1 + 1 by omega)) _ _ (show w.heap.size + 1 + 1 ≠ w.heap.size + 1 + 1 + 1 by omega)), (heap_set (heap_set c5 _) _), (heap_set_other (heap_set_other c7 _ _ (show w.heap.size + 1 + 1 + 1 + 1 ≠ w.heap.size + 1 + 1 + 1 by omega)) _ _ (show w.heap.size + 1 + 1 + 1 + 1 ≠ w.heap.size + 1 + 1 + 1 by omega)), (heap_set_other (heap_set_other c8 _ _ (show w.heap.size + 1 + 1 + 1 + 1 + 1 ≠ w.heap.size + 1 + 1 + 1 by omega)) _ _ (show w.heap.size + 1 + 1 + 1 + 1 + 1 ≠ w.heap.size + 1 + 1 + 1 by omega)), f0, f1, f4⟩
 case s4 =>
  rintro L _ W K ⟨u14, u15, u6, rfl, hb, c4, c5, c7, c8, f0, f1, f4⟩ hL hD hN hK
  refine step_on (wanted_none rfl) ?_
  go_simp
  refine hK _ _ ⟨_, _, _, rfl, hb, c4, c5, c7, c8, f0, f1, fun _ => rfl⟩
 case hd =>
  rintro L _ W ⟨u14, u15, u6, rfl, hb, c4, c5, c7, c8, f0, f1, f4⟩ hall
  rw [hall 2 (by decide)] at c4
  rw [hall 3 (by decide)] at c5
  obtain rfl := f0 (hall 0 (by decide))
  obtain rfl := f1 (hall 1 (by decide))
  obtain rfl := f4 (hall 4 (by decide))
  have q0 := heap_cell c4 0 rfl
  have q1 := heap_cell c4 1 rfl
  have q2 := heap_cell c4 2 rfl
  have q3 := heap_cell c4 3 rfl
  have q4 := heap_cell c5 0 rfl
  have q5 := heap_cell c5 1 rfl
  gi_wp2
  exact ⟨rfl, .tuple #[.agg #[.int .u64 0, .int .u64 0, .int .u64 0, .int .u64 0], .agg #[.int .u64 0, .int .u64 0], .bool false], by simp [results, Tryz.results149, go_sem, q0, q1, q2, q3, q4, q5], by simp only [vW, vB, zw], hb⟩
end Go.Proofs.YtemomocmfggiaaaGreatDoor
namespace Go.Proofs.YtemomocmfggiaaaGreatDoor
set_option linter.unusedVariables false
open Go.RowKit Go.Shelf
theorem or_add (a i : Nat) : a * 2 ^ (i + 1) ||| 2 ^ i = a * 2 ^ (i + 1) + 2 ^ i := by
 have h := Nat.two_pow_add_eq_or_of_lt (i := i + 1) (b := 2 ^ i) (Nat.pow_lt_pow_right (by decide) (by omega)) a
 rw [Nat.mul_comm a]; exact h.symm
theorem stD_eq {nx : Nat → Int → Nat → Nat × Bool} {s d : Nat} (hs : s < 2 ^ 256) (hd : 0 < d) (hx : ∀ r x : Nat, r < d → x < 2 → nx r (x : Int) d = nxN r x d) :
  ∀ k, k ≤ 256 → stD nx s d (downto k) = (s / 2 ^ (256 - k) / d * 2 ^ (256 - k), s / 2 ^ (256 - k) % d)
 | 0, _ => by
  rw [show downto 0 = [] from rfl, show stD nx s d [] = (0, 0) from rfl, show 256 - 0 = 256 from rfl, Nat.div_eq_of_lt hs, Nat.zero_div, Nat.zero_mul, Nat.zero_mod]
 | k + 1, h => by
  have hk : k < 256 := by omega
  rw [downto_succ hk, stD_snoc, stD_eq hs hd hx k (by omega)]
  simp only []
  rw [bitE_eq s k hk]
  obtain ⟨i, hi⟩ : ∃ i, 255 - k = i := ⟨_, rfl⟩
  rw [show 256 - k = i + 1 by omega, show 256 - (k + 1) = i by omega, hi]
  have hb : s / 2 ^ i % 2 < 2 := Nat.mod_lt _ (by decide)
  have hr := Nat.mod_lt (s / 2 ^ (i + 1)) hd
  rw [hx _ _ hr hb]
  have e1 : s / 2 ^ i = 2 * (s / 2 ^ (i + 1)) + s / 2 ^ i % 2 := by
   rw [Nat.pow_succ, ← Nat.div_div_eq_div_mul]; omega
  have e2 := Nat.div_add_mod (s / 2 ^ (i + 1)) d
  generalize s / 2 ^ i % 2 = b at *
  generalize s / 2 ^ (i + 1) = A at *
  rw [e1]
  generalize A / d = Q at *
  generalize A % d = R at *
  unfold nxN
  have ex : 2 * A + b = d * (2 * Q) + (2 * R + b) := by
   rw [← e2, Nat.mul_add]
   have : 2 * (d * Q) = d * (2 * Q) := by ac_rfl
   omega
  by_cases hle : d ≤ 2 * R + b
  ·rw [if_pos hle]
   simp only [if_true]
   have q1 : (2 * A + b) / d = 2 * Q + 1 := by
    have o : (2 * R + b) / d = 1 := Nat.div_eq_of_lt_le (by omega) (by omega)
    rw [ex, Nat.mul_add_div hd, o]
   have q2 : (2 * A + b) % d = 2 * R + b - d := by
    rw [ex, Nat.mul_add_mod, Nat.mod_eq_sub_mod hle, Nat.mod_eq_of_lt (by omega)]
   rw [q1, q2, or_add, Nat.pow_succ]
   congr 1
   rw [Nat.add_mul, Nat.one_mul]
   have : Q * (2 ^ i * 2) = 2 * Q * 2 ^ i := by ac_rfl
   omega
  ·rw [if_neg hle]
   simp only [Bool.false_eq_true, if_false]
   have q1 : (2 * A + b) / d = 2 * Q := by
    rw [ex, Nat.mul_add_div hd, Nat.div_eq_of_lt (by omega)]; omega
   have q2 : (2 * A + b) % d = 2 * R + b := by
    rw [ex, Nat.mul_add_mod, Nat.mod_eq_of_lt (by omega)]
   rw [q1, q2, Nat.pow_succ]
   congr 1
   ac_rfl
theorem stD_all {nx : Nat → Int → Nat → Nat × Bool} {s d : Nat} (hs : s < 2 ^ 256) (hd : 0 < d) (hx : ∀ r x : Nat, r < d → x < 2 → nx r (x : Int) d = nxN r x d) :
  stD nx s d (downto 256) = (s / d, s % d) := by
 rw [stD_eq hs hd hx 256 (Nat.le_refl _), Nat.sub_self, Nat.pow_zero, Nat.div_one, Nat.mul_one]
end Go.Proofs.YtemomocmfggiaaaGreatDoor
namespace Go.Proofs.YtemomocmfggiaaaGreatDoor
set_option linter.unusedVariables false
set_option linter.unusedSimpArgs false
set_option maxRecDepth 100000
open Go.RowKit
noncomputable def nxF (r : Nat) (x : Int) (d : Nat) : Nat × Bool :=
 (nB (getI (F_quot_next [wd r 1, wd r 0, x, wd d 1, wd d 0]) 0) (getI (F_quot_next [wd r 1, wd r 0, x, wd d 1, wd d 0]) 1), iNz (getI (F_quot_next [wd r 1, wd r 0, x, wd d 1, wd d 0]) 2))
theorem steps1 : Steps1 (Gl gG) nxF Fence.wide where
 keep := fun X Y h b => h.bel b
 zero := fun m b w hG hb => callsIn_wide.2 (by
  have h := calls_of_pc (e_word_Zero [wd b 1, wd b 0] rfl).2 Tryz.func50 (by kernel_rfl) (by kernel_rfl) w hG
  simp only [] at h
  rw [s_word_Zero, nB_small hb] at h
  simpa only [c_word_Zero, valsS, val1, valXs, valX, Sh.kinds, List.drop_succ_cons, List.drop_zero, List.length_cons, List.length_nil, w64_u, u64_wd, b2i_ne, resVal] using h)
 next := fun l m r x d w hG hx hr hd => by
  have h := calls_of_pc (e_quot_next [wd r 1, wd r 0, x, wd d 1, wd d 0] rfl).2 Tryz.func217 (by kernel_rfl) (by kernel_rfl) w hG
  have hlen := (e_quot_next [wd r 1, wd r 0, x, wd d 1, wd d 0] rfl).1
  unfold nxF
  simp only [] at h hlen
  obtain ⟨a, b, c, hL⟩ := three hlen
  rw [hL] at h ⊢
  have ux : u64 x = x := u64_idem ⟨hx.1, by rw [W64_val]; omega⟩
  obtain ⟨n1, n0⟩ := nB_words a b
  have key : CallsIn Fence.wide m Tryz.prog 217 #[vB r, .int .u64 x, vB d] w fun e w' => e = .returned (.tuple #[vB (nB a b), .bool (iNz c)]) ∧ Bel w w' := callsIn_wide.2 (by
   simpa only [c_quot_next, valsS, val1, valXs, valX, Sh.kinds, List.drop_succ_cons, List.drop_zero, List.length_cons, List.length_nil, w64_u, u64_wd, ux, resVal, n1, n0, iNz_eq] using h)
  exact key
 lt := fun r x d => nB_lt _ _
theorem nxF_eq {d : Nat} (hd : d < W128) (r x : Nat) (hr : r < d) (hx : x < 2) : nxF r (x : Int) d = nxN r x d := by
 unfold nxF
 rw [s_quot_next r x d hd hr hx, oB_eq]
 have hlt : (nxN r x d).1 < W128 := by
  unfold nxN
  split
  ·simp only; omega
  ·simp only; omega
 simp only [l_ca, l_na, getI_0, getI_s, iNz_b2i]
 rw [nB_small hlt]
end Go.Proofs.YtemomocmfggiaaaGreatDoor
namespace Go.Proofs.YtemomocmfggiaaaGreatDoor
set_option linter.unusedVariables false
set_option linter.unusedSimpArgs false
set_option maxRecDepth 100000
open Go.RowKit
def qOut (s d : Nat) : List Int := match Nat.beq d 0 with
 | true => [0, 0, 0, 0, 0, 0, 0]
 | false => oW (s / d) ++ oB (s % d) ++ [1]
def fQuot (l : List Int) : List Int := qOut (nW (getI l 0) (getI l 1) (getI l 2) (getI l 3)) (nB (getI l 4) (getI l 5))
theorem dc0 (s : Nat) (w : World) (hG : Gl gG w) : CallsIn Fence.wide 3 Tryz.prog 149 #[vW s, vB 0] w fun e w' => e = .returned (.tuple #[vW 0, vB 0, .bool false]) ∧ Bel w w' :=
 Div0_in Fence.wide steps1 3 trivial trivial rfl (Nat.le_refl _) s w hG
theorem dc1 (s d : Nat) (hd : d < W128) (h0 : d ≠ 0) (w : World) (hG : Gl gG w) : CallsIn Fence.wide 3 Tryz.prog 149 #[vW s, vB d] w fun e w' => e = .returned (.tuple #[vW (stD nxF s d (downto 256)).1, vB (stD nxF s d (downto 256)).2, .bool true]) ∧ Bel w w' :=
 Div_in Fence.wide steps1 3 trivial trivial trivial trivial trivial rfl (Nat.le_refl _) s d hd h0 w hG
theorem dc2 (s d : Nat) (hs : s < W256) (hd : d < W128) (h0 : d ≠ 0) : stD nxF s d (downto 256) = (s / d, s % d) :=
 stD_all (by rw [← W256_pow]; exact hs) (by omega) (fun r x hr hx => nxF_eq hd r x hr hx)
theorem div_calls0 (s : Nat) (w : World) (hG : Gl gG w) : Calls Tryz.prog 149 #[vW s, vB 0] w fun e w' => e = .returned (.tuple #[vW 0, vB 0, .bool false]) ∧ Bel w w' := callsIn_wide.1 (dc0 s w hG)
theorem div_calls1 (s d : Nat) (hs : s < W256) (hd : d < W128) (h0 : d ≠ 0) (w : World) (hG : Gl gG w) :
  Calls Tryz.prog 149 #[vW s, vB d] w fun e w' => e = .returned (.tuple #[vW (s / d), vB (s % d), .bool true]) ∧ Bel w w' :=
 (callsIn_wide.1 (dc1 s d hd h0 w hG)).mono fun e w' h => ⟨h.1.trans (congrArg (fun p : Nat × Nat => Ending.returned (.tuple #[vW p.1, vB p.2, .bool true])) (dc2 s d hs hd h0)), h.2⟩
theorem pc_of_calls0 {args : List Value} {v : Value} (h : ∀ w, Gl gG w → Calls Tryz.prog 149 args.toArray w fun e w' => e = .returned v ∧ Bel w w') : PC Tryz.prog gG 149 args v := fun w hG =>
 callsX_of_calls Tryz.func149 (by kernel_rfl) (by kernel_rfl) (h w hG)
abbrev ctDiv : Ct := ⟨[.agg [kU, kU, kU, kU], .agg [kU, kU]], [.agg [kU, kU, kU, kU], .agg [kU, kU], .sc .bool]⟩
theorem resQ (q r : Nat) : resVal (valsS ctDiv.r (oW q ++ oB r ++ [1])) = .tuple #[vW q, vB r, .bool true] := by
 rw [oW_eq, oB_eq]
 simp only [ctDiv, l_ca, l_na, valsS, val1, valXs, valX_u64, Sh.kinds, List.drop_succ_cons, List.drop_zero, List.length_cons, List.length_nil, u64_wd, resVal]
 rfl
theorem resQ0 : resVal (valsS ctDiv.r [0, 0, 0, 0, 0, 0, 0]) = .tuple #[vW 0, vB 0, .bool false] := by
 have zw : ∀ j, wd 0 j = 0 := fun j => by unfold wd; simp
 have z : u64 0 = 0 := by decide
 simp only [ctDiv, valsS, val1, valXs, valX_u64, Sh.kinds, List.drop_succ_cons, List.drop_zero, List.length_cons, List.length_nil, resVal, z, vW, vB, zw]
 rfl
theorem argQ (a b c d e f : Int) : valsS ctDiv.a [a, b, c, d, e, f] = [vW (nW a b c d), vB (nB e f)] := by
 obtain ⟨n0, n1, n2, n3, n4⟩ := nW_words a b c d
 obtain ⟨m1, m0⟩ := nB_words e f
 simp only [ctDiv, valsS, val1, valXs, valX_u64, Sh.kinds, List.drop_succ_cons, List.drop_zero, List.length_cons, List.length_nil, n0, n1, n2, n3, m1, m0]
theorem qOut_z (s : Nat) : qOut s 0 = [0, 0, 0, 0, 0, 0, 0] := by rw [qOut]
theorem qOut_p (s : Nat) {y : Nat} (hy : y ≠ 0) : qOut s y = oW (s / y) ++ oB (s % y) ++ [1] := by
 have hb : Nat.beq y 0 = false := by
  cases h : Nat.beq y 0 with
  | false => rfl
  | true => exact absurd (Nat.eq_of_beq_eq_true h) hy
 unfold qOut; rw [hb]
theorem qOut_len (s y : Nat) : (qOut s y).length = 7 := by
 by_cases hy : y = 0
 ·subst hy; rw [qOut_z]; rfl
 ·rw [qOut_p s hy, oW_eq, oB_eq]; rfl
theorem qOut_pc (s y : Nat) (hs : s < W256) (hd : y < W128) : PC Tryz.prog gG 149 [vW s, vB y] (resVal (valsS ctDiv.r (qOut s y))) := by
 by_cases hy : y = 0
 ·subst hy
  rw [qOut_z, resQ0]
  exact pc_of_calls0 fun w hG => div_calls0 s w hG
 ·rw [qOut_p s hy, resQ]
  exact pc_of_calls0 fun w hG => div_calls1 s y hs hd hy w hG
theorem six {α : Type} {l : List α} (h : l.length = 6) : ∃ a b c d e f, l = [a, b, c, d, e, f] := by match l, h with | [a, b, c, d, e, f], _ => exact ⟨a, b, c, d, e, f, rfl⟩
theorem fQuot_eq (a b c d e f : Int) : fQuot [a, b, c, d, e, f] = qOut (nW a b c d) (nB e f) := by rw [fQuot]; simp only [getI_0, getI_s]
theorem ent_Div : EntOK Tryz.prog gG ⟨149, ctDiv, fQuot⟩ := by
 intro l hl
 obtain ⟨a, b, c, d, e, f, rfl⟩ := six hl
 have h1 := qOut_len (nW a b c d) (nB e f)
 have h2 := qOut_pc (nW a b c d) (nB e f) (nW_words a b c d).2.2.2.2 (nB_lt e f)
 rw [← argQ, ← fQuot_eq] at h2
 rw [← fQuot_eq] at h1
 exact ⟨h1, h2⟩
end Go.Proofs.YtemomocmfggiaaaGreatDoor
