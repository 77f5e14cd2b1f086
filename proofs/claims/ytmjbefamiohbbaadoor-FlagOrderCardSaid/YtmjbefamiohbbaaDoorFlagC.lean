/- flag: contracts of Join, Has, Names, Good and of the references in numbers. -/
import Derived.Test.YtmjbefamiohbbaaDoorFlagB
namespace Go.Proofs.YtmjbefamiohbbaaDoor
set_option linter.unusedVariables false
open Go.RowKit Go.Shelf FlagM
attribute [local go_sem] Oper.semAt_some

set_option maxRecDepth 100000 in
set_option maxHeartbeats 2000000 in
theorem Join_nil_in (F : Fence) (n : Nat) (h3 : F.fn 8) (hro : F.round = none) (a : Option Addr) (c : Nat) (w : World) :
    CallsIn F n Tryd.prog 8 #[.slice a 0 c] w fun e W' => e = .returned (.int .u8 0) ∧ Bel w W' := by
  refine callsIn_of_wp_marks Tryd.func8 rfl h3 ?_ hro
  simp only [Tryd.ntmps8, List.size_toArray, List.length_cons, List.length_nil, Nat.reduceAdd, Nat.reduceSub, Array.replicate_succ, Array.replicate_zero, List.push_toArray, List.append_toArray, List.nil_append, List.cons_append]
  gi_wp2
  have bS := Boxed.new w 23 (.int .u8 0)
  gi_loopw [10] (fun i wr => i = .int .i64 0 ∧ Boxed wr w.heap.size 23 (.int .u8 0) ∧ Bel w wr) (fun _ _ => 0)
  case atStart => exact ⟨rfl, bS, (Bel.refl w).alloc _⟩
  case round =>
    obtain ⟨rfl, bR, hB⟩ := hrel
    have hcR := bR.cell
    gi_wp2
    exact ⟨_, results_tmp (t := 2) rfl _ _ _, rfl, hB⟩
set_option maxRecDepth 100000 in
set_option maxHeartbeats 1000000 in
theorem refJoin_nil (a : Option Addr) (c : Nat) (w : World) :
    Calls Tryd.prog 9 #[.slice a 0 c] w fun e w' => e = .returned (.int .u8 0) ∧ w = w' := by
  go_enter Tryd.func9, Tryd.ntmps9
  go_wp2
  go_loop [3, 4] (fun o i => ∃ k : Nat, k ≤ 5 ∧ i = .int .i64 k ∧ o = .int .i64 0) (fun _ i => 5 - (intOf i).toNat)
  case atStart => exact ⟨0, by omega, rfl, rfl⟩
  case round =>
    obtain ⟨k, hk, rfl, rfl⟩ := hrel
    by_cases hlt : k < 5
    · go_wp2_with fail
      go_loop [3, 5] (fun o j => j = .int .i64 0 ∧ o = .int .i64 0) (fun _ _ => 0)
      case atStart => exact ⟨rfl, rfl⟩
      case round =>
        obtain ⟨rfl, rfl⟩ := hrel
        go_wp2
        go_round
        case rel => exact ⟨k + 1, by omega, by go_num, rfl⟩
        case measure => simp [intOf]; omega
    · obtain rfl : k = 5 := by omega
      go_wp2
      go_ret
      exact ⟨rfl, rfl⟩

/-- a slice value reads as a list of sets -/
def U8s (W : World) (v : Value) (l : List Int) : Prop :=
  (∀ j, j < l.length → 0 ≤ l[j]?.getD 0 ∧ l[j]?.getD 0 ≤ 255) ∧ l.length ≤ 140737488351232 ∧
  ((∃ a c, v = .slice a 0 c ∧ l = []) ∨ ∃ b off cap, v = .slice (some ⟨b, off, none⟩) l.length cap ∧ b < W.heap.size ∧ ∀ j, j < l.length → W.cell? ⟨b, off + j, none⟩ = some (.int .u8 (l[j]?.getD 0)))
theorem U8s.bel {A B : World} {v : Value} {l : List Int} (h : U8s A v l) (hb : Bel A B) : U8s B v l :=
  ⟨h.1, h.2.1, h.2.2.imp id fun ⟨b, off, cap, h1, h2, h3⟩ => ⟨b, off, cap, h1, Nat.lt_of_lt_of_le h2 hb.size, fun j hj => (hb.cell b (off + j) h2).trans (h3 j hj)⟩⟩

/-! the sums of a list -/
theorem or_lit : ∀ (a : Fin 32) (x : Fin 5), bits .or .u8 (a.1 : Int) (2 ^ x.1 % 256) = ((a.1 ||| 2 ^ x.1 : Nat) : Int) := by decide +kernel
theorem or_lt {a : Nat} (h : a < 32) (x : Fin 5) : a ||| 2 ^ x.1 < 32 :=
  Nat.or_lt_two_pow (n := 5) h (Nat.pow_lt_pow_right (by decide) x.2)
theorem orS_nat (l : List (Fin 5)) : ∀ (a : Nat), a < 32 → orS (a : Int) l = ((l.foldl (fun a x => a ||| 2 ^ x.1) a : Nat) : Int) := by
  induction l with
  | nil => intro a _; rfl
  | cons x l ih =>
    intro a ha
    have h1 := or_lit ⟨a, ha⟩ x
    have h2 := ih (a ||| 2 ^ x.1) (or_lt ha x)
    simp only [orS, List.foldl_cons] at h2 ⊢
    rw [h1, h2]
theorem evs_sum : ∀ s : Fin 256, (evs (s.1 : Int) 5).foldl (fun a x => a ||| 2 ^ x.1) 0 = s.1 % 32 := by decide +kernel
theorem foldl_or2 (l : List (Fin 5)) : ∀ a : Nat, l.foldl (fun a x => a ||| 2 ^ x.1) a = a ||| l.foldl (fun a x => a ||| 2 ^ x.1) 0 := by
  induction l with
  | nil => intro a; simp
  | cons x l ih => intro a; simp only [List.foldl_cons]; rw [ih, ih (0 ||| 2 ^ x.1)]; simp [Nat.or_assoc]
theorem joinS_from (l : List Int) (hl : ∀ x ∈ l, 0 ≤ x ∧ x ≤ 255) : ∀ a : Nat, a < 32 → l.foldl (fun acc s => orS acc (evs s 5)) (a : Int) = ((a ||| J (l.map Int.toNat) : Nat) : Int) := by
  induction l with
  | nil => intro a _; simp [J_nil]
  | cons x l ih =>
    intro a ha
    obtain ⟨h0, h1⟩ := hl x (by simp)
    have e : orS (a : Int) (evs x 5) = ((a ||| x.toNat % 32 : Nat) : Int) := by
      rw [orS_nat _ a ha, foldl_or2]
      have := evs_sum ⟨x.toNat, by omega⟩
      simp only [Int.toNat_of_nonneg h0] at this
      rw [this]
    have hlt : a ||| x.toNat % 32 < 32 := Nat.or_lt_two_pow (n := 5) ha (Nat.mod_lt _ (by decide))
    rw [List.foldl_cons, e, ih (fun y hy => hl y (by simp [hy])) _ hlt, List.map_cons, J_cons, Nat.or_assoc]
theorem joinS_nat (l : List Int) (hl : ∀ x ∈ l, 0 ≤ x ∧ x ≤ 255) : joinS l = (J (l.map Int.toNat) : Int) := by
  have := joinS_from l hl 0 (by decide)
  simpa [joinS] using this
theorem bitS_nat {s : Int} (h : 0 ≤ s) (k : Nat) : bitS s k = s.toNat.testBit k := by
  obtain ⟨n, rfl⟩ := Int.eq_ofNat_of_zero_le h
  unfold bitS
  rw [Nat.testBit_eq_decide_div_mod_eq]
  simp only [Int.toNat_natCast]
  rw [Bool.eq_iff_iff, beq_iff_eq, decide_eq_true_eq]
  rw [show ((2 : Int) ^ k) = ((2 ^ k : Nat) : Int) by simp]
  omega
theorem anyB_nat {l : List Int} (hl : ∀ x ∈ l, 0 ≤ x ∧ x ≤ 255) {k : Nat} (hk : k < 5) : anyB l k = (J (l.map Int.toNat)).testBit k := by
  rw [J_bit _ _ hk, anyB, List.any_map]
  rw [Bool.eq_iff_iff, List.any_eq_true, List.any_eq_true]
  constructor
  · rintro ⟨x, hx, h⟩; exact ⟨x, hx, by rw [bitS_nat (hl x hx).1] at h; exact h⟩
  · rintro ⟨x, hx, h⟩; exact ⟨x, hx, by rw [bitS_nat (hl x hx).1]; exact h⟩
theorem joinR_nat (l : List Int) (hl : ∀ x ∈ l, 0 ≤ x ∧ x ≤ 255) : joinR l 5 = (J (l.map Int.toNat) : Int) := by
  have hlt := J_lt (l.map Int.toNat)
  simp only [joinR]
  have h0 := anyB_nat hl (k := 0) (by decide)
  have h1 := anyB_nat hl (k := 1) (by decide)
  have h2 := anyB_nat hl (k := 2) (by decide)
  have h3 := anyB_nat hl (k := 3) (by decide)
  have h4 := anyB_nat hl (k := 4) (by decide)
  rw [h0, h1, h2, h3, h4]
  clear h0 h1 h2 h3 h4
  generalize J (l.map Int.toNat) = x at *
  have hs := sum_bits ⟨x, hlt⟩
  dsimp only at hs
  generalize hb0 : x.testBit 0 = b0 at *
  generalize hb1 : x.testBit 1 = b1 at *
  generalize hb2 : x.testBit 2 = b2 at *
  generalize hb3 : x.testBit 3 = b3 at *
  generalize hb4 : x.testBit 4 = b4 at *
  rw [← hs]
  cases b0 <;> cases b1 <;> cases b2 <;> cases b3 <;> cases b4 <;> rfl
theorem U8s.mem {W : World} {v : Value} {l : List Int} (h : U8s W v l) : ∀ x ∈ l, 0 ≤ x ∧ x ≤ 255 := fun x hx => by
  obtain ⟨j, hj, rfl⟩ := List.mem_iff_getElem.1 hx
  have := h.1 j hj
  simpa [hj] using this

/-! the contracts -/
theorem Join_c (v : Value) (l : List Int) (w : World) (h : U8s w v l) :
    Calls Tryd.prog 8 #[v] w fun e w' => e = .returned (.int .u8 (J (l.map Int.toNat) : Int)) ∧ Bel w w' := by
  rw [← joinS_nat l h.mem]
  refine (callsIn_wide (n := 3)).1 ?_
  rcases h.2.2 with ⟨a, c, rfl, rfl⟩ | ⟨b, off, cap, rfl, hb, hc⟩
  · exact Join_nil_in _ _ trivial rfl a c w
  · exact Join_in _ 3 trivial trivial trivial rfl (by omega) b off cap l h.2.1 w hb hc
theorem refJoin_c (v : Value) (l : List Int) (w : World) (h : U8s w v l) :
    Calls Tryd.prog 9 #[v] w fun e w' => e = .returned (.int .u8 (J (l.map Int.toNat) : Int)) ∧ w = w' := by
  have hm := h.mem
  rw [← joinR_nat l hm]
  rcases h.2.2 with ⟨a, c, rfl, rfl⟩ | ⟨b, off, cap, rfl, hb, hc⟩
  · exact refJoin_nil a c w
  · exact refJoin_any b off cap l h.1 h.2.1 w hc
theorem hasS_nat {s p : Int} (h0 : 0 ≤ s) (h1 : s ≤ 255) (h2 : 0 ≤ p) (h3 : p ≤ 255) : (bits .andNot .u8 p s == 0) = sub s.toNat p.toNat := by
  rw [u8_andNot p s h2 (by omega) h0 (by omega), sub]
  rw [Bool.eq_iff_iff, beq_iff_eq, beq_iff_eq]
  omega
set_option maxHeartbeats 400000 in
theorem Has_c (s p : Int) (w : World) (h0 : 0 ≤ s) (h1 : s ≤ 255) (h2 : 0 ≤ p) (h3 : p ≤ 255) :
    Calls Tryd.prog 10 #[.int .u8 s, .int .u8 p] w fun e w' => e = .returned (.bool (sub s.toNat p.toNat)) ∧ w = w' := by
  rw [← hasS_nat h0 h1 h2 h3]
  go_enter Tryd.func10, Tryd.ntmps10
  go_wp2
  go_ret
  exact ⟨rfl, rfl⟩
theorem hasR_nat {s p : Int} (h0 : 0 ≤ s) (h1 : s ≤ 255) (h2 : 0 ≤ p) (h3 : p ≤ 255) : hasR s p = sub s.toNat p.toNat := by
  rw [Bool.eq_iff_iff, sub_iff (by omega) (by omega)]
  simp only [hasR, List.all_eq_true, List.mem_range, Bool.or_eq_true, Bool.not_eq_true']
  constructor
  · intro h k hk
    by_cases h8 : k < 8
    · rcases h k h8 with h | h
      · rw [bitS_nat h2] at h; rw [h] at hk; cases hk
      · rw [bitS_nat h0] at h; exact h
    · have : p.toNat.testBit k = false := Nat.testBit_lt_two_pow (Nat.lt_of_lt_of_le (show p.toNat < 2 ^ 8 by omega) (Nat.pow_le_pow_right (by decide) (by omega)))
      rw [this] at hk; cases hk
  · intro h k _
    rw [bitS_nat h2, bitS_nat h0]
    cases hb : p.toNat.testBit k with
    | false => exact .inl rfl
    | true => exact .inr (h k hb)
theorem refHas_c (s p : Int) (w : World) (h0 : 0 ≤ s) (h1 : s ≤ 255) (h2 : 0 ≤ p) (h3 : p ≤ 255) :
    Calls Tryd.prog 11 #[.int .u8 s, .int .u8 p] w fun e w' => e = .returned (.bool (sub s.toNat p.toNat)) ∧ w = w' := by
  rw [← hasR_nat h0 h1 h2 h3]
  exact refHas_any s p w h0 h1 h2 h3
theorem good_lt : ∀ s : Fin 256, (bits .andNot .u8 (s.1 : Int) 31 == 0) = decide ((s.1 : Int) < 32) := by decide +kernel
set_option maxHeartbeats 400000 in
theorem Good_c (s : Int) (w : World) (h0 : 0 ≤ s) (h1 : s ≤ 255) :
    Calls Tryd.prog 15 #[.int .u8 s] w fun e w' => e = .returned (.bool (decide (s < 32))) ∧ w = w' := by
  have := good_lt ⟨s.toNat, by omega⟩
  simp only [Int.toNat_of_nonneg h0] at this
  rw [← this]
  clear this
  go_enter Tryd.func15, Tryd.ntmps15
  go_wp2
  go_ret
  exact ⟨rfl, rfl⟩
/-- the names of a set -/
def namesL (s : Int) : List (List UInt8) := (evs s 5).map (fun x => nm x.1)
/-- the table of names is as the program lays it -/
def NamesAt (w : World) : Prop := ∀ j, j < 5 → w.cell? ⟨0, j, none⟩ = some (.string ⟨(nm j).toArray⟩)
theorem NamesAt.bel {A B : World} (h : NamesAt A) (hb : Bel A B) : NamesAt B := fun j hj => (hb.cell _ _ (cell_lt (h 0 (by decide)))).trans (h j hj)
theorem strs_of_own {W : World} {base : Nat} {v : Value} {s : Int} (h : W.ownsRow base 9 1 v (evs s 5).length ((evs s 5).map nmV)) (hn : v = .slice none 0 0 ↔ evs s 5 = []) : Strs W v (namesL s) := by
  rcases h.2 with ⟨rfl, h0⟩ | ⟨g, cap, cur, rfl, _, hg, _, _, hsz, htk⟩
  · exact .inl ⟨rfl, by simp [namesL, hn.1 rfl]⟩
  · refine .inr ⟨g, 0, cap, by simp [namesL], fun j hj => ?_⟩
    have hj' : j < (evs s 5).length := by simpa [namesL] using hj
    have : cur.toList[j]? = some (nmV ((evs s 5)[j])) := by
      have h2 : (cur.toList.take ((evs s 5).length * 1))[j]? = some (nmV ((evs s 5)[j])) := by rw [htk]; simp [hj']
      rw [List.getElem?_take] at h2
      simpa [hj'] using h2
    have hc : cur[j]? = some (nmV ((evs s 5)[j])) := by simpa using this
    simp [World.cell?, hg, hc, namesL, hj']
theorem Names_c (s : Int) (w : World) (hN : NamesAt w) :
    Calls Tryd.prog 13 #[.int .u8 s] w fun e w' => ∃ v, e = .returned v ∧ Strs w' v (namesL s) ∧ Bel w w' := by
  have := (callsIn_wide (n := 3)).1 (Names_in Fence.wide 3 trivial trivial trivial rfl (by omega) s w hN (by have := cell_lt (hN 0 (by decide)); omega))
  exact this.mono fun e w' ⟨v, he, ho, hn, hb⟩ => ⟨v, he, strs_of_own ho hn, hb⟩
theorem refNames_c (s : Int) (w : World) (h0 : 0 ≤ s) (h1 : s ≤ 255) :
    Calls Tryd.prog 14 #[.int .u8 s] w fun e w' => ∃ v, e = .returned v ∧ Strs w' v (namesL s) ∧ Bel w w' :=
  (refNames_any s w h0 h1).mono fun e w' ⟨v, he, ho, hn, hb⟩ => ⟨v, he, strs_of_own ho hn, hb⟩
theorem Strs.len {W : World} {v : Value} {l : List (List UInt8)} (h : Strs W v l) : ∃ a c, v = .slice a l.length c := by
  rcases h with ⟨rfl, rfl⟩ | ⟨b, off, cap, rfl, _⟩
  · exact ⟨_, _, rfl⟩
  · exact ⟨_, _, rfl⟩
end Go.Proofs.YtmjbefamiohbbaaDoor
