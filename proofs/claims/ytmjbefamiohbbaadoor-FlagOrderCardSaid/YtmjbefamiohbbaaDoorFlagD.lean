/- the statements of layer 12, walked. -/
import Derived.Test.YtmjbefamiohbbaaDoorFlagC
namespace Go.Proofs.YtmjbefamiohbbaaDoor
set_option linter.unusedVariables false
open Go.RowKit Go.Shelf FlagM

theorem Join_lit (v : Value) (l : List Int) (n : Int) (w : World) (h : U8s w v l) (hn : (J (l.map Int.toNat) : Int) = n) :
    Calls Tryd.prog 8 #[v] w fun e w' => e = .returned (.int .u8 n) ∧ Bel w w' := by
  rw [← hn]; exact Join_c v l w h
theorem U8s_nil (w : World) (a : Option Addr) (c : Nat) : U8s w (.slice a 0 c) [] := ⟨by simp, by simp, .inl ⟨_, _, rfl, rfl⟩⟩
theorem cell_one {w : World} {x : Value} {t : TypeId} : (w.alloc (.cells #[x] t)).cell? ⟨w.heap.size, 0, none⟩ = some x := by
  unfold World.cell?; simp only [World.alloc_heap_new]; rfl
theorem cell_two {w : World} {x y : Value} {t : TypeId} : (w.alloc (.cells #[x, y] t)).cell? ⟨w.heap.size, 0, none⟩ = some x ∧ (w.alloc (.cells #[x, y] t)).cell? ⟨w.heap.size, 1, none⟩ = some y := by
  unfold World.cell?; simp only [World.alloc_heap_new]; exact ⟨rfl, rfl⟩
theorem lt_one {P : Nat → Prop} (h : P 0) : ∀ j, j < 1 → P j := fun j hj => by
  have : j = 0 := by omega
  rw [this]; exact h
theorem lt_two {P : Nat → Prop} (h : P 0) (k : P 1) : ∀ j, j < 2 → P j := fun j hj => by
  have : j = 0 ∨ j = 1 := by omega
  rcases this with rfl | rfl
  · exact h
  · exact k
theorem U8s_one (w : World) (x : Int) (c : Nat) (h0 : 0 ≤ x) (h1 : x ≤ 255) : U8s (w.alloc (.cells #[.int .u8 x] 23)) (.slice (some ⟨w.heap.size, 0, none⟩) 1 c) [x] :=
  ⟨lt_one ⟨h0, h1⟩, by simp, .inr ⟨_, 0, c, rfl, by simp, lt_one cell_one⟩⟩
theorem U8s_two (w : World) (x y : Int) (c : Nat) (h0 : 0 ≤ x) (h1 : x ≤ 255) (h2 : 0 ≤ y) (h3 : y ≤ 255) : U8s (w.alloc (.cells #[.int .u8 x, .int .u8 y] 23)) (.slice (some ⟨w.heap.size, 0, none⟩) 2 c) [x, y] :=
  ⟨lt_two ⟨h0, h1⟩ ⟨h2, h3⟩, by simp, .inr ⟨_, 0, c, rfl, by simp, lt_two cell_two.1 cell_two.2⟩⟩
theorem Has_lit (s p : Int) (b : Bool) (w : World) (h0 : 0 ≤ s) (h1 : s ≤ 255) (h2 : 0 ≤ p) (h3 : p ≤ 255) (hb : sub s.toNat p.toNat = b) :
    Calls Tryd.prog 10 #[.int .u8 s, .int .u8 p] w fun e w' => e = .returned (.bool b) ∧ w = w' := by
  rw [← hb]; exact Has_c s p w h0 h1 h2 h3
theorem Good_lit (s : Int) (b : Bool) (w : World) (h0 : 0 ≤ s) (h1 : s ≤ 255) (hb : decide (s < 32) = b) :
    Calls Tryd.prog 15 #[.int .u8 s] w fun e w' => e = .returned (.bool b) ∧ w = w' := by
  rw [← hb]; exact Good_c s w h0 h1
/-- a literal of one text, of two -/
theorem Strs_one (w : World) (x : List UInt8) (c : Nat) : Strs (w.alloc (.cells #[.string ⟨x.toArray⟩] 9)) (.slice (some ⟨w.heap.size, 0, none⟩) 1 c) [x] :=
  .inr ⟨_, 0, c, rfl, lt_one cell_one⟩
theorem Strs_two (w : World) (x y : List UInt8) (c : Nat) : Strs (w.alloc (.cells #[.string ⟨x.toArray⟩, .string ⟨y.toArray⟩] 9)) (.slice (some ⟨w.heap.size, 0, none⟩) 2 c) [x, y] :=
  .inr ⟨_, 0, c, rfl, lt_two cell_two.1 cell_two.2⟩
theorem Strs.bel {A B : World} {v : Value} {l : List (List UInt8)} (h : Strs A v l) (hb : Bel A B) : Strs B v l :=
  h.imp id fun ⟨b, off, cap, h1, h2⟩ => ⟨b, off, cap, h1, fun j hj => (hb.cell b (off + j) (cell_lt (h2 j hj))).trans (h2 j hj)⟩
theorem texts_lit (va vb : Value) (la lb : List (List UInt8)) (b : Bool) (w : World) (ha : Strs w va la) (hb : Strs w vb lb) (hm : la.length ≤ 140737488351232) (h : decide (la = lb) = b) :
    Calls Tryd.prog 12 #[va, vb] w fun e w' => e = .returned (.bool b) ∧ Bel w w' := by
  rw [← h]
  exact (texts_any va vb la lb w ha hb hm).mono fun e w' ⟨he, n, hw⟩ => ⟨he, by rw [hw]; exact (Bel.refl w).drewN n⟩
theorem names20 : namesL 20 = [nm 2, nm 4] := by decide +kernel

set_option maxRecDepth 100000 in
set_option maxHeartbeats 1000000 in
theorem goes_c (w : World) (hN : NamesAt w) : Calls Tryd.prog 16 #[] w fun e w' => e = .returned (.bool true) ∧ Bel w w' := by
  have HN := Lib.hid hN; clear hN
  go_enter Tryd.func16, Tryd.ntmps16
  go_wp2_with fail
  refine (Join_lit _ [1, 16] 17 _ (U8s_two _ _ _ _ (by omega) (by omega) (by omega) (by omega)) (by decide)).mono ?_
  rintro e w1 ⟨rfl, hb1⟩
  go_wp2_with fail
  refine (Join_lit _ [] 0 _ (U8s_nil _ _ _) (by decide)).mono ?_
  rintro e w2 ⟨rfl, hb2⟩
  go_wp2_with fail
  refine (Has_lit _ _ true _ (by omega) (by omega) (by omega) (by omega) (by decide)).mono ?_
  rintro e w' ⟨rfl, rfl⟩
  go_wp2_with fail
  refine (Has_lit _ _ false _ (by omega) (by omega) (by omega) (by omega) (by decide)).mono ?_
  rintro e w' ⟨rfl, rfl⟩
  go_wp2_with fail
  have hB2 : Bel w w2 := (((Bel.refl w).alloc _).trans hb1).trans hb2
  refine (Names_c _ _ (HN.out.bel hB2)).mono ?_
  rintro e w3 ⟨v3, rfl, hs3, hb3⟩
  have HS := Lib.hid hs3; clear hs3
  go_wp2_with fail
  refine (texts_lit _ _ _ _ true _ (HS.out.bel ((Bel.refl _).alloc _)) (Strs_two _ (nm 2) (nm 4) _) (by rw [names20]; decide) (by rw [names20]; decide)).mono ?_
  rintro e w4 ⟨rfl, hb4⟩
  go_wp2_with fail
  refine (Good_lit _ false _ (by omega) (by omega) (by decide)).mono ?_
  rintro e w' ⟨rfl, rfl⟩
  go_wp2_with fail
  refine (Good_lit _ true _ (by omega) (by omega) (by decide)).mono ?_
  rintro e w' ⟨rfl, rfl⟩
  go_wp2_with fail
  refine (Join_lit _ [32] 0 _ (U8s_one _ _ _ (by omega) (by omega)) (by decide)).mono ?_
  rintro e w5 ⟨rfl, hb5⟩
  go_wp2
  go_ret
  exact ⟨rfl, (((hB2.trans hb3).alloc _).trans hb4 |>.alloc _).trans hb5⟩

theorem sub_anti {a b : Int} (h0 : 0 ≤ a) (h1 : a ≤ 255) (h2 : 0 ≤ b) (h3 : b ≤ 255) : (sub a.toNat b.toNat && sub b.toNat a.toNat) = (a == b) := by
  rw [sub_antisymm (by omega) (by omega), Bool.eq_iff_iff, beq_iff_eq, beq_iff_eq]; omega
set_option maxRecDepth 100000 in
set_option maxHeartbeats 1000000 in
theorem order_c (a b c : Int) (w : World) (hN : NamesAt w) (h0 : 0 ≤ a) (h1 : a ≤ 255) (h2 : 0 ≤ b) (h3 : b ≤ 255) (h4 : 0 ≤ c) (h5 : c ≤ 255) :
    Calls Tryd.prog 6 #[.int .u8 a, .int .u8 b, .int .u8 c] w fun e w' => e = .returned (.bool true) ∧ Bel w w' := by
  have HN := Lib.hid hN; clear hN
  have haa := sub_refl (s := a.toNat) (by omega)
  have ha0 : sub a.toNat (0 : Int).toNat = true := sub_zero _
  have hanti := Lib.hid (sub_anti h0 h1 h2 h3)
  have htr := Lib.hid (sub_trans (a := a.toNat) (b := b.toNat) (c := c.toNat) (by omega) (by omega) (by omega))
  cases hx : sub a.toNat b.toNat with
  | false =>
    go_enter Tryd.func6, Tryd.ntmps6
    go_wp2_with (first | (go_at_call 10; refine (Has_c _ _ _ (by omega) (by omega) (by omega) (by omega)).mono ?_; rintro e w' ⟨rfl, rfl⟩) | (go_at_call 16; refine (goes_c _ HN.out).mono ?_; rintro e w' ⟨rfl, hb⟩))
    go_ret
    exact ⟨rfl, hb⟩
  | true =>
    cases hy : sub b.toNat a.toNat with
    | false =>
      have hab : (a == b) = false := by rw [← hanti.out, hx, hy]; rfl
      cases hbc : sub b.toNat c.toNat with
      | false =>
        go_enter Tryd.func6, Tryd.ntmps6
        go_wp2_with (first | (go_at_call 10; refine (Has_c _ _ _ (by omega) (by omega) (by omega) (by omega)).mono ?_; rintro e w' ⟨rfl, rfl⟩) | (go_at_call 16; refine (goes_c _ HN.out).mono ?_; rintro e w' ⟨rfl, hb⟩))
        go_ret
        exact ⟨rfl, hb⟩
      | true =>
        have hac := htr.out hx hbc
        go_enter Tryd.func6, Tryd.ntmps6
        go_wp2_with (first | (go_at_call 10; refine (Has_c _ _ _ (by omega) (by omega) (by omega) (by omega)).mono ?_; rintro e w' ⟨rfl, rfl⟩) | (go_at_call 16; refine (goes_c _ HN.out).mono ?_; rintro e w' ⟨rfl, hb⟩))
        go_ret
        exact ⟨rfl, hb⟩
    | true =>
      have hab : (a == b) = true := by rw [← hanti.out, hx, hy]; rfl
      obtain rfl : a = b := beq_iff_eq.1 hab
      cases hbc : sub a.toNat c.toNat with
      | false =>
        go_enter Tryd.func6, Tryd.ntmps6
        go_wp2_with (first | (go_at_call 10; refine (Has_c _ _ _ (by omega) (by omega) (by omega) (by omega)).mono ?_; rintro e w' ⟨rfl, rfl⟩) | (go_at_call 16; refine (goes_c _ HN.out).mono ?_; rintro e w' ⟨rfl, hb⟩))
        go_ret
        exact ⟨rfl, hb⟩
      | true =>
        go_enter Tryd.func6, Tryd.ntmps6
        go_wp2_with (first | (go_at_call 10; refine (Has_c _ _ _ (by omega) (by omega) (by omega) (by omega)).mono ?_; rintro e w' ⟨rfl, rfl⟩) | (go_at_call 16; refine (goes_c _ HN.out).mono ?_; rintro e w' ⟨rfl, hb⟩))
        go_ret
        exact ⟨rfl, hb⟩

theorem names_inj : ∀ x y : Fin 32, decide (namesL (x.1 : Int) = namesL (y.1 : Int)) = ((x.1 : Int) == (y.1 : Int)) := by decide +kernel
theorem names_mod : ∀ x : Fin 256, namesL (x.1 : Int) = namesL ((x.1 % 32 : Nat) : Int) := by decide +kernel
theorem cnt_names : ∀ x : Fin 32, (((((0 : Int) + if sub (x.1 : Int).toNat (2 ^ 0) then 1 else 0) + if sub (x.1 : Int).toNat (2 ^ 1) then 1 else 0) + if sub (x.1 : Int).toNat (2 ^ 2) then 1 else 0) + if sub (x.1 : Int).toNat (2 ^ 3) then 1 else 0) + (if sub (x.1 : Int).toNat (2 ^ 4) then 1 else 0) = ((namesL (x.1 : Int)).length : Int) := by decide +kernel
theorem Names_lit (s : Int) (n : Nat) (w : World) (hN : NamesAt w) (hn : (namesL s).length = n) :
    Calls Tryd.prog 13 #[.int .u8 s] w fun e w' => ∃ a c, e = .returned (.slice a n c) ∧ Bel w w' :=
  (Names_c s w hN).mono fun e w' ⟨v, he, hs, hb⟩ => by
    obtain ⟨a, c, rfl⟩ := hs.len
    exact ⟨a, c, by rw [he, hn], hb⟩
theorem texts_b (va vb : Value) (la lb : List (List UInt8)) (w : World) (ha : Strs w va la) (hb : Strs w vb lb) (hm : la.length ≤ 140737488351232) :
    Calls Tryd.prog 12 #[va, vb] w fun e w' => e = .returned (.bool (decide (la = lb))) ∧ Bel w w' := texts_lit va vb la lb _ w ha hb hm rfl
theorem namesL_len (s : Int) : (namesL s).length ≤ 140737488351232 := by
  have := evs_len s 5
  simp [namesL]; omega
set_option maxRecDepth 100000 in
set_option maxHeartbeats 1000000 in
theorem known_c (w : World) (hN : NamesAt w) : Calls Tryd.prog 7 #[] w fun e w' => e = .returned (.bool true) ∧ Bel w w' := by
  have HN := Lib.hid hN; clear hN
  go_enter Tryd.func7, Tryd.ntmps7
  go_wp2_with fail
  refine (Names_c _ _ HN.out).mono ?_
  rintro e w1 ⟨v1, rfl, hs1, hb1⟩
  have S1 := Lib.hid hs1; clear hs1
  go_wp2_with fail
  refine (texts_lit _ _ _ _ true _ (S1.out.bel ((Bel.refl _).alloc _)) (Strs_one _ (nm 0) _) (namesL_len _) (by decide +kernel)).mono ?_
  rintro e w2 ⟨rfl, hb2⟩
  have hB2 : Bel w w2 := (hb1.alloc _).trans hb2
  go_wp2_with fail
  refine (Names_c _ _ (HN.out.bel hB2)).mono ?_
  rintro e w3 ⟨v3, rfl, hs3, hb3⟩
  have S3 := Lib.hid hs3; clear hs3
  go_wp2_with fail
  refine (texts_lit _ _ _ _ true _ (S3.out.bel ((Bel.refl _).alloc _)) (Strs_one _ (nm 1) _) (namesL_len _) (by decide +kernel)).mono ?_
  rintro e w4 ⟨rfl, hb4⟩
  have hB4 : Bel w w4 := ((hB2.trans hb3).alloc _).trans hb4
  go_wp2_with fail
  refine (Names_c _ _ (HN.out.bel hB4)).mono ?_
  rintro e w5 ⟨v5, rfl, hs5, hb5⟩
  have S5 := Lib.hid hs5; clear hs5
  go_wp2_with fail
  refine (texts_lit _ _ _ _ true _ (S5.out.bel ((Bel.refl _).alloc _)) (Strs_one _ (nm 3) _) (namesL_len _) (by decide +kernel)).mono ?_
  rintro e w6 ⟨rfl, hb6⟩
  have hB6 : Bel w w6 := ((hB4.trans hb5).alloc _).trans hb6
  go_wp2_with fail
  refine (Names_lit _ 0 _ (HN.out.bel hB6) (by decide +kernel)).mono ?_
  rintro e w7 ⟨a7, c7, rfl, hb7⟩
  have hB7 := hB6.trans hb7
  go_wp2_with fail
  refine (Names_lit _ 0 _ (HN.out.bel hB7) (by decide +kernel)).mono ?_
  rintro e w8 ⟨a8, c8, rfl, hb8⟩
  have hB8 := hB7.trans hb8
  go_wp2_with fail
  refine (Names_lit _ 5 _ (HN.out.bel hB8) (by decide +kernel)).mono ?_
  rintro e w9 ⟨a9, c9, rfl, hb9⟩
  have hB9 := hB8.trans hb9
  go_wp2_with fail
  refine (Join_lit _ [255, 1] 31 _ (U8s_two _ _ _ _ (by omega) (by omega) (by omega) (by omega)) (by decide)).mono ?_
  rintro e w10 ⟨rfl, hb10⟩
  have hB10 : Bel w w10 := (hB9.alloc _).trans hb10
  go_wp2_with fail
  refine (Has_lit _ _ true _ (by omega) (by omega) (by omega) (by omega) (by decide)).mono ?_
  rintro e w' ⟨rfl, rfl⟩
  go_wp2_with fail
  refine (Has_lit _ _ false _ (by omega) (by omega) (by omega) (by omega) (by decide)).mono ?_
  rintro e w' ⟨rfl, rfl⟩
  go_wp2_with fail
  refine (Good_lit _ true _ (by omega) (by omega) (by decide)).mono ?_
  rintro e w' ⟨rfl, rfl⟩
  go_wp2_with fail
  refine (goes_c _ (HN.out.bel hB10)).mono ?_
  rintro e w11 ⟨rfl, hb11⟩
  go_wp2
  go_ret
  exact ⟨rfl, hB10.trans hb11⟩

/-! FlagNames -/
theorem namesL_anti {x y : Int} (h0 : 0 ≤ x) (h1 : x < 32) (h2 : 0 ≤ y) (h3 : y < 32) : decide (namesL x = namesL y) = (x == y) := by
  have := names_inj ⟨x.toNat, by omega⟩ ⟨y.toNat, by omega⟩
  simp only [Int.toNat_of_nonneg h0, Int.toNat_of_nonneg h2] at this
  exact this
theorem namesL_mod {x : Int} (h0 : 0 ≤ x) (h1 : x ≤ 255) : namesL x = namesL (J ([x].map Int.toNat) : Int) := by
  have := names_mod ⟨x.toNat, by omega⟩
  simp only [Int.toNat_of_nonneg h0] at this
  rw [this]
  simp [J_one]
/-- how many of the first k flags -/
def cnt (x : Int) : Nat → Int
  | 0 => 0
  | k + 1 => cnt x k + if sub x.toNat (2 ^ k) then 1 else 0
theorem cnt_le (x : Int) : ∀ k, 0 ≤ cnt x k ∧ cnt x k ≤ k
  | 0 => by simp [cnt]
  | k + 1 => by
    have := cnt_le x k
    simp only [cnt]; split <;> omega
theorem cnt_len {x : Int} (h0 : 0 ≤ x) (h1 : x < 32) : cnt x 5 = ((namesL x).length : Int) := by
  have := cnt_names ⟨x.toNat, by omega⟩
  simp only [Int.toNat_of_nonneg h0] at this
  exact this
theorem J_one_bd (x : Int) : 0 ≤ (J ([x].map Int.toNat) : Int) ∧ (J ([x].map Int.toNat) : Int) < 32 := by
  have := J_lt ([x].map Int.toNat); omega
set_option maxRecDepth 100000 in
set_option maxHeartbeats 1000000 in
theorem names_c (a b : Int) (w : World) (hN : NamesAt w) (h0 : 0 ≤ a) (h1 : a ≤ 255) (h2 : 0 ≤ b) (h3 : b ≤ 255) :
    Calls Tryd.prog 5 #[.int .u8 a, .int .u8 b] w fun e w' => e = .returned (.bool true) ∧ Bel w w' := by
  have HN := Lib.hid hN; clear hN
  have HA := Lib.hid (namesL_mod h0 h1)
  obtain ⟨hx0, hx1⟩ := J_one_bd a
  obtain ⟨hy0, hy1⟩ := J_one_bd b
  obtain ⟨x, hx⟩ : ∃ x, (J ([a].map Int.toNat) : Int) = x := ⟨_, rfl⟩
  obtain ⟨y, hy⟩ : ∃ y, (J ([b].map Int.toNat) : Int) = y := ⟨_, rfl⟩
  rw [hx] at hx0 hx1
  rw [hy] at hy0 hy1
  have HX := Lib.hid hx; clear hx
  have HY := Lib.hid hy; clear hy
  go_enter Tryd.func5, Tryd.ntmps5
  go_wp2_with fail
  refine (Join_lit _ [a] x _ (U8s_one _ _ _ h0 h1) HX.out).mono ?_
  rintro e w1 ⟨rfl, hb1⟩
  have hB1 : Bel w w1 := ((Bel.refl w).alloc _).trans hb1
  go_wp2_with fail
  refine (Join_lit _ [b] y _ (U8s_one _ _ _ h2 h3) HY.out).mono ?_
  rintro e w2 ⟨rfl, hb2⟩
  have hB2 : Bel w w2 := (hB1.alloc _).trans hb2
  go_wp2_with fail
  go_loop [7, 8] (fun c i => ∃ k : Nat, k ≤ 5 ∧ i = .int .i64 k ∧ c = .int .i64 (cnt x k)) (fun _ i => 5 - (intOf i).toNat)
  case atStart => exact ⟨0, by omega, rfl, rfl⟩
  case round =>
    obtain ⟨k, hk, rfl, rfl⟩ := hrel
    by_cases hlt : k < 5
    · have h5 : k = 0 ∨ k = 1 ∨ k = 2 ∨ k = 3 ∨ k = 4 := by omega
      obtain ⟨hc0, hc1⟩ := cnt_le x k
      have hbb : ∃ (b : Bool) (m : Nat), m ≤ 5 ∧ (m : Int) = (k : Int) + 1 ∧ sub x.toNat (2 ^ k) = b ∧ cnt x m = cnt x k + if b then 1 else 0 := ⟨_, k + 1, by omega, by simp, rfl, rfl⟩
      obtain ⟨bb, m, hm5, hm1, hsub, hcn⟩ := hbb
      have HM := Lib.hid hm1; clear hm1
      have HS := Lib.hid hsub; clear hsub
      have HC := Lib.hid hcn; clear hcn
      generalize cnt x k = n at *
      clear hlt
      rcases h5 with rfl | rfl | rfl | rfl | rfl <;> cases bb
      all_goals
        go_wp2_with (go_at_call 10; refine (Has_lit _ _ _ _ (by omega) (by omega) (by omega) (by omega) HS.out).mono ?_; rintro e w' ⟨rfl, rfl⟩)
        go_round
        case rel => exact ⟨m, hm5, congrArg (Value.int .i64) (by have := HM.out; omega), congrArg (Value.int .i64) (by rw [HC.out]; simp)⟩
        case measure => simp [intOf]
    · obtain rfl : k = 5 := by omega
      obtain ⟨N, hN1, hN2⟩ : ∃ N : Nat, (namesL x).length = N ∧ cnt x 5 = (N : Int) := ⟨_, rfl, cnt_len hx0 hx1⟩
      rw [hN2]
      have HN1 := Lib.hid hN1; clear hN1 hN2
      have hxy := Lib.hid (namesL_anti hx0 hx1 hy0 hy1)
      clear hlt
      go_wp2_with fail
      refine (Names_c _ _ (HN.out.bel hB2)).mono ?_
      rintro e w3 ⟨v3, rfl, hs3, hb3⟩
      have S3 := Lib.hid hs3; clear hs3
      have hB3 := hB2.trans hb3
      go_wp2_with fail
      refine (Names_c _ _ (HN.out.bel hB3)).mono ?_
      rintro e w4 ⟨v4, rfl, hs4, hb4⟩
      have S4 := Lib.hid hs4; clear hs4
      have hB4 := hB3.trans hb4
      go_wp2_with fail
      refine (texts_lit _ _ _ _ (x == y) _ (S3.out.bel hb4) S4.out (namesL_len _) hxy.out).mono ?_
      rintro e w5 ⟨rfl, hb5⟩
      have hB5 := hB4.trans hb5
      have hself : ((x == y) == (x == y)) = true := by simp
      go_wp2_with fail
      refine (Names_lit _ N _ (HN.out.bel hB5) HN1.out).mono ?_
      rintro e w6 ⟨a6, c6, rfl, hb6⟩
      have hB6 := hB5.trans hb6
      go_wp2_with fail
      refine (Names_c _ _ (HN.out.bel hB6)).mono ?_
      rintro e w7 ⟨v7, rfl, hs7, hb7⟩
      have S7 := Lib.hid hs7; clear hs7
      have hB7 := hB6.trans hb7
      go_wp2_with fail
      refine (Names_c _ _ (HN.out.bel hB7)).mono ?_
      rintro e w8 ⟨v8, rfl, hs8, hb8⟩
      have S8 := Lib.hid hs8; clear hs8
      have hB8 := hB7.trans hb8
      go_wp2_with fail
      refine (texts_lit _ _ _ _ true _ (S7.out.bel hb8) S8.out (namesL_len _) (by rw [HA.out, HX.out]; simp)).mono ?_
      rintro e w9 ⟨rfl, hb9⟩
      have hB9 := hB8.trans hb9
      go_wp2_with fail
      refine (goes_c _ (HN.out.bel hB9)).mono ?_
      rintro e w10 ⟨rfl, hb10⟩
      go_wp2
      go_ret
      exact ⟨rfl, hB9.trans hb10⟩
end Go.Proofs.YtmjbefamiohbbaaDoor
