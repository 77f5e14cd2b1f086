/- the reference of layer 12 and the statements' helper texts, walked. -/
import Derived.Test.YtmjbefamiohbbaaDoorBase
import Derived.Test.YtmjbefamiohbbaaDoorFlagA
namespace Go.Proofs.YtmjbefamiohbbaaDoor
set_option linter.unusedVariables false
open Go.RowKit Go.Shelf
attribute [local go_sem] Oper.semAt_some
def bitS (s i : Int) : Bool := s / 2 ^ i.toNat % 2 == 1
set_option maxHeartbeats 400000 in
theorem bit_any (s i : Int) (w : World) (hs0 : 0 ≤ s) (hs1 : s ≤ 255) (h0 : 0 ≤ i) (h1 : i < 8) :
    Calls Tryd.prog 18 #[.int .u8 s, .int .i64 i] w fun e w' => e = .returned (.bool (bitS s i)) ∧ w = w' := by
  have h : i = 0 ∨ i = 1 ∨ i = 2 ∨ i = 3 ∨ i = 4 ∨ i = 5 ∨ i = 6 ∨ i = 7 := by omega
  clear h0 h1
  rcases h with rfl | rfl | rfl | rfl | rfl | rfl | rfl | rfl
  all_goals
    go_enter Tryd.func18, Tryd.ntmps18
    go_wp2
    go_ret
    exact ⟨by simp [bitS], rfl⟩
def hasR (s p : Int) : Bool := (List.range 8).all (fun i => !bitS p i || bitS s i)
theorem hasR_all {s p : Int} (h : ∀ j : Nat, j < 8 → (bitS p j = true → bitS s j = true)) : hasR s p = true := by
  simp only [hasR, List.all_eq_true, List.mem_range]
  intro j hj
  have := h j hj
  cases hb : bitS p j <;> simp_all
theorem hasR_not {s p : Int} (k : Nat) (hk : k < 8) (hb : bitS p k = true) (hs : bitS s k = false) : hasR s p = false := by
  simp only [hasR, List.all_eq_false, List.mem_range]
  exact ⟨k, hk, by simp [hb, hs]⟩
set_option maxHeartbeats 400000 in
theorem refHas_any (s p : Int) (w : World) (hs0 : 0 ≤ s) (hs1 : s ≤ 255) (hp0 : 0 ≤ p) (hp1 : p ≤ 255) :
    Calls Tryd.prog 11 #[.int .u8 s, .int .u8 p] w fun e w' => e = .returned (.bool (hasR s p)) ∧ w = w' := by
  go_enter Tryd.func11, Tryd.ntmps11
  go_wp2
  go_loop [5] (fun i => ∃ k : Nat, k ≤ 8 ∧ i = .int .i64 k ∧ ∀ j : Nat, j < k → (bitS p j = true → bitS s j = true)) (fun i => 8 - (intOf i).toNat)
  case atStart => exact ⟨0, by omega, rfl, by omega⟩
  case round =>
    obtain ⟨k, hk, rfl, hall⟩ := hrel
    have HA := Lib.hid hall; clear hall
    by_cases hlt : k < 8
    · cases hb : bitS p k with
      | true =>
        cases hs : bitS s k with
        | true =>
          go_wp2_with (go_at_call 18; refine (bit_any _ _ _ (by omega) (by omega) (by omega) (by omega)).mono ?_; rintro e w' ⟨rfl, rfl⟩)
          go_round
          case rel => exact ⟨k + 1, by omega, by go_num, fun j hj hp => by
            by_cases hjk : j = k
            · rw [hjk]; exact hs
            · exact HA.out j (by omega) hp⟩
          case measure => simp [intOf]; omega
        | false =>
          have HR := Lib.hid (hasR_not k hlt hb hs)
          go_wp2_with (go_at_call 18; refine (bit_any _ _ _ (by omega) (by omega) (by omega) (by omega)).mono ?_; rintro e w' ⟨rfl, rfl⟩)
          go_ret
          exact ⟨ret_bool HR.out.symm, rfl⟩
      | false =>
        go_wp2_with (go_at_call 18; refine (bit_any _ _ _ (by omega) (by omega) (by omega) (by omega)).mono ?_; rintro e w' ⟨rfl, rfl⟩)
        go_round
        case rel => exact ⟨k + 1, by omega, by go_num, fun j hj hp => by
          by_cases hjk : j = k
          · rw [hjk, hb] at hp; cases hp
          · exact HA.out j (by omega) hp⟩
        case measure => simp [intOf]; omega
    · obtain rfl : k = 8 := by omega
      have HR := Lib.hid (hasR_all HA.out)
      go_wp2
      go_ret
      exact ⟨ret_bool HR.out.symm, rfl⟩
/-- has one of the sets the i-th flag? -/
def anyB (l : List Int) (i : Int) : Bool := l.any (fun s => bitS s i)
def joinR (l : List Int) : Nat → Int
  | 0 => 0
  | k + 1 => joinR l k + if anyB l k then 2 ^ k else 0
theorem joinR_le (l : List Int) : ∀ k, 0 ≤ joinR l k ∧ joinR l k < 2 ^ k
  | 0 => by simp [joinR]
  | k + 1 => by
    have := joinR_le l k
    simp only [joinR, Int.pow_succ]
    split <;> omega
theorem anyB_yes {l : List Int} {i : Int} (j : Nat) (hj : j < l.length) (h : bitS (l[j]?.getD 0) i = true) : anyB l i = true := by
  simp only [anyB, List.any_eq_true]
  exact ⟨l[j], List.getElem_mem hj, by simpa [hj] using h⟩
theorem anyB_no {l : List Int} {i : Int} (h : ∀ j, j < l.length → bitS (l[j]?.getD 0) i = false) : anyB l i = false := by
  simp only [anyB, List.any_eq_false]
  intro x hx
  obtain ⟨j, hj, rfl⟩ := List.mem_iff_getElem.1 hx
  have := h j hj
  simpa [hj] using this
theorem joinR_yes {l : List Int} {k : Nat} (h : anyB l k = true) : joinR l (k + 1) = joinR l k + 2 ^ k := by simp [joinR, h]
theorem joinR_no {l : List Int} {k : Nat} (h : anyB l k = false) : joinR l (k + 1) = joinR l k := by simp [joinR, h]
theorem pow_small {k : Nat} (h : k < 5) : 1 ≤ (2 : Int) ^ k ∧ (2 : Int) ^ k ≤ 16 := by
  have : k = 0 ∨ k = 1 ∨ k = 2 ∨ k = 3 ∨ k = 4 := by omega
  rcases this with rfl | rfl | rfl | rfl | rfl <;> simp
set_option maxRecDepth 100000 in
set_option maxHeartbeats 1000000 in
theorem refJoin_any (b off cap : Nat) (zs : List Int) (hz : ∀ j, j < zs.length → 0 ≤ zs[j]?.getD 0 ∧ zs[j]?.getD 0 ≤ 255) (hreach : zs.length ≤ 140737488351232) (w : World)
    (hc : ∀ j, j < zs.length → w.cell? ⟨b, off + j, none⟩ = some (.int .u8 (zs[j]?.getD 0))) :
    Calls Tryd.prog 9 #[.slice (some ⟨b, off, none⟩) zs.length cap] w fun e w' => e = .returned (.int .u8 (joinR zs 5)) ∧ w = w' := by
  go_enter Tryd.func9, Tryd.ntmps9
  go_wp2
  go_loop [3, 4] (fun o i => ∃ k : Nat, k ≤ 5 ∧ i = .int .i64 k ∧ o = .int .i64 (joinR zs k)) (fun _ i => 5 - (intOf i).toNat)
  case atStart => exact ⟨0, by omega, rfl, rfl⟩
  case round =>
    obtain ⟨k, hk, rfl, rfl⟩ := hrel
    have HC := Lib.hid hc; clear hc
    have HZ := Lib.hid hz; clear hz
    by_cases hlt : k < 5
    · go_wp2_with fail
      go_loop [3, 5] (fun o j => ∃ m : Nat, m ≤ zs.length ∧ j = .int .i64 m ∧ o = .int .i64 (joinR zs k) ∧ ∀ i, i < m → bitS (zs[i]?.getD 0) k = false) (fun _ j => zs.length - (intOf j).toNat)
      case atStart => exact ⟨0, by omega, rfl, rfl, by omega⟩
      case round =>
        obtain ⟨m, hm, rfl, rfl, hall⟩ := hrel
        have HA := Lib.hid hall; clear hall
        by_cases hml : m < zs.length
        · have hcx := HC.out m hml
          have hzx := HZ.out m hml
          have hb0 : ∃ x, zs[m]?.getD 0 = x := ⟨_, rfl⟩
          obtain ⟨x, hx⟩ := hb0
          rw [hx] at hcx hzx
          obtain ⟨hz0, hz1⟩ := hzx
          have HX := Lib.hid hx; clear hx
          cases hb : bitS x k with
          | true =>
            have HY := Lib.hid (joinR_yes (anyB_yes m hml (by rw [HX.out]; exact hb)))
            have hp := pow_small hlt
            have hj := joinR_le zs k
            obtain ⟨hp1, hp2⟩ := hp
            obtain ⟨hj1, hj2⟩ := hj
            go_wp2_with (go_at_call 18; refine (bit_any _ _ _ (by omega) (by omega) (by omega) (by omega)).mono ?_; rintro e w' ⟨rfl, rfl⟩)
            go_round
            case rel => exact ⟨k + 1, by omega, by go_num, by rw [HY.out]⟩
            case measure => simp [intOf]; omega
          | false =>
            go_wp2_with (go_at_call 18; refine (bit_any _ _ _ (by omega) (by omega) (by omega) (by omega)).mono ?_; rintro e w' ⟨rfl, rfl⟩)
            go_round
            case rel => exact ⟨m + 1, by omega, by go_num, rfl, fun i hi => by
              by_cases him : i = m
              · rw [him, HX.out]; exact hb
              · exact HA.out i (by omega)⟩
            case measure => simp [intOf]; omega
        · obtain rfl : m = zs.length := by omega
          have HY := Lib.hid (joinR_no (anyB_no HA.out))
          go_wp2
          go_round
          case rel => exact ⟨k + 1, by omega, by go_num, by rw [HY.out]⟩
          case measure => simp [intOf]; omega
    · obtain rfl : k = 5 := by omega
      have hj := joinR_le zs 5
      obtain ⟨hj1, hj2⟩ := hj
      have hj3 : joinR zs 5 < 32 := hj2
      clear hj2
      go_wp2
      go_ret
      exact ⟨rfl, rfl⟩
theorem fb_bitS : ∀ (s : Fin 256) (k : Fin 5), fb (s.1 : Int) k.1 = bitS (s.1 : Int) (k.1 : Int) := by decide +kernel
theorem fb_eq {s : Int} (h0 : 0 ≤ s) (h1 : s ≤ 255) {k : Nat} (hk : k < 5) : fb s k = bitS s k := by
  have := fb_bitS ⟨s.toNat, by omega⟩ ⟨k, hk⟩
  simpa [Int.toNat_of_nonneg h0] using this
abbrev allCells : Obj := .cells #[.string ⟨(nm 0).toArray⟩, .string ⟨(nm 1).toArray⟩, .string ⟨(nm 2).toArray⟩, .string ⟨(nm 3).toArray⟩, .string ⟨(nm 4).toArray⟩] 9
set_option maxRecDepth 100000 in
set_option maxHeartbeats 1000000 in
theorem refNames_any (s : Int) (w : World) (hs0 : 0 ≤ s) (hs9 : s ≤ 255) :
    Calls Tryd.prog 14 #[.int .u8 s] w fun e W' => ∃ v, e = .returned v ∧ W'.ownsRow w.heap.size 9 1 v (evs s 5).length ((evs s 5).map nmV) ∧ (v = .slice none 0 0 ↔ evs s 5 = []) ∧ Below w.heap.size w W' := by
  obtain ⟨i0, hi, hz0, hz1, hz2⟩ := info_parts info9
  go_enter Tryd.func14, Tryd.ntmps14
  go_wp2
  obtain ⟨W1, hW1⟩ : ∃ W1, w.alloc allCells = W1 := ⟨_, rfl⟩
  have hall : ∀ j : Nat, j < 5 → W1.cell? ⟨w.heap.size, j, none⟩ = some (.string ⟨(nm j).toArray⟩) := fun j hj => by
    rw [← hW1]
    have : j = 0 ∨ j = 1 ∨ j = 2 ∨ j = 3 ∨ j = 4 := by omega
    rcases this with rfl | rfl | rfl | rfl | rfl <;> (unfold World.cell?; simp only [World.alloc_heap_new]; rfl)
  have hs1 : W1.heap.size = w.heap.size + 1 := by rw [← hW1]; simp
  have hB1 : Below w.heap.size w W1 := by rw [← hW1]; exact (Below.refl _ w).alloc (Nat.le_refl _) _
  change Code.wp _ _ _ _ (w.alloc allCells)
  rw [hW1]
  clear hW1
  go_loopw [4, 5] (fun v i wr => ∃ k : Nat, k ≤ 5 ∧ i = .int .i64 k ∧ wr.ownsRow W1.heap.size 9 1 v (evs s k).length ((evs s k).map nmV) ∧ (v = .slice none 0 0 ↔ evs s k = []) ∧ Below W1.heap.size W1 wr)
    (fun _ i _ => 5 - (intOf i).toNat)
  case atStart => exact ⟨0, by omega, rfl, World.ownsRow_nil _ _ _ _, by simp [evs], Below.refl _ _⟩
  case round =>
    obtain ⟨k, hk, rfl, hown, hnil, hB⟩ := hrel
    by_cases hlt : k < 5
    · have hcx : wr.cell? ⟨w.heap.size, k, none⟩ = some (.string ⟨(nm k).toArray⟩) := (hB.cell (p := ⟨w.heap.size, k, none⟩) (by simp [hs1])).trans (hall k hlt)
      have hfb := fb_eq hs0 hs9 hlt
      cases hb : bitS s k with
      | true =>
        have HY := Lib.hid (evs_succ_pos hlt (hfb.trans hb))
        have hlen := evs_len s k
        have hz := hB.size
        clear hfb
        go_wp2_with (first | (go_at_call 18; refine (bit_any _ _ _ (by omega) (by omega) (by omega) (by omega)).mono ?_; rintro e w' ⟨rfl, rfl⟩) | (at_builtin; refine wpList_append_own _ rfl _ _ 28 rfl W1.heap.size 9 i0 (.string ⟨#[]⟩) 1 16 Tryd.underlying28 hi hz0 hz1 hz2 rfl (by decide) _ _ _ rfl (hown.alloc _) ⟨wr.heap.size, 0, none⟩ 1 1 [.string ⟨(nm k).toArray⟩] rfl rfl (cell_one_new _ _ _) (by simp [Value.oneCell']) (by unfold maxLen; omega) (by omega) (by simp; omega) ?_; intro v' w1 hown1 hgrow _))
        obtain ⟨g', cap', rfl⟩ := ownsRow_succ hown1
        refine ⟨⟨k + 1, by omega, by go_num, by rw [HY.out]; simpa using hown1, by rw [HY.out]; simp, hB.trans (((Below.refl _ wr).alloc hz _).grown hgrow (by simp; omega) (ownsRow_own hown))⟩, by simp [intOf]; omega⟩
      | false =>
        have HY := Lib.hid (evs_succ_neg (hfb.trans hb))
        clear hfb
        go_wp2_with (go_at_call 18; refine (bit_any _ _ _ (by omega) (by omega) (by omega) (by omega)).mono ?_; rintro e w' ⟨rfl, rfl⟩)
        go_roundw
        case rel => exact ⟨k + 1, by omega, by go_num, by rw [HY.out]; exact hown, by rw [HY.out]; exact hnil, hB⟩
        case measure => simp [intOf]; omega
    · obtain rfl : k = 5 := by omega
      go_wp2
      go_ret
      exact ⟨_, rfl, ownsRow_base hown (by omega), hnil, hB1.trans (hB.mono (by omega))⟩
set_option maxRecDepth 100000 in
set_option maxHeartbeats 1000000 in
theorem texts_ne (a b : Option Addr) (n m c d : Nat) (w : World) (h : n ≠ m) :
    Calls Tryd.prog 12 #[.slice a n c, .slice b m d] w fun e w' => e = .returned (.bool false) ∧ w = w' := by
  have h' : ((n : Int) != (m : Int)) = true := by simp; omega
  clear h
  go_enter Tryd.func12, Tryd.ntmps12
  go_wp2
  go_ret
  exact ⟨rfl, rfl⟩
set_option maxRecDepth 100000 in
set_option maxHeartbeats 1000000 in
theorem texts_nil (a b : Option Addr) (c d : Nat) (w : World) :
    Calls Tryd.prog 12 #[.slice a 0 c, .slice b 0 d] w fun e w' => e = .returned (.bool true) ∧ w = w' := by
  go_enter Tryd.func12, Tryd.ntmps12
  go_wp2
  go_loop [5] (fun i => i = .int .i64 0) (fun _ => 0)
  case atStart => rfl
  case round =>
    subst hrel
    go_wp2
    go_ret
    exact ⟨rfl, rfl⟩
set_option maxRecDepth 100000 in
set_option maxHeartbeats 1000000 in
theorem texts_eq (b1 o1 b2 o2 c d : Nat) (l1 l2 : List (List UInt8)) (hl : l1.length = l2.length) (w : World) (hm : l1.length ≤ 140737488351232)
    (h1 : ∀ j, j < l1.length → w.cell? ⟨b1, o1 + j, none⟩ = some (.string ⟨(l1[j]?.getD []).toArray⟩))
    (h2 : ∀ j, j < l2.length → w.cell? ⟨b2, o2 + j, none⟩ = some (.string ⟨(l2[j]?.getD []).toArray⟩)) :
    Calls Tryd.prog 12 #[.slice (some ⟨b1, o1, none⟩) l1.length c, .slice (some ⟨b2, o2, none⟩) l1.length d] w fun e w' => e = .returned (.bool (decide (l1 = l2))) ∧ ∃ n, w' = w.drewN n := by
  have H1 := Lib.hid h1; clear h1
  have H2 := Lib.hid h2; clear h2
  have HL := Lib.hid hl; clear hl
  go_enter Tryd.func12, Tryd.ntmps12
  go_wp2
  go_loopw [5] (fun i wr => ∃ k : Nat, k ≤ l1.length ∧ i = .int .i64 k ∧ (∃ n, wr = w.drewN n) ∧ ∀ j, j < k → l1[j]?.getD [] = l2[j]?.getD []) (fun i _ => l1.length - (intOf i).toNat)
  case atStart => exact ⟨0, by omega, rfl, ⟨0, rfl⟩, by omega⟩
  case round =>
    obtain ⟨k, hk, rfl, ⟨nq, hw⟩, hall⟩ := hrel
    have HW := Lib.hid hw
    have HA := Lib.hid hall; clear hall
    by_cases hlt : k < l1.length
    · have hc1 : wr.cell? ⟨b1, o1 + k, none⟩ = some (.string ⟨(l1[k]?.getD []).toArray⟩) := by rw [hw]; exact H1.out k hlt
      have hc2 : wr.cell? ⟨b2, o2 + k, none⟩ = some (.string ⟨(l2[k]?.getD []).toArray⟩) := by rw [hw]; exact H2.out k (by have := HL.out; omega)
      clear hw
      have hkI : (k : Int) < (l1.length : Int) := by omega
      obtain ⟨x, hx⟩ : ∃ x, l1[k]?.getD [] = x := ⟨_, rfl⟩
      obtain ⟨y, hy⟩ : ∃ y, l2[k]?.getD [] = y := ⟨_, rfl⟩
      rw [hx] at hc1
      rw [hy] at hc2
      have HX := Lib.hid hx; clear hx
      have HY := Lib.hid hy; clear hy
      by_cases hxy : x = y
      · subst hxy
        go_wp2
        go_quiet (fail)
        go_wp2
        refine ⟨⟨k + 1, by omega, by go_num, ⟨_, by rw [HW.out, drewN_drewN]⟩, fun j hj => ?_⟩, by simp [intOf]; omega⟩
        by_cases hjk : j = k
        · rw [hjk, HX.out, HY.out]
        · exact HA.out j (by omega)
      · have hne : (x == y) = false := by simpa using hxy
        have HN := Lib.hid hxy; clear hxy
        go_wp2
        go_quiet (fail)
        go_wp2
        have HD := Lib.hid (show ¬ l1 = l2 from fun h => HN.out (by rw [← HX.out, ← HY.out, h]))
        go_ret
        exact ⟨ret_bool (by rw [decide_eq_false HD.out]), _, by rw [HW.out, drewN_drewN]⟩
    · clear hw
      obtain rfl : k = l1.length := by omega
      have HE := Lib.hid (show l1 = l2 from List.ext_getElem HL.out (fun i a b => by have := HA.out i a; simpa [a, b] using this))
      go_wp2
      go_ret
      exact ⟨ret_bool (by rw [decide_eq_true HE.out]), nq, HW.out⟩

/-- texts: are two lists of texts the same? -/
theorem texts_any (va vb : Value) (la lb : List (List UInt8)) (w : World) (ha : Strs w va la) (hb : Strs w vb lb) (hm : la.length ≤ 140737488351232) :
    Calls Tryd.prog 12 #[va, vb] w fun e w' => e = .returned (.bool (decide (la = lb))) ∧ ∃ n, w' = w.drewN n := by
  by_cases hl : la.length = lb.length
  · rcases ha with ⟨rfl, rfl⟩ | ⟨b1, o1, c1, rfl, h1⟩
    · have : lb = [] := List.length_eq_zero_iff.1 hl.symm
      subst this
      rcases hb with ⟨rfl, _⟩ | ⟨b2, o2, c2, rfl, h2⟩
      · exact (texts_nil _ _ _ _ w).mono fun e w' ⟨he, hw⟩ => ⟨by rw [he]; rfl, 0, hw.symm⟩
      · exact (texts_nil _ _ _ _ w).mono fun e w' ⟨he, hw⟩ => ⟨by rw [he]; rfl, 0, hw.symm⟩
    · rcases hb with ⟨rfl, rfl⟩ | ⟨b2, o2, c2, rfl, h2⟩
      · have : la = [] := List.length_eq_zero_iff.1 hl
        subst this
        exact (texts_nil _ _ _ _ w).mono fun e w' ⟨he, hw⟩ => ⟨by rw [he]; rfl, 0, hw.symm⟩
      · rw [← hl]
        exact texts_eq b1 o1 b2 o2 c1 c2 la lb hl w hm h1 h2
  · have hd : ¬ la = lb := fun h => hl (by rw [h])
    rcases ha with ⟨rfl, rfl⟩ | ⟨b1, o1, c1, rfl, h1⟩ <;> rcases hb with ⟨rfl, rfl⟩ | ⟨b2, o2, c2, rfl, h2⟩
    · exact absurd rfl hl
    all_goals exact (texts_ne _ _ _ _ _ _ w (by simpa using hl)).mono fun e w' ⟨he, hw⟩ => ⟨by rw [he, decide_eq_false hd], 0, hw.symm⟩
end Go.Proofs.YtmjbefamiohbbaaDoor
