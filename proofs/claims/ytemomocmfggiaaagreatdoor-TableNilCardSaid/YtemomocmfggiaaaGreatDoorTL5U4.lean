import Derived.Test.YtemomocmfggiaaaGreatDoorTL4U4
import Derived.Test.YtemomocmfggiaaaGreatDoorTM3U4
namespace Go.Proofs.YtemomocmfggiaaaGreatDoor
set_option linter.unusedVariables false
open Go.RowKit Go.Shelf FlagM
attribute [local go_sem] Oper.semAt_some
set_option maxRecDepth 100000 in
theorem goes_c (hF : F_law29_goes [] = [1]) (w : World) (hG : Gl gG w) : Calls Tryz.prog 11 #[] w fun e w' => e = .returned (.bool true) ∧ Bel w w' := by
 have h := calls_of_pc (e_law29_goes.ok [] rfl (by show (F_law29_goes []).length = _; rw [hF]; rfl)) Tryz.func11 (by kernel_rfl) (by kernel_rfl) w hG
 have h2 : resVal (valsS c_law29_goes.r (F_law29_goes [])) = .bool true := by rw [hF]; rfl
 simp only [h2] at h
 exact h
abbrev cellsAt (W : World) (b q : Nat) (x : Nat → Int) : Prop := W.cell? ⟨b, q, none⟩ = some (.int .u8 (x 0)) ∧ W.cell? ⟨b, q + 1, none⟩ = some (.int .u8 (x 1)) ∧ W.cell? ⟨b, q + 2, none⟩ = some (.int .u8 (x 2)) ∧ W.cell? ⟨b, q + 3, none⟩ = some (.int .u8 (x 3)) ∧ W.cell? ⟨b, q + 4, none⟩ = some (.int .u8 (x 4)) ∧ W.cell? ⟨b, q + 5, none⟩ = some (.int .u64 (x 5)) ∧ W.cell? ⟨b, q + 6, none⟩ = some (.int .u64 (x 6)) ∧ W.cell? ⟨b, q + 7, none⟩ = some (.int .u64 (x 7)) ∧ W.cell? ⟨b, q + 8, none⟩ = some (.int .u64 (x 8)) ∧ W.cell? ⟨b, q + 9, none⟩ = some (.int .u64 (x 9)) ∧ W.cell? ⟨b, q + 10, none⟩ = some (.int .u64 (x 10))
theorem cellsAt.bel {A B : World} {b q : Nat} {x : Nat → Int} (h : cellsAt A b q x) (hb : b < A.heap.size) (hB : Bel A B) : cellsAt B b q x := by
 have hc : ∀ j, B.cell? ⟨b, j, none⟩ = A.cell? ⟨b, j, none⟩ := fun j => hB.cell b j hb
 unfold cellsAt
 simp only [hc]
 exact h
set_option maxRecDepth 100000 in
set_option maxHeartbeats 4000000 in
theorem TableNil_c (hF : F_law29_goes [] = [1]) (w : World) (hG : Gl gG w) (v : Value) (n : Nat) (hn : n ≤ maxLen) (x : Nat → Nat → Int) (o : Nat → Out) (hE : EntsAt w v n x) (hrun : ∀ i, i < n → RunsTo (entL (x i)) (o i).1 (o i).2.1 (o i).2.2.1 (o i).2.2.2) :
  Calls Tryz.prog 5 #[v] w fun e w' => e = .returned (.bool true) ∧ Bel w w' := by
 unfold maxLen at hn
 obtain ⟨ad, cap, rfl, hcell⟩ := hE
 have HR := Lib.hid hrun
 clear hrun
 by_cases h20 : 20 < n
 ·go_enter Tryz.func5, Tryz.ntmps5
  go_wp2
  go_ret
  exact ⟨rfl, Bel.refl w⟩
 ·go_enter Tryz.func5, Tryz.ntmps5
  go_wp2
  go_loopw [4] (fun i wr => ∃ k : Nat, k ≤ n ∧ i = .int .i64 (k : Int) ∧ Bel w wr) (fun i _ => n - (intOf i).toNat)
  case atStart => exact ⟨0, Nat.zero_le _, rfl, Bel.refl w⟩
  case round =>
   obtain ⟨k, hk, rfl, hnx⟩ := hrel
   by_cases hlt : k < n
   ·obtain ⟨b, off, rfl, hb, hcl⟩ := hcell (by omega)
    have hx : cellsAt wr b (off + k * 11) (x k) := by
     have hx : ∀ j, j < 11 → wr.cell? ⟨b, off + k * 11 + j, none⟩ = some (entC (x k) j) := fun j hj => (hnx.cell b (off + k * 11 + j) hb).trans (hcl k hlt j hj)
     exact ⟨hx 0 (by omega), hx 1 (by omega), hx 2 (by omega), hx 3 (by omega), hx 4 (by omega), hx 5 (by omega), hx 6 (by omega), hx 7 (by omega), hx 8 (by omega), hx 9 (by omega), hx 10 (by omega)⟩
    clear hcl hcell
    have hr1 := HR.out k hlt
    have HK := Lib.hid hr1
    clear hr1
    have hbw : b < wr.heap.size := Nat.lt_of_lt_of_le hb (Below.size hnx)
    have q1 : (k : Int) < (n : Int) := by omega
    have DoS : ∀ W, Bel wr W ∧ cellsAt W b (off + k * 11) (x k) → Calls Tryz.prog 21 #[.pointer none, .agg (entL (x k)).toArray] W fun e W' => e = .returned (outV (o k).1 (o k).2.1 (o k).2.2.1 (o k).2.2.2) ∧ (Bel wr W' ∧ cellsAt W' b (off + k * 11) (x k)) := fun W ⟨h1, h2⟩ =>
     (Do_nil W (hG.bel (hnx.trans h1)) (o k).2.2.2 _ _ _ _ _ _ _ _ _ _ _ (o k).1 (o k).2.1 (o k).2.2.1 HK.out).mono fun e W' ⟨h3, h4⟩ => ⟨h3, h1.trans h4, h2.bel (Nat.lt_of_lt_of_le hbw (Below.size h1)) h4⟩
    have RunS : ∀ W, Bel wr W ∧ cellsAt W b (off + k * 11) (x k) → Calls Tryz.prog 10 #[.agg (entL (x k)).toArray] W fun e W' => e = .returned (outV (o k).1 (o k).2.1 (o k).2.2.1 (o k).2.2.2) ∧ (Bel wr W' ∧ cellsAt W' b (off + k * 11) (x k)) := fun W ⟨h1, h2⟩ =>
     (HK.out W (hG.bel (hnx.trans h1))).mono fun e W' ⟨h3, h4⟩ => ⟨h3, h1.trans h4, h2.bel (Nat.lt_of_lt_of_le hbw (Below.size h1)) h4⟩
    have HD := Lib.hid DoS
    have HN := Lib.hid RunS
    have hS0 : Bel wr wr ∧ cellsAt wr b (off + k * 11) (x k) := ⟨Bel.refl wr, hx⟩
    clear DoS RunS
    go_wp2_with fail
    go_region_held3 (fun w' => Bel wr w' ∧ w'.cell? ⟨b, off + k * 11, none⟩ = some (.int .u8 (x k 0)) ∧ w'.cell? ⟨b, off + k * 11 + 1, none⟩ = some (.int .u8 (x k 1)) ∧ w'.cell? ⟨b, off + k * 11 + 2, none⟩ = some (.int .u8 (x k 2)) ∧ w'.cell? ⟨b, off + k * 11 + 3, none⟩ = some (.int .u8 (x k 3)) ∧ w'.cell? ⟨b, off + k * 11 + 4, none⟩ = some (.int .u8 (x k 4)) ∧ w'.cell? ⟨b, off + k * 11 + 5, none⟩ = some (.int .u64 (x k 5)) ∧ w'.cell? ⟨b, off + k * 11 + 6, none⟩ = some (.int .u64 (x k 6)) ∧ w'.cell? ⟨b, off + k * 11 + 7, none⟩ = some (.int .u64 (x k 7)) ∧ w'.cell? ⟨b, off + k * 11 + 8, none⟩ = some (.int .u64 (x k 8)) ∧ w'.cell? ⟨b, off + k * 11 + 9, none⟩ = some (.int .u64 (x k 9)) ∧ w'.cell? ⟨b, off + k * 11 + 10, none⟩ = some (.int .u64 (x k 10))) (first | exact hS' | ((try dsimp only); (repeat' apply And.intro) <;> first | assumption | exact (Bel.refl _).drew | go_keep))
     (first | (go_at_call 21; refine (HD.out _ (by assumption)).mono ?_; rintro e w' ⟨rfl, hS'⟩) | (go_at_call 10; refine (HN.out _ (by assumption)).mono ?_; rintro e w' ⟨rfl, hS'⟩) | (go_at_call 23; refine (Sticky_nil _).mono ?_; rintro e w' ⟨rfl, rfl⟩))
    all_goals go_wp2
    all_goals
     refine ⟨⟨k + 1, by omega, by go_num, hnx.trans ?_⟩, by simp [intOf]; omega⟩
     first | (rename_i hS; exact hS.1) | (rename_i hS _; exact hS.1) | (rename_i hS _ _; exact hS.1)
   ·obtain rfl : k = n := by omega
    have HG := Lib.hid (hG.bel hnx)
    go_wp2_with (first | (go_at_call 22; refine (Clear_nil _).mono ?_; rintro e w' ⟨⟨v, rfl⟩, rfl⟩) | (go_at_call 23; refine (Sticky_nil _).mono ?_; rintro e w' ⟨rfl, rfl⟩) | (go_at_call 11; refine (goes_c hF _ HG.out).mono ?_; rintro e w2 ⟨rfl, hB2⟩))
    go_ret
    exact ⟨rfl, hnx.trans hB2⟩
end Go.Proofs.YtemomocmfggiaaaGreatDoor
