import Derived.Test.YtemomocmfggiaaaGreatDoorTX2U2
import Derived.Test.YtemomocmfggiaaaGreatDoorTM4U2
namespace Go.Proofs.YtemomocmfggiaaaGreatDoor
set_option linter.unusedVariables false
set_option linter.unusedSimpArgs false
set_option maxRecDepth 100000
open Go.RowKit
def ad (k mo : Int) : Int := iOp .add .u8 k (u8 (iOp .rem .u64 (u64 mo) 200))
theorem ad_eq (k mo : Int) : iOp .add .u8 k (u8 (iOp .rem .u64 (u64 mo) 200)) = ad k mo := rfl
theorem orL (mo : Int) : ∃ n : Nat, iOp .or .u64 (u64 mo) 1 = (n : Int) ∧ 1 ≤ n ∧ n < W64 := by
 have h := u64_rng mo
 have h2 : (u64 mo).toNat < W64 := by unfold W64; omega
 refine ⟨(u64 mo).toNat ||| 1, ?_, Nat.right_le_or, ?_⟩
 ·have := lor_cast (u64 mo).toNat 1 h2 (by unfold W64; omega)
  rwa [Int.toNat_of_nonneg h.1] at this
 ·rw [show W64 = 2 ^ 64 from rfl] at *
  exact Nat.or_lt_two_pow h2 (by decide)
theorem tmodN {a b : Int} (h : 0 ≤ a) : a.tmod b = a % b := Int.tmod_eq_emod_of_nonneg h
theorem ad_ge (k : Nat) (hk : k ≤ 15) (mo : Int) : (k : Int) ≤ ad k mo ∧ ad k mo ≤ 255 := by
 have h := u64_rng mo
 unfold ad
 have e1 : iOp .rem .u64 (u64 mo) 200 = u64 mo % 200 := (show iOp .rem .u64 (u64 mo) 200 = (u64 mo).tmod 200 from rfl).trans (tmodN h.1)
 rw [e1, u8_id (by omega) (by omega)]
 show _ ≤ IntKind.u8.wrap ((k : Int) + u64 mo % 200) ∧ IntKind.u8.wrap ((k : Int) + u64 mo % 200) ≤ 255
 rw [w8_u, u8_id (by omega) (by omega)]
 omega
theorem rem6 (wh : Int) : 0 ≤ iOp .rem .u8 (u8 wh) 6 ∧ iOp .rem .u8 (u8 wh) 6 ≤ 5 := by
 have h := u8_rng wh
 have e1 : iOp .rem .u8 (u8 wh) 6 = u8 wh % 6 := (show iOp .rem .u8 (u8 wh) 6 = (u8 wh).tmod 6 from rfl).trans (tmodN h.1)
 rw [e1]; omega
theorem fit_0 {f n : Nat} (h : fitB f n = true) : n < 2 ^ FP.fW f := by
 unfold fitB at h; simp at h; exact h.2
theorem u64_nat2 {n : Nat} (h : n < W64) : u64 (n : Int) = (n : Int) := u64_nat' n h
theorem bdC (o f t m i a1 a0 b1 b0 mo : Int) (h : ¬ u8 o = 6) : mayL (u8 o) (u8 f) (u8 t) (u8 m) (u8 i) (u64 a1) (u64 a0) (u64 b1) (u64 b0) 0 (iOp .or .u64 (u64 mo) 1) = false := by
 obtain ⟨n, h1, h2, h3⟩ := orL mo
 have hC : nB 0 (iOp .or .u64 (u64 mo) 1) ≠ 0 := by
  rw [h1, nB_0, u64_nat2 h3]; omega
 unfold mayL mayI
 simp [u8_u8, h, hC]
theorem bdA (o f t m i a0 b1 b0 c1 c0 mo : Int) (hw : (FP.fW (fN f) : Int) ≤ 64) (h : ¬ u8 o = 12) : mayL (u8 o) (u8 f) (u8 t) (u8 m) (u8 i) (iOp .or .u64 (u64 mo) 1) (u64 a0) (u64 b1) (u64 b0) (u64 c1) (u64 c0) = false := by
 obtain ⟨n, h1, h2, h3⟩ := orL mo
 have hA : fitB (fN (u8 f)) (nB (iOp .or .u64 (u64 mo) 1) (u64 a0)) = false := by
  cases hb : fitB (fN (u8 f)) (nB (iOp .or .u64 (u64 mo) 1) (u64 a0)) with
  | false => rfl
  | true =>
   have h4 := fit_0 hb
   rw [fN_u] at h4
   have h5 : 2 ^ FP.fW (fN f) ≤ 2 ^ 64 := Nat.pow_le_pow_right (by decide) (by omega)
   rw [h1] at h4
   unfold nB at h4
   rw [u64_nat2 h3] at h4
   have h6 : W64 ≤ n * W64 := Nat.le_mul_of_pos_left _ h2
   rw [show W64 = 2 ^ 64 from rfl] at *
   simp only [Int.toNat_natCast] at h4
   omega
 unfold mayL mayI
 simp [u8_u8, h, hA]
theorem bdT (o f m i a1 a0 b1 b0 c1 c0 mo : Int) : mayL (u8 o) (u8 f) (ad 4 mo) (u8 m) (u8 i) (u64 a1) (u64 a0) (u64 b1) (u64 b0) (u64 c1) (u64 c0) = false := by
 have h : 4 ≤ ad 4 mo ∧ ad 4 mo ≤ 255 := ad_ge 4 (by omega) mo
 have e : u8 (ad 4 mo) = ad 4 mo := u8_id (by omega) h.2
 have h1 : ¬ ad 4 mo = 0 := by omega
 have h2 : ¬ ad 4 mo < 4 := by omega
 unfold mayL mayI
 simp [e, h1, h2]
theorem bdM (o f t i a1 a0 b1 b0 c1 c0 mo : Int) : mayL (u8 o) (u8 f) (u8 t) (ad 5 mo) (u8 i) (u64 a1) (u64 a0) (u64 b1) (u64 b0) (u64 c1) (u64 c0) = false := by
 have h : 5 ≤ ad 5 mo ∧ ad 5 mo ≤ 255 := ad_ge 5 (by omega) mo
 have e : u8 (ad 5 mo) = ad 5 mo := u8_id (by omega) h.2
 have h2 : ¬ ad 5 mo ≤ 4 := by omega
 unfold mayL mayI
 simp [e, h2]
theorem bdI (o f t m a1 a0 b1 b0 c1 c0 mo : Int) : mayL (u8 o) (u8 f) (u8 t) (u8 m) (ad 2 mo) (u64 a1) (u64 a0) (u64 b1) (u64 b0) (u64 c1) (u64 c0) = false := by
 have h : 2 ≤ ad 2 mo ∧ ad 2 mo ≤ 255 := ad_ge 2 (by omega) mo
 have e : u8 (ad 2 mo) = ad 2 mo := u8_id (by omega) h.2
 have h2 : ad 2 mo > 1 := by omega
 unfold mayL mayI
 simp [e, h2]
theorem bdO (f t m i a1 a0 b1 b0 c1 c0 mo : Int) : mayL (ad 15 mo) (u8 f) (u8 t) (u8 m) (u8 i) (u64 a1) (u64 a0) (u64 b1) (u64 b0) (u64 c1) (u64 c0) = false := by
 have h : 15 ≤ ad 15 mo ∧ ad 15 mo ≤ 255 := ad_ge 15 (by omega) mo
 have e : u8 (ad 15 mo) = ad 15 mo := u8_id (by omega) h.2
 unfold mayL mayI
 rw [e]
 have q : ∀ k : Int, k ≤ 14 → (ad 15 mo = k) = False := fun k hk => by simp; omega
 simp [q]
theorem bdF (o t m i a1 a0 b1 b0 c1 c0 mo : Int) : mayL (u8 o) (ad 4 mo) (u8 t) (u8 m) (u8 i) (u64 a1) (u64 a0) (u64 b1) (u64 b0) (u64 c1) (u64 c0) = false := by
 have h : 4 ≤ ad 4 mo ∧ ad 4 mo ≤ 255 := ad_ge 4 (by omega) mo
 have e : u8 (ad 4 mo) = ad 4 mo := u8_id (by omega) h.2
 have h2 : ¬ ad 4 mo < 4 := by omega
 unfold mayL mayI
 simp [e, h2]
set_option maxHeartbeats 4000000 in
theorem true_TableBad (l : List Int) (h : l.length = 13) : F_law29_TableBad l = [1] := by
 match l, h with
 | [o, f, t, m, i, a1, a0, b1, b0, c1, c0, mo, wh], _ =>
 rw [F_law29_TableBad, t_law29_TableBad]
 refine (treeF_call (r := [b2i (!mayL (u8 o) (u8 f) (u8 t) (u8 m) (u8 i) (u64 a1) (u64 a0) (u64 b1) (u64 b0) (u64 c1) (u64 c0))]) (by simp only [sxs, ph_TM4_table_Check, ad_eq]; rw [s_table_Check]) (by rfl)).trans ?_
 refine tI (mayL (u8 o) (u8 f) (u8 t) (u8 m) (u8 i) (u64 a1) (u64 a0) (u64 b1) (u64 b0) (u64 c1) (u64 c0) = false) (by simp only [sxs]; cases mayL (u8 o) (u8 f) (u8 t) (u8 m) (u8 i) (u64 a1) (u64 a0) (u64 b1) (u64 b0) (u64 c1) (u64 c0) <;> rfl) (fun h1 => ?_) (fun h1 => ?_)
 ·refine (treeF_call (r := [1, 0, 0, 0]) (by simp only [sxs, ph_TM4_table_Run, ad_eq]; exact s_table_RunBad _ _ _ _ _ _ _ _ _ _ _ (h1)) (by rfl)).trans ?_
  refine tT (by simp only [sxs]; rfl) ?_
  rw [treeF_leaf rfl]; simp only [sxs]; try rfl
 ·refine tI (iOp .rem .u8 (u8 wh) 6 = 0) (by simp only [sxs]; rfl) (fun h2 => ?_) (fun h2 => ?_)
  ·refine (treeF_call (r := [(FP.fW (fN f) : Int)]) (by simp only [sxs, ph_TM4_format_Width, ad_eq]; rw [s_format_Width, fN_u]) (by rfl)).trans ?_
   refine tI ((FP.fW (fN f) : Int) > 64) (by simp only [sxs, i64_fW]) (fun h3 => ?_) (fun h3 => ?_)
   ·rw [treeF_leaf rfl]; simp only [sxs]; try rfl
   ·refine tI (u8 o = 12) (by simp only [sxs]; rfl) (fun h4 => ?_) (fun h4 => ?_)
    ·rw [treeF_leaf rfl]; simp only [sxs]; try rfl
    ·refine tI (¬ u8 o = 6) (by simp only [sxs]; rw [decide_not]; rfl) (fun h5 => ?_) (fun h5 => ?_)
     ·refine (treeF_call (r := [1]) (by simp only [sxs, ph_TM4_table_Check, ad_eq]; rw [s_table_Check, bdC _ _ _ _ _ _ _ _ _ mo h5]; rfl) (by rfl)).trans ?_
      refine tF (by simp only [sxs]; rfl) ?_
      refine (treeF_call (r := [1]) (by simp only [sxs, ph_TM4_table_Check, ad_eq]; rw [s_table_Check, bdA _ _ _ _ _ _ _ _ _ _ mo (by omega) h4]; rfl) (by rfl)).trans ?_
      refine tT (by simp only [sxs]; rfl) ?_
      refine (treeF_call (r := [1, 0, 0, 0]) (by simp only [sxs, ph_TM4_table_Run, ad_eq]; exact s_table_RunBad _ _ _ _ _ _ _ _ _ _ _ (bdA _ _ _ _ _ _ _ _ _ _ mo (by omega) h4)) (by rfl)).trans ?_
      refine tT (by simp only [sxs]; rfl) ?_
      rw [treeF_leaf rfl]; simp only [sxs]; try rfl
     ·refine (treeF_call (r := [1]) (by simp only [sxs, ph_TM4_table_Check, ad_eq]; rw [s_table_Check, bdA _ _ _ _ _ _ _ _ _ _ mo (by omega) h4]; rfl) (by rfl)).trans ?_
      refine tT (by simp only [sxs]; rfl) ?_
      refine (treeF_call (r := [1, 0, 0, 0]) (by simp only [sxs, ph_TM4_table_Run, ad_eq]; exact s_table_RunBad _ _ _ _ _ _ _ _ _ _ _ (bdA _ _ _ _ _ _ _ _ _ _ mo (by omega) h4)) (by rfl)).trans ?_
      refine tT (by simp only [sxs]; rfl) ?_
      rw [treeF_leaf rfl]; simp only [sxs]; try rfl
  ·refine tI (iOp .rem .u8 (u8 wh) 6 = 1) (by simp only [sxs]; rfl) (fun h6 => ?_) (fun h6 => ?_)
   ·refine tI (¬ u8 o = 6) (by simp only [sxs]; rw [decide_not]; rfl) (fun h7 => ?_) (fun h7 => ?_)
    ·refine (treeF_call (r := [1]) (by simp only [sxs, ph_TM4_table_Check, ad_eq]; rw [s_table_Check, bdC _ _ _ _ _ _ _ _ _ mo h7]; rfl) (by rfl)).trans ?_
     refine tF (by simp only [sxs]; rfl) ?_
     refine (treeF_call (r := [1]) (by simp only [sxs, ph_TM4_table_Check, ad_eq]; rw [s_table_Check, bdT _ _ _ _ _ _ _ _ _ _ mo]; rfl) (by rfl)).trans ?_
     refine tT (by simp only [sxs]; rfl) ?_
     refine (treeF_call (r := [1, 0, 0, 0]) (by simp only [sxs, ph_TM4_table_Run, ad_eq]; exact s_table_RunBad _ _ _ _ _ _ _ _ _ _ _ (bdT _ _ _ _ _ _ _ _ _ _ mo)) (by rfl)).trans ?_
     refine tT (by simp only [sxs]; rfl) ?_
     rw [treeF_leaf rfl]; simp only [sxs]; try rfl
    ·refine (treeF_call (r := [1]) (by simp only [sxs, ph_TM4_table_Check, ad_eq]; rw [s_table_Check, bdT _ _ _ _ _ _ _ _ _ _ mo]; rfl) (by rfl)).trans ?_
     refine tT (by simp only [sxs]; rfl) ?_
     refine (treeF_call (r := [1, 0, 0, 0]) (by simp only [sxs, ph_TM4_table_Run, ad_eq]; exact s_table_RunBad _ _ _ _ _ _ _ _ _ _ _ (bdT _ _ _ _ _ _ _ _ _ _ mo)) (by rfl)).trans ?_
     refine tT (by simp only [sxs]; rfl) ?_
     rw [treeF_leaf rfl]; simp only [sxs]; try rfl
   ·refine tI (iOp .rem .u8 (u8 wh) 6 = 2) (by simp only [sxs]; rfl) (fun h8 => ?_) (fun h8 => ?_)
    ·refine tI (¬ u8 o = 6) (by simp only [sxs]; rw [decide_not]; rfl) (fun h9 => ?_) (fun h9 => ?_)
     ·refine (treeF_call (r := [1]) (by simp only [sxs, ph_TM4_table_Check, ad_eq]; rw [s_table_Check, bdC _ _ _ _ _ _ _ _ _ mo h9]; rfl) (by rfl)).trans ?_
      refine tF (by simp only [sxs]; rfl) ?_
      refine (treeF_call (r := [1]) (by simp only [sxs, ph_TM4_table_Check, ad_eq]; rw [s_table_Check, bdM _ _ _ _ _ _ _ _ _ _ mo]; rfl) (by rfl)).trans ?_
      refine tT (by simp only [sxs]; rfl) ?_
      refine (treeF_call (r := [1, 0, 0, 0]) (by simp only [sxs, ph_TM4_table_Run, ad_eq]; exact s_table_RunBad _ _ _ _ _ _ _ _ _ _ _ (bdM _ _ _ _ _ _ _ _ _ _ mo)) (by rfl)).trans ?_
      refine tT (by simp only [sxs]; rfl) ?_
      rw [treeF_leaf rfl]; simp only [sxs]; try rfl
     ·refine (treeF_call (r := [1]) (by simp only [sxs, ph_TM4_table_Check, ad_eq]; rw [s_table_Check, bdM _ _ _ _ _ _ _ _ _ _ mo]; rfl) (by rfl)).trans ?_
      refine tT (by simp only [sxs]; rfl) ?_
      refine (treeF_call (r := [1, 0, 0, 0]) (by simp only [sxs, ph_TM4_table_Run, ad_eq]; exact s_table_RunBad _ _ _ _ _ _ _ _ _ _ _ (bdM _ _ _ _ _ _ _ _ _ _ mo)) (by rfl)).trans ?_
      refine tT (by simp only [sxs]; rfl) ?_
      rw [treeF_leaf rfl]; simp only [sxs]; try rfl
    ·refine tI (iOp .rem .u8 (u8 wh) 6 = 3) (by simp only [sxs]; rfl) (fun h10 => ?_) (fun h10 => ?_)
     ·refine tI (¬ u8 o = 6) (by simp only [sxs]; rw [decide_not]; rfl) (fun h11 => ?_) (fun h11 => ?_)
      ·refine (treeF_call (r := [1]) (by simp only [sxs, ph_TM4_table_Check, ad_eq]; rw [s_table_Check, bdC _ _ _ _ _ _ _ _ _ mo h11]; rfl) (by rfl)).trans ?_
       refine tF (by simp only [sxs]; rfl) ?_
       refine (treeF_call (r := [1]) (by simp only [sxs, ph_TM4_table_Check, ad_eq]; rw [s_table_Check, bdI _ _ _ _ _ _ _ _ _ _ mo]; rfl) (by rfl)).trans ?_
       refine tT (by simp only [sxs]; rfl) ?_
       refine (treeF_call (r := [1, 0, 0, 0]) (by simp only [sxs, ph_TM4_table_Run, ad_eq]; exact s_table_RunBad _ _ _ _ _ _ _ _ _ _ _ (bdI _ _ _ _ _ _ _ _ _ _ mo)) (by rfl)).trans ?_
       refine tT (by simp only [sxs]; rfl) ?_
       rw [treeF_leaf rfl]; simp only [sxs]; try rfl
      ·refine (treeF_call (r := [1]) (by simp only [sxs, ph_TM4_table_Check, ad_eq]; rw [s_table_Check, bdI _ _ _ _ _ _ _ _ _ _ mo]; rfl) (by rfl)).trans ?_
       refine tT (by simp only [sxs]; rfl) ?_
       refine (treeF_call (r := [1, 0, 0, 0]) (by simp only [sxs, ph_TM4_table_Run, ad_eq]; exact s_table_RunBad _ _ _ _ _ _ _ _ _ _ _ (bdI _ _ _ _ _ _ _ _ _ _ mo)) (by rfl)).trans ?_
       refine tT (by simp only [sxs]; rfl) ?_
       rw [treeF_leaf rfl]; simp only [sxs]; try rfl
     ·refine tI (iOp .rem .u8 (u8 wh) 6 = 4) (by simp only [sxs]; rfl) (fun h12 => ?_) (fun h12 => ?_)
      ·refine tI (¬ u8 o = 6) (by simp only [sxs]; rw [decide_not]; rfl) (fun h13 => ?_) (fun h13 => ?_)
       ·refine (treeF_call (r := [1]) (by simp only [sxs, ph_TM4_table_Check, ad_eq]; rw [s_table_Check, bdC _ _ _ _ _ _ _ _ _ mo h13]; rfl) (by rfl)).trans ?_
        refine tF (by simp only [sxs]; rfl) ?_
        refine (treeF_call (r := [1]) (by simp only [sxs, ph_TM4_table_Check, ad_eq]; rw [s_table_Check, bdO _ _ _ _ _ _ _ _ _ _ mo]; rfl) (by rfl)).trans ?_
        refine tT (by simp only [sxs]; rfl) ?_
        refine (treeF_call (r := [1, 0, 0, 0]) (by simp only [sxs, ph_TM4_table_Run, ad_eq]; exact s_table_RunBad _ _ _ _ _ _ _ _ _ _ _ (bdO _ _ _ _ _ _ _ _ _ _ mo)) (by rfl)).trans ?_
        refine tT (by simp only [sxs]; rfl) ?_
        rw [treeF_leaf rfl]; simp only [sxs]; try rfl
       ·refine (treeF_call (r := [1]) (by simp only [sxs, ph_TM4_table_Check, ad_eq]; rw [s_table_Check, bdO _ _ _ _ _ _ _ _ _ _ mo]; rfl) (by rfl)).trans ?_
        refine tT (by simp only [sxs]; rfl) ?_
        refine (treeF_call (r := [1, 0, 0, 0]) (by simp only [sxs, ph_TM4_table_Run, ad_eq]; exact s_table_RunBad _ _ _ _ _ _ _ _ _ _ _ (bdO _ _ _ _ _ _ _ _ _ _ mo)) (by rfl)).trans ?_
        refine tT (by simp only [sxs]; rfl) ?_
        rw [treeF_leaf rfl]; simp only [sxs]; try rfl
      ·refine tI (iOp .rem .u8 (u8 wh) 6 = 5) (by simp only [sxs]; rfl) (fun h14 => ?_) (fun h14 => ?_)
       ·refine tI (¬ u8 o = 6) (by simp only [sxs]; rw [decide_not]; rfl) (fun h15 => ?_) (fun h15 => ?_)
        ·refine (treeF_call (r := [1]) (by simp only [sxs, ph_TM4_table_Check, ad_eq]; rw [s_table_Check, bdC _ _ _ _ _ _ _ _ _ mo h15]; rfl) (by rfl)).trans ?_
         refine tF (by simp only [sxs]; rfl) ?_
         refine (treeF_call (r := [1]) (by simp only [sxs, ph_TM4_table_Check, ad_eq]; rw [s_table_Check, bdF _ _ _ _ _ _ _ _ _ _ mo]; rfl) (by rfl)).trans ?_
         refine tT (by simp only [sxs]; rfl) ?_
         refine (treeF_call (r := [1, 0, 0, 0]) (by simp only [sxs, ph_TM4_table_Run, ad_eq]; exact s_table_RunBad _ _ _ _ _ _ _ _ _ _ _ (bdF _ _ _ _ _ _ _ _ _ _ mo)) (by rfl)).trans ?_
         refine tT (by simp only [sxs]; rfl) ?_
         rw [treeF_leaf rfl]; simp only [sxs]; try rfl
        ·refine (treeF_call (r := [1]) (by simp only [sxs, ph_TM4_table_Check, ad_eq]; rw [s_table_Check, bdF _ _ _ _ _ _ _ _ _ _ mo]; rfl) (by rfl)).trans ?_
         refine tT (by simp only [sxs]; rfl) ?_
         refine (treeF_call (r := [1, 0, 0, 0]) (by simp only [sxs, ph_TM4_table_Run, ad_eq]; exact s_table_RunBad _ _ _ _ _ _ _ _ _ _ _ (bdF _ _ _ _ _ _ _ _ _ _ mo)) (by rfl)).trans ?_
         refine tT (by simp only [sxs]; rfl) ?_
         rw [treeF_leaf rfl]; simp only [sxs]; try rfl
       ·exfalso; have := rem6 wh; omega
end Go.Proofs.YtemomocmfggiaaaGreatDoor
