import Derived.Test.YtemomocmfggiaaaGreatDoorTX1U2
namespace Go.Proofs.YtemomocmfggiaaaGreatDoor
set_option linter.unusedVariables false
set_option linter.unusedSimpArgs false
set_option maxRecDepth 100000
open Go.RowKit
def mayI (o f t m i a1 : Int) (F A B C : Nat) (k : Bool) : Bool :=
 decide (f < 4) && (decide (m ≤ 4) && (!decide (i > 1) &&
  (if o = 1 ∨ o = 2 ∨ o = 3 ∨ o = 4 ∨ o = 7 ∨ o = 13 ∨ o = 14 then decide (t = 0) && (fitB F A && (fitB F B && decide (C = 0)))
  else if o = 5 ∨ o = 8 ∨ o = 9 then decide (t = 0) && (fitB F A && (decide (B = 0) && decide (C = 0)))
  else if o = 6 then decide (t = 0) && (fitB F A && (fitB F B && fitB F C))
  else if o = 10 ∨ o = 11 then decide (t < 4) && (fitB F A && (decide (B = 0) && decide (C = 0)))
  else if o = 12 then decide (t < 4) && (decide (a1 = 0) && (k && (decide (B = 0) && decide (C = 0))))
  else false)))
abbrev mayL (o f t m i a1 a0 b1 b0 c1 c0 : Int) : Bool := mayI (u8 o) (u8 f) (u8 t) (u8 m) (u8 i) (u64 a1) (fN f) (nB a1 a0) (nB b1 b0) (nB c1 c0) (hasK (fN t) (u64 a0).toNat)
theorem zB (x y : Int) : (u64 x == 0 && (u64 y == 0 && iNz 1)) = decide (nB x y = 0) := by
 have hx := u64_rng x
 have hy := u64_rng y
 rw [Bool.eq_iff_iff]
 simp only [Bool.and_eq_true, beq_iff_eq, decide_eq_true_iff, show iNz 1 = true from rfl, and_true]
 unfold nB W64
 omega
set_option maxHeartbeats 4000000 in
theorem s_table_Check (o f t m i a1 a0 b1 b0 c1 c0 : Int) : F_table_Check [o, f, t, m, i, a1, a0, b1, b0, c1, c0] = [b2i (!mayL o f t m i a1 a0 b1 b0 c1 c0)] := by
 unfold mayL
 rw [F_table_Check, t_table_Check]
 refine tI (u8 o = 1) (by simp only [sxs]; rfl) (fun h1 => ?_) (fun h1 => ?_)
 ·refine tI (¬ u8 f < 4) (by simp only [sxs]; rw [decide_not]) (fun h2 => ?_) (fun h2 => ?_)
  ·rw [treeF_leaf rfl]; simp only [sxs]; simp [mayI, h1, h2, b2i]
  ·refine tI (¬ u8 m ≤ 4) (by simp only [sxs]; rw [decide_not]) (fun h3 => ?_) (fun h3 => ?_)
   ·replace h2 := Decidable.not_not.1 h2; rw [treeF_leaf rfl]; simp only [sxs]; simp [mayI, h1, h2, h3, b2i]
   ·refine tI (u8 i > 1) (by simp only [sxs]) (fun h4 => ?_) (fun h4 => ?_)
    ·replace h2 := Decidable.not_not.1 h2; replace h3 := Decidable.not_not.1 h3; rw [treeF_leaf rfl]; simp only [sxs]; simp [mayI, h1, h2, h3, h4, b2i]
    ·refine tI (¬ u8 t = 0) (by simp only [sxs]; rw [decide_not]; rfl) (fun h5 => ?_) (fun h5 => ?_)
     ·replace h2 := Decidable.not_not.1 h2; replace h3 := Decidable.not_not.1 h3; rw [treeF_leaf rfl]; simp only [sxs]; simp [mayI, h1, h2, h3, h4, h5, b2i]
     ·refine (treeF_call (r := [b2i (fitB (fN f) (nB a1 a0))]) (by simp only [sxs, ph_TM2_format_Fits]; rw [s_format_Fits, fN_u, nB_u]) (by rfl)).trans ?_
      refine tI (fitB (fN f) (nB a1 a0) = true) (by simp only [sxs]; exact (Bool.decide_coe _).symm) (fun h6 => ?_) (fun h6 => ?_)
      ·refine (treeF_call (r := [b2i (fitB (fN f) (nB b1 b0))]) (by simp only [sxs, ph_TM2_format_Fits]; rw [s_format_Fits, fN_u, nB_u]) (by rfl)).trans ?_
       refine tI (fitB (fN f) (nB b1 b0) = true) (by simp only [sxs]; exact (Bool.decide_coe _).symm) (fun h7 => ?_) (fun h7 => ?_)
       ·refine tI (¬ nB c1 c0 = 0) (by simp only [sxs]; rw [decide_not]; exact congrArg not (zB _ _)) (fun h8 => ?_) (fun h8 => ?_)
        ·replace h2 := Decidable.not_not.1 h2; replace h3 := Decidable.not_not.1 h3; replace h5 := Decidable.not_not.1 h5; rw [treeF_leaf rfl]; simp only [sxs]; simp [mayI, h1, h2, h3, h4, h5, h6, h7, h8, b2i]
        ·replace h2 := Decidable.not_not.1 h2; replace h3 := Decidable.not_not.1 h3; replace h5 := Decidable.not_not.1 h5; replace h8 := Decidable.not_not.1 h8; rw [treeF_leaf rfl]; simp only [sxs]; simp [mayI, h1, h2, h3, h4, h5, h6, h7, h8, b2i]
       ·replace h2 := Decidable.not_not.1 h2; replace h3 := Decidable.not_not.1 h3; replace h5 := Decidable.not_not.1 h5; rw [treeF_leaf rfl]; simp only [sxs]; simp [mayI, h1, h2, h3, h4, h5, h6, h7, b2i]
      ·replace h2 := Decidable.not_not.1 h2; replace h3 := Decidable.not_not.1 h3; replace h5 := Decidable.not_not.1 h5; rw [treeF_leaf rfl]; simp only [sxs]; simp [mayI, h1, h2, h3, h4, h5, h6, b2i]
 ·refine tI (u8 o = 2) (by simp only [sxs]; rfl) (fun h9 => ?_) (fun h9 => ?_)
  ·refine tI (¬ u8 f < 4) (by simp only [sxs]; rw [decide_not]) (fun h10 => ?_) (fun h10 => ?_)
   ·rw [treeF_leaf rfl]; simp only [sxs]; simp [mayI, h9, h10, b2i]
   ·refine tI (¬ u8 m ≤ 4) (by simp only [sxs]; rw [decide_not]) (fun h11 => ?_) (fun h11 => ?_)
    ·replace h10 := Decidable.not_not.1 h10; rw [treeF_leaf rfl]; simp only [sxs]; simp [mayI, h9, h10, h11, b2i]
    ·refine tI (u8 i > 1) (by simp only [sxs]) (fun h12 => ?_) (fun h12 => ?_)
     ·replace h10 := Decidable.not_not.1 h10; replace h11 := Decidable.not_not.1 h11; rw [treeF_leaf rfl]; simp only [sxs]; simp [mayI, h9, h10, h11, h12, b2i]
     ·refine tI (¬ u8 t = 0) (by simp only [sxs]; rw [decide_not]; rfl) (fun h13 => ?_) (fun h13 => ?_)
      ·replace h10 := Decidable.not_not.1 h10; replace h11 := Decidable.not_not.1 h11; rw [treeF_leaf rfl]; simp only [sxs]; simp [mayI, h9, h10, h11, h12, h13, b2i]
      ·refine (treeF_call (r := [b2i (fitB (fN f) (nB a1 a0))]) (by simp only [sxs, ph_TM2_format_Fits]; rw [s_format_Fits, fN_u, nB_u]) (by rfl)).trans ?_
       refine tI (fitB (fN f) (nB a1 a0) = true) (by simp only [sxs]; exact (Bool.decide_coe _).symm) (fun h14 => ?_) (fun h14 => ?_)
       ·refine (treeF_call (r := [b2i (fitB (fN f) (nB b1 b0))]) (by simp only [sxs, ph_TM2_format_Fits]; rw [s_format_Fits, fN_u, nB_u]) (by rfl)).trans ?_
        refine tI (fitB (fN f) (nB b1 b0) = true) (by simp only [sxs]; exact (Bool.decide_coe _).symm) (fun h15 => ?_) (fun h15 => ?_)
        ·refine tI (¬ nB c1 c0 = 0) (by simp only [sxs]; rw [decide_not]; exact congrArg not (zB _ _)) (fun h16 => ?_) (fun h16 => ?_)
         ·replace h10 := Decidable.not_not.1 h10; replace h11 := Decidable.not_not.1 h11; replace h13 := Decidable.not_not.1 h13; rw [treeF_leaf rfl]; simp only [sxs]; simp [mayI, h9, h10, h11, h12, h13, h14, h15, h16, b2i]
         ·replace h10 := Decidable.not_not.1 h10; replace h11 := Decidable.not_not.1 h11; replace h13 := Decidable.not_not.1 h13; replace h16 := Decidable.not_not.1 h16; rw [treeF_leaf rfl]; simp only [sxs]; simp [mayI, h9, h10, h11, h12, h13, h14, h15, h16, b2i]
        ·replace h10 := Decidable.not_not.1 h10; replace h11 := Decidable.not_not.1 h11; replace h13 := Decidable.not_not.1 h13; rw [treeF_leaf rfl]; simp only [sxs]; simp [mayI, h9, h10, h11, h12, h13, h14, h15, b2i]
       ·replace h10 := Decidable.not_not.1 h10; replace h11 := Decidable.not_not.1 h11; replace h13 := Decidable.not_not.1 h13; rw [treeF_leaf rfl]; simp only [sxs]; simp [mayI, h9, h10, h11, h12, h13, h14, b2i]
  ·refine tI (u8 o = 3) (by simp only [sxs]; rfl) (fun h17 => ?_) (fun h17 => ?_)
   ·refine tI (¬ u8 f < 4) (by simp only [sxs]; rw [decide_not]) (fun h18 => ?_) (fun h18 => ?_)
    ·rw [treeF_leaf rfl]; simp only [sxs]; simp [mayI, h17, h18, b2i]
    ·refine tI (¬ u8 m ≤ 4) (by simp only [sxs]; rw [decide_not]) (fun h19 => ?_) (fun h19 => ?_)
     ·replace h18 := Decidable.not_not.1 h18; rw [treeF_leaf rfl]; simp only [sxs]; simp [mayI, h17, h18, h19, b2i]
     ·refine tI (u8 i > 1) (by simp only [sxs]) (fun h20 => ?_) (fun h20 => ?_)
      ·replace h18 := Decidable.not_not.1 h18; replace h19 := Decidable.not_not.1 h19; rw [treeF_leaf rfl]; simp only [sxs]; simp [mayI, h17, h18, h19, h20, b2i]
      ·refine tI (¬ u8 t = 0) (by simp only [sxs]; rw [decide_not]; rfl) (fun h21 => ?_) (fun h21 => ?_)
       ·replace h18 := Decidable.not_not.1 h18; replace h19 := Decidable.not_not.1 h19; rw [treeF_leaf rfl]; simp only [sxs]; simp [mayI, h17, h18, h19, h20, h21, b2i]
       ·refine (treeF_call (r := [b2i (fitB (fN f) (nB a1 a0))]) (by simp only [sxs, ph_TM2_format_Fits]; rw [s_format_Fits, fN_u, nB_u]) (by rfl)).trans ?_
        refine tI (fitB (fN f) (nB a1 a0) = true) (by simp only [sxs]; exact (Bool.decide_coe _).symm) (fun h22 => ?_) (fun h22 => ?_)
        ·refine (treeF_call (r := [b2i (fitB (fN f) (nB b1 b0))]) (by simp only [sxs, ph_TM2_format_Fits]; rw [s_format_Fits, fN_u, nB_u]) (by rfl)).trans ?_
         refine tI (fitB (fN f) (nB b1 b0) = true) (by simp only [sxs]; exact (Bool.decide_coe _).symm) (fun h23 => ?_) (fun h23 => ?_)
         ·refine tI (¬ nB c1 c0 = 0) (by simp only [sxs]; rw [decide_not]; exact congrArg not (zB _ _)) (fun h24 => ?_) (fun h24 => ?_)
          ·replace h18 := Decidable.not_not.1 h18; replace h19 := Decidable.not_not.1 h19; replace h21 := Decidable.not_not.1 h21; rw [treeF_leaf rfl]; simp only [sxs]; simp [mayI, h17, h18, h19, h20, h21, h22, h23, h24, b2i]
          ·replace h18 := Decidable.not_not.1 h18; replace h19 := Decidable.not_not.1 h19; replace h21 := Decidable.not_not.1 h21; replace h24 := Decidable.not_not.1 h24; rw [treeF_leaf rfl]; simp only [sxs]; simp [mayI, h17, h18, h19, h20, h21, h22, h23, h24, b2i]
         ·replace h18 := Decidable.not_not.1 h18; replace h19 := Decidable.not_not.1 h19; replace h21 := Decidable.not_not.1 h21; rw [treeF_leaf rfl]; simp only [sxs]; simp [mayI, h17, h18, h19, h20, h21, h22, h23, b2i]
        ·replace h18 := Decidable.not_not.1 h18; replace h19 := Decidable.not_not.1 h19; replace h21 := Decidable.not_not.1 h21; rw [treeF_leaf rfl]; simp only [sxs]; simp [mayI, h17, h18, h19, h20, h21, h22, b2i]
   ·refine tI (u8 o = 4) (by simp only [sxs]; rfl) (fun h25 => ?_) (fun h25 => ?_)
    ·refine tI (¬ u8 f < 4) (by simp only [sxs]; rw [decide_not]) (fun h26 => ?_) (fun h26 => ?_)
     ·rw [treeF_leaf rfl]; simp only [sxs]; simp [mayI, h25, h26, b2i]
     ·refine tI (¬ u8 m ≤ 4) (by simp only [sxs]; rw [decide_not]) (fun h27 => ?_) (fun h27 => ?_)
      ·replace h26 := Decidable.not_not.1 h26; rw [treeF_leaf rfl]; simp only [sxs]; simp [mayI, h25, h26, h27, b2i]
      ·refine tI (u8 i > 1) (by simp only [sxs]) (fun h28 => ?_) (fun h28 => ?_)
       ·replace h26 := Decidable.not_not.1 h26; replace h27 := Decidable.not_not.1 h27; rw [treeF_leaf rfl]; simp only [sxs]; simp [mayI, h25, h26, h27, h28, b2i]
       ·refine tI (¬ u8 t = 0) (by simp only [sxs]; rw [decide_not]; rfl) (fun h29 => ?_) (fun h29 => ?_)
        ·replace h26 := Decidable.not_not.1 h26; replace h27 := Decidable.not_not.1 h27; rw [treeF_leaf rfl]; simp only [sxs]; simp [mayI, h25, h26, h27, h28, h29, b2i]
        ·refine (treeF_call (r := [b2i (fitB (fN f) (nB a1 a0))]) (by simp only [sxs, ph_TM2_format_Fits]; rw [s_format_Fits, fN_u, nB_u]) (by rfl)).trans ?_
         refine tI (fitB (fN f) (nB a1 a0) = true) (by simp only [sxs]; exact (Bool.decide_coe _).symm) (fun h30 => ?_) (fun h30 => ?_)
         ·refine (treeF_call (r := [b2i (fitB (fN f) (nB b1 b0))]) (by simp only [sxs, ph_TM2_format_Fits]; rw [s_format_Fits, fN_u, nB_u]) (by rfl)).trans ?_
          refine tI (fitB (fN f) (nB b1 b0) = true) (by simp only [sxs]; exact (Bool.decide_coe _).symm) (fun h31 => ?_) (fun h31 => ?_)
          ·refine tI (¬ nB c1 c0 = 0) (by simp only [sxs]; rw [decide_not]; exact congrArg not (zB _ _)) (fun h32 => ?_) (fun h32 => ?_)
           ·replace h26 := Decidable.not_not.1 h26; replace h27 := Decidable.not_not.1 h27; replace h29 := Decidable.not_not.1 h29; rw [treeF_leaf rfl]; simp only [sxs]; simp [mayI, h25, h26, h27, h28, h29, h30, h31, h32, b2i]
           ·replace h26 := Decidable.not_not.1 h26; replace h27 := Decidable.not_not.1 h27; replace h29 := Decidable.not_not.1 h29; replace h32 := Decidable.not_not.1 h32; rw [treeF_leaf rfl]; simp only [sxs]; simp [mayI, h25, h26, h27, h28, h29, h30, h31, h32, b2i]
          ·replace h26 := Decidable.not_not.1 h26; replace h27 := Decidable.not_not.1 h27; replace h29 := Decidable.not_not.1 h29; rw [treeF_leaf rfl]; simp only [sxs]; simp [mayI, h25, h26, h27, h28, h29, h30, h31, b2i]
         ·replace h26 := Decidable.not_not.1 h26; replace h27 := Decidable.not_not.1 h27; replace h29 := Decidable.not_not.1 h29; rw [treeF_leaf rfl]; simp only [sxs]; simp [mayI, h25, h26, h27, h28, h29, h30, b2i]
    ·refine tI (u8 o = 5) (by simp only [sxs]; rfl) (fun h33 => ?_) (fun h33 => ?_)
     ·refine tI (¬ u8 f < 4) (by simp only [sxs]; rw [decide_not]) (fun h34 => ?_) (fun h34 => ?_)
      ·rw [treeF_leaf rfl]; simp only [sxs]; simp [mayI, h33, h34, b2i]
      ·refine tI (¬ u8 m ≤ 4) (by simp only [sxs]; rw [decide_not]) (fun h35 => ?_) (fun h35 => ?_)
       ·replace h34 := Decidable.not_not.1 h34; rw [treeF_leaf rfl]; simp only [sxs]; simp [mayI, h33, h34, h35, b2i]
       ·refine tI (u8 i > 1) (by simp only [sxs]) (fun h36 => ?_) (fun h36 => ?_)
        ·replace h34 := Decidable.not_not.1 h34; replace h35 := Decidable.not_not.1 h35; rw [treeF_leaf rfl]; simp only [sxs]; simp [mayI, h33, h34, h35, h36, b2i]
        ·refine tI (¬ u8 t = 0) (by simp only [sxs]; rw [decide_not]; rfl) (fun h37 => ?_) (fun h37 => ?_)
         ·replace h34 := Decidable.not_not.1 h34; replace h35 := Decidable.not_not.1 h35; rw [treeF_leaf rfl]; simp only [sxs]; simp [mayI, h33, h34, h35, h36, h37, b2i]
         ·refine (treeF_call (r := [b2i (fitB (fN f) (nB a1 a0))]) (by simp only [sxs, ph_TM2_format_Fits]; rw [s_format_Fits, fN_u, nB_u]) (by rfl)).trans ?_
          refine tI (fitB (fN f) (nB a1 a0) = true) (by simp only [sxs]; exact (Bool.decide_coe _).symm) (fun h38 => ?_) (fun h38 => ?_)
          ·refine tI (nB b1 b0 = 0) (by simp only [sxs]; exact zB _ _) (fun h39 => ?_) (fun h39 => ?_)
           ·refine tI (¬ nB c1 c0 = 0) (by simp only [sxs]; rw [decide_not]; exact congrArg not (zB _ _)) (fun h40 => ?_) (fun h40 => ?_)
            ·replace h34 := Decidable.not_not.1 h34; replace h35 := Decidable.not_not.1 h35; replace h37 := Decidable.not_not.1 h37; rw [treeF_leaf rfl]; simp only [sxs]; simp [mayI, h33, h34, h35, h36, h37, h38, h39, h40, b2i]
            ·replace h34 := Decidable.not_not.1 h34; replace h35 := Decidable.not_not.1 h35; replace h37 := Decidable.not_not.1 h37; replace h40 := Decidable.not_not.1 h40; rw [treeF_leaf rfl]; simp only [sxs]; simp [mayI, h33, h34, h35, h36, h37, h38, h39, h40, b2i]
           ·replace h34 := Decidable.not_not.1 h34; replace h35 := Decidable.not_not.1 h35; replace h37 := Decidable.not_not.1 h37; rw [treeF_leaf rfl]; simp only [sxs]; simp [mayI, h33, h34, h35, h36, h37, h38, h39, b2i]
          ·replace h34 := Decidable.not_not.1 h34; replace h35 := Decidable.not_not.1 h35; replace h37 := Decidable.not_not.1 h37; rw [treeF_leaf rfl]; simp only [sxs]; simp [mayI, h33, h34, h35, h36, h37, h38, b2i]
     ·refine tI (u8 o = 6) (by simp only [sxs]; rfl) (fun h41 => ?_) (fun h41 => ?_)
      ·refine tI (¬ u8 f < 4) (by simp only [sxs]; rw [decide_not]) (fun h42 => ?_) (fun h42 => ?_)
       ·rw [treeF_leaf rfl]; simp only [sxs]; simp [mayI, h41, h42, b2i]
       ·refine tI (¬ u8 m ≤ 4) (by simp only [sxs]; rw [decide_not]) (fun h43 => ?_) (fun h43 => ?_)
        ·replace h42 := Decidable.not_not.1 h42; rw [treeF_leaf rfl]; simp only [sxs]; simp [mayI, h41, h42, h43, b2i]
        ·refine tI (u8 i > 1) (by simp only [sxs]) (fun h44 => ?_) (fun h44 => ?_)
         ·replace h42 := Decidable.not_not.1 h42; replace h43 := Decidable.not_not.1 h43; rw [treeF_leaf rfl]; simp only [sxs]; simp [mayI, h41, h42, h43, h44, b2i]
         ·refine tI (¬ u8 t = 0) (by simp only [sxs]; rw [decide_not]; rfl) (fun h45 => ?_) (fun h45 => ?_)
          ·replace h42 := Decidable.not_not.1 h42; replace h43 := Decidable.not_not.1 h43; rw [treeF_leaf rfl]; simp only [sxs]; simp [mayI, h41, h42, h43, h44, h45, b2i]
          ·refine (treeF_call (r := [b2i (fitB (fN f) (nB a1 a0))]) (by simp only [sxs, ph_TM2_format_Fits]; rw [s_format_Fits, fN_u, nB_u]) (by rfl)).trans ?_
           refine tI (fitB (fN f) (nB a1 a0) = true) (by simp only [sxs]; exact (Bool.decide_coe _).symm) (fun h46 => ?_) (fun h46 => ?_)
           ·refine (treeF_call (r := [b2i (fitB (fN f) (nB b1 b0))]) (by simp only [sxs, ph_TM2_format_Fits]; rw [s_format_Fits, fN_u, nB_u]) (by rfl)).trans ?_
            refine tI (fitB (fN f) (nB b1 b0) = true) (by simp only [sxs]; exact (Bool.decide_coe _).symm) (fun h47 => ?_) (fun h47 => ?_)
            ·refine (treeF_call (r := [b2i (fitB (fN f) (nB c1 c0))]) (by simp only [sxs, ph_TM2_format_Fits]; rw [s_format_Fits, fN_u, nB_u]) (by rfl)).trans ?_
             refine tI (¬ fitB (fN f) (nB c1 c0) = true) (by simp only [sxs]; rw [decide_not, Bool.decide_coe]) (fun h48 => ?_) (fun h48 => ?_)
             ·replace h42 := Decidable.not_not.1 h42; replace h43 := Decidable.not_not.1 h43; replace h45 := Decidable.not_not.1 h45; rw [treeF_leaf rfl]; simp only [sxs]; simp [mayI, h41, h42, h43, h44, h45, h46, h47, h48, b2i]
             ·replace h42 := Decidable.not_not.1 h42; replace h43 := Decidable.not_not.1 h43; replace h45 := Decidable.not_not.1 h45; replace h48 := Decidable.not_not.1 h48; rw [treeF_leaf rfl]; simp only [sxs]; simp [mayI, h41, h42, h43, h44, h45, h46, h47, h48, b2i]
            ·replace h42 := Decidable.not_not.1 h42; replace h43 := Decidable.not_not.1 h43; replace h45 := Decidable.not_not.1 h45; rw [treeF_leaf rfl]; simp only [sxs]; simp [mayI, h41, h42, h43, h44, h45, h46, h47, b2i]
           ·replace h42 := Decidable.not_not.1 h42; replace h43 := Decidable.not_not.1 h43; replace h45 := Decidable.not_not.1 h45; rw [treeF_leaf rfl]; simp only [sxs]; simp [mayI, h41, h42, h43, h44, h45, h46, b2i]
      ·refine tI (u8 o = 7) (by simp only [sxs]; rfl) (fun h49 => ?_) (fun h49 => ?_)
       ·refine tI (¬ u8 f < 4) (by simp only [sxs]; rw [decide_not]) (fun h50 => ?_) (fun h50 => ?_)
        ·rw [treeF_leaf rfl]; simp only [sxs]; simp [mayI, h49, h50, b2i]
        ·refine tI (¬ u8 m ≤ 4) (by simp only [sxs]; rw [decide_not]) (fun h51 => ?_) (fun h51 => ?_)
         ·replace h50 := Decidable.not_not.1 h50; rw [treeF_leaf rfl]; simp only [sxs]; simp [mayI, h49, h50, h51, b2i]
         ·refine tI (u8 i > 1) (by simp only [sxs]) (fun h52 => ?_) (fun h52 => ?_)
          ·replace h50 := Decidable.not_not.1 h50; replace h51 := Decidable.not_not.1 h51; rw [treeF_leaf rfl]; simp only [sxs]; simp [mayI, h49, h50, h51, h52, b2i]
          ·refine tI (¬ u8 t = 0) (by simp only [sxs]; rw [decide_not]; rfl) (fun h53 => ?_) (fun h53 => ?_)
           ·replace h50 := Decidable.not_not.1 h50; replace h51 := Decidable.not_not.1 h51; rw [treeF_leaf rfl]; simp only [sxs]; simp [mayI, h49, h50, h51, h52, h53, b2i]
           ·refine (treeF_call (r := [b2i (fitB (fN f) (nB a1 a0))]) (by simp only [sxs, ph_TM2_format_Fits]; rw [s_format_Fits, fN_u, nB_u]) (by rfl)).trans ?_
            refine tI (fitB (fN f) (nB a1 a0) = true) (by simp only [sxs]; exact (Bool.decide_coe _).symm) (fun h54 => ?_) (fun h54 => ?_)
            ·refine (treeF_call (r := [b2i (fitB (fN f) (nB b1 b0))]) (by simp only [sxs, ph_TM2_format_Fits]; rw [s_format_Fits, fN_u, nB_u]) (by rfl)).trans ?_
             refine tI (fitB (fN f) (nB b1 b0) = true) (by simp only [sxs]; exact (Bool.decide_coe _).symm) (fun h55 => ?_) (fun h55 => ?_)
             ·refine tI (¬ nB c1 c0 = 0) (by simp only [sxs]; rw [decide_not]; exact congrArg not (zB _ _)) (fun h56 => ?_) (fun h56 => ?_)
              ·replace h50 := Decidable.not_not.1 h50; replace h51 := Decidable.not_not.1 h51; replace h53 := Decidable.not_not.1 h53; rw [treeF_leaf rfl]; simp only [sxs]; simp [mayI, h49, h50, h51, h52, h53, h54, h55, h56, b2i]
              ·replace h50 := Decidable.not_not.1 h50; replace h51 := Decidable.not_not.1 h51; replace h53 := Decidable.not_not.1 h53; replace h56 := Decidable.not_not.1 h56; rw [treeF_leaf rfl]; simp only [sxs]; simp [mayI, h49, h50, h51, h52, h53, h54, h55, h56, b2i]
             ·replace h50 := Decidable.not_not.1 h50; replace h51 := Decidable.not_not.1 h51; replace h53 := Decidable.not_not.1 h53; rw [treeF_leaf rfl]; simp only [sxs]; simp [mayI, h49, h50, h51, h52, h53, h54, h55, b2i]
            ·replace h50 := Decidable.not_not.1 h50; replace h51 := Decidable.not_not.1 h51; replace h53 := Decidable.not_not.1 h53; rw [treeF_leaf rfl]; simp only [sxs]; simp [mayI, h49, h50, h51, h52, h53, h54, b2i]
       ·refine tI (u8 o = 8) (by simp only [sxs]; rfl) (fun h57 => ?_) (fun h57 => ?_)
        ·refine tI (¬ u8 f < 4) (by simp only [sxs]; rw [decide_not]) (fun h58 => ?_) (fun h58 => ?_)
         ·rw [treeF_leaf rfl]; simp only [sxs]; simp [mayI, h57, h58, b2i]
         ·refine tI (¬ u8 m ≤ 4) (by simp only [sxs]; rw [decide_not]) (fun h59 => ?_) (fun h59 => ?_)
          ·replace h58 := Decidable.not_not.1 h58; rw [treeF_leaf rfl]; simp only [sxs]; simp [mayI, h57, h58, h59, b2i]
          ·refine tI (u8 i > 1) (by simp only [sxs]) (fun h60 => ?_) (fun h60 => ?_)
           ·replace h58 := Decidable.not_not.1 h58; replace h59 := Decidable.not_not.1 h59; rw [treeF_leaf rfl]; simp only [sxs]; simp [mayI, h57, h58, h59, h60, b2i]
           ·refine tI (¬ u8 t = 0) (by simp only [sxs]; rw [decide_not]; rfl) (fun h61 => ?_) (fun h61 => ?_)
            ·replace h58 := Decidable.not_not.1 h58; replace h59 := Decidable.not_not.1 h59; rw [treeF_leaf rfl]; simp only [sxs]; simp [mayI, h57, h58, h59, h60, h61, b2i]
            ·refine (treeF_call (r := [b2i (fitB (fN f) (nB a1 a0))]) (by simp only [sxs, ph_TM2_format_Fits]; rw [s_format_Fits, fN_u, nB_u]) (by rfl)).trans ?_
             refine tI (fitB (fN f) (nB a1 a0) = true) (by simp only [sxs]; exact (Bool.decide_coe _).symm) (fun h62 => ?_) (fun h62 => ?_)
             ·refine tI (nB b1 b0 = 0) (by simp only [sxs]; exact zB _ _) (fun h63 => ?_) (fun h63 => ?_)
              ·refine tI (¬ nB c1 c0 = 0) (by simp only [sxs]; rw [decide_not]; exact congrArg not (zB _ _)) (fun h64 => ?_) (fun h64 => ?_)
               ·replace h58 := Decidable.not_not.1 h58; replace h59 := Decidable.not_not.1 h59; replace h61 := Decidable.not_not.1 h61; rw [treeF_leaf rfl]; simp only [sxs]; simp [mayI, h57, h58, h59, h60, h61, h62, h63, h64, b2i]
               ·replace h58 := Decidable.not_not.1 h58; replace h59 := Decidable.not_not.1 h59; replace h61 := Decidable.not_not.1 h61; replace h64 := Decidable.not_not.1 h64; rw [treeF_leaf rfl]; simp only [sxs]; simp [mayI, h57, h58, h59, h60, h61, h62, h63, h64, b2i]
              ·replace h58 := Decidable.not_not.1 h58; replace h59 := Decidable.not_not.1 h59; replace h61 := Decidable.not_not.1 h61; rw [treeF_leaf rfl]; simp only [sxs]; simp [mayI, h57, h58, h59, h60, h61, h62, h63, b2i]
             ·replace h58 := Decidable.not_not.1 h58; replace h59 := Decidable.not_not.1 h59; replace h61 := Decidable.not_not.1 h61; rw [treeF_leaf rfl]; simp only [sxs]; simp [mayI, h57, h58, h59, h60, h61, h62, b2i]
        ·refine tI (u8 o = 9) (by simp only [sxs]; rfl) (fun h65 => ?_) (fun h65 => ?_)
         ·refine tI (¬ u8 f < 4) (by simp only [sxs]; rw [decide_not]) (fun h66 => ?_) (fun h66 => ?_)
          ·rw [treeF_leaf rfl]; simp only [sxs]; simp [mayI, h65, h66, b2i]
          ·refine tI (¬ u8 m ≤ 4) (by simp only [sxs]; rw [decide_not]) (fun h67 => ?_) (fun h67 => ?_)
           ·replace h66 := Decidable.not_not.1 h66; rw [treeF_leaf rfl]; simp only [sxs]; simp [mayI, h65, h66, h67, b2i]
           ·refine tI (u8 i > 1) (by simp only [sxs]) (fun h68 => ?_) (fun h68 => ?_)
            ·replace h66 := Decidable.not_not.1 h66; replace h67 := Decidable.not_not.1 h67; rw [treeF_leaf rfl]; simp only [sxs]; simp [mayI, h65, h66, h67, h68, b2i]
            ·refine tI (¬ u8 t = 0) (by simp only [sxs]; rw [decide_not]; rfl) (fun h69 => ?_) (fun h69 => ?_)
             ·replace h66 := Decidable.not_not.1 h66; replace h67 := Decidable.not_not.1 h67; rw [treeF_leaf rfl]; simp only [sxs]; simp [mayI, h65, h66, h67, h68, h69, b2i]
             ·refine (treeF_call (r := [b2i (fitB (fN f) (nB a1 a0))]) (by simp only [sxs, ph_TM2_format_Fits]; rw [s_format_Fits, fN_u, nB_u]) (by rfl)).trans ?_
              refine tI (fitB (fN f) (nB a1 a0) = true) (by simp only [sxs]; exact (Bool.decide_coe _).symm) (fun h70 => ?_) (fun h70 => ?_)
              ·refine tI (nB b1 b0 = 0) (by simp only [sxs]; exact zB _ _) (fun h71 => ?_) (fun h71 => ?_)
               ·refine tI (¬ nB c1 c0 = 0) (by simp only [sxs]; rw [decide_not]; exact congrArg not (zB _ _)) (fun h72 => ?_) (fun h72 => ?_)
                ·replace h66 := Decidable.not_not.1 h66; replace h67 := Decidable.not_not.1 h67; replace h69 := Decidable.not_not.1 h69; rw [treeF_leaf rfl]; simp only [sxs]; simp [mayI, h65, h66, h67, h68, h69, h70, h71, h72, b2i]
                ·replace h66 := Decidable.not_not.1 h66; replace h67 := Decidable.not_not.1 h67; replace h69 := Decidable.not_not.1 h69; replace h72 := Decidable.not_not.1 h72; rw [treeF_leaf rfl]; simp only [sxs]; simp [mayI, h65, h66, h67, h68, h69, h70, h71, h72, b2i]
               ·replace h66 := Decidable.not_not.1 h66; replace h67 := Decidable.not_not.1 h67; replace h69 := Decidable.not_not.1 h69; rw [treeF_leaf rfl]; simp only [sxs]; simp [mayI, h65, h66, h67, h68, h69, h70, h71, b2i]
              ·replace h66 := Decidable.not_not.1 h66; replace h67 := Decidable.not_not.1 h67; replace h69 := Decidable.not_not.1 h69; rw [treeF_leaf rfl]; simp only [sxs]; simp [mayI, h65, h66, h67, h68, h69, h70, b2i]
         ·refine tI (u8 o = 10) (by simp only [sxs]; rfl) (fun h73 => ?_) (fun h73 => ?_)
          ·refine tI (¬ u8 f < 4) (by simp only [sxs]; rw [decide_not]) (fun h74 => ?_) (fun h74 => ?_)
           ·rw [treeF_leaf rfl]; simp only [sxs]; simp [mayI, h73, h74, b2i]
           ·refine tI (¬ u8 m ≤ 4) (by simp only [sxs]; rw [decide_not]) (fun h75 => ?_) (fun h75 => ?_)
            ·replace h74 := Decidable.not_not.1 h74; rw [treeF_leaf rfl]; simp only [sxs]; simp [mayI, h73, h74, h75, b2i]
            ·refine tI (u8 i > 1) (by simp only [sxs]) (fun h76 => ?_) (fun h76 => ?_)
             ·replace h74 := Decidable.not_not.1 h74; replace h75 := Decidable.not_not.1 h75; rw [treeF_leaf rfl]; simp only [sxs]; simp [mayI, h73, h74, h75, h76, b2i]
             ·refine tI (¬ u8 t < 4) (by simp only [sxs]; rw [decide_not]) (fun h77 => ?_) (fun h77 => ?_)
              ·replace h74 := Decidable.not_not.1 h74; replace h75 := Decidable.not_not.1 h75; rw [treeF_leaf rfl]; simp only [sxs]; simp [mayI, h73, h74, h75, h76, h77, b2i]
              ·refine (treeF_call (r := [b2i (fitB (fN f) (nB a1 a0))]) (by simp only [sxs, ph_TM2_format_Fits]; rw [s_format_Fits, fN_u, nB_u]) (by rfl)).trans ?_
               refine tI (fitB (fN f) (nB a1 a0) = true) (by simp only [sxs]; exact (Bool.decide_coe _).symm) (fun h78 => ?_) (fun h78 => ?_)
               ·refine tI (nB b1 b0 = 0) (by simp only [sxs]; exact zB _ _) (fun h79 => ?_) (fun h79 => ?_)
                ·refine tI (¬ nB c1 c0 = 0) (by simp only [sxs]; rw [decide_not]; exact congrArg not (zB _ _)) (fun h80 => ?_) (fun h80 => ?_)
                 ·replace h74 := Decidable.not_not.1 h74; replace h75 := Decidable.not_not.1 h75; replace h77 := Decidable.not_not.1 h77; rw [treeF_leaf rfl]; simp only [sxs]; simp [mayI, h73, h74, h75, h76, h77, h78, h79, h80, b2i]
                 ·replace h74 := Decidable.not_not.1 h74; replace h75 := Decidable.not_not.1 h75; replace h77 := Decidable.not_not.1 h77; replace h80 := Decidable.not_not.1 h80; rw [treeF_leaf rfl]; simp only [sxs]; simp [mayI, h73, h74, h75, h76, h77, h78, h79, h80, b2i]
                ·replace h74 := Decidable.not_not.1 h74; replace h75 := Decidable.not_not.1 h75; replace h77 := Decidable.not_not.1 h77; rw [treeF_leaf rfl]; simp only [sxs]; simp [mayI, h73, h74, h75, h76, h77, h78, h79, b2i]
               ·replace h74 := Decidable.not_not.1 h74; replace h75 := Decidable.not_not.1 h75; replace h77 := Decidable.not_not.1 h77; rw [treeF_leaf rfl]; simp only [sxs]; simp [mayI, h73, h74, h75, h76, h77, h78, b2i]
          ·refine tI (u8 o = 11) (by simp only [sxs]; rfl) (fun h81 => ?_) (fun h81 => ?_)
           ·refine tI (¬ u8 f < 4) (by simp only [sxs]; rw [decide_not]) (fun h82 => ?_) (fun h82 => ?_)
            ·rw [treeF_leaf rfl]; simp only [sxs]; simp [mayI, h81, h82, b2i]
            ·refine tI (¬ u8 m ≤ 4) (by simp only [sxs]; rw [decide_not]) (fun h83 => ?_) (fun h83 => ?_)
             ·replace h82 := Decidable.not_not.1 h82; rw [treeF_leaf rfl]; simp only [sxs]; simp [mayI, h81, h82, h83, b2i]
             ·refine tI (u8 i > 1) (by simp only [sxs]) (fun h84 => ?_) (fun h84 => ?_)
              ·replace h82 := Decidable.not_not.1 h82; replace h83 := Decidable.not_not.1 h83; rw [treeF_leaf rfl]; simp only [sxs]; simp [mayI, h81, h82, h83, h84, b2i]
              ·refine tI (¬ u8 t < 4) (by simp only [sxs]; rw [decide_not]) (fun h85 => ?_) (fun h85 => ?_)
               ·replace h82 := Decidable.not_not.1 h82; replace h83 := Decidable.not_not.1 h83; rw [treeF_leaf rfl]; simp only [sxs]; simp [mayI, h81, h82, h83, h84, h85, b2i]
               ·refine (treeF_call (r := [b2i (fitB (fN f) (nB a1 a0))]) (by simp only [sxs, ph_TM2_format_Fits]; rw [s_format_Fits, fN_u, nB_u]) (by rfl)).trans ?_
                refine tI (fitB (fN f) (nB a1 a0) = true) (by simp only [sxs]; exact (Bool.decide_coe _).symm) (fun h86 => ?_) (fun h86 => ?_)
                ·refine tI (nB b1 b0 = 0) (by simp only [sxs]; exact zB _ _) (fun h87 => ?_) (fun h87 => ?_)
                 ·refine tI (¬ nB c1 c0 = 0) (by simp only [sxs]; rw [decide_not]; exact congrArg not (zB _ _)) (fun h88 => ?_) (fun h88 => ?_)
                  ·replace h82 := Decidable.not_not.1 h82; replace h83 := Decidable.not_not.1 h83; replace h85 := Decidable.not_not.1 h85; rw [treeF_leaf rfl]; simp only [sxs]; simp [mayI, h81, h82, h83, h84, h85, h86, h87, h88, b2i]
                  ·replace h82 := Decidable.not_not.1 h82; replace h83 := Decidable.not_not.1 h83; replace h85 := Decidable.not_not.1 h85; replace h88 := Decidable.not_not.1 h88; rw [treeF_leaf rfl]; simp only [sxs]; simp [mayI, h81, h82, h83, h84, h85, h86, h87, h88, b2i]
                 ·replace h82 := Decidable.not_not.1 h82; replace h83 := Decidable.not_not.1 h83; replace h85 := Decidable.not_not.1 h85; rw [treeF_leaf rfl]; simp only [sxs]; simp [mayI, h81, h82, h83, h84, h85, h86, h87, b2i]
                ·replace h82 := Decidable.not_not.1 h82; replace h83 := Decidable.not_not.1 h83; replace h85 := Decidable.not_not.1 h85; rw [treeF_leaf rfl]; simp only [sxs]; simp [mayI, h81, h82, h83, h84, h85, h86, b2i]
           ·refine tI (u8 o = 12) (by simp only [sxs]; rfl) (fun h89 => ?_) (fun h89 => ?_)
            ·refine tI (¬ u8 f < 4) (by simp only [sxs]; rw [decide_not]) (fun h90 => ?_) (fun h90 => ?_)
             ·rw [treeF_leaf rfl]; simp only [sxs]; simp [mayI, h89, h90, b2i]
             ·refine tI (¬ u8 m ≤ 4) (by simp only [sxs]; rw [decide_not]) (fun h91 => ?_) (fun h91 => ?_)
              ·replace h90 := Decidable.not_not.1 h90; rw [treeF_leaf rfl]; simp only [sxs]; simp [mayI, h89, h90, h91, b2i]
              ·refine tI (u8 i > 1) (by simp only [sxs]) (fun h92 => ?_) (fun h92 => ?_)
               ·replace h90 := Decidable.not_not.1 h90; replace h91 := Decidable.not_not.1 h91; rw [treeF_leaf rfl]; simp only [sxs]; simp [mayI, h89, h90, h91, h92, b2i]
               ·refine tI (¬ u8 t < 4) (by simp only [sxs]; rw [decide_not]) (fun h93 => ?_) (fun h93 => ?_)
                ·replace h90 := Decidable.not_not.1 h90; replace h91 := Decidable.not_not.1 h91; rw [treeF_leaf rfl]; simp only [sxs]; simp [mayI, h89, h90, h91, h92, h93, b2i]
                ·refine tI (u64 a1 = 0) (by simp only [sxs]; rfl) (fun h94 => ?_) (fun h94 => ?_)
                 ·refine (treeF_call (r := [b2i (hasK (fN t) (u64 a0).toNat)]) (by simp only [sxs, ph_TM2_fromint_Has]; rw [s_fromint_Has, fN_u, u64_u64]) (by rfl)).trans ?_
                  refine tI (hasK (fN t) (u64 a0).toNat = true) (by simp only [sxs]; exact (Bool.decide_coe _).symm) (fun h95 => ?_) (fun h95 => ?_)
                  ·refine tI (nB b1 b0 = 0) (by simp only [sxs]; exact zB _ _) (fun h96 => ?_) (fun h96 => ?_)
                   ·refine tI (¬ nB c1 c0 = 0) (by simp only [sxs]; rw [decide_not]; exact congrArg not (zB _ _)) (fun h97 => ?_) (fun h97 => ?_)
                    ·replace h90 := Decidable.not_not.1 h90; replace h91 := Decidable.not_not.1 h91; replace h93 := Decidable.not_not.1 h93; rw [treeF_leaf rfl]; simp only [sxs]; simp [mayI, h89, h90, h91, h92, h93, h94, h95, h96, h97, b2i]
                    ·replace h90 := Decidable.not_not.1 h90; replace h91 := Decidable.not_not.1 h91; replace h93 := Decidable.not_not.1 h93; replace h97 := Decidable.not_not.1 h97; rw [treeF_leaf rfl]; simp only [sxs]; simp [mayI, h89, h90, h91, h92, h93, h94, h95, h96, h97, b2i]
                   ·replace h90 := Decidable.not_not.1 h90; replace h91 := Decidable.not_not.1 h91; replace h93 := Decidable.not_not.1 h93; rw [treeF_leaf rfl]; simp only [sxs]; simp [mayI, h89, h90, h91, h92, h93, h94, h95, h96, b2i]
                  ·replace h90 := Decidable.not_not.1 h90; replace h91 := Decidable.not_not.1 h91; replace h93 := Decidable.not_not.1 h93; rw [treeF_leaf rfl]; simp only [sxs]; simp [mayI, h89, h90, h91, h92, h93, h94, h95, b2i]
                 ·replace h90 := Decidable.not_not.1 h90; replace h91 := Decidable.not_not.1 h91; replace h93 := Decidable.not_not.1 h93; rw [treeF_leaf rfl]; simp only [sxs]; simp [mayI, h89, h90, h91, h92, h93, h94, b2i]
            ·refine tI (u8 o = 13) (by simp only [sxs]; rfl) (fun h98 => ?_) (fun h98 => ?_)
             ·refine tI (¬ u8 f < 4) (by simp only [sxs]; rw [decide_not]) (fun h99 => ?_) (fun h99 => ?_)
              ·rw [treeF_leaf rfl]; simp only [sxs]; simp [mayI, h98, h99, b2i]
              ·refine tI (¬ u8 m ≤ 4) (by simp only [sxs]; rw [decide_not]) (fun h100 => ?_) (fun h100 => ?_)
               ·replace h99 := Decidable.not_not.1 h99; rw [treeF_leaf rfl]; simp only [sxs]; simp [mayI, h98, h99, h100, b2i]
               ·refine tI (u8 i > 1) (by simp only [sxs]) (fun h101 => ?_) (fun h101 => ?_)
                ·replace h99 := Decidable.not_not.1 h99; replace h100 := Decidable.not_not.1 h100; rw [treeF_leaf rfl]; simp only [sxs]; simp [mayI, h98, h99, h100, h101, b2i]
                ·refine tI (¬ u8 t = 0) (by simp only [sxs]; rw [decide_not]; rfl) (fun h102 => ?_) (fun h102 => ?_)
                 ·replace h99 := Decidable.not_not.1 h99; replace h100 := Decidable.not_not.1 h100; rw [treeF_leaf rfl]; simp only [sxs]; simp [mayI, h98, h99, h100, h101, h102, b2i]
                 ·refine (treeF_call (r := [b2i (fitB (fN f) (nB a1 a0))]) (by simp only [sxs, ph_TM2_format_Fits]; rw [s_format_Fits, fN_u, nB_u]) (by rfl)).trans ?_
                  refine tI (fitB (fN f) (nB a1 a0) = true) (by simp only [sxs]; exact (Bool.decide_coe _).symm) (fun h103 => ?_) (fun h103 => ?_)
                  ·refine (treeF_call (r := [b2i (fitB (fN f) (nB b1 b0))]) (by simp only [sxs, ph_TM2_format_Fits]; rw [s_format_Fits, fN_u, nB_u]) (by rfl)).trans ?_
                   refine tI (fitB (fN f) (nB b1 b0) = true) (by simp only [sxs]; exact (Bool.decide_coe _).symm) (fun h104 => ?_) (fun h104 => ?_)
                   ·refine tI (¬ nB c1 c0 = 0) (by simp only [sxs]; rw [decide_not]; exact congrArg not (zB _ _)) (fun h105 => ?_) (fun h105 => ?_)
                    ·replace h99 := Decidable.not_not.1 h99; replace h100 := Decidable.not_not.1 h100; replace h102 := Decidable.not_not.1 h102; rw [treeF_leaf rfl]; simp only [sxs]; simp [mayI, h98, h99, h100, h101, h102, h103, h104, h105, b2i]
                    ·replace h99 := Decidable.not_not.1 h99; replace h100 := Decidable.not_not.1 h100; replace h102 := Decidable.not_not.1 h102; replace h105 := Decidable.not_not.1 h105; rw [treeF_leaf rfl]; simp only [sxs]; simp [mayI, h98, h99, h100, h101, h102, h103, h104, h105, b2i]
                   ·replace h99 := Decidable.not_not.1 h99; replace h100 := Decidable.not_not.1 h100; replace h102 := Decidable.not_not.1 h102; rw [treeF_leaf rfl]; simp only [sxs]; simp [mayI, h98, h99, h100, h101, h102, h103, h104, b2i]
                  ·replace h99 := Decidable.not_not.1 h99; replace h100 := Decidable.not_not.1 h100; replace h102 := Decidable.not_not.1 h102; rw [treeF_leaf rfl]; simp only [sxs]; simp [mayI, h98, h99, h100, h101, h102, h103, b2i]
             ·refine tI (u8 o = 14) (by simp only [sxs]; rfl) (fun h106 => ?_) (fun h106 => ?_)
              ·refine tI (¬ u8 f < 4) (by simp only [sxs]; rw [decide_not]) (fun h107 => ?_) (fun h107 => ?_)
               ·rw [treeF_leaf rfl]; simp only [sxs]; simp [mayI, h106, h107, b2i]
               ·refine tI (¬ u8 m ≤ 4) (by simp only [sxs]; rw [decide_not]) (fun h108 => ?_) (fun h108 => ?_)
                ·replace h107 := Decidable.not_not.1 h107; rw [treeF_leaf rfl]; simp only [sxs]; simp [mayI, h106, h107, h108, b2i]
                ·refine tI (u8 i > 1) (by simp only [sxs]) (fun h109 => ?_) (fun h109 => ?_)
                 ·replace h107 := Decidable.not_not.1 h107; replace h108 := Decidable.not_not.1 h108; rw [treeF_leaf rfl]; simp only [sxs]; simp [mayI, h106, h107, h108, h109, b2i]
                 ·refine tI (¬ u8 t = 0) (by simp only [sxs]; rw [decide_not]; rfl) (fun h110 => ?_) (fun h110 => ?_)
                  ·replace h107 := Decidable.not_not.1 h107; replace h108 := Decidable.not_not.1 h108; rw [treeF_leaf rfl]; simp only [sxs]; simp [mayI, h106, h107, h108, h109, h110, b2i]
                  ·refine (treeF_call (r := [b2i (fitB (fN f) (nB a1 a0))]) (by simp only [sxs, ph_TM2_format_Fits]; rw [s_format_Fits, fN_u, nB_u]) (by rfl)).trans ?_
                   refine tI (fitB (fN f) (nB a1 a0) = true) (by simp only [sxs]; exact (Bool.decide_coe _).symm) (fun h111 => ?_) (fun h111 => ?_)
                   ·refine (treeF_call (r := [b2i (fitB (fN f) (nB b1 b0))]) (by simp only [sxs, ph_TM2_format_Fits]; rw [s_format_Fits, fN_u, nB_u]) (by rfl)).trans ?_
                    refine tI (fitB (fN f) (nB b1 b0) = true) (by simp only [sxs]; exact (Bool.decide_coe _).symm) (fun h112 => ?_) (fun h112 => ?_)
                    ·refine tI (¬ nB c1 c0 = 0) (by simp only [sxs]; rw [decide_not]; exact congrArg not (zB _ _)) (fun h113 => ?_) (fun h113 => ?_)
                     ·replace h107 := Decidable.not_not.1 h107; replace h108 := Decidable.not_not.1 h108; replace h110 := Decidable.not_not.1 h110; rw [treeF_leaf rfl]; simp only [sxs]; simp [mayI, h106, h107, h108, h109, h110, h111, h112, h113, b2i]
                     ·replace h107 := Decidable.not_not.1 h107; replace h108 := Decidable.not_not.1 h108; replace h110 := Decidable.not_not.1 h110; replace h113 := Decidable.not_not.1 h113; rw [treeF_leaf rfl]; simp only [sxs]; simp [mayI, h106, h107, h108, h109, h110, h111, h112, h113, b2i]
                    ·replace h107 := Decidable.not_not.1 h107; replace h108 := Decidable.not_not.1 h108; replace h110 := Decidable.not_not.1 h110; rw [treeF_leaf rfl]; simp only [sxs]; simp [mayI, h106, h107, h108, h109, h110, h111, h112, b2i]
                   ·replace h107 := Decidable.not_not.1 h107; replace h108 := Decidable.not_not.1 h108; replace h110 := Decidable.not_not.1 h110; rw [treeF_leaf rfl]; simp only [sxs]; simp [mayI, h106, h107, h108, h109, h110, h111, b2i]
              ·rw [treeF_leaf rfl]; simp only [sxs]; simp [mayI, h1, h9, h17, h25, h33, h41, h49, h57, h65, h73, h81, h89, h98, h106, b2i]
set_option maxHeartbeats 4000000 in
theorem s_table_RunBad (o f t m i a1 a0 b1 b0 c1 c0 : Int) (hb : mayL o f t m i a1 a0 b1 b0 c1 c0 = false) : F_table_Run [o, f, t, m, i, a1, a0, b1, b0, c1, c0] = [1, 0, 0, 0] := by
 unfold mayL at hb
 rw [F_table_Run, t_table_Run]
 refine tI (u8 o = 1) (by simp only [sxs]; rfl) (fun h1 => ?_) (fun h1 => ?_)
 ·refine tI (¬ u8 f < 4) (by simp only [sxs]; rw [decide_not]) (fun h2 => ?_) (fun h2 => ?_)
  ·rw [treeF_leaf rfl]; simp only [sxs]
  ·refine tI (¬ u8 m ≤ 4) (by simp only [sxs]; rw [decide_not]) (fun h3 => ?_) (fun h3 => ?_)
   ·rw [treeF_leaf rfl]; simp only [sxs]
   ·refine tI (u8 i > 1) (by simp only [sxs]) (fun h4 => ?_) (fun h4 => ?_)
    ·rw [treeF_leaf rfl]; simp only [sxs]
    ·refine tI (¬ u8 t = 0) (by simp only [sxs]; rw [decide_not]; rfl) (fun h5 => ?_) (fun h5 => ?_)
     ·rw [treeF_leaf rfl]; simp only [sxs]
     ·refine (treeF_call (r := [b2i (fitB (fN f) (nB a1 a0))]) (by simp only [sxs, ph_TM2_format_Fits]; rw [s_format_Fits, fN_u, nB_u]) (by rfl)).trans ?_
      refine tI (fitB (fN f) (nB a1 a0) = true) (by simp only [sxs]; exact (Bool.decide_coe _).symm) (fun h6 => ?_) (fun h6 => ?_)
      ·refine (treeF_call (r := [b2i (fitB (fN f) (nB b1 b0))]) (by simp only [sxs, ph_TM2_format_Fits]; rw [s_format_Fits, fN_u, nB_u]) (by rfl)).trans ?_
       refine tI (fitB (fN f) (nB b1 b0) = true) (by simp only [sxs]; exact (Bool.decide_coe _).symm) (fun h7 => ?_) (fun h7 => ?_)
       ·refine tI (¬ nB c1 c0 = 0) (by simp only [sxs]; rw [decide_not]; exact congrArg not (zB _ _)) (fun h8 => ?_) (fun h8 => ?_)
        ·rw [treeF_leaf rfl]; simp only [sxs]
        ·exfalso; replace h2 := Decidable.not_not.1 h2; replace h3 := Decidable.not_not.1 h3; replace h5 := Decidable.not_not.1 h5; replace h8 := Decidable.not_not.1 h8; revert hb; simp [mayI, h1, h2, h3, h4, h5, h6, h7, h8]
       ·rw [treeF_leaf rfl]; simp only [sxs]
      ·rw [treeF_leaf rfl]; simp only [sxs]
 ·refine tI (u8 o = 2) (by simp only [sxs]; rfl) (fun h9 => ?_) (fun h9 => ?_)
  ·refine tI (¬ u8 f < 4) (by simp only [sxs]; rw [decide_not]) (fun h10 => ?_) (fun h10 => ?_)
   ·rw [treeF_leaf rfl]; simp only [sxs]
   ·refine tI (¬ u8 m ≤ 4) (by simp only [sxs]; rw [decide_not]) (fun h11 => ?_) (fun h11 => ?_)
    ·rw [treeF_leaf rfl]; simp only [sxs]
    ·refine tI (u8 i > 1) (by simp only [sxs]) (fun h12 => ?_) (fun h12 => ?_)
     ·rw [treeF_leaf rfl]; simp only [sxs]
     ·refine tI (¬ u8 t = 0) (by simp only [sxs]; rw [decide_not]; rfl) (fun h13 => ?_) (fun h13 => ?_)
      ·rw [treeF_leaf rfl]; simp only [sxs]
      ·refine (treeF_call (r := [b2i (fitB (fN f) (nB a1 a0))]) (by simp only [sxs, ph_TM2_format_Fits]; rw [s_format_Fits, fN_u, nB_u]) (by rfl)).trans ?_
       refine tI (fitB (fN f) (nB a1 a0) = true) (by simp only [sxs]; exact (Bool.decide_coe _).symm) (fun h14 => ?_) (fun h14 => ?_)
       ·refine (treeF_call (r := [b2i (fitB (fN f) (nB b1 b0))]) (by simp only [sxs, ph_TM2_format_Fits]; rw [s_format_Fits, fN_u, nB_u]) (by rfl)).trans ?_
        refine tI (fitB (fN f) (nB b1 b0) = true) (by simp only [sxs]; exact (Bool.decide_coe _).symm) (fun h15 => ?_) (fun h15 => ?_)
        ·refine tI (¬ nB c1 c0 = 0) (by simp only [sxs]; rw [decide_not]; exact congrArg not (zB _ _)) (fun h16 => ?_) (fun h16 => ?_)
         ·rw [treeF_leaf rfl]; simp only [sxs]
         ·exfalso; replace h10 := Decidable.not_not.1 h10; replace h11 := Decidable.not_not.1 h11; replace h13 := Decidable.not_not.1 h13; replace h16 := Decidable.not_not.1 h16; revert hb; simp [mayI, h9, h10, h11, h12, h13, h14, h15, h16]
        ·rw [treeF_leaf rfl]; simp only [sxs]
       ·rw [treeF_leaf rfl]; simp only [sxs]
  ·refine tI (u8 o = 3) (by simp only [sxs]; rfl) (fun h17 => ?_) (fun h17 => ?_)
   ·refine tI (¬ u8 f < 4) (by simp only [sxs]; rw [decide_not]) (fun h18 => ?_) (fun h18 => ?_)
    ·rw [treeF_leaf rfl]; simp only [sxs]
    ·refine tI (¬ u8 m ≤ 4) (by simp only [sxs]; rw [decide_not]) (fun h19 => ?_) (fun h19 => ?_)
     ·rw [treeF_leaf rfl]; simp only [sxs]
     ·refine tI (u8 i > 1) (by simp only [sxs]) (fun h20 => ?_) (fun h20 => ?_)
      ·rw [treeF_leaf rfl]; simp only [sxs]
      ·refine tI (¬ u8 t = 0) (by simp only [sxs]; rw [decide_not]; rfl) (fun h21 => ?_) (fun h21 => ?_)
       ·rw [treeF_leaf rfl]; simp only [sxs]
       ·refine (treeF_call (r := [b2i (fitB (fN f) (nB a1 a0))]) (by simp only [sxs, ph_TM2_format_Fits]; rw [s_format_Fits, fN_u, nB_u]) (by rfl)).trans ?_
        refine tI (fitB (fN f) (nB a1 a0) = true) (by simp only [sxs]; exact (Bool.decide_coe _).symm) (fun h22 => ?_) (fun h22 => ?_)
        ·refine (treeF_call (r := [b2i (fitB (fN f) (nB b1 b0))]) (by simp only [sxs, ph_TM2_format_Fits]; rw [s_format_Fits, fN_u, nB_u]) (by rfl)).trans ?_
         refine tI (fitB (fN f) (nB b1 b0) = true) (by simp only [sxs]; exact (Bool.decide_coe _).symm) (fun h23 => ?_) (fun h23 => ?_)
         ·refine tI (¬ nB c1 c0 = 0) (by simp only [sxs]; rw [decide_not]; exact congrArg not (zB _ _)) (fun h24 => ?_) (fun h24 => ?_)
          ·rw [treeF_leaf rfl]; simp only [sxs]
          ·exfalso; replace h18 := Decidable.not_not.1 h18; replace h19 := Decidable.not_not.1 h19; replace h21 := Decidable.not_not.1 h21; replace h24 := Decidable.not_not.1 h24; revert hb; simp [mayI, h17, h18, h19, h20, h21, h22, h23, h24]
         ·rw [treeF_leaf rfl]; simp only [sxs]
        ·rw [treeF_leaf rfl]; simp only [sxs]
   ·refine tI (u8 o = 4) (by simp only [sxs]; rfl) (fun h25 => ?_) (fun h25 => ?_)
    ·refine tI (¬ u8 f < 4) (by simp only [sxs]; rw [decide_not]) (fun h26 => ?_) (fun h26 => ?_)
     ·rw [treeF_leaf rfl]; simp only [sxs]
     ·refine tI (¬ u8 m ≤ 4) (by simp only [sxs]; rw [decide_not]) (fun h27 => ?_) (fun h27 => ?_)
      ·rw [treeF_leaf rfl]; simp only [sxs]
      ·refine tI (u8 i > 1) (by simp only [sxs]) (fun h28 => ?_) (fun h28 => ?_)
       ·rw [treeF_leaf rfl]; simp only [sxs]
       ·refine tI (¬ u8 t = 0) (by simp only [sxs]; rw [decide_not]; rfl) (fun h29 => ?_) (fun h29 => ?_)
        ·rw [treeF_leaf rfl]; simp only [sxs]
        ·refine (treeF_call (r := [b2i (fitB (fN f) (nB a1 a0))]) (by simp only [sxs, ph_TM2_format_Fits]; rw [s_format_Fits, fN_u, nB_u]) (by rfl)).trans ?_
         refine tI (fitB (fN f) (nB a1 a0) = true) (by simp only [sxs]; exact (Bool.decide_coe _).symm) (fun h30 => ?_) (fun h30 => ?_)
         ·refine (treeF_call (r := [b2i (fitB (fN f) (nB b1 b0))]) (by simp only [sxs, ph_TM2_format_Fits]; rw [s_format_Fits, fN_u, nB_u]) (by rfl)).trans ?_
          refine tI (fitB (fN f) (nB b1 b0) = true) (by simp only [sxs]; exact (Bool.decide_coe _).symm) (fun h31 => ?_) (fun h31 => ?_)
          ·refine tI (¬ nB c1 c0 = 0) (by simp only [sxs]; rw [decide_not]; exact congrArg not (zB _ _)) (fun h32 => ?_) (fun h32 => ?_)
           ·rw [treeF_leaf rfl]; simp only [sxs]
           ·exfalso; replace h26 := Decidable.not_not.1 h26; replace h27 := Decidable.not_not.1 h27; replace h29 := Decidable.not_not.1 h29; replace h32 := Decidable.not_not.1 h32; revert hb; simp [mayI, h25, h26, h27, h28, h29, h30, h31, h32]
          ·rw [treeF_leaf rfl]; simp only [sxs]
         ·rw [treeF_leaf rfl]; simp only [sxs]
    ·refine tI (u8 o = 5) (by simp only [sxs]; rfl) (fun h33 => ?_) (fun h33 => ?_)
     ·refine tI (¬ u8 f < 4) (by simp only [sxs]; rw [decide_not]) (fun h34 => ?_) (fun h34 => ?_)
      ·rw [treeF_leaf rfl]; simp only [sxs]
      ·refine tI (¬ u8 m ≤ 4) (by simp only [sxs]; rw [decide_not]) (fun h35 => ?_) (fun h35 => ?_)
       ·rw [treeF_leaf rfl]; simp only [sxs]
       ·refine tI (u8 i > 1) (by simp only [sxs]) (fun h36 => ?_) (fun h36 => ?_)
        ·rw [treeF_leaf rfl]; simp only [sxs]
        ·refine tI (¬ u8 t = 0) (by simp only [sxs]; rw [decide_not]; rfl) (fun h37 => ?_) (fun h37 => ?_)
         ·rw [treeF_leaf rfl]; simp only [sxs]
         ·refine (treeF_call (r := [b2i (fitB (fN f) (nB a1 a0))]) (by simp only [sxs, ph_TM2_format_Fits]; rw [s_format_Fits, fN_u, nB_u]) (by rfl)).trans ?_
          refine tI (fitB (fN f) (nB a1 a0) = true) (by simp only [sxs]; exact (Bool.decide_coe _).symm) (fun h38 => ?_) (fun h38 => ?_)
          ·refine tI (nB b1 b0 = 0) (by simp only [sxs]; exact zB _ _) (fun h39 => ?_) (fun h39 => ?_)
           ·refine tI (¬ nB c1 c0 = 0) (by simp only [sxs]; rw [decide_not]; exact congrArg not (zB _ _)) (fun h40 => ?_) (fun h40 => ?_)
            ·rw [treeF_leaf rfl]; simp only [sxs]
            ·exfalso; replace h34 := Decidable.not_not.1 h34; replace h35 := Decidable.not_not.1 h35; replace h37 := Decidable.not_not.1 h37; replace h40 := Decidable.not_not.1 h40; revert hb; simp [mayI, h33, h34, h35, h36, h37, h38, h39, h40]
           ·rw [treeF_leaf rfl]; simp only [sxs]
          ·rw [treeF_leaf rfl]; simp only [sxs]
     ·refine tI (u8 o = 6) (by simp only [sxs]; rfl) (fun h41 => ?_) (fun h41 => ?_)
      ·refine tI (¬ u8 f < 4) (by simp only [sxs]; rw [decide_not]) (fun h42 => ?_) (fun h42 => ?_)
       ·rw [treeF_leaf rfl]; simp only [sxs]
       ·refine tI (¬ u8 m ≤ 4) (by simp only [sxs]; rw [decide_not]) (fun h43 => ?_) (fun h43 => ?_)
        ·rw [treeF_leaf rfl]; simp only [sxs]
        ·refine tI (u8 i > 1) (by simp only [sxs]) (fun h44 => ?_) (fun h44 => ?_)
         ·rw [treeF_leaf rfl]; simp only [sxs]
         ·refine tI (¬ u8 t = 0) (by simp only [sxs]; rw [decide_not]; rfl) (fun h45 => ?_) (fun h45 => ?_)
          ·rw [treeF_leaf rfl]; simp only [sxs]
          ·refine (treeF_call (r := [b2i (fitB (fN f) (nB a1 a0))]) (by simp only [sxs, ph_TM2_format_Fits]; rw [s_format_Fits, fN_u, nB_u]) (by rfl)).trans ?_
           refine tI (fitB (fN f) (nB a1 a0) = true) (by simp only [sxs]; exact (Bool.decide_coe _).symm) (fun h46 => ?_) (fun h46 => ?_)
           ·refine (treeF_call (r := [b2i (fitB (fN f) (nB b1 b0))]) (by simp only [sxs, ph_TM2_format_Fits]; rw [s_format_Fits, fN_u, nB_u]) (by rfl)).trans ?_
            refine tI (fitB (fN f) (nB b1 b0) = true) (by simp only [sxs]; exact (Bool.decide_coe _).symm) (fun h47 => ?_) (fun h47 => ?_)
            ·refine (treeF_call (r := [b2i (fitB (fN f) (nB c1 c0))]) (by simp only [sxs, ph_TM2_format_Fits]; rw [s_format_Fits, fN_u, nB_u]) (by rfl)).trans ?_
             refine tI (¬ fitB (fN f) (nB c1 c0) = true) (by simp only [sxs]; rw [decide_not, Bool.decide_coe]) (fun h48 => ?_) (fun h48 => ?_)
             ·rw [treeF_leaf rfl]; simp only [sxs]
             ·exfalso; replace h42 := Decidable.not_not.1 h42; replace h43 := Decidable.not_not.1 h43; replace h45 := Decidable.not_not.1 h45; replace h48 := Decidable.not_not.1 h48; revert hb; simp [mayI, h41, h42, h43, h44, h45, h46, h47, h48]
            ·rw [treeF_leaf rfl]; simp only [sxs]
           ·rw [treeF_leaf rfl]; simp only [sxs]
      ·refine tI (u8 o = 7) (by simp only [sxs]; rfl) (fun h49 => ?_) (fun h49 => ?_)
       ·refine tI (¬ u8 f < 4) (by simp only [sxs]; rw [decide_not]) (fun h50 => ?_) (fun h50 => ?_)
        ·rw [treeF_leaf rfl]; simp only [sxs]
        ·refine tI (¬ u8 m ≤ 4) (by simp only [sxs]; rw [decide_not]) (fun h51 => ?_) (fun h51 => ?_)
         ·rw [treeF_leaf rfl]; simp only [sxs]
         ·refine tI (u8 i > 1) (by simp only [sxs]) (fun h52 => ?_) (fun h52 => ?_)
          ·rw [treeF_leaf rfl]; simp only [sxs]
          ·refine tI (¬ u8 t = 0) (by simp only [sxs]; rw [decide_not]; rfl) (fun h53 => ?_) (fun h53 => ?_)
           ·rw [treeF_leaf rfl]; simp only [sxs]
           ·refine (treeF_call (r := [b2i (fitB (fN f) (nB a1 a0))]) (by simp only [sxs, ph_TM2_format_Fits]; rw [s_format_Fits, fN_u, nB_u]) (by rfl)).trans ?_
            refine tI (fitB (fN f) (nB a1 a0) = true) (by simp only [sxs]; exact (Bool.decide_coe _).symm) (fun h54 => ?_) (fun h54 => ?_)
            ·refine (treeF_call (r := [b2i (fitB (fN f) (nB b1 b0))]) (by simp only [sxs, ph_TM2_format_Fits]; rw [s_format_Fits, fN_u, nB_u]) (by rfl)).trans ?_
             refine tI (fitB (fN f) (nB b1 b0) = true) (by simp only [sxs]; exact (Bool.decide_coe _).symm) (fun h55 => ?_) (fun h55 => ?_)
             ·refine tI (¬ nB c1 c0 = 0) (by simp only [sxs]; rw [decide_not]; exact congrArg not (zB _ _)) (fun h56 => ?_) (fun h56 => ?_)
              ·rw [treeF_leaf rfl]; simp only [sxs]
              ·exfalso; replace h50 := Decidable.not_not.1 h50; replace h51 := Decidable.not_not.1 h51; replace h53 := Decidable.not_not.1 h53; replace h56 := Decidable.not_not.1 h56; revert hb; simp [mayI, h49, h50, h51, h52, h53, h54, h55, h56]
             ·rw [treeF_leaf rfl]; simp only [sxs]
            ·rw [treeF_leaf rfl]; simp only [sxs]
       ·refine tI (u8 o = 8) (by simp only [sxs]; rfl) (fun h57 => ?_) (fun h57 => ?_)
        ·refine tI (¬ u8 f < 4) (by simp only [sxs]; rw [decide_not]) (fun h58 => ?_) (fun h58 => ?_)
         ·rw [treeF_leaf rfl]; simp only [sxs]
         ·refine tI (¬ u8 m ≤ 4) (by simp only [sxs]; rw [decide_not]) (fun h59 => ?_) (fun h59 => ?_)
          ·rw [treeF_leaf rfl]; simp only [sxs]
          ·refine tI (u8 i > 1) (by simp only [sxs]) (fun h60 => ?_) (fun h60 => ?_)
           ·rw [treeF_leaf rfl]; simp only [sxs]
           ·refine tI (¬ u8 t = 0) (by simp only [sxs]; rw [decide_not]; rfl) (fun h61 => ?_) (fun h61 => ?_)
            ·rw [treeF_leaf rfl]; simp only [sxs]
            ·refine (treeF_call (r := [b2i (fitB (fN f) (nB a1 a0))]) (by simp only [sxs, ph_TM2_format_Fits]; rw [s_format_Fits, fN_u, nB_u]) (by rfl)).trans ?_
             refine tI (fitB (fN f) (nB a1 a0) = true) (by simp only [sxs]; exact (Bool.decide_coe _).symm) (fun h62 => ?_) (fun h62 => ?_)
             ·refine tI (nB b1 b0 = 0) (by simp only [sxs]; exact zB _ _) (fun h63 => ?_) (fun h63 => ?_)
              ·refine tI (¬ nB c1 c0 = 0) (by simp only [sxs]; rw [decide_not]; exact congrArg not (zB _ _)) (fun h64 => ?_) (fun h64 => ?_)
               ·rw [treeF_leaf rfl]; simp only [sxs]
               ·exfalso; replace h58 := Decidable.not_not.1 h58; replace h59 := Decidable.not_not.1 h59; replace h61 := Decidable.not_not.1 h61; replace h64 := Decidable.not_not.1 h64; revert hb; simp [mayI, h57, h58, h59, h60, h61, h62, h63, h64]
              ·rw [treeF_leaf rfl]; simp only [sxs]
             ·rw [treeF_leaf rfl]; simp only [sxs]
        ·refine tI (u8 o = 9) (by simp only [sxs]; rfl) (fun h65 => ?_) (fun h65 => ?_)
         ·refine tI (¬ u8 f < 4) (by simp only [sxs]; rw [decide_not]) (fun h66 => ?_) (fun h66 => ?_)
          ·rw [treeF_leaf rfl]; simp only [sxs]
          ·refine tI (¬ u8 m ≤ 4) (by simp only [sxs]; rw [decide_not]) (fun h67 => ?_) (fun h67 => ?_)
           ·rw [treeF_leaf rfl]; simp only [sxs]
           ·refine tI (u8 i > 1) (by simp only [sxs]) (fun h68 => ?_) (fun h68 => ?_)
            ·rw [treeF_leaf rfl]; simp only [sxs]
            ·refine tI (¬ u8 t = 0) (by simp only [sxs]; rw [decide_not]; rfl) (fun h69 => ?_) (fun h69 => ?_)
             ·rw [treeF_leaf rfl]; simp only [sxs]
             ·refine (treeF_call (r := [b2i (fitB (fN f) (nB a1 a0))]) (by simp only [sxs, ph_TM2_format_Fits]; rw [s_format_Fits, fN_u, nB_u]) (by rfl)).trans ?_
              refine tI (fitB (fN f) (nB a1 a0) = true) (by simp only [sxs]; exact (Bool.decide_coe _).symm) (fun h70 => ?_) (fun h70 => ?_)
              ·refine tI (nB b1 b0 = 0) (by simp only [sxs]; exact zB _ _) (fun h71 => ?_) (fun h71 => ?_)
               ·refine tI (¬ nB c1 c0 = 0) (by simp only [sxs]; rw [decide_not]; exact congrArg not (zB _ _)) (fun h72 => ?_) (fun h72 => ?_)
                ·rw [treeF_leaf rfl]; simp only [sxs]
                ·exfalso; replace h66 := Decidable.not_not.1 h66; replace h67 := Decidable.not_not.1 h67; replace h69 := Decidable.not_not.1 h69; replace h72 := Decidable.not_not.1 h72; revert hb; simp [mayI, h65, h66, h67, h68, h69, h70, h71, h72]
               ·rw [treeF_leaf rfl]; simp only [sxs]
              ·rw [treeF_leaf rfl]; simp only [sxs]
         ·refine tI (u8 o = 10) (by simp only [sxs]; rfl) (fun h73 => ?_) (fun h73 => ?_)
          ·refine tI (¬ u8 f < 4) (by simp only [sxs]; rw [decide_not]) (fun h74 => ?_) (fun h74 => ?_)
           ·rw [treeF_leaf rfl]; simp only [sxs]
           ·refine tI (¬ u8 m ≤ 4) (by simp only [sxs]; rw [decide_not]) (fun h75 => ?_) (fun h75 => ?_)
            ·rw [treeF_leaf rfl]; simp only [sxs]
            ·refine tI (u8 i > 1) (by simp only [sxs]) (fun h76 => ?_) (fun h76 => ?_)
             ·rw [treeF_leaf rfl]; simp only [sxs]
             ·refine tI (¬ u8 t < 4) (by simp only [sxs]; rw [decide_not]) (fun h77 => ?_) (fun h77 => ?_)
              ·rw [treeF_leaf rfl]; simp only [sxs]
              ·refine (treeF_call (r := [b2i (fitB (fN f) (nB a1 a0))]) (by simp only [sxs, ph_TM2_format_Fits]; rw [s_format_Fits, fN_u, nB_u]) (by rfl)).trans ?_
               refine tI (fitB (fN f) (nB a1 a0) = true) (by simp only [sxs]; exact (Bool.decide_coe _).symm) (fun h78 => ?_) (fun h78 => ?_)
               ·refine tI (nB b1 b0 = 0) (by simp only [sxs]; exact zB _ _) (fun h79 => ?_) (fun h79 => ?_)
                ·refine tI (¬ nB c1 c0 = 0) (by simp only [sxs]; rw [decide_not]; exact congrArg not (zB _ _)) (fun h80 => ?_) (fun h80 => ?_)
                 ·rw [treeF_leaf rfl]; simp only [sxs]
                 ·exfalso; replace h74 := Decidable.not_not.1 h74; replace h75 := Decidable.not_not.1 h75; replace h77 := Decidable.not_not.1 h77; replace h80 := Decidable.not_not.1 h80; revert hb; simp [mayI, h73, h74, h75, h76, h77, h78, h79, h80]
                ·rw [treeF_leaf rfl]; simp only [sxs]
               ·rw [treeF_leaf rfl]; simp only [sxs]
          ·refine tI (u8 o = 11) (by simp only [sxs]; rfl) (fun h81 => ?_) (fun h81 => ?_)
           ·refine tI (¬ u8 f < 4) (by simp only [sxs]; rw [decide_not]) (fun h82 => ?_) (fun h82 => ?_)
            ·rw [treeF_leaf rfl]; simp only [sxs]
            ·refine tI (¬ u8 m ≤ 4) (by simp only [sxs]; rw [decide_not]) (fun h83 => ?_) (fun h83 => ?_)
             ·rw [treeF_leaf rfl]; simp only [sxs]
             ·refine tI (u8 i > 1) (by simp only [sxs]) (fun h84 => ?_) (fun h84 => ?_)
              ·rw [treeF_leaf rfl]; simp only [sxs]
              ·refine tI (¬ u8 t < 4) (by simp only [sxs]; rw [decide_not]) (fun h85 => ?_) (fun h85 => ?_)
               ·rw [treeF_leaf rfl]; simp only [sxs]
               ·refine (treeF_call (r := [b2i (fitB (fN f) (nB a1 a0))]) (by simp only [sxs, ph_TM2_format_Fits]; rw [s_format_Fits, fN_u, nB_u]) (by rfl)).trans ?_
                refine tI (fitB (fN f) (nB a1 a0) = true) (by simp only [sxs]; exact (Bool.decide_coe _).symm) (fun h86 => ?_) (fun h86 => ?_)
                ·refine tI (nB b1 b0 = 0) (by simp only [sxs]; exact zB _ _) (fun h87 => ?_) (fun h87 => ?_)
                 ·refine tI (¬ nB c1 c0 = 0) (by simp only [sxs]; rw [decide_not]; exact congrArg not (zB _ _)) (fun h88 => ?_) (fun h88 => ?_)
                  ·rw [treeF_leaf rfl]; simp only [sxs]
                  ·exfalso; replace h82 := Decidable.not_not.1 h82; replace h83 := Decidable.not_not.1 h83; replace h85 := Decidable.not_not.1 h85; replace h88 := Decidable.not_not.1 h88; revert hb; simp [mayI, h81, h82, h83, h84, h85, h86, h87, h88]
                 ·rw [treeF_leaf rfl]; simp only [sxs]
                ·rw [treeF_leaf rfl]; simp only [sxs]
           ·refine tI (u8 o = 12) (by simp only [sxs]; rfl) (fun h89 => ?_) (fun h89 => ?_)
            ·refine tI (¬ u8 f < 4) (by simp only [sxs]; rw [decide_not]) (fun h90 => ?_) (fun h90 => ?_)
             ·rw [treeF_leaf rfl]; simp only [sxs]
             ·refine tI (¬ u8 m ≤ 4) (by simp only [sxs]; rw [decide_not]) (fun h91 => ?_) (fun h91 => ?_)
              ·rw [treeF_leaf rfl]; simp only [sxs]
              ·refine tI (u8 i > 1) (by simp only [sxs]) (fun h92 => ?_) (fun h92 => ?_)
               ·rw [treeF_leaf rfl]; simp only [sxs]
               ·refine tI (¬ u8 t < 4) (by simp only [sxs]; rw [decide_not]) (fun h93 => ?_) (fun h93 => ?_)
                ·rw [treeF_leaf rfl]; simp only [sxs]
                ·refine tI (u64 a1 = 0) (by simp only [sxs]; rfl) (fun h94 => ?_) (fun h94 => ?_)
                 ·refine (treeF_call (r := [b2i (hasK (fN t) (u64 a0).toNat)]) (by simp only [sxs, ph_TM2_fromint_Has]; rw [s_fromint_Has, fN_u, u64_u64]) (by rfl)).trans ?_
                  refine tI (hasK (fN t) (u64 a0).toNat = true) (by simp only [sxs]; exact (Bool.decide_coe _).symm) (fun h95 => ?_) (fun h95 => ?_)
                  ·refine tI (nB b1 b0 = 0) (by simp only [sxs]; exact zB _ _) (fun h96 => ?_) (fun h96 => ?_)
                   ·refine tI (¬ nB c1 c0 = 0) (by simp only [sxs]; rw [decide_not]; exact congrArg not (zB _ _)) (fun h97 => ?_) (fun h97 => ?_)
                    ·rw [treeF_leaf rfl]; simp only [sxs]
                    ·exfalso; replace h90 := Decidable.not_not.1 h90; replace h91 := Decidable.not_not.1 h91; replace h93 := Decidable.not_not.1 h93; replace h97 := Decidable.not_not.1 h97; revert hb; simp [mayI, h89, h90, h91, h92, h93, h94, h95, h96, h97]
                   ·rw [treeF_leaf rfl]; simp only [sxs]
                  ·rw [treeF_leaf rfl]; simp only [sxs]
                 ·rw [treeF_leaf rfl]; simp only [sxs]
            ·refine tI (u8 o = 13) (by simp only [sxs]; rfl) (fun h98 => ?_) (fun h98 => ?_)
             ·refine tI (¬ u8 f < 4) (by simp only [sxs]; rw [decide_not]) (fun h99 => ?_) (fun h99 => ?_)
              ·rw [treeF_leaf rfl]; simp only [sxs]
              ·refine tI (¬ u8 m ≤ 4) (by simp only [sxs]; rw [decide_not]) (fun h100 => ?_) (fun h100 => ?_)
               ·rw [treeF_leaf rfl]; simp only [sxs]
               ·refine tI (u8 i > 1) (by simp only [sxs]) (fun h101 => ?_) (fun h101 => ?_)
                ·rw [treeF_leaf rfl]; simp only [sxs]
                ·refine tI (¬ u8 t = 0) (by simp only [sxs]; rw [decide_not]; rfl) (fun h102 => ?_) (fun h102 => ?_)
                 ·rw [treeF_leaf rfl]; simp only [sxs]
                 ·refine (treeF_call (r := [b2i (fitB (fN f) (nB a1 a0))]) (by simp only [sxs, ph_TM2_format_Fits]; rw [s_format_Fits, fN_u, nB_u]) (by rfl)).trans ?_
                  refine tI (fitB (fN f) (nB a1 a0) = true) (by simp only [sxs]; exact (Bool.decide_coe _).symm) (fun h103 => ?_) (fun h103 => ?_)
                  ·refine (treeF_call (r := [b2i (fitB (fN f) (nB b1 b0))]) (by simp only [sxs, ph_TM2_format_Fits]; rw [s_format_Fits, fN_u, nB_u]) (by rfl)).trans ?_
                   refine tI (fitB (fN f) (nB b1 b0) = true) (by simp only [sxs]; exact (Bool.decide_coe _).symm) (fun h104 => ?_) (fun h104 => ?_)
                   ·refine tI (¬ nB c1 c0 = 0) (by simp only [sxs]; rw [decide_not]; exact congrArg not (zB _ _)) (fun h105 => ?_) (fun h105 => ?_)
                    ·rw [treeF_leaf rfl]; simp only [sxs]
                    ·exfalso; replace h99 := Decidable.not_not.1 h99; replace h100 := Decidable.not_not.1 h100; replace h102 := Decidable.not_not.1 h102; replace h105 := Decidable.not_not.1 h105; revert hb; simp [mayI, h98, h99, h100, h101, h102, h103, h104, h105]
                   ·rw [treeF_leaf rfl]; simp only [sxs]
                  ·rw [treeF_leaf rfl]; simp only [sxs]
             ·refine tI (u8 o = 14) (by simp only [sxs]; rfl) (fun h106 => ?_) (fun h106 => ?_)
              ·refine tI (¬ u8 f < 4) (by simp only [sxs]; rw [decide_not]) (fun h107 => ?_) (fun h107 => ?_)
               ·rw [treeF_leaf rfl]; simp only [sxs]
               ·refine tI (¬ u8 m ≤ 4) (by simp only [sxs]; rw [decide_not]) (fun h108 => ?_) (fun h108 => ?_)
                ·rw [treeF_leaf rfl]; simp only [sxs]
                ·refine tI (u8 i > 1) (by simp only [sxs]) (fun h109 => ?_) (fun h109 => ?_)
                 ·rw [treeF_leaf rfl]; simp only [sxs]
                 ·refine tI (¬ u8 t = 0) (by simp only [sxs]; rw [decide_not]; rfl) (fun h110 => ?_) (fun h110 => ?_)
                  ·rw [treeF_leaf rfl]; simp only [sxs]
                  ·refine (treeF_call (r := [b2i (fitB (fN f) (nB a1 a0))]) (by simp only [sxs, ph_TM2_format_Fits]; rw [s_format_Fits, fN_u, nB_u]) (by rfl)).trans ?_
                   refine tI (fitB (fN f) (nB a1 a0) = true) (by simp only [sxs]; exact (Bool.decide_coe _).symm) (fun h111 => ?_) (fun h111 => ?_)
                   ·refine (treeF_call (r := [b2i (fitB (fN f) (nB b1 b0))]) (by simp only [sxs, ph_TM2_format_Fits]; rw [s_format_Fits, fN_u, nB_u]) (by rfl)).trans ?_
                    refine tI (fitB (fN f) (nB b1 b0) = true) (by simp only [sxs]; exact (Bool.decide_coe _).symm) (fun h112 => ?_) (fun h112 => ?_)
                    ·refine tI (¬ nB c1 c0 = 0) (by simp only [sxs]; rw [decide_not]; exact congrArg not (zB _ _)) (fun h113 => ?_) (fun h113 => ?_)
                     ·rw [treeF_leaf rfl]; simp only [sxs]
                     ·exfalso; replace h107 := Decidable.not_not.1 h107; replace h108 := Decidable.not_not.1 h108; replace h110 := Decidable.not_not.1 h110; replace h113 := Decidable.not_not.1 h113; revert hb; simp [mayI, h106, h107, h108, h109, h110, h111, h112, h113]
                    ·rw [treeF_leaf rfl]; simp only [sxs]
                   ·rw [treeF_leaf rfl]; simp only [sxs]
              ·rw [treeF_leaf rfl]; simp only [sxs]
end Go.Proofs.YtemomocmfggiaaaGreatDoor
