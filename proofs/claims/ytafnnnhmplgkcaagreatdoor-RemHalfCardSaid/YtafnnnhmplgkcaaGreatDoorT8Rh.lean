import Derived.Test.YtafnnnhmplgkcaaGreatDoorP25Rh
import Derived.Test.YtafnnnhmplgkcaaGreatDoorP29Rh
import Derived.Test.YtafnnnhmplgkcaaGreatDoorV4Rh
/- Laws of remainders: no more than half of b; a number and b together. -/
namespace Go.Proofs.YtafnnnhmplgkcaaGreatDoor
set_option linter.unusedVariables false
set_option linter.unusedSimpArgs false
set_option maxRecDepth 100000
open Go.RowKit
theorem true_RemHalf (l : List Int) (h : l.length = 5) : F_law23_RemHalf l = [1] := by
  match l, h with
  | [f, a1, a0, b1, b0], _ =>
  rw [F_law23_RemHalf, t_law23_RemHalf]
  by_cases hf : fN f < 4
  · have known := known_f hf
    have u8B := clsF_u8 (fN f) (nB b1 b0)
    by_cases ha : clsF (fN f) (nB a1 a0) < 3
    · by_cases hb : clsF (fN f) (nB b1 b0) = 1 ∨ clsF (fN f) (nB b1 b0) = 2
      · obtain ⟨R, Rl, R3, k1, w1, w2, w3⟩ := remR_half hf ha hb
        obtain ⟨R2, R2l, R23, k5, -, -, -⟩ := remR_half hf R3 hb
        have ol := addR_lt hf 4 false (sizeN (fN f) (nB a1 a0)) (sizeN (fN f) (nB a1 a0))
        have tl := addR_lt hf 4 false (sizeN (fN f) R) (sizeN (fN f) R)
        have og := addR_flag (fN f) 4 false (sizeN (fN f) (nB a1 a0)) (sizeN (fN f) (nB a1 a0))
        have tg := addR_flag (fN f) 4 false (sizeN (fN f) R) (sizeN (fN f) R)
        have sl := size_lt hf (nB b1 b0)
        generalize k2 : addR (fN f) 4 false (sizeN (fN f) R) (sizeN (fN f) R) = TW at *
        generalize k3 : addR (fN f) 4 false (sizeN (fN f) (nB a1 a0)) (sizeN (fN f) (nB a1 a0)) = OW at *
        obtain ⟨w, g⟩ := TW
        obtain ⟨o, k⟩ := OW
        simp only at w1 w2 ol tl og tg
        rw [k5] at w3
        have g8 := u8_flag (k := g) (by omega)
        have o8 := u8_flag (k := k) (by omega)
        have w3' : R2 = R ∨ (¬ R2 = R ∧ w = sizeN (fN f) (nB b1 b0) ∧ g = 0) := by
          by_cases e : R2 = R
          · exact .inl e
          · rcases w3 with h | h
            · exact absurd (congrArg Prod.fst h) e
            · exact .inr ⟨e, congrArg Prod.fst h, congrArg Prod.snd h⟩
        clear w3
        rcases hb with hd | hd
        · rcases w3' with he | ⟨he, rfl, rfl⟩
          · replace he := he.symm; subst he
            by_cases hk : k = 0
            · by_cases ho : o < sizeN (fN f) (nB b1 b0)
              · obtain rfl := w2 hk ho
                refine (treeF_call (r := [((clsF (fN f) (nB b1 b0) : Nat) : Int), b2i (FP.sgn (fN f) (nB b1 b0))]) (by simp only [sxs, ph_V4_class_Of, u8_0, u64_0]; exact k_class_Of (fN_u f) hf (nB_u _ _)) (by rfl)).trans ?_
                refine tF (by simp only [sxs, u8_0, u64_0]; exact known) ?_
                refine (treeF_call (r := [b2i (decide (clsF (fN f) (nB a1 a0) < 3))]) (by simp only [sxs, ph_V4_class_Finite, u8_0, u64_0]; exact k_class_Finite (fN_u f) hf (nB_u _ _)) (by rfl)).trans ?_
                refine tF (by exact nT (by simp only [sxs, u8_0, u64_0]; exact decide_eq_true (ha))) ?_
                refine tF (by simp only [sxs, u8B]; exact (bne_nk _ 1).trans (decide_eq_false (by omega))) ?_
                refine (treeF_call (r := [wd (nB a1 a0 % 2 ^ FP.fW (fN f)) 1, wd (nB a1 a0 % 2 ^ FP.fW (fN f)) 0, (0 : Int)]) (by simp only [sxs, ph_V4_rem_Rem, u8_0, u64_0]; exact (k_rem_Rem (fN_u f) hf (nB_u _ _) (nB_u _ _)).trans (by rw [k1]; try rfl)) (by rfl)).trans ?_
                refine tF (by simp only [sxs, u8_0, u64_0]; simp only [beq_self_eq_true, bne_self_eq_false]) ?_
                refine (treeF_call (r := [b2i (decide (clsF (fN f) (nB a1 a0 % 2 ^ FP.fW (fN f)) < 3))]) (by simp only [sxs, ph_V4_class_Finite, u8_0, u64_0]; exact k_class_Finite (fN_u f) hf (nB_small (Rl))) (by rfl)).trans ?_
                refine tF (by exact nT (by simp only [sxs, u8_0, u64_0]; exact decide_eq_true (R3))) ?_
                refine (treeF_call (r := [wd (sizeN (fN f) (nB a1 a0 % 2 ^ FP.fW (fN f))) 1, wd (sizeN (fN f) (nB a1 a0 % 2 ^ FP.fW (fN f))) 0]) (by simp only [sxs, ph_V4_law23_size, u8_0, u64_0]; exact k_law23_size (fN_u f) hf (nB_small (Rl))) (by rfl)).trans ?_
                refine (treeF_call (r := [wd (sizeN (fN f) (nB b1 b0)) 1, wd (sizeN (fN f) (nB b1 b0)) 0]) (by simp only [sxs, ph_V4_law23_size, u8_0, u64_0]; exact k_law23_size (fN_u f) hf (nB_u _ _)) (by rfl)).trans ?_
                refine (treeF_call (r := [wd (w) 1, wd (w) 0, ((g : Nat) : Int)]) (by simp only [sxs, ph_V4_addsub_Add, u8_0, u64_0]; exact (k_addsub_Add (fN_u f) hf ((md_lit 4 (by decide)).1) ((md_lit 4 (by decide)).2) (show iNz 0 = false from rfl) (nB_small (size_lt hf _)) (nB_small (size_lt hf _))).trans (by rw [k2]; try rfl)) (by rfl)).trans ?_
                refine (treeF_call (r := [nCmp (w) (sizeN (fN f) (nB b1 b0))]) (by simp only [sxs, ph_V4_word_Cmp, u8_0, u64_0]; exact k_wordCmp (tl) (size_lt hf _)) (by rfl)).trans ?_
                refine tF (by simp only [sxs, nCmp_i64]; exact nCmp_gt.trans (decide_eq_false (by omega))) ?_
                refine (treeF_call (r := [wd (sizeN (fN f) (nB a1 a0)) 1, wd (sizeN (fN f) (nB a1 a0)) 0]) (by simp only [sxs, ph_V4_law23_size, u8_0, u64_0]; exact k_law23_size (fN_u f) hf (nB_u _ _)) (by rfl)).trans ?_
                refine (treeF_call (r := [wd (sizeN (fN f) (nB a1 a0)) 1, wd (sizeN (fN f) (nB a1 a0)) 0]) (by simp only [sxs, ph_V4_law23_size, u8_0, u64_0]; exact k_law23_size (fN_u f) hf (nB_u _ _)) (by rfl)).trans ?_
                refine (treeF_call (r := [wd (o) 1, wd (o) 0, ((k : Nat) : Int)]) (by simp only [sxs, ph_V4_addsub_Add, u8_0, u64_0]; exact (k_addsub_Add (fN_u f) hf ((md_lit 4 (by decide)).1) ((md_lit 4 (by decide)).2) (show iNz 0 = false from rfl) (nB_small (size_lt hf _)) (nB_small (size_lt hf _))).trans (by rw [k3]; try rfl)) (by rfl)).trans ?_
                refine tT (by simp only [sxs, o8]; exact (beq_nk0 k).trans (decide_eq_true hk)) ?_
                refine (treeF_call (r := [nCmp (o) (sizeN (fN f) (nB b1 b0))]) (by simp only [sxs, ph_V4_word_Cmp, u8_0, u64_0]; exact k_wordCmp (ol) (size_lt hf _)) (by rfl)).trans ?_
                refine tT (by simp only [sxs, nCmp_i64]; exact nCmp_lt.trans (decide_eq_true ho)) ?_
                refine (treeF_call (r := [wd (nB a1 a0 % 2 ^ FP.fW (fN f)) 1, wd (nB a1 a0 % 2 ^ FP.fW (fN f)) 0]) (by simp only [sxs, ph_V4_format_Cut, u8_0, u64_0]; exact k_format_Cut (fN_u f) (nB_u _ _)) (by rfl)).trans ?_
                refine tF (by exact nT (by simp only [sxs, u8_0, u64_0]; simp only [beq_self_eq_true, Bool.and_true, Bool.and_self, bt1, bt0])) ?_
                refine (treeF_call (r := [wd (nB a1 a0 % 2 ^ FP.fW (fN f)) 1, wd (nB a1 a0 % 2 ^ FP.fW (fN f)) 0, (0 : Int)]) (by simp only [sxs, ph_V4_rem_Rem, u8_0, u64_0]; exact (k_rem_Rem (fN_u f) hf (nB_small (Rl)) (nB_u _ _)).trans (by rw [k5]; try rfl)) (by rfl)).trans ?_
                refine tT (by simp only [sxs, u8_0, u64_0]; simp only [beq_self_eq_true, Bool.and_true, Bool.and_self, bt1, bt0]) ?_
                rw [treeF_leaf rfl]; rfl
              · skip
                refine (treeF_call (r := [((clsF (fN f) (nB b1 b0) : Nat) : Int), b2i (FP.sgn (fN f) (nB b1 b0))]) (by simp only [sxs, ph_V4_class_Of, u8_0, u64_0]; exact k_class_Of (fN_u f) hf (nB_u _ _)) (by rfl)).trans ?_
                refine tF (by simp only [sxs, u8_0, u64_0]; exact known) ?_
                refine (treeF_call (r := [b2i (decide (clsF (fN f) (nB a1 a0) < 3))]) (by simp only [sxs, ph_V4_class_Finite, u8_0, u64_0]; exact k_class_Finite (fN_u f) hf (nB_u _ _)) (by rfl)).trans ?_
                refine tF (by exact nT (by simp only [sxs, u8_0, u64_0]; exact decide_eq_true (ha))) ?_
                refine tF (by simp only [sxs, u8B]; exact (bne_nk _ 1).trans (decide_eq_false (by omega))) ?_
                refine (treeF_call (r := [wd (R) 1, wd (R) 0, (0 : Int)]) (by simp only [sxs, ph_V4_rem_Rem, u8_0, u64_0]; exact (k_rem_Rem (fN_u f) hf (nB_u _ _) (nB_u _ _)).trans (by rw [k1]; try rfl)) (by rfl)).trans ?_
                refine tF (by simp only [sxs, u8_0, u64_0]; simp only [beq_self_eq_true, bne_self_eq_false]) ?_
                refine (treeF_call (r := [b2i (decide (clsF (fN f) (R) < 3))]) (by simp only [sxs, ph_V4_class_Finite, u8_0, u64_0]; exact k_class_Finite (fN_u f) hf (nB_small (Rl))) (by rfl)).trans ?_
                refine tF (by exact nT (by simp only [sxs, u8_0, u64_0]; exact decide_eq_true (R3))) ?_
                refine (treeF_call (r := [wd (sizeN (fN f) (R)) 1, wd (sizeN (fN f) (R)) 0]) (by simp only [sxs, ph_V4_law23_size, u8_0, u64_0]; exact k_law23_size (fN_u f) hf (nB_small (Rl))) (by rfl)).trans ?_
                refine (treeF_call (r := [wd (sizeN (fN f) (nB b1 b0)) 1, wd (sizeN (fN f) (nB b1 b0)) 0]) (by simp only [sxs, ph_V4_law23_size, u8_0, u64_0]; exact k_law23_size (fN_u f) hf (nB_u _ _)) (by rfl)).trans ?_
                refine (treeF_call (r := [wd (w) 1, wd (w) 0, ((g : Nat) : Int)]) (by simp only [sxs, ph_V4_addsub_Add, u8_0, u64_0]; exact (k_addsub_Add (fN_u f) hf ((md_lit 4 (by decide)).1) ((md_lit 4 (by decide)).2) (show iNz 0 = false from rfl) (nB_small (size_lt hf _)) (nB_small (size_lt hf _))).trans (by rw [k2]; try rfl)) (by rfl)).trans ?_
                refine (treeF_call (r := [nCmp (w) (sizeN (fN f) (nB b1 b0))]) (by simp only [sxs, ph_V4_word_Cmp, u8_0, u64_0]; exact k_wordCmp (tl) (size_lt hf _)) (by rfl)).trans ?_
                refine tF (by simp only [sxs, nCmp_i64]; exact nCmp_gt.trans (decide_eq_false (by omega))) ?_
                refine (treeF_call (r := [wd (sizeN (fN f) (nB a1 a0)) 1, wd (sizeN (fN f) (nB a1 a0)) 0]) (by simp only [sxs, ph_V4_law23_size, u8_0, u64_0]; exact k_law23_size (fN_u f) hf (nB_u _ _)) (by rfl)).trans ?_
                refine (treeF_call (r := [wd (sizeN (fN f) (nB a1 a0)) 1, wd (sizeN (fN f) (nB a1 a0)) 0]) (by simp only [sxs, ph_V4_law23_size, u8_0, u64_0]; exact k_law23_size (fN_u f) hf (nB_u _ _)) (by rfl)).trans ?_
                refine (treeF_call (r := [wd (o) 1, wd (o) 0, ((k : Nat) : Int)]) (by simp only [sxs, ph_V4_addsub_Add, u8_0, u64_0]; exact (k_addsub_Add (fN_u f) hf ((md_lit 4 (by decide)).1) ((md_lit 4 (by decide)).2) (show iNz 0 = false from rfl) (nB_small (size_lt hf _)) (nB_small (size_lt hf _))).trans (by rw [k3]; try rfl)) (by rfl)).trans ?_
                refine tT (by simp only [sxs, o8]; exact (beq_nk0 k).trans (decide_eq_true hk)) ?_
                refine (treeF_call (r := [nCmp (o) (sizeN (fN f) (nB b1 b0))]) (by simp only [sxs, ph_V4_word_Cmp, u8_0, u64_0]; exact k_wordCmp (ol) (size_lt hf _)) (by rfl)).trans ?_
                refine tF (by simp only [sxs, nCmp_i64]; exact nCmp_lt.trans (decide_eq_false ho)) ?_
                refine (treeF_call (r := [wd (R) 1, wd (R) 0, (0 : Int)]) (by simp only [sxs, ph_V4_rem_Rem, u8_0, u64_0]; exact (k_rem_Rem (fN_u f) hf (nB_small (Rl)) (nB_u _ _)).trans (by rw [k5]; try rfl)) (by rfl)).trans ?_
                refine tT (by simp only [sxs, u8_0, u64_0]; simp only [beq_self_eq_true, Bool.and_true, Bool.and_self, bt1, bt0]) ?_
                rw [treeF_leaf rfl]; rfl
            · skip
              refine (treeF_call (r := [((clsF (fN f) (nB b1 b0) : Nat) : Int), b2i (FP.sgn (fN f) (nB b1 b0))]) (by simp only [sxs, ph_V4_class_Of, u8_0, u64_0]; exact k_class_Of (fN_u f) hf (nB_u _ _)) (by rfl)).trans ?_
              refine tF (by simp only [sxs, u8_0, u64_0]; exact known) ?_
              refine (treeF_call (r := [b2i (decide (clsF (fN f) (nB a1 a0) < 3))]) (by simp only [sxs, ph_V4_class_Finite, u8_0, u64_0]; exact k_class_Finite (fN_u f) hf (nB_u _ _)) (by rfl)).trans ?_
              refine tF (by exact nT (by simp only [sxs, u8_0, u64_0]; exact decide_eq_true (ha))) ?_
              refine tF (by simp only [sxs, u8B]; exact (bne_nk _ 1).trans (decide_eq_false (by omega))) ?_
              refine (treeF_call (r := [wd (R) 1, wd (R) 0, (0 : Int)]) (by simp only [sxs, ph_V4_rem_Rem, u8_0, u64_0]; exact (k_rem_Rem (fN_u f) hf (nB_u _ _) (nB_u _ _)).trans (by rw [k1]; try rfl)) (by rfl)).trans ?_
              refine tF (by simp only [sxs, u8_0, u64_0]; simp only [beq_self_eq_true, bne_self_eq_false]) ?_
              refine (treeF_call (r := [b2i (decide (clsF (fN f) (R) < 3))]) (by simp only [sxs, ph_V4_class_Finite, u8_0, u64_0]; exact k_class_Finite (fN_u f) hf (nB_small (Rl))) (by rfl)).trans ?_
              refine tF (by exact nT (by simp only [sxs, u8_0, u64_0]; exact decide_eq_true (R3))) ?_
              refine (treeF_call (r := [wd (sizeN (fN f) (R)) 1, wd (sizeN (fN f) (R)) 0]) (by simp only [sxs, ph_V4_law23_size, u8_0, u64_0]; exact k_law23_size (fN_u f) hf (nB_small (Rl))) (by rfl)).trans ?_
              refine (treeF_call (r := [wd (sizeN (fN f) (nB b1 b0)) 1, wd (sizeN (fN f) (nB b1 b0)) 0]) (by simp only [sxs, ph_V4_law23_size, u8_0, u64_0]; exact k_law23_size (fN_u f) hf (nB_u _ _)) (by rfl)).trans ?_
              refine (treeF_call (r := [wd (w) 1, wd (w) 0, ((g : Nat) : Int)]) (by simp only [sxs, ph_V4_addsub_Add, u8_0, u64_0]; exact (k_addsub_Add (fN_u f) hf ((md_lit 4 (by decide)).1) ((md_lit 4 (by decide)).2) (show iNz 0 = false from rfl) (nB_small (size_lt hf _)) (nB_small (size_lt hf _))).trans (by rw [k2]; try rfl)) (by rfl)).trans ?_
              refine (treeF_call (r := [nCmp (w) (sizeN (fN f) (nB b1 b0))]) (by simp only [sxs, ph_V4_word_Cmp, u8_0, u64_0]; exact k_wordCmp (tl) (size_lt hf _)) (by rfl)).trans ?_
              refine tF (by simp only [sxs, nCmp_i64]; exact nCmp_gt.trans (decide_eq_false (by omega))) ?_
              refine (treeF_call (r := [wd (sizeN (fN f) (nB a1 a0)) 1, wd (sizeN (fN f) (nB a1 a0)) 0]) (by simp only [sxs, ph_V4_law23_size, u8_0, u64_0]; exact k_law23_size (fN_u f) hf (nB_u _ _)) (by rfl)).trans ?_
              refine (treeF_call (r := [wd (sizeN (fN f) (nB a1 a0)) 1, wd (sizeN (fN f) (nB a1 a0)) 0]) (by simp only [sxs, ph_V4_law23_size, u8_0, u64_0]; exact k_law23_size (fN_u f) hf (nB_u _ _)) (by rfl)).trans ?_
              refine (treeF_call (r := [wd (o) 1, wd (o) 0, ((k : Nat) : Int)]) (by simp only [sxs, ph_V4_addsub_Add, u8_0, u64_0]; exact (k_addsub_Add (fN_u f) hf ((md_lit 4 (by decide)).1) ((md_lit 4 (by decide)).2) (show iNz 0 = false from rfl) (nB_small (size_lt hf _)) (nB_small (size_lt hf _))).trans (by rw [k3]; try rfl)) (by rfl)).trans ?_
              refine tF (by simp only [sxs, o8]; exact (beq_nk0 k).trans (decide_eq_false hk)) ?_
              refine (treeF_call (r := [wd (R) 1, wd (R) 0, (0 : Int)]) (by simp only [sxs, ph_V4_rem_Rem, u8_0, u64_0]; exact (k_rem_Rem (fN_u f) hf (nB_small (Rl)) (nB_u _ _)).trans (by rw [k5]; try rfl)) (by rfl)).trans ?_
              refine tT (by simp only [sxs, u8_0, u64_0]; simp only [beq_self_eq_true, Bool.and_true, Bool.and_self, bt1, bt0]) ?_
              rw [treeF_leaf rfl]; rfl
          · skip
            by_cases hk : k = 0
            · by_cases ho : o < sizeN (fN f) (nB b1 b0)
              · obtain rfl := w2 hk ho
                refine (treeF_call (r := [((clsF (fN f) (nB b1 b0) : Nat) : Int), b2i (FP.sgn (fN f) (nB b1 b0))]) (by simp only [sxs, ph_V4_class_Of, u8_0, u64_0]; exact k_class_Of (fN_u f) hf (nB_u _ _)) (by rfl)).trans ?_
                refine tF (by simp only [sxs, u8_0, u64_0]; exact known) ?_
                refine (treeF_call (r := [b2i (decide (clsF (fN f) (nB a1 a0) < 3))]) (by simp only [sxs, ph_V4_class_Finite, u8_0, u64_0]; exact k_class_Finite (fN_u f) hf (nB_u _ _)) (by rfl)).trans ?_
                refine tF (by exact nT (by simp only [sxs, u8_0, u64_0]; exact decide_eq_true (ha))) ?_
                refine tF (by simp only [sxs, u8B]; exact (bne_nk _ 1).trans (decide_eq_false (by omega))) ?_
                refine (treeF_call (r := [wd (nB a1 a0 % 2 ^ FP.fW (fN f)) 1, wd (nB a1 a0 % 2 ^ FP.fW (fN f)) 0, (0 : Int)]) (by simp only [sxs, ph_V4_rem_Rem, u8_0, u64_0]; exact (k_rem_Rem (fN_u f) hf (nB_u _ _) (nB_u _ _)).trans (by rw [k1]; try rfl)) (by rfl)).trans ?_
                refine tF (by simp only [sxs, u8_0, u64_0]; simp only [beq_self_eq_true, bne_self_eq_false]) ?_
                refine (treeF_call (r := [b2i (decide (clsF (fN f) (nB a1 a0 % 2 ^ FP.fW (fN f)) < 3))]) (by simp only [sxs, ph_V4_class_Finite, u8_0, u64_0]; exact k_class_Finite (fN_u f) hf (nB_small (Rl))) (by rfl)).trans ?_
                refine tF (by exact nT (by simp only [sxs, u8_0, u64_0]; exact decide_eq_true (R3))) ?_
                refine (treeF_call (r := [wd (sizeN (fN f) (nB a1 a0 % 2 ^ FP.fW (fN f))) 1, wd (sizeN (fN f) (nB a1 a0 % 2 ^ FP.fW (fN f))) 0]) (by simp only [sxs, ph_V4_law23_size, u8_0, u64_0]; exact k_law23_size (fN_u f) hf (nB_small (Rl))) (by rfl)).trans ?_
                refine (treeF_call (r := [wd (sizeN (fN f) (nB b1 b0)) 1, wd (sizeN (fN f) (nB b1 b0)) 0]) (by simp only [sxs, ph_V4_law23_size, u8_0, u64_0]; exact k_law23_size (fN_u f) hf (nB_u _ _)) (by rfl)).trans ?_
                refine (treeF_call (r := [wd (sizeN (fN f) (nB b1 b0)) 1, wd (sizeN (fN f) (nB b1 b0)) 0, (0 : Int)]) (by simp only [sxs, ph_V4_addsub_Add, u8_0, u64_0]; exact (k_addsub_Add (fN_u f) hf ((md_lit 4 (by decide)).1) ((md_lit 4 (by decide)).2) (show iNz 0 = false from rfl) (nB_small (size_lt hf _)) (nB_small (size_lt hf _))).trans (by rw [k2]; try rfl)) (by rfl)).trans ?_
                refine (treeF_call (r := [nCmp (sizeN (fN f) (nB b1 b0)) (sizeN (fN f) (nB b1 b0))]) (by simp only [sxs, ph_V4_word_Cmp, u8_0, u64_0]; exact k_wordCmp (size_lt hf _) (size_lt hf _)) (by rfl)).trans ?_
                refine tF (by simp only [sxs, nCmp_i64]; exact nCmp_gt.trans (decide_eq_false (by omega))) ?_
                refine (treeF_call (r := [wd (sizeN (fN f) (nB a1 a0)) 1, wd (sizeN (fN f) (nB a1 a0)) 0]) (by simp only [sxs, ph_V4_law23_size, u8_0, u64_0]; exact k_law23_size (fN_u f) hf (nB_u _ _)) (by rfl)).trans ?_
                refine (treeF_call (r := [wd (sizeN (fN f) (nB a1 a0)) 1, wd (sizeN (fN f) (nB a1 a0)) 0]) (by simp only [sxs, ph_V4_law23_size, u8_0, u64_0]; exact k_law23_size (fN_u f) hf (nB_u _ _)) (by rfl)).trans ?_
                refine (treeF_call (r := [wd (o) 1, wd (o) 0, ((k : Nat) : Int)]) (by simp only [sxs, ph_V4_addsub_Add, u8_0, u64_0]; exact (k_addsub_Add (fN_u f) hf ((md_lit 4 (by decide)).1) ((md_lit 4 (by decide)).2) (show iNz 0 = false from rfl) (nB_small (size_lt hf _)) (nB_small (size_lt hf _))).trans (by rw [k3]; try rfl)) (by rfl)).trans ?_
                refine tT (by simp only [sxs, o8]; exact (beq_nk0 k).trans (decide_eq_true hk)) ?_
                refine (treeF_call (r := [nCmp (o) (sizeN (fN f) (nB b1 b0))]) (by simp only [sxs, ph_V4_word_Cmp, u8_0, u64_0]; exact k_wordCmp (ol) (size_lt hf _)) (by rfl)).trans ?_
                refine tT (by simp only [sxs, nCmp_i64]; exact nCmp_lt.trans (decide_eq_true ho)) ?_
                refine (treeF_call (r := [wd (nB a1 a0 % 2 ^ FP.fW (fN f)) 1, wd (nB a1 a0 % 2 ^ FP.fW (fN f)) 0]) (by simp only [sxs, ph_V4_format_Cut, u8_0, u64_0]; exact k_format_Cut (fN_u f) (nB_u _ _)) (by rfl)).trans ?_
                refine tF (by exact nT (by simp only [sxs, u8_0, u64_0]; simp only [beq_self_eq_true, Bool.and_true, Bool.and_self, bt1, bt0])) ?_
                refine (treeF_call (r := [wd (R2) 1, wd (R2) 0, (0 : Int)]) (by simp only [sxs, ph_V4_rem_Rem, u8_0, u64_0]; exact (k_rem_Rem (fN_u f) hf (nB_small (Rl)) (nB_u _ _)).trans (by rw [k5]; try rfl)) (by rfl)).trans ?_
                refine tF (by simp only [sxs, u8_0]; exact w2_ne R2l Rl he) ?_
                refine tT (by simp only [sxs, u8_0, u64_0]; simp only [beq_self_eq_true, bne_self_eq_false]) ?_
                refine tT (by simp only [sxs, u8_0, u64_0]; simp only [beq_self_eq_true, Bool.and_true, Bool.and_self, bt1, bt0]) ?_
                rw [treeF_leaf rfl]; rfl
              · skip
                refine (treeF_call (r := [((clsF (fN f) (nB b1 b0) : Nat) : Int), b2i (FP.sgn (fN f) (nB b1 b0))]) (by simp only [sxs, ph_V4_class_Of, u8_0, u64_0]; exact k_class_Of (fN_u f) hf (nB_u _ _)) (by rfl)).trans ?_
                refine tF (by simp only [sxs, u8_0, u64_0]; exact known) ?_
                refine (treeF_call (r := [b2i (decide (clsF (fN f) (nB a1 a0) < 3))]) (by simp only [sxs, ph_V4_class_Finite, u8_0, u64_0]; exact k_class_Finite (fN_u f) hf (nB_u _ _)) (by rfl)).trans ?_
                refine tF (by exact nT (by simp only [sxs, u8_0, u64_0]; exact decide_eq_true (ha))) ?_
                refine tF (by simp only [sxs, u8B]; exact (bne_nk _ 1).trans (decide_eq_false (by omega))) ?_
                refine (treeF_call (r := [wd (R) 1, wd (R) 0, (0 : Int)]) (by simp only [sxs, ph_V4_rem_Rem, u8_0, u64_0]; exact (k_rem_Rem (fN_u f) hf (nB_u _ _) (nB_u _ _)).trans (by rw [k1]; try rfl)) (by rfl)).trans ?_
                refine tF (by simp only [sxs, u8_0, u64_0]; simp only [beq_self_eq_true, bne_self_eq_false]) ?_
                refine (treeF_call (r := [b2i (decide (clsF (fN f) (R) < 3))]) (by simp only [sxs, ph_V4_class_Finite, u8_0, u64_0]; exact k_class_Finite (fN_u f) hf (nB_small (Rl))) (by rfl)).trans ?_
                refine tF (by exact nT (by simp only [sxs, u8_0, u64_0]; exact decide_eq_true (R3))) ?_
                refine (treeF_call (r := [wd (sizeN (fN f) (R)) 1, wd (sizeN (fN f) (R)) 0]) (by simp only [sxs, ph_V4_law23_size, u8_0, u64_0]; exact k_law23_size (fN_u f) hf (nB_small (Rl))) (by rfl)).trans ?_
                refine (treeF_call (r := [wd (sizeN (fN f) (nB b1 b0)) 1, wd (sizeN (fN f) (nB b1 b0)) 0]) (by simp only [sxs, ph_V4_law23_size, u8_0, u64_0]; exact k_law23_size (fN_u f) hf (nB_u _ _)) (by rfl)).trans ?_
                refine (treeF_call (r := [wd (sizeN (fN f) (nB b1 b0)) 1, wd (sizeN (fN f) (nB b1 b0)) 0, (0 : Int)]) (by simp only [sxs, ph_V4_addsub_Add, u8_0, u64_0]; exact (k_addsub_Add (fN_u f) hf ((md_lit 4 (by decide)).1) ((md_lit 4 (by decide)).2) (show iNz 0 = false from rfl) (nB_small (size_lt hf _)) (nB_small (size_lt hf _))).trans (by rw [k2]; try rfl)) (by rfl)).trans ?_
                refine (treeF_call (r := [nCmp (sizeN (fN f) (nB b1 b0)) (sizeN (fN f) (nB b1 b0))]) (by simp only [sxs, ph_V4_word_Cmp, u8_0, u64_0]; exact k_wordCmp (size_lt hf _) (size_lt hf _)) (by rfl)).trans ?_
                refine tF (by simp only [sxs, nCmp_i64]; exact nCmp_gt.trans (decide_eq_false (by omega))) ?_
                refine (treeF_call (r := [wd (sizeN (fN f) (nB a1 a0)) 1, wd (sizeN (fN f) (nB a1 a0)) 0]) (by simp only [sxs, ph_V4_law23_size, u8_0, u64_0]; exact k_law23_size (fN_u f) hf (nB_u _ _)) (by rfl)).trans ?_
                refine (treeF_call (r := [wd (sizeN (fN f) (nB a1 a0)) 1, wd (sizeN (fN f) (nB a1 a0)) 0]) (by simp only [sxs, ph_V4_law23_size, u8_0, u64_0]; exact k_law23_size (fN_u f) hf (nB_u _ _)) (by rfl)).trans ?_
                refine (treeF_call (r := [wd (o) 1, wd (o) 0, ((k : Nat) : Int)]) (by simp only [sxs, ph_V4_addsub_Add, u8_0, u64_0]; exact (k_addsub_Add (fN_u f) hf ((md_lit 4 (by decide)).1) ((md_lit 4 (by decide)).2) (show iNz 0 = false from rfl) (nB_small (size_lt hf _)) (nB_small (size_lt hf _))).trans (by rw [k3]; try rfl)) (by rfl)).trans ?_
                refine tT (by simp only [sxs, o8]; exact (beq_nk0 k).trans (decide_eq_true hk)) ?_
                refine (treeF_call (r := [nCmp (o) (sizeN (fN f) (nB b1 b0))]) (by simp only [sxs, ph_V4_word_Cmp, u8_0, u64_0]; exact k_wordCmp (ol) (size_lt hf _)) (by rfl)).trans ?_
                refine tF (by simp only [sxs, nCmp_i64]; exact nCmp_lt.trans (decide_eq_false ho)) ?_
                refine (treeF_call (r := [wd (R2) 1, wd (R2) 0, (0 : Int)]) (by simp only [sxs, ph_V4_rem_Rem, u8_0, u64_0]; exact (k_rem_Rem (fN_u f) hf (nB_small (Rl)) (nB_u _ _)).trans (by rw [k5]; try rfl)) (by rfl)).trans ?_
                refine tF (by simp only [sxs, u8_0]; exact w2_ne R2l Rl he) ?_
                refine tT (by simp only [sxs, u8_0, u64_0]; simp only [beq_self_eq_true, bne_self_eq_false]) ?_
                refine tT (by simp only [sxs, u8_0, u64_0]; simp only [beq_self_eq_true, Bool.and_true, Bool.and_self, bt1, bt0]) ?_
                rw [treeF_leaf rfl]; rfl
            · skip
              refine (treeF_call (r := [((clsF (fN f) (nB b1 b0) : Nat) : Int), b2i (FP.sgn (fN f) (nB b1 b0))]) (by simp only [sxs, ph_V4_class_Of, u8_0, u64_0]; exact k_class_Of (fN_u f) hf (nB_u _ _)) (by rfl)).trans ?_
              refine tF (by simp only [sxs, u8_0, u64_0]; exact known) ?_
              refine (treeF_call (r := [b2i (decide (clsF (fN f) (nB a1 a0) < 3))]) (by simp only [sxs, ph_V4_class_Finite, u8_0, u64_0]; exact k_class_Finite (fN_u f) hf (nB_u _ _)) (by rfl)).trans ?_
              refine tF (by exact nT (by simp only [sxs, u8_0, u64_0]; exact decide_eq_true (ha))) ?_
              refine tF (by simp only [sxs, u8B]; exact (bne_nk _ 1).trans (decide_eq_false (by omega))) ?_
              refine (treeF_call (r := [wd (R) 1, wd (R) 0, (0 : Int)]) (by simp only [sxs, ph_V4_rem_Rem, u8_0, u64_0]; exact (k_rem_Rem (fN_u f) hf (nB_u _ _) (nB_u _ _)).trans (by rw [k1]; try rfl)) (by rfl)).trans ?_
              refine tF (by simp only [sxs, u8_0, u64_0]; simp only [beq_self_eq_true, bne_self_eq_false]) ?_
              refine (treeF_call (r := [b2i (decide (clsF (fN f) (R) < 3))]) (by simp only [sxs, ph_V4_class_Finite, u8_0, u64_0]; exact k_class_Finite (fN_u f) hf (nB_small (Rl))) (by rfl)).trans ?_
              refine tF (by exact nT (by simp only [sxs, u8_0, u64_0]; exact decide_eq_true (R3))) ?_
              refine (treeF_call (r := [wd (sizeN (fN f) (R)) 1, wd (sizeN (fN f) (R)) 0]) (by simp only [sxs, ph_V4_law23_size, u8_0, u64_0]; exact k_law23_size (fN_u f) hf (nB_small (Rl))) (by rfl)).trans ?_
              refine (treeF_call (r := [wd (sizeN (fN f) (nB b1 b0)) 1, wd (sizeN (fN f) (nB b1 b0)) 0]) (by simp only [sxs, ph_V4_law23_size, u8_0, u64_0]; exact k_law23_size (fN_u f) hf (nB_u _ _)) (by rfl)).trans ?_
              refine (treeF_call (r := [wd (sizeN (fN f) (nB b1 b0)) 1, wd (sizeN (fN f) (nB b1 b0)) 0, (0 : Int)]) (by simp only [sxs, ph_V4_addsub_Add, u8_0, u64_0]; exact (k_addsub_Add (fN_u f) hf ((md_lit 4 (by decide)).1) ((md_lit 4 (by decide)).2) (show iNz 0 = false from rfl) (nB_small (size_lt hf _)) (nB_small (size_lt hf _))).trans (by rw [k2]; try rfl)) (by rfl)).trans ?_
              refine (treeF_call (r := [nCmp (sizeN (fN f) (nB b1 b0)) (sizeN (fN f) (nB b1 b0))]) (by simp only [sxs, ph_V4_word_Cmp, u8_0, u64_0]; exact k_wordCmp (size_lt hf _) (size_lt hf _)) (by rfl)).trans ?_
              refine tF (by simp only [sxs, nCmp_i64]; exact nCmp_gt.trans (decide_eq_false (by omega))) ?_
              refine (treeF_call (r := [wd (sizeN (fN f) (nB a1 a0)) 1, wd (sizeN (fN f) (nB a1 a0)) 0]) (by simp only [sxs, ph_V4_law23_size, u8_0, u64_0]; exact k_law23_size (fN_u f) hf (nB_u _ _)) (by rfl)).trans ?_
              refine (treeF_call (r := [wd (sizeN (fN f) (nB a1 a0)) 1, wd (sizeN (fN f) (nB a1 a0)) 0]) (by simp only [sxs, ph_V4_law23_size, u8_0, u64_0]; exact k_law23_size (fN_u f) hf (nB_u _ _)) (by rfl)).trans ?_
              refine (treeF_call (r := [wd (o) 1, wd (o) 0, ((k : Nat) : Int)]) (by simp only [sxs, ph_V4_addsub_Add, u8_0, u64_0]; exact (k_addsub_Add (fN_u f) hf ((md_lit 4 (by decide)).1) ((md_lit 4 (by decide)).2) (show iNz 0 = false from rfl) (nB_small (size_lt hf _)) (nB_small (size_lt hf _))).trans (by rw [k3]; try rfl)) (by rfl)).trans ?_
              refine tF (by simp only [sxs, o8]; exact (beq_nk0 k).trans (decide_eq_false hk)) ?_
              refine (treeF_call (r := [wd (R2) 1, wd (R2) 0, (0 : Int)]) (by simp only [sxs, ph_V4_rem_Rem, u8_0, u64_0]; exact (k_rem_Rem (fN_u f) hf (nB_small (Rl)) (nB_u _ _)).trans (by rw [k5]; try rfl)) (by rfl)).trans ?_
              refine tF (by simp only [sxs, u8_0]; exact w2_ne R2l Rl he) ?_
              refine tT (by simp only [sxs, u8_0, u64_0]; simp only [beq_self_eq_true, bne_self_eq_false]) ?_
              refine tT (by simp only [sxs, u8_0, u64_0]; simp only [beq_self_eq_true, Bool.and_true, Bool.and_self, bt1, bt0]) ?_
              rw [treeF_leaf rfl]; rfl
        · rcases w3' with he | ⟨he, rfl, rfl⟩
          · replace he := he.symm; subst he
            by_cases hk : k = 0
            · by_cases ho : o < sizeN (fN f) (nB b1 b0)
              · obtain rfl := w2 hk ho
                refine (treeF_call (r := [((clsF (fN f) (nB b1 b0) : Nat) : Int), b2i (FP.sgn (fN f) (nB b1 b0))]) (by simp only [sxs, ph_V4_class_Of, u8_0, u64_0]; exact k_class_Of (fN_u f) hf (nB_u _ _)) (by rfl)).trans ?_
                refine tF (by simp only [sxs, u8_0, u64_0]; exact known) ?_
                refine (treeF_call (r := [b2i (decide (clsF (fN f) (nB a1 a0) < 3))]) (by simp only [sxs, ph_V4_class_Finite, u8_0, u64_0]; exact k_class_Finite (fN_u f) hf (nB_u _ _)) (by rfl)).trans ?_
                refine tF (by exact nT (by simp only [sxs, u8_0, u64_0]; exact decide_eq_true (ha))) ?_
                refine tT (by simp only [sxs, u8B]; exact (bne_nk _ 1).trans (decide_eq_true (by omega))) ?_
                refine tF (by simp only [sxs, u8B]; exact (bne_nk _ 2).trans (decide_eq_false (by omega))) ?_
                refine (treeF_call (r := [wd (nB a1 a0 % 2 ^ FP.fW (fN f)) 1, wd (nB a1 a0 % 2 ^ FP.fW (fN f)) 0, (0 : Int)]) (by simp only [sxs, ph_V4_rem_Rem, u8_0, u64_0]; exact (k_rem_Rem (fN_u f) hf (nB_u _ _) (nB_u _ _)).trans (by rw [k1]; try rfl)) (by rfl)).trans ?_
                refine tF (by simp only [sxs, u8_0, u64_0]; simp only [beq_self_eq_true, bne_self_eq_false]) ?_
                refine (treeF_call (r := [b2i (decide (clsF (fN f) (nB a1 a0 % 2 ^ FP.fW (fN f)) < 3))]) (by simp only [sxs, ph_V4_class_Finite, u8_0, u64_0]; exact k_class_Finite (fN_u f) hf (nB_small (Rl))) (by rfl)).trans ?_
                refine tF (by exact nT (by simp only [sxs, u8_0, u64_0]; exact decide_eq_true (R3))) ?_
                refine (treeF_call (r := [wd (sizeN (fN f) (nB a1 a0 % 2 ^ FP.fW (fN f))) 1, wd (sizeN (fN f) (nB a1 a0 % 2 ^ FP.fW (fN f))) 0]) (by simp only [sxs, ph_V4_law23_size, u8_0, u64_0]; exact k_law23_size (fN_u f) hf (nB_small (Rl))) (by rfl)).trans ?_
                refine (treeF_call (r := [wd (sizeN (fN f) (nB b1 b0)) 1, wd (sizeN (fN f) (nB b1 b0)) 0]) (by simp only [sxs, ph_V4_law23_size, u8_0, u64_0]; exact k_law23_size (fN_u f) hf (nB_u _ _)) (by rfl)).trans ?_
                refine (treeF_call (r := [wd (w) 1, wd (w) 0, ((g : Nat) : Int)]) (by simp only [sxs, ph_V4_addsub_Add, u8_0, u64_0]; exact (k_addsub_Add (fN_u f) hf ((md_lit 4 (by decide)).1) ((md_lit 4 (by decide)).2) (show iNz 0 = false from rfl) (nB_small (size_lt hf _)) (nB_small (size_lt hf _))).trans (by rw [k2]; try rfl)) (by rfl)).trans ?_
                refine (treeF_call (r := [nCmp (w) (sizeN (fN f) (nB b1 b0))]) (by simp only [sxs, ph_V4_word_Cmp, u8_0, u64_0]; exact k_wordCmp (tl) (size_lt hf _)) (by rfl)).trans ?_
                refine tF (by simp only [sxs, nCmp_i64]; exact nCmp_gt.trans (decide_eq_false (by omega))) ?_
                refine (treeF_call (r := [wd (sizeN (fN f) (nB a1 a0)) 1, wd (sizeN (fN f) (nB a1 a0)) 0]) (by simp only [sxs, ph_V4_law23_size, u8_0, u64_0]; exact k_law23_size (fN_u f) hf (nB_u _ _)) (by rfl)).trans ?_
                refine (treeF_call (r := [wd (sizeN (fN f) (nB a1 a0)) 1, wd (sizeN (fN f) (nB a1 a0)) 0]) (by simp only [sxs, ph_V4_law23_size, u8_0, u64_0]; exact k_law23_size (fN_u f) hf (nB_u _ _)) (by rfl)).trans ?_
                refine (treeF_call (r := [wd (o) 1, wd (o) 0, ((k : Nat) : Int)]) (by simp only [sxs, ph_V4_addsub_Add, u8_0, u64_0]; exact (k_addsub_Add (fN_u f) hf ((md_lit 4 (by decide)).1) ((md_lit 4 (by decide)).2) (show iNz 0 = false from rfl) (nB_small (size_lt hf _)) (nB_small (size_lt hf _))).trans (by rw [k3]; try rfl)) (by rfl)).trans ?_
                refine tT (by simp only [sxs, o8]; exact (beq_nk0 k).trans (decide_eq_true hk)) ?_
                refine (treeF_call (r := [nCmp (o) (sizeN (fN f) (nB b1 b0))]) (by simp only [sxs, ph_V4_word_Cmp, u8_0, u64_0]; exact k_wordCmp (ol) (size_lt hf _)) (by rfl)).trans ?_
                refine tT (by simp only [sxs, nCmp_i64]; exact nCmp_lt.trans (decide_eq_true ho)) ?_
                refine (treeF_call (r := [wd (nB a1 a0 % 2 ^ FP.fW (fN f)) 1, wd (nB a1 a0 % 2 ^ FP.fW (fN f)) 0]) (by simp only [sxs, ph_V4_format_Cut, u8_0, u64_0]; exact k_format_Cut (fN_u f) (nB_u _ _)) (by rfl)).trans ?_
                refine tF (by exact nT (by simp only [sxs, u8_0, u64_0]; simp only [beq_self_eq_true, Bool.and_true, Bool.and_self, bt1, bt0])) ?_
                refine (treeF_call (r := [wd (nB a1 a0 % 2 ^ FP.fW (fN f)) 1, wd (nB a1 a0 % 2 ^ FP.fW (fN f)) 0, (0 : Int)]) (by simp only [sxs, ph_V4_rem_Rem, u8_0, u64_0]; exact (k_rem_Rem (fN_u f) hf (nB_small (Rl)) (nB_u _ _)).trans (by rw [k5]; try rfl)) (by rfl)).trans ?_
                refine tT (by simp only [sxs, u8_0, u64_0]; simp only [beq_self_eq_true, Bool.and_true, Bool.and_self, bt1, bt0]) ?_
                rw [treeF_leaf rfl]; rfl
              · skip
                refine (treeF_call (r := [((clsF (fN f) (nB b1 b0) : Nat) : Int), b2i (FP.sgn (fN f) (nB b1 b0))]) (by simp only [sxs, ph_V4_class_Of, u8_0, u64_0]; exact k_class_Of (fN_u f) hf (nB_u _ _)) (by rfl)).trans ?_
                refine tF (by simp only [sxs, u8_0, u64_0]; exact known) ?_
                refine (treeF_call (r := [b2i (decide (clsF (fN f) (nB a1 a0) < 3))]) (by simp only [sxs, ph_V4_class_Finite, u8_0, u64_0]; exact k_class_Finite (fN_u f) hf (nB_u _ _)) (by rfl)).trans ?_
                refine tF (by exact nT (by simp only [sxs, u8_0, u64_0]; exact decide_eq_true (ha))) ?_
                refine tT (by simp only [sxs, u8B]; exact (bne_nk _ 1).trans (decide_eq_true (by omega))) ?_
                refine tF (by simp only [sxs, u8B]; exact (bne_nk _ 2).trans (decide_eq_false (by omega))) ?_
                refine (treeF_call (r := [wd (R) 1, wd (R) 0, (0 : Int)]) (by simp only [sxs, ph_V4_rem_Rem, u8_0, u64_0]; exact (k_rem_Rem (fN_u f) hf (nB_u _ _) (nB_u _ _)).trans (by rw [k1]; try rfl)) (by rfl)).trans ?_
                refine tF (by simp only [sxs, u8_0, u64_0]; simp only [beq_self_eq_true, bne_self_eq_false]) ?_
                refine (treeF_call (r := [b2i (decide (clsF (fN f) (R) < 3))]) (by simp only [sxs, ph_V4_class_Finite, u8_0, u64_0]; exact k_class_Finite (fN_u f) hf (nB_small (Rl))) (by rfl)).trans ?_
                refine tF (by exact nT (by simp only [sxs, u8_0, u64_0]; exact decide_eq_true (R3))) ?_
                refine (treeF_call (r := [wd (sizeN (fN f) (R)) 1, wd (sizeN (fN f) (R)) 0]) (by simp only [sxs, ph_V4_law23_size, u8_0, u64_0]; exact k_law23_size (fN_u f) hf (nB_small (Rl))) (by rfl)).trans ?_
                refine (treeF_call (r := [wd (sizeN (fN f) (nB b1 b0)) 1, wd (sizeN (fN f) (nB b1 b0)) 0]) (by simp only [sxs, ph_V4_law23_size, u8_0, u64_0]; exact k_law23_size (fN_u f) hf (nB_u _ _)) (by rfl)).trans ?_
                refine (treeF_call (r := [wd (w) 1, wd (w) 0, ((g : Nat) : Int)]) (by simp only [sxs, ph_V4_addsub_Add, u8_0, u64_0]; exact (k_addsub_Add (fN_u f) hf ((md_lit 4 (by decide)).1) ((md_lit 4 (by decide)).2) (show iNz 0 = false from rfl) (nB_small (size_lt hf _)) (nB_small (size_lt hf _))).trans (by rw [k2]; try rfl)) (by rfl)).trans ?_
                refine (treeF_call (r := [nCmp (w) (sizeN (fN f) (nB b1 b0))]) (by simp only [sxs, ph_V4_word_Cmp, u8_0, u64_0]; exact k_wordCmp (tl) (size_lt hf _)) (by rfl)).trans ?_
                refine tF (by simp only [sxs, nCmp_i64]; exact nCmp_gt.trans (decide_eq_false (by omega))) ?_
                refine (treeF_call (r := [wd (sizeN (fN f) (nB a1 a0)) 1, wd (sizeN (fN f) (nB a1 a0)) 0]) (by simp only [sxs, ph_V4_law23_size, u8_0, u64_0]; exact k_law23_size (fN_u f) hf (nB_u _ _)) (by rfl)).trans ?_
                refine (treeF_call (r := [wd (sizeN (fN f) (nB a1 a0)) 1, wd (sizeN (fN f) (nB a1 a0)) 0]) (by simp only [sxs, ph_V4_law23_size, u8_0, u64_0]; exact k_law23_size (fN_u f) hf (nB_u _ _)) (by rfl)).trans ?_
                refine (treeF_call (r := [wd (o) 1, wd (o) 0, ((k : Nat) : Int)]) (by simp only [sxs, ph_V4_addsub_Add, u8_0, u64_0]; exact (k_addsub_Add (fN_u f) hf ((md_lit 4 (by decide)).1) ((md_lit 4 (by decide)).2) (show iNz 0 = false from rfl) (nB_small (size_lt hf _)) (nB_small (size_lt hf _))).trans (by rw [k3]; try rfl)) (by rfl)).trans ?_
                refine tT (by simp only [sxs, o8]; exact (beq_nk0 k).trans (decide_eq_true hk)) ?_
                refine (treeF_call (r := [nCmp (o) (sizeN (fN f) (nB b1 b0))]) (by simp only [sxs, ph_V4_word_Cmp, u8_0, u64_0]; exact k_wordCmp (ol) (size_lt hf _)) (by rfl)).trans ?_
                refine tF (by simp only [sxs, nCmp_i64]; exact nCmp_lt.trans (decide_eq_false ho)) ?_
                refine (treeF_call (r := [wd (R) 1, wd (R) 0, (0 : Int)]) (by simp only [sxs, ph_V4_rem_Rem, u8_0, u64_0]; exact (k_rem_Rem (fN_u f) hf (nB_small (Rl)) (nB_u _ _)).trans (by rw [k5]; try rfl)) (by rfl)).trans ?_
                refine tT (by simp only [sxs, u8_0, u64_0]; simp only [beq_self_eq_true, Bool.and_true, Bool.and_self, bt1, bt0]) ?_
                rw [treeF_leaf rfl]; rfl
            · skip
              refine (treeF_call (r := [((clsF (fN f) (nB b1 b0) : Nat) : Int), b2i (FP.sgn (fN f) (nB b1 b0))]) (by simp only [sxs, ph_V4_class_Of, u8_0, u64_0]; exact k_class_Of (fN_u f) hf (nB_u _ _)) (by rfl)).trans ?_
              refine tF (by simp only [sxs, u8_0, u64_0]; exact known) ?_
              refine (treeF_call (r := [b2i (decide (clsF (fN f) (nB a1 a0) < 3))]) (by simp only [sxs, ph_V4_class_Finite, u8_0, u64_0]; exact k_class_Finite (fN_u f) hf (nB_u _ _)) (by rfl)).trans ?_
              refine tF (by exact nT (by simp only [sxs, u8_0, u64_0]; exact decide_eq_true (ha))) ?_
              refine tT (by simp only [sxs, u8B]; exact (bne_nk _ 1).trans (decide_eq_true (by omega))) ?_
              refine tF (by simp only [sxs, u8B]; exact (bne_nk _ 2).trans (decide_eq_false (by omega))) ?_
              refine (treeF_call (r := [wd (R) 1, wd (R) 0, (0 : Int)]) (by simp only [sxs, ph_V4_rem_Rem, u8_0, u64_0]; exact (k_rem_Rem (fN_u f) hf (nB_u _ _) (nB_u _ _)).trans (by rw [k1]; try rfl)) (by rfl)).trans ?_
              refine tF (by simp only [sxs, u8_0, u64_0]; simp only [beq_self_eq_true, bne_self_eq_false]) ?_
              refine (treeF_call (r := [b2i (decide (clsF (fN f) (R) < 3))]) (by simp only [sxs, ph_V4_class_Finite, u8_0, u64_0]; exact k_class_Finite (fN_u f) hf (nB_small (Rl))) (by rfl)).trans ?_
              refine tF (by exact nT (by simp only [sxs, u8_0, u64_0]; exact decide_eq_true (R3))) ?_
              refine (treeF_call (r := [wd (sizeN (fN f) (R)) 1, wd (sizeN (fN f) (R)) 0]) (by simp only [sxs, ph_V4_law23_size, u8_0, u64_0]; exact k_law23_size (fN_u f) hf (nB_small (Rl))) (by rfl)).trans ?_
              refine (treeF_call (r := [wd (sizeN (fN f) (nB b1 b0)) 1, wd (sizeN (fN f) (nB b1 b0)) 0]) (by simp only [sxs, ph_V4_law23_size, u8_0, u64_0]; exact k_law23_size (fN_u f) hf (nB_u _ _)) (by rfl)).trans ?_
              refine (treeF_call (r := [wd (w) 1, wd (w) 0, ((g : Nat) : Int)]) (by simp only [sxs, ph_V4_addsub_Add, u8_0, u64_0]; exact (k_addsub_Add (fN_u f) hf ((md_lit 4 (by decide)).1) ((md_lit 4 (by decide)).2) (show iNz 0 = false from rfl) (nB_small (size_lt hf _)) (nB_small (size_lt hf _))).trans (by rw [k2]; try rfl)) (by rfl)).trans ?_
              refine (treeF_call (r := [nCmp (w) (sizeN (fN f) (nB b1 b0))]) (by simp only [sxs, ph_V4_word_Cmp, u8_0, u64_0]; exact k_wordCmp (tl) (size_lt hf _)) (by rfl)).trans ?_
              refine tF (by simp only [sxs, nCmp_i64]; exact nCmp_gt.trans (decide_eq_false (by omega))) ?_
              refine (treeF_call (r := [wd (sizeN (fN f) (nB a1 a0)) 1, wd (sizeN (fN f) (nB a1 a0)) 0]) (by simp only [sxs, ph_V4_law23_size, u8_0, u64_0]; exact k_law23_size (fN_u f) hf (nB_u _ _)) (by rfl)).trans ?_
              refine (treeF_call (r := [wd (sizeN (fN f) (nB a1 a0)) 1, wd (sizeN (fN f) (nB a1 a0)) 0]) (by simp only [sxs, ph_V4_law23_size, u8_0, u64_0]; exact k_law23_size (fN_u f) hf (nB_u _ _)) (by rfl)).trans ?_
              refine (treeF_call (r := [wd (o) 1, wd (o) 0, ((k : Nat) : Int)]) (by simp only [sxs, ph_V4_addsub_Add, u8_0, u64_0]; exact (k_addsub_Add (fN_u f) hf ((md_lit 4 (by decide)).1) ((md_lit 4 (by decide)).2) (show iNz 0 = false from rfl) (nB_small (size_lt hf _)) (nB_small (size_lt hf _))).trans (by rw [k3]; try rfl)) (by rfl)).trans ?_
              refine tF (by simp only [sxs, o8]; exact (beq_nk0 k).trans (decide_eq_false hk)) ?_
              refine (treeF_call (r := [wd (R) 1, wd (R) 0, (0 : Int)]) (by simp only [sxs, ph_V4_rem_Rem, u8_0, u64_0]; exact (k_rem_Rem (fN_u f) hf (nB_small (Rl)) (nB_u _ _)).trans (by rw [k5]; try rfl)) (by rfl)).trans ?_
              refine tT (by simp only [sxs, u8_0, u64_0]; simp only [beq_self_eq_true, Bool.and_true, Bool.and_self, bt1, bt0]) ?_
              rw [treeF_leaf rfl]; rfl
          · skip
            by_cases hk : k = 0
            · by_cases ho : o < sizeN (fN f) (nB b1 b0)
              · obtain rfl := w2 hk ho
                refine (treeF_call (r := [((clsF (fN f) (nB b1 b0) : Nat) : Int), b2i (FP.sgn (fN f) (nB b1 b0))]) (by simp only [sxs, ph_V4_class_Of, u8_0, u64_0]; exact k_class_Of (fN_u f) hf (nB_u _ _)) (by rfl)).trans ?_
                refine tF (by simp only [sxs, u8_0, u64_0]; exact known) ?_
                refine (treeF_call (r := [b2i (decide (clsF (fN f) (nB a1 a0) < 3))]) (by simp only [sxs, ph_V4_class_Finite, u8_0, u64_0]; exact k_class_Finite (fN_u f) hf (nB_u _ _)) (by rfl)).trans ?_
                refine tF (by exact nT (by simp only [sxs, u8_0, u64_0]; exact decide_eq_true (ha))) ?_
                refine tT (by simp only [sxs, u8B]; exact (bne_nk _ 1).trans (decide_eq_true (by omega))) ?_
                refine tF (by simp only [sxs, u8B]; exact (bne_nk _ 2).trans (decide_eq_false (by omega))) ?_
                refine (treeF_call (r := [wd (nB a1 a0 % 2 ^ FP.fW (fN f)) 1, wd (nB a1 a0 % 2 ^ FP.fW (fN f)) 0, (0 : Int)]) (by simp only [sxs, ph_V4_rem_Rem, u8_0, u64_0]; exact (k_rem_Rem (fN_u f) hf (nB_u _ _) (nB_u _ _)).trans (by rw [k1]; try rfl)) (by rfl)).trans ?_
                refine tF (by simp only [sxs, u8_0, u64_0]; simp only [beq_self_eq_true, bne_self_eq_false]) ?_
                refine (treeF_call (r := [b2i (decide (clsF (fN f) (nB a1 a0 % 2 ^ FP.fW (fN f)) < 3))]) (by simp only [sxs, ph_V4_class_Finite, u8_0, u64_0]; exact k_class_Finite (fN_u f) hf (nB_small (Rl))) (by rfl)).trans ?_
                refine tF (by exact nT (by simp only [sxs, u8_0, u64_0]; exact decide_eq_true (R3))) ?_
                refine (treeF_call (r := [wd (sizeN (fN f) (nB a1 a0 % 2 ^ FP.fW (fN f))) 1, wd (sizeN (fN f) (nB a1 a0 % 2 ^ FP.fW (fN f))) 0]) (by simp only [sxs, ph_V4_law23_size, u8_0, u64_0]; exact k_law23_size (fN_u f) hf (nB_small (Rl))) (by rfl)).trans ?_
                refine (treeF_call (r := [wd (sizeN (fN f) (nB b1 b0)) 1, wd (sizeN (fN f) (nB b1 b0)) 0]) (by simp only [sxs, ph_V4_law23_size, u8_0, u64_0]; exact k_law23_size (fN_u f) hf (nB_u _ _)) (by rfl)).trans ?_
                refine (treeF_call (r := [wd (sizeN (fN f) (nB b1 b0)) 1, wd (sizeN (fN f) (nB b1 b0)) 0, (0 : Int)]) (by simp only [sxs, ph_V4_addsub_Add, u8_0, u64_0]; exact (k_addsub_Add (fN_u f) hf ((md_lit 4 (by decide)).1) ((md_lit 4 (by decide)).2) (show iNz 0 = false from rfl) (nB_small (size_lt hf _)) (nB_small (size_lt hf _))).trans (by rw [k2]; try rfl)) (by rfl)).trans ?_
                refine (treeF_call (r := [nCmp (sizeN (fN f) (nB b1 b0)) (sizeN (fN f) (nB b1 b0))]) (by simp only [sxs, ph_V4_word_Cmp, u8_0, u64_0]; exact k_wordCmp (size_lt hf _) (size_lt hf _)) (by rfl)).trans ?_
                refine tF (by simp only [sxs, nCmp_i64]; exact nCmp_gt.trans (decide_eq_false (by omega))) ?_
                refine (treeF_call (r := [wd (sizeN (fN f) (nB a1 a0)) 1, wd (sizeN (fN f) (nB a1 a0)) 0]) (by simp only [sxs, ph_V4_law23_size, u8_0, u64_0]; exact k_law23_size (fN_u f) hf (nB_u _ _)) (by rfl)).trans ?_
                refine (treeF_call (r := [wd (sizeN (fN f) (nB a1 a0)) 1, wd (sizeN (fN f) (nB a1 a0)) 0]) (by simp only [sxs, ph_V4_law23_size, u8_0, u64_0]; exact k_law23_size (fN_u f) hf (nB_u _ _)) (by rfl)).trans ?_
                refine (treeF_call (r := [wd (o) 1, wd (o) 0, ((k : Nat) : Int)]) (by simp only [sxs, ph_V4_addsub_Add, u8_0, u64_0]; exact (k_addsub_Add (fN_u f) hf ((md_lit 4 (by decide)).1) ((md_lit 4 (by decide)).2) (show iNz 0 = false from rfl) (nB_small (size_lt hf _)) (nB_small (size_lt hf _))).trans (by rw [k3]; try rfl)) (by rfl)).trans ?_
                refine tT (by simp only [sxs, o8]; exact (beq_nk0 k).trans (decide_eq_true hk)) ?_
                refine (treeF_call (r := [nCmp (o) (sizeN (fN f) (nB b1 b0))]) (by simp only [sxs, ph_V4_word_Cmp, u8_0, u64_0]; exact k_wordCmp (ol) (size_lt hf _)) (by rfl)).trans ?_
                refine tT (by simp only [sxs, nCmp_i64]; exact nCmp_lt.trans (decide_eq_true ho)) ?_
                refine (treeF_call (r := [wd (nB a1 a0 % 2 ^ FP.fW (fN f)) 1, wd (nB a1 a0 % 2 ^ FP.fW (fN f)) 0]) (by simp only [sxs, ph_V4_format_Cut, u8_0, u64_0]; exact k_format_Cut (fN_u f) (nB_u _ _)) (by rfl)).trans ?_
                refine tF (by exact nT (by simp only [sxs, u8_0, u64_0]; simp only [beq_self_eq_true, Bool.and_true, Bool.and_self, bt1, bt0])) ?_
                refine (treeF_call (r := [wd (R2) 1, wd (R2) 0, (0 : Int)]) (by simp only [sxs, ph_V4_rem_Rem, u8_0, u64_0]; exact (k_rem_Rem (fN_u f) hf (nB_small (Rl)) (nB_u _ _)).trans (by rw [k5]; try rfl)) (by rfl)).trans ?_
                refine tF (by simp only [sxs, u8_0]; exact w2_ne R2l Rl he) ?_
                refine tT (by simp only [sxs, u8_0, u64_0]; simp only [beq_self_eq_true, bne_self_eq_false]) ?_
                refine tT (by simp only [sxs, u8_0, u64_0]; simp only [beq_self_eq_true, Bool.and_true, Bool.and_self, bt1, bt0]) ?_
                rw [treeF_leaf rfl]; rfl
              · skip
                refine (treeF_call (r := [((clsF (fN f) (nB b1 b0) : Nat) : Int), b2i (FP.sgn (fN f) (nB b1 b0))]) (by simp only [sxs, ph_V4_class_Of, u8_0, u64_0]; exact k_class_Of (fN_u f) hf (nB_u _ _)) (by rfl)).trans ?_
                refine tF (by simp only [sxs, u8_0, u64_0]; exact known) ?_
                refine (treeF_call (r := [b2i (decide (clsF (fN f) (nB a1 a0) < 3))]) (by simp only [sxs, ph_V4_class_Finite, u8_0, u64_0]; exact k_class_Finite (fN_u f) hf (nB_u _ _)) (by rfl)).trans ?_
                refine tF (by exact nT (by simp only [sxs, u8_0, u64_0]; exact decide_eq_true (ha))) ?_
                refine tT (by simp only [sxs, u8B]; exact (bne_nk _ 1).trans (decide_eq_true (by omega))) ?_
                refine tF (by simp only [sxs, u8B]; exact (bne_nk _ 2).trans (decide_eq_false (by omega))) ?_
                refine (treeF_call (r := [wd (R) 1, wd (R) 0, (0 : Int)]) (by simp only [sxs, ph_V4_rem_Rem, u8_0, u64_0]; exact (k_rem_Rem (fN_u f) hf (nB_u _ _) (nB_u _ _)).trans (by rw [k1]; try rfl)) (by rfl)).trans ?_
                refine tF (by simp only [sxs, u8_0, u64_0]; simp only [beq_self_eq_true, bne_self_eq_false]) ?_
                refine (treeF_call (r := [b2i (decide (clsF (fN f) (R) < 3))]) (by simp only [sxs, ph_V4_class_Finite, u8_0, u64_0]; exact k_class_Finite (fN_u f) hf (nB_small (Rl))) (by rfl)).trans ?_
                refine tF (by exact nT (by simp only [sxs, u8_0, u64_0]; exact decide_eq_true (R3))) ?_
                refine (treeF_call (r := [wd (sizeN (fN f) (R)) 1, wd (sizeN (fN f) (R)) 0]) (by simp only [sxs, ph_V4_law23_size, u8_0, u64_0]; exact k_law23_size (fN_u f) hf (nB_small (Rl))) (by rfl)).trans ?_
                refine (treeF_call (r := [wd (sizeN (fN f) (nB b1 b0)) 1, wd (sizeN (fN f) (nB b1 b0)) 0]) (by simp only [sxs, ph_V4_law23_size, u8_0, u64_0]; exact k_law23_size (fN_u f) hf (nB_u _ _)) (by rfl)).trans ?_
                refine (treeF_call (r := [wd (sizeN (fN f) (nB b1 b0)) 1, wd (sizeN (fN f) (nB b1 b0)) 0, (0 : Int)]) (by simp only [sxs, ph_V4_addsub_Add, u8_0, u64_0]; exact (k_addsub_Add (fN_u f) hf ((md_lit 4 (by decide)).1) ((md_lit 4 (by decide)).2) (show iNz 0 = false from rfl) (nB_small (size_lt hf _)) (nB_small (size_lt hf _))).trans (by rw [k2]; try rfl)) (by rfl)).trans ?_
                refine (treeF_call (r := [nCmp (sizeN (fN f) (nB b1 b0)) (sizeN (fN f) (nB b1 b0))]) (by simp only [sxs, ph_V4_word_Cmp, u8_0, u64_0]; exact k_wordCmp (size_lt hf _) (size_lt hf _)) (by rfl)).trans ?_
                refine tF (by simp only [sxs, nCmp_i64]; exact nCmp_gt.trans (decide_eq_false (by omega))) ?_
                refine (treeF_call (r := [wd (sizeN (fN f) (nB a1 a0)) 1, wd (sizeN (fN f) (nB a1 a0)) 0]) (by simp only [sxs, ph_V4_law23_size, u8_0, u64_0]; exact k_law23_size (fN_u f) hf (nB_u _ _)) (by rfl)).trans ?_
                refine (treeF_call (r := [wd (sizeN (fN f) (nB a1 a0)) 1, wd (sizeN (fN f) (nB a1 a0)) 0]) (by simp only [sxs, ph_V4_law23_size, u8_0, u64_0]; exact k_law23_size (fN_u f) hf (nB_u _ _)) (by rfl)).trans ?_
                refine (treeF_call (r := [wd (o) 1, wd (o) 0, ((k : Nat) : Int)]) (by simp only [sxs, ph_V4_addsub_Add, u8_0, u64_0]; exact (k_addsub_Add (fN_u f) hf ((md_lit 4 (by decide)).1) ((md_lit 4 (by decide)).2) (show iNz 0 = false from rfl) (nB_small (size_lt hf _)) (nB_small (size_lt hf _))).trans (by rw [k3]; try rfl)) (by rfl)).trans ?_
                refine tT (by simp only [sxs, o8]; exact (beq_nk0 k).trans (decide_eq_true hk)) ?_
                refine (treeF_call (r := [nCmp (o) (sizeN (fN f) (nB b1 b0))]) (by simp only [sxs, ph_V4_word_Cmp, u8_0, u64_0]; exact k_wordCmp (ol) (size_lt hf _)) (by rfl)).trans ?_
                refine tF (by simp only [sxs, nCmp_i64]; exact nCmp_lt.trans (decide_eq_false ho)) ?_
                refine (treeF_call (r := [wd (R2) 1, wd (R2) 0, (0 : Int)]) (by simp only [sxs, ph_V4_rem_Rem, u8_0, u64_0]; exact (k_rem_Rem (fN_u f) hf (nB_small (Rl)) (nB_u _ _)).trans (by rw [k5]; try rfl)) (by rfl)).trans ?_
                refine tF (by simp only [sxs, u8_0]; exact w2_ne R2l Rl he) ?_
                refine tT (by simp only [sxs, u8_0, u64_0]; simp only [beq_self_eq_true, bne_self_eq_false]) ?_
                refine tT (by simp only [sxs, u8_0, u64_0]; simp only [beq_self_eq_true, Bool.and_true, Bool.and_self, bt1, bt0]) ?_
                rw [treeF_leaf rfl]; rfl
            · skip
              refine (treeF_call (r := [((clsF (fN f) (nB b1 b0) : Nat) : Int), b2i (FP.sgn (fN f) (nB b1 b0))]) (by simp only [sxs, ph_V4_class_Of, u8_0, u64_0]; exact k_class_Of (fN_u f) hf (nB_u _ _)) (by rfl)).trans ?_
              refine tF (by simp only [sxs, u8_0, u64_0]; exact known) ?_
              refine (treeF_call (r := [b2i (decide (clsF (fN f) (nB a1 a0) < 3))]) (by simp only [sxs, ph_V4_class_Finite, u8_0, u64_0]; exact k_class_Finite (fN_u f) hf (nB_u _ _)) (by rfl)).trans ?_
              refine tF (by exact nT (by simp only [sxs, u8_0, u64_0]; exact decide_eq_true (ha))) ?_
              refine tT (by simp only [sxs, u8B]; exact (bne_nk _ 1).trans (decide_eq_true (by omega))) ?_
              refine tF (by simp only [sxs, u8B]; exact (bne_nk _ 2).trans (decide_eq_false (by omega))) ?_
              refine (treeF_call (r := [wd (R) 1, wd (R) 0, (0 : Int)]) (by simp only [sxs, ph_V4_rem_Rem, u8_0, u64_0]; exact (k_rem_Rem (fN_u f) hf (nB_u _ _) (nB_u _ _)).trans (by rw [k1]; try rfl)) (by rfl)).trans ?_
              refine tF (by simp only [sxs, u8_0, u64_0]; simp only [beq_self_eq_true, bne_self_eq_false]) ?_
              refine (treeF_call (r := [b2i (decide (clsF (fN f) (R) < 3))]) (by simp only [sxs, ph_V4_class_Finite, u8_0, u64_0]; exact k_class_Finite (fN_u f) hf (nB_small (Rl))) (by rfl)).trans ?_
              refine tF (by exact nT (by simp only [sxs, u8_0, u64_0]; exact decide_eq_true (R3))) ?_
              refine (treeF_call (r := [wd (sizeN (fN f) (R)) 1, wd (sizeN (fN f) (R)) 0]) (by simp only [sxs, ph_V4_law23_size, u8_0, u64_0]; exact k_law23_size (fN_u f) hf (nB_small (Rl))) (by rfl)).trans ?_
              refine (treeF_call (r := [wd (sizeN (fN f) (nB b1 b0)) 1, wd (sizeN (fN f) (nB b1 b0)) 0]) (by simp only [sxs, ph_V4_law23_size, u8_0, u64_0]; exact k_law23_size (fN_u f) hf (nB_u _ _)) (by rfl)).trans ?_
              refine (treeF_call (r := [wd (sizeN (fN f) (nB b1 b0)) 1, wd (sizeN (fN f) (nB b1 b0)) 0, (0 : Int)]) (by simp only [sxs, ph_V4_addsub_Add, u8_0, u64_0]; exact (k_addsub_Add (fN_u f) hf ((md_lit 4 (by decide)).1) ((md_lit 4 (by decide)).2) (show iNz 0 = false from rfl) (nB_small (size_lt hf _)) (nB_small (size_lt hf _))).trans (by rw [k2]; try rfl)) (by rfl)).trans ?_
              refine (treeF_call (r := [nCmp (sizeN (fN f) (nB b1 b0)) (sizeN (fN f) (nB b1 b0))]) (by simp only [sxs, ph_V4_word_Cmp, u8_0, u64_0]; exact k_wordCmp (size_lt hf _) (size_lt hf _)) (by rfl)).trans ?_
              refine tF (by simp only [sxs, nCmp_i64]; exact nCmp_gt.trans (decide_eq_false (by omega))) ?_
              refine (treeF_call (r := [wd (sizeN (fN f) (nB a1 a0)) 1, wd (sizeN (fN f) (nB a1 a0)) 0]) (by simp only [sxs, ph_V4_law23_size, u8_0, u64_0]; exact k_law23_size (fN_u f) hf (nB_u _ _)) (by rfl)).trans ?_
              refine (treeF_call (r := [wd (sizeN (fN f) (nB a1 a0)) 1, wd (sizeN (fN f) (nB a1 a0)) 0]) (by simp only [sxs, ph_V4_law23_size, u8_0, u64_0]; exact k_law23_size (fN_u f) hf (nB_u _ _)) (by rfl)).trans ?_
              refine (treeF_call (r := [wd (o) 1, wd (o) 0, ((k : Nat) : Int)]) (by simp only [sxs, ph_V4_addsub_Add, u8_0, u64_0]; exact (k_addsub_Add (fN_u f) hf ((md_lit 4 (by decide)).1) ((md_lit 4 (by decide)).2) (show iNz 0 = false from rfl) (nB_small (size_lt hf _)) (nB_small (size_lt hf _))).trans (by rw [k3]; try rfl)) (by rfl)).trans ?_
              refine tF (by simp only [sxs, o8]; exact (beq_nk0 k).trans (decide_eq_false hk)) ?_
              refine (treeF_call (r := [wd (R2) 1, wd (R2) 0, (0 : Int)]) (by simp only [sxs, ph_V4_rem_Rem, u8_0, u64_0]; exact (k_rem_Rem (fN_u f) hf (nB_small (Rl)) (nB_u _ _)).trans (by rw [k5]; try rfl)) (by rfl)).trans ?_
              refine tF (by simp only [sxs, u8_0]; exact w2_ne R2l Rl he) ?_
              refine tT (by simp only [sxs, u8_0, u64_0]; simp only [beq_self_eq_true, bne_self_eq_false]) ?_
              refine tT (by simp only [sxs, u8_0, u64_0]; simp only [beq_self_eq_true, Bool.and_true, Bool.and_self, bt1, bt0]) ?_
              rw [treeF_leaf rfl]; rfl
      · have n1 : ¬ clsF (fN f) (nB b1 b0) = 1 := fun h => hb (.inl h)
        have n2 : ¬ clsF (fN f) (nB b1 b0) = 2 := fun h => hb (.inr h)
        refine (treeF_call (r := [((clsF (fN f) (nB b1 b0) : Nat) : Int), b2i (FP.sgn (fN f) (nB b1 b0))]) (by simp only [sxs, ph_V4_class_Of, u8_0, u64_0]; exact k_class_Of (fN_u f) hf (nB_u _ _)) (by rfl)).trans ?_
        refine tF (by simp only [sxs, u8_0, u64_0]; exact known) ?_
        refine (treeF_call (r := [b2i (decide (clsF (fN f) (nB a1 a0) < 3))]) (by simp only [sxs, ph_V4_class_Finite, u8_0, u64_0]; exact k_class_Finite (fN_u f) hf (nB_u _ _)) (by rfl)).trans ?_
        refine tF (by exact nT (by simp only [sxs, u8_0, u64_0]; exact decide_eq_true (ha))) ?_
        refine tT (by simp only [sxs, u8B]; exact (bne_nk _ 1).trans (decide_eq_true (by omega))) ?_
        refine tT (by simp only [sxs, u8B]; exact (bne_nk _ 2).trans (decide_eq_true (by omega))) ?_
        rw [treeF_leaf rfl]; rfl
    · skip
      refine (treeF_call (r := [((clsF (fN f) (nB b1 b0) : Nat) : Int), b2i (FP.sgn (fN f) (nB b1 b0))]) (by simp only [sxs, ph_V4_class_Of, u8_0, u64_0]; exact k_class_Of (fN_u f) hf (nB_u _ _)) (by rfl)).trans ?_
      refine tF (by simp only [sxs, u8_0, u64_0]; exact known) ?_
      refine (treeF_call (r := [b2i (decide (clsF (fN f) (nB a1 a0) < 3))]) (by simp only [sxs, ph_V4_class_Finite, u8_0, u64_0]; exact k_class_Finite (fN_u f) hf (nB_u _ _)) (by rfl)).trans ?_
      refine tT (by exact nF (by simp only [sxs, u8_0, u64_0]; exact decide_eq_false (ha))) ?_
      rw [treeF_leaf rfl]; rfl
  · have cof : F_class_Of [u8 f, u64 b1, u64 b0] = [0, 0] := by rw [s_class_Of, if_neg (by rw [fN_u]; exact hf)]
    refine (treeF_call (r := [(0 : Int), (0 : Int)]) (by simp only [sxs, ph_V4_class_Of, u8_0, u64_0]; exact cof) (by rfl)).trans ?_
    refine tT (by simp only [sxs]; rw [decide_eq_false (fun h => hf ((u8_lt4 f).1 h))]; rfl) ?_
    rw [treeF_leaf rfl]; rfl
end Go.Proofs.YtafnnnhmplgkcaaGreatDoor
