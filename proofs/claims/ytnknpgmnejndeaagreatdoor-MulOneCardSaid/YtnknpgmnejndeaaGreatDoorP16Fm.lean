import Derived.Test.YtnknpgmnejndeaaGreatDoorP15Fm
/- Sums and fused products by codes. -/
namespace Go.Proofs.YtnknpgmnejndeaaGreatDoor
set_option linter.unusedVariables false
set_option linter.unusedSimpArgs false
set_option maxRecDepth 100000
open Go.RowKit
/-- a sum: bits, flags -/
def addI (f a b : Nat) : Bool := decide (clsF f a = 3) && (decide (clsF f b = 3) && (FP.sgn f a != FP.sgn f b))
def addR (f m : Nat) (after : Bool) (a b : Nat) : Nat × Nat :=
  if 4 ≤ clsF f a then (quN f a, nanFlag f a b) else if 4 ≤ clsF f b then (quN f b, nanFlag f a b)
  else if addI f a b = true then (dfl f, 1)
  else if clsF f a = 3 then (FP.mk f (FP.sgn f a) (FP.inf f), 0)
  else if clsF f b = 3 then (FP.mk f (FP.sgn f b) (FP.inf f), 0)
  else (FP.mk f (FP.addN f m (FP.sgn f a) (FP.sgn f b) (FP.cod f a) (FP.cod f b)) (FP.addC f m after (FP.sgn f a) (FP.sgn f b) (FP.cod f a) (FP.cod f b)).1, (FP.addC f m after (FP.sgn f a) (FP.sgn f b) (FP.cod f a) (FP.cod f b)).2)
/-- a fused product and sum -/
def infAB (f a b : Nat) : Bool := decide (clsF f a = 3) || decide (clsF f b = 3)
def fmaI (f a b c : Nat) : Bool := badC (clsF f a) (clsF f b) || (infAB f a b && (decide (clsF f c = 3) && ((FP.sgn f a != FP.sgn f b) != FP.sgn f c)))
def fmaFlag (f a b c : Nat) : Nat := if badC (clsF f a) (clsF f b) = true ∨ clsF f a = 5 ∨ clsF f b = 5 ∨ clsF f c = 5 then 1 else 0
def fmaSg (f m a b c : Nat) : Bool := if infAB f a b = true then (FP.sgn f a != FP.sgn f b) else if clsF f c = 3 then FP.sgn f c else FP.fmaN f m (FP.sgn f a != FP.sgn f b) (FP.sgn f c) (FP.cod f a) (FP.cod f b) (FP.cod f c)
def fmaSc (f m : Nat) (after : Bool) (a b c : Nat) : Nat × Nat := if infAB f a b = true then (FP.inf f, 0) else if clsF f c = 3 then (FP.inf f, 0) else FP.fmaC f m after (FP.sgn f a != FP.sgn f b) (FP.sgn f c) (FP.cod f a) (FP.cod f b) (FP.cod f c)
def fmaR (f m : Nat) (after : Bool) (a b c : Nat) : Nat × Nat :=
  if 4 ≤ clsF f a then (quN f a, fmaFlag f a b c) else if 4 ≤ clsF f b then (quN f b, fmaFlag f a b c) else if 4 ≤ clsF f c then (quN f c, fmaFlag f a b c)
  else if fmaI f a b c = true then (dfl f, 1)
  else (FP.mk f (fmaSg f m a b c) (fmaSc f m after a b c).1, (fmaSc f m after a b c).2)
theorem fmaR_S {f : Nat} (m : Nat) (after : Bool) {a b c : Nat} (ha : ¬ 4 ≤ clsF f a) (hb : ¬ 4 ≤ clsF f b) (hc : ¬ 4 ≤ clsF f c) :
    fmaR f m after a b c = if fmaI f a b c = true then (dfl f, 1) else (FP.mk f (fmaSg f m a b c) (fmaSc f m after a b c).1, (fmaSc f m after a b c).2) := by
  unfold fmaR; rw [if_neg ha, if_neg hb, if_neg hc]
theorem fmaSc_le (f m : Nat) (after : Bool) (a b c : Nat) : (fmaSc f m after a b c).1 ≤ FP.inf f := by
  unfold fmaSc
  split
  · exact Nat.le_refl _
  · split
    · exact Nat.le_refl _
    · exact FP.roundC_le _ _ _ _ _ _ _
theorem fmaSc_flag (f m : Nat) (after : Bool) (a b c : Nat) : (fmaSc f m after a b c).2 ≤ 24 := by
  unfold fmaSc
  split
  · simp
  · split
    · simp
    · have := FP.roundC_flag_set (FP.fP f) (FP.fE f) m after (FP.fmaN f m (FP.sgn f a != FP.sgn f b) (FP.sgn f c) (FP.cod f a) (FP.cod f b) (FP.cod f c)) (FP.sgV (FP.sgn f a != FP.sgn f b) (FP.sgn f c) (FP.val f (FP.cod f a) * FP.val f (FP.cod f b)) (FP.val f (FP.cod f c) * 2 ^ FP.fU f)) (2 ^ FP.fU f)
      unfold FP.fmaC; omega
theorem fmaFlag_le (f a b c : Nat) : fmaFlag f a b c ≤ 1 := by unfold fmaFlag; split <;> omega
theorem quN_lt {f b : Nat} (hf : f < 4) (h : 4 ≤ clsF f b) : quN f b < W128 ∧ 4 ≤ clsF f (quN f b) ∧ clsF f (quN f b) ≠ 5 := by
  have hcl := FP.cod_lt f b
  have hn : FP.inf f < FP.cod f b := by rw [clsF_cod hf] at h; exact FP.clsC_nan.1 h
  obtain ⟨i1, i2, i3, i4⟩ := inf_gt hf
  have htop := FP.inf_top hf
  have hq : quC f (FP.cod f b) < 2 ^ (FP.fW f - 1) ∧ FP.inf f + 2 ^ (FP.fP f - 2) ≤ quC f (FP.cod f b) := by
    obtain ⟨q4, q5⟩ := cls_nan (c := FP.cod f b) hf
    unfold quC
    by_cases h5 : FP.clsC f (FP.cod f b) = 5
    · rw [if_pos h5]
      have := q5.1 h5
      omega
    · rw [if_neg h5]
      refine ⟨hcl, ?_⟩
      apply Nat.le_of_not_lt; intro hlt
      exact h5 (q5.2 ⟨hn, hlt⟩)
  unfold quN
  have hc := clsF_mk hf (FP.sgn f b) hq.1
  have h4 : FP.clsC f (quC f (FP.cod f b)) = 4 := (cls_nan hf).1.2 hq.2
  rw [hc, h4]
  exact ⟨mk_W hf _ hq.1, Nat.le_refl _, by omega⟩
theorem fmaR_flag (f m : Nat) (after : Bool) (a b c : Nat) : (fmaR f m after a b c).2 ≤ 24 := by
  have := fmaFlag_le f a b c
  have := fmaSc_flag f m after a b c
  unfold fmaR
  split
  · simp only []; omega
  · split
    · simp only []; omega
    · split
      · simp only []; omega
      · split
        · simp
        · exact this
theorem addI_cls {f a b : Nat} (h : addI f a b = true) : clsF f a = 3 ∧ clsF f b = 3 := by
  unfold addI at h
  simp only [Bool.and_eq_true, decide_eq_true_iff] at h
  exact ⟨h.1, h.2.1⟩
theorem nanFlag_le (f a b : Nat) : nanFlag f a b ≤ 1 := by unfold nanFlag; split <;> omega
theorem addR_lt {f : Nat} (hf : f < 4) (m : Nat) (after : Bool) (a b : Nat) : (addR f m after a b).1 < W128 := by
  unfold addR
  split
  · rename_i h; exact (quN_lt hf h).1
  · split
    · rename_i h; exact (quN_lt hf h).1
    · split
      · exact mk_W hf false (dfl_code hf)
      · split
        · exact mk_W hf _ (inf_W hf)
        · split
          · exact mk_W hf _ (inf_W hf)
          · exact mk_W hf _ (Nat.lt_of_le_of_lt (FP.roundC_le _ _ _ _ _ _ _) (inf_W hf))
/-- 1's bits -/
theorem one_bits {f : Nat} (hf : f < 4) : FP.oneC f < 2 ^ (FP.fW f - 1) ∧ clsF f (FP.mk f false (FP.oneC f)) = 2 ∧ FP.cod f (FP.mk f false (FP.oneC f)) = FP.oneC f ∧ FP.sgn f (FP.mk f false (FP.oneC f)) = false := by
  have h1 := FP.oneC_fin hf
  have hl := Nat.lt_trans h1 (inf_lt hf)
  refine ⟨hl, ?_, FP.cod_mk _ hl, FP.sgn_mk _ hl⟩
  rw [clsF_mk hf _ hl]
  have hE := FP.fE_ge hf
  have hp := FP.two_pow_pos (FP.fP f - 1)
  have hge : 2 ^ (FP.fP f - 1) ≤ FP.oneC f := by unfold FP.oneC; exact Nat.le_mul_of_pos_left _ hE
  unfold FP.clsC
  rw [if_neg (by omega), if_neg (by omega), if_pos h1]
theorem bne_false' (a : Bool) : (a != false) = a := by cases a <;> rfl
/-- by 1: the sum -/
theorem fmaR_one {f : Nat} (hf : f < 4) (m : Nat) (after : Bool) (a c : Nat) : fmaR f m after a (FP.mk f false (FP.oneC f)) c = addR f m after a c := by
  obtain ⟨o1, o2, o3, o4⟩ := one_bits hf
  have hb : ∀ x, badC x 2 = false := fun x => by unfold badC; simp; omega
  have hfl : fmaFlag f a (FP.mk f false (FP.oneC f)) c = nanFlag f a c := by
    unfold fmaFlag nanFlag
    rw [o2, hb]
    by_cases h1 : clsF f a = 5
    · rw [if_pos (.inr (.inl h1)), if_pos (.inl h1)]
    · by_cases h2 : clsF f c = 5
      · rw [if_pos (.inr (.inr (.inr h2))), if_pos (.inr h2)]
      · rw [if_neg (by rintro (h | h | h | h) <;> first | cases h; done | omega), if_neg (by omega)]
  have hI : fmaI f a (FP.mk f false (FP.oneC f)) c = addI f a c := by
    unfold fmaI infAB addI
    rw [o2, o4, hb, bne_false']
    simp
  have hinf : infAB f a (FP.mk f false (FP.oneC f)) = decide (clsF f a = 3) := by unfold infAB; rw [o2]; simp
  unfold fmaR addR
  rw [hfl, hI, o2, if_neg (show ¬ 4 ≤ 2 by omega)]
  by_cases h1 : 4 ≤ clsF f a
  · rw [if_pos h1, if_pos h1]
  rw [if_neg h1, if_neg h1]
  by_cases h2 : 4 ≤ clsF f c
  · rw [if_pos h2, if_pos h2]
  rw [if_neg h2, if_neg h2]
  by_cases h3 : addI f a c = true
  · rw [if_pos h3, if_pos h3]
  rw [if_neg h3, if_neg h3]
  unfold fmaSg fmaSc
  rw [hinf, o3, o4, bne_false']
  by_cases h4 : clsF f a = 3
  · rw [decide_eq_true h4, if_pos rfl, if_pos rfl, if_pos h4]
  rw [decide_eq_false h4, if_neg h4]
  simp only [Bool.false_eq_true, if_false]
  by_cases h5 : clsF f c = 3
  · simp only [h5, if_true]
  simp only [h5, if_false]
  obtain ⟨k1, k2⟩ := FP.fma_one (m := m) (after := after) (c := FP.cod f a) (e := FP.cod f c) hf (FP.sgn f a) (FP.sgn f c)
  rw [k1, k2]
/-- with a nought: the product, but for a nought's sign -/
theorem fmaR_nought {f : Nat} (hf : f < 4) (m : Nat) (after neg : Bool) (a b : Nat) :
    fmaR f m after a b (FP.mk f neg 0) = mulR f m after a b ∨ (∃ s t, fmaR f m after a b (FP.mk f neg 0) = (FP.mk f s 0, 0) ∧ mulR f m after a b = (FP.mk f t 0, 0)) := by
  have hz : (0 : Nat) < 2 ^ (FP.fW f - 1) := FP.two_pow_pos _
  have cz : clsF f (FP.mk f neg 0) = 0 := by rw [clsF_mk hf _ hz]; unfold FP.clsC; rw [if_pos rfl]
  have z1 := FP.cod_mk (f := f) neg hz
  have z2 := FP.sgn_mk (f := f) neg hz
  have hfl : ∀ (h : 4 ≤ clsF f a ∨ 4 ≤ clsF f b), fmaFlag f a b (FP.mk f neg 0) = nanFlag f a b := fun h => by
    unfold fmaFlag nanFlag badC
    rw [cz]
    by_cases h1 : clsF f a = 5
    · rw [if_pos (.inr (.inl h1)), if_pos (.inl h1)]
    · by_cases h2 : clsF f b = 5
      · rw [if_pos (.inr (.inr (.inl h2))), if_pos (.inr h2)]
      · rw [if_neg (by
          rintro (h3 | h3 | h3 | h3)
          · simp only [Bool.or_eq_true, Bool.and_eq_true, decide_eq_true_iff] at h3; omega
          · omega
          · omega
          · omega), if_neg (by omega)]
  have hI : fmaI f a b (FP.mk f neg 0) = badC (clsF f a) (clsF f b) := by
    unfold fmaI; rw [cz]; simp
  unfold fmaR mulR
  rw [hI, cz, if_neg (show ¬ 4 ≤ 0 by omega)]
  by_cases h1 : 4 ≤ clsF f a
  · rw [if_pos h1, if_pos h1, hfl (.inl h1)]; exact .inl rfl
  rw [if_neg h1, if_neg h1]
  by_cases h2 : 4 ≤ clsF f b
  · rw [if_pos h2, if_pos h2, hfl (.inr h2)]; exact .inl rfl
  rw [if_neg h2, if_neg h2]
  by_cases h3 : badC (clsF f a) (clsF f b) = true
  · rw [if_pos h3, if_pos h3]; exact .inl rfl
  rw [if_neg h3, if_neg h3]
  unfold fmaSg fmaSc
  by_cases h4 : clsF f a = 3 ∨ clsF f b = 3
  · have hi : infAB f a b = true := by unfold infAB; simpa using h4
    rw [if_pos hi, if_pos hi, if_pos h4]; exact .inl rfl
  have hi : ¬ infAB f a b = true := by unfold infAB; simpa using h4
  rw [if_neg hi, if_neg hi, if_neg h4, cz, if_neg (by decide), if_neg (by decide), z1, z2]
  by_cases hv : FP.val f (FP.cod f a) * FP.val f (FP.cod f b) = 0
  · right
    obtain ⟨k1, k2⟩ := FP.fma_nought0 (m := m) (after := after) (f := f) (FP.sgn f a != FP.sgn f b) neg hv
    rw [k1, k2]
    exact ⟨_, _, rfl, rfl⟩
  · left
    obtain ⟨k1, k2⟩ := FP.fma_nought (m := m) (after := after) (f := f) (FP.sgn f a != FP.sgn f b) neg hv
    rw [k1, k2]
theorem fmaI_comm (f a b c : Nat) : fmaI f b a c = fmaI f a b c := by
  unfold fmaI infAB; rw [badC_comm, Bool.or_comm (decide (clsF f b = 3)), bne_comm' (FP.sgn f b)]
theorem fmaR_comm {f : Nat} (m : Nat) (after : Bool) {a b c : Nat} (ha : ¬ 4 ≤ clsF f a) (hb : ¬ 4 ≤ clsF f b) (hc : ¬ 4 ≤ clsF f c) : fmaR f m after b a c = fmaR f m after a b c := by
  rw [fmaR_S _ _ ha hb hc, fmaR_S _ _ hb ha hc, fmaI_comm]
  have hi : infAB f b a = infAB f a b := by unfold infAB; rw [Bool.or_comm]
  have k1 : fmaSg f m b a c = fmaSg f m a b c := by
    unfold fmaSg
    rw [hi, bne_comm' (FP.sgn f b), (FP.fmaC_comm f m after _ _ (FP.cod f a) (FP.cod f b) _).1]
  have k2 : fmaSc f m after b a c = fmaSc f m after a b c := by
    unfold fmaSc
    rw [hi, bne_comm' (FP.sgn f b), (FP.fmaC_comm f m after _ _ (FP.cod f a) (FP.cod f b) _).2]
  rw [k1, k2]
/-- signs turned, by the mirrored mode -/
theorem fmaR_turn {f : Nat} (hf : f < 4) (m : Nat) (after : Bool) {a b c : Nat} (ha : ¬ 4 ≤ clsF f a) (hb : ¬ 4 ≤ clsF f b) (hc : ¬ 4 ≤ clsF f c) :
    (fmaR f m after a b c = (dfl f, 1) ∧ fmaR f (FP.mir m) after (turnN f a) b (turnN f c) = (dfl f, 1)) ∨
    ∃ s t k g, k ≤ FP.inf f ∧ (k ≠ 0 → t = !s) ∧ fmaR f m after a b c = (FP.mk f s k, g) ∧ fmaR f (FP.mir m) after (turnN f a) b (turnN f c) = (FP.mk f t k, g) := by
  have hI : fmaI f (turnN f a) b (turnN f c) = fmaI f a b c := by
    unfold fmaI infAB
    rw [clsF_turn, clsF_turn, sgn_turn hf, sgn_turn hf, bne_not1, bne_not2]
  rw [fmaR_S _ _ ha hb hc, fmaR_S _ _ (by rw [clsF_turn]; exact ha) hb (by rw [clsF_turn]; exact hc), hI]
  by_cases h : fmaI f a b c = true
  · rw [if_pos h, if_pos h]; exact .inl ⟨rfl, rfl⟩
  rw [if_neg h, if_neg h]
  right
  have hinf : infAB f (turnN f a) b = infAB f a b := by unfold infAB; rw [clsF_turn]
  have k2 : fmaSc f (FP.mir m) after (turnN f a) b (turnN f c) = fmaSc f m after a b c := by
    unfold fmaSc
    rw [hinf, clsF_turn, sgn_turn hf, sgn_turn hf, cod_turn hf, cod_turn hf, bne_not1, (FP.fmaC_mir (FP.sgn f a != FP.sgn f b) (FP.sgn f c)).1]
  refine ⟨fmaSg f m a b c, fmaSg f (FP.mir m) (turnN f a) b (turnN f c), (fmaSc f m after a b c).1, (fmaSc f m after a b c).2, fmaSc_le _ _ _ _ _ _, ?_, rfl, by rw [k2]⟩
  intro hk
  unfold fmaSg
  unfold fmaSc at hk
  rw [hinf, clsF_turn, sgn_turn hf, sgn_turn hf, cod_turn hf, cod_turn hf, bne_not1]
  by_cases h4 : infAB f a b = true
  · rw [if_pos h4, if_pos h4]
  rw [if_neg h4] at hk
  rw [if_neg h4, if_neg h4]
  by_cases h5 : clsF f c = 3
  · rw [if_pos h5, if_pos h5]
  rw [if_neg h5] at hk
  rw [if_neg h5, if_neg h5]
  exact (FP.fmaC_mir (after := after) (FP.sgn f a != FP.sgn f b) (FP.sgn f c)).2 hk
theorem clsC_zero (f : Nat) : FP.clsC f 0 = 0 := by unfold FP.clsC; rw [if_pos rfl]
theorem clsC_zero_iff {f k : Nat} : FP.clsC f k = 0 ↔ k = 0 := by
  unfold FP.clsC
  by_cases h : k = 0
  · rw [if_pos h]; simp [h]
  · rw [if_neg h]
    constructor
    · intro h2
      exfalso
      revert h2
      split
      · simp
      · split
        · simp
        · split
          · simp
          · split <;> simp
    · intro h2; exact absurd h2 h
end Go.Proofs.YtnknpgmnejndeaaGreatDoor
