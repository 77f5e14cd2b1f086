/- What is known on a way: facts, bounds. No function of the program. -/
import Derived.Test.YtikjbocagnolmaaDoorSx1
namespace Go.Proofs.YtikjbocagnolmaaDoor
set_option linter.unusedVariables false
set_option linter.unusedSimpArgs false
open Go.RowKit
theorem beq_iff {a b : Nat} : Nat.beq a b = true ↔ a = b := by rw [Nat.beq_eq]
/-! ### what is known on a way -/
def vkEq : VK → VK → Bool
  | .int k, .int k' => kEq k k'
  | .bool, .bool => true
  | .bit, .bit => true
  | _, _ => false
def opNo : BinOp → Nat
  | .add => 0 | .sub => 1 | .mul => 2 | .quo => 3 | .rem => 4 | .and => 5 | .or => 6 | .xor => 7 | .shl => 8 | .shr => 9 | .andNot => 10
  | .eql => 11 | .neq => 12 | .lss => 13 | .leq => 14 | .gtr => 15 | .geq => 16
def andB (a : Bool) (b : Bool) : Bool := match a with | true => b | false => false
def eqX : X → X → Bool
  | .lit m, .lit n => iEq m n
  | .var k i, .var k' j => andB (Nat.beq i j) (vkEq k k')
  | .bin o k a b, .bin o' k' a' b' => andB (Nat.beq (opNo o) (opNo o')) (andB (kEq k k') (andB (eqX a a') (eqX b b')))
  | .conv k a, .conv k' a' => andB (kEq k k') (eqX a a')
  | .com k a, .com k' a' => andB (kEq k k') (eqX a a')
  | .not a, .not a' => eqX a a'
  | .and a b, .and a' b' => andB (eqX a a') (eqX b b')
  | .beq a b, .beq a' b' => andB (eqX a a') (eqX b b')
  | .min a b, .min a' b' => andB (eqX a a') (eqX b b')
  | .max a b, .max a' b' => andB (eqX a a') (eqX b b')
  | .ite c a b, .ite c' a' b' => andB (eqX c c') (andB (eqX a a') (eqX b b'))
  | _, _ => false
abbrev Facts := List (X × Bool)
def lookF : Facts → X → Option Bool
  | [], _ => none
  | x :: l, c => match eqX x.1 c with | true => some x.2 | false => lookF l c
def lookN (fc : Facts) (c : X) : Option Bool := match c with
  | .not a => match lookF fc a with | some b => some (bNot b) | none => lookF fc (.not a)
  | c => lookF fc c
def addF (fc : Facts) (c : X) (b : Bool) : Facts := match c with
  | .not a => (a, bNot b) :: fc
  | c => (c, b) :: fc
/-! ### facts -/
def FOK (s : Sig) (fc : Facts) : Prop := ∀ x ∈ fc, (x.1.den s != 0) = x.2
theorem vkEq_eq {a b : VK} (h : vkEq a b = true) : a = b := by
  cases a <;> cases b <;> first | rfl | (simp only [vkEq] at h; rw [kEq_eq h]) | cases h
theorem opNo_eq {a b : BinOp} (h : opNo a = opNo b) : a = b := by cases a <;> cases b <;> first | rfl | (simp [opNo] at h)
theorem andB_eq {a b : Bool} (h : andB a b = true) : a = true ∧ b = true := by
  cases a with
  | true => exact ⟨rfl, h⟩
  | false => cases h
theorem eqX_eq : ∀ {a b : X}, eqX a b = true → a = b
  | .lit m, .lit n, h => by simp only [eqX, iEq_eq, beq_iff_eq] at h; rw [h]
  | .var k i, .var k' j, h => by have h := andB_eq h; rw [beq_iff.1 h.1, vkEq_eq h.2]
  | .bin o k a b, .bin o' k' a' b', h => by
    have h := andB_eq h; have h2 := andB_eq h.2; have h3 := andB_eq h2.2
    rw [opNo_eq (beq_iff.1 h.1), kEq_eq h2.1, eqX_eq h3.1, eqX_eq h3.2]
  | .conv k a, .conv k' a', h => by have h := andB_eq h; rw [kEq_eq h.1, eqX_eq h.2]
  | .com k a, .com k' a', h => by have h := andB_eq h; rw [kEq_eq h.1, eqX_eq h.2]
  | .not a, .not a', h => by rw [eqX_eq (a := a) (b := a') h]
  | .and a b, .and a' b', h => by have h := andB_eq h; rw [eqX_eq h.1, eqX_eq h.2]
  | .beq a b, .beq a' b', h => by have h := andB_eq h; rw [eqX_eq h.1, eqX_eq h.2]
  | .min a b, .min a' b', h => by have h := andB_eq h; rw [eqX_eq h.1, eqX_eq h.2]
  | .max a b, .max a' b', h => by have h := andB_eq h; rw [eqX_eq h.1, eqX_eq h.2]
  | .ite c a b, .ite c' a' b', h => by have h := andB_eq h; have h2 := andB_eq h.2; rw [eqX_eq h.1, eqX_eq h2.1, eqX_eq h2.2]
theorem lookF_ok {s : Sig} : ∀ {fc : Facts} {c : X} {b : Bool}, FOK s fc → lookF fc c = some b → (c.den s != 0) = b
  | [], c, b, _, h => by cases h
  | x :: l, c, b, hf, h => by
    simp only [lookF] at h
    split at h
    · rename_i he
      cases h
      rw [← eqX_eq he]; exact hf x List.mem_cons_self
    · exact lookF_ok (fun y hy => hf y (List.mem_cons_of_mem _ hy)) h
theorem lookN_ok {s : Sig} {fc : Facts} {c : X} {b : Bool} (hf : FOK s fc) (h : lookN fc c = some b) : (c.den s != 0) = b := by
  unfold lookN at h
  split at h
  · split at h
    · rename_i hb
      cases h
      rw [X.den, b2i_ne, lookF_ok hf hb, bNot_eq]
    · exact lookF_ok hf h
  · exact lookF_ok hf h
theorem addF_ok {s : Sig} {fc : Facts} {c : X} {b : Bool} (hf : FOK s fc) (h : (c.den s != 0) = b) : FOK s (addF fc c b) := by
  unfold addF
  split
  · rename_i a
    rw [X.den, b2i_ne] at h
    intro x hx
    rcases List.mem_cons.1 hx with rfl | hx
    · simp only [bNot_eq, ← h, Bool.not_not]
    · exact hf x hx
  · intro x hx
    rcases List.mem_cons.1 hx with rfl | hx
    · exact h
    · exact hf x hx
/-! ### bounds -/
abbrev Rng := Int × Int
def kLo : IntKind → Int
  | .i8 => -128 | .i16 => -32768 | .i32 => -2147483648 | .i64 => -9223372036854775808 | _ => 0
def kHi : IntKind → Int
  | .i8 => 127 | .i16 => 32767 | .i32 => 2147483647 | .i64 => 9223372036854775807
  | .u8 => 255 | .u16 => 65535 | .u32 => 4294967295 | .u64 => 18446744073709551615
theorem wrap_lo (k : IntKind) (n : Int) : kLo k ≤ k.wrap n ∧ k.wrap n ≤ kHi k := by
  unfold IntKind.wrap IntKind.bits IntKind.signed kLo kHi
  cases k <;> simp <;> (try split) <;> (constructor <;> omega)
def iLe (a b : Int) : Bool := bNot (iLt b a)
theorem iLe_eq {a b : Int} (h : iLe a b = true) : a ≤ b := by
  unfold iLe at h; rw [bNot_eq, iLt_eq] at h; simpa using h
theorem iLt_eq' {a b : Int} (h : iLt a b = true) : a < b := by rw [iLt_eq] at h; simpa using h
theorem iEq_eq' {a b : Int} (h : iEq a b = true) : a = b := by rw [iEq_eq] at h; simpa using h
def iMin (a b : Int) : Int := match iLe a b with | true => a | false => b
def iMax (a b : Int) : Int := match iLe a b with | true => b | false => a
theorem iMin_ok {a b n : Int} (h1 : n ≤ a) (h2 : n ≤ b) : n ≤ iMin a b := by unfold iMin; split <;> assumption
theorem iMax_ok {a b n : Int} (h1 : a ≤ n) (h2 : b ≤ n) : iMax a b ≤ n := by unfold iMax; split <;> assumption
theorem iMin_le (a b : Int) : iMin a b ≤ a ∧ iMin a b ≤ b := by
  unfold iMin; split
  · rename_i h; exact ⟨Int.le_refl _, iLe_eq h⟩
  · rename_i h; unfold iLe at h; rw [bNot_eq, iLt_eq] at h; simp at h; omega
theorem iMax_le (a b : Int) : a ≤ iMax a b ∧ b ≤ iMax a b := by
  unfold iMax; split
  · rename_i h; exact ⟨iLe_eq h, Int.le_refl _⟩
  · rename_i h; unfold iLe at h; rw [bNot_eq, iLt_eq] at h; simp at h; omega
def inR (r : Rng) (n : Int) : Prop := r.1 ≤ n ∧ n ≤ r.2
def fitK (k : IntKind) (lo hi : Int) : Rng := match andB (iLe (kLo k) lo) (iLe hi (kHi k)) with | true => (lo, hi) | false => (kLo k, kHi k)
theorem wrap_id {k : IntKind} {n : Int} (h1 : kLo k ≤ n) (h2 : n ≤ kHi k) : k.wrap n = n := by
  unfold IntKind.wrap IntKind.bits IntKind.signed kLo kHi at *
  cases k <;> simp at h1 h2 ⊢ <;> (try split) <;> omega
theorem fitK_ok {k : IntKind} {lo hi n : Int} (h : inR (lo, hi) n) : inR (fitK k lo hi) (k.wrap n) := by
  unfold fitK
  split
  · rename_i he
    have he := andB_eq he
    have h1 := iLe_eq he.1; have h2 := iLe_eq he.2
    rw [wrap_id (Int.le_trans h1 h.1) (Int.le_trans h.2 h2)]; exact h
  · exact wrap_lo k n
/-- a fact about a number against a known one -/
def refOp (op : BinOp) (c : Int) (b : Bool) (r : Rng) : Rng := match op, b with
  | .lss, true => (r.1, iMin r.2 (c - 1))
  | .lss, false => (iMax r.1 c, r.2)
  | .leq, true => (r.1, iMin r.2 c)
  | .leq, false => (iMax r.1 (c + 1), r.2)
  | .gtr, true => (iMax r.1 (c + 1), r.2)
  | .gtr, false => (r.1, iMin r.2 c)
  | .geq, true => (iMax r.1 c, r.2)
  | .geq, false => (r.1, iMin r.2 (c - 1))
  | .eql, true => (c, c)
  | .neq, false => (c, c)
  | .eql, false => (match iEq r.1 c with | true => c + 1 | false => r.1, match iEq r.2 c with | true => c - 1 | false => r.2)
  | .neq, true => (match iEq r.1 c with | true => c + 1 | false => r.1, match iEq r.2 c with | true => c - 1 | false => r.2)
  | _, _ => r
theorem refOp_ok {op : BinOp} {k : IntKind} {c n : Int} {b : Bool} {r : Rng} (h : inR r n) (hf : (iOp op k n c != 0) = b) : inR (refOp op c b r) n := by
  have ne : n ≠ c → inR (match iEq r.1 c with | true => c + 1 | false => r.1, match iEq r.2 c with | true => c - 1 | false => r.2) n := fun hn => by
    obtain ⟨h1, h2⟩ := h
    constructor
    · simp only; split
      · rename_i he; have := iEq_eq' he; omega
      · exact h1
    · simp only; split
      · rename_i he; have := iEq_eq' he; omega
      · exact h2
  cases op <;> simp only [iOp, b2i_ne] at hf <;> cases b <;> simp only [refOp] <;> first
    | exact h
    | (simp at hf; exact ne hf)
    | (simp at hf; subst hf; exact ⟨Int.le_refl _, Int.le_refl _⟩)
    | (simp at hf; exact ⟨h.1, iMin_ok h.2 (by omega)⟩)
    | (simp at hf; exact ⟨iMax_ok h.1 (by omega), h.2⟩)
def ref1 (x : X) (f : X × Bool) (r : Rng) : Rng := match f.1 with
  | .bin op _ a (.lit c) => match eqX a x with | true => refOp op c f.2 r | false => r
  | _ => r
def refAll (x : X) : Facts → Rng → Rng
  | [], r => r
  | f :: fc, r => ref1 x f (refAll x fc r)
theorem refAll_ok {s : Sig} {x : X} : ∀ {fc : Facts} {r : Rng}, FOK s fc → inR r (x.den s) → inR (refAll x fc r) (x.den s)
  | [], r, _, h => h
  | f :: fc, r, hf, h => by
    have ih : inR (refAll x fc r) (x.den s) := refAll_ok (fun y hy => hf y (List.mem_cons_of_mem _ hy)) h
    show inR (ref1 x f (refAll x fc r)) _
    unfold ref1
    split
    · rename_i op k a c hc
      split
      · rename_i he
        have := eqX_eq he; subst this
        have hf0 := hf f List.mem_cons_self
        rw [hc] at hf0
        exact refOp_ok ih hf0
      · exact ih
    · exact ih
/-- twice: one fact may wait for another -/
def ref2 (x : X) (fc : Facts) (r : Rng) : Rng := refAll x fc (refAll x fc r)
theorem ref2_ok {s : Sig} {x : X} {fc : Facts} {r : Rng} (hf : FOK s fc) (h : inR r (x.den s)) : inR (ref2 x fc r) (x.den s) := refAll_ok hf (refAll_ok hf h)
def shrI (a : Int) (n : Nat) : Int := fold .shr .i64 a (.ofNat n)
/-- bounds of a number -/
def rng (fc : Facts) : X → Option Rng
  | .lit n => some (n, n)
  | .var k i => match k with
    | .int k => some (ref2 (.var (.int k) i) fc (kLo k, kHi k))
    | _ => some (ref2 (.var k i) fc (.ofNat 0, .ofNat 1))
  | .bin op k a b => match op with
    | .add => match rng fc a, rng fc b with
      | some x, some y => some (ref2 (.bin .add k a b) fc (fitK k (x.1 + y.1) (x.2 + y.2)))
      | _, _ => some (ref2 (.bin .add k a b) fc (kLo k, kHi k))
    | .sub => match rng fc a, rng fc b with
      | some x, some y => some (ref2 (.bin .sub k a b) fc (fitK k (x.1 - y.2) (x.2 - y.1)))
      | _, _ => some (ref2 (.bin .sub k a b) fc (kLo k, kHi k))
    | .mul | .quo | .shl | .or | .xor | .andNot => some (ref2 (.bin op k a b) fc (kLo k, kHi k))
    | .and => match b with
      | .lit (.ofNat n) => match iLt (.ofNat n) (.ofNat (kHalf k)) with
        | true => some (ref2 (.bin .and k a (.lit (.ofNat n))) fc (.ofNat 0, .ofNat n))
        | false => some (ref2 (.bin .and k a (.lit (.ofNat n))) fc (kLo k, kHi k))
      | b => some (ref2 (.bin .and k a b) fc (kLo k, kHi k))
    | .shr => match rng fc a, b with
      | some x, .lit (.ofNat n) => some (ref2 (.bin .shr k a (.lit (.ofNat n))) fc (x.1.fdiv (2 ^ minB n k), x.2.fdiv (2 ^ minB n k)))
      | _, _ => none
    | .rem => none
    | _ => some (.ofNat 0, .ofNat 1)
  | .conv k a => match rng fc a with
    | some x => some (ref2 (.conv k a) fc (fitK k x.1 x.2))
    | none => some (ref2 (.conv k a) fc (kLo k, kHi k))
  | .com k _ => some (kLo k, kHi k)
  | .not _ => some (.ofNat 0, .ofNat 1)
  | .and _ _ => some (.ofNat 0, .ofNat 1)
  | .beq _ _ => some (.ofNat 0, .ofNat 1)
  | .min a b => match rng fc a, rng fc b with
    | some x, some y => some (ref2 (.min a b) fc (iMin x.1 y.1, iMin x.2 y.2))
    | _, _ => none
  | .max a b => match rng fc a, rng fc b with
    | some x, some y => some (ref2 (.max a b) fc (iMax x.1 y.1, iMax x.2 y.2))
    | _, _ => none
  | .ite _ a b => match rng fc a, rng fc b with
    | some x, some y => some (iMin x.1 y.1, iMax x.2 y.2)
    | _, _ => none
theorem b2i_R (b : Bool) : inR (.ofNat 0, .ofNat 1) (b2i b) := by cases b <;> exact ⟨by decide, by decide⟩
theorem and_R {k : IntKind} {a : Int} {n : Nat} (h : n < kHalf k) : inR (.ofNat 0, .ofNat n) (bitsI .and k a (.ofNat n)) := by
  have h0 : fold .and k a (.ofNat n) = bitsI .and k a (.ofNat n) := fold_eq .and k a (.ofNat n)
  rw [← h0]
  simp only [fold, wrapC_eq]
  have hm : Nat.land (toBits k a) (toBits k (.ofNat n)) ≤ n := by
    refine Nat.le_trans (Nat.and_le_right (n := toBits k a) (m := toBits k (.ofNat n))) ?_
    exact Nat.mod_le _ _
  have hk : (kHalf k : Int) ≤ kHi k + 1 := by unfold kHi kHalf; cases k <;> decide
  have hl : kLo k ≤ 0 := by unfold kLo; cases k <;> decide
  rw [wrap_id (by have : (0 : Int) ≤ Int.ofNat (Nat.land (toBits k a) (toBits k (.ofNat n))) := Int.natCast_nonneg _; omega) (by
    have : Int.ofNat (Nat.land (toBits k a) (toBits k (.ofNat n))) ≤ (n : Int) := Int.ofNat_le.2 hm
    omega)]
  exact ⟨Int.natCast_nonneg _, Int.ofNat_le.2 hm⟩
theorem fdiv_mono {a b : Int} (m : Nat) (h : a ≤ b) : a.fdiv (2 ^ m) ≤ b.fdiv (2 ^ m) := by
  rw [Int.fdiv_eq_ediv_of_nonneg _ (Int.pow_nonneg (by decide)), Int.fdiv_eq_ediv_of_nonneg _ (Int.pow_nonneg (by decide))]
  exact Int.ediv_le_ediv (Int.pow_pos (by decide)) h
theorem rng_ok {s : Sig} {fc : Facts} (hf : FOK s fc) : ∀ {x : X} {r : Rng}, rng fc x = some r → inR r (x.den s)
  | .lit n, r, h => by cases h; exact ⟨Int.le_refl _, Int.le_refl _⟩
  | .var k i, r, h => by
    simp only [rng] at h
    split at h
    · cases h; exact ref2_ok hf (wrap_lo _ _)
    · rename_i hk
      cases h
      refine ref2_ok hf ?_
      cases k with
      | int k => exact absurd rfl (hk k)
      | bool => exact b2i_R _
      | bit => exact b2i_R _
  | .bin op k a b, r, h => by
    have kr : ∀ {op'}, op' = .add ∨ op' = .sub ∨ op' = .mul ∨ op' = .quo ∨ op' = .shl ∨ op' = .and ∨ op' = .or ∨ op' = .xor ∨ op' = .andNot → inR (kLo k, kHi k) ((X.bin op' k a b).den s) := by
      rintro op' (rfl | rfl | rfl | rfl | rfl | rfl | rfl | rfl | rfl) <;> exact wrap_lo _ _
    cases op <;> simp only [rng] at h
    case add =>
      split at h
      · rename_i x y hx hy
        cases h
        have h1 := rng_ok hf hx; have h2 := rng_ok hf hy
        exact ref2_ok hf (fitK_ok ⟨Int.add_le_add h1.1 h2.1, Int.add_le_add h1.2 h2.2⟩)
      · cases h; exact ref2_ok hf (kr (by simp))
    case sub =>
      split at h
      · rename_i x y hx hy
        cases h
        have h1 := rng_ok hf hx; have h2 := rng_ok hf hy
        exact ref2_ok hf (fitK_ok ⟨Int.sub_le_sub h1.1 h2.2, Int.sub_le_sub h1.2 h2.1⟩)
      · cases h; exact ref2_ok hf (kr (by simp))
    case and =>
      split at h
      · rename_i n
        split at h
        · rename_i hn
          cases h
          exact ref2_ok hf (and_R (by have := iLt_eq' hn; simpa using this))
        · cases h; exact ref2_ok hf (wrap_lo _ _)
      · cases h; exact ref2_ok hf (wrap_lo _ _)
    case shr =>
      split at h
      · rename_i x n hx
        cases h
        have h1 := rng_ok hf hx
        refine ref2_ok hf ?_
        rw [minB_eq]
        exact ⟨fdiv_mono _ h1.1, fdiv_mono _ h1.2⟩
      · cases h
    case rem => cases h
    all_goals first
      | (cases h; exact ref2_ok hf (wrap_lo _ _))
      | (cases h; exact b2i_R _)
  | .conv k a, r, h => by
    simp only [rng] at h
    split at h
    · rename_i x hx
      cases h
      exact ref2_ok hf (fitK_ok (rng_ok hf hx))
    · cases h; exact ref2_ok hf (wrap_lo _ _)
  | .com k a, r, h => by cases h; exact wrap_lo _ _
  | .not a, r, h => by cases h; exact b2i_R _
  | .and a b, r, h => by cases h; exact b2i_R _
  | .beq a b, r, h => by cases h; exact b2i_R _
  | .min a b, r, h => by
    simp only [rng] at h
    split at h
    · rename_i x y hx hy
      cases h
      have h1 := rng_ok hf hx; have h2 := rng_ok hf hy
      have h3 := iMin_le x.1 y.1
      refine ref2_ok hf ?_
      simp only [X.den]
      split
      · rename_i hlt; exact ⟨Int.le_trans h3.2 h2.1, iMin_ok (Int.le_trans (Int.le_of_lt hlt) h1.2) h2.2⟩
      · rename_i hlt; exact ⟨Int.le_trans h3.1 h1.1, iMin_ok h1.2 (Int.le_trans (Int.not_lt.1 hlt) h2.2)⟩
    · cases h
  | .max a b, r, h => by
    simp only [rng] at h
    split at h
    · rename_i x y hx hy
      cases h
      have h1 := rng_ok hf hx; have h2 := rng_ok hf hy
      have h3 := iMax_le x.2 y.2
      refine ref2_ok hf ?_
      simp only [X.den]
      split
      · rename_i hlt; exact ⟨iMax_ok (Int.le_trans h1.1 (Int.le_of_lt hlt)) h2.1, Int.le_trans h2.2 h3.2⟩
      · rename_i hlt; exact ⟨iMax_ok h1.1 (Int.le_trans h2.1 (Int.not_lt.1 hlt)), Int.le_trans h1.2 h3.1⟩
    · cases h
  | .ite c a b, r, h => by
    simp only [rng] at h
    split at h
    · rename_i x y hx hy
      cases h
      have h1 := rng_ok hf hx; have h2 := rng_ok hf hy
      have h3 := iMin_le x.1 y.1; have h4 := iMax_le x.2 y.2
      simp only [X.den]
      split
      · exact ⟨Int.le_trans h3.2 h2.1, Int.le_trans h2.2 h4.2⟩
      · exact ⟨Int.le_trans h3.1 h1.1, Int.le_trans h1.2 h4.1⟩
    · cases h
def decOp (op : BinOp) (x y : Rng) : Option Bool := match op with
  | .lss => match iLt x.2 y.1 with | true => some true | false => match iLe y.2 x.1 with | true => some false | false => none
  | .leq => match iLe x.2 y.1 with | true => some true | false => match iLt y.2 x.1 with | true => some false | false => none
  | .gtr => match iLt y.2 x.1 with | true => some true | false => match iLe x.2 y.1 with | true => some false | false => none
  | .geq => match iLe y.2 x.1 with | true => some true | false => match iLt x.2 y.1 with | true => some false | false => none
  | .eql => match iLt x.2 y.1 with
    | true => some false
    | false => match iLt y.2 x.1 with
      | true => some false
      | false => match andB (iEq x.1 x.2) (andB (iEq y.1 y.2) (iEq x.1 y.1)) with | true => some true | false => none
  | .neq => match iLt x.2 y.1 with
    | true => some true
    | false => match iLt y.2 x.1 with
      | true => some true
      | false => match andB (iEq x.1 x.2) (andB (iEq y.1 y.2) (iEq x.1 y.1)) with | true => some false | false => none
  | _ => none
theorem decOp_ok {op : BinOp} {k : IntKind} {x y : Rng} {m n : Int} {b : Bool} (hx : inR x m) (hy : inR y n) (h : decOp op x y = some b) : (iOp op k m n != 0) = b := by
  obtain ⟨x1, x2⟩ := hx
  obtain ⟨y1, y2⟩ := hy
  cases op <;> simp only [decOp] at h <;> try cases h
  all_goals
    simp only [iOp, b2i_ne]
    split at h
    · rename_i he
      first
        | (have := iLt_eq' he; cases h; simp; omega)
        | (have := iLe_eq he; cases h; simp; omega)
    · split at h
      · rename_i he
        first
          | (have := iLt_eq' he; cases h; simp; omega)
          | (have := iLe_eq he; cases h; simp; omega)
      · first
          | (cases h; done)
          | (split at h
             · rename_i he
               have he := andB_eq he; have he2 := andB_eq he.2
               have e1 := iEq_eq' he.1; have e2 := iEq_eq' he2.1; have e3 := iEq_eq' he2.2
               cases h; simp; omega
             · cases h)
/-- what is known of a condition -/
def decX (fc : Facts) : X → Option Bool
  | .lit n => some (iNz n)
  | .bin op k a b => match lookF fc (.bin op k a b) with
    | some r => some r
    | none => match rng fc a, rng fc b with
      | some x, some y => decOp op x y
      | _, _ => none
  | .not a => match decX fc a with | some b => some (bNot b) | none => lookF fc (.not a)
  | .and a b => match decX fc a with
    | some true => decX fc b
    | some false => some false
    | none => match decX fc b with | some false => some false | _ => lookF fc (.and a b)
  | .ite c a b => match decX fc c with
    | some true => decX fc a
    | some false => decX fc b
    | none => match decX fc a, decX fc b with
      | some true, some true => some true
      | some false, some false => some false
      | _, _ => lookF fc (.ite c a b)
  | x => lookF fc x
theorem decX_ok {s : Sig} {fc : Facts} (hf : FOK s fc) : ∀ {c : X} {b : Bool}, decX fc c = some b → (c.den s != 0) = b
  | .lit n, b, h => by cases h; rw [iNz_eq]; rfl
  | .bin op k x y, b, h => by
    simp only [decX] at h
    split at h
    · rename_i r hr; cases h; exact lookF_ok hf hr
    · split at h
      · rename_i p q hp hq
        exact decOp_ok (rng_ok hf hp) (rng_ok hf hq) h
      · cases h
  | .not a, b, h => by
    simp only [decX] at h
    split at h
    · rename_i q hq; cases h; rw [X.den, b2i_ne, decX_ok hf hq, bNot_eq]
    · exact lookF_ok hf h
  | .and x y, b, h => by
    simp only [decX] at h
    split at h
    · rename_i hq
      rw [X.den, b2i_ne, decX_ok hf hq, decX_ok hf h]; rfl
    · rename_i hq; cases h
      rw [X.den, b2i_ne, decX_ok hf hq]; rfl
    · split at h
      · rename_i hq; cases h
        rw [X.den, b2i_ne, decX_ok hf hq, Bool.and_false]
      · exact lookF_ok hf h
  | .ite c x y, b, h => by
    have den : ∀ q, (x.den s != 0) = q → (y.den s != 0) = q → ((X.ite c x y).den s != 0) = q := fun q h1 h2 => by
      simp only [X.den]; split <;> assumption
    simp only [decX] at h
    split at h
    · rename_i hq
      have := decX_ok hf hq
      have hc : c.den s ≠ 0 := by simpa using this
      simp only [X.den, if_neg hc]; exact decX_ok hf h
    · rename_i hq
      have := decX_ok hf hq
      have hc : c.den s = 0 := by simpa using this
      simp only [X.den, if_pos hc]; exact decX_ok hf h
    · split at h
      · rename_i h1 h2; cases h; exact den _ (decX_ok hf h1) (decX_ok hf h2)
      · rename_i h1 h2; cases h; exact den _ (decX_ok hf h1) (decX_ok hf h2)
      · exact lookF_ok hf h
  | .var k i, b, h => lookF_ok hf h
  | .conv k a, b, h => lookF_ok hf h
  | .com k a, b, h => lookF_ok hf h
  | .beq x y, b, h => lookF_ok hf h
  | .min x y, b, h => lookF_ok hf h
  | .max x y, b, h => lookF_ok hf h
def iteF {β : Type} (fc : Facts) (c : X) (K : Bool → Facts → Tr' β) : Tr' β := match c with
  | .lit n => K (iNz n) fc
  | c => match decX fc c with
    | some b => K b fc
    | none => .ite c (K true (addF fc c true)) (K false (addF fc c false))
theorem iteF_path {β : Type} {Φ : Phi} {s : Sig} {fc : Facts} {c : X} {K : Bool → Facts → Tr' β} {r : β} (hf : FOK s fc) (h : (iteF fc c K).path Φ s = some r) : ∃ fc', FOK s fc' ∧ (K (c.den s != 0) fc').path Φ s = some r := by
  unfold iteF at h
  split at h
  · rename_i n
    refine ⟨fc, hf, ?_⟩
    rw [iNz_eq] at h; exact h
  · split at h
    · rename_i b hb
      rw [decX_ok hf hb]; exact ⟨fc, hf, h⟩
    · simp only [Tr'.path] at h
      split at h
      · rename_i hc
        have : (c.den s != 0) = false := by rw [hc]; rfl
        rw [this]; exact ⟨_, addF_ok hf this, h⟩
      · rename_i hc
        have : (c.den s != 0) = true := by simpa using hc
        rw [this]; exact ⟨_, addF_ok hf this, h⟩
end Go.Proofs.YtikjbocagnolmaaDoor
