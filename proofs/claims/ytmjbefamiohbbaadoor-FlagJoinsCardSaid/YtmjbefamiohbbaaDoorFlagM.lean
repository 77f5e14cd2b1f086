/- Plain facts on sets of flags as natural numbers. -/
import Derived.Laws.BitsAllLaws
namespace Go.Proofs.YtmjbefamiohbbaaDoor.FlagM
/-- the union of sets, without the bits that are no flags -/
def J (l : List Nat) : Nat := l.foldl (fun a s => a ||| s % 32) 0
theorem foldl_or (l : List Nat) : ∀ a, l.foldl (fun a s => a ||| s % 32) a = a ||| J l := by
  induction l with
  | nil => intro a; simp [J]
  | cons x l ih => intro a; simp only [List.foldl_cons, J]; rw [ih, ih (0 ||| x % 32)]; simp [Nat.or_assoc]
theorem J_nil : J [] = 0 := rfl
theorem J_cons (x : Nat) (l : List Nat) : J (x :: l) = x % 32 ||| J l := by
  simp only [J, List.foldl_cons]; rw [foldl_or]; simp [J]
theorem J_append (l m : List Nat) : J (l ++ m) = J l ||| J m := by
  induction l with
  | nil => simp [J_nil]
  | cons x l ih => rw [List.cons_append, J_cons, ih, J_cons, Nat.or_assoc]
theorem J_one (x : Nat) : J [x] = x % 32 := by rw [J_cons, J_nil, Nat.or_zero]
theorem J_lt (l : List Nat) : J l < 32 := by
  induction l with
  | nil => decide
  | cons x l ih => rw [J_cons]; exact Nat.or_lt_two_pow (n := 5) (Nat.mod_lt _ (by decide)) ih
theorem J_bit (l : List Nat) (k : Nat) (hk : k < 5) : (J l).testBit k = l.any (fun s => s.testBit k) := by
  induction l with
  | nil => simp [J_nil]
  | cons x l ih =>
    rw [J_cons, Nat.testBit_or, ih, List.any_cons, show (32 : Nat) = 2 ^ 5 from rfl, Nat.testBit_mod_two_pow]
    simp [hk]
theorem J_reverse (l : List Nat) : J l.reverse = J l := by
  induction l with
  | nil => rfl
  | cons x l ih => rw [List.reverse_cons, J_append, ih, J_one, J_cons, Nat.or_comm]
/-- has s all of p? -/
def sub (s p : Nat) : Bool := p &&& (255 - s) == 0
theorem sub_iff {s p : Nat} (hs : s < 256) (hp : p < 256) : sub s p = true ↔ ∀ k, p.testBit k = true → s.testBit k = true := by
  have e : 255 - s = 2 ^ 8 - (s + 1) := by omega
  unfold sub
  rw [beq_iff_eq, e]
  constructor
  · intro h k hk
    have h2 : (p &&& (2 ^ 8 - (s + 1))).testBit k = false := by rw [h]; simp
    rw [Nat.testBit_and, hk, Bool.true_and, Nat.testBit_two_pow_sub_succ (by omega)] at h2
    by_cases h8 : k < 8
    · simpa [h8] using h2
    · have : p.testBit k = false := Nat.testBit_lt_two_pow (Nat.lt_of_lt_of_le hp (by rw [show 256 = 2 ^ 8 from rfl]; exact Nat.pow_le_pow_right (by decide) (by omega)))
      rw [this] at hk; cases hk
  · intro h
    apply Nat.eq_of_testBit_eq
    intro k
    rw [Nat.testBit_and, Nat.testBit_two_pow_sub_succ (by omega), Nat.zero_testBit]
    cases hk : p.testBit k with
    | false => rfl
    | true => simp [h k hk]
theorem sum_bits : ∀ n : Fin 32, ((if n.1.testBit 0 then 1 else 0) + (if n.1.testBit 1 then 2 else 0) + (if n.1.testBit 2 then 4 else 0) + (if n.1.testBit 3 then 8 else 0) + (if n.1.testBit 4 then 16 else 0)) = n.1 := by decide
theorem bit_of_small {n k : Nat} (h : n < 32) (hk : 5 ≤ k) : n.testBit k = false :=
  Nat.testBit_lt_two_pow (Nat.lt_of_lt_of_le h (by rw [show 32 = 2 ^ 5 from rfl]; exact Nat.pow_le_pow_right (by decide) hk))
/-- whatever has all, has the union -/
theorem sub_J (s : Nat) (hs : s < 256) (l : List Nat) : sub s (J l) = l.all (fun x => sub s (x % 32)) := by
  rw [Bool.eq_iff_iff, sub_iff hs (Nat.lt_trans (J_lt l) (by decide)), List.all_eq_true]
  constructor
  · intro h x hx
    rw [sub_iff hs (Nat.lt_trans (Nat.mod_lt _ (by decide)) (by decide : 32 < 256))]
    intro k hk
    rw [show (32 : Nat) = 2 ^ 5 from rfl, Nat.testBit_mod_two_pow] at hk
    simp only [Bool.and_eq_true, decide_eq_true_eq] at hk
    exact h k (by rw [J_bit l k hk.1, List.any_eq_true]; exact ⟨x, hx, hk.2⟩)
  · intro h k hk
    by_cases h5 : k < 5
    · rw [J_bit l k h5, List.any_eq_true] at hk
      obtain ⟨x, hx, hb⟩ := hk
      have := h x hx
      rw [sub_iff hs (Nat.lt_trans (Nat.mod_lt _ (by decide)) (by decide : 32 < 256))] at this
      exact this k (by rw [show (32 : Nat) = 2 ^ 5 from rfl, Nat.testBit_mod_two_pow]; simp [h5, hb])
    · rw [bit_of_small (J_lt l) (by omega)] at hk; cases hk
theorem sub_J_mem (l : List Nat) {x : Nat} (hx : x ∈ l) : sub (J l) (x % 32) = true := by
  have h32 := J_lt l
  have := sub_J (J l) (by omega) l
  have hr : sub (J l) (J l) = true := (sub_iff (by omega) (by omega)).2 fun _ h => h
  rw [hr] at this
  exact List.all_eq_true.1 this.symm x hx
theorem sub_refl {s : Nat} (h : s < 256) : sub s s = true := (sub_iff h h).2 fun _ h => h
theorem sub_zero (s : Nat) : sub s 0 = true := by simp [sub]
theorem sub_antisymm {a b : Nat} (ha : a < 256) (hb : b < 256) : (sub a b && sub b a) = (a == b) := by
  rw [Bool.eq_iff_iff, Bool.and_eq_true, sub_iff ha hb, sub_iff hb ha, beq_iff_eq]
  constructor
  · rintro ⟨h1, h2⟩
    apply Nat.eq_of_testBit_eq
    intro k
    cases h : a.testBit k with
    | true => rw [h2 k h]
    | false => cases h' : b.testBit k with
      | true => rw [h1 k h'] at h; cases h
      | false => rfl
  · rintro rfl; exact ⟨fun _ h => h, fun _ h => h⟩
theorem sub_trans {a b c : Nat} (ha : a < 256) (hb : b < 256) (hc : c < 256) (h1 : sub a b = true) (h2 : sub b c = true) : sub a c = true :=
  (sub_iff ha hc).2 fun k h => (sub_iff ha hb).1 h1 k ((sub_iff hb hc).1 h2 k h)
end Go.Proofs.YtmjbefamiohbbaaDoor.FlagM
