import Derived.Laws.BitsAllLaws
namespace Go.Proofs.YtemomocmfggiaaaGreatDoor.FlagM
def J (l : List Nat) : Nat := l.foldl (fun a s => a ||| s % 32) 0
theorem foldl_or (l : List Nat) : ∀ a, l.foldl (fun a s => a ||| s % 32) a = a ||| J l := by
 induction l with
 | nil => intro a; simp [J]
 | cons x l ih => intro a; simp only [List.foldl_cons, J]; rw [ih, ih (0 ||| x % 32)]; simp [Nat.or_assoc]
theorem J_nil : J [] = 0 := rfl
theorem J_cons (x : Nat) (l : List Nat) : J (x :: l) = x % 32 ||| J l := by
 simp only [J, List.foldl_cons]; rw [foldl_or]; simp [J]
theorem J_append (l m : List Nat) : J (l ++ m) = J l ||| J m := by
 induction l with
 | nil => simp [J_nil]
 | cons x l ih => rw [List.cons_append, J_cons, ih, J_cons, Nat.or_assoc]
theorem J_lt (l : List Nat) : J l < 32 := by
 induction l with
 | nil => decide
 | cons x l ih => rw [J_cons]; exact Nat.or_lt_two_pow (n := 5) (Nat.mod_lt _ (by decide)) ih
def sub (s p : Nat) : Bool := p &&& (255 - s) == 0
theorem sub_zero (s : Nat) : sub s 0 = true := by simp [sub]
end Go.Proofs.YtemomocmfggiaaaGreatDoor.FlagM
