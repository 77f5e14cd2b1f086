import Derived.Test.YtemomocmfggiaaaGreatDoorTL8U5
import Derived.Test.YtemomocmfggiaaaGreatDoorTGU5
namespace Go.Proofs.YtemomocmfggiaaaGreatDoor
set_option linter.unusedVariables false
set_option maxRecDepth 100000
open Go.RowKit
theorem ent_wf {x : Nat → Int} (h : entW x) : entL (xE [x 0, x 1, x 2, x 3, x 4, x 5, x 6, x 7, x 8, x 9, x 10]) = entL x := by
 simp only [entL, xE, getI]
 simp [wrap_of_wf (h.1 0 (by decide)), wrap_of_wf (h.1 1 (by decide)), wrap_of_wf (h.1 2 (by decide)), wrap_of_wf (h.1 3 (by decide)), wrap_of_wf (h.1 4 (by decide)), wrap_of_wf (h.2 5 (by decide) (by decide)), wrap_of_wf (h.2 6 (by decide) (by decide)), wrap_of_wf (h.2 7 (by decide) (by decide)), wrap_of_wf (h.2 8 (by decide) (by decide)), wrap_of_wf (h.2 9 (by decide) (by decide)), wrap_of_wf (h.2 10 (by decide) (by decide))]
theorem alone_wf {x : Nat → Int} (h : entW x) : ∃ q : Out × Int, RunsTo (entL x) q.1.1 q.1.2.1 q.1.2.2.1 q.1.2.2.2 ∧ q.1.2.2.2 ≤ 255 ∧ ChecksTo (entL x) q.2 ∧ ((q.2 = 0 ∧ q.1.1 = 0) ∨ (q.2 = 1 ∧ q.1 = (1, 0, 0, 0))) := by
 have h1 := run_to (e := [x 0, x 1, x 2, x 3, x 4, x 5, x 6, x 7, x 8, x 9, x 10]) rfl (run_4 _ rfl)
 rw [ent_wf h] at h1
 rcases run_check [x 0, x 1, x 2, x 3, x 4, x 5, x 6, x 7, x 8, x 9, x 10] rfl with ⟨hc, r, hr⟩ | ⟨hc, hr⟩
 ·have h2 := check_to (e := [x 0, x 1, x 2, x 3, x 4, x 5, x 6, x 7, x 8, x 9, x 10]) rfl hc (.inl rfl)
  rw [ent_wf h] at h2
  refine ⟨(_, 0), h1, flE_le _, h2, .inl ⟨rfl, ?_⟩⟩
  show IntKind.i64.wrap (getI (F_table_Run _) 0) = 0
  rw [hr]; rfl
 ·have h2 := check_to (e := [x 0, x 1, x 2, x 3, x 4, x 5, x 6, x 7, x 8, x 9, x 10]) rfl hc (.inr rfl)
  rw [ent_wf h] at h2
  refine ⟨(_, 1), h1, flE_le _, h2, .inr ⟨rfl, ?_⟩⟩
  show oE (F_table_Run _) = _
  rw [hr]; rfl
theorem alones_wf {n : Nat} {x : Nat → Nat → Int} (h : ∀ i, i < n → entW (x i)) : ∃ (o : Nat → Out) (c : Nat → Int), (∀ i, i < n → RunsTo (entL (x i)) (o i).1 (o i).2.1 (o i).2.2.1 (o i).2.2.2) ∧ (∀ i, (o i).2.2.2 ≤ 255) ∧ (∀ i, i < n → ChecksTo (entL (x i)) (c i)) ∧ (∀ i, i < n → (c i = 0 ∧ (o i).1 = 0) ∨ (c i = 1 ∧ o i = (1, 0, 0, 0))) := by
 refine ⟨fun i => if h' : i < n then (Classical.choose (alone_wf (h i h'))).1 else (0, 0, 0, 0), fun i => if h' : i < n then (Classical.choose (alone_wf (h i h'))).2 else 0, fun i hi => ?_, fun i => ?_, fun i hi => ?_, fun i hi => ?_⟩
 ·simp only [dif_pos hi]; exact (Classical.choose_spec (alone_wf (h i hi))).1
 ·by_cases hi : i < n
  ·simp only [dif_pos hi]; exact (Classical.choose_spec (alone_wf (h i hi))).2.1
  ·simp only [dif_neg hi]; omega
 ·simp only [dif_pos hi]; exact (Classical.choose_spec (alone_wf (h i hi))).2.2.1
 ·simp only [dif_pos hi]; exact (Classical.choose_spec (alone_wf (h i hi))).2.2.2
end Go.Proofs.YtemomocmfggiaaaGreatDoor
