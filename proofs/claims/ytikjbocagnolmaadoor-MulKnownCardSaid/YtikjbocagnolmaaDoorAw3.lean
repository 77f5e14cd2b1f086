/- What is computed of an operation is what the model does. No function of the program. -/
import Derived.Test.YtikjbocagnolmaaDoorAw2
namespace Go.Proofs.YtikjbocagnolmaaDoor
set_option linter.unusedVariables false
set_option linter.unusedSimpArgs false
open Go.RowKit
theorem listA_congr {ρ ρ' : Operand → Option AV} : ∀ {l : List Operand}, (∀ x ∈ l, ρ' x = ρ x) → listA ρ' l = listA ρ l
  | [], _ => rfl
  | x :: l, h => by rw [listA, listA, h x (by simp), listA_congr (l := l) (fun y hy => h y (by simp [hy]))]
theorem partsA_congr {ρ ρ' : Operand → Option AV} : ∀ {l : List (Nat × Operand)}, (∀ x ∈ l, ρ' x.2 = ρ x.2) → partsA ρ' l = partsA ρ l
  | [], _ => rfl
  | (i, x) :: l, h => by rw [partsA, partsA, h (i, x) (by simp), partsA_congr (l := l) (fun y hy => h y (by simp [hy]))]
theorem evLoad_congr {P : Program} {G : Glob} {t : TypeId} {H H' : AHeap} {a r : AV} {tc : List Nat} {ef : List (Nat × AO)} (h : evLoad P G t H a = some (r, tc, ef)) (hb : ∀ b ∈ tc, H' b = H b) : evLoad P G t H' a = some (r, tc, ef) := by
  rw [← h]
  unfold evLoad at h ⊢
  split at h
  · rename_i b off
    have hb' : H' b = H b := by
      apply hb
      split at h
      · split at h
        · cases h; simp
        · cases h
      · cases h
    simp only [hb']
  · rename_i k off
    have hb' : H' k = H k := by
      apply hb
      split at h
      · split at h
        · cases h; simp
        · cases h
      · cases h
    simp only [hb']
  · rfl
  · rfl
theorem evStore_congr {P : Program} {t : TypeId} {H H' : AHeap} {x y r : AV} {tc : List Nat} {ef : List (Nat × AO)} (h : evStore P t H x y = some (r, tc, ef)) (hb : ∀ b ∈ tc, H' b = H b) : evStore P t H' x y = some (r, tc, ef) := by
  rw [← h]
  unfold evStore at h ⊢
  split at h
  · rename_i b off
    have hb' : H' b = H b := by
      apply hb
      split at h
      · split at h
        · cases h; simp
        · cases h
      · cases h
    simp only [hb']
  · rfl
theorem evIndexAddr_congr {P : Program} {t : TypeId} {H H' : AHeap} {x y r : AV} {tc : List Nat} (h : evIndexAddr P t H x y = some (r, tc)) (hb : ∀ b ∈ tc, H' b = H b) : evIndexAddr P t H' x y = some (r, tc) := by
  rw [← h]
  unfold evIndexAddr at h ⊢
  split at h
  · split at h
    · rfl
    · rfl
    · rfl
    · rename_i k
      have hb' : H' k = H k := by
        apply hb
        split at h
        · split at h
          · split at h
            · split at h
              · cases h; simp
              · cases h
            · cases h
          · cases h
        · cases h
      simp only [hb']
    · rfl
  · rfl
theorem evLen_congr {P : Program} {t : TypeId} {H H' : AHeap} {x r : AV} {tc : List Nat} (h : evLen P t H x = some (r, tc)) (hb : ∀ b ∈ tc, H' b = H b) : evLen P t H' x = some (r, tc) := by
  rw [← h]
  unfold evLen at h ⊢
  split at h
  · split at h
    · rfl
    · rename_i k
      have hb' : H' k = H k := by
        apply hb
        split at h
        · cases h; simp
        · cases h
      simp only [hb']
    · rfl
    · rfl
  · rfl
  · rfl
  · rfl
theorem evArrayAt_congr {P : Program} {t : TypeId} {H H' : AHeap} {x r : AV} {tc : List Nat} (h : evArrayAt P t H x = some (r, tc)) (hb : ∀ b ∈ tc, H' b = H b) : evArrayAt P t H' x = some (r, tc) := by
  rw [← h]
  unfold evArrayAt at h ⊢
  split at h
  · split at h
    · rfl
    · rename_i k
      have hb' : H' k = H k := by
        apply hb
        split at h
        · split at h
          · cases h; simp
          · cases h
        · cases h
      simp only [hb']
    · rfl
  · rfl
theorem evN_congr {P : Program} {G : Glob} {E : EqT} {op : Op} {ρ ρ' : Operand → Option AV} {H H' : AHeap} {k : Nat} {r : AV} {tc : List Nat} {ef : List (Nat × AO)} (h : evN P G E op ρ H k = some (r, tc, ef))
    (hx : ∀ x ∈ op.operands, ρ' x = ρ x) (hb : ∀ b ∈ tc, H' b = H b) : evN P G E op ρ' H' k = some (r, tc, ef) := by
  unfold evN at h
  split at h
  case h_1 x => simp only [evN]; rw [hx x (by simp [Op.operands])]; exact h
  case h_2 x => simp only [evN]; rw [hx x (by simp [Op.operands])]; exact h
  case h_3 c a b => simp only [evN]; rw [hx c (by simp [Op.operands]), hx a (by simp [Op.operands]), hx b (by simp [Op.operands])]; exact h
  case h_4 => exact h
  case h_5 t x => simp only [evN]; rw [hx x (by simp [Op.operands])]; exact h
  case h_6 t ps => simp only [evN]; rw [partsA_congr (ρ := ρ) (fun x hm => hx x.2 (by simp [Op.operands]; exact ⟨x.1, by simpa using hm⟩))]; exact h
  case h_7 t len ps => simp only [evN]; rw [partsA_congr (ρ := ρ) (fun x hm => hx x.2 (by simp [Op.operands]; exact ⟨x.1, by simpa using hm⟩))]; exact h
  case h_8 t x =>
    simp only [evN]; rw [hx x (by simp [Op.operands])]
    split at h
    · exact evLoad_congr h hb
    · cases h
  case h_9 t x y =>
    simp only [evN]; rw [hx x (by simp [Op.operands]), hx y (by simp [Op.operands])]
    split at h
    · exact evStore_congr h hb
    · cases h
  case h_10 x => simp only [evN]; rw [hx x (by simp [Op.operands])]; exact h
  case h_11 op t x y yt => simp only [evN]; rw [hx x (by simp [Op.operands]), hx y (by simp [Op.operands])]; exact h
  case h_12 op t x => simp only [evN]; rw [hx x (by simp [Op.operands])]; exact h
  case h_13 s d x => simp only [evN]; rw [hx x (by simp [Op.operands])]; exact h
  case h_14 f a c => simp only [evN]; rw [listA_congr (ρ := ρ) (fun x hm => hx x (by simp [Op.operands]; left; simpa using hm)), listA_congr (ρ := ρ) (fun x hm => hx x (by simp [Op.operands]; right; simpa using hm))]; exact h
  case h_15 t x f => simp only [evN]; rw [hx x (by simp [Op.operands])]; exact h
  case h_16 t x f => simp only [evN]; rw [hx x (by simp [Op.operands])]; exact h
  case h_17 t x i =>
    simp only [evN]; rw [hx x (by simp [Op.operands]), hx i (by simp [Op.operands])]
    split at h
    · unfold wtt at h ⊢
      split at h
      · rename_i l hl
        cases h
        rw [evIndexAddr_congr hl hb]
      · cases h
    · cases h
  case h_18 t x i => simp only [evN]; rw [hx x (by simp [Op.operands]), hx i (by simp [Op.operands])]; exact h
  case h_19 x i => simp only [evN]; rw [hx x (by simp [Op.operands])]; exact h
  case h_20 args ts =>
    simp only [evN]
    split at h
    · rename_i x t ha ht
      have hm : x ∈ args := by have : x ∈ args.toList := by rw [ha]; simp
                               simpa using this
      rw [hx x (by simp [Op.operands, Call.operands, hm])]
      split at h
      · unfold wtt at h ⊢
        split at h
        · rename_i l hl
          cases h
          rw [evLen_congr hl hb]
        · cases h
      · cases h
    · cases h
  case h_21 args ts =>
    simp only [evN]
    split at h
    · rename_i x y ha
      have hm : x ∈ args ∧ y ∈ args := by
        have h1 : x ∈ args.toList := by rw [ha]; simp
        have h2 : y ∈ args.toList := by rw [ha]; simp
        exact ⟨by simpa using h1, by simpa using h2⟩
      rw [hx x (by simp [Op.operands, Call.operands, hm.1]), hx y (by simp [Op.operands, Call.operands, hm.2])]
      exact h
    · cases h
  case h_22 args ts =>
    simp only [evN]
    split at h
    · rename_i x y ha
      have hm : x ∈ args ∧ y ∈ args := by
        have h1 : x ∈ args.toList := by rw [ha]; simp
        have h2 : y ∈ args.toList := by rw [ha]; simp
        exact ⟨by simpa using h1, by simpa using h2⟩
      rw [hx x (by simp [Op.operands, Call.operands, hm.1]), hx y (by simp [Op.operands, Call.operands, hm.2])]
      exact h
    · cases h
  case h_23 t x =>
    simp only [evN]; rw [hx x (by simp [Op.operands])]
    split at h
    · unfold wtt at h ⊢
      split at h
      · rename_i l hl
        cases h
        rw [evArrayAt_congr hl hb]
      · cases h
    · cases h
  case h_24 t x y => simp only [evN]; rw [hx x (by simp [Op.operands]), hx y (by simp [Op.operands])]; exact h
  case h_25 t x => simp only [evN]; rw [hx x (by simp [Op.operands])]; exact h
  case h_26 => cases h
end Go.Proofs.YtikjbocagnolmaaDoor
