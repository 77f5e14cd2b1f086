/- What is computed of an operation is what the model does: all operations. No function of the program. -/
import Derived.Test.YtikjbocagnolmaaDoorAw5
namespace Go.Proofs.YtikjbocagnolmaaDoor
set_option linter.unusedVariables false
set_option linter.unusedSimpArgs false
open Go.RowKit
theorem wt_some {x : Option AV} {r : AV} {tc : List Nat} {ef : List (Nat × AO)} (h : wt x = some (r, tc, ef)) : x = some r ∧ tc = [] ∧ ef = [] := by
  unfold wt at h; split at h
  · cases h; exact ⟨rfl, rfl, rfl⟩
  · cases h
theorem wtt_some {x : Option (AV × List Nat)} {r : AV} {tc : List Nat} {ef : List (Nat × AO)} (h : wtt x = some (r, tc, ef)) : x = some (r, tc) ∧ ef = [] := by
  unfold wtt at h; split at h
  · cases h; exact ⟨rfl, rfl⟩
  · cases h
/-- what an operation does to a world that has the abstract blocks -/
def OpRuns (P : Program) (G : Glob) (w0 : World) (B0 : Bas) (e : Env) (H : AHeap) (w : World) (s : Sem Next) (r : AV) (ef : List (Nat × AO)) : Prop :=
  ∃ e' w' nx, s.run P w = .ok nx w' ∧ (nx = .value (r.val e') ∨ (nx = .skip ∧ r = .v undef)) ∧ Rep G w0 B0 e' (H.puts ef) w' ∧ Env.on H e e' ∧ ∀ c ∈ r.refs, (H.puts ef) c ≠ none
theorem OpRuns.pure {P : Program} {G : Glob} {w0 : World} {B0 : Bas} {e : Env} {H : AHeap} {w : World} {s : Sem Value} {r : AV} (hs : s.run P w = .ok (r.val e) w) (R : Rep G w0 B0 e H w) (hr : ∀ c ∈ r.refs, H c ≠ none) :
    OpRuns P G w0 B0 e H w (do pure (Next.value (← s))) r [] :=
  ⟨e, w, .value (r.val e), by simp [hs], .inl rfl, R, Env.on.refl H e, hr⟩
theorem evN_run {P : Program} {G : Glob} {E : EqT} (hE : EqOK P E) {o : Oper} {ρ : Operand → Option AV} {ev : Operand → Value} {H : AHeap} {k : Nat} {r : AV} {tc : List Nat} {ef : List (Nat × AO)} {w0 : World} {B0 : Bas} {e : Env} {w : World}
    (h : evN P G E o.op ρ H k = some (r, tc, ef)) (hρ : ∀ x y, ρ x = some y → ev x = y.val e) (hr : ∀ x ∈ o.op.operands, ∀ y, ρ x = some y → ∀ c ∈ y.refs, H c ≠ none) (hk : H k = none) (R : Rep G w0 B0 e H w) :
    OpRuns P G w0 B0 e H w (execOp ev o) r ef := by
  unfold execOp
  unfold evN at h
  split at h <;> rename_i ho
  case h_1 x =>
    obtain ⟨h1, rfl, rfl⟩ := wt_some h
    rw [ho] at hr ⊢
    exact ⟨e, w, .value (r.val e), by simp [hρ _ _ h1], .inl rfl, R, Env.on.refl H e, hr x (by simp [Op.operands]) r h1⟩
  case h_2 x =>
    obtain ⟨h1, rfl, rfl⟩ := wt_some h
    rw [ho] at hr ⊢
    exact ⟨e, w, .value (r.val e), by simp [hρ _ _ h1], .inl rfl, R, Env.on.refl H e, hr x (by simp [Op.operands]) r h1⟩
  case h_3 c a b =>
    rw [ho] at hr ⊢
    split at h
    · rename_i q hc
      have hcv := hρ _ _ hc
      simp only [AV.val] at hcv
      split at h
      · rename_i hq
        obtain ⟨h1, rfl, rfl⟩ := wt_some h
        exact ⟨e, w, .value (r.val e), by simp [hcv, asBool, hq, hρ _ _ h1], .inl rfl, R, Env.on.refl H e, hr a (by simp [Op.operands]) r h1⟩
      · rename_i hq
        obtain ⟨h1, rfl, rfl⟩ := wt_some h
        exact ⟨e, w, .value (r.val e), by simp [hcv, asBool, hq, hρ _ _ h1], .inl rfl, R, Env.on.refl H e, hr b (by simp [Op.operands]) r h1⟩
    · cases h
  case h_4 t =>
    rw [ho] at hr ⊢
    split at h
    · rename_i z hz
      cases h
      obtain ⟨it, v, hi, hv, hc⟩ := tyZero_get hz
      refine ⟨e.setBlk k w.heap.size, _, .value (.pointer (some ⟨w.heap.size, 0, none⟩)), ?_, .inl ?_, R.alloc hk (z.map .v) t (fun r hr => by rw [refss_v] at hr; simp at hr), Env.setBlk_on hk e _, ?_⟩
      · have hzv : (zeroValue t).run P w = .ok v w := by simp [zeroValue, typeInfo, hi, hv]
        simp [Instr.alloc, hzv, newVar, newRow, vals_v, ← hc]
      · simp [AV.val, Env.setBlk]
      · intro c hc'; simp [AV.refs] at hc'; subst hc'; rw [AHeap.puts, AHeap.puts, AHeap.put_same]; simp
    · cases h
  case h_5 t x =>
    rw [ho] at hr ⊢
    split at h
    · rename_i a ha
      cases h
      refine ⟨e.setBlk k w.heap.size, _, .value (.pointer (some ⟨w.heap.size, 0, none⟩)), ?_, .inl ?_, R.alloc hk (cellsA a) t (refs_ok (hr x (by simp [Op.operands]) a ha)), Env.setBlk_on hk e _, ?_⟩
      · simp [Instr.box, newVar, newRow, hρ _ _ ha, cellsA_val]
      · simp [AV.val, Env.setBlk]
      · intro c hc'; simp [AV.refs] at hc'; subst hc'; rw [AHeap.puts, AHeap.puts, AHeap.put_same]; simp
    · cases h
  case h_6 t ps =>
    rw [ho] at hr ⊢
    split at h
    · rename_i l z hl hz
      split at h
      · rename_i hs
        split at h
        · rename_i c hf
          cases h
          refine OpRuns.pure (run_buildA w hz hs hf _ ?_) R ?_
          · have := partsA_val hρ hl
            simpa using this
          · intro c' hc'
            rcases fillA_refs hf (mkAgg_refs hc') with h1 | ⟨y, hy, h1⟩
            · rw [refss_v] at h1; simp at h1
            · obtain ⟨z', hz', h2⟩ := partsA_mem hl y hy
              exact hr z'.2 (by simp [Op.operands]; exact ⟨z'.1, by simpa using hz'⟩) y.2 h2 c' h1
        · cases h
      · cases h
    · cases h
  case h_7 t len ps =>
    rw [ho] at hr ⊢
    split at h
    · rename_i l hl
      obtain ⟨e', w', h1, h2, h3, h4⟩ := run_evBuildSlice (parts := ps.map fun (i, x) => (i, ev x)) h hk R (fun y hy c' h1 => by
        obtain ⟨z', hz', h2⟩ := partsA_mem hl y hy
        exact hr z'.2 (by simp [Op.operands]; exact ⟨z'.1, by simpa using hz'⟩) y.2 h2 c' h1) (by simpa using partsA_val hρ hl)
      exact ⟨e', w', .value (r.val e'), by simp [h1], .inl rfl, h2, h3, h4⟩
    · cases h
  case h_8 t x =>
    rw [ho] at hr ⊢
    split at h
    · rename_i a ha
      obtain ⟨rfl, h1, h2⟩ := run_evLoad h R
      exact OpRuns.pure (by rw [hρ _ _ ha]; exact h1) R h2
    · cases h
  case h_9 t x y =>
    rw [ho] at hr ⊢
    split at h
    · rename_i a b ha hb
      obtain ⟨rfl, w', h1, h2⟩ := run_evStore h R (hr y (by simp [Op.operands]) b hb)
      exact ⟨e, w', .skip, by simp [hρ _ _ ha, hρ _ _ hb, h1], .inr ⟨rfl, rfl⟩, h2, Env.on.refl H e, fun c hc => by simp [AV.refs] at hc⟩
    · cases h
  case h_10 x =>
    rw [ho] at hr ⊢
    split at h
    · rename_i a ha
      obtain ⟨h1, rfl, rfl⟩ := wt_some h
      have hx := hr x (by simp [Op.operands]) a ha
      unfold evNil at h1
      split at h1
      · cases h1; exact ⟨e, w, _, by simp [hρ _ _ ha, AV.val], .inl rfl, R, Env.on.refl H e, hx⟩
      · cases h1; exact ⟨e, w, _, by simp [hρ _ _ ha, AV.val], .inl rfl, R, Env.on.refl H e, hx⟩
      · cases h1; exact ⟨e, w, _, by simp [hρ _ _ ha, AV.val], .inl rfl, R, Env.on.refl H e, hx⟩
      · cases h1; exact ⟨e, w, _, by simp [hρ _ _ ha, AV.val], .inl rfl, R, Env.on.refl H e, hx⟩
      · cases h1
    · cases h
  case h_11 op t x y yt =>
    rw [ho] at hr ⊢
    split at h
    · rename_i a b ha hb
      obtain ⟨h1, rfl, rfl⟩ := wt_some h
      unfold evBin at h1
      split at h1
      · rename_i a b
        have hav := hρ _ _ ha; have hbv := hρ _ _ hb
        simp only [AV.val] at hav hbv
        split at h1
        · rename_i v hv
          cases h1
          refine OpRuns.pure (s := do eqGuard op t x y (ev x) (ev y); binOp op t (ev x) (ev y)) ?_ R (fun c hc => by simp [AV.refs] at hc)
          rw [hav, hbv]; exact run_pBin hv x y w
        · split at h1
          · rename_i v hv
            cases h1
            refine OpRuns.pure (s := do eqGuard op t x y (ev x) (ev y); binOp op t (ev x) (ev y)) ?_ R (fun c hc => by simp [AV.refs] at hc)
            rw [hav, hbv]; exact hE op t a b v hv x y w
          · cases h1
      · cases h1
    · cases h
  case h_12 op t x =>
    rw [ho] at hr ⊢
    split at h
    · rename_i a ha
      obtain ⟨h1, rfl, rfl⟩ := wt_some h
      have hav := hρ _ _ ha
      unfold evUn at h1
      split at h1
      · cases h1
        refine OpRuns.pure ?_ R (fun c hc => by simp [AV.refs] at hc)
        rw [hav]; rfl
      · cases h1
        refine OpRuns.pure ?_ R (fun c hc => by simp [AV.refs] at hc)
        rw [hav]; rfl
      · cases h1
        refine OpRuns.pure ?_ R (fun c hc => by simp [AV.refs] at hc)
        rw [hav]; rfl
      · cases h1
    · cases h
  case h_13 s d x =>
    rw [ho] at hr ⊢
    split at h
    · rename_i a ha
      obtain ⟨h1, rfl, rfl⟩ := wt_some h
      have hav := hρ _ _ ha
      unfold evConv at h1
      split at h1
      · rename_i kk n
        split at h1
        · rename_i k' d' hk' hs'
          cases h1
          refine OpRuns.pure ?_ R (fun c hc => by simp [AV.refs] at hc)
          rw [hav]
          simp [convert, run_underlying hs', run_underlying (tyInt_get hk'), AV.val, Conv.intToInt]
        · cases h1
      · cases h1
    · cases h
  case h_14 f a c =>
    rw [ho] at hr ⊢
    split at h
    · rename_i x y hx hy
      cases h
      refine OpRuns.pure ?_ R ?_
      · have h1 := listA_val hρ hx; have h2 := listA_val hρ hy
        rw [mkFn_val, ← h1, ← h2]
        simp [Instr.makeFunc]
        constructor <;> (apply Array.ext'; simp)
      · intro c' hc'
        rcases List.mem_append.1 (mkFn_refs hc') with h1 | h1
        · obtain ⟨z, hz, h2⟩ := AV.mem_refss.1 h1
          obtain ⟨q, hq, h3⟩ := listA_mem hx z hz
          exact hr q (by simp [Op.operands]; left; simpa using hq) z h3 c' h2
        · obtain ⟨z, hz, h2⟩ := AV.mem_refss.1 h1
          obtain ⟨q, hq, h3⟩ := listA_mem hy z hz
          exact hr q (by simp [Op.operands]; right; simpa using hq) z h3 c' h2
    · cases h
  case h_15 t x f =>
    rw [ho] at hr ⊢
    split at h
    · rename_i a ha
      obtain ⟨h1, rfl, rfl⟩ := wt_some h
      have h2 := run_evFieldAddr h1 R
      exact OpRuns.pure (by rw [hρ _ _ ha]; exact h2.1) R (fun c hc => hr x (by simp [Op.operands]) a ha c (h2.2 c hc))
    · cases h
  case h_16 t x f =>
    rw [ho] at hr ⊢
    split at h
    · rename_i a ha
      obtain ⟨h1, rfl, rfl⟩ := wt_some h
      have h2 := run_evField (e := e) w h1
      exact OpRuns.pure (by rw [hρ _ _ ha]; exact h2.1) R (fun c hc => hr x (by simp [Op.operands]) a ha c (h2.2 c hc))
    · cases h
  case h_17 t x i =>
    rw [ho] at hr ⊢
    split at h
    · rename_i a b ha hb
      obtain ⟨h1, rfl⟩ := wtt_some h
      have h2 := run_evIndexAddr h1 R
      exact OpRuns.pure (by rw [hρ _ _ ha, hρ _ _ hb]; exact h2.1) R (fun c hc => hr x (by simp [Op.operands]) a ha c (h2.2 c hc))
    · cases h
  case h_18 t x i =>
    rw [ho] at hr ⊢
    split at h
    · rename_i a b ha hb
      obtain ⟨h1, rfl, rfl⟩ := wt_some h
      have h2 := run_evIndex (e := e) w h1
      exact OpRuns.pure (by rw [hρ _ _ ha, hρ _ _ hb]; exact h2.1) R (fun c hc => hr x (by simp [Op.operands]) a ha c (h2.2 c hc))
    · cases h
  case h_19 x i =>
    rw [ho] at hr ⊢
    split at h
    · rename_i a ha
      obtain ⟨h1, rfl, rfl⟩ := wt_some h
      have h2 := run_evExtract (P := P) (e := e) w h1
      exact OpRuns.pure (by rw [hρ _ _ ha]; exact h2.1) R (fun c hc => hr x (by simp [Op.operands]) a ha c (h2.2 c hc))
    · cases h
  case h_20 args ts =>
    rw [ho] at hr ⊢
    split at h
    · rename_i x t ha ht
      split at h
      · rename_i a hav
        obtain ⟨h1, rfl⟩ := wtt_some h
        have hargs : args = #[x] := by apply Array.ext'; simp [ha]
        have hts : ts = #[t] := by apply Array.ext'; simp [ht]
        have h2 := run_evLen (ty := o.type) h1 R
        subst hargs hts
        refine ⟨e, w, .value (r.val e), ?_, .inl rfl, R, Env.on.refl H e, fun c hc => by rw [h2.2] at hc; simp at hc⟩
        simp [resolve, invoke, builtin, hρ _ _ hav, h2.1]
      · cases h
    · cases h
  case h_21 args ts =>
    rw [ho] at hr ⊢
    split at h
    · rename_i x y ha
      split at h
      · rename_i k' a k'' b hx hy
        cases h
        have hargs : args = #[x, y] := by apply Array.ext'; simp [ha]
        subst hargs
        have h1 := hρ _ _ hx; have h2 := hρ _ _ hy
        refine ⟨e, w, .value _, ?_, .inl rfl, R, Env.on.refl H e, fun c hc => by simp [AV.refs] at hc⟩
        simp [resolve, invoke, builtin, h1, h2, AV.val, Builtin.min_, Builtin.min2]
      · cases h
    · cases h
  case h_22 args ts =>
    rw [ho] at hr ⊢
    split at h
    · rename_i x y ha
      split at h
      · rename_i k' a k'' b hx hy
        cases h
        have hargs : args = #[x, y] := by apply Array.ext'; simp [ha]
        subst hargs
        have h1 := hρ _ _ hx; have h2 := hρ _ _ hy
        refine ⟨e, w, .value _, ?_, .inl rfl, R, Env.on.refl H e, fun c hc => by simp [AV.refs] at hc⟩
        simp [resolve, invoke, builtin, h1, h2, AV.val, Builtin.max_, Builtin.max2]
      · cases h
    · cases h
  case h_23 t x =>
    rw [ho] at hr ⊢
    split at h
    · rename_i a ha
      obtain ⟨h1, rfl⟩ := wtt_some h
      have h2 := run_evArrayAt h1 R
      exact OpRuns.pure (by rw [hρ _ _ ha]; exact h2.1) R (fun c hc => hr x (by simp [Op.operands]) a ha c (h2.2 c hc))
    · cases h
  case h_24 t x y =>
    rw [ho] at hr ⊢
    split at h
    · rename_i a b ha hb
      obtain ⟨e', w', h1, h2, h3, h4⟩ := run_evMakeSlice h hk R
      exact ⟨e', w', .value (r.val e'), by simp [hρ _ _ ha, hρ _ _ hb, h1], .inl rfl, h2, h3, h4⟩
    · cases h
  case h_25 t x =>
    rw [ho] at hr ⊢
    split at h
    · rename_i a ha
      obtain ⟨h1, rfl, rfl⟩ := wt_some h
      have h2 := run_evSliceAll (P := P) (e := e) w h1
      exact OpRuns.pure (by rw [hρ _ _ ha]; exact h2.1) R (fun c hc => hr x (by simp [Op.operands]) a ha c (h2.2 c hc))
    · cases h
  case h_26 => cases h
end Go.Proofs.YtikjbocagnolmaaDoor
