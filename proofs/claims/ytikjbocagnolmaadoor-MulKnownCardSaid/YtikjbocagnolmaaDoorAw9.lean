/- Regions that draw their order: the order of the text is as good as any. No function of the program. -/
import Derived.Test.YtikjbocagnolmaaDoorAw8
namespace Go.Proofs.YtikjbocagnolmaaDoor
set_option linter.unusedVariables false
set_option linter.unusedSimpArgs false
open Go.RowKit
theorem TL_false {dst : Nat → Option Tmp} {D : Nat → OpD} {T : Regs} : ∀ n, TL dst D T (fun _ => false) n = T
  | 0 => rfl
  | n + 1 => by simp [TL, TL_false n]
theorem HL_false {D : Nat → OpD} {H : AHeap} : ∀ n, HL D H (fun _ => false) n = H
  | 0 => rfl
  | n + 1 => by simp [HL, HL_false n]
theorem stepsFrom_of {P : Program} {ops : Array Oper} {Q : Exit → Act → World → Prop} {Inv : (Nat → Bool) → Act → World → Prop} : ∀ (l : List Oper) (k : Nat), (∀ i o, l[i]? = some o → StepAt P ops Q Inv (k + i) o) → StepsFrom P ops Q Inv k l
  | [], _, _ => trivial
  | o :: l, k, h => ⟨h 0 o rfl, stepsFrom_of l (k + 1) (fun i x hx => by have := h (i + 1) x (by simpa using hx); rwa [show k + 1 + i = k + (i + 1) by omega])⟩
theorem wantedA_congr {ops : Array Oper} {T T' : Regs} {o : Oper} (h : ∀ t ∈ usesT ops o, T' t = T t) : wantedA ops T' o = wantedA ops T o := by
  unfold wantedA
  split
  · rfl
  · rename_i j want hg
    cases hd : (ops[j]?).bind (·.dst) with
    | none => rfl
    | some d =>
      simp only
      rw [h d (by unfold usesT; simp [hg, dstAt, hd])]
/-- **A REGION THAT DRAWS ITS ORDER IS WALKED IN THE ORDER OF ITS TEXT**: if the closed looks at the region and at what was touched say yes. -/
theorem evOps_draw {P : Program} {G : Glob} {E : EqT} (hE : EqOK P E) (hm : P.follows .mixedOrders = true) {w0 : World} {B0 : Bas} {ops : Array Oper} {Nb nt id : Nat} {Q : Exit → Act → World → Prop} {K : Regs → AHeap → Prop} {ds : List Deferred}
    (hst : drawOK ops nt = true) {T0 : Regs} {H0 : AHeap} {e : Env} {a : Act} {w : World} (hev : evOps P G E w0 B0 ops Nb 0 ops.toList T0 H0 [] (fun T H tr => traceOK ops Nb tr = true ∧ K T H))
    (R : Rep G w0 B0 e H0 w) (hT : RegsOK nt e T0 a) (hI : RegsIn T0 H0) (hB : Bound H0 Nb) (hdf : a.defers = ds)
    (hQ : ∀ T H e a w, K T H → Rep G w0 B0 e H w → RegsOK nt e T a → RegsIn T H → Bound H (Nb + 2 * ops.size) → a.defers = ds → Q .normal a w) : (Code.region id ops true).wp P Q a w := by
  simp only [drawOK, Bool.and_eq_true] at hst
  obtain ⟨⟨htopo, hdl⟩, htmp⟩ := hst
  obtain ⟨D, tr, hSt, ⟨htr, hK⟩, -, hmem⟩ := evOps_data hE ops.toList 0 T0 H0 [] (by simp) (Nat.zero_le _) hev
  simp only [Nat.zero_add, Nat.sub_zero] at hSt hK hmem
  unfold traceOK at htr
  generalize hM : masks [] ops.toList = M at htr htmp
  obtain ⟨htr1, htr2⟩ := traceRows_get htr
  have hmask : ∀ L, ClosedL ops L → ∀ i j, (M.getD i 0).testBit j = true → L i = true → L j = true := fun L hL => by
    rw [← hM]; exact masks_bit hL ops.toList [] (by simp) (fun i j hb => by simp at hb)
  have hdom : ∀ m, m ≤ ops.size → Bound (FH D H0 0 m) (Nb + 2 * m) := by
    intro m
    induction m with
    | zero => intro _; simpa [FH] using hB
    | succ m ih =>
      intro hmn
      obtain ⟨o, ho, _, _, _, h1, h2⟩ := hSt m (by omega)
      have := (ih (by omega)).puts h1 h2
      rw [FH, Nat.zero_add, show Nb + 2 * (m + 1) = Nb + 2 * m + 2 by omega]
      exact this
  have hwt : ∀ i, i < ops.size → ∀ b ∈ (D i).tc, (D i).w = true := fun i hi b hb => by
    obtain ⟨o, ho, _, _, h0, _, _⟩ := hSt i hi
    cases hw : (D i).w with
    | true => rfl
    | false => rw [(h0 hw).2.1] at hb; cases hb
  have hmut : ∀ i j b, i < ops.size → j < ops.size → i ≠ j → b ∈ (D i).tc → b ∈ (D j).tc → (∃ x ∈ (D j).ef, x.1 = b) → orderedM M i j = true := by
    intro i j b hi hj hne hbi hbj ⟨x, hx, hxb⟩
    have h := htr2 _ (hmem i hi (hwt i hi b hbi)) _ (hmem j hj (hwt j hj b hbj)) hne
    unfold trPair at h
    simp only [Bool.or_eq_true, Bool.not_eq_true'] at h
    rcases h with (h | h) | h
    · exfalso
      rw [Bool.or_eq_false_iff] at h
      have h2 := h.2
      unfold mutB at h2
      rw [List.any_eq_false] at h2
      exact h2 x hx (by simp [hxb, hbj])
    · exfalso
      rw [List.any_eq_false] at h
      exact h b hbi (by simp [hbj])
    · exact h
  let TT : (Nat → Bool) → Regs := fun L => TL (dstAt ops) D T0 L ops.size
  let HH : (Nat → Bool) → AHeap := fun L => HL D H0 L ops.size
  refine wp_region_inv (Inv := fun L a w => ClosedL ops L ∧ ∃ e, Rep G w0 B0 e (HH L) w ∧ RegsOK nt e (TT L) a ∧ RegsIn (TT L) (HH L) ∧ a.defers = ds) hm htopo ?_ ?_ ?_
  · refine ⟨fun k x _ h => (by cases h), e, ?_⟩
    simp only [TT, HH, TL_false, HL_false]
    exact ⟨R.drew, hT, hI, hdf⟩
  · refine stepsFrom_of _ 0 ?_
    intro i o hio
    rw [Nat.zero_add]
    have ho : ops[i]? = some o := by simpa using hio
    have hi : i < ops.size := (Array.getElem?_eq_some_iff.1 ho).1
    rintro L a w K' ⟨hcl, e, R, hT, hI, hdf⟩ hLi hdeps hout hKn
    obtain ⟨o', ho', hwa, hop, hno, htc, hef⟩ := hSt i hi
    obtain rfl : o = o' := Option.some.inj (ho.symm.trans ho')
    have hdst : dstAt ops i = o.dst := by simp [dstAt, ho]
    have hne : ∀ j, j ≠ i → upd L i j = L j := fun j hj => by
      unfold upd
      cases hb : Nat.beq j i with
      | true => exact absurd (Nat.eq_of_beq_eq_true hb) hj
      | false => rfl
    have hcl' : ClosedL ops (upd L i) := by
      intro k x hx hk j hj
      by_cases hji : j = i
      · rw [hji]; exact upd_self L i
      · rw [hne j hji]
        by_cases hki : k = i
        · rw [hki] at hx
          obtain rfl : o = x := Option.some.inj (ho.symm.trans hx)
          exact hdeps j hj
        · rw [hne k hki] at hk; exact hcl k x hx hk j hj
    have hpred : ∀ j, j ≠ i → (M.getD i 0).testBit j = true → L j = true := fun j hj hb => by
      have := hmask _ hcl' i j hb (upd_self L i)
      rwa [hne j hj] at this
    have hsucc : ∀ j, (M.getD j 0).testBit i = true → L j = false := fun j hb => by
      cases hLj : L j with
      | false => rfl
      | true => rw [hmask _ hcl j i hb hLj] at hLi; cases hLi
    have hord : ∀ j, j ≠ i → orderedM M i j = true → L j = decide (j < i) := by
      intro j hj h
      unfold orderedM at h
      rcases Nat.lt_trichotomy j i with h1 | h1 | h1
      · rw [if_pos h1] at h; rw [hpred j hj h]; simp [h1]
      · exact absurd h1 hj
      · rw [if_neg (by omega), if_pos h1] at h; rw [hsucc j h]; simp; omega
    have htr : tmpRow ops M i (usesT ops o) 0 ops.toList = true := by
      have := tmpRows_get htmp i o hio
      rwa [Nat.zero_add] at this
    have hTA : ∀ t ∈ usesT ops o, TT L t = FT (dstAt ops) D T0 0 i t := by
      intro t ht
      have : TT L t = TL (dstAt ops) D T0 (fun j => decide (j < i)) ops.size t := by
        refine TL_agree ops.size (fun j hj hd => ?_)
        by_cases hji : j = i
        · rw [hji, hLi]; simp
        · refine hord j hji ?_
          have hj' : ops.toList[j]? = some ops[j] := by simp [hj]
          have hdj : (ops[j]).dst = some t := by simpa [dstAt, hj] using hd
          have := tmpRow_get htr j _ t hj' hdj ht
          rwa [Nat.zero_add] at this
      rw [this, TL_lt, Nat.min_eq_left (by omega)]
    have hHA : ∀ b ∈ (D i).tc, HH L b = FH D H0 0 i b := by
      intro b hb
      have : HH L b = HL D H0 (fun j => decide (j < i)) ops.size b := by
        refine HL_agree ops.size (fun j hj hx => ?_)
        by_cases hji : j = i
        · rw [hji, hLi]; simp
        · obtain ⟨o2, ho2, _, _, _, _, hef2⟩ := hSt j hj
          obtain ⟨x, hxm, hxb⟩ := hx
          have hfresh : (b = Nb + 2 * j ∨ b = Nb + 2 * j + 1) → L j = decide (j < i) := by
            intro hbj
            have hlt : b < Nb + 2 * i := by
              apply Classical.byContradiction
              intro hge
              exact htc b hb (hdom i (by omega) b (by omega))
            have hji' : j < i := by omega
            rcases htr1 _ (hmem i hi (hwt i hi b hb)) b hb with h1 | h1
            · omega
            · rw [show (b - Nb) / 2 = j by omega] at h1
              rw [hpred j hji h1]; simp [hji']
          rcases hef2 x hxm with h1 | h1 | h1
          · exact hfresh (.inl (by omega))
          · exact hfresh (.inr (by omega))
          · rw [hxb] at h1
            exact hord j hji (hmut i j b hi hj (fun e => hji e.symm) hb h1 ⟨x, hxm, hxb⟩)
      rw [this, HL_lt, Nat.min_eq_left (by omega)]
    have hfr : ∀ b, (b = Nb + 2 * i ∨ b = Nb + 2 * i + 1) → HH L b = none := by
      intro b hb
      have : HH L b = HL D H0 (fun _ => false) ops.size b := by
        refine HL_agree ops.size (fun j hj hx => ?_)
        by_cases hji : j = i
        · rw [hji]; exact hLi
        · obtain ⟨o2, ho2, _, _, _, _, hef2⟩ := hSt j hj
          obtain ⟨x, hxm, hxb⟩ := hx
          rcases hef2 x hxm with h1 | h1 | h1
          · omega
          · omega
          · rw [hxb] at h1
            rcases htr1 _ (hmem j hj (hwt j hj b h1)) b h1 with h2 | h2
            · omega
            · rw [show (b - Nb) / 2 = i by omega] at h2; exact hsucc j h2
      rw [this, HL_false]; exact hB b (by omega)
    have hT' : TT (upd L i) = (TT L).put o.dst (D i).r := by
      funext t
      by_cases hd : o.dst = some t
      · rw [hd, Regs.put_same]
        refine TL_last ops.size hi (upd_self L i) (by rw [hdst]; exact hd) (fun j h1 h2 hdj => ?_)
        rw [hne j (by omega)]
        have hj' : ops.toList[j]? = some ops[j] := by simp [h2]
        have hdj' : (ops[j]).dst = some t := by simpa [dstAt, h2] using hdj
        have := tmpRow_get htr j _ t hj' hdj' (by unfold usesT; simp [hd])
        rw [Nat.zero_add] at this
        rw [hord j (by omega) this]; simp; omega
      · rw [Regs.put_other hd]
        refine TL_agree ops.size (fun j hj hdj => ?_)
        have : j ≠ i := by rintro rfl; rw [hdst] at hdj; exact hd hdj
        exact hne j this
    have hH' : HH (upd L i) = (HH L).puts (D i).ef := by
      funext b
      by_cases hk : ∃ y ∈ (D i).ef, y.1 = b
      · obtain ⟨y, hy, hyb⟩ := hk
        refine HL_last hLi (upd_self L i) hne ops.size hi (fun j h1 h2 hLj x hx hxb => ?_)
        obtain ⟨o2, ho2, _, _, _, htc2, hef2⟩ := hSt j h2
        have hno : L j = false → False := fun h => by rw [h] at hLj; cases hLj
        rcases hef y hy with h3 | h3 | h3 <;> rcases hef2 x hx with h4 | h4 | h4
        · omega
        · omega
        · rw [hxb] at h4
          rcases htr1 _ (hmem j h2 (hwt j h2 b h4)) b h4 with h5 | h5
          · omega
          · rw [show (b - Nb) / 2 = i by omega] at h5; exact hno (hsucc j h5)
        · omega
        · omega
        · rw [hxb] at h4
          rcases htr1 _ (hmem j h2 (hwt j h2 b h4)) b h4 with h5 | h5
          · omega
          · rw [show (b - Nb) / 2 = i by omega] at h5; exact hno (hsucc j h5)
        · rw [hyb] at h3; exact htc b h3 (hdom i (by omega) b (by omega))
        · rw [hyb] at h3; exact htc b h3 (hdom i (by omega) b (by omega))
        · rw [hyb] at h3; rw [hxb] at h4
          have h5 := hord j (by omega) (hmut i j b hi h2 (by omega) h3 h4 ⟨x, hx, hxb⟩)
          rw [h5] at hLj; simp at hLj; omega
      · rw [AHeap.puts_ne (fun y hy hyb => hk ⟨y, hy, hyb⟩)]
        refine HL_agree ops.size (fun j hj hx => hne j ?_)
        rintro rfl; exact hk hx
    have hdo : ∀ t, o.dst = some t → t < nt := dstsLt_get hdl o (Array.mem_toList_iff.2 (Array.mem_of_getElem? ho))
    have hwA : wantedA ops (TT L) o = some (D i).w := by rw [wantedA_congr hTA]; exact hwa
    rw [wantedA_ok hwA hT]
    cases hw : (D i).w with
    | false =>
      obtain ⟨hr, -, hef0⟩ := hno hw
      simp only [Bool.false_eq_true, if_false]
      refine hKn _ _ ⟨hcl', e, ?_⟩
      rw [hT', hH', hr, hef0]
      exact ⟨R, hT.put hdo (.v undef), hI.put o.dst (fun c hc => by simp [AV.refs] at hc), by rw [Act.put_defers]; exact hdf⟩
    | true =>
      simp only [if_true]
      refine hop hw nt (TT L) (HH L) e a w K' Q ?_ hHA (hfr _ (.inl rfl)) (hfr _ (.inr rfl)) hT hI R ?_
      · intro x hx
        cases x with
        | tmp t => exact hTA t (by unfold usesT; simp; right; right; exact ⟨_, hx, rfl⟩)
        | const v => rfl
        | global g => rfl
        | func f => rfl
      · intro e' w' R' hon hrf
        refine hKn _ _ ⟨hcl', e', ?_⟩
        rw [hT', hH']
        exact ⟨R', (hT.on hI hon).put hdo _, hI.op_put o.dst hrf, by rw [Act.put_defers]; exact hdf⟩
  · rintro L a w ⟨-, e, R, hT, hI, hdf⟩ hall
    have h1 : TT L = FT (dstAt ops) D T0 0 ops.size := by
      funext t
      have : TT L t = TL (dstAt ops) D T0 (fun j => decide (j < ops.size)) ops.size t := TL_agree ops.size (fun j hj _ => by rw [hall j hj]; simp [hj])
      rw [this, TL_lt, Nat.min_self]
    have h2 : HH L = FH D H0 0 ops.size := by
      funext b
      have : HH L b = HL D H0 (fun j => decide (j < ops.size)) ops.size b := HL_agree ops.size (fun j hj _ => by rw [hall j hj]; simp [hj])
      rw [this, HL_lt, Nat.min_self]
    rw [h1, h2] at hI
    rw [h1] at hT
    rw [h2] at R
    exact hQ _ _ e a w hK R hT hI (hdom ops.size (Nat.le_refl _)) hdf
end Go.Proofs.YtikjbocagnolmaaDoor
