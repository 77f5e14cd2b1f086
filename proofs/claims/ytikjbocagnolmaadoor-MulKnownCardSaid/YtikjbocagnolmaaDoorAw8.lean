/- Regions that draw their order, computed in the order of the text. No function of the program. -/
import Derived.Test.YtikjbocagnolmaaDoorAw7
namespace Go.Proofs.YtikjbocagnolmaaDoor
set_option linter.unusedVariables false
set_option linter.unusedSimpArgs false
open Go.RowKit
/-! what an operation waits for, near and far: as bits -/
def maskOf (acc : List Nat) : List Edge → Nat
  | [] => 0
  | e :: es => (if Region.binds .any e then 2 ^ e.on ||| acc.getD e.on 0 else 0) ||| maskOf acc es
def masks (acc : List Nat) : List Oper → List Nat
  | [] => acc
  | o :: os => masks (acc ++ [maskOf acc o.after.toList]) os
def ClosedL (ops : Array Oper) (L : Nat → Bool) : Prop := ∀ k x, ops[k]? = some x → L k = true → ∀ j, depB x j = true → L j = true
theorem maskOf_bit {acc : List Nat} {L : Nat → Bool} {j : Nat} : ∀ {es : List Edge}, (maskOf acc es).testBit j = true → ∃ e ∈ es, Region.binds .any e = true ∧ (e.on = j ∨ (acc.getD e.on 0).testBit j = true)
  | [], h => by simp [maskOf] at h
  | e :: es, h => by
    rw [maskOf, Nat.testBit_or, Bool.or_eq_true] at h
    rcases h with h | h
    · split at h
      · rename_i hb
        rw [Nat.testBit_or, Bool.or_eq_true] at h
        refine ⟨e, List.mem_cons_self, hb, ?_⟩
        rcases h with h | h
        · rw [Nat.testBit_two_pow] at h; exact .inl (by simpa using h)
        · exact .inr h
      · simp at h
    · obtain ⟨e', h1, h2⟩ := maskOf_bit (L := L) h; exact ⟨e', List.mem_cons_of_mem _ h1, h2⟩
theorem masks_bit {ops : Array Oper} {L : Nat → Bool} (hL : ClosedL ops L) : ∀ (os : List Oper) (acc : List Nat), os = ops.toList.drop acc.length → (∀ i j, (acc.getD i 0).testBit j = true → L i = true → L j = true) → ∀ i j, ((masks acc os).getD i 0).testBit j = true → L i = true → L j = true
  | [], acc, _, h => h
  | o :: os, acc, hos, h => by
    rw [masks]
    have hl : acc.length < ops.size := by
      have := congrArg List.length hos
      simp at this; omega
    have ho : ops[acc.length]? = some o := by
      have := congrArg (·[0]?) hos
      simp at this
      rw [Array.getElem?_eq_getElem hl] at this ⊢
      exact this.symm
    refine masks_bit hL os _ ?_ ?_
    · have := congrArg List.tail hos
      simpa using this
    · intro i j hb hi
      rcases Nat.lt_trichotomy i acc.length with hlt | rfl | hgt
      · refine h i j ?_ hi
        simpa [List.getD, List.getElem?_append_left hlt] using hb
      · have hb' : (maskOf acc o.after.toList).testBit j = true := by simpa [List.getD] using hb
        obtain ⟨e, he, hbi, h1⟩ := maskOf_bit (L := L) hb'
        have hon : L e.on = true := hL _ o ho hi e.on (by
          unfold depB
          rw [Array.any_eq_true']
          exact ⟨e, by simpa using he, by simp [hbi]⟩)
        rcases h1 with rfl | h1
        · exact hon
        · exact h _ _ h1 hon
      · have : (acc ++ [maskOf acc o.after.toList])[i]? = none := List.getElem?_eq_none (by simp; omega)
        simp [List.getD, this] at hb
def orderedM (M : List Nat) (i j : Nat) : Bool := if j < i then (M.getD i 0).testBit j else if i < j then (M.getD j 0).testBit i else true
def dstAt (ops : Array Oper) (j : Nat) : Option Tmp := (ops[j]?).bind (·.dst)
def usesT (ops : Array Oper) (o : Oper) : List Tmp :=
  o.dst.toList ++ (match o.guard with | some (j, _) => (dstAt ops j).toList | none => []) ++ o.op.operands.toList.filterMap fun | .tmp t => some t | _ => none
def tmpRow (ops : Array Oper) (M : List Nat) (i : Nat) (u : List Tmp) : Nat → List Oper → Bool
  | _, [] => true
  | j, o :: os => (match o.dst with | some t => !u.contains t || orderedM M i j | none => true) && tmpRow ops M i u (j + 1) os
def tmpRows (ops : Array Oper) (M : List Nat) : Nat → List Oper → Bool
  | _, [] => true
  | i, o :: os => tmpRow ops M i (usesT ops o) 0 ops.toList && tmpRows ops M (i + 1) os
def dstsLt (nt : Nat) : List Oper → Bool
  | [] => true
  | o :: os => (match o.dst with | some t => Nat.blt t nt | none => true) && dstsLt nt os
/-- the closed look at a region that draws -/
def drawOK (ops : Array Oper) (nt : Nat) : Bool := topoL 0 ops.toList && dstsLt nt ops.toList && tmpRows ops (masks [] ops.toList) 0 ops.toList
def trIn (M : List Nat) (Nb i : Nat) : List Nat → Bool
  | [] => true
  | b :: bs => (Nat.blt b Nb || (M.getD i 0).testBit ((b - Nb) / 2)) && trIn M Nb i bs
def trPair (M : List Nat) (x y : Nat × List Nat × Bool) : Bool := !(x.2.2 || y.2.2) || !(x.2.1.any fun b => y.2.1.contains b) || orderedM M x.1 y.1
def traceRows (M : List Nat) (Nb : Nat) : Tr → Bool
  | [] => true
  | x :: l => trIn M Nb x.1 x.2.1 && l.all (trPair M x) && traceRows M Nb l
def traceOK (ops : Array Oper) (Nb : Nat) (tr : Tr) : Bool := traceRows (masks [] ops.toList) Nb tr
theorem dstsLt_get {nt : Nat} : ∀ {os : List Oper}, dstsLt nt os = true → ∀ o ∈ os, ∀ t, o.dst = some t → t < nt
  | [], _, o, h => by cases h
  | x :: os, h, o, ho => by
    simp only [dstsLt, Bool.and_eq_true] at h
    rcases List.mem_cons.1 ho with rfl | ho
    · intro t ht; have := h.1; rw [ht] at this; simpa using this
    · exact dstsLt_get h.2 o ho
theorem tmpRow_get {ops : Array Oper} {M : List Nat} {i : Nat} {u : List Tmp} : ∀ {os : List Oper} {k : Nat}, tmpRow ops M i u k os = true → ∀ m o t, os[m]? = some o → o.dst = some t → t ∈ u → orderedM M i (k + m) = true
  | [], k, _, m, o, t, h => by simp at h
  | x :: os, k, h, m, o, t, ho => by
    simp only [tmpRow, Bool.and_eq_true] at h
    intro ht hu
    cases m with
    | zero =>
      simp at ho; subst ho
      have := h.1
      rw [ht] at this
      simp [hu] at this
      simpa using this
    | succ m => have := tmpRow_get h.2 m o t (by simpa using ho) ht hu; rwa [show k + 1 + m = k + (m + 1) by omega] at this
theorem tmpRows_get {ops : Array Oper} {M : List Nat} : ∀ {os : List Oper} {k : Nat}, tmpRows ops M k os = true → ∀ m o, os[m]? = some o → tmpRow ops M (k + m) (usesT ops o) 0 ops.toList = true
  | [], k, _, m, o, h => by simp at h
  | x :: os, k, h, m, o, ho => by
    simp only [tmpRows, Bool.and_eq_true] at h
    cases m with
    | zero => simp at ho; subst ho; exact h.1
    | succ m => have := tmpRows_get h.2 m o (by simpa using ho); rwa [show k + 1 + m = k + (m + 1) by omega] at this
theorem trIn_get {M : List Nat} {Nb i : Nat} : ∀ {bs : List Nat}, trIn M Nb i bs = true → ∀ b ∈ bs, b < Nb ∨ (M.getD i 0).testBit ((b - Nb) / 2) = true
  | [], _, b, h => by cases h
  | x :: bs, h, b, hb => by
    simp only [trIn, Bool.and_eq_true, Bool.or_eq_true] at h
    rcases List.mem_cons.1 hb with rfl | hb
    · exact h.1.imp (by simp) id
    · exact trIn_get h.2 b hb
theorem orderedM_symm {M : List Nat} {i j : Nat} (h : orderedM M i j = true) : orderedM M j i = true := by
  unfold orderedM at h ⊢
  rcases Nat.lt_trichotomy i j with h1 | rfl | h1
  · simp [h1, show ¬ j < i by omega] at h ⊢; exact h
  · simp
  · simp [h1, show ¬ i < j by omega] at h ⊢; exact h
theorem trPair_symm {M : List Nat} {x y : Nat × List Nat × Bool} (h : trPair M x y = true) : trPair M y x = true := by
  unfold trPair at h ⊢
  simp only [Bool.or_eq_true, Bool.not_eq_true'] at h ⊢
  rcases h with (h | h) | h
  · left; left; rw [Bool.or_comm]; exact h
  · left; right
    rw [List.any_eq_false] at h ⊢
    intro b hb hc
    have := h b
    simp only [List.contains_iff_mem] at this hc
    exact this hc hb
  · right; exact orderedM_symm h
theorem traceRows_get {M : List Nat} {Nb : Nat} : ∀ {tr : Tr}, traceRows M Nb tr = true → (∀ x ∈ tr, ∀ b ∈ x.2.1, b < Nb ∨ (M.getD x.1 0).testBit ((b - Nb) / 2) = true) ∧ ∀ x ∈ tr, ∀ y ∈ tr, x.1 ≠ y.1 → trPair M x y = true
  | [], _ => ⟨fun x h => (by cases h), fun x h => (by cases h)⟩
  | z :: l, h => by
    simp only [traceRows, Bool.and_eq_true] at h
    obtain ⟨ih1, ih2⟩ := traceRows_get h.2
    have hall := List.all_eq_true.1 h.1.2
    refine ⟨fun x hx => ?_, fun x hx y hy hne => ?_⟩
    · rcases List.mem_cons.1 hx with rfl | hx
      · exact trIn_get h.1.1
      · exact ih1 x hx
    · rcases List.mem_cons.1 hx with h1 | h1 <;> rcases List.mem_cons.1 hy with h2 | h2
      · exact absurd (by rw [h1, h2]) hne
      · rw [h1]; exact hall y h2
      · rw [h2]; exact trPair_symm (hall x h1)
      · exact ih2 x h1 y h2 hne
/-! the data of a walk in text order -/
structure OpD where
  w : Bool
  r : AV
  tc : List Nat
  ef : List (Nat × AO)
def FT (dst : Nat → Option Tmp) (D : Nat → OpD) (T : Regs) (i : Nat) : Nat → Regs
  | 0 => T
  | m + 1 => (FT dst D T i m).put (dst (i + m)) (D (i + m)).r
def FH (D : Nat → OpD) (H : AHeap) (i : Nat) : Nat → AHeap
  | 0 => H
  | m + 1 => (FH D H i m).puts (D (i + m)).ef
theorem FT_shift {dst : Nat → Option Tmp} {D : Nat → OpD} {T : Regs} {i : Nat} : ∀ m, FT dst D T i (m + 1) = FT dst D (T.put (dst i) (D i).r) (i + 1) m
  | 0 => rfl
  | m + 1 => by rw [FT, FT_shift m, FT]; rw [show i + (m + 1) = i + 1 + m by omega]
theorem FH_shift {D : Nat → OpD} {H : AHeap} {i : Nat} : ∀ m, FH D H i (m + 1) = FH D (H.puts (D i).ef) (i + 1) m
  | 0 => rfl
  | m + 1 => by rw [FH, FH_shift m, FH]; rw [show i + (m + 1) = i + 1 + m by omega]
theorem FT_congr {dst : Nat → Option Tmp} {D D' : Nat → OpD} {T : Regs} {i : Nat} (h : ∀ j, i ≤ j → D j = D' j) : ∀ m, FT dst D T i m = FT dst D' T i m
  | 0 => rfl
  | m + 1 => by rw [FT, FT, FT_congr h m, h _ (by omega)]
theorem FH_congr {D D' : Nat → OpD} {H : AHeap} {i : Nat} (h : ∀ j, i ≤ j → D j = D' j) : ∀ m, FH D H i m = FH D' H i m
  | 0 => rfl
  | m + 1 => by rw [FH, FH, FH_congr h m, h _ (by omega)]
/-- what the walk in text order found at one operation -/
def StD (P : Program) (G : Glob) (w0 : World) (B0 : Bas) (ops : Array Oper) (Nb i : Nat) (T : Regs) (H : AHeap) (d : OpD) : Prop :=
  ∃ o, ops[i]? = some o ∧ wantedA ops T o = some d.w ∧ (d.w = true → OpOK P G w0 B0 o T H d.tc (Nb + 2 * i) d.r d.ef) ∧ (d.w = false → d.r = .v undef ∧ d.tc = [] ∧ d.ef = []) ∧
    (∀ b ∈ d.tc, H b ≠ none) ∧ (∀ x ∈ d.ef, x.1 = Nb + 2 * i ∨ x.1 = Nb + 2 * i + 1 ∨ x.1 ∈ d.tc)
theorem evOps_data {P : Program} {G : Glob} {E : EqT} (hE : EqOK P E) {w0 : World} {B0 : Bas} {ops : Array Oper} {Nb : Nat} {K : Regs → AHeap → Tr → Prop} :
    ∀ (os : List Oper) (i : Nat) (T : Regs) (H : AHeap) (tr : Tr), os = ops.toList.drop i → i ≤ ops.size → evOps P G E w0 B0 ops Nb i os T H tr K →
      ∃ D tr', (∀ m, i + m < ops.size → StD P G w0 B0 ops Nb (i + m) (FT (dstAt ops) D T i m) (FH D H i m) (D (i + m))) ∧ K (FT (dstAt ops) D T i (ops.size - i)) (FH D H i (ops.size - i)) tr' ∧ (∀ x ∈ tr, x ∈ tr') ∧
        ∀ m, i + m < ops.size → (D (i + m)).w = true → (i + m, (D (i + m)).tc, mutB (D (i + m)).tc (D (i + m)).ef) ∈ tr' := by
  intro os
  induction os with
  | nil =>
    intro i T H tr hos hi hev
    have : ops.size - i = 0 := by
      have := congrArg List.length hos
      simp at this; omega
    refine ⟨fun _ => ⟨false, .v undef, [], []⟩, tr, fun m hm => by omega, ?_, fun x hx => hx, fun m hm => by omega⟩
    rw [this]; exact hev
  | cons o os ih =>
    intro i T H tr hos hi hev
    have hlt : i < ops.size := by
      have := congrArg List.length hos
      simp at this; omega
    have ho : ops[i]? = some o := by
      have := congrArg (·[0]?) hos
      simp at this
      rw [Array.getElem?_eq_getElem hlt] at this ⊢
      exact this.symm
    have hos' : os = ops.toList.drop (i + 1) := by
      have := congrArg List.tail hos
      simpa using this
    have hdst : dstAt ops i = o.dst := by simp [dstAt, ho]
    have key : ∀ (d : OpD) (tr1 : Tr), StD P G w0 B0 ops Nb i T H d → (∀ x ∈ tr, x ∈ tr1) → (d.w = true → (i, d.tc, mutB d.tc d.ef) ∈ tr1) → evOps P G E w0 B0 ops Nb (i + 1) os (T.put o.dst d.r) (H.puts d.ef) tr1 K →
        ∃ D tr', (∀ m, i + m < ops.size → StD P G w0 B0 ops Nb (i + m) (FT (dstAt ops) D T i m) (FH D H i m) (D (i + m))) ∧ K (FT (dstAt ops) D T i (ops.size - i)) (FH D H i (ops.size - i)) tr' ∧ (∀ x ∈ tr, x ∈ tr') ∧
          ∀ m, i + m < ops.size → (D (i + m)).w = true → (i + m, (D (i + m)).tc, mutB (D (i + m)).tc (D (i + m)).ef) ∈ tr' := by
      intro d tr1 hd htr hmem hnx
      obtain ⟨D', tr', h1, h2, h3, h4⟩ := ih (i + 1) _ _ _ hos' (by omega) hnx
      let D : Nat → OpD := fun j => if j = i then d else D' j
      have hDi : D i = d := by simp [D]
      have hD : ∀ j, i + 1 ≤ j → D j = D' j := fun j hj => by simp [D, show j ≠ i by omega]
      refine ⟨D, tr', ?_, ?_, fun x hx => h3 x (htr x hx), ?_⟩
      · intro m hm
        cases m with
        | zero => simpa [FT, FH, hDi] using hd
        | succ m =>
          rw [FT_shift, FH_shift, hDi, hdst, FT_congr hD, FH_congr hD, hD _ (by omega), show i + (m + 1) = i + 1 + m by omega]
          exact h1 m (by omega)
      · have hn : ops.size - i = (ops.size - (i + 1)) + 1 := by omega
        rw [hn, FT_shift, FH_shift, hDi, hdst, FT_congr hD, FH_congr hD]
        exact h2
      · intro m hm hw
        cases m with
        | zero =>
          rw [Nat.add_zero] at hw ⊢
          rw [hDi] at hw ⊢
          exact h3 _ (hmem hw)
        | succ m =>
          rw [hD _ (by omega), show i + (m + 1) = i + 1 + m by omega] at hw ⊢
          exact h4 m (by omega) hw
    simp only [evOps] at hev
    split at hev
    · exact hev.elim
    · rename_i q hw
      cases q with
      | false =>
        rw [Dec_false] at hev
        exact key ⟨false, .v undef, [], []⟩ tr ⟨o, ho, hw, fun h => (by cases h), fun _ => ⟨rfl, rfl, rfl⟩, fun b hb => (by cases hb), fun x hx => (by cases hx)⟩ (fun x hx => hx) (fun h => (by cases h)) hev
      | true =>
        rw [Dec_true] at hev
        have go : ∀ r tc ef, OpOK P G w0 B0 o T H tc (Nb + 2 * i) r ef → (∀ b ∈ tc, H b ≠ none) → (∀ x ∈ ef, x.1 = Nb + 2 * i ∨ x.1 = Nb + 2 * i + 1 ∨ x.1 ∈ tc) → evOps P G E w0 B0 ops Nb (i + 1) os (T.put o.dst r) (H.puts ef) ((i, tc, mutB tc ef) :: tr) K → _ :=
          fun r tc ef h0 h1 h2 h3 => key ⟨true, r, tc, ef⟩ ((i, tc, mutB tc ef) :: tr) ⟨o, ho, hw, fun _ => h0, fun h => (by cases h), h1, h2⟩ (fun x hx => List.mem_cons_of_mem _ hx) (fun _ => List.mem_cons_self) h3
        split at hev
        · rename_i c x y hp
          have hpk := evPick_ok (P := P) (G := G) (E := E) hp H (Nb + 2 * i)
          cases c with
          | true =>
            rw [Dec_true] at hev
            split at hev
            · rename_i r
              exact go r [] [] (evN_ok hE (hpk.1 r rfl rfl) w0 B0) (fun b hb => (by cases hb)) (fun x hx => (by cases hx)) hev
            · exact hev.elim
          | false =>
            rw [Dec_false] at hev
            split at hev
            · rename_i r
              exact go r [] [] (evN_ok hE (hpk.2 r rfl rfl) w0 B0) (fun b hb => (by cases hb)) (fun x hx => (by cases hx)) hev
            · exact hev.elim
        · split at hev
          · rename_i r tc ef hn
            obtain ⟨h1, h2⟩ := evN_tc hn
            exact go r tc ef (evN_ok hE hn w0 B0) h1 h2 hev
          · split at hev
            · rename_i g args hc
              obtain ⟨r, tc, ef, h0, h1, h2, h3⟩ := hev
              exact go r tc ef (evCall_ok hc h0) h1 h2 h3
            · obtain ⟨r, tc, ef, h0, h1, h2, h3⟩ := hev
              exact go r tc ef h0 h1 h2 h3
/-! the same, of just the operations of a set -/
def TL (dst : Nat → Option Tmp) (D : Nat → OpD) (T : Regs) (L : Nat → Bool) : Nat → Regs
  | 0 => T
  | m + 1 => if L m then (TL dst D T L m).put (dst m) (D m).r else TL dst D T L m
def HL (D : Nat → OpD) (H : AHeap) (L : Nat → Bool) : Nat → AHeap
  | 0 => H
  | m + 1 => if L m then (HL D H L m).puts (D m).ef else HL D H L m
theorem Regs.put_other {T : Regs} {d : Option Tmp} {x : AV} {t : Nat} (h : d ≠ some t) : (T.put d x) t = T t := by
  cases d with
  | none => rfl
  | some d => exact Regs.put_ne _ _ _ (fun e => h (by rw [e]))
theorem TL_agree {dst : Nat → Option Tmp} {D : Nat → OpD} {T : Regs} {L L' : Nat → Bool} {t : Nat} : ∀ n, (∀ j, j < n → dst j = some t → L j = L' j) → TL dst D T L n t = TL dst D T L' n t
  | 0, _ => rfl
  | n + 1, h => by
    have ih := TL_agree (D := D) (T := T) n (fun j hj => h j (by omega))
    simp only [TL]
    by_cases hd : dst n = some t
    · rw [h n (by omega) hd]
      split
      · rw [hd, Regs.put_same, Regs.put_same]
      · exact ih
    · split <;> split <;> simp only [Regs.put_other hd, ih]
theorem TL_lt {dst : Nat → Option Tmp} {D : Nat → OpD} {T : Regs} {i : Nat} : ∀ n, TL dst D T (fun j => decide (j < i)) n = FT dst D T 0 (min i n)
  | 0 => by simp [TL, FT]
  | n + 1 => by
    simp only [TL, TL_lt n]
    by_cases h : n < i
    · simp only [h, decide_true, if_true]
      rw [show min i (n + 1) = min i n + 1 by omega, FT, show min i n = n by omega, Nat.zero_add]
    · simp only [h, decide_false, Bool.false_eq_true, if_false]
      rw [show min i (n + 1) = min i n by omega]
theorem HL_agree {D : Nat → OpD} {H : AHeap} {L L' : Nat → Bool} {b : Nat} : ∀ n, (∀ j, j < n → (∃ x ∈ (D j).ef, x.1 = b) → L j = L' j) → HL D H L n b = HL D H L' n b
  | 0, _ => rfl
  | n + 1, h => by
    have ih := HL_agree (D := D) (H := H) n (fun j hj => h j (by omega))
    simp only [HL]
    by_cases hd : ∃ x ∈ (D n).ef, x.1 = b
    · rw [h n (by omega) hd]
      split
      · exact AHeap.puts_congr ih
      · exact ih
    · have hn : ∀ x ∈ (D n).ef, x.1 ≠ b := fun x hx e => hd ⟨x, hx, e⟩
      split <;> split <;> simp only [AHeap.puts_ne hn, ih]
theorem HL_lt {D : Nat → OpD} {H : AHeap} {i : Nat} : ∀ n, HL D H (fun j => decide (j < i)) n = FH D H 0 (min i n)
  | 0 => by simp [HL, FH]
  | n + 1 => by
    simp only [HL, HL_lt n]
    by_cases h : n < i
    · simp only [h, decide_true, if_true]
      rw [show min i (n + 1) = min i n + 1 by omega, FH, show min i n = n by omega, Nat.zero_add]
    · simp only [h, decide_false, Bool.false_eq_true, if_false]
      rw [show min i (n + 1) = min i n by omega]
theorem TL_last {dst : Nat → Option Tmp} {D : Nat → OpD} {T : Regs} {L : Nat → Bool} {i t : Nat} : ∀ n, i < n → L i = true → dst i = some t → (∀ j, i < j → j < n → dst j = some t → L j = false) → TL dst D T L n t = some (D i).r
  | 0, h, _, _, _ => by omega
  | n + 1, h, hL, hd, hj => by
    simp only [TL]
    rcases Nat.lt_or_ge i n with hlt | hge
    · have ih := TL_last (D := D) (T := T) n hlt hL hd (fun j h1 h2 => hj j h1 (by omega))
      split
      · rename_i hLn
        have : dst n ≠ some t := fun e => by rw [hj n hlt (by omega) e] at hLn; cases hLn
        rw [Regs.put_other this]; exact ih
      · exact ih
    · obtain rfl : i = n := by omega
      rw [hL, if_pos rfl, hd, Regs.put_same]
theorem HL_last {D : Nat → OpD} {H : AHeap} {L L' : Nat → Bool} {i b : Nat} (hL : L i = false) (hL' : L' i = true) (hag : ∀ j, j ≠ i → L' j = L j) : ∀ n, i < n → (∀ j, i < j → j < n → L j = true → ∀ x ∈ (D j).ef, x.1 ≠ b) → HL D H L' n b = ((HL D H L n).puts (D i).ef) b
  | 0, h, _ => by omega
  | n + 1, h, hj => by
    simp only [HL]
    rcases Nat.lt_or_ge i n with hlt | hge
    · have ih := HL_last (D := D) (H := H) hL hL' hag n hlt (fun j h1 h2 => hj j h1 (by omega))
      rw [hag n (by omega)]
      split
      · rename_i hLn
        have hne := hj n hlt (by omega) hLn
        rw [AHeap.puts_ne hne, ih]
        exact AHeap.puts_congr (AHeap.puts_ne hne).symm
      · exact ih
    · obtain rfl : i = n := by omega
      rw [hL', hL, if_pos rfl]
      simp only [Bool.false_eq_true, if_false]
      apply AHeap.puts_congr
      exact HL_agree i (fun j h1 _ => hag j (by omega))
end Go.Proofs.YtikjbocagnolmaaDoor
