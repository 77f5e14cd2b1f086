/- An operation on symbolic values is what is computed on abstract states. No function of the program. -/
import Derived.Test.YtikjbocagnolmaaDoorSx2
namespace Go.Proofs.YtikjbocagnolmaaDoor
set_option linter.unusedVariables false
set_option linter.unusedSimpArgs false
open Go.RowKit
theorem SH.den_get {s : Sig} {H : SH} {k : Nat} {o : SO} (h : hget H k = some o) : SH.den s H k = some (.own (SV.dens s o.c) o.t) := by unfold SH.den; rw [h]; rfl
section
variable {P : Program} {G : Glob} {SE : SEq} {E : EqT} {Φ : Phi} {s : Sig} {r : SR} {fc : Facts}
theorem one_path {a : SV} (h : (one a).path Φ s = some r) : r = (a, [], []) := by cases h; rfl
theorem oneO_path {w : String} {x : Option SV} (h : (oneO w x).path Φ s = some r) : ∃ a, x = some a ∧ r = (a, [], []) := by
  cases x with
  | none => cases h
  | some a => cases h; exact ⟨a, rfl, rfl⟩
theorem o1_path {ρ : Operand → Option SV} {x : Operand} {f : SV → Tr' SR} (h : (o1 ρ x f).path Φ s = some r) : ∃ a, ρ x = some a ∧ (f a).path Φ s = some r := by
  unfold o1 at h; split at h
  · rename_i a ha; exact ⟨a, ha, h⟩
  · cases h
theorem o2_path {ρ : Operand → Option SV} {x y : Operand} {f : SV → SV → Tr' SR} (h : (o2 ρ x y f).path Φ s = some r) : ∃ a b, ρ x = some a ∧ ρ y = some b ∧ (f a b).path Φ s = some r := by
  unfold o2 at h; split at h
  · rename_i a ha
    split at h
    · rename_i b hb; exact ⟨a, b, ha, hb, h⟩
    · cases h
  · cases h
theorem forceX_path {x : X} {k : X → Tr' SR} (h : (forceX x k).path Φ s = some r) : (k x).path Φ s = some r := by rwa [forceX_eq] at h
theorem sLoad_ok {t : TypeId} {H : SH} {a : SV} (h : (sLoad P G t H a).path Φ s = some r) : evLoad P G t (SH.den s H) (a.den s) = some (r.1.den s, r.2.1, efD s r.2.2) := by
  unfold sLoad at h
  split at h
  · rename_i b off
    split at h
    · rename_i o ho
      split at h
      · rename_i r' hr
        cases h
        simp only [SV.den, evLoad, SH.den_get ho, ldS_ok s hr]; rfl
      · cases h
    · cases h
  · rename_i g off
    split at h
    · rename_i c hc
      split at h
      · rename_i r' hr
        cases h
        have := ldS_ok s hr
        rw [dens_ofV] at this
        simp only [SV.den, evLoad, hc, this]; rfl
      · cases h
    · cases h
  · cases h
theorem sStore_ok {t : TypeId} {H : SH} {x y : SV} (h : (sStore P t H x y).path Φ s = some r) : evStore P t (SH.den s H) (x.den s) (y.den s) = some (r.1.den s, r.2.1, efD s r.2.2) := by
  unfold sStore at h
  split at h
  · rename_i b off
    split at h
    · rename_i o ho
      split at h
      · rename_i n h1 hn
        split at h
        · rename_i h2 h3
          rw [forceL_eq] at h
          cases h
          have h2 := beq_iff.1 h2; have h3 := Nat.le_of_ble_eq_true h3
          have hl : (cellsA (y.den s)).length = (cellsS y).length := by rw [← cellsS_den, dens_len]
          have ha : (cellsA (y.den s)).all oneA = true := by
            rw [← cellsS_den, SV.dens_map, List.all_map, List.all_eq_true]
            intro z hz
            exact oneS_den (List.all_eq_true.1 h1 z hz)
          simp only [SV.den, evStore, SH.den_get ho]
          rw [if_pos (by simp only [Bool.and_eq_true, decide_eq_true_eq]; refine ⟨⟨ha, ?_⟩, ?_⟩
                         · rw [hl, hn, h2]
                         · rw [hl, dens_len]; exact h3)]
          congr 3
          simp only [efD, List.map_cons, List.map_nil, SO.den, storeL, dens_append, dens_take, dens_drop, cellsS_den, ← hl]
        · cases h
      · cases h
    · cases h
  · cases h
theorem evField_agg {t : TypeId} {l : List AV} {f off : Nat} {ft : TypeId} (hf : tyFld P t f = some (off, ft)) : evField P t f (mkAgg l) = ldCells P ft l off := by
  have hc := cellsA_mkAgg l
  unfold mkAgg at hc ⊢
  cases h : allV l with
  | none => simp only [evField, hf, cellsA]
  | some vs =>
    rw [h] at hc
    simp only [evField, hf]
    rw [hc]
theorem sField_ok {t : TypeId} {f : Nat} {x a : SV} (h : sField P t f x = some a) : evField P t f (x.den s) = some (a.den s) := by
  unfold sField at h
  split at h
  · rename_i l
    split at h
    · rename_i off ft hf
      simp only [SV.den]
      rw [evField_agg hf, ldS_ok s h]
    · cases h
  · rename_i cs
    split at h
    · rename_i off ft hf
      have := ldS_ok s h
      rw [dens_ofV] at this
      simp only [SV.den, evField, hf, cellsA, Value.cells]
      exact this
    · cases h
  · cases h
theorem sFieldAddr_ok {t : TypeId} {f : Nat} {x a : SV} (h : sFieldAddr P t f x = some a) : evFieldAddr P t f (x.den s) = some (a.den s) := by
  unfold sFieldAddr at h
  unfold evFieldAddr
  split at h
  · rename_i off ft hf
    rw [hf]
    simp only
    split at h
    · rename_i n hs
      rw [hs]
      simp only
      split at h
      · rw [forceNat_eq] at h; cases h; rfl
      · rw [forceNat_eq] at h; cases h; rfl
      · cases h
    · cases h
  · cases h
theorem sIndexAddr_ok (hf : FOK s fc) {t : TypeId} {H : AHeap} {x i : SV} (h : (sIndexAddr P fc t x i).path Φ s = some r) : wtt (evIndexAddr P t H (x.den s) (i.den s)) = some (r.1.den s, r.2.1, efD s r.2.2) := by
  unfold sIndexAddr at h
  split at h
  · rename_i k n
    split at h
    · rename_i b o
      split at h
      · rename_i len el ha
        split at h
        · rename_i sz hs
          obtain ⟨j, h1, h2, h3⟩ := splitX_path hf h
          rw [forceNat_eq] at h3; cases h3
          simp only [SV.den, evIndexAddr, ha, hs, h2]
          rw [if_pos ⟨by omega, by omega⟩]; rfl
        · cases h
      · cases h
    · rename_i g o
      split at h
      · rename_i len el ha
        split at h
        · rename_i sz hs
          obtain ⟨j, h1, h2, h3⟩ := splitX_path hf h
          rw [forceNat_eq] at h3; cases h3
          simp only [SV.den, evIndexAddr, ha, hs, h2]
          rw [if_pos ⟨by omega, by omega⟩]; rfl
        · cases h
      · cases h
    · rename_i b o len cap
      split at h
      · rename_i el ha
        split at h
        · rename_i sz hs
          obtain ⟨j, h1, h2, h3⟩ := splitX_path hf h
          rw [forceNat_eq] at h3; cases h3
          simp only [SV.den, evIndexAddr, ha, hs, h2]
          rw [if_pos ⟨by omega, by omega⟩]; rfl
        · cases h
      · cases h
    · cases h
  · cases h
theorem evIndex_agg {t : TypeId} {l : List AV} {k : IntKind} {n : Int} {len el sz : Nat} (ha : tyArr P t = some (len, el)) (hs : tySize P el = some sz) (hn : 0 ≤ n ∧ n < len) : evIndex P t (mkAgg l) (.v (.int k n)) = ldCells P el l (n.toNat * sz) := by
  have hc := cellsA_mkAgg l
  unfold mkAgg at hc ⊢
  cases h : allV l with
  | none => simp only [evIndex, ha, hs, if_pos hn]
  | some vs =>
    rw [h] at hc
    simp only [cellsA, Value.cells] at hc
    simp only [evIndex, ha, hs, if_pos hn]
    rw [hc]
theorem sIndex_ok (hf : FOK s fc) {t : TypeId} {x i : SV} (h : (sIndex P fc t x i).path Φ s = some r) : wt (evIndex P t (x.den s) (i.den s)) = some (r.1.den s, r.2.1, efD s r.2.2) := by
  unfold sIndex at h
  split at h
  · rename_i k n
    split at h
    · rename_i l
      split at h
      · rename_i len el ha
        split at h
        · rename_i sz hs
          obtain ⟨j, h1, h2, h3⟩ := splitX_path hf h
          obtain ⟨a, h4, rfl⟩ := oneO_path h3
          simp only [SV.den]
          rw [evIndex_agg ha hs (by rw [h2]; omega), h2, show ((j : Int)).toNat = j by simp, ldS_ok s h4]; rfl
        · cases h
      · cases h
    · rename_i cs
      split at h
      · rename_i len el ha
        split at h
        · rename_i sz hs
          obtain ⟨j, h1, h2, h3⟩ := splitX_path hf h
          obtain ⟨a, h4, rfl⟩ := oneO_path h3
          have := ldS_ok s h4
          rw [dens_ofV] at this
          simp only [SV.den, evIndex, ha, hs, h2]
          rw [if_pos ⟨by omega, by omega⟩, show ((j : Int)).toNat = j by simp, this]; rfl
        · cases h
      · cases h
    · cases h
  · cases h
theorem sExtract_ok {x a : SV} {i : Nat} (h : sExtract x i = some a) : evExtract (x.den s) i = some (a.den s) := by
  unfold sExtract at h
  split at h
  · rename_i vs
    split at h
    · rename_i v hv
      cases h
      simp only [SV.den, evExtract, hv, ofV_den]
    · cases h
  · rename_i l
    have := dens_get s h
    simp only [SV.den]
    unfold mkTup
    cases hv : allV (SV.dens s l) with
    | none => exact this
    | some vs =>
      have h2 := allV_val (e := ⟨fun _ => 0, fun _ => undef⟩) hv
      have h3 : SV.dens s l = vs.map .v := by
        have h4 := cellsA_mkAgg (SV.dens s l)
        unfold mkAgg at h4; rw [hv] at h4
        simpa [cellsA, Value.cells] using h4.symm
      rw [h3] at this
      simp only [evExtract]
      rw [List.getElem?_map] at this
      cases hg : vs[i]? with
      | none => rw [hg] at this; cases this
      | some v => rw [hg] at this; simp only [List.getElem?_toArray, List.toList_toArray, hg]; exact this
  · cases h
theorem iteT_stuck {c : X} {w : String} {b : Tr' SR} (h : (iteT c (.stuck w) b).path Φ s = some r) : c.den s = 0 ∧ b.path Φ s = some r := by
  rw [iteT_path] at h
  split at h
  · rename_i hc; exact ⟨hc, h⟩
  · cases h
theorem b2i_zero {b : Bool} (h : b2i b = 0) : b = false := by cases b <;> first | rfl | cases h
theorem signed_pos {k : IntKind} (hk : k.signed = false) (n : Int) : 0 ≤ k.wrap n := by
  unfold IntKind.wrap IntKind.bits; cases k <;> first | (cases hk; done) | (simp [IntKind.signed]; omega)
theorem notT_path (hf : FOK s fc) {w : String} {c : X} {t : Tr' SR} (h : (notT fc w c t).path Φ s = some r) : c.den s = 0 ∧ t.path Φ s = some r := by
  unfold notT at h
  split at h
  · cases h
  · rename_i hd
    have := decX_ok hf hd
    exact ⟨by simpa using this, h⟩
  · exact iteT_stuck h
theorem sInt2_ok (hf : FOK s fc) {t : TypeId} {op : BinOp} {k k' : IntKind} {a b : X} (h : (sInt2 fc op k k' a b).path Φ s = some r) : ∃ v, pBin P op t (.int k (a.den s)) (.int k' (b.den s)) = some v ∧ .v v = r.1.den s ∧ r.2 = ([], []) := by
  have ar : ∀ {op' : BinOp}, (forceX (mkBin op' k a b) fun x => one (.int k x)).path Φ s = some r → AV.v (.int k (iOp op' k (a.den s) (b.den s))) = r.1.den s ∧ r.2 = ([], []) := fun h => by
    have h := one_path (forceX_path h); subst h
    exact ⟨by simp only [SV.den, mkBin_den], rfl⟩
  have cm : ∀ {op' : BinOp}, (forceX (mkBin op' k a b) fun x => one (.bool x)).path Φ s = some r → AV.v (.bool (iOp op' k (a.den s) (b.den s) != 0)) = r.1.den s ∧ r.2 = ([], []) := fun h => by
    have h := one_path (forceX_path h); subst h
    exact ⟨by simp only [SV.den, mkBin_den], rfl⟩
  have nn : ∀ {op' : BinOp}, (match X.inK k' b, k'.signed with
      | true, false => forceX (mkBin op' k a b) fun x => one (.int k x)
      | _, _ => notT fc "shift below 0" (mkBin .lss k' b (.lit (.ofNat 0))) (forceX (mkBin op' k a b) fun x => one (.int k x))).path Φ s = some r →
      ¬ b.den s < 0 ∧ (forceX (mkBin op' k a b) fun x => one (.int k x)).path Φ s = some r := fun h => by
    split at h
    · rename_i h1 h2
      refine ⟨?_, h⟩
      rw [← X.inK_ok s h1]; have := signed_pos h2 (b.den s); omega
    · obtain ⟨h1, h2⟩ := notT_path hf h
      refine ⟨?_, h2⟩
      rw [mkBin_den] at h1
      have := b2i_zero h1
      intro hc
      simp only [decide_eq_false_iff_not] at this
      exact this hc
  have nz : ∀ {op' : BinOp}, (notT fc "by 0" (mkBin .eql k' b (.lit (.ofNat 0))) (forceX (mkBin op' k a b) fun x => one (.int k x))).path Φ s = some r →
      b.den s ≠ 0 ∧ (forceX (mkBin op' k a b) fun x => one (.int k x)).path Φ s = some r := fun h => by
    obtain ⟨h1, h2⟩ := notT_path hf h
    refine ⟨?_, h2⟩
    rw [mkBin_den] at h1
    have := b2i_zero h1
    intro hc; rw [hc] at this; cases this
  cases op <;> simp only [sInt2] at h
  case shl =>
    obtain ⟨h1, h2⟩ := nn h
    exact ⟨_, by simp only [pBin, if_neg h1]; rfl, ar h2⟩
  case shr =>
    obtain ⟨h1, h2⟩ := nn h
    exact ⟨_, by simp only [pBin, if_neg h1]; rfl, ar h2⟩
  case quo =>
    split at h
    · rename_i hk
      have hk := kEq_eq hk
      obtain ⟨h1, h2⟩ := nz h
      exact ⟨_, by simp only [pBin, if_pos (And.intro hk h1)]; rfl, ar h2⟩
    · cases h
  case rem =>
    split at h
    · rename_i hk
      have hk := kEq_eq hk
      obtain ⟨h1, h2⟩ := nz h
      exact ⟨_, by simp only [pBin, if_pos (And.intro hk h1)]; rfl, ar h2⟩
    · cases h
  all_goals
    split at h
    · rename_i hk
      have hk := kEq_eq hk
      first
        | exact ⟨_, by simp only [pBin, if_pos hk, iOp, bitsV_eq], ar h⟩
        | exact ⟨_, by simp only [pBin, if_pos hk, iOp, b2i_ne], cm h⟩
    · cases h
theorem sBin_ok (hSE : SEqOK P SE E) (hf : FOK s fc) {t : TypeId} {op : BinOp} {x y : SV} (h : (sBin P SE fc op t x y).path Φ s = some r) : wt (evBin P E op t (x.den s) (y.den s)) = some (r.1.den s, r.2.1, efD s r.2.2) := by
  unfold sBin at h
  split at h
  · rename_i k a k' b
    obtain ⟨v, h1, h2, h3⟩ := sInt2_ok (P := P) hf (t := t) h
    simp only [SV.den, evBin, h1, wt, h2, h3]; rfl
  · rename_i a b
    split at h
    · rename_i hu
      split at h
      · have h := one_path (forceX_path h); subst h
        simp only [SV.den, evBin, pBin, hu, wt, mkBeq_den, b2i_ne]; rfl
      · have h := one_path (forceX_path h); subst h
        simp only [SV.den, evBin, pBin, hu, wt, mkNot_den, mkBeq_den, b2i_ne]; rfl
      · cases h
    · cases h
  · rename_i hi hb
    have key : ∀ u, SE t x y = some u → ∃ a b, x.den s = .v a ∧ y.den s = .v b ∧ pBin P .eql t a b = none ∧ pBin P .neq t a b = none ∧ E .eql t a b = some (.bool (u.den s != 0)) ∧ E .neq t a b = some (.bool (!(u.den s != 0))) := fun u hu => hSE t x y u s hu
    split at h
    · split at h
      · rename_i u hu
        have h := one_path (forceX_path h); subst h
        obtain ⟨a, b, h1, h2, p1, p2, h3, h4⟩ := key u hu
        simp only [h1, h2, evBin, p1, h3, wt, SV.den]; rfl
      · cases h
    · split at h
      · rename_i u hu
        have h := one_path (forceX_path h); subst h
        obtain ⟨a, b, h1, h2, p1, p2, h3, h4⟩ := key u hu
        simp only [h1, h2, evBin, p2, h4, wt, SV.den, mkNot_den, b2i_ne]; rfl
      · cases h
    · cases h
theorem sUn_ok {op : UnOp} {x : SV} (h : (sUn op x).path Φ s = some r) : wt (evUn op (x.den s)) = some (r.1.den s, r.2.1, efD s r.2.2) := by
  unfold sUn at h
  split at h
  · have h := one_path (forceX_path h); subst h
    simp only [SV.den, evUn, wt, mkBin_den, iOp]; rfl
  · have h := one_path (forceX_path h); subst h
    simp only [SV.den, evUn, wt, mkCom_den, comI, bitsV_eq]; rfl
  · have h := one_path (forceX_path h); subst h
    simp only [SV.den, evUn, wt, mkNot_den, b2i_ne]; rfl
  · cases h
theorem sConv_ok {src dst : TypeId} {x : SV} (h : (sConv P src dst x).path Φ s = some r) : wt (evConv P src dst (x.den s)) = some (r.1.den s, r.2.1, efD s r.2.2) := by
  unfold sConv at h
  split at h
  · split at h
    · rename_i k d hk hd
      have h := one_path (forceX_path h); subst h
      simp only [SV.den, evConv, hk, hd, wt, mkConv_den]; rfl
    · cases h
  · cases h
theorem evNil_mkFn (f : FuncId) (a c : List AV) : evNil (mkFn (.func f) a c) = some (mkFn (.func f) a c) := by unfold mkFn; split <;> rfl
theorem sNil_ok {x : SV} (h : (sNil x).path Φ s = some r) : wt (evNil (x.den s)) = some (r.1.den s, r.2.1, efD s r.2.2) := by
  unfold sNil at h
  split at h
  · cases h; rfl
  · cases h; rfl
  · cases h; rfl
  · cases h; simp only [SV.den, evNil_mkFn, wt]; rfl
  · cases h
theorem sLen_ok {t : TypeId} {H : AHeap} {x : SV} (h : (sLen P t x).path Φ s = some r) : wtt (evLen P t H (x.den s)) = some (r.1.den s, r.2.1, efD s r.2.2) := by
  unfold sLen at h
  split at h
  · rename_i el hu
    split at h
    · cases h; simp only [SV.den, evLen, hu]; rfl
    · cases h; simp only [SV.den, evLen, hu]; rfl
    · cases h
  · rename_i hu
    split at h
    · rw [forceNat_eq] at h; cases h; simp only [SV.den, evLen, hu]; rfl
    · cases h
  · rename_i n el hu
    cases h; simp only [evLen, hu]; rfl
  · cases h
theorem sArrayAt_ok {t : TypeId} {H : AHeap} {x : SV} (h : (sArrayAt P t x).path Φ s = some r) : wtt (evArrayAt P t H (x.den s)) = some (r.1.den s, r.2.1, efD s r.2.2) := by
  unfold sArrayAt at h
  split at h
  · rename_i n el ha
    split at h
    · split at h
      · rename_i hb
        cases h
        simp only [SV.den, evArrayAt, ha, if_pos (Nat.le_of_ble_eq_true hb)]; rfl
      · cases h
    · cases h
  · cases h
theorem sMakeSlice_ok {t : TypeId} {k : Nat} {x y : SV} (h : (sMakeSlice P t k x y).path Φ s = some r) : evMakeSlice P t k (x.den s) (y.den s) = some (r.1.den s, r.2.1, efD s r.2.2) := by
  unfold sMakeSlice at h
  split at h
  · rename_i k1 n k2 m
    split at h
    · rename_i el hel
      split at h
      · rename_i sz z b hs hz hb
        split at h
        · rename_i h1 h2 h3 h4
          rw [forceL_eq] at h
          cases h
          have h1 := Nat.le_of_ble_eq_true h1
          have h2 : m < 16777216 := by simpa [Nat.blt_eq] using h2
          have h3 := Nat.le_of_ble_eq_true h3
          have h4 : m * sz ≠ 0 := fun e => by rw [e] at h4; cases h4
          simp only [SV.den, X.den, evMakeSlice, hel, hs, hz, hb, Int.ofNat_eq_natCast]
          rw [if_pos ⟨by omega, by omega, by omega, h3, by simpa using h4⟩]
          simp only [efD, List.map_cons, List.map_nil, SO.den, dens_ofV, Int.ofNat_eq_natCast, Int.toNat_natCast]
        · cases h
      · cases h
    · cases h
  · cases h
theorem sSliceAll_ok {t : TypeId} {x : SV} (h : (sSliceAll P t x).path Φ s = some r) : wt (evSliceAll P t (x.den s)) = some (r.1.den s, r.2.1, efD s r.2.2) := by
  unfold sSliceAll at h
  split at h
  · rename_i n el ha
    split at h
    · rename_i b o sz hs
      cases h; simp only [SV.den, evSliceAll, ha, hs]; rfl
    · cases h
  · cases h
theorem sBuildSlice_ok {t : TypeId} {len k : Nat} {ps : List (Nat × SV)} (h : (sBuildSlice P t len k ps).path Φ s = some r) : evBuildSlice P t len k (psD s ps) = some (r.1.den s, r.2.1, efD s r.2.2) := by
  unfold sBuildSlice at h
  split at h
  · rename_i el hel
    split at h
    · rename_i sz z hs hz
      split at h
      · rename_i h1 h2
        split at h
        · rename_i c hc
          cases h
          have h1 := Nat.le_of_ble_eq_true h1
          have h2 : len * sz ≠ 0 := fun e => by rw [e] at h2; cases h2
          have h3 := fillS_ok s hc
          rw [dens_ofV] at h3
          simp only [evBuildSlice, hel, hs, hz, h3]
          rw [if_pos ⟨h1, h2⟩]; rfl
        · cases h
      · cases h
    · cases h
  · cases h
theorem sevN_ok (hSE : SEqOK P SE E) (hf : FOK s fc) {op : Op} {ρ : Operand → Option SV} {ρ' : Operand → Option AV} (hρ : RD s ρ ρ') {H : SH} {k : Nat} (h : (sevN P G SE fc op ρ H k).path Φ s = some r) :
    evN P G E op ρ' (SH.den s H) k = some (r.1.den s, r.2.1, efD s r.2.2) := by
  unfold sevN at h
  split at h
  · obtain ⟨a, ha, h⟩ := o1_path h; cases h; simp only [evN, hρ _ _ ha, wt]; rfl
  · obtain ⟨a, ha, h⟩ := o1_path h; cases h; simp only [evN, hρ _ _ ha, wt]; rfl
  · obtain ⟨v, hv, h⟩ := o1_path h
    split at h
    · rename_i q
      rw [iteT_path] at h
      have hq := hρ _ _ hv
      split at h
      · rename_i hc
        obtain ⟨a, ha, h⟩ := o1_path h; cases h
        simp only [evN, hq, SV.den, hc, bne_self_eq_false, Bool.false_eq_true, if_false, hρ _ _ ha, wt]; rfl
      · rename_i hc
        obtain ⟨a, ha, h⟩ := o1_path h; cases h
        have : (q.den s != 0) = true := by simpa using hc
        simp only [evN, hq, SV.den, this, if_true, hρ _ _ ha, wt]; rfl
    · cases h
  · split at h
    · rename_i z hz
      rw [forceL_eq] at h
      cases h; simp only [evN, hz, SV.den, efD, List.map_cons, List.map_nil, SO.den, dens_ofV]
    · cases h
  · obtain ⟨a, ha, h⟩ := o1_path h
    rw [forceL_eq] at h
    cases h; simp only [evN, hρ _ _ ha, SV.den, efD, List.map_cons, List.map_nil, SO.den, cellsS_den]
  · split at h
    · rename_i l z hl hz
      split at h
      · rename_i hs
        split at h
        · rename_i c hc
          cases h
          have h3 := fillS_ok s hc
          rw [dens_ofV] at h3
          simp only [evN, partsS_ok hρ hl, hz, hs, if_true, h3, SV.den]; rfl
        · cases h
      · cases h
    · cases h
  · split at h
    · rename_i l hl
      simp only [evN, partsS_ok hρ hl]; exact sBuildSlice_ok h
    · cases h
  · obtain ⟨a, ha, h⟩ := o1_path h; simp only [evN, hρ _ _ ha]; exact sLoad_ok h
  · obtain ⟨a, b, ha, hb, h⟩ := o2_path h; simp only [evN, hρ _ _ ha, hρ _ _ hb]; exact sStore_ok h
  · obtain ⟨a, ha, h⟩ := o1_path h; simp only [evN, hρ _ _ ha]; exact sNil_ok h
  · obtain ⟨a, b, ha, hb, h⟩ := o2_path h; simp only [evN, hρ _ _ ha, hρ _ _ hb]; exact sBin_ok hSE hf h
  · obtain ⟨a, ha, h⟩ := o1_path h; simp only [evN, hρ _ _ ha]; exact sUn_ok h
  · obtain ⟨a, ha, h⟩ := o1_path h; simp only [evN, hρ _ _ ha]; exact sConv_ok h
  · split at h
    · rename_i x y hx hy
      cases h; simp only [evN, listS_ok hρ hx, listS_ok hρ hy, SV.den]; rfl
    · cases h
  · obtain ⟨a, ha, h⟩ := o1_path h
    obtain ⟨b, hb, rfl⟩ := oneO_path h
    simp only [evN, hρ _ _ ha, sFieldAddr_ok hb, wt]; rfl
  · obtain ⟨a, ha, h⟩ := o1_path h
    obtain ⟨b, hb, rfl⟩ := oneO_path h
    simp only [evN, hρ _ _ ha, sField_ok hb, wt]; rfl
  · obtain ⟨a, b, ha, hb, h⟩ := o2_path h; simp only [evN, hρ _ _ ha, hρ _ _ hb]; exact sIndexAddr_ok hf h
  · obtain ⟨a, b, ha, hb, h⟩ := o2_path h; simp only [evN, hρ _ _ ha, hρ _ _ hb]; exact sIndex_ok hf h
  · obtain ⟨a, ha, h⟩ := o1_path h
    obtain ⟨b, hb, rfl⟩ := oneO_path h
    simp only [evN, hρ _ _ ha, sExtract_ok hb, wt]; rfl
  · split at h
    · rename_i x t hx ht
      obtain ⟨a, ha, h⟩ := o1_path h
      simp only [evN, hx, ht, hρ _ _ ha]; exact sLen_ok h
    · cases h
  · split at h
    · rename_i x y hx
      obtain ⟨a, b, ha, hb, h⟩ := o2_path h
      split at h
      · have h := one_path (forceX_path h); subst h
        simp only [evN, hx, hρ _ _ ha, hρ _ _ hb, SV.den, mkMin_den]; rfl
      · cases h
    · cases h
  · split at h
    · rename_i x y hx
      obtain ⟨a, b, ha, hb, h⟩ := o2_path h
      split at h
      · have h := one_path (forceX_path h); subst h
        simp only [evN, hx, hρ _ _ ha, hρ _ _ hb, SV.den, mkMax_den]; rfl
      · cases h
    · cases h
  · obtain ⟨a, ha, h⟩ := o1_path h; simp only [evN, hρ _ _ ha]; exact sArrayAt_ok h
  · obtain ⟨a, b, ha, hb, h⟩ := o2_path h; simp only [evN, hρ _ _ ha, hρ _ _ hb]; exact sMakeSlice_ok h
  · obtain ⟨a, ha, h⟩ := o1_path h; simp only [evN, hρ _ _ ha]; exact sSliceAll_ok h
  · cases h
end
end Go.Proofs.YtikjbocagnolmaaDoor
