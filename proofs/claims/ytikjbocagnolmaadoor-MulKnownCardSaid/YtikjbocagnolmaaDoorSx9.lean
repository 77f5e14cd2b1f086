/- Contracts out of trees: what a tree answers, its function does. No function of the program. -/
import Derived.Test.YtikjbocagnolmaaDoorSx8
namespace Go.Proofs.YtikjbocagnolmaaDoor
set_option linter.unusedVariables false
set_option linter.unusedSimpArgs false
open Go.RowKit
def getI : List Int → Nat → Int
  | [], _ => 0
  | x :: _, 0 => x
  | _ :: l, n + 1 => getI l n
theorem getI_append : ∀ (l m : List Int) (i : Nat), i < l.length → getI (l ++ m) i = getI l i
  | x :: l, m, 0, _ => rfl
  | x :: l, m, i + 1, h => getI_append l m i (by simpa using h)
  | [], m, i, h => by simp at h
theorem sigL_getI : ∀ (l m q : List Int), sigL (getI (l ++ m ++ q)) l.length m.length = m
  | l, [], q => rfl
  | l, x :: m, q => by
    rw [List.length_cons, sigL]
    have h1 : getI (l ++ x :: m ++ q) l.length = x := by
      induction l with
      | nil => rfl
      | cons y l ih => exact ih
    have h2 := sigL_getI (l ++ [x]) m q
    rw [h1]
    simp only [List.append_assoc, List.singleton_append, List.length_append, List.length_cons, List.length_nil, List.cons_append, List.nil_append, Nat.zero_add] at h2 ⊢
    rw [h2]
/-- a scalar's number, computed -/
def X.ev (l : List Int) : X → Int
  | .lit n => n
  | .var k i => normC k (getI l i)
  | .bin op k a b => fold op k (a.ev l) (b.ev l)
  | .conv k a => wrapC k (a.ev l)
  | .com k a => fold .xor k (match k.signed with | true => -1 | false => .ofNat (kMod k - 1)) (a.ev l)
  | .not a => b2i (bNot (iNz (a.ev l)))
  | .and a b => match iNz (a.ev l) with | true => b2i (iNz (b.ev l)) | false => 0
  | .beq a b => b2i (match iNz (a.ev l) with | true => iNz (b.ev l) | false => bNot (iNz (b.ev l)))
  | .min a b => match iLt (b.ev l) (a.ev l) with | true => b.ev l | false => a.ev l
  | .max a b => match iLt (a.ev l) (b.ev l) with | true => b.ev l | false => a.ev l
  | .ite c a b => match iNz (c.ev l) with | true => a.ev l | false => b.ev l
theorem com_eq (k : IntKind) (n : Int) : fold .xor k (match k.signed with | true => -1 | false => .ofNat (kMod k - 1)) n = comI k n := by
  have := mkCom_den (fun _ => 0) k (.lit n)
  unfold mkCom at this
  simp only [forceInt_eq, X.den] at this
  exact this
theorem X.ev_den (l : List Int) : ∀ x : X, x.ev l = x.den (getI l)
  | .lit n => rfl
  | .var k i => normC_eq k _
  | .bin op k a b => by simp only [X.ev, X.den, fold_eq, X.ev_den l a, X.ev_den l b]
  | .conv k a => by simp only [X.ev, X.den, wrapC_eq, X.ev_den l a]
  | .com k a => by simp only [X.ev, X.den, com_eq, X.ev_den l a]
  | .not a => by simp only [X.ev, X.den, bNot_eq, iNz_eq, X.ev_den l a]
  | .and a b => by
    simp only [X.ev, X.den, iNz_eq, X.ev_den l a, X.ev_den l b]
    cases (a.den (getI l) != 0) <;> rfl
  | .beq a b => by
    simp only [X.ev, X.den, iNz_eq, bNot_eq, X.ev_den l a, X.ev_den l b]
    cases (a.den (getI l) != 0) <;> cases (b.den (getI l) != 0) <;> rfl
  | .min a b => by
    simp only [X.ev, X.den, iLt_eq, X.ev_den l a, X.ev_den l b]
    by_cases h : b.den (getI l) < a.den (getI l)
    · rw [decide_eq_true h, if_pos h]
    · rw [decide_eq_false h, if_neg h]
  | .max a b => by
    simp only [X.ev, X.den, iLt_eq, X.ev_den l a, X.ev_den l b]
    by_cases h : a.den (getI l) < b.den (getI l)
    · rw [decide_eq_true h, if_pos h]
    · rw [decide_eq_false h, if_neg h]
  | .ite c a b => by
    simp only [X.ev, X.den, iNz_eq, X.ev_den l a, X.ev_den l b, X.ev_den l c]
    by_cases h : c.den (getI l) = 0
    · rw [if_pos h, h]; rfl
    · rw [if_neg h, show (c.den (getI l) != 0) = true by simpa using h]
/-- a list of numbers, written out -/
def evs {β : Sort _} (l : List Int) : List X → (List Int → β) → β
  | [], K => K []
  | x :: xs, K => forceInt (x.ev l) fun n => evs l xs fun r => K (n :: r)
theorem evs_eq {β : Sort _} (l : List Int) : ∀ (xs : List X) (K : List Int → β), evs l xs K = K (xs.map (X.den (getI l)))
  | [], K => rfl
  | x :: xs, K => by rw [evs, forceInt_eq, evs_eq l xs, X.ev_den]; rfl
def evalL (Φ : Phi) : Tr' SV → List Int → Option (SV × List Int)
  | .leaf a, l => some (a, l)
  | .ite c a b, l => match iNz (c.ev l) with | true => evalL Φ a l | false => evalL Φ b l
  | .call f args _ n t, l => evs l args fun xs => match Nat.beq (Φ f xs).length n with | true => evalL Φ t (l ++ Φ f xs) | false => none
  | .stuck _, _ => none
def xLt (n : Nat) : X → Bool
  | .lit _ => true
  | .var _ i => Nat.blt i n
  | .bin _ _ a b => andB (xLt n a) (xLt n b)
  | .conv _ a => xLt n a
  | .com _ a => xLt n a
  | .not a => xLt n a
  | .and a b => andB (xLt n a) (xLt n b)
  | .beq a b => andB (xLt n a) (xLt n b)
  | .min a b => andB (xLt n a) (xLt n b)
  | .max a b => andB (xLt n a) (xLt n b)
  | .ite c a b => andB (xLt n c) (andB (xLt n a) (xLt n b))
def xsLt (n : Nat) : List X → Bool
  | [] => true
  | x :: l => andB (xLt n x) (xsLt n l)
def scopedT (n : Nat) : Tr' SV → Bool
  | .leaf _ => true
  | .ite c a b => andB (xLt n c) (andB (scopedT n a) (scopedT n b))
  | .call _ args base m t => andB (Nat.beq base n) (andB (xsLt n args) (scopedT (n + m) t))
  | .stuck _ => true
theorem xLt_ok {l m : List Int} : ∀ {x : X}, xLt l.length x = true → x.den (getI (l ++ m)) = x.den (getI l)
  | .lit n, _ => rfl
  | .var k i, h => by simp only [X.den]; rw [getI_append _ _ _ (by simpa [xLt, Nat.blt_eq] using h)]
  | .bin _ _ a b, h => by have h := andB_eq h; simp only [X.den, xLt_ok h.1, xLt_ok h.2]
  | .conv _ a, h => by simp only [X.den, xLt_ok (x := a) h]
  | .com _ a, h => by simp only [X.den, xLt_ok (x := a) h]
  | .not a, h => by simp only [X.den, xLt_ok (x := a) h]
  | .and a b, h => by have h := andB_eq h; simp only [X.den, xLt_ok h.1, xLt_ok h.2]
  | .beq a b, h => by have h := andB_eq h; simp only [X.den, xLt_ok h.1, xLt_ok h.2]
  | .min a b, h => by have h := andB_eq h; simp only [X.den, xLt_ok h.1, xLt_ok h.2]
  | .max a b, h => by have h := andB_eq h; simp only [X.den, xLt_ok h.1, xLt_ok h.2]
  | .ite c a b, h => by have h := andB_eq h; have h2 := andB_eq h.2; simp only [X.den, xLt_ok h.1, xLt_ok h2.1, xLt_ok h2.2]
theorem xsLt_ok {l m : List Int} : ∀ {xs : List X}, xsLt l.length xs = true → xs.map (X.den (getI (l ++ m))) = xs.map (X.den (getI l))
  | [], _ => rfl
  | x :: xs, h => by have h := andB_eq h; rw [List.map_cons, List.map_cons, xLt_ok h.1, xsLt_ok h.2]
theorem evalL_path {Φ : Phi} : ∀ {t : Tr' SV} {l : List Int} {a : SV} {l' : List Int}, evalL Φ t l = some (a, l') → scopedT l.length t = true → t.path Φ (getI l') = some a ∧ ∃ m, l' = l ++ m
  | .leaf a, l, b, l', h, _ => by simp only [evalL, Option.some.injEq, Prod.mk.injEq] at h; obtain ⟨rfl, rfl⟩ := h; exact ⟨rfl, [], by simp⟩
  | .ite c a b, l, v, l', h, hs => by
    have hs := andB_eq hs; have hs2 := andB_eq hs.2
    simp only [evalL, iNz_eq, X.ev_den] at h
    split at h
    · rename_i hc
      obtain ⟨h1, m, rfl⟩ := evalL_path h hs2.1
      refine ⟨?_, m, rfl⟩
      rw [Tr'.path, xLt_ok hs.1, if_neg (by simpa using hc)]; exact h1
    · rename_i hc
      obtain ⟨h1, m, rfl⟩ := evalL_path h hs2.2
      refine ⟨?_, m, rfl⟩
      rw [Tr'.path, xLt_ok hs.1, if_pos (by simpa using hc)]; exact h1
  | .call f args base n t, l, v, l', h, hs => by
    have hs := andB_eq hs; have hs2 := andB_eq hs.2
    have hb := beq_iff.1 hs.1; subst hb
    simp only [evalL, evs_eq] at h
    split at h
    · rename_i hn
      have hn := beq_iff.1 hn; subst hn
      obtain ⟨h1, m, rfl⟩ := evalL_path h (by rw [List.length_append]; exact hs2.2)
      refine ⟨?_, _, List.append_assoc _ _ _⟩
      rw [Tr'.path, if_pos]
      · exact h1
      · unfold callEq
        have e := xsLt_ok (m := Φ f (args.map (X.den (getI l))) ++ m) hs2.1
        rw [List.append_assoc, e, ← List.append_assoc]
        exact sigL_getI l _ m
    · cases h
  | .stuck w, l, v, l', h, _ => by cases h
def unres (r : List Sh) (a : SV) : List SV := match r with
  | [_] => [a]
  | _ => match a with | .tup m => m | a => [a]
/-- **what a tree answers** -/
def treeF (Φ : Phi) (ct : Ct) (t : Tr' SV) (l : List Int) : List Int := match evalL Φ t l with
  | some (a, l') => match flats ct.r (unres ct.r a) with
    | some xs => evs l' xs id
    | none => []
  | none => []
def okF (Φ : Phi) (ct : Ct) (t : Tr' SV) (l : List Int) : Prop := ∃ a l' xs, evalL Φ t l = some (a, l') ∧ flats ct.r (unres ct.r a) = some xs
theorem okF_len {Φ : Phi} {ct : Ct} {t : Tr' SV} {l : List Int} (h : okF Φ ct t l) : (treeF Φ ct t l).length = (kindsOf ct.r).length := by
  obtain ⟨a, l', xs, h1, h2⟩ := h
  unfold treeF
  simp only [h1, h2, evs_eq, id, List.length_map, (flats_ok (fun _ => 0) h2).2]
theorem sigL_zero (l m : List Int) : sigL (getI (l ++ m)) 0 l.length = l := by
  have := sigL_getI [] l m; simpa using this
theorem execF_pc {C : SCx} {E : EqT} {s : Sig} (hC : SOK C E) {n : Nat} {g : FuncId} {args : List SV} {nv : Nat} {a : SV} {vs : List Value} {v : Value} (h : (execF C n g args nv).path C.Φ s = some a) (ha : SV.dens s args = vs.map .v) (hv : a.den s = .v v) :
    PC C.P C.G g vs v := by
  unfold execF at h
  split at h
  · cases h
  · rename_i fn hf
    split at h
    · cases h
    · rename_i cd hb
      split at h
      · rename_i hl
        obtain ⟨⟨ex, st⟩, h1, h2⟩ := Tr'.path_bind_some h
        have sp := (exec_ok (E := E) (s := s) hC n).1 _ _ _ _ h1 (fun x hx => by cases hx)
        have hlen : (padR args fn.ntmps).length = fn.ntmps := padR_len _ _ (Nat.le_of_ble_eq_true hl)
        have hvl : vs.length = args.length := by have := congrArg List.length ha; rw [dens_len, List.length_map] at this; exact this.symm
        refine pc_of_aw E hf hb (hC.nm g fn hf (by rw [hb]; rfl)) (by rw [hvl]; exact hl) fun w => ?_
        have hA := sp.aw w Bas.nil
        simp only [hlen, padR_den, ha] at hA
        have key : ∀ rs, resSX C.P st.T st.H fn.results.toList = some rs → resS rs = a → ∃ rs', resA C.P C.G (SRegs.den s st.T) (SH.den s st.H) fn.results.toList = some rs' ∧ resV rs' = .v v := fun rs hrs e =>
          ⟨_, resSX_ok s hrs, by rw [resV_dens, e, hv]⟩
        have hx : (ex = .normal ∨ ex = .ret) ∧ ∃ rs, resSX C.P st.T st.H fn.results.toList = some rs ∧ resS rs = a := by
          rcases ret_path h2 with ⟨rfl, h3⟩ | ⟨rfl, h3⟩
          · split at h3
            · rename_i rs hrs; cases h3; exact ⟨.inl rfl, rs, hrs, rfl⟩
            · cases h3
          · split at h3
            · rename_i rs hrs; cases h3; exact ⟨.inr rfl, rs, hrs, rfl⟩
            · cases h3
        obtain ⟨hx, rs, hrs, e⟩ := hx
        refine AW.mono (show AW _ cd (ExA s ex st) 0 _ _ from hA) ?_
        rintro x N T H ⟨rfl, rfl, rfl, rfl⟩
        rcases hx with rfl | rfl
        · exact key rs hrs e
        · exact key rs hrs e
      · cases h
theorem unres_den {s : Sig} {r : List Sh} {a : SV} {vs : List Value} (h : SV.dens s (unres r a) = vs.map .v) (hl : vs.length = r.length) : a.den s = .v (resVal vs) := by
  unfold unres at h
  split at h
  · match vs, hl with
    | [v], _ => simpa [SV.dens, resVal] using h
  · rename_i hr
    have tup : ∀ m, SV.dens s m = vs.map .v → (SV.tup m).den s = .v (resVal vs) := fun m hm => by
      simp only [SV.den, hm, mkTup_v]
      match vs, hl with
      | [], _ => rfl
      | [v], hl => exfalso; match r, hl with | [x], _ => exact hr x rfl
      | _ :: _ :: _, _ => rfl
    split at h
    · exact tup _ h
    · rename_i hnt
      exfalso
      have h1 := congrArg List.length h
      rw [dens_len, List.length_map, hl] at h1
      match r, h1 with
      | [x], _ => exact hr x rfl
theorem valsS_len : ∀ (hs : List Sh) (ns : List Int), (valsS hs ns).length = hs.length
  | [], _ => rfl
  | h :: hs, ns => by rw [valsS, List.length_cons, valsS_len hs, List.length_cons]
/-- **the contract of a function whose tree is known** -/
theorem ct_of {C : SCx} {E : EqT} (hC : SOK C E) {n : Nat} {g : FuncId} {ct : Ct} {t : Tr' SV} (h : execF C n g (uns ct.a (varsAt 0 (kindsOf ct.a))) (kindsOf ct.a).length = t) (hs : scopedT (kindsOf ct.a).length t = true)
    (l : List Int) (hl : l.length = (kindsOf ct.a).length) (ho : okF C.Φ ct t l) :
    (treeF C.Φ ct t l).length = (kindsOf ct.r).length ∧ PC C.P C.G g (valsS ct.a l) (resVal (valsS ct.r (treeF C.Φ ct t l))) := by
  refine ⟨okF_len ho, ?_⟩
  obtain ⟨a, l', xs, h1, h2⟩ := ho
  obtain ⟨h3, m, rfl⟩ := evalL_path h1 (by rw [hl]; exact hs)
  rw [← h] at h3
  obtain ⟨h4, h5⟩ := varsAt_den (getI (l ++ m)) (kindsOf ct.a) 0
  rw [← hl, sigL_zero] at h4
  have hf := flats_ok (getI (l ++ m)) h2
  refine execF_pc hC h3 (uns_ok h4 h5) ?_
  have : treeF C.Φ ct t l = xs.map (X.den (getI (l ++ m))) := by unfold treeF; simp only [h1, h2, evs_eq, id]
  rw [this]
  exact unres_den hf.1 (valsS_len _ _)
/-- the closed look at a tree without stuck ways -/
def checkT (cf : FuncId → Option Ct) (ct : Ct) (n : Nat) : Tr' SV → Bool
  | .leaf a => (flats ct.r (unres ct.r a)).isSome
  | .ite c a b => andB (xLt n c) (andB (checkT cf ct n a) (checkT cf ct n b))
  | .call f args base m t => match cf f with
    | some c => andB (Nat.beq base n) (andB (xsLt n args) (andB (Nat.beq args.length (kindsOf c.a).length) (andB (Nat.beq m (kindsOf c.r).length) (checkT cf ct (n + m) t))))
    | none => false
  | .stuck _ => false
theorem checkT_scoped {cf : FuncId → Option Ct} {ct : Ct} : ∀ {t : Tr' SV} {n : Nat}, checkT cf ct n t = true → scopedT n t = true
  | .leaf a, n, _ => rfl
  | .ite c a b, n, h => by
    have h := andB_eq h; have h2 := andB_eq h.2
    simp only [scopedT, h.1, checkT_scoped h2.1, checkT_scoped h2.2]; rfl
  | .call f args base m t, n, h => by
    simp only [checkT] at h
    split at h
    · have h := andB_eq h; have h2 := andB_eq h.2; have h3 := andB_eq h2.2; have h4 := andB_eq h3.2
      simp only [scopedT, h.1, h2.1, checkT_scoped h4.2]; rfl
    · cases h
  | .stuck _, n, h => by cases h
theorem checkT_ok {C : SCx} {E : EqT} (hC : SOK C E) {ct : Ct} : ∀ {t : Tr' SV} {l : List Int}, checkT C.ct ct l.length t = true → okF C.Φ ct t l
  | .leaf a, l, h => by
    obtain ⟨xs, hx⟩ := Option.isSome_iff_exists.1 (show (flats ct.r (unres ct.r a)).isSome = true from h)
    exact ⟨a, l, xs, rfl, hx⟩
  | .ite c a b, l, h => by
    have h := andB_eq h; have h2 := andB_eq h.2
    unfold okF
    simp only [evalL]
    cases iNz (c.ev l) with
    | true => exact checkT_ok hC h2.1
    | false => exact checkT_ok hC h2.2
  | .call f args base m t, l, h => by
    simp only [checkT] at h
    split at h
    · rename_i c hc
      have h := andB_eq h; have h2 := andB_eq h.2; have h3 := andB_eq h2.2; have h4 := andB_eq h3.2
      have e1 := beq_iff.1 h3.1; have e2 := beq_iff.1 h4.1
      unfold okF
      simp only [evalL, evs_eq]
      have hl := (hC.ct f c hc (args.map (X.den (getI l))) (by rw [List.length_map]; exact e1)).1
      rw [hl, e2]
      simp only [Nat.beq_refl]
      refine checkT_ok hC ?_
      rw [List.length_append, hl, ← e2]; exact h4.2
    · cases h
  | .stuck _, l, h => by cases h
/-- entries of a table of contracts -/
structure Ent where
  g : FuncId
  ct : Ct
  F : List Int → List Int
def findE : List Ent → FuncId → Option Ent
  | [], _ => none
  | x :: l, g => match Nat.beq x.g g with | true => some x | false => findE l g
def addE (C : SCx) (L : List Ent) : SCx :=
  { C with ct := fun g => match findE L g with | some e => some e.ct | none => C.ct g
           Φ := fun g l => match findE L g with | some e => e.F l | none => C.Φ g l }
def EntOK (P : Program) (G : Glob) (e : Ent) : Prop := ∀ l : List Int, l.length = (kindsOf e.ct.a).length → (e.F l).length = (kindsOf e.ct.r).length ∧ PC P G e.g (valsS e.ct.a l) (resVal (valsS e.ct.r (e.F l)))
theorem findE_ok {L : List Ent} {g : FuncId} {e : Ent} (h : findE L g = some e) : e ∈ L ∧ e.g = g := by
  induction L with
  | nil => cases h
  | cons x l ih =>
    simp only [findE] at h
    split at h
    · rename_i hb; cases h; exact ⟨List.mem_cons_self, beq_iff.1 hb⟩
    · obtain ⟨h1, h2⟩ := ih h; exact ⟨List.mem_cons_of_mem _ h1, h2⟩
theorem SOK.add {C : SCx} {E : EqT} (hC : SOK C E) {L : List Ent} (h : ∀ e ∈ L, EntOK C.P C.G e) : SOK (addE C L) E := by
  refine ⟨hC.se, hC.eq, hC.mix, hC.nm, fun g ct hct l hl => ?_⟩
  simp only [addE] at hct ⊢
  cases hf : findE L g with
  | some e =>
    rw [hf] at hct
    simp only [Option.some.injEq] at hct; subst hct
    obtain ⟨h1, h2⟩ := findE_ok hf
    subst h2
    exact h e h1 l hl
  | none =>
    rw [hf] at hct
    exact hC.ct g ct hct l hl
/-- an entry out of a tree -/
theorem ent_of {C : SCx} {E : EqT} (hC : SOK C E) (n : Nat) {g : FuncId} {ct : Ct} {t : Tr' SV} (h : execF C n g (uns ct.a (varsAt 0 (kindsOf ct.a))) (kindsOf ct.a).length = t) (hs : checkT C.ct ct (kindsOf ct.a).length t = true) :
    EntOK C.P C.G ⟨g, ct, treeF C.Φ ct t⟩ := fun l hl => ct_of hC h (checkT_scoped hs) l hl (checkT_ok hC (by rw [hl]; exact hs))
theorem ent_of' {C : SCx} {E : EqT} (hC : SOK C E) (n : Nat) {g : FuncId} {ct : Ct} {t : Tr' SV} (h : execF C n g (uns ct.a (varsAt 0 (kindsOf ct.a))) (kindsOf ct.a).length = t) (hs : scopedT (kindsOf ct.a).length t = true)
    (ho : ∀ l : List Int, l.length = (kindsOf ct.a).length → okF C.Φ ct t l) : EntOK C.P C.G ⟨g, ct, treeF C.Φ ct t⟩ := fun l hl => ct_of hC h hs l hl (ho l hl)
/-- a closed function that answers 'true' -/
theorem true_of {C : SCx} {E : EqT} (hC : SOK C E) (n : Nat) {g : FuncId} (h : execF C n g [] 0 = .leaf (.bool (.lit 1))) : PC C.P C.G g [] (.bool true) :=
  execF_pc (s := fun _ => 0) hC (a := .bool (.lit 1)) (by rw [h]; rfl) rfl rfl
end Go.Proofs.YtikjbocagnolmaaDoor
