/- What the executor says of calls is so: contracts, calls in place, merged ways. No function of the program. -/
import Derived.Test.YtikjbocagnolmaaDoorSx4
namespace Go.Proofs.YtikjbocagnolmaaDoor
set_option linter.unusedVariables false
set_option linter.unusedSimpArgs false
open Go.RowKit
/-! ### shapes as values -/
def valX (k : VK) (n : Int) : Value := match k with | .int k => .int k (k.wrap n) | .bool => .bool (n != 0) | .bit => .int .u64 (b2i (n != 0))
def valXs : List VK → List Int → List Value
  | k :: ks, n :: ns => valX k n :: valXs ks ns
  | _, _ => []
def val1 (h : Sh) (ns : List Int) : Value := match h with
  | .sc k => match ns with | n :: _ => valX k n | [] => undef
  | .agg l => .agg (valXs l ns).toArray
def valsS : List Sh → List Int → List Value
  | [], _ => []
  | h :: hs, ns => val1 h ns :: valsS hs (ns.drop h.kinds.length)
def resVal : List Value → Value
  | [x] => x
  | l => .tuple l.toArray
def normL : List VK → List Int → List Int
  | k :: ks, n :: ns => k.norm n :: normL ks ns
  | _, _ => []
theorem scX_ok {k : VK} {x : SV} {a : X} (s : Sig) (h : scX k x = some a) : x.den s = .v (valX k (a.den s)) := by
  unfold scX at h
  split at h
  · split at h
    · rename_i hk hi
      cases h
      have hk := kEq_eq hk; subst hk
      simp only [SV.den, valX, X.inK_ok s hi]
    · cases h
  · cases h; rfl
  · split at h
    · rename_i hk hi
      cases h
      have hk := kEq_eq hk; subst hk
      simp only [SV.den, valX]; rw [← X.isBit_ok s hi]
    · cases h
  · cases h
theorem flatL_ok (s : Sig) : ∀ {ks : List VK} {xs : List SV} {l : List X}, flatL ks xs = some l → SV.dens s xs = (valXs ks (l.map (X.den s))).map .v ∧ l.length = ks.length
  | [], [], l, h => by cases h; exact ⟨rfl, rfl⟩
  | k :: ks, x :: xs, l, h => by
    simp only [flatL] at h
    split at h
    · rename_i a l' ha hl
      cases h
      obtain ⟨h1, h2⟩ := flatL_ok s hl
      exact ⟨by rw [SV.dens, h1, scX_ok s ha]; rfl, by simp [h2]⟩
    · cases h
  | [], _ :: _, l, h => by cases h
  | _ :: _, [], l, h => by cases h
theorem flat1_ok (s : Sig) {h : Sh} {x : SV} {l : List X} (hh : flat1 h x = some l) : x.den s = .v (val1 h (l.map (X.den s))) ∧ l.length = h.kinds.length := by
  unfold flat1 at hh
  split at hh
  · split at hh
    · rename_i a ha
      cases hh
      exact ⟨scX_ok s ha, rfl⟩
    · cases hh
  · obtain ⟨h1, h2⟩ := flatL_ok s hh
    exact ⟨by simp only [SV.den, h1, mkAgg_v]; rfl, h2⟩
  · obtain ⟨h1, h2⟩ := flatL_ok s hh
    rw [dens_ofV] at h1
    refine ⟨?_, h2⟩
    simp only [SV.den, val1]
    rename_i l0 cs
    have : cs.toList = valXs l0 (l.map (X.den s)) := by
      have := congrArg allV h1
      rw [allV_v, allV_v] at this
      exact Option.some.inj this
    rw [← this]
  · cases hh
theorem valXs_append : ∀ (ks : List VK) (p q : List Int), p.length = ks.length → valXs ks (p ++ q) = valXs ks p
  | [], [], q, _ => by cases q <;> rfl
  | k :: ks, n :: p, q, h => by rw [List.cons_append, valXs, valXs, valXs_append ks p q (by simpa using h)]
  | [], _ :: _, _, h => by simp at h
  | _ :: _, [], _, h => by simp at h
theorem val1_append (h : Sh) (p q : List Int) (hl : p.length = h.kinds.length) : val1 h (p ++ q) = val1 h p := by
  cases h with
  | sc k =>
    cases p with
    | nil => simp [Sh.kinds] at hl
    | cons n p => rfl
  | agg l => simp only [val1]; rw [valXs_append l p q hl]
theorem flats_ok (s : Sig) : ∀ {hs : List Sh} {xs : List SV} {l : List X}, flats hs xs = some l → SV.dens s xs = (valsS hs (l.map (X.den s))).map .v ∧ l.length = (kindsOf hs).length
  | [], [], l, h => by cases h; exact ⟨rfl, rfl⟩
  | h :: hs, x :: xs, l, hh => by
    simp only [flats] at hh
    split at hh
    · rename_i a l' ha hl
      cases hh
      obtain ⟨h1, h2⟩ := flats_ok s hl
      obtain ⟨h3, h4⟩ := flat1_ok s ha
      refine ⟨?_, by simp [kindsOf, h4] at h2 ⊢; omega⟩
      rw [SV.dens, h1, h3, valsS, List.map_append, val1_append _ _ _ (by simpa using h4), List.map_cons]
      rw [show (List.map (X.den s) a ++ List.map (X.den s) l').drop h.kinds.length = List.map (X.den s) l' by rw [List.drop_append_of_le_length (by simp [h4])]; rw [List.drop_of_length_le (by simp [h4])]; rfl]
    · cases hh
  | [], _ :: _, l, h => by cases h
  | _ :: _, [], l, h => by cases h
theorem unX_ok {k : VK} {x : X} {n : Int} {s : Sig} (h : x.den s = k.norm n) : (unX k x).den s = .v (valX k n) := by
  cases k with
  | int k => simp only [unX, SV.den, h, VK.norm, valX]
  | bool => simp only [unX, SV.den, h, VK.norm, valX, b2i_ne]
  | bit => simp only [unX, SV.den, h, VK.norm, valX]
theorem unXs_ok {s : Sig} : ∀ {ks : List VK} {xs : List X} {ns : List Int}, xs.map (X.den s) = normL ks ns → xs.length = ks.length → SV.dens s (unXs ks xs) = (valXs ks ns).map .v
  | [], xs, ns, _, _ => by cases xs <;> rfl
  | k :: ks, [], ns, _, hl => by simp at hl
  | k :: ks, x :: xs, [], h, _ => by simp [normL] at h
  | k :: ks, x :: xs, n :: ns, h, hl => by
    simp only [List.map_cons, normL, List.cons.injEq] at h
    rw [unXs, SV.dens, unXs_ok h.2 (by simpa using hl), unX_ok h.1]; rfl
theorem normL_take : ∀ (ks js : List VK) (ns : List Int), (normL (ks ++ js) ns).take ks.length = normL ks ns
  | [], js, ns => rfl
  | k :: ks, js, [] => rfl
  | k :: ks, js, n :: ns => by rw [List.cons_append, normL, List.length_cons, List.take_succ_cons, normL_take ks js ns, normL]
theorem normL_drop : ∀ (ks js : List VK) (ns : List Int), (normL (ks ++ js) ns).drop ks.length = normL js (ns.drop ks.length)
  | [], js, ns => rfl
  | k :: ks, js, [] => by cases js <;> simp [normL]
  | k :: ks, js, n :: ns => by rw [List.cons_append, normL, List.length_cons, List.drop_succ_cons, normL_drop ks js ns, List.drop_succ_cons]
theorem unXs_take : ∀ (ks : List VK) (xs : List X), unXs ks (xs.take ks.length) = unXs ks xs
  | [], xs => by cases xs <;> rfl
  | k :: ks, [] => rfl
  | k :: ks, x :: xs => by rw [List.length_cons, List.take_succ_cons, unXs, unXs_take ks xs, unXs]
theorem un1_ok {s : Sig} {h : Sh} {js : List VK} {xs : List X} {ns : List Int} (hx : xs.map (X.den s) = normL (h.kinds ++ js) ns) (hl : xs.length = (h.kinds ++ js).length) : (un1 h xs).den s = .v (val1 h ns) := by
  cases h with
  | sc k =>
    cases xs with
    | nil => simp [Sh.kinds] at hl
    | cons x xs =>
      cases ns with
      | nil => simp [Sh.kinds, normL] at hx
      | cons n ns =>
        simp only [Sh.kinds, List.cons_append, List.nil_append, normL, List.map_cons, List.cons.injEq] at hx
        exact unX_ok hx.1
  | agg l =>
    simp only [un1, SV.den, val1]
    have h1 : (xs.take l.length).map (X.den s) = normL l ns := by
      rw [List.map_take, hx]; exact normL_take l js ns
    rw [← unXs_take l xs, unXs_ok h1 (by simp [Sh.kinds] at hl ⊢; omega), mkAgg_v]
theorem uns_ok {s : Sig} : ∀ {hs : List Sh} {xs : List X} {ns : List Int}, xs.map (X.den s) = normL (kindsOf hs) ns → xs.length = (kindsOf hs).length → SV.dens s (uns hs xs) = (valsS hs ns).map .v
  | [], xs, ns, _, _ => rfl
  | h :: hs, xs, ns, hx, hl => by
    have hk : kindsOf (h :: hs) = h.kinds ++ kindsOf hs := by simp [kindsOf]
    rw [hk] at hx hl
    rw [uns, SV.dens, un1_ok hx hl, uns_ok (hs := hs) (ns := ns.drop h.kinds.length) (by rw [List.map_drop, hx, normL_drop]) (by simp at hl ⊢; omega)]
    rfl
theorem varsAt_den (s : Sig) : ∀ (ks : List VK) (b : Nat), (varsAt b ks).map (X.den s) = normL ks (sigL s b ks.length) ∧ (varsAt b ks).length = ks.length
  | [], b => ⟨rfl, rfl⟩
  | k :: ks, b => by
    obtain ⟨h1, h2⟩ := varsAt_den s ks (b + 1)
    refine ⟨?_, by simp [varsAt, h2]⟩
    rw [varsAt, List.map_cons, h1]; rfl
theorem normC_eq (k : VK) (n : Int) : normC k n = k.norm n := by
  cases k with
  | int k => exact wrapC_eq k n
  | bool => simp only [normC, VK.norm, iNz_eq]
  | bit => simp only [normC, VK.norm, iNz_eq]
def litsP : List VK → List Int → List X
  | k :: ks, n :: ns => .lit (normC k n) :: litsP ks ns
  | _, _ => []
theorem litsAt_eq {β : Sort _} : ∀ (ks : List VK) (ns : List Int) (K : List X → β), litsAt ks ns K = K (litsP ks ns)
  | [], ns, K => by cases ns <;> rfl
  | k :: ks, [], K => rfl
  | k :: ks, n :: ns, K => by rw [litsAt, forceInt_eq, litsAt_eq ks ns]; rfl
theorem litsP_den (s : Sig) : ∀ (ks : List VK) (ns : List Int), (litsP ks ns).map (X.den s) = normL ks ns
  | [], ns => by cases ns <;> rfl
  | k :: ks, [] => rfl
  | k :: ks, n :: ns => by rw [litsP, List.map_cons, litsP_den s ks ns, normL, X.den, normC_eq]
theorem litsP_len : ∀ (ks : List VK) (ns : List Int), ns.length = ks.length → (litsP ks ns).length = ks.length
  | [], ns, _ => by cases ns <;> rfl
  | k :: ks, [], h => by simp at h
  | k :: ks, n :: ns, h => by rw [litsP]; simp [litsP_len ks ns (by simpa using h)]
theorem allLit_den (s : Sig) : ∀ {xs : List X} {ns : List Int}, allLit xs = some ns → xs.map (X.den s) = ns
  | [], ns, h => by cases h; rfl
  | .lit n :: l, ns, h => by
    simp only [allLit] at h
    split at h
    · rename_i r hr; cases h; rw [List.map_cons, allLit_den s hr]; rfl
    · cases h
  | .var _ _ :: _, _, h => by cases h
  | .bin _ _ _ _ :: _, _, h => by cases h
  | .conv _ _ :: _, _, h => by cases h
  | .com _ _ :: _, _, h => by cases h
  | .not _ :: _, _, h => by cases h
  | .and _ _ :: _, _, h => by cases h
  | .beq _ _ :: _, _, h => by cases h
  | .min _ _ :: _, _, h => by cases h
  | .max _ _ :: _, _, h => by cases h
  | .ite _ _ _ :: _, _, h => by cases h
theorem resS_den {s : Sig} {l : List SV} {vs : List Value} (h : SV.dens s l = vs.map .v) : (resS l).den s = .v (resVal vs) := by
  match l, vs, h with
  | [], [], _ => simp only [resS, SV.den, SV.dens, resVal]; exact mkTup_v []
  | [x], [v], h => simpa [SV.dens, resS, resVal] using h
  | x :: y :: l, v :: u :: vs, h =>
    simp only [resS, SV.den, h, mkTup_v, resVal]
  | [], v :: vs, h => simp [SV.dens] at h
  | x :: l, [], h => simp [SV.dens] at h
  | [x], v :: u :: vs, h => simp [SV.dens] at h
  | x :: y :: l, [v], h => simp [SV.dens] at h
theorem resV_dens (s : Sig) (l : List SV) : resV (SV.dens s l) = (resS l).den s := by
  match l with
  | [] => rfl
  | [x] => rfl
  | x :: y :: l => rfl
/-! ### merged ways -/
mutual
theorem mergeV_den (s : Sig) (c : X) : ∀ {a b r : SV}, mergeV c a b = some r → r.den s = if c.den s = 0 then b.den s else a.den s
  | .int k a, .int k' b, r, h => by
    simp only [mergeV] at h
    split at h
    · rename_i hk
      cases h
      have := kEq_eq hk; subst this
      simp only [SV.den, mkIte_den]; split <;> rfl
    · cases h
  | .bool a, .bool b, r, h => by
    simp only [mergeV] at h
    cases h
    simp only [SV.den, mkIte_den]; split <;> rfl
  | .agg l, .agg m, r, h => by
    simp only [mergeV] at h
    split at h
    · rename_i q hq
      cases h
      have := mergeVs_den s c hq
      simp only [SV.den, this]; split <;> rfl
    · cases h
  | .tup l, .tup m, r, h => by
    simp only [mergeV] at h
    split at h
    · rename_i q hq
      cases h
      have := mergeVs_den s c hq
      simp only [SV.den, this]; split <;> rfl
    · cases h
  | .v _, _, _, h => by simp [mergeV] at h
  | .loc _ _, _, _, h => by simp [mergeV] at h
  | .sl _ _ _ _, _, _, h => by simp [mergeV] at h
  | .fn _ _ _, _, _, h => by simp [mergeV] at h
  | .int _ _, .v _, _, h => by simp [mergeV] at h
  | .int _ _, .bool _, _, h => by simp [mergeV] at h
  | .int _ _, .loc _ _, _, h => by simp [mergeV] at h
  | .int _ _, .sl _ _ _ _, _, h => by simp [mergeV] at h
  | .int _ _, .fn _ _ _, _, h => by simp [mergeV] at h
  | .int _ _, .tup _, _, h => by simp [mergeV] at h
  | .int _ _, .agg _, _, h => by simp [mergeV] at h
  | .bool _, .v _, _, h => by simp [mergeV] at h
  | .bool _, .int _ _, _, h => by simp [mergeV] at h
  | .bool _, .loc _ _, _, h => by simp [mergeV] at h
  | .bool _, .sl _ _ _ _, _, h => by simp [mergeV] at h
  | .bool _, .fn _ _ _, _, h => by simp [mergeV] at h
  | .bool _, .tup _, _, h => by simp [mergeV] at h
  | .bool _, .agg _, _, h => by simp [mergeV] at h
  | .agg _, .v _, _, h => by simp [mergeV] at h
  | .agg _, .int _ _, _, h => by simp [mergeV] at h
  | .agg _, .bool _, _, h => by simp [mergeV] at h
  | .agg _, .loc _ _, _, h => by simp [mergeV] at h
  | .agg _, .sl _ _ _ _, _, h => by simp [mergeV] at h
  | .agg _, .fn _ _ _, _, h => by simp [mergeV] at h
  | .agg _, .tup _, _, h => by simp [mergeV] at h
  | .tup _, .v _, _, h => by simp [mergeV] at h
  | .tup _, .int _ _, _, h => by simp [mergeV] at h
  | .tup _, .bool _, _, h => by simp [mergeV] at h
  | .tup _, .loc _ _, _, h => by simp [mergeV] at h
  | .tup _, .sl _ _ _ _, _, h => by simp [mergeV] at h
  | .tup _, .fn _ _ _, _, h => by simp [mergeV] at h
  | .tup _, .agg _, _, h => by simp [mergeV] at h
theorem mergeVs_den (s : Sig) (c : X) : ∀ {a b r : List SV}, mergeVs c a b = some r → SV.dens s r = if c.den s = 0 then SV.dens s b else SV.dens s a
  | [], [], r, h => by simp only [mergeVs] at h; cases h; split <;> rfl
  | x :: l, y :: m, r, h => by
    simp only [mergeVs] at h
    split at h
    · rename_i q qs h1 h2
      cases h
      have e1 := mergeV_den s c h1
      have e2 := mergeVs_den s c h2
      simp only [SV.dens, e1, e2]; split <;> rfl
    · cases h
  | [], _ :: _, _, h => by simp [mergeVs] at h
  | _ :: _, [], _, h => by simp [mergeVs] at h
end
theorem eqL_eq : ∀ {a b : List Nat}, eqL a b = true → a = b
  | [], [], _ => rfl
  | x :: l, y :: m, h => by
    simp only [eqL] at h
    split at h
    · rename_i hb; rw [beq_iff.1 hb, eqL_eq h]
    · cases h
  | [], _ :: _, h => by simp [eqL] at h
  | _ :: _, [], h => by simp [eqL] at h
theorem mergeT_ok {Φ : Phi} {s : Sig} {tc : List Nat} {nv : Nat} : ∀ {t : Tr' CR} {x : X} {o : Option SV}, mergeT tc nv t = some (x, o) → x.den s ≠ 0 → ∃ r, t.path Φ s = some r ∧ r.tc = tc ∧ r.ef = [] ∧ ∃ z, o = some z ∧ z.den s = r.r.den s
  | .leaf r, x, o, h, hx => by
    simp only [mergeT] at h
    split at h
    · rename_i he
      split at h
      · rename_i h1 h2
        cases h
        exact ⟨r, rfl, eqL_eq h1, he, _, rfl, rfl⟩
      · cases h
    · cases h
  | .stuck w, x, o, h, hx => by simp only [mergeT, Option.some.injEq, Prod.mk.injEq] at h; rw [← h.1] at hx; exact absurd rfl hx
  | .call _ _ _ _ _, x, o, h, hx => by simp [mergeT] at h
  | .ite c a b, x, o, h, hx => by
    simp only [mergeT] at h
    split at h
    · rename_i y1 y2 q h1 h2
      cases h
      rw [mkIte_den] at hx
      by_cases hc : c.den s = 0
      · rw [if_pos hc] at hx
        obtain ⟨r, hr, h3⟩ := mergeT_ok (Φ := Φ) h2 hx
        exact ⟨r, by simp only [Tr'.path, if_pos hc]; exact hr, h3⟩
      · rw [if_neg hc] at hx
        obtain ⟨r, hr, _, _, z, hz, _⟩ := mergeT_ok (Φ := Φ) h1 hx
        cases hz
    · rename_i y1 q y2 hno h1 h2
      cases h
      rw [mkIte_den] at hx
      by_cases hc : c.den s = 0
      · rw [if_pos hc] at hx
        obtain ⟨r, hr, _, _, z, hz, _⟩ := mergeT_ok (Φ := Φ) h2 hx
        cases hz
      · rw [if_neg hc] at hx
        obtain ⟨r, hr, h3⟩ := mergeT_ok (Φ := Φ) h1 hx
        exact ⟨r, by simp only [Tr'.path, if_neg hc]; exact hr, h3⟩
    · rename_i y1 q1 y2 q2 h1 h2
      split at h
      · rename_i z hz
        cases h
        have hzd := mergeV_den s c hz
        rw [mkIte_den] at hx
        by_cases hc : c.den s = 0
        · rw [if_pos hc] at hx hzd
          obtain ⟨r, hr, h3, h4, u, hu, h5⟩ := mergeT_ok (Φ := Φ) h2 hx
          cases hu
          exact ⟨r, by simp only [Tr'.path, if_pos hc]; exact hr, h3, h4, _, rfl, hzd.trans h5⟩
        · rw [if_neg hc] at hx hzd
          obtain ⟨r, hr, h3, h4, u, hu, h5⟩ := mergeT_ok (Φ := Φ) h1 hx
          cases hu
          exact ⟨r, by simp only [Tr'.path, if_neg hc]; exact hr, h3, h4, _, rfl, hzd.trans h5⟩
      · cases h
    · cases h
theorem mergeC_ok {Φ : Phi} {s : Sig} {tc : List Nat} {nv : Nat} {fc : Facts} {t : Tr' CR} {r' : CR} (hf : FOK s fc) (h : (mergeC tc nv fc t).path Φ s = some r') : ∃ r, t.path Φ s = some r ∧ r.r.den s = r'.r.den s ∧ r.tc = r'.tc ∧ r.ef = r'.ef ∧ (FOK s r.fc → FOK s r'.fc) := by
  unfold mergeC at h
  split at h
  · rename_i c a b
    split at h
    · rename_i x z hm
      rw [iteT_path] at h
      split at h
      · cases h
      · rename_i hx
        cases h
        obtain ⟨r, h1, h2, h3, u, hu, h4⟩ := mergeT_ok (Φ := Φ) hm hx
        cases hu
        exact ⟨r, h1, h4.symm, h2, h3, fun _ => hf⟩
    · exact ⟨r', h, rfl, rfl, rfl, id⟩
  · exact ⟨r', h, rfl, rfl, rfl, id⟩
end Go.Proofs.YtikjbocagnolmaaDoor
