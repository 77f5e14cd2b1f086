import Derived.Test.YtemomocmfggiaaaGreatDoorTT1U5
namespace Go.Proofs.YtemomocmfggiaaaGreatDoor
set_option linter.unusedVariables false
set_option maxRecDepth 100000
open Go.RowKit
def eqXl : List X → List X → Bool
 | [], [] => true
 | x :: xs, y :: ys => andB (eqX x y) (eqXl xs ys)
 | _, _ => false
theorem eqXl_eq : ∀ {a b : List X}, eqXl a b = true → a = b
 | [], [], _ => rfl
 | x :: xs, y :: ys, h => by have h := andB_eq h; rw [eqX_eq h.1, eqXl_eq h.2]
 | [], _ :: _, h => by cases h
 | _ :: _, [], h => by cases h
def allLv (ct : Ct) (p : List X → Bool) : Tr' SV → Bool
 | .leaf a => match flats ct.r (unres ct.r a) with | some xs => p xs | none => false
 | .ite _ a b => andB (allLv ct p a) (allLv ct p b)
 | .call _ _ _ _ t => allLv ct p t
 | .stuck _ => true
def twinT (ct cu : Ct) (p : List X → Bool) (q : List X) : Tr' SV → Tr' SV → Bool
 | .leaf a, u => match flats ct.r (unres ct.r a) with
  | some [.lit n] => match iEq n 0 with
   | true => allLv cu p u
   | false => match iEq n 1 with
    | true => match u with | .leaf b => (match flats cu.r (unres cu.r b) with | some xs => eqXl xs q | none => false) | _ => false
    | false => false
  | _ => false
 | .ite c a b, .ite c' a' b' => andB (eqX c c') (andB (twinT ct cu p q a a') (twinT ct cu p q b b'))
 | .call f args _ n t, .call f' args' _ n' t' => andB (Nat.beq f f') (andB (eqXl args args') (andB (Nat.beq n n') (twinT ct cu p q t t')))
 | _, _ => false
theorem allLv_eval {Φ : Phi} {ct : Ct} {p : List X → Bool} : ∀ {t : Tr' SV} {l : List Int} {a : SV} {l' : List Int}, allLv ct p t = true → evalL Φ t l = some (a, l') → ∃ xs, flats ct.r (unres ct.r a) = some xs ∧ p xs = true
 | .leaf a, l, a', l', h, he => by
  cases he
  simp only [allLv] at h
  split at h
  ·rename_i xs hx; exact ⟨xs, hx, h⟩
  ·cases h
 | .ite c a b, l, a', l', h, he => by
  have h := andB_eq h
  simp only [evalL] at he
  split at he
  ·exact allLv_eval h.1 he
  ·exact allLv_eval h.2 he
 | .call f args m n t, l, a', l', h, he => by
  simp only [evalL, evs_eq] at he
  split at he
  ·exact allLv_eval (t := t) h he
  ·cases he
 | .stuck _, l, a', l', h, he => by cases he
theorem twinT_eval {Φ : Phi} {ct cu : Ct} {p : List X → Bool} {q : List X} : ∀ {t u : Tr' SV} {l : List Int} {b : SV} {m : List Int}, twinT ct cu p q t u = true → evalL Φ u l = some (b, m) →
  ∃ a l', evalL Φ t l = some (a, l') ∧ ((flats ct.r (unres ct.r a) = some [.lit 0] ∧ ∃ xs, flats cu.r (unres cu.r b) = some xs ∧ p xs = true) ∨ (flats ct.r (unres ct.r a) = some [.lit 1] ∧ flats cu.r (unres cu.r b) = some q))
 | .leaf a, u, l, b, m, h, he => by
  refine ⟨a, l, rfl, ?_⟩
  simp only [twinT] at h
  split at h
  ·rename_i n hn
   split at h
   ·rename_i h0; rw [iEq_eq' h0] at hn; exact .inl ⟨hn, allLv_eval h he⟩
   ·split at h
    ·rename_i h1
     rw [iEq_eq' h1] at hn
     split at h
     ·cases he
      split at h
      ·rename_i xs hx; exact .inr ⟨hn, by rw [hx, eqXl_eq h]⟩
      ·cases h
     ·cases h
    ·cases h
  ·cases h
 | .ite c a b', .ite c' a' b'', l, b, m, h, he => by
  have h := andB_eq h; have h2 := andB_eq h.2
  rw [← eqX_eq h.1] at he
  simp only [evalL] at he ⊢
  split at he
  ·exact twinT_eval h2.1 he
  ·exact twinT_eval h2.2 he
 | .call f args i n t, .call f' args' i' n' t', l, b, m, h, he => by
  have h := andB_eq h; have h2 := andB_eq h.2; have h3 := andB_eq h2.2
  rw [← beq_iff.1 h.1, ← eqXl_eq h2.1, ← beq_iff.1 h3.1] at he
  simp only [evalL, evs_eq] at he ⊢
  split at he
  ·exact twinT_eval h3.2 he
  ·cases he
 | .ite _ _ _, .leaf _, _, _, _, h, _ => by cases h
 | .ite _ _ _, .call _ _ _ _ _, _, _, _, h, _ => by cases h
 | .ite _ _ _, .stuck _, _, _, _, h, _ => by cases h
 | .call _ _ _ _ _, .leaf _, _, _, _, h, _ => by cases h
 | .call _ _ _ _ _, .ite _ _ _, _, _, _, h, _ => by cases h
 | .call _ _ _ _ _, .stuck _, _, _, _, h, _ => by cases h
 | .stuck _, _, _, _, _, h, _ => by cases h
def hd0 : List X → Bool
 | .lit n :: _ => iEq n 0
 | _ => false
theorem twin_run : twinT c_table_Check c_table_Run hd0 [.lit 1, .lit 0, .lit 0, .lit 0] t_table_Check t_table_Run = true := by kernel_rfl
theorem run_check (l : List Int) (h : l.length = 11) : (F_table_Check l = [0] ∧ ∃ r, F_table_Run l = 0 :: r) ∨ (F_table_Check l = [1] ∧ F_table_Run l = [1, 0, 0, 0]) := by
 obtain ⟨b, m, ys, h1, h2⟩ : okF (phiA TB NZ ZZ) c_table_Run t_table_Run l := checkT_any sok_TB (by rw [h]; kernel_rfl)
 obtain ⟨a, l', h3, h4⟩ := twinT_eval twin_run h1
 unfold F_table_Check F_table_Run treeF
 simp only [h1, h3]
 rcases h4 with ⟨h5, xs, h6, h7⟩ | ⟨h5, h6⟩
 ·left
  simp only [h5, h6, evs_eq, id, List.map_cons, List.map_nil, X.den]
  refine ⟨trivial, ?_⟩
  match xs, h7 with
  | .lit n :: r, h7 => exact ⟨r.map (X.den (getI m)), by rw [iEq_eq' h7]; rfl⟩
 ·right
  simp only [h5, h6, evs_eq, id, List.map_cons, List.map_nil, X.den]
  exact ⟨trivial, trivial⟩
end Go.Proofs.YtemomocmfggiaaaGreatDoor
