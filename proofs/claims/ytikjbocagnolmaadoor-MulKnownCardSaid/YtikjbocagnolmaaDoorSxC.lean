/- Contexts out of tables of contracts. -/
import Derived.Test.YtikjbocagnolmaaDoorSxB
namespace Go.Proofs.YtikjbocagnolmaaDoor
set_option linter.unusedVariables false
open Go.RowKit
/-- what a table answers -/
def phiE (L : List Ent) : Phi := fun g l => match findE L g with | some e => e.F l | none => []
theorem phiE_hit {L : List Ent} {g : FuncId} {e : Ent} (h : findE L g = some e) : phiE L g = e.F := by funext l; unfold phiE; rw [h]
def ctE (L : List Ent) : FuncId → Option Ct := fun g => match findE L g with | some e => some e.ct | none => none
noncomputable def ctx (L : List Ent) : SCx := ⟨Tryd.prog, gG, seT, ctE L, phiE L⟩
theorem ctx_ok {L : List Ent} (h : ∀ e ∈ L, EntOK Tryd.prog gG e) : SOK (ctx L) eE := by
  refine ⟨seT_ok, eOK, cE_ok.mix, cE_ok.nm, fun g ct hct l hl => ?_⟩
  simp only [ctx, ctE, phiE] at hct ⊢
  cases hf : findE L g with
  | some e =>
    rw [hf] at hct
    simp only [Option.some.injEq] at hct; subst hct
    obtain ⟨h1, h2⟩ := findE_ok hf
    subst h2
    exact h e h1 l hl
  | none => rw [hf] at hct; cases hct
def E0 : List Ent := ents0
theorem E0_ok : ∀ e ∈ E0, EntOK Tryd.prog gG e := by
  intro e he
  simp only [E0, ents0, List.mem_cons, List.not_mem_nil, or_false] at he
  rcases he with rfl | he
  · exact ent_Add64
  rcases he with rfl | he
  · exact ent_Sub64
  rcases he with rfl | he
  · exact ent_Mul64
  rcases he with rfl | he
  · exact ent_WideAdd
  rcases he with rfl | he
  · exact ent_Next
  · subst he; exact ent_Len64
end Go.Proofs.YtikjbocagnolmaaDoor
