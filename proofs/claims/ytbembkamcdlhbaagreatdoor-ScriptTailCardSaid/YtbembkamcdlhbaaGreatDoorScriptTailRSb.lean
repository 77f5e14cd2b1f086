import Derived.Test.YtbembkamcdlhbaaGreatDoorScriptTailLSb
import Derived.Test.YtbembkamcdlhbaaGreatDoorScriptTailF1Sb
import Derived.Test.YtbembkamcdlhbaaGreatDoorScriptTailF2Sb
import Derived.Test.YtbembkamcdlhbaaGreatDoorScriptTailF3Sb
import Derived.Test.YtbembkamcdlhbaaGreatDoorScriptTailF4Sb
set_option linter.unusedSimpArgs false
set_option linter.unusedVariables false
set_option maxRecDepth 100000
namespace Go.Proofs.YtbembkamcdlhbaaGreatDoor
open Go.ChangeShapes Go.WideShapes Go.ChangeAt Go.WideMaps Go.WideElems Go.RowKit
theorem amz:joinedFacts Tryz.pinned.checked.prog 8 Tryz.f8 Rows.scriptTailSpec Rows.scriptTailRow=true:=by
 unfold joinedFacts
 rw[amv,amw,amx,amy]
 kernel_rfl
theorem amA:Rows.ScriptTailSaid :=
 OpenClaim.holds_of_wide (p:=Tryz.pinned) (s:=Rows.scriptTailSpec) (c:=Rows.scriptTailRow) 8 Tryz.f8 rfl rfl rfl rfl rfl rfl rfl ⟨rfl,rfl,rfl,rfl,rfl⟩ rfl rfl rfl rfl rfl (by kernel_rfl) Tryz.func8 amz
  (of_decide_eq_true (by kernel_rfl)) (by unfold Func.isWrapper;first|(rw[if_pos (by decide +kernel)];kernel_rfl)|(rw[if_neg (by decide +kernel)];exact⟨rfl,rfl⟩))
  (fun os started H enc _=>amu os started H enc)
end Go.Proofs.YtbembkamcdlhbaaGreatDoor
