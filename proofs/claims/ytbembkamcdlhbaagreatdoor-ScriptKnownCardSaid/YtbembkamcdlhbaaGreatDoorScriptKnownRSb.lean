import Derived.Test.YtbembkamcdlhbaaGreatDoorScriptKnownLSb
import Derived.Test.YtbembkamcdlhbaaGreatDoorScriptKnownF1Sb
import Derived.Test.YtbembkamcdlhbaaGreatDoorScriptKnownF2Sb
import Derived.Test.YtbembkamcdlhbaaGreatDoorScriptKnownF3Sb
import Derived.Test.YtbembkamcdlhbaaGreatDoorScriptKnownF4Sb
set_option linter.unusedSimpArgs false
set_option linter.unusedVariables false
set_option maxRecDepth 100000
namespace Go.Proofs.YtbembkamcdlhbaaGreatDoor
open Go.ChangeShapes Go.WideShapes Go.ChangeAt Go.WideMaps Go.WideElems Go.RowKit
theorem am1:joinedFacts Tryz.pinned.checked.prog 11 Tryz.f11 Rows.scriptKnownSpec Rows.scriptKnownRow=true:=by
 unfold joinedFacts
 rw[amX,amY,amZ,am0]
 kernel_rfl
theorem am2:Rows.ScriptKnownSaid :=
 OpenClaim.holds_of_wide (p:=Tryz.pinned) (s:=Rows.scriptKnownSpec) (c:=Rows.scriptKnownRow) 11 Tryz.f11 rfl rfl rfl rfl rfl rfl rfl ⟨rfl,rfl,rfl,rfl,rfl⟩ rfl rfl rfl rfl rfl (by kernel_rfl) Tryz.func11 am1
  (of_decide_eq_true (by kernel_rfl)) (by unfold Func.isWrapper;first|(rw[if_pos (by decide +kernel)];kernel_rfl)|(rw[if_neg (by decide +kernel)];exact⟨rfl,rfl⟩))
  (fun os started H enc _=>amW os started H enc)
end Go.Proofs.YtbembkamcdlhbaaGreatDoor
