import Derived.Test.YtbembkamcdlhbaaGreatDoorScriptBlankLSb
import Derived.Test.YtbembkamcdlhbaaGreatDoorScriptBlankF1Sb
import Derived.Test.YtbembkamcdlhbaaGreatDoorScriptBlankF2Sb
import Derived.Test.YtbembkamcdlhbaaGreatDoorScriptBlankF3Sb
import Derived.Test.YtbembkamcdlhbaaGreatDoorScriptBlankF4Sb
set_option linter.unusedSimpArgs false
set_option linter.unusedVariables false
set_option maxRecDepth 100000
namespace Go.Proofs.YtbembkamcdlhbaaGreatDoor
open Go.ChangeShapes Go.WideShapes Go.ChangeAt Go.WideMaps Go.WideElems Go.RowKit
theorem alT:joinedFacts Tryz.pinned.checked.prog 9 Tryz.f9 Rows.scriptBlankSpec Rows.scriptBlankRow=true:=by
 unfold joinedFacts
 rw[alP,alQ,alR,alS]
 kernel_rfl
theorem alU:Rows.ScriptBlankSaid :=
 OpenClaim.holds_of_wide (p:=Tryz.pinned) (s:=Rows.scriptBlankSpec) (c:=Rows.scriptBlankRow) 9 Tryz.f9 rfl rfl rfl rfl rfl rfl rfl ⟨rfl,rfl,rfl,rfl,rfl⟩ rfl rfl rfl rfl rfl (by kernel_rfl) Tryz.func9 alT
  (of_decide_eq_true (by kernel_rfl)) (by unfold Func.isWrapper;first|(rw[if_pos (by decide +kernel)];kernel_rfl)|(rw[if_neg (by decide +kernel)];exact⟨rfl,rfl⟩))
  (fun os started H enc _=>alO os started H enc)
end Go.Proofs.YtbembkamcdlhbaaGreatDoor
