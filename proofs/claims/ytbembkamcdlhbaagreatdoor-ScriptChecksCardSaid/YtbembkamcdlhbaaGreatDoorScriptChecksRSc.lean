import Derived.Test.YtbembkamcdlhbaaGreatDoorScriptChecksLSc
import Derived.Test.YtbembkamcdlhbaaGreatDoorScriptChecksF1Sc
import Derived.Test.YtbembkamcdlhbaaGreatDoorScriptChecksF2Sc
import Derived.Test.YtbembkamcdlhbaaGreatDoorScriptChecksF3Sc
import Derived.Test.YtbembkamcdlhbaaGreatDoorScriptChecksF4Sc
set_option linter.unusedSimpArgs false
set_option linter.unusedVariables false
set_option maxRecDepth 100000
namespace Go.Proofs.YtbembkamcdlhbaaGreatDoor
open Go.ChangeShapes Go.WideShapes Go.ChangeAt Go.WideMaps Go.WideElems Go.RowKit
theorem anx:joinedFacts Tryz.pinned.checked.prog 10 Tryz.f10 Rows.scriptChecksSpec Rows.scriptChecksRow=true:=by
 unfold joinedFacts
 rw[ant,anu,anv,anw]
 kernel_rfl
theorem anz:Rows.ScriptChecksSaid :=
 OpenClaim.holds_of_wide (p:=Tryz.pinned) (s:=Rows.scriptChecksSpec) (c:=Rows.scriptChecksRow) 10 Tryz.f10 rfl rfl rfl rfl rfl rfl rfl ⟨rfl,rfl,rfl,rfl,rfl⟩ rfl rfl rfl rfl rfl (by kernel_rfl) Tryz.func10 anx
  (of_decide_eq_true (by kernel_rfl)) (by unfold Func.isWrapper;first|(rw[if_pos (by decide +kernel)];kernel_rfl)|(rw[if_neg (by decide +kernel)];exact⟨rfl,rfl⟩))
  (fun os started H enc _=>anr os started H enc)
end Go.Proofs.YtbembkamcdlhbaaGreatDoor
