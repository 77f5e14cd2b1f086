import Derived.Test.YtbembkamcdlhbaaGreatDoorScriptChecksRSc
import Derived.Test.YtbembkamcdlhbaaGreatDoorScriptChecksF5Sc
import Derived.Test.YtbembkamcdlhbaaGreatDoorScriptChecksF6Sc
set_option linter.unusedSimpArgs false
set_option linter.unusedVariables false
/- Proved here: law30.ScriptChecks returns true for every input,and leaves what it was handed as it was;the package variables that it reads are tied to the program's text (the card;one of them,utf8.first,by a pinned table of the form). Conditions: none but the row's own. -/
namespace Go.Proofs.YtbembkamcdlhbaaGreatDoor
open Go.ChangeShapes Go.WideShapes Go.ChangeAt Go.WideMaps Go.WideElems Go.RowKit

theorem scriptChecks_card:Rows.ScriptChecksCardSaid :=
  Claim7.holds_tied_plain_at .later [] am8 true (true, "36cf923a36fec8ea6ea9b802b65ab8cfe1b0a00038de914b97856a614ccbdbbe") true
    anz (fun _ h=>by cases h) (by kernel_rfl) (fun _ h=>by cases h) scriptChecks_row_tie rfl ⟨rfl,rfl⟩ (by kernel_rfl) rfl
    (fun f fn hf hfn=>by
      obtain rfl:f=10:=Option.some.inj ((show Tryz.prog.funcNamed "hairsbreadth/hairsbreadthlaw30.ScriptChecks" = some 10 by kernel_rfl).symm.trans hf) |>.symm
      obtain rfl:fn=Tryz.f10:=(Option.some.inj (Tryz.func10.symm.trans hfn)).symm
      exact⟨anA,fun j t ht=>by
        rw[Tryz.params10] at ht
        have hm:t∈([9]:List TypeId):=by simpa using Array.mem_of_getElem? ht
        have hall:(([9]:List TypeId).all fun u => !Tryz.prog.wantsStandIn u)=true:=by kernel_rfl
        exact(show Tryz.prog.wantsStandIn t=false by simpa using List.all_eq_true.1 hall t hm)⟩)
    anB
end Go.Proofs.YtbembkamcdlhbaaGreatDoor
