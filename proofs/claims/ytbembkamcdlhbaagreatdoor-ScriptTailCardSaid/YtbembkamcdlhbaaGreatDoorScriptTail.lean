import Derived.Test.YtbembkamcdlhbaaGreatDoorScriptTailRSb
import Derived.Test.YtbembkamcdlhbaaGreatDoorScriptTailF5Sb
import Derived.Test.YtbembkamcdlhbaaGreatDoorScriptTailF6Sb
set_option linter.unusedSimpArgs false
set_option linter.unusedVariables false
/- Proved here: law30.ScriptTail returns true for every input,and leaves what it was handed as it was;the package variables that it reads are tied to the program's text (the card;one of them,utf8.first,by a pinned table of the form). Conditions: none but the row's own. -/
namespace Go.Proofs.YtbembkamcdlhbaaGreatDoor
open Go.ChangeShapes Go.WideShapes Go.ChangeAt Go.WideMaps Go.WideElems Go.RowKit

theorem scriptTail_card:Rows.ScriptTailCardSaid :=
  Claim7.holds_tied_plain_at .later [] alY true (true, "36cf923a36fec8ea6ea9b802b65ab8cfe1b0a00038de914b97856a614ccbdbbe") true
    amA (fun _ h=>by cases h) (by kernel_rfl) (fun _ h=>by cases h) scriptTail_row_tie rfl ⟨rfl,rfl⟩ (by kernel_rfl) rfl
    (fun f fn hf hfn=>by
      obtain rfl:f=8:=Option.some.inj ((show Tryz.prog.funcNamed "hairsbreadth/hairsbreadthlaw30.ScriptTail" = some 8 by kernel_rfl).symm.trans hf) |>.symm
      obtain rfl:fn=Tryz.f8:=(Option.some.inj (Tryz.func8.symm.trans hfn)).symm
      exact⟨amB,fun j t ht=>by
        rw[Tryz.params8] at ht
        have hm:t∈([9,9]:List TypeId):=by simpa using Array.mem_of_getElem? ht
        have hall:(([9,9]:List TypeId).all fun u => !Tryz.prog.wantsStandIn u)=true:=by kernel_rfl
        exact(show Tryz.prog.wantsStandIn t=false by simpa using List.all_eq_true.1 hall t hm)⟩)
    amC
end Go.Proofs.YtbembkamcdlhbaaGreatDoor
