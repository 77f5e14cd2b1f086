import Derived.Test.YtbembkamcdlhbaaGreatDoorScriptKnownRSb
import Derived.Test.YtbembkamcdlhbaaGreatDoorScriptKnownF5Sb
import Derived.Test.YtbembkamcdlhbaaGreatDoorScriptKnownF6Sb
set_option linter.unusedSimpArgs false
set_option linter.unusedVariables false
/- Proved here: law30.ScriptKnown returns true for every input,and leaves what it was handed as it was;the package variables that it reads are tied to the program's text (the card;one of them,utf8.first,by a pinned table of the form). Conditions: none but the row's own. -/
namespace Go.Proofs.YtbembkamcdlhbaaGreatDoor
open Go.ChangeShapes Go.WideShapes Go.ChangeAt Go.WideMaps Go.WideElems Go.RowKit

theorem scriptKnown_card:Rows.ScriptKnownCardSaid :=
  Claim7.holds_tied_plain_at .later [] amb true (true, "36cf923a36fec8ea6ea9b802b65ab8cfe1b0a00038de914b97856a614ccbdbbe") true
    am2 (fun _ h=>by cases h) (by kernel_rfl) (fun _ h=>by cases h) scriptKnown_row_tie rfl ⟨rfl,rfl⟩ (by kernel_rfl) rfl
    (fun f fn hf hfn=>by
      obtain rfl:f=11:=Option.some.inj ((show Tryz.prog.funcNamed "hairsbreadth/hairsbreadthlaw30.ScriptKnown" = some 11 by kernel_rfl).symm.trans hf) |>.symm
      obtain rfl:fn=Tryz.f11:=(Option.some.inj (Tryz.func11.symm.trans hfn)).symm
      exact⟨am3,fun j t ht=>by
        rw[Tryz.params11] at ht
        simp at ht⟩)
    am4
end Go.Proofs.YtbembkamcdlhbaaGreatDoor
