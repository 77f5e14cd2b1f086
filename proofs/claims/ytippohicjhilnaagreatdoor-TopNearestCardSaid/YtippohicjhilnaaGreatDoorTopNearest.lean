import Derived.Test.YtippohicjhilnaaGreatDoorTopNearestRTn
import Derived.Test.YtippohicjhilnaaGreatDoorTopNearestF5Tn
import Derived.Test.YtippohicjhilnaaGreatDoorTopNearestF6Tn
set_option linter.unusedSimpArgs false
set_option linter.unusedVariables false
/- Proved here: top.TopNearest returns true for every input,and leaves what it was handed as it was;the package variables that it reads are tied to the program's text (the card;one of them,utf8.first,by a pinned table of the form). Conditions: none but the row's own. -/
open Go.Proofs.Tryz
namespace Go.Proofs.YtippohicjhilnaaGreatDoor
open Go.ChangeShapes Go.WideShapes Go.ChangeAt Go.WideMaps Go.WideElems Go.RowKit

theorem topNearest_card:Rows.TopNearestCardSaid :=
  Claim7.holds_tied_plain_at .later [] aBQ true (true, "4d2cee7ab8a0f4b4b898be12d138ac8c53082e4908f4962841a422ec1b7d8cf1") true
    aCj (λ_ h=>by cases h) (by kernel_rfl) (λ_ h=>by cases h) topNearest_row_tie rfl ⟨rfl,rfl⟩ (by kernel_rfl) rfl
    (λf fn hf hfn=>by
      obtain rfl:f=3:=Option.some.inj ((show prog.funcNamed "hairsbreadth/hairsbreadthtop.TopNearest" = some 3 by kernel_rfl).symm.trans hf) |>.symm
      obtain rfl:fn=Tryz.f3:=(Option.some.inj (func3.symm.trans hfn)).symm
      exact⟨aCk,λj t ht=>by
        rw[params3] at ht;have hm:t∈([5,22,4,25,25,25,25]:List TypeId):=by simpa using Array.mem_of_getElem? ht
        have hall:(([5,22,4,25,25,25,25]:List TypeId).all λu => !prog.wantsStandIn u)=true:=by kernel_rfl
        exact(show prog.wantsStandIn t=false by simpa using List.all_eq_true.1 hall t hm)⟩)
    aCl
end Go.Proofs.YtippohicjhilnaaGreatDoor
