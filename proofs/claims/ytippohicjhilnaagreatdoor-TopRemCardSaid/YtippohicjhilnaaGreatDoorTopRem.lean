import Derived.Test.YtippohicjhilnaaGreatDoorTopRemRTr
import Derived.Test.YtippohicjhilnaaGreatDoorTopRemF5Tr
import Derived.Test.YtippohicjhilnaaGreatDoorTopRemF6Tr
set_option linter.unusedSimpArgs false
set_option linter.unusedVariables false
/- Proved here: top.TopRem returns true for every input,and leaves what it was handed as it was;the package variables that it reads are tied to the program's text (the card;one of them,utf8.first,by a pinned table of the form). Conditions: none but the row's own. -/
open Go.Proofs.Tryz
namespace Go.Proofs.YtippohicjhilnaaGreatDoor
open Go.ChangeShapes Go.WideShapes Go.ChangeAt Go.WideMaps Go.WideElems Go.RowKit

theorem topRem_card:Rows.TopRemCardSaid :=
  Claim7.holds_tied_plain_at .later [] azF true (true, "4d2cee7ab8a0f4b4b898be12d138ac8c53082e4908f4962841a422ec1b7d8cf1") true
    aAv (λ_ h=>by cases h) (by kernel_rfl) (λ_ h=>by cases h) topRem_row_tie rfl ⟨rfl,rfl⟩ (by kernel_rfl) rfl
    (λf fn hf hfn=>by
      obtain rfl:f=4:=Option.some.inj ((show prog.funcNamed "hairsbreadth/hairsbreadthtop.TopRem" = some 4 by kernel_rfl).symm.trans hf) |>.symm
      obtain rfl:fn=Tryz.f4:=(Option.some.inj (func4.symm.trans hfn)).symm
      exact⟨aAw,λj t ht=>by
        rw[params4] at ht;have hm:t∈([22,25,25]:List TypeId):=by simpa using Array.mem_of_getElem? ht
        have hall:(([22,25,25]:List TypeId).all λu => !prog.wantsStandIn u)=true:=by kernel_rfl
        exact(show prog.wantsStandIn t=false by simpa using List.all_eq_true.1 hall t hm)⟩)
    aAx
end Go.Proofs.YtippohicjhilnaaGreatDoor
