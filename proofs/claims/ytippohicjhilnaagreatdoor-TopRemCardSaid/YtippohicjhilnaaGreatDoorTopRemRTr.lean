import Derived.Test.YtippohicjhilnaaGreatDoorTopRemLTr
import Derived.Test.YtippohicjhilnaaGreatDoorTopRemF1Tr
import Derived.Test.YtippohicjhilnaaGreatDoorTopRemF2Tr
import Derived.Test.YtippohicjhilnaaGreatDoorTopRemF3Tr
import Derived.Test.YtippohicjhilnaaGreatDoorTopRemF4Tr
set_option linter.unusedSimpArgs false
set_option linter.unusedVariables false
set_option maxRecDepth 100000
open Go.Proofs.Tryz
namespace Go.Proofs.YtippohicjhilnaaGreatDoor
open Go.ChangeShapes Go.WideShapes Go.ChangeAt Go.WideMaps Go.WideElems Go.RowKit
theorem aAu:joinedFacts Tryz.pinned.checked.prog 4 Tryz.f4 Rows.topRemSpec Rows.topRemRow=true:=by
 unfold joinedFacts;rw[aAq,aAr,aAs,aAt]
 kernel_rfl
theorem aAv:Rows.TopRemSaid :=
 OpenClaim.holds_of_wide (p:=Tryz.pinned) (s:=Rows.topRemSpec) (c:=Rows.topRemRow) 4 Tryz.f4 rfl rfl rfl rfl rfl rfl rfl ⟨rfl,rfl,rfl,rfl,rfl⟩ rfl rfl rfl rfl rfl (by kernel_rfl) func4 aAu
  (of_decide_eq_true (by kernel_rfl)) (by unfold Func.isWrapper;first|(rw[if_pos (by decide +kernel)];kernel_rfl)|(rw[if_neg (by decide +kernel)];exact⟨rfl,rfl⟩))
  (λos started H enc _=>aAp os started H enc)
end Go.Proofs.YtippohicjhilnaaGreatDoor
