import Derived.Test.YtippohicjhilnaaGreatDoorTopNearestLTn
import Derived.Test.YtippohicjhilnaaGreatDoorTopNearestF1Tn
import Derived.Test.YtippohicjhilnaaGreatDoorTopNearestF2Tn
import Derived.Test.YtippohicjhilnaaGreatDoorTopNearestF3Tn
import Derived.Test.YtippohicjhilnaaGreatDoorTopNearestF4Tn
set_option linter.unusedSimpArgs false
set_option linter.unusedVariables false
set_option maxRecDepth 100000
open Go.Proofs.Tryz
namespace Go.Proofs.YtippohicjhilnaaGreatDoor
open Go.ChangeShapes Go.WideShapes Go.ChangeAt Go.WideMaps Go.WideElems Go.RowKit
theorem aCi:joinedFacts Tryz.pinned.checked.prog 3 Tryz.f3 Rows.topNearestSpec Rows.topNearestRow=true:=by
 unfold joinedFacts;rw[aCe,aCf,aCg,aCh]
 kernel_rfl
theorem aCj:Rows.TopNearestSaid :=
 OpenClaim.holds_of_wide (p:=Tryz.pinned) (s:=Rows.topNearestSpec) (c:=Rows.topNearestRow) 3 Tryz.f3 rfl rfl rfl rfl rfl rfl rfl ⟨rfl,rfl,rfl,rfl,rfl⟩ rfl rfl rfl rfl rfl (by kernel_rfl) func3 aCi
  (of_decide_eq_true (by kernel_rfl)) (by unfold Func.isWrapper;first|(rw[if_pos (by decide +kernel)];kernel_rfl)|(rw[if_neg (by decide +kernel)];exact⟨rfl,rfl⟩))
  (λos started H enc _=>aCd os started H enc)
end Go.Proofs.YtippohicjhilnaaGreatDoor
