import Derived.Test.YtbembkamcdlhbaaGreatDoorSL1Sb
set_option linter.unusedSimpArgs false
set_option linter.unusedVariables false
set_option maxRecDepth 100000
namespace Go.Proofs.YtbembkamcdlhbaaGreatDoor.Sp
open Go.RowKit Go.Shelf FlagM
attribute [local go_sem] Oper.semAt_some
theorem ug (s:ByteArray) (k:Nat) (h:k<s.size):(s.extract k (k+1)).data.toList = [s[k]]:=by
 have hl:k<s.data.toList.length:=by simpa using h
 rw[Sc.ext_eq,List.take_succ_eq_append_getElem hl,List.drop_append_of_le_length (by simp;omega),List.drop_of_length_le (by simp;omega)]
 rfl
end Go.Proofs.YtbembkamcdlhbaaGreatDoor.Sp
