import Derived.Test.YtbembkamcdlhbaaGreatDoorZ8Sc
set_option linter.unusedSimpArgs false
set_option linter.unusedVariables false
set_option maxRecDepth 100000
set_option maxHeartbeats 1000000
namespace Go.Proofs.YtbembkamcdlhbaaGreatDoor.Sp
open Go.RowKit Go.Shelf FlagM
attribute [local go_sem] Oper.semAt_some
theorem anq (w:World) (hE:EnvW w):Calls Tryz.prog 40 #[] w fun e w'=>e = .returned (.bool true)∧q9 w w':=by
 have H:=aaK w hE (uI Tf)
 rw[akV] at H
 have H:=Lib.hid H
 go_enter Tryz.func40,Tryz.ntmps40
 go_wp2_with (go_at_call 41;refine H.out.mono ?_;rintro e w1 ⟨rfl,hB⟩)
 go_ret
 exact⟨congrArg (fun b=>Ending.returned (Value.bool b)) (show(Tg==Tg)=true from beq_self_eq_true _),hB⟩
end Go.Proofs.YtbembkamcdlhbaaGreatDoor.Sp
