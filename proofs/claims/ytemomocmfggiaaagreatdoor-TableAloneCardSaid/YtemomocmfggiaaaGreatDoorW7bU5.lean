import Derived.Test.YtemomocmfggiaaaGreatDoorZBU5
import Derived.Test.YtemomocmfggiaaaGreatDoorZAU5
import Derived.Test.YtemomocmfggiaaaGreatDoorZGU5
namespace Go.Proofs.YtemomocmfggiaaaGreatDoor
set_option linter.unusedVariables false
set_option linter.unusedSimpArgs false
set_option maxRecDepth 100000
open Go.RowKit
theorem calls_of_pc {g : FuncId} {args : List Value} {v : Value} (h : PC Tryz.prog gG g args v) {fn : Func} (hf : Tryz.prog.funcs[g]? = some fn) (hn : (fn.name == "runtime.NumGoroutine") = false) (hb : fn.body.isNone = false) (w : World) (hG : Gl gG w) :
  Calls Tryz.prog g args.toArray w fun e w' => e = .returned v ∧ Bel w w' := by
 have := h w hG
 unfold CallsX at this
 rw [run_enter hf hn hb] at this
 exact this
end Go.Proofs.YtemomocmfggiaaaGreatDoor
