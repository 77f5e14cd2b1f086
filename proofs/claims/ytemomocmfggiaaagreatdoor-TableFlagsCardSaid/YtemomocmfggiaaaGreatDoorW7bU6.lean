import Derived.Test.YtemomocmfggiaaaGreatDoorZBU6
import Derived.Test.YtemomocmfggiaaaGreatDoorZAU6
import Derived.Test.YtemomocmfggiaaaGreatDoorZGU6
set_option linter.unusedSimpArgs false
set_option linter.unusedVariables false
set_option maxRecDepth 100000
namespace Go.Proofs.YtemomocmfggiaaaGreatDoor
open Go.RowKit
theorem Kb {g:FuncId} {args:List Value} {v:Value} (h:PC Tryz.prog gG g args v) {fn:Func} (hf:Tryz.prog.funcs[g]? = some fn) (hn:(fn.name == "runtime.NumGoroutine")=false) (hb:fn.body.isNone=false) (w:World) (hG:Gl gG w) :
  Calls Tryz.prog g args.toArray w fun e w'=>e = .returned v∧vI w w':=by
 have:=h w hG
 unfold AC at this
 rw[Kv hf hn hb] at this
 exact this
end Go.Proofs.YtemomocmfggiaaaGreatDoor
