import Derived.Test.YtkfbdlidigmfbaaGreatDoorLawPR7
namespace Go.Proofs.YtkfbdlidigmfbaaGreatDoor
set_option linter.unusedVariables false
open Go.RowKit
set_option maxRecDepth 100000 in
theorem law_cC {g : FuncId} {ct : Ct} {F : List Int → List Int} (h : EntC Tryz.prog gG ⟨g, ct, F⟩) {fn : Func} (hf : Tryz.prog.funcs[g]? = some fn) (hn : (fn.name == "runtime.NumGoroutine") = false) (hb : fn.body.isNone = false)
  (hr : ct.r = [.sc .bool]) (l : List Int) (args : List Value) (hl : l.length = (kindsOf ct.a).length) (ha : valsS ct.a l = args) (ht : F l = [1]) (W : World) (hG : Gl gG W) :
  Calls Tryz.prog g args.toArray W fun e w' => e = .returned (.bool true) ∧ Bel W w' := by
 have hlen : (F l).length = (kindsOf ct.r).length := by rw [ht, hr]; rfl
 have := h.ok l hl hlen W hG
 simp only [ht, hr, ha] at this
 unfold CallsX at this
 rw [run_enter hf hn hb] at this
 exact this
end Go.Proofs.YtkfbdlidigmfbaaGreatDoor
