import Derived.Test.YtkfbdlidigmfbaaGreatDoorRM5R7
namespace Go.Proofs.YtkfbdlidigmfbaaGreatDoor
set_option linter.unusedVariables false
set_option linter.unusedSimpArgs false
set_option maxRecDepth 100000
open Go.RowKit
def c_law23_RemMultiple : Ct := ⟨[.sc kB, .agg [kU, kU], .sc (.int .u16)], [.sc .bool]⟩
def F_law23_RemMultiple : List Int → List Int := fun _ => [1]
theorem u16_in (n : Int) : 0 ≤ IntKind.u16.wrap n ∧ IntKind.u16.wrap n < 65536 := by
 have := wrap_lo .u16 n
 exact ⟨this.1, Int.lt_of_le_of_lt this.2 (by decide)⟩
theorem rm_pc {args : List Value} {v : Value} (h : ∀ w, Gl gG w → Calls Tryz.prog 4 args.toArray w fun e w' => e = .returned v ∧ Bel w w') : PC Tryz.prog gG 4 args v := fun w hG => by
 have := h w hG
 unfold CallsX
 rw [run_enter Tryz.func4 (by kernel_rfl) (by kernel_rfl)]
 exact this
theorem e_law23_RemMultiple : EntC Tryz.prog gG ⟨4, c_law23_RemMultiple, F_law23_RemMultiple⟩ := ⟨fun l hl _ => by
 match l, hl with
 | [f, b1, b0, n], _ =>
  refine rm_pc fun w hG => ?_
  obtain ⟨n1, n0⟩ := nB_words b1 b0
  have h := RemMultiple_c (u8_u8 f) (nB_lt b1 b0) (u16_in n).1 (u16_in n).2 w hG
  simp only [c_law23_RemMultiple, valsS, val1, valXs, valX, Sh.kinds, List.drop_succ_cons, List.drop_zero, List.length_cons, List.length_nil, w64_u, w8_u, n1, n0]
  exact h⟩
theorem true_RemMultiple (l : List Int) (h : l.length = 4) : F_law23_RemMultiple l = [1] := rfl
end Go.Proofs.YtkfbdlidigmfbaaGreatDoor
