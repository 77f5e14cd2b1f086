import Derived.Test.YtngiodcdelfdmaaGreatDoorLawQR2
/- Numbers taken apart that come in: opened. -/
namespace Go.Proofs.YtngiodcdelfdmaaGreatDoor
set_option linter.unusedVariables false
open Go.ChangeShapes Go.WideShapes Go.ChangeAt Go.WideMaps Go.WideElems Go.RowKit Go.Joins
theorem five_of {α : Type} {cs : Array α} (h : cs.size = 5) : ∃ c0 c1 c2 c3 c4, cs = #[c0, c1, c2, c3, c4] := by
  obtain ⟨l⟩ := cs
  match l, h with
  | [c0, c1, c2, c3, c4], _ => exact ⟨c0, c1, c2, c3, c4, rfl⟩
set_option maxRecDepth 100000 in
theorem open_num {H : Type} {enc : TypeId × Value → H} {W : World} {r : Reach} {b0 base : Nat} {sp : Nat → Bool} {hd : Bool} {v : Value} {d : DataW H} {p : List MemPlace} (hv : Value.okWide Tryz.prog W r b0 42 v)
    (h : DataW.Trod enc Tryz.prog W base sp hd 42 v d p) : ∃ (n : Bool) (c e a b : Int), v = .agg #[.bool n, .int .u8 c, .int .i64 e, .int .u64 a, .int .u64 b] ∧ d = .agg [.lit (.bool n), .lit (.int .u8 c), .lit (.int .i64 e), .agg [.lit (.int .u64 a), .lit (.int .u64 b)]] ∧ p = [] ∧ (Lit.int .u8 c).wf = true ∧ (Lit.int .i64 e).wf = true ∧ (Lit.int .u64 a).wf = true ∧ (Lit.int .u64 b).wf = true := by
  obtain ⟨cs, rfl, hsz⟩ := okWide_struct Tryz.underlying42 hv
  obtain ⟨c0, c1, c2, c3, c4, rfl⟩ := five_of (hsz.trans (by kernel_rfl))
  obtain ⟨fuel, hf⟩ := h
  obtain ⟨y0, y1, y2, y3, n, hx, _, h0, h1, h2, h3⟩ := trod_struct4 Tryz.underlying42 hf
  have k1 : Tryz.prog.cellsOf 4 = 1 := by kernel_rfl
  have k2 : Tryz.prog.cellsOf 29 = 1 := by kernel_rfl
  have k3 : Tryz.prog.cellsOf 3 = 1 := by kernel_rfl
  have k4 : Tryz.prog.cellsOf 28 = 2 := by kernel_rfl
  simp [Value.cells, k1, k2, k3, k4] at h0 h1 h2 h3
  obtain ⟨z0, z1, m, hz, _, g0, g1⟩ := trod_struct2 Tryz.underlying28 h3
  have k5 : Tryz.prog.cellsOf 26 = 1 := by kernel_rfl
  simp [k5] at g0 g1
  obtain ⟨a0, e0, x0⟩ := DataW.trod_bool Tryz.underlying4 h0
  obtain ⟨a1, e1, x1, w1⟩ := DataW.trod_int Tryz.underlying29 h1
  obtain ⟨a2, e2, x2, w2⟩ := DataW.trod_int Tryz.underlying3 h2
  obtain ⟨a3, e3, x3, w3⟩ := DataW.trod_int Tryz.underlying26 g0
  obtain ⟨a4, e4, x4, w4⟩ := DataW.trod_int Tryz.underlying26 g1
  simp at e0 e1 e2 e3 e4
  subst e0 e1 e2 e3 e4 x0 x1 x2 x3 x4
  subst hz
  simp only [Prod.mk.injEq] at hx
  exact ⟨a0, a1, a2, a3, a4, rfl, hx.1, hx.2, w1, w2, w3, w4⟩
end Go.Proofs.YtngiodcdelfdmaaGreatDoor
