import Derived.Test.YtkfbdlidigmfbaaGreatDoorZDR7
import Derived.Test.YtkfbdlidigmfbaaGreatDoorCards
import Derived.Test.YtkfbdlidigmfbaaGreatDoorTie
import Derived.SevenTiedAt
import Derived.ProofKit
import Derived.LaidMore
import Derived.OpenShut
import Derived.Stop.Joined
import Derived.Deep.Strs
import Derived.Lib.SmallJoins
namespace Go.Proofs.YtkfbdlidigmfbaaGreatDoor
set_option linter.unusedVariables false
set_option maxRecDepth 100000
open Go.ChangeShapes Go.WideShapes Go.ChangeAt Go.WideMaps Go.WideElems Go.RowKit
theorem knob : ownKnob Tryz.prog.godebug = none := by kernel_rfl
abbrev laidL : List (String × DataW Unit) := [("hairsbreadth/format.table", Rows.laid_hairsbreadth_format_table)]
abbrev laidK : List LaidKind := [.data]
theorem laidOut : laidOutB Tryz.prog = true := by kernel_rfl
theorem gTable : Tryz.prog.globalNamed "hairsbreadth/format.table" = some 0 := by kernel_rfl
theorem tTable : (Tryz.prog.globals[0]?).map (·.type) = some 123 := by kernel_rfl
theorem cellsNums : Tryz.prog.cellsOf 75 = 3 := by kernel_rfl
theorem cellsTable : Tryz.prog.cellsOf 123 = 12 := by kernel_rfl
theorem cellsInt : Tryz.prog.cellsOf 3 = 1 := by kernel_rfl
theorem door_met (os : Os) (args : Array Value) : laidMetH Tryz.prog laidL ((World.doorLaid Tryz.prog 400 os).forCall (fun _ _ => 0) ⟨#[], args, []⟩).memory :=
 laidMetH_of_parts3 (fuel := 8) (laidMet_of_run' 8 (by kernel_rfl) (by kernel_rfl)) (by kernel_rfl) (by kernel_rfl)
theorem row_of {H : Type} {enc : TypeId × Value → H} {W : World} {base : Nat} {sp : Nat → Bool} {hd : Bool} {m : Nat} {cs : List Value} {y : DataW H × List MemPlace} {a b c : Int} (h : DataW.trod enc Tryz.prog W base sp hd m 75 cs = some y)
  (e : y.1 = .agg [.lit (.int .i64 a), .lit (.int .i64 b), .lit (.int .i64 c)]) : cs = [.int .i64 a, .int .i64 b, .int .i64 c] := by
 obtain ⟨y0, y1, y2, n, rfl, hl, h0, h1, h2⟩ := Go.Deep.trod_struct3 Tryz.underlying75 h
 rw [cellsNums] at hl
 rw [cellsInt] at h0 h1 h2
 obtain ⟨n0, e0, x0, _⟩ := DataW.trod_int Tryz.underlying3 h0
 obtain ⟨n1, e1, x1, _⟩ := DataW.trod_int Tryz.underlying3 h1
 obtain ⟨n2, e2, x2, _⟩ := DataW.trod_int Tryz.underlying3 h2
 match cs, hl with
 | [u, v, w], _ =>
  simp at e0 e1 e2
  subst e0; subst e1; subst e2
  subst x0; subst x1; subst x2
  simp at e
  obtain ⟨rfl, rfl, rfl⟩ := e
  rfl
theorem gl_of_laid {W : World} (h : laidMetH Tryz.prog laidL W) : Gl gG W := by
 rw [MakeChecks.laidMetH_plain _ _ _ (by kernel_rfl)] at h
 obtain ⟨ps, ⟨g0, t0, cs0, f0, p0, q0, hg0, ht0, hv0, hd0, _, _⟩, _⟩ := h
 obtain rfl := Option.some.inj (gTable.symm.trans hg0)
 obtain rfl := Option.some.inj (tTable.symm.trans ht0)
 obtain ⟨xs, m1, rfl, hx1, hlen, hn3, hel⟩ := DataW.trod_array Tryz.underlying123 hd0
 simp only [Prod.mk.injEq] at hx1
 rw [cellsNums] at hel
 rw [cellsTable] at hlen
 match xs, hn3 with
 | [y0, y1, y2, y3], _ =>
  have hagg := hx1.1
  simp only [Rows.laid_hairsbreadth_format_table, List.map_cons, List.map_nil, DataW.agg.injEq, List.cons.injEq, and_true] at hagg
  obtain ⟨a0, a1, a2, a3⟩ := hagg
  have r0 := row_of (hel 0 (by decide)) a0.symm
  have r1 := row_of (hel 1 (by decide)) a1.symm
  have r2 := row_of (hel 2 (by decide)) a2.symm
  have r3 := row_of (hel 3 (by decide)) a3.symm
  generalize hcs : cs0.toList = cs at *
  have hcell : ∀ j, W.cell? ⟨0, j, none⟩ = cs[j]? := fun j => by
   rw [World.var?_cell hg0 hv0 j, ← hcs]; simp
  match cs, hlen with
  | [c0, c1, c2, c3, c4, c5, c6, c7, c8, c9, c10, c11], _ =>
   simp at r0 r1 r2 r3
   obtain ⟨rfl, rfl, rfl⟩ := r0
   obtain ⟨rfl, rfl, rfl⟩ := r1
   obtain ⟨rfl, rfl, rfl⟩ := r2
   obtain ⟨rfl, rfl, rfl⟩ := r3
   intro x hx
   simp only [gG, List.mem_singleton] at hx
   subst hx
   refine ⟨cell_lt (hcell 0), fun j v hj => ?_⟩
   rw [hcell]; exact hj
theorem wrap_of_wf {k : IntKind} {n : Int} (h : (Lit.int k n).wf = true) : k.wrap n = n := by
 unfold Lit.wf IntKind.min IntKind.max IntKind.signed IntKind.bits at h
 unfold IntKind.wrap IntKind.signed IntKind.bits
 cases k <;> simp at h ⊢ <;> (try split) <;> omega
theorem open_bits {H : Type} {enc : TypeId × Value → H} {W : World} {r : Reach} {b0 base : Nat} {sp : Nat → Bool} {hd : Bool} {v : Value} {d : DataW H} {p : List MemPlace} (hv : Value.okWide Tryz.prog W r b0 28 v)
  (h : DataW.Trod enc Tryz.prog W base sp hd 28 v d p) : ∃ a b, v = .agg #[.int .u64 a, .int .u64 b] ∧ d = .agg [.lit (.int .u64 a), .lit (.int .u64 b)] ∧ p = [] ∧ (Lit.int .u64 a).wf = true ∧ (Lit.int .u64 b).wf = true := by
 obtain ⟨v0, v1, y0, y1, n, rfl, rfl, rfl, h0, h1⟩ := Go.Joins.open_agg2 Tryz.underlying28 (by kernel_rfl) (by kernel_rfl) hv h
 obtain ⟨a, e0, x0, w0⟩ := DataW.trod_int Tryz.underlying26 h0
 obtain ⟨b, e1, x1, w1⟩ := DataW.trod_int Tryz.underlying26 h1
 simp at e0 e1
 subst e0; subst e1; subst x0; subst x1
 exact ⟨a, b, rfl, rfl, rfl, w0, w1⟩
end Go.Proofs.YtkfbdlidigmfbaaGreatDoor
