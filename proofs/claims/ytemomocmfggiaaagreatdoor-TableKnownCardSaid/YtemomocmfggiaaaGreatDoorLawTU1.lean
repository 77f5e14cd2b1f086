import Derived.Test.YtemomocmfggiaaaGreatDoorZDU1
import Derived.Test.YtemomocmfggiaaaGreatDoorCards
import Derived.Test.YtemomocmfggiaaaGreatDoorTie
import Derived.SevenTiedAt
import Derived.ProofKit
import Derived.LaidMore
import Derived.OpenShut
import Derived.Stop.Joined
import Derived.Deep.Strs
import Derived.Lib.SmallJoins
namespace Go.Proofs.YtemomocmfggiaaaGreatDoor
set_option linter.unusedVariables false
set_option maxRecDepth 100000
open Go.ChangeShapes Go.WideShapes Go.ChangeAt Go.WideMaps Go.WideElems Go.RowKit
theorem knob : ownKnob Tryz.prog.godebug = none := by kernel_rfl
abbrev laidL : List (String × DataW Unit) := [("hairsbreadth/format.table", Rows.laid_hairsbreadth_format_table), ("hairsbreadth/toint.ends", Rows.laid_hairsbreadth_toint_ends)]
abbrev laidK : List LaidKind := [.data, .data]
theorem gTable : Tryz.prog.globalNamed "hairsbreadth/format.table" = some 0 := by kernel_rfl
theorem tTable : (Tryz.prog.globals[0]?).map (·.type) = some 137 := by kernel_rfl
theorem gEnds : Tryz.prog.globalNamed "hairsbreadth/toint.ends" = some 1 := by kernel_rfl
theorem tEnds : (Tryz.prog.globals[1]?).map (·.type) = some 279 := by kernel_rfl
theorem cellsSizes : Tryz.prog.cellsOf 215 = 2 := by kernel_rfl
theorem cellsEnds : Tryz.prog.cellsOf 279 = 8 := by kernel_rfl
theorem cellsU64 : Tryz.prog.cellsOf 22 = 1 := by kernel_rfl
theorem cellsNums : Tryz.prog.cellsOf 94 = 3 := by kernel_rfl
theorem cellsTable : Tryz.prog.cellsOf 137 = 12 := by kernel_rfl
theorem cellsInt : Tryz.prog.cellsOf 3 = 1 := by kernel_rfl
theorem door_met (os : Os) (args : Array Value) : laidMetH Tryz.prog laidL ((World.doorLaid Tryz.prog 400 os).forCall (fun _ _ => 0) ⟨#[], args, []⟩).memory :=
 laidMetH_of_parts3 (fuel := 8) (laidMet_of_run' 8 (by kernel_rfl) (by kernel_rfl)) (by kernel_rfl) (by kernel_rfl)
theorem row_of {H : Type} {enc : TypeId × Value → H} {W : World} {base : Nat} {sp : Nat → Bool} {hd : Bool} {m : Nat} {cs : List Value} {y : DataW H × List MemPlace} {a b c : Int} (h : DataW.trod enc Tryz.prog W base sp hd m 94 cs = some y)
  (e : y.1 = .agg [.lit (.int .i64 a), .lit (.int .i64 b), .lit (.int .i64 c)]) : cs = [.int .i64 a, .int .i64 b, .int .i64 c] := by
 obtain ⟨y0, y1, y2, n, rfl, hl, h0, h1, h2⟩ := Go.Deep.trod_struct3 Tryz.underlying94 h
 rw [cellsNums] at hl
 rw [cellsInt] at h0 h1 h2
 obtain ⟨n0, e0, x0, _⟩ := DataW.trod_int Tryz.underlying3 h0
 obtain ⟨n1, e1, x1, _⟩ := DataW.trod_int Tryz.underlying3 h1
 obtain ⟨n2, e2, x2, _⟩ := DataW.trod_int Tryz.underlying3 h2
 match cs, hl with
 | [u, v, w], _ =>
  simp at e0 e1 e2
  subst e0; subst e1; subst e2
  subst x0; subst x1; subst x2
  simp at e
  obtain ⟨rfl, rfl, rfl⟩ := e
  rfl
theorem row2_of {H : Type} {enc : TypeId × Value → H} {W : World} {base : Nat} {sp : Nat → Bool} {hd : Bool} {m : Nat} {cs : List Value} {y : DataW H × List MemPlace} {a b : Int} (h : DataW.trod enc Tryz.prog W base sp hd m 215 cs = some y)
  (e : y.1 = .agg [.lit (.int .u64 a), .lit (.int .u64 b)]) : cs = [.int .u64 a, .int .u64 b] := by
 obtain ⟨y0, y1, n, rfl, hl, h0, h1⟩ := trod_struct2 Tryz.underlying215 h
 rw [cellsSizes] at hl
 rw [cellsU64] at h0 h1
 obtain ⟨n0, e0, x0, _⟩ := DataW.trod_int Tryz.underlying22 h0
 obtain ⟨n1, e1, x1, _⟩ := DataW.trod_int Tryz.underlying22 h1
 match cs, hl with
 | [u, v], _ =>
  simp at e0 e1
  subst e0; subst e1
  subst x0; subst x1
  simp at e
  obtain ⟨rfl, rfl⟩ := e
  rfl
theorem gl_of_laid {W : World} (h : laidMetH Tryz.prog laidL W) : Gl gG W := by
 rw [MakeChecks.laidMetH_plain _ _ _ (by kernel_rfl)] at h
 obtain ⟨ps, ⟨g0, t0, cs0, f0, p0, q0, hg0, ht0, hv0, hd0, hrest, _⟩, _⟩ := h
 obtain rfl := Option.some.inj (gTable.symm.trans hg0)
 obtain rfl := Option.some.inj (tTable.symm.trans ht0)
 obtain ⟨g1, t1, cs1, f1, p1, q1, hg1, ht1, hv1, hd1, _, _⟩ := hrest
 obtain rfl := Option.some.inj (gEnds.symm.trans hg1)
 obtain rfl := Option.some.inj (tEnds.symm.trans ht1)
 obtain ⟨xs, m1, rfl, hx1, hlen, hn3, hel⟩ := DataW.trod_array Tryz.underlying137 hd0
 obtain ⟨zs, m2, rfl, hz1, hlen2, hn4, hel2⟩ := DataW.trod_array Tryz.underlying279 hd1
 simp only [Prod.mk.injEq] at hx1 hz1
 rw [cellsNums] at hel
 rw [cellsTable] at hlen
 rw [cellsSizes] at hel2
 rw [cellsEnds] at hlen2
 match xs, hn3, zs, hn4 with
 | [y0, y1, y2, y3], _, [z0, z1, z2, z3], _ =>
  have hagg := hx1.1
  have hagg2 := hz1.1
  simp only [Rows.laid_hairsbreadth_format_table, List.map_cons, List.map_nil, DataW.agg.injEq, List.cons.injEq, and_true] at hagg
  simp only [Rows.laid_hairsbreadth_toint_ends, List.map_cons, List.map_nil, DataW.agg.injEq, List.cons.injEq, and_true] at hagg2
  obtain ⟨a0, a1, a2, a3⟩ := hagg
  obtain ⟨b0, b1, b2, b3⟩ := hagg2
  have r0 := row_of (hel 0 (by decide)) a0.symm
  have r1 := row_of (hel 1 (by decide)) a1.symm
  have r2 := row_of (hel 2 (by decide)) a2.symm
  have r3 := row_of (hel 3 (by decide)) a3.symm
  have s0 := row2_of (hel2 0 (by decide)) b0.symm
  have s1 := row2_of (hel2 1 (by decide)) b1.symm
  have s2 := row2_of (hel2 2 (by decide)) b2.symm
  have s3 := row2_of (hel2 3 (by decide)) b3.symm
  generalize hcs : cs0.toList = cs at *
  generalize hds : cs1.toList = ds at *
  have hcell : ∀ j, W.cell? ⟨0, j, none⟩ = cs[j]? := fun j => by
   rw [World.var?_cell hg0 hv0 j, ← hcs]; simp
  have hcell2 : ∀ j, W.cell? ⟨1, j, none⟩ = ds[j]? := fun j => by
   rw [World.var?_cell hg1 hv1 j, ← hds]; simp
  match cs, hlen, ds, hlen2 with
  | [c0, c1, c2, c3, c4, c5, c6, c7, c8, c9, c10, c11], _, [d0, d1, d2, d3, d4, d5, d6, d7], _ =>
   simp at r0 r1 r2 r3 s0 s1 s2 s3
   obtain ⟨rfl, rfl, rfl⟩ := r0
   obtain ⟨rfl, rfl, rfl⟩ := r1
   obtain ⟨rfl, rfl, rfl⟩ := r2
   obtain ⟨rfl, rfl, rfl⟩ := r3
   obtain ⟨rfl, rfl⟩ := s0
   obtain ⟨rfl, rfl⟩ := s1
   obtain ⟨rfl, rfl⟩ := s2
   obtain ⟨rfl, rfl⟩ := s3
   intro x hx
   simp only [gG, List.mem_cons, List.not_mem_nil, or_false] at hx
   rcases hx with rfl | rfl
   ·refine ⟨cell_lt (hcell 0), fun j v hj => ?_⟩
    rw [hcell]; exact hj
   ·refine ⟨cell_lt (hcell2 0), fun j v hj => ?_⟩
    rw [hcell2]; exact hj
theorem law_c {g : FuncId} {ct : Ct} {F : List Int → List Int} (h : EntC Tryz.prog gG ⟨g, ct, F⟩) {fn : Func} (hf : Tryz.prog.funcs[g]? = some fn) (hn : (fn.name == "runtime.NumGoroutine") = false) (hb : fn.body.isNone = false)
  (hr : ct.r = [.sc .bool]) (l : List Int) (args : List Value) (hl : l.length = (kindsOf ct.a).length) (ha : valsS ct.a l = args) (ht : F l = [1]) (W : World) (hG : Gl gG W) :
  Calls Tryz.prog g args.toArray W fun e w' => e = .returned (.bool true) ∧ Bel W w' := by
 have := h.ok l hl (by simp only [ht, hr]; rfl) W hG
 simp only [ht, hr, ha] at this
 unfold CallsX at this
 rw [run_enter hf hn hb] at this
 exact this
end Go.Proofs.YtemomocmfggiaaaGreatDoor
