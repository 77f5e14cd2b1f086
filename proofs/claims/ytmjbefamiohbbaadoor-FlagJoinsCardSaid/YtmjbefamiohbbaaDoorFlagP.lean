/- FlagOrder, FlagKnown, FlagNames, FlagJoins, FlagSets: the rows, out of the walks. -/
import Derived.Test.YtmjbefamiohbbaaDoorFlagE
import Derived.Test.YtmjbefamiohbbaaDoorCards
import Derived.Test.YtmjbefamiohbbaaDoorTie
import Derived.SevenTiedAt
import Derived.ProofKit
import Derived.LaidMore
import Derived.OpenShut
import Derived.Stop.Joined
namespace Go.Proofs.YtmjbefamiohbbaaDoor
set_option linter.unusedVariables false
open Go.ChangeShapes Go.WideShapes Go.ChangeAt Go.WideMaps Go.WideElems Go.RowKit

theorem knob : ownKnob Tryd.prog.godebug = none := by kernel_rfl
abbrev laidL : List (String × DataW Unit) := [("hairsbreadth/flag.names", Rows.laid_hairsbreadth_flag_names)]
abbrev laidK : List LaidKind := [.data]
theorem laidOut : laidOutB Tryd.prog = true := by kernel_rfl
theorem gNames : Tryd.prog.globalNamed "hairsbreadth/flag.names" = some 0 := by kernel_rfl
theorem tNames : (Tryd.prog.globals[0]?).map (·.type) = some 39 := by kernel_rfl
theorem cellsStr : Tryd.prog.cellsOf 9 = 1 := by kernel_rfl
/-- the door's own heap meets the condition -/
theorem door_met (os : Os) (args : Array Value) : laidMetH Tryd.prog laidL ((World.doorLaid Tryd.prog 400 os).forCall (fun _ _ => 0) ⟨#[], args, []⟩).memory :=
  laidMetH_of_parts3 (fuel := 8) (laidMet_of_run' 8 (by kernel_rfl) (by kernel_rfl)) (by kernel_rfl) (by kernel_rfl)
theorem names_of_laid {W : World} (h : laidMetH Tryd.prog laidL W) : NamesAt W := by
  rw [MakeChecks.laidMetH_plain _ _ _ (by kernel_rfl)] at h
  obtain ⟨ps, ⟨g0, t0, cs0, f0, p0, q0, hg0, ht0, hv0, hd0, _, _⟩, _⟩ := h
  obtain rfl := Option.some.inj (gNames.symm.trans hg0)
  obtain rfl := Option.some.inj (tNames.symm.trans ht0)
  obtain ⟨xs, m1, rfl, hx1, hlen, hn3, hel⟩ := DataW.trod_array Tryd.underlying39 hd0
  simp only [Prod.mk.injEq] at hx1
  rw [cellsStr] at hel
  intro j hj
  have hx : ∃ y, xs[j]? = some y := ⟨xs[j]'(by omega), List.getElem?_eq_getElem (by omega)⟩
  obtain ⟨y, hy⟩ := hx
  have hj1 := hel j hj
  rw [hy] at hj1
  obtain ⟨s, hcs, hys, _⟩ := DataW.trod_string Tryd.underlying9 hj1
  have hc : cs0.toList[j]? = some (.string s) := by
    have := congrArg (·[0]?) hcs
    simpa [List.getElem?_take, List.getElem?_drop] using this
  have hd : (xs.map (·.1))[j]? = some (DataW.lit (.string s.data.toList)) := by simp [hy, hys]
  have hagg : xs.map (·.1) = [.lit (.string (nm 0)), .lit (.string (nm 1)), .lit (.string (nm 2)), .lit (.string (nm 3)), .lit (.string (nm 4))] := by
    have := hx1.1
    simp only [Rows.laid_hairsbreadth_flag_names, DataW.agg.injEq] at this
    rw [← this]; rfl
  rw [hagg] at hd
  have hs : s.data.toList = nm j := by
    have : j = 0 ∨ j = 1 ∨ j = 2 ∨ j = 3 ∨ j = 4 := by omega
    rcases this with rfl | rfl | rfl | rfl | rfl <;> (simp at hd; exact hd.symm)
  have hs' : s = ⟨(nm j).toArray⟩ := by
    cases s with | mk d => simp at hs; rw [← hs]
  have := World.var?_cell hg0 hv0 j
  rw [this, ← hs']
  simpa using hc

/-- a slice of sets that came in -/
theorem u8s_of {H : Type} {enc : TypeId × Value → H} {W : World} {a : Option Addr} {len cap : Nat} {d : DataW H} {ps : List MemPlace} (h : DataW.Trod enc Tryd.prog W 0 (fun _ => true) true 22 (.slice a len cap) d ps) (h100 : len ≤ 100) :
    ∃ l, l.length = len ∧ U8s W (.slice a len cap) l := by
  obtain ⟨fuel, hf⟩ := h
  rcases open_ints Tryd.underlying22 Tryd.underlying23 (show Tryd.prog.cellsOf 23 = 1 by kernel_rfl) hf with ⟨hcs, hx⟩ | ⟨b, len', cap', zs, hcs, _, hl, hm, hz, hx, hcell, hwz⟩
  · simp [Value.cells] at hcs
    obtain ⟨rfl, rfl, rfl⟩ := hcs
    exact ⟨[], rfl, U8s_nil W _ _⟩
  · simp [Value.cells] at hcs
    obtain ⟨rfl, rfl, rfl⟩ := hcs
    have hz' : zs.length = cap := by simpa using hz
    by_cases h0 : len = 0
    · subst h0
      exact ⟨[], rfl, U8s_nil W _ _⟩
    · obtain ⟨bb, off, rfl, hc⟩ := ints_at hcell (by omega)
      have hlen : (zs.take len).length = len := by simp; omega
      refine ⟨zs.take len, hlen, fun j hj => ?_, by omega, .inr ⟨bb, off, cap, by rw [hlen], cell_lt (hc 0 (by omega)), fun j hj => ?_⟩⟩
      · have hj' : j < zs.length := by omega
        have e : (zs.take len)[j]?.getD 0 = zs[j] := by rw [List.getElem?_take]; simp [show j < len by omega, hj']
        rw [e]
        exact bounds_u8 (hwz _ (List.getElem_mem hj'))
      · have hj' : j < zs.length := by omega
        have e : (zs.take len)[j]?.getD 0 = zs.getD j 0 := by rw [List.getElem?_take]; simp [show j < len by omega]
        rw [e]; exact hc j hj'
theorem joins_any {H : Type} {enc : TypeId × Value → H} {W : World} {a : Option Addr} {len cap : Nat} {d : DataW H} {ps : List MemPlace} (h : DataW.Trod enc Tryd.prog W 0 (fun _ => true) true 22 (.slice a len cap) d ps) (hN : NamesAt W) {s : Int} (h0 : 0 ≤ s) (h1 : s ≤ 255) :
    Calls Tryd.prog 4 #[.slice a len cap, .int .u8 s] W fun e w' => e = .returned (.bool true) ∧ Bel W w' := by
  by_cases h100 : len ≤ 100
  · obtain ⟨l, hl, hU⟩ := u8s_of h h100
    exact joins_c _ l s W hN hU h0 h1
  · exact joins_long _ _ _ s W (by omega)
theorem sets_any {H : Type} {enc : TypeId × Value → H} {W : World} {a : Option Addr} {len cap : Nat} {d : DataW H} {ps : List MemPlace} (h : DataW.Trod enc Tryd.prog W 0 (fun _ => true) true 22 (.slice a len cap) d ps) (hN : NamesAt W) {s p : Int} (h0 : 0 ≤ s) (h1 : s ≤ 255) (h2 : 0 ≤ p) (h3 : p ≤ 255) :
    Calls Tryd.prog 3 #[.slice a len cap, .int .u8 s, .int .u8 p] W fun e w' => e = .returned (.bool true) ∧ Bel W w' := by
  by_cases h100 : len ≤ 100
  · obtain ⟨l, hl, hU⟩ := u8s_of h h100
    exact sets_short _ _ _ l s p W hN hU h100 h0 h1 h2 h3
  · exact sets_long _ _ _ s p W (by omega)

end Go.Proofs.YtmjbefamiohbbaaDoor
