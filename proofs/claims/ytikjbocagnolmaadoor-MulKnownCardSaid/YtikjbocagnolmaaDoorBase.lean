/- General lemmas of this seat: orders of a drawn region, marks of loops over a function, worlds that have only grown. No function of the program. -/
import Derived.RangeFuncNested
import Derived.RangeFuncBound
import Derived.RangeFuncCalls
import Derived.RangeFuncLeaves
import Derived.RangeFuncBox
import Derived.Shelf.Abstract
import Derived.Shelf.RegionOpen
import Derived.WalkKit
import Derived.WalkSpells
import Derived.WalkLawsBesides
import Derived.OwnWalkIn
import Derived.TacticsInMore
import Derived.LoopNIn
import Derived.LoopIn
import Derived.Maps.AppendAt
import Derived.Stop.RegionWithIn
import Derived.Deep.QuietTactic
import Derived.BigQuiet
import Derived.Lib.Hide
import Derived.Test.YtikjbocagnolmaaDoorProg
namespace Go.Proofs.YtikjbocagnolmaaDoor
set_option linter.unusedVariables false
open Go.RowKit Go.Shelf
def KpC (B : Nat) (A W : World) : Prop := ∀ v, A.cell? ⟨B, 0, none⟩ = some v → W.cell? ⟨B, 0, none⟩ = some v
theorem KpC_t {B : Nat} {A W C : World} (h : KpC B A W) (k : KpC B W C) : KpC B A C := fun v hv => k v (h v hv)
theorem KpC_b {B : Nat} {n : Nat} (W : World) (l : Nat) (o o' : Obj) (_ : n ≤ l) (h : W.heap[l]? = some o) (hn : o.isCells = false) (_ : o.isWalk = false) : KpC B W (W.putObj l o') := fun _ hv => cell_kept hv (grownBy_putObj' W l o') (fun r e => by cases e; exact ⟨_, h, hn⟩)
/-- the marks of the loops that are over -/
def mk1 (D : Nat) : Deferred := { target := .collected D, args := #[] }
def Marks (n₀ : Nat) (Ds : List Nat) (W : World) : Prop := Ds.Nodup ∧ ∀ D ∈ Ds, n₀ ≤ D ∧ W.heap[D]? = some (.deferred (some []))
theorem Marks.lt {n₀ : Nat} {Ds : List Nat} {W : World} (h : Marks n₀ Ds W) {D : Nat} (hD : D ∈ Ds) : D < W.heap.size := (Array.getElem?_eq_some_iff.1 (h.2 D hD).2).1
theorem Marks.keeps {n₀ : Nat} {Ds : List Nat} {W W' : World} (h : Marks n₀ Ds W) (k : KeepsOthers W W') : Marks n₀ Ds W' :=
  ⟨h.1, fun D hD => ⟨(h.2 D hD).1, k.same D _ (h.2 D hD).2 rfl⟩⟩
theorem Marks.leaves {F : Fence} {n : Nat} {P : Program} {fn : Func} {tmps : Array Value} {v : Value} {w : World} (hres : ∀ W, (results fn tmps).run P W = .ok v W) : ∀ (Ds : List Nat) (W : World), Marks w.heap.size Ds W → Below w.heap.size w W →
    LeavesInM F n P fn tmps (fun e W' => e = .returned v ∧ Below w.heap.size w W') (Ds.map mk1) .returning W
  | [], W, _, hB => ⟨v, hres W, rfl, hB⟩
  | D :: Ds, W, h, hB => by
    refine ⟨by simp, .inl ⟨D, _, rfl, run_takeDeferred (h.2 D (by simp)).2, ?_⟩⟩
    refine Marks.leaves hres Ds _ ⟨(List.nodup_cons.1 h.1).2, fun D' hD' => ⟨(h.2 D' (by simp [hD'])).1, ?_⟩⟩ (hB.trans (belowK_b (w := w) (n₀ := w.heap.size) (Nat.le_refl _) W D _ _ (h.2 D (by simp)).1 (h.2 D (by simp)).2 rfl rfl))
    rw [World.putObj_heap_other (by rintro rfl; exact (List.nodup_cons.1 h.1).1 hD')]; exact (h.2 D' (by simp [hD'])).2
theorem ownFrom_marks {β : Type} {n₀ B : Nat} {Ds : List Nat} (h : ∀ D ∈ Ds, D < B) : OwnFrom B (fun (_ : β) W => Marks n₀ Ds W) := fun s A W row hs hg hr =>
  ⟨hs.1, fun D hD => ⟨(hs.2 D hD).1, (hg.block D (hs.lt hD) (fun e => by have := (hr D e.symm).1; have := h D hD; omega)).trans (hs.2 D hD).2⟩⟩
theorem Marks.cons {n₀ : Nat} {Ds : List Nat} {W : World} {D B : Nat} (h : Marks n₀ Ds W) (hlt : ∀ D ∈ Ds, D < B) (hB : B ≤ D) (hn : n₀ ≤ D) (hD : W.heap[D]? = some (.deferred (some []))) : Marks n₀ (D :: Ds) W :=
  ⟨List.nodup_cons.2 ⟨fun hm => by have := hlt D hm; omega, h.1⟩, fun D' hD' => by
    rcases List.mem_cons.1 hD' with rfl | hm
    · exact ⟨hn, hD⟩
    · exact h.2 D' hm⟩

theorem ret_bool {a b : Bool} (h : a = b) : Ending.returned (.bool a) = .returned (.bool b) := by rw [h]
theorem ret_int {k : IntKind} {a b : Int} (h : a = b) : Ending.returned (.int k a) = .returned (.int k b) := by rw [h]
theorem ownsRow_own {w : World} {b : Nat} {e : TypeId} {size : Nat} {v : Value} {n : Nat} {xs : List Value} (h : w.ownsRow b e size v n xs) : ∀ k, v.ownBlock = some k → b ≤ k := fun k hk => by
  rcases h.2 with ⟨rfl, _⟩ | ⟨g, cap, cur, rfl, hb, _⟩
  · simp [Value.ownBlock] at hk
  · obtain rfl : g = k := by simpa [Value.ownBlock] using hk
    exact hb
theorem ownsRow_base {w : World} {b b' : Nat} {e : TypeId} {size : Nat} {v : Value} {n : Nat} {xs : List Value} (h : w.ownsRow b e size v n xs) (hb : b' ≤ b) : w.ownsRow b' e size v n xs :=
  ⟨h.1, h.2.imp id fun ⟨g, cap, cur, h1, h2, h3⟩ => ⟨g, cap, cur, h1, by omega, h3⟩⟩
/-- a slice value reads as a list of texts -/
def Strs (W : World) (v : Value) (l : List (List UInt8)) : Prop :=
  (v = .slice none 0 0 ∧ l = []) ∨ ∃ b off cap, v = .slice (some ⟨b, off, none⟩) l.length cap ∧ ∀ j, j < l.length → W.cell? ⟨b, off + j, none⟩ = some (.string ⟨(l[j]?.getD []).toArray⟩)
theorem drewN_drewN (w : World) (a b : Nat) : (w.drewN a).drewN b = w.drewN (a + b) := by simp [World.drewN, Nat.add_assoc]
theorem drewN_cell (w : World) (n : Nat) (a : Addr) : (w.drewN n).cell? a = w.cell? a := rfl

/-- 'w is as it was below its own size': what every contract says of the world it leaves -/
def Bel (w w' : World) : Prop := Below w.heap.size w w'
theorem Bel.refl (w : World) : Bel w w := Below.refl _ w
theorem Bel.trans {a b c : World} (h : Bel a b) (k : Bel b c) : Bel a c := Below.trans h (Below.mono k h.size)
theorem Bel.alloc {a b : World} (h : Bel a b) (o : Obj) : Bel a (b.alloc o) := Below.alloc h h.size o
theorem Bel.drew {a b : World} (h : Bel a b) : Bel a b.drew := Below.drew h
theorem Below.drewN {B : Nat} {a w : World} (h : Below B a w) (n : Nat) : Below B a (w.drewN n) := ⟨h.os, h.tape, h.output, h.size, h.block⟩
theorem Bel.drewN {a b : World} (h : Bel a b) (n : Nat) : Bel a (b.drewN n) := Below.drewN h n
theorem Bel.size {a b : World} (h : Bel a b) : a.heap.size ≤ b.heap.size := Below.size h
theorem Bel.cell {a b : World} (h : Bel a b) (k o : Nat) (hk : k < a.heap.size) : b.cell? ⟨k, o, none⟩ = a.cell? ⟨k, o, none⟩ := Below.cell h (p := ⟨k, o, none⟩) hk
theorem Bel.cells {W w1 : World} (hb : Bel W w1) : (∀ b o, b < W.heap.size → w1.cell? ⟨b, o, none⟩ = W.cell? ⟨b, o, none⟩) ∧ (∀ b o, b < W.heap.size → w1.frozen? ⟨b, o, none⟩ = W.frozen? ⟨b, o, none⟩) :=
  ⟨fun b o h => Below.cell (p := ⟨b, o, none⟩) hb h, fun b o h => Below.frozen (p := ⟨b, o, none⟩) hb h⟩
theorem cell_lt {w : World} {b o : Nat} {v : Value} (h : w.cell? ⟨b, o, none⟩ = some v) : b < w.heap.size := by
  apply Classical.byContradiction
  intro hn
  have : w.heap[b]? = none := Array.getElem?_eq_none (by omega)
  simp [World.cell?, this] at h
section Orders
variable {F : Fence} {n : Nat} {P : Program} {ops : Array Oper} {Q : Exit → Act → World → Prop} {md : Region.Mode}
def ordersGo (md : Region.Mode) (ops : Array Oper) : Nat → Array Bool → List (List Nat)
  | 0, _ => [[]]
  | fuel + 1, listed =>
    match Region.ready md ops listed with
    | [] => [[]]
    | r :: rs => (r :: rs).flatMap fun i => (ordersGo md ops fuel (listed.setIfInBounds i true)).map (i :: ·)
theorem linearise_mem : ∀ (fuel t : Nat) (listed : Array Bool), Region.linearise.go md ops fuel t listed [] ∈ ordersGo md ops fuel listed := by
  intro fuel
  induction fuel with
  | zero => intro t listed; simp [Region.linearise.go, ordersGo]
  | succ fuel ih =>
    intro t listed
    simp only [Region.linearise.go]
    change (match (Region.ready md ops listed)[t % (Region.ready md ops listed).length]? with
      | some i => Region.linearise.go md ops fuel (t / (Region.ready md ops listed).length) (listed.setIfInBounds i true) [i]
      | none => [].reverse) ∈ _
    cases hr : Region.ready md ops listed with
    | nil => simp [ordersGo, hr]
    | cons r rs =>
      have hlt : t % (r :: rs).length < (r :: rs).length := Nat.mod_lt _ (by simp)
      have hi : (r :: rs)[t % (r :: rs).length]? = some ((r :: rs)[t % (r :: rs).length]) := List.getElem?_eq_getElem hlt
      rw [hi]
      simp only []
      rw [linearise_go_acc, List.reverse_singleton, List.singleton_append]
      simp only [ordersGo, hr]
      exact List.mem_flatMap.2 ⟨_, List.getElem_mem hlt, List.mem_map.2 ⟨_, ih _ _, rfl⟩⟩
theorem wpOpsIn_of_list : ∀ (l : List Nat) (a : Act) (w : World), wpListIn F n P ops Q (l.filterMap (ops[·]?)) a w → wpOpsIn F n P ops Q l a w := by
  intro l
  induction l with
  | nil => intro a w h; simpa [wpListIn, wpOpsIn] using h
  | cons i l ih =>
    intro a w h
    cases hi : ops[i]? with
    | none => rw [List.filterMap_cons_none hi] at h; simp only [wpOpsIn, hi]; exact ih _ _ h
    | some o =>
      rw [List.filterMap_cons_some hi] at h
      simp only [wpOpsIn, hi, wpListIn] at h ⊢
      split
      · rename_i hw; simp only [hw, if_true] at h; exact Oper.wpIn_mono (fun a w => ih a w) h
      · rename_i hw; simp only [hw] at h; exact ⟨h.1, ih _ _ h.2⟩
theorem wpIn_region_orders {id : Nat} {a : Act} {w : World} (os : List (List Nat)) (hm : P.follows .mixedOrders = true) (ho : ordersGo .any ops ops.size (Array.replicate ops.size false) = os) (h : ∀ l ∈ os, wpListIn F n P ops Q (l.filterMap (ops[·]?)) a w.drew) :
    (Code.region id ops true).wpIn F n P Q a w :=
  wpIn_region_draw fun t => by
    simp only [Region.schedule, hm, Bool.true_or, if_true]
    exact wpOpsIn_of_list _ _ _ (h _ (ho ▸ linearise_mem _ t _))
end Orders
end Go.Proofs.YtikjbocagnolmaaDoor
