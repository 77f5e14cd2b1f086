import Derived.Test.YtemomocmfggiaaaGreatDoorZTU4
import Derived.Deep.RegionHeld3
namespace Go.Proofs.YtemomocmfggiaaaGreatDoor
set_option linter.unusedVariables false
open Go.RowKit Go.Shelf FlagM
open Go.Lib (grownBy_trans grownBy_below grownBy_allocR)
attribute [local go_sem] Oper.semAt_some
theorem Clear_nil (w : World) : Calls Tryz.prog 22 #[.pointer none] w fun e w' => (∃ v, e = .returned v) ∧ w = w' := by
 go_enter Tryz.func22, Tryz.ntmps22
 go_wp2
 go_end0
 exact ⟨⟨_, rfl⟩, rfl⟩
theorem new_at (w : World) (A O : Obj) : ((w.alloc A).alloc O).heap[w.heap.size + 1]? = some O := by
 have := World.alloc_heap_new (w.alloc A) O
 rwa [show (w.alloc A).heap.size = w.heap.size + 1 by simp] at this
theorem alloc_at {w : World} {b : Nat} {o : Obj} (h : w.heap[b]? = some o) (A : Obj) : (w.alloc A).heap[b]? = some o := (Below.heap_alloc w A b (Array.getElem?_eq_some_iff.1 h).1).trans h
set_option maxRecDepth 100000 in
set_option maxHeartbeats 1000000 in
theorem Do_nil (w : World) (hG : Gl gG w) (f : Nat) (x0 x1 x2 x3 x4 x5 x6 x7 x8 x9 x10 : Value) (E Hi Lo : Int) (hrun : RunsTo [x0, x1, x2, x3, x4, x5, x6, x7, x8, x9, x10] E Hi Lo f) :
  Calls Tryz.prog 21 #[.pointer none, .agg #[x0, x1, x2, x3, x4, x5, x6, x7, x8, x9, x10]] w fun e w' => e = .returned (outV E Hi Lo f) ∧ Bel w w' := by
 unfold RunsTo at hrun
 have H := Lib.hid hrun
 clear hrun
 go_enter Tryz.func21, Tryz.ntmps21
 go_wp2_with (go_at_call 10; (with_reducible refine (H.out _ (hG.bel (((Bel.refl w).alloc _).alloc _))).mono ?_); rintro e w1 ⟨rfl, hB1⟩; have hs1 := Below.size hB1; have hB2 := (((Bel.refl w).alloc _).alloc _).trans hB1; have hR1 := (Below.block hB1 (w.heap.size + 1) (by simp)).trans (new_at _ _ _); have hR1 := alloc_at hR1 (Obj.cells #[Value.int IntKind.i64 E, Value.int IntKind.u64 Hi, Value.int IntKind.u64 Lo, Value.int IntKind.u8 ↑f] 30); have e0 := cell4_0 hR1; have e1 := cell4_1 hR1; have e2 := cell4_2 hR1; have e3 := cell4_3 hR1; have d0 := froz4 0 hR1; have d1 := froz4 1 hR1; have d2 := froz4 2 hR1; have d3 := froz4 3 hR1)
 have hs2 : w.heap.size + 1 < w1.heap.size := by simp at hs1; omega
 have hB3 := hB2.alloc (Obj.cells #[Value.int IntKind.i64 E, Value.int IntKind.u64 Hi, Value.int IntKind.u64 Lo, Value.int IntKind.u8 ↑f] 30)
 generalize w1.alloc (Obj.cells #[Value.int IntKind.i64 E, Value.int IntKind.u64 Hi, Value.int IntKind.u64 Lo, Value.int IntKind.u8 ↑f] 30) = w5 at *
 have h6 := set4 hR1 (.int .i64 E) (.int .u64 Hi) (.int .u64 Lo) (.int .u8 (f : Int))
 have g6 := gset4 w5 (w.heap.size + 1) (.int .i64 E) (.int .u64 Hi) (.int .u64 Lo) (.int .u8 (f : Int))
 generalize (((w5.setCell ⟨w.heap.size + 1, 0, none⟩ (.int .i64 E)).setCell ⟨w.heap.size + 1, 1, none⟩ (.int .u64 Hi)).setCell ⟨w.heap.size + 1, 2, none⟩ (.int .u64 Lo)).setCell ⟨w.heap.size + 1, 3, none⟩ (.int .u8 (f : Int)) = W6 at *
 have r0 := cell4_0 h6
 have r1 := cell4_1 h6
 have r2 := cell4_2 h6
 have r3 := cell4_3 h6
 refine bodyPost_ret (v := outV E Hi Lo f) (by simp [results, Tryz.results21, go_sem, r0, r1, r2, r3]) rfl ⟨rfl, ?_⟩
 exact Below.grown hB3 g6 (Below.size hB3) (fun k e => by cases e; omega)
end Go.Proofs.YtemomocmfggiaaaGreatDoor
