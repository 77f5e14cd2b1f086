import Derived.Test.YtemomocmfggiaaaGreatDoorTL1U2
import Derived.Laws.AppendOwn
namespace Go.Proofs.YtemomocmfggiaaaGreatDoor
set_option linter.unusedVariables false
open Go.RowKit Go.Shelf FlagM
open Go.Lib (grownBy_trans grownBy_below grownBy_allocR)
attribute [local go_sem] Oper.semAt_some
theorem Sticky_c (w : World) (b : Nat) (s : Int) (hb : Boxed w b tM (.int .u8 s)) : Calls Tryz.prog 23 #[.pointer (some ⟨b, 0, none⟩)] w fun e w' => e = .returned (.int .u8 s) ∧ w = w' := by
 have hc := hb.cell
 go_enter Tryz.func23, Tryz.ntmps23
 go_wp2
 go_ret
 exact ⟨rfl, rfl⟩
abbrev Out := Int × Int × Int × Nat
def outL (o : Out) : List Value := [.int .i64 o.1, .int .u64 o.2.1, .int .u64 o.2.2.1, .int .u8 (o.2.2.2 : Int)]
def outRow (o : Nat → Out) (k : Nat) : List Value := (List.range k).flatMap fun i => outL (o i)
theorem outRow_succ (o : Nat → Out) (k : Nat) : outRow o (k + 1) = outRow o k ++ outL (o k) := by
 unfold outRow; rw [List.range_succ, List.flatMap_append]; simp
def stk (o : Nat → Out) (k : Nat) : Nat := J ((List.range k).map fun i => (o i).2.2.2)
theorem stk_succ (o : Nat → Out) (k : Nat) : stk o (k + 1) = J [stk o k, (o k).2.2.2] := by
 unfold stk
 rw [List.range_succ, List.map_append, J_append, J_cons, List.map_cons, List.map_nil, Nat.mod_eq_of_lt (J_lt _)]
theorem stk_le (o : Nat → Out) (k : Nat) : stk o k ≤ 255 := by
 unfold stk; have := J_lt ((List.range k).map fun i => (o i).2.2.2); omega
theorem cell_four_new (w : World) (a0 a1 a2 a3 : Value) (t : TypeId) : ∀ (j : Nat) (u : Value), [a0, a1, a2, a3][j]? = some u → (w.alloc (.cells #[a0, a1, a2, a3] t)).cell? ((⟨w.heap.size, 0, none⟩ : Addr).add j) = some u := by
 intro j u h
 have h2 : (w.alloc (.cells #[a0, a1, a2, a3] t)).heap[w.heap.size]? = some (.cells #[a0, a1, a2, a3] t) := World.alloc_heap_new _ _
 match j, h with
 | 0, h => cases h; exact cell4_0 h2
 | 1, h => cases h; exact cell4_1 h2
 | 2, h => cases h; exact cell4_2 h2
 | 3, h => cases h; exact cell4_3 h2
theorem infoO : (Tryz.prog.info? 30).map (fun i => (i.zero, i.size, i.bytes)) = some (some (.agg #[.int .i64 0, .int .u64 0, .int .u64 0, .int .u8 0]), 4, 32) := by kernel_rfl
def entC (x : Nat → Int) (j : Nat) : Value := if j < 5 then .int .u8 (x j) else .int .u64 (x j)
abbrev entL (x : Nat → Int) : List Value := [.int .u8 (x 0), .int .u8 (x 1), .int .u8 (x 2), .int .u8 (x 3), .int .u8 (x 4), .int .u64 (x 5), .int .u64 (x 6), .int .u64 (x 7), .int .u64 (x 8), .int .u64 (x 9), .int .u64 (x 10)]
def EntsAt (w : World) (v : Value) (n : Nat) (x : Nat → Nat → Int) : Prop :=
 ∃ ad cap, v = .slice ad n cap ∧ (0 < n → ∃ b off, ad = some ⟨b, off, none⟩ ∧ b < w.heap.size ∧ ∀ i, i < n → ∀ j, j < 11 → w.cell? ⟨b, off + i * 11 + j, none⟩ = some (entC (x i) j))
set_option maxRecDepth 100000 in
set_option maxHeartbeats 2000000 in
theorem All_c (w : World) (hG : Gl gG w) (v : Value) (n : Nat) (hn : n ≤ 1000000000) (x : Nat → Nat → Int) (o : Nat → Out) (hE : EntsAt w v n x) (hrun : ∀ i, i < n → RunsTo (entL (x i)) (o i).1 (o i).2.1 (o i).2.2.1 (o i).2.2.2) (hf : ∀ i, (o i).2.2.2 ≤ 255) :
  Calls Tryz.prog 19 #[v] w fun e w' => ∃ u, e = .returned (.tuple #[u, .int .u8 (stk o n : Int)]) ∧ w'.ownsRow (w.heap.size + 1) 30 4 u n (outRow o n) ∧ Bel w w' := by
 obtain ⟨ad, cap, rfl, hcell⟩ := hE
 obtain ⟨i0, hi, hz0, hz1, hz2⟩ := info_parts infoO
 have HR := Lib.hid hrun
 clear hrun
 go_enter Tryz.func19, Tryz.ntmps19
 go_wp2_with (go_at_call 18; (with_reducible refine (New_c w).mono ?_); rintro e w' ⟨rfl, rfl⟩)
 have hM0 : Boxed (w.alloc (.cells #[.int .u8 0] tM)) w.heap.size tM (.int .u8 (stk o 0 : Int)) := Boxed.new _ _ _
 go_loopw [5, 11] (fun out i wr => ∃ k : Nat, k ≤ n ∧ i = .int .i64 (k : Int) ∧ wr.ownsRow (w.heap.size + 1) 30 4 out k (outRow o k) ∧ Boxed wr w.heap.size tM (.int .u8 (stk o k : Int)) ∧ Below w.heap.size w wr)
  (fun _ i _ => n - (intOf i).toNat)
 case atStart => exact ⟨0, Nat.zero_le _, rfl, World.ownsRow_nil _ _ _ _, hM0, (Below.refl _ w).alloc (Nat.le_refl _) _⟩
 case round =>
  obtain ⟨k, hk, rfl, hown, hM, hnx⟩ := hrel
  by_cases hlt : k < n
  ·obtain ⟨b, off, rfl, hb, hcl⟩ := hcell (by omega)
   have hx : ∀ j, j < 11 → wr.cell? ⟨b, off + k * 11 + j, none⟩ = some (entC (x k) j) := fun j hj => (hnx.cell (p := ⟨b, off + k * 11 + j, none⟩) hb).trans (hcl k hlt j hj)
   have x0 : wr.cell? ⟨b, off + k * 11, none⟩ = some (.int .u8 (x k 0)) := hx 0 (by omega)
   have x1 : wr.cell? ⟨b, off + k * 11 + 1, none⟩ = some (.int .u8 (x k 1)) := hx 1 (by omega)
   have x2 : wr.cell? ⟨b, off + k * 11 + 2, none⟩ = some (.int .u8 (x k 2)) := hx 2 (by omega)
   have x3 : wr.cell? ⟨b, off + k * 11 + 3, none⟩ = some (.int .u8 (x k 3)) := hx 3 (by omega)
   have x4 : wr.cell? ⟨b, off + k * 11 + 4, none⟩ = some (.int .u8 (x k 4)) := hx 4 (by omega)
   have x5 : wr.cell? ⟨b, off + k * 11 + 5, none⟩ = some (.int .u64 (x k 5)) := hx 5 (by omega)
   have x6 : wr.cell? ⟨b, off + k * 11 + 6, none⟩ = some (.int .u64 (x k 6)) := hx 6 (by omega)
   have x7 : wr.cell? ⟨b, off + k * 11 + 7, none⟩ = some (.int .u64 (x k 7)) := hx 7 (by omega)
   have x8 : wr.cell? ⟨b, off + k * 11 + 8, none⟩ = some (.int .u64 (x k 8)) := hx 8 (by omega)
   have x9 : wr.cell? ⟨b, off + k * 11 + 9, none⟩ = some (.int .u64 (x k 9)) := hx 9 (by omega)
   have x10 : wr.cell? ⟨b, off + k * 11 + 10, none⟩ = some (.int .u64 (x k 10)) := hx 10 (by omega)
   clear hx hcl
   have hr1 := HR.out k hlt
   have HK := Lib.hid hr1
   clear hr1
   have q1 : (k : Int) < (n : Int) := by omega
   have hfk := hf k
   have hsk := stk_le o k
   have HS := Lib.hid (stk_succ o k)
   have HO := Lib.hid (outRow_succ o k)
   have hML := hM.lt
   have hbel : Bel w wr := hnx
   have hsz := hnx.size
   have hrow : u5.ownBlock = none ∨ u5.ownBlock ≠ some w.heap.size := by
    cases hv : u5.ownBlock with
    | none => exact .inl rfl
    | some g => exact .inr (by have := (hown.lt g hv).1; simp; omega)
   go_wp2_with (first | (go_at_call 21; (with_reducible refine (Do_c _ (hG.bel (Bel.alloc hbel _)) w.heap.size (stk o k) (o k).2.2.2 hsk hfk _ _ _ _ _ _ _ _ _ _ _ (o k).1 (o k).2.1 (o k).2.2.1 (hM.alloc _) HK.out).mono ?_); rintro e w1 ⟨rfl, hM1, hg1⟩; have hs1 := hg1.size; have hown1 := (hown.alloc _).kept hg1 hrow) | (at_builtin; refine wpList_append_own _ rfl (.tmp 15) (.tmp 19) 42 rfl (w.heap.size + 1) 30 i0 (.agg #[.int .i64 0, .int .u64 0, .int .u64 0, .int .u8 0]) 4 32 Tryz.underlying42 hi hz0 hz1 hz2 rfl (by decide) _ _ _ rfl (hown1.alloc _) ⟨w1.heap.size, 0, none⟩ 1 1 (outL (o k)) rfl rfl (cell_four_new _ _ _ _ _ _) (by simp [outL, Value.oneCell']) (by unfold maxLen; omega) (by omega) (by simp at hs1 ⊢; omega) ?_; intro v' w2 hown2 hgrow _))
   have hrw : ∀ g, u5.ownBlock = some g → w.heap.size ≤ g := fun g hv => by have := (hown.lt g hv).1; omega
   have hg2 : (w1.alloc (.cells #[.int .i64 (o k).1, .int .u64 (o k).2.1, .int .u64 (o k).2.2.1, .int .u8 ((o k).2.2.2 : Int)] 30)).grownBy w2 u5.ownBlock := hgrow
   go_roundw
   case rel =>
    refine ⟨k + 1, by omega, by go_num, by rw [HO.out]; exact hown2, ?_, ?_⟩
    ·rw [HS.out]
     exact (hM1.alloc _).kept hg2 (fun e => by rcases hrow with h | h; rw [h] at e; cases e; exact h e.symm)
    ·exact Below.grown (Below.alloc (Below.grown (Below.alloc hnx hsz _) hg1 (by simp; omega) (fun g e => by cases e; exact Nat.le_refl _)) (by simp at hs1; omega) _) hg2 (by simp at hs1 ⊢; omega) hrw
   case measure => simp [intOf]; omega
  ·obtain rfl : k = n := by omega
   go_wp2_with (go_at_call 23; (with_reducible refine (Sticky_c wr w.heap.size _ hM).mono ?_); rintro e w' ⟨rfl, rfl⟩)
   go_ret2
   exact ⟨_, rfl, hown, hnx⟩
end Go.Proofs.YtemomocmfggiaaaGreatDoor
