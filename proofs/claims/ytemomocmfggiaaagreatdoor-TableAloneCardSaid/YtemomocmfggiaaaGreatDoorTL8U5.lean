import Derived.Test.YtemomocmfggiaaaGreatDoorTL7U5
namespace Go.Proofs.YtemomocmfggiaaaGreatDoor
set_option linter.unusedVariables false
open Go.RowKit Go.Shelf FlagM
open Go.Lib (grownBy_trans grownBy_below grownBy_allocR)
attribute [local go_sem] Oper.semAt_some
def flRow (o : Nat → Out) (k : Nat) : List Value := (List.range k).map fun i => .int .u8 ((o i).2.2.2 : Int)
theorem flRow_succ (o : Nat → Out) (k : Nat) : flRow o (k + 1) = flRow o k ++ [.int .u8 ((o k).2.2.2 : Int)] := by
 unfold flRow; rw [List.range_succ, List.map_append]; rfl
theorem infoFl : (Tryz.prog.info? 28).map (fun i => (i.zero, i.size, i.bytes)) = some (some (.int .u8 0), 1, 1) := by kernel_rfl
theorem cell_one_new (w : World) (a0 : Value) (t : TypeId) : ∀ (j : Nat) (u : Value), [a0][j]? = some u → (w.alloc (.cells #[a0] t)).cell? ((⟨w.heap.size, 0, none⟩ : Addr).add j) = some u := by
 intro j u h
 match j, h with
 | 0, h => cases h; exact (Boxed.new w t a0).cell
theorem stk_lt (o : Nat → Out) (k : Nat) : stk o k < 32 := by unfold stk; exact J_lt _
theorem has_lit : ∀ a b : Fin 32, bits .andNot .u8 (a.1 : Int) ((a.1 ||| b.1 : Nat) : Int) = 0 := by decide +kernel
theorem has_stk (s f : Nat) (h : s < 32) : bits .andNot .u8 (s : Int) (J [s, f] : Int) = 0 := by
 rw [J_cons, J_one, Nat.mod_eq_of_lt h]
 exact has_lit ⟨s, h⟩ ⟨f % 32, Nat.mod_lt _ (by decide)⟩
theorem J_zero (s : Nat) (h : s < 32) : J [s, 0] = s := by
 rw [J_cons, J_one, Nat.mod_eq_of_lt h]; simp
theorem Has_true (w : World) (a b : Int) (h : bits .andNot .u8 b a = 0) : Calls Tryz.prog 28 #[.int .u8 a, .int .u8 b] w fun e w' => e = .returned (.bool true) ∧ w = w' :=
 (Has_c w a b).mono fun e w' ⟨h1, h2⟩ => ⟨by rw [h1, h]; rfl, h2⟩
theorem grown_bel {A B : World} (h : Bel A B) : A.grownBy B none := ⟨Below.os h, Below.tape h, Below.output h, Below.size h, fun k hk _ => Below.block h k hk⟩
theorem own_bel {A B : World} {base : Nat} {e : TypeId} {size : Nat} {v : Value} {n : Nat} {xs : List Value} (h : A.ownsRow base e size v n xs) (hB : Bel A B) : B.ownsRow base e size v n xs :=
 h.kept (grown_bel hB) (by cases v.ownBlock <;> simp)
theorem box_bel {A B : World} {b : Nat} {t : TypeId} {v : Value} (h : Boxed A b t v) (hB : Bel A B) : Boxed B b t v := (Below.block hB b h.lt).trans h
theorem U8s_owns {W : World} {base : Nat} {v : Value} {n : Nat} (o : Nat → Out) (hf : ∀ i, (o i).2.2.2 ≤ 255) (hn : n ≤ 60) (h : W.ownsRow base 28 1 v n (flRow o n)) :
  JN.U8s W v ((List.range n).map fun i => ((o i).2.2.2 : Int)) := by
 have hl : ((List.range n).map fun i => ((o i).2.2.2 : Int)).length = n := by simp
 have hg : ∀ j, j < n → ((List.range n).map fun i => ((o i).2.2.2 : Int))[j]?.getD 0 = ((o j).2.2.2 : Int) := fun j hj => by simp [hj]
 refine ⟨fun j hj => ?_, by omega, ?_⟩
 ·rw [hl] at hj; rw [hg j hj]; have := hf j; omega
 ·rcases h.2 with ⟨rfl, rfl⟩ | ⟨g, cap, cur, rfl, _, hgg, _⟩
  ·exact .inl ⟨none, 0, rfl, rfl⟩
  ·refine .inr ⟨g, 0, cap, by rw [hl], (Array.getElem?_eq_some_iff.1 hgg).1, fun j hj => ?_⟩
   rw [hl] at hj
   have h2 := h.cells (g := g) rfl j (.int .u8 ((o j).2.2.2 : Int)) (by unfold flRow; simp [hj])
   rw [Addr.add_lit] at h2
   rw [hg j hj]; exact h2
theorem JoinFl_c (v : Value) (o : Nat → Out) (n : Nat) (w : World) (h : JN.U8s w v ((List.range n).map fun i => ((o i).2.2.2 : Int))) :
  Calls Tryz.prog 29 #[v] w fun e w' => e = .returned (.int .u8 (stk o n : Int)) ∧ Bel w w' := by
 have := JN.Join_c v _ w h
 simp only [List.map_map, Function.comp_def, Int.toNat_natCast] at this
 exact this
set_option maxRecDepth 100000 in
set_option maxHeartbeats 4000000 in
theorem TableAlone_c (hF : F_law29_goes [] = [1]) (w : World) (hG : Gl gG w) (v : Value) (n : Nat) (hn : n ≤ maxLen) (x : Nat → Nat → Int) (o : Nat → Out) (c : Nat → Int) (hE : EntsAt w v n x) (hrun : ∀ i, i < n → RunsTo (entL (x i)) (o i).1 (o i).2.1 (o i).2.2.1 (o i).2.2.2) (hf : ∀ i, (o i).2.2.2 ≤ 255)
  (hck : ∀ i, i < n → ChecksTo (entL (x i)) (c i)) (hoc : ∀ i, i < n → (c i = 0 ∧ (o i).1 = 0) ∨ (c i = 1 ∧ o i = (1, 0, 0, 0))) :
  Calls Tryz.prog 9 #[v] w fun e w' => e = .returned (.bool true) ∧ Bel w w' := by
 unfold maxLen at hn
 obtain ⟨i0, hi, hz0, hz1, hz2⟩ := info_parts infoFl
 obtain ⟨ad, cap, rfl, hcell⟩ := hE
 have HR := Lib.hid hrun
 have HC := Lib.hid hck
 clear hrun hck
 by_cases h60 : 60 < n
 ·go_enter Tryz.func9, Tryz.ntmps9
  go_wp2
  go_ret
  exact ⟨rfl, Bel.refl w⟩
 ·go_enter Tryz.func9, Tryz.ntmps9
  go_wp2_with (go_at_call 18; (with_reducible refine (New_c _).mono ?_); rintro e w' ⟨rfl, rfl⟩)
  have hM0 : Boxed ((w.alloc (.cells #[.int .u8 0] tM)).alloc (.cells #[.int .u8 0] tM)) w.heap.size tM (.int .u8 (stk o 0 : Int)) := (Boxed.new _ _ _).alloc _
  have hB0 : Boxed ((w.alloc (.cells #[.int .u8 0] tM)).alloc (.cells #[.int .u8 0] tM)) (w.heap.size + 1) tM (.int .u8 (stk (rev o n) 0 : Int)) := by
   have := Boxed.new (w.alloc (.cells #[.int .u8 0] tM)) tM (.int .u8 (stk (rev o n) 0 : Int))
   rwa [show (w.alloc (.cells #[.int .u8 0] tM)).heap.size = w.heap.size + 1 by simp] at this
  go_loopw [5, 6] (fun out i wr => ∃ k : Nat, k ≤ n ∧ i = .int .i64 (k : Int) ∧ wr.ownsRow (w.heap.size + 2) 28 1 out k (flRow o k) ∧ Boxed wr w.heap.size tM (.int .u8 (stk o k : Int)) ∧ Boxed wr (w.heap.size + 1) tM (.int .u8 (stk (rev o n) k : Int)) ∧ Below w.heap.size w wr)
   (fun _ i _ => n - (intOf i).toNat)
  case atStart => exact ⟨0, Nat.zero_le _, rfl, World.ownsRow_nil _ _ _ _, hM0, hB0, ((Below.refl _ w).alloc (Nat.le_refl _) _).alloc (by simp) _⟩
  case round =>
   obtain ⟨k, hk, rfl, hown, hM, hB, hnx⟩ := hrel
   by_cases hlt : k < n
   ·obtain ⟨b, off, rfl, hb, hcl⟩ := hcell (by omega)
    have cellsOf : ∀ i, i < n → cellsAt w b (off + i * 11) (x i) := fun i hi => by
     have hx := hcl i hi
     exact ⟨hx 0 (by omega), hx 1 (by omega), hx 2 (by omega), hx 3 (by omega), hx 4 (by omega), hx 5 (by omega), hx 6 (by omega), hx 7 (by omega), hx 8 (by omega), hx 9 (by omega), hx 10 (by omega)⟩
    have hx0 := cellsOf k hlt
    have hx := hx0.bel hb hnx
    have HY := Lib.hid (cellsOf (n - 1 - k) (by omega))
    clear hcl hcell cellsOf
    have HX := Lib.hid hx0
    clear hx0
    obtain ⟨x0, x1, x2, x3, x4, x5, x6, x7, x8, x9, x10⟩ := hx
    have hr1 := HR.out k hlt
    have HK := Lib.hid hr1
    have hr2 := HR.out (n - 1 - k) (by omega)
    have HK2 := Lib.hid hr2
    have hc1 := HC.out k hlt
    have HCK := Lib.hid hc1
    clear hr1 hr2 hc1
    have hfk := hf k
    have hfk2 := hf (n - 1 - k)
    have hsk := stk_le o k
    have hsk2 := stk_le (rev o n) k
    have HS := Lib.hid (stk_succ o k)
    have HS2 := Lib.hid (stk_succ (rev o n) k)
    have HO := Lib.hid (flRow_succ o k)
    have hML := hM.lt
    have hBL := hB.lt
    have q1 : (k : Int) < (n : Int) := by omega
    have hbel : Bel w wr := hnx
    have hsz := hnx.size
    have hrow : ∀ r, w.heap.size ≤ r → r < w.heap.size + 2 → u5.ownBlock ≠ some r := fun r h1 h2 e => by have := (hown.lt r e).1; omega
    go_wp2_with (first | (go_at_call 23; (with_reducible refine (Sticky_c wr w.heap.size _ hM).mono ?_); rintro e w' ⟨rfl, rfl⟩) | (go_at_call 21; (with_reducible refine (Do_c _ (hG.bel hbel) w.heap.size (stk o k) (o k).2.2.2 hsk hfk _ _ _ _ _ _ _ _ _ _ _ (o k).1 (o k).2.1 (o k).2.2.1 hM HK.out).mono ?_); rintro e w1 ⟨rfl, hM1, hg1⟩; have hs1 := hg1.size; have hB1 := hB.kept hg1 (fun e => by have := Option.some.inj e; omega); have hown1 := hown.kept hg1 (.inr (hrow _ (Nat.le_refl _) (by omega))); have hbel1 : Bel w w1 := Below.grown hbel hg1 hsz (fun g e => by cases e; exact Nat.le_refl _); have hbel2 := Below.alloc hbel1 (Nat.le_trans hsz hs1) (Obj.cells #[Value.int IntKind.i64 (o k).1, Value.int IntKind.u64 (o k).2.1, Value.int IntKind.u64 (o k).2.2.1, Value.int IntKind.u8 ((o k).2.2.2 : Int)] 30); have hcr := cell_four_new w1 (.int .i64 (o k).1) (.int .u64 (o k).2.1) (.int .u64 (o k).2.2.1) (.int .u8 ((o k).2.2.2 : Int)) 30; have HCR := Lib.hid hcr; clear hcr; obtain ⟨y0, y1, y2, y3, y4, y5, y6, y7, y8, y9, y10⟩ := HY.out.bel hb hbel2))
    refine (Do_c _ (hG.bel hbel2) (w.heap.size + 1) (stk (rev o n) k) (o (n - 1 - k)).2.2.2 hsk2 hfk2 _ _ _ _ _ _ _ _ _ _ _ (o (n - 1 - k)).1 (o (n - 1 - k)).2.1 (o (n - 1 - k)).2.2.1 (hB1.alloc _) HK2.out).mono ?_
    rintro e w2 ⟨rfl, hB2, hg2⟩
    have hsa : (w1.alloc (Obj.cells #[Value.int IntKind.i64 (o k).1, Value.int IntKind.u64 (o k).2.1, Value.int IntKind.u64 (o k).2.2.1, Value.int IntKind.u8 ((o k).2.2.2 : Int)] 30)).heap.size = w1.heap.size + 1 := by simp
    have hs2 := hg2.size
    rw [hsa] at hs2
    have hM2 := (hM1.alloc (Obj.cells #[Value.int IntKind.i64 (o k).1, Value.int IntKind.u64 (o k).2.1, Value.int IntKind.u64 (o k).2.2.1, Value.int IntKind.u8 ((o k).2.2.2 : Int)] 30)).kept hg2 (fun e => by have := Option.some.inj e; omega)
    have hown2 := (hown1.alloc (Obj.cells #[Value.int IntKind.i64 (o k).1, Value.int IntKind.u64 (o k).2.1, Value.int IntKind.u64 (o k).2.2.1, Value.int IntKind.u8 ((o k).2.2.2 : Int)] 30)).kept hg2 (.inr (hrow _ (by omega) (by omega)))
    have hbel3 : Bel w w2 := Below.grown hbel2 hg2 (by rw [hsa]; omega) (fun g e => by cases e; exact Nat.le_succ _)
    have hne : w1.heap.size ≠ w.heap.size + 1 := by omega
    have r0 := hg2.cell (HCR.out 0 _ rfl) (by simp [Addr.add]; exact hne)
    have r1 := hg2.cell (HCR.out 1 _ rfl) (by simp [Addr.add]; exact hne)
    have r2 := hg2.cell (HCR.out 2 _ rfl) (by simp [Addr.add]; exact hne)
    have r3 := hg2.cell (HCR.out 3 _ rfl) (by simp [Addr.add]; exact hne)
    simp only [Addr.add_lit, Nat.zero_add] at r0 r1 r2 r3
    have hrw : ∀ g, u5.ownBlock = some g → w.heap.size ≤ g ∧ g ≠ w.heap.size ∧ g ≠ w.heap.size + 1 ∧ g ≠ w1.heap.size := fun g e => by have := hown.lt g e; omega
    clear y0 y1 y2 y3 y4 y5 y6 y7 y8 y9 y10 HCR hbel2 hB1 hM1 hown1 hB hM hown
    go_wp2_with (at_builtin; refine wpList_append_own _ rfl (.tmp 40) (.tmp 43) 55 rfl (w.heap.size + 2) 28 i0 (.int .u8 0) 1 1 Tryz.underlying55 hi hz0 hz1 hz2 rfl (by decide) _ _ _ rfl (hown2.alloc _) ⟨w2.heap.size, 0, none⟩ 1 1 [.int .u8 ((o k).2.2.2 : Int)] rfl rfl (cell_one_new _ _ _) (by simp [Value.oneCell']) (by unfold maxLen; omega) (by omega) (by simp; omega) ?_; intro v' w3 hown3 hgrow _)
    have hg3 : (w2.alloc (Obj.cells #[Value.int IntKind.u8 ((o k).2.2.2 : Int)] 28)).grownBy w3 u5.ownBlock := hgrow
    have hM3 := (hM2.alloc (Obj.cells #[Value.int IntKind.u8 ((o k).2.2.2 : Int)] 28)).kept hg3 (fun e => (hrw _ e.symm).2.1 rfl)
    have hB3 := (hB2.alloc (Obj.cells #[Value.int IntKind.u8 ((o k).2.2.2 : Int)] 28)).kept hg3 (fun e => (hrw _ e.symm).2.2.1 rfl)
    have hbel4 : Bel w w3 := Below.grown (Below.alloc hbel3 (by omega) (Obj.cells #[Value.int IntKind.u8 ((o k).2.2.2 : Int)] 28)) hg3 (by simp; omega) (fun g e => (hrw g e).1)
    have s0 := hg3.cell ((World.grownBy_alloc w2 (Obj.cells #[Value.int IntKind.u8 ((o k).2.2.2 : Int)] 28) none).cell r0 (by simp)) (fun e => (hrw _ e.symm).2.2.2 rfl)
    have s1 := hg3.cell ((World.grownBy_alloc w2 (Obj.cells #[Value.int IntKind.u8 ((o k).2.2.2 : Int)] 28) none).cell r1 (by simp)) (fun e => (hrw _ e.symm).2.2.2 rfl)
    have s2 := hg3.cell ((World.grownBy_alloc w2 (Obj.cells #[Value.int IntKind.u8 ((o k).2.2.2 : Int)] 28) none).cell r2 (by simp)) (fun e => (hrw _ e.symm).2.2.2 rfl)
    have s3 := hg3.cell ((World.grownBy_alloc w2 (Obj.cells #[Value.int IntKind.u8 ((o k).2.2.2 : Int)] 28) none).cell r3 (by simp)) (fun e => (hrw _ e.symm).2.2.2 rfl)
    have hx3 := HX.out.bel hb hbel4
    clear r0 r1 r2 r3 hM2 hB2 hgrow
    have Sdef : ∀ W : World, Bel w3 W → Boxed W w.heap.size tM (.int .u8 (J [stk o k, (o k).2.2.2] : Int)) := fun W hW => (Below.block hW w.heap.size hM3.lt).trans hM3
    have hb3 : b < w3.heap.size := Nat.lt_of_lt_of_le hb (Below.size hbel4)
    have keepS : ∀ W : World, Bel w3 W → (Bel w3 W ∧ W.cell? ⟨w.heap.size, 0, none⟩ = some (.int .u8 (J [stk o k, (o k).2.2.2] : Int)) ∧ W.cell? ⟨w1.heap.size, 0, none⟩ = some (.int .i64 (o k).1) ∧ W.cell? ⟨w1.heap.size, 1, none⟩ = some (.int .u64 (o k).2.1) ∧ W.cell? ⟨w1.heap.size, 2, none⟩ = some (.int .u64 (o k).2.2.1) ∧ W.cell? ⟨w1.heap.size, 3, none⟩ = some (.int .u8 ((o k).2.2.2 : Int)) ∧ W.cell? ⟨b, off + k * 11, none⟩ = some (.int .u8 (x k 0)) ∧ W.cell? ⟨b, off + k * 11 + 1, none⟩ = some (.int .u8 (x k 1)) ∧ W.cell? ⟨b, off + k * 11 + 2, none⟩ = some (.int .u8 (x k 2)) ∧ W.cell? ⟨b, off + k * 11 + 3, none⟩ = some (.int .u8 (x k 3)) ∧ W.cell? ⟨b, off + k * 11 + 4, none⟩ = some (.int .u8 (x k 4)) ∧ W.cell? ⟨b, off + k * 11 + 5, none⟩ = some (.int .u64 (x k 5)) ∧ W.cell? ⟨b, off + k * 11 + 6, none⟩ = some (.int .u64 (x k 6)) ∧ W.cell? ⟨b, off + k * 11 + 7, none⟩ = some (.int .u64 (x k 7)) ∧ W.cell? ⟨b, off + k * 11 + 8, none⟩ = some (.int .u64 (x k 8)) ∧ W.cell? ⟨b, off + k * 11 + 9, none⟩ = some (.int .u64 (x k 9)) ∧ W.cell? ⟨b, off + k * 11 + 10, none⟩ = some (.int .u64 (x k 10))) := fun W hW => by
     have hc : ∀ (a : Addr), a.block < w3.heap.size → W.cell? a = w3.cell? a := fun a ha => Below.cell hW ha
     have hw1 : w1.heap.size < w3.heap.size := by have := hg3.size; simp at this; omega
     have hx4 := hx3.bel hb3 hW
     exact ⟨hW, (Sdef W hW).cell, (hc _ hw1).trans s0, (hc _ hw1).trans s1, (hc _ hw1).trans s2, (hc _ hw1).trans s3, hx4⟩
    have KS := Lib.hid keepS
    have RunS : ∀ W, Bel w3 W → Calls Tryz.prog 10 #[.agg (entL (x k)).toArray] W fun e W' => e = .returned (outV (o k).1 (o k).2.1 (o k).2.2.1 (o k).2.2.2) ∧ (Bel w3 W' ∧ W'.cell? ⟨w.heap.size, 0, none⟩ = some (.int .u8 (J [stk o k, (o k).2.2.2] : Int)) ∧ W'.cell? ⟨w1.heap.size, 0, none⟩ = some (.int .i64 (o k).1) ∧ W'.cell? ⟨w1.heap.size, 1, none⟩ = some (.int .u64 (o k).2.1) ∧ W'.cell? ⟨w1.heap.size, 2, none⟩ = some (.int .u64 (o k).2.2.1) ∧ W'.cell? ⟨w1.heap.size, 3, none⟩ = some (.int .u8 ((o k).2.2.2 : Int)) ∧ W'.cell? ⟨b, off + k * 11, none⟩ = some (.int .u8 (x k 0)) ∧ W'.cell? ⟨b, off + k * 11 + 1, none⟩ = some (.int .u8 (x k 1)) ∧ W'.cell? ⟨b, off + k * 11 + 2, none⟩ = some (.int .u8 (x k 2)) ∧ W'.cell? ⟨b, off + k * 11 + 3, none⟩ = some (.int .u8 (x k 3)) ∧ W'.cell? ⟨b, off + k * 11 + 4, none⟩ = some (.int .u8 (x k 4)) ∧ W'.cell? ⟨b, off + k * 11 + 5, none⟩ = some (.int .u64 (x k 5)) ∧ W'.cell? ⟨b, off + k * 11 + 6, none⟩ = some (.int .u64 (x k 6)) ∧ W'.cell? ⟨b, off + k * 11 + 7, none⟩ = some (.int .u64 (x k 7)) ∧ W'.cell? ⟨b, off + k * 11 + 8, none⟩ = some (.int .u64 (x k 8)) ∧ W'.cell? ⟨b, off + k * 11 + 9, none⟩ = some (.int .u64 (x k 9)) ∧ W'.cell? ⟨b, off + k * 11 + 10, none⟩ = some (.int .u64 (x k 10))) := fun W h => (HK.out W (hG.bel (Below.trans hbel4 (h.mono (Below.size hbel4))))).mono fun e W' ⟨h3, h4⟩ => ⟨h3, KS.out W' (h.trans h4)⟩
    have CkS : ∀ W, Bel w3 W → Calls Tryz.prog 25 #[.agg (entL (x k)).toArray] W fun e W' => e = .returned (.int .i64 (c k)) ∧ (Bel w3 W' ∧ W'.cell? ⟨w.heap.size, 0, none⟩ = some (.int .u8 (J [stk o k, (o k).2.2.2] : Int)) ∧ W'.cell? ⟨w1.heap.size, 0, none⟩ = some (.int .i64 (o k).1) ∧ W'.cell? ⟨w1.heap.size, 1, none⟩ = some (.int .u64 (o k).2.1) ∧ W'.cell? ⟨w1.heap.size, 2, none⟩ = some (.int .u64 (o k).2.2.1) ∧ W'.cell? ⟨w1.heap.size, 3, none⟩ = some (.int .u8 ((o k).2.2.2 : Int)) ∧ W'.cell? ⟨b, off + k * 11, none⟩ = some (.int .u8 (x k 0)) ∧ W'.cell? ⟨b, off + k * 11 + 1, none⟩ = some (.int .u8 (x k 1)) ∧ W'.cell? ⟨b, off + k * 11 + 2, none⟩ = some (.int .u8 (x k 2)) ∧ W'.cell? ⟨b, off + k * 11 + 3, none⟩ = some (.int .u8 (x k 3)) ∧ W'.cell? ⟨b, off + k * 11 + 4, none⟩ = some (.int .u8 (x k 4)) ∧ W'.cell? ⟨b, off + k * 11 + 5, none⟩ = some (.int .u64 (x k 5)) ∧ W'.cell? ⟨b, off + k * 11 + 6, none⟩ = some (.int .u64 (x k 6)) ∧ W'.cell? ⟨b, off + k * 11 + 7, none⟩ = some (.int .u64 (x k 7)) ∧ W'.cell? ⟨b, off + k * 11 + 8, none⟩ = some (.int .u64 (x k 8)) ∧ W'.cell? ⟨b, off + k * 11 + 9, none⟩ = some (.int .u64 (x k 9)) ∧ W'.cell? ⟨b, off + k * 11 + 10, none⟩ = some (.int .u64 (x k 10))) := fun W h => (HCK.out W (hG.bel (Below.trans hbel4 (h.mono (Below.size hbel4))))).mono fun e W' ⟨h3, h4⟩ => ⟨h3, KS.out W' (h.trans h4)⟩
    have HRun := Lib.hid RunS
    have HCk := Lib.hid CkS
    have HSd := Lib.hid Sdef
    have hS0 := keepS w3 (Bel.refl w3)
    clear RunS CkS keepS Sdef
    have ho := hoc k hlt
    have ho2 : (c k = 0 ∧ (o k).1 = 0) ∨ (c k = 1 ∧ (o k).1 = 1 ∧ (o k).2.1 = 0 ∧ (o k).2.2.1 = 0 ∧ (o k).2.2.2 = 0) := by
     rcases ho with h | ⟨h1, h2⟩
     ·exact .inl h
     ·rw [h2]; exact .inr ⟨h1, rfl, rfl, rfl, rfl⟩
    clear ho
    have hlt32 : stk o k < 32 := stk_lt o k
    generalize hJs : J [stk o k, (o k).2.2.2] = sJ at *
    generalize (o k).1 = oE at *
    generalize (o k).2.1 = oH at *
    generalize (o k).2.2.1 = oL at *
    generalize (o k).2.2.2 = oF at *
    generalize hFi : (oF : Int) = oI at *
    generalize c k = cE at *
    rcases ho2 with ⟨rfl, rfl⟩ | ⟨rfl, rfl, rfl, rfl, rfl⟩
    ·have hHas : bits .andNot .u8 (stk o k : Int) (sJ : Int) = 0 := by rw [← hJs]; exact has_stk _ _ hlt32
     have hJoin : ∀ (W : World) (c : Nat), Calls Tryz.prog 29 #[.slice (some ⟨W.heap.size, 0, none⟩) 2 c] (W.alloc (.cells #[.int .u8 (stk o k : Int), .int .u8 oI] 28)) fun e w' => e = .returned (.int .u8 (sJ : Int)) ∧ Bel (W.alloc (.cells #[.int .u8 (stk o k : Int), .int .u8 oI] 28)) w' := fun W c => by
      rw [← hJs, ← hFi]; exact Join2_c W _ _ (stk_le _ _) hfk c _ rfl
     go_region_held3 (fun W => (Bel w3 W ∧ W.cell? ⟨w.heap.size, 0, none⟩ = some (.int .u8 (sJ : Int)) ∧ W.cell? ⟨w1.heap.size, 0, none⟩ = some (.int .i64 0) ∧ W.cell? ⟨w1.heap.size, 1, none⟩ = some (.int .u64 oH) ∧ W.cell? ⟨w1.heap.size, 2, none⟩ = some (.int .u64 oL) ∧ W.cell? ⟨w1.heap.size, 3, none⟩ = some (.int .u8 oI) ∧ W.cell? ⟨b, off + k * 11, none⟩ = some (.int .u8 (x k 0)) ∧ W.cell? ⟨b, off + k * 11 + 1, none⟩ = some (.int .u8 (x k 1)) ∧ W.cell? ⟨b, off + k * 11 + 2, none⟩ = some (.int .u8 (x k 2)) ∧ W.cell? ⟨b, off + k * 11 + 3, none⟩ = some (.int .u8 (x k 3)) ∧ W.cell? ⟨b, off + k * 11 + 4, none⟩ = some (.int .u8 (x k 4)) ∧ W.cell? ⟨b, off + k * 11 + 5, none⟩ = some (.int .u64 (x k 5)) ∧ W.cell? ⟨b, off + k * 11 + 6, none⟩ = some (.int .u64 (x k 6)) ∧ W.cell? ⟨b, off + k * 11 + 7, none⟩ = some (.int .u64 (x k 7)) ∧ W.cell? ⟨b, off + k * 11 + 8, none⟩ = some (.int .u64 (x k 8)) ∧ W.cell? ⟨b, off + k * 11 + 9, none⟩ = some (.int .u64 (x k 9)) ∧ W.cell? ⟨b, off + k * 11 + 10, none⟩ = some (.int .u64 (x k 10)))) (first | exact hS' | ((try dsimp only); (repeat' apply And.intro) <;> first | assumption | exact (Bel.refl _).drew | exact Bel.alloc (by first | assumption | exact And.left (by assumption)) _ | go_keep))
      (first | (go_at_call 10; refine (HRun.out _ (by first | assumption | exact And.left (by assumption) | exact Bel.alloc (by first | assumption | exact And.left (by assumption)) _)).mono ?_; rintro e w' ⟨rfl, hS'⟩) | (go_at_call 25; refine (HCk.out _ (by first | assumption | exact And.left (by assumption) | exact Bel.alloc (by first | assumption | exact And.left (by assumption)) _)).mono ?_; rintro e w' ⟨rfl, hS'⟩) | (go_at_call 28; refine (Has_true _ _ _ hHas).mono ?_; rintro e w' ⟨rfl, rfl⟩) | (go_at_call 23; refine (Sticky_c _ w.heap.size _ (HSd.out _ (by first | assumption | exact And.left (by assumption) | exact Bel.alloc (by first | assumption | exact And.left (by assumption)) _))).mono ?_; rintro e w' ⟨rfl, rfl⟩) | (go_at_call 29; refine (hJoin _ _).mono ?_; rintro e w' ⟨rfl, hJB⟩; have hS' := KS.out _ (Bel.trans (Bel.alloc (by first | assumption | exact And.left (by assumption)) _) hJB)))
     all_goals
      obtain ⟨hB5, m0, r0, r1, r2, r3, -⟩ := hS'
      go_wp2_with (go_at_call 23; (with_reducible refine (Sticky_c _ w.heap.size _ (HSd.out _ hB5)).mono ?_); rintro e w' ⟨rfl, rfl⟩)
      go_roundw
      case rel => exact ⟨k + 1, by omega, by go_num, by rw [HO.out]; exact own_bel hown3 hB5, by rw [HS.out]; exact HSd.out _ hB5, by rw [HS2.out]; exact box_bel hB3 hB5, hbel4.trans hB5⟩
      case measure => simp [intOf]; omega
    ·obtain rfl : oI = 0 := by rw [← hFi]; rfl
     obtain rfl : sJ = stk o k := by rw [← hJs]; exact J_zero _ hlt32
     have hHas : bits .andNot .u8 (stk o k : Int) (stk o k : Int) = 0 := by
      have := has_stk (stk o k) 0 hlt32
      rwa [J_zero _ hlt32] at this
     have hJoin : ∀ (W : World) (c : Nat), Calls Tryz.prog 29 #[.slice (some ⟨W.heap.size, 0, none⟩) 2 c] (W.alloc (.cells #[.int .u8 (stk o k : Int), .int .u8 0] 28)) fun e w' => e = .returned (.int .u8 (stk o k : Int)) ∧ Bel (W.alloc (.cells #[.int .u8 (stk o k : Int), .int .u8 0] 28)) w' := fun W c => by
      have := Join2_c W (stk o k) 0 (stk_le _ _) (by omega) c _ rfl
      rw [J_zero _ hlt32] at this
      exact this
     go_region_held3 (fun W => (Bel w3 W ∧ W.cell? ⟨w.heap.size, 0, none⟩ = some (.int .u8 (stk o k : Int)) ∧ W.cell? ⟨w1.heap.size, 0, none⟩ = some (.int .i64 1) ∧ W.cell? ⟨w1.heap.size, 1, none⟩ = some (.int .u64 0) ∧ W.cell? ⟨w1.heap.size, 2, none⟩ = some (.int .u64 0) ∧ W.cell? ⟨w1.heap.size, 3, none⟩ = some (.int .u8 0) ∧ W.cell? ⟨b, off + k * 11, none⟩ = some (.int .u8 (x k 0)) ∧ W.cell? ⟨b, off + k * 11 + 1, none⟩ = some (.int .u8 (x k 1)) ∧ W.cell? ⟨b, off + k * 11 + 2, none⟩ = some (.int .u8 (x k 2)) ∧ W.cell? ⟨b, off + k * 11 + 3, none⟩ = some (.int .u8 (x k 3)) ∧ W.cell? ⟨b, off + k * 11 + 4, none⟩ = some (.int .u8 (x k 4)) ∧ W.cell? ⟨b, off + k * 11 + 5, none⟩ = some (.int .u64 (x k 5)) ∧ W.cell? ⟨b, off + k * 11 + 6, none⟩ = some (.int .u64 (x k 6)) ∧ W.cell? ⟨b, off + k * 11 + 7, none⟩ = some (.int .u64 (x k 7)) ∧ W.cell? ⟨b, off + k * 11 + 8, none⟩ = some (.int .u64 (x k 8)) ∧ W.cell? ⟨b, off + k * 11 + 9, none⟩ = some (.int .u64 (x k 9)) ∧ W.cell? ⟨b, off + k * 11 + 10, none⟩ = some (.int .u64 (x k 10)))) (first | exact hS' | ((try dsimp only); (repeat' apply And.intro) <;> first | assumption | exact (Bel.refl _).drew | exact Bel.alloc (by first | assumption | exact And.left (by assumption)) _ | go_keep))
      (first | (go_at_call 10; refine (HRun.out _ (by first | assumption | exact And.left (by assumption) | exact Bel.alloc (by first | assumption | exact And.left (by assumption)) _)).mono ?_; rintro e w' ⟨rfl, hS'⟩) | (go_at_call 25; refine (HCk.out _ (by first | assumption | exact And.left (by assumption) | exact Bel.alloc (by first | assumption | exact And.left (by assumption)) _)).mono ?_; rintro e w' ⟨rfl, hS'⟩) | (go_at_call 28; refine (Has_true _ _ _ hHas).mono ?_; rintro e w' ⟨rfl, rfl⟩) | (go_at_call 23; refine (Sticky_c _ w.heap.size _ (HSd.out _ (by first | assumption | exact And.left (by assumption) | exact Bel.alloc (by first | assumption | exact And.left (by assumption)) _))).mono ?_; rintro e w' ⟨rfl, rfl⟩) | (go_at_call 29; refine (hJoin _ _).mono ?_; rintro e w' ⟨rfl, hJB⟩; have hS' := KS.out _ (Bel.trans (Bel.alloc (by first | assumption | exact And.left (by assumption)) _) hJB)))
     all_goals
      obtain ⟨hB5, m0, r0, r1, r2, r3, -⟩ := hS'
      go_wp2_with (go_at_call 23; (with_reducible refine (Sticky_c _ w.heap.size _ (HSd.out _ hB5)).mono ?_); rintro e w' ⟨rfl, rfl⟩)
      go_roundw
      case rel => exact ⟨k + 1, by omega, by go_num, by rw [HO.out]; exact own_bel hown3 hB5, by rw [HS.out]; exact HSd.out _ hB5, by rw [HS2.out]; exact box_bel hB3 hB5, hbel4.trans hB5⟩
      case measure => simp [intOf]; omega
   ·obtain rfl : k = n := by omega
    have hEr : EntsAt wr (.slice ad k cap) k x := ⟨ad, cap, rfl, fun h0 => by
     obtain ⟨b, off, h1, hb, hcl⟩ := hcell h0
     exact ⟨b, off, h1, Nat.lt_of_lt_of_le hb (Below.size hnx), fun i hi j hj => (hnx.cell (p := ⟨b, off + i * 11 + j, none⟩) hb).trans (hcl i hi j hj)⟩⟩
    have HE := Lib.hid hEr
    have hbel : Bel w wr := hnx
    have HGr := Lib.hid (hG.bel hbel)
    have HO := Lib.hid hown
    have HM := Lib.hid hM
    have HB := Lib.hid hB
    have hst := stk_rev o k
    rw [hst] at HB
    clear hcell hEr hown hM hB
    go_wp2_with (first | (go_at_call 19; refine (All_c _ HGr.out _ k (by omega) x o HE.out HR.out hf).mono ?_; rintro e w4 ⟨u, rfl, -, hB4⟩; have hM4 : Boxed w4 w.heap.size tM (.int .u8 (stk o k : Int)) := box_bel HM.out hB4; have hN4 : Boxed w4 (w.heap.size + 1) tM (.int .u8 (stk o k : Int)) := box_bel HB.out hB4; have HU4 := Lib.hid (U8s_owns o hf (by omega) (own_bel HO.out hB4)); have HG4 := Lib.hid (HGr.out.bel hB4)) | (go_at_call 23; first | (with_reducible refine (Sticky_c _ w.heap.size _ (by assumption)).mono ?_); rintro e w' ⟨rfl, rfl⟩ | (with_reducible refine (Sticky_c _ (w.heap.size + 1) _ (by assumption)).mono ?_); rintro e w' ⟨rfl, rfl⟩) | (go_at_call 29; refine (JoinFl_c _ o k _ HU4.out).mono ?_; rintro e w5 ⟨rfl, hB5⟩; have hM5 := box_bel hM4 hB5; have HG5 := Lib.hid (HG4.out.bel hB5)) | (go_at_call 11; refine (goes_c hF _ HG5.out).mono ?_; rintro e w6 ⟨rfl, hB6⟩))
    go_ret
    exact ⟨rfl, hbel.trans (hB4.trans (hB5.trans hB6))⟩
end Go.Proofs.YtemomocmfggiaaaGreatDoor
