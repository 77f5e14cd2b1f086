/- wide: sums and differences, walked (a range over a function). -/
import Derived.Test.YtikjbocagnolmaaDoorW2
import Derived.Test.YtikjbocagnolmaaDoorReg
namespace Go.Proofs.YtikjbocagnolmaaDoor
set_option linter.unusedVariables false
open Go.RowKit Go.Shelf
attribute [local go_sem] Oper.semAt_some
def upto : Nat → List (Fin 4)
  | 0 => []
  | k + 1 => if h : k < 4 then upto k ++ [⟨k, h⟩] else upto k
theorem upto_succ {k : Nat} (hk : k < 4) : upto (k + 1) = upto k ++ [⟨k, hk⟩] := by simp [upto, hk]
theorem upto_len : ∀ k, k ≤ 4 → (upto k).length = k
  | 0, _ => rfl
  | k + 1, h => by rw [upto_succ (by omega), List.length_append, upto_len k (by omega)]; rfl
set_option maxRecDepth 100000 in
set_option maxHeartbeats 2000000 in
theorem places1_in (F : Fence) (n : Nat) (h7 : F.fn 135) (hro : F.round = none) (hn : 1 ≤ n) (l : Nat) (J Jx : List (Fin 4) → World → Prop)
    (hY : ∀ pre x W, J pre W → pre.length < 4 → YieldAt F (n - 1) Tryd.prog l #[.int .i64 (x.1 : Int)] W fun e W' =>
      (e = .returned (.bool true) ∧ J (pre ++ [x]) W' ∧ True) ∨ (e = .returned (.bool false) ∧ Jx (pre ++ [x]) W'))
    (W : World) (h0 : J [] W) :
    CallsIn F n Tryd.prog 135 #[.func (.yield l) #[] #[]] W fun e W' => (∃ v, e = .returned v) ∧
      ((∃ ys, ys = upto 4 ∧ J ys W') ∨ (∃ pre, True ∧ Jx pre W')) := by
  refine callsIn_of_wp Tryd.func135 rfl h7 ?_ hro
  simp only [Tryd.ntmps135, List.size_toArray, List.length_cons, List.length_nil, Nat.reduceAdd, Nat.reduceSub, Array.replicate_succ, Array.replicate_zero, List.push_toArray, List.append_toArray, List.nil_append, List.cons_append]
  gi_wp2
  gi_loopw [2] (fun i wr => ∃ k : Nat, k ≤ 4 ∧ i = .int .i64 k ∧ J (upto k) wr)
    (fun i _ => 4 - (intOf i).toNat)
  case atStart => exact ⟨0, Nat.zero_le _, rfl, h0⟩
  case round =>
    obtain ⟨k, hk, rfl, hJs⟩ := hrel
    by_cases hlt : k < 4
    · have Hs := Lib.hid (upto_succ hlt)
      have hlen := upto_len k hk
      obtain ⟨fn, tmps, assign, body, hy, hR⟩ := hY _ ⟨k, hlt⟩ wr hJs (by omega)
      dsimp only at hy
      gi_wp2
      refine hR.mono ?_
      rintro e W3 (⟨rfl, hJ3, -⟩ | ⟨rfl, hJx3⟩)
      · gi_wp2
        go_roundw
        case rel => exact ⟨k + 1, by omega, by simp, by rw [Hs.out]; exact hJ3⟩
        case measure => simp [intOf]; omega
      · gi_wp2
        go_end0
        exact ⟨⟨_, rfl⟩, .inr ⟨_, trivial, hJx3⟩⟩
    · obtain rfl : k = 4 := by omega
      gi_wp2
      refine ⟨fun _ h => (by cases h), ?_⟩
      gi_wp2
      go_end0
      exact ⟨⟨_, rfl⟩, .inl ⟨_, rfl, hJs⟩⟩
theorem places_stops (F : Fence) (n : Nat) (h7 : F.fn 135) (hro : F.round = none) (hn : 1 ≤ n) (w : World) :
    SeqStopsK F n Tryd.prog 135 #[] (fun x : Fin 4 => #[Value.int .i64 (x.1 : Int)]) (fun _ _ => True) (fun ys => ys = upto 4)
      (fun _ => True) 4 w := fun l J Jx W hW _ _ hY h0 => 
  places1_in F n h7 hro hn l J Jx hY W h0
theorem places_in (F : Fence) (n : Nat) (h5 : F.fn 127) (hro : F.round = none) (w : World) :
    CallsIn F n Tryd.prog 127 #[] w fun e w' => e = .returned (.func (.func 135) #[] #[]) ∧ w' = w := by
  refine callsIn_of_wp Tryd.func127 rfl h5 ?_ hro
  simp only [Tryd.ntmps127, List.size_toArray, List.length_nil, Nat.reduceSub, Array.replicate_succ, Array.replicate_zero, List.push_toArray, List.append_toArray, List.nil_append]
  gi_wp2
  go_ret
  exact ⟨rfl, rfl⟩
/-- one step of a chain: the sum's word, what is carried -/
structure Chained (one : Nat) (f g : Int → Int → Int → Int) : Prop where
  run : ∀ x y c w, U64 x → U64 y → 0 ≤ c ∧ c ≤ 1 → (callFunc one #[.int .u64 x, .int .u64 y, .int .u64 c]).run Tryd.prog w = .ok (.value (.tuple #[.int .u64 (f x y c), .int .u64 (g x y c)])) w
  carry : ∀ x y c, U64 x → U64 y → 0 ≤ c ∧ c ≤ 1 → 0 ≤ g x y c ∧ g x y c ≤ 1
def stC (f g : Int → Int → Int → Int) (a b : Nat) (pre : List (Fin 4)) : Array Value × Int :=
  pre.foldl (fun s x => (s.1.setIfInBounds x.1 (.int .u64 (f (wd a x.1) (wd b x.1) s.2)), g (wd a x.1) (wd b x.1) s.2)) (#[.int .u64 0, .int .u64 0, .int .u64 0, .int .u64 0], 0)
theorem stC_snoc (f g : Int → Int → Int → Int) (a b : Nat) (pre : List (Fin 4)) (x : Fin 4) :
    stC f g a b (pre ++ [x]) = ((stC f g a b pre).1.setIfInBounds x.1 (.int .u64 (f (wd a x.1) (wd b x.1) (stC f g a b pre).2)), g (wd a x.1) (wd b x.1) (stC f g a b pre).2) := by simp [stC]
theorem stC_size (f g : Int → Int → Int → Int) (a b : Nat) (pre : List (Fin 4)) : (stC f g a b pre).1.size = 4 := by
  unfold stC
  suffices h : ∀ (pre : List (Fin 4)) (s : Array Value × Int), s.1.size = 4 → (pre.foldl (fun s x => (s.1.setIfInBounds x.1 (Value.int .u64 (f (wd a x.1) (wd b x.1) s.2)), g (wd a x.1) (wd b x.1) s.2)) s).1.size = 4 from h pre _ rfl
  intro pre
  induction pre with
  | nil => intro s h; exact h
  | cons x xs ih => intro s h; exact ih _ (by simp [h])
theorem stC_carry {one : Nat} {f g : Int → Int → Int → Int} (hc : Chained one f g) (a b : Nat) (pre : List (Fin 4)) : 0 ≤ (stC f g a b pre).2 ∧ (stC f g a b pre).2 ≤ 1 := by
  unfold stC
  suffices h : ∀ (pre : List (Fin 4)) (s : Array Value × Int), 0 ≤ s.2 ∧ s.2 ≤ 1 → 0 ≤ (pre.foldl (fun s x => (s.1.setIfInBounds x.1 (Value.int .u64 (f (wd a x.1) (wd b x.1) s.2)), g (wd a x.1) (wd b x.1) s.2)) s).2 ∧ (pre.foldl (fun s x => (s.1.setIfInBounds x.1 (Value.int .u64 (f (wd a x.1) (wd b x.1) s.2)), g (wd a x.1) (wd b x.1) s.2)) s).2 ≤ 1 from h pre _ (by decide)
  intro pre
  induction pre with
  | nil => intro s h; exact h
  | cons x xs ih => intro s h; exact ih _ (hc.carry _ _ _ (wd_u64 _ _) (wd_u64 _ _) h)
theorem blk_own {β : Type} (B : Nat) (t : TypeId) (f : β → Array Value) : Own (fun s W => W.heap[B]? = some (.cells (f s) t (0, 0))) := fun s X Y row hs hg hrow => by
  have hlt := heap_lt hs
  have hb := hg.block B hlt (fun e' => by obtain ⟨o, ho, hc⟩ := hrow B e'.symm; rw [show X.heap[B]? = _ from hs] at ho; cases ho; cases hc)
  exact hb.trans hs
theorem vW_get (a : Nat) (x : Fin 4) : (#[Value.int .u64 (wd a 0), .int .u64 (wd a 1), .int .u64 (wd a 2), .int .u64 (wd a 3)])[x.1]? = some (.int .u64 (wd a x.1)) :=
  match x with | 0 => rfl | 1 => rfl | 2 => rfl | 3 => rfl
set_option maxRecDepth 100000 in
set_option maxHeartbeats 4000000 in
theorem chain_in {one : Nat} {f g : Int → Int → Int → Int} (hC : Chained one f g) (F : Fence) (n : Nat) (h1 : F.fn 118) (h2 : F.fn 127) (h3 : F.fn 135) (h4 : F.fn one) (hro : F.round = none) (hn : 3 ≤ n) (a b : Nat) (w : World) (r0 r1 r2 r3 rc : Int)
    (hst : stC f g a b (upto 4) = (#[.int .u64 r0, .int .u64 r1, .int .u64 r2, .int .u64 r3], rc)) :
    CallsIn F n Tryd.prog 118 #[vW a, vW b, .func (.func one) #[] #[]] w fun e w' => e = .returned (.tuple #[.agg #[.int .u64 r0, .int .u64 r1, .int .u64 r2, .int .u64 r3], .bool (rc != 0)]) ∧ Bel w w' := by
  have hn1 : 1 ≤ n := by omega
  refine callsIn_of_wp_marks Tryd.func118 rfl h1 ?_ hro
  simp only [Tryd.ntmps118, List.size_toArray, List.length_cons, List.length_nil, Nat.reduceAdd, Nat.reduceSub, Array.replicate_succ, Array.replicate_zero, List.push_toArray, List.append_toArray, List.nil_append, List.cons_append]
  gi_wp2_with (gi_at_call 127; refine (places_in F (n - 1) h2 hro _).mono ?_; rintro e w' ⟨rfl, rfl⟩)
  have hB0 : Below w.heap.size w ((((((w.alloc (.cells #[.int .u64 (wd a 0), .int .u64 (wd a 1), .int .u64 (wd a 2), .int .u64 (wd a 3)] 53)).alloc (.cells #[.int .u64 (wd b 0), .int .u64 (wd b 1), .int .u64 (wd b 2), .int .u64 (wd b 3)] 53)).alloc (.cells #[.func (.func one) #[] #[]] 135)).alloc (.cells #[.int .u64 0, .int .u64 0, .int .u64 0, .int .u64 0] 53)).alloc (.cells #[.int .u64 0, .int .u64 0, .int .u64 0, .int .u64 0] 53)).alloc (.cells #[.int .u64 0] 26)) := ((((((Bel.refl w).alloc _).alloc _).alloc _).alloc _).alloc _).alloc _
  refine wpIn_rangeFunc_ownG hro hn1 (gf := 135) (lb := #[]) rfl h3 (enters_of Tryd.func135 (by kernel_rfl) rfl)
    (places_stops F (n - 1) h3 hro (by omega) _) (fun _ _ => trivial) (fun _ _ _ _ _ _ _ _ => trivial) (Below.refl _ _) (fun _ => rfl)
    (fun pre W => (((W.heap[w.heap.size]? = some (.cells #[.int .u64 (wd a 0), .int .u64 (wd a 1), .int .u64 (wd a 2), .int .u64 (wd a 3)] 53 (0, 0)) ∧ W.heap[w.heap.size + 1]? = some (.cells #[.int .u64 (wd b 0), .int .u64 (wd b 1), .int .u64 (wd b 2), .int .u64 (wd b 3)] 53 (0, 0))) ∧
      (W.heap[w.heap.size + 1 + 1]? = some (.cells #[.func (.func one) #[] #[]] 135 (0, 0)) ∧ W.heap[w.heap.size + 1 + 1 + 1]? = some (.cells #[.int .u64 0, .int .u64 0, .int .u64 0, .int .u64 0] 53 (0, 0)))) ∧
      (W.heap[w.heap.size + 1 + 1 + 1 + 1]? = some (.cells (stC f g a b pre).1 53 (0, 0)) ∧ W.heap[w.heap.size + 1 + 1 + 1 + 1 + 1]? = some (.cells #[.int .u64 (stC f g a b pre).2] 26 (0, 0)))) ∧ Below w.heap.size w W)
    (fun _ _ _ => False)
    (OwnFrom.and (OwnFrom.and (OwnFrom.and (OwnFrom.and (Own.from (blk_own _ _ _) _) (Own.from (blk_own _ _ _) _)) (OwnFrom.and (Own.from (blk_own _ _ _) _) (Own.from (blk_own _ _ _) _))) (OwnFrom.and (Own.from (blk_own _ _ _) _) (Own.from (blk_own _ _ (fun pre => #[.int .u64 (stC f g a b pre).2])) _))) (ownFrom_below (Nat.le_refl _) (by simp; omega)))
    (fun _ _ _ _ _ hs _ _ => hs)
    ⟨⟨⟨⟨heap_alloc (heap_alloc (heap_alloc (heap_alloc (heap_alloc (heap_new _ _) _) _) _) _) _, heap_alloc (heap_alloc (heap_alloc (heap_alloc (heap_new1 _ _ _) _) _) _) _⟩, heap_alloc (heap_alloc (heap_alloc (heap_new2 _ _ _ _) _) _) _, heap_alloc (heap_alloc (heap_new3 _ _ _ _ _) _) _⟩, heap_alloc (heap_new4 _ _ _ _ _ _) _, heap_new5 _ _ _ _ _ _ _⟩, hB0⟩
    (fun x => { tmps := #[vW a, vW b, .func (.func one) #[] #[], .pointer (some ⟨w.heap.size, 0, none⟩), .pointer (some ⟨w.heap.size + 1, 0, none⟩), .pointer (some ⟨w.heap.size + 1 + 1, 0, none⟩), .pointer (some ⟨w.heap.size + 1 + 1 + 1, 0, none⟩), .bool false, .pointer (some ⟨w.heap.size + 1 + 1 + 1 + 1, 0, none⟩), .pointer (some ⟨w.heap.size + 1 + 1 + 1 + 1 + 1, 0, none⟩), .int .i64 (x.1 : Int), .func (.func 135) #[] #[], .int .i64 (x.1 : Int), undef, undef, undef, undef, undef, undef, undef, undef, undef, undef, undef, undef, undef, undef, undef, undef, undef], defers := [] }) ?assign ?body ?done ?stop
  case assign =>
    intro l x W K hK
    gi_wp2
    exact hK
  case body =>
    rintro l pre x V ⟨⟨⟨⟨bA, bB⟩, bF, bR⟩, bO, bC⟩, hB⟩ hlt
    have hx : (x.1 : Int) < 4 := by have := x.2; omega
    obtain ⟨v0, hv0⟩ : ∃ v, (stC f g a b pre).1[x.1]? = some v := ⟨_, Array.getElem?_eq_getElem (by rw [stC_size]; exact x.2)⟩
    gi_wp2
    refine wpIn_region_inv (fun (L : Nat → Bool) (A : Act) (W : World) => ∃ u14 u15 u16 u17 u18 u19 u20 u21 u22 u23 u13 u24 u25 u26 : Value, A = ⟨#[vW a, vW b, Value.func (Fn.func one) #[] #[], Value.pointer (some { block := w.heap.size, off := 0 }), Value.pointer (some { block := w.heap.size + 1, off := 0 }), Value.pointer (some { block := w.heap.size + 1 + 1, off := 0 }), Value.pointer (some { block := w.heap.size + 1 + 1 + 1, off := 0 }), Value.bool false, Value.pointer (some { block := w.heap.size + 1 + 1 + 1 + 1, off := 0 }), Value.pointer (some { block := w.heap.size + 1 + 1 + 1 + 1 + 1, off := 0 }), Value.int IntKind.i64 ↑↑x, Value.func (Fn.func 135) #[] #[], Value.int IntKind.i64 ↑↑x, u13, u14, u15, u16, u17, u18, u19, u20, u21, u22, u23, u24, u25, u26, undef, undef, undef], []⟩ ∧ Bel w W ∧ KeepsOthers V W ∧ W.heap[w.heap.size]? = some (.cells #[.int .u64 (wd a 0), .int .u64 (wd a 1), .int .u64 (wd a 2), .int .u64 (wd a 3)] 53 (0, 0)) ∧ W.heap[w.heap.size + 1]? = some (.cells #[.int .u64 (wd b 0), .int .u64 (wd b 1), .int .u64 (wd b 2), .int .u64 (wd b 3)] 53 (0, 0)) ∧ W.heap[w.heap.size + 1 + 1]? = some (.cells #[.func (.func one) #[] #[]] 135 (0, 0)) ∧ W.heap[w.heap.size + 1 + 1 + 1]? = some (.cells #[.int .u64 0, .int .u64 0, .int .u64 0, .int .u64 0] 53 (0, 0)) ∧ W.heap[w.heap.size + 1 + 1 + 1 + 1]? = some (.cells (bif L 14 then ((stC f g a b pre).1.setIfInBounds x.1 (.int .u64 (f (wd a x.1) (wd b x.1) (stC f g a b pre).2))) else (stC f g a b pre).1) 53 (0, 0)) ∧ W.heap[w.heap.size + 1 + 1 + 1 + 1 + 1]? = some (.cells (bif L 15 then #[.int .u64 (g (wd a x.1) (wd b x.1) (stC f g a b pre).2)] else #[.int .u64 (stC f g a b pre).2]) 26 (0, 0)) ∧ (L 0 = true → u14 = Value.int IntKind.i64 ↑↑x) ∧ (L 1 = true → u15 = .func (.func one) #[] #[]) ∧ (L 2 = true → u16 = Value.int IntKind.i64 ↑↑x) ∧ (L 3 = true → u17 = .pointer (some ⟨w.heap.size, x.1, none⟩)) ∧ (L 4 = true → u18 = .int .u64 (wd a x.1)) ∧ (L 5 = true → u19 = Value.int IntKind.i64 ↑↑x) ∧ (L 6 = true → u20 = .pointer (some ⟨w.heap.size + 1, x.1, none⟩)) ∧ (L 7 = true → u21 = .int .u64 (wd b x.1)) ∧ (L 8 = true → u22 = .int .u64 (stC f g a b pre).2) ∧ (L 9 = true → u23 = .tuple #[.int .u64 (f (wd a x.1) (wd b x.1) (stC f g a b pre).2), .int .u64 (g (wd a x.1) (wd b x.1) (stC f g a b pre).2)]) ∧ (L 10 = true → u13 = .tuple #[.int .u64 (f (wd a x.1) (wd b x.1) (stC f g a b pre).2), .int .u64 (g (wd a x.1) (wd b x.1) (stC f g a b pre).2)]) ∧ (L 11 = true → u24 = .int .u64 (f (wd a x.1) (wd b x.1) (stC f g a b pre).2)) ∧ (L 12 = true → u25 = .int .u64 (g (wd a x.1) (wd b x.1) (stC f g a b pre).2)) ∧ (L 13 = true → u26 = .pointer (some ⟨w.heap.size + 1 + 1 + 1 + 1, x.1, none⟩))) (by kernel_rfl) (by kernel_rfl) ?h0 ⟨?s0, ?s1, ?s2, ?s3, ?s4, ?s5, ?s6, ?s7, ?s8, ?s9, ?s10, ?s11, ?s12, ?s13, ?s14, ?s15, trivial⟩ ?hd
    case h0 =>
      exact ⟨_, _, _, _, _, _, _, _, _, _, _, _, _, _, rfl, (Bel.drew hB), ⟨Nat.le_refl _, fun _ _ hk _ => hk⟩, bA, bB, bF, bR, bO, bC, fun h => absurd h Bool.false_ne_true, fun h => absurd h Bool.false_ne_true, fun h => absurd h Bool.false_ne_true, fun h => absurd h Bool.false_ne_true, fun h => absurd h Bool.false_ne_true, fun h => absurd h Bool.false_ne_true, fun h => absurd h Bool.false_ne_true, fun h => absurd h Bool.false_ne_true, fun h => absurd h Bool.false_ne_true, fun h => absurd h Bool.false_ne_true, fun h => absurd h Bool.false_ne_true, fun h => absurd h Bool.false_ne_true, fun h => absurd h Bool.false_ne_true, fun h => absurd h Bool.false_ne_true⟩
    case s0 =>
      rintro L _ W K ⟨u14, u15, u16, u17, u18, u19, u20, u21, u22, u23, u13, u24, u25, u26, rfl, hb, x0, c3, c4, c5, c6, c8, c9, f0, f1, f2, f3, f4, f5, f6, f7, f8, f9, f10, f11, f12, f13⟩ hL hD hN hK
      refine step_on (wanted_none rfl) ?_
      go_simp
      refine hK _ _ ⟨_, _, _, _, _, _, _, _, _, _, _, _, _, _, rfl, hb, x0, c3, c4, c5, c6, c8, c9, fun _ => rfl, f1, f2, f3, f4, f5, f6, f7, f8, f9, f10, f11, f12, f13⟩
    case s1 =>
      rintro L _ W K ⟨u14, u15, u16, u17, u18, u19, u20, u21, u22, u23, u13, u24, u25, u26, rfl, hb, x0, c3, c4, c5, c6, c8, c9, f0, f1, f2, f3, f4, f5, f6, f7, f8, f9, f10, f11, f12, f13⟩ hL hD hN hK
      refine step_on (wanted_none rfl) ?_
      have e0 := heap_cell c5 0 rfl
      have hf := heap_free c5 0
      go_simp
      refine hK _ _ ⟨_, _, _, _, _, _, _, _, _, _, _, _, _, _, rfl, hb, x0, c3, c4, c5, c6, c8, c9, f0, fun _ => rfl, f2, f3, f4, f5, f6, f7, f8, f9, f10, f11, f12, f13⟩
    case s2 =>
      rintro L _ W K ⟨u14, u15, u16, u17, u18, u19, u20, u21, u22, u23, u13, u24, u25, u26, rfl, hb, x0, c3, c4, c5, c6, c8, c9, f0, f1, f2, f3, f4, f5, f6, f7, f8, f9, f10, f11, f12, f13⟩ hL hD hN hK
      refine step_on (wanted_none rfl) ?_
      go_simp
      refine hK _ _ ⟨_, _, _, _, _, _, _, _, _, _, _, _, _, _, rfl, hb, x0, c3, c4, c5, c6, c8, c9, f0, f1, fun _ => rfl, f3, f4, f5, f6, f7, f8, f9, f10, f11, f12, f13⟩
    case s3 =>
      rintro L _ W K ⟨u14, u15, u16, u17, u18, u19, u20, u21, u22, u23, u13, u24, u25, u26, rfl, hb, x0, c3, c4, c5, c6, c8, c9, f0, f1, f2, f3, f4, f5, f6, f7, f8, f9, f10, f11, f12, f13⟩ hL hD hN hK
      obtain rfl := f2 (hD 2 (by kernel_rfl))
      refine step_on (wanted_none rfl) ?_
      go_simp
      refine hK _ _ ⟨_, _, _, _, _, _, _, _, _, _, _, _, _, _, rfl, hb, x0, c3, c4, c5, c6, c8, c9, f0, f1, f2, fun _ => rfl, f4, f5, f6, f7, f8, f9, f10, f11, f12, f13⟩
    case s4 =>
      rintro L _ W K ⟨u14, u15, u16, u17, u18, u19, u20, u21, u22, u23, u13, u24, u25, u26, rfl, hb, x0, c3, c4, c5, c6, c8, c9, f0, f1, f2, f3, f4, f5, f6, f7, f8, f9, f10, f11, f12, f13⟩ hL hD hN hK
      obtain rfl := f3 (hD 3 (by kernel_rfl))
      refine step_on (wanted_none rfl) ?_
      have e0 := heap_cell c3 x.1 (vW_get a x)
      have hf := heap_free c3 x.1
      go_simp
      refine hK _ _ ⟨_, _, _, _, _, _, _, _, _, _, _, _, _, _, rfl, hb, x0, c3, c4, c5, c6, c8, c9, f0, f1, f2, f3, fun _ => rfl, f5, f6, f7, f8, f9, f10, f11, f12, f13⟩
    case s5 =>
      rintro L _ W K ⟨u14, u15, u16, u17, u18, u19, u20, u21, u22, u23, u13, u24, u25, u26, rfl, hb, x0, c3, c4, c5, c6, c8, c9, f0, f1, f2, f3, f4, f5, f6, f7, f8, f9, f10, f11, f12, f13⟩ hL hD hN hK
      refine step_on (wanted_none rfl) ?_
      go_simp
      refine hK _ _ ⟨_, _, _, _, _, _, _, _, _, _, _, _, _, _, rfl, hb, x0, c3, c4, c5, c6, c8, c9, f0, f1, f2, f3, f4, fun _ => rfl, f6, f7, f8, f9, f10, f11, f12, f13⟩
    case s6 =>
      rintro L _ W K ⟨u14, u15, u16, u17, u18, u19, u20, u21, u22, u23, u13, u24, u25, u26, rfl, hb, x0, c3, c4, c5, c6, c8, c9, f0, f1, f2, f3, f4, f5, f6, f7, f8, f9, f10, f11, f12, f13⟩ hL hD hN hK
      obtain rfl := f5 (hD 5 (by kernel_rfl))
      refine step_on (wanted_none rfl) ?_
      go_simp
      refine hK _ _ ⟨_, _, _, _, _, _, _, _, _, _, _, _, _, _, rfl, hb, x0, c3, c4, c5, c6, c8, c9, f0, f1, f2, f3, f4, f5, fun _ => rfl, f7, f8, f9, f10, f11, f12, f13⟩
    case s7 =>
      rintro L _ W K ⟨u14, u15, u16, u17, u18, u19, u20, u21, u22, u23, u13, u24, u25, u26, rfl, hb, x0, c3, c4, c5, c6, c8, c9, f0, f1, f2, f3, f4, f5, f6, f7, f8, f9, f10, f11, f12, f13⟩ hL hD hN hK
      obtain rfl := f6 (hD 6 (by kernel_rfl))
      refine step_on (wanted_none rfl) ?_
      have e0 := heap_cell c4 x.1 (vW_get b x)
      have hf := heap_free c4 x.1
      go_simp
      refine hK _ _ ⟨_, _, _, _, _, _, _, _, _, _, _, _, _, _, rfl, hb, x0, c3, c4, c5, c6, c8, c9, f0, f1, f2, f3, f4, f5, f6, fun _ => rfl, f8, f9, f10, f11, f12, f13⟩
    case s8 =>
      rintro L _ W K ⟨u14, u15, u16, u17, u18, u19, u20, u21, u22, u23, u13, u24, u25, u26, rfl, hb, x0, c3, c4, c5, c6, c8, c9, f0, f1, f2, f3, f4, f5, f6, f7, f8, f9, f10, f11, f12, f13⟩ hL hD hN hK
      refine step_on (wanted_none rfl) ?_
      have hz : L 15 = false := hN 15 _ rfl (by kernel_rfl)
      have d9 := c9
      rw [hz] at d9
      have e0 := heap_cell d9 0 rfl
      have hf := heap_free d9 0
      go_simp
      refine hK _ _ ⟨_, _, _, _, _, _, _, _, _, _, _, _, _, _, rfl, hb, x0, c3, c4, c5, c6, c8, c9, f0, f1, f2, f3, f4, f5, f6, f7, fun _ => rfl, f9, f10, f11, f12, f13⟩
    case s9 =>
      rintro L _ W K ⟨u14, u15, u16, u17, u18, u19, u20, u21, u22, u23, u13, u24, u25, u26, rfl, hb, x0, c3, c4, c5, c6, c8, c9, f0, f1, f2, f3, f4, f5, f6, f7, f8, f9, f10, f11, f12, f13⟩ hL hD hN hK
      obtain rfl := f1 (hD 1 (by kernel_rfl))
      obtain rfl := f4 (hD 4 (by kernel_rfl))
      obtain rfl := f7 (hD 7 (by kernel_rfl))
      obtain rfl := f8 (hD 8 (by kernel_rfl))
      refine step_on (wanted_none rfl) ?_
      have hr := fun w => hC.run (wd a x.1) (wd b x.1) (stC f g a b pre).2 w (wd_u64 _ _) (wd_u64 _ _) (stC_carry hC a b pre)
      go_simp
      refine hK _ _ ⟨_, _, _, _, _, _, _, _, _, _, _, _, _, _, rfl, hb, x0, c3, c4, c5, c6, c8, c9, f0, f1, f2, f3, f4, f5, f6, f7, f8, fun _ => rfl, f10, f11, f12, f13⟩
    case s10 =>
      rintro L _ W K ⟨u14, u15, u16, u17, u18, u19, u20, u21, u22, u23, u13, u24, u25, u26, rfl, hb, x0, c3, c4, c5, c6, c8, c9, f0, f1, f2, f3, f4, f5, f6, f7, f8, f9, f10, f11, f12, f13⟩ hL hD hN hK
      obtain rfl := f9 (hD 9 (by kernel_rfl))
      refine step_on (wanted_none rfl) ?_
      go_simp
      refine hK _ _ ⟨_, _, _, _, _, _, _, _, _, _, _, _, _, _, rfl, hb, x0, c3, c4, c5, c6, c8, c9, f0, f1, f2, f3, f4, f5, f6, f7, f8, f9, fun _ => rfl, f11, f12, f13⟩
    case s11 =>
      rintro L _ W K ⟨u14, u15, u16, u17, u18, u19, u20, u21, u22, u23, u13, u24, u25, u26, rfl, hb, x0, c3, c4, c5, c6, c8, c9, f0, f1, f2, f3, f4, f5, f6, f7, f8, f9, f10, f11, f12, f13⟩ hL hD hN hK
      obtain rfl := f10 (hD 10 (by kernel_rfl))
      refine step_on (wanted_none rfl) ?_
      go_simp
      refine hK _ _ ⟨_, _, _, _, _, _, _, _, _, _, _, _, _, _, rfl, hb, x0, c3, c4, c5, c6, c8, c9, f0, f1, f2, f3, f4, f5, f6, f7, f8, f9, f10, fun _ => rfl, f12, f13⟩
    case s12 =>
      rintro L _ W K ⟨u14, u15, u16, u17, u18, u19, u20, u21, u22, u23, u13, u24, u25, u26, rfl, hb, x0, c3, c4, c5, c6, c8, c9, f0, f1, f2, f3, f4, f5, f6, f7, f8, f9, f10, f11, f12, f13⟩ hL hD hN hK
      obtain rfl := f10 (hD 10 (by kernel_rfl))
      refine step_on (wanted_none rfl) ?_
      go_simp
      refine hK _ _ ⟨_, _, _, _, _, _, _, _, _, _, _, _, _, _, rfl, hb, x0, c3, c4, c5, c6, c8, c9, f0, f1, f2, f3, f4, f5, f6, f7, f8, f9, f10, f11, fun _ => rfl, f13⟩
    case s13 =>
      rintro L _ W K ⟨u14, u15, u16, u17, u18, u19, u20, u21, u22, u23, u13, u24, u25, u26, rfl, hb, x0, c3, c4, c5, c6, c8, c9, f0, f1, f2, f3, f4, f5, f6, f7, f8, f9, f10, f11, f12, f13⟩ hL hD hN hK
      obtain rfl := f0 (hD 0 (by kernel_rfl))
      refine step_on (wanted_none rfl) ?_
      go_simp
      refine hK _ _ ⟨_, _, _, _, _, _, _, _, _, _, _, _, _, _, rfl, hb, x0, c3, c4, c5, c6, c8, c9, f0, f1, f2, f3, f4, f5, f6, f7, f8, f9, f10, f11, f12, fun _ => rfl⟩
    case s14 =>
      rintro L _ W K ⟨u14, u15, u16, u17, u18, u19, u20, u21, u22, u23, u13, u24, u25, u26, rfl, hb, x0, c3, c4, c5, c6, c8, c9, f0, f1, f2, f3, f4, f5, f6, f7, f8, f9, f10, f11, f12, f13⟩ hL hD hN hK
      obtain rfl := f13 (hD 13 (by kernel_rfl))
      obtain rfl := f11 (hD 11 (by kernel_rfl))
      refine step_on (wanted_none rfl) ?_
      have hz : L 14 = false := hL
      rw [hz] at c8
      have e0 := heap_cell c8 x.1 (hv0)
      have h0 := heap_free c8 x.1
      go_simp
      refine hK _ _ ⟨_, _, _, _, _, _, _, _, _, _, _, _, _, _, rfl, (Bel.set hb (by omega) _), (x0.trans (KeepsOthers.setCell _ _ _)), (heap_set_other c3 _ _ (show w.heap.size ≠ w.heap.size + 1 + 1 + 1 + 1 by omega)), (heap_set_other c4 _ _ (show w.heap.size + 1 ≠ w.heap.size + 1 + 1 + 1 + 1 by omega)), (heap_set_other c5 _ _ (show w.heap.size + 1 + 1 ≠ w.heap.size + 1 + 1 + 1 + 1 by omega)), (heap_set_other c6 _ _ (show w.heap.size + 1 + 1 + 1 ≠ w.heap.size + 1 + 1 + 1 + 1 by omega)), (heap_set c8 _), (heap_set_other c9 _ _ (show w.heap.size + 1 + 1 + 1 + 1 + 1 ≠ w.heap.size + 1 + 1 + 1 + 1 by omega)), f0, f1, f2, f3, f4, f5, f6, f7, f8, f9, f10, f11, f12, f13⟩
    case s15 =>
      rintro L _ W K ⟨u14, u15, u16, u17, u18, u19, u20, u21, u22, u23, u13, u24, u25, u26, rfl, hb, x0, c3, c4, c5, c6, c8, c9, f0, f1, f2, f3, f4, f5, f6, f7, f8, f9, f10, f11, f12, f13⟩ hL hD hN hK
      obtain rfl := f12 (hD 12 (by kernel_rfl))
      refine step_on (wanted_none rfl) ?_
      have hz : L 15 = false := hL
      rw [hz] at c9
      have e0 := heap_cell c9 0 (rfl)
      have h0 := heap_free c9 0
      go_simp
      refine hK _ _ ⟨_, _, _, _, _, _, _, _, _, _, _, _, _, _, rfl, (Bel.set hb (by omega) _), (x0.trans (KeepsOthers.setCell _ _ _)), (heap_set_other c3 _ _ (show w.heap.size ≠ w.heap.size + 1 + 1 + 1 + 1 + 1 by omega)), (heap_set_other c4 _ _ (show w.heap.size + 1 ≠ w.heap.size + 1 + 1 + 1 + 1 + 1 by omega)), (heap_set_other c5 _ _ (show w.heap.size + 1 + 1 ≠ w.heap.size + 1 + 1 + 1 + 1 + 1 by omega)), (heap_set_other c6 _ _ (show w.heap.size + 1 + 1 + 1 ≠ w.heap.size + 1 + 1 + 1 + 1 + 1 by omega)), (heap_set_other c8 _ _ (show w.heap.size + 1 + 1 + 1 + 1 ≠ w.heap.size + 1 + 1 + 1 + 1 + 1 by omega)), (heap_set c9 _), f0, f1, f2, f3, f4, f5, f6, f7, f8, f9, f10, f11, f12, f13⟩
    case hd =>
      rintro L _ W ⟨u14, u15, u16, u17, u18, u19, u20, u21, u22, u23, u13, u24, u25, u26, rfl, hb, x0, c3, c4, c5, c6, c8, c9, f0, f1, f2, f3, f4, f5, f6, f7, f8, f9, f10, f11, f12, f13⟩ hall
      rw [hall 14 (by decide)] at c8
      rw [hall 15 (by decide)] at c9
      obtain rfl := f0 (hall 0 (by decide))
      obtain rfl := f1 (hall 1 (by decide))
      obtain rfl := f2 (hall 2 (by decide))
      obtain rfl := f3 (hall 3 (by decide))
      obtain rfl := f4 (hall 4 (by decide))
      obtain rfl := f5 (hall 5 (by decide))
      obtain rfl := f6 (hall 6 (by decide))
      obtain rfl := f7 (hall 7 (by decide))
      obtain rfl := f8 (hall 8 (by decide))
      obtain rfl := f9 (hall 9 (by decide))
      obtain rfl := f10 (hall 10 (by decide))
      obtain rfl := f11 (hall 11 (by decide))
      obtain rfl := f12 (hall 12 (by decide))
      obtain rfl := f13 (hall 13 (by decide))
      gi_wp2
      exact ⟨x0.from _, trivial, ⟨⟨⟨⟨c3, c4⟩, c5, c6⟩, by rw [stC_snoc]; exact c8, by rw [stC_snoc]; exact c9⟩, hb⟩⟩
  case done =>
    rintro D ys V hD rfl ⟨⟨⟨⟨bA, bB⟩, bF, bR⟩, bO, bC⟩, hB⟩ hK
    rw [hst] at bO bC
    have hD' : w.heap.size + 1 + 1 + 1 + 1 + 1 + 1 ≤ D := by first | exact hD | simpa using hD
    gi_wp2
    refine wpIn_region_inv (fun (L : Nat → Bool) (A : Act) (W : World) => ∃ u27 u28 u29 u7 : Value, A = ⟨#[vW a, vW b, Value.func (Fn.func one) #[] #[], Value.pointer (some { block := w.heap.size, off := 0 }), Value.pointer (some { block := w.heap.size + 1, off := 0 }), Value.pointer (some { block := w.heap.size + 1 + 1, off := 0 }), Value.pointer (some { block := w.heap.size + 1 + 1 + 1, off := 0 }), u7, Value.pointer (some { block := w.heap.size + 1 + 1 + 1 + 1, off := 0 }), Value.pointer (some { block := w.heap.size + 1 + 1 + 1 + 1 + 1, off := 0 }), undef, Value.func (Fn.func 135) #[] #[], undef, undef, undef, undef, undef, undef, undef, undef, undef, undef, undef, undef, undef, undef, undef, u27, u28, u29], [{ target := Target.collected D, args := #[] }]⟩ ∧ Bel w W ∧ W.heap[D]? = some (.deferred (some [])) ∧ W.heap[w.heap.size + 1 + 1 + 1]? = some (.cells (bif L 3 then #[.int .u64 r0, .int .u64 r1, .int .u64 r2, .int .u64 r3] else #[.int .u64 0, .int .u64 0, .int .u64 0, .int .u64 0]) 53 (0, 0)) ∧ W.heap[w.heap.size + 1 + 1 + 1 + 1]? = some (.cells #[.int .u64 r0, .int .u64 r1, .int .u64 r2, .int .u64 r3] 53 (0, 0)) ∧ W.heap[w.heap.size + 1 + 1 + 1 + 1 + 1]? = some (.cells #[.int .u64 rc] 26 (0, 0)) ∧ (L 0 = true → u27 = .agg #[.int .u64 r0, .int .u64 r1, .int .u64 r2, .int .u64 r3]) ∧ (L 1 = true → u28 = .int .u64 rc) ∧ (L 2 = true → u29 = .bool (rc != 0)) ∧ (L 4 = true → u7 = .bool (rc != 0))) (by kernel_rfl) (by kernel_rfl) ?h0 ⟨?s0, ?s1, ?s2, ?s3, ?s4, trivial⟩ ?hd
    case h0 =>
      exact ⟨_, _, _, _, rfl, (Bel.drew hB), hK, bR, bO, bC, fun h => absurd h Bool.false_ne_true, fun h => absurd h Bool.false_ne_true, fun h => absurd h Bool.false_ne_true, fun h => absurd h Bool.false_ne_true⟩
    case s0 =>
      rintro L _ W K ⟨u27, u28, u29, u7, rfl, hb, x0, c6, c8, c9, f0, f1, f2, f4⟩ hL hD hN hK
      refine step_on (wanted_none rfl) ?_
      have e0 := heap_cell c8 0 rfl
      have e1 := heap_cell c8 1 rfl
      have e2 := heap_cell c8 2 rfl
      have e3 := heap_cell c8 3 rfl
      have hf := heap_free c8 0
      go_simp
      refine hK _ _ ⟨_, _, _, _, rfl, hb, x0, c6, c8, c9, fun _ => rfl, f1, f2, f4⟩
    case s1 =>
      rintro L _ W K ⟨u27, u28, u29, u7, rfl, hb, x0, c6, c8, c9, f0, f1, f2, f4⟩ hL hD hN hK
      refine step_on (wanted_none rfl) ?_
      have e0 := heap_cell c9 0 rfl
      have hf := heap_free c9 0
      go_simp
      refine hK _ _ ⟨_, _, _, _, rfl, hb, x0, c6, c8, c9, f0, fun _ => rfl, f2, f4⟩
    case s2 =>
      rintro L _ W K ⟨u27, u28, u29, u7, rfl, hb, x0, c6, c8, c9, f0, f1, f2, f4⟩ hL hD hN hK
      obtain rfl := f1 (hD 1 (by kernel_rfl))
      refine step_on (wanted_none rfl) ?_
      go_simp
      refine hK _ _ ⟨_, _, _, _, rfl, hb, x0, c6, c8, c9, f0, f1, fun _ => rfl, f4⟩
    case s3 =>
      rintro L _ W K ⟨u27, u28, u29, u7, rfl, hb, x0, c6, c8, c9, f0, f1, f2, f4⟩ hL hD hN hK
      obtain rfl := f0 (hD 0 (by kernel_rfl))
      refine step_on (wanted_none rfl) ?_
      have hz : L 3 = false := hL
      rw [hz] at c6
      have e0 := heap_cell c6 0 (rfl)
      have h0 := heap_free c6 0
      have e1 := heap_cell c6 1 (rfl)
      have h1 := heap_free c6 1
      have e2 := heap_cell c6 2 (rfl)
      have h2 := heap_free c6 2
      have e3 := heap_cell c6 3 (rfl)
      have h3 := heap_free c6 3
      go_simp
      refine hK _ _ ⟨_, _, _, _, rfl, (Bel.set (Bel.set (Bel.set (Bel.set hb (by omega) _) (by omega) _) (by omega) _) (by omega) _), (heap_set_other (heap_set_other (heap_set_other (heap_set_other x0 _ _ (by show D ≠ w.heap.size + 1 + 1 + 1; omega)) _ _ (by show D ≠ w.heap.size + 1 + 1 + 1; omega)) _ _ (by show D ≠ w.heap.size + 1 + 1 + 1; omega)) _ _ (by show D ≠ w.heap.size + 1 + 1 + 1; omega)), (heap_set (heap_set (heap_set (heap_set c6 _) _) _) _), (heap_set_other (heap_set_other (heap_set_other (heap_set_other c8 _ _ (show w.heap.size + 1 + 1 + 1 + 1 ≠ w.heap.size + 1 + 1 + 1 by omega)) _ _ (show w.heap.size + 1 + 1 + 1 + 1 ≠ w.heap.size + 1 + 1 + 1 by omega)) _ _ (show w.heap.size + 1 + 1 + 1 + 1 ≠ w.heap.size + 1 + 1 + 1 by omega)) _ _ (show w.heap.size + 1 + 1 + 1 + 1 ≠ w.heap.size + 1 + 1 + 1 by omega)), (heap_set_other (heap_set_other (heap_set_other (heap_set_other c9 _ _ (show w.heap.size + 1 + 1 + 1 + 1 + 1 ≠ w.heap.size + 1 + 1 + 1 by omega)) _ _ (show w.heap.size + 1 + 1 + 1 + 1 + 1 ≠ w.heap.size + 1 + 1 + 1 by omega)) _ _ (show w.heap.size + 1 + 1 + 1 + 1 + 1 ≠ w.heap.size + 1 + 1 + 1 by omega)) _ _ (show w.heap.size + 1 + 1 + 1 + 1 + 1 ≠ w.heap.size + 1 + 1 + 1 by omega)), f0, f1, f2, f4⟩
    case s4 =>
      rintro L _ W K ⟨u27, u28, u29, u7, rfl, hb, x0, c6, c8, c9, f0, f1, f2, f4⟩ hL hD hN hK
      obtain rfl := f2 (hD 2 (by kernel_rfl))
      refine step_on (wanted_none rfl) ?_
      go_simp
      refine hK _ _ ⟨_, _, _, _, rfl, hb, x0, c6, c8, c9, f0, f1, f2, fun _ => rfl⟩
    case hd =>
      rintro L _ W ⟨u27, u28, u29, u7, rfl, hb, x0, c6, c8, c9, f0, f1, f2, f4⟩ hall
      rw [hall 3 (by decide)] at c6
      obtain rfl := f0 (hall 0 (by decide))
      obtain rfl := f1 (hall 1 (by decide))
      obtain rfl := f2 (hall 2 (by decide))
      obtain rfl := f4 (hall 4 (by decide))
      gi_wp2
      refine ⟨by simp, .inl ⟨_, _, rfl, run_takeDeferred x0, ?_⟩⟩
      have cR : (W.putObj D (.deferred none)).heap[w.heap.size + 1 + 1 + 1]? = _ := (World.putObj_heap_other (by omega)).trans c6
      have q0 := heap_cell cR 0 rfl
      have q1 := heap_cell cR 1 rfl
      have q2 := heap_cell cR 2 rfl
      have q3 := heap_cell cR 3 rfl
      exact ⟨_, by simp [results, Tryd.results118, go_sem, q0, q1, q2, q3], rfl, Below.trans hb (belowK_b (w := w) (Nat.le_refl _) W D _ _ (by omega) x0 rfl rfl)⟩
  case stop =>
    rintro D c pre W _ _ h _
    exact h.elim
end Go.Proofs.YtikjbocagnolmaaDoor
