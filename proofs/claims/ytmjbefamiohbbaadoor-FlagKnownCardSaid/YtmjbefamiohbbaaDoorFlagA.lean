/- flag: the iterator over the flags of a set, Join, Names, walked. -/
import Derived.Test.YtmjbefamiohbbaaDoorBase
import Derived.Test.YtmjbefamiohbbaaDoorFlagM
namespace Go.Proofs.YtmjbefamiohbbaaDoor
set_option linter.unusedVariables false
open Go.RowKit Go.Shelf
attribute [local go_sem] Oper.semAt_some
def fb (s : Int) (k : Nat) : Bool := bits .and .u8 s (2 ^ k % 256) != 0
def evs (s : Int) : Nat → List (Fin 5)
  | 0 => []
  | k + 1 => if h : k < 5 then (if fb s k then evs s k ++ [⟨k, h⟩] else evs s k) else evs s k
theorem evs_succ_pos {s : Int} {k : Nat} (hk : k < 5) (h : fb s k = true) : evs s (k + 1) = evs s k ++ [⟨k, hk⟩] := by simp [evs, h, hk]
theorem evs_succ_neg {s : Int} {k : Nat} (h : fb s k = false) : evs s (k + 1) = evs s k := by simp [evs, h]
theorem evs_len (s : Int) : ∀ k, (evs s k).length ≤ k
  | 0 => by simp [evs]
  | k + 1 => by
    have := evs_len s k
    simp only [evs]; split
    · split
      · simp; omega
      · omega
    · omega
set_option maxRecDepth 100000 in
set_option maxHeartbeats 2000000 in
theorem each1_in (F : Fence) (n : Nat) (h7 : F.fn 19) (hro : F.round = none) (hn : 1 ≤ n) (l Bs : Nat) (s : Int) (J Jx : List (Fin 5) → World → Prop)
    (hY : ∀ pre x W, J pre W → pre.length < 5 → YieldAt F (n - 1) Tryd.prog l #[.int .i64 (x.1 : Int), .int .u8 (2 ^ x.1 % 256)] W fun e W' =>
      (e = .returned (.bool true) ∧ J (pre ++ [x]) W' ∧ KpC Bs W W') ∨ (e = .returned (.bool false) ∧ Jx (pre ++ [x]) W'))
    (W : World) (hBs : W.cell? ⟨Bs, 0, none⟩ = some (.int .u8 s)) (h0 : J [] W) :
    CallsIn F n Tryd.prog 19 #[.func (.yield l) #[] #[], .pointer (some ⟨Bs, 0, none⟩)] W fun e W' => (∃ v, e = .returned v) ∧
      ((∃ ys, ys = evs s 5 ∧ J ys W') ∨ (∃ pre, True ∧ Jx pre W')) := by
  refine callsIn_of_wp Tryd.func19 rfl h7 ?_ hro
  simp only [Tryd.ntmps19, List.size_toArray, List.length_cons, List.length_nil, Nat.reduceAdd, Nat.reduceSub, Array.replicate_succ, Array.replicate_zero, List.push_toArray, List.append_toArray, List.nil_append, List.cons_append]
  gi_wp2
  gi_loopw [5] (fun i wr => ∃ k : Nat, k ≤ 5 ∧ i = .int .i64 k ∧ J (evs s k) wr ∧ wr.cell? ⟨Bs, 0, none⟩ = some (.int .u8 s))
    (fun i _ => 5 - (intOf i).toNat)
  case atStart => exact ⟨0, Nat.zero_le _, rfl, h0, hBs⟩
  case round =>
    obtain ⟨k, hk, rfl, hJs, hcx⟩ := hrel
    by_cases hlt : k < 5
    · cases hf : fb s k with
      | true =>
        have Hs := Lib.hid (evs_succ_pos hlt hf)
        have hlen := evs_len s k
        have hf' : (bits .and .u8 s (2 ^ k % 256) != 0) = true := hf
        clear hf
        obtain ⟨fn, tmps, assign, body, hy, hR⟩ := hY _ ⟨k, hlt⟩ wr hJs (by omega)
        dsimp only at hy
        gi_wp2
        refine hR.mono ?_
        rintro e W3 (⟨rfl, hJ3, hk3⟩ | ⟨rfl, hJx3⟩)
        · gi_wp2
          go_roundw
          case rel => exact ⟨k + 1, by omega, by simp, by rw [Hs.out]; exact hJ3, hk3 _ hcx⟩
          case measure => simp [intOf]; omega
        · gi_wp2
          refine bodyPost_ret (results_none rfl _ _ _) rfl ?_
          exact ⟨⟨_, rfl⟩, .inr ⟨_, trivial, hJx3⟩⟩
      | false =>
        have Hs := Lib.hid (evs_succ_neg hf)
        have hf' : (bits .and .u8 s (2 ^ k % 256) != 0) = false := hf
        clear hf
        gi_wp2
        refine ⟨fun _ h => (by cases h), ?_⟩
        gi_wp2
        go_roundw
        case rel => exact ⟨k + 1, by omega, by simp, by rw [Hs.out]; exact hJs, hcx⟩
        case measure => simp [intOf]; omega
    · obtain rfl : k = 5 := by omega
      gi_wp2
      go_end0
      exact ⟨⟨_, rfl⟩, .inl ⟨_, rfl, hJs⟩⟩
theorem each_in (F : Fence) (n : Nat) (h5 : F.fn 17) (hro : F.round = none) (s : Int) (w : World) :
    CallsIn F n Tryd.prog 17 #[.int .u8 s] w fun e w' => e = .returned (.func (.func 19) #[] #[.pointer (some ⟨w.heap.size, 0, none⟩)]) ∧ w' = w.alloc (.cells #[.int .u8 s] 23) := by
  refine callsIn_of_wp Tryd.func17 rfl h5 ?_ hro
  simp only [Tryd.ntmps17, List.size_toArray, List.length_cons, List.length_nil, Nat.reduceAdd, Nat.reduceSub, Array.replicate_succ, Array.replicate_zero, List.push_toArray, List.append_toArray, List.nil_append, List.cons_append]
  gi_wp2
  go_ret
  exact ⟨rfl, rfl⟩
theorem each_stops (F : Fence) (n : Nat) (h7 : F.fn 19) (hro : F.round = none) (hn : 1 ≤ n) (Bs : Nat) (s : Int) (w : World) (hBs : Bs < w.heap.size)
    (hc : w.cell? ⟨Bs, 0, none⟩ = some (.int .u8 s)) :
    SeqStopsK F n Tryd.prog 19 #[.pointer (some ⟨Bs, 0, none⟩)] (fun x : Fin 5 => #[Value.int .i64 (x.1 : Int), Value.int .u8 (2 ^ x.1 % 256)]) (KpC Bs) (fun ys => ys = evs s 5)
      (fun _ => True) 5 w := fun l J Jx W hW _ _ hY h0 => 
  each1_in F n h7 hro hn l Bs s J Jx hY W ((hW.cell (p := ⟨Bs, 0, none⟩) hBs).trans hc) h0

def orS (acc : Int) (l : List (Fin 5)) : Int := l.foldl (fun a x => bits .or .u8 a (2 ^ x.1 % 256)) acc
theorem orS_snoc (acc : Int) (pre : List (Fin 5)) (x : Fin 5) : orS acc (pre ++ [x]) = bits .or .u8 (orS acc pre) (2 ^ x.1 % 256) := by simp [orS]
def joinS (zs : List Int) : Int := zs.foldl (fun acc s => orS acc (evs s 5)) 0
theorem joinS_snoc (pre : List Int) (x : Int) : joinS (pre ++ [x]) = orS (joinS pre) (evs x 5) := by simp [joinS]
theorem joinS_take (zs : List Int) (k : Nat) (h : k < zs.length) : joinS (zs.take (k + 1)) = orS (joinS (zs.take k)) (evs (zs[k]?.getD 0) 5) := by
  rw [List.take_succ_eq_append_getElem h, joinS_snoc]; simp [h]

set_option maxRecDepth 100000 in
set_option maxHeartbeats 2000000 in
theorem Join_in (F : Fence) (n : Nat) (h3 : F.fn 8) (h5 : F.fn 17) (h7 : F.fn 19) (hro : F.round = none) (hn : 3 ≤ n) (b off cap : Nat) (zs : List Int) (hreach : zs.length ≤ 140737488351232) (w : World)
    (hb : b < w.heap.size) (hc : ∀ j, j < zs.length → w.cell? ⟨b, off + j, none⟩ = some (.int .u8 (zs[j]?.getD 0))) :
    CallsIn F n Tryd.prog 8 #[.slice (some ⟨b, off, none⟩) zs.length cap] w fun e W' => e = .returned (.int .u8 (joinS zs)) ∧ Below w.heap.size w W' := by
  have h1 : 1 ≤ n := by omega
  refine callsIn_of_wp_marks Tryd.func8 rfl h3 ?_ hro
  simp only [Tryd.ntmps8, List.size_toArray, List.length_cons, List.length_nil, Nat.reduceAdd, Nat.reduceSub, Array.replicate_succ, Array.replicate_zero, List.push_toArray, List.append_toArray, List.nil_append, List.cons_append]
  gi_wp2
  have bS := Boxed.new w 23 (.int .u8 0)
  refine wpIn_loop (fun a wr => ∃ u5 u7 u11 u12 u13 u14 u15 u16 u17 u18 u19 u20 u21, ∃ (k : Nat) (Ds : List Nat), k ≤ zs.length ∧ Boxed wr w.heap.size 23 (.int .u8 (joinS (zs.take k))) ∧ Below w.heap.size w wr ∧ Marks w.heap.size Ds wr ∧
    a = { tmps := #[.slice (some ⟨b, off, none⟩) zs.length cap, undef, .int .u8 0, .pointer (some ⟨w.heap.size, 0, none⟩), undef, u5, undef, u7, .slice (some ⟨b, off, none⟩) zs.length cap, .int .i64 zs.length, .int .i64 k, u11, u12, u13, u14, u15, u16, u17, u18, u19, u20, u21, undef], defers := Ds.map mk1 })
    (fun a _ => zs.length - (intOf (a.tmps.getD 10 undef)).toNat) ?_ ?_
  · exact ⟨_, _, _, _, _, _, _, _, _, _, _, _, _, 0, [], Nat.zero_le _, bS, (Below.refl _ w).alloc (Nat.le_refl _) _, ⟨List.nodup_nil, by simp⟩, rfl⟩
  · rintro a wr ⟨u5, u7, u11, u12, u13, u14, u15, u16, u17, u18, u19, u20, u21, k, Ds, hk, bR, hnx, hM, rfl⟩
    by_cases hlt : k < zs.length
    · have hcx : wr.cell? ⟨b, off + k, none⟩ = some (.int .u8 (zs[k]?.getD 0)) := (hnx.cell (p := ⟨b, off + k, none⟩) hb).trans (hc k hlt)
      have Ht := Lib.hid (joinS_take zs k hlt)
      generalize zs[k]?.getD 0 = z at hcx Ht
      gi_wp2_with (gi_at_call 17; refine (each_in F (n - 1) h5 hro _ _).mono ?_; rintro e w' ⟨rfl, rfl⟩)
      have bR1 := bR.alloc (.cells #[.int .u8 z] 23)
      have bZ := Boxed.new wr 23 (.int .u8 z)
      have hM1 := hM.keeps (KeepsOthers.alloc wr (.cells #[.int .u8 z] 23))
      have hB1 := hnx.alloc hnx.size (.cells #[.int .u8 z] 23)
      have hltD : ∀ D ∈ Ds, D < (wr.alloc (.cells #[.int .u8 z] 23)).heap.size := fun D hD => hM1.lt hD
      have hwr := bR.lt
      have hnz := hnx.size
      refine wpIn_rangeFunc_ownG hro h1 (gf := 19) (lb := #[.pointer (some ⟨wr.heap.size, 0, none⟩)]) rfl h7 (enters_of Tryd.func19 (by kernel_rfl) rfl)
        (each_stops F (n - 1) h7 hro (by omega) wr.heap.size z _ (by simp) bZ.cell) KpC_t KpC_b (Below.refl _ _) (fun _ => rfl)
        (fun pre W => (Boxed W w.heap.size 23 (.int .u8 (orS (joinS (zs.take k)) pre)) ∧ Boxed W wr.heap.size 23 (.int .u8 z)) ∧ (Below w.heap.size w W ∧ Marks w.heap.size Ds W))
        (fun _ _ _ => False)
        (OwnFrom.and (OwnFrom.and (Own.from (boxed_own _ _ _) _) (Own.from (boxed_own _ _ _) _)) (OwnFrom.and (ownFrom_below (Nat.le_refl _) (by simp; omega)) (ownFrom_marks hltD)))
        (fun _ _ _ _ _ hs _ _ => hs)
        ⟨⟨bR1, bZ⟩, hB1, hM1⟩
        (fun x => { tmps := #[.slice (some ⟨b, off, none⟩) zs.length cap, undef, .int .u8 0, .pointer (some ⟨w.heap.size, 0, none⟩), undef, .int .u8 z, undef, .int .u8 (2 ^ x.1 % 256), .slice (some ⟨b, off, none⟩) zs.length cap, .int .i64 zs.length, .int .i64 k, .bool true, .pointer (some ⟨b, off + k, none⟩), .int .u8 z, .int .u8 z, .func (.func 19) #[] #[.pointer (some ⟨wr.heap.size, 0, none⟩)], .int .i64 (x.1 : Int), .int .u8 (2 ^ x.1 % 256), u18, u19, u20, u21, undef], defers := [] }) ?assign ?body ?done ?stop
      case assign =>
        intro l x W K hK
        gi_wp2
        exact hK
      case body =>
        rintro l pre x W ⟨⟨bR2, bZ2⟩, hB2, hM2⟩ _
        have hc2 := bR2.cell
        have hf2 := bR2.frozen
        gi_wp2
        exact ⟨(KeepsOthers.setCell _ _ _).from _, fun v hv => by rw [bZ2.cell] at hv; cases hv; exact (bZ2.other (by omega) _).cell, ⟨⟨by rw [orS_snoc]; exact bR2.set _, bZ2.other (by omega) _⟩, hB2.setCell (p := ⟨w.heap.size, 0, none⟩) (Nat.le_refl _) _, hM2.keeps (KeepsOthers.setCell _ _ _)⟩⟩
      case done =>
        rintro D ys W hD rfl ⟨⟨bR3, bZ3⟩, hB3, hM3⟩ hK
        gi_wp2
        refine ⟨⟨_, _, _, _, _, _, _, _, _, _, _, _, _, k + 1, D :: Ds, by omega, by rw [Ht.out]; exact bR3, hB3, hM3.cons hltD hD (by simp at hD; omega) hK, rfl⟩, ?_⟩
        simp [intOf]; omega
      case stop =>
        rintro D c pre W _ _ h _
        exact h.elim
    · obtain rfl : k = zs.length := by omega
      have hcR := bR.cell
      gi_wp2
      exact Marks.leaves (F := F) (n := n) (fn := Tryd.f8) (v := .int .u8 (joinS zs)) (w := w) (fun W => results_tmp (t := 2) rfl _ _ _) Ds wr hM hnx
theorem info9 : (Tryd.prog.info? 9).map (fun i => (i.zero, i.size, i.bytes)) = some (some (.string ⟨#[]⟩), 1, 16) := by kernel_rfl
def nm : Nat → List UInt8
  | 0 => [105, 110, 118, 97, 108, 105, 100] | 1 => [100, 105, 118, 122, 101, 114, 111] | 2 => [111, 118, 101, 114, 102, 108, 111, 119]
  | 3 => [117, 110, 100, 101, 114, 102, 108, 111, 119] | 4 => [105, 110, 101, 120, 97, 99, 116] | _ => []
abbrev nmV (x : Fin 5) : Value := .string ⟨(nm x.1).toArray⟩
set_option maxRecDepth 100000 in
set_option maxHeartbeats 2000000 in
theorem Names_in (F : Fence) (n : Nat) (h3 : F.fn 13) (h4 : F.fn 17) (h5 : F.fn 19) (hro : F.round = none) (hn : 3 ≤ n) (s : Int) (w : World) (hg : ∀ j, j < 5 → w.cell? ⟨0, j, none⟩ = some (.string ⟨(nm j).toArray⟩)) (h0 : 0 < w.heap.size) :
    CallsIn F n Tryd.prog 13 #[.int .u8 s] w fun e W' => ∃ v, e = .returned v ∧ W'.ownsRow w.heap.size 9 1 v (evs s 5).length ((evs s 5).map nmV) ∧ (v = .slice none 0 0 ↔ evs s 5 = []) ∧ Below w.heap.size w W' := by
  have h1 : 1 ≤ n := by omega
  obtain ⟨i0, hi, hz0, hz1, hz2⟩ := info_parts info9
  refine callsIn_of_wp_marks Tryd.func13 rfl h3 ?_ hro
  simp only [Tryd.ntmps13, List.size_toArray, List.length_cons, List.length_nil, Nat.reduceAdd, Nat.reduceSub, Array.replicate_succ, Array.replicate_zero, List.push_toArray, List.append_toArray, List.nil_append, List.cons_append]
  gi_wp2_with (gi_at_call 17; refine (each_in F (n - 1) h4 hro _ _).mono ?_; rintro e w' ⟨rfl, rfl⟩)
  have bO := Boxed.new w 28 (.slice none 0 0)
  have bN := Boxed.new (w.alloc (.cells #[.slice none 0 0] 28)) 23 (.int .u8 s)
  rw [World.size_alloc] at bN
  have hB0 : Below w.heap.size w ((w.alloc (.cells #[.slice none 0 0] 28)).alloc (.cells #[.int .u8 s] 23)) := ((Below.refl _ w).alloc (Nat.le_refl _) _).alloc (by simp) _
  refine wpIn_rangeFunc_ownG hro h1 (gf := 19) (lb := #[.pointer (some ⟨w.heap.size + 1, 0, none⟩)]) rfl h5 (enters_of Tryd.func19 (by kernel_rfl) rfl)
    (each_stops F (n - 1) h5 hro (by omega) (w.heap.size + 1) s _ (by simp) bN.cell) KpC_t KpC_b (Below.refl _ _) (fun _ => rfl)
    (fun pre W => ((∃ v, Boxed W w.heap.size 28 v ∧ W.ownsRow w.heap.size 9 1 v pre.length (pre.map nmV) ∧ (v = .slice none 0 0 ↔ pre = [])) ∧ Boxed W (w.heap.size + 1) 23 (.int .u8 s)) ∧ Below w.heap.size w W)
    (fun _ _ _ => False)
    (OwnFrom.and (OwnFrom.and (Own.from (holdsRow_own w.heap.size w.heap.size 28 9 1 (fun pre => pre.length) (fun pre => pre.map nmV) (fun pre v => v = .slice none 0 0 ↔ pre = [])) _) (Own.from (boxed_own _ _ _) _)) (ownFrom_below (Nat.le_refl _) (by simp; omega)))
    (fun _ _ _ _ _ hs _ _ => hs)
    ⟨⟨⟨_, bO.alloc _, World.ownsRow_nil _ _ _ _, by simp⟩, bN⟩, hB0⟩
    (fun x => { tmps := #[.int .u8 s, undef, .slice none 0 0, .pointer (some ⟨w.heap.size, 0, none⟩), .int .i64 (x.1 : Int), .int .u8 s, .func (.func 19) #[] #[.pointer (some ⟨w.heap.size + 1, 0, none⟩)], .int .i64 (x.1 : Int), .int .u8 (2 ^ x.1 % 256), undef, undef, undef, undef, undef, undef, undef], defers := [] }) ?assign ?body ?done ?stop
  case assign =>
    intro l x W K hK
    gi_wp2
    exact hK
  case body =>
    rintro l pre x W ⟨⟨⟨v, hv, hrow, hnil⟩, bN1⟩, hB⟩ hlt
    have hc := hv.cell
    have hcA := (hv.alloc (.cells #[.string ⟨(nm x.1).toArray⟩] 9)).cell
    have hx : (x.1 : Int) < 5 := by have := x.2; omega
    have hc0 : W.cell? ⟨0, x.1, none⟩ = some (.string ⟨(nm x.1).toArray⟩) := (hB.cell (p := ⟨0, x.1, none⟩) h0).trans (hg x.1 x.2)
    gi_wp2
    refine wpIn_region_orders [[0, 1, 2, 3, 4, 5, 6], [1, 0, 2, 3, 4, 5, 6], [1, 2, 0, 3, 4, 5, 6], [1, 2, 3, 0, 4, 5, 6], [1, 2, 3, 4, 0, 5, 6]] (by kernel_rfl) (by kernel_rfl) ?_
    simp only [List.forall_mem_cons, List.filterMap, List.getElem?_toArray, List.getElem?_cons_zero, List.getElem?_cons_succ]
    refine ⟨?_, ?_, ?_, ?_, ?_, fun _ h => by cases h⟩
    all_goals
      gi_wp2_with (gi_at_builtin; refine wpListIn_append_own _ rfl _ _ 28 rfl w.heap.size 9 i0 (.string ⟨#[]⟩) 1 16 Tryd.underlying28 hi hz0 hz1 hz2 rfl (by decide) _ _ _ rfl ((hrow.alloc _).drew) ⟨W.heap.size, 0, none⟩ 1 1 [nmV x] rfl rfl (cell_one_new _ _ _) (by simp [Value.oneCell', nmV]) (by unfold maxLen; omega) (by omega) (by have := hB.size; simp; omega) ?_; intro v' w1 hown' hgrow0 _; obtain ⟨g', cap', rfl⟩ := ownsRow_succ hown'; have hgrow : (W.alloc (.cells #[nmV x] 9)).grownBy w1 v.ownBlock := ⟨hgrow0.os, hgrow0.tape, hgrow0.output, hgrow0.size, hgrow0.block⟩; obtain ⟨hv1, hv2, hr2, hk2, hb2⟩ := hv.appended (by decide) hrow hB.size (Nat.le_refl _) hown' hgrow; have bN2 := ((bN1.alloc (.cells #[nmV x] 9)).kept hgrow (bN1.not_row (by decide) hrow)).other (B' := w.heap.size) (by omega) (.slice (some ⟨g', 0, none⟩) (pre.length + 1) cap'); have hc1 := hv1.cell; have hf1 := hv1.frozen)
      exact ⟨hk2.from _, fun u hu => by rw [bN1.cell] at hu; cases hu; exact bN2.cell, ⟨⟨_, hv2, by simpa using hr2, by simp⟩, bN2⟩, hB.trans hb2⟩
  case done =>
    rintro D ys W hD rfl ⟨⟨⟨v, hv, hrow, hnil⟩, bN1⟩, hB⟩ hK
    have hc := hv.cell
    gi_wp2
    refine ⟨by simp, .inl ⟨_, _, rfl, run_takeDeferred hK, ?_⟩⟩
    exact ⟨_, results_tmp rfl _ _ _, v, rfl, ownsRow_putObj hrow _ hK rfl, hnil, hB.trans (belowK_b (w := w) (Nat.le_refl _) W D _ _ (by simp at hD; omega) hK rfl rfl)⟩
  case stop =>
    rintro D c pre W _ _ h _
    exact h.elim
end Go.Proofs.YtmjbefamiohbbaaDoor
