import Derived.Test.YtngiodcdelfdmaaGreatDoorZHR6
import Derived.StillTailTactics
namespace Go.Proofs.YtngiodcdelfdmaaGreatDoor
set_option linter.unusedVariables false
open Go.RowKit Go.Shelf
attribute [local go_sem] Oper.semAt_some
theorem own_bel {w w' : World} {base e g n c : Nat} {xs : List Value} (h : w.ownsRow base e 1 (.slice (some ⟨g, 0, none⟩) n c) n xs) (hb : Bel w w') : w'.ownsRow base e 1 (.slice (some ⟨g, 0, none⟩) n c) n xs := by
 refine ⟨h.1, ?_⟩
 rcases h.2 with ⟨h1, _⟩ | ⟨g', cap, cur, h1, h2, h3, h4⟩
 ·cases h1
 ·refine .inr ⟨g', cap, cur, h1, h2, ?_, h4⟩
  rw [Below.block hb g' (Array.getElem?_eq_some_iff.1 h3).1]; exact h3
theorem rdx_stored {w : World} {v : Value} {k x g j : Nat} {u : Value} (h : RdX w v k x) (hne : ∀ b, vblock v = some b → b ≠ g) : RdX (w.setCell ⟨g, j, none⟩ u) v k x :=
 h.same (by simp) fun b hb _ => heap_setCell_other w ⟨g, j, none⟩ b u (fun e => hne b hb (by simpa using e))
theorem dlen_mono {a b : Nat} (h : a ≤ b) : dlenN a ≤ dlenN b := dlenN_le.1 (Nat.lt_of_le_of_lt h (lt_dlen b))
theorem dlen_double (x : Nat) : dlenN (2 * x + 1) ≤ dlenN x + 1 := by
 rw [← dlenN_le, Nat.pow_succ]
 have h := lt_dlen x
 have h2 : B32 ^ dlenN x * 2 ≤ B32 ^ dlenN x * B32 := Nat.mul_le_mul_left _ (by decide)
 omega
theorem set_bit {x s : Nat} (hx : x < 4294967296) (hs : s < 32) : bits .or .u32 (x : Int) (2 ^ s) = ((x ||| 2 ^ s : Nat) : Int) := by
 have h : (2 : Nat) ^ s < 2 ^ 32 := Nat.pow_lt_pow_right (by decide) hs
 rw [show (2 : Int) ^ s = ((2 ^ s : Nat) : Int) by rw [Int.natCast_pow]; rfl, u32_or_nat _ _ hx (by omega)]
theorem wrap_pow32 {s : Nat} (hs : s < 32) : IntKind.u32.wrap (2 ^ s) = 2 ^ s := by
 have h : (2 : Nat) ^ s < 2 ^ 32 := Nat.pow_lt_pow_right (by decide) hs
 have e : (2 : Int) ^ s = ((2 ^ s : Nat) : Int) := by rw [Int.natCast_pow]; rfl
 rw [e]
 generalize (2 : Nat) ^ s = z at h ⊢
 unfold IntKind.wrap IntKind.bits IntKind.signed; simp; omega
theorem rawV_or {N q i : Nat} (h : i / 32 < N) : (rawV N q).set (i / 32) (.int .u32 ((dg q (i / 32) ||| 2 ^ (i % 32) : Nat) : Int)) = rawV N (q ||| 2 ^ i) := by
 apply List.ext_getElem?
 intro j
 rw [List.getElem?_set]
 by_cases hj : j < N
 ·rw [rawV_get (x := q ||| 2 ^ i) hj]
  by_cases e : i / 32 = j
  ·rw [if_pos e, if_pos (by simpa [rawV] using h)]
   unfold dV; rw [dg_or, if_pos e.symm, e]; rfl
  ·rw [if_neg e, rawV_get hj]
   unfold dV; rw [dg_or, if_neg (fun h => e h.symm)]
 ·have hn : ∀ q', (rawV N q')[j]? = none := fun q' => by simp [rawV]; omega
  rw [hn, hn, if_neg (by omega)]
theorem one_dlen : dlenN 1 = 1 := by rw [dlenN_pos (by decide)]; rfl
theorem Shl1_c (w : World) (v : Value) (x : Nat) (hl : dlenN x ≤ 34000000) (h : RdX w v (dlenN x) x) : Calls Tryz.prog 80 #[v, .int .i64 1] w (NRet w [v] (2 * x)) := by
 have := Shl_c w v x 1 (by decide) hl h
 rw [Nat.pow_one, Nat.mul_comm] at this
 exact this
theorem Of1_c (w : World) : Calls Tryz.prog 120 #[.int .u64 1] w (NRet w [] 1) := Of_c w 1 (by decide)
theorem lenX_le (a : Nat) : lenX a ≤ 32 * dlenN a := by
 rcases Nat.eq_zero_or_pos a with rfl | h
 ·exact Nat.zero_le _
 ·unfold lenX
  rw [if_neg (by omega)]
  have h1 := lt_dlen a
  rw [B32_pow, ← Nat.pow_mul] at h1
  have := (Nat.log2_lt (by omega : a ≠ 0)).2 h1
  omega
set_option maxRecDepth 100000 in
set_option maxHeartbeats 4000000 in
theorem Div_c (w : World) (va vb : Value) (a d : Nat) (hd : 0 < d) (ha : dlenN a ≤ 33554432) (hb : dlenN d ≤ 33554432) (hA : RdX w va (dlenN a) a) (hB : RdX w vb (dlenN d) d) :
  Calls Tryz.prog 79 #[va, vb] w fun e w' => ∃ u v, e = .returned (.tuple #[u, v]) ∧ RdX w' u (dlenN (a / d)) (a / d) ∧ RdX w' v (dlenN (a % d)) (a % d) ∧ (∀ b, vblock u = some b → w.heap.size ≤ b) ∧ (∀ b, vblock v = some b → w.heap.size ≤ b) ∧ Bel w w' := by
 obtain ⟨i0, hi, hz0, hz1, hz2⟩ := info_parts infoU32
 have hLen := fun W (h : RdX W va (dlenN a) a) => Len_c W va a (by omega) h
 have hBit := fun W i (hi : i ≤ 1073741824) (h : RdX W va (dlenN a) a) => Bit_c W va a i hi (by omega) h
 obtain ⟨ada, capa, rfl, hcA⟩ := hA.any
 obtain ⟨adb, capb, rfl, _⟩ := hB.any
 have hxa := lt_dlen a
 have hL := lenX_le a
 have hrho : ∀ j, rAt a d j < d := fun j => Nat.mod_lt _ hd
 have hrl : ∀ x, x < 2 * d → dlenN x ≤ 33554433 := fun x hx => by
  have h1 := dlen_mono (show x ≤ 2 * d + 1 by omega)
  have h2 := dlen_double d
  omega
 generalize hla : dlenN a = la at *
 go_enter Tryz.func79, Tryz.ntmps79
 go_wp2_with (first | (at_make; refine wpList_make_full _ rfl (.tmp 10) (.tmp 10) 65 rfl w.heap.size 142 i0 (.int .u32 0) 1 Tryz.underlying65 hi hz0 hz1 .i64 .i64 (la : Int) (la : Int) la rfl rfl rfl rfl (by rw [hz2]; omega) (by unfold maxLen; omega) (Nat.le_refl _) ?_; intro w1 hown0 hgrow0; have hB1 : Below w.heap.size w w1 := (Below.refl _ w).grown hgrow0 (Nat.le_refl _) (fun k hk => by cases hk); have hA1 := hA.bel (show Bel w w1 from hB1)) | (go_at_call 124; (with_reducible refine (hLen _ hA1).mono ?_); rintro e w' ⟨rfl, rfl⟩))
 have hz : (madeCells (Value.int .u32 0).cells (la * 1)).toList = rawV la (qAt a d (lenX a)) := by
  rw [(at_top (d := d) (lenX_lt a)).1, show (Value.int .u32 0).cells = #[Value.int .u32 0] from rfl, toList_madeCells_one, Nat.mul_one]
  symm
  unfold rawV
  rw [List.eq_replicate_iff]
  refine ⟨by simp, fun b hb => ?_⟩
  obtain ⟨j, hj, rfl⟩ := List.mem_map.1 hb
  unfold dV
  rw [dg_big (B32_pp j)]; rfl
 rw [hz] at hown0
 have hnil : RdX w1 (.slice none 0 0) (dlenN (rAt a d (lenX a))) (rAt a d (lenX a)) := by rw [(at_top (d := d) (lenX_lt a)).2]; exact RdX.nil _ _
 clear hz hLen
 go_loopw [7, 8] (fun r i wr => ∃ j : Nat, j ≤ lenX a ∧ i = .int .i64 ((j : Int) - 1) ∧ RdX wr r (dlenN (rAt a d j)) (rAt a d j) ∧ (∀ b, vblock r = some b → w.heap.size < b) ∧ wr.ownsRow w.heap.size 142 1 (.slice (some ⟨w.heap.size, 0, none⟩) la la) la (rawV la (qAt a d j)) ∧ Below w.heap.size w wr)
  (fun _ i _ => (intOf i + 1).toNat)
 case atStart => exact ⟨lenX a, Nat.le_refl _, rfl, hnil, (fun b h => by cases h), hown0, hB1⟩
 case round =>
  clear hown0 hB1 hgrow0 hnil
  obtain ⟨j, hj, rfl, hr, hrb, hown, hnx⟩ := hrel
  have hsz := hnx.size
  have hgt : w.heap.size < wr.heap.size := by
   rcases hown.2 with ⟨h1, _⟩ | ⟨g', cap, cur, h1, h2, h3, h4⟩
   ·cases h1
   ·cases h1; exact (Array.getElem?_eq_some_iff.1 h3).1
  rcases Nat.eq_zero_or_pos j with rfl | h0
  ·rw [(at_zero a d).1] at hown
   rw [(at_zero a d).2] at hr
   have l3 : a / d < B32 ^ la := Nat.lt_of_le_of_lt (Nat.div_le_self _ _) hxa
   have hmk : la ≤ 70000000 := by omega
   go_wp2_with (go_at_call 153; (with_reducible refine (Trim_c _ _ _ _ hmk l3 (rdx_of_own hown) (own_cap hown)).mono ?_); rintro e w' ⟨u, rfl, hu, hbk, rfl⟩)
   go_ret2
   exact ⟨_, _, rfl, hu, hr, fun b h => (by have h2 : some w.heap.size = some b := hbk b h; cases h2; omega), fun b h => Nat.le_of_lt (hrb b h), hnx⟩
  ·obtain ⟨i, rfl⟩ : ∃ i, j = i + 1 := ⟨j - 1, by omega⟩
   have hi30 : i ≤ 1073741824 := by omega
   have hila : i / 32 < la := by omega
   rw [show ((i + 1 : Nat) : Int) - 1 = (i : Int) by omega]
   have q0 : (i : Int) ≥ 0 := by omega
   have hr0 := hrho (i + 1)
   have hAr := hA.bel (show Bel w wr from hnx)
   have hBr := hB.bel (show Bel w wr from hnx)
   have hSh := Shl1_c wr u7 (rAt a d (i + 1)) (by have := hrl (rAt a d (i + 1)) (by omega); omega) hr
   have hhit := @at_hit a d i hd
   have hmis := @at_miss a d i hd
   generalize hρ : rAt a d (i + 1) = ρ at *
   cases hbt : a.testBit i with
   | false =>
    rw [hbt] at hhit hmis
    simp only [Bool.toNat_false, Nat.add_zero] at hhit hmis
    by_cases hge : d ≤ 2 * ρ
    ·have hc : cmpI (2 * ρ) d ≥ 0 := by unfold cmpI; rw [if_neg (by omega)]; split <;> omega
     go_wp2_with (first | (go_at_call 80; (with_reducible refine hSh.mono ?_); rintro e w1 ⟨r1, rfl, hr1, hb1, hB1⟩; have hA1 := hAr.bel hB1; have hD1 := hBr.bel hB1; have hs1 := hB1.size; have ho1 := own_bel hown hB1; have n1 := (show Below w.heap.size w w1 from hnx.trans (hB1.mono hsz))) | (go_at_call 99; (with_reducible refine (hBit w1 i hi30 hA1).mono ?_); rintro e w' ⟨rfl, rfl⟩) | (go_at_call 51; (with_reducible refine (Cmp_c w1 r1 _ (2 * ρ) d (by have := hrl (2 * ρ) (by omega); omega) (by omega) hr1 hD1).mono ?_); rintro e w2 ⟨rfl, hB2⟩; have hD2 := hD1.bel hB2; have hr2 := hr1.bel hB2; have hs2 := hB2.size; have ho2 := own_bel ho1 hB2) | (go_at_call 100; (with_reducible refine (Sub_c w2 r1 _ (2 * ρ) d hge (by have := hrl (2 * ρ) (by omega); omega) hr2 hD2).mono ?_); rintro e w3 ⟨r3, rfl, hr3, hb3, hB3⟩; have hs3 := hB3.size; have ho3 := own_bel ho2 hB3; have c3 := (World.ownsRow.cellAt ho3 (i / 32) (by omega)).trans (rawV_get hila); have f3 := World.ownsRow.frozenAt ho3 (i / 32)))
     have nE : Below w.heap.size w w2 := n1.trans (hB2.mono (by omega))
     have nF : Below w.heap.size w w3 := nE.trans (hB3.mono (by omega))
     have hst := World.ownsRow.stored ho3 (i / 32) (.int .u32 ((dg (qAt a d (i + 1)) (i / 32) ||| 2 ^ (i % 32) : Nat) : Int))
     rw [rawV_or hila, ← (hhit hge).1] at hst
     have hx := dg_lt (qAt a d (i + 1)) (i / 32)
     unfold B32 at hx
     have hsb := set_bit hx (s := i % 32) (by omega)
     have qi : ((i : Int) / 32) < (la : Int) := by omega
     unfold dV at c3
     rw [show Int.ofNat (dg (qAt a d (i + 1)) (i / 32)) = ((dg (qAt a d (i + 1)) (i / 32) : Nat) : Int) from rfl] at c3
     generalize dg (qAt a d (i + 1)) (i / 32) = x at *
     have hwi : IntKind.i64.wrap ((i : Int) / 32) = ((i / 32 : Nat) : Int) := by have h := w64_i ((i : Int) / 32); rw [h, i64_id (by omega) (by omega)]; omega
     have q32 : 0 ≤ (i : Int) / 32 := by omega
     have e32 : ((i : Int) / 32).toNat = i / 32 := by omega
     have htm : (i : Int).tmod 32 = ((i % 32 : Nat) : Int) := by rw [Int.tmod_eq_emod_of_nonneg (by omega)]; omega
     have hv : bits .or .u32 (x : Int) (IntKind.u32.wrap (2 ^ ((i : Int) % 32).toNat)) = ((x ||| 2 ^ (i % 32) : Nat) : Int) := by rw [show ((i : Int) % 32).toNat = i % 32 by omega, wrap_pow32 (show i % 32 < 32 by omega)]; exact hsb
     have qi2 : ((i / 32 : Nat) : Int) < (la : Int) := by omega
     have c3 : ({ w3 with drawn := w3.drawn + 1 } : World).cell? ⟨w.heap.size, i / 32, none⟩ = some (.int .u32 (x : Int)) := c3
     have c4 : w3.drew.cell? ⟨w.heap.size, i / 32, none⟩ = some (.int .u32 (x : Int)) := c3
     have f4 : w3.drew.frozen? ⟨w.heap.size, i / 32, none⟩ = false := f3
     have f3 : ({ w3 with drawn := w3.drawn + 1 } : World).frozen? ⟨w.heap.size, i / 32, none⟩ = false := f3
     go_still_tail 12, (by kernel_rfl)
     go_wp2_with fail
     refine ⟨⟨i, by omega, rfl, ?_, ?_, ?_, ?_⟩, by simp [intOf]⟩
     ·rw [(hhit hge).2]; exact RdX.bel (rdx_stored hr3 (fun b h => by have := hb3 b h; omega)) (Below.drew (Below.refl _ _))
     ·exact fun b h => by have := hb3 b h; omega
     ·exact hst.1
     ·exact Below.drew (Below.setCell nF (p := ⟨w.heap.size, i / 32, none⟩) (Nat.le_refl _) _)
    ·have hc : ¬ (cmpI (2 * ρ) d ≥ 0) := by unfold cmpI; rw [if_pos (by omega)]; omega
     go_wp2_with (first | (go_at_call 80; (with_reducible refine hSh.mono ?_); rintro e w1 ⟨r1, rfl, hr1, hb1, hB1⟩; have hA1 := hAr.bel hB1; have hD1 := hBr.bel hB1; have hs1 := hB1.size; have ho1 := own_bel hown hB1; have n1 := (show Below w.heap.size w w1 from hnx.trans (hB1.mono hsz))) | (go_at_call 99; (with_reducible refine (hBit w1 i hi30 hA1).mono ?_); rintro e w' ⟨rfl, rfl⟩) | (go_at_call 51; (with_reducible refine (Cmp_c w1 r1 _ (2 * ρ) d (by have := hrl (2 * ρ) (by omega); omega) (by omega) hr1 hD1).mono ?_); rintro e w2 ⟨rfl, hB2⟩; have hD2 := hD1.bel hB2; have hr2 := hr1.bel hB2; have hs2 := hB2.size; have ho2 := own_bel ho1 hB2))
     have nE : Below w.heap.size w w2 := n1.trans (hB2.mono (by omega))
     go_roundw
     case rel => exact ⟨i, by omega, by go_num, (by rw [(hmis (by omega)).2]; exact hr2), (fun b h => by have h2 := hb1 b h; have h3 := hgt; omega), (by rw [(hmis (by omega)).1]; exact ho2), nE⟩
     case measure => simp [intOf]
   | true =>
    rw [hbt] at hhit hmis
    simp only [Bool.toNat_true] at hhit hmis
    by_cases hge : d ≤ 2 * ρ + 1
    ·have hc : cmpI (2 * ρ + 1) d ≥ 0 := by unfold cmpI; rw [if_neg (by omega)]; split <;> omega
     go_wp2_with (first | (go_at_call 80; (with_reducible refine hSh.mono ?_); rintro e w1 ⟨r1, rfl, hr1, hb1, hB1⟩; have hA1 := hAr.bel hB1; have hD1 := hBr.bel hB1; have hs1 := hB1.size; have ho1 := own_bel hown hB1; have n1 := (show Below w.heap.size w w1 from hnx.trans (hB1.mono hsz))) | (go_at_call 99; (with_reducible refine (hBit w1 i hi30 hA1).mono ?_); rintro e w' ⟨rfl, rfl⟩) | (go_at_call 120; (with_reducible refine (Of1_c w1).mono ?_); rintro e wA ⟨rA, rfl, hrA, hbA, hBA⟩; have hsA := hBA.size; have hr1A := hr1.bel hBA) | (go_at_call 122; (with_reducible refine (Add_c wA r1 rA (2 * ρ) 1 (by have := hrl (2 * ρ) (by omega); omega) (by rw [one_dlen]; omega) hr1A hrA).mono ?_); rintro e wB ⟨rB, rfl, hrB, hbB, hBB⟩; have hDB := (hD1.bel hBA).bel hBB; have hsB := hBB.size; have hoB := own_bel (own_bel ho1 hBA) hBB) | (go_at_call 51; (with_reducible refine (Cmp_c wB rB _ (2 * ρ + 1) d (by have := hrl (2 * ρ + 1) (by omega); omega) (by omega) hrB hDB).mono ?_); rintro e w2 ⟨rfl, hB2⟩; have hD2 := hDB.bel hB2; have hr2 := hrB.bel hB2; have hs2 := hB2.size; have ho2 := own_bel hoB hB2) | (go_at_call 100; (with_reducible refine (Sub_c w2 rB _ (2 * ρ + 1) d hge (by have := hrl (2 * ρ + 1) (by omega); omega) hr2 hD2).mono ?_); rintro e w3 ⟨r3, rfl, hr3, hb3, hB3⟩; have hs3 := hB3.size; have ho3 := own_bel ho2 hB3; have c3 := (World.ownsRow.cellAt ho3 (i / 32) (by omega)).trans (rawV_get hila); have f3 := World.ownsRow.frozenAt ho3 (i / 32)))
     have nE : Below w.heap.size w w2 := ((n1.trans (hBA.mono (by omega))).trans (hBB.mono (by omega))).trans (hB2.mono (by omega))
     have nF : Below w.heap.size w w3 := nE.trans (hB3.mono (by omega))
     have hst := World.ownsRow.stored ho3 (i / 32) (.int .u32 ((dg (qAt a d (i + 1)) (i / 32) ||| 2 ^ (i % 32) : Nat) : Int))
     rw [rawV_or hila, ← (hhit hge).1] at hst
     have hx := dg_lt (qAt a d (i + 1)) (i / 32)
     unfold B32 at hx
     have hsb := set_bit hx (s := i % 32) (by omega)
     have qi : ((i : Int) / 32) < (la : Int) := by omega
     unfold dV at c3
     rw [show Int.ofNat (dg (qAt a d (i + 1)) (i / 32)) = ((dg (qAt a d (i + 1)) (i / 32) : Nat) : Int) from rfl] at c3
     generalize dg (qAt a d (i + 1)) (i / 32) = x at *
     have hwi : IntKind.i64.wrap ((i : Int) / 32) = ((i / 32 : Nat) : Int) := by have h := w64_i ((i : Int) / 32); rw [h, i64_id (by omega) (by omega)]; omega
     have q32 : 0 ≤ (i : Int) / 32 := by omega
     have e32 : ((i : Int) / 32).toNat = i / 32 := by omega
     have htm : (i : Int).tmod 32 = ((i % 32 : Nat) : Int) := by rw [Int.tmod_eq_emod_of_nonneg (by omega)]; omega
     have hv : bits .or .u32 (x : Int) (IntKind.u32.wrap (2 ^ ((i : Int) % 32).toNat)) = ((x ||| 2 ^ (i % 32) : Nat) : Int) := by rw [show ((i : Int) % 32).toNat = i % 32 by omega, wrap_pow32 (show i % 32 < 32 by omega)]; exact hsb
     have qi2 : ((i / 32 : Nat) : Int) < (la : Int) := by omega
     have c3 : ({ w3 with drawn := w3.drawn + 1 } : World).cell? ⟨w.heap.size, i / 32, none⟩ = some (.int .u32 (x : Int)) := c3
     have c4 : w3.drew.cell? ⟨w.heap.size, i / 32, none⟩ = some (.int .u32 (x : Int)) := c3
     have f4 : w3.drew.frozen? ⟨w.heap.size, i / 32, none⟩ = false := f3
     have f3 : ({ w3 with drawn := w3.drawn + 1 } : World).frozen? ⟨w.heap.size, i / 32, none⟩ = false := f3
     go_still_tail 12, (by kernel_rfl)
     go_wp2_with fail
     refine ⟨⟨i, by omega, rfl, ?_, ?_, ?_, ?_⟩, by simp [intOf]⟩
     ·rw [(hhit hge).2]; exact RdX.bel (rdx_stored hr3 (fun b h => by have := hb3 b h; omega)) (Below.drew (Below.refl _ _))
     ·exact fun b h => by have := hb3 b h; omega
     ·exact hst.1
     ·exact Below.drew (Below.setCell nF (p := ⟨w.heap.size, i / 32, none⟩) (Nat.le_refl _) _)
    ·have hc : ¬ (cmpI (2 * ρ + 1) d ≥ 0) := by unfold cmpI; rw [if_pos (by omega)]; omega
     go_wp2_with (first | (go_at_call 80; (with_reducible refine hSh.mono ?_); rintro e w1 ⟨r1, rfl, hr1, hb1, hB1⟩; have hA1 := hAr.bel hB1; have hD1 := hBr.bel hB1; have hs1 := hB1.size; have ho1 := own_bel hown hB1; have n1 := (show Below w.heap.size w w1 from hnx.trans (hB1.mono hsz))) | (go_at_call 99; (with_reducible refine (hBit w1 i hi30 hA1).mono ?_); rintro e w' ⟨rfl, rfl⟩) | (go_at_call 120; (with_reducible refine (Of1_c w1).mono ?_); rintro e wA ⟨rA, rfl, hrA, hbA, hBA⟩; have hsA := hBA.size; have hr1A := hr1.bel hBA) | (go_at_call 122; (with_reducible refine (Add_c wA r1 rA (2 * ρ) 1 (by have := hrl (2 * ρ) (by omega); omega) (by rw [one_dlen]; omega) hr1A hrA).mono ?_); rintro e wB ⟨rB, rfl, hrB, hbB, hBB⟩; have hDB := (hD1.bel hBA).bel hBB; have hsB := hBB.size; have hoB := own_bel (own_bel ho1 hBA) hBB) | (go_at_call 51; (with_reducible refine (Cmp_c wB rB _ (2 * ρ + 1) d (by have := hrl (2 * ρ + 1) (by omega); omega) (by omega) hrB hDB).mono ?_); rintro e w2 ⟨rfl, hB2⟩; have hD2 := hDB.bel hB2; have hr2 := hrB.bel hB2; have hs2 := hB2.size; have ho2 := own_bel hoB hB2))
     have nE : Below w.heap.size w w2 := ((n1.trans (hBA.mono (by omega))).trans (hBB.mono (by omega))).trans (hB2.mono (by omega))
     go_roundw
     case rel => exact ⟨i, by omega, by go_num, (by rw [(hmis (by omega)).2]; exact hr2), (fun b h => by have h2 := hbB b h; have h3 := hgt; omega), (by rw [(hmis (by omega)).1]; exact ho2), nE⟩
     case measure => simp [intOf]
end Go.Proofs.YtngiodcdelfdmaaGreatDoor
