/- FlagJoins and FlagSets, walked. -/
import Derived.Test.YtmjbefamiohbbaaDoorFlagD
namespace Go.Proofs.YtmjbefamiohbbaaDoor
set_option linter.unusedVariables false
open Go.RowKit Go.Shelf FlagM

/-- one's own flags -/
def own (x : Int) : Int := (J ([x].map Int.toNat) : Int)
theorem own_bd (x : Int) : 0 ≤ own x ∧ own x ≤ 31 := by have := J_one_bd x; unfold own; omega
theorem own_nat (x : Int) : (own x).toNat = x.toNat % 32 := by
  simp only [own, List.map_cons, List.map_nil, J_one, Int.toNat_natCast]
/-- 'all': are all of the first k had? -/
def allK (s : Int) (l : List Int) : Nat → Bool
  | 0 => true
  | k + 1 => allK s l k && sub (own s).toNat (own (l[k]?.getD 0)).toNat
theorem allK_eq (s : Int) (l : List Int) : ∀ k, k ≤ l.length → allK s l k = (l.take k).all (fun x => sub (own s).toNat (own x).toNat)
  | 0, _ => by simp [allK]
  | k + 1, h => by
    rw [allK, allK_eq s l k (by omega), List.take_succ_eq_append_getElem (by omega), List.all_append]
    simp [List.getElem?_eq_getElem (show k < l.length by omega)]
theorem allK_all (s : Int) (l : List Int) : allK s l l.length = sub (own s).toNat (J (l.map Int.toNat)) := by
  rw [allK_eq s l _ (Nat.le_refl _), List.take_length, sub_J _ (by rw [own_nat]; omega), List.all_map]
  congr 1; funext x; simp [own_nat]
/-- 'step', from behind -/
def stp (l : List Int) : Nat → Int
  | 0 => 0
  | k + 1 => (J ([l[l.length - 1 - k]?.getD 0, stp l k].map Int.toNat) : Int)
theorem stp_eq (l : List Int) : ∀ k, k ≤ l.length → stp l k = (J ((l.drop (l.length - k)).map Int.toNat) : Int)
  | 0, _ => by simp [stp, J_nil]
  | k + 1, h => by
    have ih := stp_eq l k (by omega)
    have e : l.drop (l.length - (k + 1)) = l[l.length - 1 - k]'(by omega) :: l.drop (l.length - k) := by
      rw [List.drop_eq_getElem_cons (by omega)]
      congr 2 <;> omega
    have hg : l[l.length - 1 - k]?.getD 0 = l[l.length - 1 - k]'(by omega) := by simp [List.getElem?_eq_getElem (show l.length - 1 - k < l.length by omega)]
    rw [e, stp, ih, hg]
    simp only [List.map_cons, List.map_nil, J_cons, J_nil, Nat.or_zero, Int.toNat_natCast]
    rw [Nat.mod_eq_of_lt (J_lt _)]
theorem stp_all (l : List Int) : stp l l.length = (J (l.map Int.toNat) : Int) := by
  rw [stp_eq l _ (Nat.le_refl _)]; simp
theorem stp_bd (l : List Int) : ∀ k, 0 ≤ stp l k ∧ stp l k ≤ 31
  | 0 => by simp [stp]
  | k + 1 => by
    have := J_lt ([l[l.length - 1 - k]?.getD 0, stp l k].map Int.toNat)
    simp only [stp]; omega

set_option maxRecDepth 100000 in
set_option maxHeartbeats 1000000 in
theorem joins_some (b off cap : Nat) (l : List Int) (s : Int) (w : World) (hN : NamesAt w) (hU : U8s w (.slice (some ⟨b, off, none⟩) l.length cap) l) (hb : b < w.heap.size)
    (hc : ∀ j, j < l.length → w.cell? ⟨b, off + j, none⟩ = some (.int .u8 (l[j]?.getD 0))) (h0 : 0 ≤ s) (h1 : s ≤ 255) (h100 : l.length ≤ 100) :
    Calls Tryd.prog 4 #[.slice (some ⟨b, off, none⟩) l.length cap, .int .u8 s] w fun e w' => e = .returned (.bool true) ∧ Bel w w' := by
  have HN := Lib.hid hN; clear hN
  have HU := Lib.hid hU; clear hU
  have HC := Lib.hid hc; clear hc
  obtain ⟨j, hj⟩ : ∃ j, (J (l.map Int.toNat) : Int) = j := ⟨_, rfl⟩
  have hj0 : 0 ≤ j := by rw [← hj]; omega
  have hj1 : j ≤ 31 := by have := J_lt (l.map Int.toNat); rw [← hj]; omega
  have hjn : J (l.map Int.toNat) = j.toNat := by rw [← hj]; simp
  have HJ := Lib.hid hj; have HJN := Lib.hid hjn; clear hj hjn
  obtain ⟨o, ho⟩ : ∃ o, own s = o := ⟨_, rfl⟩
  obtain ⟨ho0, ho1⟩ := own_bd s
  rw [ho] at ho0 ho1
  have HO := Lib.hid ho; clear ho
  have h100I : (l.length : Int) ≤ 100 := by omega
  go_enter Tryd.func4, Tryd.ntmps4
  go_wp2_with fail
  refine (Join_lit _ l j _ HU.out HJ.out).mono ?_
  rintro e w1 ⟨rfl, hb1⟩
  go_wp2_with fail
  refine (Join_lit _ [s] o _ (U8s_one _ _ _ h0 h1) HO.out).mono ?_
  rintro e w2 ⟨rfl, hb2⟩
  have hB2 : Bel w w2 := (hb1.alloc _).trans hb2
  go_wp2_with fail
  go_loopw [6, 7, 8] (fun a t i wr => ∃ k : Nat, k ≤ l.length ∧ i = .int .i64 k ∧ a = .bool (allK s l k) ∧ t = .int .u8 (stp l k) ∧ Bel w wr) (fun _ _ i _ => l.length - (intOf i).toNat)
  case atStart => exact ⟨0, by omega, rfl, rfl, rfl, hB2⟩
  case round =>
    obtain ⟨k, hk, rfl, rfl, rfl, hB⟩ := hrel
    by_cases hlt : k < l.length
    · obtain ⟨x, hx⟩ : ∃ x, l[k]?.getD 0 = x := ⟨_, rfl⟩
      obtain ⟨z, hz⟩ : ∃ z, l[l.length - 1 - k]?.getD 0 = z := ⟨_, rfl⟩
      have hcx : ∀ W, Bel w W → W.cell? ⟨b, off + k, none⟩ = some (.int .u8 x) := fun W h => by rw [← hx]; exact (h.cell b (off + k) hb).trans (HC.out k hlt)
      have hcz : ∀ W, Bel w W → W.cell? ⟨b, off + (l.length - 1 - k), none⟩ = some (.int .u8 z) := fun W h => by rw [← hz]; exact (h.cell b _ hb).trans (HC.out _ (by omega))
      have hxb := HU.out.1 k hlt
      have hzb := HU.out.1 (l.length - 1 - k) (by omega)
      rw [hx] at hxb
      rw [hz] at hzb
      obtain ⟨hx0, hx1⟩ := hxb
      obtain ⟨hz0, hz1⟩ := hzb
      obtain ⟨p, hp⟩ : ∃ p, own x = p := ⟨_, rfl⟩
      obtain ⟨hp0, hp1⟩ := own_bd x
      rw [hp] at hp0 hp1
      have hsub : sub j.toNat p.toNat = true := by
        rw [← HJN.out, ← hp, own_nat]
        exact sub_J_mem _ (List.mem_map.2 ⟨x, by rw [← hx]; simp [List.getElem?_eq_getElem hlt], rfl⟩)
      obtain ⟨hs0, hs1⟩ := stp_bd l k
      obtain ⟨hs2, hs3⟩ := stp_bd l (k + 1)
      have hst : (J ([z, stp l k].map Int.toNat) : Int) = stp l (k + 1) := by rw [stp, hz]
      have hall : allK s l (k + 1) = (allK s l k && sub o.toNat p.toNat) := by rw [allK, hx, hp, HO.out]
      generalize stp l k = st at *
      generalize hst' : stp l (k + 1) = st' at *
      generalize hall' : allK s l (k + 1) = al' at *
      generalize allK s l k = al at *
      have HST := Lib.hid hst; have HST' := Lib.hid hst'; have HAL := Lib.hid hall; have HAL' := Lib.hid hall'; have HP := Lib.hid hp; have HS := Lib.hid hsub
      have HCX := Lib.hid hcx; have HCZ := Lib.hid hcz
      clear hst hst' hall hall' hp hsub hx hz hcx hcz
      have c0 := HCX.out wr hB
      have hkI : (k : Int) < (l.length : Int) := by omega
      go_wp2_with fail
      refine (Join_lit _ [x] p _ (U8s_one _ _ _ hx0 hx1) HP.out).mono ?_
      rintro e w3 ⟨rfl, hb3⟩
      have hB3 : Bel w w3 := (hB.alloc _).trans hb3
      clear c0
      have c0 := HCX.out w3 hB3
      go_wp2_with fail
      refine (Has_lit _ _ true _ (by omega) (by omega) (by omega) (by omega) HS.out).mono ?_
      rintro e w' ⟨rfl, rfl⟩
      cases al with
      | false =>
        have c1 := HCZ.out w3 hB3
        go_wp2_with fail
        refine (Join_lit _ [z, st] st' _ (U8s_two _ _ _ _ hz0 hz1 hs0 (by omega)) HST.out).mono ?_
        rintro e w5 ⟨rfl, hb5⟩
        have hB5 : Bel w w5 := (hB3.alloc _).trans hb5
        go_wp2
        go_roundw
        case rel => exact ⟨k + 1, by omega, by go_num, congrArg Value.bool (by rw [HAL'.out, HAL.out]; first | rfl | simp), congrArg (Value.int .u8) (by rw [HST'.out]), hB5⟩
        case measure => simp [intOf]; omega
      | true =>
        go_wp2_with fail
        refine (Join_lit _ [x] p _ (U8s_one _ _ _ hx0 hx1) HP.out).mono ?_
        rintro e w4 ⟨rfl, hb4⟩
        have hB4 : Bel w w4 := (hB3.alloc _).trans hb4
        clear c0
        go_wp2_with fail
        refine (Has_c _ _ _ (by omega) (by omega) (by omega) (by omega)).mono ?_
        rintro e w' ⟨rfl, rfl⟩
        have c1 := HCZ.out w4 hB4
        generalize hq : sub o.toNat p.toNat = q at *
        have HQ := Lib.hid hq; clear hq
        go_wp2_with fail
        refine (Join_lit _ [z, st] st' _ (U8s_two _ _ _ _ hz0 hz1 hs0 (by omega)) HST.out).mono ?_
        rintro e w5 ⟨rfl, hb5⟩
        have hB5 : Bel w w5 := (hB4.alloc _).trans hb5
        go_wp2
        go_roundw
        case rel => exact ⟨k + 1, by omega, by go_num, congrArg Value.bool (by rw [HAL'.out, HAL.out]; first | rfl | simp), congrArg (Value.int .u8) (by rw [HST'.out]), hB5⟩
        case measure => simp [intOf]; omega
    · obtain rfl : k = l.length := by omega
      have hA := allK_all s l
      have hS := stp_all l
      rw [show own s = o from HO.out, HJN.out] at hA
      rw [HJ.out] at hS
      rw [hA, hS]
      have HA := Lib.hid hA; have HS := Lib.hid hS
      clear hA hS hlt
      have hself : (sub o.toNat j.toNat == sub o.toNat j.toNat) = true := by simp
      have hjj : (J ([j, j].map Int.toNat) : Int) = j := by
        simp only [List.map_cons, List.map_nil, J_cons, J_nil, Nat.or_zero, Nat.or_self]
        omega
      have HJJ := Lib.hid hjj; clear hjj
      go_wp2_with fail
      refine (Good_lit _ true _ (by omega) (by omega) (by simp; omega)).mono ?_
      rintro e w' ⟨rfl, rfl⟩
      go_wp2_with fail
      refine (Has_c _ _ _ (by omega) (by omega) (by omega) (by omega)).mono ?_
      rintro e w' ⟨rfl, rfl⟩
      go_wp2_with fail
      refine (Join_lit _ [j, j] j _ (U8s_two _ _ _ _ hj0 (by omega) hj0 (by omega)) HJJ.out).mono ?_
      rintro e w6 ⟨rfl, hb6⟩
      have hB6 : Bel w w6 := (hB.alloc _).trans hb6
      go_wp2_with fail
      refine (goes_c _ (HN.out.bel hB6)).mono ?_
      rintro e w7 ⟨rfl, hb7⟩
      go_wp2
      go_ret
      exact ⟨rfl, hB6.trans hb7⟩

set_option maxRecDepth 100000 in
set_option maxHeartbeats 1000000 in
theorem joins_long (a : Option Addr) (n cap : Nat) (s : Int) (w : World) (h : 100 < n) :
    Calls Tryd.prog 4 #[.slice a n cap, .int .u8 s] w fun e w' => e = .returned (.bool true) ∧ Bel w w' := by
  have hI : (100 : Int) < (n : Int) := by omega
  go_enter Tryd.func4, Tryd.ntmps4
  go_wp2
  go_ret
  exact ⟨rfl, Bel.refl _⟩
set_option maxRecDepth 100000 in
set_option maxHeartbeats 1000000 in
theorem joins_nil (a : Option Addr) (c : Nat) (s : Int) (w : World) (hN : NamesAt w) (h0 : 0 ≤ s) (h1 : s ≤ 255) :
    Calls Tryd.prog 4 #[.slice a 0 c, .int .u8 s] w fun e w' => e = .returned (.bool true) ∧ Bel w w' := by
  have HN := Lib.hid hN; clear hN
  obtain ⟨o, ho⟩ : ∃ o, own s = o := ⟨_, rfl⟩
  obtain ⟨ho0, ho1⟩ := own_bd s
  rw [ho] at ho0 ho1
  have HO := Lib.hid ho; clear ho
  go_enter Tryd.func4, Tryd.ntmps4
  go_wp2_with fail
  refine (Join_lit _ [] 0 _ (U8s_nil _ _ _) (by decide)).mono ?_
  rintro e w1 ⟨rfl, hb1⟩
  go_wp2_with fail
  refine (Join_lit _ [s] o _ (U8s_one _ _ _ h0 h1) HO.out).mono ?_
  rintro e w2 ⟨rfl, hb2⟩
  have hB2 : Bel w w2 := (hb1.alloc _).trans hb2
  go_wp2_with fail
  go_loopw [6, 7, 8] (fun a t i wr => i = .int .i64 0 ∧ a = .bool true ∧ t = .int .u8 0 ∧ Bel w wr) (fun _ _ _ _ => 0)
  case atStart => exact ⟨rfl, rfl, rfl, hB2⟩
  case round =>
    obtain ⟨rfl, rfl, rfl, hB⟩ := hrel
    go_wp2_with fail
    refine (Good_lit _ true _ (by omega) (by omega) (by decide)).mono ?_
    rintro e w' ⟨rfl, rfl⟩
    go_wp2_with fail
    refine (Has_lit _ _ true _ (by omega) (by omega) (by omega) (by omega) (sub_zero _)).mono ?_
    rintro e w' ⟨rfl, rfl⟩
    go_wp2_with fail
    refine (Join_lit _ [0, 0] 0 _ (U8s_two _ _ _ _ (by omega) (by omega) (by omega) (by omega)) (by decide)).mono ?_
    rintro e w6 ⟨rfl, hb6⟩
    have hB6 : Bel w w6 := (hB.alloc _).trans hb6
    go_wp2_with fail
    refine (goes_c _ (HN.out.bel hB6)).mono ?_
    rintro e w7 ⟨rfl, hb7⟩
    go_wp2
    go_ret
    exact ⟨rfl, hB6.trans hb7⟩
theorem joins_c (v : Value) (l : List Int) (s : Int) (w : World) (hN : NamesAt w) (hU : U8s w v l) (h0 : 0 ≤ s) (h1 : s ≤ 255) :
    Calls Tryd.prog 4 #[v, .int .u8 s] w fun e w' => e = .returned (.bool true) ∧ Bel w w' := by
  have hU' := hU
  rcases hU.2.2 with ⟨a, c, rfl, rfl⟩ | ⟨b, off, cap, rfl, hb, hc⟩
  · exact joins_nil a c s w hN h0 h1
  · by_cases h : l.length ≤ 100
    · exact joins_some b off cap l s w hN hU' hb hc h0 h1 h
    · exact joins_long _ _ _ s w (by omega)

set_option maxRecDepth 100000 in
set_option maxHeartbeats 1000000 in
theorem sets_long (a : Option Addr) (n cap : Nat) (s p : Int) (w : World) (h : 100 < n) :
    Calls Tryd.prog 3 #[.slice a n cap, .int .u8 s, .int .u8 p] w fun e w' => e = .returned (.bool true) ∧ Bel w w' := by
  have hI : (100 : Int) < (n : Int) := by omega
  go_enter Tryd.func3, Tryd.ntmps3
  go_wp2
  go_ret
  exact ⟨rfl, Bel.refl _⟩
set_option maxRecDepth 100000 in
set_option maxHeartbeats 1000000 in
theorem sets_short (a : Option Addr) (n cap : Nat) (l : List Int) (s p : Int) (w : World) (hN : NamesAt w) (hU : U8s w (.slice a n cap) l) (h : n ≤ 100) (h0 : 0 ≤ s) (h1 : s ≤ 255) (h2 : 0 ≤ p) (h3 : p ≤ 255) :
    Calls Tryd.prog 3 #[.slice a n cap, .int .u8 s, .int .u8 p] w fun e w' => e = .returned (.bool true) ∧ Bel w w' := by
  have HN := Lib.hid hN; clear hN
  have HU := Lib.hid hU; clear hU
  have hI : (n : Int) ≤ 100 := by omega
  obtain ⟨j, hj⟩ : ∃ j, (J (l.map Int.toNat) : Int) = j := ⟨_, rfl⟩
  have HJ := Lib.hid hj; clear hj
  obtain ⟨q, hq⟩ : ∃ q, sub s.toNat p.toNat = q := ⟨_, rfl⟩
  have HQ := Lib.hid hq; clear hq
  obtain ⟨g, hg⟩ : ∃ g, decide (s < 32) = g := ⟨_, rfl⟩
  have HG := Lib.hid hg
  have hjj : (j == j) = true := by simp
  have hqq : (q == q) = true := by simp
  have hgg : (g == g) = true := by simp
  go_enter Tryd.func3, Tryd.ntmps3
  go_wp2_with fail
  refine (Join_lit _ l j _ HU.out HJ.out).mono ?_
  rintro e w1 ⟨rfl, hb1⟩
  go_wp2_with fail
  refine (refJoin_c _ l _ (HU.out.bel hb1)).mono ?_
  rintro e w' ⟨rfl, rfl⟩
  rw [HJ.out]
  go_wp2_with fail
  refine (Has_lit _ _ q _ (by omega) (by omega) (by omega) (by omega) HQ.out).mono ?_
  rintro e w' ⟨rfl, rfl⟩
  go_wp2_with fail
  refine (refHas_c _ _ _ (by omega) (by omega) (by omega) (by omega)).mono ?_
  rintro e w' ⟨rfl, rfl⟩
  rw [HQ.out]
  go_wp2_with fail
  refine (Names_c _ _ (HN.out.bel hb1)).mono ?_
  rintro e w3 ⟨v3, rfl, hs3, hb3⟩
  have S3 := Lib.hid hs3; clear hs3
  have hB3 := hb1.trans hb3
  go_wp2_with fail
  refine (refNames_c _ _ h0 h1).mono ?_
  rintro e w4 ⟨v4, rfl, hs4, hb4⟩
  have S4 := Lib.hid hs4; clear hs4
  have hB4 := hB3.trans hb4
  go_wp2_with fail
  refine (texts_lit _ _ _ _ true _ (S3.out.bel hb4) S4.out (namesL_len _) (by simp)).mono ?_
  rintro e w5 ⟨rfl, hb5⟩
  have hB5 := hB4.trans hb5
  go_wp2_with fail
  refine (Good_lit _ g _ (by omega) (by omega) HG.out).mono ?_
  rintro e w' ⟨rfl, rfl⟩
  go_wp2_with fail
  refine (goes_c _ (HN.out.bel hB5)).mono ?_
  rintro e w10 ⟨rfl, hb10⟩
  go_wp2
  go_ret
  exact ⟨rfl, hB5.trans hb10⟩
theorem sets_c (v : Value) (l : List Int) (s p : Int) (w : World) (hN : NamesAt w) (hU : U8s w v l) (h0 : 0 ≤ s) (h1 : s ≤ 255) (h2 : 0 ≤ p) (h3 : p ≤ 255) :
    Calls Tryd.prog 3 #[v, .int .u8 s, .int .u8 p] w fun e w' => e = .returned (.bool true) ∧ Bel w w' := by
  have hU' := hU
  rcases hU.2.2 with ⟨a, c, rfl, rfl⟩ | ⟨b, off, cap, rfl, hb, hc⟩
  · exact sets_short _ _ _ [] s p w hN hU' (by simp) h0 h1 h2 h3
  · by_cases h : l.length ≤ 100
    · exact sets_short _ _ _ l s p w hN hU' h h0 h1 h2 h3
    · exact sets_long _ _ _ s p w (by omega)
end Go.Proofs.YtmjbefamiohbbaaDoor
