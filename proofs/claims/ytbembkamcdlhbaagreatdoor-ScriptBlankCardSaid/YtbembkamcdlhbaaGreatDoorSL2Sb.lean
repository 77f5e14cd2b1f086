import Derived.Test.YtbembkamcdlhbaaGreatDoorSL1Sb
set_option linter.unusedSimpArgs false
set_option linter.unusedVariables false
set_option maxRecDepth 100000
set_option maxHeartbeats 4000000
namespace Go.Proofs.YtbembkamcdlhbaaGreatDoor.Sp
open Go.RowKit Go.Shelf FlagM
attribute [local go_sem] Oper.semAt_some
def Td (j:Nat):Sc.By:=match j with|0=>[]|1=>[35,32,120]|2=>[32,9,13]|_=>[35]
theorem tF (s:ByteArray) (k:Nat) (h:k<s.size):(s.extract k (k+1)).data.toList = [s[k]]:=by
 have hl:k<s.data.toList.length:=by simpa using h
 rw[Sc.ext_eq,List.take_succ_eq_append_getElem hl,List.drop_append_of_le_length (by simp;omega),List.drop_of_length_le (by simp;omega)]
 rfl
theorem NY (a b:ByteArray):(a++b).data.toList=a.data.toList++b.data.toList:=by simp[ByteArray.data_append]
theorem ScriptBlank_c (w : World) (hE : EnvW w) (text : ByteArray) (at_ kind : Int) (ha : 0 ≤ at_ ∧ at_ ≤ 65535) (hk : uB kind) : Calls Tryz.prog 9 #[.string text, .int .u16 at_, .int .u8 kind] w fun e w' => e = .returned (.bool true) ∧ q8 w w' := by
  by_cases hbig : 2000 < text.size
  · have q1 : (text.size : Int) > 2000 := by omega
    go_enter Tryz.func9, Tryz.ntmps9
    go_wp2
    go_ret
    exact ⟨rfl, q8.refl w⟩
  have q1 : ¬ (text.size : Int) > 2000 := by omega
  have HR := Lib.hid (fun X (hX : q8 w X) (t : ByteArray) => aaa X (hE.bel hX) t)
  have HU := Lib.hid (fun X (hX : q8 w X) => alN X (hE.bel hX))
  by_cases he : (za text).2.2 = 0
  · obtain ⟨j, hj, hj4⟩ : ∃ j : Nat, kind % 4 = (j : Int) ∧ j < 4 := ⟨(kind % 4).toNat, by have := R4 hk; omega, by omega⟩
    have hkr := R4 hk
    have hm : (wrap64 kind).tmod 4 = (j : Int) := by rw [show wrap64 kind = kind by unfold wrap64; omega, Int.tmod_eq_emod_of_nonneg hkr.1]; exact hj
    obtain ⟨K, hK, hK4⟩ : ∃ K : Nat, at_ % 40 = (K : Int) ∧ K < 40 := ⟨(at_ % 40).toNat, by omega, by omega⟩
    have q2 : ((za text).2.2 : Int) = 0 := by omega
    clear hj hkr
    have hj5 : j = 0 ∨ j = 1 ∨ j = 2 ∨ j = 3 := by omega
    clear hj4
    obtain ⟨M, hM0⟩ : ∃ M, M = Td j := ⟨_, rfl⟩
    have hM := Lib.hid hM0
    clear hM0
    have hml : M.length ≤ 3 ∧ (10 : UInt8) ∉ M ∧ Sc.skip (xu M) = true := by
      rw [hM.out, aab]
      rcases hj5 with rfl | rfl | rfl | rfl
      · exact ⟨by decide, by decide, by decide⟩
      · exact ⟨by decide, by decide, by decide⟩
      · exact ⟨by decide, by decide, by decide⟩
      · exact ⟨by decide, by decide, by decide⟩
    have hil := Sc.ins_len K M text.data.toList 0
    have hil2 : (Sc.ins K M 0 text.data.toList).length ≤ 2010 := by
      have : text.data.toList.length = text.size := by simp
      split at hil <;> omega
    clear hil
    rcases hj5 with rfl | rfl | rfl | rfl
    all_goals
      go_enter Tryz.func9, Tryz.ntmps9
      go_wp2_with (first | (go_at_call 41; refine (HR.out _ (q8.refl w) _).mono ?_; rintro e w1 ⟨rfl, hB1⟩))
      go_loopw [12, 13, 14] (fun o l i W => ∃ (k n : Nat) (O : ByteArray), o = .string O ∧ l = .int .i64 (n : Int) ∧ i = .int .i64 (k : Int) ∧ k ≤ text.size ∧ n ≤ k ∧ q8 w W ∧ Hid (O.data.toList ++ Sc.ins K M n (text.data.toList.drop k) = Sc.ins K M 0 text.data.toList)) (fun _ _ i _ => text.size - (intOf i).toNat)
      case atStart => exact ⟨0, 0, ⟨#[]⟩, rfl, rfl, rfl, by omega, by omega, q8.alloc hB1 _, Lib.hid rfl⟩
      case round =>
        obtain ⟨k, n, O, rfl, rfl, rfl, hk1, hn1, hBr, hO⟩ := hrel
        have hOl : O.size ≤ 2010 := by
          have := congrArg List.length hO.out
          rw [List.length_append] at this
          have e : O.data.toList.length = O.size := by simp
          omega
        by_cases hlt : k < text.size
        · have q3 : (k : Int) < (text.size : Int) := by omega
          have hdr : text.data.toList.drop k = text[k] :: text.data.toList.drop (k + 1) := by
            have h := List.drop_eq_getElem_cons (show k < text.data.toList.length by simpa using hlt)
            rw [h]; rfl
          have hO1 := Lib.hid ((congrArg (fun x => O.data.toList ++ Sc.ins K M n x) hdr).symm.trans hO.out)
          by_cases hc : text[k] = 10
          · have q4 : (((text[k]).toNat : Int) != 10) = false := by rw [hc]; rfl
            by_cases hnK : n + 1 = K
            · have q5 : ((n : Int) + 1 == (K : Int)) = true := by simp; omega
              go_wp2_with fail
              refine ⟨⟨k + 1, n + 1, _, rfl, by simp, by simp, by omega, by omega, hBr, Lib.hid ?_⟩, by simp only [intOf]; omega⟩
              have h := hO1.out
              rw [hc, Sc.ins, if_pos rfl, if_pos hnK] at h
              rw [← h]
              simp only [NY, tF text k hlt, hc]
              rw [hM.out]
              simp [Td]
            · have q5 : ((n : Int) + 1 == (K : Int)) = false := by simp; omega
              go_wp2_with fail
              refine ⟨⟨k + 1, n + 1, _, rfl, by simp, by simp, by omega, by omega, hBr, Lib.hid ?_⟩, by simp only [intOf]; omega⟩
              have h := hO1.out
              rw [hc, Sc.ins, if_pos rfl, if_neg hnK] at h
              rw [← h, NY, tF text k hlt, hc]
              simp
          · have q4 : (((text[k]).toNat : Int) != 10) = true := by
              simp; intro e; exact hc (UInt8.toNat_inj.1 (by
                have : (10 : UInt8).toNat = 10 := rfl
                omega))
            go_wp2_with fail
            refine ⟨⟨k + 1, n, _, rfl, rfl, by simp, by omega, by omega, hBr, Lib.hid ?_⟩, by simp only [intOf]; omega⟩
            have h := hO1.out
            rw [Sc.ins, if_neg hc] at h
            rw [← h, NY, tF text k hlt]
            simp
        · obtain rfl : k = text.size := by omega
          have q3 : ¬ (text.size : Int) < (text.size : Int) := by omega
          have hfin : O.data.toList = Sc.ins K M 0 text.data.toList := by
            have h := hO.out
            rw [List.drop_of_length_le (by simp), Sc.ins, List.append_nil] at h
            exact h
          have z1 : ¬ (1 + O.size > 9223372036854775807) := by omega
          have z2 : ¬ (2 + O.size > 9223372036854775807) := by omega
          have z4 : ¬ (4 + O.size > 9223372036854775807) := by omega
          have key : ∀ D : ByteArray, D.data.toList = M ++ 10 :: O.data.toList → za D = za text := fun D hD => by
            show Sc.runT xu xN act st0 D.data.toList = Sc.runT xu xN act st0 text.data.toList
            rw [hD, hfin]
            exact Sc.blank_law xu xN act st0 K M hml.2.1 (by omega) hml.2.2 text.data.toList (by
              have : text.data.toList.length = text.size := by simp
              omega) (by show (za text).2.2 = 0; exact he)
          have key := Lib.hid key
          go_wp2_with fail
          refine (HR.out _ hBr _).mono ?_
          rintro e w2 ⟨rfl, hB2⟩
          rw [key.out _ (by rw [hM.out]; simp only [NY]; simp [Td])]
          have hB3 := q8.trans hBr hB2
          go_wp2_with (go_at_call 40; refine (HU.out _ hB3).mono ?_; rintro e w3 ⟨rfl, hB4⟩)
          go_ret
          exact ⟨rfl, q8.trans hB3 hB4⟩
  · have q2 : (((za text).2.2 : Int) != 0) = true := by simp; omega
    go_enter Tryz.func9, Tryz.ntmps9
    go_wp2_with (first | (go_at_call 41; refine (HR.out _ (q8.refl w) _).mono ?_; rintro e w1 ⟨rfl, hB1⟩) | (go_at_call 40; refine (HU.out _ hB1).mono ?_; rintro e w2 ⟨rfl, hB2⟩))
    go_ret
    exact ⟨rfl, q8.trans hB1 hB2⟩
end Go.Proofs.YtbembkamcdlhbaaGreatDoor.Sp
