import Derived.Test.YtbembkamcdlhbaaGreatDoorSL2Sb
set_option linter.unusedSimpArgs false
set_option linter.unusedVariables false
set_option maxRecDepth 100000
set_option maxHeartbeats 4000000
namespace Go.Proofs.YtbembkamcdlhbaaGreatDoor.Sp
open Go.RowKit Go.Shelf FlagM
attribute [local go_sem] Oper.semAt_some
theorem amf (b:ByteArray):b.toList=b.data.toList:=ByteArray.toList_eq b
theorem amg (k:Nat) (l:Sc.By) (ls:List Sc.By):Sc.ansL k (l::ls)=if 2<l.length∧l.take 2 = [32,32] then l++10::Sc.ansL k ls else if k=0 then l.drop (l.length-2)++10::Sc.ansL 0 ls else Sc.ansL (k-1) ls:=by
 cases k<;>simp[Sc.ansL]
theorem amh {T O:ByteArray} {f i k:Nat} {A:Sc.By} (hf:f≤i) (hlt:i<T.size) (hc:T[i]=10) (h:(10:UInt8)∉(T.data.toList.take i).drop f∧O.data.toList++Sc.ansL k (Sc.ended (T.data.toList.drop f))=A) :
  (2<i-f→(((T.extract f i).extract 0 2).toList == [32,32])=true→(O++T.extract f i++⟨#[10]⟩).data.toList++Sc.ansL k (Sc.ended (T.data.toList.drop (i+1)))=A) ∧
  ((¬ 2<i-f∨(((T.extract f i).extract 0 2).toList == [32,32])=false)→0<k→O.data.toList++Sc.ansL (k-1) (Sc.ended (T.data.toList.drop (i+1)))=A) ∧
  ((¬ 2<i-f∨(((T.extract f i).extract 0 2).toList == [32,32])=false)→k=0→(O++(T.extract f i).extract (max 0 (((i-f:Nat):Int)-2)).toNat (i-f)++⟨#[10]⟩).data.toList++Sc.ansL 0 (Sc.ended (T.data.toList.drop (i+1)))=A):=by
 obtain⟨h1,h2⟩:=h
 have hl:i<T.data.toList.length:=by simpa using hlt
 have hd:T.data.toList.drop f=(T.data.toList.take i).drop f++10::T.data.toList.drop (i+1):=by
  have e1:=List.take_append_drop i T.data.toList
  have e2:T.data.toList.drop i=10::T.data.toList.drop (i+1):=by
   rw[List.drop_eq_getElem_cons hl];congr 1
  conv=>lhs;rw[← e1]
  rw[List.drop_append_of_le_length (by simp;omega),e2]
 have hx:(T.extract f i).data.toList=(T.data.toList.take i).drop f:=Sc.ext_eq T f i
 have hlen:((T.data.toList.take i).drop f).length=i-f:=by simp;omega
 have h20:((T.extract f i).extract 0 2).toList=((T.data.toList.take i).drop f).take 2:=by rw[amf,Sc.ext_eq,hx];rfl
 rw[hd,Sc.ended_line _ _ h1,amg,hlen] at h2
 rw[h20]
 refine⟨fun a1 a2=>?_,fun a1 a2=>?_,fun a1 a2=>?_⟩
 ·rw[if_pos ⟨a1,by simpa using a2⟩] at h2
  rw[DX,DX,hx,← h2];simp
 ·rw[if_neg (by rintro⟨b1,b2⟩;rcases a1 with a1|a1;exact a1 b1;rw[b2] at a1;simp at a1)] at h2
  rw[if_neg (by omega:¬ k=0)] at h2
  exact h2
 ·subst a2
  rw[if_neg (by rintro⟨b1,b2⟩;rcases a1 with a1|a1;exact a1 b1;rw[b2] at a1;simp at a1)] at h2
  rw[if_pos rfl] at h2
  have e3:(max 0 (((i-f:Nat):Int)-2)).toNat=i-f-2:=by omega
  rw[DX,DX,Sc.ext_eq,hx,e3,List.take_of_length_le (by omega),← h2]
  simp
theorem ami {T O:ByteArray} {f i k:Nat} {A:Sc.By} (hf:f≤i) (hlt:i<T.size) (hc:¬ T[i]=10) (h:(10:UInt8)∉(T.data.toList.take i).drop f∧O.data.toList++Sc.ansL k (Sc.ended (T.data.toList.drop f))=A) :
  (10:UInt8)∉(T.data.toList.take (i+1)).drop f∧O.data.toList++Sc.ansL k (Sc.ended (T.data.toList.drop f))=A:=by
 refine⟨fun hm=>?_,h.2⟩
 have hl:i<T.data.toList.length:=by simpa using hlt
 rw[List.take_succ_eq_append_getElem hl,List.drop_append_of_le_length (by simp;omega)] at hm
 rcases List.mem_append.1 hm with hm|hm
 ·exact h.1 hm
 ·exact hc (List.mem_singleton.1 hm).symm
theorem abA (w : World) (s : ByteArray) (start skip : Nat) (hs : start ≤ s.size) (hb : s.size ≤ 1000000000) (hk : skip ≤ 100) : Calls Tryz.prog 43 #[.string s, .int .i64 start, .int .i64 skip] w fun e w' => e = .returned (.string ⟨(Sc.ansL skip (Sc.ended (s.data.toList.drop start))).toArray⟩) ∧ ry w w' := by
  have q1 : (start : Int) ≤ (s.size : Int) := by omega
  have q2 : (0 : Int) ≤ (start : Int) := by omega
  have q3 : min (s.size : Int) (start : Int) = (start : Int) := by omega
  have hT : (s.extract start s.size).data.toList = s.data.toList.drop start := by
    rw [Sc.ext_eq, List.take_of_length_le (by simp)]
  rw [← hT]
  have hTs : (s.extract start s.size).size ≤ 1000000000 := by rw [ByteArray.size_extract]; omega
  generalize hA : Sc.ansL skip (Sc.ended (s.extract start s.size).data.toList) = A
  have hA := Lib.hid hA
  clear hT
  have hTs := Lib.hid hTs
  go_enter Tryz.func43, Tryz.ntmps43
  go_wp2
  generalize s.extract start s.size = T at hTs hA ⊢
  have hTs := hTs.out
  go_loopw [2, 7, 8, 9, 10] (fun k o f i _ W => ∃ (k' f' i' : Nat) (O : ByteArray), k = .int .i64 (k' : Int) ∧ o = .string O ∧ f = .int .i64 (f' : Int) ∧ i = .int .i64 (i' : Int) ∧ k' ≤ 100 ∧ f' ≤ i' ∧ i' ≤ T.size ∧ O.size ≤ f' ∧ W = w ∧ Hid ((10 : UInt8) ∉ (T.data.toList.take i').drop f' ∧ O.data.toList ++ Sc.ansL k' (Sc.ended (T.data.toList.drop f')) = A)) (fun _ _ _ i _ _ => T.size - (intOf i).toNat)
  case atStart => exact ⟨skip, 0, 0, ⟨#[]⟩, rfl, rfl, rfl, rfl, hk, by omega, by omega, Nat.le_refl 0, rfl, Lib.hid ⟨by simp, hA.out⟩⟩
  case round =>
    obtain ⟨k, f, i, O, rfl, rfl, rfl, rfl, hk1, hf1, hi1, hO1, rfl, hI⟩ := hrel
    by_cases hlt : i < T.size
    · have q4 : (i : Int) < (T.size : Int) := by omega
      by_cases hc : T[i] = 10
      · have q5 : (((T[i]).toNat : Int) != 10) = false := by rw [hc]; rfl
        have q6 : (f : Int) ≤ (i : Int) := by omega
        have q7 : (i : Int) ≤ (T.size : Int) := by omega
        have q8 : (0 : Int) ≤ (f : Int) := by omega
        have hX := Lib.hid (amh (T := T) hf1 hlt hc hI.out)
        have hsz : (T.extract f i).size = i - f := by rw [ByteArray.size_extract]; omega
        have hsz2 : ((T.extract f i).extract (max 0 (((i - f : Nat) : Int) - 2)).toNat (i - f)).size ≤ i - f := by rw [ByteArray.size_extract]; omega
        have hs10 : (⟨#[10]⟩ : ByteArray).size = 1 := rfl
        clear hI
        have hsz := Lib.hid hsz
        have hsz2 := Lib.hid hsz2
        have hs10 := Lib.hid hs10
        go_wp2_with fail
        · rename_i h1 h2
          refine ⟨⟨k, i + 1, i + 1, _, rfl, rfl, by simp, by simp, hk1, Nat.le_refl _, by omega, ?_, trivial, Lib.hid ⟨by simp, ?_⟩⟩, by simp only [intOf]; omega⟩
          · rw [ByteArray.size_append, ByteArray.size_append, hsz.out, hs10.out]; omega
          · exact hX.out.1 (by omega) h2
        · rename_i h1 h2 K2 a2 h3
          refine ⟨⟨k - 1, i + 1, i + 1, O, by congr 1; omega, rfl, by simp, by simp, by omega, Nat.le_refl _, by omega, by omega, trivial, Lib.hid ⟨by simp, ?_⟩⟩, by simp only [intOf]; omega⟩
          exact hX.out.2.1 (.inr (by assumption)) (by omega)
        · rename_i h1 h2 K2 a2 h3
          obtain rfl : k = 0 := by omega
          refine ⟨⟨0, i + 1, i + 1, _, rfl, rfl, by simp, by simp, by omega, Nat.le_refl _, by omega, ?_, trivial, Lib.hid ⟨by simp, ?_⟩⟩, by simp only [intOf]; omega⟩
          · rw [ByteArray.size_append, ByteArray.size_append, hs10.out]; have := hsz2.out; omega
          · exact hX.out.2.2 (.inr (by assumption)) rfl
        · rename_i h1 K2 a2 h3
          refine ⟨⟨k - 1, i + 1, i + 1, O, by congr 1; omega, rfl, by simp, by simp, by omega, Nat.le_refl _, by omega, by omega, trivial, Lib.hid ⟨by simp, ?_⟩⟩, by simp only [intOf]; omega⟩
          exact hX.out.2.1 (.inl (by omega)) (by omega)
        · rename_i h1 K2 a2 h3
          obtain rfl : k = 0 := by omega
          refine ⟨⟨0, i + 1, i + 1, _, rfl, rfl, by simp, by simp, by omega, Nat.le_refl _, by omega, ?_, trivial, Lib.hid ⟨by simp, ?_⟩⟩, by simp only [intOf]; omega⟩
          · rw [ByteArray.size_append, ByteArray.size_append, hs10.out]; have := hsz2.out; omega
          · exact hX.out.2.2 (.inl (by omega)) rfl
      · have q5 : (((T[i]).toNat : Int) != 10) = true := by
          simp; intro e; exact hc (UInt8.toNat_inj.1 (by
            have : (10 : UInt8).toNat = 10 := rfl
            omega))
        have hI2 := Lib.hid (ami (T := T) hf1 hlt hc hI.out)
        clear hI
        go_wp2_with fail
        exact ⟨⟨k, f, i + 1, O, rfl, rfl, rfl, by simp, hk1, by omega, by omega, hO1, trivial, hI2⟩, by simp only [intOf]; omega⟩
    · obtain rfl : i = T.size := by omega
      have q4 : ¬ (T.size : Int) < (T.size : Int) := by omega
      have hfin : O.data.toList = A := by
        obtain ⟨h1, h2⟩ := hI.out
        rw [List.take_of_length_le (by simp)] at h1
        unfold Sc.ended at h2
        rw [Sc.lines_free _ h1] at h2
        simpa [Sc.ansL] using h2
      have hO : O = ⟨A.toArray⟩ := by
        cases O with | mk d => rw [← hfin]
      have hO := Lib.hid hO
      go_wp2_with fail
      go_ret
      have hO := hO.out; subst hO; exact ⟨rfl, ry.refl _⟩
end Go.Proofs.YtbembkamcdlhbaaGreatDoor.Sp
