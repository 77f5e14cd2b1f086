/- What is computed of an operation is what the model does: one theorem over all operations. No function of the program. -/
import Derived.Test.YtikjbocagnolmaaDoorAw4
namespace Go.Proofs.YtikjbocagnolmaaDoor
set_option linter.unusedVariables false
set_option linter.unusedSimpArgs false
open Go.RowKit
theorem places_map {P : Program} : ∀ {fs : List Field}, (fs.all fun f => (tySize P f.type).isSome) = true → fs.mapM (fun f => (P.info? f.type).map fun i => (f.offset, i.size)) = some (fs.map fun f => (f.offset, (tySize P f.type).getD 0))
  | [], _ => rfl
  | f :: fs, h => by
    simp only [List.all_cons, Bool.and_eq_true] at h
    obtain ⟨s, hs⟩ := Option.isSome_iff_exists.1 h.1
    obtain ⟨i, hi, hsz⟩ := tySize_get hs
    simp [List.mapM_cons, hi, places_map h.2, hs, hsz]
theorem fill_congr {p q : Nat → Option (Nat × Nat)} (h : ∀ i, p i = q i) : ∀ (ps : List (Nat × Value)) (c : Array Value), Instr.fill p c ps = Instr.fill q c ps := by
  have : p = q := funext h
  intro ps c; rw [this]
theorem run_buildA {P : Program} {t : TypeId} {z : List Value} {ps : List (Nat × AV)} {c : List AV} {e : Env} (w : World) (hz : tyZero P t = some z) (hs : sizesOk P t = true) (h : fillA (placeA P t) (z.map .v) ps = some c)
    (parts : Array (Nat × Value)) (hp : parts.toList = ps.map fun x => (x.1, x.2.val e)) : (Instr.build t parts).run P w = .ok ((mkAgg c).val e) w := by
  rw [mkAgg_val]
  apply run_build
  obtain ⟨it, v, hi, hv, hc⟩ := tyZero_get hz
  have hf := fillA_run (e := e) h
  rw [vals_v, ← hc, ← hp] at hf
  simp only [Array.toArray_toList] at hf
  unfold Program.built
  unfold sizesOk at hs
  cases hu : P.underlying t with
  | none => rw [hu] at hs; cases hs
  | some d =>
    rw [hu] at hs
    cases d <;> try cases hs
    case array n el =>
      obtain ⟨s, hsz⟩ := Option.isSome_iff_exists.1 hs
      obtain ⟨ie, hie, his⟩ := tySize_get hsz
      simp only [hi, hv, hie]
      rw [← hf]
      apply fill_congr
      intro i
      simp [placeA, hu, hsz, his]
    case struct fs =>
      simp only at hs
      have hm := places_map (P := P) hs
      simp only [hi, hv]
      rw [hm]
      simp only
      rw [← hf]
      apply fill_congr
      intro i
      simp only [placeA, hu, List.getElem?_toArray, List.getElem?_map, Array.getElem?_toList]
      cases hfi : fs[i]? with
      | none => rfl
      | some f =>
        have hfm : f ∈ fs.toList := by simpa using Array.mem_of_getElem? hfi
        obtain ⟨s, hsz⟩ := Option.isSome_iff_exists.1 (List.all_eq_true.1 hs f hfm)
        simp [hsz]
theorem run_evBuildSlice {P : Program} {t : TypeId} {len k : Nat} {ps : List (Nat × AV)} {r : AV} {tc : List Nat} {ef : List (Nat × AO)} {G : Glob} {H : AHeap} {w0 : World} {B0 : Bas} {e : Env} {w : World}
    (h : evBuildSlice P t len k ps = some (r, tc, ef)) (hk : H k = none) (R : Rep G w0 B0 e H w) (hr : ∀ x ∈ ps, ∀ c ∈ x.2.refs, H c ≠ none) (parts : Array (Nat × Value)) (hp : parts.toList = ps.map fun x => (x.1, x.2.val e)) :
    ∃ e' w', (Instr.buildSlice t len parts).run P w = .ok (r.val e') w' ∧ Rep G w0 B0 e' (H.puts ef) w' ∧ Env.on H e e' ∧ ∀ c ∈ r.refs, (H.puts ef) c ≠ none := by
  unfold evBuildSlice at h
  split at h
  · rename_i el hel
    split at h
    · rename_i s z hs hz
      split at h
      · rename_i hle
        split at h
        · rename_i c hf
          cases h
          obtain ⟨it, v, hi, hv, hc⟩ := tyZero_get hz
          have hc' : ∀ r ∈ AV.refss c, H r ≠ none := fun x hx => by
            rcases fillA_refs hf hx with h1 | ⟨y, hy, h1⟩
            · rw [refss_v] at h1; simp at h1
            · exact hr y hy x h1
          refine ⟨e.setBlk k w.heap.size, _, ?_, R.alloc hk c el hc', Env.setBlk_on hk e _, fun x hx => ?_⟩
          · have hfr := fillA_run (e := e) hf
            rw [vals_v, ← hp] at hfr
            have hz' : (zeroRow z (len * s)).toArray = (Array.range (len * s)).map fun j => v.cells[j % v.cells.size]! := by
              rw [zeroRow_eq, ← hc]
              apply Array.ext'
              simp
            rw [hz'] at hfr
            have hgt : ¬ len * s > 2 ^ 24 := by omega
            have hzv : (zeroValue el).run P w = .ok v w := by simp [zeroValue, typeInfo, hi, hv]
            simp only [Instr.buildSlice, Sem.run_bind, run_underlying (tySlc_get hel), Result.andThen, run_sizeOf hs, hgt, if_false, hle.2, Sem.run_pure, hzv, hfr]
            simp [newRow, AV.val, Env.setBlk]
          · simp [AV.refs] at hx; subst hx; rw [AHeap.puts, AHeap.puts, AHeap.put_same]; simp
        · cases h
      · cases h
    · cases h
  · cases h
theorem intBits_v {P : Program} (op : BinOp) (k : IntKind) (x y : Int) (w : World) (h : op = .and ∨ op = .or ∨ op = .xor ∨ op = .andNot) : (Op.intBits op k x y).run P w = .ok (bitsV op k x y) w := by
  rcases h with rfl | rfl | rfl | rfl <;> rfl
theorem guard_int {P : Program} (op : BinOp) (t : TypeId) (xo yo : Operand) (k k' : IntKind) (a b : Int) (w : World) : (eqGuard op t xo yo (.int k a) (.int k' b)).run P w = .ok () w := by
  unfold eqGuard; cases op <;> rfl
theorem guard_bool {P : Program} (op : BinOp) (t : TypeId) (xo yo : Operand) (a b : Bool) (w : World) : (eqGuard op t xo yo (.bool a) (.bool b)).run P w = .ok () w := by
  unfold eqGuard; cases op <;> rfl
theorem run_equal_bool {P : Program} {t : TypeId} (hu : P.underlying t = some .bool) (a b : Bool) (w : World) : (Op.equal t (.bool a) (.bool b)).run P w = .ok (a == b) w := by
  show (Op.equalIn (9999 + 1) t _ _).run P w = _
  rw [Op.equalIn]; simp only [Sem.run_bind, run_underlying hu, Result.andThen]; rfl
theorem binOp_eql_bool (t : TypeId) (a b : Bool) : binOp .eql t (.bool a) (.bool b) = (do pure (.bool (← Op.equal t (.bool a) (.bool b))) : Sem Value) := by rw [binOp] <;> simp
theorem binOp_neq_bool (t : TypeId) (a b : Bool) : binOp .neq t (.bool a) (.bool b) = (do pure (.bool (!(← Op.equal t (.bool a) (.bool b)))) : Sem Value) := by rw [binOp] <;> simp
theorem run_pBin {P : Program} {op : BinOp} {t : TypeId} {x y v : Value} (h : pBin P op t x y = some v) (xo yo : Operand) (w : World) : (do eqGuard op t xo yo x y; binOp op t x y : Sem Value).run P w = .ok v w := by
  unfold pBin at h
  split at h
  · rename_i k a k' b
    simp only [Sem.run_bind, guard_int, Result.andThen]
    cases op <;> simp only at h <;> first
      | (split at h
         · cases h
         · rename_i hb; cases h; simp [binOp, Op.shift, hb])
      | (split at h
         · rename_i hb
           cases h
           first
             | (obtain ⟨rfl, hb⟩ := hb; simp at hb; simp [binOp, Op.intDiv, hb])
             | (subst hb; simp [binOp, Op.intArith, Op.intCmp, intBits_v])
         · cases h)
  · rename_i a b
    simp only [Sem.run_bind, guard_bool, Result.andThen]
    cases op <;> simp only at h <;> try cases h
    all_goals
      split at h
      · rename_i hu
        cases h
        simp only [binOp_eql_bool, binOp_neq_bool, Sem.run_bind, run_equal_bool hu, Result.andThen, Sem.run_pure]
      · cases h
  · cases h
theorem run_evLen {P : Program} {t ty : TypeId} {x r : AV} {tc : List Nat} {G : Glob} {H : AHeap} {w0 : World} {B0 : Bas} {e : Env} {w : World} (h : evLen P t H x = some (r, tc)) (R : Rep G w0 B0 e H w) :
    (Builtin.len_ #[t] ty #[x.val e]).run P w = .ok (r.val e) w ∧ r.refs = [] := by
  unfold evLen at h
  split at h
  · rename_i el hu
    split at h
    · cases h; exact ⟨by simp [Builtin.len_, run_underlying hu, AV.val, goInt], rfl⟩
    · rename_i k
      split at h
      · rename_i n c hb
        cases h
        refine ⟨?_, rfl⟩
        rcases R.rd k n c hb with ⟨hv, hn, _⟩ | ⟨b, o, cap, hv, _, _⟩
        · simp [Builtin.len_, run_underlying hu, AV.val, hv, sliceOf, goInt, hn]
        · simp [Builtin.len_, run_underlying hu, AV.val, hv, sliceOf, goInt]
      · cases h
    · cases h; exact ⟨by simp [Builtin.len_, run_underlying hu, AV.val, goInt], rfl⟩
    · cases h
  · rename_i hu
    split at h
    · cases h; exact ⟨by simp [Builtin.len_, run_underlying hu, AV.val, goInt], rfl⟩
    · cases h
  · rename_i n el hu
    cases h; exact ⟨by simp [Builtin.len_, run_underlying hu, AV.val, goInt], rfl⟩
  · cases h
theorem run_evArrayAt {P : Program} {t : TypeId} {x r : AV} {tc : List Nat} {G : Glob} {H : AHeap} {w0 : World} {B0 : Bas} {e : Env} {w : World} (h : evArrayAt P t H x = some (r, tc)) (R : Rep G w0 B0 e H w) :
    (Instr.arrayAt t (x.val e)).run P w = .ok (r.val e) w ∧ ∀ c ∈ r.refs, c ∈ x.refs := by
  unfold evArrayAt at h
  split at h
  · rename_i n el ha
    have hu := tyArr_get ha
    split at h
    · split at h
      · rename_i hle
        cases h
        refine ⟨?_, fun c hc => by simpa [AV.refs] using hc⟩
        have : ¬ (_ < n) := Nat.not_lt.2 hle
        simp [Instr.arrayAt, run_underlying hu, AV.val, this]
      · cases h
    · rename_i k
      split at h
      · rename_i len c hb
        split at h
        · rename_i hle
          cases h
          refine ⟨?_, fun c hc => by simpa [AV.refs] using hc⟩
          have : ¬ (len < n) := Nat.not_lt.2 hle.1
          rcases R.rd k len c hb with ⟨hv, hl, hc⟩ | ⟨b, o, cap, hv, hlt, hc⟩
          · omega
          · simp [Instr.arrayAt, run_underlying hu, AV.val, hv, sliceOf, this]
        · cases h
      · cases h
    · cases h
  · cases h
theorem run_evMakeSlice {P : Program} {t : TypeId} {k : Nat} {x y r : AV} {tc : List Nat} {ef : List (Nat × AO)} {G : Glob} {H : AHeap} {w0 : World} {B0 : Bas} {e : Env} {w : World}
    (h : evMakeSlice P t k x y = some (r, tc, ef)) (hk : H k = none) (R : Rep G w0 B0 e H w) :
    ∃ e' w', (Instr.makeSlice t (x.val e) (y.val e)).run P w = .ok (r.val e') w' ∧ Rep G w0 B0 e' (H.puts ef) w' ∧ Env.on H e e' ∧ ∀ c ∈ r.refs, (H.puts ef) c ≠ none := by
  unfold evMakeSlice at h
  split at h
  · rename_i k1 n k2 m
    split at h
    · rename_i el hel
      split at h
      · rename_i s z b hs hz hb
        split at h
        · rename_i hc
          cases h
          obtain ⟨it, v, hi, hv, hcz⟩ := tyZero_get hz
          have hbb : it.bytes = b := by unfold tyBytes at hb; rw [hi] at hb; simpa using hb
          refine ⟨e.setBlk k w.heap.size, _, ?_, R.alloc hk ((zeroRow z (m.toNat * s)).map .v) el (fun r hr => by rw [refss_v] at hr; simp at hr), Env.setBlk_on hk e _, fun x hx => ?_⟩
          · have hzv : (zeroValue el).run P w = .ok v w := by simp [zeroValue, typeInfo, hi, hv]
            have w1 : IntKind.i64.wrap n = n := by unfold IntKind.wrap IntKind.bits IntKind.signed; simp; omega
            have w2 : IntKind.i64.wrap m = m := by unfold IntKind.wrap IntKind.bits IntKind.signed; simp; omega
            have hm : (b : Int) * m ≤ 4096 * 16777216 := by
              have h1 : (b : Int) ≤ 4096 := by omega
              have h2 : m ≤ 16777216 := by omega
              have h3 : (b : Int) * m ≤ b * 16777216 := Int.mul_le_mul_of_nonneg_left h2 (by omega)
              have h4 : (b : Int) * 16777216 ≤ 4096 * 16777216 := Int.mul_le_mul_of_nonneg_right h1 (by omega)
              omega
            have c1 : (decide (m < 0) || decide ((b : Int) * m > 2 ^ 48)) = false := by
              simp only [Bool.or_eq_false_iff, decide_eq_false_iff_not]
              constructor
              · omega
              · have : (2 : Int) ^ 48 = 281474976710656 := by decide
                omega
            have c2 : decide (n < 0) = false := by simp; omega
            have c3 : decide (n > m) = false := by simp; omega
            have hz' : (zeroRow z (m.toNat * s)).toArray = (Array.range (m.toNat * s)).map fun j => v.cells[j % v.cells.size]! := by
              rw [zeroRow_eq, ← hcz]; apply Array.ext'; simp
            have hroom : ∀ j, (askRoom j).run P w = .ok () w := fun j => by unfold askRoom; split <;> rfl
            simp only [Instr.makeSlice, Sem.run_bind, run_underlying (tySlc_get hel), Result.andThen, AV.val, asInt, asIntOf, Sem.run_pure, typeInfo, hi, w1, w2, hbb, c1, c2, c3, Bool.or_false, Bool.false_eq_true, if_false, hroom, run_sizeOf hs, hc.2.2.2.2, hzv, newRow]
            have hp : (program).run P w = .ok P w := rfl
            simp only [hp, hi, Sem.run_pure, hbb, c1, c2, c3, Bool.or_false, Bool.false_eq_true, if_false, hroom, run_sizeOf hs, hc.2.2.2.2, hzv, Sem.run_bind, Result.andThen]
            rw [← hz']
            simp [AV.val, Env.setBlk, vals_v]
          · simp [AV.refs] at hx; subst hx; rw [AHeap.puts, AHeap.puts, AHeap.put_same]; simp
        · cases h
      · cases h
    · cases h
  · cases h
theorem run_evSliceAll {P : Program} {t : TypeId} {x r : AV} {e : Env} (w : World) (h : evSliceAll P t x = some r) : (Instr.sliceAt t (x.val e) none none none).run P w = .ok (r.val e) w ∧ ∀ c ∈ r.refs, c ∈ x.refs := by
  unfold evSliceAll at h
  split at h
  · rename_i n el ha
    split at h
    · rename_i b o s hs
      cases h
      refine ⟨?_, fun c hc => by simpa [AV.refs] using hc⟩
      simp [Instr.sliceAt, run_underlying (tyArr_get ha), AV.val, Instr.sureAddr, Instr.sliceBounds, run_sizeOf hs, Addr.add]
    · cases h
  · cases h
end Go.Proofs.YtikjbocagnolmaaDoor
