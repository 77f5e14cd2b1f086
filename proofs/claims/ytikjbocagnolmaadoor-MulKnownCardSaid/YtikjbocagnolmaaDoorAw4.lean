/- What is computed of an operation is what the model does: the runs. No function of the program. -/
import Derived.Test.YtikjbocagnolmaaDoorAw3
namespace Go.Proofs.YtikjbocagnolmaaDoor
set_option linter.unusedVariables false
set_option linter.unusedSimpArgs false
open Go.RowKit
theorem run_part {P : Program} {t : TypeId} {c : List AV} {off : Nat} {r : AV} {e : Env} (w : World) (h : ldCells P t c off = some r) : (part t (AV.vals e c).toArray off).run P w = .ok (r.val e) w := by
  unfold ldCells at h
  unfold part
  cases ha : tyAgg P t with
  | none => rw [ha] at h; cases h
  | some q =>
    rw [ha] at h
    cases q with
    | true =>
      simp only at h
      cases hs : tySize P t with
      | none => rw [hs] at h; cases h
      | some s =>
        rw [hs] at h
        simp only at h
        split at h
        · rename_i hle
          cases h
          simp only [Sem.run_bind, run_isAgg ha, run_sizeOf hs, Result.andThen, if_true, mkAgg_val]
          simp
          rw [AV.vals_map, AV.vals_map, List.map_take, List.map_drop]
        · cases h
    | false =>
      have hx : (AV.vals e c)[off]? = some (r.val e) := by rw [AV.vals_map]; simp [h]
      simp [run_isAgg ha, hx]
theorem refs_ok {H : AHeap} {a : AV} (ha : ∀ c ∈ a.refs, H c ≠ none) : ∀ c ∈ AV.refss (cellsA a), H c ≠ none := fun c hc => ha c (cellsA_refs hc)
theorem run_evLoad {P : Program} {G : Glob} {t : TypeId} {H : AHeap} {a r : AV} {tc : List Nat} {ef : List (Nat × AO)} {w0 : World} {B0 : Bas} {e : Env} {w : World} (h : evLoad P G t H a = some (r, tc, ef)) (R : Rep G w0 B0 e H w) :
    ef = [] ∧ (Instr.loadAt t (a.val e)).run P w = .ok (r.val e) w ∧ ∀ c ∈ r.refs, H c ≠ none := by
  unfold evLoad at h
  split at h
  · rename_i b off
    split at h
    · rename_i c tt hb
      split at h
      · rename_i r' hl
        cases h
        refine ⟨rfl, ?_, fun x hx => R.refs b _ hb x (ldCells_refs hl hx)⟩
        have hown := R.own b c tt hb
        have := run_ldCells (e := e) (w := w) (b := e.blk b) (o := 0) hl (fun j x hj => by simp [World.cell?, hown, hj])
        simp only [Nat.zero_add] at this
        simp [Instr.loadAt, AV.val, Instr.sureAddr, this]
      · cases h
    · cases h
  · rename_i k off
    split at h
    · rename_i n c hb
      split at h
      · rename_i r' hl
        cases h
        refine ⟨rfl, ?_, fun x hx => by have := ldCells_refs hl hx; rw [refss_v] at this; simp at this⟩
        have hrd := R.rd k n c hb
        rcases hrd with ⟨hv, _, hc⟩ | ⟨b, o, cap, hv, hlt, hc⟩
        · subst hc
          exfalso
          unfold ldCells at hl
          split at hl
          · split at hl
            · rename_i ha _ s hs
              split at hl
              · rename_i hle
                simp at hle
                omega
              · cases hl
            · cases hl
          · simp at hl
          · cases hl
        · have := run_ldCells (e := e) (w := w) (b := b) (o := o) hl (fun j x hj => by rw [vals_v] at hj; exact hc j x hj)
          simp [Instr.loadAt, AV.val, hv, Instr.sureAddr, this]
      · cases h
    · cases h
  · rename_i g off
    split at h
    · rename_i c hg
      split at h
      · rename_i r' hl
        cases h
        refine ⟨rfl, ?_, fun x hx => by have := ldCells_refs hl hx; rw [refss_v] at this; simp at this⟩
        obtain ⟨x, hx, hxg, ho⟩ := gCells_get hg
        have hw := (R.gl x hx).2
        rw [hxg, ho] at hw
        have := run_ldCells (e := e) (w := w) (b := g) (o := 0) hl (fun j x hj => by rw [vals_v] at hj; rw [Nat.zero_add]; exact hw j x hj)
        simp only [Nat.zero_add] at this
        simp [Instr.loadAt, AV.val, Instr.sureAddr, this]
      · cases h
    · cases h
  · cases h
theorem run_evStore {P : Program} {G : Glob} {t : TypeId} {H : AHeap} {x y r : AV} {tc : List Nat} {ef : List (Nat × AO)} {w0 : World} {B0 : Bas} {e : Env} {w : World} (h : evStore P t H x y = some (r, tc, ef)) (R : Rep G w0 B0 e H w)
    (hy : ∀ c ∈ y.refs, H c ≠ none) : r = .v undef ∧ ∃ w', (Instr.storeAt t (x.val e) (y.val e)).run P w = .ok () w' ∧ Rep G w0 B0 e (H.puts ef) w' := by
  unfold evStore at h
  split at h
  · rename_i b off
    split at h
    · rename_i c tt hb
      split at h
      · rename_i hcond
        cases h
        simp only [Bool.and_eq_true, decide_eq_true_eq, List.all_eq_true] at hcond
        obtain ⟨⟨h1, hs⟩, hl⟩ := hcond
        refine ⟨rfl, w.setRow (e.blk b) (AV.vals e (c.take off ++ cellsA y ++ c.drop (off + (cellsA y).length))).toArray, ?_, ?_⟩
        · have hown := R.own b c tt hb
          have := run_storeCells_at P (e.blk b) off tt (AV.vals e (cellsA y)) 0 _ w hown (by simp [vals_length]; omega) (fun v hv => by
            rw [AV.vals_map] at hv
            obtain ⟨a, ha, rfl⟩ := List.mem_map.1 hv
            exact oneA_val (h1 a ha))
          simp only [vals_length, Nat.add_zero] at this
          simp only [Instr.storeAt, AV.val, Instr.sureAddr, storeVar, cellsA_val, Sem.run_bind, Sem.run_pure, Result.andThen, run_sizeOf hs, List.size_toArray, vals_length, ne_eq, not_true_eq_false, if_false, List.toList_toArray]
          simp only [this]
          congr 3
          simp [AV.vals_map, List.map_take, List.map_drop]
        · refine R.store hb _ (fun z hz => ?_) rfl
          obtain ⟨a, ha, hr⟩ := AV.mem_refss.1 hz
          simp only [List.mem_append] at ha
          rcases ha with (ha | ha) | ha
          · exact R.refs b _ hb z (AV.mem_refss.2 ⟨a, List.mem_of_mem_take ha, hr⟩)
          · exact hy z (cellsA_refs (AV.mem_refss.2 ⟨a, ha, hr⟩))
          · exact R.refs b _ hb z (AV.mem_refss.2 ⟨a, List.mem_of_mem_drop ha, hr⟩)
      · cases h
    · cases h
  · cases h
theorem tyFld_get {P : Program} {t ft : TypeId} {f off : Nat} (h : tyFld P t f = some (off, ft)) : ∃ fs x, P.underlying t = some (.struct fs) ∧ fs[f]? = some x ∧ x.offset = off ∧ x.type = ft := by
  unfold tyFld at h
  split at h
  · rename_i fs hu
    cases hx : fs[f]? with
    | none => rw [hx] at h; cases h
    | some x => rw [hx] at h; simp at h; exact ⟨fs, x, hu, hx, h.1, h.2⟩
  · cases h
theorem tyArr_get {P : Program} {t el : TypeId} {n : Nat} (h : tyArr P t = some (n, el)) : P.underlying t = some (.array n el) := by
  unfold tyArr at h
  split at h
  · rename_i hu; simp at h; rw [hu, h.1, h.2]
  · cases h
theorem tySlc_get {P : Program} {t el : TypeId} (h : tySlc P t = some el) : P.underlying t = some (.slice el) := by
  unfold tySlc at h
  split at h
  · rename_i hu; simp at h; rw [hu, h]
  · cases h
theorem tyInt_get {P : Program} {t : TypeId} {k : IntKind} (h : tyInt P t = some k) : P.underlying t = some (.int k) := by
  unfold tyInt at h
  split at h
  · rename_i hu; simp at h; rw [hu, h]
  · cases h
theorem tySize_get {P : Program} {t : TypeId} {s : Nat} (h : tySize P t = some s) : ∃ i, P.info? t = some i ∧ i.size = s := by
  unfold tySize at h
  cases hi : P.info? t with
  | none => rw [hi] at h; cases h
  | some i => rw [hi] at h; simp at h; exact ⟨i, rfl, h⟩
theorem tyZero_get {P : Program} {t : TypeId} {z : List Value} (h : tyZero P t = some z) : ∃ i v, P.info? t = some i ∧ i.zero = some v ∧ v.cells.toList = z := by
  unfold tyZero at h
  cases hi : P.info? t with
  | none => rw [hi] at h; cases h
  | some i =>
    rw [hi] at h
    cases hz : i.zero with
    | none => simp [hz] at h
    | some v => simp [hz] at h; exact ⟨i, v, rfl, hz, h⟩
theorem run_evField {P : Program} {t : TypeId} {f : Nat} {x r : AV} {e : Env} (w : World) (h : evField P t f x = some r) : (Instr.field t (x.val e) f).run P w = .ok (r.val e) w ∧ ∀ c ∈ r.refs, c ∈ x.refs := by
  have key : ∀ cs : Array Value, x.val e = .agg cs → cs = (AV.vals e (cellsA x)).toArray → (match tyFld P t f with | some (off, ft) => ldCells P ft (cellsA x) off | none => none) = some r → (Instr.field t (x.val e) f).run P w = .ok (r.val e) w ∧ ∀ c ∈ r.refs, c ∈ x.refs := by
    intro cs hx hcs h
    split at h
    · rename_i off ft hf
      obtain ⟨fs, y, hu, hy, ho, ht⟩ := tyFld_get hf
      refine ⟨?_, fun c hc => cellsA_refs (ldCells_refs h hc)⟩
      have hp := run_part (e := e) w h
      rw [hx, hcs]
      simp [Instr.field, run_underlying hu, hy, asAgg, ho, ht, hp]
    · cases h
  unfold evField at h
  split at h
  · rename_i cs; exact key cs rfl (by simp [cellsA, vals_v, Value.cells]) h
  · rename_i l; exact key _ rfl rfl h
  · cases h
theorem run_evFieldAddr {P : Program} {t : TypeId} {f : Nat} {x r : AV} {G : Glob} {H : AHeap} {w0 : World} {B0 : Bas} {e : Env} {w : World} (h : evFieldAddr P t f x = some r) (R : Rep G w0 B0 e H w) :
    (Instr.fieldAt t (x.val e) f).run P w = .ok (r.val e) w ∧ ∀ c ∈ r.refs, c ∈ x.refs := by
  have hadd : ∀ b n i : Nat, (⟨b, n, none⟩ : Addr).add i = ⟨b, n + i, none⟩ := fun b n i => by unfold Addr.add; split <;> simp_all
  unfold evFieldAddr at h
  split at h
  · rename_i off ft hf
    obtain ⟨fs, y, hu, hy, ho, ht⟩ := tyFld_get hf
    split at h
    · rename_i s hs
      obtain ⟨i, hi, hsz⟩ := tySize_get hs
      have hz : (sizeOf y.type).run P w = .ok (s + 1) w := by rw [ht]; exact run_sizeOf hs w
      split at h
      · cases h
        refine ⟨?_, fun c hc => by simpa [AV.refs] using hc⟩
        simp [Instr.fieldAt, run_underlying hu, hy, AV.val, Instr.sureAddr, fieldPlace, hz, ho, hadd]
      · rename_i k o
        cases h
        refine ⟨?_, fun c hc => by simpa [AV.refs] using hc⟩
        cases hv : e.hnd k with
        | slice a l c =>
          cases a with
          | none => simp [Instr.fieldAt, run_underlying hu, hy, AV.val, hv, Instr.sureAddr, fieldPlace, hz, ho, hadd]
          | some a => simp [Instr.fieldAt, run_underlying hu, hy, AV.val, hv, Instr.sureAddr, fieldPlace, hz, ho, hadd, Nat.add_assoc]
        | _ => simp [Instr.fieldAt, run_underlying hu, hy, AV.val, hv, Instr.sureAddr, fieldPlace, hz, ho, hadd]
      · cases h
        refine ⟨?_, fun c hc => by simp [AV.refs] at hc⟩
        simp [Instr.fieldAt, run_underlying hu, hy, AV.val, Instr.sureAddr, fieldPlace, hz, ho, hadd]
      · cases h
    · cases h
  · cases h
theorem run_evIndexAddr {P : Program} {t : TypeId} {x i r : AV} {tc : List Nat} {G : Glob} {H : AHeap} {w0 : World} {B0 : Bas} {e : Env} {w : World} (h : evIndexAddr P t H x i = some (r, tc)) (R : Rep G w0 B0 e H w) :
    (Instr.indexAt t (x.val e) (i.val e)).run P w = .ok (r.val e) w ∧ ∀ c ∈ r.refs, c ∈ x.refs := by
  have hadd : ∀ b n i : Nat, (⟨b, n, none⟩ : Addr).add i = ⟨b, n + i, none⟩ := fun b n i => by unfold Addr.add; split <;> simp_all
  unfold evIndexAddr at h
  split at h
  · rename_i kk n
    split at h
    · split at h
      · rename_i len el ha
        split at h
        · rename_i s hs
          split at h
          · rename_i hn
            cases h
            refine ⟨?_, fun c hc => by simpa [AV.refs] using hc⟩
            simp [Instr.indexAt, AV.val, asIntOf, run_underlying (tyArr_get ha), Instr.sureAddr, run_sizeOf hs, hn, hadd]
          · cases h
        · cases h
      · cases h
    · split at h
      · rename_i len el ha
        split at h
        · rename_i s hs
          split at h
          · rename_i hn
            cases h
            refine ⟨?_, fun c hc => by simp [AV.refs] at hc⟩
            simp [Instr.indexAt, AV.val, asIntOf, run_underlying (tyArr_get ha), Instr.sureAddr, run_sizeOf hs, hn, hadd]
          · cases h
        · cases h
      · cases h
    · split at h
      · rename_i el ha
        split at h
        · rename_i s hs
          split at h
          · rename_i hn
            cases h
            refine ⟨?_, fun c hc => by simpa [AV.refs] using hc⟩
            simp [Instr.indexAt, AV.val, asIntOf, run_underlying (tySlc_get ha), run_sizeOf hs, hn, hadd]
          · cases h
        · cases h
      · cases h
    · rename_i k
      split at h
      · rename_i len c hb
        split at h
        · rename_i el ha
          split at h
          · rename_i s hs
            split at h
            · rename_i hn
              cases h
              refine ⟨?_, fun c hc => by simpa [AV.refs] using hc⟩
              rcases R.rd k len c hb with ⟨hv, hl, hc⟩ | ⟨b, o, cap, hv, hlt, hc⟩
              · omega
              · simp [Instr.indexAt, AV.val, hv, sliceOf, asIntOf, run_underlying (tySlc_get ha), run_sizeOf hs, hn, hadd]
            · cases h
          · cases h
        · cases h
      · cases h
    · cases h
  · cases h
theorem run_evIndex {P : Program} {t : TypeId} {x i r : AV} {e : Env} (w : World) (h : evIndex P t x i = some r) :
    (Instr.index t (x.val e) (i.val e)).run P w = .ok (r.val e) w ∧ ∀ c ∈ r.refs, c ∈ x.refs := by
  unfold evIndex at h
  split at h
  · rename_i cs kk n
    split at h
    · rename_i len el ha
      split at h
      · rename_i s hs
        split at h
        · rename_i hn
          refine ⟨?_, fun c hc => by have := ldCells_refs h hc; rw [refss_v] at this; simp at this⟩
          have hp := run_part (e := e) w h
          rw [vals_v] at hp
          simp at hp
          simp [Instr.index, AV.val, asIntOf, run_underlying (tyArr_get ha), run_sizeOf hs, hn, hp]
        · cases h
      · cases h
    · cases h
  · rename_i cs kk n
    split at h
    · rename_i len el ha
      split at h
      · rename_i s hs
        split at h
        · rename_i hn
          refine ⟨?_, fun c hc => by simpa [AV.refs] using ldCells_refs h hc⟩
          have hp := run_part (e := e) w h
          simp [Instr.index, AV.val, asIntOf, run_underlying (tyArr_get ha), run_sizeOf hs, hn, hp]
        · cases h
      · cases h
    · cases h
  · cases h
theorem run_evExtract {P : Program} {x r : AV} {i : Nat} {e : Env} (w : World) (h : evExtract x i = some r) : (Instr.extract (x.val e) i).run P w = .ok (r.val e) w ∧ ∀ c ∈ r.refs, c ∈ x.refs := by
  unfold evExtract at h
  split at h
  · rename_i vs
    split at h
    · rename_i v hv
      cases h
      have : vs[i]? = some v := by simpa using hv
      exact ⟨by simp [Instr.extract, AV.val, this], fun c hc => by simp [AV.refs] at hc⟩
    · cases h
  · rename_i l
    refine ⟨?_, fun c hc => by rw [AV.refs]; exact AV.mem_refss.2 ⟨r, List.mem_of_getElem? h, hc⟩⟩
    have : (AV.vals e l)[i]? = some (r.val e) := by rw [AV.vals_map]; simp [h]
    simp [Instr.extract, AV.val, this]
  · cases h
theorem foldl_set (vs : List Value) : ∀ (off : Nat) (cells : Array Value) (n : Nat), off + n + vs.length ≤ cells.size → ((vs.zipIdx n).foldl (fun cs (c, j) => cs.setIfInBounds (off + j) c) cells).toList = cells.toList.take (off + n) ++ vs ++ cells.toList.drop (off + n + vs.length) := by
  induction vs with
  | nil => intro off cells n h; simp
  | cons v vs ih =>
    intro off cells n h
    simp only [List.length_cons] at h
    rw [List.zipIdx_cons, List.foldl_cons, ih off _ (n + 1) (by simp; omega)]
    have := list_seg_step cells.toList (off + n) v vs (by simp; omega)
    simp only [Array.toList_setIfInBounds]
    rw [show off + (n + 1) = off + n + 1 by omega]
    simpa [Nat.add_assoc, Nat.add_comm, Nat.add_left_comm] using this
theorem fillA_run {e : Env} {place : Nat → Option (Nat × Nat)} : ∀ {ps : List (Nat × AV)} {cells c : List AV}, fillA place cells ps = some c →
    Instr.fill place (AV.vals e cells).toArray (ps.map fun x => (x.1, x.2.val e)) = some (AV.vals e c).toArray
  | [], cells, c, h => by simp only [fillA, Option.some.injEq] at h; subst h; rfl
  | (i, x) :: rest, cells, c, h => by
    simp only [fillA] at h
    simp only [List.map_cons, Instr.fill]
    split at h
    · cases h
    · rename_i off size hp
      rw [hp]
      split at h
      · rename_i hcond
        have ih := fillA_run (e := e) h
        have hsz : (x.val e).cells.size = size := by rw [cellsA_val]; simp [vals_length, hcond.1]
        simp only [hsz, List.size_toArray, vals_length]
        rw [if_neg (by simp; omega)]
        rw [← ih]
        congr 1
        apply Array.ext'
        rw [cellsA_val]
        have := foldl_set (AV.vals e (cellsA x)) off (AV.vals e cells).toArray 0 (by simp [vals_length]; omega)
        simp only [Nat.add_zero, List.toList_toArray] at this
        rw [← Array.foldl_toList]
        simp only [Array.toList_zipIdx, List.toList_toArray]
        rw [this, vals_length, hcond.1]
        simp [AV.vals_map, List.map_take, List.map_drop]
      · cases h
theorem fillA_refs {place : Nat → Option (Nat × Nat)} {r : Nat} : ∀ {ps : List (Nat × AV)} {cells c : List AV}, fillA place cells ps = some c → r ∈ AV.refss c → r ∈ AV.refss cells ∨ ∃ x ∈ ps, r ∈ x.2.refs
  | [], cells, c, h, hr => by simp only [fillA, Option.some.injEq] at h; subst h; exact .inl hr
  | (i, x) :: rest, cells, c, h, hr => by
    simp only [fillA] at h
    split at h
    · cases h
    · split at h
      · rcases fillA_refs h hr with h1 | ⟨y, hy, h1⟩
        · obtain ⟨a, ha, hra⟩ := AV.mem_refss.1 h1
          simp only [List.mem_append] at ha
          rcases ha with (ha | ha) | ha
          · exact .inl (AV.mem_refss.2 ⟨a, List.mem_of_mem_take ha, hra⟩)
          · exact .inr ⟨_, List.mem_cons_self, cellsA_refs (AV.mem_refss.2 ⟨a, ha, hra⟩)⟩
          · exact .inl (AV.mem_refss.2 ⟨a, List.mem_of_mem_drop ha, hra⟩)
        · exact .inr ⟨y, List.mem_cons_of_mem _ hy, h1⟩
      · cases h
theorem partsA_val {ρ : Operand → Option AV} {ev : Operand → Value} {e : Env} (hρ : ∀ x y, ρ x = some y → ev x = y.val e) : ∀ {l : List (Nat × Operand)} {ps : List (Nat × AV)}, partsA ρ l = some ps → (l.map fun x => (x.1, ev x.2)) = ps.map fun x => (x.1, x.2.val e)
  | [], ps, h => by simp only [partsA, Option.some.injEq] at h; subst h; rfl
  | (i, x) :: l, ps, h => by
    simp only [partsA] at h
    split at h
    · rename_i a r ha hr
      cases h
      simp [partsA_val hρ hr, hρ x a ha]
    · cases h
theorem partsA_mem {ρ : Operand → Option AV} : ∀ {l : List (Nat × Operand)} {ps : List (Nat × AV)}, partsA ρ l = some ps → ∀ x ∈ ps, ∃ y ∈ l, ρ y.2 = some x.2
  | [], ps, h, x, hx => by simp only [partsA, Option.some.injEq] at h; subst h; cases hx
  | (i, z) :: l, ps, h, x, hx => by
    simp only [partsA] at h
    split at h
    · rename_i a r ha hr
      cases h
      rcases List.mem_cons.1 hx with rfl | hx
      · exact ⟨_, List.mem_cons_self, ha⟩
      · obtain ⟨y, hy, h1⟩ := partsA_mem hr x hx; exact ⟨y, List.mem_cons_of_mem _ hy, h1⟩
    · cases h
theorem listA_val {ρ : Operand → Option AV} {ev : Operand → Value} {e : Env} (hρ : ∀ x y, ρ x = some y → ev x = y.val e) : ∀ {l : List Operand} {ps : List AV}, listA ρ l = some ps → l.map ev = AV.vals e ps
  | [], ps, h => by simp only [listA, Option.some.injEq] at h; subst h; rfl
  | x :: l, ps, h => by
    simp only [listA] at h
    split at h
    · rename_i a r ha hr
      cases h
      simp [listA_val hρ hr, hρ x a ha, AV.vals]
    · cases h
theorem listA_mem {ρ : Operand → Option AV} : ∀ {l : List Operand} {ps : List AV}, listA ρ l = some ps → ∀ x ∈ ps, ∃ y ∈ l, ρ y = some x
  | [], ps, h, x, hx => by simp only [listA, Option.some.injEq] at h; subst h; cases hx
  | z :: l, ps, h, x, hx => by
    simp only [listA] at h
    split at h
    · rename_i a r ha hr
      cases h
      rcases List.mem_cons.1 hx with rfl | hx
      · exact ⟨_, List.mem_cons_self, ha⟩
      · obtain ⟨y, hy, h1⟩ := listA_mem hr x hx; exact ⟨y, List.mem_cons_of_mem _ hy, h1⟩
    · cases h
end Go.Proofs.YtikjbocagnolmaaDoor
