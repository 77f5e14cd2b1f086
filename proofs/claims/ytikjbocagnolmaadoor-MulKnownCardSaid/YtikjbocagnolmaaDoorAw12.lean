/- Calls that are walked in place, slices that go in and come out, loops of a known number of rounds. No function of the program. -/
import Derived.Test.YtikjbocagnolmaaDoorAw11
namespace Go.Proofs.YtikjbocagnolmaaDoor
set_option linter.unusedVariables false
set_option linter.unusedSimpArgs false
open Go.RowKit
def roundsA (C : Cx) (c : Code) (Q : APost) : Nat → Nat → Regs → AHeap → Prop
  | 0, _, _, _ => False
  | n + 1, N, T, H => AW C c (thenA (roundsA C c Q n) Q) N T H
theorem aw_rounds {C : Cx} {Q : APost} {N : Nat} {T : Regs} {H : AHeap} {c : Code} (n : Nat) (h : roundsA C c Q n N T H) : AW C (.loop c) Q N T H := by
  refine aw_loop (fun m N T H => roundsA C c Q m N T H) h ?_
  intro m N T H hm
  cases m with
  | zero => exact hm.elim
  | succ m =>
    refine AW.mono hm (fun x N T H h => ?_)
    cases x with
    | normal => exact ⟨m, Nat.lt_succ_self m, h⟩
    | _ => exact h
theorem roundsA_succ (C : Cx) (c : Code) (Q : APost) (n N : Nat) (T : Regs) (H : AHeap) : roundsA C c Q (n + 1) N T H = AW C c (thenA (roundsA C c Q n) Q) N T H := rfl
theorem roundsA_go {C : Cx} {c : Code} {Q : APost} {n N : Nat} {T : Regs} {H : AHeap} (h : AW C c (thenA (roundsA C c Q n) Q) N T H) : roundsA C c Q (n + 1) N T H := h
def AO.isOwn : AO → Bool | .own _ _ => true | .rd _ _ => false
theorem puts_get : ∀ {ef : List (Nat × AO)} {H : AHeap} {k : Nat} {o : AO}, (H.puts ef) k = some o → (k, o) ∈ ef ∨ (H k = some o ∧ ∀ x ∈ ef, x.1 ≠ k)
  | [], H, k, o, h => .inr ⟨h, fun x hx => (by cases hx)⟩
  | x :: ef, H, k, o, h => by
    rw [AHeap.puts] at h
    rcases puts_get h with h1 | ⟨h1, h2⟩
    · exact .inl (List.mem_cons_of_mem _ h1)
    · rcases AHeap.put_eq h1 with ⟨rfl, rfl⟩ | ⟨hne, h3⟩
      · exact .inl List.mem_cons_self
      · refine .inr ⟨h3, fun y hy => ?_⟩
        rcases List.mem_cons.1 hy with rfl | hy
        · exact fun e => hne e.symm
        · exact h2 y hy
theorem puts_none {ef : List (Nat × AO)} {H : AHeap} {k : Nat} (h : (H.puts ef) k = none) : H k = none ∧ ∀ x ∈ ef, x.1 ≠ k := by
  induction ef generalizing H with
  | nil => exact ⟨h, fun x hx => (by cases hx)⟩
  | cons x ef ih =>
    rw [AHeap.puts] at h
    obtain ⟨h1, h2⟩ := ih h
    by_cases hk : k = x.1
    · rw [hk, AHeap.put_same] at h1; cases h1
    · rw [AHeap.put_ne _ _ _ hk] at h1
      refine ⟨h1, fun y hy => ?_⟩
      rcases List.mem_cons.1 hy with rfl | hy
      · exact fun e => hk e.symm
      · exact h2 y hy
abbrev noneH : AHeap := fun _ => none
/-- **a call walked in place**: of the caller's blocks the callee sees those of 'objs', and may turn its own ones -/
theorem call_inline {P : Program} {G : Glob} (E : EqT) {w0 : World} {B0 : Bas} {g : FuncId} {fn : Func} {c : Code} {args : List AV} {H : AHeap} {k : Nat} {r : AV} {ef : List (Nat × AO)} (objs : List (Nat × AO)) (N1 : Nat)
    (hf : P.funcs[g]? = some fn) (hb : fn.body = some c) (hn : (fn.name == "runtime.NumGoroutine") = false) (hl : (Nat.ble args.length fn.ntmps) = true)
    (hobj : ∀ x ∈ objs, H x.1 = some x.2) (hN : ∀ x ∈ objs, x.1 < N1) (href : ∀ x ∈ args, ∀ j ∈ x.refs, j ∈ objs.map (·.1)) (hcl : ∀ x ∈ objs, ∀ j ∈ x.2.refs, j ∈ objs.map (·.1))
    (hef : ∀ x ∈ ef, x.2.isOwn = true ∧ (∃ y ∈ objs, y.1 = x.1 ∧ y.2.isOwn = true) ∧ ∀ j ∈ x.2.refs, j ∈ objs.map (·.1)) (hr : ∀ j ∈ r.refs, j ∈ objs.map (·.1))
    (h : ∀ w1 B, B.dom = objs.map (·.1) → AW ⟨P, G, E, w1, B, fn.ntmps⟩ c (retA P G fn (fun r' Hc => r' = r ∧ ∀ x ∈ objs, Hc x.1 = ((noneH.puts objs).puts ef) x.1)) N1 (regsL 0 args (regsB fn.ntmps)) (noneH.puts objs)) :
    CallOK P G w0 B0 g args H (objs.map (·.1)) k r ef := by
  intro H' e w hag hk0 hk1 hrefs R
  have hH1 : ∀ j o, (noneH.puts objs) j = some o → j ∈ objs.map (·.1) ∧ H j = some o ∧ H' j = some o := by
    intro j o hj
    rcases puts_get hj with h1 | ⟨h1, _⟩
    · have hm : j ∈ objs.map (·.1) := List.mem_map.2 ⟨(j, o), h1, rfl⟩
      have := hobj _ h1
      exact ⟨hm, this, by rw [hag j hm]; exact this⟩
    · cases h1
  have hH1' : ∀ j, j ∈ objs.map (·.1) → (noneH.puts objs) j = H j := by
    intro j hj
    obtain ⟨x, hx, rfl⟩ := List.mem_map.1 hj
    cases hv : (noneH.puts objs) x.1 with
    | none => exact absurd rfl ((puts_none hv).2 x hx)
    | some o => rw [(hH1 _ _ hv).2.1]
  have hdom : ∀ j, j ∈ objs.map (·.1) → H' j ≠ none := by
    intro j hj
    rw [hag j hj]
    obtain ⟨x, hx, rfl⟩ := List.mem_map.1 hj
    rw [hobj x hx]; simp
  let ow : List Nat := (objs.filter (fun x => x.2.isOwn)).map (·.1)
  have how : ∀ j c' t, (noneH.puts objs) j = some (.own c' t) → j ∈ ow := by
    intro j c' t hj
    rcases puts_get hj with h1 | ⟨h1, _⟩
    · exact List.mem_map.2 ⟨(j, .own c' t), List.mem_filter.2 ⟨h1, rfl⟩, rfl⟩
    · cases h1
  have how' : ∀ j, j ∈ ow → ∃ c' t, H' j = some (.own c' t) := by
    intro j hj
    obtain ⟨x, hx, rfl⟩ := List.mem_map.1 hj
    obtain ⟨h1, h2⟩ := List.mem_filter.1 hx
    obtain ⟨j, o⟩ := x
    cases o with
    | own c' t => exact ⟨c', t, by rw [hag j (List.mem_map.2 ⟨_, h1, rfl⟩)]; exact hobj _ h1⟩
    | rd n l => cases h2
  let B : Bas := ⟨ow.map e.blk, objs.map (·.1), e⟩
  have R1 : Rep G w B e (noneH.puts objs) w := by
    refine ⟨rfl, rfl, rfl, Nat.le_refl _, fun _ _ _ => rfl, R.gl, ?_, ?_, ?_, ?_, ?_, ?_, ?_, ?_⟩
    · intro j c' t hj; exact R.own j c' t (hH1 _ _ hj).2.2
    · intro j c' t hj; exact .inr (List.mem_map.2 ⟨j, how j c' t hj, rfl⟩)
    · intro j c' t hj; exact R.glo j c' t (hH1 _ _ hj).2.2
    · intro j c' t j' c'' t'' hj hj'; exact R.inj j c' t j' c'' t'' (hH1 _ _ hj).2.2 (hH1 _ _ hj').2.2
    · intro j n l hj; exact R.rd j n l (hH1 _ _ hj).2.2
    · intro j n l j' c' t hj hj'; exact R.apart j n l j' c' t (hH1 _ _ hj).2.2 (hH1 _ _ hj').2.2
    · intro j o hj i hi
      have hm : i ∈ objs.map (·.1) := by
        rcases puts_get hj with h1 | ⟨h1, _⟩
        · exact hcl _ h1 i hi
        · cases h1
      rw [hH1' i hm, ← hag i hm]; exact hdom i hm
    · intro j hj
      exact ⟨by rw [hH1' j hj, ← hag j hj]; exact hdom j hj, rfl, rfl⟩
  have hB1 : Bound (noneH.puts objs) N1 := by
    intro b hb
    cases hv : (noneH.puts objs) b with
    | none => rfl
    | some o =>
      rcases puts_get hv with h1 | ⟨h1, _⟩
      · have := hN _ h1; simp at this; omega
      · cases h1
  have hcall := calls_of_aw (E := E) hf hb (by simpa using hl) R1 hB1 (fun x hx j hj => by rw [hH1' j (href x hx j hj), ← hag j (href x hx j hj)]; exact hdom j (href x hx j hj)) (by rw [regs0_eq (by simpa using hl)]; exact h w B rfl)
  refine callsX_of_calls hf hn (by rw [hb]; rfl) (hcall.mono ?_)
  rintro en w' ⟨r', e2, Hc, rfl, ⟨rfl, hHc⟩, R2⟩
  have henv : ∀ j, j ∈ objs.map (·.1) → e2.blk j = e.blk j ∧ e2.hnd j = e.hnd j := fun j hj => (R2.env j hj).2
  have hon : Env.on (fun j => if j ∈ objs.map (·.1) then some (.rd 0 []) else none) e e2 := by
    intro j hj
    by_cases hm : j ∈ objs.map (·.1)
    · exact henv j hm
    · exact absurd (if_neg hm) hj
  have hin : ∀ j, j ∈ objs.map (·.1) → (if j ∈ objs.map (·.1) then some (AO.rd 0 []) else none) ≠ none := fun j hj => by rw [if_pos hj]; simp
  have hblk : ∀ b, b < w.heap.size → (∀ j c' t, H' j = some (.own c' t) → j ∈ objs.map (·.1) → b ≠ e.blk j) → w'.heap[b]? = w.heap[b]? := by
    intro b hb hne
    refine R2.old b hb ?_
    intro hm
    obtain ⟨j, hj, rfl⟩ := List.mem_map.1 hm
    obtain ⟨c', t, hj'⟩ := how' j hj
    obtain ⟨x, hx, rfl⟩ := List.mem_map.1 hj
    exact hne _ c' t hj' (List.mem_map.2 ⟨x, (List.mem_filter.1 hx).1, rfl⟩) rfl
  have hmem : ∀ x ∈ ef, x.1 ∈ objs.map (·.1) := fun x hx => by
    obtain ⟨_, ⟨y, hy, hyx, _⟩, _⟩ := hef x hx
    exact List.mem_map.2 ⟨y, hy, hyx⟩
  have hownH : ∀ j c' t, (H'.puts ef) j = some (.own c' t) → ∃ c₁ t₁, H' j = some (.own c₁ t₁) := by
    intro j c' t hj
    rcases puts_get hj with h1 | ⟨h1, _⟩
    · obtain ⟨_, ⟨y, hy, hyx, hyo⟩, _⟩ := hef _ h1
      obtain ⟨y1, y2⟩ := y
      simp at hyx; subst hyx
      cases y2 with
      | own c₁ t₁ => exact ⟨c₁, t₁, by rw [hag _ (List.mem_map.2 ⟨_, hy, rfl⟩)]; exact hobj _ hy⟩
      | rd n l => cases hyo
    · exact ⟨_, _, h1⟩
  have hrdH : ∀ j n l, (H'.puts ef) j = some (.rd n l) → H' j = some (.rd n l) := by
    intro j n l hj
    rcases puts_get hj with h1 | ⟨h1, _⟩
    · have := (hef _ h1).1; cases this
    · exact h1
  have hHc' : ∀ j, j ∈ objs.map (·.1) → Hc j = (H'.puts ef) j := by
    intro j hj
    obtain ⟨x, hx, rfl⟩ := List.mem_map.1 hj
    rw [hHc x hx]
    exact AHeap.puts_congr (by rw [hH1' _ hj, ← hag _ hj])
  refine ⟨e, ?_, ?_, Env.on.refl H' e, fun j hj => AHeap.puts_dom (hdom j (hr j hj))⟩
  · rw [AV.val_on hon r' (fun j hj => hin j (hr j hj))]
  · refine ⟨R2.os.trans R.os, R2.tape.trans R.tape, R2.output.trans R.output, Nat.le_trans R.size R2.size, ?_, R2.gl, ?_, ?_, ?_, ?_, ?_, ?_, ?_, ?_⟩
    · intro b hb hb0
      rw [← R.old b hb hb0]
      refine hblk b (Nat.lt_of_lt_of_le hb R.size) (fun j c' t hj _ => ?_)
      rcases R.ge j c' t hj with hg | hg
      · omega
      · rintro rfl; exact hb0 hg
    · intro j c' t hj
      by_cases hm : j ∈ objs.map (·.1)
      · have h2 := R2.own j c' t (by rw [hHc' j hm]; exact hj)
        rw [(henv j hm).1, AV.vals_on hon c' (fun i hi => hin i ?_)] at h2
        · exact h2
        · rcases puts_get hj with h1 | ⟨h1, _⟩
          · exact (hef _ h1).2.2 i hi
          · obtain ⟨x, hx, rfl⟩ := List.mem_map.1 hm
            have h3 := hobj x hx
            rw [hag _ hm, h3] at h1
            have h4 := hcl x hx i
            rw [Option.some.inj h1] at h4
            exact h4 hi
      · have h1 : H' j = some (.own c' t) := by
          rcases puts_get hj with h1 | ⟨h1, _⟩
          · exact absurd (hmem _ h1) hm
          · exact h1
        rw [hblk (e.blk j) (R.lt h1) (fun i c'' t'' hi him he => hm (by rw [R.inj j c' t i c'' t'' h1 hi he]; exact him))]
        exact R.own j c' t h1
    · intro j c' t hj; obtain ⟨c₁, t₁, h1⟩ := hownH j c' t hj; exact R.ge j c₁ t₁ h1
    · intro j c' t hj; obtain ⟨c₁, t₁, h1⟩ := hownH j c' t hj; exact R.glo j c₁ t₁ h1
    · intro j c' t j' c'' t'' hj hj'
      obtain ⟨c₁, t₁, h1⟩ := hownH j c' t hj
      obtain ⟨c₂, t₂, h2⟩ := hownH j' c'' t'' hj'
      exact R.inj j _ _ j' _ _ h1 h2
    · intro j n l hj
      have h1 := hrdH j n l hj
      exact (R.rd j n l h1).same R2.size (fun b hv hb => hblk b hb (fun i c' t hi _ he => R.apart j n l i c' t h1 hi (by rw [hv, he])))
    · intro j n l j' c' t hj hj'
      obtain ⟨c₂, t₂, h2⟩ := hownH j' c' t hj'
      exact R.apart j n l j' c₂ t₂ (hrdH j n l hj) h2
    · intro j o hj i hi
      rcases puts_get hj with h1 | ⟨h1, _⟩
      · exact AHeap.puts_dom (hdom i ((hef _ h1).2.2 i hi))
      · exact AHeap.puts_dom (R.refs j o h1 i hi)
    · intro j hj; exact ⟨AHeap.puts_dom (R.env j hj).1, (R.env j hj).2⟩
/-- a call walked in place, met -/
theorem met_in {P : Program} {G : Glob} {w0 : World} {B0 : Bas} {g : FuncId} {args : List AV} {H : AHeap} {k : Nat} {R : AV → List Nat → List (Nat × AO) → Prop} {u : Hold R} {tc : List Nat} {r : AV} {ef : List (Nat × AO)} (hc : CallOK P G w0 B0 g args H tc k r ef)
    (ht : ∀ b ∈ tc, H b ≠ none) (he : ∀ x ∈ ef, x.1 = k ∨ x.1 = k + 1 ∨ x.1 ∈ tc) (h : R r tc ef) : CallG P G w0 B0 g args H k R u := ⟨_, _, _, hc, ht, he, h⟩
theorem met_ro {P : Program} {G : Glob} {w0 : World} {B0 : Bas} {g : FuncId} {args : List AV} {H : AHeap} {k : Nat} {R : AV → List Nat → List (Nat × AO) → Prop} {u : Hold R} {tc : List Nat} {r : AV} (hc : CallOK P G w0 B0 g args H tc k r [])
    (ht : (tc.all fun b => (H b).isSome) = true) (h : R r tc []) : CallG P G w0 B0 g args H k R u :=
  ⟨_, _, _, hc, fun b hb => (by have := List.all_eq_true.1 ht b hb; intro e; rw [e] at this; cases this), fun x hx => (by cases hx), h⟩
/-! slices -/
/-- a function of a slice that reads as cells, and plain values beside it -/
def RC (P : Program) (G : Glob) (f : FuncId) (pre : List Value) (n : Nat) (c : List Value) (rest : List Value) (v : Value) : Prop :=
  ∀ w s, Gl G w → Reads w s n c → CallsX P f (pre ++ s :: rest).toArray w fun e w' => e = .returned v ∧ Bel w w'
theorem RC.call {P : Program} {G : Glob} {f : FuncId} {pre : List Value} {n : Nat} {c : List Value} {rest : List Value} {v : Value} (h : RC P G f pre n c rest v) (w0 : World) (B0 : Bas) {H : AHeap} (k b cap : Nat) (t : TypeId) (hb : H b = some (.own (c.map .v) t)) :
    CallOK P G w0 B0 f (pre.map .v ++ .sl b 0 n cap :: rest.map .v) H [b] k (.v v) [] := by
  intro H' e w hag _ _ _ R
  have hb' : H' b = some (.own (c.map .v) t) := by rw [hag b (by simp)]; exact hb
  have hown := R.own b _ t hb'
  rw [vals_v] at hown
  have hrd : Reads w (.slice (some ⟨e.blk b, 0, none⟩) n cap) n c := .inr ⟨e.blk b, 0, cap, rfl, R.lt hb', fun j x hj => by simp [World.cell?, hown, hj]⟩
  have hv : AV.vals e (pre.map .v ++ .sl b 0 n cap :: rest.map .v) = pre ++ .slice (some ⟨e.blk b, 0, none⟩) n cap :: rest := by
    rw [vals_append, AV.vals, vals_v, vals_v]; rfl
  rw [hv]
  exact (h w _ R.gl hrd).mono fun en w' ⟨h1, h2⟩ => ⟨e, h1, R.below h2, Env.on.refl H' e, fun c hc => by simp [AV.refs] at hc⟩
theorem RC.call_hd {P : Program} {G : Glob} {f : FuncId} {pre : List Value} {n : Nat} {c : List Value} {rest : List Value} {v : Value} (h : RC P G f pre n c rest v) (w0 : World) (B0 : Bas) {H : AHeap} (k b : Nat) (hb : H b = some (.rd n c)) :
    CallOK P G w0 B0 f (pre.map .v ++ .hd b :: rest.map .v) H [b] k (.v v) [] := by
  intro H' e w hag _ _ _ R
  have hb' : H' b = some (.rd n c) := by rw [hag b (by simp)]; exact hb
  have hrd := R.rd b n c hb'
  have hs : sliceOf (e.hnd b) = e.hnd b := by
    rcases hrd with ⟨h1, _⟩ | ⟨b', o, cap, h1, _⟩ <;> rw [h1] <;> rfl
  have hv : AV.vals e (pre.map .v ++ .hd b :: rest.map .v) = pre ++ e.hnd b :: rest := by
    rw [vals_append, AV.vals, vals_v, vals_v]; simp [AV.val, hs]
  rw [hv]
  exact (h w _ R.gl hrd).mono fun en w' ⟨h1, h2⟩ => ⟨e, h1, R.below h2, Env.on.refl H' e, fun c hc => by simp [AV.refs] at hc⟩
theorem rc_aw {P : Program} {G : Glob} (E : EqT) {f : FuncId} {fn : Func} {cd : Code} {pre : List Value} {n : Nat} {c : List Value} {rest : List Value} {v : Value} (hf : P.funcs[f]? = some fn) (hb : fn.body = some cd) (hn : (fn.name == "runtime.NumGoroutine") = false)
    (hl : (Nat.ble (pre.length + 1 + rest.length) fn.ntmps) = true)
    (h : ∀ w, AW ⟨P, G, E, w, Bas.nil, fn.ntmps⟩ cd (retA P G fn (fun r _ => r = .v v)) 1 (regsL 0 (pre.map .v ++ .hd 0 :: rest.map .v) (regsB fn.ntmps)) (noneH.put 0 (.rd n c))) : RC P G f pre n c rest v := by
  intro w s hG hrd
  refine callsX_of_calls hf hn (by rw [hb]; rfl) ?_
  have hl' : (pre.map AV.v ++ AV.hd 0 :: rest.map AV.v).length ≤ fn.ntmps := by simp at hl ⊢; omega
  have hR := (rep_start hG (⟨fun _ => 0, fun _ => undef⟩ : Env)).handle (k := 0) rfl hrd (fun j c t hj => by cases hj)
  have := calls_of_aw (E := E) (args := pre.map .v ++ .hd 0 :: rest.map .v) hf hb hl' hR (N0 := 1) (fun b hb => AHeap.put_ne _ _ _ (by omega)) (fun x hx r hr => by
    simp only [List.mem_append, List.mem_map, List.mem_cons] at hx
    rcases hx with ⟨y, _, rfl⟩ | rfl | ⟨y, _, rfl⟩
    · simp [AV.refs] at hr
    · simp [AV.refs] at hr; subst hr; rw [AHeap.put_same]; simp
    · simp [AV.refs] at hr) (by rw [regs0_eq hl']; exact h w)
  have hs : sliceOf s = s := by
    rcases hrd with ⟨h1, _⟩ | ⟨b', o, cap, h1, _⟩ <;> rw [h1] <;> rfl
  have hv : AV.vals ((⟨fun _ => 0, fun _ => undef⟩ : Env).setHnd 0 s) (pre.map .v ++ .hd 0 :: rest.map .v) = pre ++ s :: rest := by
    rw [vals_append, AV.vals, vals_v, vals_v]; simp [AV.val, Env.setHnd, hs]
  rw [hv] at this
  refine this.mono ?_
  rintro en w' ⟨r, e, H, rfl, rfl, R⟩
  exact ⟨rfl, R.bel⟩
/-- a function that hands back a slice of its own -/
def SC (P : Program) (G : Glob) (f : FuncId) (args : List Value) (n : Nat) (c : List Value) (t : TypeId) : Prop :=
  ∀ w, Gl G w → CallsX P f args.toArray w fun e w' => ∃ b, e = .returned (.slice (some ⟨b, 0, none⟩) n n) ∧ w.heap.size ≤ b ∧ w'.heap[b]? = some (.cells c.toArray t (0, 0)) ∧ Bel w w'
theorem SC.call {P : Program} {G : Glob} {f : FuncId} {vs : List Value} {n : Nat} {c : List Value} {t : TypeId} (h : SC P G f vs n c t) (w0 : World) (B0 : Bas) {args : List AV} (ha : allV args = some vs) (H : AHeap) (k : Nat) :
    CallOK P G w0 B0 f args H [] k (.sl k 0 n n) [(k, .own (c.map .v) t)] := by
  intro H' e w _ hk _ _ R
  rw [allV_val ha]
  refine (h w R.gl).mono ?_
  rintro en w' ⟨b, rfl, hb, ho, hbel⟩
  refine ⟨e.setBlk k b, by simp [AV.val, Env.setBlk], R.adopt hbel hk hb (fun r hr => by rw [refss_v] at hr; simp at hr) (by rw [vals_v]; exact ho), Env.setBlk_on hk e b, fun j hj => ?_⟩
  simp [AV.refs] at hj; subst hj; rw [AHeap.puts, AHeap.puts, AHeap.put_same]; simp
theorem sc_aw {P : Program} {G : Glob} (E : EqT) {f : FuncId} {fn : Func} {cd : Code} {args : List Value} {n : Nat} {c : List Value} {t : TypeId} (hf : P.funcs[f]? = some fn) (hb : fn.body = some cd) (hn : (fn.name == "runtime.NumGoroutine") = false) (hl : (Nat.ble args.length fn.ntmps) = true)
    (h : ∀ w, AW ⟨P, G, E, w, Bas.nil, fn.ntmps⟩ cd (retA P G fn (fun r H => ∃ b, r = .sl b 0 n n ∧ H b = some (.own (c.map .v) t))) 0 (regsL 0 (args.map .v) (regsB fn.ntmps)) noneH) : SC P G f args n c t := by
  intro w hG
  refine callsX_of_calls hf hn (by rw [hb]; rfl) ?_
  have := calls_of_aw (E := E) (e0 := ⟨fun _ => 0, fun _ => undef⟩) (args := args.map .v) hf hb (by simpa using hl) (rep_start hG _) (N0 := 0) (fun _ _ => rfl) (fun x hx r hr => by
    obtain ⟨y, _, rfl⟩ := List.mem_map.1 hx; simp [AV.refs] at hr) (by rw [regs0_eq (by simpa using hl)]; exact h w)
  rw [vals_v] at this
  refine this.mono ?_
  rintro en w' ⟨r, e, H, rfl, ⟨b, rfl, hb⟩, R⟩
  have hown := R.own b _ t hb
  rw [vals_v] at hown
  refine ⟨e.blk b, rfl, ?_, hown, R.bel⟩
  rcases R.ge b _ t hb with h1 | h1
  · exact h1
  · cases h1
theorem met_rc {P : Program} {G : Glob} {w0 : World} {B0 : Bas} {f : FuncId} {pre : List Value} {n : Nat} {c : List Value} {rest : List Value} {v : Value} {H : AHeap} {k b cap : Nat} {t : TypeId} {R : AV → List Nat → List (Nat × AO) → Prop} {u : Hold R} {args : List AV}
    (h : RC P G f pre n c rest v) (ha : args = pre.map .v ++ .sl b 0 n cap :: rest.map .v) (hb : H b = some (.own (c.map .v) t)) (hR : R (.v v) [b] []) : CallG P G w0 B0 f args H k R u :=
  ⟨_, _, _, by rw [ha]; exact h.call w0 B0 k b cap t hb, fun j hj => by simp at hj; subst hj; rw [hb]; simp, fun x hx => (by cases hx), hR⟩
theorem met_rh {P : Program} {G : Glob} {w0 : World} {B0 : Bas} {f : FuncId} {pre : List Value} {n : Nat} {c : List Value} {rest : List Value} {v : Value} {H : AHeap} {k b : Nat} {R : AV → List Nat → List (Nat × AO) → Prop} {u : Hold R} {args : List AV}
    (h : RC P G f pre n c rest v) (ha : args = pre.map .v ++ .hd b :: rest.map .v) (hb : H b = some (.rd n c)) (hR : R (.v v) [b] []) : CallG P G w0 B0 f args H k R u :=
  ⟨_, _, _, by rw [ha]; exact h.call_hd w0 B0 k b hb, fun j hj => by simp at hj; subst hj; rw [hb]; simp, fun x hx => (by cases hx), hR⟩
theorem met_sc {P : Program} {G : Glob} {w0 : World} {B0 : Bas} {f : FuncId} {vs : List Value} {n : Nat} {c : List Value} {t : TypeId} {H : AHeap} {k : Nat} {R : AV → List Nat → List (Nat × AO) → Prop} {u : Hold R} {args : List AV}
    (h : SC P G f vs n c t) (ha : allV args = some vs) (hR : R (.sl k 0 n n) [] [(k, .own (c.map .v) t)]) : CallG P G w0 B0 f args H k R u :=
  ⟨_, _, _, h.call w0 B0 ha H k, fun j hj => (by cases hj), fun x hx => by simp at hx; subst hx; exact .inl rfl, hR⟩
theorem pc_of_calls {P : Program} {G : Glob} {g : FuncId} {fn : Func} {args : List Value} {v : Value} (hf : P.funcs[g]? = some fn) (hn : (fn.name == "runtime.NumGoroutine") = false) (hb : fn.body.isNone = false)
    (h : ∀ w, Calls P g args.toArray w fun e w' => e = .returned v ∧ Bel w w') : PC P G g args v := fun w _ => callsX_of_calls hf hn hb (h w)
end Go.Proofs.YtikjbocagnolmaaDoor
