/- Calls walked in place whose blocks come out under other names. No function of the program. -/
import Derived.Test.YtikjbocagnolmaaDoorSx3
namespace Go.Proofs.YtikjbocagnolmaaDoor
set_option linter.unusedVariables false
set_option linter.unusedSimpArgs false
open Go.RowKit
mutual
def AV.ren (f : Nat → Nat) : AV → AV
  | .v x => .v x
  | .loc b off => .loc (f b) off
  | .sl b off len cap => .sl (f b) off len cap
  | .hd k => .hd (f k)
  | .ha k off => .ha (f k) off
  | .fn g a c => .fn g (AV.rens f a) (AV.rens f c)
  | .tup l => .tup (AV.rens f l)
  | .agg l => .agg (AV.rens f l)
def AV.rens (f : Nat → Nat) : List AV → List AV
  | [] => []
  | x :: l => AV.ren f x :: AV.rens f l
end
def AO.ren (f : Nat → Nat) : AO → AO
  | .own c t => .own (AV.rens f c) t
  | .rd n c => .rd n c
/-- two environments that say the same, one of them by other names -/
def EnvR (f : Nat → Nat) (e e' : Env) (l : List Nat) : Prop := ∀ r ∈ l, e'.blk (f r) = e.blk r ∧ e'.hnd (f r) = e.hnd r
mutual
theorem AV.ren_val {f : Nat → Nat} {e e' : Env} : ∀ x : AV, EnvR f e e' x.refs → (x.ren f).val e' = x.val e
  | .v _, _ => rfl
  | .loc b off, h => by simp only [AV.ren, AV.val]; rw [(h b (by simp [AV.refs])).1]
  | .sl b off len cap, h => by simp only [AV.ren, AV.val]; rw [(h b (by simp [AV.refs])).1]
  | .hd k, h => by simp only [AV.ren, AV.val]; rw [(h k (by simp [AV.refs])).2]
  | .ha k off, h => by simp only [AV.ren, AV.val]; rw [(h k (by simp [AV.refs])).2]
  | .fn g a c, h => by
    simp only [AV.ren, AV.val]
    rw [AV.rens_val a (fun r hr => h r (by rw [AV.refs]; exact List.mem_append_left _ hr)), AV.rens_val c (fun r hr => h r (by rw [AV.refs]; exact List.mem_append_right _ hr))]
  | .tup l, h => by simp only [AV.ren, AV.val]; rw [AV.rens_val l (fun r hr => h r (by rw [AV.refs]; exact hr))]
  | .agg l, h => by simp only [AV.ren, AV.val]; rw [AV.rens_val l (fun r hr => h r (by rw [AV.refs]; exact hr))]
theorem AV.rens_val {f : Nat → Nat} {e e' : Env} : ∀ l : List AV, EnvR f e e' (AV.refss l) → AV.vals e' (AV.rens f l) = AV.vals e l
  | [], _ => rfl
  | x :: l, h => by
    rw [AV.rens, AV.vals, AV.vals, AV.ren_val x (fun r hr => h r (by rw [AV.refss]; exact List.mem_append_left _ hr)), AV.rens_val l (fun r hr => h r (by rw [AV.refss]; exact List.mem_append_right _ hr))]
end
mutual
theorem AV.ren_refs {f : Nat → Nat} : ∀ (x : AV) {r : Nat}, r ∈ (x.ren f).refs → ∃ q ∈ x.refs, r = f q
  | .v _, r, h => by simp [AV.ren, AV.refs] at h
  | .loc b off, r, h => by simp [AV.ren, AV.refs] at h; exact ⟨b, by simp [AV.refs], h⟩
  | .sl b off len cap, r, h => by simp [AV.ren, AV.refs] at h; exact ⟨b, by simp [AV.refs], h⟩
  | .hd k, r, h => by simp [AV.ren, AV.refs] at h; exact ⟨k, by simp [AV.refs], h⟩
  | .ha k off, r, h => by simp [AV.ren, AV.refs] at h; exact ⟨k, by simp [AV.refs], h⟩
  | .fn g a c, r, h => by
    simp only [AV.ren, AV.refs, List.mem_append] at h
    rcases h with h | h
    · obtain ⟨q, hq, e⟩ := AV.rens_refs a h; exact ⟨q, by rw [AV.refs]; exact List.mem_append_left _ hq, e⟩
    · obtain ⟨q, hq, e⟩ := AV.rens_refs c h; exact ⟨q, by rw [AV.refs]; exact List.mem_append_right _ hq, e⟩
  | .tup l, r, h => by
    simp only [AV.ren, AV.refs] at h
    obtain ⟨q, hq, e⟩ := AV.rens_refs l h; exact ⟨q, by rw [AV.refs]; exact hq, e⟩
  | .agg l, r, h => by
    simp only [AV.ren, AV.refs] at h
    obtain ⟨q, hq, e⟩ := AV.rens_refs l h; exact ⟨q, by rw [AV.refs]; exact hq, e⟩
theorem AV.rens_refs {f : Nat → Nat} : ∀ (l : List AV) {r : Nat}, r ∈ AV.refss (AV.rens f l) → ∃ q ∈ AV.refss l, r = f q
  | [], r, h => by simp [AV.rens, AV.refss] at h
  | x :: l, r, h => by
    simp only [AV.rens, AV.refss, List.mem_append] at h
    rcases h with h | h
    · obtain ⟨q, hq, e⟩ := AV.ren_refs x h; exact ⟨q, by rw [AV.refss]; exact List.mem_append_left _ hq, e⟩
    · obtain ⟨q, hq, e⟩ := AV.rens_refs l h; exact ⟨q, by rw [AV.refss]; exact List.mem_append_right _ hq, e⟩
end
def envS (src : Nat → Option Nat) (e e2 : Env) : Env := ⟨fun j => match src j with | some n => e2.blk n | none => e.blk j, fun j => match src j with | some n => e2.hnd n | none => e.hnd j⟩
theorem envS_some {src : Nat → Option Nat} {e e2 : Env} {j n : Nat} (h : src j = some n) : (envS src e e2).blk j = e2.blk n ∧ (envS src e e2).hnd j = e2.hnd n := by
  unfold envS; simp only [h]; exact ⟨trivial, trivial⟩
theorem envS_none {src : Nat → Option Nat} {e e2 : Env} {j : Nat} (h : src j = none) : (envS src e e2).blk j = e.blk j ∧ (envS src e e2).hnd j = e.hnd j := by
  unfold envS; simp only [h]; exact ⟨trivial, trivial⟩
/-- what the caller has behind a call that was walked in place -/
theorem inline_rep {G : Glob} {w0 : World} {B0 : Bas} {e : Env} {H' : AHeap} {w : World} (R : Rep G w0 B0 e H' w) {keys : List Nat} {B : Bas} (hBd : B.dom = keys) (hBb : ∀ b ∈ B.blks, ∃ j ∈ keys, b = e.blk j) (hBe : B.env = e)
    {e2 : Env} {Hc : AHeap} {w' : World} (R2 : Rep G w B e2 Hc w') (hown : ∀ j ∈ keys, ∃ c t, H' j = some (.own c t)) {src : Nat → Option Nat} {f : Nat → Nat}
    (h1 : ∀ j n, src j = some n → f n = j ∧ ∃ c t, Hc n = some (.own c t) ∧ ∀ r ∈ AV.refss c, src (f r) = some r)
    (h2 : ∀ j ∈ keys, src j = some j) (h3 : ∀ j, j ∉ keys → src j ≠ none → H' j = none) {Hn : AHeap} (hn : ∀ j, Hn j = match src j with | some n => (Hc n).map (AO.ren f) | none => H' j) :
    Rep G w0 B0 (envS src e e2) Hn w' ∧ Env.on H' e (envS src e e2) ∧ ∀ j, H' j ≠ none → Hn j ≠ none := by
  have hK : ∀ j ∈ keys, e2.blk j = e.blk j ∧ e2.hnd j = e.hnd j := fun j hj => by
    have := (R2.env j (by rw [hBd]; exact hj)).2; rw [hBe] at this; exact this
  have hon : Env.on H' e (envS src e e2) := by
    intro j hj
    cases hs : src j with
    | none => exact envS_none hs
    | some n =>
      rw [(envS_some hs).1, (envS_some hs).2]
      by_cases hm : j ∈ keys
      · have := h2 j hm; rw [hs] at this; cases this; exact hK j hm
      · exact absurd (h3 j hm (by rw [hs]; simp)) hj
  have hdom : ∀ j, H' j ≠ none → Hn j ≠ none := by
    intro j hj
    rw [hn]
    cases hs : src j with
    | none => exact hj
    | some n =>
      obtain ⟨_, c, t, hc, _⟩ := h1 j n hs
      simp [hc]
  have hbk : ∀ n j, src j = some n → e2.blk n < w.heap.size → ∃ i ∈ keys, e2.blk n = e.blk i := by
    intro n j hs hlt
    obtain ⟨_, c, t, hc, _⟩ := h1 j n hs
    rcases R2.ge n c t hc with hg | hg
    · omega
    · exact hBb _ hg
  have hold : ∀ b, b < w.heap.size → (∀ i ∈ keys, b ≠ e.blk i) → w'.heap[b]? = w.heap[b]? := fun b hb hne => R2.old b hb (fun hm => by
    obtain ⟨i, hi, rfl⟩ := hBb b hm; exact hne i hi rfl)
  have hnone : ∀ j o, Hn j = some o → src j = none → H' j = some o := fun j o hj hs => by rw [hn, hs] at hj; exact hj
  have hsome : ∀ j n o, Hn j = some o → src j = some n → ∃ c t, Hc n = some (.own c t) ∧ o = .own (AV.rens f c) t ∧ ∀ r ∈ AV.refss c, src (f r) = some r := fun j n o hj hs => by
    obtain ⟨_, c, t, hc, hr⟩ := h1 j n hs
    rw [hn, hs] at hj
    simp only [hc, Option.map_some, AO.ren, Option.some.injEq] at hj
    exact ⟨c, t, hc, hj.symm, hr⟩
  refine ⟨⟨R2.os.trans R.os, R2.tape.trans R.tape, R2.output.trans R.output, Nat.le_trans R.size R2.size, ?_, R2.gl, ?_, ?_, ?_, ?_, ?_, ?_, ?_, ?_⟩, hon, hdom⟩
  · intro b hb hb0
    rw [← R.old b hb hb0]
    refine hold b (Nat.lt_of_lt_of_le hb R.size) (fun i hi he => ?_)
    obtain ⟨c, t, hc⟩ := hown i hi
    rcases R.ge i c t hc with hg | hg
    · omega
    · rw [he] at hb0; exact hb0 hg
  · intro j c t hj
    cases hs : src j with
    | some n =>
      obtain ⟨c0, t0, hc, ho, hr⟩ := hsome j n _ hj hs
      cases ho
      rw [(envS_some hs).1, AV.rens_val c0 (fun r hrm => envS_some (hr r hrm))]
      exact R2.own n c0 t hc
    | none =>
      have h0 := hnone j _ hj hs
      rw [(envS_none hs).1, AV.vals_on hon c (fun r hr => R.refs j _ h0 r hr), hold (e.blk j) (R.lt h0) (fun i hi he => ?_)]
      · exact R.own j c t h0
      · obtain ⟨c', t', hi'⟩ := hown i hi
        have := R.inj j c t i c' t' h0 hi' he
        rw [this, h2 i hi] at hs; cases hs
  · intro j c t hj
    cases hs : src j with
    | some n =>
      obtain ⟨c0, t0, hc, ho, hr⟩ := hsome j n _ hj hs
      rw [(envS_some hs).1]
      rcases R2.ge n c0 t0 hc with hg | hg
      · exact .inl (Nat.le_trans R.size hg)
      · obtain ⟨i, hi, he⟩ := hBb _ hg
        obtain ⟨c', t', hi'⟩ := hown i hi
        rw [he]; exact R.ge i c' t' hi'
    | none => rw [(envS_none hs).1]; exact R.ge j c t (hnone j _ hj hs)
  · intro j c t hj x hx
    cases hs : src j with
    | some n =>
      obtain ⟨c0, t0, hc, ho, hr⟩ := hsome j n _ hj hs
      rw [(envS_some hs).1]; exact R2.glo n c0 t0 hc x hx
    | none => rw [(envS_none hs).1]; exact R.glo j c t (hnone j _ hj hs) x hx
  · have mix : ∀ j n j', src j = some n → src j' = none → (∃ c t, H' j' = some (.own c t)) → e2.blk n ≠ e.blk j' := by
      intro j n j' hs hs' ⟨c, t, hj'⟩ he
      obtain ⟨i, hi, h⟩ := hbk n j hs (by rw [he]; exact R.lt hj')
      obtain ⟨c', t', hi'⟩ := hown i hi
      have := R.inj i c' t' j' c t hi' hj' (by rw [← h, he])
      rw [← this, h2 i hi] at hs'; cases hs'
    intro j c t j' c' t' hj hj' he
    cases hs : src j with
    | some n =>
      obtain ⟨c0, t0, hc, ho, hr⟩ := hsome j n _ hj hs
      rw [(envS_some hs).1] at he
      cases hs' : src j' with
      | some n' =>
        obtain ⟨c0', t0', hc', ho', hr'⟩ := hsome j' n' _ hj' hs'
        rw [(envS_some hs').1] at he
        have := R2.inj n c0 t0 n' c0' t0' hc hc' he
        rw [← (h1 j n hs).1, ← (h1 j' n' hs').1, this]
      | none =>
        rw [(envS_none hs').1] at he
        exact absurd he (mix j n j' hs hs' ⟨c', t', hnone j' _ hj' hs'⟩)
    | none =>
      rw [(envS_none hs).1] at he
      cases hs' : src j' with
      | some n' =>
        rw [(envS_some hs').1] at he
        exact absurd he.symm (mix j' n' j hs' hs ⟨c, t, hnone j _ hj hs⟩)
      | none =>
        rw [(envS_none hs').1] at he
        exact R.inj j c t j' c' t' (hnone j _ hj hs) (hnone j' _ hj' hs') he
  · intro j n l hj
    cases hs : src j with
    | some m => obtain ⟨c0, t0, hc, ho, hr⟩ := hsome j m _ hj hs; cases ho
    | none =>
      have h0 := hnone j _ hj hs
      rw [(envS_none hs).2]
      refine (R.rd j n l h0).same R2.size (fun b hv hb => hold b hb (fun i hi he => ?_))
      obtain ⟨c', t', hi'⟩ := hown i hi
      exact R.apart j n l i c' t' h0 hi' (by rw [hv, he])
  · intro j n l j' c t hj hj' hv
    cases hs : src j with
    | some m => obtain ⟨c0, t0, hc, ho, hr⟩ := hsome j m _ hj hs; cases ho
    | none =>
      have h0 := hnone j _ hj hs
      rw [(envS_none hs).2] at hv
      cases hs' : src j' with
      | none =>
        rw [(envS_none hs').1] at hv
        exact R.apart j n l j' c t h0 (hnone j' _ hj' hs') hv
      | some m =>
        rw [(envS_some hs').1] at hv
        obtain ⟨i, hi, he⟩ := hbk m j' hs' ((R.rd j n l h0).lt hv)
        obtain ⟨c', t', hi'⟩ := hown i hi
        exact R.apart j n l i c' t' h0 hi' (by rw [hv, he])
  · intro j o hj r hr
    cases hs : src j with
    | some n =>
      obtain ⟨c0, t0, hc, ho, hrf⟩ := hsome j n _ hj hs
      subst ho
      obtain ⟨q, hq, rfl⟩ := AV.rens_refs c0 hr
      have hsq := hrf q hq
      obtain ⟨_, c, t, hc', _⟩ := h1 _ _ hsq
      rw [hn, hsq]; simp [hc']
    | none => exact hdom r (R.refs j o (hnone j _ hj hs) r hr)
  · intro j hj
    obtain ⟨h0, hb⟩ := R.env j hj
    exact ⟨hdom j h0, by rw [(hon j h0).1]; exact hb.1, by rw [(hon j h0).2]; exact hb.2⟩
/-- **a call walked in place**, whose new blocks come out under names of the caller's -/
theorem call_inline2 {P : Program} {G : Glob} (E : EqT) {w0 : World} {B0 : Bas} {g : FuncId} {fn : Func} {c : Code} {args : List AV} {H H1 Hc : AHeap} {k : Nat} {r : AV} {ef : List (Nat × AO)} (keys : List Nat) (N1 : Nat) (src : Nat → Option Nat) (f : Nat → Nat)
    (hf : P.funcs[g]? = some fn) (hb : fn.body = some c) (hn : (fn.name == "runtime.NumGoroutine") = false) (hl : (Nat.ble args.length fn.ntmps) = true)
    (hH1 : ∀ j o, H1 j = some o → j ∈ keys) (hH1' : ∀ j ∈ keys, H1 j = H j ∧ (∃ c t, H j = some (.own c t)) ∧ j < N1) (hcl : ∀ j c t, H1 j = some (.own c t) → ∀ r ∈ AV.refss c, r ∈ keys) (href : ∀ x ∈ args, ∀ j ∈ x.refs, j ∈ keys)
    (h1 : ∀ j n, src j = some n → f n = j ∧ ∃ c t, Hc n = some (.own c t) ∧ ∀ r ∈ AV.refss c, src (f r) = some r)
    (h2 : ∀ j ∈ keys, src j = some j) (h3 : ∀ j n, src j = some n → j ∈ keys ∨ j = k ∨ j = k + 1) (hr : ∀ j ∈ r.refs, src (f j) = some j)
    (hef : ∀ H' : AHeap, (∀ b ∈ keys, H' b = H b) → ∀ j, (H'.puts ef) j = match src j with | some n => (Hc n).map (AO.ren f) | none => H' j)
    (h : ∀ w1 B, AW ⟨P, G, E, w1, B, fn.ntmps⟩ c (retA P G fn (fun r' Hx => r' = r ∧ Hx = Hc)) N1 (regs0 args fn.ntmps) H1) :
    CallOK P G w0 B0 g args H keys k (r.ren f) ef := by
  intro H' e w hag hk0 hk1 hrefs R
  have hkeys : ∀ j ∈ keys, ∃ c t, H' j = some (.own c t) := fun j hj => by rw [hag j hj]; exact (hH1' j hj).2.1
  have hsub : ∀ j o, H1 j = some o → H' j = some o := fun j o hj => by have hm := hH1 j o hj; rw [hag j hm, ← (hH1' j hm).1]; exact hj
  let B : Bas := ⟨keys.map e.blk, keys, e⟩
  have R1 : Rep G w B e H1 w := by
    refine ⟨rfl, rfl, rfl, Nat.le_refl _, fun _ _ _ => rfl, R.gl, fun j c t hj => R.own j c t (hsub _ _ hj), fun j c t hj => .inr (List.mem_map.2 ⟨j, hH1 j _ hj, rfl⟩), fun j c t hj => R.glo j c t (hsub _ _ hj),
      fun j c t j' c' t' hj hj' => R.inj j c t j' c' t' (hsub _ _ hj) (hsub _ _ hj'), fun j n l hj => R.rd j n l (hsub _ _ hj), fun j n l j' c t hj hj' => R.apart j n l j' c t (hsub _ _ hj) (hsub _ _ hj'), ?_, ?_⟩
    · intro j o hj i hi
      obtain ⟨hj1, ⟨c, t, hc⟩, _⟩ := hH1' j (hH1 j o hj)
      rw [← hj1, hj] at hc
      cases hc
      have hm := hcl j c t hj i hi
      obtain ⟨h5, ⟨c', t', hc'⟩, _⟩ := hH1' i hm
      rw [h5, hc']; simp
    · intro j hj
      obtain ⟨h5, ⟨c', t', hc'⟩, _⟩ := hH1' j hj
      exact ⟨by rw [h5, hc']; simp, rfl, rfl⟩
  have hB1 : Bound H1 N1 := by
    intro b hb
    cases hv : H1 b with
    | none => rfl
    | some o => have := (hH1' b (hH1 b o hv)).2.2; omega
  have hcall := calls_of_aw (E := E) hf hb (by simpa using hl) R1 hB1 (fun x hx j hj => by
    obtain ⟨h5, ⟨c', t', hc'⟩, _⟩ := hH1' j (href x hx j hj); rw [h5, hc']; simp) (h w B)
  refine callsX_of_calls hf hn (by rw [hb]; rfl) (hcall.mono ?_)
  rintro en w' ⟨r', e2, Hx, rfl, ⟨rfl, rfl⟩, R2⟩
  have hput := hef H' hag
  obtain ⟨R3, hon, hdom⟩ := inline_rep R (keys := keys) (B := B) rfl (fun b hb => by obtain ⟨j, hj, rfl⟩ := List.mem_map.1 hb; exact ⟨j, hj, rfl⟩) rfl R2 hkeys h1 h2 (fun j hj hs => by
    cases hsj : src j with
    | none => exact absurd hsj hs
    | some n => rcases h3 j n hsj with h6 | h6 | h6
                · exact absurd h6 hj
                · rw [h6]; exact hk0
                · rw [h6]; exact hk1) hput
  refine ⟨envS src e e2, ?_, R3, hon, fun j hj => ?_⟩
  · rw [AV.ren_val r' (fun j hj => envS_some (hr j hj))]
  · obtain ⟨q, hq, rfl⟩ := AV.ren_refs r' hj
    have hs := hr q hq
    obtain ⟨_, c, t, hc, _⟩ := h1 _ _ hs
    rw [hput, hs]; simp [hc]
end Go.Proofs.YtikjbocagnolmaaDoor
