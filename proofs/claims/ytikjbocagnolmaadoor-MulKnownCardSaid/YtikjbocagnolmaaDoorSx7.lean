/- What the executor says of calls in place is so. No function of the program. -/
import Derived.Test.YtikjbocagnolmaaDoorSx6
namespace Go.Proofs.YtikjbocagnolmaaDoor
set_option linter.unusedVariables false
set_option linter.unusedSimpArgs false
open Go.RowKit
/-! ### names of blocks -/
mutual
theorem SV.den_refs (s : Sig) : ∀ (x : SV) {r : Nat}, r ∈ (x.den s).refs → r ∈ x.refs
  | .v _, r, h => by simp [SV.den, AV.refs] at h
  | .int _ _, r, h => by simp [SV.den, AV.refs] at h
  | .bool _, r, h => by simp [SV.den, AV.refs] at h
  | .loc b o, r, h => by simpa [SV.den, AV.refs, SV.refs] using h
  | .sl b o l c, r, h => by simpa [SV.den, AV.refs, SV.refs] using h
  | .fn g a c, r, h => by
    rw [SV.den] at h
    rw [SV.refs]
    rcases List.mem_append.1 (mkFn_refs h) with h | h
    · exact List.mem_append_left _ (SV.dens_refs s a h)
    · exact List.mem_append_right _ (SV.dens_refs s c h)
  | .tup l, r, h => by rw [SV.den] at h; rw [SV.refs]; exact SV.dens_refs s l (mkTup_refs h)
  | .agg l, r, h => by rw [SV.den] at h; rw [SV.refs]; exact SV.dens_refs s l (mkAgg_refs h)
theorem SV.dens_refs (s : Sig) : ∀ (l : List SV) {r : Nat}, r ∈ AV.refss (SV.dens s l) → r ∈ SV.refss l
  | [], r, h => by simp [SV.dens, AV.refss] at h
  | x :: l, r, h => by
    rw [SV.dens, AV.refss] at h
    rw [SV.refss]
    rcases List.mem_append.1 h with h | h
    · exact List.mem_append_left _ (SV.den_refs s x h)
    · exact List.mem_append_right _ (SV.dens_refs s l h)
end
theorem allV_rens (f : Nat → Nat) : ∀ l : List AV, allV (AV.rens f l) = allV l
  | [] => rfl
  | .v x :: l => by simp only [AV.rens, AV.ren, allV, allV_rens f l]
  | .loc _ _ :: l => rfl
  | .sl _ _ _ _ :: l => rfl
  | .hd _ :: l => rfl
  | .ha _ _ :: l => rfl
  | .fn _ _ _ :: l => rfl
  | .tup _ :: l => rfl
  | .agg _ :: l => rfl
theorem mkAgg_ren (f : Nat → Nat) (l : List AV) : (mkAgg l).ren f = mkAgg (AV.rens f l) := by
  unfold mkAgg; rw [allV_rens]; cases allV l <;> rfl
theorem mkTup_ren (f : Nat → Nat) (l : List AV) : (mkTup l).ren f = mkTup (AV.rens f l) := by
  unfold mkTup; rw [allV_rens]; cases allV l <;> rfl
theorem mkFn_ren (f : Nat → Nat) (g : Fn) (a c : List AV) : (mkFn g a c).ren f = mkFn g (AV.rens f a) (AV.rens f c) := by
  unfold mkFn; rw [allV_rens, allV_rens]; cases allV a <;> cases allV c <;> rfl
mutual
theorem SV.den_ren (s : Sig) (f : Nat → Nat) : ∀ x : SV, (x.ren f).den s = (x.den s).ren f
  | .v _ => rfl
  | .int _ _ => rfl
  | .bool _ => rfl
  | .loc b o => rfl
  | .sl b o l c => rfl
  | .fn g a c => by simp only [SV.ren, SV.den, mkFn_ren, SV.dens_ren s f a, SV.dens_ren s f c]
  | .tup l => by simp only [SV.ren, SV.den, mkTup_ren, SV.dens_ren s f l]
  | .agg l => by simp only [SV.ren, SV.den, mkAgg_ren, SV.dens_ren s f l]
theorem SV.dens_ren (s : Sig) (f : Nat → Nat) : ∀ l : List SV, SV.dens s (SV.rens f l) = AV.rens f (SV.dens s l)
  | [] => rfl
  | x :: l => by simp only [SV.rens, SV.dens, AV.rens, SV.den_ren s f x, SV.dens_ren s f l]
end
mutual
theorem AV.ren_id {f : Nat → Nat} : ∀ x : AV, (∀ r ∈ x.refs, f r = r) → x.ren f = x
  | .v _, _ => rfl
  | .loc b o, h => by simp only [AV.ren]; rw [h b (by simp [AV.refs])]
  | .sl b o l c, h => by simp only [AV.ren]; rw [h b (by simp [AV.refs])]
  | .hd k, h => by simp only [AV.ren]; rw [h k (by simp [AV.refs])]
  | .ha k o, h => by simp only [AV.ren]; rw [h k (by simp [AV.refs])]
  | .fn g a c, h => by
    simp only [AV.ren]
    rw [AV.rens_id a (fun r hr => h r (by rw [AV.refs]; exact List.mem_append_left _ hr)), AV.rens_id c (fun r hr => h r (by rw [AV.refs]; exact List.mem_append_right _ hr))]
  | .tup l, h => by simp only [AV.ren]; rw [AV.rens_id l (fun r hr => h r (by rw [AV.refs]; exact hr))]
  | .agg l, h => by simp only [AV.ren]; rw [AV.rens_id l (fun r hr => h r (by rw [AV.refs]; exact hr))]
theorem AV.rens_id {f : Nat → Nat} : ∀ l : List AV, (∀ r ∈ AV.refss l, f r = r) → AV.rens f l = l
  | [], _ => rfl
  | x :: l, h => by
    rw [AV.rens, AV.ren_id x (fun r hr => h r (by rw [AV.refss]; exact List.mem_append_left _ hr)), AV.rens_id l (fun r hr => h r (by rw [AV.refss]; exact List.mem_append_right _ hr))]
end
theorem memN_mem {n : Nat} : ∀ {l : List Nat}, memN n l = true ↔ n ∈ l
  | [] => by simp [memN]
  | x :: l => by
    simp only [memN]
    cases h : Nat.beq x n with
    | true => simp only [beq_iff.1 h, List.mem_cons, true_or]
    | false =>
      simp only []
      rw [memN_mem, List.mem_cons]
      constructor
      · exact .inr
      · rintro (rfl | h1)
        · simp at h
        · exact h1
theorem hget_keys {j : Nat} : ∀ {H : SH}, (∃ o, hget H j = some o) ↔ j ∈ keysOf H
  | [] => by simp [hget, keysOf]
  | x :: l => by
    simp only [hget, keysOf]
    cases h : Nat.beq x.1 j with
    | true => simp [beq_iff.1 h]
    | false =>
      simp only []
      rw [hget_keys, List.mem_cons]
      constructor
      · exact .inr
      · rintro (rfl | h1)
        · simp at h
        · exact h1
theorem hget_none {j : Nat} {H : SH} (h : j ∉ keysOf H) : hget H j = none := by
  cases hg : hget H j with
  | none => rfl
  | some o => exact absurd (hget_keys.1 ⟨o, hg⟩) h
theorem keysLt_ok {k : Nat} : ∀ {H : SH}, keysLt k H = true → ∀ j ∈ keysOf H, j < k
  | [], _, j, h => by simp [keysOf] at h
  | x :: l, h, j, hj => by
    simp only [keysLt] at h
    split at h
    · rename_i hb
      simp only [keysOf, List.mem_cons] at hj
      rcases hj with rfl | hj
      · simpa [Nat.blt_eq] using hb
      · exact keysLt_ok h j hj
    · cases h
/-- what is reached: part of the heap, closed, with all that was asked for -/
structure Reached (H : SH) (l : List Nat) (R : SH) : Prop where
  sub : ∀ b o, hget R b = some o → hget H b = some o
  cl : ∀ b o, hget R b = some o → ∀ r ∈ SV.refss o.c, r ∈ keysOf R
  all : ∀ b ∈ l, b ∈ keysOf R
theorem reachGo_ok {H : SH} : ∀ {n : Nat} {todo : List Nat} {acc R : SH}, reachGo H n todo acc = some R → (∀ b o, hget acc b = some o → hget H b = some o) → (∀ b o, hget acc b = some o → ∀ r ∈ SV.refss o.c, r ∈ todo ∨ r ∈ keysOf acc) →
    Reached H todo R ∧ ∀ b ∈ keysOf acc, b ∈ keysOf R
  | 0, _, _, _, h, _, _ => by cases h
  | n + 1, [], acc, R, h, h1, h2 => by
    simp only [reachGo, Option.some.injEq] at h; subst h
    exact ⟨⟨h1, fun b o hb r hr => (h2 b o hb r hr).resolve_left (by simp), fun b hb => by simp at hb⟩, fun b hb => hb⟩
  | n + 1, b :: todo, acc, R, h, h1, h2 => by
    simp only [reachGo] at h
    split at h
    · rename_i o ho
      have hk : b ∈ keysOf acc := hget_keys.1 ⟨o, ho⟩
      obtain ⟨h3, h4⟩ := reachGo_ok h h1 (fun b' o' hb' r hr => by
        rcases h2 b' o' hb' r hr with h5 | h5
        · rcases List.mem_cons.1 h5 with rfl | h5
          · exact .inr hk
          · exact .inl h5
        · exact .inr h5)
      refine ⟨⟨h3.sub, h3.cl, fun b' hb' => ?_⟩, h4⟩
      rcases List.mem_cons.1 hb' with rfl | hb'
      · exact h4 _ hk
      · exact h3.all _ hb'
    · split at h
      · cases h
      · rename_i hno _ o ho
        have hget' : ∀ b' o', hget ((b, o) :: acc) b' = some o' → (b' = b ∧ o' = o) ∨ hget acc b' = some o' := fun b' o' hb' => by
          simp only [hget] at hb'
          split at hb'
          · rename_i he; cases hb'; exact .inl ⟨(beq_iff.1 he).symm, rfl⟩
          · exact .inr hb'
        obtain ⟨h3, h4⟩ := reachGo_ok h (fun b' o' hb' => by
          rcases hget' b' o' hb' with ⟨rfl, rfl⟩ | hb'
          · exact ho
          · exact h1 b' o' hb') (fun b' o' hb' r hr => by
          rcases hget' b' o' hb' with ⟨rfl, rfl⟩ | hb'
          · exact .inl (List.mem_append_left _ hr)
          · rcases h2 b' o' hb' r hr with h5 | h5
            · rcases List.mem_cons.1 h5 with rfl | h5
              · exact .inr (by simp [keysOf])
              · exact .inl (List.mem_append_right _ h5)
            · exact .inr (by simp [keysOf, h5]))
        refine ⟨⟨h3.sub, h3.cl, fun b' hb' => ?_⟩, fun b' hb' => h4 _ (by simp [keysOf, hb'])⟩
        rcases List.mem_cons.1 hb' with rfl | hb'
        · exact h4 _ (by simp [keysOf])
        · exact h3.all _ (List.mem_append_right _ hb')
theorem reach_ok {H : SH} {l : List Nat} {R : SH} (h : reach H l = some R) : Reached H l R := by
  unfold reach at h
  split at h
  · cases h; exact ⟨fun b o hb => (by cases hb), fun b o hb => (by cases hb), fun b hb => (by cases hb)⟩
  · exact (reachGo_ok h (fun b o hb => (by cases hb)) (fun b o hb => (by cases hb))).1
theorem newOf_ok {k : Nat} {objs : SH} : ∀ {R : SH} {nw : List Nat}, newOf k objs R = some nw → (∀ j ∈ keysOf R, j ∈ nw ∨ j ∈ keysOf objs) ∧ ∀ n ∈ nw, k ≤ n ∧ n ∈ keysOf R
  | [], nw, h => by cases h; exact ⟨fun j hj => by simp [keysOf] at hj, fun n hn => by simp at hn⟩
  | x :: l, nw, h => by
    simp only [newOf] at h
    split at h
    · cases h
    · rename_i r hr
      obtain ⟨h1, h2⟩ := newOf_ok hr
      split at h
      · rename_i hk
        cases h
        refine ⟨fun j hj => ?_, fun n hn => ?_⟩
        · simp only [keysOf, List.mem_cons] at hj
          rcases hj with rfl | hj
          · exact .inl List.mem_cons_self
          · exact (h1 j hj).imp (List.mem_cons_of_mem _) id
        · rcases List.mem_cons.1 hn with rfl | hn
          · exact ⟨Nat.le_of_ble_eq_true hk, by simp [keysOf]⟩
          · exact ⟨(h2 n hn).1, by simp [keysOf, (h2 n hn).2]⟩
      · split at h
        · rename_i o ho
          cases h
          refine ⟨fun j hj => ?_, fun n hn => ⟨(h2 n hn).1, by simp [keysOf, (h2 n hn).2]⟩⟩
          simp only [keysOf, List.mem_cons] at hj
          rcases hj with rfl | hj
          · exact .inr (hget_keys.1 ⟨o, ho⟩)
          · exact h1 j hj
        · cases h
theorem dirtyOf_mem {dt : List Nat} {j : Nat} : ∀ {H : SH}, j ∈ dirtyOf dt H ↔ j ∈ keysOf H ∧ memN j dt = true
  | [] => by simp [dirtyOf, keysOf]
  | x :: l => by
    simp only [dirtyOf, keysOf]
    cases h : memN x.1 dt with
    | true =>
      simp only [List.mem_cons, dirtyOf_mem (H := l)]
      constructor
      · rintro (rfl | h1)
        · exact ⟨.inl rfl, h⟩
        · exact ⟨.inr h1.1, h1.2⟩
      · rintro ⟨rfl | h1, h2⟩
        · exact .inl rfl
        · exact .inr ⟨h1, h2⟩
    | false =>
      simp only [List.mem_cons, dirtyOf_mem (H := l)]
      constructor
      · rintro ⟨h1, h2⟩; exact ⟨.inr h1, h2⟩
      · rintro ⟨rfl | h1, h2⟩
        · rw [h] at h2; cases h2
        · exact ⟨h1, h2⟩
/-! ### blocks that turned, blocks that are new -/
def renO (s : Sig) (f : Nat → Nat) (o : SO) : AO := .own (SV.dens s (SV.rens f o.c)) o.t
theorem renO_eq (s : Sig) (f : Nat → Nat) (o : SO) : renO s f o = AO.ren f (o.den s) := by unfold renO SO.den AO.ren; rw [SV.dens_ren]
theorem puts_append : ∀ (a b : List (Nat × AO)) (H : AHeap), H.puts (a ++ b) = (H.puts a).puts b
  | [], b, H => rfl
  | x :: a, b, H => by rw [List.cons_append, AHeap.puts, AHeap.puts, puts_append a b]
theorem efOld_puts (s : Sig) (f : Nat → Nat) (Hh : SH) : ∀ (l : List Nat) (H : AHeap) (j : Nat), (H.puts (efD s (efOld f Hh l))) j = match (match memN j l with | true => hget Hh j | false => none) with | some o => some (renO s f o) | none => H j
  | [], H, j => rfl
  | b :: l, H, j => by
    simp only [efOld]
    cases ho : hget Hh b with
    | some o =>
      simp only []
      rw [efD, List.map_cons, AHeap.puts]
      have ih := efOld_puts s f Hh l (H.put b (renO s f o)) j
      rw [efD] at ih
      refine ih.trans ?_
      simp only [memN]
      cases hb : Nat.beq b j with
      | true =>
        have := beq_iff.1 hb; subst this
        simp only [ho]
        cases memN b l with
        | true => simp only [ho]
        | false => simp only [AHeap.put_same]
      | false =>
        simp only []
        cases hm : memN j l with
        | true =>
          simp only []
          cases hget Hh j with
          | some _ => rfl
          | none => simp only []; exact AHeap.put_ne _ _ _ (fun e => by subst e; simp at hb)
        | false => simp only []; exact AHeap.put_ne _ _ _ (fun e => by subst e; simp at hb)
    | none =>
      simp only []
      refine (efOld_puts s f Hh l H j).trans ?_
      simp only [memN]
      cases hb : Nat.beq b j with
      | true =>
        have := beq_iff.1 hb; subst this
        simp only [ho]
        cases memN b l <;> simp only [ho]
      | false => rfl
/-- the new blocks' names -/
structure Names (k : Nat) (nw : List Nat) (m : List (Nat × Nat)) (f : Nat → Nat) (src : Nat → Option Nat) : Prop where
  old : ∀ j, j < k → f j = j
  new : ∀ n ∈ nw, src (f n) = some n
  srcOld : ∀ j, j < k → src j = none
  srcNew : ∀ j n, src j = some n → n ∈ nw ∧ f n = j ∧ (j = k ∨ j = k + 1)
theorem names_of {k : Nat} {nw : List Nat} {m : List (Nat × Nat)} (h : zipK k nw = some m) (hk : ∀ n ∈ nw, k ≤ n) : ∃ src, Names k nw m (renF m) src ∧ ∀ (s : Sig) (Hh : SH), (∀ n ∈ nw, ∃ o, hget Hh n = some o) → ∀ (H : AHeap) (j : Nat),
    (H.puts (efD s (efNew (renF m) Hh nw))) j = match src j with | some n => (hget Hh n).map (renO s (renF m)) | none => H j := by
  unfold zipK at h
  split at h
  · cases h
    exact ⟨fun _ => none, ⟨fun _ _ => rfl, fun n hn => by simp at hn, fun _ _ => rfl, fun _ _ h => by cases h⟩, fun s Hh _ H j => rfl⟩
  · rename_i n1
    cases h
    have h1 := hk n1 (by simp)
    refine ⟨fun j => if j = k then some n1 else none, ⟨?_, ?_, ?_, ?_⟩, ?_⟩
    · intro j hj
      simp only [renF]
      cases hb : Nat.beq n1 j with
      | true => have := beq_iff.1 hb; omega
      | false => rfl
    · intro n hn
      simp only [List.mem_singleton] at hn; subst hn
      simp [renF]
    · intro j hj; simp; omega
    · intro j n hs
      split at hs
      · rename_i hj; cases hs; subst hj; exact ⟨by simp, by simp [renF], .inl rfl⟩
      · cases hs
    · intro s Hh hH H j
      obtain ⟨o, ho⟩ := hH n1 (by simp)
      simp only [efNew, ho, efD, List.map_cons, List.map_nil, AHeap.puts]
      have hf : renF [(n1, k)] n1 = k := by simp [renF]
      rw [hf]
      by_cases hj : j = k
      · subst hj; simp only [if_true, AHeap.put_same, ho]; rfl
      · simp only [if_neg hj]; exact AHeap.put_ne _ _ _ hj
  · rename_i n1 n2
    split at h
    · cases h
    · rename_i hne
      cases h
      have h1 := hk n1 (by simp); have h2 := hk n2 (by simp)
      have hne' : n1 ≠ n2 := fun e => by subst e; simp at hne
      have f1 : renF [(n1, k), (n2, k + 1)] n1 = k := by simp [renF]
      have f2 : renF [(n1, k), (n2, k + 1)] n2 = k + 1 := by
        simp only [renF, hne]; simp
      refine ⟨fun j => if j = k then some n1 else if j = k + 1 then some n2 else none, ⟨?_, ?_, ?_, ?_⟩, ?_⟩
      · intro j hj
        simp only [renF]
        cases hb : Nat.beq n1 j with
        | true => have := beq_iff.1 hb; omega
        | false =>
          simp only []
          cases hb2 : Nat.beq n2 j with
          | true => have := beq_iff.1 hb2; omega
          | false => rfl
      · intro n hn
        simp only [List.mem_cons, List.not_mem_nil, or_false] at hn
        rcases hn with rfl | rfl
        · rw [f1]; simp
        · rw [f2]; simp
      · intro j hj
        rw [if_neg (by omega), if_neg (by omega)]
      · intro j n hs
        split at hs
        · rename_i hj; cases hs; subst hj; exact ⟨by simp, f1, .inl rfl⟩
        · split at hs
          · rename_i hj; cases hs; subst hj; exact ⟨by simp, f2, .inr rfl⟩
          · cases hs
      · intro s Hh hH H j
        obtain ⟨o1, ho1⟩ := hH n1 (by simp)
        obtain ⟨o2, ho2⟩ := hH n2 (by simp)
        simp only [efNew, ho1, ho2, efD, List.map_cons, List.map_nil, AHeap.puts, f1, f2]
        by_cases hj : j = k
        · subst hj
          rw [AHeap.put_ne _ _ _ (by omega), AHeap.put_same]
          simp only [if_true, ho1]; rfl
        · by_cases hj2 : j = k + 1
          · subst hj2
            rw [AHeap.put_same]
            simp only [if_neg hj, if_true, ho2]; rfl
          · rw [AHeap.put_ne _ _ _ hj2, AHeap.put_ne _ _ _ hj]
            simp only [if_neg hj, if_neg hj2]
  · cases h
theorem padR_get : ∀ (l : List SV) (n t : Nat), rget (padR l n) t = match l[t]? with | some x => if t < n then some x else none | none => if t < n then some (.v undef) else none
  | [], 0, t => by simp [padR, rget]
  | [], n + 1, 0 => by simp [padR, rget]
  | [], n + 1, t + 1 => by
    simp only [padR, rget]
    rw [padR_get [] n t]; simp
  | x :: l, 0, t => by
    simp only [padR, rget]
    cases (x :: l)[t]? <;> simp
  | x :: l, n + 1, 0 => by simp [padR, rget]
  | x :: l, n + 1, t + 1 => by
    simp only [padR, rget]
    rw [padR_get l n t]; simp
theorem padR_den (s : Sig) (l : List SV) (n : Nat) : SRegs.den s (padR l n) = regs0 (SV.dens s l) n := by
  funext t
  unfold SRegs.den regs0
  rw [padR_get, SV.dens_map, List.getElem?_map]
  cases l[t]? with
  | some x => simp only [Option.map_some]; split <;> rfl
  | none => simp only [Option.map_none]; split <;> rfl
theorem padR_len : ∀ (l : List SV) (n : Nat), l.length ≤ n → (padR l n).length = n
  | [], 0, _ => rfl
  | [], n + 1, _ => by rw [padR]; simp [padR_len [] n (by simp)]
  | x :: l, 0, h => by simp at h
  | x :: l, n + 1, h => by rw [padR]; simp [padR_len l n (by simpa using h)]
theorem resSX_ok {P : Program} {G : Glob} (s : Sig) {T : SRegs} {H : SH} : ∀ {l : List ResultVar} {rs : List SV}, resSX P T H l = some rs → resA P G (SRegs.den s T) (SH.den s H) l = some (SV.dens s rs)
  | [], rs, h => by cases h; rfl
  | .tmp t :: l, rs, h => by
    simp only [resSX] at h
    split at h
    · rename_i x r hx hr
      cases h
      simp only [resA, resSX_ok s hr]
      have : SRegs.den s T t = some (x.den s) := by simp [SRegs.den, hx]
      rw [this]; rfl
    · cases h
  | .cell a t :: l, rs, h => by
    simp only [resSX] at h
    split at h
    · rename_i b o hx
      split at h
      · rename_i ob hob
        split at h
        · rename_i x r hx2 hr
          cases h
          have : SRegs.den s T a = some (.loc b o) := by simp [SRegs.den, hx, SV.den]
          simp only [resA, this, evLoad, SH.den_get hob, ldS_ok s hx2, resSX_ok s hr]; rfl
        · cases h
      · cases h
    · cases h
/-! ### calls -/
structure CSpec (C : SCx) (s : Sig) (g : FuncId) (args : List SV) (H : SH) (k : Nat) (r : CR) : Prop where
  tc : ∀ b ∈ r.tc, SH.den s H b ≠ none
  ef : ∀ x ∈ efD s r.ef, x.1 = k ∨ x.1 = k + 1 ∨ x.1 ∈ r.tc
  fc : FOK s r.fc
  ok : ∀ w0 B0, CallOK C.P C.G w0 B0 g (SV.dens s args) (SH.den s H) r.tc k (r.r.den s) (efD s r.ef)
/-- all that has turned is known -/
def DOK (H0 : SH) (dt : List Nat) (H : SH) : Prop := ∀ j, memN j dt = false → hget H j = hget H0 j
def ExA (s : Sig) (ex : Exit) (st : St) : APost := fun x N T H => x = ex ∧ N = st.N ∧ T = SRegs.den s st.T ∧ H = SH.den s st.H
theorem efOld_keys {s : Sig} {f : Nat → Nat} {Hh : SH} : ∀ {l : List Nat} {x : Nat × AO}, x ∈ efD s (efOld f Hh l) → x.1 ∈ l
  | [], x, h => by simp [efOld, efD] at h
  | b :: l, x, h => by
    simp only [efOld] at h
    split at h
    · rw [efD, List.map_cons] at h
      rcases List.mem_cons.1 h with rfl | h
      · exact List.mem_cons_self
      · exact List.mem_cons_of_mem _ (efOld_keys h)
    · exact List.mem_cons_of_mem _ (efOld_keys h)
theorem efNew_keys {s : Sig} {f : Nat → Nat} {Hh : SH} : ∀ {l : List Nat} {x : Nat × AO}, x ∈ efD s (efNew f Hh l) → ∃ n ∈ l, x.1 = f n
  | [], x, h => by simp [efNew, efD] at h
  | b :: l, x, h => by
    simp only [efNew] at h
    split at h
    · rw [efD, List.map_cons] at h
      rcases List.mem_cons.1 h with rfl | h
      · exact ⟨b, List.mem_cons_self, rfl⟩
      · obtain ⟨n, hn, e⟩ := efNew_keys h; exact ⟨n, List.mem_cons_of_mem _ hn, e⟩
    · obtain ⟨n, hn, e⟩ := efNew_keys h; exact ⟨n, List.mem_cons_of_mem _ hn, e⟩
/-- behind a call walked in place -/
theorem after_ok {C : SCx} {E : EqT} {s : Sig} {g : FuncId} {fn : Func} {cd : Code} {args : List SV} {H objs : SH} {k : Nat} {ex : Exit} {st : St} {rs : List SV} {R2 : SH} {nw : List Nat} {m : List (Nat × Nat)} {fc : Facts}
    (hf : C.P.funcs[g]? = some fn) (hb : fn.body = some cd) (hn : (fn.name == "runtime.NumGoroutine") = false) (hro : reach H (SV.refss args) = some objs) (hl : Nat.ble args.length fn.ntmps = true) (hk : keysLt k objs = true)
    (hA : ∀ w0 B0, AW ⟨C.P, C.G, E, w0, B0, fn.ntmps⟩ cd (ExA s ex st) k (SRegs.den s (padR args fn.ntmps)) (SH.den s objs)) (hex : ex = .normal ∨ ex = .ret) (hD : DOK objs st.dt st.H) (hfc : FOK s fc)
    (hrs : resSX C.P st.T st.H fn.results.toList = some rs) (hR2 : reach st.H (SV.refss rs ++ dirtyOf st.dt objs) = some R2) (hnw : newOf k objs R2 = some nw) (hm : zipK k nw = some m) (nv : Nat) :
    CSpec C s g args H k ⟨(resS rs).ren (renF m), keysOf objs, efOld (renF m) st.H (dirtyOf st.dt objs) ++ efNew (renF m) st.H nw, nv, fc⟩ := by
  have ro := reach_ok hro
  have r2 := reach_ok hR2
  obtain ⟨n1, n2⟩ := newOf_ok hnw
  obtain ⟨src, hN, hput⟩ := names_of hm (fun n hn => (n2 n hn).1)
  have hlt := keysLt_ok hk
  have hH : ∀ j ∈ keysOf objs, ∃ o, hget objs j = some o ∧ hget H j = some o := fun j hj => by
    obtain ⟨o, ho⟩ := hget_keys.2 hj; exact ⟨o, ho, ro.sub j o ho⟩
  have hden : ∀ j ∈ keysOf objs, SH.den s objs j = SH.den s H j := fun j hj => by
    obtain ⟨o, h1, h2⟩ := hH j hj; unfold SH.den; rw [h1, h2]
  -- where a block of the callee's lies
  have hnew : ∀ n ∈ nw, ∃ o, hget st.H n = some o ∧ hget R2 n = some o := fun n hn => by
    obtain ⟨o, ho⟩ := hget_keys.2 (n2 n hn).2; exact ⟨o, r2.sub n o ho, ho⟩
  let sr : Nat → Option Nat := fun j => if j ∈ keysOf objs then some j else src j
  have srk : ∀ j ∈ keysOf objs, sr j = some j := fun j hj => if_pos hj
  have srn : ∀ r, (r ∈ nw ∨ r ∈ keysOf objs) → sr (renF m r) = some r := by
    rintro r (hr | hr)
    · have h1 := hN.new r hr
      have : renF m r ∉ keysOf objs := fun hm' => by
        have := hN.srcOld _ (hlt _ hm'); rw [this] at h1; cases h1
      show (if _ then _ else _) = _
      rw [if_neg this, h1]
    · rw [hN.old r (hlt r hr)]; exact srk r hr
  have clean : ∀ j ∈ keysOf objs, memN j st.dt = false → ∃ o, hget st.H j = some o ∧ hget objs j = some o := fun j hj hd => by
    obtain ⟨o, h1, _⟩ := hH j hj; exact ⟨o, by rw [hD j hd]; exact h1, h1⟩
  have cont : ∀ j o, hget st.H j = some o → (j ∈ nw ∨ j ∈ keysOf objs) → ∀ r ∈ SV.refss o.c, r ∈ nw ∨ r ∈ keysOf objs := by
    intro j o ho hj r hr
    have inR : ∀ b, b ∈ keysOf R2 → hget st.H b = some o → r ∈ nw ∨ r ∈ keysOf objs := fun b hbk hb => by
      obtain ⟨o', ho'⟩ := hget_keys.2 hbk
      have := r2.sub b o' ho'; rw [hb] at this; cases this
      exact n1 r (r2.cl b o ho' r hr)
    rcases hj with hj | hj
    · exact inR j (n2 j hj).2 ho
    · cases hd : memN j st.dt with
      | true => exact inR j (r2.all j (List.mem_append_right _ (dirtyOf_mem.2 ⟨hj, hd⟩))) ho
      | false =>
        obtain ⟨o', h1, h2⟩ := clean j hj hd
        rw [ho] at h1; cases h1
        exact .inr (ro.cl j o h2 r hr)
  have have' : ∀ j, (j ∈ nw ∨ j ∈ keysOf objs) → ∃ o, hget st.H j = some o := by
    rintro j (hj | hj)
    · obtain ⟨o, h1, _⟩ := hnew j hj; exact ⟨o, h1⟩
    · cases hd : memN j st.dt with
      | true =>
        obtain ⟨o, ho⟩ := hget_keys.2 (r2.all j (List.mem_append_right _ (dirtyOf_mem.2 ⟨hj, hd⟩)))
        exact ⟨o, r2.sub j o ho⟩
      | false => obtain ⟨o, h1, _⟩ := clean j hj hd; exact ⟨o, h1⟩
  refine ⟨?_, ?_, hfc, ?_⟩
  · intro b hb
    obtain ⟨o, _, h2⟩ := hH b hb
    unfold SH.den; rw [h2]; simp
  · intro x hx
    rw [efD, List.map_append, ← efD, ← efD] at hx
    rcases List.mem_append.1 hx with hx | hx
    · exact .inr (.inr (dirtyOf_mem.1 (efOld_keys hx)).1)
    · obtain ⟨n, hn, e⟩ := efNew_keys hx
      rw [e]
      exact (hN.srcNew _ n (hN.new n hn)).2.2.imp id .inl
  · intro w0 B0
    rw [SV.den_ren]
    refine call_inline2 E (H1 := SH.den s objs) (Hc := SH.den s st.H) (keysOf objs) k sr (renF m) hf hb hn (by rw [dens_len]; exact hl) ?_ ?_ ?_ ?_ ?_ srk ?_ ?_ ?_ ?_
    · intro j o hj
      unfold SH.den at hj
      cases hg : hget objs j with
      | none => rw [hg] at hj; cases hj
      | some o' => exact hget_keys.1 ⟨o', hg⟩
    · intro j hj
      obtain ⟨o, h1, h2⟩ := hH j hj
      exact ⟨hden j hj, ⟨_, _, SH.den_get h2⟩, hlt j hj⟩
    · intro j c t hj r hr
      unfold SH.den at hj
      cases hg : hget objs j with
      | none => rw [hg] at hj; cases hj
      | some o' =>
        rw [hg] at hj
        simp only [Option.map_some, SO.den, Option.some.injEq, AO.own.injEq] at hj
        rw [← hj.1] at hr
        exact ro.cl j o' hg r (SV.dens_refs s _ hr)
    · intro x hx j hj
      rw [SV.dens_map] at hx
      obtain ⟨y, hy, rfl⟩ := List.mem_map.1 hx
      refine ro.all j ?_
      have : j ∈ AV.refss (SV.dens s args) := AV.mem_refss.2 ⟨_, by rw [SV.dens_map]; exact List.mem_map_of_mem hy, hj⟩
      exact SV.dens_refs s args this
    · intro j n hs
      have key : (n ∈ nw ∨ n ∈ keysOf objs) ∧ renF m n = j := by
        by_cases hj : j ∈ keysOf objs
        · have : sr j = some j := srk j hj
          rw [this] at hs; cases hs
          exact ⟨.inr hj, hN.old j (hlt j hj)⟩
        · have : sr j = src j := if_neg hj
          rw [this] at hs
          obtain ⟨h1, h2, _⟩ := hN.srcNew j n hs
          exact ⟨.inl h1, h2⟩
      obtain ⟨o, ho⟩ := have' n key.1
      refine ⟨key.2, _, _, SH.den_get ho, fun r hr => srn r (cont n o ho key.1 r (SV.dens_refs s _ hr))⟩
    · intro j n hs
      by_cases hj : j ∈ keysOf objs
      · exact .inl hj
      · have : sr j = src j := if_neg hj
        rw [this] at hs
        exact .inr (hN.srcNew j n hs).2.2
    · intro j hj
      refine srn j (n1 j (r2.all j (List.mem_append_left _ ?_)))
      have h1 := SV.den_refs s _ hj
      cases rs with
      | nil => simp [resS, SV.refs, SV.refss] at h1
      | cons x l => cases l with
        | nil => simpa [resS, SV.refss] using h1
        | cons y l => exact h1
    · intro H' hag j
      rw [efD, List.map_append, ← efD, ← efD, puts_append, hput s st.H (fun n hn => (hnew n hn).imp fun o ho => ho.1), efOld_puts]
      by_cases hj : j ∈ keysOf objs
      · have h0 : src j = none := hN.srcOld j (hlt j hj)
        rw [h0, srk j hj]
        simp only
        cases hd : memN j st.dt with
        | true =>
          have : memN j (dirtyOf st.dt objs) = true := memN_mem.2 (dirtyOf_mem.2 ⟨hj, hd⟩)
          rw [this]
          obtain ⟨o, ho⟩ := have' j (.inr hj)
          simp only [ho, SH.den, Option.map_some, renO_eq]
        | false =>
          have : memN j (dirtyOf st.dt objs) = false := by
            cases hmn : memN j (dirtyOf st.dt objs) with
            | false => rfl
            | true => have := (dirtyOf_mem.1 (memN_mem.1 hmn)).2; rw [hd] at this; cases this
          rw [this]
          obtain ⟨o, h1, h2⟩ := clean j hj hd
          obtain ⟨o', h3, h4⟩ := hH j hj
          rw [h2] at h3; cases h3
          simp only []
          rw [hag j hj]
          simp only [SH.den, h1, h4, Option.map_some, SO.den, AO.ren]
          rw [AV.rens_id _ (fun r hr => hN.old r (hlt r (ro.cl j o h2 r (SV.dens_refs s _ hr))))]
      · have h0 : sr j = src j := if_neg hj
        rw [h0]
        cases hs : src j with
        | some n =>
          simp only
          obtain ⟨o, ho⟩ := have' n (.inl (hN.srcNew j n hs).1)
          simp only [ho, SH.den, Option.map_some, renO_eq]
        | none =>
          simp only
          have : memN j (dirtyOf st.dt objs) = false := by
            cases hmn : memN j (dirtyOf st.dt objs) with
            | false => rfl
            | true => exact absurd (dirtyOf_mem.1 (memN_mem.1 hmn)).1 hj
          rw [this]
    · intro w1 B
      have := hA w1 B
      rw [padR_den] at this
      refine this.mono ?_
      rintro x N T Hx ⟨rfl, rfl, rfl, rfl⟩
      have hres := resSX_ok (G := C.G) s hrs
      rcases hex with rfl | rfl
      · exact ⟨_, hres, resV_dens s rs, rfl⟩
      · exact ⟨_, hres, resV_dens s rs, rfl⟩
end Go.Proofs.YtikjbocagnolmaaDoor
