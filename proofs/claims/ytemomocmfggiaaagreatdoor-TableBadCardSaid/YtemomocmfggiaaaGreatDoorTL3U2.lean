import Derived.Test.YtemomocmfggiaaaGreatDoorTL2U2
import Derived.Test.YtemomocmfggiaaaGreatDoorTM2U2
namespace Go.Proofs.YtemomocmfggiaaaGreatDoor
set_option linter.unusedVariables false
set_option linter.unusedSimpArgs false
set_option maxRecDepth 100000
open Go.RowKit FlagM
abbrev kE : List VK := [kB, kB, kB, kB, kB, kU, kU, kU, kU, kU, kU]
abbrev kO : List VK := [kI, kU, kU, kB]
def xE (e : List Int) (j : Nat) : Int := if j < 5 then IntKind.u8.wrap (getI e j) else IntKind.u64.wrap (getI e j)
def flE (r : List Int) : Nat := (wrapC .u8 (getI r 3)).toNat
def oE (r : List Int) : Out := (IntKind.i64.wrap (getI r 0), IntKind.u64.wrap (getI r 1), IntKind.u64.wrap (getI r 2), flE r)
theorem u8_nn (x : Int) : 0 ≤ IntKind.u8.wrap x ∧ IntKind.u8.wrap x ≤ 255 := by
 rw [w8_u]; exact u8_rng x
theorem flE_eq (r : List Int) : ((flE r : Nat) : Int) = IntKind.u8.wrap (getI r 3) := by
 unfold flE; rw [wrapC_eq]; have := (u8_nn (getI r 3)).1; omega
theorem flE_le (r : List Int) : flE r ≤ 255 := by
 have h := flE_eq r; have := (u8_nn (getI r 3)).2; omega
theorem ent_of_len {e : List Int} (h : e.length = 11) : valXs kE e = entL (xE e) := by
 match e, h with
 | [a, b, c, d, f, g, i, j, k, l, m], _ => rfl
theorem out_of_len {r : List Int} (h : r.length = 4) : valXs kO r = outL (oE r) := by
 match r, h with
 | [a, b, c, d], _ =>
  have := flE_eq [a, b, c, d]
  simp only [valXs, valX, outL, oE, this]
  rfl
theorem run_to {e : List Int} (he : e.length = 11) (hF : (F_table_Run e).length = 4) : RunsTo (entL (xE e)) (oE (F_table_Run e)).1 (oE (F_table_Run e)).2.1 (oE (F_table_Run e)).2.2.1 (oE (F_table_Run e)).2.2.2 := by
 intro w hG
 have h := calls_of_pc (e_table_Run.ok e he hF) Tryz.func10 (by kernel_rfl) (by kernel_rfl) w hG
 have h1 : valsS c_table_Run.a e = [.agg (valXs kE e).toArray] := by
  match e, he with
  | [a, b, c, d, f, g, i, j, k, l, m], _ => rfl
 have h2 : resVal (valsS c_table_Run.r (F_table_Run e)) = .agg (valXs kO (F_table_Run e)).toArray := by
  generalize F_table_Run e = r at hF
  match r, hF with
  | [a, b, c, d], _ => rfl
 rw [h1, h2, ent_of_len he, out_of_len hF] at h
 exact h
theorem range_get {α : Type} (l : List α) (d : α) : (List.range l.length).map (fun i => l[i]?.getD d) = l := by
 refine List.ext_getElem (by simp) fun i h1 h2 => ?_
 simp at h1 ⊢
 simp [h1]
theorem flat_get {α β : Type} (l : List α) (d : α) (g : α → List β) : (List.range l.length).flatMap (fun i => g (l[i]?.getD d)) = l.flatMap g := by
 have := congrArg (List.flatMap g) (range_get l d)
 rw [List.flatMap_map] at this
 exact this
theorem flatE_get {g : List Int → List Value} {q : Nat} : ∀ {es : List (List Int)} (hq : ∀ e ∈ es, (g e).length = q) {i j : Nat}, i < es.length → j < q → (es.flatMap g)[i * q + j]? = (g (es[i]?.getD []))[j]?
 | [], _, i, j, hi, _ => by simp at hi
 | e :: es, hq, 0, j, _, hj => by
  have h1 := hq e List.mem_cons_self
  simp only [List.flatMap_cons, Nat.zero_mul, Nat.zero_add, List.getElem?_cons_zero, Option.getD_some]
  rw [List.getElem?_append_left (by omega)]
 | e :: es, hq, i + 1, j, hi, hj => by
  have h1 := hq e List.mem_cons_self
  have ih := flatE_get (fun e he => hq e (List.mem_cons_of_mem _ he)) (i := i) (j := j) (es := es) (by simpa using hi) hj
  simp only [List.flatMap_cons, List.getElem?_cons_succ]
  rw [List.getElem?_append_right (by rw [h1, Nat.add_mul]; omega), h1, show (i + 1) * q + j - q = i * q + j by rw [Nat.add_mul]; omega]
  exact ih
theorem entC_get (x : Nat → Int) : ∀ j, j < 11 → (entL x)[j]? = some (entC x j)
 | 0, _ => rfl | 1, _ => rfl | 2, _ => rfl | 3, _ => rfl | 4, _ => rfl | 5, _ => rfl | 6, _ => rfl | 7, _ => rfl | 8, _ => rfl | 9, _ => rfl | 10, _ => rfl
 | n + 11, h => by omega
theorem entsAt_of {w : World} {v : Value} {es : List (List Int)} (h11 : ∀ e ∈ es, e.length = 11) (hR : Reads w v es.length (es.flatMap (valXs kE))) : EntsAt w v es.length fun i => xE (es[i]?.getD []) := by
 rcases hR with ⟨rfl, h0, _⟩ | ⟨b, off, cap, rfl, hb, hc⟩
 ·exact ⟨none, 0, by rw [h0], fun h => by omega⟩
 ·refine ⟨_, cap, rfl, fun _ => ⟨b, off, rfl, hb, fun i hi j hj => ?_⟩⟩
  have hm : (es[i]?.getD []).length = 11 := by
   rw [List.getElem?_eq_getElem hi, Option.getD_some]; exact h11 _ (List.getElem_mem hi)
  have h1 := flatE_get (g := valXs kE) (q := 11) (es := es) (fun e he => by rw [ent_of_len (h11 e he)]; rfl) hi hj
  rw [ent_of_len hm, entC_get _ j hj] at h1
  rw [Nat.add_assoc]
  exact hc _ _ h1
theorem reads_of_row {w : World} {base t n : Nat} {u : Value} {xs : List Value} {z : Nat} (h : w.ownsRow base t z u n xs) (h0 : n = 0 → xs = []) : Reads w u n xs := by
 rcases h.2 with ⟨h1, h2⟩ | ⟨g, cap, cur, rfl, hb, hg, h3, h4, h5, h6⟩
 ·exact .inl ⟨h1, h2, h0 h2⟩
 ·refine .inr ⟨g, 0, cap, rfl, (Array.getElem?_eq_some_iff.1 hg).1, fun j x hj => ?_⟩
  rw [← h6, List.getElem?_take] at hj
  split at hj
  ·simpa [World.cell?, hg] using hj
  ·cases hj
theorem row_fresh {w : World} {base t n : Nat} {u : Value} {xs : List Value} {z : Nat} (h : w.ownsRow base t z u n xs) : ∀ b, vblock u = some b → base ≤ b := fun b hv => by
 rcases h.2 with ⟨rfl, h2⟩ | ⟨g, cap, cur, rfl, hb, _⟩
 ·cases hv
 ·cases hv; exact hb
theorem All_R (w : World) (hG : Gl gG w) (v : Value) (es : List (List Int)) (hn : es.length ≤ 1000000000) (h11 : ∀ e ∈ es, e.length = 11) (hF : ∀ e ∈ es, (F_table_Run e).length = 4) (hR : Reads w v es.length (es.flatMap (valXs kE))) :
  Calls Tryz.prog 19 #[v] w fun en w' => ∃ u, en = .returned (.tuple #[u, .int .u8 (J (es.map fun e => flE (F_table_Run e)) : Int)]) ∧ Reads w' u es.length (es.flatMap fun e => valXs kO (F_table_Run e)) ∧ Bel w w' ∧ ∀ b, vblock u = some b → w.heap.size ≤ b := by
 have hm : ∀ i, i < es.length → es[i]?.getD [] ∈ es := fun i hi => by rw [List.getElem?_eq_getElem hi, Option.getD_some]; exact List.getElem_mem hi
 have h := All_c w hG v es.length hn (fun i => xE (es[i]?.getD [])) (fun i => oE (F_table_Run (es[i]?.getD []))) (entsAt_of h11 hR)
  (fun i hi => run_to (h11 _ (hm i hi)) (hF _ (hm i hi))) (fun i => flE_le _)
 refine h.mono ?_
 rintro en w' ⟨u, rfl, hrow, hB⟩
 have e1 : outRow (fun i => oE (F_table_Run (es[i]?.getD []))) es.length = es.flatMap fun e => valXs kO (F_table_Run e) := by
  unfold outRow
  rw [flat_get es [] (fun e => outL (oE (F_table_Run e)))]
  have : ∀ e ∈ es, outL (oE (F_table_Run e)) = valXs kO (F_table_Run e) := fun e he => (out_of_len (hF e he)).symm
  clear hR h hrow hn h11 hF hm
  induction es with
  | nil => rfl
  | cons a l ih => rw [List.flatMap_cons, List.flatMap_cons, this a List.mem_cons_self, ih fun e he => this e (List.mem_cons_of_mem _ he)]
 have e2 : stk (fun i => oE (F_table_Run (es[i]?.getD []))) es.length = J (es.map fun e => flE (F_table_Run e)) := by
  unfold stk
  congr 1
  have := congrArg (List.map fun e => flE (F_table_Run e)) (range_get es [])
  rw [List.map_map] at this
  exact this
 rw [e1] at hrow
 rw [e2]
 refine ⟨u, rfl, reads_of_row hrow (fun h0 => ?_), hB, fun b hv => Nat.le_trans (Nat.le_succ _) (row_fresh hrow b hv)⟩
 rw [List.length_eq_zero_iff.1 h0]; rfl
def allGo (R : List Int → List Int) : Nat → List Int → Nat → List Int → List Int
 | 0, _, f, acc => Int.ofNat f :: acc
 | m + 1, l, f, acc => match R (l.take 11) with
  | [a, b, c, d] => forceInt a fun a => forceInt b fun b => forceInt c fun c => forceInt d fun d => forceNat (Nat.lor f ((wrapC .u8 d).toNat % 32)) fun f => allGo R m (l.drop 11) f (acc ++ [a, b, c, d])
  | _ => []
def chunks : Nat → List Int → List (List Int)
 | 0, _ => []
 | m + 1, l => l.take 11 :: chunks m (l.drop 11)
theorem allGo_ok {R : List Int → List Int} : ∀ {m : Nat} {l : List Int} {f : Nat} {acc r : List Int} {x : Int}, allGo R m l f acc = x :: r → (∀ e ∈ chunks m l, (R e).length = 4) ∧ r = acc ++ (chunks m l).flatMap R ∧ x = ((f ||| J ((chunks m l).map fun e => flE (R e)) : Nat) : Int)
 | 0, l, f, acc, r, x, h => by
  simp only [allGo, List.cons.injEq] at h
  obtain ⟨rfl, rfl⟩ := h
  exact ⟨fun e he => (by cases he), by simp [chunks], by simp [chunks, J_nil]⟩
 | m + 1, l, f, acc, r, x, h => by
  simp only [allGo] at h
  split at h
  ·rename_i a b c d hR
   simp only [forceInt_eq, forceNat_eq] at h
   obtain ⟨h1, h2, h3⟩ := allGo_ok h
   refine ⟨fun e he => ?_, ?_, ?_⟩
   ·rcases List.mem_cons.1 he with rfl | he
    ·rw [hR]; rfl
    ·exact h1 e he
   ·rw [h2, chunks, List.flatMap_cons, hR, List.append_assoc]
   ·rw [h3, chunks, List.map_cons, J_cons, hR]
    show ((_ ||| _ % 32 ||| _ : Nat) : Int) = _
    rw [Nat.or_assoc]; rfl
  ·cases h
def FAll (m : Nat) (l : List Int) : List Int := allGo F_table_Run m l 0 []
theorem chunks_len : ∀ (m : Nat) (l : List Int), (chunks m l).length = m
 | 0, _ => rfl
 | m + 1, l => by rw [chunks, List.length_cons, chunks_len m]
theorem chunks_11 : ∀ (m : Nat) (l : List Int), l.length = 11 * m → ∀ e ∈ chunks m l, e.length = 11
 | 0, _, _, e, he => by cases he
 | m + 1, l, h, e, he => by
  rcases List.mem_cons.1 he with rfl | he
  ·rw [List.length_take]; omega
  ·exact chunks_11 m _ (by rw [List.length_drop]; omega) e he
theorem cellsN_chunks : ∀ (m : Nat) (l : List Int), l.length = 11 * m → valXs (cellsN kE m) l = (chunks m l).flatMap (valXs kE)
 | 0, l, h => by
  have : l = [] := List.length_eq_zero_iff.1 (by omega)
  subst this; rfl
 | m + 1, l, h => by
  have hs : cellsN kE (m + 1) = kE ++ cellsN kE m := by unfold cellsN; rw [List.replicate_succ, List.flatten_cons]
  rw [chunks, List.flatMap_cons, hs]
  have e := List.take_append_drop 11 l
  rw [← cellsN_chunks m _ (by rw [List.length_drop]; omega), ← valXs_app _ _ _ _ (by rw [List.length_take]; show min 11 _ = 11; omega), e]
theorem outs_cells : ∀ {rs : List (List Int)}, (∀ r ∈ rs, r.length = 4) → valXs (cellsN kO rs.length) rs.flatten = rs.flatMap (valXs kO)
 | [], _ => rfl
 | r :: rs, h => by
  have hs : cellsN kO (rs.length + 1) = kO ++ cellsN kO rs.length := by unfold cellsN; rw [List.replicate_succ, List.flatten_cons]
  rw [List.length_cons, hs, List.flatten_cons, List.flatMap_cons, ← outs_cells fun r' hr => h r' (List.mem_cons_of_mem _ hr)]
  exact valXs_app _ _ _ _ (h r List.mem_cons_self)
theorem all_ok (id m : Nat) (hm : m ≤ 1000000000) : AllOK Tryz.prog gG ⟨19, id, m, 26, kE, kO⟩ (FAll m) := by
 intro l hl f r hF hr w v hG hR
 have hl' : l.length = 11 * m := by rw [hl, cellsN_len]; show m * 11 = _; omega
 obtain ⟨h1, h2, h3⟩ := allGo_ok hF
 rw [List.nil_append] at h2
 have h11 := chunks_11 m l hl'
 have hcl := chunks_len m l
 rw [cellsN_chunks m l hl'] at hR
 have h := All_R w hG v (chunks m l) (by rw [hcl]; exact hm) h11 h1 (by rw [hcl]; exact hR)
 refine callsX_of_calls Tryz.func19 (by kernel_rfl) (by kernel_rfl) (h.mono ?_)
 rintro en w' ⟨u, rfl, hu, hB, hfr⟩
 have hf : IntKind.u8.wrap f = (J ((chunks m l).map fun e => flE (F_table_Run e)) : Int) := by
  rw [h3, Nat.zero_or]
  have := J_lt ((chunks m l).map fun e => flE (F_table_Run e))
  rw [w8_u]; exact u8_id (by omega) (by omega)
 refine ⟨u, by rw [hf], ?_, hB, hfr⟩
 rw [hcl] at hu
 have h5 := outs_cells (rs := (chunks m l).map F_table_Run) (fun r' hr' => by obtain ⟨e, he, rfl⟩ := List.mem_map.1 hr'; exact h1 e he)
 rw [List.length_map, hcl, List.flatMap_map] at h5
 have h6 : r = ((chunks m l).map F_table_Run).flatten := by rw [h2]; rfl
 rw [h6]
 show Reads w' u m (valXs (cellsN kO m) _)
 rw [h5]
 exact hu
def idA : Nat := 900001
theorem FAll_len (l : List Int) : (FAll 4 l).length ≠ 1 := by
 intro h
 have hx : ∃ x, FAll 4 l = [x] := List.length_eq_one_iff.1 h
 obtain ⟨x, hx⟩ := hx
 obtain ⟨h1, h2, h3⟩ := allGo_ok hx
 have h4 := congrArg List.length h2
 rw [List.nil_append, chunks, List.flatMap_cons, List.length_append, h1 _ (by rw [chunks]; exact List.mem_cons_self)] at h4
 simp at h4
 omega
def TD : List Ent := ⟨idA, ⟨[], [.sc kB]⟩, FAll 4⟩ :: TC
theorem TD_ok : ∀ e ∈ TD, EntC Tryz.prog gG e := List.forall_mem_cons.2 ⟨⟨fun l _ h => absurd h (FAll_len l)⟩, TC_ok⟩
def mE4 : MX := ⟨mEs, [⟨19, idA, 4, 26, kE, kO⟩]⟩
theorem mE4_ok : MXOK (ctxA TD NZ ZZ) mE4 := by
 refine ⟨mEs_ok, fun a ha => ?_⟩
 simp only [mE4, List.mem_cons, List.not_mem_nil, or_false] at ha
 subst ha
 have : (ctxA TD NZ ZZ).Φ idA = FAll 4 := phiA_L (L := TD) (M := NZ) (S := ZZ) (g := idA) (e := ⟨idA, ⟨[], [.sc kB]⟩, FAll 4⟩) rfl rfl rfl
 show AllOK Tryz.prog gG _ ((ctxA TD NZ ZZ).Φ idA)
 rw [this]
 exact all_ok idA 4 (by omega)
end Go.Proofs.YtemomocmfggiaaaGreatDoor
