import Derived.Test.YtemomocmfggiaaaGreatDoorZBU5
import Derived.Test.YtemomocmfggiaaaGreatDoorZCU5
namespace Go.Proofs.YtemomocmfggiaaaGreatDoor
set_option linter.unusedVariables false
set_option linter.unusedSimpArgs false
open Go.RowKit
section
variable {G : Glob} {w : World} {s : Sig}
end
def slAny : List SlC → Nat → Option Ct
 | [], _ => none
 | c :: L, id => match Nat.beq c.id id with | true => some ⟨c.a ++ [.agg c.ks], c.r⟩ | false => slAny L id
theorem slAny_ok : ∀ {L : List SlC} {id : Nat} {c : Ct}, slAny L id = some c → ∃ s ∈ L, s.id = id ∧ c = ⟨s.a ++ [.agg s.ks], s.r⟩
 | [], id, c, h => by cases h
 | s :: L, id, c, h => by
  simp only [slAny] at h
  split at h
  ·rename_i hb
   cases h
   exact ⟨s, List.mem_cons_self, beq_iff.1 hb, rfl⟩
  ·obtain ⟨s', h1, h2⟩ := slAny_ok h
   exact ⟨s', List.mem_cons_of_mem _ h1, h2⟩
def ctAny (C : SCx) : FuncId → Option Ct := fun g => match C.nt g with | some c => some c | none => match C.ct g with | some c => some c | none => slAny (C.sl (g % 1000000)) g
theorem ctAny_len {C : SCx} {E : EqT} (hC : SOKT C E) {f : FuncId} {c : Ct} (h : ctAny C f = some c) {l : List Int} (hl : l.length = (kindsOf c.a).length) : (C.Φ f l).length = (kindsOf c.r).length := by
 unfold ctAny at h
 split at h
 ·rename_i c' hc; cases h; exact hC.nt f c hc l hl
 ·split at h
  ·rename_i c' hc; cases h; exact hC.ct f c hc l hl
  ·obtain ⟨s, h1, rfl, rfl⟩ := slAny_ok h
   exact hC.sl _ s h1 l (by rw [hl]; simp [kindsOf, Sh.kinds])
structure EntN (P : Program) (G : Glob) (e : Ent) : Prop where
 two : natsIn (kindsOf e.ct.r) ≤ 2
 ok : ∀ l : List Int, l.length = (kindsOf e.ct.a).length → (e.F l).length = (kindsOf e.ct.r).length ∧ NPC P G e.g e.ct l (e.F l)
structure EntNC (P : Program) (G : Glob) (e : Ent) : Prop where
 two : natsIn (kindsOf e.ct.r) ≤ 2
 ok : ∀ l : List Int, l.length = (kindsOf e.ct.a).length → (e.F l).length = (kindsOf e.ct.r).length → NPC P G e.g e.ct l (e.F l)
theorem EntN.c {P : Program} {G : Glob} {e : Ent} (h : EntN P G e) : EntNC P G e := ⟨h.two, fun l hl _ => (h.ok l hl).2⟩
theorem checkT_any {C : SCx} {E : EqT} (hC : SOKT C E) {ct : Ct} : ∀ {t : Tr' SV} {l : List Int}, checkT (ctAny C) ct l.length t = true → okF C.Φ ct t l
 | .leaf a, l, h => by
  obtain ⟨xs, hx⟩ := Option.isSome_iff_exists.1 (show (flats ct.r (unres ct.r a)).isSome = true from h)
  exact ⟨a, l, xs, rfl, hx⟩
 | .ite c a b, l, h => by
  have h := andB_eq h; have h2 := andB_eq h.2
  unfold okF
  simp only [evalL]
  cases iNz (c.ev l) with
  | true => exact checkT_any hC h2.1
  | false => exact checkT_any hC h2.2
 | .call f args base m t, l, h => by
  simp only [checkT] at h
  split at h
  ·rename_i c hc
   have h := andB_eq h; have h2 := andB_eq h.2; have h3 := andB_eq h2.2; have h4 := andB_eq h3.2
   have e1 := beq_iff.1 h3.1; have e2 := beq_iff.1 h4.1
   unfold okF
   simp only [evalL, evs_eq]
   have hl := ctAny_len hC hc (l := args.map (X.den (getI l))) (by rw [List.length_map]; exact e1)
   rw [hl, e2]
   simp only [Nat.beq_refl]
   refine checkT_any hC ?_
   rw [List.length_append, hl, ← e2]; exact h4.2
  ·cases h
 | .stuck _, l, h => by cases h
theorem ent_any {C : SCx} {E : EqT} (hC : SOKT C E) (n : Nat) {g : FuncId} {ct : Ct} {t : Tr' SV} (h : execF C n g (uns ct.a (varsAt 0 (kindsOf ct.a))) (kindsOf ct.a).length = t) (hs : checkT (ctAny C) ct (kindsOf ct.a).length t = true) :
  EntOK C.P C.G ⟨g, ct, treeF C.Φ ct t⟩ := fun l hl => ct_of hC.ok h (checkT_scoped hs) l hl (checkT_any hC (by rw [hl]; exact hs))
end Go.Proofs.YtemomocmfggiaaaGreatDoor
namespace Go.Proofs.YtemomocmfggiaaaGreatDoor
set_option linter.unusedVariables false
set_option linter.unusedSimpArgs false
open Go.RowKit
def slKinds (c : SlC) : List VK := kindsOf c.a ++ c.ks
def execFS (C : SCx) (fuel : Nat) (g : FuncId) (c : SlC) : Tr' SV :=
 match C.P.funcs[g]? with
 | none => .stuck "no such function"
 | some fn => match fn.body with
  | none => .stuck "no body"
  | some cd => match Nat.ble (c.a.length + 1) fn.ntmps with
   | true => forceNat (kindsOf c.a).length fun m => forceNat (m + c.ks.length) fun nv => (exec C fuel cd ⟨1, padR (uns c.a (varsAt 0 (kindsOf c.a)) ++ [.sl 0 0 c.n c.n]) fn.ntmps, [(0, ⟨unXs c.ks (varsAt m c.ks), some c.t⟩)], nv, [], []⟩).bind fun r => match memN 0 r.2.dt with
    | true => .stuck "the slice is turned"
    | false => match r.1 with
     | .normal => (match resSX C.P r.2.T r.2.H fn.results.toList with | some rs => .leaf (resS rs) | none => .stuck "results")
     | .ret => (match resSX C.P r.2.T r.2.H fn.results.toList with | some rs => .leaf (resS rs) | none => .stuck "results")
     | _ => .stuck "end"
   | false => .stuck "arguments"
theorem sigL_split (s : Sig) : ∀ (a b k : Nat), sigL s k (a + b) = sigL s k a ++ sigL s (k + a) b
 | 0, b, k => by rw [Nat.zero_add]; rfl
 | a + 1, b, k => by rw [show a + 1 + b = (a + b) + 1 by omega, sigL, sigL_split s a b (k + 1), sigL, show k + 1 + a = k + (a + 1) by omega]; rfl
theorem execFS_spc {C : SCx} {E : EqT} {s : Sig} (hC : SOK C E) {n : Nat} {g : FuncId} {c : SlC} {a : SV} {l : List Int} {v : Value} (h : (execFS C n g c).path C.Φ s = some a) (hl : sigL s 0 (slKinds c).length = l) (hv : a.den s = .v v) :
  ∀ w b, Gl C.G w → (∀ x ∈ C.G, x.1 ≠ b) → w.heap[b]? = some (.cells (valXs c.ks (l.drop (kindsOf c.a).length)).toArray c.t (0, 0)) →
  CallsX C.P g (valsS c.a l ++ [Value.slice (some ⟨b, 0, none⟩) c.n c.n]).toArray w fun e w' => e = .returned v ∧ Bel w w' := by
 intro w b hG hgb hw
 unfold execFS at h
 split at h
 ·cases h
 ·rename_i fn hf
  split at h
  ·cases h
  ·rename_i cd hb
   split at h
   ·rename_i hle
    rw [forceNat_eq, forceNat_eq] at h
    obtain ⟨⟨ex, st⟩, h1, h2⟩ := Tr'.path_bind_some h
    have sp := (exec_ok (E := E) (s := s) hC n).1 _ _ _ _ h1 (fun x hx => by cases hx)
    have hle := Nat.le_of_ble_eq_true hle
    have hk : (slKinds c).length = (kindsOf c.a).length + c.ks.length := by unfold slKinds; rw [List.length_append]
    rw [hk, sigL_split, Nat.zero_add] at hl
    have l1 : (sigL s 0 (kindsOf c.a).length).length = (kindsOf c.a).length := sigL_len _ _ _
    have hd1 : l.drop (kindsOf c.a).length = sigL s (kindsOf c.a).length c.ks.length := by
     rw [← hl, List.drop_append_of_le_length (by omega), List.drop_of_length_le (by omega)]; rfl
    have hd2 : valsS c.a l = valsS c.a (sigL s 0 (kindsOf c.a).length) := by rw [← hl, valsS_append _ _ _ l1]
    rw [hd1] at hw
    rw [hd2]
    obtain ⟨v1, v2⟩ := varsAt_den s (kindsOf c.a) 0
    obtain ⟨u1, u2⟩ := varsAt_den s c.ks (kindsOf c.a).length
    have a1 := uns_ok v1 v2
    have b1 := unXs_ok u1 u2
    have alen : (uns c.a (varsAt 0 (kindsOf c.a))).length = c.a.length := by rw [← dens_len s, a1, List.length_map, valsS_len]
    let e : Env := ⟨fun _ => b, fun _ => undef⟩
    let B : Bas := ⟨[b], [0], e⟩
    let o : SO := ⟨unXs c.ks (varsAt (kindsOf c.a).length c.ks), some c.t⟩
    have hH : ∀ k x, SH.den s [(0, o)] k = some x → k = 0 ∧ x = .own (SV.dens s o.c) c.t := by
     intro k x hx
     unfold SH.den at hx
     simp only [hget] at hx
     split at hx
     ·rename_i hb0
      have := beq_iff.1 hb0
      simp only [Option.map_some, Option.some.injEq] at hx
      exact ⟨this.symm, by rw [← hx]; exact SO.den_own s rfl⟩
     ·cases hx
    have hlt : b < w.heap.size := (Array.getElem?_eq_some_iff.1 hw).1
    have h00 : SH.den s [(0, o)] 0 = some (.own (SV.dens s o.c) c.t) := SH.den_get rfl rfl
    have R : Rep C.G w B e (SH.den s [(0, o)]) w := by
     refine ⟨rfl, rfl, rfl, Nat.le_refl _, fun _ _ _ => rfl, hG, ?_, ?_, ?_, ?_, ?_, ?_, ?_, ?_, ?_, fun k es hk => by have := (hH k _ hk).2; cases this⟩
     ·intro k c' t hk
      obtain ⟨rfl, hx⟩ := hH k _ hk
      simp only [AO.own.injEq] at hx
      rw [hx.1, hx.2, b1, vals_v]; exact hw
     ·intro k c' t hk; exact .inr (by simp [B, e])
     ·intro k c' t hk x hx; exact hgb x hx
     ·intro k c' t k' c'' t' hk hk' _; rw [(hH k _ hk).1, (hH k' _ hk').1]
     ·intro k n' l' hk; have := (hH k _ hk).2; cases this
     ·intro k n' l' _ _ _ hk; have := (hH k _ hk).2; cases this
     ·intro k x hk r hr
      obtain ⟨_, rfl⟩ := hH k x hk
      rw [AO.refs, b1, refss_v] at hr; simp at hr
     ·intro k hk
      have : k = 0 := by simpa [B] using hk
      subst this
      exact ⟨by rw [h00]; simp, rfl, rfl⟩
     ·intro k n' l' hk; have := (hH k _ hk).2; cases this
    have hbound : Bound (SH.den s [(0, o)]) 1 := by
     intro k hk
     cases hx : SH.den s [(0, o)] k with
     | none => rfl
     | some x => have := (hH k x hx).1; omega
    have hlen : (padR (uns c.a (varsAt 0 (kindsOf c.a)) ++ [.sl 0 0 c.n c.n]) fn.ntmps).length = fn.ntmps := padR_len _ _ (by rw [List.length_append, alen]; simpa using hle)
    have hA := sp.aw w B
    simp only [hlen, padR_den] at hA
    have hx : memN 0 st.dt = false ∧ (ex = .normal ∨ ex = .ret) ∧ ∃ rs, resSX C.P st.T st.H fn.results.toList = some rs ∧ resS rs = a := by
     simp only at h2
     split at h2
     ·cases h2
     ·rename_i hdt
      refine ⟨hdt, ?_⟩
      rcases ret_path h2 with ⟨rfl, h3⟩ | ⟨rfl, h3⟩
      ·split at h3
       ·rename_i rs hrs; cases h3; exact ⟨.inl rfl, rs, hrs, rfl⟩
       ·cases h3
      ·split at h3
       ·rename_i rs hrs; cases h3; exact ⟨.inr rfl, rs, hrs, rfl⟩
       ·cases h3
    obtain ⟨hdt, hx, rs, hrs, he⟩ := hx
    refine callsX_of_calls hf (hC.nm g fn hf (by rw [hb]; rfl)) (by rw [hb]; rfl) ?_
    have hcalls := calls_of_aw (E := E) (args := SV.dens s (uns c.a (varsAt 0 (kindsOf c.a)) ++ [.sl 0 0 c.n c.n])) (R := fun r H => H = SH.den s st.H ∧ r = .v v) hf hb (by rw [dens_len, List.length_append, alen]; simpa using hle) R hbound (fun x hx r hr => by
     rw [dens_append, a1] at hx
     rcases List.mem_append.1 hx with hx | hx
     ·obtain ⟨y, _, rfl⟩ := List.mem_map.1 hx; simp [AV.refs] at hr
     ·simp [SV.dens, SV.den] at hx; subst hx
      simp [AV.refs] at hr; subst hr
      rw [h00]; simp) (by
     refine AW.mono (show AW _ cd (ExA s ex st) _ _ _ from hA) ?_
     rintro x N T H ⟨rfl, rfl, rfl, rfl⟩
     have hres := resSX_ok (G := C.G) s hrs
     have hrv : resV (SV.dens s rs) = .v v := by rw [resV_dens, he, hv]
     rcases hx with rfl | rfl
     ·exact ⟨_, hres, rfl, hrv⟩
     ·exact ⟨_, hres, rfl, hrv⟩)
    have hvals : AV.vals e (SV.dens s (uns c.a (varsAt 0 (kindsOf c.a)) ++ [.sl 0 0 c.n c.n])) = valsS c.a (sigL s 0 (kindsOf c.a).length) ++ [Value.slice (some ⟨b, 0, none⟩) c.n c.n] := by
     rw [dens_append, vals_append, a1, vals_v]; rfl
    rw [hvals] at hcalls
    refine hcalls.mono ?_
    rintro en w' ⟨r, e2, H2, rfl, ⟨rfl, rfl⟩, R2⟩
    refine ⟨rfl, R2.os, R2.tape, R2.output, R2.size, fun k hk => ?_⟩
    by_cases hkb : k = b
    ·subst hkb
     have hg : hget st.H 0 = some o := (sp.dt 0 hdt).2.trans rfl
     have hown := R2.own 0 _ _ (SH.den_get hg rfl)
     have henv := (R2.env 0 (by simp [B])).2.1
     have henv : e2.blk 0 = k := henv
     rw [henv, b1, vals_v] at hown
     rw [hown, hw]
    ·exact R2.old k hk (by simpa [B] using hkb)
   ·cases h
structure EntS where
 g : FuncId
 c : SlC
 F : List Int → List Int
structure EntSOK (P : Program) (G : Glob) (e : EntS) : Prop where
 ok : ∀ l : List Int, l.length = (slKinds e.c).length → (e.F l).length = (kindsOf e.c.r).length ∧ SPC P G e.g e.c l (e.F l)
theorem entS_of {C : SCx} {E : EqT} (hC : SOKT C E) (n : Nat) {g : FuncId} {c : SlC} {t : Tr' SV} (h : execFS C n g c = t) (hs : checkT (ctAny C) ⟨c.a, c.r⟩ (slKinds c).length t = true) :
  EntSOK C.P C.G ⟨g, c, treeF C.Φ ⟨c.a, c.r⟩ t⟩ := by
 refine ⟨fun l hl => ?_⟩
 obtain ho := checkT_any hC (ct := ⟨c.a, c.r⟩) (t := t) (l := l) (by rw [hl]; exact hs)
 refine ⟨okF_len ho, ?_⟩
 obtain ⟨a, l', xs, h1, h2⟩ := ho
 obtain ⟨h3, m, rfl⟩ := evalL_path h1 (by rw [hl]; exact checkT_scoped hs)
 rw [← h] at h3
 have hf := flats_ok (getI (l ++ m)) h2
 have hF : treeF C.Φ ⟨c.a, c.r⟩ t l = xs.map (X.den (getI (l ++ m))) := by unfold treeF; simp only [h1, h2, evs_eq, id]
 have hv := unres_den hf.1 (valsS_len _ _)
 have := execFS_spc hC.ok h3 (l := l) (by rw [← hl]; exact sigL_zero l m) hv
 intro w b hG hgb hw
 show CallsX C.P g _ w fun e w' => e = .returned (resVal (valsS c.r (treeF C.Φ ⟨c.a, c.r⟩ t l))) ∧ Bel w w'
 rw [hF]
 exact this w b hG hgb hw
structure EntSC (P : Program) (G : Glob) (e : EntS) : Prop where
 ok : ∀ l : List Int, l.length = (slKinds e.c).length → (e.F l).length = (kindsOf e.c.r).length → SPC P G e.g e.c l (e.F l)
theorem EntSOK.c {P : Program} {G : Glob} {e : EntS} (h : EntSOK P G e) : EntSC P G e := ⟨fun l hl _ => (h.ok l hl).2⟩
end Go.Proofs.YtemomocmfggiaaaGreatDoor
namespace Go.Proofs.YtemomocmfggiaaaGreatDoor
set_option linter.unusedVariables false
set_option linter.unusedSimpArgs false
open Go.RowKit
def eqBits : Value → Value → Option Bool
 | .agg xs, .agg ys => match xs.toList, ys.toList with
  | [.int .u64 a, .int .u64 b], [.int .u64 c, .int .u64 d] => some (a == c && b == d)
  | _, _ => none
 | _, _ => none
def eqWide : Value → Value → Option Bool
 | .agg xs, .agg ys => match xs.toList, ys.toList with
  | [.int .u64 a, .int .u64 b, .int .u64 c, .int .u64 d], [.int .u64 a', .int .u64 b', .int .u64 c', .int .u64 d'] => some (a == a' && (b == b' && (c == c' && d == d')))
  | _, _ => none
 | _, _ => none
def eqRes : Value → Value → Option Bool
 | .agg xs, .agg ys => match xs.toList, ys.toList with
  | [.int .u64 a, .int .u64 b, .int .u8 c], [.int .u64 a', .int .u64 b', .int .u8 c'] => some ((a == a' && b == b') && c == c')
  | _, _ => none
 | _, _ => none
def eqFun : Value → Value → Option Bool
 | .func _ _ _, .nilFunc => some false
 | .nilFunc, .nilFunc => some true
 | _, _ => none
def eqOut : Value → Value → Option Bool
 | .agg xs, .agg ys => match xs.toList, ys.toList with
  | [.int .i64 a, .int .u64 b, .int .u64 c, .int .u8 d], [.int .i64 a', .int .u64 b', .int .u64 c', .int .u8 d'] => some (a == a' && ((b == b' && c == c') && d == d'))
  | _, _ => none
 | _, _ => none
def outT (t : TypeId) : Bool :=
 Nat.beq t 30 ||
  false
def eqAt0 (t : TypeId) (x y : Value) : Option Bool :=
 if t = 24 then eqBits x y else if t = 177 then eqWide x y else if t = 71 then eqRes x y else if t = 36 then eqFun x y else none
def eqAt (t : TypeId) (x y : Value) : Option Bool := match outT t with | true => eqOut x y | false => eqAt0 t x y
def eE : EqT := fun op t x y => match op with
 | .eql => match eqAt t x y with | some b => some (.bool b) | none => none
 | .neq => match eqAt t x y with | some b => some (.bool (!b)) | none => none
 | _ => none
theorem part_int (w : World) {k : IntKind} {e : TypeId} (hu : Tryz.prog.underlying e = some (.int k)) (xs : Array Value) (i : Nat) (v : Value) (h : xs[i]? = some v) : (part e xs i).run Tryz.prog w = .ok v w := by
 simp [part, isAgg, run_underlying hu, h]
theorem fields_bits : (Tryz.prog.fieldsOf 24).toList.map (fun f => (f.name != "_", f.offset, f.type)) = [(true, 0, 22), (true, 1, 22)] := by kernel_rfl
theorem fields_res : (Tryz.prog.fieldsOf 71).toList.map (fun f => (f.name != "_", f.offset, f.type)) = [(true, 0, 24), (true, 2, 28)] := by kernel_rfl
theorem run_bits (w : World) (n : Nat) (a b c d : Int) : (Op.equalIn (n + 2) 24 (.agg #[.int .u64 a, .int .u64 b]) (.agg #[.int .u64 c, .int .u64 d])).run Tryz.prog w = .ok (a == c && b == d) w := by
 have hu : Tryz.prog.underlying 22 = some (.int .u64) := by kernel_rfl
 rw [run_equalIn_struct w (n + 1) _ _ _ (by kernel_rfl) (by kernel_rfl)]
 obtain ⟨f0, f1, hf, h0, h1⟩ : ∃ f0 f1 : Field, (Tryz.prog.fieldsOf 24).toList = [f0, f1] ∧ (f0.name ≠ "_" ∧ f0.offset = 0 ∧ f0.type = 22) ∧ (f1.name ≠ "_" ∧ f1.offset = 1 ∧ f1.type = 22) := by
  have := fields_bits
  match hl : (Tryz.prog.fieldsOf 24).toList with
  | [f0, f1] => rw [hl] at this; simp at this; exact ⟨f0, f1, rfl, ⟨by simpa using this.1.1, this.1.2.1, this.1.2.2⟩, ⟨by simpa using this.2.1, this.2.2.1, this.2.2.2⟩⟩
  | [] => rw [hl] at this; simp at this
  | [_] => rw [hl] at this; simp at this
  | _ :: _ :: _ :: _ => rw [hl] at this; simp at this
 rw [hf]
 have p0 (x y : Value) : (part 22 #[x, y] 0).run Tryz.prog w = .ok x w := part_int w hu _ _ _ rfl
 have p1 (x y : Value) : (part 22 #[x, y] 1).run Tryz.prog w = .ok y w := part_int w hu _ _ _ rfl
 have q (x y : Int) : (Op.equalIn (n + 1) 22 (.int .u64 x) (.int .u64 y)).run Tryz.prog w = .ok (x == y) w := run_equalIn_int w n _ .u64 .u64 x y hu
 simp only [Op.eqFields, h0.1, h0.2.1, h0.2.2, h1.1, h1.2.1, h1.2.2, ne_eq, not_true_eq_false, not_false_eq_true, if_true, Sem.run_bind, p0, p1, q, Result.andThen_ok]
 cases (a == c) <;> cases hbd : (b == d) <;> simp [p1, q, hbd, Op.eqFields]
theorem run_res (w : World) (a b a' b' c c' : Int) : (Op.equalIn 10000 71 (.agg #[.int .u64 a, .int .u64 b, .int .u8 c]) (.agg #[.int .u64 a', .int .u64 b', .int .u8 c'])).run Tryz.prog w = .ok ((a == a' && b == b') && c == c') w := by
 have hu : Tryz.prog.underlying 28 = some (.int .u8) := by kernel_rfl
 rw [run_equalIn_struct w 9999 _ _ _ (by kernel_rfl) (by kernel_rfl)]
 obtain ⟨f0, f1, hf, h0, h1⟩ : ∃ f0 f1 : Field, (Tryz.prog.fieldsOf 71).toList = [f0, f1] ∧ (f0.name ≠ "_" ∧ f0.offset = 0 ∧ f0.type = 24) ∧ (f1.name ≠ "_" ∧ f1.offset = 2 ∧ f1.type = 28) := by
  have := fields_res
  match hl : (Tryz.prog.fieldsOf 71).toList with
  | [f0, f1] => rw [hl] at this; simp at this; exact ⟨f0, f1, rfl, ⟨by simpa using this.1.1, this.1.2.1, this.1.2.2⟩, ⟨by simpa using this.2.1, this.2.2.1, this.2.2.2⟩⟩
  | [] => rw [hl] at this; simp at this
  | [_] => rw [hl] at this; simp at this
  | _ :: _ :: _ :: _ => rw [hl] at this; simp at this
 rw [hf]
 have p0 (x y z : Value) : (part 24 #[x, y, z] 0).run Tryz.prog w = .ok (.agg #[x, y]) w := by
  simp [part, run_isAgg (P := Tryz.prog) (t := 24) (b := true) (by kernel_rfl), run_sizeOf (P := Tryz.prog) (t := 24) (s := 2) (by kernel_rfl)]
 have p1 (x y z : Value) : (part 28 #[x, y, z] 2).run Tryz.prog w = .ok z w := part_int w hu _ _ _ rfl
 have q (x y : Int) : (Op.equalIn 9999 28 (.int .u8 x) (.int .u8 y)).run Tryz.prog w = .ok (x == y) w := run_equalIn_int w 9998 _ .u8 .u8 x y hu
 have qb := run_bits w 9997 a b a' b'
 simp only [Op.eqFields, h0.1, h0.2.1, h0.2.2, h1.1, h1.2.1, h1.2.2, ne_eq, not_true_eq_false, not_false_eq_true, if_true, Sem.run_bind, p0, p1, q, qb, Result.andThen_ok]
 cases (a == a' && b == b') <;> cases hcd : (c == c') <;> simp [p1, q, hcd, Op.eqFields]
theorem run_wide (w : World) (a b c d a' b' c' d' : Int) : (Op.equalIn 10000 177 (.agg #[.int .u64 a, .int .u64 b, .int .u64 c, .int .u64 d]) (.agg #[.int .u64 a', .int .u64 b', .int .u64 c', .int .u64 d'])).run Tryz.prog w = .ok (a == a' && (b == b' && (c == c' && d == d'))) w := by
 have hu : Tryz.prog.underlying 22 = some (.int .u64) := by kernel_rfl
 obtain ⟨i, hi⟩ : ∃ i, Tryz.prog.info? 22 = some i := Option.isSome_iff_exists.1 (by kernel_rfl)
 rw [run_equalIn_array (P := Tryz.prog) (w := w) (d := 9999) (e := 22) (n := 4) _ _ (by kernel_rfl) hi]
 rw [show Tryz.prog.cellsOf 22 = 1 by kernel_rfl, show List.range 4 = [0, 1, 2, 3] by decide]
 have p0 (x0 x1 x2 x3 : Value) : (part 22 #[x0, x1, x2, x3] 0).run Tryz.prog w = .ok x0 w := part_u64 w hu _ _ _ rfl
 have p1 (x0 x1 x2 x3 : Value) : (part 22 #[x0, x1, x2, x3] 1).run Tryz.prog w = .ok x1 w := part_u64 w hu _ _ _ rfl
 have p2 (x0 x1 x2 x3 : Value) : (part 22 #[x0, x1, x2, x3] 2).run Tryz.prog w = .ok x2 w := part_u64 w hu _ _ _ rfl
 have p3 (x0 x1 x2 x3 : Value) : (part 22 #[x0, x1, x2, x3] 3).run Tryz.prog w = .ok x3 w := part_u64 w hu _ _ _ rfl
 have q (x y : Int) : (Op.equalIn 9999 22 (.int .u64 x) (.int .u64 y)).run Tryz.prog w = .ok (x == y) w := run_equalIn_int w 9998 _ .u64 .u64 x y hu
 simp only [Op.eqItems, Sem.run_bind, Nat.mul_one]
 rw [p0, Result.andThen_ok, p0, Result.andThen_ok, q, Result.andThen_ok]
 cases (a == a')
 ·rfl
 rw [if_neg (by decide)]
 simp only [Sem.run_bind]
 rw [p1, Result.andThen_ok, p1, Result.andThen_ok, q, Result.andThen_ok]
 cases (b == b')
 ·rfl
 rw [if_neg (by decide)]
 simp only [Sem.run_bind]
 rw [p2, Result.andThen_ok, p2, Result.andThen_ok, q, Result.andThen_ok]
 cases (c == c')
 ·rfl
 rw [if_neg (by decide)]
 simp only [Sem.run_bind]
 rw [p3, Result.andThen_ok, p3, Result.andThen_ok, q, Result.andThen_ok]
 cases (d == d')
 ·rfl
 rfl
theorem fields_out : (Tryz.prog.fieldsOf 30).toList.map (fun f => (f.name != "_", f.offset, f.type)) = [(true, 0, 27), (true, 1, 24), (true, 3, 28)] := by kernel_rfl
theorem run_out (w : World) (a b c d a' b' c' d' : Int) : (Op.equalIn 10000 30 (.agg #[.int .i64 a, .int .u64 b, .int .u64 c, .int .u8 d]) (.agg #[.int .i64 a', .int .u64 b', .int .u64 c', .int .u8 d'])).run Tryz.prog w = .ok (a == a' && ((b == b' && c == c') && d == d')) w := by
 have hu : Tryz.prog.underlying 28 = some (.int .u8) := by kernel_rfl
 have he : Tryz.prog.underlying 27 = some (.int .i64) := by kernel_rfl
 rw [run_equalIn_struct w 9999 _ _ _ (by kernel_rfl) (by kernel_rfl)]
 obtain ⟨f0, f1, f2, hf, h0, h1, h2⟩ : ∃ f0 f1 f2 : Field, (Tryz.prog.fieldsOf 30).toList = [f0, f1, f2] ∧ (f0.name ≠ "_" ∧ f0.offset = 0 ∧ f0.type = 27) ∧ (f1.name ≠ "_" ∧ f1.offset = 1 ∧ f1.type = 24) ∧ (f2.name ≠ "_" ∧ f2.offset = 3 ∧ f2.type = 28) := by
  have := fields_out
  match hl : (Tryz.prog.fieldsOf 30).toList with
  | [f0, f1, f2] => rw [hl] at this; simp at this; exact ⟨f0, f1, f2, rfl, ⟨by simpa using this.1.1, this.1.2.1, this.1.2.2⟩, ⟨by simpa using this.2.1.1, this.2.1.2.1, this.2.1.2.2⟩, ⟨by simpa using this.2.2.1, this.2.2.2.1, this.2.2.2.2⟩⟩
  | [] => rw [hl] at this; simp at this
  | [_] => rw [hl] at this; simp at this
  | [_, _] => rw [hl] at this; simp at this
  | _ :: _ :: _ :: _ :: _ => rw [hl] at this; simp at this
 rw [hf]
 have p0 (x y z u : Value) : (part 27 #[x, y, z, u] 0).run Tryz.prog w = .ok x w := part_int w he _ _ _ rfl
 have p1 (x y z u : Value) : (part 24 #[x, y, z, u] 1).run Tryz.prog w = .ok (.agg #[y, z]) w := by
  simp [part, run_isAgg (P := Tryz.prog) (t := 24) (b := true) (by kernel_rfl), run_sizeOf (P := Tryz.prog) (t := 24) (s := 2) (by kernel_rfl)]
 have p2 (x y z u : Value) : (part 28 #[x, y, z, u] 3).run Tryz.prog w = .ok u w := part_int w hu _ _ _ rfl
 have q0 (x y : Int) : (Op.equalIn 9999 27 (.int .i64 x) (.int .i64 y)).run Tryz.prog w = .ok (x == y) w := run_equalIn_int w 9998 _ .i64 .i64 x y he
 have q2 (x y : Int) : (Op.equalIn 9999 28 (.int .u8 x) (.int .u8 y)).run Tryz.prog w = .ok (x == y) w := run_equalIn_int w 9998 _ .u8 .u8 x y hu
 have qb := run_bits w 9997 b c b' c'
 simp only [Op.eqFields, h0.1, h0.2.1, h0.2.2, h1.1, h1.2.1, h1.2.2, h2.1, h2.2.1, h2.2.2, ne_eq, not_true_eq_false, not_false_eq_true, if_true, Sem.run_bind, p0, p1, p2, q0, q2, qb, Result.andThen_ok]
 cases hab : (a == a')
 ·simp
 ·cases hbc : (b == b' && c == c') <;> cases hdd : (d == d') <;> simp [p0, p1, p2, q0, q2, qb, hbc, hdd, Op.eqFields]
theorem eqOut_run {t : TypeId} {x y : Value} {b : Bool} (ht : outT t = true) (h : eqOut x y = some b) (w : World) : (∀ op xo yo, (eqGuard op t xo yo x y).run Tryz.prog w = .ok () w) ∧ (binOp .eql t x y).run Tryz.prog w = .ok (.bool b) w ∧ (binOp .neq t x y).run Tryz.prog w = .ok (.bool (!b)) w := by
 have ht2 : t = 30 := by
  unfold outT at ht; rw [Bool.or_false] at ht; exact beq_iff.1 ht
 subst ht2
 have agg : ∀ (xs ys : Array Value), Tryz.prog.eqGuardType Tryz.prog.depth 30 = false → (Op.equalIn 10000 30 (.agg xs) (.agg ys)).run Tryz.prog w = .ok b w →
   (∀ op xo yo, (eqGuard op 30 xo yo (.agg xs) (.agg ys)).run Tryz.prog w = .ok () w) ∧ (binOp .eql 30 (.agg xs) (.agg ys)).run Tryz.prog w = .ok (.bool b) w ∧ (binOp .neq 30 (.agg xs) (.agg ys)).run Tryz.prog w = .ok (.bool (!b)) w := by
  intro xs ys hg he
  refine ⟨fun op xo yo => run_eqGuard_agg w op _ xo yo xs ys hg, ?_, ?_⟩
  ·rw [run_eql_struct, he]; rfl
  ·rw [run_neq_struct, he]; rfl
 have lst : ∀ {xs : Array Value} {l : List Value}, xs.toList = l → xs = l.toArray := fun h => by rw [← h]
 unfold eqOut at h
 split at h
 ·split at h
  ·rename_i h1 h2
   cases h
   rw [lst h1, lst h2]
   exact agg _ _ (by kernel_rfl) (run_out w _ _ _ _ _ _ _ _)
  ·cases h
 ·cases h
theorem eqAt0_run {t : TypeId} {x y : Value} {b : Bool} (h : eqAt0 t x y = some b) (w : World) : (∀ op xo yo, (eqGuard op t xo yo x y).run Tryz.prog w = .ok () w) ∧ (binOp .eql t x y).run Tryz.prog w = .ok (.bool b) w ∧ (binOp .neq t x y).run Tryz.prog w = .ok (.bool (!b)) w := by
 have agg : ∀ (xs ys : Array Value), Tryz.prog.eqGuardType Tryz.prog.depth t = false → (Op.equalIn 10000 t (.agg xs) (.agg ys)).run Tryz.prog w = .ok b w →
   (∀ op xo yo, (eqGuard op t xo yo (.agg xs) (.agg ys)).run Tryz.prog w = .ok () w) ∧ (binOp .eql t (.agg xs) (.agg ys)).run Tryz.prog w = .ok (.bool b) w ∧ (binOp .neq t (.agg xs) (.agg ys)).run Tryz.prog w = .ok (.bool (!b)) w := by
  intro xs ys hg he
  refine ⟨fun op xo yo => run_eqGuard_agg w op t xo yo xs ys hg, ?_, ?_⟩
  ·rw [run_eql_struct, he]; rfl
  ·rw [run_neq_struct, he]; rfl
 have lst : ∀ {xs : Array Value} {l : List Value}, xs.toList = l → xs = l.toArray := fun h => by rw [← h]
 unfold eqAt0 at h
 split at h
 ·rename_i ht; subst ht
  unfold eqBits at h
  split at h
  ·split at h
   ·rename_i h1 h2
    cases h
    rw [lst h1, lst h2]
    exact agg _ _ (by kernel_rfl) (run_bits w 9998 _ _ _ _)
   ·cases h
  ·cases h
 ·split at h
  ·rename_i ht; subst ht
   unfold eqWide at h
   split at h
   ·split at h
    ·rename_i h1 h2
     cases h
     rw [lst h1, lst h2]
     exact agg _ _ (by kernel_rfl) (run_wide w _ _ _ _ _ _ _ _)
    ·cases h
   ·cases h
  ·split at h
   ·rename_i ht; subst ht
    unfold eqRes at h
    split at h
    ·split at h
     ·rename_i h1 h2
      cases h
      rw [lst h1, lst h2]
      exact agg _ _ (by kernel_rfl) (run_res w _ _ _ _ _ _)
     ·cases h
    ·cases h
   ·split at h
    ·rename_i ht; subst ht
     have hu := Tryz.underlying36
     unfold eqFun at h
     split at h
     ·cases h
      refine ⟨fun op xo yo => by cases op <;> rfl, ?_, ?_⟩
      ·simp only [binOp]; simp [Op.equal, Op.maxDepth]
       show ((Op.equalIn (9999 + 1) _ _ _).run _ w).andThen _ = _
       rw [Op.equalIn]; simp [run_underlying hu]
      ·simp only [binOp]; simp [Op.equal, Op.maxDepth]
       show ((Op.equalIn (9999 + 1) _ _ _).run _ w).andThen _ = _
       rw [Op.equalIn]; simp [run_underlying hu]
     ·cases h
      refine ⟨fun op xo yo => by cases op <;> rfl, ?_, ?_⟩
      ·simp only [binOp]; simp [Op.equal, Op.maxDepth]
       show ((Op.equalIn (9999 + 1) _ _ _).run _ w).andThen _ = _
       rw [Op.equalIn]; simp [run_underlying hu]
      ·simp only [binOp]; simp [Op.equal, Op.maxDepth]
       show ((Op.equalIn (9999 + 1) _ _ _).run _ w).andThen _ = _
       rw [Op.equalIn]; simp [run_underlying hu]
     ·cases h
    ·cases h
theorem eqAt_run {t : TypeId} {x y : Value} {b : Bool} (h : eqAt t x y = some b) (w : World) : (∀ op xo yo, (eqGuard op t xo yo x y).run Tryz.prog w = .ok () w) ∧ (binOp .eql t x y).run Tryz.prog w = .ok (.bool b) w ∧ (binOp .neq t x y).run Tryz.prog w = .ok (.bool (!b)) w := by
 unfold eqAt at h
 split at h
 ·rename_i ht; exact eqOut_run ht h w
 ·exact eqAt0_run h w
theorem eqAt_0 {t : TypeId} (ho : outT t = false) (x y : Value) : eqAt t x y = eqAt0 t x y := by unfold eqAt; rw [ho]
theorem eqAt_1 {t : TypeId} (ho : outT t = true) (x y : Value) : eqAt t x y = eqOut x y := by unfold eqAt; rw [ho]
theorem eOK : EqOK Tryz.prog eE := by
 intro op t x y v h xo yo w
 unfold eE at h
 split at h
 ·split at h
  ·rename_i b hb
   cases h
   obtain ⟨h1, h2, h3⟩ := eqAt_run hb w
   simp only [Sem.run_bind, h1, h2, Result.andThen_ok]
  ·cases h
 ·split at h
  ·rename_i b hb
   cases h
   obtain ⟨h1, h2, h3⟩ := eqAt_run hb w
   simp only [Sem.run_bind, h1, h3, Result.andThen_ok]
  ·cases h
 ·cases h
def seqK : List IntKind → List SV → List SV → Option X
 | [], [], [] => some (.lit (.ofNat 1))
 | k :: ks, .int k1 a :: l, .int k2 b :: m => match kEq k k1, kEq k k2, seqK ks l m with
  | true, true, some r => some (mkAnd (mkBin .eql k a b) r)
  | _, _, _ => none
 | _, _, _ => none
def ivals : List IntKind → List Int → List Value
 | k :: ks, n :: ns => .int k n :: ivals ks ns
 | _, _ => []
def eqAll : List Int → List Int → Bool
 | a :: us, b :: zs => a == b && eqAll us zs
 | _, _ => true
theorem seqK_ok (s : Sig) : ∀ {ks : List IntKind} {l m : List SV} {r : X}, seqK ks l m = some r → ∃ us zs : List Int, SV.dens s l = (ivals ks us).map .v ∧ SV.dens s m = (ivals ks zs).map .v ∧ us.length = ks.length ∧ zs.length = ks.length ∧ (r.den s != 0) = eqAll us zs
 | [], [], [], r, h => by cases h; exact ⟨[], [], rfl, rfl, rfl, rfl, rfl⟩
 | k :: ks, .int k1 a :: l, .int k2 b :: m, r, h => by
  simp only [seqK] at h
  split at h
  ·rename_i q h1 h2 h3
   cases h
   have h1 := kEq_eq h1; have h2 := kEq_eq h2; subst h1; subst h2
   obtain ⟨us, zs, e1, e2, e3, e4, e5⟩ := seqK_ok s h3
   refine ⟨a.den s :: us, b.den s :: zs, ?_, ?_, by simp [e3], by simp [e4], ?_⟩
   ·rw [SV.dens, e1]; rfl
   ·rw [SV.dens, e2]; rfl
   ·rw [mkAnd_den, b2i_ne, mkBin_den, e5]
    simp only [iOp, b2i_ne, eqAll]
  ·cases h
 | [], [], _ :: _, r, h => by simp [seqK] at h
 | [], _ :: _, _, r, h => by simp [seqK] at h
 | _ :: _, [], _, r, h => by simp [seqK] at h
 | _ :: _, .int _ _ :: _, [], r, h => by simp [seqK] at h
 | _ :: _, .int _ _ :: _, .v _ :: _, r, h => by simp [seqK] at h
 | _ :: _, .int _ _ :: _, .bool _ :: _, r, h => by simp [seqK] at h
 | _ :: _, .int _ _ :: _, .loc _ _ :: _, r, h => by simp [seqK] at h
 | _ :: _, .int _ _ :: _, .sl _ _ _ _ :: _, r, h => by simp [seqK] at h
 | _ :: _, .int _ _ :: _, .fn _ _ _ :: _, r, h => by simp [seqK] at h
 | _ :: _, .int _ _ :: _, .tup _ :: _, r, h => by simp [seqK] at h
 | _ :: _, .int _ _ :: _, .agg _ :: _, r, h => by simp [seqK] at h
 | _ :: _, .v _ :: _, _, r, h => by simp [seqK] at h
 | _ :: _, .bool _ :: _, _, r, h => by simp [seqK] at h
 | _ :: _, .loc _ _ :: _, _, r, h => by simp [seqK] at h
 | _ :: _, .sl _ _ _ _ :: _, _, r, h => by simp [seqK] at h
 | _ :: _, .fn _ _ _ :: _, _, r, h => by simp [seqK] at h
 | _ :: _, .tup _ :: _, _, r, h => by simp [seqK] at h
 | _ :: _, .agg _ :: _, _, r, h => by simp [seqK] at h
def aggL : SV → Option (List SV)
 | .agg l => some l
 | .v (.agg cs) => some (cs.toList.map ofV)
 | _ => none
theorem aggL_ok {s : Sig} {x : SV} {l : List SV} {vs : List Value} (h : aggL x = some l) (hd : SV.dens s l = vs.map .v) : x.den s = .v (.agg vs.toArray) := by
 unfold aggL at h
 split at h
 ·cases h; simp only [SV.den, hd, mkAgg_v]
 ·rename_i cs
  cases h
  rw [dens_ofV] at hd
  have := congrArg allV hd
  rw [allV_v, allV_v] at this
  have := Option.some.inj this
  simp only [SV.den, ← this]
 ·cases h
def funS : SV → Option (Option Value)
 | .v .nilFunc => some none
 | .v (.func f a c) => some (some (.func f a c))
 | .fn f [] [] => some (some (.func f #[] #[]))
 | _ => none
def kindsE (t : TypeId) : Option (List IntKind) := match outT t with
 | true => some [.i64, .u64, .u64, .u8]
 | false => match Nat.beq t 24 with
 | true => some [.u64, .u64]
 | false => match Nat.beq t 177 with
  | true => some [.u64, .u64, .u64, .u64]
  | false => match Nat.beq t 71 with
   | true => some [.u64, .u64, .u8]
   | false => none
def seT : SEq := fun t x y => match kindsE t with
 | some ks => match aggL x, aggL y with
  | some l, some m => seqK ks l m
  | _, _ => none
 | none => match Nat.beq t 36 with
  | true => match funS x, funS y with
   | some (some _), some none => some (.lit (.ofNat 0))
   | some none, some none => some (.lit (.ofNat 1))
   | _, _ => none
  | false => none
theorem seT_ok : SEqOK Tryz.prog seT eE := by
 intro t x y r s h
 unfold seT at h
 have pb : ∀ (u v : List Value) op, pBin Tryz.prog op t (.agg u.toArray) (.agg v.toArray) = none := fun u v op => rfl
 have fin : ∀ (a b : Value) (q : Bool), pBin Tryz.prog .eql t a b = none → pBin Tryz.prog .neq t a b = none → eqAt t a b = some q → x.den s = .v a → y.den s = .v b → (r.den s != 0) = q →
   ∃ a b, x.den s = .v a ∧ y.den s = .v b ∧ pBin Tryz.prog .eql t a b = none ∧ pBin Tryz.prog .neq t a b = none ∧ eE .eql t a b = some (.bool (r.den s != 0)) ∧ eE .neq t a b = some (.bool (!(r.den s != 0))) := fun a b q h1 h2 h3 h4 h5 h6 =>
  ⟨a, b, h4, h5, h1, h2, by simp only [eE, h3, h6], by simp only [eE, h3, h6]⟩
 split at h
 ·rename_i ks hk
  split at h
  ·rename_i l m hl hm
   obtain ⟨us, zs, e1, e2, e3, e4, e5⟩ := seqK_ok s h
   have hx := aggL_ok hl e1
   have hy := aggL_ok hm e2
   refine fin _ _ (eqAll us zs) (pb _ _ _) (pb _ _ _) ?_ hx hy e5
   unfold kindsE at hk
   split at hk
   ·rename_i ho
    cases hk
    match us, zs, e3, e4 with
    | [a, b, c, d], [a', b', c', d'], _, _ =>
     rw [eqAt_1 ho]
     simp only [eqOut, ivals, eqAll, Bool.and_true, Bool.and_assoc]
   rename_i ho
   split at hk
   ·rename_i ht
    cases hk
    have ht := beq_iff.1 ht
    match us, zs, e3, e4 with
    | [a, b], [c, d], _, _ =>
     rw [eqAt_0 ho]
     unfold eqAt0
     rw [if_pos ht]
     simp only [eqBits, ivals, eqAll, Bool.and_true]
   ·rename_i ht0
    split at hk
    ·rename_i ht
     cases hk
     have ht := beq_iff.1 ht
     match us, zs, e3, e4 with
     | [a, b, c, d], [a', b', c', d'], _, _ =>
      rw [eqAt_0 ho]
      unfold eqAt0
      rw [if_neg (fun e => by rw [e] at ht0; simp at ht0), if_pos ht]
      simp only [eqWide, ivals, eqAll, Bool.and_true]
    ·rename_i ht1
     split at hk
     ·rename_i ht
      cases hk
      have ht := beq_iff.1 ht
      match us, zs, e3, e4 with
      | [a, b, c], [a', b', c'], _, _ =>
       rw [eqAt_0 ho]
       unfold eqAt0
       rw [if_neg (fun e => by rw [e] at ht0; simp at ht0), if_neg (fun e => by rw [e] at ht1; simp at ht1), if_pos ht]
       simp only [eqRes, ivals, eqAll, Bool.and_true, Bool.and_assoc]
     ·cases hk
  ·cases h
 ·split at h
  ·rename_i hk ht
   have ht := beq_iff.1 ht
   have hf : ∀ {z : SV} {o : Option Value}, funS z = some o → z.den s = .v (match o with | none => .nilFunc | some v => v) ∧ ∀ v, o = some v → ∃ f a c, v = .func f a c := fun {z} {o} hz => by
    unfold funS at hz
    split at hz
    ·cases hz; exact ⟨rfl, fun v hv => by cases hv⟩
    ·cases hz; exact ⟨rfl, fun v hv => by cases hv; exact ⟨_, _, _, rfl⟩⟩
    ·cases hz; exact ⟨rfl, fun v hv => by cases hv; exact ⟨_, _, _, rfl⟩⟩
    ·cases hz
   have hne : t ≠ 24 ∧ t ≠ 177 ∧ t ≠ 71 := by rw [ht]; decide
   have ho : outT t = false := by rw [ht]; rfl
   have at' : ∀ a b, eqAt t a b = eqFun a b := fun a b => by
    rw [eqAt_0 ho]; unfold eqAt0; rw [if_neg hne.1, if_neg hne.2.1, if_neg hne.2.2, if_pos ht]
   split at h
   ·rename_i v h1 h2
    cases h
    obtain ⟨hx, hv⟩ := hf h1
    obtain ⟨hy, _⟩ := hf h2
    obtain ⟨f, a, c, rfl⟩ := hv v rfl
    exact fin _ _ false rfl rfl (by rw [at']; rfl) hx hy rfl
   ·rename_i h1 h2
    cases h
    obtain ⟨hx, _⟩ := hf h1
    obtain ⟨hy, _⟩ := hf h2
    exact fin _ _ true rfl rfl (by rw [at']; rfl) hx hy rfl
   ·cases h
  ·cases h
end Go.Proofs.YtemomocmfggiaaaGreatDoor
namespace Go.Proofs.YtemomocmfggiaaaGreatDoor
set_option linter.unusedVariables false
set_option linter.unusedSimpArgs false
open Go.RowKit
noncomputable def cE : SCx := ⟨Tryz.prog, gG, seT, fun _ => none, fun _ _ => [], fun _ => none, fun _ => []⟩
theorem names_ok : (Tryz.prog.funcs.toList.all fun fn => fn.body.isNone || !(fn.name == "runtime.NumGoroutine")) = true := by kernel_rfl
theorem cE_ok : SOK cE eE := by
 refine ⟨seT_ok, eOK, by kernel_rfl, ?_, fun g ct h => (by cases h), fun g ct h => (by cases h), fun g c h => (by cases h)⟩
 intro g fn hf hb
 have h := List.all_eq_true.1 names_ok fn (Array.mem_toList_iff.2 (Array.mem_of_getElem? hf))
 rw [Bool.or_eq_true] at h
 rcases h with h | h
 ·rw [Option.isNone_iff_eq_none] at h; rw [h] at hb; cases hb
 ·simpa using h
abbrev kU : VK := .int .u64
abbrev kI : VK := .int .i64
abbrev kB : VK := .int .u8
abbrev sWide : Sh := .agg [kU, kU, kU, kU]
def u64 (n : Int) : Int := wrapC .u64 n
theorem u64_U (n : Int) : U64 (u64 n) := by
 unfold u64; rw [wrapC_eq]
 show 0 ≤ _ ∧ _ < (18446744073709551616 : Int)
 unfold IntKind.wrap IntKind.bits IntKind.signed; simp; omega
theorem u64_id {n : Int} (h : U64 n) : IntKind.u64.wrap n = n := by
 have h1 := h.1; have h2 : n < 18446744073709551616 := h.2
 unfold IntKind.wrap IntKind.bits IntKind.signed; simp; omega
def bitN (n : Int) : Int := b2i (iNz n)
theorem bitN_c (n : Int) : 0 ≤ bitN n ∧ bitN n ≤ 1 := by unfold bitN; cases iNz n <;> decide
theorem bit_id {n : Int} (h : 0 ≤ n ∧ n ≤ 1) : b2i (n != 0) = n := by
 rcases (show n = 0 ∨ n = 1 by omega) with rfl | rfl <;> rfl
theorem valX_u64 (n : Int) : valX kU n = .int .u64 (u64 n) := by simp only [valX, u64, wrapC_eq]
theorem valX_bit (n : Int) : valX .bit n = .int .u64 (bitN n) := by simp only [valX, bitN, iNz_eq]
theorem pc_extern {g : FuncId} {vs : List Value} {v : Value} (h : ∀ w, (callFunc g vs.toArray).run Tryz.prog w = .ok (.value v) w) : PC Tryz.prog gG g vs v := fun w _ => by
 unfold CallsX; rw [h w]; exact ⟨rfl, Bel.refl w⟩
theorem three {α : Type} {l : List α} (h : l.length = 3) : ∃ a b c, l = [a, b, c] := by match l, h with | [a, b, c], _ => exact ⟨a, b, c, rfl⟩
theorem two {α : Type} {l : List α} (h : l.length = 2) : ∃ a b, l = [a, b] := by match l, h with | [a, b], _ => exact ⟨a, b, rfl⟩
theorem one' {α : Type} {l : List α} (h : l.length = 1) : ∃ a, l = [a] := by match l, h with | [a], _ => exact ⟨a, rfl⟩
theorem four {α : Type} {l : List α} (h : l.length = 4) : ∃ a b c d, l = [a, b, c, d] := by match l, h with | [a, b, c, d], _ => exact ⟨a, b, c, d, rfl⟩
theorem eight {α : Type} {l : List α} (h : l.length = 8) : ∃ a b c d e f g i, l = [a, b, c, d, e, f, g, i] := by match l, h with | [a, b, c, d, e, f, g, i], _ => exact ⟨a, b, c, d, e, f, g, i, rfl⟩
def fAdd64 (l : List Int) : List Int := [addw (u64 (getI l 0)) (u64 (getI l 1)) (bitN (getI l 2)), addc (u64 (getI l 0)) (u64 (getI l 1)) (bitN (getI l 2))]
def fSub64 (l : List Int) : List Int := [subw (u64 (getI l 0)) (u64 (getI l 1)) (bitN (getI l 2)), subc (u64 (getI l 0)) (u64 (getI l 1)) (bitN (getI l 2))]
def fMul64 (l : List Int) : List Int := [u64 (getI l 0) * u64 (getI l 1) / (W64 : Int), u64 (getI l 0) * u64 (getI l 1) % (W64 : Int)]
def fLen64 (l : List Int) : List Int := [(Lib.bitLen (u64 (getI l 0)).toNat : Int)]
theorem addw_U (x y c : Int) : U64 (addw x y c) := by
 unfold addw; exact ⟨Int.emod_nonneg _ (by decide), Int.emod_lt_of_pos _ (by decide)⟩
theorem subw_U (x y c : Int) : U64 (subw x y c) := by
 unfold subw; exact ⟨Int.emod_nonneg _ (by decide), Int.emod_lt_of_pos _ (by decide)⟩
theorem addc_bit {x y c : Int} (hx : U64 x) (hy : U64 y) (hc : 0 ≤ c ∧ c ≤ 1) : 0 ≤ addc x y c ∧ addc x y c ≤ 1 := by
 have h1 := hx.1; have h2 : x < 18446744073709551616 := hx.2; have h3 := hy.1; have h4 : y < 18446744073709551616 := hy.2
 unfold addc
 show 0 ≤ (x + y + c) / 18446744073709551616 ∧ (x + y + c) / 18446744073709551616 ≤ 1
 omega
theorem subc_bit (x y c : Int) : 0 ≤ subc x y c ∧ subc x y c ≤ 1 := by unfold subc; split <;> decide
set_option maxRecDepth 100000 in
theorem ent_Add64 : EntOK Tryz.prog gG ⟨225, ⟨[.sc kU, .sc kU, .sc .bit], [.sc kU, .sc .bit]⟩, fAdd64⟩ := by
 intro l hl
 obtain ⟨a, b, c, rfl⟩ := three hl
 refine ⟨rfl, ?_⟩
 have h := pc_extern (g := 225) (vs := [_, _, _]) (add64_run (u64 a) (u64 b) (bitN c) (u64_U a) (u64_U b) (bitN_c c))
 have e1 := u64_id (addw_U (u64 a) (u64 b) (bitN c))
 have e2 := bit_id (addc_bit (u64_U a) (u64_U b) (bitN_c c))
 simp only [valsS, val1, Sh.kinds, List.drop_succ_cons, List.drop_zero, List.length_cons, List.length_nil, valX_u64, valX_bit, fAdd64, getI, resVal]
 have e3 : u64 (addw (u64 a) (u64 b) (bitN c)) = addw (u64 a) (u64 b) (bitN c) := by conv => { lhs; unfold u64 }; rw [wrapC_eq]; exact e1
 have e4 : bitN (addc (u64 a) (u64 b) (bitN c)) = addc (u64 a) (u64 b) (bitN c) := by conv => { lhs; unfold bitN }; rw [iNz_eq]; exact e2
 rw [e3, e4]; exact h
set_option maxRecDepth 100000 in
theorem ent_Sub64 : EntOK Tryz.prog gG ⟨226, ⟨[.sc kU, .sc kU, .sc .bit], [.sc kU, .sc .bit]⟩, fSub64⟩ := by
 intro l hl
 obtain ⟨a, b, c, rfl⟩ := three hl
 refine ⟨rfl, ?_⟩
 have h := pc_extern (g := 226) (vs := [_, _, _]) (sub64_run (u64 a) (u64 b) (bitN c) (u64_U a) (u64_U b) (bitN_c c))
 have e1 := u64_id (subw_U (u64 a) (u64 b) (bitN c))
 have e2 := bit_id (subc_bit (u64 a) (u64 b) (bitN c))
 simp only [valsS, val1, Sh.kinds, List.drop_succ_cons, List.drop_zero, List.length_cons, List.length_nil, valX_u64, valX_bit, fSub64, getI, resVal]
 have e3 : u64 (subw (u64 a) (u64 b) (bitN c)) = subw (u64 a) (u64 b) (bitN c) := by conv => { lhs; unfold u64 }; rw [wrapC_eq]; exact e1
 have e4 : bitN (subc (u64 a) (u64 b) (bitN c)) = subc (u64 a) (u64 b) (bitN c) := by conv => { lhs; unfold bitN }; rw [iNz_eq]; exact e2
 rw [e3, e4]; exact h
theorem u64_idem {n : Int} (h : U64 n) : u64 n = n := by unfold u64; rw [wrapC_eq]; exact u64_id h
theorem mulhi_U {x y : Int} (hx : U64 x) (hy : U64 y) : U64 (x * y / (W64 : Int)) := by
 obtain ⟨a, rfl, ha⟩ := hx.nat
 obtain ⟨b, rfl, hb⟩ := hy.nat
 rw [(mul_words ha hb).1]; exact wd_u64 _ _
set_option maxRecDepth 100000 in
theorem ent_Mul64 : EntOK Tryz.prog gG ⟨268, ⟨[.sc kU, .sc kU], [.sc kU, .sc kU]⟩, fMul64⟩ := by
 intro l hl
 obtain ⟨a, b, rfl⟩ := two hl
 refine ⟨rfl, ?_⟩
 have h : PC Tryz.prog gG 268 [.int .u64 (u64 a), .int .u64 (u64 b)] (.tuple #[.int .u64 (u64 a * u64 b / (W64 : Int)), .int .u64 (u64 a * u64 b % (W64 : Int))]) :=
  pc_of_calls Tryz.func268 (by kernel_rfl) (by kernel_rfl) fun w => (mul64_c (u64 a) (u64 b) w (u64_U a) (u64_U b)).mono fun e w' ⟨h1, h2⟩ => ⟨h1, by rw [← h2]; exact Bel.refl w⟩
 simp only [valsS, val1, Sh.kinds, List.drop_succ_cons, List.drop_zero, List.length_cons, List.length_nil, valX_u64, fMul64, getI, resVal]
 rw [u64_idem (mulhi_U (u64_U a) (u64_U b)), u64_idem (n := u64 a * u64 b % (W64 : Int)) ⟨Int.emod_nonneg _ (by decide), Int.emod_lt_of_pos _ (by decide)⟩]
 exact h
theorem bitLen_le (n : Nat) (h : n < W64) : Lib.bitLen n ≤ 64 := by
  unfold Lib.bitLen
  have key : ∀ f x, Lib.bitLenAux f x ≤ f := by
    intro f
    induction f with
    | zero => intro x; exact Nat.le_refl _
    | succ f ih => intro x; unfold Lib.bitLenAux; split
                   · omega
                   · have := ih (x / 2); omega
  exact key _ _
set_option maxRecDepth 100000 in
theorem ent_Len64 : EntOK Tryz.prog gG ⟨273, ⟨[.sc kU], [.sc kI]⟩, fLen64⟩ := by
 intro l hl
 obtain ⟨a, rfl⟩ := one' hl
 refine ⟨rfl, ?_⟩
 have h : PC Tryz.prog gG 273 [.int .u64 (u64 a)] (.int .i64 (Lib.bitLen (u64 a).toNat : Int)) :=
  pc_of_calls Tryz.func273 (by kernel_rfl) (by kernel_rfl) fun w => (len64_c (u64 a) w (u64_U a)).mono fun e w' ⟨h1, h2⟩ => ⟨h1, by rw [← h2]; exact Bel.refl w⟩
 have hb := bitLen_le (u64 a).toNat (by have h1 := (u64_U a).1; have h2 := (u64_U a).2; omega)
 simp only [valsS, val1, valX_u64, fLen64, getI, resVal]
 have e : valX kI (Lib.bitLen (u64 a).toNat : Int) = .int .i64 (Lib.bitLen (u64 a).toNat : Int) := by
  simp only [valX]
  rw [wrap_i64 (by omega)]
 rw [e]; exact h
def fNext (l : List Int) : List Int := [b2i (nextB (wrapC .u8 (getI l 0)) (iNz (getI l 1)) (iNz (getI l 2)) (wrapC .u8 (getI l 3)))]
set_option maxRecDepth 100000 in
theorem ent_Next : EntOK Tryz.prog gG ⟨251, ⟨[.sc kB, .sc .bool, .sc .bool, .sc kB], [.sc .bool]⟩, fNext⟩ := by
 intro l hl
 obtain ⟨a, b, c, d, rfl⟩ := four hl
 refine ⟨rfl, ?_⟩
 have h : PC Tryz.prog gG 251 [.int .u8 (wrapC .u8 a), .bool (iNz b), .bool (iNz c), .int .u8 (wrapC .u8 d)] (.bool (nextB (wrapC .u8 a) (iNz b) (iNz c) (wrapC .u8 d))) :=
  pc_of_calls Tryz.func251 (by kernel_rfl) (by kernel_rfl) fun w => next_c _ _ _ _ w
 simp only [valsS, val1, Sh.kinds, List.drop_succ_cons, List.drop_zero, List.length_cons, List.length_nil, valX, fNext, getI, resVal, b2i_ne, ← wrapC_eq, ← iNz_eq]
 simp only [iNz_eq, b2i_ne] at h ⊢
 exact h
def w4 (l : List Int) (i : Nat) : Nat := (u64 (getI l i)).toNat + W64 * ((u64 (getI l (i + 1))).toNat + W64 * ((u64 (getI l (i + 2))).toNat + W64 * (u64 (getI l (i + 3))).toNat))
theorem u64_nat (n : Int) : ((u64 n).toNat : Int) = u64 n ∧ (u64 n).toNat < W64 := by
 have h := u64_U n
 exact ⟨Int.toNat_of_nonneg h.1, by have := h.2; have := h.1; omega⟩
theorem words4 (a b c d : Nat) (ha : a < W64) (hb : b < W64) (hc : c < W64) (hd : d < W64) : wd (a + W64 * (b + W64 * (c + W64 * d))) 0 = a ∧ wd (a + W64 * (b + W64 * (c + W64 * d))) 1 = b ∧ wd (a + W64 * (b + W64 * (c + W64 * d))) 2 = c ∧
  wd (a + W64 * (b + W64 * (c + W64 * d))) 3 = d ∧ a + W64 * (b + W64 * (c + W64 * d)) < W256 := by
 have hW : W64 = 18446744073709551616 := rfl
 unfold wd W256 W128
 rw [Nat.pow_zero, Nat.pow_one, show W64 ^ 2 = W64 * W64 by rw [Nat.pow_two], show W64 ^ 3 = W64 * (W64 * W64) by rw [Nat.pow_succ, Nat.pow_two, Nat.mul_comm]]
 have d1 : (a + W64 * (b + W64 * (c + W64 * d))) / W64 = b + W64 * (c + W64 * d) := by rw [Nat.add_mul_div_left _ _ W64_pos, Nat.div_eq_of_lt ha, Nat.zero_add]
 have d2 : (b + W64 * (c + W64 * d)) / W64 = c + W64 * d := by rw [Nat.add_mul_div_left _ _ W64_pos, Nat.div_eq_of_lt hb, Nat.zero_add]
 have d3 : (c + W64 * d) / W64 = d := by rw [Nat.add_mul_div_left _ _ W64_pos, Nat.div_eq_of_lt hc, Nat.zero_add]
 rw [← Nat.div_div_eq_div_mul, ← Nat.div_div_eq_div_mul, ← Nat.div_div_eq_div_mul, d1, d2, d3, Nat.div_one]
 refine ⟨?_, ?_, ?_, ?_, ?_⟩
 ·rw [Nat.add_mul_mod_self_left, Nat.mod_eq_of_lt ha]
 ·rw [Nat.add_mul_mod_self_left, Nat.mod_eq_of_lt hb]
 ·rw [Nat.add_mul_mod_self_left, Nat.mod_eq_of_lt hc]
 ·rw [Nat.mod_eq_of_lt hd]
 ·have ha' : a < 18446744073709551616 := ha
  have hb' : b < 18446744073709551616 := hb
  have hc' : c < 18446744073709551616 := hc
  have hd' : d < 18446744073709551616 := hd
  clear d1 d2 d3 ha hb hc hd hW
  show a + 18446744073709551616 * (b + 18446744073709551616 * (c + 18446744073709551616 * d)) < 115792089237316195423570985008687907853269984665640564039457584007913129639936
  omega
theorem vW_w4 (l : List Int) (i : Nat) : vW (w4 l i) = .agg #[.int .u64 (u64 (getI l i)), .int .u64 (u64 (getI l (i + 1))), .int .u64 (u64 (getI l (i + 2))), .int .u64 (u64 (getI l (i + 3)))] ∧ w4 l i < W256 := by
 obtain ⟨h0, h1, h2, h3, h4⟩ := words4 _ _ _ _ (u64_nat (getI l i)).2 (u64_nat (getI l (i + 1))).2 (u64_nat (getI l (i + 2))).2 (u64_nat (getI l (i + 3))).2
 unfold w4 vW
 rw [h0, h1, h2, h3, (u64_nat _).1, (u64_nat _).1, (u64_nat _).1, (u64_nat _).1]
 exact ⟨rfl, h4⟩
def fWide (s : Nat) (b : Bool) : List Int := [wd s 0, wd s 1, wd s 2, wd s 3, b2i b]
theorem fWide_val (s : Nat) (b : Bool) : resVal (valsS [sWide, .sc .bool] (fWide s b)) = .tuple #[vW s, .bool b] := by
 simp only [valsS, val1, valXs, Sh.kinds, List.drop_succ_cons, List.drop_zero, List.length_cons, List.length_nil, valX_u64, fWide, resVal, u64_idem (wd_u64 _ _)]
 simp only [valX, b2i_ne]
def fWideAdd (l : List Int) : List Int := fWide (w4 l 0 + w4 l 4) (Nat.ble W256 (w4 l 0 + w4 l 4))
set_option maxRecDepth 100000 in
theorem ent_WideAdd : EntOK Tryz.prog gG ⟨160, ⟨[sWide, sWide], [sWide, .sc .bool]⟩, fWideAdd⟩ := by
 intro l hl
 refine ⟨rfl, ?_⟩
 have h : PC Tryz.prog gG 160 [vW (w4 l 0), vW (w4 l 4)] (.tuple #[vW (w4 l 0 + w4 l 4), .bool (decide (W256 ≤ w4 l 0 + w4 l 4))]) :=
  pc_of_calls Tryz.func160 (by kernel_rfl) (by kernel_rfl) fun w => wideAdd_c _ _ w (vW_w4 l 0).2 (vW_w4 l 4).2
 obtain ⟨a, b, c, d, e, f, g, i, rfl⟩ := eight hl
 unfold fWideAdd
 rw [fWide_val, show Nat.ble W256 (w4 [a, b, c, d, e, f, g, i] 0 + w4 [a, b, c, d, e, f, g, i] 4) = decide (W256 ≤ w4 [a, b, c, d, e, f, g, i] 0 + w4 [a, b, c, d, e, f, g, i] 4) by
  rw [Bool.eq_iff_iff, Nat.ble_eq, decide_eq_true_iff]]
 rw [(vW_w4 _ 0).1, (vW_w4 _ 4).1] at h
 simpa only [valsS, val1, valXs, Sh.kinds, List.drop_succ_cons, List.drop_zero, List.length_cons, List.length_nil, valX_u64, getI] using h
def fWideSub (l : List Int) : List Int := fWide (w4 l 0 + W256 - w4 l 4) (Nat.blt (w4 l 0) (w4 l 4))
set_option maxRecDepth 100000 in
theorem ent_WideSub : EntOK Tryz.prog gG ⟨161, ⟨[sWide, sWide], [sWide, .sc .bool]⟩, fWideSub⟩ := by
 intro l hl
 refine ⟨rfl, ?_⟩
 have h : PC Tryz.prog gG 161 [vW (w4 l 0), vW (w4 l 4)] (.tuple #[vW (w4 l 0 + W256 - w4 l 4), .bool (decide (w4 l 0 < w4 l 4))]) :=
  pc_of_calls Tryz.func161 (by kernel_rfl) (by kernel_rfl) fun w => wideSub_c _ _ w (vW_w4 l 0).2 (vW_w4 l 4).2
 obtain ⟨a, b, c, d, e, f, g, i, rfl⟩ := eight hl
 unfold fWideSub
 rw [fWide_val, show Nat.blt (w4 [a, b, c, d, e, f, g, i] 0) (w4 [a, b, c, d, e, f, g, i] 4) = decide (w4 [a, b, c, d, e, f, g, i] 0 < w4 [a, b, c, d, e, f, g, i] 4) by
  rw [Bool.eq_iff_iff, Nat.blt_eq, decide_eq_true_iff]]
 rw [(vW_w4 _ 0).1, (vW_w4 _ 4).1] at h
 simpa only [valsS, val1, valXs, Sh.kinds, List.drop_succ_cons, List.drop_zero, List.length_cons, List.length_nil, valX_u64, getI] using h
def ents0 : List Ent := [
 ⟨225, ⟨[.sc kU, .sc kU, .sc .bit], [.sc kU, .sc .bit]⟩, fAdd64⟩,
 ⟨226, ⟨[.sc kU, .sc kU, .sc .bit], [.sc kU, .sc .bit]⟩, fSub64⟩,
 ⟨268, ⟨[.sc kU, .sc kU], [.sc kU, .sc kU]⟩, fMul64⟩,
 ⟨160, ⟨[sWide, sWide], [sWide, .sc .bool]⟩, fWideAdd⟩,
 ⟨161, ⟨[sWide, sWide], [sWide, .sc .bool]⟩, fWideSub⟩,
 ⟨251, ⟨[.sc kB, .sc .bool, .sc .bool, .sc kB], [.sc .bool]⟩, fNext⟩,
 ⟨273, ⟨[.sc kU], [.sc kI]⟩, fLen64⟩]
end Go.Proofs.YtemomocmfggiaaaGreatDoor
namespace Go.Proofs.YtemomocmfggiaaaGreatDoor
set_option linter.unusedVariables false
set_option maxRecDepth 100000
open Go.RowKit
def phiE (L : List Ent) : Phi := fun g l => match findE L g with | some e => e.F l | none => []
theorem phiE_hit {L : List Ent} {g : FuncId} {e : Ent} (h : findE L g = some e) : phiE L g = e.F := by funext l; unfold phiE; rw [h]
def ctE (L : List Ent) : FuncId → Option Ct := fun g => match findE L g with | some e => some e.ct | none => none
noncomputable def ctx (L : List Ent) : SCx := ⟨Tryz.prog, gG, seT, ctE L, phiE L, fun _ => none, fun _ => []⟩
theorem ctx_ok {L : List Ent} (h : ∀ e ∈ L, EntOK Tryz.prog gG e) : SOKT (ctx L) eE := by
  have key : ∀ (g : FuncId) (ct : Ct), (ctx L).ct g = some ct → ∀ l : List Int, l.length = (kindsOf ct.a).length → ((ctx L).Φ g l).length = (kindsOf ct.r).length ∧ PC Tryz.prog gG g (valsS ct.a l) (resVal (valsS ct.r ((ctx L).Φ g l))) := by
   intro g ct hct l hl
   simp only [ctx, ctE, phiE] at hct ⊢
   cases hf : findE L g with
   | some e =>
     rw [hf] at hct
     simp only [Option.some.injEq] at hct; subst hct
     obtain ⟨h1, h2⟩ := findE_ok hf
     subst h2
     exact h e h1 l hl
   | none => rw [hf] at hct; cases hct
  exact ⟨⟨seT_ok, eOK, cE_ok.mix, cE_ok.nm, fun g ct hct l hl _ => (key g ct hct l hl).2, fun g ct hn => (by cases hn), fun g c hc => (by cases hc)⟩, fun g ct hct l hl => (key g ct hct l hl).1, fun g ct hn => (by cases hn), fun g c hc => (by cases hc)⟩
def findId : List EntS → Nat → Option EntS
 | [], _ => none
 | x :: l, id => match Nat.beq x.c.id id with | true => some x | false => findId l id
def slE : List EntS → FuncId → List SlC
 | [], _ => []
 | x :: l, g => match Nat.beq x.g g with | true => x.c :: slE l g | false => slE l g
def phiA (L M : List Ent) (S : List EntS) : Phi := fun g l => match findId S g with
 | some e => e.F l
 | none => match findE M g with | some e => e.F l | none => phiE L g l
theorem phiA_S {L M : List Ent} {S : List EntS} {g : Nat} {e : EntS} (h : findId S g = some e) : phiA L M S g = e.F := by funext l; unfold phiA; rw [h]
theorem phiA_M {L M : List Ent} {S : List EntS} {g : Nat} {e : Ent} (h0 : findId S g = none) (h : findE M g = some e) : phiA L M S g = e.F := by funext l; unfold phiA; rw [h0]; simp only []; rw [h]
theorem phiA_L {L M : List Ent} {S : List EntS} {g : Nat} {e : Ent} (h0 : findId S g = none) (h1 : findE M g = none) (h : findE L g = some e) : phiA L M S g = e.F := by funext l; unfold phiA; rw [h0]; simp only []; rw [h1]; simp only []; rw [phiE_hit h]
noncomputable def ctxA (L M : List Ent) (S : List EntS) : SCx := ⟨Tryz.prog, gG, seT, ctE L, phiA L M S, ctE M, slE S⟩
def noS (S : List EntS) (g : Nat) : Bool := match findId S g with | some _ => false | none => true
def noE (M : List Ent) (g : Nat) : Bool := match findE M g with | some _ => false | none => true
def apartL (M : List Ent) (S : List EntS) : List Ent → Bool
 | [] => true
 | x :: l => andB (noS S x.g) (andB (noE M x.g) (apartL M S l))
def apartM (S : List EntS) : List Ent → Bool
 | [] => true
 | x :: l => andB (noS S x.g) (apartM S l)
def nodupS : List EntS → Bool
 | [] => true
 | x :: l => andB (noS l x.c.id) (nodupS l)
theorem noS_eq {S : List EntS} {g : Nat} (h : noS S g = true) : findId S g = none := by
 unfold noS at h
 cases hf : findId S g with
 | none => rfl
 | some e => rw [hf] at h; cases h
theorem noE_eq {M : List Ent} {g : Nat} (h : noE M g = true) : findE M g = none := by
 unfold noE at h
 cases hf : findE M g with
 | none => rfl
 | some e => rw [hf] at h; cases h
theorem apartL_ok {M : List Ent} {S : List EntS} : ∀ {L : List Ent}, apartL M S L = true → ∀ e ∈ L, findId S e.g = none ∧ findE M e.g = none
 | [], _, e, he => by cases he
 | x :: l, h, e, he => by
  have h := andB_eq h; have h2 := andB_eq h.2
  rcases List.mem_cons.1 he with rfl | he
  ·exact ⟨noS_eq h.1, noE_eq h2.1⟩
  ·exact apartL_ok h2.2 e he
theorem apartM_ok {S : List EntS} : ∀ {L : List Ent}, apartM S L = true → ∀ e ∈ L, findId S e.g = none
 | [], _, e, he => by cases he
 | x :: l, h, e, he => by
  have h := andB_eq h
  rcases List.mem_cons.1 he with rfl | he
  ·exact noS_eq h.1
  ·exact apartM_ok h.2 e he
theorem nodupS_ok : ∀ {S : List EntS}, nodupS S = true → ∀ e ∈ S, findId S e.c.id = some e
 | [], _, e, he => by cases he
 | x :: l, h, e, he => by
  have h := andB_eq h
  simp only [findId]
  rcases List.mem_cons.1 he with rfl | he
  ·rw [Nat.beq_refl]
  ·have h1 := nodupS_ok h.2 e he
   cases hb : Nat.beq x.c.id e.c.id with
   | true =>
    have h2 := noS_eq h.1
    rw [beq_iff.1 hb, h1] at h2; cases h2
   | false => exact h1
theorem slE_mem : ∀ {S : List EntS} {g : FuncId} {c : SlC}, c ∈ slE S g → ∃ e ∈ S, e.g = g ∧ e.c = c
 | [], g, c, h => by cases h
 | x :: l, g, c, h => by
  simp only [slE] at h
  split at h
  ·rename_i hb
   rcases List.mem_cons.1 h with rfl | h
   ·exact ⟨x, List.mem_cons_self, beq_iff.1 hb, rfl⟩
   ·obtain ⟨e, h1, h2⟩ := slE_mem h; exact ⟨e, List.mem_cons_of_mem _ h1, h2⟩
  ·obtain ⟨e, h1, h2⟩ := slE_mem h; exact ⟨e, List.mem_cons_of_mem _ h1, h2⟩
theorem ctxC_ok {L M : List Ent} {S : List EntS} (hL : ∀ e ∈ L, EntC Tryz.prog gG e) (hM : ∀ e ∈ M, EntNC Tryz.prog gG e) (hS : ∀ e ∈ S, EntSC Tryz.prog gG e) (h : andB (apartL M S L) (andB (apartM S M) (nodupS S)) = true) : SOK (ctxA L M S) eE := by
 have h := andB_eq h; have h2 := andB_eq h.2
 refine ⟨seT_ok, eOK, cE_ok.mix, cE_ok.nm, fun g ct hct l hl hF => ?_, fun g ct hct => ?_, fun g c hc l hl hF => ?_⟩
 ·simp only [ctxA, ctE] at hct hF ⊢
  cases hf : findE L g with
  | some e =>
   rw [hf] at hct
   simp only [Option.some.injEq] at hct; subst hct
   obtain ⟨h1, h3⟩ := findE_ok hf
   subst h3
   obtain ⟨h4, h5⟩ := apartL_ok h.1 e h1
   rw [phiA_L h4 h5 hf] at hF ⊢
   exact (hL e h1).ok l hl hF
  | none => rw [hf] at hct; cases hct
 ·simp only [ctxA, ctE] at hct ⊢
  cases hf : findE M g with
  | some e =>
   rw [hf] at hct
   simp only [Option.some.injEq] at hct; subst hct
   obtain ⟨h1, h3⟩ := findE_ok hf
   subst h3
   have h4 := apartM_ok h2.1 e h1
   refine ⟨(hM e h1).two, fun l hl hF => ?_⟩
   rw [phiA_M h4 hf] at hF ⊢
   exact (hM e h1).ok l hl hF
  | none => rw [hf] at hct; cases hct
 ·obtain ⟨e, h1, h3, h4⟩ := slE_mem (show c ∈ slE S g from hc)
  subst h3; subst h4
  have h5 := nodupS_ok h2.2 e h1
  simp only [ctxA] at hF ⊢
  rw [phiA_S h5] at hF ⊢
  exact (hS e h1).ok l hl hF
theorem ctxA_ok {L M : List Ent} {S : List EntS} (hL : ∀ e ∈ L, EntOK Tryz.prog gG e) (hM : ∀ e ∈ M, EntN Tryz.prog gG e) (hS : ∀ e ∈ S, EntSOK Tryz.prog gG e) (h : andB (apartL M S L) (andB (apartM S M) (nodupS S)) = true) : SOKT (ctxA L M S) eE := by
 refine ⟨ctxC_ok (fun e he => (hL e he).c) (fun e he => (hM e he).c) (fun e he => (hS e he).c) h, ?_, ?_, ?_⟩
 all_goals have h := andB_eq h
 all_goals have h2 := andB_eq h.2
 ·intro g ct hct l hl
  simp only [ctxA, ctE] at hct ⊢
  cases hf : findE L g with
  | some e =>
   rw [hf] at hct
   simp only [Option.some.injEq] at hct; subst hct
   obtain ⟨h1, h3⟩ := findE_ok hf
   subst h3
   obtain ⟨h4, h5⟩ := apartL_ok h.1 e h1
   rw [phiA_L h4 h5 hf]
   exact (hL e h1 l hl).1
  | none => rw [hf] at hct; cases hct
 ·intro g ct hct l hl
  simp only [ctxA, ctE] at hct ⊢
  cases hf : findE M g with
  | some e =>
   rw [hf] at hct
   simp only [Option.some.injEq] at hct; subst hct
   obtain ⟨h1, h3⟩ := findE_ok hf
   subst h3
   rw [phiA_M (apartM_ok h2.1 e h1) hf]
   exact ((hM e h1).ok l hl).1
  | none => rw [hf] at hct; cases hct
 ·intro g c hc l hl
  obtain ⟨e, h1, h3, h4⟩ := slE_mem (show c ∈ slE S g from hc)
  subst h3; subst h4
  have h5 := nodupS_ok h2.2 e h1
  simp only [ctxA]
  rw [phiA_S h5]
  exact ((hS e h1).ok l hl).1
def M0 : List Ent := []
theorem M0_ok : ∀ e ∈ M0, EntN Tryz.prog gG e := fun e he => by cases he
def S0 : List EntS := []
theorem S0_ok : ∀ e ∈ S0, EntSOK Tryz.prog gG e := fun e he => by cases he
def E0 : List Ent := ents0
theorem E0_ok : ∀ e ∈ E0, EntOK Tryz.prog gG e := by
 intro e he
 simp only [E0, ents0, List.mem_cons, List.not_mem_nil, or_false] at he
 rcases he with rfl | he
 ·exact ent_Add64
 rcases he with rfl | he
 ·exact ent_Sub64
 rcases he with rfl | he
 ·exact ent_Mul64
 rcases he with rfl | he
 ·exact ent_WideAdd
 rcases he with rfl | he
 ·exact ent_WideSub
 rcases he with rfl | he
 ·exact ent_Next
 ·subst he; exact ent_Len64
end Go.Proofs.YtemomocmfggiaaaGreatDoor
