/- The executor is sound: what it answers, the model does. No function of the program. -/
import Derived.Test.YtikjbocagnolmaaDoorSx7
namespace Go.Proofs.YtikjbocagnolmaaDoor
set_option linter.unusedVariables false
set_option linter.unusedSimpArgs false
open Go.RowKit
structure SOK (C : SCx) (E : EqT) : Prop where
  se : SEqOK C.P C.SE E
  eq : EqOK C.P E
  mix : C.P.follows .mixedOrders = true
  nm : ∀ (g : FuncId) (fn : Func), C.P.funcs[g]? = some fn → fn.body.isSome = true → (fn.name == "runtime.NumGoroutine") = false
  ct : ∀ (g : FuncId) (ct : Ct), C.ct g = some ct → ∀ l : List Int, l.length = (kindsOf ct.a).length → (C.Φ g l).length = (kindsOf ct.r).length ∧ PC C.P C.G g (valsS ct.a l) (resVal (valsS ct.r (C.Φ g l)))
/-- what a sound executor of codes tells -/
structure ESpec (C : SCx) (E : EqT) (s : Sig) (c : Code) (st : St) (ex : Exit) (st' : St) : Prop where
  aw : ∀ w0 B0, AW ⟨C.P, C.G, E, w0, B0, st.T.length⟩ c (ExA s ex st') st.N (SRegs.den s st.T) (SH.den s st.H)
  len : st'.T.length = st.T.length
  dt : ∀ j, memN j st'.dt = false → memN j st.dt = false ∧ hget st'.H j = hget st.H j
  fc : FOK s st'.fc
abbrev EOK (C : SCx) (E : EqT) (s : Sig) (exf : Code → St → Tr' (Exit × St)) : Prop := ∀ c st ex st', (exf c st).path C.Φ s = some (ex, st') → FOK s st.fc → ESpec C E s c st ex st'
section
variable {C : SCx} {E : EqT} {s : Sig}
theorem ret_path {α : Type} {x : Exit} {A B : Tr' α} {w : String} {r : α} (h : (match x with | .normal => A | .ret => B | _ => .stuck w : Tr' α).path C.Φ s = some r) : (x = .normal ∧ A.path C.Φ s = some r) ∨ (x = .ret ∧ B.path C.Φ s = some r) := by
  cases x <;> first | exact .inl ⟨rfl, h⟩ | exact .inr ⟨rfl, h⟩ | cases h
theorem renId : (fun n : Nat => n) = renF [] := by funext n; rfl
mutual
theorem SV.ren_nil : ∀ x : SV, x.ren (renF []) = x
  | .v _ => rfl
  | .int _ _ => rfl
  | .bool _ => rfl
  | .loc _ _ => rfl
  | .sl _ _ _ _ => rfl
  | .fn g a c => by simp only [SV.ren, SV.rens_nil a, SV.rens_nil c]
  | .tup l => by simp only [SV.ren, SV.rens_nil l]
  | .agg l => by simp only [SV.ren, SV.rens_nil l]
theorem SV.rens_nil : ∀ l : List SV, SV.rens (renF []) l = l
  | [] => rfl
  | x :: l => by simp only [SV.rens, SV.ren_nil x, SV.rens_nil l]
end
theorem inlC_ok (hC : SOK C E) {exf : Code → St → Tr' (Exit × St)} (hex : EOK C E s exf) {g : FuncId} {args : List SV} {H : SH} {k nv : Nat} {fc : Facts} {r : CR} (h : (inlC C.P exf g args H k nv fc).path C.Φ s = some r) (hfc : FOK s fc) : CSpec C s g args H k r := by
  unfold inlC at h
  split at h
  · cases h
  · rename_i fn hf
    split at h
    · cases h
    · rename_i cd hb
      split at h
      · cases h
      · rename_i objs hro
        split at h
        · rename_i hl hk
          obtain ⟨r0, h0, e1, e2, e3, e4⟩ := mergeC_ok hfc h
          obtain ⟨⟨ex, st⟩, h1, h2⟩ := Tr'.path_bind_some h0
          have sp := hex _ _ _ _ h1 hfc
          have hlen : (padR args fn.ntmps).length = fn.ntmps := padR_len _ _ (Nat.le_of_ble_eq_true hl)
          have hA : ∀ w0 B0, AW ⟨C.P, C.G, E, w0, B0, fn.ntmps⟩ cd (ExA s ex st) k (SRegs.den s (padR args fn.ntmps)) (SH.den s objs) := fun w0 B0 => by
            have := sp.aw w0 B0; simp only [hlen] at this; exact this
          have hD : DOK objs st.dt st.H := fun j hj => (sp.dt j hj).2
          have hn := hC.nm g fn hf (by rw [hb]; rfl)
          have key : ex = .normal ∨ ex = .ret → (afterCall C.P fn objs k st).path C.Φ s = some r0 → CSpec C s g args H k r0 := by
            intro hx h3
            unfold afterCall at h3
            split at h3
            · cases h3
            · rename_i rs hrs
              split at h3
              · cases h3
              · rename_i R2 hR2
                split at h3
                · cases h3
                · rename_i nw hnw
                  split at h3
                  · cases h3
                    have := after_ok hf hb hn hro hl hk hA hx hD sp.fc hrs hR2 hnw (m := []) rfl st.nv
                    rw [SV.ren_nil] at this
                    simpa [efNew, renId] using this
                  · split at h3
                    · cases h3
                    · rename_i m hm
                      cases h3
                      exact after_ok hf hb hn hro hl hk hA hx hD sp.fc hrs hR2 hnw hm st.nv
          have main : CSpec C s g args H k r0 := by
            rcases ret_path h2 with ⟨hx, h3⟩ | ⟨hx, h3⟩
            · exact key (.inl hx) h3
            · exact key (.inr hx) h3
          refine ⟨by rw [← e2]; exact main.tc, by rw [← e2, ← e3]; exact main.ef, e4 main.fc, ?_⟩
          rw [← e1, ← e2, ← e3]; exact main.ok
        · cases h
theorem callC_ok (hC : SOK C E) {exf : Code → St → Tr' (Exit × St)} (hex : EOK C E s exf) {g : FuncId} {args : List SV} {H : SH} {k nv : Nat} {fc : Facts} {r : CR} (h : (callC C exf g args H k nv fc).path C.Φ s = some r) (hfc : FOK s fc) : CSpec C s g args H k r := by
  unfold callC at h
  split at h
  · exact inlC_ok hC hex h hfc
  · rename_i ct hct
    split at h
    · exact inlC_ok hC hex h hfc
    · rename_i xs hxs
      obtain ⟨hv, hl⟩ := flats_ok s hxs
      have hcc := hC.ct g ct hct (xs.map (X.den s)) (by simpa using hl)
      have fin : ∀ l : List SV, SV.dens s l = (valsS ct.r (C.Φ g (xs.map (X.den s)))).map .v → CSpec C s g args H k ⟨resS l, [], [], r.nv, fc⟩ := fun l hd => by
        refine ⟨fun b hb => by simp at hb, fun x hx => by simp [efD] at hx, hfc, fun w0 B0 => ?_⟩
        simp only [resS_den hd]
        exact hcc.2.call w0 B0 (by rw [hv]; exact allV_v _) _ _
      split at h
      · rename_i ns hns
        rw [litsAt_eq] at h
        cases h
        have e := allLit_den s hns
        refine fin _ ?_
        rw [e] at hcc ⊢
        exact uns_ok (litsP_den s _ _) (litsP_len _ _ hcc.1)
      · simp only [Tr'.path] at h
        split at h
        · rename_i hce
          rw [forceNat_eq] at h
          cases h
          refine fin _ ?_
          obtain ⟨h1, h2⟩ := varsAt_den s (kindsOf ct.r) nv
          unfold callEq at hce
          rw [hce] at h1
          exact uns_ok h1 h2
        · cases h
theorem guardS_path {β : Type} {ops : Array Oper} {T : SRegs} {o : Oper} {fc : Facts} {K : Bool → Facts → Tr' β} {r : β} (hf : FOK s fc) (h : (guardS ops T o fc K).path C.Φ s = some r) :
    ∃ q fc', FOK s fc' ∧ wantedA ops (SRegs.den s T) o = some q ∧ (K q fc').path C.Φ s = some r := by
  unfold guardS at h
  unfold wantedA
  split at h
  · rename_i hg
    exact ⟨true, fc, hf, by rw [hg], h⟩
  · rename_i j want hg
    rw [hg]
    simp only
    split at h
    · rename_i hd
      exact ⟨false, fc, hf, by rw [hd], h⟩
    · rename_i d hd
      rw [hd]
      simp only
      split at h
      · rename_i x hx
        have hT : SRegs.den s T d = some (.v (.bool (x.den s != 0))) := by simp [SRegs.den, hx, SV.den]
        obtain ⟨fc', hf', h'⟩ := iteF_path hf h
        refine ⟨_, fc', hf', ?_, h'⟩
        rw [hT]
        simp only [bNot_eq]
        cases (x.den s != 0) <;> cases want <;> rfl
      · rename_i vs hx
        have hT : SRegs.den s T d = some (.v (.tuple vs)) := by simp [SRegs.den, hx, SV.den]
        exact ⟨false, fc, hf, by rw [hT], h⟩
      · cases h
theorem calleeS_ok {fv : SV} {g : FuncId} {a c : List SV} (h : calleeS fv = some (g, a, c)) : evCallee (fv.den s) = some (g, SV.dens s a, SV.dens s c) := by
  have hC' : ∀ l : List Value, SV.dens s (l.map ofC) = l.map .v := fun l => by
    rw [SV.dens_map, List.map_map]; exact List.map_congr_left fun x _ => ofC_den s x
  unfold calleeS at h
  split at h
  · cases h
    simp only [SV.den, evCallee, hC']
  · cases h
    simp only [SV.den]
    unfold mkFn
    have hm : ∀ {l : List AV} {vs : List Value}, allV l = some vs → l = vs.map .v := fun {l} {vs} hv => by
      have h4 := cellsA_mkAgg l
      unfold mkAgg at h4; rw [hv] at h4
      simpa [cellsA, Value.cells] using h4.symm
    cases ha : allV (SV.dens s a) with
    | none => rfl
    | some x => cases hc : allV (SV.dens s c) with
      | none => rfl
      | some y => simp only [evCallee, hm ha, hm hc]
  · cases h
theorem callS_some {op : Op} {ρ : Operand → Option SV} {ρ' : Operand → Option AV} (hρ : RD s ρ ρ') {g : FuncId} {args : List SV} (h : callS op ρ = some (some (g, args))) {P : Program} {G : Glob} {H : AHeap} {k : Nat} :
    evCall op ρ' = some (g, SV.dens s args) ∧ evPick op ρ' = none ∧ evN P G E op ρ' H k = none := by
  unfold callS at h
  split at h
  · rename_i f xs ts
    split at h
    · rename_i fv hfv
      split at h
      · rename_i g' a c bs hcl hl
        simp only [Option.some.injEq, Prod.mk.injEq] at h
        obtain ⟨rfl, rfl⟩ := h
        refine ⟨?_, rfl, rfl⟩
        simp only [evCall, hρ _ _ hfv, calleeS_ok hcl, listS_ok hρ hl, dens_append]
      · cases h
    · cases h
  · cases h
theorem pickS_some {op : Op} {ρ : Operand → Option SV} {ρ' : Operand → Option AV} (hρ : RD s ρ ρ') {q : X} {x y : Option SV} (h : pickS op ρ = some (q, x, y)) : ∃ x' y', evPick op ρ' = some (q.den s != 0, x', y') ∧ (∀ a, x = some a → x' = some (a.den s)) ∧ (∀ a, y = some a → y' = some (a.den s)) := by
  unfold pickS at h
  split at h
  · rename_i c a b
    split at h
    · rename_i q' hq
      cases h
      refine ⟨ρ' a, ρ' b, ?_, fun z hz => hρ _ _ hz, fun z hz => hρ _ _ hz⟩
      simp only [evPick, hρ _ _ hq, SV.den]
    · cases h
  · cases h
theorem evPick_evN {P : Program} {G : Glob} {op : Op} {ρ : Operand → Option AV} {c : Bool} {x y : Option AV} {H : AHeap} {k : Nat} {r : AV} {tc : List Nat} {ef : List (Nat × AO)} (h : evPick op ρ = some (c, x, y)) (hn : evN P G E op ρ H k = some (r, tc, ef)) :
    tc = [] ∧ ef = [] ∧ (c = true → x = some r) ∧ (c = false → y = some r) := by
  unfold evPick at h
  split at h
  · rename_i q a b
    split at h
    · rename_i q' hq
      cases h
      simp only [evN, hq] at hn
      cases c with
      | true =>
        simp only [if_true] at hn
        obtain ⟨h1, rfl, rfl⟩ := wt_some hn
        exact ⟨rfl, rfl, fun _ => h1, fun h => by cases h⟩
      | false =>
        simp only [Bool.false_eq_true, if_false] at hn
        obtain ⟨h1, rfl, rfl⟩ := wt_some hn
        exact ⟨rfl, rfl, (fun h => by cases h), fun _ => h1⟩
    · cases h
  · cases h
def trF (tr : Tr) : Tr := tr.filter fun x => !x.2.1.isEmpty
theorem mutS_eq (tc : List Nat) : ∀ ef : List (Nat × SO), mutS tc ef = mutB tc (efD s ef)
  | [] => rfl
  | x :: ef => by
    have hc : memN x.1 tc = tc.contains x.1 := by rw [Bool.eq_iff_iff, memN_mem, List.contains_iff_mem]
    simp only [mutS, mutB, efD, List.map_cons, List.any_cons, hc]
    cases tc.contains x.1 with
    | true => rfl
    | false => simp only [Bool.false_or]; exact mutS_eq tc ef
theorem trAdd_ok {i : Nat} {tc : List Nat} {ef : List (Nat × SO)} {tr : Tr} : trF ((i, tc, mutB tc (efD s ef)) :: tr) = trAdd i tc ef (trF tr) := by
  unfold trAdd trF
  cases tc with
  | nil => rfl
  | cons b tc => rw [List.filter_cons_of_pos (by rfl), ← mutS_eq (s := s)]
theorem traceRows_trF {M : List Nat} {Nb : Nat} : ∀ {tr : Tr}, traceRows M Nb (trF tr) = true → traceRows M Nb tr = true
  | [], _ => rfl
  | x :: l, h => by
    unfold trF at h
    have empty : ∀ y z : Nat × List Nat × Bool, z.2.1 = [] ∨ y.2.1 = [] → trPair M y z = true := fun y z hz => by
      unfold trPair
      rcases hz with hz | hz <;> simp [hz]
    cases hx : x.2.1 with
    | nil =>
      rw [List.filter_cons_of_neg (by simp [hx])] at h
      simp only [traceRows, Bool.and_eq_true]
      refine ⟨⟨by rw [hx]; rfl, ?_⟩, traceRows_trF h⟩
      rw [List.all_eq_true]; intro y _; exact empty x y (.inr hx)
    | cons b tc =>
      rw [List.filter_cons_of_pos (by simp [hx])] at h
      simp only [traceRows, Bool.and_eq_true] at h ⊢
      refine ⟨⟨h.1.1, ?_⟩, traceRows_trF h.2⟩
      rw [List.all_eq_true]; intro y hy
      cases hy2 : y.2.1 with
      | nil => exact empty x y (.inl hy2)
      | cons b' tc' => exact List.all_eq_true.1 h.1.2 y (List.mem_filter.2 ⟨hy, by simp [hy2]⟩)
theorem setD_path {β : Type} {T : SRegs} {d : Option Tmp} {x : SV} {K : SRegs → Tr' β} {r : β} (hd : ∀ t, d = some t → t < T.length) (h : (setD T d x K).path C.Φ s = some r) :
    ∃ T', T'.length = T.length ∧ SRegs.den s T' = (SRegs.den s T).put d (x.den s) ∧ (K T').path C.Φ s = some r := by
  unfold setD at h
  cases d with
  | none => exact ⟨T, rfl, rfl, h⟩
  | some d =>
    simp only at h
    rw [rset_eq] at h
    exact ⟨_, rset_len T d x, SRegs.den_set s T d x (hd d rfl), h⟩
theorem addDt_mem {j : Nat} : ∀ {ef : List (Nat × SO)} {dt : List Nat}, memN j (addDt ef dt) = false → memN j dt = false ∧ ∀ x ∈ ef, x.1 ≠ j
  | [], dt, h => ⟨h, fun x hx => by simp at hx⟩
  | x :: ef, dt, h => by
    rw [addDt] at h
    obtain ⟨h1, h2⟩ := addDt_mem h
    unfold addN at h1
    split at h1
    · rename_i hm
      refine ⟨h1, fun y hy => ?_⟩
      rcases List.mem_cons.1 hy with rfl | hy
      · rintro rfl; rw [hm] at h1; cases h1
      · exact h2 y hy
    · simp only [memN] at h1
      split at h1
      · cases h1
      · rename_i hb
        refine ⟨h1, fun y hy => ?_⟩
        rcases List.mem_cons.1 hy with rfl | hy
        · rintro rfl; simp at hb
        · exact h2 y hy
theorem hputs_get {j : Nat} : ∀ {ef : List (Nat × SO)} {H : SH}, (∀ x ∈ ef, x.1 ≠ j) → hget (hputsP H ef) j = hget H j
  | [], H, _ => rfl
  | x :: ef, H, h => by
    rw [hputsP, hputs_get (fun y hy => h y (List.mem_cons_of_mem _ hy)), hset_get, if_neg (fun e => h x List.mem_cons_self e.symm)]
theorem execOps_ok (hC : SOK C E) {cf : CF} {nt : Nat} (hcf : ∀ g args H k nv fc r, (cf g args H k nv fc).path C.Φ s = some r → FOK s fc → CSpec C s g args H k r) {ops : Array Oper} {Nb : Nat} :
    ∀ (os : List Oper) (i : Nat) (T : SRegs) (H : SH) (tr : Trc) (nv : Nat) (dt : List Nat) (fc : Facts) (out : OR), (execOps C cf ops Nb i os T H tr nv dt fc).path C.Φ s = some out → FOK s fc → T.length = nt → (∀ o ∈ os, ∀ t, o.dst = some t → t < nt) →
      (∀ w0 B0 (trf : Tr) (K : Regs → AHeap → Tr → Prop), trF trf = tr → (∀ trf', trF trf' = out.tr → K (SRegs.den s out.T) (SH.den s out.H) trf') → evOps C.P C.G E w0 B0 ops Nb i os (SRegs.den s T) (SH.den s H) trf K) ∧
      out.T.length = nt ∧ FOK s out.fc ∧ ∀ j, memN j out.dt = false → memN j dt = false ∧ hget out.H j = hget H j
  | [], i, T, H, tr, nv, dt, fc, out, h, hfc, hT, hd => by
    simp only [execOps] at h
    cases h
    exact ⟨fun w0 B0 trf K ht hK => by rw [evOps]; exact hK trf ht, hT, hfc, fun j hj => ⟨hj, rfl⟩⟩
  | o :: os, i, T, H, tr, nv, dt, fc, out, h, hfc, hT, hd => by
    simp only [execOps] at h
    obtain ⟨q, fc1, hf1, hw, h⟩ := guardS_path hfc h
    have hdo : ∀ t, o.dst = some t → t < T.length := by rw [hT]; exact hd o List.mem_cons_self
    have hds : ∀ o' ∈ os, ∀ t, o'.dst = some t → t < nt := fun o' ho' => hd o' (List.mem_cons_of_mem _ ho')
    cases q with
    | false =>
      simp only at h
      obtain ⟨T', hl, hden, h⟩ := setD_path hdo h
      obtain ⟨h1, h2, h3, h4⟩ := execOps_ok hC hcf os (i + 1) T' H tr nv dt fc1 out h hf1 (hl.trans hT) hds
      refine ⟨fun w0 B0 trf K ht hK => ?_, h2, h3, h4⟩
      have := h1 w0 B0 trf K ht hK
      rw [hden] at this
      simp only [evOps, hw, Dec_false]; exact this
    | true =>
      simp only at h
      -- an operation that has run
      have step : ∀ (r : SV) (tc : List Nat) (ef : List (Nat × SO)) (nv' : Nat) (fc' : Facts), FOK s fc' → (setD T o.dst r fun T => hputs H ef fun H => execOps C cf ops Nb (Nat.succ i) os T H (trAdd i tc ef tr) nv' (addDt ef dt) fc').path C.Φ s = some out →
          (∀ w0 B0 (trf : Tr) (K : Regs → AHeap → Tr → Prop), trF trf = tr → (∀ trf', trF trf' = out.tr → K (SRegs.den s out.T) (SH.den s out.H) trf') → evOps C.P C.G E w0 B0 ops Nb (i + 1) os ((SRegs.den s T).put o.dst (r.den s)) ((SH.den s H).puts (efD s ef)) ((i, tc, mutB tc (efD s ef)) :: trf) K) ∧
          out.T.length = nt ∧ FOK s out.fc ∧ ∀ j, memN j out.dt = false → memN j dt = false ∧ hget out.H j = hget H j := by
        intro r tc ef nv' fc' hf' h
        obtain ⟨T', hl, hden, h⟩ := setD_path hdo h
        rw [hputs_eq] at h
        obtain ⟨h1, h2, h3, h4⟩ := execOps_ok hC hcf os (i + 1) T' _ _ nv' _ fc' out h hf' (hl.trans hT) hds
        refine ⟨fun w0 B0 trf K ht hK => ?_, h2, h3, fun j hj => ?_⟩
        · have := h1 w0 B0 ((i, tc, mutB tc (efD s ef)) :: trf) K (by rw [trAdd_ok, ht]) hK
          rw [hden, hputs_den] at this
          exact this
        · obtain ⟨h5, h6⟩ := h4 j hj
          obtain ⟨h7, h8⟩ := addDt_mem h5
          exact ⟨h7, by rw [h6, hputs_get h8]⟩
      split at h
      · cases h
      · rename_i g args hcs
        rw [forceNat_eq] at h
        obtain ⟨r, hr, h⟩ := Tr'.path_bind_some h
        have sp := hcf _ _ _ _ _ _ _ hr hf1
        obtain ⟨h1, h2⟩ := step r.r r.tc r.ef r.nv r.fc sp.fc h
        refine ⟨fun w0 B0 trf K ht hK => ?_, h2⟩
        obtain ⟨e1, e2, e3⟩ := callS_some (E := E) (rdS_den s T) hcs (P := C.P) (G := C.G) (H := SH.den s H) (k := Nb + 2 * i)
        simp only [evOps, hw, Dec_true, e2, e3, e1]
        exact ⟨_, _, _, sp.ok w0 B0, sp.tc, sp.ef, h1 w0 B0 trf K ht hK⟩
      · split at h
        · rename_i q x y hp
          obtain ⟨fc2, hf2, h⟩ := iteF_path hf1 h
          obtain ⟨x', y', e1, e2, e3⟩ := pickS_some (s := s) (rdS_den s T) hp
          cases hq : (q.den s != 0) with
          | true =>
            rw [hq] at h e1
            simp only at h
            cases x with
            | none => cases h
            | some r =>
              obtain ⟨h1, h2⟩ := step r [] [] nv fc2 hf2 (by simpa [hputs, trAdd, addDt] using h)
              refine ⟨fun w0 B0 trf K ht hK => ?_, h2⟩
              simp only [evOps, hw, Dec_true, e1, e2 r rfl]
              exact h1 w0 B0 trf K ht hK
          | false =>
            rw [hq] at h e1
            simp only at h
            cases y with
            | none => cases h
            | some r =>
              obtain ⟨h1, h2⟩ := step r [] [] nv fc2 hf2 (by simpa [hputs, trAdd, addDt] using h)
              refine ⟨fun w0 B0 trf K ht hK => ?_, h2⟩
              simp only [evOps, hw, Dec_true, Dec_false, e1, e3 r rfl]
              exact h1 w0 B0 trf K ht hK
        · rw [forceNat_eq] at h
          obtain ⟨r, hr, h⟩ := Tr'.path_bind_some h
          have hn := sevN_ok hC.se hf1 (rdS_den s T) hr
          obtain ⟨h1, h2⟩ := step r.1 r.2.1 r.2.2 nv fc1 hf1 h
          refine ⟨fun w0 B0 trf K ht hK => ?_, h2⟩
          have h3 := h1 w0 B0 trf K ht hK
          simp only [evOps, hw, Dec_true]
          cases hp : evPick o.op (rdOp (SRegs.den s T)) with
          | none => simp only [hn]; exact h3
          | some z =>
            obtain ⟨c, x, y⟩ := z
            obtain ⟨e1, e2, e3, e4⟩ := evPick_evN hp hn
            rw [e1, e2] at h3
            cases c with
            | true => simp only [Dec_true, e3 rfl]; exact h3
            | false => simp only [Dec_false, e4 rfl]; exact h3
theorem bind_exit {r : Exit × St} {t : Tr' (Exit × St)} {f : Exit × St → Tr' (Exit × St)} (h : (t.bind f).path C.Φ s = some r) : ∃ ex st, t.path C.Φ s = some (ex, st) ∧ (f (ex, st)).path C.Φ s = some r := by
  obtain ⟨⟨ex, st⟩, h1, h2⟩ := Tr'.path_bind_some h; exact ⟨ex, st, h1, h2⟩
theorem normal_path {x : Exit} {r y : Exit × St} {A : Tr' (Exit × St)} (h : (match x with | .normal => A | _ => .leaf y : Tr' (Exit × St)).path C.Φ s = some r) : (x = .normal ∧ A.path C.Φ s = some r) ∨ (x ≠ .normal ∧ r = y) := by
  cases x <;> first | exact .inl ⟨rfl, h⟩ | (cases h; exact .inr ⟨fun e => (by cases e), rfl⟩)
theorem thenA_not {K : Nat → Regs → AHeap → Prop} {Q : APost} {x : Exit} {N : Nat} {T : Regs} {H : AHeap} (hx : x ≠ .normal) (h : Q x N T H) : thenA K Q x N T H := by
  cases x <;> first | exact absurd rfl hx | exact h
theorem ESpec.trans {c c' c2 : Code} {st st1 st2 : St} {ex1 ex2 : Exit} (h1 : ESpec C E s c st ex1 st1) (h2 : ESpec C E s c' st1 ex2 st2) (aw : ∀ w0 B0, AW ⟨C.P, C.G, E, w0, B0, st.T.length⟩ c2 (ExA s ex2 st2) st.N (SRegs.den s st.T) (SH.den s st.H)) : ESpec C E s c2 st ex2 st2 :=
  ⟨aw, h2.len.trans h1.len, fun j hj => by obtain ⟨a, b⟩ := h2.dt j hj; obtain ⟨a', b'⟩ := h1.dt j a; exact ⟨a', b.trans b'⟩, h2.fc⟩
def blkExit (id : Nat) : Exit → Exit
  | .exit id' => if id' = id then .normal else .exit id'
  | x => x
/-- **the executor is sound** -/
theorem exec_ok (hC : SOK C E) : ∀ n : Nat, EOK C E s (exec C n) ∧
    ∀ c st ex st', (exec C n (.loop c) st).path C.Φ s = some (ex, st') → FOK s st.fc → ∀ w0 B0, roundsA ⟨C.P, C.G, E, w0, B0, st.T.length⟩ c (ExA s ex st') n st.N (SRegs.den s st.T) (SH.den s st.H)
  | 0 => ⟨fun c st ex st' h => (by cases h), fun c st ex st' h => (by cases h)⟩
  | n + 1 => by
    obtain ⟨ih, ihl⟩ := exec_ok hC n
    have loop : ∀ c st ex st', (exec C (n + 1) (.loop c) st).path C.Φ s = some (ex, st') → FOK s st.fc → ESpec C E s (.loop c) st ex st' ∧ ∀ w0 B0, roundsA ⟨C.P, C.G, E, w0, B0, st.T.length⟩ c (ExA s ex st') (n + 1) st.N (SRegs.den s st.T) (SH.den s st.H) := by
      intro c st ex st' h hf
      simp only [exec] at h
      obtain ⟨ex1, st1, h1, h2⟩ := bind_exit h
      have s1 := ih _ _ _ _ h1 hf
      rcases normal_path h2 with ⟨rfl, h3⟩ | ⟨hx, h3⟩
      · have s2 := ih _ _ _ _ h3 s1.fc
        have hr : ∀ w0 B0, roundsA ⟨C.P, C.G, E, w0, B0, st.T.length⟩ c (ExA s ex st') (n + 1) st.N (SRegs.den s st.T) (SH.den s st.H) := fun w0 B0 => by
          rw [roundsA_succ]
          refine (s1.aw w0 B0).mono ?_
          rintro x N T H ⟨rfl, rfl, rfl, rfl⟩
          have := ihl _ _ _ _ h3 s1.fc w0 B0
          rw [s1.len] at this
          exact this
        exact ⟨s1.trans s2 fun w0 B0 => aw_rounds _ (hr w0 B0), hr⟩
      · obtain ⟨rfl, rfl⟩ : ex1 = ex ∧ st1 = st' := by cases h3; exact ⟨rfl, rfl⟩
        have hr : ∀ w0 B0, roundsA ⟨C.P, C.G, E, w0, B0, st.T.length⟩ c (ExA s ex1 st1) (n + 1) st.N (SRegs.den s st.T) (SH.den s st.H) := fun w0 B0 => by
          rw [roundsA_succ]
          refine (s1.aw w0 B0).mono ?_
          rintro x N T H ⟨rfl, rfl, rfl, rfl⟩
          exact thenA_not hx ⟨rfl, rfl, rfl, rfl⟩
        exact ⟨⟨fun w0 B0 => aw_rounds _ (hr w0 B0), s1.len, s1.dt, s1.fc⟩, hr⟩
    refine ⟨?_, fun c st ex st' h hf => (loop c st ex st' h hf).2⟩
    intro c st ex st' h hf
    cases c with
    | skip => simp only [exec] at h; cases h; exact ⟨fun w0 B0 => aw_skip ⟨rfl, rfl, rfl, rfl⟩, rfl, fun j hj => ⟨hj, rfl⟩, hf⟩
    | label l => simp only [exec] at h; cases h; exact ⟨fun w0 B0 => aw_label ⟨rfl, rfl, rfl, rfl⟩, rfl, fun j hj => ⟨hj, rfl⟩, hf⟩
    | exit id => simp only [exec] at h; cases h; exact ⟨fun w0 B0 => aw_exit ⟨rfl, rfl, rfl, rfl⟩, rfl, fun j hj => ⟨hj, rfl⟩, hf⟩
    | ret => simp only [exec] at h; cases h; exact ⟨fun w0 B0 => aw_ret ⟨rfl, rfl, rfl, rfl⟩, rfl, fun j hj => ⟨hj, rfl⟩, hf⟩
    | seq a b =>
      simp only [exec] at h
      obtain ⟨ex1, st1, h1, h2⟩ := bind_exit h
      have s1 := ih _ _ _ _ h1 hf
      rcases normal_path h2 with ⟨rfl, h3⟩ | ⟨hx, h3⟩
      · have s2 := ih _ _ _ _ h3 s1.fc
        refine s1.trans s2 fun w0 B0 => aw_seq ((s1.aw w0 B0).mono ?_)
        rintro x N T H ⟨rfl, rfl, rfl, rfl⟩
        have := s2.aw w0 B0
        rw [s1.len] at this
        exact this
      · cases h3
        refine ⟨fun w0 B0 => aw_seq ((s1.aw w0 B0).mono ?_), s1.len, s1.dt, s1.fc⟩
        rintro x N T H ⟨rfl, rfl, rfl, rfl⟩
        exact thenA_not hx ⟨rfl, rfl, rfl, rfl⟩
    | cond c a b =>
      simp only [exec] at h
      split at h
      · rename_i q hq
        have hd := rdS_den s st.T _ _ hq
        obtain ⟨fc', hf', h⟩ := iteF_path hf h
        simp only [SV.den] at hd
        cases hb : (q.den s != 0) with
        | true =>
          rw [hb] at h hd
          have s1 := ih _ _ _ _ h hf'
          exact ⟨fun w0 B0 => aw_true hd (s1.aw w0 B0), s1.len, s1.dt, s1.fc⟩
        | false =>
          rw [hb] at h hd
          have s1 := ih _ _ _ _ h hf'
          exact ⟨fun w0 B0 => aw_false hd (s1.aw w0 B0), s1.len, s1.dt, s1.fc⟩
      · cases h
    | block id c =>
      simp only [exec] at h
      obtain ⟨ex1, st1, h1, h2⟩ := bind_exit h
      have s1 := ih _ _ _ _ h1 hf
      have key : ex = blkExit id ex1 ∧ st' = st1 := by
        cases ex1 with
        | exit id' =>
          simp only at h2
          simp only [blkExit]
          split at h2
          · rename_i hb; cases h2; rw [if_pos (beq_iff.1 hb)]; exact ⟨rfl, rfl⟩
          · rename_i hb; cases h2
            rw [if_neg (fun e => by rw [e] at hb; simp at hb)]; exact ⟨rfl, rfl⟩
        | _ => cases h2; exact ⟨rfl, rfl⟩
      obtain ⟨rfl, rfl⟩ := key
      refine ⟨fun w0 B0 => aw_block ((s1.aw w0 B0).mono ?_), s1.len, s1.dt, s1.fc⟩
      rintro x N T H ⟨rfl, rfl, rfl, rfl⟩
      cases x with
      | exit id' =>
        simp only [blockA, blkExit]
        split
        · exact ⟨rfl, rfl, rfl, rfl⟩
        · exact ⟨rfl, rfl, rfl, rfl⟩
      | _ => exact ⟨rfl, rfl, rfl, rfl⟩
    | loop c => exact (loop c st ex st' h hf).1
    | scope c =>
      simp only [exec] at h
      obtain ⟨ex1, st1, h1, h2⟩ := bind_exit h
      have s1 := ih _ _ _ _ h1 hf
      have key : (∀ l, ex1 ≠ .goto l) ∧ ex = ex1 ∧ st' = st1 := by
        cases ex1 <;> first | (cases h2; exact ⟨fun l e => (by cases e), rfl, rfl⟩) | cases h2
      obtain ⟨hg, rfl, rfl⟩ := key
      exact ⟨fun w0 B0 => aw_scope (s1.aw w0 B0) (fun l N T H e => hg l e.1.symm), s1.len, s1.dt, s1.fc⟩
    | region id ops draw =>
      simp only [exec] at h
      obtain ⟨out, h1, h2⟩ := Tr'.path_bind_some h
      have dst : ∀ o ∈ ops.toList, ∀ t, o.dst = some t → t < st.T.length := by
        unfold regionEnd at h2
        split at h2
        · split at h2
          · rename_i hdr _
            simp only [drawOK, Bool.and_eq_true] at hdr
            exact dstsLt_get hdr.1.2
          · cases h2
          · cases h2
        · split at h2
          · rename_i hdr; exact dstsLt_get hdr
          · cases h2
      obtain ⟨e1, e2, e3, e4⟩ := execOps_ok hC (nt := st.T.length) (fun g args H k nv fc r hr hf => callC_ok hC ih hr hf) ops.toList 0 st.T st.H [] st.nv st.dt st.fc out h1 hf rfl dst
      unfold regionEnd at h2
      cases draw with
      | true =>
        simp only at h2
        split at h2
        · rename_i hdr htr
          rw [forceNat_eq] at h2
          cases h2
          refine ⟨fun w0 B0 => aw_draw hC.eq hC.mix hdr (e1 w0 B0 [] _ rfl ?_), e2, e4, e3⟩
          intro trf htf
          refine ⟨?_, rfl, rfl, rfl, rfl⟩
          rw [← htf] at htr
          exact traceRows_trF htr
        · cases h2
        · cases h2
      | false =>
        simp only at h2
        split at h2
        · rename_i hdr
          rw [forceNat_eq] at h2
          cases h2
          exact ⟨fun w0 B0 => aw_text hC.eq hdr (e1 w0 B0 [] _ rfl fun trf htf => ⟨rfl, rfl, rfl, rfl⟩), e2, e4, e3⟩
        · cases h2
    | rangeFunc f ps a b => simp only [exec] at h; cases h
    | goto l => simp only [exec] at h; cases h
    | refuse w => simp only [exec] at h; cases h
end
end Go.Proofs.YtikjbocagnolmaaDoor
