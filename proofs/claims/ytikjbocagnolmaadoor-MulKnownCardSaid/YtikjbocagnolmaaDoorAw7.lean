/- Calls on abstract states; regions in the order of the text, computed. No function of the program. -/
import Derived.Test.YtikjbocagnolmaaDoorAw6
namespace Go.Proofs.YtikjbocagnolmaaDoor
set_option linter.unusedVariables false
set_option linter.unusedSimpArgs false
open Go.RowKit
/-- a call of a function, whether it has a body or not -/
def CallsX (P : Program) (g : FuncId) (args : Array Value) (w : World) (R : Ending → World → Prop) : Prop :=
  match (callFunc g args).run P w with
  | .ok (.value v) w' => R (.returned v) w'
  | .ok (.enter f bs) w' => Calls P f bs w' R
  | _ => False
theorem CallsX.mono {P : Program} {g : FuncId} {args : Array Value} {w : World} {R R' : Ending → World → Prop} (h : CallsX P g args w R) (hr : ∀ e w', R e w' → R' e w') : CallsX P g args w R' := by
  unfold CallsX at h ⊢
  split at h
  · exact hr _ _ h
  · exact h.mono hr
  · exact h.elim
/-- **a pure call**: in whatever world, these arguments give this value, and nothing that was there has turned -/
def PC (P : Program) (G : Glob) (g : FuncId) (args : List Value) (v : Value) : Prop := ∀ w, Gl G w → CallsX P g args.toArray w fun e w' => e = .returned v ∧ Bel w w'
/-- a call on abstract values -/
def CallOK (P : Program) (G : Glob) (w0 : World) (B0 : Bas) (g : FuncId) (args : List AV) (H : AHeap) (tc : List Nat) (k : Nat) (r : AV) (ef : List (Nat × AO)) : Prop :=
  ∀ H' e w, (∀ b ∈ tc, H' b = H b) → H' k = none → H' (k + 1) = none → (∀ x ∈ args, ∀ c ∈ x.refs, H' c ≠ none) → Rep G w0 B0 e H' w →
    CallsX P g (AV.vals e args).toArray w fun en w' => ∃ e', en = .returned (r.val e') ∧ Rep G w0 B0 e' (H'.puts ef) w' ∧ Env.on H' e e' ∧ ∀ c ∈ r.refs, (H'.puts ef) c ≠ none
theorem PC.call {P : Program} {G : Glob} {g : FuncId} {vs : List Value} {v : Value} (h : PC P G g vs v) (w0 : World) (B0 : Bas) {args : List AV} (ha : allV args = some vs) (H : AHeap) (k : Nat) : CallOK P G w0 B0 g args H [] k (.v v) [] := by
  intro H' e w _ _ _ _ R
  rw [allV_val ha]
  exact (h w R.gl).mono fun en w' ⟨h1, h2⟩ => ⟨e, h1, R.below h2, Env.on.refl H' e, fun c hc => by simp [AV.refs] at hc⟩
/-- an operation on abstract states, whatever lies beside -/
def OpOK (P : Program) (G : Glob) (w0 : World) (B0 : Bas) (o : Oper) (T : Regs) (H : AHeap) (tc : List Nat) (k : Nat) (r : AV) (ef : List (Nat × AO)) : Prop :=
  ∀ (nt : Nat) (T' : Regs) (H' : AHeap) (e : Env) (a : Act) (w : World) (K : Act → World → Prop) (Q : Exit → Act → World → Prop),
    (∀ x ∈ o.op.operands, rdOp T' x = rdOp T x) → (∀ b ∈ tc, H' b = H b) → H' k = none → H' (k + 1) = none → RegsOK nt e T' a → RegsIn T' H' → Rep G w0 B0 e H' w →
    (∀ e' w', Rep G w0 B0 e' (H'.puts ef) w' → Env.on H' e e' → (∀ c ∈ r.refs, (H'.puts ef) c ≠ none) → K (a.put o.dst (r.val e')) w') → o.wp P a w K Q
theorem RegsIn.op {T : Regs} {H : AHeap} (h : RegsIn T H) {x : Operand} {y : AV} (hx : rdOp T x = some y) : ∀ c ∈ y.refs, H c ≠ none := by
  cases x with
  | tmp t => exact h t y hx
  | const v => simp only [rdOp, Option.some.injEq] at hx; subst hx; intro c hc; simp [AV.refs] at hc
  | global g => simp only [rdOp, Option.some.injEq] at hx; subst hx; intro c hc; simp [AV.refs] at hc
  | func f => simp only [rdOp, Option.some.injEq] at hx; subst hx; intro c hc; simp [AV.refs] at hc
theorem OpRuns.wp {P : Program} {G : Glob} {w0 : World} {B0 : Bas} {e : Env} {H : AHeap} {w : World} {o : Oper} {a : Act} {r : AV} {ef : List (Nat × AO)} {K : Act → World → Prop} {Q : Exit → Act → World → Prop}
    (h : OpRuns P G w0 B0 e H w (execOp a.eval o) r ef) (hK : ∀ e' w', Rep G w0 B0 e' (H.puts ef) w' → Env.on H e e' → (∀ c ∈ r.refs, (H.puts ef) c ≠ none) → K (a.put o.dst (r.val e')) w') : o.wp P a w K Q := by
  obtain ⟨e', w', nx, hrun, hnx, hR, hon, hrf⟩ := h
  unfold Oper.wp
  rw [hrun]
  rcases hnx with rfl | ⟨rfl, rfl⟩
  · exact hK e' w' hR hon hrf
  · exact hK e' w' hR hon hrf
theorem evN_ok {P : Program} {G : Glob} {E : EqT} (hE : EqOK P E) {o : Oper} {T : Regs} {H : AHeap} {k : Nat} {r : AV} {tc : List Nat} {ef : List (Nat × AO)} (h : evN P G E o.op (rdOp T) H k = some (r, tc, ef)) (w0 : World) (B0 : Bas) :
    OpOK P G w0 B0 o T H tc k r ef := by
  intro nt T' H' e a w K Q hx hb hk _ hT hI hR hK
  have h' := evN_congr h hx hb
  exact (evN_run hE h' (fun x y hy => hT.eval hy) (fun x _ y hy => hI.op hy) hk hR).wp hK
/-- what a call calls -/
def evCallee : AV → Option (FuncId × List AV × List AV)
  | .v (.func (.func g) a c) => some (g, a.toList.map .v, c.toList.map .v)
  | .fn (.func g) a c => some (g, a, c)
  | _ => none
def evCall (op : Op) (ρ : Operand → Option AV) : Option (FuncId × List AV) :=
  match op with
  | .call { callee := .value f, args := xs, argTypes := _ } => match ρ f with
    | some fv => match evCallee fv, listA ρ xs.toList with
      | some (g, a, c), some bs => some (g, a ++ bs ++ c)
      | _, _ => none
    | none => none
  | _ => none
theorem evCallee_val {fv : AV} {g : FuncId} {a c : List AV} (h : evCallee fv = some (g, a, c)) (e : Env) : fv.val e = .func (.func g) (AV.vals e a).toArray (AV.vals e c).toArray ∧ ∀ x ∈ a ++ c, ∀ r ∈ x.refs, r ∈ fv.refs := by
  unfold evCallee at h
  split at h
  · cases h
    refine ⟨by simp [AV.val, vals_v], fun x hx r hr => ?_⟩
    rcases List.mem_append.1 hx with hx | hx <;> (obtain ⟨y, _, rfl⟩ := List.mem_map.1 hx; simp [AV.refs] at hr)
  · cases h
    refine ⟨rfl, fun x hx r hr => ?_⟩
    rw [AV.refs]
    rcases List.mem_append.1 hx with hx | hx
    · exact List.mem_append_left _ (AV.mem_refss.2 ⟨x, hx, hr⟩)
    · exact List.mem_append_right _ (AV.mem_refss.2 ⟨x, hx, hr⟩)
  · cases h
theorem vals_append (e : Env) (a b : List AV) : AV.vals e (a ++ b) = AV.vals e a ++ AV.vals e b := by simp [AV.vals_map]
theorem evCall_ok {P : Program} {G : Glob} {w0 : World} {B0 : Bas} {o : Oper} {T : Regs} {H : AHeap} {k : Nat} {r : AV} {tc : List Nat} {ef : List (Nat × AO)} {g : FuncId} {args : List AV} (h : evCall o.op (rdOp T) = some (g, args))
    (hc : CallOK P G w0 B0 g args H tc k r ef) : OpOK P G w0 B0 o T H tc k r ef := by
  intro nt T' H' e a w K Q hx hb hk hk1 hT hI hR hK
  unfold evCall at h
  split at h
  · rename_i f xs ts ho
    split at h
    · rename_i fv hfv
      split at h
      · rename_i g' first cap bs hcl hl
        cases h
        have hf' : rdOp T' f = some fv := by rw [hx f (by rw [ho]; simp [Op.operands, Call.operands])]; exact hfv
        have hl' : listA (rdOp T') xs.toList = some bs := by
          rw [listA_congr (ρ := rdOp T) (fun x hm => hx x (by rw [ho]; simp [Op.operands, Call.operands]; right; simpa using hm))]; exact hl
        obtain ⟨hv, hrf⟩ := evCallee_val hcl e
        have hev := hT.eval hf'
        have hvals := listA_val (fun x y hy => hT.eval hy) hl'
        have harg : ∀ x ∈ first ++ bs ++ cap, ∀ c ∈ x.refs, H' c ≠ none := by
          intro x hxm c hcm
          simp only [List.mem_append] at hxm
          rcases hxm with (h1 | h1) | h1
          · exact hI.op hf' c (hrf x (List.mem_append_left _ h1) c hcm)
          · obtain ⟨y, _, hy⟩ := listA_mem hl' x h1
            exact hI.op hy c hcm
          · exact hI.op hf' c (hrf x (List.mem_append_right _ h1) c hcm)
        have hcall := hc H' e w hb hk hk1 harg hR
        unfold CallsX at hcall
        have hrun : (execOp a.eval o).run P w = (callFunc g (AV.vals e (first ++ bs ++ cap)).toArray).run P w := by
          unfold execOp
          rw [ho]
          simp only [resolve, hev, hv, Deferred.ofValue]
          have : (xs.map a.eval) = (AV.vals e bs).toArray := by rw [← hvals]; apply Array.ext'; simp
          simp [invoke, this, vals_append]
        unfold Oper.wp
        rw [hrun]
        split at hcall
        · rename_i v w' hr'
          rw [hr']
          obtain ⟨e', h1, h2, h3, h4⟩ := hcall
          cases h1
          exact hK e' w' h2 h3 h4
        · rename_i f' bs' w' hr'
          rw [hr']
          refine Calls.mono hcall ?_
          rintro en w'' ⟨e', rfl, h2, h3, h4⟩
          exact hK e' w'' h2 h3 h4
        · exact hcall.elim
      · cases h
    · cases h
  · cases h
/-- is an operation wanted? -/
def wantedA (ops : Array Oper) (T : Regs) (o : Oper) : Option Bool :=
  match o.guard with
  | none => some true
  | some (j, want) => match (ops[j]?).bind (·.dst) with
    | none => some false
    | some d => match T d with
      | some (.v (.bool b)) => some (b == want)
      | some (.v (.tuple _)) => some false
      | _ => none
theorem wantedA_ok {ops : Array Oper} {T : Regs} {o : Oper} {q : Bool} (h : wantedA ops T o = some q) {nt : Nat} {e : Env} {a : Act} (hT : RegsOK nt e T a) : Region.wanted o (yielded ops a.tmps) = q := by
  unfold wantedA at h
  unfold Region.wanted
  split at h
  · rename_i hg; cases h; rw [hg]
  · rename_i j want hg
    rw [hg]
    simp only [yielded]
    split at h
    · rename_i hd; cases h; rw [hd]; rfl
    · rename_i d hd
      rw [hd]
      have key : ∀ x, T d = some x → a.tmps[d]? = some (x.val e) := fun x hx => by
        obtain ⟨hs, hall⟩ := hT
        have h1 := hall d x hx
        have hlt : d < a.tmps.size := by rw [hs]; exact h1.1
        rw [Array.getD_eq_getD_getElem?, Array.getElem?_eq_getElem hlt] at h1
        rw [Array.getElem?_eq_getElem hlt]
        simpa using h1.2
      split at h
      · rename_i b hb
        cases h
        simp [key _ hb, AV.val]
      · rename_i vs hb
        cases h
        simp [key _ hb, AV.val]
      · cases h
/-- one trace row: the operation, the blocks that it touched, whether it turned one of them -/
abbrev Tr := List (Nat × List Nat × Bool)
def mutB (tc : List Nat) (ef : List (Nat × AO)) : Bool := ef.any fun x => tc.contains x.1
/-- what simp does not look into -/
inductive Hold.{u} {α : Sort u} (a : α) : Type | mk
/-- a decision: left open till it is known -/
def Dec (q : Bool) (A B : Prop) (_ : Hold A) (_ : Hold B) : Prop := (q = true → A) ∧ (q = false → B)
theorem Dec_true (A B : Prop) (x : Hold A) (y : Hold B) : Dec true A B x y = A := by simp [Dec]
theorem Dec_false (A B : Prop) (x : Hold A) (y : Hold B) : Dec false A B x y = B := by simp [Dec]
/-- a call: left open till its contract is given -/
def CallG (P : Program) (G : Glob) (w0 : World) (B0 : Bas) (g : FuncId) (args : List AV) (H : AHeap) (k : Nat) (R : AV → List Nat → List (Nat × AO) → Prop) (_ : Hold R) : Prop :=
  ∃ r tc ef, CallOK P G w0 B0 g args H tc k r ef ∧ (∀ b ∈ tc, H b ≠ none) ∧ (∀ x ∈ ef, x.1 = k ∨ x.1 = k + 1 ∨ x.1 ∈ tc) ∧ R r tc ef
/-- any other operation: left open till it is proved by itself -/
def OpG (P : Program) (G : Glob) (w0 : World) (B0 : Bas) (o : Oper) (T : Regs) (H : AHeap) (k : Nat) (R : AV → List Nat → List (Nat × AO) → Prop) (_ : Hold R) : Prop :=
  ∃ r tc ef, OpOK P G w0 B0 o T H tc k r ef ∧ (∀ b ∈ tc, H b ≠ none) ∧ (∀ x ∈ ef, x.1 = k ∨ x.1 = k + 1 ∨ x.1 ∈ tc) ∧ R r tc ef
def evPick (op : Op) (ρ : Operand → Option AV) : Option (Bool × Option AV × Option AV) :=
  match op with
  | .pick c a b => match ρ c with
    | some (.v (.bool q)) => some (q, ρ a, ρ b)
    | _ => none
  | _ => none
theorem evPick_ok {P : Program} {G : Glob} {E : EqT} {op : Op} {ρ : Operand → Option AV} {q : Bool} {x y : Option AV} (h : evPick op ρ = some (q, x, y)) (H : AHeap) (k : Nat) :
    (∀ r, q = true → x = some r → evN P G E op ρ H k = some (r, [], [])) ∧ (∀ r, q = false → y = some r → evN P G E op ρ H k = some (r, [], [])) := by
  unfold evPick at h
  split at h
  · rename_i c a b
    split at h
    · rename_i q' hc
      cases h
      constructor
      · intro r hq hx; simp only [evN, hc, hq, if_true, hx, wt]
      · intro r hq hx; simp only [evN, hc, hq, Bool.false_eq_true, if_false, hx, wt]
    · cases h
  · cases h
/-- the operations of a region, one by one -/
def evOps (P : Program) (G : Glob) (E : EqT) (w0 : World) (B0 : Bas) (ops : Array Oper) (Nb : Nat) : Nat → List Oper → Regs → AHeap → Tr → (Regs → AHeap → Tr → Prop) → Prop
  | _, [], T, H, tr, K => K T H tr
  | i, o :: os, T, H, tr, K =>
    match wantedA ops T o with
    | none => False
    | some q => Dec q
      (match evPick o.op (rdOp T) with
      | some (c, x, y) => Dec c
        (match x with | some r => evOps P G E w0 B0 ops Nb (i + 1) os (T.put o.dst r) H ((i, [], false) :: tr) K | none => False)
        (match y with | some r => evOps P G E w0 B0 ops Nb (i + 1) os (T.put o.dst r) H ((i, [], false) :: tr) K | none => False) .mk .mk
      | none =>
        match evN P G E o.op (rdOp T) H (Nb + 2 * i) with
        | some (r, tc, ef) => evOps P G E w0 B0 ops Nb (i + 1) os (T.put o.dst r) (H.puts ef) ((i, tc, mutB tc ef) :: tr) K
        | none => match evCall o.op (rdOp T) with
          | some (g, args) => CallG P G w0 B0 g args H (Nb + 2 * i) (fun r tc ef => evOps P G E w0 B0 ops Nb (i + 1) os (T.put o.dst r) (H.puts ef) ((i, tc, mutB tc ef) :: tr) K) .mk
          | none => OpG P G w0 B0 o T H (Nb + 2 * i) (fun r tc ef => evOps P G E w0 B0 ops Nb (i + 1) os (T.put o.dst r) (H.puts ef) ((i, tc, mutB tc ef) :: tr) K) .mk)
      (evOps P G E w0 B0 ops Nb (i + 1) os (T.put o.dst (.v undef)) H tr K) .mk .mk
theorem evLoad_tc {P : Program} {G : Glob} {t : TypeId} {H : AHeap} {a r : AV} {tc : List Nat} {ef : List (Nat × AO)} (h : evLoad P G t H a = some (r, tc, ef)) : (∀ b ∈ tc, H b ≠ none) ∧ ef = [] := by
  unfold evLoad at h
  split at h
  · split at h
    · rename_i hb; split at h
      · cases h; exact ⟨fun b hm => by simp at hm; subst hm; rw [hb]; simp, rfl⟩
      · cases h
    · cases h
  · split at h
    · rename_i hb; split at h
      · cases h; exact ⟨fun b hm => by simp at hm; subst hm; rw [hb]; simp, rfl⟩
      · cases h
    · cases h
  · split at h
    · split at h
      · cases h; exact ⟨fun b hm => by simp at hm, rfl⟩
      · cases h
    · cases h
  · cases h
theorem evIndexAddr_tc {P : Program} {t : TypeId} {H : AHeap} {x i r : AV} {tc : List Nat} (h : evIndexAddr P t H x i = some (r, tc)) : ∀ b ∈ tc, H b ≠ none := by
  unfold evIndexAddr at h
  split at h
  · split at h
    · split at h
      · split at h
        · split at h
          · cases h; intro b hb; simp at hb
          · cases h
        · cases h
      · cases h
    · split at h
      · split at h
        · split at h
          · cases h; intro b hb; simp at hb
          · cases h
        · cases h
      · cases h
    · split at h
      · split at h
        · split at h
          · cases h; intro b hb; simp at hb
          · cases h
        · cases h
      · cases h
    · split at h
      · rename_i hb
        split at h
        · split at h
          · split at h
            · cases h; intro b hm; simp at hm; subst hm; rw [hb]; simp
            · cases h
          · cases h
        · cases h
      · cases h
    · cases h
  · cases h
theorem evLen_tc {P : Program} {t : TypeId} {H : AHeap} {x r : AV} {tc : List Nat} (h : evLen P t H x = some (r, tc)) : ∀ b ∈ tc, H b ≠ none := by
  unfold evLen at h
  split at h
  · split at h
    · cases h; intro b hb; simp at hb
    · split at h
      · rename_i hb; cases h; intro b hm; simp at hm; subst hm; rw [hb]; simp
      · cases h
    · cases h; intro b hb; simp at hb
    · cases h
  · split at h
    · cases h; intro b hb; simp at hb
    · cases h
  · cases h; intro b hb; simp at hb
  · cases h
theorem evN_tc {P : Program} {G : Glob} {E : EqT} {op : Op} {ρ : Operand → Option AV} {H : AHeap} {k : Nat} {r : AV} {tc : List Nat} {ef : List (Nat × AO)} (h : evN P G E op ρ H k = some (r, tc, ef)) :
    (∀ b ∈ tc, H b ≠ none) ∧ ∀ x ∈ ef, x.1 = k ∨ x.1 = k + 1 ∨ x.1 ∈ tc := by
  have z : ∀ {x : Option AV}, wt x = some (r, tc, ef) → (∀ b ∈ tc, H b ≠ none) ∧ ∀ x ∈ ef, x.1 = k ∨ x.1 = k + 1 ∨ x.1 ∈ tc := fun hx => by
    obtain ⟨_, rfl, rfl⟩ := wt_some hx
    exact ⟨fun b hb => by simp at hb, fun x hx => by simp at hx⟩
  unfold evN at h
  split at h
  case h_1 => exact z h
  case h_2 => exact z h
  case h_3 =>
    split at h
    · split at h <;> exact z h
    · cases h
  case h_4 =>
    split at h
    · cases h; exact ⟨fun b hb => by simp at hb, fun x hx => by simp at hx; subst hx; exact .inl rfl⟩
    · cases h
  case h_5 =>
    split at h
    · cases h; exact ⟨fun b hb => by simp at hb, fun x hx => by simp at hx; subst hx; exact .inl rfl⟩
    · cases h
  case h_6 =>
    split at h
    · split at h
      · split at h
        · cases h; exact ⟨fun b hb => by simp at hb, fun x hx => by simp at hx⟩
        · cases h
      · cases h
    · cases h
  case h_7 =>
    split at h
    · unfold evBuildSlice at h
      split at h
      · split at h
        · split at h
          · split at h
            · cases h; exact ⟨fun b hb => by simp at hb, fun x hx => by simp at hx; subst hx; exact .inl rfl⟩
            · cases h
          · cases h
        · cases h
      · cases h
    · cases h
  case h_8 =>
    split at h
    · obtain ⟨h1, rfl⟩ := evLoad_tc h
      exact ⟨h1, fun x hx => by simp at hx⟩
    · cases h
  case h_9 =>
    split at h
    · unfold evStore at h
      split at h
      · split at h
        · rename_i hb
          split at h
          · cases h; exact ⟨fun b hm => by simp at hm; subst hm; rw [hb]; simp, fun x hx => by simp at hx; subst hx; simp⟩
          · cases h
        · cases h
      · cases h
    · cases h
  case h_10 => split at h <;> first | exact z h | cases h
  case h_11 => split at h <;> first | exact z h | cases h
  case h_12 => split at h <;> first | exact z h | cases h
  case h_13 => split at h <;> first | exact z h | cases h
  case h_14 =>
    split at h
    · cases h; exact ⟨fun b hb => by simp at hb, fun x hx => by simp at hx⟩
    · cases h
  case h_15 => split at h <;> first | exact z h | cases h
  case h_16 => split at h <;> first | exact z h | cases h
  case h_17 =>
    split at h
    · obtain ⟨h1, rfl⟩ := wtt_some h
      exact ⟨evIndexAddr_tc h1, fun x hx => by simp at hx⟩
    · cases h
  case h_18 => split at h <;> first | exact z h | cases h
  case h_19 => split at h <;> first | exact z h | cases h
  case h_20 =>
    split at h
    · split at h
      · obtain ⟨h1, rfl⟩ := wtt_some h
        exact ⟨evLen_tc h1, fun x hx => by simp at hx⟩
      · cases h
    · cases h
  case h_21 =>
    split at h
    · split at h
      · cases h; exact ⟨fun b hb => by simp at hb, fun x hx => by simp at hx⟩
      · cases h
    · cases h
  case h_22 =>
    split at h
    · split at h
      · cases h; exact ⟨fun b hb => by simp at hb, fun x hx => by simp at hx⟩
      · cases h
    · cases h
  case h_23 =>
    split at h
    · obtain ⟨h1, rfl⟩ := wtt_some h
      refine ⟨?_, fun x hx => by simp at hx⟩
      unfold evArrayAt at h1
      split at h1
      · split at h1
        · split at h1
          · cases h1; intro b hb; simp at hb
          · cases h1
        · split at h1
          · rename_i hb
            split at h1
            · cases h1; intro b hm; simp at hm; subst hm; rw [hb]; simp
            · cases h1
          · cases h1
        · cases h1
      · cases h1
    · cases h
  case h_24 =>
    split at h
    · unfold evMakeSlice at h
      split at h
      · split at h
        · split at h
          · split at h
            · cases h; exact ⟨fun b hb => by simp at hb, fun x hx => by simp at hx; subst hx; exact .inl rfl⟩
            · cases h
          · cases h
        · cases h
      · cases h
    · cases h
  case h_25 => split at h <;> first | exact z h | cases h
  case h_26 => cases h
/-- no block from N on -/
def Bound (H : AHeap) (N : Nat) : Prop := ∀ b, N ≤ b → H b = none
theorem AHeap.puts_ne : ∀ {ef : List (Nat × AO)} {H : AHeap} {b : Nat}, (∀ x ∈ ef, x.1 ≠ b) → (H.puts ef) b = H b
  | [], H, b, _ => rfl
  | x :: ef, H, b, h => by
    rw [AHeap.puts, AHeap.puts_ne (ef := ef) (fun y hy => h y (List.mem_cons_of_mem _ hy)), AHeap.put_ne _ _ _ (fun e => h x List.mem_cons_self e.symm)]
theorem AHeap.puts_congr : ∀ {ef : List (Nat × AO)} {H H' : AHeap} {b : Nat}, H b = H' b → (H.puts ef) b = (H'.puts ef) b
  | [], H, H', b, h => h
  | x :: ef, H, H', b, h => by
    rw [AHeap.puts, AHeap.puts]
    apply AHeap.puts_congr
    unfold AHeap.put; split
    · rfl
    · exact h
theorem AHeap.puts_dom : ∀ {ef : List (Nat × AO)} {H : AHeap} {b : Nat}, H b ≠ none → (H.puts ef) b ≠ none
  | [], H, b, h => h
  | x :: ef, H, b, h => by rw [AHeap.puts]; exact AHeap.puts_dom (AHeap.put_dom _ _ _ h)
theorem Bound.puts {H : AHeap} {N : Nat} (h : Bound H N) {ef : List (Nat × AO)} {tc : List Nat} (ht : ∀ b ∈ tc, H b ≠ none) (he : ∀ x ∈ ef, x.1 = N ∨ x.1 = N + 1 ∨ x.1 ∈ tc) : Bound (H.puts ef) (N + 2) := by
  intro b hb
  rw [AHeap.puts_ne (fun x hx => ?_)]
  · exact h b (by omega)
  · rcases he x hx with h1 | h1 | h1
    · omega
    · omega
    · intro e
      exact ht _ h1 (h _ (by omega))
theorem RegsIn.op_put {T : Regs} {H : AHeap} (h : RegsIn T H) (d : Option Tmp) {r : AV} {ef : List (Nat × AO)} (hr : ∀ c ∈ r.refs, (H.puts ef) c ≠ none) : RegsIn (T.put d r) (H.puts ef) :=
  (h.grow (fun _ hr => AHeap.puts_dom hr)).put d hr
/-- **a region in the order of its text** -/
theorem evOps_text {P : Program} {G : Glob} {E : EqT} (hE : EqOK P E) {w0 : World} {B0 : Bas} {ops : Array Oper} {Nb nt : Nat} {Q : Exit → Act → World → Prop} {K : Regs → AHeap → Tr → Prop} {ds : List Deferred}
    (hd : ∀ o ∈ ops.toList, ∀ t, o.dst = some t → t < nt)
    (hQ : ∀ T H tr e a w, K T H tr → Rep G w0 B0 e H w → RegsOK nt e T a → RegsIn T H → Bound H (Nb + 2 * ops.size) → a.defers = ds → Q .normal a w) :
    ∀ (os : List Oper) (i : Nat) (T : Regs) (H : AHeap) (tr : Tr) (e : Env) (a : Act) (w : World), os = ops.toList.drop i → i ≤ ops.size → evOps P G E w0 B0 ops Nb i os T H tr K → Rep G w0 B0 e H w → RegsOK nt e T a → RegsIn T H → Bound H (Nb + 2 * i) → a.defers = ds →
      wpOps P ops Q (List.range' i (ops.size - i)) a w := by
  intro os
  induction os with
  | nil =>
    intro i T H tr e a w hos hi hev R hT hI hB hdf
    have : ops.size - i = 0 := by
      have := congrArg List.length hos
      simp at this; omega
    rw [this]
    exact hQ T H tr e a w hev R hT hI (by have : i = ops.size := by omega
                                          rw [← this]; exact hB) hdf
  | cons o os ih =>
    intro i T H tr e a w hos hi hev R hT hI hB hdf
    have hlt : i < ops.size := by
      have := congrArg List.length hos
      simp at this; omega
    have ho : ops[i]? = some o := by
      have := congrArg (·[0]?) hos
      simp at this
      rw [Array.getElem?_eq_getElem hlt] at this ⊢
      exact this.symm
    have hos' : os = ops.toList.drop (i + 1) := by
      have := congrArg List.tail hos
      simpa using this
    have hr : List.range' i (ops.size - i) = i :: List.range' (i + 1) (ops.size - (i + 1)) := by
      have : ops.size - i = (ops.size - (i + 1)) + 1 := by omega
      rw [this, List.range'_succ]
    have hdo : ∀ t, o.dst = some t → t < nt := hd o (Array.mem_toList_iff.2 (Array.mem_of_getElem? ho))
    rw [hr, wpOps]
    simp only [ho]
    have hk0 : H (Nb + 2 * i) = none := hB _ (Nat.le_refl _)
    have hk1 : H (Nb + 2 * i + 1) = none := hB _ (by omega)
    have step : ∀ r tc ef, OpOK P G w0 B0 o T H tc (Nb + 2 * i) r ef → (∀ b ∈ tc, H b ≠ none) → (∀ x ∈ ef, x.1 = Nb + 2 * i ∨ x.1 = Nb + 2 * i + 1 ∨ x.1 ∈ tc) →
        evOps P G E w0 B0 ops Nb (i + 1) os (T.put o.dst r) (H.puts ef) ((i, tc, mutB tc ef) :: tr) K → o.wp P a w (wpOps P ops Q (List.range' (i + 1) (ops.size - (i + 1)))) Q := by
      intro r tc ef hop htc hef hnx
      refine hop nt T H e a w _ Q (fun _ _ => rfl) (fun _ _ => rfl) hk0 hk1 hT hI R ?_
      intro e' w' hR' hon hrf
      refine ih (i + 1) _ _ _ e' _ w' hos' (by omega) hnx hR' ((hT.on hI hon).put hdo r) (hI.op_put o.dst hrf) ?_ (by rw [Act.put_defers]; exact hdf)
      have := hB.puts htc hef
      rwa [show Nb + 2 * (i + 1) = Nb + 2 * i + 2 by omega]
    simp only [evOps] at hev
    split at hev
    · exact hev.elim
    · rename_i q hw
      rw [wantedA_ok hw hT]
      cases q with
      | false =>
        rw [Dec_false] at hev
        simp only [Bool.false_eq_true, if_false]
        exact ih (i + 1) _ _ _ e _ w hos' (by omega) hev R (hT.put hdo (.v undef)) (hI.put o.dst (fun c hc => by simp [AV.refs] at hc)) (fun b hb => hB b (by omega)) (by rw [Act.put_defers]; exact hdf)
      | true =>
        rw [Dec_true] at hev
        simp only [if_true]
        left
        split at hev
        · rename_i c x y hp
          have hpk := evPick_ok (P := P) (G := G) (E := E) hp H (Nb + 2 * i)
          cases c with
          | true =>
            rw [Dec_true] at hev
            split at hev
            · rename_i r
              exact step r [] [] (evN_ok hE (hpk.1 r rfl rfl) w0 B0) (fun b hb => (by cases hb)) (fun x hx => (by cases hx)) hev
            · exact hev.elim
          | false =>
            rw [Dec_false] at hev
            split at hev
            · rename_i r
              exact step r [] [] (evN_ok hE (hpk.2 r rfl rfl) w0 B0) (fun b hb => (by cases hb)) (fun x hx => (by cases hx)) hev
            · exact hev.elim
        · split at hev
          · rename_i r tc ef hn
            obtain ⟨h1, h2⟩ := evN_tc hn
            exact step r tc ef (evN_ok hE hn w0 B0) h1 h2 hev
          · split at hev
            · rename_i g args hc
              obtain ⟨r, tc, ef, h0, h1, h2, h3⟩ := hev
              exact step r tc ef (evCall_ok hc h0) h1 h2 h3
            · obtain ⟨r, tc, ef, h0, h1, h2, h3⟩ := hev
              exact step r tc ef h0 h1 h2 h3
end Go.Proofs.YtikjbocagnolmaaDoor
