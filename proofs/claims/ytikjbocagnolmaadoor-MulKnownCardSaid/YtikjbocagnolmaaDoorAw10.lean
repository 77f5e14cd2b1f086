/- Walks on abstract states: the rules of control, entry and results. No function of the program. -/
import Derived.Test.YtikjbocagnolmaaDoorAw9
import Derived.Scope
namespace Go.Proofs.YtikjbocagnolmaaDoor
set_option linter.unusedVariables false
set_option linter.unusedSimpArgs false
open Go.RowKit
/-- what a walk goes by: the program, its variables, its comparisons, the world at the start, captured blocks, the number of temporaries -/
structure Cx where
  P : Program
  G : Glob
  E : EqT
  w0 : World
  B0 : Bas
  nt : Nat
abbrev APost := Exit → Nat → Regs → AHeap → Prop
def PostA (C : Cx) (Q : APost) : Exit → Act → World → Prop := fun x a w => ∃ N T H e, Q x N T H ∧ Rep C.G C.w0 C.B0 e H w ∧ RegsOK C.nt e T a ∧ RegsIn T H ∧ Bound H N ∧ a.defers = []
/-- **the walk of a text from an abstract state** -/
def AW (C : Cx) (c : Code) (Q : APost) (N : Nat) (T : Regs) (H : AHeap) : Prop :=
  ∀ e a w, Rep C.G C.w0 C.B0 e H w → RegsOK C.nt e T a → RegsIn T H → Bound H N → a.defers = [] → c.wp C.P (PostA C Q) a w
section
variable {C : Cx} {Q : APost} {N : Nat} {T : Regs} {H : AHeap}
theorem AW.mono {c : Code} {Q' : APost} (h : AW C c Q N T H) (hq : ∀ x N T H, Q x N T H → Q' x N T H) : AW C c Q' N T H :=
  fun e a w R hT hI hB hd => wp_mono (h e a w R hT hI hB hd) fun _ _ _ ⟨N, T, H, e, h1, h2⟩ => ⟨N, T, H, e, hq _ _ _ _ h1, h2⟩
theorem aw_skip (h : Q .normal N T H) : AW C .skip Q N T H := fun e a w R hT hI hB hd => wp_skip ⟨N, T, H, e, h, R, hT, hI, hB, hd⟩
theorem aw_label {l : Nat} (h : Q .normal N T H) : AW C (.label l) Q N T H := fun e a w R hT hI hB hd => wp_label ⟨N, T, H, e, h, R, hT, hI, hB, hd⟩
theorem aw_exit {id : Nat} (h : Q (.exit id) N T H) : AW C (.exit id) Q N T H := fun e a w R hT hI hB hd => wp_exit ⟨N, T, H, e, h, R, hT, hI, hB, hd⟩
theorem aw_ret (h : Q .ret N T H) : AW C .ret Q N T H := fun e a w R hT hI hB hd => wp_ret ⟨N, T, H, e, h, R, hT, hI, hB, hd⟩
def thenA (K : Nat → Regs → AHeap → Prop) (Q : APost) : APost
  | .normal, N, T, H => K N T H
  | x, N, T, H => Q x N T H
theorem aw_seq {x y : Code} (h : AW C x (thenA (AW C y Q) Q) N T H) : AW C (.seq x y) Q N T H := fun e a w R hT hI hB hd =>
  wp_seq (wp_mono (h e a w R hT hI hB hd) fun ex a w ⟨N, T, H, e, h1, R, hT, hI, hB, hd⟩ => by
    cases ex with
    | normal => exact h1 e a w R hT hI hB hd
    | _ => exact ⟨N, T, H, e, h1, R, hT, hI, hB, hd⟩)
theorem aw_seq_k {x y : Code} (h : ∀ K : Nat → Regs → AHeap → Prop, (∀ N T H, AW C y Q N T H → K N T H) → AW C x (thenA K Q) N T H) : AW C (.seq x y) Q N T H :=
  aw_seq (h _ fun _ _ _ h => h)
theorem aw_cond {c : Operand} {x y : Code} {q : Bool} (hc : rdOp T c = some (.v (.bool q))) (ht : q = true → AW C x Q N T H) (hf : q = false → AW C y Q N T H) : AW C (.cond c x y) Q N T H := fun e a w R hT hI hB hd =>
  wp_cond_split (hT.eval hc) (fun h => ht h e a w R hT hI hB hd) (fun h => hf h e a w R hT hI hB hd)
theorem aw_true {c : Operand} {x y : Code} (hc : rdOp T c = some (.v (.bool true))) (h : AW C x Q N T H) : AW C (.cond c x y) Q N T H := aw_cond hc (fun _ => h) (fun h => (by cases h))
theorem aw_false {c : Operand} {x y : Code} (hc : rdOp T c = some (.v (.bool false))) (h : AW C y Q N T H) : AW C (.cond c x y) Q N T H := aw_cond hc (fun h => (by cases h)) (fun _ => h)
def blockA (id : Nat) (Q : APost) : APost
  | .exit id', N, T, H => if id' = id then Q .normal N T H else Q (.exit id') N T H
  | x, N, T, H => Q x N T H
theorem aw_block {id : Nat} {c : Code} (h : AW C c (blockA id Q) N T H) : AW C (.block id c) Q N T H := fun e a w R hT hI hB hd =>
  wp_block (wp_mono (h e a w R hT hI hB hd) fun ex a w ⟨N, T, H, e, h1, h2⟩ => by
    cases ex with
    | exit id' =>
      simp only [blockA] at h1
      simp only [Exit.inBlock]
      split
      · rename_i hid; rw [if_pos hid] at h1; exact ⟨N, T, H, e, h1, h2⟩
      · rename_i hid; rw [if_neg hid] at h1; exact ⟨N, T, H, e, h1, h2⟩
    | _ => exact ⟨N, T, H, e, h1, h2⟩)
theorem least_ex {p : Nat → Prop} (h : ∃ m, p m) : ∃ m, p m ∧ ∀ k, p k → m ≤ k := by
  obtain ⟨m, hm⟩ := h
  induction m using Nat.strongRecOn with
  | _ m ih =>
    by_cases hk : ∃ k, k < m ∧ p k
    · obtain ⟨k, h1, h2⟩ := hk; exact ih k h1 h2
    · exact ⟨m, hm, fun k hp => Nat.le_of_not_lt fun hl => hk ⟨k, hl, hp⟩⟩
open Classical in
theorem aw_loop {c : Code} (I : Nat → Nat → Regs → AHeap → Prop) {m : Nat} (h0 : I m N T H) (round : ∀ m N T H, I m N T H → AW C c (thenA (fun N T H => ∃ m', m' < m ∧ I m' N T H) Q) N T H) : AW C (.loop c) Q N T H := by
  intro e a w R hT hI hB hd
  let J : Act → World → Nat → Prop := fun a w m => ∃ N T H e, I m N T H ∧ Rep C.G C.w0 C.B0 e H w ∧ RegsOK C.nt e T a ∧ RegsIn T H ∧ Bound H N ∧ a.defers = []
  refine wp_loop (fun a w => ∃ m, J a w m) (fun a w => if h : ∃ m, J a w m then Classical.choose (least_ex h) else 0) ⟨m, N, T, H, e, h0, R, hT, hI, hB, hd⟩ ?_
  intro a w hJ
  have hf := (Classical.choose_spec (least_ex hJ)).1
  obtain ⟨N, T, H, e, h1, R, hT, hI, hB, hd⟩ := hf
  refine wp_mono (round _ N T H h1 e a w R hT hI hB hd) ?_
  intro ex a' w' ⟨N', T', H', e', h2, R', hT', hI', hB', hd'⟩
  cases ex with
  | normal =>
    obtain ⟨m', hm', h3⟩ := h2
    have hJ' : J a' w' m' := ⟨N', T', H', e', h3, R', hT', hI', hB', hd'⟩
    refine ⟨⟨m', hJ'⟩, ?_⟩
    have h4 : ∃ m, J a' w' m := ⟨m', hJ'⟩
    simp only [dif_pos h4, dif_pos hJ]
    exact Nat.lt_of_le_of_lt ((Classical.choose_spec (least_ex h4)).2 _ hJ') hm'
  | _ => exact ⟨N', T', H', e', h2, R', hT', hI', hB', hd'⟩
/-- fewer registers, fewer blocks -/
theorem aw_less {c : Code} {N' : Nat} {T' : Regs} {H' : AHeap} (hT' : ∀ t x, T' t = some x → T t = some x) (hH : ∀ k o, H' k = some o → H k = some o) (hIn : RegsIn T' H') (hr : ∀ k o, H' k = some o → ∀ r ∈ o.refs, H' r ≠ none) (hdm : ∀ k ∈ C.B0.dom, H' k ≠ none) (hB' : Bound H' N')
    (h : AW C c Q N' T' H') : AW C c Q N T H := fun e a w R hT hI hB hd =>
  h e a w (R.less hH hr hdm) ⟨hT.1, fun t x hx => hT.2 t x (hT' t x hx)⟩ hIn hB' hd
theorem aw_scope {c : Code} (h : AW C c Q N T H) (hg : ∀ l N T H, ¬ Q (.goto l) N T H) : AW C (.scope c) Q N T H := fun e a w R hT hI hB hd =>
  wp_scope_straight (wp_mono (h e a w R hT hI hB hd) fun ex a w h => by
    cases ex with
    | goto l => obtain ⟨N, T, H, e, h1, _⟩ := h; exact absurd h1 (hg l N T H)
    | _ => exact h)
theorem aw_text {id : Nat} {ops : Array Oper} (hE : EqOK C.P C.E) (hd : dstsLt C.nt ops.toList = true) (h : evOps C.P C.G C.E C.w0 C.B0 ops N 0 ops.toList T H [] (fun T H _ => Q .normal (N + 2 * ops.size) T H)) : AW C (.region id ops false) Q N T H := by
  intro e a w R hT hI hB hdf
  refine wp_region ?_
  have := evOps_text (Q := PostA C Q) (ds := []) (nt := C.nt) hE (dstsLt_get hd) (fun T H tr e a w hK R hT hI hB hdf => ⟨_, T, H, e, hK, R, hT, hI, hB, hdf⟩) ops.toList 0 T H [] e a w (by simp) (Nat.zero_le _) h R hT hI hB hdf
  rwa [Nat.sub_zero, ← List.range_eq_range'] at this
theorem aw_draw {id : Nat} {ops : Array Oper} (hE : EqOK C.P C.E) (hm : C.P.follows .mixedOrders = true) (hd : drawOK ops C.nt = true)
    (h : evOps C.P C.G C.E C.w0 C.B0 ops N 0 ops.toList T H [] (fun T H tr => traceOK ops N tr = true ∧ Q .normal (N + 2 * ops.size) T H)) : AW C (.region id ops true) Q N T H := by
  intro e a w R hT hI hB hdf
  exact evOps_draw (Q := PostA C Q) (ds := []) hE hm hd h R hT hI hB hdf (fun T H e a w hK R hT hI hB hdf => ⟨_, T, H, e, hK, R, hT, hI, hB, hdf⟩)
end
/-! what a function answers -/
def resA (P : Program) (G : Glob) (T : Regs) (H : AHeap) : List ResultVar → Option (List AV)
  | [] => some []
  | .tmp t :: l => match T t, resA P G T H l with
    | some x, some r => some (x :: r)
    | _, _ => none
  | .cell a t :: l => match T a with
    | some (.loc b o) => match evLoad P G t H (.loc b o), resA P G T H l with
      | some (x, _, _), some r => some (x :: r)
      | _, _ => none
    | _ => none
def resV : List AV → AV
  | [x] => x
  | l => mkTup l
def rvRun (tmps : Array Value) : ResultVar → Sem Value
  | .tmp t => pure (tmps.getD t undef)
  | .cell x t => do loadVar t (← asAddr (tmps.getD x undef))
theorem resA_run {P : Program} {G : Glob} {T : Regs} {H : AHeap} {w0 : World} {B0 : Bas} {e : Env} {w : World} {nt : Nat} {a : Act} (R : Rep G w0 B0 e H w) (hT : RegsOK nt e T a) : ∀ {l : List ResultVar} {rs : List AV}, resA P G T H l = some rs →
    (l.mapM (rvRun a.tmps)).run P w = .ok (AV.vals e rs) w
  | [], rs, h => by simp only [resA, Option.some.injEq] at h; subst h; rfl
  | .tmp t :: l, rs, h => by
    simp only [resA] at h
    split at h
    · rename_i x r hx hr
      cases h
      have h1 : (rvRun a.tmps (.tmp t)).run P w = .ok (x.val e) w := by rw [← (hT.2 t x hx).2]; rfl
      rw [List.mapM_cons]
      simp only [Sem.run_bind, Sem.run_pure, Result.andThen, resA_run R hT hr, h1]
      rfl
    · cases h
  | .cell x t :: l, rs, h => by
    simp only [resA] at h
    split at h
    · rename_i b o hx
      split at h
      · rename_i y tc ef r hy hr
        cases h
        have h0 := (hT.2 x _ hx).2
        obtain ⟨_, h2, _⟩ := run_evLoad hy R
        simp only [Instr.loadAt, AV.val, Instr.sureAddr, Sem.run_bind, Sem.run_pure, Result.andThen] at h2
        have h1 : (rvRun a.tmps (.cell x t)).run P w = .ok (y.val e) w := by
          unfold rvRun
          simp only [h0, AV.val, asAddr, Sem.run_bind, Sem.run_pure, Result.andThen, h2]
        rw [List.mapM_cons]
        simp only [Sem.run_bind, Sem.run_pure, Result.andThen, resA_run R hT hr, h1]
        rfl
      · cases h
    · cases h
theorem results_eq (fn : Func) (tmps : Array Value) : results fn tmps = (do let vs ← fn.results.mapM (rvRun tmps); pure (if h : vs.size = 1 then vs[0] else .tuple vs)) := by
  unfold results
  congr 1
theorem results_run {P : Program} {G : Glob} {T : Regs} {H : AHeap} {w0 : World} {B0 : Bas} {e : Env} {w : World} {nt : Nat} {a : Act} (R : Rep G w0 B0 e H w) (hT : RegsOK nt e T a) {fn : Func} {rs : List AV} (h : resA P G T H fn.results.toList = some rs) :
    (results fn a.tmps).run P w = .ok ((resV rs).val e) w := by
  have h1 := resA_run (P := P) R hT h
  rw [results_eq, Array.mapM_eq_mapM_toList]
  simp only [Sem.run_bind, Sem.run_map, h1, Result.andThen, Sem.run_pure]
  congr 1
  have key : ∀ l : List Value, (if h : l.toArray.size = 1 then l.toArray[0] else Value.tuple l.toArray) = (match l with | [x] => x | l => .tuple l.toArray) := by
    intro l
    cases l with
    | nil => rfl
    | cons x l => cases l with
      | nil => rfl
      | cons y l => rw [dif_neg (by simp)]
  rw [key]
  cases rs with
  | nil => rfl
  | cons x rs =>
    cases rs with
    | nil => rfl
    | cons y rs =>
      rw [show resV (x :: y :: rs) = mkTup (x :: y :: rs) from rfl, mkTup_val]
      rfl
/-- the end of a function's walk -/
def retA (P : Program) (G : Glob) (fn : Func) (R : AV → AHeap → Prop) : APost
  | .normal, _, T, H => ∃ rs, resA P G T H fn.results.toList = some rs ∧ R (resV rs) H
  | .ret, _, T, H => ∃ rs, resA P G T H fn.results.toList = some rs ∧ R (resV rs) H
  | _, _, _, _ => False
/-- the registers at a function's start -/
def regs0 (args : List AV) (nt : Nat) : Regs := fun t => match args[t]? with
  | some x => if t < nt then some x else none
  | none => if t < nt then some (.v undef) else none
theorem calls_of_aw {P : Program} {G : Glob} {E : EqT} {f : FuncId} {fn : Func} {c : Code} {w : World} {B0 : Bas} {e0 : Env} {H0 : AHeap} {N0 : Nat} {args : List AV} {R : AV → AHeap → Prop} (hf : P.funcs[f]? = some fn) (hb : fn.body = some c)
    (hn : args.length ≤ fn.ntmps) (hR : Rep G w B0 e0 H0 w) (hB : Bound H0 N0) (ha : ∀ x ∈ args, ∀ r ∈ x.refs, H0 r ≠ none)
    (h : AW ⟨P, G, E, w, B0, fn.ntmps⟩ c (retA P G fn R) N0 (regs0 args fn.ntmps) H0) :
    Calls P f (AV.vals e0 args).toArray w fun en w' => ∃ r e H, en = .returned (r.val e) ∧ R r H ∧ Rep G w B0 e H w' := by
  refine calls_of_wp hf hb ?_
  have hT : RegsOK fn.ntmps e0 (regs0 args fn.ntmps) { tmps := (AV.vals e0 args).toArray ++ Array.replicate (fn.ntmps - (AV.vals e0 args).toArray.size) undef, defers := [] } := by
    refine ⟨by simp [vals_length]; omega, fun t x hx => ?_⟩
    unfold regs0 at hx
    have hget : (((AV.vals e0 args).toArray ++ Array.replicate (fn.ntmps - (AV.vals e0 args).toArray.size) undef).getD t undef) = (((AV.vals e0 args) ++ List.replicate (fn.ntmps - args.length) undef)[t]?).getD undef := by
      rw [Array.getD_eq_getD_getElem?, ← Array.getElem?_toList]
      simp [vals_length]
    rw [hget]
    split at hx
    · rename_i y hy
      split at hx
      · rename_i hlt
        cases hx
        refine ⟨hlt, ?_⟩
        have hlt' : t < args.length := (List.getElem?_eq_some_iff.1 hy).1
        rw [List.getElem?_append_left (by rw [vals_length]; exact hlt'), AV.vals_map]
        simp [hy]
      · cases hx
    · rename_i hy
      split at hx
      · rename_i hlt
        cases hx
        refine ⟨hlt, ?_⟩
        have hge : args.length ≤ t := by
          rcases Nat.lt_or_ge t args.length with h1 | h1
          · rw [List.getElem?_eq_getElem h1] at hy; cases hy
          · exact h1
        rw [List.getElem?_append_right (by rw [vals_length]; exact hge)]
        rw [List.getElem?_replicate]
        split <;> rfl
      · cases hx
  have hI : RegsIn (regs0 args fn.ntmps) H0 := by
    intro t x hx r hr
    unfold regs0 at hx
    split at hx
    · rename_i y hy
      split at hx
      · cases hx; exact ha x (List.mem_of_getElem? hy) r hr
      · cases hx
    · split at hx
      · cases hx; simp [AV.refs] at hr
      · cases hx
  refine wp_mono (h e0 _ w hR hT hI hB rfl) ?_
  rintro ex a w' ⟨N, T, H, e, hq, R', hT', hI', hB', hd⟩
  cases ex with
  | normal =>
    obtain ⟨rs, h1, h2⟩ := hq
    exact ⟨hd, _, results_run R' hT' h1, resV rs, e, H, rfl, h2, R'⟩
  | ret =>
    obtain ⟨rs, h1, h2⟩ := hq
    exact ⟨hd, _, results_run R' hT' h1, resV rs, e, H, rfl, h2, R'⟩
  | exit id => exact hq.elim
  | goto l => exact hq.elim
  | panic ch => exact hq.elim
  | outgrown => exact hq.elim
theorem callsX_of_calls {P : Program} {g : FuncId} {fn : Func} {args : Array Value} {w : World} {R : Ending → World → Prop} (hf : P.funcs[g]? = some fn) (hn : (fn.name == "runtime.NumGoroutine") = false) (hb : fn.body.isNone = false) (h : Calls P g args w R) : CallsX P g args w R := by
  unfold CallsX
  have : (callFunc g args).run P w = .ok (.enter g args) w := by
    unfold callFunc
    have hp : (program).run P w = .ok P w := rfl
    simp only [Sem.run_bind, hp, Result.andThen, hf, hn, hb, Bool.false_eq_true, if_false]
    rfl
  rw [this]
  exact h
theorem rep_start {G : Glob} {w : World} (hG : Gl G w) (e : Env) : Rep G w Bas.nil e (fun _ => none) w :=
  ⟨rfl, rfl, rfl, Nat.le_refl _, fun _ _ _ => rfl, hG, fun _ _ _ h => (by cases h), fun _ _ _ h => (by cases h), fun _ _ _ h => (by cases h), fun _ _ _ _ _ _ h => (by cases h), fun _ _ _ h => (by cases h), fun _ _ _ _ _ _ h => (by cases h), fun _ _ h => (by cases h), fun _ h => (by cases h)⟩
theorem Rep.bel {G : Glob} {w : World} {e : Env} {H : AHeap} {w' : World} (R : Rep G w Bas.nil e H w') : Bel w w' :=
  ⟨R.os, R.tape, R.output, R.size, fun k hk => R.old k hk (by simp [Bas.nil])⟩
/-- **a function of plain arguments and a plain answer** -/
theorem pc_of_aw {P : Program} {G : Glob} (E : EqT) {f : FuncId} {fn : Func} {c : Code} {args : List Value} {v : Value} (hf : P.funcs[f]? = some fn) (hb : fn.body = some c) (hn : (fn.name == "runtime.NumGoroutine") = false) (hl : (Nat.ble args.length fn.ntmps) = true)
    (h : ∀ w, AW ⟨P, G, E, w, Bas.nil, fn.ntmps⟩ c (retA P G fn (fun r _ => r = .v v)) 0 (regs0 (args.map .v) fn.ntmps) (fun _ => none)) : PC P G f args v := by
  intro w hG
  refine callsX_of_calls hf hn (by rw [hb]; rfl) ?_
  have := calls_of_aw (E := E) (e0 := ⟨fun _ => 0, fun _ => undef⟩) (args := args.map .v) hf hb (by simpa using hl) (rep_start hG _) (fun _ _ => rfl) (fun x hx r hr => by
    obtain ⟨y, _, rfl⟩ := List.mem_map.1 hx; simp [AV.refs] at hr) (h w)
  rw [vals_v] at this
  refine this.mono ?_
  rintro en w' ⟨r, e, H, rfl, rfl, R⟩
  exact ⟨rfl, R.bel⟩
end Go.Proofs.YtikjbocagnolmaaDoor
