import Derived.Test.YtemomocmfggiaaaGreatDoorSxHU2
import Derived.Test.YtemomocmfggiaaaGreatDoorZBU2
import Derived.Test.YtemomocmfggiaaaGreatDoorW13U2
namespace Go.Proofs.YtemomocmfggiaaaGreatDoor
set_option linter.unusedVariables false
set_option linter.unusedSimpArgs false
set_option maxRecDepth 100000
open Go.RowKit
abbrev tSm : TypeId := 189
def smE (k : Int) (g : FuncId) (c : Nat) : MapEntry := { key := .int .u8 k, val := .func (.func g) #[] #[], born := c }
theorem sm_ins (w : World) (es : Array MapEntry) (c : Nat) (k : Int) (v : Value) (h : Instr.findNow (.int .u8) (.int .u8 k) es.toList 0 = some none) :
  (Instr.mapUpdate tSm (.map (some w.heap.size)) (.int .u8 k) v).run Tryz.prog (w.alloc (.map es c)) = .ok () (w.alloc (.map (es.push { key := .int .u8 k, val := v, born := c }) (c + 1))) := by
 have hb : (w.alloc (.map es c)).heap[w.heap.size]? = some (.map es c) := by show (w.heap.push _)[w.heap.size]? = _; simp
 have hk : Tryz.prog.underlying 75 = some (.int .u8) := by kernel_rfl
 have hm : Tryz.prog.underlying tSm = some (.map 75 149) := by kernel_rfl
 have hc : (Instr.checkKey false 10000 75 (.int .u8 k)).run Tryz.prog (w.alloc (.map es c)) = .ok () (w.alloc (.map es c)) := MapKept.run_checkKey (k := .int .u8 k) hk (by simp [MapKept.IsKey]) false 9999
 have hs : (w.alloc (.map es c)).heap.setIfInBounds w.heap.size (.map (es.push { key := .int .u8 k, val := v, born := c }) (c + 1)) = w.heap.push (.map (es.push { key := .int .u8 k, val := v, born := c }) (c + 1)) := by
  show (w.heap.push _).setIfInBounds w.heap.size _ = _
  apply Array.ext'
  simp
 simp [Instr.mapUpdate, run_underlying hm, MapKept.run_getObj_map hb, hc, MapKept.run_findKey hk h, MapKept.run_setObj_map _ hb, Result.andThen, hs]
 rfl
theorem sm_look (w : World) (es : Array MapEntry) (c : Nat) (m : Int) (i : Nat) (v : Value) (h : Instr.findNow (.int .u8) (.int .u8 m) es.toList 0 = some (some (i, v))) :
  (Instr.lookup tSm (.map (some w.heap.size)) (.int .u8 m) true).run Tryz.prog (w.alloc (.map es c)) = .ok (.tuple #[v, .bool true]) (w.alloc (.map es c)) := by
 have hb : (w.alloc (.map es c)).heap[w.heap.size]? = some (.map es c) := by show (w.heap.push _)[w.heap.size]? = _; simp
 have hk : Tryz.prog.underlying 75 = some (.int .u8) := by kernel_rfl
 have hm : Tryz.prog.underlying tSm = some (.map 75 149) := by kernel_rfl
 have hc : (Instr.checkKey es.isEmpty 10000 75 (.int .u8 m)).run Tryz.prog (w.alloc (.map es c)) = .ok () (w.alloc (.map es c)) := MapKept.run_checkKey (k := .int .u8 m) hk (by simp [MapKept.IsKey]) _ 9999
 simp [Instr.lookup, run_underlying hm, MapKept.run_getObj_map hb, hc, MapKept.run_findKey hk h, Result.andThen]
theorem sm_miss (w : World) (es : Array MapEntry) (c : Nat) (m : Int) (h : Instr.findNow (.int .u8) (.int .u8 m) es.toList 0 = some none) :
  (Instr.lookup tSm (.map (some w.heap.size)) (.int .u8 m) true).run Tryz.prog (w.alloc (.map es c)) = .ok (.tuple #[.nilFunc, .bool false]) (w.alloc (.map es c)) := by
 have hb : (w.alloc (.map es c)).heap[w.heap.size]? = some (.map es c) := by show (w.heap.push _)[w.heap.size]? = _; simp
 have hk : Tryz.prog.underlying 75 = some (.int .u8) := by kernel_rfl
 have hm : Tryz.prog.underlying tSm = some (.map 75 149) := by kernel_rfl
 have hc : (Instr.checkKey es.isEmpty 10000 75 (.int .u8 m)).run Tryz.prog (w.alloc (.map es c)) = .ok () (w.alloc (.map es c)) := MapKept.run_checkKey (k := .int .u8 m) hk (by simp [MapKept.IsKey]) _ 9999
 have hi : (Tryz.prog.info? 149).bind (·.zero) = some .nilFunc := by kernel_rfl
 have hz : (zeroValue 149).run Tryz.prog (w.alloc (.map es c)) = .ok .nilFunc (w.alloc (.map es c)) := by
  cases hx : Tryz.prog.info? 149 with
  | none => rw [hx] at hi; cases hi
  | some x => rw [hx] at hi; simp at hi; simp [zeroValue, typeInfo, hx, hi]
 simp [Instr.lookup, run_underlying hm, MapKept.run_getObj_map hb, hc, MapKept.run_findKey hk h, hz, Result.andThen]
def smF (c : Int) : Value := if c = 0 then .func (.func 152) #[] #[] else if c = 3 then .func (.func 141) #[] #[] else .nilFunc
def smQ (c : Int) : Bool := decide (c = 0 ∨ c = 3)
theorem sm_run (w : World) (c : Int) : (Instr.lookup tSm (.map (some w.heap.size)) (.int .u8 c) true).run Tryz.prog (w.alloc (.map #[smE 0 152 0, smE 3 141 1] 2)) = .ok (.tuple #[smF c, .bool (smQ c)]) (w.alloc (.map #[smE 0 152 0, smE 3 141 1] 2)) := by
 by_cases h0 : c = 0
 ·subst h0; exact sm_look w _ _ 0 0 _ rfl
 ·by_cases h3 : c = 3
  ·subst h3; exact sm_look w _ _ 3 1 _ rfl
  ·have hF : smF c = .nilFunc := by unfold smF; rw [if_neg h0, if_neg h3]
   have hQ : smQ c = false := decide_eq_false (by omega)
   rw [hF, hQ]
   refine sm_miss w _ _ c ?_
   have a0 : (c == 0) = false := by rw [beq_eq_false_iff_ne]; exact h0
   have a3 : (c == 3) = false := by rw [beq_eq_false_iff_ne]; exact h3
   simp only [smE, Instr.findNow, Instr.sameNow, if_true]
   rw [a0, a3]
theorem ops_step {P : Program} {ops : Array Oper} {i : Nat} {o : Oper} {rest : List Nat} {a : Act} {w : World} {Q : Exit → Act → World → Prop} (ho : ops[i]? = some o) (hg : o.guard = none) (h : o.wp P a w (wpOps P ops Q rest) Q) : wpOps P ops Q (i :: rest) a w := by
 rw [wpOps]; simp only [ho]
 rw [show Region.wanted o (yielded ops a.tmps) = true from by unfold Region.wanted; rw [hg]]
 simp only [if_true]
 exact .inl h
theorem op_value {P : Program} {o : Oper} {a : Act} {w w' : World} {v : Value} {K : Act → World → Prop} {Q : Exit → Act → World → Prop} (h : (execOp a.eval o).run P w = .ok (.value v) w') (hK : K (a.put o.dst v) w') : o.wp P a w K Q := by
 unfold Oper.wp; rw [h]; exact hK
theorem op_skip {P : Program} {o : Oper} {a : Act} {w w' : World} {K : Act → World → Prop} {Q : Exit → Act → World → Prop} (h : (execOp a.eval o).run P w = .ok .skip w') (hK : K (a.put o.dst undef) w') : o.wp P a w K Q := by
 unfold Oper.wp; rw [h]; exact hK
def opKey (o : Oper) : Option Tmp × Op × Option (Nat × Bool) := (o.dst, o.op, o.guard)
theorem opKey_get {R : Array Oper} {l : List (Option Tmp × Op × Option (Nat × Bool))} (h : R.toList.map opKey = l) {i : Nat} {d : Option Tmp} {op : Op} (hi : l[i]? = some (d, op, none)) : ∃ o, R[i]? = some o ∧ o.dst = d ∧ o.op = op ∧ o.guard = none := by
 rw [← h, List.getElem?_map] at hi
 cases ho : R.toList[i]? with
 | none => rw [ho] at hi; cases hi
 | some o =>
  rw [ho] at hi
  simp only [Option.map_some, Option.some.injEq, opKey, Prod.mk.injEq] at hi
  exact ⟨o, by rw [← Array.getElem?_toList]; exact ho, hi.1, hi.2.1, hi.2.2⟩
def keyS : KeyF := fun c => match c with
 | .seq (.region 7 _ _) _ => some 0
 | _ => none
noncomputable def bodyS : Code := (Tryz.f88.body).getD .skip
noncomputable def nodeS : Code := match keyed keyS bodyS with | (_, c) :: _ => c | [] => .skip
def opsOf : Code → Array Oper | .region _ o _ => o | _ => #[]
def sq1 : Code → Code | .seq a _ => a | c => c
def sq2 : Code → Code | .seq _ b => b | c => c
noncomputable def R7 : Array Oper := opsOf (sq1 nodeS)
noncomputable def R8 : Array Oper := opsOf (sq1 (sq1 (sq2 nodeS)))
noncomputable def XXs : Code := sq2 (sq1 (sq2 nodeS))
noncomputable def YYs : Code := sq2 (sq2 nodeS)
theorem nodeS_eq : nodeS = .seq (.region 7 R7 false) (.seq (.seq (.region 8 R8 false) XXs) YYs) := by kernel_rfl
theorem keyedS : keyed keyS bodyS = [(0, nodeS)] := by kernel_rfl
theorem R7_keys : R7.toList.map opKey = [(some 52, .makeMap tSm none, none), (none, .insert tSm (.tmp 52) (.const (.int .u8 0)) (.func 152), none), (none, .insert tSm (.tmp 52) (.const (.int .u8 3)) (.func 141), none), (some 53, .move (.tmp 52), none), (some 10, .assign (.tmp 53), none)] := by kernel_rfl
theorem R8_keys : R8.toList.map opKey = [(some 55, .move (.tmp 10), none), (some 56, .fieldAddr 170 (.tmp 7) 1, none), (some 57, .load 75 (.tmp 56), none), (some 58, .lookup tSm (.tmp 55) (.tmp 57) true, none), (some 54, .move (.tmp 58), none), (some 59, .extract (.tmp 54) 0, none), (some 60, .extract (.tmp 54) 1, none), (some 11, .assign (.tmp 59), none), (some 12, .assign (.tmp 60), none)] := by kernel_rfl
theorem R7_size : List.range R7.size = [0, 1, 2, 3, 4] := by kernel_rfl
theorem R8_size : List.range R8.size = [0, 1, 2, 3, 4, 5, 6, 7, 8] := by kernel_rfl
def smT (T : Regs) (c : Int) : Regs := fun t => if t = 11 then some (.v (smF c)) else if t = 12 then some (.v (.bool (smQ c))) else if t = 10 ∨ (52 ≤ t ∧ t ≤ 60) then none else T t
theorem Regs_put_get {T : Regs} {d t : Nat} {x : AV} : (T.put (some d) x) t = if t = d then some x else T t := rfl
theorem act_put_none (a : Act) (v : Value) : a.put none v = a := rfl
theorem sm_walk {E : EqT} {w0 : World} {B0 : Bas} {nt N : Nat} {T T2 : Regs} {H : AHeap} {b : Nat} {cs : List AV} {t : TypeId} {c : Int} {Q : APost}
  (hnt : 103 ≤ nt) (h7 : T 7 = some (.loc b 0)) (hb : H b = some (.own cs t)) (hc : ldCells Tryz.prog 75 cs 1 = some (.v (.int .u8 c))) (hf : evFieldAddr Tryz.prog 170 1 (.loc b 0) = some (.loc b 1))
  (hT2 : ∀ t x, T2 t = some x → smT T c t = some x) (h : AW ⟨Tryz.prog, gG, E, w0, B0, nt⟩ XXs (thenA (AW ⟨Tryz.prog, gG, E, w0, B0, nt⟩ YYs Q) Q) N T2 H) : AW ⟨Tryz.prog, gG, E, w0, B0, nt⟩ nodeS Q N T H := by
 intro e a w R hT hI hB hd
 rw [nodeS_eq]
 obtain ⟨p0, g0, d0, k0, q0⟩ := opKey_get R7_keys (i := 0) rfl
 obtain ⟨p1, g1, d1, k1, q1⟩ := opKey_get R7_keys (i := 1) rfl
 obtain ⟨p2, g2, d2, k2, q2⟩ := opKey_get R7_keys (i := 2) rfl
 obtain ⟨p3, g3, d3, k3, q3⟩ := opKey_get R7_keys (i := 3) rfl
 obtain ⟨p4, g4, d4, k4, q4⟩ := opKey_get R7_keys (i := 4) rfl
 obtain ⟨m, hm⟩ : ∃ m : Value, m = .map (some w.heap.size) := ⟨_, rfl⟩
 have s0 := hT.put (d := some 52) (fun t ht => (by cases ht; exact Nat.lt_of_lt_of_le (by decide) hnt)) (.v m)
 simp only [AV.val] at s0
 have s1 := s0.put (d := some 53) (fun t ht => (by cases ht; exact Nat.lt_of_lt_of_le (by decide) hnt)) (.v m)
 simp only [AV.val] at s1
 have s2 := s1.put (d := some 10) (fun t ht => (by cases ht; exact Nat.lt_of_lt_of_le (by decide) hnt)) (.v m)
 simp only [AV.val] at s2
 have e52 : (a.put (some 52) m).eval (.tmp 52) = m := s0.eval (x := .tmp 52) (y := .v m) rfl
 have e53 : ((a.put (some 52) m).put (some 53) m).eval (.tmp 53) = m := s1.eval (x := .tmp 53) (y := .v m) rfl
 refine wp_seq (wp_region ?_)
 rw [R7_size]
 refine ops_step g0 q0 (op_value (v := m) (w' := w.alloc (.map #[] 0)) (by unfold execOp; rw [k0]; simp [run_makeMap_plain, hm]) ?_)
 rw [d0]
 refine ops_step g1 q1 (op_skip (w' := w.alloc (.map #[smE 0 152 0] 1)) (by unfold execOp; rw [k1]; simp only []; rw [e52, hm]; have := sm_ins w #[] 0 0 (.func (.func 152) #[] #[]) rfl; simp [Act.eval, this]; rfl) ?_)
 rw [d1, act_put_none]
 refine ops_step g2 q2 (op_skip (w' := w.alloc (.map #[smE 0 152 0, smE 3 141 1] 2)) (by unfold execOp; rw [k2]; simp only []; rw [e52, hm]; have := sm_ins w #[smE 0 152 0] 1 3 (.func (.func 141) #[] #[]) rfl; simp [Act.eval, this]; rfl) ?_)
 rw [d2, act_put_none]
 refine ops_step g3 q3 (op_value (v := m) (w' := w.alloc (.map #[smE 0 152 0, smE 3 141 1] 2)) (by unfold execOp; rw [k3]; simp only []; rw [e52]; rfl) ?_)
 rw [d3]
 refine ops_step g4 q4 (op_value (v := m) (w' := w.alloc (.map #[smE 0 152 0, smE 3 141 1] 2)) (by unfold execOp; rw [k4]; simp only []; rw [e53]; rfl) ?_)
 rw [d4]
 simp only [wpOps]
 have R3 : Rep gG w0 B0 e H (w.alloc (.map #[smE 0 152 0, smE 3 141 1] 2)) := R.below ((Bel.refl w).alloc _)
 have hlook := sm_run w c
 rw [← hm] at hlook
 generalize w.alloc (.map #[smE 0 152 0, smE 3 141 1] 2) = w3 at *
 generalize hT3 : ((T.put (some 52) (.v m)).put (some 53) (.v m)).put (some 10) (.v m) = T3 at s2
 generalize ha3 : ((a.put (some 52) m).put (some 53) m).put (some 10) m = a3 at *
 have hd3 : a3.defers = [] := by rw [← ha3]; simp only [Act.put_defers]; exact hd
 have t10 : T3 10 = some (.v m) := by rw [← hT3]; rfl
 have t7 : T3 7 = some (.loc b 0) := by rw [← hT3]; exact h7
 obtain ⟨o0, G0, D0, K0, Q0⟩ := opKey_get R8_keys (i := 0) rfl
 obtain ⟨o1, G1, D1, K1, Q1⟩ := opKey_get R8_keys (i := 1) rfl
 obtain ⟨o2, G2, D2, K2, Q2⟩ := opKey_get R8_keys (i := 2) rfl
 obtain ⟨o3, G3, D3, K3, Q3⟩ := opKey_get R8_keys (i := 3) rfl
 obtain ⟨o4, G4, D4, K4, Q4⟩ := opKey_get R8_keys (i := 4) rfl
 obtain ⟨o5, G5, D5, K5, Q5⟩ := opKey_get R8_keys (i := 5) rfl
 obtain ⟨o6, G6, D6, K6, Q6⟩ := opKey_get R8_keys (i := 6) rfl
 obtain ⟨o7, G7, D7, K7, Q7⟩ := opKey_get R8_keys (i := 7) rfl
 obtain ⟨o8, G8, D8, K8, Q8⟩ := opKey_get R8_keys (i := 8) rfl
 have pt : ∀ (d : Nat), d < 103 → ∀ t, some d = some t → t < nt := fun d hd t ht => (by cases ht; exact Nat.lt_of_lt_of_le hd hnt)
 obtain ⟨tp, htp⟩ : ∃ tp : Value, tp = .tuple #[smF c, .bool (smQ c)] := ⟨_, rfl⟩
 have hl : evLoad Tryz.prog gG 75 H (.loc b 1) = some (.v (.int .u8 c), [b], []) := by unfold evLoad; simp only [hb, hc]
 obtain ⟨-, hload, -⟩ := run_evLoad hl R3
 obtain ⟨hfa, -⟩ := run_evFieldAddr hf R3
 have val_v : ∀ v, (AV.v v).val e = v := fun v => rfl
 have z1 := s2.put (d := some 55) (pt 55 (by decide)) (.v m)
 have z2 := z1.put (d := some 56) (pt 56 (by decide)) (.loc b 1)
 have z3 := z2.put (d := some 57) (pt 57 (by decide)) (.v (.int .u8 c))
 have z4 := z3.put (d := some 58) (pt 58 (by decide)) (.v tp)
 have z5 := z4.put (d := some 54) (pt 54 (by decide)) (.v tp)
 have z6 := z5.put (d := some 59) (pt 59 (by decide)) (.v (smF c))
 have z7 := z6.put (d := some 60) (pt 60 (by decide)) (.v (.bool (smQ c)))
 have z8 := z7.put (d := some 11) (pt 11 (by decide)) (.v (smF c))
 have z9 := z8.put (d := some 12) (pt 12 (by decide)) (.v (.bool (smQ c)))
 have y0 := s2.eval (x := .tmp 10) t10
 have y1 := z1.eval (x := .tmp 7) (y := .loc b 0) t7
 have y2 := z2.eval (x := .tmp 56) (y := .loc b 1) rfl
 have y3 := z3.eval (x := .tmp 55) (y := .v m) rfl
 have y3' := z3.eval (x := .tmp 57) (y := .v (.int .u8 c)) rfl
 have y4 := z4.eval (x := .tmp 58) (y := .v tp) rfl
 have y5 := z5.eval (x := .tmp 54) (y := .v tp) rfl
 have y6 := z6.eval (x := .tmp 54) (y := .v tp) rfl
 have y7 := z7.eval (x := .tmp 59) (y := .v (smF c)) rfl
 have y8 := z8.eval (x := .tmp 60) (y := .v (.bool (smQ c))) rfl
 simp only [val_v] at z1 z2 z3 z4 z5 z6 z7 z8 z9 y0 y1 y2 y3 y3' y4 y5 y6 y7 y8
 refine wp_seq (wp_seq (wp_region ?_))
 rw [R8_size]
 refine ops_step G0 Q0 (op_value (v := m) (w' := w3) (by unfold execOp; rw [K0]; simp only []; rw [y0]; rfl) ?_)
 rw [D0]
 refine ops_step G1 Q1 (op_value (v := (AV.loc b 1).val e) (w' := w3) (by unfold execOp; rw [K1]; simp only []; rw [y1]; simp [hfa]) ?_)
 rw [D1]
 refine ops_step G2 Q2 (op_value (v := .int .u8 c) (w' := w3) (by unfold execOp; rw [K2]; simp only []; rw [y2]; simp only [AV.val] at hload ⊢; simp [hload]) ?_)
 rw [D2]
 refine ops_step G3 Q3 (op_value (v := tp) (w' := w3) (by unfold execOp; rw [K3]; simp only []; rw [y3, y3']; simp [hlook, htp]) ?_)
 rw [D3]
 refine ops_step G4 Q4 (op_value (v := tp) (w' := w3) (by unfold execOp; rw [K4]; simp only []; rw [y4]; rfl) ?_)
 rw [D4]
 refine ops_step G5 Q5 (op_value (v := smF c) (w' := w3) (by unfold execOp; rw [K5]; simp only []; rw [y5, htp]; rfl) ?_)
 rw [D5]
 refine ops_step G6 Q6 (op_value (v := .bool (smQ c)) (w' := w3) (by unfold execOp; rw [K6]; simp only []; rw [y6, htp]; rfl) ?_)
 rw [D6]
 refine ops_step G7 Q7 (op_value (v := smF c) (w' := w3) (by unfold execOp; rw [K7]; simp only []; rw [y7]; rfl) ?_)
 rw [D7]
 refine ops_step G8 Q8 (op_value (v := .bool (smQ c)) (w' := w3) (by unfold execOp; rw [K8]; simp only []; rw [y8]; rfl) ?_)
 rw [D8]
 simp only [wpOps, Exit.then]
 have hTT : ∀ t x, smT T c t = some x → (((((((((T3.put (some 55) (.v m)).put (some 56) (.loc b 1)).put (some 57) (.v (.int .u8 c))).put (some 58) (.v tp)).put (some 54) (.v tp)).put (some 59) (.v (smF c))).put (some 60) (.v (.bool (smQ c)))).put (some 11) (.v (smF c))).put (some 12) (.v (.bool (smQ c)))) t = some x := fun t x hx => by
  unfold smT at hx
  rw [← hT3]
  simp only [Regs_put_get]
  by_cases h11 : t = 11
  ·rw [if_pos h11] at hx; rw [if_neg (by omega), if_pos h11]; exact hx
  ·rw [if_neg h11] at hx
   by_cases h12 : t = 12
   ·rw [if_pos h12] at hx; rw [if_pos h12]; exact hx
   ·rw [if_neg h12] at hx
    by_cases hr : t = 10 ∨ (52 ≤ t ∧ t ≤ 60)
    ·rw [if_pos hr] at hx; cases hx
    ·rw [if_neg hr] at hx
     rw [if_neg h12, if_neg h11, if_neg (by omega), if_neg (by omega), if_neg (by omega), if_neg (by omega), if_neg (by omega), if_neg (by omega), if_neg (by omega), if_neg (by omega), if_neg (by omega), if_neg (by omega)]
     exact hx
 have hII : RegsIn (smT T c) H := fun t x hx r hr => by
  unfold smT at hx
  split at hx
  ·cases hx; cases hr
  ·split at hx
   ·cases hx; cases hr
   ·split at hx
    ·cases hx
    ·exact hI t x hx r hr
 refine wp_mono (h e _ w3 R3 ⟨z9.1, fun t x hx => z9.2 t x (hTT t x (hT2 t x hx))⟩ (fun t x hx => hII t x (hT2 t x hx)) hB (by simp only [Act.put_defers]; exact hd3)) ?_
 rintro ex a4 w4 ⟨N4, T4, H4, e4, h1, h2⟩
 cases ex with
 | normal => exact h1 e4 a4 w4 h2.1 h2.2.1 h2.2.2.1 h2.2.2.2.1 h2.2.2.2.2
 | _ => exact ⟨N4, T4, H4, e4, h1, h2⟩
end Go.Proofs.YtemomocmfggiaaaGreatDoor
