/- mode.Next, walked: the map of the rules. -/
import Derived.Test.YtikjbocagnolmaaDoorBase
import Derived.Test.YtikjbocagnolmaaDoorNum
import Derived.WideMake
import Derived.Lib.Hide
namespace Go.Proofs.YtikjbocagnolmaaDoor
open Go.RowKit
set_option linter.unusedVariables false
theorem run_enter {P : Program} {g : FuncId} {fn : Func} (hf : P.funcs[g]? = some fn) (hn : (fn.name == "runtime.NumGoroutine") = false) (hb : fn.body.isNone = false) (args : Array Value) (w : World) : (callFunc g args).run P w = .ok (.enter g args) w := by
  unfold callFunc
  have hp : (program).run P w = .ok P w := rfl
  simp only [Sem.run_bind, hp, Result.andThen, hf, hn, hb, Bool.false_eq_true, if_false]
  rfl
def ruleE (k : Nat) : MapEntry := { key := .int .u8 (k : Int), val := .func (.func (130 + k)) #[] #[], born := k }
theorem ins_run (w : World) (es : Array MapEntry) (c : Nat) (k : Int) (v : Value) (h : Instr.findNow (.int .u8) (.int .u8 k) es.toList 0 = some none) :
    (Instr.mapUpdate 159 (.map (some w.heap.size)) (.int .u8 k) v).run Tryd.prog (w.alloc (.map es c)) = .ok () (w.alloc (.map (es.push { key := .int .u8 k, val := v, born := c }) (c + 1))) := by
  have hb : (w.alloc (.map es c)).heap[w.heap.size]? = some (.map es c) := by show (w.heap.push _)[w.heap.size]? = _; simp
  have hk : Tryd.prog.underlying 23 = some (.int .u8) := by kernel_rfl
  have hm : Tryd.prog.underlying 159 = some (.map 23 157) := by kernel_rfl
  have hc : (Instr.checkKey false 10000 23 (.int .u8 k)).run Tryd.prog (w.alloc (.map es c)) = .ok () (w.alloc (.map es c)) := MapKept.run_checkKey (k := .int .u8 k) hk (by simp [MapKept.IsKey]) false 9999
  have hs : (w.alloc (.map es c)).heap.setIfInBounds w.heap.size (.map (es.push { key := .int .u8 k, val := v, born := c }) (c + 1)) = w.heap.push (.map (es.push { key := .int .u8 k, val := v, born := c }) (c + 1)) := by
    show (w.heap.push _).setIfInBounds w.heap.size _ = _
    apply Array.ext'
    simp
  simp [Instr.mapUpdate, run_underlying hm, MapKept.run_getObj_map hb, hc, MapKept.run_findKey hk h, MapKept.run_setObj_map _ hb, Result.andThen, hs]
  rfl
theorem rules_c (w : World) : Calls Tryd.prog 126 #[] w fun e w' => e = .returned (.map (some w.heap.size)) ∧ w' = w.alloc (.map #[ruleE 0, ruleE 1, ruleE 2, ruleE 3, ruleE 4] 5) := by
  have e0 := Go.run_makeMap_plain (P := Tryd.prog) (w := w) 159
  have e1 := ins_run w #[] 0 0 (.func (.func 130) #[] #[]) rfl
  have e2 := ins_run w #[ruleE 0] 1 1 (.func (.func 131) #[] #[]) rfl
  have e3 := ins_run w #[ruleE 0, ruleE 1] 2 2 (.func (.func 132) #[] #[]) rfl
  have e4 := ins_run w #[ruleE 0, ruleE 1, ruleE 2] 3 3 (.func (.func 133) #[] #[]) rfl
  have e5 := ins_run w #[ruleE 0, ruleE 1, ruleE 2, ruleE 3] 4 4 (.func (.func 134) #[] #[]) rfl
  have f1 : (#[].push { key := .int .u8 0, val := .func (.func 130) #[] #[], born := 0 } : Array MapEntry) = #[ruleE 0] := rfl
  have f2 : (#[ruleE 0].push { key := .int .u8 1, val := .func (.func 131) #[] #[], born := 1 } : Array MapEntry) = #[ruleE 0, ruleE 1] := rfl
  have f3 : (#[ruleE 0, ruleE 1].push { key := .int .u8 2, val := .func (.func 132) #[] #[], born := 2 } : Array MapEntry) = #[ruleE 0, ruleE 1, ruleE 2] := rfl
  have f4 : (#[ruleE 0, ruleE 1, ruleE 2].push { key := .int .u8 3, val := .func (.func 133) #[] #[], born := 3 } : Array MapEntry) = #[ruleE 0, ruleE 1, ruleE 2, ruleE 3] := rfl
  have f5 : (#[ruleE 0, ruleE 1, ruleE 2, ruleE 3].push { key := .int .u8 4, val := .func (.func 134) #[] #[], born := 4 } : Array MapEntry) = #[ruleE 0, ruleE 1, ruleE 2, ruleE 3, ruleE 4] := rfl
  rw [f1] at e1; rw [f2] at e2; rw [f3] at e3; rw [f4] at e4; rw [f5] at e5
  clear f1 f2 f3 f4 f5
  go_enter Tryd.func126, Tryd.ntmps126
  go_wp2
  go_ret
  exact ⟨rfl, rfl⟩

theorem look_run (w : World) (es : Array MapEntry) (c : Nat) (m : Int) (i : Nat) (v : Value) (h : Instr.findNow (.int .u8) (.int .u8 m) es.toList 0 = some (some (i, v))) :
    (Instr.lookup 159 (.map (some w.heap.size)) (.int .u8 m) true).run Tryd.prog (w.alloc (.map es c)) = .ok (.tuple #[v, .bool true]) (w.alloc (.map es c)) := by
  have hb : (w.alloc (.map es c)).heap[w.heap.size]? = some (.map es c) := by show (w.heap.push _)[w.heap.size]? = _; simp
  have hk : Tryd.prog.underlying 23 = some (.int .u8) := by kernel_rfl
  have hm : Tryd.prog.underlying 159 = some (.map 23 157) := by kernel_rfl
  have hc : (Instr.checkKey es.isEmpty 10000 23 (.int .u8 m)).run Tryd.prog (w.alloc (.map es c)) = .ok () (w.alloc (.map es c)) := MapKept.run_checkKey (k := .int .u8 m) hk (by simp [MapKept.IsKey]) _ 9999
  simp [Instr.lookup, run_underlying hm, MapKept.run_getObj_map hb, hc, MapKept.run_findKey hk h, Result.andThen]
theorem look_miss (w : World) (es : Array MapEntry) (c : Nat) (m : Int) (h : Instr.findNow (.int .u8) (.int .u8 m) es.toList 0 = some none) :
    (Instr.lookup 159 (.map (some w.heap.size)) (.int .u8 m) true).run Tryd.prog (w.alloc (.map es c)) = .ok (.tuple #[.nilFunc, .bool false]) (w.alloc (.map es c)) := by
  have hb : (w.alloc (.map es c)).heap[w.heap.size]? = some (.map es c) := by show (w.heap.push _)[w.heap.size]? = _; simp
  have hk : Tryd.prog.underlying 23 = some (.int .u8) := by kernel_rfl
  have hm : Tryd.prog.underlying 159 = some (.map 23 157) := by kernel_rfl
  have hc : (Instr.checkKey es.isEmpty 10000 23 (.int .u8 m)).run Tryd.prog (w.alloc (.map es c)) = .ok () (w.alloc (.map es c)) := MapKept.run_checkKey (k := .int .u8 m) hk (by simp [MapKept.IsKey]) _ 9999
  have hi : (Tryd.prog.info? 157).bind (·.zero) = some .nilFunc := by kernel_rfl
  have hz : (zeroValue 157).run Tryd.prog (w.alloc (.map es c)) = .ok .nilFunc (w.alloc (.map es c)) := by
    cases hx : Tryd.prog.info? 157 with
    | none => rw [hx] at hi; cases hi
    | some x => rw [hx] at hi; simp at hi; simp [zeroValue, typeInfo, hx, hi]
  simp [Instr.lookup, run_underlying hm, MapKept.run_getObj_map hb, hc, MapKept.run_findKey hk h, hz, Result.andThen]
abbrev rulesE : Array MapEntry := #[ruleE 0, ruleE 1, ruleE 2, ruleE 3, ruleE 4]
theorem look_none {m : Int} (h : m < 0 ∨ 4 < m) : Instr.findNow (.int .u8) (.int .u8 m) rulesE.toList 0 = some none := by
  have a (j : Int) (hj : 0 ≤ j ∧ j ≤ 4) : (m == j) = false := by rw [beq_eq_false_iff_ne]; omega
  simp only [ruleE, Instr.findNow, Instr.sameNow, if_true]
  rw [show ((0 : Nat) : Int) = 0 from rfl, show ((1 : Nat) : Int) = 1 from rfl, show ((2 : Nat) : Int) = 2 from rfl, show ((3 : Nat) : Int) = 3 from rfl, show ((4 : Nat) : Int) = 4 from rfl, a 0 (by omega), a 1 (by omega), a 2 (by omega), a 3 (by omega), a 4 (by omega)]
set_option maxHeartbeats 4000000 in
theorem next_miss (m : Int) (neg odd : Bool) (r : Int) (w : World) (hm : m < 0 ∨ 4 < m) : Calls Tryd.prog 111 #[.int .u8 m, .bool neg, .bool odd, .int .u8 r] w fun e w' => e = .returned (.bool false) ∧ Bel w w' := by
  have HR := Lib.hid rules_c
  have hl := look_miss w rulesE 5 m (look_none hm)
  clear hm
  go_enter Tryd.func111, Tryd.ntmps111
  go_wp2_with (go_at_call 126; refine (HR.out _).mono ?_; rintro e w' ⟨rfl, rfl⟩)
  exact bodyPost_ret (v := .bool false) (by simp [results, Tryd.results111, go_sem]) rfl ⟨rfl, (Bel.refl w).alloc _⟩

def ruleB (k : Nat) (neg odd : Bool) (r : Int) : Bool := match k with
  | 0 => (r == 3) || ((r == 2) && odd)
  | 1 => decide (r ≥ 2)
  | 2 => !neg
  | 3 => neg
  | _ => false
theorem rule4_c (neg odd : Bool) (r : Int) (w : World) : Calls Tryd.prog 134 #[.bool neg, .bool odd, .int .u8 r] w fun e w' => e = .returned (.bool (ruleB 4 neg odd r)) ∧ w' = w := by
  go_enter Tryd.func134, Tryd.ntmps134
  go_wp2
  go_ret
  exact ⟨rfl, rfl⟩
theorem rule3_c (neg odd : Bool) (r : Int) (w : World) : Calls Tryd.prog 133 #[.bool neg, .bool odd, .int .u8 r] w fun e w' => e = .returned (.bool (ruleB 3 neg odd r)) ∧ w' = w := by
  go_enter Tryd.func133, Tryd.ntmps133
  go_wp2
  go_ret
  exact ⟨rfl, rfl⟩
theorem rule2_c (neg odd : Bool) (r : Int) (w : World) : Calls Tryd.prog 132 #[.bool neg, .bool odd, .int .u8 r] w fun e w' => e = .returned (.bool (ruleB 2 neg odd r)) ∧ w' = w := by
  go_enter Tryd.func132, Tryd.ntmps132
  go_wp2
  go_ret
  exact ⟨rfl, rfl⟩
theorem rule1_c (neg odd : Bool) (r : Int) (w : World) : Calls Tryd.prog 131 #[.bool neg, .bool odd, .int .u8 r] w fun e w' => e = .returned (.bool (ruleB 1 neg odd r)) ∧ w' = w := by
  go_enter Tryd.func131, Tryd.ntmps131
  go_wp2
  go_ret
  exact ⟨rfl, rfl⟩
theorem rule0_c (neg odd : Bool) (r : Int) (w : World) : Calls Tryd.prog 130 #[.bool neg, .bool odd, .int .u8 r] w fun e w' => e = .returned (.bool (ruleB 0 neg odd r)) ∧ w' = w := by
  by_cases h3 : (r == 3) = true
  · have hb : ruleB 0 neg odd r = true := by simp [ruleB, h3]
    rw [hb]
    go_enter Tryd.func130, Tryd.ntmps130
    go_wp2
    go_ret
    exact ⟨rfl, rfl⟩
  · have h3 : (r == 3) = false := by simpa using h3
    by_cases h2 : (r == 2) = true
    · have hb : ruleB 0 neg odd r = odd := by simp [ruleB, h3, h2]
      rw [hb]
      go_enter Tryd.func130, Tryd.ntmps130
      go_wp2
      go_ret
      exact ⟨rfl, rfl⟩
    · have h2 : (r == 2) = false := by simpa using h2
      have hb : ruleB 0 neg odd r = false := by simp [ruleB, h3, h2]
      rw [hb]
      go_enter Tryd.func130, Tryd.ntmps130
      go_wp2
      go_ret
      exact ⟨rfl, rfl⟩
set_option maxHeartbeats 4000000 in
theorem next_hit (k : Nat) (hk : k < 5) (neg odd : Bool) (r : Int) (w : World) : Calls Tryd.prog 111 #[.int .u8 (k : Int), .bool neg, .bool odd, .int .u8 r] w fun e w' => e = .returned (.bool (decide (r > 0) && (decide (r ≤ 3) && ruleB k neg odd r))) ∧ Bel w w' := by
  have HR := Lib.hid rules_c
  have hl := look_run w rulesE 5 k k (.func (.func (130 + k)) #[] #[]) (by
    rcases (show k = 0 ∨ k = 1 ∨ k = 2 ∨ k = 3 ∨ k = 4 by omega) with rfl | rfl | rfl | rfl | rfl <;> rfl)
  have HC := Lib.hid (show ∀ w, Calls Tryd.prog (130 + k) #[.bool neg, .bool odd, .int .u8 r] w fun e w' => e = .returned (.bool (ruleB k neg odd r)) ∧ w' = w by
    rcases (show k = 0 ∨ k = 1 ∨ k = 2 ∨ k = 3 ∨ k = 4 by omega) with rfl | rfl | rfl | rfl | rfl
    · exact rule0_c neg odd r
    · exact rule1_c neg odd r
    · exact rule2_c neg odd r
    · exact rule3_c neg odd r
    · exact rule4_c neg odd r)
  have hf : (callFunc (130 + k) #[.bool neg, .bool odd, .int .u8 r]).run Tryd.prog (w.alloc (.map rulesE 5)) = .ok (.enter (130 + k) #[.bool neg, .bool odd, .int .u8 r]) (w.alloc (.map rulesE 5)) := by
    rcases (show k = 0 ∨ k = 1 ∨ k = 2 ∨ k = 3 ∨ k = 4 by omega) with rfl | rfl | rfl | rfl | rfl
    · exact run_enter Tryd.func130 (by kernel_rfl) (by kernel_rfl) _ _
    · exact run_enter Tryd.func131 (by kernel_rfl) (by kernel_rfl) _ _
    · exact run_enter Tryd.func132 (by kernel_rfl) (by kernel_rfl) _ _
    · exact run_enter Tryd.func133 (by kernel_rfl) (by kernel_rfl) _ _
    · exact run_enter Tryd.func134 (by kernel_rfl) (by kernel_rfl) _ _
  generalize 130 + k = q at *
  generalize ruleB k neg odd r = b at *
  clear hk
  cases h1 : decide (r > 0) with
  | false =>
    go_enter Tryd.func111, Tryd.ntmps111
    go_wp2_with (go_at_call 126; refine (HR.out _).mono ?_; rintro e w' ⟨rfl, rfl⟩)
    exact bodyPost_ret (v := .bool false) (by simp [results, Tryd.results111, go_sem]) rfl ⟨rfl, (Bel.refl w).alloc _⟩
  | true =>
    cases h2 : decide (r ≤ 3) with
    | false =>
      go_enter Tryd.func111, Tryd.ntmps111
      go_wp2_with (go_at_call 126; refine (HR.out _).mono ?_; rintro e w' ⟨rfl, rfl⟩)
      exact bodyPost_ret (v := .bool false) (by simp [results, Tryd.results111, go_sem]) rfl ⟨rfl, (Bel.refl w).alloc _⟩
    | true =>
      go_enter Tryd.func111, Tryd.ntmps111
      go_wp2_with (go_at_call 126; refine (HR.out _).mono ?_; rintro e w' ⟨rfl, rfl⟩)
      refine (HC.out _).mono ?_
      rintro e w' ⟨rfl, rfl⟩
      go_wp2
      exact bodyPost_ret (v := .bool b) (by simp [results, Tryd.results111, go_sem]) rfl ⟨by simp, (Bel.refl w).alloc _⟩

/-- the next one? -/
def nextB (m : Int) (neg odd : Bool) (r : Int) : Bool :=
  decide (r > 0) && (decide (r ≤ 3) && (if m = 0 then ruleB 0 neg odd r else if m = 1 then ruleB 1 neg odd r else if m = 2 then ruleB 2 neg odd r else if m = 3 then ruleB 3 neg odd r else false))
theorem next_c (m : Int) (neg odd : Bool) (r : Int) (w : World) : Calls Tryd.prog 111 #[.int .u8 m, .bool neg, .bool odd, .int .u8 r] w fun e w' => e = .returned (.bool (nextB m neg odd r)) ∧ Bel w w' := by
  have hit := fun k hk => next_hit k hk neg odd r w
  unfold nextB
  by_cases h0 : m = 0
  · subst h0; simpa using hit 0 (by decide)
  · by_cases h1 : m = 1
    · subst h1; simpa using hit 1 (by decide)
    · by_cases h2 : m = 2
      · subst h2; simpa using hit 2 (by decide)
      · by_cases h3 : m = 3
        · subst h3; simpa using hit 3 (by decide)
        · rw [if_neg h0, if_neg h1, if_neg h2, if_neg h3, Bool.and_false, Bool.and_false]
          by_cases h4 : m = 4
          · subst h4; simpa [ruleB] using hit 4 (by decide)
          · exact next_miss m neg odd r w (by omega)
end Go.Proofs.YtikjbocagnolmaaDoor
