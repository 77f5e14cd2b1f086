/- Walks on abstract states: what a walk of this seat goes by. No function of the program. -/
import Derived.Test.YtikjbocagnolmaaDoorAw10
namespace Go.Proofs.YtikjbocagnolmaaDoor
set_option linter.unusedVariables false
open Go.RowKit
/-- the table of formats, as it is laid -/
def gG : Glob := [(0, [.int .i64 16, .int .i64 11, .int .i64 15, .int .i64 32, .int .i64 24, .int .i64 127, .int .i64 64, .int .i64 53, .int .i64 1023, .int .i64 128, .int .i64 113, .int .i64 16383])]
theorem gCells_g : gCells gG 0 = some [.int .i64 16, .int .i64 11, .int .i64 15, .int .i64 32, .int .i64 24, .int .i64 127, .int .i64 64, .int .i64 53, .int .i64 1023, .int .i64 128, .int .i64 113, .int .i64 16383] := rfl
theorem beq_tf : (true == false) = false := rfl
theorem beq_ft : (false == true) = false := rfl
theorem beq_tt : (true == true) = true := rfl
theorem beq_ff : (false == false) = true := rfl
theorem put_app (T : Regs) (d : Nat) (x : AV) (t : Nat) : (T.put (some d) x) t = if t = d then some x else T t := rfl
theorem hput_app (H : AHeap) (k : Nat) (o : AO) (j : Nat) : (H.put k o) j = if j = k then some o else H j := rfl
def regsB (nt : Nat) : Regs := fun t => if t < nt then some (.v undef) else none
def regsL : Nat → List AV → Regs → Regs
  | _, [], T => T
  | k, x :: l, T => regsL (k + 1) l (T.put (some k) x)
theorem regsB_app (nt t : Nat) : regsB nt t = if t < nt then some (.v undef) else none := rfl
theorem regsL_get : ∀ (l : List AV) (k : Nat) (T : Regs) (t : Nat), regsL k l T t = if k ≤ t ∧ t < k + l.length then l[t - k]? else T t
  | [], k, T, t => by simp [regsL]; omega
  | x :: l, k, T, t => by
    rw [regsL, regsL_get l (k + 1)]
    by_cases h1 : t = k
    · subst h1
      rw [if_neg (by omega), if_pos (by simp), put_app]; simp
    · by_cases h2 : k + 1 ≤ t ∧ t < k + 1 + l.length
      · rw [if_pos h2, if_pos (by simp; omega), show t - k = (t - (k + 1)) + 1 by omega]; simp
      · rw [if_neg h2, if_neg (by simp; omega), put_app, if_neg h1]
theorem regs0_eq {args : List AV} {nt : Nat} (h : args.length ≤ nt) : regs0 args nt = regsL 0 args (regsB nt) := by
  funext t
  rw [regsL_get]
  by_cases h1 : t < args.length
  · rw [if_pos (by omega)]; unfold regs0; simp [h1]; omega
  · rw [if_neg (by omega)]; unfold regs0 regsB; rw [List.getElem?_eq_none (by omega)]
theorem pc_aw {P : Program} {G : Glob} (E : EqT) {f : FuncId} {fn : Func} {c : Code} {args : List Value} {v : Value} (hf : P.funcs[f]? = some fn) (hb : fn.body = some c) (hn : (fn.name == "runtime.NumGoroutine") = false) (hl : (Nat.ble args.length fn.ntmps) = true)
    (h : ∀ w, AW ⟨P, G, E, w, Bas.nil, fn.ntmps⟩ c (retA P G fn (fun r _ => r = .v v)) 0 (regsL 0 (args.map .v) (regsB fn.ntmps)) (fun _ => none)) : PC P G f args v :=
  pc_of_aw E hf hb hn hl fun w => by rw [regs0_eq (by simpa using hl)]; exact h w
/-- a pure call, met -/
theorem met {P : Program} {G : Glob} {w0 : World} {B0 : Bas} {g : FuncId} {args : List AV} {vs : List Value} {v : Value} {H : AHeap} {k : Nat} {R : AV → List Nat → List (Nat × AO) → Prop} {u : Hold R} (hp : PC P G g vs v) (ha : allV args = some vs) (h : R (.v v) [] []) :
    CallG P G w0 B0 g args H k R u :=
  ⟨_, _, _, hp.call w0 B0 ha H k, fun b hb => (by cases hb), fun x hx => (by cases hx), h⟩
theorem wrap_i64 {x : Int} (h : -9223372036854775808 ≤ x ∧ x < 9223372036854775808) : IntKind.i64.wrap x = x := by
  unfold IntKind.wrap IntKind.bits IntKind.signed; simp; omega
theorem wrap_u64 {x : Int} (h : 0 ≤ x ∧ x < 18446744073709551616) : IntKind.u64.wrap x = x := by
  unfold IntKind.wrap IntKind.bits IntKind.signed; simp; omega
theorem wrap_u8 {x : Int} (h : 0 ≤ x ∧ x < 256) : IntKind.u8.wrap x = x := by
  unfold IntKind.wrap IntKind.bits IntKind.signed; simp; omega
theorem wrap_u32 {x : Int} (h : 0 ≤ x ∧ x < 4294967296) : IntKind.u32.wrap x = x := by
  unfold IntKind.wrap IntKind.bits IntKind.signed; simp; omega
end Go.Proofs.YtikjbocagnolmaaDoor
