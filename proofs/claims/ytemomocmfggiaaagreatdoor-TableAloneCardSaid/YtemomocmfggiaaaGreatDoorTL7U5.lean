import Derived.Test.YtemomocmfggiaaaGreatDoorTL6U5
import Derived.Test.YtemomocmfggiaaaGreatDoorTL5U5
import Derived.Test.YtemomocmfggiaaaGreatDoorZ3U5
import Derived.Test.YtemomocmfggiaaaGreatDoorLawUU5
namespace Go.Proofs.YtemomocmfggiaaaGreatDoor
set_option linter.unusedVariables false
set_option maxRecDepth 100000
open Go.RowKit Go.Shelf FlagM
attribute [local go_sem] Oper.semAt_some
def ChecksTo (cs : List Value) (c : Int) : Prop := ∀ w, Gl gG w → Calls Tryz.prog 25 #[.agg cs.toArray] w fun e w' => e = .returned (.int .i64 c) ∧ Bel w w'
theorem check_to {e : List Int} (he : e.length = 11) {c : Int} (hF : F_table_Check e = [c]) (hc : c = 0 ∨ c = 1) : ChecksTo (entL (xE e)) c := by
 intro w hG
 have h := calls_of_pc (e_table_Check.ok e he (by show (F_table_Check e).length = _; rw [hF]; rfl)) Tryz.func25 (by kernel_rfl) (by kernel_rfl) w hG
 have h1 : valsS c_table_Check.a e = [.agg (valXs kE e).toArray] := by
  match e, he with
  | [a, b, c, d, f, g, i, j, k, l, m], _ => rfl
 have h2 : resVal (valsS c_table_Check.r (F_table_Check e)) = .int .i64 c := by rw [hF]; rcases hc with rfl | rfl <;> rfl
 show Calls Tryz.prog 25 #[.agg (entL (xE e)).toArray] w _
 simp only [h1, h2, ent_of_len he] at h
 exact h
theorem Has_c (w : World) (a b : Int) : Calls Tryz.prog 28 #[.int .u8 a, .int .u8 b] w fun e w' => e = .returned (.bool (bits .andNot .u8 b a == 0)) ∧ w = w' := by
 go_enter Tryz.func28, Tryz.ntmps28
 go_wp2
 go_ret
 exact ⟨rfl, rfl⟩
def rev (o : Nat → Out) (n : Nat) (i : Nat) : Out := o (n - 1 - i)
theorem stk_rev (o : Nat → Out) (n : Nat) : stk (rev o n) n = stk o n := by
 unfold stk
 rw [← J_reverse]
 congr 1
 apply List.ext_getElem
 ·simp
 ·intro i h1 h2
  simp only [List.length_reverse, List.length_map, List.length_range] at h1
  simp only [List.getElem_reverse, List.getElem_map, List.getElem_range, List.length_map, List.length_range, rev]
  rw [show n - 1 - (n - 1 - i) = i from by omega]
end Go.Proofs.YtemomocmfggiaaaGreatDoor
