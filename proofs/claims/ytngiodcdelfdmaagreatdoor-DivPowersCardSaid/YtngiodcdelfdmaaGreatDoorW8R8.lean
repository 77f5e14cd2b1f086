import Derived.Test.YtngiodcdelfdmaaGreatDoorW7R8
import Derived.Test.YtngiodcdelfdmaaGreatDoorZGR8
namespace Go.Proofs.YtngiodcdelfdmaaGreatDoor
set_option linter.unusedVariables false
set_option linter.unusedSimpArgs false
set_option maxRecDepth 100000
open Go.RowKit
noncomputable def nxF (r : Nat) (x : Int) (d : Nat) : Nat × Bool :=
 (nB (getI (F_quot_next [wd r 1, wd r 0, x, wd d 1, wd d 0]) 0) (getI (F_quot_next [wd r 1, wd r 0, x, wd d 1, wd d 0]) 1), iNz (getI (F_quot_next [wd r 1, wd r 0, x, wd d 1, wd d 0]) 2))
theorem steps1 : Steps1 (Gl gG) nxF Fence.wide where
 keep := fun X Y h b => h.bel b
 zero := fun m b w hG hb => callsIn_wide.2 (by
  have h := calls_of_pc (e_word_Zero [wd b 1, wd b 0] rfl).2 Tryz.func77 (by kernel_rfl) (by kernel_rfl) w hG
  simp only [] at h
  rw [s_word_Zero, nB_small hb] at h
  simpa only [c_word_Zero, valsS, val1, valXs, valX, Sh.kinds, List.drop_succ_cons, List.drop_zero, List.length_cons, List.length_nil, w64_u, u64_wd, b2i_ne, resVal] using h)
 next := fun l m r x d w hG hx hr hd => by
  have h := calls_of_pc (e_quot_next [wd r 1, wd r 0, x, wd d 1, wd d 0] rfl).2 Tryz.func155 (by kernel_rfl) (by kernel_rfl) w hG
  have hlen := (e_quot_next [wd r 1, wd r 0, x, wd d 1, wd d 0] rfl).1
  unfold nxF
  simp only [] at h hlen
  obtain ⟨a, b, c, hL⟩ := three hlen
  rw [hL] at h ⊢
  have ux : u64 x = x := u64_idem ⟨hx.1, by rw [W64_val]; omega⟩
  obtain ⟨n1, n0⟩ := nB_words a b
  have key : CallsIn Fence.wide m Tryz.prog 155 #[vB r, .int .u64 x, vB d] w fun e w' => e = .returned (.tuple #[vB (nB a b), .bool (iNz c)]) ∧ Bel w w' := callsIn_wide.2 (by
   simpa only [c_quot_next, valsS, val1, valXs, valX, Sh.kinds, List.drop_succ_cons, List.drop_zero, List.length_cons, List.length_nil, w64_u, u64_wd, ux, resVal, n1, n0, iNz_eq] using h)
  exact key
 lt := fun r x d => nB_lt _ _
theorem nxF_eq {d : Nat} (hd : d < W128) (r x : Nat) (hr : r < d) (hx : x < 2) : nxF r (x : Int) d = nxN r x d := by
 unfold nxF
 rw [s_quot_next r x d hd hr hx, oB_eq]
 have hlt : (nxN r x d).1 < W128 := by
  unfold nxN
  split
  ·simp only; omega
  ·simp only; omega
 simp only [l_ca, l_na, getI_0, getI_s, iNz_b2i]
 rw [nB_small hlt]
end Go.Proofs.YtngiodcdelfdmaaGreatDoor
