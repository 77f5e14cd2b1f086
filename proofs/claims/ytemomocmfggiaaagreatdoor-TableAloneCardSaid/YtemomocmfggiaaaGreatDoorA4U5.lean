import Derived.Test.YtemomocmfggiaaaGreatDoorZNU5
namespace Go.Proofs.YtemomocmfggiaaaGreatDoor
set_option linter.unusedVariables false
set_option maxRecDepth 100000
open Go.RowKit
theorem ok_A4 : SOKT (ctxA E33 M0 S1) eE := ctxA_ok E33_ok M0_ok S1_ok (by kernel_rfl)
def c_addsub_Sub : Ct := ⟨[.sc kB, .agg [kB, .bool], .agg [kU, kU], .agg [kU, kU]], [.agg [kU, kU, kB]]⟩
def t_addsub_Sub : Tr' SV :=
 (.call 14 [(.var kB 0), (.var kU 5), (.var kU 6)] 7 1
 (.ite (.not (.var .bool 7))
 (.call 143 [(.var kB 0), (.var kU 5), (.var kU 6)] 8 2
 (.call 80 [(.var kB 0), (.var kB 1), (.var .bool 2), (.var kU 3), (.var kU 4), (.var kU 8), (.var kU 9)] 10 3
 (.leaf (.agg [(.int .u64 (.var kU 10)), (.int .u64 (.var kU 11)), (.int .u8 (.var kB 12))]))))
 (.call 80 [(.var kB 0), (.var kB 1), (.var .bool 2), (.var kU 3), (.var kU 4), (.var kU 5), (.var kU 6)] 8 3
 (.leaf (.agg [(.int .u64 (.var kU 8)), (.int .u64 (.var kU 9)), (.int .u8 (.var kB 10))])))))
theorem x_addsub_Sub : execF (ctxA E33 M0 S1) 3000 82 (uns c_addsub_Sub.a (varsAt 0 (kindsOf c_addsub_Sub.a))) (kindsOf c_addsub_Sub.a).length = t_addsub_Sub := by kernel_rfl
def F_addsub_Sub : List Int → List Int := treeF (phiA E33 M0 S1) c_addsub_Sub t_addsub_Sub
theorem e_addsub_Sub : EntOK Tryz.prog gG ⟨82, c_addsub_Sub, F_addsub_Sub⟩ := ent_any ok_A4 3000 x_addsub_Sub (by kernel_rfl)
def E34 : List Ent := ⟨82, c_addsub_Sub, F_addsub_Sub⟩ :: E33
theorem E34_ok : ∀ e ∈ E34, EntOK Tryz.prog gG e := List.forall_mem_cons.2 ⟨e_addsub_Sub, E33_ok⟩
end Go.Proofs.YtemomocmfggiaaaGreatDoor
