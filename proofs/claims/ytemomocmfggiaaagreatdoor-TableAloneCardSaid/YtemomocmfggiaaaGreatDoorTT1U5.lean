import Derived.Test.YtemomocmfggiaaaGreatDoorTM2U5
namespace Go.Proofs.YtemomocmfggiaaaGreatDoor
set_option linter.unusedVariables false
set_option maxRecDepth 100000
open Go.RowKit
theorem TA_tot : ∀ e ∈ TA, EntOK Tryz.prog gG e := List.forall_mem_cons.2 ⟨e_div_Div, List.forall_mem_cons.2 ⟨e_rem_Rem, List.forall_mem_cons.2 ⟨e_sqrt_Sqrt, E34_ok⟩⟩⟩
theorem NZ_tot : ∀ e ∈ NZ, EntN Tryz.prog gG e := fun e he => by cases he
theorem ZZ_tot : ∀ e ∈ ZZ, EntSOK Tryz.prog gG e := S1_ok
theorem sok_TA : SOKT (ctxA TA NZ ZZ) eE := ctxA_ok TA_tot NZ_tot ZZ_tot (by kernel_rfl)
theorem tot_of {L M : List Ent} {S : List EntS} (hC : SOKT (ctxA L M S) eE) {g : FuncId} {ct : Ct} {t : Tr' SV} (h : EntC Tryz.prog gG ⟨g, ct, treeF (phiA L M S) ct t⟩) (hs : checkT (ctAny (ctxA L M S)) ct (kindsOf ct.a).length t = true) : EntOK Tryz.prog gG ⟨g, ct, treeF (phiA L M S) ct t⟩ :=
 h.tot fun l hl => okF_len (checkT_any hC (by rw [hl]; exact hs))
theorem o_fromint_From : EntOK Tryz.prog gG ⟨103, c_fromint_From, F_fromint_From⟩ := tot_of (t := t_fromint_From) sok_TA e_fromint_From (by kernel_rfl)
theorem o_fromint_Has : EntOK Tryz.prog gG ⟨47, c_fromint_Has, F_fromint_Has⟩ := tot_of (t := t_fromint_Has) sok_TA e_fromint_Has (by kernel_rfl)
theorem o_toint_Int : EntOK Tryz.prog gG ⟨101, c_toint_Int, F_toint_Int⟩ := tot_of (t := t_toint_Int) sok_TA e_toint_Int (by kernel_rfl)
theorem o_rint_Rint : EntOK Tryz.prog gG ⟨94, c_rint_Rint, F_rint_Rint⟩ := tot_of (t := t_rint_Rint) sok_TA e_rint_Rint (by kernel_rfl)
theorem o_comp_Quiet : EntOK Tryz.prog gG ⟨106, c_comp_Quiet, F_comp_Quiet⟩ := tot_of (t := t_comp_Quiet) sok_TA e_comp_Quiet (by kernel_rfl)
theorem o_comp_Signaling : EntOK Tryz.prog gG ⟨108, c_comp_Signaling, F_comp_Signaling⟩ := tot_of (t := t_comp_Signaling) sok_TA e_comp_Signaling (by kernel_rfl)
theorem o_format_Fits : EntOK Tryz.prog gG ⟨16, c_format_Fits, F_format_Fits⟩ := tot_of (t := t_format_Fits) sok_TA e_format_Fits (by kernel_rfl)
theorem TB_tot : ∀ e ∈ TB, EntOK Tryz.prog gG e := List.forall_mem_cons.2 ⟨o_fromint_From, List.forall_mem_cons.2 ⟨o_fromint_Has, List.forall_mem_cons.2 ⟨o_toint_Int, List.forall_mem_cons.2 ⟨o_rint_Rint, List.forall_mem_cons.2 ⟨o_comp_Quiet, List.forall_mem_cons.2 ⟨o_comp_Signaling, List.forall_mem_cons.2 ⟨o_format_Fits, TA_tot⟩⟩⟩⟩⟩⟩⟩
theorem sok_TB : SOKT (ctxA TB NZ ZZ) eE := ctxA_ok TB_tot NZ_tot ZZ_tot (by kernel_rfl)
theorem o_table_Run : EntOK Tryz.prog gG ⟨10, c_table_Run, F_table_Run⟩ := tot_of (t := t_table_Run) sok_TB e_table_Run (by kernel_rfl)
theorem run_4 (l : List Int) (h : l.length = 11) : (F_table_Run l).length = 4 := (o_table_Run l h).1
end Go.Proofs.YtemomocmfggiaaaGreatDoor
