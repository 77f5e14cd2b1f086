import Derived.Test.YtngiodcdelfdmaaGreatDoorZHR6
namespace Go.Proofs.YtngiodcdelfdmaaGreatDoor
set_option linter.unusedVariables false
set_option maxRecDepth 100000
open Go.RowKit
theorem ok_RL1 : SOK (ctxA C0 N0 Z0) eE := ctxC_ok C0_ok N0_ok Z0_ok (by kernel_rfl)
def c_ref01_Cut : Ct := ⟨[.sc .nat, .sc kI], [.sc .nat]⟩
def t_ref01_Cut : Tr' SV :=
 (.call 119 [(.var .nat 0), (.var kI 1)] 2 1
 (.call 80 [(.var .nat 2), (.var kI 1)] 3 1
 (.call 100 [(.var .nat 0), (.var .nat 3)] 4 1
 (.leaf (.agg [(.int .u64 (.var .nat 4))])))))
theorem x_ref01_Cut : execFN (ctxA C0 N0 Z0) 3000 117 c_ref01_Cut (kindsOf c_ref01_Cut.a).length = t_ref01_Cut := by kernel_rfl
def F_ref01_Cut : List Int → List Int := treeFN (phiA C0 N0 Z0) t_ref01_Cut
theorem e_ref01_Cut : EntNC Tryz.prog gG ⟨117, c_ref01_Cut, F_ref01_Cut⟩ := entNC_of ok_RL1 3000 (by kernel_rfl) (by kernel_rfl) x_ref01_Cut (by kernel_rfl)
def c_ref01_Bits : Ct := ⟨[.sc .nat], [.agg [kU, kU]]⟩
def t_ref01_Bits : Tr' SV :=
 (.call 152 [(.var .nat 0), (.lit 0)] 1 1
 (.call 152 [(.var .nat 0), (.lit 1)] 2 1
 (.call 152 [(.var .nat 0), (.lit 2)] 3 1
 (.call 152 [(.var .nat 0), (.lit 3)] 4 1
 (.leaf (.agg [(.int .u64 (.bin .add .u64 (.var (.int .u32) 3) (.bin .shl .u64 (.var (.int .u32) 4) (.lit 32)))), (.int .u64 (.bin .add .u64 (.var (.int .u32) 1) (.bin .shl .u64 (.var (.int .u32) 2) (.lit 32))))]))))))
theorem x_ref01_Bits : execFN (ctxA C0 N0 Z0) 3000 118 c_ref01_Bits (kindsOf c_ref01_Bits.a).length = t_ref01_Bits := by kernel_rfl
def F_ref01_Bits : List Int → List Int := treeFN (phiA C0 N0 Z0) t_ref01_Bits
theorem e_ref01_Bits : EntNC Tryz.prog gG ⟨118, c_ref01_Bits, F_ref01_Bits⟩ := entNC_of ok_RL1 3000 (by kernel_rfl) (by kernel_rfl) x_ref01_Bits (by kernel_rfl)
def c_ref01_Low : Ct := ⟨[.sc .nat], [.agg [kU, kU, kU, kU]]⟩
def t_ref01_Low : Tr' SV :=
 (.call 152 [(.var .nat 0), (.lit 0)] 1 1
 (.call 152 [(.var .nat 0), (.lit 1)] 2 1
 (.call 152 [(.var .nat 0), (.lit 2)] 3 1
 (.call 152 [(.var .nat 0), (.lit 3)] 4 1
 (.call 152 [(.var .nat 0), (.lit 4)] 5 1
 (.call 152 [(.var .nat 0), (.lit 5)] 6 1
 (.call 152 [(.var .nat 0), (.lit 6)] 7 1
 (.call 152 [(.var .nat 0), (.lit 7)] 8 1
 (.leaf (.agg [(.int .u64 (.bin .add .u64 (.var (.int .u32) 1) (.bin .shl .u64 (.var (.int .u32) 2) (.lit 32)))), (.int .u64 (.bin .add .u64 (.var (.int .u32) 3) (.bin .shl .u64 (.var (.int .u32) 4) (.lit 32)))), (.int .u64 (.bin .add .u64 (.var (.int .u32) 5) (.bin .shl .u64 (.var (.int .u32) 6) (.lit 32)))), (.int .u64 (.bin .add .u64 (.var (.int .u32) 7) (.bin .shl .u64 (.var (.int .u32) 8) (.lit 32))))]))))))))))
theorem x_ref01_Low : execFN (ctxA C0 N0 Z0) 3000 71 c_ref01_Low (kindsOf c_ref01_Low.a).length = t_ref01_Low := by kernel_rfl
def F_ref01_Low : List Int → List Int := treeFN (phiA C0 N0 Z0) t_ref01_Low
theorem e_ref01_Low : EntNC Tryz.prog gG ⟨71, c_ref01_Low, F_ref01_Low⟩ := entNC_of ok_RL1 3000 (by kernel_rfl) (by kernel_rfl) x_ref01_Low (by kernel_rfl)
def c_ref01_Full : Ct := ⟨[.sc kI], [.sc .nat]⟩
def t_ref01_Full : Tr' SV :=
 (.call 120 [(.lit 1)] 1 1
 (.call 80 [(.var .nat 1), (.var kI 0)] 2 1
 (.leaf (.agg [(.int .u64 (.var .nat 2))]))))
theorem x_ref01_Full : execFN (ctxA C0 N0 Z0) 3000 52 c_ref01_Full (kindsOf c_ref01_Full.a).length = t_ref01_Full := by kernel_rfl
def F_ref01_Full : List Int → List Int := treeFN (phiA C0 N0 Z0) t_ref01_Full
theorem e_ref01_Full : EntNC Tryz.prog gG ⟨52, c_ref01_Full, F_ref01_Full⟩ := entNC_of ok_RL1 3000 (by kernel_rfl) (by kernel_rfl) x_ref01_Full (by kernel_rfl)
def N1 : List Ent := ⟨117, c_ref01_Cut, F_ref01_Cut⟩ :: ⟨118, c_ref01_Bits, F_ref01_Bits⟩ :: ⟨71, c_ref01_Low, F_ref01_Low⟩ :: ⟨52, c_ref01_Full, F_ref01_Full⟩ :: N0
theorem N1_ok : ∀ e ∈ N1, EntNC Tryz.prog gG e := List.forall_mem_cons.2 ⟨e_ref01_Cut, List.forall_mem_cons.2 ⟨e_ref01_Bits, List.forall_mem_cons.2 ⟨e_ref01_Low, List.forall_mem_cons.2 ⟨e_ref01_Full, N0_ok⟩⟩⟩⟩
theorem ph_RL1_ref01_Shr : phiA C0 N0 Z0 119 = fShr := phiA_M (e := ⟨119, _, fShr⟩) rfl rfl
theorem ph_RL1_ref01_Shl : phiA C0 N0 Z0 80 = fShl := phiA_M (e := ⟨80, _, fShl⟩) rfl rfl
theorem ph_RL1_ref01_Sub : phiA C0 N0 Z0 100 = fSub := phiA_M (e := ⟨100, _, fSub⟩) rfl rfl
theorem ph_RL1_ref01_digit : phiA C0 N0 Z0 152 = fDig := phiA_M (e := ⟨152, _, fDig⟩) rfl rfl
theorem ph_RL1_ref01_Of : phiA C0 N0 Z0 120 = fOf := phiA_M (e := ⟨120, _, fOf⟩) rfl rfl
end Go.Proofs.YtngiodcdelfdmaaGreatDoor
namespace Go.Proofs.YtngiodcdelfdmaaGreatDoor
set_option linter.unusedVariables false
set_option maxRecDepth 100000
open Go.RowKit
theorem ok_RL2 : SOK (ctxA C0 N1 Z0) eE := ctxC_ok C0_ok N1_ok Z0_ok (by kernel_rfl)
def c_ref07_Width : Ct := ⟨[.sc kB], [.sc kI]⟩
def t_ref07_Width : Tr' SV :=
 (.ite (.bin .eql .u8 (.var kB 0) (.lit 0))
 (.leaf (.int .i64 (.lit 16)))
 (.ite (.bin .eql .u8 (.var kB 0) (.lit 1))
 (.leaf (.int .i64 (.lit 32)))
 (.ite (.bin .eql .u8 (.var kB 0) (.lit 2))
 (.leaf (.int .i64 (.lit 64)))
 (.ite (.bin .eql .u8 (.var kB 0) (.lit 3))
 (.leaf (.int .i64 (.lit 128)))
 (.leaf (.int .i64 (.lit 0)))))))
theorem x_ref07_Width : execF (ctxA C0 N1 Z0) 3000 115 (uns c_ref07_Width.a (varsAt 0 (kindsOf c_ref07_Width.a))) (kindsOf c_ref07_Width.a).length = t_ref07_Width := by kernel_rfl
def F_ref07_Width : List Int → List Int := treeF (phiA C0 N1 Z0) c_ref07_Width t_ref07_Width
theorem e_ref07_Width : EntC Tryz.prog gG ⟨115, c_ref07_Width, F_ref07_Width⟩ := entC_of ok_RL2 3000 (by kernel_rfl) x_ref07_Width (by kernel_rfl)
def c_ref07_Prec : Ct := ⟨[.sc kB], [.sc kI]⟩
def t_ref07_Prec : Tr' SV :=
 (.ite (.bin .eql .u8 (.var kB 0) (.lit 0))
 (.leaf (.int .i64 (.lit 11)))
 (.ite (.bin .eql .u8 (.var kB 0) (.lit 1))
 (.leaf (.int .i64 (.lit 24)))
 (.ite (.bin .eql .u8 (.var kB 0) (.lit 2))
 (.leaf (.int .i64 (.lit 53)))
 (.ite (.bin .eql .u8 (.var kB 0) (.lit 3))
 (.leaf (.int .i64 (.lit 113)))
 (.leaf (.int .i64 (.lit 0)))))))
theorem x_ref07_Prec : execF (ctxA C0 N1 Z0) 3000 53 (uns c_ref07_Prec.a (varsAt 0 (kindsOf c_ref07_Prec.a))) (kindsOf c_ref07_Prec.a).length = t_ref07_Prec := by kernel_rfl
def F_ref07_Prec : List Int → List Int := treeF (phiA C0 N1 Z0) c_ref07_Prec t_ref07_Prec
theorem e_ref07_Prec : EntC Tryz.prog gG ⟨53, c_ref07_Prec, F_ref07_Prec⟩ := entC_of ok_RL2 3000 (by kernel_rfl) x_ref07_Prec (by kernel_rfl)
def c_ref07_Emax : Ct := ⟨[.sc kB], [.sc kI]⟩
def t_ref07_Emax : Tr' SV :=
 (.ite (.bin .eql .u8 (.var kB 0) (.lit 0))
 (.leaf (.int .i64 (.lit 15)))
 (.ite (.bin .eql .u8 (.var kB 0) (.lit 1))
 (.leaf (.int .i64 (.lit 127)))
 (.ite (.bin .eql .u8 (.var kB 0) (.lit 2))
 (.leaf (.int .i64 (.lit 1023)))
 (.ite (.bin .eql .u8 (.var kB 0) (.lit 3))
 (.leaf (.int .i64 (.lit 16383)))
 (.leaf (.int .i64 (.lit 0)))))))
theorem x_ref07_Emax : execF (ctxA C0 N1 Z0) 3000 50 (uns c_ref07_Emax.a (varsAt 0 (kindsOf c_ref07_Emax.a))) (kindsOf c_ref07_Emax.a).length = t_ref07_Emax := by kernel_rfl
def F_ref07_Emax : List Int → List Int := treeF (phiA C0 N1 Z0) c_ref07_Emax t_ref07_Emax
theorem e_ref07_Emax : EntC Tryz.prog gG ⟨50, c_ref07_Emax, F_ref07_Emax⟩ := entC_of ok_RL2 3000 (by kernel_rfl) x_ref07_Emax (by kernel_rfl)
def c_ref13_Next : Ct := ⟨[.sc kB, .sc .bool, .sc .bool, .sc kI], [.sc .bool]⟩
def t_ref13_Next : Tr' SV :=
 (.ite (.bin .lss .i64 (.var kI 3) (.lit 1))
 (.leaf (.bool (.lit 0)))
 (.ite (.bin .gtr .i64 (.var kI 3) (.lit 3))
 (.leaf (.bool (.lit 0)))
 (.ite (.bin .eql .u8 (.var kB 0) (.lit 0))
 (.ite (.bin .eql .i64 (.var kI 3) (.lit 3))
 (.leaf (.bool (.lit 1)))
 (.ite (.bin .eql .i64 (.var kI 3) (.lit 2))
 (.leaf (.bool (.var .bool 2)))
 (.leaf (.bool (.lit 0)))))
 (.ite (.bin .eql .u8 (.var kB 0) (.lit 1))
 (.leaf (.bool (.bin .neq .i64 (.var kI 3) (.lit 1))))
 (.ite (.bin .eql .u8 (.var kB 0) (.lit 2))
 (.leaf (.bool (.not (.var .bool 1))))
 (.ite (.bin .eql .u8 (.var kB 0) (.lit 3))
 (.leaf (.bool (.var .bool 1)))
 (.leaf (.bool (.lit 0)))))))))
theorem x_ref13_Next : execF (ctxA C0 N1 Z0) 3000 180 (uns c_ref13_Next.a (varsAt 0 (kindsOf c_ref13_Next.a))) (kindsOf c_ref13_Next.a).length = t_ref13_Next := by kernel_rfl
def F_ref13_Next : List Int → List Int := treeF (phiA C0 N1 Z0) c_ref13_Next t_ref13_Next
theorem e_ref13_Next : EntC Tryz.prog gG ⟨180, c_ref13_Next, F_ref13_Next⟩ := entC_of ok_RL2 3000 (by kernel_rfl) x_ref13_Next (by kernel_rfl)
def c_ref13_Infinite : Ct := ⟨[.sc kB, .sc .bool], [.sc .bool]⟩
def t_ref13_Infinite : Tr' SV :=
 (.ite (.bin .eql .u8 (.var kB 0) (.lit 0))
 (.leaf (.bool (.lit 1)))
 (.ite (.bin .eql .u8 (.var kB 0) (.lit 1))
 (.leaf (.bool (.lit 1)))
 (.ite (.bin .eql .u8 (.var kB 0) (.lit 2))
 (.ite (.not (.var .bool 1))
 (.leaf (.bool (.lit 1)))
 (.leaf (.bool (.lit 0))))
 (.ite (.bin .eql .u8 (.var kB 0) (.lit 3))
 (.leaf (.bool (.var .bool 1)))
 (.leaf (.bool (.lit 0)))))))
theorem x_ref13_Infinite : execF (ctxA C0 N1 Z0) 3000 182 (uns c_ref13_Infinite.a (varsAt 0 (kindsOf c_ref13_Infinite.a))) (kindsOf c_ref13_Infinite.a).length = t_ref13_Infinite := by kernel_rfl
def F_ref13_Infinite : List Int → List Int := treeF (phiA C0 N1 Z0) c_ref13_Infinite t_ref13_Infinite
theorem e_ref13_Infinite : EntC Tryz.prog gG ⟨182, c_ref13_Infinite, F_ref13_Infinite⟩ := entC_of ok_RL2 3000 (by kernel_rfl) x_ref13_Infinite (by kernel_rfl)
def c_ref19_Bad : Ct := ⟨[.sc kB, .sc kB], [.sc .bool]⟩
def t_ref19_Bad : Tr' SV :=
 (.ite (.bin .eql .u8 (.var kB 0) (.lit 0))
 (.ite (.bin .eql .u8 (.var kB 1) (.lit 3))
 (.leaf (.bool (.lit 1)))
 (.leaf (.bool (.lit 0))))
 (.ite (.bin .eql .u8 (.var kB 0) (.lit 3))
 (.leaf (.bool (.bin .eql .u8 (.var kB 1) (.lit 0))))
 (.leaf (.bool (.lit 0)))))
theorem x_ref19_Bad : execF (ctxA C0 N1 Z0) 3000 24 (uns c_ref19_Bad.a (varsAt 0 (kindsOf c_ref19_Bad.a))) (kindsOf c_ref19_Bad.a).length = t_ref19_Bad := by kernel_rfl
def F_ref19_Bad : List Int → List Int := treeF (phiA C0 N1 Z0) c_ref19_Bad t_ref19_Bad
theorem e_ref19_Bad : EntC Tryz.prog gG ⟨24, c_ref19_Bad, F_ref19_Bad⟩ := entC_of ok_RL2 3000 (by kernel_rfl) x_ref19_Bad (by kernel_rfl)
def C1 : List Ent := ⟨115, c_ref07_Width, F_ref07_Width⟩ :: ⟨53, c_ref07_Prec, F_ref07_Prec⟩ :: ⟨50, c_ref07_Emax, F_ref07_Emax⟩ :: ⟨180, c_ref13_Next, F_ref13_Next⟩ :: ⟨182, c_ref13_Infinite, F_ref13_Infinite⟩ :: ⟨24, c_ref19_Bad, F_ref19_Bad⟩ :: C0
theorem C1_ok : ∀ e ∈ C1, EntC Tryz.prog gG e := List.forall_mem_cons.2 ⟨e_ref07_Width, List.forall_mem_cons.2 ⟨e_ref07_Prec, List.forall_mem_cons.2 ⟨e_ref07_Emax, List.forall_mem_cons.2 ⟨e_ref13_Next, List.forall_mem_cons.2 ⟨e_ref13_Infinite, List.forall_mem_cons.2 ⟨e_ref19_Bad, C0_ok⟩⟩⟩⟩⟩⟩
def N2 : List Ent := N1
theorem N2_ok : ∀ e ∈ N2, EntNC Tryz.prog gG e := N1_ok
end Go.Proofs.YtngiodcdelfdmaaGreatDoor
namespace Go.Proofs.YtngiodcdelfdmaaGreatDoor
set_option linter.unusedVariables false
set_option maxRecDepth 100000
open Go.RowKit
theorem ok_RL3 : SOK (ctxA C1 N2 Z0) eE := ctxC_ok C1_ok N2_ok Z0_ok (by kernel_rfl)
def c_ref07_Cut : Ct := ⟨[.sc kB, .agg [kU, kU]], [.sc .nat]⟩
def t_ref07_Cut : Tr' SV :=
 (.call 73 [(.var kU 1), (.var kU 2)] 3 1
 (.call 115 [(.var kB 0)] 4 1
 (.call 117 [(.var .nat 3), (.var kI 4)] 5 1
 (.leaf (.agg [(.int .u64 (.var .nat 5))])))))
theorem x_ref07_Cut : execFN (ctxA C1 N2 Z0) 3000 116 c_ref07_Cut (kindsOf c_ref07_Cut.a).length = t_ref07_Cut := by kernel_rfl
def F_ref07_Cut : List Int → List Int := treeFN (phiA C1 N2 Z0) t_ref07_Cut
theorem e_ref07_Cut : EntNC Tryz.prog gG ⟨116, c_ref07_Cut, F_ref07_Cut⟩ := entNC_of ok_RL3 3000 (by kernel_rfl) (by kernel_rfl) x_ref07_Cut (by kernel_rfl)
def N3 : List Ent := ⟨116, c_ref07_Cut, F_ref07_Cut⟩ :: N2
theorem N3_ok : ∀ e ∈ N3, EntNC Tryz.prog gG e := List.forall_mem_cons.2 ⟨e_ref07_Cut, N2_ok⟩
theorem ph_RL3_ref01_Big : phiA C1 N2 Z0 73 = fBig := phiA_M (e := ⟨73, _, fBig⟩) rfl rfl
theorem ph_RL3_ref07_Width : phiA C1 N2 Z0 115 = F_ref07_Width := phiA_L (e := ⟨115, _, F_ref07_Width⟩) rfl rfl rfl
theorem ph_RL3_ref01_Cut : phiA C1 N2 Z0 117 = F_ref01_Cut := phiA_M (e := ⟨117, _, F_ref01_Cut⟩) rfl rfl
end Go.Proofs.YtngiodcdelfdmaaGreatDoor
namespace Go.Proofs.YtngiodcdelfdmaaGreatDoor
set_option linter.unusedVariables false
set_option maxRecDepth 100000
open Go.RowKit
theorem ok_RL4 : SOK (ctxA C1 N3 Z0) eE := ctxC_ok C1_ok N3_ok Z0_ok (by kernel_rfl)
def c_ref07_Split : Ct := ⟨[.sc kB, .agg [kU, kU]], [.sc .bool, .sc kI, .sc .nat]⟩
def t_ref07_Split : Tr' SV :=
 (.call 115 [(.var kB 0)] 3 1
 (.ite (.bin .eql .i64 (.var kI 3) (.lit 0))
 (.leaf (.agg [(.int .u64 (.lit 0)), (.int .u64 (.lit 0)), (.int .u64 (.lit 0))]))
 (.call 116 [(.var kB 0), (.var kU 1), (.var kU 2)] 4 1
 (.call 115 [(.var kB 0)] 5 1
 (.call 117 [(.var .nat 4), (.bin .sub .i64 (.var kI 5) (.lit 1))] 6 1
 (.call 53 [(.var kB 0)] 7 1
 (.call 119 [(.var .nat 6), (.bin .sub .i64 (.var kI 7) (.lit 1))] 8 1
 (.call 118 [(.var .nat 8)] 9 2
 (.call 115 [(.var kB 0)] 11 1
 (.call 99 [(.var .nat 4), (.bin .sub .i64 (.var kI 11) (.lit 1))] 12 1
 (.call 53 [(.var kB 0)] 13 1
 (.call 117 [(.var .nat 6), (.bin .sub .i64 (.var kI 13) (.lit 1))] 14 1
 (.leaf (.agg [(.int .u64 (.var .bool 12)), (.int .u64 (.conv .i64 (.var kU 10))), (.int .u64 (.var .nat 14))]))))))))))))))
theorem x_ref07_Split : execFN (ctxA C1 N3 Z0) 3000 49 c_ref07_Split (kindsOf c_ref07_Split.a).length = t_ref07_Split := by kernel_rfl
def F_ref07_Split : List Int → List Int := treeFN (phiA C1 N3 Z0) t_ref07_Split
theorem e_ref07_Split : EntNC Tryz.prog gG ⟨49, c_ref07_Split, F_ref07_Split⟩ := entNC_of ok_RL4 3000 (by kernel_rfl) (by kernel_rfl) x_ref07_Split (by kernel_rfl)
def c_ref07_Make : Ct := ⟨[.sc kB, .sc .bool, .sc kI, .sc .nat], [.agg [kU, kU]]⟩
def t_ref07_Make : Tr' SV :=
 (.call 115 [(.var kB 0)] 4 1
 (.ite (.bin .eql .i64 (.var kI 4) (.lit 0))
 (.leaf (.agg [(.int .u64 (.lit 0)), (.int .u64 (.lit 0))]))
 (.ite (.bin .lss .i64 (.var kI 2) (.lit 0))
 (.call 120 [(.lit 0)] 5 1
 (.call 115 [(.var kB 0)] 6 1
 (.call 53 [(.var kB 0)] 7 1
 (.call 117 [(.var .nat 5), (.bin .sub .i64 (.var kI 6) (.var kI 7))] 8 1
 (.call 53 [(.var kB 0)] 9 1
 (.call 80 [(.var .nat 8), (.bin .sub .i64 (.var kI 9) (.lit 1))] 10 1
 (.call 53 [(.var kB 0)] 11 1
 (.call 117 [(.var .nat 3), (.bin .sub .i64 (.var kI 11) (.lit 1))] 12 1
 (.call 122 [(.var .nat 10), (.var .nat 12)] 13 1
 (.ite (.var .bool 1)
 (.call 115 [(.var kB 0)] 14 1
 (.call 52 [(.bin .sub .i64 (.var kI 14) (.lit 1))] 15 1
 (.call 122 [(.var .nat 13), (.var .nat 15)] 16 1
 (.call 118 [(.var .nat 16)] 17 2
 (.leaf (.agg [(.int .u64 (.var kU 17)), (.int .u64 (.var kU 18))]))))))
 (.call 118 [(.var .nat 13)] 14 2
 (.leaf (.agg [(.int .u64 (.var kU 14)), (.int .u64 (.var kU 15))])))))))))))))
 (.ite (.bin .gtr .i64 (.var kI 2) (.lit 1048576))
 (.call 120 [(.lit 0)] 5 1
 (.call 115 [(.var kB 0)] 6 1
 (.call 53 [(.var kB 0)] 7 1
 (.call 117 [(.var .nat 5), (.bin .sub .i64 (.var kI 6) (.var kI 7))] 8 1
 (.call 53 [(.var kB 0)] 9 1
 (.call 80 [(.var .nat 8), (.bin .sub .i64 (.var kI 9) (.lit 1))] 10 1
 (.call 53 [(.var kB 0)] 11 1
 (.call 117 [(.var .nat 3), (.bin .sub .i64 (.var kI 11) (.lit 1))] 12 1
 (.call 122 [(.var .nat 10), (.var .nat 12)] 13 1
 (.ite (.var .bool 1)
 (.call 115 [(.var kB 0)] 14 1
 (.call 52 [(.bin .sub .i64 (.var kI 14) (.lit 1))] 15 1
 (.call 122 [(.var .nat 13), (.var .nat 15)] 16 1
 (.call 118 [(.var .nat 16)] 17 2
 (.leaf (.agg [(.int .u64 (.var kU 17)), (.int .u64 (.var kU 18))]))))))
 (.call 118 [(.var .nat 13)] 14 2
 (.leaf (.agg [(.int .u64 (.var kU 14)), (.int .u64 (.var kU 15))])))))))))))))
 (.call 120 [(.conv .u64 (.var kI 2))] 5 1
 (.call 115 [(.var kB 0)] 6 1
 (.call 53 [(.var kB 0)] 7 1
 (.call 117 [(.var .nat 5), (.bin .sub .i64 (.var kI 6) (.var kI 7))] 8 1
 (.call 53 [(.var kB 0)] 9 1
 (.call 80 [(.var .nat 8), (.bin .sub .i64 (.var kI 9) (.lit 1))] 10 1
 (.call 53 [(.var kB 0)] 11 1
 (.call 117 [(.var .nat 3), (.bin .sub .i64 (.var kI 11) (.lit 1))] 12 1
 (.call 122 [(.var .nat 10), (.var .nat 12)] 13 1
 (.ite (.var .bool 1)
 (.call 115 [(.var kB 0)] 14 1
 (.call 52 [(.bin .sub .i64 (.var kI 14) (.lit 1))] 15 1
 (.call 122 [(.var .nat 13), (.var .nat 15)] 16 1
 (.call 118 [(.var .nat 16)] 17 2
 (.leaf (.agg [(.int .u64 (.var kU 17)), (.int .u64 (.var kU 18))]))))))
 (.call 118 [(.var .nat 13)] 14 2
 (.leaf (.agg [(.int .u64 (.var kU 14)), (.int .u64 (.var kU 15))])))))))))))))))))
theorem x_ref07_Make : execFN (ctxA C1 N3 Z0) 3000 78 c_ref07_Make (kindsOf c_ref07_Make.a).length = t_ref07_Make := by kernel_rfl
def F_ref07_Make : List Int → List Int := treeFN (phiA C1 N3 Z0) t_ref07_Make
theorem e_ref07_Make : EntNC Tryz.prog gG ⟨78, c_ref07_Make, F_ref07_Make⟩ := entNC_of ok_RL4 3000 (by kernel_rfl) (by kernel_rfl) x_ref07_Make (by kernel_rfl)
def c_ref15_Rest : Ct := ⟨[.sc .nat, .sc kI, .sc .bool], [.sc kI]⟩
def t_ref15_Rest : Tr' SV :=
 (.ite (.bin .leq .i64 (.var kI 1) (.lit 0))
 (.ite (.var .bool 2)
 (.leaf (.agg [(.int .u64 (.lit 1))]))
 (.leaf (.agg [(.int .u64 (.lit 0))])))
 (.call 124 [(.var .nat 0)] 3 1
 (.ite (.bin .leq .i64 (.var kI 1) (.var kI 3))
 (.call 117 [(.var .nat 0), (.var kI 1)] 4 1
 (.ite (.bin .eql .i64 (.dlen (.var .nat 4)) (.lit 0))
 (.ite (.not (.var .bool 2))
 (.leaf (.agg [(.int .u64 (.lit 0))]))
 (.call 124 [(.var .nat 4)] 5 1
 (.ite (.bin .lss .i64 (.var kI 5) (.var kI 1))
 (.leaf (.agg [(.int .u64 (.lit 1))]))
 (.leaf (.agg [(.int .u64 (.lit 3))])))))
 (.call 124 [(.var .nat 4)] 5 1
 (.ite (.bin .lss .i64 (.var kI 5) (.var kI 1))
 (.leaf (.agg [(.int .u64 (.lit 1))]))
 (.ite (.not (.var .bool 2))
 (.call 52 [(.bin .sub .i64 (.var kI 1) (.lit 1))] 6 1
 (.call 51 [(.var .nat 4), (.var .nat 6)] 7 1
 (.ite (.bin .eql .i64 (.var kI 7) (.lit 0))
 (.leaf (.agg [(.int .u64 (.lit 2))]))
 (.leaf (.agg [(.int .u64 (.lit 3))])))))
 (.leaf (.agg [(.int .u64 (.lit 3))])))))))
 (.ite (.bin .eql .i64 (.dlen (.var .nat 0)) (.lit 0))
 (.ite (.not (.var .bool 2))
 (.leaf (.agg [(.int .u64 (.lit 0))]))
 (.call 124 [(.var .nat 0)] 4 1
 (.ite (.bin .lss .i64 (.var kI 4) (.var kI 1))
 (.leaf (.agg [(.int .u64 (.lit 1))]))
 (.leaf (.agg [(.int .u64 (.lit 3))])))))
 (.call 124 [(.var .nat 0)] 4 1
 (.ite (.bin .lss .i64 (.var kI 4) (.var kI 1))
 (.leaf (.agg [(.int .u64 (.lit 1))]))
 (.ite (.not (.var .bool 2))
 (.call 52 [(.bin .sub .i64 (.var kI 1) (.lit 1))] 5 1
 (.call 51 [(.var .nat 0), (.var .nat 5)] 6 1
 (.ite (.bin .eql .i64 (.var kI 6) (.lit 0))
 (.leaf (.agg [(.int .u64 (.lit 2))]))
 (.leaf (.agg [(.int .u64 (.lit 3))])))))
 (.leaf (.agg [(.int .u64 (.lit 3))])))))))))
theorem x_ref15_Rest : execFN (ctxA C1 N3 Z0) 3000 179 c_ref15_Rest (kindsOf c_ref15_Rest.a).length = t_ref15_Rest := by kernel_rfl
def F_ref15_Rest : List Int → List Int := treeFN (phiA C1 N3 Z0) t_ref15_Rest
theorem e_ref15_Rest : EntNC Tryz.prog gG ⟨179, c_ref15_Rest, F_ref15_Rest⟩ := entNC_of ok_RL4 3000 (by kernel_rfl) (by kernel_rfl) x_ref15_Rest (by kernel_rfl)
def N4 : List Ent := ⟨49, c_ref07_Split, F_ref07_Split⟩ :: ⟨78, c_ref07_Make, F_ref07_Make⟩ :: ⟨179, c_ref15_Rest, F_ref15_Rest⟩ :: N3
theorem N4_ok : ∀ e ∈ N4, EntNC Tryz.prog gG e := List.forall_mem_cons.2 ⟨e_ref07_Split, List.forall_mem_cons.2 ⟨e_ref07_Make, List.forall_mem_cons.2 ⟨e_ref15_Rest, N3_ok⟩⟩⟩
theorem ph_RL4_ref07_Width : phiA C1 N3 Z0 115 = F_ref07_Width := phiA_L (e := ⟨115, _, F_ref07_Width⟩) rfl rfl rfl
theorem ph_RL4_ref07_Cut : phiA C1 N3 Z0 116 = F_ref07_Cut := phiA_M (e := ⟨116, _, F_ref07_Cut⟩) rfl rfl
theorem ph_RL4_ref01_Cut : phiA C1 N3 Z0 117 = F_ref01_Cut := phiA_M (e := ⟨117, _, F_ref01_Cut⟩) rfl rfl
theorem ph_RL4_ref07_Prec : phiA C1 N3 Z0 53 = F_ref07_Prec := phiA_L (e := ⟨53, _, F_ref07_Prec⟩) rfl rfl rfl
theorem ph_RL4_ref01_Shr : phiA C1 N3 Z0 119 = fShr := phiA_M (e := ⟨119, _, fShr⟩) rfl rfl
theorem ph_RL4_ref01_Bits : phiA C1 N3 Z0 118 = F_ref01_Bits := phiA_M (e := ⟨118, _, F_ref01_Bits⟩) rfl rfl
theorem ph_RL4_ref01_Bit : phiA C1 N3 Z0 99 = fBit := phiA_M (e := ⟨99, _, fBit⟩) rfl rfl
theorem ph_RL4_ref01_Of : phiA C1 N3 Z0 120 = fOf := phiA_M (e := ⟨120, _, fOf⟩) rfl rfl
theorem ph_RL4_ref01_Shl : phiA C1 N3 Z0 80 = fShl := phiA_M (e := ⟨80, _, fShl⟩) rfl rfl
theorem ph_RL4_ref01_Add : phiA C1 N3 Z0 122 = fAdd := phiA_M (e := ⟨122, _, fAdd⟩) rfl rfl
theorem ph_RL4_ref01_Full : phiA C1 N3 Z0 52 = F_ref01_Full := phiA_M (e := ⟨52, _, F_ref01_Full⟩) rfl rfl
theorem ph_RL4_ref01_Len : phiA C1 N3 Z0 124 = fLen := phiA_M (e := ⟨124, _, fLen⟩) rfl rfl
theorem ph_RL4_ref01_Cmp : phiA C1 N3 Z0 51 = fCmp := phiA_M (e := ⟨51, _, fCmp⟩) rfl rfl
end Go.Proofs.YtngiodcdelfdmaaGreatDoor
namespace Go.Proofs.YtngiodcdelfdmaaGreatDoor
set_option linter.unusedVariables false
set_option maxRecDepth 100000
open Go.RowKit
theorem ok_RL5 : SOK (ctxA C1 N4 Z0) eE := ctxC_ok C1_ok N4_ok Z0_ok (by kernel_rfl)
def c_ref07_Inf : Ct := ⟨[.sc kB, .sc .bool], [.agg [kU, kU]]⟩
def t_ref07_Inf : Tr' SV :=
 (.call 50 [(.var kB 0)] 2 1
 (.call 78 [(.var kB 0), (.var .bool 1), (.bin .add .i64 (.bin .mul .i64 (.lit 2) (.var kI 2)) (.lit 1)), (.lit 0)] 3 2
 (.leaf (.agg [(.int .u64 (.var kU 3)), (.int .u64 (.var kU 4))]))))
theorem x_ref07_Inf : execF (ctxA C1 N4 Z0) 3000 55 (uns c_ref07_Inf.a (varsAt 0 (kindsOf c_ref07_Inf.a))) (kindsOf c_ref07_Inf.a).length = t_ref07_Inf := by kernel_rfl
def F_ref07_Inf : List Int → List Int := treeF (phiA C1 N4 Z0) c_ref07_Inf t_ref07_Inf
theorem e_ref07_Inf : EntC Tryz.prog gG ⟨55, c_ref07_Inf, F_ref07_Inf⟩ := entC_of ok_RL5 3000 (by kernel_rfl) x_ref07_Inf (by kernel_rfl)
def c_ref07_Max : Ct := ⟨[.sc kB, .sc .bool], [.agg [kU, kU]]⟩
def t_ref07_Max : Tr' SV :=
 (.call 115 [(.var kB 0)] 2 1
 (.ite (.bin .eql .i64 (.var kI 2) (.lit 0))
 (.leaf (.agg [(.int .u64 (.lit 0)), (.int .u64 (.lit 0))]))
 (.call 50 [(.var kB 0)] 3 1
 (.call 53 [(.var kB 0)] 4 1
 (.call 52 [(.bin .sub .i64 (.var kI 4) (.lit 1))] 5 1
 (.call 120 [(.lit 1)] 6 1
 (.call 100 [(.var .nat 5), (.var .nat 6)] 7 1
 (.call 78 [(.var kB 0), (.var .bool 1), (.bin .mul .i64 (.lit 2) (.var kI 3)), (.var .nat 7)] 8 2
 (.leaf (.agg [(.int .u64 (.var kU 8)), (.int .u64 (.var kU 9))]))))))))))
theorem x_ref07_Max : execF (ctxA C1 N4 Z0) 3000 181 (uns c_ref07_Max.a (varsAt 0 (kindsOf c_ref07_Max.a))) (kindsOf c_ref07_Max.a).length = t_ref07_Max := by kernel_rfl
def F_ref07_Max : List Int → List Int := treeF (phiA C1 N4 Z0) c_ref07_Max t_ref07_Max
theorem e_ref07_Max : EntC Tryz.prog gG ⟨181, c_ref07_Max, F_ref07_Max⟩ := entC_of ok_RL5 3000 (by kernel_rfl) x_ref07_Max (by kernel_rfl)
def c_ref08_Of : Ct := ⟨[.sc kB, .agg [kU, kU]], [.sc kB, .sc .bool]⟩
def t_ref08_Of : Tr' SV :=
 (.ite (.bin .gtr .u8 (.var kB 0) (.lit 3))
 (.leaf (.tup [(.int .u8 (.lit 0)), (.bool (.lit 0))]))
 (.call 49 [(.var kB 0), (.var kU 1), (.var kU 2)] 3 3
 (.ite (.bin .eql .i64 (.var kI 4) (.lit 0))
 (.ite (.bin .eql .i64 (.dlen (.var .nat 5)) (.lit 0))
 (.leaf (.tup [(.int .u8 (.lit 0)), (.bool (.var .bool 3))]))
 (.leaf (.tup [(.int .u8 (.lit 1)), (.bool (.var .bool 3))])))
 (.call 50 [(.var kB 0)] 6 1
 (.ite (.bin .neq .i64 (.var kI 4) (.bin .add .i64 (.bin .mul .i64 (.lit 2) (.var kI 6)) (.lit 1)))
 (.leaf (.tup [(.int .u8 (.lit 2)), (.bool (.var .bool 3))]))
 (.ite (.bin .eql .i64 (.dlen (.var .nat 5)) (.lit 0))
 (.leaf (.tup [(.int .u8 (.lit 3)), (.bool (.var .bool 3))]))
 (.call 53 [(.var kB 0)] 7 1
 (.call 52 [(.bin .sub .i64 (.var kI 7) (.lit 2))] 8 1
 (.call 51 [(.var .nat 5), (.var .nat 8)] 9 1
 (.ite (.bin .geq .i64 (.var kI 9) (.lit 0))
 (.leaf (.tup [(.int .u8 (.lit 4)), (.bool (.var .bool 3))]))
 (.leaf (.tup [(.int .u8 (.lit 5)), (.bool (.var .bool 3))]))))))))))))
theorem x_ref08_Of : execF (ctxA C1 N4 Z0) 3000 13 (uns c_ref08_Of.a (varsAt 0 (kindsOf c_ref08_Of.a))) (kindsOf c_ref08_Of.a).length = t_ref08_Of := by kernel_rfl
def F_ref08_Of : List Int → List Int := treeF (phiA C1 N4 Z0) c_ref08_Of t_ref08_Of
theorem e_ref08_Of : EntC Tryz.prog gG ⟨13, c_ref08_Of, F_ref08_Of⟩ := entC_of ok_RL5 3000 (by kernel_rfl) x_ref08_Of (by kernel_rfl)
def c_ref09_Of : Ct := ⟨[.sc kB, .agg [kU, kU]], [.agg [.bool, .nat, kI]]⟩
def t_ref09_Of : Tr' SV :=
 (.call 49 [(.var kB 0), (.var kU 1), (.var kU 2)] 3 3
 (.call 53 [(.var kB 0)] 6 1
 (.ite (.bin .eql .i64 (.var kI 4) (.lit 0))
 (.call 50 [(.var kB 0)] 7 1
 (.leaf (.agg [(.int .u64 (.var .bool 3)), (.int .u64 (.var .nat 5)), (.int .u64 (.bin .sub .i64 (.bin .sub .i64 (.lit 1) (.var kI 7)) (.bin .sub .i64 (.var kI 6) (.lit 1))))])))
 (.call 52 [(.bin .sub .i64 (.var kI 6) (.lit 1))] 7 1
 (.call 122 [(.var .nat 5), (.var .nat 7)] 8 1
 (.call 50 [(.var kB 0)] 9 1
 (.leaf (.agg [(.int .u64 (.var .bool 3)), (.int .u64 (.var .nat 8)), (.int .u64 (.bin .sub .i64 (.bin .sub .i64 (.var kI 4) (.var kI 9)) (.bin .sub .i64 (.var kI 6) (.lit 1))))]))))))))
theorem x_ref09_Of : execFN (ctxA C1 N4 Z0) 3000 56 c_ref09_Of (kindsOf c_ref09_Of.a).length = t_ref09_Of := by kernel_rfl
def F_ref09_Of : List Int → List Int := treeFN (phiA C1 N4 Z0) t_ref09_Of
theorem e_ref09_Of : EntNC Tryz.prog gG ⟨56, c_ref09_Of, F_ref09_Of⟩ := entNC_of ok_RL5 3000 (by kernel_rfl) (by kernel_rfl) x_ref09_Of (by kernel_rfl)
def c_ref15_Cut : Ct := ⟨[.sc .nat, .sc kI, .sc .bool, .sc kB, .sc .bool], [.sc .nat, .sc kI]⟩
def t_ref15_Cut : Tr' SV :=
 (.call 179 [(.var .nat 0), (.var kI 1), (.var .bool 2)] 5 1
 (.ite (.bin .leq .i64 (.var kI 1) (.lit 0))
 (.call 80 [(.var .nat 0), (.bin .sub .i64 (.lit 0) (.var kI 1))] 6 1
 (.call 99 [(.var .nat 6), (.lit 0)] 7 1
 (.call 180 [(.var kB 3), (.var .bool 4), (.var .bool 7), (.var kI 5)] 8 1
 (.ite (.var .bool 8)
 (.call 120 [(.lit 1)] 9 1
 (.call 122 [(.var .nat 6), (.var .nat 9)] 10 1
 (.leaf (.agg [(.int .u64 (.var .nat 10)), (.int .u64 (.var kI 5))]))))
 (.leaf (.agg [(.int .u64 (.var .nat 6)), (.int .u64 (.var kI 5))]))))))
 (.call 124 [(.var .nat 0)] 6 1
 (.ite (.bin .leq .i64 (.var kI 1) (.var kI 6))
 (.call 119 [(.var .nat 0), (.var kI 1)] 7 1
 (.call 99 [(.var .nat 7), (.lit 0)] 8 1
 (.call 180 [(.var kB 3), (.var .bool 4), (.var .bool 8), (.var kI 5)] 9 1
 (.ite (.var .bool 9)
 (.call 120 [(.lit 1)] 10 1
 (.call 122 [(.var .nat 7), (.var .nat 10)] 11 1
 (.leaf (.agg [(.int .u64 (.var .nat 11)), (.int .u64 (.var kI 5))]))))
 (.leaf (.agg [(.int .u64 (.var .nat 7)), (.int .u64 (.var kI 5))]))))))
 (.call 99 [(.lit 0), (.lit 0)] 7 1
 (.call 180 [(.var kB 3), (.var .bool 4), (.var .bool 7), (.var kI 5)] 8 1
 (.ite (.var .bool 8)
 (.call 120 [(.lit 1)] 9 1
 (.call 122 [(.lit 0), (.var .nat 9)] 10 1
 (.leaf (.agg [(.int .u64 (.var .nat 10)), (.int .u64 (.var kI 5))]))))
 (.leaf (.agg [(.int .u64 (.lit 0)), (.int .u64 (.var kI 5))])))))))))
theorem x_ref15_Cut : execFN (ctxA C1 N4 Z0) 3000 125 c_ref15_Cut (kindsOf c_ref15_Cut.a).length = t_ref15_Cut := by kernel_rfl
def F_ref15_Cut : List Int → List Int := treeFN (phiA C1 N4 Z0) t_ref15_Cut
theorem e_ref15_Cut : EntNC Tryz.prog gG ⟨125, c_ref15_Cut, F_ref15_Cut⟩ := entNC_of ok_RL5 3000 (by kernel_rfl) (by kernel_rfl) x_ref15_Cut (by kernel_rfl)
def C5 : List Ent := ⟨55, c_ref07_Inf, F_ref07_Inf⟩ :: ⟨181, c_ref07_Max, F_ref07_Max⟩ :: ⟨13, c_ref08_Of, F_ref08_Of⟩ :: C1
theorem C5_ok : ∀ e ∈ C5, EntC Tryz.prog gG e := List.forall_mem_cons.2 ⟨e_ref07_Inf, List.forall_mem_cons.2 ⟨e_ref07_Max, List.forall_mem_cons.2 ⟨e_ref08_Of, C1_ok⟩⟩⟩
def N5 : List Ent := ⟨56, c_ref09_Of, F_ref09_Of⟩ :: ⟨125, c_ref15_Cut, F_ref15_Cut⟩ :: N4
theorem N5_ok : ∀ e ∈ N5, EntNC Tryz.prog gG e := List.forall_mem_cons.2 ⟨e_ref09_Of, List.forall_mem_cons.2 ⟨e_ref15_Cut, N4_ok⟩⟩
theorem ph_RL5_ref07_Emax : phiA C1 N4 Z0 50 = F_ref07_Emax := phiA_L (e := ⟨50, _, F_ref07_Emax⟩) rfl rfl rfl
theorem ph_RL5_ref07_Make : phiA C1 N4 Z0 78 = F_ref07_Make := phiA_M (e := ⟨78, _, F_ref07_Make⟩) rfl rfl
theorem ph_RL5_ref07_Width : phiA C1 N4 Z0 115 = F_ref07_Width := phiA_L (e := ⟨115, _, F_ref07_Width⟩) rfl rfl rfl
theorem ph_RL5_ref07_Prec : phiA C1 N4 Z0 53 = F_ref07_Prec := phiA_L (e := ⟨53, _, F_ref07_Prec⟩) rfl rfl rfl
theorem ph_RL5_ref01_Full : phiA C1 N4 Z0 52 = F_ref01_Full := phiA_M (e := ⟨52, _, F_ref01_Full⟩) rfl rfl
theorem ph_RL5_ref01_Of : phiA C1 N4 Z0 120 = fOf := phiA_M (e := ⟨120, _, fOf⟩) rfl rfl
theorem ph_RL5_ref01_Sub : phiA C1 N4 Z0 100 = fSub := phiA_M (e := ⟨100, _, fSub⟩) rfl rfl
theorem ph_RL5_ref07_Split : phiA C1 N4 Z0 49 = F_ref07_Split := phiA_M (e := ⟨49, _, F_ref07_Split⟩) rfl rfl
theorem ph_RL5_ref01_Cmp : phiA C1 N4 Z0 51 = fCmp := phiA_M (e := ⟨51, _, fCmp⟩) rfl rfl
theorem ph_RL5_ref01_Add : phiA C1 N4 Z0 122 = fAdd := phiA_M (e := ⟨122, _, fAdd⟩) rfl rfl
theorem ph_RL5_ref15_Rest : phiA C1 N4 Z0 179 = F_ref15_Rest := phiA_M (e := ⟨179, _, F_ref15_Rest⟩) rfl rfl
theorem ph_RL5_ref01_Shl : phiA C1 N4 Z0 80 = fShl := phiA_M (e := ⟨80, _, fShl⟩) rfl rfl
theorem ph_RL5_ref01_Bit : phiA C1 N4 Z0 99 = fBit := phiA_M (e := ⟨99, _, fBit⟩) rfl rfl
theorem ph_RL5_ref13_Next : phiA C1 N4 Z0 180 = F_ref13_Next := phiA_L (e := ⟨180, _, F_ref13_Next⟩) rfl rfl rfl
theorem ph_RL5_ref01_Len : phiA C1 N4 Z0 124 = fLen := phiA_M (e := ⟨124, _, fLen⟩) rfl rfl
theorem ph_RL5_ref01_Shr : phiA C1 N4 Z0 119 = fShr := phiA_M (e := ⟨119, _, fShr⟩) rfl rfl
end Go.Proofs.YtngiodcdelfdmaaGreatDoor
namespace Go.Proofs.YtngiodcdelfdmaaGreatDoor
set_option linter.unusedVariables false
set_option maxRecDepth 100000
open Go.RowKit
theorem ok_RL6 : SOK (ctxA C5 N5 Z0) eE := ctxC_ok C5_ok N5_ok Z0_ok (by kernel_rfl)
def c_ref14_Over : Ct := ⟨[.sc kB, .sc kB, .sc .bool], [.agg [kU, kU, kB]]⟩
def t_ref14_Over : Tr' SV :=
 (.ite (.bin .gtr .u8 (.var kB 0) (.lit 3))
 (.leaf (.agg [(.int .u64 (.lit 0)), (.int .u64 (.lit 0)), (.int .u8 (.lit 0))]))
 (.ite (.bin .gtr .u8 (.var kB 1) (.lit 4))
 (.leaf (.agg [(.int .u64 (.lit 0)), (.int .u64 (.lit 0)), (.int .u8 (.lit 0))]))
 (.call 181 [(.var kB 0), (.var .bool 2)] 3 2
 (.call 182 [(.var kB 1), (.var .bool 2)] 5 1
 (.ite (.var .bool 5)
 (.call 55 [(.var kB 0), (.var .bool 2)] 6 2
 (.leaf (.agg [(.int .u64 (.var kU 6)), (.int .u64 (.var kU 7)), (.int .u8 (.lit 20))])))
 (.leaf (.agg [(.int .u64 (.var kU 3)), (.int .u64 (.var kU 4)), (.int .u8 (.lit 20))])))))))
theorem x_ref14_Over : execF (ctxA C5 N5 Z0) 3000 126 (uns c_ref14_Over.a (varsAt 0 (kindsOf c_ref14_Over.a))) (kindsOf c_ref14_Over.a).length = t_ref14_Over := by kernel_rfl
def F_ref14_Over : List Int → List Int := treeF (phiA C5 N5 Z0) c_ref14_Over t_ref14_Over
theorem e_ref14_Over : EntC Tryz.prog gG ⟨126, c_ref14_Over, F_ref14_Over⟩ := entC_of ok_RL6 3000 (by kernel_rfl) x_ref14_Over (by kernel_rfl)
def c_ref08_NaN : Ct := ⟨[.sc kB, .agg [kU, kU]], [.sc .bool]⟩
def t_ref08_NaN : Tr' SV :=
 (.call 13 [(.var kB 0), (.var kU 1), (.var kU 2)] 3 2
 (.ite (.bin .eql .u8 (.var kB 3) (.lit 4))
 (.leaf (.bool (.lit 1)))
 (.leaf (.bool (.bin .eql .u8 (.var kB 3) (.lit 5))))))
theorem x_ref08_NaN : execF (ctxA C5 N5 Z0) 3000 121 (uns c_ref08_NaN.a (varsAt 0 (kindsOf c_ref08_NaN.a))) (kindsOf c_ref08_NaN.a).length = t_ref08_NaN := by kernel_rfl
def F_ref08_NaN : List Int → List Int := treeF (phiA C5 N5 Z0) c_ref08_NaN t_ref08_NaN
theorem e_ref08_NaN : EntC Tryz.prog gG ⟨121, c_ref08_NaN, F_ref08_NaN⟩ := entC_of ok_RL6 3000 (by kernel_rfl) x_ref08_NaN (by kernel_rfl)
def c_ref08_Signaling : Ct := ⟨[.sc kB, .agg [kU, kU]], [.sc .bool]⟩
def t_ref08_Signaling : Tr' SV :=
 (.call 13 [(.var kB 0), (.var kU 1), (.var kU 2)] 3 2
 (.leaf (.bool (.bin .eql .u8 (.var kB 3) (.lit 5)))))
theorem x_ref08_Signaling : execF (ctxA C5 N5 Z0) 3000 123 (uns c_ref08_Signaling.a (varsAt 0 (kindsOf c_ref08_Signaling.a))) (kindsOf c_ref08_Signaling.a).length = t_ref08_Signaling := by kernel_rfl
def F_ref08_Signaling : List Int → List Int := treeF (phiA C5 N5 Z0) c_ref08_Signaling t_ref08_Signaling
theorem e_ref08_Signaling : EntC Tryz.prog gG ⟨123, c_ref08_Signaling, F_ref08_Signaling⟩ := entC_of ok_RL6 3000 (by kernel_rfl) x_ref08_Signaling (by kernel_rfl)
def c_ref10_Default : Ct := ⟨[.sc kB], [.agg [kU, kU]]⟩
def t_ref10_Default : Tr' SV :=
 (.ite (.bin .gtr .u8 (.var kB 0) (.lit 3))
 (.leaf (.agg [(.int .u64 (.lit 0)), (.int .u64 (.lit 0))]))
 (.call 50 [(.var kB 0)] 1 1
 (.call 53 [(.var kB 0)] 2 1
 (.call 52 [(.bin .sub .i64 (.var kI 2) (.lit 2))] 3 1
 (.call 78 [(.var kB 0), (.lit 0), (.bin .add .i64 (.bin .mul .i64 (.lit 2) (.var kI 1)) (.lit 1)), (.var .nat 3)] 4 2
 (.leaf (.agg [(.int .u64 (.var kU 4)), (.int .u64 (.var kU 5))])))))))
theorem x_ref10_Default : execF (ctxA C5 N5 Z0) 3000 149 (uns c_ref10_Default.a (varsAt 0 (kindsOf c_ref10_Default.a))) (kindsOf c_ref10_Default.a).length = t_ref10_Default := by kernel_rfl
def F_ref10_Default : List Int → List Int := treeF (phiA C5 N5 Z0) c_ref10_Default t_ref10_Default
theorem e_ref10_Default : EntC Tryz.prog gG ⟨149, c_ref10_Default, F_ref10_Default⟩ := entC_of ok_RL6 3000 (by kernel_rfl) x_ref10_Default (by kernel_rfl)
def c_ref18_Sum : Ct := ⟨[.agg [.bool, .nat, kI], .agg [.bool, .nat, kI]], [.agg [.bool, .nat, kI]]⟩
def t_ref18_Sum : Tr' SV :=
 (.call 80 [(.var .nat 1), (.bin .sub .i64 (.var kI 2) (.min (.var kI 2) (.var kI 5)))] 6 1
 (.call 80 [(.var .nat 4), (.bin .sub .i64 (.var kI 5) (.min (.var kI 2) (.var kI 5)))] 7 1
 (.ite (.beq (.var .bool 0) (.var .bool 3))
 (.call 122 [(.var .nat 6), (.var .nat 7)] 8 1
 (.leaf (.agg [(.int .u64 (.var .bool 0)), (.int .u64 (.var .nat 8)), (.int .u64 (.min (.var kI 2) (.var kI 5)))])))
 (.call 51 [(.var .nat 6), (.var .nat 7)] 8 1
 (.ite (.bin .lss .i64 (.var kI 8) (.lit 0))
 (.call 100 [(.var .nat 7), (.var .nat 6)] 9 1
 (.leaf (.agg [(.int .u64 (.var .bool 3)), (.int .u64 (.var .nat 9)), (.int .u64 (.min (.var kI 2) (.var kI 5)))])))
 (.call 100 [(.var .nat 6), (.var .nat 7)] 9 1
 (.leaf (.agg [(.int .u64 (.var .bool 0)), (.int .u64 (.var .nat 9)), (.int .u64 (.min (.var kI 2) (.var kI 5)))]))))))))
theorem x_ref18_Sum : execFN (ctxA C5 N5 Z0) 3000 176 c_ref18_Sum (kindsOf c_ref18_Sum.a).length = t_ref18_Sum := by kernel_rfl
def F_ref18_Sum : List Int → List Int := treeFN (phiA C5 N5 Z0) t_ref18_Sum
theorem e_ref18_Sum : EntNC Tryz.prog gG ⟨176, c_ref18_Sum, F_ref18_Sum⟩ := entNC_of ok_RL6 3000 (by kernel_rfl) (by kernel_rfl) x_ref18_Sum (by kernel_rfl)
def c_ref19_Product : Ct := ⟨[.agg [.bool, .nat, kI], .agg [.bool, .nat, kI]], [.agg [.bool, .nat, kI]]⟩
def t_ref19_Product : Tr' SV :=
 (.call 72 [(.var .nat 1), (.var .nat 4)] 6 1
 (.leaf (.agg [(.int .u64 (.not (.beq (.var .bool 0) (.var .bool 3)))), (.int .u64 (.var .nat 6)), (.int .u64 (.bin .add .i64 (.var kI 2) (.var kI 5)))])))
theorem x_ref19_Product : execFN (ctxA C5 N5 Z0) 3000 68 c_ref19_Product (kindsOf c_ref19_Product.a).length = t_ref19_Product := by kernel_rfl
def F_ref19_Product : List Int → List Int := treeFN (phiA C5 N5 Z0) t_ref19_Product
theorem e_ref19_Product : EntNC Tryz.prog gG ⟨68, c_ref19_Product, F_ref19_Product⟩ := entNC_of ok_RL6 3000 (by kernel_rfl) (by kernel_rfl) x_ref19_Product (by kernel_rfl)
def C6 : List Ent := ⟨126, c_ref14_Over, F_ref14_Over⟩ :: ⟨121, c_ref08_NaN, F_ref08_NaN⟩ :: ⟨123, c_ref08_Signaling, F_ref08_Signaling⟩ :: ⟨149, c_ref10_Default, F_ref10_Default⟩ :: C5
theorem C6_ok : ∀ e ∈ C6, EntC Tryz.prog gG e := List.forall_mem_cons.2 ⟨e_ref14_Over, List.forall_mem_cons.2 ⟨e_ref08_NaN, List.forall_mem_cons.2 ⟨e_ref08_Signaling, List.forall_mem_cons.2 ⟨e_ref10_Default, C5_ok⟩⟩⟩⟩
def N6 : List Ent := ⟨176, c_ref18_Sum, F_ref18_Sum⟩ :: ⟨68, c_ref19_Product, F_ref19_Product⟩ :: N5
theorem N6_ok : ∀ e ∈ N6, EntNC Tryz.prog gG e := List.forall_mem_cons.2 ⟨e_ref18_Sum, List.forall_mem_cons.2 ⟨e_ref19_Product, N5_ok⟩⟩
theorem ph_RL6_ref07_Max : phiA C5 N5 Z0 181 = F_ref07_Max := phiA_L (e := ⟨181, _, F_ref07_Max⟩) rfl rfl rfl
theorem ph_RL6_ref13_Infinite : phiA C5 N5 Z0 182 = F_ref13_Infinite := phiA_L (e := ⟨182, _, F_ref13_Infinite⟩) rfl rfl rfl
theorem ph_RL6_ref07_Inf : phiA C5 N5 Z0 55 = F_ref07_Inf := phiA_L (e := ⟨55, _, F_ref07_Inf⟩) rfl rfl rfl
theorem ph_RL6_ref08_Of : phiA C5 N5 Z0 13 = F_ref08_Of := phiA_L (e := ⟨13, _, F_ref08_Of⟩) rfl rfl rfl
theorem ph_RL6_ref07_Emax : phiA C5 N5 Z0 50 = F_ref07_Emax := phiA_L (e := ⟨50, _, F_ref07_Emax⟩) rfl rfl rfl
theorem ph_RL6_ref07_Prec : phiA C5 N5 Z0 53 = F_ref07_Prec := phiA_L (e := ⟨53, _, F_ref07_Prec⟩) rfl rfl rfl
theorem ph_RL6_ref01_Full : phiA C5 N5 Z0 52 = F_ref01_Full := phiA_M (e := ⟨52, _, F_ref01_Full⟩) rfl rfl
theorem ph_RL6_ref07_Make : phiA C5 N5 Z0 78 = F_ref07_Make := phiA_M (e := ⟨78, _, F_ref07_Make⟩) rfl rfl
end Go.Proofs.YtngiodcdelfdmaaGreatDoor
namespace Go.Proofs.YtngiodcdelfdmaaGreatDoor
set_option linter.unusedVariables false
set_option maxRecDepth 100000
open Go.RowKit
theorem ok_RL7 : SOK (ctxA C6 N6 Z0) eE := ctxC_ok C6_ok N6_ok Z0_ok (by kernel_rfl)
def c_ref10_Quiet : Ct := ⟨[.sc kB, .agg [kU, kU]], [.agg [kU, kU]]⟩
def t_ref10_Quiet : Tr' SV :=
 (.call 116 [(.var kB 0), (.var kU 1), (.var kU 2)] 3 1
 (.call 123 [(.var kB 0), (.var kU 1), (.var kU 2)] 4 1
 (.ite (.var .bool 4)
 (.call 53 [(.var kB 0)] 5 1
 (.call 52 [(.bin .sub .i64 (.var kI 5) (.lit 2))] 6 1
 (.call 122 [(.var .nat 3), (.var .nat 6)] 7 1
 (.call 118 [(.var .nat 7)] 8 2
 (.leaf (.agg [(.int .u64 (.var kU 8)), (.int .u64 (.var kU 9))]))))))
 (.call 118 [(.var .nat 3)] 5 2
 (.leaf (.agg [(.int .u64 (.var kU 5)), (.int .u64 (.var kU 6))]))))))
theorem x_ref10_Quiet : execF (ctxA C6 N6 Z0) 3000 150 (uns c_ref10_Quiet.a (varsAt 0 (kindsOf c_ref10_Quiet.a))) (kindsOf c_ref10_Quiet.a).length = t_ref10_Quiet := by kernel_rfl
def F_ref10_Quiet : List Int → List Int := treeF (phiA C6 N6 Z0) c_ref10_Quiet t_ref10_Quiet
theorem e_ref10_Quiet : EntC Tryz.prog gG ⟨150, c_ref10_Quiet, F_ref10_Quiet⟩ := entC_of ok_RL7 3000 (by kernel_rfl) x_ref10_Quiet (by kernel_rfl)
def c_ref16_Round : Ct := ⟨[.sc kB, .agg [kB, .bool], .agg [.bool, .nat, kI, .bool]], [.agg [kU, kU, kB]]⟩
def t_ref16_Round : Tr' SV :=
 (.ite (.bin .gtr .u8 (.var kB 0) (.lit 3))
 (.leaf (.agg [(.int .u64 (.lit 0)), (.int .u64 (.lit 0)), (.int .u64 (.lit 0))]))
 (.ite (.bin .gtr .u8 (.var kB 1) (.lit 4))
 (.leaf (.agg [(.int .u64 (.lit 0)), (.int .u64 (.lit 0)), (.int .u64 (.lit 0))]))
 (.ite (.bin .eql .i64 (.dlen (.var .nat 4)) (.lit 0))
 (.ite (.not (.var .bool 6))
 (.call 78 [(.var kB 0), (.var .bool 3), (.lit 0), (.lit 0)] 7 2
 (.leaf (.agg [(.int .u64 (.var kU 7)), (.int .u64 (.var kU 8)), (.int .u64 (.lit 0))])))
 (.call 53 [(.var kB 0)] 7 1
 (.call 50 [(.var kB 0)] 8 1
 (.call 124 [(.var .nat 4)] 9 1
 (.call 125 [(.var .nat 4), (.bin .sub .i64 (.bin .sub .i64 (.bin .add .i64 (.bin .sub .i64 (.var kI 9) (.lit 1)) (.var kI 5)) (.bin .sub .i64 (.var kI 7) (.lit 1))) (.var kI 5)), (.var .bool 6), (.var kB 1), (.var .bool 3)] 10 2
 (.call 124 [(.var .nat 10)] 12 1
 (.call 50 [(.var kB 0)] 13 1
 (.ite (.bin .gtr .i64 (.bin .sub .i64 (.bin .add .i64 (.bin .sub .i64 (.var kI 12) (.lit 1)) (.bin .add .i64 (.bin .sub .i64 (.var kI 9) (.lit 1)) (.var kI 5))) (.bin .sub .i64 (.var kI 7) (.lit 1))) (.var kI 13))
 (.call 126 [(.var kB 0), (.var kB 1), (.var .bool 3)] 14 3
 (.leaf (.agg [(.int .u64 (.var kU 14)), (.int .u64 (.var kU 15)), (.int .u64 (.var kB 16))])))
 (.call 125 [(.var .nat 4), (.bin .sub .i64 (.bin .sub .i64 (.max (.bin .add .i64 (.bin .sub .i64 (.var kI 9) (.lit 1)) (.var kI 5)) (.bin .sub .i64 (.lit 1) (.var kI 8))) (.bin .sub .i64 (.var kI 7) (.lit 1))) (.var kI 5)), (.var .bool 6), (.var kB 1), (.var .bool 3)] 14 2
 (.call 124 [(.var .nat 14)] 16 1
 (.ite (.bin .lss .i64 (.var kI 16) (.var kI 7))
 (.call 78 [(.var kB 0), (.var .bool 3), (.lit 0), (.var .nat 14)] 17 2
 (.ite (.bin .eql .i64 (.var kI 15) (.lit 0))
 (.leaf (.agg [(.int .u64 (.var kU 17)), (.int .u64 (.var kU 18)), (.int .u64 (.lit 0))]))
 (.ite (.var .bool 2)
 (.ite (.bin .lss .i64 (.bin .sub .i64 (.bin .add .i64 (.bin .sub .i64 (.var kI 12) (.lit 1)) (.bin .add .i64 (.bin .sub .i64 (.var kI 9) (.lit 1)) (.var kI 5))) (.bin .sub .i64 (.var kI 7) (.lit 1))) (.bin .sub .i64 (.lit 1) (.var kI 8)))
 (.leaf (.agg [(.int .u64 (.var kU 17)), (.int .u64 (.var kU 18)), (.int .u64 (.lit 24))]))
 (.leaf (.agg [(.int .u64 (.var kU 17)), (.int .u64 (.var kU 18)), (.int .u64 (.lit 16))])))
 (.ite (.bin .lss .i64 (.bin .add .i64 (.bin .sub .i64 (.var kI 9) (.lit 1)) (.var kI 5)) (.bin .sub .i64 (.lit 1) (.var kI 8)))
 (.leaf (.agg [(.int .u64 (.var kU 17)), (.int .u64 (.var kU 18)), (.int .u64 (.lit 24))]))
 (.leaf (.agg [(.int .u64 (.var kU 17)), (.int .u64 (.var kU 18)), (.int .u64 (.lit 16))]))))))
 (.call 124 [(.var .nat 14)] 17 1
 (.call 124 [(.var .nat 14)] 18 1
 (.call 119 [(.var .nat 14), (.bin .sub .i64 (.var kI 18) (.var kI 7))] 19 1
 (.call 78 [(.var kB 0), (.var .bool 3), (.bin .add .i64 (.bin .sub .i64 (.bin .add .i64 (.bin .sub .i64 (.var kI 17) (.lit 1)) (.bin .sub .i64 (.max (.bin .add .i64 (.bin .sub .i64 (.var kI 9) (.lit 1)) (.var kI 5)) (.bin .sub .i64 (.lit 1) (.var kI 8))) (.bin .sub .i64 (.var kI 7) (.lit 1)))) (.bin .sub .i64 (.lit 1) (.var kI 8))) (.lit 1)), (.var .nat 19)] 20 2
 (.ite (.bin .eql .i64 (.var kI 15) (.lit 0))
 (.leaf (.agg [(.int .u64 (.var kU 20)), (.int .u64 (.var kU 21)), (.int .u64 (.lit 0))]))
 (.ite (.var .bool 2)
 (.ite (.bin .lss .i64 (.bin .sub .i64 (.bin .add .i64 (.bin .sub .i64 (.var kI 12) (.lit 1)) (.bin .add .i64 (.bin .sub .i64 (.var kI 9) (.lit 1)) (.var kI 5))) (.bin .sub .i64 (.var kI 7) (.lit 1))) (.bin .sub .i64 (.lit 1) (.var kI 8)))
 (.leaf (.agg [(.int .u64 (.var kU 20)), (.int .u64 (.var kU 21)), (.int .u64 (.lit 24))]))
 (.leaf (.agg [(.int .u64 (.var kU 20)), (.int .u64 (.var kU 21)), (.int .u64 (.lit 16))])))
 (.ite (.bin .lss .i64 (.bin .add .i64 (.bin .sub .i64 (.var kI 9) (.lit 1)) (.var kI 5)) (.bin .sub .i64 (.lit 1) (.var kI 8)))
 (.leaf (.agg [(.int .u64 (.var kU 20)), (.int .u64 (.var kU 21)), (.int .u64 (.lit 24))]))
 (.leaf (.agg [(.int .u64 (.var kU 20)), (.int .u64 (.var kU 21)), (.int .u64 (.lit 16))]))))))))))))))))))))
 (.call 53 [(.var kB 0)] 7 1
 (.call 50 [(.var kB 0)] 8 1
 (.call 124 [(.var .nat 4)] 9 1
 (.call 125 [(.var .nat 4), (.bin .sub .i64 (.bin .sub .i64 (.bin .add .i64 (.bin .sub .i64 (.var kI 9) (.lit 1)) (.var kI 5)) (.bin .sub .i64 (.var kI 7) (.lit 1))) (.var kI 5)), (.var .bool 6), (.var kB 1), (.var .bool 3)] 10 2
 (.call 124 [(.var .nat 10)] 12 1
 (.call 50 [(.var kB 0)] 13 1
 (.ite (.bin .gtr .i64 (.bin .sub .i64 (.bin .add .i64 (.bin .sub .i64 (.var kI 12) (.lit 1)) (.bin .add .i64 (.bin .sub .i64 (.var kI 9) (.lit 1)) (.var kI 5))) (.bin .sub .i64 (.var kI 7) (.lit 1))) (.var kI 13))
 (.call 126 [(.var kB 0), (.var kB 1), (.var .bool 3)] 14 3
 (.leaf (.agg [(.int .u64 (.var kU 14)), (.int .u64 (.var kU 15)), (.int .u64 (.var kB 16))])))
 (.call 125 [(.var .nat 4), (.bin .sub .i64 (.bin .sub .i64 (.max (.bin .add .i64 (.bin .sub .i64 (.var kI 9) (.lit 1)) (.var kI 5)) (.bin .sub .i64 (.lit 1) (.var kI 8))) (.bin .sub .i64 (.var kI 7) (.lit 1))) (.var kI 5)), (.var .bool 6), (.var kB 1), (.var .bool 3)] 14 2
 (.call 124 [(.var .nat 14)] 16 1
 (.ite (.bin .lss .i64 (.var kI 16) (.var kI 7))
 (.call 78 [(.var kB 0), (.var .bool 3), (.lit 0), (.var .nat 14)] 17 2
 (.ite (.bin .eql .i64 (.var kI 15) (.lit 0))
 (.leaf (.agg [(.int .u64 (.var kU 17)), (.int .u64 (.var kU 18)), (.int .u64 (.lit 0))]))
 (.ite (.var .bool 2)
 (.ite (.bin .lss .i64 (.bin .sub .i64 (.bin .add .i64 (.bin .sub .i64 (.var kI 12) (.lit 1)) (.bin .add .i64 (.bin .sub .i64 (.var kI 9) (.lit 1)) (.var kI 5))) (.bin .sub .i64 (.var kI 7) (.lit 1))) (.bin .sub .i64 (.lit 1) (.var kI 8)))
 (.leaf (.agg [(.int .u64 (.var kU 17)), (.int .u64 (.var kU 18)), (.int .u64 (.lit 24))]))
 (.leaf (.agg [(.int .u64 (.var kU 17)), (.int .u64 (.var kU 18)), (.int .u64 (.lit 16))])))
 (.ite (.bin .lss .i64 (.bin .add .i64 (.bin .sub .i64 (.var kI 9) (.lit 1)) (.var kI 5)) (.bin .sub .i64 (.lit 1) (.var kI 8)))
 (.leaf (.agg [(.int .u64 (.var kU 17)), (.int .u64 (.var kU 18)), (.int .u64 (.lit 24))]))
 (.leaf (.agg [(.int .u64 (.var kU 17)), (.int .u64 (.var kU 18)), (.int .u64 (.lit 16))]))))))
 (.call 124 [(.var .nat 14)] 17 1
 (.call 124 [(.var .nat 14)] 18 1
 (.call 119 [(.var .nat 14), (.bin .sub .i64 (.var kI 18) (.var kI 7))] 19 1
 (.call 78 [(.var kB 0), (.var .bool 3), (.bin .add .i64 (.bin .sub .i64 (.bin .add .i64 (.bin .sub .i64 (.var kI 17) (.lit 1)) (.bin .sub .i64 (.max (.bin .add .i64 (.bin .sub .i64 (.var kI 9) (.lit 1)) (.var kI 5)) (.bin .sub .i64 (.lit 1) (.var kI 8))) (.bin .sub .i64 (.var kI 7) (.lit 1)))) (.bin .sub .i64 (.lit 1) (.var kI 8))) (.lit 1)), (.var .nat 19)] 20 2
 (.ite (.bin .eql .i64 (.var kI 15) (.lit 0))
 (.leaf (.agg [(.int .u64 (.var kU 20)), (.int .u64 (.var kU 21)), (.int .u64 (.lit 0))]))
 (.ite (.var .bool 2)
 (.ite (.bin .lss .i64 (.bin .sub .i64 (.bin .add .i64 (.bin .sub .i64 (.var kI 12) (.lit 1)) (.bin .add .i64 (.bin .sub .i64 (.var kI 9) (.lit 1)) (.var kI 5))) (.bin .sub .i64 (.var kI 7) (.lit 1))) (.bin .sub .i64 (.lit 1) (.var kI 8)))
 (.leaf (.agg [(.int .u64 (.var kU 20)), (.int .u64 (.var kU 21)), (.int .u64 (.lit 24))]))
 (.leaf (.agg [(.int .u64 (.var kU 20)), (.int .u64 (.var kU 21)), (.int .u64 (.lit 16))])))
 (.ite (.bin .lss .i64 (.bin .add .i64 (.bin .sub .i64 (.var kI 9) (.lit 1)) (.var kI 5)) (.bin .sub .i64 (.lit 1) (.var kI 8)))
 (.leaf (.agg [(.int .u64 (.var kU 20)), (.int .u64 (.var kU 21)), (.int .u64 (.lit 24))]))
 (.leaf (.agg [(.int .u64 (.var kU 20)), (.int .u64 (.var kU 21)), (.int .u64 (.lit 16))]))))))))))))))))))))))
theorem x_ref16_Round : execFN (ctxA C6 N6 Z0) 3000 57 c_ref16_Round (kindsOf c_ref16_Round.a).length = t_ref16_Round := by kernel_rfl
def F_ref16_Round : List Int → List Int := treeFN (phiA C6 N6 Z0) t_ref16_Round
theorem e_ref16_Round : EntNC Tryz.prog gG ⟨57, c_ref16_Round, F_ref16_Round⟩ := entNC_of ok_RL7 3000 (by kernel_rfl) (by kernel_rfl) x_ref16_Round (by kernel_rfl)
def C17 : List Ent := ⟨150, c_ref10_Quiet, F_ref10_Quiet⟩ :: C6
theorem C17_ok : ∀ e ∈ C17, EntC Tryz.prog gG e := List.forall_mem_cons.2 ⟨e_ref10_Quiet, C6_ok⟩
def N7 : List Ent := ⟨57, c_ref16_Round, F_ref16_Round⟩ :: N6
theorem N7_ok : ∀ e ∈ N7, EntNC Tryz.prog gG e := List.forall_mem_cons.2 ⟨e_ref16_Round, N6_ok⟩
theorem ph_RL7_ref07_Cut : phiA C6 N6 Z0 116 = F_ref07_Cut := phiA_M (e := ⟨116, _, F_ref07_Cut⟩) rfl rfl
theorem ph_RL7_ref08_Signaling : phiA C6 N6 Z0 123 = F_ref08_Signaling := phiA_L (e := ⟨123, _, F_ref08_Signaling⟩) rfl rfl rfl
theorem ph_RL7_ref07_Prec : phiA C6 N6 Z0 53 = F_ref07_Prec := phiA_L (e := ⟨53, _, F_ref07_Prec⟩) rfl rfl rfl
theorem ph_RL7_ref01_Full : phiA C6 N6 Z0 52 = F_ref01_Full := phiA_M (e := ⟨52, _, F_ref01_Full⟩) rfl rfl
theorem ph_RL7_ref01_Add : phiA C6 N6 Z0 122 = fAdd := phiA_M (e := ⟨122, _, fAdd⟩) rfl rfl
theorem ph_RL7_ref01_Bits : phiA C6 N6 Z0 118 = F_ref01_Bits := phiA_M (e := ⟨118, _, F_ref01_Bits⟩) rfl rfl
theorem ph_RL7_ref07_Make : phiA C6 N6 Z0 78 = F_ref07_Make := phiA_M (e := ⟨78, _, F_ref07_Make⟩) rfl rfl
theorem ph_RL7_ref07_Emax : phiA C6 N6 Z0 50 = F_ref07_Emax := phiA_L (e := ⟨50, _, F_ref07_Emax⟩) rfl rfl rfl
theorem ph_RL7_ref01_Len : phiA C6 N6 Z0 124 = fLen := phiA_M (e := ⟨124, _, fLen⟩) rfl rfl
theorem ph_RL7_ref15_Cut : phiA C6 N6 Z0 125 = F_ref15_Cut := phiA_M (e := ⟨125, _, F_ref15_Cut⟩) rfl rfl
theorem ph_RL7_ref14_Over : phiA C6 N6 Z0 126 = F_ref14_Over := phiA_L (e := ⟨126, _, F_ref14_Over⟩) rfl rfl rfl
theorem ph_RL7_ref01_Shr : phiA C6 N6 Z0 119 = fShr := phiA_M (e := ⟨119, _, fShr⟩) rfl rfl
end Go.Proofs.YtngiodcdelfdmaaGreatDoor
namespace Go.Proofs.YtngiodcdelfdmaaGreatDoor
set_option linter.unusedVariables false
set_option maxRecDepth 100000
open Go.RowKit
theorem ok_RL8 : SOK (ctxA C17 N7 Z0) eE := ctxC_ok C17_ok N7_ok Z0_ok (by kernel_rfl)
def c_ref10_Pick_1 : SlC := ⟨1000067, [.sc kB, .sc .bool], 1, 28, [kU, kU], [.agg [kU, kU, kB], .sc .bool]⟩
def t_ref10_Pick_1 : Tr' SV :=
 (.ite (.bin .gtr .u8 (.var kB 0) (.lit 3))
 (.leaf (.tup [(.agg [(.int .u64 (.lit 0)), (.int .u64 (.lit 0)), (.int .u8 (.lit 0))]), (.bool (.lit 0))]))
 (.call 149 [(.var kB 0)] 4 2
 (.call 121 [(.var kB 0), (.var kU 2), (.var kU 3)] 6 1
 (.ite (.var .bool 6)
 (.call 150 [(.var kB 0), (.var kU 2), (.var kU 3)] 7 2
 (.call 123 [(.var kB 0), (.var kU 2), (.var kU 3)] 9 1
 (.ite (.var .bool 9)
 (.ite (.var .bool 1)
 (.leaf (.tup [(.agg [(.int .u64 (.var kU 7)), (.int .u64 (.var kU 8)), (.int .u8 (.lit 1))]), (.bool (.lit 1))]))
 (.leaf (.tup [(.agg [(.int .u64 (.var kU 7)), (.int .u64 (.var kU 8)), (.int .u8 (.lit 1))]), (.bool (.lit 1))])))
 (.ite (.var .bool 1)
 (.leaf (.tup [(.agg [(.int .u64 (.var kU 7)), (.int .u64 (.var kU 8)), (.int .u8 (.lit 1))]), (.bool (.lit 1))]))
 (.leaf (.tup [(.agg [(.int .u64 (.var kU 7)), (.int .u64 (.var kU 8)), (.int .u8 (.lit 0))]), (.bool (.lit 1))]))))))
 (.call 123 [(.var kB 0), (.var kU 2), (.var kU 3)] 7 1
 (.ite (.var .bool 7)
 (.ite (.var .bool 1)
 (.leaf (.tup [(.agg [(.int .u64 (.var kU 4)), (.int .u64 (.var kU 5)), (.int .u8 (.lit 1))]), (.bool (.lit 1))]))
 (.leaf (.tup [(.agg [(.int .u64 (.lit 0)), (.int .u64 (.lit 0)), (.int .u8 (.lit 0))]), (.bool (.lit 0))])))
 (.ite (.var .bool 1)
 (.leaf (.tup [(.agg [(.int .u64 (.var kU 4)), (.int .u64 (.var kU 5)), (.int .u8 (.lit 1))]), (.bool (.lit 1))]))
 (.leaf (.tup [(.agg [(.int .u64 (.lit 0)), (.int .u64 (.lit 0)), (.int .u8 (.lit 0))]), (.bool (.lit 0))])))))))))
theorem x_ref10_Pick_1 : execFS (ctxA C17 N7 Z0) 3000 67 c_ref10_Pick_1 = t_ref10_Pick_1 := by kernel_rfl
def F_ref10_Pick_1 : List Int → List Int := treeF (phiA C17 N7 Z0) ⟨c_ref10_Pick_1.a, c_ref10_Pick_1.r⟩ t_ref10_Pick_1
theorem e_ref10_Pick_1 : EntSC Tryz.prog gG ⟨67, c_ref10_Pick_1, F_ref10_Pick_1⟩ := entSC_of ok_RL8 3000 (by kernel_rfl) x_ref10_Pick_1 (by kernel_rfl)
def c_ref10_Pick_2 : SlC := ⟨2000067, [.sc kB, .sc .bool], 2, 28, [kU, kU, kU, kU], [.agg [kU, kU, kB], .sc .bool]⟩
def t_ref10_Pick_2 : Tr' SV :=
 (.ite (.bin .gtr .u8 (.var kB 0) (.lit 3))
 (.leaf (.tup [(.agg [(.int .u64 (.lit 0)), (.int .u64 (.lit 0)), (.int .u8 (.lit 0))]), (.bool (.lit 0))]))
 (.call 149 [(.var kB 0)] 6 2
 (.call 121 [(.var kB 0), (.var kU 2), (.var kU 3)] 8 1
 (.ite (.var .bool 8)
 (.call 150 [(.var kB 0), (.var kU 2), (.var kU 3)] 9 2
 (.call 123 [(.var kB 0), (.var kU 2), (.var kU 3)] 11 1
 (.ite (.var .bool 11)
 (.call 121 [(.var kB 0), (.var kU 4), (.var kU 5)] 12 1
 (.ite (.var .bool 12)
 (.call 123 [(.var kB 0), (.var kU 4), (.var kU 5)] 13 1
 (.ite (.var .bool 13)
 (.ite (.var .bool 1)
 (.leaf (.tup [(.agg [(.int .u64 (.var kU 9)), (.int .u64 (.var kU 10)), (.int .u8 (.lit 1))]), (.bool (.lit 1))]))
 (.leaf (.tup [(.agg [(.int .u64 (.var kU 9)), (.int .u64 (.var kU 10)), (.int .u8 (.lit 1))]), (.bool (.lit 1))])))
 (.ite (.var .bool 1)
 (.leaf (.tup [(.agg [(.int .u64 (.var kU 9)), (.int .u64 (.var kU 10)), (.int .u8 (.lit 1))]), (.bool (.lit 1))]))
 (.leaf (.tup [(.agg [(.int .u64 (.var kU 9)), (.int .u64 (.var kU 10)), (.int .u8 (.lit 1))]), (.bool (.lit 1))])))))
 (.call 123 [(.var kB 0), (.var kU 4), (.var kU 5)] 13 1
 (.ite (.var .bool 13)
 (.ite (.var .bool 1)
 (.leaf (.tup [(.agg [(.int .u64 (.var kU 9)), (.int .u64 (.var kU 10)), (.int .u8 (.lit 1))]), (.bool (.lit 1))]))
 (.leaf (.tup [(.agg [(.int .u64 (.var kU 9)), (.int .u64 (.var kU 10)), (.int .u8 (.lit 1))]), (.bool (.lit 1))])))
 (.ite (.var .bool 1)
 (.leaf (.tup [(.agg [(.int .u64 (.var kU 9)), (.int .u64 (.var kU 10)), (.int .u8 (.lit 1))]), (.bool (.lit 1))]))
 (.leaf (.tup [(.agg [(.int .u64 (.var kU 9)), (.int .u64 (.var kU 10)), (.int .u8 (.lit 1))]), (.bool (.lit 1))])))))))
 (.call 121 [(.var kB 0), (.var kU 4), (.var kU 5)] 12 1
 (.ite (.var .bool 12)
 (.call 123 [(.var kB 0), (.var kU 4), (.var kU 5)] 13 1
 (.ite (.var .bool 13)
 (.ite (.var .bool 1)
 (.leaf (.tup [(.agg [(.int .u64 (.var kU 9)), (.int .u64 (.var kU 10)), (.int .u8 (.lit 1))]), (.bool (.lit 1))]))
 (.leaf (.tup [(.agg [(.int .u64 (.var kU 9)), (.int .u64 (.var kU 10)), (.int .u8 (.lit 1))]), (.bool (.lit 1))])))
 (.ite (.var .bool 1)
 (.leaf (.tup [(.agg [(.int .u64 (.var kU 9)), (.int .u64 (.var kU 10)), (.int .u8 (.lit 1))]), (.bool (.lit 1))]))
 (.leaf (.tup [(.agg [(.int .u64 (.var kU 9)), (.int .u64 (.var kU 10)), (.int .u8 (.lit 0))]), (.bool (.lit 1))])))))
 (.call 123 [(.var kB 0), (.var kU 4), (.var kU 5)] 13 1
 (.ite (.var .bool 13)
 (.ite (.var .bool 1)
 (.leaf (.tup [(.agg [(.int .u64 (.var kU 9)), (.int .u64 (.var kU 10)), (.int .u8 (.lit 1))]), (.bool (.lit 1))]))
 (.leaf (.tup [(.agg [(.int .u64 (.var kU 9)), (.int .u64 (.var kU 10)), (.int .u8 (.lit 1))]), (.bool (.lit 1))])))
 (.ite (.var .bool 1)
 (.leaf (.tup [(.agg [(.int .u64 (.var kU 9)), (.int .u64 (.var kU 10)), (.int .u8 (.lit 1))]), (.bool (.lit 1))]))
 (.leaf (.tup [(.agg [(.int .u64 (.var kU 9)), (.int .u64 (.var kU 10)), (.int .u8 (.lit 0))]), (.bool (.lit 1))]))))))))))
 (.call 123 [(.var kB 0), (.var kU 2), (.var kU 3)] 9 1
 (.ite (.var .bool 9)
 (.call 121 [(.var kB 0), (.var kU 4), (.var kU 5)] 10 1
 (.ite (.var .bool 10)
 (.call 150 [(.var kB 0), (.var kU 4), (.var kU 5)] 11 2
 (.call 123 [(.var kB 0), (.var kU 4), (.var kU 5)] 13 1
 (.ite (.var .bool 13)
 (.ite (.var .bool 1)
 (.leaf (.tup [(.agg [(.int .u64 (.var kU 11)), (.int .u64 (.var kU 12)), (.int .u8 (.lit 1))]), (.bool (.lit 1))]))
 (.leaf (.tup [(.agg [(.int .u64 (.var kU 11)), (.int .u64 (.var kU 12)), (.int .u8 (.lit 1))]), (.bool (.lit 1))])))
 (.ite (.var .bool 1)
 (.leaf (.tup [(.agg [(.int .u64 (.var kU 11)), (.int .u64 (.var kU 12)), (.int .u8 (.lit 1))]), (.bool (.lit 1))]))
 (.leaf (.tup [(.agg [(.int .u64 (.var kU 11)), (.int .u64 (.var kU 12)), (.int .u8 (.lit 1))]), (.bool (.lit 1))]))))))
 (.call 123 [(.var kB 0), (.var kU 4), (.var kU 5)] 11 1
 (.ite (.var .bool 11)
 (.ite (.var .bool 1)
 (.leaf (.tup [(.agg [(.int .u64 (.var kU 6)), (.int .u64 (.var kU 7)), (.int .u8 (.lit 1))]), (.bool (.lit 1))]))
 (.leaf (.tup [(.agg [(.int .u64 (.lit 0)), (.int .u64 (.lit 0)), (.int .u8 (.lit 0))]), (.bool (.lit 0))])))
 (.ite (.var .bool 1)
 (.leaf (.tup [(.agg [(.int .u64 (.var kU 6)), (.int .u64 (.var kU 7)), (.int .u8 (.lit 1))]), (.bool (.lit 1))]))
 (.leaf (.tup [(.agg [(.int .u64 (.lit 0)), (.int .u64 (.lit 0)), (.int .u8 (.lit 0))]), (.bool (.lit 0))])))))))
 (.call 121 [(.var kB 0), (.var kU 4), (.var kU 5)] 10 1
 (.ite (.var .bool 10)
 (.call 150 [(.var kB 0), (.var kU 4), (.var kU 5)] 11 2
 (.call 123 [(.var kB 0), (.var kU 4), (.var kU 5)] 13 1
 (.ite (.var .bool 13)
 (.ite (.var .bool 1)
 (.leaf (.tup [(.agg [(.int .u64 (.var kU 11)), (.int .u64 (.var kU 12)), (.int .u8 (.lit 1))]), (.bool (.lit 1))]))
 (.leaf (.tup [(.agg [(.int .u64 (.var kU 11)), (.int .u64 (.var kU 12)), (.int .u8 (.lit 1))]), (.bool (.lit 1))])))
 (.ite (.var .bool 1)
 (.leaf (.tup [(.agg [(.int .u64 (.var kU 11)), (.int .u64 (.var kU 12)), (.int .u8 (.lit 1))]), (.bool (.lit 1))]))
 (.leaf (.tup [(.agg [(.int .u64 (.var kU 11)), (.int .u64 (.var kU 12)), (.int .u8 (.lit 0))]), (.bool (.lit 1))]))))))
 (.call 123 [(.var kB 0), (.var kU 4), (.var kU 5)] 11 1
 (.ite (.var .bool 11)
 (.ite (.var .bool 1)
 (.leaf (.tup [(.agg [(.int .u64 (.var kU 6)), (.int .u64 (.var kU 7)), (.int .u8 (.lit 1))]), (.bool (.lit 1))]))
 (.leaf (.tup [(.agg [(.int .u64 (.lit 0)), (.int .u64 (.lit 0)), (.int .u8 (.lit 0))]), (.bool (.lit 0))])))
 (.ite (.var .bool 1)
 (.leaf (.tup [(.agg [(.int .u64 (.var kU 6)), (.int .u64 (.var kU 7)), (.int .u8 (.lit 1))]), (.bool (.lit 1))]))
 (.leaf (.tup [(.agg [(.int .u64 (.lit 0)), (.int .u64 (.lit 0)), (.int .u8 (.lit 0))]), (.bool (.lit 0))])))))))))))))
theorem x_ref10_Pick_2 : execFS (ctxA C17 N7 Z0) 3000 67 c_ref10_Pick_2 = t_ref10_Pick_2 := by kernel_rfl
def F_ref10_Pick_2 : List Int → List Int := treeF (phiA C17 N7 Z0) ⟨c_ref10_Pick_2.a, c_ref10_Pick_2.r⟩ t_ref10_Pick_2
theorem e_ref10_Pick_2 : EntSC Tryz.prog gG ⟨67, c_ref10_Pick_2, F_ref10_Pick_2⟩ := entSC_of ok_RL8 3000 (by kernel_rfl) x_ref10_Pick_2 (by kernel_rfl)
def c_ref10_Pick_3 : SlC := ⟨3000067, [.sc kB, .sc .bool], 3, 28, [kU, kU, kU, kU, kU, kU], [.agg [kU, kU, kB], .sc .bool]⟩
def t_ref10_Pick_3 : Tr' SV :=
 (.ite (.bin .gtr .u8 (.var kB 0) (.lit 3))
 (.leaf (.tup [(.agg [(.int .u64 (.lit 0)), (.int .u64 (.lit 0)), (.int .u8 (.lit 0))]), (.bool (.lit 0))]))
 (.call 149 [(.var kB 0)] 8 2
 (.call 121 [(.var kB 0), (.var kU 2), (.var kU 3)] 10 1
 (.ite (.var .bool 10)
 (.call 150 [(.var kB 0), (.var kU 2), (.var kU 3)] 11 2
 (.call 123 [(.var kB 0), (.var kU 2), (.var kU 3)] 13 1
 (.ite (.var .bool 13)
 (.call 121 [(.var kB 0), (.var kU 4), (.var kU 5)] 14 1
 (.ite (.var .bool 14)
 (.call 123 [(.var kB 0), (.var kU 4), (.var kU 5)] 15 1
 (.ite (.var .bool 15)
 (.call 121 [(.var kB 0), (.var kU 6), (.var kU 7)] 16 1
 (.ite (.var .bool 16)
 (.call 123 [(.var kB 0), (.var kU 6), (.var kU 7)] 17 1
 (.ite (.var .bool 17)
 (.ite (.var .bool 1)
 (.leaf (.tup [(.agg [(.int .u64 (.var kU 11)), (.int .u64 (.var kU 12)), (.int .u8 (.lit 1))]), (.bool (.lit 1))]))
 (.leaf (.tup [(.agg [(.int .u64 (.var kU 11)), (.int .u64 (.var kU 12)), (.int .u8 (.lit 1))]), (.bool (.lit 1))])))
 (.ite (.var .bool 1)
 (.leaf (.tup [(.agg [(.int .u64 (.var kU 11)), (.int .u64 (.var kU 12)), (.int .u8 (.lit 1))]), (.bool (.lit 1))]))
 (.leaf (.tup [(.agg [(.int .u64 (.var kU 11)), (.int .u64 (.var kU 12)), (.int .u8 (.lit 1))]), (.bool (.lit 1))])))))
 (.call 123 [(.var kB 0), (.var kU 6), (.var kU 7)] 17 1
 (.ite (.var .bool 17)
 (.ite (.var .bool 1)
 (.leaf (.tup [(.agg [(.int .u64 (.var kU 11)), (.int .u64 (.var kU 12)), (.int .u8 (.lit 1))]), (.bool (.lit 1))]))
 (.leaf (.tup [(.agg [(.int .u64 (.var kU 11)), (.int .u64 (.var kU 12)), (.int .u8 (.lit 1))]), (.bool (.lit 1))])))
 (.ite (.var .bool 1)
 (.leaf (.tup [(.agg [(.int .u64 (.var kU 11)), (.int .u64 (.var kU 12)), (.int .u8 (.lit 1))]), (.bool (.lit 1))]))
 (.leaf (.tup [(.agg [(.int .u64 (.var kU 11)), (.int .u64 (.var kU 12)), (.int .u8 (.lit 1))]), (.bool (.lit 1))])))))))
 (.call 121 [(.var kB 0), (.var kU 6), (.var kU 7)] 16 1
 (.ite (.var .bool 16)
 (.call 123 [(.var kB 0), (.var kU 6), (.var kU 7)] 17 1
 (.ite (.var .bool 17)
 (.ite (.var .bool 1)
 (.leaf (.tup [(.agg [(.int .u64 (.var kU 11)), (.int .u64 (.var kU 12)), (.int .u8 (.lit 1))]), (.bool (.lit 1))]))
 (.leaf (.tup [(.agg [(.int .u64 (.var kU 11)), (.int .u64 (.var kU 12)), (.int .u8 (.lit 1))]), (.bool (.lit 1))])))
 (.ite (.var .bool 1)
 (.leaf (.tup [(.agg [(.int .u64 (.var kU 11)), (.int .u64 (.var kU 12)), (.int .u8 (.lit 1))]), (.bool (.lit 1))]))
 (.leaf (.tup [(.agg [(.int .u64 (.var kU 11)), (.int .u64 (.var kU 12)), (.int .u8 (.lit 1))]), (.bool (.lit 1))])))))
 (.call 123 [(.var kB 0), (.var kU 6), (.var kU 7)] 17 1
 (.ite (.var .bool 17)
 (.ite (.var .bool 1)
 (.leaf (.tup [(.agg [(.int .u64 (.var kU 11)), (.int .u64 (.var kU 12)), (.int .u8 (.lit 1))]), (.bool (.lit 1))]))
 (.leaf (.tup [(.agg [(.int .u64 (.var kU 11)), (.int .u64 (.var kU 12)), (.int .u8 (.lit 1))]), (.bool (.lit 1))])))
 (.ite (.var .bool 1)
 (.leaf (.tup [(.agg [(.int .u64 (.var kU 11)), (.int .u64 (.var kU 12)), (.int .u8 (.lit 1))]), (.bool (.lit 1))]))
 (.leaf (.tup [(.agg [(.int .u64 (.var kU 11)), (.int .u64 (.var kU 12)), (.int .u8 (.lit 1))]), (.bool (.lit 1))])))))))))
 (.call 123 [(.var kB 0), (.var kU 4), (.var kU 5)] 15 1
 (.ite (.var .bool 15)
 (.call 121 [(.var kB 0), (.var kU 6), (.var kU 7)] 16 1
 (.ite (.var .bool 16)
 (.call 123 [(.var kB 0), (.var kU 6), (.var kU 7)] 17 1
 (.ite (.var .bool 17)
 (.ite (.var .bool 1)
 (.leaf (.tup [(.agg [(.int .u64 (.var kU 11)), (.int .u64 (.var kU 12)), (.int .u8 (.lit 1))]), (.bool (.lit 1))]))
 (.leaf (.tup [(.agg [(.int .u64 (.var kU 11)), (.int .u64 (.var kU 12)), (.int .u8 (.lit 1))]), (.bool (.lit 1))])))
 (.ite (.var .bool 1)
 (.leaf (.tup [(.agg [(.int .u64 (.var kU 11)), (.int .u64 (.var kU 12)), (.int .u8 (.lit 1))]), (.bool (.lit 1))]))
 (.leaf (.tup [(.agg [(.int .u64 (.var kU 11)), (.int .u64 (.var kU 12)), (.int .u8 (.lit 1))]), (.bool (.lit 1))])))))
 (.call 123 [(.var kB 0), (.var kU 6), (.var kU 7)] 17 1
 (.ite (.var .bool 17)
 (.ite (.var .bool 1)
 (.leaf (.tup [(.agg [(.int .u64 (.var kU 11)), (.int .u64 (.var kU 12)), (.int .u8 (.lit 1))]), (.bool (.lit 1))]))
 (.leaf (.tup [(.agg [(.int .u64 (.var kU 11)), (.int .u64 (.var kU 12)), (.int .u8 (.lit 1))]), (.bool (.lit 1))])))
 (.ite (.var .bool 1)
 (.leaf (.tup [(.agg [(.int .u64 (.var kU 11)), (.int .u64 (.var kU 12)), (.int .u8 (.lit 1))]), (.bool (.lit 1))]))
 (.leaf (.tup [(.agg [(.int .u64 (.var kU 11)), (.int .u64 (.var kU 12)), (.int .u8 (.lit 1))]), (.bool (.lit 1))])))))))
 (.call 121 [(.var kB 0), (.var kU 6), (.var kU 7)] 16 1
 (.ite (.var .bool 16)
 (.call 123 [(.var kB 0), (.var kU 6), (.var kU 7)] 17 1
 (.ite (.var .bool 17)
 (.ite (.var .bool 1)
 (.leaf (.tup [(.agg [(.int .u64 (.var kU 11)), (.int .u64 (.var kU 12)), (.int .u8 (.lit 1))]), (.bool (.lit 1))]))
 (.leaf (.tup [(.agg [(.int .u64 (.var kU 11)), (.int .u64 (.var kU 12)), (.int .u8 (.lit 1))]), (.bool (.lit 1))])))
 (.ite (.var .bool 1)
 (.leaf (.tup [(.agg [(.int .u64 (.var kU 11)), (.int .u64 (.var kU 12)), (.int .u8 (.lit 1))]), (.bool (.lit 1))]))
 (.leaf (.tup [(.agg [(.int .u64 (.var kU 11)), (.int .u64 (.var kU 12)), (.int .u8 (.lit 1))]), (.bool (.lit 1))])))))
 (.call 123 [(.var kB 0), (.var kU 6), (.var kU 7)] 17 1
 (.ite (.var .bool 17)
 (.ite (.var .bool 1)
 (.leaf (.tup [(.agg [(.int .u64 (.var kU 11)), (.int .u64 (.var kU 12)), (.int .u8 (.lit 1))]), (.bool (.lit 1))]))
 (.leaf (.tup [(.agg [(.int .u64 (.var kU 11)), (.int .u64 (.var kU 12)), (.int .u8 (.lit 1))]), (.bool (.lit 1))])))
 (.ite (.var .bool 1)
 (.leaf (.tup [(.agg [(.int .u64 (.var kU 11)), (.int .u64 (.var kU 12)), (.int .u8 (.lit 1))]), (.bool (.lit 1))]))
 (.leaf (.tup [(.agg [(.int .u64 (.var kU 11)), (.int .u64 (.var kU 12)), (.int .u8 (.lit 1))]), (.bool (.lit 1))])))))))))))
 (.call 121 [(.var kB 0), (.var kU 4), (.var kU 5)] 14 1
 (.ite (.var .bool 14)
 (.call 123 [(.var kB 0), (.var kU 4), (.var kU 5)] 15 1
 (.ite (.var .bool 15)
 (.call 121 [(.var kB 0), (.var kU 6), (.var kU 7)] 16 1
 (.ite (.var .bool 16)
 (.call 123 [(.var kB 0), (.var kU 6), (.var kU 7)] 17 1
 (.ite (.var .bool 17)
 (.ite (.var .bool 1)
 (.leaf (.tup [(.agg [(.int .u64 (.var kU 11)), (.int .u64 (.var kU 12)), (.int .u8 (.lit 1))]), (.bool (.lit 1))]))
 (.leaf (.tup [(.agg [(.int .u64 (.var kU 11)), (.int .u64 (.var kU 12)), (.int .u8 (.lit 1))]), (.bool (.lit 1))])))
 (.ite (.var .bool 1)
 (.leaf (.tup [(.agg [(.int .u64 (.var kU 11)), (.int .u64 (.var kU 12)), (.int .u8 (.lit 1))]), (.bool (.lit 1))]))
 (.leaf (.tup [(.agg [(.int .u64 (.var kU 11)), (.int .u64 (.var kU 12)), (.int .u8 (.lit 1))]), (.bool (.lit 1))])))))
 (.call 123 [(.var kB 0), (.var kU 6), (.var kU 7)] 17 1
 (.ite (.var .bool 17)
 (.ite (.var .bool 1)
 (.leaf (.tup [(.agg [(.int .u64 (.var kU 11)), (.int .u64 (.var kU 12)), (.int .u8 (.lit 1))]), (.bool (.lit 1))]))
 (.leaf (.tup [(.agg [(.int .u64 (.var kU 11)), (.int .u64 (.var kU 12)), (.int .u8 (.lit 1))]), (.bool (.lit 1))])))
 (.ite (.var .bool 1)
 (.leaf (.tup [(.agg [(.int .u64 (.var kU 11)), (.int .u64 (.var kU 12)), (.int .u8 (.lit 1))]), (.bool (.lit 1))]))
 (.leaf (.tup [(.agg [(.int .u64 (.var kU 11)), (.int .u64 (.var kU 12)), (.int .u8 (.lit 1))]), (.bool (.lit 1))])))))))
 (.call 121 [(.var kB 0), (.var kU 6), (.var kU 7)] 16 1
 (.ite (.var .bool 16)
 (.call 123 [(.var kB 0), (.var kU 6), (.var kU 7)] 17 1
 (.ite (.var .bool 17)
 (.ite (.var .bool 1)
 (.leaf (.tup [(.agg [(.int .u64 (.var kU 11)), (.int .u64 (.var kU 12)), (.int .u8 (.lit 1))]), (.bool (.lit 1))]))
 (.leaf (.tup [(.agg [(.int .u64 (.var kU 11)), (.int .u64 (.var kU 12)), (.int .u8 (.lit 1))]), (.bool (.lit 1))])))
 (.ite (.var .bool 1)
 (.leaf (.tup [(.agg [(.int .u64 (.var kU 11)), (.int .u64 (.var kU 12)), (.int .u8 (.lit 1))]), (.bool (.lit 1))]))
 (.leaf (.tup [(.agg [(.int .u64 (.var kU 11)), (.int .u64 (.var kU 12)), (.int .u8 (.lit 0))]), (.bool (.lit 1))])))))
 (.call 123 [(.var kB 0), (.var kU 6), (.var kU 7)] 17 1
 (.ite (.var .bool 17)
 (.ite (.var .bool 1)
 (.leaf (.tup [(.agg [(.int .u64 (.var kU 11)), (.int .u64 (.var kU 12)), (.int .u8 (.lit 1))]), (.bool (.lit 1))]))
 (.leaf (.tup [(.agg [(.int .u64 (.var kU 11)), (.int .u64 (.var kU 12)), (.int .u8 (.lit 1))]), (.bool (.lit 1))])))
 (.ite (.var .bool 1)
 (.leaf (.tup [(.agg [(.int .u64 (.var kU 11)), (.int .u64 (.var kU 12)), (.int .u8 (.lit 1))]), (.bool (.lit 1))]))
 (.leaf (.tup [(.agg [(.int .u64 (.var kU 11)), (.int .u64 (.var kU 12)), (.int .u8 (.lit 0))]), (.bool (.lit 1))])))))))))
 (.call 123 [(.var kB 0), (.var kU 4), (.var kU 5)] 15 1
 (.ite (.var .bool 15)
 (.call 121 [(.var kB 0), (.var kU 6), (.var kU 7)] 16 1
 (.ite (.var .bool 16)
 (.call 123 [(.var kB 0), (.var kU 6), (.var kU 7)] 17 1
 (.ite (.var .bool 17)
 (.ite (.var .bool 1)
 (.leaf (.tup [(.agg [(.int .u64 (.var kU 11)), (.int .u64 (.var kU 12)), (.int .u8 (.lit 1))]), (.bool (.lit 1))]))
 (.leaf (.tup [(.agg [(.int .u64 (.var kU 11)), (.int .u64 (.var kU 12)), (.int .u8 (.lit 1))]), (.bool (.lit 1))])))
 (.ite (.var .bool 1)
 (.leaf (.tup [(.agg [(.int .u64 (.var kU 11)), (.int .u64 (.var kU 12)), (.int .u8 (.lit 1))]), (.bool (.lit 1))]))
 (.leaf (.tup [(.agg [(.int .u64 (.var kU 11)), (.int .u64 (.var kU 12)), (.int .u8 (.lit 1))]), (.bool (.lit 1))])))))
 (.call 123 [(.var kB 0), (.var kU 6), (.var kU 7)] 17 1
 (.ite (.var .bool 17)
 (.ite (.var .bool 1)
 (.leaf (.tup [(.agg [(.int .u64 (.var kU 11)), (.int .u64 (.var kU 12)), (.int .u8 (.lit 1))]), (.bool (.lit 1))]))
 (.leaf (.tup [(.agg [(.int .u64 (.var kU 11)), (.int .u64 (.var kU 12)), (.int .u8 (.lit 1))]), (.bool (.lit 1))])))
 (.ite (.var .bool 1)
 (.leaf (.tup [(.agg [(.int .u64 (.var kU 11)), (.int .u64 (.var kU 12)), (.int .u8 (.lit 1))]), (.bool (.lit 1))]))
 (.leaf (.tup [(.agg [(.int .u64 (.var kU 11)), (.int .u64 (.var kU 12)), (.int .u8 (.lit 1))]), (.bool (.lit 1))])))))))
 (.call 121 [(.var kB 0), (.var kU 6), (.var kU 7)] 16 1
 (.ite (.var .bool 16)
 (.call 123 [(.var kB 0), (.var kU 6), (.var kU 7)] 17 1
 (.ite (.var .bool 17)
 (.ite (.var .bool 1)
 (.leaf (.tup [(.agg [(.int .u64 (.var kU 11)), (.int .u64 (.var kU 12)), (.int .u8 (.lit 1))]), (.bool (.lit 1))]))
 (.leaf (.tup [(.agg [(.int .u64 (.var kU 11)), (.int .u64 (.var kU 12)), (.int .u8 (.lit 1))]), (.bool (.lit 1))])))
 (.ite (.var .bool 1)
 (.leaf (.tup [(.agg [(.int .u64 (.var kU 11)), (.int .u64 (.var kU 12)), (.int .u8 (.lit 1))]), (.bool (.lit 1))]))
 (.leaf (.tup [(.agg [(.int .u64 (.var kU 11)), (.int .u64 (.var kU 12)), (.int .u8 (.lit 0))]), (.bool (.lit 1))])))))
 (.call 123 [(.var kB 0), (.var kU 6), (.var kU 7)] 17 1
 (.ite (.var .bool 17)
 (.ite (.var .bool 1)
 (.leaf (.tup [(.agg [(.int .u64 (.var kU 11)), (.int .u64 (.var kU 12)), (.int .u8 (.lit 1))]), (.bool (.lit 1))]))
 (.leaf (.tup [(.agg [(.int .u64 (.var kU 11)), (.int .u64 (.var kU 12)), (.int .u8 (.lit 1))]), (.bool (.lit 1))])))
 (.ite (.var .bool 1)
 (.leaf (.tup [(.agg [(.int .u64 (.var kU 11)), (.int .u64 (.var kU 12)), (.int .u8 (.lit 1))]), (.bool (.lit 1))]))
 (.leaf (.tup [(.agg [(.int .u64 (.var kU 11)), (.int .u64 (.var kU 12)), (.int .u8 (.lit 0))]), (.bool (.lit 1))]))))))))))))))
 (.call 123 [(.var kB 0), (.var kU 2), (.var kU 3)] 11 1
 (.ite (.var .bool 11)
 (.call 121 [(.var kB 0), (.var kU 4), (.var kU 5)] 12 1
 (.ite (.var .bool 12)
 (.call 150 [(.var kB 0), (.var kU 4), (.var kU 5)] 13 2
 (.call 123 [(.var kB 0), (.var kU 4), (.var kU 5)] 15 1
 (.ite (.var .bool 15)
 (.call 121 [(.var kB 0), (.var kU 6), (.var kU 7)] 16 1
 (.ite (.var .bool 16)
 (.call 123 [(.var kB 0), (.var kU 6), (.var kU 7)] 17 1
 (.ite (.var .bool 17)
 (.ite (.var .bool 1)
 (.leaf (.tup [(.agg [(.int .u64 (.var kU 13)), (.int .u64 (.var kU 14)), (.int .u8 (.lit 1))]), (.bool (.lit 1))]))
 (.leaf (.tup [(.agg [(.int .u64 (.var kU 13)), (.int .u64 (.var kU 14)), (.int .u8 (.lit 1))]), (.bool (.lit 1))])))
 (.ite (.var .bool 1)
 (.leaf (.tup [(.agg [(.int .u64 (.var kU 13)), (.int .u64 (.var kU 14)), (.int .u8 (.lit 1))]), (.bool (.lit 1))]))
 (.leaf (.tup [(.agg [(.int .u64 (.var kU 13)), (.int .u64 (.var kU 14)), (.int .u8 (.lit 1))]), (.bool (.lit 1))])))))
 (.call 123 [(.var kB 0), (.var kU 6), (.var kU 7)] 17 1
 (.ite (.var .bool 17)
 (.ite (.var .bool 1)
 (.leaf (.tup [(.agg [(.int .u64 (.var kU 13)), (.int .u64 (.var kU 14)), (.int .u8 (.lit 1))]), (.bool (.lit 1))]))
 (.leaf (.tup [(.agg [(.int .u64 (.var kU 13)), (.int .u64 (.var kU 14)), (.int .u8 (.lit 1))]), (.bool (.lit 1))])))
 (.ite (.var .bool 1)
 (.leaf (.tup [(.agg [(.int .u64 (.var kU 13)), (.int .u64 (.var kU 14)), (.int .u8 (.lit 1))]), (.bool (.lit 1))]))
 (.leaf (.tup [(.agg [(.int .u64 (.var kU 13)), (.int .u64 (.var kU 14)), (.int .u8 (.lit 1))]), (.bool (.lit 1))])))))))
 (.call 121 [(.var kB 0), (.var kU 6), (.var kU 7)] 16 1
 (.ite (.var .bool 16)
 (.call 123 [(.var kB 0), (.var kU 6), (.var kU 7)] 17 1
 (.ite (.var .bool 17)
 (.ite (.var .bool 1)
 (.leaf (.tup [(.agg [(.int .u64 (.var kU 13)), (.int .u64 (.var kU 14)), (.int .u8 (.lit 1))]), (.bool (.lit 1))]))
 (.leaf (.tup [(.agg [(.int .u64 (.var kU 13)), (.int .u64 (.var kU 14)), (.int .u8 (.lit 1))]), (.bool (.lit 1))])))
 (.ite (.var .bool 1)
 (.leaf (.tup [(.agg [(.int .u64 (.var kU 13)), (.int .u64 (.var kU 14)), (.int .u8 (.lit 1))]), (.bool (.lit 1))]))
 (.leaf (.tup [(.agg [(.int .u64 (.var kU 13)), (.int .u64 (.var kU 14)), (.int .u8 (.lit 1))]), (.bool (.lit 1))])))))
 (.call 123 [(.var kB 0), (.var kU 6), (.var kU 7)] 17 1
 (.ite (.var .bool 17)
 (.ite (.var .bool 1)
 (.leaf (.tup [(.agg [(.int .u64 (.var kU 13)), (.int .u64 (.var kU 14)), (.int .u8 (.lit 1))]), (.bool (.lit 1))]))
 (.leaf (.tup [(.agg [(.int .u64 (.var kU 13)), (.int .u64 (.var kU 14)), (.int .u8 (.lit 1))]), (.bool (.lit 1))])))
 (.ite (.var .bool 1)
 (.leaf (.tup [(.agg [(.int .u64 (.var kU 13)), (.int .u64 (.var kU 14)), (.int .u8 (.lit 1))]), (.bool (.lit 1))]))
 (.leaf (.tup [(.agg [(.int .u64 (.var kU 13)), (.int .u64 (.var kU 14)), (.int .u8 (.lit 1))]), (.bool (.lit 1))]))))))))))
 (.call 123 [(.var kB 0), (.var kU 4), (.var kU 5)] 13 1
 (.ite (.var .bool 13)
 (.call 121 [(.var kB 0), (.var kU 6), (.var kU 7)] 14 1
 (.ite (.var .bool 14)
 (.call 150 [(.var kB 0), (.var kU 6), (.var kU 7)] 15 2
 (.call 123 [(.var kB 0), (.var kU 6), (.var kU 7)] 17 1
 (.ite (.var .bool 17)
 (.ite (.var .bool 1)
 (.leaf (.tup [(.agg [(.int .u64 (.var kU 15)), (.int .u64 (.var kU 16)), (.int .u8 (.lit 1))]), (.bool (.lit 1))]))
 (.leaf (.tup [(.agg [(.int .u64 (.var kU 15)), (.int .u64 (.var kU 16)), (.int .u8 (.lit 1))]), (.bool (.lit 1))])))
 (.ite (.var .bool 1)
 (.leaf (.tup [(.agg [(.int .u64 (.var kU 15)), (.int .u64 (.var kU 16)), (.int .u8 (.lit 1))]), (.bool (.lit 1))]))
 (.leaf (.tup [(.agg [(.int .u64 (.var kU 15)), (.int .u64 (.var kU 16)), (.int .u8 (.lit 1))]), (.bool (.lit 1))]))))))
 (.call 123 [(.var kB 0), (.var kU 6), (.var kU 7)] 15 1
 (.ite (.var .bool 15)
 (.ite (.var .bool 1)
 (.leaf (.tup [(.agg [(.int .u64 (.var kU 8)), (.int .u64 (.var kU 9)), (.int .u8 (.lit 1))]), (.bool (.lit 1))]))
 (.leaf (.tup [(.agg [(.int .u64 (.lit 0)), (.int .u64 (.lit 0)), (.int .u8 (.lit 0))]), (.bool (.lit 0))])))
 (.ite (.var .bool 1)
 (.leaf (.tup [(.agg [(.int .u64 (.var kU 8)), (.int .u64 (.var kU 9)), (.int .u8 (.lit 1))]), (.bool (.lit 1))]))
 (.leaf (.tup [(.agg [(.int .u64 (.lit 0)), (.int .u64 (.lit 0)), (.int .u8 (.lit 0))]), (.bool (.lit 0))])))))))
 (.call 121 [(.var kB 0), (.var kU 6), (.var kU 7)] 14 1
 (.ite (.var .bool 14)
 (.call 150 [(.var kB 0), (.var kU 6), (.var kU 7)] 15 2
 (.call 123 [(.var kB 0), (.var kU 6), (.var kU 7)] 17 1
 (.ite (.var .bool 17)
 (.ite (.var .bool 1)
 (.leaf (.tup [(.agg [(.int .u64 (.var kU 15)), (.int .u64 (.var kU 16)), (.int .u8 (.lit 1))]), (.bool (.lit 1))]))
 (.leaf (.tup [(.agg [(.int .u64 (.var kU 15)), (.int .u64 (.var kU 16)), (.int .u8 (.lit 1))]), (.bool (.lit 1))])))
 (.ite (.var .bool 1)
 (.leaf (.tup [(.agg [(.int .u64 (.var kU 15)), (.int .u64 (.var kU 16)), (.int .u8 (.lit 1))]), (.bool (.lit 1))]))
 (.leaf (.tup [(.agg [(.int .u64 (.var kU 15)), (.int .u64 (.var kU 16)), (.int .u8 (.lit 1))]), (.bool (.lit 1))]))))))
 (.call 123 [(.var kB 0), (.var kU 6), (.var kU 7)] 15 1
 (.ite (.var .bool 15)
 (.ite (.var .bool 1)
 (.leaf (.tup [(.agg [(.int .u64 (.var kU 8)), (.int .u64 (.var kU 9)), (.int .u8 (.lit 1))]), (.bool (.lit 1))]))
 (.leaf (.tup [(.agg [(.int .u64 (.lit 0)), (.int .u64 (.lit 0)), (.int .u8 (.lit 0))]), (.bool (.lit 0))])))
 (.ite (.var .bool 1)
 (.leaf (.tup [(.agg [(.int .u64 (.var kU 8)), (.int .u64 (.var kU 9)), (.int .u8 (.lit 1))]), (.bool (.lit 1))]))
 (.leaf (.tup [(.agg [(.int .u64 (.lit 0)), (.int .u64 (.lit 0)), (.int .u8 (.lit 0))]), (.bool (.lit 0))])))))))))))
 (.call 121 [(.var kB 0), (.var kU 4), (.var kU 5)] 12 1
 (.ite (.var .bool 12)
 (.call 150 [(.var kB 0), (.var kU 4), (.var kU 5)] 13 2
 (.call 123 [(.var kB 0), (.var kU 4), (.var kU 5)] 15 1
 (.ite (.var .bool 15)
 (.call 121 [(.var kB 0), (.var kU 6), (.var kU 7)] 16 1
 (.ite (.var .bool 16)
 (.call 123 [(.var kB 0), (.var kU 6), (.var kU 7)] 17 1
 (.ite (.var .bool 17)
 (.ite (.var .bool 1)
 (.leaf (.tup [(.agg [(.int .u64 (.var kU 13)), (.int .u64 (.var kU 14)), (.int .u8 (.lit 1))]), (.bool (.lit 1))]))
 (.leaf (.tup [(.agg [(.int .u64 (.var kU 13)), (.int .u64 (.var kU 14)), (.int .u8 (.lit 1))]), (.bool (.lit 1))])))
 (.ite (.var .bool 1)
 (.leaf (.tup [(.agg [(.int .u64 (.var kU 13)), (.int .u64 (.var kU 14)), (.int .u8 (.lit 1))]), (.bool (.lit 1))]))
 (.leaf (.tup [(.agg [(.int .u64 (.var kU 13)), (.int .u64 (.var kU 14)), (.int .u8 (.lit 1))]), (.bool (.lit 1))])))))
 (.call 123 [(.var kB 0), (.var kU 6), (.var kU 7)] 17 1
 (.ite (.var .bool 17)
 (.ite (.var .bool 1)
 (.leaf (.tup [(.agg [(.int .u64 (.var kU 13)), (.int .u64 (.var kU 14)), (.int .u8 (.lit 1))]), (.bool (.lit 1))]))
 (.leaf (.tup [(.agg [(.int .u64 (.var kU 13)), (.int .u64 (.var kU 14)), (.int .u8 (.lit 1))]), (.bool (.lit 1))])))
 (.ite (.var .bool 1)
 (.leaf (.tup [(.agg [(.int .u64 (.var kU 13)), (.int .u64 (.var kU 14)), (.int .u8 (.lit 1))]), (.bool (.lit 1))]))
 (.leaf (.tup [(.agg [(.int .u64 (.var kU 13)), (.int .u64 (.var kU 14)), (.int .u8 (.lit 1))]), (.bool (.lit 1))])))))))
 (.call 121 [(.var kB 0), (.var kU 6), (.var kU 7)] 16 1
 (.ite (.var .bool 16)
 (.call 123 [(.var kB 0), (.var kU 6), (.var kU 7)] 17 1
 (.ite (.var .bool 17)
 (.ite (.var .bool 1)
 (.leaf (.tup [(.agg [(.int .u64 (.var kU 13)), (.int .u64 (.var kU 14)), (.int .u8 (.lit 1))]), (.bool (.lit 1))]))
 (.leaf (.tup [(.agg [(.int .u64 (.var kU 13)), (.int .u64 (.var kU 14)), (.int .u8 (.lit 1))]), (.bool (.lit 1))])))
 (.ite (.var .bool 1)
 (.leaf (.tup [(.agg [(.int .u64 (.var kU 13)), (.int .u64 (.var kU 14)), (.int .u8 (.lit 1))]), (.bool (.lit 1))]))
 (.leaf (.tup [(.agg [(.int .u64 (.var kU 13)), (.int .u64 (.var kU 14)), (.int .u8 (.lit 0))]), (.bool (.lit 1))])))))
 (.call 123 [(.var kB 0), (.var kU 6), (.var kU 7)] 17 1
 (.ite (.var .bool 17)
 (.ite (.var .bool 1)
 (.leaf (.tup [(.agg [(.int .u64 (.var kU 13)), (.int .u64 (.var kU 14)), (.int .u8 (.lit 1))]), (.bool (.lit 1))]))
 (.leaf (.tup [(.agg [(.int .u64 (.var kU 13)), (.int .u64 (.var kU 14)), (.int .u8 (.lit 1))]), (.bool (.lit 1))])))
 (.ite (.var .bool 1)
 (.leaf (.tup [(.agg [(.int .u64 (.var kU 13)), (.int .u64 (.var kU 14)), (.int .u8 (.lit 1))]), (.bool (.lit 1))]))
 (.leaf (.tup [(.agg [(.int .u64 (.var kU 13)), (.int .u64 (.var kU 14)), (.int .u8 (.lit 0))]), (.bool (.lit 1))]))))))))))
 (.call 123 [(.var kB 0), (.var kU 4), (.var kU 5)] 13 1
 (.ite (.var .bool 13)
 (.call 121 [(.var kB 0), (.var kU 6), (.var kU 7)] 14 1
 (.ite (.var .bool 14)
 (.call 150 [(.var kB 0), (.var kU 6), (.var kU 7)] 15 2
 (.call 123 [(.var kB 0), (.var kU 6), (.var kU 7)] 17 1
 (.ite (.var .bool 17)
 (.ite (.var .bool 1)
 (.leaf (.tup [(.agg [(.int .u64 (.var kU 15)), (.int .u64 (.var kU 16)), (.int .u8 (.lit 1))]), (.bool (.lit 1))]))
 (.leaf (.tup [(.agg [(.int .u64 (.var kU 15)), (.int .u64 (.var kU 16)), (.int .u8 (.lit 1))]), (.bool (.lit 1))])))
 (.ite (.var .bool 1)
 (.leaf (.tup [(.agg [(.int .u64 (.var kU 15)), (.int .u64 (.var kU 16)), (.int .u8 (.lit 1))]), (.bool (.lit 1))]))
 (.leaf (.tup [(.agg [(.int .u64 (.var kU 15)), (.int .u64 (.var kU 16)), (.int .u8 (.lit 1))]), (.bool (.lit 1))]))))))
 (.call 123 [(.var kB 0), (.var kU 6), (.var kU 7)] 15 1
 (.ite (.var .bool 15)
 (.ite (.var .bool 1)
 (.leaf (.tup [(.agg [(.int .u64 (.var kU 8)), (.int .u64 (.var kU 9)), (.int .u8 (.lit 1))]), (.bool (.lit 1))]))
 (.leaf (.tup [(.agg [(.int .u64 (.lit 0)), (.int .u64 (.lit 0)), (.int .u8 (.lit 0))]), (.bool (.lit 0))])))
 (.ite (.var .bool 1)
 (.leaf (.tup [(.agg [(.int .u64 (.var kU 8)), (.int .u64 (.var kU 9)), (.int .u8 (.lit 1))]), (.bool (.lit 1))]))
 (.leaf (.tup [(.agg [(.int .u64 (.lit 0)), (.int .u64 (.lit 0)), (.int .u8 (.lit 0))]), (.bool (.lit 0))])))))))
 (.call 121 [(.var kB 0), (.var kU 6), (.var kU 7)] 14 1
 (.ite (.var .bool 14)
 (.call 150 [(.var kB 0), (.var kU 6), (.var kU 7)] 15 2
 (.call 123 [(.var kB 0), (.var kU 6), (.var kU 7)] 17 1
 (.ite (.var .bool 17)
 (.ite (.var .bool 1)
 (.leaf (.tup [(.agg [(.int .u64 (.var kU 15)), (.int .u64 (.var kU 16)), (.int .u8 (.lit 1))]), (.bool (.lit 1))]))
 (.leaf (.tup [(.agg [(.int .u64 (.var kU 15)), (.int .u64 (.var kU 16)), (.int .u8 (.lit 1))]), (.bool (.lit 1))])))
 (.ite (.var .bool 1)
 (.leaf (.tup [(.agg [(.int .u64 (.var kU 15)), (.int .u64 (.var kU 16)), (.int .u8 (.lit 1))]), (.bool (.lit 1))]))
 (.leaf (.tup [(.agg [(.int .u64 (.var kU 15)), (.int .u64 (.var kU 16)), (.int .u8 (.lit 0))]), (.bool (.lit 1))]))))))
 (.call 123 [(.var kB 0), (.var kU 6), (.var kU 7)] 15 1
 (.ite (.var .bool 15)
 (.ite (.var .bool 1)
 (.leaf (.tup [(.agg [(.int .u64 (.var kU 8)), (.int .u64 (.var kU 9)), (.int .u8 (.lit 1))]), (.bool (.lit 1))]))
 (.leaf (.tup [(.agg [(.int .u64 (.lit 0)), (.int .u64 (.lit 0)), (.int .u8 (.lit 0))]), (.bool (.lit 0))])))
 (.ite (.var .bool 1)
 (.leaf (.tup [(.agg [(.int .u64 (.var kU 8)), (.int .u64 (.var kU 9)), (.int .u8 (.lit 1))]), (.bool (.lit 1))]))
 (.leaf (.tup [(.agg [(.int .u64 (.lit 0)), (.int .u64 (.lit 0)), (.int .u8 (.lit 0))]), (.bool (.lit 0))])))))))))))))))))
theorem x_ref10_Pick_3 : execFS (ctxA C17 N7 Z0) 3000 67 c_ref10_Pick_3 = t_ref10_Pick_3 := by kernel_rfl
def F_ref10_Pick_3 : List Int → List Int := treeF (phiA C17 N7 Z0) ⟨c_ref10_Pick_3.a, c_ref10_Pick_3.r⟩ t_ref10_Pick_3
theorem e_ref10_Pick_3 : EntSC Tryz.prog gG ⟨67, c_ref10_Pick_3, F_ref10_Pick_3⟩ := entSC_of ok_RL8 3000 (by kernel_rfl) x_ref10_Pick_3 (by kernel_rfl)
def c_ref11_Move : Ct := ⟨[.sc kB, .sc kB, .agg [kU, kU]], [.agg [kU, kU, kB], .sc .bool]⟩
def t_ref11_Move : Tr' SV :=
 (.ite (.bin .gtr .u8 (.var kB 0) (.lit 3))
 (.leaf (.tup [(.agg [(.int .u64 (.lit 0)), (.int .u64 (.lit 0)), (.int .u8 (.lit 0))]), (.bool (.lit 0))]))
 (.ite (.bin .gtr .u8 (.var kB 1) (.lit 3))
 (.leaf (.tup [(.agg [(.int .u64 (.lit 0)), (.int .u64 (.lit 0)), (.int .u8 (.lit 0))]), (.bool (.lit 0))]))
 (.call 121 [(.var kB 0), (.var kU 2), (.var kU 3)] 4 1
 (.ite (.not (.var .bool 4))
 (.leaf (.tup [(.agg [(.int .u64 (.lit 0)), (.int .u64 (.lit 0)), (.int .u8 (.lit 0))]), (.bool (.lit 0))]))
 (.call 49 [(.var kB 0), (.var kU 2), (.var kU 3)] 5 3
 (.call 53 [(.var kB 0)] 8 1
 (.call 53 [(.var kB 1)] 9 1
 (.call 117 [(.var .nat 7), (.bin .sub .i64 (.var kI 8) (.lit 2))] 10 1
 (.ite (.bin .geq .i64 (.bin .sub .i64 (.var kI 9) (.lit 2)) (.bin .sub .i64 (.var kI 8) (.lit 2)))
 (.call 80 [(.var .nat 10), (.bin .sub .i64 (.bin .sub .i64 (.var kI 9) (.lit 2)) (.bin .sub .i64 (.var kI 8) (.lit 2)))] 11 1
 (.call 50 [(.var kB 1)] 12 1
 (.call 52 [(.bin .sub .i64 (.var kI 9) (.lit 2))] 13 1
 (.call 122 [(.var .nat 11), (.var .nat 13)] 14 1
 (.call 78 [(.var kB 1), (.var .bool 5), (.bin .add .i64 (.bin .mul .i64 (.lit 2) (.var kI 12)) (.lit 1)), (.var .nat 14)] 15 2
 (.call 123 [(.var kB 0), (.var kU 2), (.var kU 3)] 17 1
 (.ite (.var .bool 17)
 (.leaf (.tup [(.agg [(.int .u64 (.var kU 15)), (.int .u64 (.var kU 16)), (.int .u8 (.lit 1))]), (.bool (.lit 1))]))
 (.leaf (.tup [(.agg [(.int .u64 (.var kU 15)), (.int .u64 (.var kU 16)), (.int .u8 (.lit 0))]), (.bool (.lit 1))])))))))))
 (.call 119 [(.var .nat 10), (.bin .sub .i64 (.bin .sub .i64 (.var kI 8) (.lit 2)) (.bin .sub .i64 (.var kI 9) (.lit 2)))] 11 1
 (.call 50 [(.var kB 1)] 12 1
 (.call 52 [(.bin .sub .i64 (.var kI 9) (.lit 2))] 13 1
 (.call 122 [(.var .nat 11), (.var .nat 13)] 14 1
 (.call 78 [(.var kB 1), (.var .bool 5), (.bin .add .i64 (.bin .mul .i64 (.lit 2) (.var kI 12)) (.lit 1)), (.var .nat 14)] 15 2
 (.call 123 [(.var kB 0), (.var kU 2), (.var kU 3)] 17 1
 (.ite (.var .bool 17)
 (.leaf (.tup [(.agg [(.int .u64 (.var kU 15)), (.int .u64 (.var kU 16)), (.int .u8 (.lit 1))]), (.bool (.lit 1))]))
 (.leaf (.tup [(.agg [(.int .u64 (.var kU 15)), (.int .u64 (.var kU 16)), (.int .u8 (.lit 0))]), (.bool (.lit 1))]))))))))))))))))))
theorem x_ref11_Move : execF (ctxA C17 N7 Z0) 3000 54 (uns c_ref11_Move.a (varsAt 0 (kindsOf c_ref11_Move.a))) (kindsOf c_ref11_Move.a).length = t_ref11_Move := by kernel_rfl
def F_ref11_Move : List Int → List Int := treeF (phiA C17 N7 Z0) c_ref11_Move t_ref11_Move
theorem e_ref11_Move : EntC Tryz.prog gG ⟨54, c_ref11_Move, F_ref11_Move⟩ := entC_of ok_RL8 3000 (by kernel_rfl) x_ref11_Move (by kernel_rfl)
def c_ref18_Signed : Ct := ⟨[.sc kB, .agg [kB, .bool], .agg [.bool, .nat, kI], .agg [.bool, .nat, kI]], [.agg [kU, kU, kB]]⟩
def t_ref18_Signed : Tr' SV :=
 (.call 176 [(.var .bool 3), (.var .nat 4), (.var kI 5), (.var .bool 6), (.var .nat 7), (.var kI 8)] 9 3
 (.ite (.bin .eql .i64 (.dlen (.var .nat 10)) (.lit 0))
 (.ite (.var .bool 3)
 (.ite (.var .bool 6)
 (.call 57 [(.var kB 0), (.var kB 1), (.var .bool 2), (.lit 1), (.var .nat 10), (.var kI 11), (.lit 0)] 12 3
 (.leaf (.agg [(.int .u64 (.var kU 12)), (.int .u64 (.var kU 13)), (.int .u64 (.var kB 14))])))
 (.ite (.not (.beq (.var .bool 3) (.var .bool 6)))
 (.call 57 [(.var kB 0), (.var kB 1), (.var .bool 2), (.bin .eql .u8 (.var kB 1) (.lit 3)), (.var .nat 10), (.var kI 11), (.lit 0)] 12 3
 (.leaf (.agg [(.int .u64 (.var kU 12)), (.int .u64 (.var kU 13)), (.int .u64 (.var kB 14))])))
 (.call 57 [(.var kB 0), (.var kB 1), (.var .bool 2), (.lit 0), (.var .nat 10), (.var kI 11), (.lit 0)] 12 3
 (.leaf (.agg [(.int .u64 (.var kU 12)), (.int .u64 (.var kU 13)), (.int .u64 (.var kB 14))])))))
 (.ite (.not (.beq (.var .bool 3) (.var .bool 6)))
 (.call 57 [(.var kB 0), (.var kB 1), (.var .bool 2), (.bin .eql .u8 (.var kB 1) (.lit 3)), (.var .nat 10), (.var kI 11), (.lit 0)] 12 3
 (.leaf (.agg [(.int .u64 (.var kU 12)), (.int .u64 (.var kU 13)), (.int .u64 (.var kB 14))])))
 (.call 57 [(.var kB 0), (.var kB 1), (.var .bool 2), (.lit 0), (.var .nat 10), (.var kI 11), (.lit 0)] 12 3
 (.leaf (.agg [(.int .u64 (.var kU 12)), (.int .u64 (.var kU 13)), (.int .u64 (.var kB 14))])))))
 (.call 57 [(.var kB 0), (.var kB 1), (.var .bool 2), (.var .bool 9), (.var .nat 10), (.var kI 11), (.lit 0)] 12 3
 (.leaf (.agg [(.int .u64 (.var kU 12)), (.int .u64 (.var kU 13)), (.int .u64 (.var kB 14))])))))
theorem x_ref18_Signed : execFN (ctxA C17 N7 Z0) 3000 108 c_ref18_Signed (kindsOf c_ref18_Signed.a).length = t_ref18_Signed := by kernel_rfl
def F_ref18_Signed : List Int → List Int := treeFN (phiA C17 N7 Z0) t_ref18_Signed
theorem e_ref18_Signed : EntNC Tryz.prog gG ⟨108, c_ref18_Signed, F_ref18_Signed⟩ := entNC_of ok_RL8 3000 (by kernel_rfl) (by kernel_rfl) x_ref18_Signed (by kernel_rfl)
def c_ref19_Term : Ct := ⟨[.agg [.bool, kB, kI, kU, kU], .agg [.bool, kB, kI, kU, kU]], [.sc kI, .agg [kU, kU, kU, kU]]⟩
def t_ref19_Term : Tr' SV :=
 (.ite (.bin .neq .u8 (.var kB 1) (.lit 1))
 (.ite (.bin .neq .u8 (.var kB 1) (.lit 2))
 (.leaf (.tup [(.int .i64 (.lit 0)), (.agg [(.int .u64 (.lit 0)), (.int .u64 (.lit 0)), (.int .u64 (.lit 0)), (.int .u64 (.lit 0))])]))
 (.ite (.bin .neq .u8 (.var kB 6) (.lit 1))
 (.ite (.bin .neq .u8 (.var kB 6) (.lit 2))
 (.leaf (.tup [(.int .i64 (.lit 0)), (.agg [(.int .u64 (.lit 0)), (.int .u64 (.lit 0)), (.int .u64 (.lit 0)), (.int .u64 (.lit 0))])]))
 (.call 73 [(.var kU 3), (.var kU 4)] 10 1
 (.call 73 [(.var kU 8), (.var kU 9)] 11 1
 (.call 72 [(.var .nat 10), (.var .nat 11)] 12 1
 (.call 71 [(.var .nat 12)] 13 4
 (.leaf (.tup [(.int .i64 (.bin .add .i64 (.bin .add .i64 (.var kI 2) (.var kI 7)) (.lit 1))), (.agg [(.int .u64 (.var kU 13)), (.int .u64 (.var kU 14)), (.int .u64 (.var kU 15)), (.int .u64 (.var kU 16))])])))))))
 (.call 73 [(.var kU 3), (.var kU 4)] 10 1
 (.call 73 [(.var kU 8), (.var kU 9)] 11 1
 (.call 72 [(.var .nat 10), (.var .nat 11)] 12 1
 (.call 71 [(.var .nat 12)] 13 4
 (.leaf (.tup [(.int .i64 (.bin .add .i64 (.bin .add .i64 (.var kI 2) (.var kI 7)) (.lit 1))), (.agg [(.int .u64 (.var kU 13)), (.int .u64 (.var kU 14)), (.int .u64 (.var kU 15)), (.int .u64 (.var kU 16))])]))))))))
 (.ite (.bin .neq .u8 (.var kB 6) (.lit 1))
 (.ite (.bin .neq .u8 (.var kB 6) (.lit 2))
 (.leaf (.tup [(.int .i64 (.lit 0)), (.agg [(.int .u64 (.lit 0)), (.int .u64 (.lit 0)), (.int .u64 (.lit 0)), (.int .u64 (.lit 0))])]))
 (.call 73 [(.var kU 3), (.var kU 4)] 10 1
 (.call 73 [(.var kU 8), (.var kU 9)] 11 1
 (.call 72 [(.var .nat 10), (.var .nat 11)] 12 1
 (.call 71 [(.var .nat 12)] 13 4
 (.leaf (.tup [(.int .i64 (.bin .add .i64 (.bin .add .i64 (.var kI 2) (.var kI 7)) (.lit 1))), (.agg [(.int .u64 (.var kU 13)), (.int .u64 (.var kU 14)), (.int .u64 (.var kU 15)), (.int .u64 (.var kU 16))])])))))))
 (.call 73 [(.var kU 3), (.var kU 4)] 10 1
 (.call 73 [(.var kU 8), (.var kU 9)] 11 1
 (.call 72 [(.var .nat 10), (.var .nat 11)] 12 1
 (.call 71 [(.var .nat 12)] 13 4
 (.leaf (.tup [(.int .i64 (.bin .add .i64 (.bin .add .i64 (.var kI 2) (.var kI 7)) (.lit 1))), (.agg [(.int .u64 (.var kU 13)), (.int .u64 (.var kU 14)), (.int .u64 (.var kU 15)), (.int .u64 (.var kU 16))])]))))))))
theorem x_ref19_Term : execF (ctxA C17 N7 Z0) 3000 22 (uns c_ref19_Term.a (varsAt 0 (kindsOf c_ref19_Term.a))) (kindsOf c_ref19_Term.a).length = t_ref19_Term := by kernel_rfl
def F_ref19_Term : List Int → List Int := treeF (phiA C17 N7 Z0) c_ref19_Term t_ref19_Term
theorem e_ref19_Term : EntC Tryz.prog gG ⟨22, c_ref19_Term, F_ref19_Term⟩ := entC_of ok_RL8 3000 (by kernel_rfl) x_ref19_Term (by kernel_rfl)
def c_ref23_value : Ct := ⟨[.sc kB, .agg [kU, kU]], [.agg [.bool, .nat, kI, .bool]]⟩
def t_ref23_value : Tr' SV :=
 (.call 56 [(.var kB 0), (.var kU 1), (.var kU 2)] 3 3
 (.leaf (.agg [(.int .u64 (.var .bool 3)), (.int .u64 (.var .nat 4)), (.int .u64 (.var kI 5)), (.int .u64 (.lit 0))])))
theorem x_ref23_value : execFN (ctxA C17 N7 Z0) 3000 98 c_ref23_value (kindsOf c_ref23_value.a).length = t_ref23_value := by kernel_rfl
def F_ref23_value : List Int → List Int := treeFN (phiA C17 N7 Z0) t_ref23_value
theorem e_ref23_value : EntNC Tryz.prog gG ⟨98, c_ref23_value, F_ref23_value⟩ := entNC_of ok_RL8 3000 (by kernel_rfl) (by kernel_rfl) x_ref23_value (by kernel_rfl)
def c_ref23_Far : Ct := ⟨[.sc kB, .agg [kU, kU], .agg [kU, kU]], [.sc .bool]⟩
def t_ref23_Far : Tr' SV :=
 (.call 56 [(.var kB 0), (.var kU 1), (.var kU 2)] 5 3
 (.call 56 [(.var kB 0), (.var kU 3), (.var kU 4)] 8 3
 (.leaf (.bool (.bin .gtr .i64 (.bin .sub .i64 (.var kI 7) (.var kI 10)) (.lit 600))))))
theorem x_ref23_Far : execF (ctxA C17 N7 Z0) 3000 31 (uns c_ref23_Far.a (varsAt 0 (kindsOf c_ref23_Far.a))) (kindsOf c_ref23_Far.a).length = t_ref23_Far := by kernel_rfl
def F_ref23_Far : List Int → List Int := treeF (phiA C17 N7 Z0) c_ref23_Far t_ref23_Far
theorem e_ref23_Far : EntC Tryz.prog gG ⟨31, c_ref23_Far, F_ref23_Far⟩ := entC_of ok_RL8 3000 (by kernel_rfl) x_ref23_Far (by kernel_rfl)
def C18 : List Ent := ⟨54, c_ref11_Move, F_ref11_Move⟩ :: ⟨22, c_ref19_Term, F_ref19_Term⟩ :: ⟨31, c_ref23_Far, F_ref23_Far⟩ :: C17
theorem C18_ok : ∀ e ∈ C18, EntC Tryz.prog gG e := List.forall_mem_cons.2 ⟨e_ref11_Move, List.forall_mem_cons.2 ⟨e_ref19_Term, List.forall_mem_cons.2 ⟨e_ref23_Far, C17_ok⟩⟩⟩
def N8 : List Ent := ⟨108, c_ref18_Signed, F_ref18_Signed⟩ :: ⟨98, c_ref23_value, F_ref23_value⟩ :: N7
theorem N8_ok : ∀ e ∈ N8, EntNC Tryz.prog gG e := List.forall_mem_cons.2 ⟨e_ref18_Signed, List.forall_mem_cons.2 ⟨e_ref23_value, N7_ok⟩⟩
def Z8 : List EntS := ⟨67, c_ref10_Pick_1, F_ref10_Pick_1⟩ :: ⟨67, c_ref10_Pick_2, F_ref10_Pick_2⟩ :: ⟨67, c_ref10_Pick_3, F_ref10_Pick_3⟩ :: Z0
theorem Z8_ok : ∀ e ∈ Z8, EntSC Tryz.prog gG e := List.forall_mem_cons.2 ⟨e_ref10_Pick_1, List.forall_mem_cons.2 ⟨e_ref10_Pick_2, List.forall_mem_cons.2 ⟨e_ref10_Pick_3, Z0_ok⟩⟩⟩
theorem ph_RL8_ref10_Default : phiA C17 N7 Z0 149 = F_ref10_Default := phiA_L (e := ⟨149, _, F_ref10_Default⟩) rfl rfl rfl
theorem ph_RL8_ref08_NaN : phiA C17 N7 Z0 121 = F_ref08_NaN := phiA_L (e := ⟨121, _, F_ref08_NaN⟩) rfl rfl rfl
theorem ph_RL8_ref10_Quiet : phiA C17 N7 Z0 150 = F_ref10_Quiet := phiA_L (e := ⟨150, _, F_ref10_Quiet⟩) rfl rfl rfl
theorem ph_RL8_ref08_Signaling : phiA C17 N7 Z0 123 = F_ref08_Signaling := phiA_L (e := ⟨123, _, F_ref08_Signaling⟩) rfl rfl rfl
end Go.Proofs.YtngiodcdelfdmaaGreatDoor
namespace Go.Proofs.YtngiodcdelfdmaaGreatDoor
set_option linter.unusedVariables false
set_option maxRecDepth 100000
open Go.RowKit
theorem ok_RL9 : SOK (ctxA C18 N8 Z8) eE := ctxC_ok C18_ok N8_ok Z8_ok (by kernel_rfl)
def c_ref19_Mul : Ct := ⟨[.sc kB, .agg [kB, .bool], .agg [kU, kU], .agg [kU, kU]], [.agg [kU, kU, kB]]⟩
def t_ref19_Mul : Tr' SV :=
 (.ite (.bin .gtr .u8 (.var kB 0) (.lit 3))
 (.leaf (.agg [(.int .u64 (.lit 0)), (.int .u64 (.lit 0)), (.int .u8 (.lit 0))]))
 (.ite (.bin .gtr .u8 (.var kB 1) (.lit 4))
 (.leaf (.agg [(.int .u64 (.lit 0)), (.int .u64 (.lit 0)), (.int .u8 (.lit 0))]))
 (.call 13 [(.var kB 0), (.var kU 3), (.var kU 4)] 7 2
 (.call 13 [(.var kB 0), (.var kU 5), (.var kU 6)] 9 2
 (.call 24 [(.var kB 7), (.var kB 9)] 11 1
 (.call 2000067 [(.var kB 0), (.var .bool 11), (.var kU 3), (.var kU 4), (.var kU 5), (.var kU 6)] 12 4
 (.ite (.var .bool 15)
 (.leaf (.agg [(.int .u64 (.var kU 12)), (.int .u64 (.var kU 13)), (.int .u8 (.var kB 14))]))
 (.ite (.bin .eql .u8 (.var kB 7) (.lit 3))
 (.call 55 [(.var kB 0), (.not (.beq (.var .bool 8) (.var .bool 10)))] 16 2
 (.leaf (.agg [(.int .u64 (.var kU 16)), (.int .u64 (.var kU 17)), (.int .u8 (.lit 0))])))
 (.ite (.bin .eql .u8 (.var kB 9) (.lit 3))
 (.call 55 [(.var kB 0), (.not (.beq (.var .bool 8) (.var .bool 10)))] 16 2
 (.leaf (.agg [(.int .u64 (.var kU 16)), (.int .u64 (.var kU 17)), (.int .u8 (.lit 0))])))
 (.call 56 [(.var kB 0), (.var kU 3), (.var kU 4)] 16 3
 (.call 56 [(.var kB 0), (.var kU 5), (.var kU 6)] 19 3
 (.call 68 [(.var .bool 16), (.var .nat 17), (.var kI 18), (.var .bool 19), (.var .nat 20), (.var kI 21)] 22 3
 (.call 57 [(.var kB 0), (.var kB 1), (.var .bool 2), (.not (.beq (.var .bool 8) (.var .bool 10))), (.var .nat 23), (.var kI 24), (.lit 0)] 25 3
 (.leaf (.agg [(.int .u64 (.var kU 25)), (.int .u64 (.var kU 26)), (.int .u8 (.var kB 27))])))))))))))))))
theorem x_ref19_Mul : execF (ctxA C18 N8 Z8) 3000 19 (uns c_ref19_Mul.a (varsAt 0 (kindsOf c_ref19_Mul.a))) (kindsOf c_ref19_Mul.a).length = t_ref19_Mul := by kernel_rfl
def F_ref19_Mul : List Int → List Int := treeF (phiA C18 N8 Z8) c_ref19_Mul t_ref19_Mul
theorem e_ref19_Mul : EntC Tryz.prog gG ⟨19, c_ref19_Mul, F_ref19_Mul⟩ := entC_of ok_RL9 3000 (by kernel_rfl) x_ref19_Mul (by kernel_rfl)
def c_ref20_Fma : Ct := ⟨[.sc kB, .agg [kB, .bool], .agg [kU, kU], .agg [kU, kU], .agg [kU, kU]], [.agg [kU, kU, kB]]⟩
def t_ref20_Fma : Tr' SV :=
 (.ite (.bin .gtr .u8 (.var kB 0) (.lit 3))
 (.leaf (.agg [(.int .u64 (.lit 0)), (.int .u64 (.lit 0)), (.int .u8 (.lit 0))]))
 (.ite (.bin .gtr .u8 (.var kB 1) (.lit 4))
 (.leaf (.agg [(.int .u64 (.lit 0)), (.int .u64 (.lit 0)), (.int .u8 (.lit 0))]))
 (.call 13 [(.var kB 0), (.var kU 3), (.var kU 4)] 9 2
 (.call 13 [(.var kB 0), (.var kU 5), (.var kU 6)] 11 2
 (.call 13 [(.var kB 0), (.var kU 7), (.var kU 8)] 13 2
 (.call 24 [(.var kB 9), (.var kB 11)] 15 1
 (.call 3000067 [(.var kB 0), (.var .bool 15), (.var kU 3), (.var kU 4), (.var kU 5), (.var kU 6), (.var kU 7), (.var kU 8)] 16 4
 (.ite (.var .bool 19)
 (.leaf (.agg [(.int .u64 (.var kU 16)), (.int .u64 (.var kU 17)), (.int .u8 (.var kB 18))]))
 (.ite (.bin .eql .u8 (.var kB 9) (.lit 3))
 (.ite (.bin .eql .u8 (.var kB 13) (.lit 3))
 (.ite (.not (.beq (.var .bool 14) (.not (.beq (.var .bool 10) (.var .bool 12)))))
 (.call 3000067 [(.var kB 0), (.lit 1), (.var kU 3), (.var kU 4), (.var kU 5), (.var kU 6), (.var kU 7), (.var kU 8)] 20 4
 (.leaf (.agg [(.int .u64 (.var kU 20)), (.int .u64 (.var kU 21)), (.int .u8 (.var kB 22))])))
 (.call 55 [(.var kB 0), (.not (.beq (.var .bool 10) (.var .bool 12)))] 20 2
 (.leaf (.agg [(.int .u64 (.var kU 20)), (.int .u64 (.var kU 21)), (.int .u8 (.lit 0))]))))
 (.call 55 [(.var kB 0), (.not (.beq (.var .bool 10) (.var .bool 12)))] 20 2
 (.leaf (.agg [(.int .u64 (.var kU 20)), (.int .u64 (.var kU 21)), (.int .u8 (.lit 0))]))))
 (.ite (.bin .eql .u8 (.var kB 11) (.lit 3))
 (.ite (.bin .eql .u8 (.var kB 13) (.lit 3))
 (.ite (.not (.beq (.var .bool 14) (.not (.beq (.var .bool 10) (.var .bool 12)))))
 (.call 3000067 [(.var kB 0), (.lit 1), (.var kU 3), (.var kU 4), (.var kU 5), (.var kU 6), (.var kU 7), (.var kU 8)] 20 4
 (.leaf (.agg [(.int .u64 (.var kU 20)), (.int .u64 (.var kU 21)), (.int .u8 (.var kB 22))])))
 (.call 55 [(.var kB 0), (.not (.beq (.var .bool 10) (.var .bool 12)))] 20 2
 (.leaf (.agg [(.int .u64 (.var kU 20)), (.int .u64 (.var kU 21)), (.int .u8 (.lit 0))]))))
 (.call 55 [(.var kB 0), (.not (.beq (.var .bool 10) (.var .bool 12)))] 20 2
 (.leaf (.agg [(.int .u64 (.var kU 20)), (.int .u64 (.var kU 21)), (.int .u8 (.lit 0))]))))
 (.ite (.bin .eql .u8 (.var kB 13) (.lit 3))
 (.call 55 [(.var kB 0), (.var .bool 14)] 20 2
 (.leaf (.agg [(.int .u64 (.var kU 20)), (.int .u64 (.var kU 21)), (.int .u8 (.lit 0))])))
 (.call 56 [(.var kB 0), (.var kU 3), (.var kU 4)] 20 3
 (.call 56 [(.var kB 0), (.var kU 5), (.var kU 6)] 23 3
 (.call 68 [(.var .bool 20), (.var .nat 21), (.var kI 22), (.var .bool 23), (.var .nat 24), (.var kI 25)] 26 3
 (.call 56 [(.var kB 0), (.var kU 7), (.var kU 8)] 29 3
 (.call 108 [(.var kB 0), (.var kB 1), (.var .bool 2), (.var .bool 26), (.var .nat 27), (.var kI 28), (.var .bool 29), (.var .nat 30), (.var kI 31)] 32 3
 (.leaf (.agg [(.int .u64 (.var kU 32)), (.int .u64 (.var kU 33)), (.int .u8 (.var kB 34))]))))))))))))))))))
theorem x_ref20_Fma : execF (ctxA C18 N8 Z8) 3000 41 (uns c_ref20_Fma.a (varsAt 0 (kindsOf c_ref20_Fma.a))) (kindsOf c_ref20_Fma.a).length = t_ref20_Fma := by kernel_rfl
def F_ref20_Fma : List Int → List Int := treeF (phiA C18 N8 Z8) c_ref20_Fma t_ref20_Fma
theorem e_ref20_Fma : EntC Tryz.prog gG ⟨41, c_ref20_Fma, F_ref20_Fma⟩ := entC_of ok_RL9 3000 (by kernel_rfl) x_ref20_Fma (by kernel_rfl)
def c_ref25_Conv : Ct := ⟨[.sc kB, .sc kB, .agg [kB, .bool], .agg [kU, kU]], [.agg [kU, kU, kB]]⟩
def t_ref25_Conv : Tr' SV :=
 (.ite (.bin .gtr .u8 (.var kB 0) (.lit 3))
 (.leaf (.agg [(.int .u64 (.lit 0)), (.int .u64 (.lit 0)), (.int .u8 (.lit 0))]))
 (.ite (.bin .gtr .u8 (.var kB 1) (.lit 3))
 (.leaf (.agg [(.int .u64 (.lit 0)), (.int .u64 (.lit 0)), (.int .u8 (.lit 0))]))
 (.ite (.bin .gtr .u8 (.var kB 2) (.lit 4))
 (.leaf (.agg [(.int .u64 (.lit 0)), (.int .u64 (.lit 0)), (.int .u8 (.lit 0))]))
 (.call 54 [(.var kB 0), (.var kB 1), (.var kU 4), (.var kU 5)] 6 4
 (.ite (.var .bool 9)
 (.leaf (.agg [(.int .u64 (.var kU 6)), (.int .u64 (.var kU 7)), (.int .u8 (.var kB 8))]))
 (.call 13 [(.var kB 0), (.var kU 4), (.var kU 5)] 10 2
 (.ite (.bin .eql .u8 (.var kB 10) (.lit 3))
 (.call 55 [(.var kB 1), (.var .bool 11)] 12 2
 (.leaf (.agg [(.int .u64 (.var kU 12)), (.int .u64 (.var kU 13)), (.int .u8 (.lit 0))])))
 (.call 56 [(.var kB 0), (.var kU 4), (.var kU 5)] 12 3
 (.call 57 [(.var kB 1), (.var kB 2), (.var .bool 3), (.var .bool 12), (.var .nat 13), (.var kI 14), (.lit 0)] 15 3
 (.leaf (.agg [(.int .u64 (.var kU 15)), (.int .u64 (.var kU 16)), (.int .u8 (.var kB 17))])))))))))))
theorem x_ref25_Conv : execF (ctxA C18 N8 Z8) 3000 14 (uns c_ref25_Conv.a (varsAt 0 (kindsOf c_ref25_Conv.a))) (kindsOf c_ref25_Conv.a).length = t_ref25_Conv := by kernel_rfl
def F_ref25_Conv : List Int → List Int := treeF (phiA C18 N8 Z8) c_ref25_Conv t_ref25_Conv
theorem e_ref25_Conv : EntC Tryz.prog gG ⟨14, c_ref25_Conv, F_ref25_Conv⟩ := entC_of ok_RL9 3000 (by kernel_rfl) x_ref25_Conv (by kernel_rfl)
def C19 : List Ent := ⟨19, c_ref19_Mul, F_ref19_Mul⟩ :: ⟨41, c_ref20_Fma, F_ref20_Fma⟩ :: ⟨14, c_ref25_Conv, F_ref25_Conv⟩ :: C18
theorem C19_ok : ∀ e ∈ C19, EntC Tryz.prog gG e := List.forall_mem_cons.2 ⟨e_ref19_Mul, List.forall_mem_cons.2 ⟨e_ref20_Fma, List.forall_mem_cons.2 ⟨e_ref25_Conv, C18_ok⟩⟩⟩
def N9 : List Ent := N8
theorem N9_ok : ∀ e ∈ N9, EntNC Tryz.prog gG e := N8_ok
end Go.Proofs.YtngiodcdelfdmaaGreatDoor
