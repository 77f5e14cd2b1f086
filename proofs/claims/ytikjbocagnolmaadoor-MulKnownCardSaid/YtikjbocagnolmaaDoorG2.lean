/- Contracts of this seat's functions: their trees, made by a program (sxgen), and that the executor answers just these. -/
import Derived.Test.YtikjbocagnolmaaDoorG1
namespace Go.Proofs.YtikjbocagnolmaaDoor
set_option linter.unusedVariables false
set_option maxRecDepth 100000
open Go.RowKit
def c_format_Emax : Ct := ⟨[.sc kB], [.sc kI]⟩
def t_format_Emax : Tr' SV :=
 (.call 63 [(.var kB 0)] 1 3
 (.leaf (.int .i64 (.var kI 3))))
theorem x_format_Emax : execF (ctx E1) 3000 39 (uns c_format_Emax.a (varsAt 0 (kindsOf c_format_Emax.a))) (kindsOf c_format_Emax.a).length = t_format_Emax := by kernel_rfl
def F_format_Emax : List Int → List Int := treeF (phiE E1) c_format_Emax t_format_Emax
theorem e_format_Emax : EntOK Tryd.prog gG ⟨39, c_format_Emax, F_format_Emax⟩ := ent_of (ctx_ok E1_ok) 3000 x_format_Emax (by kernel_rfl)
def c_format_Prec : Ct := ⟨[.sc kB], [.sc kI]⟩
def t_format_Prec : Tr' SV :=
 (.call 63 [(.var kB 0)] 1 3
 (.leaf (.int .i64 (.var kI 2))))
theorem x_format_Prec : execF (ctx E1) 3000 54 (uns c_format_Prec.a (varsAt 0 (kindsOf c_format_Prec.a))) (kindsOf c_format_Prec.a).length = t_format_Prec := by kernel_rfl
def F_format_Prec : List Int → List Int := treeF (phiE E1) c_format_Prec t_format_Prec
theorem e_format_Prec : EntOK Tryd.prog gG ⟨54, c_format_Prec, F_format_Prec⟩ := ent_of (ctx_ok E1_ok) 3000 x_format_Prec (by kernel_rfl)
def c_format_Width : Ct := ⟨[.sc kB], [.sc kI]⟩
def t_format_Width : Tr' SV :=
 (.call 63 [(.var kB 0)] 1 3
 (.leaf (.int .i64 (.var kI 1))))
theorem x_format_Width : execF (ctx E1) 3000 50 (uns c_format_Width.a (varsAt 0 (kindsOf c_format_Width.a))) (kindsOf c_format_Width.a).length = t_format_Width := by kernel_rfl
def F_format_Width : List Int → List Int := treeF (phiE E1) c_format_Width t_format_Width
theorem e_format_Width : EntOK Tryd.prog gG ⟨50, c_format_Width, F_format_Width⟩ := ent_of (ctx_ok E1_ok) 3000 x_format_Width (by kernel_rfl)
def c_format_low : Ct := ⟨[.agg [kU, kU], .sc kI], [.agg [kU, kU]]⟩
def t_format_low : Tr' SV :=
 (.call 64 [(.var kU 0), (.var kU 1), (.bin .sub .i64 (.lit 128) (.var kI 2))] 3 2
 (.call 81 [(.var kU 3), (.var kU 4), (.bin .sub .i64 (.lit 128) (.var kI 2))] 5 2
 (.leaf (.agg [(.int .u64 (.var kU 5)), (.int .u64 (.var kU 6))]))))
theorem x_format_low : execF (ctx E1) 3000 49 (uns c_format_low.a (varsAt 0 (kindsOf c_format_low.a))) (kindsOf c_format_low.a).length = t_format_low := by kernel_rfl
def F_format_low : List Int → List Int := treeF (phiE E1) c_format_low t_format_low
theorem e_format_low : EntOK Tryd.prog gG ⟨49, c_format_low, F_format_low⟩ := ent_of (ctx_ok E1_ok) 3000 x_format_low (by kernel_rfl)
def c_wide_Mul : Ct := ⟨[.agg [kU, kU], .agg [kU, kU]], [.agg [kU, kU, kU, kU]]⟩
def t_wide_Mul : Tr' SV :=
 (.call 90 [(.var kU 0), (.var kU 2)] 4 2
 (.call 90 [(.var kU 1), (.var kU 3)] 6 2
 (.call 48 [(.var kU 4), (.var kU 5), (.var kU 6), (.var kU 7)] 8 4
 (.call 90 [(.var kU 0), (.var kU 3)] 12 2
 (.call 90 [(.var kU 1), (.var kU 2)] 14 2
 (.call 91 [(.var kU 8), (.var kU 9), (.var kU 10), (.var kU 11), (.lit 0), (.var kU 13), (.var kU 12), (.lit 0)] 16 5
 (.call 91 [(.var kU 16), (.var kU 17), (.var kU 18), (.var kU 19), (.lit 0), (.var kU 15), (.var kU 14), (.lit 0)] 21 5
 (.leaf (.agg [(.int .u64 (.var kU 21)), (.int .u64 (.var kU 22)), (.int .u64 (.var kU 23)), (.int .u64 (.var kU 24))])))))))))
theorem x_wide_Mul : execF (ctx E1) 3000 59 (uns c_wide_Mul.a (varsAt 0 (kindsOf c_wide_Mul.a))) (kindsOf c_wide_Mul.a).length = t_wide_Mul := by kernel_rfl
def F_wide_Mul : List Int → List Int := treeF (phiE E1) c_wide_Mul t_wide_Mul
theorem e_wide_Mul : EntOK Tryd.prog gG ⟨59, c_wide_Mul, F_wide_Mul⟩ := ent_of (ctx_ok E1_ok) 3000 x_wide_Mul (by kernel_rfl)
def c_count_Raise : Ct := ⟨[.agg [kU, kU]], [.agg [kU, kU], .sc kI]⟩
def t_count_Raise : Tr' SV :=
 (.call 48 [(.var kU 0), (.var kU 1), (.lit 0), (.lit 0)] 2 4
 (.call 105 [(.var kU 2), (.var kU 3), (.var kU 4), (.var kU 5)] 6 1
 (.ite (.bin .eql .i64 (.var kI 6) (.lit 0))
 (.call 106 [(.var kU 2), (.var kU 3), (.var kU 4), (.var kU 5)] 7 2
 (.leaf (.tup [(.agg [(.int .u64 (.var kU 7)), (.int .u64 (.var kU 8))]), (.int .i64 (.lit 0))])))
 (.call 62 [(.var kU 2), (.var kU 3), (.var kU 4), (.var kU 5), (.bin .sub .i64 (.lit 256) (.var kI 6))] 7 4
 (.call 106 [(.var kU 7), (.var kU 8), (.var kU 9), (.var kU 10)] 11 2
 (.leaf (.tup [(.agg [(.int .u64 (.var kU 11)), (.int .u64 (.var kU 12))]), (.int .i64 (.bin .sub .i64 (.lit 256) (.var kI 6)))])))))))
theorem x_count_Raise : execF (ctx E1) 3000 69 (uns c_count_Raise.a (varsAt 0 (kindsOf c_count_Raise.a))) (kindsOf c_count_Raise.a).length = t_count_Raise := by kernel_rfl
def F_count_Raise : List Int → List Int := treeF (phiE E1) c_count_Raise t_count_Raise
theorem e_count_Raise : EntOK Tryd.prog gG ⟨69, c_count_Raise, F_count_Raise⟩ := ent_of (ctx_ok E1_ok) 3000 x_count_Raise (by kernel_rfl)
def c_shift_Lost : Ct := ⟨[.agg [kU, kU, kU, kU], .sc kI], [.sc .bool]⟩
def t_shift_Lost : Tr' SV :=
 (.call 109 [(.var kU 0), (.var kU 1), (.var kU 2), (.var kU 3), (.var kI 4)] 5 4
 (.call 62 [(.var kU 5), (.var kU 6), (.var kU 7), (.var kU 8), (.var kI 4)] 9 4
 (.leaf (.bool (.not (.and (.bin .eql .u64 (.var kU 9) (.var kU 0)) (.and (.bin .eql .u64 (.var kU 10) (.var kU 1)) (.and (.bin .eql .u64 (.var kU 11) (.var kU 2)) (.and (.bin .eql .u64 (.var kU 12) (.var kU 3)) (.lit 1))))))))))
theorem x_shift_Lost : execF (ctx E1) 3000 101 (uns c_shift_Lost.a (varsAt 0 (kindsOf c_shift_Lost.a))) (kindsOf c_shift_Lost.a).length = t_shift_Lost := by kernel_rfl
def F_shift_Lost : List Int → List Int := treeF (phiE E1) c_shift_Lost t_shift_Lost
theorem e_shift_Lost : EntOK Tryd.prog gG ⟨101, c_shift_Lost, F_shift_Lost⟩ := ent_of (ctx_ok E1_ok) 3000 x_shift_Lost (by kernel_rfl)
def c_count_WideRaise : Ct := ⟨[.agg [kU, kU, kU, kU]], [.agg [kU, kU, kU, kU], .sc kI]⟩
def t_count_WideRaise : Tr' SV :=
 (.call 105 [(.var kU 0), (.var kU 1), (.var kU 2), (.var kU 3)] 4 1
 (.ite (.bin .eql .i64 (.var kI 4) (.lit 0))
 (.leaf (.tup [(.agg [(.int .u64 (.var kU 0)), (.int .u64 (.var kU 1)), (.int .u64 (.var kU 2)), (.int .u64 (.var kU 3))]), (.int .i64 (.lit 0))]))
 (.call 62 [(.var kU 0), (.var kU 1), (.var kU 2), (.var kU 3), (.bin .sub .i64 (.lit 256) (.var kI 4))] 5 4
 (.leaf (.tup [(.agg [(.int .u64 (.var kU 5)), (.int .u64 (.var kU 6)), (.int .u64 (.var kU 7)), (.int .u64 (.var kU 8))]), (.int .i64 (.bin .sub .i64 (.lit 256) (.var kI 4)))])))))
theorem x_count_WideRaise : execF (ctx E1) 3000 107 (uns c_count_WideRaise.a (varsAt 0 (kindsOf c_count_WideRaise.a))) (kindsOf c_count_WideRaise.a).length = t_count_WideRaise := by kernel_rfl
def F_count_WideRaise : List Int → List Int := treeF (phiE E1) c_count_WideRaise t_count_WideRaise
theorem e_count_WideRaise : EntOK Tryd.prog gG ⟨107, c_count_WideRaise, F_count_WideRaise⟩ := ent_of (ctx_ok E1_ok) 3000 x_count_WideRaise (by kernel_rfl)
def c_quot_next : Ct := ⟨[.agg [kU, kU], .sc kU, .agg [kU, kU]], [.agg [kU, kU], .sc .bool]⟩
def t_quot_next : Tr' SV :=
 (.call 65 [(.var kU 0), (.var kU 1), (.var kU 0), (.var kU 1)] 5 3
 (.call 120 [(.var kU 5), (.bin .or .u64 (.var kU 6) (.var kU 2)), (.var kU 3), (.var kU 4)] 8 3
 (.ite (.var .bool 7)
 (.leaf (.tup [(.agg [(.int .u64 (.var kU 8)), (.int .u64 (.var kU 9))]), (.bool (.lit 1))]))
 (.ite (.not (.var .bool 10))
 (.leaf (.tup [(.agg [(.int .u64 (.var kU 8)), (.int .u64 (.var kU 9))]), (.bool (.lit 1))]))
 (.leaf (.tup [(.agg [(.int .u64 (.var kU 5)), (.int .u64 (.bin .or .u64 (.var kU 6) (.var kU 2)))]), (.bool (.lit 0))]))))))
theorem x_quot_next : execF (ctx E1) 3000 93 (uns c_quot_next.a (varsAt 0 (kindsOf c_quot_next.a))) (kindsOf c_quot_next.a).length = t_quot_next := by kernel_rfl
def F_quot_next : List Int → List Int := treeF (phiE E1) c_quot_next t_quot_next
theorem e_quot_next : EntOK Tryd.prog gG ⟨93, c_quot_next, F_quot_next⟩ := ent_of (ctx_ok E1_ok) 3000 x_quot_next (by kernel_rfl)
def E2 : List Ent := ⟨39, c_format_Emax, F_format_Emax⟩ :: ⟨54, c_format_Prec, F_format_Prec⟩ :: ⟨50, c_format_Width, F_format_Width⟩ :: ⟨49, c_format_low, F_format_low⟩ :: ⟨59, c_wide_Mul, F_wide_Mul⟩ :: ⟨69, c_count_Raise, F_count_Raise⟩ :: ⟨101, c_shift_Lost, F_shift_Lost⟩ :: ⟨107, c_count_WideRaise, F_count_WideRaise⟩ :: ⟨93, c_quot_next, F_quot_next⟩ :: E1
theorem E2_ok : ∀ e ∈ E2, EntOK Tryd.prog gG e := List.forall_mem_cons.2 ⟨e_format_Emax, List.forall_mem_cons.2 ⟨e_format_Prec, List.forall_mem_cons.2 ⟨e_format_Width, List.forall_mem_cons.2 ⟨e_format_low, List.forall_mem_cons.2 ⟨e_wide_Mul, List.forall_mem_cons.2 ⟨e_count_Raise, List.forall_mem_cons.2 ⟨e_shift_Lost, List.forall_mem_cons.2 ⟨e_count_WideRaise, List.forall_mem_cons.2 ⟨e_quot_next, E1_ok⟩⟩⟩⟩⟩⟩⟩⟩⟩
theorem ph_E1_format_of : phiE E1 63 = F_format_of := phiE_hit (e := ⟨63, _, F_format_of⟩) rfl
theorem ph_E1_shift_Left : phiE E1 64 = F_shift_Left := phiE_hit (e := ⟨64, _, F_shift_Left⟩) rfl
theorem ph_E1_shift_Right : phiE E1 81 = F_shift_Right := phiE_hit (e := ⟨81, _, F_shift_Right⟩) rfl
theorem ph_E1_word_Mul : phiE E1 90 = F_word_Mul := phiE_hit (e := ⟨90, _, F_word_Mul⟩) rfl
theorem ph_E1_wide_Join : phiE E1 48 = F_wide_Join := phiE_hit (e := ⟨48, _, F_wide_Join⟩) rfl
theorem ph_E1_wide_Add : phiE E1 91 = fWideAdd := phiE_hit (e := ⟨91, _, fWideAdd⟩) rfl
theorem ph_E1_count_WideLen : phiE E1 105 = F_count_WideLen := phiE_hit (e := ⟨105, _, F_count_WideLen⟩) rfl
theorem ph_E1_wide_High : phiE E1 106 = F_wide_High := phiE_hit (e := ⟨106, _, F_wide_High⟩) rfl
theorem ph_E1_shift_WideLeft : phiE E1 62 = F_shift_WideLeft := phiE_hit (e := ⟨62, _, F_shift_WideLeft⟩) rfl
theorem ph_E1_shift_WideRight : phiE E1 109 = F_shift_WideRight := phiE_hit (e := ⟨109, _, F_shift_WideRight⟩) rfl
theorem ph_E1_word_Add : phiE E1 65 = F_word_Add := phiE_hit (e := ⟨65, _, F_word_Add⟩) rfl
theorem ph_E1_word_Sub : phiE E1 120 = F_word_Sub := phiE_hit (e := ⟨120, _, F_word_Sub⟩) rfl
end Go.Proofs.YtikjbocagnolmaaDoor
