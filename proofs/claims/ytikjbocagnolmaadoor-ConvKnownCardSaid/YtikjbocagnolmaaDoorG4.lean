/- Contracts of this seat's functions: their trees, made by a program (sxgen), and that the executor answers just these. -/
import Derived.Test.YtikjbocagnolmaaDoorG3
namespace Go.Proofs.YtikjbocagnolmaaDoor
set_option linter.unusedVariables false
set_option maxRecDepth 100000
open Go.RowKit
def c_class_Of : Ct := ⟨[.sc kB, .agg [kU, kU]], [.sc kB, .sc .bool]⟩
def t_class_Of : Tr' SV :=
 (.ite (.not (.bin .lss .i64 (.var kB 0) (.lit 4)))
 (.leaf (.tup [(.int .u8 (.lit 0)), (.bool (.lit 0))]))
 (.call 51 [(.var kB 0), (.var kU 1), (.var kU 2)] 3 4
 (.call 52 [(.var kU 5), (.var kU 6)] 7 1
 (.call 39 [(.var kB 0)] 8 1
 (.ite (.bin .eql .i64 (.var kI 4) (.lit 0))
 (.ite (.var .bool 7)
 (.leaf (.tup [(.int .u8 (.lit 0)), (.bool (.var .bool 3))]))
 (.leaf (.tup [(.int .u8 (.lit 1)), (.bool (.var .bool 3))])))
 (.ite (.bin .lss .i64 (.var kI 4) (.bin .add .i64 (.bin .mul .i64 (.lit 2) (.var kI 8)) (.lit 1)))
 (.leaf (.tup [(.int .u8 (.lit 2)), (.bool (.var .bool 3))]))
 (.ite (.var .bool 7)
 (.leaf (.tup [(.int .u8 (.lit 3)), (.bool (.var .bool 3))]))
 (.call 54 [(.var kB 0)] 9 1
 (.call 53 [(.var kU 5), (.var kU 6), (.bin .sub .i64 (.var kI 9) (.lit 2))] 10 1
 (.ite (.var .bool 10)
 (.leaf (.tup [(.int .u8 (.lit 4)), (.bool (.var .bool 3))]))
 (.leaf (.tup [(.int .u8 (.lit 5)), (.bool (.var .bool 3))]))))))))))))
theorem x_class_Of : execF (ctx E3) 3000 26 (uns c_class_Of.a (varsAt 0 (kindsOf c_class_Of.a))) (kindsOf c_class_Of.a).length = t_class_Of := by kernel_rfl
def F_class_Of : List Int → List Int := treeF (phiE E3) c_class_Of t_class_Of
theorem e_class_Of : EntOK Tryd.prog gG ⟨26, c_class_Of, F_class_Of⟩ := ent_of (ctx_ok E3_ok) 3000 x_class_Of (by kernel_rfl)
def c_fields_Pack : Ct := ⟨[.sc kB, .agg [.bool, kB, kI, kU, kU]], [.agg [kU, kU], .sc .bool]⟩
def t_fields_Pack : Tr' SV :=
 (.call 54 [(.var kB 0)] 6 1
 (.call 39 [(.var kB 0)] 7 1
 (.ite (.not (.bin .lss .i64 (.var kB 0) (.lit 4)))
 (.leaf (.tup [(.agg [(.int .u64 (.lit 0)), (.int .u64 (.lit 0))]), (.bool (.lit 0))]))
 (.ite (.bin .gtr .u8 (.var kB 2) (.lit 3))
 (.leaf (.tup [(.agg [(.int .u64 (.lit 0)), (.int .u64 (.lit 0))]), (.bool (.lit 0))]))
 (.ite (.bin .eql .u8 (.var kB 2) (.lit 0))
 (.call 31 [(.var kB 0), (.var .bool 1)] 8 2
 (.leaf (.tup [(.agg [(.int .u64 (.var kU 8)), (.int .u64 (.var kU 9))]), (.bool (.lit 1))])))
 (.ite (.bin .eql .u8 (.var kB 2) (.lit 3))
 (.call 32 [(.var kB 0), (.var .bool 1)] 8 2
 (.leaf (.tup [(.agg [(.int .u64 (.var kU 8)), (.int .u64 (.var kU 9))]), (.bool (.lit 1))])))
 (.call 53 [(.var kU 4), (.var kU 5), (.lit 127)] 8 1
 (.ite (.not (.var .bool 8))
 (.leaf (.tup [(.agg [(.int .u64 (.lit 0)), (.int .u64 (.lit 0))]), (.bool (.lit 0))]))
 (.ite (.bin .gtr .i64 (.var kI 3) (.var kI 7))
 (.leaf (.tup [(.agg [(.int .u64 (.lit 0)), (.int .u64 (.lit 0))]), (.bool (.lit 0))]))
 (.ite (.bin .lss .i64 (.var kI 3) (.bin .add .i64 (.bin .sub .i64 (.bin .sub .i64 (.lit 1) (.var kI 7)) (.var kI 6)) (.lit 1)))
 (.leaf (.tup [(.agg [(.int .u64 (.lit 0)), (.int .u64 (.lit 0))]), (.bool (.lit 0))]))
 (.ite (.bin .lss .i64 (.bin .add .i64 (.var kI 3) (.var kI 7)) (.lit 1))
 (.call 102 [(.var kU 4), (.var kU 5)] 9 4
 (.call 101 [(.var kU 9), (.var kU 10), (.var kU 11), (.var kU 12), (.bin .sub .i64 (.bin .add .i64 (.bin .sub .i64 (.lit 128) (.var kI 6)) (.lit 1)) (.bin .add .i64 (.var kI 3) (.var kI 7)))] 13 1
 (.ite (.var .bool 13)
 (.leaf (.tup [(.agg [(.int .u64 (.lit 0)), (.int .u64 (.lit 0))]), (.bool (.lit 0))]))
 (.call 81 [(.var kU 4), (.var kU 5), (.bin .sub .i64 (.bin .add .i64 (.bin .sub .i64 (.lit 128) (.var kI 6)) (.lit 1)) (.bin .add .i64 (.var kI 3) (.var kI 7)))] 14 2
 (.call 38 [(.var kB 0), (.var .bool 1), (.lit 0), (.var kU 14), (.var kU 15)] 16 2
 (.leaf (.tup [(.agg [(.int .u64 (.var kU 16)), (.int .u64 (.var kU 17))]), (.bool (.lit 1))])))))))
 (.call 102 [(.var kU 4), (.var kU 5)] 9 4
 (.call 101 [(.var kU 9), (.var kU 10), (.var kU 11), (.var kU 12), (.bin .sub .i64 (.lit 128) (.var kI 6))] 13 1
 (.ite (.var .bool 13)
 (.leaf (.tup [(.agg [(.int .u64 (.lit 0)), (.int .u64 (.lit 0))]), (.bool (.lit 0))]))
 (.call 81 [(.var kU 4), (.var kU 5), (.bin .sub .i64 (.lit 128) (.var kI 6))] 14 2
 (.call 38 [(.var kB 0), (.var .bool 1), (.bin .add .i64 (.var kI 3) (.var kI 7)), (.var kU 14), (.var kU 15)] 16 2
 (.leaf (.tup [(.agg [(.int .u64 (.var kU 16)), (.int .u64 (.var kU 17))]), (.bool (.lit 1))]))))))))))))))))))
theorem x_fields_Pack : execF (ctx E3) 3000 66 (uns c_fields_Pack.a (varsAt 0 (kindsOf c_fields_Pack.a))) (kindsOf c_fields_Pack.a).length = t_fields_Pack := by kernel_rfl
def F_fields_Pack : List Int → List Int := treeF (phiE E3) c_fields_Pack t_fields_Pack
theorem e_fields_Pack : EntOK Tryd.prog gG ⟨66, c_fields_Pack, F_fields_Pack⟩ := ent_of (ctx_ok E3_ok) 3000 x_fields_Pack (by kernel_rfl)
def c_round_Cut : Ct := ⟨[.agg [kU, kU, kU, kU], .sc kI, .sc kB, .sc .bool], [.agg [kU, kU], .sc .bool]⟩
def t_round_Cut : Tr' SV :=
 (.ite (.bin .lss .i64 (.var kI 4) (.lit 0))
 (.leaf (.tup [(.agg [(.int .u64 (.lit 0)), (.int .u64 (.lit 0))]), (.bool (.lit 0))]))
 (.ite (.bin .gtr .i64 (.var kI 4) (.lit 127))
 (.leaf (.tup [(.agg [(.int .u64 (.lit 0)), (.int .u64 (.lit 0))]), (.bool (.lit 0))]))
 (.ite (.not (.bin .leq .u8 (.var kB 5) (.lit 4)))
 (.leaf (.tup [(.agg [(.int .u64 (.lit 0)), (.int .u64 (.lit 0))]), (.bool (.lit 0))]))
 (.call 109 [(.var kU 0), (.var kU 1), (.var kU 2), (.var kU 3), (.bin .sub .i64 (.lit 256) (.var kI 4))] 7 4
 (.call 108 [(.var kU 7), (.var kU 8), (.var kU 9), (.var kU 10)] 11 2
 (.call 110 [(.var kU 0), (.var kU 1), (.var kU 2), (.var kU 3), (.var kI 4)] 13 1
 (.call 111 [(.var kB 5), (.var .bool 6), (.bin .eql .u64 (.bin .and .u64 (.var kU 12) (.lit 1)) (.lit 1)), (.var kB 13)] 14 1
 (.ite (.var .bool 14)
 (.call 65 [(.var kU 11), (.var kU 12), (.lit 0), (.lit 1)] 15 3
 (.leaf (.tup [(.agg [(.int .u64 (.var kU 15)), (.int .u64 (.var kU 16))]), (.bool (.bin .neq .u8 (.var kB 13) (.lit 0)))])))
 (.leaf (.tup [(.agg [(.int .u64 (.var kU 11)), (.int .u64 (.var kU 12))]), (.bool (.bin .neq .u8 (.var kB 13) (.lit 0)))]))))))))))
theorem x_round_Cut : execF (ctx E3) 3000 74 (uns c_round_Cut.a (varsAt 0 (kindsOf c_round_Cut.a))) (kindsOf c_round_Cut.a).length = t_round_Cut := by kernel_rfl
def F_round_Cut : List Int → List Int := treeF (phiE E3) c_round_Cut t_round_Cut
theorem e_round_Cut : EntOK Tryd.prog gG ⟨74, c_round_Cut, F_round_Cut⟩ := ent_of (ctx_ok E3_ok) 3000 x_round_Cut (by kernel_rfl)
def c_over_Over : Ct := ⟨[.sc kB, .sc kB, .sc .bool], [.agg [kU, kU, kB]]⟩
def t_over_Over : Tr' SV :=
 (.ite (.not (.bin .lss .i64 (.var kB 0) (.lit 4)))
 (.leaf (.agg [(.int .u64 (.lit 0)), (.int .u64 (.lit 0)), (.int .u8 (.lit 0))]))
 (.ite (.not (.bin .leq .u8 (.var kB 1) (.lit 4)))
 (.leaf (.agg [(.int .u64 (.lit 0)), (.int .u64 (.lit 0)), (.int .u8 (.lit 0))]))
 (.call 115 [(.var kB 1), (.var .bool 2)] 3 1
 (.ite (.var .bool 3)
 (.call 32 [(.var kB 0), (.var .bool 2)] 4 2
 (.leaf (.agg [(.int .u64 (.var kU 4)), (.int .u64 (.var kU 5)), (.int .u8 (.lit 20))])))
 (.call 113 [(.var kB 0), (.var .bool 2)] 4 2
 (.leaf (.agg [(.int .u64 (.var kU 4)), (.int .u64 (.var kU 5)), (.int .u8 (.lit 20))])))))))
theorem x_over_Over : execF (ctx E3) 3000 77 (uns c_over_Over.a (varsAt 0 (kindsOf c_over_Over.a))) (kindsOf c_over_Over.a).length = t_over_Over := by kernel_rfl
def F_over_Over : List Int → List Int := treeF (phiE E3) c_over_Over t_over_Over
theorem e_over_Over : EntOK Tryd.prog gG ⟨77, c_over_Over, F_over_Over⟩ := ent_of (ctx_ok E3_ok) 3000 x_over_Over (by kernel_rfl)
def c_payload_quieted : Ct := ⟨[.sc kB, .agg [kU, kU]], [.agg [kU, kU]]⟩
def t_payload_quieted : Tr' SV :=
 (.call 87 [(.var kB 0)] 3 2
 (.call 51 [(.var kB 0), (.var kU 3), (.var kU 4)] 5 4
 (.leaf (.agg [(.int .u64 (.bin .or .u64 (.var kU 1) (.var kU 7))), (.int .u64 (.bin .or .u64 (.var kU 2) (.var kU 8)))]))))
theorem x_payload_quieted : execF (ctx E3) 3000 83 (uns c_payload_quieted.a (varsAt 0 (kindsOf c_payload_quieted.a))) (kindsOf c_payload_quieted.a).length = t_payload_quieted := by kernel_rfl
def F_payload_quieted : List Int → List Int := treeF (phiE E3) c_payload_quieted t_payload_quieted
theorem e_payload_quieted : EntOK Tryd.prog gG ⟨83, c_payload_quieted, F_payload_quieted⟩ := ent_of (ctx_ok E3_ok) 3000 x_payload_quieted (by kernel_rfl)
def c_addsub_Turn : Ct := ⟨[.sc kB, .agg [kU, kU]], [.agg [kU, kU]]⟩
def t_addsub_Turn : Tr' SV :=
 (.call 51 [(.var kB 0), (.var kU 1), (.var kU 2)] 3 4
 (.call 38 [(.var kB 0), (.not (.var .bool 3)), (.var kI 4), (.var kU 5), (.var kU 6)] 7 2
 (.leaf (.agg [(.int .u64 (.var kU 7)), (.int .u64 (.var kU 8))]))))
theorem x_addsub_Turn : execF (ctx E3) 3000 25 (uns c_addsub_Turn.a (varsAt 0 (kindsOf c_addsub_Turn.a))) (kindsOf c_addsub_Turn.a).length = t_addsub_Turn := by kernel_rfl
def F_addsub_Turn : List Int → List Int := treeF (phiE E3) c_addsub_Turn t_addsub_Turn
theorem e_addsub_Turn : EntOK Tryd.prog gG ⟨25, c_addsub_Turn, F_addsub_Turn⟩ := ent_of (ctx_ok E3_ok) 3000 x_addsub_Turn (by kernel_rfl)
def E4 : List Ent := ⟨26, c_class_Of, F_class_Of⟩ :: ⟨66, c_fields_Pack, F_fields_Pack⟩ :: ⟨74, c_round_Cut, F_round_Cut⟩ :: ⟨77, c_over_Over, F_over_Over⟩ :: ⟨83, c_payload_quieted, F_payload_quieted⟩ :: ⟨25, c_addsub_Turn, F_addsub_Turn⟩ :: E3
theorem E4_ok : ∀ e ∈ E4, EntOK Tryd.prog gG e := List.forall_mem_cons.2 ⟨e_class_Of, List.forall_mem_cons.2 ⟨e_fields_Pack, List.forall_mem_cons.2 ⟨e_round_Cut, List.forall_mem_cons.2 ⟨e_over_Over, List.forall_mem_cons.2 ⟨e_payload_quieted, List.forall_mem_cons.2 ⟨e_addsub_Turn, E3_ok⟩⟩⟩⟩⟩⟩
end Go.Proofs.YtikjbocagnolmaaDoor
