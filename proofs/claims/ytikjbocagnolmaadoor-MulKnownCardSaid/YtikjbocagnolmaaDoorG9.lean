/- Contracts of this seat's functions: their trees, made by a program (sxgen), and that the executor answers just these. -/
import Derived.Test.YtikjbocagnolmaaDoorG8
namespace Go.Proofs.YtikjbocagnolmaaDoor
set_option linter.unusedVariables false
set_option maxRecDepth 100000
open Go.RowKit
def c_conv_Conv : Ct := ⟨[.sc kB, .sc kB, .agg [kB, .bool], .agg [kU, kU]], [.agg [kU, kU, kB]]⟩
def t_conv_Conv : Tr' SV :=
 (.ite (.not (.ite (.not (.bin .lss .i64 (.var kB 0) (.lit 4))) (.lit 0) (.ite (.not (.bin .lss .i64 (.var kB 1) (.lit 4))) (.lit 0) (.lit 1))))
 (.leaf (.agg [(.int .u64 (.lit 0)), (.int .u64 (.lit 0)), (.int .u8 (.lit 0))]))
 (.ite (.not (.bin .leq .u8 (.var kB 2) (.lit 4)))
 (.leaf (.agg [(.int .u64 (.lit 0)), (.int .u64 (.lit 0)), (.int .u8 (.lit 0))]))
 (.call 47 [(.var kB 0), (.var kB 1), (.var kU 4), (.var kU 5)] 6 4
 (.ite (.var .bool 9)
 (.leaf (.agg [(.int .u64 (.var kU 6)), (.int .u64 (.var kU 7)), (.int .u8 (.var kB 8))]))
 (.call 44 [(.var kB 0), (.var kU 4), (.var kU 5)] 10 5
 (.ite (.bin .eql .u8 (.var kB 11) (.lit 3))
 (.call 32 [(.var kB 1), (.var .bool 10)] 15 2
 (.leaf (.agg [(.int .u64 (.var kU 15)), (.int .u64 (.var kU 16)), (.int .u8 (.lit 0))])))
 (.call 48 [(.var kU 13), (.var kU 14), (.lit 0), (.lit 0)] 15 4
 (.call 45 [(.var kB 1), (.var kB 2), (.var .bool 3), (.var .bool 10), (.var kI 12), (.var kU 15), (.var kU 16), (.var kU 17), (.var kU 18)] 19 3
 (.leaf (.agg [(.int .u64 (.var kU 19)), (.int .u64 (.var kU 20)), (.int .u8 (.var kB 21))]))))))))))
theorem x_conv_Conv : execF (ctx E8) 3000 17 (uns c_conv_Conv.a (varsAt 0 (kindsOf c_conv_Conv.a))) (kindsOf c_conv_Conv.a).length = t_conv_Conv := by kernel_rfl
def F_conv_Conv : List Int → List Int := treeF (phiE E8) c_conv_Conv t_conv_Conv
theorem e_conv_Conv : EntOK Tryd.prog gG ⟨17, c_conv_Conv, F_conv_Conv⟩ := ent_of (ctx_ok E8_ok) 3000 x_conv_Conv (by kernel_rfl)
def E9 : List Ent := ⟨17, c_conv_Conv, F_conv_Conv⟩ :: E8
theorem E9_ok : ∀ e ∈ E9, EntOK Tryd.prog gG e := List.forall_mem_cons.2 ⟨e_conv_Conv, E8_ok⟩
theorem ph_E8_payload_Move : phiE E8 47 = F_payload_Move := phiE_hit (e := ⟨47, _, F_payload_Move⟩) rfl
theorem ph_E8_fields_Unpack : phiE E8 44 = F_fields_Unpack := phiE_hit (e := ⟨44, _, F_fields_Unpack⟩) rfl
theorem ph_E8_format_Inf : phiE E8 32 = F_format_Inf := phiE_hit (e := ⟨32, _, F_format_Inf⟩) rfl
theorem ph_E8_wide_Join : phiE E8 48 = F_wide_Join := phiE_hit (e := ⟨48, _, F_wide_Join⟩) rfl
theorem ph_E8_pack_Round : phiE E8 45 = F_pack_Round := phiE_hit (e := ⟨45, _, F_pack_Round⟩) rfl
end Go.Proofs.YtikjbocagnolmaaDoor
