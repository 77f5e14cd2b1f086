/- Contracts of this seat's functions: their trees, made by a program (sxgen), and that the executor answers just these. -/
import Derived.Test.YtikjbocagnolmaaDoorG4
namespace Go.Proofs.YtikjbocagnolmaaDoor
set_option linter.unusedVariables false
set_option maxRecDepth 100000
open Go.RowKit
def c_class_NaN : Ct := ⟨[.sc kB, .agg [kU, kU]], [.sc .bool]⟩
def t_class_NaN : Tr' SV :=
 (.call 26 [(.var kB 0), (.var kU 1), (.var kU 2)] 3 2
 (.leaf (.bool (.bin .geq .u8 (.var kB 3) (.lit 4)))))
theorem x_class_NaN : execF (ctx E4) 3000 20 (uns c_class_NaN.a (varsAt 0 (kindsOf c_class_NaN.a))) (kindsOf c_class_NaN.a).length = t_class_NaN := by kernel_rfl
def F_class_NaN : List Int → List Int := treeF (phiE E4) c_class_NaN t_class_NaN
theorem e_class_NaN : EntOK Tryd.prog gG ⟨20, c_class_NaN, F_class_NaN⟩ := ent_of (ctx_ok E4_ok) 3000 x_class_NaN (by kernel_rfl)
def c_class_Finite : Ct := ⟨[.sc kB, .agg [kU, kU]], [.sc .bool]⟩
def t_class_Finite : Tr' SV :=
 (.call 26 [(.var kB 0), (.var kU 1), (.var kU 2)] 3 2
 (.ite (.bin .lss .i64 (.var kB 0) (.lit 4))
 (.leaf (.bool (.bin .lss .u8 (.var kB 3) (.lit 3))))
 (.leaf (.bool (.lit 0)))))
theorem x_class_Finite : execF (ctx E4) 3000 42 (uns c_class_Finite.a (varsAt 0 (kindsOf c_class_Finite.a))) (kindsOf c_class_Finite.a).length = t_class_Finite := by kernel_rfl
def F_class_Finite : List Int → List Int := treeF (phiE E4) c_class_Finite t_class_Finite
theorem e_class_Finite : EntOK Tryd.prog gG ⟨42, c_class_Finite, F_class_Finite⟩ := ent_of (ctx_ok E4_ok) 3000 x_class_Finite (by kernel_rfl)
def c_fields_Unpack : Ct := ⟨[.sc kB, .agg [kU, kU]], [.agg [.bool, kB, kI, kU, kU]]⟩
def t_fields_Unpack : Tr' SV :=
 (.call 26 [(.var kB 0), (.var kU 1), (.var kU 2)] 3 2
 (.call 54 [(.var kB 0)] 5 1
 (.call 39 [(.var kB 0)] 6 1
 (.call 51 [(.var kB 0), (.var kU 1), (.var kU 2)] 7 4
 (.ite (.bin .eql .u8 (.var kB 3) (.lit 2))
 (.call 64 [(.var kU 9), (.var kU 10), (.bin .sub .i64 (.lit 128) (.var kI 5))] 11 2
 (.call 65 [(.var kU 11), (.var kU 12), (.lit 9223372036854775808), (.lit 0)] 13 3
 (.leaf (.agg [(.bool (.var .bool 4)), (.int .u8 (.var kB 3)), (.int .i64 (.bin .sub .i64 (.var kI 8) (.var kI 6))), (.int .u64 (.var kU 13)), (.int .u64 (.var kU 14))]))))
 (.ite (.bin .eql .u8 (.var kB 3) (.lit 1))
 (.call 69 [(.var kU 9), (.var kU 10)] 11 3
 (.leaf (.agg [(.bool (.var .bool 4)), (.int .u8 (.var kB 3)), (.int .i64 (.bin .sub .i64 (.bin .sub .i64 (.bin .add .i64 (.bin .sub .i64 (.lit 1) (.var kI 6)) (.lit 128)) (.var kI 5)) (.var kI 13))), (.int .u64 (.var kU 11)), (.int .u64 (.var kU 12))])))
 (.leaf (.agg [(.bool (.var .bool 4)), (.int .u8 (.var kB 3)), (.int .i64 (.lit 0)), (.int .u64 (.lit 0)), (.int .u64 (.lit 0))]))))))))
theorem x_fields_Unpack : execF (ctx E4) 3000 44 (uns c_fields_Unpack.a (varsAt 0 (kindsOf c_fields_Unpack.a))) (kindsOf c_fields_Unpack.a).length = t_fields_Unpack := by kernel_rfl
def F_fields_Unpack : List Int → List Int := treeF (phiE E4) c_fields_Unpack t_fields_Unpack
theorem e_fields_Unpack : EntOK Tryd.prog gG ⟨44, c_fields_Unpack, F_fields_Unpack⟩ := ent_of (ctx_ok E4_ok) 3000 x_fields_Unpack (by kernel_rfl)
def c_pack_Round : Ct := ⟨[.sc kB, .agg [kB, .bool], .sc .bool, .sc kI, .agg [kU, kU, kU, kU]], [.agg [kU, kU, kB]]⟩
def t_pack_Round : Tr' SV :=
 (.ite (.not (.bin .lss .i64 (.var kB 0) (.lit 4)))
 (.leaf (.agg [(.int .u64 (.lit 0)), (.int .u64 (.lit 0)), (.int .u8 (.lit 0))]))
 (.ite (.not (.bin .leq .u8 (.var kB 1) (.lit 4)))
 (.leaf (.agg [(.int .u64 (.lit 0)), (.int .u64 (.lit 0)), (.int .u8 (.lit 0))]))
 (.call 71 [(.var kU 5), (.var kU 6), (.var kU 7), (.var kU 8)] 9 1
 (.ite (.var .bool 9)
 (.call 31 [(.var kB 0), (.var .bool 3)] 10 2
 (.leaf (.agg [(.int .u64 (.var kU 10)), (.int .u64 (.var kU 11)), (.int .u8 (.lit 0))])))
 (.call 107 [(.var kU 5), (.var kU 6), (.var kU 7), (.var kU 8)] 10 5
 (.call 54 [(.var kB 0)] 15 1
 (.call 39 [(.var kB 0)] 16 1
 (.call 74 [(.var kU 10), (.var kU 11), (.var kU 12), (.var kU 13), (.var kI 15), (.var kB 1), (.var .bool 3)] 17 3
 (.call 53 [(.var kU 17), (.var kU 18), (.var kI 15)] 20 1
 (.ite (.var .bool 20)
 (.call 76 [(.var kB 0), (.bin .add .i64 (.bin .sub .i64 (.max (.lit (-1099511627776)) (.min (.var kI 4) (.lit 1099511627776))) (.var kI 14)) (.lit 1))] 21 1
 (.ite (.var .bool 21)
 (.call 77 [(.var kB 0), (.var kB 1), (.var .bool 3)] 22 3
 (.leaf (.agg [(.int .u64 (.var kU 22)), (.int .u64 (.var kU 23)), (.int .u8 (.var kB 24))])))
 (.ite (.bin .lss .i64 (.bin .sub .i64 (.max (.lit (-1099511627776)) (.min (.var kI 4) (.lit 1099511627776))) (.var kI 14)) (.bin .sub .i64 (.lit 1) (.var kI 16)))
 (.ite (.not (.var .bool 2))
 (.call 78 [(.var kU 10), (.var kU 11), (.var kU 12), (.var kU 13), (.bin .sub .i64 (.bin .sub .i64 (.lit 1) (.var kI 16)) (.bin .sub .i64 (.max (.lit (-1099511627776)) (.min (.var kI 4) (.lit 1099511627776))) (.var kI 14)))] 22 4
 (.call 74 [(.var kU 22), (.var kU 23), (.var kU 24), (.var kU 25), (.var kI 15), (.var kB 1), (.var .bool 3)] 26 3
 (.call 79 [(.var kB 0), (.var .bool 3), (.lit 0), (.var kU 26), (.var kU 27)] 29 2
 (.ite (.var .bool 28)
 (.leaf (.agg [(.int .u64 (.var kU 29)), (.int .u64 (.var kU 30)), (.int .u8 (.lit 24))]))
 (.leaf (.agg [(.int .u64 (.var kU 29)), (.int .u64 (.var kU 30)), (.int .u8 (.lit 0))]))))))
 (.call 78 [(.var kU 10), (.var kU 11), (.var kU 12), (.var kU 13), (.bin .sub .i64 (.bin .sub .i64 (.lit 1) (.var kI 16)) (.bin .sub .i64 (.max (.lit (-1099511627776)) (.min (.var kI 4) (.lit 1099511627776))) (.var kI 14)))] 22 4
 (.call 74 [(.var kU 22), (.var kU 23), (.var kU 24), (.var kU 25), (.var kI 15), (.var kB 1), (.var .bool 3)] 26 3
 (.call 79 [(.var kB 0), (.var .bool 3), (.lit 0), (.var kU 26), (.var kU 27)] 29 2
 (.ite (.var .bool 28)
 (.ite (.bin .lss .i64 (.bin .add .i64 (.bin .sub .i64 (.max (.lit (-1099511627776)) (.min (.var kI 4) (.lit 1099511627776))) (.var kI 14)) (.lit 1)) (.bin .sub .i64 (.lit 1) (.var kI 16)))
 (.leaf (.agg [(.int .u64 (.var kU 29)), (.int .u64 (.var kU 30)), (.int .u8 (.lit 24))]))
 (.leaf (.agg [(.int .u64 (.var kU 29)), (.int .u64 (.var kU 30)), (.int .u8 (.lit 16))])))
 (.leaf (.agg [(.int .u64 (.var kU 29)), (.int .u64 (.var kU 30)), (.int .u8 (.lit 0))])))))))
 (.call 79 [(.var kB 0), (.var .bool 3), (.bin .add .i64 (.bin .sub .i64 (.bin .add .i64 (.bin .sub .i64 (.max (.lit (-1099511627776)) (.min (.var kI 4) (.lit 1099511627776))) (.var kI 14)) (.lit 1)) (.bin .sub .i64 (.lit 1) (.var kI 16))) (.lit 1)), (.var kU 17), (.var kU 18)] 22 2
 (.ite (.var .bool 19)
 (.leaf (.agg [(.int .u64 (.var kU 22)), (.int .u64 (.var kU 23)), (.int .u8 (.lit 16))]))
 (.leaf (.agg [(.int .u64 (.var kU 22)), (.int .u64 (.var kU 23)), (.int .u8 (.lit 0))])))))))
 (.call 76 [(.var kB 0), (.bin .sub .i64 (.max (.lit (-1099511627776)) (.min (.var kI 4) (.lit 1099511627776))) (.var kI 14))] 21 1
 (.ite (.var .bool 21)
 (.call 77 [(.var kB 0), (.var kB 1), (.var .bool 3)] 22 3
 (.leaf (.agg [(.int .u64 (.var kU 22)), (.int .u64 (.var kU 23)), (.int .u8 (.var kB 24))])))
 (.ite (.bin .lss .i64 (.bin .sub .i64 (.max (.lit (-1099511627776)) (.min (.var kI 4) (.lit 1099511627776))) (.var kI 14)) (.bin .sub .i64 (.lit 1) (.var kI 16)))
 (.ite (.not (.var .bool 2))
 (.call 78 [(.var kU 10), (.var kU 11), (.var kU 12), (.var kU 13), (.bin .sub .i64 (.bin .sub .i64 (.lit 1) (.var kI 16)) (.bin .sub .i64 (.max (.lit (-1099511627776)) (.min (.var kI 4) (.lit 1099511627776))) (.var kI 14)))] 22 4
 (.call 74 [(.var kU 22), (.var kU 23), (.var kU 24), (.var kU 25), (.var kI 15), (.var kB 1), (.var .bool 3)] 26 3
 (.call 79 [(.var kB 0), (.var .bool 3), (.lit 0), (.var kU 26), (.var kU 27)] 29 2
 (.ite (.var .bool 28)
 (.leaf (.agg [(.int .u64 (.var kU 29)), (.int .u64 (.var kU 30)), (.int .u8 (.lit 24))]))
 (.leaf (.agg [(.int .u64 (.var kU 29)), (.int .u64 (.var kU 30)), (.int .u8 (.lit 0))]))))))
 (.call 78 [(.var kU 10), (.var kU 11), (.var kU 12), (.var kU 13), (.bin .sub .i64 (.bin .sub .i64 (.lit 1) (.var kI 16)) (.bin .sub .i64 (.max (.lit (-1099511627776)) (.min (.var kI 4) (.lit 1099511627776))) (.var kI 14)))] 22 4
 (.call 74 [(.var kU 22), (.var kU 23), (.var kU 24), (.var kU 25), (.var kI 15), (.var kB 1), (.var .bool 3)] 26 3
 (.call 79 [(.var kB 0), (.var .bool 3), (.lit 0), (.var kU 26), (.var kU 27)] 29 2
 (.ite (.var .bool 28)
 (.leaf (.agg [(.int .u64 (.var kU 29)), (.int .u64 (.var kU 30)), (.int .u8 (.lit 24))]))
 (.leaf (.agg [(.int .u64 (.var kU 29)), (.int .u64 (.var kU 30)), (.int .u8 (.lit 0))])))))))
 (.call 79 [(.var kB 0), (.var .bool 3), (.bin .add .i64 (.bin .sub .i64 (.bin .sub .i64 (.max (.lit (-1099511627776)) (.min (.var kI 4) (.lit 1099511627776))) (.var kI 14)) (.bin .sub .i64 (.lit 1) (.var kI 16))) (.lit 1)), (.var kU 17), (.var kU 18)] 22 2
 (.ite (.var .bool 19)
 (.leaf (.agg [(.int .u64 (.var kU 22)), (.int .u64 (.var kU 23)), (.int .u8 (.lit 16))]))
 (.leaf (.agg [(.int .u64 (.var kU 22)), (.int .u64 (.var kU 23)), (.int .u8 (.lit 0))])))))))))))))))))
theorem x_pack_Round : execF (ctx E4) 3000 45 (uns c_pack_Round.a (varsAt 0 (kindsOf c_pack_Round.a))) (kindsOf c_pack_Round.a).length = t_pack_Round := by kernel_rfl
def F_pack_Round : List Int → List Int := treeF (phiE E4) c_pack_Round t_pack_Round
theorem e_pack_Round : EntOK Tryd.prog gG ⟨45, c_pack_Round, F_pack_Round⟩ := ent_of (ctx_ok E4_ok) 3000 x_pack_Round (by kernel_rfl)
def c_class_Signaling : Ct := ⟨[.sc kB, .agg [kU, kU]], [.sc .bool]⟩
def t_class_Signaling : Tr' SV :=
 (.call 26 [(.var kB 0), (.var kU 1), (.var kU 2)] 3 2
 (.leaf (.bool (.bin .eql .u8 (.var kB 3) (.lit 5)))))
theorem x_class_Signaling : execF (ctx E4) 3000 84 (uns c_class_Signaling.a (varsAt 0 (kindsOf c_class_Signaling.a))) (kindsOf c_class_Signaling.a).length = t_class_Signaling := by kernel_rfl
def F_class_Signaling : List Int → List Int := treeF (phiE E4) c_class_Signaling t_class_Signaling
theorem e_class_Signaling : EntOK Tryd.prog gG ⟨84, c_class_Signaling, F_class_Signaling⟩ := ent_of (ctx_ok E4_ok) 3000 x_class_Signaling (by kernel_rfl)
def c_mul_Term : Ct := ⟨[.agg [.bool, kB, kI, kU, kU], .agg [.bool, kB, kI, kU, kU]], [.sc kI, .agg [kU, kU, kU, kU]]⟩
def t_mul_Term : Tr' SV :=
 (.ite (.bin .neq .u8 (.var kB 1) (.lit 1))
 (.ite (.bin .neq .u8 (.var kB 1) (.lit 2))
 (.leaf (.tup [(.int .i64 (.lit 0)), (.agg [(.int .u64 (.lit 0)), (.int .u64 (.lit 0)), (.int .u64 (.lit 0)), (.int .u64 (.lit 0))])]))
 (.ite (.bin .neq .u8 (.var kB 6) (.lit 1))
 (.ite (.bin .neq .u8 (.var kB 6) (.lit 2))
 (.leaf (.tup [(.int .i64 (.lit 0)), (.agg [(.int .u64 (.lit 0)), (.int .u64 (.lit 0)), (.int .u64 (.lit 0)), (.int .u64 (.lit 0))])]))
 (.call 59 [(.var kU 3), (.var kU 4), (.var kU 8), (.var kU 9)] 10 4
 (.leaf (.tup [(.int .i64 (.bin .add .i64 (.bin .add .i64 (.var kI 2) (.var kI 7)) (.lit 1))), (.agg [(.int .u64 (.var kU 10)), (.int .u64 (.var kU 11)), (.int .u64 (.var kU 12)), (.int .u64 (.var kU 13))])]))))
 (.call 59 [(.var kU 3), (.var kU 4), (.var kU 8), (.var kU 9)] 10 4
 (.leaf (.tup [(.int .i64 (.bin .add .i64 (.bin .add .i64 (.var kI 2) (.var kI 7)) (.lit 1))), (.agg [(.int .u64 (.var kU 10)), (.int .u64 (.var kU 11)), (.int .u64 (.var kU 12)), (.int .u64 (.var kU 13))])])))))
 (.ite (.bin .neq .u8 (.var kB 6) (.lit 1))
 (.ite (.bin .neq .u8 (.var kB 6) (.lit 2))
 (.leaf (.tup [(.int .i64 (.lit 0)), (.agg [(.int .u64 (.lit 0)), (.int .u64 (.lit 0)), (.int .u64 (.lit 0)), (.int .u64 (.lit 0))])]))
 (.call 59 [(.var kU 3), (.var kU 4), (.var kU 8), (.var kU 9)] 10 4
 (.leaf (.tup [(.int .i64 (.bin .add .i64 (.bin .add .i64 (.var kI 2) (.var kI 7)) (.lit 1))), (.agg [(.int .u64 (.var kU 10)), (.int .u64 (.var kU 11)), (.int .u64 (.var kU 12)), (.int .u64 (.var kU 13))])]))))
 (.call 59 [(.var kU 3), (.var kU 4), (.var kU 8), (.var kU 9)] 10 4
 (.leaf (.tup [(.int .i64 (.bin .add .i64 (.bin .add .i64 (.var kI 2) (.var kI 7)) (.lit 1))), (.agg [(.int .u64 (.var kU 10)), (.int .u64 (.var kU 11)), (.int .u64 (.var kU 12)), (.int .u64 (.var kU 13))])])))))
theorem x_mul_Term : execF (ctx E4) 3000 33 (uns c_mul_Term.a (varsAt 0 (kindsOf c_mul_Term.a))) (kindsOf c_mul_Term.a).length = t_mul_Term := by kernel_rfl
def F_mul_Term : List Int → List Int := treeF (phiE E4) c_mul_Term t_mul_Term
theorem e_mul_Term : EntOK Tryd.prog gG ⟨33, c_mul_Term, F_mul_Term⟩ := ent_of (ctx_ok E4_ok) 3000 x_mul_Term (by kernel_rfl)
def c_mul_Bad : Ct := ⟨[.agg [.bool, kB, kI, kU, kU], .agg [.bool, kB, kI, kU, kU]], [.sc .bool]⟩
def t_mul_Bad : Tr' SV :=
 (.ite (.bin .geq .i64 (.ite (.bin .eql .u8 (.var kB 1) (.lit 0)) (.lit 0) (.ite (.bin .eql .u8 (.var kB 6) (.lit 0)) (.lit 1) (.lit (-1)))) (.lit 0))
 (.leaf (.bool (.bin .geq .i64 (.ite (.bin .eql .u8 (.var kB 1) (.lit 3)) (.lit 0) (.ite (.bin .eql .u8 (.var kB 6) (.lit 3)) (.lit 1) (.lit (-1)))) (.lit 0))))
 (.leaf (.bool (.lit 0))))
theorem x_mul_Bad : execF (ctx E4) 3000 35 (uns c_mul_Bad.a (varsAt 0 (kindsOf c_mul_Bad.a))) (kindsOf c_mul_Bad.a).length = t_mul_Bad := by kernel_rfl
def F_mul_Bad : List Int → List Int := treeF (phiE E4) c_mul_Bad t_mul_Bad
theorem e_mul_Bad : EntOK Tryd.prog gG ⟨35, c_mul_Bad, F_mul_Bad⟩ := ent_of (ctx_ok E4_ok) 3000 x_mul_Bad (by kernel_rfl)
def E5 : List Ent := ⟨20, c_class_NaN, F_class_NaN⟩ :: ⟨42, c_class_Finite, F_class_Finite⟩ :: ⟨44, c_fields_Unpack, F_fields_Unpack⟩ :: ⟨45, c_pack_Round, F_pack_Round⟩ :: ⟨84, c_class_Signaling, F_class_Signaling⟩ :: ⟨33, c_mul_Term, F_mul_Term⟩ :: ⟨35, c_mul_Bad, F_mul_Bad⟩ :: E4
theorem E5_ok : ∀ e ∈ E5, EntOK Tryd.prog gG e := List.forall_mem_cons.2 ⟨e_class_NaN, List.forall_mem_cons.2 ⟨e_class_Finite, List.forall_mem_cons.2 ⟨e_fields_Unpack, List.forall_mem_cons.2 ⟨e_pack_Round, List.forall_mem_cons.2 ⟨e_class_Signaling, List.forall_mem_cons.2 ⟨e_mul_Term, List.forall_mem_cons.2 ⟨e_mul_Bad, E4_ok⟩⟩⟩⟩⟩⟩⟩
end Go.Proofs.YtikjbocagnolmaaDoor
