import Derived.Test.YtemomocmfggiaaaGreatDoorZTU6
set_option linter.unusedSimpArgs false
set_option linter.unusedVariables false
set_option maxRecDepth 100000
namespace Go.Proofs.YtemomocmfggiaaaGreatDoor
open Go.RowKit
theorem auw:zU (wP TD NZ ZZ) eE:=QR af2 Vu Vv (by kernel_rfl)
def PU:Ct:=⟨[],[.sc .bool]⟩
def ahv:vo SV :=
 (.call 900001 [ai,ae,ae,ae,ae,ae,(.lit 15360),ae,(.lit 15360),ae,ae,cu,ae,ae,ae,ae,ae,(.lit 15360),ae,ae,ae,ae,ai,ae,ae,ae,ae,ae,(.lit 80896),ae,ae,ae,ae,ae,ae,ae,ae,ae,ae,ae,ae,ae,ae,ae] 0 17 (.ite (.and (.bin .eql .i64 dR ae) (.and aM (.and (.bin .eql .u64 ay (.lit 16384)) (.and (.bin .eql .u8 qK ae) ai)))) (.ite (.and gH (.and (.bin .eql .u64 aA ae) (.and (.bin .eql .u64 dX (.lit 31744)) (.and (.bin .eql .u8 jS aZ) ai)))) (.ite (.and (.bin .eql .i64 iX ai) (.and qP (.and (.bin .eql .u64 eF ae) (.and (.bin .eql .u8 (.var kB 12) ae) ai)))) (.ite (.and (.bin .eql .i64 (.var kI 13) ai) (.and (.bin .eql .u64 eY ae) (.and (.bin .eql .u64 eX ae) (.and (.bin .eql .u8 (.var kB 16) ae) ai)))) (.leaf (.bool pM)) av) av) av) av))
theorem aux:De (wP TD NZ ZZ) mE4 3000 11 (ww PU.a (wm 0 (vD PU.a))) (vD PU.a).length=ahv:=by kernel_rfl
def LZ:List Int→List Int:=vU (vP TD NZ ZZ) PU ahv
theorem auy:AQ Tryz.prog gG ⟨11,PU,LZ⟩:=FV auw arc 3000 (by kernel_rfl) aux (by kernel_rfl)
def TE:List wO:=⟨11,PU,LZ⟩::TD
theorem auz:∀ e∈TE,AQ Tryz.prog gG e:=List.forall_mem_cons.2 ⟨auy,af2⟩
end Go.Proofs.YtemomocmfggiaaaGreatDoor
