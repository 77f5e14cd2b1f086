import Derived.Test.YtemomocmfggiaaaGreatDoorTM3U6
set_option linter.unusedSimpArgs false
set_option linter.unusedVariables false
set_option maxRecDepth 100000
namespace Go.Proofs.YtemomocmfggiaaaGreatDoor
open Go.RowKit
theorem auA:zU (wP TE NZ ZZ) eE:=QR auz Vu Vv (by kernel_rfl)
def En:Ct:=⟨[.agg [kB,kB,kB,kB,kB,kU,kU,kU,kU,kU,kU]],[.sc .bool]⟩
noncomputable def vZ:vo SV:=De (wP TE NZ ZZ) mE 3000 3 (ww En.a (wm 0 (vD En.a))) (vD En.a).length
def ahx:vo SV :=
 (.ite (.and (.bin .eql .i64 lM ai) (.and (.bin .eql .u64 eH ae) (.and (.bin .eql .u64 eG ae) (.and (.bin .eql .u8 su ae) ai)))) sG av)
theorem auB:vZ.nx.th=ahx:=by kernel_rfl
def ahy:vo SV :=
 av
theorem auC:vZ.nx.el.th=ahy:=by kernel_rfl
def ahz:vo SV :=
 av
theorem auD:vZ.nx.el.el.th.th=ahz:=by kernel_rfl
def ahA:vo SV :=
 av
theorem auE:vZ.nx.el.el.th.el.th.th=ahA:=by kernel_rfl
def ahB:vo SV :=
 av
theorem auF:vZ.nx.el.el.th.el.th.el.th=ahB:=by kernel_rfl
def ahC:vo SV :=
 sJ
theorem auG:vZ.nx.el.el.th.el.th.el.el.th=ahC:=by kernel_rfl
def ahD:vo SV :=
 sW
theorem auH:vZ.nx.el.el.th.el.th.el.el.el.th.nx.th=ahD:=by kernel_rfl
def ahE:vo SV :=
 tO
theorem auI:vZ.nx.el.el.th.el.th.el.el.el.th.nx.el=ahE:=by kernel_rfl
def ahF:vo SV :=
 uf
theorem auJ:vZ.nx.el.el.th.el.th.el.el.el.el.nx.th=ahF:=by kernel_rfl
def ahG:vo SV :=
 uq
theorem auK:vZ.nx.el.el.th.el.th.el.el.el.el.nx.el=ahG:=by kernel_rfl
def ahH:vo SV :=
 av
theorem auL:vZ.nx.el.el.th.el.el.th.th=ahH:=by kernel_rfl
def ahI:vo SV :=
 sJ
theorem auM:vZ.nx.el.el.th.el.el.th.el.th=ahI:=by kernel_rfl
def ahJ:vo SV :=
 uw
theorem auN:vZ.nx.el.el.th.el.el.th.el.el.th.nx.th=ahJ:=by kernel_rfl
def ahK:vo SV :=
 uA
theorem auO:vZ.nx.el.el.th.el.el.th.el.el.th.nx.el=ahK:=by kernel_rfl
def ahL:vo SV :=
 uD
theorem auP:vZ.nx.el.el.th.el.el.th.el.el.el.nx.th=ahL:=by kernel_rfl
def ahM:vo SV :=
 uG
theorem auQ:vZ.nx.el.el.th.el.el.th.el.el.el.nx.el=ahM:=by kernel_rfl
def ahN:vo SV :=
 sJ
theorem auR:vZ.nx.el.el.th.el.el.el.th=ahN:=by kernel_rfl
def ahO:vo SV :=
 uK
theorem auS:vZ.nx.el.el.th.el.el.el.el.th.nx.th=ahO:=by kernel_rfl
def ahP:vo SV :=
 uM
theorem auT:vZ.nx.el.el.th.el.el.el.el.th.nx.el.nx.th=ahP:=by kernel_rfl
def ahQ:vo SV :=
 uO
theorem auU:vZ.nx.el.el.th.el.el.el.el.th.nx.el.nx.el=ahQ:=by kernel_rfl
def ahR:vo SV :=
 uR
theorem auV:vZ.nx.el.el.th.el.el.el.el.el.nx.th=ahR:=by kernel_rfl
def ahS:vo SV :=
 uT
theorem auW:vZ.nx.el.el.th.el.el.el.el.el.nx.el.nx.th=ahS:=by kernel_rfl
def ahT:vo SV :=
 uU
theorem auX:vZ.nx.el.el.th.el.el.el.el.el.nx.el.nx.el=ahT:=by kernel_rfl
def ahU:vo SV :=
 av
theorem auY:vZ.nx.el.el.el.th.th=ahU:=by kernel_rfl
def ahV:vo SV :=
 av
theorem auZ:vZ.nx.el.el.el.th.el.th=ahV:=by kernel_rfl
def ahW:vo SV :=
 sJ
theorem au0:vZ.nx.el.el.el.th.el.el.th=ahW:=by kernel_rfl
def ahX:vo SV :=
 sW
theorem au1:vZ.nx.el.el.el.th.el.el.el.th.nx.th=ahX:=by kernel_rfl
def ahY:vo SV :=
 tO
theorem au2:vZ.nx.el.el.el.th.el.el.el.th.nx.el=ahY:=by kernel_rfl
def ahZ:vo SV :=
 uf
theorem au3:vZ.nx.el.el.el.th.el.el.el.el.nx.th=ahZ:=by kernel_rfl
def ah0:vo SV :=
 uq
theorem au4:vZ.nx.el.el.el.th.el.el.el.el.nx.el=ah0:=by kernel_rfl
def ah1:vo SV :=
 av
theorem au5:vZ.nx.el.el.el.el.th.th=ah1:=by kernel_rfl
def ah2:vo SV :=
 sJ
theorem au6:vZ.nx.el.el.el.el.th.el.th=ah2:=by kernel_rfl
def ah3:vo SV :=
 uw
theorem au7:vZ.nx.el.el.el.el.th.el.el.th.nx.th=ah3:=by kernel_rfl
def ah4:vo SV :=
 uA
theorem au8:vZ.nx.el.el.el.el.th.el.el.th.nx.el=ah4:=by kernel_rfl
def ah5:vo SV :=
 uD
theorem au9:vZ.nx.el.el.el.el.th.el.el.el.nx.th=ah5:=by kernel_rfl
def ah6:vo SV :=
 uG
theorem ava:vZ.nx.el.el.el.el.th.el.el.el.nx.el=ah6:=by kernel_rfl
def ah7:vo SV :=
 sJ
theorem avb:vZ.nx.el.el.el.el.el.th=ah7:=by kernel_rfl
def ah8:vo SV :=
 uK
theorem avc:vZ.nx.el.el.el.el.el.el.th.nx.th=ah8:=by kernel_rfl
def ah9:vo SV :=
 uM
theorem avd:vZ.nx.el.el.el.el.el.el.th.nx.el.nx.th=ah9:=by kernel_rfl
def aia:vo SV :=
 uO
theorem ave:vZ.nx.el.el.el.el.el.el.th.nx.el.nx.el=aia:=by kernel_rfl
def aib:vo SV :=
 uR
theorem avf:vZ.nx.el.el.el.el.el.el.el.nx.th=aib:=by kernel_rfl
def aic:vo SV :=
 uT
theorem avg:vZ.nx.el.el.el.el.el.el.el.nx.el.nx.th=aic:=by kernel_rfl
def aid:vo SV :=
 uU
theorem avh:vZ.nx.el.el.el.el.el.el.el.nx.el.nx.el=aid:=by kernel_rfl
def L6:vo SV :=
 (.call 10 [dD,dI,kK,jc,qK,dU,aA,dX,dZ,ed,eD] 11 4 (.ite (.bin .neq .i64 lM ae) ahx (.ite (.not (.bin .eql .u8 (.bin .andNot .u8 su (.lit 31)) ae)) ahy (.ite (.bin .neq .u8 (.bin .and .u8 su (.lit 12)) ae) (.ite (.bin .neq .u8 (.bin .and .u8 su (.lit 19)) (.lit 16)) ahz (.ite uV (.ite uH ahA (.ite uW ahB (.ite uX ahC (.ite ry (.call 14 qN 15 1 (.ite lg ahD ahE)) (.call 14 qN 15 1 (.ite lg ahF ahG)))))) (.ite uW (.ite (.bin .neq .u8 su aZ) ahH (.ite uX ahI (.ite ry (.call 14 qN 15 1 (.ite lg ahJ ahK)) (.call 14 qN 15 1 (.ite lg ahL ahM))))) (.ite uX ahN (.ite ry (.call 14 qN 15 1 (.ite lg ahO (.call 14 qO 16 1 (.ite ll ahP ahQ)))) (.call 14 qN 15 1 (.ite lg ahR (.call 14 qO 16 1 (.ite ll ahS ahT))))))))) (.ite uV (.ite uH ahU (.ite uW ahV (.ite uX ahW (.ite ry (.call 14 qN 15 1 (.ite lg ahX ahY)) (.call 14 qN 15 1 (.ite lg ahZ ah0)))))) (.ite uW (.ite (.bin .neq .u8 su aZ) ah1 (.ite uX ah2 (.ite ry (.call 14 qN 15 1 (.ite lg ah3 ah4)) (.call 14 qN 15 1 (.ite lg ah5 ah6))))) (.ite uX ah7 (.ite ry (.call 14 qN 15 1 (.ite lg ah8 (.call 14 qO 16 1 (.ite ll ah9 aia)))) (.call 14 qN 15 1 (.ite lg aib (.call 14 qO 16 1 (.ite ll aic aid))))))))))))
theorem avi:De (wP TE NZ ZZ) mE 3000 3 (ww En.a (wm 0 (vD En.a))) (vD En.a).length=L6:=(show vZ=L6 from(AA (T:=vZ) (q:=(10,[(.var kB 0),(.var kB 1),(.var kB 2),(.var kB 3),(.var kB 4),(.var kU 5),(.var kU 6),(.var kU 7),(.var kU 8),(.var kU 9),(.var kU 10)],11,4)) (by kernel_rfl) (xJ (T:=vZ.nx) (c:=(.bin .neq .i64 (.var kI 11) (.lit 0))) (by kernel_rfl) auB (xJ (T:=vZ.nx.el) (c:=(.not (.bin .eql .u8 (.bin .andNot .u8 (.var kB 14) (.lit 31)) (.lit 0)))) (by kernel_rfl) auC (xJ (T:=vZ.nx.el.el) (c:=(.bin .neq .u8 (.bin .and .u8 (.var kB 14) (.lit 12)) (.lit 0))) (by kernel_rfl) (xJ (T:=vZ.nx.el.el.th) (c:=(.bin .neq .u8 (.bin .and .u8 (.var kB 14) (.lit 19)) (.lit 16))) (by kernel_rfl) auD (xJ (T:=vZ.nx.el.el.th.el) (c:=(.bin .neq .u8 (.bin .and .u8 (.var kB 14) (.lit 1)) (.lit 0))) (by kernel_rfl) (xJ (T:=vZ.nx.el.el.th.el.th) (c:=(.bin .neq .u8 (.var kB 14) (.lit 1))) (by kernel_rfl) auE (xJ (T:=vZ.nx.el.el.th.el.th.el) (c:=(.bin .neq .u8 (.bin .and .u8 (.var kB 14) (.lit 2)) (.lit 0))) (by kernel_rfl) auF (xJ (T:=vZ.nx.el.el.th.el.th.el.el) (c:=(.bin .geq .u8 (.var kB 0) (.lit 11))) (by kernel_rfl) auG (xJ (T:=vZ.nx.el.el.th.el.th.el.el.el) (c:=(.bin .eql .u8 (.var kB 0) (.lit 10))) (by kernel_rfl) (AA (T:=vZ.nx.el.el.th.el.th.el.el.el.th) (q:=(14,[(.var kB 1),(.var kU 5),(.var kU 6)],15,1)) (by kernel_rfl) (xJ (T:=vZ.nx.el.el.th.el.th.el.el.el.th.nx) (c:=(.var .bool 15)) (by kernel_rfl) auH auI)) (AA (T:=vZ.nx.el.el.th.el.th.el.el.el.el) (q:=(14,[(.var kB 1),(.var kU 5),(.var kU 6)],15,1)) (by kernel_rfl) (xJ (T:=vZ.nx.el.el.th.el.th.el.el.el.el.nx) (c:=(.var .bool 15)) (by kernel_rfl) auJ auK)))))) (xJ (T:=vZ.nx.el.el.th.el.el) (c:=(.bin .neq .u8 (.bin .and .u8 (.var kB 14) (.lit 2)) (.lit 0))) (by kernel_rfl) (xJ (T:=vZ.nx.el.el.th.el.el.th) (c:=(.bin .neq .u8 (.var kB 14) (.lit 2))) (by kernel_rfl) auL (xJ (T:=vZ.nx.el.el.th.el.el.th.el) (c:=(.bin .geq .u8 (.var kB 0) (.lit 11))) (by kernel_rfl) auM (xJ (T:=vZ.nx.el.el.th.el.el.th.el.el) (c:=(.bin .eql .u8 (.var kB 0) (.lit 10))) (by kernel_rfl) (AA (T:=vZ.nx.el.el.th.el.el.th.el.el.th) (q:=(14,[(.var kB 1),(.var kU 5),(.var kU 6)],15,1)) (by kernel_rfl) (xJ (T:=vZ.nx.el.el.th.el.el.th.el.el.th.nx) (c:=(.var .bool 15)) (by kernel_rfl) auN auO)) (AA (T:=vZ.nx.el.el.th.el.el.th.el.el.el) (q:=(14,[(.var kB 1),(.var kU 5),(.var kU 6)],15,1)) (by kernel_rfl) (xJ (T:=vZ.nx.el.el.th.el.el.th.el.el.el.nx) (c:=(.var .bool 15)) (by kernel_rfl) auP auQ))))) (xJ (T:=vZ.nx.el.el.th.el.el.el) (c:=(.bin .geq .u8 (.var kB 0) (.lit 11))) (by kernel_rfl) auR (xJ (T:=vZ.nx.el.el.th.el.el.el.el) (c:=(.bin .eql .u8 (.var kB 0) (.lit 10))) (by kernel_rfl) (AA (T:=vZ.nx.el.el.th.el.el.el.el.th) (q:=(14,[(.var kB 1),(.var kU 5),(.var kU 6)],15,1)) (by kernel_rfl) (xJ (T:=vZ.nx.el.el.th.el.el.el.el.th.nx) (c:=(.var .bool 15)) (by kernel_rfl) auS (AA (T:=vZ.nx.el.el.th.el.el.el.el.th.nx.el) (q:=(14,[(.var kB 1),(.var kU 7),(.var kU 8)],16,1)) (by kernel_rfl) (xJ (T:=vZ.nx.el.el.th.el.el.el.el.th.nx.el.nx) (c:=(.var .bool 16)) (by kernel_rfl) auT auU)))) (AA (T:=vZ.nx.el.el.th.el.el.el.el.el) (q:=(14,[(.var kB 1),(.var kU 5),(.var kU 6)],15,1)) (by kernel_rfl) (xJ (T:=vZ.nx.el.el.th.el.el.el.el.el.nx) (c:=(.var .bool 15)) (by kernel_rfl) auV (AA (T:=vZ.nx.el.el.th.el.el.el.el.el.nx.el) (q:=(14,[(.var kB 1),(.var kU 7),(.var kU 8)],16,1)) (by kernel_rfl) (xJ (T:=vZ.nx.el.el.th.el.el.el.el.el.nx.el.nx) (c:=(.var .bool 16)) (by kernel_rfl) auW auX))))))))) (xJ (T:=vZ.nx.el.el.el) (c:=(.bin .neq .u8 (.bin .and .u8 (.var kB 14) (.lit 1)) (.lit 0))) (by kernel_rfl) (xJ (T:=vZ.nx.el.el.el.th) (c:=(.bin .neq .u8 (.var kB 14) (.lit 1))) (by kernel_rfl) auY (xJ (T:=vZ.nx.el.el.el.th.el) (c:=(.bin .neq .u8 (.bin .and .u8 (.var kB 14) (.lit 2)) (.lit 0))) (by kernel_rfl) auZ (xJ (T:=vZ.nx.el.el.el.th.el.el) (c:=(.bin .geq .u8 (.var kB 0) (.lit 11))) (by kernel_rfl) au0 (xJ (T:=vZ.nx.el.el.el.th.el.el.el) (c:=(.bin .eql .u8 (.var kB 0) (.lit 10))) (by kernel_rfl) (AA (T:=vZ.nx.el.el.el.th.el.el.el.th) (q:=(14,[(.var kB 1),(.var kU 5),(.var kU 6)],15,1)) (by kernel_rfl) (xJ (T:=vZ.nx.el.el.el.th.el.el.el.th.nx) (c:=(.var .bool 15)) (by kernel_rfl) au1 au2)) (AA (T:=vZ.nx.el.el.el.th.el.el.el.el) (q:=(14,[(.var kB 1),(.var kU 5),(.var kU 6)],15,1)) (by kernel_rfl) (xJ (T:=vZ.nx.el.el.el.th.el.el.el.el.nx) (c:=(.var .bool 15)) (by kernel_rfl) au3 au4)))))) (xJ (T:=vZ.nx.el.el.el.el) (c:=(.bin .neq .u8 (.bin .and .u8 (.var kB 14) (.lit 2)) (.lit 0))) (by kernel_rfl) (xJ (T:=vZ.nx.el.el.el.el.th) (c:=(.bin .neq .u8 (.var kB 14) (.lit 2))) (by kernel_rfl) au5 (xJ (T:=vZ.nx.el.el.el.el.th.el) (c:=(.bin .geq .u8 (.var kB 0) (.lit 11))) (by kernel_rfl) au6 (xJ (T:=vZ.nx.el.el.el.el.th.el.el) (c:=(.bin .eql .u8 (.var kB 0) (.lit 10))) (by kernel_rfl) (AA (T:=vZ.nx.el.el.el.el.th.el.el.th) (q:=(14,[(.var kB 1),(.var kU 5),(.var kU 6)],15,1)) (by kernel_rfl) (xJ (T:=vZ.nx.el.el.el.el.th.el.el.th.nx) (c:=(.var .bool 15)) (by kernel_rfl) au7 au8)) (AA (T:=vZ.nx.el.el.el.el.th.el.el.el) (q:=(14,[(.var kB 1),(.var kU 5),(.var kU 6)],15,1)) (by kernel_rfl) (xJ (T:=vZ.nx.el.el.el.el.th.el.el.el.nx) (c:=(.var .bool 15)) (by kernel_rfl) au9 ava))))) (xJ (T:=vZ.nx.el.el.el.el.el) (c:=(.bin .geq .u8 (.var kB 0) (.lit 11))) (by kernel_rfl) avb (xJ (T:=vZ.nx.el.el.el.el.el.el) (c:=(.bin .eql .u8 (.var kB 0) (.lit 10))) (by kernel_rfl) (AA (T:=vZ.nx.el.el.el.el.el.el.th) (q:=(14,[(.var kB 1),(.var kU 5),(.var kU 6)],15,1)) (by kernel_rfl) (xJ (T:=vZ.nx.el.el.el.el.el.el.th.nx) (c:=(.var .bool 15)) (by kernel_rfl) avc (AA (T:=vZ.nx.el.el.el.el.el.el.th.nx.el) (q:=(14,[(.var kB 1),(.var kU 7),(.var kU 8)],16,1)) (by kernel_rfl) (xJ (T:=vZ.nx.el.el.el.el.el.el.th.nx.el.nx) (c:=(.var .bool 16)) (by kernel_rfl) avd ave)))) (AA (T:=vZ.nx.el.el.el.el.el.el.el) (q:=(14,[(.var kB 1),(.var kU 5),(.var kU 6)],15,1)) (by kernel_rfl) (xJ (T:=vZ.nx.el.el.el.el.el.el.el.nx) (c:=(.var .bool 15)) (by kernel_rfl) avf (AA (T:=vZ.nx.el.el.el.el.el.el.el.nx.el) (q:=(14,[(.var kB 1),(.var kU 7),(.var kU 8)],16,1)) (by kernel_rfl) (xJ (T:=vZ.nx.el.el.el.el.el.el.el.nx.el.nx) (c:=(.var .bool 16)) (by kernel_rfl) avg avh)))))))))))))
def PV:List Int→List Int:=vU (vP TE NZ ZZ) En L6
theorem avj:AQ Tryz.prog gG ⟨3,En,PV⟩:=FV auA GZ 3000 (by kernel_rfl) avi (by kernel_rfl)
theorem aie:vP TE NZ ZZ 10=ym:=wy (e:=⟨10,_,ym⟩) rfl rfl rfl
theorem avk:vP TE NZ ZZ 16=Ki:=wy (e:=⟨16,_,Ki⟩) rfl rfl rfl
theorem aif:vP TE NZ ZZ 15=zH:=wy (e:=⟨15,_,zH⟩) rfl rfl rfl
theorem aig:vP TE NZ ZZ 14=yR:=wy (e:=⟨14,_,yR⟩) rfl rfl rfl
end Go.Proofs.YtemomocmfggiaaaGreatDoor
