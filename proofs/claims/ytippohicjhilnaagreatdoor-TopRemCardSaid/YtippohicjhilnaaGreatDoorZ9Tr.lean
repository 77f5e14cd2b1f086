import Derived.Test.YtippohicjhilnaaGreatDoorWBTr
import Derived.Test.YtippohicjhilnaaGreatDoorWETr
import Derived.Test.YtippohicjhilnaaGreatDoorZ2Tr
import Derived.Test.YtippohicjhilnaaGreatDoorZNTr
set_option linter.unusedSimpArgs false
set_option linter.unusedVariables false
set_option maxRecDepth 100000
open Go.Proofs.Tryz
namespace Go.Proofs.YtippohicjhilnaaGreatDoor
open Go.RowKit
def TA:List uL:=⟨94,Qo,aka⟩::⟨100,Iq,Qp⟩::⟨96,Qb,ai8⟩::E34
theorem ajS:∀ e∈TA,wX prog gG e:=List.forall_mem_cons.2 ⟨akb.c,List.forall_mem_cons.2 ⟨akk.c,List.forall_mem_cons.2 ⟨ai9.c,λe he=>(aiO e he).c⟩⟩⟩
def NZ:List uL:=[]
theorem ajT:∀ e∈NZ,wS prog gG e:=λe he=>by cases he
def ZZ:List wY:=S1
theorem Wp:∀ e∈ZZ,UB prog gG e:=λe he=>(Gu e he).c
theorem LW:wW (uI TA NZ ZZ) eE:=EW ajS ajT Wp (by kernel_rfl)
def LX:Ct:=⟨[.sc kB,.sc kB,.agg [kB,.bool],.sc kU],[.agg [kU,kU,kB]]⟩
def acs:tL SV :=
 (.ite dK jq (.ite kR jq (.ite kY jq (.ite oh (.ite qQ (.call 134 [dQ,kX,je,qQ,iG,(.bin .sub .u64 ag qP),ag,ag,ag] 5 3 qR) (.call 134 [dQ,kX,je,qQ,iG,qP,ag,ag,ag] 5 3 qR)) (.ite ol (.call 134 [dQ,kX,je,ag,iG,(.conv .u64 (.conv .u32 aF)),ag,ag,ag] 5 3 qR) (.ite om (.ite qU (.call 134 [dQ,kX,je,qU,iG,(.bin .sub .u64 ag aF),ag,ag,ag] 5 3 qR) (.call 134 [dQ,kX,je,qU,iG,aF,ag,ag,ag] 5 3 qR)) (.call 134 [dQ,kX,je,ag,iG,aF,ag,ag,ag] 5 3 qR)))))))
theorem ax8:FN (uI TA NZ ZZ) mE 3000 111 (uF LX.a (uC 0 (tO LX.a))) (tO LX.a).length=acs:=by kernel_rfl
def acu:List Int->List Int:=uq (uy TA NZ ZZ) LX acs
theorem ajU:wX prog gG ⟨111,LX,acu⟩:=Kc LW Ke 3000 (by kernel_rfl) ax8 (by kernel_rfl)
def LY:Ct:=⟨[.sc kB,.sc kU],[.sc .bool]⟩
def acv:tL SV :=
 (.ite oh (.leaf (.bool (.bin .eql .u64 (.conv .u64 (.conv .i64 (.conv .i32 ai))) ai))) (.ite ol (.leaf (.bool (.bin .eql .u64 (.conv .u64 (.conv .u32 ai)) ai))) (.ite om qV (.ite oo qV ay))))
theorem ax9:FN (uI TA NZ ZZ) mE 3000 70 (uF LY.a (uC 0 (tO LY.a))) (tO LY.a).length=acv:=by kernel_rfl
def acw:List Int->List Int:=uq (uy TA NZ ZZ) LY acv
theorem ajV:wX prog gG ⟨70,LY,acw⟩:=Kc LW Ke 3000 (by kernel_rfl) ax9 (by kernel_rfl)
def LZ:Ct:=⟨[.sc kB,.sc kB,.sc kB,.agg [kU,kU]],[.agg [kU,kB]]⟩
def acx:tL SV :=
 (.ite dK qW (.ite kR qW (.ite kY qW (.call 76 jw 5 5 (.ite (.bin .geq .u8 dR di) (.leaf (.agg [aO,jg])) (.ite iJ (.call 147 qG 10 4 (.ite dX q9 (.ite rf q9 (.ite rq (.call 188 ry 14 4 (.call 184 rC 18 3 (.call 156 [fu,fw,ag,q8] 21 1 (.ite rD q9 (.ite jF (.leaf (.agg [rG,j5])) (.leaf (.agg [rG,iE]))))))) (.call 184 rH 14 3 (.call 156 [fB,fA,ag,q8] 17 1 (.ite rJ q9 (.ite lL (.leaf (.agg [rM,j5])) (.leaf (.agg [rM,iE])))))))))) (.call 147 qG 10 4 (.ite dX rR (.ite rf rR (.ite rq (.call 188 ry 14 4 (.call 184 rC 18 3 (.call 156 [fu,fw,ag,rQ] 21 1 (.ite rD rR (.ite jF (.leaf (.agg [ib,j5])) (.leaf (.agg [ib,iE]))))))) (.call 184 rH 14 3 (.call 156 [fB,fA,ag,rQ] 17 1 (.ite rJ rR (.ite lL (.leaf (.agg [iq,j5])) (.leaf (.agg [iq,iE]))))))))))))))))
theorem aya:FN (uI TA NZ ZZ) mE 3000 109 (uF LZ.a (uC 0 (tO LZ.a))) (tO LZ.a).length=acx:=by kernel_rfl
def acy:List Int->List Int:=uq (uy TA NZ ZZ) LZ acx
theorem ajW:wX prog gG ⟨109,LZ,acy⟩:=Kc LW Ke 3000 (by kernel_rfl) aya (by kernel_rfl)
def L6:Ct:=⟨[.sc kB,.sc kB,.sc .bool,.agg [kU,kU]],[.agg [kU,kU,kB]]⟩
def acz:tL SV :=
 (.ite dK jq (.ite jr jq (.call 1000077 qN 5 4 (.ite lC qR (.call 76 jw 9 5 (.ite (.bin .eql .u8 (.var kB 10) ag) (.call 8 jw 14 2 qF) (.ite nk (.call 8 jw 14 2 qF) (.call 50 dY 14 1 (.ite (.bin .geq .i64 mf (.bin .sub .i64 jI ak)) (.call 8 jw 15 2 lh) (.call 147 nO 15 4 (.ite (.bin .lss .i64 mf ag) (.call 188 [fA,fe,fq,fu,(.bin .sub .i64 (.bin .sub .i64 ag mf) ak)] 19 4 (.call 184 [fw,ig,fC,fG,ag,dQ,iC] 23 3 (.call 152 [fI,fK] 26 4 (.call 134 [dI,di,ag,iC,iG,jS,jT,mI,jU] 30 3 (.ite (.bin .neq .u8 (.var kB 32) ag) (.ite kK rT jq) (.ite kK (.ite dP (.leaf (.agg [jX,nH,j5])) rU) rU)))))) (.call 184 [fA,fe,fq,fu,(.bin .add .i64 mf ak),dQ,iC] 19 3 (.call 152 [fw,ig] 22 4 (.call 134 [dI,di,ag,iC,iG,fG,fI,fK,jQ] 26 3 (.ite qj (.ite jL rT jq) (.ite jL (.ite dP (.leaf (.agg [kQ,(.int .u64 jT),j5])) ql) ql))))))))))))))))
theorem ayb:FN (uI TA NZ ZZ) mE 3000 102 (uF L6.a (uC 0 (tO L6.a))) (tO L6.a).length=acz:=by kernel_rfl
def acA:List Int->List Int:=uq (uy TA NZ ZZ) L6 acz
theorem ajX:wX prog gG ⟨102,L6,acA⟩:=Kc LW Ke 3000 (by kernel_rfl) ayb (by kernel_rfl)
def L8:Ct:=⟨[.sc kB,.agg [kU,kU],.agg [kU,kU]],[.sc kB,.sc kB]⟩
def acB:tL SV :=
 (.ite dK rV (.call 14 iV 5 1 (.ite iJ (.call 126 iV 6 1 (.ite iX rX (.call 126 jw 7 1 rY))) (.call 14 jw 6 1 (.ite iX (.call 126 iV 7 1 (.ite gD rX (.call 126 jw 8 1 rZ))) sw)))))
theorem ayc:FN (uI TA NZ ZZ) mE 3000 114 (uF L8.a (uC 0 (tO L8.a))) (tO L8.a).length=acB:=by kernel_rfl
def acC:List Int->List Int:=uq (uy TA NZ ZZ) L8 acB
theorem ajY:wX prog gG ⟨114,L8,acC⟩:=Kc LW Ke 3000 (by kernel_rfl) ayc (by kernel_rfl)
def L9:Ct:=⟨[.sc kB,.agg [kU,kU],.agg [kU,kU]],[.sc kB,.sc kB]⟩
def acD:tL SV :=
 (.ite dK rV (.call 14 iV 5 1 (.ite iJ (.call 14 iV 6 1 (.ite iX rX (.call 14 jw 7 1 rY))) (.call 14 jw 6 1 (.ite iX (.call 14 iV 7 1 (.ite gD rX (.call 14 jw 8 1 rZ))) sw)))))
theorem ayd:FN (uI TA NZ ZZ) mE 3000 116 (uF L9.a (uC 0 (tO L9.a))) (tO L9.a).length=acD:=by kernel_rfl
def acE:List Int->List Int:=uq (uy TA NZ ZZ) L9 acD
theorem ajZ:wX prog gG ⟨116,L9,acE⟩:=Kc LW Ke 3000 (by kernel_rfl) ayd (by kernel_rfl)
def Ma:Ct:=⟨[.sc kB,.agg [kU,kU]],[.sc .bool]⟩
def Wq:tL SV :=
 (.ite dJ (.call 8 iV 3 2 (.leaf (.bool (.and (.bin .eql .u64 aA ai) (.and (.bin .eql .u64 aF aB) ak))))) ay)
theorem aye:FN (uI TA NZ ZZ) mE 3000 71 (uF Ma.a (uC 0 (tO Ma.a))) (tO Ma.a).length=Wq:=by kernel_rfl
def Mc:List Int->List Int:=uq (uy TA NZ ZZ) Ma Wq
theorem aj0:wX prog gG ⟨71,Ma,Mc⟩:=Kc LW Ke 3000 (by kernel_rfl) aye (by kernel_rfl)
def TB:List uL:=⟨111,LX,acu⟩::⟨70,LY,acw⟩::⟨109,LZ,acy⟩::⟨102,L6,acA⟩::⟨114,L8,acC⟩::⟨116,L9,acE⟩::⟨71,Ma,Mc⟩::TA
theorem aj1:∀ e∈TB,wX prog gG e:=List.forall_mem_cons.2 ⟨ajU,List.forall_mem_cons.2 ⟨ajV,List.forall_mem_cons.2 ⟨ajW,List.forall_mem_cons.2 ⟨ajX,List.forall_mem_cons.2 ⟨ajY,List.forall_mem_cons.2 ⟨ajZ,List.forall_mem_cons.2 ⟨aj0,ajS⟩⟩⟩⟩⟩⟩⟩
theorem ayf:uy TA NZ ZZ 8=Dy:=vo (e:=⟨8,_,Dy⟩) rfl rfl rfl
theorem ayg:wW (uI TB NZ ZZ) eE:=EW aj1 ajT Wp (by kernel_rfl)
def FM:Ct:=⟨[.agg [kB,kB,kB,kB,kB,kU,kU,kU,kU,kU,kU]],[.agg [kI,kU,kU,kB]]⟩
def Qm:tL SV :=
 (.ite ol (.ite kR sD (.ite sF sD (.ite sG sD (.ite sH sD (.call 71 sI 11 1 (.ite lu (.call 71 sJ 12 1 (.ite ky (.ite sK sD (.call 46 sN 13 3 sO)) sD)) sD)))))) (.ite om (.ite kR sD (.ite sF sD (.ite sG sD (.ite sH sD (.call 71 sI 11 1 (.ite lu (.call 71 sJ 12 1 (.ite ky (.ite sK sD (.call 19 sN 13 3 sO)) sD)) sD)))))) (.ite oo (.ite kR sD (.ite sF sD (.ite sG sD (.ite sH sD (.call 71 sI 11 1 (.ite lu (.call 71 sJ 12 1 (.ite ky (.ite sK sD (.call 92 sN 13 3 sO)) sD)) sD)))))) (.ite (.bin .eql .u8 dI di) (.ite kR sD (.ite sF sD (.ite sG sD (.ite sH sD (.call 71 sI 11 1 (.ite lu (.call 71 sJ 12 1 (.ite ky (.ite sK sD (.call 94 sN 13 3 sO)) sD)) sD)))))) (.ite (.bin .eql .u8 dI (.lit 5)) (.ite kR sD (.ite sF sD (.ite sG sD (.ite sH sD (.call 71 sI 11 1 (.ite lu (.ite sP (.ite sK sD (.call 96 [dQ,jA,sM,eD,aC] 12 3 sS)) sD) sD)))))) (.ite (.bin .eql .u8 dI aS) (.ite kR sD (.ite sF sD (.ite sG sD (.ite sH sD (.call 71 sI 11 1 (.ite lu (.call 71 sJ 12 1 (.ite ky (.call 71 [dQ,eT,eU] 13 1 (.ite (.not lw) sD (.call 98 [dQ,jA,sM,eD,aC,eH,eQ,eT,eU] 14 3 (.leaf (.agg [dH,il,iq,(.int .u8 (.var kB 16))]))))) sD)) sD)))))) (.ite (.bin .eql .u8 dI (.lit 7)) (.ite kR sD (.ite sF sD (.ite sG sD (.ite sH sD (.call 71 sI 11 1 (.ite lu (.call 71 sJ 12 1 (.ite ky (.ite sK sD (.call 100 sU 13 3 sO)) sD)) sD)))))) (.ite (.bin .eql .u8 dI (.lit 8)) (.ite kR sD (.ite sF sD (.ite sG sD (.ite sH sD (.call 71 sI 11 1 (.ite lu (.ite sP (.ite sK sD (.call 102 [dQ,jA,ag,eD,aC] 12 3 sS)) sD) sD)))))) (.ite (.bin .eql .u8 dI (.lit 9)) (.ite kR sD (.ite sF sD (.ite sG sD (.ite sH sD (.call 71 sI 11 1 (.ite lu (.ite sP (.ite sK sD (.call 102 [dQ,jA,ak,eD,aC] 12 3 sS)) sD) sD)))))) (.ite (.bin .eql .u8 dI (.lit 10)) (.ite kR sD (.ite sF sD (.ite sG sD (.ite sV sD (.call 71 sI 11 1 (.ite lu (.ite sP (.ite sK sD (.call 106 [dQ,kX,jA,sM,eD,aC] 12 3 sS)) sD) sD)))))) (.ite (.bin .eql .u8 dI (.lit 11)) (.ite kR sD (.ite sF sD (.ite sG sD (.ite sV sD (.call 71 sI 11 1 (.ite lu (.ite sP (.ite sK sD (.call 109 [dQ,kX,jA,eD,aC] 12 2 (.leaf (.agg [dH,aO,fZ,(.int .u8 ja)])))) sD) sD)))))) (.ite (.bin .eql .u8 dI (.lit 12)) (.ite kR sD (.ite sF sD (.ite sG sD (.ite sV sD (.ite (.bin .eql .u64 eD ag) (.call 70 [kX,aC] 11 1 (.ite lu (.ite sP (.ite sK sD (.call 111 [kX,dQ,jA,sM,aC] 12 3 sS)) sD) sD)) sD))))) (.ite (.bin .eql .u8 dI (.lit 13)) (.ite kR sD (.ite sF sD (.ite sG sD (.ite sH sD (.call 71 sI 11 1 (.ite lu (.call 71 sJ 12 1 (.ite ky (.ite sK sD (.call 114 sU 13 2 sW)) sD)) sD)))))) (.ite (.bin .eql .u8 dI (.lit 14)) (.ite kR sD (.ite sF sD (.ite sG sD (.ite sH sD (.call 71 sI 11 1 (.ite lu (.call 71 sJ 12 1 (.ite ky (.ite sK sD (.call 116 sU 13 2 sW)) sD)) sD)))))) sD))))))))))))))
theorem ayh:FN (uI TB NZ ZZ) mE 3000 12 (uF FM.a (uC 0 (tO FM.a))) (tO FM.a).length=Qm:=by kernel_rfl
def vg:List Int->List Int:=uq (uy TB NZ ZZ) FM Qm
theorem acF:wX prog gG ⟨12,FM,vg⟩:=Kc ayg Ke 3000 (by kernel_rfl) ayh (by kernel_rfl)
def TC:List uL:=⟨12,FM,vg⟩::TB
theorem ayi:∀ e∈TC,wX prog gG e:=List.forall_mem_cons.2 ⟨acF,aj1⟩
theorem aj2:uy TB NZ ZZ 71=Mc:=vo (e:=⟨71,_,Mc⟩) rfl rfl rfl
theorem ayj:uy TB NZ ZZ 100=Qp:=vo (e:=⟨100,_,Qp⟩) rfl rfl rfl
theorem aj3:∀ e∈TA,uz prog gG e:=List.forall_mem_cons.2 ⟨akb,List.forall_mem_cons.2 ⟨akk,List.forall_mem_cons.2 ⟨ai9,aiO⟩⟩⟩
theorem aj4:∀ e∈NZ,Rs prog gG e:=λe he=>by cases he
theorem aj5:∀ e∈ZZ,F8 prog gG e:=Gu
theorem Md:zx (uI TA NZ ZZ) eE:=EX aj3 aj4 aj5 (by kernel_rfl)
theorem J9 {L M:List uL} {S:List wY} (hC:zx (uI L M S) eE) {g:FuncId} {ct:Ct} {t:tL SV} (h:wX prog gG ⟨g,ct,uq (uy L M S) ct t⟩) (hs:CB (KP (uI L M S)) ct (tO ct.a).length t=true):uz prog gG ⟨g,ct,uq (uy L M S) ct t⟩ :=
 h.tot λl hl=>Uu (Jh hC (by rw[hl];exact hs))
theorem ayk:uz prog gG ⟨111,LX,acu⟩:=J9 (t:=acs) Md ajU (by kernel_rfl)
theorem ayl:uz prog gG ⟨70,LY,acw⟩:=J9 (t:=acv) Md ajV (by kernel_rfl)
theorem aym:uz prog gG ⟨109,LZ,acy⟩:=J9 (t:=acx) Md ajW (by kernel_rfl)
theorem ayn:uz prog gG ⟨102,L6,acA⟩:=J9 (t:=acz) Md ajX (by kernel_rfl)
theorem ayo:uz prog gG ⟨114,L8,acC⟩:=J9 (t:=acB) Md ajY (by kernel_rfl)
theorem ayp:uz prog gG ⟨116,L9,acE⟩:=J9 (t:=acD) Md ajZ (by kernel_rfl)
theorem ayq:uz prog gG ⟨71,Ma,Mc⟩:=J9 (t:=Wq) Md aj0 (by kernel_rfl)
theorem ayr:∀ e∈TB,uz prog gG e:=List.forall_mem_cons.2 ⟨ayk,List.forall_mem_cons.2 ⟨ayl,List.forall_mem_cons.2 ⟨aym,List.forall_mem_cons.2 ⟨ayn,List.forall_mem_cons.2 ⟨ayo,List.forall_mem_cons.2 ⟨ayp,List.forall_mem_cons.2 ⟨ayq,aj3⟩⟩⟩⟩⟩⟩⟩
theorem aj6:zx (uI TB NZ ZZ) eE:=EX ayr aj4 aj5 (by kernel_rfl)
theorem ays:uz prog gG ⟨12,FM,vg⟩:=J9 (t:=Qm) aj6 acF (by kernel_rfl)
theorem ayt (l:List Int) (h:l.length=11):(vg l).length=4:=(ays l h).1
def acG:List X->List X->Bool
 | [],[]=>true
 | x::xs,y::ys=>vT (yP x y) (acG xs ys)
 | _,_=>false
theorem aj7:∀ {a b:List X},acG a b=true->a=b
 | [],[],_=>rfl
 | x::xs,y::ys,h=>by have h:=vw h;rw[zQ h.1,aj7 h.2]
 | [],_::_,h=>by cases h
 | _::_,[],h=>by cases h
def Qn (ct:Ct) (p:List X->Bool):tL SV->Bool
 | .leaf a=>match Cy ct.r (ES ct.r a) with|some xs=>p xs|none=>false
 | .ite _ a b=>vT (Qn ct p a) (Qn ct p b)
 | .call _ _ _ _ t=>Qn ct p t
 | .stuck _=>true
theorem Ws {Φ:wH} {ct:Ct} {p:List X->Bool} : ∀ {t:tL SV} {l:List Int} {a:SV} {l':List Int},Qn ct p t=true->yx Φ t l=some (a,l')->∃ xs,Cy ct.r (ES ct.r a)=some xs/\p xs=true
 | .leaf a,l,a',l',h,he=>by
  cases he;simp only[Qn] at h;split at h
  ·rename_i xs hx;exact⟨xs,hx,h⟩
  ·cases h
 | .ite c a b,l,a',l',h,he=>by
  have h:=vw h;simp only[yx] at he;split at he
  ·exact Ws h.1 he
  ·exact Ws h.2 he
 | .call f args m n t,l,a',l',h,he=>by
  simp only[yx,El] at he;split at he
  ·exact Ws (t:=t) h he
  ·cases he
 | .stuck _,l,a',l',h,he=>by cases he
def hd0:List X->Bool
 | .lit n::_=>xV n 0
 | _=>false
def aj8 (xs:List X):Bool:=match hd0 xs with|true=>true|false=>acG xs [.lit 1,.lit 0,.lit 0,.lit 0]
theorem ayu:Qn FM aj8 Qm=true:=by kernel_rfl
theorem ayv (l:List Int) (h:l.length=11):(True/\∃ r,vg l=0::r)\/(True/\vg l = [1,0,0,0]):=by
 obtain⟨b,m,ys,h1,h2⟩:okF (uy TB NZ ZZ) FM Qm l:=Jh aj6 (by rw[h];kernel_rfl);obtain⟨xs,h6,h7⟩:=Ws ayu h1;unfold vg uq;simp only[h1,h6,El];unfold aj8 at h7;split at h7
 ·rename_i hh;left
  match xs,hh with
  | .lit n::r,h8=>exact⟨trivial,r.map (X.den (ul m)),by rw[MW h8];rfl⟩
 ·right;rw[aj7 h7];exact⟨trivial,rfl⟩
end Go.Proofs.YtippohicjhilnaaGreatDoor
