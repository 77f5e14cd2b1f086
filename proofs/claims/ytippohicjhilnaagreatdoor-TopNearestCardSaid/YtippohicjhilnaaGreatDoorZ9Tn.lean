import Derived.Test.YtippohicjhilnaaGreatDoorWBTn
import Derived.Test.YtippohicjhilnaaGreatDoorWETn
import Derived.Test.YtippohicjhilnaaGreatDoorZ2Tn
import Derived.Test.YtippohicjhilnaaGreatDoorZNTn
set_option linter.unusedSimpArgs false
set_option linter.unusedVariables false
set_option maxRecDepth 100000
open Go.Proofs.Tryz
namespace Go.Proofs.YtippohicjhilnaaGreatDoor
open Go.RowKit
def TA:List wY:=⟨94,SB,ami⟩::⟨100,Kk,amv⟩::⟨96,Sk,ale⟩::E34
theorem al1:∀ e∈TA,yT prog gG e:=List.forall_mem_cons.2 ⟨amj.c,List.forall_mem_cons.2 ⟨amw.c,List.forall_mem_cons.2 ⟨alf.c,λe he=>(akU e he).c⟩⟩⟩
def NZ:List wY:=[]
theorem al2:∀ e∈NZ,yM prog gG e:=λe he=>by cases he
def ZZ:List yU:=S1
theorem Yx:∀ e∈ZZ,WH prog gG e:=λe he=>(IU e he).c
theorem N9:yS (wR TA NZ ZZ) eE:=GY al1 al2 Yx (by kernel_rfl)
def Oa:Ct:=⟨[.sc kB,.sc kB,.agg [kB,.bool],.sc kU],[.agg [kU,kU,kB]]⟩
def aeC:vU SV :=
 (.ite dH jw (.ite kX jw (.ite lq jw (.ite oH (.ite rf (.call 134 [dM,ll,jh,rf,iH,(.bin .sub .u64 ae q9),ae,ae,ae] 5 3 ry) (.call 134 [dM,ll,jh,rf,iH,q9,ae,ae,ae] 5 3 ry)) (.ite oI (.call 134 [dM,ll,jh,ae,iH,(.conv .u64 (.conv .u32 aC)),ae,ae,ae] 5 3 ry) (.ite oJ (.ite rD (.call 134 [dM,ll,jh,rD,iH,(.bin .sub .u64 ae aC),ae,ae,ae] 5 3 ry) (.call 134 [dM,ll,jh,rD,iH,aC,ae,ae,ae] 5 3 ry)) (.call 134 [dM,ll,jh,ae,iH,aC,ae,ae,ae] 5 3 ry)))))))
theorem aAb:H9 (wR TA NZ ZZ) mE 3000 111 (wN Oa.a (wM 0 (vV Oa.a))) (vV Oa.a).length=aeC:=by kernel_rfl
def aeD:List Int->List Int:=wE (wH TA NZ ZZ) Oa aeC
theorem al3:yT prog gG ⟨111,Oa,aeD⟩:=Mm N9 Mo 3000 (by kernel_rfl) aAb (by kernel_rfl)
def Ob:Ct:=⟨[.sc kB,.sc kU],[.sc .bool]⟩
def aeE:vU SV :=
 (.ite oH (.leaf (.bool (.bin .eql .u64 (.conv .u64 (.conv .i64 (.conv .i32 ag))) ag))) (.ite oI (.leaf (.bool (.bin .eql .u64 (.conv .u64 (.conv .u32 ag)) ag))) (.ite oJ rE (.ite oK rE av))))
theorem aAc:H9 (wR TA NZ ZZ) mE 3000 70 (wN Ob.a (wM 0 (vV Ob.a))) (vV Ob.a).length=aeE:=by kernel_rfl
def aeF:List Int->List Int:=wE (wH TA NZ ZZ) Ob aeE
theorem al4:yT prog gG ⟨70,Ob,aeF⟩:=Mm N9 Mo 3000 (by kernel_rfl) aAc (by kernel_rfl)
def Oc:Ct:=⟨[.sc kB,.sc kB,.sc kB,.agg [kU,kU]],[.agg [kU,kB]]⟩
def aeG:vU SV :=
 (.ite dH rG (.ite kX rG (.ite lq rG (.call 76 jC 5 5 (.ite (.bin .geq .u8 dO cO) (.leaf (.agg [aL,jk])) (.ite iK (.call 147 qQ 10 4 (.ite dS rQ (.ite rR rQ (.ite rT (.call 188 rU 14 4 (.call 184 rV 18 3 (.call 156 [fq,fu,ae,rO] 21 1 (.ite rX rQ (.ite jI (.leaf (.agg [rY,kv])) (.leaf (.agg [rY,iF]))))))) (.call 184 rZ 14 3 (.call 156 [fA,fw,ae,rO] 17 1 (.ite r9 rQ (.ite lW (.leaf (.agg [si,kv])) (.leaf (.agg [si,iF])))))))))) (.call 147 qQ 10 4 (.ite dS su (.ite rR su (.ite rT (.call 188 rU 14 4 (.call 184 rV 18 3 (.call 156 [fq,fu,ae,sj] 21 1 (.ite rX su (.ite jI (.leaf (.agg [gZ,kv])) (.leaf (.agg [gZ,iF]))))))) (.call 184 rZ 14 3 (.call 156 [fA,fw,ae,sj] 17 1 (.ite r9 su (.ite lW (.leaf (.agg [il,kv])) (.leaf (.agg [il,iF]))))))))))))))))
theorem aAd:H9 (wR TA NZ ZZ) mE 3000 109 (wN Oc.a (wM 0 (vV Oc.a))) (vV Oc.a).length=aeG:=by kernel_rfl
def aeH:List Int->List Int:=wE (wH TA NZ ZZ) Oc aeG
theorem al5:yT prog gG ⟨109,Oc,aeH⟩:=Mm N9 Mo 3000 (by kernel_rfl) aAd (by kernel_rfl)
def Od:Ct:=⟨[.sc kB,.sc kB,.sc .bool,.agg [kU,kU]],[.agg [kU,kU,kB]]⟩
def aeI:vU SV :=
 (.ite dH jw (.ite jA jw (.call 1000077 qZ 5 4 (.ite lL ry (.call 76 jC 9 5 (.ite (.bin .eql .u8 (.var kB 10) ae) (.call 8 jC 14 2 qP) (.ite nE (.call 8 jC 14 2 qP) (.call 50 dU 14 1 (.ite (.bin .geq .i64 mF (.bin .sub .i64 jL ai)) (.call 8 jC 15 2 lw) (.call 147 nV 15 4 (.ite (.bin .lss .i64 mF ae) (.call 188 [fw,eZ,fe,fq,(.bin .sub .i64 (.bin .sub .i64 ae mF) ai)] 19 4 (.call 184 [fu,ib,fB,fF,ae,dM,iy] 23 3 (.call 152 [fH,fJ] 26 4 (.call 134 [dF,cO,ae,iy,iH,jV,jW,mR,jY] 30 3 (.ite (.bin .neq .u8 (.var kB 32) ae) (.ite kP sw jw) (.ite kP (.ite dL (.leaf (.agg [j5,nP,kv])) sD) sD)))))) (.call 184 [fw,eZ,fe,fq,(.bin .add .i64 mF ai),dM,iy] 19 3 (.call 152 [fu,ib] 22 4 (.call 134 [dF,cO,ae,iy,iH,fF,fH,fJ,jT] 26 3 (.ite qB (.ite jO sw jw) (.ite jO (.ite dL (.leaf (.agg [kV,(.int .u64 jW),kv])) qC) qC))))))))))))))))
theorem aAe:H9 (wR TA NZ ZZ) mE 3000 102 (wN Od.a (wM 0 (vV Od.a))) (vV Od.a).length=aeI:=by kernel_rfl
def aeJ:List Int->List Int:=wE (wH TA NZ ZZ) Od aeI
theorem al6:yT prog gG ⟨102,Od,aeJ⟩:=Mm N9 Mo 3000 (by kernel_rfl) aAe (by kernel_rfl)
def Oe:Ct:=⟨[.sc kB,.agg [kU,kU],.agg [kU,kU]],[.sc kB,.sc kB]⟩
def aeK:vU SV :=
 (.ite dH sF (.call 14 iX 5 1 (.ite iK (.call 126 iX 6 1 (.ite ja sG (.call 126 jC 7 1 sH))) (.call 14 jC 6 1 (.ite ja (.call 126 iX 7 1 (.ite gz sG (.call 126 jC 8 1 sI))) sO)))))
theorem aAf:H9 (wR TA NZ ZZ) mE 3000 114 (wN Oe.a (wM 0 (vV Oe.a))) (vV Oe.a).length=aeK:=by kernel_rfl
def aeL:List Int->List Int:=wE (wH TA NZ ZZ) Oe aeK
theorem al7:yT prog gG ⟨114,Oe,aeL⟩:=Mm N9 Mo 3000 (by kernel_rfl) aAf (by kernel_rfl)
def Og:Ct:=⟨[.sc kB,.agg [kU,kU],.agg [kU,kU]],[.sc kB,.sc kB]⟩
def aeM:vU SV :=
 (.ite dH sF (.call 14 iX 5 1 (.ite iK (.call 14 iX 6 1 (.ite ja sG (.call 14 jC 7 1 sH))) (.call 14 jC 6 1 (.ite ja (.call 14 iX 7 1 (.ite gz sG (.call 14 jC 8 1 sI))) sO)))))
theorem aAg:H9 (wR TA NZ ZZ) mE 3000 116 (wN Og.a (wM 0 (vV Og.a))) (vV Og.a).length=aeM:=by kernel_rfl
def aeN:List Int->List Int:=wE (wH TA NZ ZZ) Og aeM
theorem al8:yT prog gG ⟨116,Og,aeN⟩:=Mm N9 Mo 3000 (by kernel_rfl) aAg (by kernel_rfl)
def Oh:Ct:=⟨[.sc kB,.agg [kU,kU]],[.sc .bool]⟩
def Yy:vU SV :=
 (.ite dG (.call 8 iX 3 2 (.leaf (.bool (.and (.bin .eql .u64 ay ag) (.and (.bin .eql .u64 aC az) ai))))) av)
theorem aAh:H9 (wR TA NZ ZZ) mE 3000 71 (wN Oh.a (wM 0 (vV Oh.a))) (vV Oh.a).length=Yy:=by kernel_rfl
def Oi:List Int->List Int:=wE (wH TA NZ ZZ) Oh Yy
theorem al9:yT prog gG ⟨71,Oh,Oi⟩:=Mm N9 Mo 3000 (by kernel_rfl) aAh (by kernel_rfl)
def TB:List wY:=⟨111,Oa,aeD⟩::⟨70,Ob,aeF⟩::⟨109,Oc,aeH⟩::⟨102,Od,aeJ⟩::⟨114,Oe,aeL⟩::⟨116,Og,aeN⟩::⟨71,Oh,Oi⟩::TA
theorem ama:∀ e∈TB,yT prog gG e:=List.forall_mem_cons.2 ⟨al3,List.forall_mem_cons.2 ⟨al4,List.forall_mem_cons.2 ⟨al5,List.forall_mem_cons.2 ⟨al6,List.forall_mem_cons.2 ⟨al7,List.forall_mem_cons.2 ⟨al8,List.forall_mem_cons.2 ⟨al9,al1⟩⟩⟩⟩⟩⟩⟩
theorem aAi:wH TA NZ ZZ 8=Dp:=xZ (e:=⟨8,_,Dp⟩) rfl rfl rfl
theorem aAj:yS (wR TB NZ ZZ) eE:=GY ama al2 Yx (by kernel_rfl)
def H8:Ct:=⟨[.agg [kB,kB,kB,kB,kB,kU,kU,kU,kU,kU,kU]],[.agg [kI,kU,kU,kB]]⟩
def Mj:vU SV :=
 (.ite oI (.ite kX sQ (.ite sS sQ (.ite sU sQ (.ite sV sQ (.call 71 sW 11 1 (.ite lH (.call 71 sZ 12 1 (.ite kG (.ite tq sQ (.call 46 tC 13 3 tH)) sQ)) sQ)))))) (.ite oJ (.ite kX sQ (.ite sS sQ (.ite sU sQ (.ite sV sQ (.call 71 sW 11 1 (.ite lH (.call 71 sZ 12 1 (.ite kG (.ite tq sQ (.call 19 tC 13 3 tH)) sQ)) sQ)))))) (.ite oK (.ite kX sQ (.ite sS sQ (.ite sU sQ (.ite sV sQ (.call 71 sW 11 1 (.ite lH (.call 71 sZ 12 1 (.ite kG (.ite tq sQ (.call 92 tC 13 3 tH)) sQ)) sQ)))))) (.ite (.bin .eql .u8 dF cO) (.ite kX sQ (.ite sS sQ (.ite sU sQ (.ite sV sQ (.call 71 sW 11 1 (.ite lH (.call 71 sZ 12 1 (.ite kG (.ite tq sQ (.call 94 tC 13 3 tH)) sQ)) sQ)))))) (.ite (.bin .eql .u8 dF (.lit 5)) (.ite kX sQ (.ite sS sQ (.ite sU sQ (.ite sV sQ (.call 71 sW 11 1 (.ite lH (.ite tJ (.ite tq sQ (.call 96 [dM,jD,tu,dZ,aA] 12 3 tL)) sQ) sQ)))))) (.ite (.bin .eql .u8 dF aQ) (.ite kX sQ (.ite sS sQ (.ite sU sQ (.ite sV sQ (.call 71 sW 11 1 (.ite lH (.call 71 sZ 12 1 (.ite kG (.call 71 tN 13 1 (.ite (.not lJ) sQ (.call 98 [dM,jD,tu,dZ,aA,eF,eH,eO,eQ] 14 3 (.leaf (.agg [dE,ik,il,(.int .u8 (.var kB 16))]))))) sQ)) sQ)))))) (.ite (.bin .eql .u8 dF (.lit 7)) (.ite kX sQ (.ite sS sQ (.ite sU sQ (.ite sV sQ (.call 71 sW 11 1 (.ite lH (.call 71 sZ 12 1 (.ite kG (.ite tq sQ (.call 100 tO 13 3 tH)) sQ)) sQ)))))) (.ite (.bin .eql .u8 dF (.lit 8)) (.ite kX sQ (.ite sS sQ (.ite sU sQ (.ite sV sQ (.call 71 sW 11 1 (.ite lH (.ite tJ (.ite tq sQ (.call 102 [dM,jD,ae,dZ,aA] 12 3 tL)) sQ) sQ)))))) (.ite (.bin .eql .u8 dF (.lit 9)) (.ite kX sQ (.ite sS sQ (.ite sU sQ (.ite sV sQ (.call 71 sW 11 1 (.ite lH (.ite tJ (.ite tq sQ (.call 102 [dM,jD,ai,dZ,aA] 12 3 tL)) sQ) sQ)))))) (.ite (.bin .eql .u8 dF (.lit 10)) (.ite kX sQ (.ite sS sQ (.ite sU sQ (.ite tQ sQ (.call 71 sW 11 1 (.ite lH (.ite tJ (.ite tq sQ (.call 106 [dM,ll,jD,tu,dZ,aA] 12 3 tL)) sQ) sQ)))))) (.ite (.bin .eql .u8 dF (.lit 11)) (.ite kX sQ (.ite sS sQ (.ite sU sQ (.ite tQ sQ (.call 71 sW 11 1 (.ite lH (.ite tJ (.ite tq sQ (.call 109 [dM,ll,jD,dZ,aA] 12 2 (.leaf (.agg [dE,aL,fV,(.int .u8 jd)])))) sQ) sQ)))))) (.ite (.bin .eql .u8 dF (.lit 12)) (.ite kX sQ (.ite sS sQ (.ite sU sQ (.ite tQ sQ (.ite (.bin .eql .u64 dZ ae) (.call 70 [ll,aA] 11 1 (.ite lH (.ite tJ (.ite tq sQ (.call 111 [ll,dM,jD,tu,aA] 12 3 tL)) sQ) sQ)) sQ))))) (.ite (.bin .eql .u8 dF (.lit 13)) (.ite kX sQ (.ite sS sQ (.ite sU sQ (.ite sV sQ (.call 71 sW 11 1 (.ite lH (.call 71 sZ 12 1 (.ite kG (.ite tq sQ (.call 114 tO 13 2 tV)) sQ)) sQ)))))) (.ite (.bin .eql .u8 dF (.lit 14)) (.ite kX sQ (.ite sS sQ (.ite sU sQ (.ite sV sQ (.call 71 sW 11 1 (.ite lH (.call 71 sZ 12 1 (.ite kG (.ite tq sQ (.call 116 tO 13 2 tV)) sQ)) sQ)))))) sQ))))))))))))))
theorem aAk:H9 (wR TB NZ ZZ) mE 3000 12 (wN H8.a (wM 0 (vV H8.a))) (vV H8.a).length=Mj:=by kernel_rfl
def xw:List Int->List Int:=wE (wH TB NZ ZZ) H8 Mj
theorem aeO:yT prog gG ⟨12,H8,xw⟩:=Mm aAj Mo 3000 (by kernel_rfl) aAk (by kernel_rfl)
def TC:List wY:=⟨12,H8,xw⟩::TB
theorem aAl:∀ e∈TC,yT prog gG e:=List.forall_mem_cons.2 ⟨aeO,ama⟩
theorem Oj:wH TB NZ ZZ 71=Oi:=xZ (e:=⟨71,_,Oi⟩) rfl rfl rfl
theorem aAm:wH TB NZ ZZ 46=NR:=xZ (e:=⟨46,_,NR⟩) rfl rfl rfl
theorem aAn:wH TB NZ ZZ 92=NL:=xZ (e:=⟨92,_,NL⟩) rfl rfl rfl
theorem aAo:wH TB NZ ZZ 98=Sb:=xZ (e:=⟨98,_,Sb⟩) rfl rfl rfl
theorem amb:∀ e∈TA,wK prog gG e:=List.forall_mem_cons.2 ⟨amj,List.forall_mem_cons.2 ⟨amw,List.forall_mem_cons.2 ⟨alf,akU⟩⟩⟩
theorem amc:∀ e∈NZ,Uh prog gG e:=λe he=>by cases he
theorem amd:∀ e∈ZZ,Iq prog gG e:=IU
theorem Ol:Br (wR TA NZ ZZ) eE:=GZ amb amc amd (by kernel_rfl)
theorem Mk {L M:List wY} {S:List yU} (hC:Br (wR L M S) eE) {g:FuncId} {ct:Ct} {t:vU SV} (h:yT prog gG ⟨g,ct,wE (wH L M S) ct t⟩) (hs:Et (M4 (wR L M S)) ct (vV ct.a).length t=true):wK prog gG ⟨g,ct,wE (wH L M S) ct t⟩ :=
 h.tot λl hl=>Wz (KW hC (by rw[hl];exact hs))
theorem aAp:wK prog gG ⟨111,Oa,aeD⟩:=Mk (t:=aeC) Ol al3 (by kernel_rfl)
theorem aAq:wK prog gG ⟨70,Ob,aeF⟩:=Mk (t:=aeE) Ol al4 (by kernel_rfl)
theorem aAr:wK prog gG ⟨109,Oc,aeH⟩:=Mk (t:=aeG) Ol al5 (by kernel_rfl)
theorem aAs:wK prog gG ⟨102,Od,aeJ⟩:=Mk (t:=aeI) Ol al6 (by kernel_rfl)
theorem aAt:wK prog gG ⟨114,Oe,aeL⟩:=Mk (t:=aeK) Ol al7 (by kernel_rfl)
theorem aAu:wK prog gG ⟨116,Og,aeN⟩:=Mk (t:=aeM) Ol al8 (by kernel_rfl)
theorem aAv:wK prog gG ⟨71,Oh,Oi⟩:=Mk (t:=Yy) Ol al9 (by kernel_rfl)
theorem aAw:∀ e∈TB,wK prog gG e:=List.forall_mem_cons.2 ⟨aAp,List.forall_mem_cons.2 ⟨aAq,List.forall_mem_cons.2 ⟨aAr,List.forall_mem_cons.2 ⟨aAs,List.forall_mem_cons.2 ⟨aAt,List.forall_mem_cons.2 ⟨aAu,List.forall_mem_cons.2 ⟨aAv,amb⟩⟩⟩⟩⟩⟩⟩
theorem ame:Br (wR TB NZ ZZ) eE:=GZ aAw amc amd (by kernel_rfl)
theorem aAx:wK prog gG ⟨12,H8,xw⟩:=Mk (t:=Mj) ame aeO (by kernel_rfl)
theorem aAy (l:List Int) (h:l.length=11):(xw l).length=4:=(aAx l h).1
def aeP:List X->List X->Bool
 | [],[]=>true
 | x::xs,y::ys=>xY (AJ x y) (aeP xs ys)
 | _,_=>false
theorem amf:∀ {a b:List X},aeP a b=true->a=b
 | [],[],_=>rfl
 | x::xs,y::ys,h=>by have h:=xH h;rw[BK h.1,amf h.2]
 | [],_::_,h=>by cases h
 | _::_,[],h=>by cases h
def SA (ct:Ct) (p:List X->Bool):vU SV->Bool
 | .leaf a=>match Er ct.r (GU ct.r a) with|some xs=>p xs|none=>false
 | .ite _ a b=>xY (SA ct p a) (SA ct p b)
 | .call _ _ _ _ t=>SA ct p t
 | .stuck _=>true
theorem Yz {Φ:yE} {ct:Ct} {p:List X->Bool} : ∀ {t:vU SV} {l:List Int} {a:SV} {l':List Int},SA ct p t=true->Ag Φ t l=some (a,l')->∃ xs,Er ct.r (GU ct.r a)=some xs/\p xs=true
 | .leaf a,l,a',l',h,he=>by
  cases he;simp only[SA] at h;split at h
  ·rename_i xs hx;exact⟨xs,hx,h⟩
  ·cases h
 | .ite c a b,l,a',l',h,he=>by
  have h:=xH h;simp only[Ag] at he;split at he
  ·exact Yz h.1 he
  ·exact Yz h.2 he
 | .call f args m n t,l,a',l',h,he=>by
  simp only[Ag,F3] at he;split at he
  ·exact Yz (t:=t) h he
  ·cases he
 | .stuck _,l,a',l',h,he=>by cases he
def hd0:List X->Bool
 | .lit n::_=>zQ n 0
 | _=>false
def amg (xs:List X):Bool:=match hd0 xs with|true=>true|false=>aeP xs [.lit 1,.lit 0,.lit 0,.lit 0]
theorem aAz:SA H8 amg Mj=true:=by kernel_rfl
theorem aAA (l:List Int) (h:l.length=11):(True/\∃ r,xw l=0::r)\/(True/\xw l = [1,0,0,0]):=by
 obtain⟨b,m,ys,h1,h2⟩:okF (wH TB NZ ZZ) H8 Mj l:=KW ame (by rw[h];kernel_rfl);obtain⟨xs,h6,h7⟩:=Yz aAz h1;unfold xw wE;simp only[h1,h6,F3];unfold amg at h7;split at h7
 ·rename_i hh;left
  match xs,hh with
  | .lit n::r,h8=>exact⟨trivial,r.map (X.den (wC m)),by rw[O7 h8];rfl⟩
 ·right;rw[amf h7];exact⟨trivial,rfl⟩
end Go.Proofs.YtippohicjhilnaaGreatDoor
