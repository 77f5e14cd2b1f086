import Derived.Test.YtbembkamcdlhbaaGreatDoorTB0Sc
set_option linter.unusedSimpArgs false
set_option linter.unusedVariables false
set_option maxRecDepth 100000
namespace Go.Proofs.YtbembkamcdlhbaaGreatDoor
open Go.RowKit
theorem FR:wR (sj TA NZ ZZ) eE:=RA abQ abR abS (by kernel_rfl)
def FU:Ct:=⟨[.sc kB,.sc kB,.agg [kB,.bool],.sc kU],[.agg [kU,kU,kB]]⟩
def Ti:rf SV :=
 (.ite dG iQ (.ite jX iQ (.ite j6 iQ (.ite (.bin .eql .u8 dE ae) (.ite oN (.call 204 [dJ,j5,iK,oN,gW,(.bin .sub .u64 ae oM),ae,ae,ae] 5 3 oO) (.call 204 [dJ,j5,iK,oN,gW,oM,ae,ae,ae] 5 3 oO)) (.ite oP (.call 204 [dJ,j5,iK,ae,gW,(.conv .u64 (.conv .u32 aC)),ae,ae,ae] 5 3 oO) (.ite oQ (.ite oU (.call 204 [dJ,j5,iK,oU,gW,(.bin .sub .u64 ae aC),ae,ae,ae] 5 3 oO) (.call 204 [dJ,j5,iK,oU,gW,aC,ae,ae,ae] 5 3 oO)) (.call 204 [dJ,j5,iK,ae,gW,aC,ae,ae,ae] 5 3 oO)))))))
theorem akW:AY (sj TA NZ ZZ) mE 3000 181 (rM FU.a (rJ 0 (rq FU.a))) (rq FU.a).length=Ti:=by kernel_rfl
def Tj:List Int→List Int:=rG (ug TA NZ ZZ) FU Ti
theorem aaM:yz Tryz.prog gG ⟨181,FU,Tj⟩:=Eh FR Em 3000 (by kernel_rfl) akW (by kernel_rfl)
def FV:Ct:=⟨[.sc kB,.sc kU],[.sc .bool]⟩
def Tk:rf SV :=
 (.ite (.bin .eql .u8 dE ae) (.leaf (.bool (.bin .eql .u64 (.conv .u64 (.conv .i64 (.conv .i32 ag))) ag))) (.ite oP (.leaf (.bool (.bin .eql .u64 (.conv .u64 (.conv .u32 ag)) ag))) (.ite oQ oV (.ite oZ oV av))))
theorem akX:AY (sj TA NZ ZZ) mE 3000 114 (rM FV.a (rJ 0 (rq FV.a))) (rq FV.a).length=Tk:=by kernel_rfl
def Tm:List Int→List Int:=rG (ug TA NZ ZZ) FV Tk
theorem aaN:yz Tryz.prog gG ⟨114,FV,Tm⟩:=Eh FR Em 3000 (by kernel_rfl) akX (by kernel_rfl)
def FW:Ct:=⟨[.sc kB,.sc kB,.sc kB,.agg [kU,kU]],[.agg [kU,kB]]⟩
def Tn:rf SV :=
 (.ite dG o9 (.ite jX o9 (.ite j6 o9 (.call 125 iU 5 5 (.ite (.bin .geq .u8 dK cz) (.leaf (.agg [aK,iM])) (.ite gZ (.call 225 oC 10 4 (.ite dP pE (.ite pF pE (.ite pG (.call 266 pI 14 4 (.call 262 pJ 18 3 (.call 234 [eH,eO,ae,pz] 21 1 (.ite pK pE (.ite ja (.leaf (.agg [pM,jE])) (.leaf (.agg [pM,gU]))))))) (.call 262 pO 14 3 (.call 234 [eQ,eP,ae,pz] 17 1 (.ite pQ pE (.ite kM (.leaf (.agg [pR,jE])) (.leaf (.agg [pR,gU])))))))))) (.call 225 oC 10 4 (.ite dP pV (.ite pF pV (.ite pG (.call 266 pI 14 4 (.call 262 pJ 18 3 (.call 234 [eH,eO,ae,pU] 21 1 (.ite pK pV (.ite ja (.leaf (.agg [gI,jE])) (.leaf (.agg [gI,gU]))))))) (.call 262 pO 14 3 (.call 234 [eQ,eP,ae,pU] 17 1 (.ite pQ pV (.ite kM (.leaf (.agg [gM,jE])) (.leaf (.agg [gM,gU]))))))))))))))))
theorem akY:AY (sj TA NZ ZZ) mE 3000 179 (rM FW.a (rJ 0 (rq FW.a))) (rq FW.a).length=Tn:=by kernel_rfl
def Tp:List Int→List Int:=rG (ug TA NZ ZZ) FW Tn
theorem aaO:yz Tryz.prog gG ⟨179,FW,Tp⟩:=Eh FR Em 3000 (by kernel_rfl) akY (by kernel_rfl)
def FX:Ct:=⟨[.sc kB,.sc kB,.sc .bool,.agg [kU,kU]],[.agg [kU,kU,kB]]⟩
def Tq:rf SV :=
 (.ite dG iQ (.ite iR iQ (.call 1000126 oK 5 4 (.ite kG oO (.call 125 iU 9 5 (.ite (.bin .eql .u8 (.var kB 10) ae) (.call 26 iU 14 2 oz) (.ite l7 (.call 26 iU 14 2 oz) (.call 81 dQ 14 1 (.ite (.bin .geq .i64 ll (.bin .sub .i64 jd ai)) (.call 26 iU 15 2 kv) (.call 225 mH 15 4 (.ite (.bin .lss .i64 ll ae) (.call 266 [eP,eF,eG,eH,(.bin .sub .i64 (.bin .sub .i64 ae ll) ai)] 19 4 (.call 262 [eO,gJ,eT,eX,ae,dJ,gQ] 23 3 (.call 230 [eZ,fq] 26 4 (.call 204 [dE,cz,ae,gQ,gW,jq,jr,lJ,jv] 30 3 (.ite (.bin .neq .u8 (.var kB 32) ae) (.ite jR pW iQ) (.ite jR (.ite dI (.leaf (.agg [jA,mo,jE])) pX) pX)))))) (.call 262 [eP,eF,eG,eH,(.bin .add .i64 ll ai),dJ,gQ] 19 3 (.call 230 [eO,gJ] 22 4 (.call 204 [dE,cz,ae,gQ,gW,eX,eZ,fq,jm] 26 3 (.ite nV (.ite jg pW iQ) (.ite jg (.ite dI (.leaf (.agg [jW,(.int .u64 jr),jE])) nX) nX))))))))))))))))
theorem akZ:AY (sj TA NZ ZZ) mE 3000 172 (rM FX.a (rJ 0 (rq FX.a))) (rq FX.a).length=Tq:=by kernel_rfl
def Tt:List Int→List Int:=rG (ug TA NZ ZZ) FX Tq
theorem aaP:yz Tryz.prog gG ⟨172,FX,Tt⟩:=Eh FR Em 3000 (by kernel_rfl) akZ (by kernel_rfl)
def FY:Ct:=⟨[.sc kB,.agg [kU,kU],.agg [kU,kU]],[.sc kB,.sc kB]⟩
def Tu:rf SV :=
 (.ite dG pY (.call 31 iB 5 1 (.ite gZ (.call 196 iB 6 1 (.ite iD qa (.call 196 iU 7 1 qc))) (.call 31 iU 6 1 (.ite iD (.call 196 iB 7 1 (.ite fM qa (.call 196 iU 8 1 qd))) qj)))))
theorem ak0:AY (sj TA NZ ZZ) mE 3000 184 (rM FY.a (rJ 0 (rq FY.a))) (rq FY.a).length=Tu:=by kernel_rfl
def Tv:List Int→List Int:=rG (ug TA NZ ZZ) FY Tu
theorem aaQ:yz Tryz.prog gG ⟨184,FY,Tv⟩:=Eh FR Em 3000 (by kernel_rfl) ak0 (by kernel_rfl)
def FZ:Ct:=⟨[.sc kB,.agg [kU,kU],.agg [kU,kU]],[.sc kB,.sc kB]⟩
def Tw:rf SV :=
 (.ite dG pY (.call 31 iB 5 1 (.ite gZ (.call 31 iB 6 1 (.ite iD qa (.call 31 iU 7 1 qc))) (.call 31 iU 6 1 (.ite iD (.call 31 iB 7 1 (.ite fM qa (.call 31 iU 8 1 qd))) qj)))))
theorem ak1:AY (sj TA NZ ZZ) mE 3000 186 (rM FZ.a (rJ 0 (rq FZ.a))) (rq FZ.a).length=Tw:=by kernel_rfl
def Tx:List Int→List Int:=rG (ug TA NZ ZZ) FZ Tw
theorem aaR:yz Tryz.prog gG ⟨186,FZ,Tx⟩:=Eh FR Em 3000 (by kernel_rfl) ak1 (by kernel_rfl)
def F3:Ct:=⟨[.sc kB,.agg [kU,kU]],[.sc .bool]⟩
def Ty:rf SV :=
 (.ite dF (.call 26 iB 3 2 (.leaf (.bool (.and (.bin .eql .u64 ay ag) (.and (.bin .eql .u64 aC az) ai))))) av)
theorem ak2:AY (sj TA NZ ZZ) mE 3000 115 (rM F3.a (rJ 0 (rq F3.a))) (rq F3.a).length=Ty:=by kernel_rfl
def Tz:List Int→List Int:=rG (ug TA NZ ZZ) F3 Ty
theorem aaS:yz Tryz.prog gG ⟨115,F3,Tz⟩:=Eh FR Em 3000 (by kernel_rfl) ak2 (by kernel_rfl)
def TB:List si:=⟨181,FU,Tj⟩::⟨114,FV,Tm⟩::⟨179,FW,Tp⟩::⟨172,FX,Tt⟩::⟨184,FY,Tv⟩::⟨186,FZ,Tx⟩::⟨115,F3,Tz⟩::TA
theorem ak3:∀ e∈TB,yz Tryz.prog gG e:=List.forall_mem_cons.2 ⟨aaM,List.forall_mem_cons.2 ⟨aaN,List.forall_mem_cons.2 ⟨aaO,List.forall_mem_cons.2 ⟨aaP,List.forall_mem_cons.2 ⟨aaQ,List.forall_mem_cons.2 ⟨aaR,List.forall_mem_cons.2 ⟨aaS,abQ⟩⟩⟩⟩⟩⟩⟩
open Go.RowKit
theorem ak4:wR (sj TB NZ ZZ) eE:=RA ak3 abR abS (by kernel_rfl)
def aaT:Ct:=⟨[.agg [kB,kB,kB,kB,kB,kU,kU,kU,kU,kU,kU]],[.sc kI]⟩
def aaU:rf SV :=
 (.ite oP qz (.ite oQ qz (.ite oZ qz (.ite (.bin .eql .u8 dE cz) qz (.ite qA qD (.ite (.bin .eql .u8 dE aO) (.ite jX kY (.ite ql kY (.ite qm kY (.ite qo kY (.call 115 qp 11 1 (.ite kz (.call 115 qx 12 1 (.ite jK (.call 115 [dJ,ed,ek] 13 1 (.ite (.not kF) kY (.leaf dD))) kY)) kY)))))) (.ite qE qz (.ite qF qD (.ite qG qD (.ite qH qJ (.ite qK qJ (.ite qL (.ite jX kY (.ite ql kY (.ite qm kY (.ite qI kY (.ite qM (.call 114 [j5,aA] 11 1 qC) kY))))) (.ite qN qz (.ite qO qz kY))))))))))))))
def TC:List Int→List Int:=rG (ug TB NZ ZZ) aaT aaU
def BJ:Ct:=⟨[.agg [kB,kB,kB,kB,kB,kU,kU,kU,kU,kU,kU]],[.agg [kI,kU,kU,kB]]⟩
def LH:rf SV :=
 (.ite oP (.ite jX qP (.ite ql qP (.ite qm qP (.ite qo qP (.call 115 qp 11 1 (.ite kz (.call 115 qx 12 1 (.ite jK (.ite qy qP (.call 77 qR 13 3 qU)) qP)) qP)))))) (.ite oQ (.ite jX qP (.ite ql qP (.ite qm qP (.ite qo qP (.call 115 qp 11 1 (.ite kz (.call 115 qx 12 1 (.ite jK (.ite qy qP (.call 36 qR 13 3 qU)) qP)) qP)))))) (.ite oZ (.ite jX qP (.ite ql qP (.ite qm qP (.ite qo qP (.call 115 qp 11 1 (.ite kz (.call 115 qx 12 1 (.ite jK (.ite qy qP (.call 162 qR 13 3 qU)) qP)) qP)))))) (.ite (.bin .eql .u8 dE cz) (.ite jX qP (.ite ql qP (.ite qm qP (.ite qo qP (.call 115 qp 11 1 (.ite kz (.call 115 qx 12 1 (.ite jK (.ite qy qP (.call 164 qR 13 3 qU)) qP)) qP)))))) (.ite qA (.ite jX qP (.ite ql qP (.ite qm qP (.ite qo qP (.call 115 qp 11 1 (.ite kz (.ite qB (.ite qy qP (.call 166 [dJ,iV,qQ,dU,aA] 12 3 qW)) qP) qP)))))) (.ite (.bin .eql .u8 dE aO) (.ite jX qP (.ite ql qP (.ite qm qP (.ite qo qP (.call 115 qp 11 1 (.ite kz (.call 115 qx 12 1 (.ite jK (.call 115 [dJ,ed,ek] 13 1 (.ite (.not kF) qP (.call 168 [dJ,iV,qQ,dU,aA,dX,dZ,ed,ek] 14 3 (.leaf (.agg [dD,gL,gM,(.int .u8 (.var kB 16))]))))) qP)) qP)))))) (.ite qE (.ite jX qP (.ite ql qP (.ite qm qP (.ite qo qP (.call 115 qp 11 1 (.ite kz (.call 115 qx 12 1 (.ite jK (.ite qy qP (.call 170 qX 13 3 qU)) qP)) qP)))))) (.ite qF (.ite jX qP (.ite ql qP (.ite qm qP (.ite qo qP (.call 115 qp 11 1 (.ite kz (.ite qB (.ite qy qP (.call 172 [dJ,iV,ae,dU,aA] 12 3 qW)) qP) qP)))))) (.ite qG (.ite jX qP (.ite ql qP (.ite qm qP (.ite qo qP (.call 115 qp 11 1 (.ite kz (.ite qB (.ite qy qP (.call 172 [dJ,iV,ai,dU,aA] 12 3 qW)) qP) qP)))))) (.ite qH (.ite jX qP (.ite ql qP (.ite qm qP (.ite qI qP (.call 115 qp 11 1 (.ite kz (.ite qB (.ite qy qP (.call 176 [dJ,j5,iV,qQ,dU,aA] 12 3 qW)) qP) qP)))))) (.ite qK (.ite jX qP (.ite ql qP (.ite qm qP (.ite qI qP (.call 115 qp 11 1 (.ite kz (.ite qB (.ite qy qP (.call 179 [dJ,j5,iV,dU,aA] 12 2 (.leaf (.agg [dD,aK,fF,(.int .u8 iG)])))) qP) qP)))))) (.ite qL (.ite jX qP (.ite ql qP (.ite qm qP (.ite qI qP (.ite qM (.call 114 [j5,aA] 11 1 (.ite kz (.ite qB (.ite qy qP (.call 181 [j5,dJ,iV,qQ,aA] 12 3 qW)) qP) qP)) qP))))) (.ite qN (.ite jX qP (.ite ql qP (.ite qm qP (.ite qo qP (.call 115 qp 11 1 (.ite kz (.call 115 qx 12 1 (.ite jK (.ite qy qP (.call 184 qX 13 2 qY)) qP)) qP)))))) (.ite qO (.ite jX qP (.ite ql qP (.ite qm qP (.ite qo qP (.call 115 qp 11 1 (.ite kz (.call 115 qx 12 1 (.ite jK (.ite qy qP (.call 186 qX 13 2 qY)) qP)) qP)))))) qP))))))))))))))
theorem ak5:AY (sj TB NZ ZZ) mE 3000 22 (rM BJ.a (rJ 0 (rq BJ.a))) (rq BJ.a).length=LH:=by kernel_rfl
def tY:List Int→List Int:=rG (ug TB NZ ZZ) BJ LH
theorem aaV:yz Tryz.prog gG ⟨22,BJ,tY⟩:=Eh ak4 Em 3000 (by kernel_rfl) ak5 (by kernel_rfl)
open Go.RowKit
theorem aaW:∀ e∈TA,rF Tryz.prog gG e:=List.forall_mem_cons.2 ⟨aa8,List.forall_mem_cons.2 ⟨abg,List.forall_mem_cons.2 ⟨abP,abL⟩⟩⟩
theorem aaX:∀ e∈NZ,KQ Tryz.prog gG e:=fun e he=>by cases he
theorem aaY:∀ e∈ZZ,Bv Tryz.prog gG e:=BM
theorem F4:vF (sj TA NZ ZZ) eE:=Az aaW aaX aaY (by kernel_rfl)
theorem Ee {L M:List si} {S:List ut} (hC:vF (sj L M S) eE) {g:FuncId} {ct:Ct} {t:rf SV} (h:yz Tryz.prog gG ⟨g,ct,rG (ug L M S) ct t⟩) (hs:zn (EX (sj L M S)) ct (rq ct.a).length t=true):rF Tryz.prog gG ⟨g,ct,rG (ug L M S) ct t⟩ :=
 h.tot fun l hl=>Nh (DC hC (by rw[hl];exact hs))
theorem ak6:rF Tryz.prog gG ⟨181,FU,Tj⟩:=Ee (t:=Ti) F4 aaM (by kernel_rfl)
theorem ak7:rF Tryz.prog gG ⟨114,FV,Tm⟩:=Ee (t:=Tk) F4 aaN (by kernel_rfl)
theorem ak8:rF Tryz.prog gG ⟨179,FW,Tp⟩:=Ee (t:=Tn) F4 aaO (by kernel_rfl)
theorem ak9:rF Tryz.prog gG ⟨172,FX,Tt⟩:=Ee (t:=Tq) F4 aaP (by kernel_rfl)
theorem ala:rF Tryz.prog gG ⟨184,FY,Tv⟩:=Ee (t:=Tu) F4 aaQ (by kernel_rfl)
theorem alb:rF Tryz.prog gG ⟨186,FZ,Tx⟩:=Ee (t:=Tw) F4 aaR (by kernel_rfl)
theorem alc:rF Tryz.prog gG ⟨115,F3,Tz⟩:=Ee (t:=Ty) F4 aaS (by kernel_rfl)
theorem ald:∀ e∈TB,rF Tryz.prog gG e:=List.forall_mem_cons.2 ⟨ak6,List.forall_mem_cons.2 ⟨ak7,List.forall_mem_cons.2 ⟨ak8,List.forall_mem_cons.2 ⟨ak9,List.forall_mem_cons.2 ⟨ala,List.forall_mem_cons.2 ⟨alb,List.forall_mem_cons.2 ⟨alc,aaW⟩⟩⟩⟩⟩⟩⟩
theorem aaZ:vF (sj TB NZ ZZ) eE:=Az ald aaX aaY (by kernel_rfl)
theorem ale:rF Tryz.prog gG ⟨22,BJ,tY⟩:=Ee (t:=LH) aaZ aaV (by kernel_rfl)
theorem alf (l:List Int) (h:l.length=11):(tY l).length=4:=(ale l h).1
open Go.RowKit
def Ol:List X→List X→Bool
 | [],[]=>true
 | x::xs,y::ys=>sS (vN x y) (Ol xs ys)
 | _,_=>false
theorem TD:∀ {a b:List X},Ol a b=true→a=b
 | [],[],_=>rfl
 | x::xs,y::ys,h=>by have h:=sD h;rw[wP h.1,TD h.2]
 | [],_::_,h=>by cases h
 | _::_,[],h=>by cases h
def JD (ct:Ct) (p:List X→Bool):rf SV→Bool
 | .leaf a=>match wY ct.r (xW ct.r a) with|some xs=>p xs|none=>false
 | .ite _ a b=>sS (JD ct p a) (JD ct p b)
 | .call _ _ _ _ t=>JD ct p t
 | .stuck _=>true
def JE (ct cu:Ct) (p:List X→Bool) (q:List X):rf SV→rf SV→Bool
 | .leaf a,u=>match wY ct.r (xW ct.r a) with
  | some [.lit n]=>match uE n 0 with
   | true=>JD cu p u
   | false=>match uE n 1 with
    | true=>match u with | .leaf b=>(match wY cu.r (xW cu.r b) with|some xs=>Ol xs q|none=>false)|_=>false
    | false=>false
  | _=>false
 | .ite c a b,.ite c' a' b'=>sS (vN c c') (sS (JE ct cu p q a a') (JE ct cu p q b b'))
 | .call f args _ n t,.call f' args' _ n' t'=>sS (Nat.beq f f') (sS (Ol args args') (sS (Nat.beq n n') (JE ct cu p q t t')))
 | _,_=>false
theorem Om {Φ:uL} {ct:Ct} {p:List X→Bool} : ∀ {t:rf SV} {l:List Int} {a:SV} {l':List Int},JD ct p t=true→vE Φ t l=some (a,l')→∃ xs,wY ct.r (xW ct.r a)=some xs∧p xs=true
 | .leaf a,l,a',l',h,he=>by
  cases he
  simp only[JD] at h
  split at h
  ·rename_i xs hx;exact⟨xs,hx,h⟩
  ·cases h
 | .ite c a b,l,a',l',h,he=>by
  have h:=sD h
  simp only[vE] at he
  split at he
  ·exact Om h.1 he
  ·exact Om h.2 he
 | .call f args m n t,l,a',l',h,he=>by
  simp only[vE,zL] at he
  split at he
  ·exact Om (t:=t) h he
  ·cases he
 | .stuck _,l,a',l',h,he=>by cases he
theorem Oo {Φ:uL} {ct cu:Ct} {p:List X→Bool} {q:List X} : ∀ {t u:rf SV} {l:List Int} {b:SV} {m:List Int},JE ct cu p q t u=true→vE Φ u l=some (b,m) →
  ∃ a l',vE Φ t l=some (a,l')∧((wY ct.r (xW ct.r a)=some [.lit 0]∧∃ xs,wY cu.r (xW cu.r b)=some xs∧p xs=true)∨(wY ct.r (xW ct.r a)=some [.lit 1]∧wY cu.r (xW cu.r b)=some q))
 | .leaf a,u,l,b,m,h,he=>by
  refine⟨a,l,rfl,?_⟩
  simp only[JE] at h
  split at h
  ·rename_i n hn
   split at h
   ·rename_i h0;rw[Dq h0] at hn;exact .inl ⟨hn,Om h he⟩
   ·split at h
    ·rename_i h1
     rw[Dq h1] at hn
     split at h
     ·cases he
      split at h
      ·rename_i xs hx;exact .inr ⟨hn,by rw[hx,TD h]⟩
      ·cases h
     ·cases h
    ·cases h
  ·cases h
 | .ite c a b',.ite c' a' b'',l,b,m,h,he=>by
  have h:=sD h;have h2:=sD h.2
  rw[← wP h.1] at he
  simp only[vE] at he ⊢
  split at he
  ·exact Oo h2.1 he
  ·exact Oo h2.2 he
 | .call f args i n t,.call f' args' i' n' t',l,b,m,h,he=>by
  have h:=sD h;have h2:=sD h.2;have h3:=sD h2.2
  rw[← sQ.1 h.1,← TD h2.1,← sQ.1 h3.1] at he
  simp only[vE,zL] at he ⊢
  split at he
  ·exact Oo h3.2 he
  ·cases he
 | .ite _ _ _,.leaf _,_,_,_,h,_=>by cases h
 | .ite _ _ _,.call _ _ _ _ _,_,_,_,h,_=>by cases h
 | .ite _ _ _,.stuck _,_,_,_,h,_=>by cases h
 | .call _ _ _ _ _,.leaf _,_,_,_,h,_=>by cases h
 | .call _ _ _ _ _,.ite _ _ _,_,_,_,h,_=>by cases h
 | .call _ _ _ _ _,.stuck _,_,_,_,h,_=>by cases h
 | .stuck _,_,_,_,_,h,_=>by cases h
def hd0:List X→Bool
 | .lit n::_=>uE n 0
 | _=>false
theorem alg:JE aaT BJ hd0 [.lit 1,.lit 0,.lit 0,.lit 0] aaU LH=true:=by kernel_rfl
theorem alh (l:List Int) (h:l.length=11):(TC l = [0]∧∃ r,tY l=0::r)∨(TC l = [1]∧tY l = [1,0,0,0]):=by
 obtain⟨b,m,ys,h1,h2⟩:okF (ug TB NZ ZZ) BJ LH l:=DC aaZ (by rw[h];kernel_rfl)
 obtain⟨a,l',h3,h4⟩:=Oo alg h1
 unfold TC tY rG
 simp only[h1,h3]
 rcases h4 with⟨h5,xs,h6,h7⟩|⟨h5,h6⟩
 ·left
  simp only[h5,h6,zL,id,List.map_cons,List.map_nil,X.den]
  refine⟨trivial,?_⟩
  match xs,h7 with
  | .lit n::r,h7=>exact⟨r.map (X.den (rE m)),by rw[Dq h7];rfl⟩
 ·right
  simp only[h5,h6,zL,id,List.map_cons,List.map_nil,X.den]
  exact⟨trivial,trivial⟩
end Go.Proofs.YtbembkamcdlhbaaGreatDoor
