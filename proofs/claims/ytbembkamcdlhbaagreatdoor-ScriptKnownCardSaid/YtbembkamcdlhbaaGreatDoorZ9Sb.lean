import Derived.Test.YtbembkamcdlhbaaGreatDoorTB0Sb
set_option linter.unusedSimpArgs false
set_option linter.unusedVariables false
set_option maxRecDepth 100000
namespace Go.Proofs.YtbembkamcdlhbaaGreatDoor
open Go.RowKit
theorem Fs:wD (su TA NZ ZZ) eE:=QZ aa8 aa9 aba (by kernel_rfl)
def Fu:Ct:=⟨[.sc kB,.sc kB,.agg [kB,.bool],.sc kU],[.agg [kU,kU,kB]]⟩
def Sr:rf SV :=
 (.ite dG iT (.ite jZ iT (.ite ku iT (.ite (.bin .eql .u8 dE ae) (.ite oQ (.call 204 [dJ,kg,iM,oQ,gY,(.bin .sub .u64 ae oP),ae,ae,ae] 5 3 oU) (.call 204 [dJ,kg,iM,oQ,gY,oP,ae,ae,ae] 5 3 oU)) (.ite oV (.call 204 [dJ,kg,iM,ae,gY,(.conv .u64 (.conv .u32 aC)),ae,ae,ae] 5 3 oU) (.ite oZ (.ite o9 (.call 204 [dJ,kg,iM,o9,gY,(.bin .sub .u64 ae aC),ae,ae,ae] 5 3 oU) (.call 204 [dJ,kg,iM,o9,gY,aC,ae,ae,ae] 5 3 oU)) (.call 204 [dJ,kg,iM,ae,gY,aC,ae,ae,ae] 5 3 oU)))))))
theorem akU:AB (su TA NZ ZZ) mE 3000 181 (rO Fu.a (rM 0 (ru Fu.a))) (ru Fu.a).length=Sr:=by kernel_rfl
def Su:List Int→List Int:=rH (uf TA NZ ZZ) Fu Sr
theorem aal:yg Tryz.prog gG ⟨181,Fu,Su⟩:=DR Fs DT 3000 (by kernel_rfl) akU (by kernel_rfl)
def Fv:Ct:=⟨[.sc kB,.sc kU],[.sc .bool]⟩
def Sv:rf SV :=
 (.ite (.bin .eql .u8 dE ae) (.leaf (.bool (.bin .eql .u64 (.conv .u64 (.conv .i64 (.conv .i32 ag))) ag))) (.ite oV (.leaf (.bool (.bin .eql .u64 (.conv .u64 (.conv .u32 ag)) ag))) (.ite oZ pg (.ite pq pg av))))
theorem akV:AB (su TA NZ ZZ) mE 3000 114 (rO Fv.a (rM 0 (ru Fv.a))) (ru Fv.a).length=Sv:=by kernel_rfl
def Sw:List Int→List Int:=rH (uf TA NZ ZZ) Fv Sv
theorem aam:yg Tryz.prog gG ⟨114,Fv,Sw⟩:=DR Fs DT 3000 (by kernel_rfl) akV (by kernel_rfl)
def Fw:Ct:=⟨[.sc kB,.sc kB,.sc kB,.agg [kU,kU]],[.agg [kU,kB]]⟩
def Sy:rf SV :=
 (.ite dG pu (.ite jZ pu (.ite ku pu (.call 125 iW 5 5 (.ite (.bin .geq .u8 dK cz) (.leaf (.agg [aK,iO])) (.ite ic (.call 225 oG 10 4 (.ite dP pI (.ite pJ pI (.ite pK (.call 266 pM 14 4 (.call 262 pO 18 3 (.call 234 [eH,eP,ae,pG] 21 1 (.ite pQ pI (.ite jc (.leaf (.agg [pR,jG])) (.leaf (.agg [pR,gW]))))))) (.call 262 pU 14 3 (.call 234 [eU,eQ,ae,pG] 17 1 (.ite pV pI (.ite kP (.leaf (.agg [pW,jG])) (.leaf (.agg [pW,gW])))))))))) (.call 225 oG 10 4 (.ite dP pY (.ite pJ pY (.ite pK (.call 266 pM 14 4 (.call 262 pO 18 3 (.call 234 [eH,eP,ae,pX] 21 1 (.ite pQ pY (.ite jc (.leaf (.agg [gK,jG])) (.leaf (.agg [gK,gW]))))))) (.call 262 pU 14 3 (.call 234 [eU,eQ,ae,pX] 17 1 (.ite pV pY (.ite kP (.leaf (.agg [gP,jG])) (.leaf (.agg [gP,gW]))))))))))))))))
theorem akW:AB (su TA NZ ZZ) mE 3000 179 (rO Fw.a (rM 0 (ru Fw.a))) (ru Fw.a).length=Sy:=by kernel_rfl
def Sz:List Int→List Int:=rH (uf TA NZ ZZ) Fw Sy
theorem aan:yg Tryz.prog gG ⟨179,Fw,Sz⟩:=DR Fs DT 3000 (by kernel_rfl) akW (by kernel_rfl)
def Fx:Ct:=⟨[.sc kB,.sc kB,.sc .bool,.agg [kU,kU]],[.agg [kU,kU,kB]]⟩
def SA:rf SV :=
 (.ite dG iT (.ite iU iT (.call 1000126 oN 5 4 (.ite kJ oU (.call 125 iW 9 5 (.ite (.bin .eql .u8 (.var kB 10) ae) (.call 26 iW 14 2 oF) (.ite ma (.call 26 iW 14 2 oF) (.call 81 dQ 14 1 (.ite (.bin .geq .i64 lv (.bin .sub .i64 jf ai)) (.call 26 iW 15 2 ky) (.call 225 mK 15 4 (.ite (.bin .lss .i64 lv ae) (.call 266 [eQ,eF,eG,eH,(.bin .sub .i64 (.bin .sub .i64 ae lv) ai)] 19 4 (.call 262 [eP,gL,eX,eZ,ae,dJ,gU] 23 3 (.call 230 [fq,fw] 26 4 (.call 204 [dE,cz,ae,gU,gY,jv,jw,lQ,jy] 30 3 (.ite (.bin .neq .u8 (.var kB 32) ae) (.ite jT qa iT) (.ite jT (.ite dI (.leaf (.agg [jC,mD,jG])) qc) qc)))))) (.call 262 [eQ,eF,eG,eH,(.bin .add .i64 lv ai),dJ,gU] 19 3 (.call 230 [eP,gL] 22 4 (.call 204 [dE,cz,ae,gU,gY,eZ,fq,fw,jq] 26 3 (.ite nZ (.ite ji qa iT) (.ite ji (.ite dI (.leaf (.agg [jY,(.int .u64 jw),jG])) og) og))))))))))))))))
theorem akX:AB (su TA NZ ZZ) mE 3000 172 (rO Fx.a (rM 0 (ru Fx.a))) (ru Fx.a).length=SA:=by kernel_rfl
def SB:List Int→List Int:=rH (uf TA NZ ZZ) Fx SA
theorem aao:yg Tryz.prog gG ⟨172,Fx,SB⟩:=DR Fs DT 3000 (by kernel_rfl) akX (by kernel_rfl)
def Fy:Ct:=⟨[.sc kB,.agg [kU,kU],.agg [kU,kU]],[.sc kB,.sc kB]⟩
def SF:rf SV :=
 (.ite dG qd (.call 31 iD 5 1 (.ite ic (.call 196 iD 6 1 (.ite iF qf (.call 196 iW 7 1 qg))) (.call 31 iW 6 1 (.ite iF (.call 196 iD 7 1 (.ite fQ qf (.call 196 iW 8 1 qh))) qo)))))
theorem akY:AB (su TA NZ ZZ) mE 3000 184 (rO Fy.a (rM 0 (ru Fy.a))) (ru Fy.a).length=SF:=by kernel_rfl
def SG:List Int→List Int:=rH (uf TA NZ ZZ) Fy SF
theorem aap:yg Tryz.prog gG ⟨184,Fy,SG⟩:=DR Fs DT 3000 (by kernel_rfl) akY (by kernel_rfl)
def Fz:Ct:=⟨[.sc kB,.agg [kU,kU],.agg [kU,kU]],[.sc kB,.sc kB]⟩
def SI:rf SV :=
 (.ite dG qd (.call 31 iD 5 1 (.ite ic (.call 31 iD 6 1 (.ite iF qf (.call 31 iW 7 1 qg))) (.call 31 iW 6 1 (.ite iF (.call 31 iD 7 1 (.ite fQ qf (.call 31 iW 8 1 qh))) qo)))))
theorem akZ:AB (su TA NZ ZZ) mE 3000 186 (rO Fz.a (rM 0 (ru Fz.a))) (ru Fz.a).length=SI:=by kernel_rfl
def SK:List Int→List Int:=rH (uf TA NZ ZZ) Fz SI
theorem aaq:yg Tryz.prog gG ⟨186,Fz,SK⟩:=DR Fs DT 3000 (by kernel_rfl) akZ (by kernel_rfl)
def FB:Ct:=⟨[.sc kB,.agg [kU,kU]],[.sc .bool]⟩
def SL:rf SV :=
 (.ite dF (.call 26 iD 3 2 (.leaf (.bool (.and (.bin .eql .u64 ay ag) (.and (.bin .eql .u64 aC az) ai))))) av)
theorem ak0:AB (su TA NZ ZZ) mE 3000 115 (rO FB.a (rM 0 (ru FB.a))) (ru FB.a).length=SL:=by kernel_rfl
def SN:List Int→List Int:=rH (uf TA NZ ZZ) FB SL
theorem aar:yg Tryz.prog gG ⟨115,FB,SN⟩:=DR Fs DT 3000 (by kernel_rfl) ak0 (by kernel_rfl)
def TB:List sj:=⟨181,Fu,Su⟩::⟨114,Fv,Sw⟩::⟨179,Fw,Sz⟩::⟨172,Fx,SB⟩::⟨184,Fy,SG⟩::⟨186,Fz,SK⟩::⟨115,FB,SN⟩::TA
theorem ak1:∀ e∈TB,yg Tryz.prog gG e:=List.forall_mem_cons.2 ⟨aal,List.forall_mem_cons.2 ⟨aam,List.forall_mem_cons.2 ⟨aan,List.forall_mem_cons.2 ⟨aao,List.forall_mem_cons.2 ⟨aap,List.forall_mem_cons.2 ⟨aaq,List.forall_mem_cons.2 ⟨aar,aa8⟩⟩⟩⟩⟩⟩⟩
open Go.RowKit
theorem ak2:wD (su TB NZ ZZ) eE:=QZ ak1 aa9 aba (by kernel_rfl)
def SQ:Ct:=⟨[.agg [kB,kB,kB,kB,kB,kU,kU,kU,kU,kU,kU]],[.sc kI]⟩
def aas:rf SV :=
 (.ite oV qB (.ite oZ qB (.ite pq qB (.ite (.bin .eql .u8 dE cz) qB (.ite qC qF (.ite (.bin .eql .u8 dE aO) (.ite jZ lg (.ite qp lg (.ite qw lg (.ite qx lg (.call 115 qy 11 1 (.ite kF (.call 115 qz 12 1 (.ite jM (.call 115 [dJ,ed,ek] 13 1 (.ite (.not kH) lg (.leaf dD))) lg)) lg)))))) (.ite qG qB (.ite qH qF (.ite qI qF (.ite qJ qL (.ite qM qL (.ite qN (.ite jZ lg (.ite qp lg (.ite qw lg (.ite qK lg (.ite qO (.call 114 [kg,aA] 11 1 qE) lg))))) (.ite qP qB (.ite qQ qB lg))))))))))))))
def NL:List Int→List Int:=rH (uf TB NZ ZZ) SQ aas
def AA:Ct:=⟨[.agg [kB,kB,kB,kB,kB,kU,kU,kU,kU,kU,kU]],[.agg [kI,kU,kU,kB]]⟩
def KZ:rf SV :=
 (.ite oV (.ite jZ qR (.ite qp qR (.ite qw qR (.ite qx qR (.call 115 qy 11 1 (.ite kF (.call 115 qz 12 1 (.ite jM (.ite qA qR (.call 77 qV 13 3 qW)) qR)) qR)))))) (.ite oZ (.ite jZ qR (.ite qp qR (.ite qw qR (.ite qx qR (.call 115 qy 11 1 (.ite kF (.call 115 qz 12 1 (.ite jM (.ite qA qR (.call 36 qV 13 3 qW)) qR)) qR)))))) (.ite pq (.ite jZ qR (.ite qp qR (.ite qw qR (.ite qx qR (.call 115 qy 11 1 (.ite kF (.call 115 qz 12 1 (.ite jM (.ite qA qR (.call 162 qV 13 3 qW)) qR)) qR)))))) (.ite (.bin .eql .u8 dE cz) (.ite jZ qR (.ite qp qR (.ite qw qR (.ite qx qR (.call 115 qy 11 1 (.ite kF (.call 115 qz 12 1 (.ite jM (.ite qA qR (.call 164 qV 13 3 qW)) qR)) qR)))))) (.ite qC (.ite jZ qR (.ite qp qR (.ite qw qR (.ite qx qR (.call 115 qy 11 1 (.ite kF (.ite qD (.ite qA qR (.call 166 [dJ,iX,qU,dU,aA] 12 3 qY)) qR) qR)))))) (.ite (.bin .eql .u8 dE aO) (.ite jZ qR (.ite qp qR (.ite qw qR (.ite qx qR (.call 115 qy 11 1 (.ite kF (.call 115 qz 12 1 (.ite jM (.call 115 [dJ,ed,ek] 13 1 (.ite (.not kH) qR (.call 168 [dJ,iX,qU,dU,aA,dX,dZ,ed,ek] 14 3 (.leaf (.agg [dD,gN,gP,(.int .u8 (.var kB 16))]))))) qR)) qR)))))) (.ite qG (.ite jZ qR (.ite qp qR (.ite qw qR (.ite qx qR (.call 115 qy 11 1 (.ite kF (.call 115 qz 12 1 (.ite jM (.ite qA qR (.call 170 qZ 13 3 qW)) qR)) qR)))))) (.ite qH (.ite jZ qR (.ite qp qR (.ite qw qR (.ite qx qR (.call 115 qy 11 1 (.ite kF (.ite qD (.ite qA qR (.call 172 [dJ,iX,ae,dU,aA] 12 3 qY)) qR) qR)))))) (.ite qI (.ite jZ qR (.ite qp qR (.ite qw qR (.ite qx qR (.call 115 qy 11 1 (.ite kF (.ite qD (.ite qA qR (.call 172 [dJ,iX,ai,dU,aA] 12 3 qY)) qR) qR)))))) (.ite qJ (.ite jZ qR (.ite qp qR (.ite qw qR (.ite qK qR (.call 115 qy 11 1 (.ite kF (.ite qD (.ite qA qR (.call 176 [dJ,kg,iX,qU,dU,aA] 12 3 qY)) qR) qR)))))) (.ite qM (.ite jZ qR (.ite qp qR (.ite qw qR (.ite qK qR (.call 115 qy 11 1 (.ite kF (.ite qD (.ite qA qR (.call 179 [dJ,kg,iX,dU,aA] 12 2 (.leaf (.agg [dD,aK,fH,(.int .u8 iI)])))) qR) qR)))))) (.ite qN (.ite jZ qR (.ite qp qR (.ite qw qR (.ite qK qR (.ite qO (.call 114 [kg,aA] 11 1 (.ite kF (.ite qD (.ite qA qR (.call 181 [kg,dJ,iX,qU,aA] 12 3 qY)) qR) qR)) qR))))) (.ite qP (.ite jZ qR (.ite qp qR (.ite qw qR (.ite qx qR (.call 115 qy 11 1 (.ite kF (.call 115 qz 12 1 (.ite jM (.ite qA qR (.call 184 qZ 13 2 q8)) qR)) qR)))))) (.ite qQ (.ite jZ qR (.ite qp qR (.ite qw qR (.ite qx qR (.call 115 qy 11 1 (.ite kF (.call 115 qz 12 1 (.ite jM (.ite qA qR (.call 186 qZ 13 2 q8)) qR)) qR)))))) qR))))))))))))))
theorem ak3:AB (su TB NZ ZZ) mE 3000 22 (rO AA.a (rM 0 (ru AA.a))) (ru AA.a).length=KZ:=by kernel_rfl
def sQ:List Int→List Int:=rH (uf TB NZ ZZ) AA KZ
theorem aat:yg Tryz.prog gG ⟨22,AA,sQ⟩:=DR ak2 DT 3000 (by kernel_rfl) ak3 (by kernel_rfl)
def TC:List sj:=⟨21,SQ,NL⟩::⟨22,AA,sQ⟩::TB
open Go.RowKit
theorem aau:∀ e∈TA,rG Tryz.prog gG e:=List.forall_mem_cons.2 ⟨aaG,List.forall_mem_cons.2 ⟨aaN,List.forall_mem_cons.2 ⟨aa7,aa3⟩⟩⟩
theorem aav:∀ e∈NZ,Kn Tryz.prog gG e:=fun e he=>by cases he
theorem aaw:∀ e∈ZZ,Bh Tryz.prog gG e:=Bw
theorem FC:vC (su TA NZ ZZ) eE:=Ak aau aav aaw (by kernel_rfl)
theorem DJ {L M:List sj} {S:List uu} (hC:vC (su L M S) eE) {g:FuncId} {ct:Ct} {t:rf SV} (h:yg Tryz.prog gG ⟨g,ct,rH (uf L M S) ct t⟩) (hs:yY (EE (su L M S)) ct (ru ct.a).length t=true):rG Tryz.prog gG ⟨g,ct,rH (uf L M S) ct t⟩ :=
 h.tot fun l hl=>MH (Dk hC (by rw[hl];exact hs))
theorem ak4:rG Tryz.prog gG ⟨181,Fu,Su⟩:=DJ (t:=Sr) FC aal (by kernel_rfl)
theorem ak5:rG Tryz.prog gG ⟨114,Fv,Sw⟩:=DJ (t:=Sv) FC aam (by kernel_rfl)
theorem ak6:rG Tryz.prog gG ⟨179,Fw,Sz⟩:=DJ (t:=Sy) FC aan (by kernel_rfl)
theorem ak7:rG Tryz.prog gG ⟨172,Fx,SB⟩:=DJ (t:=SA) FC aao (by kernel_rfl)
theorem ak8:rG Tryz.prog gG ⟨184,Fy,SG⟩:=DJ (t:=SF) FC aap (by kernel_rfl)
theorem ak9:rG Tryz.prog gG ⟨186,Fz,SK⟩:=DJ (t:=SI) FC aaq (by kernel_rfl)
theorem ala:rG Tryz.prog gG ⟨115,FB,SN⟩:=DJ (t:=SL) FC aar (by kernel_rfl)
theorem alb:∀ e∈TB,rG Tryz.prog gG e:=List.forall_mem_cons.2 ⟨ak4,List.forall_mem_cons.2 ⟨ak5,List.forall_mem_cons.2 ⟨ak6,List.forall_mem_cons.2 ⟨ak7,List.forall_mem_cons.2 ⟨ak8,List.forall_mem_cons.2 ⟨ak9,List.forall_mem_cons.2 ⟨ala,aau⟩⟩⟩⟩⟩⟩⟩
theorem aax:vC (su TB NZ ZZ) eE:=Ak alb aav aaw (by kernel_rfl)
theorem alc:rG Tryz.prog gG ⟨22,AA,sQ⟩:=DJ (t:=KZ) aax aat (by kernel_rfl)
theorem ald (l:List Int) (h:l.length=11):(sQ l).length=4:=(alc l h).1
open Go.RowKit
def NM:List X→List X→Bool
 | [],[]=>true
 | x::xs,y::ys=>sV (vJ x y) (NM xs ys)
 | _,_=>false
theorem SS:∀ {a b:List X},NM a b=true→a=b
 | [],[],_=>rfl
 | x::xs,y::ys,h=>by have h:=sF h;rw[wB h.1,SS h.2]
 | [],_::_,h=>by cases h
 | _::_,[],h=>by cases h
def Jk (ct:Ct) (p:List X→Bool):rf SV→Bool
 | .leaf a=>match wW ct.r (xP ct.r a) with|some xs=>p xs|none=>false
 | .ite _ a b=>sV (Jk ct p a) (Jk ct p b)
 | .call _ _ _ _ t=>Jk ct p t
 | .stuck _=>true
def Jl (ct cu:Ct) (p:List X→Bool) (q:List X):rf SV→rf SV→Bool
 | .leaf a,u=>match wW ct.r (xP ct.r a) with
  | some [.lit n]=>match uE n 0 with
   | true=>Jk cu p u
   | false=>match uE n 1 with
    | true=>match u with | .leaf b=>(match wW cu.r (xP cu.r b) with|some xs=>NM xs q|none=>false)|_=>false
    | false=>false
  | _=>false
 | .ite c a b,.ite c' a' b'=>sV (vJ c c') (sV (Jl ct cu p q a a') (Jl ct cu p q b b'))
 | .call f args _ n t,.call f' args' _ n' t'=>sV (Nat.beq f f') (sV (NM args args') (sV (Nat.beq n n') (Jl ct cu p q t t')))
 | _,_=>false
theorem NN {Φ:uI} {ct:Ct} {p:List X→Bool} : ∀ {t:rf SV} {l:List Int} {a:SV} {l':List Int},Jk ct p t=true→vw Φ t l=some (a,l')→∃ xs,wW ct.r (xP ct.r a)=some xs∧p xs=true
 | .leaf a,l,a',l',h,he=>by
  cases he
  simp only[Jk] at h
  split at h
  ·rename_i xs hx;exact⟨xs,hx,h⟩
  ·cases h
 | .ite c a b,l,a',l',h,he=>by
  have h:=sF h
  simp only[vw] at he
  split at he
  ·exact NN h.1 he
  ·exact NN h.2 he
 | .call f args m n t,l,a',l',h,he=>by
  simp only[vw,zy] at he
  split at he
  ·exact NN (t:=t) h he
  ·cases he
 | .stuck _,l,a',l',h,he=>by cases he
theorem NP {Φ:uI} {ct cu:Ct} {p:List X→Bool} {q:List X} : ∀ {t u:rf SV} {l:List Int} {b:SV} {m:List Int},Jl ct cu p q t u=true→vw Φ u l=some (b,m) →
  ∃ a l',vw Φ t l=some (a,l')∧((wW ct.r (xP ct.r a)=some [.lit 0]∧∃ xs,wW cu.r (xP cu.r b)=some xs∧p xs=true)∨(wW ct.r (xP ct.r a)=some [.lit 1]∧wW cu.r (xP cu.r b)=some q))
 | .leaf a,u,l,b,m,h,he=>by
  refine⟨a,l,rfl,?_⟩
  simp only[Jl] at h
  split at h
  ·rename_i n hn
   split at h
   ·rename_i h0;rw[Da h0] at hn;exact .inl ⟨hn,NN h he⟩
   ·split at h
    ·rename_i h1
     rw[Da h1] at hn
     split at h
     ·cases he
      split at h
      ·rename_i xs hx;exact .inr ⟨hn,by rw[hx,SS h]⟩
      ·cases h
     ·cases h
    ·cases h
  ·cases h
 | .ite c a b',.ite c' a' b'',l,b,m,h,he=>by
  have h:=sF h;have h2:=sF h.2
  rw[← wB h.1] at he
  simp only[vw] at he ⊢
  split at he
  ·exact NP h2.1 he
  ·exact NP h2.2 he
 | .call f args i n t,.call f' args' i' n' t',l,b,m,h,he=>by
  have h:=sF h;have h2:=sF h.2;have h3:=sF h2.2
  rw[← sU.1 h.1,← SS h2.1,← sU.1 h3.1] at he
  simp only[vw,zy] at he ⊢
  split at he
  ·exact NP h3.2 he
  ·cases he
 | .ite _ _ _,.leaf _,_,_,_,h,_=>by cases h
 | .ite _ _ _,.call _ _ _ _ _,_,_,_,h,_=>by cases h
 | .ite _ _ _,.stuck _,_,_,_,h,_=>by cases h
 | .call _ _ _ _ _,.leaf _,_,_,_,h,_=>by cases h
 | .call _ _ _ _ _,.ite _ _ _,_,_,_,h,_=>by cases h
 | .call _ _ _ _ _,.stuck _,_,_,_,h,_=>by cases h
 | .stuck _,_,_,_,_,h,_=>by cases h
def hd0:List X→Bool
 | .lit n::_=>uE n 0
 | _=>false
theorem ale:Jl SQ AA hd0 [.lit 1,.lit 0,.lit 0,.lit 0] aas KZ=true:=by kernel_rfl
theorem alf (l:List Int) (h:l.length=11):(NL l = [0]∧∃ r,sQ l=0::r)∨(NL l = [1]∧sQ l = [1,0,0,0]):=by
 obtain⟨b,m,ys,h1,h2⟩:okF (uf TB NZ ZZ) AA KZ l:=Dk aax (by rw[h];kernel_rfl)
 obtain⟨a,l',h3,h4⟩:=NP ale h1
 unfold NL sQ rH
 simp only[h1,h3]
 rcases h4 with⟨h5,xs,h6,h7⟩|⟨h5,h6⟩
 ·left
  simp only[h5,h6,zy,id,List.map_cons,List.map_nil,X.den]
  refine⟨trivial,?_⟩
  match xs,h7 with
  | .lit n::r,h7=>exact⟨r.map (X.den (rF m)),by rw[Da h7];rfl⟩
 ·right
  simp only[h5,h6,zy,id,List.map_cons,List.map_nil,X.den]
  exact⟨trivial,trivial⟩
end Go.Proofs.YtbembkamcdlhbaaGreatDoor
