import Derived.Test.YtbembkamcdlhbaaGreatDoorTB0Sb
set_option linter.unusedSimpArgs false
set_option linter.unusedVariables false
set_option maxRecDepth 100000
namespace Go.Proofs.YtbembkamcdlhbaaGreatDoor
open Go.RowKit
theorem Fz:wH (sI TA NZ ZZ) eE:=Ro abu abv abw (by kernel_rfl)
def FB:Ct:=⟨[.sc kB,.sc kB,.agg [kB,.bool],.sc kU],[.agg [kU,kU,kB]]⟩
def SQ:ru SV :=
 (.ite dG iR (.ite jY iR (.ite kg iR (.ite (.bin .eql .u8 dE ae) (.ite oU (.call 204 [dJ,j6,iL,oU,gX,(.bin .sub .u64 ae oQ),ae,ae,ae] 5 3 oV) (.call 204 [dJ,j6,iL,oU,gX,oQ,ae,ae,ae] 5 3 oV)) (.ite oZ (.call 204 [dJ,j6,iL,ae,gX,(.conv .u64 (.conv .u32 aC)),ae,ae,ae] 5 3 oV) (.ite o9 (.ite pg (.call 204 [dJ,j6,iL,pg,gX,(.bin .sub .u64 ae aC),ae,ae,ae] 5 3 oV) (.call 204 [dJ,j6,iL,pg,gX,aC,ae,ae,ae] 5 3 oV)) (.call 204 [dJ,j6,iL,ae,gX,aC,ae,ae,ae] 5 3 oV)))))))
theorem akH:AJ (sI TA NZ ZZ) mE 3000 181 (rV FB.a (rU 0 (rE FB.a))) (rE FB.a).length=SQ:=by kernel_rfl
def SS:List Int→List Int:=rR (uk TA NZ ZZ) FB SQ
theorem aaD:yn Tryz.prog gG ⟨181,FB,SS⟩:=DU Fz DV 3000 (by kernel_rfl) akH (by kernel_rfl)
def FC:Ct:=⟨[.sc kB,.sc kU],[.sc .bool]⟩
def SX:ru SV :=
 (.ite (.bin .eql .u8 dE ae) (.leaf (.bool (.bin .eql .u64 (.conv .u64 (.conv .i64 (.conv .i32 ag))) ag))) (.ite oZ (.leaf (.bool (.bin .eql .u64 (.conv .u64 (.conv .u32 ag)) ag))) (.ite o9 pq (.ite pu pq av))))
theorem akI:AJ (sI TA NZ ZZ) mE 3000 114 (rV FC.a (rU 0 (rE FC.a))) (rE FC.a).length=SX:=by kernel_rfl
def SY:List Int→List Int:=rR (uk TA NZ ZZ) FC SX
theorem aaE:yn Tryz.prog gG ⟨114,FC,SY⟩:=DU Fz DV 3000 (by kernel_rfl) akI (by kernel_rfl)
def FD:Ct:=⟨[.sc kB,.sc kB,.sc kB,.agg [kU,kU]],[.agg [kU,kB]]⟩
def S9:ru SV :=
 (.ite dG pz (.ite jY pz (.ite kg pz (.call 125 iV 5 5 (.ite (.bin .geq .u8 dK cz) (.leaf (.agg [aK,iN])) (.ite ib (.call 225 oH 10 4 (.ite dP pJ (.ite pK pJ (.ite pM (.call 266 pO 14 4 (.call 262 pQ 18 3 (.call 234 [eO,eP,ae,pI] 21 1 (.ite pR pJ (.ite jb (.leaf (.agg [pU,jF])) (.leaf (.agg [pU,gV]))))))) (.call 262 pV 14 3 (.call 234 [eT,eQ,ae,pI] 17 1 (.ite pW pJ (.ite kN (.leaf (.agg [pX,jF])) (.leaf (.agg [pX,gV])))))))))) (.call 225 oH 10 4 (.ite dP qa (.ite pK qa (.ite pM (.call 266 pO 14 4 (.call 262 pQ 18 3 (.call 234 [eO,eP,ae,pY] 21 1 (.ite pR qa (.ite jb (.leaf (.agg [gJ,jF])) (.leaf (.agg [gJ,gV]))))))) (.call 262 pV 14 3 (.call 234 [eT,eQ,ae,pY] 17 1 (.ite pW qa (.ite kN (.leaf (.agg [gN,jF])) (.leaf (.agg [gN,gV]))))))))))))))))
theorem akJ:AJ (sI TA NZ ZZ) mE 3000 179 (rV FD.a (rU 0 (rE FD.a))) (rE FD.a).length=S9:=by kernel_rfl
def Ta:List Int→List Int:=rR (uk TA NZ ZZ) FD S9
theorem aaF:yn Tryz.prog gG ⟨179,FD,Ta⟩:=DU Fz DV 3000 (by kernel_rfl) akJ (by kernel_rfl)
def FE:Ct:=⟨[.sc kB,.sc kB,.sc .bool,.agg [kU,kU]],[.agg [kU,kU,kB]]⟩
def Tc:ru SV :=
 (.ite dG iR (.ite iT iR (.call 1000126 oO 5 4 (.ite kH oV (.call 125 iV 9 5 (.ite (.bin .eql .u8 (.var kB 10) ae) (.call 26 iV 14 2 oG) (.ite mf (.call 26 iV 14 2 oG) (.call 81 dQ 14 1 (.ite (.bin .geq .i64 lu (.bin .sub .i64 je ai)) (.call 26 iV 15 2 kw) (.call 225 mM 15 4 (.ite (.bin .lss .i64 lu ae) (.call 266 [eQ,eG,eH,eO,(.bin .sub .i64 (.bin .sub .i64 ae lu) ai)] 19 4 (.call 262 [eP,gK,eU,eY,ae,dJ,gT] 23 3 (.call 230 [fe,fu] 26 4 (.call 204 [dE,cz,ae,gT,gX,jr,jv,lS,jw] 30 3 (.ite (.bin .neq .u8 (.var kB 32) ae) (.ite jS qc iR) (.ite jS (.ite dI (.leaf (.agg [jB,mF,jF])) qd) qd)))))) (.call 262 [eQ,eG,eH,eO,(.bin .add .i64 lu ai),dJ,gT] 19 3 (.call 230 [eP,gK] 22 4 (.call 204 [dE,cz,ae,gT,gX,eY,fe,fu,jo] 26 3 (.ite og (.ite jh qc iR) (.ite jh (.ite dI (.leaf (.agg [jX,(.int .u64 jv),jF])) oh) oh))))))))))))))))
theorem akK:AJ (sI TA NZ ZZ) mE 3000 172 (rV FE.a (rU 0 (rE FE.a))) (rE FE.a).length=Tc:=by kernel_rfl
def Td:List Int→List Int:=rR (uk TA NZ ZZ) FE Tc
theorem aaG:yn Tryz.prog gG ⟨172,FE,Td⟩:=DU Fz DV 3000 (by kernel_rfl) akK (by kernel_rfl)
def FI:Ct:=⟨[.sc kB,.agg [kU,kU],.agg [kU,kU]],[.sc kB,.sc kB]⟩
def Te:ru SV :=
 (.ite dG qf (.call 31 iC 5 1 (.ite ib (.call 196 iC 6 1 (.ite iE qg (.call 196 iV 7 1 qh))) (.call 31 iV 6 1 (.ite iE (.call 196 iC 7 1 (.ite fO qg (.call 196 iV 8 1 qi))) qp)))))
theorem akL:AJ (sI TA NZ ZZ) mE 3000 184 (rV FI.a (rU 0 (rE FI.a))) (rE FI.a).length=Te:=by kernel_rfl
def Tf:List Int→List Int:=rR (uk TA NZ ZZ) FI Te
theorem aaH:yn Tryz.prog gG ⟨184,FI,Tf⟩:=DU Fz DV 3000 (by kernel_rfl) akL (by kernel_rfl)
def FJ:Ct:=⟨[.sc kB,.agg [kU,kU],.agg [kU,kU]],[.sc kB,.sc kB]⟩
def Tg:ru SV :=
 (.ite dG qf (.call 31 iC 5 1 (.ite ib (.call 31 iC 6 1 (.ite iE qg (.call 31 iV 7 1 qh))) (.call 31 iV 6 1 (.ite iE (.call 31 iC 7 1 (.ite fO qg (.call 31 iV 8 1 qi))) qp)))))
theorem akM:AJ (sI TA NZ ZZ) mE 3000 186 (rV FJ.a (rU 0 (rE FJ.a))) (rE FJ.a).length=Tg:=by kernel_rfl
def Ti:List Int→List Int:=rR (uk TA NZ ZZ) FJ Tg
theorem aaI:yn Tryz.prog gG ⟨186,FJ,Ti⟩:=DU Fz DV 3000 (by kernel_rfl) akM (by kernel_rfl)
def FK:Ct:=⟨[.sc kB,.agg [kU,kU]],[.sc .bool]⟩
def Tj:ru SV :=
 (.ite dF (.call 26 iC 3 2 (.leaf (.bool (.and (.bin .eql .u64 ay ag) (.and (.bin .eql .u64 aC az) ai))))) av)
theorem akN:AJ (sI TA NZ ZZ) mE 3000 115 (rV FK.a (rU 0 (rE FK.a))) (rE FK.a).length=Tj:=by kernel_rfl
def Tk:List Int→List Int:=rR (uk TA NZ ZZ) FK Tj
theorem aaJ:yn Tryz.prog gG ⟨115,FK,Tk⟩:=DU Fz DV 3000 (by kernel_rfl) akN (by kernel_rfl)
def TB:List sH:=⟨181,FB,SS⟩::⟨114,FC,SY⟩::⟨179,FD,Ta⟩::⟨172,FE,Td⟩::⟨184,FI,Tf⟩::⟨186,FJ,Ti⟩::⟨115,FK,Tk⟩::TA
theorem akO:∀ e∈TB,yn Tryz.prog gG e:=List.forall_mem_cons.2 ⟨aaD,List.forall_mem_cons.2 ⟨aaE,List.forall_mem_cons.2 ⟨aaF,List.forall_mem_cons.2 ⟨aaG,List.forall_mem_cons.2 ⟨aaH,List.forall_mem_cons.2 ⟨aaI,List.forall_mem_cons.2 ⟨aaJ,abu⟩⟩⟩⟩⟩⟩⟩
open Go.RowKit
theorem akP:wH (sI TB NZ ZZ) eE:=Ro akO abv abw (by kernel_rfl)
def aaK:Ct:=⟨[.agg [kB,kB,kB,kB,kB,kU,kU,kU,kU,kU,kU]],[.sc kI]⟩
def aaL:ru SV :=
 (.ite oZ qC (.ite o9 qC (.ite pu qC (.ite (.bin .eql .u8 dE cz) qC (.ite qD qG (.ite (.bin .eql .u8 dE aO) (.ite jY kZ (.ite qw kZ (.ite qx kZ (.ite qy kZ (.call 115 qz 11 1 (.ite kC (.call 115 qA 12 1 (.ite jL (.call 115 [dJ,ek,eu] 13 1 (.ite (.not kG) kZ (.leaf dD))) kZ)) kZ)))))) (.ite qH qC (.ite qI qG (.ite qJ qG (.ite qK qM (.ite qN qM (.ite qO (.ite jY kZ (.ite qw kZ (.ite qx kZ (.ite qL kZ (.ite qP (.call 114 [j6,aA] 11 1 qF) kZ))))) (.ite qQ qC (.ite qR qC kZ))))))))))))))
def Tm:List Int→List Int:=rR (uk TB NZ ZZ) aaK aaL
def Bz:Ct:=⟨[.agg [kB,kB,kB,kB,kB,kU,kU,kU,kU,kU,kU]],[.agg [kI,kU,kU,kB]]⟩
def Lp:ru SV :=
 (.ite oZ (.ite jY qU (.ite qw qU (.ite qx qU (.ite qy qU (.call 115 qz 11 1 (.ite kC (.call 115 qA 12 1 (.ite jL (.ite qB qU (.call 77 qW 13 3 qX)) qU)) qU)))))) (.ite o9 (.ite jY qU (.ite qw qU (.ite qx qU (.ite qy qU (.call 115 qz 11 1 (.ite kC (.call 115 qA 12 1 (.ite jL (.ite qB qU (.call 36 qW 13 3 qX)) qU)) qU)))))) (.ite pu (.ite jY qU (.ite qw qU (.ite qx qU (.ite qy qU (.call 115 qz 11 1 (.ite kC (.call 115 qA 12 1 (.ite jL (.ite qB qU (.call 162 qW 13 3 qX)) qU)) qU)))))) (.ite (.bin .eql .u8 dE cz) (.ite jY qU (.ite qw qU (.ite qx qU (.ite qy qU (.call 115 qz 11 1 (.ite kC (.call 115 qA 12 1 (.ite jL (.ite qB qU (.call 164 qW 13 3 qX)) qU)) qU)))))) (.ite qD (.ite jY qU (.ite qw qU (.ite qx qU (.ite qy qU (.call 115 qz 11 1 (.ite kC (.ite qE (.ite qB qU (.call 166 [dJ,iW,qV,dU,aA] 12 3 qZ)) qU) qU)))))) (.ite (.bin .eql .u8 dE aO) (.ite jY qU (.ite qw qU (.ite qx qU (.ite qy qU (.call 115 qz 11 1 (.ite kC (.call 115 qA 12 1 (.ite jL (.call 115 [dJ,ek,eu] 13 1 (.ite (.not kG) qU (.call 168 [dJ,iW,qV,dU,aA,dX,dZ,ek,eu] 14 3 (.leaf (.agg [dD,gM,gN,(.int .u8 (.var kB 16))]))))) qU)) qU)))))) (.ite qH (.ite jY qU (.ite qw qU (.ite qx qU (.ite qy qU (.call 115 qz 11 1 (.ite kC (.call 115 qA 12 1 (.ite jL (.ite qB qU (.call 170 q9 13 3 qX)) qU)) qU)))))) (.ite qI (.ite jY qU (.ite qw qU (.ite qx qU (.ite qy qU (.call 115 qz 11 1 (.ite kC (.ite qE (.ite qB qU (.call 172 [dJ,iW,ae,dU,aA] 12 3 qZ)) qU) qU)))))) (.ite qJ (.ite jY qU (.ite qw qU (.ite qx qU (.ite qy qU (.call 115 qz 11 1 (.ite kC (.ite qE (.ite qB qU (.call 172 [dJ,iW,ai,dU,aA] 12 3 qZ)) qU) qU)))))) (.ite qK (.ite jY qU (.ite qw qU (.ite qx qU (.ite qL qU (.call 115 qz 11 1 (.ite kC (.ite qE (.ite qB qU (.call 176 [dJ,j6,iW,qV,dU,aA] 12 3 qZ)) qU) qU)))))) (.ite qN (.ite jY qU (.ite qw qU (.ite qx qU (.ite qL qU (.call 115 qz 11 1 (.ite kC (.ite qE (.ite qB qU (.call 179 [dJ,j6,iW,dU,aA] 12 2 (.leaf (.agg [dD,aK,fG,(.int .u8 iH)])))) qU) qU)))))) (.ite qO (.ite jY qU (.ite qw qU (.ite qx qU (.ite qL qU (.ite qP (.call 114 [j6,aA] 11 1 (.ite kC (.ite qE (.ite qB qU (.call 181 [j6,dJ,iW,qV,aA] 12 3 qZ)) qU) qU)) qU))))) (.ite qQ (.ite jY qU (.ite qw qU (.ite qx qU (.ite qy qU (.call 115 qz 11 1 (.ite kC (.call 115 qA 12 1 (.ite jL (.ite qB qU (.call 184 q9 13 2 rf)) qU)) qU)))))) (.ite qR (.ite jY qU (.ite qw qU (.ite qx qU (.ite qy qU (.call 115 qz 11 1 (.ite kC (.call 115 qA 12 1 (.ite jL (.ite qB qU (.call 186 q9 13 2 rf)) qU)) qU)))))) qU))))))))))))))
theorem akQ:AJ (sI TB NZ ZZ) mE 3000 22 (rV Bz.a (rU 0 (rE Bz.a))) (rE Bz.a).length=Lp:=by kernel_rfl
def ug:List Int→List Int:=rR (uk TB NZ ZZ) Bz Lp
theorem aaM:yn Tryz.prog gG ⟨22,Bz,ug⟩:=DU akP DV 3000 (by kernel_rfl) akQ (by kernel_rfl)
open Go.RowKit
theorem aaN:∀ e∈TA,rQ Tryz.prog gG e:=List.forall_mem_cons.2 ⟨aaZ,List.forall_mem_cons.2 ⟨aa6,List.forall_mem_cons.2 ⟨abt,abo⟩⟩⟩
theorem aaO:∀ e∈NZ,Kw Tryz.prog gG e:=fun e he=>by cases he
theorem aaP:∀ e∈ZZ,Bj Tryz.prog gG e:=BA
theorem FL:vG (sI TA NZ ZZ) eE:=Ap aaN aaO aaP (by kernel_rfl)
theorem DN {L M:List sH} {S:List uA} (hC:vG (sI L M S) eE) {g:FuncId} {ct:Ct} {t:ru SV} (h:yn Tryz.prog gG ⟨g,ct,rR (uk L M S) ct t⟩) (hs:zf (EI (sI L M S)) ct (rE ct.a).length t=true):rQ Tryz.prog gG ⟨g,ct,rR (uk L M S) ct t⟩ :=
 h.tot fun l hl=>MZ (Dm hC (by rw[hl];exact hs))
theorem akR:rQ Tryz.prog gG ⟨181,FB,SS⟩:=DN (t:=SQ) FL aaD (by kernel_rfl)
theorem akS:rQ Tryz.prog gG ⟨114,FC,SY⟩:=DN (t:=SX) FL aaE (by kernel_rfl)
theorem akT:rQ Tryz.prog gG ⟨179,FD,Ta⟩:=DN (t:=S9) FL aaF (by kernel_rfl)
theorem akU:rQ Tryz.prog gG ⟨172,FE,Td⟩:=DN (t:=Tc) FL aaG (by kernel_rfl)
theorem akV:rQ Tryz.prog gG ⟨184,FI,Tf⟩:=DN (t:=Te) FL aaH (by kernel_rfl)
theorem akW:rQ Tryz.prog gG ⟨186,FJ,Ti⟩:=DN (t:=Tg) FL aaI (by kernel_rfl)
theorem akX:rQ Tryz.prog gG ⟨115,FK,Tk⟩:=DN (t:=Tj) FL aaJ (by kernel_rfl)
theorem akY:∀ e∈TB,rQ Tryz.prog gG e:=List.forall_mem_cons.2 ⟨akR,List.forall_mem_cons.2 ⟨akS,List.forall_mem_cons.2 ⟨akT,List.forall_mem_cons.2 ⟨akU,List.forall_mem_cons.2 ⟨akV,List.forall_mem_cons.2 ⟨akW,List.forall_mem_cons.2 ⟨akX,aaN⟩⟩⟩⟩⟩⟩⟩
theorem aaQ:vG (sI TB NZ ZZ) eE:=Ap akY aaO aaP (by kernel_rfl)
theorem akZ:rQ Tryz.prog gG ⟨22,Bz,ug⟩:=DN (t:=Lp) aaQ aaM (by kernel_rfl)
theorem ak0 (l:List Int) (h:l.length=11):(ug l).length=4:=(akZ l h).1
open Go.RowKit
def N9:List X→List X→Bool
 | [],[]=>true
 | x::xs,y::ys=>tu (vN x y) (N9 xs ys)
 | _,_=>false
theorem Tn:∀ {a b:List X},N9 a b=true→a=b
 | [],[],_=>rfl
 | x::xs,y::ys,h=>by have h:=sM h;rw[wF h.1,Tn h.2]
 | [],_::_,h=>by cases h
 | _::_,[],h=>by cases h
def Jr (ct:Ct) (p:List X→Bool):ru SV→Bool
 | .leaf a=>match wY ct.r (xU ct.r a) with|some xs=>p xs|none=>false
 | .ite _ a b=>tu (Jr ct p a) (Jr ct p b)
 | .call _ _ _ _ t=>Jr ct p t
 | .stuck _=>true
def Js (ct cu:Ct) (p:List X→Bool) (q:List X):ru SV→ru SV→Bool
 | .leaf a,u=>match wY ct.r (xU ct.r a) with
  | some [.lit n]=>match uI n 0 with
   | true=>Jr cu p u
   | false=>match uI n 1 with
    | true=>match u with | .leaf b=>(match wY cu.r (xU cu.r b) with|some xs=>N9 xs q|none=>false)|_=>false
    | false=>false
  | _=>false
 | .ite c a b,.ite c' a' b'=>tu (vN c c') (tu (Js ct cu p q a a') (Js ct cu p q b b'))
 | .call f args _ n t,.call f' args' _ n' t'=>tu (Nat.beq f f') (tu (N9 args args') (tu (Nat.beq n n') (Js ct cu p q t t')))
 | _,_=>false
theorem Oa {Φ:uM} {ct:Ct} {p:List X→Bool} : ∀ {t:ru SV} {l:List Int} {a:SV} {l':List Int},Jr ct p t=true→vF Φ t l=some (a,l')→∃ xs,wY ct.r (xU ct.r a)=some xs∧p xs=true
 | .leaf a,l,a',l',h,he=>by
  cases he
  simp only[Jr] at h
  split at h
  ·rename_i xs hx;exact⟨xs,hx,h⟩
  ·cases h
 | .ite c a b,l,a',l',h,he=>by
  have h:=sM h
  simp only[vF] at he
  split at he
  ·exact Oa h.1 he
  ·exact Oa h.2 he
 | .call f args m n t,l,a',l',h,he=>by
  simp only[vF,zC] at he
  split at he
  ·exact Oa (t:=t) h he
  ·cases he
 | .stuck _,l,a',l',h,he=>by cases he
theorem Ob {Φ:uM} {ct cu:Ct} {p:List X→Bool} {q:List X} : ∀ {t u:ru SV} {l:List Int} {b:SV} {m:List Int},Js ct cu p q t u=true→vF Φ u l=some (b,m) →
  ∃ a l',vF Φ t l=some (a,l')∧((wY ct.r (xU ct.r a)=some [.lit 0]∧∃ xs,wY cu.r (xU cu.r b)=some xs∧p xs=true)∨(wY ct.r (xU ct.r a)=some [.lit 1]∧wY cu.r (xU cu.r b)=some q))
 | .leaf a,u,l,b,m,h,he=>by
  refine⟨a,l,rfl,?_⟩
  simp only[Js] at h
  split at h
  ·rename_i n hn
   split at h
   ·rename_i h0;rw[Dc h0] at hn;exact .inl ⟨hn,Oa h he⟩
   ·split at h
    ·rename_i h1
     rw[Dc h1] at hn
     split at h
     ·cases he
      split at h
      ·rename_i xs hx;exact .inr ⟨hn,by rw[hx,Tn h]⟩
      ·cases h
     ·cases h
    ·cases h
  ·cases h
 | .ite c a b',.ite c' a' b'',l,b,m,h,he=>by
  have h:=sM h;have h2:=sM h.2
  rw[← wF h.1] at he
  simp only[vF] at he ⊢
  split at he
  ·exact Ob h2.1 he
  ·exact Ob h2.2 he
 | .call f args i n t,.call f' args' i' n' t',l,b,m,h,he=>by
  have h:=sM h;have h2:=sM h.2;have h3:=sM h2.2
  rw[← tq.1 h.1,← Tn h2.1,← tq.1 h3.1] at he
  simp only[vF,zC] at he ⊢
  split at he
  ·exact Ob h3.2 he
  ·cases he
 | .ite _ _ _,.leaf _,_,_,_,h,_=>by cases h
 | .ite _ _ _,.call _ _ _ _ _,_,_,_,h,_=>by cases h
 | .ite _ _ _,.stuck _,_,_,_,h,_=>by cases h
 | .call _ _ _ _ _,.leaf _,_,_,_,h,_=>by cases h
 | .call _ _ _ _ _,.ite _ _ _,_,_,_,h,_=>by cases h
 | .call _ _ _ _ _,.stuck _,_,_,_,h,_=>by cases h
 | .stuck _,_,_,_,_,h,_=>by cases h
def hd0:List X→Bool
 | .lit n::_=>uI n 0
 | _=>false
theorem ak1:Js aaK Bz hd0 [.lit 1,.lit 0,.lit 0,.lit 0] aaL Lp=true:=by kernel_rfl
theorem ak2 (l:List Int) (h:l.length=11):(Tm l = [0]∧∃ r,ug l=0::r)∨(Tm l = [1]∧ug l = [1,0,0,0]):=by
 obtain⟨b,m,ys,h1,h2⟩:okF (uk TB NZ ZZ) Bz Lp l:=Dm aaQ (by rw[h];kernel_rfl)
 obtain⟨a,l',h3,h4⟩:=Ob ak1 h1
 unfold Tm ug rR
 simp only[h1,h3]
 rcases h4 with⟨h5,xs,h6,h7⟩|⟨h5,h6⟩
 ·left
  simp only[h5,h6,zC,id,List.map_cons,List.map_nil,X.den]
  refine⟨trivial,?_⟩
  match xs,h7 with
  | .lit n::r,h7=>exact⟨r.map (X.den (rP m)),by rw[Dc h7];rfl⟩
 ·right
  simp only[h5,h6,zC,id,List.map_cons,List.map_nil,X.den]
  exact⟨trivial,trivial⟩
end Go.Proofs.YtbembkamcdlhbaaGreatDoor
