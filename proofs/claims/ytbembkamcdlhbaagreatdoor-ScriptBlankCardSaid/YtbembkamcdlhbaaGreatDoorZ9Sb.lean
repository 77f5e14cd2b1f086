import Derived.Test.YtbembkamcdlhbaaGreatDoorTB0Sb
set_option linter.unusedSimpArgs false
set_option linter.unusedVariables false
set_option maxRecDepth 100000
namespace Go.Proofs.YtbembkamcdlhbaaGreatDoor
open Go.RowKit
theorem Ff:wu (r9 TA NZ ZZ) eE:=QW aa1 aa2 aa3 (by kernel_rfl)
def Fg:Ct:=⟨[.sc kB,.sc kB,.agg [kB,.bool],.sc kU],[.agg [kU,kU,kB]]⟩
def Sm:qZ SV :=
 (.ite dG iQ (.ite jX iQ (.ite j6 iQ (.ite (.bin .eql .u8 dE ae) (.ite oN (.call 204 [dJ,j5,iK,oN,gW,(.bin .sub .u64 ae oM),ae,ae,ae] 5 3 oO) (.call 204 [dJ,j5,iK,oN,gW,oM,ae,ae,ae] 5 3 oO)) (.ite oP (.call 204 [dJ,j5,iK,ae,gW,(.conv .u64 (.conv .u32 aC)),ae,ae,ae] 5 3 oO) (.ite oQ (.ite oU (.call 204 [dJ,j5,iK,oU,gW,(.bin .sub .u64 ae aC),ae,ae,ae] 5 3 oO) (.call 204 [dJ,j5,iK,oU,gW,aC,ae,ae,ae] 5 3 oO)) (.call 204 [dJ,j5,iK,ae,gW,aC,ae,ae,ae] 5 3 oO)))))))
theorem akf:Ar (r9 TA NZ ZZ) mE 3000 181 (rH Fg.a (rG 0 (q9 Fg.a))) (q9 Fg.a).length=Sm:=by kernel_rfl
def Sn:List Int→List Int:=rE (tV TA NZ ZZ) Fg Sm
theorem aad:xX Tryz.prog gG ⟨181,Fg,Sn⟩:=DC Ff DD 3000 (by kernel_rfl) akf (by kernel_rfl)
def Fh:Ct:=⟨[.sc kB,.sc kU],[.sc .bool]⟩
def Sq:qZ SV :=
 (.ite (.bin .eql .u8 dE ae) (.leaf (.bool (.bin .eql .u64 (.conv .u64 (.conv .i64 (.conv .i32 ag))) ag))) (.ite oP (.leaf (.bool (.bin .eql .u64 (.conv .u64 (.conv .u32 ag)) ag))) (.ite oQ oV (.ite oZ oV av))))
theorem akg:Ar (r9 TA NZ ZZ) mE 3000 114 (rH Fh.a (rG 0 (q9 Fh.a))) (q9 Fh.a).length=Sq:=by kernel_rfl
def Sr:List Int→List Int:=rE (tV TA NZ ZZ) Fh Sq
theorem aae:xX Tryz.prog gG ⟨114,Fh,Sr⟩:=DC Ff DD 3000 (by kernel_rfl) akg (by kernel_rfl)
def Fj:Ct:=⟨[.sc kB,.sc kB,.sc kB,.agg [kU,kU]],[.agg [kU,kB]]⟩
def Su:qZ SV :=
 (.ite dG o9 (.ite jX o9 (.ite j6 o9 (.call 125 iU 5 5 (.ite (.bin .geq .u8 dK cz) (.leaf (.agg [aK,iM])) (.ite gZ (.call 225 oC 10 4 (.ite dP pE (.ite pF pE (.ite pG (.call 266 pI 14 4 (.call 262 pJ 18 3 (.call 234 [eH,eO,ae,pz] 21 1 (.ite pK pE (.ite ja (.leaf (.agg [pM,jE])) (.leaf (.agg [pM,gU]))))))) (.call 262 pO 14 3 (.call 234 [eQ,eP,ae,pz] 17 1 (.ite pQ pE (.ite kM (.leaf (.agg [pR,jE])) (.leaf (.agg [pR,gU])))))))))) (.call 225 oC 10 4 (.ite dP pV (.ite pF pV (.ite pG (.call 266 pI 14 4 (.call 262 pJ 18 3 (.call 234 [eH,eO,ae,pU] 21 1 (.ite pK pV (.ite ja (.leaf (.agg [gI,jE])) (.leaf (.agg [gI,gU]))))))) (.call 262 pO 14 3 (.call 234 [eQ,eP,ae,pU] 17 1 (.ite pQ pV (.ite kM (.leaf (.agg [gM,jE])) (.leaf (.agg [gM,gU]))))))))))))))))
theorem akh:Ar (r9 TA NZ ZZ) mE 3000 179 (rH Fj.a (rG 0 (q9 Fj.a))) (q9 Fj.a).length=Su:=by kernel_rfl
def Sv:List Int→List Int:=rE (tV TA NZ ZZ) Fj Su
theorem aaf:xX Tryz.prog gG ⟨179,Fj,Sv⟩:=DC Ff DD 3000 (by kernel_rfl) akh (by kernel_rfl)
def Fp:Ct:=⟨[.sc kB,.sc kB,.sc .bool,.agg [kU,kU]],[.agg [kU,kU,kB]]⟩
def Sw:qZ SV :=
 (.ite dG iQ (.ite iR iQ (.call 1000126 oK 5 4 (.ite kG oO (.call 125 iU 9 5 (.ite (.bin .eql .u8 (.var kB 10) ae) (.call 26 iU 14 2 oz) (.ite l7 (.call 26 iU 14 2 oz) (.call 81 dQ 14 1 (.ite (.bin .geq .i64 ll (.bin .sub .i64 jd ai)) (.call 26 iU 15 2 kv) (.call 225 mH 15 4 (.ite (.bin .lss .i64 ll ae) (.call 266 [eP,eF,eG,eH,(.bin .sub .i64 (.bin .sub .i64 ae ll) ai)] 19 4 (.call 262 [eO,gJ,eT,eX,ae,dJ,gQ] 23 3 (.call 230 [eZ,fq] 26 4 (.call 204 [dE,cz,ae,gQ,gW,jq,jr,lJ,jv] 30 3 (.ite (.bin .neq .u8 (.var kB 32) ae) (.ite jR pW iQ) (.ite jR (.ite dI (.leaf (.agg [jA,mo,jE])) pX) pX)))))) (.call 262 [eP,eF,eG,eH,(.bin .add .i64 ll ai),dJ,gQ] 19 3 (.call 230 [eO,gJ] 22 4 (.call 204 [dE,cz,ae,gQ,gW,eX,eZ,fq,jm] 26 3 (.ite nV (.ite jg pW iQ) (.ite jg (.ite dI (.leaf (.agg [jW,(.int .u64 jr),jE])) nX) nX))))))))))))))))
theorem aki:Ar (r9 TA NZ ZZ) mE 3000 172 (rH Fp.a (rG 0 (q9 Fp.a))) (q9 Fp.a).length=Sw:=by kernel_rfl
def Sy:List Int→List Int:=rE (tV TA NZ ZZ) Fp Sw
theorem aag:xX Tryz.prog gG ⟨172,Fp,Sy⟩:=DC Ff DD 3000 (by kernel_rfl) aki (by kernel_rfl)
def Fq:Ct:=⟨[.sc kB,.agg [kU,kU],.agg [kU,kU]],[.sc kB,.sc kB]⟩
def Sz:qZ SV :=
 (.ite dG pY (.call 31 iB 5 1 (.ite gZ (.call 196 iB 6 1 (.ite iD qa (.call 196 iU 7 1 qc))) (.call 31 iU 6 1 (.ite iD (.call 196 iB 7 1 (.ite fM qa (.call 196 iU 8 1 qd))) qj)))))
theorem akj:Ar (r9 TA NZ ZZ) mE 3000 184 (rH Fq.a (rG 0 (q9 Fq.a))) (q9 Fq.a).length=Sz:=by kernel_rfl
def SA:List Int→List Int:=rE (tV TA NZ ZZ) Fq Sz
theorem aah:xX Tryz.prog gG ⟨184,Fq,SA⟩:=DC Ff DD 3000 (by kernel_rfl) akj (by kernel_rfl)
def Fs:Ct:=⟨[.sc kB,.agg [kU,kU],.agg [kU,kU]],[.sc kB,.sc kB]⟩
def SB:qZ SV :=
 (.ite dG pY (.call 31 iB 5 1 (.ite gZ (.call 31 iB 6 1 (.ite iD qa (.call 31 iU 7 1 qc))) (.call 31 iU 6 1 (.ite iD (.call 31 iB 7 1 (.ite fM qa (.call 31 iU 8 1 qd))) qj)))))
theorem akk:Ar (r9 TA NZ ZZ) mE 3000 186 (rH Fs.a (rG 0 (q9 Fs.a))) (q9 Fs.a).length=SB:=by kernel_rfl
def SF:List Int→List Int:=rE (tV TA NZ ZZ) Fs SB
theorem aai:xX Tryz.prog gG ⟨186,Fs,SF⟩:=DC Ff DD 3000 (by kernel_rfl) akk (by kernel_rfl)
def Fu:Ct:=⟨[.sc kB,.agg [kU,kU]],[.sc .bool]⟩
def SG:qZ SV :=
 (.ite dF (.call 26 iB 3 2 (.leaf (.bool (.and (.bin .eql .u64 ay ag) (.and (.bin .eql .u64 aC az) ai))))) av)
theorem akl:Ar (r9 TA NZ ZZ) mE 3000 115 (rH Fu.a (rG 0 (q9 Fu.a))) (q9 Fu.a).length=SG:=by kernel_rfl
def SI:List Int→List Int:=rE (tV TA NZ ZZ) Fu SG
theorem aaj:xX Tryz.prog gG ⟨115,Fu,SI⟩:=DC Ff DD 3000 (by kernel_rfl) akl (by kernel_rfl)
def TB:List rZ:=⟨181,Fg,Sn⟩::⟨114,Fh,Sr⟩::⟨179,Fj,Sv⟩::⟨172,Fp,Sy⟩::⟨184,Fq,SA⟩::⟨186,Fs,SF⟩::⟨115,Fu,SI⟩::TA
theorem akm:∀ e∈TB,xX Tryz.prog gG e:=List.forall_mem_cons.2 ⟨aad,List.forall_mem_cons.2 ⟨aae,List.forall_mem_cons.2 ⟨aaf,List.forall_mem_cons.2 ⟨aag,List.forall_mem_cons.2 ⟨aah,List.forall_mem_cons.2 ⟨aai,List.forall_mem_cons.2 ⟨aaj,aa1⟩⟩⟩⟩⟩⟩⟩
open Go.RowKit
theorem akn:wu (r9 TB NZ ZZ) eE:=QW akm aa2 aa3 (by kernel_rfl)
def aak:Ct:=⟨[.agg [kB,kB,kB,kB,kB,kU,kU,kU,kU,kU,kU]],[.sc kI]⟩
def aal:qZ SV :=
 (.ite oP qy (.ite oQ qy (.ite oZ qy (.ite (.bin .eql .u8 dE cz) qy (.ite qz qC (.ite (.bin .eql .u8 dE aO) (.ite jX kY (.ite ql kY (.ite qm kY (.ite qo kY (.call 115 qp 11 1 (.ite kz (.call 115 qw 12 1 (.ite jK (.call 115 [dJ,ed,ek] 13 1 (.ite (.not kF) kY (.leaf dD))) kY)) kY)))))) (.ite qD qy (.ite qE qC (.ite qF qC (.ite qG qI (.ite qJ qI (.ite qK (.ite jX kY (.ite ql kY (.ite qm kY (.ite qH kY (.ite qL (.call 114 [j5,aA] 11 1 qB) kY))))) (.ite qM qy (.ite qN qy kY))))))))))))))
def SK:List Int→List Int:=rE (tV TB NZ ZZ) aak aal
def Bl:Ct:=⟨[.agg [kB,kB,kB,kB,kB,kU,kU,kU,kU,kU,kU]],[.agg [kI,kU,kU,kB]]⟩
def KY:qZ SV :=
 (.ite oP (.ite jX qO (.ite ql qO (.ite qm qO (.ite qo qO (.call 115 qp 11 1 (.ite kz (.call 115 qw 12 1 (.ite jK (.ite qx qO (.call 77 qQ 13 3 qR)) qO)) qO)))))) (.ite oQ (.ite jX qO (.ite ql qO (.ite qm qO (.ite qo qO (.call 115 qp 11 1 (.ite kz (.call 115 qw 12 1 (.ite jK (.ite qx qO (.call 36 qQ 13 3 qR)) qO)) qO)))))) (.ite oZ (.ite jX qO (.ite ql qO (.ite qm qO (.ite qo qO (.call 115 qp 11 1 (.ite kz (.call 115 qw 12 1 (.ite jK (.ite qx qO (.call 162 qQ 13 3 qR)) qO)) qO)))))) (.ite (.bin .eql .u8 dE cz) (.ite jX qO (.ite ql qO (.ite qm qO (.ite qo qO (.call 115 qp 11 1 (.ite kz (.call 115 qw 12 1 (.ite jK (.ite qx qO (.call 164 qQ 13 3 qR)) qO)) qO)))))) (.ite qz (.ite jX qO (.ite ql qO (.ite qm qO (.ite qo qO (.call 115 qp 11 1 (.ite kz (.ite qA (.ite qx qO (.call 166 [dJ,iV,qP,dU,aA] 12 3 qV)) qO) qO)))))) (.ite (.bin .eql .u8 dE aO) (.ite jX qO (.ite ql qO (.ite qm qO (.ite qo qO (.call 115 qp 11 1 (.ite kz (.call 115 qw 12 1 (.ite jK (.call 115 [dJ,ed,ek] 13 1 (.ite (.not kF) qO (.call 168 [dJ,iV,qP,dU,aA,dX,dZ,ed,ek] 14 3 (.leaf (.agg [dD,gL,gM,(.int .u8 (.var kB 16))]))))) qO)) qO)))))) (.ite qD (.ite jX qO (.ite ql qO (.ite qm qO (.ite qo qO (.call 115 qp 11 1 (.ite kz (.call 115 qw 12 1 (.ite jK (.ite qx qO (.call 170 qW 13 3 qR)) qO)) qO)))))) (.ite qE (.ite jX qO (.ite ql qO (.ite qm qO (.ite qo qO (.call 115 qp 11 1 (.ite kz (.ite qA (.ite qx qO (.call 172 [dJ,iV,ae,dU,aA] 12 3 qV)) qO) qO)))))) (.ite qF (.ite jX qO (.ite ql qO (.ite qm qO (.ite qo qO (.call 115 qp 11 1 (.ite kz (.ite qA (.ite qx qO (.call 172 [dJ,iV,ai,dU,aA] 12 3 qV)) qO) qO)))))) (.ite qG (.ite jX qO (.ite ql qO (.ite qm qO (.ite qH qO (.call 115 qp 11 1 (.ite kz (.ite qA (.ite qx qO (.call 176 [dJ,j5,iV,qP,dU,aA] 12 3 qV)) qO) qO)))))) (.ite qJ (.ite jX qO (.ite ql qO (.ite qm qO (.ite qH qO (.call 115 qp 11 1 (.ite kz (.ite qA (.ite qx qO (.call 179 [dJ,j5,iV,dU,aA] 12 2 (.leaf (.agg [dD,aK,fF,(.int .u8 iG)])))) qO) qO)))))) (.ite qK (.ite jX qO (.ite ql qO (.ite qm qO (.ite qH qO (.ite qL (.call 114 [j5,aA] 11 1 (.ite kz (.ite qA (.ite qx qO (.call 181 [j5,dJ,iV,qP,aA] 12 3 qV)) qO) qO)) qO))))) (.ite qM (.ite jX qO (.ite ql qO (.ite qm qO (.ite qo qO (.call 115 qp 11 1 (.ite kz (.call 115 qw 12 1 (.ite jK (.ite qx qO (.call 184 qW 13 2 qX)) qO)) qO)))))) (.ite qN (.ite jX qO (.ite ql qO (.ite qm qO (.ite qo qO (.call 115 qp 11 1 (.ite kz (.call 115 qw 12 1 (.ite jK (.ite qx qO (.call 186 qW 13 2 qX)) qO)) qO)))))) qO))))))))))))))
theorem ako:Ar (r9 TB NZ ZZ) mE 3000 22 (rH Bl.a (rG 0 (q9 Bl.a))) (q9 Bl.a).length=KY:=by kernel_rfl
def tN:List Int→List Int:=rE (tV TB NZ ZZ) Bl KY
theorem aam:xX Tryz.prog gG ⟨22,Bl,tN⟩:=DC akn DD 3000 (by kernel_rfl) ako (by kernel_rfl)
open Go.RowKit
theorem aan:∀ e∈TA,rD Tryz.prog gG e:=List.forall_mem_cons.2 ⟨aaz,List.forall_mem_cons.2 ⟨aaG,List.forall_mem_cons.2 ⟨aa0,aaW⟩⟩⟩
theorem aao:∀ e∈NZ,Kh Tryz.prog gG e:=fun e he=>by cases he
theorem aap:∀ e∈ZZ,Ba Tryz.prog gG e:=Bn
theorem Fv:uY (r9 TA NZ ZZ) eE:=Af aan aao aap (by kernel_rfl)
theorem Dx {L M:List rZ} {S:List uk} (hC:uY (r9 L M S) eE) {g:FuncId} {ct:Ct} {t:qZ SV} (h:xX Tryz.prog gG ⟨g,ct,rE (tV L M S) ct t⟩) (hs:yS (Ex (r9 L M S)) ct (q9 ct.a).length t=true):rD Tryz.prog gG ⟨g,ct,rE (tV L M S) ct t⟩ :=
 h.tot fun l hl=>MF (Dc hC (by rw[hl];exact hs))
theorem akp:rD Tryz.prog gG ⟨181,Fg,Sn⟩:=Dx (t:=Sm) Fv aad (by kernel_rfl)
theorem akq:rD Tryz.prog gG ⟨114,Fh,Sr⟩:=Dx (t:=Sq) Fv aae (by kernel_rfl)
theorem akr:rD Tryz.prog gG ⟨179,Fj,Sv⟩:=Dx (t:=Su) Fv aaf (by kernel_rfl)
theorem aks:rD Tryz.prog gG ⟨172,Fp,Sy⟩:=Dx (t:=Sw) Fv aag (by kernel_rfl)
theorem akt:rD Tryz.prog gG ⟨184,Fq,SA⟩:=Dx (t:=Sz) Fv aah (by kernel_rfl)
theorem aku:rD Tryz.prog gG ⟨186,Fs,SF⟩:=Dx (t:=SB) Fv aai (by kernel_rfl)
theorem akv:rD Tryz.prog gG ⟨115,Fu,SI⟩:=Dx (t:=SG) Fv aaj (by kernel_rfl)
theorem akw:∀ e∈TB,rD Tryz.prog gG e:=List.forall_mem_cons.2 ⟨akp,List.forall_mem_cons.2 ⟨akq,List.forall_mem_cons.2 ⟨akr,List.forall_mem_cons.2 ⟨aks,List.forall_mem_cons.2 ⟨akt,List.forall_mem_cons.2 ⟨aku,List.forall_mem_cons.2 ⟨akv,aan⟩⟩⟩⟩⟩⟩⟩
theorem aaq:uY (r9 TB NZ ZZ) eE:=Af akw aao aap (by kernel_rfl)
theorem akx:rD Tryz.prog gG ⟨22,Bl,tN⟩:=Dx (t:=KY) aaq aam (by kernel_rfl)
theorem aky (l:List Int) (h:l.length=11):(tN l).length=4:=(akx l h).1
open Go.RowKit
def NJ:List X→List X→Bool
 | [],[]=>true
 | x::xs,y::ys=>sO (vC x y) (NJ xs ys)
 | _,_=>false
theorem SL:∀ {a b:List X},NJ a b=true→a=b
 | [],[],_=>rfl
 | x::xs,y::ys,h=>by have h:=su h;rw[wm h.1,SL h.2]
 | [],_::_,h=>by cases h
 | _::_,[],h=>by cases h
def Je (ct:Ct) (p:List X→Bool):qZ SV→Bool
 | .leaf a=>match wO ct.r (xI ct.r a) with|some xs=>p xs|none=>false
 | .ite _ a b=>sO (Je ct p a) (Je ct p b)
 | .call _ _ _ _ t=>Je ct p t
 | .stuck _=>true
def Jf (ct cu:Ct) (p:List X→Bool) (q:List X):qZ SV→qZ SV→Bool
 | .leaf a,u=>match wO ct.r (xI ct.r a) with
  | some [.lit n]=>match uy n 0 with
   | true=>Je cu p u
   | false=>match uy n 1 with
    | true=>match u with | .leaf b=>(match wO cu.r (xI cu.r b) with|some xs=>NJ xs q|none=>false)|_=>false
    | false=>false
  | _=>false
 | .ite c a b,.ite c' a' b'=>sO (vC c c') (sO (Jf ct cu p q a a') (Jf ct cu p q b b'))
 | .call f args _ n t,.call f' args' _ n' t'=>sO (Nat.beq f f') (sO (NJ args args') (sO (Nat.beq n n') (Jf ct cu p q t t')))
 | _,_=>false
theorem NK {Φ:uD} {ct:Ct} {p:List X→Bool} : ∀ {t:qZ SV} {l:List Int} {a:SV} {l':List Int},Je ct p t=true→uX Φ t l=some (a,l')→∃ xs,wO ct.r (xI ct.r a)=some xs∧p xs=true
 | .leaf a,l,a',l',h,he=>by
  cases he
  simp only[Je] at h
  split at h
  ·rename_i xs hx;exact⟨xs,hx,h⟩
  ·cases h
 | .ite c a b,l,a',l',h,he=>by
  have h:=su h
  simp only[uX] at he
  split at he
  ·exact NK h.1 he
  ·exact NK h.2 he
 | .call f args m n t,l,a',l',h,he=>by
  simp only[uX,zo] at he
  split at he
  ·exact NK (t:=t) h he
  ·cases he
 | .stuck _,l,a',l',h,he=>by cases he
theorem NL {Φ:uD} {ct cu:Ct} {p:List X→Bool} {q:List X} : ∀ {t u:qZ SV} {l:List Int} {b:SV} {m:List Int},Jf ct cu p q t u=true→uX Φ u l=some (b,m) →
  ∃ a l',uX Φ t l=some (a,l')∧((wO ct.r (xI ct.r a)=some [.lit 0]∧∃ xs,wO cu.r (xI cu.r b)=some xs∧p xs=true)∨(wO ct.r (xI ct.r a)=some [.lit 1]∧wO cu.r (xI cu.r b)=some q))
 | .leaf a,u,l,b,m,h,he=>by
  refine⟨a,l,rfl,?_⟩
  simp only[Jf] at h
  split at h
  ·rename_i n hn
   split at h
   ·rename_i h0;rw[CV h0] at hn;exact .inl ⟨hn,NK h he⟩
   ·split at h
    ·rename_i h1
     rw[CV h1] at hn
     split at h
     ·cases he
      split at h
      ·rename_i xs hx;exact .inr ⟨hn,by rw[hx,SL h]⟩
      ·cases h
     ·cases h
    ·cases h
  ·cases h
 | .ite c a b',.ite c' a' b'',l,b,m,h,he=>by
  have h:=su h;have h2:=su h.2
  rw[← wm h.1] at he
  simp only[uX] at he ⊢
  split at he
  ·exact NL h2.1 he
  ·exact NL h2.2 he
 | .call f args i n t,.call f' args' i' n' t',l,b,m,h,he=>by
  have h:=su h;have h2:=su h.2;have h3:=su h2.2
  rw[← sN.1 h.1,← SL h2.1,← sN.1 h3.1] at he
  simp only[uX,zo] at he ⊢
  split at he
  ·exact NL h3.2 he
  ·cases he
 | .ite _ _ _,.leaf _,_,_,_,h,_=>by cases h
 | .ite _ _ _,.call _ _ _ _ _,_,_,_,h,_=>by cases h
 | .ite _ _ _,.stuck _,_,_,_,h,_=>by cases h
 | .call _ _ _ _ _,.leaf _,_,_,_,h,_=>by cases h
 | .call _ _ _ _ _,.ite _ _ _,_,_,_,h,_=>by cases h
 | .call _ _ _ _ _,.stuck _,_,_,_,h,_=>by cases h
 | .stuck _,_,_,_,_,h,_=>by cases h
def hd0:List X→Bool
 | .lit n::_=>uy n 0
 | _=>false
theorem akz:Jf aak Bl hd0 [.lit 1,.lit 0,.lit 0,.lit 0] aal KY=true:=by kernel_rfl
theorem akA (l:List Int) (h:l.length=11):(SK l = [0]∧∃ r,tN l=0::r)∨(SK l = [1]∧tN l = [1,0,0,0]):=by
 obtain⟨b,m,ys,h1,h2⟩:okF (tV TB NZ ZZ) Bl KY l:=Dc aaq (by rw[h];kernel_rfl)
 obtain⟨a,l',h3,h4⟩:=NL akz h1
 unfold SK tN rE
 simp only[h1,h3]
 rcases h4 with⟨h5,xs,h6,h7⟩|⟨h5,h6⟩
 ·left
  simp only[h5,h6,zo,id,List.map_cons,List.map_nil,X.den]
  refine⟨trivial,?_⟩
  match xs,h7 with
  | .lit n::r,h7=>exact⟨r.map (X.den (rC m)),by rw[CV h7];rfl⟩
 ·right
  simp only[h5,h6,zo,id,List.map_cons,List.map_nil,X.den]
  exact⟨trivial,trivial⟩
end Go.Proofs.YtbembkamcdlhbaaGreatDoor
