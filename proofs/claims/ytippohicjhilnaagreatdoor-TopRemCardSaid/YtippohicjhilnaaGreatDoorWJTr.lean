import Derived.Test.YtippohicjhilnaaGreatDoorWGTr
import Derived.Test.YtippohicjhilnaaGreatDoorWITr
import Derived.Test.YtippohicjhilnaaGreatDoorWKTr
import Derived.Test.YtippohicjhilnaaGreatDoorWMTr
import Derived.Test.YtippohicjhilnaaGreatDoorWOTr
import Derived.Test.YtippohicjhilnaaGreatDoorZ7Tr
set_option linter.unusedSimpArgs false
set_option linter.unusedVariables false
set_option maxRecDepth 100000
set_option maxHeartbeats 4000000
open Go.Proofs.Tryz
namespace Go.Proofs.YtippohicjhilnaaGreatDoor
open Go.RowKit
theorem tN {Φ:wH} {ct:Ct} {c:X} {a b:tL SV} {l r:List Int} (p:Prop) [Decidable p] (hc:uk (c.ev l)=decide p) (hn:¬ p) (hf:uq Φ ct b l=r):uq Φ ct (.ite c a b) l=r:=tI p hc (λh=>absurd h hn) (λ_=>hf)
theorem tY {Φ:wH} {ct:Ct} {c:X} {a b:tL SV} {l r:List Int} (p:Prop) [Decidable p] (hc:uk (c.ev l)=decide p) (hp:p) (hf:uq Φ ct a l=r):uq Φ ct (.ite c a b) l=r:=tI p hc (λ_=>hf) (λh=>absurd hp h)
theorem akF {f n:Nat} (hf:f<4) (h:n<2^FP.fW f):GA f n=true:=by unfold GA;rw[decide_eq_true hf,decide_eq_true h];rfl
theorem akG {f a1 a0 b1 b0:Int} {R:Nat} (hf:fN f<4) (ha:nB a1 a0<2^FP.fW (fN f)) (hb:nB b1 b0<2^FP.fW (fN f)) (hR:Co (fN f) (nB a1 a0) (nB b1 b0)=(R,0)) :
  vg [7,f,0,0,0,a1,a0,b1,b0,0,0] = [0,wd R 1,wd R 0,0]:=by
 have h4:=(Ju f).2 hf;rw[vg,Qm];refine tN (u8 7=1) (by simp only[tK];rfl) (by decide) ?_;refine tN (u8 7=2) (by simp only[tK];rfl) (by decide) ?_;refine tN (u8 7=3) (by simp only[tK];rfl) (by decide) ?_;refine tN (u8 7=4) (by simp only[tK];rfl) (by decide) ?_;refine tN (u8 7=5) (by simp only[tK];rfl) (by decide) ?_;refine tN (u8 7=6) (by simp only[tK];rfl) (by decide) ?_;refine tY (u8 7=7) (by simp only[tK];rfl) (by decide) ?_;refine tN (¬ u8 f<4) (by simp only[tK];rw[decide_not]) (λh=>h h4) ?_;refine tN (¬ u8 0<=4) (by simp only[tK];rw[decide_not]) (by decide) ?_;refine tN (u8 0>1) (by simp only[tK]) (by decide) ?_;refine tN (¬ u8 0=0) (by simp only[tK];rw[decide_not];rfl) (by decide) ?_;refine(tX (r:=[ui (GA (fN f) (nB a1 a0))]) (by simp only[tK,aj2];rw[akO,uD,vQ]) (by rfl)).trans ?_;refine tY (GA (fN f) (nB a1 a0)=true) (by simp only[tK];exact(Bool.decide_coe _).symm) (akF hf ha) ?_;refine(tX (r:=[ui (GA (fN f) (nB b1 b0))]) (by simp only[tK,aj2];rw[akO,uD,vQ]) (by rfl)).trans ?_;refine tY (GA (fN f) (nB b1 b0)=true) (by simp only[tK];exact(Bool.decide_coe _).symm) (akF hf hb) ?_;refine tN (¬ nB 0 0=0) (by simp only[tK];rw[decide_not];exact congrArg not (zB _ _)) (λh=>h (by decide)) ?_;refine(tX (r:=[wd R 1,wd R 0,0]) (by simp only[tK,ayj];rw[aAg _ _ _ _ _ (by rw[uD];exact hf)];simp only[uD,vQ];rw[hR,VF];rfl) (by rfl)).trans ?_;rw[uj rfl];simp only[tK];rfl
theorem azu {f a1 a0 b1 b0:Int} {L:Nat} (hf:fN f<4) (hb:¬ 4<=uf (fN f) (nB b1 b0)) (hL:CP (fN f) 0 false (nB a1 a0) (BA (fN f) (nB b1 b0))=(L,0)) :
  P8 [f,0,0,a1,a0,b1,b0] = [wd L 1,wd L 0,0]:=by
 have hf3:fN (u8 f)<4:=by rw[uD];exact hf
 rw[P8,abX];refine(tX (r:=[ui (decide (4<=uf (fN f) (nB b1 b0)))]) (by simp only[tK,avQ];rw[NL,uD,vQ]) (by rfl)).trans ?_;refine tY (¬ 4<=uf (fN f) (nB b1 b0)) (by simp only[tK];exact(decide_not).symm) hb ?_;refine(tX (r:=[wd (BA (fN f) (nB b1 b0)) 1,wd (BA (fN f) (nB b1 b0)) 0]) (by simp only[tK,avR];rw[aph,uD,vQ,uV]) (by rfl)).trans ?_;refine(tX (r:=[wd L 1,wd L 0,0]) (by simp only[tK,avS];rw[az4 (φ:=fN f) (μ:=0) (τ:=false) (A:=nB a1 a0) (B:=BA (fN f) (nB b1 b0)) (uD f) hf (by decide) (by decide) (by decide) (vQ _ _) (vv (api _ _)),hL];rfl) (by rfl)).trans ?_;rw[uj rfl];simp only[tK];rfl
theorem akH {f:Nat} (hf:f<4) (b:Nat):FP.cod f b/2^(FP.fP f-1)<1000000:=by
 obtain⟨n1,n2,n3,n4,n5,n6,n7,n8,n9⟩:=FP.fmtN hf;have hcl:=FP.cod_lt f b;rw[Nat.div_lt_iff_lt_mul (FP.two_pow_pos _)];have e1:2^(FP.fW f-1)=2^(FP.fW f-FP.fP f)*2^(FP.fP f-1):=by rw[<- Nat.pow_add];congr 1;omega
 rw[e1] at hcl;refine Nat.lt_of_lt_of_le hcl (Nat.mul_le_mul_right _ ?_);rw[<- n9];omega
theorem azv {f E r:Nat} (hf:f<4) (hE:E*2^(FP.fP f-1)+r<2^(FP.fW f-1)) (hr:r<2^(FP.fP f-1)):Bc f false (E:Int) r=E*2^(FP.fP f-1)+r:=by
 obtain⟨n1,n2,n3,n4,n5,n6,n7,n8,n9⟩:=FP.fmtN hf;have hH:=FP.two_pow_pos (FP.fP f-1);have e1:2^(FP.fW f-1)=2^(FP.fW f-FP.fP f)*2^(FP.fP f-1):=by rw[<- Nat.pow_add];congr 1;omega
 have hlt:E<2^(FP.fW f-FP.fP f):=by apply Nat.lt_of_mul_lt_mul_right (a:=2^(FP.fP f-1));rw[<- e1];omega
 have hbig:2^(FP.fW f-FP.fP f)<=1048576:=by rw[<- n9];omega
 unfold Bc;rw[if_neg (by omega),Int.toNat_natCast,Nat.mod_eq_of_lt hlt,Nat.mod_eq_of_lt hr,WO]
theorem azw:wW (uI DK DN ZZ) eE:=EW azn azo Wp (by kernel_rfl)
def FO:Ct:=⟨[.sc kB,.agg [kU,kU],.agg [kU,kU]],[.sc .bool]⟩
def acV:tL SV :=
 (.ite (.bin .gtr .u8 dI bV) sZ (.call 6 iV 5 1 (.ite iJ sZ (.call 6 jw 6 1 (.ite iX sZ (.call 17 iV 7 4 (.call 17 jw 11 4 (.call 18 [dI,ag,jh,eT,eU] 15 2 (.call 18 [dI,ag,kV,eY,fB] 17 2 (.ite (.and (.bin .eql .u64 fq ag) (.and (.bin .eql .u64 fu ag) ak)) sZ (.ite (.bin .lss .i64 kV ak) sZ (.ite (.bin .lss .i64 jh (.bin .add .i64 kV bg)) sZ (.call 12 [(.lit 7),dI,ag,ag,ag,fA,fe,fq,fu,ag,ag] 19 4 (.call 18 [dI,ag,jh,eY,fB] 23 2 (.ite (.bin .gtr .u64 fI fA) tH (.ite (.bin .eql .u64 fI fA) (.ite (.bin .gtr .u64 fK fe) tH tJ) tJ))))))))))))))))
theorem azx:uN (uI DK DN ZZ) 3000 4 (uF FO.a (uC 0 (tO FO.a))) (tO FO.a).length=acV:=by kernel_rfl
def acW:List Int->List Int:=uq (uy DK DN ZZ) FO acV
theorem azy:wX prog gG ⟨4,FO,acW⟩:=Ns azw 3000 (by kernel_rfl) azx (by kernel_rfl)
theorem akI:uy DK DN ZZ 6=Qu:=vo (e:=⟨6,_,Qu⟩) rfl rfl rfl
theorem akJ:uy DK DN ZZ 17=DC:=vo (e:=⟨17,_,DC⟩) rfl rfl rfl
theorem WI:uy DK DN ZZ 18=Fz:=vo (e:=⟨18,_,Fz⟩) rfl rfl rfl
theorem akK:uy DK DN ZZ 12=vg:=vo (e:=⟨12,_,vg⟩) rfl rfl rfl
theorem azz:uy DK DN ZZ 19=P8:=vo (e:=⟨19,_,P8⟩) rfl rfl rfl
theorem akL:uy DK DN ZZ 10=Oi:=zy (e:=⟨10,_,Oi⟩) rfl rfl
theorem azA:uy DK DN ZZ 16=Mg:=zy (e:=⟨16,_,Mg⟩) rfl rfl
theorem akM:uy DK DN ZZ 20=Gt:=vo (e:=⟨20,_,Gt⟩) rfl rfl rfl
def Ta (x:Nat):tL SV :=
 (.call 19 [(.var kB 0),(.lit 0),(.lit 0),(.var kU 15),(.var kU 16),(.var kU (x+0)),(.var kU (x+1))] (x+2) 3
 (.call 12 [(.lit 7),(.var kB 0),(.lit 0),(.lit 0),(.lit 0),(.var kU (x+2)),(.var kU (x+3)),(.var kU 17),(.var kU 18),(.lit 0),(.lit 0)] (x+5) 4
 (.call 10 [(.var kB 0),(.var kU 20),(.var kU 21)] (x+9) 3
 (.call 10 [(.var kB 0),(.var kU 17),(.var kU 18)] (x+12) 3
 (.ite (.bin .neq .u8 (.var kB 22) (.lit 0))
 (.leaf (.bool (.lit 0)))
 (.ite (.bin .neq .u8 (.var kB (x+4)) (.lit 0))
 (.leaf (.bool (.lit 0)))
 (.ite (.bin .neq .u8 (.var kB (x+8)) (.lit 0))
 (.leaf (.bool (.lit 0)))
 (.call 16 [(.var .bool (x+12)),(.var .nat (x+13)),(.var kI (x+14)),(.var .bool (x+9)),(.var .nat (x+10)),(.bin .add .i64 (.var kI (x+11)) (.lit 1))] (x+15) 1
 (.ite (.var .bool (x+15))
 (.leaf (.bool (.lit 0)))
 (.call 20 [(.var kB 0),(.var kU 20),(.var kU 21)] (x+16) 2
 (.call 20 [(.var kB 0),(.var kU (x+6)),(.var kU (x+7))] (x+18) 2
 (.ite (.bin .eql .u8 (.var kB (x+16)) (.lit 0))
 (.ite (.bin .eql .u8 (.var kB (x+16)) (.var kB (x+18)))
 (.leaf (.bool (.lit 1)))
 (.leaf (.bool (.lit 0))))
 (.ite (.bin .eql .u8 (.var kB (x+18)) (.lit 0))
 (.leaf (.bool (.lit 0)))
 (.ite (.and (.bin .eql .u64 (.var kU 20) (.var kU (x+6))) (.and (.bin .eql .u64 (.var kU 21) (.var kU (x+7))) (.lit 1)))
 (.leaf (.bool (.lit 1)))
 (.leaf (.bool (.lit 0)))))))))))))))))
abbrev Tc:wH:=uy DK DN ZZ
theorem Kg {l:List Int} : uq Tc FO (.leaf (.bool (.lit 1))) l = [1]:=(uj rfl).trans (by simp only[tK])
theorem azB (u M:Nat) {E:Int} (h:0<=E+(u:Int)):FP.mg u M (E+1)=FP.mg u M E*2:=by unfold FP.mg;rw[show(E+1+(u:Int)).toNat=(E+(u:Int)).toNat+1 by omega,Nat.pow_succ,Nat.mul_assoc]
theorem azC {p:List Int} {x:Nat} (hx:p.length=x) {f:Int} {cx cy R P L:Nat} (g0:∀ r,ul (p++r) 0=f) (g15:∀ r,ul (p++r) 15=wd cx 1) (g16:∀ r,ul (p++r) 16=wd cx 0) (g17:∀ r,ul (p++r) 17=wd cy 1) (g18:∀ r,ul (p++r) 18=wd cy 0)
  (g20:∀ r,ul (p++r) 20=wd R 1) (g21:∀ r,ul (p++r) 21=wd R 0) (g22:∀ r,ul (p++r) 22=0) (hf:fN f<4) (lx:cx<uh) (ly:cy<FP.inf (fN f)) (lP:P<uh) (lR:R<uh) (hP:¬ 4<=uf (fN f) P) (hL:L<FP.inf (fN f))
  (hs:CP (fN f) 0 false cx (BA (fN f) P)=(L,0)) (hr:Co (fN f) L cy=(R,0)) (hc:uf (fN f) R<3) (h2:2*FP.val (fN f) (FP.cod (fN f) R)<=FP.val (fN f) (FP.cod (fN f) cy)) :
  uq Tc FO (Ta x) (p ++ [wd P 1,wd P 0]) = [1]:=by
 have g:=gPn hx;have hi:=aab hf;have hfu:fN (u8 f)<4:=by rw[uD];exact hf
 have ww:FP.fW (fN f)-1<FP.fW (fN f):=by have:=(FP.fmtN hf).2.2.2.2.1;omega
 have wle:2^(FP.fW (fN f)-1)<=2^FP.fW (fN f):=Nat.pow_le_pow_right (by decide) (Nat.le_of_lt ww);have wly:cy<uh:=Nat.lt_of_lt_of_le (by omega) (Gg (FP.fmtN hf).2.2.2.1);have wL:L<uh:=Nat.lt_of_lt_of_le (by omega) (Gg (FP.fmtN hf).2.2.2.1);have E1:=azu (f:=u8 f) (a1:=wd cx 1) (a0:=wd cx 0) (b1:=wd P 1) (b0:=wd P 0) (L:=L) hfu (by rw[uD,vv lP];exact hP) (by rw[uD,vv lP,vv lx];exact hs);have E2:=akG (f:=u8 f) (a1:=wd L 1) (a0:=wd L 0) (b1:=wd cy 1) (b0:=wd cy 0) (R:=R) hfu (by rw[uD,vv wL];omega) (by rw[uD,vv wly];omega) (by rw[uD,vv wL,vv wly];exact hr);have E3:=agZ (f:=u8 f) (a:=wd R 1) (b:=wd R 0) hfu;have E4:=agZ (f:=u8 f) (a:=wd cy 1) (b:=wd cy 0) hfu;have E5:=azX (F:=u8 f) (a1:=wd R 1) (a0:=wd R 0) (A:=R) (uD f) hf (vv lR);rw[uD,vv lR] at E3;rw[uD,vv wly] at E4;obtain⟨c,hcd⟩:∃ c,c=FP.cod (fN f) R:=⟨_,rfl⟩;obtain⟨d,hdd⟩:∃ d,d=FP.cod (fN f) cy:=⟨_,rfl⟩;have hcR:c<FP.inf (fN f):=by rw[hcd];rw[La hf] at hc;exact FP.clsC_fin.1 hc
 have hdy:d<FP.inf (fN f):=by rw[hdd];unfold FP.cod;exact Nat.lt_of_le_of_lt (Nat.mod_le _ _) ly
 rw[<- hcd] at E3 h2;rw[<- hdd] at E4 h2;obtain⟨c1,c2⟩:=FP.vE_rng hf hcR;obtain⟨d1,d2⟩:=FP.vE_rng hf hdy;have ic:i64 (FP.vE (fN f) c)=FP.vE (fN f) c:=vX (by omega) (by omega);have id':i64 (FP.vE (fN f) d)=FP.vE (fN f) d:=vX (by omega) (by omega);have ic1:i64 (FP.vE (fN f) c+1)=FP.vE (fN f) c+1:=vX (by omega) (by omega);obtain⟨mc1,mc2⟩:=FP.mg_val hf c;obtain⟨md1,md2⟩:=FP.mg_val hf d;have T:=azt (ε:=FP.vE (fN f) d) (φ:=FP.vE (fN f) c+1) (s:=ui (FP.sgn (fN f) cy)) (t:=ui (FP.sgn (fN f) R)) (E:=i64 (FP.vE (fN f) d)) (F:=i64 (FP.vE (fN f) c+1)) (FP.fU (fN f)+FP.fU (fN f)) (akC hf d) (akC hf c) (by omega) (by rw[vJ];exact id') (by rw[vJ];exact ic1) (by omega) (by omega) (by omega) (by omega) md2 (by omega)
 have hno:¬ FP.mg (FP.fU (fN f)+FP.fU (fN f)) (FP.vM (fN f) d) (FP.vE (fN f) d)<FP.mg (FP.fU (fN f)+FP.fU (fN f)) (FP.vM (fN f) c) (FP.vE (fN f) c+1):=by rw[azB _ _ mc2,mc1,md1,Nat.not_lt,Nat.mul_right_comm,Nat.mul_comm _ 2];exact Nat.mul_le_mul_right _ h2
 rw[decide_eq_false hno] at T;unfold Ta;refine(tX (r:=[wd L 1,wd L 0,0]) (by simp only[tK,g,g0,g15,g16,azz];exact E1) (by rfl)).trans ?_;refine(tX (r:=[0,wd R 1,wd R 0,0]) (by simp only[tK,xC,g,g0,g17,g18,akK];exact E2) (by rfl)).trans ?_;refine(tX (r:=[ui (FP.sgn (fN f) R),((FP.vM (fN f) c:Nat):Int),FP.vE (fN f) c]) (by simp only[uZ,xC,g,g0,g20,g21,akL];exact E3) (by rfl)).trans ?_;refine(tX (r:=[ui (FP.sgn (fN f) cy),((FP.vM (fN f) d:Nat):Int),FP.vE (fN f) d]) (by simp only[uZ,xC,g,g0,g17,g18,akL];exact E4) (by rfl)).trans ?_;refine tF (by simp only[uZ,xC,g22];rfl) ?_;refine tF (by simp only[uZ,xC,g];rfl) ?_;refine tF (by simp only[uZ,xC,g];rfl) ?_;refine(tX (r:=[ui false]) (by simp only[uZ,xC,g,azA];rw[ic];exact T) (by rfl)).trans ?_;refine tF (by simp only[uZ,xC,g]) ?_;refine(tX (r:=[((uf (fN f) R:Nat):Int),ui (FP.sgn (fN f) R)]) (by simp only[uZ,xC,g,g0,g20,g21,akM];exact E5) (by rfl)).trans ?_;refine(tX (r:=[((uf (fN f) R:Nat):Int),ui (FP.sgn (fN f) R)]) (by simp only[uZ,xC,g,g0,akM];exact E5) (by rfl)).trans ?_;refine tI (uf (fN f) R=0) (by simp only[uZ,xC,g];rw[Gh,Bool.eq_iff_iff,beq_iff_eq,decide_eq_true_iff];omega) (λh0=>?_) (λh0=>?_)
 ·exact tT (by simp only[uZ,xC,g];exact beq_self_eq_true _) Kg
 ·refine tF (by simp only[uZ,xC,g];rw[Gh];exact beq_eq_false_iff_ne.2 (by omega)) ?_;exact tT (by simp only[uZ,xC,g,g20,g21];rw[beq_self_eq_true,beq_self_eq_true];rfl) Kg
theorem akN {T:tL SV} {p:List Int} {x:Nat} {f:Int} {cx cy R P L:Nat} (hx:p.length=x) (hT:T=Ta x) (g0:∀ r,ul (p++r) 0=f) (g15:∀ r,ul (p++r) 15=wd cx 1) (g16:∀ r,ul (p++r) 16=wd cx 0) (g17:∀ r,ul (p++r) 17=wd cy 1) (g18:∀ r,ul (p++r) 18=wd cy 0)
  (g20:∀ r,ul (p++r) 20=wd R 1) (g21:∀ r,ul (p++r) 21=wd R 0) (g22:∀ r,ul (p++r) 22=0) (hf:fN f<4) (lx:cx<uh) (ly:cy<FP.inf (fN f)) (lP:P<uh) (lR:R<uh) (hP:¬ 4<=uf (fN f) P) (hL:L<FP.inf (fN f))
  (hs:CP (fN f) 0 false cx (BA (fN f) P)=(L,0)) (hr:Co (fN f) L cy=(R,0)) (hc:uf (fN f) R<3) (h2:2*FP.val (fN f) (FP.cod (fN f) R)<=FP.val (fN f) (FP.cod (fN f) cy)) :
  uq Tc FO T (p ++ [wd P 1,wd P 0]) = [1]:=by
 rw[hT];exact azC hx g0 g15 g16 g17 g18 g20 g21 g22 hf lx ly lP lR hP hL hs hr hc h2
theorem azD {a b:Nat} (ha:a<uh) (hb:b<uh):decide (a<b)=decide (wd b 1>wd a 1\/wd b 1=wd a 1/\wd b 0>wd a 0):=by
 have h1:=vv ha;have h2:=vv hb;have u1:=Bo a 1;have u0:=Bo a 0;have v1:=Bo b 1;have v0:=Bo b 0;rw[decide_eq_decide];unfold nB at h1 h2;rw[zT,zT] at h1 h2;unfold xU at u1 u0 v1 v0;unfold tV at *
 generalize wd a 1=x1 at *
 generalize wd a 0=x0 at *
 generalize wd b 1=y1 at *
 generalize wd b 0=y0 at *
 omega
theorem WJ {f:Int} (hf:fN f<4) {E r:Nat} (hE1:E<=1000000) (hE:E*2^(FP.fP (fN f)-1)+r<2^(FP.fW (fN f)-1)) (hr2:r<2^(FP.fP (fN f)-1)) {e c d:Int} (he:i64 e=(E:Int)) (hcd:nB c d=r) :
  Fz [u8 f,0,e,c,d] = [wd (E*2^(FP.fP (fN f)-1)+r) 1,wd (E*2^(FP.fP (fN f)-1)+r) 0]:=by
 rw[Fh,uD,if_pos hf,hcd,he,show uk 0=false by decide,azv hf hE hr2,uV]
theorem azE (l:List Int) (h:l.length=5):acW l = [1]:=by
 match l,h with
 | [f,a1,a0,b1,b0],_ =>
 rw[acW,acV];refine tI (u8 f>3) (by simp only[tK]) (λ_=>Kg) (λhf0=>?_);have hf:fN f<4:=(Ju f).1 (by omega);have hfu:fN (u8 f)<4:=by rw[uD];exact hf
 refine(tX (r:=[ui (!decide (uf (fN f) (nB a1 a0)<3))]) (by simp only[tK,akI];rw[akD hfu,uD,vQ]) (by rfl)).trans ?_;refine tI (¬ uf (fN f) (nB a1 a0)<3) (by simp only[tK];rw[decide_not]) (λ_=>Kg) (λfa=>?_);have fa:=Decidable.not_not.1 fa;refine(tX (r:=[ui (!decide (uf (fN f) (nB b1 b0)<3))]) (by simp only[tK,akI];rw[akD hfu,uD,vQ]) (by rfl)).trans ?_;refine tI (¬ uf (fN f) (nB b1 b0)<3) (by simp only[tK];rw[decide_not]) (λ_=>Kg) (λfb=>?_);have fb:=Decidable.not_not.1 fb;have S1:DC [u8 f,u64 a1,u64 a0]=_:=Vb _ _ _;have S2:DC [u8 f,u64 b1,u64 b0]=_:=Vb _ _ _;rw[uD,vQ,if_pos hf,uV] at S1 S2;have qx:=akH hf (nB a1 a0);have qy:=akH hf (nB b1 b0);have lx:FP.cod (fN f) (nB a1 a0)<FP.inf (fN f):=by rw[La hf] at fa;exact FP.clsC_fin.1 fa
 have ly:FP.cod (fN f) (nB b1 b0)<FP.inf (fN f):=by rw[La hf] at fb;exact FP.clsC_fin.1 fb
 generalize FP.sgn (fN f) (nB a1 a0)=sa at *
 generalize FP.sgn (fN f) (nB b1 b0)=sb at *
 generalize FP.cod (fN f) (nB a1 a0)=cx at *
 generalize FP.cod (fN f) (nB b1 b0)=cy at *
 have hH:=FP.two_pow_pos (FP.fP (fN f)-1);have ex:cx/2^(FP.fP (fN f)-1)*2^(FP.fP (fN f)-1)+cx%2^(FP.fP (fN f)-1)=cx:=by rw[Nat.mul_comm];exact Nat.div_add_mod _ _
 have ey:cy/2^(FP.fP (fN f)-1)*2^(FP.fP (fN f)-1)+cy%2^(FP.fP (fN f)-1)=cy:=by rw[Nat.mul_comm];exact Nat.div_add_mod _ _
 have laf:=Nat.mod_lt cx hH;have lbf:=Nat.mod_lt cy hH;have hi:=aab hf;have lH:2^(FP.fP (fN f)-1)<=uh:=Gg (by have:=FP.fP_le hf;omega);have ww:FP.fW (fN f)-1<FP.fW (fN f):=by have:=(FP.fmtN hf).2.2.2.2.1;omega
 have wle:2^(FP.fW (fN f)-1)<=uh:=Nat.le_trans (Nat.pow_le_pow_right (by decide) (Nat.le_of_lt ww)) (Gg (FP.fmtN hf).2.2.2.1);have HT:=λh1 h2=>aAn (f:=fN f) (cx:=cx) (cy:=cy) hf lx ly h1 h2
 have wle2:2^(FP.fW (fN f)-1)<=2^FP.fW (fN f):=Nat.pow_le_pow_right (by decide) (Nat.le_of_lt ww);have hlow:=λ(E:Nat) (h:E<=cx/2^(FP.fP (fN f)-1))=>aAo hf (c:=cx) (by omega) lbf h
 have htop:∀ P,Cq (fN f) cx cy=P->P=if cy%2^(FP.fP (fN f)-1)<=cx%2^(FP.fP (fN f)-1) then cx/2^(FP.fP (fN f)-1)*2^(FP.fP (fN f)-1)+cy%2^(FP.fP (fN f)-1) else(cx/2^(FP.fP (fN f)-1)-1)*2^(FP.fP (fN f)-1)+cy%2^(FP.fP (fN f)-1):=λP h=>h.symm.trans rfl
 generalize cx/2^(FP.fP (fN f)-1)=ae at *
 generalize cy/2^(FP.fP (fN f)-1)=be at *
 generalize cx%2^(FP.fP (fN f)-1)=af at *
 generalize cy%2^(FP.fP (fN f)-1)=bf at *
 have iae:i64 ((ae:Nat):Int)=((ae:Nat):Int):=wD (by omega);have ibe:i64 ((be:Nat):Int)=((be:Nat):Int):=wD (by omega);refine(tX (r:=[ui sa,(ae:Int),wd af 1,wd af 0]) (by simp only[tK,akJ];exact S1) (by rfl)).trans ?_;refine(tX (r:=[ui sb,(be:Int),wd bf 1,wd bf 0]) (by simp only[tK,akJ];exact S2) (by rfl)).trans ?_;have M1:=WJ (f:=f) (E:=ae) (r:=af) (e:=i64 (ae:Int)) (c:=wd af 1) (d:=wd af 0) hf (by omega) (by omega) laf (by rw[vJ];exact iae) (vv (by omega));have M2:=WJ (f:=f) (E:=be) (r:=bf) (e:=i64 (be:Int)) (c:=wd bf 1) (d:=wd bf 0) hf (by omega) (by omega) lbf (by rw[vJ];exact ibe) (vv (by omega));rw[ex] at M1;rw[ey] at M2;refine(tX (r:=[wd cx 1,wd cx 0]) (by simp only[tK,WI];exact M1) (by rfl)).trans ?_;refine(tX (r:=[wd cy 1,wd cy 0]) (by simp only[tK,WI];exact M2) (by rfl)).trans ?_;have wx:cx<uh:=by omega
 have wy:cy<uh:=by omega
 refine tI (nB (wd cy 1) (wd cy 0)=0) (by simp only[tK];have hz:=zB (wd cy 1) (wd cy 0);rw[zT,zT] at hz;exact hz) (λ_=>Kg) (λhy0=>?_);refine tI ((be:Int)<1) (by simp only[tK,iae,ibe]) (λ_=>Kg) (λhb1=>?_);refine tI ((ae:Int)<(be:Int)+2) (by simp only[tK,iae,ibe];rw[vX (by omega) (by omega)]) (λ_=>Kg) (λhab=>?_);obtain⟨hle,hPn,L,R,hL,lR,hr1,hs,hr2,hcR,h2⟩:=HT (by omega) (by omega);have E2:=akG (f:=u8 f) (a1:=wd cx 1) (a0:=wd cx 0) (b1:=wd cy 1) (b0:=wd cy 0) (R:=R) hfu (by rw[uD,vv wx];omega) (by rw[uD,vv wy];omega) (by rw[uD,vv wx,vv wy];exact hr1);refine(tX (r:=[0,wd R 1,wd R 0,0]) (by simp only[tK,akK];exact E2) (by rfl)).trans ?_;have lp0:=hlow ae (Nat.le_refl _);have M3:=WJ (f:=f) (E:=ae) (r:=bf) (e:=i64 (ae:Int)) (c:=wd bf 1) (d:=wd bf 0) hf (by omega) lp0 lbf (by rw[vJ];exact iae) (vv (by omega));obtain⟨p0,hp0⟩:∃ p,p=ae*2^(FP.fP (fN f)-1)+bf:=⟨_,rfl⟩;have hT:=htop _ rfl;rw[<- hp0] at M3 lp0 hT;obtain⟨P,hP⟩:∃ P,P=Cq (fN f) cx cy:=⟨_,rfl⟩;rw[<- hP] at hle hPn hs hT;refine(tX (r:=[wd p0 1,wd p0 0]) (by simp only[tK,WI];exact M3) (by rfl)).trans ?_;have hcmp:=azD wx (show p0<uh by omega);have hg:af<bf↔(wd p0 1>wd cx 1\/wd p0 1=wd cx 1/\wd p0 0>wd cx 0):=by rw[<- decide_eq_decide.1 hcmp];omega
 have lp1:=hlow (ae-1) (by omega);have M4:=WJ (f:=f) (E:=ae-1) (r:=bf) (e:=i64 ((ae:Int)-1)) (c:=wd bf 1) (d:=wd bf 0) hf (by omega) lp1 lbf (by rw[vJ,vX (by omega) (by omega)];omega) (vv (by omega));have lPW:P<uh:=by rw[hT];split<;>omega
 have case1:af<bf->∀ T l,T=Ta 25->l = [f,a1,a0,b1,b0] ++ [ui (!decide (uf (fN f) (nB a1 a0)<3))] ++ [ui (!decide (uf (fN f) (nB b1 b0)<3))] ++ [ui sa,(ae:Int),wd af 1,wd af 0] ++ [ui sb,(be:Int),wd bf 1,wd bf 0] ++ [wd cx 1,wd cx 0] ++ [wd cy 1,wd cy 0] ++ [0,wd R 1,wd R 0,0] ++ [wd p0 1,wd p0 0]->uq Tc FO (.call 18 [(.var kB 0),(.lit 0),(.bin .sub .i64 (.var kI 8) (.lit 1)),(.var kU 13),(.var kU 14)] 25 2 T) l = [1]:=by rintro hlt T l hT2 rfl;rw[if_neg (by omega)] at hT;rw[<- hT] at M4;refine(tX (r:=[wd P 1,wd P 0]) (by simp only[tK,WI,iae];exact M4) (by rfl)).trans ?_;exact akN (x:=25) rfl hT2 (λr=>by simp only[tK,xC]) (λr=>by simp only[tK,xC]) (λr=>by simp only[tK,xC]) (λr=>by simp only[tK,xC]) (λr=>by simp only[tK,xC]) (λr=>by simp only[tK,xC]) (λr=>by simp only[tK,xC]) (λr=>by simp only[tK,xC]) hf wx ly lPW lR hPn hL hs hr2 hcR h2
 have case0:¬ af<bf->∀ T l,T=Ta 23->l = [f,a1,a0,b1,b0] ++ [ui (!decide (uf (fN f) (nB a1 a0)<3))] ++ [ui (!decide (uf (fN f) (nB b1 b0)<3))] ++ [ui sa,(ae:Int),wd af 1,wd af 0] ++ [ui sb,(be:Int),wd bf 1,wd bf 0] ++ [wd cx 1,wd cx 0] ++ [wd cy 1,wd cy 0] ++ [0,wd R 1,wd R 0,0] ++ [wd p0 1,wd p0 0]->uq Tc FO T l = [1]:=by rintro hlt T l hT2 rfl;rw[if_pos (by omega)] at hT;subst hT;exact akN (x:=23) rfl hT2 (λr=>by simp only[tK,xC]) (λr=>by simp only[tK,xC]) (λr=>by simp only[tK,xC]) (λr=>by simp only[tK,xC]) (λr=>by simp only[tK,xC]) (λr=>by simp only[tK,xC]) (λr=>by simp only[tK,xC]) (λr=>by simp only[tK,xC]) hf wx ly lPW lR hPn hL hs hr2 hcR h2
 refine tI (wd p0 1>wd cx 1) (by simp only[tK]) (λq1=>?_) (λq1=>?_)
 ·exact case1 (hg.2 (.inl q1)) _ _ (by kernel_rfl) rfl
 ·refine tI (wd p0 1=wd cx 1) (by simp only[tK];rfl) (λq2=>?_) (λq2=>?_)
  ·refine tI (wd p0 0>wd cx 0) (by simp only[tK]) (λq3=>?_) (λq3=>?_)
   ·exact case1 (hg.2 (.inr ⟨q2,q3⟩)) _ _ (by kernel_rfl) rfl
   ·exact case0 (λh=>(hg.1 h).elim q1 (λh=>q3 h.2)) _ _ (by kernel_rfl) rfl
  ·exact case0 (λh=>(hg.1 h).elim q1 (λh=>q2 h.1)) _ _ (by kernel_rfl) rfl
end Go.Proofs.YtippohicjhilnaaGreatDoor
