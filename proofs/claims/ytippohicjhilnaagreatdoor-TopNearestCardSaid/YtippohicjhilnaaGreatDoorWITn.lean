import Derived.Test.YtippohicjhilnaaGreatDoorWGTn
import Derived.Test.YtippohicjhilnaaGreatDoorWHTn
import Derived.Test.YtippohicjhilnaaGreatDoorWKTn
import Derived.Test.YtippohicjhilnaaGreatDoorWMTn
import Derived.Test.YtippohicjhilnaaGreatDoorZ4Tn
import Derived.Test.YtippohicjhilnaaGreatDoorZKTn
set_option linter.unusedSimpArgs false
set_option linter.unusedVariables false
set_option maxRecDepth 100000
set_option maxHeartbeats 8000000
namespace Go.Proofs.YtippohicjhilnaaGreatDoor
open Go.RowKit
theorem afc {s t E F ε φ:Int} {M K j:Nat} (hM:M<2^j) (hK:K<2^j) (hj:j<=1000000) (hE:i64 E=ε) (hF:i64 F=φ) (e1 : -40000<=ε) (e2:ε<=40000) (f1 : -40000<=φ) (f2:φ<=40000) :
  LC [s,(M:Int),E,t,(K:Int),F] = [wh (FP.aDk (ww s) (ww t) M ε K φ),((FP.aCz (ww s) (ww t) M ε K φ:Nat):Int),min ε φ]:=by
 rw[LC,acG];obtain⟨x,hx⟩:∃ x:Nat,ε-min ε φ=(x:Int):=⟨(ε-min ε φ).toNat,by omega⟩;obtain⟨y,hy⟩:∃ y:Nat,φ-min ε φ=(y:Int):=⟨(φ-min ε φ).toNat,by omega⟩;refine(yf (r:=[((M*2^x:Nat):Int)]) (by simp only[wI,aiU];exact Qp hM (by omega) (by rw[hE,hF,hx,xD];exact yz (by omega)) (by omega)) (by rfl)).trans ?_;refine(yf (r:=[((K*2^y:Nat):Int)]) (by simp only[wI,aiU];exact Qp hK (by omega) (by rw[hE,hF,hy,xD];exact yz (by omega)) (by omega)) (by rfl)).trans ?_;have hA:M*2^x<2^(j+x):=Qo hM;have hB:K*2^y<2^(j+y):=Qo hK;unfold FP.aDk FP.aCz FP.sgS FP.sgV;rw[show(ε-min ε φ).toNat=x by omega,show(φ-min ε φ).toNat=y by omega];generalize M*2^x=A at *
 generalize K*2^y=B at *
 by_cases hst:ww s=ww t
 ·refine tnT (by simp only[wI,hst];cases ww t<;>rfl) ?_;refine(yf (r:=[((A+B:Nat):Int)]) (by simp only[wI,as1];exact aiZ hA hB (by omega) (by omega)) (by rfl)).trans ?_;rw[ED rfl,if_pos hst,if_pos hst];simp only[wI,hE,hF]
 ·refine XH (by simp only[wI];cases h1:ww s<;>cases h2:ww t<;>first|rfl|(exact absurd (h1.trans h2.symm) hst)) ?_;refine(yf (r:=[zT A B]) (by simp only[wI,as2];exact acK hA hB (by omega) (by omega)) (by rfl)).trans ?_;rw[if_neg hst,if_neg hst];by_cases hlt:A<B
  ·refine tnT (by simp only[wI,UH,ach hlt];rfl) ?_;refine(yf (r:=[((B-A:Nat):Int)]) (by simp only[wI,aiV];exact acL hB (by omega) (by omega)) (by rfl)).trans ?_;rw[ED rfl,if_pos hlt,if_pos hlt];simp only[wI,hE,hF]
  ·refine XH (by simp only[wI,UH];exact decide_eq_false (by unfold zT;rw[if_neg hlt];split<;>omega)) ?_;refine(yf (r:=[((A-B:Nat):Int)]) (by simp only[wI,aiV];exact acL hA (by omega) (by omega)) (by rfl)).trans ?_;rw[ED rfl,if_neg hlt,if_neg hlt];simp only[wI,hE,hF]
theorem amP {s t E F ε φ:Int} {M K j:Nat} (hM:M<2^j) (hK:K<2^j) (hj:j<=1000000) (hE:i64 E=ε) (hF:i64 F=φ) (e1 : -40000<=ε) (e2:ε<=40000) (f1 : -40000<=φ) (f2:φ<=40000) :
  Qn [s,(M:Int),E,t,(K:Int),F] = [wh (ww s != ww t),((M*K:Nat):Int),ε+φ]:=by
 rw[Qn,acH];refine(yf (r:=[((M*K:Nat):Int)]) (by simp only[wI,as3];exact atb hM hK (by omega) (by omega)) (by rfl)).trans ?_;rw[ED rfl];simp only[wI,hE,hF];rw[xG (by omega) (by omega)];cases ww s<;>cases ww t<;>rfl
theorem Vr {f:Nat} (hf:f<4) (c:Nat):FP.vM f c<2^200:=by
 have hH:=FP.two_pow_pos (FP.fP f-1);have hm:=Nat.mod_lt c hH;have h1:2^(FP.fP f-1)<=2^128:=Nat.pow_le_pow_right (by decide) (by have:=FP.aDH hf;omega);have h2:(2:Nat)^128+2^128<=2^200:=by decide
 unfold FP.vM;generalize (2:Nat)^(FP.fP f-1)=H at *
 generalize (2:Nat)^128=K at *
 generalize (2:Nat)^200=Z at *
 split<;>omega
theorem aBH {f:Nat} (hf:f<4) (b:Nat):FP.cod f b/2^(FP.fP f-1)<1000000:=by
 obtain⟨n1,n2,n3,n4,n5,n6,n7,n8,n9⟩:=FP.axv hf;have hcl:=FP.aCH f b;rw[Nat.div_lt_iff_lt_mul (FP.two_pow_pos _)];have e1:2^(FP.fW f-1)=2^(FP.fW f-FP.fP f)*2^(FP.fP f-1):=by rw[<- Nat.pow_add];congr 1;omega
 rw[e1] at hcl;refine Nat.lt_of_lt_of_le hcl (Nat.mul_le_mul_right _ ?_);rw[<- n9];omega
theorem aBI {f:Nat} (hf:f<4) (a:Nat) : -1100000<=FP.vE f (FP.cod f a)/\FP.vE f (FP.cod f a)<=1000000:=by
 have h:=aBH hf a;obtain⟨n1,n2,n3,n4,n5,n6,n7,n8,n9⟩:=FP.axv hf;unfold FP.vE;generalize FP.cod f a/2^(FP.fP f-1)=q at *
 split<;>omega
theorem aBJ (a b:Nat):decide (zT a b<0)=decide (a<b):=by
 rw[decide_eq_decide];unfold zT;split
 ·omega
 ·split<;>omega
theorem amQ {f a b:Int} (hf:fN f<4):SI [f,a,b] = [wh (FP.sgn (fN f) (nB a b)),((FP.vM (fN f) (FP.cod (fN f) (nB a b)):Nat):Int),FP.vE (fN f) (FP.cod (fN f) (nB a b)),wh (decide (vT (fN f) (nB a b)<=2))]:=by rw[SI,ae0];refine(yf (r:=[((vT (fN f) (nB a b):Nat):Int),wh (DX (fN f) (nB a b))]) (by simp only[wI,aBt];rw[ath,wz,wX]) (by rfl)).trans ?_;refine(yf (r:=[wh (FP.sgn (fN f) (nB a b)),((FP.vM (fN f) (FP.cod (fN f) (nB a b)):Nat):Int),FP.vE (fN f) (FP.cod (fN f) (nB a b))]) (by simp only[wI,aBu];rw[XP (by rw[wz];exact hf),wz,wX]) (by rfl)).trans ?_;rw[ED rfl];simp only[wI];have he:=aBI hf (nB a b);rw[xG (by omega) (by omega),F9,show decide (((vT (fN f) (nB a b):Nat):Int)<=2)=decide (vT (fN f) (nB a b)<=2) by rw[decide_eq_decide];omega]
theorem afd {s t E F ε φ:Int} {M K j:Nat} (hM:M<2^j) (hK:K<2^j) (hj:j<=1000000) (hE:i64 E=ε) (hF:i64 F=φ) (e1 : -40000<=ε) (e2:ε<=40000) (f1 : -40000<=φ) (f2:φ<=40000) :
  SK [s,(M:Int),E,t,(K:Int),F] = [0,((FP.aCz (ww s) (!ww t) M ε K φ:Nat):Int),min ε φ]:=by
 rw[SK,ae1];refine(yf (r:=[wh (FP.aDk (ww s) (!ww t) M ε K φ),((FP.aCz (ww s) (!ww t) M ε K φ:Nat):Int),min ε φ]) (by simp only[wI,aBv];exact(afc hM hK hj (by rw[xD];exact hE) (by rw[xD];exact hF) e1 e2 f1 f2).trans (by rw[wP,wP])) (by rfl)).trans ?_;rw[ED rfl];simp only[wI];rw[xG (by omega) (by omega)]
theorem aBK {s t E F ε φ:Int} {M K j:Nat} (hM:M<2^j) (hK:K<2^j) (hj:j<=1000000) (hE:i64 E=ε) (hF:i64 F=φ) (e1 : -40000<=ε) (e2:ε<=40000) (f1 : -40000<=φ) (f2:φ<=40000) :
  Oo [s,(M:Int),E,t,(K:Int),F] = [wh (decide (M*2^(ε-min ε φ).toNat<K*2^(φ-min ε φ).toNat))]:=by
 rw[Oo,ae2];obtain⟨x,hx⟩:∃ x:Nat,ε-min ε φ=(x:Int):=⟨(ε-min ε φ).toNat,by omega⟩;obtain⟨y,hy⟩:∃ y:Nat,φ-min ε φ=(y:Int):=⟨(φ-min ε φ).toNat,by omega⟩;refine(yf (r:=[((M*2^x:Nat):Int)]) (by simp only[wI,amG];exact Qp hM (by omega) (by rw[hE,hF,hx,xD];exact yz (by omega)) (by omega)) (by rfl)).trans ?_;refine(yf (r:=[((K*2^y:Nat):Int)]) (by simp only[wI,amG];exact Qp hK (by omega) (by rw[hE,hF,hy,xD];exact yz (by omega)) (by omega)) (by rfl)).trans ?_;have hA:M*2^x<2^(j+x):=Qo hM;have hB:K*2^y<2^(j+y):=Qo hK;rw[show(ε-min ε φ).toNat=x by omega,show(φ-min ε φ).toNat=y by omega];generalize M*2^x=A at *
 generalize K*2^y=B at *
 refine(yf (r:=[zT A B]) (by simp only[wI,aBw];exact acK hA hB (by omega) (by omega)) (by rfl)).trans ?_;rw[ED rfl];simp only[wI];rw[UH,aBJ]
theorem YO {f a b:Int} (hf:fN f<4):SN [f,a,b] = [wh (!decide (vT (fN f) (nB a b)<3))]:=by rw[SN,ae3];refine(vX (r:=[wh (decide (vT (fN f) (nB a b)<3))]) (by simp only[vS,aBx];rw[aq0,wz,wX,decide_eq_true hf,Bool.true_and]) (by rfl)).trans ?_;rw[wu rfl];simp only[vS]
theorem zh {α:Type} (a b c:List α):(a++b)++c=a++(b++c):=by rw[List.append_assoc]
theorem gPn {x:Nat} : ∀ {p:List Int},p.length=x->∀ (r:List Int) (j:Nat),wC (p++r) (x+j)=wC r j
 | [],h,r,j=>by subst h;rw[List.nil_append,List.length_nil,Nat.zero_add]
 | a::p,h,r,j=>by subst h;rw[List.cons_append,List.length_cons,Nat.add_right_comm,xC];exact gPn rfl r j
theorem afe {s t E F ε φ:Int} {M K j:Nat} (u:Nat) (hM:M<2^j) (hK:K<2^j) (hj:j<=1000000) (hE:i64 E=ε) (hF:i64 F=φ) (e1 : -40000<=ε) (e2:ε<=40000) (f1 : -40000<=φ) (f2:φ<=40000) (h1:0<=ε+(u:Int)) (h2:0<=φ+(u:Int)) :
  Oo [s,(M:Int),E,t,(K:Int),F] = [wh (decide (FP.mg u M ε<FP.mg u K φ))]:=by
 have h:decide (M*2^(ε-min ε φ).toNat<K*2^(φ-min ε φ).toNat)=decide (FP.mg u M ε<FP.mg u K φ):=by rw[decide_eq_decide];exact FP.aD3 h1 h2
 rw[aBK hM hK hj hE hF e1 e2 f1 f2,h]
def SS (x:Nat):vU SV :=
 (.ite (.beq (.bin .eql .i64 (.dlen (.var .nat (x+17))) (.lit 0)) (.bin .eql .u8 (.var kB (x+6)) (.lit 0)))
 (.leaf (.bool (.lit 1)))
 (.leaf (.bool (.lit 0))))
def YP (x:Nat):vU SV :=
 (.call 16 [(.var .bool (x+7)),(.var .nat (x+8)),(.var kI (x+9)),(.var .bool (x+11)),(.var .nat (x+12)),(.var kI (x+13))] (x+27) 1
 (.ite (.var .bool (x+27))
 (.leaf (.bool (.lit 0)))
 (SS x)))
def YQ (x:Nat):vU SV :=
 (.ite (.bin .neq .u64 (.bin .and .u64 (.var kU (x+5)) (.lit 1)) (.lit 0))
 (.leaf (.bool (.lit 0)))
 (SS x))
def aff (U:vU SV) (x:Nat):vU SV :=
 (.call 13 [(.var kB 1),(.var kU (x+4)),(.var kU (x+5))] (x+7) 4
 (.call 13 [(.var kB 1),(.var kU 9),(.var kU 10)] (x+11) 4
 (.ite (.bin .neq .i64 (.var kI (x+3)) (.lit 0))
 (.leaf (.bool (.lit 0)))
 (.call 14 [(.var kB 1),(.var kU (x+4)),(.var kU (x+5))] (x+15) 1
 (.ite (.var .bool (x+15))
 (.leaf (.bool (.lit 0)))
 (.ite (.not (.var .bool (x+10)))
 (.leaf (.bool (.lit 1)))
 (.ite (.bin .gtr .i64 (.bin .sub .i64 (.var kI (x+2)) (.var kI (x+9))) (.lit 5000))
 (.leaf (.bool (.lit 1)))
 (.ite (.bin .gtr .i64 (.bin .sub .i64 (.var kI (x+9)) (.var kI (x+2))) (.lit 5000))
 (.leaf (.bool (.lit 1)))
 (.ite (.bin .gtr .i64 (.bin .sub .i64 (.var kI (x+13)) (.var kI (x+2))) (.lit 5000))
 (.leaf (.bool (.lit 1)))
 (.ite (.bin .gtr .i64 (.bin .sub .i64 (.var kI (x+2)) (.var kI (x+13))) (.lit 5000))
 (.leaf (.bool (.lit 1)))
 (.call 15 [(.var .bool (x+0)),(.var .nat (x+1)),(.var kI (x+2)),(.var .bool (x+7)),(.var .nat (x+8)),(.var kI (x+9))] (x+16) 3
 (.call 15 [(.var .bool (x+0)),(.var .nat (x+1)),(.var kI (x+2)),(.var .bool (x+11)),(.var .nat (x+12)),(.var kI (x+13))] (x+19) 3
 (.call 16 [(.var .bool (x+19)),(.var .nat (x+20)),(.var kI (x+21)),(.var .bool (x+16)),(.var .nat (x+17)),(.var kI (x+18))] (x+22) 1
 (.ite (.var .bool (x+22))
 (.leaf (.bool (.lit 0)))
 (.call 16 [(.var .bool (x+16)),(.var .nat (x+17)),(.var kI (x+18)),(.var .bool (x+19)),(.var .nat (x+20)),(.var kI (x+21))] (x+23) 1
 (.ite (.not (.var .bool (x+23)))
 (.call 15 [(.var .bool (x+7)),(.var .nat (x+8)),(.var kI (x+9)),(.var .bool (x+11)),(.var .nat (x+12)),(.var kI (x+13))] (x+24) 3
 (.ite (.bin .gtr .i64 (.dlen (.var .nat (x+25))) (.lit 0))
 U
 (SS x)))
 (SS x)))))))))))))))))
theorem aBL {n:Nat} (h:n%2=0):wJ .and .u64 (wd n 0) 1=0:=by
 unfold wd;rw[and1 _ (Nat.mod_lt _ (by decide)),Nat.pow_zero,Nat.div_one];have:n%vZ%2=0:=by unfold vZ;omega
 rw[this];rfl
theorem aBM {f c:Nat} (hf:f<4) (n:Bool) (h:c%2=0):FP.mk f n c%2=0:=by obtain⟨n1,n2,n3,n4,n5,n6,n7,n8,n9⟩:=FP.axv hf;unfold FP.mk;obtain⟨w,hw⟩:∃ w,FP.fW f-1=w+1:=⟨FP.fW f-2,by omega⟩;rw[hw,Nat.pow_succ,<- Nat.mul_assoc];generalize n.toNat*2^w=y;omega
theorem Vs {s t:Bool} {M K j d:Nat} {E F:Int} (hM:M<2^j) (hK:K<2^j) (h1:E-F<=d) (h2:F-E<=d):FP.aCz s t M E K F<2^(j+d+1):=by
 have hA:M*2^(E-min E F).toNat<2^(j+d):=LD (Qo hM) (by omega);have hB:K*2^(F-min E F).toNat<2^(j+d):=LD (Qo hK) (by omega);unfold FP.aCz;generalize M*2^(E-min E F).toNat=A at *
 generalize K*2^(F-min E F).toNat=B at *
 rw[Nat.pow_succ];unfold FP.sgV;split
 ·omega
 ·split<;>omega
abbrev SX:yE:=wH Ei Ej ZZ
theorem lf1 {l:List Int} : wE SX Gu (.leaf (.bool (.lit 1))) l = [1]:=(wu rfl).trans (by simp only[vS])
theorem aBN {p:List Int} {x:Nat} (hx:p.length=x) {f o1 o0:Int} {aw s n:Bool} {Q N D c R k j:Nat} {E:Int} (h1:∀ r,wC (p++r) 1=f) (h9:∀ r,wC (p++r) 9=o1) (h10:∀ r,wC (p++r) 10=o0) (hf:fN f<4)
  (hX:FP.Exact (fN f) s Q E n N D) (hQ:Q<2^j) (hj:j<=800000) (hj2:200<=j) (he1 : -40000<=E) (he2:E<=40000)
  (hro:FP.acJ (FP.fP (fN f)) (FP.fE (fN f)) (bif aw then 1 else 0) false n N D=(c,k)) (hR:R=FP.mk (fN f) n c) (hfo:vT (fN f) (nB o1 o0)<3) :
  wE SX Gu (aff (bif aw then YP x else YQ x) x) (p ++ [wh s,(Q:Int),E,0,wd R 1,wd R 0,(k:Int)]) = [1]:=by
 have g:=gPn hx;have hi:=aqW hf;have hcl:c<=FP.inf (fN f):=by have:=FP.aDI (FP.fP (fN f)) (FP.fE (fN f)) (bif aw then 1 else 0) false n N D;rw[hro] at this;exact this
 have hRw:R<wy:=by rw[hR];exact arf hf n (by omega)
 have hcod:FP.cod (fN f) R=c:=by rw[hR];exact FP.aDA n (by omega)
 have hsgn:FP.sgn (fN f) R=n:=by rw[hR];exact FP.aDQ n (by omega)
 have E1:=amQ (f:=u8 f) (a:=wd R 1) (b:=wd R 0) (by rw[wz];exact hf);rw[wz,yH hRw,hcod,hsgn] at E1;have E2:=amQ (f:=u8 f) (a:=u64 o1) (b:=u64 o0) (by rw[wz];exact hf);rw[wz,wX] at E2;obtain⟨O,hO⟩:∃ O,O=nB o1 o0:=⟨_,rfl⟩;rw[<- hO] at E2 hfo;obtain⟨d,hd⟩:∃ d,d=FP.cod (fN f) O:=⟨_,rfl⟩;obtain⟨t,ht⟩:∃ t,t=FP.sgn (fN f) O:=⟨_,rfl⟩;rw[<- hd,<- ht] at E2;unfold aff;refine(vX (r:=[wh n,((FP.vM (fN f) c:Nat):Int),FP.vE (fN f) c,wh (decide (vT (fN f) R<=2))]) (by simp only[vS,g,h1,amJ];exact E1) (by rfl)).trans ?_;refine(vX (r:=[wh t,((FP.vM (fN f) d:Nat):Int),FP.vE (fN f) d,wh (decide (vT (fN f) O<=2))]) (by simp only[vS,zh,g,h1,h9,h10,amJ];exact E2) (by rfl)).trans ?_;refine tF (by simp only[vS,zh,g];rfl) ?_;have hcls:vT (fN f) R=FP.aeV (fN f) c:=by rw[Np hf,hcod]
 have hnan:¬ 4<=vT (fN f) R:=by rw[hcls,FP.aDt];omega
 refine(vX (r:=[wh (decide (4<=vT (fN f) R))]) (by simp only[vS,zh,g,h1,aBB];rw[JK,wz,yH hRw]) (by rfl)).trans ?_;refine tF (by simp only[vS,zh,g];exact decide_eq_false hnan) ?_;refine tI (¬ vT (fN f) R<=2) (by simp only[vS,zh,g];rw[decide_not]) (λ_=>lf1) (λhfin=>?_)
 have hfin:c<FP.inf (fN f):=by rw[hcls] at hfin;exact FP.aCn.1 (by omega)
 have hdf:d<FP.inf (fN f):=by rw[hd];rw[Np hf] at hfo;exact FP.aCn.1 hfo
 obtain⟨c1,c2⟩:=FP.aDc hf hfin;obtain⟨d1,d2⟩:=FP.aDc hf hdf;have ic:i64 (FP.vE (fN f) c)=FP.vE (fN f) c:=xG (by omega) (by omega);have id':i64 (FP.vE (fN f) d)=FP.vE (fN f) d:=xG (by omega) (by omega);have iE:i64 E=E:=xG (by omega) (by omega);have lc:FP.vM (fN f) c<2^j:=LD (Vr hf c) hj2;have ld:FP.vM (fN f) d<2^j:=LD (Vr hf d) hj2;have hm:(bif aw then 1 else 0)=0\/(bif aw then 1 else 0)=1:=by cases aw<;>simp
 obtain⟨r1,r2⟩:=FP.aDx (emax:=FP.fE (fN f)) (a:=false) (neg:=n) (N:=N) (FP.aDr hf) hX.pos hm (by rw[hro];exact hfin)
 have hk8:u8 (k:Int)=(k:Int):=by have:=FP.ak1 (FP.fP (fN f)) (FP.fE (fN f)) (bif aw then 1 else 0) false n N D;rw[hro] at this;exact F6 (by omega) (by rcases this with h|h|h|h<;>(simp only[] at h;omega))
 rw[hro] at r1 r2;have hr1:c=FP.afg (FP.fP (fN f)) (bif aw then 1 else 0) n N D:=r1;rw[<- hr1] at r2;obtain⟨A1,A2,A3⟩:=FP.nearest (t:=t) hf hm hX hr1 d;have mc:=(FP.aCV hf c).2;have md:=(FP.aCV hf d).2;have mE:=hX.lvl;rw[show N=FP.val (fN f) c*D↔k=0 from r2.symm] at A3;clear r1 r2 hr1 hro hX hO hd ht E1 E2 hi hcl hcod;generalize hvc:FP.vM (fN f) c=Mc at *
 generalize hvd:FP.vM (fN f) d=Md at *
 generalize hec:FP.vE (fN f) c=Ec at *
 generalize hed:FP.vE (fN f) d=Ed at *
 refine tI (E-Ec>5000) (by simp only[vS,zh,g];rw[iE,ic,xG (by omega) (by omega)]) (λ_=>lf1) (λg1=>?_);refine tI (Ec-E>5000) (by simp only[vS,zh,g];rw[iE,ic,xG (by omega) (by omega)]) (λ_=>lf1) (λg2=>?_);refine tI (Ed-E>5000) (by simp only[vS,zh,g];rw[iE,id',xG (by omega) (by omega)]) (λ_=>lf1) (λg3=>?_);refine tI (E-Ed>5000) (by simp only[vS,zh,g];rw[iE,id',xG (by omega) (by omega)]) (λ_=>lf1) (λg4=>?_);have lP:=Vs (s:=s) (t := !n) (d:=5000) hQ lc (E:=E) (F:=Ec) (by omega) (by omega);have lQ:=Vs (s:=s) (t := !t) (d:=5000) hQ ld (E:=E) (F:=Ed) (by omega) (by omega);have lZ:=Vs (s:=n) (t := !t) (d:=10000) lc ld (E:=Ec) (F:=Ed) (by omega) (by omega);have S1:=afd (s:=wh s) (t:=wh n) hQ lc (by omega) (E:=i64 E) (F:=i64 Ec) (by rw[xD,iE]) (by rw[xD,ic]) he1 he2 (by omega) (by omega);have S2:=afd (s:=wh s) (t:=wh t) hQ ld (by omega) (E:=i64 E) (F:=i64 Ed) (by rw[xD,iE]) (by rw[xD,id']) he1 he2 (by omega) (by omega);have S3:=afd (s:=wh n) (t:=wh t) lc ld (by omega) (E:=i64 Ec) (F:=i64 Ed) (by rw[xD,ic]) (by rw[xD,id']) (by omega) (by omega) (by omega) (by omega);simp only[wP] at S1 S2 S3;have lP2:=LD lP (show j+5000+1<=900000 by omega);have lQ2:=LD lQ (show j+5000+1<=900000 by omega);obtain⟨P,hP⟩:∃ q,q=FP.aCz s (!n) Q E Mc Ec:=⟨_,rfl⟩;obtain⟨Y,hY⟩:∃ q,q=FP.aCz s (!t) Q E Md Ed:=⟨_,rfl⟩;obtain⟨Z,hZ⟩:∃ q,q=FP.aCz n (!t) Mc Ec Md Ed:=⟨_,rfl⟩;obtain⟨eP,heP⟩:∃ q,q=min E Ec:=⟨_,rfl⟩;obtain⟨eY,heY⟩:∃ q,q=min E Ed:=⟨_,rfl⟩;obtain⟨u,hu⟩:∃ u,u=FP.fU (fN f)+FP.fU (fN f):=⟨_,rfl⟩;rw[<- hP,<- heP] at S1;rw[<- hY,<- heY] at S2;rw[<- hZ] at S3 lZ;rw[<- hP] at lP lP2;rw[<- hY] at lQ lQ2;rw[<- hu] at mc md mE;rw[<- hP,<- hY,<- heP,<- heY,<- hu] at A1;rw[<- hP,<- hY,<- heP,<- heY,<- hZ,<- hu] at A2;rw[<- hP] at A3;have iP:i64 eP=eP:=xG (by omega) (by omega);have iY:i64 eY=eY:=xG (by omega) (by omega);have T1:=afe u (s:=wh (ww 0)) (t:=wh (ww 0)) lQ2 lP2 (by omega) (E:=i64 eY) (F:=i64 eP) (by rw[xD,iY]) (by rw[xD,iP]) (by omega) (by omega) (by omega) (by omega) (by omega) (by omega);have T2:=afe u (s:=wh (ww 0)) (t:=wh (ww 0)) lP2 lQ2 (by omega) (E:=i64 eP) (F:=i64 eY) (by rw[xD,iP]) (by rw[xD,iY]) (by omega) (by omega) (by omega) (by omega) (by omega) (by omega);have T3:=afe u (s:=wh n) (t:=wh t) lc ld (by omega) (E:=i64 Ec) (F:=i64 Ed) (by rw[xD,ic]) (by rw[xD,id']) (by omega) (by omega) (by omega) (by omega) (by omega) (by omega);rw[decide_eq_false A1] at T1;refine(vX (r:=[0,(P:Int),eP]) (by simp only[vS,zh,g,wI,ae7];exact S1) (by rfl)).trans ?_;refine(vX (r:=[0,(Y:Int),eY]) (by simp only[vS,zh,g,wI,ae7];exact S2) (by rfl)).trans ?_;refine(vX (r:=[wh false]) (by simp only[vS,zh,g,wI,ae8];exact T1) (by rfl)).trans ?_;refine tF (by simp only[vS,zh,g]) ?_;refine(vX (r:=[wh (decide (FP.mg u P eP<FP.mg u Y eY))]) (by simp only[vS,zh,g,wI,ae8];exact T2) (by rfl)).trans ?_
 have hend:∀ r,wE SX Gu (SS x) (p++(wh s::(Q:Int)::E::0::wd R 1::wd R 0::(k:Int)::wh n::(Mc:Int)::Ec::wh (decide (vT (fN f) R<=2))::wh t::(Md:Int)::Ed::wh (decide (vT (fN f) O<=2))::wh (decide (4<=vT (fN f) R))::0::(P:Int)::eP::r)) = [1]:=by
  intro r;unfold SS;refine tT ?_ lf1;simp only[wI,g,hk8];have hdl:=acd (n:=P);by_cases hk0:k=0
  ·rw[hdl.2 (A3.2 hk0),hk0];rfl
  ·have h3:wO P≠0:=λh=>hk0 (A3.1 (hdl.1 h))
   rw[show(((wO P:Nat):Int)==0)=false from beq_eq_false_iff_ne.2 (by omega),show(((k:Nat):Int)==0)=false from beq_eq_false_iff_ne.2 (by omega)];rfl
 refine tI (¬ FP.mg u P eP<FP.mg u Y eY) (by simp only[vS,zh,g];rw[decide_not]) (λhle=>?_) (λ_=>?_)
 ·refine(vX (r:=[0,(Z:Int),min Ec Ed]) (by simp only[vS,zh,g,wI,ae7];exact S3) (by rfl)).trans ?_;refine tI (Z≠0) (by simp only[wI,zh,g];rw[decide_eq_decide];have hdl:=acd (n:=Z);omega) (λhz=>?_) (λ_=>?_)
  ·cases aw with
   | true =>
    show wE SX Gu (YP x) _ = [1];unfold YP;rw[decide_eq_false ((A2 hle hz).2 rfl)] at T3;refine(vX (r:=[wh false]) (by simp only[vS,zh,g,wI,ae8];exact T3) (by rfl)).trans ?_;refine tF (by simp only[vS,zh,g]) ?_;simp only[zh,wV,wW,xM];exact hend _
   | false =>
    show wE SX Gu (YQ x) _ = [1];unfold YQ;have hev:=aBL (aBM hf n ((A2 hle hz).1 rfl));rw[<- hR] at hev;refine tF (by simp only[vS,zh,g];rw[hev];rfl) ?_;simp only[zh,wV,wW,xM];exact hend _
  ·simp only[zh,wV,wW,xM];exact hend _
 ·simp only[zh,wV,wW,xM];exact hend _
theorem SY {T:vU SV} {p:List Int} {x:Nat} {f o1 o0:Int} {aw s n:Bool} {Q N D c R k j:Nat} {E:Int} (hx:p.length=x) (hT:T=aff (bif aw then YP x else YQ x) x) (h1:∀ r,wC (p++r) 1=f/\wC (p++r) 9=o1/\wC (p++r) 10=o0) (hf:fN f<4)
  (hX:FP.Exact (fN f) s Q E n N D) (hQ:Q<2^j) (hj:j<=800000) (hj2:200<=j) (he1 : -40000<=E) (he2:E<=40000)
  (hro:FP.acJ (FP.fP (fN f)) (FP.fE (fN f)) (bif aw then 1 else 0) false n N D=(c,k)) (hR:R=FP.mk (fN f) n c) (hfo:vT (fN f) (nB o1 o0)<3) :
  wE SX Gu T ((p ++ [wh s,(Q:Int),E]) ++ [0,wd R 1,wd R 0,(k:Int)]) = [1]:=by
 rw[hT,zh];exact aBN hx (λr=>(h1 r).1) (λr=>(h1 r).2.1) (λr=>(h1 r).2.2) hf hX hQ hj hj2 he1 he2 hro hR hfo
theorem Bg {Φ:yE} {ct:Ct} {c:X} {a b:vU SV} {l r:List Int} (p:Prop) [Decidable p] (hc:ww (c.ev l)=decide p) (hn:¬ p) (hf:wE Φ ct b l=r):wE Φ ct (.ite c a b) l=r:=tI p hc (λh=>absurd h hn) (λ_=>hf)
theorem Kn {Φ:yE} {ct:Ct} {c:X} {a b:vU SV} {l r:List Int} (p:Prop) [Decidable p] (hc:ww (c.ev l)=decide p) (hp:p) (hf:wE Φ ct a l=r):wE Φ ct (.ite c a b) l=r:=tI p hc (λ_=>hf) (λh=>absurd hp h)
theorem Ot {f n:Nat} (hf:f<4) (h:n<2^FP.fW f):BZ f n=true:=by unfold BZ;rw[decide_eq_true hf,decide_eq_true h];rfl
theorem amS {f m a1 a0 b1 b0:Int} {R k:Nat} (hf:fN f<4) (hm:u8 m<=4) (h8:u8 m=m) (ha:nB a1 a0<2^FP.fW (fN f)) (hb:nB b1 b0<2^FP.fW (fN f)) (hk:k<=24) (hR:Gf (fN f) (u8 m).toNat false (nB a1 a0) (nB b1 b0)=(R,k)) :
  xw [1,f,0,m,0,a1,a0,b1,b0,0,0] = [0,wd R 1,wd R 0,(k:Int)]:=by
 have h4:=(Hg f).2 hf;have hk8:u8 (k:Int)=(k:Int):=F6 (by omega) (by omega);rw[xw,Mj];refine Kn (u8 1=1) (by simp only[vS];rfl) (by decide) ?_;refine Bg (¬ u8 f<4) (by simp only[vS];rw[decide_not]) (λh=>h h4) ?_;refine Bg (¬ u8 m<=4) (by simp only[vS];rw[decide_not]) (λh=>h hm) ?_;refine Bg (u8 0>1) (by simp only[vS]) (by decide) ?_;refine Bg (¬ u8 0=0) (by simp only[vS];rw[decide_not];rfl) (by decide) ?_;refine(vX (r:=[wh (BZ (fN f) (nB a1 a0))]) (by simp only[vS,Oj];rw[Ou,wz,wX]) (by rfl)).trans ?_;refine Kn (BZ (fN f) (nB a1 a0)=true) (by simp only[vS];exact(Bool.decide_coe _).symm) (Ot hf ha) ?_;refine(vX (r:=[wh (BZ (fN f) (nB b1 b0))]) (by simp only[vS,Oj];rw[Ou,wz,wX]) (by rfl)).trans ?_;refine Kn (BZ (fN f) (nB b1 b0)=true) (by simp only[vS];exact(Bool.decide_coe _).symm) (Ot hf hb) ?_;refine Bg (¬ nB 0 0=0) (by simp only[vS];rw[decide_not];exact congrArg not (zB _ _)) (λh=>h (by decide)) ?_;refine(vX (r:=[wd R 1,wd R 0,(k:Int)]) (by simp only[vS,aAm];rw[aCa (φ:=fN f) (μ:=(u8 m).toNat) (τ:=false) (wz f) hf (by rw[Ak]) (by rw[Ak];exact hm) (by decide) (wX _ _) (wX _ _),hR]) (by rfl)).trans ?_;rw[wu rfl];simp only[vS,hk8]
theorem amT {f m a1 a0 b1 b0:Int} {R k:Nat} (hf:fN f<4) (hm:u8 m<=4) (h8:u8 m=m) (ha:nB a1 a0<2^FP.fW (fN f)) (hb:nB b1 b0<2^FP.fW (fN f)) (hk:k<=24) (hR:Ll (fN f) (u8 m).toNat false (nB a1 a0) (nB b1 b0)=(R,k)) :
  xw [3,f,0,m,0,a1,a0,b1,b0,0,0] = [0,wd R 1,wd R 0,(k:Int)]:=by
 have h4:=(Hg f).2 hf;have hk8:u8 (k:Int)=(k:Int):=F6 (by omega) (by omega);rw[xw,Mj];refine Bg (u8 3=1) (by simp only[vS];rfl) (by decide) ?_;refine Bg (u8 3=2) (by simp only[vS];rfl) (by decide) ?_;refine Kn (u8 3=3) (by simp only[vS];rfl) (by decide) ?_;refine Bg (¬ u8 f<4) (by simp only[vS];rw[decide_not]) (λh=>h h4) ?_;refine Bg (¬ u8 m<=4) (by simp only[vS];rw[decide_not]) (λh=>h hm) ?_;refine Bg (u8 0>1) (by simp only[vS]) (by decide) ?_;refine Bg (¬ u8 0=0) (by simp only[vS];rw[decide_not];rfl) (by decide) ?_;refine(vX (r:=[wh (BZ (fN f) (nB a1 a0))]) (by simp only[vS,Oj];rw[Ou,wz,wX]) (by rfl)).trans ?_;refine Kn (BZ (fN f) (nB a1 a0)=true) (by simp only[vS];exact(Bool.decide_coe _).symm) (Ot hf ha) ?_;refine(vX (r:=[wh (BZ (fN f) (nB b1 b0))]) (by simp only[vS,Oj];rw[Ou,wz,wX]) (by rfl)).trans ?_;refine Kn (BZ (fN f) (nB b1 b0)=true) (by simp only[vS];exact(Bool.decide_coe _).symm) (Ot hf hb) ?_;refine Bg (¬ nB 0 0=0) (by simp only[vS];rw[decide_not];exact congrArg not (zB _ _)) (λh=>h (by decide)) ?_;refine(vX (r:=[wd R 1,wd R 0,(k:Int)]) (by simp only[vS,aAn];rw[aCb (φ:=fN f) (μ:=(u8 m).toNat) (τ:=false) (wz f) hf (by rw[Ak]) (by rw[Ak];exact hm) (by decide) (wX _ _) (wX _ _),hR]) (by rfl)).trans ?_;rw[wu rfl];simp only[vS,hk8]
theorem amU {f m a1 a0 b1 b0 c1 c0:Int} {R k:Nat} (hf:fN f<4) (hm:u8 m<=4) (h8:u8 m=m) (ha:nB a1 a0<2^FP.fW (fN f)) (hb:nB b1 b0<2^FP.fW (fN f)) (hc:nB c1 c0<2^FP.fW (fN f)) (hk:k<=24) (hR:Ho (fN f) (u8 m).toNat false (nB a1 a0) (nB b1 b0) (nB c1 c0)=(R,k)) :
  xw [6,f,0,m,0,a1,a0,b1,b0,c1,c0] = [0,wd R 1,wd R 0,(k:Int)]:=by
 have h4:=(Hg f).2 hf;have hk8:u8 (k:Int)=(k:Int):=F6 (by omega) (by omega);rw[xw,Mj];refine Bg (u8 6=1) (by simp only[vS];rfl) (by decide) ?_;refine Bg (u8 6=2) (by simp only[vS];rfl) (by decide) ?_;refine Bg (u8 6=3) (by simp only[vS];rfl) (by decide) ?_;refine Bg (u8 6=4) (by simp only[vS];rfl) (by decide) ?_;refine Bg (u8 6=5) (by simp only[vS];rfl) (by decide) ?_;refine Kn (u8 6=6) (by simp only[vS];rfl) (by decide) ?_;refine Bg (¬ u8 f<4) (by simp only[vS];rw[decide_not]) (λh=>h h4) ?_;refine Bg (¬ u8 m<=4) (by simp only[vS];rw[decide_not]) (λh=>h hm) ?_;refine Bg (u8 0>1) (by simp only[vS]) (by decide) ?_;refine Bg (¬ u8 0=0) (by simp only[vS];rw[decide_not];rfl) (by decide) ?_;refine(vX (r:=[wh (BZ (fN f) (nB a1 a0))]) (by simp only[vS,Oj];rw[Ou,wz,wX]) (by rfl)).trans ?_;refine Kn (BZ (fN f) (nB a1 a0)=true) (by simp only[vS];exact(Bool.decide_coe _).symm) (Ot hf ha) ?_;refine(vX (r:=[wh (BZ (fN f) (nB b1 b0))]) (by simp only[vS,Oj];rw[Ou,wz,wX]) (by rfl)).trans ?_;refine Kn (BZ (fN f) (nB b1 b0)=true) (by simp only[vS];exact(Bool.decide_coe _).symm) (Ot hf hb) ?_;refine(vX (r:=[wh (BZ (fN f) (nB c1 c0))]) (by simp only[vS,Oj];rw[Ou,wz,wX]) (by rfl)).trans ?_;refine Bg (¬ BZ (fN f) (nB c1 c0)=true) (by simp only[vS];rw[decide_not];exact congrArg not (Bool.decide_coe _).symm) (λh=>h (Ot hf hc)) ?_;refine(vX (r:=[wd R 1,wd R 0,(k:Int)]) (by simp only[vS,aAo];rw[auD _ _ _ _ _ _ _ _ _ (by rw[wz];exact hf) (by rw[Ak];exact hm)];simp only[wz,wX,Ak,show ww (wh (u8 0==1))=false from rfl];rw[hR,UL]) (by rfl)).trans ?_;rw[wu rfl];simp only[vS,hk8]
theorem IZ {f:Nat} (hf:f<4) (A:Nat):A%2^FP.fW f<2^FP.fW f/\FP.cod f (A%2^FP.fW f)=FP.cod f A/\FP.sgn f (A%2^FP.fW f)=FP.sgn f A/\vT f (A%2^FP.fW f)=vT f A:=by
 have h:=FP.aDR hf A;have h1:FP.cod f (A%2^FP.fW f)=FP.cod f A:=by rw[<- h];exact FP.aDA _ (FP.aCH f A)
 refine⟨Nat.mod_lt _ (FP.two_pow_pos _),h1,?_,by rw[Np hf,Np hf,h1]⟩;rw[<- h];exact FP.aDQ _ (FP.aCH f A)
theorem S9 {p e m:Nat} {a n:Bool} {N D:Nat} : (FP.acJ p e m a n N D).2<=24:=by have:=FP.ak1 p e m a n N D;omega
theorem amV {f:Nat} (hf:f<4) (m:Nat) {A B:Nat} (fa:vT f A<3) (fb:vT f B<3):Gf f m false (A%2^FP.fW f) (B%2^FP.fW f) =
  (FP.mk f (FP.addN f m (FP.sgn f A) (FP.sgn f B) (FP.cod f A) (FP.cod f B)) (FP.aDl f m false (FP.sgn f A) (FP.sgn f B) (FP.cod f A) (FP.cod f B)).1,(FP.aDl f m false (FP.sgn f A) (FP.sgn f B) (FP.cod f A) (FP.cod f B)).2):=by
 obtain⟨a0,a1,a2,a3⟩:=IZ hf A;obtain⟨b0,b1,b2,b3⟩:=IZ hf B;unfold Gf Gc;rw[a1,a2,a3,b1,b2,b3,if_neg (by omega),if_neg (by omega),if_neg (by rw[decide_eq_false (by omega)];exact Bool.false_ne_true),if_neg (by omega),if_neg (by omega)]
theorem amW {f:Nat} (hf:f<4) (m:Nat) {A B:Nat} (fa:vT f A<3) (fb:vT f B<3):Ll f m false (A%2^FP.fW f) (B%2^FP.fW f) =
  (FP.mk f (FP.sgn f A != FP.sgn f B) (FP.mulC f m false (FP.sgn f A != FP.sgn f B) (FP.cod f A) (FP.cod f B)).1,(FP.mulC f m false (FP.sgn f A != FP.sgn f B) (FP.cod f A) (FP.cod f B)).2):=by
 obtain⟨a0,a1,a2,a3⟩:=IZ hf A;obtain⟨b0,b1,b2,b3⟩:=IZ hf B;unfold Ll;rw[a1,a2,a3,b1,b2,b3,if_neg (by omega),if_neg (by omega),if_neg (λh=>by have:=auu h;unfold zf at h;simp at h;omega),if_neg (by omega)]
theorem amX {f:Nat} (hf:f<4) (m:Nat) {A B C:Nat} (fa:vT f A<3) (fb:vT f B<3) (fc:vT f C<3):Ho f m false (A%2^FP.fW f) (B%2^FP.fW f) (C%2^FP.fW f) =
  (FP.mk f (FP.aDB f m (FP.sgn f A != FP.sgn f B) (FP.sgn f C) (FP.cod f A) (FP.cod f B) (FP.cod f C)) (FP.aDK f m false (FP.sgn f A != FP.sgn f B) (FP.sgn f C) (FP.cod f A) (FP.cod f B) (FP.cod f C)).1,(FP.aDK f m false (FP.sgn f A != FP.sgn f B) (FP.sgn f C) (FP.cod f A) (FP.cod f B) (FP.cod f C)).2):=by
 obtain⟨a0,a1,a2,a3⟩:=IZ hf A;obtain⟨b0,b1,b2,b3⟩:=IZ hf B;obtain⟨c0,c1,c2,c3⟩:=IZ hf C;have hI:Gg f (A%2^FP.fW f) (B%2^FP.fW f)=false:=by unfold Gg;rw[a3,b3,decide_eq_false (by omega),decide_eq_false (by omega)];rfl
 have hb:zf (vT f A) (vT f B)=false:=by apply Bool.eq_false_iff.2;intro h;unfold zf at h;simp at h;omega
 unfold Ho II Nw IJ;rw[hI,a1,a2,a3,b1,b2,b3,c1,c2,c3,hb,if_neg (by omega),if_neg (by omega),if_neg (by omega),if_neg (by simp),if_neg (by simp),if_neg (by omega),if_neg (by simp),if_neg (by omega)]
theorem aBO (x:Int):wJ .rem .u8 (u8 x) 3=0\/wJ .rem .u8 (u8 x) 3=1\/wJ .rem .u8 (u8 x) 3=2:=by have h:=Ew x;show(u8 x).tmod 3=0\/(u8 x).tmod 3=1\/(u8 x).tmod 3=2;rw[Int.tmod_eq_emod_of_nonneg h.1];omega
theorem amY {n a b:Nat} (ha:a<2^n) (hb:b<2^n):a*b<2^(n+n):=by rw[Nat.pow_add];exact Nat.mul_lt_mul'' ha hb
theorem wdM (f A:Nat) (hf:f<4):nB (wd (A%2^FP.fW f) 1) (wd (A%2^FP.fW f) 0)=A%2^FP.fW f:=yH (Nat.lt_of_lt_of_le (Nat.mod_lt _ (FP.two_pow_pos _)) (PV (FP.axv hf).2.2.2.1))
theorem aBP (l:List Int) (h:l.length=11):ae5 l = [1]:=by
 match l,h with
 | [op,f,aw,a1,a0,b1,b0,c1,c0,o1,o0],_ =>
 rw[ae5,ae4];refine tI (u8 f>3) (by simp only[vS]) (λ_=>lf1) (λhf0=>?_);have h4:u8 f<4:=by omega
 have hf:fN f<4:=(Hg f).1 h4;have hfu:fN (u8 f)<4:=by rw[wz];exact hf
 refine(vX (r:=[wh (!decide (vT (fN f) (nB a1 a0)<3))]) (by simp only[vS,YM];rw[YO hfu,wz,wX]) (by rfl)).trans ?_;refine tI (¬ vT (fN f) (nB a1 a0)<3) (by simp only[vS];rw[decide_not]) (λ_=>lf1) (λfa=>?_);have fa:=Decidable.not_not.1 fa;refine(vX (r:=[wh (!decide (vT (fN f) (nB b1 b0)<3))]) (by simp only[vS,YM];rw[YO hfu,wz,wX]) (by rfl)).trans ?_;refine tI (¬ vT (fN f) (nB b1 b0)<3) (by simp only[vS];rw[decide_not]) (λ_=>lf1) (λfb=>?_);have fb:=Decidable.not_not.1 fb;refine(vX (r:=[wh (!decide (vT (fN f) (nB c1 c0)<3))]) (by simp only[vS,YM];rw[YO hfu,wz,wX]) (by rfl)).trans ?_;refine tI (¬ vT (fN f) (nB c1 c0)<3) (by simp only[vS];rw[decide_not]) (λ_=>lf1) (λfc=>?_);have fc:=Decidable.not_not.1 fc;refine(vX (r:=[wh (!decide (vT (fN f) (nB o1 o0)<3))]) (by simp only[vS,YM];rw[YO hfu,wz,wX]) (by rfl)).trans ?_;refine tI (¬ vT (fN f) (nB o1 o0)<3) (by simp only[vS];rw[decide_not]) (λ_=>lf1) (λfo=>?_);have fo:=Decidable.not_not.1 fo;have RA:=λ(w:Int)=>FP.aDc (f:=fN f) (c:=FP.cod (fN f) (nB a1 a0)) hf (by rw[Np hf] at fa;exact FP.aCn.1 fa)
 obtain⟨ra1,ra2⟩:=RA 0;obtain⟨rb1,rb2⟩:=FP.aDc (f:=fN f) (c:=FP.cod (fN f) (nB b1 b0)) hf (by rw[Np hf] at fb;exact FP.aCn.1 fb);obtain⟨rc1,rc2⟩:=FP.aDc (f:=fN f) (c:=FP.cod (fN f) (nB c1 c0)) hf (by rw[Np hf] at fc;exact FP.aCn.1 fc);clear RA;have Ca:Dp [u8 f,u64 a1,u64 a0] = [wd (nB a1 a0%2^FP.fW (fN f)) 1,wd (nB a1 a0%2^FP.fW (fN f)) 0]:=afh (wz f) (wX _ _);have Va:Hm [u8 f,u64 a1,u64 a0] = [wh (FP.sgn (fN f) (nB a1 a0)),((FP.vM (fN f) (FP.cod (fN f) (nB a1 a0)):Nat):Int),FP.vE (fN f) (FP.cod (fN f) (nB a1 a0))]:=by rw[XP hfu,wz,wX]
 have wa:=wdM (fN f) (nB a1 a0) hf;have ta:=(IZ hf (nB a1 a0)).1;generalize nB a1 a0=A at *
 have Cb:Dp [u8 f,u64 b1,u64 b0] = [wd (nB b1 b0%2^FP.fW (fN f)) 1,wd (nB b1 b0%2^FP.fW (fN f)) 0]:=afh (wz f) (wX _ _);have Vb:Hm [u8 f,u64 b1,u64 b0] = [wh (FP.sgn (fN f) (nB b1 b0)),((FP.vM (fN f) (FP.cod (fN f) (nB b1 b0)):Nat):Int),FP.vE (fN f) (FP.cod (fN f) (nB b1 b0))]:=by rw[XP hfu,wz,wX]
 have wb:=wdM (fN f) (nB b1 b0) hf;have tb:=(IZ hf (nB b1 b0)).1;generalize nB b1 b0=B at *
 have Cc:Dp [u8 f,u64 c1,u64 c0] = [wd (nB c1 c0%2^FP.fW (fN f)) 1,wd (nB c1 c0%2^FP.fW (fN f)) 0]:=afh (wz f) (wX _ _);have Vc:Hm [u8 f,u64 c1,u64 c0] = [wh (FP.sgn (fN f) (nB c1 c0)),((FP.vM (fN f) (FP.cod (fN f) (nB c1 c0)):Nat):Int),FP.vE (fN f) (FP.cod (fN f) (nB c1 c0))]:=by rw[XP hfu,wz,wX]
 have wc:=wdM (fN f) (nB c1 c0) hf;have tc:=(IZ hf (nB c1 c0)).1;generalize nB c1 c0=C at *
 clear h4 hf0;have rq:=aBO op;generalize hq:wJ .rem .u8 (u8 op) 3=q at *
 refine(vX (r:=[wd (A%2^FP.fW (fN f)) 1,wd (A%2^FP.fW (fN f)) 0]) (by simp only[vS,ae6];exact Ca) (by rfl)).trans ?_;refine(vX (r:=[wd (B%2^FP.fW (fN f)) 1,wd (B%2^FP.fW (fN f)) 0]) (by simp only[vS,ae6];exact Cb) (by rfl)).trans ?_;refine(vX (r:=[wh (FP.sgn (fN f) A),((FP.vM (fN f) (FP.cod (fN f) A):Nat):Int),FP.vE (fN f) (FP.cod (fN f) A)]) (by simp only[wI,Oq];exact Va) (by rfl)).trans ?_;refine(vX (r:=[wh (FP.sgn (fN f) B),((FP.vM (fN f) (FP.cod (fN f) B):Nat):Int),FP.vE (fN f) (FP.cod (fN f) B)]) (by simp only[wI,Oq];exact Vb) (by rfl)).trans ?_;have iA:i64 (FP.vE (fN f) (FP.cod (fN f) A))=(FP.vE (fN f) (FP.cod (fN f) A)):=xG (by omega) (by omega);have iB:i64 (FP.vE (fN f) (FP.cod (fN f) B))=(FP.vE (fN f) (FP.cod (fN f) B)):=xG (by omega) (by omega);have iC:i64 (FP.vE (fN f) (FP.cod (fN f) C))=(FP.vE (fN f) (FP.cod (fN f) C)):=xG (by omega) (by omega);have lA:=Vr hf (FP.cod (fN f) A);have lB:=Vr hf (FP.cod (fN f) B);have lC:=Vr hf (FP.cod (fN f) C);refine(vX (r:=[wh (FP.aDk (FP.sgn (fN f) A) (FP.sgn (fN f) B) (FP.vM (fN f) (FP.cod (fN f) A)) (FP.vE (fN f) (FP.cod (fN f) A)) (FP.vM (fN f) (FP.cod (fN f) B)) (FP.vE (fN f) (FP.cod (fN f) B))),((FP.aCz (FP.sgn (fN f) A) (FP.sgn (fN f) B) (FP.vM (fN f) (FP.cod (fN f) A)) (FP.vE (fN f) (FP.cod (fN f) A)) (FP.vM (fN f) (FP.cod (fN f) B)) (FP.vE (fN f) (FP.cod (fN f) B)):Nat):Int),min (FP.vE (fN f) (FP.cod (fN f) A)) (FP.vE (fN f) (FP.cod (fN f) B))]) (by simp only[wI,amH];exact(afc (ε:=(FP.vE (fN f) (FP.cod (fN f) A))) (φ:=(FP.vE (fN f) (FP.cod (fN f) B))) lA lB (by omega) (by rw[xD];exact iA) (by rw[xD];exact iB) (by omega) (by omega) (by omega) (by omega)).trans (by rw[wP,wP])) (by rfl)).trans ?_;refine tI (q=1) (by simp only[wI,hq];rfl) (λq1=>?_) (λq1=>?_)
 ·refine(vX (r:=[wd (C%2^FP.fW (fN f)) 1,wd (C%2^FP.fW (fN f)) 0]) (by simp only[vS,ae6];exact Cc) (by rfl)).trans ?_;refine(vX (r:=[wh (FP.sgn (fN f) A),((FP.vM (fN f) (FP.cod (fN f) A):Nat):Int),FP.vE (fN f) (FP.cod (fN f) A)]) (by simp only[wI,Oq];exact Va) (by rfl)).trans ?_;refine(vX (r:=[wh (FP.sgn (fN f) B),((FP.vM (fN f) (FP.cod (fN f) B):Nat):Int),FP.vE (fN f) (FP.cod (fN f) B)]) (by simp only[wI,Oq];exact Vb) (by rfl)).trans ?_;refine(vX (r:=[wh ((FP.sgn (fN f) A) != (FP.sgn (fN f) B)),(((FP.vM (fN f) (FP.cod (fN f) A))*(FP.vM (fN f) (FP.cod (fN f) B)):Nat):Int),(FP.vE (fN f) (FP.cod (fN f) A))+(FP.vE (fN f) (FP.cod (fN f) B))]) (by simp only[wI,amI];exact(amP (ε:=(FP.vE (fN f) (FP.cod (fN f) A))) (φ:=(FP.vE (fN f) (FP.cod (fN f) B))) lA lB (by omega) (by rw[xD];exact iA) (by rw[xD];exact iB) (by omega) (by omega) (by omega) (by omega)).trans (by rw[wP,wP])) (by rfl)).trans ?_;refine(vX (r:=[wh (FP.sgn (fN f) C),((FP.vM (fN f) (FP.cod (fN f) C):Nat):Int),FP.vE (fN f) (FP.cod (fN f) C)]) (by simp only[wI,Oq];exact Vc) (by rfl)).trans ?_;have iAB:i64 ((FP.vE (fN f) (FP.cod (fN f) A))+(FP.vE (fN f) (FP.cod (fN f) B)))=(FP.vE (fN f) (FP.cod (fN f) A))+(FP.vE (fN f) (FP.cod (fN f) B)):=xG (by omega) (by omega);have lAB:=amY lA lB;have lC2:=LD lC (show 200<=200+200 by omega);refine(vX (r:=[wh (FP.aDk ((FP.sgn (fN f) A) != (FP.sgn (fN f) B)) (FP.sgn (fN f) C) ((FP.vM (fN f) (FP.cod (fN f) A))*(FP.vM (fN f) (FP.cod (fN f) B))) ((FP.vE (fN f) (FP.cod (fN f) A))+(FP.vE (fN f) (FP.cod (fN f) B))) (FP.vM (fN f) (FP.cod (fN f) C)) (FP.vE (fN f) (FP.cod (fN f) C))),((FP.aCz ((FP.sgn (fN f) A) != (FP.sgn (fN f) B)) (FP.sgn (fN f) C) ((FP.vM (fN f) (FP.cod (fN f) A))*(FP.vM (fN f) (FP.cod (fN f) B))) ((FP.vE (fN f) (FP.cod (fN f) A))+(FP.vE (fN f) (FP.cod (fN f) B))) (FP.vM (fN f) (FP.cod (fN f) C)) (FP.vE (fN f) (FP.cod (fN f) C)):Nat):Int),min ((FP.vE (fN f) (FP.cod (fN f) A))+(FP.vE (fN f) (FP.cod (fN f) B))) (FP.vE (fN f) (FP.cod (fN f) C))]) (by simp only[wI,amH];exact(afc (ε:=((FP.vE (fN f) (FP.cod (fN f) A))+(FP.vE (fN f) (FP.cod (fN f) B)))) (φ:=(FP.vE (fN f) (FP.cod (fN f) C))) lAB lC2 (by omega) (by rw[xD];exact iAB) (by rw[xD];exact iC) (by omega) (by omega) (by omega) (by omega)).trans (by rw[wP,wP])) (by rfl)).trans ?_;have lQ:=Vs (s:=((FP.sgn (fN f) A) != (FP.sgn (fN f) B))) (t:=(FP.sgn (fN f) C)) (d:=100000) lAB lC2 (E:=((FP.vE (fN f) (FP.cod (fN f) A))+(FP.vE (fN f) (FP.cod (fN f) B)))) (F:=(FP.vE (fN f) (FP.cod (fN f) C))) (by omega) (by omega);refine tI (ww aw=true) (by simp only[wI];exact(Bool.decide_coe _).symm) (λhaw=>?_) (λhaw=>?_)
  ·refine(vX (r:=[0,wd _ 1,wd _ 0,((_:Nat):Int)]) (by simp only[wI,SQ];exact amU (f:=u8 f) (m:=1) hfu (by decide) (by decide) (by rw[wa,wz];exact ta) (by rw[wb,wz];exact tb) (by rw[wc,wz];exact tc) S9 (by rw[wa,wb,wc,wz];exact amX hf 1 fa fb fc)) (by rfl)).trans ?_;exact SY (aw:=true) (x:=42) (by rfl) (by kernel_rfl) (λr=>by simp only[wI,zh];exact⟨trivial,trivial,trivial⟩) hf (FP.aDh 1 hf _ _ _ _ _) lQ (by omega) (by omega) (by omega) (by omega) rfl rfl fo
  ·refine(vX (r:=[0,wd _ 1,wd _ 0,((_:Nat):Int)]) (by simp only[wI,SQ];exact amU (f:=u8 f) (m:=0) hfu (by decide) (by decide) (by rw[wa,wz];exact ta) (by rw[wb,wz];exact tb) (by rw[wc,wz];exact tc) S9 (by rw[wa,wb,wc,wz];exact amX hf 0 fa fb fc)) (by rfl)).trans ?_;exact SY (aw:=false) (x:=42) (by rfl) (by kernel_rfl) (λr=>by simp only[wI,zh];exact⟨trivial,trivial,trivial⟩) hf (FP.aDh 0 hf _ _ _ _ _) lQ (by omega) (by omega) (by omega) (by omega) rfl rfl fo
 ·refine tI (q=2) (by simp only[wI,hq];rfl) (λq2=>?_) (λq2=>?_)
  ·refine(vX (r:=[wh (FP.sgn (fN f) A),((FP.vM (fN f) (FP.cod (fN f) A):Nat):Int),FP.vE (fN f) (FP.cod (fN f) A)]) (by simp only[wI,Oq];exact Va) (by rfl)).trans ?_;refine(vX (r:=[wh (FP.sgn (fN f) B),((FP.vM (fN f) (FP.cod (fN f) B):Nat):Int),FP.vE (fN f) (FP.cod (fN f) B)]) (by simp only[wI,Oq];exact Vb) (by rfl)).trans ?_;refine(vX (r:=[wh ((FP.sgn (fN f) A) != (FP.sgn (fN f) B)),(((FP.vM (fN f) (FP.cod (fN f) A))*(FP.vM (fN f) (FP.cod (fN f) B)):Nat):Int),(FP.vE (fN f) (FP.cod (fN f) A))+(FP.vE (fN f) (FP.cod (fN f) B))]) (by simp only[wI,amI];exact(amP (ε:=(FP.vE (fN f) (FP.cod (fN f) A))) (φ:=(FP.vE (fN f) (FP.cod (fN f) B))) lA lB (by omega) (by rw[xD];exact iA) (by rw[xD];exact iB) (by omega) (by omega) (by omega) (by omega)).trans (by rw[wP,wP])) (by rfl)).trans ?_;have lAB:=amY lA lB;refine tI (ww aw=true) (by simp only[wI];exact(Bool.decide_coe _).symm) (λhaw=>?_) (λhaw=>?_)
   ·refine(vX (r:=[0,wd _ 1,wd _ 0,((_:Nat):Int)]) (by simp only[wI,SQ];exact amT (f:=u8 f) (m:=1) hfu (by decide) (by decide) (by rw[wa,wz];exact ta) (by rw[wb,wz];exact tb) S9 (by rw[wa,wb,wz];exact amW hf 1 fa fb)) (by rfl)).trans ?_;exact SY (aw:=true) (x:=34) (by rfl) (by kernel_rfl) (λr=>by simp only[wI,zh];exact⟨trivial,trivial,trivial⟩) hf (FP.aDg hf _ _ _) lAB (by omega) (by omega) (by omega) (by omega) rfl rfl fo
   ·refine(vX (r:=[0,wd _ 1,wd _ 0,((_:Nat):Int)]) (by simp only[wI,SQ];exact amT (f:=u8 f) (m:=0) hfu (by decide) (by decide) (by rw[wa,wz];exact ta) (by rw[wb,wz];exact tb) S9 (by rw[wa,wb,wz];exact amW hf 0 fa fb)) (by rfl)).trans ?_;exact SY (aw:=false) (x:=34) (by rfl) (by kernel_rfl) (λr=>by simp only[wI,zh];exact⟨trivial,trivial,trivial⟩) hf (FP.aDg hf _ _ _) lAB (by omega) (by omega) (by omega) (by omega) rfl rfl fo
  ·obtain rfl:q=0:=by omega
   have lQ:=Vs (s:=(FP.sgn (fN f) A)) (t:=(FP.sgn (fN f) B)) (d:=100000) lA lB (E:=(FP.vE (fN f) (FP.cod (fN f) A))) (F:=(FP.vE (fN f) (FP.cod (fN f) B))) (by omega) (by omega);refine tI (ww aw=true) (by simp only[wI];exact(Bool.decide_coe _).symm) (λhaw=>?_) (λhaw=>?_)
   ·refine(vX (r:=[0,wd _ 1,wd _ 0,((_:Nat):Int)]) (by simp only[wI,hq,SQ];exact amS (f:=u8 f) (m:=1) hfu (by decide) (by decide) (by rw[wa,wz];exact ta) (by rw[wb,wz];exact tb) S9 (by rw[wa,wb,wz];exact amV hf 1 fa fb)) (by rfl)).trans ?_;exact SY (aw:=true) (x:=25) (by rfl) (by kernel_rfl) (λr=>by simp only[wI,zh];exact⟨trivial,trivial,trivial⟩) hf (FP.aDf 1 hf _ _ _ _) lQ (by omega) (by omega) (by omega) (by omega) rfl rfl fo
   ·refine(vX (r:=[0,wd _ 1,wd _ 0,((_:Nat):Int)]) (by simp only[wI,hq,SQ];exact amS (f:=u8 f) (m:=0) hfu (by decide) (by decide) (by rw[wa,wz];exact ta) (by rw[wb,wz];exact tb) S9 (by rw[wa,wb,wz];exact amV hf 0 fa fb)) (by rfl)).trans ?_;exact SY (aw:=false) (x:=25) (by rfl) (by kernel_rfl) (λr=>by simp only[wI,zh];exact⟨trivial,trivial,trivial⟩) hf (FP.aDf 0 hf _ _ _ _) lQ (by omega) (by omega) (by omega) (by omega) rfl rfl fo
end Go.Proofs.YtippohicjhilnaaGreatDoor
