import Derived.Test.YtippohicjhilnaaGreatDoorZ1Tn
import Derived.Test.YtippohicjhilnaaGreatDoorZNTn
import Derived.Test.YtippohicjhilnaaGreatDoorZQTn
set_option linter.unusedSimpArgs false
set_option linter.unusedVariables false
set_option maxRecDepth 100000
namespace Go.Proofs.YtippohicjhilnaaGreatDoor
open Go.RowKit
theorem atC {x y m:Nat} (hm:0<m) (h:¬ x/m=y/m):yg (x/m) (y/m)=yg x y:=by
 have h1:x/m<y/m->x<y:=λh=>Nat.lt_of_div_lt_div h
 have h2:y/m<x/m->y<x:=λh=>Nat.lt_of_div_lt_div h
 unfold yg;by_cases h3:x/m<y/m
 ·rw[if_pos h3,if_pos (h1 h3)]
 ·have h4:y/m<x/m:=by omega
  have h5:=h2 h4;rw[if_neg h3,if_pos h4,if_neg (by omega),if_pos h5]
theorem atD {x y m:Nat} (hm:0<m) (h:x/m=y/m):yg (x%m) (y%m)=yg x y:=by
 have e1:=Nat.div_add_mod x m;have e2:=Nat.div_add_mod y m;rw[<- h] at e2;generalize m*(x/m)=q at *
 unfold yg;by_cases h3:x%m<y%m
 ·rw[if_pos h3,if_pos (by omega)]
 ·by_cases h4:y%m<x%m
  ·rw[if_neg h3,if_pos h4,if_neg (by omega),if_pos (by omega)]
  ·rw[if_neg h3,if_neg h4,if_neg (by omega),if_neg (by omega)]
theorem ajf (a b c d e f g h:Int):NQ [a,b,c,d,e,f,g,h] = [yg (nW a b c d) (nW e f g h)]:=by
 have hx:=Ld a b c d;have hy:=Ld e f g h;have cx:nW (u64 a) (u64 b) (u64 c) (u64 d)=nW a b c d:=Fa _ _ _ _;have cy:nW (u64 e) (u64 f) (u64 g) (u64 h)=nW e f g h:=Fa _ _ _ _;have H1:IL [u64 a,u64 b,u64 c,u64 d] = [wd (nW a b c d/wy) 1,wd (nW a b c d/wy) 0]:=by rw[Xg,cx,wS]
 have H2:IL [u64 e,u64 f,u64 g,u64 h] = [wd (nW e f g h/wy) 1,wd (nW e f g h/wy) 0]:=by rw[Xg,cy,wS]
 have L1:IM [u64 a,u64 b,u64 c,u64 d] = [wd (nW a b c d) 1,wd (nW a b c d) 0]:=by rw[ab0,cx,wS]
 have L2:IM [u64 e,u64 f,u64 g,u64 h] = [wd (nW e f g h) 1,wd (nW e f g h) 0]:=by rw[ab0,cy,wS]
 generalize nW a b c d=x at *
 generalize nW e f g h=y at *
 rw[NQ,adZ];refine(vX (r:=[wd (x/wy) 1,wd (x/wy) 0]) (by simp only[vS,akD];exact H1) (by rfl)).trans ?_;refine(vX (r:=[wd (y/wy) 1,wd (y/wy) 0]) (by simp only[vS,akD];exact H2) (by rfl)).trans ?_;refine(vX (r:=[yg (x/wy) (y/wy)]) (by simp only[vS,akE];exact aua (af0 hx) (af0 hy)) (by rfl)).trans ?_;refine tI (¬ x/wy=y/wy) (by simp only[vS,Nz];show(!(yg _ _==0))=_;rw[ajE];exact(decide_not).symm) (λh1=>?_) (λh1=>?_)
 ·rw[wu rfl];simp only[vS,Nz];rw[atC Ih h1]
 replace h1:=Decidable.not_not.1 h1
 refine(vX (r:=[wd x 1,wd x 0]) (by simp only[vS,akF];exact L1) (by rfl)).trans ?_;refine(vX (r:=[wd y 1,wd y 0]) (by simp only[vS,akF];exact L2) (by rfl)).trans ?_;refine(vX (r:=[yg x y]) (by simp only[vS,akE];rw[acY,PN,PN,atD Ih h1]) (by rfl)).trans ?_;rw[wu rfl];simp only[vS,Nz]
theorem atE {p q:Nat} (hp:p<wG) (hq:q<wG):NQ [wd p 0,wd p 1,wd p 2,wd p 3,wd q 0,wd q 1,wd q 2,wd q 3] = [yg p q]:=by rw[ajf,Ai hp,Ai hq]
def Ay (e:Int):Prop := -1000000000<=e/\e<=1000000000
theorem LG {e:Int} (h:Ay e):max (-1099511627776) (min e 1099511627776)=e:=by unfold Ay at h;omega
theorem Bv {e:Int} (h:Ay e):i64 e=e:=by unfold Ay at h;exact xG (by omega) (by omega)
theorem acS {ea eb:Int} {x y:Nat} (ha:Ay ea) (hb:Ay eb) (hx:x<wG) (hy:y<wG):L9 [ea,wd x 0,wd x 1,wd x 2,wd x 3,eb,wd y 0,wd y 1,wd y 2,wd y 3] = [FP.lvl ea x eb y]:=by
 have zX:Fp [wd x 0,wd x 1,wd x 2,wd x 3] = [wh (decide (x=0))]:=LM hx;have zY:Fp [wd y 0,wd y 1,wd y 2,wd y 3] = [wh (decide (y=0))]:=LM hy;have iA:=Bv ha;have iB:=Bv hb;have cA:=LG ha;have cB:=LG hb;have pX:FP.lvl ea x eb y=if x=0/\y≠0 then eb else if y=0/\x≠0 then ea else max ea eb:=rfl;generalize FP.lvl ea x eb y=L at *
 rw[L9,ad1];refine(vX (r:=[wh (decide (x=0))]) (by simp only[vS,RV];exact zX) (by rfl)).trans ?_;refine tI (x=0) (by simp only[vS]) (λh1=>?_) (λh1=>?_)
 ·refine(vX (r:=[wh (decide (y=0))]) (by simp only[vS,RV];exact zY) (by rfl)).trans ?_;refine tI (¬ y=0) (by simp only[vS];exact(decide_not).symm) (λh2=>?_) (λh2=>?_)
  ·rw[wu rfl];simp only[vS,iA,iB,cA,cB];rw[pX,if_pos ⟨h1,h2⟩]
  replace h2:=Decidable.not_not.1 h2
  refine(vX (r:=[wh (decide (y=0))]) (by simp only[vS,RV];exact zY) (by rfl)).trans ?_;refine tI (y=0) (by simp only[vS]) (λh3=>?_) (λh3=>absurd h2 h3);refine(vX (r:=[wh (decide (x=0))]) (by simp only[vS,RV];exact zX) (by rfl)).trans ?_;refine tI (¬ x=0) (by simp only[vS];exact(decide_not).symm) (λh4=>absurd h1 h4) (λh4=>?_);rw[wu rfl];simp only[vS,iA,iB,cA,cB];rw[pX,if_neg (λh=>h.2 h2),if_neg (λh=>h.2 h1)]
 ·refine(vX (r:=[wh (decide (y=0))]) (by simp only[vS,RV];exact zY) (by rfl)).trans ?_;refine tI (y=0) (by simp only[vS]) (λh3=>?_) (λh3=>?_)
  ·refine(vX (r:=[wh (decide (x=0))]) (by simp only[vS,RV];exact zX) (by rfl)).trans ?_;refine tI (¬ x=0) (by simp only[vS];exact(decide_not).symm) (λh4=>?_) (λh4=>absurd h1 h4);rw[wu rfl];simp only[vS,iA,iB,cA,cB];rw[pX,if_neg (λh=>h1 h.1),if_pos ⟨h3,h1⟩]
  ·rw[wu rfl];simp only[vS,iA,iB,cA,cB];rw[pX,if_neg (λh=>h1 h.1),if_neg (λh=>h3 h.1)]
theorem XU {x:Nat} {e:Int} (hx:x<wG) (he:Ay e):Fs [wd x 0,wd x 1,wd x 2,wd x 3,e] = [wd (FP.jam x e.toNat) 0,wd (FP.jam x e.toNat) 1,wd (FP.jam x e.toNat) 2,wd (FP.jam x e.toNat) 3]:=by rw[ab5,Ai hx,Bv he,Al]
theorem ajg {x:Nat} {e:Int} (hx:x<wG) (he:Ay e):Fq [wd x 0,wd x 1,wd x 2,wd x 3,e] = [wd (x/2^e.toNat) 0,wd (x/2^e.toNat) 1,wd (x/2^e.toNat) 2,wd (x/2^e.toNat) 3]:=by rw[Xc,Ai hx,Bv he,Al]
theorem ajh {x:Nat} {e:Int} (hx:x<wG) (he:Ay e):JV [wd x 0,wd x 1,wd x 2,wd x 3,e] = [wh (decide (¬ x%2^e.toNat=0))]:=by rw[ab2,Ai hx,Bv he]
def A7 (e:Int):Prop := -400000000<=e/\e<=400000000
theorem CB {e:Int} (h:A7 e):Ay e:=by unfold A7 at h;unfold Ay;omega
theorem atF {a b:Int} (ha:A7 a) (hb:A7 b):Ay (max a b-a)/\Ay (max a b-b):=by unfold A7 at *;unfold Ay;omega
theorem aji {ea eb:Int} (x y:Nat) (ha:A7 ea) (hb:A7 eb):Ay (FP.lvl ea x eb y+1-ea)/\Ay (FP.lvl ea x eb y+1-eb)/\Ay (FP.lvl ea x eb y-ea)/\Ay (FP.lvl ea x eb y-eb)/\Ay (FP.lvl ea x eb y+1)/\Ay (FP.lvl ea x eb y):=by
 unfold A7 at *
 unfold Ay FP.lvl;split
 ·omega
 ·split
  ·omega
  ·omega
theorem atG (ea:Int) (x:Nat) (eb:Int) (y:Nat):FP.aCt ea x eb y=if x/2^(max ea eb-ea).toNat=y/2^(max ea eb-eb).toNat then(if ¬ x%2^(max ea eb-ea).toNat=0 then 1 else if ¬ y%2^(max ea eb-eb).toNat=0 then -1 else 0) else yg (x/2^(max ea eb-ea).toNat) (y/2^(max ea eb-eb).toNat):=by
 unfold FP.aCt yg;generalize x/2^(max ea eb-ea).toNat=p;generalize y/2^(max ea eb-eb).toNat=q;by_cases h:p=q
 ·rw[if_pos h,if_neg (by omega),if_neg (by omega)]
 ·rw[if_neg h];by_cases h2:p<q
  ·rw[if_pos h2,if_pos h2]
  ·rw[if_neg h2,if_neg h2,if_pos (by omega),if_pos (by omega)]
theorem ajj {x n:Nat} (h:x<wG):x/2^n<wG:=Nat.lt_of_le_of_lt (Nat.div_le_self _ _) h
theorem atH {ea eb:Int} {x y:Nat} (ha:A7 ea) (hb:A7 eb) (hx:x<wG) (hy:y<wG):RY [ea,wd x 0,wd x 1,wd x 2,wd x 3,eb,wd y 0,wd y 1,wd y 2,wd y 3] = [FP.aCt ea x eb y]:=by
 obtain⟨r1,r2⟩:=atF ha hb;have R1:=ajg hx r1;have R2:=ajg hy r2;have L1:=ajh hx r1;have L2:=ajh hy r2;have iA:=Bv (CB ha);have iB:=Bv (CB hb);have cA:=LG (CB ha);have cB:=LG (CB hb);have d1:=Bv r1;have d2:=Bv r2;have C:=atE (ajj (n:=(max ea eb-ea).toNat) hx) (ajj (n:=(max ea eb-eb).toNat) hy);have hT:=atG ea x eb y;generalize FP.aCt ea x eb y=T at *
 generalize x/2^(max ea eb-ea).toNat=p at *
 generalize y/2^(max ea eb-eb).toNat=q at *
 generalize x%2^(max ea eb-ea).toNat=p' at *
 generalize y%2^(max ea eb-eb).toNat=q' at *
 rw[RY,ad2];refine(vX (r:=[wd p 0,wd p 1,wd p 2,wd p 3]) (by simp only[vS,akI,iA,iB,cA,cB,d1,d2];exact R1) (by rfl)).trans ?_;refine(vX (r:=[wh (decide (¬ p'=0))]) (by simp only[vS,akJ,iA,iB,cA,cB,d1,d2];exact L1) (by rfl)).trans ?_;refine(vX (r:=[wd q 0,wd q 1,wd q 2,wd q 3]) (by simp only[vS,akI,iA,iB,cA,cB,d1,d2];exact R2) (by rfl)).trans ?_;refine(vX (r:=[wh (decide (¬ q'=0))]) (by simp only[vS,akJ,iA,iB,cA,cB,d1,d2];exact L2) (by rfl)).trans ?_;refine(vX (r:=[yg p q]) (by simp only[vS,axM];exact C) (by rfl)).trans ?_;refine tI (p=q) (by simp only[vS,Nz];exact ajE) (λh1=>?_) (λh1=>?_)
 ·rw[if_pos h1] at hT;refine tI (¬ p'=0) (by simp only[vS]) (λh2=>?_) (λh2=>?_)
  ·rw[wu rfl];simp only[vS];rw[hT,if_pos h2]
  ·refine tI (¬ q'=0) (by simp only[vS]) (λh3=>?_) (λh3=>?_)
   ·rw[wu rfl];simp only[vS];rw[hT,if_neg h2,if_pos h3]
   ·rw[wu rfl];simp only[vS,Nz];rw[hT,if_neg h2,if_neg h3,h1];unfold yg;rw[if_neg (Nat.lt_irrefl _),if_neg (Nat.lt_irrefl _)]
 ·rw[if_neg h1] at hT;rw[wu rfl];simp only[vS,Nz];rw[hT]
theorem atI {x n:Nat} (hx:x<wG) (hn:1<=n):2*FP.jam x n<wG+2:=by
 have h:=(FP.aCZ x n).1
 have h2:x/2^(n+1)*4<=x:=by
  have h3:4<=2^(n+1):=by have:2^2<=2^(n+1):=Nat.pow_le_pow_right (by decide) (by omega);simpa using this
  exact Nat.le_trans (Nat.mul_le_mul_left _ h3) (Nat.div_mul_le_self _ _)
 have h4:wG%4=0:=by decide
 generalize wG=w at *
 generalize x/2^(n+1)=k at *
 omega
theorem ajk {x n:Nat} (hx:x<wG) (hn:1<=n):2*FP.jam x n<wG:=by
 have h:=atI hx hn;have h5:wG%4=0:=by decide
 have h1:=(FP.aCZ x n).1
 have h2:x/2^(n+1)*4<=x:=by
  have h3:4<=2^(n+1):=by have:2^2<=2^(n+1):=Nat.pow_le_pow_right (by decide) (by omega);simpa using this
  exact Nat.le_trans (Nat.mul_le_mul_left _ h3) (Nat.div_mul_le_self _ _)
 generalize wG=w at *
 generalize x/2^(n+1)=k at *
 omega
theorem sum_lt {ea eb:Int} {x y:Nat} (hx:x<wG) (hy:y<wG):(FP.aCI ea x eb y).2<wG:=by
 unfold FP.aCI;simp only[];by_cases h0:x=0
 ·have jx:∀ n,FP.jam x n=0:=λn=>by rw[h0];exact FP.alK n
  rw[jx,Nat.zero_add];exact Li hy
 ·by_cases h1:y=0
  ·have jy:∀ n,FP.jam y n=0:=λn=>by rw[h1];exact FP.alK n
   rw[jy,Nat.add_zero];exact Li hx
  ·have e1:FP.lvl ea x eb y=max ea eb:=by unfold FP.lvl;rw[if_neg (λh=>h0 h.1),if_neg (λh=>h1 h.1)]
   rw[e1];have a:=ajk (n:=(max ea eb+1-ea).toNat) hx (by omega);have b:=ajk (n:=(max ea eb+1-eb).toNat) hy (by omega);generalize wG=w at *
   omega
theorem ajl {ea eb:Int} {x y:Nat} (ha:A7 ea) (hb:A7 eb) (hx:x<wG) (hy:y<wG):R4 [ea,wd x 0,wd x 1,wd x 2,wd x 3,eb,wd y 0,wd y 1,wd y 2,wd y 3] = [(FP.aCI ea x eb y).1,wd (FP.aCI ea x eb y).2 0,wd (FP.aCI ea x eb y).2 1,wd (FP.aCI ea x eb y).2 2,wd (FP.aCI ea x eb y).2 3]:=by
 obtain⟨l1,l2,l3,l4,l5,l6⟩:=aji x y ha hb;have L:=acS (CB ha) (CB hb) hx hy;have J1:=XU hx l1;have J2:=XU hy l2;have iA:=Bv (CB ha);have iB:=Bv (CB hb);have cA:=LG (CB ha);have cB:=LG (CB hb);have i1:=Bv l1;have i2:=Bv l2;have i5:=Bv l5;have i6:=Bv l6;have S:=sum_lt (ea:=ea) (eb:=eb) hx hy;unfold FP.aCI at S ⊢;simp only[] at S ⊢;generalize FP.lvl ea x eb y=l at *
 generalize FP.jam x (l+1-ea).toNat=p at *
 generalize FP.jam y (l+1-eb).toNat=q at *
 rw[R4,ad3];refine(vX (r:=[l]) (by simp only[vS,axN,iA,iB];exact L) (by rfl)).trans ?_;refine(vX (r:=[wd p 0,wd p 1,wd p 2,wd p 3]) (by simp only[vS,akK,iA,iB,cA,cB,i1,i2,i5,i6];exact J1) (by rfl)).trans ?_;refine(vX (r:=[wd q 0,wd q 1,wd q 2,wd q 3]) (by simp only[vS,akK,iA,iB,cA,cB,i1,i2,i5,i6];exact J2) (by rfl)).trans ?_;refine(vX (r:=[wd (p+q) 0,wd (p+q) 1,wd (p+q) 2,wd (p+q) 3,0]) (by simp only[vS,axO];exact aub S) (by rfl)).trans ?_;rw[wu rfl];simp only[vS,i5,i6]
theorem ajm {ea eb:Int} {x y:Nat} (h:¬ FP.aCt ea x eb y<0):FP.jam y (FP.lvl ea x eb y-eb).toNat<=FP.jam x (FP.lvl ea x eb y-ea).toNat:=by
 by_cases h1:y=0
 ·have:FP.jam y (FP.lvl ea x eb y-eb).toNat=0:=by rw[h1];exact FP.alK _
  omega
 have hL:=FP.aC6 (ea:=ea) (eb:=eb) (L:=min ea eb) (sa:=x) (sb:=y) (by omega) (by omega);rw[hL] at h;have h:=Nat.le_of_not_lt h;by_cases h0:x=0
 ·exfalso;rw[h0,Nat.zero_mul] at h;have:=FP.two_pow_pos (eb-min ea eb).toNat;rcases Nat.mul_eq_zero.1 (Nat.le_zero.1 h) with h|h
  ·exact h1 h
  ·omega
 have e1:FP.lvl ea x eb y=max ea eb:=by unfold FP.lvl;rw[if_neg (λh=>h0 h.1),if_neg (λh=>h1 h.1)]
 rw[e1];by_cases hle:eb<=ea
 ·obtain⟨d,hd⟩:∃ d,d=(ea-eb).toNat:=⟨_,rfl⟩;rw[show(max ea eb-ea).toNat=0 by omega,show(max ea eb-eb).toNat=d by omega,FP.aDT];rw[show(ea-min ea eb).toNat=d by omega,show(eb-min ea eb).toNat=0 by omega,Nat.pow_zero,Nat.mul_one] at h;have hp:=FP.two_pow_pos d;have q1:y/2^d<=x:=Nat.div_le_of_le_mul (by rw[Nat.mul_comm];exact h);unfold FP.jam;split
  ·exact q1
  ·rename_i hz;have e:=Nat.div_add_mod y (2^d)
   have q2:y/2^d≠x:=by intro e2;rw[e2,Nat.mul_comm] at e;omega
   omega
 ·obtain⟨d,hd⟩:∃ d,d=(eb-ea).toNat:=⟨_,rfl⟩;rw[show(max ea eb-eb).toNat=0 by omega,show(max ea eb-ea).toNat=d by omega,FP.aDT];rw[show(eb-min ea eb).toNat=d by omega,show(ea-min ea eb).toNat=0 by omega,Nat.pow_zero,Nat.mul_one] at h;have hp:=FP.two_pow_pos d;have q1:y<=x/2^d:=(Nat.le_div_iff_mul_le hp).2 h;unfold FP.jam;split
  ·exact q1
  ·omega
theorem acT (ea:Int) (x:Nat) (eb:Int) (y:Nat):FP.lvl eb y ea x=FP.lvl ea x eb y:=by
 unfold FP.lvl;by_cases h1:x=0/\y≠0
 ·rw[if_pos h1,if_neg (λh=>h1.2 h.1),if_pos h1]
 ·rw[if_neg h1];by_cases h2:y=0/\x≠0
  ·rw[if_pos h2,if_neg h1,if_pos h2]
  ·rw[if_neg h2,if_neg h1,if_neg h2];omega
def Ea (ea:Int) (x:Nat) (eb:Int) (y:Nat):Int×Nat:=if FP.aCt ea x eb y<0 then FP.aDe eb y ea x else FP.aDe ea x eb y
theorem ajn {ea eb:Int} {x y:Nat} (hx:x<wG) (hy:y<wG):(Ea ea x eb y).2<wG:=by
 unfold Ea FP.aDe;split
 ·exact Nat.lt_of_le_of_lt (Nat.sub_le _ _) (Li hy)
 ·exact Nat.lt_of_le_of_lt (Nat.sub_le _ _) (Li hx)
theorem atJ (ea:Int) (x:Nat) (eb:Int) (y:Nat):Ay (FP.aCt ea x eb y):=by
 unfold Ay FP.aCt;split
 ·omega
 ·split
  ·omega
  ·split
   ·omega
   ·split<;>omega
theorem atK {ea eb:Int} {x y:Nat} (h:FP.aCt ea x eb y<0):¬ FP.aCt eb y ea x<0:=by rw[FP.aC6 (L:=min ea eb) (by omega) (by omega)] at h;rw[FP.aC6 (L:=min ea eb) (by omega) (by omega)];omega
theorem ajo {ea eb:Int} {x y:Nat} (ha:A7 ea) (hb:A7 eb) (hx:x<wG) (hy:y<wG):R6 [ea,wd x 0,wd x 1,wd x 2,wd x 3,eb,wd y 0,wd y 1,wd y 2,wd y 3] =
  [(Ea ea x eb y).1,wd (Ea ea x eb y).2 0,wd (Ea ea x eb y).2 1,wd (Ea ea x eb y).2 2,wd (Ea ea x eb y).2 3,wh (decide (FP.aCt ea x eb y<0))]:=by
 obtain⟨l1,l2,l3,l4,l5,l6⟩:=aji x y ha hb;have L:=acS (CB ha) (CB hb) hx hy;have L':=acS (CB hb) (CB ha) hy hx;have C:=atH ha hb hx hy;have J1:=XU hx l3;have J2:=XU hy l4;have iA:=Bv (CB ha);have iB:=Bv (CB hb);have cA:=LG (CB ha);have cB:=LG (CB hb);have i3:=Bv l3;have i4:=Bv l4;have i6:=Bv l6;have hT:=Bv (atJ ea x eb y);have P1:¬ FP.aCt ea x eb y<0->FP.jam y (FP.lvl ea x eb y-eb).toNat<=FP.jam x (FP.lvl ea x eb y-ea).toNat:=λh=>ajm h
 have P2:FP.aCt ea x eb y<0->FP.jam x (FP.lvl ea x eb y-ea).toNat<=FP.jam y (FP.lvl ea x eb y-eb).toNat:=λh=>by have:=ajm (atK h);rw[acT] at this;exact this
 have px:FP.jam x (FP.lvl ea x eb y-ea).toNat<wG:=Li hx;have py:FP.jam y (FP.lvl ea x eb y-eb).toNat<wG:=Li hy;unfold Ea FP.aDe;rw[acT] at L';rw[acT ea x eb y];generalize FP.lvl ea x eb y=l at *
 generalize FP.jam x (l-ea).toNat=p at *
 generalize FP.jam y (l-eb).toNat=q at *
 generalize FP.aCt ea x eb y=T at *
 rw[R6,ad4];refine(vX (r:=[T]) (by simp only[vS,axS,iA,iB];exact C) (by rfl)).trans ?_;refine tI (T<0) (by simp only[vS,hT]) (λh1=>?_) (λh1=>?_)
 ·refine(vX (r:=[l]) (by simp only[vS,akM,iA,iB];exact L') (by rfl)).trans ?_;refine(vX (r:=[wd q 0,wd q 1,wd q 2,wd q 3]) (by simp only[vS,Yd,iA,iB,cA,cB,i3,i4,i6,Int.add_zero];exact J2) (by rfl)).trans ?_;refine(vX (r:=[wd p 0,wd p 1,wd p 2,wd p 3]) (by simp only[vS,Yd,iA,iB,cA,cB,i3,i4,i6,Int.add_zero];exact J1) (by rfl)).trans ?_;refine(vX (r:=[wd (q-p) 0,wd (q-p) 1,wd (q-p) 2,wd (q-p) 3,0]) (by simp only[vS,akN];exact ajD py (P2 h1)) (by rfl)).trans ?_;rw[wu rfl];simp only[vS,i6,hT,Int.add_zero];rw[if_pos h1]
 ·refine(vX (r:=[l]) (by simp only[vS,akM,iA,iB];exact L) (by rfl)).trans ?_;refine(vX (r:=[wd p 0,wd p 1,wd p 2,wd p 3]) (by simp only[vS,Yd,iA,iB,cA,cB,i3,i4,i6,Int.add_zero];exact J1) (by rfl)).trans ?_;refine(vX (r:=[wd q 0,wd q 1,wd q 2,wd q 3]) (by simp only[vS,Yd,iA,iB,cA,cB,i3,i4,i6,Int.add_zero];exact J2) (by rfl)).trans ?_;refine(vX (r:=[wd (p-q) 0,wd (p-q) 1,wd (p-q) 2,wd (p-q) 3,0]) (by simp only[vS,akN];exact ajD px (P1 h1)) (by rfl)).trans ?_;rw[wu rfl];simp only[vS,i6,hT,Int.add_zero];rw[if_neg h1]
end Go.Proofs.YtippohicjhilnaaGreatDoor
