import Derived.Test.YtippohicjhilnaaGreatDoorZ1Tr
import Derived.Test.YtippohicjhilnaaGreatDoorZNTr
import Derived.Test.YtippohicjhilnaaGreatDoorZQTr
set_option linter.unusedSimpArgs false
set_option linter.unusedVariables false
set_option maxRecDepth 100000
namespace Go.Proofs.YtippohicjhilnaaGreatDoor
open Go.RowKit
theorem arG {x y m:Nat} (hm:0<m) (h:¬ x/m=y/m):vN (x/m) (y/m)=vN x y:=by
 have h1:x/m<y/m->x<y:=λh=>Nat.lt_of_div_lt_div h
 have h2:y/m<x/m->y<x:=λh=>Nat.lt_of_div_lt_div h
 unfold vN;by_cases h3:x/m<y/m
 ·rw[if_pos h3,if_pos (h1 h3)]
 ·have h4:y/m<x/m:=by omega
  have h5:=h2 h4;rw[if_neg h3,if_pos h4,if_neg (by omega),if_pos h5]
theorem arH {x y m:Nat} (hm:0<m) (h:x/m=y/m):vN (x%m) (y%m)=vN x y:=by
 have e1:=Nat.div_add_mod x m;have e2:=Nat.div_add_mod y m;rw[<- h] at e2;generalize m*(x/m)=q at *
 unfold vN;by_cases h3:x%m<y%m
 ·rw[if_pos h3,if_pos (by omega)]
 ·by_cases h4:y%m<x%m
  ·rw[if_neg h3,if_pos h4,if_neg (by omega),if_pos (by omega)]
  ·rw[if_neg h3,if_neg h4,if_neg (by omega),if_neg (by omega)]
theorem ag7 (a b c d e f g h:Int):LF [a,b,c,d,e,f,g,h] = [vN (nW a b c d) (nW e f g h)]:=by
 have hx:=Jp a b c d;have hy:=Jp e f g h;have cx:nW (u64 a) (u64 b) (u64 c) (u64 d)=nW a b c d:=Dr _ _ _ _;have cy:nW (u64 e) (u64 f) (u64 g) (u64 h)=nW e f g h:=Dr _ _ _ _;have H1:Gp [u64 a,u64 b,u64 c,u64 d] = [wd (nW a b c d/uh) 1,wd (nW a b c d/uh) 0]:=by rw[U3,cx,uV]
 have H2:Gp [u64 e,u64 f,u64 g,u64 h] = [wd (nW e f g h/uh) 1,wd (nW e f g h/uh) 0]:=by rw[U3,cy,uV]
 have L1:Gq [u64 a,u64 b,u64 c,u64 d] = [wd (nW a b c d) 1,wd (nW a b c d) 0]:=by rw[ZX,cx,uV]
 have L2:Gq [u64 e,u64 f,u64 g,u64 h] = [wd (nW e f g h) 1,wd (nW e f g h) 0]:=by rw[ZX,cy,uV]
 generalize nW a b c d=x at *
 generalize nW e f g h=y at *
 rw[LF,abP];refine(tX (r:=[wd (x/uh) 1,wd (x/uh) 0]) (by simp only[tK,aiw];exact H1) (by rfl)).trans ?_;refine(tX (r:=[wd (y/uh) 1,wd (y/uh) 0]) (by simp only[tK,aiw];exact H2) (by rfl)).trans ?_;refine(tX (r:=[vN (x/uh) (y/uh)]) (by simp only[tK,aix];exact Ow (adG hx) (adG hy)) (by rfl)).trans ?_;refine tI (¬ x/uh=y/uh) (by simp only[tK,BB];show(!(vN _ _==0))=_;rw[Ox];exact(decide_not).symm) (λh1=>?_) (λh1=>?_)
 ·rw[uj rfl];simp only[tK,BB];rw[arG FX h1]
 replace h1:=Decidable.not_not.1 h1
 refine(tX (r:=[wd x 1,wd x 0]) (by simp only[tK,aiy];exact L1) (by rfl)).trans ?_;refine(tX (r:=[wd y 1,wd y 0]) (by simp only[tK,aiy];exact L2) (by rfl)).trans ?_;refine(tX (r:=[vN x y]) (by simp only[tK,aix];rw[aaQ,ND,ND,arH FX h1]) (by rfl)).trans ?_;rw[uj rfl];simp only[tK,BB]
theorem arI {p q:Nat} (hp:p<uu) (hq:q<uu):LF [wd p 0,wd p 1,wd p 2,wd p 3,wd q 0,wd q 1,wd q 2,wd q 3] = [vN p q]:=by rw[ag7,yA hp,yA hq]
def yJ (e:Int):Prop := -1000000000<=e/\e<=1000000000
theorem JH {e:Int} (h:yJ e):max (-1099511627776) (min e 1099511627776)=e:=by unfold yJ at h;omega
theorem zD {e:Int} (h:yJ e):i64 e=e:=by unfold yJ at h;exact vX (by omega) (by omega)
theorem aaK {ea eb:Int} {x y:Nat} (ha:yJ ea) (hb:yJ eb) (hx:x<uu) (hy:y<uu):JW [ea,wd x 0,wd x 1,wd x 2,wd x 3,eb,wd y 0,wd y 1,wd y 2,wd y 3] = [FP.lvl ea x eb y]:=by
 have zX:Ci [wd x 0,wd x 1,wd x 2,wd x 3] = [ui (decide (x=0))]:=Eu hx;have zY:Ci [wd y 0,wd y 1,wd y 2,wd y 3] = [ui (decide (y=0))]:=Eu hy;have iA:=zD ha;have iB:=zD hb;have cA:=JH ha;have cB:=JH hb;have pX:FP.lvl ea x eb y=if x=0/\y≠0 then eb else if y=0/\x≠0 then ea else max ea eb:=rfl;generalize FP.lvl ea x eb y=L at *
 rw[JW,abQ];refine(tX (r:=[ui (decide (x=0))]) (by simp only[tK,PT];exact zX) (by rfl)).trans ?_;refine tI (x=0) (by simp only[tK]) (λh1=>?_) (λh1=>?_)
 ·refine(tX (r:=[ui (decide (y=0))]) (by simp only[tK,PT];exact zY) (by rfl)).trans ?_;refine tI (¬ y=0) (by simp only[tK];exact(decide_not).symm) (λh2=>?_) (λh2=>?_)
  ·rw[uj rfl];simp only[tK,iA,iB,cA,cB];rw[pX,if_pos ⟨h1,h2⟩]
  replace h2:=Decidable.not_not.1 h2
  refine(tX (r:=[ui (decide (y=0))]) (by simp only[tK,PT];exact zY) (by rfl)).trans ?_;refine tI (y=0) (by simp only[tK]) (λh3=>?_) (λh3=>absurd h2 h3);refine(tX (r:=[ui (decide (x=0))]) (by simp only[tK,PT];exact zX) (by rfl)).trans ?_;refine tI (¬ x=0) (by simp only[tK];exact(decide_not).symm) (λh4=>absurd h1 h4) (λh4=>?_);rw[uj rfl];simp only[tK,iA,iB,cA,cB];rw[pX,if_neg (λh=>h.2 h2),if_neg (λh=>h.2 h1)]
 ·refine(tX (r:=[ui (decide (y=0))]) (by simp only[tK,PT];exact zY) (by rfl)).trans ?_;refine tI (y=0) (by simp only[tK]) (λh3=>?_) (λh3=>?_)
  ·refine(tX (r:=[ui (decide (x=0))]) (by simp only[tK,PT];exact zX) (by rfl)).trans ?_;refine tI (¬ x=0) (by simp only[tK];exact(decide_not).symm) (λh4=>?_) (λh4=>absurd h1 h4);rw[uj rfl];simp only[tK,iA,iB,cA,cB];rw[pX,if_neg (λh=>h1 h.1),if_pos ⟨h3,h1⟩]
  ·rw[uj rfl];simp only[tK,iA,iB,cA,cB];rw[pX,if_neg (λh=>h1 h.1),if_neg (λh=>h3 h.1)]
theorem VC {x:Nat} {e:Int} (hx:x<uu) (he:yJ e):Dz [wd x 0,wd x 1,wd x 2,wd x 3,e] = [wd (FP.jam x e.toNat) 0,wd (FP.jam x e.toNat) 1,wd (FP.jam x e.toNat) 2,wd (FP.jam x e.toNat) 3]:=by rw[Z9,yA hx,zD he,yI]
theorem ag8 {x:Nat} {e:Int} (hx:x<uu) (he:yJ e):Dx [wd x 0,wd x 1,wd x 2,wd x 3,e] = [wd (x/2^e.toNat) 0,wd (x/2^e.toNat) 1,wd (x/2^e.toNat) 2,wd (x/2^e.toNat) 3]:=by rw[UZ,yA hx,zD he,yI]
theorem ag9 {x:Nat} {e:Int} (hx:x<uu) (he:yJ e):H7 [wd x 0,wd x 1,wd x 2,wd x 3,e] = [ui (decide (¬ x%2^e.toNat=0))]:=by rw[Z6,yA hx,zD he]
def AL (e:Int):Prop := -400000000<=e/\e<=400000000
theorem AP {e:Int} (h:AL e):yJ e:=by unfold AL at h;unfold yJ;omega
theorem arJ {a b:Int} (ha:AL a) (hb:AL b):yJ (max a b-a)/\yJ (max a b-b):=by unfold AL at *;unfold yJ;omega
theorem aha {ea eb:Int} (x y:Nat) (ha:AL ea) (hb:AL eb):yJ (FP.lvl ea x eb y+1-ea)/\yJ (FP.lvl ea x eb y+1-eb)/\yJ (FP.lvl ea x eb y-ea)/\yJ (FP.lvl ea x eb y-eb)/\yJ (FP.lvl ea x eb y+1)/\yJ (FP.lvl ea x eb y):=by
 unfold AL at *
 unfold yJ FP.lvl;split
 ·omega
 ·split
  ·omega
  ·omega
theorem arK (ea:Int) (x:Nat) (eb:Int) (y:Nat):FP.cmpT ea x eb y=if x/2^(max ea eb-ea).toNat=y/2^(max ea eb-eb).toNat then(if ¬ x%2^(max ea eb-ea).toNat=0 then 1 else if ¬ y%2^(max ea eb-eb).toNat=0 then -1 else 0) else vN (x/2^(max ea eb-ea).toNat) (y/2^(max ea eb-eb).toNat):=by
 unfold FP.cmpT vN;generalize x/2^(max ea eb-ea).toNat=p;generalize y/2^(max ea eb-eb).toNat=q;by_cases h:p=q
 ·rw[if_pos h,if_neg (by omega),if_neg (by omega)]
 ·rw[if_neg h];by_cases h2:p<q
  ·rw[if_pos h2,if_pos h2]
  ·rw[if_neg h2,if_neg h2,if_pos (by omega),if_pos (by omega)]
theorem ahb {x n:Nat} (h:x<uu):x/2^n<uu:=Nat.lt_of_le_of_lt (Nat.div_le_self _ _) h
theorem arL {ea eb:Int} {x y:Nat} (ha:AL ea) (hb:AL eb) (hx:x<uu) (hy:y<uu):PV [ea,wd x 0,wd x 1,wd x 2,wd x 3,eb,wd y 0,wd y 1,wd y 2,wd y 3] = [FP.cmpT ea x eb y]:=by
 obtain⟨r1,r2⟩:=arJ ha hb;have R1:=ag8 hx r1;have R2:=ag8 hy r2;have L1:=ag9 hx r1;have L2:=ag9 hy r2;have iA:=zD (AP ha);have iB:=zD (AP hb);have cA:=JH (AP ha);have cB:=JH (AP hb);have d1:=zD r1;have d2:=zD r2;have C:=arI (ahb (n:=(max ea eb-ea).toNat) hx) (ahb (n:=(max ea eb-eb).toNat) hy);have hT:=arK ea x eb y;generalize FP.cmpT ea x eb y=T at *
 generalize x/2^(max ea eb-ea).toNat=p at *
 generalize y/2^(max ea eb-eb).toNat=q at *
 generalize x%2^(max ea eb-ea).toNat=p' at *
 generalize y%2^(max ea eb-eb).toNat=q' at *
 rw[PV,abR];refine(tX (r:=[wd p 0,wd p 1,wd p 2,wd p 3]) (by simp only[tK,aiB,iA,iB,cA,cB,d1,d2];exact R1) (by rfl)).trans ?_;refine(tX (r:=[ui (decide (¬ p'=0))]) (by simp only[tK,aiC,iA,iB,cA,cB,d1,d2];exact L1) (by rfl)).trans ?_;refine(tX (r:=[wd q 0,wd q 1,wd q 2,wd q 3]) (by simp only[tK,aiB,iA,iB,cA,cB,d1,d2];exact R2) (by rfl)).trans ?_;refine(tX (r:=[ui (decide (¬ q'=0))]) (by simp only[tK,aiC,iA,iB,cA,cB,d1,d2];exact L2) (by rfl)).trans ?_;refine(tX (r:=[vN p q]) (by simp only[tK,avA];exact C) (by rfl)).trans ?_;refine tI (p=q) (by simp only[tK,BB];exact Ox) (λh1=>?_) (λh1=>?_)
 ·rw[if_pos h1] at hT;refine tI (¬ p'=0) (by simp only[tK]) (λh2=>?_) (λh2=>?_)
  ·rw[uj rfl];simp only[tK];rw[hT,if_pos h2]
  ·refine tI (¬ q'=0) (by simp only[tK]) (λh3=>?_) (λh3=>?_)
   ·rw[uj rfl];simp only[tK];rw[hT,if_neg h2,if_pos h3]
   ·rw[uj rfl];simp only[tK,BB];rw[hT,if_neg h2,if_neg h3,h1];unfold vN;rw[if_neg (Nat.lt_irrefl _),if_neg (Nat.lt_irrefl _)]
 ·rw[if_neg h1] at hT;rw[uj rfl];simp only[tK,BB];rw[hT]
theorem arM {x n:Nat} (hx:x<uu) (hn:1<=n):2*FP.jam x n<uu+2:=by
 have h:=(FP.jam_half x n).1
 have h2:x/2^(n+1)*4<=x:=by
  have h3:4<=2^(n+1):=by have:2^2<=2^(n+1):=Nat.pow_le_pow_right (by decide) (by omega);simpa using this
  exact Nat.le_trans (Nat.mul_le_mul_left _ h3) (Nat.div_mul_le_self _ _)
 have h4:uu%4=0:=by decide
 generalize uu=w at *
 generalize x/2^(n+1)=k at *
 omega
theorem ahc {x n:Nat} (hx:x<uu) (hn:1<=n):2*FP.jam x n<uu:=by
 have h:=arM hx hn;have h5:uu%4=0:=by decide
 have h1:=(FP.jam_half x n).1
 have h2:x/2^(n+1)*4<=x:=by
  have h3:4<=2^(n+1):=by have:2^2<=2^(n+1):=Nat.pow_le_pow_right (by decide) (by omega);simpa using this
  exact Nat.le_trans (Nat.mul_le_mul_left _ h3) (Nat.div_mul_le_self _ _)
 generalize uu=w at *
 generalize x/2^(n+1)=k at *
 omega
theorem sum_lt {ea eb:Int} {x y:Nat} (hx:x<uu) (hy:y<uu):(FP.sumT ea x eb y).2<uu:=by
 unfold FP.sumT;simp only[];by_cases h0:x=0
 ·have jx:∀ n,FP.jam x n=0:=λn=>by rw[h0];exact FP.jam_zero n
  rw[jx,Nat.zero_add];exact Jt hy
 ·by_cases h1:y=0
  ·have jy:∀ n,FP.jam y n=0:=λn=>by rw[h1];exact FP.jam_zero n
   rw[jy,Nat.add_zero];exact Jt hx
  ·have e1:FP.lvl ea x eb y=max ea eb:=by unfold FP.lvl;rw[if_neg (λh=>h0 h.1),if_neg (λh=>h1 h.1)]
   rw[e1];have a:=ahc (n:=(max ea eb+1-ea).toNat) hx (by omega);have b:=ahc (n:=(max ea eb+1-eb).toNat) hy (by omega);generalize uu=w at *
   omega
theorem arN {ea eb:Int} {x y:Nat} (ha:AL ea) (hb:AL eb) (hx:x<uu) (hy:y<uu):PX [ea,wd x 0,wd x 1,wd x 2,wd x 3,eb,wd y 0,wd y 1,wd y 2,wd y 3] = [(FP.sumT ea x eb y).1,wd (FP.sumT ea x eb y).2 0,wd (FP.sumT ea x eb y).2 1,wd (FP.sumT ea x eb y).2 2,wd (FP.sumT ea x eb y).2 3]:=by
 obtain⟨l1,l2,l3,l4,l5,l6⟩:=aha x y ha hb;have L:=aaK (AP ha) (AP hb) hx hy;have J1:=VC hx l1;have J2:=VC hy l2;have iA:=zD (AP ha);have iB:=zD (AP hb);have cA:=JH (AP ha);have cB:=JH (AP hb);have i1:=zD l1;have i2:=zD l2;have i5:=zD l5;have i6:=zD l6;have S:=sum_lt (ea:=ea) (eb:=eb) hx hy;unfold FP.sumT at S ⊢;simp only[] at S ⊢;generalize FP.lvl ea x eb y=l at *
 generalize FP.jam x (l+1-ea).toNat=p at *
 generalize FP.jam y (l+1-eb).toNat=q at *
 rw[PX,abS];refine(tX (r:=[l]) (by simp only[tK,avB,iA,iB];exact L) (by rfl)).trans ?_;refine(tX (r:=[wd p 0,wd p 1,wd p 2,wd p 3]) (by simp only[tK,aiD,iA,iB,cA,cB,i1,i2,i5,i6];exact J1) (by rfl)).trans ?_;refine(tX (r:=[wd q 0,wd q 1,wd q 2,wd q 3]) (by simp only[tK,aiD,iA,iB,cA,cB,i1,i2,i5,i6];exact J2) (by rfl)).trans ?_;refine(tX (r:=[wd (p+q) 0,wd (p+q) 1,wd (p+q) 2,wd (p+q) 3,0]) (by simp only[tK,avC];exact ahv S) (by rfl)).trans ?_;rw[uj rfl];simp only[tK,i5,i6]
theorem ahd {ea eb:Int} {x y:Nat} (h:¬ FP.cmpT ea x eb y<0):FP.jam y (FP.lvl ea x eb y-eb).toNat<=FP.jam x (FP.lvl ea x eb y-ea).toNat:=by
 by_cases h1:y=0
 ·have:FP.jam y (FP.lvl ea x eb y-eb).toNat=0:=by rw[h1];exact FP.jam_zero _
  omega
 have hL:=FP.cmpT_lt (ea:=ea) (eb:=eb) (L:=min ea eb) (sa:=x) (sb:=y) (by omega) (by omega);rw[hL] at h;have h:=Nat.le_of_not_lt h;by_cases h0:x=0
 ·exfalso;rw[h0,Nat.zero_mul] at h;have:=FP.two_pow_pos (eb-min ea eb).toNat;rcases Nat.mul_eq_zero.1 (Nat.le_zero.1 h) with h|h
  ·exact h1 h
  ·omega
 have e1:FP.lvl ea x eb y=max ea eb:=by unfold FP.lvl;rw[if_neg (λh=>h0 h.1),if_neg (λh=>h1 h.1)]
 rw[e1];by_cases hle:eb<=ea
 ·obtain⟨d,hd⟩:∃ d,d=(ea-eb).toNat:=⟨_,rfl⟩;rw[show(max ea eb-ea).toNat=0 by omega,show(max ea eb-eb).toNat=d by omega,FP.jam0];rw[show(ea-min ea eb).toNat=d by omega,show(eb-min ea eb).toNat=0 by omega,Nat.pow_zero,Nat.mul_one] at h;have hp:=FP.two_pow_pos d;have q1:y/2^d<=x:=Nat.div_le_of_le_mul (by rw[Nat.mul_comm];exact h);unfold FP.jam;split
  ·exact q1
  ·rename_i hz;have e:=Nat.div_add_mod y (2^d)
   have q2:y/2^d≠x:=by intro e2;rw[e2,Nat.mul_comm] at e;omega
   omega
 ·obtain⟨d,hd⟩:∃ d,d=(eb-ea).toNat:=⟨_,rfl⟩;rw[show(max ea eb-eb).toNat=0 by omega,show(max ea eb-ea).toNat=d by omega,FP.jam0];rw[show(eb-min ea eb).toNat=d by omega,show(ea-min ea eb).toNat=0 by omega,Nat.pow_zero,Nat.mul_one] at h;have hp:=FP.two_pow_pos d;have q1:y<=x/2^d:=(Nat.le_div_iff_mul_le hp).2 h;unfold FP.jam;split
  ·exact q1
  ·omega
theorem aaL (ea:Int) (x:Nat) (eb:Int) (y:Nat):FP.lvl eb y ea x=FP.lvl ea x eb y:=by
 unfold FP.lvl;by_cases h1:x=0/\y≠0
 ·rw[if_pos h1,if_neg (λh=>h1.2 h.1),if_pos h1]
 ·rw[if_neg h1];by_cases h2:y=0/\x≠0
  ·rw[if_pos h2,if_neg h1,if_pos h2]
  ·rw[if_neg h2,if_neg h1,if_neg h2];omega
def CQ (ea:Int) (x:Nat) (eb:Int) (y:Nat):Int×Nat:=if FP.cmpT ea x eb y<0 then FP.difT eb y ea x else FP.difT ea x eb y
theorem arO {ea eb:Int} {x y:Nat} (hx:x<uu) (hy:y<uu):(CQ ea x eb y).2<uu:=by
 unfold CQ FP.difT;split
 ·exact Nat.lt_of_le_of_lt (Nat.sub_le _ _) (Jt hy)
 ·exact Nat.lt_of_le_of_lt (Nat.sub_le _ _) (Jt hx)
theorem arP (ea:Int) (x:Nat) (eb:Int) (y:Nat):yJ (FP.cmpT ea x eb y):=by
 unfold yJ FP.cmpT;split
 ·omega
 ·split
  ·omega
  ·split
   ·omega
   ·split<;>omega
theorem arQ {ea eb:Int} {x y:Nat} (h:FP.cmpT ea x eb y<0):¬ FP.cmpT eb y ea x<0:=by rw[FP.cmpT_lt (L:=min ea eb) (by omega) (by omega)] at h;rw[FP.cmpT_lt (L:=min ea eb) (by omega) (by omega)];omega
theorem arR {ea eb:Int} {x y:Nat} (ha:AL ea) (hb:AL eb) (hx:x<uu) (hy:y<uu):PZ [ea,wd x 0,wd x 1,wd x 2,wd x 3,eb,wd y 0,wd y 1,wd y 2,wd y 3] =
  [(CQ ea x eb y).1,wd (CQ ea x eb y).2 0,wd (CQ ea x eb y).2 1,wd (CQ ea x eb y).2 2,wd (CQ ea x eb y).2 3,ui (decide (FP.cmpT ea x eb y<0))]:=by
 obtain⟨l1,l2,l3,l4,l5,l6⟩:=aha x y ha hb;have L:=aaK (AP ha) (AP hb) hx hy;have L':=aaK (AP hb) (AP ha) hy hx;have C:=arL ha hb hx hy;have J1:=VC hx l3;have J2:=VC hy l4;have iA:=zD (AP ha);have iB:=zD (AP hb);have cA:=JH (AP ha);have cB:=JH (AP hb);have i3:=zD l3;have i4:=zD l4;have i6:=zD l6;have hT:=zD (arP ea x eb y);have P1:¬ FP.cmpT ea x eb y<0->FP.jam y (FP.lvl ea x eb y-eb).toNat<=FP.jam x (FP.lvl ea x eb y-ea).toNat:=λh=>ahd h
 have P2:FP.cmpT ea x eb y<0->FP.jam x (FP.lvl ea x eb y-ea).toNat<=FP.jam y (FP.lvl ea x eb y-eb).toNat:=λh=>by have:=ahd (arQ h);rw[aaL] at this;exact this
 have px:FP.jam x (FP.lvl ea x eb y-ea).toNat<uu:=Jt hx;have py:FP.jam y (FP.lvl ea x eb y-eb).toNat<uu:=Jt hy;unfold CQ FP.difT;rw[aaL] at L';rw[aaL ea x eb y];generalize FP.lvl ea x eb y=l at *
 generalize FP.jam x (l-ea).toNat=p at *
 generalize FP.jam y (l-eb).toNat=q at *
 generalize FP.cmpT ea x eb y=T at *
 rw[PZ,abT];refine(tX (r:=[T]) (by simp only[tK,avG,iA,iB];exact C) (by rfl)).trans ?_;refine tI (T<0) (by simp only[tK,hT]) (λh1=>?_) (λh1=>?_)
 ·refine(tX (r:=[l]) (by simp only[tK,aiF,iA,iB];exact L') (by rfl)).trans ?_;refine(tX (r:=[wd q 0,wd q 1,wd q 2,wd q 3]) (by simp only[tK,VV,iA,iB,cA,cB,i3,i4,i6,Int.add_zero];exact J2) (by rfl)).trans ?_;refine(tX (r:=[wd p 0,wd p 1,wd p 2,wd p 3]) (by simp only[tK,VV,iA,iB,cA,cB,i3,i4,i6,Int.add_zero];exact J1) (by rfl)).trans ?_;refine(tX (r:=[wd (q-p) 0,wd (q-p) 1,wd (q-p) 2,wd (q-p) 3,0]) (by simp only[tK,aiG];exact aaR py (P2 h1)) (by rfl)).trans ?_;rw[uj rfl];simp only[tK,i6,hT,Int.add_zero];rw[if_pos h1]
 ·refine(tX (r:=[l]) (by simp only[tK,aiF,iA,iB];exact L) (by rfl)).trans ?_;refine(tX (r:=[wd p 0,wd p 1,wd p 2,wd p 3]) (by simp only[tK,VV,iA,iB,cA,cB,i3,i4,i6,Int.add_zero];exact J1) (by rfl)).trans ?_;refine(tX (r:=[wd q 0,wd q 1,wd q 2,wd q 3]) (by simp only[tK,VV,iA,iB,cA,cB,i3,i4,i6,Int.add_zero];exact J2) (by rfl)).trans ?_;refine(tX (r:=[wd (p-q) 0,wd (p-q) 1,wd (p-q) 2,wd (p-q) 3,0]) (by simp only[tK,aiG];exact aaR px (P1 h1)) (by rfl)).trans ?_;rw[uj rfl];simp only[tK,i6,hT,Int.add_zero];rw[if_neg h1]
end Go.Proofs.YtippohicjhilnaaGreatDoor
