import Derived.Test.YtemomocmfggiaaaGreatDoorZ1U6
import Derived.Test.YtemomocmfggiaaaGreatDoorZNU6
import Derived.Test.YtemomocmfggiaaaGreatDoorZQU6
set_option linter.unusedSimpArgs false
set_option linter.unusedVariables false
set_option maxRecDepth 100000
namespace Go.Proofs.YtemomocmfggiaaaGreatDoor
open Go.RowKit
theorem aqv {x y m:Nat} (hm:0<m) (h:¬ x/m=y/m):xq (x/m) (y/m)=xq x y:=by
 have h1:x/m<y/m→x<y:=fun h=>Nat.lt_of_div_lt_div h
 have h2:y/m<x/m→y<x:=fun h=>Nat.lt_of_div_lt_div h
 unfold xq
 by_cases h3:x/m<y/m
 ·rw[if_pos h3,if_pos (h1 h3)]
 ·have h4:y/m<x/m:=by omega
  have h5:=h2 h4
  rw[if_neg h3,if_pos h4,if_neg (by omega),if_pos h5]
theorem aqw {x y m:Nat} (hm:0<m) (h:x/m=y/m):xq (x%m) (y%m)=xq x y:=by
 have e1:=Nat.div_add_mod x m
 have e2:=Nat.div_add_mod y m
 rw[← h] at e2
 generalize m*(x/m)=q at *
 unfold xq
 by_cases h3:x%m<y%m
 ·rw[if_pos h3,if_pos (by omega)]
 ·by_cases h4:y%m<x%m
  ·rw[if_neg h3,if_pos h4,if_neg (by omega),if_pos (by omega)]
  ·rw[if_neg h3,if_neg h4,if_neg (by omega),if_neg (by omega)]
theorem afx (a b c d e f g h:Int):LA [a,b,c,d,e,f,g,h] = [xq (nW a b c d) (nW e f g h)]:=by
 have hx:=JI a b c d
 have hy:=JI e f g h
 have cx:nW (u64 a) (u64 b) (u64 c) (u64 d)=nW a b c d:=Ed _ _ _ _
 have cy:nW (u64 e) (u64 f) (u64 g) (u64 h)=nW e f g h:=Ed _ _ _ _
 have H1:Gr [u64 a,u64 b,u64 c,u64 d] = [wd (nW a b c d/vF) 1,wd (nW a b c d/vF) 0]:=by rw[Us,cx,vR]
 have H2:Gr [u64 e,u64 f,u64 g,u64 h] = [wd (nW e f g h/vF) 1,wd (nW e f g h/vF) 0]:=by rw[Us,cy,vR]
 have L1:Gs [u64 a,u64 b,u64 c,u64 d] = [wd (nW a b c d) 1,wd (nW a b c d) 0]:=by rw[ZP,cx,vR]
 have L2:Gs [u64 e,u64 f,u64 g,u64 h] = [wd (nW e f g h) 1,wd (nW e f g h) 0]:=by rw[ZP,cy,vR]
 generalize nW a b c d=x at *
 generalize nW e f g h=y at *
 rw[LA,Z8]
 refine(ve (r:=[wd (x/vF) 1,wd (x/vF) 0]) (by simp only[uY,ae9];exact H1) (by rfl)).trans ?_
 refine(ve (r:=[wd (y/vF) 1,wd (y/vF) 0]) (by simp only[uY,ae9];exact H2) (by rfl)).trans ?_
 refine(ve (r:=[xq (x/vF) (y/vF)]) (by simp only[uY,afa];exact Pf (ab4 hx) (ab4 hy)) (by rfl)).trans ?_
 refine tI (¬ x/vF=y/vF) (by simp only[uY,AZ];show(!(xq _ _==0))=_;rw[Pg];exact(decide_not).symm) (fun h1=>?_) (fun h1=>?_)
 ·rw[vg rfl]
  simp only[uY,AZ]
  rw[aqv Es h1]
 replace h1:=Decidable.not_not.1 h1
 refine(ve (r:=[wd x 1,wd x 0]) (by simp only[uY,afb];exact L1) (by rfl)).trans ?_
 refine(ve (r:=[wd y 1,wd y 0]) (by simp only[uY,afb];exact L2) (by rfl)).trans ?_
 refine(ve (r:=[xq x y]) (by simp only[uY,afa];rw[UZ,OJ,OJ,aqw Es h1]) (by rfl)).trans ?_
 rw[vg rfl]
 simp only[uY,AZ]
theorem aqx {p q:Nat} (hp:p<vL) (hq:q<vL):LA [wd p 0,wd p 1,wd p 2,wd p 3,wd q 0,wd q 1,wd q 2,wd q 3] = [xq p q]:=by
 rw[afx,xP hp,xP hq]
open Go.RowKit
def zW (e:Int):Prop := -1000000000≤e∧e≤1000000000
theorem J5 {e:Int} (h:zW e):max (-1099511627776) (min e 1099511627776)=e:=by unfold zW at h;omega
theorem Ay {e:Int} (h:zW e):i64 e=e:=by unfold zW at h;exact wL (by omega) (by omega)
theorem aam {ea eb:Int} {x y:Nat} (ha:zW ea) (hb:zW eb) (hx:x<vL) (hy:y<vL):JV [ea,wd x 0,wd x 1,wd x 2,wd x 3,eb,wd y 0,wd y 1,wd y 2,wd y 3] = [FP.lvl ea x eb y]:=by
 have zX:CU [wd x 0,wd x 1,wd x 2,wd x 3] = [vw (decide (x=0))]:=Cq hx
 have zY:CU [wd y 0,wd y 1,wd y 2,wd y 3] = [vw (decide (y=0))]:=Cq hy
 have iA:=Ay ha
 have iB:=Ay hb
 have cA:=J5 ha
 have cB:=J5 hb
 have pX:FP.lvl ea x eb y=if x=0∧y≠0 then eb else if y=0∧x≠0 then ea else max ea eb:=rfl
 generalize FP.lvl ea x eb y=L at *
 rw[JV,Z9]
 refine(ve (r:=[vw (decide (x=0))]) (by simp only[uY,OV];exact zX) (by rfl)).trans ?_
 refine tI (x=0) (by simp only[uY]) (fun h1=>?_) (fun h1=>?_)
 ·refine(ve (r:=[vw (decide (y=0))]) (by simp only[uY,OV];exact zY) (by rfl)).trans ?_
  refine tI (¬ y=0) (by simp only[uY];exact(decide_not).symm) (fun h2=>?_) (fun h2=>?_)
  ·rw[vg rfl];simp only[uY,iA,iB,cA,cB];rw[pX,if_pos ⟨h1,h2⟩]
  replace h2:=Decidable.not_not.1 h2
  refine(ve (r:=[vw (decide (y=0))]) (by simp only[uY,OV];exact zY) (by rfl)).trans ?_
  refine tI (y=0) (by simp only[uY]) (fun h3=>?_) (fun h3=>absurd h2 h3)
  refine(ve (r:=[vw (decide (x=0))]) (by simp only[uY,OV];exact zX) (by rfl)).trans ?_
  refine tI (¬ x=0) (by simp only[uY];exact(decide_not).symm) (fun h4=>absurd h1 h4) (fun h4=>?_)
  rw[vg rfl];simp only[uY,iA,iB,cA,cB];rw[pX,if_neg (fun h=>h.2 h2),if_neg (fun h=>h.2 h1)]
 ·refine(ve (r:=[vw (decide (y=0))]) (by simp only[uY,OV];exact zY) (by rfl)).trans ?_
  refine tI (y=0) (by simp only[uY]) (fun h3=>?_) (fun h3=>?_)
  ·refine(ve (r:=[vw (decide (x=0))]) (by simp only[uY,OV];exact zX) (by rfl)).trans ?_
   refine tI (¬ x=0) (by simp only[uY];exact(decide_not).symm) (fun h4=>?_) (fun h4=>absurd h1 h4)
   rw[vg rfl];simp only[uY,iA,iB,cA,cB];rw[pX,if_neg (fun h=>h1 h.1),if_pos ⟨h3,h1⟩]
  ·rw[vg rfl];simp only[uY,iA,iB,cA,cB];rw[pX,if_neg (fun h=>h1 h.1),if_neg (fun h=>h3 h.1)]
theorem UH {x:Nat} {e:Int} (hx:x<vL) (he:zW e):BO [wd x 0,wd x 1,wd x 2,wd x 3,e] = [wd (FP.jam x e.toNat) 0,wd (FP.jam x e.toNat) 1,wd (FP.jam x e.toNat) 2,wd (FP.jam x e.toNat) 3]:=by
 rw[Rp,xP hx,Ay he,yC]
theorem afy {x:Nat} {e:Int} (hx:x<vL) (he:zW e):Ci [wd x 0,wd x 1,wd x 2,wd x 3,e] = [wd (x/2^e.toNat) 0,wd (x/2^e.toNat) 1,wd (x/2^e.toNat) 2,wd (x/2^e.toNat) 3]:=by
 rw[Rk,xP hx,Ay he,yC]
theorem afz {x:Nat} {e:Int} (hx:x<vL) (he:zW e):Iu [wd x 0,wd x 1,wd x 2,wd x 3,e] = [vw (decide (¬ x%2^e.toNat=0))]:=by
 rw[ZR,xP hx,Ay he]
def zu (e:Int):Prop := -400000000≤e∧e≤400000000
theorem BB {e:Int} (h:zu e):zW e:=by unfold zu at h;unfold zW;omega
theorem aqy {a b:Int} (ha:zu a) (hb:zu b):zW (max a b-a)∧zW (max a b-b):=by unfold zu at *;unfold zW;omega
theorem afA {ea eb:Int} (x y:Nat) (ha:zu ea) (hb:zu eb):zW (FP.lvl ea x eb y+1-ea)∧zW (FP.lvl ea x eb y+1-eb)∧zW (FP.lvl ea x eb y-ea)∧zW (FP.lvl ea x eb y-eb)∧zW (FP.lvl ea x eb y+1)∧zW (FP.lvl ea x eb y):=by
 unfold zu at *
 unfold zW FP.lvl
 split
 ·omega
 ·split
  ·omega
  ·omega
theorem aqz (ea:Int) (x:Nat) (eb:Int) (y:Nat):FP.cmpT ea x eb y=if x/2^(max ea eb-ea).toNat=y/2^(max ea eb-eb).toNat then(if ¬ x%2^(max ea eb-ea).toNat=0 then 1 else if ¬ y%2^(max ea eb-eb).toNat=0 then -1 else 0) else xq (x/2^(max ea eb-ea).toNat) (y/2^(max ea eb-eb).toNat):=by
 unfold FP.cmpT xq
 generalize x/2^(max ea eb-ea).toNat=p
 generalize y/2^(max ea eb-eb).toNat=q
 by_cases h:p=q
 ·rw[if_pos h,if_neg (by omega),if_neg (by omega)]
 ·rw[if_neg h]
  by_cases h2:p<q
  ·rw[if_pos h2,if_pos h2]
  ·rw[if_neg h2,if_neg h2,if_pos (by omega),if_pos (by omega)]
theorem afB {x n:Nat} (h:x<vL):x/2^n<vL:=Nat.lt_of_le_of_lt (Nat.div_le_self _ _) h
theorem aan {ea eb:Int} {x y:Nat} (ha:zu ea) (hb:zu eb) (hx:x<vL) (hy:y<vL):GJ [ea,wd x 0,wd x 1,wd x 2,wd x 3,eb,wd y 0,wd y 1,wd y 2,wd y 3] = [FP.cmpT ea x eb y]:=by
 obtain⟨r1,r2⟩:=aqy ha hb
 have R1:=afy hx r1
 have R2:=afy hy r2
 have L1:=afz hx r1
 have L2:=afz hy r2
 have iA:=Ay (BB ha)
 have iB:=Ay (BB hb)
 have cA:=J5 (BB ha)
 have cB:=J5 (BB hb)
 have d1:=Ay r1
 have d2:=Ay r2
 have C:=aqx (afB (n:=(max ea eb-ea).toNat) hx) (afB (n:=(max ea eb-eb).toNat) hy)
 have hT:=aqz ea x eb y
 generalize FP.cmpT ea x eb y=T at *
 generalize x/2^(max ea eb-ea).toNat=p at *
 generalize y/2^(max ea eb-eb).toNat=q at *
 generalize x%2^(max ea eb-ea).toNat=p' at *
 generalize y%2^(max ea eb-eb).toNat=q' at *
 rw[GJ,aaa]
 refine(ve (r:=[wd p 0,wd p 1,wd p 2,wd p 3]) (by simp only[uY,afe,iA,iB,cA,cB,d1,d2];exact R1) (by rfl)).trans ?_
 refine(ve (r:=[vw (decide (¬ p'=0))]) (by simp only[uY,aff,iA,iB,cA,cB,d1,d2];exact L1) (by rfl)).trans ?_
 refine(ve (r:=[wd q 0,wd q 1,wd q 2,wd q 3]) (by simp only[uY,afe,iA,iB,cA,cB,d1,d2];exact R2) (by rfl)).trans ?_
 refine(ve (r:=[vw (decide (¬ q'=0))]) (by simp only[uY,aff,iA,iB,cA,cB,d1,d2];exact L2) (by rfl)).trans ?_
 refine(ve (r:=[xq p q]) (by simp only[uY,apW];exact C) (by rfl)).trans ?_
 refine tI (p=q) (by simp only[uY,AZ];exact Pg) (fun h1=>?_) (fun h1=>?_)
 ·rw[if_pos h1] at hT
  refine tI (¬ p'=0) (by simp only[uY]) (fun h2=>?_) (fun h2=>?_)
  ·rw[vg rfl];simp only[uY];rw[hT,if_pos h2]
  ·refine tI (¬ q'=0) (by simp only[uY]) (fun h3=>?_) (fun h3=>?_)
   ·rw[vg rfl];simp only[uY];rw[hT,if_neg h2,if_pos h3]
   ·rw[vg rfl];simp only[uY,AZ];rw[hT,if_neg h2,if_neg h3,h1];unfold xq;rw[if_neg (Nat.lt_irrefl _),if_neg (Nat.lt_irrefl _)]
 ·rw[if_neg h1] at hT
  rw[vg rfl];simp only[uY,AZ];rw[hT]
theorem aqA {x n:Nat} (hx:x<vL) (hn:1≤n):2*FP.jam x n<vL+2:=by
 have h:=(FP.jam_half x n).1
 have h2:x/2^(n+1)*4≤x:=by
  have h3:4≤2^(n+1):=by
   have:2^2≤2^(n+1):=Nat.pow_le_pow_right (by decide) (by omega)
   simpa using this
  exact Nat.le_trans (Nat.mul_le_mul_left _ h3) (Nat.div_mul_le_self _ _)
 have h4:vL%4=0:=by decide
 generalize vL=w at *
 generalize x/2^(n+1)=k at *
 omega
theorem afC {x n:Nat} (hx:x<vL) (hn:1≤n):2*FP.jam x n<vL:=by
 have h:=aqA hx hn
 have h5:vL%4=0:=by decide
 have h1:=(FP.jam_half x n).1
 have h2:x/2^(n+1)*4≤x:=by
  have h3:4≤2^(n+1):=by
   have:2^2≤2^(n+1):=Nat.pow_le_pow_right (by decide) (by omega)
   simpa using this
  exact Nat.le_trans (Nat.mul_le_mul_left _ h3) (Nat.div_mul_le_self _ _)
 generalize vL=w at *
 generalize x/2^(n+1)=k at *
 omega
theorem sum_lt {ea eb:Int} {x y:Nat} (hx:x<vL) (hy:y<vL):(FP.sumT ea x eb y).2<vL:=by
 unfold FP.sumT
 simp only[]
 by_cases h0:x=0
 ·have jx:∀ n,FP.jam x n=0:=fun n=>by rw[h0];exact FP.jam_zero n
  rw[jx,Nat.zero_add]
  exact GH hy
 ·by_cases h1:y=0
  ·have jy:∀ n,FP.jam y n=0:=fun n=>by rw[h1];exact FP.jam_zero n
   rw[jy,Nat.add_zero]
   exact GH hx
  ·have e1:FP.lvl ea x eb y=max ea eb:=by unfold FP.lvl;rw[if_neg (fun h=>h0 h.1),if_neg (fun h=>h1 h.1)]
   rw[e1]
   have a:=afC (n:=(max ea eb+1-ea).toNat) hx (by omega)
   have b:=afC (n:=(max ea eb+1-eb).toNat) hy (by omega)
   generalize vL=w at *
   omega
theorem afD {ea eb:Int} {x y:Nat} (ha:zu ea) (hb:zu eb) (hx:x<vL) (hy:y<vL):OY [ea,wd x 0,wd x 1,wd x 2,wd x 3,eb,wd y 0,wd y 1,wd y 2,wd y 3] = [(FP.sumT ea x eb y).1,wd (FP.sumT ea x eb y).2 0,wd (FP.sumT ea x eb y).2 1,wd (FP.sumT ea x eb y).2 2,wd (FP.sumT ea x eb y).2 3]:=by
 obtain⟨l1,l2,l3,l4,l5,l6⟩:=afA x y ha hb
 have L:=aam (BB ha) (BB hb) hx hy
 have J1:=UH hx l1
 have J2:=UH hy l2
 have iA:=Ay (BB ha)
 have iB:=Ay (BB hb)
 have cA:=J5 (BB ha)
 have cB:=J5 (BB hb)
 have i1:=Ay l1
 have i2:=Ay l2
 have i5:=Ay l5
 have i6:=Ay l6
 have S:=sum_lt (ea:=ea) (eb:=eb) hx hy
 unfold FP.sumT at S ⊢
 simp only[] at S ⊢
 generalize FP.lvl ea x eb y=l at *
 generalize FP.jam x (l+1-ea).toNat=p at *
 generalize FP.jam y (l+1-eb).toNat=q at *
 rw[OY,aab]
 refine(ve (r:=[l]) (by simp only[uY,apX,iA,iB];exact L) (by rfl)).trans ?_
 refine(ve (r:=[wd p 0,wd p 1,wd p 2,wd p 3]) (by simp only[uY,afg,iA,iB,cA,cB,i1,i2,i5,i6];exact J1) (by rfl)).trans ?_
 refine(ve (r:=[wd q 0,wd q 1,wd q 2,wd q 3]) (by simp only[uY,afg,iA,iB,cA,cB,i1,i2,i5,i6];exact J2) (by rfl)).trans ?_
 refine(ve (r:=[wd (p+q) 0,wd (p+q) 1,wd (p+q) 2,wd (p+q) 3,0]) (by simp only[uY,apY];exact agm S) (by rfl)).trans ?_
 rw[vg rfl];simp only[uY,i5,i6]
theorem afE {ea eb:Int} {x y:Nat} (h:¬ FP.cmpT ea x eb y<0):FP.jam y (FP.lvl ea x eb y-eb).toNat≤FP.jam x (FP.lvl ea x eb y-ea).toNat:=by
 by_cases h1:y=0
 ·have:FP.jam y (FP.lvl ea x eb y-eb).toNat=0:=by rw[h1];exact FP.jam_zero _
  omega
 have hL:=FP.cmpT_lt (ea:=ea) (eb:=eb) (L:=min ea eb) (sa:=x) (sb:=y) (by omega) (by omega)
 rw[hL] at h
 have h:=Nat.le_of_not_lt h
 by_cases h0:x=0
 ·exfalso
  rw[h0,Nat.zero_mul] at h
  have:=FP.two_pow_pos (eb-min ea eb).toNat
  rcases Nat.mul_eq_zero.1 (Nat.le_zero.1 h) with h|h
  ·exact h1 h
  ·omega
 have e1:FP.lvl ea x eb y=max ea eb:=by unfold FP.lvl;rw[if_neg (fun h=>h0 h.1),if_neg (fun h=>h1 h.1)]
 rw[e1]
 by_cases hle:eb≤ea
 ·obtain⟨d,hd⟩:∃ d,d=(ea-eb).toNat:=⟨_,rfl⟩
  rw[show(max ea eb-ea).toNat=0 by omega,show(max ea eb-eb).toNat=d by omega,FP.jam0]
  rw[show(ea-min ea eb).toNat=d by omega,show(eb-min ea eb).toNat=0 by omega,Nat.pow_zero,Nat.mul_one] at h
  have hp:=FP.two_pow_pos d
  have q1:y/2^d≤x:=Nat.div_le_of_le_mul (by rw[Nat.mul_comm];exact h)
  unfold FP.jam
  split
  ·exact q1
  ·rename_i hz
   have e:=Nat.div_add_mod y (2^d)
   have q2:y/2^d≠x:=by
    intro e2
    rw[e2,Nat.mul_comm] at e
    omega
   omega
 ·obtain⟨d,hd⟩:∃ d,d=(eb-ea).toNat:=⟨_,rfl⟩
  rw[show(max ea eb-eb).toNat=0 by omega,show(max ea eb-ea).toNat=d by omega,FP.jam0]
  rw[show(eb-min ea eb).toNat=d by omega,show(ea-min ea eb).toNat=0 by omega,Nat.pow_zero,Nat.mul_one] at h
  have hp:=FP.two_pow_pos d
  have q1:y≤x/2^d:=(Nat.le_div_iff_mul_le hp).2 h
  unfold FP.jam
  split
  ·exact q1
  ·omega
theorem aao (ea:Int) (x:Nat) (eb:Int) (y:Nat):FP.lvl eb y ea x=FP.lvl ea x eb y:=by
 unfold FP.lvl
 by_cases h1:x=0∧y≠0
 ·rw[if_pos h1,if_neg (fun h=>h1.2 h.1),if_pos h1]
 ·rw[if_neg h1]
  by_cases h2:y=0∧x≠0
  ·rw[if_pos h2,if_neg h1,if_pos h2]
  ·rw[if_neg h2,if_neg h1,if_neg h2];omega
def Da (ea:Int) (x:Nat) (eb:Int) (y:Nat):Int×Nat:=if FP.cmpT ea x eb y<0 then FP.difT eb y ea x else FP.difT ea x eb y
theorem afF {ea eb:Int} {x y:Nat} (hx:x<vL) (hy:y<vL):(Da ea x eb y).2<vL:=by
 unfold Da FP.difT
 split
 ·exact Nat.lt_of_le_of_lt (Nat.sub_le _ _) (GH hy)
 ·exact Nat.lt_of_le_of_lt (Nat.sub_le _ _) (GH hx)
theorem aqB (ea:Int) (x:Nat) (eb:Int) (y:Nat):zW (FP.cmpT ea x eb y):=by
 unfold zW FP.cmpT
 split
 ·omega
 ·split
  ·omega
  ·split
   ·omega
   ·split<;>omega
theorem aqC {ea eb:Int} {x y:Nat} (h:FP.cmpT ea x eb y<0):¬ FP.cmpT eb y ea x<0:=by
 rw[FP.cmpT_lt (L:=min ea eb) (by omega) (by omega)] at h
 rw[FP.cmpT_lt (L:=min ea eb) (by omega) (by omega)]
 omega
theorem afG {ea eb:Int} {x y:Nat} (ha:zu ea) (hb:zu eb) (hx:x<vL) (hy:y<vL):O0 [ea,wd x 0,wd x 1,wd x 2,wd x 3,eb,wd y 0,wd y 1,wd y 2,wd y 3] =
  [(Da ea x eb y).1,wd (Da ea x eb y).2 0,wd (Da ea x eb y).2 1,wd (Da ea x eb y).2 2,wd (Da ea x eb y).2 3,vw (decide (FP.cmpT ea x eb y<0))]:=by
 obtain⟨l1,l2,l3,l4,l5,l6⟩:=afA x y ha hb
 have L:=aam (BB ha) (BB hb) hx hy
 have L':=aam (BB hb) (BB ha) hy hx
 have C:=aan ha hb hx hy
 have J1:=UH hx l3
 have J2:=UH hy l4
 have iA:=Ay (BB ha)
 have iB:=Ay (BB hb)
 have cA:=J5 (BB ha)
 have cB:=J5 (BB hb)
 have i3:=Ay l3
 have i4:=Ay l4
 have i6:=Ay l6
 have hT:=Ay (aqB ea x eb y)
 have P1:¬ FP.cmpT ea x eb y<0→FP.jam y (FP.lvl ea x eb y-eb).toNat≤FP.jam x (FP.lvl ea x eb y-ea).toNat:=fun h=>afE h
 have P2:FP.cmpT ea x eb y<0→FP.jam x (FP.lvl ea x eb y-ea).toNat≤FP.jam y (FP.lvl ea x eb y-eb).toNat:=fun h=>by
  have:=afE (aqC h)
  rw[aao] at this;exact this
 have px:FP.jam x (FP.lvl ea x eb y-ea).toNat<vL:=GH hx
 have py:FP.jam y (FP.lvl ea x eb y-eb).toNat<vL:=GH hy
 unfold Da FP.difT
 rw[aao] at L'
 rw[aao ea x eb y]
 generalize FP.lvl ea x eb y=l at *
 generalize FP.jam x (l-ea).toNat=p at *
 generalize FP.jam y (l-eb).toNat=q at *
 generalize FP.cmpT ea x eb y=T at *
 rw[O0,aac]
 refine(ve (r:=[T]) (by simp only[uY,ap2,iA,iB];exact C) (by rfl)).trans ?_
 refine tI (T<0) (by simp only[uY,hT]) (fun h1=>?_) (fun h1=>?_)
 ·refine(ve (r:=[l]) (by simp only[uY,afi,iA,iB];exact L') (by rfl)).trans ?_
  refine(ve (r:=[wd q 0,wd q 1,wd q 2,wd q 3]) (by simp only[uY,UE,iA,iB,cA,cB,i3,i4,i6,Int.add_zero];exact J2) (by rfl)).trans ?_
  refine(ve (r:=[wd p 0,wd p 1,wd p 2,wd p 3]) (by simp only[uY,UE,iA,iB,cA,cB,i3,i4,i6,Int.add_zero];exact J1) (by rfl)).trans ?_
  refine(ve (r:=[wd (q-p) 0,wd (q-p) 1,wd (q-p) 2,wd (q-p) 3,0]) (by simp only[uY,afj];exact aaC py (P2 h1)) (by rfl)).trans ?_
  rw[vg rfl];simp only[uY,i6,hT,Int.add_zero];rw[if_pos h1]
 ·refine(ve (r:=[l]) (by simp only[uY,afi,iA,iB];exact L) (by rfl)).trans ?_
  refine(ve (r:=[wd p 0,wd p 1,wd p 2,wd p 3]) (by simp only[uY,UE,iA,iB,cA,cB,i3,i4,i6,Int.add_zero];exact J1) (by rfl)).trans ?_
  refine(ve (r:=[wd q 0,wd q 1,wd q 2,wd q 3]) (by simp only[uY,UE,iA,iB,cA,cB,i3,i4,i6,Int.add_zero];exact J2) (by rfl)).trans ?_
  refine(ve (r:=[wd (p-q) 0,wd (p-q) 1,wd (p-q) 2,wd (p-q) 3,0]) (by simp only[uY,afj];exact aaC px (P1 h1)) (by rfl)).trans ?_
  rw[vg rfl];simp only[uY,i6,hT,Int.add_zero];rw[if_neg h1]
end Go.Proofs.YtemomocmfggiaaaGreatDoor
