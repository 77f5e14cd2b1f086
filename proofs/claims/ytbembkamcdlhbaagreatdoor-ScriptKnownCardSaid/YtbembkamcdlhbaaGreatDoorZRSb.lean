import Derived.Test.YtbembkamcdlhbaaGreatDoorZ1Sb
import Derived.Test.YtbembkamcdlhbaaGreatDoorZNSb
set_option linter.unusedSimpArgs false
set_option linter.unusedVariables false
set_option maxRecDepth 100000
namespace Go.Proofs.YtbembkamcdlhbaaGreatDoor
open Go.RowKit
theorem ahM {x y m:Nat} (hm:0<m) (h:¬ x/m=y/m):tY (x/m) (y/m)=tY x y:=by
 have h1:x/m<y/m→x<y:=fun h=>Nat.lt_of_div_lt_div h
 have h2:y/m<x/m→y<x:=fun h=>Nat.lt_of_div_lt_div h
 unfold tY
 by_cases h3:x/m<y/m
 ·rw[if_pos h3,if_pos (h1 h3)]
 ·have h4:y/m<x/m:=by omega
  have h5:=h2 h4
  rw[if_neg h3,if_pos h4,if_neg (by omega),if_pos h5]
theorem ahN {x y m:Nat} (hm:0<m) (h:x/m=y/m):tY (x%m) (y%m)=tY x y:=by
 have e1:=Nat.div_add_mod x m
 have e2:=Nat.div_add_mod y m
 rw[← h] at e2
 generalize m*(x/m)=q at *
 unfold tY
 by_cases h3:x%m<y%m
 ·rw[if_pos h3,if_pos (by omega)]
 ·by_cases h4:y%m<x%m
  ·rw[if_neg h3,if_pos h4,if_neg (by omega),if_pos (by omega)]
  ·rw[if_neg h3,if_neg h4,if_neg (by omega),if_neg (by omega)]
theorem ahO (a b c d e f g h:Int):Nk [a,b,c,d,e,f,g,h] = [tY (nW a b c d) (nW e f g h)]:=by
 have hx:=Rq a b c d
 have hy:=Rq e f g h
 have cx:nW (u64 a) (u64 b) (u64 c) (u64 d)=nW a b c d:=Yb _ _ _ _
 have cy:nW (u64 e) (u64 f) (u64 g) (u64 h)=nW e f g h:=Yb _ _ _ _
 have H1:Dr [u64 a,u64 b,u64 c,u64 d] = [wd (nW a b c d/rE) 1,wd (nW a b c d/rE) 0]:=by rw[X9,cx,yj]
 have H2:Dr [u64 e,u64 f,u64 g,u64 h] = [wd (nW e f g h/rE) 1,wd (nW e f g h/rE) 0]:=by rw[X9,cy,yj]
 have L1:Dt [u64 a,u64 b,u64 c,u64 d] = [wd (nW a b c d) 1,wd (nW a b c d) 0]:=by rw[Ya,cx,yj]
 have L2:Dt [u64 e,u64 f,u64 g,u64 h] = [wd (nW e f g h) 1,wd (nW e f g h) 0]:=by rw[Ya,cy,yj]
 generalize nW a b c d=x at *
 generalize nW e f g h=y at *
 rw[Nk,Rz]
 refine(wF (r:=[wd (x/rE) 1,wd (x/rE) 0]) (by simp only[tT,Yv];exact H1) (by rfl)).trans ?_
 refine(wF (r:=[wd (y/rE) 1,wd (y/rE) 0]) (by simp only[tT,Yv];exact H2) (by rfl)).trans ?_
 refine(wF (r:=[tY (x/rE) (y/rE)]) (by simp only[tT,Yw];exact ahX (Uf hx) (Uf hy)) (by rfl)).trans ?_
 refine tI (¬ x/rE=y/rE) (by simp only[tT,Nr];show(!(tY _ _==0))=_;rw[ahY];exact(decide_not).symm) (fun h1=>?_) (fun h1=>?_)
 ·rw[wE rfl]
  simp only[tT,Nr]
  rw[ahM JC h1]
 replace h1:=Decidable.not_not.1 h1
 refine(wF (r:=[wd x 1,wd x 0]) (by simp only[tT,Yx];exact L1) (by rfl)).trans ?_
 refine(wF (r:=[wd y 1,wd y 0]) (by simp only[tT,Yx];exact L2) (by rfl)).trans ?_
 refine(wF (r:=[tY x y]) (by simp only[tT,Yw];rw[RB,Na,Na,ahN JC h1]) (by rfl)).trans ?_
 rw[wE rfl]
 simp only[tT,Nr]
end Go.Proofs.YtbembkamcdlhbaaGreatDoor
