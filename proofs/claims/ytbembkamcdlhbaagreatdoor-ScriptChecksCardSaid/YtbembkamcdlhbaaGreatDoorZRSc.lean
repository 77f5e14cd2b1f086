import Derived.Test.YtbembkamcdlhbaaGreatDoorZ1Sc
import Derived.Test.YtbembkamcdlhbaaGreatDoorZNSc
set_option linter.unusedSimpArgs false
set_option linter.unusedVariables false
set_option maxRecDepth 100000
namespace Go.Proofs.YtbembkamcdlhbaaGreatDoor
open Go.RowKit
theorem aio {x y m:Nat} (hm:0<m) (h:¬ x/m=y/m):uf (x/m) (y/m)=uf x y:=by
 have h1:x/m<y/m→x<y:=fun h=>Nat.lt_of_div_lt_div h
 have h2:y/m<x/m→y<x:=fun h=>Nat.lt_of_div_lt_div h
 unfold uf
 by_cases h3:x/m<y/m
 ·rw[if_pos h3,if_pos (h1 h3)]
 ·have h4:y/m<x/m:=by omega
  have h5:=h2 h4
  rw[if_neg h3,if_pos h4,if_neg (by omega),if_pos h5]
theorem aip {x y m:Nat} (hm:0<m) (h:x/m=y/m):uf (x%m) (y%m)=uf x y:=by
 have e1:=Nat.div_add_mod x m
 have e2:=Nat.div_add_mod y m
 rw[← h] at e2
 generalize m*(x/m)=q at *
 unfold uf
 by_cases h3:x%m<y%m
 ·rw[if_pos h3,if_pos (by omega)]
 ·by_cases h4:y%m<x%m
  ·rw[if_neg h3,if_pos h4,if_neg (by omega),if_pos (by omega)]
  ·rw[if_neg h3,if_neg h4,if_neg (by omega),if_neg (by omega)]
theorem aiq (a b c d e f g h:Int):NP [a,b,c,d,e,f,g,h] = [uf (nW a b c d) (nW e f g h)]:=by
 have hx:=RY a b c d
 have hy:=RY e f g h
 have cx:nW (u64 a) (u64 b) (u64 c) (u64 d)=nW a b c d:=YD _ _ _ _
 have cy:nW (u64 e) (u64 f) (u64 g) (u64 h)=nW e f g h:=YD _ _ _ _
 have H1:DN [u64 a,u64 b,u64 c,u64 d] = [wd (nW a b c d/rD) 1,wd (nW a b c d/rD) 0]:=by rw[YB,cx,yC]
 have H2:DN [u64 e,u64 f,u64 g,u64 h] = [wd (nW e f g h/rD) 1,wd (nW e f g h/rD) 0]:=by rw[YB,cy,yC]
 have L1:DR [u64 a,u64 b,u64 c,u64 d] = [wd (nW a b c d) 1,wd (nW a b c d) 0]:=by rw[YC,cx,yC]
 have L2:DR [u64 e,u64 f,u64 g,u64 h] = [wd (nW e f g h) 1,wd (nW e f g h) 0]:=by rw[YC,cy,yC]
 generalize nW a b c d=x at *
 generalize nW e f g h=y at *
 rw[NP,Sd]
 refine(wT (r:=[wd (x/rD) 1,wd (x/rD) 0]) (by simp only[tX,YW];exact H1) (by rfl)).trans ?_
 refine(wT (r:=[wd (y/rD) 1,wd (y/rD) 0]) (by simp only[tX,YW];exact H2) (by rfl)).trans ?_
 refine(wT (r:=[uf (x/rD) (y/rD)]) (by simp only[tX,YX];exact aiz (UG hx) (UG hy)) (by rfl)).trans ?_
 refine tI (¬ x/rD=y/rD) (by simp only[tX,NU];show(!(uf _ _==0))=_;rw[aiA];exact(decide_not).symm) (fun h1=>?_) (fun h1=>?_)
 ·rw[wS rfl]
  simp only[tX,NU]
  rw[aio J8 h1]
 replace h1:=Decidable.not_not.1 h1
 refine(wT (r:=[wd x 1,wd x 0]) (by simp only[tX,YY];exact L1) (by rfl)).trans ?_
 refine(wT (r:=[wd y 1,wd y 0]) (by simp only[tX,YY];exact L2) (by rfl)).trans ?_
 refine(wT (r:=[uf x y]) (by simp only[tX,YX];rw[Si,NH,NH,aip J8 h1]) (by rfl)).trans ?_
 rw[wS rfl]
 simp only[tX,NU]
end Go.Proofs.YtbembkamcdlhbaaGreatDoor
