import Derived.Test.YtbembkamcdlhbaaGreatDoorZ1Sb
import Derived.Test.YtbembkamcdlhbaaGreatDoorZNSb
set_option linter.unusedSimpArgs false
set_option linter.unusedVariables false
set_option maxRecDepth 100000
namespace Go.Proofs.YtbembkamcdlhbaaGreatDoor
open Go.RowKit
theorem ahB {x y m:Nat} (hm:0<m) (h:¬ x/m=y/m):tQ (x/m) (y/m)=tQ x y:=by
 have h1:x/m<y/m→x<y:=fun h=>Nat.lt_of_div_lt_div h
 have h2:y/m<x/m→y<x:=fun h=>Nat.lt_of_div_lt_div h
 unfold tQ
 by_cases h3:x/m<y/m
 ·rw[if_pos h3,if_pos (h1 h3)]
 ·have h4:y/m<x/m:=by omega
  have h5:=h2 h4
  rw[if_neg h3,if_pos h4,if_neg (by omega),if_pos h5]
theorem ahC {x y m:Nat} (hm:0<m) (h:x/m=y/m):tQ (x%m) (y%m)=tQ x y:=by
 have e1:=Nat.div_add_mod x m
 have e2:=Nat.div_add_mod y m
 rw[← h] at e2
 generalize m*(x/m)=q at *
 unfold tQ
 by_cases h3:x%m<y%m
 ·rw[if_pos h3,if_pos (by omega)]
 ·by_cases h4:y%m<x%m
  ·rw[if_neg h3,if_pos h4,if_neg (by omega),if_pos (by omega)]
  ·rw[if_neg h3,if_neg h4,if_neg (by omega),if_neg (by omega)]
theorem ahD (a b c d e f g h:Int):Ni [a,b,c,d,e,f,g,h] = [tQ (nW a b c d) (nW e f g h)]:=by
 have hx:=Rn a b c d
 have hy:=Rn e f g h
 have cx:nW (u64 a) (u64 b) (u64 c) (u64 d)=nW a b c d:=X7 _ _ _ _
 have cy:nW (u64 e) (u64 f) (u64 g) (u64 h)=nW e f g h:=X7 _ _ _ _
 have H1:Dj [u64 a,u64 b,u64 c,u64 d] = [wd (nW a b c d/rA) 1,wd (nW a b c d/rA) 0]:=by rw[X5,cx,xZ]
 have H2:Dj [u64 e,u64 f,u64 g,u64 h] = [wd (nW e f g h/rA) 1,wd (nW e f g h/rA) 0]:=by rw[X5,cy,xZ]
 have L1:Dk [u64 a,u64 b,u64 c,u64 d] = [wd (nW a b c d) 1,wd (nW a b c d) 0]:=by rw[X6,cx,xZ]
 have L2:Dk [u64 e,u64 f,u64 g,u64 h] = [wd (nW e f g h) 1,wd (nW e f g h) 0]:=by rw[X6,cy,xZ]
 generalize nW a b c d=x at *
 generalize nW e f g h=y at *
 rw[Ni,Rw]
 refine(wy (r:=[wd (x/rA) 1,wd (x/rA) 0]) (by simp only[tL,Yq];exact H1) (by rfl)).trans ?_
 refine(wy (r:=[wd (y/rA) 1,wd (y/rA) 0]) (by simp only[tL,Yq];exact H2) (by rfl)).trans ?_
 refine(wy (r:=[tQ (x/rA) (y/rA)]) (by simp only[tL,Yr];exact ahM (Ub hx) (Ub hy)) (by rfl)).trans ?_
 refine tI (¬ x/rA=y/rA) (by simp only[tL,Np];show(!(tQ _ _==0))=_;rw[ahN];exact(decide_not).symm) (fun h1=>?_) (fun h1=>?_)
 ·rw[ww rfl]
  simp only[tL,Np]
  rw[ahB Jv h1]
 replace h1:=Decidable.not_not.1 h1
 refine(wy (r:=[wd x 1,wd x 0]) (by simp only[tL,Yt];exact L1) (by rfl)).trans ?_
 refine(wy (r:=[wd y 1,wd y 0]) (by simp only[tL,Yt];exact L2) (by rfl)).trans ?_
 refine(wy (r:=[tQ x y]) (by simp only[tL,Yr];rw[Ry,M8,M8,ahC Jv h1]) (by rfl)).trans ?_
 rw[ww rfl]
 simp only[tL,Np]
end Go.Proofs.YtbembkamcdlhbaaGreatDoor
