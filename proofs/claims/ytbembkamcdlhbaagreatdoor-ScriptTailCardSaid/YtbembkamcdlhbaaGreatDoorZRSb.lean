import Derived.Test.YtbembkamcdlhbaaGreatDoorZ1Sb
import Derived.Test.YtbembkamcdlhbaaGreatDoorZNSb
set_option linter.unusedSimpArgs false
set_option linter.unusedVariables false
set_option maxRecDepth 100000
namespace Go.Proofs.YtbembkamcdlhbaaGreatDoor
open Go.RowKit
theorem ah3 {x y m:Nat} (hm:0<m) (h:¬ x/m=y/m):ui (x/m) (y/m)=ui x y:=by
 have h1:x/m<y/m→x<y:=fun h=>Nat.lt_of_div_lt_div h
 have h2:y/m<x/m→y<x:=fun h=>Nat.lt_of_div_lt_div h
 unfold ui
 by_cases h3:x/m<y/m
 ·rw[if_pos h3,if_pos (h1 h3)]
 ·have h4:y/m<x/m:=by omega
  have h5:=h2 h4
  rw[if_neg h3,if_pos h4,if_neg (by omega),if_pos h5]
theorem ah4 {x y m:Nat} (hm:0<m) (h:x/m=y/m):ui (x%m) (y%m)=ui x y:=by
 have e1:=Nat.div_add_mod x m
 have e2:=Nat.div_add_mod y m
 rw[← h] at e2
 generalize m*(x/m)=q at *
 unfold ui
 by_cases h3:x%m<y%m
 ·rw[if_pos h3,if_pos (by omega)]
 ·by_cases h4:y%m<x%m
  ·rw[if_neg h3,if_pos h4,if_neg (by omega),if_pos (by omega)]
  ·rw[if_neg h3,if_neg h4,if_neg (by omega),if_neg (by omega)]
theorem ah5 (a b c d e f g h:Int):NC [a,b,c,d,e,f,g,h] = [ui (nW a b c d) (nW e f g h)]:=by
 have hx:=RI a b c d
 have hy:=RI e f g h
 have cx:nW (u64 a) (u64 b) (u64 c) (u64 d)=nW a b c d:=Yo _ _ _ _
 have cy:nW (u64 e) (u64 f) (u64 g) (u64 h)=nW e f g h:=Yo _ _ _ _
 have H1:Du [u64 a,u64 b,u64 c,u64 d] = [wd (nW a b c d/rO) 1,wd (nW a b c d/rO) 0]:=by rw[Ym,cx,yw]
 have H2:Du [u64 e,u64 f,u64 g,u64 h] = [wd (nW e f g h/rO) 1,wd (nW e f g h/rO) 0]:=by rw[Ym,cy,yw]
 have L1:Dv [u64 a,u64 b,u64 c,u64 d] = [wd (nW a b c d) 1,wd (nW a b c d) 0]:=by rw[Yn,cx,yw]
 have L2:Dv [u64 e,u64 f,u64 g,u64 h] = [wd (nW e f g h) 1,wd (nW e f g h) 0]:=by rw[Yn,cy,yw]
 generalize nW a b c d=x at *
 generalize nW e f g h=y at *
 rw[NC,RU]
 refine(wJ (r:=[wd (x/rO) 1,wd (x/rO) 0]) (by simp only[uf,YI];exact H1) (by rfl)).trans ?_
 refine(wJ (r:=[wd (y/rO) 1,wd (y/rO) 0]) (by simp only[uf,YI];exact H2) (by rfl)).trans ?_
 refine(wJ (r:=[ui (x/rO) (y/rO)]) (by simp only[uf,YJ];exact aie (Ut hx) (Ut hy)) (by rfl)).trans ?_
 refine tI (¬ x/rO=y/rO) (by simp only[uf,NH];show(!(ui _ _==0))=_;rw[aif];exact(decide_not).symm) (fun h1=>?_) (fun h1=>?_)
 ·rw[wI rfl]
  simp only[uf,NH]
  rw[ah3 JJ h1]
 replace h1:=Decidable.not_not.1 h1
 refine(wJ (r:=[wd x 1,wd x 0]) (by simp only[uf,YK];exact L1) (by rfl)).trans ?_
 refine(wJ (r:=[wd y 1,wd y 0]) (by simp only[uf,YK];exact L2) (by rfl)).trans ?_
 refine(wJ (r:=[ui x y]) (by simp only[uf,YJ];rw[RX,Nu,Nu,ah4 JJ h1]) (by rfl)).trans ?_
 rw[wI rfl]
 simp only[uf,NH]
end Go.Proofs.YtbembkamcdlhbaaGreatDoor
