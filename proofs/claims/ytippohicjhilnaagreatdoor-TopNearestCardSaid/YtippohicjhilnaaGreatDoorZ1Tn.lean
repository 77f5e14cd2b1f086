import Derived.Test.YtippohicjhilnaaGreatDoorZETn
import Derived.Test.YtippohicjhilnaaGreatDoorZGTn
import Derived.Test.YtippohicjhilnaaGreatDoorZQTn
set_option linter.unusedSimpArgs false
set_option linter.unusedVariables false
set_option maxRecDepth 100000
namespace Go.Proofs.YtippohicjhilnaaGreatDoor
open Go.RowKit
theorem tI {Φ:yE} {ct:Ct} {c:X} {a b:vU SV} {l r:List Int} (p:Prop) [Decidable p] (hc:ww (c.ev l)=decide p) (ht:p->wE Φ ct a l=r) (hf:¬ p->wE Φ ct b l=r):wE Φ ct (.ite c a b) l=r:=by
 rw[xg,hc];by_cases h:p
 ·rw[decide_eq_true h,if_pos rfl];exact ht h
 ·rw[decide_eq_false h,if_neg Bool.false_ne_true];exact hf h
theorem tT {Φ:yE} {ct:Ct} {c:X} {a b:vU SV} {l r:List Int} (hc:ww (c.ev l)=true) (h:wE Φ ct a l=r):wE Φ ct (.ite c a b) l=r:=by rw[xg,if_pos hc];exact h
theorem tF {Φ:yE} {ct:Ct} {c:X} {a b:vU SV} {l r:List Int} (hc:ww (c.ev l)=false) (h:wE Φ ct b l=r):wE Φ ct (.ite c a b) l=r:=by rw[xg,hc,if_neg Bool.false_ne_true];exact h
theorem ajB {f:Int} (hf:fN f<4):IR [u8 f] = [wd (zM (fN f)) 1,wd (zM (fN f)) 0]:=by rw[ah2,wz,if_pos hf,wS];rfl
theorem XW {f:Int} (hf:fN f<4):(!decide (u8 f<4))=false:=by rw[decide_eq_true ((Hg f).2 hf)];rfl
theorem ajC {m:Int} (hm:u8 m<=4):(!decide (u8 m<=4))=false:=by rw[decide_eq_true hm];rfl
theorem UK {f:Int} (hf:fN f<4) (x y:Int) (h:4<=vT (fN f) (nB x y)):Hy [u8 f,u64 x,u64 y] = [wd (yI (fN f) (nB x y)) 1,wd (yI (fN f) (nB x y)) 0]:=by
 have hf3:fN (u8 f)<4:=by rw[wz];exact hf
 rw[ab8 _ _ _ hf3 (by rw[wz,wX];exact h),wz,wX,wS];rfl
theorem atZ (f i a1 a0 b1 b0:Int) (hf:fN f<4):LX [f,i,a1,a0,b1,b0]=if 4<=vT (fN f) (nB a1 a0) then [wd (yI (fN f) (nB a1 a0)) 1,wd (yI (fN f) (nB a1 a0)) 0,(if ww i=true\/vT (fN f) (nB a1 a0)=5\/vT (fN f) (nB b1 b0)=5 then(1:Int) else 0),1] else if 4<=vT (fN f) (nB b1 b0) then [wd (yI (fN f) (nB b1 b0)) 1,wd (yI (fN f) (nB b1 b0)) 0,(if ww i=true\/vT (fN f) (nB a1 a0)=5\/vT (fN f) (nB b1 b0)=5 then(1:Int) else 0),1] else if ww i=true then [wd (zM (fN f)) 1,wd (zM (fN f)) 0,1,1] else [0,0,0,0]:=by
 have dflt:=ajB hf;have known:=XW hf;have nanA:CX [u8 f,u64 a1,u64 a0] = [wh (decide (4<=vT (fN f) (nB a1 a0)))]:=by rw[JK,wz,wX]
 have sigA:Ee [u8 f,u64 a1,u64 a0] = [wh (decide (vT (fN f) (nB a1 a0)=5))]:=by rw[Nl,wz,wX]
 have quA:=UK hf a1 a0;have nanB:CX [u8 f,u64 b1,u64 b0] = [wh (decide (4<=vT (fN f) (nB b1 b0)))]:=by rw[JK,wz,wX]
 have sigB:Ee [u8 f,u64 b1,u64 b0] = [wh (decide (vT (fN f) (nB b1 b0)=5))]:=by rw[Nl,wz,wX]
 have quB:=UK hf b1 b0;rw[LX,adW];refine(vX (r:=[wh (decide (4<=vT (fN f) (nB a1 a0)))]) (by simp only[vS,UV];exact nanA) (by rfl)).trans ?_;refine tI (4<=vT (fN f) (nB a1 a0)) (by simp only[vS]) (λh1=>?_) (λh1=>?_)
 ·refine tF (by simp only[vS];exact known) ?_;refine(vX (r:=[wd (zM (fN f)) 1,wd (zM (fN f)) 0]) (by simp only[vS,NM];exact dflt) (by rfl)).trans ?_;refine(vX (r:=[wd (yI (fN f) (nB a1 a0)) 1,wd (yI (fN f) (nB a1 a0)) 0]) (by simp only[vS,UW];exact quA h1) (by rfl)).trans ?_;refine tI (ww i=true) (by simp only[vS];exact(Bool.decide_coe _).symm) (λh2=>?_) (λh2=>?_)
  ·first|(exfalso;omega)|(rw[wu rfl];simp only[vS];simp only[h1,h2,eq_self,Bool.false_eq_true,Nat.reduceLeDiff,Nat.reduceEqDiff,if_true,if_false,or_true,true_or,or_false,false_or,or_self,not_true_eq_false,not_false_eq_true,wV,wW,wS,decide_true,decide_false])
  ·refine(vX (r:=[wh (decide (vT (fN f) (nB a1 a0)=5))]) (by simp only[vS,Fv];exact sigA) (by rfl)).trans ?_;refine tI (vT (fN f) (nB a1 a0)=5) (by simp only[vS]) (λh3=>?_) (λh3=>?_)
   ·first|(exfalso;omega)|(rw[wu rfl];simp only[vS];simp only[h1,h2,h3,eq_self,Bool.false_eq_true,Nat.reduceLeDiff,Nat.reduceEqDiff,if_true,if_false,or_true,true_or,or_false,false_or,or_self,not_true_eq_false,not_false_eq_true,wV,wW,wS,decide_true,decide_false])
   ·refine(vX (r:=[wh (decide (vT (fN f) (nB b1 b0)=5))]) (by simp only[vS,Fv];exact sigB) (by rfl)).trans ?_;refine tI (vT (fN f) (nB b1 b0)=5) (by simp only[vS]) (λh4=>?_) (λh4=>?_)
    ·first|(exfalso;omega)|(rw[wu rfl];simp only[vS];simp only[h1,h2,h3,h4,eq_self,Bool.false_eq_true,Nat.reduceLeDiff,Nat.reduceEqDiff,if_true,if_false,or_true,true_or,or_false,false_or,or_self,not_true_eq_false,not_false_eq_true,wV,wW,wS,decide_true,decide_false])
    ·first|(exfalso;omega)|(rw[wu rfl];simp only[vS];simp only[h1,h2,h3,h4,eq_self,Bool.false_eq_true,Nat.reduceLeDiff,Nat.reduceEqDiff,if_true,if_false,or_true,true_or,or_false,false_or,or_self,not_true_eq_false,not_false_eq_true,wV,wW,wS,decide_true,decide_false])
 ·refine(vX (r:=[wh (decide (4<=vT (fN f) (nB b1 b0)))]) (by simp only[vS,UV];exact nanB) (by rfl)).trans ?_;refine tI (4<=vT (fN f) (nB b1 b0)) (by simp only[vS]) (λh5=>?_) (λh5=>?_)
  ·refine tF (by simp only[vS];exact known) ?_;refine(vX (r:=[wd (zM (fN f)) 1,wd (zM (fN f)) 0]) (by simp only[vS,NM];exact dflt) (by rfl)).trans ?_;refine(vX (r:=[wd (yI (fN f) (nB b1 b0)) 1,wd (yI (fN f) (nB b1 b0)) 0]) (by simp only[vS,UW];exact quB h5) (by rfl)).trans ?_;refine tI (ww i=true) (by simp only[vS];exact(Bool.decide_coe _).symm) (λh6=>?_) (λh6=>?_)
   ·first|(exfalso;omega)|(rw[wu rfl];simp only[vS];simp only[h1,h5,h6,eq_self,Bool.false_eq_true,Nat.reduceLeDiff,Nat.reduceEqDiff,if_true,if_false,or_true,true_or,or_false,false_or,or_self,not_true_eq_false,not_false_eq_true,wV,wW,wS,decide_true,decide_false])
   ·refine(vX (r:=[wh (decide (vT (fN f) (nB a1 a0)=5))]) (by simp only[vS,Fv];exact sigA) (by rfl)).trans ?_;refine tI (vT (fN f) (nB a1 a0)=5) (by simp only[vS]) (λh7=>?_) (λh7=>?_)
    ·first|(exfalso;omega)|(rw[wu rfl];simp only[vS];simp only[h1,h5,h6,h7,eq_self,Bool.false_eq_true,Nat.reduceLeDiff,Nat.reduceEqDiff,if_true,if_false,or_true,true_or,or_false,false_or,or_self,not_true_eq_false,not_false_eq_true,wV,wW,wS,decide_true,decide_false])
    ·refine(vX (r:=[wh (decide (vT (fN f) (nB b1 b0)=5))]) (by simp only[vS,Fv];exact sigB) (by rfl)).trans ?_;refine tI (vT (fN f) (nB b1 b0)=5) (by simp only[vS]) (λh8=>?_) (λh8=>?_)
     ·first|(exfalso;omega)|(rw[wu rfl];simp only[vS];simp only[h1,h5,h6,h7,h8,eq_self,Bool.false_eq_true,Nat.reduceLeDiff,Nat.reduceEqDiff,if_true,if_false,or_true,true_or,or_false,false_or,or_self,not_true_eq_false,not_false_eq_true,wV,wW,wS,decide_true,decide_false])
     ·first|(exfalso;omega)|(rw[wu rfl];simp only[vS];simp only[h1,h5,h6,h7,h8,eq_self,Bool.false_eq_true,Nat.reduceLeDiff,Nat.reduceEqDiff,if_true,if_false,or_true,true_or,or_false,false_or,or_self,not_true_eq_false,not_false_eq_true,wV,wW,wS,decide_true,decide_false])
  ·refine tF (by simp only[vS];exact known) ?_;refine tI (¬ ww i=true) (by simp only[vS];cases ww i<;>rfl) (λh9=>?_) (λh9=>?_)
   ·first|(exfalso;omega)|(rw[wu rfl];simp only[vS];simp only[h1,h5,h9,eq_self,Bool.false_eq_true,Nat.reduceLeDiff,Nat.reduceEqDiff,if_true,if_false,or_true,true_or,or_false,false_or,or_self,not_true_eq_false,not_false_eq_true,wV,wW,wS,decide_true,decide_false])
   ·refine(vX (r:=[wd (zM (fN f)) 1,wd (zM (fN f)) 0]) (by simp only[vS,NM];exact dflt) (by rfl)).trans ?_;first|(exfalso;omega)|(replace h9:=Decidable.not_not.1 h9;rw[wu rfl];simp only[vS];simp only[h1,h5,h9,eq_self,Bool.false_eq_true,Nat.reduceLeDiff,Nat.reduceEqDiff,if_true,if_false,or_true,true_or,or_false,false_or,or_self,not_true_eq_false,not_false_eq_true,wV,wW,wS,decide_true,decide_false])
theorem at0 (f i a1 a0 b1 b0 c1 c0:Int) (hf:fN f<4):LY [f,i,a1,a0,b1,b0,c1,c0]=if 4<=vT (fN f) (nB a1 a0) then [wd (yI (fN f) (nB a1 a0)) 1,wd (yI (fN f) (nB a1 a0)) 0,(if ww i=true\/vT (fN f) (nB a1 a0)=5\/vT (fN f) (nB b1 b0)=5\/vT (fN f) (nB c1 c0)=5 then(1:Int) else 0),1] else if 4<=vT (fN f) (nB b1 b0) then [wd (yI (fN f) (nB b1 b0)) 1,wd (yI (fN f) (nB b1 b0)) 0,(if ww i=true\/vT (fN f) (nB a1 a0)=5\/vT (fN f) (nB b1 b0)=5\/vT (fN f) (nB c1 c0)=5 then(1:Int) else 0),1] else if 4<=vT (fN f) (nB c1 c0) then [wd (yI (fN f) (nB c1 c0)) 1,wd (yI (fN f) (nB c1 c0)) 0,(if ww i=true\/vT (fN f) (nB a1 a0)=5\/vT (fN f) (nB b1 b0)=5\/vT (fN f) (nB c1 c0)=5 then(1:Int) else 0),1] else if ww i=true then [wd (zM (fN f)) 1,wd (zM (fN f)) 0,1,1] else [0,0,0,0]:=by
 have dflt:=ajB hf;have known:=XW hf;have nanA:CX [u8 f,u64 a1,u64 a0] = [wh (decide (4<=vT (fN f) (nB a1 a0)))]:=by rw[JK,wz,wX]
 have sigA:Ee [u8 f,u64 a1,u64 a0] = [wh (decide (vT (fN f) (nB a1 a0)=5))]:=by rw[Nl,wz,wX]
 have quA:=UK hf a1 a0;have nanB:CX [u8 f,u64 b1,u64 b0] = [wh (decide (4<=vT (fN f) (nB b1 b0)))]:=by rw[JK,wz,wX]
 have sigB:Ee [u8 f,u64 b1,u64 b0] = [wh (decide (vT (fN f) (nB b1 b0)=5))]:=by rw[Nl,wz,wX]
 have quB:=UK hf b1 b0;have nanC:CX [u8 f,u64 c1,u64 c0] = [wh (decide (4<=vT (fN f) (nB c1 c0)))]:=by rw[JK,wz,wX]
 have sigC:Ee [u8 f,u64 c1,u64 c0] = [wh (decide (vT (fN f) (nB c1 c0)=5))]:=by rw[Nl,wz,wX]
 have PX:=UK hf c1 c0;rw[LY,adX];refine(vX (r:=[wh (decide (4<=vT (fN f) (nB a1 a0)))]) (by simp only[vS,UV];exact nanA) (by rfl)).trans ?_;refine tI (4<=vT (fN f) (nB a1 a0)) (by simp only[vS]) (λh1=>?_) (λh1=>?_)
 ·refine tF (by simp only[vS];exact known) ?_;refine(vX (r:=[wd (zM (fN f)) 1,wd (zM (fN f)) 0]) (by simp only[vS,NM];exact dflt) (by rfl)).trans ?_;refine(vX (r:=[wd (yI (fN f) (nB a1 a0)) 1,wd (yI (fN f) (nB a1 a0)) 0]) (by simp only[vS,UW];exact quA h1) (by rfl)).trans ?_;refine tI (ww i=true) (by simp only[vS];exact(Bool.decide_coe _).symm) (λh2=>?_) (λh2=>?_)
  ·first|(exfalso;omega)|(rw[wu rfl];simp only[vS];simp only[h1,h2,eq_self,Bool.false_eq_true,Nat.reduceLeDiff,Nat.reduceEqDiff,if_true,if_false,or_true,true_or,or_false,false_or,or_self,not_true_eq_false,not_false_eq_true,wV,wW,wS,decide_true,decide_false])
  ·refine(vX (r:=[wh (decide (vT (fN f) (nB a1 a0)=5))]) (by simp only[vS,Fv];exact sigA) (by rfl)).trans ?_;refine tI (vT (fN f) (nB a1 a0)=5) (by simp only[vS]) (λh3=>?_) (λh3=>?_)
   ·first|(exfalso;omega)|(rw[wu rfl];simp only[vS];simp only[h1,h2,h3,eq_self,Bool.false_eq_true,Nat.reduceLeDiff,Nat.reduceEqDiff,if_true,if_false,or_true,true_or,or_false,false_or,or_self,not_true_eq_false,not_false_eq_true,wV,wW,wS,decide_true,decide_false])
   ·refine(vX (r:=[wh (decide (vT (fN f) (nB b1 b0)=5))]) (by simp only[vS,Fv];exact sigB) (by rfl)).trans ?_;refine tI (vT (fN f) (nB b1 b0)=5) (by simp only[vS]) (λh4=>?_) (λh4=>?_)
    ·first|(exfalso;omega)|(rw[wu rfl];simp only[vS];simp only[h1,h2,h3,h4,eq_self,Bool.false_eq_true,Nat.reduceLeDiff,Nat.reduceEqDiff,if_true,if_false,or_true,true_or,or_false,false_or,or_self,not_true_eq_false,not_false_eq_true,wV,wW,wS,decide_true,decide_false])
    ·refine(vX (r:=[wh (decide (vT (fN f) (nB c1 c0)=5))]) (by simp only[vS,Fv];exact sigC) (by rfl)).trans ?_;refine tI (vT (fN f) (nB c1 c0)=5) (by simp only[vS]) (λh5=>?_) (λh5=>?_)
     ·first|(exfalso;omega)|(rw[wu rfl];simp only[vS];simp only[h1,h2,h3,h4,h5,eq_self,Bool.false_eq_true,Nat.reduceLeDiff,Nat.reduceEqDiff,if_true,if_false,or_true,true_or,or_false,false_or,or_self,not_true_eq_false,not_false_eq_true,wV,wW,wS,decide_true,decide_false])
     ·first|(exfalso;omega)|(rw[wu rfl];simp only[vS];simp only[h1,h2,h3,h4,h5,eq_self,Bool.false_eq_true,Nat.reduceLeDiff,Nat.reduceEqDiff,if_true,if_false,or_true,true_or,or_false,false_or,or_self,not_true_eq_false,not_false_eq_true,wV,wW,wS,decide_true,decide_false])
 ·refine(vX (r:=[wh (decide (4<=vT (fN f) (nB b1 b0)))]) (by simp only[vS,UV];exact nanB) (by rfl)).trans ?_;refine tI (4<=vT (fN f) (nB b1 b0)) (by simp only[vS]) (λh6=>?_) (λh6=>?_)
  ·refine tF (by simp only[vS];exact known) ?_;refine(vX (r:=[wd (zM (fN f)) 1,wd (zM (fN f)) 0]) (by simp only[vS,NM];exact dflt) (by rfl)).trans ?_;refine(vX (r:=[wd (yI (fN f) (nB b1 b0)) 1,wd (yI (fN f) (nB b1 b0)) 0]) (by simp only[vS,UW];exact quB h6) (by rfl)).trans ?_;refine tI (ww i=true) (by simp only[vS];exact(Bool.decide_coe _).symm) (λh7=>?_) (λh7=>?_)
   ·first|(exfalso;omega)|(rw[wu rfl];simp only[vS];simp only[h1,h6,h7,eq_self,Bool.false_eq_true,Nat.reduceLeDiff,Nat.reduceEqDiff,if_true,if_false,or_true,true_or,or_false,false_or,or_self,not_true_eq_false,not_false_eq_true,wV,wW,wS,decide_true,decide_false])
   ·refine(vX (r:=[wh (decide (vT (fN f) (nB a1 a0)=5))]) (by simp only[vS,Fv];exact sigA) (by rfl)).trans ?_;refine tI (vT (fN f) (nB a1 a0)=5) (by simp only[vS]) (λh8=>?_) (λh8=>?_)
    ·first|(exfalso;omega)|(rw[wu rfl];simp only[vS];simp only[h1,h6,h7,h8,eq_self,Bool.false_eq_true,Nat.reduceLeDiff,Nat.reduceEqDiff,if_true,if_false,or_true,true_or,or_false,false_or,or_self,not_true_eq_false,not_false_eq_true,wV,wW,wS,decide_true,decide_false])
    ·refine(vX (r:=[wh (decide (vT (fN f) (nB b1 b0)=5))]) (by simp only[vS,Fv];exact sigB) (by rfl)).trans ?_;refine tI (vT (fN f) (nB b1 b0)=5) (by simp only[vS]) (λh9=>?_) (λh9=>?_)
     ·first|(exfalso;omega)|(rw[wu rfl];simp only[vS];simp only[h1,h6,h7,h8,h9,eq_self,Bool.false_eq_true,Nat.reduceLeDiff,Nat.reduceEqDiff,if_true,if_false,or_true,true_or,or_false,false_or,or_self,not_true_eq_false,not_false_eq_true,wV,wW,wS,decide_true,decide_false])
     ·refine(vX (r:=[wh (decide (vT (fN f) (nB c1 c0)=5))]) (by simp only[vS,Fv];exact sigC) (by rfl)).trans ?_;refine tI (vT (fN f) (nB c1 c0)=5) (by simp only[vS]) (λh10=>?_) (λh10=>?_)
      ·first|(exfalso;omega)|(rw[wu rfl];simp only[vS];simp only[h1,h6,h7,h8,h9,h10,eq_self,Bool.false_eq_true,Nat.reduceLeDiff,Nat.reduceEqDiff,if_true,if_false,or_true,true_or,or_false,false_or,or_self,not_true_eq_false,not_false_eq_true,wV,wW,wS,decide_true,decide_false])
      ·first|(exfalso;omega)|(rw[wu rfl];simp only[vS];simp only[h1,h6,h7,h8,h9,h10,eq_self,Bool.false_eq_true,Nat.reduceLeDiff,Nat.reduceEqDiff,if_true,if_false,or_true,true_or,or_false,false_or,or_self,not_true_eq_false,not_false_eq_true,wV,wW,wS,decide_true,decide_false])
  ·refine(vX (r:=[wh (decide (4<=vT (fN f) (nB c1 c0)))]) (by simp only[vS,UV];exact nanC) (by rfl)).trans ?_;refine tI (4<=vT (fN f) (nB c1 c0)) (by simp only[vS]) (λh11=>?_) (λh11=>?_)
   ·refine tF (by simp only[vS];exact known) ?_;refine(vX (r:=[wd (zM (fN f)) 1,wd (zM (fN f)) 0]) (by simp only[vS,NM];exact dflt) (by rfl)).trans ?_;refine(vX (r:=[wd (yI (fN f) (nB c1 c0)) 1,wd (yI (fN f) (nB c1 c0)) 0]) (by simp only[vS,UW];exact PX h11) (by rfl)).trans ?_;refine tI (ww i=true) (by simp only[vS];exact(Bool.decide_coe _).symm) (λh12=>?_) (λh12=>?_)
    ·first|(exfalso;omega)|(rw[wu rfl];simp only[vS];simp only[h1,h6,h11,h12,eq_self,Bool.false_eq_true,Nat.reduceLeDiff,Nat.reduceEqDiff,if_true,if_false,or_true,true_or,or_false,false_or,or_self,not_true_eq_false,not_false_eq_true,wV,wW,wS,decide_true,decide_false])
    ·refine(vX (r:=[wh (decide (vT (fN f) (nB a1 a0)=5))]) (by simp only[vS,Fv];exact sigA) (by rfl)).trans ?_;refine tI (vT (fN f) (nB a1 a0)=5) (by simp only[vS]) (λh13=>?_) (λh13=>?_)
     ·first|(exfalso;omega)|(rw[wu rfl];simp only[vS];simp only[h1,h6,h11,h12,h13,eq_self,Bool.false_eq_true,Nat.reduceLeDiff,Nat.reduceEqDiff,if_true,if_false,or_true,true_or,or_false,false_or,or_self,not_true_eq_false,not_false_eq_true,wV,wW,wS,decide_true,decide_false])
     ·refine(vX (r:=[wh (decide (vT (fN f) (nB b1 b0)=5))]) (by simp only[vS,Fv];exact sigB) (by rfl)).trans ?_;refine tI (vT (fN f) (nB b1 b0)=5) (by simp only[vS]) (λh14=>?_) (λh14=>?_)
      ·first|(exfalso;omega)|(rw[wu rfl];simp only[vS];simp only[h1,h6,h11,h12,h13,h14,eq_self,Bool.false_eq_true,Nat.reduceLeDiff,Nat.reduceEqDiff,if_true,if_false,or_true,true_or,or_false,false_or,or_self,not_true_eq_false,not_false_eq_true,wV,wW,wS,decide_true,decide_false])
      ·refine(vX (r:=[wh (decide (vT (fN f) (nB c1 c0)=5))]) (by simp only[vS,Fv];exact sigC) (by rfl)).trans ?_;refine tI (vT (fN f) (nB c1 c0)=5) (by simp only[vS]) (λh15=>?_) (λh15=>?_)
       ·first|(exfalso;omega)|(rw[wu rfl];simp only[vS];simp only[h1,h6,h11,h12,h13,h14,h15,eq_self,Bool.false_eq_true,Nat.reduceLeDiff,Nat.reduceEqDiff,if_true,if_false,or_true,true_or,or_false,false_or,or_self,not_true_eq_false,not_false_eq_true,wV,wW,wS,decide_true,decide_false])
       ·first|(exfalso;omega)|(rw[wu rfl];simp only[vS];simp only[h1,h6,h11,h12,h13,h14,h15,eq_self,Bool.false_eq_true,Nat.reduceLeDiff,Nat.reduceEqDiff,if_true,if_false,or_true,true_or,or_false,false_or,or_self,not_true_eq_false,not_false_eq_true,wV,wW,wS,decide_true,decide_false])
   ·refine tF (by simp only[vS];exact known) ?_;refine tI (¬ ww i=true) (by simp only[vS];cases ww i<;>rfl) (λh16=>?_) (λh16=>?_)
    ·first|(exfalso;omega)|(rw[wu rfl];simp only[vS];simp only[h1,h6,h11,h16,eq_self,Bool.false_eq_true,Nat.reduceLeDiff,Nat.reduceEqDiff,if_true,if_false,or_true,true_or,or_false,false_or,or_self,not_true_eq_false,not_false_eq_true,wV,wW,wS,decide_true,decide_false])
    ·refine(vX (r:=[wd (zM (fN f)) 1,wd (zM (fN f)) 0]) (by simp only[vS,NM];exact dflt) (by rfl)).trans ?_;first|(exfalso;omega)|(replace h16:=Decidable.not_not.1 h16;rw[wu rfl];simp only[vS];simp only[h1,h6,h11,h16,eq_self,Bool.false_eq_true,Nat.reduceLeDiff,Nat.reduceEqDiff,if_true,if_false,or_true,true_or,or_false,false_or,or_self,not_true_eq_false,not_false_eq_true,wV,wW,wS,decide_true,decide_false])
theorem at1 (x y:Nat):((x:Int)==(y:Int))=decide (x=y):=by rw[Bool.eq_iff_iff,beq_iff_eq,decide_eq_true_iff];omega
theorem JQ (x k:Nat):((x:Int)==(k:Int))=decide (x=k):=at1 x k
def EE (f:Nat) (j:Bool) (a b:Nat):Nat:=if 4<=vT f a then yI f a else if 4<=vT f b then yI f b else if j=true then zM f else 0
def Fj (f:Nat) (j:Bool) (a b:Nat):Nat:=if 4<=vT f a\/4<=vT f b then(if j=true\/vT f a=5\/vT f b=5 then 1 else 0) else if j=true then 1 else 0
def BN (f:Nat) (j:Bool) (a b:Nat):Bool:=decide (4<=vT f a)||(decide (4<=vT f b)||j)
theorem acX (i:Nat):wd 0 i=0:=by unfold wd;rw[Nat.zero_div,Nat.zero_mod];rfl
theorem at5 (f:Nat) (j:Bool) (a b:Nat):Fj f j a b<=1:=by unfold Fj;split<;>split<;>decide
theorem at6 (f i a1 a0 b1 b0:Int) (hf:fN f<4):LX [f,i,a1,a0,b1,b0] = [wd (EE (fN f) (ww i) (nB a1 a0) (nB b1 b0)) 1,wd (EE (fN f) (ww i) (nB a1 a0) (nB b1 b0)) 0,((Fj (fN f) (ww i) (nB a1 a0) (nB b1 b0):Nat):Int),wh (BN (fN f) (ww i) (nB a1 a0) (nB b1 b0))]:=by
 rw[atZ _ _ _ _ _ _ hf];unfold EE Fj BN;by_cases h1:4<=vT (fN f) (nB a1 a0)
 ·simp only[h1,if_true,decide_true,Bool.true_or,true_or];split<;>rfl
 ·by_cases h2:4<=vT (fN f) (nB b1 b0)
  ·simp only[h1,h2,if_true,if_false,decide_true,decide_false,Bool.true_or,Bool.false_or,or_true];split<;>rfl
  ·cases hi:ww i with
   | true=>simp only[h1,h2,if_true,if_false,decide_false,Bool.false_or,or_self];rfl
   | false=>simp only[h1,h2,if_false,decide_false,Bool.false_or,or_self,Bool.false_eq_true,acX];rfl
theorem UL (p:Nat×Nat):oR p = [wd p.1 1,wd p.1 0,(p.2:Int)]:=by obtain⟨a,b⟩:=p;exact IB a b
def yg (x y:Nat):Int:=if x<y then -1 else if y<x then 1 else 0
theorem acY (a b c d:Int):NH [a,b,c,d] = [yg (nB a b) (nB c d)]:=by
 obtain⟨n,hn,e,h1,h0⟩:=Ex a b;obtain⟨m,hm,f,k1,k0⟩:=Ex c d;rw[NH,adu,wu rfl,e,f];simp only[vS,h1,h0,k1,k0]
 have e1:wd n 1=((n/vZ:Nat):Int):=by unfold wd;rw[Nat.pow_one,Nat.mod_eq_of_lt (Nat.div_lt_of_lt_mul (show n<vZ*vZ from hn))]
 have e0:wd n 0=((n%vZ:Nat):Int):=by unfold wd;rw[Nat.pow_zero,Nat.div_one]
 have f1:wd m 1=((m/vZ:Nat):Int):=by unfold wd;rw[Nat.pow_one,Nat.mod_eq_of_lt (Nat.div_lt_of_lt_mul (show m<vZ*vZ from hm))]
 have f0:wd m 0=((m%vZ:Nat):Int):=by unfold wd;rw[Nat.pow_zero,Nat.div_one]
 rw[e1,e0,f1,f0];have dn:=Nat.div_add_mod n vZ;have dm:=Nat.div_add_mod m vZ;have ln:=Nat.mod_lt n zu;have lm:=Nat.mod_lt m zu;rw[CW] at *
 generalize n/18446744073709551616=n1 at *
 generalize n%18446744073709551616=n0 at *
 generalize m/18446744073709551616=m1 at *
 generalize m%18446744073709551616=m0 at *
 congr 1;unfold yg;simp only[bne_self_eq_false,Bool.false_eq_true,if_false,decide_eq_true_iff,bne_iff_ne,ne_eq,gt_iff_lt];clear h1 h0 k1 k0 e f;have r1:((n1:Int)<(m1:Int))↔n1<m1:=Int.ofNat_lt;have r2:((m1:Int)<(n1:Int))↔m1<n1:=Int.ofNat_lt;have r3:((n0:Int)<(m0:Int))↔n0<m0:=Int.ofNat_lt;have r4:((m0:Int)<(n0:Int))↔m0<n0:=Int.ofNat_lt;simp only[r1,r2,r3,r4];by_cases c1:n1<m1
 ·rw[if_pos c1,if_pos (by decide),if_pos (by omega)]
 rw[if_neg c1];by_cases c2:m1<n1
 ·rw[if_pos c2,if_pos (by decide),if_neg (by omega),if_pos (by omega)]
 rw[if_neg c2,if_neg (by decide)];by_cases c3:n0<m0
 ·rw[if_pos c3,if_pos (by decide),if_pos (by omega)]
 rw[if_neg c3];by_cases c4:m0<n0
 ·rw[if_pos c4,if_pos (by decide),if_neg (by omega),if_pos (by omega)]
 rw[if_neg c4,if_neg (by decide),if_neg (by omega),if_neg (by omega)]
theorem at7 {n i:Nat} (hi:i<4):wd (n+wG) i=wd n i:=by
 unfold wd
 have e:wG=vZ^i*(vZ*vZ^(3-i)):=by rcases(show i=0\/i=1\/i=2\/i=3 by omega) with rfl|rfl|rfl|rfl<;>decide
 rw[e,Nat.add_mul_div_left _ _ (Nat.pow_pos zu),Nat.add_mul_mod_self_left]
theorem XX {p q i:Nat} (h:q<=p) (hi:i<4):wd (p+wG-q) i=wd (p-q) i:=by rw[show p+wG-q=(p-q)+wG by omega];exact at7 hi
theorem aua {p q:Nat} (hp:p<wy) (hq:q<wy):NH [wd p 1,wd p 0,wd q 1,wd q 0] = [yg p q]:=by rw[acY,yH hp,yH hq]
theorem LM {p:Nat} (hp:p<wG):Fp [wd p 0,wd p 1,wd p 2,wd p 3] = [wh (decide (p=0))]:=by rw[ahN,Ai hp]
theorem XY (l:List Int) (i:Nat):w4 l i=nW (wC l i) (wC l (i+1)) (wC l (i+2)) (wC l (i+3)):=by unfold w4 nW;generalize (u64 (wC l i)).toNat=a;generalize (u64 (wC l (i+1))).toNat=b;generalize (u64 (wC l (i+2))).toNat=c;generalize (u64 (wC l (i+3))).toNat=d;rfl
theorem ajD {p q:Nat} (hp:p<wG) (h:q<=p):M8 [wd p 0,wd p 1,wd p 2,wd p 3,wd q 0,wd q 1,wd q 2,wd q 3] = [wd (p-q) 0,wd (p-q) 1,wd (p-q) 2,wd (p-q) 3,0]:=by
 have e1:w4 [wd p 0,wd p 1,wd p 2,wd p 3,wd q 0,wd q 1,wd q 2,wd q 3] 0=p:=by rw[XY];exact Ai hp
 have e2:w4 [wd p 0,wd p 1,wd p 2,wd p 3,wd q 0,wd q 1,wd q 2,wd q 3] 4=q:=by rw[XY];exact Ai (by omega)
 have hb:Nat.blt p q=false:=by rw[Bool.eq_false_iff];intro h2;rw[Nat.blt_eq] at h2;omega
 rw[M8,e1,e2,hb,UB,XX h (by decide),XX h (by decide),XX h (by decide),XX h (by decide)];rfl
theorem aub {p q:Nat} (h:p+q<wG):Iy [wd p 0,wd p 1,wd p 2,wd p 3,wd q 0,wd q 1,wd q 2,wd q 3] = [wd (p+q) 0,wd (p+q) 1,wd (p+q) 2,wd (p+q) 3,0]:=by
 have e1:w4 [wd p 0,wd p 1,wd p 2,wd p 3,wd q 0,wd q 1,wd q 2,wd q 3] 0=p:=by rw[XY];exact Ai (by omega)
 have e2:w4 [wd p 0,wd p 1,wd p 2,wd p 3,wd q 0,wd q 1,wd q 2,wd q 3] 4=q:=by rw[XY];exact Ai (by omega)
 have hb:Nat.ble wG (p+q)=false:=by rw[Bool.eq_false_iff];intro h2;have:=Nat.le_of_ble_eq_true h2;omega
 rw[Iy,e1,e2,hb,UB];rfl
theorem ajE {p q:Nat} : (yg p q==0)=decide (p=q):=by
 rw[Bool.eq_iff_iff,beq_iff_eq,decide_eq_true_iff];unfold yg;by_cases h1:p<q
 ·rw[if_pos h1];omega
 ·rw[if_neg h1];by_cases h2:q<p
  ·rw[if_pos h2];omega
  ·rw[if_neg h2];omega
theorem Nz (p q:Nat):i64 (yg p q)=yg p q:=by
 unfold yg;by_cases h1:p<q
 ·rw[if_pos h1];rfl
 ·rw[if_neg h1];by_cases h2:q<p
  ·rw[if_pos h2];rfl
  ·rw[if_neg h2];rfl
end Go.Proofs.YtippohicjhilnaaGreatDoor
