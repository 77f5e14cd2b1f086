import Derived.Test.YtemomocmfggiaaaGreatDoorZGU6
import Derived.Test.YtemomocmfggiaaaGreatDoorZQU6
import Derived.Test.YtemomocmfggiaaaGreatDoorK1U6
set_option linter.unusedSimpArgs false
set_option linter.unusedVariables false
set_option maxRecDepth 100000
namespace Go.Proofs.YtemomocmfggiaaaGreatDoor
open Go.RowKit
theorem tI {Φ:yY} {ct:Ct} {c:X} {a b:vo SV} {l r:List Int} (p:Prop) [Decidable p] (hc:vG (c.ev l)=decide p) (ht:p→vU Φ ct a l=r) (hf:¬ p→vU Φ ct b l=r):vU Φ ct (.ite c a b) l=r:=by
 rw[wG,hc]
 by_cases h:p
 ·rw[decide_eq_true h,if_pos rfl];exact ht h
 ·rw[decide_eq_false h,if_neg Bool.false_ne_true];exact hf h
theorem tT {Φ:yY} {ct:Ct} {c:X} {a b:vo SV} {l r:List Int} (hc:vG (c.ev l)=true) (h:vU Φ ct a l=r):vU Φ ct (.ite c a b) l=r:=by rw[wG,if_pos hc];exact h
theorem tF {Φ:yY} {ct:Ct} {c:X} {a b:vo SV} {l r:List Int} (hc:vG (c.ev l)=false) (h:vU Φ ct b l=r):vU Φ ct (.ite c a b) l=r:=by rw[wG,hc,if_neg Bool.false_ne_true];exact h
theorem aax {f:Int} (hf:fN f<4):EK [u8 f] = [wd (dfl (fN f)) 1,wd (dfl (fN f)) 0]:=by rw[Z0,vH,if_pos hf,vR];rfl
theorem Db {f:Int} (hf:fN f<4):(!decide (u8 f<4))=false:=by rw[decide_eq_true ((yh f).2 hf)];rfl
theorem LG {m:Int} (hm:u8 m≤4):(!decide (u8 m≤4))=false:=by rw[decide_eq_true hm];rfl
theorem Pe {f:Int} (hf:fN f<4) (x y:Int) (h:4≤uZ (fN f) (nB x y)):Fz [u8 f,u64 x,u64 y] = [wd (xz (fN f) (nB x y)) 1,wd (xz (fN f) (nB x y)) 0]:=by
 have hf3:fN (u8 f)<4:=by rw[vH];exact hf
 rw[UA _ _ _ hf3 (by rw[vH,vM];exact h),vH,vM,vR];rfl
theorem art (f i a1 a0:Int) (hf:fN f<4):FW [f,i,a1,a0]=if 4≤uZ (fN f) (nB a1 a0) then [wd (xz (fN f) (nB a1 a0)) 1,wd (xz (fN f) (nB a1 a0)) 0,(if vG i=true∨uZ (fN f) (nB a1 a0)=5 then(1:Int) else 0),1] else if vG i=true then [wd (dfl (fN f)) 1,wd (dfl (fN f)) 0,1,1] else [0,0,0,0]:=by
 have dflt:=aax hf
 have known:=Db hf
 have nanA:yR [u8 f,u64 a1,u64 a0] = [vw (decide (4≤uZ (fN f) (nB a1 a0)))]:=by rw[Bj,vH,vM]
 have sigA:zH [u8 f,u64 a1,u64 a0] = [vw (decide (uZ (fN f) (nB a1 a0)=5))]:=by rw[CZ,vH,vM]
 have quA:=Pe hf a1 a0
 rw[FW,aaU]
 refine(ve (r:=[vw (decide (4≤uZ (fN f) (nB a1 a0)))]) (by simp only[uY,Pn];exact nanA) (by rfl)).trans ?_
 refine tI (4≤uZ (fN f) (nB a1 a0)) (by simp only[uY]) (fun h1=>?_) (fun h1=>?_)
 ·refine tF (by simp only[uY];exact known) ?_
  refine(ve (r:=[wd (dfl (fN f)) 1,wd (dfl (fN f)) 0]) (by simp only[uY,IX];exact dflt) (by rfl)).trans ?_
  refine(ve (r:=[wd (xz (fN f) (nB a1 a0)) 1,wd (xz (fN f) (nB a1 a0)) 0]) (by simp only[uY,Po];exact quA h1) (by rfl)).trans ?_
  refine tI (vG i=true) (by simp only[uY];exact(Bool.decide_coe _).symm) (fun h2=>?_) (fun h2=>?_)
  ·first|(exfalso;omega)|(rw[vg rfl];simp only[uY];simp only[h1,h2,eq_self,Bool.false_eq_true,Nat.reduceLeDiff,Nat.reduceEqDiff,if_true,if_false,or_true,true_or,or_false,false_or,or_self,not_true_eq_false,not_false_eq_true,wB,wC,vR,decide_true,decide_false])
  ·refine(ve (r:=[vw (decide (uZ (fN f) (nB a1 a0)=5))]) (by simp only[uY,DI];exact sigA) (by rfl)).trans ?_
   refine tI (uZ (fN f) (nB a1 a0)=5) (by simp only[uY]) (fun h3=>?_) (fun h3=>?_)
   ·first|(exfalso;omega)|(rw[vg rfl];simp only[uY];simp only[h1,h2,h3,eq_self,Bool.false_eq_true,Nat.reduceLeDiff,Nat.reduceEqDiff,if_true,if_false,or_true,true_or,or_false,false_or,or_self,not_true_eq_false,not_false_eq_true,wB,wC,vR,decide_true,decide_false])
   ·first|(exfalso;omega)|(rw[vg rfl];simp only[uY];simp only[h1,h2,h3,eq_self,Bool.false_eq_true,Nat.reduceLeDiff,Nat.reduceEqDiff,if_true,if_false,or_true,true_or,or_false,false_or,or_self,not_true_eq_false,not_false_eq_true,wB,wC,vR,decide_true,decide_false])
 ·refine tF (by simp only[uY];exact known) ?_
  refine tI (¬ vG i=true) (by simp only[uY];cases vG i<;>rfl) (fun h4=>?_) (fun h4=>?_)
  ·first|(exfalso;omega)|(rw[vg rfl];simp only[uY];simp only[h1,h4,eq_self,Bool.false_eq_true,Nat.reduceLeDiff,Nat.reduceEqDiff,if_true,if_false,or_true,true_or,or_false,false_or,or_self,not_true_eq_false,not_false_eq_true,wB,wC,vR,decide_true,decide_false])
  ·refine(ve (r:=[wd (dfl (fN f)) 1,wd (dfl (fN f)) 0]) (by simp only[uY,IX];exact dflt) (by rfl)).trans ?_
   first|(exfalso;omega)|(replace h4:=Decidable.not_not.1 h4;rw[vg rfl];simp only[uY];simp only[h1,h4,eq_self,Bool.false_eq_true,Nat.reduceLeDiff,Nat.reduceEqDiff,if_true,if_false,or_true,true_or,or_false,false_or,or_self,not_true_eq_false,not_false_eq_true,wB,wC,vR,decide_true,decide_false])
theorem aru (f i a1 a0 b1 b0:Int) (hf:fN f<4):DF [f,i,a1,a0,b1,b0]=if 4≤uZ (fN f) (nB a1 a0) then [wd (xz (fN f) (nB a1 a0)) 1,wd (xz (fN f) (nB a1 a0)) 0,(if vG i=true∨uZ (fN f) (nB a1 a0)=5∨uZ (fN f) (nB b1 b0)=5 then(1:Int) else 0),1] else if 4≤uZ (fN f) (nB b1 b0) then [wd (xz (fN f) (nB b1 b0)) 1,wd (xz (fN f) (nB b1 b0)) 0,(if vG i=true∨uZ (fN f) (nB a1 a0)=5∨uZ (fN f) (nB b1 b0)=5 then(1:Int) else 0),1] else if vG i=true then [wd (dfl (fN f)) 1,wd (dfl (fN f)) 0,1,1] else [0,0,0,0]:=by
 have dflt:=aax hf
 have known:=Db hf
 have nanA:yR [u8 f,u64 a1,u64 a0] = [vw (decide (4≤uZ (fN f) (nB a1 a0)))]:=by rw[Bj,vH,vM]
 have sigA:zH [u8 f,u64 a1,u64 a0] = [vw (decide (uZ (fN f) (nB a1 a0)=5))]:=by rw[CZ,vH,vM]
 have quA:=Pe hf a1 a0
 have nanB:yR [u8 f,u64 b1,u64 b0] = [vw (decide (4≤uZ (fN f) (nB b1 b0)))]:=by rw[Bj,vH,vM]
 have sigB:zH [u8 f,u64 b1,u64 b0] = [vw (decide (uZ (fN f) (nB b1 b0)=5))]:=by rw[CZ,vH,vM]
 have quB:=Pe hf b1 b0
 rw[DF,aaV]
 refine(ve (r:=[vw (decide (4≤uZ (fN f) (nB a1 a0)))]) (by simp only[uY,Pn];exact nanA) (by rfl)).trans ?_
 refine tI (4≤uZ (fN f) (nB a1 a0)) (by simp only[uY]) (fun h1=>?_) (fun h1=>?_)
 ·refine tF (by simp only[uY];exact known) ?_
  refine(ve (r:=[wd (dfl (fN f)) 1,wd (dfl (fN f)) 0]) (by simp only[uY,IX];exact dflt) (by rfl)).trans ?_
  refine(ve (r:=[wd (xz (fN f) (nB a1 a0)) 1,wd (xz (fN f) (nB a1 a0)) 0]) (by simp only[uY,Po];exact quA h1) (by rfl)).trans ?_
  refine tI (vG i=true) (by simp only[uY];exact(Bool.decide_coe _).symm) (fun h2=>?_) (fun h2=>?_)
  ·first|(exfalso;omega)|(rw[vg rfl];simp only[uY];simp only[h1,h2,eq_self,Bool.false_eq_true,Nat.reduceLeDiff,Nat.reduceEqDiff,if_true,if_false,or_true,true_or,or_false,false_or,or_self,not_true_eq_false,not_false_eq_true,wB,wC,vR,decide_true,decide_false])
  ·refine(ve (r:=[vw (decide (uZ (fN f) (nB a1 a0)=5))]) (by simp only[uY,DI];exact sigA) (by rfl)).trans ?_
   refine tI (uZ (fN f) (nB a1 a0)=5) (by simp only[uY]) (fun h3=>?_) (fun h3=>?_)
   ·first|(exfalso;omega)|(rw[vg rfl];simp only[uY];simp only[h1,h2,h3,eq_self,Bool.false_eq_true,Nat.reduceLeDiff,Nat.reduceEqDiff,if_true,if_false,or_true,true_or,or_false,false_or,or_self,not_true_eq_false,not_false_eq_true,wB,wC,vR,decide_true,decide_false])
   ·refine(ve (r:=[vw (decide (uZ (fN f) (nB b1 b0)=5))]) (by simp only[uY,DI];exact sigB) (by rfl)).trans ?_
    refine tI (uZ (fN f) (nB b1 b0)=5) (by simp only[uY]) (fun h4=>?_) (fun h4=>?_)
    ·first|(exfalso;omega)|(rw[vg rfl];simp only[uY];simp only[h1,h2,h3,h4,eq_self,Bool.false_eq_true,Nat.reduceLeDiff,Nat.reduceEqDiff,if_true,if_false,or_true,true_or,or_false,false_or,or_self,not_true_eq_false,not_false_eq_true,wB,wC,vR,decide_true,decide_false])
    ·first|(exfalso;omega)|(rw[vg rfl];simp only[uY];simp only[h1,h2,h3,h4,eq_self,Bool.false_eq_true,Nat.reduceLeDiff,Nat.reduceEqDiff,if_true,if_false,or_true,true_or,or_false,false_or,or_self,not_true_eq_false,not_false_eq_true,wB,wC,vR,decide_true,decide_false])
 ·refine(ve (r:=[vw (decide (4≤uZ (fN f) (nB b1 b0)))]) (by simp only[uY,Pn];exact nanB) (by rfl)).trans ?_
  refine tI (4≤uZ (fN f) (nB b1 b0)) (by simp only[uY]) (fun h5=>?_) (fun h5=>?_)
  ·refine tF (by simp only[uY];exact known) ?_
   refine(ve (r:=[wd (dfl (fN f)) 1,wd (dfl (fN f)) 0]) (by simp only[uY,IX];exact dflt) (by rfl)).trans ?_
   refine(ve (r:=[wd (xz (fN f) (nB b1 b0)) 1,wd (xz (fN f) (nB b1 b0)) 0]) (by simp only[uY,Po];exact quB h5) (by rfl)).trans ?_
   refine tI (vG i=true) (by simp only[uY];exact(Bool.decide_coe _).symm) (fun h6=>?_) (fun h6=>?_)
   ·first|(exfalso;omega)|(rw[vg rfl];simp only[uY];simp only[h1,h5,h6,eq_self,Bool.false_eq_true,Nat.reduceLeDiff,Nat.reduceEqDiff,if_true,if_false,or_true,true_or,or_false,false_or,or_self,not_true_eq_false,not_false_eq_true,wB,wC,vR,decide_true,decide_false])
   ·refine(ve (r:=[vw (decide (uZ (fN f) (nB a1 a0)=5))]) (by simp only[uY,DI];exact sigA) (by rfl)).trans ?_
    refine tI (uZ (fN f) (nB a1 a0)=5) (by simp only[uY]) (fun h7=>?_) (fun h7=>?_)
    ·first|(exfalso;omega)|(rw[vg rfl];simp only[uY];simp only[h1,h5,h6,h7,eq_self,Bool.false_eq_true,Nat.reduceLeDiff,Nat.reduceEqDiff,if_true,if_false,or_true,true_or,or_false,false_or,or_self,not_true_eq_false,not_false_eq_true,wB,wC,vR,decide_true,decide_false])
    ·refine(ve (r:=[vw (decide (uZ (fN f) (nB b1 b0)=5))]) (by simp only[uY,DI];exact sigB) (by rfl)).trans ?_
     refine tI (uZ (fN f) (nB b1 b0)=5) (by simp only[uY]) (fun h8=>?_) (fun h8=>?_)
     ·first|(exfalso;omega)|(rw[vg rfl];simp only[uY];simp only[h1,h5,h6,h7,h8,eq_self,Bool.false_eq_true,Nat.reduceLeDiff,Nat.reduceEqDiff,if_true,if_false,or_true,true_or,or_false,false_or,or_self,not_true_eq_false,not_false_eq_true,wB,wC,vR,decide_true,decide_false])
     ·first|(exfalso;omega)|(rw[vg rfl];simp only[uY];simp only[h1,h5,h6,h7,h8,eq_self,Bool.false_eq_true,Nat.reduceLeDiff,Nat.reduceEqDiff,if_true,if_false,or_true,true_or,or_false,false_or,or_self,not_true_eq_false,not_false_eq_true,wB,wC,vR,decide_true,decide_false])
  ·refine tF (by simp only[uY];exact known) ?_
   refine tI (¬ vG i=true) (by simp only[uY];cases vG i<;>rfl) (fun h9=>?_) (fun h9=>?_)
   ·first|(exfalso;omega)|(rw[vg rfl];simp only[uY];simp only[h1,h5,h9,eq_self,Bool.false_eq_true,Nat.reduceLeDiff,Nat.reduceEqDiff,if_true,if_false,or_true,true_or,or_false,false_or,or_self,not_true_eq_false,not_false_eq_true,wB,wC,vR,decide_true,decide_false])
   ·refine(ve (r:=[wd (dfl (fN f)) 1,wd (dfl (fN f)) 0]) (by simp only[uY,IX];exact dflt) (by rfl)).trans ?_
    first|(exfalso;omega)|(replace h9:=Decidable.not_not.1 h9;rw[vg rfl];simp only[uY];simp only[h1,h5,h9,eq_self,Bool.false_eq_true,Nat.reduceLeDiff,Nat.reduceEqDiff,if_true,if_false,or_true,true_or,or_false,false_or,or_self,not_true_eq_false,not_false_eq_true,wB,wC,vR,decide_true,decide_false])
theorem arv (f i a1 a0 b1 b0 c1 c0:Int) (hf:fN f<4):Kc [f,i,a1,a0,b1,b0,c1,c0]=if 4≤uZ (fN f) (nB a1 a0) then [wd (xz (fN f) (nB a1 a0)) 1,wd (xz (fN f) (nB a1 a0)) 0,(if vG i=true∨uZ (fN f) (nB a1 a0)=5∨uZ (fN f) (nB b1 b0)=5∨uZ (fN f) (nB c1 c0)=5 then(1:Int) else 0),1] else if 4≤uZ (fN f) (nB b1 b0) then [wd (xz (fN f) (nB b1 b0)) 1,wd (xz (fN f) (nB b1 b0)) 0,(if vG i=true∨uZ (fN f) (nB a1 a0)=5∨uZ (fN f) (nB b1 b0)=5∨uZ (fN f) (nB c1 c0)=5 then(1:Int) else 0),1] else if 4≤uZ (fN f) (nB c1 c0) then [wd (xz (fN f) (nB c1 c0)) 1,wd (xz (fN f) (nB c1 c0)) 0,(if vG i=true∨uZ (fN f) (nB a1 a0)=5∨uZ (fN f) (nB b1 b0)=5∨uZ (fN f) (nB c1 c0)=5 then(1:Int) else 0),1] else if vG i=true then [wd (dfl (fN f)) 1,wd (dfl (fN f)) 0,1,1] else [0,0,0,0]:=by
 have dflt:=aax hf
 have known:=Db hf
 have nanA:yR [u8 f,u64 a1,u64 a0] = [vw (decide (4≤uZ (fN f) (nB a1 a0)))]:=by rw[Bj,vH,vM]
 have sigA:zH [u8 f,u64 a1,u64 a0] = [vw (decide (uZ (fN f) (nB a1 a0)=5))]:=by rw[CZ,vH,vM]
 have quA:=Pe hf a1 a0
 have nanB:yR [u8 f,u64 b1,u64 b0] = [vw (decide (4≤uZ (fN f) (nB b1 b0)))]:=by rw[Bj,vH,vM]
 have sigB:zH [u8 f,u64 b1,u64 b0] = [vw (decide (uZ (fN f) (nB b1 b0)=5))]:=by rw[CZ,vH,vM]
 have quB:=Pe hf b1 b0
 have nanC:yR [u8 f,u64 c1,u64 c0] = [vw (decide (4≤uZ (fN f) (nB c1 c0)))]:=by rw[Bj,vH,vM]
 have sigC:zH [u8 f,u64 c1,u64 c0] = [vw (decide (uZ (fN f) (nB c1 c0)=5))]:=by rw[CZ,vH,vM]
 have EO:=Pe hf c1 c0
 rw[Kc,aaW]
 refine(ve (r:=[vw (decide (4≤uZ (fN f) (nB a1 a0)))]) (by simp only[uY,Pn];exact nanA) (by rfl)).trans ?_
 refine tI (4≤uZ (fN f) (nB a1 a0)) (by simp only[uY]) (fun h1=>?_) (fun h1=>?_)
 ·refine tF (by simp only[uY];exact known) ?_
  refine(ve (r:=[wd (dfl (fN f)) 1,wd (dfl (fN f)) 0]) (by simp only[uY,IX];exact dflt) (by rfl)).trans ?_
  refine(ve (r:=[wd (xz (fN f) (nB a1 a0)) 1,wd (xz (fN f) (nB a1 a0)) 0]) (by simp only[uY,Po];exact quA h1) (by rfl)).trans ?_
  refine tI (vG i=true) (by simp only[uY];exact(Bool.decide_coe _).symm) (fun h2=>?_) (fun h2=>?_)
  ·first|(exfalso;omega)|(rw[vg rfl];simp only[uY];simp only[h1,h2,eq_self,Bool.false_eq_true,Nat.reduceLeDiff,Nat.reduceEqDiff,if_true,if_false,or_true,true_or,or_false,false_or,or_self,not_true_eq_false,not_false_eq_true,wB,wC,vR,decide_true,decide_false])
  ·refine(ve (r:=[vw (decide (uZ (fN f) (nB a1 a0)=5))]) (by simp only[uY,DI];exact sigA) (by rfl)).trans ?_
   refine tI (uZ (fN f) (nB a1 a0)=5) (by simp only[uY]) (fun h3=>?_) (fun h3=>?_)
   ·first|(exfalso;omega)|(rw[vg rfl];simp only[uY];simp only[h1,h2,h3,eq_self,Bool.false_eq_true,Nat.reduceLeDiff,Nat.reduceEqDiff,if_true,if_false,or_true,true_or,or_false,false_or,or_self,not_true_eq_false,not_false_eq_true,wB,wC,vR,decide_true,decide_false])
   ·refine(ve (r:=[vw (decide (uZ (fN f) (nB b1 b0)=5))]) (by simp only[uY,DI];exact sigB) (by rfl)).trans ?_
    refine tI (uZ (fN f) (nB b1 b0)=5) (by simp only[uY]) (fun h4=>?_) (fun h4=>?_)
    ·first|(exfalso;omega)|(rw[vg rfl];simp only[uY];simp only[h1,h2,h3,h4,eq_self,Bool.false_eq_true,Nat.reduceLeDiff,Nat.reduceEqDiff,if_true,if_false,or_true,true_or,or_false,false_or,or_self,not_true_eq_false,not_false_eq_true,wB,wC,vR,decide_true,decide_false])
    ·refine(ve (r:=[vw (decide (uZ (fN f) (nB c1 c0)=5))]) (by simp only[uY,DI];exact sigC) (by rfl)).trans ?_
     refine tI (uZ (fN f) (nB c1 c0)=5) (by simp only[uY]) (fun h5=>?_) (fun h5=>?_)
     ·first|(exfalso;omega)|(rw[vg rfl];simp only[uY];simp only[h1,h2,h3,h4,h5,eq_self,Bool.false_eq_true,Nat.reduceLeDiff,Nat.reduceEqDiff,if_true,if_false,or_true,true_or,or_false,false_or,or_self,not_true_eq_false,not_false_eq_true,wB,wC,vR,decide_true,decide_false])
     ·first|(exfalso;omega)|(rw[vg rfl];simp only[uY];simp only[h1,h2,h3,h4,h5,eq_self,Bool.false_eq_true,Nat.reduceLeDiff,Nat.reduceEqDiff,if_true,if_false,or_true,true_or,or_false,false_or,or_self,not_true_eq_false,not_false_eq_true,wB,wC,vR,decide_true,decide_false])
 ·refine(ve (r:=[vw (decide (4≤uZ (fN f) (nB b1 b0)))]) (by simp only[uY,Pn];exact nanB) (by rfl)).trans ?_
  refine tI (4≤uZ (fN f) (nB b1 b0)) (by simp only[uY]) (fun h6=>?_) (fun h6=>?_)
  ·refine tF (by simp only[uY];exact known) ?_
   refine(ve (r:=[wd (dfl (fN f)) 1,wd (dfl (fN f)) 0]) (by simp only[uY,IX];exact dflt) (by rfl)).trans ?_
   refine(ve (r:=[wd (xz (fN f) (nB b1 b0)) 1,wd (xz (fN f) (nB b1 b0)) 0]) (by simp only[uY,Po];exact quB h6) (by rfl)).trans ?_
   refine tI (vG i=true) (by simp only[uY];exact(Bool.decide_coe _).symm) (fun h7=>?_) (fun h7=>?_)
   ·first|(exfalso;omega)|(rw[vg rfl];simp only[uY];simp only[h1,h6,h7,eq_self,Bool.false_eq_true,Nat.reduceLeDiff,Nat.reduceEqDiff,if_true,if_false,or_true,true_or,or_false,false_or,or_self,not_true_eq_false,not_false_eq_true,wB,wC,vR,decide_true,decide_false])
   ·refine(ve (r:=[vw (decide (uZ (fN f) (nB a1 a0)=5))]) (by simp only[uY,DI];exact sigA) (by rfl)).trans ?_
    refine tI (uZ (fN f) (nB a1 a0)=5) (by simp only[uY]) (fun h8=>?_) (fun h8=>?_)
    ·first|(exfalso;omega)|(rw[vg rfl];simp only[uY];simp only[h1,h6,h7,h8,eq_self,Bool.false_eq_true,Nat.reduceLeDiff,Nat.reduceEqDiff,if_true,if_false,or_true,true_or,or_false,false_or,or_self,not_true_eq_false,not_false_eq_true,wB,wC,vR,decide_true,decide_false])
    ·refine(ve (r:=[vw (decide (uZ (fN f) (nB b1 b0)=5))]) (by simp only[uY,DI];exact sigB) (by rfl)).trans ?_
     refine tI (uZ (fN f) (nB b1 b0)=5) (by simp only[uY]) (fun h9=>?_) (fun h9=>?_)
     ·first|(exfalso;omega)|(rw[vg rfl];simp only[uY];simp only[h1,h6,h7,h8,h9,eq_self,Bool.false_eq_true,Nat.reduceLeDiff,Nat.reduceEqDiff,if_true,if_false,or_true,true_or,or_false,false_or,or_self,not_true_eq_false,not_false_eq_true,wB,wC,vR,decide_true,decide_false])
     ·refine(ve (r:=[vw (decide (uZ (fN f) (nB c1 c0)=5))]) (by simp only[uY,DI];exact sigC) (by rfl)).trans ?_
      refine tI (uZ (fN f) (nB c1 c0)=5) (by simp only[uY]) (fun h10=>?_) (fun h10=>?_)
      ·first|(exfalso;omega)|(rw[vg rfl];simp only[uY];simp only[h1,h6,h7,h8,h9,h10,eq_self,Bool.false_eq_true,Nat.reduceLeDiff,Nat.reduceEqDiff,if_true,if_false,or_true,true_or,or_false,false_or,or_self,not_true_eq_false,not_false_eq_true,wB,wC,vR,decide_true,decide_false])
      ·first|(exfalso;omega)|(rw[vg rfl];simp only[uY];simp only[h1,h6,h7,h8,h9,h10,eq_self,Bool.false_eq_true,Nat.reduceLeDiff,Nat.reduceEqDiff,if_true,if_false,or_true,true_or,or_false,false_or,or_self,not_true_eq_false,not_false_eq_true,wB,wC,vR,decide_true,decide_false])
  ·refine(ve (r:=[vw (decide (4≤uZ (fN f) (nB c1 c0)))]) (by simp only[uY,Pn];exact nanC) (by rfl)).trans ?_
   refine tI (4≤uZ (fN f) (nB c1 c0)) (by simp only[uY]) (fun h11=>?_) (fun h11=>?_)
   ·refine tF (by simp only[uY];exact known) ?_
    refine(ve (r:=[wd (dfl (fN f)) 1,wd (dfl (fN f)) 0]) (by simp only[uY,IX];exact dflt) (by rfl)).trans ?_
    refine(ve (r:=[wd (xz (fN f) (nB c1 c0)) 1,wd (xz (fN f) (nB c1 c0)) 0]) (by simp only[uY,Po];exact EO h11) (by rfl)).trans ?_
    refine tI (vG i=true) (by simp only[uY];exact(Bool.decide_coe _).symm) (fun h12=>?_) (fun h12=>?_)
    ·first|(exfalso;omega)|(rw[vg rfl];simp only[uY];simp only[h1,h6,h11,h12,eq_self,Bool.false_eq_true,Nat.reduceLeDiff,Nat.reduceEqDiff,if_true,if_false,or_true,true_or,or_false,false_or,or_self,not_true_eq_false,not_false_eq_true,wB,wC,vR,decide_true,decide_false])
    ·refine(ve (r:=[vw (decide (uZ (fN f) (nB a1 a0)=5))]) (by simp only[uY,DI];exact sigA) (by rfl)).trans ?_
     refine tI (uZ (fN f) (nB a1 a0)=5) (by simp only[uY]) (fun h13=>?_) (fun h13=>?_)
     ·first|(exfalso;omega)|(rw[vg rfl];simp only[uY];simp only[h1,h6,h11,h12,h13,eq_self,Bool.false_eq_true,Nat.reduceLeDiff,Nat.reduceEqDiff,if_true,if_false,or_true,true_or,or_false,false_or,or_self,not_true_eq_false,not_false_eq_true,wB,wC,vR,decide_true,decide_false])
     ·refine(ve (r:=[vw (decide (uZ (fN f) (nB b1 b0)=5))]) (by simp only[uY,DI];exact sigB) (by rfl)).trans ?_
      refine tI (uZ (fN f) (nB b1 b0)=5) (by simp only[uY]) (fun h14=>?_) (fun h14=>?_)
      ·first|(exfalso;omega)|(rw[vg rfl];simp only[uY];simp only[h1,h6,h11,h12,h13,h14,eq_self,Bool.false_eq_true,Nat.reduceLeDiff,Nat.reduceEqDiff,if_true,if_false,or_true,true_or,or_false,false_or,or_self,not_true_eq_false,not_false_eq_true,wB,wC,vR,decide_true,decide_false])
      ·refine(ve (r:=[vw (decide (uZ (fN f) (nB c1 c0)=5))]) (by simp only[uY,DI];exact sigC) (by rfl)).trans ?_
       refine tI (uZ (fN f) (nB c1 c0)=5) (by simp only[uY]) (fun h15=>?_) (fun h15=>?_)
       ·first|(exfalso;omega)|(rw[vg rfl];simp only[uY];simp only[h1,h6,h11,h12,h13,h14,h15,eq_self,Bool.false_eq_true,Nat.reduceLeDiff,Nat.reduceEqDiff,if_true,if_false,or_true,true_or,or_false,false_or,or_self,not_true_eq_false,not_false_eq_true,wB,wC,vR,decide_true,decide_false])
       ·first|(exfalso;omega)|(rw[vg rfl];simp only[uY];simp only[h1,h6,h11,h12,h13,h14,h15,eq_self,Bool.false_eq_true,Nat.reduceLeDiff,Nat.reduceEqDiff,if_true,if_false,or_true,true_or,or_false,false_or,or_self,not_true_eq_false,not_false_eq_true,wB,wC,vR,decide_true,decide_false])
   ·refine tF (by simp only[uY];exact known) ?_
    refine tI (¬ vG i=true) (by simp only[uY];cases vG i<;>rfl) (fun h16=>?_) (fun h16=>?_)
    ·first|(exfalso;omega)|(rw[vg rfl];simp only[uY];simp only[h1,h6,h11,h16,eq_self,Bool.false_eq_true,Nat.reduceLeDiff,Nat.reduceEqDiff,if_true,if_false,or_true,true_or,or_false,false_or,or_self,not_true_eq_false,not_false_eq_true,wB,wC,vR,decide_true,decide_false])
    ·refine(ve (r:=[wd (dfl (fN f)) 1,wd (dfl (fN f)) 0]) (by simp only[uY,IX];exact dflt) (by rfl)).trans ?_
     first|(exfalso;omega)|(replace h16:=Decidable.not_not.1 h16;rw[vg rfl];simp only[uY];simp only[h1,h6,h11,h16,eq_self,Bool.false_eq_true,Nat.reduceLeDiff,Nat.reduceEqDiff,if_true,if_false,or_true,true_or,or_false,false_or,or_self,not_true_eq_false,not_false_eq_true,wB,wC,vR,decide_true,decide_false])
open Go.RowKit
theorem UX (x y:Nat):((x:Int)==(y:Int))=decide (x=y):=by rw[Bool.eq_iff_iff,beq_iff_eq,decide_eq_true_iff];omega
theorem xS (x k:Nat):((x:Int)==(k:Int))=decide (x=k):=UX x k
theorem LH (x:Nat):((x:Int)==0)=decide (x=0):=UX x 0
theorem arw (x k:Nat):(!((x:Int)==(k:Int)))=decide (¬ x=k):=by rw[UX];exact(decide_not).symm
theorem agi (x y:Nat):xM x y=true↔x=y∧(x=3∨x=0):=by unfold xM;simp only[Bool.and_eq_true,Bool.or_eq_true,decide_eq_true_iff]
theorem aay {j:Bool} {x y:Nat} (h:j=true↔x=y∧(x=3∨x=0)):j=xM x y:=by rw[Bool.eq_iff_iff,agi];exact h
def yj (f:Nat) (j:Bool) (a b:Nat):Nat:=if 4≤uZ f a then xz f a else if 4≤uZ f b then xz f b else if j=true then dfl f else 0
def yL (f:Nat) (j:Bool) (a b:Nat):Nat:=if 4≤uZ f a∨4≤uZ f b then(if j=true∨uZ f a=5∨uZ f b=5 then 1 else 0) else if j=true then 1 else 0
def xc (f:Nat) (j:Bool) (a b:Nat):Bool:=decide (4≤uZ f a)||(decide (4≤uZ f b)||j)
theorem UY (i:Nat):wd 0 i=0:=by unfold wd;rw[Nat.zero_div,Nat.zero_mod];rfl
theorem aaz (f:Nat) (j:Bool) (a b:Nat):yL f j a b≤1:=by unfold yL;split<;>split<;>decide
theorem aaA (f i a1 a0 b1 b0:Int) (hf:fN f<4):DF [f,i,a1,a0,b1,b0] = [wd (yj (fN f) (vG i) (nB a1 a0) (nB b1 b0)) 1,wd (yj (fN f) (vG i) (nB a1 a0) (nB b1 b0)) 0,((yL (fN f) (vG i) (nB a1 a0) (nB b1 b0):Nat):Int),vw (xc (fN f) (vG i) (nB a1 a0) (nB b1 b0))]:=by
 rw[aru _ _ _ _ _ _ hf]
 unfold yj yL xc
 by_cases h1:4≤uZ (fN f) (nB a1 a0)
 ·simp only[h1,if_true,decide_true,Bool.true_or,true_or]
  split<;>rfl
 ·by_cases h2:4≤uZ (fN f) (nB b1 b0)
  ·simp only[h1,h2,if_true,if_false,decide_true,decide_false,Bool.true_or,Bool.false_or,or_true]
   split<;>rfl
  ·cases hi:vG i with
   | true=>simp only[h1,h2,if_true,if_false,decide_false,Bool.false_or,or_self];rfl
   | false=>simp only[h1,h2,if_false,decide_false,Bool.false_or,or_self,Bool.false_eq_true,UY];rfl
theorem agj {n:Nat} (h:n%2=0):n|||1=n+1:=by
 apply Nat.eq_of_testBit_eq
 intro i
 rw[Nat.testBit_or]
 cases i with
 | zero=>simp[Nat.testBit_zero];omega
 | succ i =>
  rw[Nat.testBit_succ,Nat.testBit_succ,Nat.testBit_succ,show(n+1)/2=n/2 by omega]
  simp
theorem aaB {n:Nat} (h:n%2=0):vX .or .u64 (wd n 0) 1=wd (n+1) 0∧wd n 1=wd (n+1) 1∧wd n 2=wd (n+1) 2∧wd n 3=wd (n+1) 3:=by
 have h1:(1:Int)=wd 1 0:=by unfold wd;rw[Nat.pow_zero,Nat.div_one];rfl
 have hz:∀ i,1≤i→wd (n|||1) i=wd n i:=fun i hi=>by
  rw[← Rt]
  have:wd 1 i=0:=by
   unfold wd
   rw[Nat.div_eq_of_lt]
   ·rfl
   ·exact Nat.one_lt_pow (by omega) (by decide)
  rw[this,show(0:Int)=((0:Nat):Int) from rfl,y9,Q9 _ _ (Nat.mod_lt _ yE) yE,Nat.or_zero]
 rw[agj h] at hz
 refine⟨?_,(hz 1 (by omega)).symm,(hz 2 (by omega)).symm,(hz 3 (by omega)).symm⟩
 conv => { lhs;rw[h1] }
 rw[Rt,agj h]
theorem Co {f a:Nat} (hf:f<4) (h:uZ f a=1∨uZ f a=2):2^127≤wu f a∧wu f a=FP.unSig f (FP.cod f a)∧vQ f a=FP.unExp f (FP.cod f a)∧0<FP.cod f a∧FP.cod f a<FP.inf f:=by
 obtain⟨h1,h2,h3⟩:=Bw hf (show uZ f a<3 by omega)
 have h0:0<FP.cod f a:=Nat.pos_of_ne_zero (h3.1 h)
 unfold wu vQ
 rw[if_pos h,if_pos h]
 exact⟨(FP.un_sig hf h0 h1).1,rfl,rfl,h0,h1⟩
theorem arx {S D:Nat} (hS:S<2^256) (hD:2^127≤D):S/D*2^100+1<vL:=by
 have h1:S/D<2^129:=by
  rw[Nat.div_lt_iff_lt_mul (by have:=FP.two_pow_pos 127;omega)]
  calc S<2^129*2^127:=by rw[← Nat.pow_add];exact hS
   _≤2^129*D:=Nat.mul_le_mul_left _ hD
 have h2:S/D*2^100≤2^129*2^100:=Nat.mul_le_mul_right _ (Nat.le_of_lt h1)
 rw[← Nat.pow_add] at h2
 have h3:(2:Nat)^(129+100)+1<2^256:=by decide
 rw[BJ];omega
theorem agk {f m a b n:Nat} {after neg:Bool} (hf:f<4) (ha:uZ f a=1∨uZ f a=2) (hb:uZ f b=1∨uZ f b=2) (hn:n/2^100=wu f a*vF/wu f b) (hz:n%2^100=0↔wu f a*vF%wu f b=0) :
  FP.roundE (FP.fP f) (FP.fE f) m after neg (Bu (i64 (i64 (i64 (i64 (vQ f a)-i64 (vQ f b))+27)))) n=FP.divC f m after neg (FP.cod f a) (FP.cod f b):=by
 obtain⟨_,a2,a3,a4,a5⟩:=Co hf ha
 obtain⟨_,b2,b3,b4,b5⟩:=Co hf hb
 have ra:=yJ (f:=f) (b:=a)
 have rb:=yJ (f:=f) (b:=b)
 rw[wL (n:=vQ f a) (by omega) (by omega),wL (n:=vQ f b) (by omega) (by omega),wL (n:=vQ f a-vQ f b) (by omega) (by omega),wL (n:=vQ f a-vQ f b+27) (by omega) (by omega),wL (by omega) (by omega),Lt (by omega) (by omega)]
 rw[a2,b2,yn] at hn hz
 rw[a3,b3]
 exact FP.round_div hf a4 a5 b4 b5 hn hz
theorem Am (p:Nat×Nat):oR p = [wd p.1 1,wd p.1 0,(p.2:Int)]:=by obtain⟨a,b⟩:=p;exact Eg a b
open Go.RowKit
def xq (x y:Nat):Int:=if x<y then -1 else if y<x then 1 else 0
theorem UZ (a b c d:Int):EI [a,b,c,d] = [xq (nB a b) (nB c d)]:=by
 obtain⟨n,hn,e,h1,h0⟩:=Ck a b
 obtain⟨m,hm,f,k1,k0⟩:=Ck c d
 rw[EI,YY,vg rfl,e,f]
 simp only[uY,h1,h0,k1,k0]
 have e1:wd n 1=((n/vC:Nat):Int):=by
  unfold wd;rw[Nat.pow_one,Nat.mod_eq_of_lt (Nat.div_lt_of_lt_mul (show n<vC*vC from hn))]
 have e0:wd n 0=((n%vC:Nat):Int):=by unfold wd;rw[Nat.pow_zero,Nat.div_one]
 have f1:wd m 1=((m/vC:Nat):Int):=by
  unfold wd;rw[Nat.pow_one,Nat.mod_eq_of_lt (Nat.div_lt_of_lt_mul (show m<vC*vC from hm))]
 have f0:wd m 0=((m%vC:Nat):Int):=by unfold wd;rw[Nat.pow_zero,Nat.div_one]
 rw[e1,e0,f1,f0]
 have dn:=Nat.div_add_mod n vC
 have dm:=Nat.div_add_mod m vC
 have ln:=Nat.mod_lt n yE
 have lm:=Nat.mod_lt m yE
 rw[Eb] at *
 generalize n/18446744073709551616=n1 at *
 generalize n%18446744073709551616=n0 at *
 generalize m/18446744073709551616=m1 at *
 generalize m%18446744073709551616=m0 at *
 congr 1
 unfold xq
 simp only[bne_self_eq_false,Bool.false_eq_true,if_false,decide_eq_true_iff,bne_iff_ne,ne_eq,gt_iff_lt]
 clear h1 h0 k1 k0 e f
 have r1:((n1:Int)<(m1:Int))↔n1<m1:=Int.ofNat_lt
 have r2:((m1:Int)<(n1:Int))↔m1<n1:=Int.ofNat_lt
 have r3:((n0:Int)<(m0:Int))↔n0<m0:=Int.ofNat_lt
 have r4:((m0:Int)<(n0:Int))↔m0<n0:=Int.ofNat_lt
 simp only[r1,r2,r3,r4]
 by_cases c1:n1<m1
 ·rw[if_pos c1,if_pos (by decide),if_pos (by omega)]
 rw[if_neg c1]
 by_cases c2:m1<n1
 ·rw[if_pos c2,if_pos (by decide),if_neg (by omega),if_pos (by omega)]
 rw[if_neg c2,if_neg (by decide)]
 by_cases c3:n0<m0
 ·rw[if_pos c3,if_pos (by decide),if_pos (by omega)]
 rw[if_neg c3]
 by_cases c4:m0<n0
 ·rw[if_pos c4,if_pos (by decide),if_neg (by omega),if_pos (by omega)]
 rw[if_neg c4,if_neg (by decide),if_neg (by omega),if_neg (by omega)]
open Go.RowKit
theorem ary {n i:Nat} (hi:i<2):wd (n+vF) i=wd n i:=by
 unfold wd
 rcases(show i=0∨i=1 by omega) with rfl|rfl
 ·rw[Nat.pow_zero,Nat.div_one,Nat.div_one,show vF=vC*vC from rfl,Nat.add_mul_mod_self_left]
 ·rw[Nat.pow_one,show vF=vC*vC from rfl,Nat.add_mul_div_left _ _ yE,Nat.add_mod_right]
theorem GX {p q i:Nat} (h:q≤p) (hi:i<2):wd (p+vF-q) i=wd (p-q) i:=by
 rw[show p+vF-q=(p-q)+vF by omega];exact ary hi
theorem arz {n i:Nat} (hi:i<4):wd (n+vL) i=wd n i:=by
 unfold wd
 have e:vL=vC^i*(vC*vC^(3-i)):=by
  rcases(show i=0∨i=1∨i=2∨i=3 by omega) with rfl|rfl|rfl|rfl<;>decide
 rw[e,Nat.add_mul_div_left _ _ (Nat.pow_pos yE),Nat.add_mul_mod_self_left]
theorem U0 {p q i:Nat} (h:q≤p) (hi:i<4):wd (p+vL-q) i=wd (p-q) i:=by
 rw[show p+vL-q=(p-q)+vL by omega];exact arz hi
theorem agl {p q:Nat} (hp:p<vF) (hq:q<vF):Gq [wd p 1,wd p 0,wd q 1,wd q 0] = [wd (p+vF-q) 1,wd (p+vF-q) 0,vw (decide (p<q))]:=by
 rw[aev,xn hp,xn hq]
theorem U1 {p q:Nat} (hp:p<vF) (h:q≤p):Gq [wd p 1,wd p 0,wd q 1,wd q 0] = [wd (p-q) 1,wd (p-q) 0,0]:=by
 rw[agl hp (by omega),GX h (by decide),GX h (by decide),decide_eq_false (by omega)];rfl
theorem Pf {p q:Nat} (hp:p<vF) (hq:q<vF):EI [wd p 1,wd p 0,wd q 1,wd q 0] = [xq p q]:=by
 rw[UZ,xn hp,xn hq]
theorem Az {p:Nat} (hp:p<vF):Fv [wd p 1,wd p 0] = [wd p 0,wd p 1,wd p 2,wd p 3]:=by
 rw[aoR,xn hp,yC]
theorem Cq {p:Nat} (hp:p<vL):CU [wd p 0,wd p 1,wd p 2,wd p 3] = [vw (decide (p=0))]:=by
 rw[aew,xP hp]
theorem U2 (l:List Int) (i:Nat):w4 l i=nW (vT l i) (vT l (i+1)) (vT l (i+2)) (vT l (i+3)):=by
 unfold w4 nW;generalize (u64 (vT l i)).toNat=a;generalize (u64 (vT l (i+1))).toNat=b;generalize (u64 (vT l (i+2))).toNat=c;generalize (u64 (vT l (i+3))).toNat=d
 rfl
theorem aaC {p q:Nat} (hp:p<vL) (h:q≤p):Gn [wd p 0,wd p 1,wd p 2,wd p 3,wd q 0,wd q 1,wd q 2,wd q 3] = [wd (p-q) 0,wd (p-q) 1,wd (p-q) 2,wd (p-q) 3,0]:=by
 have e1:w4 [wd p 0,wd p 1,wd p 2,wd p 3,wd q 0,wd q 1,wd q 2,wd q 3] 0=p:=by rw[U2];exact xP hp
 have e2:w4 [wd p 0,wd p 1,wd p 2,wd p 3,wd q 0,wd q 1,wd q 2,wd q 3] 4=q:=by rw[U2];exact xP (by omega)
 have hb:Nat.blt p q=false:=by rw[Bool.eq_false_iff];intro h2;rw[Nat.blt_eq] at h2;omega
 rw[Gn,e1,e2,hb,Rs,U0 h (by decide),U0 h (by decide),U0 h (by decide),U0 h (by decide)];rfl
theorem agm {p q:Nat} (h:p+q<vL):EF [wd p 0,wd p 1,wd p 2,wd p 3,wd q 0,wd q 1,wd q 2,wd q 3] = [wd (p+q) 0,wd (p+q) 1,wd (p+q) 2,wd (p+q) 3,0]:=by
 have e1:w4 [wd p 0,wd p 1,wd p 2,wd p 3,wd q 0,wd q 1,wd q 2,wd q 3] 0=p:=by rw[U2];exact xP (by omega)
 have e2:w4 [wd p 0,wd p 1,wd p 2,wd p 3,wd q 0,wd q 1,wd q 2,wd q 3] 4=q:=by rw[U2];exact xP (by omega)
 have hb:Nat.ble vL (p+q)=false:=by rw[Bool.eq_false_iff];intro h2;have:=Nat.le_of_ble_eq_true h2;omega
 rw[EF,e1,e2,hb,Rs];rfl
theorem IP {p q:Nat} : decide (xq p q>0)=decide (q<p):=by
 rw[decide_eq_decide];unfold xq
 by_cases h1:p<q
 ·rw[if_pos h1];omega
 ·rw[if_neg h1]
  by_cases h2:q<p
  ·rw[if_pos h2];omega
  ·rw[if_neg h2];omega
theorem Pg {p q:Nat} : (xq p q==0)=decide (p=q):=by
 rw[Bool.eq_iff_iff,beq_iff_eq,decide_eq_true_iff];unfold xq
 by_cases h1:p<q
 ·rw[if_pos h1];omega
 ·rw[if_neg h1]
  by_cases h2:q<p
  ·rw[if_pos h2];omega
  ·rw[if_neg h2];omega
theorem AZ (p q:Nat):i64 (xq p q)=xq p q:=by
 unfold xq
 by_cases h1:p<q
 ·rw[if_pos h1];rfl
 ·rw[if_neg h1]
  by_cases h2:q<p
  ·rw[if_pos h2];rfl
  ·rw[if_neg h2];rfl
end Go.Proofs.YtemomocmfggiaaaGreatDoor
