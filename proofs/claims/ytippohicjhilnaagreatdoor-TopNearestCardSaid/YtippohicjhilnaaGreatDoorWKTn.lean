import Derived.Test.YtippohicjhilnaaGreatDoorZ1Tn
import Derived.Test.YtippohicjhilnaaGreatDoorZ9Tn
import Derived.Test.YtippohicjhilnaaGreatDoorZGTn
set_option linter.unusedSimpArgs false
set_option linter.unusedVariables false
set_option maxRecDepth 100000
namespace Go.Proofs.YtippohicjhilnaaGreatDoor
open Go.RowKit
def BZ (f n:Nat):Bool:=decide (f<4)&&decide (n<2^FP.fW f)
theorem Ou (f a b:Int):Oi [f,a,b] = [wh (BZ (fN f) (nB a b))]:=by
 rw[Oi,Yy];refine tI (fN f<4) (by simp only[vS,Hg]) (λh=>?_) (λh=>?_)
 ·have hx:=He a b;obtain⟨w1,w0⟩:=Lb a b;refine(vX (r:=oB (nB a b%2^FP.fW (fN f))) (by simp only[vS,aAi];rw[Xk,wz,wX];rfl) (by rfl)).trans ?_;rw[wu rfl];simp only[vS];have hm:nB a b%2^FP.fW (fN f)<wy:=Nat.lt_of_le_of_lt (Nat.mod_le _ _) hx
  have key:((decide (wd (nB a b%2^FP.fW (fN f)) 1=u64 a)&&(decide (wd (nB a b%2^FP.fW (fN f)) 0=u64 b)&&true))=BZ (fN f) (nB a b)):=by
   unfold BZ;rw[decide_eq_true h,Bool.true_and,Bool.and_true,Bool.eq_iff_iff];simp only[Bool.and_eq_true,decide_eq_true_iff];constructor
   ·rintro⟨e1,e0⟩;have:=ahB hm;rw[e1,e0,wX] at this;rw[this];exact Nat.mod_lt _ (Nat.two_pow_pos _)
   ·intro hlt;rw[Nat.mod_eq_of_lt hlt];exact⟨w1.symm,w0.symm⟩
  rw[<- key];rfl
 ·rw[wu rfl];simp only[vS];unfold BZ;rw[decide_eq_false h];rfl
theorem zB (x y:Int):(u64 x==0&&(u64 y==0&&ww 1))=decide (nB x y=0):=by have hx:=ahz x;have hy:=ahz y;rw[Bool.eq_iff_iff];simp only[Bool.and_eq_true,beq_iff_eq,decide_eq_true_iff,show ww 1=true from rfl,and_true];unfold nB vZ;omega
end Go.Proofs.YtippohicjhilnaaGreatDoor
