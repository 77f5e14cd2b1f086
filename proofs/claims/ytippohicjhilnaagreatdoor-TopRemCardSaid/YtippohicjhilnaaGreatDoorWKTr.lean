import Derived.Test.YtippohicjhilnaaGreatDoorZ1Tr
import Derived.Test.YtippohicjhilnaaGreatDoorZ9Tr
import Derived.Test.YtippohicjhilnaaGreatDoorZGTr
set_option linter.unusedSimpArgs false
set_option linter.unusedVariables false
set_option maxRecDepth 100000
namespace Go.Proofs.YtippohicjhilnaaGreatDoor
open Go.RowKit
def GA (f n:Nat):Bool:=decide (f<4)&&decide (n<2^FP.fW f)
theorem akO (f a b:Int):Mc [f,a,b] = [ui (GA (fN f) (nB a b))]:=by
 rw[Mc,Wq];refine tI (fN f<4) (by simp only[tK,Ju]) (λh=>?_) (λh=>?_)
 ·have hx:=Ff a b;obtain⟨w1,w0⟩:=Jn a b;refine(tX (r:=oB (nB a b%2^FP.fW (fN f))) (by simp only[tK,ayf];rw[U8,uD,vQ];rfl) (by rfl)).trans ?_;rw[uj rfl];simp only[tK];have hm:nB a b%2^FP.fW (fN f)<uh:=Nat.lt_of_le_of_lt (Nat.mod_le _ _) hx
  have key:((decide (wd (nB a b%2^FP.fW (fN f)) 1=u64 a)&&(decide (wd (nB a b%2^FP.fW (fN f)) 0=u64 b)&&true))=GA (fN f) (nB a b)):=by
   unfold GA;rw[decide_eq_true h,Bool.true_and,Bool.and_true,Bool.eq_iff_iff];simp only[Bool.and_eq_true,decide_eq_true_iff];constructor
   ·rintro⟨e1,e0⟩;have:=afk hm;rw[e1,e0,vQ] at this;rw[this];exact Nat.mod_lt _ (Nat.two_pow_pos _)
   ·intro hlt;rw[Nat.mod_eq_of_lt hlt];exact⟨w1.symm,w0.symm⟩
  rw[<- key];rfl
 ·rw[uj rfl];simp only[tK];unfold GA;rw[decide_eq_false h];rfl
theorem zB (x y:Int):(u64 x==0&&(u64 y==0&&uk 1))=decide (nB x y=0):=by have hx:=afi x;have hy:=afi y;rw[Bool.eq_iff_iff];simp only[Bool.and_eq_true,beq_iff_eq,decide_eq_true_iff,show uk 1=true from rfl,and_true];unfold nB tV;omega
end Go.Proofs.YtippohicjhilnaaGreatDoor
