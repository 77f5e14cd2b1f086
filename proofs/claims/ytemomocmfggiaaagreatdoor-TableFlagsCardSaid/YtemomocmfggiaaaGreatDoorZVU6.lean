import Derived.Test.YtemomocmfggiaaaGreatDoorZ1U6
import Derived.Test.YtemomocmfggiaaaGreatDoorZGU6
import Derived.Test.YtemomocmfggiaaaGreatDoorTM2U6
set_option linter.unusedSimpArgs false
set_option linter.unusedVariables false
set_option maxRecDepth 100000
set_option maxHeartbeats 4000000
namespace Go.Proofs.YtemomocmfggiaaaGreatDoor
open Go.RowKit
def wo (f n:Nat):Bool:=decide (f<4)&&decide (n<2^FP.fW f)
theorem xL (f a b:Int):Ki [f,a,b] = [vw (wo (fN f) (nB a b))]:=by
 rw[Ki,abd]
 refine tI (fN f<4) (by simp only[uY,yh]) (fun h=>?_) (fun h=>?_)
 ·have hx:=Gz a b
  obtain⟨w1,w0⟩:=JG a b
  refine(ve (r:=oB (nB a b%2^FP.fW (fN f))) (by simp only[uY,Vx];rw[Ro,vH,vM];rfl) (by rfl)).trans ?_
  rw[vg rfl]
  simp only[uY]
  have hm:nB a b%2^FP.fW (fN f)<vF:=Nat.lt_of_le_of_lt (Nat.mod_le _ _) hx
  have key:((decide (wd (nB a b%2^FP.fW (fN f)) 1=u64 a)&&(decide (wd (nB a b%2^FP.fW (fN f)) 0=u64 b)&&true))=wo (fN f) (nB a b)):=by
   unfold wo
   rw[decide_eq_true h,Bool.true_and,Bool.and_true,Bool.eq_iff_iff]
   simp only[Bool.and_eq_true,decide_eq_true_iff]
   constructor
   ·rintro⟨e1,e0⟩
    have:=ael hm
    rw[e1,e0,vM] at this
    rw[this];exact Nat.mod_lt _ (Nat.two_pow_pos _)
   ·intro hlt
    rw[Nat.mod_eq_of_lt hlt]
    exact⟨w1.symm,w0.symm⟩
  rw[← key]
  rfl
 ·rw[vg rfl];simp only[uY];unfold wo;rw[decide_eq_false h];rfl
def ER (k n:Nat):Bool:=match k with|0=>decide (n<2147483648∨18446744071562067968≤n)|1=>decide (n<4294967296)|2=>true|3=>true|_=>false
theorem af3 (x:Int):IntKind.i32.wrap x=(x+2147483648)%4294967296-2147483648:=by
 simp only[IntKind.wrap,IntKind.signed,IntKind.bits]
 simp
 split<;>omega
theorem af4 (x:Int):IntKind.u32.wrap x=x%4294967296:=by
 simp only[IntKind.wrap,IntKind.signed,IntKind.bits]
 simp
theorem UU (x:Int):u64 x=x%18446744073709551616:=by
 unfold u64;rw[xR]
 simp only[IntKind.wrap,IntKind.signed,IntKind.bits]
 simp
theorem af5 (k n:Int):PG [k,n] = [vw (ER (fN k) (u64 n).toNat)]:=by
 have hu:=CW k
 have hn:=Ug n
 have hk:fN k=(u8 k).toNat:=rfl
 rw[PG,aa7]
 refine tI (u8 k=0) (by simp only[uY];rfl) (fun h=>?_) (fun h=>?_)
 ·rw[vg rfl];simp only[uY]
  rw[hk,h]
  congr 2
  rw[af3,Bool.eq_iff_iff]
  unfold ER
  simp only[Int.toNat_zero,decide_eq_true_iff,beq_iff_eq]
  rw[wL (by omega) (by omega),UU]
  omega
 refine tI (u8 k=1) (by simp only[uY];rfl) (fun h=>?_) (fun h=>?_)
 ·rw[vg rfl];simp only[uY]
  rw[hk,h]
  congr 2
  rw[af4,Bool.eq_iff_iff]
  unfold ER
  simp only[Int.toNat_one,decide_eq_true_iff,beq_iff_eq]
  rw[UU]
  omega
 refine tI (u8 k=2) (by simp only[uY];rfl) (fun h=>?_) (fun h=>?_)
 ·rw[vg rfl];simp only[uY]
  rw[hk,h]
  congr 2
  simp[ER]
 refine tI (u8 k=3) (by simp only[uY];rfl) (fun h=>?_) (fun h=>?_)
 ·rw[vg rfl];simp only[uY]
  rw[hk,h]
  congr 2
  simp[ER]
 rw[vg rfl];simp only[uY]
 rw[hk]
 congr 1
 have:ER (u8 k).toNat (u64 n).toNat=false:=by
  unfold ER
  split
  ·omega
  ·omega
  ·omega
  ·omega
  ·rfl
 rw[this];rfl
open Go.RowKit
def vV (o f t m i a1:Int) (F A B C:Nat) (k:Bool):Bool :=
 decide (f<4)&&(decide (m≤4)&&(!decide (i>1) &&
  (if o=1∨o=2∨o=3∨o=4∨o=7∨o=13∨o=14 then decide (t=0)&&(wo F A&&(wo F B&&decide (C=0)))
  else if o=5∨o=8∨o=9 then decide (t=0)&&(wo F A&&(decide (B=0)&&decide (C=0)))
  else if o=6 then decide (t=0)&&(wo F A&&(wo F B&&wo F C))
  else if o=10∨o=11 then decide (t<4)&&(wo F A&&(decide (B=0)&&decide (C=0)))
  else if o=12 then decide (t<4)&&(decide (a1=0)&&(k&&(decide (B=0)&&decide (C=0))))
  else false)))
abbrev Pd (o f t m i a1 a0 b1 b0 c1 c0:Int):Bool:=vV (u8 o) (u8 f) (u8 t) (u8 m) (u8 i) (u64 a1) (fN f) (nB a1 a0) (nB b1 b0) (nB c1 c0) (ER (fN t) (u64 a0).toNat)
theorem zB (x y:Int):(u64 x==0&&(u64 y==0&&vG 1))=decide (nB x y=0):=by
 have hx:=Ug x
 have hy:=Ug y
 rw[Bool.eq_iff_iff]
 simp only[Bool.and_eq_true,beq_iff_eq,decide_eq_true_iff,show vG 1=true from rfl,and_true]
 unfold nB vC
 omega
theorem ard (o f t m i a1 a0 b1 b0 c1 c0:Int) (hb:Pd o f t m i a1 a0 b1 b0 c1 c0=false):ym [o,f,t,m,i,a1,a0,b1,b0,c1,c0] = [1,0,0,0]:=by
 unfold Pd at hb
 rw[ym,Vz]
 refine tI (u8 o=1) (by simp only[uY];rfl) (fun h1=>?_) (fun h1=>?_)
 ·refine tI (¬ u8 f<4) (by simp only[uY];rw[decide_not]) (fun h2=>?_) (fun h2=>?_)
  ·rw[vg rfl];simp only[uY]
  ·refine tI (¬ u8 m≤4) (by simp only[uY];rw[decide_not]) (fun h3=>?_) (fun h3=>?_)
   ·rw[vg rfl];simp only[uY]
   ·refine tI (u8 i>1) (by simp only[uY]) (fun h4=>?_) (fun h4=>?_)
    ·rw[vg rfl];simp only[uY]
    ·refine tI (¬ u8 t=0) (by simp only[uY];rw[decide_not];rfl) (fun h5=>?_) (fun h5=>?_)
     ·rw[vg rfl];simp only[uY]
     ·refine(ve (r:=[vw (wo (fN f) (nB a1 a0))]) (by simp only[uY,xN];rw[xL,vH,vM]) (by rfl)).trans ?_
      refine tI (wo (fN f) (nB a1 a0)=true) (by simp only[uY];exact(Bool.decide_coe _).symm) (fun h6=>?_) (fun h6=>?_)
      ·refine(ve (r:=[vw (wo (fN f) (nB b1 b0))]) (by simp only[uY,xN];rw[xL,vH,vM]) (by rfl)).trans ?_
       refine tI (wo (fN f) (nB b1 b0)=true) (by simp only[uY];exact(Bool.decide_coe _).symm) (fun h7=>?_) (fun h7=>?_)
       ·refine tI (¬ nB c1 c0=0) (by simp only[uY];rw[decide_not];exact congrArg not (zB _ _)) (fun h8=>?_) (fun h8=>?_)
        ·rw[vg rfl];simp only[uY]
        ·exfalso;replace h2:=Decidable.not_not.1 h2;replace h3:=Decidable.not_not.1 h3;replace h5:=Decidable.not_not.1 h5;replace h8:=Decidable.not_not.1 h8;revert hb;simp[vV,h1,h2,h3,h4,h5,h6,h7,h8]
       ·rw[vg rfl];simp only[uY]
      ·rw[vg rfl];simp only[uY]
 ·refine tI (u8 o=2) (by simp only[uY];rfl) (fun h9=>?_) (fun h9=>?_)
  ·refine tI (¬ u8 f<4) (by simp only[uY];rw[decide_not]) (fun h10=>?_) (fun h10=>?_)
   ·rw[vg rfl];simp only[uY]
   ·refine tI (¬ u8 m≤4) (by simp only[uY];rw[decide_not]) (fun h11=>?_) (fun h11=>?_)
    ·rw[vg rfl];simp only[uY]
    ·refine tI (u8 i>1) (by simp only[uY]) (fun h12=>?_) (fun h12=>?_)
     ·rw[vg rfl];simp only[uY]
     ·refine tI (¬ u8 t=0) (by simp only[uY];rw[decide_not];rfl) (fun h13=>?_) (fun h13=>?_)
      ·rw[vg rfl];simp only[uY]
      ·refine(ve (r:=[vw (wo (fN f) (nB a1 a0))]) (by simp only[uY,xN];rw[xL,vH,vM]) (by rfl)).trans ?_
       refine tI (wo (fN f) (nB a1 a0)=true) (by simp only[uY];exact(Bool.decide_coe _).symm) (fun h14=>?_) (fun h14=>?_)
       ·refine(ve (r:=[vw (wo (fN f) (nB b1 b0))]) (by simp only[uY,xN];rw[xL,vH,vM]) (by rfl)).trans ?_
        refine tI (wo (fN f) (nB b1 b0)=true) (by simp only[uY];exact(Bool.decide_coe _).symm) (fun h15=>?_) (fun h15=>?_)
        ·refine tI (¬ nB c1 c0=0) (by simp only[uY];rw[decide_not];exact congrArg not (zB _ _)) (fun h16=>?_) (fun h16=>?_)
         ·rw[vg rfl];simp only[uY]
         ·exfalso;replace h10:=Decidable.not_not.1 h10;replace h11:=Decidable.not_not.1 h11;replace h13:=Decidable.not_not.1 h13;replace h16:=Decidable.not_not.1 h16;revert hb;simp[vV,h9,h10,h11,h12,h13,h14,h15,h16]
        ·rw[vg rfl];simp only[uY]
       ·rw[vg rfl];simp only[uY]
  ·refine tI (u8 o=3) (by simp only[uY];rfl) (fun h17=>?_) (fun h17=>?_)
   ·refine tI (¬ u8 f<4) (by simp only[uY];rw[decide_not]) (fun h18=>?_) (fun h18=>?_)
    ·rw[vg rfl];simp only[uY]
    ·refine tI (¬ u8 m≤4) (by simp only[uY];rw[decide_not]) (fun h19=>?_) (fun h19=>?_)
     ·rw[vg rfl];simp only[uY]
     ·refine tI (u8 i>1) (by simp only[uY]) (fun h20=>?_) (fun h20=>?_)
      ·rw[vg rfl];simp only[uY]
      ·refine tI (¬ u8 t=0) (by simp only[uY];rw[decide_not];rfl) (fun h21=>?_) (fun h21=>?_)
       ·rw[vg rfl];simp only[uY]
       ·refine(ve (r:=[vw (wo (fN f) (nB a1 a0))]) (by simp only[uY,xN];rw[xL,vH,vM]) (by rfl)).trans ?_
        refine tI (wo (fN f) (nB a1 a0)=true) (by simp only[uY];exact(Bool.decide_coe _).symm) (fun h22=>?_) (fun h22=>?_)
        ·refine(ve (r:=[vw (wo (fN f) (nB b1 b0))]) (by simp only[uY,xN];rw[xL,vH,vM]) (by rfl)).trans ?_
         refine tI (wo (fN f) (nB b1 b0)=true) (by simp only[uY];exact(Bool.decide_coe _).symm) (fun h23=>?_) (fun h23=>?_)
         ·refine tI (¬ nB c1 c0=0) (by simp only[uY];rw[decide_not];exact congrArg not (zB _ _)) (fun h24=>?_) (fun h24=>?_)
          ·rw[vg rfl];simp only[uY]
          ·exfalso;replace h18:=Decidable.not_not.1 h18;replace h19:=Decidable.not_not.1 h19;replace h21:=Decidable.not_not.1 h21;replace h24:=Decidable.not_not.1 h24;revert hb;simp[vV,h17,h18,h19,h20,h21,h22,h23,h24]
         ·rw[vg rfl];simp only[uY]
        ·rw[vg rfl];simp only[uY]
   ·refine tI (u8 o=4) (by simp only[uY];rfl) (fun h25=>?_) (fun h25=>?_)
    ·refine tI (¬ u8 f<4) (by simp only[uY];rw[decide_not]) (fun h26=>?_) (fun h26=>?_)
     ·rw[vg rfl];simp only[uY]
     ·refine tI (¬ u8 m≤4) (by simp only[uY];rw[decide_not]) (fun h27=>?_) (fun h27=>?_)
      ·rw[vg rfl];simp only[uY]
      ·refine tI (u8 i>1) (by simp only[uY]) (fun h28=>?_) (fun h28=>?_)
       ·rw[vg rfl];simp only[uY]
       ·refine tI (¬ u8 t=0) (by simp only[uY];rw[decide_not];rfl) (fun h29=>?_) (fun h29=>?_)
        ·rw[vg rfl];simp only[uY]
        ·refine(ve (r:=[vw (wo (fN f) (nB a1 a0))]) (by simp only[uY,xN];rw[xL,vH,vM]) (by rfl)).trans ?_
         refine tI (wo (fN f) (nB a1 a0)=true) (by simp only[uY];exact(Bool.decide_coe _).symm) (fun h30=>?_) (fun h30=>?_)
         ·refine(ve (r:=[vw (wo (fN f) (nB b1 b0))]) (by simp only[uY,xN];rw[xL,vH,vM]) (by rfl)).trans ?_
          refine tI (wo (fN f) (nB b1 b0)=true) (by simp only[uY];exact(Bool.decide_coe _).symm) (fun h31=>?_) (fun h31=>?_)
          ·refine tI (¬ nB c1 c0=0) (by simp only[uY];rw[decide_not];exact congrArg not (zB _ _)) (fun h32=>?_) (fun h32=>?_)
           ·rw[vg rfl];simp only[uY]
           ·exfalso;replace h26:=Decidable.not_not.1 h26;replace h27:=Decidable.not_not.1 h27;replace h29:=Decidable.not_not.1 h29;replace h32:=Decidable.not_not.1 h32;revert hb;simp[vV,h25,h26,h27,h28,h29,h30,h31,h32]
          ·rw[vg rfl];simp only[uY]
         ·rw[vg rfl];simp only[uY]
    ·refine tI (u8 o=5) (by simp only[uY];rfl) (fun h33=>?_) (fun h33=>?_)
     ·refine tI (¬ u8 f<4) (by simp only[uY];rw[decide_not]) (fun h34=>?_) (fun h34=>?_)
      ·rw[vg rfl];simp only[uY]
      ·refine tI (¬ u8 m≤4) (by simp only[uY];rw[decide_not]) (fun h35=>?_) (fun h35=>?_)
       ·rw[vg rfl];simp only[uY]
       ·refine tI (u8 i>1) (by simp only[uY]) (fun h36=>?_) (fun h36=>?_)
        ·rw[vg rfl];simp only[uY]
        ·refine tI (¬ u8 t=0) (by simp only[uY];rw[decide_not];rfl) (fun h37=>?_) (fun h37=>?_)
         ·rw[vg rfl];simp only[uY]
         ·refine(ve (r:=[vw (wo (fN f) (nB a1 a0))]) (by simp only[uY,xN];rw[xL,vH,vM]) (by rfl)).trans ?_
          refine tI (wo (fN f) (nB a1 a0)=true) (by simp only[uY];exact(Bool.decide_coe _).symm) (fun h38=>?_) (fun h38=>?_)
          ·refine tI (nB b1 b0=0) (by simp only[uY];exact zB _ _) (fun h39=>?_) (fun h39=>?_)
           ·refine tI (¬ nB c1 c0=0) (by simp only[uY];rw[decide_not];exact congrArg not (zB _ _)) (fun h40=>?_) (fun h40=>?_)
            ·rw[vg rfl];simp only[uY]
            ·exfalso;replace h34:=Decidable.not_not.1 h34;replace h35:=Decidable.not_not.1 h35;replace h37:=Decidable.not_not.1 h37;replace h40:=Decidable.not_not.1 h40;revert hb;simp[vV,h33,h34,h35,h36,h37,h38,h39,h40]
           ·rw[vg rfl];simp only[uY]
          ·rw[vg rfl];simp only[uY]
     ·refine tI (u8 o=6) (by simp only[uY];rfl) (fun h41=>?_) (fun h41=>?_)
      ·refine tI (¬ u8 f<4) (by simp only[uY];rw[decide_not]) (fun h42=>?_) (fun h42=>?_)
       ·rw[vg rfl];simp only[uY]
       ·refine tI (¬ u8 m≤4) (by simp only[uY];rw[decide_not]) (fun h43=>?_) (fun h43=>?_)
        ·rw[vg rfl];simp only[uY]
        ·refine tI (u8 i>1) (by simp only[uY]) (fun h44=>?_) (fun h44=>?_)
         ·rw[vg rfl];simp only[uY]
         ·refine tI (¬ u8 t=0) (by simp only[uY];rw[decide_not];rfl) (fun h45=>?_) (fun h45=>?_)
          ·rw[vg rfl];simp only[uY]
          ·refine(ve (r:=[vw (wo (fN f) (nB a1 a0))]) (by simp only[uY,xN];rw[xL,vH,vM]) (by rfl)).trans ?_
           refine tI (wo (fN f) (nB a1 a0)=true) (by simp only[uY];exact(Bool.decide_coe _).symm) (fun h46=>?_) (fun h46=>?_)
           ·refine(ve (r:=[vw (wo (fN f) (nB b1 b0))]) (by simp only[uY,xN];rw[xL,vH,vM]) (by rfl)).trans ?_
            refine tI (wo (fN f) (nB b1 b0)=true) (by simp only[uY];exact(Bool.decide_coe _).symm) (fun h47=>?_) (fun h47=>?_)
            ·refine(ve (r:=[vw (wo (fN f) (nB c1 c0))]) (by simp only[uY,xN];rw[xL,vH,vM]) (by rfl)).trans ?_
             refine tI (¬ wo (fN f) (nB c1 c0)=true) (by simp only[uY];rw[decide_not,Bool.decide_coe]) (fun h48=>?_) (fun h48=>?_)
             ·rw[vg rfl];simp only[uY]
             ·exfalso;replace h42:=Decidable.not_not.1 h42;replace h43:=Decidable.not_not.1 h43;replace h45:=Decidable.not_not.1 h45;replace h48:=Decidable.not_not.1 h48;revert hb;simp[vV,h41,h42,h43,h44,h45,h46,h47,h48]
            ·rw[vg rfl];simp only[uY]
           ·rw[vg rfl];simp only[uY]
      ·refine tI (u8 o=7) (by simp only[uY];rfl) (fun h49=>?_) (fun h49=>?_)
       ·refine tI (¬ u8 f<4) (by simp only[uY];rw[decide_not]) (fun h50=>?_) (fun h50=>?_)
        ·rw[vg rfl];simp only[uY]
        ·refine tI (¬ u8 m≤4) (by simp only[uY];rw[decide_not]) (fun h51=>?_) (fun h51=>?_)
         ·rw[vg rfl];simp only[uY]
         ·refine tI (u8 i>1) (by simp only[uY]) (fun h52=>?_) (fun h52=>?_)
          ·rw[vg rfl];simp only[uY]
          ·refine tI (¬ u8 t=0) (by simp only[uY];rw[decide_not];rfl) (fun h53=>?_) (fun h53=>?_)
           ·rw[vg rfl];simp only[uY]
           ·refine(ve (r:=[vw (wo (fN f) (nB a1 a0))]) (by simp only[uY,xN];rw[xL,vH,vM]) (by rfl)).trans ?_
            refine tI (wo (fN f) (nB a1 a0)=true) (by simp only[uY];exact(Bool.decide_coe _).symm) (fun h54=>?_) (fun h54=>?_)
            ·refine(ve (r:=[vw (wo (fN f) (nB b1 b0))]) (by simp only[uY,xN];rw[xL,vH,vM]) (by rfl)).trans ?_
             refine tI (wo (fN f) (nB b1 b0)=true) (by simp only[uY];exact(Bool.decide_coe _).symm) (fun h55=>?_) (fun h55=>?_)
             ·refine tI (¬ nB c1 c0=0) (by simp only[uY];rw[decide_not];exact congrArg not (zB _ _)) (fun h56=>?_) (fun h56=>?_)
              ·rw[vg rfl];simp only[uY]
              ·exfalso;replace h50:=Decidable.not_not.1 h50;replace h51:=Decidable.not_not.1 h51;replace h53:=Decidable.not_not.1 h53;replace h56:=Decidable.not_not.1 h56;revert hb;simp[vV,h49,h50,h51,h52,h53,h54,h55,h56]
             ·rw[vg rfl];simp only[uY]
            ·rw[vg rfl];simp only[uY]
       ·refine tI (u8 o=8) (by simp only[uY];rfl) (fun h57=>?_) (fun h57=>?_)
        ·refine tI (¬ u8 f<4) (by simp only[uY];rw[decide_not]) (fun h58=>?_) (fun h58=>?_)
         ·rw[vg rfl];simp only[uY]
         ·refine tI (¬ u8 m≤4) (by simp only[uY];rw[decide_not]) (fun h59=>?_) (fun h59=>?_)
          ·rw[vg rfl];simp only[uY]
          ·refine tI (u8 i>1) (by simp only[uY]) (fun h60=>?_) (fun h60=>?_)
           ·rw[vg rfl];simp only[uY]
           ·refine tI (¬ u8 t=0) (by simp only[uY];rw[decide_not];rfl) (fun h61=>?_) (fun h61=>?_)
            ·rw[vg rfl];simp only[uY]
            ·refine(ve (r:=[vw (wo (fN f) (nB a1 a0))]) (by simp only[uY,xN];rw[xL,vH,vM]) (by rfl)).trans ?_
             refine tI (wo (fN f) (nB a1 a0)=true) (by simp only[uY];exact(Bool.decide_coe _).symm) (fun h62=>?_) (fun h62=>?_)
             ·refine tI (nB b1 b0=0) (by simp only[uY];exact zB _ _) (fun h63=>?_) (fun h63=>?_)
              ·refine tI (¬ nB c1 c0=0) (by simp only[uY];rw[decide_not];exact congrArg not (zB _ _)) (fun h64=>?_) (fun h64=>?_)
               ·rw[vg rfl];simp only[uY]
               ·exfalso;replace h58:=Decidable.not_not.1 h58;replace h59:=Decidable.not_not.1 h59;replace h61:=Decidable.not_not.1 h61;replace h64:=Decidable.not_not.1 h64;revert hb;simp[vV,h57,h58,h59,h60,h61,h62,h63,h64]
              ·rw[vg rfl];simp only[uY]
             ·rw[vg rfl];simp only[uY]
        ·refine tI (u8 o=9) (by simp only[uY];rfl) (fun h65=>?_) (fun h65=>?_)
         ·refine tI (¬ u8 f<4) (by simp only[uY];rw[decide_not]) (fun h66=>?_) (fun h66=>?_)
          ·rw[vg rfl];simp only[uY]
          ·refine tI (¬ u8 m≤4) (by simp only[uY];rw[decide_not]) (fun h67=>?_) (fun h67=>?_)
           ·rw[vg rfl];simp only[uY]
           ·refine tI (u8 i>1) (by simp only[uY]) (fun h68=>?_) (fun h68=>?_)
            ·rw[vg rfl];simp only[uY]
            ·refine tI (¬ u8 t=0) (by simp only[uY];rw[decide_not];rfl) (fun h69=>?_) (fun h69=>?_)
             ·rw[vg rfl];simp only[uY]
             ·refine(ve (r:=[vw (wo (fN f) (nB a1 a0))]) (by simp only[uY,xN];rw[xL,vH,vM]) (by rfl)).trans ?_
              refine tI (wo (fN f) (nB a1 a0)=true) (by simp only[uY];exact(Bool.decide_coe _).symm) (fun h70=>?_) (fun h70=>?_)
              ·refine tI (nB b1 b0=0) (by simp only[uY];exact zB _ _) (fun h71=>?_) (fun h71=>?_)
               ·refine tI (¬ nB c1 c0=0) (by simp only[uY];rw[decide_not];exact congrArg not (zB _ _)) (fun h72=>?_) (fun h72=>?_)
                ·rw[vg rfl];simp only[uY]
                ·exfalso;replace h66:=Decidable.not_not.1 h66;replace h67:=Decidable.not_not.1 h67;replace h69:=Decidable.not_not.1 h69;replace h72:=Decidable.not_not.1 h72;revert hb;simp[vV,h65,h66,h67,h68,h69,h70,h71,h72]
               ·rw[vg rfl];simp only[uY]
              ·rw[vg rfl];simp only[uY]
         ·refine tI (u8 o=10) (by simp only[uY];rfl) (fun h73=>?_) (fun h73=>?_)
          ·refine tI (¬ u8 f<4) (by simp only[uY];rw[decide_not]) (fun h74=>?_) (fun h74=>?_)
           ·rw[vg rfl];simp only[uY]
           ·refine tI (¬ u8 m≤4) (by simp only[uY];rw[decide_not]) (fun h75=>?_) (fun h75=>?_)
            ·rw[vg rfl];simp only[uY]
            ·refine tI (u8 i>1) (by simp only[uY]) (fun h76=>?_) (fun h76=>?_)
             ·rw[vg rfl];simp only[uY]
             ·refine tI (¬ u8 t<4) (by simp only[uY];rw[decide_not]) (fun h77=>?_) (fun h77=>?_)
              ·rw[vg rfl];simp only[uY]
              ·refine(ve (r:=[vw (wo (fN f) (nB a1 a0))]) (by simp only[uY,xN];rw[xL,vH,vM]) (by rfl)).trans ?_
               refine tI (wo (fN f) (nB a1 a0)=true) (by simp only[uY];exact(Bool.decide_coe _).symm) (fun h78=>?_) (fun h78=>?_)
               ·refine tI (nB b1 b0=0) (by simp only[uY];exact zB _ _) (fun h79=>?_) (fun h79=>?_)
                ·refine tI (¬ nB c1 c0=0) (by simp only[uY];rw[decide_not];exact congrArg not (zB _ _)) (fun h80=>?_) (fun h80=>?_)
                 ·rw[vg rfl];simp only[uY]
                 ·exfalso;replace h74:=Decidable.not_not.1 h74;replace h75:=Decidable.not_not.1 h75;replace h77:=Decidable.not_not.1 h77;replace h80:=Decidable.not_not.1 h80;revert hb;simp[vV,h73,h74,h75,h76,h77,h78,h79,h80]
                ·rw[vg rfl];simp only[uY]
               ·rw[vg rfl];simp only[uY]
          ·refine tI (u8 o=11) (by simp only[uY];rfl) (fun h81=>?_) (fun h81=>?_)
           ·refine tI (¬ u8 f<4) (by simp only[uY];rw[decide_not]) (fun h82=>?_) (fun h82=>?_)
            ·rw[vg rfl];simp only[uY]
            ·refine tI (¬ u8 m≤4) (by simp only[uY];rw[decide_not]) (fun h83=>?_) (fun h83=>?_)
             ·rw[vg rfl];simp only[uY]
             ·refine tI (u8 i>1) (by simp only[uY]) (fun h84=>?_) (fun h84=>?_)
              ·rw[vg rfl];simp only[uY]
              ·refine tI (¬ u8 t<4) (by simp only[uY];rw[decide_not]) (fun h85=>?_) (fun h85=>?_)
               ·rw[vg rfl];simp only[uY]
               ·refine(ve (r:=[vw (wo (fN f) (nB a1 a0))]) (by simp only[uY,xN];rw[xL,vH,vM]) (by rfl)).trans ?_
                refine tI (wo (fN f) (nB a1 a0)=true) (by simp only[uY];exact(Bool.decide_coe _).symm) (fun h86=>?_) (fun h86=>?_)
                ·refine tI (nB b1 b0=0) (by simp only[uY];exact zB _ _) (fun h87=>?_) (fun h87=>?_)
                 ·refine tI (¬ nB c1 c0=0) (by simp only[uY];rw[decide_not];exact congrArg not (zB _ _)) (fun h88=>?_) (fun h88=>?_)
                  ·rw[vg rfl];simp only[uY]
                  ·exfalso;replace h82:=Decidable.not_not.1 h82;replace h83:=Decidable.not_not.1 h83;replace h85:=Decidable.not_not.1 h85;replace h88:=Decidable.not_not.1 h88;revert hb;simp[vV,h81,h82,h83,h84,h85,h86,h87,h88]
                 ·rw[vg rfl];simp only[uY]
                ·rw[vg rfl];simp only[uY]
           ·refine tI (u8 o=12) (by simp only[uY];rfl) (fun h89=>?_) (fun h89=>?_)
            ·refine tI (¬ u8 f<4) (by simp only[uY];rw[decide_not]) (fun h90=>?_) (fun h90=>?_)
             ·rw[vg rfl];simp only[uY]
             ·refine tI (¬ u8 m≤4) (by simp only[uY];rw[decide_not]) (fun h91=>?_) (fun h91=>?_)
              ·rw[vg rfl];simp only[uY]
              ·refine tI (u8 i>1) (by simp only[uY]) (fun h92=>?_) (fun h92=>?_)
               ·rw[vg rfl];simp only[uY]
               ·refine tI (¬ u8 t<4) (by simp only[uY];rw[decide_not]) (fun h93=>?_) (fun h93=>?_)
                ·rw[vg rfl];simp only[uY]
                ·refine tI (u64 a1=0) (by simp only[uY];rfl) (fun h94=>?_) (fun h94=>?_)
                 ·refine(ve (r:=[vw (ER (fN t) (u64 a0).toNat)]) (by simp only[uY,aht];rw[af5,vH,zV]) (by rfl)).trans ?_
                  refine tI (ER (fN t) (u64 a0).toNat=true) (by simp only[uY];exact(Bool.decide_coe _).symm) (fun h95=>?_) (fun h95=>?_)
                  ·refine tI (nB b1 b0=0) (by simp only[uY];exact zB _ _) (fun h96=>?_) (fun h96=>?_)
                   ·refine tI (¬ nB c1 c0=0) (by simp only[uY];rw[decide_not];exact congrArg not (zB _ _)) (fun h97=>?_) (fun h97=>?_)
                    ·rw[vg rfl];simp only[uY]
                    ·exfalso;replace h90:=Decidable.not_not.1 h90;replace h91:=Decidable.not_not.1 h91;replace h93:=Decidable.not_not.1 h93;replace h97:=Decidable.not_not.1 h97;revert hb;simp[vV,h89,h90,h91,h92,h93,h94,h95,h96,h97]
                   ·rw[vg rfl];simp only[uY]
                  ·rw[vg rfl];simp only[uY]
                 ·rw[vg rfl];simp only[uY]
            ·refine tI (u8 o=13) (by simp only[uY];rfl) (fun h98=>?_) (fun h98=>?_)
             ·refine tI (¬ u8 f<4) (by simp only[uY];rw[decide_not]) (fun h99=>?_) (fun h99=>?_)
              ·rw[vg rfl];simp only[uY]
              ·refine tI (¬ u8 m≤4) (by simp only[uY];rw[decide_not]) (fun h100=>?_) (fun h100=>?_)
               ·rw[vg rfl];simp only[uY]
               ·refine tI (u8 i>1) (by simp only[uY]) (fun h101=>?_) (fun h101=>?_)
                ·rw[vg rfl];simp only[uY]
                ·refine tI (¬ u8 t=0) (by simp only[uY];rw[decide_not];rfl) (fun h102=>?_) (fun h102=>?_)
                 ·rw[vg rfl];simp only[uY]
                 ·refine(ve (r:=[vw (wo (fN f) (nB a1 a0))]) (by simp only[uY,xN];rw[xL,vH,vM]) (by rfl)).trans ?_
                  refine tI (wo (fN f) (nB a1 a0)=true) (by simp only[uY];exact(Bool.decide_coe _).symm) (fun h103=>?_) (fun h103=>?_)
                  ·refine(ve (r:=[vw (wo (fN f) (nB b1 b0))]) (by simp only[uY,xN];rw[xL,vH,vM]) (by rfl)).trans ?_
                   refine tI (wo (fN f) (nB b1 b0)=true) (by simp only[uY];exact(Bool.decide_coe _).symm) (fun h104=>?_) (fun h104=>?_)
                   ·refine tI (¬ nB c1 c0=0) (by simp only[uY];rw[decide_not];exact congrArg not (zB _ _)) (fun h105=>?_) (fun h105=>?_)
                    ·rw[vg rfl];simp only[uY]
                    ·exfalso;replace h99:=Decidable.not_not.1 h99;replace h100:=Decidable.not_not.1 h100;replace h102:=Decidable.not_not.1 h102;replace h105:=Decidable.not_not.1 h105;revert hb;simp[vV,h98,h99,h100,h101,h102,h103,h104,h105]
                   ·rw[vg rfl];simp only[uY]
                  ·rw[vg rfl];simp only[uY]
             ·refine tI (u8 o=14) (by simp only[uY];rfl) (fun h106=>?_) (fun h106=>?_)
              ·refine tI (¬ u8 f<4) (by simp only[uY];rw[decide_not]) (fun h107=>?_) (fun h107=>?_)
               ·rw[vg rfl];simp only[uY]
               ·refine tI (¬ u8 m≤4) (by simp only[uY];rw[decide_not]) (fun h108=>?_) (fun h108=>?_)
                ·rw[vg rfl];simp only[uY]
                ·refine tI (u8 i>1) (by simp only[uY]) (fun h109=>?_) (fun h109=>?_)
                 ·rw[vg rfl];simp only[uY]
                 ·refine tI (¬ u8 t=0) (by simp only[uY];rw[decide_not];rfl) (fun h110=>?_) (fun h110=>?_)
                  ·rw[vg rfl];simp only[uY]
                  ·refine(ve (r:=[vw (wo (fN f) (nB a1 a0))]) (by simp only[uY,xN];rw[xL,vH,vM]) (by rfl)).trans ?_
                   refine tI (wo (fN f) (nB a1 a0)=true) (by simp only[uY];exact(Bool.decide_coe _).symm) (fun h111=>?_) (fun h111=>?_)
                   ·refine(ve (r:=[vw (wo (fN f) (nB b1 b0))]) (by simp only[uY,xN];rw[xL,vH,vM]) (by rfl)).trans ?_
                    refine tI (wo (fN f) (nB b1 b0)=true) (by simp only[uY];exact(Bool.decide_coe _).symm) (fun h112=>?_) (fun h112=>?_)
                    ·refine tI (¬ nB c1 c0=0) (by simp only[uY];rw[decide_not];exact congrArg not (zB _ _)) (fun h113=>?_) (fun h113=>?_)
                     ·rw[vg rfl];simp only[uY]
                     ·exfalso;replace h107:=Decidable.not_not.1 h107;replace h108:=Decidable.not_not.1 h108;replace h110:=Decidable.not_not.1 h110;replace h113:=Decidable.not_not.1 h113;revert hb;simp[vV,h106,h107,h108,h109,h110,h111,h112,h113]
                    ·rw[vg rfl];simp only[uY]
                   ·rw[vg rfl];simp only[uY]
              ·rw[vg rfl];simp only[uY]
end Go.Proofs.YtemomocmfggiaaaGreatDoor
