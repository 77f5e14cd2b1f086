import Derived.Test.YtippohicjhilnaaGreatDoorWGTr
import Derived.Test.YtippohicjhilnaaGreatDoorWHTr
import Derived.Test.YtippohicjhilnaaGreatDoorZKTr
set_option linter.unusedSimpArgs false
set_option linter.unusedVariables false
set_option maxRecDepth 100000
namespace Go.Proofs.YtippohicjhilnaaGreatDoor
open Go.RowKit
theorem akC {f:Nat} (hf:f<4) (c:Nat):FP.vM f c<2^200:=by
 have hH:=FP.two_pow_pos (FP.fP f-1);have hm:=Nat.mod_lt c hH;have h1:2^(FP.fP f-1)<=2^128:=Nat.pow_le_pow_right (by decide) (by have:=FP.fP_le hf;omega);have h2:(2:Nat)^128+2^128<=2^200:=by decide
 unfold FP.vM;generalize (2:Nat)^(FP.fP f-1)=H at *
 generalize (2:Nat)^128=K at *
 generalize (2:Nat)^200=Z at *
 split<;>omega
theorem azr (a b:Nat):decide (zC a b<0)=decide (a<b):=by
 rw[decide_eq_decide];unfold zC;split
 ·omega
 ·split<;>omega
theorem azs {s t E F ε φ:Int} {M K j:Nat} (hM:M<2^j) (hK:K<2^j) (hj:j<=1000000) (hE:i64 E=ε) (hF:i64 F=φ) (e1 : -40000<=ε) (e2:ε<=40000) (f1 : -40000<=φ) (f2:φ<=40000) :
  Mg [s,(M:Int),E,t,(K:Int),F] = [ui (decide (M*2^(ε-min ε φ).toNat<K*2^(φ-min ε φ).toNat))]:=by
 rw[Mg,acT];obtain⟨x,hx⟩:∃ x:Nat,ε-min ε φ=(x:Int):=⟨(ε-min ε φ).toNat,by omega⟩;obtain⟨y,hy⟩:∃ y:Nat,φ-min ε φ=(y:Int):=⟨(φ-min ε φ).toNat,by omega⟩;refine(wZ (r:=[((M*2^x:Nat):Int)]) (by simp only[uZ,akB];exact Vx hM (by omega) (by rw[hE,hF,hx,vJ];exact wD (by omega)) (by omega)) (by rfl)).trans ?_;refine(wZ (r:=[((K*2^y:Nat):Int)]) (by simp only[uZ,akB];exact Vx hK (by omega) (by rw[hE,hF,hy,vJ];exact wD (by omega)) (by omega)) (by rfl)).trans ?_;have hA:M*2^x<2^(j+x):=agS hM;have hB:K*2^y<2^(j+y):=agS hK;rw[show(ε-min ε φ).toNat=x by omega,show(φ-min ε φ).toNat=y by omega];generalize M*2^x=A at *
 generalize K*2^y=B at *
 refine(wZ (r:=[zC A B]) (by simp only[uZ,azp];exact arf hA hB (by omega) (by omega)) (by rfl)).trans ?_;rw[JF rfl];simp only[uZ];rw[arq,azr]
theorem akD {f a b:Int} (hf:fN f<4):Qu [f,a,b] = [ui (!decide (uf (fN f) (nB a b)<3))]:=by rw[Qu,acU];refine(tX (r:=[ui (decide (uf (fN f) (nB a b)<3))]) (by simp only[tK,azq];rw[ao0,uD,vQ,decide_eq_true hf,Bool.true_and]) (by rfl)).trans ?_;rw[uj rfl];simp only[tK]
theorem xC {α:Type} (a b c:List α):(a++b)++c=a++(b++c):=by rw[List.append_assoc]
theorem gPn {x:Nat} : ∀ {p:List Int},p.length=x->∀ (r:List Int) (j:Nat),ul (p++r) (x+j)=ul r j
 | [],h,r,j=>by subst h;rw[List.nil_append,List.length_nil,Nat.zero_add]
 | a::p,h,r,j=>by subst h;rw[List.cons_append,List.length_cons,Nat.add_right_comm,vV];exact gPn rfl r j
theorem azt {s t E F ε φ:Int} {M K j:Nat} (u:Nat) (hM:M<2^j) (hK:K<2^j) (hj:j<=1000000) (hE:i64 E=ε) (hF:i64 F=φ) (e1 : -40000<=ε) (e2:ε<=40000) (f1 : -40000<=φ) (f2:φ<=40000) (h1:0<=ε+(u:Int)) (h2:0<=φ+(u:Int)) :
  Mg [s,(M:Int),E,t,(K:Int),F] = [ui (decide (FP.mg u M ε<FP.mg u K φ))]:=by
 have h:decide (M*2^(ε-min ε φ).toNat<K*2^(φ-min ε φ).toNat)=decide (FP.mg u M ε<FP.mg u K φ):=by rw[decide_eq_decide];exact FP.mg_less h1 h2
 rw[azs hM hK hj hE hF e1 e2 f1 f2,h]
end Go.Proofs.YtippohicjhilnaaGreatDoor
