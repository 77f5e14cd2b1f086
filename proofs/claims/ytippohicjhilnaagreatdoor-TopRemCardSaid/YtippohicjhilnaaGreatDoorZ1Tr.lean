import Derived.Test.YtippohicjhilnaaGreatDoorZETr
import Derived.Test.YtippohicjhilnaaGreatDoorZGTr
import Derived.Test.YtippohicjhilnaaGreatDoorZQTr
set_option linter.unusedSimpArgs false
set_option linter.unusedVariables false
set_option maxRecDepth 100000
namespace Go.Proofs.YtippohicjhilnaaGreatDoor
open Go.RowKit
theorem tI {Φ:wH} {ct:Ct} {c:X} {a b:tL SV} {l r:List Int} (p:Prop) [Decidable p] (hc:uk (c.ev l)=decide p) (ht:p->uq Φ ct a l=r) (hf:¬ p->uq Φ ct b l=r):uq Φ ct (.ite c a b) l=r:=by
 rw[uU,hc];by_cases h:p
 ·rw[decide_eq_true h,if_pos rfl];exact ht h
 ·rw[decide_eq_false h,if_neg Bool.false_ne_true];exact hf h
theorem tT {Φ:wH} {ct:Ct} {c:X} {a b:tL SV} {l r:List Int} (hc:uk (c.ev l)=true) (h:uq Φ ct a l=r):uq Φ ct (.ite c a b) l=r:=by rw[uU,if_pos hc];exact h
theorem tF {Φ:wH} {ct:Ct} {c:X} {a b:tL SV} {l r:List Int} (hc:uk (c.ev l)=false) (h:uq Φ ct b l=r):uq Φ ct (.ite c a b) l=r:=by rw[uU,hc,if_neg Bool.false_ne_true];exact h
theorem ar5 {f:Int} (hf:fN f<4):Lv [u8 f] = [wd (Dt (fN f)) 1,wd (Dt (fN f)) 0]:=by rw[ao4,uD,if_pos hf,uV];rfl
theorem aaP {f:Int} (hf:fN f<4):(!decide (u8 f<4))=false:=by rw[decide_eq_true ((Ju f).2 hf)];rfl
theorem ar6 {m:Int} (hm:u8 m<=4):(!decide (u8 m<=4))=false:=by rw[decide_eq_true hm];rfl
theorem ahq {f:Int} (hf:fN f<4) (x y:Int) (h:4<=uf (fN f) (nB x y)):LB [u8 f,u64 x,u64 y] = [wd (Bz (fN f) (nB x y)) 1,wd (Bz (fN f) (nB x y)) 0]:=by
 have hf3:fN (u8 f)<4:=by rw[uD];exact hf
 rw[apd _ _ _ hf3 (by rw[uD,vQ];exact h),uD,vQ,uV];rfl
theorem ar7 (f i a1 a0 b1 b0:Int) (hf:fN f<4):FB [f,i,a1,a0,b1,b0]=if 4<=uf (fN f) (nB a1 a0) then [wd (Bz (fN f) (nB a1 a0)) 1,wd (Bz (fN f) (nB a1 a0)) 0,(if uk i=true\/uf (fN f) (nB a1 a0)=5\/uf (fN f) (nB b1 b0)=5 then(1:Int) else 0),1] else if 4<=uf (fN f) (nB b1 b0) then [wd (Bz (fN f) (nB b1 b0)) 1,wd (Bz (fN f) (nB b1 b0)) 0,(if uk i=true\/uf (fN f) (nB a1 a0)=5\/uf (fN f) (nB b1 b0)=5 then(1:Int) else 0),1] else if uk i=true then [wd (Dt (fN f)) 1,wd (Dt (fN f)) 0,1,1] else [0,0,0,0]:=by
 have dflt:=ar5 hf;have known:=aaP hf;have nanA:BC [u8 f,u64 a1,u64 a0] = [ui (decide (4<=uf (fN f) (nB a1 a0)))]:=by rw[NL,uD,vQ]
 have sigA:JR [u8 f,u64 a1,u64 a0] = [ui (decide (uf (fN f) (nB a1 a0)=5))]:=by rw[afO,uD,vQ]
 have quA:=ahq hf a1 a0;have nanB:BC [u8 f,u64 b1,u64 b0] = [ui (decide (4<=uf (fN f) (nB b1 b0)))]:=by rw[NL,uD,vQ]
 have sigB:JR [u8 f,u64 b1,u64 b0] = [ui (decide (uf (fN f) (nB b1 b0)=5))]:=by rw[afO,uD,vQ]
 have quB:=ahq hf b1 b0;rw[FB,abM];refine(tX (r:=[ui (decide (4<=uf (fN f) (nB a1 a0)))]) (by simp only[tK,aig];exact nanA) (by rfl)).trans ?_;refine tI (4<=uf (fN f) (nB a1 a0)) (by simp only[tK]) (λh1=>?_) (λh1=>?_)
 ·refine tF (by simp only[tK];exact known) ?_;refine(tX (r:=[wd (Dt (fN f)) 1,wd (Dt (fN f)) 0]) (by simp only[tK,abN];exact dflt) (by rfl)).trans ?_;refine(tX (r:=[wd (Bz (fN f) (nB a1 a0)) 1,wd (Bz (fN f) (nB a1 a0)) 0]) (by simp only[tK,aih];exact quA h1) (by rfl)).trans ?_;refine tI (uk i=true) (by simp only[tK];exact(Bool.decide_coe _).symm) (λh2=>?_) (λh2=>?_)
  ·first|(exfalso;omega)|(rw[uj rfl];simp only[tK];simp only[h1,h2,eq_self,Bool.false_eq_true,Nat.reduceLeDiff,Nat.reduceEqDiff,if_true,if_false,or_true,true_or,or_false,false_or,or_self,not_true_eq_false,not_false_eq_true,vK,vL,uV,decide_true,decide_false])
  ·refine(tX (r:=[ui (decide (uf (fN f) (nB a1 a0)=5))]) (by simp only[tK,VS];exact sigA) (by rfl)).trans ?_;refine tI (uf (fN f) (nB a1 a0)=5) (by simp only[tK]) (λh3=>?_) (λh3=>?_)
   ·first|(exfalso;omega)|(rw[uj rfl];simp only[tK];simp only[h1,h2,h3,eq_self,Bool.false_eq_true,Nat.reduceLeDiff,Nat.reduceEqDiff,if_true,if_false,or_true,true_or,or_false,false_or,or_self,not_true_eq_false,not_false_eq_true,vK,vL,uV,decide_true,decide_false])
   ·refine(tX (r:=[ui (decide (uf (fN f) (nB b1 b0)=5))]) (by simp only[tK,VS];exact sigB) (by rfl)).trans ?_;refine tI (uf (fN f) (nB b1 b0)=5) (by simp only[tK]) (λh4=>?_) (λh4=>?_)
    ·first|(exfalso;omega)|(rw[uj rfl];simp only[tK];simp only[h1,h2,h3,h4,eq_self,Bool.false_eq_true,Nat.reduceLeDiff,Nat.reduceEqDiff,if_true,if_false,or_true,true_or,or_false,false_or,or_self,not_true_eq_false,not_false_eq_true,vK,vL,uV,decide_true,decide_false])
    ·first|(exfalso;omega)|(rw[uj rfl];simp only[tK];simp only[h1,h2,h3,h4,eq_self,Bool.false_eq_true,Nat.reduceLeDiff,Nat.reduceEqDiff,if_true,if_false,or_true,true_or,or_false,false_or,or_self,not_true_eq_false,not_false_eq_true,vK,vL,uV,decide_true,decide_false])
 ·refine(tX (r:=[ui (decide (4<=uf (fN f) (nB b1 b0)))]) (by simp only[tK,aig];exact nanB) (by rfl)).trans ?_;refine tI (4<=uf (fN f) (nB b1 b0)) (by simp only[tK]) (λh5=>?_) (λh5=>?_)
  ·refine tF (by simp only[tK];exact known) ?_;refine(tX (r:=[wd (Dt (fN f)) 1,wd (Dt (fN f)) 0]) (by simp only[tK,abN];exact dflt) (by rfl)).trans ?_;refine(tX (r:=[wd (Bz (fN f) (nB b1 b0)) 1,wd (Bz (fN f) (nB b1 b0)) 0]) (by simp only[tK,aih];exact quB h5) (by rfl)).trans ?_;refine tI (uk i=true) (by simp only[tK];exact(Bool.decide_coe _).symm) (λh6=>?_) (λh6=>?_)
   ·first|(exfalso;omega)|(rw[uj rfl];simp only[tK];simp only[h1,h5,h6,eq_self,Bool.false_eq_true,Nat.reduceLeDiff,Nat.reduceEqDiff,if_true,if_false,or_true,true_or,or_false,false_or,or_self,not_true_eq_false,not_false_eq_true,vK,vL,uV,decide_true,decide_false])
   ·refine(tX (r:=[ui (decide (uf (fN f) (nB a1 a0)=5))]) (by simp only[tK,VS];exact sigA) (by rfl)).trans ?_;refine tI (uf (fN f) (nB a1 a0)=5) (by simp only[tK]) (λh7=>?_) (λh7=>?_)
    ·first|(exfalso;omega)|(rw[uj rfl];simp only[tK];simp only[h1,h5,h6,h7,eq_self,Bool.false_eq_true,Nat.reduceLeDiff,Nat.reduceEqDiff,if_true,if_false,or_true,true_or,or_false,false_or,or_self,not_true_eq_false,not_false_eq_true,vK,vL,uV,decide_true,decide_false])
    ·refine(tX (r:=[ui (decide (uf (fN f) (nB b1 b0)=5))]) (by simp only[tK,VS];exact sigB) (by rfl)).trans ?_;refine tI (uf (fN f) (nB b1 b0)=5) (by simp only[tK]) (λh8=>?_) (λh8=>?_)
     ·first|(exfalso;omega)|(rw[uj rfl];simp only[tK];simp only[h1,h5,h6,h7,h8,eq_self,Bool.false_eq_true,Nat.reduceLeDiff,Nat.reduceEqDiff,if_true,if_false,or_true,true_or,or_false,false_or,or_self,not_true_eq_false,not_false_eq_true,vK,vL,uV,decide_true,decide_false])
     ·first|(exfalso;omega)|(rw[uj rfl];simp only[tK];simp only[h1,h5,h6,h7,h8,eq_self,Bool.false_eq_true,Nat.reduceLeDiff,Nat.reduceEqDiff,if_true,if_false,or_true,true_or,or_false,false_or,or_self,not_true_eq_false,not_false_eq_true,vK,vL,uV,decide_true,decide_false])
  ·refine tF (by simp only[tK];exact known) ?_;refine tI (¬ uk i=true) (by simp only[tK];cases uk i<;>rfl) (λh9=>?_) (λh9=>?_)
   ·first|(exfalso;omega)|(rw[uj rfl];simp only[tK];simp only[h1,h5,h9,eq_self,Bool.false_eq_true,Nat.reduceLeDiff,Nat.reduceEqDiff,if_true,if_false,or_true,true_or,or_false,false_or,or_self,not_true_eq_false,not_false_eq_true,vK,vL,uV,decide_true,decide_false])
   ·refine(tX (r:=[wd (Dt (fN f)) 1,wd (Dt (fN f)) 0]) (by simp only[tK,abN];exact dflt) (by rfl)).trans ?_;first|(exfalso;omega)|(replace h9:=Decidable.not_not.1 h9;rw[uj rfl];simp only[tK];simp only[h1,h5,h9,eq_self,Bool.false_eq_true,Nat.reduceLeDiff,Nat.reduceEqDiff,if_true,if_false,or_true,true_or,or_false,false_or,or_self,not_true_eq_false,not_false_eq_true,vK,vL,uV,decide_true,decide_false])
theorem ahr (x y:Nat):((x:Int)==(y:Int))=decide (x=y):=by rw[Bool.eq_iff_iff,beq_iff_eq,decide_eq_true_iff];omega
theorem Ou (x k:Nat):((x:Int)==(k:Int))=decide (x=k):=ahr x k
theorem VE (x:Nat):((x:Int)==0)=decide (x=0):=ahr x 0
def xP (f:Nat) (j:Bool) (a b:Nat):Nat:=if 4<=uf f a then Bz f a else if 4<=uf f b then Bz f b else if j=true then Dt f else 0
def yK (f:Nat) (j:Bool) (a b:Nat):Nat:=if 4<=uf f a\/4<=uf f b then(if j=true\/uf f a=5\/uf f b=5 then 1 else 0) else if j=true then 1 else 0
def wG (f:Nat) (j:Bool) (a b:Nat):Bool:=decide (4<=uf f a)||(decide (4<=uf f b)||j)
theorem ar8 (i:Nat):wd 0 i=0:=by unfold wd;rw[Nat.zero_div,Nat.zero_mod];rfl
theorem ahs (f:Nat) (j:Bool) (a b:Nat):yK f j a b<=1:=by unfold yK;split<;>split<;>decide
theorem aht (f i a1 a0 b1 b0:Int) (hf:fN f<4):FB [f,i,a1,a0,b1,b0] = [wd (xP (fN f) (uk i) (nB a1 a0) (nB b1 b0)) 1,wd (xP (fN f) (uk i) (nB a1 a0) (nB b1 b0)) 0,((yK (fN f) (uk i) (nB a1 a0) (nB b1 b0):Nat):Int),ui (wG (fN f) (uk i) (nB a1 a0) (nB b1 b0))]:=by
 rw[ar7 _ _ _ _ _ _ hf];unfold xP yK wG;by_cases h1:4<=uf (fN f) (nB a1 a0)
 ·simp only[h1,if_true,decide_true,Bool.true_or,true_or];split<;>rfl
 ·by_cases h2:4<=uf (fN f) (nB b1 b0)
  ·simp only[h1,h2,if_true,if_false,decide_true,decide_false,Bool.true_or,Bool.false_or,or_true];split<;>rfl
  ·cases hi:uk i with
   | true=>simp only[h1,h2,if_true,if_false,decide_false,Bool.false_or,or_self];rfl
   | false=>simp only[h1,h2,if_false,decide_false,Bool.false_or,or_self,Bool.false_eq_true,ar8];rfl
theorem Ov {f a:Nat} (hf:f<4) (h:uf f a=1\/uf f a=2):2^127<=wI f a/\wI f a=FP.unSig f (FP.cod f a)/\uS f a=FP.unExp f (FP.cod f a)/\0<FP.cod f a/\FP.cod f a<FP.inf f:=by obtain⟨h1,h2,h3⟩:=Vi hf (show uf f a<3 by omega);have h0:0<FP.cod f a:=Nat.pos_of_ne_zero (h3.1 h);unfold wI uS;rw[if_pos h,if_pos h];exact⟨(FP.un_sig hf h0 h1).1,rfl,rfl,h0,h1⟩
theorem VF (p:Nat×Nat):oR p = [wd p.1 1,wd p.1 0,(p.2:Int)]:=by obtain⟨a,b⟩:=p;exact ape a b
def vN (x y:Nat):Int:=if x<y then -1 else if y<x then 1 else 0
theorem aaQ (a b c d:Int):H8 [a,b,c,d] = [vN (nB a b) (nB c d)]:=by
 obtain⟨n,hn,e,h1,h0⟩:=Ce a b;obtain⟨m,hm,f,k1,k0⟩:=Ce c d;rw[H8,abl,uj rfl,e,f];simp only[tK,h1,h0,k1,k0]
 have e1:wd n 1=((n/tV:Nat):Int):=by unfold wd;rw[Nat.pow_one,Nat.mod_eq_of_lt (Nat.div_lt_of_lt_mul (show n<tV*tV from hn))]
 have e0:wd n 0=((n%tV:Nat):Int):=by unfold wd;rw[Nat.pow_zero,Nat.div_one]
 have f1:wd m 1=((m/tV:Nat):Int):=by unfold wd;rw[Nat.pow_one,Nat.mod_eq_of_lt (Nat.div_lt_of_lt_mul (show m<tV*tV from hm))]
 have f0:wd m 0=((m%tV:Nat):Int):=by unfold wd;rw[Nat.pow_zero,Nat.div_one]
 rw[e1,e0,f1,f0];have dn:=Nat.div_add_mod n tV;have dm:=Nat.div_add_mod m tV;have ln:=Nat.mod_lt n xm;have lm:=Nat.mod_lt m xm;rw[Bb] at *
 generalize n/18446744073709551616=n1 at *
 generalize n%18446744073709551616=n0 at *
 generalize m/18446744073709551616=m1 at *
 generalize m%18446744073709551616=m0 at *
 congr 1;unfold vN;simp only[bne_self_eq_false,Bool.false_eq_true,if_false,decide_eq_true_iff,bne_iff_ne,ne_eq,gt_iff_lt];clear h1 h0 k1 k0 e f;have r1:((n1:Int)<(m1:Int))↔n1<m1:=Int.ofNat_lt;have r2:((m1:Int)<(n1:Int))↔m1<n1:=Int.ofNat_lt;have r3:((n0:Int)<(m0:Int))↔n0<m0:=Int.ofNat_lt;have r4:((m0:Int)<(n0:Int))↔m0<n0:=Int.ofNat_lt;simp only[r1,r2,r3,r4];by_cases c1:n1<m1
 ·rw[if_pos c1,if_pos (by decide),if_pos (by omega)]
 rw[if_neg c1];by_cases c2:m1<n1
 ·rw[if_pos c2,if_pos (by decide),if_neg (by omega),if_pos (by omega)]
 rw[if_neg c2,if_neg (by decide)];by_cases c3:n0<m0
 ·rw[if_pos c3,if_pos (by decide),if_pos (by omega)]
 rw[if_neg c3];by_cases c4:m0<n0
 ·rw[if_pos c4,if_pos (by decide),if_neg (by omega),if_pos (by omega)]
 rw[if_neg c4,if_neg (by decide),if_neg (by omega),if_neg (by omega)]
theorem ar9 {n i:Nat} (hi:i<2):wd (n+uh) i=wd n i:=by
 unfold wd;rcases(show i=0\/i=1 by omega) with rfl|rfl
 ·rw[Nat.pow_zero,Nat.div_one,Nat.div_one,show uh=tV*tV from rfl,Nat.add_mul_mod_self_left]
 ·rw[Nat.pow_one,show uh=tV*tV from rfl,Nat.add_mul_div_left _ _ xm,Nat.add_mod_right]
theorem Gj {p q i:Nat} (h:q<=p) (hi:i<2):wd (p+uh-q) i=wd (p-q) i:=by rw[show p+uh-q=(p-q)+uh by omega];exact ar9 hi
theorem asa {n i:Nat} (hi:i<4):wd (n+uu) i=wd n i:=by
 unfold wd
 have e:uu=tV^i*(tV*tV^(3-i)):=by rcases(show i=0\/i=1\/i=2\/i=3 by omega) with rfl|rfl|rfl|rfl<;>decide
 rw[e,Nat.add_mul_div_left _ _ (Nat.pow_pos xm),Nat.add_mul_mod_self_left]
theorem VG {p q i:Nat} (h:q<=p) (hi:i<4):wd (p+uu-q) i=wd (p-q) i:=by rw[show p+uu-q=(p-q)+uu by omega];exact asa hi
theorem ahu {p q:Nat} (hp:p<uh) (hq:q<uh):Gn [wd p 1,wd p 0,wd q 1,wd q 0] = [wd (p+uh-q) 1,wd (p+uh-q) 0,ui (decide (p<q))]:=by rw[afx,vv hp,vv hq]
theorem VH {p q:Nat} (hp:p<uh) (h:q<=p):Gn [wd p 1,wd p 0,wd q 1,wd q 0] = [wd (p-q) 1,wd (p-q) 0,0]:=by rw[ahu hp (by omega),Gj h (by decide),Gj h (by decide),decide_eq_false (by omega)];rfl
theorem Ow {p q:Nat} (hp:p<uh) (hq:q<uh):H8 [wd p 1,wd p 0,wd q 1,wd q 0] = [vN p q]:=by rw[aaQ,vv hp,vv hq]
theorem Bd {p:Nat} (hp:p<uh):Ll [wd p 1,wd p 0] = [wd p 0,wd p 1,wd p 2,wd p 3]:=by rw[aoO,vv hp,yI]
theorem Eu {p:Nat} (hp:p<uu):Ci [wd p 0,wd p 1,wd p 2,wd p 3] = [ui (decide (p=0))]:=by rw[afy,yA hp]
theorem VI (l:List Int) (i:Nat):w4 l i=nW (ul l i) (ul l (i+1)) (ul l (i+2)) (ul l (i+3)):=by unfold w4 nW;generalize (u64 (ul l i)).toNat=a;generalize (u64 (ul l (i+1))).toNat=b;generalize (u64 (ul l (i+2))).toNat=c;generalize (u64 (ul l (i+3))).toNat=d;rfl
theorem aaR {p q:Nat} (hp:p<uu) (h:q<=p):Gc [wd p 0,wd p 1,wd p 2,wd p 3,wd q 0,wd q 1,wd q 2,wd q 3] = [wd (p-q) 0,wd (p-q) 1,wd (p-q) 2,wd (p-q) 3,0]:=by
 have e1:w4 [wd p 0,wd p 1,wd p 2,wd p 3,wd q 0,wd q 1,wd q 2,wd q 3] 0=p:=by rw[VI];exact yA hp
 have e2:w4 [wd p 0,wd p 1,wd p 2,wd p 3,wd q 0,wd q 1,wd q 2,wd q 3] 4=q:=by rw[VI];exact yA (by omega)
 have hb:Nat.blt p q=false:=by rw[Bool.eq_false_iff];intro h2;rw[Nat.blt_eq] at h2;omega
 rw[Gc,e1,e2,hb,RS,VG h (by decide),VG h (by decide),VG h (by decide),VG h (by decide)];rfl
theorem ahv {p q:Nat} (h:p+q<uu):En [wd p 0,wd p 1,wd p 2,wd p 3,wd q 0,wd q 1,wd q 2,wd q 3] = [wd (p+q) 0,wd (p+q) 1,wd (p+q) 2,wd (p+q) 3,0]:=by
 have e1:w4 [wd p 0,wd p 1,wd p 2,wd p 3,wd q 0,wd q 1,wd q 2,wd q 3] 0=p:=by rw[VI];exact yA (by omega)
 have e2:w4 [wd p 0,wd p 1,wd p 2,wd p 3,wd q 0,wd q 1,wd q 2,wd q 3] 4=q:=by rw[VI];exact yA (by omega)
 have hb:Nat.ble uu (p+q)=false:=by rw[Bool.eq_false_iff];intro h2;have:=Nat.le_of_ble_eq_true h2;omega
 rw[En,e1,e2,hb,RS];rfl
theorem R6 {p q:Nat} : decide (vN p q>0)=decide (q<p):=by
 rw[decide_eq_decide];unfold vN;by_cases h1:p<q
 ·rw[if_pos h1];omega
 ·rw[if_neg h1];by_cases h2:q<p
  ·rw[if_pos h2];omega
  ·rw[if_neg h2];omega
theorem Ox {p q:Nat} : (vN p q==0)=decide (p=q):=by
 rw[Bool.eq_iff_iff,beq_iff_eq,decide_eq_true_iff];unfold vN;by_cases h1:p<q
 ·rw[if_pos h1];omega
 ·rw[if_neg h1];by_cases h2:q<p
  ·rw[if_pos h2];omega
  ·rw[if_neg h2];omega
theorem BB (p q:Nat):i64 (vN p q)=vN p q:=by
 unfold vN;by_cases h1:p<q
 ·rw[if_pos h1];rfl
 ·rw[if_neg h1];by_cases h2:q<p
  ·rw[if_pos h2];rfl
  ·rw[if_neg h2];rfl
end Go.Proofs.YtippohicjhilnaaGreatDoor
