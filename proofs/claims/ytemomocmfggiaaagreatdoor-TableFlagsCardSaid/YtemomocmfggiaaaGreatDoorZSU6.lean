import Derived.Test.YtemomocmfggiaaaGreatDoorZ4U6
import Derived.Test.YtemomocmfggiaaaGreatDoorZGU6
import Derived.Test.YtemomocmfggiaaaGreatDoorZRU6
import Derived.Test.YtemomocmfggiaaaGreatDoorZVU6
import Derived.Test.YtemomocmfggiaaaGreatDoorZXU6
import Derived.Test.YtemomocmfggiaaaGreatDoorTM1U6
import Derived.Test.YtemomocmfggiaaaGreatDoorP27U6
import Derived.Test.YtemomocmfggiaaaGreatDoorP18U6
import Derived.Test.YtemomocmfggiaaaGreatDoorP22U6
set_option linter.unusedSimpArgs false
set_option linter.unusedVariables false
set_option maxRecDepth 100000
set_option maxHeartbeats 4000000
namespace Go.Proofs.YtemomocmfggiaaaGreatDoor
open Go.RowKit
theorem afH {f b:Nat} (hf:f<4) (h:uZ f b=3):FP.cod f b=FP.inf f:=by
 unfold uZ at h
 rw[if_pos hf] at h
 exact FP.clsC_inf.1 h
theorem afI (f m x a1 a0:Int) (hf:fN f<4) (hm:u8 m≤4):PL [f,m,x,a1,a0]=oR (BS (fN f) (u8 m).toNat (vG x) (nB a1 a0)):=by
 have hf3:fN (u8 f)<4:=by rw[vH];exact hf
 have known:=Db hf
 have knownm:=LG hm
 have sg:∀ x,yU (fN f) x=FP.sgn (fN f) x:=fun x=>by unfold yU;rw[decide_eq_true hf,Bool.true_and]
 obtain⟨X0,hx⟩:∃ x,x=wu (fN f) (nB a1 a0):=⟨_,rfl⟩
 obtain⟨ea,hea⟩:∃ e,e=vQ (fN f) (nB a1 a0):=⟨_,rfl⟩
 obtain⟨sA,hsA⟩:∃ s,s=FP.sgn (fN f) (nB a1 a0):=⟨_,rfl⟩
 obtain⟨c,hc⟩:∃ c,c=FP.cod (fN f) (nB a1 a0):=⟨_,rfl⟩
 have ra:=yJ (f:=fN f) (b:=nB a1 a0)
 rw[← hea] at ra
 have xl:X0<vF:=by rw[hx];exact zL _ _
 have iea:i64 ea=ea:=wL (by omega) (by omega)
 have hfm:=FP.fmtN hf
 have unA:yA [u8 f,u64 a1,u64 a0] = [vw sA,((uZ (fN f) (nB a1 a0):Nat):Int),ea,wd X0 1,wd X0 0]:=by
  rw[Bl,vH,vM,sg,vR,hx,hea,hsA];rfl
 have u8A:=Ak (fN f) (nB a1 a0)
 have pk:FW [u8 f,0,u64 a1,u64 a0] = [wd (AB (fN f) false (nB a1 a0)) 1,wd (AB (fN f) false (nB a1 a0)) 0,((Bb (fN f) false (nB a1 a0):Nat):Int),vw (zi (fN f) false (nB a1 a0))]:=by
  rw[aio _ _ _ _ hf3,vH,vM];rfl
 have pkF8:u8 ((Bb (fN f) false (nB a1 a0):Nat):Int)=((Bb (fN f) false (nB a1 a0):Nat):Int):=by
  have:=ain (fN f) false (nB a1 a0)
  exact BP (by omega) (by omega)
 have cuE:Dt [u8 f,u64 a1,u64 a0] = [wd (FP.mk (fN f) sA c) 1,wd (FP.mk (fN f) sA c) 0]:=by
  rw[Ro,vH,vM,← FP.mk_cut hf,vR,hsA,hc]
 have iP:i64 (i64 (FP.fP (fN f):Int)-1)=(FP.fP (fN f):Int)-1:=by rw[wL (n:=(FP.fP (fN f):Int)) (by omega) (by omega)];exact wL (by omega) (by omega)
 obtain⟨X,hX⟩:∃ X,X=X0*vF:=⟨_,rfl⟩
 have joX:yT [wd X0 1,wd X0 0,0,0] = [wd X 0,wd X 1,wd X 2,wd X 3]:=by rw[hX];exact L9 xl
 have Xl:X<vL:=by rw[hX];exact Ee xl
 obtain⟨n,hn⟩:∃ n,n=FP.whN (fN f) (u8 m).toNat sA c:=⟨_,rfl⟩
 obtain⟨r,hr⟩:∃ r,r=FP.rintC (fN f) (u8 m).toNat sA c:=⟨_,rfl⟩
 obtain⟨JX,hJ⟩:∃ J,J=FP.jam X (-ea-1).toNat:=⟨_,rfl⟩
 rw[Am]
 generalize hR:BS (fN f) (u8 m).toNat (vG x) (nB a1 a0)=R
 have hR':=hR
 unfold BS at hR'
 rw[← hsA,← hc] at hR'
 have no_na:¬ zi (fN f) false (nB a1 a0)=true→¬ 4≤uZ (fN f) (nB a1 a0):=fun h=>by
  unfold zi at h
  simpa only[Bool.or_false,decide_eq_true_iff] using h
 have rP:zi (fN f) false (nB a1 a0)=true→R=(AB (fN f) false (nB a1 a0),Bb (fN f) false (nB a1 a0)):=fun h=>by
  have h:4≤uZ (fN f) (nB a1 a0):=by
   unfold zi at h
   simpa only[Bool.or_false,decide_eq_true_iff] using h
  rw[← hR']
  unfold AB Bb
  rw[if_pos h,if_pos h,if_pos h]
  simp only[Bool.false_eq_true,false_or]
 have rZ:¬ zi (fN f) false (nB a1 a0)=true→uZ (fN f) (nB a1 a0)=0→R=(FP.mk (fN f) sA c,0):=fun h h0=>by
  have hz:FP.cod (fN f) (nB a1 a0)=0:=(Bw hf (by omega)).2.1.1 h0
  rw[← hc] at hz
  have hv:FP.val (fN f) 0%2^FP.fU (fN f)=0:=by rw[FP.val_zero,Nat.zero_mod]
  have hi:0<FP.inf (fN f):=by have:=(Bw hf (b:=nB a1 a0) (by omega)).1;omega
  rw[← hR',if_neg (no_na h),if_neg (by omega),hz,FP.rintC_same hf hi hv,if_neg]
  intro h2
  exact FP.whO_iff.1 (Bool.and_eq_true_iff.1 h2).2 hv
 have rI:¬ zi (fN f) false (nB a1 a0)=true→uZ (fN f) (nB a1 a0)=3→R=(FP.mk (fN f) sA c,0):=fun h h3=>by
  rw[← hR',if_neg (no_na h),if_pos h3,hc,afH hf h3]
 obtain⟨Gd,hGd⟩:∃ Gd:Prop,Gd=(uZ (fN f) (nB a1 a0)=1∨uZ (fN f) (nB a1 a0)=2):=⟨_,rfl⟩
 have fin:¬ zi (fN f) false (nB a1 a0)=true→¬ uZ (fN f) (nB a1 a0)=0→¬ uZ (fN f) (nB a1 a0)=3→Gd:=fun h h1 h2=>by
  have:=no_na h
  rw[hGd];omega
 have num:Gd→X0=FP.unSig (fN f) c∧ea=FP.unExp (fN f) c∧0<c∧c<FP.inf (fN f):=fun g=>by
  rw[hGd] at g
  obtain⟨b1,b2,b3,b4,b5⟩:=Co hf g
  rw[hx,hea,hc];exact⟨b2,b3,b4,b5⟩
 have rF:Gd→R=(FP.mk (fN f) sA r,if (vG x&&FP.whO (fN f) c)=true then 16 else 0):=fun g=>by
  rw[hGd] at g
  rw[← hR',if_neg (by omega),if_neg (by omega),hr]
 have rB:Gd→ea≥(FP.fP (fN f):Int)-1→R=(FP.mk (fN f) sA c,0):=fun g h=>by
  obtain⟨g1,g2,g3,g4⟩:=num g
  have hz:=FP.far_whole hf g3 g4 (by rw[← g2];exact h)
  rw[rF g,hr,FP.rintC_same hf g4 hz,if_neg]
  intro h2
  exact FP.whO_iff.1 (Bool.and_eq_true_iff.1 h2).2 hz
 have jaX:ea<0→BO [wd X 0,wd X 1,wd X 2,wd X 3,i64 (i64 (0-ea)-1)] = [wd JX 0,wd JX 1,wd JX 2,wd JX 3]:=fun h=>by
  rw[Rp,xP Xl,wL (n:=0-ea) (by omega) (by omega),xI,wL (by omega) (by omega),show 0-ea-1 = -ea-1 by omega,← hJ,yC]
 have hX2:Gd→X=FP.unSig (fN f) c*2^128:=fun g=>by rw[hX,(num g).1,yn]
 have dec:∀ {p:Prop} [Decidable p],(p↔FP.val (fN f) c%2^FP.fU (fN f)=0)→decide (¬ p)=FP.whO (fN f) c:=fun {p} _ h=>by
  rw[Bool.eq_iff_iff,FP.whO_iff,decide_eq_true_iff,h]
 have cuL:Gd→ea<0→Du [wd JX 0,wd JX 1,wd JX 2,wd JX 3,0,u8 m,vw sA] = [wd n 1,wd n 0,vw (FP.whO (fN f) c)]:=fun g h=>by
  obtain⟨g1,g2,g3,g4⟩:=num g
  obtain⟨w1,w2⟩:=FP.whole_lo (m:=(u8 m).toNat) (neg:=sA) hf g3 g4 (j:=(-ea-1).toNat) (by omega)
  have jl:JX<vL:=by rw[hJ];exact GH Xl
  rw[Lp _ _ _ _ _ _ _ (by decide) (by decide) (by rw[wS];exact hm),wS,vJ,xP jl,show(i64 0).toNat=0 from by decide,hJ,hX2 g,w1,dec w2,hn,vR];rfl
 have cuH:Gd→¬ ea≥(FP.fP (fN f):Int)-1→¬ ea<0→Du [wd X 0,wd X 1,wd X 2,wd X 3,i64 (ea+1),u8 m,vw sA] = [wd n 1,wd n 0,vw (FP.whO (fN f) c)]:=fun g h1 h2=>by
  obtain⟨g1,g2,g3,g4⟩:=num g
  have hk:i64 (ea+1)=ea+1:=wL (by omega) (by omega)
  obtain⟨w1,w2⟩:=FP.whole_hi (m:=(u8 m).toNat) (neg:=sA) hf g3 g4 (k:=(ea+1).toNat) (by omega) (by omega)
  rw[Lp _ _ _ _ _ _ _ (by rw[xI,hk];omega) (by rw[xI,hk];omega) (by rw[wS];exact hm),wS,vJ,xP Xl,xI,hk,hX2 g,w1,dec w2,hn,vR];rfl
 have nl:Gd→¬ ea≥(FP.fP (fN f):Int)-1→n<vF:=fun g h=>by
  obtain⟨g1,g2,g3,g4⟩:=num g
  have:=FP.whN_le (m:=(u8 m).toNat) (neg:=sA) (Nat.le_of_lt (FP.near_lt hf g3 g4 (k:=FP.fP (fN f)-1) (by omega)))
  rw[hn,yn]
  exact Nat.lt_of_le_of_lt this (Nat.pow_lt_pow_right (by decide) (by omega))
 have pkR:Gd→¬ ea≥(FP.fP (fN f):Int)-1→yu [u8 f,4,0,vw sA,255,wd n 0,wd n 1,wd n 2,wd n 3] = [wd (FP.mk (fN f) sA r) 1,wd (FP.mk (fN f) sA r) 0,0]:=fun g h=>by
  obtain⟨g1,g2,g3,g4⟩:=num g
  have hl:n<vL:=Nat.lt_trans (nl g h) air
  rw[GI _ _ _ _ _ _ _ _ _ hf3 (by decide),vH,vJ,show vG 0=false from rfl,show Bu (i64 255)=255 from by decide,show(u8 4).toNat=4 from by decide,xP hl,FP.round_int hf,hn,FP.rint_round hf g4,← hr,vR];rfl
 clear hX2 hr hn hJ hX hR'
 rw[PL,aa9]
 refine tF (by simp only[uY];exact known) ?_
 refine tF (by simp only[uY];exact knownm) ?_
 refine(ve (r:=[wd (AB (fN f) false (nB a1 a0)) 1,wd (AB (fN f) false (nB a1 a0)) 0,((Bb (fN f) false (nB a1 a0):Nat):Int),vw (zi (fN f) false (nB a1 a0))]) (by simp only[uY,aue];exact pk) (by rfl)).trans ?_
 refine tI (zi (fN f) false (nB a1 a0)=true) (by simp only[uY];exact(Bool.decide_coe _).symm) (fun h1=>?_) (fun h1=>?_)
 ·rw[vg rfl]
  simp only[uY]
  rw[rP h1]
  simp only[pkF8]
 ·refine(ve (r:=[vw sA,((uZ (fN f) (nB a1 a0):Nat):Int),ea,wd (X0) 1,wd (X0) 0]) (by simp only[uY,PR];exact unA) (by rfl)).trans ?_
  refine tI (uZ (fN f) (nB a1 a0)=0) (by simp only[uY,u8A];exact xS _ 0) (fun h2=>?_) (fun h2=>?_)
  ·refine(ve (r:=[wd (FP.mk (fN f) sA c) 1,wd (FP.mk (fN f) sA c) 0]) (by simp only[uY,Vx];exact cuE) (by rfl)).trans ?_
   rw[vg rfl]
   simp only[uY]
   rw[rZ h1 h2];rfl
  ·refine tI (uZ (fN f) (nB a1 a0)=3) (by simp only[uY,u8A];exact xS _ 3) (fun h3=>?_) (fun h3=>?_)
   ·refine(ve (r:=[wd (FP.mk (fN f) sA c) 1,wd (FP.mk (fN f) sA c) 0]) (by simp only[uY,Vx];exact cuE) (by rfl)).trans ?_
    rw[vg rfl]
    simp only[uY]
    rw[rI h1 h3];rfl
   ·refine(ve (r:=[(FP.fP (fN f):Int)]) (by simp only[uY,auf];rw[Iz,vH]) (by rfl)).trans ?_
    refine tI (ea≥(FP.fP (fN f):Int)-1) (by simp only[uY,iea,iP]) (fun h4=>?_) (fun h4=>?_)
    ·refine(ve (r:=[wd (FP.mk (fN f) sA c) 1,wd (FP.mk (fN f) sA c) 0]) (by simp only[uY,Vx];exact cuE) (by rfl)).trans ?_
     rw[vg rfl]
     simp only[uY]
     rw[rB (fin h1 h2 h3) h4];rfl
    ·refine(ve (r:=[wd (X) 0,wd (X) 1,wd (X) 2,wd (X) 3]) (by simp only[uY,LX];exact joX) (by rfl)).trans ?_
     refine tI (ea<0) (by simp only[uY,iea]) (fun h5=>?_) (fun h5=>?_)
     ·refine(ve (r:=[wd (JX) 0,wd (JX) 1,wd (JX) 2,wd (JX) 3]) (by simp only[uY,abe,iea];exact jaX h5) (by rfl)).trans ?_
      refine(ve (r:=[wd (n) 1,wd (n) 0,vw (FP.whO (fN f) c)]) (by simp only[uY,PS];exact cuL (fin h1 h2 h3) h5) (by rfl)).trans ?_
      refine(ve (r:=[wd (n) 0,wd (n) 1,wd (n) 2,wd (n) 3]) (by simp only[uY,ahn];exact Az (nl (fin h1 h2 h3) h4)) (by rfl)).trans ?_
      refine(ve (r:=[wd (FP.mk (fN f) sA r) 1,wd (FP.mk (fN f) sA r) 0,0]) (by simp only[uY,Kj];exact pkR (fin h1 h2 h3) h4) (by rfl)).trans ?_
      refine tF (by simp only[uY];rfl) ?_
      refine tI (FP.whO (fN f) c=true) (by simp only[uY];exact(Bool.decide_coe _).symm) (fun h6=>?_) (fun h6=>?_)
      ·refine tI (vG x=true) (by simp only[uY];exact(Bool.decide_coe _).symm) (fun h7=>?_) (fun h7=>?_)
       ·rw[vg rfl]
        simp only[uY]
        rw[rF (fin h1 h2 h3),if_pos (Bool.and_eq_true_iff.2 ⟨h7,h6⟩)];rfl
       ·rw[vg rfl]
        simp only[uY]
        rw[rF (fin h1 h2 h3),if_neg (fun h=>h7 (Bool.and_eq_true_iff.1 h).1)];rfl
      ·rw[vg rfl]
       simp only[uY]
       rw[rF (fin h1 h2 h3),if_neg (fun h=>h6 (Bool.and_eq_true_iff.1 h).2)];rfl
     ·refine(ve (r:=[wd (n) 1,wd (n) 0,vw (FP.whO (fN f) c)]) (by simp only[uY,PS,iea];exact cuH (fin h1 h2 h3) h4 h5) (by rfl)).trans ?_
      refine(ve (r:=[wd (n) 0,wd (n) 1,wd (n) 2,wd (n) 3]) (by simp only[uY,ahn];exact Az (nl (fin h1 h2 h3) h4)) (by rfl)).trans ?_
      refine(ve (r:=[wd (FP.mk (fN f) sA r) 1,wd (FP.mk (fN f) sA r) 0,0]) (by simp only[uY,Kj];exact pkR (fin h1 h2 h3) h4) (by rfl)).trans ?_
      refine tF (by simp only[uY];rfl) ?_
      refine tI (FP.whO (fN f) c=true) (by simp only[uY];exact(Bool.decide_coe _).symm) (fun h8=>?_) (fun h8=>?_)
      ·refine tI (vG x=true) (by simp only[uY];exact(Bool.decide_coe _).symm) (fun h9=>?_) (fun h9=>?_)
       ·rw[vg rfl]
        simp only[uY]
        rw[rF (fin h1 h2 h3),if_pos (Bool.and_eq_true_iff.2 ⟨h9,h8⟩)];rfl
       ·rw[vg rfl]
        simp only[uY]
        rw[rF (fin h1 h2 h3),if_neg (fun h=>h9 (Bool.and_eq_true_iff.1 h).1)];rfl
      ·rw[vg rfl]
       simp only[uY]
       rw[rF (fin h1 h2 h3),if_neg (fun h=>h8 (Bool.and_eq_true_iff.1 h).2)];rfl
open Go.RowKit
def ze (k:Nat) (s:Bool):Nat:=match k,s with
 | 0,true=>2147483648|0,false=>2147483647|1,true=>0|1,false=>4294967295
 | 2,true=>9223372036854775808|2,false=>9223372036854775807|_,true=>0|_,false=>18446744073709551615
def Dw (s:Bool) (n:Nat):Nat:=match s with|true=>(18446744073709551616-n)%18446744073709551616|false=>n
def Ej (f k m a:Nat):Nat×Nat :=
 if 4≤uZ f a then(0,1)
 else if uZ f a=3∨ze k (FP.sgn f a)<FP.whN f m (FP.sgn f a) (FP.cod f a) then(Dw (FP.sgn f a) (ze k (FP.sgn f a)),1)
 else(Dw (FP.sgn f a) (FP.whN f m (FP.sgn f a) (FP.cod f a)),if FP.whO f (FP.cod f a)=true then 16 else 0)
def aap (k a b c d:Int):Int:=if (k==0)=true then a else if (k==1)=true then b else if (k==2)=true then c else d
theorem xB (k a b c d:Int):(if (k==0)=true then a else if (k==1)=true then b else if (k==2)=true then c else d)=aap k a b c d:=rfl
theorem aqD {k:Int} (h:fN k<4):aap (u8 k) 2147483648 0 9223372036854775808 0=((ze (fN k) true:Nat):Int)∧aap (u8 k) 2147483647 4294967295 9223372036854775807 18446744073709551615=((ze (fN k) false:Nat):Int):=by
 have e:u8 k=((fN k:Nat):Int):=by have:=CW k;unfold fN;omega
 rw[e]
 generalize fN k=q at *
 have:q=0∨q=1∨q=2∨q=3:=by omega
 rcases this with rfl|rfl|rfl|rfl<;>exact⟨rfl,rfl⟩
theorem GN (k:Nat) (s:Bool):ze k s≤18446744073709551615:=by
 unfold ze;split<;>omega
theorem aqE (x k:Nat):decide ((x:Int)≥(k:Int))=decide (k≤x):=by rw[decide_eq_decide];omega
theorem u64_neg {n:Nat} (h:n≤18446744073709551615):vX .sub .u64 0 (n:Int)=((Dw true n:Nat):Int):=by
 show IntKind.u64.wrap (0-(n:Int))=(((18446744073709551616-n)%18446744073709551616:Nat):Int)
 rw[AU,UU];omega
theorem afJ {n:Nat} (h:n≤18446744073709551615):wd n 0=(n:Int):=by
 unfold wd vC;simp;omega
theorem aqF (f k m a1 a0:Int) (hf:fN f<4) (hk:fN k<4) (hm:u8 m≤4):PI [f,k,m,a1,a0] = [((Ej (fN f) (fN k) (u8 m).toNat (nB a1 a0)).1:Int),((Ej (fN f) (fN k) (u8 m).toNat (nB a1 a0)).2:Int)]:=by
 have hf3:fN (u8 f)<4:=by rw[vH];exact hf
 have known:=Db hf
 have knownm:=LG hm
 have sg:∀ x,yU (fN f) x=FP.sgn (fN f) x:=fun x=>by unfold yU;rw[decide_eq_true hf,Bool.true_and]
 obtain⟨X0,hx⟩:∃ x,x=wu (fN f) (nB a1 a0):=⟨_,rfl⟩
 obtain⟨ea,hea⟩:∃ e,e=vQ (fN f) (nB a1 a0):=⟨_,rfl⟩
 obtain⟨sA,hsA⟩:∃ s,s=FP.sgn (fN f) (nB a1 a0):=⟨_,rfl⟩
 obtain⟨c,hc⟩:∃ c,c=FP.cod (fN f) (nB a1 a0):=⟨_,rfl⟩
 have ra:=yJ (f:=fN f) (b:=nB a1 a0)
 rw[← hea] at ra
 have xl:X0<vF:=by rw[hx];exact zL _ _
 have iea:i64 ea=ea:=wL (by omega) (by omega)
 have hfm:=FP.fmtN hf
 have unA:yA [u8 f,u64 a1,u64 a0] = [vw sA,((uZ (fN f) (nB a1 a0):Nat):Int),ea,wd X0 1,wd X0 0]:=by
  rw[Bl,vH,vM,sg,vR,hx,hea,hsA];rfl
 have u8A:=Ak (fN f) (nB a1 a0)
 have knownk:=Db hk
 obtain⟨eN,eP⟩:=aqD hk
 obtain⟨X,hX⟩:∃ X,X=X0*vF:=⟨_,rfl⟩
 have joX:yT [wd X0 1,wd X0 0,0,0] = [wd X 0,wd X 1,wd X 2,wd X 3]:=by rw[hX];exact L9 xl
 have Xl:X<vL:=by rw[hX];exact Ee xl
 obtain⟨n,hn⟩:∃ n,n=FP.whN (fN f) (u8 m).toNat sA c:=⟨_,rfl⟩
 obtain⟨JX,hJ⟩:∃ J,J=FP.jam X (-ea-1).toNat:=⟨_,rfl⟩
 generalize hR:Ej (fN f) (fN k) (u8 m).toNat (nB a1 a0)=R
 have hR':=hR
 unfold Ej at hR'
 rw[← hsA,← hc,← hn] at hR'
 have rN:4≤uZ (fN f) (nB a1 a0)→R=(0,1):=fun h=>by rw[← hR',if_pos h]
 have rE:¬ 4≤uZ (fN f) (nB a1 a0)→(uZ (fN f) (nB a1 a0)=3∨ze (fN k) sA<n)→R=(Dw sA (ze (fN k) sA),1):=fun h h2=>by rw[← hR',if_neg h,if_pos h2]
 have rEt:¬ 4≤uZ (fN f) (nB a1 a0)→sA=true→(uZ (fN f) (nB a1 a0)=3∨ze (fN k) true<n)→R=(Dw true (ze (fN k) true),1):=fun h hs h2=>by
  have:=rE h (by rw[hs];exact h2);rwa [hs] at this
 have rEf:¬ 4≤uZ (fN f) (nB a1 a0)→¬ sA=true→(uZ (fN f) (nB a1 a0)=3∨ze (fN k) false<n)→R=(Dw false (ze (fN k) false),1):=fun h hs h2=>by
  have hs:=Bool.eq_false_iff.2 hs
  have:=rE h (by rw[hs];exact h2);rwa [hs] at this
 have rF:¬ 4≤uZ (fN f) (nB a1 a0)→¬ uZ (fN f) (nB a1 a0)=3→¬ ze (fN k) sA<n→R=(Dw sA n,if FP.whO (fN f) c=true then 16 else 0):=fun h h1 h2=>by rw[← hR',if_neg h,if_neg (fun h=>h.elim h1 h2)]
 have rFt:¬ 4≤uZ (fN f) (nB a1 a0)→sA=true→¬ uZ (fN f) (nB a1 a0)=3→¬ ze (fN k) true<n→R=(Dw true n,if FP.whO (fN f) c=true then 16 else 0):=fun h hs h1 h2=>by
  have:=rF h h1 (by rw[hs];exact h2);rwa [hs] at this
 have rFf:¬ 4≤uZ (fN f) (nB a1 a0)→¬ sA=true→¬ uZ (fN f) (nB a1 a0)=3→¬ ze (fN k) false<n→R=(Dw false n,if FP.whO (fN f) c=true then 16 else 0):=fun h hs h1 h2=>by
  have hs:=Bool.eq_false_iff.2 hs
  have:=rF h h1 (by rw[hs];exact h2);rwa [hs] at this
 obtain⟨Gd,hGd⟩:∃ Gd:Prop,Gd=(uZ (fN f) (nB a1 a0)≤2):=⟨_,rfl⟩
 have fin:¬ 4≤uZ (fN f) (nB a1 a0)→¬ uZ (fN f) (nB a1 a0)=3→Gd:=fun h h2=>by rw[hGd];omega
 have num0:uZ (fN f) (nB a1 a0)=0→X0=0∧ea=0∧c=0:=fun h=>by
  refine⟨?_,?_,?_⟩
  ·rw[hx];unfold wu;rw[if_neg (by omega)]
  ·rw[hea];unfold vQ;rw[if_neg (by omega)]
  ·rw[hc];exact(Bw hf (by omega)).2.1.1 h
 have num:uZ (fN f) (nB a1 a0)=1∨uZ (fN f) (nB a1 a0)=2→X0=FP.unSig (fN f) c∧ea=FP.unExp (fN f) c∧0<c∧c<FP.inf (fN f):=fun g=>by
  obtain⟨b1,b2,b3,b4,b5⟩:=Co hf g
  rw[hx,hea,hc];exact⟨b2,b3,b4,b5⟩
 have cas:Gd→uZ (fN f) (nB a1 a0)=0∨(uZ (fN f) (nB a1 a0)=1∨uZ (fN f) (nB a1 a0)=2):=fun g=>by rw[hGd] at g;omega
 have jaX:ea<0→BO [wd X 0,wd X 1,wd X 2,wd X 3,i64 (i64 (0-ea)-1)] = [wd JX 0,wd JX 1,wd JX 2,wd JX 3]:=fun h=>by
  rw[Rp,xP Xl,wL (n:=0-ea) (by omega) (by omega),xI,wL (by omega) (by omega),show 0-ea-1 = -ea-1 by omega,← hJ,yC]
 have dec:∀ {p:Prop} [Decidable p],(p↔FP.val (fN f) c%2^FP.fU (fN f)=0)→decide (¬ p)=FP.whO (fN f) c:=fun {p} _ h=>by
  rw[Bool.eq_iff_iff,FP.whO_iff,decide_eq_true_iff,h]
 have cuL:Gd→ea<0→Du [wd JX 0,wd JX 1,wd JX 2,wd JX 3,0,u8 m,vw sA] = [wd n 1,wd n 0,vw (FP.whO (fN f) c)]:=fun g h=>by
  have g:uZ (fN f) (nB a1 a0)=1∨uZ (fN f) (nB a1 a0)=2:=(cas g).resolve_left fun h0=>by have:=(num0 h0).2.1;omega
  obtain⟨g1,g2,g3,g4⟩:=num g
  obtain⟨w1,w2⟩:=FP.whole_lo (m:=(u8 m).toNat) (neg:=sA) hf g3 g4 (j:=(-ea-1).toNat) (by omega)
  have jl:JX<vL:=by rw[hJ];exact GH Xl
  rw[Lp _ _ _ _ _ _ _ (by decide) (by decide) (by rw[wS];exact hm),wS,vJ,xP jl,show(i64 0).toNat=0 from by decide,hJ,hX,g1,yn,w1,dec w2,hn,vR];rfl
 have cuH:Gd→¬ ea>64→¬ ea<0→Du [wd X 0,wd X 1,wd X 2,wd X 3,i64 (ea+1),u8 m,vw sA] = [wd n 1,wd n 0,vw (FP.whO (fN f) c)]:=fun g h1 h2=>by
  have hk:i64 (ea+1)=ea+1:=wL (by omega) (by omega)
  rw[Lp _ _ _ _ _ _ _ (by rw[xI,hk];omega) (by rw[xI,hk];omega) (by rw[wS];exact hm),wS,vJ,xP Xl,xI,hk]
  rcases cas g with g|g
  ·obtain⟨g1,g2,g3⟩:=num0 g
   have e1:FP.rdiv (u8 m).toNat sA 0 (2^(256-(ea+1).toNat))=0:=by
    have h:=FP.rdiv_exact (k:=0) (u8 m).toNat sA (Nat.two_pow_pos (256-(ea+1).toNat))
    rwa [Nat.zero_mul] at h
   have e2:FP.whO (fN f) 0=false:=by
    cases h:FP.whO (fN f) 0 with
    | false=>rfl
    | true=>exact absurd (by rw[FP.val_zero,Nat.zero_mod]) (FP.whO_iff.1 h)
   rw[hX,g1,Nat.zero_mul,e1,hn,g3,FP.whN_zero,e2,Nat.zero_mod,vR];rfl
  ·obtain⟨g1,g2,g3,g4⟩:=num g
   obtain⟨w1,w2⟩:=FP.whole_hi (m:=(u8 m).toNat) (neg:=sA) hf g3 g4 (k:=(ea+1).toNat) (by omega) (by omega)
   rw[hX,g1,yn,w1,dec w2,hn,vR];rfl
 have nl:Gd→¬ ea>64→n<vF:=fun g h=>by
  rcases cas g with g|g
  ·obtain⟨g1,g2,g3⟩:=num0 g
   rw[hn,g3,FP.whN_zero];exact Es
  ·obtain⟨g1,g2,g3,g4⟩:=num g
   have:=FP.whN_le (m:=(u8 m).toNat) (neg:=sA) (Nat.le_of_lt (FP.near_lt hf g3 g4 (k:=65) (by omega)))
   rw[hn,yn]
   exact Nat.lt_of_le_of_lt this (by decide)
 have big:Gd→ea>64→∀ s,ze (fN k) s<n:=fun g h s=>by
  have g:uZ (fN f) (nB a1 a0)=1∨uZ (fN f) (nB a1 a0)=2:=(cas g).resolve_left fun h0=>by have:=(num0 h0).2.1;omega
  obtain⟨g1,g2,g3,g4⟩:=num g
  have:=FP.whN_ge (m:=(u8 m).toNat) (neg:=sA) (FP.far_ge hf g3 g4 (k:=65) (by omega))
  rw[← hn] at this
  have h2:=GN (fN k) s
  have h3:(2:Nat)^65=36893488147419103232:=by decide
  omega
 have cmE:Gd→¬ ea>64→∀ s,EI [wd n 1,wd n 0,0,((ze (fN k) s:Nat):Int)] = [xq n (ze (fN k) s)]:=fun g h s=>by
  have h2:=GN (fN k) s
  rw[UZ,xn (nl g h),aoV,Gy _ (by unfold vC;omega),Int.toNat_natCast]
 have n0t:¬ ze (fN k) true<n→vX .sub .u64 0 (wd n 0)=((Dw true n:Nat):Int):=fun h=>by
  have h2:=GN (fN k) true
  rw[afJ (by omega),u64_neg (by omega)]
 have n0f:¬ ze (fN k) false<n→wd n 0=((Dw false n:Nat):Int):=fun h=>by
  have h2:=GN (fN k) false
  rw[afJ (by omega)];rfl
 clear dec hn hJ hX hR' rE rF cas num num0 nl
 rw[PI,aa8]
 refine tF (by simp only[uY,xB,eN,eP];exact known) ?_
 refine tF (by simp only[uY,xB,eN,eP];exact knownk) ?_
 refine tF (by simp only[uY,xB,eN,eP];exact knownm) ?_
 refine(ve (r:=[vw sA,((uZ (fN f) (nB a1 a0):Nat):Int),ea,wd (X0) 1,wd (X0) 0]) (by simp only[uY,xB,eN,eP,PR];exact unA) (by rfl)).trans ?_
 refine tI (4≤uZ (fN f) (nB a1 a0)) (by simp only[uY,xB,eN,eP,u8A];exact aqE _ 4) (fun h1=>?_) (fun h1=>?_)
 ·rw[vg rfl]
  simp only[uY,xB,eN,eP]
  rw[rN h1];rfl
 ·refine tI (sA=true) (by simp only[uY,xB,eN,eP];exact(Bool.decide_coe _).symm) (fun h2=>?_) (fun h2=>?_)
  ·refine(ve (r:=[wd (X) 0,wd (X) 1,wd (X) 2,wd (X) 3]) (by simp only[uY,xB,eN,eP,LX];exact joX) (by rfl)).trans ?_
   refine tI (uZ (fN f) (nB a1 a0)=3) (by simp only[uY,xB,eN,eP,u8A];exact xS _ 3) (fun h3=>?_) (fun h3=>?_)
   ·rw[vg rfl]
    simp only[uY,xB,eN,eP]
    rw[u64_neg (GN _ _),rEt h1 h2 (.inl h3)];rfl
   ·refine tI (ea>64) (by simp only[uY,xB,eN,eP,iea]) (fun h4=>?_) (fun h4=>?_)
    ·rw[vg rfl]
     simp only[uY,xB,eN,eP]
     rw[u64_neg (GN _ _),rEt h1 h2 (.inr (big (fin h1 h3) h4 _))];rfl
    ·refine tI (ea<0) (by simp only[uY,xB,eN,eP,iea]) (fun h5=>?_) (fun h5=>?_)
     ·refine(ve (r:=[wd (JX) 0,wd (JX) 1,wd (JX) 2,wd (JX) 3]) (by simp only[uY,xB,eN,eP,abe,iea];exact jaX h5) (by rfl)).trans ?_
      refine(ve (r:=[wd (n) 1,wd (n) 0,vw (FP.whO (fN f) c)]) (by simp only[uY,xB,eN,eP,PS];exact cuL (fin h1 h3) h5) (by rfl)).trans ?_
      refine(ve (r:=[xq n (ze (fN k) true)]) (by simp only[uY,xB,eN,eP,Vw];exact cmE (fin h1 h3) h4 _) (by rfl)).trans ?_
      refine tI (ze (fN k) true<n) (by simp only[uY,xB,eN,eP,AZ];exact IP) (fun h6=>?_) (fun h6=>?_)
      ·rw[vg rfl]
       simp only[uY,xB,eN,eP]
       rw[u64_neg (GN _ _),rEt h1 h2 (.inr h6)];rfl
      ·refine tI (FP.whO (fN f) c=true) (by simp only[uY,xB,eN,eP];exact(Bool.decide_coe _).symm) (fun h7=>?_) (fun h7=>?_)
       ·rw[vg rfl]
        simp only[uY,xB,eN,eP]
        rw[rFt h1 h2 h3 h6,if_pos h7,n0t h6];rfl
       ·rw[vg rfl]
        simp only[uY,xB,eN,eP]
        rw[rFt h1 h2 h3 h6,if_neg h7,n0t h6];rfl
     ·refine(ve (r:=[wd (n) 1,wd (n) 0,vw (FP.whO (fN f) c)]) (by simp only[uY,xB,eN,eP,PS,iea];exact cuH (fin h1 h3) h4 h5) (by rfl)).trans ?_
      refine(ve (r:=[xq n (ze (fN k) true)]) (by simp only[uY,xB,eN,eP,Vw];exact cmE (fin h1 h3) h4 _) (by rfl)).trans ?_
      refine tI (ze (fN k) true<n) (by simp only[uY,xB,eN,eP,AZ];exact IP) (fun h8=>?_) (fun h8=>?_)
      ·rw[vg rfl]
       simp only[uY,xB,eN,eP]
       rw[u64_neg (GN _ _),rEt h1 h2 (.inr h8)];rfl
      ·refine tI (FP.whO (fN f) c=true) (by simp only[uY,xB,eN,eP];exact(Bool.decide_coe _).symm) (fun h9=>?_) (fun h9=>?_)
       ·rw[vg rfl]
        simp only[uY,xB,eN,eP]
        rw[rFt h1 h2 h3 h8,if_pos h9,n0t h8];rfl
       ·rw[vg rfl]
        simp only[uY,xB,eN,eP]
        rw[rFt h1 h2 h3 h8,if_neg h9,n0t h8];rfl
  ·refine(ve (r:=[wd (X) 0,wd (X) 1,wd (X) 2,wd (X) 3]) (by simp only[uY,xB,eN,eP,LX];exact joX) (by rfl)).trans ?_
   refine tI (uZ (fN f) (nB a1 a0)=3) (by simp only[uY,xB,eN,eP,u8A];exact xS _ 3) (fun h10=>?_) (fun h10=>?_)
   ·rw[vg rfl]
    simp only[uY,xB,eN,eP]
    rw[rEf h1 h2 (.inl h10)];rfl
   ·refine tI (ea>64) (by simp only[uY,xB,eN,eP,iea]) (fun h11=>?_) (fun h11=>?_)
    ·rw[vg rfl]
     simp only[uY,xB,eN,eP]
     rw[rEf h1 h2 (.inr (big (fin h1 h10) h11 _))];rfl
    ·refine tI (ea<0) (by simp only[uY,xB,eN,eP,iea]) (fun h12=>?_) (fun h12=>?_)
     ·refine(ve (r:=[wd (JX) 0,wd (JX) 1,wd (JX) 2,wd (JX) 3]) (by simp only[uY,xB,eN,eP,abe,iea];exact jaX h12) (by rfl)).trans ?_
      refine(ve (r:=[wd (n) 1,wd (n) 0,vw (FP.whO (fN f) c)]) (by simp only[uY,xB,eN,eP,PS];exact cuL (fin h1 h10) h12) (by rfl)).trans ?_
      refine(ve (r:=[xq n (ze (fN k) false)]) (by simp only[uY,xB,eN,eP,Vw];exact cmE (fin h1 h10) h11 _) (by rfl)).trans ?_
      refine tI (ze (fN k) false<n) (by simp only[uY,xB,eN,eP,AZ];exact IP) (fun h13=>?_) (fun h13=>?_)
      ·rw[vg rfl]
       simp only[uY,xB,eN,eP]
       rw[rEf h1 h2 (.inr h13)];rfl
      ·refine tI (FP.whO (fN f) c=true) (by simp only[uY,xB,eN,eP];exact(Bool.decide_coe _).symm) (fun h14=>?_) (fun h14=>?_)
       ·rw[vg rfl]
        simp only[uY,xB,eN,eP]
        rw[rFf h1 h2 h10 h13,if_pos h14,n0f h13];rfl
       ·rw[vg rfl]
        simp only[uY,xB,eN,eP]
        rw[rFf h1 h2 h10 h13,if_neg h14,n0f h13];rfl
     ·refine(ve (r:=[wd (n) 1,wd (n) 0,vw (FP.whO (fN f) c)]) (by simp only[uY,xB,eN,eP,PS,iea];exact cuH (fin h1 h10) h11 h12) (by rfl)).trans ?_
      refine(ve (r:=[xq n (ze (fN k) false)]) (by simp only[uY,xB,eN,eP,Vw];exact cmE (fin h1 h10) h11 _) (by rfl)).trans ?_
      refine tI (ze (fN k) false<n) (by simp only[uY,xB,eN,eP,AZ];exact IP) (fun h15=>?_) (fun h15=>?_)
      ·rw[vg rfl]
       simp only[uY,xB,eN,eP]
       rw[rEf h1 h2 (.inr h15)];rfl
      ·refine tI (FP.whO (fN f) c=true) (by simp only[uY,xB,eN,eP];exact(Bool.decide_coe _).symm) (fun h16=>?_) (fun h16=>?_)
       ·rw[vg rfl]
        simp only[uY,xB,eN,eP]
        rw[rFf h1 h2 h10 h15,if_pos h16,n0f h15];rfl
       ·rw[vg rfl]
        simp only[uY,xB,eN,eP]
        rw[rFf h1 h2 h10 h15,if_neg h16,n0f h15];rfl
open Go.RowKit
def wZ (k n:Nat):Nat:=match k with
 | 0=>if 2147483648≤n%4294967296 then n%4294967296+18446744069414584320 else n%4294967296
 | 1=>n%4294967296
 | _=>n
theorem J6 (k n:Nat) (h:n<18446744073709551616):wZ k n<18446744073709551616:=by
 unfold wZ;split
 ·split<;>omega
 ·omega
 ·exact h
def El (k n:Nat):Bool:=(decide (k=0)||decide (k=2))&&decide (9223372036854775808≤wZ k n)
def FK (k n:Nat):Nat:=if El k n=true then 18446744073709551616-wZ k n else wZ k n
def FL (f m:Nat) (after:Bool) (k n:Nat):Nat×Nat :=
 (FP.mk f (El k n) (FP.roundC (FP.fP f) (FP.fE f) m after (El k n) (FK k n*2^FP.fU f) 1).1,(FP.roundC (FP.fP f) (FP.fE f) m after (El k n) (FK k n*2^FP.fU f) 1).2)
def RR (f m t:Int) (s:Bool) (M:Nat):Nat×Nat:=FP.roundC (FP.fP (fN f)) (FP.fE (fN f)) (u8 m).toNat (vG t) s (M*2^FP.fU (fN f)) 1
theorem O8 (f m t:Int) (s:Bool) (M:Nat):(RR f m t s M).2=0∨(RR f m t s M).2=16∨(RR f m t s M).2=20∨(RR f m t s M).2=24:=FP.roundC_flag_set _ _ _ _ _ _ _
theorem UI {v:Nat} (h:v<18446744073709551616):(vX .shr .u64 (v:Int) 63==1)=decide (9223372036854775808≤v):=by
 show((v:Int).fdiv (2^min (63:Int).toNat 64)==1)=_
 rw[show min (63:Int).toNat 64=63 from rfl,show((2:Int)^63)=9223372036854775808 from rfl,Int.fdiv_eq_ediv_of_nonneg _ (by decide),Bool.eq_iff_iff]
 simp only[beq_iff_eq,decide_eq_true_iff]
 omega
theorem aqG (k f m t n:Int) (hk:fN k<4) (hf:fN f<4) (hm:u8 m≤4):PD [k,f,m,t,n]=oR (FL (fN f) (u8 m).toNat (vG t) (fN k) (u64 n).toNat):=by
 have hf3:fN (u8 f)<4:=by rw[vH];exact hf
 have known:=Db hf
 have knownk:=Db hk
 have knownm:=LG hm
 have hn:=Ug n
 obtain⟨N,eN⟩:∃ N,N=(u64 n).toNat:=⟨_,rfl⟩
 have uN:u64 n=(N:Int):=by omega
 have hN:N<18446744073709551616:=by omega
 rw[← eN]
 have x0E:u64 (i64 (IntKind.i32.wrap (u64 n)))=((wZ 0 N:Nat):Int):=by
  rw[uN,af3,wL (by omega) (by omega),UU]
  unfold wZ
  simp only
  split<;>omega
 have x1E:IntKind.u32.wrap (u64 n)=((wZ 1 N:Nat):Int):=by
  rw[uN,af4];unfold wZ;simp only;omega
 have x2E:u64 n=((wZ 2 N:Nat):Int):=uN
 have x3E:u64 n=((wZ 3 N:Nat):Int):=uN
 have pkF:∀ (s:Bool) (sx w:Int) (M:Nat),vG sx=s→(u64 w=(M:Int)∧M<18446744073709551616)→yu [u8 f,u8 m,vw (vG t),sx,255,w,0,0,0] = [wd (FP.mk (fN f) s (RR f m t s M).1) 1,wd (FP.mk (fN f) s (RR f m t s M).1) 0,((RR f m t s M).2:Int)]:=fun s sx w M h1 h2=>by
  have hW:nW w 0 0 0=M:=by
   unfold nW;rw[h2.1,show u64 0=0 from by decide];simp
  rw[GI _ _ _ _ _ _ _ _ _ hf3 (by rw[wS];exact hm),vH,wS,vJ,h1,show Bu (i64 255)=255 from by decide,hW,FP.round_int hf,vR];rfl
 have pS:∀ {v:Nat},v<18446744073709551616→9223372036854775808≤v→vG (vw (vX .shr .u64 (v:Int) 63==1))=true:=fun h1 h2=>by rw[UI h1,decide_eq_true h2];rfl
 have pZ:∀ {v:Nat},v<18446744073709551616→¬ 9223372036854775808≤v→vG (vw (vX .shr .u64 (v:Int) 63==1))=false:=fun h1 h2=>by rw[UI h1,decide_eq_false h2];rfl
 have pP:∀ q:Nat,u64 ((wZ q N:Nat):Int)=((wZ q N:Nat):Int)∧wZ q N<18446744073709551616:=fun q=>by
  have:=J6 q N hN
  exact⟨Gy _ (by unfold vC;omega),this⟩
 have pP1:u64 (u64 ((wZ 1 N:Nat):Int))=((wZ 1 N:Nat):Int)∧wZ 1 N<18446744073709551616:=by rw[zV];exact pP 1
 have pN:∀ q:Nat,9223372036854775808≤wZ q N→u64 (vX .sub .u64 0 ((wZ q N:Nat):Int))=((18446744073709551616-wZ q N:Nat):Int)∧18446744073709551616-wZ q N<18446744073709551616:=fun q h=>by
  have:=J6 q N hN
  rw[u64_neg (by omega)]
  unfold Dw
  simp only
  rw[Nat.mod_eq_of_lt (by omega)]
  exact⟨Gy _ (by unfold vC;omega),by omega⟩
 rw[Am]
 generalize hR:FL (fN f) (u8 m).toNat (vG t) (fN k) N=R
 have kN:∀ q:Nat,u8 k=(q:Int)→fN k=q:=fun q h=>by unfold fN;omega
 have rr:∀ s M,El (fN k) N=s→FK (fN k) N=M→R=(FP.mk (fN f) s (RR f m t s M).1,(RR f m t s M).2):=fun s M h1 h2=>by
  rw[← hR];unfold FL;rw[h1,h2];rfl
 have r0t:u8 k=0→9223372036854775808≤wZ 0 N→R=(FP.mk (fN f) true (RR f m t true (18446744073709551616-wZ 0 N)).1,(RR f m t true (18446744073709551616-wZ 0 N)).2):=fun h h1=>by
  have hk:=kN 0 h
  refine rr _ _ ?_ ?_<;>simp[FK,El,hk,h1]
 have r0f:u8 k=0→¬ 9223372036854775808≤wZ 0 N→R=(FP.mk (fN f) false (RR f m t false (wZ 0 N)).1,(RR f m t false (wZ 0 N)).2):=fun h h1=>by
  have hk:=kN 0 h
  refine rr _ _ ?_ ?_<;>simp[FK,El,hk,h1]
 have r2t:u8 k=2→9223372036854775808≤wZ 2 N→R=(FP.mk (fN f) true (RR f m t true (18446744073709551616-wZ 2 N)).1,(RR f m t true (18446744073709551616-wZ 2 N)).2):=fun h h1=>by
  have hk:=kN 2 h
  refine rr _ _ ?_ ?_<;>simp[FK,El,hk,h1]
 have r2f:u8 k=2→¬ 9223372036854775808≤wZ 2 N→R=(FP.mk (fN f) false (RR f m t false (wZ 2 N)).1,(RR f m t false (wZ 2 N)).2):=fun h h1=>by
  have hk:=kN 2 h
  refine rr _ _ ?_ ?_<;>simp[FK,El,hk,h1]
 have r1:u8 k=1→R=(FP.mk (fN f) false (RR f m t false (wZ 1 N)).1,(RR f m t false (wZ 1 N)).2):=fun h=>by
  have hk:=kN 1 h
  refine rr _ _ ?_ ?_<;>simp[FK,El,hk]
 have r3:¬ u8 k=0→¬ u8 k=1→¬ u8 k=2→R=(FP.mk (fN f) false (RR f m t false (wZ 3 N)).1,(RR f m t false (wZ 3 N)).2):=fun h0 h1 h2=>by
  have hk:fN k=3:=by have:=CW k;unfold fN at hk ⊢;omega
  refine rr _ _ ?_ ?_<;>simp[FK,El,hk]
 clear rr hR kN uN eN hn
 rw[PD,aa6]
 refine tF (by simp only[uY];exact knownk) ?_
 refine tF (by simp only[uY];exact known) ?_
 refine tF (by simp only[uY];exact knownm) ?_
 refine tI (u8 k=0) (by simp only[uY];rfl) (fun h1=>?_) (fun h1=>?_)
 ·refine tI (9223372036854775808≤wZ 0 N) (by simp only[uY,x0E];exact UI (J6 0 N hN)) (fun h2=>?_) (fun h2=>?_)
  ·refine(ve (r:=[wd (FP.mk (fN f) true (RR f m t true (18446744073709551616-wZ 0 N)).1) 1,wd (FP.mk (fN f) true (RR f m t true (18446744073709551616-wZ 0 N)).1) 0,((RR f m t true (18446744073709551616-wZ 0 N)).2:Int)]) (by simp only[uY,x0E,Kj];exact pkF true _ _ _ (pS (J6 0 N hN) h2) (pN 0 h2)) (by rfl)).trans ?_
   rw[vg rfl]
   simp only[uY]
   rw[r0t h1 h2,IU (O8 _ _ _ _ _)]
  ·refine(ve (r:=[wd (FP.mk (fN f) false (RR f m t false (wZ 0 N)).1) 1,wd (FP.mk (fN f) false (RR f m t false (wZ 0 N)).1) 0,((RR f m t false (wZ 0 N)).2:Int)]) (by simp only[uY,x0E,Kj];exact pkF false _ _ _ (pZ (J6 0 N hN) h2) (pP 0)) (by rfl)).trans ?_
   rw[vg rfl]
   simp only[uY]
   rw[r0f h1 h2,IU (O8 _ _ _ _ _)]
 ·refine tI (u8 k=1) (by simp only[uY];rfl) (fun h3=>?_) (fun h3=>?_)
  ·refine(ve (r:=[wd (FP.mk (fN f) false (RR f m t false (wZ 1 N)).1) 1,wd (FP.mk (fN f) false (RR f m t false (wZ 1 N)).1) 0,((RR f m t false (wZ 1 N)).2:Int)]) (by simp only[uY,x1E,Kj];exact pkF false _ _ _ (rfl) (pP1)) (by rfl)).trans ?_
   rw[vg rfl]
   simp only[uY]
   rw[r1 h3,IU (O8 _ _ _ _ _)]
  ·refine tI (u8 k=2) (by simp only[uY];rfl) (fun h4=>?_) (fun h4=>?_)
   ·refine tI (9223372036854775808≤wZ 2 N) (by simp only[uY,x2E];exact UI (J6 2 N hN)) (fun h5=>?_) (fun h5=>?_)
    ·refine(ve (r:=[wd (FP.mk (fN f) true (RR f m t true (18446744073709551616-wZ 2 N)).1) 1,wd (FP.mk (fN f) true (RR f m t true (18446744073709551616-wZ 2 N)).1) 0,((RR f m t true (18446744073709551616-wZ 2 N)).2:Int)]) (by simp only[uY,x2E,Kj];exact pkF true _ _ _ (pS (J6 2 N hN) h5) (pN 2 h5)) (by rfl)).trans ?_
     rw[vg rfl]
     simp only[uY]
     rw[r2t h4 h5,IU (O8 _ _ _ _ _)]
    ·refine(ve (r:=[wd (FP.mk (fN f) false (RR f m t false (wZ 2 N)).1) 1,wd (FP.mk (fN f) false (RR f m t false (wZ 2 N)).1) 0,((RR f m t false (wZ 2 N)).2:Int)]) (by simp only[uY,x2E,Kj];exact pkF false _ _ _ (pZ (J6 2 N hN) h5) (pP 2)) (by rfl)).trans ?_
     rw[vg rfl]
     simp only[uY]
     rw[r2f h4 h5,IU (O8 _ _ _ _ _)]
   ·refine(ve (r:=[wd (FP.mk (fN f) false (RR f m t false (wZ 3 N)).1) 1,wd (FP.mk (fN f) false (RR f m t false (wZ 3 N)).1) 0,((RR f m t false (wZ 3 N)).2:Int)]) (by simp only[uY,x3E,Kj];exact pkF false _ _ _ (rfl) (pP 3)) (by rfl)).trans ?_
    rw[vg rfl]
    simp only[uY]
    rw[r3 h1 h3 h4,IU (O8 _ _ _ _ _)]
open Go.RowKit
def xm (s t:Bool) (c d:Nat):Nat :=
 if c=0∧d=0 then 1
 else if s=true then(if t=true then(if c=d then 1 else if c<d then 2 else 0) else 0)
 else(if t=true then 2 else(if c=d then 1 else if c<d then 0 else 2))
def Al (f:Nat) (loud:Bool) (a b:Nat):Nat×Nat :=
 if 4≤uZ f a∨4≤uZ f b then(3,if loud=true∨(uZ f a=5∨uZ f b=5) then 1 else 0)
 else(xm (FP.sgn f a) (FP.sgn f b) (FP.cod f a) (FP.cod f b),0)
theorem afK {f:Nat} (hf:f<4):0<FP.inf f:=by
 rcases FP.f4 hf with rfl|rfl|rfl|rfl<;>decide
theorem UJ {f:Nat} (hf:f<4) (b:Nat):4≤uZ f b∨(uZ f b=3∧FP.cod f b=FP.inf f)∨(uZ f b=0∧FP.cod f b=0)∨((uZ f b=1∨uZ f b=2)∧0<FP.cod f b∧FP.cod f b<FP.inf f):=by
 by_cases h4:4≤uZ f b
 ·exact .inl h4
 by_cases h3:uZ f b=3
 ·exact .inr (.inl ⟨h3,afH hf h3⟩)
 obtain⟨c1,c2,c3⟩:=Bw hf (b:=b) (by omega)
 by_cases h0:uZ f b=0
 ·exact .inr (.inr (.inl ⟨h0,c2.1 h0⟩))
 ·have h12:uZ f b=1∨uZ f b=2:=by omega
  exact .inr (.inr (.inr ⟨h12,Nat.pos_of_ne_zero (c3.1 h12),c1⟩))
theorem aqH (ea:Int) (sa:Nat) (eb:Int) (sb:Nat):FP.cmpT eb sb ea sa = - FP.cmpT ea sa eb sb:=by
 unfold FP.cmpT
 rw[show max eb ea=max ea eb by omega]
 have h:sa%2^(max ea eb-ea).toNat=0∨sb%2^(max ea eb-eb).toNat=0:=by
  by_cases h:ea≤eb
  ·right;rw[show(max ea eb-eb).toNat=0 by omega,Nat.pow_zero,Nat.mod_one]
  ·left;rw[show(max ea eb-ea).toNat=0 by omega,Nat.pow_zero,Nat.mod_one]
 generalize sa%2^(max ea eb-ea).toNat=p at *
 generalize sb%2^(max ea eb-eb).toNat=q at *
 generalize sa/2^(max ea eb-ea).toNat=u at *
 generalize sb/2^(max ea eb-eb).toNat=v at *
 split<;>split<;>(try split)<;>(try split)<;>omega
theorem afL {f b:Nat} (hf:f<4) (h:uZ f b≤2):wu f b*vF*2^(vQ f b+40000).toNat=FP.val f (FP.cod f b)*2^(255-FP.fU f+40000:Int).toNat:=by
 by_cases h0:uZ f b=0
 ·rw[(Bw hf (by omega)).2.1.1 h0,FP.val_zero]
  unfold wu
  rw[if_neg (by omega),Nat.zero_mul,Nat.zero_mul,Nat.zero_mul]
 ·obtain⟨b1,b2,b3,b4,b5⟩:=Co hf (a:=b) (by omega)
  rw[b2,b3,yn]
  exact FP.at_num hf b4 b5
theorem afM {f a b:Nat} (hf:f<4) (ha:uZ f a≤2) (hb:uZ f b≤2) :
  (FP.cmpT (vQ f a) (wu f a*vF) (vQ f b) (wu f b*vF) = -1∧FP.cod f a<FP.cod f b)∨(FP.cmpT (vQ f a) (wu f a*vF) (vQ f b) (wu f b*vF)=0∧FP.cod f a=FP.cod f b)∨(FP.cmpT (vQ f a) (wu f a*vF) (vQ f b) (wu f b*vF)=1∧FP.cod f b<FP.cod f a):=by
 have n1:=(FP.fmtN hf).1
 have r1:=yJ (f:=f) (b:=a)
 have r2:=yJ (f:=f) (b:=b)
 have key:∀ {a b:Nat},uZ f a≤2→uZ f b≤2→(FP.cmpT (vQ f a) (wu f a*vF) (vQ f b) (wu f b*vF)<0↔FP.cod f a<FP.cod f b):=fun {a b} ha hb=>by
  have r1:=yJ (f:=f) (b:=a)
  have r2:=yJ (f:=f) (b:=b)
  rw[FP.cmpT_lt (L := -40000) (by omega) (by omega),show vQ f a - -40000=vQ f a+40000 by omega,show vQ f b - -40000=vQ f b+40000 by omega,afL hf ha,afL hf hb,Nat.mul_lt_mul_right (Nat.two_pow_pos _)]
  have:=FP.cval_le (p:=FP.fP f) n1 (a:=FP.cod f b) (b:=FP.cod f a)
  unfold FP.val
  omega
 have k1:=key ha hb
 have k2:=key hb ha
 rw[aqH] at k2
 have hr:FP.cmpT (vQ f a) (wu f a*vF) (vQ f b) (wu f b*vF) = -1∨FP.cmpT (vQ f a) (wu f a*vF) (vQ f b) (wu f b*vF)=0∨FP.cmpT (vQ f a) (wu f a*vF) (vQ f b) (wu f b*vF)=1:=by
  unfold FP.cmpT
  split
  ·exact .inl rfl
  split
  ·exact .inr (.inr rfl)
  split
  ·exact .inr (.inr rfl)
  split
  ·exact .inl rfl
  ·exact .inr (.inl rfl)
 omega
theorem aqI (f a1 a0 b1 b0:Int) (hf:fN f<4):PN [f,a1,a0,b1,b0] = [((Al (fN f) false (nB a1 a0) (nB b1 b0)).1:Int),((Al (fN f) false (nB a1 a0) (nB b1 b0)).2:Int)]:=by
 have hf3:fN (u8 f)<4:=by rw[vH];exact hf
 have known:=Db hf
 have sg:∀ x,yU (fN f) x=FP.sgn (fN f) x:=fun x=>by unfold yU;rw[decide_eq_true hf,Bool.true_and]
 obtain⟨Xa,hxa⟩:∃ x,x=wu (fN f) (nB a1 a0):=⟨_,rfl⟩
 obtain⟨Xb,hxb⟩:∃ x,x=wu (fN f) (nB b1 b0):=⟨_,rfl⟩
 obtain⟨ea,hea⟩:∃ e,e=vQ (fN f) (nB a1 a0):=⟨_,rfl⟩
 obtain⟨eb,heb⟩:∃ e,e=vQ (fN f) (nB b1 b0):=⟨_,rfl⟩
 obtain⟨sA,hsA⟩:∃ s,s=FP.sgn (fN f) (nB a1 a0):=⟨_,rfl⟩
 obtain⟨sB,hsB⟩:∃ s,s=FP.sgn (fN f) (nB b1 b0):=⟨_,rfl⟩
 obtain⟨ca,hca⟩:∃ c,c=FP.cod (fN f) (nB a1 a0):=⟨_,rfl⟩
 obtain⟨cb,hcb⟩:∃ c,c=FP.cod (fN f) (nB b1 b0):=⟨_,rfl⟩
 have ra:=yJ (f:=fN f) (b:=nB a1 a0)
 have rb:=yJ (f:=fN f) (b:=nB b1 b0)
 rw[← hea] at ra
 rw[← heb] at rb
 have iea:i64 ea=ea:=wL (by omega) (by omega)
 have ieb:i64 eb=eb:=wL (by omega) (by omega)
 have xla:Xa<vF:=by rw[hxa];exact zL _ _
 have xlb:Xb<vF:=by rw[hxb];exact zL _ _
 have unA:yA [u8 f,u64 a1,u64 a0] = [vw sA,((uZ (fN f) (nB a1 a0):Nat):Int),ea,wd Xa 1,wd Xa 0]:=by
  rw[Bl,vH,vM,sg,vR,hxa,hea,hsA];rfl
 have unB:yA [u8 f,u64 b1,u64 b0] = [vw sB,((uZ (fN f) (nB b1 b0):Nat):Int),eb,wd Xb 1,wd Xb 0]:=by
  rw[Bl,vH,vM,sg,vR,hxb,heb,hsB];rfl
 have u8A:=Ak (fN f) (nB a1 a0)
 have u8B:=Ak (fN f) (nB b1 b0)
 have naA:yR [u8 f,u64 a1,u64 a0] = [vw (decide (4≤uZ (fN f) (nB a1 a0)))]:=by rw[Bj,vH,vM]
 have naB:yR [u8 f,u64 b1,u64 b0] = [vw (decide (4≤uZ (fN f) (nB b1 b0)))]:=by rw[Bj,vH,vM]
 have siA:zH [u8 f,u64 a1,u64 a0] = [vw (decide (uZ (fN f) (nB a1 a0)=5))]:=by rw[CZ,vH,vM]
 have siB:zH [u8 f,u64 b1,u64 b0] = [vw (decide (uZ (fN f) (nB b1 b0)=5))]:=by rw[CZ,vH,vM]
 obtain⟨Ya,hYa⟩:∃ Y,Y=Xa*vF:=⟨_,rfl⟩
 obtain⟨Yb,hYb⟩:∃ Y,Y=Xb*vF:=⟨_,rfl⟩
 have joA:yT [wd Xa 1,wd Xa 0,0,0] = [wd Ya 0,wd Ya 1,wd Ya 2,wd Ya 3]:=by rw[hYa];exact L9 xla
 have joB:yT [wd Xb 1,wd Xb 0,0,0] = [wd Yb 0,wd Yb 1,wd Yb 2,wd Yb 3]:=by rw[hYb];exact L9 xlb
 obtain⟨T,hTT⟩:∃ T,T=FP.cmpT ea Ya eb Yb:=⟨_,rfl⟩
 have mgT:GJ [ea,wd Ya 0,wd Ya 1,wd Ya 2,wd Ya 3,eb,wd Yb 0,wd Yb 1,wd Yb 2,wd Yb 3] = [T]:=by
  rw[aan (by unfold zu;omega) (by unfold zu;omega) (by rw[hYa];exact Ee xla) (by rw[hYb];exact Ee xlb),hTT]
 have hT:uZ (fN f) (nB a1 a0)≤2→uZ (fN f) (nB b1 b0)≤2→(T = -1∧ca<cb)∨(T=0∧ca=cb)∨(T=1∧cb<ca):=fun h1 h2=>by
  rw[hTT,hYa,hYb,hxa,hxb,hea,heb,hca,hcb];exact afM hf h1 h2
 obtain⟨I,hI⟩:∃ I,I=FP.inf (fN f):=⟨_,rfl⟩
 have hI0:0<I:=by rw[hI];exact afK hf
 have fA:4≤uZ (fN f) (nB a1 a0)∨(uZ (fN f) (nB a1 a0)=3∧ca=I)∨(uZ (fN f) (nB a1 a0)=0∧ca=0)∨((uZ (fN f) (nB a1 a0)=1∨uZ (fN f) (nB a1 a0)=2)∧0<ca∧ca<I):=by rw[hca,hI];exact UJ hf _
 have fB:4≤uZ (fN f) (nB b1 b0)∨(uZ (fN f) (nB b1 b0)=3∧cb=I)∨(uZ (fN f) (nB b1 b0)=0∧cb=0)∨((uZ (fN f) (nB b1 b0)=1∨uZ (fN f) (nB b1 b0)=2)∧0<cb∧cb<I):=by rw[hcb,hI];exact UJ hf _
 have sgnt:¬ sA=sB→sA=true→sA=true∧sB=false:=fun h1 h2=>⟨h2,by cases sB;rfl;exact absurd h2 h1⟩
 have sgnf:¬ sA=sB→¬ sA=true→sA=false∧sB=true:=fun h1 h2=>⟨Bool.eq_false_iff.2 h2,by cases sB;exact absurd (Bool.eq_false_iff.2 h2) h1;rfl⟩
 have sget:¬ ¬ sA=sB→sA=true→sA=true∧sB=true:=fun h1 h2=>⟨h2,(Decidable.not_not.1 h1).symm.trans h2⟩
 have sgef:¬ ¬ sA=sB→¬ sA=true→sA=false∧sB=false:=fun h1 h2=>⟨Bool.eq_false_iff.2 h2,(Decidable.not_not.1 h1).symm.trans (Bool.eq_false_iff.2 h2)⟩
 generalize hR:Al (fN f) false (nB a1 a0) (nB b1 b0)=R
 unfold Al at hR
 rw[← hsA,← hsB,← hca,← hcb] at hR
 have rC:¬ 4≤uZ (fN f) (nB a1 a0)→¬ 4≤uZ (fN f) (nB b1 b0)→R=(xm sA sB ca cb,0):=fun h1 h2=>by rw[← hR,if_neg (fun h=>h.elim h1 h2)]
 have rV:(4≤uZ (fN f) (nB a1 a0)∨4≤uZ (fN f) (nB b1 b0))→(uZ (fN f) (nB a1 a0)=5∨uZ (fN f) (nB b1 b0)=5)→R=(3,1):=fun h1 h2=>by rw[← hR,if_pos h1,if_pos (.inr h2)]
 have rQ:(4≤uZ (fN f) (nB a1 a0)∨4≤uZ (fN f) (nB b1 b0))→¬ uZ (fN f) (nB a1 a0)=5→¬ uZ (fN f) (nB b1 b0)=5→R=(3,0):=fun h1 h2 h3=>by
  rw[← hR,if_pos h1,if_neg]
  rintro(h|h)
  ·cases h
  ·exact h.elim h2 h3
 clear hR hTT hYa hYb hca hcb hI
 rw[PN,aba]
 refine tF (by simp only[uY];exact known) ?_
 refine(ve (r:=[vw (decide (4≤uZ (fN f) (nB a1 a0)))]) (by simp only[uY,LY];exact naA) (by rfl)).trans ?_
 refine tI (4≤uZ (fN f) (nB a1 a0)) (by simp only[uY]) (fun h1=>?_) (fun h1=>?_)
 ·refine(ve (r:=[vw (decide (uZ (fN f) (nB a1 a0)=5))]) (by simp only[uY,Vy];exact siA) (by rfl)).trans ?_
  refine tI (uZ (fN f) (nB a1 a0)=5) (by simp only[uY]) (fun h2=>?_) (fun h2=>?_)
  ·rw[vg rfl]
   simp only[uY]
   rw[rV (.inl h1) (.inl h2)];rfl
  ·refine(ve (r:=[vw (decide (uZ (fN f) (nB b1 b0)=5))]) (by simp only[uY,Vy];exact siB) (by rfl)).trans ?_
   refine tI (uZ (fN f) (nB b1 b0)=5) (by simp only[uY]) (fun h3=>?_) (fun h3=>?_)
   ·rw[vg rfl]
    simp only[uY]
    rw[rV (.inl h1) (.inr h3)];rfl
   ·rw[vg rfl]
    simp only[uY]
    rw[rQ (.inl h1) h2 h3];rfl
 ·refine(ve (r:=[vw (decide (4≤uZ (fN f) (nB b1 b0)))]) (by simp only[uY,LY];exact naB) (by rfl)).trans ?_
  refine tI (4≤uZ (fN f) (nB b1 b0)) (by simp only[uY]) (fun h4=>?_) (fun h4=>?_)
  ·refine(ve (r:=[vw (decide (uZ (fN f) (nB a1 a0)=5))]) (by simp only[uY,Vy];exact siA) (by rfl)).trans ?_
   refine tI (uZ (fN f) (nB a1 a0)=5) (by simp only[uY]) (fun h5=>?_) (fun h5=>?_)
   ·rw[vg rfl]
    simp only[uY]
    rw[rV (.inr h4) (.inl h5)];rfl
   ·refine(ve (r:=[vw (decide (uZ (fN f) (nB b1 b0)=5))]) (by simp only[uY,Vy];exact siB) (by rfl)).trans ?_
    refine tI (uZ (fN f) (nB b1 b0)=5) (by simp only[uY]) (fun h6=>?_) (fun h6=>?_)
    ·rw[vg rfl]
     simp only[uY]
     rw[rV (.inr h4) (.inr h6)];rfl
    ·rw[vg rfl]
     simp only[uY]
     rw[rQ (.inr h4) h5 h6];rfl
  ·refine(ve (r:=[vw sA,((uZ (fN f) (nB a1 a0):Nat):Int),ea,wd (Xa) 1,wd (Xa) 0]) (by simp only[uY,PR];exact unA) (by rfl)).trans ?_
   refine(ve (r:=[vw sB,((uZ (fN f) (nB b1 b0):Nat):Int),eb,wd (Xb) 1,wd (Xb) 0]) (by simp only[uY,PR];exact unB) (by rfl)).trans ?_
   refine tI (uZ (fN f) (nB a1 a0)=3) (by simp only[uY,u8A];exact xS _ 3) (fun h7=>?_) (fun h7=>?_)
   ·refine tI (uZ (fN f) (nB b1 b0)=3) (by simp only[uY,u8B];exact xS _ 3) (fun h8=>?_) (fun h8=>?_)
    ·refine tI (¬ sA=sB) (by simp only[uY];cases sA<;>cases sB<;>rfl) (fun h9=>?_) (fun h9=>?_)
     ·refine tI (sA=true) (by simp only[uY];exact(Bool.decide_coe _).symm) (fun h10=>?_) (fun h10=>?_)
      ·rw[vg rfl]
       simp only[uY]
       rw[rC h1 h4]
       obtain⟨q1,q2⟩:=sgnt h9 h10
       rw[q1,q2]
       unfold xm;simp only[Bool.false_eq_true,if_true,if_false];(repeat' split)<;>first|rfl|(exfalso;omega)
      ·rw[vg rfl]
       simp only[uY]
       rw[rC h1 h4]
       obtain⟨q1,q2⟩:=sgnf h9 h10
       rw[q1,q2]
       unfold xm;simp only[Bool.false_eq_true,if_true,if_false];(repeat' split)<;>first|rfl|(exfalso;omega)
     ·refine tI (sA=true) (by simp only[uY];exact(Bool.decide_coe _).symm) (fun h11=>?_) (fun h11=>?_)
      ·rw[vg rfl]
       simp only[uY]
       rw[rC h1 h4]
       obtain⟨q1,q2⟩:=sget h9 h11
       rw[q1,q2]
       unfold xm;simp only[Bool.false_eq_true,if_true,if_false];(repeat' split)<;>first|rfl|(exfalso;omega)
      ·rw[vg rfl]
       simp only[uY]
       rw[rC h1 h4]
       obtain⟨q1,q2⟩:=sgef h9 h11
       rw[q1,q2]
       unfold xm;simp only[Bool.false_eq_true,if_true,if_false];(repeat' split)<;>first|rfl|(exfalso;omega)
    ·refine tI (¬ sA=sB) (by simp only[uY];cases sA<;>cases sB<;>rfl) (fun h12=>?_) (fun h12=>?_)
     ·refine tI (sA=true) (by simp only[uY];exact(Bool.decide_coe _).symm) (fun h13=>?_) (fun h13=>?_)
      ·rw[vg rfl]
       simp only[uY]
       rw[rC h1 h4]
       obtain⟨q1,q2⟩:=sgnt h12 h13
       rw[q1,q2]
       unfold xm;simp only[Bool.false_eq_true,if_true,if_false];(repeat' split)<;>first|rfl|(exfalso;omega)
      ·rw[vg rfl]
       simp only[uY]
       rw[rC h1 h4]
       obtain⟨q1,q2⟩:=sgnf h12 h13
       rw[q1,q2]
       unfold xm;simp only[Bool.false_eq_true,if_true,if_false];(repeat' split)<;>first|rfl|(exfalso;omega)
     ·refine tI (sA=true) (by simp only[uY];exact(Bool.decide_coe _).symm) (fun h14=>?_) (fun h14=>?_)
      ·rw[vg rfl]
       simp only[uY]
       rw[rC h1 h4]
       obtain⟨q1,q2⟩:=sget h12 h14
       rw[q1,q2]
       unfold xm;simp only[Bool.false_eq_true,if_true,if_false];(repeat' split)<;>first|rfl|(exfalso;omega)
      ·rw[vg rfl]
       simp only[uY]
       rw[rC h1 h4]
       obtain⟨q1,q2⟩:=sgef h12 h14
       rw[q1,q2]
       unfold xm;simp only[Bool.false_eq_true,if_true,if_false];(repeat' split)<;>first|rfl|(exfalso;omega)
   ·refine tI (uZ (fN f) (nB b1 b0)=3) (by simp only[uY,u8B];exact xS _ 3) (fun h15=>?_) (fun h15=>?_)
    ·refine tI (uZ (fN f) (nB a1 a0)=0) (by simp only[uY,u8A];exact xS _ 0) (fun h16=>?_) (fun h16=>?_)
     ·refine tI (¬ sA=sB) (by simp only[uY];cases sA<;>cases sB<;>rfl) (fun h17=>?_) (fun h17=>?_)
      ·refine tI (sA=true) (by simp only[uY];exact(Bool.decide_coe _).symm) (fun h18=>?_) (fun h18=>?_)
       ·rw[vg rfl]
        simp only[uY]
        rw[rC h1 h4]
        obtain⟨q1,q2⟩:=sgnt h17 h18
        rw[q1,q2]
        unfold xm;simp only[Bool.false_eq_true,if_true,if_false];(repeat' split)<;>first|rfl|(exfalso;omega)
       ·rw[vg rfl]
        simp only[uY]
        rw[rC h1 h4]
        obtain⟨q1,q2⟩:=sgnf h17 h18
        rw[q1,q2]
        unfold xm;simp only[Bool.false_eq_true,if_true,if_false];(repeat' split)<;>first|rfl|(exfalso;omega)
      ·refine tI (sA=true) (by simp only[uY];exact(Bool.decide_coe _).symm) (fun h19=>?_) (fun h19=>?_)
       ·rw[vg rfl]
        simp only[uY]
        rw[rC h1 h4]
        obtain⟨q1,q2⟩:=sget h17 h19
        rw[q1,q2]
        unfold xm;simp only[Bool.false_eq_true,if_true,if_false];(repeat' split)<;>first|rfl|(exfalso;omega)
       ·rw[vg rfl]
        simp only[uY]
        rw[rC h1 h4]
        obtain⟨q1,q2⟩:=sgef h17 h19
        rw[q1,q2]
        unfold xm;simp only[Bool.false_eq_true,if_true,if_false];(repeat' split)<;>first|rfl|(exfalso;omega)
     ·refine tI (¬ sA=sB) (by simp only[uY];cases sA<;>cases sB<;>rfl) (fun h20=>?_) (fun h20=>?_)
      ·refine tI (sA=true) (by simp only[uY];exact(Bool.decide_coe _).symm) (fun h21=>?_) (fun h21=>?_)
       ·rw[vg rfl]
        simp only[uY]
        rw[rC h1 h4]
        obtain⟨q1,q2⟩:=sgnt h20 h21
        rw[q1,q2]
        unfold xm;simp only[Bool.false_eq_true,if_true,if_false];(repeat' split)<;>first|rfl|(exfalso;omega)
       ·rw[vg rfl]
        simp only[uY]
        rw[rC h1 h4]
        obtain⟨q1,q2⟩:=sgnf h20 h21
        rw[q1,q2]
        unfold xm;simp only[Bool.false_eq_true,if_true,if_false];(repeat' split)<;>first|rfl|(exfalso;omega)
      ·refine tI (sA=true) (by simp only[uY];exact(Bool.decide_coe _).symm) (fun h22=>?_) (fun h22=>?_)
       ·rw[vg rfl]
        simp only[uY]
        rw[rC h1 h4]
        obtain⟨q1,q2⟩:=sget h20 h22
        rw[q1,q2]
        unfold xm;simp only[Bool.false_eq_true,if_true,if_false];(repeat' split)<;>first|rfl|(exfalso;omega)
       ·rw[vg rfl]
        simp only[uY]
        rw[rC h1 h4]
        obtain⟨q1,q2⟩:=sgef h20 h22
        rw[q1,q2]
        unfold xm;simp only[Bool.false_eq_true,if_true,if_false];(repeat' split)<;>first|rfl|(exfalso;omega)
    ·refine(ve (r:=[wd (Ya) 0,wd (Ya) 1,wd (Ya) 2,wd (Ya) 3]) (by simp only[uY,LX];exact joA) (by rfl)).trans ?_
     refine(ve (r:=[wd (Yb) 0,wd (Yb) 1,wd (Yb) 2,wd (Yb) 3]) (by simp only[uY,LX];exact joB) (by rfl)).trans ?_
     refine(ve (r:=[T]) (by simp only[uY,aho,iea,ieb];exact mgT) (by rfl)).trans ?_
     refine tI (uZ (fN f) (nB a1 a0)=0) (by simp only[uY,u8A];exact xS _ 0) (fun h23=>?_) (fun h23=>?_)
     ·refine tI (uZ (fN f) (nB b1 b0)=0) (by simp only[uY,u8B];exact xS _ 0) (fun h24=>?_) (fun h24=>?_)
      ·rw[vg rfl]
       simp only[uY]
       rw[rC h1 h4]
       unfold xm;simp only[Bool.false_eq_true,if_true,if_false];(repeat' split)<;>first|rfl|(exfalso;omega)
      ·refine tI (¬ sA=sB) (by simp only[uY];cases sA<;>cases sB<;>rfl) (fun h25=>?_) (fun h25=>?_)
       ·refine tI (sA=true) (by simp only[uY];exact(Bool.decide_coe _).symm) (fun h26=>?_) (fun h26=>?_)
        ·rw[vg rfl]
         simp only[uY]
         rw[rC h1 h4]
         obtain⟨q1,q2⟩:=sgnt h25 h26
         rw[q1,q2]
         unfold xm;simp only[Bool.false_eq_true,if_true,if_false];(repeat' split)<;>first|rfl|(exfalso;omega)
        ·rw[vg rfl]
         simp only[uY]
         rw[rC h1 h4]
         obtain⟨q1,q2⟩:=sgnf h25 h26
         rw[q1,q2]
         unfold xm;simp only[Bool.false_eq_true,if_true,if_false];(repeat' split)<;>first|rfl|(exfalso;omega)
       ·refine tI (sA=true) (by simp only[uY];exact(Bool.decide_coe _).symm) (fun h27=>?_) (fun h27=>?_)
        ·rw[vg rfl]
         simp only[uY]
         rw[rC h1 h4]
         obtain⟨q1,q2⟩:=sget h25 h27
         rw[q1,q2]
         rcases hT (by omega) (by omega) with⟨t1,t2⟩|⟨t1,t2⟩|⟨t1,t2⟩<;>rw[t1]<;>unfold xm<;>simp only[Bool.false_eq_true,if_true,if_false]<;>(repeat' split)<;>first|rfl|(exfalso;omega)
        ·rw[vg rfl]
         simp only[uY]
         rw[rC h1 h4]
         obtain⟨q1,q2⟩:=sgef h25 h27
         rw[q1,q2]
         rcases hT (by omega) (by omega) with⟨t1,t2⟩|⟨t1,t2⟩|⟨t1,t2⟩<;>rw[t1]<;>unfold xm<;>simp only[Bool.false_eq_true,if_true,if_false]<;>(repeat' split)<;>first|rfl|(exfalso;omega)
     ·refine tI (¬ sA=sB) (by simp only[uY];cases sA<;>cases sB<;>rfl) (fun h28=>?_) (fun h28=>?_)
      ·refine tI (sA=true) (by simp only[uY];exact(Bool.decide_coe _).symm) (fun h29=>?_) (fun h29=>?_)
       ·rw[vg rfl]
        simp only[uY]
        rw[rC h1 h4]
        obtain⟨q1,q2⟩:=sgnt h28 h29
        rw[q1,q2]
        unfold xm;simp only[Bool.false_eq_true,if_true,if_false];(repeat' split)<;>first|rfl|(exfalso;omega)
       ·rw[vg rfl]
        simp only[uY]
        rw[rC h1 h4]
        obtain⟨q1,q2⟩:=sgnf h28 h29
        rw[q1,q2]
        unfold xm;simp only[Bool.false_eq_true,if_true,if_false];(repeat' split)<;>first|rfl|(exfalso;omega)
      ·refine tI (sA=true) (by simp only[uY];exact(Bool.decide_coe _).symm) (fun h30=>?_) (fun h30=>?_)
       ·rw[vg rfl]
        simp only[uY]
        rw[rC h1 h4]
        obtain⟨q1,q2⟩:=sget h28 h30
        rw[q1,q2]
        rcases hT (by omega) (by omega) with⟨t1,t2⟩|⟨t1,t2⟩|⟨t1,t2⟩<;>rw[t1]<;>unfold xm<;>simp only[Bool.false_eq_true,if_true,if_false]<;>(repeat' split)<;>first|rfl|(exfalso;omega)
       ·rw[vg rfl]
        simp only[uY]
        rw[rC h1 h4]
        obtain⟨q1,q2⟩:=sgef h28 h30
        rw[q1,q2]
        rcases hT (by omega) (by omega) with⟨t1,t2⟩|⟨t1,t2⟩|⟨t1,t2⟩<;>rw[t1]<;>unfold xm<;>simp only[Bool.false_eq_true,if_true,if_false]<;>(repeat' split)<;>first|rfl|(exfalso;omega)
theorem aqJ (f a1 a0 b1 b0:Int) (hf:fN f<4):PP [f,a1,a0,b1,b0] = [((Al (fN f) true (nB a1 a0) (nB b1 b0)).1:Int),((Al (fN f) true (nB a1 a0) (nB b1 b0)).2:Int)]:=by
 have hf3:fN (u8 f)<4:=by rw[vH];exact hf
 have known:=Db hf
 have sg:∀ x,yU (fN f) x=FP.sgn (fN f) x:=fun x=>by unfold yU;rw[decide_eq_true hf,Bool.true_and]
 obtain⟨Xa,hxa⟩:∃ x,x=wu (fN f) (nB a1 a0):=⟨_,rfl⟩
 obtain⟨Xb,hxb⟩:∃ x,x=wu (fN f) (nB b1 b0):=⟨_,rfl⟩
 obtain⟨ea,hea⟩:∃ e,e=vQ (fN f) (nB a1 a0):=⟨_,rfl⟩
 obtain⟨eb,heb⟩:∃ e,e=vQ (fN f) (nB b1 b0):=⟨_,rfl⟩
 obtain⟨sA,hsA⟩:∃ s,s=FP.sgn (fN f) (nB a1 a0):=⟨_,rfl⟩
 obtain⟨sB,hsB⟩:∃ s,s=FP.sgn (fN f) (nB b1 b0):=⟨_,rfl⟩
 obtain⟨ca,hca⟩:∃ c,c=FP.cod (fN f) (nB a1 a0):=⟨_,rfl⟩
 obtain⟨cb,hcb⟩:∃ c,c=FP.cod (fN f) (nB b1 b0):=⟨_,rfl⟩
 have ra:=yJ (f:=fN f) (b:=nB a1 a0)
 have rb:=yJ (f:=fN f) (b:=nB b1 b0)
 rw[← hea] at ra
 rw[← heb] at rb
 have iea:i64 ea=ea:=wL (by omega) (by omega)
 have ieb:i64 eb=eb:=wL (by omega) (by omega)
 have xla:Xa<vF:=by rw[hxa];exact zL _ _
 have xlb:Xb<vF:=by rw[hxb];exact zL _ _
 have unA:yA [u8 f,u64 a1,u64 a0] = [vw sA,((uZ (fN f) (nB a1 a0):Nat):Int),ea,wd Xa 1,wd Xa 0]:=by
  rw[Bl,vH,vM,sg,vR,hxa,hea,hsA];rfl
 have unB:yA [u8 f,u64 b1,u64 b0] = [vw sB,((uZ (fN f) (nB b1 b0):Nat):Int),eb,wd Xb 1,wd Xb 0]:=by
  rw[Bl,vH,vM,sg,vR,hxb,heb,hsB];rfl
 have u8A:=Ak (fN f) (nB a1 a0)
 have u8B:=Ak (fN f) (nB b1 b0)
 have naA:yR [u8 f,u64 a1,u64 a0] = [vw (decide (4≤uZ (fN f) (nB a1 a0)))]:=by rw[Bj,vH,vM]
 have naB:yR [u8 f,u64 b1,u64 b0] = [vw (decide (4≤uZ (fN f) (nB b1 b0)))]:=by rw[Bj,vH,vM]
 have siA:zH [u8 f,u64 a1,u64 a0] = [vw (decide (uZ (fN f) (nB a1 a0)=5))]:=by rw[CZ,vH,vM]
 have siB:zH [u8 f,u64 b1,u64 b0] = [vw (decide (uZ (fN f) (nB b1 b0)=5))]:=by rw[CZ,vH,vM]
 obtain⟨Ya,hYa⟩:∃ Y,Y=Xa*vF:=⟨_,rfl⟩
 obtain⟨Yb,hYb⟩:∃ Y,Y=Xb*vF:=⟨_,rfl⟩
 have joA:yT [wd Xa 1,wd Xa 0,0,0] = [wd Ya 0,wd Ya 1,wd Ya 2,wd Ya 3]:=by rw[hYa];exact L9 xla
 have joB:yT [wd Xb 1,wd Xb 0,0,0] = [wd Yb 0,wd Yb 1,wd Yb 2,wd Yb 3]:=by rw[hYb];exact L9 xlb
 obtain⟨T,hTT⟩:∃ T,T=FP.cmpT ea Ya eb Yb:=⟨_,rfl⟩
 have mgT:GJ [ea,wd Ya 0,wd Ya 1,wd Ya 2,wd Ya 3,eb,wd Yb 0,wd Yb 1,wd Yb 2,wd Yb 3] = [T]:=by
  rw[aan (by unfold zu;omega) (by unfold zu;omega) (by rw[hYa];exact Ee xla) (by rw[hYb];exact Ee xlb),hTT]
 have hT:uZ (fN f) (nB a1 a0)≤2→uZ (fN f) (nB b1 b0)≤2→(T = -1∧ca<cb)∨(T=0∧ca=cb)∨(T=1∧cb<ca):=fun h1 h2=>by
  rw[hTT,hYa,hYb,hxa,hxb,hea,heb,hca,hcb];exact afM hf h1 h2
 obtain⟨I,hI⟩:∃ I,I=FP.inf (fN f):=⟨_,rfl⟩
 have hI0:0<I:=by rw[hI];exact afK hf
 have fA:4≤uZ (fN f) (nB a1 a0)∨(uZ (fN f) (nB a1 a0)=3∧ca=I)∨(uZ (fN f) (nB a1 a0)=0∧ca=0)∨((uZ (fN f) (nB a1 a0)=1∨uZ (fN f) (nB a1 a0)=2)∧0<ca∧ca<I):=by rw[hca,hI];exact UJ hf _
 have fB:4≤uZ (fN f) (nB b1 b0)∨(uZ (fN f) (nB b1 b0)=3∧cb=I)∨(uZ (fN f) (nB b1 b0)=0∧cb=0)∨((uZ (fN f) (nB b1 b0)=1∨uZ (fN f) (nB b1 b0)=2)∧0<cb∧cb<I):=by rw[hcb,hI];exact UJ hf _
 have sgnt:¬ sA=sB→sA=true→sA=true∧sB=false:=fun h1 h2=>⟨h2,by cases sB;rfl;exact absurd h2 h1⟩
 have sgnf:¬ sA=sB→¬ sA=true→sA=false∧sB=true:=fun h1 h2=>⟨Bool.eq_false_iff.2 h2,by cases sB;exact absurd (Bool.eq_false_iff.2 h2) h1;rfl⟩
 have sget:¬ ¬ sA=sB→sA=true→sA=true∧sB=true:=fun h1 h2=>⟨h2,(Decidable.not_not.1 h1).symm.trans h2⟩
 have sgef:¬ ¬ sA=sB→¬ sA=true→sA=false∧sB=false:=fun h1 h2=>⟨Bool.eq_false_iff.2 h2,(Decidable.not_not.1 h1).symm.trans (Bool.eq_false_iff.2 h2)⟩
 generalize hR:Al (fN f) true (nB a1 a0) (nB b1 b0)=R
 unfold Al at hR
 rw[← hsA,← hsB,← hca,← hcb] at hR
 have rC:¬ 4≤uZ (fN f) (nB a1 a0)→¬ 4≤uZ (fN f) (nB b1 b0)→R=(xm sA sB ca cb,0):=fun h1 h2=>by rw[← hR,if_neg (fun h=>h.elim h1 h2)]
 have rS:(4≤uZ (fN f) (nB a1 a0)∨4≤uZ (fN f) (nB b1 b0))→R=(3,1):=fun h1=>by rw[← hR,if_pos h1,if_pos (.inl rfl)]
 clear hR hTT hYa hYb hca hcb hI
 rw[PP,abb]
 refine tF (by simp only[uY];exact known) ?_
 refine(ve (r:=[vw (decide (4≤uZ (fN f) (nB a1 a0)))]) (by simp only[uY,LY];exact naA) (by rfl)).trans ?_
 refine tI (4≤uZ (fN f) (nB a1 a0)) (by simp only[uY]) (fun h1=>?_) (fun h1=>?_)
 ·refine(ve (r:=[vw (decide (4≤uZ (fN f) (nB a1 a0)))]) (by simp only[uY,LY];exact naA) (by rfl)).trans ?_
  refine tT (by simp only[uY];exact decide_eq_true h1) ?_
  rw[vg rfl]
  simp only[uY]
  rw[rS (.inl h1)];rfl
 ·refine(ve (r:=[vw (decide (4≤uZ (fN f) (nB b1 b0)))]) (by simp only[uY,LY];exact naB) (by rfl)).trans ?_
  refine tI (4≤uZ (fN f) (nB b1 b0)) (by simp only[uY]) (fun h2=>?_) (fun h2=>?_)
  ·refine(ve (r:=[vw (decide (4≤uZ (fN f) (nB a1 a0)))]) (by simp only[uY,LY];exact naA) (by rfl)).trans ?_
   refine tF (by simp only[uY];exact decide_eq_false h1) ?_
   refine(ve (r:=[vw (decide (4≤uZ (fN f) (nB b1 b0)))]) (by simp only[uY,LY];exact naB) (by rfl)).trans ?_
   refine tT (by simp only[uY];exact decide_eq_true h2) ?_
   rw[vg rfl]
   simp only[uY]
   rw[rS (.inr h2)];rfl
  ·refine(ve (r:=[vw sA,((uZ (fN f) (nB a1 a0):Nat):Int),ea,wd (Xa) 1,wd (Xa) 0]) (by simp only[uY,PR];exact unA) (by rfl)).trans ?_
   refine(ve (r:=[vw sB,((uZ (fN f) (nB b1 b0):Nat):Int),eb,wd (Xb) 1,wd (Xb) 0]) (by simp only[uY,PR];exact unB) (by rfl)).trans ?_
   refine tI (uZ (fN f) (nB a1 a0)=3) (by simp only[uY,u8A];exact xS _ 3) (fun h3=>?_) (fun h3=>?_)
   ·refine tI (uZ (fN f) (nB b1 b0)=3) (by simp only[uY,u8B];exact xS _ 3) (fun h4=>?_) (fun h4=>?_)
    ·refine tI (¬ sA=sB) (by simp only[uY];cases sA<;>cases sB<;>rfl) (fun h5=>?_) (fun h5=>?_)
     ·refine tI (sA=true) (by simp only[uY];exact(Bool.decide_coe _).symm) (fun h6=>?_) (fun h6=>?_)
      ·rw[vg rfl]
       simp only[uY]
       rw[rC h1 h2]
       obtain⟨q1,q2⟩:=sgnt h5 h6
       rw[q1,q2]
       unfold xm;simp only[Bool.false_eq_true,if_true,if_false];(repeat' split)<;>first|rfl|(exfalso;omega)
      ·rw[vg rfl]
       simp only[uY]
       rw[rC h1 h2]
       obtain⟨q1,q2⟩:=sgnf h5 h6
       rw[q1,q2]
       unfold xm;simp only[Bool.false_eq_true,if_true,if_false];(repeat' split)<;>first|rfl|(exfalso;omega)
     ·refine tI (sA=true) (by simp only[uY];exact(Bool.decide_coe _).symm) (fun h7=>?_) (fun h7=>?_)
      ·rw[vg rfl]
       simp only[uY]
       rw[rC h1 h2]
       obtain⟨q1,q2⟩:=sget h5 h7
       rw[q1,q2]
       unfold xm;simp only[Bool.false_eq_true,if_true,if_false];(repeat' split)<;>first|rfl|(exfalso;omega)
      ·rw[vg rfl]
       simp only[uY]
       rw[rC h1 h2]
       obtain⟨q1,q2⟩:=sgef h5 h7
       rw[q1,q2]
       unfold xm;simp only[Bool.false_eq_true,if_true,if_false];(repeat' split)<;>first|rfl|(exfalso;omega)
    ·refine tI (¬ sA=sB) (by simp only[uY];cases sA<;>cases sB<;>rfl) (fun h8=>?_) (fun h8=>?_)
     ·refine tI (sA=true) (by simp only[uY];exact(Bool.decide_coe _).symm) (fun h9=>?_) (fun h9=>?_)
      ·rw[vg rfl]
       simp only[uY]
       rw[rC h1 h2]
       obtain⟨q1,q2⟩:=sgnt h8 h9
       rw[q1,q2]
       unfold xm;simp only[Bool.false_eq_true,if_true,if_false];(repeat' split)<;>first|rfl|(exfalso;omega)
      ·rw[vg rfl]
       simp only[uY]
       rw[rC h1 h2]
       obtain⟨q1,q2⟩:=sgnf h8 h9
       rw[q1,q2]
       unfold xm;simp only[Bool.false_eq_true,if_true,if_false];(repeat' split)<;>first|rfl|(exfalso;omega)
     ·refine tI (sA=true) (by simp only[uY];exact(Bool.decide_coe _).symm) (fun h10=>?_) (fun h10=>?_)
      ·rw[vg rfl]
       simp only[uY]
       rw[rC h1 h2]
       obtain⟨q1,q2⟩:=sget h8 h10
       rw[q1,q2]
       unfold xm;simp only[Bool.false_eq_true,if_true,if_false];(repeat' split)<;>first|rfl|(exfalso;omega)
      ·rw[vg rfl]
       simp only[uY]
       rw[rC h1 h2]
       obtain⟨q1,q2⟩:=sgef h8 h10
       rw[q1,q2]
       unfold xm;simp only[Bool.false_eq_true,if_true,if_false];(repeat' split)<;>first|rfl|(exfalso;omega)
   ·refine tI (uZ (fN f) (nB b1 b0)=3) (by simp only[uY,u8B];exact xS _ 3) (fun h11=>?_) (fun h11=>?_)
    ·refine tI (uZ (fN f) (nB a1 a0)=0) (by simp only[uY,u8A];exact xS _ 0) (fun h12=>?_) (fun h12=>?_)
     ·refine tI (¬ sA=sB) (by simp only[uY];cases sA<;>cases sB<;>rfl) (fun h13=>?_) (fun h13=>?_)
      ·refine tI (sA=true) (by simp only[uY];exact(Bool.decide_coe _).symm) (fun h14=>?_) (fun h14=>?_)
       ·rw[vg rfl]
        simp only[uY]
        rw[rC h1 h2]
        obtain⟨q1,q2⟩:=sgnt h13 h14
        rw[q1,q2]
        unfold xm;simp only[Bool.false_eq_true,if_true,if_false];(repeat' split)<;>first|rfl|(exfalso;omega)
       ·rw[vg rfl]
        simp only[uY]
        rw[rC h1 h2]
        obtain⟨q1,q2⟩:=sgnf h13 h14
        rw[q1,q2]
        unfold xm;simp only[Bool.false_eq_true,if_true,if_false];(repeat' split)<;>first|rfl|(exfalso;omega)
      ·refine tI (sA=true) (by simp only[uY];exact(Bool.decide_coe _).symm) (fun h15=>?_) (fun h15=>?_)
       ·rw[vg rfl]
        simp only[uY]
        rw[rC h1 h2]
        obtain⟨q1,q2⟩:=sget h13 h15
        rw[q1,q2]
        unfold xm;simp only[Bool.false_eq_true,if_true,if_false];(repeat' split)<;>first|rfl|(exfalso;omega)
       ·rw[vg rfl]
        simp only[uY]
        rw[rC h1 h2]
        obtain⟨q1,q2⟩:=sgef h13 h15
        rw[q1,q2]
        unfold xm;simp only[Bool.false_eq_true,if_true,if_false];(repeat' split)<;>first|rfl|(exfalso;omega)
     ·refine tI (¬ sA=sB) (by simp only[uY];cases sA<;>cases sB<;>rfl) (fun h16=>?_) (fun h16=>?_)
      ·refine tI (sA=true) (by simp only[uY];exact(Bool.decide_coe _).symm) (fun h17=>?_) (fun h17=>?_)
       ·rw[vg rfl]
        simp only[uY]
        rw[rC h1 h2]
        obtain⟨q1,q2⟩:=sgnt h16 h17
        rw[q1,q2]
        unfold xm;simp only[Bool.false_eq_true,if_true,if_false];(repeat' split)<;>first|rfl|(exfalso;omega)
       ·rw[vg rfl]
        simp only[uY]
        rw[rC h1 h2]
        obtain⟨q1,q2⟩:=sgnf h16 h17
        rw[q1,q2]
        unfold xm;simp only[Bool.false_eq_true,if_true,if_false];(repeat' split)<;>first|rfl|(exfalso;omega)
      ·refine tI (sA=true) (by simp only[uY];exact(Bool.decide_coe _).symm) (fun h18=>?_) (fun h18=>?_)
       ·rw[vg rfl]
        simp only[uY]
        rw[rC h1 h2]
        obtain⟨q1,q2⟩:=sget h16 h18
        rw[q1,q2]
        unfold xm;simp only[Bool.false_eq_true,if_true,if_false];(repeat' split)<;>first|rfl|(exfalso;omega)
       ·rw[vg rfl]
        simp only[uY]
        rw[rC h1 h2]
        obtain⟨q1,q2⟩:=sgef h16 h18
        rw[q1,q2]
        unfold xm;simp only[Bool.false_eq_true,if_true,if_false];(repeat' split)<;>first|rfl|(exfalso;omega)
    ·refine(ve (r:=[wd (Ya) 0,wd (Ya) 1,wd (Ya) 2,wd (Ya) 3]) (by simp only[uY,LX];exact joA) (by rfl)).trans ?_
     refine(ve (r:=[wd (Yb) 0,wd (Yb) 1,wd (Yb) 2,wd (Yb) 3]) (by simp only[uY,LX];exact joB) (by rfl)).trans ?_
     refine(ve (r:=[T]) (by simp only[uY,aho,iea,ieb];exact mgT) (by rfl)).trans ?_
     refine tI (uZ (fN f) (nB a1 a0)=0) (by simp only[uY,u8A];exact xS _ 0) (fun h19=>?_) (fun h19=>?_)
     ·refine tI (uZ (fN f) (nB b1 b0)=0) (by simp only[uY,u8B];exact xS _ 0) (fun h20=>?_) (fun h20=>?_)
      ·rw[vg rfl]
       simp only[uY]
       rw[rC h1 h2]
       unfold xm;simp only[Bool.false_eq_true,if_true,if_false];(repeat' split)<;>first|rfl|(exfalso;omega)
      ·refine tI (¬ sA=sB) (by simp only[uY];cases sA<;>cases sB<;>rfl) (fun h21=>?_) (fun h21=>?_)
       ·refine tI (sA=true) (by simp only[uY];exact(Bool.decide_coe _).symm) (fun h22=>?_) (fun h22=>?_)
        ·rw[vg rfl]
         simp only[uY]
         rw[rC h1 h2]
         obtain⟨q1,q2⟩:=sgnt h21 h22
         rw[q1,q2]
         unfold xm;simp only[Bool.false_eq_true,if_true,if_false];(repeat' split)<;>first|rfl|(exfalso;omega)
        ·rw[vg rfl]
         simp only[uY]
         rw[rC h1 h2]
         obtain⟨q1,q2⟩:=sgnf h21 h22
         rw[q1,q2]
         unfold xm;simp only[Bool.false_eq_true,if_true,if_false];(repeat' split)<;>first|rfl|(exfalso;omega)
       ·refine tI (sA=true) (by simp only[uY];exact(Bool.decide_coe _).symm) (fun h23=>?_) (fun h23=>?_)
        ·rw[vg rfl]
         simp only[uY]
         rw[rC h1 h2]
         obtain⟨q1,q2⟩:=sget h21 h23
         rw[q1,q2]
         rcases hT (by omega) (by omega) with⟨t1,t2⟩|⟨t1,t2⟩|⟨t1,t2⟩<;>rw[t1]<;>unfold xm<;>simp only[Bool.false_eq_true,if_true,if_false]<;>(repeat' split)<;>first|rfl|(exfalso;omega)
        ·rw[vg rfl]
         simp only[uY]
         rw[rC h1 h2]
         obtain⟨q1,q2⟩:=sgef h21 h23
         rw[q1,q2]
         rcases hT (by omega) (by omega) with⟨t1,t2⟩|⟨t1,t2⟩|⟨t1,t2⟩<;>rw[t1]<;>unfold xm<;>simp only[Bool.false_eq_true,if_true,if_false]<;>(repeat' split)<;>first|rfl|(exfalso;omega)
     ·refine tI (¬ sA=sB) (by simp only[uY];cases sA<;>cases sB<;>rfl) (fun h24=>?_) (fun h24=>?_)
      ·refine tI (sA=true) (by simp only[uY];exact(Bool.decide_coe _).symm) (fun h25=>?_) (fun h25=>?_)
       ·rw[vg rfl]
        simp only[uY]
        rw[rC h1 h2]
        obtain⟨q1,q2⟩:=sgnt h24 h25
        rw[q1,q2]
        unfold xm;simp only[Bool.false_eq_true,if_true,if_false];(repeat' split)<;>first|rfl|(exfalso;omega)
       ·rw[vg rfl]
        simp only[uY]
        rw[rC h1 h2]
        obtain⟨q1,q2⟩:=sgnf h24 h25
        rw[q1,q2]
        unfold xm;simp only[Bool.false_eq_true,if_true,if_false];(repeat' split)<;>first|rfl|(exfalso;omega)
      ·refine tI (sA=true) (by simp only[uY];exact(Bool.decide_coe _).symm) (fun h26=>?_) (fun h26=>?_)
       ·rw[vg rfl]
        simp only[uY]
        rw[rC h1 h2]
        obtain⟨q1,q2⟩:=sget h24 h26
        rw[q1,q2]
        rcases hT (by omega) (by omega) with⟨t1,t2⟩|⟨t1,t2⟩|⟨t1,t2⟩<;>rw[t1]<;>unfold xm<;>simp only[Bool.false_eq_true,if_true,if_false]<;>(repeat' split)<;>first|rfl|(exfalso;omega)
       ·rw[vg rfl]
        simp only[uY]
        rw[rC h1 h2]
        obtain⟨q1,q2⟩:=sgef h24 h26
        rw[q1,q2]
        rcases hT (by omega) (by omega) with⟨t1,t2⟩|⟨t1,t2⟩|⟨t1,t2⟩<;>rw[t1]<;>unfold xm<;>simp only[Bool.false_eq_true,if_true,if_false]<;>(repeat' split)<;>first|rfl|(exfalso;omega)
open Go.RowKit
def GQ (f m:Nat) (t:Bool) (a b:Nat):Nat×Nat:=Cn f m t a (if 4≤uZ f b then b else FE f b)
theorem GR {g:Nat} (h:GV g):g≤255:=by unfold GV at h;omega
theorem aqK (f m t a1 a0 b1 b0:Int) (hf:fN f<4) (hm:u8 m≤4):Pq [f,m,t,a1,a0,b1,b0]=oR (GQ (fN f) (u8 m).toNat (vG t) (nB a1 a0) (nB b1 b0)):=by
 have hf3:fN (u8 f)<4:=by rw[vH];exact hf
 have hm3:u8 (u8 m)≤4:=by rw[wS];exact hm
 rw[Pq,aaX]
 refine(ve (r:=[vw (decide (4≤uZ (fN f) (nB b1 b0)))]) (by simp only[uY,atd];rw[Bj,vH,vM]) (by rfl)).trans ?_
 unfold GQ
 refine tI (¬ 4≤uZ (fN f) (nB b1 b0)) (by simp only[uY];exact(decide_not).symm) (fun h=>?_) (fun h=>?_)
 ·rw[if_neg h]
  refine(ve (r:=[wd (FE (fN f) (nB b1 b0)) 1,wd (FE (fN f) (nB b1 b0)) 0]) (by simp only[uY,ate];rw[apj,vH,vM,vR]) (by rfl)).trans ?_
  have hg:=GR (LF (m:=(u8 m).toNat) (t:=vG t) (a:=nB a1 a0) (b:=FE (fN f) (nB b1 b0)) hf).fl
  refine(ve (r:=oR (Cn (fN f) (u8 m).toNat (vG t) (nB a1 a0) (FE (fN f) (nB b1 b0)))) (by simp only[uY,agY];rw[abl _ _ _ _ _ _ _ hf3 hm3,vH,wS,vJ,vM,xn (apk _ _)]) (by rw[Am];rfl)).trans ?_
  rw[Am,vg rfl]
  simp only[uY,BD hg]
 ·rw[if_pos (Decidable.not_not.1 h)]
  have hg:=GR (LF (m:=(u8 m).toNat) (t:=vG t) (a:=nB a1 a0) (b:=nB b1 b0) hf).fl
  refine(ve (r:=oR (Cn (fN f) (u8 m).toNat (vG t) (nB a1 a0) (nB b1 b0))) (by simp only[uY,agY];rw[abl _ _ _ _ _ _ _ hf3 hm3,vH,wS,vJ,vM,vM]) (by rw[Am];rfl)).trans ?_
  rw[Am,vg rfl]
  simp only[uY,BD hg]
theorem aqL {f m a b:Nat} {t:Bool} (hf:f<4):(GQ f m t a b).2≤255:=GR (LF hf).fl
theorem afN:vG 0=false:=rfl
theorem afO:vG 1=true:=rfl
def yc (o:Int) (t f m:Nat) (u:Bool) (A B C n:Nat):Nat×Nat :=
 if o=1 then Cn f m u A B else if o=2 then GQ f m u A B else if o=3 then IC f m u A B else if o=4 then FI f m u A B
 else if o=5 then G9 f m u A else if o=6 then C9 f m u A B C else if o=7 then Df f A B else if o=8 then BS f m false A else if o=9 then BS f m true A
 else if o=10 then IE f t m u A else if o=11 then Ej f t m A else if o=12 then FL f m u t n else if o=13 then Al f false A B else Al f true A B
theorem afP {f m a:Nat} {x:Bool} : (BS f m x a).2≤255:=by
 unfold BS;split
 ·simp only;split<;>omega
 split
 ·simp
 ·simp only;split<;>omega
theorem aqM {f k m a:Nat} : (Ej f k m a).2≤255:=by
 unfold Ej;split
 ·simp
 split
 ·simp
 ·simp only;split<;>omega
theorem UK {f k m a:Nat} : (Ej f k m a).1<vC:=by
 have h1:∀ s n,n≤18446744073709551615→Dw s n<vC:=fun s n h=>by unfold Dw vC;split<;>omega
 unfold Ej;split
 ·simp[vC]
 split
 ·exact h1 _ _ (GN _ _)
 ·rename_i h
  have:=GN k (FP.sgn f a)
  refine h1 _ _ ?_
  omega
theorem aqN {f m k n:Nat} {u:Bool} : (FL f m u k n).2≤255:=by
 have:=FP.roundC_flag_set (FP.fP f) (FP.fE f) m u (El k n) (FK k n*2^FP.fU f) 1
 show(FP.roundC (FP.fP f) (FP.fE f) m u (El k n) (FK k n*2^FP.fU f) 1).2≤255
 omega
theorem aqO (s t:Bool) (c d:Nat):xm s t c d≤2:=by
  unfold xm;repeat' split
  all_goals omega
theorem J7 {f a b:Nat} {l:Bool} : (Al f l a b).1≤255:=by
 unfold Al;split
 ·simp
 ·have:=aqO (FP.sgn f a) (FP.sgn f b) (FP.cod f a) (FP.cod f b);simp only;omega
theorem afQ {f a b:Nat} {l:Bool} : (Al f l a b).2≤255:=by
 unfold Al;split
 ·simp only;split<;>omega
 ·simp
theorem O9 {n:Nat} (h:n<vC):wd n 1=0∧wd n 0=(n:Int):=by
 unfold vC at h
 unfold wd vC
 simp
 omega
theorem aqP (o f t m i a1 a0 b1 b0 c1 c0:Int) (hb:Pd o f t m i a1 a0 b1 b0 c1 c0=true):ym [o,f,t,m,i,a1,a0,b1,b0,c1,c0] =
  [0,wd (yc (u8 o) (fN t) (fN f) (u8 m).toNat (u8 i==1) (nB a1 a0) (nB b1 b0) (nB c1 c0) (u64 a0).toNat).1 1,wd (yc (u8 o) (fN t) (fN f) (u8 m).toNat (u8 i==1) (nB a1 a0) (nB b1 b0) (nB c1 c0) (u64 a0).toNat).1 0,((yc (u8 o) (fN t) (fN f) (u8 m).toNat (u8 i==1) (nB a1 a0) (nB b1 b0) (nB c1 c0) (u64 a0).toNat).2:Int)]:=by
 unfold Pd at hb
 rw[ym,Vz]
 refine tI (u8 o=1) (by simp only[uY];rfl) (fun h1=>?_) (fun h1=>?_)
 ·refine tI (¬ u8 f<4) (by simp only[uY];rw[decide_not]) (fun h2=>?_) (fun h2=>?_)
  ·exfalso;revert hb;simp[vV,h1,h2]
  ·refine tI (¬ u8 m≤4) (by simp only[uY];rw[decide_not]) (fun h3=>?_) (fun h3=>?_)
   ·replace h2:=Decidable.not_not.1 h2;exfalso;revert hb;simp[vV,h1,h2,h3]
   ·refine tI (u8 i>1) (by simp only[uY]) (fun h4=>?_) (fun h4=>?_)
    ·replace h2:=Decidable.not_not.1 h2;replace h3:=Decidable.not_not.1 h3;exfalso;revert hb;simp[vV,h1,h2,h3,h4]
    ·refine tI (¬ u8 t=0) (by simp only[uY];rw[decide_not];rfl) (fun h5=>?_) (fun h5=>?_)
     ·replace h2:=Decidable.not_not.1 h2;replace h3:=Decidable.not_not.1 h3;exfalso;revert hb;simp[vV,h1,h2,h3,h4,h5]
     ·refine(ve (r:=[vw (wo (fN f) (nB a1 a0))]) (by simp only[uY,xN];rw[xL,vH,vM]) (by rfl)).trans ?_
      refine tI (wo (fN f) (nB a1 a0)=true) (by simp only[uY];exact(Bool.decide_coe _).symm) (fun h6=>?_) (fun h6=>?_)
      ·refine(ve (r:=[vw (wo (fN f) (nB b1 b0))]) (by simp only[uY,xN];rw[xL,vH,vM]) (by rfl)).trans ?_
       refine tI (wo (fN f) (nB b1 b0)=true) (by simp only[uY];exact(Bool.decide_coe _).symm) (fun h7=>?_) (fun h7=>?_)
       ·refine tI (¬ nB c1 c0=0) (by simp only[uY];rw[decide_not];exact congrArg not (zB _ _)) (fun h8=>?_) (fun h8=>?_)
        ·replace h2:=Decidable.not_not.1 h2;replace h3:=Decidable.not_not.1 h3;replace h5:=Decidable.not_not.1 h5;exfalso;revert hb;simp[vV,h1,h2,h3,h4,h5,h6,h7,h8]
        ·refine(ve (r:=[wd (Cn (fN f) (u8 m).toNat (u8 i==1) (nB a1 a0) (nB b1 b0)).1 1,wd (Cn (fN f) (u8 m).toNat (u8 i==1) (nB a1 a0) (nB b1 b0)).1 0,((Cn (fN f) (u8 m).toNat (u8 i==1) (nB a1 a0) (nB b1 b0)).2:Int)]) (by simp only[uY,auk];rw[abl _ _ _ _ _ _ _  (by rw[vH];exact((yh f).1 (Decidable.not_not.1 h2))) (by rw[wS];exact(Decidable.not_not.1 h3))];simp only[vH,wS,vJ,vM];rw[Am]) (by rfl)).trans ?_
         have e:yc (u8 o) (fN t) (fN f) (u8 m).toNat (u8 i==1) (nB a1 a0) (nB b1 b0) (nB c1 c0) (u64 a0).toNat=Cn (fN f) (u8 m).toNat (u8 i==1) (nB a1 a0) (nB b1 b0):=by simp[yc,h1]
         rw[e,vg rfl]
         simp only[uY]
         rw[BD (GR (LF ((yh f).1 (Decidable.not_not.1 h2))).fl)]
       ·replace h2:=Decidable.not_not.1 h2;replace h3:=Decidable.not_not.1 h3;replace h5:=Decidable.not_not.1 h5;exfalso;revert hb;simp[vV,h1,h2,h3,h4,h5,h6,h7]
      ·replace h2:=Decidable.not_not.1 h2;replace h3:=Decidable.not_not.1 h3;replace h5:=Decidable.not_not.1 h5;exfalso;revert hb;simp[vV,h1,h2,h3,h4,h5,h6]
 ·refine tI (u8 o=2) (by simp only[uY];rfl) (fun h9=>?_) (fun h9=>?_)
  ·refine tI (¬ u8 f<4) (by simp only[uY];rw[decide_not]) (fun h10=>?_) (fun h10=>?_)
   ·exfalso;revert hb;simp[vV,h9,h10]
   ·refine tI (¬ u8 m≤4) (by simp only[uY];rw[decide_not]) (fun h11=>?_) (fun h11=>?_)
    ·replace h10:=Decidable.not_not.1 h10;exfalso;revert hb;simp[vV,h9,h10,h11]
    ·refine tI (u8 i>1) (by simp only[uY]) (fun h12=>?_) (fun h12=>?_)
     ·replace h10:=Decidable.not_not.1 h10;replace h11:=Decidable.not_not.1 h11;exfalso;revert hb;simp[vV,h9,h10,h11,h12]
     ·refine tI (¬ u8 t=0) (by simp only[uY];rw[decide_not];rfl) (fun h13=>?_) (fun h13=>?_)
      ·replace h10:=Decidable.not_not.1 h10;replace h11:=Decidable.not_not.1 h11;exfalso;revert hb;simp[vV,h9,h10,h11,h12,h13]
      ·refine(ve (r:=[vw (wo (fN f) (nB a1 a0))]) (by simp only[uY,xN];rw[xL,vH,vM]) (by rfl)).trans ?_
       refine tI (wo (fN f) (nB a1 a0)=true) (by simp only[uY];exact(Bool.decide_coe _).symm) (fun h14=>?_) (fun h14=>?_)
       ·refine(ve (r:=[vw (wo (fN f) (nB b1 b0))]) (by simp only[uY,xN];rw[xL,vH,vM]) (by rfl)).trans ?_
        refine tI (wo (fN f) (nB b1 b0)=true) (by simp only[uY];exact(Bool.decide_coe _).symm) (fun h15=>?_) (fun h15=>?_)
        ·refine tI (¬ nB c1 c0=0) (by simp only[uY];rw[decide_not];exact congrArg not (zB _ _)) (fun h16=>?_) (fun h16=>?_)
         ·replace h10:=Decidable.not_not.1 h10;replace h11:=Decidable.not_not.1 h11;replace h13:=Decidable.not_not.1 h13;exfalso;revert hb;simp[vV,h9,h10,h11,h12,h13,h14,h15,h16]
         ·refine(ve (r:=[wd (GQ (fN f) (u8 m).toNat (u8 i==1) (nB a1 a0) (nB b1 b0)).1 1,wd (GQ (fN f) (u8 m).toNat (u8 i==1) (nB a1 a0) (nB b1 b0)).1 0,((GQ (fN f) (u8 m).toNat (u8 i==1) (nB a1 a0) (nB b1 b0)).2:Int)]) (by simp only[uY,aul];rw[aqK _ _ _ _ _ _ _  (by rw[vH];exact((yh f).1 (Decidable.not_not.1 h10))) (by rw[wS];exact(Decidable.not_not.1 h11))];simp only[vH,wS,vJ,vM];rw[Am]) (by rfl)).trans ?_
          have e:yc (u8 o) (fN t) (fN f) (u8 m).toNat (u8 i==1) (nB a1 a0) (nB b1 b0) (nB c1 c0) (u64 a0).toNat=GQ (fN f) (u8 m).toNat (u8 i==1) (nB a1 a0) (nB b1 b0):=by simp[yc,h9]
          rw[e,vg rfl]
          simp only[uY]
          rw[BD (aqL ((yh f).1 (Decidable.not_not.1 h10)))]
        ·replace h10:=Decidable.not_not.1 h10;replace h11:=Decidable.not_not.1 h11;replace h13:=Decidable.not_not.1 h13;exfalso;revert hb;simp[vV,h9,h10,h11,h12,h13,h14,h15]
       ·replace h10:=Decidable.not_not.1 h10;replace h11:=Decidable.not_not.1 h11;replace h13:=Decidable.not_not.1 h13;exfalso;revert hb;simp[vV,h9,h10,h11,h12,h13,h14]
  ·refine tI (u8 o=3) (by simp only[uY];rfl) (fun h17=>?_) (fun h17=>?_)
   ·refine tI (¬ u8 f<4) (by simp only[uY];rw[decide_not]) (fun h18=>?_) (fun h18=>?_)
    ·exfalso;revert hb;simp[vV,h17,h18]
    ·refine tI (¬ u8 m≤4) (by simp only[uY];rw[decide_not]) (fun h19=>?_) (fun h19=>?_)
     ·replace h18:=Decidable.not_not.1 h18;exfalso;revert hb;simp[vV,h17,h18,h19]
     ·refine tI (u8 i>1) (by simp only[uY]) (fun h20=>?_) (fun h20=>?_)
      ·replace h18:=Decidable.not_not.1 h18;replace h19:=Decidable.not_not.1 h19;exfalso;revert hb;simp[vV,h17,h18,h19,h20]
      ·refine tI (¬ u8 t=0) (by simp only[uY];rw[decide_not];rfl) (fun h21=>?_) (fun h21=>?_)
       ·replace h18:=Decidable.not_not.1 h18;replace h19:=Decidable.not_not.1 h19;exfalso;revert hb;simp[vV,h17,h18,h19,h20,h21]
       ·refine(ve (r:=[vw (wo (fN f) (nB a1 a0))]) (by simp only[uY,xN];rw[xL,vH,vM]) (by rfl)).trans ?_
        refine tI (wo (fN f) (nB a1 a0)=true) (by simp only[uY];exact(Bool.decide_coe _).symm) (fun h22=>?_) (fun h22=>?_)
        ·refine(ve (r:=[vw (wo (fN f) (nB b1 b0))]) (by simp only[uY,xN];rw[xL,vH,vM]) (by rfl)).trans ?_
         refine tI (wo (fN f) (nB b1 b0)=true) (by simp only[uY];exact(Bool.decide_coe _).symm) (fun h23=>?_) (fun h23=>?_)
         ·refine tI (¬ nB c1 c0=0) (by simp only[uY];rw[decide_not];exact congrArg not (zB _ _)) (fun h24=>?_) (fun h24=>?_)
          ·replace h18:=Decidable.not_not.1 h18;replace h19:=Decidable.not_not.1 h19;replace h21:=Decidable.not_not.1 h21;exfalso;revert hb;simp[vV,h17,h18,h19,h20,h21,h22,h23,h24]
          ·refine(ve (r:=[wd (IC (fN f) (u8 m).toNat (u8 i==1) (nB a1 a0) (nB b1 b0)).1 1,wd (IC (fN f) (u8 m).toNat (u8 i==1) (nB a1 a0) (nB b1 b0)).1 0,((IC (fN f) (u8 m).toNat (u8 i==1) (nB a1 a0) (nB b1 b0)).2:Int)]) (by simp only[uY,aum];rw[ape _ _ _ _ _ _ _  (by rw[vH];exact((yh f).1 (Decidable.not_not.1 h18))) (by rw[wS];exact(Decidable.not_not.1 h19))];simp only[vH,wS,vJ,vM];rw[Am]) (by rfl)).trans ?_
           have e:yc (u8 o) (fN t) (fN f) (u8 m).toNat (u8 i==1) (nB a1 a0) (nB b1 b0) (nB c1 c0) (u64 a0).toNat=IC (fN f) (u8 m).toNat (u8 i==1) (nB a1 a0) (nB b1 b0):=by simp[yc,h17]
           rw[e,vg rfl]
           simp only[uY]
           rw[BD (GR (af9 ((yh f).1 (Decidable.not_not.1 h18))).fl)]
         ·replace h18:=Decidable.not_not.1 h18;replace h19:=Decidable.not_not.1 h19;replace h21:=Decidable.not_not.1 h21;exfalso;revert hb;simp[vV,h17,h18,h19,h20,h21,h22,h23]
        ·replace h18:=Decidable.not_not.1 h18;replace h19:=Decidable.not_not.1 h19;replace h21:=Decidable.not_not.1 h21;exfalso;revert hb;simp[vV,h17,h18,h19,h20,h21,h22]
   ·refine tI (u8 o=4) (by simp only[uY];rfl) (fun h25=>?_) (fun h25=>?_)
    ·refine tI (¬ u8 f<4) (by simp only[uY];rw[decide_not]) (fun h26=>?_) (fun h26=>?_)
     ·exfalso;revert hb;simp[vV,h25,h26]
     ·refine tI (¬ u8 m≤4) (by simp only[uY];rw[decide_not]) (fun h27=>?_) (fun h27=>?_)
      ·replace h26:=Decidable.not_not.1 h26;exfalso;revert hb;simp[vV,h25,h26,h27]
      ·refine tI (u8 i>1) (by simp only[uY]) (fun h28=>?_) (fun h28=>?_)
       ·replace h26:=Decidable.not_not.1 h26;replace h27:=Decidable.not_not.1 h27;exfalso;revert hb;simp[vV,h25,h26,h27,h28]
       ·refine tI (¬ u8 t=0) (by simp only[uY];rw[decide_not];rfl) (fun h29=>?_) (fun h29=>?_)
        ·replace h26:=Decidable.not_not.1 h26;replace h27:=Decidable.not_not.1 h27;exfalso;revert hb;simp[vV,h25,h26,h27,h28,h29]
        ·refine(ve (r:=[vw (wo (fN f) (nB a1 a0))]) (by simp only[uY,xN];rw[xL,vH,vM]) (by rfl)).trans ?_
         refine tI (wo (fN f) (nB a1 a0)=true) (by simp only[uY];exact(Bool.decide_coe _).symm) (fun h30=>?_) (fun h30=>?_)
         ·refine(ve (r:=[vw (wo (fN f) (nB b1 b0))]) (by simp only[uY,xN];rw[xL,vH,vM]) (by rfl)).trans ?_
          refine tI (wo (fN f) (nB b1 b0)=true) (by simp only[uY];exact(Bool.decide_coe _).symm) (fun h31=>?_) (fun h31=>?_)
          ·refine tI (¬ nB c1 c0=0) (by simp only[uY];rw[decide_not];exact congrArg not (zB _ _)) (fun h32=>?_) (fun h32=>?_)
           ·replace h26:=Decidable.not_not.1 h26;replace h27:=Decidable.not_not.1 h27;replace h29:=Decidable.not_not.1 h29;exfalso;revert hb;simp[vV,h25,h26,h27,h28,h29,h30,h31,h32]
           ·refine(ve (r:=[wd (FI (fN f) (u8 m).toNat (u8 i==1) (nB a1 a0) (nB b1 b0)).1 1,wd (FI (fN f) (u8 m).toNat (u8 i==1) (nB a1 a0) (nB b1 b0)).1 0,((FI (fN f) (u8 m).toNat (u8 i==1) (nB a1 a0) (nB b1 b0)).2:Int)]) (by simp only[uY,aun];rw[avC _ _ _ _ _ _ _  (by rw[vH];exact((yh f).1 (Decidable.not_not.1 h26))) (by rw[wS];exact(Decidable.not_not.1 h27))];simp only[vH,wS,vJ,vM];rw[Am]) (by rfl)).trans ?_
            have e:yc (u8 o) (fN t) (fN f) (u8 m).toNat (u8 i==1) (nB a1 a0) (nB b1 b0) (nB c1 c0) (u64 a0).toNat=FI (fN f) (u8 m).toNat (u8 i==1) (nB a1 a0) (nB b1 b0):=by simp[yc,h25]
            rw[e,vg rfl]
            simp only[uY]
            rw[BD (GR (aga ((yh f).1 (Decidable.not_not.1 h26))).fl)]
          ·replace h26:=Decidable.not_not.1 h26;replace h27:=Decidable.not_not.1 h27;replace h29:=Decidable.not_not.1 h29;exfalso;revert hb;simp[vV,h25,h26,h27,h28,h29,h30,h31]
         ·replace h26:=Decidable.not_not.1 h26;replace h27:=Decidable.not_not.1 h27;replace h29:=Decidable.not_not.1 h29;exfalso;revert hb;simp[vV,h25,h26,h27,h28,h29,h30]
    ·refine tI (u8 o=5) (by simp only[uY];rfl) (fun h33=>?_) (fun h33=>?_)
     ·refine tI (¬ u8 f<4) (by simp only[uY];rw[decide_not]) (fun h34=>?_) (fun h34=>?_)
      ·exfalso;revert hb;simp[vV,h33,h34]
      ·refine tI (¬ u8 m≤4) (by simp only[uY];rw[decide_not]) (fun h35=>?_) (fun h35=>?_)
       ·replace h34:=Decidable.not_not.1 h34;exfalso;revert hb;simp[vV,h33,h34,h35]
       ·refine tI (u8 i>1) (by simp only[uY]) (fun h36=>?_) (fun h36=>?_)
        ·replace h34:=Decidable.not_not.1 h34;replace h35:=Decidable.not_not.1 h35;exfalso;revert hb;simp[vV,h33,h34,h35,h36]
        ·refine tI (¬ u8 t=0) (by simp only[uY];rw[decide_not];rfl) (fun h37=>?_) (fun h37=>?_)
         ·replace h34:=Decidable.not_not.1 h34;replace h35:=Decidable.not_not.1 h35;exfalso;revert hb;simp[vV,h33,h34,h35,h36,h37]
         ·refine(ve (r:=[vw (wo (fN f) (nB a1 a0))]) (by simp only[uY,xN];rw[xL,vH,vM]) (by rfl)).trans ?_
          refine tI (wo (fN f) (nB a1 a0)=true) (by simp only[uY];exact(Bool.decide_coe _).symm) (fun h38=>?_) (fun h38=>?_)
          ·refine tI (nB b1 b0=0) (by simp only[uY];exact zB _ _) (fun h39=>?_) (fun h39=>?_)
           ·refine tI (¬ nB c1 c0=0) (by simp only[uY];rw[decide_not];exact congrArg not (zB _ _)) (fun h40=>?_) (fun h40=>?_)
            ·replace h34:=Decidable.not_not.1 h34;replace h35:=Decidable.not_not.1 h35;replace h37:=Decidable.not_not.1 h37;exfalso;revert hb;simp[vV,h33,h34,h35,h36,h37,h38,h39,h40]
            ·refine(ve (r:=[wd (G9 (fN f) (u8 m).toNat (u8 i==1) (nB a1 a0)).1 1,wd (G9 (fN f) (u8 m).toNat (u8 i==1) (nB a1 a0)).1 0,((G9 (fN f) (u8 m).toNat (u8 i==1) (nB a1 a0)).2:Int)]) (by simp only[uY,auo];rw[avA _ _ _ _ _  (by rw[vH];exact((yh f).1 (Decidable.not_not.1 h34))) (by rw[wS];exact(Decidable.not_not.1 h35))];simp only[vH,wS,vJ,vM];rw[Am]) (by rfl)).trans ?_
             have e:yc (u8 o) (fN t) (fN f) (u8 m).toNat (u8 i==1) (nB a1 a0) (nB b1 b0) (nB c1 c0) (u64 a0).toNat=G9 (fN f) (u8 m).toNat (u8 i==1) (nB a1 a0):=by simp[yc,h33]
             rw[e,vg rfl]
             simp only[uY]
             rw[BD (GR (agc ((yh f).1 (Decidable.not_not.1 h34))).fl)]
           ·replace h34:=Decidable.not_not.1 h34;replace h35:=Decidable.not_not.1 h35;replace h37:=Decidable.not_not.1 h37;exfalso;revert hb;simp[vV,h33,h34,h35,h36,h37,h38,h39]
          ·replace h34:=Decidable.not_not.1 h34;replace h35:=Decidable.not_not.1 h35;replace h37:=Decidable.not_not.1 h37;exfalso;revert hb;simp[vV,h33,h34,h35,h36,h37,h38]
     ·refine tI (u8 o=6) (by simp only[uY];rfl) (fun h41=>?_) (fun h41=>?_)
      ·refine tI (¬ u8 f<4) (by simp only[uY];rw[decide_not]) (fun h42=>?_) (fun h42=>?_)
       ·exfalso;revert hb;simp[vV,h41,h42]
       ·refine tI (¬ u8 m≤4) (by simp only[uY];rw[decide_not]) (fun h43=>?_) (fun h43=>?_)
        ·replace h42:=Decidable.not_not.1 h42;exfalso;revert hb;simp[vV,h41,h42,h43]
        ·refine tI (u8 i>1) (by simp only[uY]) (fun h44=>?_) (fun h44=>?_)
         ·replace h42:=Decidable.not_not.1 h42;replace h43:=Decidable.not_not.1 h43;exfalso;revert hb;simp[vV,h41,h42,h43,h44]
         ·refine tI (¬ u8 t=0) (by simp only[uY];rw[decide_not];rfl) (fun h45=>?_) (fun h45=>?_)
          ·replace h42:=Decidable.not_not.1 h42;replace h43:=Decidable.not_not.1 h43;exfalso;revert hb;simp[vV,h41,h42,h43,h44,h45]
          ·refine(ve (r:=[vw (wo (fN f) (nB a1 a0))]) (by simp only[uY,xN];rw[xL,vH,vM]) (by rfl)).trans ?_
           refine tI (wo (fN f) (nB a1 a0)=true) (by simp only[uY];exact(Bool.decide_coe _).symm) (fun h46=>?_) (fun h46=>?_)
           ·refine(ve (r:=[vw (wo (fN f) (nB b1 b0))]) (by simp only[uY,xN];rw[xL,vH,vM]) (by rfl)).trans ?_
            refine tI (wo (fN f) (nB b1 b0)=true) (by simp only[uY];exact(Bool.decide_coe _).symm) (fun h47=>?_) (fun h47=>?_)
            ·refine(ve (r:=[vw (wo (fN f) (nB c1 c0))]) (by simp only[uY,xN];rw[xL,vH,vM]) (by rfl)).trans ?_
             refine tI (¬ wo (fN f) (nB c1 c0)=true) (by simp only[uY];rw[decide_not,Bool.decide_coe]) (fun h48=>?_) (fun h48=>?_)
             ·replace h42:=Decidable.not_not.1 h42;replace h43:=Decidable.not_not.1 h43;replace h45:=Decidable.not_not.1 h45;exfalso;revert hb;simp[vV,h41,h42,h43,h44,h45,h46,h47,h48]
             ·refine(ve (r:=[wd (C9 (fN f) (u8 m).toNat (u8 i==1) (nB a1 a0) (nB b1 b0) (nB c1 c0)).1 1,wd (C9 (fN f) (u8 m).toNat (u8 i==1) (nB a1 a0) (nB b1 b0) (nB c1 c0)).1 0,((C9 (fN f) (u8 m).toNat (u8 i==1) (nB a1 a0) (nB b1 b0) (nB c1 c0)).2:Int)]) (by simp only[uY,aup];rw[asA _ _ _ _ _ _ _ _ _  (by rw[vH];exact((yh f).1 (Decidable.not_not.1 h42))) (by rw[wS];exact(Decidable.not_not.1 h43))];simp only[vH,wS,vJ,vM];rw[Am]) (by rfl)).trans ?_
              have e:yc (u8 o) (fN t) (fN f) (u8 m).toNat (u8 i==1) (nB a1 a0) (nB b1 b0) (nB c1 c0) (u64 a0).toNat=C9 (fN f) (u8 m).toNat (u8 i==1) (nB a1 a0) (nB b1 b0) (nB c1 c0):=by simp[yc,h41]
              rw[e,vg rfl]
              simp only[uY]
              rw[BD (GR (agd ((yh f).1 (Decidable.not_not.1 h42))).fl)]
            ·replace h42:=Decidable.not_not.1 h42;replace h43:=Decidable.not_not.1 h43;replace h45:=Decidable.not_not.1 h45;exfalso;revert hb;simp[vV,h41,h42,h43,h44,h45,h46,h47]
           ·replace h42:=Decidable.not_not.1 h42;replace h43:=Decidable.not_not.1 h43;replace h45:=Decidable.not_not.1 h45;exfalso;revert hb;simp[vV,h41,h42,h43,h44,h45,h46]
      ·refine tI (u8 o=7) (by simp only[uY];rfl) (fun h49=>?_) (fun h49=>?_)
       ·refine tI (¬ u8 f<4) (by simp only[uY];rw[decide_not]) (fun h50=>?_) (fun h50=>?_)
        ·exfalso;revert hb;simp[vV,h49,h50]
        ·refine tI (¬ u8 m≤4) (by simp only[uY];rw[decide_not]) (fun h51=>?_) (fun h51=>?_)
         ·replace h50:=Decidable.not_not.1 h50;exfalso;revert hb;simp[vV,h49,h50,h51]
         ·refine tI (u8 i>1) (by simp only[uY]) (fun h52=>?_) (fun h52=>?_)
          ·replace h50:=Decidable.not_not.1 h50;replace h51:=Decidable.not_not.1 h51;exfalso;revert hb;simp[vV,h49,h50,h51,h52]
          ·refine tI (¬ u8 t=0) (by simp only[uY];rw[decide_not];rfl) (fun h53=>?_) (fun h53=>?_)
           ·replace h50:=Decidable.not_not.1 h50;replace h51:=Decidable.not_not.1 h51;exfalso;revert hb;simp[vV,h49,h50,h51,h52,h53]
           ·refine(ve (r:=[vw (wo (fN f) (nB a1 a0))]) (by simp only[uY,xN];rw[xL,vH,vM]) (by rfl)).trans ?_
            refine tI (wo (fN f) (nB a1 a0)=true) (by simp only[uY];exact(Bool.decide_coe _).symm) (fun h54=>?_) (fun h54=>?_)
            ·refine(ve (r:=[vw (wo (fN f) (nB b1 b0))]) (by simp only[uY,xN];rw[xL,vH,vM]) (by rfl)).trans ?_
             refine tI (wo (fN f) (nB b1 b0)=true) (by simp only[uY];exact(Bool.decide_coe _).symm) (fun h55=>?_) (fun h55=>?_)
             ·refine tI (¬ nB c1 c0=0) (by simp only[uY];rw[decide_not];exact congrArg not (zB _ _)) (fun h56=>?_) (fun h56=>?_)
              ·replace h50:=Decidable.not_not.1 h50;replace h51:=Decidable.not_not.1 h51;replace h53:=Decidable.not_not.1 h53;exfalso;revert hb;simp[vV,h49,h50,h51,h52,h53,h54,h55,h56]
              ·refine(ve (r:=[wd (Df (fN f) (nB a1 a0) (nB b1 b0)).1 1,wd (Df (fN f) (nB a1 a0) (nB b1 b0)).1 0,((Df (fN f) (nB a1 a0) (nB b1 b0)).2:Int)]) (by simp only[uY,auq];rw[avE _ _ _ _ _  (by rw[vH];exact((yh f).1 (Decidable.not_not.1 h50)))];simp only[vH,vM];rw[Am]) (by rfl)).trans ?_
               have e:yc (u8 o) (fN t) (fN f) (u8 m).toNat (u8 i==1) (nB a1 a0) (nB b1 b0) (nB c1 c0) (u64 a0).toNat=Df (fN f) (nB a1 a0) (nB b1 b0):=by simp[yc,h49]
               rw[e,vg rfl]
               simp only[uY]
               rw[BD (GR (agb ((yh f).1 (Decidable.not_not.1 h50))).fl)]
             ·replace h50:=Decidable.not_not.1 h50;replace h51:=Decidable.not_not.1 h51;replace h53:=Decidable.not_not.1 h53;exfalso;revert hb;simp[vV,h49,h50,h51,h52,h53,h54,h55]
            ·replace h50:=Decidable.not_not.1 h50;replace h51:=Decidable.not_not.1 h51;replace h53:=Decidable.not_not.1 h53;exfalso;revert hb;simp[vV,h49,h50,h51,h52,h53,h54]
       ·refine tI (u8 o=8) (by simp only[uY];rfl) (fun h57=>?_) (fun h57=>?_)
        ·refine tI (¬ u8 f<4) (by simp only[uY];rw[decide_not]) (fun h58=>?_) (fun h58=>?_)
         ·exfalso;revert hb;simp[vV,h57,h58]
         ·refine tI (¬ u8 m≤4) (by simp only[uY];rw[decide_not]) (fun h59=>?_) (fun h59=>?_)
          ·replace h58:=Decidable.not_not.1 h58;exfalso;revert hb;simp[vV,h57,h58,h59]
          ·refine tI (u8 i>1) (by simp only[uY]) (fun h60=>?_) (fun h60=>?_)
           ·replace h58:=Decidable.not_not.1 h58;replace h59:=Decidable.not_not.1 h59;exfalso;revert hb;simp[vV,h57,h58,h59,h60]
           ·refine tI (¬ u8 t=0) (by simp only[uY];rw[decide_not];rfl) (fun h61=>?_) (fun h61=>?_)
            ·replace h58:=Decidable.not_not.1 h58;replace h59:=Decidable.not_not.1 h59;exfalso;revert hb;simp[vV,h57,h58,h59,h60,h61]
            ·refine(ve (r:=[vw (wo (fN f) (nB a1 a0))]) (by simp only[uY,xN];rw[xL,vH,vM]) (by rfl)).trans ?_
             refine tI (wo (fN f) (nB a1 a0)=true) (by simp only[uY];exact(Bool.decide_coe _).symm) (fun h62=>?_) (fun h62=>?_)
             ·refine tI (nB b1 b0=0) (by simp only[uY];exact zB _ _) (fun h63=>?_) (fun h63=>?_)
              ·refine tI (¬ nB c1 c0=0) (by simp only[uY];rw[decide_not];exact congrArg not (zB _ _)) (fun h64=>?_) (fun h64=>?_)
               ·replace h58:=Decidable.not_not.1 h58;replace h59:=Decidable.not_not.1 h59;replace h61:=Decidable.not_not.1 h61;exfalso;revert hb;simp[vV,h57,h58,h59,h60,h61,h62,h63,h64]
               ·refine(ve (r:=[wd (BS (fN f) (u8 m).toNat false (nB a1 a0)).1 1,wd (BS (fN f) (u8 m).toNat false (nB a1 a0)).1 0,((BS (fN f) (u8 m).toNat false (nB a1 a0)).2:Int)]) (by simp only[uY,ahu];rw[afI _ _ _ _ _  (by rw[vH];exact((yh f).1 (Decidable.not_not.1 h58))) (by rw[wS];exact(Decidable.not_not.1 h59))];simp only[vH,wS,vM,afN,afO];rw[Am]) (by rfl)).trans ?_
                have e:yc (u8 o) (fN t) (fN f) (u8 m).toNat (u8 i==1) (nB a1 a0) (nB b1 b0) (nB c1 c0) (u64 a0).toNat=BS (fN f) (u8 m).toNat false (nB a1 a0):=by simp[yc,h57]
                rw[e,vg rfl]
                simp only[uY]
                rw[BD (afP)]
              ·replace h58:=Decidable.not_not.1 h58;replace h59:=Decidable.not_not.1 h59;replace h61:=Decidable.not_not.1 h61;exfalso;revert hb;simp[vV,h57,h58,h59,h60,h61,h62,h63]
             ·replace h58:=Decidable.not_not.1 h58;replace h59:=Decidable.not_not.1 h59;replace h61:=Decidable.not_not.1 h61;exfalso;revert hb;simp[vV,h57,h58,h59,h60,h61,h62]
        ·refine tI (u8 o=9) (by simp only[uY];rfl) (fun h65=>?_) (fun h65=>?_)
         ·refine tI (¬ u8 f<4) (by simp only[uY];rw[decide_not]) (fun h66=>?_) (fun h66=>?_)
          ·exfalso;revert hb;simp[vV,h65,h66]
          ·refine tI (¬ u8 m≤4) (by simp only[uY];rw[decide_not]) (fun h67=>?_) (fun h67=>?_)
           ·replace h66:=Decidable.not_not.1 h66;exfalso;revert hb;simp[vV,h65,h66,h67]
           ·refine tI (u8 i>1) (by simp only[uY]) (fun h68=>?_) (fun h68=>?_)
            ·replace h66:=Decidable.not_not.1 h66;replace h67:=Decidable.not_not.1 h67;exfalso;revert hb;simp[vV,h65,h66,h67,h68]
            ·refine tI (¬ u8 t=0) (by simp only[uY];rw[decide_not];rfl) (fun h69=>?_) (fun h69=>?_)
             ·replace h66:=Decidable.not_not.1 h66;replace h67:=Decidable.not_not.1 h67;exfalso;revert hb;simp[vV,h65,h66,h67,h68,h69]
             ·refine(ve (r:=[vw (wo (fN f) (nB a1 a0))]) (by simp only[uY,xN];rw[xL,vH,vM]) (by rfl)).trans ?_
              refine tI (wo (fN f) (nB a1 a0)=true) (by simp only[uY];exact(Bool.decide_coe _).symm) (fun h70=>?_) (fun h70=>?_)
              ·refine tI (nB b1 b0=0) (by simp only[uY];exact zB _ _) (fun h71=>?_) (fun h71=>?_)
               ·refine tI (¬ nB c1 c0=0) (by simp only[uY];rw[decide_not];exact congrArg not (zB _ _)) (fun h72=>?_) (fun h72=>?_)
                ·replace h66:=Decidable.not_not.1 h66;replace h67:=Decidable.not_not.1 h67;replace h69:=Decidable.not_not.1 h69;exfalso;revert hb;simp[vV,h65,h66,h67,h68,h69,h70,h71,h72]
                ·refine(ve (r:=[wd (BS (fN f) (u8 m).toNat true (nB a1 a0)).1 1,wd (BS (fN f) (u8 m).toNat true (nB a1 a0)).1 0,((BS (fN f) (u8 m).toNat true (nB a1 a0)).2:Int)]) (by simp only[uY,ahu];rw[afI _ _ _ _ _  (by rw[vH];exact((yh f).1 (Decidable.not_not.1 h66))) (by rw[wS];exact(Decidable.not_not.1 h67))];simp only[vH,wS,vM,afN,afO];rw[Am]) (by rfl)).trans ?_
                 have e:yc (u8 o) (fN t) (fN f) (u8 m).toNat (u8 i==1) (nB a1 a0) (nB b1 b0) (nB c1 c0) (u64 a0).toNat=BS (fN f) (u8 m).toNat true (nB a1 a0):=by simp[yc,h65]
                 rw[e,vg rfl]
                 simp only[uY]
                 rw[BD (afP)]
               ·replace h66:=Decidable.not_not.1 h66;replace h67:=Decidable.not_not.1 h67;replace h69:=Decidable.not_not.1 h69;exfalso;revert hb;simp[vV,h65,h66,h67,h68,h69,h70,h71]
              ·replace h66:=Decidable.not_not.1 h66;replace h67:=Decidable.not_not.1 h67;replace h69:=Decidable.not_not.1 h69;exfalso;revert hb;simp[vV,h65,h66,h67,h68,h69,h70]
         ·refine tI (u8 o=10) (by simp only[uY];rfl) (fun h73=>?_) (fun h73=>?_)
          ·refine tI (¬ u8 f<4) (by simp only[uY];rw[decide_not]) (fun h74=>?_) (fun h74=>?_)
           ·exfalso;revert hb;simp[vV,h73,h74]
           ·refine tI (¬ u8 m≤4) (by simp only[uY];rw[decide_not]) (fun h75=>?_) (fun h75=>?_)
            ·replace h74:=Decidable.not_not.1 h74;exfalso;revert hb;simp[vV,h73,h74,h75]
            ·refine tI (u8 i>1) (by simp only[uY]) (fun h76=>?_) (fun h76=>?_)
             ·replace h74:=Decidable.not_not.1 h74;replace h75:=Decidable.not_not.1 h75;exfalso;revert hb;simp[vV,h73,h74,h75,h76]
             ·refine tI (¬ u8 t<4) (by simp only[uY];rw[decide_not]) (fun h77=>?_) (fun h77=>?_)
              ·replace h74:=Decidable.not_not.1 h74;replace h75:=Decidable.not_not.1 h75;exfalso;revert hb;simp[vV,h73,h74,h75,h76,h77]
              ·refine(ve (r:=[vw (wo (fN f) (nB a1 a0))]) (by simp only[uY,xN];rw[xL,vH,vM]) (by rfl)).trans ?_
               refine tI (wo (fN f) (nB a1 a0)=true) (by simp only[uY];exact(Bool.decide_coe _).symm) (fun h78=>?_) (fun h78=>?_)
               ·refine tI (nB b1 b0=0) (by simp only[uY];exact zB _ _) (fun h79=>?_) (fun h79=>?_)
                ·refine tI (¬ nB c1 c0=0) (by simp only[uY];rw[decide_not];exact congrArg not (zB _ _)) (fun h80=>?_) (fun h80=>?_)
                 ·replace h74:=Decidable.not_not.1 h74;replace h75:=Decidable.not_not.1 h75;replace h77:=Decidable.not_not.1 h77;exfalso;revert hb;simp[vV,h73,h74,h75,h76,h77,h78,h79,h80]
                 ·refine(ve (r:=[wd (IE (fN f) (fN t) (u8 m).toNat (u8 i==1) (nB a1 a0)).1 1,wd (IE (fN f) (fN t) (u8 m).toNat (u8 i==1) (nB a1 a0)).1 0,((IE (fN f) (fN t) (u8 m).toNat (u8 i==1) (nB a1 a0)).2:Int)]) (by simp only[uY,aur];rw[api _ _ _ _ _ _  (by rw[vH];exact((yh f).1 (Decidable.not_not.1 h74))) (by rw[vH];exact((yh t).1 (Decidable.not_not.1 h77))) (by rw[wS];exact(Decidable.not_not.1 h75))];simp only[vH,wS,vJ,vM];rw[Am]) (by rfl)).trans ?_
                  have e:yc (u8 o) (fN t) (fN f) (u8 m).toNat (u8 i==1) (nB a1 a0) (nB b1 b0) (nB c1 c0) (u64 a0).toNat=IE (fN f) (fN t) (u8 m).toNat (u8 i==1) (nB a1 a0):=by simp[yc,h73]
                  rw[e,vg rfl]
                  simp only[uY]
                  rw[BD (GR (age ((yh f).1 (Decidable.not_not.1 h74)) ((yh t).1 (Decidable.not_not.1 h77))).fl)]
                ·replace h74:=Decidable.not_not.1 h74;replace h75:=Decidable.not_not.1 h75;replace h77:=Decidable.not_not.1 h77;exfalso;revert hb;simp[vV,h73,h74,h75,h76,h77,h78,h79]
               ·replace h74:=Decidable.not_not.1 h74;replace h75:=Decidable.not_not.1 h75;replace h77:=Decidable.not_not.1 h77;exfalso;revert hb;simp[vV,h73,h74,h75,h76,h77,h78]
          ·refine tI (u8 o=11) (by simp only[uY];rfl) (fun h81=>?_) (fun h81=>?_)
           ·refine tI (¬ u8 f<4) (by simp only[uY];rw[decide_not]) (fun h82=>?_) (fun h82=>?_)
            ·exfalso;revert hb;simp[vV,h81,h82]
            ·refine tI (¬ u8 m≤4) (by simp only[uY];rw[decide_not]) (fun h83=>?_) (fun h83=>?_)
             ·replace h82:=Decidable.not_not.1 h82;exfalso;revert hb;simp[vV,h81,h82,h83]
             ·refine tI (u8 i>1) (by simp only[uY]) (fun h84=>?_) (fun h84=>?_)
              ·replace h82:=Decidable.not_not.1 h82;replace h83:=Decidable.not_not.1 h83;exfalso;revert hb;simp[vV,h81,h82,h83,h84]
              ·refine tI (¬ u8 t<4) (by simp only[uY];rw[decide_not]) (fun h85=>?_) (fun h85=>?_)
               ·replace h82:=Decidable.not_not.1 h82;replace h83:=Decidable.not_not.1 h83;exfalso;revert hb;simp[vV,h81,h82,h83,h84,h85]
               ·refine(ve (r:=[vw (wo (fN f) (nB a1 a0))]) (by simp only[uY,xN];rw[xL,vH,vM]) (by rfl)).trans ?_
                refine tI (wo (fN f) (nB a1 a0)=true) (by simp only[uY];exact(Bool.decide_coe _).symm) (fun h86=>?_) (fun h86=>?_)
                ·refine tI (nB b1 b0=0) (by simp only[uY];exact zB _ _) (fun h87=>?_) (fun h87=>?_)
                 ·refine tI (¬ nB c1 c0=0) (by simp only[uY];rw[decide_not];exact congrArg not (zB _ _)) (fun h88=>?_) (fun h88=>?_)
                  ·replace h82:=Decidable.not_not.1 h82;replace h83:=Decidable.not_not.1 h83;replace h85:=Decidable.not_not.1 h85;exfalso;revert hb;simp[vV,h81,h82,h83,h84,h85,h86,h87,h88]
                  ·refine(ve (r:=[((Ej (fN f) (fN t) (u8 m).toNat (nB a1 a0)).1:Int),((Ej (fN f) (fN t) (u8 m).toNat (nB a1 a0)).2:Int)]) (by simp only[uY,aus];rw[aqF _ _ _ _ _  (by rw[vH];exact((yh f).1 (Decidable.not_not.1 h82))) (by rw[vH];exact((yh t).1 (Decidable.not_not.1 h85))) (by rw[wS];exact(Decidable.not_not.1 h83))];simp only[vH,wS,vM];try rfl) (by rfl)).trans ?_
                   have e:yc (u8 o) (fN t) (fN f) (u8 m).toNat (u8 i==1) (nB a1 a0) (nB b1 b0) (nB c1 c0) (u64 a0).toNat=Ej (fN f) (fN t) (u8 m).toNat (nB a1 a0):=by simp[yc,h81]
                   rw[e,vg rfl]
                   simp only[uY]
                   simp only[(O9 UK).1,(O9 UK).2,BD aqM,Gy _ UK]
                 ·replace h82:=Decidable.not_not.1 h82;replace h83:=Decidable.not_not.1 h83;replace h85:=Decidable.not_not.1 h85;exfalso;revert hb;simp[vV,h81,h82,h83,h84,h85,h86,h87]
                ·replace h82:=Decidable.not_not.1 h82;replace h83:=Decidable.not_not.1 h83;replace h85:=Decidable.not_not.1 h85;exfalso;revert hb;simp[vV,h81,h82,h83,h84,h85,h86]
           ·refine tI (u8 o=12) (by simp only[uY];rfl) (fun h89=>?_) (fun h89=>?_)
            ·refine tI (¬ u8 f<4) (by simp only[uY];rw[decide_not]) (fun h90=>?_) (fun h90=>?_)
             ·exfalso;revert hb;simp[vV,h89,h90]
             ·refine tI (¬ u8 m≤4) (by simp only[uY];rw[decide_not]) (fun h91=>?_) (fun h91=>?_)
              ·replace h90:=Decidable.not_not.1 h90;exfalso;revert hb;simp[vV,h89,h90,h91]
              ·refine tI (u8 i>1) (by simp only[uY]) (fun h92=>?_) (fun h92=>?_)
               ·replace h90:=Decidable.not_not.1 h90;replace h91:=Decidable.not_not.1 h91;exfalso;revert hb;simp[vV,h89,h90,h91,h92]
               ·refine tI (¬ u8 t<4) (by simp only[uY];rw[decide_not]) (fun h93=>?_) (fun h93=>?_)
                ·replace h90:=Decidable.not_not.1 h90;replace h91:=Decidable.not_not.1 h91;exfalso;revert hb;simp[vV,h89,h90,h91,h92,h93]
                ·refine tI (u64 a1=0) (by simp only[uY];rfl) (fun h94=>?_) (fun h94=>?_)
                 ·refine(ve (r:=[vw (ER (fN t) (u64 a0).toNat)]) (by simp only[uY,aht];rw[af5,vH,zV]) (by rfl)).trans ?_
                  refine tI (ER (fN t) (u64 a0).toNat=true) (by simp only[uY];exact(Bool.decide_coe _).symm) (fun h95=>?_) (fun h95=>?_)
                  ·refine tI (nB b1 b0=0) (by simp only[uY];exact zB _ _) (fun h96=>?_) (fun h96=>?_)
                   ·refine tI (¬ nB c1 c0=0) (by simp only[uY];rw[decide_not];exact congrArg not (zB _ _)) (fun h97=>?_) (fun h97=>?_)
                    ·replace h90:=Decidable.not_not.1 h90;replace h91:=Decidable.not_not.1 h91;replace h93:=Decidable.not_not.1 h93;exfalso;revert hb;simp[vV,h89,h90,h91,h92,h93,h94,h95,h96,h97]
                    ·refine(ve (r:=[wd (FL (fN f) (u8 m).toNat (u8 i==1) (fN t) (u64 a0).toNat).1 1,wd (FL (fN f) (u8 m).toNat (u8 i==1) (fN t) (u64 a0).toNat).1 0,((FL (fN f) (u8 m).toNat (u8 i==1) (fN t) (u64 a0).toNat).2:Int)]) (by simp only[uY,aut];rw[aqG _ _ _ _ _  (by rw[vH];exact((yh t).1 (Decidable.not_not.1 h93))) (by rw[vH];exact((yh f).1 (Decidable.not_not.1 h90))) (by rw[wS];exact(Decidable.not_not.1 h91))];simp only[vH,wS,vJ,zV];rw[Am]) (by rfl)).trans ?_
                     have e:yc (u8 o) (fN t) (fN f) (u8 m).toNat (u8 i==1) (nB a1 a0) (nB b1 b0) (nB c1 c0) (u64 a0).toNat=FL (fN f) (u8 m).toNat (u8 i==1) (fN t) (u64 a0).toNat:=by simp[yc,h89]
                     rw[e,vg rfl]
                     simp only[uY]
                     rw[BD (aqN)]
                   ·replace h90:=Decidable.not_not.1 h90;replace h91:=Decidable.not_not.1 h91;replace h93:=Decidable.not_not.1 h93;exfalso;revert hb;simp[vV,h89,h90,h91,h92,h93,h94,h95,h96]
                  ·replace h90:=Decidable.not_not.1 h90;replace h91:=Decidable.not_not.1 h91;replace h93:=Decidable.not_not.1 h93;exfalso;revert hb;simp[vV,h89,h90,h91,h92,h93,h94,h95]
                 ·replace h90:=Decidable.not_not.1 h90;replace h91:=Decidable.not_not.1 h91;replace h93:=Decidable.not_not.1 h93;exfalso;revert hb;simp[vV,h89,h90,h91,h92,h93,h94]
            ·refine tI (u8 o=13) (by simp only[uY];rfl) (fun h98=>?_) (fun h98=>?_)
             ·refine tI (¬ u8 f<4) (by simp only[uY];rw[decide_not]) (fun h99=>?_) (fun h99=>?_)
              ·exfalso;revert hb;simp[vV,h98,h99]
              ·refine tI (¬ u8 m≤4) (by simp only[uY];rw[decide_not]) (fun h100=>?_) (fun h100=>?_)
               ·replace h99:=Decidable.not_not.1 h99;exfalso;revert hb;simp[vV,h98,h99,h100]
               ·refine tI (u8 i>1) (by simp only[uY]) (fun h101=>?_) (fun h101=>?_)
                ·replace h99:=Decidable.not_not.1 h99;replace h100:=Decidable.not_not.1 h100;exfalso;revert hb;simp[vV,h98,h99,h100,h101]
                ·refine tI (¬ u8 t=0) (by simp only[uY];rw[decide_not];rfl) (fun h102=>?_) (fun h102=>?_)
                 ·replace h99:=Decidable.not_not.1 h99;replace h100:=Decidable.not_not.1 h100;exfalso;revert hb;simp[vV,h98,h99,h100,h101,h102]
                 ·refine(ve (r:=[vw (wo (fN f) (nB a1 a0))]) (by simp only[uY,xN];rw[xL,vH,vM]) (by rfl)).trans ?_
                  refine tI (wo (fN f) (nB a1 a0)=true) (by simp only[uY];exact(Bool.decide_coe _).symm) (fun h103=>?_) (fun h103=>?_)
                  ·refine(ve (r:=[vw (wo (fN f) (nB b1 b0))]) (by simp only[uY,xN];rw[xL,vH,vM]) (by rfl)).trans ?_
                   refine tI (wo (fN f) (nB b1 b0)=true) (by simp only[uY];exact(Bool.decide_coe _).symm) (fun h104=>?_) (fun h104=>?_)
                   ·refine tI (¬ nB c1 c0=0) (by simp only[uY];rw[decide_not];exact congrArg not (zB _ _)) (fun h105=>?_) (fun h105=>?_)
                    ·replace h99:=Decidable.not_not.1 h99;replace h100:=Decidable.not_not.1 h100;replace h102:=Decidable.not_not.1 h102;exfalso;revert hb;simp[vV,h98,h99,h100,h101,h102,h103,h104,h105]
                    ·refine(ve (r:=[((Al (fN f) false (nB a1 a0) (nB b1 b0)).1:Int),((Al (fN f) false (nB a1 a0) (nB b1 b0)).2:Int)]) (by simp only[uY,auu];rw[aqI _ _ _ _ _  (by rw[vH];exact((yh f).1 (Decidable.not_not.1 h99)))];simp only[vH,vM];try rfl) (by rfl)).trans ?_
                     have e:yc (u8 o) (fN t) (fN f) (u8 m).toNat (u8 i==1) (nB a1 a0) (nB b1 b0) (nB c1 c0) (u64 a0).toNat=Al (fN f) false (nB a1 a0) (nB b1 b0):=by simp[yc,h98]
                     rw[e,vg rfl]
                     simp only[uY]
                     simp only[(O9 (Nat.lt_of_le_of_lt J7 (by decide))).1,(O9 (Nat.lt_of_le_of_lt J7 (by decide))).2,BD J7,BD afQ]
                   ·replace h99:=Decidable.not_not.1 h99;replace h100:=Decidable.not_not.1 h100;replace h102:=Decidable.not_not.1 h102;exfalso;revert hb;simp[vV,h98,h99,h100,h101,h102,h103,h104]
                  ·replace h99:=Decidable.not_not.1 h99;replace h100:=Decidable.not_not.1 h100;replace h102:=Decidable.not_not.1 h102;exfalso;revert hb;simp[vV,h98,h99,h100,h101,h102,h103]
             ·refine tI (u8 o=14) (by simp only[uY];rfl) (fun h106=>?_) (fun h106=>?_)
              ·refine tI (¬ u8 f<4) (by simp only[uY];rw[decide_not]) (fun h107=>?_) (fun h107=>?_)
               ·exfalso;revert hb;simp[vV,h106,h107]
               ·refine tI (¬ u8 m≤4) (by simp only[uY];rw[decide_not]) (fun h108=>?_) (fun h108=>?_)
                ·replace h107:=Decidable.not_not.1 h107;exfalso;revert hb;simp[vV,h106,h107,h108]
                ·refine tI (u8 i>1) (by simp only[uY]) (fun h109=>?_) (fun h109=>?_)
                 ·replace h107:=Decidable.not_not.1 h107;replace h108:=Decidable.not_not.1 h108;exfalso;revert hb;simp[vV,h106,h107,h108,h109]
                 ·refine tI (¬ u8 t=0) (by simp only[uY];rw[decide_not];rfl) (fun h110=>?_) (fun h110=>?_)
                  ·replace h107:=Decidable.not_not.1 h107;replace h108:=Decidable.not_not.1 h108;exfalso;revert hb;simp[vV,h106,h107,h108,h109,h110]
                  ·refine(ve (r:=[vw (wo (fN f) (nB a1 a0))]) (by simp only[uY,xN];rw[xL,vH,vM]) (by rfl)).trans ?_
                   refine tI (wo (fN f) (nB a1 a0)=true) (by simp only[uY];exact(Bool.decide_coe _).symm) (fun h111=>?_) (fun h111=>?_)
                   ·refine(ve (r:=[vw (wo (fN f) (nB b1 b0))]) (by simp only[uY,xN];rw[xL,vH,vM]) (by rfl)).trans ?_
                    refine tI (wo (fN f) (nB b1 b0)=true) (by simp only[uY];exact(Bool.decide_coe _).symm) (fun h112=>?_) (fun h112=>?_)
                    ·refine tI (¬ nB c1 c0=0) (by simp only[uY];rw[decide_not];exact congrArg not (zB _ _)) (fun h113=>?_) (fun h113=>?_)
                     ·replace h107:=Decidable.not_not.1 h107;replace h108:=Decidable.not_not.1 h108;replace h110:=Decidable.not_not.1 h110;exfalso;revert hb;simp[vV,h106,h107,h108,h109,h110,h111,h112,h113]
                     ·refine(ve (r:=[((Al (fN f) true (nB a1 a0) (nB b1 b0)).1:Int),((Al (fN f) true (nB a1 a0) (nB b1 b0)).2:Int)]) (by simp only[uY,auv];rw[aqJ _ _ _ _ _  (by rw[vH];exact((yh f).1 (Decidable.not_not.1 h107)))];simp only[vH,vM];try rfl) (by rfl)).trans ?_
                      have e:yc (u8 o) (fN t) (fN f) (u8 m).toNat (u8 i==1) (nB a1 a0) (nB b1 b0) (nB c1 c0) (u64 a0).toNat=Al (fN f) true (nB a1 a0) (nB b1 b0):=by simp[yc,h106]
                      rw[e,vg rfl]
                      simp only[uY]
                      simp only[(O9 (Nat.lt_of_le_of_lt J7 (by decide))).1,(O9 (Nat.lt_of_le_of_lt J7 (by decide))).2,BD J7,BD afQ]
                    ·replace h107:=Decidable.not_not.1 h107;replace h108:=Decidable.not_not.1 h108;replace h110:=Decidable.not_not.1 h110;exfalso;revert hb;simp[vV,h106,h107,h108,h109,h110,h111,h112]
                   ·replace h107:=Decidable.not_not.1 h107;replace h108:=Decidable.not_not.1 h108;replace h110:=Decidable.not_not.1 h110;exfalso;revert hb;simp[vV,h106,h107,h108,h109,h110,h111]
              ·exfalso;revert hb;simp[vV,h1,h9,h17,h25,h33,h41,h49,h57,h65,h73,h81,h89,h98,h106]
end Go.Proofs.YtemomocmfggiaaaGreatDoor
