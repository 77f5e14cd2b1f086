import Derived.Test.YtemomocmfggiaaaGreatDoorP21U6
import Derived.Test.YtemomocmfggiaaaGreatDoorR1U6
set_option linter.unusedSimpArgs false
set_option linter.unusedVariables false
set_option maxRecDepth 100000
set_option maxHeartbeats 1500000
namespace Go.Proofs.YtemomocmfggiaaaGreatDoor
open Go.RowKit
theorem avD (x y:Int):(x==y)=decide (x=y):=by rw[Bool.eq_iff_iff,beq_iff_eq,decide_eq_true_iff]
theorem avE (f a1 a0 b1 b0:Int) (hf:fN f<4):Pw [f,a1,a0,b1,b0]=oR (Df (fN f) (nB a1 a0) (nB b1 b0)):=by
 have hf3:fN (u8 f)<4:=by rw[vH];exact hf
 have known:=Db hf
 have sg:∀ x,yU (fN f) x=FP.sgn (fN f) x:=fun x=>by unfold yU;rw[decide_eq_true hf,Bool.true_and]
 obtain⟨x,hx⟩:∃ x,x=wu (fN f) (nB a1 a0):=⟨_,rfl⟩
 obtain⟨y,hy⟩:∃ y,y=wu (fN f) (nB b1 b0):=⟨_,rfl⟩
 obtain⟨ea,hea⟩:∃ e,e=vQ (fN f) (nB a1 a0):=⟨_,rfl⟩
 obtain⟨eb,heb⟩:∃ e,e=vQ (fN f) (nB b1 b0):=⟨_,rfl⟩
 have ra:=yJ (f:=fN f) (b:=nB a1 a0)
 have rb:=yJ (f:=fN f) (b:=nB b1 b0)
 rw[← hea] at ra
 rw[← heb] at rb
 have xl:x<vF:=by rw[hx];exact zL _ _
 have yl:y<vF:=by rw[hy];exact zL _ _
 have iea:i64 ea=ea:=wL (by omega) (by omega)
 have ieb:i64 eb=eb:=wL (by omega) (by omega)
 have ies:i64 (ea-eb)=ea-eb:=wL (by omega) (by omega)
 have ie1:i64 (eb-1)=eb-1:=wL (by omega) (by omega)
 have iem:i64 (min ea eb+128)=min ea eb+128:=wL (by omega) (by omega)
 have unA:yA [u8 f,u64 a1,u64 a0] = [vw (FP.sgn (fN f) (nB a1 a0)),((uZ (fN f) (nB a1 a0):Nat):Int),ea,wd x 1,wd x 0]:=by
  rw[Bl,vH,vM,sg,vR,hx,hea];rfl
 have unB:yA [u8 f,u64 b1,u64 b0] = [vw (FP.sgn (fN f) (nB b1 b0)),((uZ (fN f) (nB b1 b0):Nat):Int),eb,wd y 1,wd y 0]:=by
  rw[Bl,vH,vM,sg,vR,hy,heb];rfl
 have naA:yR [u8 f,u64 a1,u64 a0] = [vw (decide (4≤uZ (fN f) (nB a1 a0)))]:=by rw[Bj,vH,vM]
 have naB:yR [u8 f,u64 b1,u64 b0] = [vw (decide (4≤uZ (fN f) (nB b1 b0)))]:=by rw[Bj,vH,vM]
 have u8A:=Ak (fN f) (nB a1 a0)
 have u8B:=Ak (fN f) (nB b1 b0)
 have pk:∀ (j:Int) (q:Bool),vG j=q→DF [u8 f,j,u64 a1,u64 a0,u64 b1,u64 b0] = [wd (yj (fN f) q (nB a1 a0) (nB b1 b0)) 1,wd (yj (fN f) q (nB a1 a0) (nB b1 b0)) 0,((yL (fN f) q (nB a1 a0) (nB b1 b0):Nat):Int),vw (xc (fN f) q (nB a1 a0) (nB b1 b0))]:=fun j q hj=>by
  rw[aaA _ _ _ _ _ _ hf3,vH,vM,vM,hj]
 have pk1:∀ {q:Bool},4≤uZ (fN f) (nB a1 a0)→xc (fN f) q (nB a1 a0) (nB b1 b0)=true:=fun h=>by unfold xc;rw[decide_eq_true h];rfl
 have pk2:∀ {q:Bool},4≤uZ (fN f) (nB b1 b0)→xc (fN f) q (nB a1 a0) (nB b1 b0)=true:=fun h=>by unfold xc;rw[decide_eq_true h,Bool.true_or,Bool.or_true]
 have pk3:xc (fN f) true (nB a1 a0) (nB b1 b0)=true:=by unfold xc;rw[Bool.or_true,Bool.or_true]
 have cuE:Dt [u8 f,u64 a1,u64 a0] = [wd (FP.mk (fN f) (FP.sgn (fN f) (nB a1 a0)) (FP.cod (fN f) (nB a1 a0))) 1,wd (FP.mk (fN f) (FP.sgn (fN f) (nB a1 a0)) (FP.cod (fN f) (nB a1 a0))) 0]:=by
  rw[Ro,vH,vM,← FP.mk_cut hf,vR]
 rw[Am]
 obtain⟨C,hC⟩:∃ C,C=FP.remC (fN f) (FP.cod (fN f) (nB a1 a0)) (FP.cod (fN f) (nB b1 b0)):=⟨_,rfl⟩
 generalize hR:Df (fN f) (nB a1 a0) (nB b1 b0)=R
 have rP:∀ q:Bool,(4≤uZ (fN f) (nB a1 a0)∧q=false)∨(¬ 4≤uZ (fN f) (nB a1 a0)∧4≤uZ (fN f) (nB b1 b0)∧q=false)∨(¬ 4≤uZ (fN f) (nB a1 a0)∧¬ 4≤uZ (fN f) (nB b1 b0)∧(q=true↔L8 (uZ (fN f) (nB a1 a0)) (uZ (fN f) (nB b1 b0))=true)∧q=true)→R=(yj (fN f) q (nB a1 a0) (nB b1 b0),yL (fN f) q (nB a1 a0) (nB b1 b0)):=fun q h=>by
  rw[← hR]
  unfold Df yj yL Bv
  rcases h with⟨h1,h2⟩|⟨h1,h2,h3⟩|⟨h1,h2,h3,h4⟩
  ·simp only[h1,h2,if_true,true_or,false_or,Bool.false_eq_true]
  ·simp only[h1,h2,h3,if_true,if_false,or_true,false_or,Bool.false_eq_true]
  ·have h5:=h3.1 h4
   simp only[h1,h2,h4,h5,if_true,if_false,or_self]
 have bd:∀ {q:Bool},q=true↔q=true:=Iff.rfl
 have rS:¬ 4≤uZ (fN f) (nB a1 a0)→¬ 4≤uZ (fN f) (nB b1 b0)→¬ L8 (uZ (fN f) (nB a1 a0)) (uZ (fN f) (nB b1 b0))=true→(uZ (fN f) (nB a1 a0)=0∨uZ (fN f) (nB b1 b0)=3)→R=(FP.mk (fN f) (FP.sgn (fN f) (nB a1 a0)) (FP.cod (fN f) (nB a1 a0)),0):=fun h1 h2 h3 h4=>by
  rw[← hR];unfold Df;rw[if_neg h1,if_neg h2,if_neg h3,if_pos h4]
 have not_ok:¬ xc (fN f) (decide (uZ (fN f) (nB b1 b0)=0)) (nB a1 a0) (nB b1 b0)=true→¬ 4≤uZ (fN f) (nB a1 a0)∧¬ 4≤uZ (fN f) (nB b1 b0)∧¬ uZ (fN f) (nB b1 b0)=0:=fun h=>by
  unfold xc at h
  simp only[Bool.or_eq_true,decide_eq_true_iff,not_or] at h
  exact h
 have rP2:¬ 4≤uZ (fN f) (nB a1 a0)→¬ 4≤uZ (fN f) (nB b1 b0)→¬ uZ (fN f) (nB a1 a0)=3→xc (fN f) (decide (uZ (fN f) (nB b1 b0)=0)) (nB a1 a0) (nB b1 b0)=true→R=(yj (fN f) (decide (uZ (fN f) (nB b1 b0)=0)) (nB a1 a0) (nB b1 b0),yL (fN f) (decide (uZ (fN f) (nB b1 b0)=0)) (nB a1 a0) (nB b1 b0)):=fun h1 h2 h3 h4=>by
  have h5:uZ (fN f) (nB b1 b0)=0:=by
   unfold xc at h4
   simpa only[Bool.or_eq_true,decide_eq_true_iff,h1,h2,false_or] using h4
  exact rP _ (.inr (.inr ⟨h1,h2,by rw[R4,decide_eq_true_iff];omega,decide_eq_true h5⟩))
 have rO:¬ xc (fN f) (decide (uZ (fN f) (nB b1 b0)=0)) (nB a1 a0) (nB b1 b0)=true→¬ uZ (fN f) (nB a1 a0)=3→(uZ (fN f) (nB a1 a0)=0∨uZ (fN f) (nB b1 b0)=3)→R=(FP.mk (fN f) (FP.sgn (fN f) (nB a1 a0)) (FP.cod (fN f) (nB a1 a0)),0):=fun h h1 h2=>by
  obtain⟨k1,k2,k3⟩:=not_ok h
  exact rS k1 k2 (by rw[R4];omega) h2
 have pkF8:∀ q:Bool,u8 ((yL (fN f) q (nB a1 a0) (nB b1 b0):Nat):Int)=((yL (fN f) q (nB a1 a0) (nB b1 b0):Nat):Int):=fun q=>by
  have:=aaz (fN f) q (nB a1 a0) (nB b1 b0)
  exact BP (by omega) (by omega)
 have fin:¬ xc (fN f) (decide (uZ (fN f) (nB b1 b0)=0)) (nB a1 a0) (nB b1 b0)=true→¬ uZ (fN f) (nB a1 a0)=3→¬ uZ (fN f) (nB a1 a0)=0→¬ uZ (fN f) (nB b1 b0)=3 →
   (uZ (fN f) (nB a1 a0)=1∨uZ (fN f) (nB a1 a0)=2)∧(uZ (fN f) (nB b1 b0)=1∨uZ (fN f) (nB b1 b0)=2):=fun h h1 h2 h3=>by
  obtain⟨k1,k2,k3⟩:=not_ok h;omega
 obtain⟨Gd,hGd⟩:∃ Gd:Prop,Gd=((uZ (fN f) (nB a1 a0)=1∨uZ (fN f) (nB a1 a0)=2)∧(uZ (fN f) (nB b1 b0)=1∨uZ (fN f) (nB b1 b0)=2)):=⟨_,rfl⟩
 rw[← hGd] at fin
 have big:Gd→2^127≤x∧2^127≤y:=fun g=>by rw[hGd] at g;rw[hx,hy];exact⟨(Co hf g.1).1,(Co hf g.2).1⟩
 have xy:Gd→x<2*y∧0<y:=fun g=>ail xl (big g).2
 have rE:Gd→ea<eb-1→R=(FP.mk (fN f) (FP.sgn (fN f) (nB a1 a0)) (FP.cod (fN f) (nB a1 a0)),0):=fun g h=>by
  rw[hGd] at g
  rw[← hR]
  exact avt hf g.1 g.2 (by rw[← hea,← heb];exact h)
 have sub128:∀ {p q:Nat},p<vF→p-q<vF:=fun h=>Nat.lt_of_le_of_lt (Nat.sub_le _ _) h
 have sub256:∀ {p q:Nat},p<vF→p-q<vL:=fun h=>avr h
 have w2lt:2*y-x<vL:=avp yl
 have yy256:y+y<vL:=avq yl
 have wsE:Gd→Gn [wd (y+y) 0,wd (y+y) 1,wd (y+y) 2,wd (y+y) 3,wd x 0,wd x 1,wd x 2,wd x 3] = [wd (2*y-x) 0,wd (2*y-x) 1,wd (2*y-x) 2,wd (2*y-x) 3,0]:=fun g=>by
  have:=(xy g).1
  rw[show 2*y-x=y+y-x by omega];exact aaC yy256 (by omega)
 have r0L:Gd→y≤x→x-y<y:=fun g h=>by have:=(xy g).1;omega
 have r0S:Gd→x<y→x<y:=fun g h=>h
 have mdL1:Gd→y≤x→0<ea-eb→vO x (ea-eb).toNat y=((vO (x-y) (ea-eb).toNat y).1,(vO (x-y) (ea-eb).toNat y).2):=fun g h h2=>by
  obtain⟨q,hq⟩:∃ q,(ea-eb).toNat=q+1:=⟨(ea-eb).toNat-1,by omega⟩
  rw[hq];exact((aii (n:=q) (xy g).2 (xy g).1).1 h).1.symm
 have mdL0:Gd→y≤x→ea=eb→vO x (ea-eb).toNat y=(x-y,true):=fun g h h2=>by
  rw[show(ea-eb).toNat=0 by omega];exact((aii (n:=0) (xy g).2 (xy g).1).1 h).2
 have mdS1:Gd→x<y→0<ea-eb→vO x (ea-eb).toNat y=((vO x (ea-eb).toNat y).1,(vO x (ea-eb).toNat y).2):=fun _ _ _=>rfl
 have mdS0:Gd→x<y→ea=eb→vO x (ea-eb).toNat y=(x,false):=fun g h h2=>by
  rw[show(ea-eb).toNat=0 by omega];exact Vq h
 have mlt:∀ {m:Nat} {o:Bool},Gd→vO x (ea-eb).toNat y=(m,o)→m<y:=fun g h=>by
  have h1:=ag5 (r:=x) (n:=(ea-eb).toNat) (xy g).2
  rw[h] at h1;exact h1
 obtain⟨FS,hFS⟩:∃ FS:Nat→Bool→Prop,FS=fun S T=>R=(FP.mk (fN f) (FP.sgn (fN f) (nB a1 a0) != (T && !decide (S=0))) C,0)∧∀ N E:Int,vG N=(FP.sgn (fN f) (nB a1 a0) != (T && !decide (S=0)))→i64 E=min ea eb+128 →
   yu [u8 f,4,0,N,E,wd S 0,wd S 1,wd S 2,wd S 3] = [wd (FP.mk (fN f) (FP.sgn (fN f) (nB a1 a0) != (T && !decide (S=0))) C) 1,wd (FP.mk (fN f) (FP.sgn (fN f) (nB a1 a0) != (T && !decide (S=0))) C) 0,0]:=⟨_,rfl⟩
 have mkFS:∀ {S:Nat} {T:Bool},Gd→S<vL→S*2^(min ea eb+40000).toNat=FP.remV (wu (fN f) (nB a1 a0)*2^(vQ (fN f) (nB a1 a0)+40000).toNat) (wu (fN f) (nB b1 b0)*2^(vQ (fN f) (nB b1 b0)+40000).toNat) →
   FP.remT (wu (fN f) (nB a1 a0)*2^(vQ (fN f) (nB a1 a0)+40000).toNat) (wu (fN f) (nB b1 b0)*2^(vQ (fN f) (nB b1 b0)+40000).toNat)=T→FS S T:=fun {S T} g hS hV hT=>by
  rw[hGd] at g
  obtain⟨h1,h2⟩:=avo hf g.1 g.2 (by rw[hea,heb]) hV hT
  rw[hFS]
  refine⟨by rw[← hR,hC];exact h1,fun N E hN hE=>?_⟩
  rw[GI _ _ _ _ _ _ _ _ _ hf3 (by decide),vH,hN,hE,Lt (by omega) (by omega),xP hS,show(u8 4).toNat=4 from rfl,h2,← hC,vR];rfl
 have fs2t:Gd→ea=eb-1→y<x→FS (2*y-x) true:=fun g h h2=>by
  obtain⟨q1,q2⟩:=aij hx hy (by rw[← hea,← heb];exact h) (xy g).1
  rw[if_pos h2] at q1
  rw[decide_eq_true h2] at q2
  exact mkFS g w2lt (by rw[show min ea eb=vQ (fN f) (nB a1 a0) by rw[← hea];omega];exact q1) q2
 have fs2f:Gd→ea=eb-1→¬ y<x→FS x false:=fun g h h2=>by
  obtain⟨q1,q2⟩:=aij hx hy (by rw[← hea,← heb];exact h) (xy g).1
  rw[if_neg h2] at q1
  rw[decide_eq_false h2] at q2
  exact mkFS g (aim xl) (by rw[show min ea eb=vQ (fN f) (nB a1 a0) by rw[← hea];omega];exact q1) q2
 have fs3t:∀ {m:Nat} {o:Bool},Gd→eb≤ea→vO x (ea-eb).toNat y=(m,o)→(y-m<m∨(m=y-m∧o=true))→FS (y-m) true:=fun {m o} g h e h2=>by
  have e':vO x (vQ (fN f) (nB a1 a0)-vQ (fN f) (nB b1 b0)).toNat y=(m,o):=by rw[← hea,← heb];exact e
  obtain⟨q1,q2⟩:=aik hx hy (by rw[← hea,← heb];exact h) (xy g).2 e'
  have hT:(decide (y-m<m)||(decide (m=y-m)&&o))=true:=by simp only[Bool.or_eq_true,Bool.and_eq_true,decide_eq_true_iff];exact h2
  rw[hT] at q1 q2
  exact mkFS g (sub256 yl) (by rw[show min ea eb=vQ (fN f) (nB b1 b0) by rw[← heb];omega];exact q1) q2
 have fs3f:∀ {m:Nat} {o:Bool},Gd→eb≤ea→vO x (ea-eb).toNat y=(m,o)→¬ y-m<m→¬ (m=y-m∧o=true)→FS m false:=fun {m o} g h e h2 h3=>by
  have e':vO x (vQ (fN f) (nB a1 a0)-vQ (fN f) (nB b1 b0)).toNat y=(m,o):=by rw[← hea,← heb];exact e
  obtain⟨q1,q2⟩:=aik hx hy (by rw[← hea,← heb];exact h) (xy g).2 e'
  have hT:(decide (y-m<m)||(decide (m=y-m)&&o))=false:=by
   rw[Bool.eq_false_iff];intro h4;simp only[Bool.or_eq_true,Bool.and_eq_true,decide_eq_true_iff] at h4;exact h4.elim h2 h3
  rw[hT] at q1 q2
  exact mkFS g (aim (Nat.lt_trans (mlt g e) yl)) (by rw[show min ea eb=vQ (fN f) (nB b1 b0) by rw[← heb];omega];exact q1) q2
 rw[hFS] at fs2t fs2f fs3t fs3f
 clear mkFS hFS
 rw[Pw,Vr]
 refine tF (by simp only[uY];exact known) ?_
 refine(ve (r:=[vw (FP.sgn (fN f) (nB a1 a0)),((uZ (fN f) (nB a1 a0):Nat):Int),ea,wd (x) 1,wd (x) 0]) (by simp only[uY,ahd];exact unA) (by rfl)).trans ?_
 refine(ve (r:=[vw (FP.sgn (fN f) (nB b1 b0)),((uZ (fN f) (nB b1 b0):Nat):Int),eb,wd (y) 1,wd (y) 0]) (by simp only[uY,ahd];exact unB) (by rfl)).trans ?_
 refine(ve (r:=[vw (decide (4≤uZ (fN f) (nB a1 a0)))]) (by simp only[uY,ahe];exact naA) (by rfl)).trans ?_
 refine tI (4≤uZ (fN f) (nB a1 a0)) (by simp only[uY];try rfl) (fun h1=>?_) (fun h1=>?_)
 ·refine(ve (r:=[wd (yj (fN f) false (nB a1 a0) (nB b1 b0)) 1,wd (yj (fN f) false (nB a1 a0) (nB b1 b0)) 0,((yL (fN f) false (nB a1 a0) (nB b1 b0):Nat):Int),vw (xc (fN f) false (nB a1 a0) (nB b1 b0))]) (by simp only[uY,Vs,u8B];exact pk _ _ (by first|rfl|(simp only[vJ,LH]))) (by rfl)).trans ?_
  refine tT (by simp only[uY];exact pk1 h1) ?_
  rw[vg rfl]
  simp only[uY]
  rw[rP _ (.inl ⟨h1,rfl⟩)]
  simp only[pkF8]
 ·refine(ve (r:=[vw (decide (4≤uZ (fN f) (nB b1 b0)))]) (by simp only[uY,ahe];exact naB) (by rfl)).trans ?_
  refine tI (4≤uZ (fN f) (nB b1 b0)) (by simp only[uY];try rfl) (fun h2=>?_) (fun h2=>?_)
  ·refine(ve (r:=[wd (yj (fN f) false (nB a1 a0) (nB b1 b0)) 1,wd (yj (fN f) false (nB a1 a0) (nB b1 b0)) 0,((yL (fN f) false (nB a1 a0) (nB b1 b0):Nat):Int),vw (xc (fN f) false (nB a1 a0) (nB b1 b0))]) (by simp only[uY,Vs,u8B];exact pk _ _ (by first|rfl|(simp only[vJ,LH]))) (by rfl)).trans ?_
   refine tT (by simp only[uY];exact pk2 h2) ?_
   rw[vg rfl]
   simp only[uY]
   rw[rP _ (.inr (.inl ⟨h1,h2,rfl⟩))]
   simp only[pkF8]
  ·refine tI (uZ (fN f) (nB a1 a0)=3) (by simp only[uY,u8A];exact xS _ 3) (fun h3=>?_) (fun h3=>?_)
   ·refine(ve (r:=[wd (yj (fN f) true (nB a1 a0) (nB b1 b0)) 1,wd (yj (fN f) true (nB a1 a0) (nB b1 b0)) 0,((yL (fN f) true (nB a1 a0) (nB b1 b0):Nat):Int),vw (xc (fN f) true (nB a1 a0) (nB b1 b0))]) (by simp only[uY,Vs,u8B];exact pk _ _ (by first|rfl|(simp only[vJ,LH]))) (by rfl)).trans ?_
    refine tT (by simp only[uY];exact pk3) ?_
    rw[vg rfl]
    simp only[uY]
    rw[rP _ (.inr (.inr ⟨h1,h2,⟨fun _=>(R4 _ _).2 (.inl h3),fun _=>rfl⟩,rfl⟩))]
    simp only[pkF8]
   ·refine(ve (r:=[wd (yj (fN f) (decide (uZ (fN f) (nB b1 b0)=0)) (nB a1 a0) (nB b1 b0)) 1,wd (yj (fN f) (decide (uZ (fN f) (nB b1 b0)=0)) (nB a1 a0) (nB b1 b0)) 0,((yL (fN f) (decide (uZ (fN f) (nB b1 b0)=0)) (nB a1 a0) (nB b1 b0):Nat):Int),vw (xc (fN f) (decide (uZ (fN f) (nB b1 b0)=0)) (nB a1 a0) (nB b1 b0))]) (by simp only[uY,Vs,u8B];exact pk _ _ (by first|rfl|(simp only[vJ,LH]))) (by rfl)).trans ?_
    refine tI (xc (fN f) (decide (uZ (fN f) (nB b1 b0)=0)) (nB a1 a0) (nB b1 b0)=true) (by simp only[uY];exact(Bool.decide_coe _).symm) (fun h4=>?_) (fun h4=>?_)
    ·rw[vg rfl]
     simp only[uY]
     rw[rP2 h1 h2 h3 h4]
     simp only[pkF8]
    ·refine tI (uZ (fN f) (nB a1 a0)=0) (by simp only[uY,u8A];exact xS _ 0) (fun h5=>?_) (fun h5=>?_)
     ·refine(ve (r:=[wd (FP.mk (fN f) (FP.sgn (fN f) (nB a1 a0)) (FP.cod (fN f) (nB a1 a0))) 1,wd (FP.mk (fN f) (FP.sgn (fN f) (nB a1 a0)) (FP.cod (fN f) (nB a1 a0))) 0]) (by simp only[uY,aa2];exact cuE) (by rfl)).trans ?_
      rw[vg rfl]
      simp only[uY]
      rw[rO h4 h3 (by omega)]
      rfl
     ·refine tI (uZ (fN f) (nB b1 b0)=3) (by simp only[uY,u8B];exact xS _ 3) (fun h6=>?_) (fun h6=>?_)
      ·refine(ve (r:=[wd (FP.mk (fN f) (FP.sgn (fN f) (nB a1 a0)) (FP.cod (fN f) (nB a1 a0))) 1,wd (FP.mk (fN f) (FP.sgn (fN f) (nB a1 a0)) (FP.cod (fN f) (nB a1 a0))) 0]) (by simp only[uY,aa2];exact cuE) (by rfl)).trans ?_
       rw[vg rfl]
       simp only[uY]
       rw[rO h4 h3 (by omega)]
       rfl
      ·refine tI (ea<eb-1) (by simp only[uY,iea,ieb,ie1]) (fun h7=>?_) (fun h7=>?_)
       ·refine(ve (r:=[wd (FP.mk (fN f) (FP.sgn (fN f) (nB a1 a0)) (FP.cod (fN f) (nB a1 a0))) 1,wd (FP.mk (fN f) (FP.sgn (fN f) (nB a1 a0)) (FP.cod (fN f) (nB a1 a0))) 0]) (by simp only[uY,aa2];exact cuE) (by rfl)).trans ?_
        rw[vg rfl]
        simp only[uY]
        rw[rE (fin h4 h3 h5 h6) h7]
        rfl
       ·refine tI (ea=eb-1) (by simp only[uY,iea,ieb,ie1];exact avD _ _) (fun h8=>?_) (fun h8=>?_)
        ·refine(ve (r:=[wd (x) 0,wd (x) 1,wd (x) 2,wd (x) 3]) (by simp only[uY,BZ];exact Az xl) (by rfl)).trans ?_
         refine(ve (r:=[xq x y]) (by simp only[uY,RV];exact Pf xl yl) (by rfl)).trans ?_
         refine tI (y<x) (by simp only[uY,AZ];exact IP) (fun h9=>?_) (fun h9=>?_)
         ·refine(ve (r:=[wd (y) 0,wd (y) 1,wd (y) 2,wd (y) 3]) (by simp only[uY,BZ];exact Az yl) (by rfl)).trans ?_
          refine(ve (r:=[wd (y) 0,wd (y) 1,wd (y) 2,wd (y) 3]) (by simp only[uY,BZ];exact Az yl) (by rfl)).trans ?_
          refine(ve (r:=[wd (y+y) 0,wd (y+y) 1,wd (y+y) 2,wd (y+y) 3,0]) (by simp only[uY,atH];exact agm yy256) (by rfl)).trans ?_
          refine(ve (r:=[wd (2*y-x) 0,wd (2*y-x) 1,wd (2*y-x) 2,wd (2*y-x) 3,0]) (by simp only[uY,atI];exact wsE (fin h4 h3 h5 h6)) (by rfl)).trans ?_
          refine(ve (r:=[vw (decide (2*y-x=0))]) (by simp only[uY,Kg];exact Cq (w2lt)) (by rfl)).trans ?_
          refine(ve (r:=[wd (FP.mk (fN f) (FP.sgn (fN f) (nB a1 a0) != (true && !decide (2*y-x=0))) C) 1,wd (FP.mk (fN f) (FP.sgn (fN f) (nB a1 a0) != (true && !decide (2*y-x=0))) C) 0,0]) (by simp only[uY,Cs];exact(fs2t (fin h4 h3 h5 h6) h8 h9).2 _ _ (by first|(rw[vJ,Bool.true_and];rfl)|(rw[vJ,Bool.false_and];rfl)) (by simp only[iea,ieb,xI,iem])) (by rfl)).trans ?_
          refine tF (by simp only[uY];rfl) ?_
          rw[vg rfl]
          simp only[uY]
          rw[(fs2t (fin h4 h3 h5 h6) h8 h9).1]
          rfl
         ·refine(ve (r:=[wd (FP.mk (fN f) (FP.sgn (fN f) (nB a1 a0) != (false && !decide (x=0))) C) 1,wd (FP.mk (fN f) (FP.sgn (fN f) (nB a1 a0) != (false && !decide (x=0))) C) 0,0]) (by simp only[uY,Cs];exact(fs2f (fin h4 h3 h5 h6) h8 h9).2 _ _ (by first|(rw[vJ,Bool.true_and];rfl)|(rw[vJ,Bool.false_and];rfl)) (by simp only[iea,ieb,xI,iem])) (by rfl)).trans ?_
          refine tF (by simp only[uY];rfl) ?_
          rw[vg rfl]
          simp only[uY]
          rw[(fs2f (fin h4 h3 h5 h6) h8 h9).1]
          rfl
        ·refine(ve (r:=[wd (x+vF-y) 1,wd (x+vF-y) 0,vw (decide (x<y))]) (by simp only[uY,RX];exact agl xl yl) (by rfl)).trans ?_
         refine tI (¬ x<y) (by simp only[uY];exact(decide_not).symm) (fun h10=>?_) (fun h10=>?_)
         ·refine tI (ea-eb>0) (by simp only[uY,iea,ieb,ies]) (fun h11=>?_) (fun h11=>?_)
          ·refine(ve (r:=[wd ((vO (x-y) (ea-eb).toNat y).1) 1,wd ((vO (x-y) (ea-eb).toNat y).1) 0,vw (vO (x-y) (ea-eb).toNat y).2,1]) (by simp only[uY,ahf,iea,ieb,ies];rw[GX (p:=x) (q:=y) (by omega) (by decide),GX (p:=x) (q:=y) (by omega) (by decide)];exact aih (r0L (fin h4 h3 h5 h6) (by omega)) yl (by omega) (by omega)) (by rfl)).trans ?_
           refine(ve (r:=[wd (y-(vO (x-y) (ea-eb).toNat y).1) 1,wd (y-(vO (x-y) (ea-eb).toNat y).1) 0,0]) (by simp only[uY,RX];exact U1 yl (Nat.le_of_lt (mlt (o:=(vO (x-y) (ea-eb).toNat y).2) (fin h4 h3 h5 h6) (mdL1 (fin h4 h3 h5 h6) (by omega) (by omega))))) (by rfl)).trans ?_
           refine(ve (r:=[xq ((vO (x-y) (ea-eb).toNat y).1) (y-(vO (x-y) (ea-eb).toNat y).1)]) (by simp only[uY,RV];exact Pf (Nat.lt_trans (mlt (o:=(vO (x-y) (ea-eb).toNat y).2) (fin h4 h3 h5 h6) (mdL1 (fin h4 h3 h5 h6) (by omega) (by omega))) yl) (sub128 yl)) (by rfl)).trans ?_
           refine tI (y-(vO (x-y) (ea-eb).toNat y).1<(vO (x-y) (ea-eb).toNat y).1) (by simp only[uY,AZ];exact IP) (fun h12=>?_) (fun h12=>?_)
           ·refine(ve (r:=[wd (y-(vO (x-y) (ea-eb).toNat y).1) 0,wd (y-(vO (x-y) (ea-eb).toNat y).1) 1,wd (y-(vO (x-y) (ea-eb).toNat y).1) 2,wd (y-(vO (x-y) (ea-eb).toNat y).1) 3]) (by simp only[uY,BZ];exact Az (sub128 yl)) (by rfl)).trans ?_
            refine(ve (r:=[vw (decide (y-(vO (x-y) (ea-eb).toNat y).1=0))]) (by simp only[uY,Kg];exact Cq (sub256 yl)) (by rfl)).trans ?_
            refine(ve (r:=[wd (FP.mk (fN f) (FP.sgn (fN f) (nB a1 a0) != (true && !decide (y-(vO (x-y) (ea-eb).toNat y).1=0))) C) 1,wd (FP.mk (fN f) (FP.sgn (fN f) (nB a1 a0) != (true && !decide (y-(vO (x-y) (ea-eb).toNat y).1=0))) C) 0,0]) (by simp only[uY,Cs];exact(fs3t (fin h4 h3 h5 h6) (by omega) (mdL1 (fin h4 h3 h5 h6) (by omega) (by omega)) (.inl h12)).2 _ _ (by first|(rw[vJ,Bool.true_and];rfl)|(rw[vJ,Bool.false_and];rfl)) (by simp only[iea,ieb,xI,iem])) (by rfl)).trans ?_
            refine tF (by simp only[uY];rfl) ?_
            rw[vg rfl]
            simp only[uY]
            rw[(fs3t (fin h4 h3 h5 h6) (by omega) (mdL1 (fin h4 h3 h5 h6) (by omega) (by omega)) (.inl h12)).1]
            rfl
           ·refine tI ((vO (x-y) (ea-eb).toNat y).1=y-(vO (x-y) (ea-eb).toNat y).1) (by simp only[uY,AZ];exact Pg) (fun h13=>?_) (fun h13=>?_)
            ·refine tI ((vO (x-y) (ea-eb).toNat y).2=true) (by simp only[uY];exact(Bool.decide_coe _).symm) (fun h14=>?_) (fun h14=>?_)
             ·refine(ve (r:=[wd (y-(vO (x-y) (ea-eb).toNat y).1) 0,wd (y-(vO (x-y) (ea-eb).toNat y).1) 1,wd (y-(vO (x-y) (ea-eb).toNat y).1) 2,wd (y-(vO (x-y) (ea-eb).toNat y).1) 3]) (by simp only[uY,BZ];exact Az (sub128 yl)) (by rfl)).trans ?_
              refine(ve (r:=[vw (decide (y-(vO (x-y) (ea-eb).toNat y).1=0))]) (by simp only[uY,Kg];exact Cq (sub256 yl)) (by rfl)).trans ?_
              refine(ve (r:=[wd (FP.mk (fN f) (FP.sgn (fN f) (nB a1 a0) != (true && !decide (y-(vO (x-y) (ea-eb).toNat y).1=0))) C) 1,wd (FP.mk (fN f) (FP.sgn (fN f) (nB a1 a0) != (true && !decide (y-(vO (x-y) (ea-eb).toNat y).1=0))) C) 0,0]) (by simp only[uY,Cs];exact(fs3t (fin h4 h3 h5 h6) (by omega) (mdL1 (fin h4 h3 h5 h6) (by omega) (by omega)) (.inr ⟨h13,h14⟩)).2 _ _ (by first|(rw[vJ,Bool.true_and];rfl)|(rw[vJ,Bool.false_and];rfl)) (by simp only[iea,ieb,xI,iem])) (by rfl)).trans ?_
              refine tF (by simp only[uY];rfl) ?_
              rw[vg rfl]
              simp only[uY]
              rw[(fs3t (fin h4 h3 h5 h6) (by omega) (mdL1 (fin h4 h3 h5 h6) (by omega) (by omega)) (.inr ⟨h13,h14⟩)).1]
              rfl
             ·refine(ve (r:=[wd ((vO (x-y) (ea-eb).toNat y).1) 0,wd ((vO (x-y) (ea-eb).toNat y).1) 1,wd ((vO (x-y) (ea-eb).toNat y).1) 2,wd ((vO (x-y) (ea-eb).toNat y).1) 3]) (by simp only[uY,BZ];exact Az (Nat.lt_trans (mlt (o:=(vO (x-y) (ea-eb).toNat y).2) (fin h4 h3 h5 h6) (mdL1 (fin h4 h3 h5 h6) (by omega) (by omega))) yl)) (by rfl)).trans ?_
              refine(ve (r:=[wd (FP.mk (fN f) (FP.sgn (fN f) (nB a1 a0) != (false && !decide ((vO (x-y) (ea-eb).toNat y).1=0))) C) 1,wd (FP.mk (fN f) (FP.sgn (fN f) (nB a1 a0) != (false && !decide ((vO (x-y) (ea-eb).toNat y).1=0))) C) 0,0]) (by simp only[uY,Cs];exact(fs3f (fin h4 h3 h5 h6) (by omega) (mdL1 (fin h4 h3 h5 h6) (by omega) (by omega)) h12 (fun h=>h14 h.2)).2 _ _ (by first|(rw[vJ,Bool.true_and];rfl)|(rw[vJ,Bool.false_and];rfl)) (by simp only[iea,ieb,xI,iem])) (by rfl)).trans ?_
              refine tF (by simp only[uY];rfl) ?_
              rw[vg rfl]
              simp only[uY]
              rw[(fs3f (fin h4 h3 h5 h6) (by omega) (mdL1 (fin h4 h3 h5 h6) (by omega) (by omega)) h12 (fun h=>h14 h.2)).1]
              rfl
            ·refine(ve (r:=[wd ((vO (x-y) (ea-eb).toNat y).1) 0,wd ((vO (x-y) (ea-eb).toNat y).1) 1,wd ((vO (x-y) (ea-eb).toNat y).1) 2,wd ((vO (x-y) (ea-eb).toNat y).1) 3]) (by simp only[uY,BZ];exact Az (Nat.lt_trans (mlt (o:=(vO (x-y) (ea-eb).toNat y).2) (fin h4 h3 h5 h6) (mdL1 (fin h4 h3 h5 h6) (by omega) (by omega))) yl)) (by rfl)).trans ?_
             refine(ve (r:=[wd (FP.mk (fN f) (FP.sgn (fN f) (nB a1 a0) != (false && !decide ((vO (x-y) (ea-eb).toNat y).1=0))) C) 1,wd (FP.mk (fN f) (FP.sgn (fN f) (nB a1 a0) != (false && !decide ((vO (x-y) (ea-eb).toNat y).1=0))) C) 0,0]) (by simp only[uY,Cs];exact(fs3f (fin h4 h3 h5 h6) (by omega) (mdL1 (fin h4 h3 h5 h6) (by omega) (by omega)) h12 (fun h=>h13 h.1)).2 _ _ (by first|(rw[vJ,Bool.true_and];rfl)|(rw[vJ,Bool.false_and];rfl)) (by simp only[iea,ieb,xI,iem])) (by rfl)).trans ?_
             refine tF (by simp only[uY];rfl) ?_
             rw[vg rfl]
             simp only[uY]
             rw[(fs3f (fin h4 h3 h5 h6) (by omega) (mdL1 (fin h4 h3 h5 h6) (by omega) (by omega)) h12 (fun h=>h13 h.1)).1]
             rfl
          ·refine(ve (r:=[wd (y-(x-y)) 1,wd (y-(x-y)) 0,0]) (by simp only[uY,RX];rw[GX (p:=x) (q:=y) (by omega) (by decide),GX (p:=x) (q:=y) (by omega) (by decide)];exact U1 yl (Nat.le_of_lt (mlt (o:=true) (fin h4 h3 h5 h6) (mdL0 (fin h4 h3 h5 h6) (by omega) (by omega))))) (by rfl)).trans ?_
           refine(ve (r:=[xq ((x-y)) (y-(x-y))]) (by simp only[uY,RV];rw[GX (p:=x) (q:=y) (by omega) (by decide),GX (p:=x) (q:=y) (by omega) (by decide)];exact Pf (Nat.lt_trans (mlt (o:=true) (fin h4 h3 h5 h6) (mdL0 (fin h4 h3 h5 h6) (by omega) (by omega))) yl) (sub128 yl)) (by rfl)).trans ?_
           refine tI (y-(x-y)<(x-y)) (by simp only[uY,AZ];exact IP) (fun h15=>?_) (fun h15=>?_)
           ·refine(ve (r:=[wd (y-(x-y)) 0,wd (y-(x-y)) 1,wd (y-(x-y)) 2,wd (y-(x-y)) 3]) (by simp only[uY,BZ];exact Az (sub128 yl)) (by rfl)).trans ?_
            refine(ve (r:=[vw (decide (y-(x-y)=0))]) (by simp only[uY,Kg];exact Cq (sub256 yl)) (by rfl)).trans ?_
            refine(ve (r:=[wd (FP.mk (fN f) (FP.sgn (fN f) (nB a1 a0) != (true && !decide (y-(x-y)=0))) C) 1,wd (FP.mk (fN f) (FP.sgn (fN f) (nB a1 a0) != (true && !decide (y-(x-y)=0))) C) 0,0]) (by simp only[uY,Cs];exact(fs3t (fin h4 h3 h5 h6) (by omega) (mdL0 (fin h4 h3 h5 h6) (by omega) (by omega)) (.inl h15)).2 _ _ (by first|(rw[vJ,Bool.true_and];rfl)|(rw[vJ,Bool.false_and];rfl)) (by simp only[iea,ieb,xI,iem])) (by rfl)).trans ?_
            refine tF (by simp only[uY];rfl) ?_
            rw[vg rfl]
            simp only[uY]
            rw[(fs3t (fin h4 h3 h5 h6) (by omega) (mdL0 (fin h4 h3 h5 h6) (by omega) (by omega)) (.inl h15)).1]
            rfl
           ·refine tI ((x-y)=y-(x-y)) (by simp only[uY,AZ];exact Pg) (fun h16=>?_) (fun h16=>?_)
            ·refine(ve (r:=[wd (y-(x-y)) 0,wd (y-(x-y)) 1,wd (y-(x-y)) 2,wd (y-(x-y)) 3]) (by simp only[uY,BZ];exact Az (sub128 yl)) (by rfl)).trans ?_
             refine(ve (r:=[vw (decide (y-(x-y)=0))]) (by simp only[uY,Kg];exact Cq (sub256 yl)) (by rfl)).trans ?_
             refine(ve (r:=[wd (FP.mk (fN f) (FP.sgn (fN f) (nB a1 a0) != (true && !decide (y-(x-y)=0))) C) 1,wd (FP.mk (fN f) (FP.sgn (fN f) (nB a1 a0) != (true && !decide (y-(x-y)=0))) C) 0,0]) (by simp only[uY,Cs];exact(fs3t (fin h4 h3 h5 h6) (by omega) (mdL0 (fin h4 h3 h5 h6) (by omega) (by omega)) (.inr ⟨h16,rfl⟩)).2 _ _ (by first|(rw[vJ,Bool.true_and];rfl)|(rw[vJ,Bool.false_and];rfl)) (by simp only[iea,ieb,xI,iem])) (by rfl)).trans ?_
             refine tF (by simp only[uY];rfl) ?_
             rw[vg rfl]
             simp only[uY]
             rw[(fs3t (fin h4 h3 h5 h6) (by omega) (mdL0 (fin h4 h3 h5 h6) (by omega) (by omega)) (.inr ⟨h16,rfl⟩)).1]
             rfl
            ·refine(ve (r:=[wd ((x-y)) 0,wd ((x-y)) 1,wd ((x-y)) 2,wd ((x-y)) 3]) (by simp only[uY,BZ];rw[GX (p:=x) (q:=y) (by omega) (by decide),GX (p:=x) (q:=y) (by omega) (by decide)];exact Az (Nat.lt_trans (mlt (o:=true) (fin h4 h3 h5 h6) (mdL0 (fin h4 h3 h5 h6) (by omega) (by omega))) yl)) (by rfl)).trans ?_
             refine(ve (r:=[wd (FP.mk (fN f) (FP.sgn (fN f) (nB a1 a0) != (false && !decide ((x-y)=0))) C) 1,wd (FP.mk (fN f) (FP.sgn (fN f) (nB a1 a0) != (false && !decide ((x-y)=0))) C) 0,0]) (by simp only[uY,Cs];exact(fs3f (fin h4 h3 h5 h6) (by omega) (mdL0 (fin h4 h3 h5 h6) (by omega) (by omega)) h15 (fun h=>h16 h.1)).2 _ _ (by first|(rw[vJ,Bool.true_and];rfl)|(rw[vJ,Bool.false_and];rfl)) (by simp only[iea,ieb,xI,iem])) (by rfl)).trans ?_
             refine tF (by simp only[uY];rfl) ?_
             rw[vg rfl]
             simp only[uY]
             rw[(fs3f (fin h4 h3 h5 h6) (by omega) (mdL0 (fin h4 h3 h5 h6) (by omega) (by omega)) h15 (fun h=>h16 h.1)).1]
             rfl
         ·refine tI (ea-eb>0) (by simp only[uY,iea,ieb,ies]) (fun h17=>?_) (fun h17=>?_)
          ·refine(ve (r:=[wd ((vO (x) (ea-eb).toNat y).1) 1,wd ((vO (x) (ea-eb).toNat y).1) 0,vw (vO (x) (ea-eb).toNat y).2,1]) (by simp only[uY,ahf,iea,ieb,ies];exact aih (r0S (fin h4 h3 h5 h6) (by omega)) yl (by omega) (by omega)) (by rfl)).trans ?_
           refine(ve (r:=[wd (y-(vO (x) (ea-eb).toNat y).1) 1,wd (y-(vO (x) (ea-eb).toNat y).1) 0,0]) (by simp only[uY,RX];exact U1 yl (Nat.le_of_lt (mlt (o:=(vO (x) (ea-eb).toNat y).2) (fin h4 h3 h5 h6) (mdS1 (fin h4 h3 h5 h6) (by omega) (by omega))))) (by rfl)).trans ?_
           refine(ve (r:=[xq ((vO (x) (ea-eb).toNat y).1) (y-(vO (x) (ea-eb).toNat y).1)]) (by simp only[uY,RV];exact Pf (Nat.lt_trans (mlt (o:=(vO (x) (ea-eb).toNat y).2) (fin h4 h3 h5 h6) (mdS1 (fin h4 h3 h5 h6) (by omega) (by omega))) yl) (sub128 yl)) (by rfl)).trans ?_
           refine tI (y-(vO (x) (ea-eb).toNat y).1<(vO (x) (ea-eb).toNat y).1) (by simp only[uY,AZ];exact IP) (fun h18=>?_) (fun h18=>?_)
           ·refine(ve (r:=[wd (y-(vO (x) (ea-eb).toNat y).1) 0,wd (y-(vO (x) (ea-eb).toNat y).1) 1,wd (y-(vO (x) (ea-eb).toNat y).1) 2,wd (y-(vO (x) (ea-eb).toNat y).1) 3]) (by simp only[uY,BZ];exact Az (sub128 yl)) (by rfl)).trans ?_
            refine(ve (r:=[vw (decide (y-(vO (x) (ea-eb).toNat y).1=0))]) (by simp only[uY,Kg];exact Cq (sub256 yl)) (by rfl)).trans ?_
            refine(ve (r:=[wd (FP.mk (fN f) (FP.sgn (fN f) (nB a1 a0) != (true && !decide (y-(vO (x) (ea-eb).toNat y).1=0))) C) 1,wd (FP.mk (fN f) (FP.sgn (fN f) (nB a1 a0) != (true && !decide (y-(vO (x) (ea-eb).toNat y).1=0))) C) 0,0]) (by simp only[uY,Cs];exact(fs3t (fin h4 h3 h5 h6) (by omega) (mdS1 (fin h4 h3 h5 h6) (by omega) (by omega)) (.inl h18)).2 _ _ (by first|(rw[vJ,Bool.true_and];rfl)|(rw[vJ,Bool.false_and];rfl)) (by simp only[iea,ieb,xI,iem])) (by rfl)).trans ?_
            refine tF (by simp only[uY];rfl) ?_
            rw[vg rfl]
            simp only[uY]
            rw[(fs3t (fin h4 h3 h5 h6) (by omega) (mdS1 (fin h4 h3 h5 h6) (by omega) (by omega)) (.inl h18)).1]
            rfl
           ·refine tI ((vO (x) (ea-eb).toNat y).1=y-(vO (x) (ea-eb).toNat y).1) (by simp only[uY,AZ];exact Pg) (fun h19=>?_) (fun h19=>?_)
            ·refine tI ((vO (x) (ea-eb).toNat y).2=true) (by simp only[uY];exact(Bool.decide_coe _).symm) (fun h20=>?_) (fun h20=>?_)
             ·refine(ve (r:=[wd (y-(vO (x) (ea-eb).toNat y).1) 0,wd (y-(vO (x) (ea-eb).toNat y).1) 1,wd (y-(vO (x) (ea-eb).toNat y).1) 2,wd (y-(vO (x) (ea-eb).toNat y).1) 3]) (by simp only[uY,BZ];exact Az (sub128 yl)) (by rfl)).trans ?_
              refine(ve (r:=[vw (decide (y-(vO (x) (ea-eb).toNat y).1=0))]) (by simp only[uY,Kg];exact Cq (sub256 yl)) (by rfl)).trans ?_
              refine(ve (r:=[wd (FP.mk (fN f) (FP.sgn (fN f) (nB a1 a0) != (true && !decide (y-(vO (x) (ea-eb).toNat y).1=0))) C) 1,wd (FP.mk (fN f) (FP.sgn (fN f) (nB a1 a0) != (true && !decide (y-(vO (x) (ea-eb).toNat y).1=0))) C) 0,0]) (by simp only[uY,Cs];exact(fs3t (fin h4 h3 h5 h6) (by omega) (mdS1 (fin h4 h3 h5 h6) (by omega) (by omega)) (.inr ⟨h19,h20⟩)).2 _ _ (by first|(rw[vJ,Bool.true_and];rfl)|(rw[vJ,Bool.false_and];rfl)) (by simp only[iea,ieb,xI,iem])) (by rfl)).trans ?_
              refine tF (by simp only[uY];rfl) ?_
              rw[vg rfl]
              simp only[uY]
              rw[(fs3t (fin h4 h3 h5 h6) (by omega) (mdS1 (fin h4 h3 h5 h6) (by omega) (by omega)) (.inr ⟨h19,h20⟩)).1]
              rfl
             ·refine(ve (r:=[wd ((vO (x) (ea-eb).toNat y).1) 0,wd ((vO (x) (ea-eb).toNat y).1) 1,wd ((vO (x) (ea-eb).toNat y).1) 2,wd ((vO (x) (ea-eb).toNat y).1) 3]) (by simp only[uY,BZ];exact Az (Nat.lt_trans (mlt (o:=(vO (x) (ea-eb).toNat y).2) (fin h4 h3 h5 h6) (mdS1 (fin h4 h3 h5 h6) (by omega) (by omega))) yl)) (by rfl)).trans ?_
              refine(ve (r:=[wd (FP.mk (fN f) (FP.sgn (fN f) (nB a1 a0) != (false && !decide ((vO (x) (ea-eb).toNat y).1=0))) C) 1,wd (FP.mk (fN f) (FP.sgn (fN f) (nB a1 a0) != (false && !decide ((vO (x) (ea-eb).toNat y).1=0))) C) 0,0]) (by simp only[uY,Cs];exact(fs3f (fin h4 h3 h5 h6) (by omega) (mdS1 (fin h4 h3 h5 h6) (by omega) (by omega)) h18 (fun h=>h20 h.2)).2 _ _ (by first|(rw[vJ,Bool.true_and];rfl)|(rw[vJ,Bool.false_and];rfl)) (by simp only[iea,ieb,xI,iem])) (by rfl)).trans ?_
              refine tF (by simp only[uY];rfl) ?_
              rw[vg rfl]
              simp only[uY]
              rw[(fs3f (fin h4 h3 h5 h6) (by omega) (mdS1 (fin h4 h3 h5 h6) (by omega) (by omega)) h18 (fun h=>h20 h.2)).1]
              rfl
            ·refine(ve (r:=[wd ((vO (x) (ea-eb).toNat y).1) 0,wd ((vO (x) (ea-eb).toNat y).1) 1,wd ((vO (x) (ea-eb).toNat y).1) 2,wd ((vO (x) (ea-eb).toNat y).1) 3]) (by simp only[uY,BZ];exact Az (Nat.lt_trans (mlt (o:=(vO (x) (ea-eb).toNat y).2) (fin h4 h3 h5 h6) (mdS1 (fin h4 h3 h5 h6) (by omega) (by omega))) yl)) (by rfl)).trans ?_
             refine(ve (r:=[wd (FP.mk (fN f) (FP.sgn (fN f) (nB a1 a0) != (false && !decide ((vO (x) (ea-eb).toNat y).1=0))) C) 1,wd (FP.mk (fN f) (FP.sgn (fN f) (nB a1 a0) != (false && !decide ((vO (x) (ea-eb).toNat y).1=0))) C) 0,0]) (by simp only[uY,Cs];exact(fs3f (fin h4 h3 h5 h6) (by omega) (mdS1 (fin h4 h3 h5 h6) (by omega) (by omega)) h18 (fun h=>h19 h.1)).2 _ _ (by first|(rw[vJ,Bool.true_and];rfl)|(rw[vJ,Bool.false_and];rfl)) (by simp only[iea,ieb,xI,iem])) (by rfl)).trans ?_
             refine tF (by simp only[uY];rfl) ?_
             rw[vg rfl]
             simp only[uY]
             rw[(fs3f (fin h4 h3 h5 h6) (by omega) (mdS1 (fin h4 h3 h5 h6) (by omega) (by omega)) h18 (fun h=>h19 h.1)).1]
             rfl
          ·refine(ve (r:=[wd (y-(x)) 1,wd (y-(x)) 0,0]) (by simp only[uY,RX];exact U1 yl (Nat.le_of_lt (mlt (o:=false) (fin h4 h3 h5 h6) (mdS0 (fin h4 h3 h5 h6) (by omega) (by omega))))) (by rfl)).trans ?_
           refine(ve (r:=[xq ((x)) (y-(x))]) (by simp only[uY,RV];exact Pf (Nat.lt_trans (mlt (o:=false) (fin h4 h3 h5 h6) (mdS0 (fin h4 h3 h5 h6) (by omega) (by omega))) yl) (sub128 yl)) (by rfl)).trans ?_
           refine tI (y-(x)<(x)) (by simp only[uY,AZ];exact IP) (fun h21=>?_) (fun h21=>?_)
           ·refine(ve (r:=[wd (y-(x)) 0,wd (y-(x)) 1,wd (y-(x)) 2,wd (y-(x)) 3]) (by simp only[uY,BZ];exact Az (sub128 yl)) (by rfl)).trans ?_
            refine(ve (r:=[vw (decide (y-(x)=0))]) (by simp only[uY,Kg];exact Cq (sub256 yl)) (by rfl)).trans ?_
            refine(ve (r:=[wd (FP.mk (fN f) (FP.sgn (fN f) (nB a1 a0) != (true && !decide (y-(x)=0))) C) 1,wd (FP.mk (fN f) (FP.sgn (fN f) (nB a1 a0) != (true && !decide (y-(x)=0))) C) 0,0]) (by simp only[uY,Cs];exact(fs3t (fin h4 h3 h5 h6) (by omega) (mdS0 (fin h4 h3 h5 h6) (by omega) (by omega)) (.inl h21)).2 _ _ (by first|(rw[vJ,Bool.true_and];rfl)|(rw[vJ,Bool.false_and];rfl)) (by simp only[iea,ieb,xI,iem])) (by rfl)).trans ?_
            refine tF (by simp only[uY];rfl) ?_
            rw[vg rfl]
            simp only[uY]
            rw[(fs3t (fin h4 h3 h5 h6) (by omega) (mdS0 (fin h4 h3 h5 h6) (by omega) (by omega)) (.inl h21)).1]
            rfl
           ·refine tI ((x)=y-(x)) (by simp only[uY,AZ];exact Pg) (fun h22=>?_) (fun h22=>?_)
            ·refine(ve (r:=[wd ((x)) 0,wd ((x)) 1,wd ((x)) 2,wd ((x)) 3]) (by simp only[uY,BZ];exact Az (Nat.lt_trans (mlt (o:=false) (fin h4 h3 h5 h6) (mdS0 (fin h4 h3 h5 h6) (by omega) (by omega))) yl)) (by rfl)).trans ?_
             refine(ve (r:=[wd (FP.mk (fN f) (FP.sgn (fN f) (nB a1 a0) != (false && !decide ((x)=0))) C) 1,wd (FP.mk (fN f) (FP.sgn (fN f) (nB a1 a0) != (false && !decide ((x)=0))) C) 0,0]) (by simp only[uY,Cs];exact(fs3f (fin h4 h3 h5 h6) (by omega) (mdS0 (fin h4 h3 h5 h6) (by omega) (by omega)) h21 (fun h=>Bool.false_ne_true h.2)).2 _ _ (by first|(rw[vJ,Bool.true_and];rfl)|(rw[vJ,Bool.false_and];rfl)) (by simp only[iea,ieb,xI,iem])) (by rfl)).trans ?_
             refine tF (by simp only[uY];rfl) ?_
             rw[vg rfl]
             simp only[uY]
             rw[(fs3f (fin h4 h3 h5 h6) (by omega) (mdS0 (fin h4 h3 h5 h6) (by omega) (by omega)) h21 (fun h=>Bool.false_ne_true h.2)).1]
             rfl
            ·refine(ve (r:=[wd ((x)) 0,wd ((x)) 1,wd ((x)) 2,wd ((x)) 3]) (by simp only[uY,BZ];exact Az (Nat.lt_trans (mlt (o:=false) (fin h4 h3 h5 h6) (mdS0 (fin h4 h3 h5 h6) (by omega) (by omega))) yl)) (by rfl)).trans ?_
             refine(ve (r:=[wd (FP.mk (fN f) (FP.sgn (fN f) (nB a1 a0) != (false && !decide ((x)=0))) C) 1,wd (FP.mk (fN f) (FP.sgn (fN f) (nB a1 a0) != (false && !decide ((x)=0))) C) 0,0]) (by simp only[uY,Cs];exact(fs3f (fin h4 h3 h5 h6) (by omega) (mdS0 (fin h4 h3 h5 h6) (by omega) (by omega)) h21 (fun h=>h22 h.1)).2 _ _ (by first|(rw[vJ,Bool.true_and];rfl)|(rw[vJ,Bool.false_and];rfl)) (by simp only[iea,ieb,xI,iem])) (by rfl)).trans ?_
             refine tF (by simp only[uY];rfl) ?_
             rw[vg rfl]
             simp only[uY]
             rw[(fs3f (fin h4 h3 h5 h6) (by omega) (mdS0 (fin h4 h3 h5 h6) (by omega) (by omega)) h21 (fun h=>h22 h.1)).1]
             rfl
end Go.Proofs.YtemomocmfggiaaaGreatDoor
