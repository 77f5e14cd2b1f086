import Derived.Test.YtemomocmfggiaaaGreatDoorTMFU6
set_option linter.unusedSimpArgs false
set_option linter.unusedVariables false
set_option maxRecDepth 100000
namespace Go.Proofs.YtemomocmfggiaaaGreatDoor
open Go.RowKit
theorem yS.to {f:Nat} {nan sig nan' sig':Prop} {R:Nat×Nat} (h:yS f nan sig R) (h1:nan↔nan') (h2:sig'→sig):yS f nan' sig' R :=
 ⟨h.fl,h.lt,h.sg,fun hs=>h.si (h2 hs),by rw[h.na,h1]⟩
theorem agf {f:Nat} (hf:f<4):uZ f 0=0:=by
 rcases FP.f4 hf with rfl|rfl|rfl|rfl<;>decide
theorem aro {f b:Nat} (hf:f<4):uZ f (FE f b)=uZ f b:=by
 unfold FE
 rw[if_pos hf,Ru hf _ (FP.cod_lt f b)]
 unfold uZ
 rw[if_pos hf]
 rfl
theorem arp {f m a b:Nat} {t:Bool} (hf:f<4):yS f (IL f a b) (IM f a b) (GQ f m t a b):=by
 unfold GQ
 split
 ·exact LF hf
 ·have h:=LF (m:=m) (t:=t) (a:=a) (b:=FE f b) hf
  unfold IL IM at h ⊢
  rw[aro hf] at h
  exact h
theorem agh {f m a:Nat} {x:Bool} (hf:f<4):yS f (4≤uZ f a) (uZ f a=5) (BS f m x a):=by
 unfold BS
 split
 ·rename_i h
  refine .qu hf h h ?_ ?_
  ·split
   ·exact .inr rfl
   ·exact .inl rfl
  ·intro h5;rw[if_pos h5]
 split
 ·rename_i h h3
  exact .num hf _ (Nat.le_refl _) (.inl rfl) h (by omega)
 ·rename_i h h3
  have hi:FP.cod f a<FP.inf f:=(Bw hf (by omega)).1
  refine .num hf _ (Nat.le_of_lt (FP.rintC_lt hf hi)) ?_ h (by omega)
  split
  ·exact .inr (.inr (.inl rfl))
  ·exact .inl rfl
theorem arq {f m k n:Nat} {u:Bool} (hf:f<4):yS f False False (FL f m u k n):=by
 unfold FL
 exact .round hf _ (fun h=>h) (fun h=>h)
theorem Ry {f a b c:Nat} (hf:f<4) (hc:c=0):(IL f a b↔FN f a b c)∧(ES f a b c→IM f a b):=by
 subst hc
 have:=agf hf
 unfold IL FN IM ES
 rw[this]
 omega
theorem UW {f a b c:Nat} (hf:f<4) (hb:b=0) (hc:c=0):(4≤uZ f a↔FN f a b c)∧(ES f a b c→uZ f a=5):=by
 subst hb;subst hc
 have:=agf hf
 unfold FN ES
 rw[this]
 omega
theorem aaw {f r:Nat} (hf:f<4) (h:r<2^FP.fW f):r<vF:=by
 have:=(FP.fmtN hf).2.2.2.1
 rw[yn];exact Nat.lt_of_lt_of_le h (Nat.pow_le_pow_right (by decide) this)
theorem ars (l:List Int) (h:l.length=11):PV l = [1]:=by
 match l,h with
 | [o,f,t,m,i,a1,a0,b1,b0,c1,c0],_ =>
 cases hb:Pd (u8 o) (u8 f) (u8 t) (u8 m) (u8 i) (u64 a1) (u64 a0) (u64 b1) (u64 b0) (u64 c1) (u64 c0) with
 | false =>
  have hrun:=ard _ _ _ _ _ _ _ _ _ _ _ hb
  exact avJ o f t m i a1 a0 b1 b0 c1 c0 ahw (by simpa only[wS,zV] using hrun)
 | true =>
  have hrun:=aqP _ _ _ _ _ _ _ _ _ _ _ hb
  unfold Pd at hb
  simp only[wS,zV,vM,vH] at hb hrun
  have hf:fN f<4:=by
   have:decide (u8 f<4)=true:=by unfold vV at hb;exact(Bool.and_eq_true_iff.1 hb).1
   exact(yh f).1 (of_decide_eq_true this)
  have ho:u8 o=1∨u8 o=2∨u8 o=3∨u8 o=4∨u8 o=5∨u8 o=6∨u8 o=7∨u8 o=8∨u8 o=9∨u8 o=10∨u8 o=11∨u8 o=12∨u8 o=13∨u8 o=14:=by
   apply Classical.byContradiction
   intro hn
   simp only[not_or] at hn
   obtain⟨q1,q2,q3,q4,q5,q6,q7,q8,q9,q10,q11,q12,q13,q14⟩:=hn
   revert hb;simp[vV,q1,q2,q3,q4,q5,q6,q7,q8,q9,q10,q11,q12,q13,q14]
  have hq4:u8 o=10→fN t<4:=fun h=>by
   rw[h] at hb
   simp[vV] at hb
   exact(yh t).1 hb.2.2.2.1
  generalize hR:yc (u8 o) (fN t) (fN f) (u8 m).toNat (u8 i==1) (nB a1 a0) (nB b1 b0) (nB c1 c0) (u64 a0).toNat=R at hrun
  have hT:u8 o=10→yS (fN t) (FN (fN f) (nB a1 a0) (nB b1 b0) (nB c1 c0)) (ES (fN f) (nB a1 a0) (nB b1 b0) (nB c1 c0)) R:=fun h=>by
   have ht:=hq4 h
   rw[h] at hb hR
   simp[vV] at hb
   simp[yc] at hR
   obtain⟨e1,e2⟩:=UW hf hb.2.2.2.2.2.1 hb.2.2.2.2.2.2
   rw[← hR];exact(age hf ht).to e1 e2
  have hF:¬ u8 o≥11→¬ u8 o=10→yS (fN f) (FN (fN f) (nB a1 a0) (nB b1 b0) (nB c1 c0)) (ES (fN f) (nB a1 a0) (nB b1 b0) (nB c1 c0)) R:=fun h11 h10=>by
   rcases ho with h|h|h|h|h|h|h|h|h|h|h|h|h|h
   all_goals first|(exfalso;omega)|skip
   all_goals rw[h] at hb hR
   all_goals simp[vV] at hb
   all_goals simp[yc] at hR
   all_goals rw[← hR]
   ·obtain⟨e1,e2⟩:=Ry (f:=fN f) (a:=nB a1 a0) (b:=nB b1 b0) hf hb.2.2.2.2.2.2
    exact(LF hf).to e1 e2
   ·obtain⟨e1,e2⟩:=Ry (f:=fN f) (a:=nB a1 a0) (b:=nB b1 b0) hf hb.2.2.2.2.2.2
    exact(arp hf).to e1 e2
   ·obtain⟨e1,e2⟩:=Ry (f:=fN f) (a:=nB a1 a0) (b:=nB b1 b0) hf hb.2.2.2.2.2.2
    exact(af9 hf).to e1 e2
   ·obtain⟨e1,e2⟩:=Ry (f:=fN f) (a:=nB a1 a0) (b:=nB b1 b0) hf hb.2.2.2.2.2.2
    exact(aga hf).to e1 e2
   ·obtain⟨e1,e2⟩:=UW hf hb.2.2.2.2.2.1 hb.2.2.2.2.2.2
    exact(agc hf).to e1 e2
   ·exact agd hf
   ·obtain⟨e1,e2⟩:=Ry (f:=fN f) (a:=nB a1 a0) (b:=nB b1 b0) hf hb.2.2.2.2.2.2
    exact(agb hf).to e1 e2
   ·obtain⟨e1,e2⟩:=UW hf hb.2.2.2.2.2.1 hb.2.2.2.2.2.2
    exact(agh hf).to e1 e2
   ·obtain⟨e1,e2⟩:=UW hf hb.2.2.2.2.2.1 hb.2.2.2.2.2.2
    exact(agh hf).to e1 e2
  have hq12:u8 o=12→yS (fN f) False False R:=fun h=>by
   rw[h] at hR
   simp[yc] at hR
   rw[← hR];exact arq hf
  have key:GV R.2∧R.1<vF:=by
   by_cases h10:u8 o=10
   ·have:=hT h10;exact⟨this.fl,aaw (hq4 h10) this.lt⟩
   by_cases h11:u8 o≥11
   ·by_cases h12:u8 o=12
    ·have:=hq12 h12;exact⟨this.fl,aaw hf this.lt⟩
    ·have h3:u8 o=11∨u8 o=13∨u8 o=14:=by omega
     rcases h3 with h|h|h
     ·rw[h] at hR
      simp[yc] at hR
      rw[← hR]
      refine⟨?_,Nat.lt_trans UK (by decide)⟩
      unfold Ej GV
      split
      ·simp
      split
      ·simp
      ·simp only;split<;>omega
     ·rw[h] at hR
      simp[yc] at hR
      rw[← hR]
      refine⟨?_,Nat.lt_of_le_of_lt J7 (by decide)⟩
      unfold Al GV
      split
      ·simp only;split<;>omega
      ·simp
     ·rw[h] at hR
      simp[yc] at hR
      rw[← hR]
      refine⟨?_,Nat.lt_of_le_of_lt J7 (by decide)⟩
      unfold Al GV
      split
      ·simp only;split<;>omega
      ·simp
   ·have:=hF h11 h10;exact⟨this.fl,aaw hf this.lt⟩
  have ho2:1≤u8 o∧u8 o≤14:=by omega
  clear hb hR ho
  obtain⟨r,g⟩:=R
  obtain⟨k1,k2⟩:=key
  refine avI o f t m i a1 a0 b1 b0 c1 c0 r g k2 k1 ahw hrun ho2 ?_ ?_
  ·split
   ·rename_i h;exact hq4 h
   ·exact hf
  ·intro hoo
   split
   ·rename_i h10
    exact(hT h10).to ⟨fun h=>⟨by omega,h⟩,fun h=>h.2⟩ (fun h=>h.2)
   ·rename_i h10
    rcases hoo with h|h
    ·exact(hF (by omega) h10).to ⟨fun h=>⟨by omega,h⟩,fun h=>h.2⟩ (fun h=>h.2)
    ·exact(hq12 h).to ⟨fun h=>h.elim,fun h2=>h2.1 h⟩ (fun h2=>h2.1 h)
end Go.Proofs.YtemomocmfggiaaaGreatDoor
