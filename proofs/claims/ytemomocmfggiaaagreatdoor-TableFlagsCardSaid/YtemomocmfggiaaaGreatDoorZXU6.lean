import Derived.Test.YtemomocmfggiaaaGreatDoorZQU6
import Derived.Test.YtemomocmfggiaaaGreatDoorP21U6
import Derived.Test.YtemomocmfggiaaaGreatDoorP28U6
set_option linter.unusedSimpArgs false
set_option linter.unusedVariables false
set_option maxRecDepth 100000
namespace Go.Proofs.YtemomocmfggiaaaGreatDoor.FP
def whN (f m:Nat) (neg:Bool) (c:Nat):Nat:=rdiv m neg (val f c) (2^fU f)
def whO (f c:Nat):Bool := !Nat.beq (val f c%2^fU f) 0
theorem whO_iff {f c:Nat} : whO f c=true↔val f c%2^fU f≠0:=by
 unfold whO
 cases h:Nat.beq (val f c%2^fU f) 0 with
 | true=>simp[Nat.eq_of_beq_eq_true h]
 | false=>have:=Nat.ne_of_beq_eq_false h;simp[this]
theorem af6 {f c:Nat} (hf:f<4) (h0:0<c) (h1:c<inf f) {j:Nat} (hj:(j:Int)=255-unExp f c):unSig f c*2^128*2^fU f=val f c*2^j:=by
 have ha:=at_num hf h0 h1
 have hr:=un_exp hf h1
 obtain⟨n1,n2,n3,n4,n5,n6,n7,n8,n9⟩:=fmtN hf
 have hU:fU f≤16500:=by unfold fU;omega
 apply Nat.eq_of_mul_eq_mul_right (two_pow_pos (unExp f c+40000).toNat)
 rw[Nat.mul_right_comm,ha,Nat.mul_assoc,Nat.mul_assoc,← Nat.pow_add,← Nat.pow_add]
 congr 2
 omega
theorem af7 {N1 D1 N2 D2:Nat} (h1:0<D1) (h2:0<D2) (h:N1*D2=N2*D1):N1%D1=0↔N2%D2=0:=by
 have key:∀ {N1 D1 N2 D2:Nat},0<D1→0<D2→N1*D2=N2*D1→N1%D1=0→N2%D2=0:=by
  intro N1 D1 N2 D2 h1 h2 h hm
  obtain⟨k,rfl⟩:=Nat.dvd_of_mod_eq_zero hm
  have:N2=D2*k:=by
   apply Nat.eq_of_mul_eq_mul_right h1
   rw[← h,Nat.mul_assoc,Nat.mul_comm D1,Nat.mul_comm k]
  rw[this,Nat.mul_mod_right]
 exact⟨key h1 h2 h,key h2 h1 h.symm⟩
theorem whole_hi {f c m:Nat} {neg:Bool} (hf:f<4) (h0:0<c) (h1:c<inf f) {k:Nat} (hk:(k:Int)=unExp f c+1) (hk2:k≤127) :
  rdiv m neg (unSig f c*2^128) (2^(256-k))=whN f m neg c∧((unSig f c*2^128)%2^(256-k)=0↔val f c%2^fU f=0):=by
 have ha:=af6 hf h0 h1 (j:=256-k) (by omega)
 exact⟨Lh (two_pow_pos _) (two_pow_pos _) ha,af7 (two_pow_pos _) (two_pow_pos _) ha⟩
theorem whole_lo {f c m:Nat} {neg:Bool} (hf:f<4) (h0:0<c) (h1:c<inf f) {j:Nat} (hj:(j:Int) = -unExp f c-1) :
  rdiv m neg (jam (unSig f c*2^128) j) (2^(256-0))=whN f m neg c∧((jam (unSig f c*2^128) j)%2^(256-0)=0↔val f c%2^fU f=0):=by
 obtain⟨g1,g2⟩:=jam_rdiv (p:=0) (j:=j) (by decide) (unSig f c*2^128) m neg
 have ha:=af6 hf h0 h1 (j:=256-0+j) (by omega)
 rw[g1,g2]
 exact⟨Lh (two_pow_pos _) (two_pow_pos _) ha,af7 (two_pow_pos _) (two_pow_pos _) ha⟩
theorem af8 {f m c:Nat} {neg:Bool} (h:val f c%2^fU f=0):whN f m neg c=val f c/2^fU f:=by
 unfold whN
 obtain⟨k,hk⟩:=Nat.dvd_of_mod_eq_zero h
 rw[hk,Nat.mul_comm,rdiv_exact _ _ (two_pow_pos _),Nat.mul_div_cancel _ (two_pow_pos _)]
theorem val_zero (f:Nat):val f 0=0:=by unfold val yB cq yg;simp
theorem whN_zero (f m:Nat) (neg:Bool):whN f m neg 0=0:=by
 rw[af8 (by rw[val_zero,Nat.zero_mod]),val_zero,Nat.zero_div]
theorem round_int {f m:Nat} {after neg:Bool} (hf:f<4) (n:Nat):roundE (fP f) (fE f) m after neg 255 n=roundC (fP f) (fE f) m after neg (n*2^fU f) 1:=by
 obtain⟨n1,n2,n3,n4,n5,n6,n7,n8,n9⟩:=fmtN hf
 refine QZ n1 (by decide) ?_
 rw[show(255+2-255-(fE f:Int)-(fP f:Int)).toNat=0 by omega,Nat.pow_zero,Nat.mul_one,Nat.mul_one]
 congr 2
 unfold fU;omega
theorem arf {f:Nat} (hf:f<4):val f (inf f)=2^(fP f-1)*2^(2*fE f):=by
 obtain⟨n1,n2,n3,n4,n5,n6,n7,n8,n9⟩:=fmtN hf
 have:=QX (p:=fP f) (s:=2*fE f) (q:=2^(fP f-1)) n1 (Nat.pow_le_pow_right (by decide) (by omega)) (fun _=>Nat.le_refl _)
 unfold inf infC
 rw[Nat.add_mul,Nat.one_mul]
 exact this
theorem arh {f:Nat} (hf:f<4):fU f<2*fE f:=by
 rcases f4 hf with rfl|rfl|rfl|rfl<;>decide
theorem far_whole {f c:Nat} (hf:f<4) (h0:0<c) (h1:c<inf f) (he:(fP f:Int)-1≤unExp f c):val f c%2^fU f=0:=by
 have h:=aqo hf h0 h1
 obtain⟨n1,n2,n3,n4,n5,n6,n7,n8,n9⟩:=fmtN hf
 have h2:fU f≤yg (fP f) c:=by omega
 obtain⟨k,hk⟩:∃ k,yg (fP f) c=fU f+k:=⟨yg (fP f) c-fU f,by omega⟩
 unfold val yB
 rw[hk,Nat.pow_add,← Nat.mul_assoc,Nat.mul_right_comm]
 exact Nat.mul_mod_left _ _
theorem near_lt {f c:Nat} (hf:f<4) (h0:0<c) (h1:c<inf f) {k:Nat} (he:unExp f c+1≤k):val f c<2^k*2^fU f:=by
 obtain⟨s1,s2⟩:=un_sig hf h0 h1
 have hr:=un_exp hf h1
 have ha:=at_num hf h0 h1
 obtain⟨n1,n2,n3,n4,n5,n6,n7,n8,n9⟩:=fmtN hf
 have hU:fU f≤16500:=by unfold fU;omega
 apply Nat.lt_of_mul_lt_mul_right (a:=2^(255-fU f+40000:Int).toNat)
 rw[← ha]
 refine Nat.lt_of_lt_of_le (Nat.mul_lt_mul_of_pos_right (Nat.mul_lt_mul_of_pos_right s2 (two_pow_pos _)) (two_pow_pos _)) ?_
 rw[← Nat.pow_add,← Nat.pow_add,← Nat.pow_add,← Nat.pow_add]
 exact Nat.pow_le_pow_right (by decide) (by omega)
theorem far_ge {f c:Nat} (hf:f<4) (h0:0<c) (h1:c<inf f) {k:Nat} (he:(k:Int)≤unExp f c):2^k*2^fU f≤val f c:=by
 obtain⟨s1,s2⟩:=un_sig hf h0 h1
 have hr:=un_exp hf h1
 have ha:=at_num hf h0 h1
 obtain⟨n1,n2,n3,n4,n5,n6,n7,n8,n9⟩:=fmtN hf
 have hU:fU f≤16500:=by unfold fU;omega
 apply Nat.le_of_mul_le_mul_right (c:=2^(255-fU f+40000:Int).toNat) _ (two_pow_pos _)
 rw[← ha]
 refine Nat.le_trans ?_ (Nat.mul_le_mul_right _ (Nat.mul_le_mul_right _ s1))
 rw[← Nat.pow_add,← Nat.pow_add,← Nat.pow_add,← Nat.pow_add]
 exact Nat.pow_le_pow_right (by decide) (by omega)
theorem whN_le {f c m k:Nat} {neg:Bool} (h:val f c≤k*2^fU f):whN f m neg c≤k:=by
 unfold whN
 have:=Lg (m:=m) (neg:=neg) (N1:=val f c) (D1:=2^fU f) (N2:=k*2^fU f) (D2:=2^fU f) (two_pow_pos _) (two_pow_pos _) (Nat.mul_le_mul_right _ h)
 rwa [rdiv_exact _ _ (two_pow_pos _)] at this
theorem whN_ge {f c m k:Nat} {neg:Bool} (h:k*2^fU f≤val f c):k≤whN f m neg c:=by
 unfold whN
 have:=Lg (m:=m) (neg:=neg) (N2:=val f c) (D2:=2^fU f) (N1:=k*2^fU f) (D1:=2^fU f) (two_pow_pos _) (two_pow_pos _) (Nat.mul_le_mul_right _ h)
 rwa [rdiv_exact _ _ (two_pow_pos _)] at this
theorem ari {f n:Nat} (hf:f<4) (h:n≤2^(fP f-1)):∃ d,d<inf f∧n*2^fU f=val f d:=by
 obtain⟨n1,n2,n3,n4,n5,n6,n7,n8,n9⟩:=fmtN hf
 have hlt:n<2^fP f:=Nat.lt_of_le_of_lt h (Nat.pow_lt_pow_right (by decide) (by omega))
 have he:=ad8 (p:=fP f) (q:=n) (k:=fU f) (D:=1) n1 (by decide) hlt
 have hv:=(QY (p:=fP f) n1 (by decide)).1 he
 rw[Nat.mul_one,Nat.mul_one] at hv
 refine⟨_,?_,hv⟩
 apply Nat.lt_of_not_le
 intro hle
 have h2:=(cval_le n1).2 hle
 rw[← hv] at h2
 have h3:val f (inf f)≤2^(fP f-1)*2^fU f:=Nat.le_trans h2 (Nat.mul_le_mul_right _ h)
 rw[arf hf] at h3
 have h4:=Nat.le_of_mul_le_mul_left h3 (two_pow_pos _)
 have h5:(2:Nat)^fU f<2^(2*fE f):=Nat.pow_lt_pow_right (by decide) (arh hf)
 omega
theorem aau {f c m:Nat} {neg:Bool} (hf:f<4) (h1:c<inf f):∃ d,d<inf f∧whN f m neg c*2^fU f=val f d∧(val f c%2^fU f=0→d=c):=by
 obtain⟨n1,n2,n3,n4,n5,n6,n7,n8,n9⟩:=fmtN hf
 by_cases hz:val f c%2^fU f=0
 ·refine⟨c,h1,?_,fun _=>rfl⟩
  rw[af8 hz];exact Nat.div_mul_cancel (Nat.dvd_of_mod_eq_zero hz)
 ·have h0:0<c:=Nat.pos_of_ne_zero fun e=>hz (by rw[e,val_zero,Nat.zero_mod])
  have he:¬ (fP f:Int)-1≤unExp f c:=fun e=>hz (far_whole hf h0 h1 e)
  have hl:=near_lt hf h0 h1 (k:=fP f-1) (by omega)
  obtain⟨d,hd,hv⟩:=ari hf (whN_le (m:=m) (neg:=neg) (Nat.le_of_lt hl))
  exact⟨d,hd,hv,fun e=>absurd e hz⟩
def rintC (f m:Nat) (neg:Bool) (c:Nat):Nat:=(roundC (fP f) (fE f) 4 false neg (whN f m neg c*2^fU f) 1).1
theorem rint_round {f c m:Nat} {neg:Bool} (hf:f<4) (h1:c<inf f) (m':Nat) (a' n':Bool):roundC (fP f) (fE f) m' a' n' (whN f m neg c*2^fU f) 1=(rintC f m neg c,0):=by
 obtain⟨d,hd,hv,-⟩:=aau (m:=m) (neg:=neg) hf h1
 have key:∀ m' a' n',roundC (fP f) (fE f) m' a' n' (whN f m neg c*2^fU f) 1=(d,0):=fun m' a' n'=>roundC_exact (fmtN hf).1 (by decide) hd (by rw[hv,Nat.mul_one])
 unfold rintC
 rw[key,key]
theorem rintC_lt {f c m:Nat} {neg:Bool} (hf:f<4) (h1:c<inf f):rintC f m neg c<inf f:=by
 obtain⟨d,hd,hv,-⟩:=aau (m:=m) (neg:=neg) hf h1
 unfold rintC
 rw[roundC_exact (c:=d) (fmtN hf).1 (by decide) hd (by rw[hv,Nat.mul_one])];exact hd
theorem rintC_same {f c m:Nat} {neg:Bool} (hf:f<4) (h1:c<inf f) (hz:val f c%2^fU f=0):rintC f m neg c=c:=by
 obtain⟨d,hd,hv,h⟩:=aau (m:=m) (neg:=neg) hf h1
 unfold rintC
 rw[roundC_exact (c:=d) (fmtN hf).1 (by decide) hd (by rw[hv,Nat.mul_one])];exact h hz
end Go.Proofs.YtemomocmfggiaaaGreatDoor.FP
namespace Go.Proofs.YtemomocmfggiaaaGreatDoor
open Go.RowKit
def GV (g:Nat):Prop:=g=0∨g=1∨g=2∨g=16∨g=20∨g=24
structure yS (f:Nat) (nan sig:Prop) (R:Nat×Nat):Prop where
 fl:GV R.2
 lt:R.1<2^FP.fW f
 sg:uZ f R.1≠5
 si:sig→R.2=1
 na:4≤uZ f R.1↔(nan∨R.2=1)
theorem yS.nan {f n g:Nat} {nan sig:Prop} (hlt:n<2^FP.fW f) (h4:4≤uZ f n) (h5:uZ f n≠5) (hg:g=0∨g=1) (hn:nan∨g=1) (hs:sig→g=1):yS f nan sig (n,g) :=
 ⟨by unfold GV;rcases hg with h|h<;>simp[h],hlt,h5,hs,⟨fun _=>hn,fun _=>h4⟩⟩
theorem yS.num {f c g:Nat} {nan sig:Prop} (hf:f<4) (s:Bool) (hc:c≤FP.inf f) (hg:g=0∨g=2∨g=16∨g=20∨g=24) (hn:¬ nan) (hs:¬ sig):yS f nan sig (FP.mk f s c,g):=by
 have hl:=Nat.lt_of_le_of_lt hc (apm hf)
 have hk:uZ f (FP.mk f s c)≤3:=by
  rw[Ru hf s hl]
  apply Nat.le_of_not_lt;intro h
  have:=FP.clsC_nan.1 h;omega
 refine⟨?_,FP.mk_lt hf s hl,fun h=>by simp only at h;omega,fun h=>absurd h hs,⟨fun h=>by simp only at h;omega,fun h=>?_⟩⟩
 ·unfold GV;simp only;omega
 ·rcases h with h|h
  ·exact absurd h hn
  ·exfalso;simp only at h;omega
theorem arj {f b:Nat} (hf:f<4) (h:4≤uZ f b):xz f b<2^FP.fW f:=by
 have hcl:=FP.cod_lt f b
 obtain⟨i1,i2,i3,i4⟩:=EN hf
 obtain⟨q4,q5⟩:=Ls (c:=FP.cod f b) hf
 refine FP.mk_lt hf _ ?_
 unfold EO
 split
 ·rename_i h5
  have:=q5.1 h5
  have htop:=FP.inf_top hf
  omega
 ·exact hcl
theorem yS.qu {f b g:Nat} {nan sig:Prop} (hf:f<4) (h:4≤uZ f b) (hn:nan) (hg:g=0∨g=1) (hs:sig→g=1):yS f nan sig (xz f b,g):=by
 obtain⟨q1,q2,q3⟩:=aqt hf h
 exact yS.nan (arj hf h) q2 q3 hg (.inl hn) hs
theorem ark {f:Nat} (hf:f<4):dfl f<2^FP.fW f∧uZ f (dfl f)=4:=by
 obtain⟨i1,i2,i3,i4⟩:=EN hf
 have hl:FP.inf f+2^(FP.fP f-2)<2^(FP.fW f-1):=i2
 refine⟨FP.mk_lt hf _ hl,?_⟩
 unfold dfl
 rw[Ru hf _ hl]
 exact(Ls hf).1.2 (Nat.le_refl _)
theorem yS.dfl {f:Nat} {nan sig:Prop} (hf:f<4):yS f nan sig (Go.Proofs.YtemomocmfggiaaaGreatDoor.dfl f,1):=by
 obtain⟨h1,h2⟩:=ark hf
 exact yS.nan h1 (by omega) (by omega) (.inr rfl) (.inr rfl) (fun _=>rfl)
theorem arl {p e m:Nat} {a n:Bool} {N D:Nat} : (FP.roundC p e m a n N D).2=0∨(FP.roundC p e m a n N D).2=2∨(FP.roundC p e m a n N D).2=16∨(FP.roundC p e m a n N D).2=20∨(FP.roundC p e m a n N D).2=24:=by
 have:=FP.roundC_flag_set p e m a n N D;omega
theorem yS.round {f m N D:Nat} {a n:Bool} {nan sig:Prop} (hf:f<4) (s:Bool) (hn:¬ nan) (hs:¬ sig):yS f nan sig (FP.mk f s (FP.roundC (FP.fP f) (FP.fE f) m a n N D).1,(FP.roundC (FP.fP f) (FP.fE f) m a n N D).2) :=
 yS.num hf s (FP.roundC_le _ _ _ _ _ _ _) arl hn hs
theorem J9 (f a b:Nat):Bv f a b=0∨Bv f a b=1:=by have:=aqu f a b;omega
theorem Ka {f a b:Nat} (h:uZ f a=5∨uZ f b=5):Bv f a b=1:=by unfold Bv;rw[if_pos h]
abbrev IL (f a b:Nat):Prop:=4≤uZ f a∨4≤uZ f b
abbrev IM (f a b:Nat):Prop:=uZ f a=5∨uZ f b=5
theorem UV {f a b:Nat} (h1:¬ 4≤uZ f a) (h2:¬ 4≤uZ f b):¬ IL f a b∧¬ IM f a b:=⟨fun h=>h.elim h1 h2,fun h=>by omega⟩
theorem af9 {f m a b:Nat} {t:Bool} (hf:f<4):yS f (IL f a b) (IM f a b) (IC f m t a b):=by
 unfold IC
 split
 ·rename_i h;exact .qu hf h (.inl h) (J9 _ _ _) Ka
 split
 ·rename_i h;exact .qu hf h (.inr h) (J9 _ _ _) Ka
 rename_i h1 h2
 obtain⟨n1,n2⟩:=UV h1 h2
 split
 ·exact .dfl hf
 split
 ·exact .num hf _ (Nat.le_refl _) (.inl rfl) n1 n2
 ·exact .round hf _ n1 n2
theorem aga {f m a b:Nat} {t:Bool} (hf:f<4):yS f (IL f a b) (IM f a b) (FI f m t a b):=by
 unfold FI
 split
 ·rename_i h;exact .qu hf h (.inl h) (J9 _ _ _) Ka
 split
 ·rename_i h;exact .qu hf h (.inr h) (J9 _ _ _) Ka
 rename_i h1 h2
 obtain⟨n1,n2⟩:=UV h1 h2
 split
 ·exact .dfl hf
 unfold IJ
 split
 ·exact .num hf _ (Nat.le_refl _) (.inl rfl) n1 n2
 split
 ·exact .num hf _ (Nat.zero_le _) (.inl rfl) n1 n2
 split
 ·exact .num hf _ (Nat.le_refl _) (.inr (.inl rfl)) n1 n2
 ·exact .round hf _ n1 n2
theorem LF {f m a b:Nat} {t:Bool} (hf:f<4):yS f (IL f a b) (IM f a b) (Cn f m t a b):=by
 unfold Cn
 split
 ·rename_i h;exact .qu hf h (.inl h) (J9 _ _ _) Ka
 split
 ·rename_i h;exact .qu hf h (.inr h) (J9 _ _ _) Ka
 rename_i h1 h2
 obtain⟨n1,n2⟩:=UV h1 h2
 split
 ·exact .dfl hf
 split
 ·exact .num hf _ (Nat.le_refl _) (.inl rfl) n1 n2
 split
 ·exact .num hf _ (Nat.le_refl _) (.inl rfl) n1 n2
 ·exact .round hf _ n1 n2
theorem agb {f a b:Nat} (hf:f<4):yS f (IL f a b) (IM f a b) (Df f a b):=by
 unfold Df
 split
 ·rename_i h;exact .qu hf h (.inl h) (J9 _ _ _) Ka
 split
 ·rename_i h;exact .qu hf h (.inr h) (J9 _ _ _) Ka
 rename_i h1 h2
 obtain⟨n1,n2⟩:=UV h1 h2
 split
 ·exact .dfl hf
 split
 ·refine .num hf _ ?_ (.inl rfl) n1 n2
  rw[UC hf] at h1
  apply Nat.le_of_not_lt;intro h
  exact h1 (FP.clsC_nan.2 h)
 ·exact .num hf _ (FP.roundC_le _ _ _ _ _ _ _) (.inl rfl) n1 n2
theorem agc {f m a:Nat} {t:Bool} (hf:f<4):yS f (4≤uZ f a) (uZ f a=5) (G9 f m t a):=by
 unfold G9
 split
 ·rename_i h;exact .qu hf h h (by split<;>simp) (fun h5=>by rw[if_pos h5])
 rename_i h1
 have n2:¬ uZ f a=5:=by omega
 split
 ·exact .dfl hf
 split
 ·exact .num hf _ (Nat.zero_le _) (.inl rfl) h1 n2
 split
 ·exact .num hf _ (Nat.le_refl _) (.inl rfl) h1 n2
 ·exact .round hf _ h1 n2
abbrev FN (f a b c:Nat):Prop:=4≤uZ f a∨4≤uZ f b∨4≤uZ f c
abbrev ES (f a b c:Nat):Prop:=uZ f a=5∨uZ f b=5∨uZ f c=5
theorem aav {f a b c:Nat} (h:ES f a b c):GL f a b c=1:=by unfold GL;rw[if_pos (.inr h)]
theorem agd {f m a b c:Nat} {t:Bool} (hf:f<4):yS f (FN f a b c) (ES f a b c) (C9 f m t a b c):=by
 have h01:GL f a b c=0∨GL f a b c=1:=by have:=aqs f a b c;omega
 unfold C9
 split
 ·rename_i h;exact .qu hf h (.inl h) h01 aav
 split
 ·rename_i h;exact .qu hf h (.inr (.inl h)) h01 aav
 split
 ·rename_i h;exact .qu hf h (.inr (.inr h)) h01 aav
 rename_i h1 h2 h3
 have n1:¬ FN f a b c:=by omega
 have n2:¬ ES f a b c:=by omega
 split
 ·exact .dfl hf
 unfold GM
 split
 ·exact .num hf _ (Nat.le_refl _) (.inl rfl) n1 n2
 split
 ·exact .num hf _ (Nat.le_refl _) (.inl rfl) n1 n2
 ·exact .round hf _ n1 n2
theorem arn {f t c:Nat} (hf:f<4) (ht:t<4):JR f t c<2^(FP.fW t-1)∧FP.inf t+2^(FP.fP t-2)≤JR f t c:=by
 obtain⟨i1,i2,i3,i4⟩:=EN ht
 have htop:=FP.inf_top ht
 have h1:=UB (i:=FP.fP t-2) (aeW (c:=c) hf ht) (by have:=FP.fP_ge ht;omega)
 have h2:2^(FP.fP t-2)≤(OT f t c|||2^(FP.fP t-2)):=Nat.right_le_or
 unfold JR
 omega
theorem age {f t m a:Nat} {u:Bool} (hf:f<4) (ht:t<4):yS t (4≤uZ f a) (uZ f a=5) (IE f t m u a):=by
 unfold IE
 split
 ·rename_i h
  obtain⟨m1,m2⟩:=arn (c:=FP.cod f a) hf ht
  have hk:uZ t (FP.mk t (FP.sgn f a) (JR f t (FP.cod f a)))=4:=by
   rw[Ru ht _ m1];exact(Ls ht).1.2 m2
  exact .nan (FP.mk_lt ht _ m1) (by omega) (by omega) (by split<;>simp) (.inl h) (fun h5=>by rw[if_pos h5])
 rename_i h1
 have n2:¬ uZ f a=5:=by omega
 split
 ·exact .num ht _ (Nat.le_refl _) (.inl rfl) h1 n2
 ·exact .round ht _ h1 n2
def BS (f m:Nat) (exactly:Bool) (a:Nat):Nat×Nat :=
 if 4≤uZ f a then(xz f a,if uZ f a=5 then 1 else 0)
 else if uZ f a=3 then(FP.mk f (FP.sgn f a) (FP.inf f),0)
 else(FP.mk f (FP.sgn f a) (FP.rintC f m (FP.sgn f a) (FP.cod f a)),if exactly&&FP.whO f (FP.cod f a) then 16 else 0)
end Go.Proofs.YtemomocmfggiaaaGreatDoor
