import Derived.Test.YtippohicjhilnaaGreatDoorWETn
import Derived.Test.YtippohicjhilnaaGreatDoorZ1Tn
import Derived.Test.YtippohicjhilnaaGreatDoorZETn
import Derived.Test.YtippohicjhilnaaGreatDoorZMTn
set_option linter.unusedSimpArgs false
set_option linter.unusedVariables false
set_option maxRecDepth 100000
set_option maxHeartbeats 4000000
open Go.Proofs.Tryz
namespace Go.Proofs.YtippohicjhilnaaGreatDoor
def YA:List wY:=⟨146,JZ,Yc⟩::EF
theorem aAB:∀ e∈YA,wK prog gG e:=List.forall_mem_cons.2 ⟨axE,UQ⟩
open Go.RowKit
theorem aAC:Br (wR YA M0 S1) eE:=GZ aAB JG IU (by kernel_rfl)
def SB:Ct:=⟨[.sc kB,.agg [kB,.bool],.agg [kU,kU],.agg [kU,kU]],[.agg [kU,kU,kB]]⟩
def amh:vU SV :=
 (.ite dH jw (.ite jA jw (.call 76 jC 7 5 (.call 76 kC 12 5 (.ite (.bin .eql .u8 kF jd) (.ite kQ (.call 2000077 [dF,ai,ay,aC,dZ,aA] 17 4 (.ite jI mK (.ite kR pu pu))) (.call 2000077 [dF,pz,ay,aC,dZ,aA] 17 4 (.ite jI mK (.ite kR pE pK)))) (.call 2000077 mO 17 4 (.ite jI mK (.ite kR (.ite kQ pu pE) (.ite kQ pu pK)))))))))
theorem aAD:xe (wR YA M0 S1) 3000 94 (wN SB.a (wM 0 (vV SB.a))) (vV SB.a).length=amh:=by kernel_rfl
def ami:List Int->List Int:=wE (wH YA M0 S1) SB amh
theorem amj:wK prog gG ⟨94,SB,ami⟩:=Ip aAC 3000 aAD (by kernel_rfl)
open Go.RowKit Go.Shelf
attribute [local go_sem] Oper.semAt_some
theorem aAE (n:Nat) (hn:1<=n) {m b3 b5 b9:Nat} (r d:Nat) (o:Bool) (w:World) (hG:Gl gG w) (hr:r<d) (hd:d<wy) (hms:m<=w.heap.size) (hm3:m<=b3) (hm9:m<=b9) (n35:b3≠b5) (n39:b3≠b9) (n59:b5≠b9)
  (h3:w.heap[b3]? = some (.cells #[.int .u64 (wd r 1),.int .u64 (wd r 0)] 25 (0,0))) (h5:w.heap[b5]? = some (.cells #[.int .u64 (wd d 1),.int .u64 (wd d 0)] 25 (0,0))) (h9:w.heap[b9]? = some (.cells #[.bool o] 4 (0,0))) :
  CallsIn Fence.wide n prog 274 #[.pointer (some ⟨b3,0,none⟩),.pointer (some ⟨b5,0,none⟩),.pointer (some ⟨b9,0,none⟩)] w λe w'=>(∃ v,e = .returned v)/\Below m w w' /\
   w'.heap[b3]? = some (.cells #[.int .u64 (wd (CY r 0 d).1 1),.int .u64 (wd (CY r 0 d).1 0)] 25 (0,0))/\w'.heap[b5]? = some (.cells #[.int .u64 (wd d 1),.int .u64 (wd d 0)] 25 (0,0))/\w'.heap[b9]? = some (.cells #[.bool (CY r 0 d).2] 4 (0,0))/\(∀ B o,B≠b3->B≠b9->w.heap[B]? = some o->w'.heap[B]? = some o):=by
 refine callsIn_of_wp func274 rfl trivial ?_ rfl;simp only[ntmps274,List.size_toArray,List.length_cons,List.length_nil,Nat.reduceAdd,Nat.reduceSub,Array.replicate_succ,Array.replicate_zero,List.push_toArray,List.append_toArray,List.nil_append,List.cons_append];have e30:=wB h3 0 rfl;have e31:=wB h3 1 rfl;have e50:=wB h5 0 rfl;have e51:=wB h5 1 rfl;have hnx:=axq (n-1) r d w hG hr hd;have h76:Fence.wide.fn 220:=trivial
 gi_wp2_with (gi_at_call 220;refine hnx.mono ?_;rintro e w3 ⟨rfl,hw3⟩;have g3:=xK h3 hw3;have g5:=xK h5 hw3;have g9:=xK h9 hw3;have k0:=wB g3 0 rfl;have k1:=wB g3 1 rfl;have k2:=xn g3 0;have k3:=xn g3 1;have k4:=wB g9 0 rfl;have k5:=xn g9 0)
 go_end0
 have hb3:m<=b3:=hm3;refine⟨⟨_,rfl⟩,Below.setCell (Below.setCell (Below.setCell (Below.mono hw3 hms) hm3 _) hm3 _) hm9 _,?_,?_,?_,λB o x3 x9 h=>wL (wL (wL (xK h hw3) _ _ x3) _ _ x3) _ _ x9⟩
 ·exact wL (heap_set (heap_set g3 _) _) _ _ n39
 ·exact wL (wL (wL g5 _ _ (Ne.symm n35)) _ _ (Ne.symm n35)) _ _ n59
 ·exact heap_set (wL (wL g9 _ _ (Ne.symm n39)) _ _ (Ne.symm n39)) _
def zI (r n d:Nat):Nat×Bool:=(r*2^n%d,decide (r*2^n/d%2=1))
theorem amk {r d:Nat} (h:r<d):zI r 0 d=(r,false):=by unfold zI;rw[Nat.pow_zero,Nat.mul_one,Nat.mod_eq_of_lt h,Nat.div_eq_of_lt h];rfl
theorem aAF {r n d:Nat} (h:0<d):(zI r n d).1<d:=Nat.mod_lt _ h
theorem aAG {r n d:Nat} (h:0<d):CY (zI r n d).1 0 d=zI r (n+1) d:=by
 unfold CY zI;simp only;rw[Nat.pow_succ,<- Nat.mul_assoc];generalize r*2^n=x;have e:=Nat.div_add_mod x d;have hl:=Nat.mod_lt x h;generalize x%d=y at *
 generalize x/d=q at *
 by_cases hc:d<=2*y
 ·rw[if_pos (by omega)];have e2:x*2=(2*y-d)+d*(2*q+1):=by rw[<- e,Nat.mul_add,Nat.mul_comm 2 q,<- Nat.mul_assoc,Nat.mul_one];omega
  rw[e2,Nat.add_mul_mod_self_left,Nat.add_mul_div_left _ _ h,Nat.mod_eq_of_lt (by omega),Nat.div_eq_of_lt (by omega)];simp only[Prod.mk.injEq];exact⟨by omega,by symm;rw[decide_eq_true_iff];omega⟩
 ·rw[if_neg (by omega)];have e2:x*2=(2*y)+d*(2*q):=by rw[<- e,Nat.mul_comm 2 q,<- Nat.mul_assoc];omega
  rw[e2,Nat.add_mul_mod_self_left,Nat.add_mul_div_left _ _ h,Nat.mod_eq_of_lt (by omega),Nat.div_eq_of_lt (by omega)];simp only[Prod.mk.injEq];exact⟨by omega,by symm;rw[decide_eq_false_iff_not];omega⟩
theorem Vk (m r d:Nat) (w:World) (hG:Gl gG w) (hr:r<wy) (hd:d<wy):CallsIn Fence.wide m prog 156 #[vB r,vB d] w λe w'=>e = .returned (.int .i64 (yg r d))/\vY w w':=callsIn_wide.2 (by
 have h:=LZ (ajV [wd r 1,wd r 0,wd d 1,wd d 0] rfl).2 func156 (by kernel_rfl) (by kernel_rfl) w hG;simp only[] at h;rw[acY,yH hr,yH hd] at h
 have hc:IntKind.i64.wrap (yg r d)=yg r d:=by
  unfold yg;by_cases h1:r<d
  ·rw[if_pos h1];decide
  ·rw[if_neg h1];by_cases h2:d<r
   ·rw[if_pos h2];decide
   ·rw[if_neg h2];decide
 simp only[NG,xk,yL,xu,yw,Sh.kinds,List.drop_succ_cons,List.drop_zero,List.length_cons,List.length_nil,zF,Dm,xU,hc] at h
 exact h)
theorem aAH (n:Nat) (hn:3<=n) (r d k:Nat) (hr:r<d) (hd:d<wy) (hk:k<=40000) (w:World) (hG:Gl gG w) :
  CallsIn Fence.wide n prog 230 #[vB r,.int .i64 (k:Int),vB d] w λe w'=>e = .returned (.tuple #[vB (zI r k d).1,.bool (zI r k d).2,.bool true])/\vY w w':=by
 have hn1:1<=n:=by omega
 have h30:Fence.wide.fn 156:=trivial;have h119:Fence.wide.fn 274:=trivial;refine callsIn_of_wp func230 rfl trivial ?_ rfl;simp only[ntmps230,List.size_toArray,List.length_cons,List.length_nil,Nat.reduceAdd,Nat.reduceSub,Array.replicate_succ,Array.replicate_zero,List.push_toArray,List.append_toArray,List.nil_append,List.cons_append];have hcm:yg r d = -1:=by unfold yg;rw[if_pos hr]
 have q1:¬ ((k:Int)<0):=by omega
 have q2:¬ ((k:Int)>40000):=by omega
 have q3:¬ ((40000:Int)<(k:Int)):=by omega
 gi_wp2_with (gi_at_call 156;refine(Vk (n-1) r d _ (hG.bel ((((vY.refl w).alloc _).alloc _).alloc _)) (by omega) hd).mono ?_;rintro e w1 ⟨rfl,hw1⟩;rw[hcm])
 rw[decide_eq_false (show ¬ ((k:Int)<0) by omega),decide_eq_false (show ¬ ((40000:Int)<(k:Int)) by omega),Bool.or_false];have s1:w.heap.size+1+1<w1.heap.size:=Kr (xK (EO w _ _ _) hw1);have B0:vY w (w1.alloc (Obj.cells #[Value.bool false] 4)):=((((vY.refl w).alloc _).alloc _).alloc _).trans hw1 |>.alloc _;have g3:(w1.alloc (Obj.cells #[Value.bool false] 4)).heap[w.heap.size]? = some (.cells #[.int .u64 (wd r 1),.int .u64 (wd r 0)] 25 (0,0)):=heap_alloc (xK (heap_alloc (heap_alloc (Jc w _) _) _) hw1) _;have g5:(w1.alloc (Obj.cells #[Value.bool false] 4)).heap[w.heap.size+1]? = some (.cells #[.int .u64 (wd d 1),.int .u64 (wd d 0)] 25 (0,0)):=heap_alloc (xK (heap_alloc (Tc w _ _) _) hw1) _;have g6:(w1.alloc (Obj.cells #[Value.bool false] 4)).heap[w.heap.size+1+1]? = some (.cells #[.int .u64 0,.int .u64 0] 25 (0,0)):=heap_alloc (xK (EO w _ _ _) hw1) _;have g9:(w1.alloc (Obj.cells #[Value.bool false] 4)).heap[w1.heap.size]? = some (.cells #[.bool false] 4 (0,0)):=Jc _ _;generalize w1.heap.size=b9 at *
 generalize w1.alloc (Obj.cells #[Value.bool false] 4)=w2 at *
 gi_loopw [26] (λi wr=>∃ j:Nat,j<=k/\i = .int .i64 (j:Int)/\Below w.heap.size w wr/\wr.heap[w.heap.size]? = some (.cells #[.int .u64 (wd (zI r j d).1 1),.int .u64 (wd (zI r j d).1 0)] 25 (0,0)) /\
   wr.heap[w.heap.size+1]? = some (.cells #[.int .u64 (wd d 1),.int .u64 (wd d 0)] 25 (0,0))/\wr.heap[w.heap.size+1+1]? = some (.cells #[.int .u64 0,.int .u64 0] 25 (0,0))/\wr.heap[b9]? = some (.cells #[.bool (zI r j d).2] 4 (0,0)))
  (λi _=>((k:Int)-intOf i).toNat)
 case atStart=>exact⟨0,Nat.zero_le _,rfl,B0,by rw[amk hr];exact g3,g5,g6,by rw[amk hr];exact g9⟩
 case round =>
  obtain⟨j,hj,rfl,hB,c3,c5,c6,c9⟩:=hrel;by_cases hlt:j<k
  ·have q4:(j:Int)<(k:Int):=by omega
   have hst:=aAE (n-1) (by omega) (m:=w.heap.size) (b3:=w.heap.size) (b5:=w.heap.size+1) (b9:=b9) (zI r j d).1 d (zI r j d).2 wr (hG.bel hB) (aAF (by omega)) hd hB.size (Nat.le_refl _) (by omega) (by omega) (by omega) (by omega) c3 c5 c9;rw[aAG (show 0<d by omega)] at hst
   gi_wp2_with (gi_at_call 274;refine hst.mono ?_;rintro e w4 ⟨⟨v4,rfl⟩,hw4,d3,d5,d9,dk⟩)
   go_roundw
   case rel=>exact⟨j+1,by omega,by congr 1,Below.trans hB hw4,d3,d5,dk _ _ (by omega) (by omega) c6,d9⟩
   case measure=>simp[intOf];omega
  ·obtain rfl:j=k:=by omega
   gi_wp2
   refine Kq (λ(L:Nat->Bool) (A:Act) (W:World)=>∃ u31 u32 u7 u8:Value,A=⟨#[vB r,Value.int IntKind.i64 ↑j,vB d,Value.pointer (some { block:=w.heap.size,off:=0 }),undef,Value.pointer (some { block:=w.heap.size+1,off:=0 }),Value.pointer (some { block:=w.heap.size+1+1,off:=0 }),u7,u8,Value.pointer (some { block:=b9,off:=0 }),Value.func (Fn.func 274) #[] #[Value.pointer (some { block:=w.heap.size,off:=0 }),Value.pointer (some { block:=w.heap.size+1,off:=0 }),Value.pointer (some { block:=b9,off:=0 })],Value.agg #[Value.int IntKind.u64 (wd r 1),Value.int IntKind.u64 (wd r 0)],Value.agg #[Value.int IntKind.u64 (wd d 1),Value.int IntKind.u64 (wd d 0)],Value.int IntKind.i64 (-1),Value.bool false,Value.bool false,Value.int IntKind.i64 ↑j,Value.bool false,Value.bool false,Value.bool false,Value.int IntKind.i64 ↑j,Value.bool false,Value.bool false,undef,Value.func (Fn.func 274) #[] #[Value.pointer (some { block:=w.heap.size,off:=0 }),Value.pointer (some { block:=w.heap.size+1,off:=0 }),Value.pointer (some { block:=b9,off:=0 })],Value.int IntKind.i64 ↑j,Value.int IntKind.i64 ↑j,Value.bool false,u28,u29,u30,u31,u32],[]⟩/\vY w W/\W.heap[w.heap.size]? = some (.cells #[.int .u64 (wd (zI r j d).1 1),.int .u64 (wd (zI r j d).1 0)] 25 (0,0))/\W.heap[w.heap.size+1+1]? = some (.cells (bif L 2 then #[.int .u64 (wd (zI r j d).1 1),.int .u64 (wd (zI r j d).1 0)] else #[.int .u64 0,.int .u64 0]) 25 (0,0))/\W.heap[b9]? = some (.cells #[.bool (zI r j d).2] 4 (0,0))/\(L 0=true->u31 = .agg #[.int .u64 (wd (zI r j d).1 1),.int .u64 (wd (zI r j d).1 0)])/\(L 1=true->u32 = .bool (zI r j d).2)/\(L 3=true->u7 = .bool (zI r j d).2)/\(L 4=true->u8=(Value.bool true))) (by kernel_rfl) (by kernel_rfl) ?h0 ⟨?s0,?s1,?s2,?s3,?s4,trivial⟩ ?hd
   case h0 =>
    exact⟨_,_,_,_,rfl,(vY.drew hB),c3,c6,c9,λh=>absurd h Bool.false_ne_true,λh=>absurd h Bool.false_ne_true,λh=>absurd h Bool.false_ne_true,λh=>absurd h Bool.false_ne_true⟩
   case s0 =>
    rintro L _ W K ⟨u31,u32,u7,u8,rfl,hb,c3,c6,c9,f0,f1,f3,f4⟩ hL hD hN hK;refine xy (xx rfl) ?_;have e0:=wB c3 0 rfl;have e1:=wB c3 1 rfl;have hf:=xn c3 0
    go_simp
    refine hK _ _ ⟨_,_,_,_,rfl,hb,c3,c6,c9,λ_=>rfl,f1,f3,f4⟩
   case s1 =>
    rintro L _ W K ⟨u31,u32,u7,u8,rfl,hb,c3,c6,c9,f0,f1,f3,f4⟩ hL hD hN hK;refine xy (xx rfl) ?_;have e0:=wB c9 0 rfl;have hf:=xn c9 0
    go_simp
    refine hK _ _ ⟨_,_,_,_,rfl,hb,c3,c6,c9,f0,λ_=>rfl,f3,f4⟩
   case s2 =>
    rintro L _ W K ⟨u31,u32,u7,u8,rfl,hb,c3,c6,c9,f0,f1,f3,f4⟩ hL hD hN hK;obtain rfl:=f0 (hD 0 (by kernel_rfl));refine xy (xx rfl) ?_;have hz:L 2=false:=hL;rw[hz] at c6;have e0:=wB c6 0 (rfl);have h0:=xn c6 0;have e1:=wB c6 1 (rfl);have h1:=xn c6 1
    go_simp
    refine hK _ _ ⟨_,_,_,_,rfl,(vY.set (vY.set hb (by omega) _) (by omega) _),(wL (wL c3 _ _ (show w.heap.size≠w.heap.size+1+1 by omega)) _ _ (show w.heap.size≠w.heap.size+1+1 by omega)),(heap_set (heap_set c6 _) _),(wL (wL c9 _ _ (show b9≠w.heap.size+1+1 by omega)) _ _ (show b9≠w.heap.size+1+1 by omega)),f0,f1,f3,f4⟩
   case s3 =>
    rintro L _ W K ⟨u31,u32,u7,u8,rfl,hb,c3,c6,c9,f0,f1,f3,f4⟩ hL hD hN hK;obtain rfl:=f1 (hD 1 (by kernel_rfl));refine xy (xx rfl) ?_
    go_simp
    refine hK _ _ ⟨_,_,_,_,rfl,hb,c3,c6,c9,f0,f1,λ_=>rfl,f4⟩
   case s4 =>
    rintro L _ W K ⟨u31,u32,u7,u8,rfl,hb,c3,c6,c9,f0,f1,f3,f4⟩ hL hD hN hK;refine xy (xx rfl) ?_
    go_simp
    refine hK _ _ ⟨_,_,_,_,rfl,hb,c3,c6,c9,f0,f1,f3,λ_=>rfl⟩
   case hd =>
    rintro L _ W ⟨u31,u32,u7,u8,rfl,hb,c3,c6,c9,f0,f1,f3,f4⟩ hall;rw[hall 2 (by decide)] at c6;obtain rfl:=f0 (hall 0 (by decide));obtain rfl:=f1 (hall 1 (by decide));obtain rfl:=f3 (hall 3 (by decide));obtain rfl:=f4 (hall 4 (by decide));have e0:=wB c6 0 rfl;have e1:=wB c6 1 rfl
    gi_wp2
    refine bodyPost_ret (by simp[results,results230,go_sem,e0,e1];rfl) rfl ?_;exact⟨rfl,hb⟩
theorem aAI (n:Nat) (hn:3<=n) (r d:Nat) (x:Int) (hr:r<wy) (hd:d<wy) (hx:d<=r\/x<0\/40000<x) (w:World) (hG:Gl gG w) :
  CallsIn Fence.wide n prog 230 #[vB r,.int .i64 x,vB d] w λe w'=>e = .returned (.tuple #[vB 0,.bool false,.bool false])/\vY w w':=by
 have hn1:1<=n:=by omega
 have h30:Fence.wide.fn 156:=trivial;refine callsIn_of_wp func230 rfl trivial ?_ rfl;simp only[ntmps230,List.size_toArray,List.length_cons,List.length_nil,Nat.reduceAdd,Nat.reduceSub,Array.replicate_succ,Array.replicate_zero,List.push_toArray,List.append_toArray,List.nil_append,List.cons_append];have zw:∀ j,wd 0 j=0:=λj=>by unfold wd;simp
 have vz:vB 0 = .agg #[.int .u64 0,.int .u64 0]:=by unfold vB;rw[zw,zw]
 by_cases hrd:d<=r
 ·by_cases hlt:d<r
  ·have hcm:yg r d=1:=by unfold yg;rw[if_neg (by omega),if_pos hlt]
   gi_wp2_with (gi_at_call 156;refine(Vk (n-1) r d _ (hG.bel ((((vY.refl w).alloc _).alloc _).alloc _)) (by omega) hd).mono ?_;rintro e w1 ⟨rfl,hw1⟩;rw[hcm];have g6:=xK (EO w _ _ _) hw1;have k0:=wB g6 0 rfl;have k1:=wB g6 1 rfl;have f0:=xn g6 0;have f1:=xn g6 1;have B0:vY w w1:=((((vY.refl w).alloc _).alloc _).alloc _).trans hw1)
   have c6:=heap_set (heap_set g6 (i:=0) (.int .u64 0)) (i:=1) (.int .u64 0);have e0:=wB c6 0 rfl;have e1:=wB c6 1 rfl;refine bodyPost_ret (by simp[results,results230,go_sem,e0,e1];rfl) rfl ?_;exact⟨by rw[vz],vY.set (vY.set B0 (by omega) _) (by omega) _⟩
  ·have hcm:yg r d=0:=by unfold yg;rw[if_neg (by omega),if_neg hlt]
   gi_wp2_with (gi_at_call 156;refine(Vk (n-1) r d _ (hG.bel ((((vY.refl w).alloc _).alloc _).alloc _)) (by omega) hd).mono ?_;rintro e w1 ⟨rfl,hw1⟩;rw[hcm];have g6:=xK (EO w _ _ _) hw1;have k0:=wB g6 0 rfl;have k1:=wB g6 1 rfl;have f0:=xn g6 0;have f1:=xn g6 1;have B0:vY w w1:=((((vY.refl w).alloc _).alloc _).alloc _).trans hw1)
   have c6:=heap_set (heap_set g6 (i:=0) (.int .u64 0)) (i:=1) (.int .u64 0);have e0:=wB c6 0 rfl;have e1:=wB c6 1 rfl;refine bodyPost_ret (by simp[results,results230,go_sem,e0,e1];rfl) rfl ?_;exact⟨by rw[vz],vY.set (vY.set B0 (by omega) _) (by omega) _⟩
 ·have hcm:yg r d = -1:=by unfold yg;rw[if_pos (by omega)]
  by_cases hx0:x<0
  ·gi_wp2_with (gi_at_call 156;refine(Vk (n-1) r d _ (hG.bel ((((vY.refl w).alloc _).alloc _).alloc _)) (by omega) hd).mono ?_;rintro e w1 ⟨rfl,hw1⟩;rw[hcm];have g6:=xK (EO w _ _ _) hw1;have k0:=wB g6 0 rfl;have k1:=wB g6 1 rfl;have f0:=xn g6 0;have f1:=xn g6 1;have B0:vY w w1:=((((vY.refl w).alloc _).alloc _).alloc _).trans hw1)
   have c6:=heap_set (heap_set g6 (i:=0) (.int .u64 0)) (i:=1) (.int .u64 0);have e0:=wB c6 0 rfl;have e1:=wB c6 1 rfl;refine bodyPost_ret (by simp[results,results230,go_sem,e0,e1];rfl) rfl ?_;exact⟨by rw[vz],vY.set (vY.set B0 (by omega) _) (by omega) _⟩
  ·have hx1:40000<x:=by omega
   gi_wp2_with (gi_at_call 156;refine(Vk (n-1) r d _ (hG.bel ((((vY.refl w).alloc _).alloc _).alloc _)) (by omega) hd).mono ?_;rintro e w1 ⟨rfl,hw1⟩;rw[hcm];have g6:=xK (EO w _ _ _) hw1;have k0:=wB g6 0 rfl;have k1:=wB g6 1 rfl;have f0:=xn g6 0;have f1:=xn g6 1;have B0:vY w w1:=((((vY.refl w).alloc _).alloc _).alloc _).trans hw1)
   have c6:=heap_set (heap_set g6 (i:=0) (.int .u64 0)) (i:=1) (.int .u64 0);have e0:=wB c6 0 rfl;have e1:=wB c6 1 rfl;refine bodyPost_ret (by simp[results,results230,go_sem,e0,e1];rfl) rfl ?_;exact⟨by rw[vz],vY.set (vY.set B0 (by omega) _) (by omega) _⟩
def Ml (r:Nat) (x:Int) (d:Nat):List Int:=match decide (r<d/\0<=x/\x<=40000) with
 | true=>oB (zI r x.toNat d).1 ++ [wh (zI r x.toNat d).2,1]
 | false=>[0,0,0,0]
def YB (l:List Int):List Int:=Ml (nB (wC l 0) (wC l 1)) (i64 (wC l 2)) (nB (wC l 3) (wC l 4))
abbrev Kj:Ct:=⟨[.agg [kU,kU],.sc kI,.agg [kU,kU]],[.agg [kU,kU],.sc .bool,.sc .bool]⟩
theorem five {α:Type} {l:List α} (h:l.length=5):∃ a b c d e,l = [a,b,c,d,e]:=by match l,h with | [a,b,c,d,e],_=>exact⟨a,b,c,d,e,rfl⟩
theorem aAJ (a b c d e:Int):xk Kj.a [a,b,c,d,e] = [vB (nB a b),.int .i64 (i64 c),vB (nB d e)]:=by obtain⟨n1,n0⟩:=Lb a b;obtain⟨m1,m0⟩:=Lb d e;simp only[Kj,xk,yL,xu,yw,zF,Ha,Sh.kinds,List.drop_succ_cons,List.drop_zero,List.length_cons,List.length_nil,n1,n0,m1,m0]
theorem aAK (q:Nat) (o:Bool):xU (xk Kj.r (oB q ++ [wh o,1])) = .tuple #[vB q,.bool o,.bool true]:=by rw[wS];simp only[Kj,wV,wW,xk,yL,xu,yw,zF,Sh.kinds,List.drop_succ_cons,List.drop_zero,List.length_cons,List.length_nil,Dm,yX,xU];rfl
theorem aAL:xU (xk Kj.r [0,0,0,0]) = .tuple #[vB 0,.bool false,.bool false]:=by
 have zw:∀ j,wd 0 j=0:=λj=>by unfold wd;simp
 have z:u64 0=0:=by decide
 simp only[Kj,xk,yL,xu,yw,zF,Sh.kinds,List.drop_succ_cons,List.drop_zero,List.length_cons,List.length_nil,xU,z,vB,zw];rfl
theorem aml {r d:Nat} {x:Int} (h:r<d/\0<=x/\x<=40000):Ml r x d=oB (zI r x.toNat d).1 ++ [wh (zI r x.toNat d).2,1]:=by have:decide (r<d/\0<=x/\x<=40000)=true:=decide_eq_true h;unfold Ml;rw[this]
theorem amm {r d:Nat} {x:Int} (h:¬ (r<d/\0<=x/\x<=40000)):Ml r x d = [0,0,0,0]:=by have:decide (r<d/\0<=x/\x<=40000)=false:=decide_eq_false h;unfold Ml;rw[this]
theorem aAM (r:Nat) (x:Int) (d:Nat):(Ml r x d).length=4:=by
 by_cases h:r<d/\0<=x/\x<=40000
 ·rw[aml h,wS];rfl
 ·rw[amm h];rfl
theorem amn {args:List Value} {v:Value} (h:∀ w,Gl gG w->Calls prog 230 args.toArray w λe w'=>e = .returned v/\vY w w'):PC prog gG 230 args v:=λw hG =>
 FC func230 (by kernel_rfl) (by kernel_rfl) (h w hG)
theorem aAN (r d k:Nat) (hr:r<d) (hd:d<wy) (hk:k<=40000) (w:World) (hG:Gl gG w):Calls prog 230 #[vB r,.int .i64 (k:Int),vB d] w λe w'=>e = .returned (.tuple #[vB (zI r k d).1,.bool (zI r k d).2,.bool true])/\vY w w' :=
 callsIn_wide.1 (aAH 3 (Nat.le_refl _) r d k hr hd hk w hG)
theorem aAO (r d:Nat) (x:Int) (hr:r<wy) (hd:d<wy) (hx:d<=r\/x<0\/40000<x) (w:World) (hG:Gl gG w):Calls prog 230 #[vB r,.int .i64 x,vB d] w λe w'=>e = .returned (.tuple #[vB 0,.bool false,.bool false])/\vY w w' :=
 callsIn_wide.1 (aAI 3 (Nat.le_refl _) r d x hr hd hx w hG)
theorem aAP (r d:Nat) (x:Int) (hr:r<wy) (hd:d<wy):PC prog gG 230 [vB r,.int .i64 x,vB d] (xU (xk Kj.r (Ml r x d))):=by
 by_cases h:r<d/\0<=x/\x<=40000
 ·rw[aml h,aAK];obtain⟨k,rfl⟩:∃ k:Nat,x=(k:Int):=⟨x.toNat,by omega⟩;exact amn λw hG=>aAN r d k h.1 hd (by omega) w hG
 ·rw[amm h,aAL];exact amn λw hG=>aAO r d x hr hd (by omega) w hG
theorem amo (a b c d e:Int):YB [a,b,c,d,e]=Ml (nB a b) (i64 c) (nB d e):=by rw[YB];simp only[xA,xC]
theorem aAQ:wK prog gG ⟨230,Kj,YB⟩:=by intro l hl;obtain⟨a,b,c,d,e,rfl⟩:=five hl;have h1:=aAM (nB a b) (i64 c) (nB d e);have h2:=aAP (nB a b) (nB d e) (i64 c) (He a b) (He d e);rw[<- aAJ,<- amo] at h2;rw[<- amo] at h1;exact⟨h1,h2⟩
def Vl:List wY:=⟨230,Kj,YB⟩::EF
theorem aAR:∀ e∈Vl,wK prog gG e:=List.forall_mem_cons.2 ⟨aAQ,UQ⟩
theorem aAS:Br (wR Vl M0 S1) eE:=GZ aAR JG IU (by kernel_rfl)
def Kk:Ct:=⟨[.sc kB,.agg [kU,kU],.agg [kU,kU]],[.agg [kU,kU,kB]]⟩
noncomputable def EN:vU SV:=xe (wR Vl M0 S1) 3000 100 (wN Kk.a (wM 0 (vV Kk.a))) (vV Kk.a).length
def amq:vU SV :=
 jw
theorem aAT:EN.th=amq:=by kernel_rfl
def amr:vU SV :=
 (.call 2000077 [dF,ae,ag,az,ay,aC] 16 4 (.ite kw (.leaf (.agg [jf,(.int .u64 fe),(.int .u8 (.var kB 18))])) (.ite dP pM (.ite lv pM (.ite pQ pM (.ite pR (.call 152 [eH,eO] 20 4 (.call 156 pU 24 1 (.ite (.bin .gtr .i64 nX ae) (.call 152 [eU,fA] 25 4 (.call 152 [eU,fA] 29 4 (.call 157 [jT,jV,jW,mR,jY,j4,mV,mW] 33 5 (.call 158 [mY,nJ,ny,mZ,ib,fB,fF,fH] 38 5 (.call 132 [nL,nO,ol,om] 43 1 (.call 134 [dF,cO,ae,(.not (.beq iK (.not (.var .bool 43)))),pV,nL,nO,ol,om] 44 3 (.ite (.bin .neq .u8 (.var kB 46) ae) jw (.leaf (.agg [oq,ou,iF]))))))))) (.call 134 [dF,cO,ae,pW,pV,ib,fB,fF,fH] 25 3 (.ite (.bin .neq .u8 (.var kB 27) ae) jw (.leaf (.agg [(.int .u64 jT),kV,iF]))))))) (.call 229 pU 20 3 (.ite (.not lh) (.ite qa (.call 230 [ib,fB,pY,eU,fA] 23 4 qj) (.call 229 [eU,fA,ib,fB] 23 3 (.call 156 [ib,fB,fH,fJ] 26 1 (.ite ql qp (.ite qw qp (.call 152 [ib,fB] 27 4 qx)))))) (.ite qa (.call 230 [eH,eO,pY,eU,fA] 23 4 qj) (.call 229 [eU,fA,eH,eO] 23 3 (.call 156 [eH,eO,fH,fJ] 26 1 (.ite ql qp (.ite qw qy qy)))))))))))))
theorem aAU:EN.el.nx.nx.nx.th=amr:=by kernel_rfl
def ams:vU SV :=
 (.call 2000077 [dF,ae,ag,az,ay,aC] 17 4 qO)
theorem aAV:EN.el.nx.nx.nx.el.nx.th=ams:=by kernel_rfl
def amt:vU SV :=
 (.call 2000077 [dF,ai,ag,az,ay,aC] 17 4 (.ite jI mK qN))
theorem aAW:EN.el.nx.nx.nx.el.nx.el.th=amt:=by kernel_rfl
def amu:vU SV :=
 (.call 2000077 [dF,(.bin .eql .u8 (.var kB 11) ae),ag,az,ay,aC] 17 4 qO)
theorem aAX:EN.el.nx.nx.nx.el.nx.el.el=amu:=by kernel_rfl
def aeQ:vU SV :=
 (.ite dH amq (.call 76 iX 5 5 (.call 76 jC 10 5 (.call 14 iX 15 1 (.ite lU amr (.call 14 jC 16 1 (.ite lW ams (.ite dS amt amu))))))))
theorem aAY:xe (wR Vl M0 S1) 3000 100 (wN Kk.a (wM 0 (vV Kk.a))) (vV Kk.a).length=aeQ:=(show EN=aeQ from(YF (T:=EN) (c:=(.not (.bin .lss .i64 (.var kB 0) (.lit 4)))) (by kernel_rfl) aAT (YG (T:=EN.el) (q:=(76,[(.var kB 0),(.var kU 1),(.var kU 2)],5,5)) (by kernel_rfl) (YG (T:=EN.el.nx) (q:=(76,[(.var kB 0),(.var kU 3),(.var kU 4)],10,5)) (by kernel_rfl) (YG (T:=EN.el.nx.nx) (q:=(14,[(.var kB 0),(.var kU 1),(.var kU 2)],15,1)) (by kernel_rfl) (YF (T:=EN.el.nx.nx.nx) (c:=(.var .bool 15)) (by kernel_rfl) aAU (YG (T:=EN.el.nx.nx.nx.el) (q:=(14,[(.var kB 0),(.var kU 3),(.var kU 4)],16,1)) (by kernel_rfl) (YF (T:=EN.el.nx.nx.nx.el.nx) (c:=(.var .bool 16)) (by kernel_rfl) aAV (YF (T:=EN.el.nx.nx.nx.el.nx.el) (c:=(.bin .eql .u8 (.var kB 6) (.lit 3))) (by kernel_rfl) aAW aAX)))))))))
def amv:List Int->List Int:=wE (wH Vl M0 S1) Kk aeQ
theorem amw:wK prog gG ⟨100,Kk,amv⟩:=Ip aAS 3000 aAY (by kernel_rfl)
end Go.Proofs.YtippohicjhilnaaGreatDoor
