import Derived.Test.YtemomocmfggiaaaGreatDoorW7aU6
import Derived.Test.YtemomocmfggiaaaGreatDoorZ1U6
set_option linter.unusedSimpArgs false
set_option linter.unusedVariables false
set_option maxRecDepth 100000
set_option maxHeartbeats 4000000
namespace Go.Proofs.YtemomocmfggiaaaGreatDoor
open Go.RowKit Go.Shelf
attribute [local go_sem] Oper.semAt_some
theorem atl (n:Nat) (hn:1≤n) {m b3 b5 b9:Nat} (r d:Nat) (o:Bool) (w:World) (hG:Gl gG w) (hr:r<d) (hd:d<vF) (hms:m≤w.heap.size) (hm3:m≤b3) (hm9:m≤b9) (n35:b3≠b5) (n39:b3≠b9) (n59:b5≠b9)
  (h3:w.heap[b3]? = some (.cells #[.int .u64 (wd r 1),.int .u64 (wd r 0)] 24 (0,0))) (h5:w.heap[b5]? = some (.cells #[.int .u64 (wd d 1),.int .u64 (wd d 0)] 24 (0,0))) (h9:w.heap[b9]? = some (.cells #[.bool o] 4 (0,0))) :
  CallsIn Fence.wide n Tryz.prog 262 #[.pointer (some ⟨b3,0,none⟩),.pointer (some ⟨b5,0,none⟩),.pointer (some ⟨b9,0,none⟩)] w fun e w'=>(∃ v,e = .returned v)∧Below m w w' ∧
   w'.heap[b3]? = some (.cells #[.int .u64 (wd (BV r 0 d).1 1),.int .u64 (wd (BV r 0 d).1 0)] 24 (0,0))∧w'.heap[b5]? = some (.cells #[.int .u64 (wd d 1),.int .u64 (wd d 0)] 24 (0,0))∧w'.heap[b9]? = some (.cells #[.bool (BV r 0 d).2] 4 (0,0))∧(∀ B o,B≠b3→B≠b9→w.heap[B]? = some o→w'.heap[B]? = some o):=by
 refine callsIn_of_wp Tryz.func262 rfl trivial ?_ rfl
 simp only[Tryz.ntmps262,List.size_toArray,List.length_cons,List.length_nil,Nat.reduceAdd,Nat.reduceSub,Array.replicate_succ,Array.replicate_zero,List.push_toArray,List.append_toArray,List.nil_append,List.cons_append]
 have e30:=vN h3 0 rfl
 have e31:=vN h3 1 rfl
 have e50:=vN h5 0 rfl
 have e51:=vN h5 1 rfl
 have hnx:=atf (n-1) r d w hG hr hd
 have h76:Fence.wide.fn 217:=trivial
 gi_wp2_with (gi_at_call 217;refine hnx.mono ?_;rintro e w3 ⟨rfl,hw3⟩;have g3:=xu h3 hw3;have g5:=xu h5 hw3;have g9:=xu h9 hw3;have k0:=vN g3 0 rfl;have k1:=vN g3 1 rfl;have k2:=wN g3 0;have k3:=wN g3 1;have k4:=vN g9 0 rfl;have k5:=wN g9 0)
 go_end0
 have hb3:m≤b3:=hm3
 refine⟨⟨_,rfl⟩,Below.setCell (Below.setCell (Below.setCell (Below.mono hw3 hms) hm3 _) hm3 _) hm9 _,?_,?_,?_,fun B o x3 x9 h=>vY (vY (vY (xu h hw3) _ _ x3) _ _ x3) _ _ x9⟩
 ·exact vY (heap_set (heap_set g3 _) _) _ _ n39
 ·exact vY (vY (vY g5 _ _ (Ne.symm n35)) _ _ (Ne.symm n35)) _ _ n59
 ·exact heap_set (vY (vY g9 _ _ (Ne.symm n39)) _ _ (Ne.symm n39)) _
def vO (r n d:Nat):Nat×Bool:=(r*2^n%d,decide (r*2^n/d%2=1))
theorem Vq {r d:Nat} (h:r<d):vO r 0 d=(r,false):=by
 unfold vO;rw[Nat.pow_zero,Nat.mul_one,Nat.mod_eq_of_lt h,Nat.div_eq_of_lt h];rfl
theorem ag5 {r n d:Nat} (h:0<d):(vO r n d).1<d:=Nat.mod_lt _ h
theorem atm {r n d:Nat} (h:0<d):BV (vO r n d).1 0 d=vO r (n+1) d:=by
 unfold BV vO
 simp only
 rw[Nat.pow_succ,← Nat.mul_assoc]
 generalize r*2^n=x
 have e:=Nat.div_add_mod x d
 have hl:=Nat.mod_lt x h
 generalize x%d=y at *
 generalize x/d=q at *
 by_cases hc:d≤2*y
 ·rw[if_pos (by omega)]
  have e2:x*2=(2*y-d)+d*(2*q+1):=by rw[← e,Nat.mul_add,Nat.mul_comm 2 q,← Nat.mul_assoc,Nat.mul_one];omega
  rw[e2,Nat.add_mul_mod_self_left,Nat.add_mul_div_left _ _ h,Nat.mod_eq_of_lt (by omega),Nat.div_eq_of_lt (by omega)]
  simp only[Prod.mk.injEq]
  exact⟨by omega,by symm;rw[decide_eq_true_iff];omega⟩
 ·rw[if_neg (by omega)]
  have e2:x*2=(2*y)+d*(2*q):=by rw[← e,Nat.mul_comm 2 q,← Nat.mul_assoc];omega
  rw[e2,Nat.add_mul_mod_self_left,Nat.add_mul_div_left _ _ h,Nat.mod_eq_of_lt (by omega),Nat.div_eq_of_lt (by omega)]
  simp only[Prod.mk.injEq]
  exact⟨by omega,by symm;rw[decide_eq_false_iff_not];omega⟩
theorem RU (m r d:Nat) (w:World) (hG:Gl gG w) (hr:r<vF) (hd:d<vF):CallsIn Fence.wide m Tryz.prog 159 #[vB r,vB d] w fun e w'=>e = .returned (.int .i64 (xq r d))∧vI w w':=callsIn_wide.2 (by
 have h:=Kb (adI [wd r 1,wd r 0,wd d 1,wd d 0] rfl).2 Tryz.func159 (by kernel_rfl) (by kernel_rfl) w hG
 simp only[] at h
 rw[UZ,xn hr,xn hd] at h
 have hc:IntKind.i64.wrap (xq r d)=xq r d:=by
  unfold xq
  by_cases h1:r<d
  ·rw[if_pos h1];decide
  ·rw[if_neg h1]
   by_cases h2:d<r
   ·rw[if_pos h2];decide
   ·rw[if_neg h2];decide
 simp only[Lb,wJ,yx,wQ,xW,Sh.kinds,List.drop_succ_cons,List.drop_zero,List.length_cons,List.length_nil,AU,BQ,xG,hc] at h
 exact h)
theorem atn (n:Nat) (hn:3≤n) (r d k:Nat) (hr:r<d) (hd:d<vF) (hk:k≤40000) (w:World) (hG:Gl gG w) :
  CallsIn Fence.wide n Tryz.prog 228 #[vB r,.int .i64 (k:Int),vB d] w fun e w'=>e = .returned (.tuple #[vB (vO r k d).1,.bool (vO r k d).2,.bool true])∧vI w w':=by
 have hn1:1≤n:=by omega
 have h30:Fence.wide.fn 159:=trivial
 have h119:Fence.wide.fn 262:=trivial
 refine callsIn_of_wp Tryz.func228 rfl trivial ?_ rfl
 simp only[Tryz.ntmps228,List.size_toArray,List.length_cons,List.length_nil,Nat.reduceAdd,Nat.reduceSub,Array.replicate_succ,Array.replicate_zero,List.push_toArray,List.append_toArray,List.nil_append,List.cons_append]
 have hcm:xq r d = -1:=by unfold xq;rw[if_pos hr]
 have q1:¬ ((k:Int)<0):=by omega
 have q2:¬ ((k:Int)>40000):=by omega
 have q3:¬ ((40000:Int)<(k:Int)):=by omega
 gi_wp2_with (gi_at_call 159;refine(RU (n-1) r d _ (hG.bel ((((vI.refl w).alloc _).alloc _).alloc _)) (by omega) hd).mono ?_;rintro e w1 ⟨rfl,hw1⟩;rw[hcm])
 rw[decide_eq_false (show ¬ ((k:Int)<0) by omega),decide_eq_false (show ¬ ((40000:Int)<(k:Int)) by omega),Bool.or_false]
 have s1:w.heap.size+1+1<w1.heap.size:=I7 (xu (DL w _ _ _) hw1)
 have B0:vI w (w1.alloc (Obj.cells #[Value.bool false] 4)):=((((vI.refl w).alloc _).alloc _).alloc _).trans hw1 |>.alloc _
 have g3:(w1.alloc (Obj.cells #[Value.bool false] 4)).heap[w.heap.size]? = some (.cells #[.int .u64 (wd r 1),.int .u64 (wd r 0)] 24 (0,0)):=heap_alloc (xu (heap_alloc (heap_alloc (Hd w _) _) _) hw1) _
 have g5:(w1.alloc (Obj.cells #[Value.bool false] 4)).heap[w.heap.size+1]? = some (.cells #[.int .u64 (wd d 1),.int .u64 (wd d 0)] 24 (0,0)):=heap_alloc (xu (heap_alloc (PX w _ _) _) hw1) _
 have g6:(w1.alloc (Obj.cells #[Value.bool false] 4)).heap[w.heap.size+1+1]? = some (.cells #[.int .u64 0,.int .u64 0] 24 (0,0)):=heap_alloc (xu (DL w _ _ _) hw1) _
 have g9:(w1.alloc (Obj.cells #[Value.bool false] 4)).heap[w1.heap.size]? = some (.cells #[.bool false] 4 (0,0)):=Hd _ _
 generalize w1.heap.size=b9 at *
 generalize w1.alloc (Obj.cells #[Value.bool false] 4)=w2 at *
 gi_loopw [26] (fun i wr=>∃ j:Nat,j≤k∧i = .int .i64 (j:Int)∧Below w.heap.size w wr∧wr.heap[w.heap.size]? = some (.cells #[.int .u64 (wd (vO r j d).1 1),.int .u64 (wd (vO r j d).1 0)] 24 (0,0)) ∧
   wr.heap[w.heap.size+1]? = some (.cells #[.int .u64 (wd d 1),.int .u64 (wd d 0)] 24 (0,0))∧wr.heap[w.heap.size+1+1]? = some (.cells #[.int .u64 0,.int .u64 0] 24 (0,0))∧wr.heap[b9]? = some (.cells #[.bool (vO r j d).2] 4 (0,0)))
  (fun i _=>((k:Int)-intOf i).toNat)
 case atStart=>exact⟨0,Nat.zero_le _,rfl,B0,by rw[Vq hr];exact g3,g5,g6,by rw[Vq hr];exact g9⟩
 case round =>
  obtain⟨j,hj,rfl,hB,c3,c5,c6,c9⟩:=hrel
  by_cases hlt:j<k
  ·have q4:(j:Int)<(k:Int):=by omega
   have hst:=atl (n-1) (by omega) (m:=w.heap.size) (b3:=w.heap.size) (b5:=w.heap.size+1) (b9:=b9) (vO r j d).1 d (vO r j d).2 wr (hG.bel hB) (ag5 (by omega)) hd hB.size (Nat.le_refl _) (by omega) (by omega) (by omega) (by omega) c3 c5 c9
   rw[atm (show 0<d by omega)] at hst
   gi_wp2_with (gi_at_call 262;refine hst.mono ?_;rintro e w4 ⟨⟨v4,rfl⟩,hw4,d3,d5,d9,dk⟩)
   go_roundw
   case rel=>exact⟨j+1,by omega,by congr 1,Below.trans hB hw4,d3,d5,dk _ _ (by omega) (by omega) c6,d9⟩
   case measure=>simp[intOf];omega
  ·obtain rfl:j=k:=by omega
   gi_wp2
   refine I6 (fun(L:Nat→Bool) (A:Act) (W:World)=>∃ u31 u32 u7 u8:Value,A=⟨#[vB r,Value.int IntKind.i64 ↑j,vB d,Value.pointer (some { block:=w.heap.size,off:=0 }),undef,Value.pointer (some { block:=w.heap.size+1,off:=0 }),Value.pointer (some { block:=w.heap.size+1+1,off:=0 }),u7,u8,Value.pointer (some { block:=b9,off:=0 }),Value.func (Fn.func 262) #[] #[Value.pointer (some { block:=w.heap.size,off:=0 }),Value.pointer (some { block:=w.heap.size+1,off:=0 }),Value.pointer (some { block:=b9,off:=0 })],Value.agg #[Value.int IntKind.u64 (wd r 1),Value.int IntKind.u64 (wd r 0)],Value.agg #[Value.int IntKind.u64 (wd d 1),Value.int IntKind.u64 (wd d 0)],Value.int IntKind.i64 (-1),Value.bool false,Value.bool false,Value.int IntKind.i64 ↑j,Value.bool false,Value.bool false,Value.bool false,Value.int IntKind.i64 ↑j,Value.bool false,Value.bool false,undef,Value.func (Fn.func 262) #[] #[Value.pointer (some { block:=w.heap.size,off:=0 }),Value.pointer (some { block:=w.heap.size+1,off:=0 }),Value.pointer (some { block:=b9,off:=0 })],Value.int IntKind.i64 ↑j,Value.int IntKind.i64 ↑j,Value.bool false,u28,u29,u30,u31,u32],[]⟩∧vI w W∧W.heap[w.heap.size]? = some (.cells #[.int .u64 (wd (vO r j d).1 1),.int .u64 (wd (vO r j d).1 0)] 24 (0,0))∧W.heap[w.heap.size+1+1]? = some (.cells (bif L 2 then #[.int .u64 (wd (vO r j d).1 1),.int .u64 (wd (vO r j d).1 0)] else #[.int .u64 0,.int .u64 0]) 24 (0,0))∧W.heap[b9]? = some (.cells #[.bool (vO r j d).2] 4 (0,0))∧(L 0=true→u31 = .agg #[.int .u64 (wd (vO r j d).1 1),.int .u64 (wd (vO r j d).1 0)])∧(L 1=true→u32 = .bool (vO r j d).2)∧(L 3=true→u7 = .bool (vO r j d).2)∧(L 4=true→u8=(Value.bool true))) (by kernel_rfl) (by kernel_rfl) ?h0 ⟨?s0,?s1,?s2,?s3,?s4,trivial⟩ ?hd
   case h0 =>
    exact⟨_,_,_,_,rfl,(vI.drew hB),c3,c6,c9,fun h=>absurd h Bool.false_ne_true,fun h=>absurd h Bool.false_ne_true,fun h=>absurd h Bool.false_ne_true,fun h=>absurd h Bool.false_ne_true⟩
   case s0 =>
    rintro L _ W K ⟨u31,u32,u7,u8,rfl,hb,c3,c6,c9,f0,f1,f3,f4⟩ hL hD hN hK
    refine wU (wT rfl) ?_
    have e0:=vN c3 0 rfl
    have e1:=vN c3 1 rfl
    have hf:=wN c3 0
    go_simp
    refine hK _ _ ⟨_,_,_,_,rfl,hb,c3,c6,c9,fun _=>rfl,f1,f3,f4⟩
   case s1 =>
    rintro L _ W K ⟨u31,u32,u7,u8,rfl,hb,c3,c6,c9,f0,f1,f3,f4⟩ hL hD hN hK
    refine wU (wT rfl) ?_
    have e0:=vN c9 0 rfl
    have hf:=wN c9 0
    go_simp
    refine hK _ _ ⟨_,_,_,_,rfl,hb,c3,c6,c9,f0,fun _=>rfl,f3,f4⟩
   case s2 =>
    rintro L _ W K ⟨u31,u32,u7,u8,rfl,hb,c3,c6,c9,f0,f1,f3,f4⟩ hL hD hN hK
    obtain rfl:=f0 (hD 0 (by kernel_rfl))
    refine wU (wT rfl) ?_
    have hz:L 2=false:=hL
    rw[hz] at c6
    have e0:=vN c6 0 (rfl)
    have h0:=wN c6 0
    have e1:=vN c6 1 (rfl)
    have h1:=wN c6 1
    go_simp
    refine hK _ _ ⟨_,_,_,_,rfl,(vI.set (vI.set hb (by omega) _) (by omega) _),(vY (vY c3 _ _ (show w.heap.size≠w.heap.size+1+1 by omega)) _ _ (show w.heap.size≠w.heap.size+1+1 by omega)),(heap_set (heap_set c6 _) _),(vY (vY c9 _ _ (show b9≠w.heap.size+1+1 by omega)) _ _ (show b9≠w.heap.size+1+1 by omega)),f0,f1,f3,f4⟩
   case s3 =>
    rintro L _ W K ⟨u31,u32,u7,u8,rfl,hb,c3,c6,c9,f0,f1,f3,f4⟩ hL hD hN hK
    obtain rfl:=f1 (hD 1 (by kernel_rfl))
    refine wU (wT rfl) ?_
    go_simp
    refine hK _ _ ⟨_,_,_,_,rfl,hb,c3,c6,c9,f0,f1,fun _=>rfl,f4⟩
   case s4 =>
    rintro L _ W K ⟨u31,u32,u7,u8,rfl,hb,c3,c6,c9,f0,f1,f3,f4⟩ hL hD hN hK
    refine wU (wT rfl) ?_
    go_simp
    refine hK _ _ ⟨_,_,_,_,rfl,hb,c3,c6,c9,f0,f1,f3,fun _=>rfl⟩
   case hd =>
    rintro L _ W ⟨u31,u32,u7,u8,rfl,hb,c3,c6,c9,f0,f1,f3,f4⟩ hall
    rw[hall 2 (by decide)] at c6
    obtain rfl:=f0 (hall 0 (by decide))
    obtain rfl:=f1 (hall 1 (by decide))
    obtain rfl:=f3 (hall 3 (by decide))
    obtain rfl:=f4 (hall 4 (by decide))
    have e0:=vN c6 0 rfl
    have e1:=vN c6 1 rfl
    gi_wp2
    refine bodyPost_ret (by simp[results,Tryz.results228,go_sem,e0,e1];rfl) rfl ?_
    exact⟨rfl,hb⟩
theorem ato (n:Nat) (hn:3≤n) (r d:Nat) (x:Int) (hr:r<vF) (hd:d<vF) (hx:d≤r∨x<0∨40000<x) (w:World) (hG:Gl gG w) :
  CallsIn Fence.wide n Tryz.prog 228 #[vB r,.int .i64 x,vB d] w fun e w'=>e = .returned (.tuple #[vB 0,.bool false,.bool false])∧vI w w':=by
 have hn1:1≤n:=by omega
 have h30:Fence.wide.fn 159:=trivial
 refine callsIn_of_wp Tryz.func228 rfl trivial ?_ rfl
 simp only[Tryz.ntmps228,List.size_toArray,List.length_cons,List.length_nil,Nat.reduceAdd,Nat.reduceSub,Array.replicate_succ,Array.replicate_zero,List.push_toArray,List.append_toArray,List.nil_append,List.cons_append]
 have zw:∀ j,wd 0 j=0:=fun j=>by unfold wd;simp
 have vz:vB 0 = .agg #[.int .u64 0,.int .u64 0]:=by unfold vB;rw[zw,zw]
 by_cases hrd:d≤r
 ·by_cases hlt:d<r
  ·have hcm:xq r d=1:=by unfold xq;rw[if_neg (by omega),if_pos hlt]
   gi_wp2_with (gi_at_call 159;refine(RU (n-1) r d _ (hG.bel ((((vI.refl w).alloc _).alloc _).alloc _)) (by omega) hd).mono ?_;rintro e w1 ⟨rfl,hw1⟩;rw[hcm];have g6:=xu (DL w _ _ _) hw1;have k0:=vN g6 0 rfl;have k1:=vN g6 1 rfl;have f0:=wN g6 0;have f1:=wN g6 1;have B0:vI w w1:=((((vI.refl w).alloc _).alloc _).alloc _).trans hw1)
   have c6:=heap_set (heap_set g6 (i:=0) (.int .u64 0)) (i:=1) (.int .u64 0)
   have e0:=vN c6 0 rfl
   have e1:=vN c6 1 rfl
   refine bodyPost_ret (by simp[results,Tryz.results228,go_sem,e0,e1];rfl) rfl ?_
   exact⟨by rw[vz],vI.set (vI.set B0 (by omega) _) (by omega) _⟩
  ·have hcm:xq r d=0:=by unfold xq;rw[if_neg (by omega),if_neg hlt]
   gi_wp2_with (gi_at_call 159;refine(RU (n-1) r d _ (hG.bel ((((vI.refl w).alloc _).alloc _).alloc _)) (by omega) hd).mono ?_;rintro e w1 ⟨rfl,hw1⟩;rw[hcm];have g6:=xu (DL w _ _ _) hw1;have k0:=vN g6 0 rfl;have k1:=vN g6 1 rfl;have f0:=wN g6 0;have f1:=wN g6 1;have B0:vI w w1:=((((vI.refl w).alloc _).alloc _).alloc _).trans hw1)
   have c6:=heap_set (heap_set g6 (i:=0) (.int .u64 0)) (i:=1) (.int .u64 0)
   have e0:=vN c6 0 rfl
   have e1:=vN c6 1 rfl
   refine bodyPost_ret (by simp[results,Tryz.results228,go_sem,e0,e1];rfl) rfl ?_
   exact⟨by rw[vz],vI.set (vI.set B0 (by omega) _) (by omega) _⟩
 ·have hcm:xq r d = -1:=by unfold xq;rw[if_pos (by omega)]
  by_cases hx0:x<0
  ·gi_wp2_with (gi_at_call 159;refine(RU (n-1) r d _ (hG.bel ((((vI.refl w).alloc _).alloc _).alloc _)) (by omega) hd).mono ?_;rintro e w1 ⟨rfl,hw1⟩;rw[hcm];have g6:=xu (DL w _ _ _) hw1;have k0:=vN g6 0 rfl;have k1:=vN g6 1 rfl;have f0:=wN g6 0;have f1:=wN g6 1;have B0:vI w w1:=((((vI.refl w).alloc _).alloc _).alloc _).trans hw1)
   have c6:=heap_set (heap_set g6 (i:=0) (.int .u64 0)) (i:=1) (.int .u64 0)
   have e0:=vN c6 0 rfl
   have e1:=vN c6 1 rfl
   refine bodyPost_ret (by simp[results,Tryz.results228,go_sem,e0,e1];rfl) rfl ?_
   exact⟨by rw[vz],vI.set (vI.set B0 (by omega) _) (by omega) _⟩
  ·have hx1:40000<x:=by omega
   gi_wp2_with (gi_at_call 159;refine(RU (n-1) r d _ (hG.bel ((((vI.refl w).alloc _).alloc _).alloc _)) (by omega) hd).mono ?_;rintro e w1 ⟨rfl,hw1⟩;rw[hcm];have g6:=xu (DL w _ _ _) hw1;have k0:=vN g6 0 rfl;have k1:=vN g6 1 rfl;have f0:=wN g6 0;have f1:=wN g6 1;have B0:vI w w1:=((((vI.refl w).alloc _).alloc _).alloc _).trans hw1)
   have c6:=heap_set (heap_set g6 (i:=0) (.int .u64 0)) (i:=1) (.int .u64 0)
   have e0:=vN c6 0 rfl
   have e1:=vN c6 1 rfl
   refine bodyPost_ret (by simp[results,Tryz.results228,go_sem,e0,e1];rfl) rfl ?_
   exact⟨by rw[vz],vI.set (vI.set B0 (by omega) _) (by omega) _⟩
end Go.Proofs.YtemomocmfggiaaaGreatDoor
