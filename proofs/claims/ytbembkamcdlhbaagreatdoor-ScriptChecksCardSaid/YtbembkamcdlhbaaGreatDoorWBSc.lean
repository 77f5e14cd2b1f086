import Derived.Test.YtbembkamcdlhbaaGreatDoorWASc
import Derived.Test.YtbembkamcdlhbaaGreatDoorZ1Sc
set_option linter.unusedSimpArgs false
set_option linter.unusedVariables false
set_option maxRecDepth 100000
set_option maxHeartbeats 4000000
namespace Go.Proofs.YtbembkamcdlhbaaGreatDoor
open Go.RowKit Go.Shelf
attribute [local go_sem] Oper.semAt_some
theorem alj (n:Nat) (hn:1≤n) {m b3 b5 b9:Nat} (r d:Nat) (o:Bool) (w:World) (hG:Gl gG w) (hr:r<d) (hd:d<rD) (hms:m≤w.heap.size) (hm3:m≤b3) (hm9:m≤b9) (n35:b3≠b5) (n39:b3≠b9) (n59:b5≠b9)
  (h3:w.heap[b3]? = some (.cells #[.int .u64 (wd r 1),.int .u64 (wd r 0)] 27 (0,0))) (h5:w.heap[b5]? = some (.cells #[.int .u64 (wd d 1),.int .u64 (wd d 0)] 27 (0,0))) (h9:w.heap[b9]? = some (.cells #[.bool o] 4 (0,0))) :
  CallsIn Fence.wide n Tryz.prog 353 #[.pointer (some ⟨b3,0,none⟩),.pointer (some ⟨b5,0,none⟩),.pointer (some ⟨b9,0,none⟩)] w fun e w'=>(∃ v,e = .returned v)∧Below m w w' ∧
   w'.heap[b3]? = some (.cells #[.int .u64 (wd (yg r 0 d).1 1),.int .u64 (wd (yg r 0 d).1 0)] 27 (0,0))∧w'.heap[b5]? = some (.cells #[.int .u64 (wd d 1),.int .u64 (wd d 0)] 27 (0,0))∧w'.heap[b9]? = some (.cells #[.bool (yg r 0 d).2] 4 (0,0))∧(∀ B o,B≠b3→B≠b9→w.heap[B]? = some o→w'.heap[B]? = some o):=by
 refine callsIn_of_wp Tryz.func353 rfl trivial ?_ rfl
 simp only[Tryz.ntmps353,List.size_toArray,List.length_cons,List.length_nil,Nat.reduceAdd,Nat.reduceSub,Array.replicate_succ,Array.replicate_zero,List.push_toArray,List.append_toArray,List.nil_append,List.cons_append]
 have e30:=rA h3 0 rfl
 have e31:=rA h3 1 rfl
 have e50:=rA h5 0 rfl
 have e51:=rA h5 1 rfl
 have hnx:=ali (n-1) r d w hG hr hd
 have h76:Fence.wide.fn 300:=trivial
 gi_wp2_with (gi_at_call 300;refine hnx.mono ?_;rintro e w3 ⟨rfl,hw3⟩;have g3:=sM h3 hw3;have g5:=sM h5 hw3;have g9:=sM h9 hw3;have k0:=rA g3 0 rfl;have k1:=rA g3 1 rfl;have k2:=rY g3 0;have k3:=rY g3 1;have k4:=rA g9 0 rfl;have k5:=rY g9 0)
 go_end0
 have hb3:m≤b3:=hm3
 refine⟨⟨_,rfl⟩,Below.setCell (Below.setCell (Below.setCell (Below.mono hw3 hms) hm3 _) hm3 _) hm9 _,?_,?_,?_,fun B o x3 x9 h=>rH (rH (rH (sM h hw3) _ _ x3) _ _ x3) _ _ x9⟩
 ·exact rH (heap_set (heap_set g3 _) _) _ _ n39
 ·exact rH (rH (rH g5 _ _ (Ne.symm n35)) _ _ (Ne.symm n35)) _ _ n59
 ·exact heap_set (rH (rH g9 _ _ (Ne.symm n39)) _ _ (Ne.symm n39)) _
def uK (r n d:Nat):Nat×Bool:=(r*2^n%d,decide (r*2^n/d%2=1))
theorem aa1 {r d:Nat} (h:r<d):uK r 0 d=(r,false):=by
 unfold uK;rw[Nat.pow_zero,Nat.mul_one,Nat.mod_eq_of_lt h,Nat.div_eq_of_lt h];rfl
theorem alk {r n d:Nat} (h:0<d):(uK r n d).1<d:=Nat.mod_lt _ h
theorem alm {r n d:Nat} (h:0<d):yg (uK r n d).1 0 d=uK r (n+1) d:=by
 unfold yg uK
 simp only
 rw[Nat.pow_succ,← Nat.mul_assoc]
 generalize r*2^n=x
 have e:=Nat.div_add_mod x d
 have hl:=Nat.mod_lt x h
 generalize x%d=y at *
 generalize x/d=q at *
 by_cases hc:d≤2*y
 ·rw[if_pos (by omega)]
  have e2:x*2=(2*y-d)+d*(2*q+1):=by rw[← e,Nat.mul_add,Nat.mul_comm 2 q,← Nat.mul_assoc,Nat.mul_one];omega
  rw[e2,Nat.add_mul_mod_self_left,Nat.add_mul_div_left _ _ h,Nat.mod_eq_of_lt (by omega),Nat.div_eq_of_lt (by omega)]
  simp only[Prod.mk.injEq]
  exact⟨by omega,by symm;rw[decide_eq_true_iff];omega⟩
 ·rw[if_neg (by omega)]
  have e2:x*2=(2*y)+d*(2*q):=by rw[← e,Nat.mul_comm 2 q,← Nat.mul_assoc];omega
  rw[e2,Nat.add_mul_mod_self_left,Nat.add_mul_div_left _ _ h,Nat.mod_eq_of_lt (by omega),Nat.div_eq_of_lt (by omega)]
  simp only[Prod.mk.injEq]
  exact⟨by omega,by symm;rw[decide_eq_false_iff_not];omega⟩
theorem LJ (m r d:Nat) (w:World) (hG:Gl gG w) (hr:r<rD) (hd:d<rD):CallsIn Fence.wide m Tryz.prog 234 #[vB r,vB d] w fun e w'=>e = .returned (.int .i64 (uf r d))∧q9 w w':=callsIn_wide.2 (by
 have h:=Ef (Xa [wd r 1,wd r 0,wd d 1,wd d 0] rfl).2 Tryz.func234 (by kernel_rfl) (by kernel_rfl) w hG
 simp only[] at h
 rw[Si,zO hr,zO hd] at h
 have hc:IntKind.i64.wrap (uf r d)=uf r d:=by
  unfold uf
  by_cases h1:r<d
  ·rw[if_pos h1];decide
  ·rw[if_neg h1]
   by_cases h2:d<r
   ·rw[if_pos h2];decide
   ·rw[if_neg h2];decide
 simp only[Fj,rV,uk,sP,tQ,Sh.kinds,List.drop_succ_cons,List.drop_zero,List.length_cons,List.length_nil,yA,yX,sW,hc] at h
 exact h)
theorem aln (n:Nat) (hn:3≤n) (r d k:Nat) (hr:r<d) (hd:d<rD) (hk:k≤40000) (w:World) (hG:Gl gG w) :
  CallsIn Fence.wide n Tryz.prog 310 #[vB r,.int .i64 (k:Int),vB d] w fun e w'=>e = .returned (.tuple #[vB (uK r k d).1,.bool (uK r k d).2,.bool true])∧q9 w w':=by
 have hn1:1≤n:=by omega
 have h30:Fence.wide.fn 234:=trivial
 have h119:Fence.wide.fn 353:=trivial
 refine callsIn_of_wp Tryz.func310 rfl trivial ?_ rfl
 simp only[Tryz.ntmps310,List.size_toArray,List.length_cons,List.length_nil,Nat.reduceAdd,Nat.reduceSub,Array.replicate_succ,Array.replicate_zero,List.push_toArray,List.append_toArray,List.nil_append,List.cons_append]
 have hcm:uf r d = -1:=by unfold uf;rw[if_pos hr]
 have q1:¬ ((k:Int)<0):=by omega
 have q2:¬ ((k:Int)>40000):=by omega
 have q3:¬ ((40000:Int)<(k:Int)):=by omega
 gi_wp2_with (gi_at_call 234;refine(LJ (n-1) r d _ (hG.bel ((((q9.refl w).alloc _).alloc _).alloc _)) (by omega) hd).mono ?_;rintro e w1 ⟨rfl,hw1⟩;rw[hcm])
 rw[decide_eq_false (show ¬ ((k:Int)<0) by omega),decide_eq_false (show ¬ ((40000:Int)<(k:Int)) by omega),Bool.or_false]
 have s1:w.heap.size+1+1<w1.heap.size:=C9 (sM (zz w _ _ _) hw1)
 have B0:q9 w (w1.alloc (Obj.cells #[Value.bool false] 4)):=((((q9.refl w).alloc _).alloc _).alloc _).trans hw1 |>.alloc _
 have g3:(w1.alloc (Obj.cells #[Value.bool false] 4)).heap[w.heap.size]? = some (.cells #[.int .u64 (wd r 1),.int .u64 (wd r 0)] 27 (0,0)):=heap_alloc (sM (heap_alloc (heap_alloc (BO w _) _) _) hw1) _
 have g5:(w1.alloc (Obj.cells #[Value.bool false] 4)).heap[w.heap.size+1]? = some (.cells #[.int .u64 (wd d 1),.int .u64 (wd d 0)] 27 (0,0)):=heap_alloc (sM (heap_alloc (JR w _ _) _) hw1) _
 have g6:(w1.alloc (Obj.cells #[Value.bool false] 4)).heap[w.heap.size+1+1]? = some (.cells #[.int .u64 0,.int .u64 0] 27 (0,0)):=heap_alloc (sM (zz w _ _ _) hw1) _
 have g9:(w1.alloc (Obj.cells #[Value.bool false] 4)).heap[w1.heap.size]? = some (.cells #[.bool false] 4 (0,0)):=BO _ _
 generalize w1.heap.size=b9 at *
 generalize w1.alloc (Obj.cells #[Value.bool false] 4)=w2 at *
 gi_loopw [26] (fun i wr=>∃ j:Nat,j≤k∧i = .int .i64 (j:Int)∧Below w.heap.size w wr∧wr.heap[w.heap.size]? = some (.cells #[.int .u64 (wd (uK r j d).1 1),.int .u64 (wd (uK r j d).1 0)] 27 (0,0)) ∧
   wr.heap[w.heap.size+1]? = some (.cells #[.int .u64 (wd d 1),.int .u64 (wd d 0)] 27 (0,0))∧wr.heap[w.heap.size+1+1]? = some (.cells #[.int .u64 0,.int .u64 0] 27 (0,0))∧wr.heap[b9]? = some (.cells #[.bool (uK r j d).2] 4 (0,0)))
  (fun i _=>((k:Int)-intOf i).toNat)
 case atStart=>exact⟨0,Nat.zero_le _,rfl,B0,by rw[aa1 hr];exact g3,g5,g6,by rw[aa1 hr];exact g9⟩
 case round =>
  obtain⟨j,hj,rfl,hB,c3,c5,c6,c9⟩:=hrel
  by_cases hlt:j<k
  ·have q4:(j:Int)<(k:Int):=by omega
   have hst:=alj (n-1) (by omega) (m:=w.heap.size) (b3:=w.heap.size) (b5:=w.heap.size+1) (b9:=b9) (uK r j d).1 d (uK r j d).2 wr (hG.bel hB) (alk (by omega)) hd hB.size (Nat.le_refl _) (by omega) (by omega) (by omega) (by omega) c3 c5 c9
   rw[alm (show 0<d by omega)] at hst
   gi_wp2_with (gi_at_call 353;refine hst.mono ?_;rintro e w4 ⟨⟨v4,rfl⟩,hw4,d3,d5,d9,dk⟩)
   go_roundw
   case rel=>exact⟨j+1,by omega,by congr 1,Below.trans hB hw4,d3,d5,dk _ _ (by omega) (by omega) c6,d9⟩
   case measure=>simp[intOf];omega
  ·obtain rfl:j=k:=by omega
   gi_wp2
   refine C8 (fun(L:Nat→Bool) (A:Act) (W:World)=>∃ u31 u32 u7 u8:Value,A=⟨#[vB r,Value.int IntKind.i64 ↑j,vB d,Value.pointer (some { block:=w.heap.size,off:=0 }),undef,Value.pointer (some { block:=w.heap.size+1,off:=0 }),Value.pointer (some { block:=w.heap.size+1+1,off:=0 }),u7,u8,Value.pointer (some { block:=b9,off:=0 }),Value.func (Fn.func 353) #[] #[Value.pointer (some { block:=w.heap.size,off:=0 }),Value.pointer (some { block:=w.heap.size+1,off:=0 }),Value.pointer (some { block:=b9,off:=0 })],Value.agg #[Value.int IntKind.u64 (wd r 1),Value.int IntKind.u64 (wd r 0)],Value.agg #[Value.int IntKind.u64 (wd d 1),Value.int IntKind.u64 (wd d 0)],Value.int IntKind.i64 (-1),Value.bool false,Value.bool false,Value.int IntKind.i64 ↑j,Value.bool false,Value.bool false,Value.bool false,Value.int IntKind.i64 ↑j,Value.bool false,Value.bool false,undef,Value.func (Fn.func 353) #[] #[Value.pointer (some { block:=w.heap.size,off:=0 }),Value.pointer (some { block:=w.heap.size+1,off:=0 }),Value.pointer (some { block:=b9,off:=0 })],Value.int IntKind.i64 ↑j,Value.int IntKind.i64 ↑j,Value.bool false,u28,u29,u30,u31,u32],[]⟩∧q9 w W∧W.heap[w.heap.size]? = some (.cells #[.int .u64 (wd (uK r j d).1 1),.int .u64 (wd (uK r j d).1 0)] 27 (0,0))∧W.heap[w.heap.size+1+1]? = some (.cells (bif L 2 then #[.int .u64 (wd (uK r j d).1 1),.int .u64 (wd (uK r j d).1 0)] else #[.int .u64 0,.int .u64 0]) 27 (0,0))∧W.heap[b9]? = some (.cells #[.bool (uK r j d).2] 4 (0,0))∧(L 0=true→u31 = .agg #[.int .u64 (wd (uK r j d).1 1),.int .u64 (wd (uK r j d).1 0)])∧(L 1=true→u32 = .bool (uK r j d).2)∧(L 3=true→u7 = .bool (uK r j d).2)∧(L 4=true→u8=(Value.bool true))) (by kernel_rfl) (by kernel_rfl) ?h0 ⟨?s0,?s1,?s2,?s3,?s4,trivial⟩ ?hd
   case h0 =>
    exact⟨_,_,_,_,rfl,(q9.drew hB),c3,c6,c9,fun h=>absurd h Bool.false_ne_true,fun h=>absurd h Bool.false_ne_true,fun h=>absurd h Bool.false_ne_true,fun h=>absurd h Bool.false_ne_true⟩
   case s0 =>
    rintro L _ W K ⟨u31,u32,u7,u8,rfl,hb,c3,c6,c9,f0,f1,f3,f4⟩ hL hD hN hK
    refine sw (su rfl) ?_
    have e0:=rA c3 0 rfl
    have e1:=rA c3 1 rfl
    have hf:=rY c3 0
    go_simp
    refine hK _ _ ⟨_,_,_,_,rfl,hb,c3,c6,c9,fun _=>rfl,f1,f3,f4⟩
   case s1 =>
    rintro L _ W K ⟨u31,u32,u7,u8,rfl,hb,c3,c6,c9,f0,f1,f3,f4⟩ hL hD hN hK
    refine sw (su rfl) ?_
    have e0:=rA c9 0 rfl
    have hf:=rY c9 0
    go_simp
    refine hK _ _ ⟨_,_,_,_,rfl,hb,c3,c6,c9,f0,fun _=>rfl,f3,f4⟩
   case s2 =>
    rintro L _ W K ⟨u31,u32,u7,u8,rfl,hb,c3,c6,c9,f0,f1,f3,f4⟩ hL hD hN hK
    obtain rfl:=f0 (hD 0 (by kernel_rfl))
    refine sw (su rfl) ?_
    have hz:L 2=false:=hL
    rw[hz] at c6
    have e0:=rA c6 0 (rfl)
    have h0:=rY c6 0
    have e1:=rA c6 1 (rfl)
    have h1:=rY c6 1
    go_simp
    refine hK _ _ ⟨_,_,_,_,rfl,(q9.set (q9.set hb (by omega) _) (by omega) _),(rH (rH c3 _ _ (show w.heap.size≠w.heap.size+1+1 by omega)) _ _ (show w.heap.size≠w.heap.size+1+1 by omega)),(heap_set (heap_set c6 _) _),(rH (rH c9 _ _ (show b9≠w.heap.size+1+1 by omega)) _ _ (show b9≠w.heap.size+1+1 by omega)),f0,f1,f3,f4⟩
   case s3 =>
    rintro L _ W K ⟨u31,u32,u7,u8,rfl,hb,c3,c6,c9,f0,f1,f3,f4⟩ hL hD hN hK
    obtain rfl:=f1 (hD 1 (by kernel_rfl))
    refine sw (su rfl) ?_
    go_simp
    refine hK _ _ ⟨_,_,_,_,rfl,hb,c3,c6,c9,f0,f1,fun _=>rfl,f4⟩
   case s4 =>
    rintro L _ W K ⟨u31,u32,u7,u8,rfl,hb,c3,c6,c9,f0,f1,f3,f4⟩ hL hD hN hK
    refine sw (su rfl) ?_
    go_simp
    refine hK _ _ ⟨_,_,_,_,rfl,hb,c3,c6,c9,f0,f1,f3,fun _=>rfl⟩
   case hd =>
    rintro L _ W ⟨u31,u32,u7,u8,rfl,hb,c3,c6,c9,f0,f1,f3,f4⟩ hall
    rw[hall 2 (by decide)] at c6
    obtain rfl:=f0 (hall 0 (by decide))
    obtain rfl:=f1 (hall 1 (by decide))
    obtain rfl:=f3 (hall 3 (by decide))
    obtain rfl:=f4 (hall 4 (by decide))
    have e0:=rA c6 0 rfl
    have e1:=rA c6 1 rfl
    gi_wp2
    refine bodyPost_ret (by simp[results,Tryz.results310,go_sem,e0,e1];rfl) rfl ?_
    exact⟨rfl,hb⟩
theorem alo (n:Nat) (hn:3≤n) (r d:Nat) (x:Int) (hr:r<rD) (hd:d<rD) (hx:d≤r∨x<0∨40000<x) (w:World) (hG:Gl gG w) :
  CallsIn Fence.wide n Tryz.prog 310 #[vB r,.int .i64 x,vB d] w fun e w'=>e = .returned (.tuple #[vB 0,.bool false,.bool false])∧q9 w w':=by
 have hn1:1≤n:=by omega
 have h30:Fence.wide.fn 234:=trivial
 refine callsIn_of_wp Tryz.func310 rfl trivial ?_ rfl
 simp only[Tryz.ntmps310,List.size_toArray,List.length_cons,List.length_nil,Nat.reduceAdd,Nat.reduceSub,Array.replicate_succ,Array.replicate_zero,List.push_toArray,List.append_toArray,List.nil_append,List.cons_append]
 have zw:∀ j,wd 0 j=0:=fun j=>by unfold wd;simp
 have vz:vB 0 = .agg #[.int .u64 0,.int .u64 0]:=by unfold vB;rw[zw,zw]
 by_cases hrd:d≤r
 ·by_cases hlt:d<r
  ·have hcm:uf r d=1:=by unfold uf;rw[if_neg (by omega),if_pos hlt]
   gi_wp2_with (gi_at_call 234;refine(LJ (n-1) r d _ (hG.bel ((((q9.refl w).alloc _).alloc _).alloc _)) (by omega) hd).mono ?_;rintro e w1 ⟨rfl,hw1⟩;rw[hcm];have g6:=sM (zz w _ _ _) hw1;have k0:=rA g6 0 rfl;have k1:=rA g6 1 rfl;have f0:=rY g6 0;have f1:=rY g6 1;have B0:q9 w w1:=((((q9.refl w).alloc _).alloc _).alloc _).trans hw1)
   have c6:=heap_set (heap_set g6 (i:=0) (.int .u64 0)) (i:=1) (.int .u64 0)
   have e0:=rA c6 0 rfl
   have e1:=rA c6 1 rfl
   refine bodyPost_ret (by simp[results,Tryz.results310,go_sem,e0,e1];rfl) rfl ?_
   exact⟨by rw[vz],q9.set (q9.set B0 (by omega) _) (by omega) _⟩
  ·have hcm:uf r d=0:=by unfold uf;rw[if_neg (by omega),if_neg hlt]
   gi_wp2_with (gi_at_call 234;refine(LJ (n-1) r d _ (hG.bel ((((q9.refl w).alloc _).alloc _).alloc _)) (by omega) hd).mono ?_;rintro e w1 ⟨rfl,hw1⟩;rw[hcm];have g6:=sM (zz w _ _ _) hw1;have k0:=rA g6 0 rfl;have k1:=rA g6 1 rfl;have f0:=rY g6 0;have f1:=rY g6 1;have B0:q9 w w1:=((((q9.refl w).alloc _).alloc _).alloc _).trans hw1)
   have c6:=heap_set (heap_set g6 (i:=0) (.int .u64 0)) (i:=1) (.int .u64 0)
   have e0:=rA c6 0 rfl
   have e1:=rA c6 1 rfl
   refine bodyPost_ret (by simp[results,Tryz.results310,go_sem,e0,e1];rfl) rfl ?_
   exact⟨by rw[vz],q9.set (q9.set B0 (by omega) _) (by omega) _⟩
 ·have hcm:uf r d = -1:=by unfold uf;rw[if_pos (by omega)]
  by_cases hx0:x<0
  ·gi_wp2_with (gi_at_call 234;refine(LJ (n-1) r d _ (hG.bel ((((q9.refl w).alloc _).alloc _).alloc _)) (by omega) hd).mono ?_;rintro e w1 ⟨rfl,hw1⟩;rw[hcm];have g6:=sM (zz w _ _ _) hw1;have k0:=rA g6 0 rfl;have k1:=rA g6 1 rfl;have f0:=rY g6 0;have f1:=rY g6 1;have B0:q9 w w1:=((((q9.refl w).alloc _).alloc _).alloc _).trans hw1)
   have c6:=heap_set (heap_set g6 (i:=0) (.int .u64 0)) (i:=1) (.int .u64 0)
   have e0:=rA c6 0 rfl
   have e1:=rA c6 1 rfl
   refine bodyPost_ret (by simp[results,Tryz.results310,go_sem,e0,e1];rfl) rfl ?_
   exact⟨by rw[vz],q9.set (q9.set B0 (by omega) _) (by omega) _⟩
  ·have hx1:40000<x:=by omega
   gi_wp2_with (gi_at_call 234;refine(LJ (n-1) r d _ (hG.bel ((((q9.refl w).alloc _).alloc _).alloc _)) (by omega) hd).mono ?_;rintro e w1 ⟨rfl,hw1⟩;rw[hcm];have g6:=sM (zz w _ _ _) hw1;have k0:=rA g6 0 rfl;have k1:=rA g6 1 rfl;have f0:=rY g6 0;have f1:=rY g6 1;have B0:q9 w w1:=((((q9.refl w).alloc _).alloc _).alloc _).trans hw1)
   have c6:=heap_set (heap_set g6 (i:=0) (.int .u64 0)) (i:=1) (.int .u64 0)
   have e0:=rA c6 0 rfl
   have e1:=rA c6 1 rfl
   refine bodyPost_ret (by simp[results,Tryz.results310,go_sem,e0,e1];rfl) rfl ?_
   exact⟨by rw[vz],q9.set (q9.set B0 (by omega) _) (by omega) _⟩
open Go.RowKit
def Eg (r:Nat) (x:Int) (d:Nat):List Int:=match decide (r<d∧0≤x∧x≤40000) with
 | true=>oB (uK r x.toNat d).1 ++ [rZ (uK r x.toNat d).2,1]
 | false=>[0,0,0,0]
def Oq (l:List Int):List Int:=Eg (nB (rE l 0) (rE l 1)) (i64 (rE l 2)) (nB (rE l 3) (rE l 4))
abbrev CU:Ct:=⟨[.agg [kU,kU],.sc kI,.agg [kU,kU]],[.agg [kU,kU],.sc .bool,.sc .bool]⟩
theorem five {α:Type} {l:List α} (h:l.length=5):∃ a b c d e,l = [a,b,c,d,e]:=by match l,h with | [a,b,c,d,e],_=>exact⟨a,b,c,d,e,rfl⟩
theorem alp (a b c d e:Int):rV CU.a [a,b,c,d,e] = [vB (nB a b),.int .i64 (i64 c),vB (nB d e)]:=by
 obtain⟨n1,n0⟩:=Fv a b
 obtain⟨m1,m0⟩:=Fv d e
 simp only[CU,rV,uk,sP,tQ,yA,DW,Sh.kinds,List.drop_succ_cons,List.drop_zero,List.length_cons,List.length_nil,n1,n0,m1,m0]
theorem alq (q:Nat) (o:Bool):sW (rV CU.r (oB q ++ [rZ o,1])) = .tuple #[vB q,.bool o,.bool true]:=by
 rw[yC]
 simp only[CU,Cw,Cy,rV,uk,sP,tQ,yA,Sh.kinds,List.drop_succ_cons,List.drop_zero,List.length_cons,List.length_nil,yX,uz,sW]
 rfl
theorem alr:sW (rV CU.r [0,0,0,0]) = .tuple #[vB 0,.bool false,.bool false]:=by
 have zw:∀ j,wd 0 j=0:=fun j=>by unfold wd;simp
 have z:u64 0=0:=by decide
 simp only[CU,rV,uk,sP,tQ,yA,Sh.kinds,List.drop_succ_cons,List.drop_zero,List.length_cons,List.length_nil,sW,z,vB,zw]
 rfl
theorem aa2 {r d:Nat} {x:Int} (h:r<d∧0≤x∧x≤40000):Eg r x d=oB (uK r x.toNat d).1 ++ [rZ (uK r x.toNat d).2,1]:=by
 have:decide (r<d∧0≤x∧x≤40000)=true:=decide_eq_true h
 unfold Eg;rw[this]
theorem aa3 {r d:Nat} {x:Int} (h:¬ (r<d∧0≤x∧x≤40000)):Eg r x d = [0,0,0,0]:=by
 have:decide (r<d∧0≤x∧x≤40000)=false:=decide_eq_false h
 unfold Eg;rw[this]
theorem als (r:Nat) (x:Int) (d:Nat):(Eg r x d).length=4:=by
 by_cases h:r<d∧0≤x∧x≤40000
 ·rw[aa2 h,yC];rfl
 ·rw[aa3 h];rfl
theorem aa4 {args:List Value} {v:Value} (h:∀ w,Gl gG w→Calls Tryz.prog 310 args.toArray w fun e w'=>e = .returned v∧q9 w w'):PC Tryz.prog gG 310 args v:=fun w hG =>
 Dl Tryz.func310 (by kernel_rfl) (by kernel_rfl) (h w hG)
theorem alu (r d k:Nat) (hr:r<d) (hd:d<rD) (hk:k≤40000) (w:World) (hG:Gl gG w):Calls Tryz.prog 310 #[vB r,.int .i64 (k:Int),vB d] w fun e w'=>e = .returned (.tuple #[vB (uK r k d).1,.bool (uK r k d).2,.bool true])∧q9 w w' :=
 callsIn_wide.1 (aln 3 (Nat.le_refl _) r d k hr hd hk w hG)
theorem alv (r d:Nat) (x:Int) (hr:r<rD) (hd:d<rD) (hx:d≤r∨x<0∨40000<x) (w:World) (hG:Gl gG w):Calls Tryz.prog 310 #[vB r,.int .i64 x,vB d] w fun e w'=>e = .returned (.tuple #[vB 0,.bool false,.bool false])∧q9 w w' :=
 callsIn_wide.1 (alo 3 (Nat.le_refl _) r d x hr hd hx w hG)
theorem alx (r d:Nat) (x:Int) (hr:r<rD) (hd:d<rD):PC Tryz.prog gG 310 [vB r,.int .i64 x,vB d] (sW (rV CU.r (Eg r x d))):=by
 by_cases h:r<d∧0≤x∧x≤40000
 ·rw[aa2 h,alq]
  obtain⟨k,rfl⟩:∃ k:Nat,x=(k:Int):=⟨x.toNat,by omega⟩
  exact aa4 fun w hG=>alu r d k h.1 hd (by omega) w hG
 ·rw[aa3 h,alr]
  exact aa4 fun w hG=>alv r d x hr hd (by omega) w hG
theorem aa5 (a b c d e:Int):Oq [a,b,c,d,e]=Eg (nB a b) (i64 c) (nB d e):=by rw[Oq];simp only[Cz,CB]
theorem aly:rF Tryz.prog gG ⟨310,CU,Oq⟩:=by
 intro l hl
 obtain⟨a,b,c,d,e,rfl⟩:=five hl
 have h1:=als (nB a b) (i64 c) (nB d e)
 have h2:=alx (nB a b) (nB d e) (i64 c) (DX a b) (DX d e)
 rw[← alp,← aa5] at h2
 rw[← aa5] at h1
 exact⟨h1,h2⟩
end Go.Proofs.YtbembkamcdlhbaaGreatDoor
