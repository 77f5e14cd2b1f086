import Derived.Test.YtippohicjhilnaaGreatDoorWETr
import Derived.Test.YtippohicjhilnaaGreatDoorZ1Tr
import Derived.Test.YtippohicjhilnaaGreatDoorZETr
import Derived.Test.YtippohicjhilnaaGreatDoorZMTr
set_option linter.unusedSimpArgs false
set_option linter.unusedVariables false
set_option maxRecDepth 100000
set_option maxHeartbeats 4000000
open Go.Proofs.Tryz
namespace Go.Proofs.YtippohicjhilnaaGreatDoor
def Wt:List uL:=⟨146,Ia,VU⟩::CS
theorem ayw:∀ e∈Wt,uz prog gG e:=List.forall_mem_cons.2 ⟨avs,Sd⟩
open Go.RowKit
theorem ayx:zx (uI Wt M0 S1) eE:=EX ayw Hy Gu (by kernel_rfl)
def Qo:Ct:=⟨[.sc kB,.agg [kB,.bool],.agg [kU,kU],.agg [kU,kU]],[.agg [kU,kU,kB]]⟩
def aj9:tL SV :=
 (.ite dK jq (.ite jr jq (.call 76 jw 7 5 (.call 76 kv 12 5 (.ite (.bin .eql .u8 kw ja) (.ite kL (.call 2000077 [dI,ak,aA,aF,eD,aC] 17 4 (.ite jF mr (.ite kM oL oL))) (.call 2000077 [dI,oM,aA,aF,eD,aC] 17 4 (.ite jF mr (.ite kM oN oZ)))) (.call 2000077 mF 17 4 (.ite jF mr (.ite kM (.ite kL oL oN) (.ite kL oL oZ)))))))))
theorem ayy:uN (uI Wt M0 S1) 3000 94 (uF Qo.a (uC 0 (tO Qo.a))) (tO Qo.a).length=aj9:=by kernel_rfl
def aka:List Int->List Int:=uq (uy Wt M0 S1) Qo aj9
theorem akb:uz prog gG ⟨94,Qo,aka⟩:=F7 ayx 3000 ayy (by kernel_rfl)
open Go.RowKit Go.Shelf
attribute [local go_sem] Oper.semAt_some
theorem ayz (n:Nat) (hn:1<=n) {m b3 b5 b9:Nat} (r d:Nat) (o:Bool) (w:World) (hG:Gl gG w) (hr:r<d) (hd:d<uh) (hms:m<=w.heap.size) (hm3:m<=b3) (hm9:m<=b9) (n35:b3≠b5) (n39:b3≠b9) (n59:b5≠b9)
  (h3:w.heap[b3]? = some (.cells #[.int .u64 (wd r 1),.int .u64 (wd r 0)] 25 (0,0))) (h5:w.heap[b5]? = some (.cells #[.int .u64 (wd d 1),.int .u64 (wd d 0)] 25 (0,0))) (h9:w.heap[b9]? = some (.cells #[.bool o] 4 (0,0))) :
  CallsIn Fence.wide n prog 274 #[.pointer (some ⟨b3,0,none⟩),.pointer (some ⟨b5,0,none⟩),.pointer (some ⟨b9,0,none⟩)] w λe w'=>(∃ v,e = .returned v)/\Below m w w' /\
   w'.heap[b3]? = some (.cells #[.int .u64 (wd (Be r 0 d).1 1),.int .u64 (wd (Be r 0 d).1 0)] 25 (0,0))/\w'.heap[b5]? = some (.cells #[.int .u64 (wd d 1),.int .u64 (wd d 0)] 25 (0,0))/\w'.heap[b9]? = some (.cells #[.bool (Be r 0 d).2] 4 (0,0))/\(∀ B o,B≠b3->B≠b9->w.heap[B]? = some o->w'.heap[B]? = some o):=by
 refine callsIn_of_wp func274 rfl trivial ?_ rfl;simp only[ntmps274,List.size_toArray,List.length_cons,List.length_nil,Nat.reduceAdd,Nat.reduceSub,Array.replicate_succ,Array.replicate_zero,List.push_toArray,List.append_toArray,List.nil_append,List.cons_append];have e30:=um h3 0 rfl;have e31:=um h3 1 rfl;have e50:=um h5 0 rfl;have e51:=um h5 1 rfl;have hnx:=ave (n-1) r d w hG hr hd;have h76:Fence.wide.fn 220:=trivial
 gi_wp2_with (gi_at_call 220;refine hnx.mono ?_;rintro e w3 ⟨rfl,hw3⟩;have g3:=vF h3 hw3;have g5:=vF h5 hw3;have g9:=vF h9 hw3;have k0:=um g3 0 rfl;have k1:=um g3 1 rfl;have k2:=uR g3 0;have k3:=uR g3 1;have k4:=um g9 0 rfl;have k5:=uR g9 0)
 go_end0
 have hb3:m<=b3:=hm3;refine⟨⟨_,rfl⟩,Below.setCell (Below.setCell (Below.setCell (Below.mono hw3 hms) hm3 _) hm3 _) hm9 _,?_,?_,?_,λB o x3 x9 h=>uB (uB (uB (vF h hw3) _ _ x3) _ _ x3) _ _ x9⟩
 ·exact uB (heap_set (heap_set g3 _) _) _ _ n39
 ·exact uB (uB (uB g5 _ _ (Ne.symm n35)) _ _ (Ne.symm n35)) _ _ n59
 ·exact heap_set (uB (uB g9 _ _ (Ne.symm n39)) _ _ (Ne.symm n39)) _
def uo (r n d:Nat):Nat×Bool:=(r*2^n%d,decide (r*2^n/d%2=1))
theorem Wu {r d:Nat} (h:r<d):uo r 0 d=(r,false):=by unfold uo;rw[Nat.pow_zero,Nat.mul_one,Nat.mod_eq_of_lt h,Nat.div_eq_of_lt h];rfl
theorem akc {r n d:Nat} (h:0<d):(uo r n d).1<d:=Nat.mod_lt _ h
theorem ayA {r n d:Nat} (h:0<d):Be (uo r n d).1 0 d=uo r (n+1) d:=by
 unfold Be uo;simp only;rw[Nat.pow_succ,<- Nat.mul_assoc];generalize r*2^n=x;have e:=Nat.div_add_mod x d;have hl:=Nat.mod_lt x h;generalize x%d=y at *
 generalize x/d=q at *
 by_cases hc:d<=2*y
 ·rw[if_pos (by omega)];have e2:x*2=(2*y-d)+d*(2*q+1):=by rw[<- e,Nat.mul_add,Nat.mul_comm 2 q,<- Nat.mul_assoc,Nat.mul_one];omega
  rw[e2,Nat.add_mul_mod_self_left,Nat.add_mul_div_left _ _ h,Nat.mod_eq_of_lt (by omega),Nat.div_eq_of_lt (by omega)];simp only[Prod.mk.injEq];exact⟨by omega,by symm;rw[decide_eq_true_iff];omega⟩
 ·rw[if_neg (by omega)];have e2:x*2=(2*y)+d*(2*q):=by rw[<- e,Nat.mul_comm 2 q,<- Nat.mul_assoc];omega
  rw[e2,Nat.add_mul_mod_self_left,Nat.add_mul_div_left _ _ h,Nat.mod_eq_of_lt (by omega),Nat.div_eq_of_lt (by omega)];simp only[Prod.mk.injEq];exact⟨by omega,by symm;rw[decide_eq_false_iff_not];omega⟩
theorem SL (m r d:Nat) (w:World) (hG:Gl gG w) (hr:r<uh) (hd:d<uh):CallsIn Fence.wide m prog 156 #[vB r,vB d] w λe w'=>e = .returned (.int .i64 (vN r d))/\tQ w w':=callsIn_wide.2 (by
 have h:=JS (ahJ [wd r 1,wd r 0,wd d 1,wd d 0] rfl).2 func156 (by kernel_rfl) (by kernel_rfl) w hG;simp only[] at h;rw[aaQ,vv hr,vv hd] at h
 have hc:IntKind.i64.wrap (vN r d)=vN r d:=by
  unfold vN;by_cases h1:r<d
  ·rw[if_pos h1];decide
  ·rw[if_neg h1];by_cases h2:d<r
   ·rw[if_pos h2];decide
   ·rw[if_neg h2];decide
 simp only[Lt,uP,wR,uT,wB,Sh.kinds,List.drop_succ_cons,List.drop_zero,List.length_cons,List.length_nil,xL,zT,vP,hc] at h
 exact h)
theorem ayB (n:Nat) (hn:3<=n) (r d k:Nat) (hr:r<d) (hd:d<uh) (hk:k<=40000) (w:World) (hG:Gl gG w) :
  CallsIn Fence.wide n prog 230 #[vB r,.int .i64 (k:Int),vB d] w λe w'=>e = .returned (.tuple #[vB (uo r k d).1,.bool (uo r k d).2,.bool true])/\tQ w w':=by
 have hn1:1<=n:=by omega
 have h30:Fence.wide.fn 156:=trivial;have h119:Fence.wide.fn 274:=trivial;refine callsIn_of_wp func230 rfl trivial ?_ rfl;simp only[ntmps230,List.size_toArray,List.length_cons,List.length_nil,Nat.reduceAdd,Nat.reduceSub,Array.replicate_succ,Array.replicate_zero,List.push_toArray,List.append_toArray,List.nil_append,List.cons_append];have hcm:vN r d = -1:=by unfold vN;rw[if_pos hr]
 have q1:¬ ((k:Int)<0):=by omega
 have q2:¬ ((k:Int)>40000):=by omega
 have q3:¬ ((40000:Int)<(k:Int)):=by omega
 gi_wp2_with (gi_at_call 156;refine(SL (n-1) r d _ (hG.bel ((((tQ.refl w).alloc _).alloc _).alloc _)) (by omega) hd).mono ?_;rintro e w1 ⟨rfl,hw1⟩;rw[hcm])
 rw[decide_eq_false (show ¬ ((k:Int)<0) by omega),decide_eq_false (show ¬ ((40000:Int)<(k:Int)) by omega),Bool.or_false];have s1:w.heap.size+1+1<w1.heap.size:=Iz (vF (Dc w _ _ _) hw1);have B0:tQ w (w1.alloc (Obj.cells #[Value.bool false] 4)):=((((tQ.refl w).alloc _).alloc _).alloc _).trans hw1 |>.alloc _;have g3:(w1.alloc (Obj.cells #[Value.bool false] 4)).heap[w.heap.size]? = some (.cells #[.int .u64 (wd r 1),.int .u64 (wd r 0)] 25 (0,0)):=heap_alloc (vF (heap_alloc (heap_alloc (GG w _) _) _) hw1) _;have g5:(w1.alloc (Obj.cells #[Value.bool false] 4)).heap[w.heap.size+1]? = some (.cells #[.int .u64 (wd d 1),.int .u64 (wd d 0)] 25 (0,0)):=heap_alloc (vF (heap_alloc (Qw w _ _) _) hw1) _;have g6:(w1.alloc (Obj.cells #[Value.bool false] 4)).heap[w.heap.size+1+1]? = some (.cells #[.int .u64 0,.int .u64 0] 25 (0,0)):=heap_alloc (vF (Dc w _ _ _) hw1) _;have g9:(w1.alloc (Obj.cells #[Value.bool false] 4)).heap[w1.heap.size]? = some (.cells #[.bool false] 4 (0,0)):=GG _ _;generalize w1.heap.size=b9 at *
 generalize w1.alloc (Obj.cells #[Value.bool false] 4)=w2 at *
 gi_loopw [26] (λi wr=>∃ j:Nat,j<=k/\i = .int .i64 (j:Int)/\Below w.heap.size w wr/\wr.heap[w.heap.size]? = some (.cells #[.int .u64 (wd (uo r j d).1 1),.int .u64 (wd (uo r j d).1 0)] 25 (0,0)) /\
   wr.heap[w.heap.size+1]? = some (.cells #[.int .u64 (wd d 1),.int .u64 (wd d 0)] 25 (0,0))/\wr.heap[w.heap.size+1+1]? = some (.cells #[.int .u64 0,.int .u64 0] 25 (0,0))/\wr.heap[b9]? = some (.cells #[.bool (uo r j d).2] 4 (0,0)))
  (λi _=>((k:Int)-intOf i).toNat)
 case atStart=>exact⟨0,Nat.zero_le _,rfl,B0,by rw[Wu hr];exact g3,g5,g6,by rw[Wu hr];exact g9⟩
 case round =>
  obtain⟨j,hj,rfl,hB,c3,c5,c6,c9⟩:=hrel;by_cases hlt:j<k
  ·have q4:(j:Int)<(k:Int):=by omega
   have hst:=ayz (n-1) (by omega) (m:=w.heap.size) (b3:=w.heap.size) (b5:=w.heap.size+1) (b9:=b9) (uo r j d).1 d (uo r j d).2 wr (hG.bel hB) (akc (by omega)) hd hB.size (Nat.le_refl _) (by omega) (by omega) (by omega) (by omega) c3 c5 c9;rw[ayA (show 0<d by omega)] at hst
   gi_wp2_with (gi_at_call 274;refine hst.mono ?_;rintro e w4 ⟨⟨v4,rfl⟩,hw4,d3,d5,d9,dk⟩)
   go_roundw
   case rel=>exact⟨j+1,by omega,by congr 1,Below.trans hB hw4,d3,d5,dk _ _ (by omega) (by omega) c6,d9⟩
   case measure=>simp[intOf];omega
  ·obtain rfl:j=k:=by omega
   gi_wp2
   refine Iy (λ(L:Nat->Bool) (A:Act) (W:World)=>∃ u31 u32 u7 u8:Value,A=⟨#[vB r,Value.int IntKind.i64 ↑j,vB d,Value.pointer (some { block:=w.heap.size,off:=0 }),undef,Value.pointer (some { block:=w.heap.size+1,off:=0 }),Value.pointer (some { block:=w.heap.size+1+1,off:=0 }),u7,u8,Value.pointer (some { block:=b9,off:=0 }),Value.func (Fn.func 274) #[] #[Value.pointer (some { block:=w.heap.size,off:=0 }),Value.pointer (some { block:=w.heap.size+1,off:=0 }),Value.pointer (some { block:=b9,off:=0 })],Value.agg #[Value.int IntKind.u64 (wd r 1),Value.int IntKind.u64 (wd r 0)],Value.agg #[Value.int IntKind.u64 (wd d 1),Value.int IntKind.u64 (wd d 0)],Value.int IntKind.i64 (-1),Value.bool false,Value.bool false,Value.int IntKind.i64 ↑j,Value.bool false,Value.bool false,Value.bool false,Value.int IntKind.i64 ↑j,Value.bool false,Value.bool false,undef,Value.func (Fn.func 274) #[] #[Value.pointer (some { block:=w.heap.size,off:=0 }),Value.pointer (some { block:=w.heap.size+1,off:=0 }),Value.pointer (some { block:=b9,off:=0 })],Value.int IntKind.i64 ↑j,Value.int IntKind.i64 ↑j,Value.bool false,u28,u29,u30,u31,u32],[]⟩/\tQ w W/\W.heap[w.heap.size]? = some (.cells #[.int .u64 (wd (uo r j d).1 1),.int .u64 (wd (uo r j d).1 0)] 25 (0,0))/\W.heap[w.heap.size+1+1]? = some (.cells (bif L 2 then #[.int .u64 (wd (uo r j d).1 1),.int .u64 (wd (uo r j d).1 0)] else #[.int .u64 0,.int .u64 0]) 25 (0,0))/\W.heap[b9]? = some (.cells #[.bool (uo r j d).2] 4 (0,0))/\(L 0=true->u31 = .agg #[.int .u64 (wd (uo r j d).1 1),.int .u64 (wd (uo r j d).1 0)])/\(L 1=true->u32 = .bool (uo r j d).2)/\(L 3=true->u7 = .bool (uo r j d).2)/\(L 4=true->u8=(Value.bool true))) (by kernel_rfl) (by kernel_rfl) ?h0 ⟨?s0,?s1,?s2,?s3,?s4,trivial⟩ ?hd
   case h0 =>
    exact⟨_,_,_,_,rfl,(tQ.drew hB),c3,c6,c9,λh=>absurd h Bool.false_ne_true,λh=>absurd h Bool.false_ne_true,λh=>absurd h Bool.false_ne_true,λh=>absurd h Bool.false_ne_true⟩
   case s0 =>
    rintro L _ W K ⟨u31,u32,u7,u8,rfl,hb,c3,c6,c9,f0,f1,f3,f4⟩ hL hD hN hK;refine uX (uW rfl) ?_;have e0:=um c3 0 rfl;have e1:=um c3 1 rfl;have hf:=uR c3 0
    go_simp
    refine hK _ _ ⟨_,_,_,_,rfl,hb,c3,c6,c9,λ_=>rfl,f1,f3,f4⟩
   case s1 =>
    rintro L _ W K ⟨u31,u32,u7,u8,rfl,hb,c3,c6,c9,f0,f1,f3,f4⟩ hL hD hN hK;refine uX (uW rfl) ?_;have e0:=um c9 0 rfl;have hf:=uR c9 0
    go_simp
    refine hK _ _ ⟨_,_,_,_,rfl,hb,c3,c6,c9,f0,λ_=>rfl,f3,f4⟩
   case s2 =>
    rintro L _ W K ⟨u31,u32,u7,u8,rfl,hb,c3,c6,c9,f0,f1,f3,f4⟩ hL hD hN hK;obtain rfl:=f0 (hD 0 (by kernel_rfl));refine uX (uW rfl) ?_;have hz:L 2=false:=hL;rw[hz] at c6;have e0:=um c6 0 (rfl);have h0:=uR c6 0;have e1:=um c6 1 (rfl);have h1:=uR c6 1
    go_simp
    refine hK _ _ ⟨_,_,_,_,rfl,(tQ.set (tQ.set hb (by omega) _) (by omega) _),(uB (uB c3 _ _ (show w.heap.size≠w.heap.size+1+1 by omega)) _ _ (show w.heap.size≠w.heap.size+1+1 by omega)),(heap_set (heap_set c6 _) _),(uB (uB c9 _ _ (show b9≠w.heap.size+1+1 by omega)) _ _ (show b9≠w.heap.size+1+1 by omega)),f0,f1,f3,f4⟩
   case s3 =>
    rintro L _ W K ⟨u31,u32,u7,u8,rfl,hb,c3,c6,c9,f0,f1,f3,f4⟩ hL hD hN hK;obtain rfl:=f1 (hD 1 (by kernel_rfl));refine uX (uW rfl) ?_
    go_simp
    refine hK _ _ ⟨_,_,_,_,rfl,hb,c3,c6,c9,f0,f1,λ_=>rfl,f4⟩
   case s4 =>
    rintro L _ W K ⟨u31,u32,u7,u8,rfl,hb,c3,c6,c9,f0,f1,f3,f4⟩ hL hD hN hK;refine uX (uW rfl) ?_
    go_simp
    refine hK _ _ ⟨_,_,_,_,rfl,hb,c3,c6,c9,f0,f1,f3,λ_=>rfl⟩
   case hd =>
    rintro L _ W ⟨u31,u32,u7,u8,rfl,hb,c3,c6,c9,f0,f1,f3,f4⟩ hall;rw[hall 2 (by decide)] at c6;obtain rfl:=f0 (hall 0 (by decide));obtain rfl:=f1 (hall 1 (by decide));obtain rfl:=f3 (hall 3 (by decide));obtain rfl:=f4 (hall 4 (by decide));have e0:=um c6 0 rfl;have e1:=um c6 1 rfl
    gi_wp2
    refine bodyPost_ret (by simp[results,results230,go_sem,e0,e1];rfl) rfl ?_;exact⟨rfl,hb⟩
theorem ayC (n:Nat) (hn:3<=n) (r d:Nat) (x:Int) (hr:r<uh) (hd:d<uh) (hx:d<=r\/x<0\/40000<x) (w:World) (hG:Gl gG w) :
  CallsIn Fence.wide n prog 230 #[vB r,.int .i64 x,vB d] w λe w'=>e = .returned (.tuple #[vB 0,.bool false,.bool false])/\tQ w w':=by
 have hn1:1<=n:=by omega
 have h30:Fence.wide.fn 156:=trivial;refine callsIn_of_wp func230 rfl trivial ?_ rfl;simp only[ntmps230,List.size_toArray,List.length_cons,List.length_nil,Nat.reduceAdd,Nat.reduceSub,Array.replicate_succ,Array.replicate_zero,List.push_toArray,List.append_toArray,List.nil_append,List.cons_append];have zw:∀ j,wd 0 j=0:=λj=>by unfold wd;simp
 have vz:vB 0 = .agg #[.int .u64 0,.int .u64 0]:=by unfold vB;rw[zw,zw]
 by_cases hrd:d<=r
 ·by_cases hlt:d<r
  ·have hcm:vN r d=1:=by unfold vN;rw[if_neg (by omega),if_pos hlt]
   gi_wp2_with (gi_at_call 156;refine(SL (n-1) r d _ (hG.bel ((((tQ.refl w).alloc _).alloc _).alloc _)) (by omega) hd).mono ?_;rintro e w1 ⟨rfl,hw1⟩;rw[hcm];have g6:=vF (Dc w _ _ _) hw1;have k0:=um g6 0 rfl;have k1:=um g6 1 rfl;have f0:=uR g6 0;have f1:=uR g6 1;have B0:tQ w w1:=((((tQ.refl w).alloc _).alloc _).alloc _).trans hw1)
   have c6:=heap_set (heap_set g6 (i:=0) (.int .u64 0)) (i:=1) (.int .u64 0);have e0:=um c6 0 rfl;have e1:=um c6 1 rfl;refine bodyPost_ret (by simp[results,results230,go_sem,e0,e1];rfl) rfl ?_;exact⟨by rw[vz],tQ.set (tQ.set B0 (by omega) _) (by omega) _⟩
  ·have hcm:vN r d=0:=by unfold vN;rw[if_neg (by omega),if_neg hlt]
   gi_wp2_with (gi_at_call 156;refine(SL (n-1) r d _ (hG.bel ((((tQ.refl w).alloc _).alloc _).alloc _)) (by omega) hd).mono ?_;rintro e w1 ⟨rfl,hw1⟩;rw[hcm];have g6:=vF (Dc w _ _ _) hw1;have k0:=um g6 0 rfl;have k1:=um g6 1 rfl;have f0:=uR g6 0;have f1:=uR g6 1;have B0:tQ w w1:=((((tQ.refl w).alloc _).alloc _).alloc _).trans hw1)
   have c6:=heap_set (heap_set g6 (i:=0) (.int .u64 0)) (i:=1) (.int .u64 0);have e0:=um c6 0 rfl;have e1:=um c6 1 rfl;refine bodyPost_ret (by simp[results,results230,go_sem,e0,e1];rfl) rfl ?_;exact⟨by rw[vz],tQ.set (tQ.set B0 (by omega) _) (by omega) _⟩
 ·have hcm:vN r d = -1:=by unfold vN;rw[if_pos (by omega)]
  by_cases hx0:x<0
  ·gi_wp2_with (gi_at_call 156;refine(SL (n-1) r d _ (hG.bel ((((tQ.refl w).alloc _).alloc _).alloc _)) (by omega) hd).mono ?_;rintro e w1 ⟨rfl,hw1⟩;rw[hcm];have g6:=vF (Dc w _ _ _) hw1;have k0:=um g6 0 rfl;have k1:=um g6 1 rfl;have f0:=uR g6 0;have f1:=uR g6 1;have B0:tQ w w1:=((((tQ.refl w).alloc _).alloc _).alloc _).trans hw1)
   have c6:=heap_set (heap_set g6 (i:=0) (.int .u64 0)) (i:=1) (.int .u64 0);have e0:=um c6 0 rfl;have e1:=um c6 1 rfl;refine bodyPost_ret (by simp[results,results230,go_sem,e0,e1];rfl) rfl ?_;exact⟨by rw[vz],tQ.set (tQ.set B0 (by omega) _) (by omega) _⟩
  ·have hx1:40000<x:=by omega
   gi_wp2_with (gi_at_call 156;refine(SL (n-1) r d _ (hG.bel ((((tQ.refl w).alloc _).alloc _).alloc _)) (by omega) hd).mono ?_;rintro e w1 ⟨rfl,hw1⟩;rw[hcm];have g6:=vF (Dc w _ _ _) hw1;have k0:=um g6 0 rfl;have k1:=um g6 1 rfl;have f0:=uR g6 0;have f1:=uR g6 1;have B0:tQ w w1:=((((tQ.refl w).alloc _).alloc _).alloc _).trans hw1)
   have c6:=heap_set (heap_set g6 (i:=0) (.int .u64 0)) (i:=1) (.int .u64 0);have e0:=um c6 0 rfl;have e1:=um c6 1 rfl;refine bodyPost_ret (by simp[results,results230,go_sem,e0,e1];rfl) rfl ?_;exact⟨by rw[vz],tQ.set (tQ.set B0 (by omega) _) (by omega) _⟩
def Ka (r:Nat) (x:Int) (d:Nat):List Int:=match decide (r<d/\0<=x/\x<=40000) with
 | true=>oB (uo r x.toNat d).1 ++ [ui (uo r x.toNat d).2,1]
 | false=>[0,0,0,0]
def Me (l:List Int):List Int:=Ka (nB (ul l 0) (ul l 1)) (i64 (ul l 2)) (nB (ul l 3) (ul l 4))
abbrev Ip:Ct:=⟨[.agg [kU,kU],.sc kI,.agg [kU,kU]],[.agg [kU,kU],.sc .bool,.sc .bool]⟩
theorem five {α:Type} {l:List α} (h:l.length=5):∃ a b c d e,l = [a,b,c,d,e]:=by match l,h with | [a,b,c,d,e],_=>exact⟨a,b,c,d,e,rfl⟩
theorem ayD (a b c d e:Int):uP Ip.a [a,b,c,d,e] = [vB (nB a b),.int .i64 (i64 c),vB (nB d e)]:=by obtain⟨n1,n0⟩:=Jn a b;obtain⟨m1,m0⟩:=Jn d e;simp only[Ip,uP,wR,uT,wB,xL,Fb,Sh.kinds,List.drop_succ_cons,List.drop_zero,List.length_cons,List.length_nil,n1,n0,m1,m0]
theorem ayE (q:Nat) (o:Bool):vP (uP Ip.r (oB q ++ [ui o,1])) = .tuple #[vB q,.bool o,.bool true]:=by rw[uV];simp only[Ip,vK,vL,uP,wR,uT,wB,xL,Sh.kinds,List.drop_succ_cons,List.drop_zero,List.length_cons,List.length_nil,zT,xe,vP];rfl
theorem ayF:vP (uP Ip.r [0,0,0,0]) = .tuple #[vB 0,.bool false,.bool false]:=by
 have zw:∀ j,wd 0 j=0:=λj=>by unfold wd;simp
 have z:u64 0=0:=by decide
 simp only[Ip,uP,wR,uT,wB,xL,Sh.kinds,List.drop_succ_cons,List.drop_zero,List.length_cons,List.length_nil,vP,z,vB,zw];rfl
theorem acH {r d:Nat} {x:Int} (h:r<d/\0<=x/\x<=40000):Ka r x d=oB (uo r x.toNat d).1 ++ [ui (uo r x.toNat d).2,1]:=by have:decide (r<d/\0<=x/\x<=40000)=true:=decide_eq_true h;unfold Ka;rw[this]
theorem akd {r d:Nat} {x:Int} (h:¬ (r<d/\0<=x/\x<=40000)):Ka r x d = [0,0,0,0]:=by have:decide (r<d/\0<=x/\x<=40000)=false:=decide_eq_false h;unfold Ka;rw[this]
theorem ayG (r:Nat) (x:Int) (d:Nat):(Ka r x d).length=4:=by
 by_cases h:r<d/\0<=x/\x<=40000
 ·rw[acH h,uV];rfl
 ·rw[akd h];rfl
theorem ake {args:List Value} {v:Value} (h:∀ w,Gl gG w->Calls prog 230 args.toArray w λe w'=>e = .returned v/\tQ w w'):PC prog gG 230 args v:=λw hG =>
 DT func230 (by kernel_rfl) (by kernel_rfl) (h w hG)
theorem ayH (r d k:Nat) (hr:r<d) (hd:d<uh) (hk:k<=40000) (w:World) (hG:Gl gG w):Calls prog 230 #[vB r,.int .i64 (k:Int),vB d] w λe w'=>e = .returned (.tuple #[vB (uo r k d).1,.bool (uo r k d).2,.bool true])/\tQ w w' :=
 callsIn_wide.1 (ayB 3 (Nat.le_refl _) r d k hr hd hk w hG)
theorem ayI (r d:Nat) (x:Int) (hr:r<uh) (hd:d<uh) (hx:d<=r\/x<0\/40000<x) (w:World) (hG:Gl gG w):Calls prog 230 #[vB r,.int .i64 x,vB d] w λe w'=>e = .returned (.tuple #[vB 0,.bool false,.bool false])/\tQ w w' :=
 callsIn_wide.1 (ayC 3 (Nat.le_refl _) r d x hr hd hx w hG)
theorem ayJ (r d:Nat) (x:Int) (hr:r<uh) (hd:d<uh):PC prog gG 230 [vB r,.int .i64 x,vB d] (vP (uP Ip.r (Ka r x d))):=by
 by_cases h:r<d/\0<=x/\x<=40000
 ·rw[acH h,ayE];obtain⟨k,rfl⟩:∃ k:Nat,x=(k:Int):=⟨x.toNat,by omega⟩;exact ake λw hG=>ayH r d k h.1 hd (by omega) w hG
 ·rw[akd h,ayF];exact ake λw hG=>ayI r d x hr hd (by omega) w hG
theorem acI (a b c d e:Int):Me [a,b,c,d,e]=Ka (nB a b) (i64 c) (nB d e):=by rw[Me];simp only[vU,vV]
theorem ayK:uz prog gG ⟨230,Ip,Me⟩:=by intro l hl;obtain⟨a,b,c,d,e,rfl⟩:=five hl;have h1:=ayG (nB a b) (i64 c) (nB d e);have h2:=ayJ (nB a b) (nB d e) (i64 c) (Ff a b) (Ff d e);rw[<- ayD,<- acI] at h2;rw[<- acI] at h1;exact⟨h1,h2⟩
def Bj:List uL:=⟨230,Ip,Me⟩::CS
theorem ayL:∀ e∈Bj,uz prog gG e:=List.forall_mem_cons.2 ⟨ayK,Sd⟩
theorem ayM:zx (uI Bj M0 S1) eE:=EX ayL Hy Gu (by kernel_rfl)
def Iq:Ct:=⟨[.sc kB,.agg [kU,kU],.agg [kU,kU]],[.agg [kU,kU,kB]]⟩
noncomputable def Da:tL SV:=uN (uI Bj M0 S1) 3000 100 (uF Iq.a (uC 0 (tO Iq.a))) (tO Iq.a).length
def akf:tL SV :=
 jq
theorem ayN:Da.th=akf:=by kernel_rfl
def akg:tL SV :=
 (.call 2000077 [dI,ag,ai,aB,aA,aF] 16 4 (.ite j6 (.leaf (.agg [jc,(.int .u64 fq),(.int .u8 (.var kB 18))])) (.ite dS o9 (.ite lg o9 (.ite pq o9 (.ite pu (.call 152 [eQ,eT] 20 4 (.call 156 pz 24 1 (.ite (.bin .gtr .i64 (.var kI 24) ag) (.call 152 [eY,fB] 25 4 (.call 152 [eY,fB] 29 4 (.call 157 [jQ,jS,jT,mI,jU,jW,mK,mM] 33 5 (.call 158 [mO,nC,mY,mQ,ig,fC,fG,fI] 38 5 (.call 132 [(.var kU 38),nG,nQ,nR] 43 1 (.call 134 [dI,di,ag,(.not (.beq iJ (.not (.var .bool 43)))),pE,(.var kU 38),nG,nQ,nR] 44 3 (.ite (.bin .neq .u8 (.var kB 46) ag) jq (.leaf (.agg [nS,nT,iE]))))))))) (.call 134 [dI,di,ag,pF,pE,ig,fC,fG,fI] 25 3 (.ite pG jq (.leaf (.agg [(.int .u64 jQ),kQ,iE]))))))) (.call 229 pz 20 3 (.ite (.not (.var .bool 22)) (.ite pJ (.call 230 [ig,fC,pI,eY,fB] 23 4 pQ) (.call 229 [eY,fB,ig,fC] 23 3 (.call 156 [ig,fC,fI,fK] 26 1 (.ite pR pW (.ite pY pW (.call 152 [ig,fC] 27 4 qf)))))) (.ite pJ (.call 230 [eQ,eT,pI,eY,fB] 23 4 pQ) (.call 229 [eY,fB,eQ,eT] 23 3 (.call 156 [eQ,eT,fI,fK] 26 1 (.ite pR pW (.ite pY qg qg)))))))))))))
theorem ayO:Da.el.nx.nx.nx.th=akg:=by kernel_rfl
def akh:tL SV :=
 (.call 2000077 [dI,ag,ai,aB,aA,aF] 17 4 qE)
theorem ayP:Da.el.nx.nx.nx.el.nx.th=akh:=by kernel_rfl
def aki:tL SV :=
 (.call 2000077 [dI,ak,ai,aB,aA,aF] 17 4 (.ite jF mr qD))
theorem ayQ:Da.el.nx.nx.nx.el.nx.el.th=aki:=by kernel_rfl
def akj:tL SV :=
 (.call 2000077 [dI,(.bin .eql .u8 (.var kB 11) ag),ai,aB,aA,aF] 17 4 qE)
theorem ayR:Da.el.nx.nx.nx.el.nx.el.el=akj:=by kernel_rfl
def Wv:tL SV :=
 (.ite dK akf (.call 76 iV 5 5 (.call 76 jw 10 5 (.call 14 iV 15 1 (.ite lI akg (.call 14 jw 16 1 (.ite lL akh (.ite dX aki akj))))))))
theorem ayS:uN (uI Bj M0 S1) 3000 100 (uF Iq.a (uC 0 (tO Iq.a))) (tO Iq.a).length=Wv:=(show Da=Wv from(WA (T:=Da) (c:=(.not (.bin .lss .i64 (.var kB 0) (.lit 4)))) (by kernel_rfl) ayN (WB (T:=Da.el) (q:=(76,[(.var kB 0),(.var kU 1),(.var kU 2)],5,5)) (by kernel_rfl) (WB (T:=Da.el.nx) (q:=(76,[(.var kB 0),(.var kU 3),(.var kU 4)],10,5)) (by kernel_rfl) (WB (T:=Da.el.nx.nx) (q:=(14,[(.var kB 0),(.var kU 1),(.var kU 2)],15,1)) (by kernel_rfl) (WA (T:=Da.el.nx.nx.nx) (c:=(.var .bool 15)) (by kernel_rfl) ayO (WB (T:=Da.el.nx.nx.nx.el) (q:=(14,[(.var kB 0),(.var kU 3),(.var kU 4)],16,1)) (by kernel_rfl) (WA (T:=Da.el.nx.nx.nx.el.nx) (c:=(.var .bool 16)) (by kernel_rfl) ayP (WA (T:=Da.el.nx.nx.nx.el.nx.el) (c:=(.bin .eql .u8 (.var kB 6) (.lit 3))) (by kernel_rfl) ayQ ayR)))))))))
def Qp:List Int->List Int:=uq (uy Bj M0 S1) Iq Wv
theorem akk:uz prog gG ⟨100,Iq,Qp⟩:=F7 ayM 3000 ayS (by kernel_rfl)
theorem akl:uy Bj M0 S1 76=Ex:=vo (e:=⟨76,_,Ex⟩) rfl rfl rfl
theorem akm:uy Bj M0 S1 14=BC:=vo (e:=⟨14,_,BC⟩) rfl rfl rfl
theorem Ww:uy Bj M0 S1 2000077=FB:=UH (e:=⟨77,_,FB⟩) rfl
theorem acJ:uy Bj M0 S1 8=Dy:=vo (e:=⟨8,_,Dy⟩) rfl rfl rfl
theorem Bl:uy Bj M0 S1 152=Ll:=vo (e:=⟨152,_,Ll⟩) rfl rfl rfl
theorem SN:uy Bj M0 S1 156=H8:=vo (e:=⟨156,_,H8⟩) rfl rfl rfl
theorem ayT:uy Bj M0 S1 157=En:=vo (e:=⟨157,_,En⟩) rfl rfl rfl
theorem ayU:uy Bj M0 S1 158=Gc:=vo (e:=⟨158,_,Gc⟩) rfl rfl rfl
theorem Kb:uy Bj M0 S1 132=Ci:=vo (e:=⟨132,_,Ci⟩) rfl rfl rfl
theorem BI:uy Bj M0 S1 134=DD:=vo (e:=⟨134,_,DD⟩) rfl rfl rfl
theorem SQ:uy Bj M0 S1 229=Gn:=vo (e:=⟨229,_,Gn⟩) rfl rfl rfl
theorem akn:uy Bj M0 S1 230=Me:=vo (e:=⟨230,_,Me⟩) rfl rfl rfl
end Go.Proofs.YtippohicjhilnaaGreatDoor
