import Derived.Test.YtbembkamcdlhbaaGreatDoorWASb
import Derived.Test.YtbembkamcdlhbaaGreatDoorWESb
import Derived.Test.YtbembkamcdlhbaaGreatDoorZBSb
import Derived.Test.YtbembkamcdlhbaaGreatDoorZGSb
import Derived.Test.YtbembkamcdlhbaaGreatDoorZNSb
import Derived.Test.YtbembkamcdlhbaaGreatDoorZRSb
import Derived.Test.YtbembkamcdlhbaaGreatDoorSxHSb
import Derived.Test.YtbembkamcdlhbaaGreatDoorH1Sb
import Derived.Test.YtbembkamcdlhbaaGreatDoorK1Sb
set_option linter.unusedSimpArgs false
set_option linter.unusedVariables false
set_option maxRecDepth 100000
set_option maxHeartbeats 4000000
namespace Go.Proofs.YtbembkamcdlhbaaGreatDoor
open Go.RowKit Go.Shelf
attribute [local go_sem] Oper.semAt_some
def xc:Nat→List (Fin 128)
 | 0=>[]
 | k+1=>if h:k<128 then xc k ++ [⟨k,h⟩] else xc k
theorem RF {k:Nat} (hk:k<128):xc (k+1)=xc k ++ [⟨k,hk⟩]:=by simp[xc,hk]
theorem YT:∀ k,k≤128→(xc k).length=k
 | 0,_=>rfl
 | k+1,h=>by rw[RF (by omega),List.length_append,YT k (by omega)];rfl
theorem Ns {k:Nat} (h:k<128):2^k<rE:=by rw[LV];exact Nat.pow_lt_pow_right (by decide) h
theorem ahZ (m k:Nat) (hk:k<128) (w:World) (hG:Gl gG w):CallsIn Fence.wide m Tryz.prog 74 #[.agg #[.int .u64 0,.int .u64 1],.int .i64 (127-(k:Int))] w fun e w'=>e = .returned (vB (2^(127-k)))∧rq w w':=callsIn_wide.2 (by
 have h:=DK (VW [0,1,127-(k:Int)] rfl).2 Tryz.func74 (by kernel_rfl) (by kernel_rfl) w hG
 simp only[] at h
 have e0:nB 0 1=1:=by unfold nB;rw[show u64 0=0 from by decide,show u64 1=1 from by decide];rfl
 have e1:i64 (127-(k:Int))=((127-k:Nat):Int):=by rw[IL (by omega) (by omega)];omega
 rw[agL,e0,e1,Int.toNat_natCast,Nat.one_mul,Nat.mod_eq_of_lt (Ns (by omega)),yj] at h
 have z0:u64 0=0:=by decide
 have z1:u64 1=1:=by decide
 have e2:i64 (127-(k:Int))=127-(k:Int):=IL (by omega) (by omega)
 simpa only[EK,rX,ul,sP,tN,Sh.kinds,List.drop_succ_cons,List.drop_zero,List.length_cons,List.length_nil,yh,EQ,yL,tq,z0,z1,e2] using h)
theorem YU (m a b:Nat) (ha:a<rE) (hb:b<rE) (w:World) (hG:Gl gG w):CallsIn Fence.wide m Tryz.prog 298 #[vB a,vB b] w fun e w'=>e = .returned (vW (a*b))∧rq w w':=callsIn_wide.2 (by
 have h:=DK (Wt [wd a 1,wd a 0,wd b 1,wd b 0] rfl).2 Tryz.func298 (by kernel_rfl) (by kernel_rfl) w hG
 simp only[] at h
 rw[agX,zB ha,zB hb,KD] at h
 simpa only[EL,rX,ul,sP,tN,Sh.kinds,List.drop_succ_cons,List.drop_zero,List.length_cons,List.length_nil,yh,yL,tq] using h)
theorem ah0 (m a b:Nat) (ha:a<sI) (hb:b<sI) (w:World) (hG:Gl gG w):CallsIn Fence.wide m Tryz.prog 304 #[vW a,vW b] w fun e w'=>e = .returned (.int .i64 (tY a b))∧rq w w':=callsIn_wide.2 (by
 have h:=DK (Yq [wd a 0,wd a 1,wd a 2,wd a 3,wd b 0,wd b 1,wd b 2,wd b 3] rfl).2 Tryz.func304 (by kernel_rfl) (by kernel_rfl) w hG
 simp only[] at h
 rw[ahO,IP ha,IP hb] at h
 have hc:i64 (tY a b)=tY a b:=Nr a b
 simpa only[EW,rX,ul,sP,tN,Sh.kinds,List.drop_succ_cons,List.drop_zero,List.length_cons,List.length_nil,yh,EQ,yL,tq,hc] using h)
def YV (A B:World):Prop:=Gl gG A→Gl gG B
theorem ah1 (n:Nat) (hn:1≤n) (l B:Nat) (J Jx:List (Fin 128)→World→Prop) (hJ:AbidesFrom B J)
  (hY:∀ pre x W,J pre W→pre.length<128→YieldAt Fence.wide (n-1) Tryz.prog l #[vB (2^(127-x.1))] W fun e W' =>
   (e = .returned (.bool true)∧J (pre ++ [x]) W'∧YV W W')∨(e = .returned (.bool false)∧Jx (pre ++ [x]) W'))
  (W:World) (hG:Gl gG W) (h0:J [] W) :
  CallsIn Fence.wide n Tryz.prog 350 #[.func (.yield l) #[] #[]] W fun e W'=>(∃ v,e = .returned v) ∧
   ((∃ ys,ys=xc 128∧J ys W')∨(∃ pre,True∧Jx pre W')):=by
 refine callsIn_of_wp Tryz.func350 rfl trivial ?_ rfl
 have hL:Fence.wide.fn 74:=trivial
 simp only[Tryz.ntmps350,List.size_toArray,List.length_cons,List.length_nil,Nat.reduceAdd,Nat.reduceSub,Array.replicate_succ,Array.replicate_zero,List.push_toArray,List.append_toArray,List.nil_append,List.cons_append]
 gi_wp2
 gi_loopw [2] (fun i wr=>∃ k:Nat,k≤128∧i = .int .i64 (127-(k:Int))∧J (xc k) wr∧Gl gG wr)
  (fun i _=>(intOf i+1).toNat)
 case atStart=>exact⟨0,Nat.zero_le _,rfl,h0,hG⟩
 case round =>
  obtain⟨k,hk,rfl,hJs,hGr⟩:=hrel
  by_cases hlt:k<128
  ·have Hs:=Lib.hid (RF hlt)
   have hlen:=YT k hk
   have hge:(0:Int)≤127-(k:Int):=by omega
   gi_wp2_with (gi_at_call 74;refine(ahZ (n-1) k hlt wr hGr).mono ?_;rintro e w3 ⟨rfl,hw3⟩;have hJ3:J (xc k) w3:=hJ _ wr w3 none hJs ⟨hw3.os,hw3.tape,hw3.output,hw3.size,fun q hq _=>hw3.block q hq⟩ (fun r e=>by cases e);have hG3:=hGr.bel hw3;obtain⟨fn,tmps,assign,body,hy,hR⟩:=hY _ ⟨k,hlt⟩ w3 hJ3 (by omega);simp only[] at hy)
   refine hR.mono ?_
   rintro e W3 (⟨rfl,hJ4,hk4⟩|⟨rfl,hJx3⟩)
   ·gi_wp2
    go_roundw
    case rel=>exact⟨k+1,by omega,by congr 1;omega,by rw[Hs.out];exact hJ4,hk4 hG3⟩
    case measure=>simp[intOf];omega
   ·gi_wp2
    go_end0
    exact⟨⟨_,rfl⟩,.inr ⟨_,trivial,hJx3⟩⟩
  ·obtain rfl:k=128:=by omega
   gi_wp2
   refine⟨(fun f h=>(by cases h)),?_⟩
   gi_wp2
   go_end0
   exact⟨⟨_,rfl⟩,.inl ⟨_,rfl,hJs⟩⟩
theorem ah2 (n:Nat) (hn:1≤n) (w:World) (hG:Gl gG w) :
  SeqStopsK Fence.wide n Tryz.prog 350 #[] (fun x:Fin 128=>#[vB (2^(127-x.1))]) YV (fun ys=>ys=xc 128)
   (fun _=>True) 128 w:=fun l J Jx W hW hJ _ hY h0=>by
 have hG2:Gl gG W:=hG.bel hW
 exact ah1 n hn l W.heap.size J Jx hJ hY W hG2 h0
theorem ah3 (n:Nat) (w:World) :
  CallsIn Fence.wide n Tryz.prog 303 #[] w fun e w'=>e = .returned (.func (.func 350) #[] #[])∧w'=w:=by
 refine callsIn_of_wp Tryz.func303 rfl trivial ?_ rfl
 simp only[Tryz.ntmps303,List.size_toArray,List.length_cons,List.length_nil,Nat.reduceAdd,Nat.reduceSub,Array.replicate_succ,Array.replicate_zero,List.push_toArray,List.append_toArray,List.nil_append,List.cons_append]
 gi_wp2
 go_ret
 exact⟨rfl,rfl⟩
def vD (n:Nat) (pre:List (Fin 128)):Nat:=pre.foldl (fun r x=>if (r|||2^(127-x.1))*(r|||2^(127-x.1))≤n then r|||2^(127-x.1) else r) 0
theorem YW (n:Nat) (pre:List (Fin 128)) (x:Fin 128):vD n (pre ++ [x])=if (vD n pre|||2^(127-x.1))*(vD n pre|||2^(127-x.1))≤n then vD n pre|||2^(127-x.1) else vD n pre:=by
 unfold vD;rw[List.foldl_append];rfl
theorem YX {a b:Nat} (ha:a<rE) (hb:b<rE):a|||b<rE:=by rw[LV] at *;exact Nat.or_lt_two_pow ha hb
theorem ah4 (n:Nat) (pre:List (Fin 128)):vD n pre<rE:=by
 unfold vD
 suffices k:∀ (pre:List (Fin 128)) (r:Nat),r<rE→pre.foldl (fun r x=>if (r|||2^(127-x.1))*(r|||2^(127-x.1))≤n then r|||2^(127-x.1) else r) r<rE from k pre 0 (by decide)
 intro pre
 induction pre with
 | nil=>intro r h;exact h
 | cons x xs ih =>
  intro r h
  refine ih _ ?_
  dsimp only
  split
  ·exact YX h (Ns (by omega))
  ·exact h
theorem YY (n:Nat):∀ k,k≤128→(∃ q,vD n (xc k)=q*2^(128-k))∧FP.isqGo n (128-k) (vD n (xc k))=FP.isqGo n 128 0
 | 0,_=>⟨⟨0,by rw[Nat.zero_mul];rfl⟩,rfl⟩
 | k+1,h=>by
  obtain⟨⟨q,hq⟩,h2⟩:=YY n k (by omega)
  have hk:k<128:=by omega
  rw[RF hk,YW]
  obtain⟨i,hi⟩:∃ i,i=127-k:=⟨_,rfl⟩
  rw[show 128-k=i+1 by omega] at hq h2
  rw[show 128-(k+1)=i by omega]
  simp only[← hi]
  have ho:vD n (xc k)|||2^i=vD n (xc k)+2^i:=by
   rw[hq]
   have h:=Nat.two_pow_add_eq_or_of_lt (i:=i+1) (b:=2^i) (Nat.pow_lt_pow_right (by decide) (by omega)) q
   rw[Nat.mul_comm q];exact h.symm
  rw[ho]
  have hg:FP.isqGo n (i+1) (vD n (xc k))=FP.isqGo n i (if (vD n (xc k)+2^i)*(vD n (xc k)+2^i)≤n then vD n (xc k)+2^i else vD n (xc k)):=rfl
  rw[hg] at h2
  refine⟨?_,h2⟩
  split
  ·exact⟨2*q+1,by rw[hq,Nat.pow_succ,Nat.add_mul,Nat.one_mul];congr 1;ac_rfl⟩
  ·exact⟨2*q,by rw[hq,Nat.pow_succ];ac_rfl⟩
theorem ah5 (n:Nat):vD n (xc 128)=FP.isq n:=(YY n 128 (Nat.le_refl _)).2
theorem ah6 {p q:Nat} : decide (tY p q≤0)=decide (p≤q):=by
 unfold tY
 by_cases h:p<q
 ·rw[if_pos h,decide_eq_true (show p≤q by omega)];rfl
 ·rw[if_neg h]
  by_cases h2:q<p
  ·rw[if_pos h2,decide_eq_false (show ¬ p≤q by omega)];rfl
  ·rw[if_neg h2,decide_eq_true (show p≤q by omega)];rfl
theorem ah7 {a b:Nat} (ha:a<sI) (hb:b<sI):(wd a 0==wd b 0&&(wd a 1==wd b 1&&(wd a 2==wd b 2&&wd a 3==wd b 3)))=decide (a=b):=by
 rw[Bool.eq_iff_iff]
 simp only[Bool.and_eq_true,beq_iff_eq,decide_eq_true_iff]
 constructor
 ·rintro⟨h0,h1,h2,h3⟩
  rw[← IP ha,← IP hb,h0,h1,h2,h3]
 ·rintro rfl;exact⟨rfl,rfl,rfl,rfl⟩
def YZ (n w1 w2 w4:Nat) (m:Nat) (x:Fin 128) (a':Act) (W:World):Prop:=∃ B,m≤B ∧
 a' = { tmps:=#[vW n,.pointer (some ⟨w1,0,none⟩),.pointer (some ⟨w2,0,none⟩),.bool false,.pointer (some ⟨w4,0,none⟩),.pointer (some ⟨B,0,none⟩),undef,.func (.func 350) #[] #[],vB (2^(127-x.1)),undef,undef,undef,undef,undef,undef,undef,undef,undef,undef,undef,undef,undef,undef,undef,undef,undef,undef,undef,undef,undef,undef,undef,undef],defers:=[] } ∧
 W.heap[B]? = some (.cells #[.int .u64 (wd (2^(127-x.1)) 1),.int .u64 (wd (2^(127-x.1)) 0)] 27 (0,0))
theorem ah8 (n w1 w2 w4 m:Nat) (x:Fin 128) (a':Act) (B0:Nat):OwnFrom B0 (fun(_:Unit) W=>YZ n w1 w2 w4 m x a' W):=by
 rintro s X Y row ⟨B,hB,ha,hc⟩ hg hr
 refine⟨B,hB,ha,?_⟩
 exact(Own.from (yG B 27 (fun(_:Unit)=>#[.int .u64 (wd (2^(127-x.1)) 1),.int .u64 (wd (2^(127-x.1)) 0)])) B0) () X Y row hc hg hr
theorem ah9 (m:Nat) (hm:3≤m) (n:Nat) (hn:n<sI) (w:World) (hG:Gl gG w) :
  CallsIn Fence.wide m Tryz.prog 229 #[vW n] w fun e w'=>e = .returned (.tuple #[vB (FP.isq n),.bool (decide (FP.isq n*FP.isq n=n))])∧rq w w':=by
 have hn1:1≤m:=by omega
 refine callsIn_of_wp_marks Tryz.func229 rfl trivial ?_ rfl
 simp only[Tryz.ntmps229,List.size_toArray,List.length_cons,List.length_nil,Nat.reduceAdd,Nat.reduceSub,Array.replicate_succ,Array.replicate_zero,List.push_toArray,List.append_toArray,List.nil_append,List.cons_append]
 have h96:Fence.wide.fn 303:=trivial
 have h85:Fence.wide.fn 298:=trivial
 have h97:Fence.wide.fn 304:=trivial
 gi_wp2_with (gi_at_call 303;refine(ah3 (m-1) _).mono ?_;rintro e w2 ⟨rfl,rfl⟩)
 obtain⟨W0,hW0⟩:∃ W0,W0=((w.alloc (.cells #[.int .u64 (wd n 0),.int .u64 (wd n 1),.int .u64 (wd n 2),.int .u64 (wd n 3)] 252)).alloc (.cells #[.int .u64 0,.int .u64 0] 27)).alloc (.cells #[.int .u64 0,.int .u64 0] 27):=⟨_,rfl⟩
 have bN:W0.heap[w.heap.size]? = some (.cells #[.int .u64 (wd n 0),.int .u64 (wd n 1),.int .u64 (wd n 2),.int .u64 (wd n 3)] 252 (0,0)):=by rw[hW0];exact heap_alloc (heap_alloc (BA _ _) _) _
 have b2:W0.heap[w.heap.size+1]? = some (.cells #[.int .u64 0,.int .u64 0] 27 (0,0)):=by rw[hW0];exact heap_alloc (Jr _ _ _) _
 have b4:W0.heap[w.heap.size+1+1]? = some (.cells #[.int .u64 0,.int .u64 0] 27 (0,0)):=by rw[hW0];exact zk _ _ _ _
 have hB0:Below w.heap.size w W0:=by rw[hW0];show rq w _;exact(((rq.refl w).alloc _).alloc _).alloc _
 have hsz:W0.heap.size=w.heap.size+1+1+1:=by rw[hW0];simp
 have hG0:Gl gG W0:=hG.bel hB0
 rw[← hW0]
 clear hW0
 have zw:∀ j,wd 0 j=0:=fun j=>by unfold wd;simp
 have z0:vD n []=0:=rfl
 refine wpIn_rangeFunc_ownH rfl hn1 (gf:=350) (lb:=#[]) rfl trivial (enters_of Tryz.func350 (by kernel_rfl) rfl) (ah2 (m-1) (by omega) W0 hG0) (fun h1 h2 h=>h2 (h1 h)) ?hKb (Below.refl _ _) (fun _=>rfl)
  (fun pre W=>((W.heap[w.heap.size]? = some (.cells #[.int .u64 (wd n 0),.int .u64 (wd n 1),.int .u64 (wd n 2),.int .u64 (wd n 3)] 252 (0,0))∧W.heap[w.heap.size+1]? = some (.cells #[.int .u64 0,.int .u64 0] 27 (0,0))) ∧
   W.heap[w.heap.size+1+1]? = some (.cells #[.int .u64 (wd (vD n pre) 1),.int .u64 (wd (vD n pre) 0)] 27 (0,0)))∧Below w.heap.size w W)
  (fun _ _ _=>False)
  (OwnFrom.and (OwnFrom.and (OwnFrom.and (Own.from (yG _ _ (fun _=>#[.int .u64 (wd n 0),.int .u64 (wd n 1),.int .u64 (wd n 2),.int .u64 (wd n 3)])) _) (Own.from (yG _ _ (fun _=>#[.int .u64 0,.int .u64 0])) _)) (Own.from (yG _ _ (fun pre=>#[.int .u64 (wd (vD n pre) 1),.int .u64 (wd (vD n pre) 0)])) _)) (ownFrom_below (Nat.le_refl _) (by omega)))
  (fun _ _ _ _ _ hs _ _=>hs)
  ⟨⟨⟨bN,b2⟩,by rw[z0];simp only[zw];exact b4⟩,hB0⟩
  (YZ n w.heap.size (w.heap.size+1) (w.heap.size+1+1) W0.heap.size) (fun x a'=>ah8 _ _ _ _ _ x a' _) ?assign ?body ?done ?stop
 case hKb =>
  intro W l o o' hl ho _ _ hGW x hx
  have h1:=(hG0 x hx).1
  have h2:=hGW x hx
  refine⟨by have:=h2.1;simpa using this,fun j v hv=>?_⟩
  have h3:=h2.2 j v hv
  unfold World.cell? at h3 ⊢
  rw[World.putObj_heap_other (show x.1≠l by omega)]
  exact h3
 case assign =>
  intro l pre x W K hI hK
  have hx:2^(127-x.1)<rE:=Ns (by omega)
  gi_wp2
  have hlt:=CJ hI.1.2
  exact hK _ _ ((KeepsOthers.alloc W _).from _) (fun h=>h.bel ((rq.refl W).alloc _)) ⟨⟨⟨heap_alloc hI.1.1.1 _,heap_alloc hI.1.1.2 _⟩,heap_alloc hI.1.2 _⟩,rq.alloc hI.2 _⟩ ⟨W.heap.size,by omega,rfl,BA _ _⟩
 case body =>
  rintro l pre x a' V hwl hrec ⟨⟨⟨bN,b2⟩,b4⟩,hB⟩ ⟨B,hmB,rfl,cB⟩ hlt
  have e0:=rC b4 0 rfl
  have e1:=rC b4 1 rfl
  have e2:=rC cB 0 rfl
  have e3:=rC cB 1 rfl
  have hr:=ah4 n pre
  have hsn:=YW n pre x
  generalize vD n pre=r at *
  have hb:2^(127-x.1)<rE:=Ns (by omega)
  generalize 2^(127-x.1)=b at *
  have ho1:∀ i,bits .or .u64 (wd r i) (wd b i)=wd (r|||b) i:=fun i=>agY r b i
  have ht:=YX hr hb
  gi_wp2
  obtain⟨V4,hV4⟩:∃ V4,V4=V.alloc (.cells #[.int .u64 (wd (r|||b) 1),.int .u64 (wd (r|||b) 0)] 27):=⟨_,rfl⟩
  have dN:V4.heap[w.heap.size]? = some (.cells #[.int .u64 (wd n 0),.int .u64 (wd n 1),.int .u64 (wd n 2),.int .u64 (wd n 3)] 252 (0,0)):=by rw[hV4];exact heap_alloc bN _
  have d2:V4.heap[w.heap.size+1]? = some (.cells #[.int .u64 0,.int .u64 0] 27 (0,0)):=by rw[hV4];exact heap_alloc b2 _
  have d4:V4.heap[w.heap.size+1+1]? = some (.cells #[.int .u64 (wd r 1),.int .u64 (wd r 0)] 27 (0,0)):=by rw[hV4];exact heap_alloc b4 _
  have dT:V4.heap[V.heap.size]? = some (.cells #[.int .u64 (wd (r|||b) 1),.int .u64 (wd (r|||b) 0)] 27 (0,0)):=by rw[hV4];exact BA _ _
  have dB:rq V V4:=by rw[hV4];exact(rq.refl V).alloc _
  have h4l:=CJ b4
  rw[← hV4]
  clear hV4
  have hGV:Gl gG V:=hG.bel hB
  have hle:decide (tY ((r|||b)*(r|||b)) n≤0)=decide ((r|||b)*(r|||b)≤n):=ah6
  have hmul:=fun W (h:rq V W)=>YU (m-1-1-1) (r|||b) (r|||b) ht ht W (hGV.bel h)
  have hcmp:=fun W (h:rq V W)=>ah0 (m-1-1-1) ((r|||b)*(r|||b)) n (by rw[Rw];exact Nat.mul_lt_mul'' ht ht) hn W (hGV.bel h)
  generalize r|||b=t at *
  obtain⟨q,hq⟩:∃ q,q=decide (t*t≤n):=⟨_,rfl⟩
  rw[← hq] at hle
  have hq2:(q=true∧t*t≤n)∨(q=false∧¬ t*t≤n):=by
   rw[hq];by_cases h:t*t≤n
   ·exact .inl ⟨decide_eq_true h,h⟩
   ·exact .inr ⟨decide_eq_false h,h⟩
  clear hq
  generalize V.heap.size=Bt at *
  refine CG (fun(L:Nat→Bool) (A:Act) (W:World)=>∃ u20 u21 u22 u23 u24 u25:Value,A=⟨#[vW n,Value.pointer (some { block:=w.heap.size,off:=0 }),Value.pointer (some { block:=w.heap.size+1,off:=0 }),Value.bool false,Value.pointer (some { block:=w.heap.size+1+1,off:=0 }),Value.pointer (some { block:=B,off:=0 }),Value.pointer (some { block:=Bt,off:=0 }),Value.func (Fn.func 350) #[] #[],vB b,Value.pointer (some { block:=w.heap.size+1+1,off:=0 }),Value.int IntKind.u64 (wd r 1),Value.pointer (some { block:=B,off:=0 }),Value.int IntKind.u64 (wd b 1),Value.int IntKind.u64 (wd t 1),Value.pointer (some { block:=w.heap.size+1+1,off:=1 }),Value.int IntKind.u64 (wd r 0),Value.pointer (some { block:=B,off:=1 }),Value.int IntKind.u64 (wd b 0),Value.int IntKind.u64 (wd t 0),Value.agg #[Value.int IntKind.u64 (wd t 1),Value.int IntKind.u64 (wd t 0)],u20,u21,u22,u23,u24,u25,undef,undef,undef,undef,undef,undef,undef],[]⟩∧rq V W∧W.heap[w.heap.size]? = some (.cells #[.int .u64 (wd n 0),.int .u64 (wd n 1),.int .u64 (wd n 2),.int .u64 (wd n 3)] 252 (0,0))∧W.heap[w.heap.size+1]? = some (.cells #[.int .u64 0,.int .u64 0] 27 (0,0))∧W.heap[w.heap.size+1+1]? = some (.cells #[.int .u64 (wd r 1),.int .u64 (wd r 0)] 27 (0,0))∧W.heap[Bt]? = some (.cells #[.int .u64 (wd t 1),.int .u64 (wd t 0)] 27 (0,0))∧(L 0=true→u20 = .agg #[.int .u64 (wd t 1),.int .u64 (wd t 0)])∧(L 1=true→u21 = .agg #[.int .u64 (wd t 1),.int .u64 (wd t 0)])∧(L 2=true→u22=vW (t*t))∧(L 3=true→u23 = .agg #[.int .u64 (wd n 0),.int .u64 (wd n 1),.int .u64 (wd n 2),.int .u64 (wd n 3)])∧(L 4=true→u24 = .int .i64 (tY (t*t) n))∧(L 5=true→u25 = .bool q)) (by kernel_rfl) (by kernel_rfl) ?h0 ⟨?s0,?s1,?s2,?s3,?s4,?s5,trivial⟩ ?hd
  case h0 =>
   exact⟨_,_,_,_,_,_,rfl,(rq.drew dB),dN,d2,d4,dT,fun h=>absurd h Bool.false_ne_true,fun h=>absurd h Bool.false_ne_true,fun h=>absurd h Bool.false_ne_true,fun h=>absurd h Bool.false_ne_true,fun h=>absurd h Bool.false_ne_true,fun h=>absurd h Bool.false_ne_true⟩
  case s0 =>
   rintro L _ W K ⟨u20,u21,u22,u23,u24,u25,rfl,hb,c1,c2,c4,c6,f0,f1,f2,f3,f4,f5⟩ hL hD hN hK
   refine sD (sw rfl) ?_
   have e0:=rC c6 0 rfl
   have e1:=rC c6 1 rfl
   have hf:=rZ c6 0
   go_simp
   refine hK _ _ ⟨_,_,_,_,_,_,rfl,hb,c1,c2,c4,c6,fun _=>rfl,f1,f2,f3,f4,f5⟩
  case s1 =>
   rintro L _ W K ⟨u20,u21,u22,u23,u24,u25,rfl,hb,c1,c2,c4,c6,f0,f1,f2,f3,f4,f5⟩ hL hD hN hK
   refine sD (sw rfl) ?_
   have e0:=rC c6 0 rfl
   have e1:=rC c6 1 rfl
   have hf:=rZ c6 0
   go_simp
   refine hK _ _ ⟨_,_,_,_,_,_,rfl,hb,c1,c2,c4,c6,f0,fun _=>rfl,f2,f3,f4,f5⟩
  case s2 =>
   rintro L _ W K ⟨u20,u21,u22,u23,u24,u25,rfl,hb,c1,c2,c4,c6,f0,f1,f2,f3,f4,f5⟩ hL hD hN hK
   obtain rfl:=f0 (hD 0 (by kernel_rfl))
   obtain rfl:=f1 (hD 1 (by kernel_rfl))
   refine sD (sw rfl) ?_
   go_simp
   refine⟨fun h=>(by first|cases h|omega),(hmul _ hb).mono ?_⟩
   rintro e W1 ⟨rfl,hw⟩
   refine hK _ _ ⟨_,_,_,_,_,_,rfl,(hb.trans hw),(sN c1 hw),(sN c2 hw),(sN c4 hw),(sN c6 hw),f0,f1,fun _=>rfl,f3,f4,f5⟩
  case s3 =>
   rintro L _ W K ⟨u20,u21,u22,u23,u24,u25,rfl,hb,c1,c2,c4,c6,f0,f1,f2,f3,f4,f5⟩ hL hD hN hK
   refine sD (sw rfl) ?_
   have e0:=rC c1 0 rfl
   have e1:=rC c1 1 rfl
   have e2:=rC c1 2 rfl
   have e3:=rC c1 3 rfl
   have hf:=rZ c1 0
   go_simp
   refine hK _ _ ⟨_,_,_,_,_,_,rfl,hb,c1,c2,c4,c6,f0,f1,f2,fun _=>rfl,f4,f5⟩
  case s4 =>
   rintro L _ W K ⟨u20,u21,u22,u23,u24,u25,rfl,hb,c1,c2,c4,c6,f0,f1,f2,f3,f4,f5⟩ hL hD hN hK
   obtain rfl:=f2 (hD 2 (by kernel_rfl))
   obtain rfl:=f3 (hD 3 (by kernel_rfl))
   refine sD (sw rfl) ?_
   go_simp
   refine⟨fun h=>(by first|cases h|omega),(hcmp _ hb).mono ?_⟩
   rintro e W1 ⟨rfl,hw⟩
   refine hK _ _ ⟨_,_,_,_,_,_,rfl,(hb.trans hw),(sN c1 hw),(sN c2 hw),(sN c4 hw),(sN c6 hw),f0,f1,f2,f3,fun _=>rfl,f5⟩
  case s5 =>
   rintro L _ W K ⟨u20,u21,u22,u23,u24,u25,rfl,hb,c1,c2,c4,c6,f0,f1,f2,f3,f4,f5⟩ hL hD hN hK
   obtain rfl:=f4 (hD 4 (by kernel_rfl))
   refine sD (sw rfl) ?_
   go_simp
   refine hK _ _ ⟨_,_,_,_,_,_,rfl,hb,c1,c2,c4,c6,f0,f1,f2,f3,f4,fun _=>rfl⟩
  case hd =>
   rintro L _ W ⟨u20,u21,u22,u23,u24,u25,rfl,hb,c1,c2,c4,c6,f0,f1,f2,f3,f4,f5⟩ hall
   obtain rfl:=f0 (hall 0 (by decide))
   obtain rfl:=f1 (hall 1 (by decide))
   obtain rfl:=f2 (hall 2 (by decide))
   obtain rfl:=f3 (hall 3 (by decide))
   obtain rfl:=f4 (hall 4 (by decide))
   obtain rfl:=f5 (hall 5 (by decide))
   have f0:=rC c6 0 rfl
   have f1:=rC c6 1 rfl
   have g0:=rC c4 0 rfl
   have g1:=rC c4 1 rfl
   have g2:=rZ c4 0
   have g3:=rZ c4 1
   have kO:KeepsOthers V W:=⟨hb.size,fun k o hk _=>sN hk hb⟩
   have hBW:rq w W:=rq.trans hB hb
   rcases hq2 with⟨rfl,hc⟩|⟨rfl,hc⟩
   ·rw[if_pos hc] at hsn
    gi_wp2
    have hBF:rq w ((W.setCell ⟨w.heap.size+1+1,0,none⟩ (.int .u64 (wd t 1))).setCell ⟨w.heap.size+1+1,1,none⟩ (.int .u64 (wd t 0))):=rq.set (rq.set hBW (by omega) _) (by omega) _
    refine⟨((kO.trans (KeepsOthers.setCell _ _ _)).trans (KeepsOthers.setCell _ _ _)).from _,fun _=>hG.bel hBF,⟨⟨⟨?_,?_⟩,?_⟩,hBF⟩⟩
    ·exact rJ (rJ c1 _ _ (by show w.heap.size≠w.heap.size+1+1;omega)) _ _ (by show w.heap.size≠w.heap.size+1+1;omega)
    ·exact rJ (rJ c2 _ _ (by show w.heap.size+1≠w.heap.size+1+1;omega)) _ _ (by show w.heap.size+1≠w.heap.size+1+1;omega)
    ·rw[hsn];exact heap_set (heap_set c4 _) _
   ·rw[if_neg hc] at hsn
    gi_wp2
    exact⟨kO.from _,fun _=>hG.bel hBW,⟨⟨⟨c1,c2⟩,by rw[hsn];exact c4⟩,hBW⟩⟩
 case done =>
  rintro D ys V hD rfl ⟨⟨⟨bN,b2⟩,b4⟩,hB⟩ hK
  rw[ah5] at b4
  have hr:FP.isq n<rE:=by rw[LV];exact FP.isq_lt (by rw[← TY];exact hn)
  obtain⟨r,hre⟩:∃ r,FP.isq n=r:=⟨_,rfl⟩
  rw[hre] at b4 hr
  have hD':w.heap.size+1+1+1≤D:=by rw[← hsz];exact hD
  have hrr:r*r<sI:=by rw[Rw];exact Nat.mul_lt_mul'' hr hr
  have hmul:=fun W (h:rq w W)=>YU (m-1) r r hr hr W (hG.bel h)
  have hq:=fun W=>QM (t:=252) (x:=vW (r*r)) (y:=.agg #[.int .u64 (wd n 0),.int .u64 (wd n 1),.int .u64 (wd n 2),.int .u64 (wd n 3)]) (b:=(wd (r*r) 0==wd n 0&&(wd (r*r) 1==wd n 1&&(wd (r*r) 2==wd n 2&&wd (r*r) 3==wd n 3)))) rfl W
  rw[ah7 hrr hn] at hq
  have hq1:=fun W op xo yo=>(hq W).1 op xo yo
  have hq2:=fun W=>(hq W).2.1
  clear hq hn hr hrr
  obtain⟨q,hqd⟩:∃ q,decide (r*r=n)=q:=⟨_,rfl⟩
  rw[hqd] at hq2
  have HF:=Lib.hid (And.intro hre hqd)
  clear hre hqd
  gi_wp2
  refine CG (fun(L:Nat→Bool) (A:Act) (W:World)=>∃ u27 u28 u29 u30 u31 u32 u3:Value,A=⟨#[vW n,Value.pointer (some { block:=w.heap.size,off:=0 }),Value.pointer (some { block:=w.heap.size+1,off:=0 }),u3,Value.pointer (some { block:=w.heap.size+1+1,off:=0 }),undef,undef,Value.func (Fn.func 350) #[] #[],undef,undef,undef,undef,undef,undef,undef,undef,undef,undef,undef,undef,undef,undef,undef,undef,undef,undef,undef,u27,u28,u29,u30,u31,u32],[{ target:=Target.collected D,args:=#[] }]⟩∧rq w W∧W.heap[D]? = some (.deferred (some []))∧W.heap[w.heap.size]? = some (.cells #[.int .u64 (wd n 0),.int .u64 (wd n 1),.int .u64 (wd n 2),.int .u64 (wd n 3)] 252 (0,0))∧W.heap[w.heap.size+1]? = some (.cells (bif L 6 then #[.int .u64 (wd r 1),.int .u64 (wd r 0)] else #[.int .u64 0,.int .u64 0]) 27 (0,0))∧W.heap[w.heap.size+1+1]? = some (.cells #[.int .u64 (wd r 1),.int .u64 (wd r 0)] 27 (0,0))∧(L 0=true→u27 = .agg #[.int .u64 (wd r 1),.int .u64 (wd r 0)])∧(L 1=true→u28 = .agg #[.int .u64 (wd r 1),.int .u64 (wd r 0)])∧(L 2=true→u29 = .agg #[.int .u64 (wd r 1),.int .u64 (wd r 0)])∧(L 3=true→u30=vW (r*r))∧(L 4=true→u31 = .agg #[.int .u64 (wd n 0),.int .u64 (wd n 1),.int .u64 (wd n 2),.int .u64 (wd n 3)])∧(L 5=true→u32 = .bool q)∧(L 7=true→u3 = .bool q)) (by kernel_rfl) (by kernel_rfl) ?h0 ⟨?s0,?s1,?s2,?s3,?s4,?s5,?s6,?s7,trivial⟩ ?hd
  case h0 =>
   exact⟨_,_,_,_,_,_,_,rfl,(rq.drew hB),hK,bN,b2,b4,fun h=>absurd h Bool.false_ne_true,fun h=>absurd h Bool.false_ne_true,fun h=>absurd h Bool.false_ne_true,fun h=>absurd h Bool.false_ne_true,fun h=>absurd h Bool.false_ne_true,fun h=>absurd h Bool.false_ne_true,fun h=>absurd h Bool.false_ne_true⟩
  case s0 =>
   rintro L _ W K ⟨u27,u28,u29,u30,u31,u32,u3,rfl,hb,x0,c1,c2,c4,f0,f1,f2,f3,f4,f5,f7⟩ hL hD hN hK
   refine sD (sw rfl) ?_
   have e0:=rC c4 0 rfl
   have e1:=rC c4 1 rfl
   have hf:=rZ c4 0
   go_simp
   refine hK _ _ ⟨_,_,_,_,_,_,_,rfl,hb,x0,c1,c2,c4,fun _=>rfl,f1,f2,f3,f4,f5,f7⟩
  case s1 =>
   rintro L _ W K ⟨u27,u28,u29,u30,u31,u32,u3,rfl,hb,x0,c1,c2,c4,f0,f1,f2,f3,f4,f5,f7⟩ hL hD hN hK
   refine sD (sw rfl) ?_
   have e0:=rC c4 0 rfl
   have e1:=rC c4 1 rfl
   have hf:=rZ c4 0
   go_simp
   refine hK _ _ ⟨_,_,_,_,_,_,_,rfl,hb,x0,c1,c2,c4,f0,fun _=>rfl,f2,f3,f4,f5,f7⟩
  case s2 =>
   rintro L _ W K ⟨u27,u28,u29,u30,u31,u32,u3,rfl,hb,x0,c1,c2,c4,f0,f1,f2,f3,f4,f5,f7⟩ hL hD hN hK
   refine sD (sw rfl) ?_
   have e0:=rC c4 0 rfl
   have e1:=rC c4 1 rfl
   have hf:=rZ c4 0
   go_simp
   refine hK _ _ ⟨_,_,_,_,_,_,_,rfl,hb,x0,c1,c2,c4,f0,f1,fun _=>rfl,f3,f4,f5,f7⟩
  case s3 =>
   rintro L _ W K ⟨u27,u28,u29,u30,u31,u32,u3,rfl,hb,x0,c1,c2,c4,f0,f1,f2,f3,f4,f5,f7⟩ hL hD hN hK
   obtain rfl:=f1 (hD 1 (by kernel_rfl))
   obtain rfl:=f2 (hD 2 (by kernel_rfl))
   refine sD (sw rfl) ?_
   go_simp
   refine((hmul _ hb).mono ?_)
   rintro e W1 ⟨rfl,hw⟩
   refine hK _ _ ⟨_,_,_,_,_,_,_,rfl,(hb.trans hw),(sN x0 hw),(sN c1 hw),(sN c2 hw),(sN c4 hw),f0,f1,f2,fun _=>rfl,f4,f5,f7⟩
  case s4 =>
   rintro L _ W K ⟨u27,u28,u29,u30,u31,u32,u3,rfl,hb,x0,c1,c2,c4,f0,f1,f2,f3,f4,f5,f7⟩ hL hD hN hK
   refine sD (sw rfl) ?_
   have e0:=rC c1 0 rfl
   have e1:=rC c1 1 rfl
   have e2:=rC c1 2 rfl
   have e3:=rC c1 3 rfl
   have hf:=rZ c1 0
   go_simp
   refine hK _ _ ⟨_,_,_,_,_,_,_,rfl,hb,x0,c1,c2,c4,f0,f1,f2,f3,fun _=>rfl,f5,f7⟩
  case s5 =>
   rintro L _ W K ⟨u27,u28,u29,u30,u31,u32,u3,rfl,hb,x0,c1,c2,c4,f0,f1,f2,f3,f4,f5,f7⟩ hL hD hN hK
   obtain rfl:=f3 (hD 3 (by kernel_rfl))
   obtain rfl:=f4 (hD 4 (by kernel_rfl))
   refine sD (sw rfl) ?_
   go_simp
   refine hK _ _ ⟨_,_,_,_,_,_,_,rfl,hb,x0,c1,c2,c4,f0,f1,f2,f3,f4,fun _=>rfl,f7⟩
  case s6 =>
   rintro L _ W K ⟨u27,u28,u29,u30,u31,u32,u3,rfl,hb,x0,c1,c2,c4,f0,f1,f2,f3,f4,f5,f7⟩ hL hD hN hK
   obtain rfl:=f0 (hD 0 (by kernel_rfl))
   refine sD (sw rfl) ?_
   have hz:L 6=false:=hL
   rw[hz] at c2
   have e0:=rC c2 0 (rfl)
   have h0:=rZ c2 0
   have e1:=rC c2 1 (rfl)
   have h1:=rZ c2 1
   go_simp
   refine hK _ _ ⟨_,_,_,_,_,_,_,rfl,(rq.set (rq.set hb (by omega) _) (by omega) _),(rJ (rJ x0 _ _ (by show D≠w.heap.size+1;omega)) _ _ (by show D≠w.heap.size+1;omega)),(rJ (rJ c1 _ _ (show w.heap.size≠w.heap.size+1 by omega)) _ _ (show w.heap.size≠w.heap.size+1 by omega)),(heap_set (heap_set c2 _) _),(rJ (rJ c4 _ _ (show w.heap.size+1+1≠w.heap.size+1 by omega)) _ _ (show w.heap.size+1+1≠w.heap.size+1 by omega)),f0,f1,f2,f3,f4,f5,f7⟩
  case s7 =>
   rintro L _ W K ⟨u27,u28,u29,u30,u31,u32,u3,rfl,hb,x0,c1,c2,c4,f0,f1,f2,f3,f4,f5,f7⟩ hL hD hN hK
   obtain rfl:=f5 (hD 5 (by kernel_rfl))
   refine sD (sw rfl) ?_
   go_simp
   refine hK _ _ ⟨_,_,_,_,_,_,_,rfl,hb,x0,c1,c2,c4,f0,f1,f2,f3,f4,f5,fun _=>rfl⟩
  case hd =>
   rintro L _ W ⟨u27,u28,u29,u30,u31,u32,u3,rfl,hb,x0,c1,c2,c4,f0,f1,f2,f3,f4,f5,f7⟩ hall
   rw[hall 6 (by decide)] at c2
   obtain rfl:=f0 (hall 0 (by decide))
   obtain rfl:=f1 (hall 1 (by decide))
   obtain rfl:=f2 (hall 2 (by decide))
   obtain rfl:=f3 (hall 3 (by decide))
   obtain rfl:=f4 (hall 4 (by decide))
   obtain rfl:=f5 (hall 5 (by decide))
   obtain rfl:=f7 (hall 7 (by decide))
   gi_wp2
   refine⟨by simp,.inl ⟨_,_,rfl,run_takeDeferred x0,?_⟩⟩
   have cX:(W.putObj D (.deferred none)).heap[w.heap.size+1]? = _:=(World.putObj_heap_other (by omega)).trans c2
   have q0:=rC cX 0 rfl
   have q1:=rC cX 1 rfl
   exact⟨.tuple #[vB r,.bool q],by simp[results,Tryz.results229,go_sem,q0,q1,vB],by rw[HF.out.1,HF.out.2],Below.trans hb (belowK_b (w:=w) (Nat.le_refl _) W D _ _ (by omega) x0 rfl rfl)⟩
 case stop =>
  rintro D c pre W _ _ h _
  exact h.elim
open Go.RowKit
def Nt (n:Nat):Nat→Nat→Nat
 | 0,r=>r
 | k+1,r=>uC (match Nat.ble ((r+2^k)*(r+2^k)) n with|true=>r+2^k|false=>r) (Nt n k)
theorem Za (n:Nat):∀ k r,Nt n k r=FP.isqGo n k r
 | 0,r=>rfl
 | k+1,r=>by
  rw[Nt,uk,Za n k]
  rw[show FP.isqGo n (k+1) r=FP.isqGo n k (if (r+2^k)*(r+2^k)≤n then r+2^k else r) from rfl]
  congr 1
  by_cases h:(r+2^k)*(r+2^k)≤n
  ·rw[if_pos h,Nat.ble_eq_true_of_le h]
  ·rw[if_neg h]
   cases hb:Nat.ble ((r+2^k)*(r+2^k)) n with
   | true=>exact absurd (Nat.le_of_ble_eq_true hb) h
   | false=>rfl
def IY (n:Nat):List Int:=uC (Nt n 128 0) fun r=>[wd r 1,wd r 0,r9 (Nat.beq (r*r) n)]
theorem Zb (n:Nat):IY n = [wd (FP.isq n) 1,wd (FP.isq n) 0,r9 (decide (FP.isq n*FP.isq n=n))]:=by
 unfold IY
 rw[uk,Za,show FP.isqGo n 128 0=FP.isq n from rfl]
 have:Nat.beq (FP.isq n*FP.isq n) n=decide (FP.isq n*FP.isq n=n):=by
  rw[Bool.eq_iff_iff,decide_eq_true_iff];exact⟨Nat.eq_of_beq_eq_true,fun h=>by rw[h];exact Nat.beq_refl n⟩
 rw[this]
def Nu (l:List Int):List Int:=IY (nW (rF l 0) (rF l 1) (rF l 2) (rF l 3))
abbrev EZ:Ct:=⟨[.agg [kU,kU,kU,kU]],[.agg [kU,kU],.sc .bool]⟩
theorem aia {α:Type} {l:List α} (h:l.length=4):∃ a b c d,l = [a,b,c,d]:=by match l,h with | [a,b,c,d],_=>exact⟨a,b,c,d,rfl⟩
theorem aib (a b c d:Int):rX EZ.a [a,b,c,d] = [vW (nW a b c d)]:=by
 obtain⟨n0,n1,n2,n3,n4⟩:=IM a b c d
 simp only[EZ,rX,ul,sP,tN,yh,Sh.kinds,List.drop_succ_cons,List.drop_zero,List.length_cons,List.length_nil,n0,n1,n2,n3]
theorem aic (r:Nat) (q:Bool):tq (rX EZ.r [wd r 1,wd r 0,r9 q]) = .tuple #[vB r,.bool q]:=by
 simp only[EZ,rX,ul,sP,tN,yh,Sh.kinds,List.drop_succ_cons,List.drop_zero,List.length_cons,List.length_nil,yL,uB,tq]
theorem aid (n:Nat) (hn:n<sI) (w:World) (hG:Gl gG w):Calls Tryz.prog 229 #[vW n] w fun e w'=>e = .returned (.tuple #[vB (FP.isq n),.bool (decide (FP.isq n*FP.isq n=n))])∧rq w w' :=
 callsIn_wide.1 (ah9 3 (Nat.le_refl _) n hn w hG)
theorem aie {args:List Value} {v:Value} (h:∀ w,Gl gG w→Calls Tryz.prog 229 args.toArray w fun e w'=>e = .returned v∧rq w w'):PC Tryz.prog gG 229 args v:=fun w hG =>
 CY Tryz.func229 (by kernel_rfl) (by kernel_rfl) (h w hG)
theorem Zc (a b c d:Int):Nu [a,b,c,d]=IY (nW a b c d):=by rw[Nu];simp only[Ci,Cj]
theorem aif:rG Tryz.prog gG ⟨229,EZ,Nu⟩:=by
 intro l hl
 obtain⟨a,b,c,d,rfl⟩:=aia hl
 have hn:=Rq a b c d
 have h2:PC Tryz.prog gG 229 [vW (nW a b c d)] (tq (rX EZ.r (IY (nW a b c d)))):=by
  rw[Zb,aic]
  exact aie fun w hG=>aid _ hn w hG
 have h1:(IY (nW a b c d)).length=3:=by rw[Zb];rfl
 rw[← aib,← Zc] at h2
 rw[← Zc] at h1
 exact⟨h1,h2⟩
def KL:List sj:=⟨229,EZ,Nu⟩::zF
theorem aig:∀ e∈KL,rG Tryz.prog gG e:=List.forall_mem_cons.2 ⟨aif,Le⟩
open Go.RowKit
abbrev Am:TypeId:=299
def xQ (k:Int) (g:FuncId) (c:Nat):MapEntry := { key:=.int .u8 k,val:=.func (.func g) #[] #[],born:=c }
theorem Zd (w:World) (es:Array MapEntry) (c:Nat) (k:Int) (v:Value) (h:Instr.findNow (.int .u8) (.int .u8 k) es.toList 0=some none) :
  (Instr.mapUpdate Am (.map (some w.heap.size)) (.int .u8 k) v).run Tryz.prog (w.alloc (.map es c)) = .ok () (w.alloc (.map (es.push { key:=.int .u8 k,val:=v,born:=c }) (c+1))):=by
 have hb:(w.alloc (.map es c)).heap[w.heap.size]? = some (.map es c):=by show(w.heap.push _)[w.heap.size]? = _;simp
 have hk:Tryz.prog.underlying 67=some (.int .u8):=by kernel_rfl
 have hm:Tryz.prog.underlying Am=some (.map 67 200):=by kernel_rfl
 have hc:(Instr.checkKey false 10000 67 (.int .u8 k)).run Tryz.prog (w.alloc (.map es c)) = .ok () (w.alloc (.map es c)):=MapKept.run_checkKey (k:=.int .u8 k) hk (by simp[MapKept.IsKey]) false 9999
 have hs:(w.alloc (.map es c)).heap.setIfInBounds w.heap.size (.map (es.push { key:=.int .u8 k,val:=v,born:=c }) (c+1))=w.heap.push (.map (es.push { key:=.int .u8 k,val:=v,born:=c }) (c+1)):=by
  show(w.heap.push _).setIfInBounds w.heap.size _=_
  apply Array.ext'
  simp
 simp[Instr.mapUpdate,run_underlying hm,MapKept.run_getObj_map hb,hc,MapKept.run_findKey hk h,MapKept.run_setObj_map _ hb,Result.andThen,hs]
 rfl
theorem Ze (w:World) (es:Array MapEntry) (c:Nat) (m:Int) (i:Nat) (v:Value) (h:Instr.findNow (.int .u8) (.int .u8 m) es.toList 0=some (some (i,v))) :
  (Instr.lookup Am (.map (some w.heap.size)) (.int .u8 m) true).run Tryz.prog (w.alloc (.map es c)) = .ok (.tuple #[v,.bool true]) (w.alloc (.map es c)):=by
 have hb:(w.alloc (.map es c)).heap[w.heap.size]? = some (.map es c):=by show(w.heap.push _)[w.heap.size]? = _;simp
 have hk:Tryz.prog.underlying 67=some (.int .u8):=by kernel_rfl
 have hm:Tryz.prog.underlying Am=some (.map 67 200):=by kernel_rfl
 have hc:(Instr.checkKey es.isEmpty 10000 67 (.int .u8 m)).run Tryz.prog (w.alloc (.map es c)) = .ok () (w.alloc (.map es c)):=MapKept.run_checkKey (k:=.int .u8 m) hk (by simp[MapKept.IsKey]) _ 9999
 simp[Instr.lookup,run_underlying hm,MapKept.run_getObj_map hb,hc,MapKept.run_findKey hk h,Result.andThen]
theorem aih (w:World) (es:Array MapEntry) (c:Nat) (m:Int) (h:Instr.findNow (.int .u8) (.int .u8 m) es.toList 0=some none) :
  (Instr.lookup Am (.map (some w.heap.size)) (.int .u8 m) true).run Tryz.prog (w.alloc (.map es c)) = .ok (.tuple #[.nilFunc,.bool false]) (w.alloc (.map es c)):=by
 have hb:(w.alloc (.map es c)).heap[w.heap.size]? = some (.map es c):=by show(w.heap.push _)[w.heap.size]? = _;simp
 have hk:Tryz.prog.underlying 67=some (.int .u8):=by kernel_rfl
 have hm:Tryz.prog.underlying Am=some (.map 67 200):=by kernel_rfl
 have hc:(Instr.checkKey es.isEmpty 10000 67 (.int .u8 m)).run Tryz.prog (w.alloc (.map es c)) = .ok () (w.alloc (.map es c)):=MapKept.run_checkKey (k:=.int .u8 m) hk (by simp[MapKept.IsKey]) _ 9999
 have hi:(Tryz.prog.info? 200).bind (·.zero)=some .nilFunc:=by kernel_rfl
 have hz:(zeroValue 200).run Tryz.prog (w.alloc (.map es c)) = .ok .nilFunc (w.alloc (.map es c)):=by
  cases hx:Tryz.prog.info? 200 with
  | none=>rw[hx] at hi;cases hi
  | some x=>rw[hx] at hi;simp at hi;simp[zeroValue,typeInfo,hx,hi]
 simp[Instr.lookup,run_underlying hm,MapKept.run_getObj_map hb,hc,MapKept.run_findKey hk h,hz,Result.andThen]
def ym (c:Int):Value:=if c=0 then .func (.func 227) #[] #[] else if c=3 then .func (.func 127) #[] #[] else .nilFunc
def za (c:Int):Bool:=decide (c=0∨c=3)
theorem aii (w:World) (c:Int):(Instr.lookup Am (.map (some w.heap.size)) (.int .u8 c) true).run Tryz.prog (w.alloc (.map #[xQ 0 227 0,xQ 3 127 1] 2)) = .ok (.tuple #[ym c,.bool (za c)]) (w.alloc (.map #[xQ 0 227 0,xQ 3 127 1] 2)):=by
 by_cases h0:c=0
 ·subst h0;exact Ze w _ _ 0 0 _ rfl
 ·by_cases h3:c=3
  ·subst h3;exact Ze w _ _ 3 1 _ rfl
  ·have hF:ym c = .nilFunc:=by unfold ym;rw[if_neg h0,if_neg h3]
   have hQ:za c=false:=decide_eq_false (by omega)
   rw[hF,hQ]
   refine aih w _ _ c ?_
   have a0:(c==0)=false:=by rw[beq_eq_false_iff_ne];exact h0
   have a3:(c==3)=false:=by rw[beq_eq_false_iff_ne];exact h3
   simp only[xQ,Instr.findNow,Instr.sameNow,if_true]
   rw[a0,a3]
theorem zb {P:Program} {ops:Array Oper} {i:Nat} {o:Oper} {rest:List Nat} {a:Act} {w:World} {Q:Exit→Act→World→Prop} (ho:ops[i]? = some o) (hg:o.guard=none) (h:o.wp P a w (wpOps P ops Q rest) Q):wpOps P ops Q (i::rest) a w:=by
 rw[wpOps];simp only[ho]
 rw[show Region.wanted o (yielded ops a.tmps)=true from by unfold Region.wanted;rw[hg]]
 simp only[if_true]
 exact .inl h
theorem zT {P:Program} {o:Oper} {a:Act} {w w':World} {v:Value} {K:Act→World→Prop} {Q:Exit→Act→World→Prop} (h:(execOp a.eval o).run P w = .ok (.value v) w') (hK:K (a.put o.dst v) w'):o.wp P a w K Q:=by
 unfold Oper.wp;rw[h];exact hK
theorem Zf {P:Program} {o:Oper} {a:Act} {w w':World} {K:Act→World→Prop} {Q:Exit→Act→World→Prop} (h:(execOp a.eval o).run P w = .ok .skip w') (hK:K (a.put o.dst undef) w'):o.wp P a w K Q:=by
 unfold Oper.wp;rw[h];exact hK
def Nv (o:Oper):Option Tmp×Op×Option (Nat×Bool):=(o.dst,o.op,o.guard)
theorem ze {R:Array Oper} {l:List (Option Tmp×Op×Option (Nat×Bool))} (h:R.toList.map Nv=l) {i:Nat} {d:Option Tmp} {op:Op} (hi:l[i]? = some (d,op,none)):∃ o,R[i]? = some o∧o.dst=d∧o.op=op∧o.guard=none:=by
 rw[← h,List.getElem?_map] at hi
 cases ho:R.toList[i]? with
 | none=>rw[ho] at hi;cases hi
 | some o =>
  rw[ho] at hi
  simp only[Option.map_some,Option.some.injEq,Nv,Prod.mk.injEq] at hi
  exact⟨o,by rw[← Array.getElem?_toList];exact ho,hi.1,hi.2.1,hi.2.2⟩
def IZ:Cz:=fun c=>match c with
 | .seq (.region 7 _ _) _=>some 0
 | _=>none
noncomputable def Nw:Code:=(Tryz.f166.body).getD .skip
noncomputable def Cm:Code:=match keyed IZ Nw with|(_,c)::_=>c | []=>.skip
def opsOf:Code→Array Oper | .region _ o _=>o|_=>#[]
def Ny:Code→Code | .seq a _=>a|c=>c
def KM:Code→Code | .seq _ b=>b|c=>c
noncomputable def R7:Array Oper:=opsOf (Ny Cm)
noncomputable def R8:Array Oper:=opsOf (Ny (Ny (KM Cm)))
noncomputable def RG:Code:=KM (Ny (KM Cm))
noncomputable def RH:Code:=KM (KM Cm)
theorem aij:Cm = .seq (.region 7 R7 false) (.seq (.seq (.region 8 R8 false) RG) RH):=by kernel_rfl
theorem aik:keyed IZ Nw = [(0,Cm)]:=by kernel_rfl
theorem KN:R7.toList.map Nv = [(some 52,.makeMap Am none,none),(none,.insert Am (.tmp 52) (.const (.int .u8 0)) (.func 227),none),(none,.insert Am (.tmp 52) (.const (.int .u8 3)) (.func 127),none),(some 53,.move (.tmp 52),none),(some 10,.assign (.tmp 53),none)]:=by kernel_rfl
theorem Cn:R8.toList.map Nv = [(some 55,.move (.tmp 10),none),(some 56,.fieldAddr 196 (.tmp 7) 1,none),(some 57,.load 67 (.tmp 56),none),(some 58,.lookup Am (.tmp 55) (.tmp 57) true,none),(some 54,.move (.tmp 58),none),(some 59,.extract (.tmp 54) 0,none),(some 60,.extract (.tmp 54) 1,none),(some 11,.assign (.tmp 59),none),(some 12,.assign (.tmp 60),none)]:=by kernel_rfl
theorem ail:List.range R7.size = [0,1,2,3,4]:=by kernel_rfl
theorem aim:List.range R8.size = [0,1,2,3,4,5,6,7,8]:=by kernel_rfl
def Fa (T:rT) (c:Int):rT:=fun t=>if t=11 then some (.v (ym c)) else if t=12 then some (.v (.bool (za c))) else if t=10∨(52≤t∧t≤60) then none else T t
theorem ain {T:rT} {d t:Nat} {x:AV} : (T.put (some d) x) t=if t=d then some x else T t:=rfl
theorem Zg (a:Act) (v:Value):a.put none v=a:=rfl
theorem aio {E:tC} {w0:World} {B0:sG} {nt N:Nat} {T T2:rT} {H:ry} {b:Nat} {cs:List AV} {t:TypeId} {c:Int} {Q:yD}
  (hnt:103≤nt) (h7:T 7=some (.loc b 0)) (hb:H b=some (.own cs t)) (hc:vH Tryz.prog 67 cs 1=some (.v (.int .u8 c))) (hf:CP Tryz.prog 196 1 (.loc b 0)=some (.loc b 1))
  (hT2:∀ t x,T2 t=some x→Fa T c t=some x) (h:AW ⟨Tryz.prog,gG,E,w0,B0,nt⟩ RG (F5 (AW ⟨Tryz.prog,gG,E,w0,B0,nt⟩ RH Q) Q) N T2 H):AW ⟨Tryz.prog,gG,E,w0,B0,nt⟩ Cm Q N T H:=by
 intro e a w R hT hI hB hd
 rw[aij]
 obtain⟨p0,g0,d0,k0,q0⟩:=ze KN (i:=0) rfl
 obtain⟨p1,g1,d1,k1,q1⟩:=ze KN (i:=1) rfl
 obtain⟨p2,g2,d2,k2,q2⟩:=ze KN (i:=2) rfl
 obtain⟨p3,g3,d3,k3,q3⟩:=ze KN (i:=3) rfl
 obtain⟨p4,g4,d4,k4,q4⟩:=ze KN (i:=4) rfl
 obtain⟨m,hm⟩:∃ m:Value,m = .map (some w.heap.size):=⟨_,rfl⟩
 have s0:=hT.put (d:=some 52) (fun t ht=>(by cases ht;exact Nat.lt_of_lt_of_le (by decide) hnt)) (.v m)
 simp only[AV.val] at s0
 have s1:=s0.put (d:=some 53) (fun t ht=>(by cases ht;exact Nat.lt_of_lt_of_le (by decide) hnt)) (.v m)
 simp only[AV.val] at s1
 have s2:=s1.put (d:=some 10) (fun t ht=>(by cases ht;exact Nat.lt_of_lt_of_le (by decide) hnt)) (.v m)
 simp only[AV.val] at s2
 have e52:(a.put (some 52) m).eval (.tmp 52)=m:=s0.eval (x:=.tmp 52) (y:=.v m) rfl
 have e53:((a.put (some 52) m).put (some 53) m).eval (.tmp 53)=m:=s1.eval (x:=.tmp 53) (y:=.v m) rfl
 refine wp_seq (wp_region ?_)
 rw[ail]
 refine zb g0 q0 (zT (v:=m) (w':=w.alloc (.map #[] 0)) (by unfold execOp;rw[k0];simp[run_makeMap_plain,hm]) ?_)
 rw[d0]
 refine zb g1 q1 (Zf (w':=w.alloc (.map #[xQ 0 227 0] 1)) (by unfold execOp;rw[k1];simp only[];rw[e52,hm];have:=Zd w #[] 0 0 (.func (.func 227) #[] #[]) rfl;simp[Act.eval,this];rfl) ?_)
 rw[d1,Zg]
 refine zb g2 q2 (Zf (w':=w.alloc (.map #[xQ 0 227 0,xQ 3 127 1] 2)) (by unfold execOp;rw[k2];simp only[];rw[e52,hm];have:=Zd w #[xQ 0 227 0] 1 3 (.func (.func 127) #[] #[]) rfl;simp[Act.eval,this];rfl) ?_)
 rw[d2,Zg]
 refine zb g3 q3 (zT (v:=m) (w':=w.alloc (.map #[xQ 0 227 0,xQ 3 127 1] 2)) (by unfold execOp;rw[k3];simp only[];rw[e52];rfl) ?_)
 rw[d3]
 refine zb g4 q4 (zT (v:=m) (w':=w.alloc (.map #[xQ 0 227 0,xQ 3 127 1] 2)) (by unfold execOp;rw[k4];simp only[];rw[e53];rfl) ?_)
 rw[d4]
 simp only[wpOps]
 have R3:rU gG w0 B0 e H (w.alloc (.map #[xQ 0 227 0,xQ 3 127 1] 2)):=R.below ((rq.refl w).alloc _)
 have hlook:=aii w c
 rw[← hm] at hlook
 generalize w.alloc (.map #[xQ 0 227 0,xQ 3 127 1] 2)=w3 at *
 generalize hT3:((T.put (some 52) (.v m)).put (some 53) (.v m)).put (some 10) (.v m)=T3 at s2
 generalize ha3:((a.put (some 52) m).put (some 53) m).put (some 10) m=a3 at *
 have hd3:a3.defers = []:=by rw[← ha3];simp only[Act.put_defers];exact hd
 have t10:T3 10=some (.v m):=by rw[← hT3];rfl
 have t7:T3 7=some (.loc b 0):=by rw[← hT3];exact h7
 obtain⟨o0,G0,D0,K0,Q0⟩:=ze Cn (i:=0) rfl
 obtain⟨o1,G1,D1,K1,Q1⟩:=ze Cn (i:=1) rfl
 obtain⟨o2,G2,D2,K2,Q2⟩:=ze Cn (i:=2) rfl
 obtain⟨o3,G3,D3,K3,Q3⟩:=ze Cn (i:=3) rfl
 obtain⟨o4,G4,D4,K4,Q4⟩:=ze Cn (i:=4) rfl
 obtain⟨o5,G5,D5,K5,Q5⟩:=ze Cn (i:=5) rfl
 obtain⟨o6,G6,D6,K6,Q6⟩:=ze Cn (i:=6) rfl
 obtain⟨o7,G7,D7,K7,Q7⟩:=ze Cn (i:=7) rfl
 obtain⟨o8,G8,D8,K8,Q8⟩:=ze Cn (i:=8) rfl
 have pt:∀ (d:Nat),d<103→∀ t,some d=some t→t<nt:=fun d hd t ht=>(by cases ht;exact Nat.lt_of_lt_of_le hd hnt)
 obtain⟨tp,htp⟩:∃ tp:Value,tp = .tuple #[ym c,.bool (za c)]:=⟨_,rfl⟩
 have hl:xG Tryz.prog gG 67 H (.loc b 1)=some (.v (.int .u8 c),[b],[]):=by unfold xG;simp only[hb,hc]
 obtain⟨-,hload,-⟩:=Ol hl R3
 obtain⟨hfa,-⟩:=Tz hf R3
 have val_v:∀ v,(AV.v v).val e=v:=fun v=>rfl
 have z1:=s2.put (d:=some 55) (pt 55 (by decide)) (.v m)
 have z2:=z1.put (d:=some 56) (pt 56 (by decide)) (.loc b 1)
 have z3:=z2.put (d:=some 57) (pt 57 (by decide)) (.v (.int .u8 c))
 have z4:=z3.put (d:=some 58) (pt 58 (by decide)) (.v tp)
 have z5:=z4.put (d:=some 54) (pt 54 (by decide)) (.v tp)
 have z6:=z5.put (d:=some 59) (pt 59 (by decide)) (.v (ym c))
 have z7:=z6.put (d:=some 60) (pt 60 (by decide)) (.v (.bool (za c)))
 have z8:=z7.put (d:=some 11) (pt 11 (by decide)) (.v (ym c))
 have z9:=z8.put (d:=some 12) (pt 12 (by decide)) (.v (.bool (za c)))
 have y0:=s2.eval (x:=.tmp 10) t10
 have y1:=z1.eval (x:=.tmp 7) (y:=.loc b 0) t7
 have y2:=z2.eval (x:=.tmp 56) (y:=.loc b 1) rfl
 have y3:=z3.eval (x:=.tmp 55) (y:=.v m) rfl
 have y3':=z3.eval (x:=.tmp 57) (y:=.v (.int .u8 c)) rfl
 have y4:=z4.eval (x:=.tmp 58) (y:=.v tp) rfl
 have y5:=z5.eval (x:=.tmp 54) (y:=.v tp) rfl
 have y6:=z6.eval (x:=.tmp 54) (y:=.v tp) rfl
 have y7:=z7.eval (x:=.tmp 59) (y:=.v (ym c)) rfl
 have y8:=z8.eval (x:=.tmp 60) (y:=.v (.bool (za c))) rfl
 simp only[val_v] at z1 z2 z3 z4 z5 z6 z7 z8 z9 y0 y1 y2 y3 y3' y4 y5 y6 y7 y8
 refine wp_seq (wp_seq (wp_region ?_))
 rw[aim]
 refine zb G0 Q0 (zT (v:=m) (w':=w3) (by unfold execOp;rw[K0];simp only[];rw[y0];rfl) ?_)
 rw[D0]
 refine zb G1 Q1 (zT (v:=(AV.loc b 1).val e) (w':=w3) (by unfold execOp;rw[K1];simp only[];rw[y1];simp[hfa]) ?_)
 rw[D1]
 refine zb G2 Q2 (zT (v:=.int .u8 c) (w':=w3) (by unfold execOp;rw[K2];simp only[];rw[y2];simp only[AV.val] at hload ⊢;simp[hload]) ?_)
 rw[D2]
 refine zb G3 Q3 (zT (v:=tp) (w':=w3) (by unfold execOp;rw[K3];simp only[];rw[y3,y3'];simp[hlook,htp]) ?_)
 rw[D3]
 refine zb G4 Q4 (zT (v:=tp) (w':=w3) (by unfold execOp;rw[K4];simp only[];rw[y4];rfl) ?_)
 rw[D4]
 refine zb G5 Q5 (zT (v:=ym c) (w':=w3) (by unfold execOp;rw[K5];simp only[];rw[y5,htp];rfl) ?_)
 rw[D5]
 refine zb G6 Q6 (zT (v:=.bool (za c)) (w':=w3) (by unfold execOp;rw[K6];simp only[];rw[y6,htp];rfl) ?_)
 rw[D6]
 refine zb G7 Q7 (zT (v:=ym c) (w':=w3) (by unfold execOp;rw[K7];simp only[];rw[y7];rfl) ?_)
 rw[D7]
 refine zb G8 Q8 (zT (v:=.bool (za c)) (w':=w3) (by unfold execOp;rw[K8];simp only[];rw[y8];rfl) ?_)
 rw[D8]
 simp only[wpOps,Exit.then]
 have hTT:∀ t x,Fa T c t=some x→(((((((((T3.put (some 55) (.v m)).put (some 56) (.loc b 1)).put (some 57) (.v (.int .u8 c))).put (some 58) (.v tp)).put (some 54) (.v tp)).put (some 59) (.v (ym c))).put (some 60) (.v (.bool (za c)))).put (some 11) (.v (ym c))).put (some 12) (.v (.bool (za c)))) t=some x:=fun t x hx=>by
  unfold Fa at hx
  rw[← hT3]
  simp only[ain]
  by_cases h11:t=11
  ·rw[if_pos h11] at hx;rw[if_neg (by omega),if_pos h11];exact hx
  ·rw[if_neg h11] at hx
   by_cases h12:t=12
   ·rw[if_pos h12] at hx;rw[if_pos h12];exact hx
   ·rw[if_neg h12] at hx
    by_cases hr:t=10∨(52≤t∧t≤60)
    ·rw[if_pos hr] at hx;cases hx
    ·rw[if_neg hr] at hx
     rw[if_neg h12,if_neg h11,if_neg (by omega),if_neg (by omega),if_neg (by omega),if_neg (by omega),if_neg (by omega),if_neg (by omega),if_neg (by omega),if_neg (by omega),if_neg (by omega),if_neg (by omega)]
     exact hx
 have hII:vG (Fa T c) H:=fun t x hx r hr=>by
  unfold Fa at hx
  split at hx
  ·cases hx;cases hr
  ·split at hx
   ·cases hx;cases hr
   ·split at hx
    ·cases hx
    ·exact hI t x hx r hr
 refine wp_mono (h e _ w3 R3 ⟨z9.1,fun t x hx=>z9.2 t x (hTT t x (hT2 t x hx))⟩ (fun t x hx=>hII t x (hT2 t x hx)) hB (by simp only[Act.put_defers];exact hd3)) ?_
 rintro ex a4 w4 ⟨N4,T4,H4,e4,h1,h2⟩
 cases ex with
 | normal=>exact h1 e4 a4 w4 h2.1 h2.2.1 h2.2.2.1 h2.2.2.2.1 h2.2.2.2.2
 | _=>exact⟨N4,T4,H4,e4,h1,h2⟩
open Go.RowKit
def RI (f q:SV) (i:Nat) (x:Option SV):Option SV:=match Nat.beq i 11 with
 | true=>some f
 | false=>match Nat.beq i 12 with
  | true=>some q
  | false=>match Nat.beq i 10 with
   | true=>none
   | false=>match Nat.ble 52 i,Nat.ble i 60 with
    | true,true=>none
    | _,_=>x
def zf (f q:SV):Nat→rR→rR
 | _,[]=>[]
 | i,x::l=>uC (Nat.succ i) fun j=>RI f q i x::zf f q j l
theorem Zh (f q:SV):∀ (T:rR) (i t:Nat) (y:SV),uX (zf f q i T) t=some y→RI f q (i+t) (uX T t)=some y
 | [],i,t,y,h=>by rw[zf] at h;cases h
 | x::l,i,0,y,h=>by rw[zf,uk] at h;exact h
 | x::l,i,t+1,y,h=>by
  rw[zf,uk] at h
  have:=Zh f q l (i+1) t y h
  rw[show i+(t+1)=i+1+t by omega];exact this
theorem Zi (f q:SV):∀ (T:rR) (i:Nat),(zf f q i T).length=T.length
 | [],i=>rfl
 | x::l,i=>by rw[zf,uk,List.length_cons,Zi f q l,List.length_cons]
theorem aip {f q:SV} {s:rD} {T:rR} {c:Int} (hf:f.den s = .v (ym c)) (hq:q.den s = .v (.bool (za c))):∀ t x,rR.den s (zf f q 0 T) t=some x→Fa (rR.den s T) c t=some x:=by
 intro t x h
 unfold rR.den at h
 cases hg:uX (zf f q 0 T) t with
 | none=>rw[hg] at h;cases h
 | some y =>
  rw[hg] at h
  simp only[Option.map_some,Option.some.injEq] at h
  have h2:=Zh f q T 0 t y hg
  rw[Nat.zero_add] at h2
  unfold RI at h2
  unfold Fa
  split at h2
  ·rename_i hb
   rw[if_pos (Nat.eq_of_beq_eq_true hb)]
   cases h2;rw[← h,hf]
  ·rename_i hb
   have n11:¬ t=11:=fun e=>by rw[e] at hb;cases hb
   rw[if_neg n11]
   split at h2
   ·rename_i hb2
    rw[if_pos (Nat.eq_of_beq_eq_true hb2)]
    cases h2;rw[← h,hq]
   ·rename_i hb2
    have n12:¬ t=12:=fun e=>by rw[e] at hb2;cases hb2
    rw[if_neg n12]
    split at h2
    ·cases h2
    ·rename_i hb3
     have n10:¬ t=10:=fun e=>by rw[e] at hb3;cases hb3
     split at h2
     ·cases h2
     ·rename_i hb4
      rw[if_neg (fun e=>by
       rcases e with e|⟨e1,e2⟩
       ·exact n10 e
       ·exact hb4 (Nat.ble_eq_true_of_le e1) (Nat.ble_eq_true_of_le e2))]
      unfold rR.den
      rw[h2,← h];rfl
noncomputable def KO (C:sW) (f:Nat) (st:St):rf (Exit×St):=(exec C f RG st).bind fun r=>match r.1 with | .normal=>exec C f RH r.2|_=>.leaf r
def Zj (g:FuncId):SV:=.v (.func (.func g) #[] #[])
def Nz (st:St):Option X:=match uX st.T 7 with
 | some (.loc b 0)=>match hget st.H b with
  | some o=>match o.t,o.c with
   | some _,_ :: .int .u8 x::_=>some x
   | _,_=>none
  | none=>none
 | _=>none
noncomputable def NA (C:sW) (f:Nat):DU:=fun _ st=>match Nz st,Nat.ble 103 st.T.length with
 | some x,true=>Ae st.fc (.bin .eql .u8 x (.lit 0)) fun b fc=>match b with
  | true=>KO C f { st with T:=zf (Zj 227) (.bool (.lit 1)) 0 st.T,fc:=fc }
  | false=>Ae fc (.bin .eql .u8 x (.lit 3)) fun b fc=>match b with
   | true=>KO C f { st with T:=zf (Zj 127) (.bool (.lit 1)) 0 st.T,fc:=fc }
   | false=>KO C f { st with T:=zf (.v .nilFunc) (.bool (.lit 0)) 0 st.T,fc:=fc }
 | _,_=>.stuck "map"
theorem aiq {s:rD} {st:St} {x:X} (h:Nz st=some x):∃ b cs t,rR.den s st.T 7=some (.loc b 0)∧SH.den s st.H b=some (.own cs t)∧cs[1]? = some (.v (.int .u8 (x.den s))):=by
 unfold Nz at h
 split at h
 ·rename_i b h7
  split at h
  ·rename_i o ho
   split at h
   ·rename_i t y x' l ht hc
    cases h
    refine⟨b,SV.dens s o.c,t,?_,?_,?_⟩
    ·unfold rR.den;rw[h7];rfl
    ·unfold SH.den;rw[ho];simp only[Option.map_some];rw[SO.den_own s ht]
    ·rw[hc];rfl
   ·cases h
  ·cases h
 ·cases h
theorem RJ {L M:List sj} {S:List uu} (hC:wD (su L M S) eE) {s:rD} {f:Nat} {st:St} {x:X} {fc:Facts} {fv q:SV} (hcl:Nz st=some x) (hlen:Nat.ble 103 st.T.length=true) (hfv:fv.den s = .v (ym (x.den s))) (hq:q.den s = .v (.bool (za (x.den s)))) (hf:sZ s fc)
  {ex:Exit} {st':St} (h:(KO (su L M S) f { st with T:=zf fv q 0 st.T,fc:=fc }).path (su L M S).Φ s=some (ex,st')):Aj (su L M S) eE s Cm st ex st':=by
 obtain⟨b,cs,t,h7,hb,hc⟩:=aiq (s:=s) hcl
 have hld:vH Tryz.prog 67 cs 1=some (.v (.int .u8 (x.den s))):=by
  unfold vH;rw[show CK Tryz.prog 67=some false by kernel_rfl];exact hc
 have hfa:CP Tryz.prog 196 1 (.loc b 0)=some (.loc b 1):=by
  unfold CP;rw[show AJ Tryz.prog 196 1=some (1,67) by kernel_rfl];simp only[];rw[show tJ Tryz.prog 67=some (0+1) by kernel_rfl]
 have hw:=fun w0 B0 Q h=>aio (E:=eE) (w0:=w0) (B0:=B0) (N:=st.N) (Q:=Q) (Nat.le_of_ble_eq_true hlen) h7 hb hld hfa (aip (T:=st.T) hfv hq) h
 unfold KO at h
 obtain⟨ug,st1,h1,h2⟩:=zx h
 have s1:=(GI (E:=eE) (s:=s) hC f).1 _ _ _ _ h1 hf
 have l0:(zf fv q 0 st.T).length=st.T.length:=Zi _ _ _ _
 have l1:st1.T.length=st.T.length:=s1.len.trans l0
 have aw1:=s1.aw
 simp only[l0] at aw1
 rcases EA h2 with⟨rfl,h3⟩|⟨hx,h3⟩
 ·have s2:=(GI (E:=eE) (s:=s) hC f).1 _ _ _ _ h3 s1.fc
  refine⟨fun w0 B0=>hw w0 B0 _ ((aw1 w0 B0).mono ?_),s2.len.trans l1,fun j hj=>?_,s2.fc⟩
  ·rintro y N T H ⟨rfl,rfl,rfl,rfl⟩
   have:=s2.aw w0 B0
   rw[l1] at this
   exact this
  ·obtain⟨a,b⟩:=s2.dt j hj
   obtain⟨a',b'⟩:=s1.dt j a
   exact⟨a',b.trans b'⟩
 ·cases h3
  refine⟨fun w0 B0=>hw w0 B0 _ ((aw1 w0 B0).mono ?_),l1,s1.dt,s1.fc⟩
  rintro y N T H ⟨rfl,rfl,rfl,rfl⟩
  exact EB hx ⟨rfl,rfl,rfl,rfl⟩
theorem air {L M:List sj} {S:List uu} (hC:wD (su L M S) eE) (s:rD) (f:Nat):Good (su L M S) eE s (NA (su L M S) f) (0,Cm):=by
 intro st ex st' h hf
 unfold NA at h
 split at h
 ·rename_i x hx hlen
  obtain⟨fc1,hf1,h⟩:=BO hf h
  have e0:((X.bin .eql .u8 x (.lit 0)).den s != 0)=decide (x.den s=0):=by
   simp only[X.den,rQ,uB];rw[Bool.eq_iff_iff,beq_iff_eq,decide_eq_true_iff]
  rw[e0] at h
  by_cases c0:x.den s=0
  ·rw[decide_eq_true c0] at h
   exact RJ hC hx hlen (by rw[c0];rfl) (by rw[c0];rfl) hf1 h
  ·rw[decide_eq_false c0] at h
   obtain⟨fc2,hf2,h⟩:=BO hf1 h
   have e3:((X.bin .eql .u8 x (.lit 3)).den s != 0)=decide (x.den s=3):=by
    simp only[X.den,rQ,uB];rw[Bool.eq_iff_iff,beq_iff_eq,decide_eq_true_iff]
   rw[e3] at h
   by_cases c3:x.den s=3
   ·rw[decide_eq_true c3] at h
    exact RJ hC hx hlen (by rw[c3];rfl) (by rw[c3];rfl) hf2 h
   ·rw[decide_eq_false c3] at h
    have hF:ym (x.den s) = .nilFunc:=by unfold ym;rw[if_neg c0,if_neg c3]
    have hQ:za (x.den s)=false:=decide_eq_false (by omega)
    exact RJ hC hx hlen (by rw[hF];rfl) (by rw[hQ];rfl) hf2 h
 ·cases h
theorem ais {fn:Func} {cd:Code} (h1:Tryz.prog.funcs[166]? = some fn) (h2:fn.body=some cd):cd=Nw:=by
 rw[Tryz.func166] at h1
 cases h1
 unfold Nw
 rw[h2];rfl
theorem ait {L M:List sj} {S:List uu} (hC:vC (su L M S) eE) (f n:Nat) {ct:Ct} {t:rf SV} (h:Li (su L M S) IZ (NA (su L M S) f) n 166 (rO ct.a (rM 0 (ru ct.a))) (ru ct.a).length=t) (hs:yY (EE (su L M S)) ct (ru ct.a).length t=true) :
  rG (su L M S).P (su L M S).G ⟨166,ct,rH (su L M S).Φ ct t⟩:=fun l hl =>
 al8 hC.ok (fun s fn cd h1 h2 p hp=>by
  rw[ais h1 h2,aik] at hp
  rw[List.mem_singleton.1 hp]
  exact air hC.ok s f) h (ED hs) l hl (Dk hC (by rw[hl];exact hs))
end Go.Proofs.YtbembkamcdlhbaaGreatDoor
