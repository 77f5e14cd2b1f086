import Derived.Test.YtbembkamcdlhbaaGreatDoorWASc
import Derived.Test.YtbembkamcdlhbaaGreatDoorWESc
import Derived.Test.YtbembkamcdlhbaaGreatDoorZBSc
import Derived.Test.YtbembkamcdlhbaaGreatDoorZGSc
import Derived.Test.YtbembkamcdlhbaaGreatDoorZNSc
import Derived.Test.YtbembkamcdlhbaaGreatDoorZRSc
import Derived.Test.YtbembkamcdlhbaaGreatDoorSxHSc
import Derived.Test.YtbembkamcdlhbaaGreatDoorH1Sc
import Derived.Test.YtbembkamcdlhbaaGreatDoorK1Sc
set_option linter.unusedSimpArgs false
set_option linter.unusedVariables false
set_option maxRecDepth 100000
set_option maxHeartbeats 4000000
namespace Go.Proofs.YtbembkamcdlhbaaGreatDoor
open Go.RowKit Go.Shelf
attribute [local go_sem] Oper.semAt_some
def xg:Nat→List (Fin 128)
 | 0=>[]
 | k+1=>if h:k<128 then xg k ++ [⟨k,h⟩] else xg k
theorem Sj {k:Nat} (hk:k<128):xg (k+1)=xg k ++ [⟨k,hk⟩]:=by simp[xg,hk]
theorem Zv:∀ k,k≤128→(xg k).length=k
 | 0,_=>rfl
 | k+1,h=>by rw[Sj (by omega),List.length_append,Zv k (by omega)];rfl
theorem NV {k:Nat} (h:k<128):2^k<rD:=by rw[Mx];exact Nat.pow_lt_pow_right (by decide) h
theorem aiB (m k:Nat) (hk:k<128) (w:World) (hG:Gl gG w):CallsIn Fence.wide m Tryz.prog 74 #[.agg #[.int .u64 0,.int .u64 1],.int .i64 (127-(k:Int))] w fun e w'=>e = .returned (vB (2^(127-k)))∧q9 w w':=callsIn_wide.2 (by
 have h:=Ef (Wx [0,1,127-(k:Int)] rfl).2 Tryz.func74 (by kernel_rfl) (by kernel_rfl) w hG
 simp only[] at h
 have e0:nB 0 1=1:=by unfold nB;rw[show u64 0=0 from by decide,show u64 1=1 from by decide];rfl
 have e1:i64 (127-(k:Int))=((127-k:Nat):Int):=by rw[Fs (by omega) (by omega)];omega
 rw[ahn,e0,e1,Int.toNat_natCast,Nat.one_mul,Nat.mod_eq_of_lt (NV (by omega)),yC] at h
 have z0:u64 0=0:=by decide
 have z1:u64 1=1:=by decide
 have e2:i64 (127-(k:Int))=127-(k:Int):=Fs (by omega) (by omega)
 simpa only[Ff,rV,uk,sP,tQ,Sh.kinds,List.drop_succ_cons,List.drop_zero,List.length_cons,List.length_nil,yA,DW,yX,sW,z0,z1,e2] using h)
theorem Zw (m a b:Nat) (ha:a<rD) (hb:b<rD) (w:World) (hG:Gl gG w):CallsIn Fence.wide m Tryz.prog 298 #[vB a,vB b] w fun e w'=>e = .returned (vW (a*b))∧q9 w w':=callsIn_wide.2 (by
 have h:=Ef (WU [wd a 1,wd a 0,wd b 1,wd b 0] rfl).2 Tryz.func298 (by kernel_rfl) (by kernel_rfl) w hG
 simp only[] at h
 rw[ahz,zO ha,zO hb,Lb] at h
 simpa only[Fg,rV,uk,sP,tQ,Sh.kinds,List.drop_succ_cons,List.drop_zero,List.length_cons,List.length_nil,yA,yX,sW] using h)
theorem aiC (m a b:Nat) (ha:a<sI) (hb:b<sI) (w:World) (hG:Gl gG w):CallsIn Fence.wide m Tryz.prog 304 #[vW a,vW b] w fun e w'=>e = .returned (.int .i64 (uf a b))∧q9 w w':=callsIn_wide.2 (by
 have h:=Ef (YS [wd a 0,wd a 1,wd a 2,wd a 3,wd b 0,wd b 1,wd b 2,wd b 3] rfl).2 Tryz.func304 (by kernel_rfl) (by kernel_rfl) w hG
 simp only[] at h
 rw[aiq,Jn ha,Jn hb] at h
 have hc:i64 (uf a b)=uf a b:=NU a b
 simpa only[Fy,rV,uk,sP,tQ,Sh.kinds,List.drop_succ_cons,List.drop_zero,List.length_cons,List.length_nil,yA,DW,yX,sW,hc] using h)
def Zx (A B:World):Prop:=Gl gG A→Gl gG B
theorem aiD (n:Nat) (hn:1≤n) (l B:Nat) (J Jx:List (Fin 128)→World→Prop) (hJ:AbidesFrom B J)
  (hY:∀ pre x W,J pre W→pre.length<128→YieldAt Fence.wide (n-1) Tryz.prog l #[vB (2^(127-x.1))] W fun e W' =>
   (e = .returned (.bool true)∧J (pre ++ [x]) W'∧Zx W W')∨(e = .returned (.bool false)∧Jx (pre ++ [x]) W'))
  (W:World) (hG:Gl gG W) (h0:J [] W) :
  CallsIn Fence.wide n Tryz.prog 350 #[.func (.yield l) #[] #[]] W fun e W'=>(∃ v,e = .returned v) ∧
   ((∃ ys,ys=xg 128∧J ys W')∨(∃ pre,True∧Jx pre W')):=by
 refine callsIn_of_wp Tryz.func350 rfl trivial ?_ rfl
 have hL:Fence.wide.fn 74:=trivial
 simp only[Tryz.ntmps350,List.size_toArray,List.length_cons,List.length_nil,Nat.reduceAdd,Nat.reduceSub,Array.replicate_succ,Array.replicate_zero,List.push_toArray,List.append_toArray,List.nil_append,List.cons_append]
 gi_wp2
 gi_loopw [2] (fun i wr=>∃ k:Nat,k≤128∧i = .int .i64 (127-(k:Int))∧J (xg k) wr∧Gl gG wr)
  (fun i _=>(intOf i+1).toNat)
 case atStart=>exact⟨0,Nat.zero_le _,rfl,h0,hG⟩
 case round =>
  obtain⟨k,hk,rfl,hJs,hGr⟩:=hrel
  by_cases hlt:k<128
  ·have Hs:=Lib.hid (Sj hlt)
   have hlen:=Zv k hk
   have hge:(0:Int)≤127-(k:Int):=by omega
   gi_wp2_with (gi_at_call 74;refine(aiB (n-1) k hlt wr hGr).mono ?_;rintro e w3 ⟨rfl,hw3⟩;have hJ3:J (xg k) w3:=hJ _ wr w3 none hJs ⟨hw3.os,hw3.tape,hw3.output,hw3.size,fun q hq _=>hw3.block q hq⟩ (fun r e=>by cases e);have hG3:=hGr.bel hw3;obtain⟨fn,tmps,assign,body,hy,hR⟩:=hY _ ⟨k,hlt⟩ w3 hJ3 (by omega);simp only[] at hy)
   refine hR.mono ?_
   rintro e W3 (⟨rfl,hJ4,hk4⟩|⟨rfl,hJx3⟩)
   ·gi_wp2
    go_roundw
    case rel=>exact⟨k+1,by omega,by congr 1;omega,by rw[Hs.out];exact hJ4,hk4 hG3⟩
    case measure=>simp[intOf];omega
   ·gi_wp2
    go_end0
    exact⟨⟨_,rfl⟩,.inr ⟨_,trivial,hJx3⟩⟩
  ·obtain rfl:k=128:=by omega
   gi_wp2
   refine⟨(fun f h=>(by cases h)),?_⟩
   gi_wp2
   go_end0
   exact⟨⟨_,rfl⟩,.inl ⟨_,rfl,hJs⟩⟩
theorem aiE (n:Nat) (hn:1≤n) (w:World) (hG:Gl gG w) :
  SeqStopsK Fence.wide n Tryz.prog 350 #[] (fun x:Fin 128=>#[vB (2^(127-x.1))]) Zx (fun ys=>ys=xg 128)
   (fun _=>True) 128 w:=fun l J Jx W hW hJ _ hY h0=>by
 have hG2:Gl gG W:=hG.bel hW
 exact aiD n hn l W.heap.size J Jx hJ hY W hG2 h0
theorem aiF (n:Nat) (w:World) :
  CallsIn Fence.wide n Tryz.prog 303 #[] w fun e w'=>e = .returned (.func (.func 350) #[] #[])∧w'=w:=by
 refine callsIn_of_wp Tryz.func303 rfl trivial ?_ rfl
 simp only[Tryz.ntmps303,List.size_toArray,List.length_cons,List.length_nil,Nat.reduceAdd,Nat.reduceSub,Array.replicate_succ,Array.replicate_zero,List.push_toArray,List.append_toArray,List.nil_append,List.cons_append]
 gi_wp2
 go_ret
 exact⟨rfl,rfl⟩
def vG (n:Nat) (pre:List (Fin 128)):Nat:=pre.foldl (fun r x=>if (r|||2^(127-x.1))*(r|||2^(127-x.1))≤n then r|||2^(127-x.1) else r) 0
theorem Zy (n:Nat) (pre:List (Fin 128)) (x:Fin 128):vG n (pre ++ [x])=if (vG n pre|||2^(127-x.1))*(vG n pre|||2^(127-x.1))≤n then vG n pre|||2^(127-x.1) else vG n pre:=by
 unfold vG;rw[List.foldl_append];rfl
theorem Zz {a b:Nat} (ha:a<rD) (hb:b<rD):a|||b<rD:=by rw[Mx] at *;exact Nat.or_lt_two_pow ha hb
theorem aiG (n:Nat) (pre:List (Fin 128)):vG n pre<rD:=by
 unfold vG
 suffices k:∀ (pre:List (Fin 128)) (r:Nat),r<rD→pre.foldl (fun r x=>if (r|||2^(127-x.1))*(r|||2^(127-x.1))≤n then r|||2^(127-x.1) else r) r<rD from k pre 0 (by decide)
 intro pre
 induction pre with
 | nil=>intro r h;exact h
 | cons x xs ih =>
  intro r h
  refine ih _ ?_
  dsimp only
  split
  ·exact Zz h (NV (by omega))
  ·exact h
theorem ZA (n:Nat):∀ k,k≤128→(∃ q,vG n (xg k)=q*2^(128-k))∧FP.isqGo n (128-k) (vG n (xg k))=FP.isqGo n 128 0
 | 0,_=>⟨⟨0,by rw[Nat.zero_mul];rfl⟩,rfl⟩
 | k+1,h=>by
  obtain⟨⟨q,hq⟩,h2⟩:=ZA n k (by omega)
  have hk:k<128:=by omega
  rw[Sj hk,Zy]
  obtain⟨i,hi⟩:∃ i,i=127-k:=⟨_,rfl⟩
  rw[show 128-k=i+1 by omega] at hq h2
  rw[show 128-(k+1)=i by omega]
  simp only[← hi]
  have ho:vG n (xg k)|||2^i=vG n (xg k)+2^i:=by
   rw[hq]
   have h:=Nat.two_pow_add_eq_or_of_lt (i:=i+1) (b:=2^i) (Nat.pow_lt_pow_right (by decide) (by omega)) q
   rw[Nat.mul_comm q];exact h.symm
  rw[ho]
  have hg:FP.isqGo n (i+1) (vG n (xg k))=FP.isqGo n i (if (vG n (xg k)+2^i)*(vG n (xg k)+2^i)≤n then vG n (xg k)+2^i else vG n (xg k)):=rfl
  rw[hg] at h2
  refine⟨?_,h2⟩
  split
  ·exact⟨2*q+1,by rw[hq,Nat.pow_succ,Nat.add_mul,Nat.one_mul];congr 1;ac_rfl⟩
  ·exact⟨2*q,by rw[hq,Nat.pow_succ];ac_rfl⟩
theorem aiH (n:Nat):vG n (xg 128)=FP.isq n:=(ZA n 128 (Nat.le_refl _)).2
theorem aiI {p q:Nat} : decide (uf p q≤0)=decide (p≤q):=by
 unfold uf
 by_cases h:p<q
 ·rw[if_pos h,decide_eq_true (show p≤q by omega)];rfl
 ·rw[if_neg h]
  by_cases h2:q<p
  ·rw[if_pos h2,decide_eq_false (show ¬ p≤q by omega)];rfl
  ·rw[if_neg h2,decide_eq_true (show p≤q by omega)];rfl
theorem aiJ {a b:Nat} (ha:a<sI) (hb:b<sI):(wd a 0==wd b 0&&(wd a 1==wd b 1&&(wd a 2==wd b 2&&wd a 3==wd b 3)))=decide (a=b):=by
 rw[Bool.eq_iff_iff]
 simp only[Bool.and_eq_true,beq_iff_eq,decide_eq_true_iff]
 constructor
 ·rintro⟨h0,h1,h2,h3⟩
  rw[← Jn ha,← Jn hb,h0,h1,h2,h3]
 ·rintro rfl;exact⟨rfl,rfl,rfl,rfl⟩
def ZB (n w1 w2 w4:Nat) (m:Nat) (x:Fin 128) (a':Act) (W:World):Prop:=∃ B,m≤B ∧
 a' = { tmps:=#[vW n,.pointer (some ⟨w1,0,none⟩),.pointer (some ⟨w2,0,none⟩),.bool false,.pointer (some ⟨w4,0,none⟩),.pointer (some ⟨B,0,none⟩),undef,.func (.func 350) #[] #[],vB (2^(127-x.1)),undef,undef,undef,undef,undef,undef,undef,undef,undef,undef,undef,undef,undef,undef,undef,undef,undef,undef,undef,undef,undef,undef,undef,undef],defers:=[] } ∧
 W.heap[B]? = some (.cells #[.int .u64 (wd (2^(127-x.1)) 1),.int .u64 (wd (2^(127-x.1)) 0)] 27 (0,0))
theorem aiK (n w1 w2 w4 m:Nat) (x:Fin 128) (a':Act) (B0:Nat):OwnFrom B0 (fun(_:Unit) W=>ZB n w1 w2 w4 m x a' W):=by
 rintro s X Y row ⟨B,hB,ha,hc⟩ hg hr
 refine⟨B,hB,ha,?_⟩
 exact(Own.from (yR B 27 (fun(_:Unit)=>#[.int .u64 (wd (2^(127-x.1)) 1),.int .u64 (wd (2^(127-x.1)) 0)])) B0) () X Y row hc hg hr
theorem aiL (m:Nat) (hm:3≤m) (n:Nat) (hn:n<sI) (w:World) (hG:Gl gG w) :
  CallsIn Fence.wide m Tryz.prog 229 #[vW n] w fun e w'=>e = .returned (.tuple #[vB (FP.isq n),.bool (decide (FP.isq n*FP.isq n=n))])∧q9 w w':=by
 have hn1:1≤m:=by omega
 refine callsIn_of_wp_marks Tryz.func229 rfl trivial ?_ rfl
 simp only[Tryz.ntmps229,List.size_toArray,List.length_cons,List.length_nil,Nat.reduceAdd,Nat.reduceSub,Array.replicate_succ,Array.replicate_zero,List.push_toArray,List.append_toArray,List.nil_append,List.cons_append]
 have h96:Fence.wide.fn 303:=trivial
 have h85:Fence.wide.fn 298:=trivial
 have h97:Fence.wide.fn 304:=trivial
 gi_wp2_with (gi_at_call 303;refine(aiF (m-1) _).mono ?_;rintro e w2 ⟨rfl,rfl⟩)
 obtain⟨W0,hW0⟩:∃ W0,W0=((w.alloc (.cells #[.int .u64 (wd n 0),.int .u64 (wd n 1),.int .u64 (wd n 2),.int .u64 (wd n 3)] 252)).alloc (.cells #[.int .u64 0,.int .u64 0] 27)).alloc (.cells #[.int .u64 0,.int .u64 0] 27):=⟨_,rfl⟩
 have bN:W0.heap[w.heap.size]? = some (.cells #[.int .u64 (wd n 0),.int .u64 (wd n 1),.int .u64 (wd n 2),.int .u64 (wd n 3)] 252 (0,0)):=by rw[hW0];exact heap_alloc (heap_alloc (BO _ _) _) _
 have b2:W0.heap[w.heap.size+1]? = some (.cells #[.int .u64 0,.int .u64 0] 27 (0,0)):=by rw[hW0];exact heap_alloc (JR _ _ _) _
 have b4:W0.heap[w.heap.size+1+1]? = some (.cells #[.int .u64 0,.int .u64 0] 27 (0,0)):=by rw[hW0];exact zz _ _ _ _
 have hB0:Below w.heap.size w W0:=by rw[hW0];show q9 w _;exact(((q9.refl w).alloc _).alloc _).alloc _
 have hsz:W0.heap.size=w.heap.size+1+1+1:=by rw[hW0];simp
 have hG0:Gl gG W0:=hG.bel hB0
 rw[← hW0]
 clear hW0
 have zw:∀ j,wd 0 j=0:=fun j=>by unfold wd;simp
 have z0:vG n []=0:=rfl
 refine wpIn_rangeFunc_ownH rfl hn1 (gf:=350) (lb:=#[]) rfl trivial (enters_of Tryz.func350 (by kernel_rfl) rfl) (aiE (m-1) (by omega) W0 hG0) (fun h1 h2 h=>h2 (h1 h)) ?hKb (Below.refl _ _) (fun _=>rfl)
  (fun pre W=>((W.heap[w.heap.size]? = some (.cells #[.int .u64 (wd n 0),.int .u64 (wd n 1),.int .u64 (wd n 2),.int .u64 (wd n 3)] 252 (0,0))∧W.heap[w.heap.size+1]? = some (.cells #[.int .u64 0,.int .u64 0] 27 (0,0))) ∧
   W.heap[w.heap.size+1+1]? = some (.cells #[.int .u64 (wd (vG n pre) 1),.int .u64 (wd (vG n pre) 0)] 27 (0,0)))∧Below w.heap.size w W)
  (fun _ _ _=>False)
  (OwnFrom.and (OwnFrom.and (OwnFrom.and (Own.from (yR _ _ (fun _=>#[.int .u64 (wd n 0),.int .u64 (wd n 1),.int .u64 (wd n 2),.int .u64 (wd n 3)])) _) (Own.from (yR _ _ (fun _=>#[.int .u64 0,.int .u64 0])) _)) (Own.from (yR _ _ (fun pre=>#[.int .u64 (wd (vG n pre) 1),.int .u64 (wd (vG n pre) 0)])) _)) (ownFrom_below (Nat.le_refl _) (by omega)))
  (fun _ _ _ _ _ hs _ _=>hs)
  ⟨⟨⟨bN,b2⟩,by rw[z0];simp only[zw];exact b4⟩,hB0⟩
  (ZB n w.heap.size (w.heap.size+1) (w.heap.size+1+1) W0.heap.size) (fun x a'=>aiK _ _ _ _ _ x a' _) ?assign ?body ?done ?stop
 case hKb =>
  intro W l o o' hl ho _ _ hGW x hx
  have h1:=(hG0 x hx).1
  have h2:=hGW x hx
  refine⟨by have:=h2.1;simpa using this,fun j v hv=>?_⟩
  have h3:=h2.2 j v hv
  unfold World.cell? at h3 ⊢
  rw[World.putObj_heap_other (show x.1≠l by omega)]
  exact h3
 case assign =>
  intro l pre x W K hI hK
  have hx:2^(127-x.1)<rD:=NV (by omega)
  gi_wp2
  have hlt:=C9 hI.1.2
  exact hK _ _ ((KeepsOthers.alloc W _).from _) (fun h=>h.bel ((q9.refl W).alloc _)) ⟨⟨⟨heap_alloc hI.1.1.1 _,heap_alloc hI.1.1.2 _⟩,heap_alloc hI.1.2 _⟩,q9.alloc hI.2 _⟩ ⟨W.heap.size,by omega,rfl,BO _ _⟩
 case body =>
  rintro l pre x a' V hwl hrec ⟨⟨⟨bN,b2⟩,b4⟩,hB⟩ ⟨B,hmB,rfl,cB⟩ hlt
  have e0:=rA b4 0 rfl
  have e1:=rA b4 1 rfl
  have e2:=rA cB 0 rfl
  have e3:=rA cB 1 rfl
  have hr:=aiG n pre
  have hsn:=Zy n pre x
  generalize vG n pre=r at *
  have hb:2^(127-x.1)<rD:=NV (by omega)
  generalize 2^(127-x.1)=b at *
  have ho1:∀ i,bits .or .u64 (wd r i) (wd b i)=wd (r|||b) i:=fun i=>ahA r b i
  have ht:=Zz hr hb
  gi_wp2
  obtain⟨V4,hV4⟩:∃ V4,V4=V.alloc (.cells #[.int .u64 (wd (r|||b) 1),.int .u64 (wd (r|||b) 0)] 27):=⟨_,rfl⟩
  have dN:V4.heap[w.heap.size]? = some (.cells #[.int .u64 (wd n 0),.int .u64 (wd n 1),.int .u64 (wd n 2),.int .u64 (wd n 3)] 252 (0,0)):=by rw[hV4];exact heap_alloc bN _
  have d2:V4.heap[w.heap.size+1]? = some (.cells #[.int .u64 0,.int .u64 0] 27 (0,0)):=by rw[hV4];exact heap_alloc b2 _
  have d4:V4.heap[w.heap.size+1+1]? = some (.cells #[.int .u64 (wd r 1),.int .u64 (wd r 0)] 27 (0,0)):=by rw[hV4];exact heap_alloc b4 _
  have dT:V4.heap[V.heap.size]? = some (.cells #[.int .u64 (wd (r|||b) 1),.int .u64 (wd (r|||b) 0)] 27 (0,0)):=by rw[hV4];exact BO _ _
  have dB:q9 V V4:=by rw[hV4];exact(q9.refl V).alloc _
  have h4l:=C9 b4
  rw[← hV4]
  clear hV4
  have hGV:Gl gG V:=hG.bel hB
  have hle:decide (uf ((r|||b)*(r|||b)) n≤0)=decide ((r|||b)*(r|||b)≤n):=aiI
  have hmul:=fun W (h:q9 V W)=>Zw (m-1-1-1) (r|||b) (r|||b) ht ht W (hGV.bel h)
  have hcmp:=fun W (h:q9 V W)=>aiC (m-1-1-1) ((r|||b)*(r|||b)) n (by rw[R9];exact Nat.mul_lt_mul'' ht ht) hn W (hGV.bel h)
  generalize r|||b=t at *
  obtain⟨q,hq⟩:∃ q,q=decide (t*t≤n):=⟨_,rfl⟩
  rw[← hq] at hle
  have hq2:(q=true∧t*t≤n)∨(q=false∧¬ t*t≤n):=by
   rw[hq];by_cases h:t*t≤n
   ·exact .inl ⟨decide_eq_true h,h⟩
   ·exact .inr ⟨decide_eq_false h,h⟩
  clear hq
  generalize V.heap.size=Bt at *
  refine C8 (fun(L:Nat→Bool) (A:Act) (W:World)=>∃ u20 u21 u22 u23 u24 u25:Value,A=⟨#[vW n,Value.pointer (some { block:=w.heap.size,off:=0 }),Value.pointer (some { block:=w.heap.size+1,off:=0 }),Value.bool false,Value.pointer (some { block:=w.heap.size+1+1,off:=0 }),Value.pointer (some { block:=B,off:=0 }),Value.pointer (some { block:=Bt,off:=0 }),Value.func (Fn.func 350) #[] #[],vB b,Value.pointer (some { block:=w.heap.size+1+1,off:=0 }),Value.int IntKind.u64 (wd r 1),Value.pointer (some { block:=B,off:=0 }),Value.int IntKind.u64 (wd b 1),Value.int IntKind.u64 (wd t 1),Value.pointer (some { block:=w.heap.size+1+1,off:=1 }),Value.int IntKind.u64 (wd r 0),Value.pointer (some { block:=B,off:=1 }),Value.int IntKind.u64 (wd b 0),Value.int IntKind.u64 (wd t 0),Value.agg #[Value.int IntKind.u64 (wd t 1),Value.int IntKind.u64 (wd t 0)],u20,u21,u22,u23,u24,u25,undef,undef,undef,undef,undef,undef,undef],[]⟩∧q9 V W∧W.heap[w.heap.size]? = some (.cells #[.int .u64 (wd n 0),.int .u64 (wd n 1),.int .u64 (wd n 2),.int .u64 (wd n 3)] 252 (0,0))∧W.heap[w.heap.size+1]? = some (.cells #[.int .u64 0,.int .u64 0] 27 (0,0))∧W.heap[w.heap.size+1+1]? = some (.cells #[.int .u64 (wd r 1),.int .u64 (wd r 0)] 27 (0,0))∧W.heap[Bt]? = some (.cells #[.int .u64 (wd t 1),.int .u64 (wd t 0)] 27 (0,0))∧(L 0=true→u20 = .agg #[.int .u64 (wd t 1),.int .u64 (wd t 0)])∧(L 1=true→u21 = .agg #[.int .u64 (wd t 1),.int .u64 (wd t 0)])∧(L 2=true→u22=vW (t*t))∧(L 3=true→u23 = .agg #[.int .u64 (wd n 0),.int .u64 (wd n 1),.int .u64 (wd n 2),.int .u64 (wd n 3)])∧(L 4=true→u24 = .int .i64 (uf (t*t) n))∧(L 5=true→u25 = .bool q)) (by kernel_rfl) (by kernel_rfl) ?h0 ⟨?s0,?s1,?s2,?s3,?s4,?s5,trivial⟩ ?hd
  case h0 =>
   exact⟨_,_,_,_,_,_,rfl,(q9.drew dB),dN,d2,d4,dT,fun h=>absurd h Bool.false_ne_true,fun h=>absurd h Bool.false_ne_true,fun h=>absurd h Bool.false_ne_true,fun h=>absurd h Bool.false_ne_true,fun h=>absurd h Bool.false_ne_true,fun h=>absurd h Bool.false_ne_true⟩
  case s0 =>
   rintro L _ W K ⟨u20,u21,u22,u23,u24,u25,rfl,hb,c1,c2,c4,c6,f0,f1,f2,f3,f4,f5⟩ hL hD hN hK
   refine sw (su rfl) ?_
   have e0:=rA c6 0 rfl
   have e1:=rA c6 1 rfl
   have hf:=rY c6 0
   go_simp
   refine hK _ _ ⟨_,_,_,_,_,_,rfl,hb,c1,c2,c4,c6,fun _=>rfl,f1,f2,f3,f4,f5⟩
  case s1 =>
   rintro L _ W K ⟨u20,u21,u22,u23,u24,u25,rfl,hb,c1,c2,c4,c6,f0,f1,f2,f3,f4,f5⟩ hL hD hN hK
   refine sw (su rfl) ?_
   have e0:=rA c6 0 rfl
   have e1:=rA c6 1 rfl
   have hf:=rY c6 0
   go_simp
   refine hK _ _ ⟨_,_,_,_,_,_,rfl,hb,c1,c2,c4,c6,f0,fun _=>rfl,f2,f3,f4,f5⟩
  case s2 =>
   rintro L _ W K ⟨u20,u21,u22,u23,u24,u25,rfl,hb,c1,c2,c4,c6,f0,f1,f2,f3,f4,f5⟩ hL hD hN hK
   obtain rfl:=f0 (hD 0 (by kernel_rfl))
   obtain rfl:=f1 (hD 1 (by kernel_rfl))
   refine sw (su rfl) ?_
   go_simp
   refine⟨fun h=>(by first|cases h|omega),(hmul _ hb).mono ?_⟩
   rintro e W1 ⟨rfl,hw⟩
   refine hK _ _ ⟨_,_,_,_,_,_,rfl,(hb.trans hw),(sM c1 hw),(sM c2 hw),(sM c4 hw),(sM c6 hw),f0,f1,fun _=>rfl,f3,f4,f5⟩
  case s3 =>
   rintro L _ W K ⟨u20,u21,u22,u23,u24,u25,rfl,hb,c1,c2,c4,c6,f0,f1,f2,f3,f4,f5⟩ hL hD hN hK
   refine sw (su rfl) ?_
   have e0:=rA c1 0 rfl
   have e1:=rA c1 1 rfl
   have e2:=rA c1 2 rfl
   have e3:=rA c1 3 rfl
   have hf:=rY c1 0
   go_simp
   refine hK _ _ ⟨_,_,_,_,_,_,rfl,hb,c1,c2,c4,c6,f0,f1,f2,fun _=>rfl,f4,f5⟩
  case s4 =>
   rintro L _ W K ⟨u20,u21,u22,u23,u24,u25,rfl,hb,c1,c2,c4,c6,f0,f1,f2,f3,f4,f5⟩ hL hD hN hK
   obtain rfl:=f2 (hD 2 (by kernel_rfl))
   obtain rfl:=f3 (hD 3 (by kernel_rfl))
   refine sw (su rfl) ?_
   go_simp
   refine⟨fun h=>(by first|cases h|omega),(hcmp _ hb).mono ?_⟩
   rintro e W1 ⟨rfl,hw⟩
   refine hK _ _ ⟨_,_,_,_,_,_,rfl,(hb.trans hw),(sM c1 hw),(sM c2 hw),(sM c4 hw),(sM c6 hw),f0,f1,f2,f3,fun _=>rfl,f5⟩
  case s5 =>
   rintro L _ W K ⟨u20,u21,u22,u23,u24,u25,rfl,hb,c1,c2,c4,c6,f0,f1,f2,f3,f4,f5⟩ hL hD hN hK
   obtain rfl:=f4 (hD 4 (by kernel_rfl))
   refine sw (su rfl) ?_
   go_simp
   refine hK _ _ ⟨_,_,_,_,_,_,rfl,hb,c1,c2,c4,c6,f0,f1,f2,f3,f4,fun _=>rfl⟩
  case hd =>
   rintro L _ W ⟨u20,u21,u22,u23,u24,u25,rfl,hb,c1,c2,c4,c6,f0,f1,f2,f3,f4,f5⟩ hall
   obtain rfl:=f0 (hall 0 (by decide))
   obtain rfl:=f1 (hall 1 (by decide))
   obtain rfl:=f2 (hall 2 (by decide))
   obtain rfl:=f3 (hall 3 (by decide))
   obtain rfl:=f4 (hall 4 (by decide))
   obtain rfl:=f5 (hall 5 (by decide))
   have f0:=rA c6 0 rfl
   have f1:=rA c6 1 rfl
   have g0:=rA c4 0 rfl
   have g1:=rA c4 1 rfl
   have g2:=rY c4 0
   have g3:=rY c4 1
   have kO:KeepsOthers V W:=⟨hb.size,fun k o hk _=>sM hk hb⟩
   have hBW:q9 w W:=q9.trans hB hb
   rcases hq2 with⟨rfl,hc⟩|⟨rfl,hc⟩
   ·rw[if_pos hc] at hsn
    gi_wp2
    have hBF:q9 w ((W.setCell ⟨w.heap.size+1+1,0,none⟩ (.int .u64 (wd t 1))).setCell ⟨w.heap.size+1+1,1,none⟩ (.int .u64 (wd t 0))):=q9.set (q9.set hBW (by omega) _) (by omega) _
    refine⟨((kO.trans (KeepsOthers.setCell _ _ _)).trans (KeepsOthers.setCell _ _ _)).from _,fun _=>hG.bel hBF,⟨⟨⟨?_,?_⟩,?_⟩,hBF⟩⟩
    ·exact rH (rH c1 _ _ (by show w.heap.size≠w.heap.size+1+1;omega)) _ _ (by show w.heap.size≠w.heap.size+1+1;omega)
    ·exact rH (rH c2 _ _ (by show w.heap.size+1≠w.heap.size+1+1;omega)) _ _ (by show w.heap.size+1≠w.heap.size+1+1;omega)
    ·rw[hsn];exact heap_set (heap_set c4 _) _
   ·rw[if_neg hc] at hsn
    gi_wp2
    exact⟨kO.from _,fun _=>hG.bel hBW,⟨⟨⟨c1,c2⟩,by rw[hsn];exact c4⟩,hBW⟩⟩
 case done =>
  rintro D ys V hD rfl ⟨⟨⟨bN,b2⟩,b4⟩,hB⟩ hK
  rw[aiH] at b4
  have hr:FP.isq n<rD:=by rw[Mx];exact FP.isq_lt (by rw[← Uy];exact hn)
  obtain⟨r,hre⟩:∃ r,FP.isq n=r:=⟨_,rfl⟩
  rw[hre] at b4 hr
  have hD':w.heap.size+1+1+1≤D:=by rw[← hsz];exact hD
  have hrr:r*r<sI:=by rw[R9];exact Nat.mul_lt_mul'' hr hr
  have hmul:=fun W (h:q9 w W)=>Zw (m-1) r r hr hr W (hG.bel h)
  have hq:=fun W=>Rm (t:=252) (x:=vW (r*r)) (y:=.agg #[.int .u64 (wd n 0),.int .u64 (wd n 1),.int .u64 (wd n 2),.int .u64 (wd n 3)]) (b:=(wd (r*r) 0==wd n 0&&(wd (r*r) 1==wd n 1&&(wd (r*r) 2==wd n 2&&wd (r*r) 3==wd n 3)))) rfl W
  rw[aiJ hrr hn] at hq
  have hq1:=fun W op xo yo=>(hq W).1 op xo yo
  have hq2:=fun W=>(hq W).2.1
  clear hq hn hr hrr
  obtain⟨q,hqd⟩:∃ q,decide (r*r=n)=q:=⟨_,rfl⟩
  rw[hqd] at hq2
  have HF:=Lib.hid (And.intro hre hqd)
  clear hre hqd
  gi_wp2
  refine C8 (fun(L:Nat→Bool) (A:Act) (W:World)=>∃ u27 u28 u29 u30 u31 u32 u3:Value,A=⟨#[vW n,Value.pointer (some { block:=w.heap.size,off:=0 }),Value.pointer (some { block:=w.heap.size+1,off:=0 }),u3,Value.pointer (some { block:=w.heap.size+1+1,off:=0 }),undef,undef,Value.func (Fn.func 350) #[] #[],undef,undef,undef,undef,undef,undef,undef,undef,undef,undef,undef,undef,undef,undef,undef,undef,undef,undef,undef,u27,u28,u29,u30,u31,u32],[{ target:=Target.collected D,args:=#[] }]⟩∧q9 w W∧W.heap[D]? = some (.deferred (some []))∧W.heap[w.heap.size]? = some (.cells #[.int .u64 (wd n 0),.int .u64 (wd n 1),.int .u64 (wd n 2),.int .u64 (wd n 3)] 252 (0,0))∧W.heap[w.heap.size+1]? = some (.cells (bif L 6 then #[.int .u64 (wd r 1),.int .u64 (wd r 0)] else #[.int .u64 0,.int .u64 0]) 27 (0,0))∧W.heap[w.heap.size+1+1]? = some (.cells #[.int .u64 (wd r 1),.int .u64 (wd r 0)] 27 (0,0))∧(L 0=true→u27 = .agg #[.int .u64 (wd r 1),.int .u64 (wd r 0)])∧(L 1=true→u28 = .agg #[.int .u64 (wd r 1),.int .u64 (wd r 0)])∧(L 2=true→u29 = .agg #[.int .u64 (wd r 1),.int .u64 (wd r 0)])∧(L 3=true→u30=vW (r*r))∧(L 4=true→u31 = .agg #[.int .u64 (wd n 0),.int .u64 (wd n 1),.int .u64 (wd n 2),.int .u64 (wd n 3)])∧(L 5=true→u32 = .bool q)∧(L 7=true→u3 = .bool q)) (by kernel_rfl) (by kernel_rfl) ?h0 ⟨?s0,?s1,?s2,?s3,?s4,?s5,?s6,?s7,trivial⟩ ?hd
  case h0 =>
   exact⟨_,_,_,_,_,_,_,rfl,(q9.drew hB),hK,bN,b2,b4,fun h=>absurd h Bool.false_ne_true,fun h=>absurd h Bool.false_ne_true,fun h=>absurd h Bool.false_ne_true,fun h=>absurd h Bool.false_ne_true,fun h=>absurd h Bool.false_ne_true,fun h=>absurd h Bool.false_ne_true,fun h=>absurd h Bool.false_ne_true⟩
  case s0 =>
   rintro L _ W K ⟨u27,u28,u29,u30,u31,u32,u3,rfl,hb,x0,c1,c2,c4,f0,f1,f2,f3,f4,f5,f7⟩ hL hD hN hK
   refine sw (su rfl) ?_
   have e0:=rA c4 0 rfl
   have e1:=rA c4 1 rfl
   have hf:=rY c4 0
   go_simp
   refine hK _ _ ⟨_,_,_,_,_,_,_,rfl,hb,x0,c1,c2,c4,fun _=>rfl,f1,f2,f3,f4,f5,f7⟩
  case s1 =>
   rintro L _ W K ⟨u27,u28,u29,u30,u31,u32,u3,rfl,hb,x0,c1,c2,c4,f0,f1,f2,f3,f4,f5,f7⟩ hL hD hN hK
   refine sw (su rfl) ?_
   have e0:=rA c4 0 rfl
   have e1:=rA c4 1 rfl
   have hf:=rY c4 0
   go_simp
   refine hK _ _ ⟨_,_,_,_,_,_,_,rfl,hb,x0,c1,c2,c4,f0,fun _=>rfl,f2,f3,f4,f5,f7⟩
  case s2 =>
   rintro L _ W K ⟨u27,u28,u29,u30,u31,u32,u3,rfl,hb,x0,c1,c2,c4,f0,f1,f2,f3,f4,f5,f7⟩ hL hD hN hK
   refine sw (su rfl) ?_
   have e0:=rA c4 0 rfl
   have e1:=rA c4 1 rfl
   have hf:=rY c4 0
   go_simp
   refine hK _ _ ⟨_,_,_,_,_,_,_,rfl,hb,x0,c1,c2,c4,f0,f1,fun _=>rfl,f3,f4,f5,f7⟩
  case s3 =>
   rintro L _ W K ⟨u27,u28,u29,u30,u31,u32,u3,rfl,hb,x0,c1,c2,c4,f0,f1,f2,f3,f4,f5,f7⟩ hL hD hN hK
   obtain rfl:=f1 (hD 1 (by kernel_rfl))
   obtain rfl:=f2 (hD 2 (by kernel_rfl))
   refine sw (su rfl) ?_
   go_simp
   refine((hmul _ hb).mono ?_)
   rintro e W1 ⟨rfl,hw⟩
   refine hK _ _ ⟨_,_,_,_,_,_,_,rfl,(hb.trans hw),(sM x0 hw),(sM c1 hw),(sM c2 hw),(sM c4 hw),f0,f1,f2,fun _=>rfl,f4,f5,f7⟩
  case s4 =>
   rintro L _ W K ⟨u27,u28,u29,u30,u31,u32,u3,rfl,hb,x0,c1,c2,c4,f0,f1,f2,f3,f4,f5,f7⟩ hL hD hN hK
   refine sw (su rfl) ?_
   have e0:=rA c1 0 rfl
   have e1:=rA c1 1 rfl
   have e2:=rA c1 2 rfl
   have e3:=rA c1 3 rfl
   have hf:=rY c1 0
   go_simp
   refine hK _ _ ⟨_,_,_,_,_,_,_,rfl,hb,x0,c1,c2,c4,f0,f1,f2,f3,fun _=>rfl,f5,f7⟩
  case s5 =>
   rintro L _ W K ⟨u27,u28,u29,u30,u31,u32,u3,rfl,hb,x0,c1,c2,c4,f0,f1,f2,f3,f4,f5,f7⟩ hL hD hN hK
   obtain rfl:=f3 (hD 3 (by kernel_rfl))
   obtain rfl:=f4 (hD 4 (by kernel_rfl))
   refine sw (su rfl) ?_
   go_simp
   refine hK _ _ ⟨_,_,_,_,_,_,_,rfl,hb,x0,c1,c2,c4,f0,f1,f2,f3,f4,fun _=>rfl,f7⟩
  case s6 =>
   rintro L _ W K ⟨u27,u28,u29,u30,u31,u32,u3,rfl,hb,x0,c1,c2,c4,f0,f1,f2,f3,f4,f5,f7⟩ hL hD hN hK
   obtain rfl:=f0 (hD 0 (by kernel_rfl))
   refine sw (su rfl) ?_
   have hz:L 6=false:=hL
   rw[hz] at c2
   have e0:=rA c2 0 (rfl)
   have h0:=rY c2 0
   have e1:=rA c2 1 (rfl)
   have h1:=rY c2 1
   go_simp
   refine hK _ _ ⟨_,_,_,_,_,_,_,rfl,(q9.set (q9.set hb (by omega) _) (by omega) _),(rH (rH x0 _ _ (by show D≠w.heap.size+1;omega)) _ _ (by show D≠w.heap.size+1;omega)),(rH (rH c1 _ _ (show w.heap.size≠w.heap.size+1 by omega)) _ _ (show w.heap.size≠w.heap.size+1 by omega)),(heap_set (heap_set c2 _) _),(rH (rH c4 _ _ (show w.heap.size+1+1≠w.heap.size+1 by omega)) _ _ (show w.heap.size+1+1≠w.heap.size+1 by omega)),f0,f1,f2,f3,f4,f5,f7⟩
  case s7 =>
   rintro L _ W K ⟨u27,u28,u29,u30,u31,u32,u3,rfl,hb,x0,c1,c2,c4,f0,f1,f2,f3,f4,f5,f7⟩ hL hD hN hK
   obtain rfl:=f5 (hD 5 (by kernel_rfl))
   refine sw (su rfl) ?_
   go_simp
   refine hK _ _ ⟨_,_,_,_,_,_,_,rfl,hb,x0,c1,c2,c4,f0,f1,f2,f3,f4,f5,fun _=>rfl⟩
  case hd =>
   rintro L _ W ⟨u27,u28,u29,u30,u31,u32,u3,rfl,hb,x0,c1,c2,c4,f0,f1,f2,f3,f4,f5,f7⟩ hall
   rw[hall 6 (by decide)] at c2
   obtain rfl:=f0 (hall 0 (by decide))
   obtain rfl:=f1 (hall 1 (by decide))
   obtain rfl:=f2 (hall 2 (by decide))
   obtain rfl:=f3 (hall 3 (by decide))
   obtain rfl:=f4 (hall 4 (by decide))
   obtain rfl:=f5 (hall 5 (by decide))
   obtain rfl:=f7 (hall 7 (by decide))
   gi_wp2
   refine⟨by simp,.inl ⟨_,_,rfl,run_takeDeferred x0,?_⟩⟩
   have cX:(W.putObj D (.deferred none)).heap[w.heap.size+1]? = _:=(World.putObj_heap_other (by omega)).trans c2
   have q0:=rA cX 0 rfl
   have q1:=rA cX 1 rfl
   exact⟨.tuple #[vB r,.bool q],by simp[results,Tryz.results229,go_sem,q0,q1,vB],by rw[HF.out.1,HF.out.2],Below.trans hb (belowK_b (w:=w) (Nat.le_refl _) W D _ _ (by omega) x0 rfl rfl)⟩
 case stop =>
  rintro D c pre W _ _ h _
  exact h.elim
open Go.RowKit
def NW (n:Nat):Nat→Nat→Nat
 | 0,r=>r
 | k+1,r=>uA (match Nat.ble ((r+2^k)*(r+2^k)) n with|true=>r+2^k|false=>r) (NW n k)
theorem ZC (n:Nat):∀ k r,NW n k r=FP.isqGo n k r
 | 0,r=>rfl
 | k+1,r=>by
  rw[NW,uj,ZC n k]
  rw[show FP.isqGo n (k+1) r=FP.isqGo n k (if (r+2^k)*(r+2^k)≤n then r+2^k else r) from rfl]
  congr 1
  by_cases h:(r+2^k)*(r+2^k)≤n
  ·rw[if_pos h,Nat.ble_eq_true_of_le h]
  ·rw[if_neg h]
   cases hb:Nat.ble ((r+2^k)*(r+2^k)) n with
   | true=>exact absurd (Nat.le_of_ble_eq_true hb) h
   | false=>rfl
def Ju (n:Nat):List Int:=uA (NW n 128 0) fun r=>[wd r 1,wd r 0,rZ (Nat.beq (r*r) n)]
theorem ZE (n:Nat):Ju n = [wd (FP.isq n) 1,wd (FP.isq n) 0,rZ (decide (FP.isq n*FP.isq n=n))]:=by
 unfold Ju
 rw[uj,ZC,show FP.isqGo n 128 0=FP.isq n from rfl]
 have:Nat.beq (FP.isq n*FP.isq n) n=decide (FP.isq n*FP.isq n=n):=by
  rw[Bool.eq_iff_iff,decide_eq_true_iff];exact⟨Nat.eq_of_beq_eq_true,fun h=>by rw[h];exact Nat.beq_refl n⟩
 rw[this]
def NY (l:List Int):List Int:=Ju (nW (rE l 0) (rE l 1) (rE l 2) (rE l 3))
abbrev FC:Ct:=⟨[.agg [kU,kU,kU,kU]],[.agg [kU,kU],.sc .bool]⟩
theorem aiM {α:Type} {l:List α} (h:l.length=4):∃ a b c d,l = [a,b,c,d]:=by match l,h with | [a,b,c,d],_=>exact⟨a,b,c,d,rfl⟩
theorem aiN (a b c d:Int):rV FC.a [a,b,c,d] = [vW (nW a b c d)]:=by
 obtain⟨n0,n1,n2,n3,n4⟩:=Jm a b c d
 simp only[FC,rV,uk,sP,tQ,yA,Sh.kinds,List.drop_succ_cons,List.drop_zero,List.length_cons,List.length_nil,n0,n1,n2,n3]
theorem aiO (r:Nat) (q:Bool):sW (rV FC.r [wd r 1,wd r 0,rZ q]) = .tuple #[vB r,.bool q]:=by
 simp only[FC,rV,uk,sP,tQ,yA,Sh.kinds,List.drop_succ_cons,List.drop_zero,List.length_cons,List.length_nil,yX,uz,sW]
theorem aiP (n:Nat) (hn:n<sI) (w:World) (hG:Gl gG w):Calls Tryz.prog 229 #[vW n] w fun e w'=>e = .returned (.tuple #[vB (FP.isq n),.bool (decide (FP.isq n*FP.isq n=n))])∧q9 w w' :=
 callsIn_wide.1 (aiL 3 (Nat.le_refl _) n hn w hG)
theorem aiQ {args:List Value} {v:Value} (h:∀ w,Gl gG w→Calls Tryz.prog 229 args.toArray w fun e w'=>e = .returned v∧q9 w w'):PC Tryz.prog gG 229 args v:=fun w hG =>
 Dl Tryz.func229 (by kernel_rfl) (by kernel_rfl) (h w hG)
theorem ZF (a b c d:Int):NY [a,b,c,d]=Ju (nW a b c d):=by rw[NY];simp only[Cz,CB]
theorem aiR:rF Tryz.prog gG ⟨229,FC,NY⟩:=by
 intro l hl
 obtain⟨a,b,c,d,rfl⟩:=aiM hl
 have hn:=RY a b c d
 have h2:PC Tryz.prog gG 229 [vW (nW a b c d)] (sW (rV FC.r (Ju (nW a b c d)))):=by
  rw[ZE,aiO]
  exact aiQ fun w hG=>aiP _ hn w hG
 have h1:(Ju (nW a b c d)).length=3:=by rw[ZE];rfl
 rw[← aiN,← ZF] at h2
 rw[← ZF] at h1
 exact⟨h1,h2⟩
def Li:List si:=⟨229,FC,NY⟩::zP
theorem aiS:∀ e∈Li,rF Tryz.prog gG e:=List.forall_mem_cons.2 ⟨aiR,LV⟩
open Go.RowKit
abbrev AB:TypeId:=299
def xX (k:Int) (g:FuncId) (c:Nat):MapEntry := { key:=.int .u8 k,val:=.func (.func g) #[] #[],born:=c }
theorem ZG (w:World) (es:Array MapEntry) (c:Nat) (k:Int) (v:Value) (h:Instr.findNow (.int .u8) (.int .u8 k) es.toList 0=some none) :
  (Instr.mapUpdate AB (.map (some w.heap.size)) (.int .u8 k) v).run Tryz.prog (w.alloc (.map es c)) = .ok () (w.alloc (.map (es.push { key:=.int .u8 k,val:=v,born:=c }) (c+1))):=by
 have hb:(w.alloc (.map es c)).heap[w.heap.size]? = some (.map es c):=by show(w.heap.push _)[w.heap.size]? = _;simp
 have hk:Tryz.prog.underlying 67=some (.int .u8):=by kernel_rfl
 have hm:Tryz.prog.underlying AB=some (.map 67 200):=by kernel_rfl
 have hc:(Instr.checkKey false 10000 67 (.int .u8 k)).run Tryz.prog (w.alloc (.map es c)) = .ok () (w.alloc (.map es c)):=MapKept.run_checkKey (k:=.int .u8 k) hk (by simp[MapKept.IsKey]) false 9999
 have hs:(w.alloc (.map es c)).heap.setIfInBounds w.heap.size (.map (es.push { key:=.int .u8 k,val:=v,born:=c }) (c+1))=w.heap.push (.map (es.push { key:=.int .u8 k,val:=v,born:=c }) (c+1)):=by
  show(w.heap.push _).setIfInBounds w.heap.size _=_
  apply Array.ext'
  simp
 simp[Instr.mapUpdate,run_underlying hm,MapKept.run_getObj_map hb,hc,MapKept.run_findKey hk h,MapKept.run_setObj_map _ hb,Result.andThen,hs]
 rfl
theorem ZH (w:World) (es:Array MapEntry) (c:Nat) (m:Int) (i:Nat) (v:Value) (h:Instr.findNow (.int .u8) (.int .u8 m) es.toList 0=some (some (i,v))) :
  (Instr.lookup AB (.map (some w.heap.size)) (.int .u8 m) true).run Tryz.prog (w.alloc (.map es c)) = .ok (.tuple #[v,.bool true]) (w.alloc (.map es c)):=by
 have hb:(w.alloc (.map es c)).heap[w.heap.size]? = some (.map es c):=by show(w.heap.push _)[w.heap.size]? = _;simp
 have hk:Tryz.prog.underlying 67=some (.int .u8):=by kernel_rfl
 have hm:Tryz.prog.underlying AB=some (.map 67 200):=by kernel_rfl
 have hc:(Instr.checkKey es.isEmpty 10000 67 (.int .u8 m)).run Tryz.prog (w.alloc (.map es c)) = .ok () (w.alloc (.map es c)):=MapKept.run_checkKey (k:=.int .u8 m) hk (by simp[MapKept.IsKey]) _ 9999
 simp[Instr.lookup,run_underlying hm,MapKept.run_getObj_map hb,hc,MapKept.run_findKey hk h,Result.andThen]
theorem aiT (w:World) (es:Array MapEntry) (c:Nat) (m:Int) (h:Instr.findNow (.int .u8) (.int .u8 m) es.toList 0=some none) :
  (Instr.lookup AB (.map (some w.heap.size)) (.int .u8 m) true).run Tryz.prog (w.alloc (.map es c)) = .ok (.tuple #[.nilFunc,.bool false]) (w.alloc (.map es c)):=by
 have hb:(w.alloc (.map es c)).heap[w.heap.size]? = some (.map es c):=by show(w.heap.push _)[w.heap.size]? = _;simp
 have hk:Tryz.prog.underlying 67=some (.int .u8):=by kernel_rfl
 have hm:Tryz.prog.underlying AB=some (.map 67 200):=by kernel_rfl
 have hc:(Instr.checkKey es.isEmpty 10000 67 (.int .u8 m)).run Tryz.prog (w.alloc (.map es c)) = .ok () (w.alloc (.map es c)):=MapKept.run_checkKey (k:=.int .u8 m) hk (by simp[MapKept.IsKey]) _ 9999
 have hi:(Tryz.prog.info? 200).bind (·.zero)=some .nilFunc:=by kernel_rfl
 have hz:(zeroValue 200).run Tryz.prog (w.alloc (.map es c)) = .ok .nilFunc (w.alloc (.map es c)):=by
  cases hx:Tryz.prog.info? 200 with
  | none=>rw[hx] at hi;cases hi
  | some x=>rw[hx] at hi;simp at hi;simp[zeroValue,typeInfo,hx,hi]
 simp[Instr.lookup,run_underlying hm,MapKept.run_getObj_map hb,hc,MapKept.run_findKey hk h,hz,Result.andThen]
def yF (c:Int):Value:=if c=0 then .func (.func 227) #[] #[] else if c=3 then .func (.func 127) #[] #[] else .nilFunc
def zo (c:Int):Bool:=decide (c=0∨c=3)
theorem aiU (w:World) (c:Int):(Instr.lookup AB (.map (some w.heap.size)) (.int .u8 c) true).run Tryz.prog (w.alloc (.map #[xX 0 227 0,xX 3 127 1] 2)) = .ok (.tuple #[yF c,.bool (zo c)]) (w.alloc (.map #[xX 0 227 0,xX 3 127 1] 2)):=by
 by_cases h0:c=0
 ·subst h0;exact ZH w _ _ 0 0 _ rfl
 ·by_cases h3:c=3
  ·subst h3;exact ZH w _ _ 3 1 _ rfl
  ·have hF:yF c = .nilFunc:=by unfold yF;rw[if_neg h0,if_neg h3]
   have hQ:zo c=false:=decide_eq_false (by omega)
   rw[hF,hQ]
   refine aiT w _ _ c ?_
   have a0:(c==0)=false:=by rw[beq_eq_false_iff_ne];exact h0
   have a3:(c==3)=false:=by rw[beq_eq_false_iff_ne];exact h3
   simp only[xX,Instr.findNow,Instr.sameNow,if_true]
   rw[a0,a3]
theorem zq {P:Program} {ops:Array Oper} {i:Nat} {o:Oper} {rest:List Nat} {a:Act} {w:World} {Q:Exit→Act→World→Prop} (ho:ops[i]? = some o) (hg:o.guard=none) (h:o.wp P a w (wpOps P ops Q rest) Q):wpOps P ops Q (i::rest) a w:=by
 rw[wpOps];simp only[ho]
 rw[show Region.wanted o (yielded ops a.tmps)=true from by unfold Region.wanted;rw[hg]]
 simp only[if_true]
 exact .inl h
theorem Ad {P:Program} {o:Oper} {a:Act} {w w':World} {v:Value} {K:Act→World→Prop} {Q:Exit→Act→World→Prop} (h:(execOp a.eval o).run P w = .ok (.value v) w') (hK:K (a.put o.dst v) w'):o.wp P a w K Q:=by
 unfold Oper.wp;rw[h];exact hK
theorem ZI {P:Program} {o:Oper} {a:Act} {w w':World} {K:Act→World→Prop} {Q:Exit→Act→World→Prop} (h:(execOp a.eval o).run P w = .ok .skip w') (hK:K (a.put o.dst undef) w'):o.wp P a w K Q:=by
 unfold Oper.wp;rw[h];exact hK
def N7 (o:Oper):Option Tmp×Op×Option (Nat×Bool):=(o.dst,o.op,o.guard)
theorem zt {R:Array Oper} {l:List (Option Tmp×Op×Option (Nat×Bool))} (h:R.toList.map N7=l) {i:Nat} {d:Option Tmp} {op:Op} (hi:l[i]? = some (d,op,none)):∃ o,R[i]? = some o∧o.dst=d∧o.op=op∧o.guard=none:=by
 rw[← h,List.getElem?_map] at hi
 cases ho:R.toList[i]? with
 | none=>rw[ho] at hi;cases hi
 | some o =>
  rw[ho] at hi
  simp only[Option.map_some,Option.some.injEq,N7,Prod.mk.injEq] at hi
  exact⟨o,by rw[← Array.getElem?_toList];exact ho,hi.1,hi.2.1,hi.2.2⟩
def Jv:CX:=fun c=>match c with
 | .seq (.region 7 _ _) _=>some 0
 | _=>none
noncomputable def N8:Code:=(Tryz.f166.body).getD .skip
noncomputable def CG:Code:=match keyed Jv N8 with|(_,c)::_=>c | []=>.skip
def opsOf:Code→Array Oper | .region _ o _=>o|_=>#[]
def N9:Code→Code | .seq a _=>a|c=>c
def Lj:Code→Code | .seq _ b=>b|c=>c
noncomputable def R7:Array Oper:=opsOf (N9 CG)
noncomputable def R8:Array Oper:=opsOf (N9 (N9 (Lj CG)))
noncomputable def Sk:Code:=Lj (N9 (Lj CG))
noncomputable def Sl:Code:=Lj (Lj CG)
theorem aiV:CG = .seq (.region 7 R7 false) (.seq (.seq (.region 8 R8 false) Sk) Sl):=by kernel_rfl
theorem aiW:keyed Jv N8 = [(0,CG)]:=by kernel_rfl
theorem Ll:R7.toList.map N7 = [(some 52,.makeMap AB none,none),(none,.insert AB (.tmp 52) (.const (.int .u8 0)) (.func 227),none),(none,.insert AB (.tmp 52) (.const (.int .u8 3)) (.func 127),none),(some 53,.move (.tmp 52),none),(some 10,.assign (.tmp 53),none)]:=by kernel_rfl
theorem CJ:R8.toList.map N7 = [(some 55,.move (.tmp 10),none),(some 56,.fieldAddr 196 (.tmp 7) 1,none),(some 57,.load 67 (.tmp 56),none),(some 58,.lookup AB (.tmp 55) (.tmp 57) true,none),(some 54,.move (.tmp 58),none),(some 59,.extract (.tmp 54) 0,none),(some 60,.extract (.tmp 54) 1,none),(some 11,.assign (.tmp 59),none),(some 12,.assign (.tmp 60),none)]:=by kernel_rfl
theorem aiX:List.range R7.size = [0,1,2,3,4]:=by kernel_rfl
theorem aiY:List.range R8.size = [0,1,2,3,4,5,6,7,8]:=by kernel_rfl
def FD (T:rR) (c:Int):rR:=fun t=>if t=11 then some (.v (yF c)) else if t=12 then some (.v (.bool (zo c))) else if t=10∨(52≤t∧t≤60) then none else T t
theorem aiZ {T:rR} {d t:Nat} {x:AV} : (T.put (some d) x) t=if t=d then some x else T t:=rfl
theorem ZJ (a:Act) (v:Value):a.put none v=a:=rfl
theorem ai0 {E:tu} {w0:World} {B0:sG} {nt N:Nat} {T T2:rR} {H:ru} {b:Nat} {cs:List AV} {t:TypeId} {c:Int} {Q:yO}
  (hnt:103≤nt) (h7:T 7=some (.loc b 0)) (hb:H b=some (.own cs t)) (hc:vL Tryz.prog 67 cs 1=some (.v (.int .u8 c))) (hf:De Tryz.prog 196 1 (.loc b 0)=some (.loc b 1))
  (hT2:∀ t x,T2 t=some x→FD T c t=some x) (h:AW ⟨Tryz.prog,gG,E,w0,B0,nt⟩ Sk (Gx (AW ⟨Tryz.prog,gG,E,w0,B0,nt⟩ Sl Q) Q) N T2 H):AW ⟨Tryz.prog,gG,E,w0,B0,nt⟩ CG Q N T H:=by
 intro e a w R hT hI hB hd
 rw[aiV]
 obtain⟨p0,g0,d0,k0,q0⟩:=zt Ll (i:=0) rfl
 obtain⟨p1,g1,d1,k1,q1⟩:=zt Ll (i:=1) rfl
 obtain⟨p2,g2,d2,k2,q2⟩:=zt Ll (i:=2) rfl
 obtain⟨p3,g3,d3,k3,q3⟩:=zt Ll (i:=3) rfl
 obtain⟨p4,g4,d4,k4,q4⟩:=zt Ll (i:=4) rfl
 obtain⟨m,hm⟩:∃ m:Value,m = .map (some w.heap.size):=⟨_,rfl⟩
 have s0:=hT.put (d:=some 52) (fun t ht=>(by cases ht;exact Nat.lt_of_lt_of_le (by decide) hnt)) (.v m)
 simp only[AV.val] at s0
 have s1:=s0.put (d:=some 53) (fun t ht=>(by cases ht;exact Nat.lt_of_lt_of_le (by decide) hnt)) (.v m)
 simp only[AV.val] at s1
 have s2:=s1.put (d:=some 10) (fun t ht=>(by cases ht;exact Nat.lt_of_lt_of_le (by decide) hnt)) (.v m)
 simp only[AV.val] at s2
 have e52:(a.put (some 52) m).eval (.tmp 52)=m:=s0.eval (x:=.tmp 52) (y:=.v m) rfl
 have e53:((a.put (some 52) m).put (some 53) m).eval (.tmp 53)=m:=s1.eval (x:=.tmp 53) (y:=.v m) rfl
 refine wp_seq (wp_region ?_)
 rw[aiX]
 refine zq g0 q0 (Ad (v:=m) (w':=w.alloc (.map #[] 0)) (by unfold execOp;rw[k0];simp[run_makeMap_plain,hm]) ?_)
 rw[d0]
 refine zq g1 q1 (ZI (w':=w.alloc (.map #[xX 0 227 0] 1)) (by unfold execOp;rw[k1];simp only[];rw[e52,hm];have:=ZG w #[] 0 0 (.func (.func 227) #[] #[]) rfl;simp[Act.eval,this];rfl) ?_)
 rw[d1,ZJ]
 refine zq g2 q2 (ZI (w':=w.alloc (.map #[xX 0 227 0,xX 3 127 1] 2)) (by unfold execOp;rw[k2];simp only[];rw[e52,hm];have:=ZG w #[xX 0 227 0] 1 3 (.func (.func 127) #[] #[]) rfl;simp[Act.eval,this];rfl) ?_)
 rw[d2,ZJ]
 refine zq g3 q3 (Ad (v:=m) (w':=w.alloc (.map #[xX 0 227 0,xX 3 127 1] 2)) (by unfold execOp;rw[k3];simp only[];rw[e52];rfl) ?_)
 rw[d3]
 refine zq g4 q4 (Ad (v:=m) (w':=w.alloc (.map #[xX 0 227 0,xX 3 127 1] 2)) (by unfold execOp;rw[k4];simp only[];rw[e53];rfl) ?_)
 rw[d4]
 simp only[wpOps]
 have R3:rT gG w0 B0 e H (w.alloc (.map #[xX 0 227 0,xX 3 127 1] 2)):=R.below ((q9.refl w).alloc _)
 have hlook:=aiU w c
 rw[← hm] at hlook
 generalize w.alloc (.map #[xX 0 227 0,xX 3 127 1] 2)=w3 at *
 generalize hT3:((T.put (some 52) (.v m)).put (some 53) (.v m)).put (some 10) (.v m)=T3 at s2
 generalize ha3:((a.put (some 52) m).put (some 53) m).put (some 10) m=a3 at *
 have hd3:a3.defers = []:=by rw[← ha3];simp only[Act.put_defers];exact hd
 have t10:T3 10=some (.v m):=by rw[← hT3];rfl
 have t7:T3 7=some (.loc b 0):=by rw[← hT3];exact h7
 obtain⟨o0,G0,D0,K0,Q0⟩:=zt CJ (i:=0) rfl
 obtain⟨o1,G1,D1,K1,Q1⟩:=zt CJ (i:=1) rfl
 obtain⟨o2,G2,D2,K2,Q2⟩:=zt CJ (i:=2) rfl
 obtain⟨o3,G3,D3,K3,Q3⟩:=zt CJ (i:=3) rfl
 obtain⟨o4,G4,D4,K4,Q4⟩:=zt CJ (i:=4) rfl
 obtain⟨o5,G5,D5,K5,Q5⟩:=zt CJ (i:=5) rfl
 obtain⟨o6,G6,D6,K6,Q6⟩:=zt CJ (i:=6) rfl
 obtain⟨o7,G7,D7,K7,Q7⟩:=zt CJ (i:=7) rfl
 obtain⟨o8,G8,D8,K8,Q8⟩:=zt CJ (i:=8) rfl
 have pt:∀ (d:Nat),d<103→∀ t,some d=some t→t<nt:=fun d hd t ht=>(by cases ht;exact Nat.lt_of_lt_of_le hd hnt)
 obtain⟨tp,htp⟩:∃ tp:Value,tp = .tuple #[yF c,.bool (zo c)]:=⟨_,rfl⟩
 have hl:xM Tryz.prog gG 67 H (.loc b 1)=some (.v (.int .u8 c),[b],[]):=by unfold xM;simp only[hb,hc]
 obtain⟨-,hload,-⟩:=OT hl R3
 obtain⟨hfa,-⟩:=Uf hf R3
 have val_v:∀ v,(AV.v v).val e=v:=fun v=>rfl
 have z1:=s2.put (d:=some 55) (pt 55 (by decide)) (.v m)
 have z2:=z1.put (d:=some 56) (pt 56 (by decide)) (.loc b 1)
 have z3:=z2.put (d:=some 57) (pt 57 (by decide)) (.v (.int .u8 c))
 have z4:=z3.put (d:=some 58) (pt 58 (by decide)) (.v tp)
 have z5:=z4.put (d:=some 54) (pt 54 (by decide)) (.v tp)
 have z6:=z5.put (d:=some 59) (pt 59 (by decide)) (.v (yF c))
 have z7:=z6.put (d:=some 60) (pt 60 (by decide)) (.v (.bool (zo c)))
 have z8:=z7.put (d:=some 11) (pt 11 (by decide)) (.v (yF c))
 have z9:=z8.put (d:=some 12) (pt 12 (by decide)) (.v (.bool (zo c)))
 have y0:=s2.eval (x:=.tmp 10) t10
 have y1:=z1.eval (x:=.tmp 7) (y:=.loc b 0) t7
 have y2:=z2.eval (x:=.tmp 56) (y:=.loc b 1) rfl
 have y3:=z3.eval (x:=.tmp 55) (y:=.v m) rfl
 have y3':=z3.eval (x:=.tmp 57) (y:=.v (.int .u8 c)) rfl
 have y4:=z4.eval (x:=.tmp 58) (y:=.v tp) rfl
 have y5:=z5.eval (x:=.tmp 54) (y:=.v tp) rfl
 have y6:=z6.eval (x:=.tmp 54) (y:=.v tp) rfl
 have y7:=z7.eval (x:=.tmp 59) (y:=.v (yF c)) rfl
 have y8:=z8.eval (x:=.tmp 60) (y:=.v (.bool (zo c))) rfl
 simp only[val_v] at z1 z2 z3 z4 z5 z6 z7 z8 z9 y0 y1 y2 y3 y3' y4 y5 y6 y7 y8
 refine wp_seq (wp_seq (wp_region ?_))
 rw[aiY]
 refine zq G0 Q0 (Ad (v:=m) (w':=w3) (by unfold execOp;rw[K0];simp only[];rw[y0];rfl) ?_)
 rw[D0]
 refine zq G1 Q1 (Ad (v:=(AV.loc b 1).val e) (w':=w3) (by unfold execOp;rw[K1];simp only[];rw[y1];simp[hfa]) ?_)
 rw[D1]
 refine zq G2 Q2 (Ad (v:=.int .u8 c) (w':=w3) (by unfold execOp;rw[K2];simp only[];rw[y2];simp only[AV.val] at hload ⊢;simp[hload]) ?_)
 rw[D2]
 refine zq G3 Q3 (Ad (v:=tp) (w':=w3) (by unfold execOp;rw[K3];simp only[];rw[y3,y3'];simp[hlook,htp]) ?_)
 rw[D3]
 refine zq G4 Q4 (Ad (v:=tp) (w':=w3) (by unfold execOp;rw[K4];simp only[];rw[y4];rfl) ?_)
 rw[D4]
 refine zq G5 Q5 (Ad (v:=yF c) (w':=w3) (by unfold execOp;rw[K5];simp only[];rw[y5,htp];rfl) ?_)
 rw[D5]
 refine zq G6 Q6 (Ad (v:=.bool (zo c)) (w':=w3) (by unfold execOp;rw[K6];simp only[];rw[y6,htp];rfl) ?_)
 rw[D6]
 refine zq G7 Q7 (Ad (v:=yF c) (w':=w3) (by unfold execOp;rw[K7];simp only[];rw[y7];rfl) ?_)
 rw[D7]
 refine zq G8 Q8 (Ad (v:=.bool (zo c)) (w':=w3) (by unfold execOp;rw[K8];simp only[];rw[y8];rfl) ?_)
 rw[D8]
 simp only[wpOps,Exit.then]
 have hTT:∀ t x,FD T c t=some x→(((((((((T3.put (some 55) (.v m)).put (some 56) (.loc b 1)).put (some 57) (.v (.int .u8 c))).put (some 58) (.v tp)).put (some 54) (.v tp)).put (some 59) (.v (yF c))).put (some 60) (.v (.bool (zo c)))).put (some 11) (.v (yF c))).put (some 12) (.v (.bool (zo c)))) t=some x:=fun t x hx=>by
  unfold FD at hx
  rw[← hT3]
  simp only[aiZ]
  by_cases h11:t=11
  ·rw[if_pos h11] at hx;rw[if_neg (by omega),if_pos h11];exact hx
  ·rw[if_neg h11] at hx
   by_cases h12:t=12
   ·rw[if_pos h12] at hx;rw[if_pos h12];exact hx
   ·rw[if_neg h12] at hx
    by_cases hr:t=10∨(52≤t∧t≤60)
    ·rw[if_pos hr] at hx;cases hx
    ·rw[if_neg hr] at hx
     rw[if_neg h12,if_neg h11,if_neg (by omega),if_neg (by omega),if_neg (by omega),if_neg (by omega),if_neg (by omega),if_neg (by omega),if_neg (by omega),if_neg (by omega),if_neg (by omega),if_neg (by omega)]
     exact hx
 have hII:vK (FD T c) H:=fun t x hx r hr=>by
  unfold FD at hx
  split at hx
  ·cases hx;cases hr
  ·split at hx
   ·cases hx;cases hr
   ·split at hx
    ·cases hx
    ·exact hI t x hx r hr
 refine wp_mono (h e _ w3 R3 ⟨z9.1,fun t x hx=>z9.2 t x (hTT t x (hT2 t x hx))⟩ (fun t x hx=>hII t x (hT2 t x hx)) hB (by simp only[Act.put_defers];exact hd3)) ?_
 rintro ex a4 w4 ⟨N4,T4,H4,e4,h1,h2⟩
 cases ex with
 | normal=>exact h1 e4 a4 w4 h2.1 h2.2.1 h2.2.2.1 h2.2.2.2.1 h2.2.2.2.2
 | _=>exact⟨N4,T4,H4,e4,h1,h2⟩
open Go.RowKit
def Sm (f q:SV) (i:Nat) (x:Option SV):Option SV:=match Nat.beq i 11 with
 | true=>some f
 | false=>match Nat.beq i 12 with
  | true=>some q
  | false=>match Nat.beq i 10 with
   | true=>none
   | false=>match Nat.ble 52 i,Nat.ble i 60 with
    | true,true=>none
    | _,_=>x
def zu (f q:SV):Nat→rQ→rQ
 | _,[]=>[]
 | i,x::l=>uA (Nat.succ i) fun j=>Sm f q i x::zu f q j l
theorem ZK (f q:SV):∀ (T:rQ) (i t:Nat) (y:SV),ve (zu f q i T) t=some y→Sm f q (i+t) (ve T t)=some y
 | [],i,t,y,h=>by rw[zu] at h;cases h
 | x::l,i,0,y,h=>by rw[zu,uj] at h;exact h
 | x::l,i,t+1,y,h=>by
  rw[zu,uj] at h
  have:=ZK f q l (i+1) t y h
  rw[show i+(t+1)=i+1+t by omega];exact this
theorem ZL (f q:SV):∀ (T:rQ) (i:Nat),(zu f q i T).length=T.length
 | [],i=>rfl
 | x::l,i=>by rw[zu,uj,List.length_cons,ZL f q l,List.length_cons]
theorem ai1 {f q:SV} {s:rC} {T:rQ} {c:Int} (hf:f.den s = .v (yF c)) (hq:q.den s = .v (.bool (zo c))):∀ t x,rQ.den s (zu f q 0 T) t=some x→FD (rQ.den s T) c t=some x:=by
 intro t x h
 unfold rQ.den at h
 cases hg:ve (zu f q 0 T) t with
 | none=>rw[hg] at h;cases h
 | some y =>
  rw[hg] at h
  simp only[Option.map_some,Option.some.injEq] at h
  have h2:=ZK f q T 0 t y hg
  rw[Nat.zero_add] at h2
  unfold Sm at h2
  unfold FD
  split at h2
  ·rename_i hb
   rw[if_pos (Nat.eq_of_beq_eq_true hb)]
   cases h2;rw[← h,hf]
  ·rename_i hb
   have n11:¬ t=11:=fun e=>by rw[e] at hb;cases hb
   rw[if_neg n11]
   split at h2
   ·rename_i hb2
    rw[if_pos (Nat.eq_of_beq_eq_true hb2)]
    cases h2;rw[← h,hq]
   ·rename_i hb2
    have n12:¬ t=12:=fun e=>by rw[e] at hb2;cases hb2
    rw[if_neg n12]
    split at h2
    ·cases h2
    ·rename_i hb3
     have n10:¬ t=10:=fun e=>by rw[e] at hb3;cases hb3
     split at h2
     ·cases h2
     ·rename_i hb4
      rw[if_neg (fun e=>by
       rcases e with e|⟨e1,e2⟩
       ·exact n10 e
       ·exact hb4 (Nat.ble_eq_true_of_le e1) (Nat.ble_eq_true_of_le e2))]
      unfold rQ.den
      rw[h2,← h];rfl
noncomputable def Lm (C:sV) (f:Nat) (st:St):rf (Exit×St):=(exec C f Sk st).bind fun r=>match r.1 with | .normal=>exec C f Sl r.2|_=>.leaf r
def ZM (g:FuncId):SV:=.v (.func (.func g) #[] #[])
def Oa (st:St):Option X:=match ve st.T 7 with
 | some (.loc b 0)=>match hget st.H b with
  | some o=>match o.t,o.c with
   | some _,_ :: .int .u8 x::_=>some x
   | _,_=>none
  | none=>none
 | _=>none
noncomputable def Ob (C:sV) (f:Nat):En:=fun _ st=>match Oa st,Nat.ble 103 st.T.length with
 | some x,true=>Aq st.fc (.bin .eql .u8 x (.lit 0)) fun b fc=>match b with
  | true=>Lm C f { st with T:=zu (ZM 227) (.bool (.lit 1)) 0 st.T,fc:=fc }
  | false=>Aq fc (.bin .eql .u8 x (.lit 3)) fun b fc=>match b with
   | true=>Lm C f { st with T:=zu (ZM 127) (.bool (.lit 1)) 0 st.T,fc:=fc }
   | false=>Lm C f { st with T:=zu (.v .nilFunc) (.bool (.lit 0)) 0 st.T,fc:=fc }
 | _,_=>.stuck "map"
theorem ai2 {s:rC} {st:St} {x:X} (h:Oa st=some x):∃ b cs t,rQ.den s st.T 7=some (.loc b 0)∧SH.den s st.H b=some (.own cs t)∧cs[1]? = some (.v (.int .u8 (x.den s))):=by
 unfold Oa at h
 split at h
 ·rename_i b h7
  split at h
  ·rename_i o ho
   split at h
   ·rename_i t y x' l ht hc
    cases h
    refine⟨b,SV.dens s o.c,t,?_,?_,?_⟩
    ·unfold rQ.den;rw[h7];rfl
    ·unfold SH.den;rw[ho];simp only[Option.map_some];rw[SO.den_own s ht]
    ·rw[hc];rfl
   ·cases h
  ·cases h
 ·cases h
theorem Sn {L M:List si} {S:List ut} (hC:wR (sj L M S) eE) {s:rC} {f:Nat} {st:St} {x:X} {fc:Facts} {fv q:SV} (hcl:Oa st=some x) (hlen:Nat.ble 103 st.T.length=true) (hfv:fv.den s = .v (yF (x.den s))) (hq:q.den s = .v (.bool (zo (x.den s)))) (hf:sO s fc)
  {ex:Exit} {st':St} (h:(Lm (sj L M S) f { st with T:=zu fv q 0 st.T,fc:=fc }).path (sj L M S).Φ s=some (ex,st')):Ay (sj L M S) eE s CG st ex st':=by
 obtain⟨b,cs,t,h7,hb,hc⟩:=ai2 (s:=s) hcl
 have hld:vL Tryz.prog 67 cs 1=some (.v (.int .u8 (x.den s))):=by
  unfold vL;rw[show Da Tryz.prog 67=some false by kernel_rfl];exact hc
 have hfa:De Tryz.prog 196 1 (.loc b 0)=some (.loc b 1):=by
  unfold De;rw[show Bb Tryz.prog 196 1=some (1,67) by kernel_rfl];simp only[];rw[show tK Tryz.prog 67=some (0+1) by kernel_rfl]
 have hw:=fun w0 B0 Q h=>ai0 (E:=eE) (w0:=w0) (B0:=B0) (N:=st.N) (Q:=Q) (Nat.le_of_ble_eq_true hlen) h7 hb hld hfa (ai1 (T:=st.T) hfv hq) h
 unfold Lm at h
 obtain⟨ex1,st1,h1,h2⟩:=zK h
 have s1:=(Hr (E:=eE) (s:=s) hC f).1 _ _ _ _ h1 hf
 have l0:(zu fv q 0 st.T).length=st.T.length:=ZL _ _ _ _
 have l1:st1.T.length=st.T.length:=s1.len.trans l0
 have aw1:=s1.aw
 simp only[l0] at aw1
 rcases ES h2 with⟨rfl,h3⟩|⟨hx,h3⟩
 ·have s2:=(Hr (E:=eE) (s:=s) hC f).1 _ _ _ _ h3 s1.fc
  refine⟨fun w0 B0=>hw w0 B0 _ ((aw1 w0 B0).mono ?_),s2.len.trans l1,fun j hj=>?_,s2.fc⟩
  ·rintro y N T H ⟨rfl,rfl,rfl,rfl⟩
   have:=s2.aw w0 B0
   rw[l1] at this
   exact this
  ·obtain⟨a,b⟩:=s2.dt j hj
   obtain⟨a',b'⟩:=s1.dt j a
   exact⟨a',b.trans b'⟩
 ·cases h3
  refine⟨fun w0 B0=>hw w0 B0 _ ((aw1 w0 B0).mono ?_),l1,s1.dt,s1.fc⟩
  rintro y N T H ⟨rfl,rfl,rfl,rfl⟩
  exact ET hx ⟨rfl,rfl,rfl,rfl⟩
theorem ai3 {L M:List si} {S:List ut} (hC:wR (sj L M S) eE) (s:rC) (f:Nat):Good (sj L M S) eE s (Ob (sj L M S) f) (0,CG):=by
 intro st ex st' h hf
 unfold Ob at h
 split at h
 ·rename_i x hx hlen
  obtain⟨fc1,hf1,h⟩:=Cf hf h
  have e0:((X.bin .eql .u8 x (.lit 0)).den s != 0)=decide (x.den s=0):=by
   simp only[X.den,rP,uz];rw[Bool.eq_iff_iff,beq_iff_eq,decide_eq_true_iff]
  rw[e0] at h
  by_cases c0:x.den s=0
  ·rw[decide_eq_true c0] at h
   exact Sn hC hx hlen (by rw[c0];rfl) (by rw[c0];rfl) hf1 h
  ·rw[decide_eq_false c0] at h
   obtain⟨fc2,hf2,h⟩:=Cf hf1 h
   have e3:((X.bin .eql .u8 x (.lit 3)).den s != 0)=decide (x.den s=3):=by
    simp only[X.den,rP,uz];rw[Bool.eq_iff_iff,beq_iff_eq,decide_eq_true_iff]
   rw[e3] at h
   by_cases c3:x.den s=3
   ·rw[decide_eq_true c3] at h
    exact Sn hC hx hlen (by rw[c3];rfl) (by rw[c3];rfl) hf2 h
   ·rw[decide_eq_false c3] at h
    have hF:yF (x.den s) = .nilFunc:=by unfold yF;rw[if_neg c0,if_neg c3]
    have hQ:zo (x.den s)=false:=decide_eq_false (by omega)
    exact Sn hC hx hlen (by rw[hF];rfl) (by rw[hQ];rfl) hf2 h
 ·cases h
theorem ai4 {fn:Func} {cd:Code} (h1:Tryz.prog.funcs[166]? = some fn) (h2:fn.body=some cd):cd=N8:=by
 rw[Tryz.func166] at h1
 cases h1
 unfold N8
 rw[h2];rfl
theorem ai5 {L M:List si} {S:List ut} (hC:vF (sj L M S) eE) (f n:Nat) {ct:Ct} {t:rf SV} (h:LZ (sj L M S) Jv (Ob (sj L M S) f) n 166 (rM ct.a (rJ 0 (rq ct.a))) (rq ct.a).length=t) (hs:zn (EX (sj L M S)) ct (rq ct.a).length t=true) :
  rF (sj L M S).P (sj L M S).G ⟨166,ct,rG (sj L M S).Φ ct t⟩:=fun l hl =>
 am5 hC.ok (fun s fn cd h1 h2 p hp=>by
  rw[ai4 h1 h2,aiW] at hp
  rw[List.mem_singleton.1 hp]
  exact ai3 hC.ok s f) h (EW hs) l hl (DC hC (by rw[hl];exact hs))
end Go.Proofs.YtbembkamcdlhbaaGreatDoor
