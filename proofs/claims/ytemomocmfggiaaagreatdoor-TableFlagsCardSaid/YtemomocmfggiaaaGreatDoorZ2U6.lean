import Derived.Test.YtemomocmfggiaaaGreatDoorZBU6
import Derived.Test.YtemomocmfggiaaaGreatDoorZGU6
import Derived.Test.YtemomocmfggiaaaGreatDoorZNU6
import Derived.Test.YtemomocmfggiaaaGreatDoorZRU6
import Derived.Test.YtemomocmfggiaaaGreatDoorW7bU6
import Derived.Test.YtemomocmfggiaaaGreatDoorSxHU6
import Derived.Test.YtemomocmfggiaaaGreatDoorH1U6
import Derived.Test.YtemomocmfggiaaaGreatDoorK1U6
import Derived.Test.YtemomocmfggiaaaGreatDoorSxTU6
set_option linter.unusedSimpArgs false
set_option linter.unusedVariables false
set_option maxRecDepth 100000
set_option maxHeartbeats 4000000
namespace Go.Proofs.YtemomocmfggiaaaGreatDoor
open Go.RowKit Go.Shelf
attribute [local go_sem] Oper.semAt_some
def Ba:Nat→List (Fin 128)
 | 0=>[]
 | k+1=>if h:k<128 then Ba k ++ [⟨k,h⟩] else Ba k
theorem aaD {k:Nat} (hk:k<128):Ba (k+1)=Ba k ++ [⟨k,hk⟩]:=by simp[Ba,hk]
theorem agn:∀ k,k≤128→(Ba k).length=k
 | 0,_=>rfl
 | k+1,h=>by rw[aaD (by omega),List.length_append,agn k (by omega)];rfl
theorem U3 {k:Nat} (h:k<128):2^k<vF:=by rw[yn];exact Nat.pow_lt_pow_right (by decide) h
theorem arA (m k:Nat) (hk:k<128) (w:World) (hG:Gl gG w):CallsIn Fence.wide m Tryz.prog 111 #[.agg #[.int .u64 0,.int .u64 1],.int .i64 (127-(k:Int))] w fun e w'=>e = .returned (vB (2^(127-k)))∧vI w w':=callsIn_wide.2 (by
 have h:=Kb (adE [0,1,127-(k:Int)] rfl).2 Tryz.func111 (by kernel_rfl) (by kernel_rfl) w hG
 simp only[] at h
 have e0:nB 0 1=1:=by unfold nB;rw[show u64 0=0 from by decide,show u64 1=1 from by decide];rfl
 have e1:i64 (127-(k:Int))=((127-k:Nat):Int):=by rw[wL (by omega) (by omega)];omega
 rw[Uk,e0,e1,Int.toNat_natCast,Nat.one_mul,Nat.mod_eq_of_lt (U3 (by omega)),vR] at h
 have z0:u64 0=0:=by decide
 have z1:u64 1=1:=by decide
 have e2:i64 (127-(k:Int))=127-(k:Int):=wL (by omega) (by omega)
 simpa only[KY,wJ,yx,wQ,xW,Sh.kinds,List.drop_succ_cons,List.drop_zero,List.length_cons,List.length_nil,AU,Gx,BQ,xG,z0,z1,e2] using h)
theorem agp (m a b:Nat) (ha:a<vF) (hb:b<vF) (w:World) (hG:Gl gG w):CallsIn Fence.wide m Tryz.prog 207 #[vB a,vB b] w fun e w'=>e = .returned (vW (a*b))∧vI w w':=callsIn_wide.2 (by
 have h:=Kb (adH [wd a 1,wd a 0,wd b 1,wd b 0] rfl).2 Tryz.func207 (by kernel_rfl) (by kernel_rfl) w hG
 simp only[] at h
 rw[aeS,xn ha,xn hb,yC] at h
 simpa only[KZ,wJ,yx,wQ,xW,Sh.kinds,List.drop_succ_cons,List.drop_zero,List.length_cons,List.length_nil,AU,BQ,xG] using h)
theorem arB (m a b:Nat) (ha:a<vL) (hb:b<vL) (w:World) (hG:Gl gG w):CallsIn Fence.wide m Tryz.prog 221 #[vW a,vW b] w fun e w'=>e = .returned (.int .i64 (xq a b))∧vI w w':=callsIn_wide.2 (by
 have h:=Kb (ae7 [wd a 0,wd a 1,wd a 2,wd a 3,wd b 0,wd b 1,wd b 2,wd b 3] rfl).2 Tryz.func221 (by kernel_rfl) (by kernel_rfl) w hG
 simp only[] at h
 rw[afx,xP ha,xP hb] at h
 have hc:i64 (xq a b)=xq a b:=AZ a b
 simpa only[Lx,wJ,yx,wQ,xW,Sh.kinds,List.drop_succ_cons,List.drop_zero,List.length_cons,List.length_nil,AU,Gx,BQ,xG,hc] using h)
def GlK (A B:World):Prop:=Gl gG A→Gl gG B
theorem arC (n:Nat) (hn:1≤n) (l B:Nat) (J Jx:List (Fin 128)→World→Prop) (hJ:AbidesFrom B J)
  (hY:∀ pre x W,J pre W→pre.length<128→YieldAt Fence.wide (n-1) Tryz.prog l #[vB (2^(127-x.1))] W fun e W' =>
   (e = .returned (.bool true)∧J (pre ++ [x]) W'∧GlK W W')∨(e = .returned (.bool false)∧Jx (pre ++ [x]) W'))
  (W:World) (hG:Gl gG W) (h0:J [] W) :
  CallsIn Fence.wide n Tryz.prog 259 #[.func (.yield l) #[] #[]] W fun e W'=>(∃ v,e = .returned v) ∧
   ((∃ ys,ys=Ba 128∧J ys W')∨(∃ pre,True∧Jx pre W')):=by
 refine callsIn_of_wp Tryz.func259 rfl trivial ?_ rfl
 have hL:Fence.wide.fn 111:=trivial
 simp only[Tryz.ntmps259,List.size_toArray,List.length_cons,List.length_nil,Nat.reduceAdd,Nat.reduceSub,Array.replicate_succ,Array.replicate_zero,List.push_toArray,List.append_toArray,List.nil_append,List.cons_append]
 gi_wp2
 gi_loopw [2] (fun i wr=>∃ k:Nat,k≤128∧i = .int .i64 (127-(k:Int))∧J (Ba k) wr∧Gl gG wr)
  (fun i _=>(intOf i+1).toNat)
 case atStart=>exact⟨0,Nat.zero_le _,rfl,h0,hG⟩
 case round =>
  obtain⟨k,hk,rfl,hJs,hGr⟩:=hrel
  by_cases hlt:k<128
  ·have Hs:=Lib.hid (aaD hlt)
   have hlen:=agn k hk
   have hge:(0:Int)≤127-(k:Int):=by omega
   gi_wp2_with (gi_at_call 111;refine(arA (n-1) k hlt wr hGr).mono ?_;rintro e w3 ⟨rfl,hw3⟩;have hJ3:J (Ba k) w3:=hJ _ wr w3 none hJs ⟨hw3.os,hw3.tape,hw3.output,hw3.size,fun q hq _=>hw3.block q hq⟩ (fun r e=>by cases e);have hG3:=hGr.bel hw3;obtain⟨fn,tmps,assign,body,hy,hR⟩:=hY _ ⟨k,hlt⟩ w3 hJ3 (by omega);simp only[] at hy)
   refine hR.mono ?_
   rintro e W3 (⟨rfl,hJ4,hk4⟩|⟨rfl,hJx3⟩)
   ·gi_wp2
    go_roundw
    case rel=>exact⟨k+1,by omega,by congr 1;omega,by rw[Hs.out];exact hJ4,hk4 hG3⟩
    case measure=>simp[intOf];omega
   ·gi_wp2
    go_end0
    exact⟨⟨_,rfl⟩,.inr ⟨_,trivial,hJx3⟩⟩
  ·obtain rfl:k=128:=by omega
   gi_wp2
   refine⟨(fun f h=>(by cases h)),?_⟩
   gi_wp2
   go_end0
   exact⟨⟨_,rfl⟩,.inl ⟨_,rfl,hJs⟩⟩
theorem arD (n:Nat) (hn:1≤n) (w:World) (hG:Gl gG w) :
  SeqStopsK Fence.wide n Tryz.prog 259 #[] (fun x:Fin 128=>#[vB (2^(127-x.1))]) GlK (fun ys=>ys=Ba 128)
   (fun _=>True) 128 w:=fun l J Jx W hW hJ _ hY h0=>by
 have hG2:Gl gG W:=hG.bel hW
 exact arC n hn l W.heap.size J Jx hJ hY W hG2 h0
theorem arE (n:Nat) (w:World) :
  CallsIn Fence.wide n Tryz.prog 220 #[] w fun e w'=>e = .returned (.func (.func 259) #[] #[])∧w'=w:=by
 refine callsIn_of_wp Tryz.func220 rfl trivial ?_ rfl
 simp only[Tryz.ntmps220,List.size_toArray,List.length_cons,List.length_nil,Nat.reduceAdd,Nat.reduceSub,Array.replicate_succ,Array.replicate_zero,List.push_toArray,List.append_toArray,List.nil_append,List.cons_append]
 gi_wp2
 go_ret
 exact⟨rfl,rfl⟩
def zM (n:Nat) (pre:List (Fin 128)):Nat:=pre.foldl (fun r x=>if (r|||2^(127-x.1))*(r|||2^(127-x.1))≤n then r|||2^(127-x.1) else r) 0
theorem agr (n:Nat) (pre:List (Fin 128)) (x:Fin 128):zM n (pre ++ [x])=if (zM n pre|||2^(127-x.1))*(zM n pre|||2^(127-x.1))≤n then zM n pre|||2^(127-x.1) else zM n pre:=by
 unfold zM;rw[List.foldl_append];rfl
theorem ags {a b:Nat} (ha:a<vF) (hb:b<vF):a|||b<vF:=by rw[yn] at *;exact Nat.or_lt_two_pow ha hb
theorem arF (n:Nat) (pre:List (Fin 128)):zM n pre<vF:=by
 unfold zM
 suffices k:∀ (pre:List (Fin 128)) (r:Nat),r<vF→pre.foldl (fun r x=>if (r|||2^(127-x.1))*(r|||2^(127-x.1))≤n then r|||2^(127-x.1) else r) r<vF from k pre 0 (by decide)
 intro pre
 induction pre with
 | nil=>intro r h;exact h
 | cons x xs ih =>
  intro r h
  refine ih _ ?_
  dsimp only
  split
  ·exact ags h (U3 (by omega))
  ·exact h
theorem agt (n:Nat):∀ k,k≤128→(∃ q,zM n (Ba k)=q*2^(128-k))∧FP.isqGo n (128-k) (zM n (Ba k))=FP.isqGo n 128 0
 | 0,_=>⟨⟨0,by rw[Nat.zero_mul];rfl⟩,rfl⟩
 | k+1,h=>by
  obtain⟨⟨q,hq⟩,h2⟩:=agt n k (by omega)
  have hk:k<128:=by omega
  rw[aaD hk,agr]
  obtain⟨i,hi⟩:∃ i,i=127-k:=⟨_,rfl⟩
  rw[show 128-k=i+1 by omega] at hq h2
  rw[show 128-(k+1)=i by omega]
  simp only[← hi]
  have ho:zM n (Ba k)|||2^i=zM n (Ba k)+2^i:=by
   rw[hq]
   have h:=Nat.two_pow_add_eq_or_of_lt (i:=i+1) (b:=2^i) (Nat.pow_lt_pow_right (by decide) (by omega)) q
   rw[Nat.mul_comm q];exact h.symm
  rw[ho]
  have hg:FP.isqGo n (i+1) (zM n (Ba k))=FP.isqGo n i (if (zM n (Ba k)+2^i)*(zM n (Ba k)+2^i)≤n then zM n (Ba k)+2^i else zM n (Ba k)):=rfl
  rw[hg] at h2
  refine⟨?_,h2⟩
  split
  ·exact⟨2*q+1,by rw[hq,Nat.pow_succ,Nat.add_mul,Nat.one_mul];congr 1;ac_rfl⟩
  ·exact⟨2*q,by rw[hq,Nat.pow_succ];ac_rfl⟩
theorem arG (n:Nat):zM n (Ba 128)=FP.isq n:=(agt n 128 (Nat.le_refl _)).2
theorem arH {p q:Nat} : decide (xq p q≤0)=decide (p≤q):=by
 unfold xq
 by_cases h:p<q
 ·rw[if_pos h,decide_eq_true (show p≤q by omega)];rfl
 ·rw[if_neg h]
  by_cases h2:q<p
  ·rw[if_pos h2,decide_eq_false (show ¬ p≤q by omega)];rfl
  ·rw[if_neg h2,decide_eq_true (show p≤q by omega)];rfl
theorem arI {a b:Nat} (ha:a<vL) (hb:b<vL):(wd a 0==wd b 0&&(wd a 1==wd b 1&&(wd a 2==wd b 2&&wd a 3==wd b 3)))=decide (a=b):=by
 rw[Bool.eq_iff_iff]
 simp only[Bool.and_eq_true,beq_iff_eq,decide_eq_true_iff]
 constructor
 ·rintro⟨h0,h1,h2,h3⟩
  rw[← xP ha,← xP hb,h0,h1,h2,h3]
 ·rintro rfl;exact⟨rfl,rfl,rfl,rfl⟩
def AxR (n w1 w2 w4:Nat) (m:Nat) (x:Fin 128) (a':Act) (W:World):Prop:=∃ B,m≤B ∧
 a' = { tmps:=#[vW n,.pointer (some ⟨w1,0,none⟩),.pointer (some ⟨w2,0,none⟩),.bool false,.pointer (some ⟨w4,0,none⟩),.pointer (some ⟨B,0,none⟩),undef,.func (.func 259) #[] #[],vB (2^(127-x.1)),undef,undef,undef,undef,undef,undef,undef,undef,undef,undef,undef,undef,undef,undef,undef,undef,undef,undef,undef,undef,undef,undef,undef,undef],defers:=[] } ∧
 W.heap[B]? = some (.cells #[.int .u64 (wd (2^(127-x.1)) 1),.int .u64 (wd (2^(127-x.1)) 0)] 24 (0,0))
theorem arJ (n w1 w2 w4 m:Nat) (x:Fin 128) (a':Act) (B0:Nat):OwnFrom B0 (fun(_:Unit) W=>AxR n w1 w2 w4 m x a' W):=by
 rintro s X Y row ⟨B,hB,ha,hc⟩ hg hr
 refine⟨B,hB,ha,?_⟩
 exact(Own.from (CK B 24 (fun(_:Unit)=>#[.int .u64 (wd (2^(127-x.1)) 1),.int .u64 (wd (2^(127-x.1)) 0)])) B0) () X Y row hc hg hr
theorem arK (m:Nat) (hm:3≤m) (n:Nat) (hn:n<vL) (w:World) (hG:Gl gG w) :
  CallsIn Fence.wide m Tryz.prog 154 #[vW n] w fun e w'=>e = .returned (.tuple #[vB (FP.isq n),.bool (decide (FP.isq n*FP.isq n=n))])∧vI w w':=by
 have hn1:1≤m:=by omega
 refine callsIn_of_wp_marks Tryz.func154 rfl trivial ?_ rfl
 simp only[Tryz.ntmps154,List.size_toArray,List.length_cons,List.length_nil,Nat.reduceAdd,Nat.reduceSub,Array.replicate_succ,Array.replicate_zero,List.push_toArray,List.append_toArray,List.nil_append,List.cons_append]
 have h96:Fence.wide.fn 220:=trivial
 have h85:Fence.wide.fn 207:=trivial
 have h97:Fence.wide.fn 221:=trivial
 gi_wp2_with (gi_at_call 220;refine(arE (m-1) _).mono ?_;rintro e w2 ⟨rfl,rfl⟩)
 obtain⟨W0,hW0⟩:∃ W0,W0=((w.alloc (.cells #[.int .u64 (wd n 0),.int .u64 (wd n 1),.int .u64 (wd n 2),.int .u64 (wd n 3)] 177)).alloc (.cells #[.int .u64 0,.int .u64 0] 24)).alloc (.cells #[.int .u64 0,.int .u64 0] 24):=⟨_,rfl⟩
 have bN:W0.heap[w.heap.size]? = some (.cells #[.int .u64 (wd n 0),.int .u64 (wd n 1),.int .u64 (wd n 2),.int .u64 (wd n 3)] 177 (0,0)):=by rw[hW0];exact heap_alloc (heap_alloc (Hd _ _) _) _
 have b2:W0.heap[w.heap.size+1]? = some (.cells #[.int .u64 0,.int .u64 0] 24 (0,0)):=by rw[hW0];exact heap_alloc (PX _ _ _) _
 have b4:W0.heap[w.heap.size+1+1]? = some (.cells #[.int .u64 0,.int .u64 0] 24 (0,0)):=by rw[hW0];exact DL _ _ _ _
 have hB0:Below w.heap.size w W0:=by rw[hW0];show vI w _;exact(((vI.refl w).alloc _).alloc _).alloc _
 have hsz:W0.heap.size=w.heap.size+1+1+1:=by rw[hW0];simp
 have hG0:Gl gG W0:=hG.bel hB0
 rw[← hW0]
 clear hW0
 have zw:∀ j,wd 0 j=0:=fun j=>by unfold wd;simp
 have z0:zM n []=0:=rfl
 refine wpIn_rangeFunc_ownH rfl hn1 (gf:=259) (lb:=#[]) rfl trivial (enters_of Tryz.func259 (by kernel_rfl) rfl) (arD (m-1) (by omega) W0 hG0) (fun h1 h2 h=>h2 (h1 h)) ?hKb (Below.refl _ _) (fun _=>rfl)
  (fun pre W=>((W.heap[w.heap.size]? = some (.cells #[.int .u64 (wd n 0),.int .u64 (wd n 1),.int .u64 (wd n 2),.int .u64 (wd n 3)] 177 (0,0))∧W.heap[w.heap.size+1]? = some (.cells #[.int .u64 0,.int .u64 0] 24 (0,0))) ∧
   W.heap[w.heap.size+1+1]? = some (.cells #[.int .u64 (wd (zM n pre) 1),.int .u64 (wd (zM n pre) 0)] 24 (0,0)))∧Below w.heap.size w W)
  (fun _ _ _=>False)
  (OwnFrom.and (OwnFrom.and (OwnFrom.and (Own.from (CK _ _ (fun _=>#[.int .u64 (wd n 0),.int .u64 (wd n 1),.int .u64 (wd n 2),.int .u64 (wd n 3)])) _) (Own.from (CK _ _ (fun _=>#[.int .u64 0,.int .u64 0])) _)) (Own.from (CK _ _ (fun pre=>#[.int .u64 (wd (zM n pre) 1),.int .u64 (wd (zM n pre) 0)])) _)) (ownFrom_below (Nat.le_refl _) (by omega)))
  (fun _ _ _ _ _ hs _ _=>hs)
  ⟨⟨⟨bN,b2⟩,by rw[z0];simp only[zw];exact b4⟩,hB0⟩
  (AxR n w.heap.size (w.heap.size+1) (w.heap.size+1+1) W0.heap.size) (fun x a'=>arJ _ _ _ _ _ x a' _) ?assign ?body ?done ?stop
 case hKb =>
  intro W l o o' hl ho _ _ hGW x hx
  have h1:=(hG0 x hx).1
  have h2:=hGW x hx
  refine⟨by have:=h2.1;simpa using this,fun j v hv=>?_⟩
  have h3:=h2.2 j v hv
  unfold World.cell? at h3 ⊢
  rw[World.putObj_heap_other (show x.1≠l by omega)]
  exact h3
 case assign =>
  intro l pre x W K hI hK
  have hx:2^(127-x.1)<vF:=U3 (by omega)
  gi_wp2
  have hlt:=I7 hI.1.2
  exact hK _ _ ((KeepsOthers.alloc W _).from _) (fun h=>h.bel ((vI.refl W).alloc _)) ⟨⟨⟨heap_alloc hI.1.1.1 _,heap_alloc hI.1.1.2 _⟩,heap_alloc hI.1.2 _⟩,vI.alloc hI.2 _⟩ ⟨W.heap.size,by omega,rfl,Hd _ _⟩
 case body =>
  rintro l pre x a' V hwl hrec ⟨⟨⟨bN,b2⟩,b4⟩,hB⟩ ⟨B,hmB,rfl,cB⟩ hlt
  have e0:=vN b4 0 rfl
  have e1:=vN b4 1 rfl
  have e2:=vN cB 0 rfl
  have e3:=vN cB 1 rfl
  have hr:=arF n pre
  have hsn:=agr n pre x
  generalize zM n pre=r at *
  have hb:2^(127-x.1)<vF:=U3 (by omega)
  generalize 2^(127-x.1)=b at *
  have ho1:∀ i,bits .or .u64 (wd r i) (wd b i)=wd (r|||b) i:=fun i=>Rt r b i
  have ht:=ags hr hb
  gi_wp2
  obtain⟨V4,hV4⟩:∃ V4,V4=V.alloc (.cells #[.int .u64 (wd (r|||b) 1),.int .u64 (wd (r|||b) 0)] 24):=⟨_,rfl⟩
  have dN:V4.heap[w.heap.size]? = some (.cells #[.int .u64 (wd n 0),.int .u64 (wd n 1),.int .u64 (wd n 2),.int .u64 (wd n 3)] 177 (0,0)):=by rw[hV4];exact heap_alloc bN _
  have d2:V4.heap[w.heap.size+1]? = some (.cells #[.int .u64 0,.int .u64 0] 24 (0,0)):=by rw[hV4];exact heap_alloc b2 _
  have d4:V4.heap[w.heap.size+1+1]? = some (.cells #[.int .u64 (wd r 1),.int .u64 (wd r 0)] 24 (0,0)):=by rw[hV4];exact heap_alloc b4 _
  have dT:V4.heap[V.heap.size]? = some (.cells #[.int .u64 (wd (r|||b) 1),.int .u64 (wd (r|||b) 0)] 24 (0,0)):=by rw[hV4];exact Hd _ _
  have dB:vI V V4:=by rw[hV4];exact(vI.refl V).alloc _
  have h4l:=I7 b4
  rw[← hV4]
  clear hV4
  have hGV:Gl gG V:=hG.bel hB
  have hle:decide (xq ((r|||b)*(r|||b)) n≤0)=decide ((r|||b)*(r|||b)≤n):=arH
  have hmul:=fun W (h:vI V W)=>agp (m-1-1-1) (r|||b) (r|||b) ht ht W (hGV.bel h)
  have hcmp:=fun W (h:vI V W)=>arB (m-1-1-1) ((r|||b)*(r|||b)) n (by rw[Lm];exact Nat.mul_lt_mul'' ht ht) hn W (hGV.bel h)
  generalize r|||b=t at *
  obtain⟨q,hq⟩:∃ q,q=decide (t*t≤n):=⟨_,rfl⟩
  rw[← hq] at hle
  have hq2:(q=true∧t*t≤n)∨(q=false∧¬ t*t≤n):=by
   rw[hq];by_cases h:t*t≤n
   ·exact .inl ⟨decide_eq_true h,h⟩
   ·exact .inr ⟨decide_eq_false h,h⟩
  clear hq
  generalize V.heap.size=Bt at *
  refine I6 (fun(L:Nat→Bool) (A:Act) (W:World)=>∃ u20 u21 u22 u23 u24 u25:Value,A=⟨#[vW n,Value.pointer (some { block:=w.heap.size,off:=0 }),Value.pointer (some { block:=w.heap.size+1,off:=0 }),Value.bool false,Value.pointer (some { block:=w.heap.size+1+1,off:=0 }),Value.pointer (some { block:=B,off:=0 }),Value.pointer (some { block:=Bt,off:=0 }),Value.func (Fn.func 259) #[] #[],vB b,Value.pointer (some { block:=w.heap.size+1+1,off:=0 }),Value.int IntKind.u64 (wd r 1),Value.pointer (some { block:=B,off:=0 }),Value.int IntKind.u64 (wd b 1),Value.int IntKind.u64 (wd t 1),Value.pointer (some { block:=w.heap.size+1+1,off:=1 }),Value.int IntKind.u64 (wd r 0),Value.pointer (some { block:=B,off:=1 }),Value.int IntKind.u64 (wd b 0),Value.int IntKind.u64 (wd t 0),Value.agg #[Value.int IntKind.u64 (wd t 1),Value.int IntKind.u64 (wd t 0)],u20,u21,u22,u23,u24,u25,undef,undef,undef,undef,undef,undef,undef],[]⟩∧vI V W∧W.heap[w.heap.size]? = some (.cells #[.int .u64 (wd n 0),.int .u64 (wd n 1),.int .u64 (wd n 2),.int .u64 (wd n 3)] 177 (0,0))∧W.heap[w.heap.size+1]? = some (.cells #[.int .u64 0,.int .u64 0] 24 (0,0))∧W.heap[w.heap.size+1+1]? = some (.cells #[.int .u64 (wd r 1),.int .u64 (wd r 0)] 24 (0,0))∧W.heap[Bt]? = some (.cells #[.int .u64 (wd t 1),.int .u64 (wd t 0)] 24 (0,0))∧(L 0=true→u20 = .agg #[.int .u64 (wd t 1),.int .u64 (wd t 0)])∧(L 1=true→u21 = .agg #[.int .u64 (wd t 1),.int .u64 (wd t 0)])∧(L 2=true→u22=vW (t*t))∧(L 3=true→u23 = .agg #[.int .u64 (wd n 0),.int .u64 (wd n 1),.int .u64 (wd n 2),.int .u64 (wd n 3)])∧(L 4=true→u24 = .int .i64 (xq (t*t) n))∧(L 5=true→u25 = .bool q)) (by kernel_rfl) (by kernel_rfl) ?h0 ⟨?s0,?s1,?s2,?s3,?s4,?s5,trivial⟩ ?hd
  case h0 =>
   exact⟨_,_,_,_,_,_,rfl,(vI.drew dB),dN,d2,d4,dT,fun h=>absurd h Bool.false_ne_true,fun h=>absurd h Bool.false_ne_true,fun h=>absurd h Bool.false_ne_true,fun h=>absurd h Bool.false_ne_true,fun h=>absurd h Bool.false_ne_true,fun h=>absurd h Bool.false_ne_true⟩
  case s0 =>
   rintro L _ W K ⟨u20,u21,u22,u23,u24,u25,rfl,hb,c1,c2,c4,c6,f0,f1,f2,f3,f4,f5⟩ hL hD hN hK
   refine wU (wT rfl) ?_
   have e0:=vN c6 0 rfl
   have e1:=vN c6 1 rfl
   have hf:=wN c6 0
   go_simp
   refine hK _ _ ⟨_,_,_,_,_,_,rfl,hb,c1,c2,c4,c6,fun _=>rfl,f1,f2,f3,f4,f5⟩
  case s1 =>
   rintro L _ W K ⟨u20,u21,u22,u23,u24,u25,rfl,hb,c1,c2,c4,c6,f0,f1,f2,f3,f4,f5⟩ hL hD hN hK
   refine wU (wT rfl) ?_
   have e0:=vN c6 0 rfl
   have e1:=vN c6 1 rfl
   have hf:=wN c6 0
   go_simp
   refine hK _ _ ⟨_,_,_,_,_,_,rfl,hb,c1,c2,c4,c6,f0,fun _=>rfl,f2,f3,f4,f5⟩
  case s2 =>
   rintro L _ W K ⟨u20,u21,u22,u23,u24,u25,rfl,hb,c1,c2,c4,c6,f0,f1,f2,f3,f4,f5⟩ hL hD hN hK
   obtain rfl:=f0 (hD 0 (by kernel_rfl))
   obtain rfl:=f1 (hD 1 (by kernel_rfl))
   refine wU (wT rfl) ?_
   go_simp
   refine⟨fun h=>(by first|cases h|omega),(hmul _ hb).mono ?_⟩
   rintro e W1 ⟨rfl,hw⟩
   refine hK _ _ ⟨_,_,_,_,_,_,rfl,(hb.trans hw),(xu c1 hw),(xu c2 hw),(xu c4 hw),(xu c6 hw),f0,f1,fun _=>rfl,f3,f4,f5⟩
  case s3 =>
   rintro L _ W K ⟨u20,u21,u22,u23,u24,u25,rfl,hb,c1,c2,c4,c6,f0,f1,f2,f3,f4,f5⟩ hL hD hN hK
   refine wU (wT rfl) ?_
   have e0:=vN c1 0 rfl
   have e1:=vN c1 1 rfl
   have e2:=vN c1 2 rfl
   have e3:=vN c1 3 rfl
   have hf:=wN c1 0
   go_simp
   refine hK _ _ ⟨_,_,_,_,_,_,rfl,hb,c1,c2,c4,c6,f0,f1,f2,fun _=>rfl,f4,f5⟩
  case s4 =>
   rintro L _ W K ⟨u20,u21,u22,u23,u24,u25,rfl,hb,c1,c2,c4,c6,f0,f1,f2,f3,f4,f5⟩ hL hD hN hK
   obtain rfl:=f2 (hD 2 (by kernel_rfl))
   obtain rfl:=f3 (hD 3 (by kernel_rfl))
   refine wU (wT rfl) ?_
   go_simp
   refine⟨fun h=>(by first|cases h|omega),(hcmp _ hb).mono ?_⟩
   rintro e W1 ⟨rfl,hw⟩
   refine hK _ _ ⟨_,_,_,_,_,_,rfl,(hb.trans hw),(xu c1 hw),(xu c2 hw),(xu c4 hw),(xu c6 hw),f0,f1,f2,f3,fun _=>rfl,f5⟩
  case s5 =>
   rintro L _ W K ⟨u20,u21,u22,u23,u24,u25,rfl,hb,c1,c2,c4,c6,f0,f1,f2,f3,f4,f5⟩ hL hD hN hK
   obtain rfl:=f4 (hD 4 (by kernel_rfl))
   refine wU (wT rfl) ?_
   go_simp
   refine hK _ _ ⟨_,_,_,_,_,_,rfl,hb,c1,c2,c4,c6,f0,f1,f2,f3,f4,fun _=>rfl⟩
  case hd =>
   rintro L _ W ⟨u20,u21,u22,u23,u24,u25,rfl,hb,c1,c2,c4,c6,f0,f1,f2,f3,f4,f5⟩ hall
   obtain rfl:=f0 (hall 0 (by decide))
   obtain rfl:=f1 (hall 1 (by decide))
   obtain rfl:=f2 (hall 2 (by decide))
   obtain rfl:=f3 (hall 3 (by decide))
   obtain rfl:=f4 (hall 4 (by decide))
   obtain rfl:=f5 (hall 5 (by decide))
   have f0:=vN c6 0 rfl
   have f1:=vN c6 1 rfl
   have g0:=vN c4 0 rfl
   have g1:=vN c4 1 rfl
   have g2:=wN c4 0
   have g3:=wN c4 1
   have kO:KeepsOthers V W:=⟨hb.size,fun k o hk _=>xu hk hb⟩
   have hBW:vI w W:=vI.trans hB hb
   rcases hq2 with⟨rfl,hc⟩|⟨rfl,hc⟩
   ·rw[if_pos hc] at hsn
    gi_wp2
    have hBF:vI w ((W.setCell ⟨w.heap.size+1+1,0,none⟩ (.int .u64 (wd t 1))).setCell ⟨w.heap.size+1+1,1,none⟩ (.int .u64 (wd t 0))):=vI.set (vI.set hBW (by omega) _) (by omega) _
    refine⟨((kO.trans (KeepsOthers.setCell _ _ _)).trans (KeepsOthers.setCell _ _ _)).from _,fun _=>hG.bel hBF,⟨⟨⟨?_,?_⟩,?_⟩,hBF⟩⟩
    ·exact vY (vY c1 _ _ (by show w.heap.size≠w.heap.size+1+1;omega)) _ _ (by show w.heap.size≠w.heap.size+1+1;omega)
    ·exact vY (vY c2 _ _ (by show w.heap.size+1≠w.heap.size+1+1;omega)) _ _ (by show w.heap.size+1≠w.heap.size+1+1;omega)
    ·rw[hsn];exact heap_set (heap_set c4 _) _
   ·rw[if_neg hc] at hsn
    gi_wp2
    exact⟨kO.from _,fun _=>hG.bel hBW,⟨⟨⟨c1,c2⟩,by rw[hsn];exact c4⟩,hBW⟩⟩
 case done =>
  rintro D ys V hD rfl ⟨⟨⟨bN,b2⟩,b4⟩,hB⟩ hK
  rw[arG] at b4
  have hr:FP.isq n<vF:=by rw[yn];exact FP.isq_lt (by rw[← BJ];exact hn)
  obtain⟨r,hre⟩:∃ r,FP.isq n=r:=⟨_,rfl⟩
  rw[hre] at b4 hr
  have hD':w.heap.size+1+1+1≤D:=by rw[← hsz];exact hD
  have hrr:r*r<vL:=by rw[Lm];exact Nat.mul_lt_mul'' hr hr
  have hmul:=fun W (h:vI w W)=>agp (m-1) r r hr hr W (hG.bel h)
  have hq:=fun W=>Ym (t:=177) (x:=vW (r*r)) (y:=.agg #[.int .u64 (wd n 0),.int .u64 (wd n 1),.int .u64 (wd n 2),.int .u64 (wd n 3)]) (b:=(wd (r*r) 0==wd n 0&&(wd (r*r) 1==wd n 1&&(wd (r*r) 2==wd n 2&&wd (r*r) 3==wd n 3)))) rfl W
  rw[arI hrr hn] at hq
  have hq1:=fun W op xo yo=>(hq W).1 op xo yo
  have hq2:=fun W=>(hq W).2.1
  clear hq hn hr hrr
  obtain⟨q,hqd⟩:∃ q,decide (r*r=n)=q:=⟨_,rfl⟩
  rw[hqd] at hq2
  have HF:=Lib.hid (And.intro hre hqd)
  clear hre hqd
  gi_wp2
  refine I6 (fun(L:Nat→Bool) (A:Act) (W:World)=>∃ u27 u28 u29 u30 u31 u32 u3:Value,A=⟨#[vW n,Value.pointer (some { block:=w.heap.size,off:=0 }),Value.pointer (some { block:=w.heap.size+1,off:=0 }),u3,Value.pointer (some { block:=w.heap.size+1+1,off:=0 }),undef,undef,Value.func (Fn.func 259) #[] #[],undef,undef,undef,undef,undef,undef,undef,undef,undef,undef,undef,undef,undef,undef,undef,undef,undef,undef,undef,u27,u28,u29,u30,u31,u32],[{ target:=Target.collected D,args:=#[] }]⟩∧vI w W∧W.heap[D]? = some (.deferred (some []))∧W.heap[w.heap.size]? = some (.cells #[.int .u64 (wd n 0),.int .u64 (wd n 1),.int .u64 (wd n 2),.int .u64 (wd n 3)] 177 (0,0))∧W.heap[w.heap.size+1]? = some (.cells (bif L 6 then #[.int .u64 (wd r 1),.int .u64 (wd r 0)] else #[.int .u64 0,.int .u64 0]) 24 (0,0))∧W.heap[w.heap.size+1+1]? = some (.cells #[.int .u64 (wd r 1),.int .u64 (wd r 0)] 24 (0,0))∧(L 0=true→u27 = .agg #[.int .u64 (wd r 1),.int .u64 (wd r 0)])∧(L 1=true→u28 = .agg #[.int .u64 (wd r 1),.int .u64 (wd r 0)])∧(L 2=true→u29 = .agg #[.int .u64 (wd r 1),.int .u64 (wd r 0)])∧(L 3=true→u30=vW (r*r))∧(L 4=true→u31 = .agg #[.int .u64 (wd n 0),.int .u64 (wd n 1),.int .u64 (wd n 2),.int .u64 (wd n 3)])∧(L 5=true→u32 = .bool q)∧(L 7=true→u3 = .bool q)) (by kernel_rfl) (by kernel_rfl) ?h0 ⟨?s0,?s1,?s2,?s3,?s4,?s5,?s6,?s7,trivial⟩ ?hd
  case h0 =>
   exact⟨_,_,_,_,_,_,_,rfl,(vI.drew hB),hK,bN,b2,b4,fun h=>absurd h Bool.false_ne_true,fun h=>absurd h Bool.false_ne_true,fun h=>absurd h Bool.false_ne_true,fun h=>absurd h Bool.false_ne_true,fun h=>absurd h Bool.false_ne_true,fun h=>absurd h Bool.false_ne_true,fun h=>absurd h Bool.false_ne_true⟩
  case s0 =>
   rintro L _ W K ⟨u27,u28,u29,u30,u31,u32,u3,rfl,hb,x0,c1,c2,c4,f0,f1,f2,f3,f4,f5,f7⟩ hL hD hN hK
   refine wU (wT rfl) ?_
   have e0:=vN c4 0 rfl
   have e1:=vN c4 1 rfl
   have hf:=wN c4 0
   go_simp
   refine hK _ _ ⟨_,_,_,_,_,_,_,rfl,hb,x0,c1,c2,c4,fun _=>rfl,f1,f2,f3,f4,f5,f7⟩
  case s1 =>
   rintro L _ W K ⟨u27,u28,u29,u30,u31,u32,u3,rfl,hb,x0,c1,c2,c4,f0,f1,f2,f3,f4,f5,f7⟩ hL hD hN hK
   refine wU (wT rfl) ?_
   have e0:=vN c4 0 rfl
   have e1:=vN c4 1 rfl
   have hf:=wN c4 0
   go_simp
   refine hK _ _ ⟨_,_,_,_,_,_,_,rfl,hb,x0,c1,c2,c4,f0,fun _=>rfl,f2,f3,f4,f5,f7⟩
  case s2 =>
   rintro L _ W K ⟨u27,u28,u29,u30,u31,u32,u3,rfl,hb,x0,c1,c2,c4,f0,f1,f2,f3,f4,f5,f7⟩ hL hD hN hK
   refine wU (wT rfl) ?_
   have e0:=vN c4 0 rfl
   have e1:=vN c4 1 rfl
   have hf:=wN c4 0
   go_simp
   refine hK _ _ ⟨_,_,_,_,_,_,_,rfl,hb,x0,c1,c2,c4,f0,f1,fun _=>rfl,f3,f4,f5,f7⟩
  case s3 =>
   rintro L _ W K ⟨u27,u28,u29,u30,u31,u32,u3,rfl,hb,x0,c1,c2,c4,f0,f1,f2,f3,f4,f5,f7⟩ hL hD hN hK
   obtain rfl:=f1 (hD 1 (by kernel_rfl))
   obtain rfl:=f2 (hD 2 (by kernel_rfl))
   refine wU (wT rfl) ?_
   go_simp
   refine((hmul _ hb).mono ?_)
   rintro e W1 ⟨rfl,hw⟩
   refine hK _ _ ⟨_,_,_,_,_,_,_,rfl,(hb.trans hw),(xu x0 hw),(xu c1 hw),(xu c2 hw),(xu c4 hw),f0,f1,f2,fun _=>rfl,f4,f5,f7⟩
  case s4 =>
   rintro L _ W K ⟨u27,u28,u29,u30,u31,u32,u3,rfl,hb,x0,c1,c2,c4,f0,f1,f2,f3,f4,f5,f7⟩ hL hD hN hK
   refine wU (wT rfl) ?_
   have e0:=vN c1 0 rfl
   have e1:=vN c1 1 rfl
   have e2:=vN c1 2 rfl
   have e3:=vN c1 3 rfl
   have hf:=wN c1 0
   go_simp
   refine hK _ _ ⟨_,_,_,_,_,_,_,rfl,hb,x0,c1,c2,c4,f0,f1,f2,f3,fun _=>rfl,f5,f7⟩
  case s5 =>
   rintro L _ W K ⟨u27,u28,u29,u30,u31,u32,u3,rfl,hb,x0,c1,c2,c4,f0,f1,f2,f3,f4,f5,f7⟩ hL hD hN hK
   obtain rfl:=f3 (hD 3 (by kernel_rfl))
   obtain rfl:=f4 (hD 4 (by kernel_rfl))
   refine wU (wT rfl) ?_
   go_simp
   refine hK _ _ ⟨_,_,_,_,_,_,_,rfl,hb,x0,c1,c2,c4,f0,f1,f2,f3,f4,fun _=>rfl,f7⟩
  case s6 =>
   rintro L _ W K ⟨u27,u28,u29,u30,u31,u32,u3,rfl,hb,x0,c1,c2,c4,f0,f1,f2,f3,f4,f5,f7⟩ hL hD hN hK
   obtain rfl:=f0 (hD 0 (by kernel_rfl))
   refine wU (wT rfl) ?_
   have hz:L 6=false:=hL
   rw[hz] at c2
   have e0:=vN c2 0 (rfl)
   have h0:=wN c2 0
   have e1:=vN c2 1 (rfl)
   have h1:=wN c2 1
   go_simp
   refine hK _ _ ⟨_,_,_,_,_,_,_,rfl,(vI.set (vI.set hb (by omega) _) (by omega) _),(vY (vY x0 _ _ (by show D≠w.heap.size+1;omega)) _ _ (by show D≠w.heap.size+1;omega)),(vY (vY c1 _ _ (show w.heap.size≠w.heap.size+1 by omega)) _ _ (show w.heap.size≠w.heap.size+1 by omega)),(heap_set (heap_set c2 _) _),(vY (vY c4 _ _ (show w.heap.size+1+1≠w.heap.size+1 by omega)) _ _ (show w.heap.size+1+1≠w.heap.size+1 by omega)),f0,f1,f2,f3,f4,f5,f7⟩
  case s7 =>
   rintro L _ W K ⟨u27,u28,u29,u30,u31,u32,u3,rfl,hb,x0,c1,c2,c4,f0,f1,f2,f3,f4,f5,f7⟩ hL hD hN hK
   obtain rfl:=f5 (hD 5 (by kernel_rfl))
   refine wU (wT rfl) ?_
   go_simp
   refine hK _ _ ⟨_,_,_,_,_,_,_,rfl,hb,x0,c1,c2,c4,f0,f1,f2,f3,f4,f5,fun _=>rfl⟩
  case hd =>
   rintro L _ W ⟨u27,u28,u29,u30,u31,u32,u3,rfl,hb,x0,c1,c2,c4,f0,f1,f2,f3,f4,f5,f7⟩ hall
   rw[hall 6 (by decide)] at c2
   obtain rfl:=f0 (hall 0 (by decide))
   obtain rfl:=f1 (hall 1 (by decide))
   obtain rfl:=f2 (hall 2 (by decide))
   obtain rfl:=f3 (hall 3 (by decide))
   obtain rfl:=f4 (hall 4 (by decide))
   obtain rfl:=f5 (hall 5 (by decide))
   obtain rfl:=f7 (hall 7 (by decide))
   gi_wp2
   refine⟨by simp,.inl ⟨_,_,rfl,run_takeDeferred x0,?_⟩⟩
   have cX:(W.putObj D (.deferred none)).heap[w.heap.size+1]? = _:=(World.putObj_heap_other (by omega)).trans c2
   have q0:=vN cX 0 rfl
   have q1:=vN cX 1 rfl
   exact⟨.tuple #[vB r,.bool q],by simp[results,Tryz.results154,go_sem,q0,q1,vB],by rw[HF.out.1,HF.out.2],Below.trans hb (belowK_b (w:=w) (Nat.le_refl _) W D _ _ (by omega) x0 rfl rfl)⟩
 case stop =>
  rintro D c pre W _ _ h _
  exact h.elim
open Go.RowKit
def U4 (n:Nat):Nat→Nat→Nat
 | 0,r=>r
 | k+1,r=>yO (match Nat.ble ((r+2^k)*(r+2^k)) n with|true=>r+2^k|false=>r) (U4 n k)
theorem agv (n:Nat):∀ k r,U4 n k r=FP.isqGo n k r
 | 0,r=>rfl
 | k+1,r=>by
  rw[U4,yw,agv n k]
  rw[show FP.isqGo n (k+1) r=FP.isqGo n k (if (r+2^k)*(r+2^k)≤n then r+2^k else r) from rfl]
  congr 1
  by_cases h:(r+2^k)*(r+2^k)≤n
  ·rw[if_pos h,Nat.ble_eq_true_of_le h]
  ·rw[if_neg h]
   cases hb:Nat.ble ((r+2^k)*(r+2^k)) n with
   | true=>exact absurd (Nat.le_of_ble_eq_true hb) h
   | false=>rfl
def Ph (n:Nat):List Int:=yO (U4 n 128 0) fun r=>[wd r 1,wd r 0,vw (Nat.beq (r*r) n)]
theorem aaE (n:Nat):Ph n = [wd (FP.isq n) 1,wd (FP.isq n) 0,vw (decide (FP.isq n*FP.isq n=n))]:=by
 unfold Ph
 rw[yw,agv,show FP.isqGo n 128 0=FP.isq n from rfl]
 have:Nat.beq (FP.isq n*FP.isq n) n=decide (FP.isq n*FP.isq n=n):=by
  rw[Bool.eq_iff_iff,decide_eq_true_iff];exact⟨Nat.eq_of_beq_eq_true,fun h=>by rw[h];exact Nat.beq_refl n⟩
 rw[this]
def LJ (l:List Int):List Int:=Ph (nW (vT l 0) (vT l 1) (vT l 2) (vT l 3))
abbrev LK:Ct:=⟨[.agg [kU,kU,kU,kU]],[.agg [kU,kU],.sc .bool]⟩
theorem arL {α:Type} {l:List α} (h:l.length=4):∃ a b c d,l = [a,b,c,d]:=by match l,h with | [a,b,c,d],_=>exact⟨a,b,c,d,rfl⟩
theorem arM (a b c d:Int):wJ LK.a [a,b,c,d] = [vW (nW a b c d)]:=by
 obtain⟨n0,n1,n2,n3,n4⟩:=JH a b c d
 simp only[LK,wJ,yx,wQ,xW,AU,Sh.kinds,List.drop_succ_cons,List.drop_zero,List.length_cons,List.length_nil,n0,n1,n2,n3]
theorem arN (r:Nat) (q:Bool):xG (wJ LK.r [wd r 1,wd r 0,vw q]) = .tuple #[vB r,.bool q]:=by
 simp only[LK,wJ,yx,wQ,xW,AU,Sh.kinds,List.drop_succ_cons,List.drop_zero,List.length_cons,List.length_nil,BQ,yN,xG]
theorem arO (n:Nat) (hn:n<vL) (w:World) (hG:Gl gG w):Calls Tryz.prog 154 #[vW n] w fun e w'=>e = .returned (.tuple #[vB (FP.isq n),.bool (decide (FP.isq n*FP.isq n=n))])∧vI w w' :=
 callsIn_wide.1 (arK 3 (Nat.le_refl _) n hn w hG)
theorem arP {args:List Value} {v:Value} (h:∀ w,Gl gG w→Calls Tryz.prog 154 args.toArray w fun e w'=>e = .returned v∧vI w w'):PC Tryz.prog gG 154 args v:=fun w hG =>
 Hu Tryz.func154 (by kernel_rfl) (by kernel_rfl) (h w hG)
theorem aaF (a b c d:Int):LJ [a,b,c,d]=Ph (nW a b c d):=by rw[LJ];simp only[wV,wW]
theorem arQ:wh Tryz.prog gG ⟨154,LK,LJ⟩:=by
 intro l hl
 obtain⟨a,b,c,d,rfl⟩:=arL hl
 have hn:=JI a b c d
 have h2:PC Tryz.prog gG 154 [vW (nW a b c d)] (xG (wJ LK.r (Ph (nW a b c d)))):=by
  rw[aaE,arN]
  exact arP fun w hG=>arO _ hn w hG
 have h1:(Ph (nW a b c d)).length=3:=by rw[aaE];rfl
 rw[← arM,← aaF] at h2
 rw[← aaF] at h1
 exact⟨h1,h2⟩
def Dc:List wO:=⟨154,LK,LJ⟩::DD
theorem arR:∀ e∈Dc,wh Tryz.prog gG e:=List.forall_mem_cons.2 ⟨arQ,RO⟩
open Go.RowKit
abbrev FO:TypeId:=189
def BU (k:Int) (g:FuncId) (c:Nat):MapEntry := { key:=.int .u8 k,val:=.func (.func g) #[] #[],born:=c }
theorem agw (w:World) (es:Array MapEntry) (c:Nat) (k:Int) (v:Value) (h:Instr.findNow (.int .u8) (.int .u8 k) es.toList 0=some none) :
  (Instr.mapUpdate FO (.map (some w.heap.size)) (.int .u8 k) v).run Tryz.prog (w.alloc (.map es c)) = .ok () (w.alloc (.map (es.push { key:=.int .u8 k,val:=v,born:=c }) (c+1))):=by
 have hb:(w.alloc (.map es c)).heap[w.heap.size]? = some (.map es c):=by show(w.heap.push _)[w.heap.size]? = _;simp
 have hk:Tryz.prog.underlying 75=some (.int .u8):=by kernel_rfl
 have hm:Tryz.prog.underlying FO=some (.map 75 149):=by kernel_rfl
 have hc:(Instr.checkKey false 10000 75 (.int .u8 k)).run Tryz.prog (w.alloc (.map es c)) = .ok () (w.alloc (.map es c)):=MapKept.run_checkKey (k:=.int .u8 k) hk (by simp[MapKept.IsKey]) false 9999
 have hs:(w.alloc (.map es c)).heap.setIfInBounds w.heap.size (.map (es.push { key:=.int .u8 k,val:=v,born:=c }) (c+1))=w.heap.push (.map (es.push { key:=.int .u8 k,val:=v,born:=c }) (c+1)):=by
  show(w.heap.push _).setIfInBounds w.heap.size _=_
  apply Array.ext'
  simp
 simp[Instr.mapUpdate,run_underlying hm,MapKept.run_getObj_map hb,hc,MapKept.run_findKey hk h,MapKept.run_setObj_map _ hb,Result.andThen,hs]
 rfl
theorem agx (w:World) (es:Array MapEntry) (c:Nat) (m:Int) (i:Nat) (v:Value) (h:Instr.findNow (.int .u8) (.int .u8 m) es.toList 0=some (some (i,v))) :
  (Instr.lookup FO (.map (some w.heap.size)) (.int .u8 m) true).run Tryz.prog (w.alloc (.map es c)) = .ok (.tuple #[v,.bool true]) (w.alloc (.map es c)):=by
 have hb:(w.alloc (.map es c)).heap[w.heap.size]? = some (.map es c):=by show(w.heap.push _)[w.heap.size]? = _;simp
 have hk:Tryz.prog.underlying 75=some (.int .u8):=by kernel_rfl
 have hm:Tryz.prog.underlying FO=some (.map 75 149):=by kernel_rfl
 have hc:(Instr.checkKey es.isEmpty 10000 75 (.int .u8 m)).run Tryz.prog (w.alloc (.map es c)) = .ok () (w.alloc (.map es c)):=MapKept.run_checkKey (k:=.int .u8 m) hk (by simp[MapKept.IsKey]) _ 9999
 simp[Instr.lookup,run_underlying hm,MapKept.run_getObj_map hb,hc,MapKept.run_findKey hk h,Result.andThen]
theorem arS (w:World) (es:Array MapEntry) (c:Nat) (m:Int) (h:Instr.findNow (.int .u8) (.int .u8 m) es.toList 0=some none) :
  (Instr.lookup FO (.map (some w.heap.size)) (.int .u8 m) true).run Tryz.prog (w.alloc (.map es c)) = .ok (.tuple #[.nilFunc,.bool false]) (w.alloc (.map es c)):=by
 have hb:(w.alloc (.map es c)).heap[w.heap.size]? = some (.map es c):=by show(w.heap.push _)[w.heap.size]? = _;simp
 have hk:Tryz.prog.underlying 75=some (.int .u8):=by kernel_rfl
 have hm:Tryz.prog.underlying FO=some (.map 75 149):=by kernel_rfl
 have hc:(Instr.checkKey es.isEmpty 10000 75 (.int .u8 m)).run Tryz.prog (w.alloc (.map es c)) = .ok () (w.alloc (.map es c)):=MapKept.run_checkKey (k:=.int .u8 m) hk (by simp[MapKept.IsKey]) _ 9999
 have hi:(Tryz.prog.info? 149).bind (·.zero)=some .nilFunc:=by kernel_rfl
 have hz:(zeroValue 149).run Tryz.prog (w.alloc (.map es c)) = .ok .nilFunc (w.alloc (.map es c)):=by
  cases hx:Tryz.prog.info? 149 with
  | none=>rw[hx] at hi;cases hi
  | some x=>rw[hx] at hi;simp at hi;simp[zeroValue,typeInfo,hx,hi]
 simp[Instr.lookup,run_underlying hm,MapKept.run_getObj_map hb,hc,MapKept.run_findKey hk h,hz,Result.andThen]
def Cr (c:Int):Value:=if c=0 then .func (.func 152) #[] #[] else if c=3 then .func (.func 141) #[] #[] else .nilFunc
def Dx (c:Int):Bool:=decide (c=0∨c=3)
theorem arT (w:World) (c:Int):(Instr.lookup FO (.map (some w.heap.size)) (.int .u8 c) true).run Tryz.prog (w.alloc (.map #[BU 0 152 0,BU 3 141 1] 2)) = .ok (.tuple #[Cr c,.bool (Dx c)]) (w.alloc (.map #[BU 0 152 0,BU 3 141 1] 2)):=by
 by_cases h0:c=0
 ·subst h0;exact agx w _ _ 0 0 _ rfl
 ·by_cases h3:c=3
  ·subst h3;exact agx w _ _ 3 1 _ rfl
  ·have hF:Cr c = .nilFunc:=by unfold Cr;rw[if_neg h0,if_neg h3]
   have hQ:Dx c=false:=decide_eq_false (by omega)
   rw[hF,hQ]
   refine arS w _ _ c ?_
   have a0:(c==0)=false:=by rw[beq_eq_false_iff_ne];exact h0
   have a3:(c==3)=false:=by rw[beq_eq_false_iff_ne];exact h3
   simp only[BU,Instr.findNow,Instr.sameNow,if_true]
   rw[a0,a3]
theorem Dy {P:Program} {ops:Array Oper} {i:Nat} {o:Oper} {rest:List Nat} {a:Act} {w:World} {Q:Exit→Act→World→Prop} (ho:ops[i]? = some o) (hg:o.guard=none) (h:o.wp P a w (wpOps P ops Q rest) Q):wpOps P ops Q (i::rest) a w:=by
 rw[wpOps];simp only[ho]
 rw[show Region.wanted o (yielded ops a.tmps)=true from by unfold Region.wanted;rw[hg]]
 simp only[if_true]
 exact .inl h
theorem ET {P:Program} {o:Oper} {a:Act} {w w':World} {v:Value} {K:Act→World→Prop} {Q:Exit→Act→World→Prop} (h:(execOp a.eval o).run P w = .ok (.value v) w') (hK:K (a.put o.dst v) w'):o.wp P a w K Q:=by
 unfold Oper.wp;rw[h];exact hK
theorem agy {P:Program} {o:Oper} {a:Act} {w w':World} {K:Act→World→Prop} {Q:Exit→Act→World→Prop} (h:(execOp a.eval o).run P w = .ok .skip w') (hK:K (a.put o.dst undef) w'):o.wp P a w K Q:=by
 unfold Oper.wp;rw[h];exact hK
def U5 (o:Oper):Option Tmp×Op×Option (Nat×Bool):=(o.dst,o.op,o.guard)
theorem Dz {R:Array Oper} {l:List (Option Tmp×Op×Option (Nat×Bool))} (h:R.toList.map U5=l) {i:Nat} {d:Option Tmp} {op:Op} (hi:l[i]? = some (d,op,none)):∃ o,R[i]? = some o∧o.dst=d∧o.op=op∧o.guard=none:=by
 rw[← h,List.getElem?_map] at hi
 cases ho:R.toList[i]? with
 | none=>rw[ho] at hi;cases hi
 | some o =>
  rw[ho] at hi
  simp only[Option.map_some,Option.some.injEq,U5,Prod.mk.injEq] at hi
  exact⟨o,by rw[← Array.getElem?_toList];exact ho,hi.1,hi.2.1,hi.2.2⟩
def Pi:I1:=fun c=>match c with
 | .seq (.region 7 _ _) _=>some 0
 | _=>none
noncomputable def U6:Code:=(Tryz.f88.body).getD .skip
noncomputable def IQ:Code:=match keyed Pi U6 with|(_,c)::_=>c | []=>.skip
def opsOf:Code→Array Oper | .region _ o _=>o|_=>#[]
def U7:Code→Code | .seq a _=>a|c=>c
def Rz:Code→Code | .seq _ b=>b|c=>c
noncomputable def R7:Array Oper:=opsOf (U7 IQ)
noncomputable def R8:Array Oper:=opsOf (U7 (U7 (Rz IQ)))
noncomputable def XXs:Code:=Rz (U7 (Rz IQ))
noncomputable def YYs:Code:=Rz (Rz IQ)
theorem arU:IQ = .seq (.region 7 R7 false) (.seq (.seq (.region 8 R8 false) XXs) YYs):=by kernel_rfl
theorem arV:keyed Pi U6 = [(0,IQ)]:=by kernel_rfl
theorem RA:R7.toList.map U5 = [(some 52,.makeMap FO none,none),(none,.insert FO (.tmp 52) (.const (.int .u8 0)) (.func 152),none),(none,.insert FO (.tmp 52) (.const (.int .u8 3)) (.func 141),none),(some 53,.move (.tmp 52),none),(some 10,.assign (.tmp 53),none)]:=by kernel_rfl
theorem IR:R8.toList.map U5 = [(some 55,.move (.tmp 10),none),(some 56,.fieldAddr 170 (.tmp 7) 1,none),(some 57,.load 75 (.tmp 56),none),(some 58,.lookup FO (.tmp 55) (.tmp 57) true,none),(some 54,.move (.tmp 58),none),(some 59,.extract (.tmp 54) 0,none),(some 60,.extract (.tmp 54) 1,none),(some 11,.assign (.tmp 59),none),(some 12,.assign (.tmp 60),none)]:=by kernel_rfl
theorem arW:List.range R7.size = [0,1,2,3,4]:=by kernel_rfl
theorem arX:List.range R8.size = [0,1,2,3,4,5,6,7,8]:=by kernel_rfl
def LM (T:wF) (c:Int):wF:=fun t=>if t=11 then some (.v (Cr c)) else if t=12 then some (.v (.bool (Dx c))) else if t=10∨(52≤t∧t≤60) then none else T t
theorem arY {T:wF} {d t:Nat} {x:AV} : (T.put (some d) x) t=if t=d then some x else T t:=rfl
theorem agz (a:Act) (v:Value):a.put none v=a:=rfl
theorem arZ {E:xK} {w0:World} {B0:wX} {nt N:Nat} {T T2:wF} {H:vE} {b:Nat} {cs:List AV} {t:TypeId} {c:Int} {Q:Cz}
  (hnt:103≤nt) (h7:T 7=some (.loc b 0)) (hb:H b=some (.own cs t)) (hc:zQ Tryz.prog 75 cs 1=some (.v (.int .u8 c))) (hf:Jb Tryz.prog 170 1 (.loc b 0)=some (.loc b 1))
  (hT2:∀ t x,T2 t=some x→LM T c t=some x) (h:AW ⟨Tryz.prog,gG,E,w0,B0,nt⟩ XXs (Mw (AW ⟨Tryz.prog,gG,E,w0,B0,nt⟩ YYs Q) Q) N T2 H):AW ⟨Tryz.prog,gG,E,w0,B0,nt⟩ IQ Q N T H:=by
 intro e a w R hT hI hB hd
 rw[arU]
 obtain⟨p0,g0,d0,k0,q0⟩:=Dz RA (i:=0) rfl
 obtain⟨p1,g1,d1,k1,q1⟩:=Dz RA (i:=1) rfl
 obtain⟨p2,g2,d2,k2,q2⟩:=Dz RA (i:=2) rfl
 obtain⟨p3,g3,d3,k3,q3⟩:=Dz RA (i:=3) rfl
 obtain⟨p4,g4,d4,k4,q4⟩:=Dz RA (i:=4) rfl
 obtain⟨m,hm⟩:∃ m:Value,m = .map (some w.heap.size):=⟨_,rfl⟩
 have s0:=hT.put (d:=some 52) (fun t ht=>(by cases ht;exact Nat.lt_of_lt_of_le (by decide) hnt)) (.v m)
 simp only[AV.val] at s0
 have s1:=s0.put (d:=some 53) (fun t ht=>(by cases ht;exact Nat.lt_of_lt_of_le (by decide) hnt)) (.v m)
 simp only[AV.val] at s1
 have s2:=s1.put (d:=some 10) (fun t ht=>(by cases ht;exact Nat.lt_of_lt_of_le (by decide) hnt)) (.v m)
 simp only[AV.val] at s2
 have e52:(a.put (some 52) m).eval (.tmp 52)=m:=s0.eval (x:=.tmp 52) (y:=.v m) rfl
 have e53:((a.put (some 52) m).put (some 53) m).eval (.tmp 53)=m:=s1.eval (x:=.tmp 53) (y:=.v m) rfl
 refine wp_seq (wp_region ?_)
 rw[arW]
 refine Dy g0 q0 (ET (v:=m) (w':=w.alloc (.map #[] 0)) (by unfold execOp;rw[k0];simp[run_makeMap_plain,hm]) ?_)
 rw[d0]
 refine Dy g1 q1 (agy (w':=w.alloc (.map #[BU 0 152 0] 1)) (by unfold execOp;rw[k1];simp only[];rw[e52,hm];have:=agw w #[] 0 0 (.func (.func 152) #[] #[]) rfl;simp[Act.eval,this];rfl) ?_)
 rw[d1,agz]
 refine Dy g2 q2 (agy (w':=w.alloc (.map #[BU 0 152 0,BU 3 141 1] 2)) (by unfold execOp;rw[k2];simp only[];rw[e52,hm];have:=agw w #[BU 0 152 0] 1 3 (.func (.func 141) #[] #[]) rfl;simp[Act.eval,this];rfl) ?_)
 rw[d2,agz]
 refine Dy g3 q3 (ET (v:=m) (w':=w.alloc (.map #[BU 0 152 0,BU 3 141 1] 2)) (by unfold execOp;rw[k3];simp only[];rw[e52];rfl) ?_)
 rw[d3]
 refine Dy g4 q4 (ET (v:=m) (w':=w.alloc (.map #[BU 0 152 0,BU 3 141 1] 2)) (by unfold execOp;rw[k4];simp only[];rw[e53];rfl) ?_)
 rw[d4]
 simp only[wpOps]
 have R3:wH gG w0 B0 e H (w.alloc (.map #[BU 0 152 0,BU 3 141 1] 2)):=R.below ((vI.refl w).alloc _)
 have hlook:=arT w c
 rw[← hm] at hlook
 generalize w.alloc (.map #[BU 0 152 0,BU 3 141 1] 2)=w3 at *
 generalize hT3:((T.put (some 52) (.v m)).put (some 53) (.v m)).put (some 10) (.v m)=T3 at s2
 generalize ha3:((a.put (some 52) m).put (some 53) m).put (some 10) m=a3 at *
 have hd3:a3.defers = []:=by rw[← ha3];simp only[Act.put_defers];exact hd
 have t10:T3 10=some (.v m):=by rw[← hT3];rfl
 have t7:T3 7=some (.loc b 0):=by rw[← hT3];exact h7
 obtain⟨o0,G0,D0,K0,Q0⟩:=Dz IR (i:=0) rfl
 obtain⟨o1,G1,D1,K1,Q1⟩:=Dz IR (i:=1) rfl
 obtain⟨o2,G2,D2,K2,Q2⟩:=Dz IR (i:=2) rfl
 obtain⟨o3,G3,D3,K3,Q3⟩:=Dz IR (i:=3) rfl
 obtain⟨o4,G4,D4,K4,Q4⟩:=Dz IR (i:=4) rfl
 obtain⟨o5,G5,D5,K5,Q5⟩:=Dz IR (i:=5) rfl
 obtain⟨o6,G6,D6,K6,Q6⟩:=Dz IR (i:=6) rfl
 obtain⟨o7,G7,D7,K7,Q7⟩:=Dz IR (i:=7) rfl
 obtain⟨o8,G8,D8,K8,Q8⟩:=Dz IR (i:=8) rfl
 have pt:∀ (d:Nat),d<103→∀ t,some d=some t→t<nt:=fun d hd t ht=>(by cases ht;exact Nat.lt_of_lt_of_le hd hnt)
 obtain⟨tp,htp⟩:∃ tp:Value,tp = .tuple #[Cr c,.bool (Dx c)]:=⟨_,rfl⟩
 have hl:BF Tryz.prog gG 75 H (.loc b 1)=some (.v (.int .u8 c),[b],[]):=by unfold BF;simp only[hb,hc]
 obtain⟨-,hload,-⟩:=VN hl R3
 obtain⟨hfa,-⟩:=abD hf R3
 have val_v:∀ v,(AV.v v).val e=v:=fun v=>rfl
 have z1:=s2.put (d:=some 55) (pt 55 (by decide)) (.v m)
 have z2:=z1.put (d:=some 56) (pt 56 (by decide)) (.loc b 1)
 have z3:=z2.put (d:=some 57) (pt 57 (by decide)) (.v (.int .u8 c))
 have z4:=z3.put (d:=some 58) (pt 58 (by decide)) (.v tp)
 have z5:=z4.put (d:=some 54) (pt 54 (by decide)) (.v tp)
 have z6:=z5.put (d:=some 59) (pt 59 (by decide)) (.v (Cr c))
 have z7:=z6.put (d:=some 60) (pt 60 (by decide)) (.v (.bool (Dx c)))
 have z8:=z7.put (d:=some 11) (pt 11 (by decide)) (.v (Cr c))
 have z9:=z8.put (d:=some 12) (pt 12 (by decide)) (.v (.bool (Dx c)))
 have y0:=s2.eval (x:=.tmp 10) t10
 have y1:=z1.eval (x:=.tmp 7) (y:=.loc b 0) t7
 have y2:=z2.eval (x:=.tmp 56) (y:=.loc b 1) rfl
 have y3:=z3.eval (x:=.tmp 55) (y:=.v m) rfl
 have y3':=z3.eval (x:=.tmp 57) (y:=.v (.int .u8 c)) rfl
 have y4:=z4.eval (x:=.tmp 58) (y:=.v tp) rfl
 have y5:=z5.eval (x:=.tmp 54) (y:=.v tp) rfl
 have y6:=z6.eval (x:=.tmp 54) (y:=.v tp) rfl
 have y7:=z7.eval (x:=.tmp 59) (y:=.v (Cr c)) rfl
 have y8:=z8.eval (x:=.tmp 60) (y:=.v (.bool (Dx c))) rfl
 simp only[val_v] at z1 z2 z3 z4 z5 z6 z7 z8 z9 y0 y1 y2 y3 y3' y4 y5 y6 y7 y8
 refine wp_seq (wp_seq (wp_region ?_))
 rw[arX]
 refine Dy G0 Q0 (ET (v:=m) (w':=w3) (by unfold execOp;rw[K0];simp only[];rw[y0];rfl) ?_)
 rw[D0]
 refine Dy G1 Q1 (ET (v:=(AV.loc b 1).val e) (w':=w3) (by unfold execOp;rw[K1];simp only[];rw[y1];simp[hfa]) ?_)
 rw[D1]
 refine Dy G2 Q2 (ET (v:=.int .u8 c) (w':=w3) (by unfold execOp;rw[K2];simp only[];rw[y2];simp only[AV.val] at hload ⊢;simp[hload]) ?_)
 rw[D2]
 refine Dy G3 Q3 (ET (v:=tp) (w':=w3) (by unfold execOp;rw[K3];simp only[];rw[y3,y3'];simp[hlook,htp]) ?_)
 rw[D3]
 refine Dy G4 Q4 (ET (v:=tp) (w':=w3) (by unfold execOp;rw[K4];simp only[];rw[y4];rfl) ?_)
 rw[D4]
 refine Dy G5 Q5 (ET (v:=Cr c) (w':=w3) (by unfold execOp;rw[K5];simp only[];rw[y5,htp];rfl) ?_)
 rw[D5]
 refine Dy G6 Q6 (ET (v:=.bool (Dx c)) (w':=w3) (by unfold execOp;rw[K6];simp only[];rw[y6,htp];rfl) ?_)
 rw[D6]
 refine Dy G7 Q7 (ET (v:=Cr c) (w':=w3) (by unfold execOp;rw[K7];simp only[];rw[y7];rfl) ?_)
 rw[D7]
 refine Dy G8 Q8 (ET (v:=.bool (Dx c)) (w':=w3) (by unfold execOp;rw[K8];simp only[];rw[y8];rfl) ?_)
 rw[D8]
 simp only[wpOps,Exit.then]
 have hTT:∀ t x,LM T c t=some x→(((((((((T3.put (some 55) (.v m)).put (some 56) (.loc b 1)).put (some 57) (.v (.int .u8 c))).put (some 58) (.v tp)).put (some 54) (.v tp)).put (some 59) (.v (Cr c))).put (some 60) (.v (.bool (Dx c)))).put (some 11) (.v (Cr c))).put (some 12) (.v (.bool (Dx c)))) t=some x:=fun t x hx=>by
  unfold LM at hx
  rw[← hT3]
  simp only[arY]
  by_cases h11:t=11
  ·rw[if_pos h11] at hx;rw[if_neg (by omega),if_pos h11];exact hx
  ·rw[if_neg h11] at hx
   by_cases h12:t=12
   ·rw[if_pos h12] at hx;rw[if_pos h12];exact hx
   ·rw[if_neg h12] at hx
    by_cases hr:t=10∨(52≤t∧t≤60)
    ·rw[if_pos hr] at hx;cases hx
    ·rw[if_neg hr] at hx
     rw[if_neg h12,if_neg h11,if_neg (by omega),if_neg (by omega),if_neg (by omega),if_neg (by omega),if_neg (by omega),if_neg (by omega),if_neg (by omega),if_neg (by omega),if_neg (by omega),if_neg (by omega)]
     exact hx
 have hII:zP (LM T c) H:=fun t x hx r hr=>by
  unfold LM at hx
  split at hx
  ·cases hx;cases hr
  ·split at hx
   ·cases hx;cases hr
   ·split at hx
    ·cases hx
    ·exact hI t x hx r hr
 refine wp_mono (h e _ w3 R3 ⟨z9.1,fun t x hx=>z9.2 t x (hTT t x (hT2 t x hx))⟩ (fun t x hx=>hII t x (hT2 t x hx)) hB (by simp only[Act.put_defers];exact hd3)) ?_
 rintro ex a4 w4 ⟨N4,T4,H4,e4,h1,h2⟩
 cases ex with
 | normal=>exact h1 e4 a4 w4 h2.1 h2.2.1 h2.2.2.1 h2.2.2.2.1 h2.2.2.2.2
 | _=>exact⟨N4,T4,H4,e4,h1,h2⟩
open Go.RowKit
def aaI (f q:SV) (i:Nat) (x:Option SV):Option SV:=match Nat.beq i 11 with
 | true=>some f
 | false=>match Nat.beq i 12 with
  | true=>some q
  | false=>match Nat.beq i 10 with
   | true=>none
   | false=>match Nat.ble 52 i,Nat.ble i 60 with
    | true,true=>none
    | _,_=>x
def DC (f q:SV):Nat→wE→wE
 | _,[]=>[]
 | i,x::l=>yO (Nat.succ i) fun j=>aaI f q i x::DC f q j l
theorem agA (f q:SV):∀ (T:wE) (i t:Nat) (y:SV),zD (DC f q i T) t=some y→aaI f q (i+t) (zD T t)=some y
 | [],i,t,y,h=>by rw[DC] at h;cases h
 | x::l,i,0,y,h=>by rw[DC,yw] at h;exact h
 | x::l,i,t+1,y,h=>by
  rw[DC,yw] at h
  have:=agA f q l (i+1) t y h
  rw[show i+(t+1)=i+1+t by omega];exact this
theorem agB (f q:SV):∀ (T:wE) (i:Nat),(DC f q i T).length=T.length
 | [],i=>rfl
 | x::l,i=>by rw[DC,yw,List.length_cons,agB f q l,List.length_cons]
theorem ar0 {f q:SV} {s:vS} {T:wE} {c:Int} (hf:f.den s = .v (Cr c)) (hq:q.den s = .v (.bool (Dx c))):∀ t x,wE.den s (DC f q 0 T) t=some x→LM (wE.den s T) c t=some x:=by
 intro t x h
 unfold wE.den at h
 cases hg:zD (DC f q 0 T) t with
 | none=>rw[hg] at h;cases h
 | some y =>
  rw[hg] at h
  simp only[Option.map_some,Option.some.injEq] at h
  have h2:=agA f q T 0 t y hg
  rw[Nat.zero_add] at h2
  unfold aaI at h2
  unfold LM
  split at h2
  ·rename_i hb
   rw[if_pos (Nat.eq_of_beq_eq_true hb)]
   cases h2;rw[← h,hf]
  ·rename_i hb
   have n11:¬ t=11:=fun e=>by rw[e] at hb;cases hb
   rw[if_neg n11]
   split at h2
   ·rename_i hb2
    rw[if_pos (Nat.eq_of_beq_eq_true hb2)]
    cases h2;rw[← h,hq]
   ·rename_i hb2
    have n12:¬ t=12:=fun e=>by rw[e] at hb2;cases hb2
    rw[if_neg n12]
    split at h2
    ·cases h2
    ·rename_i hb3
     have n10:¬ t=10:=fun e=>by rw[e] at hb3;cases hb3
     split at h2
     ·cases h2
     ·rename_i hb4
      rw[if_neg (fun e=>by
       rcases e with e|⟨e1,e2⟩
       ·exact n10 e
       ·exact hb4 (Nat.ble_eq_true_of_le e1) (Nat.ble_eq_true_of_le e2))]
      unfold wE.den
      rw[h2,← h];rfl
noncomputable def RB (C:xA) (f:Nat) (st:St):vo (Exit×St):=(exec C f XXs st).bind fun r=>match r.1 with | .normal=>exec C f YYs r.2|_=>.leaf r
def fnS (g:FuncId):SV:=.v (.func (.func g) #[] #[])
def U8 (st:St):Option X:=match zD st.T 7 with
 | some (.loc b 0)=>match hget st.H b with
  | some o=>match o.t,o.c with
   | some _,_ :: .int .u8 x::_=>some x
   | _,_=>none
  | none=>none
 | _=>none
noncomputable def U9 (C:xA) (f:Nat):Kh:=fun _ st=>match U8 st,Nat.ble 103 st.T.length with
 | some x,true=>Fg st.fc (.bin .eql .u8 x (.lit 0)) fun b fc=>match b with
  | true=>RB C f { st with T:=DC (fnS 152) (.bool (.lit 1)) 0 st.T,fc:=fc }
  | false=>Fg fc (.bin .eql .u8 x (.lit 3)) fun b fc=>match b with
   | true=>RB C f { st with T:=DC (fnS 141) (.bool (.lit 1)) 0 st.T,fc:=fc }
   | false=>RB C f { st with T:=DC (.v .nilFunc) (.bool (.lit 0)) 0 st.T,fc:=fc }
 | _,_=>.stuck "map"
theorem ar1 {s:vS} {st:St} {x:X} (h:U8 st=some x):∃ b cs t,wE.den s st.T 7=some (.loc b 0)∧SH.den s st.H b=some (.own cs t)∧cs[1]? = some (.v (.int .u8 (x.den s))):=by
 unfold U8 at h
 split at h
 ·rename_i b h7
  split at h
  ·rename_i o ho
   split at h
   ·rename_i t y x' l ht hc
    cases h
    refine⟨b,SV.dens s o.c,t,?_,?_,?_⟩
    ·unfold wE.den;rw[h7];rfl
    ·unfold SH.den;rw[ho];simp only[Option.map_some];rw[SO.den_own s ht]
    ·rw[hc];rfl
   ·cases h
  ·cases h
 ·cases h
theorem aaJ {L M:List wO} {S:List yQ} (hC:zU (wP L M S) eE) {s:vS} {f:Nat} {st:St} {x:X} {fc:Facts} {fv q:SV} (hcl:U8 st=some x) (hlen:Nat.ble 103 st.T.length=true) (hfv:fv.den s = .v (Cr (x.den s))) (hq:q.den s = .v (.bool (Dx (x.den s)))) (hf:xC s fc)
  {ex:Exit} {st':St} (h:(RB (wP L M S) f { st with T:=DC fv q 0 st.T,fc:=fc }).path (wP L M S).Φ s=some (ex,st')):Fs (wP L M S) eE s IQ st ex st':=by
 obtain⟨b,cs,t,h7,hb,hc⟩:=ar1 (s:=s) hcl
 have hld:zQ Tryz.prog 75 cs 1=some (.v (.int .u8 (x.den s))):=by
  unfold zQ;rw[show I8 Tryz.prog 75=some false by kernel_rfl];exact hc
 have hfa:Jb Tryz.prog 170 1 (.loc b 0)=some (.loc b 1):=by
  unfold Jb;rw[show FY Tryz.prog 170 1=some (1,75) by kernel_rfl];simp only[];rw[show xU Tryz.prog 75=some (0+1) by kernel_rfl]
 have hw:=fun w0 B0 Q h=>arZ (E:=eE) (w0:=w0) (B0:=B0) (N:=st.N) (Q:=Q) (Nat.le_of_ble_eq_true hlen) h7 hb hld hfa (ar0 (T:=st.T) hfv hq) h
 unfold RB at h
 obtain⟨ex1,st1,h1,h2⟩:=DZ h
 have s1:=(Na (E:=eE) (s:=s) hC f).1 _ _ _ _ h1 hf
 have l0:(DC fv q 0 st.T).length=st.T.length:=agB _ _ _ _
 have l1:st1.T.length=st.T.length:=s1.len.trans l0
 have aw1:=s1.aw
 simp only[l0] at aw1
 rcases KP h2 with⟨rfl,h3⟩|⟨hx,h3⟩
 ·have s2:=(Na (E:=eE) (s:=s) hC f).1 _ _ _ _ h3 s1.fc
  refine⟨fun w0 B0=>hw w0 B0 _ ((aw1 w0 B0).mono ?_),s2.len.trans l1,fun j hj=>?_,s2.fc⟩
  ·rintro y N T H ⟨rfl,rfl,rfl,rfl⟩
   have:=s2.aw w0 B0
   rw[l1] at this
   exact this
  ·obtain⟨a,b⟩:=s2.dt j hj
   obtain⟨a',b'⟩:=s1.dt j a
   exact⟨a',b.trans b'⟩
 ·cases h3
  refine⟨fun w0 B0=>hw w0 B0 _ ((aw1 w0 B0).mono ?_),l1,s1.dt,s1.fc⟩
  rintro y N T H ⟨rfl,rfl,rfl,rfl⟩
  exact KQ hx ⟨rfl,rfl,rfl,rfl⟩
theorem ar2 {L M:List wO} {S:List yQ} (hC:zU (wP L M S) eE) (s:vS) (f:Nat):Good (wP L M S) eE s (U9 (wP L M S) f) (0,IQ):=by
 intro st ex st' h hf
 unfold U9 at h
 split at h
 ·rename_i x hx hlen
  obtain⟨fc1,hf1,h⟩:=HZ hf h
  have e0:((X.bin .eql .u8 x (.lit 0)).den s != 0)=decide (x.den s=0):=by
   simp only[X.den,vX,yN];rw[Bool.eq_iff_iff,beq_iff_eq,decide_eq_true_iff]
  rw[e0] at h
  by_cases c0:x.den s=0
  ·rw[decide_eq_true c0] at h
   exact aaJ hC hx hlen (by rw[c0];rfl) (by rw[c0];rfl) hf1 h
  ·rw[decide_eq_false c0] at h
   obtain⟨fc2,hf2,h⟩:=HZ hf1 h
   have e3:((X.bin .eql .u8 x (.lit 3)).den s != 0)=decide (x.den s=3):=by
    simp only[X.den,vX,yN];rw[Bool.eq_iff_iff,beq_iff_eq,decide_eq_true_iff]
   rw[e3] at h
   by_cases c3:x.den s=3
   ·rw[decide_eq_true c3] at h
    exact aaJ hC hx hlen (by rw[c3];rfl) (by rw[c3];rfl) hf2 h
   ·rw[decide_eq_false c3] at h
    have hF:Cr (x.den s) = .nilFunc:=by unfold Cr;rw[if_neg c0,if_neg c3]
    have hQ:Dx (x.den s)=false:=decide_eq_false (by omega)
    exact aaJ hC hx hlen (by rw[hF];rfl) (by rw[hQ];rfl) hf2 h
 ·cases h
theorem ar3 {fn:Func} {cd:Code} (h1:Tryz.prog.funcs[88]? = some fn) (h2:fn.body=some cd):cd=U6:=by
 rw[Tryz.func88] at h1
 cases h1
 unfold U6
 rw[h2];rfl
theorem ar4 {L M:List wO} {S:List yQ} (hC:Aw (wP L M S) eE) (f n:Nat) {ct:Ct} {t:vo SV} (h:RY (wP L M S) Pi (U9 (wP L M S) f) n 88 (ww ct.a (wm 0 (vD ct.a))) (vD ct.a).length=t) (hs:D9 (Nh (wP L M S)) ct (vD ct.a).length t=true) :
  wh (wP L M S).P (wP L M S).G ⟨88,ct,vU (wP L M S).Φ ct t⟩:=fun l hl =>
 atM hC.ok (fun s fn cd h1 h2 p hp=>by
  rw[ar3 h1 h2,arV] at hp
  rw[List.mem_singleton.1 hp]
  exact ar2 hC.ok s f) h (KS hs) l hl (Ni hC (by rw[hl];exact hs))
end Go.Proofs.YtemomocmfggiaaaGreatDoor
