import Derived.Test.YtippohicjhilnaaGreatDoorZBTn
import Derived.Test.YtippohicjhilnaaGreatDoorZCTn
import Derived.Test.YtippohicjhilnaaGreatDoorZGTn
import Derived.Test.YtippohicjhilnaaGreatDoorZMTn
import Derived.Test.YtippohicjhilnaaGreatDoorZNTn
import Derived.Test.YtippohicjhilnaaGreatDoorZRTn
set_option linter.unusedSimpArgs false
set_option linter.unusedVariables false
set_option maxRecDepth 100000
set_option maxHeartbeats 4000000
open Go.Proofs.Tryz
namespace Go.Proofs.YtippohicjhilnaaGreatDoor
open Go.RowKit Go.Shelf
attribute [local go_sem] Oper.semAt_some
def BQ:Nat->List (Fin 128)
 | 0=>[]
 | k+1=>if h:k<128 then BQ k ++ [⟨k,h⟩] else BQ k
theorem aea {k:Nat} (hk:k<128):BQ (k+1)=BQ k ++ [⟨k,hk⟩]:=by simp[BQ,hk]
theorem akV:∀ k,k<=128->(BQ k).length=k
 | 0,_=>rfl
 | k+1,h=>by rw[aea (by omega),List.length_append,akV k (by omega)];rfl
theorem Ye {k:Nat} (h:k<128):2^k<wy:=by rw[Bl];exact Nat.pow_lt_pow_right (by decide) h
theorem ax1 (m k:Nat) (hk:k<128) (w:World) (hG:Gl gG w):CallsIn Fence.wide m prog 43 #[.agg #[.int .u64 0,.int .u64 1],.int .i64 (127-(k:Int))] w λe w'=>e = .returned (vB (2^(127-k)))/\vY w w':=callsIn_wide.2 (by
 have h:=LZ (ajQ [0,1,127-(k:Int)] rfl).2 func43 (by kernel_rfl) (by kernel_rfl) w hG;simp only[] at h;have e0:nB 0 1=1:=by unfold nB;rw[show u64 0=0 from by decide,show u64 1=1 from by decide];rfl
 have e1:i64 (127-(k:Int))=((127-k:Nat):Int):=by rw[xG (by omega) (by omega)];omega
 rw[W9,e0,e1,Int.toNat_natCast,Nat.one_mul,Nat.mod_eq_of_lt (Ye (by omega)),wS] at h;have z0:u64 0=0:=by decide
 have z1:u64 1=1:=by decide
 have e2:i64 (127-(k:Int))=127-(k:Int):=xG (by omega) (by omega)
 simpa only[NB,xk,yL,xu,yw,Sh.kinds,List.drop_succ_cons,List.drop_zero,List.length_cons,List.length_nil,zF,Ha,Dm,xU,z0,z1,e2] using h)
theorem akW (m a b:Nat) (ha:a<wy) (hb:b<wy) (w:World) (hG:Gl gG w):CallsIn Fence.wide m prog 218 #[vB a,vB b] w λe w'=>e = .returned (vW (a*b))/\vY w w':=callsIn_wide.2 (by
 have h:=LZ (ajU [wd a 1,wd a 0,wd b 1,wd b 0] rfl).2 func218 (by kernel_rfl) (by kernel_rfl) w hG;simp only[] at h;rw[aib,yH ha,yH hb,Al] at h
 simpa only[ND,xk,yL,xu,yw,Sh.kinds,List.drop_succ_cons,List.drop_zero,List.length_cons,List.length_nil,zF,Dm,xU] using h)
theorem ax2 (m a b:Nat) (ha:a<wG) (hb:b<wG) (w:World) (hG:Gl gG w):CallsIn Fence.wide m prog 224 #[vW a,vW b] w λe w'=>e = .returned (.int .i64 (yg a b))/\vY w w':=callsIn_wide.2 (by
 have h:=LZ (akB [wd a 0,wd a 1,wd a 2,wd a 3,wd b 0,wd b 1,wd b 2,wd b 3] rfl).2 func224 (by kernel_rfl) (by kernel_rfl) w hG;simp only[] at h;rw[ajf,Ai ha,Ai hb] at h;have hc:i64 (yg a b)=yg a b:=Nz a b
 simpa only[NP,xk,yL,xu,yw,Sh.kinds,List.drop_succ_cons,List.drop_zero,List.length_cons,List.length_nil,zF,Ha,Dm,xU,hc] using h)
def GlK (A B:World):Prop:=Gl gG A->Gl gG B
theorem ax3 (n:Nat) (hn:1<=n) (l B:Nat) (J Jx:List (Fin 128)->World->Prop) (hJ:AbidesFrom B J)
  (hY:∀ pre x W,J pre W->pre.length<128->YieldAt Fence.wide (n-1) prog l #[vB (2^(127-x.1))] W λe W' =>
   (e = .returned (.bool true)/\J (pre ++ [x]) W'/\GlK W W')\/(e = .returned (.bool false)/\Jx (pre ++ [x]) W'))
  (W:World) (hG:Gl gG W) (h0:J [] W) :
  CallsIn Fence.wide n prog 271 #[.func (.yield l) #[] #[]] W λe W'=>(∃ v,e = .returned v) /\
   ((∃ ys,ys=BQ 128/\J ys W')\/(∃ pre,True/\Jx pre W')):=by
 refine callsIn_of_wp func271 rfl trivial ?_ rfl;have hL:Fence.wide.fn 43:=trivial;simp only[ntmps271,List.size_toArray,List.length_cons,List.length_nil,Nat.reduceAdd,Nat.reduceSub,Array.replicate_succ,Array.replicate_zero,List.push_toArray,List.append_toArray,List.nil_append,List.cons_append]
 gi_wp2
 gi_loopw [2] (λi wr=>∃ k:Nat,k<=128/\i = .int .i64 (127-(k:Int))/\J (BQ k) wr/\Gl gG wr)
  (λi _=>(intOf i+1).toNat)
 case atStart=>exact⟨0,Nat.zero_le _,rfl,h0,hG⟩
 case round =>
  obtain⟨k,hk,rfl,hJs,hGr⟩:=hrel;by_cases hlt:k<128
  ·have Hs:=Lib.hid (aea hlt);have hlen:=akV k hk;have hge:(0:Int)<=127-(k:Int):=by omega
   gi_wp2_with (gi_at_call 43;refine(ax1 (n-1) k hlt wr hGr).mono ?_;rintro e w3 ⟨rfl,hw3⟩;have hJ3:J (BQ k) w3:=hJ _ wr w3 none hJs ⟨hw3.os,hw3.tape,hw3.output,hw3.size,λq hq _=>hw3.block q hq⟩ (λr e=>by cases e);have hG3:=hGr.bel hw3;obtain⟨fn,tmps,assign,body,hy,hR⟩:=hY _ ⟨k,hlt⟩ w3 hJ3 (by omega);simp only[] at hy)
   refine hR.mono ?_;rintro e W3 (⟨rfl,hJ4,hk4⟩|⟨rfl,hJx3⟩)
   ·gi_wp2
    go_roundw
    case rel=>exact⟨k+1,by omega,by congr 1;omega,by rw[Hs.out];exact hJ4,hk4 hG3⟩
    case measure=>simp[intOf];omega
   ·gi_wp2
    go_end0
    exact⟨⟨_,rfl⟩,.inr ⟨_,trivial,hJx3⟩⟩
  ·obtain rfl:k=128:=by omega
   gi_wp2
   refine⟨(λf h=>(by cases h)),?_⟩
   gi_wp2
   go_end0
   exact⟨⟨_,rfl⟩,.inl ⟨_,rfl,hJs⟩⟩
theorem ax4 (n:Nat) (hn:1<=n) (w:World) (hG:Gl gG w) :
  SeqStopsK Fence.wide n prog 271 #[] (λx:Fin 128=>#[vB (2^(127-x.1))]) GlK (λys=>ys=BQ 128)
   (λ_=>True) 128 w:=λl J Jx W hW hJ _ hY h0=>by
 have hG2:Gl gG W:=hG.bel hW;exact ax3 n hn l W.heap.size J Jx hJ hY W hG2 h0
theorem ax5 (n:Nat) (w:World) :
  CallsIn Fence.wide n prog 223 #[] w λe w'=>e = .returned (.func (.func 271) #[] #[])/\w'=w:=by
 refine callsIn_of_wp func223 rfl trivial ?_ rfl;simp only[ntmps223,List.size_toArray,List.length_cons,List.length_nil,Nat.reduceAdd,Nat.reduceSub,Array.replicate_succ,Array.replicate_zero,List.push_toArray,List.append_toArray,List.nil_append,List.cons_append]
 gi_wp2
 go_ret
 exact⟨rfl,rfl⟩
def Am (n:Nat) (pre:List (Fin 128)):Nat:=pre.foldl (λr x=>if (r|||2^(127-x.1))*(r|||2^(127-x.1))<=n then r|||2^(127-x.1) else r) 0
theorem akY (n:Nat) (pre:List (Fin 128)) (x:Fin 128):Am n (pre ++ [x])=if (Am n pre|||2^(127-x.1))*(Am n pre|||2^(127-x.1))<=n then Am n pre|||2^(127-x.1) else Am n pre:=by unfold Am;rw[List.foldl_append];rfl
theorem akZ {a b:Nat} (ha:a<wy) (hb:b<wy):a|||b<wy:=by rw[Bl] at *;exact Nat.or_lt_two_pow ha hb
theorem ax6 (n:Nat) (pre:List (Fin 128)):Am n pre<wy:=by
 unfold Am
 suffices k:∀ (pre:List (Fin 128)) (r:Nat),r<wy->pre.foldl (λr x=>if (r|||2^(127-x.1))*(r|||2^(127-x.1))<=n then r|||2^(127-x.1) else r) r<wy from k pre 0 (by decide)
 intro pre
 induction pre with
 | nil=>intro r h;exact h
 | cons x xs ih =>
  intro r h;refine ih _ ?_;dsimp only;split
  ·exact akZ h (Ye (by omega))
  ·exact h
theorem ak0 (n:Nat):∀ k,k<=128->(∃ q,Am n (BQ k)=q*2^(128-k))/\FP.aCs n (128-k) (Am n (BQ k))=FP.aCs n 128 0
 | 0,_=>⟨⟨0,by rw[Nat.zero_mul];rfl⟩,rfl⟩
 | k+1,h=>by
  obtain⟨⟨q,hq⟩,h2⟩:=ak0 n k (by omega);have hk:k<128:=by omega
  rw[aea hk,akY];obtain⟨i,hi⟩:∃ i,i=127-k:=⟨_,rfl⟩;rw[show 128-k=i+1 by omega] at hq h2;rw[show 128-(k+1)=i by omega];simp only[<- hi]
  have ho:Am n (BQ k)|||2^i=Am n (BQ k)+2^i:=by rw[hq];have h:=Nat.two_pow_add_eq_or_of_lt (i:=i+1) (b:=2^i) (Nat.pow_lt_pow_right (by decide) (by omega)) q;rw[Nat.mul_comm q];exact h.symm
  rw[ho];have hg:FP.aCs n (i+1) (Am n (BQ k))=FP.aCs n i (if (Am n (BQ k)+2^i)*(Am n (BQ k)+2^i)<=n then Am n (BQ k)+2^i else Am n (BQ k)):=rfl;rw[hg] at h2;refine⟨?_,h2⟩;split
  ·exact⟨2*q+1,by rw[hq,Nat.pow_succ,Nat.add_mul,Nat.one_mul];congr 1;ac_rfl⟩
  ·exact⟨2*q,by rw[hq,Nat.pow_succ];ac_rfl⟩
theorem ax7 (n:Nat):Am n (BQ 128)=FP.isq n:=(ak0 n 128 (Nat.le_refl _)).2
theorem ax8 {p q:Nat} : decide (yg p q<=0)=decide (p<=q):=by
 unfold yg;by_cases h:p<q
 ·rw[if_pos h,decide_eq_true (show p<=q by omega)];rfl
 ·rw[if_neg h];by_cases h2:q<p
  ·rw[if_pos h2,decide_eq_false (show ¬ p<=q by omega)];rfl
  ·rw[if_neg h2,decide_eq_true (show p<=q by omega)];rfl
theorem ax9 {a b:Nat} (ha:a<wG) (hb:b<wG):(wd a 0==wd b 0&&(wd a 1==wd b 1&&(wd a 2==wd b 2&&wd a 3==wd b 3)))=decide (a=b):=by
 rw[Bool.eq_iff_iff];simp only[Bool.and_eq_true,beq_iff_eq,decide_eq_true_iff];constructor
 ·rintro⟨h0,h1,h2,h3⟩;rw[<- Ai ha,<- Ai hb,h0,h1,h2,h3]
 ·rintro rfl;exact⟨rfl,rfl,rfl,rfl⟩
def AxR (n w1 w2 w4:Nat) (m:Nat) (x:Fin 128) (a':Act) (W:World):Prop:=∃ B,m<=B /\
 a' = { tmps:=#[vW n,.pointer (some ⟨w1,0,none⟩),.pointer (some ⟨w2,0,none⟩),.bool false,.pointer (some ⟨w4,0,none⟩),.pointer (some ⟨B,0,none⟩),undef,.func (.func 271) #[] #[],vB (2^(127-x.1)),undef,undef,undef,undef,undef,undef,undef,undef,undef,undef,undef,undef,undef,undef,undef,undef,undef,undef,undef,undef,undef,undef,undef,undef],defers:=[] } /\
 W.heap[B]? = some (.cells #[.int .u64 (wd (2^(127-x.1)) 1),.int .u64 (wd (2^(127-x.1)) 0)] 25 (0,0))
theorem aya (n w1 w2 w4 m:Nat) (x:Fin 128) (a':Act) (B0:Nat):OwnFrom B0 (λ(_:Unit) W=>AxR n w1 w2 w4 m x a' W):=by rintro s X Y row ⟨B,hB,ha,hc⟩ hg hr;refine⟨B,hB,ha,?_⟩;exact(Own.from (DN B 25 (λ(_:Unit)=>#[.int .u64 (wd (2^(127-x.1)) 1),.int .u64 (wd (2^(127-x.1)) 0)])) B0) () X Y row hc hg hr
theorem ayb (m:Nat) (hm:3<=m) (n:Nat) (hn:n<wG) (w:World) (hG:Gl gG w) :
  CallsIn Fence.wide m prog 151 #[vW n] w λe w'=>e = .returned (.tuple #[vB (FP.isq n),.bool (decide (FP.isq n*FP.isq n=n))])/\vY w w':=by
 have hn1:1<=m:=by omega
 refine callsIn_of_wp_marks func151 rfl trivial ?_ rfl;simp only[ntmps151,List.size_toArray,List.length_cons,List.length_nil,Nat.reduceAdd,Nat.reduceSub,Array.replicate_succ,Array.replicate_zero,List.push_toArray,List.append_toArray,List.nil_append,List.cons_append];have h96:Fence.wide.fn 223:=trivial;have h85:Fence.wide.fn 218:=trivial;have h97:Fence.wide.fn 224:=trivial
 gi_wp2_with (gi_at_call 223;refine(ax5 (m-1) _).mono ?_;rintro e w2 ⟨rfl,rfl⟩)
 obtain⟨W0,hW0⟩:∃ W0,W0=((w.alloc (.cells #[.int .u64 (wd n 0),.int .u64 (wd n 1),.int .u64 (wd n 2),.int .u64 (wd n 3)] 188)).alloc (.cells #[.int .u64 0,.int .u64 0] 25)).alloc (.cells #[.int .u64 0,.int .u64 0] 25):=⟨_,rfl⟩;have bN:W0.heap[w.heap.size]? = some (.cells #[.int .u64 (wd n 0),.int .u64 (wd n 1),.int .u64 (wd n 2),.int .u64 (wd n 3)] 188 (0,0)):=by rw[hW0];exact heap_alloc (heap_alloc (Jc _ _) _) _
 have b2:W0.heap[w.heap.size+1]? = some (.cells #[.int .u64 0,.int .u64 0] 25 (0,0)):=by rw[hW0];exact heap_alloc (Tc _ _ _) _
 have b4:W0.heap[w.heap.size+1+1]? = some (.cells #[.int .u64 0,.int .u64 0] 25 (0,0)):=by rw[hW0];exact EO _ _ _ _
 have hB0:Below w.heap.size w W0:=by rw[hW0];show vY w _;exact(((vY.refl w).alloc _).alloc _).alloc _
 have hsz:W0.heap.size=w.heap.size+1+1+1:=by rw[hW0];simp
 have hG0:Gl gG W0:=hG.bel hB0;rw[<- hW0];clear hW0;have zw:∀ j,wd 0 j=0:=λj=>by unfold wd;simp
 have z0:Am n []=0:=rfl
 refine wpIn_rangeFunc_ownH rfl hn1 (gf:=271) (lb:=#[]) rfl trivial (enters_of func271 (by kernel_rfl) rfl) (ax4 (m-1) (by omega) W0 hG0) (λh1 h2 h=>h2 (h1 h)) ?hKb (Below.refl _ _) (λ_=>rfl)
  (λpre W=>((W.heap[w.heap.size]? = some (.cells #[.int .u64 (wd n 0),.int .u64 (wd n 1),.int .u64 (wd n 2),.int .u64 (wd n 3)] 188 (0,0))/\W.heap[w.heap.size+1]? = some (.cells #[.int .u64 0,.int .u64 0] 25 (0,0))) /\
   W.heap[w.heap.size+1+1]? = some (.cells #[.int .u64 (wd (Am n pre) 1),.int .u64 (wd (Am n pre) 0)] 25 (0,0)))/\Below w.heap.size w W)
  (λ_ _ _=>False)
  (OwnFrom.and (OwnFrom.and (OwnFrom.and (Own.from (DN _ _ (λ_=>#[.int .u64 (wd n 0),.int .u64 (wd n 1),.int .u64 (wd n 2),.int .u64 (wd n 3)])) _) (Own.from (DN _ _ (λ_=>#[.int .u64 0,.int .u64 0])) _)) (Own.from (DN _ _ (λpre=>#[.int .u64 (wd (Am n pre) 1),.int .u64 (wd (Am n pre) 0)])) _)) (ownFrom_below (Nat.le_refl _) (by omega)))
  (λ_ _ _ _ _ hs _ _=>hs)
  ⟨⟨⟨bN,b2⟩,by rw[z0];simp only[zw];exact b4⟩,hB0⟩
  (AxR n w.heap.size (w.heap.size+1) (w.heap.size+1+1) W0.heap.size) (λx a'=>aya _ _ _ _ _ x a' _) ?assign ?body ?done ?stop
 case hKb =>
  intro W l o o' hl ho _ _ hGW;refine hGW.same (by simp) λx hx=>?_
  have h1:=(hG0.1 x hx).1;exact World.putObj_heap_other (show x.1≠l by omega)
 case assign =>
  intro l pre x W K hI hK;have hx:2^(127-x.1)<wy:=Ye (by omega)
  gi_wp2
  have hlt:=Kr hI.1.2;exact hK _ _ ((KeepsOthers.alloc W _).from _) (λh=>h.bel ((vY.refl W).alloc _)) ⟨⟨⟨heap_alloc hI.1.1.1 _,heap_alloc hI.1.1.2 _⟩,heap_alloc hI.1.2 _⟩,vY.alloc hI.2 _⟩ ⟨W.heap.size,by omega,rfl,Jc _ _⟩
 case body =>
  rintro l pre x a' V hwl hrec ⟨⟨⟨bN,b2⟩,b4⟩,hB⟩ ⟨B,hmB,rfl,cB⟩ hlt;have e0:=wB b4 0 rfl;have e1:=wB b4 1 rfl;have e2:=wB cB 0 rfl;have e3:=wB cB 1 rfl;have hr:=ax6 n pre;have hsn:=akY n pre x;generalize Am n pre=r at *
  have hb:2^(127-x.1)<wy:=Ye (by omega);generalize 2^(127-x.1)=b at *
  have ho1:∀ i,bits .or .u64 (wd r i) (wd b i)=wd (r|||b) i:=λi=>aie r b i
  have ht:=akZ hr hb
  gi_wp2
  obtain⟨V4,hV4⟩:∃ V4,V4=V.alloc (.cells #[.int .u64 (wd (r|||b) 1),.int .u64 (wd (r|||b) 0)] 25):=⟨_,rfl⟩;have dN:V4.heap[w.heap.size]? = some (.cells #[.int .u64 (wd n 0),.int .u64 (wd n 1),.int .u64 (wd n 2),.int .u64 (wd n 3)] 188 (0,0)):=by rw[hV4];exact heap_alloc bN _
  have d2:V4.heap[w.heap.size+1]? = some (.cells #[.int .u64 0,.int .u64 0] 25 (0,0)):=by rw[hV4];exact heap_alloc b2 _
  have d4:V4.heap[w.heap.size+1+1]? = some (.cells #[.int .u64 (wd r 1),.int .u64 (wd r 0)] 25 (0,0)):=by rw[hV4];exact heap_alloc b4 _
  have dT:V4.heap[V.heap.size]? = some (.cells #[.int .u64 (wd (r|||b) 1),.int .u64 (wd (r|||b) 0)] 25 (0,0)):=by rw[hV4];exact Jc _ _
  have dB:vY V V4:=by rw[hV4];exact(vY.refl V).alloc _
  have h4l:=Kr b4;rw[<- hV4];clear hV4;have hGV:Gl gG V:=hG.bel hB;have hle:decide (yg ((r|||b)*(r|||b)) n<=0)=decide ((r|||b)*(r|||b)<=n):=ax8;have hmul:=λW (h:vY V W)=>akW (m-1-1-1) (r|||b) (r|||b) ht ht W (hGV.bel h)
  have hcmp:=λW (h:vY V W)=>ax2 (m-1-1-1) ((r|||b)*(r|||b)) n (by rw[PU];exact Nat.mul_lt_mul'' ht ht) hn W (hGV.bel h)
  generalize r|||b=t at *
  obtain⟨q,hq⟩:∃ q,q=decide (t*t<=n):=⟨_,rfl⟩;rw[<- hq] at hle
  have hq2:(q=true/\t*t<=n)\/(q=false/\¬ t*t<=n):=by
   rw[hq];by_cases h:t*t<=n
   ·exact .inl ⟨decide_eq_true h,h⟩
   ·exact .inr ⟨decide_eq_false h,h⟩
  clear hq;generalize V.heap.size=Bt at *
  refine Kq (λ(L:Nat->Bool) (A:Act) (W:World)=>∃ u20 u21 u22 u23 u24 u25:Value,A=⟨#[vW n,Value.pointer (some { block:=w.heap.size,off:=0 }),Value.pointer (some { block:=w.heap.size+1,off:=0 }),Value.bool false,Value.pointer (some { block:=w.heap.size+1+1,off:=0 }),Value.pointer (some { block:=B,off:=0 }),Value.pointer (some { block:=Bt,off:=0 }),Value.func (Fn.func 271) #[] #[],vB b,Value.pointer (some { block:=w.heap.size+1+1,off:=0 }),Value.int IntKind.u64 (wd r 1),Value.pointer (some { block:=B,off:=0 }),Value.int IntKind.u64 (wd b 1),Value.int IntKind.u64 (wd t 1),Value.pointer (some { block:=w.heap.size+1+1,off:=1 }),Value.int IntKind.u64 (wd r 0),Value.pointer (some { block:=B,off:=1 }),Value.int IntKind.u64 (wd b 0),Value.int IntKind.u64 (wd t 0),Value.agg #[Value.int IntKind.u64 (wd t 1),Value.int IntKind.u64 (wd t 0)],u20,u21,u22,u23,u24,u25,undef,undef,undef,undef,undef,undef,undef],[]⟩/\vY V W/\W.heap[w.heap.size]? = some (.cells #[.int .u64 (wd n 0),.int .u64 (wd n 1),.int .u64 (wd n 2),.int .u64 (wd n 3)] 188 (0,0))/\W.heap[w.heap.size+1]? = some (.cells #[.int .u64 0,.int .u64 0] 25 (0,0))/\W.heap[w.heap.size+1+1]? = some (.cells #[.int .u64 (wd r 1),.int .u64 (wd r 0)] 25 (0,0))/\W.heap[Bt]? = some (.cells #[.int .u64 (wd t 1),.int .u64 (wd t 0)] 25 (0,0))/\(L 0=true->u20 = .agg #[.int .u64 (wd t 1),.int .u64 (wd t 0)])/\(L 1=true->u21 = .agg #[.int .u64 (wd t 1),.int .u64 (wd t 0)])/\(L 2=true->u22=vW (t*t))/\(L 3=true->u23 = .agg #[.int .u64 (wd n 0),.int .u64 (wd n 1),.int .u64 (wd n 2),.int .u64 (wd n 3)])/\(L 4=true->u24 = .int .i64 (yg (t*t) n))/\(L 5=true->u25 = .bool q)) (by kernel_rfl) (by kernel_rfl) ?h0 ⟨?s0,?s1,?s2,?s3,?s4,?s5,trivial⟩ ?hd
  case h0 =>
   exact⟨_,_,_,_,_,_,rfl,(vY.drew dB),dN,d2,d4,dT,λh=>absurd h Bool.false_ne_true,λh=>absurd h Bool.false_ne_true,λh=>absurd h Bool.false_ne_true,λh=>absurd h Bool.false_ne_true,λh=>absurd h Bool.false_ne_true,λh=>absurd h Bool.false_ne_true⟩
  case s0 =>
   rintro L _ W K ⟨u20,u21,u22,u23,u24,u25,rfl,hb,c1,c2,c4,c6,f0,f1,f2,f3,f4,f5⟩ hL hD hN hK;refine xy (xx rfl) ?_;have e0:=wB c6 0 rfl;have e1:=wB c6 1 rfl;have hf:=xn c6 0
   go_simp
   refine hK _ _ ⟨_,_,_,_,_,_,rfl,hb,c1,c2,c4,c6,λ_=>rfl,f1,f2,f3,f4,f5⟩
  case s1 =>
   rintro L _ W K ⟨u20,u21,u22,u23,u24,u25,rfl,hb,c1,c2,c4,c6,f0,f1,f2,f3,f4,f5⟩ hL hD hN hK;refine xy (xx rfl) ?_;have e0:=wB c6 0 rfl;have e1:=wB c6 1 rfl;have hf:=xn c6 0
   go_simp
   refine hK _ _ ⟨_,_,_,_,_,_,rfl,hb,c1,c2,c4,c6,f0,λ_=>rfl,f2,f3,f4,f5⟩
  case s2 =>
   rintro L _ W K ⟨u20,u21,u22,u23,u24,u25,rfl,hb,c1,c2,c4,c6,f0,f1,f2,f3,f4,f5⟩ hL hD hN hK;obtain rfl:=f0 (hD 0 (by kernel_rfl));obtain rfl:=f1 (hD 1 (by kernel_rfl));refine xy (xx rfl) ?_
   go_simp
   refine⟨λh=>(by first|cases h|omega),(hmul _ hb).mono ?_⟩;rintro e W1 ⟨rfl,hw⟩;refine hK _ _ ⟨_,_,_,_,_,_,rfl,(hb.trans hw),(xK c1 hw),(xK c2 hw),(xK c4 hw),(xK c6 hw),f0,f1,λ_=>rfl,f3,f4,f5⟩
  case s3 =>
   rintro L _ W K ⟨u20,u21,u22,u23,u24,u25,rfl,hb,c1,c2,c4,c6,f0,f1,f2,f3,f4,f5⟩ hL hD hN hK;refine xy (xx rfl) ?_;have e0:=wB c1 0 rfl;have e1:=wB c1 1 rfl;have e2:=wB c1 2 rfl;have e3:=wB c1 3 rfl;have hf:=xn c1 0
   go_simp
   refine hK _ _ ⟨_,_,_,_,_,_,rfl,hb,c1,c2,c4,c6,f0,f1,f2,λ_=>rfl,f4,f5⟩
  case s4 =>
   rintro L _ W K ⟨u20,u21,u22,u23,u24,u25,rfl,hb,c1,c2,c4,c6,f0,f1,f2,f3,f4,f5⟩ hL hD hN hK;obtain rfl:=f2 (hD 2 (by kernel_rfl));obtain rfl:=f3 (hD 3 (by kernel_rfl));refine xy (xx rfl) ?_
   go_simp
   refine⟨λh=>(by first|cases h|omega),(hcmp _ hb).mono ?_⟩;rintro e W1 ⟨rfl,hw⟩;refine hK _ _ ⟨_,_,_,_,_,_,rfl,(hb.trans hw),(xK c1 hw),(xK c2 hw),(xK c4 hw),(xK c6 hw),f0,f1,f2,f3,λ_=>rfl,f5⟩
  case s5 =>
   rintro L _ W K ⟨u20,u21,u22,u23,u24,u25,rfl,hb,c1,c2,c4,c6,f0,f1,f2,f3,f4,f5⟩ hL hD hN hK;obtain rfl:=f4 (hD 4 (by kernel_rfl));refine xy (xx rfl) ?_
   go_simp
   refine hK _ _ ⟨_,_,_,_,_,_,rfl,hb,c1,c2,c4,c6,f0,f1,f2,f3,f4,λ_=>rfl⟩
  case hd =>
   rintro L _ W ⟨u20,u21,u22,u23,u24,u25,rfl,hb,c1,c2,c4,c6,f0,f1,f2,f3,f4,f5⟩ hall;obtain rfl:=f0 (hall 0 (by decide));obtain rfl:=f1 (hall 1 (by decide));obtain rfl:=f2 (hall 2 (by decide));obtain rfl:=f3 (hall 3 (by decide));obtain rfl:=f4 (hall 4 (by decide));obtain rfl:=f5 (hall 5 (by decide));have f0:=wB c6 0 rfl;have f1:=wB c6 1 rfl;have g0:=wB c4 0 rfl;have g1:=wB c4 1 rfl;have g2:=xn c4 0;have g3:=xn c4 1;have kO:KeepsOthers V W:=⟨hb.size,λk o hk _=>xK hk hb⟩;have hBW:vY w W:=vY.trans hB hb;rcases hq2 with⟨rfl,hc⟩|⟨rfl,hc⟩
   ·rw[if_pos hc] at hsn
    gi_wp2
    have hBF:vY w ((W.setCell ⟨w.heap.size+1+1,0,none⟩ (.int .u64 (wd t 1))).setCell ⟨w.heap.size+1+1,1,none⟩ (.int .u64 (wd t 0))):=vY.set (vY.set hBW (by omega) _) (by omega) _;refine⟨((kO.trans (KeepsOthers.setCell _ _ _)).trans (KeepsOthers.setCell _ _ _)).from _,λ_=>hG.bel hBF,⟨⟨⟨?_,?_⟩,?_⟩,hBF⟩⟩
    ·exact wL (wL c1 _ _ (by show w.heap.size≠w.heap.size+1+1;omega)) _ _ (by show w.heap.size≠w.heap.size+1+1;omega)
    ·exact wL (wL c2 _ _ (by show w.heap.size+1≠w.heap.size+1+1;omega)) _ _ (by show w.heap.size+1≠w.heap.size+1+1;omega)
    ·rw[hsn];exact heap_set (heap_set c4 _) _
   ·rw[if_neg hc] at hsn
    gi_wp2
    exact⟨kO.from _,λ_=>hG.bel hBW,⟨⟨⟨c1,c2⟩,by rw[hsn];exact c4⟩,hBW⟩⟩
 case done =>
  rintro D ys V hD rfl ⟨⟨⟨bN,b2⟩,b4⟩,hB⟩ hK;rw[ax7] at b4;have hr:FP.isq n<wy:=by rw[Bl];exact FP.aD6 (by rw[<- FE];exact hn)
  obtain⟨r,hre⟩:∃ r,FP.isq n=r:=⟨_,rfl⟩;rw[hre] at b4 hr;have hD':w.heap.size+1+1+1<=D:=by rw[<- hsz];exact hD
  have hrr:r*r<wG:=by rw[PU];exact Nat.mul_lt_mul'' hr hr
  have hmul:=λW (h:vY w W)=>akW (m-1) r r hr hr W (hG.bel h)
  have hq:=λW=>abv (t:=188) (x:=vW (r*r)) (y:=.agg #[.int .u64 (wd n 0),.int .u64 (wd n 1),.int .u64 (wd n 2),.int .u64 (wd n 3)]) (b:=(wd (r*r) 0==wd n 0&&(wd (r*r) 1==wd n 1&&(wd (r*r) 2==wd n 2&&wd (r*r) 3==wd n 3)))) rfl W
  rw[ax9 hrr hn] at hq;have hq1:=λW op xo yo=>(hq W).1 op xo yo
  have hq2:=λW=>(hq W).2.1
  clear hq hn hr hrr;obtain⟨q,hqd⟩:∃ q,decide (r*r=n)=q:=⟨_,rfl⟩;rw[hqd] at hq2;have HF:=Lib.hid (And.intro hre hqd);clear hre hqd
  gi_wp2
  refine Kq (λ(L:Nat->Bool) (A:Act) (W:World)=>∃ u27 u28 u29 u30 u31 u32 u3:Value,A=⟨#[vW n,Value.pointer (some { block:=w.heap.size,off:=0 }),Value.pointer (some { block:=w.heap.size+1,off:=0 }),u3,Value.pointer (some { block:=w.heap.size+1+1,off:=0 }),undef,undef,Value.func (Fn.func 271) #[] #[],undef,undef,undef,undef,undef,undef,undef,undef,undef,undef,undef,undef,undef,undef,undef,undef,undef,undef,undef,u27,u28,u29,u30,u31,u32],[{ target:=Target.collected D,args:=#[] }]⟩/\vY w W/\W.heap[D]? = some (.deferred (some []))/\W.heap[w.heap.size]? = some (.cells #[.int .u64 (wd n 0),.int .u64 (wd n 1),.int .u64 (wd n 2),.int .u64 (wd n 3)] 188 (0,0))/\W.heap[w.heap.size+1]? = some (.cells (bif L 6 then #[.int .u64 (wd r 1),.int .u64 (wd r 0)] else #[.int .u64 0,.int .u64 0]) 25 (0,0))/\W.heap[w.heap.size+1+1]? = some (.cells #[.int .u64 (wd r 1),.int .u64 (wd r 0)] 25 (0,0))/\(L 0=true->u27 = .agg #[.int .u64 (wd r 1),.int .u64 (wd r 0)])/\(L 1=true->u28 = .agg #[.int .u64 (wd r 1),.int .u64 (wd r 0)])/\(L 2=true->u29 = .agg #[.int .u64 (wd r 1),.int .u64 (wd r 0)])/\(L 3=true->u30=vW (r*r))/\(L 4=true->u31 = .agg #[.int .u64 (wd n 0),.int .u64 (wd n 1),.int .u64 (wd n 2),.int .u64 (wd n 3)])/\(L 5=true->u32 = .bool q)/\(L 7=true->u3 = .bool q)) (by kernel_rfl) (by kernel_rfl) ?h0 ⟨?s0,?s1,?s2,?s3,?s4,?s5,?s6,?s7,trivial⟩ ?hd
  case h0 =>
   exact⟨_,_,_,_,_,_,_,rfl,(vY.drew hB),hK,bN,b2,b4,λh=>absurd h Bool.false_ne_true,λh=>absurd h Bool.false_ne_true,λh=>absurd h Bool.false_ne_true,λh=>absurd h Bool.false_ne_true,λh=>absurd h Bool.false_ne_true,λh=>absurd h Bool.false_ne_true,λh=>absurd h Bool.false_ne_true⟩
  case s0 =>
   rintro L _ W K ⟨u27,u28,u29,u30,u31,u32,u3,rfl,hb,x0,c1,c2,c4,f0,f1,f2,f3,f4,f5,f7⟩ hL hD hN hK;refine xy (xx rfl) ?_;have e0:=wB c4 0 rfl;have e1:=wB c4 1 rfl;have hf:=xn c4 0
   go_simp
   refine hK _ _ ⟨_,_,_,_,_,_,_,rfl,hb,x0,c1,c2,c4,λ_=>rfl,f1,f2,f3,f4,f5,f7⟩
  case s1 =>
   rintro L _ W K ⟨u27,u28,u29,u30,u31,u32,u3,rfl,hb,x0,c1,c2,c4,f0,f1,f2,f3,f4,f5,f7⟩ hL hD hN hK;refine xy (xx rfl) ?_;have e0:=wB c4 0 rfl;have e1:=wB c4 1 rfl;have hf:=xn c4 0
   go_simp
   refine hK _ _ ⟨_,_,_,_,_,_,_,rfl,hb,x0,c1,c2,c4,f0,λ_=>rfl,f2,f3,f4,f5,f7⟩
  case s2 =>
   rintro L _ W K ⟨u27,u28,u29,u30,u31,u32,u3,rfl,hb,x0,c1,c2,c4,f0,f1,f2,f3,f4,f5,f7⟩ hL hD hN hK;refine xy (xx rfl) ?_;have e0:=wB c4 0 rfl;have e1:=wB c4 1 rfl;have hf:=xn c4 0
   go_simp
   refine hK _ _ ⟨_,_,_,_,_,_,_,rfl,hb,x0,c1,c2,c4,f0,f1,λ_=>rfl,f3,f4,f5,f7⟩
  case s3 =>
   rintro L _ W K ⟨u27,u28,u29,u30,u31,u32,u3,rfl,hb,x0,c1,c2,c4,f0,f1,f2,f3,f4,f5,f7⟩ hL hD hN hK;obtain rfl:=f1 (hD 1 (by kernel_rfl));obtain rfl:=f2 (hD 2 (by kernel_rfl));refine xy (xx rfl) ?_
   go_simp
   refine((hmul _ hb).mono ?_);rintro e W1 ⟨rfl,hw⟩;refine hK _ _ ⟨_,_,_,_,_,_,_,rfl,(hb.trans hw),(xK x0 hw),(xK c1 hw),(xK c2 hw),(xK c4 hw),f0,f1,f2,λ_=>rfl,f4,f5,f7⟩
  case s4 =>
   rintro L _ W K ⟨u27,u28,u29,u30,u31,u32,u3,rfl,hb,x0,c1,c2,c4,f0,f1,f2,f3,f4,f5,f7⟩ hL hD hN hK;refine xy (xx rfl) ?_;have e0:=wB c1 0 rfl;have e1:=wB c1 1 rfl;have e2:=wB c1 2 rfl;have e3:=wB c1 3 rfl;have hf:=xn c1 0
   go_simp
   refine hK _ _ ⟨_,_,_,_,_,_,_,rfl,hb,x0,c1,c2,c4,f0,f1,f2,f3,λ_=>rfl,f5,f7⟩
  case s5 =>
   rintro L _ W K ⟨u27,u28,u29,u30,u31,u32,u3,rfl,hb,x0,c1,c2,c4,f0,f1,f2,f3,f4,f5,f7⟩ hL hD hN hK;obtain rfl:=f3 (hD 3 (by kernel_rfl));obtain rfl:=f4 (hD 4 (by kernel_rfl));refine xy (xx rfl) ?_
   go_simp
   refine hK _ _ ⟨_,_,_,_,_,_,_,rfl,hb,x0,c1,c2,c4,f0,f1,f2,f3,f4,λ_=>rfl,f7⟩
  case s6 =>
   rintro L _ W K ⟨u27,u28,u29,u30,u31,u32,u3,rfl,hb,x0,c1,c2,c4,f0,f1,f2,f3,f4,f5,f7⟩ hL hD hN hK;obtain rfl:=f0 (hD 0 (by kernel_rfl));refine xy (xx rfl) ?_;have hz:L 6=false:=hL;rw[hz] at c2;have e0:=wB c2 0 (rfl);have h0:=xn c2 0;have e1:=wB c2 1 (rfl);have h1:=xn c2 1
   go_simp
   refine hK _ _ ⟨_,_,_,_,_,_,_,rfl,(vY.set (vY.set hb (by omega) _) (by omega) _),(wL (wL x0 _ _ (by show D≠w.heap.size+1;omega)) _ _ (by show D≠w.heap.size+1;omega)),(wL (wL c1 _ _ (show w.heap.size≠w.heap.size+1 by omega)) _ _ (show w.heap.size≠w.heap.size+1 by omega)),(heap_set (heap_set c2 _) _),(wL (wL c4 _ _ (show w.heap.size+1+1≠w.heap.size+1 by omega)) _ _ (show w.heap.size+1+1≠w.heap.size+1 by omega)),f0,f1,f2,f3,f4,f5,f7⟩
  case s7 =>
   rintro L _ W K ⟨u27,u28,u29,u30,u31,u32,u3,rfl,hb,x0,c1,c2,c4,f0,f1,f2,f3,f4,f5,f7⟩ hL hD hN hK;obtain rfl:=f5 (hD 5 (by kernel_rfl));refine xy (xx rfl) ?_
   go_simp
   refine hK _ _ ⟨_,_,_,_,_,_,_,rfl,hb,x0,c1,c2,c4,f0,f1,f2,f3,f4,f5,λ_=>rfl⟩
  case hd =>
   rintro L _ W ⟨u27,u28,u29,u30,u31,u32,u3,rfl,hb,x0,c1,c2,c4,f0,f1,f2,f3,f4,f5,f7⟩ hall;rw[hall 6 (by decide)] at c2;obtain rfl:=f0 (hall 0 (by decide));obtain rfl:=f1 (hall 1 (by decide));obtain rfl:=f2 (hall 2 (by decide));obtain rfl:=f3 (hall 3 (by decide));obtain rfl:=f4 (hall 4 (by decide));obtain rfl:=f5 (hall 5 (by decide));obtain rfl:=f7 (hall 7 (by decide))
   gi_wp2
   refine⟨by simp,.inl ⟨_,_,rfl,run_takeDeferred x0,?_⟩⟩;have cX:(W.putObj D (.deferred none)).heap[w.heap.size+1]? = _:=(World.putObj_heap_other (by omega)).trans c2;have q0:=wB cX 0 rfl;have q1:=wB cX 1 rfl;exact⟨.tuple #[vB r,.bool q],by simp[results,results151,go_sem,q0,q1,vB],by rw[HF.out.1,HF.out.2],Below.trans hb (belowK_b (w:=w) (Nat.le_refl _) W D _ _ (by omega) x0 rfl rfl)⟩
 case stop =>
  rintro D c pre W _ _ h _;exact h.elim
open Go.RowKit
def Yf (n:Nat):Nat->Nat->Nat
 | 0,r=>r
 | k+1,r=>zk (match Nat.ble ((r+2^k)*(r+2^k)) n with|true=>r+2^k|false=>r) (Yf n k)
theorem ak2 (n:Nat):∀ k r,Yf n k r=FP.aCs n k r
 | 0,r=>rfl
 | k+1,r=>by
  rw[Yf,yK,ak2 n k];rw[show FP.aCs n (k+1) r=FP.aCs n k (if (r+2^k)*(r+2^k)<=n then r+2^k else r) from rfl];congr 1;by_cases h:(r+2^k)*(r+2^k)<=n
  ·rw[if_pos h,Nat.ble_eq_true_of_le h]
  ·rw[if_neg h]
   cases hb:Nat.ble ((r+2^k)*(r+2^k)) n with
   | true=>exact absurd (Nat.le_of_ble_eq_true hb) h
   | false=>rfl
def Si (n:Nat):List Int:=zk (Yf n 128 0) λr=>[wd r 1,wd r 0,wh (Nat.beq (r*r) n)]
theorem ak3 (n:Nat):Si n = [wd (FP.isq n) 1,wd (FP.isq n) 0,wh (decide (FP.isq n*FP.isq n=n))]:=by
 unfold Si;rw[yK,ak2,show FP.aCs n 128 0=FP.isq n from rfl]
 have:Nat.beq (FP.isq n*FP.isq n) n=decide (FP.isq n*FP.isq n=n):=by rw[Bool.eq_iff_iff,decide_eq_true_iff];exact⟨Nat.eq_of_beq_eq_true,λh=>by rw[h];exact Nat.beq_refl n⟩
 rw[this]
def Yg (l:List Int):List Int:=Si (nW (wC l 0) (wC l 1) (wC l 2) (wC l 3))
abbrev NS:Ct:=⟨[.agg [kU,kU,kU,kU]],[.agg [kU,kU],.sc .bool]⟩
theorem ayc {α:Type} {l:List α} (h:l.length=4):∃ a b c d,l = [a,b,c,d]:=by match l,h with | [a,b,c,d],_=>exact⟨a,b,c,d,rfl⟩
theorem ayd (a b c d:Int):xk NS.a [a,b,c,d] = [vW (nW a b c d)]:=by obtain⟨n0,n1,n2,n3,n4⟩:=Lc a b c d;simp only[NS,xk,yL,xu,yw,zF,Sh.kinds,List.drop_succ_cons,List.drop_zero,List.length_cons,List.length_nil,n0,n1,n2,n3]
theorem aye (r:Nat) (q:Bool):xU (xk NS.r [wd r 1,wd r 0,wh q]) = .tuple #[vB r,.bool q]:=by simp only[NS,xk,yL,xu,yw,zF,Sh.kinds,List.drop_succ_cons,List.drop_zero,List.length_cons,List.length_nil,Dm,yX,xU]
theorem ayf (n:Nat) (hn:n<wG) (w:World) (hG:Gl gG w):Calls prog 151 #[vW n] w λe w'=>e = .returned (.tuple #[vB (FP.isq n),.bool (decide (FP.isq n*FP.isq n=n))])/\vY w w' :=
 callsIn_wide.1 (ayb 3 (Nat.le_refl _) n hn w hG)
theorem ayg {args:List Value} {v:Value} (h:∀ w,Gl gG w->Calls prog 151 args.toArray w λe w'=>e = .returned v/\vY w w'):PC prog gG 151 args v:=λw hG =>
 FC func151 (by kernel_rfl) (by kernel_rfl) (h w hG)
theorem ak4 (a b c d:Int):Yg [a,b,c,d]=Si (nW a b c d):=by rw[Yg];simp only[xA,xC]
theorem ayh:wK prog gG ⟨151,NS,Yg⟩:=by
 intro l hl;obtain⟨a,b,c,d,rfl⟩:=ayc hl;have hn:=Ld a b c d
 have h2:PC prog gG 151 [vW (nW a b c d)] (xU (xk NS.r (Si (nW a b c d)))):=by rw[ak3,aye];exact ayg λw hG=>ayf _ hn w hG
 have h1:(Si (nW a b c d)).length=3:=by rw[ak3];rfl
 rw[<- ayd,<- ak4] at h2;rw[<- ak4] at h1;exact⟨h1,h2⟩
def UZ:List wY:=⟨151,NS,Yg⟩::EF
theorem ayi:∀ e∈UZ,wK prog gG e:=List.forall_mem_cons.2 ⟨ayh,UQ⟩
abbrev J7:=Code->Option Nat
abbrev Me:=Nat->St->vU (Exit×St)
def here (key:J7) (c:Code):List (Nat×Code):=match key c with|some k=>[(k,c)]|none=>[]
def keyed (key:J7):Code->List (Nat×Code)
 | .seq a b=>here key (.seq a b)++(keyed key a++keyed key b)
 | .cond c a b=>here key (.cond c a b)++(keyed key a++keyed key b)
 | .block id c=>here key (.block id c)++keyed key c
 | .loop c=>here key (.loop c)++keyed key c
 | .scope c=>here key (.scope c)++keyed key c
 | c=>here key c
def zU (C:xP) (key:J7) (H:Me):Nat->Code->St->vU (Exit×St)
 | 0,_,_=>.stuck "no fuel"
 | f+1,c,s=>match key c with
  | some k=>H k s
  | none=>match c with
   | .skip=>.leaf (.normal,s)
   | .label _=>.leaf (.normal,s)
   | .exit id=>.leaf (.exit id,s)
   | .ret=>.leaf (.ret,s)
   | .seq a b=>(zU C key H f a s).bind λr=>match r.1 with | .normal=>zU C key H f b r.2|_=>.leaf r
   | .cond c a b=>match FU s.T c with
    | some (.bool q)=>GJ s.fc q λbb fc=>match bb with|true=>zU C key H f a { s with fc:=fc } | false=>zU C key H f b { s with fc:=fc }
    | _=>.stuck "cond"
   | .block id c=>(zU C key H f c s).bind λr=>match r.1 with
    | .exit id'=>match Nat.beq id' id with|true=>.leaf (.normal,r.2)|false=>.leaf r
    | _=>.leaf r
   | .loop c=>(zU C key H f c s).bind λr=>match r.1 with | .normal=>zU C key H f (.loop c) r.2|_=>.leaf r
   | .scope c=>(zU C key H f c s).bind λr=>match r.1 with | .goto _=>.stuck "goto" | _=>.leaf r
   | .region _ ops draw=>(EW C (TV C (exec C f)) ops s.N 0 ops.toList s.T s.H [] s.nv s.dt s.fc).bind λr=>regionEnd s.T.length ops draw s r
   | _=>.stuck "no such text"
def U0 (C:xP) (key:J7) (H:Me) (fuel:Nat) (g:FuncId) (args:List SV) (nv:Nat):vU SV :=
 match C.P.funcs[g]? with
 | none=>.stuck "no such function"
 | some fn=>match fn.body with
  | none=>.stuck "no body"
  | some cd=>match Nat.ble args.length fn.ntmps with
   | true=>(zU C key H fuel cd ⟨0,zK args fn.ntmps,[],nv,[],[]⟩).bind λr=>match r.1 with
    | .normal=>match Af C.P r.2.T r.2.H fn.results.toList with|some rs=>.leaf (aeY rs)|none=>.stuck "results"
    | .ret=>match Af C.P r.2.T r.2.H fn.results.toList with|some rs=>.leaf (aeY rs)|none=>.stuck "results"
    | _=>.stuck "end"
   | false=>.stuck "arguments"
def Good (C:xP) (E:xV) (s:wF) (H:Me) (p:Nat×Code):Prop:=∀ st ex st',(H p.1 st).path C.Φ s=some (ex,st')->xS s st.fc->GR C E s p.2 st ex st'
section
variable {C:xP} {E:xV} {s:wF} {key:J7} {H:Me}
theorem ayj {c:Code} {k:Nat} (h:∀ p∈here key c,Good C E s H p) (hk:key c=some k):Good C E s H (k,c):=h (k,c) (by unfold here;rw[hk];exact List.mem_cons_self)
theorem aeb {a b:List (Nat×Code)} (h:∀ p∈a++b,Good C E s H p):∀ p∈a,Good C E s H p:=λp hp=>h p (List.mem_append_left _ hp)
theorem J8 {a b:List (Nat×Code)} (h:∀ p∈a++b,Good C E s H p):∀ p∈b,Good C E s H p:=λp hp=>h p (List.mem_append_right _ hp)
theorem ayk {c:Code} (h:∀ p∈keyed key c,Good C E s H p):∀ p∈here key c,Good C E s H p:=by cases c<;>first|exact h|exact aeb h
abbrev U1 (C:xP) (E:xV) (s:wF) (key:J7) (H:Me) (c:Code):Prop:=∀ p∈keyed key c,Good C E s H p
theorem ak5 (hC:yS C E):∀ n:Nat,(∀ c,U1 C E s key H c->∀ st ex st',(zU C key H n c st).path C.Φ s=some (ex,st')->xS s st.fc->GR C E s c st ex st') /\
  ∀ c,U1 C E s key H (.loop c)->key (.loop c)=none->∀ st ex st',(zU C key H n (.loop c) st).path C.Φ s=some (ex,st')->xS s st.fc->∀ w0 B0,CP ⟨C.P,C.G,E,w0,B0,st.T.length⟩ c (Bq s ex st') n st.N (wT.den s st.T) (SH.den s st.H)
 | 0=>⟨λc hg st ex st' h=>(by cases h),λc hg hk st ex st' h=>(by cases h)⟩
 | n+1=>by
  obtain⟨ih,ihl⟩:=ak5 hC n
  have loop:∀ c,U1 C E s key H (.loop c)->key (.loop c)=none->∀ st ex st',(zU C key H (n+1) (.loop c) st).path C.Φ s=some (ex,st')->xS s st.fc->GR C E s (.loop c) st ex st'/\∀ w0 B0,CP ⟨C.P,C.G,E,w0,B0,st.T.length⟩ c (Bq s ex st') (n+1) st.N (wT.den s st.T) (SH.den s st.H):=by
   intro c hg hk st ex st' h hf;simp only[zU,hk] at h;obtain⟨ex1,st1,h1,h2⟩:=EX h;have s1:=ih _ (J8 hg) _ _ _ h1 hf;rcases MV h2 with⟨rfl,h3⟩|⟨hx,h3⟩
   ·have s2:=ih _ hg _ _ _ h3 s1.fc
    have hr:∀ w0 B0,CP ⟨C.P,C.G,E,w0,B0,st.T.length⟩ c (Bq s ex st') (n+1) st.N (wT.den s st.T) (SH.den s st.H):=λw0 B0=>by rw[OV];refine(s1.aw w0 B0).mono ?_;rintro x N T H ⟨rfl,rfl,rfl,rfl⟩;have:=ihl _ hg hk _ _ _ h3 s1.fc w0 B0;rw[s1.len] at this;exact this
    exact⟨s1.trans s2 λw0 B0=>OU _ (hr w0 B0),hr⟩
   ·obtain⟨rfl,rfl⟩:ex1=ex/\st1=st':=by cases h3;exact⟨rfl,rfl⟩
    have hr:∀ w0 B0,CP ⟨C.P,C.G,E,w0,B0,st.T.length⟩ c (Bq s ex1 st1) (n+1) st.N (wT.den s st.T) (SH.den s st.H):=λw0 B0=>by rw[OV];refine(s1.aw w0 B0).mono ?_;rintro x N T H ⟨rfl,rfl,rfl,rfl⟩;exact MW hx ⟨rfl,rfl,rfl,rfl⟩
    exact⟨⟨λw0 B0=>OU _ (hr w0 B0),s1.len,s1.dt,s1.fc⟩,hr⟩
  refine⟨?_,λc hg hk st ex st' h hf=>(loop c hg hk st ex st' h hf).2⟩;intro c hg st ex st' h hf
  cases hk:key c with
  | some k =>
   simp only[zU,hk] at h;exact ayj (ayk hg) hk st ex st' h hf
  | none =>
  cases c with
  | skip=>simp only[zU,hk] at h;cases h;exact⟨λw0 B0=>Zw ⟨rfl,rfl,rfl,rfl⟩,rfl,λj hj=>⟨hj,rfl⟩,hf⟩
  | label l=>simp only[zU,hk] at h;cases h;exact⟨λw0 B0=>Zx ⟨rfl,rfl,rfl,rfl⟩,rfl,λj hj=>⟨hj,rfl⟩,hf⟩
  | exit id=>simp only[zU,hk] at h;cases h;exact⟨λw0 B0=>Zy ⟨rfl,rfl,rfl,rfl⟩,rfl,λj hj=>⟨hj,rfl⟩,hf⟩
  | ret=>simp only[zU,hk] at h;cases h;exact⟨λw0 B0=>Zz ⟨rfl,rfl,rfl,rfl⟩,rfl,λj hj=>⟨hj,rfl⟩,hf⟩
  | seq a b =>
   simp only[zU,hk] at h;obtain⟨ex1,st1,h1,h2⟩:=EX h;have s1:=ih _ (aeb (J8 hg)) _ _ _ h1 hf;rcases MV h2 with⟨rfl,h3⟩|⟨hx,h3⟩
   ·have s2:=ih _ (J8 (J8 hg)) _ _ _ h3 s1.fc;refine s1.trans s2 λw0 B0=>OT ((s1.aw w0 B0).mono ?_)
    rintro x N T H ⟨rfl,rfl,rfl,rfl⟩;have:=s2.aw w0 B0;rw[s1.len] at this;exact this
   ·cases h3;refine⟨λw0 B0=>OT ((s1.aw w0 B0).mono ?_),s1.len,s1.dt,s1.fc⟩;rintro x N T H ⟨rfl,rfl,rfl,rfl⟩;exact MW hx ⟨rfl,rfl,rfl,rfl⟩
  | cond c a b =>
   simp only[zU,hk] at h;split at h
   ·rename_i q hq;have hd:=KL s st.T _ _ hq;obtain⟨fc',hf',h⟩:=Jr hf h;simp only[SV.den] at hd
    cases hb:(q.den s != 0) with
    | true =>
     rw[hb] at h hd;have s1:=ih _ (aeb (J8 hg)) _ _ _ h hf';exact⟨λw0 B0=>ZA hd (s1.aw w0 B0),s1.len,s1.dt,s1.fc⟩
    | false =>
     rw[hb] at h hd;have s1:=ih _ (J8 (J8 hg)) _ _ _ h hf';exact⟨λw0 B0=>ZB hd (s1.aw w0 B0),s1.len,s1.dt,s1.fc⟩
   ·cases h
  | block id c =>
   simp only[zU,hk] at h;obtain⟨ex1,st1,h1,h2⟩:=EX h;have s1:=ih _ (J8 hg) _ _ _ h1 hf
   have keyB:ex=JC id ex1/\st'=st1:=by
    cases ex1 with
    | exit id' =>
     simp only at h2;simp only[JC];split at h2
     ·rename_i hb;cases h2;rw[if_pos (xO.1 hb)];exact⟨rfl,rfl⟩
     ·rename_i hb;cases h2;rw[if_neg (λe=>by rw[e] at hb;simp at hb)];exact⟨rfl,rfl⟩
    | _=>cases h2;exact⟨rfl,rfl⟩
   obtain⟨rfl,rfl⟩:=keyB;refine⟨λw0 B0=>ZC ((s1.aw w0 B0).mono ?_),s1.len,s1.dt,s1.fc⟩;rintro x N T H ⟨rfl,rfl,rfl,rfl⟩
   cases x with
   | exit id' =>
    simp only[Ti,JC];split
    ·exact⟨rfl,rfl,rfl,rfl⟩
    ·exact⟨rfl,rfl,rfl,rfl⟩
   | _=>exact⟨rfl,rfl,rfl,rfl⟩
  | loop c=>exact(loop c hg hk st ex st' h hf).1
  | scope c =>
   simp only[zU,hk] at h;obtain⟨ex1,st1,h1,h2⟩:=EX h;have s1:=ih _ (J8 hg) _ _ _ h1 hf
   have Sj:(∀ l,ex1 ≠ .goto l)/\ex=ex1/\st'=st1:=by cases ex1<;>first|(cases h2;exact⟨λl e=>(by cases e),rfl,rfl⟩)|cases h2
   obtain⟨hgo,rfl,rfl⟩:=Sj;exact⟨λw0 B0=>ZF (s1.aw w0 B0) (λl N T H e=>hgo l e.1.symm),s1.len,s1.dt,s1.fc⟩
  | region id ops draw =>
   simp only[zU,hk] at h;obtain⟨out,h1,h2⟩:=vU.abA h
   have dst:∀ o∈ops.toList,∀ t,o.dst=some t->t<st.T.length:=by
    unfold regionEnd at h2;split at h2
    ·split at h2
     ·rename_i hdr _;simp only[drawOK,Bool.and_eq_true] at hdr;exact Jk hdr.1.2
     ·cases h2
     ·cases h2
    ·split at h2
     ·rename_i hdr;exact Jk hdr
     ·cases h2
   obtain⟨e1,e2,e3,e4⟩:=Ud hC (nt:=st.T.length) (λg args H k nv fc r hr hf=>abd hC (MZ hC n).1 hr hf) ops.toList 0 st.T st.H [] st.nv st.dt st.fc out h1 hf rfl dst;unfold regionEnd at h2
   cases draw with
   | true =>
    simp only at h2;split at h2
    ·rename_i hdr htr;rw[yK] at h2;cases h2;refine⟨λw0 B0=>ZH hC.eq hC.mix hdr (e1 w0 B0 [] _ rfl ?_),e2,e4,e3⟩;intro trf htf;refine⟨?_,rfl,rfl,rfl,rfl⟩;rw[<- htf] at htr;exact Uc htr
    ·cases h2
    ·cases h2
   | false =>
    simp only at h2;split at h2
    ·rename_i hdr;rw[yK] at h2;cases h2;exact⟨λw0 B0=>ZG hC.eq hdr (e1 w0 B0 [] _ rfl λtrf htf=>⟨rfl,rfl,rfl,rfl⟩),e2,e4,e3⟩
    ·cases h2
  | rangeFunc f ps a b=>simp only[zU,hk] at h;cases h
  | goto l=>simp only[zU,hk] at h;cases h
  | refuse w=>simp only[zU,hk] at h;cases h
end
theorem ayl {C:xP} {E:xV} {s:wF} {key:J7} {H:Me} (hC:yS C E) {n:Nat} {g:FuncId} (hg:∀ fn cd,C.P.funcs[g]? = some fn->fn.body=some cd->U1 C E s key H cd) {args:List SV} {nv:Nat} {a:SV} {vs:List Value} {v:Value} (h:(U0 C key H n g args nv).path C.Φ s=some a) (ha:SV.aaE s args=vs.map .v) (hv:a.den s = .v v) :
  PC C.P C.G g vs v:=by
 unfold U0 at h;split at h
 ·cases h
 ·rename_i fn hf;split at h
  ·cases h
  ·rename_i cd hb;split at h
   ·rename_i hl;obtain⟨⟨ex,st⟩,h1,h2⟩:=vU.abA h;have sp:=(ak5 (E:=E) (s:=s) hC n).1 _ (hg fn cd hf hb) _ _ _ h1 (λx hx=>by cases hx);have hlen:(zK args fn.ntmps).length=fn.ntmps:=KS _ _ (Nat.le_of_ble_eq_true hl);have hvl:vs.length=args.length:=by have:=congrArg List.length ha;rw[Ep,List.length_map] at this;exact this.symm
    refine ZK E hf hb (hC.nm g fn hf (by rw[hb];rfl)) (by rw[hvl];exact hl) λw=>?_
    have hA:=sp.aw w xB.nil;simp only[hlen,Pv,ha] at hA
    have keyR:∀ rs,Af C.P st.T st.H fn.results.toList=some rs->aeY rs=a->∃ rs',DF C.P C.G (wT.den s st.T) (SH.den s st.H) fn.results.toList=some rs'/\GD rs' = .v v:=λrs hrs e =>
     ⟨_,KT s hrs,by rw[KR,e,hv]⟩
    have hx:(ex = .normal\/ex = .ret)/\∃ rs,Af C.P st.T st.H fn.results.toList=some rs/\aeY rs=a:=by
     rcases Pw h2 with⟨rfl,h3⟩|⟨rfl,h3⟩
     ·split at h3
      ·rename_i rs hrs;cases h3;exact⟨.inl rfl,rs,hrs,rfl⟩
      ·cases h3
     ·split at h3
      ·rename_i rs hrs;cases h3;exact⟨.inr rfl,rs,hrs,rfl⟩
      ·cases h3
    obtain⟨hx,rs,hrs,e⟩:=hx;refine AW.mono (show AW _ cd (Bq s ex st) 0 _ _ from hA) ?_;rintro x N T H2 ⟨rfl,rfl,rfl,rfl⟩;rcases hx with rfl|rfl
    ·exact keyR rs hrs e
    ·exact keyR rs hrs e
   ·cases h
theorem aym {C:xP} {E:xV} {key:J7} {H:Me} (hC:yS C E) {n:Nat} {g:FuncId} (hg:∀ s fn cd,C.P.funcs[g]? = some fn->fn.body=some cd->U1 C E s key H cd) {ct:Ct} {t:vU SV} (h:U0 C key H n g (wN ct.a (wM 0 (vV ct.a))) (vV ct.a).length=t) (hs:F4 (vV ct.a).length t=true)
  (l:List Int) (hl:l.length=(vV ct.a).length) (ho:okF C.Φ ct t l) :
  (wE C.Φ ct t l).length=(vV ct.r).length/\PC C.P C.G g (xk ct.a l) (xU (xk ct.r (wE C.Φ ct t l))):=by
 refine⟨Wz ho,?_⟩;obtain⟨a,l',xs,h1,h2⟩:=ho;obtain⟨h3,m,rfl⟩:=KV h1 (by rw[hl];exact hs);rw[<- h] at h3;obtain⟨h4,h5⟩:=GN (wC (l++m)) (vV ct.a) 0;rw[<- hl,Ue] at h4;have hf:=KQ (wC (l++m)) h2;refine ayl hC (hg _) h3 (Jw h4 h5) ?_;have:wE C.Φ ct t l=xs.map (X.den (wC (l++m))):=by unfold wE;simp only[h1,h2,F3,id]
 rw[this];exact WA hf.1 (Px _ _)
abbrev Hz:TypeId:=228
def CZ (k:Int) (g:FuncId) (c:Nat):MapEntry := { key:=.int .u8 k,val:=.func (.func g) #[] #[],born:=c }
theorem ak6 (w:World) (es:Array MapEntry) (c:Nat) (k:Int) (v:Value) (h:Instr.findNow (.int .u8) (.int .u8 k) es.toList 0=some none) :
  (Instr.mapUpdate Hz (.map (some w.heap.size)) (.int .u8 k) v).run prog (w.alloc (.map es c)) = .ok () (w.alloc (.map (es.push { key:=.int .u8 k,val:=v,born:=c }) (c+1))):=by
 have hb:(w.alloc (.map es c)).heap[w.heap.size]? = some (.map es c):=by show(w.heap.push _)[w.heap.size]? = _;simp
 have hk:prog.underlying 56=some (.int .u8):=by kernel_rfl
 have hm:prog.underlying Hz=some (.map 56 143):=by kernel_rfl
 have hc:(Instr.checkKey false 10000 56 (.int .u8 k)).run prog (w.alloc (.map es c)) = .ok () (w.alloc (.map es c)):=MapKept.run_checkKey (k:=.int .u8 k) hk (by simp[MapKept.IsKey]) false 9999
 have hs:(w.alloc (.map es c)).heap.setIfInBounds w.heap.size (.map (es.push { key:=.int .u8 k,val:=v,born:=c }) (c+1))=w.heap.push (.map (es.push { key:=.int .u8 k,val:=v,born:=c }) (c+1)):=by show(w.heap.push _).setIfInBounds w.heap.size _=_;apply Array.ext';simp
 simp[Instr.mapUpdate,run_underlying hm,MapKept.run_getObj_map hb,hc,MapKept.run_findKey hk h,MapKept.run_setObj_map _ hb,Result.andThen,hs];rfl
theorem ak7 (w:World) (es:Array MapEntry) (c:Nat) (m:Int) (i:Nat) (v:Value) (h:Instr.findNow (.int .u8) (.int .u8 m) es.toList 0=some (some (i,v))) :
  (Instr.lookup Hz (.map (some w.heap.size)) (.int .u8 m) true).run prog (w.alloc (.map es c)) = .ok (.tuple #[v,.bool true]) (w.alloc (.map es c)):=by
 have hb:(w.alloc (.map es c)).heap[w.heap.size]? = some (.map es c):=by show(w.heap.push _)[w.heap.size]? = _;simp
 have hk:prog.underlying 56=some (.int .u8):=by kernel_rfl
 have hm:prog.underlying Hz=some (.map 56 143):=by kernel_rfl
 have hc:(Instr.checkKey es.isEmpty 10000 56 (.int .u8 m)).run prog (w.alloc (.map es c)) = .ok () (w.alloc (.map es c)):=MapKept.run_checkKey (k:=.int .u8 m) hk (by simp[MapKept.IsKey]) _ 9999;simp[Instr.lookup,run_underlying hm,MapKept.run_getObj_map hb,hc,MapKept.run_findKey hk h,Result.andThen]
theorem ayn (w:World) (es:Array MapEntry) (c:Nat) (m:Int) (h:Instr.findNow (.int .u8) (.int .u8 m) es.toList 0=some none) :
  (Instr.lookup Hz (.map (some w.heap.size)) (.int .u8 m) true).run prog (w.alloc (.map es c)) = .ok (.tuple #[.nilFunc,.bool false]) (w.alloc (.map es c)):=by
 have hb:(w.alloc (.map es c)).heap[w.heap.size]? = some (.map es c):=by show(w.heap.push _)[w.heap.size]? = _;simp
 have hk:prog.underlying 56=some (.int .u8):=by kernel_rfl
 have hm:prog.underlying Hz=some (.map 56 143):=by kernel_rfl
 have hc:(Instr.checkKey es.isEmpty 10000 56 (.int .u8 m)).run prog (w.alloc (.map es c)) = .ok () (w.alloc (.map es c)):=MapKept.run_checkKey (k:=.int .u8 m) hk (by simp[MapKept.IsKey]) _ 9999;have hi:(prog.info? 143).bind (·.zero)=some .nilFunc:=by kernel_rfl
 have hz:(zeroValue 143).run prog (w.alloc (.map es c)) = .ok .nilFunc (w.alloc (.map es c)):=by
  cases hx:prog.info? 143 with
  | none=>rw[hx] at hi;cases hi
  | some x=>rw[hx] at hi;simp at hi;simp[zeroValue,typeInfo,hx,hi]
 simp[Instr.lookup,run_underlying hm,MapKept.run_getObj_map hb,hc,MapKept.run_findKey hk h,hz,Result.andThen]
def Dr (c:Int):Value:=if c=0 then .func (.func 149) #[] #[] else if c=3 then .func (.func 78) #[] #[] else .nilFunc
def EG (c:Int):Bool:=decide (c=0\/c=3)
theorem ayo (w:World) (c:Int):(Instr.lookup Hz (.map (some w.heap.size)) (.int .u8 c) true).run prog (w.alloc (.map #[CZ 0 149 0,CZ 3 78 1] 2)) = .ok (.tuple #[Dr c,.bool (EG c)]) (w.alloc (.map #[CZ 0 149 0,CZ 3 78 1] 2)):=by
 by_cases h0:c=0
 ·subst h0;exact ak7 w _ _ 0 0 _ rfl
 ·by_cases h3:c=3
  ·subst h3;exact ak7 w _ _ 3 1 _ rfl
  ·have hF:Dr c = .nilFunc:=by unfold Dr;rw[if_neg h0,if_neg h3]
   have hQ:EG c=false:=decide_eq_false (by omega);rw[hF,hQ];refine ayn w _ _ c ?_;have a0:(c==0)=false:=by rw[beq_eq_false_iff_ne];exact h0
   have a3:(c==3)=false:=by rw[beq_eq_false_iff_ne];exact h3
   simp only[CZ,Instr.findNow,Instr.sameNow,if_true];rw[a0,a3]
theorem EH {P:Program} {ops:Array Oper} {i:Nat} {o:Oper} {rest:List Nat} {a:Act} {w:World} {Q:Exit->Act->World->Prop} (ho:ops[i]? = some o) (hg:o.guard=none) (h:o.wp P a w (wpOps P ops Q rest) Q):wpOps P ops Q (i::rest) a w:=by rw[wpOps];simp only[ho];rw[show Region.wanted o (yielded ops a.tmps)=true from by unfold Region.wanted;rw[hg]];simp only[if_true];exact .inl h
theorem Gq {P:Program} {o:Oper} {a:Act} {w w':World} {v:Value} {K:Act->World->Prop} {Q:Exit->Act->World->Prop} (h:(execOp a.eval o).run P w = .ok (.value v) w') (hK:K (a.put o.dst v) w'):o.wp P a w K Q:=by unfold Oper.wp;rw[h];exact hK
theorem ak8 {P:Program} {o:Oper} {a:Act} {w w':World} {K:Act->World->Prop} {Q:Exit->Act->World->Prop} (h:(execOp a.eval o).run P w = .ok .skip w') (hK:K (a.put o.dst undef) w'):o.wp P a w K Q:=by unfold Oper.wp;rw[h];exact hK
def Yh (o:Oper):Option Tmp×Op×Option (Nat×Bool):=(o.dst,o.op,o.guard)
theorem EI {R:Array Oper} {l:List (Option Tmp×Op×Option (Nat×Bool))} (h:R.toList.map Yh=l) {i:Nat} {d:Option Tmp} {op:Op} (hi:l[i]? = some (d,op,none)):∃ o,R[i]? = some o/\o.dst=d/\o.op=op/\o.guard=none:=by
 rw[<- h,List.getElem?_map] at hi
 cases ho:R.toList[i]? with
 | none=>rw[ho] at hi;cases hi
 | some o =>
  rw[ho] at hi;simp only[Option.map_some,Option.some.injEq,Yh,Prod.mk.injEq] at hi;exact⟨o,by rw[<- Array.getElem?_toList];exact ho,hi.1,hi.2.1,hi.2.2⟩
def Sj:J7:=λc=>match c with
 | .seq (.region 7 _ _) _=>some 0
 | _=>none
noncomputable def Yi:Code:=(Tryz.f96.body).getD .skip
noncomputable def J9:Code:=match keyed Sj Yi with|(_,c)::_=>c | []=>.skip
def opsOf:Code->Array Oper | .region _ o _=>o|_=>#[]
def Yj:Code->Code | .seq a _=>a|c=>c
def U2:Code->Code | .seq _ b=>b|c=>c
noncomputable def R7:Array Oper:=opsOf (Yj J9)
noncomputable def R8:Array Oper:=opsOf (Yj (Yj (U2 J9)))
noncomputable def XXs:Code:=U2 (Yj (U2 J9))
noncomputable def YYs:Code:=U2 (U2 J9)
theorem ayp:J9 = .seq (.region 7 R7 false) (.seq (.seq (.region 8 R8 false) XXs) YYs):=by kernel_rfl
theorem ayq:keyed Sj Yi = [(0,J9)]:=by kernel_rfl
theorem U3:R7.toList.map Yh = [(some 52,.makeMap Hz none,none),(none,.insert Hz (.tmp 52) (.const (.int .u8 0)) (.func 149),none),(none,.insert Hz (.tmp 52) (.const (.int .u8 3)) (.func 78),none),(some 53,.move (.tmp 52),none),(some 10,.assign (.tmp 53),none)]:=by kernel_rfl
theorem Ka:R8.toList.map Yh = [(some 55,.move (.tmp 10),none),(some 56,.fieldAddr 139 (.tmp 7) 1,none),(some 57,.load 56 (.tmp 56),none),(some 58,.lookup Hz (.tmp 55) (.tmp 57) true,none),(some 54,.move (.tmp 58),none),(some 59,.extract (.tmp 54) 0,none),(some 60,.extract (.tmp 54) 1,none),(some 11,.assign (.tmp 59),none),(some 12,.assign (.tmp 60),none)]:=by kernel_rfl
theorem ayr:List.range R7.size = [0,1,2,3,4]:=by kernel_rfl
theorem ays:List.range R8.size = [0,1,2,3,4,5,6,7,8]:=by kernel_rfl
def NT (T:wU) (c:Int):wU:=λt=>if t=11 then some (.v (Dr c)) else if t=12 then some (.v (.bool (EG c))) else if t=10\/(52<=t/\t<=60) then none else T t
theorem ayt {T:wU} {d t:Nat} {x:AV} : (T.put (some d) x) t=if t=d then some x else T t:=rfl
theorem ak9 (a:Act) (v:Value):a.put none v=a:=rfl
theorem ayu {E:xV} {w0:World} {B0:xB} {nt N:Nat} {T T2:wU} {H:wm} {b:Nat} {cs:List AV} {t:TypeId} {c:Int} {Q:DD}
  (hnt:103<=nt) (h7:T 7=some (.loc b 0)) (hb:H b=some (.own cs t)) (hc:Aq prog 56 cs 1=some (.v (.int .u8 c))) (hf:Kv prog 139 1 (.loc b 0)=some (.loc b 1))
  (hT2:∀ t x,T2 t=some x->NT T c t=some x) (h:AW ⟨prog,gG,E,w0,B0,nt⟩ XXs (OQ (AW ⟨prog,gG,E,w0,B0,nt⟩ YYs Q) Q) N T2 H):AW ⟨prog,gG,E,w0,B0,nt⟩ J9 Q N T H:=by
 intro e a w R hT hI hB hd;rw[ayp];obtain⟨p0,g0,d0,k0,q0⟩:=EI U3 (i:=0) rfl;obtain⟨p1,g1,d1,k1,q1⟩:=EI U3 (i:=1) rfl;obtain⟨p2,g2,d2,k2,q2⟩:=EI U3 (i:=2) rfl;obtain⟨p3,g3,d3,k3,q3⟩:=EI U3 (i:=3) rfl;obtain⟨p4,g4,d4,k4,q4⟩:=EI U3 (i:=4) rfl;obtain⟨m,hm⟩:∃ m:Value,m = .map (some w.heap.size):=⟨_,rfl⟩;have s0:=hT.put (d:=some 52) (λt ht=>(by cases ht;exact Nat.lt_of_lt_of_le (by decide) hnt)) (.v m);simp only[AV.val] at s0;have s1:=s0.put (d:=some 53) (λt ht=>(by cases ht;exact Nat.lt_of_lt_of_le (by decide) hnt)) (.v m);simp only[AV.val] at s1;have s2:=s1.put (d:=some 10) (λt ht=>(by cases ht;exact Nat.lt_of_lt_of_le (by decide) hnt)) (.v m);simp only[AV.val] at s2;have e52:(a.put (some 52) m).eval (.tmp 52)=m:=s0.eval (x:=.tmp 52) (y:=.v m) rfl;have e53:((a.put (some 52) m).put (some 53) m).eval (.tmp 53)=m:=s1.eval (x:=.tmp 53) (y:=.v m) rfl;refine wp_seq (wp_region ?_);rw[ayr];refine EH g0 q0 (Gq (v:=m) (w':=w.alloc (.map #[] 0)) (by unfold execOp;rw[k0];simp[run_makeMap_plain,hm]) ?_);rw[d0];refine EH g1 q1 (ak8 (w':=w.alloc (.map #[CZ 0 149 0] 1)) (by unfold execOp;rw[k1];simp only[];rw[e52,hm];have:=ak6 w #[] 0 0 (.func (.func 149) #[] #[]) rfl;simp[Act.eval,this];rfl) ?_);rw[d1,ak9];refine EH g2 q2 (ak8 (w':=w.alloc (.map #[CZ 0 149 0,CZ 3 78 1] 2)) (by unfold execOp;rw[k2];simp only[];rw[e52,hm];have:=ak6 w #[CZ 0 149 0] 1 3 (.func (.func 78) #[] #[]) rfl;simp[Act.eval,this];rfl) ?_);rw[d2,ak9];refine EH g3 q3 (Gq (v:=m) (w':=w.alloc (.map #[CZ 0 149 0,CZ 3 78 1] 2)) (by unfold execOp;rw[k3];simp only[];rw[e52];rfl) ?_);rw[d3];refine EH g4 q4 (Gq (v:=m) (w':=w.alloc (.map #[CZ 0 149 0,CZ 3 78 1] 2)) (by unfold execOp;rw[k4];simp only[];rw[e53];rfl) ?_);rw[d4];simp only[wpOps];have R3:xh gG w0 B0 e H (w.alloc (.map #[CZ 0 149 0,CZ 3 78 1] 2)):=R.below ((vY.refl w).alloc _);have hlook:=ayo w c;rw[<- hm] at hlook;generalize w.alloc (.map #[CZ 0 149 0,CZ 3 78 1] 2)=w3 at *
 generalize hT3:((T.put (some 52) (.v m)).put (some 53) (.v m)).put (some 10) (.v m)=T3 at s2;generalize ha3:((a.put (some 52) m).put (some 53) m).put (some 10) m=a3 at *
 have hd3:a3.defers = []:=by rw[<- ha3];simp only[Act.put_defers];exact hd
 have t10:T3 10=some (.v m):=by rw[<- hT3];rfl
 have t7:T3 7=some (.loc b 0):=by rw[<- hT3];exact h7
 obtain⟨o0,G0,D0,K0,Q0⟩:=EI Ka (i:=0) rfl;obtain⟨o1,G1,D1,K1,Q1⟩:=EI Ka (i:=1) rfl;obtain⟨o2,G2,D2,K2,Q2⟩:=EI Ka (i:=2) rfl;obtain⟨o3,G3,D3,K3,Q3⟩:=EI Ka (i:=3) rfl;obtain⟨o4,G4,D4,K4,Q4⟩:=EI Ka (i:=4) rfl;obtain⟨o5,G5,D5,K5,Q5⟩:=EI Ka (i:=5) rfl;obtain⟨o6,G6,D6,K6,Q6⟩:=EI Ka (i:=6) rfl;obtain⟨o7,G7,D7,K7,Q7⟩:=EI Ka (i:=7) rfl;obtain⟨o8,G8,D8,K8,Q8⟩:=EI Ka (i:=8) rfl;have pt:∀ (d:Nat),d<103->∀ t,some d=some t->t<nt:=λd hd t ht=>(by cases ht;exact Nat.lt_of_lt_of_le hd hnt)
 obtain⟨tp,htp⟩:∃ tp:Value,tp = .tuple #[Dr c,.bool (EG c)]:=⟨_,rfl⟩;have hl:CK prog gG 56 H (.loc b 1)=some (.v (.int .u8 c),[b],[]):=by unfold CK;simp only[hb,hc]
 obtain⟨-,hload,-⟩:=Zd hl R3;obtain⟨hfa,-⟩:=afy hf R3;have val_v:∀ v,(AV.v v).val e=v:=λv=>rfl
 have z1:=s2.put (d:=some 55) (pt 55 (by decide)) (.v m);have z2:=z1.put (d:=some 56) (pt 56 (by decide)) (.loc b 1);have z3:=z2.put (d:=some 57) (pt 57 (by decide)) (.v (.int .u8 c));have z4:=z3.put (d:=some 58) (pt 58 (by decide)) (.v tp);have z5:=z4.put (d:=some 54) (pt 54 (by decide)) (.v tp);have z6:=z5.put (d:=some 59) (pt 59 (by decide)) (.v (Dr c));have z7:=z6.put (d:=some 60) (pt 60 (by decide)) (.v (.bool (EG c)));have z8:=z7.put (d:=some 11) (pt 11 (by decide)) (.v (Dr c));have z9:=z8.put (d:=some 12) (pt 12 (by decide)) (.v (.bool (EG c)));have y0:=s2.eval (x:=.tmp 10) t10;have y1:=z1.eval (x:=.tmp 7) (y:=.loc b 0) t7;have y2:=z2.eval (x:=.tmp 56) (y:=.loc b 1) rfl;have y3:=z3.eval (x:=.tmp 55) (y:=.v m) rfl;have y3':=z3.eval (x:=.tmp 57) (y:=.v (.int .u8 c)) rfl;have y4:=z4.eval (x:=.tmp 58) (y:=.v tp) rfl;have y5:=z5.eval (x:=.tmp 54) (y:=.v tp) rfl;have y6:=z6.eval (x:=.tmp 54) (y:=.v tp) rfl;have y7:=z7.eval (x:=.tmp 59) (y:=.v (Dr c)) rfl;have y8:=z8.eval (x:=.tmp 60) (y:=.v (.bool (EG c))) rfl;simp only[val_v] at z1 z2 z3 z4 z5 z6 z7 z8 z9 y0 y1 y2 y3 y3' y4 y5 y6 y7 y8;refine wp_seq (wp_seq (wp_region ?_));rw[ays];refine EH G0 Q0 (Gq (v:=m) (w':=w3) (by unfold execOp;rw[K0];simp only[];rw[y0];rfl) ?_);rw[D0];refine EH G1 Q1 (Gq (v:=(AV.loc b 1).val e) (w':=w3) (by unfold execOp;rw[K1];simp only[];rw[y1];simp[hfa]) ?_);rw[D1];refine EH G2 Q2 (Gq (v:=.int .u8 c) (w':=w3) (by unfold execOp;rw[K2];simp only[];rw[y2];simp only[AV.val] at hload ⊢;simp[hload]) ?_);rw[D2];refine EH G3 Q3 (Gq (v:=tp) (w':=w3) (by unfold execOp;rw[K3];simp only[];rw[y3,y3'];simp[hlook,htp]) ?_);rw[D3];refine EH G4 Q4 (Gq (v:=tp) (w':=w3) (by unfold execOp;rw[K4];simp only[];rw[y4];rfl) ?_);rw[D4];refine EH G5 Q5 (Gq (v:=Dr c) (w':=w3) (by unfold execOp;rw[K5];simp only[];rw[y5,htp];rfl) ?_);rw[D5];refine EH G6 Q6 (Gq (v:=.bool (EG c)) (w':=w3) (by unfold execOp;rw[K6];simp only[];rw[y6,htp];rfl) ?_);rw[D6];refine EH G7 Q7 (Gq (v:=Dr c) (w':=w3) (by unfold execOp;rw[K7];simp only[];rw[y7];rfl) ?_);rw[D7];refine EH G8 Q8 (Gq (v:=.bool (EG c)) (w':=w3) (by unfold execOp;rw[K8];simp only[];rw[y8];rfl) ?_);rw[D8];simp only[wpOps,Exit.then]
 have hTT:∀ t x,NT T c t=some x->(((((((((T3.put (some 55) (.v m)).put (some 56) (.loc b 1)).put (some 57) (.v (.int .u8 c))).put (some 58) (.v tp)).put (some 54) (.v tp)).put (some 59) (.v (Dr c))).put (some 60) (.v (.bool (EG c)))).put (some 11) (.v (Dr c))).put (some 12) (.v (.bool (EG c)))) t=some x:=λt x hx=>by
  unfold NT at hx;rw[<- hT3];simp only[ayt];by_cases h11:t=11
  ·rw[if_pos h11] at hx;rw[if_neg (by omega),if_pos h11];exact hx
  ·rw[if_neg h11] at hx;by_cases h12:t=12
   ·rw[if_pos h12] at hx;rw[if_pos h12];exact hx
   ·rw[if_neg h12] at hx;by_cases hr:t=10\/(52<=t/\t<=60)
    ·rw[if_pos hr] at hx;cases hx
    ·rw[if_neg hr] at hx;rw[if_neg h12,if_neg h11,if_neg (by omega),if_neg (by omega),if_neg (by omega),if_neg (by omega),if_neg (by omega),if_neg (by omega),if_neg (by omega),if_neg (by omega),if_neg (by omega),if_neg (by omega)];exact hx
 have hII:Ap (NT T c) H:=λt x hx r hr=>by
  unfold NT at hx;split at hx
  ·cases hx;cases hr
  ·split at hx
   ·cases hx;cases hr
   ·split at hx
    ·cases hx
    ·exact hI t x hx r hr
 refine wp_mono (h e _ w3 R3 ⟨z9.1,λt x hx=>z9.2 t x (hTT t x (hT2 t x hx))⟩ (λt x hx=>hII t x (hT2 t x hx)) hB (by simp only[Act.put_defers];exact hd3)) ?_;rintro ex a4 w4 ⟨N4,T4,H4,e4,h1,h2⟩
 cases ex with
 | normal=>exact h1 e4 a4 w4 h2.1 h2.2.1 h2.2.2.1 h2.2.2.2.1 h2.2.2.2.2
 | _=>exact⟨N4,T4,H4,e4,h1,h2⟩
def aee (f q:SV) (i:Nat) (x:Option SV):Option SV:=match Nat.beq i 11 with
 | true=>some f
 | false=>match Nat.beq i 12 with
  | true=>some q
  | false=>match Nat.beq i 10 with
   | true=>none
   | false=>match Nat.ble 52 i,Nat.ble i 60 with
    | true,true=>none
    | _,_=>x
def EJ (f q:SV):Nat->wT->wT
 | _,[]=>[]
 | i,x::l=>zk (Nat.succ i) λj=>aee f q i x::EJ f q j l
theorem ala (f q:SV):∀ (T:wT) (i t:Nat) (y:SV),Ae (EJ f q i T) t=some y->aee f q (i+t) (Ae T t)=some y
 | [],i,t,y,h=>by rw[EJ] at h;cases h
 | x::l,i,0,y,h=>by rw[EJ,yK] at h;exact h
 | x::l,i,t+1,y,h=>by rw[EJ,yK] at h;have:=ala f q l (i+1) t y h;rw[show i+(t+1)=i+1+t by omega];exact this
theorem alb (f q:SV):∀ (T:wT) (i:Nat),(EJ f q i T).length=T.length
 | [],i=>rfl
 | x::l,i=>by rw[EJ,yK,List.length_cons,alb f q l,List.length_cons]
theorem ayv {f q:SV} {s:wF} {T:wT} {c:Int} (hf:f.den s = .v (Dr c)) (hq:q.den s = .v (.bool (EG c))):∀ t x,wT.den s (EJ f q 0 T) t=some x->NT (wT.den s T) c t=some x:=by
 intro t x h;unfold wT.den at h
 cases hg:Ae (EJ f q 0 T) t with
 | none=>rw[hg] at h;cases h
 | some y =>
  rw[hg] at h;simp only[Option.map_some,Option.some.injEq] at h;have h2:=ala f q T 0 t y hg;rw[Nat.zero_add] at h2;unfold aee at h2;unfold NT;split at h2
  ·rename_i hb;rw[if_pos (Nat.eq_of_beq_eq_true hb)];cases h2;rw[<- h,hf]
  ·rename_i hb;have n11:¬ t=11:=λe=>by rw[e] at hb;cases hb
   rw[if_neg n11];split at h2
   ·rename_i hb2;rw[if_pos (Nat.eq_of_beq_eq_true hb2)];cases h2;rw[<- h,hq]
   ·rename_i hb2;have n12:¬ t=12:=λe=>by rw[e] at hb2;cases hb2
    rw[if_neg n12];split at h2
    ·cases h2
    ·rename_i hb3;have n10:¬ t=10:=λe=>by rw[e] at hb3;cases hb3
     split at h2
     ·cases h2
     ·rename_i hb4
      rw[if_neg (λe=>by
       rcases e with e|⟨e1,e2⟩
       ·exact n10 e
       ·exact hb4 (Nat.ble_eq_true_of_le e1) (Nat.ble_eq_true_of_le e2))]
      unfold wT.den;rw[h2,<- h];rfl
noncomputable def U4 (C:xP) (f:Nat) (st:St):vU (Exit×St):=(exec C f XXs st).bind λr=>match r.1 with | .normal=>exec C f YYs r.2|_=>.leaf r
def fnS (g:FuncId):SV:=.v (.func (.func g) #[] #[])
def Yk (st:St):Option X:=match Ae st.T 7 with
 | some (.loc b 0)=>match hget st.H b with
  | some o=>match o.t,o.c with
   | some _,_ :: .int .u8 x::_=>some x
   | _,_=>none
  | none=>none
 | _=>none
noncomputable def Ym (C:xP) (f:Nat):Me:=λ_ st=>match Yk st,Nat.ble 103 st.T.length with
 | some x,true=>GJ st.fc (.bin .eql .u8 x (.lit 0)) λb fc=>match b with
  | true=>U4 C f { st with T:=EJ (fnS 149) (.bool (.lit 1)) 0 st.T,fc:=fc }
  | false=>GJ fc (.bin .eql .u8 x (.lit 3)) λb fc=>match b with
   | true=>U4 C f { st with T:=EJ (fnS 78) (.bool (.lit 1)) 0 st.T,fc:=fc }
   | false=>U4 C f { st with T:=EJ (.v .nilFunc) (.bool (.lit 0)) 0 st.T,fc:=fc }
 | _,_=>.stuck "map"
theorem ayw {s:wF} {st:St} {x:X} (h:Yk st=some x):∃ b cs t,wT.den s st.T 7=some (.loc b 0)/\SH.den s st.H b=some (.own cs t)/\cs[1]? = some (.v (.int .u8 (x.den s))):=by
 unfold Yk at h;split at h
 ·rename_i b h7;split at h
  ·rename_i o ho;split at h
   ·rename_i t y x' l ht hc;cases h;refine⟨b,SV.aaE s o.c,t,?_,?_,?_⟩
    ·unfold wT.den;rw[h7];rfl
    ·unfold SH.den;rw[ho];simp only[Option.map_some];rw[SO.aCW s ht]
    ·rw[hc];rfl
   ·cases h
  ·cases h
 ·cases h
theorem aef {L M:List wY} {S:List yU} (hC:yS (wR L M S) eE) {s:wF} {f:Nat} {st:St} {x:X} {fc:Facts} {fv q:SV} (hcl:Yk st=some x) (hlen:Nat.ble 103 st.T.length=true) (hfv:fv.den s = .v (Dr (x.den s))) (hq:q.den s = .v (.bool (EG (x.den s)))) (hf:xS s fc)
  {ex:Exit} {st':St} (h:(U4 (wR L M S) f { st with T:=EJ fv q 0 st.T,fc:=fc }).path (wR L M S).Φ s=some (ex,st')):GR (wR L M S) eE s J9 st ex st':=by
 obtain⟨b,cs,t,h7,hb,hc⟩:=ayw (s:=s) hcl
 have hld:Aq prog 56 cs 1=some (.v (.int .u8 (x.den s))):=by unfold Aq;rw[show Kt prog 56=some false by kernel_rfl];exact hc
 have hfa:Kv prog 139 1 (.loc b 0)=some (.loc b 1):=by unfold Kv;rw[show Ib prog 139 1=some (1,56) by kernel_rfl];simp only[];rw[show yn prog 56=some (0+1) by kernel_rfl]
 have hw:=λw0 B0 Q h=>ayu (E:=eE) (w0:=w0) (B0:=B0) (N:=st.N) (Q:=Q) (Nat.le_of_ble_eq_true hlen) h7 hb hld hfa (ayv (T:=st.T) hfv hq) h
 unfold U4 at h;obtain⟨ex1,st1,h1,h2⟩:=EX h;have s1:=(MZ (E:=eE) (s:=s) hC f).1 _ _ _ _ h1 hf;have l0:(EJ fv q 0 st.T).length=st.T.length:=alb _ _ _ _;have l1:st1.T.length=st.T.length:=s1.len.trans l0;have aw1:=s1.aw;simp only[l0] at aw1;rcases MV h2 with⟨rfl,h3⟩|⟨hx,h3⟩
 ·have s2:=(MZ (E:=eE) (s:=s) hC f).1 _ _ _ _ h3 s1.fc;refine⟨λw0 B0=>hw w0 B0 _ ((aw1 w0 B0).mono ?_),s2.len.trans l1,λj hj=>?_,s2.fc⟩
  ·rintro y N T H ⟨rfl,rfl,rfl,rfl⟩;have:=s2.aw w0 B0;rw[l1] at this;exact this
  ·obtain⟨a,b⟩:=s2.dt j hj;obtain⟨a',b'⟩:=s1.dt j a;exact⟨a',b.trans b'⟩
 ·cases h3;refine⟨λw0 B0=>hw w0 B0 _ ((aw1 w0 B0).mono ?_),l1,s1.dt,s1.fc⟩;rintro y N T H ⟨rfl,rfl,rfl,rfl⟩;exact MW hx ⟨rfl,rfl,rfl,rfl⟩
theorem ayx {L M:List wY} {S:List yU} (hC:yS (wR L M S) eE) (s:wF) (f:Nat):Good (wR L M S) eE s (Ym (wR L M S) f) (0,J9):=by
 intro st ex st' h hf;unfold Ym at h;split at h
 ·rename_i x hx hlen;obtain⟨fc1,hf1,h⟩:=Jr hf h
  have e0:((X.bin .eql .u8 x (.lit 0)).den s != 0)=decide (x.den s=0):=by simp only[X.den,wJ,yX];rw[Bool.eq_iff_iff,beq_iff_eq,decide_eq_true_iff]
  rw[e0] at h;by_cases c0:x.den s=0
  ·rw[decide_eq_true c0] at h;exact aef hC hx hlen (by rw[c0];rfl) (by rw[c0];rfl) hf1 h
  ·rw[decide_eq_false c0] at h;obtain⟨fc2,hf2,h⟩:=Jr hf1 h
   have e3:((X.bin .eql .u8 x (.lit 3)).den s != 0)=decide (x.den s=3):=by simp only[X.den,wJ,yX];rw[Bool.eq_iff_iff,beq_iff_eq,decide_eq_true_iff]
   rw[e3] at h;by_cases c3:x.den s=3
   ·rw[decide_eq_true c3] at h;exact aef hC hx hlen (by rw[c3];rfl) (by rw[c3];rfl) hf2 h
   ·rw[decide_eq_false c3] at h;have hF:Dr (x.den s) = .nilFunc:=by unfold Dr;rw[if_neg c0,if_neg c3]
    have hQ:EG (x.den s)=false:=decide_eq_false (by omega);exact aef hC hx hlen (by rw[hF];rfl) (by rw[hQ];rfl) hf2 h
 ·cases h
theorem ayy {fn:Func} {cd:Code} (h1:prog.funcs[96]? = some fn) (h2:fn.body=some cd):cd=Yi:=by rw[func96] at h1;cases h1;unfold Yi;rw[h2];rfl
theorem ayz {L M:List wY} {S:List yU} (hC:Br (wR L M S) eE) (f n:Nat) {ct:Ct} {t:vU SV} (h:U0 (wR L M S) Sj (Ym (wR L M S) f) n 96 (wN ct.a (wM 0 (vV ct.a))) (vV ct.a).length=t) (hs:Et (M4 (wR L M S)) ct (vV ct.a).length t=true) :
  wK (wR L M S).P (wR L M S).G ⟨96,ct,wE (wR L M S).Φ ct t⟩:=λl hl =>
 aym hC.ok (λs fn cd h1 h2 p hp=>by
  rw[ayy h1 h2,ayq] at hp;rw[List.mem_singleton.1 hp]
  exact ayx hC.ok s f) h (M3 hs) l hl (KW hC (by rw[hl];exact hs))
theorem ayA:Br (wR UZ M0 S1) eE:=GZ ayi JG IU (by kernel_rfl)
def Sk:Ct:=⟨[.sc kB,.agg [kB,.bool],.agg [kU,kU]],[.agg [kU,kU,kB]]⟩
def ald:vU SV :=
 (.ite dH jw (.ite jA jw (.call 76 jC 5 5 (.ite iK (.ite (.bin .neq .u8 dO ae) (.call 1000077 [dF,(.bin .leq .u8 dO bP),ay,aC] 10 4 (.ite lJ oC qY)) (.call 1000077 qZ 10 4 (.ite lJ oC q8))) (.call 1000077 qZ 10 4 (.ite lJ oC (.ite dP q8 qY)))))))
theorem ayB:U0 (wR UZ M0 S1) Sj (Ym (wR UZ M0 S1) 3000) 3000 96 (wN Sk.a (wM 0 (vV Sk.a))) (vV Sk.a).length=ald:=by kernel_rfl
def ale:List Int->List Int:=wE (wH UZ M0 S1) Sk ald
theorem alf:wK prog gG ⟨96,Sk,ale⟩:=ayz ayA 3000 3000 ayB (by kernel_rfl)
end Go.Proofs.YtippohicjhilnaaGreatDoor
