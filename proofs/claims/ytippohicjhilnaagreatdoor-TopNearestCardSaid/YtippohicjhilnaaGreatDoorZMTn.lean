import Derived.Test.YtippohicjhilnaaGreatDoorZATn
import Derived.Test.YtippohicjhilnaaGreatDoorZBTn
import Derived.Test.YtippohicjhilnaaGreatDoorZETn
import Derived.Test.YtippohicjhilnaaGreatDoorZGTn
set_option linter.unusedSimpArgs false
set_option linter.unusedVariables false
set_option maxRecDepth 100000
set_option maxHeartbeats 4000000
open Go.Proofs.Tryz
namespace Go.Proofs.YtippohicjhilnaaGreatDoor
open Go.RowKit
theorem LZ {g:FuncId} {args:List Value} {v:Value} (h:PC prog gG g args v) {fn:Func} (hf:prog.funcs[g]? = some fn) (hn:(fn.name == "runtime.NumGoroutine")=false) (hb:fn.body.isNone=false) (w:World) (hG:Gl gG w) :
  Calls prog g args.toArray w λe w'=>e = .returned v/\vY w w':=by
 have:=h w hG;unfold Ce at this;rw[KE hf hn hb] at this;exact this
open Go.RowKit Go.Shelf
attribute [local go_sem] Oper.semAt_some
def CE:Nat->List (Fin 256)
 | 0=>[]
 | k+1=>if h:k<256 then CE k ++ [⟨k,h⟩] else CE k
theorem adY {k:Nat} (hk:k<256):CE (k+1)=CE k ++ [⟨k,hk⟩]:=by simp[CE,hk]
theorem akp:∀ k,k<=256->(CE k).length=k
 | 0,_=>rfl
 | k+1,h=>by rw[adY (by omega),List.length_append,akp k (by omega)];rfl
def L6 (b:Nat) (A B:World):Prop:=∀ o:Obj,o.isCells=true->A.heap[b]? = some o->B.heap[b]? = some o
theorem axd {b:Nat} {A B C:World} (h1:L6 b A B) (h2:L6 b B C):L6 b A C:=λo ho h=>h2 o ho (h1 o ho h)
def BP (n k:Nat):Int:=bits .and .u64 (wd n ((255-k)/64)/2^((255-k)%64)) 1
theorem axe:∀ n:Fin 256,bits .and .i64 ((n.1:Nat):Int) 63=((n.1%64:Nat):Int):=by decide +kernel
theorem akq {k:Nat} (h:k<256):bits .and .i64 (255-(k:Int)) 63=(((255-k)%64:Nat):Int):=by have:=axe ⟨255-k,by omega⟩;rw[show(255-(k:Int))=((255-k:Nat):Int) by omega];exact this
theorem axf (F:Fence) (n:Nat) (h7:F.fn 269) (hro:F.round=none) (hn:1<=n) (l Bs:Nat) (s:Nat) (J Jx:List (Fin 256)->World->Prop)
  (hY:∀ pre x W,J pre W->pre.length<256->YieldAt F (n-1) prog l #[.int .i64 (255-(x.1:Int)),.int .u64 (BP s x.1)] W λe W' =>
   (e = .returned (.bool true)/\J (pre ++ [x]) W'/\L6 Bs W W')\/(e = .returned (.bool false)/\Jx (pre ++ [x]) W'))
  (W:World) (hBs:W.heap[Bs]? = some (.cells #[.int .u64 (wd s 0),.int .u64 (wd s 1),.int .u64 (wd s 2),.int .u64 (wd s 3)] 188 (0,0))) (h0:J [] W) :
  CallsIn F n prog 269 #[.func (.yield l) #[] #[],.pointer (some ⟨Bs,0,none⟩)] W λe W'=>(∃ v,e = .returned v) /\
   ((∃ ys,ys=CE 256/\J ys W')\/(∃ pre,True/\Jx pre W')):=by
 refine callsIn_of_wp func269 rfl h7 ?_ hro;simp only[ntmps269,List.size_toArray,List.length_cons,List.length_nil,Nat.reduceAdd,Nat.reduceSub,Array.replicate_succ,Array.replicate_zero,List.push_toArray,List.append_toArray,List.nil_append,List.cons_append]
 gi_wp2
 gi_loopw [3] (λi wr=>∃ k:Nat,k<=256/\i = .int .i64 (255-(k:Int))/\J (CE k) wr/\wr.heap[Bs]? = some (.cells #[.int .u64 (wd s 0),.int .u64 (wd s 1),.int .u64 (wd s 2),.int .u64 (wd s 3)] 188 (0,0)))
  (λi _=>(intOf i+1).toNat)
 case atStart=>exact⟨0,Nat.zero_le _,rfl,h0,hBs⟩
 case round =>
  obtain⟨k,hk,rfl,hJs,hcx⟩:=hrel;by_cases hlt:k<256
  ·have Hs:=Lib.hid (adY hlt);have hlen:=akp k hk;obtain⟨fn,tmps,assign,body,hy,hR⟩:=hY _ ⟨k,hlt⟩ wr hJs (by omega);simp only[BP] at hy;have hc1:wr.cell? ⟨Bs,(255-k)/64,none⟩=some (.int .u64 (wd s ((255-k)/64))):=wB hcx _ (Tt s ⟨(255-k)/64,by omega⟩);have hb:=akq hlt
   gi_wp2
   refine hR.mono ?_;rintro e W3 (⟨rfl,hJ3,hk3⟩|⟨rfl,hJx3⟩)
   ·gi_wp2
    go_roundw
    case rel=>exact⟨k+1,by omega,by congr 1;omega,by rw[Hs.out];exact hJ3,hk3 _ rfl hcx⟩
    case measure=>simp[intOf];omega
   ·gi_wp2
    refine bodyPost_ret (results_none rfl _ _ _) rfl ?_;exact⟨⟨_,rfl⟩,.inr ⟨_,trivial,hJx3⟩⟩
  ·obtain rfl:k=256:=by omega
   gi_wp2
   go_end0
   exact⟨⟨_,rfl⟩,.inl ⟨_,rfl,hJs⟩⟩
theorem axg (F:Fence) (n:Nat) (h7:F.fn 269) (hro:F.round=none) (hn:1<=n) (Bs s:Nat) (w:World) (hBs:Bs<w.heap.size)
  (hc:w.heap[Bs]? = some (.cells #[.int .u64 (wd s 0),.int .u64 (wd s 1),.int .u64 (wd s 2),.int .u64 (wd s 3)] 188 (0,0))) :
  SeqStopsK F n prog 269 #[.pointer (some ⟨Bs,0,none⟩)] (λx:Fin 256=>#[Value.int .i64 (255-(x.1:Int)),Value.int .u64 (BP s x.1)]) (L6 Bs) (λys=>ys=CE 256)
   (λ_=>True) 256 w:=λl J Jx W hW _ _ hY h0 =>
 axf F n h7 hro hn l Bs s J Jx hY W (xK hc hW) h0
theorem axh (F:Fence) (n:Nat) (h5:F.fn 219) (hro:F.round=none) (s:Nat) (w:World) :
  CallsIn F n prog 219 #[vW s] w λe w'=>e = .returned (.func (.func 269) #[] #[.pointer (some ⟨w.heap.size,0,none⟩)])/\w'=w.alloc (.cells #[.int .u64 (wd s 0),.int .u64 (wd s 1),.int .u64 (wd s 2),.int .u64 (wd s 3)] 188):=by
 refine callsIn_of_wp func219 rfl h5 ?_ hro;simp only[ntmps219,List.size_toArray,List.length_cons,List.length_nil,Nat.reduceAdd,Nat.reduceSub,Array.replicate_succ,Array.replicate_zero,List.push_toArray,List.append_toArray,List.nil_append,List.cons_append]
 gi_wp2
 go_ret
 exact⟨rfl,rfl⟩
theorem axi {B:Nat} {n:Nat} (W:World) (l:Nat) (o o':Obj) (h0:n<=l) (h:W.heap[l]? = some o) (hn:o.isCells=false) (h1:o.isWalk=false):L6 B W (W.putObj l o'):=λx hx hv=>by
 have hne:B≠l:=λe=>by subst e;rw[h] at hv;cases hv;rw[hn] at hx;cases hx
 exact(World.putObj_heap_other hne).trans hv
theorem axj {i:Nat} : IntKind.u64.wrap (2^(((i:Nat):Int)%64).toNat)=((2^(i%64):Nat):Int):=by
 have e:(((i:Nat):Int)%64).toNat=i%64:=by omega
 have h:(2:Nat)^(i%64)<2^64:=Nat.pow_lt_pow_right (by decide) (by omega);rw[e];have h2:(0:Int)<=((2^(i%64):Nat):Int):=Int.natCast_nonneg _;rw[show(2:Int)^(i%64)=((2^(i%64):Nat):Int) by push_cast;rfl];generalize (2:Nat)^(i%64)=y at *
 unfold IntKind.wrap IntKind.bits IntKind.signed;simp only[Bool.false_and,Bool.false_eq_true,if_false];omega
theorem axk (q i j:Nat):(q|||2^i)/vZ^j%vZ=if j=i/64 then q/vZ^j%vZ|||2^(i%64) else q/vZ^j%vZ:=by
 apply Nat.eq_of_testBit_eq;intro k;have h64:vZ=2^64:=GG;by_cases hk:k<64
 ·rw[O0 _ _ _ hk,Nat.testBit_or,Nat.testBit_two_pow];split
  ·rename_i hj;rw[Nat.testBit_or,O0 _ _ _ hk,Nat.testBit_two_pow];congr 1;rw[decide_eq_decide];omega
  ·rename_i hj;rw[O0 _ _ _ hk,decide_eq_false (by omega),Bool.or_false]
 ·have l1:(q|||2^i)/vZ^j%vZ<2^64:=by rw[<- h64];exact Nat.mod_lt _ zu
  have l0:q/vZ^j%vZ<2^64:=by rw[<- h64];exact Nat.mod_lt _ zu
  have l2:(2:Nat)^(i%64)<2^64:=Nat.pow_lt_pow_right (by decide) (by omega);have far:∀ {a:Nat},a<2^64->a.testBit k=false:=λ{a} ha=>Nat.testBit_lt_two_pow (Nat.lt_of_lt_of_le ha (Nat.pow_le_pow_right (by decide) (by omega)))
  rw[far l1];split
  ·rw[far (Nat.or_lt_two_pow l0 l2)]
  ·rw[far l0]
theorem axl {q i:Nat} (hi:i<256):(#[Value.int .u64 (wd q 0),.int .u64 (wd q 1),.int .u64 (wd q 2),.int .u64 (wd q 3)].setIfInBounds (i/64) (.int .u64 (bits .or .u64 (wd q (i/64)) (IntKind.u64.wrap (2^(((i:Nat):Int)%64).toNat))))) =
  #[Value.int .u64 (wd (q|||2^i) 0),.int .u64 (wd (q|||2^i) 1),.int .u64 (wd (q|||2^i) 2),.int .u64 (wd (q|||2^i) 3)]:=by
 have l0:∀ j,q/vZ^j%vZ<18446744073709551616:=λj=>Nat.mod_lt _ zu
 have hor:∀ j,bits .or .u64 (wd q j) (IntKind.u64.wrap (2^(((i:Nat):Int)%64).toNat))=((q/vZ^j%vZ|||2^(i%64):Nat):Int):=λj=>by rw[axj];exact u64_or_nat _ _ (l0 j) (Nat.pow_lt_pow_right (by decide) (by omega):(2:Nat)^(i%64)<2^64)
 rw[hor];have ho:=axk q i;unfold wd;rw[ho 0,ho 1,ho 2,ho 3];rcases(show i/64=0\/i/64=1\/i/64=2\/i/64=3 by omega) with e|e|e|e<;>rw[e]<;>rfl
theorem akr (s k:Nat) (hk:k<256):BP s k=((s/2^(255-k)%2:Nat):Int):=by
 unfold BP;generalize hi:255-k=i;have hlt:s/vZ^(i/64)%vZ<18446744073709551616:=Nat.mod_lt _ zu;have e:wd s (i/64)/2^(i%64)=((s/vZ^(i/64)%vZ/2^(i%64):Nat):Int):=by unfold wd;rw[Int.natCast_ediv];simp
 have h1:=u64_and_nat (s/vZ^(i/64)%vZ/2^(i%64)) 1 (Nat.lt_of_le_of_lt (Nat.div_le_self _ _) hlt) (by decide);rw[e];refine h1.trans ?_;rw[Nat.and_one_is_mod]
 have h2:s/vZ^(i/64)%vZ/2^(i%64)%2=s/2^i%2:=by rw[<- Nat.toNat_testBit,<- Nat.toNat_testBit,O0 _ _ _ (by omega),show 64*(i/64)+i%64=i by omega]
 rw[h2]
theorem axm (s k:Nat) (hk:k<256):0<=BP s k/\BP s k<=1:=by rw[akr s k hk];omega
structure Yb (Gw:World->Prop) (nx:Nat->Int->Nat->Nat×Bool) (F:Fence):Prop where
 keep:∀ X Y,Gw X->vY X Y->Gw Y
 zero:∀ m b w,Gw w->b<wy->CallsIn F m prog 48 #[vB b] w λe w'=>e = .returned (.bool (decide (b=0)))/\vY w w'
 next:∀ l m r x d w,Gw w->(0<=x/\x<=1)->r<wy->d<wy->CallsIn (F.inRound l) m prog 220 #[vB r,.int .u64 x,vB d] w λe w'=>e = .returned (.tuple #[vB (nx r x d).1,.bool (nx r x d).2])/\vY w w'
 lt:∀ r x d,(nx r x d).1<wy
def zg (nx:Nat->Int->Nat->Nat×Bool) (s d:Nat) (pre:List (Fin 256)):Nat×Nat :=
 pre.foldl (λst x=>(if (nx st.2 (BP s x.1) d).2 then st.1|||2^(255-x.1) else st.1,(nx st.2 (BP s x.1) d).1)) (0,0)
theorem aks (nx:Nat->Int->Nat->Nat×Bool) (s d:Nat) (pre:List (Fin 256)) (x:Fin 256) :
  zg nx s d (pre ++ [x])=(if (nx (zg nx s d pre).2 (BP s x.1) d).2 then(zg nx s d pre).1|||2^(255-x.1) else(zg nx s d pre).1,(nx (zg nx s d pre).2 (BP s x.1) d).1):=by
 unfold zg;rw[List.foldl_append];rfl
theorem axn {Gw:World->Prop} {nx:Nat->Int->Nat->Nat×Bool} {F:Fence} (h:Yb Gw nx F) (s d:Nat) (pre:List (Fin 256)):(zg nx s d pre).2<wy:=by
 unfold zg
 suffices k:∀ (pre:List (Fin 256)) (st:Nat×Nat),st.2<wy->(pre.foldl (λst x=>(if (nx st.2 (BP s x.1) d).2 then st.1|||2^(255-x.1) else st.1,(nx st.2 (BP s x.1) d).1)) st).2<wy from k pre _ (by decide)
 intro pre
 induction pre with
 | nil=>intro st h;exact h
 | cons x xs ih=>intro st _;exact ih _ (h.lt _ _ _)
theorem axo {Gw:World->Prop} {nx:Nat->Int->Nat->Nat×Bool} (F:Fence) (hS:Yb Gw nx F) (n:Nat) (h1:F.fn 146) (h2:F.fn 219) (h3:F.fn 269) (h4:F.fn 48) (h5:F.fn 220) (hro:F.round=none) (hn:3<=n) (s d:Nat) (hd:d<wy) (hd0:d≠0) (w:World) (hG:Gw w) :
  CallsIn F n prog 146 #[vW s,vB d] w λe w'=>e = .returned (.tuple #[vW (zg nx s d (CE 256)).1,vB (zg nx s d (CE 256)).2,.bool true])/\vY w w':=by
 have hn1:1<=n:=by omega
 have hz:=hS.zero;refine callsIn_of_wp_marks func146 rfl h1 ?_ hro;simp only[ntmps146,List.size_toArray,List.length_cons,List.length_nil,Nat.reduceAdd,Nat.reduceSub,Array.replicate_succ,Array.replicate_zero,List.push_toArray,List.append_toArray,List.nil_append,List.cons_append]
 gi_wp2_with (first|(gi_at_call 219;refine(axh F (n-1) h2 hro s _).mono ?_;rintro e w2 ⟨rfl,rfl⟩)|(gi_at_call 48;refine(hz (n-1) d _ (hS.keep _ _ hG ((((((vY.refl w).alloc _).alloc _).alloc _).alloc _).alloc _ |>.alloc _)) hd).mono ?_;rintro e w' ⟨rfl,hw⟩;have hA:w'.heap[w.heap.size]? = some (.cells #[.int .u64 (wd s 0),.int .u64 (wd s 1),.int .u64 (wd s 2),.int .u64 (wd s 3)] 188 (0,0)):=xK (heap_alloc (heap_alloc (heap_alloc (heap_alloc (heap_alloc (Jc _ _) _) _) _) _) _) hw;have e0:=wB hA 0 rfl;have e1:=wB hA 1 rfl;have e2:=wB hA 2 rfl;have e3:=wB hA 3 rfl))
 have hw0:=w.heap.size;have bD:(w'.alloc (.cells #[.int .u64 (wd s 0),.int .u64 (wd s 1),.int .u64 (wd s 2),.int .u64 (wd s 3)] 188)).heap[w.heap.size+1]? = some (.cells #[.int .u64 (wd d 1),.int .u64 (wd d 0)] 25 (0,0)):=heap_alloc (xK (heap_alloc (heap_alloc (heap_alloc (heap_alloc (Tc _ _ _) _) _) _) _) hw) _;have bX:(w'.alloc (.cells #[.int .u64 (wd s 0),.int .u64 (wd s 1),.int .u64 (wd s 2),.int .u64 (wd s 3)] 188)).heap[w.heap.size+1+1]? = some (.cells #[.int .u64 0,.int .u64 0,.int .u64 0,.int .u64 0] 188 (0,0)):=heap_alloc (xK (heap_alloc (heap_alloc (heap_alloc (EO _ _ _ _) _) _) _) hw) _;have bY:(w'.alloc (.cells #[.int .u64 (wd s 0),.int .u64 (wd s 1),.int .u64 (wd s 2),.int .u64 (wd s 3)] 188)).heap[w.heap.size+1+1+1]? = some (.cells #[.int .u64 0,.int .u64 0] 25 (0,0)):=heap_alloc (xK (heap_alloc (heap_alloc (Vw _ _ _ _ _) _) _) hw) _;have bQ:(w'.alloc (.cells #[.int .u64 (wd s 0),.int .u64 (wd s 1),.int .u64 (wd s 2),.int .u64 (wd s 3)] 188)).heap[w.heap.size+1+1+1+1]? = some (.cells #[.int .u64 0,.int .u64 0,.int .u64 0,.int .u64 0] 188 (0,0)):=heap_alloc (xK (heap_alloc (Vx _ _ _ _ _ _) _) hw) _;have bR:(w'.alloc (.cells #[.int .u64 (wd s 0),.int .u64 (wd s 1),.int .u64 (wd s 2),.int .u64 (wd s 3)] 188)).heap[w.heap.size+1+1+1+1+1]? = some (.cells #[.int .u64 0,.int .u64 0] 25 (0,0)):=heap_alloc (xK (Vy _ _ _ _ _ _ _) hw) _;have hsz:w.heap.size+1+1+1+1+1<w'.heap.size:=by have:=Kr (xK (Vy w _ _ _ _ _ _) hw);exact this
 have hB0:Below w.heap.size w (w'.alloc (.cells #[.int .u64 (wd s 0),.int .u64 (wd s 1),.int .u64 (wd s 2),.int .u64 (wd s 3)] 188)):=by show vY w _;exact(((((((((vY.refl w).alloc _).alloc _).alloc _).alloc _).alloc _).alloc _).trans hw).alloc _)
 have z0:zg nx s d []=(0,0):=rfl;have zw:∀ j,wd 0 j=0:=λj=>by unfold wd;simp
 refine wpIn_rangeFunc_ownG hro hn1 (gf:=269) (lb:=#[.pointer (some ⟨w'.heap.size,0,none⟩)]) rfl h3 (enters_of func269 (by kernel_rfl) rfl)
  (axg F (n-1) h3 hro (by omega) w'.heap.size s _ (by simp) (Jc _ _)) axd axi (Below.refl _ _) (λ_=>rfl)
  (λpre W=>(((W.heap[w.heap.size+1]? = some (.cells #[.int .u64 (wd d 1),.int .u64 (wd d 0)] 25 (0,0))/\W.heap[w.heap.size+1+1]? = some (.cells #[.int .u64 0,.int .u64 0,.int .u64 0,.int .u64 0] 188 (0,0))) /\
   (W.heap[w.heap.size+1+1+1]? = some (.cells #[.int .u64 0,.int .u64 0] 25 (0,0))/\W.heap[w.heap.size+1+1+1+1]? = some (.cells #[.int .u64 (wd (zg nx s d pre).1 0),.int .u64 (wd (zg nx s d pre).1 1),.int .u64 (wd (zg nx s d pre).1 2),.int .u64 (wd (zg nx s d pre).1 3)] 188 (0,0)))) /\
   W.heap[w.heap.size+1+1+1+1+1]? = some (.cells #[.int .u64 (wd (zg nx s d pre).2 1),.int .u64 (wd (zg nx s d pre).2 0)] 25 (0,0)))/\Below w.heap.size w W)
  (λ_ _ _=>False)
  (OwnFrom.and (OwnFrom.and (OwnFrom.and (OwnFrom.and (Own.from (DN _ _ (λ_=>#[.int .u64 (wd d 1),.int .u64 (wd d 0)])) _) (Own.from (DN _ _ (λ_=>#[.int .u64 0,.int .u64 0,.int .u64 0,.int .u64 0])) _)) (OwnFrom.and (Own.from (DN _ _ (λ_=>#[.int .u64 0,.int .u64 0])) _) (Own.from (DN _ _ (λpre=>#[.int .u64 (wd (zg nx s d pre).1 0),.int .u64 (wd (zg nx s d pre).1 1),.int .u64 (wd (zg nx s d pre).1 2),.int .u64 (wd (zg nx s d pre).1 3)])) _))) (Own.from (DN _ _ (λpre=>#[.int .u64 (wd (zg nx s d pre).2 1),.int .u64 (wd (zg nx s d pre).2 0)])) _)) (ownFrom_below (Nat.le_refl _) (by simp;omega)))
  (λ_ _ _ _ _ hs _ _=>hs)
  ⟨⟨⟨⟨bD,bX⟩,bY,by rw[z0];simp only[zw];exact bQ⟩,by rw[z0];simp only[zw];exact bR⟩,hB0⟩
  (λx => { tmps:=#[vW s,vB d,.pointer (some ⟨w.heap.size,0,none⟩),.pointer (some ⟨w.heap.size+1,0,none⟩),.pointer (some ⟨w.heap.size+1+1,0,none⟩),.pointer (some ⟨w.heap.size+1+1+1,0,none⟩),.bool false,.pointer (some ⟨w.heap.size+1+1+1+1,0,none⟩),.pointer (some ⟨w.heap.size+1+1+1+1+1,0,none⟩),.int .i64 (255-(x.1:Int)),.int .u64 (BP s x.1),undef,.agg #[.int .u64 (wd d 1),.int .u64 (wd d 0)],.bool false,undef,undef,.agg #[.int .u64 (wd s 0),.int .u64 (wd s 1),.int .u64 (wd s 2),.int .u64 (wd s 3)],.func (.func 269) #[] #[.pointer (some ⟨w'.heap.size,0,none⟩)],.int .i64 (255-(x.1:Int)),.int .u64 (BP s x.1),undef,undef,undef,undef,undef,undef,undef,undef,undef,undef,undef,undef,undef,undef,undef,undef,undef,undef,undef],defers:=[] }) ?assign ?body ?done ?stop
 case assign =>
  intro l x W K hK
  gi_wp2
  exact hK
 case body =>
  rintro l pre x V ⟨⟨⟨⟨bD,bX⟩,bY,bQ⟩,bR⟩,hB⟩ hlt;have hr:=axn hS s d pre;have hxx:=x.2;have hn2:1<=n-1-1:=by omega
  have hsn:=aks nx s d pre x;generalize zg nx s d pre=st at *
  obtain⟨q,r⟩:=st;dsimp only at bQ bR hr hsn;have hnext:=hS.next l (n-1-1-1) r (BP s x.1) d V (hS.keep _ _ hG hB) (axm s x.1 hxx) hr hd
  have e0:=wB bR 0 rfl;have e1:=wB bR 1 rfl;have e2:=wB bD 0 rfl;have e3:=wB bD 1 rfl;obtain⟨r',once,hnx⟩:∃ a b,nx r (BP s x.1) d=(a,b):=⟨_,_,rfl⟩;rw[hnx] at hnext hsn;dsimp only at hnext hsn
  cases once with
  | false =>
   gi_wp2_with (gi_at_call 220;refine hnext.mono ?_;rintro e w3 ⟨rfl,hw3⟩;have g0:=xK bR hw3;have k0:=wB g0 0 rfl;have k1:=wB g0 1 rfl;have k2:=xn g0 0;have k3:=xn g0 1)
   have hk3:KeepsOthers V w3:=⟨hw3.size,λk o hk _=>xK hk hw3⟩;rw[if_neg Bool.false_ne_true] at hsn;refine⟨((hk3.trans (KeepsOthers.setCell _ _ _)).trans (KeepsOthers.setCell _ _ _)).from _,λo ho hh=>wL (wL (xK hh hw3) _ _ (by show w'.heap.size≠w.heap.size+1+1+1+1+1;omega)) _ _ (by show w'.heap.size≠w.heap.size+1+1+1+1+1;omega),⟨⟨⟨?_,?_⟩,?_,?_⟩,?_⟩,?_⟩
   ·exact wL (wL (xK bD hw3) _ _ (by show w.heap.size+1≠w.heap.size+1+1+1+1+1;omega)) _ _ (by show w.heap.size+1≠w.heap.size+1+1+1+1+1;omega)
   ·exact wL (wL (xK bX hw3) _ _ (by show w.heap.size+1+1≠w.heap.size+1+1+1+1+1;omega)) _ _ (by show w.heap.size+1+1≠w.heap.size+1+1+1+1+1;omega)
   ·exact wL (wL (xK bY hw3) _ _ (by show w.heap.size+1+1+1≠w.heap.size+1+1+1+1+1;omega)) _ _ (by show w.heap.size+1+1+1≠w.heap.size+1+1+1+1+1;omega)
   ·rw[hsn];exact wL (wL (xK bQ hw3) _ _ (by show w.heap.size+1+1+1+1≠w.heap.size+1+1+1+1+1;omega)) _ _ (by show w.heap.size+1+1+1+1≠w.heap.size+1+1+1+1+1;omega)
   ·rw[hsn];exact heap_set (heap_set g0 _) _
   ·show vY w _;exact vY.set (vY.set (vY.trans hB hw3) (by show w.heap.size<=w.heap.size+1+1+1+1+1;omega) _) (by show w.heap.size<=w.heap.size+1+1+1+1+1;omega) _
  | true =>
   gi_wp2_with (gi_at_call 220;refine hnext.mono ?_;rintro e w3 ⟨rfl,hw3⟩;have g0:=xK bR hw3;have k0:=wB g0 0 rfl;have k1:=wB g0 1 rfl;have k2:=xn g0 0;have k3:=xn g0 1)
   have hk3:KeepsOthers V w3:=⟨hw3.size,λk o hk _=>xK hk hw3⟩;rw[if_pos trivial] at hsn;obtain⟨V4,hV4⟩:∃ V4,V4=(w3.setCell ⟨w.heap.size+1+1+1+1+1,0,none⟩ (.int .u64 (wd r' 1))).setCell ⟨w.heap.size+1+1+1+1+1,1,none⟩ (.int .u64 (wd r' 0)):=⟨_,rfl⟩;rw[<- hV4];have cD:V4.heap[w.heap.size+1]? = some (.cells #[.int .u64 (wd d 1),.int .u64 (wd d 0)] 25 (0,0)):=by rw[hV4];exact wL (wL (xK bD hw3) _ _ (by show w.heap.size+1≠w.heap.size+1+1+1+1+1;omega)) _ _ (by show w.heap.size+1≠w.heap.size+1+1+1+1+1;omega)
   have cX:V4.heap[w.heap.size+1+1]? = some (.cells #[.int .u64 0,.int .u64 0,.int .u64 0,.int .u64 0] 188 (0,0)):=by rw[hV4];exact wL (wL (xK bX hw3) _ _ (by show w.heap.size+1+1≠w.heap.size+1+1+1+1+1;omega)) _ _ (by show w.heap.size+1+1≠w.heap.size+1+1+1+1+1;omega)
   have cY:V4.heap[w.heap.size+1+1+1]? = some (.cells #[.int .u64 0,.int .u64 0] 25 (0,0)):=by rw[hV4];exact wL (wL (xK bY hw3) _ _ (by show w.heap.size+1+1+1≠w.heap.size+1+1+1+1+1;omega)) _ _ (by show w.heap.size+1+1+1≠w.heap.size+1+1+1+1+1;omega)
   have cQ:V4.heap[w.heap.size+1+1+1+1]? = some (.cells #[.int .u64 (wd q 0),.int .u64 (wd q 1),.int .u64 (wd q 2),.int .u64 (wd q 3)] 188 (0,0)):=by rw[hV4];exact wL (wL (xK bQ hw3) _ _ (by show w.heap.size+1+1+1+1≠w.heap.size+1+1+1+1+1;omega)) _ _ (by show w.heap.size+1+1+1+1≠w.heap.size+1+1+1+1+1;omega)
   have cR:V4.heap[w.heap.size+1+1+1+1+1]? = some (.cells #[.int .u64 (wd r' 1),.int .u64 (wd r' 0)] 25 (0,0)):=by rw[hV4];exact heap_set (heap_set g0 _) _
   have cB:vY w V4:=by rw[hV4];exact vY.set (vY.set (vY.trans hB hw3) (by show w.heap.size<=w.heap.size+1+1+1+1+1;omega) _) (by show w.heap.size<=w.heap.size+1+1+1+1+1;omega) _
   have cK:KeepsOthers V V4:=by rw[hV4];exact(hk3.trans (KeepsOthers.setCell _ _ _)).trans (KeepsOthers.setCell _ _ _)
   have cP:L6 w'.heap.size V V4:=λo ho hh=>by rw[hV4];exact wL (wL (xK hh hw3) _ _ (by show w'.heap.size≠w.heap.size+1+1+1+1+1;omega)) _ _ (by show w'.heap.size≠w.heap.size+1+1+1+1+1;omega)
   have hb63:=akq hxx;clear hV4;refine Kq (λ(L:Nat->Bool) (A:Act) (W:World)=>∃ u28 u29 u30 u31 u32 u33 u34 u35 u36:Value,A=⟨#[vW s,vB d,Value.pointer (some { block:=w.heap.size,off:=0 }),Value.pointer (some { block:=w.heap.size+1,off:=0 }),Value.pointer (some { block:=w.heap.size+1+1,off:=0 }),Value.pointer (some { block:=w.heap.size+1+1+1,off:=0 }),Value.bool false,Value.pointer (some { block:=w.heap.size+1+1+1+1,off:=0 }),Value.pointer (some { block:=w.heap.size+1+1+1+1+1,off:=0 }),Value.int IntKind.i64 (255 - ↑↑x),Value.int IntKind.u64 (BP s ↑x),Value.bool true,Value.agg #[Value.int IntKind.u64 (wd d 1),Value.int IntKind.u64 (wd d 0)],Value.bool false,undef,undef,Value.agg #[Value.int IntKind.u64 (wd s 0),Value.int IntKind.u64 (wd s 1),Value.int IntKind.u64 (wd s 2),Value.int IntKind.u64 (wd s 3)],Value.func (Fn.func 269) #[] #[Value.pointer (some { block:=w'.heap.size,off:=0 })],Value.int IntKind.i64 (255 - ↑↑x),Value.int IntKind.u64 (BP s ↑x),Value.tuple #[vB r',Value.bool true],Value.agg #[Value.int IntKind.u64 (wd r 1),Value.int IntKind.u64 (wd r 0)],Value.int IntKind.u64 (BP s ↑x),Value.agg #[Value.int IntKind.u64 (wd d 1),Value.int IntKind.u64 (wd d 0)],Value.tuple #[vB r',Value.bool true],vB r',Value.bool true,Value.bool true,u28,u29,u30,u31,u32,u33,u34,u35,u36,undef,undef],[]⟩/\vY w W/\KeepsOthers V W/\L6 w'.heap.size V W/\W.heap[w.heap.size+1]? = some (.cells #[.int .u64 (wd d 1),.int .u64 (wd d 0)] 25 (0,0))/\W.heap[w.heap.size+1+1]? = some (.cells #[.int .u64 0,.int .u64 0,.int .u64 0,.int .u64 0] 188 (0,0))/\W.heap[w.heap.size+1+1+1]? = some (.cells #[.int .u64 0,.int .u64 0] 25 (0,0))/\W.heap[w.heap.size+1+1+1+1]? = some (.cells (bif L 9 then(#[Value.int .u64 (wd q 0),.int .u64 (wd q 1),.int .u64 (wd q 2),.int .u64 (wd q 3)].setIfInBounds ((255-x.1)/64) (.int .u64 (bits .or .u64 (wd q ((255-x.1)/64)) (IntKind.u64.wrap (2^(((255-x.1:Nat):Int)%64).toNat))))) else #[.int .u64 (wd q 0),.int .u64 (wd q 1),.int .u64 (wd q 2),.int .u64 (wd q 3)]) 188 (0,0))/\W.heap[w.heap.size+1+1+1+1+1]? = some (.cells #[.int .u64 (wd r' 1),.int .u64 (wd r' 0)] 25 (0,0))/\(L 0=true->u28=Value.int IntKind.i64 (255 - ↑↑x))/\(L 1=true->u29 = .int .i64 ((255-(x.1:Int))/64))/\(L 2=true->u30 = .pointer (some ⟨w.heap.size+1+1+1+1,((255-x.1)/64),none⟩))/\(L 3=true->u31 = .int .u64 (wd q ((255-x.1)/64)))/\(L 4=true->u32=Value.int IntKind.i64 (255 - ↑↑x))/\(L 5=true->u33 = .int .i64 (((255-x.1:Nat):Int)%64))/\(L 6=true->u34 = .int .u64 (IntKind.u64.wrap (2^(((255-x.1:Nat):Int)%64).toNat)))/\(L 7=true->u35 = .int .u64 (bits .or .u64 (wd q ((255-x.1)/64)) (IntKind.u64.wrap (2^(((255-x.1:Nat):Int)%64).toNat))))/\(L 8=true->u36 = .pointer (some ⟨w.heap.size+1+1+1+1,((255-x.1)/64),none⟩))) (by kernel_rfl) (by kernel_rfl) ?h0 ⟨?s0,?s1,?s2,?s3,?s4,?s5,?s6,?s7,?s8,?s9,trivial⟩ ?hd
   case h0 =>
    exact⟨_,_,_,_,_,_,_,_,_,rfl,(vY.drew cB),⟨cK.size,cK.same⟩,(λo ho hh=>cP o ho hh),cD,cX,cY,cQ,cR,λh=>absurd h Bool.false_ne_true,λh=>absurd h Bool.false_ne_true,λh=>absurd h Bool.false_ne_true,λh=>absurd h Bool.false_ne_true,λh=>absurd h Bool.false_ne_true,λh=>absurd h Bool.false_ne_true,λh=>absurd h Bool.false_ne_true,λh=>absurd h Bool.false_ne_true,λh=>absurd h Bool.false_ne_true⟩
   case s0 =>
    rintro L _ W K ⟨u28,u29,u30,u31,u32,u33,u34,u35,u36,rfl,hb,x0,x1,c3,c4,c5,c7,c8,f0,f1,f2,f3,f4,f5,f6,f7,f8⟩ hL hD hN hK;refine xy (xx rfl) ?_
    go_simp
    refine hK _ _ ⟨_,_,_,_,_,_,_,_,_,rfl,hb,x0,x1,c3,c4,c5,c7,c8,λ_=>rfl,f1,f2,f3,f4,f5,f6,f7,f8⟩
   case s1 =>
    rintro L _ W K ⟨u28,u29,u30,u31,u32,u33,u34,u35,u36,rfl,hb,x0,x1,c3,c4,c5,c7,c8,f0,f1,f2,f3,f4,f5,f6,f7,f8⟩ hL hD hN hK;obtain rfl:=f0 (hD 0 (by kernel_rfl));refine xy (xx rfl) ?_
    go_simp
    refine hK _ _ ⟨_,_,_,_,_,_,_,_,_,rfl,hb,x0,x1,c3,c4,c5,c7,c8,f0,λ_=>rfl,f2,f3,f4,f5,f6,f7,f8⟩
   case s2 =>
    rintro L _ W K ⟨u28,u29,u30,u31,u32,u33,u34,u35,u36,rfl,hb,x0,x1,c3,c4,c5,c7,c8,f0,f1,f2,f3,f4,f5,f6,f7,f8⟩ hL hD hN hK;obtain rfl:=f1 (hD 1 (by kernel_rfl));refine xy (xx rfl) ?_;have hq1:(0:Int)<=(255-(x.1:Int))/64:=by omega
    have hq3:(255-(x.1:Int))/64<4:=by omega
    have hq2:((255-(x.1:Int))/64).toNat=(255-x.1)/64:=by omega
    go_simp
    refine hK _ _ ⟨_,_,_,_,_,_,_,_,_,rfl,hb,x0,x1,c3,c4,c5,c7,c8,f0,f1,λ_=>rfl,f3,f4,f5,f6,f7,f8⟩
   case s3 =>
    rintro L _ W K ⟨u28,u29,u30,u31,u32,u33,u34,u35,u36,rfl,hb,x0,x1,c3,c4,c5,c7,c8,f0,f1,f2,f3,f4,f5,f6,f7,f8⟩ hL hD hN hK;obtain rfl:=f2 (hD 2 (by kernel_rfl));refine xy (xx rfl) ?_;have hz:L 9=false:=hN 9 _ rfl (by kernel_rfl);have d7:=c7;rw[hz] at d7;have e0:=wB d7 ((255-x.1)/64) (Tt q ⟨(255-x.1)/64,by omega⟩);have hf:=xn d7 ((255-x.1)/64)
    go_simp
    refine hK _ _ ⟨_,_,_,_,_,_,_,_,_,rfl,hb,x0,x1,c3,c4,c5,c7,c8,f0,f1,f2,λ_=>rfl,f4,f5,f6,f7,f8⟩
   case s4 =>
    rintro L _ W K ⟨u28,u29,u30,u31,u32,u33,u34,u35,u36,rfl,hb,x0,x1,c3,c4,c5,c7,c8,f0,f1,f2,f3,f4,f5,f6,f7,f8⟩ hL hD hN hK;refine xy (xx rfl) ?_
    go_simp
    refine hK _ _ ⟨_,_,_,_,_,_,_,_,_,rfl,hb,x0,x1,c3,c4,c5,c7,c8,f0,f1,f2,f3,λ_=>rfl,f5,f6,f7,f8⟩
   case s5 =>
    rintro L _ W K ⟨u28,u29,u30,u31,u32,u33,u34,u35,u36,rfl,hb,x0,x1,c3,c4,c5,c7,c8,f0,f1,f2,f3,f4,f5,f6,f7,f8⟩ hL hD hN hK;obtain rfl:=f4 (hD 4 (by kernel_rfl));refine xy (xx rfl) ?_
    go_simp
    refine hK _ _ ⟨_,_,_,_,_,_,_,_,_,rfl,hb,x0,x1,c3,c4,c5,c7,c8,f0,f1,f2,f3,f4,λ_=>rfl,f6,f7,f8⟩
   case s6 =>
    rintro L _ W K ⟨u28,u29,u30,u31,u32,u33,u34,u35,u36,rfl,hb,x0,x1,c3,c4,c5,c7,c8,f0,f1,f2,f3,f4,f5,f6,f7,f8⟩ hL hD hN hK;obtain rfl:=f5 (hD 5 (by kernel_rfl));refine xy (xx rfl) ?_
    go_simp
    refine hK _ _ ⟨_,_,_,_,_,_,_,_,_,rfl,hb,x0,x1,c3,c4,c5,c7,c8,f0,f1,f2,f3,f4,f5,λ_=>rfl,f7,f8⟩
   case s7 =>
    rintro L _ W K ⟨u28,u29,u30,u31,u32,u33,u34,u35,u36,rfl,hb,x0,x1,c3,c4,c5,c7,c8,f0,f1,f2,f3,f4,f5,f6,f7,f8⟩ hL hD hN hK;obtain rfl:=f3 (hD 3 (by kernel_rfl));obtain rfl:=f6 (hD 6 (by kernel_rfl));refine xy (xx rfl) ?_
    go_simp
    refine hK _ _ ⟨_,_,_,_,_,_,_,_,_,rfl,hb,x0,x1,c3,c4,c5,c7,c8,f0,f1,f2,f3,f4,f5,f6,λ_=>rfl,f8⟩
   case s8 =>
    rintro L _ W K ⟨u28,u29,u30,u31,u32,u33,u34,u35,u36,rfl,hb,x0,x1,c3,c4,c5,c7,c8,f0,f1,f2,f3,f4,f5,f6,f7,f8⟩ hL hD hN hK;obtain rfl:=f1 (hD 1 (by kernel_rfl));refine xy (xx rfl) ?_;have hq1:(0:Int)<=(255-(x.1:Int))/64:=by omega
    have hq3:(255-(x.1:Int))/64<4:=by omega
    have hq2:((255-(x.1:Int))/64).toNat=(255-x.1)/64:=by omega
    go_simp
    refine hK _ _ ⟨_,_,_,_,_,_,_,_,_,rfl,hb,x0,x1,c3,c4,c5,c7,c8,f0,f1,f2,f3,f4,f5,f6,f7,λ_=>rfl⟩
   case s9 =>
    rintro L _ W K ⟨u28,u29,u30,u31,u32,u33,u34,u35,u36,rfl,hb,x0,x1,c3,c4,c5,c7,c8,f0,f1,f2,f3,f4,f5,f6,f7,f8⟩ hL hD hN hK;obtain rfl:=f8 (hD 8 (by kernel_rfl));obtain rfl:=f7 (hD 7 (by kernel_rfl));refine xy (xx rfl) ?_;have hz:L 9=false:=hL;rw[hz] at c7;have e0:=wB c7 ((255-x.1)/64) (Tt q ⟨(255-x.1)/64,by omega⟩);have h0:=xn c7 ((255-x.1)/64)
    go_simp
    refine hK _ _ ⟨_,_,_,_,_,_,_,_,_,rfl,(vY.set hb (by omega) _),(x0.trans (KeepsOthers.setCell _ _ _)),(λo ho hh=>wL (x1 o ho hh) _ _ (by show w'.heap.size≠w.heap.size+1+1+1+1;omega)),(wL c3 _ _ (show w.heap.size+1≠w.heap.size+1+1+1+1 by omega)),(wL c4 _ _ (show w.heap.size+1+1≠w.heap.size+1+1+1+1 by omega)),(wL c5 _ _ (show w.heap.size+1+1+1≠w.heap.size+1+1+1+1 by omega)),(heap_set c7 _),(wL c8 _ _ (show w.heap.size+1+1+1+1+1≠w.heap.size+1+1+1+1 by omega)),f0,f1,f2,f3,f4,f5,f6,f7,f8⟩
   case hd =>
    rintro L _ W ⟨u28,u29,u30,u31,u32,u33,u34,u35,u36,rfl,hb,x0,x1,c3,c4,c5,c7,c8,f0,f1,f2,f3,f4,f5,f6,f7,f8⟩ hall;rw[hall 9 (by decide)] at c7;obtain rfl:=f0 (hall 0 (by decide));obtain rfl:=f1 (hall 1 (by decide));obtain rfl:=f2 (hall 2 (by decide));obtain rfl:=f3 (hall 3 (by decide));obtain rfl:=f4 (hall 4 (by decide));obtain rfl:=f5 (hall 5 (by decide));obtain rfl:=f6 (hall 6 (by decide));obtain rfl:=f7 (hall 7 (by decide));obtain rfl:=f8 (hall 8 (by decide))
    gi_wp2
    refine⟨x0.from _,x1,⟨⟨⟨⟨c3,c4⟩,c5,?_⟩,?_⟩,hb⟩⟩
    ·rw[hsn];rw[axl (by omega)] at c7;exact c7
    ·rw[hsn];exact c8
 case done =>
  rintro D ys V hD rfl ⟨⟨⟨⟨bD,bX⟩,bY,bQ⟩,bR⟩,hB⟩ hK;generalize hst:zg nx s d (CE 256)=st at *
  obtain⟨q,r⟩:=st;dsimp only at bQ bR ⊢;have hD':w.heap.size+1+1+1+1+1+1<=D:=by have:(w'.alloc (.cells #[.int .u64 (wd s 0),.int .u64 (wd s 1),.int .u64 (wd s 2),.int .u64 (wd s 3)] 188)).heap.size<=D:=hD;simp at this;omega
  gi_wp2
  refine Kq (λ(L:Nat->Bool) (A:Act) (W:World)=>∃ u37 u38 u6:Value,A=⟨#[vW s,vB d,Value.pointer (some { block:=w.heap.size,off:=0 }),Value.pointer (some { block:=w.heap.size+1,off:=0 }),Value.pointer (some { block:=w.heap.size+1+1,off:=0 }),Value.pointer (some { block:=w.heap.size+1+1+1,off:=0 }),u6,Value.pointer (some { block:=w.heap.size+1+1+1+1,off:=0 }),Value.pointer (some { block:=w.heap.size+1+1+1+1+1,off:=0 }),undef,undef,undef,Value.agg #[Value.int IntKind.u64 (wd d 1),Value.int IntKind.u64 (wd d 0)],Value.bool false,undef,undef,Value.agg #[Value.int IntKind.u64 (wd s 0),Value.int IntKind.u64 (wd s 1),Value.int IntKind.u64 (wd s 2),Value.int IntKind.u64 (wd s 3)],Value.func (Fn.func 269) #[] #[Value.pointer (some { block:=w'.heap.size,off:=0 })],undef,undef,undef,undef,undef,undef,undef,undef,undef,undef,undef,undef,undef,undef,undef,undef,undef,undef,undef,u37,u38],[{ target:=Target.collected D,args:=#[] }]⟩/\vY w W/\W.heap[D]? = some (.deferred (some []))/\W.heap[w.heap.size+1+1]? = some (.cells (bif L 2 then #[.int .u64 (wd q 0),.int .u64 (wd q 1),.int .u64 (wd q 2),.int .u64 (wd q 3)] else #[.int .u64 0,.int .u64 0,.int .u64 0,.int .u64 0]) 188 (0,0))/\W.heap[w.heap.size+1+1+1]? = some (.cells (bif L 3 then #[.int .u64 (wd r 1),.int .u64 (wd r 0)] else #[.int .u64 0,.int .u64 0]) 25 (0,0))/\W.heap[w.heap.size+1+1+1+1]? = some (.cells #[.int .u64 (wd q 0),.int .u64 (wd q 1),.int .u64 (wd q 2),.int .u64 (wd q 3)] 188 (0,0))/\W.heap[w.heap.size+1+1+1+1+1]? = some (.cells #[.int .u64 (wd r 1),.int .u64 (wd r 0)] 25 (0,0))/\(L 0=true->u37 = .agg #[.int .u64 (wd q 0),.int .u64 (wd q 1),.int .u64 (wd q 2),.int .u64 (wd q 3)])/\(L 1=true->u38 = .agg #[.int .u64 (wd r 1),.int .u64 (wd r 0)])/\(L 4=true->u6=(Value.bool true))) (by kernel_rfl) (by kernel_rfl) ?h0 ⟨?s0,?s1,?s2,?s3,?s4,trivial⟩ ?hd
  case h0 =>
   exact⟨_,_,_,rfl,(vY.drew hB),hK,bX,bY,bQ,bR,λh=>absurd h Bool.false_ne_true,λh=>absurd h Bool.false_ne_true,λh=>absurd h Bool.false_ne_true⟩
  case s0 =>
   rintro L _ W K ⟨u37,u38,u6,rfl,hb,x0,c4,c5,c7,c8,f0,f1,f4⟩ hL hD hN hK;refine xy (xx rfl) ?_;have e0:=wB c7 0 rfl;have e1:=wB c7 1 rfl;have e2:=wB c7 2 rfl;have e3:=wB c7 3 rfl;have hf:=xn c7 0
   go_simp
   refine hK _ _ ⟨_,_,_,rfl,hb,x0,c4,c5,c7,c8,λ_=>rfl,f1,f4⟩
  case s1 =>
   rintro L _ W K ⟨u37,u38,u6,rfl,hb,x0,c4,c5,c7,c8,f0,f1,f4⟩ hL hD hN hK;refine xy (xx rfl) ?_;have e0:=wB c8 0 rfl;have e1:=wB c8 1 rfl;have hf:=xn c8 0
   go_simp
   refine hK _ _ ⟨_,_,_,rfl,hb,x0,c4,c5,c7,c8,f0,λ_=>rfl,f4⟩
  case s2 =>
   rintro L _ W K ⟨u37,u38,u6,rfl,hb,x0,c4,c5,c7,c8,f0,f1,f4⟩ hL hD hN hK;obtain rfl:=f0 (hD 0 (by kernel_rfl));refine xy (xx rfl) ?_;have hz:L 2=false:=hL;rw[hz] at c4;have e0:=wB c4 0 (rfl);have h0:=xn c4 0;have e1:=wB c4 1 (rfl);have h1:=xn c4 1;have e2:=wB c4 2 (rfl);have h2:=xn c4 2;have e3:=wB c4 3 (rfl);have h3:=xn c4 3
   go_simp
   refine hK _ _ ⟨_,_,_,rfl,(vY.set (vY.set (vY.set (vY.set hb (by omega) _) (by omega) _) (by omega) _) (by omega) _),(wL (wL (wL (wL x0 _ _ (by first|(show D≠w.heap.size+1+1;omega)|(show D≠w.heap.size+1+1+1;omega))) _ _ (by first|(show D≠w.heap.size+1+1;omega)|(show D≠w.heap.size+1+1+1;omega))) _ _ (by first|(show D≠w.heap.size+1+1;omega)|(show D≠w.heap.size+1+1+1;omega))) _ _ (by first|(show D≠w.heap.size+1+1;omega)|(show D≠w.heap.size+1+1+1;omega))),(heap_set (heap_set (heap_set (heap_set c4 _) _) _) _),(wL (wL (wL (wL c5 _ _ (show w.heap.size+1+1+1≠w.heap.size+1+1 by omega)) _ _ (show w.heap.size+1+1+1≠w.heap.size+1+1 by omega)) _ _ (show w.heap.size+1+1+1≠w.heap.size+1+1 by omega)) _ _ (show w.heap.size+1+1+1≠w.heap.size+1+1 by omega)),(wL (wL (wL (wL c7 _ _ (show w.heap.size+1+1+1+1≠w.heap.size+1+1 by omega)) _ _ (show w.heap.size+1+1+1+1≠w.heap.size+1+1 by omega)) _ _ (show w.heap.size+1+1+1+1≠w.heap.size+1+1 by omega)) _ _ (show w.heap.size+1+1+1+1≠w.heap.size+1+1 by omega)),(wL (wL (wL (wL c8 _ _ (show w.heap.size+1+1+1+1+1≠w.heap.size+1+1 by omega)) _ _ (show w.heap.size+1+1+1+1+1≠w.heap.size+1+1 by omega)) _ _ (show w.heap.size+1+1+1+1+1≠w.heap.size+1+1 by omega)) _ _ (show w.heap.size+1+1+1+1+1≠w.heap.size+1+1 by omega)),f0,f1,f4⟩
  case s3 =>
   rintro L _ W K ⟨u37,u38,u6,rfl,hb,x0,c4,c5,c7,c8,f0,f1,f4⟩ hL hD hN hK;obtain rfl:=f1 (hD 1 (by kernel_rfl));refine xy (xx rfl) ?_;have hz:L 3=false:=hL;rw[hz] at c5;have e0:=wB c5 0 (rfl);have h0:=xn c5 0;have e1:=wB c5 1 (rfl);have h1:=xn c5 1
   go_simp
   refine hK _ _ ⟨_,_,_,rfl,(vY.set (vY.set hb (by omega) _) (by omega) _),(wL (wL x0 _ _ (by first|(show D≠w.heap.size+1+1;omega)|(show D≠w.heap.size+1+1+1;omega))) _ _ (by first|(show D≠w.heap.size+1+1;omega)|(show D≠w.heap.size+1+1+1;omega))),(wL (wL c4 _ _ (show w.heap.size+1+1≠w.heap.size+1+1+1 by omega)) _ _ (show w.heap.size+1+1≠w.heap.size+1+1+1 by omega)),(heap_set (heap_set c5 _) _),(wL (wL c7 _ _ (show w.heap.size+1+1+1+1≠w.heap.size+1+1+1 by omega)) _ _ (show w.heap.size+1+1+1+1≠w.heap.size+1+1+1 by omega)),(wL (wL c8 _ _ (show w.heap.size+1+1+1+1+1≠w.heap.size+1+1+1 by omega)) _ _ (show w.heap.size+1+1+1+1+1≠w.heap.size+1+1+1 by omega)),f0,f1,f4⟩
  case s4 =>
   rintro L _ W K ⟨u37,u38,u6,rfl,hb,x0,c4,c5,c7,c8,f0,f1,f4⟩ hL hD hN hK;refine xy (xx rfl) ?_
   go_simp
   refine hK _ _ ⟨_,_,_,rfl,hb,x0,c4,c5,c7,c8,f0,f1,λ_=>rfl⟩
  case hd =>
   rintro L _ W ⟨u37,u38,u6,rfl,hb,x0,c4,c5,c7,c8,f0,f1,f4⟩ hall;rw[hall 2 (by decide)] at c4;rw[hall 3 (by decide)] at c5;obtain rfl:=f0 (hall 0 (by decide));obtain rfl:=f1 (hall 1 (by decide));obtain rfl:=f4 (hall 4 (by decide))
   gi_wp2
   refine⟨by simp,.inl ⟨_,_,rfl,run_takeDeferred x0,?_⟩⟩;have cX:(W.putObj D (.deferred none)).heap[w.heap.size+1+1]? = _:=(World.putObj_heap_other (by omega)).trans c4;have cY:(W.putObj D (.deferred none)).heap[w.heap.size+1+1+1]? = _:=(World.putObj_heap_other (by omega)).trans c5;have q0:=wB cX 0 rfl;have q1:=wB cX 1 rfl;have q2:=wB cX 2 rfl;have q3:=wB cX 3 rfl;have q4:=wB cY 0 rfl;have q5:=wB cY 1 rfl;exact⟨_,by simp[results,results146,go_sem,q0,q1,q2,q3,q4,q5],rfl,Below.trans hb (belowK_b (w:=w) (Nat.le_refl _) W D _ _ (by omega) x0 rfl rfl)⟩
 case stop =>
  rintro D c pre W _ _ h _;exact h.elim
theorem axp {Gw:World->Prop} {nx:Nat->Int->Nat->Nat×Bool} (F:Fence) (hS:Yb Gw nx F) (n:Nat) (h1:F.fn 146) (h4:F.fn 48) (hro:F.round=none) (hn:3<=n) (s:Nat) (w:World) (hG:Gw w) :
  CallsIn F n prog 146 #[vW s,vB 0] w λe w'=>e = .returned (.tuple #[vW 0,vB 0,.bool false])/\vY w w':=by
 have hn1:1<=n:=by omega
 have hz:=hS.zero;have zw:∀ j,wd 0 j=0:=λj=>by unfold wd;simp
 refine callsIn_of_wp func146 rfl h1 ?_ hro;simp only[ntmps146,List.size_toArray,List.length_cons,List.length_nil,Nat.reduceAdd,Nat.reduceSub,Array.replicate_succ,Array.replicate_zero,List.push_toArray,List.append_toArray,List.nil_append,List.cons_append]
 gi_wp2_with (gi_at_call 48;refine(hz (n-1) 0 _ (hS.keep _ _ hG ((((((vY.refl w).alloc _).alloc _).alloc _).alloc _).alloc _ |>.alloc _)) (by decide)).mono ?_;rintro e w' ⟨rfl,hw⟩)
 have bX:w'.heap[w.heap.size+1+1]? = some (.cells #[.int .u64 0,.int .u64 0,.int .u64 0,.int .u64 0] 188 (0,0)):=xK (heap_alloc (heap_alloc (heap_alloc (EO _ _ _ _) _) _) _) hw;have bY:w'.heap[w.heap.size+1+1+1]? = some (.cells #[.int .u64 0,.int .u64 0] 25 (0,0)):=xK (heap_alloc (heap_alloc (Vw _ _ _ _ _) _) _) hw;have bQ:w'.heap[w.heap.size+1+1+1+1]? = some (.cells #[.int .u64 0,.int .u64 0,.int .u64 0,.int .u64 0] 188 (0,0)):=xK (heap_alloc (Vx _ _ _ _ _ _) _) hw;have bR:w'.heap[w.heap.size+1+1+1+1+1]? = some (.cells #[.int .u64 0,.int .u64 0] 25 (0,0)):=xK (Vy _ _ _ _ _ _ _) hw;have hB:vY w w':=(((((((vY.refl w).alloc _).alloc _).alloc _).alloc _).alloc _).alloc _).trans hw;refine Kq (λ(L:Nat->Bool) (A:Act) (W:World)=>∃ u14 u15 u6:Value,A=⟨#[vW s,vB 0,Value.pointer (some { block:=w.heap.size,off:=0 }),Value.pointer (some { block:=w.heap.size+1,off:=0 }),Value.pointer (some { block:=w.heap.size+1+1,off:=0 }),Value.pointer (some { block:=w.heap.size+1+1+1,off:=0 }),u6,Value.pointer (some { block:=w.heap.size+1+1+1+1,off:=0 }),Value.pointer (some { block:=w.heap.size+1+1+1+1+1,off:=0 }),undef,undef,undef,Value.agg #[Value.int IntKind.u64 0,Value.int IntKind.u64 0],Value.bool true,u14,u15,undef,undef,undef,undef,undef,undef,undef,undef,undef,undef,undef,undef,undef,undef,undef,undef,undef,undef,undef,undef,undef,undef,undef],[]⟩/\vY w W/\W.heap[w.heap.size+1+1]? = some (.cells (bif L 2 then #[.int .u64 0,.int .u64 0,.int .u64 0,.int .u64 0] else #[.int .u64 0,.int .u64 0,.int .u64 0,.int .u64 0]) 188 (0,0))/\W.heap[w.heap.size+1+1+1]? = some (.cells (bif L 3 then #[.int .u64 0,.int .u64 0] else #[.int .u64 0,.int .u64 0]) 25 (0,0))/\W.heap[w.heap.size+1+1+1+1]? = some (.cells #[.int .u64 0,.int .u64 0,.int .u64 0,.int .u64 0] 188 (0,0))/\W.heap[w.heap.size+1+1+1+1+1]? = some (.cells #[.int .u64 0,.int .u64 0] 25 (0,0))/\(L 0=true->u14 = .agg #[.int .u64 0,.int .u64 0,.int .u64 0,.int .u64 0])/\(L 1=true->u15 = .agg #[.int .u64 0,.int .u64 0])/\(L 4=true->u6=(Value.bool false))) (by kernel_rfl) (by kernel_rfl) ?h0 ⟨?s0,?s1,?s2,?s3,?s4,trivial⟩ ?hd
 case h0 =>
  exact⟨_,_,_,rfl,(vY.drew hB),bX,bY,bQ,bR,λh=>absurd h Bool.false_ne_true,λh=>absurd h Bool.false_ne_true,λh=>absurd h Bool.false_ne_true⟩
 case s0 =>
  rintro L _ W K ⟨u14,u15,u6,rfl,hb,c4,c5,c7,c8,f0,f1,f4⟩ hL hD hN hK;refine xy (xx rfl) ?_;have e0:=wB c7 0 rfl;have e1:=wB c7 1 rfl;have e2:=wB c7 2 rfl;have e3:=wB c7 3 rfl;have hf:=xn c7 0
  go_simp
  refine hK _ _ ⟨_,_,_,rfl,hb,c4,c5,c7,c8,λ_=>rfl,f1,f4⟩
 case s1 =>
  rintro L _ W K ⟨u14,u15,u6,rfl,hb,c4,c5,c7,c8,f0,f1,f4⟩ hL hD hN hK;refine xy (xx rfl) ?_;have e0:=wB c8 0 rfl;have e1:=wB c8 1 rfl;have hf:=xn c8 0
  go_simp
  refine hK _ _ ⟨_,_,_,rfl,hb,c4,c5,c7,c8,f0,λ_=>rfl,f4⟩
 case s2 =>
  rintro L _ W K ⟨u14,u15,u6,rfl,hb,c4,c5,c7,c8,f0,f1,f4⟩ hL hD hN hK;obtain rfl:=f0 (hD 0 (by kernel_rfl));refine xy (xx rfl) ?_;have hz:L 2=false:=hL;rw[hz] at c4;have e0:=wB c4 0 (rfl);have h0:=xn c4 0;have e1:=wB c4 1 (rfl);have h1:=xn c4 1;have e2:=wB c4 2 (rfl);have h2:=xn c4 2;have e3:=wB c4 3 (rfl);have h3:=xn c4 3
  go_simp
  refine hK _ _ ⟨_,_,_,rfl,(vY.set (vY.set (vY.set (vY.set hb (by omega) _) (by omega) _) (by omega) _) (by omega) _),(heap_set (heap_set (heap_set (heap_set c4 _) _) _) _),(wL (wL (wL (wL c5 _ _ (show w.heap.size+1+1+1≠w.heap.size+1+1 by omega)) _ _ (show w.heap.size+1+1+1≠w.heap.size+1+1 by omega)) _ _ (show w.heap.size+1+1+1≠w.heap.size+1+1 by omega)) _ _ (show w.heap.size+1+1+1≠w.heap.size+1+1 by omega)),(wL (wL (wL (wL c7 _ _ (show w.heap.size+1+1+1+1≠w.heap.size+1+1 by omega)) _ _ (show w.heap.size+1+1+1+1≠w.heap.size+1+1 by omega)) _ _ (show w.heap.size+1+1+1+1≠w.heap.size+1+1 by omega)) _ _ (show w.heap.size+1+1+1+1≠w.heap.size+1+1 by omega)),(wL (wL (wL (wL c8 _ _ (show w.heap.size+1+1+1+1+1≠w.heap.size+1+1 by omega)) _ _ (show w.heap.size+1+1+1+1+1≠w.heap.size+1+1 by omega)) _ _ (show w.heap.size+1+1+1+1+1≠w.heap.size+1+1 by omega)) _ _ (show w.heap.size+1+1+1+1+1≠w.heap.size+1+1 by omega)),f0,f1,f4⟩
 case s3 =>
  rintro L _ W K ⟨u14,u15,u6,rfl,hb,c4,c5,c7,c8,f0,f1,f4⟩ hL hD hN hK;obtain rfl:=f1 (hD 1 (by kernel_rfl));refine xy (xx rfl) ?_;have hz:L 3=false:=hL;rw[hz] at c5;have e0:=wB c5 0 (rfl);have h0:=xn c5 0;have e1:=wB c5 1 (rfl);have h1:=xn c5 1
  go_simp
  refine hK _ _ ⟨_,_,_,rfl,(vY.set (vY.set hb (by omega) _) (by omega) _),(wL (wL c4 _ _ (show w.heap.size+1+1≠w.heap.size+1+1+1 by omega)) _ _ (show w.heap.size+1+1≠w.heap.size+1+1+1 by omega)),(heap_set (heap_set c5 _) _),(wL (wL c7 _ _ (show w.heap.size+1+1+1+1≠w.heap.size+1+1+1 by omega)) _ _ (show w.heap.size+1+1+1+1≠w.heap.size+1+1+1 by omega)),(wL (wL c8 _ _ (show w.heap.size+1+1+1+1+1≠w.heap.size+1+1+1 by omega)) _ _ (show w.heap.size+1+1+1+1+1≠w.heap.size+1+1+1 by omega)),f0,f1,f4⟩
 case s4 =>
  rintro L _ W K ⟨u14,u15,u6,rfl,hb,c4,c5,c7,c8,f0,f1,f4⟩ hL hD hN hK;refine xy (xx rfl) ?_
  go_simp
  refine hK _ _ ⟨_,_,_,rfl,hb,c4,c5,c7,c8,f0,f1,λ_=>rfl⟩
 case hd =>
  rintro L _ W ⟨u14,u15,u6,rfl,hb,c4,c5,c7,c8,f0,f1,f4⟩ hall;rw[hall 2 (by decide)] at c4;rw[hall 3 (by decide)] at c5;obtain rfl:=f0 (hall 0 (by decide));obtain rfl:=f1 (hall 1 (by decide));obtain rfl:=f4 (hall 4 (by decide));have q0:=wB c4 0 rfl;have q1:=wB c4 1 rfl;have q2:=wB c4 2 rfl;have q3:=wB c4 3 rfl;have q4:=wB c5 0 rfl;have q5:=wB c5 1 rfl
  gi_wp2
  exact⟨rfl,.tuple #[.agg #[.int .u64 0,.int .u64 0,.int .u64 0,.int .u64 0],.agg #[.int .u64 0,.int .u64 0],.bool false],by simp[results,results146,go_sem,q0,q1,q2,q3,q4,q5],by simp only[vW,vB,zw],hb⟩
def CY (r x d:Nat):Nat×Bool:=if d<=2*r+x then(2*r+x-d,true) else(2*r+x,false)
theorem or_bit (n x:Nat) (hn:n%2=0) (hx:x<2):n|||x=n+x:=by
 rcases(show x=0\/x=1 by omega) with rfl|rfl
 ·simp
 ·have:=Nat.two_pow_add_eq_or_of_lt (i:=1) (b:=1) (by decide) (n/2);rw[show 2^1*(n/2)=n by rw[Nat.pow_one];omega] at this;exact this.symm
theorem akt (r x d:Nat) (hd:d<wy) (hr:r<d) (hx:x<2):NF [wd r 1,wd r 0,(x:Int),wd d 1,wd d 0]=oB (CY r x d).1 ++ [wh (CY r x d).2]:=by
 refine Eq.trans ?_ (show(λp:Nat×Bool=>oB p.1 ++ [wh p.2]) (CY r x d)=_ from rfl);have hrW:r<wy:=Nat.lt_trans hr hd;have w64:=CW;have ux:u64 (x:Int)=(x:Int):=Hd x (by omega)
 have hor:wJ .or .u64 (wd (r+r) 0) (x:Int)=wd (r+r+x) 0:=by rw[zz,zz,WV _ _ (Nat.mod_lt _ zu) (by omega),Nat.pow_zero,Nat.div_one,Nat.div_one,or_bit _ _ (by rw[w64];omega) hx];congr 1;rw[w64];omega
 have hhi:wd (r+r) 1=wd (r+r+x) 1:=by rw[zz,zz,Nat.pow_one];congr 2;rw[w64];omega
 have hT:nB (wd (r+r) 1) (wd (r+r+x) 0)=(r+r+x)%wy:=by rw[hhi,PN]
 rw[NF,adt];refine(vX (r:=[wd (r+r) 1,wd (r+r) 0,wh (decide (wy<=r+r))]) ?_ rfl).trans ?_
 ·simp only[vS,avx];rw[ahM,yH hrW]
 refine(vX (r:=[wd ((r+r+x)%wy+wy-d) 1,wd ((r+r+x)%wy+wy-d) 0,wh (decide ((r+r+x)%wy<d))]) ?_ rfl).trans ?_
 ·simp only[vS,avy,ux,hor];rw[aqL,hT,yH hd]
 rw[xg];simp only[xM,wV,wW,xQ,xR,xA,xC,zG,wP,decide_eq_true_iff];have w128:=PM;have hd':d<340282366920938463463374607431768211456:=by rw[<- w128];exact hd
 have key:∀ {a b:Nat},a%wy=b%wy->oB a=oB b:=λ{a b} h=>by rw[wS,wS,Ii a 1 (by decide) |>.symm,Ii a 0 (by decide) |>.symm,h,Ii b 1 (by decide),Ii b 0 (by decide)]
 unfold CY;by_cases hle:d<=2*r+x
 ·rw[if_pos hle];have e:oB ((r+r+x)%wy+wy-d)=oB (2*r+x-d):=key (by rw[w128];omega);rw[wS,wS] at e;by_cases hc:wy<=r+r
  ·rw[if_pos hc,wu rfl];simp only[vS];simp only[List.cons.injEq] at e;rw[e.1,e.2.1];rfl
  ·rw[if_neg hc,xg];simp only[xM,wV,wW,xQ,xR,xA,xC,Ey,zG,wP,Bool.not_eq_true',decide_eq_false_iff_not];rw[if_pos (by rw[Nat.mod_eq_of_lt (by omega)];omega),wu rfl];simp only[vS];simp only[List.cons.injEq] at e;rw[e.1,e.2.1];rfl
 ·rw[if_neg hle];rw[if_neg (show ¬ wy<=r+r by omega),xg];simp only[xM,wV,wW,xQ,xR,xA,xC,Ey,zG,wP,Bool.not_eq_true',decide_eq_false_iff_not];rw[if_neg (by rw[Nat.mod_eq_of_lt (by omega)];omega),wu rfl];simp only[vS,ux,hor];rw[hhi,show 2*r+x=r+r+x by omega];rfl
theorem axq (m r d:Nat) (w:World) (hG:Gl gG w) (hr:r<d) (hd:d<wy):CallsIn Fence.wide m prog 220 #[vB r,.int .u64 0,vB d] w λe w'=>e = .returned (.tuple #[vB (CY r 0 d).1,.bool (CY r 0 d).2])/\vY w w':=callsIn_wide.2 (by
 have h:=LZ (X5 [wd r 1,wd r 0,((0:Nat):Int),wd d 1,wd d 0] rfl).2 func220 (by kernel_rfl) (by kernel_rfl) w hG;simp only[] at h;rw[akt r 0 d hd hr (by decide),wS] at h;have ux:u64 ((0:Nat):Int)=0:=by decide
 simpa only[LQ,xk,yL,xu,yw,Sh.kinds,List.drop_succ_cons,List.drop_zero,List.length_cons,List.length_nil,zF,Dm,ux,xU,yX,wV,wW] using h)
theorem axr (a i:Nat):a*2^(i+1)|||2^i=a*2^(i+1)+2^i:=by have h:=Nat.two_pow_add_eq_or_of_lt (i:=i+1) (b:=2^i) (Nat.pow_lt_pow_right (by decide) (by omega)) a;rw[Nat.mul_comm a];exact h.symm
theorem aku {nx:Nat->Int->Nat->Nat×Bool} {s d:Nat} (hs:s<2^256) (hd:0<d) (hx:∀ r x:Nat,r<d->x<2->nx r (x:Int) d=CY r x d) :
  ∀ k,k<=256->zg nx s d (CE k)=(s/2^(256-k)/d*2^(256-k),s/2^(256-k)%d)
 | 0,_=>by rw[show CE 0 = [] from rfl,show zg nx s d []=(0,0) from rfl,show 256-0=256 from rfl,Nat.div_eq_of_lt hs,Nat.zero_div,Nat.zero_mul,Nat.zero_mod]
 | k+1,h=>by
  have hk:k<256:=by omega
  rw[adY hk,aks,aku hs hd hx k (by omega)];simp only[];rw[akr s k hk];obtain⟨i,hi⟩:∃ i,255-k=i:=⟨_,rfl⟩;rw[show 256-k=i+1 by omega,show 256-(k+1)=i by omega,hi];have hb:s/2^i%2<2:=Nat.mod_lt _ (by decide);have hr:=Nat.mod_lt (s/2^(i+1)) hd;rw[hx _ _ hr hb]
  have e1:s/2^i=2*(s/2^(i+1))+s/2^i%2:=by rw[Nat.pow_succ,<- Nat.div_div_eq_div_mul];omega
  have e2:=Nat.div_add_mod (s/2^(i+1)) d;generalize s/2^i%2=b at *
  generalize s/2^(i+1)=A at *
  rw[e1];generalize A/d=Q at *
  generalize A%d=R at *
  unfold CY
  have ex:2*A+b=d*(2*Q)+(2*R+b):=by
   rw[<- e2,Nat.mul_add];have:2*(d*Q)=d*(2*Q):=by ac_rfl
   omega
  by_cases hle:d<=2*R+b
  ·rw[if_pos hle];simp only[if_true]
   have q1:(2*A+b)/d=2*Q+1:=by have o:(2*R+b)/d=1:=Nat.div_eq_of_lt_le (by omega) (by omega);rw[ex,Nat.mul_add_div hd,o]
   have q2:(2*A+b)%d=2*R+b-d:=by rw[ex,Nat.mul_add_mod,Nat.mod_eq_sub_mod hle,Nat.mod_eq_of_lt (by omega)]
   rw[q1,q2,axr,Nat.pow_succ];congr 1;rw[Nat.add_mul,Nat.one_mul];have:Q*(2^i*2)=2*Q*2^i:=by ac_rfl
   omega
  ·rw[if_neg hle];simp only[Bool.false_eq_true,if_false]
   have q1:(2*A+b)/d=2*Q:=by rw[ex,Nat.mul_add_div hd,Nat.div_eq_of_lt (by omega)];omega
   have q2:(2*A+b)%d=2*R+b:=by rw[ex,Nat.mul_add_mod,Nat.mod_eq_of_lt (by omega)]
   rw[q1,q2,Nat.pow_succ];congr 1
   ac_rfl
theorem axs {nx:Nat->Int->Nat->Nat×Bool} {s d:Nat} (hs:s<2^256) (hd:0<d) (hx:∀ r x:Nat,r<d->x<2->nx r (x:Int) d=CY r x d) :
  zg nx s d (CE 256)=(s/d,s%d):=by
 rw[aku hs hd hx 256 (Nat.le_refl _),Nat.sub_self,Nat.pow_zero,Nat.div_one,Nat.mul_one]
noncomputable def NN (r:Nat) (x:Int) (d:Nat):Nat×Bool :=
 (nB (wC (NF [wd r 1,wd r 0,x,wd d 1,wd d 0]) 0) (wC (NF [wd r 1,wd r 0,x,wd d 1,wd d 0]) 1),ww (wC (NF [wd r 1,wd r 0,x,wd d 1,wd d 0]) 2))
theorem akv:Yb (Gl gG) NN Fence.wide where
 keep:=λX Y h b=>h.bel b
 zero:=λm b w hG hb=>callsIn_wide.2 (by
  have h:=LZ (ajN [wd b 1,wd b 0] rfl).2 func48 (by kernel_rfl) (by kernel_rfl) w hG;simp only[] at h;rw[ahL,yH hb] at h
  simpa only[NA,xk,yL,xu,yw,Sh.kinds,List.drop_succ_cons,List.drop_zero,List.length_cons,List.length_nil,zF,Dm,yX,xU] using h)
 next:=λl m r x d w hG hx hr hd=>by
  have h:=LZ (X5 [wd r 1,wd r 0,x,wd d 1,wd d 0] rfl).2 func220 (by kernel_rfl) (by kernel_rfl) w hG;have hlen:=(X5 [wd r 1,wd r 0,x,wd d 1,wd d 0] rfl).1;unfold NN;simp only[] at h hlen;obtain⟨a,b,c,hL⟩:=three hlen;rw[hL] at h ⊢;have ux:u64 x=x:=Iw ⟨hx.1,by rw[CW];omega⟩;obtain⟨n1,n0⟩:=Lb a b
  have key:CallsIn Fence.wide m prog 220 #[vB r,.int .u64 x,vB d] w λe w'=>e = .returned (.tuple #[vB (nB a b),.bool (ww c)])/\vY w w':=callsIn_wide.2 (by
   simpa only[LQ,xk,yL,xu,yw,Sh.kinds,List.drop_succ_cons,List.drop_zero,List.length_cons,List.length_nil,zF,Dm,ux,xU,n1,n0,zR] using h)
  exact key
 lt:=λr x d=>He _ _
theorem axt {d:Nat} (hd:d<wy) (r x:Nat) (hr:r<d) (hx:x<2):NN r (x:Int) d=CY r x d:=by
 unfold NN;rw[akt r x d hd hr hx,wS]
 have hlt:(CY r x d).1<wy:=by
  unfold CY;split
  ·simp only;omega
  ·simp only;omega
 simp only[wV,wW,xA,xC,wP];rw[yH hlt]
def L8 (s d:Nat):List Int:=match Nat.beq d 0 with
 | true=>[0,0,0,0,0,0,0]
 | false=>oW (s/d)++oB (s%d) ++ [1]
def Yc (l:List Int):List Int:=L8 (nW (wC l 0) (wC l 1) (wC l 2) (wC l 3)) (nB (wC l 4) (wC l 5))
theorem dc0 (s:Nat) (w:World) (hG:Gl gG w):CallsIn Fence.wide 3 prog 146 #[vW s,vB 0] w λe w'=>e = .returned (.tuple #[vW 0,vB 0,.bool false])/\vY w w' :=
 axp Fence.wide akv 3 trivial trivial rfl (Nat.le_refl _) s w hG
theorem dc1 (s d:Nat) (hd:d<wy) (h0:d≠0) (w:World) (hG:Gl gG w):CallsIn Fence.wide 3 prog 146 #[vW s,vB d] w λe w'=>e = .returned (.tuple #[vW (zg NN s d (CE 256)).1,vB (zg NN s d (CE 256)).2,.bool true])/\vY w w' :=
 axo Fence.wide akv 3 trivial trivial trivial trivial trivial rfl (Nat.le_refl _) s d hd h0 w hG
theorem dc2 (s d:Nat) (hs:s<wG) (hd:d<wy) (h0:d≠0):zg NN s d (CE 256)=(s/d,s%d) :=
 axs (by rw[<- FE];exact hs) (by omega) (λr x hr hx=>axt hd r x hr hx)
theorem axx (s:Nat) (w:World) (hG:Gl gG w):Calls prog 146 #[vW s,vB 0] w λe w'=>e = .returned (.tuple #[vW 0,vB 0,.bool false])/\vY w w':=callsIn_wide.1 (dc0 s w hG)
theorem axy (s d:Nat) (hs:s<wG) (hd:d<wy) (h0:d≠0) (w:World) (hG:Gl gG w) :
  Calls prog 146 #[vW s,vB d] w λe w'=>e = .returned (.tuple #[vW (s/d),vB (s%d),.bool true])/\vY w w' :=
 (callsIn_wide.1 (dc1 s d hd h0 w hG)).mono λe w' h=>⟨h.1.trans (congrArg (λp:Nat×Nat=>Ending.returned (.tuple #[vW p.1,vB p.2,.bool true])) (dc2 s d hs hd h0)),h.2⟩
theorem akw {args:List Value} {v:Value} (h:∀ w,Gl gG w->Calls prog 146 args.toArray w λe w'=>e = .returned v/\vY w w'):PC prog gG 146 args v:=λw hG =>
 FC func146 (by kernel_rfl) (by kernel_rfl) (h w hG)
abbrev JZ:Ct:=⟨[.agg [kU,kU,kU,kU],.agg [kU,kU]],[.agg [kU,kU,kU,kU],.agg [kU,kU],.sc .bool]⟩
theorem axz (q r:Nat):xU (xk JZ.r (oW q++oB r ++ [1])) = .tuple #[vW q,vB r,.bool true]:=by rw[Al,wS];simp only[JZ,wV,wW,xk,yL,xu,Iu,Sh.kinds,List.drop_succ_cons,List.drop_zero,List.length_cons,List.length_nil,Dm,xU];rfl
theorem axA:xU (xk JZ.r [0,0,0,0,0,0,0]) = .tuple #[vW 0,vB 0,.bool false]:=by
 have zw:∀ j,wd 0 j=0:=λj=>by unfold wd;simp
 have z:u64 0=0:=by decide
 simp only[JZ,xk,yL,xu,Iu,Sh.kinds,List.drop_succ_cons,List.drop_zero,List.length_cons,List.length_nil,xU,z,vW,vB,zw];rfl
theorem axB (a b c d e f:Int):xk JZ.a [a,b,c,d,e,f] = [vW (nW a b c d),vB (nB e f)]:=by obtain⟨n0,n1,n2,n3,n4⟩:=Lc a b c d;obtain⟨m1,m0⟩:=Lb e f;simp only[JZ,xk,yL,xu,Iu,Sh.kinds,List.drop_succ_cons,List.drop_zero,List.length_cons,List.length_nil,n0,n1,n2,n3,m1,m0]
theorem akx (s:Nat):L8 s 0 = [0,0,0,0,0,0,0]:=by rw[L8]
theorem aky (s:Nat) {y:Nat} (hy:y≠0):L8 s y=oW (s/y)++oB (s%y) ++ [1]:=by
 have hb:Nat.beq y 0=false:=by
  cases h:Nat.beq y 0 with
  | false=>rfl
  | true=>exact absurd (Nat.eq_of_beq_eq_true h) hy
 unfold L8;rw[hb]
theorem axC (s y:Nat):(L8 s y).length=7:=by
 by_cases hy:y=0
 ·subst hy;rw[akx];rfl
 ·rw[aky s hy,Al,wS];rfl
theorem axD (s y:Nat) (hs:s<wG) (hd:y<wy):PC prog gG 146 [vW s,vB y] (xU (xk JZ.r (L8 s y))):=by
 by_cases hy:y=0
 ·subst hy;rw[akx,axA];exact akw λw hG=>axx s w hG
 ·rw[aky s hy,axz];exact akw λw hG=>axy s y hs hd hy w hG
theorem six {α:Type} {l:List α} (h:l.length=6):∃ a b c d e f,l = [a,b,c,d,e,f]:=by match l,h with | [a,b,c,d,e,f],_=>exact⟨a,b,c,d,e,f,rfl⟩
theorem akz (a b c d e f:Int):Yc [a,b,c,d,e,f]=L8 (nW a b c d) (nB e f):=by rw[Yc];simp only[xA,xC]
theorem axE:wK prog gG ⟨146,JZ,Yc⟩:=by intro l hl;obtain⟨a,b,c,d,e,f,rfl⟩:=six hl;have h1:=axC (nW a b c d) (nB e f);have h2:=axD (nW a b c d) (nB e f) (Lc a b c d).2.2.2.2 (He e f);rw[<- axB,<- akz] at h2;rw[<- akz] at h1;exact⟨h1,h2⟩
end Go.Proofs.YtippohicjhilnaaGreatDoor
