import Derived.Test.YtbembkamcdlhbaaGreatDoorWASc
import Derived.Test.YtbembkamcdlhbaaGreatDoorZASc
import Derived.Test.YtbembkamcdlhbaaGreatDoorZBSc
import Derived.Test.YtbembkamcdlhbaaGreatDoorZGSc
import Derived.Test.YtbembkamcdlhbaaGreatDoorH1Sc
set_option linter.unusedSimpArgs false
set_option linter.unusedVariables false
set_option maxRecDepth 100000
set_option maxHeartbeats 4000000
namespace Go.Proofs.YtbembkamcdlhbaaGreatDoor
open Go.RowKit Go.Shelf
attribute [local go_sem] Oper.semAt_some
def xH:Nat→List (Fin 256)
 | 0=>[]
 | k+1=>if h:k<256 then xH k ++ [⟨k,h⟩] else xH k
theorem Sb {k:Nat} (hk:k<256):xH (k+1)=xH k ++ [⟨k,hk⟩]:=by simp[xH,hk]
theorem YH:∀ k,k≤256→(xH k).length=k
 | 0,_=>rfl
 | k+1,h=>by rw[Sb (by omega),List.length_append,YH k (by omega)];rfl
def DY (b:Nat) (A B:World):Prop:=∀ o:Obj,o.isCells=true→A.heap[b]? = some o→B.heap[b]? = some o
theorem ahD {b:Nat} {A B C:World} (h1:DY b A B) (h2:DY b B C):DY b A C:=fun o ho h=>h2 o ho (h1 o ho h)
def xe (n k:Nat):Int:=bits .and .u64 (wd n ((255-k)/64)/2^((255-k)%64)) 1
theorem ahE:∀ n:Fin 256,bits .and .i64 ((n.1:Nat):Int) 63=((n.1%64:Nat):Int):=by decide +kernel
theorem YI {k:Nat} (h:k<256):bits .and .i64 (255-(k:Int)) 63=(((255-k)%64:Nat):Int):=by
 have:=ahE ⟨255-k,by omega⟩
 rw[show(255-(k:Int))=((255-k:Nat):Int) by omega];exact this
theorem ahF (F:Fence) (n:Nat) (h7:F.fn 348) (hro:F.round=none) (hn:1≤n) (l Bs:Nat) (s:Nat) (J Jx:List (Fin 256)→World→Prop)
  (hY:∀ pre x W,J pre W→pre.length<256→YieldAt F (n-1) Tryz.prog l #[.int .i64 (255-(x.1:Int)),.int .u64 (xe s x.1)] W fun e W' =>
   (e = .returned (.bool true)∧J (pre ++ [x]) W'∧DY Bs W W')∨(e = .returned (.bool false)∧Jx (pre ++ [x]) W'))
  (W:World) (hBs:W.heap[Bs]? = some (.cells #[.int .u64 (wd s 0),.int .u64 (wd s 1),.int .u64 (wd s 2),.int .u64 (wd s 3)] 252 (0,0))) (h0:J [] W) :
  CallsIn F n Tryz.prog 348 #[.func (.yield l) #[] #[],.pointer (some ⟨Bs,0,none⟩)] W fun e W'=>(∃ v,e = .returned v) ∧
   ((∃ ys,ys=xH 256∧J ys W')∨(∃ pre,True∧Jx pre W')):=by
 refine callsIn_of_wp Tryz.func348 rfl h7 ?_ hro
 simp only[Tryz.ntmps348,List.size_toArray,List.length_cons,List.length_nil,Nat.reduceAdd,Nat.reduceSub,Array.replicate_succ,Array.replicate_zero,List.push_toArray,List.append_toArray,List.nil_append,List.cons_append]
 gi_wp2
 gi_loopw [3] (fun i wr=>∃ k:Nat,k≤256∧i = .int .i64 (255-(k:Int))∧J (xH k) wr∧wr.heap[Bs]? = some (.cells #[.int .u64 (wd s 0),.int .u64 (wd s 1),.int .u64 (wd s 2),.int .u64 (wd s 3)] 252 (0,0)))
  (fun i _=>(intOf i+1).toNat)
 case atStart=>exact⟨0,Nat.zero_le _,rfl,h0,hBs⟩
 case round =>
  obtain⟨k,hk,rfl,hJs,hcx⟩:=hrel
  by_cases hlt:k<256
  ·have Hs:=Lib.hid (Sb hlt)
   have hlen:=YH k hk
   obtain⟨fn,tmps,assign,body,hy,hR⟩:=hY _ ⟨k,hlt⟩ wr hJs (by omega)
   simp only[xe] at hy
   have hc1:wr.cell? ⟨Bs,(255-k)/64,none⟩=some (.int .u64 (wd s ((255-k)/64))):=rA hcx _ (Kc s ⟨(255-k)/64,by omega⟩)
   have hb:=YI hlt
   gi_wp2
   refine hR.mono ?_
   rintro e W3 (⟨rfl,hJ3,hk3⟩|⟨rfl,hJx3⟩)
   ·gi_wp2
    go_roundw
    case rel=>exact⟨k+1,by omega,by congr 1;omega,by rw[Hs.out];exact hJ3,hk3 _ rfl hcx⟩
    case measure=>simp[intOf];omega
   ·gi_wp2
    refine bodyPost_ret (results_none rfl _ _ _) rfl ?_
    exact⟨⟨_,rfl⟩,.inr ⟨_,trivial,hJx3⟩⟩
  ·obtain rfl:k=256:=by omega
   gi_wp2
   go_end0
   exact⟨⟨_,rfl⟩,.inl ⟨_,rfl,hJs⟩⟩
theorem ahG (F:Fence) (n:Nat) (h7:F.fn 348) (hro:F.round=none) (hn:1≤n) (Bs s:Nat) (w:World) (hBs:Bs<w.heap.size)
  (hc:w.heap[Bs]? = some (.cells #[.int .u64 (wd s 0),.int .u64 (wd s 1),.int .u64 (wd s 2),.int .u64 (wd s 3)] 252 (0,0))) :
  SeqStopsK F n Tryz.prog 348 #[.pointer (some ⟨Bs,0,none⟩)] (fun x:Fin 256=>#[Value.int .i64 (255-(x.1:Int)),Value.int .u64 (xe s x.1)]) (DY Bs) (fun ys=>ys=xH 256)
   (fun _=>True) 256 w:=fun l J Jx W hW _ _ hY h0 =>
 ahF F n h7 hro hn l Bs s J Jx hY W (sM hc hW) h0
theorem ahH (F:Fence) (n:Nat) (h5:F.fn 299) (hro:F.round=none) (s:Nat) (w:World) :
  CallsIn F n Tryz.prog 299 #[vW s] w fun e w'=>e = .returned (.func (.func 348) #[] #[.pointer (some ⟨w.heap.size,0,none⟩)])∧w'=w.alloc (.cells #[.int .u64 (wd s 0),.int .u64 (wd s 1),.int .u64 (wd s 2),.int .u64 (wd s 3)] 252):=by
 refine callsIn_of_wp Tryz.func299 rfl h5 ?_ hro
 simp only[Tryz.ntmps299,List.size_toArray,List.length_cons,List.length_nil,Nat.reduceAdd,Nat.reduceSub,Array.replicate_succ,Array.replicate_zero,List.push_toArray,List.append_toArray,List.nil_append,List.cons_append]
 gi_wp2
 go_ret
 exact⟨rfl,rfl⟩
theorem ahI {B:Nat} {n:Nat} (W:World) (l:Nat) (o o':Obj) (h0:n≤l) (h:W.heap[l]? = some o) (hn:o.isCells=false) (h1:o.isWalk=false):DY B W (W.putObj l o'):=fun x hx hv=>by
 have hne:B≠l:=fun e=>by subst e;rw[h] at hv;cases hv;rw[hn] at hx;cases hx
 exact(World.putObj_heap_other hne).trans hv
theorem ahJ {i:Nat} : IntKind.u64.wrap (2^(((i:Nat):Int)%64).toNat)=((2^(i%64):Nat):Int):=by
 have e:(((i:Nat):Int)%64).toNat=i%64:=by omega
 have h:(2:Nat)^(i%64)<2^64:=Nat.pow_lt_pow_right (by decide) (by omega)
 rw[e]
 have h2:(0:Int)≤((2^(i%64):Nat):Int):=Int.natCast_nonneg _
 rw[show(2:Int)^(i%64)=((2^(i%64):Nat):Int) by push_cast;rfl]
 generalize (2:Nat)^(i%64)=y at *
 unfold IntKind.wrap IntKind.bits IntKind.signed
 simp only[Bool.false_and,Bool.false_eq_true,if_false]
 omega
theorem ahK (q i j:Nat):(q|||2^i)/ry^j%ry=if j=i/64 then q/ry^j%ry|||2^(i%64) else q/ry^j%ry:=by
 apply Nat.eq_of_testBit_eq
 intro k
 have h64:ry=2^64:=GD
 by_cases hk:k<64
 ·rw[Ka _ _ _ hk,Nat.testBit_or,Nat.testBit_two_pow]
  split
  ·rename_i hj
   rw[Nat.testBit_or,Ka _ _ _ hk,Nat.testBit_two_pow]
   congr 1
   rw[decide_eq_decide];omega
  ·rename_i hj
   rw[Ka _ _ _ hk,decide_eq_false (by omega),Bool.or_false]
 ·have l1:(q|||2^i)/ry^j%ry<2^64:=by rw[← h64];exact Nat.mod_lt _ vw
  have l0:q/ry^j%ry<2^64:=by rw[← h64];exact Nat.mod_lt _ vw
  have l2:(2:Nat)^(i%64)<2^64:=Nat.pow_lt_pow_right (by decide) (by omega)
  have far:∀ {a:Nat},a<2^64→a.testBit k=false:=fun {a} ha=>Nat.testBit_lt_two_pow (Nat.lt_of_lt_of_le ha (Nat.pow_le_pow_right (by decide) (by omega)))
  rw[far l1]
  split
  ·rw[far (Nat.or_lt_two_pow l0 l2)]
  ·rw[far l0]
theorem ahL {q i:Nat} (hi:i<256):(#[Value.int .u64 (wd q 0),.int .u64 (wd q 1),.int .u64 (wd q 2),.int .u64 (wd q 3)].setIfInBounds (i/64) (.int .u64 (bits .or .u64 (wd q (i/64)) (IntKind.u64.wrap (2^(((i:Nat):Int)%64).toNat))))) =
  #[Value.int .u64 (wd (q|||2^i) 0),.int .u64 (wd (q|||2^i) 1),.int .u64 (wd (q|||2^i) 2),.int .u64 (wd (q|||2^i) 3)]:=by
 have l0:∀ j,q/ry^j%ry<18446744073709551616:=fun j=>Nat.mod_lt _ vw
 have hor:∀ j,bits .or .u64 (wd q j) (IntKind.u64.wrap (2^(((i:Nat):Int)%64).toNat))=((q/ry^j%ry|||2^(i%64):Nat):Int):=fun j=>by
  rw[ahJ]
  exact u64_or_nat _ _ (l0 j) (Nat.pow_lt_pow_right (by decide) (by omega):(2:Nat)^(i%64)<2^64)
 rw[hor]
 have ho:=ahK q i
 unfold wd
 rw[ho 0,ho 1,ho 2,ho 3]
 rcases(show i/64=0∨i/64=1∨i/64=2∨i/64=3 by omega) with e|e|e|e<;>rw[e]<;>rfl
theorem YJ (s k:Nat) (hk:k<256):xe s k=((s/2^(255-k)%2:Nat):Int):=by
 unfold xe
 generalize hi:255-k=i
 have hlt:s/ry^(i/64)%ry<18446744073709551616:=Nat.mod_lt _ vw
 have e:wd s (i/64)/2^(i%64)=((s/ry^(i/64)%ry/2^(i%64):Nat):Int):=by unfold wd;rw[Int.natCast_ediv];simp
 have h1:=u64_and_nat (s/ry^(i/64)%ry/2^(i%64)) 1 (Nat.lt_of_le_of_lt (Nat.div_le_self _ _) hlt) (by decide)
 rw[e]
 refine h1.trans ?_
 rw[Nat.and_one_is_mod]
 have h2:s/ry^(i/64)%ry/2^(i%64)%2=s/2^i%2:=by
  rw[← Nat.toNat_testBit,← Nat.toNat_testBit,Ka _ _ _ (by omega),show 64*(i/64)+i%64=i by omega]
 rw[h2]
theorem ahM (s k:Nat) (hk:k<256):0≤xe s k∧xe s k≤1:=by rw[YJ s k hk];omega
structure NM (Gw:World→Prop) (nx:Nat→Int→Nat→Nat×Bool) (F:Fence):Prop where
 keep:∀ X Y,Gw X→q9 X Y→Gw Y
 zero:∀ m b w,Gw w→b<rD→CallsIn F m Tryz.prog 79 #[vB b] w fun e w'=>e = .returned (.bool (decide (b=0)))∧q9 w w'
 next:∀ l m r x d w,Gw w→(0≤x∧x≤1)→r<rD→d<rD→CallsIn (F.inRound l) m Tryz.prog 300 #[vB r,.int .u64 x,vB d] w fun e w'=>e = .returned (.tuple #[vB (nx r x d).1,.bool (nx r x d).2])∧q9 w w'
 lt:∀ r x d,(nx r x d).1<rD
def uu (nx:Nat→Int→Nat→Nat×Bool) (s d:Nat) (pre:List (Fin 256)):Nat×Nat :=
 pre.foldl (fun st x=>(if (nx st.2 (xe s x.1) d).2 then st.1|||2^(255-x.1) else st.1,(nx st.2 (xe s x.1) d).1)) (0,0)
theorem YK (nx:Nat→Int→Nat→Nat×Bool) (s d:Nat) (pre:List (Fin 256)) (x:Fin 256) :
  uu nx s d (pre ++ [x])=(if (nx (uu nx s d pre).2 (xe s x.1) d).2 then(uu nx s d pre).1|||2^(255-x.1) else(uu nx s d pre).1,(nx (uu nx s d pre).2 (xe s x.1) d).1):=by
 unfold uu;rw[List.foldl_append];rfl
theorem ahN {Gw:World→Prop} {nx:Nat→Int→Nat→Nat×Bool} {F:Fence} (h:NM Gw nx F) (s d:Nat) (pre:List (Fin 256)):(uu nx s d pre).2<rD:=by
 unfold uu
 suffices k:∀ (pre:List (Fin 256)) (st:Nat×Nat),st.2<rD→(pre.foldl (fun st x=>(if (nx st.2 (xe s x.1) d).2 then st.1|||2^(255-x.1) else st.1,(nx st.2 (xe s x.1) d).1)) st).2<rD from k pre _ (by decide)
 intro pre
 induction pre with
 | nil=>intro st h;exact h
 | cons x xs ih=>intro st _;exact ih _ (h.lt _ _ _)
theorem ahO {Gw:World→Prop} {nx:Nat→Int→Nat→Nat×Bool} (F:Fence) (hS:NM Gw nx F) (n:Nat) (h1:F.fn 224) (h2:F.fn 299) (h3:F.fn 348) (h4:F.fn 79) (h5:F.fn 300) (hro:F.round=none) (hn:3≤n) (s d:Nat) (hd:d<rD) (hd0:d≠0) (w:World) (hG:Gw w) :
  CallsIn F n Tryz.prog 224 #[vW s,vB d] w fun e w'=>e = .returned (.tuple #[vW (uu nx s d (xH 256)).1,vB (uu nx s d (xH 256)).2,.bool true])∧q9 w w':=by
 have hn1:1≤n:=by omega
 have hz:=hS.zero
 refine callsIn_of_wp_marks Tryz.func224 rfl h1 ?_ hro
 simp only[Tryz.ntmps224,List.size_toArray,List.length_cons,List.length_nil,Nat.reduceAdd,Nat.reduceSub,Array.replicate_succ,Array.replicate_zero,List.push_toArray,List.append_toArray,List.nil_append,List.cons_append]
 gi_wp2_with (first|(gi_at_call 299;refine(ahH F (n-1) h2 hro s _).mono ?_;rintro e w2 ⟨rfl,rfl⟩)|(gi_at_call 79;refine(hz (n-1) d _ (hS.keep _ _ hG ((((((q9.refl w).alloc _).alloc _).alloc _).alloc _).alloc _ |>.alloc _)) hd).mono ?_;rintro e w' ⟨rfl,hw⟩;have hA:w'.heap[w.heap.size]? = some (.cells #[.int .u64 (wd s 0),.int .u64 (wd s 1),.int .u64 (wd s 2),.int .u64 (wd s 3)] 252 (0,0)):=sM (heap_alloc (heap_alloc (heap_alloc (heap_alloc (heap_alloc (BO _ _) _) _) _) _) _) hw;have e0:=rA hA 0 rfl;have e1:=rA hA 1 rfl;have e2:=rA hA 2 rfl;have e3:=rA hA 3 rfl))
 have hw0:=w.heap.size
 have bD:(w'.alloc (.cells #[.int .u64 (wd s 0),.int .u64 (wd s 1),.int .u64 (wd s 2),.int .u64 (wd s 3)] 252)).heap[w.heap.size+1]? = some (.cells #[.int .u64 (wd d 1),.int .u64 (wd d 0)] 27 (0,0)):=heap_alloc (sM (heap_alloc (heap_alloc (heap_alloc (heap_alloc (JR _ _ _) _) _) _) _) hw) _
 have bX:(w'.alloc (.cells #[.int .u64 (wd s 0),.int .u64 (wd s 1),.int .u64 (wd s 2),.int .u64 (wd s 3)] 252)).heap[w.heap.size+1+1]? = some (.cells #[.int .u64 0,.int .u64 0,.int .u64 0,.int .u64 0] 252 (0,0)):=heap_alloc (sM (heap_alloc (heap_alloc (heap_alloc (zz _ _ _ _) _) _) _) hw) _
 have bY:(w'.alloc (.cells #[.int .u64 (wd s 0),.int .u64 (wd s 1),.int .u64 (wd s 2),.int .u64 (wd s 3)] 252)).heap[w.heap.size+1+1+1]? = some (.cells #[.int .u64 0,.int .u64 0] 27 (0,0)):=heap_alloc (sM (heap_alloc (heap_alloc (Ma _ _ _ _ _) _) _) hw) _
 have bQ:(w'.alloc (.cells #[.int .u64 (wd s 0),.int .u64 (wd s 1),.int .u64 (wd s 2),.int .u64 (wd s 3)] 252)).heap[w.heap.size+1+1+1+1]? = some (.cells #[.int .u64 0,.int .u64 0,.int .u64 0,.int .u64 0] 252 (0,0)):=heap_alloc (sM (heap_alloc (Mc _ _ _ _ _ _) _) hw) _
 have bR:(w'.alloc (.cells #[.int .u64 (wd s 0),.int .u64 (wd s 1),.int .u64 (wd s 2),.int .u64 (wd s 3)] 252)).heap[w.heap.size+1+1+1+1+1]? = some (.cells #[.int .u64 0,.int .u64 0] 27 (0,0)):=heap_alloc (sM (Md _ _ _ _ _ _ _) hw) _
 have hsz:w.heap.size+1+1+1+1+1<w'.heap.size:=by have:=C9 (sM (Md w _ _ _ _ _ _) hw);exact this
 have hB0:Below w.heap.size w (w'.alloc (.cells #[.int .u64 (wd s 0),.int .u64 (wd s 1),.int .u64 (wd s 2),.int .u64 (wd s 3)] 252)):=by
  show q9 w _
  exact(((((((((q9.refl w).alloc _).alloc _).alloc _).alloc _).alloc _).alloc _).trans hw).alloc _)
 have z0:uu nx s d []=(0,0):=rfl
 have zw:∀ j,wd 0 j=0:=fun j=>by unfold wd;simp
 refine wpIn_rangeFunc_ownG hro hn1 (gf:=348) (lb:=#[.pointer (some ⟨w'.heap.size,0,none⟩)]) rfl h3 (enters_of Tryz.func348 (by kernel_rfl) rfl)
  (ahG F (n-1) h3 hro (by omega) w'.heap.size s _ (by simp) (BO _ _)) ahD ahI (Below.refl _ _) (fun _=>rfl)
  (fun pre W=>(((W.heap[w.heap.size+1]? = some (.cells #[.int .u64 (wd d 1),.int .u64 (wd d 0)] 27 (0,0))∧W.heap[w.heap.size+1+1]? = some (.cells #[.int .u64 0,.int .u64 0,.int .u64 0,.int .u64 0] 252 (0,0))) ∧
   (W.heap[w.heap.size+1+1+1]? = some (.cells #[.int .u64 0,.int .u64 0] 27 (0,0))∧W.heap[w.heap.size+1+1+1+1]? = some (.cells #[.int .u64 (wd (uu nx s d pre).1 0),.int .u64 (wd (uu nx s d pre).1 1),.int .u64 (wd (uu nx s d pre).1 2),.int .u64 (wd (uu nx s d pre).1 3)] 252 (0,0)))) ∧
   W.heap[w.heap.size+1+1+1+1+1]? = some (.cells #[.int .u64 (wd (uu nx s d pre).2 1),.int .u64 (wd (uu nx s d pre).2 0)] 27 (0,0)))∧Below w.heap.size w W)
  (fun _ _ _=>False)
  (OwnFrom.and (OwnFrom.and (OwnFrom.and (OwnFrom.and (Own.from (yR _ _ (fun _=>#[.int .u64 (wd d 1),.int .u64 (wd d 0)])) _) (Own.from (yR _ _ (fun _=>#[.int .u64 0,.int .u64 0,.int .u64 0,.int .u64 0])) _)) (OwnFrom.and (Own.from (yR _ _ (fun _=>#[.int .u64 0,.int .u64 0])) _) (Own.from (yR _ _ (fun pre=>#[.int .u64 (wd (uu nx s d pre).1 0),.int .u64 (wd (uu nx s d pre).1 1),.int .u64 (wd (uu nx s d pre).1 2),.int .u64 (wd (uu nx s d pre).1 3)])) _))) (Own.from (yR _ _ (fun pre=>#[.int .u64 (wd (uu nx s d pre).2 1),.int .u64 (wd (uu nx s d pre).2 0)])) _)) (ownFrom_below (Nat.le_refl _) (by simp;omega)))
  (fun _ _ _ _ _ hs _ _=>hs)
  ⟨⟨⟨⟨bD,bX⟩,bY,by rw[z0];simp only[zw];exact bQ⟩,by rw[z0];simp only[zw];exact bR⟩,hB0⟩
  (fun x => { tmps:=#[vW s,vB d,.pointer (some ⟨w.heap.size,0,none⟩),.pointer (some ⟨w.heap.size+1,0,none⟩),.pointer (some ⟨w.heap.size+1+1,0,none⟩),.pointer (some ⟨w.heap.size+1+1+1,0,none⟩),.bool false,.pointer (some ⟨w.heap.size+1+1+1+1,0,none⟩),.pointer (some ⟨w.heap.size+1+1+1+1+1,0,none⟩),.int .i64 (255-(x.1:Int)),.int .u64 (xe s x.1),undef,.agg #[.int .u64 (wd d 1),.int .u64 (wd d 0)],.bool false,undef,undef,.agg #[.int .u64 (wd s 0),.int .u64 (wd s 1),.int .u64 (wd s 2),.int .u64 (wd s 3)],.func (.func 348) #[] #[.pointer (some ⟨w'.heap.size,0,none⟩)],.int .i64 (255-(x.1:Int)),.int .u64 (xe s x.1),undef,undef,undef,undef,undef,undef,undef,undef,undef,undef,undef,undef,undef,undef,undef,undef,undef,undef,undef],defers:=[] }) ?assign ?body ?done ?stop
 case assign =>
  intro l x W K hK
  gi_wp2
  exact hK
 case body =>
  rintro l pre x V ⟨⟨⟨⟨bD,bX⟩,bY,bQ⟩,bR⟩,hB⟩ hlt
  have hr:=ahN hS s d pre
  have hxx:=x.2
  have hn2:1≤n-1-1:=by omega
  have hsn:=YK nx s d pre x
  generalize uu nx s d pre=st at *
  obtain⟨q,r⟩:=st
  dsimp only at bQ bR hr hsn
  have hnext:=hS.next l (n-1-1-1) r (xe s x.1) d V (hS.keep _ _ hG hB) (ahM s x.1 hxx) hr hd
  have e0:=rA bR 0 rfl
  have e1:=rA bR 1 rfl
  have e2:=rA bD 0 rfl
  have e3:=rA bD 1 rfl
  obtain⟨r',once,hnx⟩:∃ a b,nx r (xe s x.1) d=(a,b):=⟨_,_,rfl⟩
  rw[hnx] at hnext hsn
  dsimp only at hnext hsn
  cases once with
  | false =>
   gi_wp2_with (gi_at_call 300;refine hnext.mono ?_;rintro e w3 ⟨rfl,hw3⟩;have g0:=sM bR hw3;have k0:=rA g0 0 rfl;have k1:=rA g0 1 rfl;have k2:=rY g0 0;have k3:=rY g0 1)
   have hk3:KeepsOthers V w3:=⟨hw3.size,fun k o hk _=>sM hk hw3⟩
   rw[if_neg Bool.false_ne_true] at hsn
   refine⟨((hk3.trans (KeepsOthers.setCell _ _ _)).trans (KeepsOthers.setCell _ _ _)).from _,fun o ho hh=>rH (rH (sM hh hw3) _ _ (by show w'.heap.size≠w.heap.size+1+1+1+1+1;omega)) _ _ (by show w'.heap.size≠w.heap.size+1+1+1+1+1;omega),⟨⟨⟨?_,?_⟩,?_,?_⟩,?_⟩,?_⟩
   ·exact rH (rH (sM bD hw3) _ _ (by show w.heap.size+1≠w.heap.size+1+1+1+1+1;omega)) _ _ (by show w.heap.size+1≠w.heap.size+1+1+1+1+1;omega)
   ·exact rH (rH (sM bX hw3) _ _ (by show w.heap.size+1+1≠w.heap.size+1+1+1+1+1;omega)) _ _ (by show w.heap.size+1+1≠w.heap.size+1+1+1+1+1;omega)
   ·exact rH (rH (sM bY hw3) _ _ (by show w.heap.size+1+1+1≠w.heap.size+1+1+1+1+1;omega)) _ _ (by show w.heap.size+1+1+1≠w.heap.size+1+1+1+1+1;omega)
   ·rw[hsn];exact rH (rH (sM bQ hw3) _ _ (by show w.heap.size+1+1+1+1≠w.heap.size+1+1+1+1+1;omega)) _ _ (by show w.heap.size+1+1+1+1≠w.heap.size+1+1+1+1+1;omega)
   ·rw[hsn];exact heap_set (heap_set g0 _) _
   ·show q9 w _
    exact q9.set (q9.set (q9.trans hB hw3) (by show w.heap.size≤w.heap.size+1+1+1+1+1;omega) _) (by show w.heap.size≤w.heap.size+1+1+1+1+1;omega) _
  | true =>
   gi_wp2_with (gi_at_call 300;refine hnext.mono ?_;rintro e w3 ⟨rfl,hw3⟩;have g0:=sM bR hw3;have k0:=rA g0 0 rfl;have k1:=rA g0 1 rfl;have k2:=rY g0 0;have k3:=rY g0 1)
   have hk3:KeepsOthers V w3:=⟨hw3.size,fun k o hk _=>sM hk hw3⟩
   rw[if_pos trivial] at hsn
   obtain⟨V4,hV4⟩:∃ V4,V4=(w3.setCell ⟨w.heap.size+1+1+1+1+1,0,none⟩ (.int .u64 (wd r' 1))).setCell ⟨w.heap.size+1+1+1+1+1,1,none⟩ (.int .u64 (wd r' 0)):=⟨_,rfl⟩
   rw[← hV4]
   have cD:V4.heap[w.heap.size+1]? = some (.cells #[.int .u64 (wd d 1),.int .u64 (wd d 0)] 27 (0,0)):=by rw[hV4];exact rH (rH (sM bD hw3) _ _ (by show w.heap.size+1≠w.heap.size+1+1+1+1+1;omega)) _ _ (by show w.heap.size+1≠w.heap.size+1+1+1+1+1;omega)
   have cX:V4.heap[w.heap.size+1+1]? = some (.cells #[.int .u64 0,.int .u64 0,.int .u64 0,.int .u64 0] 252 (0,0)):=by rw[hV4];exact rH (rH (sM bX hw3) _ _ (by show w.heap.size+1+1≠w.heap.size+1+1+1+1+1;omega)) _ _ (by show w.heap.size+1+1≠w.heap.size+1+1+1+1+1;omega)
   have cY:V4.heap[w.heap.size+1+1+1]? = some (.cells #[.int .u64 0,.int .u64 0] 27 (0,0)):=by rw[hV4];exact rH (rH (sM bY hw3) _ _ (by show w.heap.size+1+1+1≠w.heap.size+1+1+1+1+1;omega)) _ _ (by show w.heap.size+1+1+1≠w.heap.size+1+1+1+1+1;omega)
   have cQ:V4.heap[w.heap.size+1+1+1+1]? = some (.cells #[.int .u64 (wd q 0),.int .u64 (wd q 1),.int .u64 (wd q 2),.int .u64 (wd q 3)] 252 (0,0)):=by rw[hV4];exact rH (rH (sM bQ hw3) _ _ (by show w.heap.size+1+1+1+1≠w.heap.size+1+1+1+1+1;omega)) _ _ (by show w.heap.size+1+1+1+1≠w.heap.size+1+1+1+1+1;omega)
   have cR:V4.heap[w.heap.size+1+1+1+1+1]? = some (.cells #[.int .u64 (wd r' 1),.int .u64 (wd r' 0)] 27 (0,0)):=by rw[hV4];exact heap_set (heap_set g0 _) _
   have cB:q9 w V4:=by rw[hV4];exact q9.set (q9.set (q9.trans hB hw3) (by show w.heap.size≤w.heap.size+1+1+1+1+1;omega) _) (by show w.heap.size≤w.heap.size+1+1+1+1+1;omega) _
   have cK:KeepsOthers V V4:=by rw[hV4];exact(hk3.trans (KeepsOthers.setCell _ _ _)).trans (KeepsOthers.setCell _ _ _)
   have cP:DY w'.heap.size V V4:=fun o ho hh=>by rw[hV4];exact rH (rH (sM hh hw3) _ _ (by show w'.heap.size≠w.heap.size+1+1+1+1+1;omega)) _ _ (by show w'.heap.size≠w.heap.size+1+1+1+1+1;omega)
   have hb63:=YI hxx
   clear hV4
   refine C8 (fun(L:Nat→Bool) (A:Act) (W:World)=>∃ u28 u29 u30 u31 u32 u33 u34 u35 u36:Value,A=⟨#[vW s,vB d,Value.pointer (some { block:=w.heap.size,off:=0 }),Value.pointer (some { block:=w.heap.size+1,off:=0 }),Value.pointer (some { block:=w.heap.size+1+1,off:=0 }),Value.pointer (some { block:=w.heap.size+1+1+1,off:=0 }),Value.bool false,Value.pointer (some { block:=w.heap.size+1+1+1+1,off:=0 }),Value.pointer (some { block:=w.heap.size+1+1+1+1+1,off:=0 }),Value.int IntKind.i64 (255 - ↑↑x),Value.int IntKind.u64 (xe s ↑x),Value.bool true,Value.agg #[Value.int IntKind.u64 (wd d 1),Value.int IntKind.u64 (wd d 0)],Value.bool false,undef,undef,Value.agg #[Value.int IntKind.u64 (wd s 0),Value.int IntKind.u64 (wd s 1),Value.int IntKind.u64 (wd s 2),Value.int IntKind.u64 (wd s 3)],Value.func (Fn.func 348) #[] #[Value.pointer (some { block:=w'.heap.size,off:=0 })],Value.int IntKind.i64 (255 - ↑↑x),Value.int IntKind.u64 (xe s ↑x),Value.tuple #[vB r',Value.bool true],Value.agg #[Value.int IntKind.u64 (wd r 1),Value.int IntKind.u64 (wd r 0)],Value.int IntKind.u64 (xe s ↑x),Value.agg #[Value.int IntKind.u64 (wd d 1),Value.int IntKind.u64 (wd d 0)],Value.tuple #[vB r',Value.bool true],vB r',Value.bool true,Value.bool true,u28,u29,u30,u31,u32,u33,u34,u35,u36,undef,undef],[]⟩∧q9 w W∧KeepsOthers V W∧DY w'.heap.size V W∧W.heap[w.heap.size+1]? = some (.cells #[.int .u64 (wd d 1),.int .u64 (wd d 0)] 27 (0,0))∧W.heap[w.heap.size+1+1]? = some (.cells #[.int .u64 0,.int .u64 0,.int .u64 0,.int .u64 0] 252 (0,0))∧W.heap[w.heap.size+1+1+1]? = some (.cells #[.int .u64 0,.int .u64 0] 27 (0,0))∧W.heap[w.heap.size+1+1+1+1]? = some (.cells (bif L 9 then(#[Value.int .u64 (wd q 0),.int .u64 (wd q 1),.int .u64 (wd q 2),.int .u64 (wd q 3)].setIfInBounds ((255-x.1)/64) (.int .u64 (bits .or .u64 (wd q ((255-x.1)/64)) (IntKind.u64.wrap (2^(((255-x.1:Nat):Int)%64).toNat))))) else #[.int .u64 (wd q 0),.int .u64 (wd q 1),.int .u64 (wd q 2),.int .u64 (wd q 3)]) 252 (0,0))∧W.heap[w.heap.size+1+1+1+1+1]? = some (.cells #[.int .u64 (wd r' 1),.int .u64 (wd r' 0)] 27 (0,0))∧(L 0=true→u28=Value.int IntKind.i64 (255 - ↑↑x))∧(L 1=true→u29 = .int .i64 ((255-(x.1:Int))/64))∧(L 2=true→u30 = .pointer (some ⟨w.heap.size+1+1+1+1,((255-x.1)/64),none⟩))∧(L 3=true→u31 = .int .u64 (wd q ((255-x.1)/64)))∧(L 4=true→u32=Value.int IntKind.i64 (255 - ↑↑x))∧(L 5=true→u33 = .int .i64 (((255-x.1:Nat):Int)%64))∧(L 6=true→u34 = .int .u64 (IntKind.u64.wrap (2^(((255-x.1:Nat):Int)%64).toNat)))∧(L 7=true→u35 = .int .u64 (bits .or .u64 (wd q ((255-x.1)/64)) (IntKind.u64.wrap (2^(((255-x.1:Nat):Int)%64).toNat))))∧(L 8=true→u36 = .pointer (some ⟨w.heap.size+1+1+1+1,((255-x.1)/64),none⟩))) (by kernel_rfl) (by kernel_rfl) ?h0 ⟨?s0,?s1,?s2,?s3,?s4,?s5,?s6,?s7,?s8,?s9,trivial⟩ ?hd
   case h0 =>
    exact⟨_,_,_,_,_,_,_,_,_,rfl,(q9.drew cB),⟨cK.size,cK.same⟩,(fun o ho hh=>cP o ho hh),cD,cX,cY,cQ,cR,fun h=>absurd h Bool.false_ne_true,fun h=>absurd h Bool.false_ne_true,fun h=>absurd h Bool.false_ne_true,fun h=>absurd h Bool.false_ne_true,fun h=>absurd h Bool.false_ne_true,fun h=>absurd h Bool.false_ne_true,fun h=>absurd h Bool.false_ne_true,fun h=>absurd h Bool.false_ne_true,fun h=>absurd h Bool.false_ne_true⟩
   case s0 =>
    rintro L _ W K ⟨u28,u29,u30,u31,u32,u33,u34,u35,u36,rfl,hb,x0,x1,c3,c4,c5,c7,c8,f0,f1,f2,f3,f4,f5,f6,f7,f8⟩ hL hD hN hK
    refine sw (su rfl) ?_
    go_simp
    refine hK _ _ ⟨_,_,_,_,_,_,_,_,_,rfl,hb,x0,x1,c3,c4,c5,c7,c8,fun _=>rfl,f1,f2,f3,f4,f5,f6,f7,f8⟩
   case s1 =>
    rintro L _ W K ⟨u28,u29,u30,u31,u32,u33,u34,u35,u36,rfl,hb,x0,x1,c3,c4,c5,c7,c8,f0,f1,f2,f3,f4,f5,f6,f7,f8⟩ hL hD hN hK
    obtain rfl:=f0 (hD 0 (by kernel_rfl))
    refine sw (su rfl) ?_
    go_simp
    refine hK _ _ ⟨_,_,_,_,_,_,_,_,_,rfl,hb,x0,x1,c3,c4,c5,c7,c8,f0,fun _=>rfl,f2,f3,f4,f5,f6,f7,f8⟩
   case s2 =>
    rintro L _ W K ⟨u28,u29,u30,u31,u32,u33,u34,u35,u36,rfl,hb,x0,x1,c3,c4,c5,c7,c8,f0,f1,f2,f3,f4,f5,f6,f7,f8⟩ hL hD hN hK
    obtain rfl:=f1 (hD 1 (by kernel_rfl))
    refine sw (su rfl) ?_
    have hq1:(0:Int)≤(255-(x.1:Int))/64:=by omega
    have hq3:(255-(x.1:Int))/64<4:=by omega
    have hq2:((255-(x.1:Int))/64).toNat=(255-x.1)/64:=by omega
    go_simp
    refine hK _ _ ⟨_,_,_,_,_,_,_,_,_,rfl,hb,x0,x1,c3,c4,c5,c7,c8,f0,f1,fun _=>rfl,f3,f4,f5,f6,f7,f8⟩
   case s3 =>
    rintro L _ W K ⟨u28,u29,u30,u31,u32,u33,u34,u35,u36,rfl,hb,x0,x1,c3,c4,c5,c7,c8,f0,f1,f2,f3,f4,f5,f6,f7,f8⟩ hL hD hN hK
    obtain rfl:=f2 (hD 2 (by kernel_rfl))
    refine sw (su rfl) ?_
    have hz:L 9=false:=hN 9 _ rfl (by kernel_rfl)
    have d7:=c7
    rw[hz] at d7
    have e0:=rA d7 ((255-x.1)/64) (Kc q ⟨(255-x.1)/64,by omega⟩)
    have hf:=rY d7 ((255-x.1)/64)
    go_simp
    refine hK _ _ ⟨_,_,_,_,_,_,_,_,_,rfl,hb,x0,x1,c3,c4,c5,c7,c8,f0,f1,f2,fun _=>rfl,f4,f5,f6,f7,f8⟩
   case s4 =>
    rintro L _ W K ⟨u28,u29,u30,u31,u32,u33,u34,u35,u36,rfl,hb,x0,x1,c3,c4,c5,c7,c8,f0,f1,f2,f3,f4,f5,f6,f7,f8⟩ hL hD hN hK
    refine sw (su rfl) ?_
    go_simp
    refine hK _ _ ⟨_,_,_,_,_,_,_,_,_,rfl,hb,x0,x1,c3,c4,c5,c7,c8,f0,f1,f2,f3,fun _=>rfl,f5,f6,f7,f8⟩
   case s5 =>
    rintro L _ W K ⟨u28,u29,u30,u31,u32,u33,u34,u35,u36,rfl,hb,x0,x1,c3,c4,c5,c7,c8,f0,f1,f2,f3,f4,f5,f6,f7,f8⟩ hL hD hN hK
    obtain rfl:=f4 (hD 4 (by kernel_rfl))
    refine sw (su rfl) ?_
    go_simp
    refine hK _ _ ⟨_,_,_,_,_,_,_,_,_,rfl,hb,x0,x1,c3,c4,c5,c7,c8,f0,f1,f2,f3,f4,fun _=>rfl,f6,f7,f8⟩
   case s6 =>
    rintro L _ W K ⟨u28,u29,u30,u31,u32,u33,u34,u35,u36,rfl,hb,x0,x1,c3,c4,c5,c7,c8,f0,f1,f2,f3,f4,f5,f6,f7,f8⟩ hL hD hN hK
    obtain rfl:=f5 (hD 5 (by kernel_rfl))
    refine sw (su rfl) ?_
    go_simp
    refine hK _ _ ⟨_,_,_,_,_,_,_,_,_,rfl,hb,x0,x1,c3,c4,c5,c7,c8,f0,f1,f2,f3,f4,f5,fun _=>rfl,f7,f8⟩
   case s7 =>
    rintro L _ W K ⟨u28,u29,u30,u31,u32,u33,u34,u35,u36,rfl,hb,x0,x1,c3,c4,c5,c7,c8,f0,f1,f2,f3,f4,f5,f6,f7,f8⟩ hL hD hN hK
    obtain rfl:=f3 (hD 3 (by kernel_rfl))
    obtain rfl:=f6 (hD 6 (by kernel_rfl))
    refine sw (su rfl) ?_
    go_simp
    refine hK _ _ ⟨_,_,_,_,_,_,_,_,_,rfl,hb,x0,x1,c3,c4,c5,c7,c8,f0,f1,f2,f3,f4,f5,f6,fun _=>rfl,f8⟩
   case s8 =>
    rintro L _ W K ⟨u28,u29,u30,u31,u32,u33,u34,u35,u36,rfl,hb,x0,x1,c3,c4,c5,c7,c8,f0,f1,f2,f3,f4,f5,f6,f7,f8⟩ hL hD hN hK
    obtain rfl:=f1 (hD 1 (by kernel_rfl))
    refine sw (su rfl) ?_
    have hq1:(0:Int)≤(255-(x.1:Int))/64:=by omega
    have hq3:(255-(x.1:Int))/64<4:=by omega
    have hq2:((255-(x.1:Int))/64).toNat=(255-x.1)/64:=by omega
    go_simp
    refine hK _ _ ⟨_,_,_,_,_,_,_,_,_,rfl,hb,x0,x1,c3,c4,c5,c7,c8,f0,f1,f2,f3,f4,f5,f6,f7,fun _=>rfl⟩
   case s9 =>
    rintro L _ W K ⟨u28,u29,u30,u31,u32,u33,u34,u35,u36,rfl,hb,x0,x1,c3,c4,c5,c7,c8,f0,f1,f2,f3,f4,f5,f6,f7,f8⟩ hL hD hN hK
    obtain rfl:=f8 (hD 8 (by kernel_rfl))
    obtain rfl:=f7 (hD 7 (by kernel_rfl))
    refine sw (su rfl) ?_
    have hz:L 9=false:=hL
    rw[hz] at c7
    have e0:=rA c7 ((255-x.1)/64) (Kc q ⟨(255-x.1)/64,by omega⟩)
    have h0:=rY c7 ((255-x.1)/64)
    go_simp
    refine hK _ _ ⟨_,_,_,_,_,_,_,_,_,rfl,(q9.set hb (by omega) _),(x0.trans (KeepsOthers.setCell _ _ _)),(fun o ho hh=>rH (x1 o ho hh) _ _ (by show w'.heap.size≠w.heap.size+1+1+1+1;omega)),(rH c3 _ _ (show w.heap.size+1≠w.heap.size+1+1+1+1 by omega)),(rH c4 _ _ (show w.heap.size+1+1≠w.heap.size+1+1+1+1 by omega)),(rH c5 _ _ (show w.heap.size+1+1+1≠w.heap.size+1+1+1+1 by omega)),(heap_set c7 _),(rH c8 _ _ (show w.heap.size+1+1+1+1+1≠w.heap.size+1+1+1+1 by omega)),f0,f1,f2,f3,f4,f5,f6,f7,f8⟩
   case hd =>
    rintro L _ W ⟨u28,u29,u30,u31,u32,u33,u34,u35,u36,rfl,hb,x0,x1,c3,c4,c5,c7,c8,f0,f1,f2,f3,f4,f5,f6,f7,f8⟩ hall
    rw[hall 9 (by decide)] at c7
    obtain rfl:=f0 (hall 0 (by decide))
    obtain rfl:=f1 (hall 1 (by decide))
    obtain rfl:=f2 (hall 2 (by decide))
    obtain rfl:=f3 (hall 3 (by decide))
    obtain rfl:=f4 (hall 4 (by decide))
    obtain rfl:=f5 (hall 5 (by decide))
    obtain rfl:=f6 (hall 6 (by decide))
    obtain rfl:=f7 (hall 7 (by decide))
    obtain rfl:=f8 (hall 8 (by decide))
    gi_wp2
    refine⟨x0.from _,x1,⟨⟨⟨⟨c3,c4⟩,c5,?_⟩,?_⟩,hb⟩⟩
    ·rw[hsn];rw[ahL (by omega)] at c7;exact c7
    ·rw[hsn];exact c8
 case done =>
  rintro D ys V hD rfl ⟨⟨⟨⟨bD,bX⟩,bY,bQ⟩,bR⟩,hB⟩ hK
  generalize hst:uu nx s d (xH 256)=st at *
  obtain⟨q,r⟩:=st
  dsimp only at bQ bR ⊢
  have hD':w.heap.size+1+1+1+1+1+1≤D:=by have:(w'.alloc (.cells #[.int .u64 (wd s 0),.int .u64 (wd s 1),.int .u64 (wd s 2),.int .u64 (wd s 3)] 252)).heap.size≤D:=hD;simp at this;omega
  gi_wp2
  refine C8 (fun(L:Nat→Bool) (A:Act) (W:World)=>∃ u37 u38 u6:Value,A=⟨#[vW s,vB d,Value.pointer (some { block:=w.heap.size,off:=0 }),Value.pointer (some { block:=w.heap.size+1,off:=0 }),Value.pointer (some { block:=w.heap.size+1+1,off:=0 }),Value.pointer (some { block:=w.heap.size+1+1+1,off:=0 }),u6,Value.pointer (some { block:=w.heap.size+1+1+1+1,off:=0 }),Value.pointer (some { block:=w.heap.size+1+1+1+1+1,off:=0 }),undef,undef,undef,Value.agg #[Value.int IntKind.u64 (wd d 1),Value.int IntKind.u64 (wd d 0)],Value.bool false,undef,undef,Value.agg #[Value.int IntKind.u64 (wd s 0),Value.int IntKind.u64 (wd s 1),Value.int IntKind.u64 (wd s 2),Value.int IntKind.u64 (wd s 3)],Value.func (Fn.func 348) #[] #[Value.pointer (some { block:=w'.heap.size,off:=0 })],undef,undef,undef,undef,undef,undef,undef,undef,undef,undef,undef,undef,undef,undef,undef,undef,undef,undef,undef,u37,u38],[{ target:=Target.collected D,args:=#[] }]⟩∧q9 w W∧W.heap[D]? = some (.deferred (some []))∧W.heap[w.heap.size+1+1]? = some (.cells (bif L 2 then #[.int .u64 (wd q 0),.int .u64 (wd q 1),.int .u64 (wd q 2),.int .u64 (wd q 3)] else #[.int .u64 0,.int .u64 0,.int .u64 0,.int .u64 0]) 252 (0,0))∧W.heap[w.heap.size+1+1+1]? = some (.cells (bif L 3 then #[.int .u64 (wd r 1),.int .u64 (wd r 0)] else #[.int .u64 0,.int .u64 0]) 27 (0,0))∧W.heap[w.heap.size+1+1+1+1]? = some (.cells #[.int .u64 (wd q 0),.int .u64 (wd q 1),.int .u64 (wd q 2),.int .u64 (wd q 3)] 252 (0,0))∧W.heap[w.heap.size+1+1+1+1+1]? = some (.cells #[.int .u64 (wd r 1),.int .u64 (wd r 0)] 27 (0,0))∧(L 0=true→u37 = .agg #[.int .u64 (wd q 0),.int .u64 (wd q 1),.int .u64 (wd q 2),.int .u64 (wd q 3)])∧(L 1=true→u38 = .agg #[.int .u64 (wd r 1),.int .u64 (wd r 0)])∧(L 4=true→u6=(Value.bool true))) (by kernel_rfl) (by kernel_rfl) ?h0 ⟨?s0,?s1,?s2,?s3,?s4,trivial⟩ ?hd
  case h0 =>
   exact⟨_,_,_,rfl,(q9.drew hB),hK,bX,bY,bQ,bR,fun h=>absurd h Bool.false_ne_true,fun h=>absurd h Bool.false_ne_true,fun h=>absurd h Bool.false_ne_true⟩
  case s0 =>
   rintro L _ W K ⟨u37,u38,u6,rfl,hb,x0,c4,c5,c7,c8,f0,f1,f4⟩ hL hD hN hK
   refine sw (su rfl) ?_
   have e0:=rA c7 0 rfl
   have e1:=rA c7 1 rfl
   have e2:=rA c7 2 rfl
   have e3:=rA c7 3 rfl
   have hf:=rY c7 0
   go_simp
   refine hK _ _ ⟨_,_,_,rfl,hb,x0,c4,c5,c7,c8,fun _=>rfl,f1,f4⟩
  case s1 =>
   rintro L _ W K ⟨u37,u38,u6,rfl,hb,x0,c4,c5,c7,c8,f0,f1,f4⟩ hL hD hN hK
   refine sw (su rfl) ?_
   have e0:=rA c8 0 rfl
   have e1:=rA c8 1 rfl
   have hf:=rY c8 0
   go_simp
   refine hK _ _ ⟨_,_,_,rfl,hb,x0,c4,c5,c7,c8,f0,fun _=>rfl,f4⟩
  case s2 =>
   rintro L _ W K ⟨u37,u38,u6,rfl,hb,x0,c4,c5,c7,c8,f0,f1,f4⟩ hL hD hN hK
   obtain rfl:=f0 (hD 0 (by kernel_rfl))
   refine sw (su rfl) ?_
   have hz:L 2=false:=hL
   rw[hz] at c4
   have e0:=rA c4 0 (rfl)
   have h0:=rY c4 0
   have e1:=rA c4 1 (rfl)
   have h1:=rY c4 1
   have e2:=rA c4 2 (rfl)
   have h2:=rY c4 2
   have e3:=rA c4 3 (rfl)
   have h3:=rY c4 3
   go_simp
   refine hK _ _ ⟨_,_,_,rfl,(q9.set (q9.set (q9.set (q9.set hb (by omega) _) (by omega) _) (by omega) _) (by omega) _),(rH (rH (rH (rH x0 _ _ (by first|(show D≠w.heap.size+1+1;omega)|(show D≠w.heap.size+1+1+1;omega))) _ _ (by first|(show D≠w.heap.size+1+1;omega)|(show D≠w.heap.size+1+1+1;omega))) _ _ (by first|(show D≠w.heap.size+1+1;omega)|(show D≠w.heap.size+1+1+1;omega))) _ _ (by first|(show D≠w.heap.size+1+1;omega)|(show D≠w.heap.size+1+1+1;omega))),(heap_set (heap_set (heap_set (heap_set c4 _) _) _) _),(rH (rH (rH (rH c5 _ _ (show w.heap.size+1+1+1≠w.heap.size+1+1 by omega)) _ _ (show w.heap.size+1+1+1≠w.heap.size+1+1 by omega)) _ _ (show w.heap.size+1+1+1≠w.heap.size+1+1 by omega)) _ _ (show w.heap.size+1+1+1≠w.heap.size+1+1 by omega)),(rH (rH (rH (rH c7 _ _ (show w.heap.size+1+1+1+1≠w.heap.size+1+1 by omega)) _ _ (show w.heap.size+1+1+1+1≠w.heap.size+1+1 by omega)) _ _ (show w.heap.size+1+1+1+1≠w.heap.size+1+1 by omega)) _ _ (show w.heap.size+1+1+1+1≠w.heap.size+1+1 by omega)),(rH (rH (rH (rH c8 _ _ (show w.heap.size+1+1+1+1+1≠w.heap.size+1+1 by omega)) _ _ (show w.heap.size+1+1+1+1+1≠w.heap.size+1+1 by omega)) _ _ (show w.heap.size+1+1+1+1+1≠w.heap.size+1+1 by omega)) _ _ (show w.heap.size+1+1+1+1+1≠w.heap.size+1+1 by omega)),f0,f1,f4⟩
  case s3 =>
   rintro L _ W K ⟨u37,u38,u6,rfl,hb,x0,c4,c5,c7,c8,f0,f1,f4⟩ hL hD hN hK
   obtain rfl:=f1 (hD 1 (by kernel_rfl))
   refine sw (su rfl) ?_
   have hz:L 3=false:=hL
   rw[hz] at c5
   have e0:=rA c5 0 (rfl)
   have h0:=rY c5 0
   have e1:=rA c5 1 (rfl)
   have h1:=rY c5 1
   go_simp
   refine hK _ _ ⟨_,_,_,rfl,(q9.set (q9.set hb (by omega) _) (by omega) _),(rH (rH x0 _ _ (by first|(show D≠w.heap.size+1+1;omega)|(show D≠w.heap.size+1+1+1;omega))) _ _ (by first|(show D≠w.heap.size+1+1;omega)|(show D≠w.heap.size+1+1+1;omega))),(rH (rH c4 _ _ (show w.heap.size+1+1≠w.heap.size+1+1+1 by omega)) _ _ (show w.heap.size+1+1≠w.heap.size+1+1+1 by omega)),(heap_set (heap_set c5 _) _),(rH (rH c7 _ _ (show w.heap.size+1+1+1+1≠w.heap.size+1+1+1 by omega)) _ _ (show w.heap.size+1+1+1+1≠w.heap.size+1+1+1 by omega)),(rH (rH c8 _ _ (show w.heap.size+1+1+1+1+1≠w.heap.size+1+1+1 by omega)) _ _ (show w.heap.size+1+1+1+1+1≠w.heap.size+1+1+1 by omega)),f0,f1,f4⟩
  case s4 =>
   rintro L _ W K ⟨u37,u38,u6,rfl,hb,x0,c4,c5,c7,c8,f0,f1,f4⟩ hL hD hN hK
   refine sw (su rfl) ?_
   go_simp
   refine hK _ _ ⟨_,_,_,rfl,hb,x0,c4,c5,c7,c8,f0,f1,fun _=>rfl⟩
  case hd =>
   rintro L _ W ⟨u37,u38,u6,rfl,hb,x0,c4,c5,c7,c8,f0,f1,f4⟩ hall
   rw[hall 2 (by decide)] at c4
   rw[hall 3 (by decide)] at c5
   obtain rfl:=f0 (hall 0 (by decide))
   obtain rfl:=f1 (hall 1 (by decide))
   obtain rfl:=f4 (hall 4 (by decide))
   gi_wp2
   refine⟨by simp,.inl ⟨_,_,rfl,run_takeDeferred x0,?_⟩⟩
   have cX:(W.putObj D (.deferred none)).heap[w.heap.size+1+1]? = _:=(World.putObj_heap_other (by omega)).trans c4
   have cY:(W.putObj D (.deferred none)).heap[w.heap.size+1+1+1]? = _:=(World.putObj_heap_other (by omega)).trans c5
   have q0:=rA cX 0 rfl
   have q1:=rA cX 1 rfl
   have q2:=rA cX 2 rfl
   have q3:=rA cX 3 rfl
   have q4:=rA cY 0 rfl
   have q5:=rA cY 1 rfl
   exact⟨_,by simp[results,Tryz.results224,go_sem,q0,q1,q2,q3,q4,q5],rfl,Below.trans hb (belowK_b (w:=w) (Nat.le_refl _) W D _ _ (by omega) x0 rfl rfl)⟩
 case stop =>
  rintro D c pre W _ _ h _
  exact h.elim
theorem ahP {Gw:World→Prop} {nx:Nat→Int→Nat→Nat×Bool} (F:Fence) (hS:NM Gw nx F) (n:Nat) (h1:F.fn 224) (h4:F.fn 79) (hro:F.round=none) (hn:3≤n) (s:Nat) (w:World) (hG:Gw w) :
  CallsIn F n Tryz.prog 224 #[vW s,vB 0] w fun e w'=>e = .returned (.tuple #[vW 0,vB 0,.bool false])∧q9 w w':=by
 have hn1:1≤n:=by omega
 have hz:=hS.zero
 have zw:∀ j,wd 0 j=0:=fun j=>by unfold wd;simp
 refine callsIn_of_wp Tryz.func224 rfl h1 ?_ hro
 simp only[Tryz.ntmps224,List.size_toArray,List.length_cons,List.length_nil,Nat.reduceAdd,Nat.reduceSub,Array.replicate_succ,Array.replicate_zero,List.push_toArray,List.append_toArray,List.nil_append,List.cons_append]
 gi_wp2_with (gi_at_call 79;refine(hz (n-1) 0 _ (hS.keep _ _ hG ((((((q9.refl w).alloc _).alloc _).alloc _).alloc _).alloc _ |>.alloc _)) (by decide)).mono ?_;rintro e w' ⟨rfl,hw⟩)
 have bX:w'.heap[w.heap.size+1+1]? = some (.cells #[.int .u64 0,.int .u64 0,.int .u64 0,.int .u64 0] 252 (0,0)):=sM (heap_alloc (heap_alloc (heap_alloc (zz _ _ _ _) _) _) _) hw
 have bY:w'.heap[w.heap.size+1+1+1]? = some (.cells #[.int .u64 0,.int .u64 0] 27 (0,0)):=sM (heap_alloc (heap_alloc (Ma _ _ _ _ _) _) _) hw
 have bQ:w'.heap[w.heap.size+1+1+1+1]? = some (.cells #[.int .u64 0,.int .u64 0,.int .u64 0,.int .u64 0] 252 (0,0)):=sM (heap_alloc (Mc _ _ _ _ _ _) _) hw
 have bR:w'.heap[w.heap.size+1+1+1+1+1]? = some (.cells #[.int .u64 0,.int .u64 0] 27 (0,0)):=sM (Md _ _ _ _ _ _ _) hw
 have hB:q9 w w':=(((((((q9.refl w).alloc _).alloc _).alloc _).alloc _).alloc _).alloc _).trans hw
 refine C8 (fun(L:Nat→Bool) (A:Act) (W:World)=>∃ u14 u15 u6:Value,A=⟨#[vW s,vB 0,Value.pointer (some { block:=w.heap.size,off:=0 }),Value.pointer (some { block:=w.heap.size+1,off:=0 }),Value.pointer (some { block:=w.heap.size+1+1,off:=0 }),Value.pointer (some { block:=w.heap.size+1+1+1,off:=0 }),u6,Value.pointer (some { block:=w.heap.size+1+1+1+1,off:=0 }),Value.pointer (some { block:=w.heap.size+1+1+1+1+1,off:=0 }),undef,undef,undef,Value.agg #[Value.int IntKind.u64 0,Value.int IntKind.u64 0],Value.bool true,u14,u15,undef,undef,undef,undef,undef,undef,undef,undef,undef,undef,undef,undef,undef,undef,undef,undef,undef,undef,undef,undef,undef,undef,undef],[]⟩∧q9 w W∧W.heap[w.heap.size+1+1]? = some (.cells (bif L 2 then #[.int .u64 0,.int .u64 0,.int .u64 0,.int .u64 0] else #[.int .u64 0,.int .u64 0,.int .u64 0,.int .u64 0]) 252 (0,0))∧W.heap[w.heap.size+1+1+1]? = some (.cells (bif L 3 then #[.int .u64 0,.int .u64 0] else #[.int .u64 0,.int .u64 0]) 27 (0,0))∧W.heap[w.heap.size+1+1+1+1]? = some (.cells #[.int .u64 0,.int .u64 0,.int .u64 0,.int .u64 0] 252 (0,0))∧W.heap[w.heap.size+1+1+1+1+1]? = some (.cells #[.int .u64 0,.int .u64 0] 27 (0,0))∧(L 0=true→u14 = .agg #[.int .u64 0,.int .u64 0,.int .u64 0,.int .u64 0])∧(L 1=true→u15 = .agg #[.int .u64 0,.int .u64 0])∧(L 4=true→u6=(Value.bool false))) (by kernel_rfl) (by kernel_rfl) ?h0 ⟨?s0,?s1,?s2,?s3,?s4,trivial⟩ ?hd
 case h0 =>
  exact⟨_,_,_,rfl,(q9.drew hB),bX,bY,bQ,bR,fun h=>absurd h Bool.false_ne_true,fun h=>absurd h Bool.false_ne_true,fun h=>absurd h Bool.false_ne_true⟩
 case s0 =>
  rintro L _ W K ⟨u14,u15,u6,rfl,hb,c4,c5,c7,c8,f0,f1,f4⟩ hL hD hN hK
  refine sw (su rfl) ?_
  have e0:=rA c7 0 rfl
  have e1:=rA c7 1 rfl
  have e2:=rA c7 2 rfl
  have e3:=rA c7 3 rfl
  have hf:=rY c7 0
  go_simp
  refine hK _ _ ⟨_,_,_,rfl,hb,c4,c5,c7,c8,fun _=>rfl,f1,f4⟩
 case s1 =>
  rintro L _ W K ⟨u14,u15,u6,rfl,hb,c4,c5,c7,c8,f0,f1,f4⟩ hL hD hN hK
  refine sw (su rfl) ?_
  have e0:=rA c8 0 rfl
  have e1:=rA c8 1 rfl
  have hf:=rY c8 0
  go_simp
  refine hK _ _ ⟨_,_,_,rfl,hb,c4,c5,c7,c8,f0,fun _=>rfl,f4⟩
 case s2 =>
  rintro L _ W K ⟨u14,u15,u6,rfl,hb,c4,c5,c7,c8,f0,f1,f4⟩ hL hD hN hK
  obtain rfl:=f0 (hD 0 (by kernel_rfl))
  refine sw (su rfl) ?_
  have hz:L 2=false:=hL
  rw[hz] at c4
  have e0:=rA c4 0 (rfl)
  have h0:=rY c4 0
  have e1:=rA c4 1 (rfl)
  have h1:=rY c4 1
  have e2:=rA c4 2 (rfl)
  have h2:=rY c4 2
  have e3:=rA c4 3 (rfl)
  have h3:=rY c4 3
  go_simp
  refine hK _ _ ⟨_,_,_,rfl,(q9.set (q9.set (q9.set (q9.set hb (by omega) _) (by omega) _) (by omega) _) (by omega) _),(heap_set (heap_set (heap_set (heap_set c4 _) _) _) _),(rH (rH (rH (rH c5 _ _ (show w.heap.size+1+1+1≠w.heap.size+1+1 by omega)) _ _ (show w.heap.size+1+1+1≠w.heap.size+1+1 by omega)) _ _ (show w.heap.size+1+1+1≠w.heap.size+1+1 by omega)) _ _ (show w.heap.size+1+1+1≠w.heap.size+1+1 by omega)),(rH (rH (rH (rH c7 _ _ (show w.heap.size+1+1+1+1≠w.heap.size+1+1 by omega)) _ _ (show w.heap.size+1+1+1+1≠w.heap.size+1+1 by omega)) _ _ (show w.heap.size+1+1+1+1≠w.heap.size+1+1 by omega)) _ _ (show w.heap.size+1+1+1+1≠w.heap.size+1+1 by omega)),(rH (rH (rH (rH c8 _ _ (show w.heap.size+1+1+1+1+1≠w.heap.size+1+1 by omega)) _ _ (show w.heap.size+1+1+1+1+1≠w.heap.size+1+1 by omega)) _ _ (show w.heap.size+1+1+1+1+1≠w.heap.size+1+1 by omega)) _ _ (show w.heap.size+1+1+1+1+1≠w.heap.size+1+1 by omega)),f0,f1,f4⟩
 case s3 =>
  rintro L _ W K ⟨u14,u15,u6,rfl,hb,c4,c5,c7,c8,f0,f1,f4⟩ hL hD hN hK
  obtain rfl:=f1 (hD 1 (by kernel_rfl))
  refine sw (su rfl) ?_
  have hz:L 3=false:=hL
  rw[hz] at c5
  have e0:=rA c5 0 (rfl)
  have h0:=rY c5 0
  have e1:=rA c5 1 (rfl)
  have h1:=rY c5 1
  go_simp
  refine hK _ _ ⟨_,_,_,rfl,(q9.set (q9.set hb (by omega) _) (by omega) _),(rH (rH c4 _ _ (show w.heap.size+1+1≠w.heap.size+1+1+1 by omega)) _ _ (show w.heap.size+1+1≠w.heap.size+1+1+1 by omega)),(heap_set (heap_set c5 _) _),(rH (rH c7 _ _ (show w.heap.size+1+1+1+1≠w.heap.size+1+1+1 by omega)) _ _ (show w.heap.size+1+1+1+1≠w.heap.size+1+1+1 by omega)),(rH (rH c8 _ _ (show w.heap.size+1+1+1+1+1≠w.heap.size+1+1+1 by omega)) _ _ (show w.heap.size+1+1+1+1+1≠w.heap.size+1+1+1 by omega)),f0,f1,f4⟩
 case s4 =>
  rintro L _ W K ⟨u14,u15,u6,rfl,hb,c4,c5,c7,c8,f0,f1,f4⟩ hL hD hN hK
  refine sw (su rfl) ?_
  go_simp
  refine hK _ _ ⟨_,_,_,rfl,hb,c4,c5,c7,c8,f0,f1,fun _=>rfl⟩
 case hd =>
  rintro L _ W ⟨u14,u15,u6,rfl,hb,c4,c5,c7,c8,f0,f1,f4⟩ hall
  rw[hall 2 (by decide)] at c4
  rw[hall 3 (by decide)] at c5
  obtain rfl:=f0 (hall 0 (by decide))
  obtain rfl:=f1 (hall 1 (by decide))
  obtain rfl:=f4 (hall 4 (by decide))
  have q0:=rA c4 0 rfl
  have q1:=rA c4 1 rfl
  have q2:=rA c4 2 rfl
  have q3:=rA c4 3 rfl
  have q4:=rA c5 0 rfl
  have q5:=rA c5 1 rfl
  gi_wp2
  exact⟨rfl,.tuple #[.agg #[.int .u64 0,.int .u64 0,.int .u64 0,.int .u64 0],.agg #[.int .u64 0,.int .u64 0],.bool false],by simp[results,Tryz.results224,go_sem,q0,q1,q2,q3,q4,q5],by simp only[vW,vB,zw],hb⟩
open Go.RowKit Go.Shelf
theorem ahQ (a i:Nat):a*2^(i+1)|||2^i=a*2^(i+1)+2^i:=by
 have h:=Nat.two_pow_add_eq_or_of_lt (i:=i+1) (b:=2^i) (Nat.pow_lt_pow_right (by decide) (by omega)) a
 rw[Nat.mul_comm a];exact h.symm
theorem YL {nx:Nat→Int→Nat→Nat×Bool} {s d:Nat} (hs:s<2^256) (hd:0<d) (hx:∀ r x:Nat,r<d→x<2→nx r (x:Int) d=yg r x d) :
  ∀ k,k≤256→uu nx s d (xH k)=(s/2^(256-k)/d*2^(256-k),s/2^(256-k)%d)
 | 0,_=>by
  rw[show xH 0 = [] from rfl,show uu nx s d []=(0,0) from rfl,show 256-0=256 from rfl,Nat.div_eq_of_lt hs,Nat.zero_div,Nat.zero_mul,Nat.zero_mod]
 | k+1,h=>by
  have hk:k<256:=by omega
  rw[Sb hk,YK,YL hs hd hx k (by omega)]
  simp only[]
  rw[YJ s k hk]
  obtain⟨i,hi⟩:∃ i,255-k=i:=⟨_,rfl⟩
  rw[show 256-k=i+1 by omega,show 256-(k+1)=i by omega,hi]
  have hb:s/2^i%2<2:=Nat.mod_lt _ (by decide)
  have hr:=Nat.mod_lt (s/2^(i+1)) hd
  rw[hx _ _ hr hb]
  have e1:s/2^i=2*(s/2^(i+1))+s/2^i%2:=by
   rw[Nat.pow_succ,← Nat.div_div_eq_div_mul];omega
  have e2:=Nat.div_add_mod (s/2^(i+1)) d
  generalize s/2^i%2=b at *
  generalize s/2^(i+1)=A at *
  rw[e1]
  generalize A/d=Q at *
  generalize A%d=R at *
  unfold yg
  have ex:2*A+b=d*(2*Q)+(2*R+b):=by
   rw[← e2,Nat.mul_add]
   have:2*(d*Q)=d*(2*Q):=by ac_rfl
   omega
  by_cases hle:d≤2*R+b
  ·rw[if_pos hle]
   simp only[if_true]
   have q1:(2*A+b)/d=2*Q+1:=by
    have o:(2*R+b)/d=1:=Nat.div_eq_of_lt_le (by omega) (by omega)
    rw[ex,Nat.mul_add_div hd,o]
   have q2:(2*A+b)%d=2*R+b-d:=by
    rw[ex,Nat.mul_add_mod,Nat.mod_eq_sub_mod hle,Nat.mod_eq_of_lt (by omega)]
   rw[q1,q2,ahQ,Nat.pow_succ]
   congr 1
   rw[Nat.add_mul,Nat.one_mul]
   have:Q*(2^i*2)=2*Q*2^i:=by ac_rfl
   omega
  ·rw[if_neg hle]
   simp only[Bool.false_eq_true,if_false]
   have q1:(2*A+b)/d=2*Q:=by
    rw[ex,Nat.mul_add_div hd,Nat.div_eq_of_lt (by omega)];omega
   have q2:(2*A+b)%d=2*R+b:=by
    rw[ex,Nat.mul_add_mod,Nat.mod_eq_of_lt (by omega)]
   rw[q1,q2,Nat.pow_succ]
   congr 1
   ac_rfl
theorem ahR {nx:Nat→Int→Nat→Nat×Bool} {s d:Nat} (hs:s<2^256) (hd:0<d) (hx:∀ r x:Nat,r<d→x<2→nx r (x:Int) d=yg r x d) :
  uu nx s d (xH 256)=(s/d,s%d):=by
 rw[YL hs hd hx 256 (Nat.le_refl _),Nat.sub_self,Nat.pow_zero,Nat.div_one,Nat.mul_one]
open Go.RowKit
noncomputable def Fx (r:Nat) (x:Int) (d:Nat):Nat×Bool :=
 (nB (rE (Fh [wd r 1,wd r 0,x,wd d 1,wd d 0]) 0) (rE (Fh [wd r 1,wd r 0,x,wd d 1,wd d 0]) 1),sN (rE (Fh [wd r 1,wd r 0,x,wd d 1,wd d 0]) 2))
theorem YM:NM (Gl gG) Fx Fence.wide where
 keep:=fun X Y h b=>h.bel b
 zero:=fun m b w hG hb=>callsIn_wide.2 (by
  have h:=Ef (Wp [wd b 1,wd b 0] rfl).2 Tryz.func79 (by kernel_rfl) (by kernel_rfl) w hG
  simp only[] at h
  rw[aho,zO hb] at h
  simpa only[Fe,rV,uk,sP,tQ,Sh.kinds,List.drop_succ_cons,List.drop_zero,List.length_cons,List.length_nil,yA,yX,uz,sW] using h)
 next:=fun l m r x d w hG hx hr hd=>by
  have h:=Ef (NB [wd r 1,wd r 0,x,wd d 1,wd d 0] rfl).2 Tryz.func300 (by kernel_rfl) (by kernel_rfl) w hG
  have hlen:=(NB [wd r 1,wd r 0,x,wd d 1,wd d 0] rfl).1
  unfold Fx
  simp only[] at h hlen
  obtain⟨a,b,c,hL⟩:=three hlen
  rw[hL] at h ⊢
  have ux:u64 x=x:=BA ⟨hx.1,by rw[Fu];omega⟩
  obtain⟨n1,n0⟩:=Fv a b
  have key:CallsIn Fence.wide m Tryz.prog 300 #[vB r,.int .u64 x,vB d] w fun e w'=>e = .returned (.tuple #[vB (nB a b),.bool (sN c)])∧q9 w w':=callsIn_wide.2 (by
   simpa only[DU,rV,uk,sP,tQ,Sh.kinds,List.drop_succ_cons,List.drop_zero,List.length_cons,List.length_nil,yA,yX,ux,sW,n1,n0,uQ] using h)
  exact key
 lt:=fun r x d=>DX _ _
theorem ahS {d:Nat} (hd:d<rD) (r x:Nat) (hr:r<d) (hx:x<2):Fx r (x:Int) d=yg r x d:=by
 unfold Fx
 rw[aa0 r x d hd hr hx,yC]
 have hlt:(yg r x d).1<rD:=by
  unfold yg
  split
  ·simp only;omega
  ·simp only;omega
 simp only[Cw,Cy,Cz,CB,Jl]
 rw[zO hlt]
open Go.RowKit
def DZ (s d:Nat):List Int:=match Nat.beq d 0 with
 | true=>[0,0,0,0,0,0,0]
 | false=>oW (s/d)++oB (s%d) ++ [1]
def NN (l:List Int):List Int:=DZ (nW (rE l 0) (rE l 1) (rE l 2) (rE l 3)) (nB (rE l 4) (rE l 5))
theorem dc0 (s:Nat) (w:World) (hG:Gl gG w):CallsIn Fence.wide 3 Tryz.prog 224 #[vW s,vB 0] w fun e w'=>e = .returned (.tuple #[vW 0,vB 0,.bool false])∧q9 w w' :=
 ahP Fence.wide YM 3 trivial trivial rfl (Nat.le_refl _) s w hG
theorem dc1 (s d:Nat) (hd:d<rD) (h0:d≠0) (w:World) (hG:Gl gG w):CallsIn Fence.wide 3 Tryz.prog 224 #[vW s,vB d] w fun e w'=>e = .returned (.tuple #[vW (uu Fx s d (xH 256)).1,vB (uu Fx s d (xH 256)).2,.bool true])∧q9 w w' :=
 ahO Fence.wide YM 3 trivial trivial trivial trivial trivial rfl (Nat.le_refl _) s d hd h0 w hG
theorem dc2 (s d:Nat) (hs:s<sI) (hd:d<rD) (h0:d≠0):uu Fx s d (xH 256)=(s/d,s%d) :=
 ahR (by rw[← Uy];exact hs) (by omega) (fun r x hr hx=>ahS hd r x hr hx)
theorem ahW (s:Nat) (w:World) (hG:Gl gG w):Calls Tryz.prog 224 #[vW s,vB 0] w fun e w'=>e = .returned (.tuple #[vW 0,vB 0,.bool false])∧q9 w w':=callsIn_wide.1 (dc0 s w hG)
theorem ahX (s d:Nat) (hs:s<sI) (hd:d<rD) (h0:d≠0) (w:World) (hG:Gl gG w) :
  Calls Tryz.prog 224 #[vW s,vB d] w fun e w'=>e = .returned (.tuple #[vW (s/d),vB (s%d),.bool true])∧q9 w w' :=
 (callsIn_wide.1 (dc1 s d hd h0 w hG)).mono fun e w' h=>⟨h.1.trans (congrArg (fun p:Nat×Nat=>Ending.returned (.tuple #[vW p.1,vB p.2,.bool true])) (dc2 s d hs hd h0)),h.2⟩
theorem YN {args:List Value} {v:Value} (h:∀ w,Gl gG w→Calls Tryz.prog 224 args.toArray w fun e w'=>e = .returned v∧q9 w w'):PC Tryz.prog gG 224 args v:=fun w hG =>
 Dl Tryz.func224 (by kernel_rfl) (by kernel_rfl) (h w hG)
abbrev CE:Ct:=⟨[.agg [kU,kU,kU,kU],.agg [kU,kU]],[.agg [kU,kU,kU,kU],.agg [kU,kU],.sc .bool]⟩
theorem ahY (q r:Nat):sW (rV CE.r (oW q++oB r ++ [1])) = .tuple #[vW q,vB r,.bool true]:=by
 rw[Lb,yC]
 simp only[CE,Cw,Cy,rV,uk,sP,Bz,Sh.kinds,List.drop_succ_cons,List.drop_zero,List.length_cons,List.length_nil,yX,sW]
 rfl
theorem ahZ:sW (rV CE.r [0,0,0,0,0,0,0]) = .tuple #[vW 0,vB 0,.bool false]:=by
 have zw:∀ j,wd 0 j=0:=fun j=>by unfold wd;simp
 have z:u64 0=0:=by decide
 simp only[CE,rV,uk,sP,Bz,Sh.kinds,List.drop_succ_cons,List.drop_zero,List.length_cons,List.length_nil,sW,z,vW,vB,zw]
 rfl
theorem ah0 (a b c d e f:Int):rV CE.a [a,b,c,d,e,f] = [vW (nW a b c d),vB (nB e f)]:=by
 obtain⟨n0,n1,n2,n3,n4⟩:=Jm a b c d
 obtain⟨m1,m0⟩:=Fv e f
 simp only[CE,rV,uk,sP,Bz,Sh.kinds,List.drop_succ_cons,List.drop_zero,List.length_cons,List.length_nil,n0,n1,n2,n3,m1,m0]
theorem YO (s:Nat):DZ s 0 = [0,0,0,0,0,0,0]:=by rw[DZ]
theorem YP (s:Nat) {y:Nat} (hy:y≠0):DZ s y=oW (s/y)++oB (s%y) ++ [1]:=by
 have hb:Nat.beq y 0=false:=by
  cases h:Nat.beq y 0 with
  | false=>rfl
  | true=>exact absurd (Nat.eq_of_beq_eq_true h) hy
 unfold DZ;rw[hb]
theorem ah1 (s y:Nat):(DZ s y).length=7:=by
 by_cases hy:y=0
 ·subst hy;rw[YO];rfl
 ·rw[YP s hy,Lb,yC];rfl
theorem ah2 (s y:Nat) (hs:s<sI) (hd:y<rD):PC Tryz.prog gG 224 [vW s,vB y] (sW (rV CE.r (DZ s y))):=by
 by_cases hy:y=0
 ·subst hy
  rw[YO,ahZ]
  exact YN fun w hG=>ahW s w hG
 ·rw[YP s hy,ahY]
  exact YN fun w hG=>ahX s y hs hd hy w hG
theorem six {α:Type} {l:List α} (h:l.length=6):∃ a b c d e f,l = [a,b,c,d,e,f]:=by match l,h with | [a,b,c,d,e,f],_=>exact⟨a,b,c,d,e,f,rfl⟩
theorem YQ (a b c d e f:Int):NN [a,b,c,d,e,f]=DZ (nW a b c d) (nB e f):=by rw[NN];simp only[Cz,CB]
theorem ah3:rF Tryz.prog gG ⟨224,CE,NN⟩:=by
 intro l hl
 obtain⟨a,b,c,d,e,f,rfl⟩:=six hl
 have h1:=ah1 (nW a b c d) (nB e f)
 have h2:=ah2 (nW a b c d) (nB e f) (Jm a b c d).2.2.2.2 (DX e f)
 rw[← ah0,← YQ] at h2
 rw[← YQ] at h1
 exact⟨h1,h2⟩
end Go.Proofs.YtbembkamcdlhbaaGreatDoor
