import Derived.RangeFuncNested
import Derived.RangeFuncBound
import Derived.RangeFuncCalls
import Derived.RangeFuncLeaves
import Derived.RangeFuncBox
import Derived.Shelf.Abstract
import Derived.Shelf.RegionOpen
import Derived.WalkKit
import Derived.WalkSpells
import Derived.WalkLawsBesides
import Derived.OwnWalkIn
import Derived.TacticsInMore
import Derived.LoopNIn
import Derived.LoopIn
import Derived.Maps.AppendAt
import Derived.Stop.RegionWithIn
import Derived.Deep.QuietTactic
import Derived.BigQuiet
import Derived.Lib.Hide
import Derived.Test.YtippohicjhilnaaGreatDoorProg
import Derived.Orders
import Derived.OrdersIn
import Derived.StillTail
import Derived.Below
import Derived.Laws.CopyRow
import Derived.MapKept
import Derived.Scope
import Derived.KernelRfl
import Derived.Lib.LaidTab
import Derived.Lib.ItoaNum
set_option linter.unusedSimpArgs false
set_option linter.unusedVariables false
open Go.Proofs.Tryz
namespace Go.Proofs.YtippohicjhilnaaGreatDoor
open Go.RowKit Go.Shelf
def Ov (B:Nat) (A W:World):Prop:=∀ v,A.cell? ⟨B,0,none⟩=some v->W.cell? ⟨B,0,none⟩=some v
theorem afl {B:Nat} {A W C:World} (h:Ov B A W) (k:Ov B W C):Ov B A C:=λv hv=>k v (h v hv)
theorem afm {B:Nat} {n:Nat} (W:World) (l:Nat) (o o':Obj) (_:n<=l) (h:W.heap[l]? = some o) (hn:o.isCells=false) (_:o.isWalk=false):Ov B W (W.putObj l o'):=λ_ hv=>cell_kept hv (grownBy_putObj' W l o') (λr e=>by cases e;exact⟨_,h,hn⟩)
def mk1 (D:Nat):Deferred := { target:=.collected D,args:=#[] }
def Marks (n₀:Nat) (Ds:List Nat) (W:World):Prop:=Ds.Nodup/\∀ D∈Ds,n₀<=D/\W.heap[D]? = some (.deferred (some []))
theorem Marks.lt {n₀:Nat} {Ds:List Nat} {W:World} (h:Marks n₀ Ds W) {D:Nat} (hD:D∈Ds):D<W.heap.size:=(Array.getElem?_eq_some_iff.1 (h.2 D hD).2).1
theorem Marks.keeps {n₀:Nat} {Ds:List Nat} {W W':World} (h:Marks n₀ Ds W) (k:KeepsOthers W W'):Marks n₀ Ds W' :=
 ⟨h.1,λD hD=>⟨(h.2 D hD).1,k.same D _ (h.2 D hD).2 rfl⟩⟩
theorem Marks.leaves {F:Fence} {n:Nat} {P:Program} {fn:Func} {tmps:Array Value} {v:Value} {w:World} (hres:∀ W,(results fn tmps).run P W = .ok v W):∀ (Ds:List Nat) (W:World),Marks w.heap.size Ds W->Below w.heap.size w W ->
  LeavesInM F n P fn tmps (λe W'=>e = .returned v/\Below w.heap.size w W') (Ds.map mk1) .returning W
 | [],W,_,hB=>⟨v,hres W,rfl,hB⟩
 | D::Ds,W,h,hB=>by refine⟨by simp,.inl ⟨D,_,rfl,run_takeDeferred (h.2 D (by simp)).2,?_⟩⟩;refine Marks.leaves hres Ds _ ⟨(List.nodup_cons.1 h.1).2,λD' hD'=>⟨(h.2 D' (by simp[hD'])).1,?_⟩⟩ (hB.trans (belowK_b (w:=w) (n₀:=w.heap.size) (Nat.le_refl _) W D _ _ (h.2 D (by simp)).1 (h.2 D (by simp)).2 rfl rfl));rw[World.putObj_heap_other (by rintro rfl;exact(List.nodup_cons.1 h.1).1 hD')];exact(h.2 D' (by simp[hD'])).2
theorem am5 {β:Type} {n₀ B:Nat} {Ds:List Nat} (h:∀ D∈Ds,D<B):OwnFrom B (λ(_:β) W=>Marks n₀ Ds W):=λs A W row hs hg hr =>
 ⟨hs.1,λD hD=>⟨(hs.2 D hD).1,(hg.block D (hs.lt hD) (λe=>by have:=(hr D e.symm).1;have:=h D hD;omega)).trans (hs.2 D hD).2⟩⟩
theorem Marks.cons {n₀:Nat} {Ds:List Nat} {W:World} {D B:Nat} (h:Marks n₀ Ds W) (hlt:∀ D∈Ds,D<B) (hB:B<=D) (hn:n₀<=D) (hD:W.heap[D]? = some (.deferred (some []))):Marks n₀ (D::Ds) W :=
 ⟨List.nodup_cons.2 ⟨λhm=>by have:=hlt D hm;omega,h.1⟩,λD' hD'=>by
  rcases List.mem_cons.1 hD' with rfl|hm
  ·exact⟨hn,hD⟩
  ·exact h.2 D' hm⟩
theorem Ow {w:World} {b:Nat} {e:TypeId} {size:Nat} {v:Value} {n:Nat} {xs:List Value} (h:w.ownsRow b e size v n xs):∀ k,v.ownBlock=some k->b<=k:=λk hk=>by
 rcases h.2 with⟨rfl,_⟩|⟨g,cap,cur,rfl,hb,_⟩
 ·simp[Value.ownBlock] at hk
 ·obtain rfl:g=k:=by simpa [Value.ownBlock] using hk
  exact hb
def vY (w w':World):Prop:=Below w.heap.size w w'
theorem vY.refl (w:World):vY w w:=Below.refl _ w
theorem vY.trans {a b c:World} (h:vY a b) (k:vY b c):vY a c:=Below.trans h (Below.mono k h.size)
theorem vY.alloc {a b:World} (h:vY a b) (o:Obj):vY a (b.alloc o):=Below.alloc h h.size o
theorem vY.drew {a b:World} (h:vY a b):vY a b.drew:=Below.drew h
theorem Below.drewN {B:Nat} {a w:World} (h:Below B a w) (n:Nat):Below B a (w.drewN n):=⟨h.os,h.tape,h.output,h.size,h.block⟩
theorem vY.drewN {a b:World} (h:vY a b) (n:Nat):vY a (b.drewN n):=Below.drewN h n
theorem vY.size {a b:World} (h:vY a b):a.heap.size<=b.heap.size:=Below.size h
theorem vY.cell {a b:World} (h:vY a b) (k o:Nat) (hk:k<a.heap.size):b.cell? ⟨k,o,none⟩=a.cell? ⟨k,o,none⟩:=Below.cell h (p:=⟨k,o,none⟩) hk
theorem Aa {w:World} {b o:Nat} {v:Value} (h:w.cell? ⟨b,o,none⟩=some v):b<w.heap.size:=by apply Classical.byContradiction;intro hn;have:w.heap[b]? = none:=Array.getElem?_eq_none (by omega);simp[World.cell?,this] at h
section Orders
variable {F:Fence} {n:Nat} {P:Program} {ops:Array Oper} {Q:Exit->Act->World->Prop} {md:Region.Mode}
def Ox (md:Region.Mode) (ops:Array Oper):Nat->Array Bool->List (List Nat)
 | 0,_=>[[]]
 | fuel+1,listed =>
  match Region.ready md ops listed with
  | []=>[[]]
  | r::rs=>(r::rs).flatMap λi=>(Ox md ops fuel (listed.setIfInBounds i true)).map (i :: ·)
theorem am6:∀ (fuel t:Nat) (listed:Array Bool),Region.linearise.go md ops fuel t listed []∈Ox md ops fuel listed:=by
 intro fuel
 induction fuel with
 | zero=>intro t listed;simp[Region.linearise.go,Ox]
 | succ fuel ih =>
  intro t listed;simp only[Region.linearise.go]
  change (match (Region.ready md ops listed)[t%(Region.ready md ops listed).length]? with
   | some i=>Region.linearise.go md ops fuel (t/(Region.ready md ops listed).length) (listed.setIfInBounds i true) [i]
   | none=>[].reverse)∈_
  cases hr:Region.ready md ops listed with
  | nil=>simp[Ox,hr]
  | cons r rs =>
   have hlt:t%(r::rs).length<(r::rs).length:=Nat.mod_lt _ (by simp);have hi:(r::rs)[t%(r::rs).length]? = some ((r::rs)[t%(r::rs).length]):=List.getElem?_eq_getElem hlt;rw[hi];simp only[];rw[linearise_go_acc,List.reverse_singleton,List.singleton_append];simp only[Ox,hr];exact List.mem_flatMap.2 ⟨_,List.getElem_mem hlt,List.mem_map.2 ⟨_,ih _ _,rfl⟩⟩
theorem am7:∀ (l:List Nat) (a:Act) (w:World),wpListIn F n P ops Q (l.filterMap (ops[·]?)) a w->wpOpsIn F n P ops Q l a w:=by
 intro l
 induction l with
 | nil=>intro a w h;simpa [wpListIn,wpOpsIn] using h
 | cons i l ih =>
  intro a w h
  cases hi:ops[i]? with
  | none=>rw[List.filterMap_cons_none hi] at h;simp only[wpOpsIn,hi];exact ih _ _ h
  | some o =>
   rw[List.filterMap_cons_some hi] at h;simp only[wpOpsIn,hi,wpListIn] at h ⊢;split
   ·rename_i hw;simp only[hw,if_true] at h;exact Oper.wpIn_mono (λa w=>ih a w) h
   ·rename_i hw;simp only[hw] at h;exact⟨h.1,ih _ _ h.2⟩
theorem am8 {id:Nat} {a:Act} {w:World} (os:List (List Nat)) (hm:P.follows .mixedOrders=true) (ho:Ox .any ops ops.size (Array.replicate ops.size false)=os) (h:∀ l∈os,wpListIn F n P ops Q (l.filterMap (ops[·]?)) a w.drew) :
  (Code.region id ops true).wpIn F n P Q a w :=
 wpIn_region_draw λt=>by simp only[Region.schedule,hm,Bool.true_or,if_true];exact am7 _ _ _ (h _ (ho▸am6 _ t _))
end Orders
def upd (L:Nat->Bool) (i:Nat):Nat->Bool:=λj=>bif Nat.beq j i then true else L j
theorem Vv (L:Nat->Bool) (i:Nat):upd L i i=true:=by simp[upd]
def Gv (o:Oper) (j:Nat):Bool:=o.after.any λe=>Region.binds .any e&&Nat.beq e.on j
def Jb:Nat->List Oper->Bool
 | _,[]=>true
 | k,o::rest=>(o.after.all λe => !Region.binds .any e||Nat.blt e.on k)&&Jb (k+1) rest
theorem afo:∀ (l:List Oper) (k:Nat),Jb k l=true->∀ (i:Nat) (o:Oper),l[i]? = some o->∀ e∈o.after,Region.binds .any e=true->e.on<k+i
 | [],_,_,i,o,h=>by simp at h
 | x::l,k,ht,i,o,h=>by
  simp only[Jb,Bool.and_eq_true] at ht;intro e he hb
  cases i with
  | zero =>
   simp at h;subst h;have:=Array.all_eq_true_iff_forall_mem.1 ht.1 e he;simp[hb] at this;simpa using this
  | succ i =>
   have:=afo l (k+1) ht.2 i o (by simpa using h) e he hb;omega
def yV (listed:Array Bool):Nat->Bool:=λi=>listed.getD i false
theorem YT (listed:Array Bool) (i:Nat) (h:i<listed.size):yV (listed.setIfInBounds i true)=upd (yV listed) i:=by
 funext j;unfold yV upd
 cases hb:Nat.beq j i with
 | true =>
  obtain rfl:=Nat.eq_of_beq_eq_true hb;simp[h]
 | false =>
  have hne:i≠j:=λe=>by rw[e] at hb;simp at hb
  simp[hne]
theorem afp {ops:Array Oper} (ht:Jb 0 ops.toList=true) {listed:Array Bool} (hs:listed.size=ops.size) (hr:Region.ready .any ops listed = []):∀ i,i<ops.size->yV listed i=true:=by
 intro i
 induction i using Nat.strongRecOn with
 | _ i ih =>
  intro hi;apply Classical.byContradiction;intro hn;have hf:listed.getD i false=false:=by unfold yV at hn;simpa using hn
  have:i∈Region.ready .any ops listed:=by
   rw[mem_ready];refine⟨?_,ops[i],Array.getElem?_eq_getElem hi,λe he hb=>?_⟩
   ·simp[hs,hi] at hf ⊢;exact hf
   ·have hlt:=afo ops.toList 0 ht i ops[i] (by simp[hi]) e he hb;exact ih e.on (by omega) (by omega)
  rw[hr] at this;cases this
theorem afq {listed:Array Bool} {i:Nat} (h:listed.getD i true=false):yV listed i=false:=by
 unfold yV;rcases Nat.lt_or_ge i listed.size with h'|h'
 ·simp[h'] at h ⊢;exact h
 ·simp[Array.getElem?_eq_none h'] at h
def Closed (ops:Array Oper) (listed:Array Bool):Prop:=∀ k x,ops[k]? = some x->yV listed k=true->∀ j,Gv x j=true->yV listed j=true
theorem Closed.off {ops:Array Oper} {listed:Array Bool} (h:Closed ops listed) {k i:Nat} {x:Oper} (hx:ops[k]? = some x) (hd:Gv x i=true) (hL:yV listed i=false):yV listed k=false:=by
 cases hk:yV listed k with
 | false=>rfl
 | true=>rw[h k x hx hk i hd] at hL;cases hL
theorem Closed.set {ops:Array Oper} {listed:Array Bool} (h:Closed ops listed) {i:Nat} {o:Oper} (hi:i<listed.size) (ho:ops[i]? = some o) (hdep:∀ e∈o.after,Region.binds .any e=true->listed.getD e.on false=true):Closed ops (listed.setIfInBounds i true):=by
 intro k x hx hk j hj;rw[YT _ _ hi] at hk ⊢;unfold upd at hk ⊢
 cases hji:Nat.beq j i with
 | true=>rfl
 | false =>
  simp only[cond_false]
  cases hki:Nat.beq k i with
  | true =>
   obtain rfl:=Nat.eq_of_beq_eq_true hki;obtain rfl:=Option.some.inj (hx.symm.trans ho);unfold Gv at hj;obtain⟨e,he,hb⟩:=Array.any_eq_true'.1 hj;simp only[Bool.and_eq_true] at hb;obtain rfl:=Nat.eq_of_beq_eq_true hb.2;exact hdep e he hb.1
  | false=>rw[hki] at hk;exact h k x hx hk j hj
theorem Closed.none {ops:Array Oper} : Closed ops (Array.replicate ops.size false):=by intro k x hx hk;unfold yV at hk;rw[getD_replicate_false] at hk;cases hk
section plain
variable {P:Program} {ops:Array Oper} {Q:Exit->Act->World->Prop}
def YU (P:Program) (ops:Array Oper) (Q:Exit->Act->World->Prop) (Inv:(Nat->Bool)->Act->World->Prop) (i:Nat) (o:Oper):Prop :=
 ∀ (L:Nat->Bool) (a:Act) (w:World) (K:Act->World->Prop),Inv L a w->L i=false->(∀ j,Gv o j=true->L j=true)->(∀ k x,ops[k]? = some x->Gv x i=true->L k=false)->(∀ a' w',Inv (upd L i) a' w'->K a' w') ->
  if Region.wanted o (yielded ops a.tmps)=true then Oper.wp P o a w K Q else K (a.put o.dst undef) w
def Ko (P:Program) (ops:Array Oper) (Q:Exit->Act->World->Prop) (Inv:(Nat->Bool)->Act->World->Prop):Nat->List Oper->Prop
 | _,[]=>True
 | k,o::rest=>YU P ops Q Inv k o/\Ko P ops Q Inv (k+1) rest
theorem Ko.get {Inv:(Nat->Bool)->Act->World->Prop} : ∀ (l:List Oper) (k:Nat),Ko P ops Q Inv k l->∀ i o,l[i]? = some o->YU P ops Q Inv (k+i) o
 | [],_,_,i,o,h=>by simp at h
 | x::l,k,hs,0,o,h=>by simp at h;subst h;exact hs.1
 | x::l,k,hs,i+1,o,h=>by
  have:=Ko.get l (k+1) hs.2 i o (by simpa using h)
  rwa [show k+1+i=k+(i+1) by omega] at this
theorem am9 (Inv:(Nat->Bool)->Act->World->Prop) (ht:Jb 0 ops.toList=true) (hs:Ko P ops Q Inv 0 ops.toList)
  (hd:∀ L a w,Inv L a w->(∀ i,i<ops.size->L i=true)->Q .normal a w) :
  ∀ (fuel:Nat) (listed:Array Bool) (a:Act) (w:World),listed.size=ops.size->Closed ops listed->(∃ n:Nat,n+fuel=ops.size/\n=listed.toList.countP id)->Inv (yV listed) a w->wpAny P .any ops Q fuel listed a w:=by
 intro fuel
 induction fuel with
 | zero =>
  rintro listed a w hsz hcl ⟨n,hn,hc⟩ hI
  have hall:∀ x∈listed.toList,x=true:=by
   have:listed.toList.countP id=listed.toList.length:=by rw[<- hc,Array.length_toList,hsz];omega
   simpa using List.countP_eq_length.1 this
  have hl:∀ i,i<ops.size->yV listed i=true:=λi hi=>by unfold yV;have:=hall (listed[i]'(by omega)) (by simp);simp[show i<listed.size by omega,this]
  refine⟨?_,hd _ a w hI hl⟩;apply Classical.byContradiction;intro hne;obtain⟨j,hj⟩:=List.exists_mem_of_ne_nil _ hne;obtain⟨h1,o,ho,_⟩:=mem_ready.1 hj;have hj':=(Array.getElem?_eq_some_iff.1 ho).1;have:=hl j hj';unfold yV at this;simp[show j<listed.size by omega] at this h1;rw[this] at h1;cases h1
 | succ fuel ih =>
  rintro listed a w hsz hcl ⟨n,hn,hc⟩ hI;refine⟨λhr=>hd _ a w hI (afp ht hsz hr),λi hi=>?_⟩;obtain⟨h1,o,ho,hdep⟩:=mem_ready.1 hi;have hi':=(Array.getElem?_eq_some_iff.1 ho).1;have hL:yV listed i=false:=afq h1;have hst:=Ko.get ops.toList 0 hs i o (by simpa using ho);rw[Nat.zero_add] at hst
  have hcnt:(listed.setIfInBounds i true).toList.countP id=n+1:=by
   rw[hc];have hil:i<listed.toList.length:=by simp;omega
   have hfi:listed.toList[i]=false:=by unfold yV at hL;simp[show i<listed.size by omega] at hL;simpa using hL
   rw[Array.toList_setIfInBounds,List.countP_set (h:=hil)];simp[hfi]
  have hstep:=hst (yV listed) a w (wpAny P .any ops Q fuel (listed.setIfInBounds i true)) hI hL
   (λj hj=>by
    unfold Gv at hj;obtain⟨e,he,hb⟩:=Array.any_eq_true'.1 hj;simp only[Bool.and_eq_true] at hb;obtain rfl:=Nat.eq_of_beq_eq_true hb.2
    exact hdep e he hb.1)
   (λk x hx hdx=>hcl.off hx hdx hL)
   (λa' w' hI'=>ih _ a' w' (by simp[hsz]) (hcl.set (by omega) ho hdep) ⟨n+1,by omega,hcnt.symm⟩ (by rw[YT _ _ (by omega)];exact hI'))
  unfold wpOp;rw[ho];dsimp only;split
  ·rename_i hw;rw[if_pos hw] at hstep;exact .inl hstep
  ·rename_i hw;rw[if_neg hw] at hstep;exact hstep
theorem ana {id:Nat} {a:Act} {w:World} (Inv:(Nat->Bool)->Act->World->Prop) (hm:P.follows .mixedOrders=true) (ht:Jb 0 ops.toList=true) (h0:Inv (λ_=>false) a w.drew)
  (hs:Ko P ops Q Inv 0 ops.toList) (hd:∀ L a w,Inv L a w->(∀ i,i<ops.size->L i=true)->Q .normal a w):(Code.region id ops true).wp P Q a w :=
 wp_region_any hm (am9 Inv ht hs hd ops.size _ a _ (by simp) Closed.none ⟨0,by simp,by simp[List.countP_replicate]⟩ (by
  have:yV (Array.replicate ops.size false)=λ_=>false:=by funext i;unfold yV;exact getD_replicate_false _ _
  rw[this];exact h0))
end plain
section fenced
variable {F:Fence} {n:Nat} {P:Program} {ops:Array Oper} {Q:Exit->Act->World->Prop}
def afr (F:Fence) (n:Nat) (P:Program) (ops:Array Oper) (Q:Exit->Act->World->Prop) (Inv:(Nat->Bool)->Act->World->Prop) (i:Nat) (o:Oper):Prop :=
 ∀ (L:Nat->Bool) (a:Act) (w:World) (K:Act->World->Prop),Inv L a w->L i=false->(∀ j,Gv o j=true->L j=true)->(∀ k x,ops[k]? = some x->Gv x i=true->L k=false)->(∀ a' w',Inv (upd L i) a' w'->K a' w') ->
  if Region.wanted o (yielded ops a.tmps)=true then Oper.wpIn F n P o a w K Q else(∀ f,o.about P w a.eval=some f->F.fn f)/\K (a.put o.dst undef) w
def Mq (F:Fence) (n:Nat) (P:Program) (ops:Array Oper) (Q:Exit->Act->World->Prop) (Inv:(Nat->Bool)->Act->World->Prop):Nat->List Oper->Prop
 | _,[]=>True
 | k,o::rest=>afr F n P ops Q Inv k o/\Mq F n P ops Q Inv (k+1) rest
theorem Mq.get {Inv:(Nat->Bool)->Act->World->Prop} : ∀ (l:List Oper) (k:Nat),Mq F n P ops Q Inv k l->∀ i o,l[i]? = some o->afr F n P ops Q Inv (k+i) o
 | [],_,_,i,o,h=>by simp at h
 | x::l,k,hs,0,o,h=>by simp at h;subst h;exact hs.1
 | x::l,k,hs,i+1,o,h=>by
  have:=Mq.get l (k+1) hs.2 i o (by simpa using h)
  rwa [show k+1+i=k+(i+1) by omega] at this
theorem anb (Inv:(Nat->Bool)->Act->World->Prop) (ht:Jb 0 ops.toList=true) (hs:Mq F n P ops Q Inv 0 ops.toList)
  (hd:∀ L a w,Inv L a w->(∀ i,i<ops.size->L i=true)->Q .normal a w) :
  ∀ (fuel:Nat) (listed:Array Bool) (a:Act) (w:World),listed.size=ops.size->Closed ops listed->(∃ m:Nat,m+fuel=ops.size/\m=listed.toList.countP id)->Inv (yV listed) a w->wpAnyIn F n P .any ops Q fuel listed a w:=by
 intro fuel
 induction fuel with
 | zero =>
  rintro listed a w hsz hcl ⟨m,hn,hc⟩ hI
  have hall:∀ x∈listed.toList,x=true:=by
   have:listed.toList.countP id=listed.toList.length:=by rw[<- hc,Array.length_toList,hsz];omega
   simpa using List.countP_eq_length.1 this
  have hl:∀ i,i<ops.size->yV listed i=true:=λi hi=>by unfold yV;have:=hall (listed[i]'(by omega)) (by simp);simp[show i<listed.size by omega,this]
  refine⟨?_,hd _ a w hI hl⟩;apply Classical.byContradiction;intro hne;obtain⟨j,hj⟩:=List.exists_mem_of_ne_nil _ hne;obtain⟨h1,o,ho,_⟩:=mem_ready.1 hj;have hj':=(Array.getElem?_eq_some_iff.1 ho).1;have:=hl j hj';unfold yV at this;simp[show j<listed.size by omega] at this h1;rw[this] at h1;cases h1
 | succ fuel ih =>
  rintro listed a w hsz hcl ⟨m,hn,hc⟩ hI;refine⟨λhr=>hd _ a w hI (afp ht hsz hr),λi hi=>?_⟩;obtain⟨h1,o,ho,hdep⟩:=mem_ready.1 hi;have hi':=(Array.getElem?_eq_some_iff.1 ho).1;have hL:yV listed i=false:=afq h1;have hst:=Mq.get ops.toList 0 hs i o (by simpa using ho);rw[Nat.zero_add] at hst
  have hcnt:(listed.setIfInBounds i true).toList.countP id=m+1:=by
   rw[hc];have hil:i<listed.toList.length:=by simp;omega
   have hfi:listed.toList[i]=false:=by unfold yV at hL;simp[show i<listed.size by omega] at hL;simpa using hL
   rw[Array.toList_setIfInBounds,List.countP_set (h:=hil)];simp[hfi]
  have hstep:=hst (yV listed) a w (wpAnyIn F n P .any ops Q fuel (listed.setIfInBounds i true)) hI hL
   (λj hj=>by
    unfold Gv at hj;obtain⟨e,he,hb⟩:=Array.any_eq_true'.1 hj;simp only[Bool.and_eq_true] at hb;obtain rfl:=Nat.eq_of_beq_eq_true hb.2
    exact hdep e he hb.1)
   (λk x hx hdx=>hcl.off hx hdx hL)
   (λa' w' hI'=>ih _ a' w' (by simp[hsz]) (hcl.set (by omega) ho hdep) ⟨m+1,by omega,hcnt.symm⟩ (by rw[YT _ _ (by omega)];exact hI'))
  unfold wpOpIn;rw[ho];dsimp only;split
  ·rename_i hw;rw[if_pos hw] at hstep;exact hstep
  ·rename_i hw;rw[if_neg hw] at hstep;exact hstep
theorem Kq {id:Nat} {a:Act} {w:World} (Inv:(Nat->Bool)->Act->World->Prop) (hm:P.follows .mixedOrders=true) (ht:Jb 0 ops.toList=true) (h0:Inv (λ_=>false) a w.drew)
  (hs:Mq F n P ops Q Inv 0 ops.toList) (hd:∀ L a w,Inv L a w->(∀ i,i<ops.size->L i=true)->Q .normal a w):(Code.region id ops true).wpIn F n P Q a w :=
 wpIn_region_any hm (anb Inv ht hs hd ops.size _ a _ (by simp) Closed.none ⟨0,by simp,by simp[List.countP_replicate]⟩ (by
  have:yV (Array.replicate ops.size false)=λ_=>false:=by funext i;unfold yV;exact getD_replicate_false _ _
  rw[this];exact h0))
end fenced
open Go.RowKit
theorem wB {w:World} {B:Nat} {cs:Array Value} {t:TypeId} {fr:Nat×Nat} (h:w.heap[B]? = some (.cells cs t fr)) (i:Nat) {v:Value} (hv:cs[i]? = some v):w.cell? ⟨B,i,none⟩=some v:=by simp[World.cell?,h,hv]
theorem xn {w:World} {B:Nat} {cs:Array Value} {t:TypeId} (h:w.heap[B]? = some (.cells cs t (0,0))) (i:Nat):w.frozen? ⟨B,i,none⟩=false:=by simp[World.frozen?,h]
theorem Kr {w:World} {B:Nat} {o:Obj} (h:w.heap[B]? = some o):B<w.heap.size:=(Array.getElem?_eq_some_iff.1 h).1
theorem heap_alloc {w:World} {B:Nat} {o:Obj} (h:w.heap[B]? = some o) (x:Obj):(w.alloc x).heap[B]? = some o:=(Below.heap_alloc w x B (Kr h)).trans h
theorem Jc (w:World) (o:Obj):(w.alloc o).heap[w.heap.size]? = some o:=World.alloc_heap_new w o
theorem Tc (w:World) (x o:Obj):((w.alloc x).alloc o).heap[w.heap.size+1]? = some o:=by have:=Jc (w.alloc x) o;rwa [World.size_alloc] at this
theorem EO (w:World) (x y o:Obj):(((w.alloc x).alloc y).alloc o).heap[w.heap.size+1+1]? = some o:=by have:=Tc (w.alloc x) y o;rwa [World.size_alloc] at this
theorem Vw (w:World) (x y z o:Obj):((((w.alloc x).alloc y).alloc z).alloc o).heap[w.heap.size+1+1+1]? = some o:=by have:=EO (w.alloc x) y z o;rwa [World.size_alloc] at this
theorem Vx (w:World) (x y z v o:Obj):(((((w.alloc x).alloc y).alloc z).alloc v).alloc o).heap[w.heap.size+1+1+1+1]? = some o:=by have:=Vw (w.alloc x) y z v o;rwa [World.size_alloc] at this
theorem Vy (w:World) (x y z v u o:Obj):((((((w.alloc x).alloc y).alloc z).alloc v).alloc u).alloc o).heap[w.heap.size+1+1+1+1+1]? = some o:=by have:=Vx (w.alloc x) y z v u o;rwa [World.size_alloc] at this
theorem xx {o:Oper} {y:Nat->Option Bool} (h:o.guard=none):Region.wanted o y=true:=by unfold Region.wanted;rw[h]
theorem xy {b:Bool} {p q:Prop} (hb:b=true) (h:p):if b=true then p else q:=by rw[if_pos hb];exact h
theorem vY.set {w W:World} {B i:Nat} (h:vY w W) (hB:w.heap.size<=B) (v:Value):vY w (W.setCell ⟨B,i,none⟩ v):=Below.setCell h hB v
theorem xK {w w':World} {B:Nat} {o:Obj} (h:w.heap[B]? = some o) (hb:Below w.heap.size w w'):w'.heap[B]? = some o:=(hb.block B (Kr h)).trans h
theorem wL {w:World} {B:Nat} {o:Obj} (h:w.heap[B]? = some o) (a:Addr) (v:Value) (hne:B≠a.block):(w.setCell a v).heap[B]? = some o:=(Below.heap_setCell w a v B hne).trans h
theorem heap_set {w:World} {B i:Nat} {cs:Array Value} {t:TypeId} {fr:Nat×Nat} (h:w.heap[B]? = some (.cells cs t fr)) (v:Value):(w.setCell ⟨B,i,none⟩ v).heap[B]? = some (.cells (cs.setIfInBounds i v) t fr):=by have hlt:=Kr h;have hg:w.heap[B] = .cells cs t fr:=(Array.getElem?_eq_some_iff.1 h).2;simp only[World.setCell];rw[Array.getElem?_eq_getElem (by simpa using hlt),Array.getElem_modify_self,hg];rfl
theorem afs {w:World} {B:Nat} {x0 x1 x2 x3:Value} {t:TypeId} {fr:Nat×Nat} (h:w.heap[B]? = some (.cells #[x0,x1,x2,x3] t fr)) (v0 v1 v2 v3:Value) :
  ((((w.setCell ⟨B,0,none⟩ v0).setCell ⟨B,1,none⟩ v1).setCell ⟨B,2,none⟩ v2).setCell ⟨B,3,none⟩ v3).heap[B]? = some (.cells #[v0,v1,v2,v3] t fr):=heap_set (heap_set (heap_set (heap_set h v0) v1) v2) v3
inductive AV where
 | v (x:Value)
 | loc (b off:Nat)
 | sl (b off len cap:Nat)
 | hd (k:Nat)
 | ha (k off:Nat)
 | fn (f:Fn) (first captured:List AV)
 | tup (l:List AV)
 | agg (l:List AV)
def EP:Value->Value
 | .slice a l c=>.slice a l c
 | .map a=>.map a
 | _=>.slice none 0 0
structure Env where
 blk:Nat->Nat
 hnd:Nat->Value
mutual
def AV.val (e:Env):AV->Value
 | .v x=>x
 | .loc b off=>.pointer (some ⟨e.blk b,off,none⟩)
 | .sl b off len cap=>.slice (some ⟨e.blk b,off,none⟩) len cap
 | .hd k=>EP (e.hnd k)
 | .ha k off=>match e.hnd k with | .slice (some a) _ _=>.pointer (some ⟨a.block,a.off+off,none⟩)|_=>.pointer (some ⟨0,off,none⟩)
 | .fn f a c=>.func f (AV.vals e a).toArray (AV.vals e c).toArray
 | .tup l=>.tuple (AV.vals e l).toArray
 | .agg l=>.agg (AV.vals e l).toArray
def AV.vals (e:Env):List AV->List Value
 | []=>[]
 | x::l=>AV.val e x::AV.vals e l
end
theorem AV.akT (e:Env):∀ l:List AV,AV.vals e l=l.map (AV.val e)
 | []=>rfl
 | x::l=>by rw[AV.vals,AV.akT e l];rfl
mutual
def AV.refs:AV->List Nat
 | .v _=>[]
 | .loc b _=>[b]
 | .sl b _ _ _=>[b]
 | .hd k=>[k]
 | .ha k _=>[k]
 | .fn _ a c=>AV.aav a++AV.aav c
 | .tup l=>AV.aav l
 | .agg l=>AV.aav l
def AV.aav:List AV->List Nat
 | []=>[]
 | x::l=>AV.refs x++AV.aav l
end
theorem AV.aec {r:Nat} : ∀ {l:List AV},r∈AV.aav l↔∃ x∈l,r∈AV.refs x
 | []=>by simp[AV.aav]
 | x::l=>by rw[AV.aav,List.mem_append,AV.aec (l:=l)];simp
inductive AO where
 | own (c:List AV) (t:TypeId)
 | rd (n:Nat) (c:List Value)
 | mp (es:List (Value×Value))
def AO.aDM:AO->Bool | .own _ _=>true | .rd _ _=>false | .mp _=>false
def AO.refs:AO->List Nat
 | .own c _=>AV.aav c
 | .rd _ _=>[]
 | .mp _=>[]
abbrev wm:=Nat->Option AO
def wm.put (H:wm) (k:Nat) (o:AO):wm:=λj=>if j=k then some o else H j
def wm.puts (H:wm):List (Nat×AO)->wm
 | []=>H
 | x::l=>wm.puts (H.put x.1 x.2) l
abbrev wU:=Nat->Option AV
def wU.put (T:wU) (d:Option Nat) (x:AV):wU:=match d with|none=>T|some d=>λj=>if j=d then some x else T j
theorem wm.aed (H:wm) (k:Nat) (o:AO):(H.put k o) k=some o:=by simp[wm.put]
theorem wm.anO (H:wm) (k:Nat) (o:AO) {j:Nat} (h:j≠k):(H.put k o) j=H j:=by simp[wm.put,h]
theorem wU.aed (T:wU) (d:Nat) (x:AV):(T.put (some d) x) d=some x:=by simp[wU.put]
theorem wU.anO (T:wU) (d:Nat) (x:AV) {j:Nat} (h:j≠d):(T.put (some d) x) j=T j:=by simp[wU.put,h]
def Ab (T:wU):Operand->Option AV
 | .tmp t=>T t
 | .const v=>some (.v v)
 | .global g=>some (.v (.pointer (some ⟨g,0,none⟩)))
 | .func f=>some (.v (.func (.func f) #[] #[]))
def Bh (nt:Nat) (e:Env) (T:wU) (a:Act):Prop:=a.tmps.size=nt/\∀ t x,T t=some x->t<nt/\a.tmps.getD t undef=x.val e
theorem Bh.eval {nt:Nat} {e:Env} {T:wU} {a:Act} (h:Bh nt e T a) {x:Operand} {y:AV} (hx:Ab T x=some y):a.eval x=y.val e:=by
 cases x with
 | tmp t=>exact(h.2 t y hx).2
 | const v=>simp only[Ab,Option.some.injEq] at hx;subst hx;rfl
 | global g=>simp only[Ab,Option.some.injEq] at hx;subst hx;rfl
 | func f=>simp only[Ab,Option.some.injEq] at hx;subst hx;rfl
def Reads (w:World) (v:Value) (n:Nat) (c:List Value):Prop :=
 (v = .slice none 0 0/\n=0/\c = [])\/∃ b off cap,v = .slice (some ⟨b,off,none⟩) n cap/\b<w.heap.size/\∀ j x,c[j]? = some x->w.cell? ⟨b,off+j,none⟩=some x
def yR:Value->Option Nat
 | .slice (some a) _ _=>some a.block
 | .pointer (some a)=>some a.block
 | _=>none
theorem Reads.same {w w':World} {v:Value} {n:Nat} {c:List Value} (h:Reads w v n c) (hs:w.heap.size<=w'.heap.size) (hb:∀ b,yR v=some b->b<w.heap.size->w'.heap[b]? = w.heap[b]?):Reads w' v n c:=by
 rcases h with h|⟨b,off,cap,rfl,hlt,hc⟩
 ·exact .inl h
 ·refine .inr ⟨b,off,cap,rfl,by omega,λj x hj=>?_⟩;rw[<- hc j x hj];exact World.cell?_of_block (w:=w) (a:=⟨b,off+j,none⟩) (hb b rfl hlt)
theorem Reads.lt {w:World} {v:Value} {n:Nat} {c:List Value} (h:Reads w v n c) {b:Nat} (hb:yR v=some b):b<w.heap.size:=by
 rcases h with⟨rfl,_⟩|⟨b',off,cap,rfl,hlt,_⟩
 ·simp[yR] at hb
 ·simp[yR] at hb;omega
def Vz:Value->Option Nat
 | .map a=>a
 | _=>none
def Mr:Nat->List (Value×Value)->List MapEntry
 | _,[]=>[]
 | i,x::l => { key:=x.1,val:=x.2,born:=i } :: Mr (i+1) l
def Ia (es:List (Value×Value)):Obj:=.map (Mr 0 es).toArray es.length
def MapAt (w:World) (v:Value) (es:List (Value×Value)):Prop:=∃ b,v = .map (some b)/\w.heap[b]? = some (Ia es)
theorem MapAt.same {w w':World} {v:Value} {es:List (Value×Value)} (h:MapAt w v es) (hb:∀ b,Vz v=some b->b<w.heap.size->w'.heap[b]? = w.heap[b]?):MapAt w' v es:=by obtain⟨b,rfl,hw⟩:=h;exact⟨b,rfl,by rw[hb b rfl (Array.getElem?_eq_some_iff.1 hw).1];exact hw⟩
theorem MapAt.lt {w:World} {v:Value} {es:List (Value×Value)} (h:MapAt w v es) {b:Nat} (hb:Vz v=some b):b<w.heap.size:=by obtain⟨b',rfl,hw⟩:=h;cases hb;exact(Array.getElem?_eq_some_iff.1 hw).1
structure wQ where
 l:List (Nat×List Value)
 X:World->Prop
 same:∀ w w':World,(∀ x∈l,w'.heap[x.1]? = w.heap[x.1]?)->X w->X w'
instance:Membership (Nat×List Value) wQ:=⟨λG x=>x∈G.l⟩
def Gl (G:wQ) (w:World):Prop:=(∀ x∈G,x.1<w.heap.size/\∀ j v,x.2[j]? = some v->w.cell? ⟨x.1,j,none⟩=some v)/\G.X w
theorem Gl.same {G:wQ} {w w':World} (h:Gl G w) (hs:w.heap.size<=w'.heap.size) (hb:∀ x∈G,w'.heap[x.1]? = w.heap[x.1]?):Gl G w':=⟨λx hx =>
 ⟨Nat.lt_of_lt_of_le (h.1 x hx).1 hs,λj v hj=>by rw[<- (h.1 x hx).2 j v hj];exact World.cell?_of_block (w:=w) (a:=⟨x.1,j,none⟩) (hb x hx)⟩,G.same w w' hb h.2⟩
theorem Gl.bel {G:wQ} {w w':World} (h:Gl G w) (hb:vY w w'):Gl G w':=h.same (Below.size hb) λx hx=>Below.block hb x.1 (h.1 x hx).1
structure xB where
 blks:List Nat
 dom:List Nat
 env:Env
def xB.nil:xB:=⟨[],[],⟨λ_=>0,λ_=>undef⟩⟩
structure xh (G:wQ) (w0:World) (B0:xB) (e:Env) (H:wm) (w:World):Prop where
 os:w.os=w0.os
 tape:w.tape=w0.tape
 output:w.output=w0.output
 size:w0.heap.size<=w.heap.size
 old:∀ b,b<w0.heap.size->b∉B0.blks->w.heap[b]? = w0.heap[b]?
 gl:Gl G w
 own:∀ k c t,H k=some (.own c t)->w.heap[e.blk k]? = some (.cells (AV.vals e c).toArray t (0,0))
 ge:∀ k c t,H k=some (.own c t)->w0.heap.size<=e.blk k\/e.blk k∈B0.blks
 glo:∀ k c t,H k=some (.own c t)->∀ x∈G,x.1≠e.blk k
 inj:∀ k c t k' c' t',H k=some (.own c t)->H k'=some (.own c' t')->e.blk k=e.blk k'->k=k'
 rd:∀ k n l,H k=some (.rd n l)->Reads w (e.hnd k) n l
 apart:∀ k n l k' c t,H k=some (.rd n l)->H k'=some (.own c t)->yR (e.hnd k)≠some (e.blk k')
 refs:∀ k o,H k=some o->∀ r∈o.refs,H r≠none
 env:∀ k∈B0.dom,H k≠none/\e.blk k=B0.env.blk k/\e.hnd k=B0.env.hnd k
 new:∀ k n l,H k=some (.rd n l)->∀ b,yR (e.hnd k)=some b->w0.heap.size<=b\/∃ j∈B0.dom,yR (B0.env.hnd j)=some b
 mp:∀ k es,H k=some (.mp es)->MapAt w (e.hnd k) es/\∀ j c t,H j=some (.own c t)->Vz (e.hnd k)≠some (e.blk j)
def Env.on (H:wm) (e e':Env):Prop:=∀ k,H k≠none->e'.blk k=e.blk k/\e'.hnd k=e.hnd k
theorem Env.on.refl (H:wm) (e:Env):Env.on H e e:=λ_ _=>⟨rfl,rfl⟩
mutual
theorem AV.aDN {H:wm} {e e':Env} (h:Env.on H e e'):∀ x:AV,(∀ r∈x.refs,H r≠none)->x.val e'=x.val e
 | .v _,_=>rfl
 | .loc b off,hr=>by simp only[AV.val];rw[(h b (hr b (by simp[AV.refs]))).1]
 | .sl b off len cap,hr=>by simp only[AV.val];rw[(h b (hr b (by simp[AV.refs]))).1]
 | .hd k,hr=>by simp only[AV.val];rw[(h k (hr k (by simp[AV.refs]))).2]
 | .ha k off,hr=>by simp only[AV.val];rw[(h k (hr k (by simp[AV.refs]))).2]
 | .fn f a c,hr=>by simp only[AV.val];rw[AV.azj h a (λr hm=>hr r (by rw[AV.refs];exact List.mem_append_left _ hm)),AV.azj h c (λr hm=>hr r (by rw[AV.refs];exact List.mem_append_right _ hm))]
 | .tup l,hr=>by simp only[AV.val];rw[AV.azj h l (λr hm=>hr r (by rw[AV.refs];exact hm))]
 | .agg l,hr=>by simp only[AV.val];rw[AV.azj h l (λr hm=>hr r (by rw[AV.refs];exact hm))]
theorem AV.azj {H:wm} {e e':Env} (h:Env.on H e e'):∀ l:List AV,(∀ r∈AV.aav l,H r≠none)->AV.vals e' l=AV.vals e l
 | [],_=>rfl
 | x::l,hr=>by rw[AV.vals,AV.vals,AV.aDN h x (λr hm=>hr r (by rw[AV.aav];exact List.mem_append_left _ hm)),AV.azj h l (λr hm=>hr r (by rw[AV.aav];exact List.mem_append_right _ hm))]
end
def Ap (T:wU) (H:wm):Prop:=∀ t x,T t=some x->∀ r∈x.refs,H r≠none
theorem Bh.on {nt:Nat} {H:wm} {e e':Env} {T:wU} {a:Act} (h:Bh nt e T a) (hi:Ap T H) (he:Env.on H e e'):Bh nt e' T a :=
 ⟨h.1,λt x hx=>⟨(h.2 t x hx).1,by rw[AV.aDN he x (hi t x hx)];exact(h.2 t x hx).2⟩⟩
theorem Act.aC7 (a:Act) (d:Option Tmp) (v:Value):(a.put d v).tmps.size=a.tmps.size:=by cases d<;>simp[Act.put]
theorem Act.put_defers (a:Act) (d:Option Tmp) (v:Value):(a.put d v).defers=a.defers:=by cases d<;>rfl
theorem Bh.put {nt:Nat} {e:Env} {T:wU} {a:Act} (h:Bh nt e T a) {d:Option Tmp} (hd:∀ t,d=some t->t<nt) (x:AV):Bh nt e (T.put d x) (a.put d (x.val e)):=by
 refine⟨by rw[Act.aC7];exact h.1,λt y hy=>?_⟩
 cases d with
 | none=>exact h.2 t y hy
 | some d =>
  have hd':=hd d rfl;have hs:=h.1;by_cases ht:t=d
  ·subst ht;rw[wU.aed] at hy;cases hy;refine⟨hd',?_⟩;simp[Act.put,hs,hd']
  ·rw[wU.anO _ _ _ ht] at hy;refine⟨(h.2 t y hy).1,?_⟩;rw[<- (h.2 t y hy).2];simp only[Act.put,Array.getD_eq_getD_getElem?];rw[Array.getElem?_setIfInBounds_ne (by omega)]
theorem Ap.put {T:wU} {H:wm} (h:Ap T H) (d:Option Tmp) {x:AV} (hx:∀ r∈x.refs,H r≠none):Ap (T.put d x) H:=by
 intro t y hy
 cases d with
 | none=>exact h t y hy
 | some d =>
  by_cases ht:t=d
  ·subst ht;rw[wU.aed] at hy;cases hy;exact hx
  ·rw[wU.anO _ _ _ ht] at hy;exact h t y hy
theorem wm.an2 (H:wm) (k:Nat) (o:AO) {r:Nat} (h:H r≠none):(H.put k o) r≠none:=by unfold wm.put;split<;>simp[h]
theorem Ap.grow {T:wU} {H H':wm} (h:Ap T H) (hh:∀ r,H r≠none->H' r≠none):Ap T H':=λt x hx r hr=>hh r (h t x hx r hr)
theorem xh.drew {G:wQ} {w0:World} {B0:xB} {e:Env} {H:wm} {w:World} (h:xh G w0 B0 e H w):xh G w0 B0 e H w.drew :=
 ⟨h.os,h.tape,h.output,h.size,h.old,h.gl.same (Nat.le_refl _) (λ_ _=>rfl),h.own,h.ge,h.glo,h.inj,λk n l hk=>(h.rd k n l hk).same (Nat.le_refl _) (λ_ _ _=>rfl),h.apart,h.refs,h.env,h.new,λk es hk=>⟨(h.mp k es hk).1.same (λ_ _ _=>rfl),(h.mp k es hk).2⟩⟩
def Env.aqT (e:Env) (k b:Nat):Env := { e with blk:=λj=>if j=k then b else e.blk j }
def Env.aeZ (e:Env) (k:Nat) (v:Value):Env := { e with hnd:=λj=>if j=k then v else e.hnd j }
theorem Env.aCA {H:wm} {k:Nat} (hk:H k=none) (e:Env) (b:Nat):Env.on H e (e.aqT k b):=λj hj=>by
 have:j≠k:=by rintro rfl;exact hj hk
 simp[Env.aqT,this]
theorem Env.aCB {H:wm} {k:Nat} (hk:H k=none) (e:Env) (v:Value):Env.on H e (e.aeZ k v):=λj hj=>by
 have:j≠k:=by rintro rfl;exact hj hk
 simp[Env.aeZ,this]
theorem wm.put_eq {H:wm} {k j:Nat} {o o':AO} (h:(H.put k o) j=some o'):(j=k/\o'=o)\/(j≠k/\H j=some o'):=by
 by_cases hj:j=k
 ·subst hj;rw[wm.aed] at h;cases h;exact .inl ⟨rfl,rfl⟩
 ·rw[wm.anO _ _ _ hj] at h;exact .inr ⟨hj,h⟩
theorem xh.lt {G:wQ} {w0:World} {B0:xB} {e:Env} {H:wm} {w:World} (h:xh G w0 B0 e H w) {k:Nat} {c:List AV} {t:TypeId} (hk:H k=some (.own c t)):e.blk k<w.heap.size :=
 (Array.getElem?_eq_some_iff.1 (h.own k c t hk)).1
theorem xh.aDD {G:wQ} {w0:World} {B0:xB} {e:Env} {H:wm} {w:World} (h:xh G w0 B0 e H w) {k:Nat} {o:AO} (ho:o.aDM=true) :
  ∀ j n l,(H.put k o) j=some (.rd n l)->∀ b,yR (e.hnd j)=some b->w0.heap.size<=b\/∃ j∈B0.dom,yR (B0.env.hnd j)=some b:=by
 intro j n l hj b hv;rcases wm.put_eq hj with⟨_,he⟩|⟨_,hj⟩
 ·subst he;cases ho
 ·exact h.new j n l hj b hv
theorem xh.alloc {G:wQ} {w0:World} {B0:xB} {e:Env} {H:wm} {w:World} (h:xh G w0 B0 e H w) {k:Nat} (hk:H k=none) (c:List AV) (t:TypeId) (hc:∀ r∈AV.aav c,H r≠none) :
  xh G w0 B0 (e.aqT k w.heap.size) (H.put k (.own c t)) (w.alloc (.cells (AV.vals e c).toArray t (0,0))):=by
 have hon:=Env.aCA hk e w.heap.size;have hne:∀ j o,H j=some o->j≠k:=λj o hj=>by rintro rfl;rw[hk] at hj;cases hj
 have hb:∀ j,j≠k->(e.aqT k w.heap.size).blk j=e.blk j:=λj hj=>by simp[Env.aqT,hj]
 have hbk:(e.aqT k w.heap.size).blk k=w.heap.size:=by simp[Env.aqT]
 have hlt:∀ x∈G,x.1<w.heap.size:=λx hx=>(h.gl.1 x hx).1
 refine⟨h.os,h.tape,h.output,?_,?_,?_,?_,?_,?_,?_,?_,?_,?_,λj hj=>⟨wm.an2 _ _ _ (h.env j hj).1,by rw[hb j (λe=>(h.env j hj).1 (by rw[e];exact hk))];exact(h.env j hj).2.1,(h.env j hj).2.2⟩,xh.aDD h (by simp[AO.aDM]),?_⟩
 ·have:=h.size;simp;omega
 ·intro b hb hb0;rw[Below.heap_alloc _ _ _ (by have:=h.size;omega)];exact h.old b hb hb0
 ·exact h.gl.same (by simp) λx hx=>Below.heap_alloc _ _ _ (hlt x hx)
 ·intro j c' t' hj;rcases wm.put_eq hj with⟨rfl,he⟩|⟨hjk,hj⟩
  ·cases he;rw[hbk,AV.azj hon c hc];show(w.heap.push _)[w.heap.size]? = _;simp
  ·rw[hb j hjk,Below.heap_alloc _ _ _ (h.lt hj),AV.azj hon c' (λr hr=>h.refs j _ hj r hr)];exact h.own j c' t' hj
 ·intro j c' t' hj;rcases wm.put_eq hj with⟨rfl,he⟩|⟨hjk,hj⟩
  ·rw[hbk];exact .inl h.size
  ·rw[hb j hjk];exact h.ge j c' t' hj
 ·intro j c' t' hj x hx;rcases wm.put_eq hj with⟨rfl,he⟩|⟨hjk,hj⟩
  ·rw[hbk];have:=hlt x hx;omega
  ·rw[hb j hjk];exact h.glo j c' t' hj x hx
 ·intro j c' t' j' c'' t'' hj hj' he;rcases wm.put_eq hj with⟨h1,_⟩|⟨hjk,h1⟩<;>rcases wm.put_eq hj' with⟨h2,_⟩|⟨hjk',h2⟩
  ·omega
  ·rw[h1,hbk,hb j' hjk'] at he;have:=h.lt h2;omega
  ·rw[h2,hbk,hb j hjk] at he;have:=h.lt h1;omega
  ·rw[hb j hjk,hb j' hjk'] at he;exact h.inj j c' t' j' c'' t'' h1 h2 he
 ·intro j n l hj;rcases wm.put_eq hj with⟨rfl,he⟩|⟨hjk,hj⟩
  ·cases he
  ·exact(h.rd j n l hj).same (by simp) (λb _ hb=>Below.heap_alloc _ _ _ hb)
 ·intro j n l j' c' t' hj hj';rcases wm.put_eq hj with⟨_,he⟩|⟨hjk,h1⟩
  ·cases he
  ·rcases wm.put_eq hj' with⟨h2,_⟩|⟨hjk',h2⟩
   ·rw[h2,hbk];intro hv;have:=(h.rd j n l h1).lt hv;omega
   ·rw[hb j' hjk'];exact h.apart j n l j' c' t' h1 h2
 ·intro j o hj r hr;rcases wm.put_eq hj with⟨rfl,rfl⟩|⟨hjk,hj⟩
  ·exact wm.an2 _ _ _ (hc r hr)
  ·exact wm.an2 _ _ _ (h.refs j o hj r hr)
 ·intro j es hj;rcases wm.put_eq hj with⟨_,he⟩|⟨hjk,h1⟩
  ·cases he
  ·obtain⟨m1,m2⟩:=h.mp j es h1;refine⟨m1.same (λb _ hb=>Below.heap_alloc _ _ _ hb),λj' c' t' hj'=>?_⟩;rcases wm.put_eq hj' with⟨h2,_⟩|⟨hjk',h2⟩
   ·rw[h2,hbk];intro hv;have:=m1.lt hv;omega
   ·rw[hb j' hjk'];exact m2 j' c' t' h2
theorem xh.store {G:wQ} {w0:World} {B0:xB} {e:Env} {H:wm} {w:World} (h:xh G w0 B0 e H w) {k:Nat} {c:List AV} {t:TypeId} (hk:H k=some (.own c t)) (c':List AV) (hc:∀ r∈AV.aav c',H r≠none)
  {w':World} (hw:w'=w.setRow (e.blk k) (AV.vals e c').toArray):xh G w0 B0 e (H.put k (.own c' t)) w':=by
 have hlt:=h.lt hk
 have hst:w' = { w with heap:=w.heap.setIfInBounds (e.blk k) (.cells (AV.vals e c').toArray t (0,0)) }:=by
  rw[hw];unfold World.setRow;congr 1;have ho:=h.own k c t hk;apply Array.ext_getElem?;intro i;rw[Array.getElem?_modify];by_cases hi:e.blk k=i
  ·subst hi;rw[Array.getElem?_eq_getElem hlt] at ho;simp[Option.some.inj ho,hlt]
  ·simp[hi]
 clear hw;subst hst;have hoth:∀ b,b≠e.blk k->(w.heap.setIfInBounds (e.blk k) (.cells (AV.vals e c').toArray t (0,0)))[b]? = w.heap[b]?:=λb hb=>Array.getElem?_setIfInBounds_ne (by omega)
 have hown:∀ j c'' t'',(H.put k (.own c' t)) j=some (.own c'' t'')->∃ c₁ t₁,H j=some (.own c₁ t₁):=λj c'' t'' hj=>by
  rcases wm.put_eq hj with⟨rfl,_⟩|⟨_,hj⟩
  ·exact⟨_,_,hk⟩
  ·exact⟨_,_,hj⟩
 refine⟨h.os,h.tape,h.output,?_,?_,?_,?_,?_,?_,?_,?_,?_,?_,λj hj=>⟨wm.an2 _ _ _ (h.env j hj).1,(h.env j hj).2⟩,xh.aDD h (by simp[AO.aDM]),?_⟩
 ·simpa using h.size
 ·intro b hb hb0
  have:b≠e.blk k:=by
   rcases h.ge k c t hk with hg|hg
   ·omega
   ·rintro rfl;exact hb0 hg
  rw[<- h.old b hb hb0];exact hoth b this
 ·exact h.gl.same (by simp) λx hx=>hoth x.1 (h.glo k c t hk x hx)
 ·intro j c'' t'' hj;rcases wm.put_eq hj with⟨rfl,he⟩|⟨hjk,hj⟩
  ·cases he;simp[hlt]
  ·rw[<- h.own j c'' t'' hj];exact hoth _ (λhe=>hjk (h.inj j _ _ k _ _ hj hk he))
 ·intro j c'' t'' hj;obtain⟨c₁,t₁,hj⟩:=hown j c'' t'' hj;exact h.ge j c₁ t₁ hj
 ·intro j c'' t'' hj x hx;obtain⟨c₁,t₁,hj⟩:=hown j c'' t'' hj;exact h.glo j c₁ t₁ hj x hx
 ·intro j _ _ j' _ _ hj hj' he;obtain⟨c₁,t₁,hj⟩:=hown j _ _ hj;obtain⟨c₂,t₂,hj'⟩:=hown j' _ _ hj';exact h.inj j _ _ j' _ _ hj hj' he
 ·intro j n l hj;rcases wm.put_eq hj with⟨rfl,he⟩|⟨hjk,hj⟩
  ·cases he
  ·refine(h.rd j n l hj).same (by simp) (λb hv hb=>hoth b ?_);rintro rfl;exact h.apart j n l k c t hj hk hv
 ·intro j n l j' c'' t'' hj hj';rcases wm.put_eq hj with⟨rfl,he⟩|⟨hjk,hj⟩
  ·cases he
  ·obtain⟨c₁,t₁,hj'⟩:=hown j' _ _ hj';exact h.apart j n l j' c₁ t₁ hj hj'
 ·intro j o hj r hr;rcases wm.put_eq hj with⟨rfl,rfl⟩|⟨hjk,hj⟩
  ·exact wm.an2 _ _ _ (hc r hr)
  ·exact wm.an2 _ _ _ (h.refs j o hj r hr)
 ·intro j es hj;rcases wm.put_eq hj with⟨_,he⟩|⟨hjk,h1⟩
  ·cases he
  ·obtain⟨m1,m2⟩:=h.mp j es h1;refine⟨m1.same (λb hv _=>hoth b ?_),λj' c'' t'' hj'=>?_⟩
   ·rintro rfl;exact m2 k c t hk hv
   ·obtain⟨c₁,t₁,hj'⟩:=hown j' _ _ hj';exact m2 j' c₁ t₁ hj'
theorem xh.below {G:wQ} {w0:World} {B0:xB} {e:Env} {H:wm} {w w':World} (h:xh G w0 B0 e H w) (hb:vY w w'):xh G w0 B0 e H w':=by
 have hbl:=Below.block hb;have hsz:=Below.size hb;refine⟨(Below.os hb).trans h.os,(Below.tape hb).trans h.tape,(Below.output hb).trans h.output,Nat.le_trans h.size hsz,?_,h.gl.bel hb,?_,h.ge,h.glo,h.inj,?_,h.apart,h.refs,h.env,h.new,λk es hk=>⟨(h.mp k es hk).1.same (λb _ hlt=>hbl b hlt),(h.mp k es hk).2⟩⟩
 ·intro b hb' hb0;rw[hbl b (Nat.lt_of_lt_of_le hb' h.size)];exact h.old b hb' hb0
 ·intro k c t hk;rw[hbl _ (h.lt hk)];exact h.own k c t hk
 ·intro k n l hk;exact(h.rd k n l hk).same hsz (λb _ hlt=>hbl b hlt)
theorem xh.handle {G:wQ} {w0:World} {B0:xB} {e:Env} {H:wm} {w:World} (h:xh G w0 B0 e H w) {k:Nat} (hk:H k=none) {v:Value} {n:Nat} {l:List Value} (hr:Reads w v n l)
  (ha:∀ j c t,H j=some (.own c t)->yR v≠some (e.blk j)) (hw:∀ b,yR v=some b->w0.heap.size<=b\/∃ j∈B0.dom,yR (B0.env.hnd j)=some b):xh G w0 B0 (e.aeZ k v) (H.put k (.rd n l)) w:=by
 have hon:=Env.aCB hk e v;have hne:∀ j o,H j=some o->j≠k:=λj o hj=>by rintro rfl;rw[hk] at hj;cases hj
 have hown:∀ j c t,(H.put k (.rd n l)) j=some (.own c t)->H j=some (.own c t):=λj c t hj=>by
  rcases wm.put_eq hj with⟨rfl,he⟩|⟨_,hj⟩
  ·cases he
  ·exact hj
 refine⟨h.os,h.tape,h.output,h.size,h.old,h.gl,?_,?_,?_,?_,?_,?_,?_,λj hj=>⟨wm.an2 _ _ _ (h.env j hj).1,(h.env j hj).2.1,by
  have:j≠k:=λe=>(h.env j hj).1 (by rw[e];exact hk)
  simpa [Env.aeZ,this] using(h.env j hj).2.2⟩,λj m l' hj b hv=>by
  rcases wm.put_eq hj with⟨h1,_⟩|⟨hjk,h1⟩
  ·rw[h1] at hv;exact hw b (by simpa [Env.aeZ] using hv)
  ·exact h.new j m l' h1 b (by simpa [Env.aeZ,hjk] using hv),λj es hj=>by
  rcases wm.put_eq hj with⟨_,he⟩|⟨hjk,h1⟩
  ·cases he
  ·obtain⟨m1,m2⟩:=h.mp j es h1;have e1:(e.aeZ k v).hnd j=e.hnd j:=by simp[Env.aeZ,hjk]
   rw[e1]
   exact⟨m1,λj' c t hj'=>m2 j' c t (hown j' c t hj')⟩⟩
 ·intro j c t hj;rw[AV.azj hon c (λr hr=>h.refs j _ (hown j c t hj) r hr)];exact h.own j c t (hown j c t hj)
 ·intro j c t hj;exact h.ge j c t (hown j c t hj)
 ·intro j c t hj;exact h.glo j c t (hown j c t hj)
 ·intro j c t j' c' t' hj hj';exact h.inj j c t j' c' t' (hown _ _ _ hj) (hown _ _ _ hj')
 ·intro j m l' hj;rcases wm.put_eq hj with⟨rfl,he⟩|⟨hjk,hj⟩
  ·cases he;simpa [Env.aeZ] using hr
  ·simpa [Env.aeZ,hjk] using h.rd j m l' hj
 ·intro j m l' j' c t hj hj';have h2:=hown _ _ _ hj';rcases wm.put_eq hj with⟨h1,he⟩|⟨hjk,h1⟩
  ·rw[h1];simpa [Env.aeZ] using ha j' c t h2
  ·simpa [Env.aeZ,hjk] using h.apart j m l' j' c t h1 h2
 ·intro j o hj r hr;rcases wm.put_eq hj with⟨rfl,rfl⟩|⟨hjk,hj⟩
  ·simp[AO.refs] at hr
  ·exact wm.an2 _ _ _ (h.refs j o hj r hr)
theorem xh.aD4 {G:wQ} {w0:World} {B0:xB} {e:Env} {H:wm} {w w':World} (h:xh G w0 B0 e H w) (hw:vY w w') {k:Nat} (hk:H k=none) {b:Nat} (hb:w.heap.size<=b) {es:List (Value×Value)}
  (ho:w'.heap[b]? = some (Ia es)):xh G w0 B0 (e.aeZ k (.map (some b))) (H.put k (.mp es)) w':=by
 have h':=h.below hw;have hon:=Env.aCB hk e (.map (some b))
 have hown:∀ j c t,(H.put k (.mp es)) j=some (.own c t)->H j=some (.own c t):=λj c t hj=>by
  rcases wm.put_eq hj with⟨rfl,he⟩|⟨_,hj⟩
  ·cases he
  ·exact hj
 have hrd:∀ j n l,(H.put k (.mp es)) j=some (.rd n l)->j≠k/\H j=some (.rd n l):=λj n l hj=>by
  rcases wm.put_eq hj with⟨rfl,he⟩|⟨hjk,hj⟩
  ·cases he
  ·exact⟨hjk,hj⟩
 have hh:∀ j,j≠k->(e.aeZ k (.map (some b))).hnd j=e.hnd j:=λj hj=>by simp[Env.aeZ,hj]
 have hhk:(e.aeZ k (.map (some b))).hnd k = .map (some b):=by simp[Env.aeZ]
 refine⟨h'.os,h'.tape,h'.output,h'.size,h'.old,h'.gl,?_,?_,?_,?_,?_,?_,?_,λj hj=>⟨wm.an2 _ _ _ (h.env j hj).1,(h.env j hj).2.1,by rw[hh j (λe=>(h.env j hj).1 (by rw[e];exact hk))];exact(h.env j hj).2.2⟩,?_,?_⟩
 ·intro j c t hj;rw[AV.azj hon c (λr hr=>h.refs j _ (hown j c t hj) r hr)];exact h'.own j c t (hown j c t hj)
 ·intro j c t hj;exact h'.ge j c t (hown j c t hj)
 ·intro j c t hj;exact h'.glo j c t (hown j c t hj)
 ·intro j c t j' c' t' hj hj';exact h'.inj j c t j' c' t' (hown _ _ _ hj) (hown _ _ _ hj')
 ·intro j n l hj;obtain⟨h1,h2⟩:=hrd j n l hj;rw[hh j h1];exact h'.rd j n l h2
 ·intro j n l j' c t hj hj';obtain⟨h1,h2⟩:=hrd j n l hj;rw[hh j h1];exact h'.apart j n l j' c t h2 (hown _ _ _ hj')
 ·intro j o hj r hr;rcases wm.put_eq hj with⟨rfl,rfl⟩|⟨hjk,hj⟩
  ·simp[AO.refs] at hr
  ·exact wm.an2 _ _ _ (h.refs j o hj r hr)
 ·intro j n l hj b' hv;obtain⟨h1,h2⟩:=hrd j n l hj;rw[hh j h1] at hv;exact h'.new j n l h2 b' hv
 ·intro j es' hj;rcases wm.put_eq hj with⟨rfl,he⟩|⟨hjk,h1⟩
  ·cases he;rw[hhk];refine⟨⟨b,rfl,ho⟩,λj' c' t' hj' hv=>?_⟩;simp only[Vz,Option.some.injEq] at hv;have:=h.lt (hown j' c' t' hj');have e1:(e.aeZ j (.map (some b))).blk j'=e.blk j':=rfl;omega
  ·rw[hh j hjk];obtain⟨m1,m2⟩:=h'.mp j es' h1;exact⟨m1,λj' c' t' hj'=>m2 j' c' t' (hown j' c' t' hj')⟩
open Go.RowKit
def yn (P:Program) (t:TypeId):Option Nat:=(P.info? t).map (·.size)
def Kt (P:Program) (t:TypeId):Option Bool:=match P.underlying t with|none=>none|some (.struct _)=>some true|some (.array _ _)=>some true|some _=>some false
def Ib (P:Program) (t:TypeId) (f:Nat):Option (Nat×TypeId):=match P.underlying t with|some (.struct fs)=>(fs[f]?).map λx=>(x.offset,x.type)|_=>none
def Dw (P:Program) (t:TypeId):Option (Nat×TypeId):=match P.underlying t with|some (.array n e)=>some (n,e)|_=>none
def Ic (P:Program) (t:TypeId):Option TypeId:=match P.underlying t with|some (.slice e)=>some e|_=>none
def Oy (P:Program) (t:TypeId):Option IntKind:=match P.underlying t with|some (.int k)=>some k|_=>none
def Gx (P:Program) (t:TypeId):Option (List Value):=((P.info? t).bind (·.zero)).map (·.cells.toList)
def yF:List AV->Option (List Value)
 | []=>some []
 | .v x::l=>match yF l with|some vs=>some (x::vs)|none=>none
 | _::_=>none
def Bi (l:List AV):AV:=match yF l with|some vs=>.v (.agg vs.toArray)|none=>.agg l
def Cq (l:List AV):AV:=match yF l with|some vs=>.v (.tuple vs.toArray)|none=>.tup l
def Cr (f:Fn) (a c:List AV):AV:=match yF a,yF c with|some x,some y=>.v (.func f x.toArray y.toArray)|_,_=>.fn f a c
theorem Ms {e:Env} : ∀ {l:List AV} {vs:List Value},yF l=some vs->AV.vals e l=vs
 | [],vs,h=>by simp only[yF,Option.some.injEq] at h;subst h;rfl
 | x::l,vs,h=>by
  cases x<;>simp only[yF] at h<;>try cases h
  rename_i x
  cases hl:yF l with
  | none=>rw[hl] at h;cases h
  | some ws =>
   rw[hl] at h;simp only[Option.some.injEq] at h;subst h;rw[AV.vals,Ms hl];rfl
theorem Td (e:Env) (l:List AV):(Bi l).val e = .agg (AV.vals e l).toArray:=by
 unfold Bi
 cases h:yF l with
 | none=>rfl
 | some vs=>simp only[AV.val,Ms h]
theorem YV (e:Env) (l:List AV):(Cq l).val e = .tuple (AV.vals e l).toArray:=by
 unfold Cq
 cases h:yF l with
 | none=>rfl
 | some vs=>simp only[AV.val,Ms h]
theorem anc (e:Env) (f:Fn) (a c:List AV):(Cr f a c).val e = .func f (AV.vals e a).toArray (AV.vals e c).toArray:=by unfold Cr;cases h:yF a<;>cases h':yF c<;>simp only[AV.val];rw[Ms h,Ms h']
theorem YW {l:List AV} {r:Nat} (h:r∈(Bi l).refs):r∈AV.aav l:=by
 unfold Bi at h;split at h
 ·simp[AV.refs] at h
 ·simpa [AV.refs] using h
theorem ane {l:List AV} {r:Nat} (h:r∈(Cq l).refs):r∈AV.aav l:=by
 unfold Cq at h;split at h
 ·simp[AV.refs] at h
 ·simpa [AV.refs] using h
theorem aft {f:Fn} {a c:List AV} {r:Nat} (h:r∈(Cr f a c).refs):r∈AV.aav a++AV.aav c:=by
 unfold Cr at h;split at h
 ·simp[AV.refs] at h
 ·simpa [AV.refs] using h
def yu:AV->List AV
 | .v x=>x.cells.toList.map .v
 | .agg l=>l
 | x=>[x]
theorem Cs (e:Env) (l:List Value):AV.vals e (l.map .v)=l:=by
 induction l with
 | nil=>rfl
 | cons x l ih=>rw[List.map_cons,AV.vals,ih];rfl
theorem Jd (l:List Value):AV.aav (l.map .v) = []:=by
 induction l with
 | nil=>rfl
 | cons x l ih=>rw[List.map_cons,AV.aav,ih];rfl
theorem anf (v:Value):(EP v).cells = #[EP v]:=by cases v<;>rfl
theorem VA (e:Env) (a:AV):(a.val e).cells=(AV.vals e (yu a)).toArray:=by
 cases a with
 | v x=>simp[yu,Cs,AV.val]
 | agg l=>rfl
 | hd k=>simp only[yu,AV.vals,AV.val,anf]
 | ha k off=>simp only[yu,AV.vals,AV.val];split<;>rfl
 | _=>rfl
theorem VB {a:AV} {r:Nat} (h:r∈AV.aav (yu a)):r∈a.refs:=by cases a<;>simp_all[yu,Jd,AV.aav,AV.refs]
def Mt:AV->Bool
 | .v (.agg _)=>false
 | .v (.tuple _)=>false
 | .v _=>true
 | .agg _=>false
 | .tup _=>false
 | .ha _ _=>false
 | _=>true
theorem ang {e:Env} {a:AV} (h:Mt a=true):(a.val e).oneCell'=true:=by
 cases a with
 | v x=>cases x<;>first|rfl|simp[Mt] at h
 | hd k=>simp only[AV.val];cases e.hnd k<;>rfl
 | _=>first|rfl|simp[Mt] at h
def VC (G:List (Nat×List Value)) (g:Nat):Option (List Value):=match G with
 | []=>none
 | x::l=>if x.1=g then some x.2 else VC l g
theorem anh {G:List (Nat×List Value)} {g:Nat} {c:List Value} (h:VC G g=some c):∃ x∈G,x.1=g/\x.2=c:=by
 induction G with
 | nil=>cases h
 | cons x G ih =>
  simp only[VC] at h;split at h
  ·rename_i hk;cases h;exact⟨x,List.mem_cons_self,hk,rfl⟩
  ·obtain⟨y,hy,r⟩:=ih h;exact⟨y,List.mem_cons_of_mem _ hy,r⟩
def YX (G:wQ) (g:Nat):Option (List Value):=VC G.l g
theorem ani {G:wQ} {g:Nat} {c:List Value} (h:YX G g=some c):∃ x∈G,x.1=g/\x.2=c:=anh h
def Aq (P:Program) (t:TypeId) (c:List AV) (off:Nat):Option AV :=
 match Kt P t with
 | some true=>match yn P t with
  | some s=>if off+s<=c.length/\0<s then some (Bi ((c.drop off).take s)) else none
  | none=>none
 | some false=>c[off]?
 | none=>none
theorem Oz {P:Program} {t:TypeId} {c:List AV} {off:Nat} {r:AV} (h:Aq P t c off=some r) {b:Nat} (hb:b∈r.refs):b∈AV.aav c:=by
 unfold Aq at h;split at h
 ·split at h
  ·split at h
   ·cases h;obtain⟨x,hx,hr⟩:=AV.aec.1 (YW hb);exact AV.aec.2 ⟨x,List.mem_of_mem_drop (List.mem_of_mem_take hx),hr⟩
   ·cases h
  ·cases h
 ·exact AV.aec.2 ⟨r,List.mem_of_getElem? h,hb⟩
 ·cases h
theorem OA {P:Program} {t:TypeId} {b:Bool} (h:Kt P t=some b) (w:World):(isAgg t).run P w = .ok b w:=by
 unfold Kt at h;unfold isAgg
 cases hu:P.underlying t with
 | none=>rw[hu] at h;cases h
 | some d =>
  rw[hu] at h;cases d<;>simp[run_underlying hu] at h ⊢ <;> exact h.symm▸rfl
theorem run_sizeOf {P:Program} {t:TypeId} {s:Nat} (h:yn P t=some s) (w:World):(sizeOf t).run P w = .ok s w:=by
 unfold yn at h
 cases hi:P.info? t with
 | none=>rw[hi] at h;cases h
 | some i =>
  rw[hi] at h;simp at h;simp[sizeOf,typeInfo,hi,h]
theorem EQ (e:Env) (l:List AV):(AV.vals e l).length=l.length:=by rw[AV.akT];simp
theorem YY {P:Program} {t:TypeId} {c:List AV} {off:Nat} {r:AV} {e:Env} {w:World} {b o:Nat} (h:Aq P t c off=some r)
  (hc:∀ j x,(AV.vals e c)[j]? = some x->w.cell? ⟨b,o+j,none⟩=some x) :
  (loadVar t ⟨b,o+off,none⟩).run P w = .ok (r.val e) w:=by
 have hadd:∀ n i:Nat,(⟨b,n,none⟩:Addr).add i=⟨b,n+i,none⟩:=λn i=>by unfold Addr.add;split<;>simp_all
 unfold Aq at h;unfold loadVar
 cases ha:Kt P t with
 | none=>rw[ha] at h;cases h
 | some q =>
  rw[ha] at h
  cases q with
  | true =>
   simp only at h
   cases hs:yn P t with
   | none=>rw[hs] at h;cases h
   | some s =>
    rw[hs] at h;simp only at h;split at h
    ·rename_i hle;cases h;have hl:(AV.vals e ((c.drop off).take s)).length=s:=by rw[EQ];simp;omega
     have:=run_loadCells_list (P:=P) w ⟨b,o+off,none⟩ (AV.vals e ((c.drop off).take s)) (λj x hj=>by
      rw[hadd,Nat.add_assoc];refine hc _ _ ?_;rw[AV.akT] at hj ⊢;simp only[List.getElem?_map,List.getElem?_take,List.getElem?_drop] at hj ⊢;split at hj
      ·exact hj
      ·simp at hj)
     rw[hl] at this;simp[OA ha,run_sizeOf hs,this,Td]
    ·cases h
  | false =>
   have hx:w.cell? ⟨b,o+off,none⟩=some (r.val e):=hc off _ (by rw[AV.akT];simp[h]);simp[OA ha,hx]
abbrev Mv:=Option (AV×List Nat×List (Nat×AO))
def CK (P:Program) (G:wQ) (t:TypeId) (H:wm):AV->Mv
 | .loc b off=>match H b with
  | some (.own c _)=>match Aq P t c off with|some r=>some (r,[b],[])|none=>none
  | _=>none
 | .ha k off=>match H k with
  | some (.rd _ c)=>match Aq P t (c.map .v) off with|some r=>some (r,[k],[])|none=>none
  | _=>none
 | .v (.pointer (some ⟨g,off,none⟩))=>match YX G g with
  | some c=>match Aq P t (c.map .v) off with|some r=>some (r,[],[])|none=>none
  | none=>none
 | _=>none
def Je (P:Program) (t:TypeId) (H:wm) (x y:AV):Mv :=
 match x with
 | .loc b off=>match H b with
  | some (.own c tt) =>
   if (yu y).all Mt&&decide (yn P t=some (yu y).length)&&decide (off+(yu y).length<=c.length) then
    some (.v undef,[b],[(b,.own (c.take off++yu y++c.drop (off+(yu y).length)) tt)])
   else none
  | _=>none
 | _=>none
def Ku (P:Program) (t:TypeId) (f:Nat) (x:AV):Option AV :=
 match x with
 | .v (.agg _) | .agg _=>match Ib P t f with
  | some (off,ft)=>Aq P ft (yu x) off
  | none=>none
 | _=>none
def Kv (P:Program) (t:TypeId) (f:Nat) (x:AV):Option AV :=
 match Ib P t f with
 | some (off,ft)=>match yn P ft with
  | some (_+1)=>match x with
   | .loc b o=>some (.loc b (o+off))
   | .ha k o=>some (.ha k (o+off))
   | .v (.pointer (some ⟨g,o,none⟩))=>some (.v (.pointer (some ⟨g,o+off,none⟩)))
   | _=>none
  | _=>none
 | none=>none
def ER (P:Program) (t:TypeId) (H:wm) (x i:AV):Option (AV×List Nat) :=
 match i with
 | .v (.int _ n)=>match x with
  | .loc b o=>match Dw P t with
   | some (len,el)=>match yn P el with
    | some s=>if 0<=n/\n<len then some (.loc b (o+n.toNat*s),[]) else none
    | none=>none
   | none=>none
  | .v (.pointer (some ⟨g,o,none⟩))=>match Dw P t with
   | some (len,el)=>match yn P el with
    | some s=>if 0<=n/\n<len then some (.v (.pointer (some ⟨g,o+n.toNat*s,none⟩)),[]) else none
    | none=>none
   | none=>none
  | .sl b o len _=>match Ic P t with
   | some el=>match yn P el with
    | some s=>if 0<=n/\n<len then some (.loc b (o+n.toNat*s),[]) else none
    | none=>none
   | none=>none
  | .hd k=>match H k with
   | some (.rd len _)=>match Ic P t with
    | some el=>match yn P el with
     | some s=>if 0<=n/\n<len then some (.ha k (n.toNat*s),[k]) else none
     | none=>none
    | none=>none
   | _=>none
  | _=>none
 | _=>none
def Kw (P:Program) (t:TypeId) (x i:AV):Option AV :=
 match x,i with
 | .v (.agg cs),.v (.int _ n)=>match Dw P t with
  | some (len,el)=>match yn P el with
   | some s=>if 0<=n/\n<len then Aq P el (cs.toList.map .v) (n.toNat*s) else none
   | none=>none
  | none=>none
 | .agg cs,.v (.int _ n)=>match Dw P t with
  | some (len,el)=>match yn P el with
   | some s=>if 0<=n/\n<len then Aq P el cs (n.toNat*s) else none
   | none=>none
  | none=>none
 | _,_=>none
def OB (x:AV) (i:Nat):Option AV :=
 match x with
 | .v (.tuple vs)=>match vs.toList[i]? with|some v=>some (.v v)|none=>none
 | .tup l=>l[i]?
 | _=>none
def FB (place:Nat->Option (Nat×Nat)) (cells:List AV):List (Nat×AV)->Option (List AV)
 | []=>some cells
 | (i,x)::rest=>match place i with
  | none=>none
  | some (off,size)=>if (yu x).length=size/\off+size<=cells.length then FB place (cells.take off++yu x++cells.drop (off+size)) rest else none
def Te (P:Program) (t:TypeId) (i:Nat):Option (Nat×Nat) :=
 match P.underlying t with
 | some (.struct fs)=>match fs[i]? with
  | some f=>match yn P f.type with|some s=>some (f.offset,s)|none=>none
  | none=>none
 | some (.array _ e)=>match yn P e with|some s=>some (i*s,s)|none=>none
 | _=>none
def VD (P:Program) (t:TypeId):Bool :=
 match P.underlying t with
 | some (.struct fs)=>fs.toList.all λf=>(yn P f.type).isSome
 | some (.array _ e)=>(yn P e).isSome
 | _=>false
def Dx (ρ:Operand->Option AV):List (Nat×Operand)->Option (List (Nat×AV))
 | []=>some []
 | (i,x)::l=>match ρ x,Dx ρ l with
  | some a,some r=>some ((i,a)::r)
  | _,_=>none
def CL (ρ:Operand->Option AV):List Operand->Option (List AV)
 | []=>some []
 | x::l=>match ρ x,CL ρ l with
  | some a,some r=>some (a::r)
  | _,_=>none
def Mw (op:BinOp) (k:IntKind) (x y:Int):Value :=
 let a:=BitVec.ofInt k.bits x;let b:=BitVec.ofInt k.bits y
 .int k (k.wrap (match op with | .and=>a&&&b | .or=>a|||b | .xor=>a ^^^ b|_=>a &&& ~~~b).toNat)
def Bj (P:Program) (op:BinOp) (t:TypeId) (x y:Value):Option Value :=
 match x,y with
 | .int k a,.int k' b=>match op with
  | .shl=>if b<0 then none else some (.int k (k.wrap (a*2^min b.toNat k.bits)))
  | .shr=>if b<0 then none else some (.int k (a.fdiv (2^min b.toNat k.bits)))
  | .add=>if k=k' then some (.int k (k.wrap (a+b))) else none
  | .sub=>if k=k' then some (.int k (k.wrap (a-b))) else none
  | .mul=>if k=k' then some (.int k (k.wrap (a*b))) else none
  | .quo=>if k=k'/\b≠0 then some (.int k (k.wrap (a.tdiv b))) else none
  | .rem=>if k=k'/\b≠0 then some (.int k (a.tmod b)) else none
  | .and=>if k=k' then some (Mw .and k a b) else none
  | .or=>if k=k' then some (Mw .or k a b) else none
  | .xor=>if k=k' then some (Mw .xor k a b) else none
  | .andNot=>if k=k' then some (Mw .andNot k a b) else none
  | .eql=>if k=k' then some (.bool (a==b)) else none
  | .neq=>if k=k' then some (.bool (a != b)) else none
  | .lss=>if k=k' then some (.bool (decide (a<b))) else none
  | .leq=>if k=k' then some (.bool (decide (a<=b))) else none
  | .gtr=>if k=k' then some (.bool (decide (a>b))) else none
  | .geq=>if k=k' then some (.bool (decide (a>=b))) else none
 | .bool a,.bool b=>match op with
  | .eql=>match P.underlying t with|some .bool=>some (.bool (a==b))|_=>none
  | .neq=>match P.underlying t with|some .bool=>some (.bool (!(a==b)))|_=>none
  | _=>none
 | _,_=>none
abbrev xV:=BinOp->TypeId->Value->Value->Option Value
def Jf (P:Program) (E:xV):Prop:=∀ op t x y v,E op t x y=some v->∀ (xo yo:Operand) (w:World),(do eqGuard op t xo yo x y;binOp op t x y:Sem Value).run P w = .ok v w
def Ky (P:Program) (E:xV) (op:BinOp) (t:TypeId) (x y:AV):Option AV :=
 match x,y with
 | .v a,.v b=>match Bj P op t a b with
  | some v=>some (.v v)
  | none=>match E op t a b with|some v=>some (.v v)|none=>none
 | _,_=>none
def OC (op:UnOp) (x:AV):Option AV :=
 match op,x with
 | .neg,.v (.int k n)=>some (.v (.int k (k.wrap (0-n))))
 | .xor,.v (.int k n)=>some (.v (Mw .xor k (if k.signed then -1 else k.max) n))
 | .not,.v (.bool b)=>some (.v (.bool !b))
 | _,_=>none
def VE (P:Program) (src dst:TypeId) (x:AV):Option AV :=
 match x with
 | .v (.int _ n)=>match Oy P dst,P.underlying src with
  | some k,some _=>some (.v (.int k (k.wrap n)))
  | _,_=>none
 | _=>none
def VF (x:AV):Option AV :=
 match x with
 | .loc _ _=>some x
 | .v (.func (.func _) _ _)=>some x
 | .v (.pointer (some _))=>some x
 | .fn (.func _) _ _=>some x
 | _=>none
def VG (z:List Value) (j:Nat):Nat->List Value
 | 0=>[]
 | n+1=>(z[j%z.length]?).getD default::VG z (j+1) n
def Jg (z:List Value) (n:Nat):List Value:=VG z 0 n
theorem afu (z:List Value):∀ (n j:Nat),VG z j n=(List.range' j n).map λi=>z.toArray[i%z.length]!
 | 0,j=>rfl
 | n+1,j=>by rw[VG,List.range'_succ,List.map_cons,afu z n (j+1)];simp[List.getElem!_toArray,List.getElem!_eq_getElem?_getD]
theorem afv (z:List Value) (n:Nat):Jg z n=(List.range n).map λj=>z.toArray[j%z.length]!:=by rw[Jg,afu,List.range_eq_range']
def OD (P:Program) (t:TypeId) (len:Nat) (k:Nat) (ps:List (Nat×AV)):Mv :=
 match Ic P t with
 | some el=>match yn P el,Gx P el with
  | some s,some z =>
   if len*s<=2^24/\len*s≠0 then
    match FB (λi=>some (i*s,s)) ((Jg z (len*s)).map .v) ps with
    | some c=>some (.sl k 0 len len,[],[(k,.own c el)])
    | none=>none
   else none
  | _,_=>none
 | none=>none
def Dy (P:Program) (t:TypeId) (H:wm) (x:AV):Option (AV×List Nat) :=
 match P.underlying t with
 | some (.slice _)=>match x with
  | .sl _ _ n _=>some (.v (.int .i64 n),[])
  | .hd k=>match H k with|some (.rd n _)=>some (.v (.int .i64 n),[k])|_=>none
  | .v (.slice _ n _)=>some (.v (.int .i64 n),[])
  | _=>none
 | some .string=>match x with | .v (.string s)=>some (.v (.int .i64 s.size),[])|_=>none
 | some (.array n _)=>some (.v (.int .i64 n),[])
 | _=>none
def YZ (P:Program) (t:TypeId):Option Nat:=(P.info? t).map (·.bytes)
def Jh (P:Program) (t:TypeId) (H:wm) (x:AV):Option (AV×List Nat) :=
 match Dw P t with
 | some (n,_)=>match x with
  | .sl b o len _=>if n<=len then some (.loc b o,[]) else none
  | .hd k=>match H k with|some (.rd len _)=>if n<=len/\0<len then some (.ha k 0,[k]) else none|_=>none
  | _=>none
 | none=>none
def OE (P:Program) (t:TypeId) (k:Nat) (x y:AV):Mv :=
 match x,y with
 | .v (.int _ n),.v (.int _ m)=>match Ic P t with
  | some el=>match yn P el,Gx P el,YZ P el with
   | some s,some z,some b=>if 0<=n/\n<=m/\m<16777216/\b<=4096/\m.toNat*s≠0 then some (.sl k 0 n.toNat m.toNat,[],[(k,.own ((Jg z (m.toNat*s)).map .v) el)]) else none
   | _,_,_=>none
  | none=>none
 | _,_=>none
def Tf (P:Program) (t:TypeId) (x:AV):Option AV :=
 match Dw P t with
 | some (n,el)=>match x,yn P el with
  | .loc b o,some _=>some (.sl b o n n)
  | _,_=>none
 | none=>none
def wt (x:Option AV):Mv:=match x with|some a=>some (a,[],[])|none=>none
def El (x:Option (AV×List Nat)):Mv:=match x with|some (a,l)=>some (a,l,[])|none=>none
def Ji (kd:IntKind) (n:Int):List (Value×Value)->Option (Option Value)
 | []=>some none
 | x::l=>match x.1 with
  | .int k' m=>if kd=k' then(if n=m then some (some x.2) else Ji kd n l) else none
  | _=>none
def Za (P:Program) (t:TypeId):Option Value:=(P.info? t).bind (·.zero)
def Gy (q:Bool) (v:Value) (b:Bool):Value:=if q then .tuple #[v,.bool b] else v
def Ie (P:Program) (t:TypeId) (H:wm) (x i:AV) (q:Bool):Option (AV×List Nat):=match x,i with
 | .hd k,.v (.int kd n)=>match H k with
  | some (.mp es)=>match P.underlying t with
   | some (.map kt et)=>match Oy P kt with
    | some kd'=>if kd'=kd then match Ji kd n es with
      | some (some v)=>some (.v (Gy q v true),[k])
      | some none=>match Za P et with|some z=>some (.v (Gy q z false),[k])|none=>none
      | none=>none
     else none
    | none=>none
   | _=>none
  | _=>none
 | _,_=>none
def xc (P:Program) (G:wQ) (E:xV) (op:Op) (ρ:Operand->Option AV) (H:wm) (k:Nat):Mv :=
 match op with
 | .move x=>wt (ρ x)
 | .assign x=>wt (ρ x)
 | .pick c a b=>match ρ c with
  | some (.v (.bool q))=>if q then wt (ρ a) else wt (ρ b)
  | _=>none
 | .alloc t=>match Gx P t with|some z=>some (.loc k 0,[],[(k,.own (z.map .v) t)])|none=>none
 | .box t x=>match ρ x with|some a=>some (.loc k 0,[],[(k,.own (yu a) t)])|none=>none
 | .build t ps=>match Dx ρ ps.toList,Gx P t with
  | some l,some z=>if VD P t then match FB (Te P t) (z.map .v) l with|some c=>some (Bi c,[],[])|none=>none else none
  | _,_=>none
 | .buildSlice t len ps=>match Dx ρ ps.toList with|some l=>OD P t len k l|none=>none
 | .load t x=>match ρ x with|some a=>CK P G t H a|none=>none
 | .store t x y=>match ρ x,ρ y with|some a,some b=>Je P t H a b|_,_=>none
 | .nilCheck x=>match ρ x with|some a=>wt (VF a)|none=>none
 | .binOp op t x y _=>match ρ x,ρ y with|some a,some b=>wt (Ky P E op t a b)|_,_=>none
 | .unOp op _ x=>match ρ x with|some a=>wt (OC op a)|none=>none
 | .convert s d x=>match ρ x with|some a=>wt (VE P s d a)|none=>none
 | .makeFunc f a c=>match CL ρ a.toList,CL ρ c.toList with|some x,some y=>some (Cr f x y,[],[])|_,_=>none
 | .fieldAddr t x f=>match ρ x with|some a=>wt (Kv P t f a)|none=>none
 | .field t x f=>match ρ x with|some a=>wt (Ku P t f a)|none=>none
 | .indexAddr t x i=>match ρ x,ρ i with|some a,some b=>El (ER P t H a b)|_,_=>none
 | .index t x i=>match ρ x,ρ i with|some a,some b=>wt (Kw P t a b)|_,_=>none
 | .extract x i=>match ρ x with|some a=>wt (OB a i)|none=>none
 | .call { callee:=.builtin .len,args:=args,argTypes:=ts }=>match args.toList,ts.toList with
  | [x],[t]=>match ρ x with|some a=>El (Dy P t H a)|none=>none
  | _,_=>none
 | .call { callee:=.builtin .min,args:=args,argTypes:=_ }=>match args.toList with
  | [x,y]=>match ρ x,ρ y with|some (.v (.int k a)),some (.v (.int _ b))=>some (.v (.int k (if b<a then b else a)),[],[])|_,_=>none
  | _=>none
 | .call { callee:=.builtin .max,args:=args,argTypes:=_ }=>match args.toList with
  | [x,y]=>match ρ x,ρ y with|some (.v (.int k a)),some (.v (.int _ b))=>some (.v (.int k (if b>a then b else a)),[],[])|_,_=>none
  | _=>none
 | .sliceToArrayPointer t x=>match ρ x with|some a=>El (Jh P t H a)|none=>none
 | .makeSlice t x y=>match ρ x,ρ y with|some a,some b=>OE P t k a b|_,_=>none
 | .slice t x none none none=>match ρ x with|some a=>wt (Tf P t a)|none=>none
 | .lookup t x i q=>match ρ x,ρ i with|some a,some b=>El (Ie P t H a b q)|_,_=>none
 | _=>none
theorem VH {ρ ρ':Operand->Option AV} : ∀ {l:List Operand},(∀ x∈l,ρ' x=ρ x)->CL ρ' l=CL ρ l
 | [],_=>rfl
 | x::l,h=>by rw[CL,CL,h x (by simp),VH (l:=l) (λy hy=>h y (by simp[hy]))]
theorem Zb {ρ ρ':Operand->Option AV} : ∀ {l:List (Nat×Operand)},(∀ x∈l,ρ' x.2=ρ x.2)->Dx ρ' l=Dx ρ l
 | [],_=>rfl
 | (i,x)::l,h=>by rw[Dx,Dx,h (i,x) (by simp),Zb (l:=l) (λy hy=>h y (by simp[hy]))]
theorem anj {P:Program} {G:wQ} {t:TypeId} {H H':wm} {a r:AV} {tc:List Nat} {ef:List (Nat×AO)} (h:CK P G t H a=some (r,tc,ef)) (hb:∀ b∈tc,H' b=H b):CK P G t H' a=some (r,tc,ef):=by
 rw[<- h];unfold CK at h ⊢;split at h
 ·rename_i b off
  have hb':H' b=H b:=by
   apply hb;split at h
   ·split at h
    ·cases h;simp
    ·cases h
   ·cases h
  simp only[hb']
 ·rename_i k off
  have hb':H' k=H k:=by
   apply hb;split at h
   ·split at h
    ·cases h;simp
    ·cases h
   ·cases h
  simp only[hb']
 ·rfl
 ·rfl
theorem ank {P:Program} {t:TypeId} {H H':wm} {x y r:AV} {tc:List Nat} {ef:List (Nat×AO)} (h:Je P t H x y=some (r,tc,ef)) (hb:∀ b∈tc,H' b=H b):Je P t H' x y=some (r,tc,ef):=by
 rw[<- h];unfold Je at h ⊢;split at h
 ·rename_i b off
  have hb':H' b=H b:=by
   apply hb;split at h
   ·split at h
    ·cases h;simp
    ·cases h
   ·cases h
  simp only[hb']
 ·rfl
theorem anl {P:Program} {t:TypeId} {H H':wm} {x y r:AV} {tc:List Nat} (h:ER P t H x y=some (r,tc)) (hb:∀ b∈tc,H' b=H b):ER P t H' x y=some (r,tc):=by
 rw[<- h];unfold ER at h ⊢;split at h
 ·split at h
  ·rfl
  ·rfl
  ·rfl
  ·rename_i k
   have hb':H' k=H k:=by
    apply hb;split at h
    ·split at h
     ·split at h
      ·split at h
       ·cases h;simp
       ·cases h
      ·cases h
     ·cases h
    ·cases h
   simp only[hb']
  ·rfl
 ·rfl
theorem anm {P:Program} {t:TypeId} {H H':wm} {x r:AV} {tc:List Nat} (h:Dy P t H x=some (r,tc)) (hb:∀ b∈tc,H' b=H b):Dy P t H' x=some (r,tc):=by
 rw[<- h];unfold Dy at h ⊢;split at h
 ·split at h
  ·rfl
  ·rename_i k
   have hb':H' k=H k:=by
    apply hb;split at h
    ·cases h;simp
    ·cases h
   simp only[hb']
  ·rfl
  ·rfl
 ·rfl
 ·rfl
 ·rfl
theorem ann {P:Program} {t:TypeId} {H H':wm} {x r:AV} {tc:List Nat} (h:Jh P t H x=some (r,tc)) (hb:∀ b∈tc,H' b=H b):Jh P t H' x=some (r,tc):=by
 rw[<- h];unfold Jh at h ⊢;split at h
 ·split at h
  ·rfl
  ·rename_i k
   have hb':H' k=H k:=by
    apply hb;split at h
    ·split at h
     ·cases h;simp
     ·cases h
    ·cases h
   simp only[hb']
  ·rfl
 ·rfl
theorem ano {P:Program} {t:TypeId} {H H':wm} {x i r:AV} {q:Bool} {tc:List Nat} (h:Ie P t H x i q=some (r,tc)) (hb:∀ b∈tc,H' b=H b):Ie P t H' x i q=some (r,tc):=by
 unfold Ie at h ⊢;split at h
 ·rename_i k kd n
  have hb':H' k=H k:=by
   apply hb;split at h
   ·split at h
    ·split at h
     ·split at h
      ·split at h
       ·cases h;simp
       ·split at h
        ·cases h;simp
        ·cases h
       ·cases h
      ·cases h
     ·cases h
    ·cases h
   ·cases h
  rw[hb'];exact h
 ·cases h
theorem anp {P : Program} {G : wQ} {E : xV} {op : Op} {ρ ρ' : Operand -> Option AV} {H H' : wm} {k : Nat} {r : AV} {tc : List Nat} {ef : List (Nat × AO)} (h : xc P G E op ρ H k = some (r, tc, ef))
    (hx : ∀ x ∈ op.operands, ρ' x = ρ x) (hb : ∀ b ∈ tc, H' b = H b) : xc P G E op ρ' H' k = some (r, tc, ef) := by
  unfold xc at h;split at h
  case h_1 x => simp only [xc]; rw [hx x (by simp [Op.operands])]; exact h
  case h_2 x => simp only [xc]; rw [hx x (by simp [Op.operands])]; exact h
  case h_3 c a b => simp only [xc]; rw [hx c (by simp [Op.operands]), hx a (by simp [Op.operands]), hx b (by simp [Op.operands])]; exact h
  case h_4 => exact h
  case h_5 t x => simp only [xc]; rw [hx x (by simp [Op.operands])]; exact h
  case h_6 t ps => simp only [xc]; rw [Zb (ρ := ρ) (λx hm => hx x.2 (by simp [Op.operands]; exact ⟨x.1, by simpa using hm⟩))]; exact h
  case h_7 t len ps => simp only [xc]; rw [Zb (ρ := ρ) (λx hm => hx x.2 (by simp [Op.operands]; exact ⟨x.1, by simpa using hm⟩))]; exact h
  case h_8 t x =>
    simp only [xc]; rw [hx x (by simp [Op.operands])];split at h
    · exact anj h hb
    · cases h
  case h_9 t x y =>
    simp only [xc]; rw [hx x (by simp [Op.operands]), hx y (by simp [Op.operands])];split at h
    · exact ank h hb
    · cases h
  case h_10 x => simp only [xc]; rw [hx x (by simp [Op.operands])]; exact h
  case h_11 op t x y yt => simp only [xc]; rw [hx x (by simp [Op.operands]), hx y (by simp [Op.operands])]; exact h
  case h_12 op t x => simp only [xc]; rw [hx x (by simp [Op.operands])]; exact h
  case h_13 s d x => simp only [xc]; rw [hx x (by simp [Op.operands])]; exact h
  case h_14 f a c => simp only [xc]; rw [VH (ρ := ρ) (λx hm => hx x (by simp [Op.operands]; left; simpa using hm)), VH (ρ := ρ) (λx hm => hx x (by simp [Op.operands]; right; simpa using hm))]; exact h
  case h_15 t x f => simp only [xc]; rw [hx x (by simp [Op.operands])]; exact h
  case h_16 t x f => simp only [xc]; rw [hx x (by simp [Op.operands])]; exact h
  case h_17 t x i =>
    simp only [xc]; rw [hx x (by simp [Op.operands]), hx i (by simp [Op.operands])];split at h
    · unfold El at h ⊢;split at h
      · rename_i l hl;cases h;rw [anl hl hb]
      · cases h
    · cases h
  case h_18 t x i => simp only [xc]; rw [hx x (by simp [Op.operands]), hx i (by simp [Op.operands])]; exact h
  case h_19 x i => simp only [xc]; rw [hx x (by simp [Op.operands])]; exact h
  case h_20 args ts =>
    simp only [xc];split at h
    · rename_i x t ha ht
      have hm : x ∈ args := by
        have : x ∈ args.toList := by rw [ha]; simp
        simpa using this
      rw [hx x (by simp [Op.operands, Call.operands, hm])];split at h
      · unfold El at h ⊢;split at h
        · rename_i l hl;cases h;rw [anm hl hb]
        · cases h
      · cases h
    · cases h
  case h_21 args ts =>
    simp only [xc];split at h
    · rename_i x y ha
      have hm : x ∈ args /\ y ∈ args := by
        have h1 : x ∈ args.toList := by rw [ha]; simp
        have h2 : y ∈ args.toList := by rw [ha]; simp
        exact ⟨by simpa using h1, by simpa using h2⟩
      rw [hx x (by simp [Op.operands, Call.operands, hm.1]), hx y (by simp [Op.operands, Call.operands, hm.2])];exact h
    · cases h
  case h_22 args ts =>
    simp only [xc];split at h
    · rename_i x y ha
      have hm : x ∈ args /\ y ∈ args := by
        have h1 : x ∈ args.toList := by rw [ha]; simp
        have h2 : y ∈ args.toList := by rw [ha]; simp
        exact ⟨by simpa using h1, by simpa using h2⟩
      rw [hx x (by simp [Op.operands, Call.operands, hm.1]), hx y (by simp [Op.operands, Call.operands, hm.2])];exact h
    · cases h
  case h_23 t x =>
    simp only [xc]; rw [hx x (by simp [Op.operands])];split at h
    · unfold El at h ⊢;split at h
      · rename_i l hl;cases h;rw [ann hl hb]
      · cases h
    · cases h
  case h_24 t x y => simp only [xc]; rw [hx x (by simp [Op.operands]), hx y (by simp [Op.operands])]; exact h
  case h_25 t x => simp only [xc]; rw [hx x (by simp [Op.operands])]; exact h
  case h_26 t x i q =>
    simp only [xc]; rw [hx x (by simp [Op.operands]), hx i (by simp [Op.operands])];split at h
    · unfold El at h ⊢;split at h
      · rename_i l hl;cases h;rw [ano hl hb]
      · cases h
    · cases h
  case h_27 => cases h
theorem Zc {P:Program} {t:TypeId} {c:List AV} {off:Nat} {r:AV} {e:Env} (w:World) (h:Aq P t c off=some r):(part t (AV.vals e c).toArray off).run P w = .ok (r.val e) w:=by
 unfold Aq at h;unfold part
 cases ha:Kt P t with
 | none=>rw[ha] at h;cases h
 | some q =>
  rw[ha] at h
  cases q with
  | true =>
   simp only at h
   cases hs:yn P t with
   | none=>rw[hs] at h;cases h
   | some s =>
    rw[hs] at h;simp only at h;split at h
    ·rename_i hle;cases h;simp only[Sem.run_bind,OA ha,run_sizeOf hs,Result.andThen,if_true,Td];simp;rw[AV.akT,AV.akT,List.map_take,List.map_drop]
    ·cases h
  | false =>
   have hx:(AV.vals e c)[off]? = some (r.val e):=by rw[AV.akT];simp[h]
   simp[OA ha,hx]
theorem anq {H:wm} {a:AV} (ha:∀ c∈a.refs,H c≠none):∀ c∈AV.aav (yu a),H c≠none:=λc hc=>ha c (VB hc)
theorem Zd {P:Program} {G:wQ} {t:TypeId} {H:wm} {a r:AV} {tc:List Nat} {ef:List (Nat×AO)} {w0:World} {B0:xB} {e:Env} {w:World} (h:CK P G t H a=some (r,tc,ef)) (R:xh G w0 B0 e H w) :
  ef = []/\(Instr.loadAt t (a.val e)).run P w = .ok (r.val e) w/\∀ c∈r.refs,H c≠none:=by
 unfold CK at h;split at h
 ·rename_i b off;split at h
  ·rename_i c tt hb;split at h
   ·rename_i r' hl;cases h;refine⟨rfl,?_,λx hx=>R.refs b _ hb x (Oz hl hx)⟩;have hown:=R.own b c tt hb;have:=YY (e:=e) (w:=w) (b:=e.blk b) (o:=0) hl (λj x hj=>by simp[World.cell?,hown,hj]);simp only[Nat.zero_add] at this;simp[Instr.loadAt,AV.val,Instr.sureAddr,this]
   ·cases h
  ·cases h
 ·rename_i k off;split at h
  ·rename_i n c hb;split at h
   ·rename_i r' hl;cases h;refine⟨rfl,?_,λx hx=>by have:=Oz hl hx;rw[Jd] at this;simp at this⟩;have hrd:=R.rd k n c hb;rcases hrd with⟨hv,_,hc⟩|⟨b,o,cap,hv,hlt,hc⟩
    ·subst hc;exfalso;unfold Aq at hl;split at hl
     ·split at hl
      ·rename_i ha _ s hs;split at hl
       ·rename_i hle;simp at hle;omega
       ·cases hl
      ·cases hl
     ·simp at hl
     ·cases hl
    ·have:=YY (e:=e) (w:=w) (b:=b) (o:=o) hl (λj x hj=>by rw[Cs] at hj;exact hc j x hj);simp[Instr.loadAt,AV.val,hv,Instr.sureAddr,this]
   ·cases h
  ·cases h
 ·rename_i g off;split at h
  ·rename_i c hg;split at h
   ·rename_i r' hl;cases h;refine⟨rfl,?_,λx hx=>by have:=Oz hl hx;rw[Jd] at this;simp at this⟩;obtain⟨x,hx,hxg,ho⟩:=ani hg;have hw:=(R.gl.1 x hx).2;rw[hxg,ho] at hw;have:=YY (e:=e) (w:=w) (b:=g) (o:=0) hl (λj x hj=>by rw[Cs] at hj;rw[Nat.zero_add];exact hw j x hj);simp only[Nat.zero_add] at this;simp[Instr.loadAt,AV.val,Instr.sureAddr,this]
   ·cases h
  ·cases h
 ·cases h
theorem anr {P:Program} {G:wQ} {t:TypeId} {H:wm} {x y r:AV} {tc:List Nat} {ef:List (Nat×AO)} {w0:World} {B0:xB} {e:Env} {w:World} (h:Je P t H x y=some (r,tc,ef)) (R:xh G w0 B0 e H w)
  (hy:∀ c∈y.refs,H c≠none):r = .v undef/\∃ w',(Instr.storeAt t (x.val e) (y.val e)).run P w = .ok () w'/\xh G w0 B0 e (H.puts ef) w':=by
 unfold Je at h;split at h
 ·rename_i b off;split at h
  ·rename_i c tt hb;split at h
   ·rename_i hcond;cases h;simp only[Bool.and_eq_true,decide_eq_true_eq,List.all_eq_true] at hcond;obtain⟨⟨h1,hs⟩,hl⟩:=hcond;refine⟨rfl,w.setRow (e.blk b) (AV.vals e (c.take off++yu y++c.drop (off+(yu y).length))).toArray,?_,?_⟩
    ·have hown:=R.own b c tt hb
     have:=run_storeCells_at P (e.blk b) off tt (AV.vals e (yu y)) 0 _ w hown (by simp[EQ];omega) (λv hv=>by
      rw[AV.akT] at hv;obtain⟨a,ha,rfl⟩:=List.mem_map.1 hv
      exact ang (h1 a ha))
     simp only[EQ,Nat.add_zero] at this;simp only[Instr.storeAt,AV.val,Instr.sureAddr,storeVar,VA,Sem.run_bind,Sem.run_pure,Result.andThen,run_sizeOf hs,List.size_toArray,EQ,ne_eq,not_true_eq_false,if_false,List.toList_toArray];simp only[this];congr 3;simp[AV.akT,List.map_take,List.map_drop]
    ·refine R.store hb _ (λz hz=>?_) rfl;obtain⟨a,ha,hr⟩:=AV.aec.1 hz;simp only[List.mem_append] at ha;rcases ha with(ha|ha)|ha
     ·exact R.refs b _ hb z (AV.aec.2 ⟨a,List.mem_of_mem_take ha,hr⟩)
     ·exact hy z (VB (AV.aec.2 ⟨a,ha,hr⟩))
     ·exact R.refs b _ hb z (AV.aec.2 ⟨a,List.mem_of_mem_drop ha,hr⟩)
   ·cases h
  ·cases h
 ·cases h
theorem afw {P:Program} {t ft:TypeId} {f off:Nat} (h:Ib P t f=some (off,ft)):∃ fs x,P.underlying t=some (.struct fs)/\fs[f]? = some x/\x.offset=off/\x.type=ft:=by
 unfold Ib at h;split at h
 ·rename_i fs hu
  cases hx:fs[f]? with
  | none=>rw[hx] at h;cases h
  | some x=>rw[hx] at h;simp at h;exact⟨fs,x,hu,hx,h.1,h.2⟩
 ·cases h
theorem OG {P:Program} {t el:TypeId} {n:Nat} (h:Dw P t=some (n,el)):P.underlying t=some (.array n el):=by
 unfold Dw at h;split at h
 ·rename_i hu;simp at h;rw[hu,h.1,h.2]
 ·cases h
theorem VI {P:Program} {t el:TypeId} (h:Ic P t=some el):P.underlying t=some (.slice el):=by
 unfold Ic at h;split at h
 ·rename_i hu;simp at h;rw[hu,h]
 ·cases h
theorem afx {P:Program} {t:TypeId} {k:IntKind} (h:Oy P t=some k):P.underlying t=some (.int k):=by
 unfold Oy at h;split at h
 ·rename_i hu;simp at h;rw[hu,h]
 ·cases h
theorem Ze {P:Program} {t:TypeId} {s:Nat} (h:yn P t=some s):∃ i,P.info? t=some i/\i.size=s:=by
 unfold yn at h
 cases hi:P.info? t with
 | none=>rw[hi] at h;cases h
 | some i=>rw[hi] at h;simp at h;exact⟨i,rfl,h⟩
theorem VJ {P:Program} {t:TypeId} {z:List Value} (h:Gx P t=some z):∃ i v,P.info? t=some i/\i.zero=some v/\v.cells.toList=z:=by
 unfold Gx at h
 cases hi:P.info? t with
 | none=>rw[hi] at h;cases h
 | some i =>
  rw[hi] at h
  cases hz:i.zero with
  | none=>simp[hz] at h
  | some v=>simp[hz] at h;exact⟨i,v,rfl,hz,h⟩
theorem ant {P:Program} {t:TypeId} {f:Nat} {x r:AV} {e:Env} (w:World) (h:Ku P t f x=some r):(Instr.field t (x.val e) f).run P w = .ok (r.val e) w/\∀ c∈r.refs,c∈x.refs:=by
 have key:∀ cs:Array Value,x.val e = .agg cs->cs=(AV.vals e (yu x)).toArray->(match Ib P t f with|some (off,ft)=>Aq P ft (yu x) off|none=>none)=some r->(Instr.field t (x.val e) f).run P w = .ok (r.val e) w/\∀ c∈r.refs,c∈x.refs:=by
  intro cs hx hcs h;split at h
  ·rename_i off ft hf;obtain⟨fs,y,hu,hy,ho,ht⟩:=afw hf;refine⟨?_,λc hc=>VB (Oz h hc)⟩;have hp:=Zc (e:=e) w h;rw[hx,hcs];simp[Instr.field,run_underlying hu,hy,asAgg,ho,ht,hp]
  ·cases h
 unfold Ku at h;split at h
 ·rename_i cs;exact key cs rfl (by simp[yu,Cs,Value.cells]) h
 ·rename_i l;exact key _ rfl rfl h
 ·cases h
theorem afy {P:Program} {t:TypeId} {f:Nat} {x r:AV} {G:wQ} {H:wm} {w0:World} {B0:xB} {e:Env} {w:World} (h:Kv P t f x=some r) (R:xh G w0 B0 e H w) :
  (Instr.fieldAt t (x.val e) f).run P w = .ok (r.val e) w/\∀ c∈r.refs,c∈x.refs:=by
 have hadd:∀ b n i:Nat,(⟨b,n,none⟩:Addr).add i=⟨b,n+i,none⟩:=λb n i=>by unfold Addr.add;split<;>simp_all
 unfold Kv at h;split at h
 ·rename_i off ft hf;obtain⟨fs,y,hu,hy,ho,ht⟩:=afw hf;split at h
  ·rename_i s hs;obtain⟨i,hi,hsz⟩:=Ze hs;have hz:(sizeOf y.type).run P w = .ok (s+1) w:=by rw[ht];exact run_sizeOf hs w
   split at h
   ·cases h;refine⟨?_,λc hc=>by simpa [AV.refs] using hc⟩;simp[Instr.fieldAt,run_underlying hu,hy,AV.val,Instr.sureAddr,fieldPlace,hz,ho,hadd]
   ·rename_i k o;cases h;refine⟨?_,λc hc=>by simpa [AV.refs] using hc⟩
    cases hv:e.hnd k with
    | slice a l c =>
     cases a with
     | none=>simp[Instr.fieldAt,run_underlying hu,hy,AV.val,hv,Instr.sureAddr,fieldPlace,hz,ho,hadd]
     | some a=>simp[Instr.fieldAt,run_underlying hu,hy,AV.val,hv,Instr.sureAddr,fieldPlace,hz,ho,hadd,Nat.add_assoc]
    | _=>simp[Instr.fieldAt,run_underlying hu,hy,AV.val,hv,Instr.sureAddr,fieldPlace,hz,ho,hadd]
   ·cases h;refine⟨?_,λc hc=>by simp[AV.refs] at hc⟩;simp[Instr.fieldAt,run_underlying hu,hy,AV.val,Instr.sureAddr,fieldPlace,hz,ho,hadd]
   ·cases h
  ·cases h
 ·cases h
theorem anu {P:Program} {t:TypeId} {x i r:AV} {tc:List Nat} {G:wQ} {H:wm} {w0:World} {B0:xB} {e:Env} {w:World} (h:ER P t H x i=some (r,tc)) (R:xh G w0 B0 e H w) :
  (Instr.indexAt t (x.val e) (i.val e)).run P w = .ok (r.val e) w/\∀ c∈r.refs,c∈x.refs:=by
 have hadd:∀ b n i:Nat,(⟨b,n,none⟩:Addr).add i=⟨b,n+i,none⟩:=λb n i=>by unfold Addr.add;split<;>simp_all
 unfold ER at h;split at h
 ·rename_i kk n;split at h
  ·split at h
   ·rename_i len el ha;split at h
    ·rename_i s hs;split at h
     ·rename_i hn;cases h;refine⟨?_,λc hc=>by simpa [AV.refs] using hc⟩;simp[Instr.indexAt,AV.val,asIntOf,run_underlying (OG ha),Instr.sureAddr,run_sizeOf hs,hn,hadd]
     ·cases h
    ·cases h
   ·cases h
  ·split at h
   ·rename_i len el ha;split at h
    ·rename_i s hs;split at h
     ·rename_i hn;cases h;refine⟨?_,λc hc=>by simp[AV.refs] at hc⟩;simp[Instr.indexAt,AV.val,asIntOf,run_underlying (OG ha),Instr.sureAddr,run_sizeOf hs,hn,hadd]
     ·cases h
    ·cases h
   ·cases h
  ·split at h
   ·rename_i el ha;split at h
    ·rename_i s hs;split at h
     ·rename_i hn;cases h;refine⟨?_,λc hc=>by simpa [AV.refs] using hc⟩;simp[Instr.indexAt,AV.val,asIntOf,run_underlying (VI ha),run_sizeOf hs,hn,hadd]
     ·cases h
    ·cases h
   ·cases h
  ·rename_i k;split at h
   ·rename_i len c hb;split at h
    ·rename_i el ha;split at h
     ·rename_i s hs;split at h
      ·rename_i hn;cases h;refine⟨?_,λc hc=>by simpa [AV.refs] using hc⟩;rcases R.rd k len c hb with⟨hv,hl,hc⟩|⟨b,o,cap,hv,hlt,hc⟩
       ·omega
       ·simp[Instr.indexAt,AV.val,hv,EP,asIntOf,run_underlying (VI ha),run_sizeOf hs,hn,hadd]
      ·cases h
     ·cases h
    ·cases h
   ·cases h
  ·cases h
 ·cases h
theorem anv {P:Program} {t:TypeId} {x i r:AV} {e:Env} (w:World) (h:Kw P t x i=some r) :
  (Instr.index t (x.val e) (i.val e)).run P w = .ok (r.val e) w/\∀ c∈r.refs,c∈x.refs:=by
 unfold Kw at h;split at h
 ·rename_i cs kk n;split at h
  ·rename_i len el ha;split at h
   ·rename_i s hs;split at h
    ·rename_i hn;refine⟨?_,λc hc=>by have:=Oz h hc;rw[Jd] at this;simp at this⟩;have hp:=Zc (e:=e) w h;rw[Cs] at hp;simp at hp;simp[Instr.index,AV.val,asIntOf,run_underlying (OG ha),run_sizeOf hs,hn,hp]
    ·cases h
   ·cases h
  ·cases h
 ·rename_i cs kk n;split at h
  ·rename_i len el ha;split at h
   ·rename_i s hs;split at h
    ·rename_i hn;refine⟨?_,λc hc=>by simpa [AV.refs] using Oz h hc⟩;have hp:=Zc (e:=e) w h;simp[Instr.index,AV.val,asIntOf,run_underlying (OG ha),run_sizeOf hs,hn,hp]
    ·cases h
   ·cases h
  ·cases h
 ·cases h
theorem anw {P:Program} {x r:AV} {i:Nat} {e:Env} (w:World) (h:OB x i=some r):(Instr.extract (x.val e) i).run P w = .ok (r.val e) w/\∀ c∈r.refs,c∈x.refs:=by
 unfold OB at h;split at h
 ·rename_i vs;split at h
  ·rename_i v hv;cases h;have:vs[i]? = some v:=by simpa using hv
   exact⟨by simp[Instr.extract,AV.val,this],λc hc=>by simp[AV.refs] at hc⟩
  ·cases h
 ·rename_i l;refine⟨?_,λc hc=>by rw[AV.refs];exact AV.aec.2 ⟨r,List.mem_of_getElem? h,hc⟩⟩;have:(AV.vals e l)[i]? = some (r.val e):=by rw[AV.akT];simp[h]
  simp[Instr.extract,AV.val,this]
 ·cases h
theorem foldl_set (vs:List Value):∀ (off:Nat) (cells:Array Value) (n:Nat),off+n+vs.length<=cells.size->((vs.zipIdx n).foldl (λcs (c,j)=>cs.setIfInBounds (off+j) c) cells).toList=cells.toList.take (off+n)++vs++cells.toList.drop (off+n+vs.length):=by
 induction vs with
 | nil=>intro off cells n h;simp
 | cons v vs ih =>
  intro off cells n h;simp only[List.length_cons] at h;rw[List.zipIdx_cons,List.foldl_cons,ih off _ (n+1) (by simp;omega)];have:=list_seg_step cells.toList (off+n) v vs (by simp;omega);simp only[Array.toList_setIfInBounds];rw[show off+(n+1)=off+n+1 by omega];simpa [Nat.add_assoc,Nat.add_comm,Nat.add_left_comm] using this
theorem Zf {e:Env} {place:Nat->Option (Nat×Nat)} : ∀ {ps:List (Nat×AV)} {cells c:List AV},FB place cells ps=some c ->
  Instr.fill place (AV.vals e cells).toArray (ps.map λx=>(x.1,x.2.val e))=some (AV.vals e c).toArray
 | [],cells,c,h=>by simp only[FB,Option.some.injEq] at h;subst h;rfl
 | (i,x)::rest,cells,c,h=>by
  simp only[FB] at h;simp only[List.map_cons,Instr.fill];split at h
  ·cases h
  ·rename_i off size hp;rw[hp];split at h
   ·rename_i hcond;have ih:=Zf (e:=e) h;have hsz:(x.val e).cells.size=size:=by rw[VA];simp[EQ,hcond.1]
    simp only[hsz,List.size_toArray,EQ];rw[if_neg (by simp;omega)];rw[<- ih];congr 1;apply Array.ext';rw[VA];have:=foldl_set (AV.vals e (yu x)) off (AV.vals e cells).toArray 0 (by simp[EQ];omega);simp only[Nat.add_zero,List.toList_toArray] at this;rw[<- Array.foldl_toList];simp only[Array.toList_zipIdx,List.toList_toArray];rw[this,EQ,hcond.1];simp[AV.akT,List.map_take,List.map_drop]
   ·cases h
theorem Zg {place:Nat->Option (Nat×Nat)} {r:Nat} : ∀ {ps:List (Nat×AV)} {cells c:List AV},FB place cells ps=some c->r∈AV.aav c->r∈AV.aav cells\/∃ x∈ps,r∈x.2.refs
 | [],cells,c,h,hr=>by simp only[FB,Option.some.injEq] at h;subst h;exact .inl hr
 | (i,x)::rest,cells,c,h,hr=>by
  simp only[FB] at h;split at h
  ·cases h
  ·split at h
   ·rcases Zg h hr with h1|⟨y,hy,h1⟩
    ·obtain⟨a,ha,hra⟩:=AV.aec.1 h1;simp only[List.mem_append] at ha;rcases ha with(ha|ha)|ha
     ·exact .inl (AV.aec.2 ⟨a,List.mem_of_mem_take ha,hra⟩)
     ·exact .inr ⟨_,List.mem_cons_self,VB (AV.aec.2 ⟨a,ha,hra⟩)⟩
     ·exact .inl (AV.aec.2 ⟨a,List.mem_of_mem_drop ha,hra⟩)
    ·exact .inr ⟨y,List.mem_cons_of_mem _ hy,h1⟩
   ·cases h
theorem Zh {ρ:Operand->Option AV} {ev:Operand->Value} {e:Env} (hρ:∀ x y,ρ x=some y->ev x=y.val e):∀ {l:List (Nat×Operand)} {ps:List (Nat×AV)},Dx ρ l=some ps->(l.map λx=>(x.1,ev x.2))=ps.map λx=>(x.1,x.2.val e)
 | [],ps,h=>by simp only[Dx,Option.some.injEq] at h;subst h;rfl
 | (i,x)::l,ps,h=>by
  simp only[Dx] at h;split at h
  ·rename_i a r ha hr;cases h;simp[Zh hρ hr,hρ x a ha]
  ·cases h
theorem Zi {ρ:Operand->Option AV} : ∀ {l:List (Nat×Operand)} {ps:List (Nat×AV)},Dx ρ l=some ps->∀ x∈ps,∃ y∈l,ρ y.2=some x.2
 | [],ps,h,x,hx=>by simp only[Dx,Option.some.injEq] at h;subst h;cases hx
 | (i,z)::l,ps,h,x,hx=>by
  simp only[Dx] at h;split at h
  ·rename_i a r ha hr;cases h;rcases List.mem_cons.1 hx with rfl|hx
   ·exact⟨_,List.mem_cons_self,ha⟩
   ·obtain⟨y,hy,h1⟩:=Zi hr x hx;exact⟨y,List.mem_cons_of_mem _ hy,h1⟩
  ·cases h
theorem VL {ρ:Operand->Option AV} {ev:Operand->Value} {e:Env} (hρ:∀ x y,ρ x=some y->ev x=y.val e):∀ {l:List Operand} {ps:List AV},CL ρ l=some ps->l.map ev=AV.vals e ps
 | [],ps,h=>by simp only[CL,Option.some.injEq] at h;subst h;rfl
 | x::l,ps,h=>by
  simp only[CL] at h;split at h
  ·rename_i a r ha hr;cases h;simp[VL hρ hr,hρ x a ha,AV.vals]
  ·cases h
theorem VM {ρ:Operand->Option AV} : ∀ {l:List Operand} {ps:List AV},CL ρ l=some ps->∀ x∈ps,∃ y∈l,ρ y=some x
 | [],ps,h,x,hx=>by simp only[CL,Option.some.injEq] at h;subst h;cases hx
 | z::l,ps,h,x,hx=>by
  simp only[CL] at h;split at h
  ·rename_i a r ha hr;cases h;rcases List.mem_cons.1 hx with rfl|hx
   ·exact⟨_,List.mem_cons_self,ha⟩
   ·obtain⟨y,hy,h1⟩:=VM hr x hx;exact⟨y,List.mem_cons_of_mem _ hy,h1⟩
  ·cases h
theorem afz {P:Program} : ∀ {fs:List Field},(fs.all λf=>(yn P f.type).isSome)=true->fs.mapM (λf=>(P.info? f.type).map λi=>(f.offset,i.size))=some (fs.map λf=>(f.offset,(yn P f.type).getD 0))
 | [],_=>rfl
 | f::fs,h=>by simp only[List.all_cons,Bool.and_eq_true] at h;obtain⟨s,hs⟩:=Option.isSome_iff_exists.1 h.1;obtain⟨i,hi,hsz⟩:=Ze hs;simp[List.mapM_cons,hi,afz h.2,hs,hsz]
theorem afA {p q:Nat->Option (Nat×Nat)} (h:∀ i,p i=q i):∀ (ps:List (Nat×Value)) (c:Array Value),Instr.fill p c ps=Instr.fill q c ps:=by have:p=q:=funext h;intro ps c;rw[this]
theorem anx {P:Program} {t:TypeId} {z:List Value} {ps:List (Nat×AV)} {c:List AV} {e:Env} (w:World) (hz:Gx P t=some z) (hs:VD P t=true) (h:FB (Te P t) (z.map .v) ps=some c)
  (parts:Array (Nat×Value)) (hp:parts.toList=ps.map λx=>(x.1,x.2.val e)):(Instr.build t parts).run P w = .ok ((Bi c).val e) w:=by
 rw[Td];apply run_build;obtain⟨it,v,hi,hv,hc⟩:=VJ hz;have hf:=Zf (e:=e) h;rw[Cs,<- hc,<- hp] at hf;simp only[Array.toArray_toList] at hf;unfold Program.built;unfold VD at hs
 cases hu:P.underlying t with
 | none=>rw[hu] at hs;cases hs
 | some d =>
  rw[hu] at hs;cases d<;>try cases hs
  case array n el =>
   obtain⟨s,hsz⟩:=Option.isSome_iff_exists.1 hs;obtain⟨ie,hie,his⟩:=Ze hsz;simp only[hi,hv,hie];rw[<- hf];apply afA;intro i;simp[Te,hu,hsz,his]
  case struct fs =>
   simp only at hs;have hm:=afz (P:=P) hs;simp only[hi,hv];rw[hm];simp only;rw[<- hf];apply afA;intro i;simp only[Te,hu,List.getElem?_toArray,List.getElem?_map,Array.getElem?_toList]
   cases hfi:fs[i]? with
   | none=>rfl
   | some f =>
    have hfm:f∈fs.toList:=by simpa using Array.mem_of_getElem? hfi
    obtain⟨s,hsz⟩:=Option.isSome_iff_exists.1 (List.all_eq_true.1 hs f hfm);simp[hsz]
theorem anz {P:Program} {t:TypeId} {len k:Nat} {ps:List (Nat×AV)} {r:AV} {tc:List Nat} {ef:List (Nat×AO)} {G:wQ} {H:wm} {w0:World} {B0:xB} {e:Env} {w:World}
  (h:OD P t len k ps=some (r,tc,ef)) (hk:H k=none) (R:xh G w0 B0 e H w) (hr:∀ x∈ps,∀ c∈x.2.refs,H c≠none) (parts:Array (Nat×Value)) (hp:parts.toList=ps.map λx=>(x.1,x.2.val e)) :
  ∃ e' w',(Instr.buildSlice t len parts).run P w = .ok (r.val e') w'/\xh G w0 B0 e' (H.puts ef) w'/\Env.on H e e'/\∀ c∈r.refs,(H.puts ef) c≠none:=by
 unfold OD at h;split at h
 ·rename_i el hel;split at h
  ·rename_i s z hs hz;split at h
   ·rename_i hle;split at h
    ·rename_i c hf;cases h;obtain⟨it,v,hi,hv,hc⟩:=VJ hz
     have hc':∀ r∈AV.aav c,H r≠none:=λx hx=>by
      rcases Zg hf hx with h1|⟨y,hy,h1⟩
      ·rw[Jd] at h1;simp at h1
      ·exact hr y hy x h1
     refine⟨e.aqT k w.heap.size,_,?_,R.alloc hk c el hc',Env.aCA hk e _,λx hx=>?_⟩
     ·have hfr:=Zf (e:=e) hf;rw[Cs,<- hp] at hfr
      have hz':(Jg z (len*s)).toArray=(Array.range (len*s)).map λj=>v.cells[j%v.cells.size]!:=by rw[afv,<- hc];apply Array.ext';simp
      rw[hz'] at hfr;have hgt:¬ len*s>2^24:=by omega
      have hzv:(zeroValue el).run P w = .ok v w:=by simp[zeroValue,typeInfo,hi,hv]
      simp only[Instr.buildSlice,Sem.run_bind,run_underlying (VI hel),Result.andThen,run_sizeOf hs,hgt,if_false,hle.2,Sem.run_pure,hzv,hfr];simp[newRow,AV.val,Env.aqT]
     ·simp[AV.refs] at hx;subst hx;rw[wm.puts,wm.puts,wm.aed];simp
    ·cases h
   ·cases h
  ·cases h
 ·cases h
theorem anA {P:Program} (op:BinOp) (k:IntKind) (x y:Int) (w:World) (h:op = .and\/op = .or\/op = .xor\/op = .andNot):(Op.intBits op k x y).run P w = .ok (Mw op k x y) w:=by rcases h with rfl|rfl|rfl|rfl<;>rfl
theorem anB {P:Program} (op:BinOp) (t:TypeId) (xo yo:Operand) (k k':IntKind) (a b:Int) (w:World):(eqGuard op t xo yo (.int k a) (.int k' b)).run P w = .ok () w:=by unfold eqGuard;cases op<;>rfl
theorem anC {P:Program} (op:BinOp) (t:TypeId) (xo yo:Operand) (a b:Bool) (w:World):(eqGuard op t xo yo (.bool a) (.bool b)).run P w = .ok () w:=by unfold eqGuard;cases op<;>rfl
theorem run_equal_bool {P:Program} {t:TypeId} (hu:P.underlying t=some .bool) (a b:Bool) (w:World):(Op.equal t (.bool a) (.bool b)).run P w = .ok (a==b) w:=by show(Op.equalIn (9999+1) t _ _).run P w=_;rw[Op.equalIn];simp only[Sem.run_bind,run_underlying hu,Result.andThen];rfl
theorem anD (t:TypeId) (a b:Bool):binOp .eql t (.bool a) (.bool b)=(do pure (.bool (<- Op.equal t (.bool a) (.bool b))):Sem Value):=by rw[binOp]<;>simp
theorem anE (t:TypeId) (a b:Bool):binOp .neq t (.bool a) (.bool b)=(do pure (.bool (!(<- Op.equal t (.bool a) (.bool b)))):Sem Value):=by rw[binOp]<;>simp
theorem anF {P:Program} {op:BinOp} {t:TypeId} {x y v:Value} (h:Bj P op t x y=some v) (xo yo:Operand) (w:World):(do eqGuard op t xo yo x y;binOp op t x y:Sem Value).run P w = .ok v w:=by
  unfold Bj at h;split at h
  · rename_i k a k' b;simp only[Sem.run_bind,anB,Result.andThen]
    cases op<;>simp only at h<;>first
      | (split at h
         · cases h
         · rename_i hb;cases h;simp[binOp,Op.shift,hb])
      | (split at h
         · rename_i hb;cases h
           first
             | (obtain⟨rfl,hb⟩:=hb;simp at hb;simp[binOp,Op.intDiv,hb])
             | (subst hb;simp[binOp,Op.intArith,Op.intCmp,anA])
         · cases h)
  · rename_i a b;simp only[Sem.run_bind,anC,Result.andThen];cases op<;>simp only at h<;>try cases h
    all_goals
      split at h
      · rename_i hu;cases h;simp only[anD,anE,Sem.run_bind,run_equal_bool hu,Result.andThen,Sem.run_pure]
      · cases h
  · cases h
theorem anG {P:Program} {t ty:TypeId} {x r:AV} {tc:List Nat} {G:wQ} {H:wm} {w0:World} {B0:xB} {e:Env} {w:World} (h:Dy P t H x=some (r,tc)) (R:xh G w0 B0 e H w) :
  (Builtin.len_ #[t] ty #[x.val e]).run P w = .ok (r.val e) w/\r.refs = []:=by
 unfold Dy at h;split at h
 ·rename_i el hu;split at h
  ·cases h;exact⟨by simp[Builtin.len_,run_underlying hu,AV.val,goInt],rfl⟩
  ·rename_i k;split at h
   ·rename_i n c hb;cases h;refine⟨?_,rfl⟩;rcases R.rd k n c hb with⟨hv,hn,_⟩|⟨b,o,cap,hv,_,_⟩
    ·simp[Builtin.len_,run_underlying hu,AV.val,hv,EP,goInt,hn]
    ·simp[Builtin.len_,run_underlying hu,AV.val,hv,EP,goInt]
   ·cases h
  ·cases h;exact⟨by simp[Builtin.len_,run_underlying hu,AV.val,goInt],rfl⟩
  ·cases h
 ·rename_i hu;split at h
  ·cases h;exact⟨by simp[Builtin.len_,run_underlying hu,AV.val,goInt],rfl⟩
  ·cases h
 ·rename_i n el hu;cases h;exact⟨by simp[Builtin.len_,run_underlying hu,AV.val,goInt],rfl⟩
 ·cases h
theorem anH {P:Program} {t:TypeId} {x r:AV} {tc:List Nat} {G:wQ} {H:wm} {w0:World} {B0:xB} {e:Env} {w:World} (h:Jh P t H x=some (r,tc)) (R:xh G w0 B0 e H w) :
  (Instr.arrayAt t (x.val e)).run P w = .ok (r.val e) w/\∀ c∈r.refs,c∈x.refs:=by
 unfold Jh at h;split at h
 ·rename_i n el ha;have hu:=OG ha;split at h
  ·split at h
   ·rename_i hle;cases h;refine⟨?_,λc hc=>by simpa [AV.refs] using hc⟩;have:¬ (_<n):=Nat.not_lt.2 hle;simp[Instr.arrayAt,run_underlying hu,AV.val,this]
   ·cases h
  ·rename_i k;split at h
   ·rename_i len c hb;split at h
    ·rename_i hle;cases h;refine⟨?_,λc hc=>by simpa [AV.refs] using hc⟩;have:¬ (len<n):=Nat.not_lt.2 hle.1;rcases R.rd k len c hb with⟨hv,hl,hc⟩|⟨b,o,cap,hv,hlt,hc⟩
     ·omega
     ·simp[Instr.arrayAt,run_underlying hu,AV.val,hv,EP,this]
    ·cases h
   ·cases h
  ·cases h
 ·cases h
theorem anI {P:Program} {t:TypeId} {k:Nat} {x y r:AV} {tc:List Nat} {ef:List (Nat×AO)} {G:wQ} {H:wm} {w0:World} {B0:xB} {e:Env} {w:World}
  (h:OE P t k x y=some (r,tc,ef)) (hk:H k=none) (R:xh G w0 B0 e H w) :
  ∃ e' w',(Instr.makeSlice t (x.val e) (y.val e)).run P w = .ok (r.val e') w'/\xh G w0 B0 e' (H.puts ef) w'/\Env.on H e e'/\∀ c∈r.refs,(H.puts ef) c≠none:=by
 unfold OE at h;split at h
 ·rename_i k1 n k2 m;split at h
  ·rename_i el hel;split at h
   ·rename_i s z b hs hz hb;split at h
    ·rename_i hc;cases h;obtain⟨it,v,hi,hv,hcz⟩:=VJ hz;have hbb:it.bytes=b:=by unfold YZ at hb;rw[hi] at hb;simpa using hb
     refine⟨e.aqT k w.heap.size,_,?_,R.alloc hk ((Jg z (m.toNat*s)).map .v) el (λr hr=>by rw[Jd] at hr;simp at hr),Env.aCA hk e _,λx hx=>?_⟩
     ·have hzv:(zeroValue el).run P w = .ok v w:=by simp[zeroValue,typeInfo,hi,hv]
      have w1:IntKind.i64.wrap n=n:=by unfold IntKind.wrap IntKind.bits IntKind.signed;simp;omega
      have w2:IntKind.i64.wrap m=m:=by unfold IntKind.wrap IntKind.bits IntKind.signed;simp;omega
      have hm:(b:Int)*m<=4096*16777216:=by
       have h1:(b:Int)<=4096:=by omega
       have h2:m<=16777216:=by omega
       have h3:(b:Int)*m<=b*16777216:=Int.mul_le_mul_of_nonneg_left h2 (by omega);have h4:(b:Int)*16777216<=4096*16777216:=Int.mul_le_mul_of_nonneg_right h1 (by omega);omega
      have c1:(decide (m<0)||decide ((b:Int)*m>2^48))=false:=by
       simp only[Bool.or_eq_false_iff,decide_eq_false_iff_not];constructor
       ·omega
       ·have:(2:Int)^48=281474976710656:=by decide
        omega
      have c2:decide (n<0)=false:=by simp;omega
      have c3:decide (n>m)=false:=by simp;omega
      have hz':(Jg z (m.toNat*s)).toArray=(Array.range (m.toNat*s)).map λj=>v.cells[j%v.cells.size]!:=by rw[afv,<- hcz];apply Array.ext';simp
      have hroom:∀ j,(askRoom j).run P w = .ok () w:=λj=>by unfold askRoom;split<;>rfl
      simp only[Instr.makeSlice,Sem.run_bind,run_underlying (VI hel),Result.andThen,AV.val,asInt,asIntOf,Sem.run_pure,typeInfo,hi,w1,w2,hbb,c1,c2,c3,Bool.or_false,Bool.false_eq_true,if_false,hroom,run_sizeOf hs,hc.2.2.2.2,hzv,newRow];have hp:(program).run P w = .ok P w:=rfl;simp only[hp,hi,Sem.run_pure,hbb,c1,c2,c3,Bool.or_false,Bool.false_eq_true,if_false,hroom,run_sizeOf hs,hc.2.2.2.2,hzv,Sem.run_bind,Result.andThen];rw[<- hz'];simp[AV.val,Env.aqT,Cs]
     ·simp[AV.refs] at hx;subst hx;rw[wm.puts,wm.puts,wm.aed];simp
    ·cases h
   ·cases h
  ·cases h
 ·cases h
theorem anJ {P:Program} {t:TypeId} {x r:AV} {e:Env} (w:World) (h:Tf P t x=some r):(Instr.sliceAt t (x.val e) none none none).run P w = .ok (r.val e) w/\∀ c∈r.refs,c∈x.refs:=by
 unfold Tf at h;split at h
 ·rename_i n el ha;split at h
  ·rename_i b o s hs;cases h;refine⟨?_,λc hc=>by simpa [AV.refs] using hc⟩;simp[Instr.sliceAt,run_underlying (OG ha),AV.val,Instr.sureAddr,Instr.sliceBounds,run_sizeOf hs,Addr.add]
  ·cases h
 ·cases h
theorem Zj {kd:IntKind} {n:Int} : ∀ {es:List (Value×Value)} {r:Option Value} (i:Nat),Ji kd n es=some r->∃ a,Instr.findNow (.int kd) (.int kd n) (Mr i es) i=some a/\a.map (·.2)=r
 | [],r,i,h=>by cases h;exact⟨none,rfl,rfl⟩
 | x::l,r,i,h=>by
  unfold Ji at h;split at h
  ·rename_i k' m hx;split at h
   ·rename_i hk;subst hk;simp only[Mr,Instr.findNow,hx,Instr.sameNow,if_true];split at h
    ·rename_i hn;subst hn;cases h;rw[beq_self_eq_true];exact⟨_,rfl,rfl⟩
    ·rename_i hn;have hb:(n==m)=false:=by simpa using hn
     rw[hb];exact Zj (i+1) h
   ·cases h
  ·cases h
theorem anK {P:Program} {t:TypeId} {x i r:AV} {q:Bool} {tc:List Nat} {G:wQ} {H:wm} {w0:World} {B0:xB} {e:Env} {w:World} (h:Ie P t H x i q=some (r,tc)) (R:xh G w0 B0 e H w) :
  (Instr.lookup t (x.val e) (i.val e) q).run P w = .ok (r.val e) w/\r.refs = []:=by
 unfold Ie at h;split at h
 ·rename_i k kd n;split at h
  ·rename_i es hk;split at h
   ·rename_i kt et hu;split at h
    ·rename_i kd' hkt;split at h
     ·rename_i hkd;subst hkd;obtain⟨⟨b,hv,hb⟩,-⟩:=R.mp k es hk;have hki:=afx hkt;have hc:∀ em,(Instr.checkKey em 10000 kt (.int kd' n)).run P w = .ok () w:=λem=>MapKept.run_checkKey (k:=.int kd' n) hki (by simp[MapKept.IsKey]) _ 9999
      have hmap:(AV.hd k).val e = .map (some b):=by simp only[AV.val,hv];rfl
      rw[hmap];have hfin:∀ a:Option (Nat×Value),Instr.findNow (.int kd') (.int kd' n) (Mr 0 es) 0=some a->(Instr.findKey kt (.int kd' n) (Mr 0 es)).run P w = .ok a w:=λa ha=>MapKept.run_findKey hki ha
      split at h
      ·rename_i v hf;cases h;obtain⟨a,ha,hav⟩:=Zj 0 hf;obtain⟨j,v',rfl⟩:∃ j v',a=some (j,v'):=by cases a with|none=>cases hav|some y=>exact⟨y.1,y.2,rfl⟩
       cases hav;refine⟨?_,rfl⟩;unfold Ia at hb;simp[Instr.lookup,run_underlying hu,MapKept.run_getObj_map hb,hc,hfin _ ha,Result.andThen,AV.val,Gy]<;>(split<;>rfl)
      ·rename_i hf;split at h
       ·rename_i z hz;cases h;obtain⟨a,ha,hav⟩:=Zj 0 hf;obtain rfl:a=none:=by cases a with|none=>rfl|some y=>cases hav
        refine⟨?_,rfl⟩;unfold Ia at hb
        have hzv:(zeroValue et).run P w = .ok z w:=by
         unfold Za at hz
         cases hi:P.info? et with
         | none=>rw[hi] at hz;cases hz
         | some x=>rw[hi] at hz;simp at hz;simp[zeroValue,typeInfo,hi,hz]
        simp[Instr.lookup,run_underlying hu,MapKept.run_getObj_map hb,hc,hfin _ ha,hzv,Result.andThen,AV.val,Gy]
       ·cases h
      ·cases h
     ·cases h
    ·cases h
   ·cases h
  ·cases h
 ·cases h
theorem De {x:Option AV} {r:AV} {tc:List Nat} {ef:List (Nat×AO)} (h:wt x=some (r,tc,ef)):x=some r/\tc = []/\ef = []:=by
 unfold wt at h;split at h
 ·cases h;exact⟨rfl,rfl,rfl⟩
 ·cases h
theorem Kz {x:Option (AV×List Nat)} {r:AV} {tc:List Nat} {ef:List (Nat×AO)} (h:El x=some (r,tc,ef)):x=some (r,tc)/\ef = []:=by
 unfold El at h;split at h
 ·cases h;exact⟨rfl,rfl⟩
 ·cases h
def AB (P:Program) (G:wQ) (w0:World) (B0:xB) (e:Env) (H:wm) (w:World) (s:Sem Next) (r:AV) (ef:List (Nat×AO)):Prop :=
 ∃ e' w' nx,s.run P w = .ok nx w'/\(nx = .value (r.val e')\/(nx = .skip/\r = .v undef))/\xh G w0 B0 e' (H.puts ef) w'/\Env.on H e e'/\∀ c∈r.refs,(H.puts ef) c≠none
theorem AB.pure {P:Program} {G:wQ} {w0:World} {B0:xB} {e:Env} {H:wm} {w:World} {s:Sem Value} {r:AV} (hs:s.run P w = .ok (r.val e) w) (R:xh G w0 B0 e H w) (hr:∀ c∈r.refs,H c≠none) :
  AB P G w0 B0 e H w (do pure (Next.value (<- s))) r [] :=
 ⟨e,w,.value (r.val e),by simp[hs],.inl rfl,R,Env.on.refl H e,hr⟩
theorem anL {P:Program} {G:wQ} {E:xV} (hE:Jf P E) {o:Oper} {ρ:Operand->Option AV} {ev:Operand->Value} {H:wm} {k:Nat} {r:AV} {tc:List Nat} {ef:List (Nat×AO)} {w0:World} {B0:xB} {e:Env} {w:World}
  (h:xc P G E o.op ρ H k=some (r,tc,ef)) (hρ:∀ x y,ρ x=some y->ev x=y.val e) (hr:∀ x∈o.op.operands,∀ y,ρ x=some y->∀ c∈y.refs,H c≠none) (hk:H k=none) (R:xh G w0 B0 e H w) :
  AB P G w0 B0 e H w (execOp ev o) r ef:=by
 unfold execOp;unfold xc at h;split at h<;>rename_i ho
 case h_1 x =>
  obtain⟨h1,rfl,rfl⟩:=De h;rw[ho] at hr ⊢;exact⟨e,w,.value (r.val e),by simp[hρ _ _ h1],.inl rfl,R,Env.on.refl H e,hr x (by simp[Op.operands]) r h1⟩
 case h_2 x =>
  obtain⟨h1,rfl,rfl⟩:=De h;rw[ho] at hr ⊢;exact⟨e,w,.value (r.val e),by simp[hρ _ _ h1],.inl rfl,R,Env.on.refl H e,hr x (by simp[Op.operands]) r h1⟩
 case h_3 c a b =>
  rw[ho] at hr ⊢;split at h
  ·rename_i q hc;have hcv:=hρ _ _ hc;simp only[AV.val] at hcv;split at h
   ·rename_i hq;obtain⟨h1,rfl,rfl⟩:=De h;exact⟨e,w,.value (r.val e),by simp[hcv,asBool,hq,hρ _ _ h1],.inl rfl,R,Env.on.refl H e,hr a (by simp[Op.operands]) r h1⟩
   ·rename_i hq;obtain⟨h1,rfl,rfl⟩:=De h;exact⟨e,w,.value (r.val e),by simp[hcv,asBool,hq,hρ _ _ h1],.inl rfl,R,Env.on.refl H e,hr b (by simp[Op.operands]) r h1⟩
  ·cases h
 case h_4 t =>
  rw[ho] at hr ⊢;split at h
  ·rename_i z hz;cases h;obtain⟨it,v,hi,hv,hc⟩:=VJ hz;refine⟨e.aqT k w.heap.size,_,.value (.pointer (some ⟨w.heap.size,0,none⟩)),?_,.inl ?_,R.alloc hk (z.map .v) t (λr hr=>by rw[Jd] at hr;simp at hr),Env.aCA hk e _,?_⟩
   ·have hzv:(zeroValue t).run P w = .ok v w:=by simp[zeroValue,typeInfo,hi,hv]
    simp[Instr.alloc,hzv,newVar,newRow,Cs,<- hc]
   ·simp[AV.val,Env.aqT]
   ·intro c hc';simp[AV.refs] at hc';subst hc';rw[wm.puts,wm.puts,wm.aed];simp
  ·cases h
 case h_5 t x =>
  rw[ho] at hr ⊢;split at h
  ·rename_i a ha;cases h;refine⟨e.aqT k w.heap.size,_,.value (.pointer (some ⟨w.heap.size,0,none⟩)),?_,.inl ?_,R.alloc hk (yu a) t (anq (hr x (by simp[Op.operands]) a ha)),Env.aCA hk e _,?_⟩
   ·simp[Instr.box,newVar,newRow,hρ _ _ ha,VA]
   ·simp[AV.val,Env.aqT]
   ·intro c hc';simp[AV.refs] at hc';subst hc';rw[wm.puts,wm.puts,wm.aed];simp
  ·cases h
 case h_6 t ps =>
  rw[ho] at hr ⊢;split at h
  ·rename_i l z hl hz;split at h
   ·rename_i hs;split at h
    ·rename_i c hf;cases h;refine AB.pure (anx w hz hs hf _ ?_) R ?_
     ·have:=Zh hρ hl;simpa using this
     ·intro c' hc';rcases Zg hf (YW hc') with h1|⟨y,hy,h1⟩
      ·rw[Jd] at h1;simp at h1
      ·obtain⟨z',hz',h2⟩:=Zi hl y hy;exact hr z'.2 (by simp[Op.operands];exact⟨z'.1,by simpa using hz'⟩) y.2 h2 c' h1
    ·cases h
   ·cases h
  ·cases h
 case h_7 t len ps =>
  rw[ho] at hr ⊢;split at h
  ·rename_i l hl
   obtain⟨e',w',h1,h2,h3,h4⟩:=anz (parts:=ps.map λ(i,x)=>(i,ev x)) h hk R (λy hy c' h1=>by
    obtain⟨z',hz',h2⟩:=Zi hl y hy
    exact hr z'.2 (by simp[Op.operands];exact⟨z'.1,by simpa using hz'⟩) y.2 h2 c' h1) (by simpa using Zh hρ hl)
   exact⟨e',w',.value (r.val e'),by simp[h1],.inl rfl,h2,h3,h4⟩
  ·cases h
 case h_8 t x =>
  rw[ho] at hr ⊢;split at h
  ·rename_i a ha;obtain⟨rfl,h1,h2⟩:=Zd h R;exact AB.pure (by rw[hρ _ _ ha];exact h1) R h2
  ·cases h
 case h_9 t x y =>
  rw[ho] at hr ⊢;split at h
  ·rename_i a b ha hb;obtain⟨rfl,w',h1,h2⟩:=anr h R (hr y (by simp[Op.operands]) b hb);exact⟨e,w',.skip,by simp[hρ _ _ ha,hρ _ _ hb,h1],.inr ⟨rfl,rfl⟩,h2,Env.on.refl H e,λc hc=>by simp[AV.refs] at hc⟩
  ·cases h
 case h_10 x =>
  rw[ho] at hr ⊢;split at h
  ·rename_i a ha;obtain⟨h1,rfl,rfl⟩:=De h;have hx:=hr x (by simp[Op.operands]) a ha;unfold VF at h1;split at h1
   ·cases h1;exact⟨e,w,_,by simp[hρ _ _ ha,AV.val],.inl rfl,R,Env.on.refl H e,hx⟩
   ·cases h1;exact⟨e,w,_,by simp[hρ _ _ ha,AV.val],.inl rfl,R,Env.on.refl H e,hx⟩
   ·cases h1;exact⟨e,w,_,by simp[hρ _ _ ha,AV.val],.inl rfl,R,Env.on.refl H e,hx⟩
   ·cases h1;exact⟨e,w,_,by simp[hρ _ _ ha,AV.val],.inl rfl,R,Env.on.refl H e,hx⟩
   ·cases h1
  ·cases h
 case h_11 op t x y yt =>
  rw[ho] at hr ⊢;split at h
  ·rename_i a b ha hb;obtain⟨h1,rfl,rfl⟩:=De h;unfold Ky at h1;split at h1
   ·rename_i a b;have hav:=hρ _ _ ha;have hbv:=hρ _ _ hb;simp only[AV.val] at hav hbv;split at h1
    ·rename_i v hv;cases h1;refine AB.pure (s:=do eqGuard op t x y (ev x) (ev y);binOp op t (ev x) (ev y)) ?_ R (λc hc=>by simp[AV.refs] at hc);rw[hav,hbv];exact anF hv x y w
    ·split at h1
     ·rename_i v hv;cases h1;refine AB.pure (s:=do eqGuard op t x y (ev x) (ev y);binOp op t (ev x) (ev y)) ?_ R (λc hc=>by simp[AV.refs] at hc);rw[hav,hbv];exact hE op t a b v hv x y w
     ·cases h1
   ·cases h1
  ·cases h
 case h_12 op t x =>
  rw[ho] at hr ⊢;split at h
  ·rename_i a ha;obtain⟨h1,rfl,rfl⟩:=De h;have hav:=hρ _ _ ha;unfold OC at h1;split at h1
   ·cases h1;refine AB.pure ?_ R (λc hc=>by simp[AV.refs] at hc);rw[hav];rfl
   ·cases h1;refine AB.pure ?_ R (λc hc=>by simp[AV.refs] at hc);rw[hav];rfl
   ·cases h1;refine AB.pure ?_ R (λc hc=>by simp[AV.refs] at hc);rw[hav];rfl
   ·cases h1
  ·cases h
 case h_13 s d x =>
  rw[ho] at hr ⊢;split at h
  ·rename_i a ha;obtain⟨h1,rfl,rfl⟩:=De h;have hav:=hρ _ _ ha;unfold VE at h1;split at h1
   ·rename_i kk n;split at h1
    ·rename_i k' d' hk' hs';cases h1;refine AB.pure ?_ R (λc hc=>by simp[AV.refs] at hc);rw[hav];simp[convert,run_underlying hs',run_underlying (afx hk'),AV.val,Conv.intToInt]
    ·cases h1
   ·cases h1
  ·cases h
 case h_14 f a c =>
  rw[ho] at hr ⊢;split at h
  ·rename_i x y hx hy;cases h;refine AB.pure ?_ R ?_
   ·have h1:=VL hρ hx;have h2:=VL hρ hy;rw[anc,<- h1,<- h2];simp[Instr.makeFunc];constructor<;>(apply Array.ext';simp)
   ·intro c' hc';rcases List.mem_append.1 (aft hc') with h1|h1
    ·obtain⟨z,hz,h2⟩:=AV.aec.1 h1;obtain⟨q,hq,h3⟩:=VM hx z hz;exact hr q (by simp[Op.operands];left;simpa using hq) z h3 c' h2
    ·obtain⟨z,hz,h2⟩:=AV.aec.1 h1;obtain⟨q,hq,h3⟩:=VM hy z hz;exact hr q (by simp[Op.operands];right;simpa using hq) z h3 c' h2
  ·cases h
 case h_15 t x f =>
  rw[ho] at hr ⊢;split at h
  ·rename_i a ha;obtain⟨h1,rfl,rfl⟩:=De h;have h2:=afy h1 R;exact AB.pure (by rw[hρ _ _ ha];exact h2.1) R (λc hc=>hr x (by simp[Op.operands]) a ha c (h2.2 c hc))
  ·cases h
 case h_16 t x f =>
  rw[ho] at hr ⊢;split at h
  ·rename_i a ha;obtain⟨h1,rfl,rfl⟩:=De h;have h2:=ant (e:=e) w h1;exact AB.pure (by rw[hρ _ _ ha];exact h2.1) R (λc hc=>hr x (by simp[Op.operands]) a ha c (h2.2 c hc))
  ·cases h
 case h_17 t x i =>
  rw[ho] at hr ⊢;split at h
  ·rename_i a b ha hb;obtain⟨h1,rfl⟩:=Kz h;have h2:=anu h1 R;exact AB.pure (by rw[hρ _ _ ha,hρ _ _ hb];exact h2.1) R (λc hc=>hr x (by simp[Op.operands]) a ha c (h2.2 c hc))
  ·cases h
 case h_18 t x i =>
  rw[ho] at hr ⊢;split at h
  ·rename_i a b ha hb;obtain⟨h1,rfl,rfl⟩:=De h;have h2:=anv (e:=e) w h1;exact AB.pure (by rw[hρ _ _ ha,hρ _ _ hb];exact h2.1) R (λc hc=>hr x (by simp[Op.operands]) a ha c (h2.2 c hc))
  ·cases h
 case h_19 x i =>
  rw[ho] at hr ⊢;split at h
  ·rename_i a ha;obtain⟨h1,rfl,rfl⟩:=De h;have h2:=anw (P:=P) (e:=e) w h1;exact AB.pure (by rw[hρ _ _ ha];exact h2.1) R (λc hc=>hr x (by simp[Op.operands]) a ha c (h2.2 c hc))
  ·cases h
 case h_20 args ts =>
  rw[ho] at hr ⊢;split at h
  ·rename_i x t ha ht;split at h
   ·rename_i a hav;obtain⟨h1,rfl⟩:=Kz h;have hargs:args = #[x]:=by apply Array.ext';simp[ha]
    have hts:ts = #[t]:=by apply Array.ext';simp[ht]
    have h2:=anG (ty:=o.type) h1 R;subst hargs hts;refine⟨e,w,.value (r.val e),?_,.inl rfl,R,Env.on.refl H e,λc hc=>by rw[h2.2] at hc;simp at hc⟩;simp[resolve,invoke,builtin,hρ _ _ hav,h2.1]
   ·cases h
  ·cases h
 case h_21 args ts =>
  rw[ho] at hr ⊢;split at h
  ·rename_i x y ha;split at h
   ·rename_i k' a k'' b hx hy;cases h;have hargs:args = #[x,y]:=by apply Array.ext';simp[ha]
    subst hargs;have h1:=hρ _ _ hx;have h2:=hρ _ _ hy;refine⟨e,w,.value _,?_,.inl rfl,R,Env.on.refl H e,λc hc=>by simp[AV.refs] at hc⟩;simp[resolve,invoke,builtin,h1,h2,AV.val,Builtin.min_,Builtin.min2]
   ·cases h
  ·cases h
 case h_22 args ts =>
  rw[ho] at hr ⊢;split at h
  ·rename_i x y ha;split at h
   ·rename_i k' a k'' b hx hy;cases h;have hargs:args = #[x,y]:=by apply Array.ext';simp[ha]
    subst hargs;have h1:=hρ _ _ hx;have h2:=hρ _ _ hy;refine⟨e,w,.value _,?_,.inl rfl,R,Env.on.refl H e,λc hc=>by simp[AV.refs] at hc⟩;simp[resolve,invoke,builtin,h1,h2,AV.val,Builtin.max_,Builtin.max2]
   ·cases h
  ·cases h
 case h_23 t x =>
  rw[ho] at hr ⊢;split at h
  ·rename_i a ha;obtain⟨h1,rfl⟩:=Kz h;have h2:=anH h1 R;exact AB.pure (by rw[hρ _ _ ha];exact h2.1) R (λc hc=>hr x (by simp[Op.operands]) a ha c (h2.2 c hc))
  ·cases h
 case h_24 t x y =>
  rw[ho] at hr ⊢;split at h
  ·rename_i a b ha hb;obtain⟨e',w',h1,h2,h3,h4⟩:=anI h hk R;exact⟨e',w',.value (r.val e'),by simp[hρ _ _ ha,hρ _ _ hb,h1],.inl rfl,h2,h3,h4⟩
  ·cases h
 case h_25 t x =>
  rw[ho] at hr ⊢;split at h
  ·rename_i a ha;obtain⟨h1,rfl,rfl⟩:=De h;have h2:=anJ (P:=P) (e:=e) w h1;exact AB.pure (by rw[hρ _ _ ha];exact h2.1) R (λc hc=>hr x (by simp[Op.operands]) a ha c (h2.2 c hc))
  ·cases h
 case h_26 t x i q =>
  rw[ho] at hr ⊢;split at h
  ·rename_i a b ha hb;obtain⟨h1,rfl⟩:=Kz h;have h2:=anK h1 R;exact AB.pure (by rw[hρ _ _ ha,hρ _ _ hb];exact h2.1) R (λc hc=>by rw[h2.2] at hc;simp at hc)
  ·cases h
 case h_27=>cases h
def Ce (P:Program) (g:FuncId) (args:Array Value) (w:World) (R:Ending->World->Prop):Prop :=
 match (callFunc g args).run P w with
 | .ok (.value v) w'=>R (.returned v) w'
 | .ok (.enter f bs) w'=>Calls P f bs w' R
 | _=>False
theorem Ce.mono {P:Program} {g:FuncId} {args:Array Value} {w:World} {R R':Ending->World->Prop} (h:Ce P g args w R) (hr:∀ e w',R e w'->R' e w'):Ce P g args w R':=by
 unfold Ce at h ⊢;split at h
 ·exact hr _ _ h
 ·exact h.mono hr
 ·exact h.elim
def PC (P:Program) (G:wQ) (g:FuncId) (args:List Value) (v:Value):Prop:=∀ w,Gl G w->Ce P g args.toArray w λe w'=>e = .returned v/\vY w w'
def Tg (P:Program) (G:wQ) (w0:World) (B0:xB) (g:FuncId) (args:List AV) (H:wm) (tc:List Nat) (k:Nat) (r:AV) (ef:List (Nat×AO)):Prop :=
 ∀ H' e w,(∀ b∈tc,H' b=H b)->H' k=none->H' (k+1)=none->(∀ x∈args,∀ c∈x.refs,H' c≠none)->xh G w0 B0 e H' w ->
  Ce P g (AV.vals e args).toArray w λen w'=>∃ e',en = .returned (r.val e')/\xh G w0 B0 e' (H'.puts ef) w'/\Env.on H' e e'/\∀ c∈r.refs,(H'.puts ef) c≠none
theorem PC.call {P:Program} {G:wQ} {g:FuncId} {vs:List Value} {v:Value} (h:PC P G g vs v) (w0:World) (B0:xB) {args:List AV} (ha:yF args=some vs) (H:wm) (k:Nat):Tg P G w0 B0 g args H [] k (.v v) []:=by intro H' e w _ _ _ _ R;rw[Ms ha];exact(h w R.gl).mono λen w' ⟨h1,h2⟩=>⟨e,h1,R.below h2,Env.on.refl H' e,λc hc=>by simp[AV.refs] at hc⟩
def OH (P:Program) (G:wQ) (w0:World) (B0:xB) (o:Oper) (T:wU) (H:wm) (tc:List Nat) (k:Nat) (r:AV) (ef:List (Nat×AO)):Prop :=
 ∀ (nt:Nat) (T':wU) (H':wm) (e:Env) (a:Act) (w:World) (K:Act->World->Prop) (Q:Exit->Act->World->Prop),
  (∀ x∈o.op.operands,Ab T' x=Ab T x)->(∀ b∈tc,H' b=H b)->H' k=none->H' (k+1)=none->Bh nt e T' a->Ap T' H'->xh G w0 B0 e H' w ->
  (∀ e' w',xh G w0 B0 e' (H'.puts ef) w'->Env.on H' e e'->(∀ c∈r.refs,(H'.puts ef) c≠none)->K (a.put o.dst (r.val e')) w')->o.wp P a w K Q
theorem Ap.op {T:wU} {H:wm} (h:Ap T H) {x:Operand} {y:AV} (hx:Ab T x=some y):∀ c∈y.refs,H c≠none:=by
 cases x with
 | tmp t=>exact h t y hx
 | const v=>simp only[Ab,Option.some.injEq] at hx;subst hx;intro c hc;simp[AV.refs] at hc
 | global g=>simp only[Ab,Option.some.injEq] at hx;subst hx;intro c hc;simp[AV.refs] at hc
 | func f=>simp only[Ab,Option.some.injEq] at hx;subst hx;intro c hc;simp[AV.refs] at hc
theorem AB.wp {P:Program} {G:wQ} {w0:World} {B0:xB} {e:Env} {H:wm} {w:World} {o:Oper} {a:Act} {r:AV} {ef:List (Nat×AO)} {K:Act->World->Prop} {Q:Exit->Act->World->Prop}
  (h:AB P G w0 B0 e H w (execOp a.eval o) r ef) (hK:∀ e' w',xh G w0 B0 e' (H.puts ef) w'->Env.on H e e'->(∀ c∈r.refs,(H.puts ef) c≠none)->K (a.put o.dst (r.val e')) w'):o.wp P a w K Q:=by
 obtain⟨e',w',nx,hrun,hnx,hR,hon,hrf⟩:=h;unfold Oper.wp;rw[hrun];rcases hnx with rfl|⟨rfl,rfl⟩
 ·exact hK e' w' hR hon hrf
 ·exact hK e' w' hR hon hrf
theorem OI {P:Program} {G:wQ} {E:xV} (hE:Jf P E) {o:Oper} {T:wU} {H:wm} {k:Nat} {r:AV} {tc:List Nat} {ef:List (Nat×AO)} (h:xc P G E o.op (Ab T) H k=some (r,tc,ef)) (w0:World) (B0:xB) :
  OH P G w0 B0 o T H tc k r ef:=by
 intro nt T' H' e a w K Q hx hb hk _ hT hI hR hK;have h':=anp h hx hb;exact(anL hE h' (λx y hy=>hT.eval hy) (λx _ y hy=>hI.op hy) hk hR).wp hK
def OJ:AV->Option (FuncId×List AV×List AV)
 | .v (.func (.func g) a c)=>some (g,a.toList.map .v,c.toList.map .v)
 | .fn (.func g) a c=>some (g,a,c)
 | _=>none
def OL (op:Op) (ρ:Operand->Option AV):Option (FuncId×List AV) :=
 match op with
 | .call { callee:=.value f,args:=xs,argTypes:=_ }=>match ρ f with
  | some fv=>match OJ fv,CL ρ xs.toList with
   | some (g,a,c),some bs=>some (g,a++bs++c)
   | _,_=>none
  | none=>none
 | _=>none
theorem anM {fv:AV} {g:FuncId} {a c:List AV} (h:OJ fv=some (g,a,c)) (e:Env):fv.val e = .func (.func g) (AV.vals e a).toArray (AV.vals e c).toArray/\∀ x∈a++c,∀ r∈x.refs,r∈fv.refs:=by
 unfold OJ at h;split at h
 ·cases h;refine⟨by simp[AV.val,Cs],λx hx r hr=>?_⟩;rcases List.mem_append.1 hx with hx|hx<;>(obtain⟨y,_,rfl⟩:=List.mem_map.1 hx;simp[AV.refs] at hr)
 ·cases h;refine⟨rfl,λx hx r hr=>?_⟩;rw[AV.refs];rcases List.mem_append.1 hx with hx|hx
  ·exact List.mem_append_left _ (AV.aec.2 ⟨x,hx,hr⟩)
  ·exact List.mem_append_right _ (AV.aec.2 ⟨x,hx,hr⟩)
 ·cases h
theorem VN (e:Env) (a b:List AV):AV.vals e (a++b)=AV.vals e a++AV.vals e b:=by simp[AV.akT]
theorem afB {P:Program} {G:wQ} {w0:World} {B0:xB} {o:Oper} {T:wU} {H:wm} {k:Nat} {r:AV} {tc:List Nat} {ef:List (Nat×AO)} {g:FuncId} {args:List AV} (h:OL o.op (Ab T)=some (g,args))
  (hc:Tg P G w0 B0 g args H tc k r ef):OH P G w0 B0 o T H tc k r ef:=by
 intro nt T' H' e a w K Q hx hb hk hk1 hT hI hR hK;unfold OL at h;split at h
 ·rename_i f xs ts ho;split at h
  ·rename_i fv hfv;split at h
   ·rename_i g' first cap bs hcl hl
    cases h;have hf':Ab T' f=some fv:=by rw[hx f (by rw[ho];simp[Op.operands,Call.operands])];exact hfv
    have hl':CL (Ab T') xs.toList=some bs:=by rw[VH (ρ:=Ab T) (λx hm=>hx x (by rw[ho];simp[Op.operands,Call.operands];right;simpa using hm))];exact hl
    obtain⟨hv,hrf⟩:=anM hcl e;have hev:=hT.eval hf';have hvals:=VL (λx y hy=>hT.eval hy) hl'
    have harg:∀ x∈first++bs++cap,∀ c∈x.refs,H' c≠none:=by
     intro x hxm c hcm;simp only[List.mem_append] at hxm;rcases hxm with(h1|h1)|h1
     ·exact hI.op hf' c (hrf x (List.mem_append_left _ h1) c hcm)
     ·obtain⟨y,_,hy⟩:=VM hl' x h1;exact hI.op hy c hcm
     ·exact hI.op hf' c (hrf x (List.mem_append_right _ h1) c hcm)
    have hcall:=hc H' e w hb hk hk1 harg hR;unfold Ce at hcall
    have hrun:(execOp a.eval o).run P w=(callFunc g (AV.vals e (first++bs++cap)).toArray).run P w:=by
     unfold execOp;rw[ho];simp only[resolve,hev,hv,Deferred.ofValue];have:(xs.map a.eval)=(AV.vals e bs).toArray:=by rw[<- hvals];apply Array.ext';simp
     simp[invoke,this,VN]
    unfold Oper.wp;rw[hrun];split at hcall
    ·rename_i v w' hr';rw[hr'];obtain⟨e',h1,h2,h3,h4⟩:=hcall;cases h1;exact hK e' w' h2 h3 h4
    ·rename_i f' bs' w' hr';rw[hr'];refine Calls.mono hcall ?_;rintro en w'' ⟨e',rfl,h2,h3,h4⟩;exact hK e' w'' h2 h3 h4
    ·exact hcall.elim
   ·cases h
  ·cases h
 ·cases h
def Ig (ops:Array Oper) (T:wU) (o:Oper):Option Bool :=
 match o.guard with
 | none=>some true
 | some (j,want)=>match (ops[j]?).bind (·.dst) with
  | none=>some false
  | some d=>match T d with
   | some (.v (.bool b))=>some (b==want)
   | some (.v (.tuple _))=>some false
   | _=>none
theorem afC {ops:Array Oper} {T:wU} {o:Oper} {q:Bool} (h:Ig ops T o=some q) {nt:Nat} {e:Env} {a:Act} (hT:Bh nt e T a):Region.wanted o (yielded ops a.tmps)=q:=by
 unfold Ig at h;unfold Region.wanted;split at h
 ·rename_i hg;cases h;rw[hg]
 ·rename_i j want hg;rw[hg];simp only[yielded];split at h
  ·rename_i hd;cases h;rw[hd];rfl
  ·rename_i d hd;rw[hd]
   have key:∀ x,T d=some x->a.tmps[d]? = some (x.val e):=λx hx=>by
    obtain⟨hs,hall⟩:=hT;have h1:=hall d x hx;have hlt:d<a.tmps.size:=by rw[hs];exact h1.1
    rw[Array.getD_eq_getD_getElem?,Array.getElem?_eq_getElem hlt] at h1;rw[Array.getElem?_eq_getElem hlt];simpa using h1.2
   split at h
   ·rename_i b hb;cases h;simp[key _ hb,AV.val]
   ·rename_i vs hb;cases h;simp[key _ hb,AV.val]
   ·cases h
abbrev Tr:=List (Nat×List Nat×Bool)
def Dz (tc:List Nat) (ef:List (Nat×AO)):Bool:=ef.any λx=>tc.contains x.1
inductive aDn.{u} {α:Sort u} (a:α):Type|mk
def OM (q:Bool) (A B:Prop) (_:aDn A) (_:aDn B):Prop:=(q=true->A)/\(q=false->B)
theorem Gz (A B:Prop) (x:aDn A) (y:aDn B):OM true A B x y=A:=by simp[OM]
theorem Mx (A B:Prop) (x:aDn A) (y:aDn B):OM false A B x y=B:=by simp[OM]
def anN (P:Program) (G:wQ) (w0:World) (B0:xB) (g:FuncId) (args:List AV) (H:wm) (k:Nat) (R:AV->List Nat->List (Nat×AO)->Prop) (_:aDn R):Prop :=
 ∃ r tc ef,Tg P G w0 B0 g args H tc k r ef/\(∀ b∈tc,H b≠none)/\(∀ x∈ef,x.1=k\/x.1=k+1\/x.1∈tc)/\R r tc ef
def OpG (P:Program) (G:wQ) (w0:World) (B0:xB) (o:Oper) (T:wU) (H:wm) (k:Nat) (R:AV->List Nat->List (Nat×AO)->Prop) (_:aDn R):Prop :=
 ∃ r tc ef,OH P G w0 B0 o T H tc k r ef/\(∀ b∈tc,H b≠none)/\(∀ x∈ef,x.1=k\/x.1=k+1\/x.1∈tc)/\R r tc ef
def GA (op:Op) (ρ:Operand->Option AV):Option (Bool×Option AV×Option AV) :=
 match op with
 | .pick c a b=>match ρ c with
  | some (.v (.bool q))=>some (q,ρ a,ρ b)
  | _=>none
 | _=>none
theorem afD {P:Program} {G:wQ} {E:xV} {op:Op} {ρ:Operand->Option AV} {q:Bool} {x y:Option AV} (h:GA op ρ=some (q,x,y)) (H:wm) (k:Nat) :
  (∀ r,q=true->x=some r->xc P G E op ρ H k=some (r,[],[]))/\(∀ r,q=false->y=some r->xc P G E op ρ H k=some (r,[],[])):=by
 unfold GA at h;split at h
 ·rename_i c a b;split at h
  ·rename_i q' hc;cases h;constructor
   ·intro r hq hx;simp only[xc,hc,hq,if_true,hx,wt]
   ·intro r hq hx;simp only[xc,hc,hq,Bool.false_eq_true,if_false,hx,wt]
  ·cases h
 ·cases h
def zP (P:Program) (G:wQ) (E:xV) (w0:World) (B0:xB) (ops:Array Oper) (Nb:Nat):Nat->List Oper->wU->wm->Tr->(wU->wm->Tr->Prop)->Prop
 | _,[],T,H,tr,K=>K T H tr
 | i,o::os,T,H,tr,K =>
  match Ig ops T o with
  | none=>False
  | some q=>OM q
   (match GA o.op (Ab T) with
   | some (c,x,y)=>OM c
    (match x with|some r=>zP P G E w0 B0 ops Nb (i+1) os (T.put o.dst r) H ((i,[],false)::tr) K|none=>False)
    (match y with|some r=>zP P G E w0 B0 ops Nb (i+1) os (T.put o.dst r) H ((i,[],false)::tr) K|none=>False) .mk .mk
   | none =>
    match xc P G E o.op (Ab T) H (Nb+2*i) with
    | some (r,tc,ef)=>zP P G E w0 B0 ops Nb (i+1) os (T.put o.dst r) (H.puts ef) ((i,tc,Dz tc ef)::tr) K
    | none=>match OL o.op (Ab T) with
     | some (g,args)=>anN P G w0 B0 g args H (Nb+2*i) (λr tc ef=>zP P G E w0 B0 ops Nb (i+1) os (T.put o.dst r) (H.puts ef) ((i,tc,Dz tc ef)::tr) K) .mk
     | none=>OpG P G w0 B0 o T H (Nb+2*i) (λr tc ef=>zP P G E w0 B0 ops Nb (i+1) os (T.put o.dst r) (H.puts ef) ((i,tc,Dz tc ef)::tr) K) .mk)
   (zP P G E w0 B0 ops Nb (i+1) os (T.put o.dst (.v undef)) H tr K) .mk .mk
theorem anP {P:Program} {G:wQ} {t:TypeId} {H:wm} {a r:AV} {tc:List Nat} {ef:List (Nat×AO)} (h:CK P G t H a=some (r,tc,ef)):(∀ b∈tc,H b≠none)/\ef = []:=by
 unfold CK at h;split at h
 ·split at h
  ·rename_i hb;split at h
   ·cases h;exact⟨λb hm=>by simp at hm;subst hm;rw[hb];simp,rfl⟩
   ·cases h
  ·cases h
 ·split at h
  ·rename_i hb;split at h
   ·cases h;exact⟨λb hm=>by simp at hm;subst hm;rw[hb];simp,rfl⟩
   ·cases h
  ·cases h
 ·split at h
  ·split at h
   ·cases h;exact⟨λb hm=>by simp at hm,rfl⟩
   ·cases h
  ·cases h
 ·cases h
theorem anQ {P:Program} {t:TypeId} {H:wm} {x i r:AV} {tc:List Nat} (h:ER P t H x i=some (r,tc)):∀ b∈tc,H b≠none:=by
 unfold ER at h;split at h
 ·split at h
  ·split at h
   ·split at h
    ·split at h
     ·cases h;intro b hb;simp at hb
     ·cases h
    ·cases h
   ·cases h
  ·split at h
   ·split at h
    ·split at h
     ·cases h;intro b hb;simp at hb
     ·cases h
    ·cases h
   ·cases h
  ·split at h
   ·split at h
    ·split at h
     ·cases h;intro b hb;simp at hb
     ·cases h
    ·cases h
   ·cases h
  ·split at h
   ·rename_i hb;split at h
    ·split at h
     ·split at h
      ·cases h;intro b hm;simp at hm;subst hm;rw[hb];simp
      ·cases h
     ·cases h
    ·cases h
   ·cases h
  ·cases h
 ·cases h
theorem anR {P:Program} {t:TypeId} {H:wm} {x r:AV} {tc:List Nat} (h:Dy P t H x=some (r,tc)):∀ b∈tc,H b≠none:=by
 unfold Dy at h;split at h
 ·split at h
  ·cases h;intro b hb;simp at hb
  ·split at h
   ·rename_i hb;cases h;intro b hm;simp at hm;subst hm;rw[hb];simp
   ·cases h
  ·cases h;intro b hb;simp at hb
  ·cases h
 ·split at h
  ·cases h;intro b hb;simp at hb
  ·cases h
 ·cases h;intro b hb;simp at hb
 ·cases h
theorem anS {P:Program} {t:TypeId} {H:wm} {x i r:AV} {q:Bool} {tc:List Nat} (h:Ie P t H x i q=some (r,tc)):∀ b∈tc,H b≠none:=by
 unfold Ie at h;split at h
 ·split at h
  ·rename_i k _ _ _ _ hb;have key:∀ b ∈ [k],H b≠none:=λb hm=>by rw[List.mem_singleton.1 hm,hb];simp
   split at h
   ·split at h
    ·split at h
     ·split at h
      ·cases h;exact key
      ·split at h
       ·cases h;exact key
       ·cases h
      ·cases h
     ·cases h
    ·cases h
   ·cases h
  ·cases h
 ·cases h
theorem afE {P:Program} {G:wQ} {E:xV} {op:Op} {ρ:Operand->Option AV} {H:wm} {k:Nat} {r:AV} {tc:List Nat} {ef:List (Nat×AO)} (h:xc P G E op ρ H k=some (r,tc,ef)) :
  (∀ b∈tc,H b≠none)/\∀ x∈ef,x.1=k\/x.1=k+1\/x.1∈tc:=by
 have z:∀ {x:Option AV},wt x=some (r,tc,ef)->(∀ b∈tc,H b≠none)/\∀ x∈ef,x.1=k\/x.1=k+1\/x.1∈tc:=λhx=>by obtain⟨_,rfl,rfl⟩:=De hx;exact⟨λb hb=>by simp at hb,λx hx=>by simp at hx⟩
 unfold xc at h;split at h
 case h_1=>exact z h
 case h_2=>exact z h
 case h_3 =>
  split at h
  ·split at h<;>exact z h
  ·cases h
 case h_4 =>
  split at h
  ·cases h;exact⟨λb hb=>by simp at hb,λx hx=>by simp at hx;subst hx;exact .inl rfl⟩
  ·cases h
 case h_5 =>
  split at h
  ·cases h;exact⟨λb hb=>by simp at hb,λx hx=>by simp at hx;subst hx;exact .inl rfl⟩
  ·cases h
 case h_6 =>
  split at h
  ·split at h
   ·split at h
    ·cases h;exact⟨λb hb=>by simp at hb,λx hx=>by simp at hx⟩
    ·cases h
   ·cases h
  ·cases h
 case h_7 =>
  split at h
  ·unfold OD at h;split at h
   ·split at h
    ·split at h
     ·split at h
      ·cases h;exact⟨λb hb=>by simp at hb,λx hx=>by simp at hx;subst hx;exact .inl rfl⟩
      ·cases h
     ·cases h
    ·cases h
   ·cases h
  ·cases h
 case h_8 =>
  split at h
  ·obtain⟨h1,rfl⟩:=anP h;exact⟨h1,λx hx=>by simp at hx⟩
  ·cases h
 case h_9 =>
  split at h
  ·unfold Je at h;split at h
   ·split at h
    ·rename_i hb;split at h
     ·cases h;exact⟨λb hm=>by simp at hm;subst hm;rw[hb];simp,λx hx=>by simp at hx;subst hx;simp⟩
     ·cases h
    ·cases h
   ·cases h
  ·cases h
 case h_10=>split at h<;>first|exact z h|cases h
 case h_11=>split at h<;>first|exact z h|cases h
 case h_12=>split at h<;>first|exact z h|cases h
 case h_13=>split at h<;>first|exact z h|cases h
 case h_14 =>
  split at h
  ·cases h;exact⟨λb hb=>by simp at hb,λx hx=>by simp at hx⟩
  ·cases h
 case h_15=>split at h<;>first|exact z h|cases h
 case h_16=>split at h<;>first|exact z h|cases h
 case h_17 =>
  split at h
  ·obtain⟨h1,rfl⟩:=Kz h;exact⟨anQ h1,λx hx=>by simp at hx⟩
  ·cases h
 case h_18=>split at h<;>first|exact z h|cases h
 case h_19=>split at h<;>first|exact z h|cases h
 case h_20 =>
  split at h
  ·split at h
   ·obtain⟨h1,rfl⟩:=Kz h;exact⟨anR h1,λx hx=>by simp at hx⟩
   ·cases h
  ·cases h
 case h_21 =>
  split at h
  ·split at h
   ·cases h;exact⟨λb hb=>by simp at hb,λx hx=>by simp at hx⟩
   ·cases h
  ·cases h
 case h_22 =>
  split at h
  ·split at h
   ·cases h;exact⟨λb hb=>by simp at hb,λx hx=>by simp at hx⟩
   ·cases h
  ·cases h
 case h_23 =>
  split at h
  ·obtain⟨h1,rfl⟩:=Kz h;refine⟨?_,λx hx=>by simp at hx⟩;unfold Jh at h1;split at h1
   ·split at h1
    ·split at h1
     ·cases h1;intro b hb;simp at hb
     ·cases h1
    ·split at h1
     ·rename_i hb;split at h1
      ·cases h1;intro b hm;simp at hm;subst hm;rw[hb];simp
      ·cases h1
     ·cases h1
    ·cases h1
   ·cases h1
  ·cases h
 case h_24 =>
  split at h
  ·unfold OE at h;split at h
   ·split at h
    ·split at h
     ·split at h
      ·cases h;exact⟨λb hb=>by simp at hb,λx hx=>by simp at hx;subst hx;exact .inl rfl⟩
      ·cases h
     ·cases h
    ·cases h
   ·cases h
  ·cases h
 case h_25=>split at h<;>first|exact z h|cases h
 case h_26 =>
  split at h
  ·obtain⟨h1,rfl⟩:=Kz h;exact⟨anS h1,λx hx=>by simp at hx⟩
  ·cases h
 case h_27=>cases h
def DC (H:wm) (N:Nat):Prop:=∀ b,N<=b->H b=none
theorem wm.aCM:∀ {ef:List (Nat×AO)} {H:wm} {b:Nat},(∀ x∈ef,x.1≠b)->(H.puts ef) b=H b
 | [],H,b,_=>rfl
 | x::ef,H,b,h=>by rw[wm.puts,wm.aCM (ef:=ef) (λy hy=>h y (List.mem_cons_of_mem _ hy)),wm.anO _ _ _ (λe=>h x List.mem_cons_self e.symm)]
theorem wm.aCF:∀ {ef:List (Nat×AO)} {H H':wm} {b:Nat},H b=H' b->(H.puts ef) b=(H'.puts ef) b
 | [],H,H',b,h=>h
 | x::ef,H,H',b,h=>by
  rw[wm.puts,wm.puts];apply wm.aCF;unfold wm.put;split
  ·rfl
  ·exact h
theorem wm.aC8:∀ {ef:List (Nat×AO)} {H:wm} {b:Nat},H b≠none->(H.puts ef) b≠none
 | [],H,b,h=>h
 | x::ef,H,b,h=>by rw[wm.puts];exact wm.aC8 (wm.an2 _ _ _ h)
theorem DC.puts {H:wm} {N:Nat} (h:DC H N) {ef:List (Nat×AO)} {tc:List Nat} (ht:∀ b∈tc,H b≠none) (he:∀ x∈ef,x.1=N\/x.1=N+1\/x.1∈tc):DC (H.puts ef) (N+2):=by
 intro b hb;rw[wm.aCM (λx hx=>?_)]
 ·exact h b (by omega)
 ·rcases he x hx with h1|h1|h1
  ·omega
  ·omega
  ·intro e;exact ht _ h1 (h _ (by omega))
theorem Ap.aDO {T:wU} {H:wm} (h:Ap T H) (d:Option Tmp) {r:AV} {ef:List (Nat×AO)} (hr:∀ c∈r.refs,(H.puts ef) c≠none):Ap (T.put d r) (H.puts ef) :=
 (h.grow (λ_ hr=>wm.aC8 hr)).put d hr
theorem anT {P : Program} {G : wQ} {E : xV} (hE : Jf P E) {w0 : World} {B0 : xB} {ops : Array Oper} {Nb nt : Nat} {Q : Exit -> Act -> World -> Prop} {K : wU -> wm -> Tr -> Prop} {ds : List Deferred}
    (hd : ∀ o ∈ ops.toList, ∀ t, o.dst = some t -> t < nt)
    (hQ : ∀ T H tr e a w, K T H tr -> xh G w0 B0 e H w -> Bh nt e T a -> Ap T H -> DC H (Nb + 2 * ops.size) -> a.defers = ds -> Q .normal a w) :
    ∀ (os : List Oper) (i : Nat) (T : wU) (H : wm) (tr : Tr) (e : Env) (a : Act) (w : World), os = ops.toList.drop i -> i <= ops.size -> zP P G E w0 B0 ops Nb i os T H tr K -> xh G w0 B0 e H w -> Bh nt e T a -> Ap T H -> DC H (Nb + 2 * i) -> a.defers = ds ->
      wpOps P ops Q (List.range' i (ops.size - i)) a w := by
  intro os
  induction os with
  | nil =>
    intro i T H tr e a w hos hi hev R hT hI hB hdf
    have : ops.size - i = 0 := by have := congrArg List.length hos;simp at this; omega
    rw [this]
    exact hQ T H tr e a w hev R hT hI (by
      have : i = ops.size := by omega
      rw [<- this]; exact hB) hdf
  | cons o os ih =>
    intro i T H tr e a w hos hi hev R hT hI hB hdf
    have hlt : i < ops.size := by have := congrArg List.length hos;simp at this; omega
    have ho : ops[i]? = some o := by have := congrArg (·[0]?) hos;simp at this;rw [Array.getElem?_eq_getElem hlt] at this ⊢;exact this.symm
    have hos' : os = ops.toList.drop (i + 1) := by have := congrArg List.tail hos;simpa using this
    have hr : List.range' i (ops.size - i) = i :: List.range' (i + 1) (ops.size - (i + 1)) := by
      have : ops.size - i = (ops.size - (i + 1)) + 1 := by omega
      rw [this, List.range'_succ]
    have hdo : ∀ t, o.dst = some t -> t < nt := hd o (Array.mem_toList_iff.2 (Array.mem_of_getElem? ho));rw [hr, wpOps];simp only [ho];have hk0 : H (Nb + 2 * i) = none := hB _ (Nat.le_refl _);have hk1 : H (Nb + 2 * i + 1) = none := hB _ (by omega)
    have step : ∀ r tc ef, OH P G w0 B0 o T H tc (Nb + 2 * i) r ef -> (∀ b ∈ tc, H b ≠ none) -> (∀ x ∈ ef, x.1 = Nb + 2 * i \/ x.1 = Nb + 2 * i + 1 \/ x.1 ∈ tc) ->
        zP P G E w0 B0 ops Nb (i + 1) os (T.put o.dst r) (H.puts ef) ((i, tc, Dz tc ef) :: tr) K -> o.wp P a w (wpOps P ops Q (List.range' (i + 1) (ops.size - (i + 1)))) Q := by
      intro r tc ef hop htc hef hnx;refine hop nt T H e a w _ Q (λ_ _ => rfl) (λ_ _ => rfl) hk0 hk1 hT hI R ?_;intro e' w' hR' hon hrf;refine ih (i + 1) _ _ _ e' _ w' hos' (by omega) hnx hR' ((hT.on hI hon).put hdo r) (hI.aDO o.dst hrf) ?_ (by rw [Act.put_defers]; exact hdf);have := hB.puts htc hef
      rwa [show Nb + 2 * (i + 1) = Nb + 2 * i + 2 by omega]
    simp only [zP] at hev;split at hev
    · exact hev.elim
    · rename_i q hw;rw [afC hw hT]
      cases q with
      | false =>
        rw [Mx] at hev;simp only [Bool.false_eq_true, if_false];exact ih (i + 1) _ _ _ e _ w hos' (by omega) hev R (hT.put hdo (.v undef)) (hI.put o.dst (λc hc => by simp [AV.refs] at hc)) (λb hb => hB b (by omega)) (by rw [Act.put_defers]; exact hdf)
      | true =>
        rw [Gz] at hev;simp only [if_true];left;split at hev
        · rename_i c x y hp;have hpk := afD (P := P) (G := G) (E := E) hp H (Nb + 2 * i)
          cases c with
          | true =>
            rw [Gz] at hev;split at hev
            · rename_i r;exact step r [] [] (OI hE (hpk.1 r rfl rfl) w0 B0) (λb hb => (by cases hb)) (λx hx => (by cases hx)) hev
            · exact hev.elim
          | false =>
            rw [Mx] at hev;split at hev
            · rename_i r;exact step r [] [] (OI hE (hpk.2 r rfl rfl) w0 B0) (λb hb => (by cases hb)) (λx hx => (by cases hx)) hev
            · exact hev.elim
        · split at hev
          · rename_i r tc ef hn;obtain ⟨h1, h2⟩ := afE hn;exact step r tc ef (OI hE hn w0 B0) h1 h2 hev
          · split at hev
            · rename_i g args hc;obtain ⟨r, tc, ef, h0, h1, h2, h3⟩ := hev;exact step r tc ef (afB hc h0) h1 h2 h3
            · obtain ⟨r, tc, ef, h0, h1, h2, h3⟩ := hev;exact step r tc ef h0 h1 h2 h3
def MB (acc:List Nat):List Edge->Nat
 | []=>0
 | e::es=>(if Region.binds .any e then 2^e.on|||acc.getD e.on 0 else 0)|||MB acc es
def masks (acc:List Nat):List Oper->List Nat
 | []=>acc
 | o::os=>masks (acc ++ [MB acc o.after.toList]) os
def VO (ops:Array Oper) (L:Nat->Bool):Prop:=∀ k x,ops[k]? = some x->L k=true->∀ j,Gv x j=true->L j=true
theorem afF {acc:List Nat} {L:Nat->Bool} {j:Nat} : ∀ {es:List Edge},(MB acc es).testBit j=true->∃ e∈es,Region.binds .any e=true/\(e.on=j\/(acc.getD e.on 0).testBit j=true)
 | [],h=>by simp[MB] at h
 | e::es,h=>by
  rw[MB,Nat.testBit_or,Bool.or_eq_true] at h;rcases h with h|h
  ·split at h
   ·rename_i hb;rw[Nat.testBit_or,Bool.or_eq_true] at h;refine⟨e,List.mem_cons_self,hb,?_⟩;rcases h with h|h
    ·rw[Nat.testBit_two_pow] at h;exact .inl (by simpa using h)
    ·exact .inr h
   ·simp at h
  ·obtain⟨e',h1,h2⟩:=afF (L:=L) h;exact⟨e',List.mem_cons_of_mem _ h1,h2⟩
theorem afG {ops:Array Oper} {L:Nat->Bool} (hL:VO ops L):∀ (os:List Oper) (acc:List Nat),os=ops.toList.drop acc.length->(∀ i j,(acc.getD i 0).testBit j=true->L i=true->L j=true)->∀ i j,((masks acc os).getD i 0).testBit j=true->L i=true->L j=true
 | [],acc,_,h=>h
 | o::os,acc,hos,h=>by
  rw[masks]
  have hl:acc.length<ops.size:=by have:=congrArg List.length hos;simp at this;omega
  have ho:ops[acc.length]? = some o:=by have:=congrArg (·[0]?) hos;simp at this;rw[Array.getElem?_eq_getElem hl] at this ⊢;exact this.symm
  refine afG hL os _ ?_ ?_
  ·have:=congrArg List.tail hos;simpa using this
  ·intro i j hb hi;rcases Nat.lt_trichotomy i acc.length with hlt|rfl|hgt
   ·refine h i j ?_ hi;simpa [List.getD,List.getElem?_append_left hlt] using hb
   ·have hb':(MB acc o.after.toList).testBit j=true:=by simpa [List.getD] using hb
    obtain⟨e,he,hbi,h1⟩:=afF (L:=L) hb'
    have hon:L e.on=true:=hL _ o ho hi e.on (by
     unfold Gv;rw[Array.any_eq_true']
     exact⟨e,by simpa using he,by simp[hbi]⟩)
    rcases h1 with rfl|h1
    ·exact hon
    ·exact h _ _ h1 hon
   ·have:(acc ++ [MB acc o.after.toList])[i]? = none:=List.getElem?_eq_none (by simp;omega);simp[List.getD,this] at hb
def Jj (M:List Nat) (i j:Nat):Bool:=if j<i then(M.getD i 0).testBit j else if i<j then(M.getD j 0).testBit i else true
def CO (ops:Array Oper) (j:Nat):Option Tmp:=(ops[j]?).bind (·.dst)
def KA (ops:Array Oper) (o:Oper):List Tmp :=
 o.dst.toList++(match o.guard with|some (j,_)=>(CO ops j).toList|none=>[])++o.op.operands.toList.filterMap fun | .tmp t=>some t|_=>none
def OO (ops:Array Oper) (M:List Nat) (i:Nat) (u:List Tmp):Nat->List Oper->Bool
 | _,[]=>true
 | j,o::os=>(match o.dst with|some t => !u.contains t||Jj M i j|none=>true)&&OO ops M i u (j+1) os
def VP (ops:Array Oper) (M:List Nat):Nat->List Oper->Bool
 | _,[]=>true
 | i,o::os=>OO ops M i (KA ops o) 0 ops.toList&&VP ops M (i+1) os
def dstsLt (nt:Nat):List Oper->Bool
 | []=>true
 | o::os=>(match o.dst with|some t=>Nat.blt t nt|none=>true)&&dstsLt nt os
def drawOK (ops:Array Oper) (nt:Nat):Bool:=Jb 0 ops.toList&&dstsLt nt ops.toList&&VP ops (masks [] ops.toList) 0 ops.toList
def VQ (M:List Nat) (Nb i:Nat):List Nat->Bool
 | []=>true
 | b::bs=>(Nat.blt b Nb||(M.getD i 0).testBit ((b-Nb)/2))&&VQ M Nb i bs
def KC (M:List Nat) (x y:Nat×List Nat×Bool):Bool := !(x.2.2||y.2.2) || !(x.2.1.any λb=>y.2.1.contains b)||Jj M x.1 y.1
def KD (M:List Nat) (Nb:Nat):Tr->Bool
 | []=>true
 | x::l=>VQ M Nb x.1 x.2.1&&l.all (KC M x)&&KD M Nb l
def traceOK (ops:Array Oper) (Nb:Nat) (tr:Tr):Bool:=KD (masks [] ops.toList) Nb tr
theorem Jk {nt:Nat} : ∀ {os:List Oper},dstsLt nt os=true->∀ o∈os,∀ t,o.dst=some t->t<nt
 | [],_,o,h=>by cases h
 | x::os,h,o,ho=>by
  simp only[dstsLt,Bool.and_eq_true] at h;rcases List.mem_cons.1 ho with rfl|ho
  ·intro t ht;have:=h.1;rw[ht] at this;simpa using this
  ·exact Jk h.2 o ho
theorem Zk {ops:Array Oper} {M:List Nat} {i:Nat} {u:List Tmp} : ∀ {os:List Oper} {k:Nat},OO ops M i u k os=true->∀ m o t,os[m]? = some o->o.dst=some t->t∈u->Jj M i (k+m)=true
 | [],k,_,m,o,t,h=>by simp at h
 | x::os,k,h,m,o,t,ho=>by
  simp only[OO,Bool.and_eq_true] at h;intro ht hu
  cases m with
  | zero =>
   simp at ho;subst ho;have:=h.1;rw[ht] at this;simp[hu] at this;simpa using this
  | succ m=>have:=Zk h.2 m o t (by simpa using ho) ht hu;rwa [show k+1+m=k+(m+1) by omega] at this
theorem afH {ops:Array Oper} {M:List Nat} : ∀ {os:List Oper} {k:Nat},VP ops M k os=true->∀ m o,os[m]? = some o->OO ops M (k+m) (KA ops o) 0 ops.toList=true
 | [],k,_,m,o,h=>by simp at h
 | x::os,k,h,m,o,ho=>by
  simp only[VP,Bool.and_eq_true] at h
  cases m with
  | zero=>simp at ho;subst ho;exact h.1
  | succ m=>have:=afH h.2 m o (by simpa using ho);rwa [show k+1+m=k+(m+1) by omega] at this
theorem afI {M:List Nat} {Nb i:Nat} : ∀ {bs:List Nat},VQ M Nb i bs=true->∀ b∈bs,b<Nb\/(M.getD i 0).testBit ((b-Nb)/2)=true
 | [],_,b,h=>by cases h
 | x::bs,h,b,hb=>by
  simp only[VQ,Bool.and_eq_true,Bool.or_eq_true] at h;rcases List.mem_cons.1 hb with rfl|hb
  ·exact h.1.imp (by simp) id
  ·exact afI h.2 b hb
theorem anU {M:List Nat} {i j:Nat} (h:Jj M i j=true):Jj M j i=true:=by
 unfold Jj at h ⊢;rcases Nat.lt_trichotomy i j with h1|rfl|h1
 ·simp[h1,show ¬ j<i by omega] at h ⊢;exact h
 ·simp
 ·simp[h1,show ¬ i<j by omega] at h ⊢;exact h
theorem anV {M:List Nat} {x y:Nat×List Nat×Bool} (h:KC M x y=true):KC M y x=true:=by
 unfold KC at h ⊢;simp only[Bool.or_eq_true,Bool.not_eq_true'] at h ⊢;rcases h with(h|h)|h
 ·left;left;rw[Bool.or_comm];exact h
 ·left;right;rw[List.any_eq_false] at h ⊢;intro b hb hc;have:=h b;simp only[List.contains_iff_mem] at this hc;exact this hc hb
 ·right;exact anU h
theorem afJ {M:List Nat} {Nb:Nat} : ∀ {tr:Tr},KD M Nb tr=true->(∀ x∈tr,∀ b∈x.2.1,b<Nb\/(M.getD x.1 0).testBit ((b-Nb)/2)=true)/\∀ x∈tr,∀ y∈tr,x.1≠y.1->KC M x y=true
 | [],_=>⟨λx h=>(by cases h),λx h=>(by cases h)⟩
 | z::l,h=>by
  simp only[KD,Bool.and_eq_true] at h;obtain⟨ih1,ih2⟩:=afJ h.2;have hall:=List.all_eq_true.1 h.1.2;refine⟨λx hx=>?_,λx hx y hy hne=>?_⟩
  ·rcases List.mem_cons.1 hx with rfl|hx
   ·exact afI h.1.1
   ·exact ih1 x hx
  ·rcases List.mem_cons.1 hx with h1|h1<;>rcases List.mem_cons.1 hy with h2|h2
   ·exact absurd (by rw[h1,h2]) hne
   ·rw[h1];exact hall y h2
   ·rw[h2];exact anV (hall x h1)
   ·exact ih2 x h1 y h2 hne
structure Cf where
 w:Bool
 r:AV
 tc:List Nat
 ef:List (Nat×AO)
def FT (dst:Nat->Option Tmp) (D:Nat->Cf) (T:wU) (i:Nat):Nat->wU
 | 0=>T
 | m+1=>(FT dst D T i m).put (dst (i+m)) (D (i+m)).r
def FH (D:Nat->Cf) (H:wm) (i:Nat):Nat->wm
 | 0=>H
 | m+1=>(FH D H i m).puts (D (i+m)).ef
theorem Zm {dst:Nat->Option Tmp} {D:Nat->Cf} {T:wU} {i:Nat} : ∀ m,FT dst D T i (m+1)=FT dst D (T.put (dst i) (D i).r) (i+1) m
 | 0=>rfl
 | m+1=>by rw[FT,Zm m,FT];rw[show i+(m+1)=i+1+m by omega]
theorem Zn {D:Nat->Cf} {H:wm} {i:Nat} : ∀ m,FH D H i (m+1)=FH D (H.puts (D i).ef) (i+1) m
 | 0=>rfl
 | m+1=>by rw[FH,Zn m,FH];rw[show i+(m+1)=i+1+m by omega]
theorem Zo {dst:Nat->Option Tmp} {D D':Nat->Cf} {T:wU} {i:Nat} (h:∀ j,i<=j->D j=D' j):∀ m,FT dst D T i m=FT dst D' T i m
 | 0=>rfl
 | m+1=>by rw[FT,FT,Zo h m,h _ (by omega)]
theorem Zp {D D':Nat->Cf} {H:wm} {i:Nat} (h:∀ j,i<=j->D j=D' j):∀ m,FH D H i m=FH D' H i m
 | 0=>rfl
 | m+1=>by rw[FH,FH,Zp h m,h _ (by omega)]
def Zq (P:Program) (G:wQ) (w0:World) (B0:xB) (ops:Array Oper) (Nb i:Nat) (T:wU) (H:wm) (d:Cf):Prop :=
 ∃ o,ops[i]? = some o/\Ig ops T o=some d.w/\(d.w=true->OH P G w0 B0 o T H d.tc (Nb+2*i) d.r d.ef)/\(d.w=false->d.r = .v undef/\d.tc = []/\d.ef = []) /\
  (∀ b∈d.tc,H b≠none)/\(∀ x∈d.ef,x.1=Nb+2*i\/x.1=Nb+2*i+1\/x.1∈d.tc)
theorem anW {P:Program} {G:wQ} {E:xV} (hE:Jf P E) {w0:World} {B0:xB} {ops:Array Oper} {Nb:Nat} {K:wU->wm->Tr->Prop} :
  ∀ (os:List Oper) (i:Nat) (T:wU) (H:wm) (tr:Tr),os=ops.toList.drop i->i<=ops.size->zP P G E w0 B0 ops Nb i os T H tr K ->
   ∃ D tr',(∀ m,i+m<ops.size->Zq P G w0 B0 ops Nb (i+m) (FT (CO ops) D T i m) (FH D H i m) (D (i+m)))/\K (FT (CO ops) D T i (ops.size-i)) (FH D H i (ops.size-i)) tr'/\(∀ x∈tr,x∈tr') /\
    ∀ m,i+m<ops.size->(D (i+m)).w=true->(i+m,(D (i+m)).tc,Dz (D (i+m)).tc (D (i+m)).ef)∈tr':=by
 intro os
 induction os with
 | nil =>
  intro i T H tr hos hi hev
  have:ops.size-i=0:=by have:=congrArg List.length hos;simp at this;omega
  refine⟨λ_=>⟨false,.v undef,[],[]⟩,tr,λm hm=>by omega,?_,λx hx=>hx,λm hm=>by omega⟩;rw[this];exact hev
 | cons o os ih =>
  intro i T H tr hos hi hev
  have hlt:i<ops.size:=by have:=congrArg List.length hos;simp at this;omega
  have ho:ops[i]? = some o:=by have:=congrArg (·[0]?) hos;simp at this;rw[Array.getElem?_eq_getElem hlt] at this ⊢;exact this.symm
  have hos':os=ops.toList.drop (i+1):=by have:=congrArg List.tail hos;simpa using this
  have hdst:CO ops i=o.dst:=by simp[CO,ho]
  have key:∀ (d:Cf) (tr1:Tr),Zq P G w0 B0 ops Nb i T H d->(∀ x∈tr,x∈tr1)->(d.w=true->(i,d.tc,Dz d.tc d.ef)∈tr1)->zP P G E w0 B0 ops Nb (i+1) os (T.put o.dst d.r) (H.puts d.ef) tr1 K ->
    ∃ D tr',(∀ m,i+m<ops.size->Zq P G w0 B0 ops Nb (i+m) (FT (CO ops) D T i m) (FH D H i m) (D (i+m)))/\K (FT (CO ops) D T i (ops.size-i)) (FH D H i (ops.size-i)) tr'/\(∀ x∈tr,x∈tr') /\
     ∀ m,i+m<ops.size->(D (i+m)).w=true->(i+m,(D (i+m)).tc,Dz (D (i+m)).tc (D (i+m)).ef)∈tr':=by
   intro d tr1 hd htr hmem hnx;obtain⟨D',tr',h1,h2,h3,h4⟩:=ih (i+1) _ _ _ hos' (by omega) hnx;let D:Nat->Cf:=λj=>if j=i then d else D' j
   have hDi:D i=d:=by simp[D]
   have hD:∀ j,i+1<=j->D j=D' j:=λj hj=>by simp[D,show j≠i by omega]
   refine⟨D,tr',?_,?_,λx hx=>h3 x (htr x hx),?_⟩
   ·intro m hm
    cases m with
    | zero=>simpa [FT,FH,hDi] using hd
    | succ m =>
     rw[Zm,Zn,hDi,hdst,Zo hD,Zp hD,hD _ (by omega),show i+(m+1)=i+1+m by omega];exact h1 m (by omega)
   ·have hn:ops.size-i=(ops.size-(i+1))+1:=by omega
    rw[hn,Zm,Zn,hDi,hdst,Zo hD,Zp hD];exact h2
   ·intro m hm hw
    cases m with
    | zero =>
     rw[Nat.add_zero] at hw ⊢;rw[hDi] at hw ⊢;exact h3 _ (hmem hw)
    | succ m =>
     rw[hD _ (by omega),show i+(m+1)=i+1+m by omega] at hw ⊢;exact h4 m (by omega) hw
  simp only[zP] at hev;split at hev
  ·exact hev.elim
  ·rename_i q hw
   cases q with
   | false =>
    rw[Mx] at hev;exact key ⟨false,.v undef,[],[]⟩ tr ⟨o,ho,hw,λh=>(by cases h),λ_=>⟨rfl,rfl,rfl⟩,λb hb=>(by cases hb),λx hx=>(by cases hx)⟩ (λx hx=>hx) (λh=>(by cases h)) hev
   | true =>
    rw[Gz] at hev
    have go:∀ r tc ef,OH P G w0 B0 o T H tc (Nb+2*i) r ef->(∀ b∈tc,H b≠none)->(∀ x∈ef,x.1=Nb+2*i\/x.1=Nb+2*i+1\/x.1∈tc)->zP P G E w0 B0 ops Nb (i+1) os (T.put o.dst r) (H.puts ef) ((i,tc,Dz tc ef)::tr) K->_ :=
     λr tc ef h0 h1 h2 h3=>key ⟨true,r,tc,ef⟩ ((i,tc,Dz tc ef)::tr) ⟨o,ho,hw,λ_=>h0,λh=>(by cases h),h1,h2⟩ (λx hx=>List.mem_cons_of_mem _ hx) (λ_=>List.mem_cons_self) h3
    split at hev
    ·rename_i c x y hp;have hpk:=afD (P:=P) (G:=G) (E:=E) hp H (Nb+2*i)
     cases c with
     | true =>
      rw[Gz] at hev;split at hev
      ·rename_i r;exact go r [] [] (OI hE (hpk.1 r rfl rfl) w0 B0) (λb hb=>(by cases hb)) (λx hx=>(by cases hx)) hev
      ·exact hev.elim
     | false =>
      rw[Mx] at hev;split at hev
      ·rename_i r;exact go r [] [] (OI hE (hpk.2 r rfl rfl) w0 B0) (λb hb=>(by cases hb)) (λx hx=>(by cases hx)) hev
      ·exact hev.elim
    ·split at hev
     ·rename_i r tc ef hn;obtain⟨h1,h2⟩:=afE hn;exact go r tc ef (OI hE hn w0 B0) h1 h2 hev
     ·split at hev
      ·rename_i g args hc;obtain⟨r,tc,ef,h0,h1,h2,h3⟩:=hev;exact go r tc ef (afB hc h0) h1 h2 h3
      ·obtain⟨r,tc,ef,h0,h1,h2,h3⟩:=hev;exact go r tc ef h0 h1 h2 h3
def TL (dst:Nat->Option Tmp) (D:Nat->Cf) (T:wU) (L:Nat->Bool):Nat->wU
 | 0=>T
 | m+1=>if L m then(TL dst D T L m).put (dst m) (D m).r else TL dst D T L m
def HL (D:Nat->Cf) (H:wm) (L:Nat->Bool):Nat->wm
 | 0=>H
 | m+1=>if L m then(HL D H L m).puts (D m).ef else HL D H L m
theorem wU.aC2 {T:wU} {d:Option Tmp} {x:AV} {t:Nat} (h:d≠some t):(T.put d x) t=T t:=by
 cases d with
 | none=>rfl
 | some d=>exact wU.anO _ _ _ (λe=>h (by rw[e]))
theorem VR {dst:Nat->Option Tmp} {D:Nat->Cf} {T:wU} {L L':Nat->Bool} {t:Nat} : ∀ n,(∀ j,j<n->dst j=some t->L j=L' j)->TL dst D T L n t=TL dst D T L' n t
 | 0,_=>rfl
 | n+1,h=>by
  have ih:=VR (D:=D) (T:=T) n (λj hj=>h j (by omega));simp only[TL];by_cases hd:dst n=some t
  ·rw[h n (by omega) hd];split
   ·rw[hd,wU.aed,wU.aed]
   ·exact ih
  ·split<;>split<;>simp only[wU.aC2 hd,ih]
theorem Zr {dst:Nat->Option Tmp} {D:Nat->Cf} {T:wU} {i:Nat} : ∀ n,TL dst D T (λj=>decide (j<i)) n=FT dst D T 0 (min i n)
 | 0=>by simp[TL,FT]
 | n+1=>by
  simp only[TL,Zr n];by_cases h:n<i
  ·simp only[h,decide_true,if_true];rw[show min i (n+1)=min i n+1 by omega,FT,show min i n=n by omega,Nat.zero_add]
  ·simp only[h,decide_false,Bool.false_eq_true,if_false];rw[show min i (n+1)=min i n by omega]
theorem OP {D:Nat->Cf} {H:wm} {L L':Nat->Bool} {b:Nat} : ∀ n,(∀ j,j<n->(∃ x∈(D j).ef,x.1=b)->L j=L' j)->HL D H L n b=HL D H L' n b
 | 0,_=>rfl
 | n+1,h=>by
  have ih:=OP (D:=D) (H:=H) n (λj hj=>h j (by omega));simp only[HL];by_cases hd:∃ x∈(D n).ef,x.1=b
  ·rw[h n (by omega) hd];split
   ·exact wm.aCF ih
   ·exact ih
  ·have hn:∀ x∈(D n).ef,x.1≠b:=λx hx e=>hd ⟨x,hx,e⟩
   split<;>split<;>simp only[wm.aCM hn,ih]
theorem Zt {D:Nat->Cf} {H:wm} {i:Nat} : ∀ n,HL D H (λj=>decide (j<i)) n=FH D H 0 (min i n)
 | 0=>by simp[HL,FH]
 | n+1=>by
  simp only[HL,Zt n];by_cases h:n<i
  ·simp only[h,decide_true,if_true];rw[show min i (n+1)=min i n+1 by omega,FH,show min i n=n by omega,Nat.zero_add]
  ·simp only[h,decide_false,Bool.false_eq_true,if_false];rw[show min i (n+1)=min i n by omega]
theorem afK {dst:Nat->Option Tmp} {D:Nat->Cf} {T:wU} {L:Nat->Bool} {i t:Nat} : ∀ n,i<n->L i=true->dst i=some t->(∀ j,i<j->j<n->dst j=some t->L j=false)->TL dst D T L n t=some (D i).r
 | 0,h,_,_,_=>by omega
 | n+1,h,hL,hd,hj=>by
  simp only[TL];rcases Nat.lt_or_ge i n with hlt|hge
  ·have ih:=afK (D:=D) (T:=T) n hlt hL hd (λj h1 h2=>hj j h1 (by omega));split
   ·rename_i hLn;have:dst n≠some t:=λe=>by rw[hj n hlt (by omega) e] at hLn;cases hLn
    rw[wU.aC2 this];exact ih
   ·exact ih
  ·obtain rfl:i=n:=by omega
   rw[hL,if_pos rfl,hd,wU.aed]
theorem afL {D:Nat->Cf} {H:wm} {L L':Nat->Bool} {i b:Nat} (hL:L i=false) (hL':L' i=true) (hag:∀ j,j≠i->L' j=L j):∀ n,i<n->(∀ j,i<j->j<n->L j=true->∀ x∈(D j).ef,x.1≠b)->HL D H L' n b=((HL D H L n).puts (D i).ef) b
 | 0,h,_=>by omega
 | n+1,h,hj=>by
  simp only[HL];rcases Nat.lt_or_ge i n with hlt|hge
  ·have ih:=afL (D:=D) (H:=H) hL hL' hag n hlt (λj h1 h2=>hj j h1 (by omega));rw[hag n (by omega)];split
   ·rename_i hLn;have hne:=hj n hlt (by omega) hLn;rw[wm.aCM hne,ih];exact wm.aCF (wm.aCM hne).symm
   ·exact ih
  ·obtain rfl:i=n:=by omega
   rw[hL',hL,if_pos rfl];simp only[Bool.false_eq_true,if_false];apply wm.aCF;exact OP i (λj h1 _=>hag j (by omega))
theorem afM {dst:Nat->Option Tmp} {D:Nat->Cf} {T:wU} : ∀ n,TL dst D T (λ_=>false) n=T
 | 0=>rfl
 | n+1=>by simp[TL,afM n]
theorem Zu {D:Nat->Cf} {H:wm} : ∀ n,HL D H (λ_=>false) n=H
 | 0=>rfl
 | n+1=>by simp[HL,Zu n]
theorem afN {P:Program} {ops:Array Oper} {Q:Exit->Act->World->Prop} {Inv:(Nat->Bool)->Act->World->Prop} : ∀ (l:List Oper) (k:Nat),(∀ i o,l[i]? = some o->YU P ops Q Inv (k+i) o)->Ko P ops Q Inv k l
 | [],_,_=>trivial
 | o::l,k,h=>⟨h 0 o rfl,afN l (k+1) (λi x hx=>by have:=h (i+1) x (by simpa using hx);rwa [show k+1+i=k+(i+1) by omega])⟩
theorem anX {ops:Array Oper} {T T':wU} {o:Oper} (h:∀ t∈KA ops o,T' t=T t):Ig ops T' o=Ig ops T o:=by
 unfold Ig;split
 ·rfl
 ·rename_i j want hg
  cases hd:(ops[j]?).bind (·.dst) with
  | none=>rfl
  | some d =>
   simp only;rw[h d (by unfold KA;simp[hg,CO,hd])]
theorem anY {P:Program} {G:wQ} {E:xV} (hE:Jf P E) (hm:P.follows .mixedOrders=true) {w0:World} {B0:xB} {ops:Array Oper} {Nb nt id:Nat} {Q:Exit->Act->World->Prop} {K:wU->wm->Prop} {ds:List Deferred}
  (hst:drawOK ops nt=true) {T0:wU} {H0:wm} {e:Env} {a:Act} {w:World} (hev:zP P G E w0 B0 ops Nb 0 ops.toList T0 H0 [] (λT H tr=>traceOK ops Nb tr=true/\K T H))
  (R:xh G w0 B0 e H0 w) (hT:Bh nt e T0 a) (hI:Ap T0 H0) (hB:DC H0 Nb) (hdf:a.defers=ds)
  (hQ:∀ T H e a w,K T H->xh G w0 B0 e H w->Bh nt e T a->Ap T H->DC H (Nb+2*ops.size)->a.defers=ds->Q .normal a w):(Code.region id ops true).wp P Q a w:=by
 simp only[drawOK,Bool.and_eq_true] at hst;obtain⟨⟨htopo,hdl⟩,htmp⟩:=hst;obtain⟨D,tr,hSt,⟨htr,hK⟩,-,hmem⟩:=anW hE ops.toList 0 T0 H0 [] (by simp) (Nat.zero_le _) hev;simp only[Nat.zero_add,Nat.sub_zero] at hSt hK hmem;unfold traceOK at htr;generalize hM:masks [] ops.toList=M at htr htmp;obtain⟨htr1,htr2⟩:=afJ htr
 have hmask:∀ L,VO ops L->∀ i j,(M.getD i 0).testBit j=true->L i=true->L j=true:=λL hL=>by rw[<- hM];exact afG hL ops.toList [] (by simp) (λi j hb=>by simp at hb)
 have hdom:∀ m,m<=ops.size->DC (FH D H0 0 m) (Nb+2*m):=by
  intro m
  induction m with
  | zero=>intro _;simpa [FH] using hB
  | succ m ih =>
   intro hmn;obtain⟨o,ho,_,_,_,h1,h2⟩:=hSt m (by omega);have:=(ih (by omega)).puts h1 h2;rw[FH,Nat.zero_add,show Nb+2*(m+1)=Nb+2*m+2 by omega];exact this
 have hwt:∀ i,i<ops.size->∀ b∈(D i).tc,(D i).w=true:=λi hi b hb=>by
  obtain⟨o,ho,_,_,h0,_,_⟩:=hSt i hi
  cases hw:(D i).w with
  | true=>rfl
  | false=>rw[(h0 hw).2.1] at hb;cases hb
 have hmut:∀ i j b,i<ops.size->j<ops.size->i≠j->b∈(D i).tc->b∈(D j).tc->(∃ x∈(D j).ef,x.1=b)->Jj M i j=true:=by
  intro i j b hi hj hne hbi hbj ⟨x,hx,hxb⟩;have h:=htr2 _ (hmem i hi (hwt i hi b hbi)) _ (hmem j hj (hwt j hj b hbj)) hne;unfold KC at h;simp only[Bool.or_eq_true,Bool.not_eq_true'] at h;rcases h with(h|h)|h
  ·exfalso;rw[Bool.or_eq_false_iff] at h;have h2:=h.2;unfold Dz at h2;rw[List.any_eq_false] at h2;exact h2 x hx (by simp[hxb,hbj])
  ·exfalso;rw[List.any_eq_false] at h;exact h b hbi (by simp[hbj])
  ·exact h
 let TT:(Nat->Bool)->wU:=λL=>TL (CO ops) D T0 L ops.size
 let HH:(Nat->Bool)->wm:=λL=>HL D H0 L ops.size
 refine ana (Inv:=λL a w=>VO ops L/\∃ e,xh G w0 B0 e (HH L) w/\Bh nt e (TT L) a/\Ap (TT L) (HH L)/\a.defers=ds) hm htopo ?_ ?_ ?_
 ·refine⟨λk x _ h=>(by cases h),e,?_⟩;simp only[TT,HH,afM,Zu];exact⟨R.drew,hT,hI,hdf⟩
 ·refine afN _ 0 ?_;intro i o hio;rw[Nat.zero_add];have ho:ops[i]? = some o:=by simpa using hio
  have hi:i<ops.size:=(Array.getElem?_eq_some_iff.1 ho).1;rintro L a w K' ⟨hcl,e,R,hT,hI,hdf⟩ hLi hdeps hout hKn;obtain⟨o',ho',hwa,hop,hno,htc,hef⟩:=hSt i hi;obtain rfl:o=o':=Option.some.inj (ho.symm.trans ho');have hdst:CO ops i=o.dst:=by simp[CO,ho]
  have hne:∀ j,j≠i->upd L i j=L j:=λj hj=>by
   unfold upd
   cases hb:Nat.beq j i with
   | true=>exact absurd (Nat.eq_of_beq_eq_true hb) hj
   | false=>rfl
  have hcl':VO ops (upd L i):=by
   intro k x hx hk j hj;by_cases hji:j=i
   ·rw[hji];exact Vv L i
   ·rw[hne j hji];by_cases hki:k=i
    ·rw[hki] at hx;obtain rfl:o=x:=Option.some.inj (ho.symm.trans hx);exact hdeps j hj
    ·rw[hne k hki] at hk;exact hcl k x hx hk j hj
  have hpred:∀ j,j≠i->(M.getD i 0).testBit j=true->L j=true:=λj hj hb=>by
   have:=hmask _ hcl' i j hb (Vv L i)
   rwa [hne j hj] at this
  have hsucc:∀ j,(M.getD j 0).testBit i=true->L j=false:=λj hb=>by
   cases hLj:L j with
   | false=>rfl
   | true=>rw[hmask _ hcl j i hb hLj] at hLi;cases hLi
  have hord:∀ j,j≠i->Jj M i j=true->L j=decide (j<i):=by
   intro j hj h;unfold Jj at h;rcases Nat.lt_trichotomy j i with h1|h1|h1
   ·rw[if_pos h1] at h;rw[hpred j hj h];simp[h1]
   ·exact absurd h1 hj
   ·rw[if_neg (by omega),if_pos h1] at h;rw[hsucc j h];simp;omega
  have htr:OO ops M i (KA ops o) 0 ops.toList=true:=by
   have:=afH htmp i o hio
   rwa [Nat.zero_add] at this
  have hTA:∀ t∈KA ops o,TT L t=FT (CO ops) D T0 0 i t:=by
   intro t ht
   have:TT L t=TL (CO ops) D T0 (λj=>decide (j<i)) ops.size t:=by
    refine VR ops.size (λj hj hd=>?_);by_cases hji:j=i
    ·rw[hji,hLi];simp
    ·refine hord j hji ?_;have hj':ops.toList[j]? = some ops[j]:=by simp[hj]
     have hdj:(ops[j]).dst=some t:=by simpa [CO,hj] using hd
     have:=Zk htr j _ t hj' hdj ht
     rwa [Nat.zero_add] at this
   rw[this,Zr,Nat.min_eq_left (by omega)]
  have hHA:∀ b∈(D i).tc,HH L b=FH D H0 0 i b:=by
   intro b hb
   have:HH L b=HL D H0 (λj=>decide (j<i)) ops.size b:=by
    refine OP ops.size (λj hj hx=>?_);by_cases hji:j=i
    ·rw[hji,hLi];simp
    ·obtain⟨o2,ho2,_,_,_,_,hef2⟩:=hSt j hj;obtain⟨x,hxm,hxb⟩:=hx
     have hfresh:(b=Nb+2*j\/b=Nb+2*j+1)->L j=decide (j<i):=by
      intro hbj
      have hlt:b<Nb+2*i:=by apply Classical.byContradiction;intro hge;exact htc b hb (hdom i (by omega) b (by omega))
      have hji':j<i:=by omega
      rcases htr1 _ (hmem i hi (hwt i hi b hb)) b hb with h1|h1
      ·omega
      ·rw[show(b-Nb)/2=j by omega] at h1;rw[hpred j hji h1];simp[hji']
     rcases hef2 x hxm with h1|h1|h1
     ·exact hfresh (.inl (by omega))
     ·exact hfresh (.inr (by omega))
     ·rw[hxb] at h1;exact hord j hji (hmut i j b hi hj (λe=>hji e.symm) hb h1 ⟨x,hxm,hxb⟩)
   rw[this,Zt,Nat.min_eq_left (by omega)]
  have hfr:∀ b,(b=Nb+2*i\/b=Nb+2*i+1)->HH L b=none:=by
   intro b hb
   have:HH L b=HL D H0 (λ_=>false) ops.size b:=by
    refine OP ops.size (λj hj hx=>?_);by_cases hji:j=i
    ·rw[hji];exact hLi
    ·obtain⟨o2,ho2,_,_,_,_,hef2⟩:=hSt j hj;obtain⟨x,hxm,hxb⟩:=hx;rcases hef2 x hxm with h1|h1|h1
     ·omega
     ·omega
     ·rw[hxb] at h1;rcases htr1 _ (hmem j hj (hwt j hj b h1)) b h1 with h2|h2
      ·omega
      ·rw[show(b-Nb)/2=i by omega] at h2;exact hsucc j h2
   rw[this,Zu];exact hB b (by omega)
  have hT':TT (upd L i)=(TT L).put o.dst (D i).r:=by
   funext t;by_cases hd:o.dst=some t
   ·rw[hd,wU.aed];refine afK ops.size hi (Vv L i) (by rw[hdst];exact hd) (λj h1 h2 hdj=>?_);rw[hne j (by omega)];have hj':ops.toList[j]? = some ops[j]:=by simp[h2]
    have hdj':(ops[j]).dst=some t:=by simpa [CO,h2] using hdj
    have:=Zk htr j _ t hj' hdj' (by unfold KA;simp[hd]);rw[Nat.zero_add] at this;rw[hord j (by omega) this];simp;omega
   ·rw[wU.aC2 hd];refine VR ops.size (λj hj hdj=>?_);have:j≠i:=by rintro rfl;rw[hdst] at hdj;exact hd hdj
    exact hne j this
  have hH':HH (upd L i)=(HH L).puts (D i).ef:=by
   funext b;by_cases hk:∃ y∈(D i).ef,y.1=b
   ·obtain⟨y,hy,hyb⟩:=hk;refine afL hLi (Vv L i) hne ops.size hi (λj h1 h2 hLj x hx hxb=>?_);obtain⟨o2,ho2,_,_,_,htc2,hef2⟩:=hSt j h2;have hno:L j=false->False:=λh=>by rw[h] at hLj;cases hLj
    rcases hef y hy with h3|h3|h3<;>rcases hef2 x hx with h4|h4|h4
    ·omega
    ·omega
    ·rw[hxb] at h4;rcases htr1 _ (hmem j h2 (hwt j h2 b h4)) b h4 with h5|h5
     ·omega
     ·rw[show(b-Nb)/2=i by omega] at h5;exact hno (hsucc j h5)
    ·omega
    ·omega
    ·rw[hxb] at h4;rcases htr1 _ (hmem j h2 (hwt j h2 b h4)) b h4 with h5|h5
     ·omega
     ·rw[show(b-Nb)/2=i by omega] at h5;exact hno (hsucc j h5)
    ·rw[hyb] at h3;exact htc b h3 (hdom i (by omega) b (by omega))
    ·rw[hyb] at h3;exact htc b h3 (hdom i (by omega) b (by omega))
    ·rw[hyb] at h3;rw[hxb] at h4;have h5:=hord j (by omega) (hmut i j b hi h2 (by omega) h3 h4 ⟨x,hx,hxb⟩);rw[h5] at hLj;simp at hLj;omega
   ·rw[wm.aCM (λy hy hyb=>hk ⟨y,hy,hyb⟩)];refine OP ops.size (λj hj hx=>hne j ?_);rintro rfl;exact hk hx
  have hdo:∀ t,o.dst=some t->t<nt:=Jk hdl o (Array.mem_toList_iff.2 (Array.mem_of_getElem? ho));have hwA:Ig ops (TT L) o=some (D i).w:=by rw[anX hTA];exact hwa
  rw[afC hwA hT]
  cases hw:(D i).w with
  | false =>
   obtain⟨hr,-,hef0⟩:=hno hw;simp only[Bool.false_eq_true,if_false];refine hKn _ _ ⟨hcl',e,?_⟩;rw[hT',hH',hr,hef0];exact⟨R,hT.put hdo (.v undef),hI.put o.dst (λc hc=>by simp[AV.refs] at hc),by rw[Act.put_defers];exact hdf⟩
  | true =>
   simp only[if_true];refine hop hw nt (TT L) (HH L) e a w K' Q ?_ hHA (hfr _ (.inl rfl)) (hfr _ (.inr rfl)) hT hI R ?_
   ·intro x hx
    cases x with
    | tmp t=>exact hTA t (by unfold KA;simp;right;right;exact⟨_,hx,rfl⟩)
    | const v=>rfl
    | global g=>rfl
    | func f=>rfl
   ·intro e' w' R' hon hrf;refine hKn _ _ ⟨hcl',e',?_⟩;rw[hT',hH'];exact⟨R',(hT.on hI hon).put hdo _,hI.aDO o.dst hrf,by rw[Act.put_defers];exact hdf⟩
 ·rintro L a w ⟨-,e,R,hT,hI,hdf⟩ hall
  have h1:TT L=FT (CO ops) D T0 0 ops.size:=by funext t;have:TT L t=TL (CO ops) D T0 (λj=>decide (j<ops.size)) ops.size t:=VR ops.size (λj hj _=>by rw[hall j hj];simp[hj]);rw[this,Zr,Nat.min_self]
  have h2:HH L=FH D H0 0 ops.size:=by funext b;have:HH L b=HL D H0 (λj=>decide (j<ops.size)) ops.size b:=OP ops.size (λj hj _=>by rw[hall j hj];simp[hj]);rw[this,Zt,Nat.min_self]
  rw[h1,h2] at hI;rw[h1] at hT;rw[h2] at R;exact hQ _ _ e a w hK R hT hI (hdom ops.size (Nat.le_refl _)) hdf
structure Cx where
 P:Program
 G:wQ
 E:xV
 w0:World
 B0:xB
 nt:Nat
abbrev DD:=Exit->Nat->wU->wm->Prop
def Zv (C:Cx) (Q:DD):Exit->Act->World->Prop:=λx a w=>∃ N T H e,Q x N T H/\xh C.G C.w0 C.B0 e H w/\Bh C.nt e T a/\Ap T H/\DC H N/\a.defers = []
def AW (C:Cx) (c:Code) (Q:DD) (N:Nat) (T:wU) (H:wm):Prop :=
 ∀ e a w,xh C.G C.w0 C.B0 e H w->Bh C.nt e T a->Ap T H->DC H N->a.defers = []->c.wp C.P (Zv C Q) a w
section
variable {C:Cx} {Q:DD} {N:Nat} {T:wU} {H:wm}
theorem AW.mono {c:Code} {Q':DD} (h:AW C c Q N T H) (hq:∀ x N T H,Q x N T H->Q' x N T H):AW C c Q' N T H :=
 λe a w R hT hI hB hd=>wp_mono (h e a w R hT hI hB hd) λ_ _ _ ⟨N,T,H,e,h1,h2⟩=>⟨N,T,H,e,hq _ _ _ _ h1,h2⟩
theorem Zw (h:Q .normal N T H):AW C .skip Q N T H:=λe a w R hT hI hB hd=>wp_skip ⟨N,T,H,e,h,R,hT,hI,hB,hd⟩
theorem Zx {l:Nat} (h:Q .normal N T H):AW C (.label l) Q N T H:=λe a w R hT hI hB hd=>wp_label ⟨N,T,H,e,h,R,hT,hI,hB,hd⟩
theorem Zy {id:Nat} (h:Q (.exit id) N T H):AW C (.exit id) Q N T H:=λe a w R hT hI hB hd=>wp_exit ⟨N,T,H,e,h,R,hT,hI,hB,hd⟩
theorem Zz (h:Q .ret N T H):AW C .ret Q N T H:=λe a w R hT hI hB hd=>wp_ret ⟨N,T,H,e,h,R,hT,hI,hB,hd⟩
def OQ (K:Nat->wU->wm->Prop) (Q:DD):DD
 | .normal,N,T,H=>K N T H
 | x,N,T,H=>Q x N T H
theorem OT {x y:Code} (h:AW C x (OQ (AW C y Q) Q) N T H):AW C (.seq x y) Q N T H:=λe a w R hT hI hB hd =>
 wp_seq (wp_mono (h e a w R hT hI hB hd) λex a w ⟨N,T,H,e,h1,R,hT,hI,hB,hd⟩=>by
  cases ex with
  | normal=>exact h1 e a w R hT hI hB hd
  | _=>exact⟨N,T,H,e,h1,R,hT,hI,hB,hd⟩)
theorem afO {c:Operand} {x y:Code} {q:Bool} (hc:Ab T c=some (.v (.bool q))) (ht:q=true->AW C x Q N T H) (hf:q=false->AW C y Q N T H):AW C (.cond c x y) Q N T H:=λe a w R hT hI hB hd =>
 wp_cond_split (hT.eval hc) (λh=>ht h e a w R hT hI hB hd) (λh=>hf h e a w R hT hI hB hd)
theorem ZA {c:Operand} {x y:Code} (hc:Ab T c=some (.v (.bool true))) (h:AW C x Q N T H):AW C (.cond c x y) Q N T H:=afO hc (λ_=>h) (λh=>(by cases h))
theorem ZB {c:Operand} {x y:Code} (hc:Ab T c=some (.v (.bool false))) (h:AW C y Q N T H):AW C (.cond c x y) Q N T H:=afO hc (λh=>(by cases h)) (λ_=>h)
def Ti (id:Nat) (Q:DD):DD
 | .exit id',N,T,H=>if id'=id then Q .normal N T H else Q (.exit id') N T H
 | x,N,T,H=>Q x N T H
theorem ZC {id:Nat} {c:Code} (h:AW C c (Ti id Q) N T H):AW C (.block id c) Q N T H:=λe a w R hT hI hB hd =>
 wp_block (wp_mono (h e a w R hT hI hB hd) λex a w ⟨N,T,H,e,h1,h2⟩=>by
  cases ex with
  | exit id' =>
   simp only[Ti] at h1;simp only[Exit.inBlock];split
   ·rename_i hid;rw[if_pos hid] at h1;exact⟨N,T,H,e,h1,h2⟩
   ·rename_i hid;rw[if_neg hid] at h1;exact⟨N,T,H,e,h1,h2⟩
  | _=>exact⟨N,T,H,e,h1,h2⟩)
theorem ZE {p:Nat->Prop} (h:∃ m,p m):∃ m,p m/\∀ k,p k->m<=k:=by
 obtain⟨m,hm⟩:=h
 induction m using Nat.strongRecOn with
 | _ m ih =>
  by_cases hk:∃ k,k<m/\p k
  ·obtain⟨k,h1,h2⟩:=hk;exact ih k h1 h2
  ·exact⟨m,hm,λk hp=>Nat.le_of_not_lt λhl=>hk ⟨k,hl,hp⟩⟩
open Classical in
theorem anZ {c:Code} (I:Nat->Nat->wU->wm->Prop) {m:Nat} (h0:I m N T H) (round:∀ m N T H,I m N T H->AW C c (OQ (λN T H=>∃ m',m'<m/\I m' N T H) Q) N T H):AW C (.loop c) Q N T H:=by
 intro e a w R hT hI hB hd;let J:Act->World->Nat->Prop:=λa w m=>∃ N T H e,I m N T H/\xh C.G C.w0 C.B0 e H w/\Bh C.nt e T a/\Ap T H/\DC H N/\a.defers = []
 refine wp_loop (λa w=>∃ m,J a w m) (λa w=>if h:∃ m,J a w m then Classical.choose (ZE h) else 0) ⟨m,N,T,H,e,h0,R,hT,hI,hB,hd⟩ ?_;intro a w hJ;have hf:=(Classical.choose_spec (ZE hJ)).1;obtain⟨N,T,H,e,h1,R,hT,hI,hB,hd⟩:=hf;refine wp_mono (round _ N T H h1 e a w R hT hI hB hd) ?_;intro ex a' w' ⟨N',T',H',e',h2,R',hT',hI',hB',hd'⟩
 cases ex with
 | normal =>
  obtain⟨m',hm',h3⟩:=h2;have hJ':J a' w' m':=⟨N',T',H',e',h3,R',hT',hI',hB',hd'⟩;refine⟨⟨m',hJ'⟩,?_⟩;have h4:∃ m,J a' w' m:=⟨m',hJ'⟩;simp only[dif_pos h4,dif_pos hJ];exact Nat.lt_of_le_of_lt ((Classical.choose_spec (ZE h4)).2 _ hJ') hm'
 | _=>exact⟨N',T',H',e',h2,R',hT',hI',hB',hd'⟩
theorem ZF {c:Code} (h:AW C c Q N T H) (hg:∀ l N T H,¬ Q (.goto l) N T H):AW C (.scope c) Q N T H:=λe a w R hT hI hB hd =>
 wp_scope_straight (wp_mono (h e a w R hT hI hB hd) λex a w h=>by
  cases ex with
  | goto l=>obtain⟨N,T,H,e,h1,_⟩:=h;exact absurd h1 (hg l N T H)
  | _=>exact h)
theorem ZG {id:Nat} {ops:Array Oper} (hE:Jf C.P C.E) (hd:dstsLt C.nt ops.toList=true) (h:zP C.P C.G C.E C.w0 C.B0 ops N 0 ops.toList T H [] (λT H _=>Q .normal (N+2*ops.size) T H)):AW C (.region id ops false) Q N T H:=by
 intro e a w R hT hI hB hdf;refine wp_region ?_;have:=anT (Q:=Zv C Q) (ds:=[]) (nt:=C.nt) hE (Jk hd) (λT H tr e a w hK R hT hI hB hdf=>⟨_,T,H,e,hK,R,hT,hI,hB,hdf⟩) ops.toList 0 T H [] e a w (by simp) (Nat.zero_le _) h R hT hI hB hdf
 rwa [Nat.sub_zero,<- List.range_eq_range'] at this
theorem ZH {id:Nat} {ops:Array Oper} (hE:Jf C.P C.E) (hm:C.P.follows .mixedOrders=true) (hd:drawOK ops C.nt=true)
  (h:zP C.P C.G C.E C.w0 C.B0 ops N 0 ops.toList T H [] (λT H tr=>traceOK ops N tr=true/\Q .normal (N+2*ops.size) T H)):AW C (.region id ops true) Q N T H:=by
 intro e a w R hT hI hB hdf;exact anY (Q:=Zv C Q) (ds:=[]) hE hm hd h R hT hI hB hdf (λT H e a w hK R hT hI hB hdf=>⟨_,T,H,e,hK,R,hT,hI,hB,hdf⟩)
end
def DF (P:Program) (G:wQ) (T:wU) (H:wm):List ResultVar->Option (List AV)
 | []=>some []
 | .tmp t::l=>match T t,DF P G T H l with
  | some x,some r=>some (x::r)
  | _,_=>none
 | .cell a t::l=>match T a with
  | some (.loc b o)=>match CK P G t H (.loc b o),DF P G T H l with
   | some (x,_,_),some r=>some (x::r)
   | _,_=>none
  | _=>none
def GD:List AV->AV
 | [x]=>x
 | l=>Cq l
def Tj (tmps:Array Value):ResultVar->Sem Value
 | .tmp t=>pure (tmps.getD t undef)
 | .cell x t=>do loadVar t (<- asAddr (tmps.getD x undef))
theorem ZI {P:Program} {G:wQ} {T:wU} {H:wm} {w0:World} {B0:xB} {e:Env} {w:World} {nt:Nat} {a:Act} (R:xh G w0 B0 e H w) (hT:Bh nt e T a):∀ {l:List ResultVar} {rs:List AV},DF P G T H l=some rs ->
  (l.mapM (Tj a.tmps)).run P w = .ok (AV.vals e rs) w
 | [],rs,h=>by simp only[DF,Option.some.injEq] at h;subst h;rfl
 | .tmp t::l,rs,h=>by
  simp only[DF] at h;split at h
  ·rename_i x r hx hr;cases h;have h1:(Tj a.tmps (.tmp t)).run P w = .ok (x.val e) w:=by rw[<- (hT.2 t x hx).2];rfl
   rw[List.mapM_cons];simp only[Sem.run_bind,Sem.run_pure,Result.andThen,ZI R hT hr,h1];rfl
  ·cases h
 | .cell x t::l,rs,h=>by
  simp only[DF] at h;split at h
  ·rename_i b o hx;split at h
   ·rename_i y tc ef r hy hr;cases h;have h0:=(hT.2 x _ hx).2;obtain⟨_,h2,_⟩:=Zd hy R;simp only[Instr.loadAt,AV.val,Instr.sureAddr,Sem.run_bind,Sem.run_pure,Result.andThen] at h2
    have h1:(Tj a.tmps (.cell x t)).run P w = .ok (y.val e) w:=by unfold Tj;simp only[h0,AV.val,asAddr,Sem.run_bind,Sem.run_pure,Result.andThen,h2]
    rw[List.mapM_cons];simp only[Sem.run_bind,Sem.run_pure,Result.andThen,ZI R hT hr,h1];rfl
   ·cases h
  ·cases h
theorem an0 (fn:Func) (tmps:Array Value):results fn tmps=(do let vs <- fn.results.mapM (Tj tmps);pure (if h:vs.size=1 then vs[0] else .tuple vs)):=by unfold results;congr 1
theorem afP {P:Program} {G:wQ} {T:wU} {H:wm} {w0:World} {B0:xB} {e:Env} {w:World} {nt:Nat} {a:Act} (R:xh G w0 B0 e H w) (hT:Bh nt e T a) {fn:Func} {rs:List AV} (h:DF P G T H fn.results.toList=some rs) :
  (results fn a.tmps).run P w = .ok ((GD rs).val e) w:=by
 have h1:=ZI (P:=P) R hT h;rw[an0,Array.mapM_eq_mapM_toList];simp only[Sem.run_bind,Sem.run_map,h1,Result.andThen,Sem.run_pure];congr 1
 have key:∀ l:List Value,(if h:l.toArray.size=1 then l.toArray[0] else Value.tuple l.toArray)=(match l with | [x]=>x|l=>.tuple l.toArray):=by
  intro l
  cases l with
  | nil=>rfl
  | cons x l=>cases l with
   | nil=>rfl
   | cons y l=>rw[dif_neg (by simp)]
 rw[key]
 cases rs with
 | nil=>rfl
 | cons x rs =>
  cases rs with
  | nil=>rfl
  | cons y rs =>
   rw[show GD (x::y::rs)=Cq (x::y::rs) from rfl,YV];rfl
def ZJ (P:Program) (G:wQ) (fn:Func) (R:AV->wm->Prop):DD
 | .normal,_,T,H=>∃ rs,DF P G T H fn.results.toList=some rs/\R (GD rs) H
 | .ret,_,T,H=>∃ rs,DF P G T H fn.results.toList=some rs/\R (GD rs) H
 | _,_,_,_=>False
def Jl (args:List AV) (nt:Nat):wU:=λt=>match args[t]? with
 | some x=>if t<nt then some x else none
 | none=>if t<nt then some (.v undef) else none
theorem VS {P:Program} {G:wQ} {E:xV} {f:FuncId} {fn:Func} {c:Code} {w:World} {B0:xB} {e0:Env} {H0:wm} {N0:Nat} {args:List AV} {R:AV->wm->Prop} (hf:P.funcs[f]? = some fn) (hb:fn.body=some c)
  (hn:args.length<=fn.ntmps) (hR:xh G w B0 e0 H0 w) (hB:DC H0 N0) (ha:∀ x∈args,∀ r∈x.refs,H0 r≠none)
  (h:AW ⟨P,G,E,w,B0,fn.ntmps⟩ c (ZJ P G fn R) N0 (Jl args fn.ntmps) H0) :
  Calls P f (AV.vals e0 args).toArray w λen w'=>∃ r e H,en = .returned (r.val e)/\R r H/\xh G w B0 e H w':=by
 refine calls_of_wp hf hb ?_
 have hT:Bh fn.ntmps e0 (Jl args fn.ntmps) { tmps:=(AV.vals e0 args).toArray++Array.replicate (fn.ntmps-(AV.vals e0 args).toArray.size) undef,defers:=[] }:=by
  refine⟨by simp[EQ];omega,λt x hx=>?_⟩;unfold Jl at hx
  have hget:(((AV.vals e0 args).toArray++Array.replicate (fn.ntmps-(AV.vals e0 args).toArray.size) undef).getD t undef)=(((AV.vals e0 args)++List.replicate (fn.ntmps-args.length) undef)[t]?).getD undef:=by rw[Array.getD_eq_getD_getElem?,<- Array.getElem?_toList];simp[EQ]
  rw[hget];split at hx
  ·rename_i y hy;split at hx
   ·rename_i hlt;cases hx;refine⟨hlt,?_⟩;have hlt':t<args.length:=(List.getElem?_eq_some_iff.1 hy).1;rw[List.getElem?_append_left (by rw[EQ];exact hlt'),AV.akT];simp[hy]
   ·cases hx
  ·rename_i hy;split at hx
   ·rename_i hlt;cases hx;refine⟨hlt,?_⟩
    have hge:args.length<=t:=by
     rcases Nat.lt_or_ge t args.length with h1|h1
     ·rw[List.getElem?_eq_getElem h1] at hy;cases hy
     ·exact h1
    rw[List.getElem?_append_right (by rw[EQ];exact hge)];rw[List.getElem?_replicate];split<;>rfl
   ·cases hx
 have hI:Ap (Jl args fn.ntmps) H0:=by
  intro t x hx r hr;unfold Jl at hx;split at hx
  ·rename_i y hy;split at hx
   ·cases hx;exact ha x (List.mem_of_getElem? hy) r hr
   ·cases hx
  ·split at hx
   ·cases hx;simp[AV.refs] at hr
   ·cases hx
 refine wp_mono (h e0 _ w hR hT hI hB rfl) ?_;rintro ex a w' ⟨N,T,H,e,hq,R',hT',hI',hB',hd⟩
 cases ex with
 | normal =>
  obtain⟨rs,h1,h2⟩:=hq;exact⟨hd,_,afP R' hT' h1,GD rs,e,H,rfl,h2,R'⟩
 | ret =>
  obtain⟨rs,h1,h2⟩:=hq;exact⟨hd,_,afP R' hT' h1,GD rs,e,H,rfl,h2,R'⟩
 | exit id=>exact hq.elim
 | goto l=>exact hq.elim
 | panic ch=>exact hq.elim
 | outgrown=>exact hq.elim
theorem FC {P:Program} {g:FuncId} {fn:Func} {args:Array Value} {w:World} {R:Ending->World->Prop} (hf:P.funcs[g]? = some fn) (hn:(fn.name == "runtime.NumGoroutine")=false) (hb:fn.body.isNone=false) (h:Calls P g args w R):Ce P g args w R:=by
 unfold Ce
 have:(callFunc g args).run P w = .ok (.enter g args) w:=by unfold callFunc;have hp:(program).run P w = .ok P w:=rfl;simp only[Sem.run_bind,hp,Result.andThen,hf,hn,hb,Bool.false_eq_true,if_false];rfl
 rw[this];exact h
theorem an1 {G:wQ} {w:World} (hG:Gl G w) (e:Env):xh G w xB.nil e (λ_=>none) w :=
 ⟨rfl,rfl,rfl,Nat.le_refl _,λ_ _ _=>rfl,hG,λ_ _ _ h=>(by cases h),λ_ _ _ h=>(by cases h),λ_ _ _ h=>(by cases h),λ_ _ _ _ _ _ h=>(by cases h),λ_ _ _ h=>(by cases h),λ_ _ _ _ _ _ h=>(by cases h),λ_ _ h=>(by cases h),λ_ h=>(by cases h),λ_ _ _ h=>(by cases h),λ_ _ h=>(by cases h)⟩
theorem xh.bel {G:wQ} {w:World} {e:Env} {H:wm} {w':World} (R:xh G w xB.nil e H w'):vY w w' :=
 ⟨R.os,R.tape,R.output,R.size,λk hk=>R.old k hk (by simp[xB.nil])⟩
theorem ZK {P:Program} {G:wQ} (E:xV) {f:FuncId} {fn:Func} {c:Code} {args:List Value} {v:Value} (hf:P.funcs[f]? = some fn) (hb:fn.body=some c) (hn:(fn.name == "runtime.NumGoroutine")=false) (hl:(Nat.ble args.length fn.ntmps)=true)
  (h:∀ w,AW ⟨P,G,E,w,xB.nil,fn.ntmps⟩ c (ZJ P G fn (λr _=>r = .v v)) 0 (Jl (args.map .v) fn.ntmps) (λ_=>none)):PC P G f args v:=by
 intro w hG;refine FC hf hn (by rw[hb];rfl) ?_
 have:=VS (E:=E) (e0:=⟨λ_=>0,λ_=>undef⟩) (args:=args.map .v) hf hb (by simpa using hl) (an1 hG _) (λ_ _=>rfl) (λx hx r hr=>by
  obtain⟨y,_,rfl⟩:=List.mem_map.1 hx;simp[AV.refs] at hr) (h w)
 rw[Cs] at this;refine this.mono ?_;rintro en w' ⟨r,e,H,rfl,rfl,R⟩;exact⟨rfl,R.bel⟩
def gNm:Nat->List UInt8
 | 0=>[105,110,118,97,108,105,100]|1=>[100,105,118,122,101,114,111]|2=>[111,118,101,114,102,108,111,119]
 | 3=>[117,110,100,101,114,102,108,111,119]|4=>[105,110,101,120,97,99,116]|_=>[]
def gX (w:World):Prop:=(∀ j,j<5->w.cell? ⟨4,j,none⟩=some (.string ⟨(gNm j).toArray⟩))/\Lib.TabIs prog w "internal/strconv.uint64pow10" .u64 Lib.pow10Tab/\∃ m,w.cell? ⟨3,0,none⟩=some (.int .i64 m)
theorem afQ:prog.globalNamed "internal/strconv.uint64pow10" = some 2:=by kernel_rfl
theorem an3 {w w':World} (h1:w'.heap[4]? = w.heap[4]?) (h2:w'.heap[2]? = w.heap[2]?) (h3:w'.heap[3]? = w.heap[3]?) (h:gX w):gX w':=by obtain⟨a,b,m,c⟩:=h;refine⟨λj hj=>(World.cell?_of_block (w:=w) (a:=⟨4,j,none⟩) h1).trans (a j hj),?_,m,(World.cell?_of_block (w:=w) (a:=⟨3,0,none⟩) h3).trans c⟩;unfold Lib.TabIs World.var? at b ⊢;rw[afQ] at b ⊢;simp only[Option.bind_some] at b ⊢;rw[h2];exact b
def gG:wQ where
  l:=(0,[.int .i64 16,.int .i64 11,.int .i64 15,.int .i64 32,.int .i64 24,.int .i64 127,.int .i64 64,.int .i64 53,.int .i64 1023,.int .i64 128,.int .i64 113,.int .i64 16383]) ::
 (1,[.int .u64 2147483648,.int .u64 2147483647,.int .u64 0,.int .u64 4294967295,.int .u64 9223372036854775808,.int .u64 9223372036854775807,.int .u64 0,.int .u64 18446744073709551615]) ::
    (4,[])::(2,[])::(3,[]) :: []
  X:=gX
  same:=λw w' h=>an3 (h (4,[]) (by simp)) (h (2,[]) (by simp)) (h (3,[]) (by simp))
theorem wrap_i64 {x:Int} (h : -9223372036854775808<=x/\x<9223372036854775808):IntKind.i64.wrap x=x:=by unfold IntKind.wrap IntKind.bits IntKind.signed;simp;omega
theorem wrap_u64 {x:Int} (h:0<=x/\x<18446744073709551616):IntKind.u64.wrap x=x:=by unfold IntKind.wrap IntKind.bits IntKind.signed;simp;omega
def CP (C:Cx) (c:Code) (Q:DD):Nat->Nat->wU->wm->Prop
 | 0,_,_,_=>False
 | n+1,N,T,H=>AW C c (OQ (CP C c Q n) Q) N T H
theorem OU {C:Cx} {Q:DD} {N:Nat} {T:wU} {H:wm} {c:Code} (n:Nat) (h:CP C c Q n N T H):AW C (.loop c) Q N T H:=by
 refine anZ (λm N T H=>CP C c Q m N T H) h ?_;intro m N T H hm
 cases m with
 | zero=>exact hm.elim
 | succ m =>
  refine AW.mono hm (λx N T H h=>?_)
  cases x with
  | normal=>exact⟨m,Nat.lt_succ_self m,h⟩
  | _=>exact h
theorem OV (C:Cx) (c:Code) (Q:DD) (n N:Nat) (T:wU) (H:wm):CP C c Q (n+1) N T H=AW C c (OQ (CP C c Q n) Q) N T H:=rfl
theorem Tk {P:Program} {G:wQ} {g:FuncId} {fn:Func} {args:List Value} {v:Value} (hf:P.funcs[g]? = some fn) (hn:(fn.name == "runtime.NumGoroutine")=false) (hb:fn.body.isNone=false)
  (h:∀ w,Calls P g args.toArray w λe w'=>e = .returned v/\vY w w'):PC P G g args v:=λw _=>FC hf hn hb (h w)
end Go.Proofs.YtippohicjhilnaaGreatDoor
