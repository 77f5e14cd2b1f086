import Derived.RangeFuncNested
import Derived.RangeFuncBound
import Derived.RangeFuncCalls
import Derived.RangeFuncLeaves
import Derived.RangeFuncBox
import Derived.Shelf.Abstract
import Derived.Shelf.RegionOpen
import Derived.WalkKit
import Derived.WalkSpells
import Derived.WalkLawsBesides
import Derived.OwnWalkIn
import Derived.TacticsInMore
import Derived.LoopNIn
import Derived.LoopIn
import Derived.Maps.AppendAt
import Derived.Stop.RegionWithIn
import Derived.Deep.QuietTactic
import Derived.BigQuiet
import Derived.Lib.Hide
import Derived.Test.YtbembkamcdlhbaaGreatDoorProg
import Derived.Orders
import Derived.OrdersIn
import Derived.StillTail
import Derived.Below
import Derived.Laws.CopyRow
import Derived.MapKept
import Derived.Scope
set_option linter.unusedSimpArgs false
set_option linter.unusedVariables false
namespace Go.Proofs.YtbembkamcdlhbaaGreatDoor
open Go.RowKit Go.Shelf
def FE (B:Nat) (A W:World):Prop:=∀ v,A.cell? ⟨B,0,none⟩=some v→W.cell? ⟨B,0,none⟩=some v
theorem Ti {B:Nat} {A W C:World} (h:FE B A W) (k:FE B W C):FE B A C:=fun v hv=>k v (h v hv)
theorem Tj {B:Nat} {n:Nat} (W:World) (l:Nat) (o o':Obj) (_:n≤l) (h:W.heap[l]? = some o) (hn:o.isCells=false) (_:o.isWalk=false):FE B W (W.putObj l o'):=fun _ hv=>cell_kept hv (grownBy_putObj' W l o') (fun r e=>by cases e;exact⟨_,h,hn⟩)
def Tk (D:Nat):Deferred := { target:=.collected D,args:=#[] }
def Marks (n₀:Nat) (Ds:List Nat) (W:World):Prop:=Ds.Nodup∧∀ D∈Ds,n₀≤D∧W.heap[D]? = some (.deferred (some []))
theorem Marks.lt {n₀:Nat} {Ds:List Nat} {W:World} (h:Marks n₀ Ds W) {D:Nat} (hD:D∈Ds):D<W.heap.size:=(Array.getElem?_eq_some_iff.1 (h.2 D hD).2).1
theorem Marks.keeps {n₀:Nat} {Ds:List Nat} {W W':World} (h:Marks n₀ Ds W) (k:KeepsOthers W W'):Marks n₀ Ds W' :=
 ⟨h.1,fun D hD=>⟨(h.2 D hD).1,k.same D _ (h.2 D hD).2 rfl⟩⟩
theorem Marks.leaves {F:Fence} {n:Nat} {P:Program} {fn:Func} {tmps:Array Value} {v:Value} {w:World} (hres:∀ W,(results fn tmps).run P W = .ok v W):∀ (Ds:List Nat) (W:World),Marks w.heap.size Ds W→Below w.heap.size w W →
  LeavesInM F n P fn tmps (fun e W'=>e = .returned v∧Below w.heap.size w W') (Ds.map Tk) .returning W
 | [],W,_,hB=>⟨v,hres W,rfl,hB⟩
 | D::Ds,W,h,hB=>by
  refine⟨by simp,.inl ⟨D,_,rfl,run_takeDeferred (h.2 D (by simp)).2,?_⟩⟩
  refine Marks.leaves hres Ds _ ⟨(List.nodup_cons.1 h.1).2,fun D' hD'=>⟨(h.2 D' (by simp[hD'])).1,?_⟩⟩ (hB.trans (belowK_b (w:=w) (n₀:=w.heap.size) (Nat.le_refl _) W D _ _ (h.2 D (by simp)).1 (h.2 D (by simp)).2 rfl rfl))
  rw[World.putObj_heap_other (by rintro rfl;exact(List.nodup_cons.1 h.1).1 hD')];exact(h.2 D' (by simp[hD'])).2
theorem abj {β:Type} {n₀ B:Nat} {Ds:List Nat} (h:∀ D∈Ds,D<B):OwnFrom B (fun(_:β) W=>Marks n₀ Ds W):=fun s A W row hs hg hr =>
 ⟨hs.1,fun D hD=>⟨(hs.2 D hD).1,(hg.block D (hs.lt hD) (fun e=>by have:=(hr D e.symm).1;have:=h D hD;omega)).trans (hs.2 D hD).2⟩⟩
theorem Marks.cons {n₀:Nat} {Ds:List Nat} {W:World} {D B:Nat} (h:Marks n₀ Ds W) (hlt:∀ D∈Ds,D<B) (hB:B≤D) (hn:n₀≤D) (hD:W.heap[D]? = some (.deferred (some []))):Marks n₀ (D::Ds) W :=
 ⟨List.nodup_cons.2 ⟨fun hm=>by have:=hlt D hm;omega,h.1⟩,fun D' hD'=>by
  rcases List.mem_cons.1 hD' with rfl|hm
  ·exact⟨hn,hD⟩
  ·exact h.2 D' hm⟩
def rq (w w':World):Prop:=Below w.heap.size w w'
theorem rq.refl (w:World):rq w w:=Below.refl _ w
theorem rq.trans {a b c:World} (h:rq a b) (k:rq b c):rq a c:=Below.trans h (Below.mono k h.size)
theorem rq.alloc {a b:World} (h:rq a b) (o:Obj):rq a (b.alloc o):=Below.alloc h h.size o
theorem rq.drew {a b:World} (h:rq a b):rq a b.drew:=Below.drew h
theorem Below.drewN {B:Nat} {a w:World} (h:Below B a w) (n:Nat):Below B a (w.drewN n):=⟨h.os,h.tape,h.output,h.size,h.block⟩
theorem rq.drewN {a b:World} (h:rq a b) (n:Nat):rq a (b.drewN n):=Below.drewN h n
theorem rq.size {a b:World} (h:rq a b):a.heap.size≤b.heap.size:=Below.size h
theorem rq.cell {a b:World} (h:rq a b) (k o:Nat) (hk:k<a.heap.size):b.cell? ⟨k,o,none⟩=a.cell? ⟨k,o,none⟩:=Below.cell h (p:=⟨k,o,none⟩) hk
theorem rq.cells {W w1:World} (hb:rq W w1):(∀ b o,b<W.heap.size→w1.cell? ⟨b,o,none⟩=W.cell? ⟨b,o,none⟩)∧(∀ b o,b<W.heap.size→w1.frozen? ⟨b,o,none⟩=W.frozen? ⟨b,o,none⟩) :=
 ⟨fun b o h=>Below.cell (p:=⟨b,o,none⟩) hb h,fun b o h=>Below.frozen (p:=⟨b,o,none⟩) hb h⟩
theorem vF {w:World} {b o:Nat} {v:Value} (h:w.cell? ⟨b,o,none⟩=some v):b<w.heap.size:=by
 apply Classical.byContradiction
 intro hn
 have:w.heap[b]? = none:=Array.getElem?_eq_none (by omega)
 simp[World.cell?,this] at h
section Orders
variable {F:Fence} {n:Nat} {P:Program} {ops:Array Oper} {Q:Exit→Act→World→Prop} {md:Region.Mode}
def FI (md:Region.Mode) (ops:Array Oper):Nat→Array Bool→List (List Nat)
 | 0,_=>[[]]
 | fuel+1,listed =>
  match Region.ready md ops listed with
  | []=>[[]]
  | r::rs=>(r::rs).flatMap fun i=>(FI md ops fuel (listed.setIfInBounds i true)).map (i :: ·)
theorem abk:∀ (fuel t:Nat) (listed:Array Bool),Region.linearise.go md ops fuel t listed []∈FI md ops fuel listed:=by
 intro fuel
 induction fuel with
 | zero=>intro t listed;simp[Region.linearise.go,FI]
 | succ fuel ih =>
  intro t listed
  simp only[Region.linearise.go]
  change (match (Region.ready md ops listed)[t%(Region.ready md ops listed).length]? with
   | some i=>Region.linearise.go md ops fuel (t/(Region.ready md ops listed).length) (listed.setIfInBounds i true) [i]
   | none=>[].reverse)∈_
  cases hr:Region.ready md ops listed with
  | nil=>simp[FI,hr]
  | cons r rs =>
   have hlt:t%(r::rs).length<(r::rs).length:=Nat.mod_lt _ (by simp)
   have hi:(r::rs)[t%(r::rs).length]? = some ((r::rs)[t%(r::rs).length]):=List.getElem?_eq_getElem hlt
   rw[hi]
   simp only[]
   rw[linearise_go_acc,List.reverse_singleton,List.singleton_append]
   simp only[FI,hr]
   exact List.mem_flatMap.2 ⟨_,List.getElem_mem hlt,List.mem_map.2 ⟨_,ih _ _,rfl⟩⟩
theorem abl:∀ (l:List Nat) (a:Act) (w:World),wpListIn F n P ops Q (l.filterMap (ops[·]?)) a w→wpOpsIn F n P ops Q l a w:=by
 intro l
 induction l with
 | nil=>intro a w h;simpa [wpListIn,wpOpsIn] using h
 | cons i l ih =>
  intro a w h
  cases hi:ops[i]? with
  | none=>rw[List.filterMap_cons_none hi] at h;simp only[wpOpsIn,hi];exact ih _ _ h
  | some o =>
   rw[List.filterMap_cons_some hi] at h
   simp only[wpOpsIn,hi,wpListIn] at h ⊢
   split
   ·rename_i hw;simp only[hw,if_true] at h;exact Oper.wpIn_mono (fun a w=>ih a w) h
   ·rename_i hw;simp only[hw] at h;exact⟨h.1,ih _ _ h.2⟩
theorem abm {id:Nat} {a:Act} {w:World} (os:List (List Nat)) (hm:P.follows .mixedOrders=true) (ho:FI .any ops ops.size (Array.replicate ops.size false)=os) (h:∀ l∈os,wpListIn F n P ops Q (l.filterMap (ops[·]?)) a w.drew) :
  (Code.region id ops true).wpIn F n P Q a w :=
 wpIn_region_draw fun t=>by
  simp only[Region.schedule,hm,Bool.true_or,if_true]
  exact abl _ _ _ (h _ (ho▸abk _ t _))
end Orders
def upd (L:Nat→Bool) (i:Nat):Nat→Bool:=fun j=>bif Nat.beq j i then true else L j
theorem Lp (L:Nat→Bool) (i:Nat):upd L i i=true:=by simp[upd]
def zX (o:Oper) (j:Nat):Bool:=o.after.any fun e=>Region.binds .any e&&Nat.beq e.on j
def Bz:Nat→List Oper→Bool
 | _,[]=>true
 | k,o::rest=>(o.after.all fun e => !Region.binds .any e||Nat.blt e.on k)&&Bz (k+1) rest
theorem Tm:∀ (l:List Oper) (k:Nat),Bz k l=true→∀ (i:Nat) (o:Oper),l[i]? = some o→∀ e∈o.after,Region.binds .any e=true→e.on<k+i
 | [],_,_,i,o,h=>by simp at h
 | x::l,k,ht,i,o,h=>by
  simp only[Bz,Bool.and_eq_true] at ht
  intro e he hb
  cases i with
  | zero =>
   simp at h;subst h
   have:=Array.all_eq_true_iff_forall_mem.1 ht.1 e he
   simp[hb] at this
   simpa using this
  | succ i =>
   have:=Tm l (k+1) ht.2 i o (by simpa using h) e he hb
   omega
def ut (listed:Array Bool):Nat→Bool:=fun i=>listed.getD i false
theorem Oa (listed:Array Bool) (i:Nat) (h:i<listed.size):ut (listed.setIfInBounds i true)=upd (ut listed) i:=by
 funext j
 unfold ut upd
 cases hb:Nat.beq j i with
 | true =>
  obtain rfl:=Nat.eq_of_beq_eq_true hb
  simp[h]
 | false =>
  have hne:i≠j:=fun e=>by rw[e] at hb;simp at hb
  simp[hne]
theorem Tn {ops:Array Oper} (ht:Bz 0 ops.toList=true) {listed:Array Bool} (hs:listed.size=ops.size) (hr:Region.ready .any ops listed = []):∀ i,i<ops.size→ut listed i=true:=by
 intro i
 induction i using Nat.strongRecOn with
 | _ i ih =>
  intro hi
  apply Classical.byContradiction
  intro hn
  have hf:listed.getD i false=false:=by unfold ut at hn;simpa using hn
  have:i∈Region.ready .any ops listed:=by
   rw[mem_ready]
   refine⟨?_,ops[i],Array.getElem?_eq_getElem hi,fun e he hb=>?_⟩
   ·simp[hs,hi] at hf ⊢;exact hf
   ·have hlt:=Tm ops.toList 0 ht i ops[i] (by simp[hi]) e he hb
    exact ih e.on (by omega) (by omega)
  rw[hr] at this;cases this
theorem Tp {listed:Array Bool} {i:Nat} (h:listed.getD i true=false):ut listed i=false:=by
 unfold ut
 rcases Nat.lt_or_ge i listed.size with h'|h'
 ·simp[h'] at h ⊢;exact h
 ·simp[Array.getElem?_eq_none h'] at h
def Closed (ops:Array Oper) (listed:Array Bool):Prop:=∀ k x,ops[k]? = some x→ut listed k=true→∀ j,zX x j=true→ut listed j=true
theorem Closed.off {ops:Array Oper} {listed:Array Bool} (h:Closed ops listed) {k i:Nat} {x:Oper} (hx:ops[k]? = some x) (hd:zX x i=true) (hL:ut listed i=false):ut listed k=false:=by
 cases hk:ut listed k with
 | false=>rfl
 | true=>rw[h k x hx hk i hd] at hL;cases hL
theorem Closed.set {ops:Array Oper} {listed:Array Bool} (h:Closed ops listed) {i:Nat} {o:Oper} (hi:i<listed.size) (ho:ops[i]? = some o) (hdep:∀ e∈o.after,Region.binds .any e=true→listed.getD e.on false=true):Closed ops (listed.setIfInBounds i true):=by
 intro k x hx hk j hj
 rw[Oa _ _ hi] at hk ⊢
 unfold upd at hk ⊢
 cases hji:Nat.beq j i with
 | true=>rfl
 | false =>
  simp only[cond_false]
  cases hki:Nat.beq k i with
  | true =>
   obtain rfl:=Nat.eq_of_beq_eq_true hki
   obtain rfl:=Option.some.inj (hx.symm.trans ho)
   unfold zX at hj
   obtain⟨e,he,hb⟩:=Array.any_eq_true'.1 hj
   simp only[Bool.and_eq_true] at hb
   obtain rfl:=Nat.eq_of_beq_eq_true hb.2
   exact hdep e he hb.1
  | false=>rw[hki] at hk;exact h k x hx hk j hj
theorem Closed.none {ops:Array Oper} : Closed ops (Array.replicate ops.size false):=by
 intro k x hx hk
 unfold ut at hk
 rw[getD_replicate_false] at hk;cases hk
section plain
variable {P:Program} {ops:Array Oper} {Q:Exit→Act→World→Prop}
def Ob (P:Program) (ops:Array Oper) (Q:Exit→Act→World→Prop) (Inv:(Nat→Bool)→Act→World→Prop) (i:Nat) (o:Oper):Prop :=
 ∀ (L:Nat→Bool) (a:Act) (w:World) (K:Act→World→Prop),Inv L a w→L i=false→(∀ j,zX o j=true→L j=true)→(∀ k x,ops[k]? = some x→zX x i=true→L k=false)→(∀ a' w',Inv (upd L i) a' w'→K a' w') →
  if Region.wanted o (yielded ops a.tmps)=true then Oper.wp P o a w K Q else K (a.put o.dst undef) w
def CE (P:Program) (ops:Array Oper) (Q:Exit→Act→World→Prop) (Inv:(Nat→Bool)→Act→World→Prop):Nat→List Oper→Prop
 | _,[]=>True
 | k,o::rest=>Ob P ops Q Inv k o∧CE P ops Q Inv (k+1) rest
theorem CE.get {Inv:(Nat→Bool)→Act→World→Prop} : ∀ (l:List Oper) (k:Nat),CE P ops Q Inv k l→∀ i o,l[i]? = some o→Ob P ops Q Inv (k+i) o
 | [],_,_,i,o,h=>by simp at h
 | x::l,k,hs,0,o,h=>by simp at h;subst h;exact hs.1
 | x::l,k,hs,i+1,o,h=>by
  have:=CE.get l (k+1) hs.2 i o (by simpa using h)
  rwa [show k+1+i=k+(i+1) by omega] at this
theorem abn (Inv:(Nat→Bool)→Act→World→Prop) (ht:Bz 0 ops.toList=true) (hs:CE P ops Q Inv 0 ops.toList)
  (hd:∀ L a w,Inv L a w→(∀ i,i<ops.size→L i=true)→Q .normal a w) :
  ∀ (fuel:Nat) (listed:Array Bool) (a:Act) (w:World),listed.size=ops.size→Closed ops listed→(∃ n:Nat,n+fuel=ops.size∧n=listed.toList.countP id)→Inv (ut listed) a w→wpAny P .any ops Q fuel listed a w:=by
 intro fuel
 induction fuel with
 | zero =>
  rintro listed a w hsz hcl ⟨n,hn,hc⟩ hI
  have hall:∀ x∈listed.toList,x=true:=by
   have:listed.toList.countP id=listed.toList.length:=by rw[← hc,Array.length_toList,hsz];omega
   simpa using List.countP_eq_length.1 this
  have hl:∀ i,i<ops.size→ut listed i=true:=fun i hi=>by
   unfold ut
   have:=hall (listed[i]'(by omega)) (by simp)
   simp[show i<listed.size by omega,this]
  refine⟨?_,hd _ a w hI hl⟩
  apply Classical.byContradiction
  intro hne
  obtain⟨j,hj⟩:=List.exists_mem_of_ne_nil _ hne
  obtain⟨h1,o,ho,_⟩:=mem_ready.1 hj
  have hj':=(Array.getElem?_eq_some_iff.1 ho).1
  have:=hl j hj'
  unfold ut at this
  simp[show j<listed.size by omega] at this h1
  rw[this] at h1;cases h1
 | succ fuel ih =>
  rintro listed a w hsz hcl ⟨n,hn,hc⟩ hI
  refine⟨fun hr=>hd _ a w hI (Tn ht hsz hr),fun i hi=>?_⟩
  obtain⟨h1,o,ho,hdep⟩:=mem_ready.1 hi
  have hi':=(Array.getElem?_eq_some_iff.1 ho).1
  have hL:ut listed i=false:=Tp h1
  have hst:=CE.get ops.toList 0 hs i o (by simpa using ho)
  rw[Nat.zero_add] at hst
  have hcnt:(listed.setIfInBounds i true).toList.countP id=n+1:=by
   rw[hc]
   have hil:i<listed.toList.length:=by simp;omega
   have hfi:listed.toList[i]=false:=by unfold ut at hL;simp[show i<listed.size by omega] at hL;simpa using hL
   rw[Array.toList_setIfInBounds,List.countP_set (h:=hil)]
   simp[hfi]
  have hstep:=hst (ut listed) a w (wpAny P .any ops Q fuel (listed.setIfInBounds i true)) hI hL
   (fun j hj=>by
    unfold zX at hj
    obtain⟨e,he,hb⟩:=Array.any_eq_true'.1 hj
    simp only[Bool.and_eq_true] at hb
    obtain rfl:=Nat.eq_of_beq_eq_true hb.2
    exact hdep e he hb.1)
   (fun k x hx hdx=>hcl.off hx hdx hL)
   (fun a' w' hI'=>ih _ a' w' (by simp[hsz]) (hcl.set (by omega) ho hdep) ⟨n+1,by omega,hcnt.symm⟩ (by rw[Oa _ _ (by omega)];exact hI'))
  unfold wpOp
  rw[ho]
  dsimp only
  split
  ·rename_i hw;rw[if_pos hw] at hstep;exact .inl hstep
  ·rename_i hw;rw[if_neg hw] at hstep;exact hstep
theorem abo {id:Nat} {a:Act} {w:World} (Inv:(Nat→Bool)→Act→World→Prop) (hm:P.follows .mixedOrders=true) (ht:Bz 0 ops.toList=true) (h0:Inv (fun _=>false) a w.drew)
  (hs:CE P ops Q Inv 0 ops.toList) (hd:∀ L a w,Inv L a w→(∀ i,i<ops.size→L i=true)→Q .normal a w):(Code.region id ops true).wp P Q a w :=
 wp_region_any hm (abn Inv ht hs hd ops.size _ a _ (by simp) Closed.none ⟨0,by simp,by simp[List.countP_replicate]⟩ (by
  have:ut (Array.replicate ops.size false)=fun _=>false:=by
   funext i;unfold ut;exact getD_replicate_false _ _
  rw[this];exact h0))
end plain
section fenced
variable {F:Fence} {n:Nat} {P:Program} {ops:Array Oper} {Q:Exit→Act→World→Prop}
def Tq (F:Fence) (n:Nat) (P:Program) (ops:Array Oper) (Q:Exit→Act→World→Prop) (Inv:(Nat→Bool)→Act→World→Prop) (i:Nat) (o:Oper):Prop :=
 ∀ (L:Nat→Bool) (a:Act) (w:World) (K:Act→World→Prop),Inv L a w→L i=false→(∀ j,zX o j=true→L j=true)→(∀ k x,ops[k]? = some x→zX x i=true→L k=false)→(∀ a' w',Inv (upd L i) a' w'→K a' w') →
  if Region.wanted o (yielded ops a.tmps)=true then Oper.wpIn F n P o a w K Q else(∀ f,o.about P w a.eval=some f→F.fn f)∧K (a.put o.dst undef) w
def DV (F:Fence) (n:Nat) (P:Program) (ops:Array Oper) (Q:Exit→Act→World→Prop) (Inv:(Nat→Bool)→Act→World→Prop):Nat→List Oper→Prop
 | _,[]=>True
 | k,o::rest=>Tq F n P ops Q Inv k o∧DV F n P ops Q Inv (k+1) rest
theorem DV.get {Inv:(Nat→Bool)→Act→World→Prop} : ∀ (l:List Oper) (k:Nat),DV F n P ops Q Inv k l→∀ i o,l[i]? = some o→Tq F n P ops Q Inv (k+i) o
 | [],_,_,i,o,h=>by simp at h
 | x::l,k,hs,0,o,h=>by simp at h;subst h;exact hs.1
 | x::l,k,hs,i+1,o,h=>by
  have:=DV.get l (k+1) hs.2 i o (by simpa using h)
  rwa [show k+1+i=k+(i+1) by omega] at this
theorem abp (Inv:(Nat→Bool)→Act→World→Prop) (ht:Bz 0 ops.toList=true) (hs:DV F n P ops Q Inv 0 ops.toList)
  (hd:∀ L a w,Inv L a w→(∀ i,i<ops.size→L i=true)→Q .normal a w) :
  ∀ (fuel:Nat) (listed:Array Bool) (a:Act) (w:World),listed.size=ops.size→Closed ops listed→(∃ m:Nat,m+fuel=ops.size∧m=listed.toList.countP id)→Inv (ut listed) a w→wpAnyIn F n P .any ops Q fuel listed a w:=by
 intro fuel
 induction fuel with
 | zero =>
  rintro listed a w hsz hcl ⟨m,hn,hc⟩ hI
  have hall:∀ x∈listed.toList,x=true:=by
   have:listed.toList.countP id=listed.toList.length:=by rw[← hc,Array.length_toList,hsz];omega
   simpa using List.countP_eq_length.1 this
  have hl:∀ i,i<ops.size→ut listed i=true:=fun i hi=>by
   unfold ut
   have:=hall (listed[i]'(by omega)) (by simp)
   simp[show i<listed.size by omega,this]
  refine⟨?_,hd _ a w hI hl⟩
  apply Classical.byContradiction
  intro hne
  obtain⟨j,hj⟩:=List.exists_mem_of_ne_nil _ hne
  obtain⟨h1,o,ho,_⟩:=mem_ready.1 hj
  have hj':=(Array.getElem?_eq_some_iff.1 ho).1
  have:=hl j hj'
  unfold ut at this
  simp[show j<listed.size by omega] at this h1
  rw[this] at h1;cases h1
 | succ fuel ih =>
  rintro listed a w hsz hcl ⟨m,hn,hc⟩ hI
  refine⟨fun hr=>hd _ a w hI (Tn ht hsz hr),fun i hi=>?_⟩
  obtain⟨h1,o,ho,hdep⟩:=mem_ready.1 hi
  have hi':=(Array.getElem?_eq_some_iff.1 ho).1
  have hL:ut listed i=false:=Tp h1
  have hst:=DV.get ops.toList 0 hs i o (by simpa using ho)
  rw[Nat.zero_add] at hst
  have hcnt:(listed.setIfInBounds i true).toList.countP id=m+1:=by
   rw[hc]
   have hil:i<listed.toList.length:=by simp;omega
   have hfi:listed.toList[i]=false:=by unfold ut at hL;simp[show i<listed.size by omega] at hL;simpa using hL
   rw[Array.toList_setIfInBounds,List.countP_set (h:=hil)]
   simp[hfi]
  have hstep:=hst (ut listed) a w (wpAnyIn F n P .any ops Q fuel (listed.setIfInBounds i true)) hI hL
   (fun j hj=>by
    unfold zX at hj
    obtain⟨e,he,hb⟩:=Array.any_eq_true'.1 hj
    simp only[Bool.and_eq_true] at hb
    obtain rfl:=Nat.eq_of_beq_eq_true hb.2
    exact hdep e he hb.1)
   (fun k x hx hdx=>hcl.off hx hdx hL)
   (fun a' w' hI'=>ih _ a' w' (by simp[hsz]) (hcl.set (by omega) ho hdep) ⟨m+1,by omega,hcnt.symm⟩ (by rw[Oa _ _ (by omega)];exact hI'))
  unfold wpOpIn
  rw[ho]
  dsimp only
  split
  ·rename_i hw;rw[if_pos hw] at hstep;exact hstep
  ·rename_i hw;rw[if_neg hw] at hstep;exact hstep
theorem CG {id:Nat} {a:Act} {w:World} (Inv:(Nat→Bool)→Act→World→Prop) (hm:P.follows .mixedOrders=true) (ht:Bz 0 ops.toList=true) (h0:Inv (fun _=>false) a w.drew)
  (hs:DV F n P ops Q Inv 0 ops.toList) (hd:∀ L a w,Inv L a w→(∀ i,i<ops.size→L i=true)→Q .normal a w):(Code.region id ops true).wpIn F n P Q a w :=
 wpIn_region_any hm (abp Inv ht hs hd ops.size _ a _ (by simp) Closed.none ⟨0,by simp,by simp[List.countP_replicate]⟩ (by
  have:ut (Array.replicate ops.size false)=fun _=>false:=by
   funext i;unfold ut;exact getD_replicate_false _ _
  rw[this];exact h0))
end fenced
open Go.RowKit
theorem rC {w:World} {B:Nat} {cs:Array Value} {t:TypeId} {fr:Nat×Nat} (h:w.heap[B]? = some (.cells cs t fr)) (i:Nat) {v:Value} (hv:cs[i]? = some v):w.cell? ⟨B,i,none⟩=some v:=by
 simp[World.cell?,h,hv]
theorem rZ {w:World} {B:Nat} {cs:Array Value} {t:TypeId} (h:w.heap[B]? = some (.cells cs t (0,0))) (i:Nat):w.frozen? ⟨B,i,none⟩=false:=by
 simp[World.frozen?,h]
theorem CJ {w:World} {B:Nat} {o:Obj} (h:w.heap[B]? = some o):B<w.heap.size:=(Array.getElem?_eq_some_iff.1 h).1
theorem heap_alloc {w:World} {B:Nat} {o:Obj} (h:w.heap[B]? = some o) (x:Obj):(w.alloc x).heap[B]? = some o:=(Below.heap_alloc w x B (CJ h)).trans h
theorem BA (w:World) (o:Obj):(w.alloc o).heap[w.heap.size]? = some o:=World.alloc_heap_new w o
theorem Jr (w:World) (x o:Obj):((w.alloc x).alloc o).heap[w.heap.size+1]? = some o:=by
 have:=BA (w.alloc x) o;rwa [World.size_alloc] at this
theorem zk (w:World) (x y o:Obj):(((w.alloc x).alloc y).alloc o).heap[w.heap.size+1+1]? = some o:=by
 have:=Jr (w.alloc x) y o;rwa [World.size_alloc] at this
theorem Lr (w:World) (x y z o:Obj):((((w.alloc x).alloc y).alloc z).alloc o).heap[w.heap.size+1+1+1]? = some o:=by
 have:=zk (w.alloc x) y z o;rwa [World.size_alloc] at this
theorem Ls (w:World) (x y z v o:Obj):(((((w.alloc x).alloc y).alloc z).alloc v).alloc o).heap[w.heap.size+1+1+1+1]? = some o:=by
 have:=Lr (w.alloc x) y z v o;rwa [World.size_alloc] at this
theorem Lt (w:World) (x y z v u o:Obj):((((((w.alloc x).alloc y).alloc z).alloc v).alloc u).alloc o).heap[w.heap.size+1+1+1+1+1]? = some o:=by
 have:=Ls (w.alloc x) y z v u o;rwa [World.size_alloc] at this
theorem sw {o:Oper} {y:Nat→Option Bool} (h:o.guard=none):Region.wanted o y=true:=by unfold Region.wanted;rw[h]
theorem sD {b:Bool} {p q:Prop} (hb:b=true) (h:p):if b=true then p else q:=by rw[if_pos hb];exact h
theorem rq.set {w W:World} {B i:Nat} (h:rq w W) (hB:w.heap.size≤B) (v:Value):rq w (W.setCell ⟨B,i,none⟩ v):=Below.setCell h hB v
theorem sN {w w':World} {B:Nat} {o:Obj} (h:w.heap[B]? = some o) (hb:Below w.heap.size w w'):w'.heap[B]? = some o:=(hb.block B (CJ h)).trans h
theorem rJ {w:World} {B:Nat} {o:Obj} (h:w.heap[B]? = some o) (a:Addr) (v:Value) (hne:B≠a.block):(w.setCell a v).heap[B]? = some o:=(Below.heap_setCell w a v B hne).trans h
theorem heap_set {w:World} {B i:Nat} {cs:Array Value} {t:TypeId} {fr:Nat×Nat} (h:w.heap[B]? = some (.cells cs t fr)) (v:Value):(w.setCell ⟨B,i,none⟩ v).heap[B]? = some (.cells (cs.setIfInBounds i v) t fr):=by
 have hlt:=CJ h
 have hg:w.heap[B] = .cells cs t fr:=(Array.getElem?_eq_some_iff.1 h).2
 simp only[World.setCell]
 rw[Array.getElem?_eq_getElem (by simpa using hlt),Array.getElem_modify_self,hg];rfl
theorem Tt {w:World} {B:Nat} {x0 x1 x2 x3:Value} {t:TypeId} {fr:Nat×Nat} (h:w.heap[B]? = some (.cells #[x0,x1,x2,x3] t fr)) (v0 v1 v2 v3:Value) :
  ((((w.setCell ⟨B,0,none⟩ v0).setCell ⟨B,1,none⟩ v1).setCell ⟨B,2,none⟩ v2).setCell ⟨B,3,none⟩ v3).heap[B]? = some (.cells #[v0,v1,v2,v3] t fr):=heap_set (heap_set (heap_set (heap_set h v0) v1) v2) v3
open Go.RowKit
inductive AV where
 | v (x:Value)
 | loc (b off:Nat)
 | sl (b off len cap:Nat)
 | hd (k:Nat)
 | ha (k off:Nat)
 | fn (f:Fn) (first captured:List AV)
 | tup (l:List AV)
 | agg (l:List AV)
def zG:Value→Value
 | .slice a l c=>.slice a l c
 | .map a=>.map a
 | _=>.slice none 0 0
structure Env where
 blk:Nat→Nat
 hnd:Nat→Value
mutual
def AV.val (e:Env):AV→Value
 | .v x=>x
 | .loc b off=>.pointer (some ⟨e.blk b,off,none⟩)
 | .sl b off len cap=>.slice (some ⟨e.blk b,off,none⟩) len cap
 | .hd k=>zG (e.hnd k)
 | .ha k off=>match e.hnd k with | .slice (some a) _ _=>.pointer (some ⟨a.block,a.off+off,none⟩)|_=>.pointer (some ⟨0,off,none⟩)
 | .fn f a c=>.func f (AV.vals e a).toArray (AV.vals e c).toArray
 | .tup l=>.tuple (AV.vals e l).toArray
 | .agg l=>.agg (AV.vals e l).toArray
def AV.vals (e:Env):List AV→List Value
 | []=>[]
 | x::l=>AV.val e x::AV.vals e l
end
theorem AV.vals_map (e:Env):∀ l:List AV,AV.vals e l=l.map (AV.val e)
 | []=>rfl
 | x::l=>by rw[AV.vals,AV.vals_map e l];rfl
mutual
def AV.refs:AV→List Nat
 | .v _=>[]
 | .loc b _=>[b]
 | .sl b _ _ _=>[b]
 | .hd k=>[k]
 | .ha k _=>[k]
 | .fn _ a c=>AV.refss a++AV.refss c
 | .tup l=>AV.refss l
 | .agg l=>AV.refss l
def AV.refss:List AV→List Nat
 | []=>[]
 | x::l=>AV.refs x++AV.refss l
end
theorem AV.mem_refss {r:Nat} : ∀ {l:List AV},r∈AV.refss l↔∃ x∈l,r∈AV.refs x
 | []=>by simp[AV.refss]
 | x::l=>by rw[AV.refss,List.mem_append,AV.mem_refss (l:=l)];simp
inductive AO where
 | own (c:List AV) (t:TypeId)
 | rd (n:Nat) (c:List Value)
 | mp (es:List (Value×Value))
def AO.isOwn:AO→Bool | .own _ _=>true | .rd _ _=>false | .mp _=>false
def AO.refs:AO→List Nat
 | .own c _=>AV.refss c
 | .rd _ _=>[]
 | .mp _=>[]
abbrev ry:=Nat→Option AO
def ry.put (H:ry) (k:Nat) (o:AO):ry:=fun j=>if j=k then some o else H j
def ry.puts (H:ry):List (Nat×AO)→ry
 | []=>H
 | x::l=>ry.puts (H.put x.1 x.2) l
abbrev rT:=Nat→Option AV
def rT.put (T:rT) (d:Option Nat) (x:AV):rT:=match d with|none=>T|some d=>fun j=>if j=d then some x else T j
theorem ry.put_same (H:ry) (k:Nat) (o:AO):(H.put k o) k=some o:=by simp[ry.put]
theorem ry.put_ne (H:ry) (k:Nat) (o:AO) {j:Nat} (h:j≠k):(H.put k o) j=H j:=by simp[ry.put,h]
theorem rT.put_same (T:rT) (d:Nat) (x:AV):(T.put (some d) x) d=some x:=by simp[rT.put]
theorem rT.put_ne (T:rT) (d:Nat) (x:AV) {j:Nat} (h:j≠d):(T.put (some d) x) j=T j:=by simp[rT.put,h]
def uU (T:rT):Operand→Option AV
 | .tmp t=>T t
 | .const v=>some (.v v)
 | .global g=>some (.v (.pointer (some ⟨g,0,none⟩)))
 | .func f=>some (.v (.func (.func f) #[] #[]))
def wu (nt:Nat) (e:Env) (T:rT) (a:Act):Prop:=a.tmps.size=nt∧∀ t x,T t=some x→t<nt∧a.tmps.getD t undef=x.val e
theorem wu.eval {nt:Nat} {e:Env} {T:rT} {a:Act} (h:wu nt e T a) {x:Operand} {y:AV} (hx:uU T x=some y):a.eval x=y.val e:=by
 cases x with
 | tmp t=>exact(h.2 t y hx).2
 | const v=>simp only[uU,Option.some.injEq] at hx;subst hx;rfl
 | global g=>simp only[uU,Option.some.injEq] at hx;subst hx;rfl
 | func f=>simp only[uU,Option.some.injEq] at hx;subst hx;rfl
def Reads (w:World) (v:Value) (n:Nat) (c:List Value):Prop :=
 (v = .slice none 0 0∧n=0∧c = [])∨∃ b off cap,v = .slice (some ⟨b,off,none⟩) n cap∧b<w.heap.size∧∀ j x,c[j]? = some x→w.cell? ⟨b,off+j,none⟩=some x
def wT:Value→Option Nat
 | .slice (some a) _ _=>some a.block
 | .pointer (some a)=>some a.block
 | _=>none
theorem Reads.same {w w':World} {v:Value} {n:Nat} {c:List Value} (h:Reads w v n c) (hs:w.heap.size≤w'.heap.size) (hb:∀ b,wT v=some b→b<w.heap.size→w'.heap[b]? = w.heap[b]?):Reads w' v n c:=by
 rcases h with h|⟨b,off,cap,rfl,hlt,hc⟩
 ·exact .inl h
 ·refine .inr ⟨b,off,cap,rfl,by omega,fun j x hj=>?_⟩
  rw[← hc j x hj]
  exact World.cell?_of_block (w:=w) (a:=⟨b,off+j,none⟩) (hb b rfl hlt)
theorem Reads.lt {w:World} {v:Value} {n:Nat} {c:List Value} (h:Reads w v n c) {b:Nat} (hb:wT v=some b):b<w.heap.size:=by
 rcases h with⟨rfl,_⟩|⟨b',off,cap,rfl,hlt,_⟩
 ·simp[wT] at hb
 ·simp[wT] at hb;omega
def Lu:Value→Option Nat
 | .map a=>a
 | _=>none
def FJ:Nat→List (Value×Value)→List MapEntry
 | _,[]=>[]
 | i,x::l => { key:=x.1,val:=x.2,born:=i } :: FJ (i+1) l
def AC (es:List (Value×Value)):Obj:=.map (FJ 0 es).toArray es.length
def MapAt (w:World) (v:Value) (es:List (Value×Value)):Prop:=∃ b,v = .map (some b)∧w.heap[b]? = some (AC es)
theorem MapAt.same {w w':World} {v:Value} {es:List (Value×Value)} (h:MapAt w v es) (hb:∀ b,Lu v=some b→b<w.heap.size→w'.heap[b]? = w.heap[b]?):MapAt w' v es:=by
 obtain⟨b,rfl,hw⟩:=h
 exact⟨b,rfl,by rw[hb b rfl (Array.getElem?_eq_some_iff.1 hw).1];exact hw⟩
theorem MapAt.lt {w:World} {v:Value} {es:List (Value×Value)} (h:MapAt w v es) {b:Nat} (hb:Lu v=some b):b<w.heap.size:=by
 obtain⟨b',rfl,hw⟩:=h
 cases hb
 exact(Array.getElem?_eq_some_iff.1 hw).1
abbrev rP:=List (Nat×List Value)
def Gl (G:rP) (w:World):Prop:=∀ x∈G,x.1<w.heap.size∧∀ j v,x.2[j]? = some v→w.cell? ⟨x.1,j,none⟩=some v
theorem Gl.same {G:rP} {w w':World} (h:Gl G w) (hs:w.heap.size≤w'.heap.size) (hb:∀ x∈G,w'.heap[x.1]? = w.heap[x.1]?):Gl G w':=fun x hx =>
 ⟨Nat.lt_of_lt_of_le (h x hx).1 hs,fun j v hj=>by rw[← (h x hx).2 j v hj];exact World.cell?_of_block (w:=w) (a:=⟨x.1,j,none⟩) (hb x hx)⟩
theorem Gl.bel {G:rP} {w w':World} (h:Gl G w) (hb:rq w w'):Gl G w':=h.same (Below.size hb) fun x hx=>Below.block hb x.1 (h x hx).1
structure sG where
 blks:List Nat
 dom:List Nat
 env:Env
def sG.nil:sG:=⟨[],[],⟨fun _=>0,fun _=>undef⟩⟩
structure rU (G:rP) (w0:World) (B0:sG) (e:Env) (H:ry) (w:World):Prop where
 os:w.os=w0.os
 tape:w.tape=w0.tape
 output:w.output=w0.output
 size:w0.heap.size≤w.heap.size
 old:∀ b,b<w0.heap.size→b∉B0.blks→w.heap[b]? = w0.heap[b]?
 gl:Gl G w
 own:∀ k c t,H k=some (.own c t)→w.heap[e.blk k]? = some (.cells (AV.vals e c).toArray t (0,0))
 ge:∀ k c t,H k=some (.own c t)→w0.heap.size≤e.blk k∨e.blk k∈B0.blks
 glo:∀ k c t,H k=some (.own c t)→∀ x∈G,x.1≠e.blk k
 inj:∀ k c t k' c' t',H k=some (.own c t)→H k'=some (.own c' t')→e.blk k=e.blk k'→k=k'
 rd:∀ k n l,H k=some (.rd n l)→Reads w (e.hnd k) n l
 apart:∀ k n l k' c t,H k=some (.rd n l)→H k'=some (.own c t)→wT (e.hnd k)≠some (e.blk k')
 refs:∀ k o,H k=some o→∀ r∈o.refs,H r≠none
 env:∀ k∈B0.dom,H k≠none∧e.blk k=B0.env.blk k∧e.hnd k=B0.env.hnd k
 new:∀ k n l,H k=some (.rd n l)→∀ b,wT (e.hnd k)=some b→w0.heap.size≤b∨∃ j∈B0.dom,wT (B0.env.hnd j)=some b
 mp:∀ k es,H k=some (.mp es)→MapAt w (e.hnd k) es∧∀ j c t,H j=some (.own c t)→Lu (e.hnd k)≠some (e.blk j)
def Env.on (H:ry) (e e':Env):Prop:=∀ k,H k≠none→e'.blk k=e.blk k∧e'.hnd k=e.hnd k
theorem Env.on.refl (H:ry) (e:Env):Env.on H e e:=fun _ _=>⟨rfl,rfl⟩
mutual
theorem AV.val_on {H:ry} {e e':Env} (h:Env.on H e e'):∀ x:AV,(∀ r∈x.refs,H r≠none)→x.val e'=x.val e
 | .v _,_=>rfl
 | .loc b off,hr=>by simp only[AV.val];rw[(h b (hr b (by simp[AV.refs]))).1]
 | .sl b off len cap,hr=>by simp only[AV.val];rw[(h b (hr b (by simp[AV.refs]))).1]
 | .hd k,hr=>by simp only[AV.val];rw[(h k (hr k (by simp[AV.refs]))).2]
 | .ha k off,hr=>by simp only[AV.val];rw[(h k (hr k (by simp[AV.refs]))).2]
 | .fn f a c,hr=>by
  simp only[AV.val]
  rw[AV.vals_on h a (fun r hm=>hr r (by rw[AV.refs];exact List.mem_append_left _ hm)),AV.vals_on h c (fun r hm=>hr r (by rw[AV.refs];exact List.mem_append_right _ hm))]
 | .tup l,hr=>by simp only[AV.val];rw[AV.vals_on h l (fun r hm=>hr r (by rw[AV.refs];exact hm))]
 | .agg l,hr=>by simp only[AV.val];rw[AV.vals_on h l (fun r hm=>hr r (by rw[AV.refs];exact hm))]
theorem AV.vals_on {H:ry} {e e':Env} (h:Env.on H e e'):∀ l:List AV,(∀ r∈AV.refss l,H r≠none)→AV.vals e' l=AV.vals e l
 | [],_=>rfl
 | x::l,hr=>by
  rw[AV.vals,AV.vals,AV.val_on h x (fun r hm=>hr r (by rw[AV.refss];exact List.mem_append_left _ hm)),AV.vals_on h l (fun r hm=>hr r (by rw[AV.refss];exact List.mem_append_right _ hm))]
end
def vG (T:rT) (H:ry):Prop:=∀ t x,T t=some x→∀ r∈x.refs,H r≠none
theorem wu.on {nt:Nat} {H:ry} {e e':Env} {T:rT} {a:Act} (h:wu nt e T a) (hi:vG T H) (he:Env.on H e e'):wu nt e' T a :=
 ⟨h.1,fun t x hx=>⟨(h.2 t x hx).1,by rw[AV.val_on he x (hi t x hx)];exact(h.2 t x hx).2⟩⟩
theorem Act.put_size (a:Act) (d:Option Tmp) (v:Value):(a.put d v).tmps.size=a.tmps.size:=by cases d<;>simp[Act.put]
theorem Act.put_defers (a:Act) (d:Option Tmp) (v:Value):(a.put d v).defers=a.defers:=by cases d<;>rfl
theorem wu.put {nt:Nat} {e:Env} {T:rT} {a:Act} (h:wu nt e T a) {d:Option Tmp} (hd:∀ t,d=some t→t<nt) (x:AV):wu nt e (T.put d x) (a.put d (x.val e)):=by
 refine⟨by rw[Act.put_size];exact h.1,fun t y hy=>?_⟩
 cases d with
 | none=>exact h.2 t y hy
 | some d =>
  have hd':=hd d rfl
  have hs:=h.1
  by_cases ht:t=d
  ·subst ht
   rw[rT.put_same] at hy;cases hy
   refine⟨hd',?_⟩
   simp[Act.put,hs,hd']
  ·rw[rT.put_ne _ _ _ ht] at hy
   refine⟨(h.2 t y hy).1,?_⟩
   rw[← (h.2 t y hy).2]
   simp only[Act.put,Array.getD_eq_getD_getElem?]
   rw[Array.getElem?_setIfInBounds_ne (by omega)]
theorem vG.put {T:rT} {H:ry} (h:vG T H) (d:Option Tmp) {x:AV} (hx:∀ r∈x.refs,H r≠none):vG (T.put d x) H:=by
 intro t y hy
 cases d with
 | none=>exact h t y hy
 | some d =>
  by_cases ht:t=d
  ·subst ht;rw[rT.put_same] at hy;cases hy;exact hx
  ·rw[rT.put_ne _ _ _ ht] at hy;exact h t y hy
theorem ry.put_dom (H:ry) (k:Nat) (o:AO) {r:Nat} (h:H r≠none):(H.put k o) r≠none:=by
 unfold ry.put;split<;>simp[h]
theorem vG.grow {T:rT} {H H':ry} (h:vG T H) (hh:∀ r,H r≠none→H' r≠none):vG T H':=fun t x hx r hr=>hh r (h t x hx r hr)
theorem rU.drew {G:rP} {w0:World} {B0:sG} {e:Env} {H:ry} {w:World} (h:rU G w0 B0 e H w):rU G w0 B0 e H w.drew :=
 ⟨h.os,h.tape,h.output,h.size,h.old,h.gl,h.own,h.ge,h.glo,h.inj,fun k n l hk=>(h.rd k n l hk).same (Nat.le_refl _) (fun _ _ _=>rfl),h.apart,h.refs,h.env,h.new,fun k es hk=>⟨(h.mp k es hk).1.same (fun _ _ _=>rfl),(h.mp k es hk).2⟩⟩
def Env.setBlk (e:Env) (k b:Nat):Env := { e with blk:=fun j=>if j=k then b else e.blk j }
def Env.setHnd (e:Env) (k:Nat) (v:Value):Env := { e with hnd:=fun j=>if j=k then v else e.hnd j }
theorem Env.setBlk_on {H:ry} {k:Nat} (hk:H k=none) (e:Env) (b:Nat):Env.on H e (e.setBlk k b):=fun j hj=>by
 have:j≠k:=by rintro rfl;exact hj hk
 simp[Env.setBlk,this]
theorem Env.setHnd_on {H:ry} {k:Nat} (hk:H k=none) (e:Env) (v:Value):Env.on H e (e.setHnd k v):=fun j hj=>by
 have:j≠k:=by rintro rfl;exact hj hk
 simp[Env.setHnd,this]
theorem ry.put_eq {H:ry} {k j:Nat} {o o':AO} (h:(H.put k o) j=some o'):(j=k∧o'=o)∨(j≠k∧H j=some o'):=by
 by_cases hj:j=k
 ·subst hj;rw[ry.put_same] at h;cases h;exact .inl ⟨rfl,rfl⟩
 ·rw[ry.put_ne _ _ _ hj] at h;exact .inr ⟨hj,h⟩
theorem rU.lt {G:rP} {w0:World} {B0:sG} {e:Env} {H:ry} {w:World} (h:rU G w0 B0 e H w) {k:Nat} {c:List AV} {t:TypeId} (hk:H k=some (.own c t)):e.blk k<w.heap.size :=
 (Array.getElem?_eq_some_iff.1 (h.own k c t hk)).1
theorem rU.new_put {G:rP} {w0:World} {B0:sG} {e:Env} {H:ry} {w:World} (h:rU G w0 B0 e H w) {k:Nat} {o:AO} (ho:o.isOwn=true) :
  ∀ j n l,(H.put k o) j=some (.rd n l)→∀ b,wT (e.hnd j)=some b→w0.heap.size≤b∨∃ j∈B0.dom,wT (B0.env.hnd j)=some b:=by
 intro j n l hj b hv
 rcases ry.put_eq hj with⟨_,he⟩|⟨_,hj⟩
 ·subst he;cases ho
 ·exact h.new j n l hj b hv
theorem rU.alloc {G:rP} {w0:World} {B0:sG} {e:Env} {H:ry} {w:World} (h:rU G w0 B0 e H w) {k:Nat} (hk:H k=none) (c:List AV) (t:TypeId) (hc:∀ r∈AV.refss c,H r≠none) :
  rU G w0 B0 (e.setBlk k w.heap.size) (H.put k (.own c t)) (w.alloc (.cells (AV.vals e c).toArray t (0,0))):=by
 have hon:=Env.setBlk_on hk e w.heap.size
 have hne:∀ j o,H j=some o→j≠k:=fun j o hj=>by rintro rfl;rw[hk] at hj;cases hj
 have hb:∀ j,j≠k→(e.setBlk k w.heap.size).blk j=e.blk j:=fun j hj=>by simp[Env.setBlk,hj]
 have hbk:(e.setBlk k w.heap.size).blk k=w.heap.size:=by simp[Env.setBlk]
 have hlt:∀ x∈G,x.1<w.heap.size:=fun x hx=>(h.gl x hx).1
 refine⟨h.os,h.tape,h.output,?_,?_,?_,?_,?_,?_,?_,?_,?_,?_,fun j hj=>⟨ry.put_dom _ _ _ (h.env j hj).1,by rw[hb j (fun e=>(h.env j hj).1 (by rw[e];exact hk))];exact(h.env j hj).2.1,(h.env j hj).2.2⟩,rU.new_put h (by simp[AO.isOwn]),?_⟩
 ·have:=h.size;simp;omega
 ·intro b hb hb0
  rw[Below.heap_alloc _ _ _ (by have:=h.size;omega)];exact h.old b hb hb0
 ·exact h.gl.same (by simp) fun x hx=>Below.heap_alloc _ _ _ (hlt x hx)
 ·intro j c' t' hj
  rcases ry.put_eq hj with⟨rfl,he⟩|⟨hjk,hj⟩
  ·cases he
   rw[hbk,AV.vals_on hon c hc]
   show(w.heap.push _)[w.heap.size]? = _
   simp
  ·rw[hb j hjk,Below.heap_alloc _ _ _ (h.lt hj),AV.vals_on hon c' (fun r hr=>h.refs j _ hj r hr)];exact h.own j c' t' hj
 ·intro j c' t' hj
  rcases ry.put_eq hj with⟨rfl,he⟩|⟨hjk,hj⟩
  ·rw[hbk];exact .inl h.size
  ·rw[hb j hjk];exact h.ge j c' t' hj
 ·intro j c' t' hj x hx
  rcases ry.put_eq hj with⟨rfl,he⟩|⟨hjk,hj⟩
  ·rw[hbk];have:=hlt x hx;omega
  ·rw[hb j hjk];exact h.glo j c' t' hj x hx
 ·intro j c' t' j' c'' t'' hj hj' he
  rcases ry.put_eq hj with⟨h1,_⟩|⟨hjk,h1⟩<;>rcases ry.put_eq hj' with⟨h2,_⟩|⟨hjk',h2⟩
  ·omega
  ·rw[h1,hbk,hb j' hjk'] at he;have:=h.lt h2;omega
  ·rw[h2,hbk,hb j hjk] at he;have:=h.lt h1;omega
  ·rw[hb j hjk,hb j' hjk'] at he;exact h.inj j c' t' j' c'' t'' h1 h2 he
 ·intro j n l hj
  rcases ry.put_eq hj with⟨rfl,he⟩|⟨hjk,hj⟩
  ·cases he
  ·exact(h.rd j n l hj).same (by simp) (fun b _ hb=>Below.heap_alloc _ _ _ hb)
 ·intro j n l j' c' t' hj hj'
  rcases ry.put_eq hj with⟨_,he⟩|⟨hjk,h1⟩
  ·cases he
  ·rcases ry.put_eq hj' with⟨h2,_⟩|⟨hjk',h2⟩
   ·rw[h2,hbk];intro hv;have:=(h.rd j n l h1).lt hv;omega
   ·rw[hb j' hjk'];exact h.apart j n l j' c' t' h1 h2
 ·intro j o hj r hr
  rcases ry.put_eq hj with⟨rfl,rfl⟩|⟨hjk,hj⟩
  ·exact ry.put_dom _ _ _ (hc r hr)
  ·exact ry.put_dom _ _ _ (h.refs j o hj r hr)
 ·intro j es hj
  rcases ry.put_eq hj with⟨_,he⟩|⟨hjk,h1⟩
  ·cases he
  ·obtain⟨m1,m2⟩:=h.mp j es h1
   refine⟨m1.same (fun b _ hb=>Below.heap_alloc _ _ _ hb),fun j' c' t' hj'=>?_⟩
   rcases ry.put_eq hj' with⟨h2,_⟩|⟨hjk',h2⟩
   ·rw[h2,hbk];intro hv;have:=m1.lt hv;omega
   ·rw[hb j' hjk'];exact m2 j' c' t' h2
theorem rU.store {G:rP} {w0:World} {B0:sG} {e:Env} {H:ry} {w:World} (h:rU G w0 B0 e H w) {k:Nat} {c:List AV} {t:TypeId} (hk:H k=some (.own c t)) (c':List AV) (hc:∀ r∈AV.refss c',H r≠none)
  {w':World} (hw:w'=w.setRow (e.blk k) (AV.vals e c').toArray):rU G w0 B0 e (H.put k (.own c' t)) w':=by
 have hlt:=h.lt hk
 have hst:w' = { w with heap:=w.heap.setIfInBounds (e.blk k) (.cells (AV.vals e c').toArray t (0,0)) }:=by
  rw[hw]
  unfold World.setRow
  congr 1
  have ho:=h.own k c t hk
  apply Array.ext_getElem?
  intro i
  rw[Array.getElem?_modify]
  by_cases hi:e.blk k=i
  ·subst hi
   rw[Array.getElem?_eq_getElem hlt] at ho
   simp[Option.some.inj ho,hlt]
  ·simp[hi]
 clear hw
 subst hst
 have hoth:∀ b,b≠e.blk k→(w.heap.setIfInBounds (e.blk k) (.cells (AV.vals e c').toArray t (0,0)))[b]? = w.heap[b]?:=fun b hb=>Array.getElem?_setIfInBounds_ne (by omega)
 have hown:∀ j c'' t'',(H.put k (.own c' t)) j=some (.own c'' t'')→∃ c₁ t₁,H j=some (.own c₁ t₁):=fun j c'' t'' hj=>by
  rcases ry.put_eq hj with⟨rfl,_⟩|⟨_,hj⟩
  ·exact⟨_,_,hk⟩
  ·exact⟨_,_,hj⟩
 refine⟨h.os,h.tape,h.output,?_,?_,?_,?_,?_,?_,?_,?_,?_,?_,fun j hj=>⟨ry.put_dom _ _ _ (h.env j hj).1,(h.env j hj).2⟩,rU.new_put h (by simp[AO.isOwn]),?_⟩
 ·simpa using h.size
 ·intro b hb hb0
  have:b≠e.blk k:=by
   rcases h.ge k c t hk with hg|hg
   ·omega
   ·rintro rfl;exact hb0 hg
  rw[← h.old b hb hb0];exact hoth b this
 ·exact h.gl.same (by simp) fun x hx=>hoth x.1 (h.glo k c t hk x hx)
 ·intro j c'' t'' hj
  rcases ry.put_eq hj with⟨rfl,he⟩|⟨hjk,hj⟩
  ·cases he;simp[hlt]
  ·rw[← h.own j c'' t'' hj]
   exact hoth _ (fun he=>hjk (h.inj j _ _ k _ _ hj hk he))
 ·intro j c'' t'' hj
  obtain⟨c₁,t₁,hj⟩:=hown j c'' t'' hj
  exact h.ge j c₁ t₁ hj
 ·intro j c'' t'' hj x hx
  obtain⟨c₁,t₁,hj⟩:=hown j c'' t'' hj
  exact h.glo j c₁ t₁ hj x hx
 ·intro j _ _ j' _ _ hj hj' he
  obtain⟨c₁,t₁,hj⟩:=hown j _ _ hj
  obtain⟨c₂,t₂,hj'⟩:=hown j' _ _ hj'
  exact h.inj j _ _ j' _ _ hj hj' he
 ·intro j n l hj
  rcases ry.put_eq hj with⟨rfl,he⟩|⟨hjk,hj⟩
  ·cases he
  ·refine(h.rd j n l hj).same (by simp) (fun b hv hb=>hoth b ?_)
   rintro rfl;exact h.apart j n l k c t hj hk hv
 ·intro j n l j' c'' t'' hj hj'
  rcases ry.put_eq hj with⟨rfl,he⟩|⟨hjk,hj⟩
  ·cases he
  ·obtain⟨c₁,t₁,hj'⟩:=hown j' _ _ hj'
   exact h.apart j n l j' c₁ t₁ hj hj'
 ·intro j o hj r hr
  rcases ry.put_eq hj with⟨rfl,rfl⟩|⟨hjk,hj⟩
  ·exact ry.put_dom _ _ _ (hc r hr)
  ·exact ry.put_dom _ _ _ (h.refs j o hj r hr)
 ·intro j es hj
  rcases ry.put_eq hj with⟨_,he⟩|⟨hjk,h1⟩
  ·cases he
  ·obtain⟨m1,m2⟩:=h.mp j es h1
   refine⟨m1.same (fun b hv _=>hoth b ?_),fun j' c'' t'' hj'=>?_⟩
   ·rintro rfl;exact m2 k c t hk hv
   ·obtain⟨c₁,t₁,hj'⟩:=hown j' _ _ hj'
    exact m2 j' c₁ t₁ hj'
theorem rU.below {G:rP} {w0:World} {B0:sG} {e:Env} {H:ry} {w w':World} (h:rU G w0 B0 e H w) (hb:rq w w'):rU G w0 B0 e H w':=by
 have hbl:=Below.block hb
 have hsz:=Below.size hb
 refine⟨(Below.os hb).trans h.os,(Below.tape hb).trans h.tape,(Below.output hb).trans h.output,Nat.le_trans h.size hsz,?_,h.gl.bel hb,?_,h.ge,h.glo,h.inj,?_,h.apart,h.refs,h.env,h.new,fun k es hk=>⟨(h.mp k es hk).1.same (fun b _ hlt=>hbl b hlt),(h.mp k es hk).2⟩⟩
 ·intro b hb' hb0;rw[hbl b (Nat.lt_of_lt_of_le hb' h.size)];exact h.old b hb' hb0
 ·intro k c t hk;rw[hbl _ (h.lt hk)];exact h.own k c t hk
 ·intro k n l hk;exact(h.rd k n l hk).same hsz (fun b _ hlt=>hbl b hlt)
theorem rU.handle {G:rP} {w0:World} {B0:sG} {e:Env} {H:ry} {w:World} (h:rU G w0 B0 e H w) {k:Nat} (hk:H k=none) {v:Value} {n:Nat} {l:List Value} (hr:Reads w v n l)
  (ha:∀ j c t,H j=some (.own c t)→wT v≠some (e.blk j)) (hw:∀ b,wT v=some b→w0.heap.size≤b∨∃ j∈B0.dom,wT (B0.env.hnd j)=some b):rU G w0 B0 (e.setHnd k v) (H.put k (.rd n l)) w:=by
 have hon:=Env.setHnd_on hk e v
 have hne:∀ j o,H j=some o→j≠k:=fun j o hj=>by rintro rfl;rw[hk] at hj;cases hj
 have hown:∀ j c t,(H.put k (.rd n l)) j=some (.own c t)→H j=some (.own c t):=fun j c t hj=>by
  rcases ry.put_eq hj with⟨rfl,he⟩|⟨_,hj⟩
  ·cases he
  ·exact hj
 refine⟨h.os,h.tape,h.output,h.size,h.old,h.gl,?_,?_,?_,?_,?_,?_,?_,fun j hj=>⟨ry.put_dom _ _ _ (h.env j hj).1,(h.env j hj).2.1,by
  have:j≠k:=fun e=>(h.env j hj).1 (by rw[e];exact hk)
  simpa [Env.setHnd,this] using(h.env j hj).2.2⟩,fun j m l' hj b hv=>by
  rcases ry.put_eq hj with⟨h1,_⟩|⟨hjk,h1⟩
  ·rw[h1] at hv;exact hw b (by simpa [Env.setHnd] using hv)
  ·exact h.new j m l' h1 b (by simpa [Env.setHnd,hjk] using hv),fun j es hj=>by
  rcases ry.put_eq hj with⟨_,he⟩|⟨hjk,h1⟩
  ·cases he
  ·obtain⟨m1,m2⟩:=h.mp j es h1
   have e1:(e.setHnd k v).hnd j=e.hnd j:=by simp[Env.setHnd,hjk]
   rw[e1]
   exact⟨m1,fun j' c t hj'=>m2 j' c t (hown j' c t hj')⟩⟩
 ·intro j c t hj
  rw[AV.vals_on hon c (fun r hr=>h.refs j _ (hown j c t hj) r hr)];exact h.own j c t (hown j c t hj)
 ·intro j c t hj;exact h.ge j c t (hown j c t hj)
 ·intro j c t hj;exact h.glo j c t (hown j c t hj)
 ·intro j c t j' c' t' hj hj';exact h.inj j c t j' c' t' (hown _ _ _ hj) (hown _ _ _ hj')
 ·intro j m l' hj
  rcases ry.put_eq hj with⟨rfl,he⟩|⟨hjk,hj⟩
  ·cases he;simpa [Env.setHnd] using hr
  ·simpa [Env.setHnd,hjk] using h.rd j m l' hj
 ·intro j m l' j' c t hj hj'
  have h2:=hown _ _ _ hj'
  rcases ry.put_eq hj with⟨h1,he⟩|⟨hjk,h1⟩
  ·rw[h1];simpa [Env.setHnd] using ha j' c t h2
  ·simpa [Env.setHnd,hjk] using h.apart j m l' j' c t h1 h2
 ·intro j o hj r hr
  rcases ry.put_eq hj with⟨rfl,rfl⟩|⟨hjk,hj⟩
  ·simp[AO.refs] at hr
  ·exact ry.put_dom _ _ _ (h.refs j o hj r hr)
theorem rU.less {G:rP} {w0:World} {B0:sG} {e:Env} {H H':ry} {w:World} (h:rU G w0 B0 e H w) (hs:∀ k o,H' k=some o→H k=some o) (hr:∀ k o,H' k=some o→∀ r∈o.refs,H' r≠none) (hd:∀ k∈B0.dom,H' k≠none):rU G w0 B0 e H' w :=
 ⟨h.os,h.tape,h.output,h.size,h.old,h.gl,fun k c t hk=>h.own k c t (hs _ _ hk),fun k c t hk=>h.ge k c t (hs _ _ hk),fun k c t hk=>h.glo k c t (hs _ _ hk),
  fun k c t k' c' t' hk hk'=>h.inj k c t k' c' t' (hs _ _ hk) (hs _ _ hk'),fun k n l hk=>h.rd k n l (hs _ _ hk),fun k n l k' c t hk hk'=>h.apart k n l k' c t (hs _ _ hk) (hs _ _ hk'),hr,fun k hk=>⟨hd k hk,(h.env k hk).2⟩,fun k n l hk=>h.new k n l (hs _ _ hk),fun k es hk=>⟨(h.mp k es (hs _ _ hk)).1,fun j c t hj=>(h.mp k es (hs _ _ hk)).2 j c t (hs _ _ hj)⟩⟩
theorem rU.adopt {G:rP} {w0:World} {B0:sG} {e:Env} {H:ry} {w w':World} (h:rU G w0 B0 e H w) (hw:rq w w') {k:Nat} (hk:H k=none) {b:Nat} (hb:w.heap.size≤b) {c:List AV} {t:TypeId} (hc:∀ r∈AV.refss c,H r≠none)
  (ho:w'.heap[b]? = some (.cells (AV.vals e c).toArray t (0,0))):rU G w0 B0 (e.setBlk k b) (H.put k (.own c t)) w':=by
 have h':=h.below hw
 have hon:=Env.setBlk_on hk e b
 have hbk:(e.setBlk k b).blk k=b:=by simp[Env.setBlk]
 have hbl:∀ j,j≠k→(e.setBlk k b).blk j=e.blk j:=fun j hj=>by simp[Env.setBlk,hj]
 refine⟨h'.os,h'.tape,h'.output,h'.size,h'.old,h'.gl,?_,?_,?_,?_,?_,?_,?_,fun j hj=>⟨ry.put_dom _ _ _ (h.env j hj).1,by rw[hbl j (fun e=>(h.env j hj).1 (by rw[e];exact hk))];exact(h.env j hj).2.1,(h.env j hj).2.2⟩,rU.new_put h (by simp[AO.isOwn]),?_⟩
 ·intro j c' t' hj
  rcases ry.put_eq hj with⟨rfl,he⟩|⟨hjk,hj⟩
  ·cases he;rw[hbk,AV.vals_on hon c hc];exact ho
  ·rw[hbl j hjk,AV.vals_on hon c' (fun r hr=>h.refs j _ hj r hr)];exact h'.own j c' t' hj
 ·intro j c' t' hj
  rcases ry.put_eq hj with⟨rfl,he⟩|⟨hjk,hj⟩
  ·rw[hbk];exact .inl (Nat.le_trans h.size hb)
  ·rw[hbl j hjk];exact h.ge j c' t' hj
 ·intro j c' t' hj x hx
  rcases ry.put_eq hj with⟨rfl,he⟩|⟨hjk,hj⟩
  ·rw[hbk];have:=(h.gl x hx).1;omega
  ·rw[hbl j hjk];exact h.glo j c' t' hj x hx
 ·intro j c' t' j' c'' t'' hj hj' he
  rcases ry.put_eq hj with⟨h1,_⟩|⟨hjk,h1⟩<;>rcases ry.put_eq hj' with⟨h2,_⟩|⟨hjk',h2⟩
  ·omega
  ·rw[h1,hbk,hbl j' hjk'] at he;have:=h.lt h2;omega
  ·rw[h2,hbk,hbl j hjk] at he;have:=h.lt h1;omega
  ·rw[hbl j hjk,hbl j' hjk'] at he;exact h.inj j c' t' j' c'' t'' h1 h2 he
 ·intro j n l hj
  rcases ry.put_eq hj with⟨rfl,he⟩|⟨hjk,hj⟩
  ·cases he
  ·exact h'.rd j n l hj
 ·intro j n l j' c' t' hj hj'
  rcases ry.put_eq hj with⟨_,he⟩|⟨hjk,h1⟩
  ·cases he
  ·rcases ry.put_eq hj' with⟨h2,_⟩|⟨hjk',h2⟩
   ·rw[h2,hbk];intro hv;have:=(h.rd j n l h1).lt hv;omega
   ·rw[hbl j' hjk'];exact h.apart j n l j' c' t' h1 h2
 ·intro j o hj r hr
  rcases ry.put_eq hj with⟨rfl,rfl⟩|⟨hjk,hj⟩
  ·exact ry.put_dom _ _ _ (hc r hr)
  ·exact ry.put_dom _ _ _ (h.refs j o hj r hr)
 ·intro j es hj
  rcases ry.put_eq hj with⟨_,he⟩|⟨hjk,h1⟩
  ·cases he
  ·obtain⟨m1,m2⟩:=h'.mp j es h1
   refine⟨m1,fun j' c' t' hj'=>?_⟩
   rcases ry.put_eq hj' with⟨h2,_⟩|⟨hjk',h2⟩
   ·rw[h2,hbk];intro hv;have:=(h.mp j es h1).1.lt hv;omega
   ·rw[hbl j' hjk'];exact m2 j' c' t' h2
theorem rU.adoptM {G:rP} {w0:World} {B0:sG} {e:Env} {H:ry} {w w':World} (h:rU G w0 B0 e H w) (hw:rq w w') {k:Nat} (hk:H k=none) {b:Nat} (hb:w.heap.size≤b) {es:List (Value×Value)}
  (ho:w'.heap[b]? = some (AC es)):rU G w0 B0 (e.setHnd k (.map (some b))) (H.put k (.mp es)) w':=by
 have h':=h.below hw
 have hon:=Env.setHnd_on hk e (.map (some b))
 have hown:∀ j c t,(H.put k (.mp es)) j=some (.own c t)→H j=some (.own c t):=fun j c t hj=>by
  rcases ry.put_eq hj with⟨rfl,he⟩|⟨_,hj⟩
  ·cases he
  ·exact hj
 have hrd:∀ j n l,(H.put k (.mp es)) j=some (.rd n l)→j≠k∧H j=some (.rd n l):=fun j n l hj=>by
  rcases ry.put_eq hj with⟨rfl,he⟩|⟨hjk,hj⟩
  ·cases he
  ·exact⟨hjk,hj⟩
 have hh:∀ j,j≠k→(e.setHnd k (.map (some b))).hnd j=e.hnd j:=fun j hj=>by simp[Env.setHnd,hj]
 have hhk:(e.setHnd k (.map (some b))).hnd k = .map (some b):=by simp[Env.setHnd]
 refine⟨h'.os,h'.tape,h'.output,h'.size,h'.old,h'.gl,?_,?_,?_,?_,?_,?_,?_,fun j hj=>⟨ry.put_dom _ _ _ (h.env j hj).1,(h.env j hj).2.1,by rw[hh j (fun e=>(h.env j hj).1 (by rw[e];exact hk))];exact(h.env j hj).2.2⟩,?_,?_⟩
 ·intro j c t hj
  rw[AV.vals_on hon c (fun r hr=>h.refs j _ (hown j c t hj) r hr)];exact h'.own j c t (hown j c t hj)
 ·intro j c t hj;exact h'.ge j c t (hown j c t hj)
 ·intro j c t hj;exact h'.glo j c t (hown j c t hj)
 ·intro j c t j' c' t' hj hj';exact h'.inj j c t j' c' t' (hown _ _ _ hj) (hown _ _ _ hj')
 ·intro j n l hj
  obtain⟨h1,h2⟩:=hrd j n l hj
  rw[hh j h1];exact h'.rd j n l h2
 ·intro j n l j' c t hj hj'
  obtain⟨h1,h2⟩:=hrd j n l hj
  rw[hh j h1];exact h'.apart j n l j' c t h2 (hown _ _ _ hj')
 ·intro j o hj r hr
  rcases ry.put_eq hj with⟨rfl,rfl⟩|⟨hjk,hj⟩
  ·simp[AO.refs] at hr
  ·exact ry.put_dom _ _ _ (h.refs j o hj r hr)
 ·intro j n l hj b' hv
  obtain⟨h1,h2⟩:=hrd j n l hj
  rw[hh j h1] at hv;exact h'.new j n l h2 b' hv
 ·intro j es' hj
  rcases ry.put_eq hj with⟨rfl,he⟩|⟨hjk,h1⟩
  ·cases he
   rw[hhk]
   refine⟨⟨b,rfl,ho⟩,fun j' c' t' hj' hv=>?_⟩
   simp only[Lu,Option.some.injEq] at hv
   have:=h.lt (hown j' c' t' hj')
   have e1:(e.setHnd j (.map (some b))).blk j'=e.blk j':=rfl
   omega
  ·rw[hh j hjk]
   obtain⟨m1,m2⟩:=h'.mp j es' h1
   exact⟨m1,fun j' c' t' hj'=>m2 j' c' t' (hown j' c' t' hj')⟩
open Go.RowKit
def tJ (P:Program) (t:TypeId):Option Nat:=(P.info? t).map (·.size)
def CK (P:Program) (t:TypeId):Option Bool:=match P.underlying t with|none=>none|some (.struct _)=>some true|some (.array _ _)=>some true|some _=>some false
def AJ (P:Program) (t:TypeId) (f:Nat):Option (Nat×TypeId):=match P.underlying t with|some (.struct fs)=>(fs[f]?).map fun x=>(x.offset,x.type)|_=>none
def yx (P:Program) (t:TypeId):Option (Nat×TypeId):=match P.underlying t with|some (.array n e)=>some (n,e)|_=>none
def AL (P:Program) (t:TypeId):Option TypeId:=match P.underlying t with|some (.slice e)=>some e|_=>none
def FK (P:Program) (t:TypeId):Option IntKind:=match P.underlying t with|some (.int k)=>some k|_=>none
def zY (P:Program) (t:TypeId):Option (List Value):=((P.info? t).bind (·.zero)).map (·.cells.toList)
def tX:List AV→Option (List Value)
 | []=>some []
 | .v x::l=>match tX l with|some vs=>some (x::vs)|none=>none
 | _::_=>none
def ww (l:List AV):AV:=match tX l with|some vs=>.v (.agg vs.toArray)|none=>.agg l
def xx (l:List AV):AV:=match tX l with|some vs=>.v (.tuple vs.toArray)|none=>.tup l
def xy (f:Fn) (a c:List AV):AV:=match tX a,tX c with|some x,some y=>.v (.func f x.toArray y.toArray)|_,_=>.fn f a c
theorem CL {e:Env} : ∀ {l:List AV} {vs:List Value},tX l=some vs→AV.vals e l=vs
 | [],vs,h=>by simp only[tX,Option.some.injEq] at h;subst h;rfl
 | x::l,vs,h=>by
  cases x<;>simp only[tX] at h<;>try cases h
  rename_i x
  cases hl:tX l with
  | none=>rw[hl] at h;cases h
  | some ws =>
   rw[hl] at h
   simp only[Option.some.injEq] at h
   subst h
   rw[AV.vals,CL hl];rfl
theorem Js (e:Env) (l:List AV):(ww l).val e = .agg (AV.vals e l).toArray:=by
 unfold ww
 cases h:tX l with
 | none=>rfl
 | some vs=>simp only[AV.val,CL h]
theorem Oc (e:Env) (l:List AV):(xx l).val e = .tuple (AV.vals e l).toArray:=by
 unfold xx
 cases h:tX l with
 | none=>rfl
 | some vs=>simp only[AV.val,CL h]
theorem abq (e:Env) (f:Fn) (a c:List AV):(xy f a c).val e = .func f (AV.vals e a).toArray (AV.vals e c).toArray:=by
 unfold xy
 cases h:tX a<;>cases h':tX c<;>simp only[AV.val]
 rw[CL h,CL h']
theorem Od {l:List AV} {r:Nat} (h:r∈(ww l).refs):r∈AV.refss l:=by
 unfold ww at h;split at h
 ·simp[AV.refs] at h
 ·simpa [AV.refs] using h
theorem abr {l:List AV} {r:Nat} (h:r∈(xx l).refs):r∈AV.refss l:=by
 unfold xx at h;split at h
 ·simp[AV.refs] at h
 ·simpa [AV.refs] using h
theorem Tu {f:Fn} {a c:List AV} {r:Nat} (h:r∈(xy f a c).refs):r∈AV.refss a++AV.refss c:=by
 unfold xy at h;split at h
 ·simp[AV.refs] at h
 ·simpa [AV.refs] using h
def tK:AV→List AV
 | .v x=>x.cells.toList.map .v
 | .agg l=>l
 | x=>[x]
theorem vK (e:Env) (l:List Value):AV.vals e (l.map .v)=l:=by
 induction l with
 | nil=>rfl
 | cons x l ih=>rw[List.map_cons,AV.vals,ih];rfl
theorem AP (l:List Value):AV.refss (l.map .v) = []:=by
 induction l with
 | nil=>rfl
 | cons x l ih=>rw[List.map_cons,AV.refss,ih];rfl
theorem abt (v:Value):(zG v).cells = #[zG v]:=by cases v<;>rfl
theorem Lv (e:Env) (a:AV):(a.val e).cells=(AV.vals e (tK a)).toArray:=by
 cases a with
 | v x=>simp[tK,vK,AV.val]
 | agg l=>rfl
 | hd k=>simp only[tK,AV.vals,AV.val,abt]
 | ha k off=>simp only[tK,AV.vals,AV.val];split<;>rfl
 | _=>rfl
theorem Lx {a:AV} {r:Nat} (h:r∈AV.refss (tK a)):r∈a.refs:=by
 cases a<;>simp_all[tK,AP,AV.refss,AV.refs]
def DW:AV→Bool
 | .v (.agg _)=>false
 | .v (.tuple _)=>false
 | .v _=>true
 | .agg _=>false
 | .tup _=>false
 | .ha _ _=>false
 | _=>true
theorem abu {e:Env} {a:AV} (h:DW a=true):(a.val e).oneCell'=true:=by
 cases a with
 | v x=>cases x<;>first|rfl|simp[DW] at h
 | hd k=>simp only[AV.val];cases e.hnd k<;>rfl
 | _=>first|rfl|simp[DW] at h
def Jt (G:rP) (g:Nat):Option (List Value):=match G with
 | []=>none
 | x::l=>if x.1=g then some x.2 else Jt l g
theorem abv {G:rP} {g:Nat} {c:List Value} (h:Jt G g=some c):∃ x∈G,x.1=g∧x.2=c:=by
 induction G with
 | nil=>cases h
 | cons x G ih =>
  simp only[Jt] at h
  split at h
  ·rename_i hk;cases h;exact⟨x,List.mem_cons_self,hk,rfl⟩
  ·obtain⟨y,hy,r⟩:=ih h;exact⟨y,List.mem_cons_of_mem _ hy,r⟩
def vH (P:Program) (t:TypeId) (c:List AV) (off:Nat):Option AV :=
 match CK P t with
 | some true=>match tJ P t with
  | some s=>if off+s≤c.length∧0<s then some (ww ((c.drop off).take s)) else none
  | none=>none
 | some false=>c[off]?
 | none=>none
theorem FL {P:Program} {t:TypeId} {c:List AV} {off:Nat} {r:AV} (h:vH P t c off=some r) {b:Nat} (hb:b∈r.refs):b∈AV.refss c:=by
 unfold vH at h
 split at h
 ·split at h
  ·split at h
   ·cases h
    obtain⟨x,hx,hr⟩:=AV.mem_refss.1 (Od hb)
    exact AV.mem_refss.2 ⟨x,List.mem_of_mem_drop (List.mem_of_mem_take hx),hr⟩
   ·cases h
  ·cases h
 ·exact AV.mem_refss.2 ⟨r,List.mem_of_getElem? h,hb⟩
 ·cases h
theorem FM {P:Program} {t:TypeId} {b:Bool} (h:CK P t=some b) (w:World):(isAgg t).run P w = .ok b w:=by
 unfold CK at h
 unfold isAgg
 cases hu:P.underlying t with
 | none=>rw[hu] at h;cases h
 | some d =>
  rw[hu] at h
  cases d<;>simp[run_underlying hu] at h ⊢ <;> exact h.symm▸rfl
theorem run_sizeOf {P:Program} {t:TypeId} {s:Nat} (h:tJ P t=some s) (w:World):(sizeOf t).run P w = .ok s w:=by
 unfold tJ at h
 cases hi:P.info? t with
 | none=>rw[hi] at h;cases h
 | some i =>
  rw[hi] at h
  simp at h
  simp[sizeOf,typeInfo,hi,h]
theorem zl (e:Env) (l:List AV):(AV.vals e l).length=l.length:=by rw[AV.vals_map];simp
theorem Oe {P:Program} {t:TypeId} {c:List AV} {off:Nat} {r:AV} {e:Env} {w:World} {b o:Nat} (h:vH P t c off=some r)
  (hc:∀ j x,(AV.vals e c)[j]? = some x→w.cell? ⟨b,o+j,none⟩=some x) :
  (loadVar t ⟨b,o+off,none⟩).run P w = .ok (r.val e) w:=by
 have hadd:∀ n i:Nat,(⟨b,n,none⟩:Addr).add i=⟨b,n+i,none⟩:=fun n i=>by unfold Addr.add;split<;>simp_all
 unfold vH at h
 unfold loadVar
 cases ha:CK P t with
 | none=>rw[ha] at h;cases h
 | some q =>
  rw[ha] at h
  cases q with
  | true =>
   simp only at h
   cases hs:tJ P t with
   | none=>rw[hs] at h;cases h
   | some s =>
    rw[hs] at h
    simp only at h
    split at h
    ·rename_i hle
     cases h
     have hl:(AV.vals e ((c.drop off).take s)).length=s:=by rw[zl];simp;omega
     have:=run_loadCells_list (P:=P) w ⟨b,o+off,none⟩ (AV.vals e ((c.drop off).take s)) (fun j x hj=>by
      rw[hadd,Nat.add_assoc]
      refine hc _ _ ?_
      rw[AV.vals_map] at hj ⊢
      simp only[List.getElem?_map,List.getElem?_take,List.getElem?_drop] at hj ⊢
      split at hj
      ·exact hj
      ·simp at hj)
     rw[hl] at this
     simp[FM ha,run_sizeOf hs,this,Js]
    ·cases h
  | false =>
   have hx:w.cell? ⟨b,o+off,none⟩=some (r.val e):=hc off _ (by rw[AV.vals_map];simp[h])
   simp[FM ha,hx]
abbrev DX:=Option (AV×List Nat×List (Nat×AO))
def xG (P:Program) (G:rP) (t:TypeId) (H:ry):AV→DX
 | .loc b off=>match H b with
  | some (.own c _)=>match vH P t c off with|some r=>some (r,[b],[])|none=>none
  | _=>none
 | .ha k off=>match H k with
  | some (.rd _ c)=>match vH P t (c.map .v) off with|some r=>some (r,[k],[])|none=>none
  | _=>none
 | .v (.pointer (some ⟨g,off,none⟩))=>match Jt G g with
  | some c=>match vH P t (c.map .v) off with|some r=>some (r,[],[])|none=>none
  | none=>none
 | _=>none
def BB (P:Program) (t:TypeId) (H:ry) (x y:AV):DX :=
 match x with
 | .loc b off=>match H b with
  | some (.own c tt) =>
   if (tK y).all DW&&decide (tJ P t=some (tK y).length)&&decide (off+(tK y).length≤c.length) then
    some (.v undef,[b],[(b,.own (c.take off++tK y++c.drop (off+(tK y).length)) tt)])
   else none
  | _=>none
 | _=>none
def CO (P:Program) (t:TypeId) (f:Nat) (x:AV):Option AV :=
 match x with
 | .v (.agg _) | .agg _=>match AJ P t f with
  | some (off,ft)=>vH P ft (tK x) off
  | none=>none
 | _=>none
def CP (P:Program) (t:TypeId) (f:Nat) (x:AV):Option AV :=
 match AJ P t f with
 | some (off,ft)=>match tJ P ft with
  | some (_+1)=>match x with
   | .loc b o=>some (.loc b (o+off))
   | .ha k o=>some (.ha k (o+off))
   | .v (.pointer (some ⟨g,o,none⟩))=>some (.v (.pointer (some ⟨g,o+off,none⟩)))
   | _=>none
  | _=>none
 | none=>none
def zm (P:Program) (t:TypeId) (H:ry) (x i:AV):Option (AV×List Nat) :=
 match i with
 | .v (.int _ n)=>match x with
  | .loc b o=>match yx P t with
   | some (len,el)=>match tJ P el with
    | some s=>if 0≤n∧n<len then some (.loc b (o+n.toNat*s),[]) else none
    | none=>none
   | none=>none
  | .v (.pointer (some ⟨g,o,none⟩))=>match yx P t with
   | some (len,el)=>match tJ P el with
    | some s=>if 0≤n∧n<len then some (.v (.pointer (some ⟨g,o+n.toNat*s,none⟩)),[]) else none
    | none=>none
   | none=>none
  | .sl b o len _=>match AL P t with
   | some el=>match tJ P el with
    | some s=>if 0≤n∧n<len then some (.loc b (o+n.toNat*s),[]) else none
    | none=>none
   | none=>none
  | .hd k=>match H k with
   | some (.rd len _)=>match AL P t with
    | some el=>match tJ P el with
     | some s=>if 0≤n∧n<len then some (.ha k (n.toNat*s),[k]) else none
     | none=>none
    | none=>none
   | _=>none
  | _=>none
 | _=>none
def CQ (P:Program) (t:TypeId) (x i:AV):Option AV :=
 match x,i with
 | .v (.agg cs),.v (.int _ n)=>match yx P t with
  | some (len,el)=>match tJ P el with
   | some s=>if 0≤n∧n<len then vH P el (cs.toList.map .v) (n.toNat*s) else none
   | none=>none
  | none=>none
 | .agg cs,.v (.int _ n)=>match yx P t with
  | some (len,el)=>match tJ P el with
   | some s=>if 0≤n∧n<len then vH P el cs (n.toNat*s) else none
   | none=>none
  | none=>none
 | _,_=>none
def FN (x:AV) (i:Nat):Option AV :=
 match x with
 | .v (.tuple vs)=>match vs.toList[i]? with|some v=>some (.v v)|none=>none
 | .tup l=>l[i]?
 | _=>none
def zH (place:Nat→Option (Nat×Nat)) (cells:List AV):List (Nat×AV)→Option (List AV)
 | []=>some cells
 | (i,x)::rest=>match place i with
  | none=>none
  | some (off,size)=>if (tK x).length=size∧off+size≤cells.length then zH place (cells.take off++tK x++cells.drop (off+size)) rest else none
def Ju (P:Program) (t:TypeId) (i:Nat):Option (Nat×Nat) :=
 match P.underlying t with
 | some (.struct fs)=>match fs[i]? with
  | some f=>match tJ P f.type with|some s=>some (f.offset,s)|none=>none
  | none=>none
 | some (.array _ e)=>match tJ P e with|some s=>some (i*s,s)|none=>none
 | _=>none
def LA (P:Program) (t:TypeId):Bool :=
 match P.underlying t with
 | some (.struct fs)=>fs.toList.all fun f=>(tJ P f.type).isSome
 | some (.array _ e)=>(tJ P e).isSome
 | _=>false
def yz (ρ:Operand→Option AV):List (Nat×Operand)→Option (List (Nat×AV))
 | []=>some []
 | (i,x)::l=>match ρ x,yz ρ l with
  | some a,some r=>some ((i,a)::r)
  | _,_=>none
def xH (ρ:Operand→Option AV):List Operand→Option (List AV)
 | []=>some []
 | x::l=>match ρ x,xH ρ l with
  | some a,some r=>some (a::r)
  | _,_=>none
def DY (op:BinOp) (k:IntKind) (x y:Int):Value :=
 let a:=BitVec.ofInt k.bits x
 let b:=BitVec.ofInt k.bits y
 .int k (k.wrap (match op with | .and=>a&&&b | .or=>a|||b | .xor=>a ^^^ b|_=>a &&& ~~~b).toNat)
def wy (P:Program) (op:BinOp) (t:TypeId) (x y:Value):Option Value :=
 match x,y with
 | .int k a,.int k' b=>match op with
  | .shl=>if b<0 then none else some (.int k (k.wrap (a*2^min b.toNat k.bits)))
  | .shr=>if b<0 then none else some (.int k (a.fdiv (2^min b.toNat k.bits)))
  | .add=>if k=k' then some (.int k (k.wrap (a+b))) else none
  | .sub=>if k=k' then some (.int k (k.wrap (a-b))) else none
  | .mul=>if k=k' then some (.int k (k.wrap (a*b))) else none
  | .quo=>if k=k'∧b≠0 then some (.int k (k.wrap (a.tdiv b))) else none
  | .rem=>if k=k'∧b≠0 then some (.int k (a.tmod b)) else none
  | .and=>if k=k' then some (DY .and k a b) else none
  | .or=>if k=k' then some (DY .or k a b) else none
  | .xor=>if k=k' then some (DY .xor k a b) else none
  | .andNot=>if k=k' then some (DY .andNot k a b) else none
  | .eql=>if k=k' then some (.bool (a==b)) else none
  | .neq=>if k=k' then some (.bool (a != b)) else none
  | .lss=>if k=k' then some (.bool (decide (a<b))) else none
  | .leq=>if k=k' then some (.bool (decide (a≤b))) else none
  | .gtr=>if k=k' then some (.bool (decide (a>b))) else none
  | .geq=>if k=k' then some (.bool (decide (a≥b))) else none
 | .bool a,.bool b=>match op with
  | .eql=>match P.underlying t with|some .bool=>some (.bool (a==b))|_=>none
  | .neq=>match P.underlying t with|some .bool=>some (.bool (!(a==b)))|_=>none
  | _=>none
 | _,_=>none
abbrev tC:=BinOp→TypeId→Value→Value→Option Value
def BC (P:Program) (E:tC):Prop:=∀ op t x y v,E op t x y=some v→∀ (xo yo:Operand) (w:World),(do eqGuard op t xo yo x y;binOp op t x y:Sem Value).run P w = .ok v w
def CS (P:Program) (E:tC) (op:BinOp) (t:TypeId) (x y:AV):Option AV :=
 match x,y with
 | .v a,.v b=>match wy P op t a b with
  | some v=>some (.v v)
  | none=>match E op t a b with|some v=>some (.v v)|none=>none
 | _,_=>none
def FO (op:UnOp) (x:AV):Option AV :=
 match op,x with
 | .neg,.v (.int k n)=>some (.v (.int k (k.wrap (0-n))))
 | .xor,.v (.int k n)=>some (.v (DY .xor k (if k.signed then -1 else k.max) n))
 | .not,.v (.bool b)=>some (.v (.bool !b))
 | _,_=>none
def LB (P:Program) (src dst:TypeId) (x:AV):Option AV :=
 match x with
 | .v (.int _ n)=>match FK P dst,P.underlying src with
  | some k,some _=>some (.v (.int k (k.wrap n)))
  | _,_=>none
 | _=>none
def LC (x:AV):Option AV :=
 match x with
 | .loc _ _=>some x
 | .v (.func (.func _) _ _)=>some x
 | .v (.pointer (some _))=>some x
 | .fn (.func _) _ _=>some x
 | _=>none
def LD (z:List Value) (j:Nat):Nat→List Value
 | 0=>[]
 | n+1=>(z[j%z.length]?).getD default::LD z (j+1) n
def BD (z:List Value) (n:Nat):List Value:=LD z 0 n
theorem Tv (z:List Value):∀ (n j:Nat),LD z j n=(List.range' j n).map fun i=>z.toArray[i%z.length]!
 | 0,j=>rfl
 | n+1,j=>by
  rw[LD,List.range'_succ,List.map_cons,Tv z n (j+1)]
  simp[List.getElem!_toArray,List.getElem!_eq_getElem?_getD]
theorem Tw (z:List Value) (n:Nat):BD z n=(List.range n).map fun j=>z.toArray[j%z.length]!:=by
 rw[BD,Tv,List.range_eq_range']
def FQ (P:Program) (t:TypeId) (len:Nat) (k:Nat) (ps:List (Nat×AV)):DX :=
 match AL P t with
 | some el=>match tJ P el,zY P el with
  | some s,some z =>
   if len*s≤2^24∧len*s≠0 then
    match zH (fun i=>some (i*s,s)) ((BD z (len*s)).map .v) ps with
    | some c=>some (.sl k 0 len len,[],[(k,.own c el)])
    | none=>none
   else none
  | _,_=>none
 | none=>none
def yA (P:Program) (t:TypeId) (H:ry) (x:AV):Option (AV×List Nat) :=
 match P.underlying t with
 | some (.slice _)=>match x with
  | .sl _ _ n _=>some (.v (.int .i64 n),[])
  | .hd k=>match H k with|some (.rd n _)=>some (.v (.int .i64 n),[k])|_=>none
  | .v (.slice _ n _)=>some (.v (.int .i64 n),[])
  | _=>none
 | some .string=>match x with | .v (.string s)=>some (.v (.int .i64 s.size),[])|_=>none
 | some (.array n _)=>some (.v (.int .i64 n),[])
 | _=>none
def Og (P:Program) (t:TypeId):Option Nat:=(P.info? t).map (·.bytes)
def BF (P:Program) (t:TypeId) (H:ry) (x:AV):Option (AV×List Nat) :=
 match yx P t with
 | some (n,_)=>match x with
  | .sl b o len _=>if n≤len then some (.loc b o,[]) else none
  | .hd k=>match H k with|some (.rd len _)=>if n≤len∧0<len then some (.ha k 0,[k]) else none|_=>none
  | _=>none
 | none=>none
def FR (P:Program) (t:TypeId) (k:Nat) (x y:AV):DX :=
 match x,y with
 | .v (.int _ n),.v (.int _ m)=>match AL P t with
  | some el=>match tJ P el,zY P el,Og P el with
   | some s,some z,some b=>if 0≤n∧n≤m∧m<16777216∧b≤4096∧m.toNat*s≠0 then some (.sl k 0 n.toNat m.toNat,[],[(k,.own ((BD z (m.toNat*s)).map .v) el)]) else none
   | _,_,_=>none
  | none=>none
 | _,_=>none
def Jv (P:Program) (t:TypeId) (x:AV):Option AV :=
 match yx P t with
 | some (n,el)=>match x,tJ P el with
  | .loc b o,some _=>some (.sl b o n n)
  | _,_=>none
 | none=>none
def wt (x:Option AV):DX:=match x with|some a=>some (a,[],[])|none=>none
def yP (x:Option (AV×List Nat)):DX:=match x with|some (a,l)=>some (a,l,[])|none=>none
def BG (kd:IntKind) (n:Int):List (Value×Value)→Option (Option Value)
 | []=>some none
 | x::l=>match x.1 with
  | .int k' m=>if kd=k' then(if n=m then some (some x.2) else BG kd n l) else none
  | _=>none
def Oh (P:Program) (t:TypeId):Option Value:=(P.info? t).bind (·.zero)
def zZ (q:Bool) (v:Value) (b:Bool):Value:=if q then .tuple #[v,.bool b] else v
def AQ (P:Program) (t:TypeId) (H:ry) (x i:AV) (q:Bool):Option (AV×List Nat):=match x,i with
 | .hd k,.v (.int kd n)=>match H k with
  | some (.mp es)=>match P.underlying t with
   | some (.map kt et)=>match FK P kt with
    | some kd'=>if kd'=kd then match BG kd n es with
      | some (some v)=>some (.v (zZ q v true),[k])
      | some none=>match Oh P et with|some z=>some (.v (zZ q z false),[k])|none=>none
      | none=>none
     else none
    | none=>none
   | _=>none
  | _=>none
 | _,_=>none
def rV (P:Program) (G:rP) (E:tC) (op:Op) (ρ:Operand→Option AV) (H:ry) (k:Nat):DX :=
 match op with
 | .move x=>wt (ρ x)
 | .assign x=>wt (ρ x)
 | .pick c a b=>match ρ c with
  | some (.v (.bool q))=>if q then wt (ρ a) else wt (ρ b)
  | _=>none
 | .alloc t=>match zY P t with|some z=>some (.loc k 0,[],[(k,.own (z.map .v) t)])|none=>none
 | .box t x=>match ρ x with|some a=>some (.loc k 0,[],[(k,.own (tK a) t)])|none=>none
 | .build t ps=>match yz ρ ps.toList,zY P t with
  | some l,some z=>if LA P t then match zH (Ju P t) (z.map .v) l with|some c=>some (ww c,[],[])|none=>none else none
  | _,_=>none
 | .buildSlice t len ps=>match yz ρ ps.toList with|some l=>FQ P t len k l|none=>none
 | .load t x=>match ρ x with|some a=>xG P G t H a|none=>none
 | .store t x y=>match ρ x,ρ y with|some a,some b=>BB P t H a b|_,_=>none
 | .nilCheck x=>match ρ x with|some a=>wt (LC a)|none=>none
 | .binOp op t x y _=>match ρ x,ρ y with|some a,some b=>wt (CS P E op t a b)|_,_=>none
 | .unOp op _ x=>match ρ x with|some a=>wt (FO op a)|none=>none
 | .convert s d x=>match ρ x with|some a=>wt (LB P s d a)|none=>none
 | .makeFunc f a c=>match xH ρ a.toList,xH ρ c.toList with|some x,some y=>some (xy f x y,[],[])|_,_=>none
 | .fieldAddr t x f=>match ρ x with|some a=>wt (CP P t f a)|none=>none
 | .field t x f=>match ρ x with|some a=>wt (CO P t f a)|none=>none
 | .indexAddr t x i=>match ρ x,ρ i with|some a,some b=>yP (zm P t H a b)|_,_=>none
 | .index t x i=>match ρ x,ρ i with|some a,some b=>wt (CQ P t a b)|_,_=>none
 | .extract x i=>match ρ x with|some a=>wt (FN a i)|none=>none
 | .call { callee:=.builtin .len,args:=args,argTypes:=ts }=>match args.toList,ts.toList with
  | [x],[t]=>match ρ x with|some a=>yP (yA P t H a)|none=>none
  | _,_=>none
 | .call { callee:=.builtin .min,args:=args,argTypes:=_ }=>match args.toList with
  | [x,y]=>match ρ x,ρ y with|some (.v (.int k a)),some (.v (.int _ b))=>some (.v (.int k (if b<a then b else a)),[],[])|_,_=>none
  | _=>none
 | .call { callee:=.builtin .max,args:=args,argTypes:=_ }=>match args.toList with
  | [x,y]=>match ρ x,ρ y with|some (.v (.int k a)),some (.v (.int _ b))=>some (.v (.int k (if b>a then b else a)),[],[])|_,_=>none
  | _=>none
 | .sliceToArrayPointer t x=>match ρ x with|some a=>yP (BF P t H a)|none=>none
 | .makeSlice t x y=>match ρ x,ρ y with|some a,some b=>FR P t k a b|_,_=>none
 | .slice t x none none none=>match ρ x with|some a=>wt (Jv P t a)|none=>none
 | .lookup t x i q=>match ρ x,ρ i with|some a,some b=>yP (AQ P t H a b q)|_,_=>none
 | _=>none
open Go.RowKit
theorem LF {ρ ρ':Operand→Option AV} : ∀ {l:List Operand},(∀ x∈l,ρ' x=ρ x)→xH ρ' l=xH ρ l
 | [],_=>rfl
 | x::l,h=>by rw[xH,xH,h x (by simp),LF (l:=l) (fun y hy=>h y (by simp[hy]))]
theorem Oi {ρ ρ':Operand→Option AV} : ∀ {l:List (Nat×Operand)},(∀ x∈l,ρ' x.2=ρ x.2)→yz ρ' l=yz ρ l
 | [],_=>rfl
 | (i,x)::l,h=>by rw[yz,yz,h (i,x) (by simp),Oi (l:=l) (fun y hy=>h y (by simp[hy]))]
theorem abw {P:Program} {G:rP} {t:TypeId} {H H':ry} {a r:AV} {tc:List Nat} {ef:List (Nat×AO)} (h:xG P G t H a=some (r,tc,ef)) (hb:∀ b∈tc,H' b=H b):xG P G t H' a=some (r,tc,ef):=by
 rw[← h]
 unfold xG at h ⊢
 split at h
 ·rename_i b off
  have hb':H' b=H b:=by
   apply hb
   split at h
   ·split at h
    ·cases h;simp
    ·cases h
   ·cases h
  simp only[hb']
 ·rename_i k off
  have hb':H' k=H k:=by
   apply hb
   split at h
   ·split at h
    ·cases h;simp
    ·cases h
   ·cases h
  simp only[hb']
 ·rfl
 ·rfl
theorem abx {P:Program} {t:TypeId} {H H':ry} {x y r:AV} {tc:List Nat} {ef:List (Nat×AO)} (h:BB P t H x y=some (r,tc,ef)) (hb:∀ b∈tc,H' b=H b):BB P t H' x y=some (r,tc,ef):=by
 rw[← h]
 unfold BB at h ⊢
 split at h
 ·rename_i b off
  have hb':H' b=H b:=by
   apply hb
   split at h
   ·split at h
    ·cases h;simp
    ·cases h
   ·cases h
  simp only[hb']
 ·rfl
theorem aby {P:Program} {t:TypeId} {H H':ry} {x y r:AV} {tc:List Nat} (h:zm P t H x y=some (r,tc)) (hb:∀ b∈tc,H' b=H b):zm P t H' x y=some (r,tc):=by
 rw[← h]
 unfold zm at h ⊢
 split at h
 ·split at h
  ·rfl
  ·rfl
  ·rfl
  ·rename_i k
   have hb':H' k=H k:=by
    apply hb
    split at h
    ·split at h
     ·split at h
      ·split at h
       ·cases h;simp
       ·cases h
      ·cases h
     ·cases h
    ·cases h
   simp only[hb']
  ·rfl
 ·rfl
theorem abz {P:Program} {t:TypeId} {H H':ry} {x r:AV} {tc:List Nat} (h:yA P t H x=some (r,tc)) (hb:∀ b∈tc,H' b=H b):yA P t H' x=some (r,tc):=by
 rw[← h]
 unfold yA at h ⊢
 split at h
 ·split at h
  ·rfl
  ·rename_i k
   have hb':H' k=H k:=by
    apply hb
    split at h
    ·cases h;simp
    ·cases h
   simp only[hb']
  ·rfl
  ·rfl
 ·rfl
 ·rfl
 ·rfl
theorem abA {P:Program} {t:TypeId} {H H':ry} {x r:AV} {tc:List Nat} (h:BF P t H x=some (r,tc)) (hb:∀ b∈tc,H' b=H b):BF P t H' x=some (r,tc):=by
 rw[← h]
 unfold BF at h ⊢
 split at h
 ·split at h
  ·rfl
  ·rename_i k
   have hb':H' k=H k:=by
    apply hb
    split at h
    ·split at h
     ·cases h;simp
     ·cases h
    ·cases h
   simp only[hb']
  ·rfl
 ·rfl
theorem abB {P:Program} {t:TypeId} {H H':ry} {x i r:AV} {q:Bool} {tc:List Nat} (h:AQ P t H x i q=some (r,tc)) (hb:∀ b∈tc,H' b=H b):AQ P t H' x i q=some (r,tc):=by
 unfold AQ at h ⊢
 split at h
 ·rename_i k kd n
  have hb':H' k=H k:=by
   apply hb
   split at h
   ·split at h
    ·split at h
     ·split at h
      ·split at h
       ·cases h;simp
       ·split at h
        ·cases h;simp
        ·cases h
       ·cases h
      ·cases h
     ·cases h
    ·cases h
   ·cases h
  rw[hb']
  exact h
 ·cases h
theorem abC {P : Program} {G : rP} {E : tC} {op : Op} {ρ ρ' : Operand → Option AV} {H H' : ry} {k : Nat} {r : AV} {tc : List Nat} {ef : List (Nat × AO)} (h : rV P G E op ρ H k = some (r, tc, ef))
    (hx : ∀ x ∈ op.operands, ρ' x = ρ x) (hb : ∀ b ∈ tc, H' b = H b) : rV P G E op ρ' H' k = some (r, tc, ef) := by
  unfold rV at h
  split at h
  case h_1 x => simp only [rV]; rw [hx x (by simp [Op.operands])]; exact h
  case h_2 x => simp only [rV]; rw [hx x (by simp [Op.operands])]; exact h
  case h_3 c a b => simp only [rV]; rw [hx c (by simp [Op.operands]), hx a (by simp [Op.operands]), hx b (by simp [Op.operands])]; exact h
  case h_4 => exact h
  case h_5 t x => simp only [rV]; rw [hx x (by simp [Op.operands])]; exact h
  case h_6 t ps => simp only [rV]; rw [Oi (ρ := ρ) (fun x hm => hx x.2 (by simp [Op.operands]; exact ⟨x.1, by simpa using hm⟩))]; exact h
  case h_7 t len ps => simp only [rV]; rw [Oi (ρ := ρ) (fun x hm => hx x.2 (by simp [Op.operands]; exact ⟨x.1, by simpa using hm⟩))]; exact h
  case h_8 t x =>
    simp only [rV]; rw [hx x (by simp [Op.operands])]
    split at h
    · exact abw h hb
    · cases h
  case h_9 t x y =>
    simp only [rV]; rw [hx x (by simp [Op.operands]), hx y (by simp [Op.operands])]
    split at h
    · exact abx h hb
    · cases h
  case h_10 x => simp only [rV]; rw [hx x (by simp [Op.operands])]; exact h
  case h_11 op t x y yt => simp only [rV]; rw [hx x (by simp [Op.operands]), hx y (by simp [Op.operands])]; exact h
  case h_12 op t x => simp only [rV]; rw [hx x (by simp [Op.operands])]; exact h
  case h_13 s d x => simp only [rV]; rw [hx x (by simp [Op.operands])]; exact h
  case h_14 f a c => simp only [rV]; rw [LF (ρ := ρ) (fun x hm => hx x (by simp [Op.operands]; left; simpa using hm)), LF (ρ := ρ) (fun x hm => hx x (by simp [Op.operands]; right; simpa using hm))]; exact h
  case h_15 t x f => simp only [rV]; rw [hx x (by simp [Op.operands])]; exact h
  case h_16 t x f => simp only [rV]; rw [hx x (by simp [Op.operands])]; exact h
  case h_17 t x i =>
    simp only [rV]; rw [hx x (by simp [Op.operands]), hx i (by simp [Op.operands])]
    split at h
    · unfold yP at h ⊢
      split at h
      · rename_i l hl
        cases h
        rw [aby hl hb]
      · cases h
    · cases h
  case h_18 t x i => simp only [rV]; rw [hx x (by simp [Op.operands]), hx i (by simp [Op.operands])]; exact h
  case h_19 x i => simp only [rV]; rw [hx x (by simp [Op.operands])]; exact h
  case h_20 args ts =>
    simp only [rV]
    split at h
    · rename_i x t ha ht
      have hm : x ∈ args := by
        have : x ∈ args.toList := by rw [ha]; simp
        simpa using this
      rw [hx x (by simp [Op.operands, Call.operands, hm])]
      split at h
      · unfold yP at h ⊢
        split at h
        · rename_i l hl
          cases h
          rw [abz hl hb]
        · cases h
      · cases h
    · cases h
  case h_21 args ts =>
    simp only [rV]
    split at h
    · rename_i x y ha
      have hm : x ∈ args ∧ y ∈ args := by
        have h1 : x ∈ args.toList := by rw [ha]; simp
        have h2 : y ∈ args.toList := by rw [ha]; simp
        exact ⟨by simpa using h1, by simpa using h2⟩
      rw [hx x (by simp [Op.operands, Call.operands, hm.1]), hx y (by simp [Op.operands, Call.operands, hm.2])]
      exact h
    · cases h
  case h_22 args ts =>
    simp only [rV]
    split at h
    · rename_i x y ha
      have hm : x ∈ args ∧ y ∈ args := by
        have h1 : x ∈ args.toList := by rw [ha]; simp
        have h2 : y ∈ args.toList := by rw [ha]; simp
        exact ⟨by simpa using h1, by simpa using h2⟩
      rw [hx x (by simp [Op.operands, Call.operands, hm.1]), hx y (by simp [Op.operands, Call.operands, hm.2])]
      exact h
    · cases h
  case h_23 t x =>
    simp only [rV]; rw [hx x (by simp [Op.operands])]
    split at h
    · unfold yP at h ⊢
      split at h
      · rename_i l hl
        cases h
        rw [abA hl hb]
      · cases h
    · cases h
  case h_24 t x y => simp only [rV]; rw [hx x (by simp [Op.operands]), hx y (by simp [Op.operands])]; exact h
  case h_25 t x => simp only [rV]; rw [hx x (by simp [Op.operands])]; exact h
  case h_26 t x i q =>
    simp only [rV]; rw [hx x (by simp [Op.operands]), hx i (by simp [Op.operands])]
    split at h
    · unfold yP at h ⊢
      split at h
      · rename_i l hl
        cases h
        rw [abB hl hb]
      · cases h
    · cases h
  case h_27 => cases h
open Go.RowKit
theorem Oj {P:Program} {t:TypeId} {c:List AV} {off:Nat} {r:AV} {e:Env} (w:World) (h:vH P t c off=some r):(part t (AV.vals e c).toArray off).run P w = .ok (r.val e) w:=by
 unfold vH at h
 unfold part
 cases ha:CK P t with
 | none=>rw[ha] at h;cases h
 | some q =>
  rw[ha] at h
  cases q with
  | true =>
   simp only at h
   cases hs:tJ P t with
   | none=>rw[hs] at h;cases h
   | some s =>
    rw[hs] at h
    simp only at h
    split at h
    ·rename_i hle
     cases h
     simp only[Sem.run_bind,FM ha,run_sizeOf hs,Result.andThen,if_true,Js]
     simp
     rw[AV.vals_map,AV.vals_map,List.map_take,List.map_drop]
    ·cases h
  | false =>
   have hx:(AV.vals e c)[off]? = some (r.val e):=by rw[AV.vals_map];simp[h]
   simp[FM ha,hx]
theorem abD {H:ry} {a:AV} (ha:∀ c∈a.refs,H c≠none):∀ c∈AV.refss (tK a),H c≠none:=fun c hc=>ha c (Lx hc)
theorem Ol {P:Program} {G:rP} {t:TypeId} {H:ry} {a r:AV} {tc:List Nat} {ef:List (Nat×AO)} {w0:World} {B0:sG} {e:Env} {w:World} (h:xG P G t H a=some (r,tc,ef)) (R:rU G w0 B0 e H w) :
  ef = []∧(Instr.loadAt t (a.val e)).run P w = .ok (r.val e) w∧∀ c∈r.refs,H c≠none:=by
 unfold xG at h
 split at h
 ·rename_i b off
  split at h
  ·rename_i c tt hb
   split at h
   ·rename_i r' hl
    cases h
    refine⟨rfl,?_,fun x hx=>R.refs b _ hb x (FL hl hx)⟩
    have hown:=R.own b c tt hb
    have:=Oe (e:=e) (w:=w) (b:=e.blk b) (o:=0) hl (fun j x hj=>by simp[World.cell?,hown,hj])
    simp only[Nat.zero_add] at this
    simp[Instr.loadAt,AV.val,Instr.sureAddr,this]
   ·cases h
  ·cases h
 ·rename_i k off
  split at h
  ·rename_i n c hb
   split at h
   ·rename_i r' hl
    cases h
    refine⟨rfl,?_,fun x hx=>by have:=FL hl hx;rw[AP] at this;simp at this⟩
    have hrd:=R.rd k n c hb
    rcases hrd with⟨hv,_,hc⟩|⟨b,o,cap,hv,hlt,hc⟩
    ·subst hc
     exfalso
     unfold vH at hl
     split at hl
     ·split at hl
      ·rename_i ha _ s hs
       split at hl
       ·rename_i hle
        simp at hle
        omega
       ·cases hl
      ·cases hl
     ·simp at hl
     ·cases hl
    ·have:=Oe (e:=e) (w:=w) (b:=b) (o:=o) hl (fun j x hj=>by rw[vK] at hj;exact hc j x hj)
     simp[Instr.loadAt,AV.val,hv,Instr.sureAddr,this]
   ·cases h
  ·cases h
 ·rename_i g off
  split at h
  ·rename_i c hg
   split at h
   ·rename_i r' hl
    cases h
    refine⟨rfl,?_,fun x hx=>by have:=FL hl hx;rw[AP] at this;simp at this⟩
    obtain⟨x,hx,hxg,ho⟩:=abv hg
    have hw:=(R.gl x hx).2
    rw[hxg,ho] at hw
    have:=Oe (e:=e) (w:=w) (b:=g) (o:=0) hl (fun j x hj=>by rw[vK] at hj;rw[Nat.zero_add];exact hw j x hj)
    simp only[Nat.zero_add] at this
    simp[Instr.loadAt,AV.val,Instr.sureAddr,this]
   ·cases h
  ·cases h
 ·cases h
theorem abE {P:Program} {G:rP} {t:TypeId} {H:ry} {x y r:AV} {tc:List Nat} {ef:List (Nat×AO)} {w0:World} {B0:sG} {e:Env} {w:World} (h:BB P t H x y=some (r,tc,ef)) (R:rU G w0 B0 e H w)
  (hy:∀ c∈y.refs,H c≠none):r = .v undef∧∃ w',(Instr.storeAt t (x.val e) (y.val e)).run P w = .ok () w'∧rU G w0 B0 e (H.puts ef) w':=by
 unfold BB at h
 split at h
 ·rename_i b off
  split at h
  ·rename_i c tt hb
   split at h
   ·rename_i hcond
    cases h
    simp only[Bool.and_eq_true,decide_eq_true_eq,List.all_eq_true] at hcond
    obtain⟨⟨h1,hs⟩,hl⟩:=hcond
    refine⟨rfl,w.setRow (e.blk b) (AV.vals e (c.take off++tK y++c.drop (off+(tK y).length))).toArray,?_,?_⟩
    ·have hown:=R.own b c tt hb
     have:=run_storeCells_at P (e.blk b) off tt (AV.vals e (tK y)) 0 _ w hown (by simp[zl];omega) (fun v hv=>by
      rw[AV.vals_map] at hv
      obtain⟨a,ha,rfl⟩:=List.mem_map.1 hv
      exact abu (h1 a ha))
     simp only[zl,Nat.add_zero] at this
     simp only[Instr.storeAt,AV.val,Instr.sureAddr,storeVar,Lv,Sem.run_bind,Sem.run_pure,Result.andThen,run_sizeOf hs,List.size_toArray,zl,ne_eq,not_true_eq_false,if_false,List.toList_toArray]
     simp only[this]
     congr 3
     simp[AV.vals_map,List.map_take,List.map_drop]
    ·refine R.store hb _ (fun z hz=>?_) rfl
     obtain⟨a,ha,hr⟩:=AV.mem_refss.1 hz
     simp only[List.mem_append] at ha
     rcases ha with(ha|ha)|ha
     ·exact R.refs b _ hb z (AV.mem_refss.2 ⟨a,List.mem_of_mem_take ha,hr⟩)
     ·exact hy z (Lx (AV.mem_refss.2 ⟨a,ha,hr⟩))
     ·exact R.refs b _ hb z (AV.mem_refss.2 ⟨a,List.mem_of_mem_drop ha,hr⟩)
   ·cases h
  ·cases h
 ·cases h
theorem Tx {P:Program} {t ft:TypeId} {f off:Nat} (h:AJ P t f=some (off,ft)):∃ fs x,P.underlying t=some (.struct fs)∧fs[f]? = some x∧x.offset=off∧x.type=ft:=by
 unfold AJ at h
 split at h
 ·rename_i fs hu
  cases hx:fs[f]? with
  | none=>rw[hx] at h;cases h
  | some x=>rw[hx] at h;simp at h;exact⟨fs,x,hu,hx,h.1,h.2⟩
 ·cases h
theorem FU {P:Program} {t el:TypeId} {n:Nat} (h:yx P t=some (n,el)):P.underlying t=some (.array n el):=by
 unfold yx at h
 split at h
 ·rename_i hu;simp at h;rw[hu,h.1,h.2]
 ·cases h
theorem LG {P:Program} {t el:TypeId} (h:AL P t=some el):P.underlying t=some (.slice el):=by
 unfold AL at h
 split at h
 ·rename_i hu;simp at h;rw[hu,h]
 ·cases h
theorem Ty {P:Program} {t:TypeId} {k:IntKind} (h:FK P t=some k):P.underlying t=some (.int k):=by
 unfold FK at h
 split at h
 ·rename_i hu;simp at h;rw[hu,h]
 ·cases h
theorem Om {P:Program} {t:TypeId} {s:Nat} (h:tJ P t=some s):∃ i,P.info? t=some i∧i.size=s:=by
 unfold tJ at h
 cases hi:P.info? t with
 | none=>rw[hi] at h;cases h
 | some i=>rw[hi] at h;simp at h;exact⟨i,rfl,h⟩
theorem LH {P:Program} {t:TypeId} {z:List Value} (h:zY P t=some z):∃ i v,P.info? t=some i∧i.zero=some v∧v.cells.toList=z:=by
 unfold zY at h
 cases hi:P.info? t with
 | none=>rw[hi] at h;cases h
 | some i =>
  rw[hi] at h
  cases hz:i.zero with
  | none=>simp[hz] at h
  | some v=>simp[hz] at h;exact⟨i,v,rfl,hz,h⟩
theorem abF {P:Program} {t:TypeId} {f:Nat} {x r:AV} {e:Env} (w:World) (h:CO P t f x=some r):(Instr.field t (x.val e) f).run P w = .ok (r.val e) w∧∀ c∈r.refs,c∈x.refs:=by
 have key:∀ cs:Array Value,x.val e = .agg cs→cs=(AV.vals e (tK x)).toArray→(match AJ P t f with|some (off,ft)=>vH P ft (tK x) off|none=>none)=some r→(Instr.field t (x.val e) f).run P w = .ok (r.val e) w∧∀ c∈r.refs,c∈x.refs:=by
  intro cs hx hcs h
  split at h
  ·rename_i off ft hf
   obtain⟨fs,y,hu,hy,ho,ht⟩:=Tx hf
   refine⟨?_,fun c hc=>Lx (FL h hc)⟩
   have hp:=Oj (e:=e) w h
   rw[hx,hcs]
   simp[Instr.field,run_underlying hu,hy,asAgg,ho,ht,hp]
  ·cases h
 unfold CO at h
 split at h
 ·rename_i cs;exact key cs rfl (by simp[tK,vK,Value.cells]) h
 ·rename_i l;exact key _ rfl rfl h
 ·cases h
theorem Tz {P:Program} {t:TypeId} {f:Nat} {x r:AV} {G:rP} {H:ry} {w0:World} {B0:sG} {e:Env} {w:World} (h:CP P t f x=some r) (R:rU G w0 B0 e H w) :
  (Instr.fieldAt t (x.val e) f).run P w = .ok (r.val e) w∧∀ c∈r.refs,c∈x.refs:=by
 have hadd:∀ b n i:Nat,(⟨b,n,none⟩:Addr).add i=⟨b,n+i,none⟩:=fun b n i=>by unfold Addr.add;split<;>simp_all
 unfold CP at h
 split at h
 ·rename_i off ft hf
  obtain⟨fs,y,hu,hy,ho,ht⟩:=Tx hf
  split at h
  ·rename_i s hs
   obtain⟨i,hi,hsz⟩:=Om hs
   have hz:(sizeOf y.type).run P w = .ok (s+1) w:=by rw[ht];exact run_sizeOf hs w
   split at h
   ·cases h
    refine⟨?_,fun c hc=>by simpa [AV.refs] using hc⟩
    simp[Instr.fieldAt,run_underlying hu,hy,AV.val,Instr.sureAddr,fieldPlace,hz,ho,hadd]
   ·rename_i k o
    cases h
    refine⟨?_,fun c hc=>by simpa [AV.refs] using hc⟩
    cases hv:e.hnd k with
    | slice a l c =>
     cases a with
     | none=>simp[Instr.fieldAt,run_underlying hu,hy,AV.val,hv,Instr.sureAddr,fieldPlace,hz,ho,hadd]
     | some a=>simp[Instr.fieldAt,run_underlying hu,hy,AV.val,hv,Instr.sureAddr,fieldPlace,hz,ho,hadd,Nat.add_assoc]
    | _=>simp[Instr.fieldAt,run_underlying hu,hy,AV.val,hv,Instr.sureAddr,fieldPlace,hz,ho,hadd]
   ·cases h
    refine⟨?_,fun c hc=>by simp[AV.refs] at hc⟩
    simp[Instr.fieldAt,run_underlying hu,hy,AV.val,Instr.sureAddr,fieldPlace,hz,ho,hadd]
   ·cases h
  ·cases h
 ·cases h
theorem abG {P:Program} {t:TypeId} {x i r:AV} {tc:List Nat} {G:rP} {H:ry} {w0:World} {B0:sG} {e:Env} {w:World} (h:zm P t H x i=some (r,tc)) (R:rU G w0 B0 e H w) :
  (Instr.indexAt t (x.val e) (i.val e)).run P w = .ok (r.val e) w∧∀ c∈r.refs,c∈x.refs:=by
 have hadd:∀ b n i:Nat,(⟨b,n,none⟩:Addr).add i=⟨b,n+i,none⟩:=fun b n i=>by unfold Addr.add;split<;>simp_all
 unfold zm at h
 split at h
 ·rename_i kk n
  split at h
  ·split at h
   ·rename_i len el ha
    split at h
    ·rename_i s hs
     split at h
     ·rename_i hn
      cases h
      refine⟨?_,fun c hc=>by simpa [AV.refs] using hc⟩
      simp[Instr.indexAt,AV.val,asIntOf,run_underlying (FU ha),Instr.sureAddr,run_sizeOf hs,hn,hadd]
     ·cases h
    ·cases h
   ·cases h
  ·split at h
   ·rename_i len el ha
    split at h
    ·rename_i s hs
     split at h
     ·rename_i hn
      cases h
      refine⟨?_,fun c hc=>by simp[AV.refs] at hc⟩
      simp[Instr.indexAt,AV.val,asIntOf,run_underlying (FU ha),Instr.sureAddr,run_sizeOf hs,hn,hadd]
     ·cases h
    ·cases h
   ·cases h
  ·split at h
   ·rename_i el ha
    split at h
    ·rename_i s hs
     split at h
     ·rename_i hn
      cases h
      refine⟨?_,fun c hc=>by simpa [AV.refs] using hc⟩
      simp[Instr.indexAt,AV.val,asIntOf,run_underlying (LG ha),run_sizeOf hs,hn,hadd]
     ·cases h
    ·cases h
   ·cases h
  ·rename_i k
   split at h
   ·rename_i len c hb
    split at h
    ·rename_i el ha
     split at h
     ·rename_i s hs
      split at h
      ·rename_i hn
       cases h
       refine⟨?_,fun c hc=>by simpa [AV.refs] using hc⟩
       rcases R.rd k len c hb with⟨hv,hl,hc⟩|⟨b,o,cap,hv,hlt,hc⟩
       ·omega
       ·simp[Instr.indexAt,AV.val,hv,zG,asIntOf,run_underlying (LG ha),run_sizeOf hs,hn,hadd]
      ·cases h
     ·cases h
    ·cases h
   ·cases h
  ·cases h
 ·cases h
theorem abH {P:Program} {t:TypeId} {x i r:AV} {e:Env} (w:World) (h:CQ P t x i=some r) :
  (Instr.index t (x.val e) (i.val e)).run P w = .ok (r.val e) w∧∀ c∈r.refs,c∈x.refs:=by
 unfold CQ at h
 split at h
 ·rename_i cs kk n
  split at h
  ·rename_i len el ha
   split at h
   ·rename_i s hs
    split at h
    ·rename_i hn
     refine⟨?_,fun c hc=>by have:=FL h hc;rw[AP] at this;simp at this⟩
     have hp:=Oj (e:=e) w h
     rw[vK] at hp
     simp at hp
     simp[Instr.index,AV.val,asIntOf,run_underlying (FU ha),run_sizeOf hs,hn,hp]
    ·cases h
   ·cases h
  ·cases h
 ·rename_i cs kk n
  split at h
  ·rename_i len el ha
   split at h
   ·rename_i s hs
    split at h
    ·rename_i hn
     refine⟨?_,fun c hc=>by simpa [AV.refs] using FL h hc⟩
     have hp:=Oj (e:=e) w h
     simp[Instr.index,AV.val,asIntOf,run_underlying (FU ha),run_sizeOf hs,hn,hp]
    ·cases h
   ·cases h
  ·cases h
 ·cases h
theorem abI {P:Program} {x r:AV} {i:Nat} {e:Env} (w:World) (h:FN x i=some r):(Instr.extract (x.val e) i).run P w = .ok (r.val e) w∧∀ c∈r.refs,c∈x.refs:=by
 unfold FN at h
 split at h
 ·rename_i vs
  split at h
  ·rename_i v hv
   cases h
   have:vs[i]? = some v:=by simpa using hv
   exact⟨by simp[Instr.extract,AV.val,this],fun c hc=>by simp[AV.refs] at hc⟩
  ·cases h
 ·rename_i l
  refine⟨?_,fun c hc=>by rw[AV.refs];exact AV.mem_refss.2 ⟨r,List.mem_of_getElem? h,hc⟩⟩
  have:(AV.vals e l)[i]? = some (r.val e):=by rw[AV.vals_map];simp[h]
  simp[Instr.extract,AV.val,this]
 ·cases h
theorem foldl_set (vs:List Value):∀ (off:Nat) (cells:Array Value) (n:Nat),off+n+vs.length≤cells.size→((vs.zipIdx n).foldl (fun cs (c,j)=>cs.setIfInBounds (off+j) c) cells).toList=cells.toList.take (off+n)++vs++cells.toList.drop (off+n+vs.length):=by
 induction vs with
 | nil=>intro off cells n h;simp
 | cons v vs ih =>
  intro off cells n h
  simp only[List.length_cons] at h
  rw[List.zipIdx_cons,List.foldl_cons,ih off _ (n+1) (by simp;omega)]
  have:=list_seg_step cells.toList (off+n) v vs (by simp;omega)
  simp only[Array.toList_setIfInBounds]
  rw[show off+(n+1)=off+n+1 by omega]
  simpa [Nat.add_assoc,Nat.add_comm,Nat.add_left_comm] using this
theorem Oo {e:Env} {place:Nat→Option (Nat×Nat)} : ∀ {ps:List (Nat×AV)} {cells c:List AV},zH place cells ps=some c →
  Instr.fill place (AV.vals e cells).toArray (ps.map fun x=>(x.1,x.2.val e))=some (AV.vals e c).toArray
 | [],cells,c,h=>by simp only[zH,Option.some.injEq] at h;subst h;rfl
 | (i,x)::rest,cells,c,h=>by
  simp only[zH] at h
  simp only[List.map_cons,Instr.fill]
  split at h
  ·cases h
  ·rename_i off size hp
   rw[hp]
   split at h
   ·rename_i hcond
    have ih:=Oo (e:=e) h
    have hsz:(x.val e).cells.size=size:=by rw[Lv];simp[zl,hcond.1]
    simp only[hsz,List.size_toArray,zl]
    rw[if_neg (by simp;omega)]
    rw[← ih]
    congr 1
    apply Array.ext'
    rw[Lv]
    have:=foldl_set (AV.vals e (tK x)) off (AV.vals e cells).toArray 0 (by simp[zl];omega)
    simp only[Nat.add_zero,List.toList_toArray] at this
    rw[← Array.foldl_toList]
    simp only[Array.toList_zipIdx,List.toList_toArray]
    rw[this,zl,hcond.1]
    simp[AV.vals_map,List.map_take,List.map_drop]
   ·cases h
theorem Oq {place:Nat→Option (Nat×Nat)} {r:Nat} : ∀ {ps:List (Nat×AV)} {cells c:List AV},zH place cells ps=some c→r∈AV.refss c→r∈AV.refss cells∨∃ x∈ps,r∈x.2.refs
 | [],cells,c,h,hr=>by simp only[zH,Option.some.injEq] at h;subst h;exact .inl hr
 | (i,x)::rest,cells,c,h,hr=>by
  simp only[zH] at h
  split at h
  ·cases h
  ·split at h
   ·rcases Oq h hr with h1|⟨y,hy,h1⟩
    ·obtain⟨a,ha,hra⟩:=AV.mem_refss.1 h1
     simp only[List.mem_append] at ha
     rcases ha with(ha|ha)|ha
     ·exact .inl (AV.mem_refss.2 ⟨a,List.mem_of_mem_take ha,hra⟩)
     ·exact .inr ⟨_,List.mem_cons_self,Lx (AV.mem_refss.2 ⟨a,ha,hra⟩)⟩
     ·exact .inl (AV.mem_refss.2 ⟨a,List.mem_of_mem_drop ha,hra⟩)
    ·exact .inr ⟨y,List.mem_cons_of_mem _ hy,h1⟩
   ·cases h
theorem Ot {ρ:Operand→Option AV} {ev:Operand→Value} {e:Env} (hρ:∀ x y,ρ x=some y→ev x=y.val e):∀ {l:List (Nat×Operand)} {ps:List (Nat×AV)},yz ρ l=some ps→(l.map fun x=>(x.1,ev x.2))=ps.map fun x=>(x.1,x.2.val e)
 | [],ps,h=>by simp only[yz,Option.some.injEq] at h;subst h;rfl
 | (i,x)::l,ps,h=>by
  simp only[yz] at h
  split at h
  ·rename_i a r ha hr
   cases h
   simp[Ot hρ hr,hρ x a ha]
  ·cases h
theorem Ou {ρ:Operand→Option AV} : ∀ {l:List (Nat×Operand)} {ps:List (Nat×AV)},yz ρ l=some ps→∀ x∈ps,∃ y∈l,ρ y.2=some x.2
 | [],ps,h,x,hx=>by simp only[yz,Option.some.injEq] at h;subst h;cases hx
 | (i,z)::l,ps,h,x,hx=>by
  simp only[yz] at h
  split at h
  ·rename_i a r ha hr
   cases h
   rcases List.mem_cons.1 hx with rfl|hx
   ·exact⟨_,List.mem_cons_self,ha⟩
   ·obtain⟨y,hy,h1⟩:=Ou hr x hx;exact⟨y,List.mem_cons_of_mem _ hy,h1⟩
  ·cases h
theorem LJ {ρ:Operand→Option AV} {ev:Operand→Value} {e:Env} (hρ:∀ x y,ρ x=some y→ev x=y.val e):∀ {l:List Operand} {ps:List AV},xH ρ l=some ps→l.map ev=AV.vals e ps
 | [],ps,h=>by simp only[xH,Option.some.injEq] at h;subst h;rfl
 | x::l,ps,h=>by
  simp only[xH] at h
  split at h
  ·rename_i a r ha hr
   cases h
   simp[LJ hρ hr,hρ x a ha,AV.vals]
  ·cases h
theorem LK {ρ:Operand→Option AV} : ∀ {l:List Operand} {ps:List AV},xH ρ l=some ps→∀ x∈ps,∃ y∈l,ρ y=some x
 | [],ps,h,x,hx=>by simp only[xH,Option.some.injEq] at h;subst h;cases hx
 | z::l,ps,h,x,hx=>by
  simp only[xH] at h
  split at h
  ·rename_i a r ha hr
   cases h
   rcases List.mem_cons.1 hx with rfl|hx
   ·exact⟨_,List.mem_cons_self,ha⟩
   ·obtain⟨y,hy,h1⟩:=LK hr x hx;exact⟨y,List.mem_cons_of_mem _ hy,h1⟩
  ·cases h
open Go.RowKit
theorem TD {P:Program} : ∀ {fs:List Field},(fs.all fun f=>(tJ P f.type).isSome)=true→fs.mapM (fun f=>(P.info? f.type).map fun i=>(f.offset,i.size))=some (fs.map fun f=>(f.offset,(tJ P f.type).getD 0))
 | [],_=>rfl
 | f::fs,h=>by
  simp only[List.all_cons,Bool.and_eq_true] at h
  obtain⟨s,hs⟩:=Option.isSome_iff_exists.1 h.1
  obtain⟨i,hi,hsz⟩:=Om hs
  simp[List.mapM_cons,hi,TD h.2,hs,hsz]
theorem TE {p q:Nat→Option (Nat×Nat)} (h:∀ i,p i=q i):∀ (ps:List (Nat×Value)) (c:Array Value),Instr.fill p c ps=Instr.fill q c ps:=by
 have:p=q:=funext h
 intro ps c;rw[this]
theorem abJ {P:Program} {t:TypeId} {z:List Value} {ps:List (Nat×AV)} {c:List AV} {e:Env} (w:World) (hz:zY P t=some z) (hs:LA P t=true) (h:zH (Ju P t) (z.map .v) ps=some c)
  (parts:Array (Nat×Value)) (hp:parts.toList=ps.map fun x=>(x.1,x.2.val e)):(Instr.build t parts).run P w = .ok ((ww c).val e) w:=by
 rw[Js]
 apply run_build
 obtain⟨it,v,hi,hv,hc⟩:=LH hz
 have hf:=Oo (e:=e) h
 rw[vK,← hc,← hp] at hf
 simp only[Array.toArray_toList] at hf
 unfold Program.built
 unfold LA at hs
 cases hu:P.underlying t with
 | none=>rw[hu] at hs;cases hs
 | some d =>
  rw[hu] at hs
  cases d<;>try cases hs
  case array n el =>
   obtain⟨s,hsz⟩:=Option.isSome_iff_exists.1 hs
   obtain⟨ie,hie,his⟩:=Om hsz
   simp only[hi,hv,hie]
   rw[← hf]
   apply TE
   intro i
   simp[Ju,hu,hsz,his]
  case struct fs =>
   simp only at hs
   have hm:=TD (P:=P) hs
   simp only[hi,hv]
   rw[hm]
   simp only
   rw[← hf]
   apply TE
   intro i
   simp only[Ju,hu,List.getElem?_toArray,List.getElem?_map,Array.getElem?_toList]
   cases hfi:fs[i]? with
   | none=>rfl
   | some f =>
    have hfm:f∈fs.toList:=by simpa using Array.mem_of_getElem? hfi
    obtain⟨s,hsz⟩:=Option.isSome_iff_exists.1 (List.all_eq_true.1 hs f hfm)
    simp[hsz]
theorem abK {P:Program} {t:TypeId} {len k:Nat} {ps:List (Nat×AV)} {r:AV} {tc:List Nat} {ef:List (Nat×AO)} {G:rP} {H:ry} {w0:World} {B0:sG} {e:Env} {w:World}
  (h:FQ P t len k ps=some (r,tc,ef)) (hk:H k=none) (R:rU G w0 B0 e H w) (hr:∀ x∈ps,∀ c∈x.2.refs,H c≠none) (parts:Array (Nat×Value)) (hp:parts.toList=ps.map fun x=>(x.1,x.2.val e)) :
  ∃ e' w',(Instr.buildSlice t len parts).run P w = .ok (r.val e') w'∧rU G w0 B0 e' (H.puts ef) w'∧Env.on H e e'∧∀ c∈r.refs,(H.puts ef) c≠none:=by
 unfold FQ at h
 split at h
 ·rename_i el hel
  split at h
  ·rename_i s z hs hz
   split at h
   ·rename_i hle
    split at h
    ·rename_i c hf
     cases h
     obtain⟨it,v,hi,hv,hc⟩:=LH hz
     have hc':∀ r∈AV.refss c,H r≠none:=fun x hx=>by
      rcases Oq hf hx with h1|⟨y,hy,h1⟩
      ·rw[AP] at h1;simp at h1
      ·exact hr y hy x h1
     refine⟨e.setBlk k w.heap.size,_,?_,R.alloc hk c el hc',Env.setBlk_on hk e _,fun x hx=>?_⟩
     ·have hfr:=Oo (e:=e) hf
      rw[vK,← hp] at hfr
      have hz':(BD z (len*s)).toArray=(Array.range (len*s)).map fun j=>v.cells[j%v.cells.size]!:=by
       rw[Tw,← hc]
       apply Array.ext'
       simp
      rw[hz'] at hfr
      have hgt:¬ len*s>2^24:=by omega
      have hzv:(zeroValue el).run P w = .ok v w:=by simp[zeroValue,typeInfo,hi,hv]
      simp only[Instr.buildSlice,Sem.run_bind,run_underlying (LG hel),Result.andThen,run_sizeOf hs,hgt,if_false,hle.2,Sem.run_pure,hzv,hfr]
      simp[newRow,AV.val,Env.setBlk]
     ·simp[AV.refs] at hx;subst hx;rw[ry.puts,ry.puts,ry.put_same];simp
    ·cases h
   ·cases h
  ·cases h
 ·cases h
theorem abL {P:Program} (op:BinOp) (k:IntKind) (x y:Int) (w:World) (h:op = .and∨op = .or∨op = .xor∨op = .andNot):(Op.intBits op k x y).run P w = .ok (DY op k x y) w:=by
 rcases h with rfl|rfl|rfl|rfl<;>rfl
theorem abM {P:Program} (op:BinOp) (t:TypeId) (xo yo:Operand) (k k':IntKind) (a b:Int) (w:World):(eqGuard op t xo yo (.int k a) (.int k' b)).run P w = .ok () w:=by
 unfold eqGuard;cases op<;>rfl
theorem abN {P:Program} (op:BinOp) (t:TypeId) (xo yo:Operand) (a b:Bool) (w:World):(eqGuard op t xo yo (.bool a) (.bool b)).run P w = .ok () w:=by
 unfold eqGuard;cases op<;>rfl
theorem run_equal_bool {P:Program} {t:TypeId} (hu:P.underlying t=some .bool) (a b:Bool) (w:World):(Op.equal t (.bool a) (.bool b)).run P w = .ok (a==b) w:=by
 show(Op.equalIn (9999+1) t _ _).run P w=_
 rw[Op.equalIn];simp only[Sem.run_bind,run_underlying hu,Result.andThen];rfl
theorem abO (t:TypeId) (a b:Bool):binOp .eql t (.bool a) (.bool b)=(do pure (.bool (← Op.equal t (.bool a) (.bool b))):Sem Value):=by rw[binOp]<;>simp
theorem abP (t:TypeId) (a b:Bool):binOp .neq t (.bool a) (.bool b)=(do pure (.bool (!(← Op.equal t (.bool a) (.bool b)))):Sem Value):=by rw[binOp]<;>simp
theorem abQ {P:Program} {op:BinOp} {t:TypeId} {x y v:Value} (h:wy P op t x y=some v) (xo yo:Operand) (w:World):(do eqGuard op t xo yo x y;binOp op t x y:Sem Value).run P w = .ok v w:=by
  unfold wy at h
  split at h
  · rename_i k a k' b
    simp only[Sem.run_bind,abM,Result.andThen]
    cases op<;>simp only at h<;>first
      | (split at h
         · cases h
         · rename_i hb;cases h;simp[binOp,Op.shift,hb])
      | (split at h
         · rename_i hb
           cases h
           first
             | (obtain⟨rfl,hb⟩:=hb;simp at hb;simp[binOp,Op.intDiv,hb])
             | (subst hb;simp[binOp,Op.intArith,Op.intCmp,abL])
         · cases h)
  · rename_i a b
    simp only[Sem.run_bind,abN,Result.andThen]
    cases op<;>simp only at h<;>try cases h
    all_goals
      split at h
      · rename_i hu
        cases h
        simp only[abO,abP,Sem.run_bind,run_equal_bool hu,Result.andThen,Sem.run_pure]
      · cases h
  · cases h
theorem abR {P:Program} {t ty:TypeId} {x r:AV} {tc:List Nat} {G:rP} {H:ry} {w0:World} {B0:sG} {e:Env} {w:World} (h:yA P t H x=some (r,tc)) (R:rU G w0 B0 e H w) :
  (Builtin.len_ #[t] ty #[x.val e]).run P w = .ok (r.val e) w∧r.refs = []:=by
 unfold yA at h
 split at h
 ·rename_i el hu
  split at h
  ·cases h;exact⟨by simp[Builtin.len_,run_underlying hu,AV.val,goInt],rfl⟩
  ·rename_i k
   split at h
   ·rename_i n c hb
    cases h
    refine⟨?_,rfl⟩
    rcases R.rd k n c hb with⟨hv,hn,_⟩|⟨b,o,cap,hv,_,_⟩
    ·simp[Builtin.len_,run_underlying hu,AV.val,hv,zG,goInt,hn]
    ·simp[Builtin.len_,run_underlying hu,AV.val,hv,zG,goInt]
   ·cases h
  ·cases h;exact⟨by simp[Builtin.len_,run_underlying hu,AV.val,goInt],rfl⟩
  ·cases h
 ·rename_i hu
  split at h
  ·cases h;exact⟨by simp[Builtin.len_,run_underlying hu,AV.val,goInt],rfl⟩
  ·cases h
 ·rename_i n el hu
  cases h;exact⟨by simp[Builtin.len_,run_underlying hu,AV.val,goInt],rfl⟩
 ·cases h
theorem abS {P:Program} {t:TypeId} {x r:AV} {tc:List Nat} {G:rP} {H:ry} {w0:World} {B0:sG} {e:Env} {w:World} (h:BF P t H x=some (r,tc)) (R:rU G w0 B0 e H w) :
  (Instr.arrayAt t (x.val e)).run P w = .ok (r.val e) w∧∀ c∈r.refs,c∈x.refs:=by
 unfold BF at h
 split at h
 ·rename_i n el ha
  have hu:=FU ha
  split at h
  ·split at h
   ·rename_i hle
    cases h
    refine⟨?_,fun c hc=>by simpa [AV.refs] using hc⟩
    have:¬ (_<n):=Nat.not_lt.2 hle
    simp[Instr.arrayAt,run_underlying hu,AV.val,this]
   ·cases h
  ·rename_i k
   split at h
   ·rename_i len c hb
    split at h
    ·rename_i hle
     cases h
     refine⟨?_,fun c hc=>by simpa [AV.refs] using hc⟩
     have:¬ (len<n):=Nat.not_lt.2 hle.1
     rcases R.rd k len c hb with⟨hv,hl,hc⟩|⟨b,o,cap,hv,hlt,hc⟩
     ·omega
     ·simp[Instr.arrayAt,run_underlying hu,AV.val,hv,zG,this]
    ·cases h
   ·cases h
  ·cases h
 ·cases h
theorem abT {P:Program} {t:TypeId} {k:Nat} {x y r:AV} {tc:List Nat} {ef:List (Nat×AO)} {G:rP} {H:ry} {w0:World} {B0:sG} {e:Env} {w:World}
  (h:FR P t k x y=some (r,tc,ef)) (hk:H k=none) (R:rU G w0 B0 e H w) :
  ∃ e' w',(Instr.makeSlice t (x.val e) (y.val e)).run P w = .ok (r.val e') w'∧rU G w0 B0 e' (H.puts ef) w'∧Env.on H e e'∧∀ c∈r.refs,(H.puts ef) c≠none:=by
 unfold FR at h
 split at h
 ·rename_i k1 n k2 m
  split at h
  ·rename_i el hel
   split at h
   ·rename_i s z b hs hz hb
    split at h
    ·rename_i hc
     cases h
     obtain⟨it,v,hi,hv,hcz⟩:=LH hz
     have hbb:it.bytes=b:=by unfold Og at hb;rw[hi] at hb;simpa using hb
     refine⟨e.setBlk k w.heap.size,_,?_,R.alloc hk ((BD z (m.toNat*s)).map .v) el (fun r hr=>by rw[AP] at hr;simp at hr),Env.setBlk_on hk e _,fun x hx=>?_⟩
     ·have hzv:(zeroValue el).run P w = .ok v w:=by simp[zeroValue,typeInfo,hi,hv]
      have w1:IntKind.i64.wrap n=n:=by unfold IntKind.wrap IntKind.bits IntKind.signed;simp;omega
      have w2:IntKind.i64.wrap m=m:=by unfold IntKind.wrap IntKind.bits IntKind.signed;simp;omega
      have hm:(b:Int)*m≤4096*16777216:=by
       have h1:(b:Int)≤4096:=by omega
       have h2:m≤16777216:=by omega
       have h3:(b:Int)*m≤b*16777216:=Int.mul_le_mul_of_nonneg_left h2 (by omega)
       have h4:(b:Int)*16777216≤4096*16777216:=Int.mul_le_mul_of_nonneg_right h1 (by omega)
       omega
      have c1:(decide (m<0)||decide ((b:Int)*m>2^48))=false:=by
       simp only[Bool.or_eq_false_iff,decide_eq_false_iff_not]
       constructor
       ·omega
       ·have:(2:Int)^48=281474976710656:=by decide
        omega
      have c2:decide (n<0)=false:=by simp;omega
      have c3:decide (n>m)=false:=by simp;omega
      have hz':(BD z (m.toNat*s)).toArray=(Array.range (m.toNat*s)).map fun j=>v.cells[j%v.cells.size]!:=by
       rw[Tw,← hcz];apply Array.ext';simp
      have hroom:∀ j,(askRoom j).run P w = .ok () w:=fun j=>by unfold askRoom;split<;>rfl
      simp only[Instr.makeSlice,Sem.run_bind,run_underlying (LG hel),Result.andThen,AV.val,asInt,asIntOf,Sem.run_pure,typeInfo,hi,w1,w2,hbb,c1,c2,c3,Bool.or_false,Bool.false_eq_true,if_false,hroom,run_sizeOf hs,hc.2.2.2.2,hzv,newRow]
      have hp:(program).run P w = .ok P w:=rfl
      simp only[hp,hi,Sem.run_pure,hbb,c1,c2,c3,Bool.or_false,Bool.false_eq_true,if_false,hroom,run_sizeOf hs,hc.2.2.2.2,hzv,Sem.run_bind,Result.andThen]
      rw[← hz']
      simp[AV.val,Env.setBlk,vK]
     ·simp[AV.refs] at hx;subst hx;rw[ry.puts,ry.puts,ry.put_same];simp
    ·cases h
   ·cases h
  ·cases h
 ·cases h
theorem abU {P:Program} {t:TypeId} {x r:AV} {e:Env} (w:World) (h:Jv P t x=some r):(Instr.sliceAt t (x.val e) none none none).run P w = .ok (r.val e) w∧∀ c∈r.refs,c∈x.refs:=by
 unfold Jv at h
 split at h
 ·rename_i n el ha
  split at h
  ·rename_i b o s hs
   cases h
   refine⟨?_,fun c hc=>by simpa [AV.refs] using hc⟩
   simp[Instr.sliceAt,run_underlying (FU ha),AV.val,Instr.sureAddr,Instr.sliceBounds,run_sizeOf hs,Addr.add]
  ·cases h
 ·cases h
theorem Ov {kd:IntKind} {n:Int} : ∀ {es:List (Value×Value)} {r:Option Value} (i:Nat),BG kd n es=some r→∃ a,Instr.findNow (.int kd) (.int kd n) (FJ i es) i=some a∧a.map (·.2)=r
 | [],r,i,h=>by cases h;exact⟨none,rfl,rfl⟩
 | x::l,r,i,h=>by
  unfold BG at h
  split at h
  ·rename_i k' m hx
   split at h
   ·rename_i hk;subst hk
    simp only[FJ,Instr.findNow,hx,Instr.sameNow,if_true]
    split at h
    ·rename_i hn;subst hn
     cases h
     rw[beq_self_eq_true]
     exact⟨_,rfl,rfl⟩
    ·rename_i hn
     have hb:(n==m)=false:=by simpa using hn
     rw[hb]
     exact Ov (i+1) h
   ·cases h
  ·cases h
theorem abV {P:Program} {t:TypeId} {x i r:AV} {q:Bool} {tc:List Nat} {G:rP} {H:ry} {w0:World} {B0:sG} {e:Env} {w:World} (h:AQ P t H x i q=some (r,tc)) (R:rU G w0 B0 e H w) :
  (Instr.lookup t (x.val e) (i.val e) q).run P w = .ok (r.val e) w∧r.refs = []:=by
 unfold AQ at h
 split at h
 ·rename_i k kd n
  split at h
  ·rename_i es hk
   split at h
   ·rename_i kt et hu
    split at h
    ·rename_i kd' hkt
     split at h
     ·rename_i hkd;subst hkd
      obtain⟨⟨b,hv,hb⟩,-⟩:=R.mp k es hk
      have hki:=Ty hkt
      have hc:∀ em,(Instr.checkKey em 10000 kt (.int kd' n)).run P w = .ok () w:=fun em=>MapKept.run_checkKey (k:=.int kd' n) hki (by simp[MapKept.IsKey]) _ 9999
      have hmap:(AV.hd k).val e = .map (some b):=by simp only[AV.val,hv];rfl
      rw[hmap]
      have hfin:∀ a:Option (Nat×Value),Instr.findNow (.int kd') (.int kd' n) (FJ 0 es) 0=some a→(Instr.findKey kt (.int kd' n) (FJ 0 es)).run P w = .ok a w:=fun a ha=>MapKept.run_findKey hki ha
      split at h
      ·rename_i v hf
       cases h
       obtain⟨a,ha,hav⟩:=Ov 0 hf
       obtain⟨j,v',rfl⟩:∃ j v',a=some (j,v'):=by cases a with|none=>cases hav|some y=>exact⟨y.1,y.2,rfl⟩
       cases hav
       refine⟨?_,rfl⟩
       unfold AC at hb
       simp[Instr.lookup,run_underlying hu,MapKept.run_getObj_map hb,hc,hfin _ ha,Result.andThen,AV.val,zZ]<;>(split<;>rfl)
      ·rename_i hf
       split at h
       ·rename_i z hz
        cases h
        obtain⟨a,ha,hav⟩:=Ov 0 hf
        obtain rfl:a=none:=by cases a with|none=>rfl|some y=>cases hav
        refine⟨?_,rfl⟩
        unfold AC at hb
        have hzv:(zeroValue et).run P w = .ok z w:=by
         unfold Oh at hz
         cases hi:P.info? et with
         | none=>rw[hi] at hz;cases hz
         | some x=>rw[hi] at hz;simp at hz;simp[zeroValue,typeInfo,hi,hz]
        simp[Instr.lookup,run_underlying hu,MapKept.run_getObj_map hb,hc,hfin _ ha,hzv,Result.andThen,AV.val,zZ]
       ·cases h
      ·cases h
     ·cases h
    ·cases h
   ·cases h
  ·cases h
 ·cases h
open Go.RowKit
theorem xW {x:Option AV} {r:AV} {tc:List Nat} {ef:List (Nat×AO)} (h:wt x=some (r,tc,ef)):x=some r∧tc = []∧ef = []:=by
 unfold wt at h;split at h
 ·cases h;exact⟨rfl,rfl,rfl⟩
 ·cases h
theorem CU {x:Option (AV×List Nat)} {r:AV} {tc:List Nat} {ef:List (Nat×AO)} (h:yP x=some (r,tc,ef)):x=some (r,tc)∧ef = []:=by
 unfold yP at h;split at h
 ·cases h;exact⟨rfl,rfl⟩
 ·cases h
def vL (P:Program) (G:rP) (w0:World) (B0:sG) (e:Env) (H:ry) (w:World) (s:Sem Next) (r:AV) (ef:List (Nat×AO)):Prop :=
 ∃ e' w' nx,s.run P w = .ok nx w'∧(nx = .value (r.val e')∨(nx = .skip∧r = .v undef))∧rU G w0 B0 e' (H.puts ef) w'∧Env.on H e e'∧∀ c∈r.refs,(H.puts ef) c≠none
theorem vL.pure {P:Program} {G:rP} {w0:World} {B0:sG} {e:Env} {H:ry} {w:World} {s:Sem Value} {r:AV} (hs:s.run P w = .ok (r.val e) w) (R:rU G w0 B0 e H w) (hr:∀ c∈r.refs,H c≠none) :
  vL P G w0 B0 e H w (do pure (Next.value (← s))) r [] :=
 ⟨e,w,.value (r.val e),by simp[hs],.inl rfl,R,Env.on.refl H e,hr⟩
theorem abW {P:Program} {G:rP} {E:tC} (hE:BC P E) {o:Oper} {ρ:Operand→Option AV} {ev:Operand→Value} {H:ry} {k:Nat} {r:AV} {tc:List Nat} {ef:List (Nat×AO)} {w0:World} {B0:sG} {e:Env} {w:World}
  (h:rV P G E o.op ρ H k=some (r,tc,ef)) (hρ:∀ x y,ρ x=some y→ev x=y.val e) (hr:∀ x∈o.op.operands,∀ y,ρ x=some y→∀ c∈y.refs,H c≠none) (hk:H k=none) (R:rU G w0 B0 e H w) :
  vL P G w0 B0 e H w (execOp ev o) r ef:=by
 unfold execOp
 unfold rV at h
 split at h<;>rename_i ho
 case h_1 x =>
  obtain⟨h1,rfl,rfl⟩:=xW h
  rw[ho] at hr ⊢
  exact⟨e,w,.value (r.val e),by simp[hρ _ _ h1],.inl rfl,R,Env.on.refl H e,hr x (by simp[Op.operands]) r h1⟩
 case h_2 x =>
  obtain⟨h1,rfl,rfl⟩:=xW h
  rw[ho] at hr ⊢
  exact⟨e,w,.value (r.val e),by simp[hρ _ _ h1],.inl rfl,R,Env.on.refl H e,hr x (by simp[Op.operands]) r h1⟩
 case h_3 c a b =>
  rw[ho] at hr ⊢
  split at h
  ·rename_i q hc
   have hcv:=hρ _ _ hc
   simp only[AV.val] at hcv
   split at h
   ·rename_i hq
    obtain⟨h1,rfl,rfl⟩:=xW h
    exact⟨e,w,.value (r.val e),by simp[hcv,asBool,hq,hρ _ _ h1],.inl rfl,R,Env.on.refl H e,hr a (by simp[Op.operands]) r h1⟩
   ·rename_i hq
    obtain⟨h1,rfl,rfl⟩:=xW h
    exact⟨e,w,.value (r.val e),by simp[hcv,asBool,hq,hρ _ _ h1],.inl rfl,R,Env.on.refl H e,hr b (by simp[Op.operands]) r h1⟩
  ·cases h
 case h_4 t =>
  rw[ho] at hr ⊢
  split at h
  ·rename_i z hz
   cases h
   obtain⟨it,v,hi,hv,hc⟩:=LH hz
   refine⟨e.setBlk k w.heap.size,_,.value (.pointer (some ⟨w.heap.size,0,none⟩)),?_,.inl ?_,R.alloc hk (z.map .v) t (fun r hr=>by rw[AP] at hr;simp at hr),Env.setBlk_on hk e _,?_⟩
   ·have hzv:(zeroValue t).run P w = .ok v w:=by simp[zeroValue,typeInfo,hi,hv]
    simp[Instr.alloc,hzv,newVar,newRow,vK,← hc]
   ·simp[AV.val,Env.setBlk]
   ·intro c hc';simp[AV.refs] at hc';subst hc';rw[ry.puts,ry.puts,ry.put_same];simp
  ·cases h
 case h_5 t x =>
  rw[ho] at hr ⊢
  split at h
  ·rename_i a ha
   cases h
   refine⟨e.setBlk k w.heap.size,_,.value (.pointer (some ⟨w.heap.size,0,none⟩)),?_,.inl ?_,R.alloc hk (tK a) t (abD (hr x (by simp[Op.operands]) a ha)),Env.setBlk_on hk e _,?_⟩
   ·simp[Instr.box,newVar,newRow,hρ _ _ ha,Lv]
   ·simp[AV.val,Env.setBlk]
   ·intro c hc';simp[AV.refs] at hc';subst hc';rw[ry.puts,ry.puts,ry.put_same];simp
  ·cases h
 case h_6 t ps =>
  rw[ho] at hr ⊢
  split at h
  ·rename_i l z hl hz
   split at h
   ·rename_i hs
    split at h
    ·rename_i c hf
     cases h
     refine vL.pure (abJ w hz hs hf _ ?_) R ?_
     ·have:=Ot hρ hl
      simpa using this
     ·intro c' hc'
      rcases Oq hf (Od hc') with h1|⟨y,hy,h1⟩
      ·rw[AP] at h1;simp at h1
      ·obtain⟨z',hz',h2⟩:=Ou hl y hy
       exact hr z'.2 (by simp[Op.operands];exact⟨z'.1,by simpa using hz'⟩) y.2 h2 c' h1
    ·cases h
   ·cases h
  ·cases h
 case h_7 t len ps =>
  rw[ho] at hr ⊢
  split at h
  ·rename_i l hl
   obtain⟨e',w',h1,h2,h3,h4⟩:=abK (parts:=ps.map fun(i,x)=>(i,ev x)) h hk R (fun y hy c' h1=>by
    obtain⟨z',hz',h2⟩:=Ou hl y hy
    exact hr z'.2 (by simp[Op.operands];exact⟨z'.1,by simpa using hz'⟩) y.2 h2 c' h1) (by simpa using Ot hρ hl)
   exact⟨e',w',.value (r.val e'),by simp[h1],.inl rfl,h2,h3,h4⟩
  ·cases h
 case h_8 t x =>
  rw[ho] at hr ⊢
  split at h
  ·rename_i a ha
   obtain⟨rfl,h1,h2⟩:=Ol h R
   exact vL.pure (by rw[hρ _ _ ha];exact h1) R h2
  ·cases h
 case h_9 t x y =>
  rw[ho] at hr ⊢
  split at h
  ·rename_i a b ha hb
   obtain⟨rfl,w',h1,h2⟩:=abE h R (hr y (by simp[Op.operands]) b hb)
   exact⟨e,w',.skip,by simp[hρ _ _ ha,hρ _ _ hb,h1],.inr ⟨rfl,rfl⟩,h2,Env.on.refl H e,fun c hc=>by simp[AV.refs] at hc⟩
  ·cases h
 case h_10 x =>
  rw[ho] at hr ⊢
  split at h
  ·rename_i a ha
   obtain⟨h1,rfl,rfl⟩:=xW h
   have hx:=hr x (by simp[Op.operands]) a ha
   unfold LC at h1
   split at h1
   ·cases h1;exact⟨e,w,_,by simp[hρ _ _ ha,AV.val],.inl rfl,R,Env.on.refl H e,hx⟩
   ·cases h1;exact⟨e,w,_,by simp[hρ _ _ ha,AV.val],.inl rfl,R,Env.on.refl H e,hx⟩
   ·cases h1;exact⟨e,w,_,by simp[hρ _ _ ha,AV.val],.inl rfl,R,Env.on.refl H e,hx⟩
   ·cases h1;exact⟨e,w,_,by simp[hρ _ _ ha,AV.val],.inl rfl,R,Env.on.refl H e,hx⟩
   ·cases h1
  ·cases h
 case h_11 op t x y yt =>
  rw[ho] at hr ⊢
  split at h
  ·rename_i a b ha hb
   obtain⟨h1,rfl,rfl⟩:=xW h
   unfold CS at h1
   split at h1
   ·rename_i a b
    have hav:=hρ _ _ ha;have hbv:=hρ _ _ hb
    simp only[AV.val] at hav hbv
    split at h1
    ·rename_i v hv
     cases h1
     refine vL.pure (s:=do eqGuard op t x y (ev x) (ev y);binOp op t (ev x) (ev y)) ?_ R (fun c hc=>by simp[AV.refs] at hc)
     rw[hav,hbv];exact abQ hv x y w
    ·split at h1
     ·rename_i v hv
      cases h1
      refine vL.pure (s:=do eqGuard op t x y (ev x) (ev y);binOp op t (ev x) (ev y)) ?_ R (fun c hc=>by simp[AV.refs] at hc)
      rw[hav,hbv];exact hE op t a b v hv x y w
     ·cases h1
   ·cases h1
  ·cases h
 case h_12 op t x =>
  rw[ho] at hr ⊢
  split at h
  ·rename_i a ha
   obtain⟨h1,rfl,rfl⟩:=xW h
   have hav:=hρ _ _ ha
   unfold FO at h1
   split at h1
   ·cases h1
    refine vL.pure ?_ R (fun c hc=>by simp[AV.refs] at hc)
    rw[hav];rfl
   ·cases h1
    refine vL.pure ?_ R (fun c hc=>by simp[AV.refs] at hc)
    rw[hav];rfl
   ·cases h1
    refine vL.pure ?_ R (fun c hc=>by simp[AV.refs] at hc)
    rw[hav];rfl
   ·cases h1
  ·cases h
 case h_13 s d x =>
  rw[ho] at hr ⊢
  split at h
  ·rename_i a ha
   obtain⟨h1,rfl,rfl⟩:=xW h
   have hav:=hρ _ _ ha
   unfold LB at h1
   split at h1
   ·rename_i kk n
    split at h1
    ·rename_i k' d' hk' hs'
     cases h1
     refine vL.pure ?_ R (fun c hc=>by simp[AV.refs] at hc)
     rw[hav]
     simp[convert,run_underlying hs',run_underlying (Ty hk'),AV.val,Conv.intToInt]
    ·cases h1
   ·cases h1
  ·cases h
 case h_14 f a c =>
  rw[ho] at hr ⊢
  split at h
  ·rename_i x y hx hy
   cases h
   refine vL.pure ?_ R ?_
   ·have h1:=LJ hρ hx;have h2:=LJ hρ hy
    rw[abq,← h1,← h2]
    simp[Instr.makeFunc]
    constructor<;>(apply Array.ext';simp)
   ·intro c' hc'
    rcases List.mem_append.1 (Tu hc') with h1|h1
    ·obtain⟨z,hz,h2⟩:=AV.mem_refss.1 h1
     obtain⟨q,hq,h3⟩:=LK hx z hz
     exact hr q (by simp[Op.operands];left;simpa using hq) z h3 c' h2
    ·obtain⟨z,hz,h2⟩:=AV.mem_refss.1 h1
     obtain⟨q,hq,h3⟩:=LK hy z hz
     exact hr q (by simp[Op.operands];right;simpa using hq) z h3 c' h2
  ·cases h
 case h_15 t x f =>
  rw[ho] at hr ⊢
  split at h
  ·rename_i a ha
   obtain⟨h1,rfl,rfl⟩:=xW h
   have h2:=Tz h1 R
   exact vL.pure (by rw[hρ _ _ ha];exact h2.1) R (fun c hc=>hr x (by simp[Op.operands]) a ha c (h2.2 c hc))
  ·cases h
 case h_16 t x f =>
  rw[ho] at hr ⊢
  split at h
  ·rename_i a ha
   obtain⟨h1,rfl,rfl⟩:=xW h
   have h2:=abF (e:=e) w h1
   exact vL.pure (by rw[hρ _ _ ha];exact h2.1) R (fun c hc=>hr x (by simp[Op.operands]) a ha c (h2.2 c hc))
  ·cases h
 case h_17 t x i =>
  rw[ho] at hr ⊢
  split at h
  ·rename_i a b ha hb
   obtain⟨h1,rfl⟩:=CU h
   have h2:=abG h1 R
   exact vL.pure (by rw[hρ _ _ ha,hρ _ _ hb];exact h2.1) R (fun c hc=>hr x (by simp[Op.operands]) a ha c (h2.2 c hc))
  ·cases h
 case h_18 t x i =>
  rw[ho] at hr ⊢
  split at h
  ·rename_i a b ha hb
   obtain⟨h1,rfl,rfl⟩:=xW h
   have h2:=abH (e:=e) w h1
   exact vL.pure (by rw[hρ _ _ ha,hρ _ _ hb];exact h2.1) R (fun c hc=>hr x (by simp[Op.operands]) a ha c (h2.2 c hc))
  ·cases h
 case h_19 x i =>
  rw[ho] at hr ⊢
  split at h
  ·rename_i a ha
   obtain⟨h1,rfl,rfl⟩:=xW h
   have h2:=abI (P:=P) (e:=e) w h1
   exact vL.pure (by rw[hρ _ _ ha];exact h2.1) R (fun c hc=>hr x (by simp[Op.operands]) a ha c (h2.2 c hc))
  ·cases h
 case h_20 args ts =>
  rw[ho] at hr ⊢
  split at h
  ·rename_i x t ha ht
   split at h
   ·rename_i a hav
    obtain⟨h1,rfl⟩:=CU h
    have hargs:args = #[x]:=by apply Array.ext';simp[ha]
    have hts:ts = #[t]:=by apply Array.ext';simp[ht]
    have h2:=abR (ty:=o.type) h1 R
    subst hargs hts
    refine⟨e,w,.value (r.val e),?_,.inl rfl,R,Env.on.refl H e,fun c hc=>by rw[h2.2] at hc;simp at hc⟩
    simp[resolve,invoke,builtin,hρ _ _ hav,h2.1]
   ·cases h
  ·cases h
 case h_21 args ts =>
  rw[ho] at hr ⊢
  split at h
  ·rename_i x y ha
   split at h
   ·rename_i k' a k'' b hx hy
    cases h
    have hargs:args = #[x,y]:=by apply Array.ext';simp[ha]
    subst hargs
    have h1:=hρ _ _ hx;have h2:=hρ _ _ hy
    refine⟨e,w,.value _,?_,.inl rfl,R,Env.on.refl H e,fun c hc=>by simp[AV.refs] at hc⟩
    simp[resolve,invoke,builtin,h1,h2,AV.val,Builtin.min_,Builtin.min2]
   ·cases h
  ·cases h
 case h_22 args ts =>
  rw[ho] at hr ⊢
  split at h
  ·rename_i x y ha
   split at h
   ·rename_i k' a k'' b hx hy
    cases h
    have hargs:args = #[x,y]:=by apply Array.ext';simp[ha]
    subst hargs
    have h1:=hρ _ _ hx;have h2:=hρ _ _ hy
    refine⟨e,w,.value _,?_,.inl rfl,R,Env.on.refl H e,fun c hc=>by simp[AV.refs] at hc⟩
    simp[resolve,invoke,builtin,h1,h2,AV.val,Builtin.max_,Builtin.max2]
   ·cases h
  ·cases h
 case h_23 t x =>
  rw[ho] at hr ⊢
  split at h
  ·rename_i a ha
   obtain⟨h1,rfl⟩:=CU h
   have h2:=abS h1 R
   exact vL.pure (by rw[hρ _ _ ha];exact h2.1) R (fun c hc=>hr x (by simp[Op.operands]) a ha c (h2.2 c hc))
  ·cases h
 case h_24 t x y =>
  rw[ho] at hr ⊢
  split at h
  ·rename_i a b ha hb
   obtain⟨e',w',h1,h2,h3,h4⟩:=abT h hk R
   exact⟨e',w',.value (r.val e'),by simp[hρ _ _ ha,hρ _ _ hb,h1],.inl rfl,h2,h3,h4⟩
  ·cases h
 case h_25 t x =>
  rw[ho] at hr ⊢
  split at h
  ·rename_i a ha
   obtain⟨h1,rfl,rfl⟩:=xW h
   have h2:=abU (P:=P) (e:=e) w h1
   exact vL.pure (by rw[hρ _ _ ha];exact h2.1) R (fun c hc=>hr x (by simp[Op.operands]) a ha c (h2.2 c hc))
  ·cases h
 case h_26 t x i q =>
  rw[ho] at hr ⊢
  split at h
  ·rename_i a b ha hb
   obtain⟨h1,rfl⟩:=CU h
   have h2:=abV h1 R
   exact vL.pure (by rw[hρ _ _ ha,hρ _ _ hb];exact h2.1) R (fun c hc=>by rw[h2.2] at hc;simp at hc)
  ·cases h
 case h_27=>cases h
open Go.RowKit
def wU (P:Program) (g:FuncId) (args:Array Value) (w:World) (R:Ending→World→Prop):Prop :=
 match (callFunc g args).run P w with
 | .ok (.value v) w'=>R (.returned v) w'
 | .ok (.enter f bs) w'=>Calls P f bs w' R
 | _=>False
theorem wU.mono {P:Program} {g:FuncId} {args:Array Value} {w:World} {R R':Ending→World→Prop} (h:wU P g args w R) (hr:∀ e w',R e w'→R' e w'):wU P g args w R':=by
 unfold wU at h ⊢
 split at h
 ·exact hr _ _ h
 ·exact h.mono hr
 ·exact h.elim
def PC (P:Program) (G:rP) (g:FuncId) (args:List Value) (v:Value):Prop:=∀ w,Gl G w→wU P g args.toArray w fun e w'=>e = .returned v∧rq w w'
def DZ (P:Program) (G:rP) (w0:World) (B0:sG) (g:FuncId) (args:List AV) (H:ry) (tc:List Nat) (k:Nat) (r:AV) (ef:List (Nat×AO)):Prop :=
 ∀ H' e w,(∀ b∈tc,H' b=H b)→H' k=none→H' (k+1)=none→(∀ x∈args,∀ c∈x.refs,H' c≠none)→rU G w0 B0 e H' w →
  wU P g (AV.vals e args).toArray w fun en w'=>∃ e',en = .returned (r.val e')∧rU G w0 B0 e' (H'.puts ef) w'∧Env.on H' e e'∧∀ c∈r.refs,(H'.puts ef) c≠none
theorem PC.call {P:Program} {G:rP} {g:FuncId} {vs:List Value} {v:Value} (h:PC P G g vs v) (w0:World) (B0:sG) {args:List AV} (ha:tX args=some vs) (H:ry) (k:Nat):DZ P G w0 B0 g args H [] k (.v v) []:=by
 intro H' e w _ _ _ _ R
 rw[CL ha]
 exact(h w R.gl).mono fun en w' ⟨h1,h2⟩=>⟨e,h1,R.below h2,Env.on.refl H' e,fun c hc=>by simp[AV.refs] at hc⟩
def FV (P:Program) (G:rP) (w0:World) (B0:sG) (o:Oper) (T:rT) (H:ry) (tc:List Nat) (k:Nat) (r:AV) (ef:List (Nat×AO)):Prop :=
 ∀ (nt:Nat) (T':rT) (H':ry) (e:Env) (a:Act) (w:World) (K:Act→World→Prop) (Q:Exit→Act→World→Prop),
  (∀ x∈o.op.operands,uU T' x=uU T x)→(∀ b∈tc,H' b=H b)→H' k=none→H' (k+1)=none→wu nt e T' a→vG T' H'→rU G w0 B0 e H' w →
  (∀ e' w',rU G w0 B0 e' (H'.puts ef) w'→Env.on H' e e'→(∀ c∈r.refs,(H'.puts ef) c≠none)→K (a.put o.dst (r.val e')) w')→o.wp P a w K Q
theorem vG.op {T:rT} {H:ry} (h:vG T H) {x:Operand} {y:AV} (hx:uU T x=some y):∀ c∈y.refs,H c≠none:=by
 cases x with
 | tmp t=>exact h t y hx
 | const v=>simp only[uU,Option.some.injEq] at hx;subst hx;intro c hc;simp[AV.refs] at hc
 | global g=>simp only[uU,Option.some.injEq] at hx;subst hx;intro c hc;simp[AV.refs] at hc
 | func f=>simp only[uU,Option.some.injEq] at hx;subst hx;intro c hc;simp[AV.refs] at hc
theorem vL.wp {P:Program} {G:rP} {w0:World} {B0:sG} {e:Env} {H:ry} {w:World} {o:Oper} {a:Act} {r:AV} {ef:List (Nat×AO)} {K:Act→World→Prop} {Q:Exit→Act→World→Prop}
  (h:vL P G w0 B0 e H w (execOp a.eval o) r ef) (hK:∀ e' w',rU G w0 B0 e' (H.puts ef) w'→Env.on H e e'→(∀ c∈r.refs,(H.puts ef) c≠none)→K (a.put o.dst (r.val e')) w'):o.wp P a w K Q:=by
 obtain⟨e',w',nx,hrun,hnx,hR,hon,hrf⟩:=h
 unfold Oper.wp
 rw[hrun]
 rcases hnx with rfl|⟨rfl,rfl⟩
 ·exact hK e' w' hR hon hrf
 ·exact hK e' w' hR hon hrf
theorem FW {P:Program} {G:rP} {E:tC} (hE:BC P E) {o:Oper} {T:rT} {H:ry} {k:Nat} {r:AV} {tc:List Nat} {ef:List (Nat×AO)} (h:rV P G E o.op (uU T) H k=some (r,tc,ef)) (w0:World) (B0:sG) :
  FV P G w0 B0 o T H tc k r ef:=by
 intro nt T' H' e a w K Q hx hb hk _ hT hI hR hK
 have h':=abC h hx hb
 exact(abW hE h' (fun x y hy=>hT.eval hy) (fun x _ y hy=>hI.op hy) hk hR).wp hK
def FX:AV→Option (FuncId×List AV×List AV)
 | .v (.func (.func g) a c)=>some (g,a.toList.map .v,c.toList.map .v)
 | .fn (.func g) a c=>some (g,a,c)
 | _=>none
def FY (op:Op) (ρ:Operand→Option AV):Option (FuncId×List AV) :=
 match op with
 | .call { callee:=.value f,args:=xs,argTypes:=_ }=>match ρ f with
  | some fv=>match FX fv,xH ρ xs.toList with
   | some (g,a,c),some bs=>some (g,a++bs++c)
   | _,_=>none
  | none=>none
 | _=>none
theorem abX {fv:AV} {g:FuncId} {a c:List AV} (h:FX fv=some (g,a,c)) (e:Env):fv.val e = .func (.func g) (AV.vals e a).toArray (AV.vals e c).toArray∧∀ x∈a++c,∀ r∈x.refs,r∈fv.refs:=by
 unfold FX at h
 split at h
 ·cases h
  refine⟨by simp[AV.val,vK],fun x hx r hr=>?_⟩
  rcases List.mem_append.1 hx with hx|hx<;>(obtain⟨y,_,rfl⟩:=List.mem_map.1 hx;simp[AV.refs] at hr)
 ·cases h
  refine⟨rfl,fun x hx r hr=>?_⟩
  rw[AV.refs]
  rcases List.mem_append.1 hx with hx|hx
  ·exact List.mem_append_left _ (AV.mem_refss.2 ⟨x,hx,hr⟩)
  ·exact List.mem_append_right _ (AV.mem_refss.2 ⟨x,hx,hr⟩)
 ·cases h
theorem Jw (e:Env) (a b:List AV):AV.vals e (a++b)=AV.vals e a++AV.vals e b:=by simp[AV.vals_map]
theorem TF {P:Program} {G:rP} {w0:World} {B0:sG} {o:Oper} {T:rT} {H:ry} {k:Nat} {r:AV} {tc:List Nat} {ef:List (Nat×AO)} {g:FuncId} {args:List AV} (h:FY o.op (uU T)=some (g,args))
  (hc:DZ P G w0 B0 g args H tc k r ef):FV P G w0 B0 o T H tc k r ef:=by
 intro nt T' H' e a w K Q hx hb hk hk1 hT hI hR hK
 unfold FY at h
 split at h
 ·rename_i f xs ts ho
  split at h
  ·rename_i fv hfv
   split at h
   ·rename_i g' first cap bs hcl hl
    cases h
    have hf':uU T' f=some fv:=by rw[hx f (by rw[ho];simp[Op.operands,Call.operands])];exact hfv
    have hl':xH (uU T') xs.toList=some bs:=by
     rw[LF (ρ:=uU T) (fun x hm=>hx x (by rw[ho];simp[Op.operands,Call.operands];right;simpa using hm))];exact hl
    obtain⟨hv,hrf⟩:=abX hcl e
    have hev:=hT.eval hf'
    have hvals:=LJ (fun x y hy=>hT.eval hy) hl'
    have harg:∀ x∈first++bs++cap,∀ c∈x.refs,H' c≠none:=by
     intro x hxm c hcm
     simp only[List.mem_append] at hxm
     rcases hxm with(h1|h1)|h1
     ·exact hI.op hf' c (hrf x (List.mem_append_left _ h1) c hcm)
     ·obtain⟨y,_,hy⟩:=LK hl' x h1
      exact hI.op hy c hcm
     ·exact hI.op hf' c (hrf x (List.mem_append_right _ h1) c hcm)
    have hcall:=hc H' e w hb hk hk1 harg hR
    unfold wU at hcall
    have hrun:(execOp a.eval o).run P w=(callFunc g (AV.vals e (first++bs++cap)).toArray).run P w:=by
     unfold execOp
     rw[ho]
     simp only[resolve,hev,hv,Deferred.ofValue]
     have:(xs.map a.eval)=(AV.vals e bs).toArray:=by rw[← hvals];apply Array.ext';simp
     simp[invoke,this,Jw]
    unfold Oper.wp
    rw[hrun]
    split at hcall
    ·rename_i v w' hr'
     rw[hr']
     obtain⟨e',h1,h2,h3,h4⟩:=hcall
     cases h1
     exact hK e' w' h2 h3 h4
    ·rename_i f' bs' w' hr'
     rw[hr']
     refine Calls.mono hcall ?_
     rintro en w'' ⟨e',rfl,h2,h3,h4⟩
     exact hK e' w'' h2 h3 h4
    ·exact hcall.elim
   ·cases h
  ·cases h
 ·cases h
def AR (ops:Array Oper) (T:rT) (o:Oper):Option Bool :=
 match o.guard with
 | none=>some true
 | some (j,want)=>match (ops[j]?).bind (·.dst) with
  | none=>some false
  | some d=>match T d with
   | some (.v (.bool b))=>some (b==want)
   | some (.v (.tuple _))=>some false
   | _=>none
theorem TG {ops:Array Oper} {T:rT} {o:Oper} {q:Bool} (h:AR ops T o=some q) {nt:Nat} {e:Env} {a:Act} (hT:wu nt e T a):Region.wanted o (yielded ops a.tmps)=q:=by
 unfold AR at h
 unfold Region.wanted
 split at h
 ·rename_i hg;cases h;rw[hg]
 ·rename_i j want hg
  rw[hg]
  simp only[yielded]
  split at h
  ·rename_i hd;cases h;rw[hd];rfl
  ·rename_i d hd
   rw[hd]
   have key:∀ x,T d=some x→a.tmps[d]? = some (x.val e):=fun x hx=>by
    obtain⟨hs,hall⟩:=hT
    have h1:=hall d x hx
    have hlt:d<a.tmps.size:=by rw[hs];exact h1.1
    rw[Array.getD_eq_getD_getElem?,Array.getElem?_eq_getElem hlt] at h1
    rw[Array.getElem?_eq_getElem hlt]
    simpa using h1.2
   split at h
   ·rename_i b hb
    cases h
    simp[key _ hb,AV.val]
   ·rename_i vs hb
    cases h
    simp[key _ hb,AV.val]
   ·cases h
abbrev Tr:=List (Nat×List Nat×Bool)
def yC (tc:List Nat) (ef:List (Nat×AO)):Bool:=ef.any fun x=>tc.contains x.1
inductive Hold.{u} {α:Sort u} (a:α):Type|mk
def FZ (q:Bool) (A B:Prop) (_:Hold A) (_:Hold B):Prop:=(q=true→A)∧(q=false→B)
theorem Aa (A B:Prop) (x:Hold A) (y:Hold B):FZ true A B x y=A:=by simp[FZ]
theorem Ea (A B:Prop) (x:Hold A) (y:Hold B):FZ false A B x y=B:=by simp[FZ]
def abY (P:Program) (G:rP) (w0:World) (B0:sG) (g:FuncId) (args:List AV) (H:ry) (k:Nat) (R:AV→List Nat→List (Nat×AO)→Prop) (_:Hold R):Prop :=
 ∃ r tc ef,DZ P G w0 B0 g args H tc k r ef∧(∀ b∈tc,H b≠none)∧(∀ x∈ef,x.1=k∨x.1=k+1∨x.1∈tc)∧R r tc ef
def OpG (P:Program) (G:rP) (w0:World) (B0:sG) (o:Oper) (T:rT) (H:ry) (k:Nat) (R:AV→List Nat→List (Nat×AO)→Prop) (_:Hold R):Prop :=
 ∃ r tc ef,FV P G w0 B0 o T H tc k r ef∧(∀ b∈tc,H b≠none)∧(∀ x∈ef,x.1=k∨x.1=k+1∨x.1∈tc)∧R r tc ef
def Ab (op:Op) (ρ:Operand→Option AV):Option (Bool×Option AV×Option AV) :=
 match op with
 | .pick c a b=>match ρ c with
  | some (.v (.bool q))=>some (q,ρ a,ρ b)
  | _=>none
 | _=>none
theorem TH {P:Program} {G:rP} {E:tC} {op:Op} {ρ:Operand→Option AV} {q:Bool} {x y:Option AV} (h:Ab op ρ=some (q,x,y)) (H:ry) (k:Nat) :
  (∀ r,q=true→x=some r→rV P G E op ρ H k=some (r,[],[]))∧(∀ r,q=false→y=some r→rV P G E op ρ H k=some (r,[],[])):=by
 unfold Ab at h
 split at h
 ·rename_i c a b
  split at h
  ·rename_i q' hc
   cases h
   constructor
   ·intro r hq hx;simp only[rV,hc,hq,if_true,hx,wt]
   ·intro r hq hx;simp only[rV,hc,hq,Bool.false_eq_true,if_false,hx,wt]
  ·cases h
 ·cases h
def uM (P:Program) (G:rP) (E:tC) (w0:World) (B0:sG) (ops:Array Oper) (Nb:Nat):Nat→List Oper→rT→ry→Tr→(rT→ry→Tr→Prop)→Prop
 | _,[],T,H,tr,K=>K T H tr
 | i,o::os,T,H,tr,K =>
  match AR ops T o with
  | none=>False
  | some q=>FZ q
   (match Ab o.op (uU T) with
   | some (c,x,y)=>FZ c
    (match x with|some r=>uM P G E w0 B0 ops Nb (i+1) os (T.put o.dst r) H ((i,[],false)::tr) K|none=>False)
    (match y with|some r=>uM P G E w0 B0 ops Nb (i+1) os (T.put o.dst r) H ((i,[],false)::tr) K|none=>False) .mk .mk
   | none =>
    match rV P G E o.op (uU T) H (Nb+2*i) with
    | some (r,tc,ef)=>uM P G E w0 B0 ops Nb (i+1) os (T.put o.dst r) (H.puts ef) ((i,tc,yC tc ef)::tr) K
    | none=>match FY o.op (uU T) with
     | some (g,args)=>abY P G w0 B0 g args H (Nb+2*i) (fun r tc ef=>uM P G E w0 B0 ops Nb (i+1) os (T.put o.dst r) (H.puts ef) ((i,tc,yC tc ef)::tr) K) .mk
     | none=>OpG P G w0 B0 o T H (Nb+2*i) (fun r tc ef=>uM P G E w0 B0 ops Nb (i+1) os (T.put o.dst r) (H.puts ef) ((i,tc,yC tc ef)::tr) K) .mk)
   (uM P G E w0 B0 ops Nb (i+1) os (T.put o.dst (.v undef)) H tr K) .mk .mk
theorem ab0 {P:Program} {G:rP} {t:TypeId} {H:ry} {a r:AV} {tc:List Nat} {ef:List (Nat×AO)} (h:xG P G t H a=some (r,tc,ef)):(∀ b∈tc,H b≠none)∧ef = []:=by
 unfold xG at h
 split at h
 ·split at h
  ·rename_i hb;split at h
   ·cases h;exact⟨fun b hm=>by simp at hm;subst hm;rw[hb];simp,rfl⟩
   ·cases h
  ·cases h
 ·split at h
  ·rename_i hb;split at h
   ·cases h;exact⟨fun b hm=>by simp at hm;subst hm;rw[hb];simp,rfl⟩
   ·cases h
  ·cases h
 ·split at h
  ·split at h
   ·cases h;exact⟨fun b hm=>by simp at hm,rfl⟩
   ·cases h
  ·cases h
 ·cases h
theorem ab1 {P:Program} {t:TypeId} {H:ry} {x i r:AV} {tc:List Nat} (h:zm P t H x i=some (r,tc)):∀ b∈tc,H b≠none:=by
 unfold zm at h
 split at h
 ·split at h
  ·split at h
   ·split at h
    ·split at h
     ·cases h;intro b hb;simp at hb
     ·cases h
    ·cases h
   ·cases h
  ·split at h
   ·split at h
    ·split at h
     ·cases h;intro b hb;simp at hb
     ·cases h
    ·cases h
   ·cases h
  ·split at h
   ·split at h
    ·split at h
     ·cases h;intro b hb;simp at hb
     ·cases h
    ·cases h
   ·cases h
  ·split at h
   ·rename_i hb
    split at h
    ·split at h
     ·split at h
      ·cases h;intro b hm;simp at hm;subst hm;rw[hb];simp
      ·cases h
     ·cases h
    ·cases h
   ·cases h
  ·cases h
 ·cases h
theorem ab2 {P:Program} {t:TypeId} {H:ry} {x r:AV} {tc:List Nat} (h:yA P t H x=some (r,tc)):∀ b∈tc,H b≠none:=by
 unfold yA at h
 split at h
 ·split at h
  ·cases h;intro b hb;simp at hb
  ·split at h
   ·rename_i hb;cases h;intro b hm;simp at hm;subst hm;rw[hb];simp
   ·cases h
  ·cases h;intro b hb;simp at hb
  ·cases h
 ·split at h
  ·cases h;intro b hb;simp at hb
  ·cases h
 ·cases h;intro b hb;simp at hb
 ·cases h
theorem ab3 {P:Program} {t:TypeId} {H:ry} {x i r:AV} {q:Bool} {tc:List Nat} (h:AQ P t H x i q=some (r,tc)):∀ b∈tc,H b≠none:=by
 unfold AQ at h
 split at h
 ·split at h
  ·rename_i k _ _ _ _ hb
   have key:∀ b ∈ [k],H b≠none:=fun b hm=>by rw[List.mem_singleton.1 hm,hb];simp
   split at h
   ·split at h
    ·split at h
     ·split at h
      ·cases h;exact key
      ·split at h
       ·cases h;exact key
       ·cases h
      ·cases h
     ·cases h
    ·cases h
   ·cases h
  ·cases h
 ·cases h
theorem TI {P:Program} {G:rP} {E:tC} {op:Op} {ρ:Operand→Option AV} {H:ry} {k:Nat} {r:AV} {tc:List Nat} {ef:List (Nat×AO)} (h:rV P G E op ρ H k=some (r,tc,ef)) :
  (∀ b∈tc,H b≠none)∧∀ x∈ef,x.1=k∨x.1=k+1∨x.1∈tc:=by
 have z:∀ {x:Option AV},wt x=some (r,tc,ef)→(∀ b∈tc,H b≠none)∧∀ x∈ef,x.1=k∨x.1=k+1∨x.1∈tc:=fun hx=>by
  obtain⟨_,rfl,rfl⟩:=xW hx
  exact⟨fun b hb=>by simp at hb,fun x hx=>by simp at hx⟩
 unfold rV at h
 split at h
 case h_1=>exact z h
 case h_2=>exact z h
 case h_3 =>
  split at h
  ·split at h<;>exact z h
  ·cases h
 case h_4 =>
  split at h
  ·cases h;exact⟨fun b hb=>by simp at hb,fun x hx=>by simp at hx;subst hx;exact .inl rfl⟩
  ·cases h
 case h_5 =>
  split at h
  ·cases h;exact⟨fun b hb=>by simp at hb,fun x hx=>by simp at hx;subst hx;exact .inl rfl⟩
  ·cases h
 case h_6 =>
  split at h
  ·split at h
   ·split at h
    ·cases h;exact⟨fun b hb=>by simp at hb,fun x hx=>by simp at hx⟩
    ·cases h
   ·cases h
  ·cases h
 case h_7 =>
  split at h
  ·unfold FQ at h
   split at h
   ·split at h
    ·split at h
     ·split at h
      ·cases h;exact⟨fun b hb=>by simp at hb,fun x hx=>by simp at hx;subst hx;exact .inl rfl⟩
      ·cases h
     ·cases h
    ·cases h
   ·cases h
  ·cases h
 case h_8 =>
  split at h
  ·obtain⟨h1,rfl⟩:=ab0 h
   exact⟨h1,fun x hx=>by simp at hx⟩
  ·cases h
 case h_9 =>
  split at h
  ·unfold BB at h
   split at h
   ·split at h
    ·rename_i hb
     split at h
     ·cases h;exact⟨fun b hm=>by simp at hm;subst hm;rw[hb];simp,fun x hx=>by simp at hx;subst hx;simp⟩
     ·cases h
    ·cases h
   ·cases h
  ·cases h
 case h_10=>split at h<;>first|exact z h|cases h
 case h_11=>split at h<;>first|exact z h|cases h
 case h_12=>split at h<;>first|exact z h|cases h
 case h_13=>split at h<;>first|exact z h|cases h
 case h_14 =>
  split at h
  ·cases h;exact⟨fun b hb=>by simp at hb,fun x hx=>by simp at hx⟩
  ·cases h
 case h_15=>split at h<;>first|exact z h|cases h
 case h_16=>split at h<;>first|exact z h|cases h
 case h_17 =>
  split at h
  ·obtain⟨h1,rfl⟩:=CU h
   exact⟨ab1 h1,fun x hx=>by simp at hx⟩
  ·cases h
 case h_18=>split at h<;>first|exact z h|cases h
 case h_19=>split at h<;>first|exact z h|cases h
 case h_20 =>
  split at h
  ·split at h
   ·obtain⟨h1,rfl⟩:=CU h
    exact⟨ab2 h1,fun x hx=>by simp at hx⟩
   ·cases h
  ·cases h
 case h_21 =>
  split at h
  ·split at h
   ·cases h;exact⟨fun b hb=>by simp at hb,fun x hx=>by simp at hx⟩
   ·cases h
  ·cases h
 case h_22 =>
  split at h
  ·split at h
   ·cases h;exact⟨fun b hb=>by simp at hb,fun x hx=>by simp at hx⟩
   ·cases h
  ·cases h
 case h_23 =>
  split at h
  ·obtain⟨h1,rfl⟩:=CU h
   refine⟨?_,fun x hx=>by simp at hx⟩
   unfold BF at h1
   split at h1
   ·split at h1
    ·split at h1
     ·cases h1;intro b hb;simp at hb
     ·cases h1
    ·split at h1
     ·rename_i hb
      split at h1
      ·cases h1;intro b hm;simp at hm;subst hm;rw[hb];simp
      ·cases h1
     ·cases h1
    ·cases h1
   ·cases h1
  ·cases h
 case h_24 =>
  split at h
  ·unfold FR at h
   split at h
   ·split at h
    ·split at h
     ·split at h
      ·cases h;exact⟨fun b hb=>by simp at hb,fun x hx=>by simp at hx;subst hx;exact .inl rfl⟩
      ·cases h
     ·cases h
    ·cases h
   ·cases h
  ·cases h
 case h_25=>split at h<;>first|exact z h|cases h
 case h_26 =>
  split at h
  ·obtain⟨h1,rfl⟩:=CU h
   exact⟨ab3 h1,fun x hx=>by simp at hx⟩
  ·cases h
 case h_27=>cases h
def yQ (H:ry) (N:Nat):Prop:=∀ b,N≤b→H b=none
theorem ry.puts_ne:∀ {ef:List (Nat×AO)} {H:ry} {b:Nat},(∀ x∈ef,x.1≠b)→(H.puts ef) b=H b
 | [],H,b,_=>rfl
 | x::ef,H,b,h=>by
  rw[ry.puts,ry.puts_ne (ef:=ef) (fun y hy=>h y (List.mem_cons_of_mem _ hy)),ry.put_ne _ _ _ (fun e=>h x List.mem_cons_self e.symm)]
theorem ry.puts_congr:∀ {ef:List (Nat×AO)} {H H':ry} {b:Nat},H b=H' b→(H.puts ef) b=(H'.puts ef) b
 | [],H,H',b,h=>h
 | x::ef,H,H',b,h=>by
  rw[ry.puts,ry.puts]
  apply ry.puts_congr
  unfold ry.put;split
  ·rfl
  ·exact h
theorem ry.puts_dom:∀ {ef:List (Nat×AO)} {H:ry} {b:Nat},H b≠none→(H.puts ef) b≠none
 | [],H,b,h=>h
 | x::ef,H,b,h=>by rw[ry.puts];exact ry.puts_dom (ry.put_dom _ _ _ h)
theorem yQ.puts {H:ry} {N:Nat} (h:yQ H N) {ef:List (Nat×AO)} {tc:List Nat} (ht:∀ b∈tc,H b≠none) (he:∀ x∈ef,x.1=N∨x.1=N+1∨x.1∈tc):yQ (H.puts ef) (N+2):=by
 intro b hb
 rw[ry.puts_ne (fun x hx=>?_)]
 ·exact h b (by omega)
 ·rcases he x hx with h1|h1|h1
  ·omega
  ·omega
  ·intro e
   exact ht _ h1 (h _ (by omega))
theorem vG.op_put {T:rT} {H:ry} (h:vG T H) (d:Option Tmp) {r:AV} {ef:List (Nat×AO)} (hr:∀ c∈r.refs,(H.puts ef) c≠none):vG (T.put d r) (H.puts ef) :=
 (h.grow (fun _ hr=>ry.puts_dom hr)).put d hr
theorem ab4 {P : Program} {G : rP} {E : tC} (hE : BC P E) {w0 : World} {B0 : sG} {ops : Array Oper} {Nb nt : Nat} {Q : Exit → Act → World → Prop} {K : rT → ry → Tr → Prop} {ds : List Deferred}
    (hd : ∀ o ∈ ops.toList, ∀ t, o.dst = some t → t < nt)
    (hQ : ∀ T H tr e a w, K T H tr → rU G w0 B0 e H w → wu nt e T a → vG T H → yQ H (Nb + 2 * ops.size) → a.defers = ds → Q .normal a w) :
    ∀ (os : List Oper) (i : Nat) (T : rT) (H : ry) (tr : Tr) (e : Env) (a : Act) (w : World), os = ops.toList.drop i → i ≤ ops.size → uM P G E w0 B0 ops Nb i os T H tr K → rU G w0 B0 e H w → wu nt e T a → vG T H → yQ H (Nb + 2 * i) → a.defers = ds →
      wpOps P ops Q (List.range' i (ops.size - i)) a w := by
  intro os
  induction os with
  | nil =>
    intro i T H tr e a w hos hi hev R hT hI hB hdf
    have : ops.size - i = 0 := by
      have := congrArg List.length hos
      simp at this; omega
    rw [this]
    exact hQ T H tr e a w hev R hT hI (by
      have : i = ops.size := by omega
      rw [← this]; exact hB) hdf
  | cons o os ih =>
    intro i T H tr e a w hos hi hev R hT hI hB hdf
    have hlt : i < ops.size := by
      have := congrArg List.length hos
      simp at this; omega
    have ho : ops[i]? = some o := by
      have := congrArg (·[0]?) hos
      simp at this
      rw [Array.getElem?_eq_getElem hlt] at this ⊢
      exact this.symm
    have hos' : os = ops.toList.drop (i + 1) := by
      have := congrArg List.tail hos
      simpa using this
    have hr : List.range' i (ops.size - i) = i :: List.range' (i + 1) (ops.size - (i + 1)) := by
      have : ops.size - i = (ops.size - (i + 1)) + 1 := by omega
      rw [this, List.range'_succ]
    have hdo : ∀ t, o.dst = some t → t < nt := hd o (Array.mem_toList_iff.2 (Array.mem_of_getElem? ho))
    rw [hr, wpOps]
    simp only [ho]
    have hk0 : H (Nb + 2 * i) = none := hB _ (Nat.le_refl _)
    have hk1 : H (Nb + 2 * i + 1) = none := hB _ (by omega)
    have step : ∀ r tc ef, FV P G w0 B0 o T H tc (Nb + 2 * i) r ef → (∀ b ∈ tc, H b ≠ none) → (∀ x ∈ ef, x.1 = Nb + 2 * i ∨ x.1 = Nb + 2 * i + 1 ∨ x.1 ∈ tc) →
        uM P G E w0 B0 ops Nb (i + 1) os (T.put o.dst r) (H.puts ef) ((i, tc, yC tc ef) :: tr) K → o.wp P a w (wpOps P ops Q (List.range' (i + 1) (ops.size - (i + 1)))) Q := by
      intro r tc ef hop htc hef hnx
      refine hop nt T H e a w _ Q (fun _ _ => rfl) (fun _ _ => rfl) hk0 hk1 hT hI R ?_
      intro e' w' hR' hon hrf
      refine ih (i + 1) _ _ _ e' _ w' hos' (by omega) hnx hR' ((hT.on hI hon).put hdo r) (hI.op_put o.dst hrf) ?_ (by rw [Act.put_defers]; exact hdf)
      have := hB.puts htc hef
      rwa [show Nb + 2 * (i + 1) = Nb + 2 * i + 2 by omega]
    simp only [uM] at hev
    split at hev
    · exact hev.elim
    · rename_i q hw
      rw [TG hw hT]
      cases q with
      | false =>
        rw [Ea] at hev
        simp only [Bool.false_eq_true, if_false]
        exact ih (i + 1) _ _ _ e _ w hos' (by omega) hev R (hT.put hdo (.v undef)) (hI.put o.dst (fun c hc => by simp [AV.refs] at hc)) (fun b hb => hB b (by omega)) (by rw [Act.put_defers]; exact hdf)
      | true =>
        rw [Aa] at hev
        simp only [if_true]
        left
        split at hev
        · rename_i c x y hp
          have hpk := TH (P := P) (G := G) (E := E) hp H (Nb + 2 * i)
          cases c with
          | true =>
            rw [Aa] at hev
            split at hev
            · rename_i r
              exact step r [] [] (FW hE (hpk.1 r rfl rfl) w0 B0) (fun b hb => (by cases hb)) (fun x hx => (by cases hx)) hev
            · exact hev.elim
          | false =>
            rw [Ea] at hev
            split at hev
            · rename_i r
              exact step r [] [] (FW hE (hpk.2 r rfl rfl) w0 B0) (fun b hb => (by cases hb)) (fun x hx => (by cases hx)) hev
            · exact hev.elim
        · split at hev
          · rename_i r tc ef hn
            obtain ⟨h1, h2⟩ := TI hn
            exact step r tc ef (FW hE hn w0 B0) h1 h2 hev
          · split at hev
            · rename_i g args hc
              obtain ⟨r, tc, ef, h0, h1, h2, h3⟩ := hev
              exact step r tc ef (TF hc h0) h1 h2 h3
            · obtain ⟨r, tc, ef, h0, h1, h2, h3⟩ := hev
              exact step r tc ef h0 h1 h2 h3
open Go.RowKit
def Eb (acc:List Nat):List Edge→Nat
 | []=>0
 | e::es=>(if Region.binds .any e then 2^e.on|||acc.getD e.on 0 else 0)|||Eb acc es
def masks (acc:List Nat):List Oper→List Nat
 | []=>acc
 | o::os=>masks (acc ++ [Eb acc o.after.toList]) os
def LM (ops:Array Oper) (L:Nat→Bool):Prop:=∀ k x,ops[k]? = some x→L k=true→∀ j,zX x j=true→L j=true
theorem TJ {acc:List Nat} {L:Nat→Bool} {j:Nat} : ∀ {es:List Edge},(Eb acc es).testBit j=true→∃ e∈es,Region.binds .any e=true∧(e.on=j∨(acc.getD e.on 0).testBit j=true)
 | [],h=>by simp[Eb] at h
 | e::es,h=>by
  rw[Eb,Nat.testBit_or,Bool.or_eq_true] at h
  rcases h with h|h
  ·split at h
   ·rename_i hb
    rw[Nat.testBit_or,Bool.or_eq_true] at h
    refine⟨e,List.mem_cons_self,hb,?_⟩
    rcases h with h|h
    ·rw[Nat.testBit_two_pow] at h;exact .inl (by simpa using h)
    ·exact .inr h
   ·simp at h
  ·obtain⟨e',h1,h2⟩:=TJ (L:=L) h;exact⟨e',List.mem_cons_of_mem _ h1,h2⟩
theorem TK {ops:Array Oper} {L:Nat→Bool} (hL:LM ops L):∀ (os:List Oper) (acc:List Nat),os=ops.toList.drop acc.length→(∀ i j,(acc.getD i 0).testBit j=true→L i=true→L j=true)→∀ i j,((masks acc os).getD i 0).testBit j=true→L i=true→L j=true
 | [],acc,_,h=>h
 | o::os,acc,hos,h=>by
  rw[masks]
  have hl:acc.length<ops.size:=by
   have:=congrArg List.length hos
   simp at this;omega
  have ho:ops[acc.length]? = some o:=by
   have:=congrArg (·[0]?) hos
   simp at this
   rw[Array.getElem?_eq_getElem hl] at this ⊢
   exact this.symm
  refine TK hL os _ ?_ ?_
  ·have:=congrArg List.tail hos
   simpa using this
  ·intro i j hb hi
   rcases Nat.lt_trichotomy i acc.length with hlt|rfl|hgt
   ·refine h i j ?_ hi
    simpa [List.getD,List.getElem?_append_left hlt] using hb
   ·have hb':(Eb acc o.after.toList).testBit j=true:=by simpa [List.getD] using hb
    obtain⟨e,he,hbi,h1⟩:=TJ (L:=L) hb'
    have hon:L e.on=true:=hL _ o ho hi e.on (by
     unfold zX
     rw[Array.any_eq_true']
     exact⟨e,by simpa using he,by simp[hbi]⟩)
    rcases h1 with rfl|h1
    ·exact hon
    ·exact h _ _ h1 hon
   ·have:(acc ++ [Eb acc o.after.toList])[i]? = none:=List.getElem?_eq_none (by simp;omega)
    simp[List.getD,this] at hb
def BH (M:List Nat) (i j:Nat):Bool:=if j<i then(M.getD i 0).testBit j else if i<j then(M.getD j 0).testBit i else true
def xI (ops:Array Oper) (j:Nat):Option Tmp:=(ops[j]?).bind (·.dst)
def CV (ops:Array Oper) (o:Oper):List Tmp :=
 o.dst.toList++(match o.guard with|some (j,_)=>(xI ops j).toList|none=>[])++o.op.operands.toList.filterMap fun | .tmp t=>some t|_=>none
def F3 (ops:Array Oper) (M:List Nat) (i:Nat) (u:List Tmp):Nat→List Oper→Bool
 | _,[]=>true
 | j,o::os=>(match o.dst with|some t => !u.contains t||BH M i j|none=>true)&&F3 ops M i u (j+1) os
def LP (ops:Array Oper) (M:List Nat):Nat→List Oper→Bool
 | _,[]=>true
 | i,o::os=>F3 ops M i (CV ops o) 0 ops.toList&&LP ops M (i+1) os
def dstsLt (nt:Nat):List Oper→Bool
 | []=>true
 | o::os=>(match o.dst with|some t=>Nat.blt t nt|none=>true)&&dstsLt nt os
def drawOK (ops:Array Oper) (nt:Nat):Bool:=Bz 0 ops.toList&&dstsLt nt ops.toList&&LP ops (masks [] ops.toList) 0 ops.toList
def LQ (M:List Nat) (Nb i:Nat):List Nat→Bool
 | []=>true
 | b::bs=>(Nat.blt b Nb||(M.getD i 0).testBit ((b-Nb)/2))&&LQ M Nb i bs
def CW (M:List Nat) (x y:Nat×List Nat×Bool):Bool := !(x.2.2||y.2.2) || !(x.2.1.any fun b=>y.2.1.contains b)||BH M x.1 y.1
def CX (M:List Nat) (Nb:Nat):Tr→Bool
 | []=>true
 | x::l=>LQ M Nb x.1 x.2.1&&l.all (CW M x)&&CX M Nb l
def traceOK (ops:Array Oper) (Nb:Nat) (tr:Tr):Bool:=CX (masks [] ops.toList) Nb tr
theorem BI {nt:Nat} : ∀ {os:List Oper},dstsLt nt os=true→∀ o∈os,∀ t,o.dst=some t→t<nt
 | [],_,o,h=>by cases h
 | x::os,h,o,ho=>by
  simp only[dstsLt,Bool.and_eq_true] at h
  rcases List.mem_cons.1 ho with rfl|ho
  ·intro t ht;have:=h.1;rw[ht] at this;simpa using this
  ·exact BI h.2 o ho
theorem Ow {ops:Array Oper} {M:List Nat} {i:Nat} {u:List Tmp} : ∀ {os:List Oper} {k:Nat},F3 ops M i u k os=true→∀ m o t,os[m]? = some o→o.dst=some t→t∈u→BH M i (k+m)=true
 | [],k,_,m,o,t,h=>by simp at h
 | x::os,k,h,m,o,t,ho=>by
  simp only[F3,Bool.and_eq_true] at h
  intro ht hu
  cases m with
  | zero =>
   simp at ho;subst ho
   have:=h.1
   rw[ht] at this
   simp[hu] at this
   simpa using this
  | succ m=>have:=Ow h.2 m o t (by simpa using ho) ht hu;rwa [show k+1+m=k+(m+1) by omega] at this
theorem TM {ops:Array Oper} {M:List Nat} : ∀ {os:List Oper} {k:Nat},LP ops M k os=true→∀ m o,os[m]? = some o→F3 ops M (k+m) (CV ops o) 0 ops.toList=true
 | [],k,_,m,o,h=>by simp at h
 | x::os,k,h,m,o,ho=>by
  simp only[LP,Bool.and_eq_true] at h
  cases m with
  | zero=>simp at ho;subst ho;exact h.1
  | succ m=>have:=TM h.2 m o (by simpa using ho);rwa [show k+1+m=k+(m+1) by omega] at this
theorem TN {M:List Nat} {Nb i:Nat} : ∀ {bs:List Nat},LQ M Nb i bs=true→∀ b∈bs,b<Nb∨(M.getD i 0).testBit ((b-Nb)/2)=true
 | [],_,b,h=>by cases h
 | x::bs,h,b,hb=>by
  simp only[LQ,Bool.and_eq_true,Bool.or_eq_true] at h
  rcases List.mem_cons.1 hb with rfl|hb
  ·exact h.1.imp (by simp) id
  ·exact TN h.2 b hb
theorem ab5 {M:List Nat} {i j:Nat} (h:BH M i j=true):BH M j i=true:=by
 unfold BH at h ⊢
 rcases Nat.lt_trichotomy i j with h1|rfl|h1
 ·simp[h1,show ¬ j<i by omega] at h ⊢;exact h
 ·simp
 ·simp[h1,show ¬ i<j by omega] at h ⊢;exact h
theorem ab6 {M:List Nat} {x y:Nat×List Nat×Bool} (h:CW M x y=true):CW M y x=true:=by
 unfold CW at h ⊢
 simp only[Bool.or_eq_true,Bool.not_eq_true'] at h ⊢
 rcases h with(h|h)|h
 ·left;left;rw[Bool.or_comm];exact h
 ·left;right
  rw[List.any_eq_false] at h ⊢
  intro b hb hc
  have:=h b
  simp only[List.contains_iff_mem] at this hc
  exact this hc hb
 ·right;exact ab5 h
theorem TP {M:List Nat} {Nb:Nat} : ∀ {tr:Tr},CX M Nb tr=true→(∀ x∈tr,∀ b∈x.2.1,b<Nb∨(M.getD x.1 0).testBit ((b-Nb)/2)=true)∧∀ x∈tr,∀ y∈tr,x.1≠y.1→CW M x y=true
 | [],_=>⟨fun x h=>(by cases h),fun x h=>(by cases h)⟩
 | z::l,h=>by
  simp only[CX,Bool.and_eq_true] at h
  obtain⟨ih1,ih2⟩:=TP h.2
  have hall:=List.all_eq_true.1 h.1.2
  refine⟨fun x hx=>?_,fun x hx y hy hne=>?_⟩
  ·rcases List.mem_cons.1 hx with rfl|hx
   ·exact TN h.1.1
   ·exact ih1 x hx
  ·rcases List.mem_cons.1 hx with h1|h1<;>rcases List.mem_cons.1 hy with h2|h2
   ·exact absurd (by rw[h1,h2]) hne
   ·rw[h1];exact hall y h2
   ·rw[h2];exact ab6 (hall x h1)
   ·exact ih2 x h1 y h2 hne
structure xm where
 w:Bool
 r:AV
 tc:List Nat
 ef:List (Nat×AO)
def FT (dst:Nat→Option Tmp) (D:Nat→xm) (T:rT) (i:Nat):Nat→rT
 | 0=>T
 | m+1=>(FT dst D T i m).put (dst (i+m)) (D (i+m)).r
def FH (D:Nat→xm) (H:ry) (i:Nat):Nat→ry
 | 0=>H
 | m+1=>(FH D H i m).puts (D (i+m)).ef
theorem Ox {dst:Nat→Option Tmp} {D:Nat→xm} {T:rT} {i:Nat} : ∀ m,FT dst D T i (m+1)=FT dst D (T.put (dst i) (D i).r) (i+1) m
 | 0=>rfl
 | m+1=>by rw[FT,Ox m,FT];rw[show i+(m+1)=i+1+m by omega]
theorem Oy {D:Nat→xm} {H:ry} {i:Nat} : ∀ m,FH D H i (m+1)=FH D (H.puts (D i).ef) (i+1) m
 | 0=>rfl
 | m+1=>by rw[FH,Oy m,FH];rw[show i+(m+1)=i+1+m by omega]
theorem Oz {dst:Nat→Option Tmp} {D D':Nat→xm} {T:rT} {i:Nat} (h:∀ j,i≤j→D j=D' j):∀ m,FT dst D T i m=FT dst D' T i m
 | 0=>rfl
 | m+1=>by rw[FT,FT,Oz h m,h _ (by omega)]
theorem OA {D D':Nat→xm} {H:ry} {i:Nat} (h:∀ j,i≤j→D j=D' j):∀ m,FH D H i m=FH D' H i m
 | 0=>rfl
 | m+1=>by rw[FH,FH,OA h m,h _ (by omega)]
def OB (P:Program) (G:rP) (w0:World) (B0:sG) (ops:Array Oper) (Nb i:Nat) (T:rT) (H:ry) (d:xm):Prop :=
 ∃ o,ops[i]? = some o∧AR ops T o=some d.w∧(d.w=true→FV P G w0 B0 o T H d.tc (Nb+2*i) d.r d.ef)∧(d.w=false→d.r = .v undef∧d.tc = []∧d.ef = []) ∧
  (∀ b∈d.tc,H b≠none)∧(∀ x∈d.ef,x.1=Nb+2*i∨x.1=Nb+2*i+1∨x.1∈d.tc)
theorem ab7 {P:Program} {G:rP} {E:tC} (hE:BC P E) {w0:World} {B0:sG} {ops:Array Oper} {Nb:Nat} {K:rT→ry→Tr→Prop} :
  ∀ (os:List Oper) (i:Nat) (T:rT) (H:ry) (tr:Tr),os=ops.toList.drop i→i≤ops.size→uM P G E w0 B0 ops Nb i os T H tr K →
   ∃ D tr',(∀ m,i+m<ops.size→OB P G w0 B0 ops Nb (i+m) (FT (xI ops) D T i m) (FH D H i m) (D (i+m)))∧K (FT (xI ops) D T i (ops.size-i)) (FH D H i (ops.size-i)) tr'∧(∀ x∈tr,x∈tr') ∧
    ∀ m,i+m<ops.size→(D (i+m)).w=true→(i+m,(D (i+m)).tc,yC (D (i+m)).tc (D (i+m)).ef)∈tr':=by
 intro os
 induction os with
 | nil =>
  intro i T H tr hos hi hev
  have:ops.size-i=0:=by
   have:=congrArg List.length hos
   simp at this;omega
  refine⟨fun _=>⟨false,.v undef,[],[]⟩,tr,fun m hm=>by omega,?_,fun x hx=>hx,fun m hm=>by omega⟩
  rw[this];exact hev
 | cons o os ih =>
  intro i T H tr hos hi hev
  have hlt:i<ops.size:=by
   have:=congrArg List.length hos
   simp at this;omega
  have ho:ops[i]? = some o:=by
   have:=congrArg (·[0]?) hos
   simp at this
   rw[Array.getElem?_eq_getElem hlt] at this ⊢
   exact this.symm
  have hos':os=ops.toList.drop (i+1):=by
   have:=congrArg List.tail hos
   simpa using this
  have hdst:xI ops i=o.dst:=by simp[xI,ho]
  have key:∀ (d:xm) (tr1:Tr),OB P G w0 B0 ops Nb i T H d→(∀ x∈tr,x∈tr1)→(d.w=true→(i,d.tc,yC d.tc d.ef)∈tr1)→uM P G E w0 B0 ops Nb (i+1) os (T.put o.dst d.r) (H.puts d.ef) tr1 K →
    ∃ D tr',(∀ m,i+m<ops.size→OB P G w0 B0 ops Nb (i+m) (FT (xI ops) D T i m) (FH D H i m) (D (i+m)))∧K (FT (xI ops) D T i (ops.size-i)) (FH D H i (ops.size-i)) tr'∧(∀ x∈tr,x∈tr') ∧
     ∀ m,i+m<ops.size→(D (i+m)).w=true→(i+m,(D (i+m)).tc,yC (D (i+m)).tc (D (i+m)).ef)∈tr':=by
   intro d tr1 hd htr hmem hnx
   obtain⟨D',tr',h1,h2,h3,h4⟩:=ih (i+1) _ _ _ hos' (by omega) hnx
   let D:Nat→xm:=fun j=>if j=i then d else D' j
   have hDi:D i=d:=by simp[D]
   have hD:∀ j,i+1≤j→D j=D' j:=fun j hj=>by simp[D,show j≠i by omega]
   refine⟨D,tr',?_,?_,fun x hx=>h3 x (htr x hx),?_⟩
   ·intro m hm
    cases m with
    | zero=>simpa [FT,FH,hDi] using hd
    | succ m =>
     rw[Ox,Oy,hDi,hdst,Oz hD,OA hD,hD _ (by omega),show i+(m+1)=i+1+m by omega]
     exact h1 m (by omega)
   ·have hn:ops.size-i=(ops.size-(i+1))+1:=by omega
    rw[hn,Ox,Oy,hDi,hdst,Oz hD,OA hD]
    exact h2
   ·intro m hm hw
    cases m with
    | zero =>
     rw[Nat.add_zero] at hw ⊢
     rw[hDi] at hw ⊢
     exact h3 _ (hmem hw)
    | succ m =>
     rw[hD _ (by omega),show i+(m+1)=i+1+m by omega] at hw ⊢
     exact h4 m (by omega) hw
  simp only[uM] at hev
  split at hev
  ·exact hev.elim
  ·rename_i q hw
   cases q with
   | false =>
    rw[Ea] at hev
    exact key ⟨false,.v undef,[],[]⟩ tr ⟨o,ho,hw,fun h=>(by cases h),fun _=>⟨rfl,rfl,rfl⟩,fun b hb=>(by cases hb),fun x hx=>(by cases hx)⟩ (fun x hx=>hx) (fun h=>(by cases h)) hev
   | true =>
    rw[Aa] at hev
    have go:∀ r tc ef,FV P G w0 B0 o T H tc (Nb+2*i) r ef→(∀ b∈tc,H b≠none)→(∀ x∈ef,x.1=Nb+2*i∨x.1=Nb+2*i+1∨x.1∈tc)→uM P G E w0 B0 ops Nb (i+1) os (T.put o.dst r) (H.puts ef) ((i,tc,yC tc ef)::tr) K→_ :=
     fun r tc ef h0 h1 h2 h3=>key ⟨true,r,tc,ef⟩ ((i,tc,yC tc ef)::tr) ⟨o,ho,hw,fun _=>h0,fun h=>(by cases h),h1,h2⟩ (fun x hx=>List.mem_cons_of_mem _ hx) (fun _=>List.mem_cons_self) h3
    split at hev
    ·rename_i c x y hp
     have hpk:=TH (P:=P) (G:=G) (E:=E) hp H (Nb+2*i)
     cases c with
     | true =>
      rw[Aa] at hev
      split at hev
      ·rename_i r
       exact go r [] [] (FW hE (hpk.1 r rfl rfl) w0 B0) (fun b hb=>(by cases hb)) (fun x hx=>(by cases hx)) hev
      ·exact hev.elim
     | false =>
      rw[Ea] at hev
      split at hev
      ·rename_i r
       exact go r [] [] (FW hE (hpk.2 r rfl rfl) w0 B0) (fun b hb=>(by cases hb)) (fun x hx=>(by cases hx)) hev
      ·exact hev.elim
    ·split at hev
     ·rename_i r tc ef hn
      obtain⟨h1,h2⟩:=TI hn
      exact go r tc ef (FW hE hn w0 B0) h1 h2 hev
     ·split at hev
      ·rename_i g args hc
       obtain⟨r,tc,ef,h0,h1,h2,h3⟩:=hev
       exact go r tc ef (TF hc h0) h1 h2 h3
      ·obtain⟨r,tc,ef,h0,h1,h2,h3⟩:=hev
       exact go r tc ef h0 h1 h2 h3
def TL (dst:Nat→Option Tmp) (D:Nat→xm) (T:rT) (L:Nat→Bool):Nat→rT
 | 0=>T
 | m+1=>if L m then(TL dst D T L m).put (dst m) (D m).r else TL dst D T L m
def HL (D:Nat→xm) (H:ry) (L:Nat→Bool):Nat→ry
 | 0=>H
 | m+1=>if L m then(HL D H L m).puts (D m).ef else HL D H L m
theorem rT.put_other {T:rT} {d:Option Tmp} {x:AV} {t:Nat} (h:d≠some t):(T.put d x) t=T t:=by
 cases d with
 | none=>rfl
 | some d=>exact rT.put_ne _ _ _ (fun e=>h (by rw[e]))
theorem LU {dst:Nat→Option Tmp} {D:Nat→xm} {T:rT} {L L':Nat→Bool} {t:Nat} : ∀ n,(∀ j,j<n→dst j=some t→L j=L' j)→TL dst D T L n t=TL dst D T L' n t
 | 0,_=>rfl
 | n+1,h=>by
  have ih:=LU (D:=D) (T:=T) n (fun j hj=>h j (by omega))
  simp only[TL]
  by_cases hd:dst n=some t
  ·rw[h n (by omega) hd]
   split
   ·rw[hd,rT.put_same,rT.put_same]
   ·exact ih
  ·split<;>split<;>simp only[rT.put_other hd,ih]
theorem OC {dst:Nat→Option Tmp} {D:Nat→xm} {T:rT} {i:Nat} : ∀ n,TL dst D T (fun j=>decide (j<i)) n=FT dst D T 0 (min i n)
 | 0=>by simp[TL,FT]
 | n+1=>by
  simp only[TL,OC n]
  by_cases h:n<i
  ·simp only[h,decide_true,if_true]
   rw[show min i (n+1)=min i n+1 by omega,FT,show min i n=n by omega,Nat.zero_add]
  ·simp only[h,decide_false,Bool.false_eq_true,if_false]
   rw[show min i (n+1)=min i n by omega]
theorem F4 {D:Nat→xm} {H:ry} {L L':Nat→Bool} {b:Nat} : ∀ n,(∀ j,j<n→(∃ x∈(D j).ef,x.1=b)→L j=L' j)→HL D H L n b=HL D H L' n b
 | 0,_=>rfl
 | n+1,h=>by
  have ih:=F4 (D:=D) (H:=H) n (fun j hj=>h j (by omega))
  simp only[HL]
  by_cases hd:∃ x∈(D n).ef,x.1=b
  ·rw[h n (by omega) hd]
   split
   ·exact ry.puts_congr ih
   ·exact ih
  ·have hn:∀ x∈(D n).ef,x.1≠b:=fun x hx e=>hd ⟨x,hx,e⟩
   split<;>split<;>simp only[ry.puts_ne hn,ih]
theorem OD {D:Nat→xm} {H:ry} {i:Nat} : ∀ n,HL D H (fun j=>decide (j<i)) n=FH D H 0 (min i n)
 | 0=>by simp[HL,FH]
 | n+1=>by
  simp only[HL,OD n]
  by_cases h:n<i
  ·simp only[h,decide_true,if_true]
   rw[show min i (n+1)=min i n+1 by omega,FH,show min i n=n by omega,Nat.zero_add]
  ·simp only[h,decide_false,Bool.false_eq_true,if_false]
   rw[show min i (n+1)=min i n by omega]
theorem TQ {dst:Nat→Option Tmp} {D:Nat→xm} {T:rT} {L:Nat→Bool} {i t:Nat} : ∀ n,i<n→L i=true→dst i=some t→(∀ j,i<j→j<n→dst j=some t→L j=false)→TL dst D T L n t=some (D i).r
 | 0,h,_,_,_=>by omega
 | n+1,h,hL,hd,hj=>by
  simp only[TL]
  rcases Nat.lt_or_ge i n with hlt|hge
  ·have ih:=TQ (D:=D) (T:=T) n hlt hL hd (fun j h1 h2=>hj j h1 (by omega))
   split
   ·rename_i hLn
    have:dst n≠some t:=fun e=>by rw[hj n hlt (by omega) e] at hLn;cases hLn
    rw[rT.put_other this];exact ih
   ·exact ih
  ·obtain rfl:i=n:=by omega
   rw[hL,if_pos rfl,hd,rT.put_same]
theorem TR {D:Nat→xm} {H:ry} {L L':Nat→Bool} {i b:Nat} (hL:L i=false) (hL':L' i=true) (hag:∀ j,j≠i→L' j=L j):∀ n,i<n→(∀ j,i<j→j<n→L j=true→∀ x∈(D j).ef,x.1≠b)→HL D H L' n b=((HL D H L n).puts (D i).ef) b
 | 0,h,_=>by omega
 | n+1,h,hj=>by
  simp only[HL]
  rcases Nat.lt_or_ge i n with hlt|hge
  ·have ih:=TR (D:=D) (H:=H) hL hL' hag n hlt (fun j h1 h2=>hj j h1 (by omega))
   rw[hag n (by omega)]
   split
   ·rename_i hLn
    have hne:=hj n hlt (by omega) hLn
    rw[ry.puts_ne hne,ih]
    exact ry.puts_congr (ry.puts_ne hne).symm
   ·exact ih
  ·obtain rfl:i=n:=by omega
   rw[hL',hL,if_pos rfl]
   simp only[Bool.false_eq_true,if_false]
   apply ry.puts_congr
   exact F4 i (fun j h1 _=>hag j (by omega))
open Go.RowKit
theorem TS {dst:Nat→Option Tmp} {D:Nat→xm} {T:rT} : ∀ n,TL dst D T (fun _=>false) n=T
 | 0=>rfl
 | n+1=>by simp[TL,TS n]
theorem OE {D:Nat→xm} {H:ry} : ∀ n,HL D H (fun _=>false) n=H
 | 0=>rfl
 | n+1=>by simp[HL,OE n]
theorem TU {P:Program} {ops:Array Oper} {Q:Exit→Act→World→Prop} {Inv:(Nat→Bool)→Act→World→Prop} : ∀ (l:List Oper) (k:Nat),(∀ i o,l[i]? = some o→Ob P ops Q Inv (k+i) o)→CE P ops Q Inv k l
 | [],_,_=>trivial
 | o::l,k,h=>⟨h 0 o rfl,TU l (k+1) (fun i x hx=>by have:=h (i+1) x (by simpa using hx);rwa [show k+1+i=k+(i+1) by omega])⟩
theorem ab8 {ops:Array Oper} {T T':rT} {o:Oper} (h:∀ t∈CV ops o,T' t=T t):AR ops T' o=AR ops T o:=by
 unfold AR
 split
 ·rfl
 ·rename_i j want hg
  cases hd:(ops[j]?).bind (·.dst) with
  | none=>rfl
  | some d =>
   simp only
   rw[h d (by unfold CV;simp[hg,xI,hd])]
theorem ab9 {P:Program} {G:rP} {E:tC} (hE:BC P E) (hm:P.follows .mixedOrders=true) {w0:World} {B0:sG} {ops:Array Oper} {Nb nt id:Nat} {Q:Exit→Act→World→Prop} {K:rT→ry→Prop} {ds:List Deferred}
  (hst:drawOK ops nt=true) {T0:rT} {H0:ry} {e:Env} {a:Act} {w:World} (hev:uM P G E w0 B0 ops Nb 0 ops.toList T0 H0 [] (fun T H tr=>traceOK ops Nb tr=true∧K T H))
  (R:rU G w0 B0 e H0 w) (hT:wu nt e T0 a) (hI:vG T0 H0) (hB:yQ H0 Nb) (hdf:a.defers=ds)
  (hQ:∀ T H e a w,K T H→rU G w0 B0 e H w→wu nt e T a→vG T H→yQ H (Nb+2*ops.size)→a.defers=ds→Q .normal a w):(Code.region id ops true).wp P Q a w:=by
 simp only[drawOK,Bool.and_eq_true] at hst
 obtain⟨⟨htopo,hdl⟩,htmp⟩:=hst
 obtain⟨D,tr,hSt,⟨htr,hK⟩,-,hmem⟩:=ab7 hE ops.toList 0 T0 H0 [] (by simp) (Nat.zero_le _) hev
 simp only[Nat.zero_add,Nat.sub_zero] at hSt hK hmem
 unfold traceOK at htr
 generalize hM:masks [] ops.toList=M at htr htmp
 obtain⟨htr1,htr2⟩:=TP htr
 have hmask:∀ L,LM ops L→∀ i j,(M.getD i 0).testBit j=true→L i=true→L j=true:=fun L hL=>by
  rw[← hM];exact TK hL ops.toList [] (by simp) (fun i j hb=>by simp at hb)
 have hdom:∀ m,m≤ops.size→yQ (FH D H0 0 m) (Nb+2*m):=by
  intro m
  induction m with
  | zero=>intro _;simpa [FH] using hB
  | succ m ih =>
   intro hmn
   obtain⟨o,ho,_,_,_,h1,h2⟩:=hSt m (by omega)
   have:=(ih (by omega)).puts h1 h2
   rw[FH,Nat.zero_add,show Nb+2*(m+1)=Nb+2*m+2 by omega]
   exact this
 have hwt:∀ i,i<ops.size→∀ b∈(D i).tc,(D i).w=true:=fun i hi b hb=>by
  obtain⟨o,ho,_,_,h0,_,_⟩:=hSt i hi
  cases hw:(D i).w with
  | true=>rfl
  | false=>rw[(h0 hw).2.1] at hb;cases hb
 have hmut:∀ i j b,i<ops.size→j<ops.size→i≠j→b∈(D i).tc→b∈(D j).tc→(∃ x∈(D j).ef,x.1=b)→BH M i j=true:=by
  intro i j b hi hj hne hbi hbj ⟨x,hx,hxb⟩
  have h:=htr2 _ (hmem i hi (hwt i hi b hbi)) _ (hmem j hj (hwt j hj b hbj)) hne
  unfold CW at h
  simp only[Bool.or_eq_true,Bool.not_eq_true'] at h
  rcases h with(h|h)|h
  ·exfalso
   rw[Bool.or_eq_false_iff] at h
   have h2:=h.2
   unfold yC at h2
   rw[List.any_eq_false] at h2
   exact h2 x hx (by simp[hxb,hbj])
  ·exfalso
   rw[List.any_eq_false] at h
   exact h b hbi (by simp[hbj])
  ·exact h
 let TT:(Nat→Bool)→rT:=fun L=>TL (xI ops) D T0 L ops.size
 let HH:(Nat→Bool)→ry:=fun L=>HL D H0 L ops.size
 refine abo (Inv:=fun L a w=>LM ops L∧∃ e,rU G w0 B0 e (HH L) w∧wu nt e (TT L) a∧vG (TT L) (HH L)∧a.defers=ds) hm htopo ?_ ?_ ?_
 ·refine⟨fun k x _ h=>(by cases h),e,?_⟩
  simp only[TT,HH,TS,OE]
  exact⟨R.drew,hT,hI,hdf⟩
 ·refine TU _ 0 ?_
  intro i o hio
  rw[Nat.zero_add]
  have ho:ops[i]? = some o:=by simpa using hio
  have hi:i<ops.size:=(Array.getElem?_eq_some_iff.1 ho).1
  rintro L a w K' ⟨hcl,e,R,hT,hI,hdf⟩ hLi hdeps hout hKn
  obtain⟨o',ho',hwa,hop,hno,htc,hef⟩:=hSt i hi
  obtain rfl:o=o':=Option.some.inj (ho.symm.trans ho')
  have hdst:xI ops i=o.dst:=by simp[xI,ho]
  have hne:∀ j,j≠i→upd L i j=L j:=fun j hj=>by
   unfold upd
   cases hb:Nat.beq j i with
   | true=>exact absurd (Nat.eq_of_beq_eq_true hb) hj
   | false=>rfl
  have hcl':LM ops (upd L i):=by
   intro k x hx hk j hj
   by_cases hji:j=i
   ·rw[hji];exact Lp L i
   ·rw[hne j hji]
    by_cases hki:k=i
    ·rw[hki] at hx
     obtain rfl:o=x:=Option.some.inj (ho.symm.trans hx)
     exact hdeps j hj
    ·rw[hne k hki] at hk;exact hcl k x hx hk j hj
  have hpred:∀ j,j≠i→(M.getD i 0).testBit j=true→L j=true:=fun j hj hb=>by
   have:=hmask _ hcl' i j hb (Lp L i)
   rwa [hne j hj] at this
  have hsucc:∀ j,(M.getD j 0).testBit i=true→L j=false:=fun j hb=>by
   cases hLj:L j with
   | false=>rfl
   | true=>rw[hmask _ hcl j i hb hLj] at hLi;cases hLi
  have hord:∀ j,j≠i→BH M i j=true→L j=decide (j<i):=by
   intro j hj h
   unfold BH at h
   rcases Nat.lt_trichotomy j i with h1|h1|h1
   ·rw[if_pos h1] at h;rw[hpred j hj h];simp[h1]
   ·exact absurd h1 hj
   ·rw[if_neg (by omega),if_pos h1] at h;rw[hsucc j h];simp;omega
  have htr:F3 ops M i (CV ops o) 0 ops.toList=true:=by
   have:=TM htmp i o hio
   rwa [Nat.zero_add] at this
  have hTA:∀ t∈CV ops o,TT L t=FT (xI ops) D T0 0 i t:=by
   intro t ht
   have:TT L t=TL (xI ops) D T0 (fun j=>decide (j<i)) ops.size t:=by
    refine LU ops.size (fun j hj hd=>?_)
    by_cases hji:j=i
    ·rw[hji,hLi];simp
    ·refine hord j hji ?_
     have hj':ops.toList[j]? = some ops[j]:=by simp[hj]
     have hdj:(ops[j]).dst=some t:=by simpa [xI,hj] using hd
     have:=Ow htr j _ t hj' hdj ht
     rwa [Nat.zero_add] at this
   rw[this,OC,Nat.min_eq_left (by omega)]
  have hHA:∀ b∈(D i).tc,HH L b=FH D H0 0 i b:=by
   intro b hb
   have:HH L b=HL D H0 (fun j=>decide (j<i)) ops.size b:=by
    refine F4 ops.size (fun j hj hx=>?_)
    by_cases hji:j=i
    ·rw[hji,hLi];simp
    ·obtain⟨o2,ho2,_,_,_,_,hef2⟩:=hSt j hj
     obtain⟨x,hxm,hxb⟩:=hx
     have hfresh:(b=Nb+2*j∨b=Nb+2*j+1)→L j=decide (j<i):=by
      intro hbj
      have hlt:b<Nb+2*i:=by
       apply Classical.byContradiction
       intro hge
       exact htc b hb (hdom i (by omega) b (by omega))
      have hji':j<i:=by omega
      rcases htr1 _ (hmem i hi (hwt i hi b hb)) b hb with h1|h1
      ·omega
      ·rw[show(b-Nb)/2=j by omega] at h1
       rw[hpred j hji h1];simp[hji']
     rcases hef2 x hxm with h1|h1|h1
     ·exact hfresh (.inl (by omega))
     ·exact hfresh (.inr (by omega))
     ·rw[hxb] at h1
      exact hord j hji (hmut i j b hi hj (fun e=>hji e.symm) hb h1 ⟨x,hxm,hxb⟩)
   rw[this,OD,Nat.min_eq_left (by omega)]
  have hfr:∀ b,(b=Nb+2*i∨b=Nb+2*i+1)→HH L b=none:=by
   intro b hb
   have:HH L b=HL D H0 (fun _=>false) ops.size b:=by
    refine F4 ops.size (fun j hj hx=>?_)
    by_cases hji:j=i
    ·rw[hji];exact hLi
    ·obtain⟨o2,ho2,_,_,_,_,hef2⟩:=hSt j hj
     obtain⟨x,hxm,hxb⟩:=hx
     rcases hef2 x hxm with h1|h1|h1
     ·omega
     ·omega
     ·rw[hxb] at h1
      rcases htr1 _ (hmem j hj (hwt j hj b h1)) b h1 with h2|h2
      ·omega
      ·rw[show(b-Nb)/2=i by omega] at h2;exact hsucc j h2
   rw[this,OE];exact hB b (by omega)
  have hT':TT (upd L i)=(TT L).put o.dst (D i).r:=by
   funext t
   by_cases hd:o.dst=some t
   ·rw[hd,rT.put_same]
    refine TQ ops.size hi (Lp L i) (by rw[hdst];exact hd) (fun j h1 h2 hdj=>?_)
    rw[hne j (by omega)]
    have hj':ops.toList[j]? = some ops[j]:=by simp[h2]
    have hdj':(ops[j]).dst=some t:=by simpa [xI,h2] using hdj
    have:=Ow htr j _ t hj' hdj' (by unfold CV;simp[hd])
    rw[Nat.zero_add] at this
    rw[hord j (by omega) this];simp;omega
   ·rw[rT.put_other hd]
    refine LU ops.size (fun j hj hdj=>?_)
    have:j≠i:=by rintro rfl;rw[hdst] at hdj;exact hd hdj
    exact hne j this
  have hH':HH (upd L i)=(HH L).puts (D i).ef:=by
   funext b
   by_cases hk:∃ y∈(D i).ef,y.1=b
   ·obtain⟨y,hy,hyb⟩:=hk
    refine TR hLi (Lp L i) hne ops.size hi (fun j h1 h2 hLj x hx hxb=>?_)
    obtain⟨o2,ho2,_,_,_,htc2,hef2⟩:=hSt j h2
    have hno:L j=false→False:=fun h=>by rw[h] at hLj;cases hLj
    rcases hef y hy with h3|h3|h3<;>rcases hef2 x hx with h4|h4|h4
    ·omega
    ·omega
    ·rw[hxb] at h4
     rcases htr1 _ (hmem j h2 (hwt j h2 b h4)) b h4 with h5|h5
     ·omega
     ·rw[show(b-Nb)/2=i by omega] at h5;exact hno (hsucc j h5)
    ·omega
    ·omega
    ·rw[hxb] at h4
     rcases htr1 _ (hmem j h2 (hwt j h2 b h4)) b h4 with h5|h5
     ·omega
     ·rw[show(b-Nb)/2=i by omega] at h5;exact hno (hsucc j h5)
    ·rw[hyb] at h3;exact htc b h3 (hdom i (by omega) b (by omega))
    ·rw[hyb] at h3;exact htc b h3 (hdom i (by omega) b (by omega))
    ·rw[hyb] at h3;rw[hxb] at h4
     have h5:=hord j (by omega) (hmut i j b hi h2 (by omega) h3 h4 ⟨x,hx,hxb⟩)
     rw[h5] at hLj;simp at hLj;omega
   ·rw[ry.puts_ne (fun y hy hyb=>hk ⟨y,hy,hyb⟩)]
    refine F4 ops.size (fun j hj hx=>hne j ?_)
    rintro rfl;exact hk hx
  have hdo:∀ t,o.dst=some t→t<nt:=BI hdl o (Array.mem_toList_iff.2 (Array.mem_of_getElem? ho))
  have hwA:AR ops (TT L) o=some (D i).w:=by rw[ab8 hTA];exact hwa
  rw[TG hwA hT]
  cases hw:(D i).w with
  | false =>
   obtain⟨hr,-,hef0⟩:=hno hw
   simp only[Bool.false_eq_true,if_false]
   refine hKn _ _ ⟨hcl',e,?_⟩
   rw[hT',hH',hr,hef0]
   exact⟨R,hT.put hdo (.v undef),hI.put o.dst (fun c hc=>by simp[AV.refs] at hc),by rw[Act.put_defers];exact hdf⟩
  | true =>
   simp only[if_true]
   refine hop hw nt (TT L) (HH L) e a w K' Q ?_ hHA (hfr _ (.inl rfl)) (hfr _ (.inr rfl)) hT hI R ?_
   ·intro x hx
    cases x with
    | tmp t=>exact hTA t (by unfold CV;simp;right;right;exact⟨_,hx,rfl⟩)
    | const v=>rfl
    | global g=>rfl
    | func f=>rfl
   ·intro e' w' R' hon hrf
    refine hKn _ _ ⟨hcl',e',?_⟩
    rw[hT',hH']
    exact⟨R',(hT.on hI hon).put hdo _,hI.op_put o.dst hrf,by rw[Act.put_defers];exact hdf⟩
 ·rintro L a w ⟨-,e,R,hT,hI,hdf⟩ hall
  have h1:TT L=FT (xI ops) D T0 0 ops.size:=by
   funext t
   have:TT L t=TL (xI ops) D T0 (fun j=>decide (j<ops.size)) ops.size t:=LU ops.size (fun j hj _=>by rw[hall j hj];simp[hj])
   rw[this,OC,Nat.min_self]
  have h2:HH L=FH D H0 0 ops.size:=by
   funext b
   have:HH L b=HL D H0 (fun j=>decide (j<ops.size)) ops.size b:=F4 ops.size (fun j hj _=>by rw[hall j hj];simp[hj])
   rw[this,OD,Nat.min_self]
  rw[h1,h2] at hI
  rw[h1] at hT
  rw[h2] at R
  exact hQ _ _ e a w hK R hT hI (hdom ops.size (Nat.le_refl _)) hdf
open Go.RowKit
structure Cx where
 P:Program
 G:rP
 E:tC
 w0:World
 B0:sG
 nt:Nat
abbrev yD:=Exit→Nat→rT→ry→Prop
def OG (C:Cx) (Q:yD):Exit→Act→World→Prop:=fun x a w=>∃ N T H e,Q x N T H∧rU C.G C.w0 C.B0 e H w∧wu C.nt e T a∧vG T H∧yQ H N∧a.defers = []
def AW (C:Cx) (c:Code) (Q:yD) (N:Nat) (T:rT) (H:ry):Prop :=
 ∀ e a w,rU C.G C.w0 C.B0 e H w→wu C.nt e T a→vG T H→yQ H N→a.defers = []→c.wp C.P (OG C Q) a w
section
variable {C:Cx} {Q:yD} {N:Nat} {T:rT} {H:ry}
theorem AW.mono {c:Code} {Q':yD} (h:AW C c Q N T H) (hq:∀ x N T H,Q x N T H→Q' x N T H):AW C c Q' N T H :=
 fun e a w R hT hI hB hd=>wp_mono (h e a w R hT hI hB hd) fun _ _ _ ⟨N,T,H,e,h1,h2⟩=>⟨N,T,H,e,hq _ _ _ _ h1,h2⟩
theorem OH (h:Q .normal N T H):AW C .skip Q N T H:=fun e a w R hT hI hB hd=>wp_skip ⟨N,T,H,e,h,R,hT,hI,hB,hd⟩
theorem OI {l:Nat} (h:Q .normal N T H):AW C (.label l) Q N T H:=fun e a w R hT hI hB hd=>wp_label ⟨N,T,H,e,h,R,hT,hI,hB,hd⟩
theorem OJ {id:Nat} (h:Q (.exit id) N T H):AW C (.exit id) Q N T H:=fun e a w R hT hI hB hd=>wp_exit ⟨N,T,H,e,h,R,hT,hI,hB,hd⟩
theorem OL (h:Q .ret N T H):AW C .ret Q N T H:=fun e a w R hT hI hB hd=>wp_ret ⟨N,T,H,e,h,R,hT,hI,hB,hd⟩
def F5 (K:Nat→rT→ry→Prop) (Q:yD):yD
 | .normal,N,T,H=>K N T H
 | x,N,T,H=>Q x N T H
theorem F6 {x y:Code} (h:AW C x (F5 (AW C y Q) Q) N T H):AW C (.seq x y) Q N T H:=fun e a w R hT hI hB hd =>
 wp_seq (wp_mono (h e a w R hT hI hB hd) fun ex a w ⟨N,T,H,e,h1,R,hT,hI,hB,hd⟩=>by
  cases ex with
  | normal=>exact h1 e a w R hT hI hB hd
  | _=>exact⟨N,T,H,e,h1,R,hT,hI,hB,hd⟩)
theorem TV {c:Operand} {x y:Code} {q:Bool} (hc:uU T c=some (.v (.bool q))) (ht:q=true→AW C x Q N T H) (hf:q=false→AW C y Q N T H):AW C (.cond c x y) Q N T H:=fun e a w R hT hI hB hd =>
 wp_cond_split (hT.eval hc) (fun h=>ht h e a w R hT hI hB hd) (fun h=>hf h e a w R hT hI hB hd)
theorem OM {c:Operand} {x y:Code} (hc:uU T c=some (.v (.bool true))) (h:AW C x Q N T H):AW C (.cond c x y) Q N T H:=TV hc (fun _=>h) (fun h=>(by cases h))
theorem OO {c:Operand} {x y:Code} (hc:uU T c=some (.v (.bool false))) (h:AW C y Q N T H):AW C (.cond c x y) Q N T H:=TV hc (fun h=>(by cases h)) (fun _=>h)
def Jy (id:Nat) (Q:yD):yD
 | .exit id',N,T,H=>if id'=id then Q .normal N T H else Q (.exit id') N T H
 | x,N,T,H=>Q x N T H
theorem OP {id:Nat} {c:Code} (h:AW C c (Jy id Q) N T H):AW C (.block id c) Q N T H:=fun e a w R hT hI hB hd =>
 wp_block (wp_mono (h e a w R hT hI hB hd) fun ex a w ⟨N,T,H,e,h1,h2⟩=>by
  cases ex with
  | exit id' =>
   simp only[Jy] at h1
   simp only[Exit.inBlock]
   split
   ·rename_i hid;rw[if_pos hid] at h1;exact⟨N,T,H,e,h1,h2⟩
   ·rename_i hid;rw[if_neg hid] at h1;exact⟨N,T,H,e,h1,h2⟩
  | _=>exact⟨N,T,H,e,h1,h2⟩)
theorem OQ {p:Nat→Prop} (h:∃ m,p m):∃ m,p m∧∀ k,p k→m≤k:=by
 obtain⟨m,hm⟩:=h
 induction m using Nat.strongRecOn with
 | _ m ih =>
  by_cases hk:∃ k,k<m∧p k
  ·obtain⟨k,h1,h2⟩:=hk;exact ih k h1 h2
  ·exact⟨m,hm,fun k hp=>Nat.le_of_not_lt fun hl=>hk ⟨k,hl,hp⟩⟩
open Classical in
theorem aca {c:Code} (I:Nat→Nat→rT→ry→Prop) {m:Nat} (h0:I m N T H) (round:∀ m N T H,I m N T H→AW C c (F5 (fun N T H=>∃ m',m'<m∧I m' N T H) Q) N T H):AW C (.loop c) Q N T H:=by
 intro e a w R hT hI hB hd
 let J:Act→World→Nat→Prop:=fun a w m=>∃ N T H e,I m N T H∧rU C.G C.w0 C.B0 e H w∧wu C.nt e T a∧vG T H∧yQ H N∧a.defers = []
 refine wp_loop (fun a w=>∃ m,J a w m) (fun a w=>if h:∃ m,J a w m then Classical.choose (OQ h) else 0) ⟨m,N,T,H,e,h0,R,hT,hI,hB,hd⟩ ?_
 intro a w hJ
 have hf:=(Classical.choose_spec (OQ hJ)).1
 obtain⟨N,T,H,e,h1,R,hT,hI,hB,hd⟩:=hf
 refine wp_mono (round _ N T H h1 e a w R hT hI hB hd) ?_
 intro ex a' w' ⟨N',T',H',e',h2,R',hT',hI',hB',hd'⟩
 cases ex with
 | normal =>
  obtain⟨m',hm',h3⟩:=h2
  have hJ':J a' w' m':=⟨N',T',H',e',h3,R',hT',hI',hB',hd'⟩
  refine⟨⟨m',hJ'⟩,?_⟩
  have h4:∃ m,J a' w' m:=⟨m',hJ'⟩
  simp only[dif_pos h4,dif_pos hJ]
  exact Nat.lt_of_le_of_lt ((Classical.choose_spec (OQ h4)).2 _ hJ') hm'
 | _=>exact⟨N',T',H',e',h2,R',hT',hI',hB',hd'⟩
theorem OT {c:Code} (h:AW C c Q N T H) (hg:∀ l N T H,¬ Q (.goto l) N T H):AW C (.scope c) Q N T H:=fun e a w R hT hI hB hd =>
 wp_scope_straight (wp_mono (h e a w R hT hI hB hd) fun ex a w h=>by
  cases ex with
  | goto l=>obtain⟨N,T,H,e,h1,_⟩:=h;exact absurd h1 (hg l N T H)
  | _=>exact h)
theorem OU {id:Nat} {ops:Array Oper} (hE:BC C.P C.E) (hd:dstsLt C.nt ops.toList=true) (h:uM C.P C.G C.E C.w0 C.B0 ops N 0 ops.toList T H [] (fun T H _=>Q .normal (N+2*ops.size) T H)):AW C (.region id ops false) Q N T H:=by
 intro e a w R hT hI hB hdf
 refine wp_region ?_
 have:=ab4 (Q:=OG C Q) (ds:=[]) (nt:=C.nt) hE (BI hd) (fun T H tr e a w hK R hT hI hB hdf=>⟨_,T,H,e,hK,R,hT,hI,hB,hdf⟩) ops.toList 0 T H [] e a w (by simp) (Nat.zero_le _) h R hT hI hB hdf
 rwa [Nat.sub_zero,← List.range_eq_range'] at this
theorem OV {id:Nat} {ops:Array Oper} (hE:BC C.P C.E) (hm:C.P.follows .mixedOrders=true) (hd:drawOK ops C.nt=true)
  (h:uM C.P C.G C.E C.w0 C.B0 ops N 0 ops.toList T H [] (fun T H tr=>traceOK ops N tr=true∧Q .normal (N+2*ops.size) T H)):AW C (.region id ops true) Q N T H:=by
 intro e a w R hT hI hB hdf
 exact ab9 (Q:=OG C Q) (ds:=[]) hE hm hd h R hT hI hB hdf (fun T H e a w hK R hT hI hB hdf=>⟨_,T,H,e,hK,R,hT,hI,hB,hdf⟩)
end
def yE (P:Program) (G:rP) (T:rT) (H:ry):List ResultVar→Option (List AV)
 | []=>some []
 | .tmp t::l=>match T t,yE P G T H l with
  | some x,some r=>some (x::r)
  | _,_=>none
 | .cell a t::l=>match T a with
  | some (.loc b o)=>match xG P G t H (.loc b o),yE P G T H l with
   | some (x,_,_),some r=>some (x::r)
   | _,_=>none
  | _=>none
def Ac:List AV→AV
 | [x]=>x
 | l=>xx l
def Jz (tmps:Array Value):ResultVar→Sem Value
 | .tmp t=>pure (tmps.getD t undef)
 | .cell x t=>do loadVar t (← asAddr (tmps.getD x undef))
theorem OW {P:Program} {G:rP} {T:rT} {H:ry} {w0:World} {B0:sG} {e:Env} {w:World} {nt:Nat} {a:Act} (R:rU G w0 B0 e H w) (hT:wu nt e T a):∀ {l:List ResultVar} {rs:List AV},yE P G T H l=some rs →
  (l.mapM (Jz a.tmps)).run P w = .ok (AV.vals e rs) w
 | [],rs,h=>by simp only[yE,Option.some.injEq] at h;subst h;rfl
 | .tmp t::l,rs,h=>by
  simp only[yE] at h
  split at h
  ·rename_i x r hx hr
   cases h
   have h1:(Jz a.tmps (.tmp t)).run P w = .ok (x.val e) w:=by rw[← (hT.2 t x hx).2];rfl
   rw[List.mapM_cons]
   simp only[Sem.run_bind,Sem.run_pure,Result.andThen,OW R hT hr,h1]
   rfl
  ·cases h
 | .cell x t::l,rs,h=>by
  simp only[yE] at h
  split at h
  ·rename_i b o hx
   split at h
   ·rename_i y tc ef r hy hr
    cases h
    have h0:=(hT.2 x _ hx).2
    obtain⟨_,h2,_⟩:=Ol hy R
    simp only[Instr.loadAt,AV.val,Instr.sureAddr,Sem.run_bind,Sem.run_pure,Result.andThen] at h2
    have h1:(Jz a.tmps (.cell x t)).run P w = .ok (y.val e) w:=by
     unfold Jz
     simp only[h0,AV.val,asAddr,Sem.run_bind,Sem.run_pure,Result.andThen,h2]
    rw[List.mapM_cons]
    simp only[Sem.run_bind,Sem.run_pure,Result.andThen,OW R hT hr,h1]
    rfl
   ·cases h
  ·cases h
theorem acb (fn:Func) (tmps:Array Value):results fn tmps=(do let vs ← fn.results.mapM (Jz tmps);pure (if h:vs.size=1 then vs[0] else .tuple vs)):=by
 unfold results
 congr 1
theorem TW {P:Program} {G:rP} {T:rT} {H:ry} {w0:World} {B0:sG} {e:Env} {w:World} {nt:Nat} {a:Act} (R:rU G w0 B0 e H w) (hT:wu nt e T a) {fn:Func} {rs:List AV} (h:yE P G T H fn.results.toList=some rs) :
  (results fn a.tmps).run P w = .ok ((Ac rs).val e) w:=by
 have h1:=OW (P:=P) R hT h
 rw[acb,Array.mapM_eq_mapM_toList]
 simp only[Sem.run_bind,Sem.run_map,h1,Result.andThen,Sem.run_pure]
 congr 1
 have key:∀ l:List Value,(if h:l.toArray.size=1 then l.toArray[0] else Value.tuple l.toArray)=(match l with | [x]=>x|l=>.tuple l.toArray):=by
  intro l
  cases l with
  | nil=>rfl
  | cons x l=>cases l with
   | nil=>rfl
   | cons y l=>rw[dif_neg (by simp)]
 rw[key]
 cases rs with
 | nil=>rfl
 | cons x rs =>
  cases rs with
  | nil=>rfl
  | cons y rs =>
   rw[show Ac (x::y::rs)=xx (x::y::rs) from rfl,Oc]
   rfl
def OX (P:Program) (G:rP) (fn:Func) (R:AV→ry→Prop):yD
 | .normal,_,T,H=>∃ rs,yE P G T H fn.results.toList=some rs∧R (Ac rs) H
 | .ret,_,T,H=>∃ rs,yE P G T H fn.results.toList=some rs∧R (Ac rs) H
 | _,_,_,_=>False
def BJ (args:List AV) (nt:Nat):rT:=fun t=>match args[t]? with
 | some x=>if t<nt then some x else none
 | none=>if t<nt then some (.v undef) else none
theorem OY {P:Program} {G:rP} {E:tC} {f:FuncId} {fn:Func} {c:Code} {w:World} {B0:sG} {e0:Env} {H0:ry} {N0:Nat} {args:List AV} {R:AV→ry→Prop} (hf:P.funcs[f]? = some fn) (hb:fn.body=some c)
  (hn:args.length≤fn.ntmps) (hR:rU G w B0 e0 H0 w) (hB:yQ H0 N0) (ha:∀ x∈args,∀ r∈x.refs,H0 r≠none)
  (h:AW ⟨P,G,E,w,B0,fn.ntmps⟩ c (OX P G fn R) N0 (BJ args fn.ntmps) H0) :
  Calls P f (AV.vals e0 args).toArray w fun en w'=>∃ r e H,en = .returned (r.val e)∧R r H∧rU G w B0 e H w':=by
 refine calls_of_wp hf hb ?_
 have hT:wu fn.ntmps e0 (BJ args fn.ntmps) { tmps:=(AV.vals e0 args).toArray++Array.replicate (fn.ntmps-(AV.vals e0 args).toArray.size) undef,defers:=[] }:=by
  refine⟨by simp[zl];omega,fun t x hx=>?_⟩
  unfold BJ at hx
  have hget:(((AV.vals e0 args).toArray++Array.replicate (fn.ntmps-(AV.vals e0 args).toArray.size) undef).getD t undef)=(((AV.vals e0 args)++List.replicate (fn.ntmps-args.length) undef)[t]?).getD undef:=by
   rw[Array.getD_eq_getD_getElem?,← Array.getElem?_toList]
   simp[zl]
  rw[hget]
  split at hx
  ·rename_i y hy
   split at hx
   ·rename_i hlt
    cases hx
    refine⟨hlt,?_⟩
    have hlt':t<args.length:=(List.getElem?_eq_some_iff.1 hy).1
    rw[List.getElem?_append_left (by rw[zl];exact hlt'),AV.vals_map]
    simp[hy]
   ·cases hx
  ·rename_i hy
   split at hx
   ·rename_i hlt
    cases hx
    refine⟨hlt,?_⟩
    have hge:args.length≤t:=by
     rcases Nat.lt_or_ge t args.length with h1|h1
     ·rw[List.getElem?_eq_getElem h1] at hy;cases hy
     ·exact h1
    rw[List.getElem?_append_right (by rw[zl];exact hge)]
    rw[List.getElem?_replicate]
    split<;>rfl
   ·cases hx
 have hI:vG (BJ args fn.ntmps) H0:=by
  intro t x hx r hr
  unfold BJ at hx
  split at hx
  ·rename_i y hy
   split at hx
   ·cases hx;exact ha x (List.mem_of_getElem? hy) r hr
   ·cases hx
  ·split at hx
   ·cases hx;simp[AV.refs] at hr
   ·cases hx
 refine wp_mono (h e0 _ w hR hT hI hB rfl) ?_
 rintro ex a w' ⟨N,T,H,e,hq,R',hT',hI',hB',hd⟩
 cases ex with
 | normal =>
  obtain⟨rs,h1,h2⟩:=hq
  exact⟨hd,_,TW R' hT' h1,Ac rs,e,H,rfl,h2,R'⟩
 | ret =>
  obtain⟨rs,h1,h2⟩:=hq
  exact⟨hd,_,TW R' hT' h1,Ac rs,e,H,rfl,h2,R'⟩
 | exit id=>exact hq.elim
 | goto l=>exact hq.elim
 | panic ch=>exact hq.elim
 | outgrown=>exact hq.elim
theorem CY {P:Program} {g:FuncId} {fn:Func} {args:Array Value} {w:World} {R:Ending→World→Prop} (hf:P.funcs[g]? = some fn) (hn:(fn.name == "runtime.NumGoroutine")=false) (hb:fn.body.isNone=false) (h:Calls P g args w R):wU P g args w R:=by
 unfold wU
 have:(callFunc g args).run P w = .ok (.enter g args) w:=by
  unfold callFunc
  have hp:(program).run P w = .ok P w:=rfl
  simp only[Sem.run_bind,hp,Result.andThen,hf,hn,hb,Bool.false_eq_true,if_false]
  rfl
 rw[this]
 exact h
theorem acd {G:rP} {w:World} (hG:Gl G w) (e:Env):rU G w sG.nil e (fun _=>none) w :=
 ⟨rfl,rfl,rfl,Nat.le_refl _,fun _ _ _=>rfl,hG,fun _ _ _ h=>(by cases h),fun _ _ _ h=>(by cases h),fun _ _ _ h=>(by cases h),fun _ _ _ _ _ _ h=>(by cases h),fun _ _ _ h=>(by cases h),fun _ _ _ _ _ _ h=>(by cases h),fun _ _ h=>(by cases h),fun _ h=>(by cases h),fun _ _ _ h=>(by cases h),fun _ _ h=>(by cases h)⟩
theorem rU.bel {G:rP} {w:World} {e:Env} {H:ry} {w':World} (R:rU G w sG.nil e H w'):rq w w' :=
 ⟨R.os,R.tape,R.output,R.size,fun k hk=>R.old k hk (by simp[sG.nil])⟩
theorem OZ {P:Program} {G:rP} (E:tC) {f:FuncId} {fn:Func} {c:Code} {args:List Value} {v:Value} (hf:P.funcs[f]? = some fn) (hb:fn.body=some c) (hn:(fn.name == "runtime.NumGoroutine")=false) (hl:(Nat.ble args.length fn.ntmps)=true)
  (h:∀ w,AW ⟨P,G,E,w,sG.nil,fn.ntmps⟩ c (OX P G fn (fun r _=>r = .v v)) 0 (BJ (args.map .v) fn.ntmps) (fun _=>none)):PC P G f args v:=by
 intro w hG
 refine CY hf hn (by rw[hb];rfl) ?_
 have:=OY (E:=E) (e0:=⟨fun _=>0,fun _=>undef⟩) (args:=args.map .v) hf hb (by simpa using hl) (acd hG _) (fun _ _=>rfl) (fun x hx r hr=>by
  obtain⟨y,_,rfl⟩:=List.mem_map.1 hx;simp[AV.refs] at hr) (h w)
 rw[vK] at this
 refine this.mono ?_
 rintro en w' ⟨r,e,H,rfl,rfl,R⟩
 exact⟨rfl,R.bel⟩
open Go.RowKit
def gG:rP:=(0,[.int .i64 16,.int .i64 11,.int .i64 15,.int .i64 32,.int .i64 24,.int .i64 127,.int .i64 64,.int .i64 53,.int .i64 1023,.int .i64 128,.int .i64 113,.int .i64 16383]) ::
 (1,[.int .u64 2147483648,.int .u64 2147483647,.int .u64 0,.int .u64 4294967295,.int .u64 9223372036854775808,.int .u64 9223372036854775807,.int .u64 0,.int .u64 18446744073709551615]) ::
  []
theorem wrap_i64 {x:Int} (h : -9223372036854775808≤x∧x<9223372036854775808):IntKind.i64.wrap x=x:=by
 unfold IntKind.wrap IntKind.bits IntKind.signed;simp;omega
theorem wrap_u64 {x:Int} (h:0≤x∧x<18446744073709551616):IntKind.u64.wrap x=x:=by
 unfold IntKind.wrap IntKind.bits IntKind.signed;simp;omega
open Go.RowKit
def xJ (C:Cx) (c:Code) (Q:yD):Nat→Nat→rT→ry→Prop
 | 0,_,_,_=>False
 | n+1,N,T,H=>AW C c (F5 (xJ C c Q n) Q) N T H
theorem F7 {C:Cx} {Q:yD} {N:Nat} {T:rT} {H:ry} {c:Code} (n:Nat) (h:xJ C c Q n N T H):AW C (.loop c) Q N T H:=by
 refine aca (fun m N T H=>xJ C c Q m N T H) h ?_
 intro m N T H hm
 cases m with
 | zero=>exact hm.elim
 | succ m =>
  refine AW.mono hm (fun x N T H h=>?_)
  cases x with
  | normal=>exact⟨m,Nat.lt_succ_self m,h⟩
  | _=>exact h
theorem F8 (C:Cx) (c:Code) (Q:yD) (n N:Nat) (T:rT) (H:ry):xJ C c Q (n+1) N T H=AW C c (F5 (xJ C c Q n) Q) N T H:=rfl
def RC (P:Program) (G:rP) (f:FuncId) (pre:List Value) (n:Nat) (c:List Value) (rest:List Value) (v:Value):Prop :=
 ∀ w s,Gl G w→Reads w s n c→wU P f (pre++s::rest).toArray w fun e w'=>e = .returned v∧rq w w'
theorem RC.call {P:Program} {G:rP} {f:FuncId} {pre:List Value} {n:Nat} {c:List Value} {rest:List Value} {v:Value} (h:RC P G f pre n c rest v) (w0:World) (B0:sG) {H:ry} (k b cap:Nat) (t:TypeId) (hb:H b=some (.own (c.map .v) t)) :
  DZ P G w0 B0 f (pre.map .v ++ .sl b 0 n cap::rest.map .v) H [b] k (.v v) []:=by
 intro H' e w hag _ _ _ R
 have hb':H' b=some (.own (c.map .v) t):=by rw[hag b (by simp)];exact hb
 have hown:=R.own b _ t hb'
 rw[vK] at hown
 have hrd:Reads w (.slice (some ⟨e.blk b,0,none⟩) n cap) n c:=.inr ⟨e.blk b,0,cap,rfl,R.lt hb',fun j x hj=>by simp[World.cell?,hown,hj]⟩
 have hv:AV.vals e (pre.map .v ++ .sl b 0 n cap::rest.map .v)=pre ++ .slice (some ⟨e.blk b,0,none⟩) n cap::rest:=by
  rw[Jw,AV.vals,vK,vK];rfl
 rw[hv]
 exact(h w _ R.gl hrd).mono fun en w' ⟨h1,h2⟩=>⟨e,h1,R.below h2,Env.on.refl H' e,fun c hc=>by simp[AV.refs] at hc⟩
def SC (P:Program) (G:rP) (f:FuncId) (args:List Value) (n:Nat) (c:List Value) (t:TypeId):Prop :=
 ∀ w,Gl G w→wU P f args.toArray w fun e w'=>∃ b,e = .returned (.slice (some ⟨b,0,none⟩) n n)∧w.heap.size≤b∧w'.heap[b]? = some (.cells c.toArray t (0,0))∧rq w w'
theorem SC.call {P:Program} {G:rP} {f:FuncId} {vs:List Value} {n:Nat} {c:List Value} {t:TypeId} (h:SC P G f vs n c t) (w0:World) (B0:sG) {args:List AV} (ha:tX args=some vs) (H:ry) (k:Nat) :
  DZ P G w0 B0 f args H [] k (.sl k 0 n n) [(k,.own (c.map .v) t)]:=by
 intro H' e w _ hk _ _ R
 rw[CL ha]
 refine(h w R.gl).mono ?_
 rintro en w' ⟨b,rfl,hb,ho,hbel⟩
 refine⟨e.setBlk k b,by simp[AV.val,Env.setBlk],R.adopt hbel hk hb (fun r hr=>by rw[AP] at hr;simp at hr) (by rw[vK];exact ho),Env.setBlk_on hk e b,fun j hj=>?_⟩
 simp[AV.refs] at hj;subst hj;rw[ry.puts,ry.puts,ry.put_same];simp
theorem JA {P:Program} {G:rP} {g:FuncId} {fn:Func} {args:List Value} {v:Value} (hf:P.funcs[g]? = some fn) (hn:(fn.name == "runtime.NumGoroutine")=false) (hb:fn.body.isNone=false)
  (h:∀ w,Calls P g args.toArray w fun e w'=>e = .returned v∧rq w w'):PC P G g args v:=fun w _=>CY hf hn hb (h w)
end Go.Proofs.YtbembkamcdlhbaaGreatDoor
