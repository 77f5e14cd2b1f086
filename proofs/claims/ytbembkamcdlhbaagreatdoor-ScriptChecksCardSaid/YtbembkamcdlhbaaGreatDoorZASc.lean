import Derived.RangeFuncNested
import Derived.RangeFuncBound
import Derived.RangeFuncCalls
import Derived.RangeFuncLeaves
import Derived.RangeFuncBox
import Derived.Shelf.Abstract
import Derived.Shelf.RegionOpen
import Derived.WalkKit
import Derived.WalkSpells
import Derived.WalkLawsBesides
import Derived.OwnWalkIn
import Derived.TacticsInMore
import Derived.LoopNIn
import Derived.LoopIn
import Derived.Maps.AppendAt
import Derived.Stop.RegionWithIn
import Derived.Deep.QuietTactic
import Derived.BigQuiet
import Derived.Lib.Hide
import Derived.Test.YtbembkamcdlhbaaGreatDoorProg
import Derived.Orders
import Derived.OrdersIn
import Derived.StillTail
import Derived.Below
import Derived.Laws.CopyRow
import Derived.MapKept
import Derived.Scope
set_option linter.unusedSimpArgs false
set_option linter.unusedVariables false
namespace Go.Proofs.YtbembkamcdlhbaaGreatDoor
open Go.RowKit Go.Shelf
def Ga (B:Nat) (A W:World):Prop:=∀ v,A.cell? ⟨B,0,none⟩=some v→W.cell? ⟨B,0,none⟩=some v
theorem TR {B:Nat} {A W C:World} (h:Ga B A W) (k:Ga B W C):Ga B A C:=fun v hv=>k v (h v hv)
theorem TS {B:Nat} {n:Nat} (W:World) (l:Nat) (o o':Obj) (_:n≤l) (h:W.heap[l]? = some o) (hn:o.isCells=false) (_:o.isWalk=false):Ga B W (W.putObj l o'):=fun _ hv=>cell_kept hv (grownBy_putObj' W l o') (fun r e=>by cases e;exact⟨_,h,hn⟩)
def TU (D:Nat):Deferred := { target:=.collected D,args:=#[] }
def Marks (n₀:Nat) (Ds:List Nat) (W:World):Prop:=Ds.Nodup∧∀ D∈Ds,n₀≤D∧W.heap[D]? = some (.deferred (some []))
theorem Marks.lt {n₀:Nat} {Ds:List Nat} {W:World} (h:Marks n₀ Ds W) {D:Nat} (hD:D∈Ds):D<W.heap.size:=(Array.getElem?_eq_some_iff.1 (h.2 D hD).2).1
theorem Marks.keeps {n₀:Nat} {Ds:List Nat} {W W':World} (h:Marks n₀ Ds W) (k:KeepsOthers W W'):Marks n₀ Ds W' :=
 ⟨h.1,fun D hD=>⟨(h.2 D hD).1,k.same D _ (h.2 D hD).2 rfl⟩⟩
theorem Marks.leaves {F:Fence} {n:Nat} {P:Program} {fn:Func} {tmps:Array Value} {v:Value} {w:World} (hres:∀ W,(results fn tmps).run P W = .ok v W):∀ (Ds:List Nat) (W:World),Marks w.heap.size Ds W→Below w.heap.size w W →
  LeavesInM F n P fn tmps (fun e W'=>e = .returned v∧Below w.heap.size w W') (Ds.map TU) .returning W
 | [],W,_,hB=>⟨v,hres W,rfl,hB⟩
 | D::Ds,W,h,hB=>by
  refine⟨by simp,.inl ⟨D,_,rfl,run_takeDeferred (h.2 D (by simp)).2,?_⟩⟩
  refine Marks.leaves hres Ds _ ⟨(List.nodup_cons.1 h.1).2,fun D' hD'=>⟨(h.2 D' (by simp[hD'])).1,?_⟩⟩ (hB.trans (belowK_b (w:=w) (n₀:=w.heap.size) (Nat.le_refl _) W D _ _ (h.2 D (by simp)).1 (h.2 D (by simp)).2 rfl rfl))
  rw[World.putObj_heap_other (by rintro rfl;exact(List.nodup_cons.1 h.1).1 hD')];exact(h.2 D' (by simp[hD'])).2
theorem abV {β:Type} {n₀ B:Nat} {Ds:List Nat} (h:∀ D∈Ds,D<B):OwnFrom B (fun(_:β) W=>Marks n₀ Ds W):=fun s A W row hs hg hr =>
 ⟨hs.1,fun D hD=>⟨(hs.2 D hD).1,(hg.block D (hs.lt hD) (fun e=>by have:=(hr D e.symm).1;have:=h D hD;omega)).trans (hs.2 D hD).2⟩⟩
theorem Marks.cons {n₀:Nat} {Ds:List Nat} {W:World} {D B:Nat} (h:Marks n₀ Ds W) (hlt:∀ D∈Ds,D<B) (hB:B≤D) (hn:n₀≤D) (hD:W.heap[D]? = some (.deferred (some []))):Marks n₀ (D::Ds) W :=
 ⟨List.nodup_cons.2 ⟨fun hm=>by have:=hlt D hm;omega,h.1⟩,fun D' hD'=>by
  rcases List.mem_cons.1 hD' with rfl|hm
  ·exact⟨hn,hD⟩
  ·exact h.2 D' hm⟩
def q9 (w w':World):Prop:=Below w.heap.size w w'
theorem q9.refl (w:World):q9 w w:=Below.refl _ w
theorem q9.trans {a b c:World} (h:q9 a b) (k:q9 b c):q9 a c:=Below.trans h (Below.mono k h.size)
theorem q9.alloc {a b:World} (h:q9 a b) (o:Obj):q9 a (b.alloc o):=Below.alloc h h.size o
theorem q9.drew {a b:World} (h:q9 a b):q9 a b.drew:=Below.drew h
theorem Below.drewN {B:Nat} {a w:World} (h:Below B a w) (n:Nat):Below B a (w.drewN n):=⟨h.os,h.tape,h.output,h.size,h.block⟩
theorem q9.drewN {a b:World} (h:q9 a b) (n:Nat):q9 a (b.drewN n):=Below.drewN h n
theorem q9.size {a b:World} (h:q9 a b):a.heap.size≤b.heap.size:=Below.size h
theorem q9.cell {a b:World} (h:q9 a b) (k o:Nat) (hk:k<a.heap.size):b.cell? ⟨k,o,none⟩=a.cell? ⟨k,o,none⟩:=Below.cell h (p:=⟨k,o,none⟩) hk
theorem q9.cells {W w1:World} (hb:q9 W w1):(∀ b o,b<W.heap.size→w1.cell? ⟨b,o,none⟩=W.cell? ⟨b,o,none⟩)∧(∀ b o,b<W.heap.size→w1.frozen? ⟨b,o,none⟩=W.frozen? ⟨b,o,none⟩) :=
 ⟨fun b o h=>Below.cell (p:=⟨b,o,none⟩) hb h,fun b o h=>Below.frozen (p:=⟨b,o,none⟩) hb h⟩
theorem vJ {w:World} {b o:Nat} {v:Value} (h:w.cell? ⟨b,o,none⟩=some v):b<w.heap.size:=by
 apply Classical.byContradiction
 intro hn
 have:w.heap[b]? = none:=Array.getElem?_eq_none (by omega)
 simp[World.cell?,this] at h
section Orders
variable {F:Fence} {n:Nat} {P:Program} {ops:Array Oper} {Q:Exit→Act→World→Prop} {md:Region.Mode}
def Gb (md:Region.Mode) (ops:Array Oper):Nat→Array Bool→List (List Nat)
 | 0,_=>[[]]
 | fuel+1,listed =>
  match Region.ready md ops listed with
  | []=>[[]]
  | r::rs=>(r::rs).flatMap fun i=>(Gb md ops fuel (listed.setIfInBounds i true)).map (i :: ·)
theorem abW:∀ (fuel t:Nat) (listed:Array Bool),Region.linearise.go md ops fuel t listed []∈Gb md ops fuel listed:=by
 intro fuel
 induction fuel with
 | zero=>intro t listed;simp[Region.linearise.go,Gb]
 | succ fuel ih =>
  intro t listed
  simp only[Region.linearise.go]
  change (match (Region.ready md ops listed)[t%(Region.ready md ops listed).length]? with
   | some i=>Region.linearise.go md ops fuel (t/(Region.ready md ops listed).length) (listed.setIfInBounds i true) [i]
   | none=>[].reverse)∈_
  cases hr:Region.ready md ops listed with
  | nil=>simp[Gb,hr]
  | cons r rs =>
   have hlt:t%(r::rs).length<(r::rs).length:=Nat.mod_lt _ (by simp)
   have hi:(r::rs)[t%(r::rs).length]? = some ((r::rs)[t%(r::rs).length]):=List.getElem?_eq_getElem hlt
   rw[hi]
   simp only[]
   rw[linearise_go_acc,List.reverse_singleton,List.singleton_append]
   simp only[Gb,hr]
   exact List.mem_flatMap.2 ⟨_,List.getElem_mem hlt,List.mem_map.2 ⟨_,ih _ _,rfl⟩⟩
theorem abX:∀ (l:List Nat) (a:Act) (w:World),wpListIn F n P ops Q (l.filterMap (ops[·]?)) a w→wpOpsIn F n P ops Q l a w:=by
 intro l
 induction l with
 | nil=>intro a w h;simpa [wpListIn,wpOpsIn] using h
 | cons i l ih =>
  intro a w h
  cases hi:ops[i]? with
  | none=>rw[List.filterMap_cons_none hi] at h;simp only[wpOpsIn,hi];exact ih _ _ h
  | some o =>
   rw[List.filterMap_cons_some hi] at h
   simp only[wpOpsIn,hi,wpListIn] at h ⊢
   split
   ·rename_i hw;simp only[hw,if_true] at h;exact Oper.wpIn_mono (fun a w=>ih a w) h
   ·rename_i hw;simp only[hw] at h;exact⟨h.1,ih _ _ h.2⟩
theorem abY {id:Nat} {a:Act} {w:World} (os:List (List Nat)) (hm:P.follows .mixedOrders=true) (ho:Gb .any ops ops.size (Array.replicate ops.size false)=os) (h:∀ l∈os,wpListIn F n P ops Q (l.filterMap (ops[·]?)) a w.drew) :
  (Code.region id ops true).wpIn F n P Q a w :=
 wpIn_region_draw fun t=>by
  simp only[Region.schedule,hm,Bool.true_or,if_true]
  exact abX _ _ _ (h _ (ho▸abW _ t _))
end Orders
def upd (L:Nat→Bool) (i:Nat):Nat→Bool:=fun j=>bif Nat.beq j i then true else L j
theorem L9 (L:Nat→Bool) (i:Nat):upd L i i=true:=by simp[upd]
def Ai (o:Oper) (j:Nat):Bool:=o.after.any fun e=>Region.binds .any e&&Nat.beq e.on j
def BN:Nat→List Oper→Bool
 | _,[]=>true
 | k,o::rest=>(o.after.all fun e => !Region.binds .any e||Nat.blt e.on k)&&BN (k+1) rest
theorem TV:∀ (l:List Oper) (k:Nat),BN k l=true→∀ (i:Nat) (o:Oper),l[i]? = some o→∀ e∈o.after,Region.binds .any e=true→e.on<k+i
 | [],_,_,i,o,h=>by simp at h
 | x::l,k,ht,i,o,h=>by
  simp only[BN,Bool.and_eq_true] at ht
  intro e he hb
  cases i with
  | zero =>
   simp at h;subst h
   have:=Array.all_eq_true_iff_forall_mem.1 ht.1 e he
   simp[hb] at this
   simpa using this
  | succ i =>
   have:=TV l (k+1) ht.2 i o (by simpa using h) e he hb
   omega
def uq (listed:Array Bool):Nat→Bool:=fun i=>listed.getD i false
theorem OG (listed:Array Bool) (i:Nat) (h:i<listed.size):uq (listed.setIfInBounds i true)=upd (uq listed) i:=by
 funext j
 unfold uq upd
 cases hb:Nat.beq j i with
 | true =>
  obtain rfl:=Nat.eq_of_beq_eq_true hb
  simp[h]
 | false =>
  have hne:i≠j:=fun e=>by rw[e] at hb;simp at hb
  simp[hne]
theorem TW {ops:Array Oper} (ht:BN 0 ops.toList=true) {listed:Array Bool} (hs:listed.size=ops.size) (hr:Region.ready .any ops listed = []):∀ i,i<ops.size→uq listed i=true:=by
 intro i
 induction i using Nat.strongRecOn with
 | _ i ih =>
  intro hi
  apply Classical.byContradiction
  intro hn
  have hf:listed.getD i false=false:=by unfold uq at hn;simpa using hn
  have:i∈Region.ready .any ops listed:=by
   rw[mem_ready]
   refine⟨?_,ops[i],Array.getElem?_eq_getElem hi,fun e he hb=>?_⟩
   ·simp[hs,hi] at hf ⊢;exact hf
   ·have hlt:=TV ops.toList 0 ht i ops[i] (by simp[hi]) e he hb
    exact ih e.on (by omega) (by omega)
  rw[hr] at this;cases this
theorem TY {listed:Array Bool} {i:Nat} (h:listed.getD i true=false):uq listed i=false:=by
 unfold uq
 rcases Nat.lt_or_ge i listed.size with h'|h'
 ·simp[h'] at h ⊢;exact h
 ·simp[Array.getElem?_eq_none h'] at h
def Closed (ops:Array Oper) (listed:Array Bool):Prop:=∀ k x,ops[k]? = some x→uq listed k=true→∀ j,Ai x j=true→uq listed j=true
theorem Closed.off {ops:Array Oper} {listed:Array Bool} (h:Closed ops listed) {k i:Nat} {x:Oper} (hx:ops[k]? = some x) (hd:Ai x i=true) (hL:uq listed i=false):uq listed k=false:=by
 cases hk:uq listed k with
 | false=>rfl
 | true=>rw[h k x hx hk i hd] at hL;cases hL
theorem Closed.set {ops:Array Oper} {listed:Array Bool} (h:Closed ops listed) {i:Nat} {o:Oper} (hi:i<listed.size) (ho:ops[i]? = some o) (hdep:∀ e∈o.after,Region.binds .any e=true→listed.getD e.on false=true):Closed ops (listed.setIfInBounds i true):=by
 intro k x hx hk j hj
 rw[OG _ _ hi] at hk ⊢
 unfold upd at hk ⊢
 cases hji:Nat.beq j i with
 | true=>rfl
 | false =>
  simp only[cond_false]
  cases hki:Nat.beq k i with
  | true =>
   obtain rfl:=Nat.eq_of_beq_eq_true hki
   obtain rfl:=Option.some.inj (hx.symm.trans ho)
   unfold Ai at hj
   obtain⟨e,he,hb⟩:=Array.any_eq_true'.1 hj
   simp only[Bool.and_eq_true] at hb
   obtain rfl:=Nat.eq_of_beq_eq_true hb.2
   exact hdep e he hb.1
  | false=>rw[hki] at hk;exact h k x hx hk j hj
theorem Closed.none {ops:Array Oper} : Closed ops (Array.replicate ops.size false):=by
 intro k x hx hk
 unfold uq at hk
 rw[getD_replicate_false] at hk;cases hk
section plain
variable {P:Program} {ops:Array Oper} {Q:Exit→Act→World→Prop}
def OH (P:Program) (ops:Array Oper) (Q:Exit→Act→World→Prop) (Inv:(Nat→Bool)→Act→World→Prop) (i:Nat) (o:Oper):Prop :=
 ∀ (L:Nat→Bool) (a:Act) (w:World) (K:Act→World→Prop),Inv L a w→L i=false→(∀ j,Ai o j=true→L j=true)→(∀ k x,ops[k]? = some x→Ai x i=true→L k=false)→(∀ a' w',Inv (upd L i) a' w'→K a' w') →
  if Region.wanted o (yielded ops a.tmps)=true then Oper.wp P o a w K Q else K (a.put o.dst undef) w
def CZ (P:Program) (ops:Array Oper) (Q:Exit→Act→World→Prop) (Inv:(Nat→Bool)→Act→World→Prop):Nat→List Oper→Prop
 | _,[]=>True
 | k,o::rest=>OH P ops Q Inv k o∧CZ P ops Q Inv (k+1) rest
theorem CZ.get {Inv:(Nat→Bool)→Act→World→Prop} : ∀ (l:List Oper) (k:Nat),CZ P ops Q Inv k l→∀ i o,l[i]? = some o→OH P ops Q Inv (k+i) o
 | [],_,_,i,o,h=>by simp at h
 | x::l,k,hs,0,o,h=>by simp at h;subst h;exact hs.1
 | x::l,k,hs,i+1,o,h=>by
  have:=CZ.get l (k+1) hs.2 i o (by simpa using h)
  rwa [show k+1+i=k+(i+1) by omega] at this
theorem abZ (Inv:(Nat→Bool)→Act→World→Prop) (ht:BN 0 ops.toList=true) (hs:CZ P ops Q Inv 0 ops.toList)
  (hd:∀ L a w,Inv L a w→(∀ i,i<ops.size→L i=true)→Q .normal a w) :
  ∀ (fuel:Nat) (listed:Array Bool) (a:Act) (w:World),listed.size=ops.size→Closed ops listed→(∃ n:Nat,n+fuel=ops.size∧n=listed.toList.countP id)→Inv (uq listed) a w→wpAny P .any ops Q fuel listed a w:=by
 intro fuel
 induction fuel with
 | zero =>
  rintro listed a w hsz hcl ⟨n,hn,hc⟩ hI
  have hall:∀ x∈listed.toList,x=true:=by
   have:listed.toList.countP id=listed.toList.length:=by rw[← hc,Array.length_toList,hsz];omega
   simpa using List.countP_eq_length.1 this
  have hl:∀ i,i<ops.size→uq listed i=true:=fun i hi=>by
   unfold uq
   have:=hall (listed[i]'(by omega)) (by simp)
   simp[show i<listed.size by omega,this]
  refine⟨?_,hd _ a w hI hl⟩
  apply Classical.byContradiction
  intro hne
  obtain⟨j,hj⟩:=List.exists_mem_of_ne_nil _ hne
  obtain⟨h1,o,ho,_⟩:=mem_ready.1 hj
  have hj':=(Array.getElem?_eq_some_iff.1 ho).1
  have:=hl j hj'
  unfold uq at this
  simp[show j<listed.size by omega] at this h1
  rw[this] at h1;cases h1
 | succ fuel ih =>
  rintro listed a w hsz hcl ⟨n,hn,hc⟩ hI
  refine⟨fun hr=>hd _ a w hI (TW ht hsz hr),fun i hi=>?_⟩
  obtain⟨h1,o,ho,hdep⟩:=mem_ready.1 hi
  have hi':=(Array.getElem?_eq_some_iff.1 ho).1
  have hL:uq listed i=false:=TY h1
  have hst:=CZ.get ops.toList 0 hs i o (by simpa using ho)
  rw[Nat.zero_add] at hst
  have hcnt:(listed.setIfInBounds i true).toList.countP id=n+1:=by
   rw[hc]
   have hil:i<listed.toList.length:=by simp;omega
   have hfi:listed.toList[i]=false:=by unfold uq at hL;simp[show i<listed.size by omega] at hL;simpa using hL
   rw[Array.toList_setIfInBounds,List.countP_set (h:=hil)]
   simp[hfi]
  have hstep:=hst (uq listed) a w (wpAny P .any ops Q fuel (listed.setIfInBounds i true)) hI hL
   (fun j hj=>by
    unfold Ai at hj
    obtain⟨e,he,hb⟩:=Array.any_eq_true'.1 hj
    simp only[Bool.and_eq_true] at hb
    obtain rfl:=Nat.eq_of_beq_eq_true hb.2
    exact hdep e he hb.1)
   (fun k x hx hdx=>hcl.off hx hdx hL)
   (fun a' w' hI'=>ih _ a' w' (by simp[hsz]) (hcl.set (by omega) ho hdep) ⟨n+1,by omega,hcnt.symm⟩ (by rw[OG _ _ (by omega)];exact hI'))
  unfold wpOp
  rw[ho]
  dsimp only
  split
  ·rename_i hw;rw[if_pos hw] at hstep;exact .inl hstep
  ·rename_i hw;rw[if_neg hw] at hstep;exact hstep
theorem ab0 {id:Nat} {a:Act} {w:World} (Inv:(Nat→Bool)→Act→World→Prop) (hm:P.follows .mixedOrders=true) (ht:BN 0 ops.toList=true) (h0:Inv (fun _=>false) a w.drew)
  (hs:CZ P ops Q Inv 0 ops.toList) (hd:∀ L a w,Inv L a w→(∀ i,i<ops.size→L i=true)→Q .normal a w):(Code.region id ops true).wp P Q a w :=
 wp_region_any hm (abZ Inv ht hs hd ops.size _ a _ (by simp) Closed.none ⟨0,by simp,by simp[List.countP_replicate]⟩ (by
  have:uq (Array.replicate ops.size false)=fun _=>false:=by
   funext i;unfold uq;exact getD_replicate_false _ _
  rw[this];exact h0))
end plain
section fenced
variable {F:Fence} {n:Nat} {P:Program} {ops:Array Oper} {Q:Exit→Act→World→Prop}
def TZ (F:Fence) (n:Nat) (P:Program) (ops:Array Oper) (Q:Exit→Act→World→Prop) (Inv:(Nat→Bool)→Act→World→Prop) (i:Nat) (o:Oper):Prop :=
 ∀ (L:Nat→Bool) (a:Act) (w:World) (K:Act→World→Prop),Inv L a w→L i=false→(∀ j,Ai o j=true→L j=true)→(∀ k x,ops[k]? = some x→Ai x i=true→L k=false)→(∀ a' w',Inv (upd L i) a' w'→K a' w') →
  if Region.wanted o (yielded ops a.tmps)=true then Oper.wpIn F n P o a w K Q else(∀ f,o.about P w a.eval=some f→F.fn f)∧K (a.put o.dst undef) w
def Eo (F:Fence) (n:Nat) (P:Program) (ops:Array Oper) (Q:Exit→Act→World→Prop) (Inv:(Nat→Bool)→Act→World→Prop):Nat→List Oper→Prop
 | _,[]=>True
 | k,o::rest=>TZ F n P ops Q Inv k o∧Eo F n P ops Q Inv (k+1) rest
theorem Eo.get {Inv:(Nat→Bool)→Act→World→Prop} : ∀ (l:List Oper) (k:Nat),Eo F n P ops Q Inv k l→∀ i o,l[i]? = some o→TZ F n P ops Q Inv (k+i) o
 | [],_,_,i,o,h=>by simp at h
 | x::l,k,hs,0,o,h=>by simp at h;subst h;exact hs.1
 | x::l,k,hs,i+1,o,h=>by
  have:=Eo.get l (k+1) hs.2 i o (by simpa using h)
  rwa [show k+1+i=k+(i+1) by omega] at this
theorem ab1 (Inv:(Nat→Bool)→Act→World→Prop) (ht:BN 0 ops.toList=true) (hs:Eo F n P ops Q Inv 0 ops.toList)
  (hd:∀ L a w,Inv L a w→(∀ i,i<ops.size→L i=true)→Q .normal a w) :
  ∀ (fuel:Nat) (listed:Array Bool) (a:Act) (w:World),listed.size=ops.size→Closed ops listed→(∃ m:Nat,m+fuel=ops.size∧m=listed.toList.countP id)→Inv (uq listed) a w→wpAnyIn F n P .any ops Q fuel listed a w:=by
 intro fuel
 induction fuel with
 | zero =>
  rintro listed a w hsz hcl ⟨m,hn,hc⟩ hI
  have hall:∀ x∈listed.toList,x=true:=by
   have:listed.toList.countP id=listed.toList.length:=by rw[← hc,Array.length_toList,hsz];omega
   simpa using List.countP_eq_length.1 this
  have hl:∀ i,i<ops.size→uq listed i=true:=fun i hi=>by
   unfold uq
   have:=hall (listed[i]'(by omega)) (by simp)
   simp[show i<listed.size by omega,this]
  refine⟨?_,hd _ a w hI hl⟩
  apply Classical.byContradiction
  intro hne
  obtain⟨j,hj⟩:=List.exists_mem_of_ne_nil _ hne
  obtain⟨h1,o,ho,_⟩:=mem_ready.1 hj
  have hj':=(Array.getElem?_eq_some_iff.1 ho).1
  have:=hl j hj'
  unfold uq at this
  simp[show j<listed.size by omega] at this h1
  rw[this] at h1;cases h1
 | succ fuel ih =>
  rintro listed a w hsz hcl ⟨m,hn,hc⟩ hI
  refine⟨fun hr=>hd _ a w hI (TW ht hsz hr),fun i hi=>?_⟩
  obtain⟨h1,o,ho,hdep⟩:=mem_ready.1 hi
  have hi':=(Array.getElem?_eq_some_iff.1 ho).1
  have hL:uq listed i=false:=TY h1
  have hst:=Eo.get ops.toList 0 hs i o (by simpa using ho)
  rw[Nat.zero_add] at hst
  have hcnt:(listed.setIfInBounds i true).toList.countP id=m+1:=by
   rw[hc]
   have hil:i<listed.toList.length:=by simp;omega
   have hfi:listed.toList[i]=false:=by unfold uq at hL;simp[show i<listed.size by omega] at hL;simpa using hL
   rw[Array.toList_setIfInBounds,List.countP_set (h:=hil)]
   simp[hfi]
  have hstep:=hst (uq listed) a w (wpAnyIn F n P .any ops Q fuel (listed.setIfInBounds i true)) hI hL
   (fun j hj=>by
    unfold Ai at hj
    obtain⟨e,he,hb⟩:=Array.any_eq_true'.1 hj
    simp only[Bool.and_eq_true] at hb
    obtain rfl:=Nat.eq_of_beq_eq_true hb.2
    exact hdep e he hb.1)
   (fun k x hx hdx=>hcl.off hx hdx hL)
   (fun a' w' hI'=>ih _ a' w' (by simp[hsz]) (hcl.set (by omega) ho hdep) ⟨m+1,by omega,hcnt.symm⟩ (by rw[OG _ _ (by omega)];exact hI'))
  unfold wpOpIn
  rw[ho]
  dsimp only
  split
  ·rename_i hw;rw[if_pos hw] at hstep;exact hstep
  ·rename_i hw;rw[if_neg hw] at hstep;exact hstep
theorem C8 {id:Nat} {a:Act} {w:World} (Inv:(Nat→Bool)→Act→World→Prop) (hm:P.follows .mixedOrders=true) (ht:BN 0 ops.toList=true) (h0:Inv (fun _=>false) a w.drew)
  (hs:Eo F n P ops Q Inv 0 ops.toList) (hd:∀ L a w,Inv L a w→(∀ i,i<ops.size→L i=true)→Q .normal a w):(Code.region id ops true).wpIn F n P Q a w :=
 wpIn_region_any hm (ab1 Inv ht hs hd ops.size _ a _ (by simp) Closed.none ⟨0,by simp,by simp[List.countP_replicate]⟩ (by
  have:uq (Array.replicate ops.size false)=fun _=>false:=by
   funext i;unfold uq;exact getD_replicate_false _ _
  rw[this];exact h0))
end fenced
open Go.RowKit
theorem rA {w:World} {B:Nat} {cs:Array Value} {t:TypeId} {fr:Nat×Nat} (h:w.heap[B]? = some (.cells cs t fr)) (i:Nat) {v:Value} (hv:cs[i]? = some v):w.cell? ⟨B,i,none⟩=some v:=by
 simp[World.cell?,h,hv]
theorem rY {w:World} {B:Nat} {cs:Array Value} {t:TypeId} (h:w.heap[B]? = some (.cells cs t (0,0))) (i:Nat):w.frozen? ⟨B,i,none⟩=false:=by
 simp[World.frozen?,h]
theorem C9 {w:World} {B:Nat} {o:Obj} (h:w.heap[B]? = some o):B<w.heap.size:=(Array.getElem?_eq_some_iff.1 h).1
theorem heap_alloc {w:World} {B:Nat} {o:Obj} (h:w.heap[B]? = some o) (x:Obj):(w.alloc x).heap[B]? = some o:=(Below.heap_alloc w x B (C9 h)).trans h
theorem BO (w:World) (o:Obj):(w.alloc o).heap[w.heap.size]? = some o:=World.alloc_heap_new w o
theorem JR (w:World) (x o:Obj):((w.alloc x).alloc o).heap[w.heap.size+1]? = some o:=by
 have:=BO (w.alloc x) o;rwa [World.size_alloc] at this
theorem zz (w:World) (x y o:Obj):(((w.alloc x).alloc y).alloc o).heap[w.heap.size+1+1]? = some o:=by
 have:=JR (w.alloc x) y o;rwa [World.size_alloc] at this
theorem Ma (w:World) (x y z o:Obj):((((w.alloc x).alloc y).alloc z).alloc o).heap[w.heap.size+1+1+1]? = some o:=by
 have:=zz (w.alloc x) y z o;rwa [World.size_alloc] at this
theorem Mc (w:World) (x y z v o:Obj):(((((w.alloc x).alloc y).alloc z).alloc v).alloc o).heap[w.heap.size+1+1+1+1]? = some o:=by
 have:=Ma (w.alloc x) y z v o;rwa [World.size_alloc] at this
theorem Md (w:World) (x y z v u o:Obj):((((((w.alloc x).alloc y).alloc z).alloc v).alloc u).alloc o).heap[w.heap.size+1+1+1+1+1]? = some o:=by
 have:=Mc (w.alloc x) y z v u o;rwa [World.size_alloc] at this
theorem su {o:Oper} {y:Nat→Option Bool} (h:o.guard=none):Region.wanted o y=true:=by unfold Region.wanted;rw[h]
theorem sw {b:Bool} {p q:Prop} (hb:b=true) (h:p):if b=true then p else q:=by rw[if_pos hb];exact h
theorem q9.set {w W:World} {B i:Nat} (h:q9 w W) (hB:w.heap.size≤B) (v:Value):q9 w (W.setCell ⟨B,i,none⟩ v):=Below.setCell h hB v
theorem sM {w w':World} {B:Nat} {o:Obj} (h:w.heap[B]? = some o) (hb:Below w.heap.size w w'):w'.heap[B]? = some o:=(hb.block B (C9 h)).trans h
theorem rH {w:World} {B:Nat} {o:Obj} (h:w.heap[B]? = some o) (a:Addr) (v:Value) (hne:B≠a.block):(w.setCell a v).heap[B]? = some o:=(Below.heap_setCell w a v B hne).trans h
theorem heap_set {w:World} {B i:Nat} {cs:Array Value} {t:TypeId} {fr:Nat×Nat} (h:w.heap[B]? = some (.cells cs t fr)) (v:Value):(w.setCell ⟨B,i,none⟩ v).heap[B]? = some (.cells (cs.setIfInBounds i v) t fr):=by
 have hlt:=C9 h
 have hg:w.heap[B] = .cells cs t fr:=(Array.getElem?_eq_some_iff.1 h).2
 simp only[World.setCell]
 rw[Array.getElem?_eq_getElem (by simpa using hlt),Array.getElem_modify_self,hg];rfl
theorem T9 {w:World} {B:Nat} {x0 x1 x2 x3:Value} {t:TypeId} {fr:Nat×Nat} (h:w.heap[B]? = some (.cells #[x0,x1,x2,x3] t fr)) (v0 v1 v2 v3:Value) :
  ((((w.setCell ⟨B,0,none⟩ v0).setCell ⟨B,1,none⟩ v1).setCell ⟨B,2,none⟩ v2).setCell ⟨B,3,none⟩ v3).heap[B]? = some (.cells #[v0,v1,v2,v3] t fr):=heap_set (heap_set (heap_set (heap_set h v0) v1) v2) v3
open Go.RowKit
inductive AV where
 | v (x:Value)
 | loc (b off:Nat)
 | sl (b off len cap:Nat)
 | hd (k:Nat)
 | ha (k off:Nat)
 | fn (f:Fn) (first captured:List AV)
 | tup (l:List AV)
 | agg (l:List AV)
def zQ:Value→Value
 | .slice a l c=>.slice a l c
 | .map a=>.map a
 | _=>.slice none 0 0
structure Env where
 blk:Nat→Nat
 hnd:Nat→Value
mutual
def AV.val (e:Env):AV→Value
 | .v x=>x
 | .loc b off=>.pointer (some ⟨e.blk b,off,none⟩)
 | .sl b off len cap=>.slice (some ⟨e.blk b,off,none⟩) len cap
 | .hd k=>zQ (e.hnd k)
 | .ha k off=>match e.hnd k with | .slice (some a) _ _=>.pointer (some ⟨a.block,a.off+off,none⟩)|_=>.pointer (some ⟨0,off,none⟩)
 | .fn f a c=>.func f (AV.vals e a).toArray (AV.vals e c).toArray
 | .tup l=>.tuple (AV.vals e l).toArray
 | .agg l=>.agg (AV.vals e l).toArray
def AV.vals (e:Env):List AV→List Value
 | []=>[]
 | x::l=>AV.val e x::AV.vals e l
end
theorem AV.vals_map (e:Env):∀ l:List AV,AV.vals e l=l.map (AV.val e)
 | []=>rfl
 | x::l=>by rw[AV.vals,AV.vals_map e l];rfl
mutual
def AV.refs:AV→List Nat
 | .v _=>[]
 | .loc b _=>[b]
 | .sl b _ _ _=>[b]
 | .hd k=>[k]
 | .ha k _=>[k]
 | .fn _ a c=>AV.refss a++AV.refss c
 | .tup l=>AV.refss l
 | .agg l=>AV.refss l
def AV.refss:List AV→List Nat
 | []=>[]
 | x::l=>AV.refs x++AV.refss l
end
theorem AV.mem_refss {r:Nat} : ∀ {l:List AV},r∈AV.refss l↔∃ x∈l,r∈AV.refs x
 | []=>by simp[AV.refss]
 | x::l=>by rw[AV.refss,List.mem_append,AV.mem_refss (l:=l)];simp
inductive AO where
 | own (c:List AV) (t:TypeId)
 | rd (n:Nat) (c:List Value)
 | mp (es:List (Value×Value))
def AO.isOwn:AO→Bool | .own _ _=>true | .rd _ _=>false | .mp _=>false
def AO.refs:AO→List Nat
 | .own c _=>AV.refss c
 | .rd _ _=>[]
 | .mp _=>[]
abbrev ru:=Nat→Option AO
def ru.put (H:ru) (k:Nat) (o:AO):ru:=fun j=>if j=k then some o else H j
def ru.puts (H:ru):List (Nat×AO)→ru
 | []=>H
 | x::l=>ru.puts (H.put x.1 x.2) l
abbrev rR:=Nat→Option AV
def rR.put (T:rR) (d:Option Nat) (x:AV):rR:=match d with|none=>T|some d=>fun j=>if j=d then some x else T j
theorem ru.put_same (H:ru) (k:Nat) (o:AO):(H.put k o) k=some o:=by simp[ru.put]
theorem ru.put_ne (H:ru) (k:Nat) (o:AO) {j:Nat} (h:j≠k):(H.put k o) j=H j:=by simp[ru.put,h]
theorem rR.put_same (T:rR) (d:Nat) (x:AV):(T.put (some d) x) d=some x:=by simp[rR.put]
theorem rR.put_ne (T:rR) (d:Nat) (x:AV) {j:Nat} (h:j≠d):(T.put (some d) x) j=T j:=by simp[rR.put,h]
def uX (T:rR):Operand→Option AV
 | .tmp t=>T t
 | .const v=>some (.v v)
 | .global g=>some (.v (.pointer (some ⟨g,0,none⟩)))
 | .func f=>some (.v (.func (.func f) #[] #[]))
def wL (nt:Nat) (e:Env) (T:rR) (a:Act):Prop:=a.tmps.size=nt∧∀ t x,T t=some x→t<nt∧a.tmps.getD t undef=x.val e
theorem wL.eval {nt:Nat} {e:Env} {T:rR} {a:Act} (h:wL nt e T a) {x:Operand} {y:AV} (hx:uX T x=some y):a.eval x=y.val e:=by
 cases x with
 | tmp t=>exact(h.2 t y hx).2
 | const v=>simp only[uX,Option.some.injEq] at hx;subst hx;rfl
 | global g=>simp only[uX,Option.some.injEq] at hx;subst hx;rfl
 | func f=>simp only[uX,Option.some.injEq] at hx;subst hx;rfl
def Reads (w:World) (v:Value) (n:Nat) (c:List Value):Prop :=
 (v = .slice none 0 0∧n=0∧c = [])∨∃ b off cap,v = .slice (some ⟨b,off,none⟩) n cap∧b<w.heap.size∧∀ j x,c[j]? = some x→w.cell? ⟨b,off+j,none⟩=some x
def wV:Value→Option Nat
 | .slice (some a) _ _=>some a.block
 | .pointer (some a)=>some a.block
 | _=>none
theorem Reads.same {w w':World} {v:Value} {n:Nat} {c:List Value} (h:Reads w v n c) (hs:w.heap.size≤w'.heap.size) (hb:∀ b,wV v=some b→b<w.heap.size→w'.heap[b]? = w.heap[b]?):Reads w' v n c:=by
 rcases h with h|⟨b,off,cap,rfl,hlt,hc⟩
 ·exact .inl h
 ·refine .inr ⟨b,off,cap,rfl,by omega,fun j x hj=>?_⟩
  rw[← hc j x hj]
  exact World.cell?_of_block (w:=w) (a:=⟨b,off+j,none⟩) (hb b rfl hlt)
theorem Reads.lt {w:World} {v:Value} {n:Nat} {c:List Value} (h:Reads w v n c) {b:Nat} (hb:wV v=some b):b<w.heap.size:=by
 rcases h with⟨rfl,_⟩|⟨b',off,cap,rfl,hlt,_⟩
 ·simp[wV] at hb
 ·simp[wV] at hb;omega
def Me:Value→Option Nat
 | .map a=>a
 | _=>none
def Gc:Nat→List (Value×Value)→List MapEntry
 | _,[]=>[]
 | i,x::l => { key:=x.1,val:=x.2,born:=i } :: Gc (i+1) l
def Ba (es:List (Value×Value)):Obj:=.map (Gc 0 es).toArray es.length
def MapAt (w:World) (v:Value) (es:List (Value×Value)):Prop:=∃ b,v = .map (some b)∧w.heap[b]? = some (Ba es)
theorem MapAt.same {w w':World} {v:Value} {es:List (Value×Value)} (h:MapAt w v es) (hb:∀ b,Me v=some b→b<w.heap.size→w'.heap[b]? = w.heap[b]?):MapAt w' v es:=by
 obtain⟨b,rfl,hw⟩:=h
 exact⟨b,rfl,by rw[hb b rfl (Array.getElem?_eq_some_iff.1 hw).1];exact hw⟩
theorem MapAt.lt {w:World} {v:Value} {es:List (Value×Value)} (h:MapAt w v es) {b:Nat} (hb:Me v=some b):b<w.heap.size:=by
 obtain⟨b',rfl,hw⟩:=h
 cases hb
 exact(Array.getElem?_eq_some_iff.1 hw).1
abbrev rO:=List (Nat×List Value)
def Gl (G:rO) (w:World):Prop:=∀ x∈G,x.1<w.heap.size∧∀ j v,x.2[j]? = some v→w.cell? ⟨x.1,j,none⟩=some v
theorem Gl.same {G:rO} {w w':World} (h:Gl G w) (hs:w.heap.size≤w'.heap.size) (hb:∀ x∈G,w'.heap[x.1]? = w.heap[x.1]?):Gl G w':=fun x hx =>
 ⟨Nat.lt_of_lt_of_le (h x hx).1 hs,fun j v hj=>by rw[← (h x hx).2 j v hj];exact World.cell?_of_block (w:=w) (a:=⟨x.1,j,none⟩) (hb x hx)⟩
theorem Gl.bel {G:rO} {w w':World} (h:Gl G w) (hb:q9 w w'):Gl G w':=h.same (Below.size hb) fun x hx=>Below.block hb x.1 (h x hx).1
structure sG where
 blks:List Nat
 dom:List Nat
 env:Env
def sG.nil:sG:=⟨[],[],⟨fun _=>0,fun _=>undef⟩⟩
structure rT (G:rO) (w0:World) (B0:sG) (e:Env) (H:ru) (w:World):Prop where
 os:w.os=w0.os
 tape:w.tape=w0.tape
 output:w.output=w0.output
 size:w0.heap.size≤w.heap.size
 old:∀ b,b<w0.heap.size→b∉B0.blks→w.heap[b]? = w0.heap[b]?
 gl:Gl G w
 own:∀ k c t,H k=some (.own c t)→w.heap[e.blk k]? = some (.cells (AV.vals e c).toArray t (0,0))
 ge:∀ k c t,H k=some (.own c t)→w0.heap.size≤e.blk k∨e.blk k∈B0.blks
 glo:∀ k c t,H k=some (.own c t)→∀ x∈G,x.1≠e.blk k
 inj:∀ k c t k' c' t',H k=some (.own c t)→H k'=some (.own c' t')→e.blk k=e.blk k'→k=k'
 rd:∀ k n l,H k=some (.rd n l)→Reads w (e.hnd k) n l
 apart:∀ k n l k' c t,H k=some (.rd n l)→H k'=some (.own c t)→wV (e.hnd k)≠some (e.blk k')
 refs:∀ k o,H k=some o→∀ r∈o.refs,H r≠none
 env:∀ k∈B0.dom,H k≠none∧e.blk k=B0.env.blk k∧e.hnd k=B0.env.hnd k
 new:∀ k n l,H k=some (.rd n l)→∀ b,wV (e.hnd k)=some b→w0.heap.size≤b∨∃ j∈B0.dom,wV (B0.env.hnd j)=some b
 mp:∀ k es,H k=some (.mp es)→MapAt w (e.hnd k) es∧∀ j c t,H j=some (.own c t)→Me (e.hnd k)≠some (e.blk j)
def Env.on (H:ru) (e e':Env):Prop:=∀ k,H k≠none→e'.blk k=e.blk k∧e'.hnd k=e.hnd k
theorem Env.on.refl (H:ru) (e:Env):Env.on H e e:=fun _ _=>⟨rfl,rfl⟩
mutual
theorem AV.val_on {H:ru} {e e':Env} (h:Env.on H e e'):∀ x:AV,(∀ r∈x.refs,H r≠none)→x.val e'=x.val e
 | .v _,_=>rfl
 | .loc b off,hr=>by simp only[AV.val];rw[(h b (hr b (by simp[AV.refs]))).1]
 | .sl b off len cap,hr=>by simp only[AV.val];rw[(h b (hr b (by simp[AV.refs]))).1]
 | .hd k,hr=>by simp only[AV.val];rw[(h k (hr k (by simp[AV.refs]))).2]
 | .ha k off,hr=>by simp only[AV.val];rw[(h k (hr k (by simp[AV.refs]))).2]
 | .fn f a c,hr=>by
  simp only[AV.val]
  rw[AV.vals_on h a (fun r hm=>hr r (by rw[AV.refs];exact List.mem_append_left _ hm)),AV.vals_on h c (fun r hm=>hr r (by rw[AV.refs];exact List.mem_append_right _ hm))]
 | .tup l,hr=>by simp only[AV.val];rw[AV.vals_on h l (fun r hm=>hr r (by rw[AV.refs];exact hm))]
 | .agg l,hr=>by simp only[AV.val];rw[AV.vals_on h l (fun r hm=>hr r (by rw[AV.refs];exact hm))]
theorem AV.vals_on {H:ru} {e e':Env} (h:Env.on H e e'):∀ l:List AV,(∀ r∈AV.refss l,H r≠none)→AV.vals e' l=AV.vals e l
 | [],_=>rfl
 | x::l,hr=>by
  rw[AV.vals,AV.vals,AV.val_on h x (fun r hm=>hr r (by rw[AV.refss];exact List.mem_append_left _ hm)),AV.vals_on h l (fun r hm=>hr r (by rw[AV.refss];exact List.mem_append_right _ hm))]
end
def vK (T:rR) (H:ru):Prop:=∀ t x,T t=some x→∀ r∈x.refs,H r≠none
theorem wL.on {nt:Nat} {H:ru} {e e':Env} {T:rR} {a:Act} (h:wL nt e T a) (hi:vK T H) (he:Env.on H e e'):wL nt e' T a :=
 ⟨h.1,fun t x hx=>⟨(h.2 t x hx).1,by rw[AV.val_on he x (hi t x hx)];exact(h.2 t x hx).2⟩⟩
theorem Act.put_size (a:Act) (d:Option Tmp) (v:Value):(a.put d v).tmps.size=a.tmps.size:=by cases d<;>simp[Act.put]
theorem Act.put_defers (a:Act) (d:Option Tmp) (v:Value):(a.put d v).defers=a.defers:=by cases d<;>rfl
theorem wL.put {nt:Nat} {e:Env} {T:rR} {a:Act} (h:wL nt e T a) {d:Option Tmp} (hd:∀ t,d=some t→t<nt) (x:AV):wL nt e (T.put d x) (a.put d (x.val e)):=by
 refine⟨by rw[Act.put_size];exact h.1,fun t y hy=>?_⟩
 cases d with
 | none=>exact h.2 t y hy
 | some d =>
  have hd':=hd d rfl
  have hs:=h.1
  by_cases ht:t=d
  ·subst ht
   rw[rR.put_same] at hy;cases hy
   refine⟨hd',?_⟩
   simp[Act.put,hs,hd']
  ·rw[rR.put_ne _ _ _ ht] at hy
   refine⟨(h.2 t y hy).1,?_⟩
   rw[← (h.2 t y hy).2]
   simp only[Act.put,Array.getD_eq_getD_getElem?]
   rw[Array.getElem?_setIfInBounds_ne (by omega)]
theorem vK.put {T:rR} {H:ru} (h:vK T H) (d:Option Tmp) {x:AV} (hx:∀ r∈x.refs,H r≠none):vK (T.put d x) H:=by
 intro t y hy
 cases d with
 | none=>exact h t y hy
 | some d =>
  by_cases ht:t=d
  ·subst ht;rw[rR.put_same] at hy;cases hy;exact hx
  ·rw[rR.put_ne _ _ _ ht] at hy;exact h t y hy
theorem ru.put_dom (H:ru) (k:Nat) (o:AO) {r:Nat} (h:H r≠none):(H.put k o) r≠none:=by
 unfold ru.put;split<;>simp[h]
theorem vK.grow {T:rR} {H H':ru} (h:vK T H) (hh:∀ r,H r≠none→H' r≠none):vK T H':=fun t x hx r hr=>hh r (h t x hx r hr)
theorem rT.drew {G:rO} {w0:World} {B0:sG} {e:Env} {H:ru} {w:World} (h:rT G w0 B0 e H w):rT G w0 B0 e H w.drew :=
 ⟨h.os,h.tape,h.output,h.size,h.old,h.gl,h.own,h.ge,h.glo,h.inj,fun k n l hk=>(h.rd k n l hk).same (Nat.le_refl _) (fun _ _ _=>rfl),h.apart,h.refs,h.env,h.new,fun k es hk=>⟨(h.mp k es hk).1.same (fun _ _ _=>rfl),(h.mp k es hk).2⟩⟩
def Env.setBlk (e:Env) (k b:Nat):Env := { e with blk:=fun j=>if j=k then b else e.blk j }
def Env.setHnd (e:Env) (k:Nat) (v:Value):Env := { e with hnd:=fun j=>if j=k then v else e.hnd j }
theorem Env.setBlk_on {H:ru} {k:Nat} (hk:H k=none) (e:Env) (b:Nat):Env.on H e (e.setBlk k b):=fun j hj=>by
 have:j≠k:=by rintro rfl;exact hj hk
 simp[Env.setBlk,this]
theorem Env.setHnd_on {H:ru} {k:Nat} (hk:H k=none) (e:Env) (v:Value):Env.on H e (e.setHnd k v):=fun j hj=>by
 have:j≠k:=by rintro rfl;exact hj hk
 simp[Env.setHnd,this]
theorem ru.put_eq {H:ru} {k j:Nat} {o o':AO} (h:(H.put k o) j=some o'):(j=k∧o'=o)∨(j≠k∧H j=some o'):=by
 by_cases hj:j=k
 ·subst hj;rw[ru.put_same] at h;cases h;exact .inl ⟨rfl,rfl⟩
 ·rw[ru.put_ne _ _ _ hj] at h;exact .inr ⟨hj,h⟩
theorem rT.lt {G:rO} {w0:World} {B0:sG} {e:Env} {H:ru} {w:World} (h:rT G w0 B0 e H w) {k:Nat} {c:List AV} {t:TypeId} (hk:H k=some (.own c t)):e.blk k<w.heap.size :=
 (Array.getElem?_eq_some_iff.1 (h.own k c t hk)).1
theorem rT.new_put {G:rO} {w0:World} {B0:sG} {e:Env} {H:ru} {w:World} (h:rT G w0 B0 e H w) {k:Nat} {o:AO} (ho:o.isOwn=true) :
  ∀ j n l,(H.put k o) j=some (.rd n l)→∀ b,wV (e.hnd j)=some b→w0.heap.size≤b∨∃ j∈B0.dom,wV (B0.env.hnd j)=some b:=by
 intro j n l hj b hv
 rcases ru.put_eq hj with⟨_,he⟩|⟨_,hj⟩
 ·subst he;cases ho
 ·exact h.new j n l hj b hv
theorem rT.alloc {G:rO} {w0:World} {B0:sG} {e:Env} {H:ru} {w:World} (h:rT G w0 B0 e H w) {k:Nat} (hk:H k=none) (c:List AV) (t:TypeId) (hc:∀ r∈AV.refss c,H r≠none) :
  rT G w0 B0 (e.setBlk k w.heap.size) (H.put k (.own c t)) (w.alloc (.cells (AV.vals e c).toArray t (0,0))):=by
 have hon:=Env.setBlk_on hk e w.heap.size
 have hne:∀ j o,H j=some o→j≠k:=fun j o hj=>by rintro rfl;rw[hk] at hj;cases hj
 have hb:∀ j,j≠k→(e.setBlk k w.heap.size).blk j=e.blk j:=fun j hj=>by simp[Env.setBlk,hj]
 have hbk:(e.setBlk k w.heap.size).blk k=w.heap.size:=by simp[Env.setBlk]
 have hlt:∀ x∈G,x.1<w.heap.size:=fun x hx=>(h.gl x hx).1
 refine⟨h.os,h.tape,h.output,?_,?_,?_,?_,?_,?_,?_,?_,?_,?_,fun j hj=>⟨ru.put_dom _ _ _ (h.env j hj).1,by rw[hb j (fun e=>(h.env j hj).1 (by rw[e];exact hk))];exact(h.env j hj).2.1,(h.env j hj).2.2⟩,rT.new_put h (by simp[AO.isOwn]),?_⟩
 ·have:=h.size;simp;omega
 ·intro b hb hb0
  rw[Below.heap_alloc _ _ _ (by have:=h.size;omega)];exact h.old b hb hb0
 ·exact h.gl.same (by simp) fun x hx=>Below.heap_alloc _ _ _ (hlt x hx)
 ·intro j c' t' hj
  rcases ru.put_eq hj with⟨rfl,he⟩|⟨hjk,hj⟩
  ·cases he
   rw[hbk,AV.vals_on hon c hc]
   show(w.heap.push _)[w.heap.size]? = _
   simp
  ·rw[hb j hjk,Below.heap_alloc _ _ _ (h.lt hj),AV.vals_on hon c' (fun r hr=>h.refs j _ hj r hr)];exact h.own j c' t' hj
 ·intro j c' t' hj
  rcases ru.put_eq hj with⟨rfl,he⟩|⟨hjk,hj⟩
  ·rw[hbk];exact .inl h.size
  ·rw[hb j hjk];exact h.ge j c' t' hj
 ·intro j c' t' hj x hx
  rcases ru.put_eq hj with⟨rfl,he⟩|⟨hjk,hj⟩
  ·rw[hbk];have:=hlt x hx;omega
  ·rw[hb j hjk];exact h.glo j c' t' hj x hx
 ·intro j c' t' j' c'' t'' hj hj' he
  rcases ru.put_eq hj with⟨h1,_⟩|⟨hjk,h1⟩<;>rcases ru.put_eq hj' with⟨h2,_⟩|⟨hjk',h2⟩
  ·omega
  ·rw[h1,hbk,hb j' hjk'] at he;have:=h.lt h2;omega
  ·rw[h2,hbk,hb j hjk] at he;have:=h.lt h1;omega
  ·rw[hb j hjk,hb j' hjk'] at he;exact h.inj j c' t' j' c'' t'' h1 h2 he
 ·intro j n l hj
  rcases ru.put_eq hj with⟨rfl,he⟩|⟨hjk,hj⟩
  ·cases he
  ·exact(h.rd j n l hj).same (by simp) (fun b _ hb=>Below.heap_alloc _ _ _ hb)
 ·intro j n l j' c' t' hj hj'
  rcases ru.put_eq hj with⟨_,he⟩|⟨hjk,h1⟩
  ·cases he
  ·rcases ru.put_eq hj' with⟨h2,_⟩|⟨hjk',h2⟩
   ·rw[h2,hbk];intro hv;have:=(h.rd j n l h1).lt hv;omega
   ·rw[hb j' hjk'];exact h.apart j n l j' c' t' h1 h2
 ·intro j o hj r hr
  rcases ru.put_eq hj with⟨rfl,rfl⟩|⟨hjk,hj⟩
  ·exact ru.put_dom _ _ _ (hc r hr)
  ·exact ru.put_dom _ _ _ (h.refs j o hj r hr)
 ·intro j es hj
  rcases ru.put_eq hj with⟨_,he⟩|⟨hjk,h1⟩
  ·cases he
  ·obtain⟨m1,m2⟩:=h.mp j es h1
   refine⟨m1.same (fun b _ hb=>Below.heap_alloc _ _ _ hb),fun j' c' t' hj'=>?_⟩
   rcases ru.put_eq hj' with⟨h2,_⟩|⟨hjk',h2⟩
   ·rw[h2,hbk];intro hv;have:=m1.lt hv;omega
   ·rw[hb j' hjk'];exact m2 j' c' t' h2
theorem rT.store {G:rO} {w0:World} {B0:sG} {e:Env} {H:ru} {w:World} (h:rT G w0 B0 e H w) {k:Nat} {c:List AV} {t:TypeId} (hk:H k=some (.own c t)) (c':List AV) (hc:∀ r∈AV.refss c',H r≠none)
  {w':World} (hw:w'=w.setRow (e.blk k) (AV.vals e c').toArray):rT G w0 B0 e (H.put k (.own c' t)) w':=by
 have hlt:=h.lt hk
 have hst:w' = { w with heap:=w.heap.setIfInBounds (e.blk k) (.cells (AV.vals e c').toArray t (0,0)) }:=by
  rw[hw]
  unfold World.setRow
  congr 1
  have ho:=h.own k c t hk
  apply Array.ext_getElem?
  intro i
  rw[Array.getElem?_modify]
  by_cases hi:e.blk k=i
  ·subst hi
   rw[Array.getElem?_eq_getElem hlt] at ho
   simp[Option.some.inj ho,hlt]
  ·simp[hi]
 clear hw
 subst hst
 have hoth:∀ b,b≠e.blk k→(w.heap.setIfInBounds (e.blk k) (.cells (AV.vals e c').toArray t (0,0)))[b]? = w.heap[b]?:=fun b hb=>Array.getElem?_setIfInBounds_ne (by omega)
 have hown:∀ j c'' t'',(H.put k (.own c' t)) j=some (.own c'' t'')→∃ c₁ t₁,H j=some (.own c₁ t₁):=fun j c'' t'' hj=>by
  rcases ru.put_eq hj with⟨rfl,_⟩|⟨_,hj⟩
  ·exact⟨_,_,hk⟩
  ·exact⟨_,_,hj⟩
 refine⟨h.os,h.tape,h.output,?_,?_,?_,?_,?_,?_,?_,?_,?_,?_,fun j hj=>⟨ru.put_dom _ _ _ (h.env j hj).1,(h.env j hj).2⟩,rT.new_put h (by simp[AO.isOwn]),?_⟩
 ·simpa using h.size
 ·intro b hb hb0
  have:b≠e.blk k:=by
   rcases h.ge k c t hk with hg|hg
   ·omega
   ·rintro rfl;exact hb0 hg
  rw[← h.old b hb hb0];exact hoth b this
 ·exact h.gl.same (by simp) fun x hx=>hoth x.1 (h.glo k c t hk x hx)
 ·intro j c'' t'' hj
  rcases ru.put_eq hj with⟨rfl,he⟩|⟨hjk,hj⟩
  ·cases he;simp[hlt]
  ·rw[← h.own j c'' t'' hj]
   exact hoth _ (fun he=>hjk (h.inj j _ _ k _ _ hj hk he))
 ·intro j c'' t'' hj
  obtain⟨c₁,t₁,hj⟩:=hown j c'' t'' hj
  exact h.ge j c₁ t₁ hj
 ·intro j c'' t'' hj x hx
  obtain⟨c₁,t₁,hj⟩:=hown j c'' t'' hj
  exact h.glo j c₁ t₁ hj x hx
 ·intro j _ _ j' _ _ hj hj' he
  obtain⟨c₁,t₁,hj⟩:=hown j _ _ hj
  obtain⟨c₂,t₂,hj'⟩:=hown j' _ _ hj'
  exact h.inj j _ _ j' _ _ hj hj' he
 ·intro j n l hj
  rcases ru.put_eq hj with⟨rfl,he⟩|⟨hjk,hj⟩
  ·cases he
  ·refine(h.rd j n l hj).same (by simp) (fun b hv hb=>hoth b ?_)
   rintro rfl;exact h.apart j n l k c t hj hk hv
 ·intro j n l j' c'' t'' hj hj'
  rcases ru.put_eq hj with⟨rfl,he⟩|⟨hjk,hj⟩
  ·cases he
  ·obtain⟨c₁,t₁,hj'⟩:=hown j' _ _ hj'
   exact h.apart j n l j' c₁ t₁ hj hj'
 ·intro j o hj r hr
  rcases ru.put_eq hj with⟨rfl,rfl⟩|⟨hjk,hj⟩
  ·exact ru.put_dom _ _ _ (hc r hr)
  ·exact ru.put_dom _ _ _ (h.refs j o hj r hr)
 ·intro j es hj
  rcases ru.put_eq hj with⟨_,he⟩|⟨hjk,h1⟩
  ·cases he
  ·obtain⟨m1,m2⟩:=h.mp j es h1
   refine⟨m1.same (fun b hv _=>hoth b ?_),fun j' c'' t'' hj'=>?_⟩
   ·rintro rfl;exact m2 k c t hk hv
   ·obtain⟨c₁,t₁,hj'⟩:=hown j' _ _ hj'
    exact m2 j' c₁ t₁ hj'
theorem rT.below {G:rO} {w0:World} {B0:sG} {e:Env} {H:ru} {w w':World} (h:rT G w0 B0 e H w) (hb:q9 w w'):rT G w0 B0 e H w':=by
 have hbl:=Below.block hb
 have hsz:=Below.size hb
 refine⟨(Below.os hb).trans h.os,(Below.tape hb).trans h.tape,(Below.output hb).trans h.output,Nat.le_trans h.size hsz,?_,h.gl.bel hb,?_,h.ge,h.glo,h.inj,?_,h.apart,h.refs,h.env,h.new,fun k es hk=>⟨(h.mp k es hk).1.same (fun b _ hlt=>hbl b hlt),(h.mp k es hk).2⟩⟩
 ·intro b hb' hb0;rw[hbl b (Nat.lt_of_lt_of_le hb' h.size)];exact h.old b hb' hb0
 ·intro k c t hk;rw[hbl _ (h.lt hk)];exact h.own k c t hk
 ·intro k n l hk;exact(h.rd k n l hk).same hsz (fun b _ hlt=>hbl b hlt)
theorem rT.handle {G:rO} {w0:World} {B0:sG} {e:Env} {H:ru} {w:World} (h:rT G w0 B0 e H w) {k:Nat} (hk:H k=none) {v:Value} {n:Nat} {l:List Value} (hr:Reads w v n l)
  (ha:∀ j c t,H j=some (.own c t)→wV v≠some (e.blk j)) (hw:∀ b,wV v=some b→w0.heap.size≤b∨∃ j∈B0.dom,wV (B0.env.hnd j)=some b):rT G w0 B0 (e.setHnd k v) (H.put k (.rd n l)) w:=by
 have hon:=Env.setHnd_on hk e v
 have hne:∀ j o,H j=some o→j≠k:=fun j o hj=>by rintro rfl;rw[hk] at hj;cases hj
 have hown:∀ j c t,(H.put k (.rd n l)) j=some (.own c t)→H j=some (.own c t):=fun j c t hj=>by
  rcases ru.put_eq hj with⟨rfl,he⟩|⟨_,hj⟩
  ·cases he
  ·exact hj
 refine⟨h.os,h.tape,h.output,h.size,h.old,h.gl,?_,?_,?_,?_,?_,?_,?_,fun j hj=>⟨ru.put_dom _ _ _ (h.env j hj).1,(h.env j hj).2.1,by
  have:j≠k:=fun e=>(h.env j hj).1 (by rw[e];exact hk)
  simpa [Env.setHnd,this] using(h.env j hj).2.2⟩,fun j m l' hj b hv=>by
  rcases ru.put_eq hj with⟨h1,_⟩|⟨hjk,h1⟩
  ·rw[h1] at hv;exact hw b (by simpa [Env.setHnd] using hv)
  ·exact h.new j m l' h1 b (by simpa [Env.setHnd,hjk] using hv),fun j es hj=>by
  rcases ru.put_eq hj with⟨_,he⟩|⟨hjk,h1⟩
  ·cases he
  ·obtain⟨m1,m2⟩:=h.mp j es h1
   have e1:(e.setHnd k v).hnd j=e.hnd j:=by simp[Env.setHnd,hjk]
   rw[e1]
   exact⟨m1,fun j' c t hj'=>m2 j' c t (hown j' c t hj')⟩⟩
 ·intro j c t hj
  rw[AV.vals_on hon c (fun r hr=>h.refs j _ (hown j c t hj) r hr)];exact h.own j c t (hown j c t hj)
 ·intro j c t hj;exact h.ge j c t (hown j c t hj)
 ·intro j c t hj;exact h.glo j c t (hown j c t hj)
 ·intro j c t j' c' t' hj hj';exact h.inj j c t j' c' t' (hown _ _ _ hj) (hown _ _ _ hj')
 ·intro j m l' hj
  rcases ru.put_eq hj with⟨rfl,he⟩|⟨hjk,hj⟩
  ·cases he;simpa [Env.setHnd] using hr
  ·simpa [Env.setHnd,hjk] using h.rd j m l' hj
 ·intro j m l' j' c t hj hj'
  have h2:=hown _ _ _ hj'
  rcases ru.put_eq hj with⟨h1,he⟩|⟨hjk,h1⟩
  ·rw[h1];simpa [Env.setHnd] using ha j' c t h2
  ·simpa [Env.setHnd,hjk] using h.apart j m l' j' c t h1 h2
 ·intro j o hj r hr
  rcases ru.put_eq hj with⟨rfl,rfl⟩|⟨hjk,hj⟩
  ·simp[AO.refs] at hr
  ·exact ru.put_dom _ _ _ (h.refs j o hj r hr)
theorem rT.less {G:rO} {w0:World} {B0:sG} {e:Env} {H H':ru} {w:World} (h:rT G w0 B0 e H w) (hs:∀ k o,H' k=some o→H k=some o) (hr:∀ k o,H' k=some o→∀ r∈o.refs,H' r≠none) (hd:∀ k∈B0.dom,H' k≠none):rT G w0 B0 e H' w :=
 ⟨h.os,h.tape,h.output,h.size,h.old,h.gl,fun k c t hk=>h.own k c t (hs _ _ hk),fun k c t hk=>h.ge k c t (hs _ _ hk),fun k c t hk=>h.glo k c t (hs _ _ hk),
  fun k c t k' c' t' hk hk'=>h.inj k c t k' c' t' (hs _ _ hk) (hs _ _ hk'),fun k n l hk=>h.rd k n l (hs _ _ hk),fun k n l k' c t hk hk'=>h.apart k n l k' c t (hs _ _ hk) (hs _ _ hk'),hr,fun k hk=>⟨hd k hk,(h.env k hk).2⟩,fun k n l hk=>h.new k n l (hs _ _ hk),fun k es hk=>⟨(h.mp k es (hs _ _ hk)).1,fun j c t hj=>(h.mp k es (hs _ _ hk)).2 j c t (hs _ _ hj)⟩⟩
theorem rT.adopt {G:rO} {w0:World} {B0:sG} {e:Env} {H:ru} {w w':World} (h:rT G w0 B0 e H w) (hw:q9 w w') {k:Nat} (hk:H k=none) {b:Nat} (hb:w.heap.size≤b) {c:List AV} {t:TypeId} (hc:∀ r∈AV.refss c,H r≠none)
  (ho:w'.heap[b]? = some (.cells (AV.vals e c).toArray t (0,0))):rT G w0 B0 (e.setBlk k b) (H.put k (.own c t)) w':=by
 have h':=h.below hw
 have hon:=Env.setBlk_on hk e b
 have hbk:(e.setBlk k b).blk k=b:=by simp[Env.setBlk]
 have hbl:∀ j,j≠k→(e.setBlk k b).blk j=e.blk j:=fun j hj=>by simp[Env.setBlk,hj]
 refine⟨h'.os,h'.tape,h'.output,h'.size,h'.old,h'.gl,?_,?_,?_,?_,?_,?_,?_,fun j hj=>⟨ru.put_dom _ _ _ (h.env j hj).1,by rw[hbl j (fun e=>(h.env j hj).1 (by rw[e];exact hk))];exact(h.env j hj).2.1,(h.env j hj).2.2⟩,rT.new_put h (by simp[AO.isOwn]),?_⟩
 ·intro j c' t' hj
  rcases ru.put_eq hj with⟨rfl,he⟩|⟨hjk,hj⟩
  ·cases he;rw[hbk,AV.vals_on hon c hc];exact ho
  ·rw[hbl j hjk,AV.vals_on hon c' (fun r hr=>h.refs j _ hj r hr)];exact h'.own j c' t' hj
 ·intro j c' t' hj
  rcases ru.put_eq hj with⟨rfl,he⟩|⟨hjk,hj⟩
  ·rw[hbk];exact .inl (Nat.le_trans h.size hb)
  ·rw[hbl j hjk];exact h.ge j c' t' hj
 ·intro j c' t' hj x hx
  rcases ru.put_eq hj with⟨rfl,he⟩|⟨hjk,hj⟩
  ·rw[hbk];have:=(h.gl x hx).1;omega
  ·rw[hbl j hjk];exact h.glo j c' t' hj x hx
 ·intro j c' t' j' c'' t'' hj hj' he
  rcases ru.put_eq hj with⟨h1,_⟩|⟨hjk,h1⟩<;>rcases ru.put_eq hj' with⟨h2,_⟩|⟨hjk',h2⟩
  ·omega
  ·rw[h1,hbk,hbl j' hjk'] at he;have:=h.lt h2;omega
  ·rw[h2,hbk,hbl j hjk] at he;have:=h.lt h1;omega
  ·rw[hbl j hjk,hbl j' hjk'] at he;exact h.inj j c' t' j' c'' t'' h1 h2 he
 ·intro j n l hj
  rcases ru.put_eq hj with⟨rfl,he⟩|⟨hjk,hj⟩
  ·cases he
  ·exact h'.rd j n l hj
 ·intro j n l j' c' t' hj hj'
  rcases ru.put_eq hj with⟨_,he⟩|⟨hjk,h1⟩
  ·cases he
  ·rcases ru.put_eq hj' with⟨h2,_⟩|⟨hjk',h2⟩
   ·rw[h2,hbk];intro hv;have:=(h.rd j n l h1).lt hv;omega
   ·rw[hbl j' hjk'];exact h.apart j n l j' c' t' h1 h2
 ·intro j o hj r hr
  rcases ru.put_eq hj with⟨rfl,rfl⟩|⟨hjk,hj⟩
  ·exact ru.put_dom _ _ _ (hc r hr)
  ·exact ru.put_dom _ _ _ (h.refs j o hj r hr)
 ·intro j es hj
  rcases ru.put_eq hj with⟨_,he⟩|⟨hjk,h1⟩
  ·cases he
  ·obtain⟨m1,m2⟩:=h'.mp j es h1
   refine⟨m1,fun j' c' t' hj'=>?_⟩
   rcases ru.put_eq hj' with⟨h2,_⟩|⟨hjk',h2⟩
   ·rw[h2,hbk];intro hv;have:=(h.mp j es h1).1.lt hv;omega
   ·rw[hbl j' hjk'];exact m2 j' c' t' h2
theorem rT.adoptM {G:rO} {w0:World} {B0:sG} {e:Env} {H:ru} {w w':World} (h:rT G w0 B0 e H w) (hw:q9 w w') {k:Nat} (hk:H k=none) {b:Nat} (hb:w.heap.size≤b) {es:List (Value×Value)}
  (ho:w'.heap[b]? = some (Ba es)):rT G w0 B0 (e.setHnd k (.map (some b))) (H.put k (.mp es)) w':=by
 have h':=h.below hw
 have hon:=Env.setHnd_on hk e (.map (some b))
 have hown:∀ j c t,(H.put k (.mp es)) j=some (.own c t)→H j=some (.own c t):=fun j c t hj=>by
  rcases ru.put_eq hj with⟨rfl,he⟩|⟨_,hj⟩
  ·cases he
  ·exact hj
 have hrd:∀ j n l,(H.put k (.mp es)) j=some (.rd n l)→j≠k∧H j=some (.rd n l):=fun j n l hj=>by
  rcases ru.put_eq hj with⟨rfl,he⟩|⟨hjk,hj⟩
  ·cases he
  ·exact⟨hjk,hj⟩
 have hh:∀ j,j≠k→(e.setHnd k (.map (some b))).hnd j=e.hnd j:=fun j hj=>by simp[Env.setHnd,hj]
 have hhk:(e.setHnd k (.map (some b))).hnd k = .map (some b):=by simp[Env.setHnd]
 refine⟨h'.os,h'.tape,h'.output,h'.size,h'.old,h'.gl,?_,?_,?_,?_,?_,?_,?_,fun j hj=>⟨ru.put_dom _ _ _ (h.env j hj).1,(h.env j hj).2.1,by rw[hh j (fun e=>(h.env j hj).1 (by rw[e];exact hk))];exact(h.env j hj).2.2⟩,?_,?_⟩
 ·intro j c t hj
  rw[AV.vals_on hon c (fun r hr=>h.refs j _ (hown j c t hj) r hr)];exact h'.own j c t (hown j c t hj)
 ·intro j c t hj;exact h'.ge j c t (hown j c t hj)
 ·intro j c t hj;exact h'.glo j c t (hown j c t hj)
 ·intro j c t j' c' t' hj hj';exact h'.inj j c t j' c' t' (hown _ _ _ hj) (hown _ _ _ hj')
 ·intro j n l hj
  obtain⟨h1,h2⟩:=hrd j n l hj
  rw[hh j h1];exact h'.rd j n l h2
 ·intro j n l j' c t hj hj'
  obtain⟨h1,h2⟩:=hrd j n l hj
  rw[hh j h1];exact h'.apart j n l j' c t h2 (hown _ _ _ hj')
 ·intro j o hj r hr
  rcases ru.put_eq hj with⟨rfl,rfl⟩|⟨hjk,hj⟩
  ·simp[AO.refs] at hr
  ·exact ru.put_dom _ _ _ (h.refs j o hj r hr)
 ·intro j n l hj b' hv
  obtain⟨h1,h2⟩:=hrd j n l hj
  rw[hh j h1] at hv;exact h'.new j n l h2 b' hv
 ·intro j es' hj
  rcases ru.put_eq hj with⟨rfl,he⟩|⟨hjk,h1⟩
  ·cases he
   rw[hhk]
   refine⟨⟨b,rfl,ho⟩,fun j' c' t' hj' hv=>?_⟩
   simp only[Me,Option.some.injEq] at hv
   have:=h.lt (hown j' c' t' hj')
   have e1:(e.setHnd j (.map (some b))).blk j'=e.blk j':=rfl
   omega
  ·rw[hh j hjk]
   obtain⟨m1,m2⟩:=h'.mp j es' h1
   exact⟨m1,fun j' c' t' hj'=>m2 j' c' t' (hown j' c' t' hj')⟩
open Go.RowKit
def tK (P:Program) (t:TypeId):Option Nat:=(P.info? t).map (·.size)
def Da (P:Program) (t:TypeId):Option Bool:=match P.underlying t with|none=>none|some (.struct _)=>some true|some (.array _ _)=>some true|some _=>some false
def Bb (P:Program) (t:TypeId) (f:Nat):Option (Nat×TypeId):=match P.underlying t with|some (.struct fs)=>(fs[f]?).map fun x=>(x.offset,x.type)|_=>none
def yK (P:Program) (t:TypeId):Option (Nat×TypeId):=match P.underlying t with|some (.array n e)=>some (n,e)|_=>none
def Bc (P:Program) (t:TypeId):Option TypeId:=match P.underlying t with|some (.slice e)=>some e|_=>none
def Gd (P:Program) (t:TypeId):Option IntKind:=match P.underlying t with|some (.int k)=>some k|_=>none
def Aj (P:Program) (t:TypeId):Option (List Value):=((P.info? t).bind (·.zero)).map (·.cells.toList)
def tZ:List AV→Option (List Value)
 | []=>some []
 | .v x::l=>match tZ l with|some vs=>some (x::vs)|none=>none
 | _::_=>none
def wM (l:List AV):AV:=match tZ l with|some vs=>.v (.agg vs.toArray)|none=>.agg l
def xA (l:List AV):AV:=match tZ l with|some vs=>.v (.tuple vs.toArray)|none=>.tup l
def xB (f:Fn) (a c:List AV):AV:=match tZ a,tZ c with|some x,some y=>.v (.func f x.toArray y.toArray)|_,_=>.fn f a c
theorem Db {e:Env} : ∀ {l:List AV} {vs:List Value},tZ l=some vs→AV.vals e l=vs
 | [],vs,h=>by simp only[tZ,Option.some.injEq] at h;subst h;rfl
 | x::l,vs,h=>by
  cases x<;>simp only[tZ] at h<;>try cases h
  rename_i x
  cases hl:tZ l with
  | none=>rw[hl] at h;cases h
  | some ws =>
   rw[hl] at h
   simp only[Option.some.injEq] at h
   subst h
   rw[AV.vals,Db hl];rfl
theorem JS (e:Env) (l:List AV):(wM l).val e = .agg (AV.vals e l).toArray:=by
 unfold wM
 cases h:tZ l with
 | none=>rfl
 | some vs=>simp only[AV.val,Db h]
theorem OI (e:Env) (l:List AV):(xA l).val e = .tuple (AV.vals e l).toArray:=by
 unfold xA
 cases h:tZ l with
 | none=>rfl
 | some vs=>simp only[AV.val,Db h]
theorem ab2 (e:Env) (f:Fn) (a c:List AV):(xB f a c).val e = .func f (AV.vals e a).toArray (AV.vals e c).toArray:=by
 unfold xB
 cases h:tZ a<;>cases h':tZ c<;>simp only[AV.val]
 rw[Db h,Db h']
theorem OJ {l:List AV} {r:Nat} (h:r∈(wM l).refs):r∈AV.refss l:=by
 unfold wM at h;split at h
 ·simp[AV.refs] at h
 ·simpa [AV.refs] using h
theorem ab3 {l:List AV} {r:Nat} (h:r∈(xA l).refs):r∈AV.refss l:=by
 unfold xA at h;split at h
 ·simp[AV.refs] at h
 ·simpa [AV.refs] using h
theorem Ua {f:Fn} {a c:List AV} {r:Nat} (h:r∈(xB f a c).refs):r∈AV.refss a++AV.refss c:=by
 unfold xB at h;split at h
 ·simp[AV.refs] at h
 ·simpa [AV.refs] using h
def tL:AV→List AV
 | .v x=>x.cells.toList.map .v
 | .agg l=>l
 | x=>[x]
theorem vX (e:Env) (l:List Value):AV.vals e (l.map .v)=l:=by
 induction l with
 | nil=>rfl
 | cons x l ih=>rw[List.map_cons,AV.vals,ih];rfl
theorem Bd (l:List Value):AV.refss (l.map .v) = []:=by
 induction l with
 | nil=>rfl
 | cons x l ih=>rw[List.map_cons,AV.refss,ih];rfl
theorem ab4 (v:Value):(zQ v).cells = #[zQ v]:=by cases v<;>rfl
theorem Mf (e:Env) (a:AV):(a.val e).cells=(AV.vals e (tL a)).toArray:=by
 cases a with
 | v x=>simp[tL,vX,AV.val]
 | agg l=>rfl
 | hd k=>simp only[tL,AV.vals,AV.val,ab4]
 | ha k off=>simp only[tL,AV.vals,AV.val];split<;>rfl
 | _=>rfl
theorem Mg {a:AV} {r:Nat} (h:r∈AV.refss (tL a)):r∈a.refs:=by
 cases a<;>simp_all[tL,Bd,AV.refss,AV.refs]
def Ep:AV→Bool
 | .v (.agg _)=>false
 | .v (.tuple _)=>false
 | .v _=>true
 | .agg _=>false
 | .tup _=>false
 | .ha _ _=>false
 | _=>true
theorem ab5 {e:Env} {a:AV} (h:Ep a=true):(a.val e).oneCell'=true:=by
 cases a with
 | v x=>cases x<;>first|rfl|simp[Ep] at h
 | hd k=>simp only[AV.val];cases e.hnd k<;>rfl
 | _=>first|rfl|simp[Ep] at h
def JU (G:rO) (g:Nat):Option (List Value):=match G with
 | []=>none
 | x::l=>if x.1=g then some x.2 else JU l g
theorem ab6 {G:rO} {g:Nat} {c:List Value} (h:JU G g=some c):∃ x∈G,x.1=g∧x.2=c:=by
 induction G with
 | nil=>cases h
 | cons x G ih =>
  simp only[JU] at h
  split at h
  ·rename_i hk;cases h;exact⟨x,List.mem_cons_self,hk,rfl⟩
  ·obtain⟨y,hy,r⟩:=ih h;exact⟨y,List.mem_cons_of_mem _ hy,r⟩
def vL (P:Program) (t:TypeId) (c:List AV) (off:Nat):Option AV :=
 match Da P t with
 | some true=>match tK P t with
  | some s=>if off+s≤c.length∧0<s then some (wM ((c.drop off).take s)) else none
  | none=>none
 | some false=>c[off]?
 | none=>none
theorem Gf {P:Program} {t:TypeId} {c:List AV} {off:Nat} {r:AV} (h:vL P t c off=some r) {b:Nat} (hb:b∈r.refs):b∈AV.refss c:=by
 unfold vL at h
 split at h
 ·split at h
  ·split at h
   ·cases h
    obtain⟨x,hx,hr⟩:=AV.mem_refss.1 (OJ hb)
    exact AV.mem_refss.2 ⟨x,List.mem_of_mem_drop (List.mem_of_mem_take hx),hr⟩
   ·cases h
  ·cases h
 ·exact AV.mem_refss.2 ⟨r,List.mem_of_getElem? h,hb⟩
 ·cases h
theorem Gg {P:Program} {t:TypeId} {b:Bool} (h:Da P t=some b) (w:World):(isAgg t).run P w = .ok b w:=by
 unfold Da at h
 unfold isAgg
 cases hu:P.underlying t with
 | none=>rw[hu] at h;cases h
 | some d =>
  rw[hu] at h
  cases d<;>simp[run_underlying hu] at h ⊢ <;> exact h.symm▸rfl
theorem run_sizeOf {P:Program} {t:TypeId} {s:Nat} (h:tK P t=some s) (w:World):(sizeOf t).run P w = .ok s w:=by
 unfold tK at h
 cases hi:P.info? t with
 | none=>rw[hi] at h;cases h
 | some i =>
  rw[hi] at h
  simp at h
  simp[sizeOf,typeInfo,hi,h]
theorem zA (e:Env) (l:List AV):(AV.vals e l).length=l.length:=by rw[AV.vals_map];simp
theorem OL {P:Program} {t:TypeId} {c:List AV} {off:Nat} {r:AV} {e:Env} {w:World} {b o:Nat} (h:vL P t c off=some r)
  (hc:∀ j x,(AV.vals e c)[j]? = some x→w.cell? ⟨b,o+j,none⟩=some x) :
  (loadVar t ⟨b,o+off,none⟩).run P w = .ok (r.val e) w:=by
 have hadd:∀ n i:Nat,(⟨b,n,none⟩:Addr).add i=⟨b,n+i,none⟩:=fun n i=>by unfold Addr.add;split<;>simp_all
 unfold vL at h
 unfold loadVar
 cases ha:Da P t with
 | none=>rw[ha] at h;cases h
 | some q =>
  rw[ha] at h
  cases q with
  | true =>
   simp only at h
   cases hs:tK P t with
   | none=>rw[hs] at h;cases h
   | some s =>
    rw[hs] at h
    simp only at h
    split at h
    ·rename_i hle
     cases h
     have hl:(AV.vals e ((c.drop off).take s)).length=s:=by rw[zA];simp;omega
     have:=run_loadCells_list (P:=P) w ⟨b,o+off,none⟩ (AV.vals e ((c.drop off).take s)) (fun j x hj=>by
      rw[hadd,Nat.add_assoc]
      refine hc _ _ ?_
      rw[AV.vals_map] at hj ⊢
      simp only[List.getElem?_map,List.getElem?_take,List.getElem?_drop] at hj ⊢
      split at hj
      ·exact hj
      ·simp at hj)
     rw[hl] at this
     simp[Gg ha,run_sizeOf hs,this,JS]
    ·cases h
  | false =>
   have hx:w.cell? ⟨b,o+off,none⟩=some (r.val e):=hc off _ (by rw[AV.vals_map];simp[h])
   simp[Gg ha,hx]
abbrev Er:=Option (AV×List Nat×List (Nat×AO))
def xM (P:Program) (G:rO) (t:TypeId) (H:ru):AV→Er
 | .loc b off=>match H b with
  | some (.own c _)=>match vL P t c off with|some r=>some (r,[b],[])|none=>none
  | _=>none
 | .ha k off=>match H k with
  | some (.rd _ c)=>match vL P t (c.map .v) off with|some r=>some (r,[k],[])|none=>none
  | _=>none
 | .v (.pointer (some ⟨g,off,none⟩))=>match JU G g with
  | some c=>match vL P t (c.map .v) off with|some r=>some (r,[],[])|none=>none
  | none=>none
 | _=>none
def BP (P:Program) (t:TypeId) (H:ru) (x y:AV):Er :=
 match x with
 | .loc b off=>match H b with
  | some (.own c tt) =>
   if (tL y).all Ep&&decide (tK P t=some (tL y).length)&&decide (off+(tL y).length≤c.length) then
    some (.v undef,[b],[(b,.own (c.take off++tL y++c.drop (off+(tL y).length)) tt)])
   else none
  | _=>none
 | _=>none
def Dc (P:Program) (t:TypeId) (f:Nat) (x:AV):Option AV :=
 match x with
 | .v (.agg _) | .agg _=>match Bb P t f with
  | some (off,ft)=>vL P ft (tL x) off
  | none=>none
 | _=>none
def De (P:Program) (t:TypeId) (f:Nat) (x:AV):Option AV :=
 match Bb P t f with
 | some (off,ft)=>match tK P ft with
  | some (_+1)=>match x with
   | .loc b o=>some (.loc b (o+off))
   | .ha k o=>some (.ha k (o+off))
   | .v (.pointer (some ⟨g,o,none⟩))=>some (.v (.pointer (some ⟨g,o+off,none⟩)))
   | _=>none
  | _=>none
 | none=>none
def zD (P:Program) (t:TypeId) (H:ru) (x i:AV):Option (AV×List Nat) :=
 match i with
 | .v (.int _ n)=>match x with
  | .loc b o=>match yK P t with
   | some (len,el)=>match tK P el with
    | some s=>if 0≤n∧n<len then some (.loc b (o+n.toNat*s),[]) else none
    | none=>none
   | none=>none
  | .v (.pointer (some ⟨g,o,none⟩))=>match yK P t with
   | some (len,el)=>match tK P el with
    | some s=>if 0≤n∧n<len then some (.v (.pointer (some ⟨g,o+n.toNat*s,none⟩)),[]) else none
    | none=>none
   | none=>none
  | .sl b o len _=>match Bc P t with
   | some el=>match tK P el with
    | some s=>if 0≤n∧n<len then some (.loc b (o+n.toNat*s),[]) else none
    | none=>none
   | none=>none
  | .hd k=>match H k with
   | some (.rd len _)=>match Bc P t with
    | some el=>match tK P el with
     | some s=>if 0≤n∧n<len then some (.ha k (n.toNat*s),[k]) else none
     | none=>none
    | none=>none
   | _=>none
  | _=>none
 | _=>none
def Df (P:Program) (t:TypeId) (x i:AV):Option AV :=
 match x,i with
 | .v (.agg cs),.v (.int _ n)=>match yK P t with
  | some (len,el)=>match tK P el with
   | some s=>if 0≤n∧n<len then vL P el (cs.toList.map .v) (n.toNat*s) else none
   | none=>none
  | none=>none
 | .agg cs,.v (.int _ n)=>match yK P t with
  | some (len,el)=>match tK P el with
   | some s=>if 0≤n∧n<len then vL P el cs (n.toNat*s) else none
   | none=>none
  | none=>none
 | _,_=>none
def Gh (x:AV) (i:Nat):Option AV :=
 match x with
 | .v (.tuple vs)=>match vs.toList[i]? with|some v=>some (.v v)|none=>none
 | .tup l=>l[i]?
 | _=>none
def zR (place:Nat→Option (Nat×Nat)) (cells:List AV):List (Nat×AV)→Option (List AV)
 | []=>some cells
 | (i,x)::rest=>match place i with
  | none=>none
  | some (off,size)=>if (tL x).length=size∧off+size≤cells.length then zR place (cells.take off++tL x++cells.drop (off+size)) rest else none
def JV (P:Program) (t:TypeId) (i:Nat):Option (Nat×Nat) :=
 match P.underlying t with
 | some (.struct fs)=>match fs[i]? with
  | some f=>match tK P f.type with|some s=>some (f.offset,s)|none=>none
  | none=>none
 | some (.array _ e)=>match tK P e with|some s=>some (i*s,s)|none=>none
 | _=>none
def Mh (P:Program) (t:TypeId):Bool :=
 match P.underlying t with
 | some (.struct fs)=>fs.toList.all fun f=>(tK P f.type).isSome
 | some (.array _ e)=>(tK P e).isSome
 | _=>false
def yL (ρ:Operand→Option AV):List (Nat×Operand)→Option (List (Nat×AV))
 | []=>some []
 | (i,x)::l=>match ρ x,yL ρ l with
  | some a,some r=>some ((i,a)::r)
  | _,_=>none
def xN (ρ:Operand→Option AV):List Operand→Option (List AV)
 | []=>some []
 | x::l=>match ρ x,xN ρ l with
  | some a,some r=>some (a::r)
  | _,_=>none
def Es (op:BinOp) (k:IntKind) (x y:Int):Value :=
 let a:=BitVec.ofInt k.bits x
 let b:=BitVec.ofInt k.bits y
 .int k (k.wrap (match op with | .and=>a&&&b | .or=>a|||b | .xor=>a ^^^ b|_=>a &&& ~~~b).toNat)
def wN (P:Program) (op:BinOp) (t:TypeId) (x y:Value):Option Value :=
 match x,y with
 | .int k a,.int k' b=>match op with
  | .shl=>if b<0 then none else some (.int k (k.wrap (a*2^min b.toNat k.bits)))
  | .shr=>if b<0 then none else some (.int k (a.fdiv (2^min b.toNat k.bits)))
  | .add=>if k=k' then some (.int k (k.wrap (a+b))) else none
  | .sub=>if k=k' then some (.int k (k.wrap (a-b))) else none
  | .mul=>if k=k' then some (.int k (k.wrap (a*b))) else none
  | .quo=>if k=k'∧b≠0 then some (.int k (k.wrap (a.tdiv b))) else none
  | .rem=>if k=k'∧b≠0 then some (.int k (a.tmod b)) else none
  | .and=>if k=k' then some (Es .and k a b) else none
  | .or=>if k=k' then some (Es .or k a b) else none
  | .xor=>if k=k' then some (Es .xor k a b) else none
  | .andNot=>if k=k' then some (Es .andNot k a b) else none
  | .eql=>if k=k' then some (.bool (a==b)) else none
  | .neq=>if k=k' then some (.bool (a != b)) else none
  | .lss=>if k=k' then some (.bool (decide (a<b))) else none
  | .leq=>if k=k' then some (.bool (decide (a≤b))) else none
  | .gtr=>if k=k' then some (.bool (decide (a>b))) else none
  | .geq=>if k=k' then some (.bool (decide (a≥b))) else none
 | .bool a,.bool b=>match op with
  | .eql=>match P.underlying t with|some .bool=>some (.bool (a==b))|_=>none
  | .neq=>match P.underlying t with|some .bool=>some (.bool (!(a==b)))|_=>none
  | _=>none
 | _,_=>none
abbrev tu:=BinOp→TypeId→Value→Value→Option Value
def BQ (P:Program) (E:tu):Prop:=∀ op t x y v,E op t x y=some v→∀ (xo yo:Operand) (w:World),(do eqGuard op t xo yo x y;binOp op t x y:Sem Value).run P w = .ok v w
def Dg (P:Program) (E:tu) (op:BinOp) (t:TypeId) (x y:AV):Option AV :=
 match x,y with
 | .v a,.v b=>match wN P op t a b with
  | some v=>some (.v v)
  | none=>match E op t a b with|some v=>some (.v v)|none=>none
 | _,_=>none
def Gi (op:UnOp) (x:AV):Option AV :=
 match op,x with
 | .neg,.v (.int k n)=>some (.v (.int k (k.wrap (0-n))))
 | .xor,.v (.int k n)=>some (.v (Es .xor k (if k.signed then -1 else k.max) n))
 | .not,.v (.bool b)=>some (.v (.bool !b))
 | _,_=>none
def Mi (P:Program) (src dst:TypeId) (x:AV):Option AV :=
 match x with
 | .v (.int _ n)=>match Gd P dst,P.underlying src with
  | some k,some _=>some (.v (.int k (k.wrap n)))
  | _,_=>none
 | _=>none
def Mj (x:AV):Option AV :=
 match x with
 | .loc _ _=>some x
 | .v (.func (.func _) _ _)=>some x
 | .v (.pointer (some _))=>some x
 | .fn (.func _) _ _=>some x
 | _=>none
def Mk (z:List Value) (j:Nat):Nat→List Value
 | 0=>[]
 | n+1=>(z[j%z.length]?).getD default::Mk z (j+1) n
def BR (z:List Value) (n:Nat):List Value:=Mk z 0 n
theorem Ub (z:List Value):∀ (n j:Nat),Mk z j n=(List.range' j n).map fun i=>z.toArray[i%z.length]!
 | 0,j=>rfl
 | n+1,j=>by
  rw[Mk,List.range'_succ,List.map_cons,Ub z n (j+1)]
  simp[List.getElem!_toArray,List.getElem!_eq_getElem?_getD]
theorem Uc (z:List Value) (n:Nat):BR z n=(List.range n).map fun j=>z.toArray[j%z.length]!:=by
 rw[BR,Ub,List.range_eq_range']
def Gj (P:Program) (t:TypeId) (len:Nat) (k:Nat) (ps:List (Nat×AV)):Er :=
 match Bc P t with
 | some el=>match tK P el,Aj P el with
  | some s,some z =>
   if len*s≤2^24∧len*s≠0 then
    match zR (fun i=>some (i*s,s)) ((BR z (len*s)).map .v) ps with
    | some c=>some (.sl k 0 len len,[],[(k,.own c el)])
    | none=>none
   else none
  | _,_=>none
 | none=>none
def yM (P:Program) (t:TypeId) (H:ru) (x:AV):Option (AV×List Nat) :=
 match P.underlying t with
 | some (.slice _)=>match x with
  | .sl _ _ n _=>some (.v (.int .i64 n),[])
  | .hd k=>match H k with|some (.rd n _)=>some (.v (.int .i64 n),[k])|_=>none
  | .v (.slice _ n _)=>some (.v (.int .i64 n),[])
  | _=>none
 | some .string=>match x with | .v (.string s)=>some (.v (.int .i64 s.size),[])|_=>none
 | some (.array n _)=>some (.v (.int .i64 n),[])
 | _=>none
def OM (P:Program) (t:TypeId):Option Nat:=(P.info? t).map (·.bytes)
def BS (P:Program) (t:TypeId) (H:ru) (x:AV):Option (AV×List Nat) :=
 match yK P t with
 | some (n,_)=>match x with
  | .sl b o len _=>if n≤len then some (.loc b o,[]) else none
  | .hd k=>match H k with|some (.rd len _)=>if n≤len∧0<len then some (.ha k 0,[k]) else none|_=>none
  | _=>none
 | none=>none
def Gm (P:Program) (t:TypeId) (k:Nat) (x y:AV):Er :=
 match x,y with
 | .v (.int _ n),.v (.int _ m)=>match Bc P t with
  | some el=>match tK P el,Aj P el,OM P el with
   | some s,some z,some b=>if 0≤n∧n≤m∧m<16777216∧b≤4096∧m.toNat*s≠0 then some (.sl k 0 n.toNat m.toNat,[],[(k,.own ((BR z (m.toNat*s)).map .v) el)]) else none
   | _,_,_=>none
  | none=>none
 | _,_=>none
def JW (P:Program) (t:TypeId) (x:AV):Option AV :=
 match yK P t with
 | some (n,el)=>match x,tK P el with
  | .loc b o,some _=>some (.sl b o n n)
  | _,_=>none
 | none=>none
def wt (x:Option AV):Er:=match x with|some a=>some (a,[],[])|none=>none
def ze (x:Option (AV×List Nat)):Er:=match x with|some (a,l)=>some (a,l,[])|none=>none
def BU (kd:IntKind) (n:Int):List (Value×Value)→Option (Option Value)
 | []=>some none
 | x::l=>match x.1 with
  | .int k' m=>if kd=k' then(if n=m then some (some x.2) else BU kd n l) else none
  | _=>none
def OO (P:Program) (t:TypeId):Option Value:=(P.info? t).bind (·.zero)
def Ak (q:Bool) (v:Value) (b:Bool):Value:=if q then .tuple #[v,.bool b] else v
def Be (P:Program) (t:TypeId) (H:ru) (x i:AV) (q:Bool):Option (AV×List Nat):=match x,i with
 | .hd k,.v (.int kd n)=>match H k with
  | some (.mp es)=>match P.underlying t with
   | some (.map kt et)=>match Gd P kt with
    | some kd'=>if kd'=kd then match BU kd n es with
      | some (some v)=>some (.v (Ak q v true),[k])
      | some none=>match OO P et with|some z=>some (.v (Ak q z false),[k])|none=>none
      | none=>none
     else none
    | none=>none
   | _=>none
  | _=>none
 | _,_=>none
def rU (P:Program) (G:rO) (E:tu) (op:Op) (ρ:Operand→Option AV) (H:ru) (k:Nat):Er :=
 match op with
 | .move x=>wt (ρ x)
 | .assign x=>wt (ρ x)
 | .pick c a b=>match ρ c with
  | some (.v (.bool q))=>if q then wt (ρ a) else wt (ρ b)
  | _=>none
 | .alloc t=>match Aj P t with|some z=>some (.loc k 0,[],[(k,.own (z.map .v) t)])|none=>none
 | .box t x=>match ρ x with|some a=>some (.loc k 0,[],[(k,.own (tL a) t)])|none=>none
 | .build t ps=>match yL ρ ps.toList,Aj P t with
  | some l,some z=>if Mh P t then match zR (JV P t) (z.map .v) l with|some c=>some (wM c,[],[])|none=>none else none
  | _,_=>none
 | .buildSlice t len ps=>match yL ρ ps.toList with|some l=>Gj P t len k l|none=>none
 | .load t x=>match ρ x with|some a=>xM P G t H a|none=>none
 | .store t x y=>match ρ x,ρ y with|some a,some b=>BP P t H a b|_,_=>none
 | .nilCheck x=>match ρ x with|some a=>wt (Mj a)|none=>none
 | .binOp op t x y _=>match ρ x,ρ y with|some a,some b=>wt (Dg P E op t a b)|_,_=>none
 | .unOp op _ x=>match ρ x with|some a=>wt (Gi op a)|none=>none
 | .convert s d x=>match ρ x with|some a=>wt (Mi P s d a)|none=>none
 | .makeFunc f a c=>match xN ρ a.toList,xN ρ c.toList with|some x,some y=>some (xB f x y,[],[])|_,_=>none
 | .fieldAddr t x f=>match ρ x with|some a=>wt (De P t f a)|none=>none
 | .field t x f=>match ρ x with|some a=>wt (Dc P t f a)|none=>none
 | .indexAddr t x i=>match ρ x,ρ i with|some a,some b=>ze (zD P t H a b)|_,_=>none
 | .index t x i=>match ρ x,ρ i with|some a,some b=>wt (Df P t a b)|_,_=>none
 | .extract x i=>match ρ x with|some a=>wt (Gh a i)|none=>none
 | .call { callee:=.builtin .len,args:=args,argTypes:=ts }=>match args.toList,ts.toList with
  | [x],[t]=>match ρ x with|some a=>ze (yM P t H a)|none=>none
  | _,_=>none
 | .call { callee:=.builtin .min,args:=args,argTypes:=_ }=>match args.toList with
  | [x,y]=>match ρ x,ρ y with|some (.v (.int k a)),some (.v (.int _ b))=>some (.v (.int k (if b<a then b else a)),[],[])|_,_=>none
  | _=>none
 | .call { callee:=.builtin .max,args:=args,argTypes:=_ }=>match args.toList with
  | [x,y]=>match ρ x,ρ y with|some (.v (.int k a)),some (.v (.int _ b))=>some (.v (.int k (if b>a then b else a)),[],[])|_,_=>none
  | _=>none
 | .sliceToArrayPointer t x=>match ρ x with|some a=>ze (BS P t H a)|none=>none
 | .makeSlice t x y=>match ρ x,ρ y with|some a,some b=>Gm P t k a b|_,_=>none
 | .slice t x none none none=>match ρ x with|some a=>wt (JW P t a)|none=>none
 | .lookup t x i q=>match ρ x,ρ i with|some a,some b=>ze (Be P t H a b q)|_,_=>none
 | _=>none
open Go.RowKit
theorem Ml {ρ ρ':Operand→Option AV} : ∀ {l:List Operand},(∀ x∈l,ρ' x=ρ x)→xN ρ' l=xN ρ l
 | [],_=>rfl
 | x::l,h=>by rw[xN,xN,h x (by simp),Ml (l:=l) (fun y hy=>h y (by simp[hy]))]
theorem OP {ρ ρ':Operand→Option AV} : ∀ {l:List (Nat×Operand)},(∀ x∈l,ρ' x.2=ρ x.2)→yL ρ' l=yL ρ l
 | [],_=>rfl
 | (i,x)::l,h=>by rw[yL,yL,h (i,x) (by simp),OP (l:=l) (fun y hy=>h y (by simp[hy]))]
theorem ab7 {P:Program} {G:rO} {t:TypeId} {H H':ru} {a r:AV} {tc:List Nat} {ef:List (Nat×AO)} (h:xM P G t H a=some (r,tc,ef)) (hb:∀ b∈tc,H' b=H b):xM P G t H' a=some (r,tc,ef):=by
 rw[← h]
 unfold xM at h ⊢
 split at h
 ·rename_i b off
  have hb':H' b=H b:=by
   apply hb
   split at h
   ·split at h
    ·cases h;simp
    ·cases h
   ·cases h
  simp only[hb']
 ·rename_i k off
  have hb':H' k=H k:=by
   apply hb
   split at h
   ·split at h
    ·cases h;simp
    ·cases h
   ·cases h
  simp only[hb']
 ·rfl
 ·rfl
theorem ab8 {P:Program} {t:TypeId} {H H':ru} {x y r:AV} {tc:List Nat} {ef:List (Nat×AO)} (h:BP P t H x y=some (r,tc,ef)) (hb:∀ b∈tc,H' b=H b):BP P t H' x y=some (r,tc,ef):=by
 rw[← h]
 unfold BP at h ⊢
 split at h
 ·rename_i b off
  have hb':H' b=H b:=by
   apply hb
   split at h
   ·split at h
    ·cases h;simp
    ·cases h
   ·cases h
  simp only[hb']
 ·rfl
theorem ab9 {P:Program} {t:TypeId} {H H':ru} {x y r:AV} {tc:List Nat} (h:zD P t H x y=some (r,tc)) (hb:∀ b∈tc,H' b=H b):zD P t H' x y=some (r,tc):=by
 rw[← h]
 unfold zD at h ⊢
 split at h
 ·split at h
  ·rfl
  ·rfl
  ·rfl
  ·rename_i k
   have hb':H' k=H k:=by
    apply hb
    split at h
    ·split at h
     ·split at h
      ·split at h
       ·cases h;simp
       ·cases h
      ·cases h
     ·cases h
    ·cases h
   simp only[hb']
  ·rfl
 ·rfl
theorem aca {P:Program} {t:TypeId} {H H':ru} {x r:AV} {tc:List Nat} (h:yM P t H x=some (r,tc)) (hb:∀ b∈tc,H' b=H b):yM P t H' x=some (r,tc):=by
 rw[← h]
 unfold yM at h ⊢
 split at h
 ·split at h
  ·rfl
  ·rename_i k
   have hb':H' k=H k:=by
    apply hb
    split at h
    ·cases h;simp
    ·cases h
   simp only[hb']
  ·rfl
  ·rfl
 ·rfl
 ·rfl
 ·rfl
theorem acb {P:Program} {t:TypeId} {H H':ru} {x r:AV} {tc:List Nat} (h:BS P t H x=some (r,tc)) (hb:∀ b∈tc,H' b=H b):BS P t H' x=some (r,tc):=by
 rw[← h]
 unfold BS at h ⊢
 split at h
 ·split at h
  ·rfl
  ·rename_i k
   have hb':H' k=H k:=by
    apply hb
    split at h
    ·split at h
     ·cases h;simp
     ·cases h
    ·cases h
   simp only[hb']
  ·rfl
 ·rfl
theorem acd {P:Program} {t:TypeId} {H H':ru} {x i r:AV} {q:Bool} {tc:List Nat} (h:Be P t H x i q=some (r,tc)) (hb:∀ b∈tc,H' b=H b):Be P t H' x i q=some (r,tc):=by
 unfold Be at h ⊢
 split at h
 ·rename_i k kd n
  have hb':H' k=H k:=by
   apply hb
   split at h
   ·split at h
    ·split at h
     ·split at h
      ·split at h
       ·cases h;simp
       ·split at h
        ·cases h;simp
        ·cases h
       ·cases h
      ·cases h
     ·cases h
    ·cases h
   ·cases h
  rw[hb']
  exact h
 ·cases h
theorem ace {P : Program} {G : rO} {E : tu} {op : Op} {ρ ρ' : Operand → Option AV} {H H' : ru} {k : Nat} {r : AV} {tc : List Nat} {ef : List (Nat × AO)} (h : rU P G E op ρ H k = some (r, tc, ef))
    (hx : ∀ x ∈ op.operands, ρ' x = ρ x) (hb : ∀ b ∈ tc, H' b = H b) : rU P G E op ρ' H' k = some (r, tc, ef) := by
  unfold rU at h
  split at h
  case h_1 x => simp only [rU]; rw [hx x (by simp [Op.operands])]; exact h
  case h_2 x => simp only [rU]; rw [hx x (by simp [Op.operands])]; exact h
  case h_3 c a b => simp only [rU]; rw [hx c (by simp [Op.operands]), hx a (by simp [Op.operands]), hx b (by simp [Op.operands])]; exact h
  case h_4 => exact h
  case h_5 t x => simp only [rU]; rw [hx x (by simp [Op.operands])]; exact h
  case h_6 t ps => simp only [rU]; rw [OP (ρ := ρ) (fun x hm => hx x.2 (by simp [Op.operands]; exact ⟨x.1, by simpa using hm⟩))]; exact h
  case h_7 t len ps => simp only [rU]; rw [OP (ρ := ρ) (fun x hm => hx x.2 (by simp [Op.operands]; exact ⟨x.1, by simpa using hm⟩))]; exact h
  case h_8 t x =>
    simp only [rU]; rw [hx x (by simp [Op.operands])]
    split at h
    · exact ab7 h hb
    · cases h
  case h_9 t x y =>
    simp only [rU]; rw [hx x (by simp [Op.operands]), hx y (by simp [Op.operands])]
    split at h
    · exact ab8 h hb
    · cases h
  case h_10 x => simp only [rU]; rw [hx x (by simp [Op.operands])]; exact h
  case h_11 op t x y yt => simp only [rU]; rw [hx x (by simp [Op.operands]), hx y (by simp [Op.operands])]; exact h
  case h_12 op t x => simp only [rU]; rw [hx x (by simp [Op.operands])]; exact h
  case h_13 s d x => simp only [rU]; rw [hx x (by simp [Op.operands])]; exact h
  case h_14 f a c => simp only [rU]; rw [Ml (ρ := ρ) (fun x hm => hx x (by simp [Op.operands]; left; simpa using hm)), Ml (ρ := ρ) (fun x hm => hx x (by simp [Op.operands]; right; simpa using hm))]; exact h
  case h_15 t x f => simp only [rU]; rw [hx x (by simp [Op.operands])]; exact h
  case h_16 t x f => simp only [rU]; rw [hx x (by simp [Op.operands])]; exact h
  case h_17 t x i =>
    simp only [rU]; rw [hx x (by simp [Op.operands]), hx i (by simp [Op.operands])]
    split at h
    · unfold ze at h ⊢
      split at h
      · rename_i l hl
        cases h
        rw [ab9 hl hb]
      · cases h
    · cases h
  case h_18 t x i => simp only [rU]; rw [hx x (by simp [Op.operands]), hx i (by simp [Op.operands])]; exact h
  case h_19 x i => simp only [rU]; rw [hx x (by simp [Op.operands])]; exact h
  case h_20 args ts =>
    simp only [rU]
    split at h
    · rename_i x t ha ht
      have hm : x ∈ args := by
        have : x ∈ args.toList := by rw [ha]; simp
        simpa using this
      rw [hx x (by simp [Op.operands, Call.operands, hm])]
      split at h
      · unfold ze at h ⊢
        split at h
        · rename_i l hl
          cases h
          rw [aca hl hb]
        · cases h
      · cases h
    · cases h
  case h_21 args ts =>
    simp only [rU]
    split at h
    · rename_i x y ha
      have hm : x ∈ args ∧ y ∈ args := by
        have h1 : x ∈ args.toList := by rw [ha]; simp
        have h2 : y ∈ args.toList := by rw [ha]; simp
        exact ⟨by simpa using h1, by simpa using h2⟩
      rw [hx x (by simp [Op.operands, Call.operands, hm.1]), hx y (by simp [Op.operands, Call.operands, hm.2])]
      exact h
    · cases h
  case h_22 args ts =>
    simp only [rU]
    split at h
    · rename_i x y ha
      have hm : x ∈ args ∧ y ∈ args := by
        have h1 : x ∈ args.toList := by rw [ha]; simp
        have h2 : y ∈ args.toList := by rw [ha]; simp
        exact ⟨by simpa using h1, by simpa using h2⟩
      rw [hx x (by simp [Op.operands, Call.operands, hm.1]), hx y (by simp [Op.operands, Call.operands, hm.2])]
      exact h
    · cases h
  case h_23 t x =>
    simp only [rU]; rw [hx x (by simp [Op.operands])]
    split at h
    · unfold ze at h ⊢
      split at h
      · rename_i l hl
        cases h
        rw [acb hl hb]
      · cases h
    · cases h
  case h_24 t x y => simp only [rU]; rw [hx x (by simp [Op.operands]), hx y (by simp [Op.operands])]; exact h
  case h_25 t x => simp only [rU]; rw [hx x (by simp [Op.operands])]; exact h
  case h_26 t x i q =>
    simp only [rU]; rw [hx x (by simp [Op.operands]), hx i (by simp [Op.operands])]
    split at h
    · unfold ze at h ⊢
      split at h
      · rename_i l hl
        cases h
        rw [acd hl hb]
      · cases h
    · cases h
  case h_27 => cases h
open Go.RowKit
theorem OQ {P:Program} {t:TypeId} {c:List AV} {off:Nat} {r:AV} {e:Env} (w:World) (h:vL P t c off=some r):(part t (AV.vals e c).toArray off).run P w = .ok (r.val e) w:=by
 unfold vL at h
 unfold part
 cases ha:Da P t with
 | none=>rw[ha] at h;cases h
 | some q =>
  rw[ha] at h
  cases q with
  | true =>
   simp only at h
   cases hs:tK P t with
   | none=>rw[hs] at h;cases h
   | some s =>
    rw[hs] at h
    simp only at h
    split at h
    ·rename_i hle
     cases h
     simp only[Sem.run_bind,Gg ha,run_sizeOf hs,Result.andThen,if_true,JS]
     simp
     rw[AV.vals_map,AV.vals_map,List.map_take,List.map_drop]
    ·cases h
  | false =>
   have hx:(AV.vals e c)[off]? = some (r.val e):=by rw[AV.vals_map];simp[h]
   simp[Gg ha,hx]
theorem acf {H:ru} {a:AV} (ha:∀ c∈a.refs,H c≠none):∀ c∈AV.refss (tL a),H c≠none:=fun c hc=>ha c (Mg hc)
theorem OT {P:Program} {G:rO} {t:TypeId} {H:ru} {a r:AV} {tc:List Nat} {ef:List (Nat×AO)} {w0:World} {B0:sG} {e:Env} {w:World} (h:xM P G t H a=some (r,tc,ef)) (R:rT G w0 B0 e H w) :
  ef = []∧(Instr.loadAt t (a.val e)).run P w = .ok (r.val e) w∧∀ c∈r.refs,H c≠none:=by
 unfold xM at h
 split at h
 ·rename_i b off
  split at h
  ·rename_i c tt hb
   split at h
   ·rename_i r' hl
    cases h
    refine⟨rfl,?_,fun x hx=>R.refs b _ hb x (Gf hl hx)⟩
    have hown:=R.own b c tt hb
    have:=OL (e:=e) (w:=w) (b:=e.blk b) (o:=0) hl (fun j x hj=>by simp[World.cell?,hown,hj])
    simp only[Nat.zero_add] at this
    simp[Instr.loadAt,AV.val,Instr.sureAddr,this]
   ·cases h
  ·cases h
 ·rename_i k off
  split at h
  ·rename_i n c hb
   split at h
   ·rename_i r' hl
    cases h
    refine⟨rfl,?_,fun x hx=>by have:=Gf hl hx;rw[Bd] at this;simp at this⟩
    have hrd:=R.rd k n c hb
    rcases hrd with⟨hv,_,hc⟩|⟨b,o,cap,hv,hlt,hc⟩
    ·subst hc
     exfalso
     unfold vL at hl
     split at hl
     ·split at hl
      ·rename_i ha _ s hs
       split at hl
       ·rename_i hle
        simp at hle
        omega
       ·cases hl
      ·cases hl
     ·simp at hl
     ·cases hl
    ·have:=OL (e:=e) (w:=w) (b:=b) (o:=o) hl (fun j x hj=>by rw[vX] at hj;exact hc j x hj)
     simp[Instr.loadAt,AV.val,hv,Instr.sureAddr,this]
   ·cases h
  ·cases h
 ·rename_i g off
  split at h
  ·rename_i c hg
   split at h
   ·rename_i r' hl
    cases h
    refine⟨rfl,?_,fun x hx=>by have:=Gf hl hx;rw[Bd] at this;simp at this⟩
    obtain⟨x,hx,hxg,ho⟩:=ab6 hg
    have hw:=(R.gl x hx).2
    rw[hxg,ho] at hw
    have:=OL (e:=e) (w:=w) (b:=g) (o:=0) hl (fun j x hj=>by rw[vX] at hj;rw[Nat.zero_add];exact hw j x hj)
    simp only[Nat.zero_add] at this
    simp[Instr.loadAt,AV.val,Instr.sureAddr,this]
   ·cases h
  ·cases h
 ·cases h
theorem acg {P:Program} {G:rO} {t:TypeId} {H:ru} {x y r:AV} {tc:List Nat} {ef:List (Nat×AO)} {w0:World} {B0:sG} {e:Env} {w:World} (h:BP P t H x y=some (r,tc,ef)) (R:rT G w0 B0 e H w)
  (hy:∀ c∈y.refs,H c≠none):r = .v undef∧∃ w',(Instr.storeAt t (x.val e) (y.val e)).run P w = .ok () w'∧rT G w0 B0 e (H.puts ef) w':=by
 unfold BP at h
 split at h
 ·rename_i b off
  split at h
  ·rename_i c tt hb
   split at h
   ·rename_i hcond
    cases h
    simp only[Bool.and_eq_true,decide_eq_true_eq,List.all_eq_true] at hcond
    obtain⟨⟨h1,hs⟩,hl⟩:=hcond
    refine⟨rfl,w.setRow (e.blk b) (AV.vals e (c.take off++tL y++c.drop (off+(tL y).length))).toArray,?_,?_⟩
    ·have hown:=R.own b c tt hb
     have:=run_storeCells_at P (e.blk b) off tt (AV.vals e (tL y)) 0 _ w hown (by simp[zA];omega) (fun v hv=>by
      rw[AV.vals_map] at hv
      obtain⟨a,ha,rfl⟩:=List.mem_map.1 hv
      exact ab5 (h1 a ha))
     simp only[zA,Nat.add_zero] at this
     simp only[Instr.storeAt,AV.val,Instr.sureAddr,storeVar,Mf,Sem.run_bind,Sem.run_pure,Result.andThen,run_sizeOf hs,List.size_toArray,zA,ne_eq,not_true_eq_false,if_false,List.toList_toArray]
     simp only[this]
     congr 3
     simp[AV.vals_map,List.map_take,List.map_drop]
    ·refine R.store hb _ (fun z hz=>?_) rfl
     obtain⟨a,ha,hr⟩:=AV.mem_refss.1 hz
     simp only[List.mem_append] at ha
     rcases ha with(ha|ha)|ha
     ·exact R.refs b _ hb z (AV.mem_refss.2 ⟨a,List.mem_of_mem_take ha,hr⟩)
     ·exact hy z (Mg (AV.mem_refss.2 ⟨a,ha,hr⟩))
     ·exact R.refs b _ hb z (AV.mem_refss.2 ⟨a,List.mem_of_mem_drop ha,hr⟩)
   ·cases h
  ·cases h
 ·cases h
theorem Ud {P:Program} {t ft:TypeId} {f off:Nat} (h:Bb P t f=some (off,ft)):∃ fs x,P.underlying t=some (.struct fs)∧fs[f]? = some x∧x.offset=off∧x.type=ft:=by
 unfold Bb at h
 split at h
 ·rename_i fs hu
  cases hx:fs[f]? with
  | none=>rw[hx] at h;cases h
  | some x=>rw[hx] at h;simp at h;exact⟨fs,x,hu,hx,h.1,h.2⟩
 ·cases h
theorem Gn {P:Program} {t el:TypeId} {n:Nat} (h:yK P t=some (n,el)):P.underlying t=some (.array n el):=by
 unfold yK at h
 split at h
 ·rename_i hu;simp at h;rw[hu,h.1,h.2]
 ·cases h
theorem Mm {P:Program} {t el:TypeId} (h:Bc P t=some el):P.underlying t=some (.slice el):=by
 unfold Bc at h
 split at h
 ·rename_i hu;simp at h;rw[hu,h]
 ·cases h
theorem Ue {P:Program} {t:TypeId} {k:IntKind} (h:Gd P t=some k):P.underlying t=some (.int k):=by
 unfold Gd at h
 split at h
 ·rename_i hu;simp at h;rw[hu,h]
 ·cases h
theorem OU {P:Program} {t:TypeId} {s:Nat} (h:tK P t=some s):∃ i,P.info? t=some i∧i.size=s:=by
 unfold tK at h
 cases hi:P.info? t with
 | none=>rw[hi] at h;cases h
 | some i=>rw[hi] at h;simp at h;exact⟨i,rfl,h⟩
theorem Mo {P:Program} {t:TypeId} {z:List Value} (h:Aj P t=some z):∃ i v,P.info? t=some i∧i.zero=some v∧v.cells.toList=z:=by
 unfold Aj at h
 cases hi:P.info? t with
 | none=>rw[hi] at h;cases h
 | some i =>
  rw[hi] at h
  cases hz:i.zero with
  | none=>simp[hz] at h
  | some v=>simp[hz] at h;exact⟨i,v,rfl,hz,h⟩
theorem ach {P:Program} {t:TypeId} {f:Nat} {x r:AV} {e:Env} (w:World) (h:Dc P t f x=some r):(Instr.field t (x.val e) f).run P w = .ok (r.val e) w∧∀ c∈r.refs,c∈x.refs:=by
 have key:∀ cs:Array Value,x.val e = .agg cs→cs=(AV.vals e (tL x)).toArray→(match Bb P t f with|some (off,ft)=>vL P ft (tL x) off|none=>none)=some r→(Instr.field t (x.val e) f).run P w = .ok (r.val e) w∧∀ c∈r.refs,c∈x.refs:=by
  intro cs hx hcs h
  split at h
  ·rename_i off ft hf
   obtain⟨fs,y,hu,hy,ho,ht⟩:=Ud hf
   refine⟨?_,fun c hc=>Mg (Gf h hc)⟩
   have hp:=OQ (e:=e) w h
   rw[hx,hcs]
   simp[Instr.field,run_underlying hu,hy,asAgg,ho,ht,hp]
  ·cases h
 unfold Dc at h
 split at h
 ·rename_i cs;exact key cs rfl (by simp[tL,vX,Value.cells]) h
 ·rename_i l;exact key _ rfl rfl h
 ·cases h
theorem Uf {P:Program} {t:TypeId} {f:Nat} {x r:AV} {G:rO} {H:ru} {w0:World} {B0:sG} {e:Env} {w:World} (h:De P t f x=some r) (R:rT G w0 B0 e H w) :
  (Instr.fieldAt t (x.val e) f).run P w = .ok (r.val e) w∧∀ c∈r.refs,c∈x.refs:=by
 have hadd:∀ b n i:Nat,(⟨b,n,none⟩:Addr).add i=⟨b,n+i,none⟩:=fun b n i=>by unfold Addr.add;split<;>simp_all
 unfold De at h
 split at h
 ·rename_i off ft hf
  obtain⟨fs,y,hu,hy,ho,ht⟩:=Ud hf
  split at h
  ·rename_i s hs
   obtain⟨i,hi,hsz⟩:=OU hs
   have hz:(sizeOf y.type).run P w = .ok (s+1) w:=by rw[ht];exact run_sizeOf hs w
   split at h
   ·cases h
    refine⟨?_,fun c hc=>by simpa [AV.refs] using hc⟩
    simp[Instr.fieldAt,run_underlying hu,hy,AV.val,Instr.sureAddr,fieldPlace,hz,ho,hadd]
   ·rename_i k o
    cases h
    refine⟨?_,fun c hc=>by simpa [AV.refs] using hc⟩
    cases hv:e.hnd k with
    | slice a l c =>
     cases a with
     | none=>simp[Instr.fieldAt,run_underlying hu,hy,AV.val,hv,Instr.sureAddr,fieldPlace,hz,ho,hadd]
     | some a=>simp[Instr.fieldAt,run_underlying hu,hy,AV.val,hv,Instr.sureAddr,fieldPlace,hz,ho,hadd,Nat.add_assoc]
    | _=>simp[Instr.fieldAt,run_underlying hu,hy,AV.val,hv,Instr.sureAddr,fieldPlace,hz,ho,hadd]
   ·cases h
    refine⟨?_,fun c hc=>by simp[AV.refs] at hc⟩
    simp[Instr.fieldAt,run_underlying hu,hy,AV.val,Instr.sureAddr,fieldPlace,hz,ho,hadd]
   ·cases h
  ·cases h
 ·cases h
theorem aci {P:Program} {t:TypeId} {x i r:AV} {tc:List Nat} {G:rO} {H:ru} {w0:World} {B0:sG} {e:Env} {w:World} (h:zD P t H x i=some (r,tc)) (R:rT G w0 B0 e H w) :
  (Instr.indexAt t (x.val e) (i.val e)).run P w = .ok (r.val e) w∧∀ c∈r.refs,c∈x.refs:=by
 have hadd:∀ b n i:Nat,(⟨b,n,none⟩:Addr).add i=⟨b,n+i,none⟩:=fun b n i=>by unfold Addr.add;split<;>simp_all
 unfold zD at h
 split at h
 ·rename_i kk n
  split at h
  ·split at h
   ·rename_i len el ha
    split at h
    ·rename_i s hs
     split at h
     ·rename_i hn
      cases h
      refine⟨?_,fun c hc=>by simpa [AV.refs] using hc⟩
      simp[Instr.indexAt,AV.val,asIntOf,run_underlying (Gn ha),Instr.sureAddr,run_sizeOf hs,hn,hadd]
     ·cases h
    ·cases h
   ·cases h
  ·split at h
   ·rename_i len el ha
    split at h
    ·rename_i s hs
     split at h
     ·rename_i hn
      cases h
      refine⟨?_,fun c hc=>by simp[AV.refs] at hc⟩
      simp[Instr.indexAt,AV.val,asIntOf,run_underlying (Gn ha),Instr.sureAddr,run_sizeOf hs,hn,hadd]
     ·cases h
    ·cases h
   ·cases h
  ·split at h
   ·rename_i el ha
    split at h
    ·rename_i s hs
     split at h
     ·rename_i hn
      cases h
      refine⟨?_,fun c hc=>by simpa [AV.refs] using hc⟩
      simp[Instr.indexAt,AV.val,asIntOf,run_underlying (Mm ha),run_sizeOf hs,hn,hadd]
     ·cases h
    ·cases h
   ·cases h
  ·rename_i k
   split at h
   ·rename_i len c hb
    split at h
    ·rename_i el ha
     split at h
     ·rename_i s hs
      split at h
      ·rename_i hn
       cases h
       refine⟨?_,fun c hc=>by simpa [AV.refs] using hc⟩
       rcases R.rd k len c hb with⟨hv,hl,hc⟩|⟨b,o,cap,hv,hlt,hc⟩
       ·omega
       ·simp[Instr.indexAt,AV.val,hv,zQ,asIntOf,run_underlying (Mm ha),run_sizeOf hs,hn,hadd]
      ·cases h
     ·cases h
    ·cases h
   ·cases h
  ·cases h
 ·cases h
theorem acj {P:Program} {t:TypeId} {x i r:AV} {e:Env} (w:World) (h:Df P t x i=some r) :
  (Instr.index t (x.val e) (i.val e)).run P w = .ok (r.val e) w∧∀ c∈r.refs,c∈x.refs:=by
 unfold Df at h
 split at h
 ·rename_i cs kk n
  split at h
  ·rename_i len el ha
   split at h
   ·rename_i s hs
    split at h
    ·rename_i hn
     refine⟨?_,fun c hc=>by have:=Gf h hc;rw[Bd] at this;simp at this⟩
     have hp:=OQ (e:=e) w h
     rw[vX] at hp
     simp at hp
     simp[Instr.index,AV.val,asIntOf,run_underlying (Gn ha),run_sizeOf hs,hn,hp]
    ·cases h
   ·cases h
  ·cases h
 ·rename_i cs kk n
  split at h
  ·rename_i len el ha
   split at h
   ·rename_i s hs
    split at h
    ·rename_i hn
     refine⟨?_,fun c hc=>by simpa [AV.refs] using Gf h hc⟩
     have hp:=OQ (e:=e) w h
     simp[Instr.index,AV.val,asIntOf,run_underlying (Gn ha),run_sizeOf hs,hn,hp]
    ·cases h
   ·cases h
  ·cases h
 ·cases h
theorem ack {P:Program} {x r:AV} {i:Nat} {e:Env} (w:World) (h:Gh x i=some r):(Instr.extract (x.val e) i).run P w = .ok (r.val e) w∧∀ c∈r.refs,c∈x.refs:=by
 unfold Gh at h
 split at h
 ·rename_i vs
  split at h
  ·rename_i v hv
   cases h
   have:vs[i]? = some v:=by simpa using hv
   exact⟨by simp[Instr.extract,AV.val,this],fun c hc=>by simp[AV.refs] at hc⟩
  ·cases h
 ·rename_i l
  refine⟨?_,fun c hc=>by rw[AV.refs];exact AV.mem_refss.2 ⟨r,List.mem_of_getElem? h,hc⟩⟩
  have:(AV.vals e l)[i]? = some (r.val e):=by rw[AV.vals_map];simp[h]
  simp[Instr.extract,AV.val,this]
 ·cases h
theorem foldl_set (vs:List Value):∀ (off:Nat) (cells:Array Value) (n:Nat),off+n+vs.length≤cells.size→((vs.zipIdx n).foldl (fun cs (c,j)=>cs.setIfInBounds (off+j) c) cells).toList=cells.toList.take (off+n)++vs++cells.toList.drop (off+n+vs.length):=by
 induction vs with
 | nil=>intro off cells n h;simp
 | cons v vs ih =>
  intro off cells n h
  simp only[List.length_cons] at h
  rw[List.zipIdx_cons,List.foldl_cons,ih off _ (n+1) (by simp;omega)]
  have:=list_seg_step cells.toList (off+n) v vs (by simp;omega)
  simp only[Array.toList_setIfInBounds]
  rw[show off+(n+1)=off+n+1 by omega]
  simpa [Nat.add_assoc,Nat.add_comm,Nat.add_left_comm] using this
theorem OV {e:Env} {place:Nat→Option (Nat×Nat)} : ∀ {ps:List (Nat×AV)} {cells c:List AV},zR place cells ps=some c →
  Instr.fill place (AV.vals e cells).toArray (ps.map fun x=>(x.1,x.2.val e))=some (AV.vals e c).toArray
 | [],cells,c,h=>by simp only[zR,Option.some.injEq] at h;subst h;rfl
 | (i,x)::rest,cells,c,h=>by
  simp only[zR] at h
  simp only[List.map_cons,Instr.fill]
  split at h
  ·cases h
  ·rename_i off size hp
   rw[hp]
   split at h
   ·rename_i hcond
    have ih:=OV (e:=e) h
    have hsz:(x.val e).cells.size=size:=by rw[Mf];simp[zA,hcond.1]
    simp only[hsz,List.size_toArray,zA]
    rw[if_neg (by simp;omega)]
    rw[← ih]
    congr 1
    apply Array.ext'
    rw[Mf]
    have:=foldl_set (AV.vals e (tL x)) off (AV.vals e cells).toArray 0 (by simp[zA];omega)
    simp only[Nat.add_zero,List.toList_toArray] at this
    rw[← Array.foldl_toList]
    simp only[Array.toList_zipIdx,List.toList_toArray]
    rw[this,zA,hcond.1]
    simp[AV.vals_map,List.map_take,List.map_drop]
   ·cases h
theorem OW {place:Nat→Option (Nat×Nat)} {r:Nat} : ∀ {ps:List (Nat×AV)} {cells c:List AV},zR place cells ps=some c→r∈AV.refss c→r∈AV.refss cells∨∃ x∈ps,r∈x.2.refs
 | [],cells,c,h,hr=>by simp only[zR,Option.some.injEq] at h;subst h;exact .inl hr
 | (i,x)::rest,cells,c,h,hr=>by
  simp only[zR] at h
  split at h
  ·cases h
  ·split at h
   ·rcases OW h hr with h1|⟨y,hy,h1⟩
    ·obtain⟨a,ha,hra⟩:=AV.mem_refss.1 h1
     simp only[List.mem_append] at ha
     rcases ha with(ha|ha)|ha
     ·exact .inl (AV.mem_refss.2 ⟨a,List.mem_of_mem_take ha,hra⟩)
     ·exact .inr ⟨_,List.mem_cons_self,Mg (AV.mem_refss.2 ⟨a,ha,hra⟩)⟩
     ·exact .inl (AV.mem_refss.2 ⟨a,List.mem_of_mem_drop ha,hra⟩)
    ·exact .inr ⟨y,List.mem_cons_of_mem _ hy,h1⟩
   ·cases h
theorem OX {ρ:Operand→Option AV} {ev:Operand→Value} {e:Env} (hρ:∀ x y,ρ x=some y→ev x=y.val e):∀ {l:List (Nat×Operand)} {ps:List (Nat×AV)},yL ρ l=some ps→(l.map fun x=>(x.1,ev x.2))=ps.map fun x=>(x.1,x.2.val e)
 | [],ps,h=>by simp only[yL,Option.some.injEq] at h;subst h;rfl
 | (i,x)::l,ps,h=>by
  simp only[yL] at h
  split at h
  ·rename_i a r ha hr
   cases h
   simp[OX hρ hr,hρ x a ha]
  ·cases h
theorem OY {ρ:Operand→Option AV} : ∀ {l:List (Nat×Operand)} {ps:List (Nat×AV)},yL ρ l=some ps→∀ x∈ps,∃ y∈l,ρ y.2=some x.2
 | [],ps,h,x,hx=>by simp only[yL,Option.some.injEq] at h;subst h;cases hx
 | (i,z)::l,ps,h,x,hx=>by
  simp only[yL] at h
  split at h
  ·rename_i a r ha hr
   cases h
   rcases List.mem_cons.1 hx with rfl|hx
   ·exact⟨_,List.mem_cons_self,ha⟩
   ·obtain⟨y,hy,h1⟩:=OY hr x hx;exact⟨y,List.mem_cons_of_mem _ hy,h1⟩
  ·cases h
theorem Mq {ρ:Operand→Option AV} {ev:Operand→Value} {e:Env} (hρ:∀ x y,ρ x=some y→ev x=y.val e):∀ {l:List Operand} {ps:List AV},xN ρ l=some ps→l.map ev=AV.vals e ps
 | [],ps,h=>by simp only[xN,Option.some.injEq] at h;subst h;rfl
 | x::l,ps,h=>by
  simp only[xN] at h
  split at h
  ·rename_i a r ha hr
   cases h
   simp[Mq hρ hr,hρ x a ha,AV.vals]
  ·cases h
theorem Mr {ρ:Operand→Option AV} : ∀ {l:List Operand} {ps:List AV},xN ρ l=some ps→∀ x∈ps,∃ y∈l,ρ y=some x
 | [],ps,h,x,hx=>by simp only[xN,Option.some.injEq] at h;subst h;cases hx
 | z::l,ps,h,x,hx=>by
  simp only[xN] at h
  split at h
  ·rename_i a r ha hr
   cases h
   rcases List.mem_cons.1 hx with rfl|hx
   ·exact⟨_,List.mem_cons_self,ha⟩
   ·obtain⟨y,hy,h1⟩:=Mr hr x hx;exact⟨y,List.mem_cons_of_mem _ hy,h1⟩
  ·cases h
open Go.RowKit
theorem Ug {P:Program} : ∀ {fs:List Field},(fs.all fun f=>(tK P f.type).isSome)=true→fs.mapM (fun f=>(P.info? f.type).map fun i=>(f.offset,i.size))=some (fs.map fun f=>(f.offset,(tK P f.type).getD 0))
 | [],_=>rfl
 | f::fs,h=>by
  simp only[List.all_cons,Bool.and_eq_true] at h
  obtain⟨s,hs⟩:=Option.isSome_iff_exists.1 h.1
  obtain⟨i,hi,hsz⟩:=OU hs
  simp[List.mapM_cons,hi,Ug h.2,hs,hsz]
theorem Uh {p q:Nat→Option (Nat×Nat)} (h:∀ i,p i=q i):∀ (ps:List (Nat×Value)) (c:Array Value),Instr.fill p c ps=Instr.fill q c ps:=by
 have:p=q:=funext h
 intro ps c;rw[this]
theorem acl {P:Program} {t:TypeId} {z:List Value} {ps:List (Nat×AV)} {c:List AV} {e:Env} (w:World) (hz:Aj P t=some z) (hs:Mh P t=true) (h:zR (JV P t) (z.map .v) ps=some c)
  (parts:Array (Nat×Value)) (hp:parts.toList=ps.map fun x=>(x.1,x.2.val e)):(Instr.build t parts).run P w = .ok ((wM c).val e) w:=by
 rw[JS]
 apply run_build
 obtain⟨it,v,hi,hv,hc⟩:=Mo hz
 have hf:=OV (e:=e) h
 rw[vX,← hc,← hp] at hf
 simp only[Array.toArray_toList] at hf
 unfold Program.built
 unfold Mh at hs
 cases hu:P.underlying t with
 | none=>rw[hu] at hs;cases hs
 | some d =>
  rw[hu] at hs
  cases d<;>try cases hs
  case array n el =>
   obtain⟨s,hsz⟩:=Option.isSome_iff_exists.1 hs
   obtain⟨ie,hie,his⟩:=OU hsz
   simp only[hi,hv,hie]
   rw[← hf]
   apply Uh
   intro i
   simp[JV,hu,hsz,his]
  case struct fs =>
   simp only at hs
   have hm:=Ug (P:=P) hs
   simp only[hi,hv]
   rw[hm]
   simp only
   rw[← hf]
   apply Uh
   intro i
   simp only[JV,hu,List.getElem?_toArray,List.getElem?_map,Array.getElem?_toList]
   cases hfi:fs[i]? with
   | none=>rfl
   | some f =>
    have hfm:f∈fs.toList:=by simpa using Array.mem_of_getElem? hfi
    obtain⟨s,hsz⟩:=Option.isSome_iff_exists.1 (List.all_eq_true.1 hs f hfm)
    simp[hsz]
theorem acm {P:Program} {t:TypeId} {len k:Nat} {ps:List (Nat×AV)} {r:AV} {tc:List Nat} {ef:List (Nat×AO)} {G:rO} {H:ru} {w0:World} {B0:sG} {e:Env} {w:World}
  (h:Gj P t len k ps=some (r,tc,ef)) (hk:H k=none) (R:rT G w0 B0 e H w) (hr:∀ x∈ps,∀ c∈x.2.refs,H c≠none) (parts:Array (Nat×Value)) (hp:parts.toList=ps.map fun x=>(x.1,x.2.val e)) :
  ∃ e' w',(Instr.buildSlice t len parts).run P w = .ok (r.val e') w'∧rT G w0 B0 e' (H.puts ef) w'∧Env.on H e e'∧∀ c∈r.refs,(H.puts ef) c≠none:=by
 unfold Gj at h
 split at h
 ·rename_i el hel
  split at h
  ·rename_i s z hs hz
   split at h
   ·rename_i hle
    split at h
    ·rename_i c hf
     cases h
     obtain⟨it,v,hi,hv,hc⟩:=Mo hz
     have hc':∀ r∈AV.refss c,H r≠none:=fun x hx=>by
      rcases OW hf hx with h1|⟨y,hy,h1⟩
      ·rw[Bd] at h1;simp at h1
      ·exact hr y hy x h1
     refine⟨e.setBlk k w.heap.size,_,?_,R.alloc hk c el hc',Env.setBlk_on hk e _,fun x hx=>?_⟩
     ·have hfr:=OV (e:=e) hf
      rw[vX,← hp] at hfr
      have hz':(BR z (len*s)).toArray=(Array.range (len*s)).map fun j=>v.cells[j%v.cells.size]!:=by
       rw[Uc,← hc]
       apply Array.ext'
       simp
      rw[hz'] at hfr
      have hgt:¬ len*s>2^24:=by omega
      have hzv:(zeroValue el).run P w = .ok v w:=by simp[zeroValue,typeInfo,hi,hv]
      simp only[Instr.buildSlice,Sem.run_bind,run_underlying (Mm hel),Result.andThen,run_sizeOf hs,hgt,if_false,hle.2,Sem.run_pure,hzv,hfr]
      simp[newRow,AV.val,Env.setBlk]
     ·simp[AV.refs] at hx;subst hx;rw[ru.puts,ru.puts,ru.put_same];simp
    ·cases h
   ·cases h
  ·cases h
 ·cases h
theorem acn {P:Program} (op:BinOp) (k:IntKind) (x y:Int) (w:World) (h:op = .and∨op = .or∨op = .xor∨op = .andNot):(Op.intBits op k x y).run P w = .ok (Es op k x y) w:=by
 rcases h with rfl|rfl|rfl|rfl<;>rfl
theorem aco {P:Program} (op:BinOp) (t:TypeId) (xo yo:Operand) (k k':IntKind) (a b:Int) (w:World):(eqGuard op t xo yo (.int k a) (.int k' b)).run P w = .ok () w:=by
 unfold eqGuard;cases op<;>rfl
theorem acp {P:Program} (op:BinOp) (t:TypeId) (xo yo:Operand) (a b:Bool) (w:World):(eqGuard op t xo yo (.bool a) (.bool b)).run P w = .ok () w:=by
 unfold eqGuard;cases op<;>rfl
theorem run_equal_bool {P:Program} {t:TypeId} (hu:P.underlying t=some .bool) (a b:Bool) (w:World):(Op.equal t (.bool a) (.bool b)).run P w = .ok (a==b) w:=by
 show(Op.equalIn (9999+1) t _ _).run P w=_
 rw[Op.equalIn];simp only[Sem.run_bind,run_underlying hu,Result.andThen];rfl
theorem acr (t:TypeId) (a b:Bool):binOp .eql t (.bool a) (.bool b)=(do pure (.bool (← Op.equal t (.bool a) (.bool b))):Sem Value):=by rw[binOp]<;>simp
theorem acs (t:TypeId) (a b:Bool):binOp .neq t (.bool a) (.bool b)=(do pure (.bool (!(← Op.equal t (.bool a) (.bool b)))):Sem Value):=by rw[binOp]<;>simp
theorem acu {P:Program} {op:BinOp} {t:TypeId} {x y v:Value} (h:wN P op t x y=some v) (xo yo:Operand) (w:World):(do eqGuard op t xo yo x y;binOp op t x y:Sem Value).run P w = .ok v w:=by
  unfold wN at h
  split at h
  · rename_i k a k' b
    simp only[Sem.run_bind,aco,Result.andThen]
    cases op<;>simp only at h<;>first
      | (split at h
         · cases h
         · rename_i hb;cases h;simp[binOp,Op.shift,hb])
      | (split at h
         · rename_i hb
           cases h
           first
             | (obtain⟨rfl,hb⟩:=hb;simp at hb;simp[binOp,Op.intDiv,hb])
             | (subst hb;simp[binOp,Op.intArith,Op.intCmp,acn])
         · cases h)
  · rename_i a b
    simp only[Sem.run_bind,acp,Result.andThen]
    cases op<;>simp only at h<;>try cases h
    all_goals
      split at h
      · rename_i hu
        cases h
        simp only[acr,acs,Sem.run_bind,run_equal_bool hu,Result.andThen,Sem.run_pure]
      · cases h
  · cases h
theorem acv {P:Program} {t ty:TypeId} {x r:AV} {tc:List Nat} {G:rO} {H:ru} {w0:World} {B0:sG} {e:Env} {w:World} (h:yM P t H x=some (r,tc)) (R:rT G w0 B0 e H w) :
  (Builtin.len_ #[t] ty #[x.val e]).run P w = .ok (r.val e) w∧r.refs = []:=by
 unfold yM at h
 split at h
 ·rename_i el hu
  split at h
  ·cases h;exact⟨by simp[Builtin.len_,run_underlying hu,AV.val,goInt],rfl⟩
  ·rename_i k
   split at h
   ·rename_i n c hb
    cases h
    refine⟨?_,rfl⟩
    rcases R.rd k n c hb with⟨hv,hn,_⟩|⟨b,o,cap,hv,_,_⟩
    ·simp[Builtin.len_,run_underlying hu,AV.val,hv,zQ,goInt,hn]
    ·simp[Builtin.len_,run_underlying hu,AV.val,hv,zQ,goInt]
   ·cases h
  ·cases h;exact⟨by simp[Builtin.len_,run_underlying hu,AV.val,goInt],rfl⟩
  ·cases h
 ·rename_i hu
  split at h
  ·cases h;exact⟨by simp[Builtin.len_,run_underlying hu,AV.val,goInt],rfl⟩
  ·cases h
 ·rename_i n el hu
  cases h;exact⟨by simp[Builtin.len_,run_underlying hu,AV.val,goInt],rfl⟩
 ·cases h
theorem acw {P:Program} {t:TypeId} {x r:AV} {tc:List Nat} {G:rO} {H:ru} {w0:World} {B0:sG} {e:Env} {w:World} (h:BS P t H x=some (r,tc)) (R:rT G w0 B0 e H w) :
  (Instr.arrayAt t (x.val e)).run P w = .ok (r.val e) w∧∀ c∈r.refs,c∈x.refs:=by
 unfold BS at h
 split at h
 ·rename_i n el ha
  have hu:=Gn ha
  split at h
  ·split at h
   ·rename_i hle
    cases h
    refine⟨?_,fun c hc=>by simpa [AV.refs] using hc⟩
    have:¬ (_<n):=Nat.not_lt.2 hle
    simp[Instr.arrayAt,run_underlying hu,AV.val,this]
   ·cases h
  ·rename_i k
   split at h
   ·rename_i len c hb
    split at h
    ·rename_i hle
     cases h
     refine⟨?_,fun c hc=>by simpa [AV.refs] using hc⟩
     have:¬ (len<n):=Nat.not_lt.2 hle.1
     rcases R.rd k len c hb with⟨hv,hl,hc⟩|⟨b,o,cap,hv,hlt,hc⟩
     ·omega
     ·simp[Instr.arrayAt,run_underlying hu,AV.val,hv,zQ,this]
    ·cases h
   ·cases h
  ·cases h
 ·cases h
theorem acx {P:Program} {t:TypeId} {k:Nat} {x y r:AV} {tc:List Nat} {ef:List (Nat×AO)} {G:rO} {H:ru} {w0:World} {B0:sG} {e:Env} {w:World}
  (h:Gm P t k x y=some (r,tc,ef)) (hk:H k=none) (R:rT G w0 B0 e H w) :
  ∃ e' w',(Instr.makeSlice t (x.val e) (y.val e)).run P w = .ok (r.val e') w'∧rT G w0 B0 e' (H.puts ef) w'∧Env.on H e e'∧∀ c∈r.refs,(H.puts ef) c≠none:=by
 unfold Gm at h
 split at h
 ·rename_i k1 n k2 m
  split at h
  ·rename_i el hel
   split at h
   ·rename_i s z b hs hz hb
    split at h
    ·rename_i hc
     cases h
     obtain⟨it,v,hi,hv,hcz⟩:=Mo hz
     have hbb:it.bytes=b:=by unfold OM at hb;rw[hi] at hb;simpa using hb
     refine⟨e.setBlk k w.heap.size,_,?_,R.alloc hk ((BR z (m.toNat*s)).map .v) el (fun r hr=>by rw[Bd] at hr;simp at hr),Env.setBlk_on hk e _,fun x hx=>?_⟩
     ·have hzv:(zeroValue el).run P w = .ok v w:=by simp[zeroValue,typeInfo,hi,hv]
      have w1:IntKind.i64.wrap n=n:=by unfold IntKind.wrap IntKind.bits IntKind.signed;simp;omega
      have w2:IntKind.i64.wrap m=m:=by unfold IntKind.wrap IntKind.bits IntKind.signed;simp;omega
      have hm:(b:Int)*m≤4096*16777216:=by
       have h1:(b:Int)≤4096:=by omega
       have h2:m≤16777216:=by omega
       have h3:(b:Int)*m≤b*16777216:=Int.mul_le_mul_of_nonneg_left h2 (by omega)
       have h4:(b:Int)*16777216≤4096*16777216:=Int.mul_le_mul_of_nonneg_right h1 (by omega)
       omega
      have c1:(decide (m<0)||decide ((b:Int)*m>2^48))=false:=by
       simp only[Bool.or_eq_false_iff,decide_eq_false_iff_not]
       constructor
       ·omega
       ·have:(2:Int)^48=281474976710656:=by decide
        omega
      have c2:decide (n<0)=false:=by simp;omega
      have c3:decide (n>m)=false:=by simp;omega
      have hz':(BR z (m.toNat*s)).toArray=(Array.range (m.toNat*s)).map fun j=>v.cells[j%v.cells.size]!:=by
       rw[Uc,← hcz];apply Array.ext';simp
      have hroom:∀ j,(askRoom j).run P w = .ok () w:=fun j=>by unfold askRoom;split<;>rfl
      simp only[Instr.makeSlice,Sem.run_bind,run_underlying (Mm hel),Result.andThen,AV.val,asInt,asIntOf,Sem.run_pure,typeInfo,hi,w1,w2,hbb,c1,c2,c3,Bool.or_false,Bool.false_eq_true,if_false,hroom,run_sizeOf hs,hc.2.2.2.2,hzv,newRow]
      have hp:(program).run P w = .ok P w:=rfl
      simp only[hp,hi,Sem.run_pure,hbb,c1,c2,c3,Bool.or_false,Bool.false_eq_true,if_false,hroom,run_sizeOf hs,hc.2.2.2.2,hzv,Sem.run_bind,Result.andThen]
      rw[← hz']
      simp[AV.val,Env.setBlk,vX]
     ·simp[AV.refs] at hx;subst hx;rw[ru.puts,ru.puts,ru.put_same];simp
    ·cases h
   ·cases h
  ·cases h
 ·cases h
theorem acy {P:Program} {t:TypeId} {x r:AV} {e:Env} (w:World) (h:JW P t x=some r):(Instr.sliceAt t (x.val e) none none none).run P w = .ok (r.val e) w∧∀ c∈r.refs,c∈x.refs:=by
 unfold JW at h
 split at h
 ·rename_i n el ha
  split at h
  ·rename_i b o s hs
   cases h
   refine⟨?_,fun c hc=>by simpa [AV.refs] using hc⟩
   simp[Instr.sliceAt,run_underlying (Gn ha),AV.val,Instr.sureAddr,Instr.sliceBounds,run_sizeOf hs,Addr.add]
  ·cases h
 ·cases h
theorem OZ {kd:IntKind} {n:Int} : ∀ {es:List (Value×Value)} {r:Option Value} (i:Nat),BU kd n es=some r→∃ a,Instr.findNow (.int kd) (.int kd n) (Gc i es) i=some a∧a.map (·.2)=r
 | [],r,i,h=>by cases h;exact⟨none,rfl,rfl⟩
 | x::l,r,i,h=>by
  unfold BU at h
  split at h
  ·rename_i k' m hx
   split at h
   ·rename_i hk;subst hk
    simp only[Gc,Instr.findNow,hx,Instr.sameNow,if_true]
    split at h
    ·rename_i hn;subst hn
     cases h
     rw[beq_self_eq_true]
     exact⟨_,rfl,rfl⟩
    ·rename_i hn
     have hb:(n==m)=false:=by simpa using hn
     rw[hb]
     exact OZ (i+1) h
   ·cases h
  ·cases h
theorem acz {P:Program} {t:TypeId} {x i r:AV} {q:Bool} {tc:List Nat} {G:rO} {H:ru} {w0:World} {B0:sG} {e:Env} {w:World} (h:Be P t H x i q=some (r,tc)) (R:rT G w0 B0 e H w) :
  (Instr.lookup t (x.val e) (i.val e) q).run P w = .ok (r.val e) w∧r.refs = []:=by
 unfold Be at h
 split at h
 ·rename_i k kd n
  split at h
  ·rename_i es hk
   split at h
   ·rename_i kt et hu
    split at h
    ·rename_i kd' hkt
     split at h
     ·rename_i hkd;subst hkd
      obtain⟨⟨b,hv,hb⟩,-⟩:=R.mp k es hk
      have hki:=Ue hkt
      have hc:∀ em,(Instr.checkKey em 10000 kt (.int kd' n)).run P w = .ok () w:=fun em=>MapKept.run_checkKey (k:=.int kd' n) hki (by simp[MapKept.IsKey]) _ 9999
      have hmap:(AV.hd k).val e = .map (some b):=by simp only[AV.val,hv];rfl
      rw[hmap]
      have hfin:∀ a:Option (Nat×Value),Instr.findNow (.int kd') (.int kd' n) (Gc 0 es) 0=some a→(Instr.findKey kt (.int kd' n) (Gc 0 es)).run P w = .ok a w:=fun a ha=>MapKept.run_findKey hki ha
      split at h
      ·rename_i v hf
       cases h
       obtain⟨a,ha,hav⟩:=OZ 0 hf
       obtain⟨j,v',rfl⟩:∃ j v',a=some (j,v'):=by cases a with|none=>cases hav|some y=>exact⟨y.1,y.2,rfl⟩
       cases hav
       refine⟨?_,rfl⟩
       unfold Ba at hb
       simp[Instr.lookup,run_underlying hu,MapKept.run_getObj_map hb,hc,hfin _ ha,Result.andThen,AV.val,Ak]<;>(split<;>rfl)
      ·rename_i hf
       split at h
       ·rename_i z hz
        cases h
        obtain⟨a,ha,hav⟩:=OZ 0 hf
        obtain rfl:a=none:=by cases a with|none=>rfl|some y=>cases hav
        refine⟨?_,rfl⟩
        unfold Ba at hb
        have hzv:(zeroValue et).run P w = .ok z w:=by
         unfold OO at hz
         cases hi:P.info? et with
         | none=>rw[hi] at hz;cases hz
         | some x=>rw[hi] at hz;simp at hz;simp[zeroValue,typeInfo,hi,hz]
        simp[Instr.lookup,run_underlying hu,MapKept.run_getObj_map hb,hc,hfin _ ha,hzv,Result.andThen,AV.val,Ak]
       ·cases h
      ·cases h
     ·cases h
    ·cases h
   ·cases h
  ·cases h
 ·cases h
open Go.RowKit
theorem yl {x:Option AV} {r:AV} {tc:List Nat} {ef:List (Nat×AO)} (h:wt x=some (r,tc,ef)):x=some r∧tc = []∧ef = []:=by
 unfold wt at h;split at h
 ·cases h;exact⟨rfl,rfl,rfl⟩
 ·cases h
theorem Dh {x:Option (AV×List Nat)} {r:AV} {tc:List Nat} {ef:List (Nat×AO)} (h:ze x=some (r,tc,ef)):x=some (r,tc)∧ef = []:=by
 unfold ze at h;split at h
 ·cases h;exact⟨rfl,rfl⟩
 ·cases h
def vY (P:Program) (G:rO) (w0:World) (B0:sG) (e:Env) (H:ru) (w:World) (s:Sem Next) (r:AV) (ef:List (Nat×AO)):Prop :=
 ∃ e' w' nx,s.run P w = .ok nx w'∧(nx = .value (r.val e')∨(nx = .skip∧r = .v undef))∧rT G w0 B0 e' (H.puts ef) w'∧Env.on H e e'∧∀ c∈r.refs,(H.puts ef) c≠none
theorem vY.pure {P:Program} {G:rO} {w0:World} {B0:sG} {e:Env} {H:ru} {w:World} {s:Sem Value} {r:AV} (hs:s.run P w = .ok (r.val e) w) (R:rT G w0 B0 e H w) (hr:∀ c∈r.refs,H c≠none) :
  vY P G w0 B0 e H w (do pure (Next.value (← s))) r [] :=
 ⟨e,w,.value (r.val e),by simp[hs],.inl rfl,R,Env.on.refl H e,hr⟩
theorem acA {P:Program} {G:rO} {E:tu} (hE:BQ P E) {o:Oper} {ρ:Operand→Option AV} {ev:Operand→Value} {H:ru} {k:Nat} {r:AV} {tc:List Nat} {ef:List (Nat×AO)} {w0:World} {B0:sG} {e:Env} {w:World}
  (h:rU P G E o.op ρ H k=some (r,tc,ef)) (hρ:∀ x y,ρ x=some y→ev x=y.val e) (hr:∀ x∈o.op.operands,∀ y,ρ x=some y→∀ c∈y.refs,H c≠none) (hk:H k=none) (R:rT G w0 B0 e H w) :
  vY P G w0 B0 e H w (execOp ev o) r ef:=by
 unfold execOp
 unfold rU at h
 split at h<;>rename_i ho
 case h_1 x =>
  obtain⟨h1,rfl,rfl⟩:=yl h
  rw[ho] at hr ⊢
  exact⟨e,w,.value (r.val e),by simp[hρ _ _ h1],.inl rfl,R,Env.on.refl H e,hr x (by simp[Op.operands]) r h1⟩
 case h_2 x =>
  obtain⟨h1,rfl,rfl⟩:=yl h
  rw[ho] at hr ⊢
  exact⟨e,w,.value (r.val e),by simp[hρ _ _ h1],.inl rfl,R,Env.on.refl H e,hr x (by simp[Op.operands]) r h1⟩
 case h_3 c a b =>
  rw[ho] at hr ⊢
  split at h
  ·rename_i q hc
   have hcv:=hρ _ _ hc
   simp only[AV.val] at hcv
   split at h
   ·rename_i hq
    obtain⟨h1,rfl,rfl⟩:=yl h
    exact⟨e,w,.value (r.val e),by simp[hcv,asBool,hq,hρ _ _ h1],.inl rfl,R,Env.on.refl H e,hr a (by simp[Op.operands]) r h1⟩
   ·rename_i hq
    obtain⟨h1,rfl,rfl⟩:=yl h
    exact⟨e,w,.value (r.val e),by simp[hcv,asBool,hq,hρ _ _ h1],.inl rfl,R,Env.on.refl H e,hr b (by simp[Op.operands]) r h1⟩
  ·cases h
 case h_4 t =>
  rw[ho] at hr ⊢
  split at h
  ·rename_i z hz
   cases h
   obtain⟨it,v,hi,hv,hc⟩:=Mo hz
   refine⟨e.setBlk k w.heap.size,_,.value (.pointer (some ⟨w.heap.size,0,none⟩)),?_,.inl ?_,R.alloc hk (z.map .v) t (fun r hr=>by rw[Bd] at hr;simp at hr),Env.setBlk_on hk e _,?_⟩
   ·have hzv:(zeroValue t).run P w = .ok v w:=by simp[zeroValue,typeInfo,hi,hv]
    simp[Instr.alloc,hzv,newVar,newRow,vX,← hc]
   ·simp[AV.val,Env.setBlk]
   ·intro c hc';simp[AV.refs] at hc';subst hc';rw[ru.puts,ru.puts,ru.put_same];simp
  ·cases h
 case h_5 t x =>
  rw[ho] at hr ⊢
  split at h
  ·rename_i a ha
   cases h
   refine⟨e.setBlk k w.heap.size,_,.value (.pointer (some ⟨w.heap.size,0,none⟩)),?_,.inl ?_,R.alloc hk (tL a) t (acf (hr x (by simp[Op.operands]) a ha)),Env.setBlk_on hk e _,?_⟩
   ·simp[Instr.box,newVar,newRow,hρ _ _ ha,Mf]
   ·simp[AV.val,Env.setBlk]
   ·intro c hc';simp[AV.refs] at hc';subst hc';rw[ru.puts,ru.puts,ru.put_same];simp
  ·cases h
 case h_6 t ps =>
  rw[ho] at hr ⊢
  split at h
  ·rename_i l z hl hz
   split at h
   ·rename_i hs
    split at h
    ·rename_i c hf
     cases h
     refine vY.pure (acl w hz hs hf _ ?_) R ?_
     ·have:=OX hρ hl
      simpa using this
     ·intro c' hc'
      rcases OW hf (OJ hc') with h1|⟨y,hy,h1⟩
      ·rw[Bd] at h1;simp at h1
      ·obtain⟨z',hz',h2⟩:=OY hl y hy
       exact hr z'.2 (by simp[Op.operands];exact⟨z'.1,by simpa using hz'⟩) y.2 h2 c' h1
    ·cases h
   ·cases h
  ·cases h
 case h_7 t len ps =>
  rw[ho] at hr ⊢
  split at h
  ·rename_i l hl
   obtain⟨e',w',h1,h2,h3,h4⟩:=acm (parts:=ps.map fun(i,x)=>(i,ev x)) h hk R (fun y hy c' h1=>by
    obtain⟨z',hz',h2⟩:=OY hl y hy
    exact hr z'.2 (by simp[Op.operands];exact⟨z'.1,by simpa using hz'⟩) y.2 h2 c' h1) (by simpa using OX hρ hl)
   exact⟨e',w',.value (r.val e'),by simp[h1],.inl rfl,h2,h3,h4⟩
  ·cases h
 case h_8 t x =>
  rw[ho] at hr ⊢
  split at h
  ·rename_i a ha
   obtain⟨rfl,h1,h2⟩:=OT h R
   exact vY.pure (by rw[hρ _ _ ha];exact h1) R h2
  ·cases h
 case h_9 t x y =>
  rw[ho] at hr ⊢
  split at h
  ·rename_i a b ha hb
   obtain⟨rfl,w',h1,h2⟩:=acg h R (hr y (by simp[Op.operands]) b hb)
   exact⟨e,w',.skip,by simp[hρ _ _ ha,hρ _ _ hb,h1],.inr ⟨rfl,rfl⟩,h2,Env.on.refl H e,fun c hc=>by simp[AV.refs] at hc⟩
  ·cases h
 case h_10 x =>
  rw[ho] at hr ⊢
  split at h
  ·rename_i a ha
   obtain⟨h1,rfl,rfl⟩:=yl h
   have hx:=hr x (by simp[Op.operands]) a ha
   unfold Mj at h1
   split at h1
   ·cases h1;exact⟨e,w,_,by simp[hρ _ _ ha,AV.val],.inl rfl,R,Env.on.refl H e,hx⟩
   ·cases h1;exact⟨e,w,_,by simp[hρ _ _ ha,AV.val],.inl rfl,R,Env.on.refl H e,hx⟩
   ·cases h1;exact⟨e,w,_,by simp[hρ _ _ ha,AV.val],.inl rfl,R,Env.on.refl H e,hx⟩
   ·cases h1;exact⟨e,w,_,by simp[hρ _ _ ha,AV.val],.inl rfl,R,Env.on.refl H e,hx⟩
   ·cases h1
  ·cases h
 case h_11 op t x y yt =>
  rw[ho] at hr ⊢
  split at h
  ·rename_i a b ha hb
   obtain⟨h1,rfl,rfl⟩:=yl h
   unfold Dg at h1
   split at h1
   ·rename_i a b
    have hav:=hρ _ _ ha;have hbv:=hρ _ _ hb
    simp only[AV.val] at hav hbv
    split at h1
    ·rename_i v hv
     cases h1
     refine vY.pure (s:=do eqGuard op t x y (ev x) (ev y);binOp op t (ev x) (ev y)) ?_ R (fun c hc=>by simp[AV.refs] at hc)
     rw[hav,hbv];exact acu hv x y w
    ·split at h1
     ·rename_i v hv
      cases h1
      refine vY.pure (s:=do eqGuard op t x y (ev x) (ev y);binOp op t (ev x) (ev y)) ?_ R (fun c hc=>by simp[AV.refs] at hc)
      rw[hav,hbv];exact hE op t a b v hv x y w
     ·cases h1
   ·cases h1
  ·cases h
 case h_12 op t x =>
  rw[ho] at hr ⊢
  split at h
  ·rename_i a ha
   obtain⟨h1,rfl,rfl⟩:=yl h
   have hav:=hρ _ _ ha
   unfold Gi at h1
   split at h1
   ·cases h1
    refine vY.pure ?_ R (fun c hc=>by simp[AV.refs] at hc)
    rw[hav];rfl
   ·cases h1
    refine vY.pure ?_ R (fun c hc=>by simp[AV.refs] at hc)
    rw[hav];rfl
   ·cases h1
    refine vY.pure ?_ R (fun c hc=>by simp[AV.refs] at hc)
    rw[hav];rfl
   ·cases h1
  ·cases h
 case h_13 s d x =>
  rw[ho] at hr ⊢
  split at h
  ·rename_i a ha
   obtain⟨h1,rfl,rfl⟩:=yl h
   have hav:=hρ _ _ ha
   unfold Mi at h1
   split at h1
   ·rename_i kk n
    split at h1
    ·rename_i k' d' hk' hs'
     cases h1
     refine vY.pure ?_ R (fun c hc=>by simp[AV.refs] at hc)
     rw[hav]
     simp[convert,run_underlying hs',run_underlying (Ue hk'),AV.val,Conv.intToInt]
    ·cases h1
   ·cases h1
  ·cases h
 case h_14 f a c =>
  rw[ho] at hr ⊢
  split at h
  ·rename_i x y hx hy
   cases h
   refine vY.pure ?_ R ?_
   ·have h1:=Mq hρ hx;have h2:=Mq hρ hy
    rw[ab2,← h1,← h2]
    simp[Instr.makeFunc]
    constructor<;>(apply Array.ext';simp)
   ·intro c' hc'
    rcases List.mem_append.1 (Ua hc') with h1|h1
    ·obtain⟨z,hz,h2⟩:=AV.mem_refss.1 h1
     obtain⟨q,hq,h3⟩:=Mr hx z hz
     exact hr q (by simp[Op.operands];left;simpa using hq) z h3 c' h2
    ·obtain⟨z,hz,h2⟩:=AV.mem_refss.1 h1
     obtain⟨q,hq,h3⟩:=Mr hy z hz
     exact hr q (by simp[Op.operands];right;simpa using hq) z h3 c' h2
  ·cases h
 case h_15 t x f =>
  rw[ho] at hr ⊢
  split at h
  ·rename_i a ha
   obtain⟨h1,rfl,rfl⟩:=yl h
   have h2:=Uf h1 R
   exact vY.pure (by rw[hρ _ _ ha];exact h2.1) R (fun c hc=>hr x (by simp[Op.operands]) a ha c (h2.2 c hc))
  ·cases h
 case h_16 t x f =>
  rw[ho] at hr ⊢
  split at h
  ·rename_i a ha
   obtain⟨h1,rfl,rfl⟩:=yl h
   have h2:=ach (e:=e) w h1
   exact vY.pure (by rw[hρ _ _ ha];exact h2.1) R (fun c hc=>hr x (by simp[Op.operands]) a ha c (h2.2 c hc))
  ·cases h
 case h_17 t x i =>
  rw[ho] at hr ⊢
  split at h
  ·rename_i a b ha hb
   obtain⟨h1,rfl⟩:=Dh h
   have h2:=aci h1 R
   exact vY.pure (by rw[hρ _ _ ha,hρ _ _ hb];exact h2.1) R (fun c hc=>hr x (by simp[Op.operands]) a ha c (h2.2 c hc))
  ·cases h
 case h_18 t x i =>
  rw[ho] at hr ⊢
  split at h
  ·rename_i a b ha hb
   obtain⟨h1,rfl,rfl⟩:=yl h
   have h2:=acj (e:=e) w h1
   exact vY.pure (by rw[hρ _ _ ha,hρ _ _ hb];exact h2.1) R (fun c hc=>hr x (by simp[Op.operands]) a ha c (h2.2 c hc))
  ·cases h
 case h_19 x i =>
  rw[ho] at hr ⊢
  split at h
  ·rename_i a ha
   obtain⟨h1,rfl,rfl⟩:=yl h
   have h2:=ack (P:=P) (e:=e) w h1
   exact vY.pure (by rw[hρ _ _ ha];exact h2.1) R (fun c hc=>hr x (by simp[Op.operands]) a ha c (h2.2 c hc))
  ·cases h
 case h_20 args ts =>
  rw[ho] at hr ⊢
  split at h
  ·rename_i x t ha ht
   split at h
   ·rename_i a hav
    obtain⟨h1,rfl⟩:=Dh h
    have hargs:args = #[x]:=by apply Array.ext';simp[ha]
    have hts:ts = #[t]:=by apply Array.ext';simp[ht]
    have h2:=acv (ty:=o.type) h1 R
    subst hargs hts
    refine⟨e,w,.value (r.val e),?_,.inl rfl,R,Env.on.refl H e,fun c hc=>by rw[h2.2] at hc;simp at hc⟩
    simp[resolve,invoke,builtin,hρ _ _ hav,h2.1]
   ·cases h
  ·cases h
 case h_21 args ts =>
  rw[ho] at hr ⊢
  split at h
  ·rename_i x y ha
   split at h
   ·rename_i k' a k'' b hx hy
    cases h
    have hargs:args = #[x,y]:=by apply Array.ext';simp[ha]
    subst hargs
    have h1:=hρ _ _ hx;have h2:=hρ _ _ hy
    refine⟨e,w,.value _,?_,.inl rfl,R,Env.on.refl H e,fun c hc=>by simp[AV.refs] at hc⟩
    simp[resolve,invoke,builtin,h1,h2,AV.val,Builtin.min_,Builtin.min2]
   ·cases h
  ·cases h
 case h_22 args ts =>
  rw[ho] at hr ⊢
  split at h
  ·rename_i x y ha
   split at h
   ·rename_i k' a k'' b hx hy
    cases h
    have hargs:args = #[x,y]:=by apply Array.ext';simp[ha]
    subst hargs
    have h1:=hρ _ _ hx;have h2:=hρ _ _ hy
    refine⟨e,w,.value _,?_,.inl rfl,R,Env.on.refl H e,fun c hc=>by simp[AV.refs] at hc⟩
    simp[resolve,invoke,builtin,h1,h2,AV.val,Builtin.max_,Builtin.max2]
   ·cases h
  ·cases h
 case h_23 t x =>
  rw[ho] at hr ⊢
  split at h
  ·rename_i a ha
   obtain⟨h1,rfl⟩:=Dh h
   have h2:=acw h1 R
   exact vY.pure (by rw[hρ _ _ ha];exact h2.1) R (fun c hc=>hr x (by simp[Op.operands]) a ha c (h2.2 c hc))
  ·cases h
 case h_24 t x y =>
  rw[ho] at hr ⊢
  split at h
  ·rename_i a b ha hb
   obtain⟨e',w',h1,h2,h3,h4⟩:=acx h hk R
   exact⟨e',w',.value (r.val e'),by simp[hρ _ _ ha,hρ _ _ hb,h1],.inl rfl,h2,h3,h4⟩
  ·cases h
 case h_25 t x =>
  rw[ho] at hr ⊢
  split at h
  ·rename_i a ha
   obtain⟨h1,rfl,rfl⟩:=yl h
   have h2:=acy (P:=P) (e:=e) w h1
   exact vY.pure (by rw[hρ _ _ ha];exact h2.1) R (fun c hc=>hr x (by simp[Op.operands]) a ha c (h2.2 c hc))
  ·cases h
 case h_26 t x i q =>
  rw[ho] at hr ⊢
  split at h
  ·rename_i a b ha hb
   obtain⟨h1,rfl⟩:=Dh h
   have h2:=acz h1 R
   exact vY.pure (by rw[hρ _ _ ha,hρ _ _ hb];exact h2.1) R (fun c hc=>by rw[h2.2] at hc;simp at hc)
  ·cases h
 case h_27=>cases h
open Go.RowKit
def wW (P:Program) (g:FuncId) (args:Array Value) (w:World) (R:Ending→World→Prop):Prop :=
 match (callFunc g args).run P w with
 | .ok (.value v) w'=>R (.returned v) w'
 | .ok (.enter f bs) w'=>Calls P f bs w' R
 | _=>False
theorem wW.mono {P:Program} {g:FuncId} {args:Array Value} {w:World} {R R':Ending→World→Prop} (h:wW P g args w R) (hr:∀ e w',R e w'→R' e w'):wW P g args w R':=by
 unfold wW at h ⊢
 split at h
 ·exact hr _ _ h
 ·exact h.mono hr
 ·exact h.elim
def PC (P:Program) (G:rO) (g:FuncId) (args:List Value) (v:Value):Prop:=∀ w,Gl G w→wW P g args.toArray w fun e w'=>e = .returned v∧q9 w w'
def Et (P:Program) (G:rO) (w0:World) (B0:sG) (g:FuncId) (args:List AV) (H:ru) (tc:List Nat) (k:Nat) (r:AV) (ef:List (Nat×AO)):Prop :=
 ∀ H' e w,(∀ b∈tc,H' b=H b)→H' k=none→H' (k+1)=none→(∀ x∈args,∀ c∈x.refs,H' c≠none)→rT G w0 B0 e H' w →
  wW P g (AV.vals e args).toArray w fun en w'=>∃ e',en = .returned (r.val e')∧rT G w0 B0 e' (H'.puts ef) w'∧Env.on H' e e'∧∀ c∈r.refs,(H'.puts ef) c≠none
theorem PC.call {P:Program} {G:rO} {g:FuncId} {vs:List Value} {v:Value} (h:PC P G g vs v) (w0:World) (B0:sG) {args:List AV} (ha:tZ args=some vs) (H:ru) (k:Nat):Et P G w0 B0 g args H [] k (.v v) []:=by
 intro H' e w _ _ _ _ R
 rw[Db ha]
 exact(h w R.gl).mono fun en w' ⟨h1,h2⟩=>⟨e,h1,R.below h2,Env.on.refl H' e,fun c hc=>by simp[AV.refs] at hc⟩
def Gp (P:Program) (G:rO) (w0:World) (B0:sG) (o:Oper) (T:rR) (H:ru) (tc:List Nat) (k:Nat) (r:AV) (ef:List (Nat×AO)):Prop :=
 ∀ (nt:Nat) (T':rR) (H':ru) (e:Env) (a:Act) (w:World) (K:Act→World→Prop) (Q:Exit→Act→World→Prop),
  (∀ x∈o.op.operands,uX T' x=uX T x)→(∀ b∈tc,H' b=H b)→H' k=none→H' (k+1)=none→wL nt e T' a→vK T' H'→rT G w0 B0 e H' w →
  (∀ e' w',rT G w0 B0 e' (H'.puts ef) w'→Env.on H' e e'→(∀ c∈r.refs,(H'.puts ef) c≠none)→K (a.put o.dst (r.val e')) w')→o.wp P a w K Q
theorem vK.op {T:rR} {H:ru} (h:vK T H) {x:Operand} {y:AV} (hx:uX T x=some y):∀ c∈y.refs,H c≠none:=by
 cases x with
 | tmp t=>exact h t y hx
 | const v=>simp only[uX,Option.some.injEq] at hx;subst hx;intro c hc;simp[AV.refs] at hc
 | global g=>simp only[uX,Option.some.injEq] at hx;subst hx;intro c hc;simp[AV.refs] at hc
 | func f=>simp only[uX,Option.some.injEq] at hx;subst hx;intro c hc;simp[AV.refs] at hc
theorem vY.wp {P:Program} {G:rO} {w0:World} {B0:sG} {e:Env} {H:ru} {w:World} {o:Oper} {a:Act} {r:AV} {ef:List (Nat×AO)} {K:Act→World→Prop} {Q:Exit→Act→World→Prop}
  (h:vY P G w0 B0 e H w (execOp a.eval o) r ef) (hK:∀ e' w',rT G w0 B0 e' (H.puts ef) w'→Env.on H e e'→(∀ c∈r.refs,(H.puts ef) c≠none)→K (a.put o.dst (r.val e')) w'):o.wp P a w K Q:=by
 obtain⟨e',w',nx,hrun,hnx,hR,hon,hrf⟩:=h
 unfold Oper.wp
 rw[hrun]
 rcases hnx with rfl|⟨rfl,rfl⟩
 ·exact hK e' w' hR hon hrf
 ·exact hK e' w' hR hon hrf
theorem Gq {P:Program} {G:rO} {E:tu} (hE:BQ P E) {o:Oper} {T:rR} {H:ru} {k:Nat} {r:AV} {tc:List Nat} {ef:List (Nat×AO)} (h:rU P G E o.op (uX T) H k=some (r,tc,ef)) (w0:World) (B0:sG) :
  Gp P G w0 B0 o T H tc k r ef:=by
 intro nt T' H' e a w K Q hx hb hk _ hT hI hR hK
 have h':=ace h hx hb
 exact(acA hE h' (fun x y hy=>hT.eval hy) (fun x _ y hy=>hI.op hy) hk hR).wp hK
def Gr:AV→Option (FuncId×List AV×List AV)
 | .v (.func (.func g) a c)=>some (g,a.toList.map .v,c.toList.map .v)
 | .fn (.func g) a c=>some (g,a,c)
 | _=>none
def Gs (op:Op) (ρ:Operand→Option AV):Option (FuncId×List AV) :=
 match op with
 | .call { callee:=.value f,args:=xs,argTypes:=_ }=>match ρ f with
  | some fv=>match Gr fv,xN ρ xs.toList with
   | some (g,a,c),some bs=>some (g,a++bs++c)
   | _,_=>none
  | none=>none
 | _=>none
theorem acB {fv:AV} {g:FuncId} {a c:List AV} (h:Gr fv=some (g,a,c)) (e:Env):fv.val e = .func (.func g) (AV.vals e a).toArray (AV.vals e c).toArray∧∀ x∈a++c,∀ r∈x.refs,r∈fv.refs:=by
 unfold Gr at h
 split at h
 ·cases h
  refine⟨by simp[AV.val,vX],fun x hx r hr=>?_⟩
  rcases List.mem_append.1 hx with hx|hx<;>(obtain⟨y,_,rfl⟩:=List.mem_map.1 hx;simp[AV.refs] at hr)
 ·cases h
  refine⟨rfl,fun x hx r hr=>?_⟩
  rw[AV.refs]
  rcases List.mem_append.1 hx with hx|hx
  ·exact List.mem_append_left _ (AV.mem_refss.2 ⟨x,hx,hr⟩)
  ·exact List.mem_append_right _ (AV.mem_refss.2 ⟨x,hx,hr⟩)
 ·cases h
theorem JX (e:Env) (a b:List AV):AV.vals e (a++b)=AV.vals e a++AV.vals e b:=by simp[AV.vals_map]
theorem Ui {P:Program} {G:rO} {w0:World} {B0:sG} {o:Oper} {T:rR} {H:ru} {k:Nat} {r:AV} {tc:List Nat} {ef:List (Nat×AO)} {g:FuncId} {args:List AV} (h:Gs o.op (uX T)=some (g,args))
  (hc:Et P G w0 B0 g args H tc k r ef):Gp P G w0 B0 o T H tc k r ef:=by
 intro nt T' H' e a w K Q hx hb hk hk1 hT hI hR hK
 unfold Gs at h
 split at h
 ·rename_i f xs ts ho
  split at h
  ·rename_i fv hfv
   split at h
   ·rename_i g' first cap bs hcl hl
    cases h
    have hf':uX T' f=some fv:=by rw[hx f (by rw[ho];simp[Op.operands,Call.operands])];exact hfv
    have hl':xN (uX T') xs.toList=some bs:=by
     rw[Ml (ρ:=uX T) (fun x hm=>hx x (by rw[ho];simp[Op.operands,Call.operands];right;simpa using hm))];exact hl
    obtain⟨hv,hrf⟩:=acB hcl e
    have hev:=hT.eval hf'
    have hvals:=Mq (fun x y hy=>hT.eval hy) hl'
    have harg:∀ x∈first++bs++cap,∀ c∈x.refs,H' c≠none:=by
     intro x hxm c hcm
     simp only[List.mem_append] at hxm
     rcases hxm with(h1|h1)|h1
     ·exact hI.op hf' c (hrf x (List.mem_append_left _ h1) c hcm)
     ·obtain⟨y,_,hy⟩:=Mr hl' x h1
      exact hI.op hy c hcm
     ·exact hI.op hf' c (hrf x (List.mem_append_right _ h1) c hcm)
    have hcall:=hc H' e w hb hk hk1 harg hR
    unfold wW at hcall
    have hrun:(execOp a.eval o).run P w=(callFunc g (AV.vals e (first++bs++cap)).toArray).run P w:=by
     unfold execOp
     rw[ho]
     simp only[resolve,hev,hv,Deferred.ofValue]
     have:(xs.map a.eval)=(AV.vals e bs).toArray:=by rw[← hvals];apply Array.ext';simp
     simp[invoke,this,JX]
    unfold Oper.wp
    rw[hrun]
    split at hcall
    ·rename_i v w' hr'
     rw[hr']
     obtain⟨e',h1,h2,h3,h4⟩:=hcall
     cases h1
     exact hK e' w' h2 h3 h4
    ·rename_i f' bs' w' hr'
     rw[hr']
     refine Calls.mono hcall ?_
     rintro en w'' ⟨e',rfl,h2,h3,h4⟩
     exact hK e' w'' h2 h3 h4
    ·exact hcall.elim
   ·cases h
  ·cases h
 ·cases h
def Bf (ops:Array Oper) (T:rR) (o:Oper):Option Bool :=
 match o.guard with
 | none=>some true
 | some (j,want)=>match (ops[j]?).bind (·.dst) with
  | none=>some false
  | some d=>match T d with
   | some (.v (.bool b))=>some (b==want)
   | some (.v (.tuple _))=>some false
   | _=>none
theorem Uj {ops:Array Oper} {T:rR} {o:Oper} {q:Bool} (h:Bf ops T o=some q) {nt:Nat} {e:Env} {a:Act} (hT:wL nt e T a):Region.wanted o (yielded ops a.tmps)=q:=by
 unfold Bf at h
 unfold Region.wanted
 split at h
 ·rename_i hg;cases h;rw[hg]
 ·rename_i j want hg
  rw[hg]
  simp only[yielded]
  split at h
  ·rename_i hd;cases h;rw[hd];rfl
  ·rename_i d hd
   rw[hd]
   have key:∀ x,T d=some x→a.tmps[d]? = some (x.val e):=fun x hx=>by
    obtain⟨hs,hall⟩:=hT
    have h1:=hall d x hx
    have hlt:d<a.tmps.size:=by rw[hs];exact h1.1
    rw[Array.getD_eq_getD_getElem?,Array.getElem?_eq_getElem hlt] at h1
    rw[Array.getElem?_eq_getElem hlt]
    simpa using h1.2
   split at h
   ·rename_i b hb
    cases h
    simp[key _ hb,AV.val]
   ·rename_i vs hb
    cases h
    simp[key _ hb,AV.val]
   ·cases h
abbrev Tr:=List (Nat×List Nat×Bool)
def yN (tc:List Nat) (ef:List (Nat×AO)):Bool:=ef.any fun x=>tc.contains x.1
inductive Hold.{u} {α:Sort u} (a:α):Type|mk
def Gt (q:Bool) (A B:Prop) (_:Hold A) (_:Hold B):Prop:=(q=true→A)∧(q=false→B)
theorem Al (A B:Prop) (x:Hold A) (y:Hold B):Gt true A B x y=A:=by simp[Gt]
theorem Eu (A B:Prop) (x:Hold A) (y:Hold B):Gt false A B x y=B:=by simp[Gt]
def acC (P:Program) (G:rO) (w0:World) (B0:sG) (g:FuncId) (args:List AV) (H:ru) (k:Nat) (R:AV→List Nat→List (Nat×AO)→Prop) (_:Hold R):Prop :=
 ∃ r tc ef,Et P G w0 B0 g args H tc k r ef∧(∀ b∈tc,H b≠none)∧(∀ x∈ef,x.1=k∨x.1=k+1∨x.1∈tc)∧R r tc ef
def OpG (P:Program) (G:rO) (w0:World) (B0:sG) (o:Oper) (T:rR) (H:ru) (k:Nat) (R:AV→List Nat→List (Nat×AO)→Prop) (_:Hold R):Prop :=
 ∃ r tc ef,Gp P G w0 B0 o T H tc k r ef∧(∀ b∈tc,H b≠none)∧(∀ x∈ef,x.1=k∨x.1=k+1∨x.1∈tc)∧R r tc ef
def Am (op:Op) (ρ:Operand→Option AV):Option (Bool×Option AV×Option AV) :=
 match op with
 | .pick c a b=>match ρ c with
  | some (.v (.bool q))=>some (q,ρ a,ρ b)
  | _=>none
 | _=>none
theorem Uk {P:Program} {G:rO} {E:tu} {op:Op} {ρ:Operand→Option AV} {q:Bool} {x y:Option AV} (h:Am op ρ=some (q,x,y)) (H:ru) (k:Nat) :
  (∀ r,q=true→x=some r→rU P G E op ρ H k=some (r,[],[]))∧(∀ r,q=false→y=some r→rU P G E op ρ H k=some (r,[],[])):=by
 unfold Am at h
 split at h
 ·rename_i c a b
  split at h
  ·rename_i q' hc
   cases h
   constructor
   ·intro r hq hx;simp only[rU,hc,hq,if_true,hx,wt]
   ·intro r hq hx;simp only[rU,hc,hq,Bool.false_eq_true,if_false,hx,wt]
  ·cases h
 ·cases h
def uO (P:Program) (G:rO) (E:tu) (w0:World) (B0:sG) (ops:Array Oper) (Nb:Nat):Nat→List Oper→rR→ru→Tr→(rR→ru→Tr→Prop)→Prop
 | _,[],T,H,tr,K=>K T H tr
 | i,o::os,T,H,tr,K =>
  match Bf ops T o with
  | none=>False
  | some q=>Gt q
   (match Am o.op (uX T) with
   | some (c,x,y)=>Gt c
    (match x with|some r=>uO P G E w0 B0 ops Nb (i+1) os (T.put o.dst r) H ((i,[],false)::tr) K|none=>False)
    (match y with|some r=>uO P G E w0 B0 ops Nb (i+1) os (T.put o.dst r) H ((i,[],false)::tr) K|none=>False) .mk .mk
   | none =>
    match rU P G E o.op (uX T) H (Nb+2*i) with
    | some (r,tc,ef)=>uO P G E w0 B0 ops Nb (i+1) os (T.put o.dst r) (H.puts ef) ((i,tc,yN tc ef)::tr) K
    | none=>match Gs o.op (uX T) with
     | some (g,args)=>acC P G w0 B0 g args H (Nb+2*i) (fun r tc ef=>uO P G E w0 B0 ops Nb (i+1) os (T.put o.dst r) (H.puts ef) ((i,tc,yN tc ef)::tr) K) .mk
     | none=>OpG P G w0 B0 o T H (Nb+2*i) (fun r tc ef=>uO P G E w0 B0 ops Nb (i+1) os (T.put o.dst r) (H.puts ef) ((i,tc,yN tc ef)::tr) K) .mk)
   (uO P G E w0 B0 ops Nb (i+1) os (T.put o.dst (.v undef)) H tr K) .mk .mk
theorem acE {P:Program} {G:rO} {t:TypeId} {H:ru} {a r:AV} {tc:List Nat} {ef:List (Nat×AO)} (h:xM P G t H a=some (r,tc,ef)):(∀ b∈tc,H b≠none)∧ef = []:=by
 unfold xM at h
 split at h
 ·split at h
  ·rename_i hb;split at h
   ·cases h;exact⟨fun b hm=>by simp at hm;subst hm;rw[hb];simp,rfl⟩
   ·cases h
  ·cases h
 ·split at h
  ·rename_i hb;split at h
   ·cases h;exact⟨fun b hm=>by simp at hm;subst hm;rw[hb];simp,rfl⟩
   ·cases h
  ·cases h
 ·split at h
  ·split at h
   ·cases h;exact⟨fun b hm=>by simp at hm,rfl⟩
   ·cases h
  ·cases h
 ·cases h
theorem acF {P:Program} {t:TypeId} {H:ru} {x i r:AV} {tc:List Nat} (h:zD P t H x i=some (r,tc)):∀ b∈tc,H b≠none:=by
 unfold zD at h
 split at h
 ·split at h
  ·split at h
   ·split at h
    ·split at h
     ·cases h;intro b hb;simp at hb
     ·cases h
    ·cases h
   ·cases h
  ·split at h
   ·split at h
    ·split at h
     ·cases h;intro b hb;simp at hb
     ·cases h
    ·cases h
   ·cases h
  ·split at h
   ·split at h
    ·split at h
     ·cases h;intro b hb;simp at hb
     ·cases h
    ·cases h
   ·cases h
  ·split at h
   ·rename_i hb
    split at h
    ·split at h
     ·split at h
      ·cases h;intro b hm;simp at hm;subst hm;rw[hb];simp
      ·cases h
     ·cases h
    ·cases h
   ·cases h
  ·cases h
 ·cases h
theorem acG {P:Program} {t:TypeId} {H:ru} {x r:AV} {tc:List Nat} (h:yM P t H x=some (r,tc)):∀ b∈tc,H b≠none:=by
 unfold yM at h
 split at h
 ·split at h
  ·cases h;intro b hb;simp at hb
  ·split at h
   ·rename_i hb;cases h;intro b hm;simp at hm;subst hm;rw[hb];simp
   ·cases h
  ·cases h;intro b hb;simp at hb
  ·cases h
 ·split at h
  ·cases h;intro b hb;simp at hb
  ·cases h
 ·cases h;intro b hb;simp at hb
 ·cases h
theorem acH {P:Program} {t:TypeId} {H:ru} {x i r:AV} {q:Bool} {tc:List Nat} (h:Be P t H x i q=some (r,tc)):∀ b∈tc,H b≠none:=by
 unfold Be at h
 split at h
 ·split at h
  ·rename_i k _ _ _ _ hb
   have key:∀ b ∈ [k],H b≠none:=fun b hm=>by rw[List.mem_singleton.1 hm,hb];simp
   split at h
   ·split at h
    ·split at h
     ·split at h
      ·cases h;exact key
      ·split at h
       ·cases h;exact key
       ·cases h
      ·cases h
     ·cases h
    ·cases h
   ·cases h
  ·cases h
 ·cases h
theorem Ul {P:Program} {G:rO} {E:tu} {op:Op} {ρ:Operand→Option AV} {H:ru} {k:Nat} {r:AV} {tc:List Nat} {ef:List (Nat×AO)} (h:rU P G E op ρ H k=some (r,tc,ef)) :
  (∀ b∈tc,H b≠none)∧∀ x∈ef,x.1=k∨x.1=k+1∨x.1∈tc:=by
 have z:∀ {x:Option AV},wt x=some (r,tc,ef)→(∀ b∈tc,H b≠none)∧∀ x∈ef,x.1=k∨x.1=k+1∨x.1∈tc:=fun hx=>by
  obtain⟨_,rfl,rfl⟩:=yl hx
  exact⟨fun b hb=>by simp at hb,fun x hx=>by simp at hx⟩
 unfold rU at h
 split at h
 case h_1=>exact z h
 case h_2=>exact z h
 case h_3 =>
  split at h
  ·split at h<;>exact z h
  ·cases h
 case h_4 =>
  split at h
  ·cases h;exact⟨fun b hb=>by simp at hb,fun x hx=>by simp at hx;subst hx;exact .inl rfl⟩
  ·cases h
 case h_5 =>
  split at h
  ·cases h;exact⟨fun b hb=>by simp at hb,fun x hx=>by simp at hx;subst hx;exact .inl rfl⟩
  ·cases h
 case h_6 =>
  split at h
  ·split at h
   ·split at h
    ·cases h;exact⟨fun b hb=>by simp at hb,fun x hx=>by simp at hx⟩
    ·cases h
   ·cases h
  ·cases h
 case h_7 =>
  split at h
  ·unfold Gj at h
   split at h
   ·split at h
    ·split at h
     ·split at h
      ·cases h;exact⟨fun b hb=>by simp at hb,fun x hx=>by simp at hx;subst hx;exact .inl rfl⟩
      ·cases h
     ·cases h
    ·cases h
   ·cases h
  ·cases h
 case h_8 =>
  split at h
  ·obtain⟨h1,rfl⟩:=acE h
   exact⟨h1,fun x hx=>by simp at hx⟩
  ·cases h
 case h_9 =>
  split at h
  ·unfold BP at h
   split at h
   ·split at h
    ·rename_i hb
     split at h
     ·cases h;exact⟨fun b hm=>by simp at hm;subst hm;rw[hb];simp,fun x hx=>by simp at hx;subst hx;simp⟩
     ·cases h
    ·cases h
   ·cases h
  ·cases h
 case h_10=>split at h<;>first|exact z h|cases h
 case h_11=>split at h<;>first|exact z h|cases h
 case h_12=>split at h<;>first|exact z h|cases h
 case h_13=>split at h<;>first|exact z h|cases h
 case h_14 =>
  split at h
  ·cases h;exact⟨fun b hb=>by simp at hb,fun x hx=>by simp at hx⟩
  ·cases h
 case h_15=>split at h<;>first|exact z h|cases h
 case h_16=>split at h<;>first|exact z h|cases h
 case h_17 =>
  split at h
  ·obtain⟨h1,rfl⟩:=Dh h
   exact⟨acF h1,fun x hx=>by simp at hx⟩
  ·cases h
 case h_18=>split at h<;>first|exact z h|cases h
 case h_19=>split at h<;>first|exact z h|cases h
 case h_20 =>
  split at h
  ·split at h
   ·obtain⟨h1,rfl⟩:=Dh h
    exact⟨acG h1,fun x hx=>by simp at hx⟩
   ·cases h
  ·cases h
 case h_21 =>
  split at h
  ·split at h
   ·cases h;exact⟨fun b hb=>by simp at hb,fun x hx=>by simp at hx⟩
   ·cases h
  ·cases h
 case h_22 =>
  split at h
  ·split at h
   ·cases h;exact⟨fun b hb=>by simp at hb,fun x hx=>by simp at hx⟩
   ·cases h
  ·cases h
 case h_23 =>
  split at h
  ·obtain⟨h1,rfl⟩:=Dh h
   refine⟨?_,fun x hx=>by simp at hx⟩
   unfold BS at h1
   split at h1
   ·split at h1
    ·split at h1
     ·cases h1;intro b hb;simp at hb
     ·cases h1
    ·split at h1
     ·rename_i hb
      split at h1
      ·cases h1;intro b hm;simp at hm;subst hm;rw[hb];simp
      ·cases h1
     ·cases h1
    ·cases h1
   ·cases h1
  ·cases h
 case h_24 =>
  split at h
  ·unfold Gm at h
   split at h
   ·split at h
    ·split at h
     ·split at h
      ·cases h;exact⟨fun b hb=>by simp at hb,fun x hx=>by simp at hx;subst hx;exact .inl rfl⟩
      ·cases h
     ·cases h
    ·cases h
   ·cases h
  ·cases h
 case h_25=>split at h<;>first|exact z h|cases h
 case h_26 =>
  split at h
  ·obtain⟨h1,rfl⟩:=Dh h
   exact⟨acH h1,fun x hx=>by simp at hx⟩
  ·cases h
 case h_27=>cases h
def zf (H:ru) (N:Nat):Prop:=∀ b,N≤b→H b=none
theorem ru.puts_ne:∀ {ef:List (Nat×AO)} {H:ru} {b:Nat},(∀ x∈ef,x.1≠b)→(H.puts ef) b=H b
 | [],H,b,_=>rfl
 | x::ef,H,b,h=>by
  rw[ru.puts,ru.puts_ne (ef:=ef) (fun y hy=>h y (List.mem_cons_of_mem _ hy)),ru.put_ne _ _ _ (fun e=>h x List.mem_cons_self e.symm)]
theorem ru.puts_congr:∀ {ef:List (Nat×AO)} {H H':ru} {b:Nat},H b=H' b→(H.puts ef) b=(H'.puts ef) b
 | [],H,H',b,h=>h
 | x::ef,H,H',b,h=>by
  rw[ru.puts,ru.puts]
  apply ru.puts_congr
  unfold ru.put;split
  ·rfl
  ·exact h
theorem ru.puts_dom:∀ {ef:List (Nat×AO)} {H:ru} {b:Nat},H b≠none→(H.puts ef) b≠none
 | [],H,b,h=>h
 | x::ef,H,b,h=>by rw[ru.puts];exact ru.puts_dom (ru.put_dom _ _ _ h)
theorem zf.puts {H:ru} {N:Nat} (h:zf H N) {ef:List (Nat×AO)} {tc:List Nat} (ht:∀ b∈tc,H b≠none) (he:∀ x∈ef,x.1=N∨x.1=N+1∨x.1∈tc):zf (H.puts ef) (N+2):=by
 intro b hb
 rw[ru.puts_ne (fun x hx=>?_)]
 ·exact h b (by omega)
 ·rcases he x hx with h1|h1|h1
  ·omega
  ·omega
  ·intro e
   exact ht _ h1 (h _ (by omega))
theorem vK.op_put {T:rR} {H:ru} (h:vK T H) (d:Option Tmp) {r:AV} {ef:List (Nat×AO)} (hr:∀ c∈r.refs,(H.puts ef) c≠none):vK (T.put d r) (H.puts ef) :=
 (h.grow (fun _ hr=>ru.puts_dom hr)).put d hr
theorem acI {P : Program} {G : rO} {E : tu} (hE : BQ P E) {w0 : World} {B0 : sG} {ops : Array Oper} {Nb nt : Nat} {Q : Exit → Act → World → Prop} {K : rR → ru → Tr → Prop} {ds : List Deferred}
    (hd : ∀ o ∈ ops.toList, ∀ t, o.dst = some t → t < nt)
    (hQ : ∀ T H tr e a w, K T H tr → rT G w0 B0 e H w → wL nt e T a → vK T H → zf H (Nb + 2 * ops.size) → a.defers = ds → Q .normal a w) :
    ∀ (os : List Oper) (i : Nat) (T : rR) (H : ru) (tr : Tr) (e : Env) (a : Act) (w : World), os = ops.toList.drop i → i ≤ ops.size → uO P G E w0 B0 ops Nb i os T H tr K → rT G w0 B0 e H w → wL nt e T a → vK T H → zf H (Nb + 2 * i) → a.defers = ds →
      wpOps P ops Q (List.range' i (ops.size - i)) a w := by
  intro os
  induction os with
  | nil =>
    intro i T H tr e a w hos hi hev R hT hI hB hdf
    have : ops.size - i = 0 := by
      have := congrArg List.length hos
      simp at this; omega
    rw [this]
    exact hQ T H tr e a w hev R hT hI (by
      have : i = ops.size := by omega
      rw [← this]; exact hB) hdf
  | cons o os ih =>
    intro i T H tr e a w hos hi hev R hT hI hB hdf
    have hlt : i < ops.size := by
      have := congrArg List.length hos
      simp at this; omega
    have ho : ops[i]? = some o := by
      have := congrArg (·[0]?) hos
      simp at this
      rw [Array.getElem?_eq_getElem hlt] at this ⊢
      exact this.symm
    have hos' : os = ops.toList.drop (i + 1) := by
      have := congrArg List.tail hos
      simpa using this
    have hr : List.range' i (ops.size - i) = i :: List.range' (i + 1) (ops.size - (i + 1)) := by
      have : ops.size - i = (ops.size - (i + 1)) + 1 := by omega
      rw [this, List.range'_succ]
    have hdo : ∀ t, o.dst = some t → t < nt := hd o (Array.mem_toList_iff.2 (Array.mem_of_getElem? ho))
    rw [hr, wpOps]
    simp only [ho]
    have hk0 : H (Nb + 2 * i) = none := hB _ (Nat.le_refl _)
    have hk1 : H (Nb + 2 * i + 1) = none := hB _ (by omega)
    have step : ∀ r tc ef, Gp P G w0 B0 o T H tc (Nb + 2 * i) r ef → (∀ b ∈ tc, H b ≠ none) → (∀ x ∈ ef, x.1 = Nb + 2 * i ∨ x.1 = Nb + 2 * i + 1 ∨ x.1 ∈ tc) →
        uO P G E w0 B0 ops Nb (i + 1) os (T.put o.dst r) (H.puts ef) ((i, tc, yN tc ef) :: tr) K → o.wp P a w (wpOps P ops Q (List.range' (i + 1) (ops.size - (i + 1)))) Q := by
      intro r tc ef hop htc hef hnx
      refine hop nt T H e a w _ Q (fun _ _ => rfl) (fun _ _ => rfl) hk0 hk1 hT hI R ?_
      intro e' w' hR' hon hrf
      refine ih (i + 1) _ _ _ e' _ w' hos' (by omega) hnx hR' ((hT.on hI hon).put hdo r) (hI.op_put o.dst hrf) ?_ (by rw [Act.put_defers]; exact hdf)
      have := hB.puts htc hef
      rwa [show Nb + 2 * (i + 1) = Nb + 2 * i + 2 by omega]
    simp only [uO] at hev
    split at hev
    · exact hev.elim
    · rename_i q hw
      rw [Uj hw hT]
      cases q with
      | false =>
        rw [Eu] at hev
        simp only [Bool.false_eq_true, if_false]
        exact ih (i + 1) _ _ _ e _ w hos' (by omega) hev R (hT.put hdo (.v undef)) (hI.put o.dst (fun c hc => by simp [AV.refs] at hc)) (fun b hb => hB b (by omega)) (by rw [Act.put_defers]; exact hdf)
      | true =>
        rw [Al] at hev
        simp only [if_true]
        left
        split at hev
        · rename_i c x y hp
          have hpk := Uk (P := P) (G := G) (E := E) hp H (Nb + 2 * i)
          cases c with
          | true =>
            rw [Al] at hev
            split at hev
            · rename_i r
              exact step r [] [] (Gq hE (hpk.1 r rfl rfl) w0 B0) (fun b hb => (by cases hb)) (fun x hx => (by cases hx)) hev
            · exact hev.elim
          | false =>
            rw [Eu] at hev
            split at hev
            · rename_i r
              exact step r [] [] (Gq hE (hpk.2 r rfl rfl) w0 B0) (fun b hb => (by cases hb)) (fun x hx => (by cases hx)) hev
            · exact hev.elim
        · split at hev
          · rename_i r tc ef hn
            obtain ⟨h1, h2⟩ := Ul hn
            exact step r tc ef (Gq hE hn w0 B0) h1 h2 hev
          · split at hev
            · rename_i g args hc
              obtain ⟨r, tc, ef, h0, h1, h2, h3⟩ := hev
              exact step r tc ef (Ui hc h0) h1 h2 h3
            · obtain ⟨r, tc, ef, h0, h1, h2, h3⟩ := hev
              exact step r tc ef h0 h1 h2 h3
open Go.RowKit
def Ev (acc:List Nat):List Edge→Nat
 | []=>0
 | e::es=>(if Region.binds .any e then 2^e.on|||acc.getD e.on 0 else 0)|||Ev acc es
def masks (acc:List Nat):List Oper→List Nat
 | []=>acc
 | o::os=>masks (acc ++ [Ev acc o.after.toList]) os
def Ms (ops:Array Oper) (L:Nat→Bool):Prop:=∀ k x,ops[k]? = some x→L k=true→∀ j,Ai x j=true→L j=true
theorem Um {acc:List Nat} {L:Nat→Bool} {j:Nat} : ∀ {es:List Edge},(Ev acc es).testBit j=true→∃ e∈es,Region.binds .any e=true∧(e.on=j∨(acc.getD e.on 0).testBit j=true)
 | [],h=>by simp[Ev] at h
 | e::es,h=>by
  rw[Ev,Nat.testBit_or,Bool.or_eq_true] at h
  rcases h with h|h
  ·split at h
   ·rename_i hb
    rw[Nat.testBit_or,Bool.or_eq_true] at h
    refine⟨e,List.mem_cons_self,hb,?_⟩
    rcases h with h|h
    ·rw[Nat.testBit_two_pow] at h;exact .inl (by simpa using h)
    ·exact .inr h
   ·simp at h
  ·obtain⟨e',h1,h2⟩:=Um (L:=L) h;exact⟨e',List.mem_cons_of_mem _ h1,h2⟩
theorem Un {ops:Array Oper} {L:Nat→Bool} (hL:Ms ops L):∀ (os:List Oper) (acc:List Nat),os=ops.toList.drop acc.length→(∀ i j,(acc.getD i 0).testBit j=true→L i=true→L j=true)→∀ i j,((masks acc os).getD i 0).testBit j=true→L i=true→L j=true
 | [],acc,_,h=>h
 | o::os,acc,hos,h=>by
  rw[masks]
  have hl:acc.length<ops.size:=by
   have:=congrArg List.length hos
   simp at this;omega
  have ho:ops[acc.length]? = some o:=by
   have:=congrArg (·[0]?) hos
   simp at this
   rw[Array.getElem?_eq_getElem hl] at this ⊢
   exact this.symm
  refine Un hL os _ ?_ ?_
  ·have:=congrArg List.tail hos
   simpa using this
  ·intro i j hb hi
   rcases Nat.lt_trichotomy i acc.length with hlt|rfl|hgt
   ·refine h i j ?_ hi
    simpa [List.getD,List.getElem?_append_left hlt] using hb
   ·have hb':(Ev acc o.after.toList).testBit j=true:=by simpa [List.getD] using hb
    obtain⟨e,he,hbi,h1⟩:=Um (L:=L) hb'
    have hon:L e.on=true:=hL _ o ho hi e.on (by
     unfold Ai
     rw[Array.any_eq_true']
     exact⟨e,by simpa using he,by simp[hbi]⟩)
    rcases h1 with rfl|h1
    ·exact hon
    ·exact h _ _ h1 hon
   ·have:(acc ++ [Ev acc o.after.toList])[i]? = none:=List.getElem?_eq_none (by simp;omega)
    simp[List.getD,this] at hb
def BV (M:List Nat) (i j:Nat):Bool:=if j<i then(M.getD i 0).testBit j else if i<j then(M.getD j 0).testBit i else true
def xO (ops:Array Oper) (j:Nat):Option Tmp:=(ops[j]?).bind (·.dst)
def Di (ops:Array Oper) (o:Oper):List Tmp :=
 o.dst.toList++(match o.guard with|some (j,_)=>(xO ops j).toList|none=>[])++o.op.operands.toList.filterMap fun | .tmp t=>some t|_=>none
def Gu (ops:Array Oper) (M:List Nat) (i:Nat) (u:List Tmp):Nat→List Oper→Bool
 | _,[]=>true
 | j,o::os=>(match o.dst with|some t => !u.contains t||BV M i j|none=>true)&&Gu ops M i u (j+1) os
def Mt (ops:Array Oper) (M:List Nat):Nat→List Oper→Bool
 | _,[]=>true
 | i,o::os=>Gu ops M i (Di ops o) 0 ops.toList&&Mt ops M (i+1) os
def dstsLt (nt:Nat):List Oper→Bool
 | []=>true
 | o::os=>(match o.dst with|some t=>Nat.blt t nt|none=>true)&&dstsLt nt os
def drawOK (ops:Array Oper) (nt:Nat):Bool:=BN 0 ops.toList&&dstsLt nt ops.toList&&Mt ops (masks [] ops.toList) 0 ops.toList
def Mv (M:List Nat) (Nb i:Nat):List Nat→Bool
 | []=>true
 | b::bs=>(Nat.blt b Nb||(M.getD i 0).testBit ((b-Nb)/2))&&Mv M Nb i bs
def Dj (M:List Nat) (x y:Nat×List Nat×Bool):Bool := !(x.2.2||y.2.2) || !(x.2.1.any fun b=>y.2.1.contains b)||BV M x.1 y.1
def Dk (M:List Nat) (Nb:Nat):Tr→Bool
 | []=>true
 | x::l=>Mv M Nb x.1 x.2.1&&l.all (Dj M x)&&Dk M Nb l
def traceOK (ops:Array Oper) (Nb:Nat) (tr:Tr):Bool:=Dk (masks [] ops.toList) Nb tr
theorem BX {nt:Nat} : ∀ {os:List Oper},dstsLt nt os=true→∀ o∈os,∀ t,o.dst=some t→t<nt
 | [],_,o,h=>by cases h
 | x::os,h,o,ho=>by
  simp only[dstsLt,Bool.and_eq_true] at h
  rcases List.mem_cons.1 ho with rfl|ho
  ·intro t ht;have:=h.1;rw[ht] at this;simpa using this
  ·exact BX h.2 o ho
theorem O0 {ops:Array Oper} {M:List Nat} {i:Nat} {u:List Tmp} : ∀ {os:List Oper} {k:Nat},Gu ops M i u k os=true→∀ m o t,os[m]? = some o→o.dst=some t→t∈u→BV M i (k+m)=true
 | [],k,_,m,o,t,h=>by simp at h
 | x::os,k,h,m,o,t,ho=>by
  simp only[Gu,Bool.and_eq_true] at h
  intro ht hu
  cases m with
  | zero =>
   simp at ho;subst ho
   have:=h.1
   rw[ht] at this
   simp[hu] at this
   simpa using this
  | succ m=>have:=O0 h.2 m o t (by simpa using ho) ht hu;rwa [show k+1+m=k+(m+1) by omega] at this
theorem Uo {ops:Array Oper} {M:List Nat} : ∀ {os:List Oper} {k:Nat},Mt ops M k os=true→∀ m o,os[m]? = some o→Gu ops M (k+m) (Di ops o) 0 ops.toList=true
 | [],k,_,m,o,h=>by simp at h
 | x::os,k,h,m,o,ho=>by
  simp only[Mt,Bool.and_eq_true] at h
  cases m with
  | zero=>simp at ho;subst ho;exact h.1
  | succ m=>have:=Uo h.2 m o (by simpa using ho);rwa [show k+1+m=k+(m+1) by omega] at this
theorem Uq {M:List Nat} {Nb i:Nat} : ∀ {bs:List Nat},Mv M Nb i bs=true→∀ b∈bs,b<Nb∨(M.getD i 0).testBit ((b-Nb)/2)=true
 | [],_,b,h=>by cases h
 | x::bs,h,b,hb=>by
  simp only[Mv,Bool.and_eq_true,Bool.or_eq_true] at h
  rcases List.mem_cons.1 hb with rfl|hb
  ·exact h.1.imp (by simp) id
  ·exact Uq h.2 b hb
theorem acJ {M:List Nat} {i j:Nat} (h:BV M i j=true):BV M j i=true:=by
 unfold BV at h ⊢
 rcases Nat.lt_trichotomy i j with h1|rfl|h1
 ·simp[h1,show ¬ j<i by omega] at h ⊢;exact h
 ·simp
 ·simp[h1,show ¬ i<j by omega] at h ⊢;exact h
theorem acK {M:List Nat} {x y:Nat×List Nat×Bool} (h:Dj M x y=true):Dj M y x=true:=by
 unfold Dj at h ⊢
 simp only[Bool.or_eq_true,Bool.not_eq_true'] at h ⊢
 rcases h with(h|h)|h
 ·left;left;rw[Bool.or_comm];exact h
 ·left;right
  rw[List.any_eq_false] at h ⊢
  intro b hb hc
  have:=h b
  simp only[List.contains_iff_mem] at this hc
  exact this hc hb
 ·right;exact acJ h
theorem Ur {M:List Nat} {Nb:Nat} : ∀ {tr:Tr},Dk M Nb tr=true→(∀ x∈tr,∀ b∈x.2.1,b<Nb∨(M.getD x.1 0).testBit ((b-Nb)/2)=true)∧∀ x∈tr,∀ y∈tr,x.1≠y.1→Dj M x y=true
 | [],_=>⟨fun x h=>(by cases h),fun x h=>(by cases h)⟩
 | z::l,h=>by
  simp only[Dk,Bool.and_eq_true] at h
  obtain⟨ih1,ih2⟩:=Ur h.2
  have hall:=List.all_eq_true.1 h.1.2
  refine⟨fun x hx=>?_,fun x hx y hy hne=>?_⟩
  ·rcases List.mem_cons.1 hx with rfl|hx
   ·exact Uq h.1.1
   ·exact ih1 x hx
  ·rcases List.mem_cons.1 hx with h1|h1<;>rcases List.mem_cons.1 hy with h2|h2
   ·exact absurd (by rw[h1,h2]) hne
   ·rw[h1];exact hall y h2
   ·rw[h2];exact acK (hall x h1)
   ·exact ih2 x h1 y h2 hne
structure xw where
 w:Bool
 r:AV
 tc:List Nat
 ef:List (Nat×AO)
def FT (dst:Nat→Option Tmp) (D:Nat→xw) (T:rR) (i:Nat):Nat→rR
 | 0=>T
 | m+1=>(FT dst D T i m).put (dst (i+m)) (D (i+m)).r
def FH (D:Nat→xw) (H:ru) (i:Nat):Nat→ru
 | 0=>H
 | m+1=>(FH D H i m).puts (D (i+m)).ef
theorem O1 {dst:Nat→Option Tmp} {D:Nat→xw} {T:rR} {i:Nat} : ∀ m,FT dst D T i (m+1)=FT dst D (T.put (dst i) (D i).r) (i+1) m
 | 0=>rfl
 | m+1=>by rw[FT,O1 m,FT];rw[show i+(m+1)=i+1+m by omega]
theorem O3 {D:Nat→xw} {H:ru} {i:Nat} : ∀ m,FH D H i (m+1)=FH D (H.puts (D i).ef) (i+1) m
 | 0=>rfl
 | m+1=>by rw[FH,O3 m,FH];rw[show i+(m+1)=i+1+m by omega]
theorem O4 {dst:Nat→Option Tmp} {D D':Nat→xw} {T:rR} {i:Nat} (h:∀ j,i≤j→D j=D' j):∀ m,FT dst D T i m=FT dst D' T i m
 | 0=>rfl
 | m+1=>by rw[FT,FT,O4 h m,h _ (by omega)]
theorem O5 {D D':Nat→xw} {H:ru} {i:Nat} (h:∀ j,i≤j→D j=D' j):∀ m,FH D H i m=FH D' H i m
 | 0=>rfl
 | m+1=>by rw[FH,FH,O5 h m,h _ (by omega)]
def O6 (P:Program) (G:rO) (w0:World) (B0:sG) (ops:Array Oper) (Nb i:Nat) (T:rR) (H:ru) (d:xw):Prop :=
 ∃ o,ops[i]? = some o∧Bf ops T o=some d.w∧(d.w=true→Gp P G w0 B0 o T H d.tc (Nb+2*i) d.r d.ef)∧(d.w=false→d.r = .v undef∧d.tc = []∧d.ef = []) ∧
  (∀ b∈d.tc,H b≠none)∧(∀ x∈d.ef,x.1=Nb+2*i∨x.1=Nb+2*i+1∨x.1∈d.tc)
theorem acL {P:Program} {G:rO} {E:tu} (hE:BQ P E) {w0:World} {B0:sG} {ops:Array Oper} {Nb:Nat} {K:rR→ru→Tr→Prop} :
  ∀ (os:List Oper) (i:Nat) (T:rR) (H:ru) (tr:Tr),os=ops.toList.drop i→i≤ops.size→uO P G E w0 B0 ops Nb i os T H tr K →
   ∃ D tr',(∀ m,i+m<ops.size→O6 P G w0 B0 ops Nb (i+m) (FT (xO ops) D T i m) (FH D H i m) (D (i+m)))∧K (FT (xO ops) D T i (ops.size-i)) (FH D H i (ops.size-i)) tr'∧(∀ x∈tr,x∈tr') ∧
    ∀ m,i+m<ops.size→(D (i+m)).w=true→(i+m,(D (i+m)).tc,yN (D (i+m)).tc (D (i+m)).ef)∈tr':=by
 intro os
 induction os with
 | nil =>
  intro i T H tr hos hi hev
  have:ops.size-i=0:=by
   have:=congrArg List.length hos
   simp at this;omega
  refine⟨fun _=>⟨false,.v undef,[],[]⟩,tr,fun m hm=>by omega,?_,fun x hx=>hx,fun m hm=>by omega⟩
  rw[this];exact hev
 | cons o os ih =>
  intro i T H tr hos hi hev
  have hlt:i<ops.size:=by
   have:=congrArg List.length hos
   simp at this;omega
  have ho:ops[i]? = some o:=by
   have:=congrArg (·[0]?) hos
   simp at this
   rw[Array.getElem?_eq_getElem hlt] at this ⊢
   exact this.symm
  have hos':os=ops.toList.drop (i+1):=by
   have:=congrArg List.tail hos
   simpa using this
  have hdst:xO ops i=o.dst:=by simp[xO,ho]
  have key:∀ (d:xw) (tr1:Tr),O6 P G w0 B0 ops Nb i T H d→(∀ x∈tr,x∈tr1)→(d.w=true→(i,d.tc,yN d.tc d.ef)∈tr1)→uO P G E w0 B0 ops Nb (i+1) os (T.put o.dst d.r) (H.puts d.ef) tr1 K →
    ∃ D tr',(∀ m,i+m<ops.size→O6 P G w0 B0 ops Nb (i+m) (FT (xO ops) D T i m) (FH D H i m) (D (i+m)))∧K (FT (xO ops) D T i (ops.size-i)) (FH D H i (ops.size-i)) tr'∧(∀ x∈tr,x∈tr') ∧
     ∀ m,i+m<ops.size→(D (i+m)).w=true→(i+m,(D (i+m)).tc,yN (D (i+m)).tc (D (i+m)).ef)∈tr':=by
   intro d tr1 hd htr hmem hnx
   obtain⟨D',tr',h1,h2,h3,h4⟩:=ih (i+1) _ _ _ hos' (by omega) hnx
   let D:Nat→xw:=fun j=>if j=i then d else D' j
   have hDi:D i=d:=by simp[D]
   have hD:∀ j,i+1≤j→D j=D' j:=fun j hj=>by simp[D,show j≠i by omega]
   refine⟨D,tr',?_,?_,fun x hx=>h3 x (htr x hx),?_⟩
   ·intro m hm
    cases m with
    | zero=>simpa [FT,FH,hDi] using hd
    | succ m =>
     rw[O1,O3,hDi,hdst,O4 hD,O5 hD,hD _ (by omega),show i+(m+1)=i+1+m by omega]
     exact h1 m (by omega)
   ·have hn:ops.size-i=(ops.size-(i+1))+1:=by omega
    rw[hn,O1,O3,hDi,hdst,O4 hD,O5 hD]
    exact h2
   ·intro m hm hw
    cases m with
    | zero =>
     rw[Nat.add_zero] at hw ⊢
     rw[hDi] at hw ⊢
     exact h3 _ (hmem hw)
    | succ m =>
     rw[hD _ (by omega),show i+(m+1)=i+1+m by omega] at hw ⊢
     exact h4 m (by omega) hw
  simp only[uO] at hev
  split at hev
  ·exact hev.elim
  ·rename_i q hw
   cases q with
   | false =>
    rw[Eu] at hev
    exact key ⟨false,.v undef,[],[]⟩ tr ⟨o,ho,hw,fun h=>(by cases h),fun _=>⟨rfl,rfl,rfl⟩,fun b hb=>(by cases hb),fun x hx=>(by cases hx)⟩ (fun x hx=>hx) (fun h=>(by cases h)) hev
   | true =>
    rw[Al] at hev
    have go:∀ r tc ef,Gp P G w0 B0 o T H tc (Nb+2*i) r ef→(∀ b∈tc,H b≠none)→(∀ x∈ef,x.1=Nb+2*i∨x.1=Nb+2*i+1∨x.1∈tc)→uO P G E w0 B0 ops Nb (i+1) os (T.put o.dst r) (H.puts ef) ((i,tc,yN tc ef)::tr) K→_ :=
     fun r tc ef h0 h1 h2 h3=>key ⟨true,r,tc,ef⟩ ((i,tc,yN tc ef)::tr) ⟨o,ho,hw,fun _=>h0,fun h=>(by cases h),h1,h2⟩ (fun x hx=>List.mem_cons_of_mem _ hx) (fun _=>List.mem_cons_self) h3
    split at hev
    ·rename_i c x y hp
     have hpk:=Uk (P:=P) (G:=G) (E:=E) hp H (Nb+2*i)
     cases c with
     | true =>
      rw[Al] at hev
      split at hev
      ·rename_i r
       exact go r [] [] (Gq hE (hpk.1 r rfl rfl) w0 B0) (fun b hb=>(by cases hb)) (fun x hx=>(by cases hx)) hev
      ·exact hev.elim
     | false =>
      rw[Eu] at hev
      split at hev
      ·rename_i r
       exact go r [] [] (Gq hE (hpk.2 r rfl rfl) w0 B0) (fun b hb=>(by cases hb)) (fun x hx=>(by cases hx)) hev
      ·exact hev.elim
    ·split at hev
     ·rename_i r tc ef hn
      obtain⟨h1,h2⟩:=Ul hn
      exact go r tc ef (Gq hE hn w0 B0) h1 h2 hev
     ·split at hev
      ·rename_i g args hc
       obtain⟨r,tc,ef,h0,h1,h2,h3⟩:=hev
       exact go r tc ef (Ui hc h0) h1 h2 h3
      ·obtain⟨r,tc,ef,h0,h1,h2,h3⟩:=hev
       exact go r tc ef h0 h1 h2 h3
def TL (dst:Nat→Option Tmp) (D:Nat→xw) (T:rR) (L:Nat→Bool):Nat→rR
 | 0=>T
 | m+1=>if L m then(TL dst D T L m).put (dst m) (D m).r else TL dst D T L m
def HL (D:Nat→xw) (H:ru) (L:Nat→Bool):Nat→ru
 | 0=>H
 | m+1=>if L m then(HL D H L m).puts (D m).ef else HL D H L m
theorem rR.put_other {T:rR} {d:Option Tmp} {x:AV} {t:Nat} (h:d≠some t):(T.put d x) t=T t:=by
 cases d with
 | none=>rfl
 | some d=>exact rR.put_ne _ _ _ (fun e=>h (by rw[e]))
theorem Mw {dst:Nat→Option Tmp} {D:Nat→xw} {T:rR} {L L':Nat→Bool} {t:Nat} : ∀ n,(∀ j,j<n→dst j=some t→L j=L' j)→TL dst D T L n t=TL dst D T L' n t
 | 0,_=>rfl
 | n+1,h=>by
  have ih:=Mw (D:=D) (T:=T) n (fun j hj=>h j (by omega))
  simp only[TL]
  by_cases hd:dst n=some t
  ·rw[h n (by omega) hd]
   split
   ·rw[hd,rR.put_same,rR.put_same]
   ·exact ih
  ·split<;>split<;>simp only[rR.put_other hd,ih]
theorem O7 {dst:Nat→Option Tmp} {D:Nat→xw} {T:rR} {i:Nat} : ∀ n,TL dst D T (fun j=>decide (j<i)) n=FT dst D T 0 (min i n)
 | 0=>by simp[TL,FT]
 | n+1=>by
  simp only[TL,O7 n]
  by_cases h:n<i
  ·simp only[h,decide_true,if_true]
   rw[show min i (n+1)=min i n+1 by omega,FT,show min i n=n by omega,Nat.zero_add]
  ·simp only[h,decide_false,Bool.false_eq_true,if_false]
   rw[show min i (n+1)=min i n by omega]
theorem Gv {D:Nat→xw} {H:ru} {L L':Nat→Bool} {b:Nat} : ∀ n,(∀ j,j<n→(∃ x∈(D j).ef,x.1=b)→L j=L' j)→HL D H L n b=HL D H L' n b
 | 0,_=>rfl
 | n+1,h=>by
  have ih:=Gv (D:=D) (H:=H) n (fun j hj=>h j (by omega))
  simp only[HL]
  by_cases hd:∃ x∈(D n).ef,x.1=b
  ·rw[h n (by omega) hd]
   split
   ·exact ru.puts_congr ih
   ·exact ih
  ·have hn:∀ x∈(D n).ef,x.1≠b:=fun x hx e=>hd ⟨x,hx,e⟩
   split<;>split<;>simp only[ru.puts_ne hn,ih]
theorem O8 {D:Nat→xw} {H:ru} {i:Nat} : ∀ n,HL D H (fun j=>decide (j<i)) n=FH D H 0 (min i n)
 | 0=>by simp[HL,FH]
 | n+1=>by
  simp only[HL,O8 n]
  by_cases h:n<i
  ·simp only[h,decide_true,if_true]
   rw[show min i (n+1)=min i n+1 by omega,FH,show min i n=n by omega,Nat.zero_add]
  ·simp only[h,decide_false,Bool.false_eq_true,if_false]
   rw[show min i (n+1)=min i n by omega]
theorem Us {dst:Nat→Option Tmp} {D:Nat→xw} {T:rR} {L:Nat→Bool} {i t:Nat} : ∀ n,i<n→L i=true→dst i=some t→(∀ j,i<j→j<n→dst j=some t→L j=false)→TL dst D T L n t=some (D i).r
 | 0,h,_,_,_=>by omega
 | n+1,h,hL,hd,hj=>by
  simp only[TL]
  rcases Nat.lt_or_ge i n with hlt|hge
  ·have ih:=Us (D:=D) (T:=T) n hlt hL hd (fun j h1 h2=>hj j h1 (by omega))
   split
   ·rename_i hLn
    have:dst n≠some t:=fun e=>by rw[hj n hlt (by omega) e] at hLn;cases hLn
    rw[rR.put_other this];exact ih
   ·exact ih
  ·obtain rfl:i=n:=by omega
   rw[hL,if_pos rfl,hd,rR.put_same]
theorem Ut {D:Nat→xw} {H:ru} {L L':Nat→Bool} {i b:Nat} (hL:L i=false) (hL':L' i=true) (hag:∀ j,j≠i→L' j=L j):∀ n,i<n→(∀ j,i<j→j<n→L j=true→∀ x∈(D j).ef,x.1≠b)→HL D H L' n b=((HL D H L n).puts (D i).ef) b
 | 0,h,_=>by omega
 | n+1,h,hj=>by
  simp only[HL]
  rcases Nat.lt_or_ge i n with hlt|hge
  ·have ih:=Ut (D:=D) (H:=H) hL hL' hag n hlt (fun j h1 h2=>hj j h1 (by omega))
   rw[hag n (by omega)]
   split
   ·rename_i hLn
    have hne:=hj n hlt (by omega) hLn
    rw[ru.puts_ne hne,ih]
    exact ru.puts_congr (ru.puts_ne hne).symm
   ·exact ih
  ·obtain rfl:i=n:=by omega
   rw[hL',hL,if_pos rfl]
   simp only[Bool.false_eq_true,if_false]
   apply ru.puts_congr
   exact Gv i (fun j h1 _=>hag j (by omega))
open Go.RowKit
theorem Uu {dst:Nat→Option Tmp} {D:Nat→xw} {T:rR} : ∀ n,TL dst D T (fun _=>false) n=T
 | 0=>rfl
 | n+1=>by simp[TL,Uu n]
theorem O9 {D:Nat→xw} {H:ru} : ∀ n,HL D H (fun _=>false) n=H
 | 0=>rfl
 | n+1=>by simp[HL,O9 n]
theorem Uv {P:Program} {ops:Array Oper} {Q:Exit→Act→World→Prop} {Inv:(Nat→Bool)→Act→World→Prop} : ∀ (l:List Oper) (k:Nat),(∀ i o,l[i]? = some o→OH P ops Q Inv (k+i) o)→CZ P ops Q Inv k l
 | [],_,_=>trivial
 | o::l,k,h=>⟨h 0 o rfl,Uv l (k+1) (fun i x hx=>by have:=h (i+1) x (by simpa using hx);rwa [show k+1+i=k+(i+1) by omega])⟩
theorem acM {ops:Array Oper} {T T':rR} {o:Oper} (h:∀ t∈Di ops o,T' t=T t):Bf ops T' o=Bf ops T o:=by
 unfold Bf
 split
 ·rfl
 ·rename_i j want hg
  cases hd:(ops[j]?).bind (·.dst) with
  | none=>rfl
  | some d =>
   simp only
   rw[h d (by unfold Di;simp[hg,xO,hd])]
theorem acN {P:Program} {G:rO} {E:tu} (hE:BQ P E) (hm:P.follows .mixedOrders=true) {w0:World} {B0:sG} {ops:Array Oper} {Nb nt id:Nat} {Q:Exit→Act→World→Prop} {K:rR→ru→Prop} {ds:List Deferred}
  (hst:drawOK ops nt=true) {T0:rR} {H0:ru} {e:Env} {a:Act} {w:World} (hev:uO P G E w0 B0 ops Nb 0 ops.toList T0 H0 [] (fun T H tr=>traceOK ops Nb tr=true∧K T H))
  (R:rT G w0 B0 e H0 w) (hT:wL nt e T0 a) (hI:vK T0 H0) (hB:zf H0 Nb) (hdf:a.defers=ds)
  (hQ:∀ T H e a w,K T H→rT G w0 B0 e H w→wL nt e T a→vK T H→zf H (Nb+2*ops.size)→a.defers=ds→Q .normal a w):(Code.region id ops true).wp P Q a w:=by
 simp only[drawOK,Bool.and_eq_true] at hst
 obtain⟨⟨htopo,hdl⟩,htmp⟩:=hst
 obtain⟨D,tr,hSt,⟨htr,hK⟩,-,hmem⟩:=acL hE ops.toList 0 T0 H0 [] (by simp) (Nat.zero_le _) hev
 simp only[Nat.zero_add,Nat.sub_zero] at hSt hK hmem
 unfold traceOK at htr
 generalize hM:masks [] ops.toList=M at htr htmp
 obtain⟨htr1,htr2⟩:=Ur htr
 have hmask:∀ L,Ms ops L→∀ i j,(M.getD i 0).testBit j=true→L i=true→L j=true:=fun L hL=>by
  rw[← hM];exact Un hL ops.toList [] (by simp) (fun i j hb=>by simp at hb)
 have hdom:∀ m,m≤ops.size→zf (FH D H0 0 m) (Nb+2*m):=by
  intro m
  induction m with
  | zero=>intro _;simpa [FH] using hB
  | succ m ih =>
   intro hmn
   obtain⟨o,ho,_,_,_,h1,h2⟩:=hSt m (by omega)
   have:=(ih (by omega)).puts h1 h2
   rw[FH,Nat.zero_add,show Nb+2*(m+1)=Nb+2*m+2 by omega]
   exact this
 have hwt:∀ i,i<ops.size→∀ b∈(D i).tc,(D i).w=true:=fun i hi b hb=>by
  obtain⟨o,ho,_,_,h0,_,_⟩:=hSt i hi
  cases hw:(D i).w with
  | true=>rfl
  | false=>rw[(h0 hw).2.1] at hb;cases hb
 have hmut:∀ i j b,i<ops.size→j<ops.size→i≠j→b∈(D i).tc→b∈(D j).tc→(∃ x∈(D j).ef,x.1=b)→BV M i j=true:=by
  intro i j b hi hj hne hbi hbj ⟨x,hx,hxb⟩
  have h:=htr2 _ (hmem i hi (hwt i hi b hbi)) _ (hmem j hj (hwt j hj b hbj)) hne
  unfold Dj at h
  simp only[Bool.or_eq_true,Bool.not_eq_true'] at h
  rcases h with(h|h)|h
  ·exfalso
   rw[Bool.or_eq_false_iff] at h
   have h2:=h.2
   unfold yN at h2
   rw[List.any_eq_false] at h2
   exact h2 x hx (by simp[hxb,hbj])
  ·exfalso
   rw[List.any_eq_false] at h
   exact h b hbi (by simp[hbj])
  ·exact h
 let TT:(Nat→Bool)→rR:=fun L=>TL (xO ops) D T0 L ops.size
 let HH:(Nat→Bool)→ru:=fun L=>HL D H0 L ops.size
 refine ab0 (Inv:=fun L a w=>Ms ops L∧∃ e,rT G w0 B0 e (HH L) w∧wL nt e (TT L) a∧vK (TT L) (HH L)∧a.defers=ds) hm htopo ?_ ?_ ?_
 ·refine⟨fun k x _ h=>(by cases h),e,?_⟩
  simp only[TT,HH,Uu,O9]
  exact⟨R.drew,hT,hI,hdf⟩
 ·refine Uv _ 0 ?_
  intro i o hio
  rw[Nat.zero_add]
  have ho:ops[i]? = some o:=by simpa using hio
  have hi:i<ops.size:=(Array.getElem?_eq_some_iff.1 ho).1
  rintro L a w K' ⟨hcl,e,R,hT,hI,hdf⟩ hLi hdeps hout hKn
  obtain⟨o',ho',hwa,hop,hno,htc,hef⟩:=hSt i hi
  obtain rfl:o=o':=Option.some.inj (ho.symm.trans ho')
  have hdst:xO ops i=o.dst:=by simp[xO,ho]
  have hne:∀ j,j≠i→upd L i j=L j:=fun j hj=>by
   unfold upd
   cases hb:Nat.beq j i with
   | true=>exact absurd (Nat.eq_of_beq_eq_true hb) hj
   | false=>rfl
  have hcl':Ms ops (upd L i):=by
   intro k x hx hk j hj
   by_cases hji:j=i
   ·rw[hji];exact L9 L i
   ·rw[hne j hji]
    by_cases hki:k=i
    ·rw[hki] at hx
     obtain rfl:o=x:=Option.some.inj (ho.symm.trans hx)
     exact hdeps j hj
    ·rw[hne k hki] at hk;exact hcl k x hx hk j hj
  have hpred:∀ j,j≠i→(M.getD i 0).testBit j=true→L j=true:=fun j hj hb=>by
   have:=hmask _ hcl' i j hb (L9 L i)
   rwa [hne j hj] at this
  have hsucc:∀ j,(M.getD j 0).testBit i=true→L j=false:=fun j hb=>by
   cases hLj:L j with
   | false=>rfl
   | true=>rw[hmask _ hcl j i hb hLj] at hLi;cases hLi
  have hord:∀ j,j≠i→BV M i j=true→L j=decide (j<i):=by
   intro j hj h
   unfold BV at h
   rcases Nat.lt_trichotomy j i with h1|h1|h1
   ·rw[if_pos h1] at h;rw[hpred j hj h];simp[h1]
   ·exact absurd h1 hj
   ·rw[if_neg (by omega),if_pos h1] at h;rw[hsucc j h];simp;omega
  have htr:Gu ops M i (Di ops o) 0 ops.toList=true:=by
   have:=Uo htmp i o hio
   rwa [Nat.zero_add] at this
  have hTA:∀ t∈Di ops o,TT L t=FT (xO ops) D T0 0 i t:=by
   intro t ht
   have:TT L t=TL (xO ops) D T0 (fun j=>decide (j<i)) ops.size t:=by
    refine Mw ops.size (fun j hj hd=>?_)
    by_cases hji:j=i
    ·rw[hji,hLi];simp
    ·refine hord j hji ?_
     have hj':ops.toList[j]? = some ops[j]:=by simp[hj]
     have hdj:(ops[j]).dst=some t:=by simpa [xO,hj] using hd
     have:=O0 htr j _ t hj' hdj ht
     rwa [Nat.zero_add] at this
   rw[this,O7,Nat.min_eq_left (by omega)]
  have hHA:∀ b∈(D i).tc,HH L b=FH D H0 0 i b:=by
   intro b hb
   have:HH L b=HL D H0 (fun j=>decide (j<i)) ops.size b:=by
    refine Gv ops.size (fun j hj hx=>?_)
    by_cases hji:j=i
    ·rw[hji,hLi];simp
    ·obtain⟨o2,ho2,_,_,_,_,hef2⟩:=hSt j hj
     obtain⟨x,hxm,hxb⟩:=hx
     have hfresh:(b=Nb+2*j∨b=Nb+2*j+1)→L j=decide (j<i):=by
      intro hbj
      have hlt:b<Nb+2*i:=by
       apply Classical.byContradiction
       intro hge
       exact htc b hb (hdom i (by omega) b (by omega))
      have hji':j<i:=by omega
      rcases htr1 _ (hmem i hi (hwt i hi b hb)) b hb with h1|h1
      ·omega
      ·rw[show(b-Nb)/2=j by omega] at h1
       rw[hpred j hji h1];simp[hji']
     rcases hef2 x hxm with h1|h1|h1
     ·exact hfresh (.inl (by omega))
     ·exact hfresh (.inr (by omega))
     ·rw[hxb] at h1
      exact hord j hji (hmut i j b hi hj (fun e=>hji e.symm) hb h1 ⟨x,hxm,hxb⟩)
   rw[this,O8,Nat.min_eq_left (by omega)]
  have hfr:∀ b,(b=Nb+2*i∨b=Nb+2*i+1)→HH L b=none:=by
   intro b hb
   have:HH L b=HL D H0 (fun _=>false) ops.size b:=by
    refine Gv ops.size (fun j hj hx=>?_)
    by_cases hji:j=i
    ·rw[hji];exact hLi
    ·obtain⟨o2,ho2,_,_,_,_,hef2⟩:=hSt j hj
     obtain⟨x,hxm,hxb⟩:=hx
     rcases hef2 x hxm with h1|h1|h1
     ·omega
     ·omega
     ·rw[hxb] at h1
      rcases htr1 _ (hmem j hj (hwt j hj b h1)) b h1 with h2|h2
      ·omega
      ·rw[show(b-Nb)/2=i by omega] at h2;exact hsucc j h2
   rw[this,O9];exact hB b (by omega)
  have hT':TT (upd L i)=(TT L).put o.dst (D i).r:=by
   funext t
   by_cases hd:o.dst=some t
   ·rw[hd,rR.put_same]
    refine Us ops.size hi (L9 L i) (by rw[hdst];exact hd) (fun j h1 h2 hdj=>?_)
    rw[hne j (by omega)]
    have hj':ops.toList[j]? = some ops[j]:=by simp[h2]
    have hdj':(ops[j]).dst=some t:=by simpa [xO,h2] using hdj
    have:=O0 htr j _ t hj' hdj' (by unfold Di;simp[hd])
    rw[Nat.zero_add] at this
    rw[hord j (by omega) this];simp;omega
   ·rw[rR.put_other hd]
    refine Mw ops.size (fun j hj hdj=>?_)
    have:j≠i:=by rintro rfl;rw[hdst] at hdj;exact hd hdj
    exact hne j this
  have hH':HH (upd L i)=(HH L).puts (D i).ef:=by
   funext b
   by_cases hk:∃ y∈(D i).ef,y.1=b
   ·obtain⟨y,hy,hyb⟩:=hk
    refine Ut hLi (L9 L i) hne ops.size hi (fun j h1 h2 hLj x hx hxb=>?_)
    obtain⟨o2,ho2,_,_,_,htc2,hef2⟩:=hSt j h2
    have hno:L j=false→False:=fun h=>by rw[h] at hLj;cases hLj
    rcases hef y hy with h3|h3|h3<;>rcases hef2 x hx with h4|h4|h4
    ·omega
    ·omega
    ·rw[hxb] at h4
     rcases htr1 _ (hmem j h2 (hwt j h2 b h4)) b h4 with h5|h5
     ·omega
     ·rw[show(b-Nb)/2=i by omega] at h5;exact hno (hsucc j h5)
    ·omega
    ·omega
    ·rw[hxb] at h4
     rcases htr1 _ (hmem j h2 (hwt j h2 b h4)) b h4 with h5|h5
     ·omega
     ·rw[show(b-Nb)/2=i by omega] at h5;exact hno (hsucc j h5)
    ·rw[hyb] at h3;exact htc b h3 (hdom i (by omega) b (by omega))
    ·rw[hyb] at h3;exact htc b h3 (hdom i (by omega) b (by omega))
    ·rw[hyb] at h3;rw[hxb] at h4
     have h5:=hord j (by omega) (hmut i j b hi h2 (by omega) h3 h4 ⟨x,hx,hxb⟩)
     rw[h5] at hLj;simp at hLj;omega
   ·rw[ru.puts_ne (fun y hy hyb=>hk ⟨y,hy,hyb⟩)]
    refine Gv ops.size (fun j hj hx=>hne j ?_)
    rintro rfl;exact hk hx
  have hdo:∀ t,o.dst=some t→t<nt:=BX hdl o (Array.mem_toList_iff.2 (Array.mem_of_getElem? ho))
  have hwA:Bf ops (TT L) o=some (D i).w:=by rw[acM hTA];exact hwa
  rw[Uj hwA hT]
  cases hw:(D i).w with
  | false =>
   obtain⟨hr,-,hef0⟩:=hno hw
   simp only[Bool.false_eq_true,if_false]
   refine hKn _ _ ⟨hcl',e,?_⟩
   rw[hT',hH',hr,hef0]
   exact⟨R,hT.put hdo (.v undef),hI.put o.dst (fun c hc=>by simp[AV.refs] at hc),by rw[Act.put_defers];exact hdf⟩
  | true =>
   simp only[if_true]
   refine hop hw nt (TT L) (HH L) e a w K' Q ?_ hHA (hfr _ (.inl rfl)) (hfr _ (.inr rfl)) hT hI R ?_
   ·intro x hx
    cases x with
    | tmp t=>exact hTA t (by unfold Di;simp;right;right;exact⟨_,hx,rfl⟩)
    | const v=>rfl
    | global g=>rfl
    | func f=>rfl
   ·intro e' w' R' hon hrf
    refine hKn _ _ ⟨hcl',e',?_⟩
    rw[hT',hH']
    exact⟨R',(hT.on hI hon).put hdo _,hI.op_put o.dst hrf,by rw[Act.put_defers];exact hdf⟩
 ·rintro L a w ⟨-,e,R,hT,hI,hdf⟩ hall
  have h1:TT L=FT (xO ops) D T0 0 ops.size:=by
   funext t
   have:TT L t=TL (xO ops) D T0 (fun j=>decide (j<ops.size)) ops.size t:=Mw ops.size (fun j hj _=>by rw[hall j hj];simp[hj])
   rw[this,O7,Nat.min_self]
  have h2:HH L=FH D H0 0 ops.size:=by
   funext b
   have:HH L b=HL D H0 (fun j=>decide (j<ops.size)) ops.size b:=Gv ops.size (fun j hj _=>by rw[hall j hj];simp[hj])
   rw[this,O8,Nat.min_self]
  rw[h1,h2] at hI
  rw[h1] at hT
  rw[h2] at R
  exact hQ _ _ e a w hK R hT hI (hdom ops.size (Nat.le_refl _)) hdf
open Go.RowKit
structure Cx where
 P:Program
 G:rO
 E:tu
 w0:World
 B0:sG
 nt:Nat
abbrev yO:=Exit→Nat→rR→ru→Prop
def Pb (C:Cx) (Q:yO):Exit→Act→World→Prop:=fun x a w=>∃ N T H e,Q x N T H∧rT C.G C.w0 C.B0 e H w∧wL C.nt e T a∧vK T H∧zf H N∧a.defers = []
def AW (C:Cx) (c:Code) (Q:yO) (N:Nat) (T:rR) (H:ru):Prop :=
 ∀ e a w,rT C.G C.w0 C.B0 e H w→wL C.nt e T a→vK T H→zf H N→a.defers = []→c.wp C.P (Pb C Q) a w
section
variable {C:Cx} {Q:yO} {N:Nat} {T:rR} {H:ru}
theorem AW.mono {c:Code} {Q':yO} (h:AW C c Q N T H) (hq:∀ x N T H,Q x N T H→Q' x N T H):AW C c Q' N T H :=
 fun e a w R hT hI hB hd=>wp_mono (h e a w R hT hI hB hd) fun _ _ _ ⟨N,T,H,e,h1,h2⟩=>⟨N,T,H,e,hq _ _ _ _ h1,h2⟩
theorem Pf (h:Q .normal N T H):AW C .skip Q N T H:=fun e a w R hT hI hB hd=>wp_skip ⟨N,T,H,e,h,R,hT,hI,hB,hd⟩
theorem Pg {l:Nat} (h:Q .normal N T H):AW C (.label l) Q N T H:=fun e a w R hT hI hB hd=>wp_label ⟨N,T,H,e,h,R,hT,hI,hB,hd⟩
theorem Ph {id:Nat} (h:Q (.exit id) N T H):AW C (.exit id) Q N T H:=fun e a w R hT hI hB hd=>wp_exit ⟨N,T,H,e,h,R,hT,hI,hB,hd⟩
theorem Pi (h:Q .ret N T H):AW C .ret Q N T H:=fun e a w R hT hI hB hd=>wp_ret ⟨N,T,H,e,h,R,hT,hI,hB,hd⟩
def Gx (K:Nat→rR→ru→Prop) (Q:yO):yO
 | .normal,N,T,H=>K N T H
 | x,N,T,H=>Q x N T H
theorem Gy {x y:Code} (h:AW C x (Gx (AW C y Q) Q) N T H):AW C (.seq x y) Q N T H:=fun e a w R hT hI hB hd =>
 wp_seq (wp_mono (h e a w R hT hI hB hd) fun ex a w ⟨N,T,H,e,h1,R,hT,hI,hB,hd⟩=>by
  cases ex with
  | normal=>exact h1 e a w R hT hI hB hd
  | _=>exact⟨N,T,H,e,h1,R,hT,hI,hB,hd⟩)
theorem Uw {c:Operand} {x y:Code} {q:Bool} (hc:uX T c=some (.v (.bool q))) (ht:q=true→AW C x Q N T H) (hf:q=false→AW C y Q N T H):AW C (.cond c x y) Q N T H:=fun e a w R hT hI hB hd =>
 wp_cond_split (hT.eval hc) (fun h=>ht h e a w R hT hI hB hd) (fun h=>hf h e a w R hT hI hB hd)
theorem Pj {c:Operand} {x y:Code} (hc:uX T c=some (.v (.bool true))) (h:AW C x Q N T H):AW C (.cond c x y) Q N T H:=Uw hc (fun _=>h) (fun h=>(by cases h))
theorem Pk {c:Operand} {x y:Code} (hc:uX T c=some (.v (.bool false))) (h:AW C y Q N T H):AW C (.cond c x y) Q N T H:=Uw hc (fun h=>(by cases h)) (fun _=>h)
def JY (id:Nat) (Q:yO):yO
 | .exit id',N,T,H=>if id'=id then Q .normal N T H else Q (.exit id') N T H
 | x,N,T,H=>Q x N T H
theorem Pm {id:Nat} {c:Code} (h:AW C c (JY id Q) N T H):AW C (.block id c) Q N T H:=fun e a w R hT hI hB hd =>
 wp_block (wp_mono (h e a w R hT hI hB hd) fun ex a w ⟨N,T,H,e,h1,h2⟩=>by
  cases ex with
  | exit id' =>
   simp only[JY] at h1
   simp only[Exit.inBlock]
   split
   ·rename_i hid;rw[if_pos hid] at h1;exact⟨N,T,H,e,h1,h2⟩
   ·rename_i hid;rw[if_neg hid] at h1;exact⟨N,T,H,e,h1,h2⟩
  | _=>exact⟨N,T,H,e,h1,h2⟩)
theorem Pn {p:Nat→Prop} (h:∃ m,p m):∃ m,p m∧∀ k,p k→m≤k:=by
 obtain⟨m,hm⟩:=h
 induction m using Nat.strongRecOn with
 | _ m ih =>
  by_cases hk:∃ k,k<m∧p k
  ·obtain⟨k,h1,h2⟩:=hk;exact ih k h1 h2
  ·exact⟨m,hm,fun k hp=>Nat.le_of_not_lt fun hl=>hk ⟨k,hl,hp⟩⟩
open Classical in
theorem acO {c:Code} (I:Nat→Nat→rR→ru→Prop) {m:Nat} (h0:I m N T H) (round:∀ m N T H,I m N T H→AW C c (Gx (fun N T H=>∃ m',m'<m∧I m' N T H) Q) N T H):AW C (.loop c) Q N T H:=by
 intro e a w R hT hI hB hd
 let J:Act→World→Nat→Prop:=fun a w m=>∃ N T H e,I m N T H∧rT C.G C.w0 C.B0 e H w∧wL C.nt e T a∧vK T H∧zf H N∧a.defers = []
 refine wp_loop (fun a w=>∃ m,J a w m) (fun a w=>if h:∃ m,J a w m then Classical.choose (Pn h) else 0) ⟨m,N,T,H,e,h0,R,hT,hI,hB,hd⟩ ?_
 intro a w hJ
 have hf:=(Classical.choose_spec (Pn hJ)).1
 obtain⟨N,T,H,e,h1,R,hT,hI,hB,hd⟩:=hf
 refine wp_mono (round _ N T H h1 e a w R hT hI hB hd) ?_
 intro ex a' w' ⟨N',T',H',e',h2,R',hT',hI',hB',hd'⟩
 cases ex with
 | normal =>
  obtain⟨m',hm',h3⟩:=h2
  have hJ':J a' w' m':=⟨N',T',H',e',h3,R',hT',hI',hB',hd'⟩
  refine⟨⟨m',hJ'⟩,?_⟩
  have h4:∃ m,J a' w' m:=⟨m',hJ'⟩
  simp only[dif_pos h4,dif_pos hJ]
  exact Nat.lt_of_le_of_lt ((Classical.choose_spec (Pn h4)).2 _ hJ') hm'
 | _=>exact⟨N',T',H',e',h2,R',hT',hI',hB',hd'⟩
theorem Po {c:Code} (h:AW C c Q N T H) (hg:∀ l N T H,¬ Q (.goto l) N T H):AW C (.scope c) Q N T H:=fun e a w R hT hI hB hd =>
 wp_scope_straight (wp_mono (h e a w R hT hI hB hd) fun ex a w h=>by
  cases ex with
  | goto l=>obtain⟨N,T,H,e,h1,_⟩:=h;exact absurd h1 (hg l N T H)
  | _=>exact h)
theorem Pp {id:Nat} {ops:Array Oper} (hE:BQ C.P C.E) (hd:dstsLt C.nt ops.toList=true) (h:uO C.P C.G C.E C.w0 C.B0 ops N 0 ops.toList T H [] (fun T H _=>Q .normal (N+2*ops.size) T H)):AW C (.region id ops false) Q N T H:=by
 intro e a w R hT hI hB hdf
 refine wp_region ?_
 have:=acI (Q:=Pb C Q) (ds:=[]) (nt:=C.nt) hE (BX hd) (fun T H tr e a w hK R hT hI hB hdf=>⟨_,T,H,e,hK,R,hT,hI,hB,hdf⟩) ops.toList 0 T H [] e a w (by simp) (Nat.zero_le _) h R hT hI hB hdf
 rwa [Nat.sub_zero,← List.range_eq_range'] at this
theorem Pq {id:Nat} {ops:Array Oper} (hE:BQ C.P C.E) (hm:C.P.follows .mixedOrders=true) (hd:drawOK ops C.nt=true)
  (h:uO C.P C.G C.E C.w0 C.B0 ops N 0 ops.toList T H [] (fun T H tr=>traceOK ops N tr=true∧Q .normal (N+2*ops.size) T H)):AW C (.region id ops true) Q N T H:=by
 intro e a w R hT hI hB hdf
 exact acN (Q:=Pb C Q) (ds:=[]) hE hm hd h R hT hI hB hdf (fun T H e a w hK R hT hI hB hdf=>⟨_,T,H,e,hK,R,hT,hI,hB,hdf⟩)
end
def yP (P:Program) (G:rO) (T:rR) (H:ru):List ResultVar→Option (List AV)
 | []=>some []
 | .tmp t::l=>match T t,yP P G T H l with
  | some x,some r=>some (x::r)
  | _,_=>none
 | .cell a t::l=>match T a with
  | some (.loc b o)=>match xM P G t H (.loc b o),yP P G T H l with
   | some (x,_,_),some r=>some (x::r)
   | _,_=>none
  | _=>none
def Ao:List AV→AV
 | [x]=>x
 | l=>xA l
def JZ (tmps:Array Value):ResultVar→Sem Value
 | .tmp t=>pure (tmps.getD t undef)
 | .cell x t=>do loadVar t (← asAddr (tmps.getD x undef))
theorem Ps {P:Program} {G:rO} {T:rR} {H:ru} {w0:World} {B0:sG} {e:Env} {w:World} {nt:Nat} {a:Act} (R:rT G w0 B0 e H w) (hT:wL nt e T a):∀ {l:List ResultVar} {rs:List AV},yP P G T H l=some rs →
  (l.mapM (JZ a.tmps)).run P w = .ok (AV.vals e rs) w
 | [],rs,h=>by simp only[yP,Option.some.injEq] at h;subst h;rfl
 | .tmp t::l,rs,h=>by
  simp only[yP] at h
  split at h
  ·rename_i x r hx hr
   cases h
   have h1:(JZ a.tmps (.tmp t)).run P w = .ok (x.val e) w:=by rw[← (hT.2 t x hx).2];rfl
   rw[List.mapM_cons]
   simp only[Sem.run_bind,Sem.run_pure,Result.andThen,Ps R hT hr,h1]
   rfl
  ·cases h
 | .cell x t::l,rs,h=>by
  simp only[yP] at h
  split at h
  ·rename_i b o hx
   split at h
   ·rename_i y tc ef r hy hr
    cases h
    have h0:=(hT.2 x _ hx).2
    obtain⟨_,h2,_⟩:=OT hy R
    simp only[Instr.loadAt,AV.val,Instr.sureAddr,Sem.run_bind,Sem.run_pure,Result.andThen] at h2
    have h1:(JZ a.tmps (.cell x t)).run P w = .ok (y.val e) w:=by
     unfold JZ
     simp only[h0,AV.val,asAddr,Sem.run_bind,Sem.run_pure,Result.andThen,h2]
    rw[List.mapM_cons]
    simp only[Sem.run_bind,Sem.run_pure,Result.andThen,Ps R hT hr,h1]
    rfl
   ·cases h
  ·cases h
theorem acP (fn:Func) (tmps:Array Value):results fn tmps=(do let vs ← fn.results.mapM (JZ tmps);pure (if h:vs.size=1 then vs[0] else .tuple vs)):=by
 unfold results
 congr 1
theorem Ux {P:Program} {G:rO} {T:rR} {H:ru} {w0:World} {B0:sG} {e:Env} {w:World} {nt:Nat} {a:Act} (R:rT G w0 B0 e H w) (hT:wL nt e T a) {fn:Func} {rs:List AV} (h:yP P G T H fn.results.toList=some rs) :
  (results fn a.tmps).run P w = .ok ((Ao rs).val e) w:=by
 have h1:=Ps (P:=P) R hT h
 rw[acP,Array.mapM_eq_mapM_toList]
 simp only[Sem.run_bind,Sem.run_map,h1,Result.andThen,Sem.run_pure]
 congr 1
 have key:∀ l:List Value,(if h:l.toArray.size=1 then l.toArray[0] else Value.tuple l.toArray)=(match l with | [x]=>x|l=>.tuple l.toArray):=by
  intro l
  cases l with
  | nil=>rfl
  | cons x l=>cases l with
   | nil=>rfl
   | cons y l=>rw[dif_neg (by simp)]
 rw[key]
 cases rs with
 | nil=>rfl
 | cons x rs =>
  cases rs with
  | nil=>rfl
  | cons y rs =>
   rw[show Ao (x::y::rs)=xA (x::y::rs) from rfl,OI]
   rfl
def Pt (P:Program) (G:rO) (fn:Func) (R:AV→ru→Prop):yO
 | .normal,_,T,H=>∃ rs,yP P G T H fn.results.toList=some rs∧R (Ao rs) H
 | .ret,_,T,H=>∃ rs,yP P G T H fn.results.toList=some rs∧R (Ao rs) H
 | _,_,_,_=>False
def BZ (args:List AV) (nt:Nat):rR:=fun t=>match args[t]? with
 | some x=>if t<nt then some x else none
 | none=>if t<nt then some (.v undef) else none
theorem Pv {P:Program} {G:rO} {E:tu} {f:FuncId} {fn:Func} {c:Code} {w:World} {B0:sG} {e0:Env} {H0:ru} {N0:Nat} {args:List AV} {R:AV→ru→Prop} (hf:P.funcs[f]? = some fn) (hb:fn.body=some c)
  (hn:args.length≤fn.ntmps) (hR:rT G w B0 e0 H0 w) (hB:zf H0 N0) (ha:∀ x∈args,∀ r∈x.refs,H0 r≠none)
  (h:AW ⟨P,G,E,w,B0,fn.ntmps⟩ c (Pt P G fn R) N0 (BZ args fn.ntmps) H0) :
  Calls P f (AV.vals e0 args).toArray w fun en w'=>∃ r e H,en = .returned (r.val e)∧R r H∧rT G w B0 e H w':=by
 refine calls_of_wp hf hb ?_
 have hT:wL fn.ntmps e0 (BZ args fn.ntmps) { tmps:=(AV.vals e0 args).toArray++Array.replicate (fn.ntmps-(AV.vals e0 args).toArray.size) undef,defers:=[] }:=by
  refine⟨by simp[zA];omega,fun t x hx=>?_⟩
  unfold BZ at hx
  have hget:(((AV.vals e0 args).toArray++Array.replicate (fn.ntmps-(AV.vals e0 args).toArray.size) undef).getD t undef)=(((AV.vals e0 args)++List.replicate (fn.ntmps-args.length) undef)[t]?).getD undef:=by
   rw[Array.getD_eq_getD_getElem?,← Array.getElem?_toList]
   simp[zA]
  rw[hget]
  split at hx
  ·rename_i y hy
   split at hx
   ·rename_i hlt
    cases hx
    refine⟨hlt,?_⟩
    have hlt':t<args.length:=(List.getElem?_eq_some_iff.1 hy).1
    rw[List.getElem?_append_left (by rw[zA];exact hlt'),AV.vals_map]
    simp[hy]
   ·cases hx
  ·rename_i hy
   split at hx
   ·rename_i hlt
    cases hx
    refine⟨hlt,?_⟩
    have hge:args.length≤t:=by
     rcases Nat.lt_or_ge t args.length with h1|h1
     ·rw[List.getElem?_eq_getElem h1] at hy;cases hy
     ·exact h1
    rw[List.getElem?_append_right (by rw[zA];exact hge)]
    rw[List.getElem?_replicate]
    split<;>rfl
   ·cases hx
 have hI:vK (BZ args fn.ntmps) H0:=by
  intro t x hx r hr
  unfold BZ at hx
  split at hx
  ·rename_i y hy
   split at hx
   ·cases hx;exact ha x (List.mem_of_getElem? hy) r hr
   ·cases hx
  ·split at hx
   ·cases hx;simp[AV.refs] at hr
   ·cases hx
 refine wp_mono (h e0 _ w hR hT hI hB rfl) ?_
 rintro ex a w' ⟨N,T,H,e,hq,R',hT',hI',hB',hd⟩
 cases ex with
 | normal =>
  obtain⟨rs,h1,h2⟩:=hq
  exact⟨hd,_,Ux R' hT' h1,Ao rs,e,H,rfl,h2,R'⟩
 | ret =>
  obtain⟨rs,h1,h2⟩:=hq
  exact⟨hd,_,Ux R' hT' h1,Ao rs,e,H,rfl,h2,R'⟩
 | exit id=>exact hq.elim
 | goto l=>exact hq.elim
 | panic ch=>exact hq.elim
 | outgrown=>exact hq.elim
theorem Dl {P:Program} {g:FuncId} {fn:Func} {args:Array Value} {w:World} {R:Ending→World→Prop} (hf:P.funcs[g]? = some fn) (hn:(fn.name == "runtime.NumGoroutine")=false) (hb:fn.body.isNone=false) (h:Calls P g args w R):wW P g args w R:=by
 unfold wW
 have:(callFunc g args).run P w = .ok (.enter g args) w:=by
  unfold callFunc
  have hp:(program).run P w = .ok P w:=rfl
  simp only[Sem.run_bind,hp,Result.andThen,hf,hn,hb,Bool.false_eq_true,if_false]
  rfl
 rw[this]
 exact h
theorem acQ {G:rO} {w:World} (hG:Gl G w) (e:Env):rT G w sG.nil e (fun _=>none) w :=
 ⟨rfl,rfl,rfl,Nat.le_refl _,fun _ _ _=>rfl,hG,fun _ _ _ h=>(by cases h),fun _ _ _ h=>(by cases h),fun _ _ _ h=>(by cases h),fun _ _ _ _ _ _ h=>(by cases h),fun _ _ _ h=>(by cases h),fun _ _ _ _ _ _ h=>(by cases h),fun _ _ h=>(by cases h),fun _ h=>(by cases h),fun _ _ _ h=>(by cases h),fun _ _ h=>(by cases h)⟩
theorem rT.bel {G:rO} {w:World} {e:Env} {H:ru} {w':World} (R:rT G w sG.nil e H w'):q9 w w' :=
 ⟨R.os,R.tape,R.output,R.size,fun k hk=>R.old k hk (by simp[sG.nil])⟩
theorem Pw {P:Program} {G:rO} (E:tu) {f:FuncId} {fn:Func} {c:Code} {args:List Value} {v:Value} (hf:P.funcs[f]? = some fn) (hb:fn.body=some c) (hn:(fn.name == "runtime.NumGoroutine")=false) (hl:(Nat.ble args.length fn.ntmps)=true)
  (h:∀ w,AW ⟨P,G,E,w,sG.nil,fn.ntmps⟩ c (Pt P G fn (fun r _=>r = .v v)) 0 (BZ (args.map .v) fn.ntmps) (fun _=>none)):PC P G f args v:=by
 intro w hG
 refine Dl hf hn (by rw[hb];rfl) ?_
 have:=Pv (E:=E) (e0:=⟨fun _=>0,fun _=>undef⟩) (args:=args.map .v) hf hb (by simpa using hl) (acQ hG _) (fun _ _=>rfl) (fun x hx r hr=>by
  obtain⟨y,_,rfl⟩:=List.mem_map.1 hx;simp[AV.refs] at hr) (h w)
 rw[vX] at this
 refine this.mono ?_
 rintro en w' ⟨r,e,H,rfl,rfl,R⟩
 exact⟨rfl,R.bel⟩
open Go.RowKit
def gG:rO:=(0,[.int .i64 16,.int .i64 11,.int .i64 15,.int .i64 32,.int .i64 24,.int .i64 127,.int .i64 64,.int .i64 53,.int .i64 1023,.int .i64 128,.int .i64 113,.int .i64 16383]) ::
 (1,[.int .u64 2147483648,.int .u64 2147483647,.int .u64 0,.int .u64 4294967295,.int .u64 9223372036854775808,.int .u64 9223372036854775807,.int .u64 0,.int .u64 18446744073709551615]) ::
  []
theorem wrap_i64 {x:Int} (h : -9223372036854775808≤x∧x<9223372036854775808):IntKind.i64.wrap x=x:=by
 unfold IntKind.wrap IntKind.bits IntKind.signed;simp;omega
theorem wrap_u64 {x:Int} (h:0≤x∧x<18446744073709551616):IntKind.u64.wrap x=x:=by
 unfold IntKind.wrap IntKind.bits IntKind.signed;simp;omega
open Go.RowKit
def xP (C:Cx) (c:Code) (Q:yO):Nat→Nat→rR→ru→Prop
 | 0,_,_,_=>False
 | n+1,N,T,H=>AW C c (Gx (xP C c Q n) Q) N T H
theorem Gz {C:Cx} {Q:yO} {N:Nat} {T:rR} {H:ru} {c:Code} (n:Nat) (h:xP C c Q n N T H):AW C (.loop c) Q N T H:=by
 refine acO (fun m N T H=>xP C c Q m N T H) h ?_
 intro m N T H hm
 cases m with
 | zero=>exact hm.elim
 | succ m =>
  refine AW.mono hm (fun x N T H h=>?_)
  cases x with
  | normal=>exact⟨m,Nat.lt_succ_self m,h⟩
  | _=>exact h
theorem GA (C:Cx) (c:Code) (Q:yO) (n N:Nat) (T:rR) (H:ru):xP C c Q (n+1) N T H=AW C c (Gx (xP C c Q n) Q) N T H:=rfl
def RC (P:Program) (G:rO) (f:FuncId) (pre:List Value) (n:Nat) (c:List Value) (rest:List Value) (v:Value):Prop :=
 ∀ w s,Gl G w→Reads w s n c→wW P f (pre++s::rest).toArray w fun e w'=>e = .returned v∧q9 w w'
theorem RC.call {P:Program} {G:rO} {f:FuncId} {pre:List Value} {n:Nat} {c:List Value} {rest:List Value} {v:Value} (h:RC P G f pre n c rest v) (w0:World) (B0:sG) {H:ru} (k b cap:Nat) (t:TypeId) (hb:H b=some (.own (c.map .v) t)) :
  Et P G w0 B0 f (pre.map .v ++ .sl b 0 n cap::rest.map .v) H [b] k (.v v) []:=by
 intro H' e w hag _ _ _ R
 have hb':H' b=some (.own (c.map .v) t):=by rw[hag b (by simp)];exact hb
 have hown:=R.own b _ t hb'
 rw[vX] at hown
 have hrd:Reads w (.slice (some ⟨e.blk b,0,none⟩) n cap) n c:=.inr ⟨e.blk b,0,cap,rfl,R.lt hb',fun j x hj=>by simp[World.cell?,hown,hj]⟩
 have hv:AV.vals e (pre.map .v ++ .sl b 0 n cap::rest.map .v)=pre ++ .slice (some ⟨e.blk b,0,none⟩) n cap::rest:=by
  rw[JX,AV.vals,vX,vX];rfl
 rw[hv]
 exact(h w _ R.gl hrd).mono fun en w' ⟨h1,h2⟩=>⟨e,h1,R.below h2,Env.on.refl H' e,fun c hc=>by simp[AV.refs] at hc⟩
def SC (P:Program) (G:rO) (f:FuncId) (args:List Value) (n:Nat) (c:List Value) (t:TypeId):Prop :=
 ∀ w,Gl G w→wW P f args.toArray w fun e w'=>∃ b,e = .returned (.slice (some ⟨b,0,none⟩) n n)∧w.heap.size≤b∧w'.heap[b]? = some (.cells c.toArray t (0,0))∧q9 w w'
theorem SC.call {P:Program} {G:rO} {f:FuncId} {vs:List Value} {n:Nat} {c:List Value} {t:TypeId} (h:SC P G f vs n c t) (w0:World) (B0:sG) {args:List AV} (ha:tZ args=some vs) (H:ru) (k:Nat) :
  Et P G w0 B0 f args H [] k (.sl k 0 n n) [(k,.own (c.map .v) t)]:=by
 intro H' e w _ hk _ _ R
 rw[Db ha]
 refine(h w R.gl).mono ?_
 rintro en w' ⟨b,rfl,hb,ho,hbel⟩
 refine⟨e.setBlk k b,by simp[AV.val,Env.setBlk],R.adopt hbel hk hb (fun r hr=>by rw[Bd] at hr;simp at hr) (by rw[vX];exact ho),Env.setBlk_on hk e b,fun j hj=>?_⟩
 simp[AV.refs] at hj;subst hj;rw[ru.puts,ru.puts,ru.put_same];simp
theorem J6 {P:Program} {G:rO} {g:FuncId} {fn:Func} {args:List Value} {v:Value} (hf:P.funcs[g]? = some fn) (hn:(fn.name == "runtime.NumGoroutine")=false) (hb:fn.body.isNone=false)
  (h:∀ w,Calls P g args.toArray w fun e w'=>e = .returned v∧q9 w w'):PC P G g args v:=fun w _=>Dl hf hn hb (h w)
end Go.Proofs.YtbembkamcdlhbaaGreatDoor
