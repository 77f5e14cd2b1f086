import Derived.Test.YtemomocmfggiaaaGreatDoorZ3U6
import Derived.Test.YtemomocmfggiaaaGreatDoorW7bU6
import Derived.StillTailTactics
import Derived.Lib.BufferOwn
import Derived.Laws.AppendOwn
import Derived.Test.YtemomocmfggiaaaGreatDoorTM2U6
set_option linter.unusedSimpArgs false
set_option linter.unusedVariables false
set_option maxRecDepth 100000
set_option maxHeartbeats 2000000
namespace Go.Proofs.YtemomocmfggiaaaGreatDoor
open Go.RowKit Go.Shelf FlagM
open Go.Lib (grownBy_trans grownBy_below grownBy_allocR)
attribute [local go_sem] Oper.semAt_some
abbrev tM:TypeId:=84
theorem aqQ (w:World):Calls Tryz.prog 18 #[] w fun e w'=>e = .returned (.pointer (some ⟨w.heap.size,0,none⟩))∧w'=w.alloc (.cells #[.int .u8 0] tM):=by
 go_enter Tryz.func18,Tryz.ntmps18
 go_wp2
 go_ret
 exact⟨rfl,rfl⟩
theorem aqR (w:World) (s f:Nat) (hs:s≤255) (hf:f≤255) (c:Nat) (v:Value) (hv:v = .slice (some ⟨w.heap.size,0,none⟩) 2 c) :
  Calls Tryz.prog 29 #[v] (w.alloc (.cells #[.int .u8 (s:Int),.int .u8 (f:Int)] 28)) fun e w'=>e = .returned (.int .u8 (J [s,f]:Int))∧vI (w.alloc (.cells #[.int .u8 (s:Int),.int .u8 (f:Int)] 28)) w':=by
 subst hv
 exact JN.Join_c _ _ _ (JN.U8s_two w (s:Int) (f:Int) c (by omega) (by omega) (by omega) (by omega))
theorem aqS (w:World) (b:Nat) (s f:Nat) (hs:s≤255) (hf:f≤255) (hb:Boxed w b tM (.int .u8 (s:Int))) :
  Calls Tryz.prog 38 #[.pointer (some ⟨b,0,none⟩),.int .u8 (f:Int)] w fun e w'=>(∃ v,e = .returned v)∧Boxed w' b tM (.int .u8 (J [s,f]:Int))∧w.grownBy w' (some b):=by
 have hc:=hb.cell
 have hfr:=hb.frozen
 go_enter Tryz.func38,Tryz.ntmps38
 go_wp2_with (go_at_call 29;(with_reducible refine(aqR w s f hs hf _ _ rfl).mono ?_);rintro e w1 ⟨rfl,hB1⟩;have hb1:=(hb.alloc (.cells #[.int .u8 (s:Int),.int .u8 (f:Int)] 28)).kept (row:=none) ⟨Below.os hB1,Below.tape hB1,Below.output hB1,Below.size hB1,fun k hk _=>Below.block hB1 k hk⟩ (by simp);have hc1:=hb1.cell;have hf1:=hb1.frozen)
 go_end0
 refine⟨⟨_,rfl⟩,hb1.set _,?_⟩
 exact grownBy_trans (grownBy_below (grownBy_allocR (World.grownBy.refl w _) _) hB1) (grownBy_setCell' _ _ _)
theorem UL {w:World} {b:Nat} {a0 a1 a2 a3:Value} {t:TypeId} {z:Nat×Nat} (h:w.heap[b]? = some (.cells #[a0,a1,a2,a3] t z)):w.cell? ⟨b,0,none⟩=some a0:=by simp[World.cell?,h]
theorem UM {w:World} {b:Nat} {a0 a1 a2 a3:Value} {t:TypeId} {z:Nat×Nat} (h:w.heap[b]? = some (.cells #[a0,a1,a2,a3] t z)):w.cell? ⟨b,1,none⟩=some a1:=by simp[World.cell?,h]
theorem UN {w:World} {b:Nat} {a0 a1 a2 a3:Value} {t:TypeId} {z:Nat×Nat} (h:w.heap[b]? = some (.cells #[a0,a1,a2,a3] t z)):w.cell? ⟨b,2,none⟩=some a2:=by simp[World.cell?,h]
theorem UO {w:World} {b:Nat} {a0 a1 a2 a3:Value} {t:TypeId} {z:Nat×Nat} (h:w.heap[b]? = some (.cells #[a0,a1,a2,a3] t z)):w.cell? ⟨b,3,none⟩=some a3:=by simp[World.cell?,h]
theorem UQ {w:World} {b:Nat} {c:Array Value} {t:TypeId} (i:Nat) (h:w.heap[b]? = some (.cells c t (0,0))):w.frozen? ⟨b,i,none⟩=false:=by simp[World.frozen?,h]
theorem set1 {w:World} {b i:Nat} {c:Array Value} {t:TypeId} {z:Nat×Nat} (h:w.heap[b]? = some (.cells c t z)) (v:Value):(w.setCell ⟨b,i,none⟩ v).heap[b]? = some (.cells (c.setIfInBounds i v) t z):=by
 show(w.heap.modify b _)[b]? = _
 rw[Array.getElem?_modify,if_pos rfl,h]
 rfl
theorem aqT {w:World} {b:Nat} {a0 a1 a2 a3:Value} {t:TypeId} {z:Nat×Nat} (h:w.heap[b]? = some (.cells #[a0,a1,a2,a3] t z)) (x0 x1 x2 x3:Value) :
  ((((w.setCell ⟨b,0,none⟩ x0).setCell ⟨b,1,none⟩ x1).setCell ⟨b,2,none⟩ x2).setCell ⟨b,3,none⟩ x3).heap[b]? = some (.cells #[x0,x1,x2,x3] t z):=by
 exact set1 (set1 (set1 (set1 h x0) x1) x2) x3
theorem aqU (w:World) (b:Nat) (x0 x1 x2 x3:Value):w.grownBy ((((w.setCell ⟨b,0,none⟩ x0).setCell ⟨b,1,none⟩ x1).setCell ⟨b,2,none⟩ x2).setCell ⟨b,3,none⟩ x3) (some b) :=
 grownBy_trans (grownBy_trans (grownBy_trans (Go.Lib.grownBy_setCell _ _ _ _) (Go.Lib.grownBy_setCell _ _ _ _)) (Go.Lib.grownBy_setCell _ _ _ _)) (Go.Lib.grownBy_setCell _ _ _ _)
def UR (cs:List Value) (E Hi Lo:Int) (f:Nat):Prop :=
 ∀ w,Gl gG w→Calls Tryz.prog 10 #[.agg cs.toArray] w fun e w'=>e = .returned (.agg #[.int .i64 E,.int .u64 Hi,.int .u64 Lo,.int .u8 (f:Int)])∧vI w w'
abbrev afR (E Hi Lo:Int) (f:Nat):Value:=.agg #[.int .i64 E,.int .u64 Hi,.int .u64 Lo,.int .u8 (f:Int)]
theorem aqV (w:World) (hG:Gl gG w) (b:Nat) (s f:Nat) (hs:s≤255) (hf:f≤255) (x0 x1 x2 x3 x4 x5 x6 x7 x8 x9 x10:Value) (E Hi Lo:Int) (hb:Boxed w b tM (.int .u8 (s:Int))) (hrun:UR [x0,x1,x2,x3,x4,x5,x6,x7,x8,x9,x10] E Hi Lo f) :
  Calls Tryz.prog 21 #[.pointer (some ⟨b,0,none⟩),.agg #[x0,x1,x2,x3,x4,x5,x6,x7,x8,x9,x10]] w fun e w'=>e = .returned (afR E Hi Lo f)∧Boxed w' b tM (.int .u8 (J [s,f]:Int))∧w.grownBy w' (some b):=by
 unfold UR at hrun
 have H:=Lib.hid hrun
 clear hrun
 go_enter Tryz.func21,Tryz.ntmps21
 go_wp2_with (go_at_call 10;(with_reducible refine(H.out _ (hG.bel (((vI.refl w).alloc _).alloc _))).mono ?_);rintro e w1 ⟨rfl,hB1⟩)
 have hR1:w1.heap[w.heap.size+1]? = some (Obj.cells #[Value.int IntKind.i64 0,Value.int IntKind.u64 0,Value.int IntKind.u64 0,Value.int IntKind.u8 0] 30):=by
  rw[Below.block hB1 _ (by simp)]
  have:=World.alloc_heap_new (w.alloc (Obj.cells #[x0,x1,x2,x3,x4,x5,x6,x7,x8,x9,x10] 26)) (Obj.cells #[Value.int IntKind.i64 0,Value.int IntKind.u64 0,Value.int IntKind.u64 0,Value.int IntKind.u8 0] 30)
  rwa [show(w.alloc (Obj.cells #[x0,x1,x2,x3,x4,x5,x6,x7,x8,x9,x10] 26)).heap.size=w.heap.size+1 by simp] at this
 have hB2:vI w w1:=(((vI.refl w).alloc _).alloc _).trans hB1
 have hs1:=Below.size hB1
 have hb1:Boxed w1 b tM (.int .u8 (s:Int)):=(Below.block hB2 b hb.lt).trans hb
 have hW:(w1.alloc (Obj.cells #[Value.int IntKind.i64 E,Value.int IntKind.u64 Hi,Value.int IntKind.u64 Lo,Value.int IntKind.u8 ↑f] 30)).heap[w1.heap.size]? = some (Obj.cells #[Value.int IntKind.i64 E,Value.int IntKind.u64 Hi,Value.int IntKind.u64 Lo,Value.int IntKind.u8 ↑f] 30):=World.alloc_heap_new _ _
 have hB3:=hB2.alloc (Obj.cells #[Value.int IntKind.i64 E,Value.int IntKind.u64 Hi,Value.int IntKind.u64 Lo,Value.int IntKind.u8 ↑f] 30)
 have hb2:=hb1.alloc (Obj.cells #[Value.int IntKind.i64 E,Value.int IntKind.u64 Hi,Value.int IntKind.u64 Lo,Value.int IntKind.u8 ↑f] 30)
 have hlt:=hb1.lt
 have hbw:=hb.lt
 have hR2:=(Below.block (Below.alloc (Below.refl _ w1) (Nat.le_refl _) (Obj.cells #[Value.int IntKind.i64 E,Value.int IntKind.u64 Hi,Value.int IntKind.u64 Lo,Value.int IntKind.u8 ↑f] 30)) (w.heap.size+1) (by simp at hs1;omega)).trans hR1
 have hold:(w1.alloc (Obj.cells #[Value.int IntKind.i64 E,Value.int IntKind.u64 Hi,Value.int IntKind.u64 Lo,Value.int IntKind.u8 ↑f] 30)).heap.size=w1.heap.size+1:=by simp
 generalize w1.alloc (Obj.cells #[Value.int IntKind.i64 E,Value.int IntKind.u64 Hi,Value.int IntKind.u64 Lo,Value.int IntKind.u8 ↑f] 30)=W at *
 have hq:({ W with drawn:=W.drawn+1 } : World).cell? ⟨w1.heap.size,3,none⟩=some (.int .u8 (f:Int)):=by simp[World.cell?,hW]
 have hq2:W.cell? ⟨w1.heap.size,3,none⟩=some (.int .u8 (f:Int)):=by simp[World.cell?,hW]
 go_still_tail 5,(by kernel_rfl)
 change wpList _ _ _ _ _ W.drew
 have hb3:Boxed W.drew b tM (.int .u8 (s:Int)):=hb2
 have hB4:vI w W.drew:=hB3.drew
 have hW4:W.drew.heap[w1.heap.size]? = some (Obj.cells #[Value.int IntKind.i64 E,Value.int IntKind.u64 Hi,Value.int IntKind.u64 Lo,Value.int IntKind.u8 ↑f] 30):=hW
 have hs4:W.drew.heap.size=w1.heap.size+1:=hold
 have hR4:W.drew.heap[w.heap.size+1]? = some (Obj.cells #[Value.int IntKind.i64 0,Value.int IntKind.u64 0,Value.int IntKind.u64 0,Value.int IntKind.u8 0] 30):=hR2
 generalize W.drew=W4 at *
 simp at hs1
 have kb5:∀ (w5:World) k o,W4.grownBy w5 (some b)→k≠b→W4.heap[k]? = some o→w5.heap[k]? = some o:=fun w5 k o hg hk ho=>(hg.block k (Array.getElem?_eq_some_iff.1 ho).1 (by simpa using hk)).trans ho
 go_wp2_with (go_at_call 38;(with_reducible refine(aqS W4 b s f hs hf hb3).mono ?_);rintro e w5 ⟨⟨v,rfl⟩,hb5,hg5⟩;have hW5:=kb5 w5 _ _ hg5 (by omega) hW4;have hR5:=kb5 w5 _ _ hg5 (by omega) hR4;have c0:=UL hW5;have c1:=UM hW5;have c2:=UN hW5;have c3:=UO hW5;have e0:=UL hR5;have e1:=UM hR5;have e2:=UN hR5;have e3:=UO hR5;have d0:=UQ 0 hR5;have d1:=UQ 1 hR5;have d2:=UQ 2 hR5;have d3:=UQ 3 hR5)
 have h6:=aqT hR5 (.int .i64 E) (.int .u64 Hi) (.int .u64 Lo) (.int .u8 (f:Int))
 have g6:=aqU w5 (w.heap.size+1) (.int .i64 E) (.int .u64 Hi) (.int .u64 Lo) (.int .u8 (f:Int))
 generalize (((w5.setCell ⟨w.heap.size+1,0,none⟩ (.int .i64 E)).setCell ⟨w.heap.size+1,1,none⟩ (.int .u64 Hi)).setCell ⟨w.heap.size+1,2,none⟩ (.int .u64 Lo)).setCell ⟨w.heap.size+1,3,none⟩ (.int .u8 (f:Int))=W6 at *
 have r0:=UL h6
 have r1:=UM h6
 have r2:=UN h6
 have r3:=UO h6
 refine bodyPost_ret (v:=afR E Hi Lo f) (by simp[results,Tryz.results21,go_sem,r0,r1,r2,r3]) rfl ⟨rfl,hb5.kept g6 (by simp;omega),?_⟩
 refine⟨g6.os.trans (hg5.os.trans (Below.os hB4)),g6.tape.trans (hg5.tape.trans (Below.tape hB4)),g6.output.trans (hg5.output.trans (Below.output hB4)),Nat.le_trans (Below.size hB4) (Nat.le_trans hg5.size g6.size),fun k hk hne=>?_⟩
 have k4:k<W4.heap.size:=Nat.lt_of_lt_of_le hk (Below.size hB4)
 rw[g6.block k (Nat.lt_of_lt_of_le k4 hg5.size) (by simp;omega),hg5.block k k4 hne]
 exact Below.block hB4 k hk
open Go.RowKit Go.Shelf FlagM
open Go.Lib (grownBy_trans grownBy_below grownBy_allocR)
attribute [local go_sem] Oper.semAt_some
theorem aqW (w:World) (b:Nat) (s:Int) (hb:Boxed w b tM (.int .u8 s)):Calls Tryz.prog 23 #[.pointer (some ⟨b,0,none⟩)] w fun e w'=>e = .returned (.int .u8 s)∧w=w':=by
 have hc:=hb.cell
 go_enter Tryz.func23,Tryz.ntmps23
 go_wp2
 go_ret
 exact⟨rfl,rfl⟩
abbrev Out:=Int×Int×Int×Nat
def J8 (o:Out):List Value:=[.int .i64 o.1,.int .u64 o.2.1,.int .u64 o.2.2.1,.int .u8 (o.2.2.2:Int)]
def LC (o:Nat→Out) (k:Nat):List Value:=(List.range k).flatMap fun i=>J8 (o i)
theorem aqX (o:Nat→Out) (k:Nat):LC o (k+1)=LC o k++J8 (o k):=by
 unfold LC;rw[List.range_succ,List.flatMap_append];simp
def FM (o:Nat→Out) (k:Nat):Nat:=J ((List.range k).map fun i=>(o i).2.2.2)
theorem aqY (o:Nat→Out) (k:Nat):FM o (k+1)=J [FM o k,(o k).2.2.2]:=by
 unfold FM
 rw[List.range_succ,List.map_append,ar6,J_cons,List.map_cons,List.map_nil,Nat.mod_eq_of_lt (aaL _)]
theorem aqZ (o:Nat→Out) (k:Nat):FM o k≤255:=by
 unfold FM;have:=aaL ((List.range k).map fun i=>(o i).2.2.2);omega
theorem aq0 (w:World) (a0 a1 a2 a3:Value) (t:TypeId):∀ (j:Nat) (u:Value),[a0,a1,a2,a3][j]? = some u→(w.alloc (.cells #[a0,a1,a2,a3] t)).cell? ((⟨w.heap.size,0,none⟩:Addr).add j)=some u:=by
 intro j u h
 have h2:(w.alloc (.cells #[a0,a1,a2,a3] t)).heap[w.heap.size]? = some (.cells #[a0,a1,a2,a3] t):=World.alloc_heap_new _ _
 match j,h with
 | 0,h=>cases h;exact UL h2
 | 1,h=>cases h;exact UM h2
 | 2,h=>cases h;exact UN h2
 | 3,h=>cases h;exact UO h2
theorem aq1:(Tryz.prog.info? 30).map (fun i=>(i.zero,i.size,i.bytes))=some (some (.agg #[.int .i64 0,.int .u64 0,.int .u64 0,.int .u8 0]),4,32):=by kernel_rfl
def aaq (x:Nat→Int) (j:Nat):Value:=if j<5 then .int .u8 (x j) else .int .u64 (x j)
abbrev UT (x:Nat→Int):List Value:=[.int .u8 (x 0),.int .u8 (x 1),.int .u8 (x 2),.int .u8 (x 3),.int .u8 (x 4),.int .u64 (x 5),.int .u64 (x 6),.int .u64 (x 7),.int .u64 (x 8),.int .u64 (x 9),.int .u64 (x 10)]
def afS (w:World) (v:Value) (n:Nat) (x:Nat→Nat→Int):Prop :=
 ∃ ad cap,v = .slice ad n cap∧(0<n→∃ b off,ad=some ⟨b,off,none⟩∧b<w.heap.size∧∀ i,i<n→∀ j,j<11→w.cell? ⟨b,off+i*11+j,none⟩=some (aaq (x i) j))
theorem aq2 (w:World) (hG:Gl gG w) (v:Value) (n:Nat) (hn:n≤1000000000) (x:Nat→Nat→Int) (o:Nat→Out) (hE:afS w v n x) (hrun:∀ i,i<n→UR (UT (x i)) (o i).1 (o i).2.1 (o i).2.2.1 (o i).2.2.2) (hf:∀ i,(o i).2.2.2≤255) :
  Calls Tryz.prog 19 #[v] w fun e w'=>∃ u,e = .returned (.tuple #[u,.int .u8 (FM o n:Int)])∧w'.ownsRow (w.heap.size+1) 30 4 u n (LC o n)∧vI w w':=by
 obtain⟨ad,cap,rfl,hcell⟩:=hE
 obtain⟨i0,hi,hz0,hz1,hz2⟩:=info_parts aq1
 have HR:=Lib.hid hrun
 clear hrun
 go_enter Tryz.func19,Tryz.ntmps19
 go_wp2_with (go_at_call 18;(with_reducible refine(aqQ w).mono ?_);rintro e w' ⟨rfl,rfl⟩)
 have hM0:Boxed (w.alloc (.cells #[.int .u8 0] tM)) w.heap.size tM (.int .u8 (FM o 0:Int)):=Boxed.new _ _ _
 go_loopw [5,11] (fun out i wr=>∃ k:Nat,k≤n∧i = .int .i64 (k:Int)∧wr.ownsRow (w.heap.size+1) 30 4 out k (LC o k)∧Boxed wr w.heap.size tM (.int .u8 (FM o k:Int))∧Below w.heap.size w wr)
  (fun _ i _=>n-(intOf i).toNat)
 case atStart=>exact⟨0,Nat.zero_le _,rfl,World.ownsRow_nil _ _ _ _,hM0,(Below.refl _ w).alloc (Nat.le_refl _) _⟩
 case round =>
  obtain⟨k,hk,rfl,hown,hM,hnx⟩:=hrel
  by_cases hlt:k<n
  ·obtain⟨b,off,rfl,hb,hcl⟩:=hcell (by omega)
   have hx:∀ j,j<11→wr.cell? ⟨b,off+k*11+j,none⟩=some (aaq (x k) j):=fun j hj=>(hnx.cell (p:=⟨b,off+k*11+j,none⟩) hb).trans (hcl k hlt j hj)
   have x0:wr.cell? ⟨b,off+k*11,none⟩=some (.int .u8 (x k 0)):=hx 0 (by omega)
   have x1:wr.cell? ⟨b,off+k*11+1,none⟩=some (.int .u8 (x k 1)):=hx 1 (by omega)
   have x2:wr.cell? ⟨b,off+k*11+2,none⟩=some (.int .u8 (x k 2)):=hx 2 (by omega)
   have x3:wr.cell? ⟨b,off+k*11+3,none⟩=some (.int .u8 (x k 3)):=hx 3 (by omega)
   have x4:wr.cell? ⟨b,off+k*11+4,none⟩=some (.int .u8 (x k 4)):=hx 4 (by omega)
   have x5:wr.cell? ⟨b,off+k*11+5,none⟩=some (.int .u64 (x k 5)):=hx 5 (by omega)
   have x6:wr.cell? ⟨b,off+k*11+6,none⟩=some (.int .u64 (x k 6)):=hx 6 (by omega)
   have x7:wr.cell? ⟨b,off+k*11+7,none⟩=some (.int .u64 (x k 7)):=hx 7 (by omega)
   have x8:wr.cell? ⟨b,off+k*11+8,none⟩=some (.int .u64 (x k 8)):=hx 8 (by omega)
   have x9:wr.cell? ⟨b,off+k*11+9,none⟩=some (.int .u64 (x k 9)):=hx 9 (by omega)
   have x10:wr.cell? ⟨b,off+k*11+10,none⟩=some (.int .u64 (x k 10)):=hx 10 (by omega)
   clear hx hcl
   have hr1:=HR.out k hlt
   have HK:=Lib.hid hr1
   clear hr1
   have q1:(k:Int)<(n:Int):=by omega
   have hfk:=hf k
   have hsk:=aqZ o k
   have HS:=Lib.hid (aqY o k)
   have HO:=Lib.hid (aqX o k)
   have hML:=hM.lt
   have hbel:vI w wr:=hnx
   have hsz:=hnx.size
   have hrow:u5.ownBlock=none∨u5.ownBlock≠some w.heap.size:=by
    cases hv:u5.ownBlock with
    | none=>exact .inl rfl
    | some g=>exact .inr (by have:=(hown.lt g hv).1;simp;omega)
   go_wp2_with (first|(go_at_call 21;(with_reducible refine(aqV _ (hG.bel (vI.alloc hbel _)) w.heap.size (FM o k) (o k).2.2.2 hsk hfk _ _ _ _ _ _ _ _ _ _ _ (o k).1 (o k).2.1 (o k).2.2.1 (hM.alloc _) HK.out).mono ?_);rintro e w1 ⟨rfl,hM1,hg1⟩;have hs1:=hg1.size;have hown1:=(hown.alloc _).kept hg1 hrow)|(at_builtin;refine wpList_append_own _ rfl (.tmp 15) (.tmp 19) 42 rfl (w.heap.size+1) 30 i0 (.agg #[.int .i64 0,.int .u64 0,.int .u64 0,.int .u8 0]) 4 32 Tryz.underlying42 hi hz0 hz1 hz2 rfl (by decide) _ _ _ rfl (hown1.alloc _) ⟨w1.heap.size,0,none⟩ 1 1 (J8 (o k)) rfl rfl (aq0 _ _ _ _ _ _) (by simp[J8,Value.oneCell']) (by unfold maxLen;omega) (by omega) (by simp at hs1 ⊢;omega) ?_;intro v' w2 hown2 hgrow _))
   have hrw:∀ g,u5.ownBlock=some g→w.heap.size≤g:=fun g hv=>by have:=(hown.lt g hv).1;omega
   have hg2:(w1.alloc (.cells #[.int .i64 (o k).1,.int .u64 (o k).2.1,.int .u64 (o k).2.2.1,.int .u8 ((o k).2.2.2:Int)] 30)).grownBy w2 u5.ownBlock:=hgrow
   go_roundw
   case rel =>
    refine⟨k+1,by omega,by go_num,by rw[HO.out];exact hown2,?_,?_⟩
    ·rw[HS.out]
     exact(hM1.alloc _).kept hg2 (fun e=>by rcases hrow with h|h;rw[h] at e;cases e;exact h e.symm)
    ·exact Below.grown (Below.alloc (Below.grown (Below.alloc hnx hsz _) hg1 (by simp;omega) (fun g e=>by cases e;exact Nat.le_refl _)) (by simp at hs1;omega) _) hg2 (by simp at hs1 ⊢;omega) hrw
   case measure=>simp[intOf];omega
  ·obtain rfl:k=n:=by omega
   go_wp2_with (go_at_call 23;(with_reducible refine(aqW wr w.heap.size _ hM).mono ?_);rintro e w' ⟨rfl,rfl⟩)
   go_ret2
   exact⟨_,rfl,hown,hnx⟩
open Go.RowKit FlagM
abbrev kE:List VK:=[kB,kB,kB,kB,kB,kU,kU,kU,kU,kU,kU]
abbrev kO:List VK:=[kI,kU,kU,kB]
def xE (e:List Int) (j:Nat):Int:=if j<5 then IntKind.u8.wrap (vT e j) else IntKind.u64.wrap (vT e j)
def GU (r:List Int):Nat:=(yX .u8 (vT r 3)).toNat
def oE (r:List Int):Out:=(IntKind.i64.wrap (vT r 0),IntKind.u64.wrap (vT r 1),IntKind.u64.wrap (vT r 2),GU r)
theorem afT (x:Int):0≤IntKind.u8.wrap x∧IntKind.u8.wrap x≤255:=by
 rw[ZH];exact CW x
theorem afU (r:List Int):((GU r:Nat):Int)=IntKind.u8.wrap (vT r 3):=by
 unfold GU;rw[xR];have:=(afT (vT r 3)).1;omega
theorem aq3 (r:List Int):GU r≤255:=by
 have h:=afU r;have:=(afT (vT r 3)).2;omega
theorem aar {e:List Int} (h:e.length=11):wQ kE e=UT (xE e):=by
 match e,h with
 | [a,b,c,d,f,g,i,j,k,l,m],_=>rfl
theorem afV {r:List Int} (h:r.length=4):wQ kO r=J8 (oE r):=by
 match r,h with
 | [a,b,c,d],_ =>
  have:=afU [a,b,c,d]
  simp only[wQ,xW,J8,oE,this]
  rfl
theorem aq4 {e:List Int} (he:e.length=11) (hF:(ym e).length=4):UR (UT (xE e)) (oE (ym e)).1 (oE (ym e)).2.1 (oE (ym e)).2.2.1 (oE (ym e)).2.2.2:=by
 intro w hG
 have h:=Kb (ahs.ok e he hF) Tryz.func10 (by kernel_rfl) (by kernel_rfl) w hG
 have h1:wJ Kk.a e = [.agg (wQ kE e).toArray]:=by
  match e,he with
  | [a,b,c,d,f,g,i,j,k,l,m],_=>rfl
 have h2:xG (wJ Kk.r (ym e)) = .agg (wQ kO (ym e)).toArray:=by
  generalize ym e=r at hF
  match r,hF with
  | [a,b,c,d],_=>rfl
 rw[h1,h2,aar he,afV hF] at h
 exact h
theorem afW {α:Type} (l:List α) (d:α):(List.range l.length).map (fun i=>l[i]?.getD d)=l:=by
 refine List.ext_getElem (by simp) fun i h1 h2=>?_
 simp at h1 ⊢
 simp[h1]
theorem flat_get {α β:Type} (l:List α) (d:α) (g:α→List β):(List.range l.length).flatMap (fun i=>g (l[i]?.getD d))=l.flatMap g:=by
 have:=congrArg (List.flatMap g) (afW l d)
 rw[List.flatMap_map] at this
 exact this
theorem afX {g:List Int→List Value} {q:Nat} : ∀ {es:List (List Int)} (hq:∀ e∈es,(g e).length=q) {i j:Nat},i<es.length→j<q→(es.flatMap g)[i*q+j]? = (g (es[i]?.getD []))[j]?
 | [],_,i,j,hi,_=>by simp at hi
 | e::es,hq,0,j,_,hj=>by
  have h1:=hq e List.mem_cons_self
  simp only[List.flatMap_cons,Nat.zero_mul,Nat.zero_add,List.getElem?_cons_zero,Option.getD_some]
  rw[List.getElem?_append_left (by omega)]
 | e::es,hq,i+1,j,hi,hj=>by
  have h1:=hq e List.mem_cons_self
  have ih:=afX (fun e he=>hq e (List.mem_cons_of_mem _ he)) (i:=i) (j:=j) (es:=es) (by simpa using hi) hj
  simp only[List.flatMap_cons,List.getElem?_cons_succ]
  rw[List.getElem?_append_right (by rw[h1,Nat.add_mul];omega),h1,show(i+1)*q+j-q=i*q+j by rw[Nat.add_mul];omega]
  exact ih
theorem aq5 (x:Nat→Int):∀ j,j<11→(UT x)[j]? = some (aaq x j)
 | 0,_=>rfl|1,_=>rfl|2,_=>rfl|3,_=>rfl|4,_=>rfl|5,_=>rfl|6,_=>rfl|7,_=>rfl|8,_=>rfl|9,_=>rfl|10,_=>rfl
 | n+11,h=>by omega
theorem aq6 {w:World} {v:Value} {es:List (List Int)} (h11:∀ e∈es,e.length=11) (hR:Reads w v es.length (es.flatMap (wQ kE))):afS w v es.length fun i=>xE (es[i]?.getD []):=by
 rcases hR with⟨rfl,h0,_⟩|⟨b,off,cap,rfl,hb,hc⟩
 ·exact⟨none,0,by rw[h0],fun h=>by omega⟩
 ·refine⟨_,cap,rfl,fun _=>⟨b,off,rfl,hb,fun i hi j hj=>?_⟩⟩
  have hm:(es[i]?.getD []).length=11:=by
   rw[List.getElem?_eq_getElem hi,Option.getD_some];exact h11 _ (List.getElem_mem hi)
  have h1:=afX (g:=wQ kE) (q:=11) (es:=es) (fun e he=>by rw[aar (h11 e he)];rfl) hi hj
  rw[aar hm,aq5 _ j hj] at h1
  rw[Nat.add_assoc]
  exact hc _ _ h1
theorem aq7 {w:World} {base t n:Nat} {u:Value} {xs:List Value} {z:Nat} (h:w.ownsRow base t z u n xs) (h0:n=0→xs = []):Reads w u n xs:=by
 rcases h.2 with⟨h1,h2⟩|⟨g,cap,cur,rfl,hb,hg,h3,h4,h5,h6⟩
 ·exact .inl ⟨h1,h2,h0 h2⟩
 ·refine .inr ⟨g,0,cap,rfl,(Array.getElem?_eq_some_iff.1 hg).1,fun j x hj=>?_⟩
  rw[← h6,List.getElem?_take] at hj
  split at hj
  ·simpa [World.cell?,hg] using hj
  ·cases hj
theorem aq8 {w:World} {base t n:Nat} {u:Value} {xs:List Value} {z:Nat} (h:w.ownsRow base t z u n xs):∀ b,Aa u=some b→base≤b:=fun b hv=>by
 rcases h.2 with⟨rfl,h2⟩|⟨g,cap,cur,rfl,hb,_⟩
 ·cases hv
 ·cases hv;exact hb
theorem aq9 (w:World) (hG:Gl gG w) (v:Value) (es:List (List Int)) (hn:es.length≤1000000000) (h11:∀ e∈es,e.length=11) (hF:∀ e∈es,(ym e).length=4) (hR:Reads w v es.length (es.flatMap (wQ kE))) :
  Calls Tryz.prog 19 #[v] w fun en w'=>∃ u,en = .returned (.tuple #[u,.int .u8 (J (es.map fun e=>GU (ym e)):Int)])∧Reads w' u es.length (es.flatMap fun e=>wQ kO (ym e))∧vI w w'∧∀ b,Aa u=some b→w.heap.size≤b:=by
 have hm:∀ i,i<es.length→es[i]?.getD []∈es:=fun i hi=>by rw[List.getElem?_eq_getElem hi,Option.getD_some];exact List.getElem_mem hi
 have h:=aq2 w hG v es.length hn (fun i=>xE (es[i]?.getD [])) (fun i=>oE (ym (es[i]?.getD []))) (aq6 h11 hR)
  (fun i hi=>aq4 (h11 _ (hm i hi)) (hF _ (hm i hi))) (fun i=>aq3 _)
 refine h.mono ?_
 rintro en w' ⟨u,rfl,hrow,hB⟩
 have e1:LC (fun i=>oE (ym (es[i]?.getD []))) es.length=es.flatMap fun e=>wQ kO (ym e):=by
  unfold LC
  rw[flat_get es [] (fun e=>J8 (oE (ym e)))]
  have:∀ e∈es,J8 (oE (ym e))=wQ kO (ym e):=fun e he=>(afV (hF e he)).symm
  clear hR h hrow hn h11 hF hm
  induction es with
  | nil=>rfl
  | cons a l ih=>rw[List.flatMap_cons,List.flatMap_cons,this a List.mem_cons_self,ih fun e he=>this e (List.mem_cons_of_mem _ he)]
 have e2:FM (fun i=>oE (ym (es[i]?.getD []))) es.length=J (es.map fun e=>GU (ym e)):=by
  unfold FM
  congr 1
  have:=congrArg (List.map fun e=>GU (ym e)) (afW es [])
  rw[List.map_map] at this
  exact this
 rw[e1] at hrow
 rw[e2]
 refine⟨u,rfl,aq7 hrow (fun h0=>?_),hB,fun b hv=>Nat.le_trans (Nat.le_succ _) (aq8 hrow b hv)⟩
 rw[List.length_eq_zero_iff.1 h0];rfl
def Rx (R:List Int→List Int):Nat→List Int→Nat→List Int→List Int
 | 0,_,f,acc=>Int.ofNat f::acc
 | m+1,l,f,acc=>match R (l.take 11) with
  | [a,b,c,d]=>Ev a fun a=>Ev b fun b=>Ev c fun c=>Ev d fun d=>yO (Nat.lor f ((yX .u8 d).toNat%32)) fun f=>Rx R m (l.drop 11) f (acc ++ [a,b,c,d])
  | _=>[]
def chunks:Nat→List Int→List (List Int)
 | 0,_=>[]
 | m+1,l=>l.take 11::chunks m (l.drop 11)
theorem aas {R:List Int→List Int} : ∀ {m:Nat} {l:List Int} {f:Nat} {acc r:List Int} {x:Int},Rx R m l f acc=x::r→(∀ e∈chunks m l,(R e).length=4)∧r=acc++(chunks m l).flatMap R∧x=((f|||J ((chunks m l).map fun e=>GU (R e)):Nat):Int)
 | 0,l,f,acc,r,x,h=>by
  simp only[Rx,List.cons.injEq] at h
  obtain⟨rfl,rfl⟩:=h
  exact⟨fun e he=>(by cases he),by simp[chunks],by simp[chunks,aaK]⟩
 | m+1,l,f,acc,r,x,h=>by
  simp only[Rx] at h
  split at h
  ·rename_i a b c d hR
   simp only[Hy,yw] at h
   obtain⟨h1,h2,h3⟩:=aas h
   refine⟨fun e he=>?_,?_,?_⟩
   ·rcases List.mem_cons.1 he with rfl|he
    ·rw[hR];rfl
    ·exact h1 e he
   ·rw[h2,chunks,List.flatMap_cons,hR,List.append_assoc]
   ·rw[h3,chunks,List.map_cons,J_cons,hR]
    show((_|||_%32|||_:Nat):Int)=_
    rw[Nat.or_assoc];rfl
  ·cases h
def Pb (m:Nat) (l:List Int):List Int:=Rx ym m l 0 []
theorem afY:∀ (m:Nat) (l:List Int),(chunks m l).length=m
 | 0,_=>rfl
 | m+1,l=>by rw[chunks,List.length_cons,afY m]
theorem afZ:∀ (m:Nat) (l:List Int),l.length=11*m→∀ e∈chunks m l,e.length=11
 | 0,_,_,e,he=>by cases he
 | m+1,l,h,e,he=>by
  rcases List.mem_cons.1 he with rfl|he
  ·rw[List.length_take];omega
  ·exact afZ m _ (by rw[List.length_drop];omega) e he
theorem af0:∀ (m:Nat) (l:List Int),l.length=11*m→wQ (zO kE m) l=(chunks m l).flatMap (wQ kE)
 | 0,l,h=>by
  have:l = []:=List.length_eq_zero_iff.1 (by omega)
  subst this;rfl
 | m+1,l,h=>by
  have hs:zO kE (m+1)=kE++zO kE m:=by unfold zO;rw[List.replicate_succ,List.flatten_cons]
  rw[chunks,List.flatMap_cons,hs]
  have e:=List.take_append_drop 11 l
  rw[← af0 m _ (by rw[List.length_drop];omega),← Vj _ _ _ _ (by rw[List.length_take];show min 11 _=11;omega),e]
theorem af1:∀ {rs:List (List Int)},(∀ r∈rs,r.length=4)→wQ (zO kO rs.length) rs.flatten=rs.flatMap (wQ kO)
 | [],_=>rfl
 | r::rs,h=>by
  have hs:zO kO (rs.length+1)=kO++zO kO rs.length:=by unfold zO;rw[List.replicate_succ,List.flatten_cons]
  rw[List.length_cons,hs,List.flatten_cons,List.flatMap_cons,← af1 fun r' hr=>h r' (List.mem_cons_of_mem _ hr)]
  exact Vj _ _ _ _ (h r List.mem_cons_self)
theorem ara (id m:Nat) (hm:m≤1000000000):aaP Tryz.prog gG ⟨19,id,m,26,kE,kO⟩ (Pb m):=by
 intro l hl f r hF hr w v hG hR
 have hl':l.length=11*m:=by rw[hl,Vk];show m*11=_;omega
 obtain⟨h1,h2,h3⟩:=aas hF
 rw[List.nil_append] at h2
 have h11:=afZ m l hl'
 have hcl:=afY m l
 rw[af0 m l hl'] at hR
 have h:=aq9 w hG v (chunks m l) (by rw[hcl];exact hm) h11 h1 (by rw[hcl];exact hR)
 refine Hu Tryz.func19 (by kernel_rfl) (by kernel_rfl) (h.mono ?_)
 rintro en w' ⟨u,rfl,hu,hB,hfr⟩
 have hf:IntKind.u8.wrap f=(J ((chunks m l).map fun e=>GU (ym e)):Int):=by
  rw[h3,Nat.zero_or]
  have:=aaL ((chunks m l).map fun e=>GU (ym e))
  rw[ZH];exact BP (by omega) (by omega)
 refine⟨u,by rw[hf],?_,hB,hfr⟩
 rw[hcl] at hu
 have h5:=af1 (rs:=(chunks m l).map ym) (fun r' hr'=>by obtain⟨e,he,rfl⟩:=List.mem_map.1 hr';exact h1 e he)
 rw[List.length_map,hcl,List.flatMap_map] at h5
 have h6:r=((chunks m l).map ym).flatten:=by rw[h2];rfl
 rw[h6]
 show Reads w' u m (wQ (zO kO m) _)
 rw[h5]
 exact hu
def LD:Nat:=900001
theorem arb (l:List Int):(Pb 4 l).length≠1:=by
 intro h
 have hx:∃ x,Pb 4 l = [x]:=List.length_eq_one_iff.1 h
 obtain⟨x,hx⟩:=hx
 obtain⟨h1,h2,h3⟩:=aas hx
 have h4:=congrArg List.length h2
 rw[List.nil_append,chunks,List.flatMap_cons,List.length_append,h1 _ (by rw[chunks];exact List.mem_cons_self)] at h4
 simp at h4
 omega
def TD:List wO:=⟨LD,⟨[],[.sc kB]⟩,Pb 4⟩::TC
theorem af2:∀ e∈TD,AQ Tryz.prog gG e:=List.forall_mem_cons.2 ⟨⟨fun l _ h=>absurd h (arb l)⟩,auj⟩
def mE4:MX:=⟨Vn,[⟨19,LD,4,26,kE,kO⟩]⟩
theorem arc:LU (wP TD NZ ZZ) mE4:=by
 refine⟨agW,fun a ha=>?_⟩
 simp only[mE4,List.mem_cons,List.not_mem_nil,or_false] at ha
 subst ha
 have:(wP TD NZ ZZ).Φ LD=Pb 4:=wy (L:=TD) (M:=NZ) (S:=ZZ) (g:=LD) (e:=⟨LD,⟨[],[.sc kB]⟩,Pb 4⟩) rfl rfl rfl
 show aaP Tryz.prog gG _ ((wP TD NZ ZZ).Φ LD)
 rw[this]
 exact ara LD 4 (by omega)
end Go.Proofs.YtemomocmfggiaaaGreatDoor
