import Derived.Test.YtippohicjhilnaaGreatDoorZ3Tn
import Derived.Test.YtippohicjhilnaaGreatDoorZ9Tn
import Derived.Test.YtippohicjhilnaaGreatDoorZMTn
import Derived.StillTailTactics
import Derived.Lib.BufferOwn
import Derived.Laws.AppendOwn
set_option linter.unusedSimpArgs false
set_option linter.unusedVariables false
set_option maxRecDepth 100000
set_option maxHeartbeats 2000000
open Go.Proofs.Tryz
namespace Go.Proofs.YtippohicjhilnaaGreatDoor
open Go.RowKit Go.Shelf FlagM
open Go.Lib (grownBy_trans grownBy_below grownBy_allocR)
attribute [local go_sem] Oper.semAt_some
abbrev tM:TypeId:=148
theorem ajp (w:World):Calls prog 52 #[] w λe w'=>e = .returned (.pointer (some ⟨w.heap.size,0,none⟩))/\w'=w.alloc (.cells #[.int .u8 0] tM):=by
 go_enter func52,ntmps52
 go_wp2
 go_ret
 exact⟨rfl,rfl⟩
theorem atL (w:World) (s f:Nat) (hs:s<=255) (hf:f<=255) (c:Nat) (v:Value) (hv:v = .slice (some ⟨w.heap.size,0,none⟩) 2 c) :
  Calls prog 135 #[v] (w.alloc (.cells #[.int .u8 (s:Int),.int .u8 (f:Int)] 39)) λe w'=>e = .returned (.int .u8 (J [s,f]:Int))/\vY (w.alloc (.cells #[.int .u8 (s:Int),.int .u8 (f:Int)] 39)) w':=by
 subst hv;exact JN.aD7 _ _ _ (JN.aD0 w (s:Int) (f:Int) c (by omega) (by omega) (by omega) (by omega))
theorem atM (w:World) (b:Nat) (s f:Nat) (hs:s<=255) (hf:f<=255) (hb:Boxed w b tM (.int .u8 (s:Int))) :
  Calls prog 80 #[.pointer (some ⟨b,0,none⟩),.int .u8 (f:Int)] w λe w'=>(∃ v,e = .returned v)/\Boxed w' b tM (.int .u8 (J [s,f]:Int))/\w.grownBy w' (some b):=by
 have hc:=hb.cell;have hfr:=hb.frozen
 go_enter func80,ntmps80
 go_wp2_with (go_at_call 135;(with_reducible refine(atL w s f hs hf _ _ rfl).mono ?_);rintro e w1 ⟨rfl,hB1⟩;have hb1:=(hb.alloc (.cells #[.int .u8 (s:Int),.int .u8 (f:Int)] 39)).kept (row:=none) ⟨Below.os hB1,Below.tape hB1,Below.output hB1,Below.size hB1,λk hk _=>Below.block hB1 k hk⟩ (by simp);have hc1:=hb1.cell;have hf1:=hb1.frozen)
 go_end0
 refine⟨⟨_,rfl⟩,hb1.set _,?_⟩;exact grownBy_trans (grownBy_below (grownBy_allocR (World.grownBy.refl w _) _) hB1) (grownBy_setCell' _ _ _)
theorem Qs {w:World} {b:Nat} {a0 a1 a2 a3:Value} {t:TypeId} {z:Nat×Nat} (h:w.heap[b]? = some (.cells #[a0,a1,a2,a3] t z)):w.cell? ⟨b,0,none⟩=some a0:=by simp[World.cell?,h]
theorem Qt {w:World} {b:Nat} {a0 a1 a2 a3:Value} {t:TypeId} {z:Nat×Nat} (h:w.heap[b]? = some (.cells #[a0,a1,a2,a3] t z)):w.cell? ⟨b,1,none⟩=some a1:=by simp[World.cell?,h]
theorem Qu {w:World} {b:Nat} {a0 a1 a2 a3:Value} {t:TypeId} {z:Nat×Nat} (h:w.heap[b]? = some (.cells #[a0,a1,a2,a3] t z)):w.cell? ⟨b,2,none⟩=some a2:=by simp[World.cell?,h]
theorem Qv {w:World} {b:Nat} {a0 a1 a2 a3:Value} {t:TypeId} {z:Nat×Nat} (h:w.heap[b]? = some (.cells #[a0,a1,a2,a3] t z)):w.cell? ⟨b,3,none⟩=some a3:=by simp[World.cell?,h]
theorem LH {w:World} {b:Nat} {c:Array Value} {t:TypeId} (i:Nat) (h:w.heap[b]? = some (.cells c t (0,0))):w.frozen? ⟨b,i,none⟩=false:=by simp[World.frozen?,h]
theorem set1 {w:World} {b i:Nat} {c:Array Value} {t:TypeId} {z:Nat×Nat} (h:w.heap[b]? = some (.cells c t z)) (v:Value):(w.setCell ⟨b,i,none⟩ v).heap[b]? = some (.cells (c.setIfInBounds i v) t z):=by show(w.heap.modify b _)[b]? = _;rw[Array.getElem?_modify,if_pos rfl,h];rfl
theorem ajq {w:World} {b:Nat} {a0 a1 a2 a3:Value} {t:TypeId} {z:Nat×Nat} (h:w.heap[b]? = some (.cells #[a0,a1,a2,a3] t z)) (x0 x1 x2 x3:Value) :
  ((((w.setCell ⟨b,0,none⟩ x0).setCell ⟨b,1,none⟩ x1).setCell ⟨b,2,none⟩ x2).setCell ⟨b,3,none⟩ x3).heap[b]? = some (.cells #[x0,x1,x2,x3] t z):=by
 exact set1 (set1 (set1 (set1 h x0) x1) x2) x3
theorem ajr (w:World) (b:Nat) (x0 x1 x2 x3:Value):w.grownBy ((((w.setCell ⟨b,0,none⟩ x0).setCell ⟨b,1,none⟩ x1).setCell ⟨b,2,none⟩ x2).setCell ⟨b,3,none⟩ x3) (some b) :=
 grownBy_trans (grownBy_trans (grownBy_trans (Go.Lib.grownBy_setCell _ _ _ _) (Go.Lib.grownBy_setCell _ _ _ _)) (Go.Lib.grownBy_setCell _ _ _ _)) (Go.Lib.grownBy_setCell _ _ _ _)
def UJ (cs:List Value) (E Hi Lo:Int) (f:Nat):Prop :=
 ∀ w,Gl gG w->Calls prog 12 #[.agg cs.toArray] w λe w'=>e = .returned (.agg #[.int .i64 E,.int .u64 Hi,.int .u64 Lo,.int .u8 (f:Int)])/\vY w w'
abbrev XV (E Hi Lo:Int) (f:Nat):Value:=.agg #[.int .i64 E,.int .u64 Hi,.int .u64 Lo,.int .u8 (f:Int)]
theorem ajs (w:World) (hG:Gl gG w) (b:Nat) (s f:Nat) (hs:s<=255) (hf:f<=255) (x0 x1 x2 x3 x4 x5 x6 x7 x8 x9 x10:Value) (E Hi Lo:Int) (hb:Boxed w b tM (.int .u8 (s:Int))) (hrun:UJ [x0,x1,x2,x3,x4,x5,x6,x7,x8,x9,x10] E Hi Lo f) :
  Calls prog 53 #[.pointer (some ⟨b,0,none⟩),.agg #[x0,x1,x2,x3,x4,x5,x6,x7,x8,x9,x10]] w λe w'=>e = .returned (XV E Hi Lo f)/\Boxed w' b tM (.int .u8 (J [s,f]:Int))/\w.grownBy w' (some b):=by
 unfold UJ at hrun;have H:=Lib.hid hrun;clear hrun
 go_enter func53,ntmps53
 go_wp2_with (go_at_call 12;(with_reducible refine(H.out _ (hG.bel (((vY.refl w).alloc _).alloc _))).mono ?_);rintro e w1 ⟨rfl,hB1⟩)
 have hR1:w1.heap[w.heap.size+1]? = some (Obj.cells #[Value.int IntKind.i64 0,Value.int IntKind.u64 0,Value.int IntKind.u64 0,Value.int IntKind.u8 0] 41):=by
  rw[Below.block hB1 _ (by simp)];have:=World.alloc_heap_new (w.alloc (Obj.cells #[x0,x1,x2,x3,x4,x5,x6,x7,x8,x9,x10] 31)) (Obj.cells #[Value.int IntKind.i64 0,Value.int IntKind.u64 0,Value.int IntKind.u64 0,Value.int IntKind.u8 0] 41)
  rwa [show(w.alloc (Obj.cells #[x0,x1,x2,x3,x4,x5,x6,x7,x8,x9,x10] 31)).heap.size=w.heap.size+1 by simp] at this
 have hB2:vY w w1:=(((vY.refl w).alloc _).alloc _).trans hB1;have hs1:=Below.size hB1;have hb1:Boxed w1 b tM (.int .u8 (s:Int)):=(Below.block hB2 b hb.lt).trans hb;have hW:(w1.alloc (Obj.cells #[Value.int IntKind.i64 E,Value.int IntKind.u64 Hi,Value.int IntKind.u64 Lo,Value.int IntKind.u8 ↑f] 41)).heap[w1.heap.size]? = some (Obj.cells #[Value.int IntKind.i64 E,Value.int IntKind.u64 Hi,Value.int IntKind.u64 Lo,Value.int IntKind.u8 ↑f] 41):=World.alloc_heap_new _ _;have hB3:=hB2.alloc (Obj.cells #[Value.int IntKind.i64 E,Value.int IntKind.u64 Hi,Value.int IntKind.u64 Lo,Value.int IntKind.u8 ↑f] 41);have hb2:=hb1.alloc (Obj.cells #[Value.int IntKind.i64 E,Value.int IntKind.u64 Hi,Value.int IntKind.u64 Lo,Value.int IntKind.u8 ↑f] 41);have hlt:=hb1.lt;have hbw:=hb.lt;have hR2:=(Below.block (Below.alloc (Below.refl _ w1) (Nat.le_refl _) (Obj.cells #[Value.int IntKind.i64 E,Value.int IntKind.u64 Hi,Value.int IntKind.u64 Lo,Value.int IntKind.u8 ↑f] 41)) (w.heap.size+1) (by simp at hs1;omega)).trans hR1;have hold:(w1.alloc (Obj.cells #[Value.int IntKind.i64 E,Value.int IntKind.u64 Hi,Value.int IntKind.u64 Lo,Value.int IntKind.u8 ↑f] 41)).heap.size=w1.heap.size+1:=by simp
 generalize w1.alloc (Obj.cells #[Value.int IntKind.i64 E,Value.int IntKind.u64 Hi,Value.int IntKind.u64 Lo,Value.int IntKind.u8 ↑f] 41)=W at *
 have hq:({ W with drawn:=W.drawn+1 } : World).cell? ⟨w1.heap.size,3,none⟩=some (.int .u8 (f:Int)):=by simp[World.cell?,hW]
 have hq2:W.cell? ⟨w1.heap.size,3,none⟩=some (.int .u8 (f:Int)):=by simp[World.cell?,hW]
 go_still_tail 5,(by kernel_rfl)
 change wpList _ _ _ _ _ W.drew;have hb3:Boxed W.drew b tM (.int .u8 (s:Int)):=hb2;have hB4:vY w W.drew:=hB3.drew;have hW4:W.drew.heap[w1.heap.size]? = some (Obj.cells #[Value.int IntKind.i64 E,Value.int IntKind.u64 Hi,Value.int IntKind.u64 Lo,Value.int IntKind.u8 ↑f] 41):=hW;have hs4:W.drew.heap.size=w1.heap.size+1:=hold;have hR4:W.drew.heap[w.heap.size+1]? = some (Obj.cells #[Value.int IntKind.i64 0,Value.int IntKind.u64 0,Value.int IntKind.u64 0,Value.int IntKind.u8 0] 41):=hR2;generalize W.drew=W4 at *
 simp at hs1;have kb5:∀ (w5:World) k o,W4.grownBy w5 (some b)->k≠b->W4.heap[k]? = some o->w5.heap[k]? = some o:=λw5 k o hg hk ho=>(hg.block k (Array.getElem?_eq_some_iff.1 ho).1 (by simpa using hk)).trans ho
 go_wp2_with (go_at_call 80;(with_reducible refine(atM W4 b s f hs hf hb3).mono ?_);rintro e w5 ⟨⟨v,rfl⟩,hb5,hg5⟩;have hW5:=kb5 w5 _ _ hg5 (by omega) hW4;have hR5:=kb5 w5 _ _ hg5 (by omega) hR4;have c0:=Qs hW5;have c1:=Qt hW5;have c2:=Qu hW5;have c3:=Qv hW5;have e0:=Qs hR5;have e1:=Qt hR5;have e2:=Qu hR5;have e3:=Qv hR5;have d0:=LH 0 hR5;have d1:=LH 1 hR5;have d2:=LH 2 hR5;have d3:=LH 3 hR5)
 have h6:=ajq hR5 (.int .i64 E) (.int .u64 Hi) (.int .u64 Lo) (.int .u8 (f:Int));have g6:=ajr w5 (w.heap.size+1) (.int .i64 E) (.int .u64 Hi) (.int .u64 Lo) (.int .u8 (f:Int));generalize (((w5.setCell ⟨w.heap.size+1,0,none⟩ (.int .i64 E)).setCell ⟨w.heap.size+1,1,none⟩ (.int .u64 Hi)).setCell ⟨w.heap.size+1,2,none⟩ (.int .u64 Lo)).setCell ⟨w.heap.size+1,3,none⟩ (.int .u8 (f:Int))=W6 at *
 have r0:=Qs h6;have r1:=Qt h6;have r2:=Qu h6;have r3:=Qv h6;refine bodyPost_ret (v:=XV E Hi Lo f) (by simp[results,results53,go_sem,r0,r1,r2,r3]) rfl ⟨rfl,hb5.kept g6 (by simp;omega),?_⟩;refine⟨g6.os.trans (hg5.os.trans (Below.os hB4)),g6.tape.trans (hg5.tape.trans (Below.tape hB4)),g6.output.trans (hg5.output.trans (Below.output hB4)),Nat.le_trans (Below.size hB4) (Nat.le_trans hg5.size g6.size),λk hk hne=>?_⟩;have k4:k<W4.heap.size:=Nat.lt_of_lt_of_le hk (Below.size hB4);rw[g6.block k (Nat.lt_of_lt_of_le k4 hg5.size) (by simp;omega),hg5.block k k4 hne];exact Below.block hB4 k hk
theorem ajt (w:World) (b:Nat) (s:Int) (hb:Boxed w b tM (.int .u8 s)):Calls prog 54 #[.pointer (some ⟨b,0,none⟩)] w λe w'=>e = .returned (.int .u8 s)/\w=w':=by
 have hc:=hb.cell
 go_enter func54,ntmps54
 go_wp2
 go_ret
 exact⟨rfl,rfl⟩
abbrev Out:=Int×Int×Int×Nat
def LJ (o:Out):List Value:=[.int .i64 o.1,.int .u64 o.2.1,.int .u64 o.2.2.1,.int .u8 (o.2.2.2:Int)]
def Ny (o:Nat->Out) (k:Nat):List Value:=(List.range k).flatMap λi=>LJ (o i)
theorem atN (o:Nat->Out) (k:Nat):Ny o (k+1)=Ny o k++LJ (o k):=by unfold Ny;rw[List.range_succ,List.flatMap_append];simp
def Hq (o:Nat->Out) (k:Nat):Nat:=J ((List.range k).map λi=>(o i).2.2.2)
theorem atO (o:Nat->Out) (k:Nat):Hq o (k+1)=J [Hq o k,(o k).2.2.2]:=by unfold Hq;rw[List.range_succ,List.map_append,aud,J_cons,List.map_cons,List.map_nil,Nat.mod_eq_of_lt (acZ _)]
theorem atP (o:Nat->Out) (k:Nat):Hq o k<=255:=by unfold Hq;have:=acZ ((List.range k).map λi=>(o i).2.2.2);omega
theorem atQ (w:World) (a0 a1 a2 a3:Value) (t:TypeId):∀ (j:Nat) (u:Value),[a0,a1,a2,a3][j]? = some u->(w.alloc (.cells #[a0,a1,a2,a3] t)).cell? ((⟨w.heap.size,0,none⟩:Addr).add j)=some u:=by
 intro j u h;have h2:(w.alloc (.cells #[a0,a1,a2,a3] t)).heap[w.heap.size]? = some (.cells #[a0,a1,a2,a3] t):=World.alloc_heap_new _ _
 match j,h with
 | 0,h=>cases h;exact Qs h2
 | 1,h=>cases h;exact Qt h2
 | 2,h=>cases h;exact Qu h2
 | 3,h=>cases h;exact Qv h2
theorem atS:(prog.info? 41).map (λi=>(i.zero,i.size,i.bytes))=some (some (.agg #[.int .i64 0,.int .u64 0,.int .u64 0,.int .u8 0]),4,32):=by kernel_rfl
def acU (x:Nat->Int) (j:Nat):Value:=if j<5 then .int .u8 (x j) else .int .u64 (x j)
abbrev Qw (x:Nat->Int):List Value:=[.int .u8 (x 0),.int .u8 (x 1),.int .u8 (x 2),.int .u8 (x 3),.int .u8 (x 4),.int .u64 (x 5),.int .u64 (x 6),.int .u64 (x 7),.int .u64 (x 8),.int .u64 (x 9),.int .u64 (x 10)]
def aju (w:World) (v:Value) (n:Nat) (x:Nat->Nat->Int):Prop :=
 ∃ ad cap,v = .slice ad n cap/\(0<n->∃ b off,ad=some ⟨b,off,none⟩/\b<w.heap.size/\∀ i,i<n->∀ j,j<11->w.cell? ⟨b,off+i*11+j,none⟩=some (acU (x i) j))
theorem atT (w:World) (hG:Gl gG w) (v:Value) (n:Nat) (hn:n<=1000000000) (x:Nat->Nat->Int) (o:Nat->Out) (hE:aju w v n x) (hrun:∀ i,i<n->UJ (Qw (x i)) (o i).1 (o i).2.1 (o i).2.2.1 (o i).2.2.2) (hf:∀ i,(o i).2.2.2<=255) :
  Calls prog 24 #[v] w λe w'=>∃ u,e = .returned (.tuple #[u,.int .u8 (Hq o n:Int)])/\w'.ownsRow (w.heap.size+1) 41 4 u n (Ny o n)/\vY w w':=by
 obtain⟨ad,cap,rfl,hcell⟩:=hE;obtain⟨i0,hi,hz0,hz1,hz2⟩:=info_parts atS;have HR:=Lib.hid hrun;clear hrun
 go_enter func24,ntmps24
 go_wp2_with (go_at_call 52;(with_reducible refine(ajp w).mono ?_);rintro e w' ⟨rfl,rfl⟩)
 have hM0:Boxed (w.alloc (.cells #[.int .u8 0] tM)) w.heap.size tM (.int .u8 (Hq o 0:Int)):=Boxed.new _ _ _
 go_loopw [5,11] (λout i wr=>∃ k:Nat,k<=n/\i = .int .i64 (k:Int)/\wr.ownsRow (w.heap.size+1) 41 4 out k (Ny o k)/\Boxed wr w.heap.size tM (.int .u8 (Hq o k:Int))/\Below w.heap.size w wr)
  (λ_ i _=>n-(intOf i).toNat)
 case atStart=>exact⟨0,Nat.zero_le _,rfl,World.ownsRow_nil _ _ _ _,hM0,(Below.refl _ w).alloc (Nat.le_refl _) _⟩
 case round =>
  obtain⟨k,hk,rfl,hown,hM,hnx⟩:=hrel;by_cases hlt:k<n
  ·obtain⟨b,off,rfl,hb,hcl⟩:=hcell (by omega);have hx:∀ j,j<11->wr.cell? ⟨b,off+k*11+j,none⟩=some (acU (x k) j):=λj hj=>(hnx.cell (p:=⟨b,off+k*11+j,none⟩) hb).trans (hcl k hlt j hj)
   have x0:wr.cell? ⟨b,off+k*11,none⟩=some (.int .u8 (x k 0)):=hx 0 (by omega);have x1:wr.cell? ⟨b,off+k*11+1,none⟩=some (.int .u8 (x k 1)):=hx 1 (by omega);have x2:wr.cell? ⟨b,off+k*11+2,none⟩=some (.int .u8 (x k 2)):=hx 2 (by omega);have x3:wr.cell? ⟨b,off+k*11+3,none⟩=some (.int .u8 (x k 3)):=hx 3 (by omega);have x4:wr.cell? ⟨b,off+k*11+4,none⟩=some (.int .u8 (x k 4)):=hx 4 (by omega);have x5:wr.cell? ⟨b,off+k*11+5,none⟩=some (.int .u64 (x k 5)):=hx 5 (by omega);have x6:wr.cell? ⟨b,off+k*11+6,none⟩=some (.int .u64 (x k 6)):=hx 6 (by omega);have x7:wr.cell? ⟨b,off+k*11+7,none⟩=some (.int .u64 (x k 7)):=hx 7 (by omega);have x8:wr.cell? ⟨b,off+k*11+8,none⟩=some (.int .u64 (x k 8)):=hx 8 (by omega);have x9:wr.cell? ⟨b,off+k*11+9,none⟩=some (.int .u64 (x k 9)):=hx 9 (by omega);have x10:wr.cell? ⟨b,off+k*11+10,none⟩=some (.int .u64 (x k 10)):=hx 10 (by omega);clear hx hcl;have hr1:=HR.out k hlt;have HK:=Lib.hid hr1;clear hr1;have q1:(k:Int)<(n:Int):=by omega
   have hfk:=hf k;have hsk:=atP o k;have HS:=Lib.hid (atO o k);have HO:=Lib.hid (atN o k);have hML:=hM.lt;have hbel:vY w wr:=hnx;have hsz:=hnx.size
   have hrow:u5.ownBlock=none\/u5.ownBlock≠some w.heap.size:=by
    cases hv:u5.ownBlock with
    | none=>exact .inl rfl
    | some g=>exact .inr (by have:=(hown.lt g hv).1;simp;omega)
   go_wp2_with (first|(go_at_call 53;(with_reducible refine(ajs _ (hG.bel (vY.alloc hbel _)) w.heap.size (Hq o k) (o k).2.2.2 hsk hfk _ _ _ _ _ _ _ _ _ _ _ (o k).1 (o k).2.1 (o k).2.2.1 (hM.alloc _) HK.out).mono ?_);rintro e w1 ⟨rfl,hM1,hg1⟩;have hs1:=hg1.size;have hown1:=(hown.alloc _).kept hg1 hrow)|(at_builtin;refine wpList_append_own _ rfl (.tmp 15) (.tmp 19) 63 rfl (w.heap.size+1) 41 i0 (.agg #[.int .i64 0,.int .u64 0,.int .u64 0,.int .u8 0]) 4 32 underlying63 hi hz0 hz1 hz2 rfl (by decide) _ _ _ rfl (hown1.alloc _) ⟨w1.heap.size,0,none⟩ 1 1 (LJ (o k)) rfl rfl (atQ _ _ _ _ _ _) (by simp[LJ,Value.oneCell']) (by unfold maxLen;omega) (by omega) (by simp at hs1 ⊢;omega) ?_;intro v' w2 hown2 hgrow _))
   have hrw:∀ g,u5.ownBlock=some g->w.heap.size<=g:=λg hv=>by have:=(hown.lt g hv).1;omega
   have hg2:(w1.alloc (.cells #[.int .i64 (o k).1,.int .u64 (o k).2.1,.int .u64 (o k).2.2.1,.int .u8 ((o k).2.2.2:Int)] 41)).grownBy w2 u5.ownBlock:=hgrow
   go_roundw
   case rel =>
    refine⟨k+1,by omega,by go_num,by rw[HO.out];exact hown2,?_,?_⟩
    ·rw[HS.out];exact(hM1.alloc _).kept hg2 (λe=>by rcases hrow with h|h;rw[h] at e;cases e;exact h e.symm)
    ·exact Below.grown (Below.alloc (Below.grown (Below.alloc hnx hsz _) hg1 (by simp;omega) (λg e=>by cases e;exact Nat.le_refl _)) (by simp at hs1;omega) _) hg2 (by simp at hs1 ⊢;omega) hrw
   case measure=>simp[intOf];omega
  ·obtain rfl:k=n:=by omega
   go_wp2_with (go_at_call 54;(with_reducible refine(ajt wr w.heap.size _ hM).mono ?_);rintro e w' ⟨rfl,rfl⟩)
   go_ret2
   exact⟨_,rfl,hown,hnx⟩
open Go.RowKit FlagM
abbrev kE:List VK:=[kB,kB,kB,kB,kB,kU,kU,kU,kU,kU,kU]
abbrev kO:List VK:=[kI,kU,kU,kB]
def xE (e:List Int) (j:Nat):Int:=if j<5 then IntKind.u8.wrap (wC e j) else IntKind.u64.wrap (wC e j)
def LK (r:List Int):Nat:=(zC .u8 (wC r 3)).toNat
def oE (r:List Int):Out:=(IntKind.i64.wrap (wC r 0),IntKind.u64.wrap (wC r 1),IntKind.u64.wrap (wC r 2),LK r)
theorem ajv (x:Int):0<=IntKind.u8.wrap x/\IntKind.u8.wrap x<=255:=by rw[abQ];exact Ew x
theorem ajw (r:List Int):((LK r:Nat):Int)=IntKind.u8.wrap (wC r 3):=by unfold LK;rw[yJ];have:=(ajv (wC r 3)).1;omega
theorem acV (r:List Int):LK r<=255:=by have h:=ajw r;have:=(ajv (wC r 3)).2;omega
theorem acW {e:List Int} (h:e.length=11):xu kE e=Qw (xE e):=by
 match e,h with
 | [a,b,c,d,f,g,i,j,k,l,m],_=>rfl
theorem ajx {r:List Int} (h:r.length=4):xu kO r=LJ (oE r):=by
 match r,h with
 | [a,b,c,d],_ =>
  have:=ajw [a,b,c,d];simp only[xu,yw,LJ,oE,this];rfl
theorem ajy {e:List Int} (he:e.length=11) (hF:(xw e).length=4):UJ (Qw (xE e)) (oE (xw e)).1 (oE (xw e)).2.1 (oE (xw e)).2.2.1 (oE (xw e)).2.2.2:=by
 intro w hG;have h:=LZ (aeO.ok e he hF) func12 (by kernel_rfl) (by kernel_rfl) w hG
 have h1:xk H8.a e = [.agg (xu kE e).toArray]:=by
  match e,he with
  | [a,b,c,d,f,g,i,j,k,l,m],_=>rfl
 have h2:xU (xk H8.r (xw e)) = .agg (xu kO (xw e)).toArray:=by
  generalize xw e=r at hF
  match r,hF with
  | [a,b,c,d],_=>rfl
 rw[h1,h2,acW he,ajx hF] at h;exact h
theorem ajz {α:Type} (l:List α) (d:α):(List.range l.length).map (λi=>l[i]?.getD d)=l:=by
 refine List.ext_getElem (by simp) λi h1 h2=>?_
 simp at h1 ⊢;simp[h1]
theorem flat_get {α β:Type} (l:List α) (d:α) (g:α->List β):(List.range l.length).flatMap (λi=>g (l[i]?.getD d))=l.flatMap g:=by have:=congrArg (List.flatMap g) (ajz l d);rw[List.flatMap_map] at this;exact this
theorem ajA {g:List Int->List Value} {q:Nat} : ∀ {es:List (List Int)} (hq:∀ e∈es,(g e).length=q) {i j:Nat},i<es.length->j<q->(es.flatMap g)[i*q+j]? = (g (es[i]?.getD []))[j]?
 | [],_,i,j,hi,_=>by simp at hi
 | e::es,hq,0,j,_,hj=>by have h1:=hq e List.mem_cons_self;simp only[List.flatMap_cons,Nat.zero_mul,Nat.zero_add,List.getElem?_cons_zero,Option.getD_some];rw[List.getElem?_append_left (by omega)]
 | e::es,hq,i+1,j,hi,hj=>by have h1:=hq e List.mem_cons_self;have ih:=ajA (λe he=>hq e (List.mem_cons_of_mem _ he)) (i:=i) (j:=j) (es:=es) (by simpa using hi) hj;simp only[List.flatMap_cons,List.getElem?_cons_succ];rw[List.getElem?_append_right (by rw[h1,Nat.add_mul];omega),h1,show(i+1)*q+j-q=i*q+j by rw[Nat.add_mul];omega];exact ih
theorem atU (x:Nat->Int):∀ j,j<11->(Qw x)[j]? = some (acU x j)
 | 0,_=>rfl|1,_=>rfl|2,_=>rfl|3,_=>rfl|4,_=>rfl|5,_=>rfl|6,_=>rfl|7,_=>rfl|8,_=>rfl|9,_=>rfl|10,_=>rfl
 | n+11,h=>by omega
theorem atV {w:World} {v:Value} {es:List (List Int)} (h11:∀ e∈es,e.length=11) (hR:Reads w v es.length (es.flatMap (xu kE))):aju w v es.length λi=>xE (es[i]?.getD []):=by
 rcases hR with⟨rfl,h0,_⟩|⟨b,off,cap,rfl,hb,hc⟩
 ·exact⟨none,0,by rw[h0],λh=>by omega⟩
 ·refine⟨_,cap,rfl,λ_=>⟨b,off,rfl,hb,λi hi j hj=>?_⟩⟩
  have hm:(es[i]?.getD []).length=11:=by rw[List.getElem?_eq_getElem hi,Option.getD_some];exact h11 _ (List.getElem_mem hi)
  have h1:=ajA (g:=xu kE) (q:=11) (es:=es) (λe he=>by rw[acW (h11 e he)];rfl) hi hj;rw[acW hm,atU _ j hj] at h1;rw[Nat.add_assoc];exact hc _ _ h1
theorem atW {w:World} {base t n:Nat} {u:Value} {xs:List Value} {z:Nat} (h:w.ownsRow base t z u n xs) (h0:n=0->xs = []):Reads w u n xs:=by
 rcases h.2 with⟨h1,h2⟩|⟨g,cap,cur,rfl,hb,hg,h3,h4,h5,h6⟩
 ·exact .inl ⟨h1,h2,h0 h2⟩
 ·refine .inr ⟨g,0,cap,rfl,(Array.getElem?_eq_some_iff.1 hg).1,λj x hj=>?_⟩;rw[<- h6,List.getElem?_take] at hj;split at hj
  ·simpa [World.cell?,hg] using hj
  ·cases hj
theorem atX {w:World} {base t n:Nat} {u:Value} {xs:List Value} {z:Nat} (h:w.ownsRow base t z u n xs):∀ b,yR u=some b->base<=b:=λb hv=>by
 rcases h.2 with⟨rfl,h2⟩|⟨g,cap,cur,rfl,hb,_⟩
 ·cases hv
 ·cases hv;exact hb
theorem atY (w:World) (hG:Gl gG w) (v:Value) (es:List (List Int)) (hn:es.length<=1000000000) (h11:∀ e∈es,e.length=11) (hF:∀ e∈es,(xw e).length=4) (hR:Reads w v es.length (es.flatMap (xu kE))) :
  Calls prog 24 #[v] w λen w'=>∃ u,en = .returned (.tuple #[u,.int .u8 (J (es.map λe=>LK (xw e)):Int)])/\Reads w' u es.length (es.flatMap λe=>xu kO (xw e))/\vY w w'/\∀ b,yR u=some b->w.heap.size<=b:=by
 have hm:∀ i,i<es.length->es[i]?.getD []∈es:=λi hi=>by rw[List.getElem?_eq_getElem hi,Option.getD_some];exact List.getElem_mem hi
 have h:=atT w hG v es.length hn (λi=>xE (es[i]?.getD [])) (λi=>oE (xw (es[i]?.getD []))) (atV h11 hR)
  (λi hi=>ajy (h11 _ (hm i hi)) (hF _ (hm i hi))) (λi=>acV _)
 refine h.mono ?_;rintro en w' ⟨u,rfl,hrow,hB⟩
 have e1:Ny (λi=>oE (xw (es[i]?.getD []))) es.length=es.flatMap λe=>xu kO (xw e):=by
  unfold Ny;rw[flat_get es [] (λe=>LJ (oE (xw e)))];have:∀ e∈es,LJ (oE (xw e))=xu kO (xw e):=λe he=>(ajx (hF e he)).symm
  clear hR h hrow hn h11 hF hm
  induction es with
  | nil=>rfl
  | cons a l ih=>rw[List.flatMap_cons,List.flatMap_cons,this a List.mem_cons_self,ih λe he=>this e (List.mem_cons_of_mem _ he)]
 have e2:Hq (λi=>oE (xw (es[i]?.getD []))) es.length=J (es.map λe=>LK (xw e)):=by unfold Hq;congr 1;have:=congrArg (List.map λe=>LK (xw e)) (ajz es []);rw[List.map_map] at this;exact this
 rw[e1] at hrow;rw[e2];refine⟨u,rfl,atW hrow (λh0=>?_),hB,λb hv=>Nat.le_trans (Nat.le_succ _) (atX hrow b hv)⟩;rw[List.length_eq_zero_iff.1 h0];rfl
end Go.Proofs.YtippohicjhilnaaGreatDoor
