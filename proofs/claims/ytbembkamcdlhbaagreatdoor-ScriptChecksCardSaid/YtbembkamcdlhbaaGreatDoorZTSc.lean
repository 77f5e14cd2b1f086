import Derived.Test.YtbembkamcdlhbaaGreatDoorWASc
import Derived.Test.YtbembkamcdlhbaaGreatDoorZ3Sc
import Derived.Test.YtbembkamcdlhbaaGreatDoorZ9Sc
import Derived.StillTailTactics
import Derived.Lib.BufferOwn
import Derived.Laws.AppendOwn
set_option linter.unusedSimpArgs false
set_option linter.unusedVariables false
set_option maxRecDepth 100000
set_option maxHeartbeats 1000000
namespace Go.Proofs.YtbembkamcdlhbaaGreatDoor
open Go.RowKit Go.Shelf FlagM
open Go.Lib (grownBy_trans grownBy_below grownBy_allocR)
attribute [local go_sem] Oper.semAt_some
abbrev tM:TypeId:=94
theorem air (w:World):Calls Tryz.prog 14 #[] w fun e w'=>e = .returned (.pointer (some ⟨w.heap.size,0,none⟩))∧w'=w.alloc (.cells #[.int .u8 0] tM):=by
 go_enter Tryz.func14,Tryz.ntmps14
 go_wp2
 go_ret
 exact⟨rfl,rfl⟩
theorem ais (w:World) (s f:Nat) (hs:s≤255) (hf:f≤255) (c:Nat) (v:Value) (hv:v = .slice (some ⟨w.heap.size,0,none⟩) 2 c) :
  Calls Tryz.prog 104 #[v] (w.alloc (.cells #[.int .u8 (s:Int),.int .u8 (f:Int)] 33)) fun e w'=>e = .returned (.int .u8 (J [s,f]:Int))∧q9 (w.alloc (.cells #[.int .u8 (s:Int),.int .u8 (f:Int)] 33)) w':=by
 subst hv
 exact JN.Join_c _ _ _ (JN.U8s_two w (s:Int) (f:Int) c (by omega) (by omega) (by omega) (by omega))
theorem ait (w:World) (b:Nat) (s f:Nat) (hs:s≤255) (hf:f≤255) (hb:Boxed w b tM (.int .u8 (s:Int))) :
  Calls Tryz.prog 49 #[.pointer (some ⟨b,0,none⟩),.int .u8 (f:Int)] w fun e w'=>(∃ v,e = .returned v)∧Boxed w' b tM (.int .u8 (J [s,f]:Int))∧w.grownBy w' (some b):=by
 have hc:=hb.cell
 have hfr:=hb.frozen
 go_enter Tryz.func49,Tryz.ntmps49
 go_wp2_with (go_at_call 104;(with_reducible refine(ais w s f hs hf _ _ rfl).mono ?_);rintro e w1 ⟨rfl,hB1⟩;have hb1:=(hb.alloc (.cells #[.int .u8 (s:Int),.int .u8 (f:Int)] 33)).kept (row:=none) ⟨Below.os hB1,Below.tape hB1,Below.output hB1,Below.size hB1,fun k hk _=>Below.block hB1 k hk⟩ (by simp);have hc1:=hb1.cell;have hf1:=hb1.frozen)
 go_end0
 refine⟨⟨_,rfl⟩,hb1.set _,?_⟩
 exact grownBy_trans (grownBy_below (grownBy_allocR (World.grownBy.refl w _) _) hB1) (grownBy_setCell' _ _ _)
theorem Le {w:World} {b:Nat} {a0 a1 a2 a3:Value} {t:TypeId} {z:Nat×Nat} (h:w.heap[b]? = some (.cells #[a0,a1,a2,a3] t z)):w.cell? ⟨b,0,none⟩=some a0:=by simp[World.cell?,h]
theorem Lf {w:World} {b:Nat} {a0 a1 a2 a3:Value} {t:TypeId} {z:Nat×Nat} (h:w.heap[b]? = some (.cells #[a0,a1,a2,a3] t z)):w.cell? ⟨b,1,none⟩=some a1:=by simp[World.cell?,h]
theorem Lg {w:World} {b:Nat} {a0 a1 a2 a3:Value} {t:TypeId} {z:Nat×Nat} (h:w.heap[b]? = some (.cells #[a0,a1,a2,a3] t z)):w.cell? ⟨b,2,none⟩=some a2:=by simp[World.cell?,h]
theorem Lh {w:World} {b:Nat} {a0 a1 a2 a3:Value} {t:TypeId} {z:Nat×Nat} (h:w.heap[b]? = some (.cells #[a0,a1,a2,a3] t z)):w.cell? ⟨b,3,none⟩=some a3:=by simp[World.cell?,h]
theorem Ea {w:World} {b:Nat} {c:Array Value} {t:TypeId} (i:Nat) (h:w.heap[b]? = some (.cells c t (0,0))):w.frozen? ⟨b,i,none⟩=false:=by simp[World.frozen?,h]
theorem set1 {w:World} {b i:Nat} {c:Array Value} {t:TypeId} {z:Nat×Nat} (h:w.heap[b]? = some (.cells c t z)) (v:Value):(w.setCell ⟨b,i,none⟩ v).heap[b]? = some (.cells (c.setIfInBounds i v) t z):=by
 show(w.heap.modify b _)[b]? = _
 rw[Array.getElem?_modify,if_pos rfl,h]
 rfl
theorem Zo {w:World} {b:Nat} {a0 a1 a2 a3:Value} {t:TypeId} {z:Nat×Nat} (h:w.heap[b]? = some (.cells #[a0,a1,a2,a3] t z)) (x0 x1 x2 x3:Value) :
  ((((w.setCell ⟨b,0,none⟩ x0).setCell ⟨b,1,none⟩ x1).setCell ⟨b,2,none⟩ x2).setCell ⟨b,3,none⟩ x3).heap[b]? = some (.cells #[x0,x1,x2,x3] t z):=by
 exact set1 (set1 (set1 (set1 h x0) x1) x2) x3
theorem Zp (w:World) (b:Nat) (x0 x1 x2 x3:Value):w.grownBy ((((w.setCell ⟨b,0,none⟩ x0).setCell ⟨b,1,none⟩ x1).setCell ⟨b,2,none⟩ x2).setCell ⟨b,3,none⟩ x3) (some b) :=
 grownBy_trans (grownBy_trans (grownBy_trans (Go.Lib.grownBy_setCell _ _ _ _) (Go.Lib.grownBy_setCell _ _ _ _)) (Go.Lib.grownBy_setCell _ _ _ _)) (Go.Lib.grownBy_setCell _ _ _ _)
def NQ (cs:List Value) (E Hi Lo:Int) (f:Nat):Prop :=
 ∀ w,Gl gG w→Calls Tryz.prog 22 #[.agg cs.toArray] w fun e w'=>e = .returned (.agg #[.int .i64 E,.int .u64 Hi,.int .u64 Lo,.int .u8 (f:Int)])∧q9 w w'
abbrev NR (E Hi Lo:Int) (f:Nat):Value:=.agg #[.int .i64 E,.int .u64 Hi,.int .u64 Lo,.int .u8 (f:Int)]
theorem aiu (w:World) (hG:Gl gG w) (b:Nat) (s f:Nat) (hs:s≤255) (hf:f≤255) (x0 x1 x2 x3 x4 x5 x6 x7 x8 x9 x10:Value) (E Hi Lo:Int) (hb:Boxed w b tM (.int .u8 (s:Int))) (hrun:NQ [x0,x1,x2,x3,x4,x5,x6,x7,x8,x9,x10] E Hi Lo f) :
  Calls Tryz.prog 17 #[.pointer (some ⟨b,0,none⟩),.agg #[x0,x1,x2,x3,x4,x5,x6,x7,x8,x9,x10]] w fun e w'=>e = .returned (NR E Hi Lo f)∧Boxed w' b tM (.int .u8 (J [s,f]:Int))∧w.grownBy w' (some b):=by
 unfold NQ at hrun
 have H:=Lib.hid hrun
 clear hrun
 go_enter Tryz.func17,Tryz.ntmps17
 go_wp2_with (go_at_call 22;(with_reducible refine(H.out _ (hG.bel (((q9.refl w).alloc _).alloc _))).mono ?_);rintro e w1 ⟨rfl,hB1⟩)
 have hR1:w1.heap[w.heap.size+1]? = some (Obj.cells #[Value.int IntKind.i64 0,Value.int IntKind.u64 0,Value.int IntKind.u64 0,Value.int IntKind.u8 0] 39):=by
  rw[Below.block hB1 _ (by simp)]
  have:=World.alloc_heap_new (w.alloc (Obj.cells #[x0,x1,x2,x3,x4,x5,x6,x7,x8,x9,x10] 29)) (Obj.cells #[Value.int IntKind.i64 0,Value.int IntKind.u64 0,Value.int IntKind.u64 0,Value.int IntKind.u8 0] 39)
  rwa [show(w.alloc (Obj.cells #[x0,x1,x2,x3,x4,x5,x6,x7,x8,x9,x10] 29)).heap.size=w.heap.size+1 by simp] at this
 have hB2:q9 w w1:=(((q9.refl w).alloc _).alloc _).trans hB1
 have hs1:=Below.size hB1
 have hb1:Boxed w1 b tM (.int .u8 (s:Int)):=(Below.block hB2 b hb.lt).trans hb
 have hW:(w1.alloc (Obj.cells #[Value.int IntKind.i64 E,Value.int IntKind.u64 Hi,Value.int IntKind.u64 Lo,Value.int IntKind.u8 ↑f] 39)).heap[w1.heap.size]? = some (Obj.cells #[Value.int IntKind.i64 E,Value.int IntKind.u64 Hi,Value.int IntKind.u64 Lo,Value.int IntKind.u8 ↑f] 39):=World.alloc_heap_new _ _
 have hB3:=hB2.alloc (Obj.cells #[Value.int IntKind.i64 E,Value.int IntKind.u64 Hi,Value.int IntKind.u64 Lo,Value.int IntKind.u8 ↑f] 39)
 have hb2:=hb1.alloc (Obj.cells #[Value.int IntKind.i64 E,Value.int IntKind.u64 Hi,Value.int IntKind.u64 Lo,Value.int IntKind.u8 ↑f] 39)
 have hlt:=hb1.lt
 have hbw:=hb.lt
 have hR2:=(Below.block (Below.alloc (Below.refl _ w1) (Nat.le_refl _) (Obj.cells #[Value.int IntKind.i64 E,Value.int IntKind.u64 Hi,Value.int IntKind.u64 Lo,Value.int IntKind.u8 ↑f] 39)) (w.heap.size+1) (by simp at hs1;omega)).trans hR1
 have hold:(w1.alloc (Obj.cells #[Value.int IntKind.i64 E,Value.int IntKind.u64 Hi,Value.int IntKind.u64 Lo,Value.int IntKind.u8 ↑f] 39)).heap.size=w1.heap.size+1:=by simp
 generalize w1.alloc (Obj.cells #[Value.int IntKind.i64 E,Value.int IntKind.u64 Hi,Value.int IntKind.u64 Lo,Value.int IntKind.u8 ↑f] 39)=W at *
 have hq:({ W with drawn:=W.drawn+1 } : World).cell? ⟨w1.heap.size,3,none⟩=some (.int .u8 (f:Int)):=by simp[World.cell?,hW]
 have hq2:W.cell? ⟨w1.heap.size,3,none⟩=some (.int .u8 (f:Int)):=by simp[World.cell?,hW]
 go_still_tail 5,(by kernel_rfl)
 change wpList _ _ _ _ _ W.drew
 have hb3:Boxed W.drew b tM (.int .u8 (s:Int)):=hb2
 have hB4:q9 w W.drew:=hB3.drew
 have hW4:W.drew.heap[w1.heap.size]? = some (Obj.cells #[Value.int IntKind.i64 E,Value.int IntKind.u64 Hi,Value.int IntKind.u64 Lo,Value.int IntKind.u8 ↑f] 39):=hW
 have hs4:W.drew.heap.size=w1.heap.size+1:=hold
 have hR4:W.drew.heap[w.heap.size+1]? = some (Obj.cells #[Value.int IntKind.i64 0,Value.int IntKind.u64 0,Value.int IntKind.u64 0,Value.int IntKind.u8 0] 39):=hR2
 generalize W.drew=W4 at *
 simp at hs1
 have kb5:∀ (w5:World) k o,W4.grownBy w5 (some b)→k≠b→W4.heap[k]? = some o→w5.heap[k]? = some o:=fun w5 k o hg hk ho=>(hg.block k (Array.getElem?_eq_some_iff.1 ho).1 (by simpa using hk)).trans ho
 go_wp2_with (go_at_call 49;(with_reducible refine(ait W4 b s f hs hf hb3).mono ?_);rintro e w5 ⟨⟨v,rfl⟩,hb5,hg5⟩;have hW5:=kb5 w5 _ _ hg5 (by omega) hW4;have hR5:=kb5 w5 _ _ hg5 (by omega) hR4;have c0:=Le hW5;have c1:=Lf hW5;have c2:=Lg hW5;have c3:=Lh hW5;have e0:=Le hR5;have e1:=Lf hR5;have e2:=Lg hR5;have e3:=Lh hR5;have d0:=Ea 0 hR5;have d1:=Ea 1 hR5;have d2:=Ea 2 hR5;have d3:=Ea 3 hR5)
 have h6:=Zo hR5 (.int .i64 E) (.int .u64 Hi) (.int .u64 Lo) (.int .u8 (f:Int))
 have g6:=Zp w5 (w.heap.size+1) (.int .i64 E) (.int .u64 Hi) (.int .u64 Lo) (.int .u8 (f:Int))
 generalize (((w5.setCell ⟨w.heap.size+1,0,none⟩ (.int .i64 E)).setCell ⟨w.heap.size+1,1,none⟩ (.int .u64 Hi)).setCell ⟨w.heap.size+1,2,none⟩ (.int .u64 Lo)).setCell ⟨w.heap.size+1,3,none⟩ (.int .u8 (f:Int))=W6 at *
 have r0:=Le h6
 have r1:=Lf h6
 have r2:=Lg h6
 have r3:=Lh h6
 refine bodyPost_ret (v:=NR E Hi Lo f) (by simp[results,Tryz.results17,go_sem,r0,r1,r2,r3]) rfl ⟨rfl,hb5.kept g6 (by simp;omega),?_⟩
 refine⟨g6.os.trans (hg5.os.trans (Below.os hB4)),g6.tape.trans (hg5.tape.trans (Below.tape hB4)),g6.output.trans (hg5.output.trans (Below.output hB4)),Nat.le_trans (Below.size hB4) (Nat.le_trans hg5.size g6.size),fun k hk hne=>?_⟩
 have k4:k<W4.heap.size:=Nat.lt_of_lt_of_le hk (Below.size hB4)
 rw[g6.block k (Nat.lt_of_lt_of_le k4 hg5.size) (by simp;omega),hg5.block k k4 hne]
 exact Below.block hB4 k hk
open Go.RowKit Go.Shelf FlagM
open Go.Lib (grownBy_trans grownBy_below grownBy_allocR)
attribute [local go_sem] Oper.semAt_some
theorem aiv (w:World) (b:Nat) (s:Int) (hb:Boxed w b tM (.int .u8 s)):Calls Tryz.prog 19 #[.pointer (some ⟨b,0,none⟩)] w fun e w'=>e = .returned (.int .u8 s)∧w=w':=by
 have hc:=hb.cell
 go_enter Tryz.func19,Tryz.ntmps19
 go_wp2
 go_ret
 exact⟨rfl,rfl⟩
abbrev Out:=Int×Int×Int×Nat
def Zq (o:Out):List Value:=[.int .i64 o.1,.int .u64 o.2.1,.int .u64 o.2.2.1,.int .u8 (o.2.2.2:Int)]
abbrev NS (x:Nat→Int):List Value:=[.int .u8 (x 0),.int .u8 (x 1),.int .u8 (x 2),.int .u8 (x 3),.int .u8 (x 4),.int .u64 (x 5),.int .u64 (x 6),.int .u64 (x 7),.int .u64 (x 8),.int .u64 (x 9),.int .u64 (x 10)]
open Go.RowKit FlagM
abbrev kE:List VK:=[kB,kB,kB,kB,kB,kU,kU,kU,kU,kU,kU]
abbrev kO:List VK:=[kI,kU,kU,kB]
def xE (e:List Int) (j:Nat):Int:=if j<5 then IntKind.u8.wrap (rE e j) else IntKind.u64.wrap (rE e j)
def NT (r:List Int):Nat:=(uP .u8 (rE r 3)).toNat
def oE (r:List Int):Out:=(IntKind.i64.wrap (rE r 0),IntKind.u64.wrap (rE r 1),IntKind.u64.wrap (rE r 2),NT r)
theorem Zr (x:Int):0≤IntKind.u8.wrap x∧IntKind.u8.wrap x≤255:=by
 rw[Yh];exact NF x
theorem Zt (r:List Int):((NT r:Nat):Int)=IntKind.u8.wrap (rE r 3):=by
 unfold NT;rw[um];have:=(Zr (rE r 3)).1;omega
theorem Zu (r:List Int):NT r≤255:=by
 have h:=Zt r;have:=(Zr (rE r 3)).2;omega
theorem aiw {e:List Int} (h:e.length=11):sP kE e=NS (xE e):=by
 match e,h with
 | [a,b,c,d,f,g,i,j,k,l,m],_=>rfl
theorem aix {r:List Int} (h:r.length=4):sP kO r=Zq (oE r):=by
 match r,h with
 | [a,b,c,d],_ =>
  have:=Zt [a,b,c,d]
  simp only[sP,tQ,Zq,oE,this]
  rfl
theorem aiy {e:List Int} (he:e.length=11) (hF:(tY e).length=4):NQ (NS (xE e)) (oE (tY e)).1 (oE (tY e)).2.1 (oE (tY e)).2.2.1 (oE (tY e)).2.2.2:=by
 intro w hG
 have h:=Ef (aaV.ok e he hF) Tryz.func22 (by kernel_rfl) (by kernel_rfl) w hG
 have h1:rV BJ.a e = [.agg (sP kE e).toArray]:=by
  match e,he with
  | [a,b,c,d,f,g,i,j,k,l,m],_=>rfl
 have h2:sW (rV BJ.r (tY e)) = .agg (sP kO (tY e)).toArray:=by
  generalize tY e=r at hF
  match r,hF with
  | [a,b,c,d],_=>rfl
 rw[h1,h2,aiw he,aix hF] at h
 exact h
end Go.Proofs.YtbembkamcdlhbaaGreatDoor
