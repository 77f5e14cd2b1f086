import Derived.Test.YtbembkamcdlhbaaGreatDoorZ5Sb
import Derived.Test.YtbembkamcdlhbaaGreatDoorZ7Sb
import Derived.Deep.RegionHeld3
import Derived.Lib.AppendIntMem
set_option linter.unusedSimpArgs false
set_option linter.unusedVariables false
set_option maxRecDepth 100000
set_option maxHeartbeats 4000000
namespace Go.Proofs.YtbembkamcdlhbaaGreatDoor.Sp
open Go.RowKit Go.Shelf FlagM
open Go.Lib (grownBy_trans grownBy_below grownBy_allocR)
attribute [local go_sem] Oper.semAt_some
theorem ajO (w:World) (b:Nat) (s:Int) (hb:Boxed w b tM (.int .u8 s)):Calls Tryz.prog 18 #[.pointer (some ⟨b,0,none⟩)] w fun e w'=>(∃ v,e = .returned v)∧Boxed w' b tM (.int .u8 0)∧w.grownBy w' (some b):=by
 have hc:=hb.cell
 have hf:=hb.frozen
 go_enter Tryz.func18,Tryz.ntmps18
 go_wp2
 go_end0
 exact⟨⟨_,rfl⟩,hb.set _,grownBy_setCell' _ _ _⟩
def Quiet (w:World) (bp bM:Nat) (st:St) (e:Ending) (w':World):Prop:=(∃ v,e = .returned v)∧vE w' bp bM st∧uq (fun k=>k=bp∨k=bM) w w'
theorem ajP (w:World) (bp bM:Nat) (st:St) (hp:vE w bp bM st):Calls Tryz.prog 284 #[.pointer (some ⟨bp,0,none⟩)] w (Quiet w bp bM (0,st.2.1,st.2.2)):=by
 obtain⟨p0,p1,p2⟩:=KY hp
 have H:=Lib.hid (ajO w bM _ hp.2.1)
 have lp:=(Array.getElem?_eq_some_iff.1 hp.1).1
 go_enter Tryz.func284,Tryz.ntmps284
 go_wp2_with (go_at_call 18;refine H.out.mono ?_;rintro e w1 ⟨⟨v,rfl⟩,hM,hg⟩)
 go_end0
 exact⟨⟨_,rfl⟩,⟨(hg.block _ lp (fun e=>hp.2.2 (Option.some.inj e))).trans hp.1,hM,hp.2.2⟩,uq.of_grown hg (fun k e=>.inl (.inr (Option.some.inj e).symm))⟩
theorem ajQ (w:World) (bp bM B1 B2:Nat) (st:St) (m t:Int) (hp:vE w bp bM st) (h1:w.heap[B1]? = some (.cells #[.int .u8 m] 5)) (h2:w.heap[B2]? = some (.cells #[.int .u8 t] 5)) (hne:B1≠bp∧B2≠bp) :
  Calls Tryz.prog 282 #[.pointer (some ⟨bp,0,none⟩),.pointer (some ⟨B1,0,none⟩),.pointer (some ⟨B2,0,none⟩)] w (Quiet w bp bM (st.1,m,t)):=by
 obtain⟨p0,p1,p2⟩:=KY hp
 have c1:w.cell? ⟨B1,0,none⟩=some (.int .u8 m):=by simp[World.cell?,h1]
 have c2:w.cell? ⟨B2,0,none⟩=some (.int .u8 t):=by simp[World.cell?,h2]
 have f1:w.frozen? ⟨bp,1,none⟩=false:=by simp[World.frozen?,hp.1]
 have f2:w.frozen? ⟨bp,2,none⟩=false:=by simp[World.frozen?,hp.1]
 have n1:=hne.1
 have n2:=hne.2
 have lM:=hp.2.1.lt
 have hq:Quiet w bp bM (st.1,m,t) (.returned (.tuple #[])) ((w.setCell ⟨bp,1,none⟩ (.int .u8 m)).setCell ⟨bp,2,none⟩ (.int .u8 t)).drew:=by
  have g1:=um w bp 1 (.int .u8 m)
  have g2:=um (w.setCell ⟨bp,1,none⟩ (.int .u8 m)) bp 2 (.int .u8 t)
  have g3:=grownBy_trans g1 g2
  have s2:=uA (i:=2) (uA (i:=1) hp.1 (.int .u8 m)) (.int .u8 t)
  exact⟨⟨_,rfl⟩,⟨s2,(g3.block _ lM (fun e=>hp.2.2 (Option.some.inj e).symm)).trans hp.2.1,hp.2.2⟩,uq.of_grown (grownBy_trans g3 (Bv _ _)) (fun k e=>.inl (.inl (Option.some.inj e).symm))⟩
 go_enter Tryz.func282,Tryz.ntmps282
 go_wp2_with fail
 go_region_with fail
 all_goals go_end0
 all_goals exact⟨⟨_,rfl⟩,hq.2⟩
theorem ajR (w:World) (bp bM:Nat) (st:St) (hN:JN.NamesAt w) (hp:vE w bp bM st) (hs:st.1<32):Calls Tryz.prog 286 #[.pointer (some ⟨bp,0,none⟩)] w fun e w'=>e = .returned (.tuple #[.string ⟨(wR ((st.1%32:Nat):Int)).toArray⟩,.int .i64 0])∧rq w w':=by
 obtain⟨p0,p1,p2⟩:=KY hp
 rw[Nat.mod_eq_of_lt hs]
 have H:=Lib.hid (ZQ w (st.1:Int) (by omega) (by omega) hN)
 go_enter Tryz.func286,Tryz.ntmps286
 go_wp2_with (first|(go_at_call 19;refine(ahT w bM _ hp.2.1).mono ?_;rintro e w1 ⟨rfl,rfl⟩)|(go_at_call 287;refine H.out.mono ?_;rintro e w2 ⟨rfl,hB⟩))
 go_ret2
 exact⟨rfl,hB⟩
open Go.RowKit Go.Shelf FlagM
open Go.Lib (grownBy_trans grownBy_below grownBy_allocR)
attribute [local go_sem] Oper.semAt_some
theorem ajS (a:Sc.By) (x:UInt8) (b:Sc.By):(⟨(a++x::b).toArray⟩:ByteArray)=⟨a.toArray⟩++⟨#[x]⟩++⟨b.toArray⟩:=by
 apply ByteArray.ext
 simp
theorem Sg {w W X V:World} {bp bM B:Nat} {st':St} {r:Out} {l:Sc.By} {sA:ByteArray} (hcat:(⟨l.toArray⟩:ByteArray)=sA) (hX3:vE X bp bM st') (hk1:uq (fun k=>k=bp∨k=bM∨k=B) w W) (hX4:uq (fun k=>k=bM) W X) (hB:rq X V) :
  Ending.returned (.tuple #[.string sA,.int .i64 r.1]) = .returned (.tuple #[.string ⟨l.toArray⟩,.int .i64 r.1])∧vE V bp bM st'∧uq (fun k=>k=bp∨k=bM∨k=B) w V:=by
 refine⟨by rw[hcat],hX3.kept (Below.block hB _ (Array.getElem?_eq_some_iff.1 hX3.1).1) (Below.block hB _ hX3.2.1.lt),?_⟩
 refine uq.trans hk1 (uq.trans ⟨hX4.1,hX4.2.1,hX4.2.2.1,hX4.2.2.2.1,fun k hk hs=>hX4.2.2.2.2 k hk (fun e=>hs (.inr (.inl e)))⟩ (uq.of_bel hB))
def Cu (X:World) (B R:Nat) (o f t m i:Int) (a b c:Int×Int) (r:Out) (V:World):Prop:=rq X V∧V.cell? ⟨B,0,none⟩=some (.int .u8 o)∧V.cell? ⟨B,1,none⟩=some (.int .u8 f)∧V.cell? ⟨B,2,none⟩=some (.int .u8 t)∧V.cell? ⟨B,3,none⟩=some (.int .u8 m)∧V.cell? ⟨B,4,none⟩=some (.int .u8 i)∧V.cell? ⟨B,5,none⟩=some (.int .u64 a.1)∧V.cell? ⟨B,6,none⟩=some (.int .u64 a.2)∧V.cell? ⟨B,7,none⟩=some (.int .u64 b.1)∧V.cell? ⟨B,8,none⟩=some (.int .u64 b.2)∧V.cell? ⟨B,9,none⟩=some (.int .u64 c.1)∧V.cell? ⟨B,10,none⟩=some (.int .u64 c.2)∧V.cell? ⟨R,0,none⟩=some (.int .i64 r.1)∧V.cell? ⟨R,1,none⟩=some (.int .u64 r.2.1)∧V.cell? ⟨R,2,none⟩=some (.int .u64 r.2.2.1)∧V.cell? ⟨R,3,none⟩=some (.int .u8 (r.2.2.2:Int))
theorem Cu.bel {X:World} {B R:Nat} {o f t m i:Int} {a b c:Int×Int} {r:Out} {V V':World} (h:Cu X B R o f t m i a b c r V) (hB:rq V V'):Cu X B R o f t m i a b c r V':=by
 obtain⟨h0,h1,h2,h3,h4,h5,h6,h7,h8,h9,h10,h11,h12,h13,h14,h15⟩:=h
 exact⟨rq.trans h0 hB,(hB.cell _ _ (vF h1)).trans h1,(hB.cell _ _ (vF h2)).trans h2,(hB.cell _ _ (vF h3)).trans h3,(hB.cell _ _ (vF h4)).trans h4,(hB.cell _ _ (vF h5)).trans h5,(hB.cell _ _ (vF h6)).trans h6,(hB.cell _ _ (vF h7)).trans h7,(hB.cell _ _ (vF h8)).trans h8,(hB.cell _ _ (vF h9)).trans h9,(hB.cell _ _ (vF h10)).trans h10,(hB.cell _ _ (vF h11)).trans h11,(hB.cell _ _ (vF h12)).trans h12,(hB.cell _ _ (vF h13)).trans h13,(hB.cell _ _ (vF h14)).trans h14,(hB.cell _ _ (vF h15)).trans h15⟩
theorem ajT (w0 w:World) (hG:Gl gG w0) (hN:JN.NamesAt w0) (hb0:rq w0 w) (B bp bM:Nat) (hge:w0.heap.size≤bp∧w0.heap.size≤bM∧w0.heap.size≤B) (o f t:Int) (a b c:Int×Int) (st:St) (hp:vE w bp bM st) (hB:w.heap[B]? = some (.cells (uG o f t 0 0 a b c) 29)) (hne:B≠bp∧B≠bM) (hw:zW (.op o f t a b c)) (hs:Fj st) :
  Calls Tryz.prog 333 #[.pointer (some ⟨bp,0,none⟩),.pointer (some ⟨B,0,none⟩)] w fun e w'=>e = .returned (.tuple #[.string ⟨(act (.op o f t a b c) st).1.1.toArray⟩,.int .i64 (act (.op o f t a b c) st).1.2])∧vE w' bp bM (act (.op o f t a b c) st).2∧uq (fun k=>k=bp∨k=bM∨k=B) w w':=by
 obtain⟨p0,p1,p2⟩:=KY hp
 have f3:w.frozen? ⟨B,3,none⟩=false:=by simp[World.frozen?,hB]
 have f4:w.frozen? ⟨B,4,none⟩=false:=by simp[World.frozen?,hB]
 have e3:w.cell? ⟨B,3,none⟩=some (.int .u8 0):=by simp[World.cell?,hB]
 have e4:w.cell? ⟨B,4,none⟩=some (.int .u8 0):=by simp[World.cell?,hB]
 have q1:bp≠B:=fun h=>hne.1 h.symm
 have hrun:=ajG o f t st.2.1 st.2.2 a b c hw.1 hw.2.1 hw.2.2.1 hs.2.1 hs.2.2 hw.2.2.2.1 hw.2.2.2.2.1 hw.2.2.2.2.2
 have hfl:(oE (sQ [o,f,t,st.2.1,st.2.2,a.1,a.2,b.1,b.2,c.1,c.2])).2.2.2≤255:=YS _
 simp only[act]
 generalize oE (sQ [o,f,t,st.2.1,st.2.2,a.1,a.2,b.1,b.2,c.1,c.2])=r at *
 go_enter Tryz.func333,Tryz.ntmps333
 go_wp2_with fail
 rename_i Q K hK
 have key:∀ W,Z8 w B bp bM o f t a b c st W→Exit.then K Q Exit.normal { tmps:=#[.pointer (some ⟨bp,0,none⟩),.pointer (some ⟨B,0,none⟩),undef,.string ⟨#[]⟩,.int .i64 0,undef,.pointer (some ⟨bp,0,none⟩),.pointer (some ⟨bp,0,none⟩),.pointer (some ⟨bp,1,none⟩),.int .u8 st.2.1,.pointer (some ⟨bp,0,none⟩),.pointer (some ⟨bp,0,none⟩),.pointer (some ⟨bp,2,none⟩),.int .u8 st.2.2,.pointer (some ⟨B,3,none⟩),.pointer (some ⟨B,4,none⟩),undef,undef,undef,undef,undef,undef,undef,undef,undef,undef,undef,undef,undef,undef,undef,undef,undef],defers:=[] } W:=by
  intro W hF
  obtain⟨hB1,hp1,hk1⟩:=hF
  have hge2:=hne
  have hb1:rq w0 W:=Sa hb0 hk1 (fun k hk=>by rcases hk with rfl|rfl|rfl<;>omega)
  obtain⟨p0,p1,p2⟩:=KY hp1
  obtain⟨x0,x1,x2,x3,x4,x5,x6,x7,x8,x9,x10⟩:=Sb hB1
  obtain⟨y0,y1,y2,y3,y4,y5,y6,y7,y8,y9,y10⟩:=Sb (alloc_at hB1 (Obj.cells #[Value.int IntKind.i64 0,Value.int IntKind.u64 0,Value.int IntKind.u64 0,Value.int IntKind.u8 0] 39))
  have p5:(W.alloc (Obj.cells #[Value.int IntKind.i64 0,Value.int IntKind.u64 0,Value.int IntKind.u64 0,Value.int IntKind.u8 0] 39)).cell? ⟨bp,0,none⟩=some (.pointer (some ⟨bM,0,none⟩)):=by have:=alloc_at hp1.1 (Obj.cells #[Value.int IntKind.i64 0,Value.int IntKind.u64 0,Value.int IntKind.u64 0,Value.int IntKind.u8 0] 39);simp only[World.cell?,this];rfl
  have lM:=hp1.2.1.lt
  have HD:Hid (∀ X,rq W X→Calls Tryz.prog 17 #[.pointer (some ⟨bM,0,none⟩),.agg (uG o f t st.2.1 st.2.2 a b c)] X fun e X'=>e = .returned (Nn r.1 r.2.1 r.2.2.1 r.2.2.2)∧Boxed X' bM tM (.int .u8 (J [st.1,r.2.2.2]:Int))∧X.grownBy X' (some bM)):=Lib.hid fun X hX =>
   ahS X (hG.bel (rq.trans hb1 hX)) bM st.1 r.2.2.2 (by have:=hs.1;omega) hfl _ _ _ _ _ _ _ _ _ _ _ r.1 r.2.1 r.2.2.1 ((Below.block hX bM lM).trans hp1.2.1) hrun
  go_wp2_with fail
  rename_i K2 hK2
  have key2:∀ (R:Nat) X,Sd W B bp bM R o f t a b c st r X→Exit.then K2 Q Exit.normal { tmps:=#[.pointer (some ⟨bp,0,none⟩),.pointer (some ⟨B,0,none⟩),undef,.string ⟨#[]⟩,.int .i64 0,.pointer (some ⟨R,0,none⟩),.pointer (some ⟨bp,0,none⟩),.pointer (some ⟨bp,0,none⟩),.pointer (some ⟨bp,1,none⟩),.int .u8 st.2.1,.pointer (some ⟨bp,0,none⟩),.pointer (some ⟨bp,0,none⟩),.pointer (some ⟨bp,2,none⟩),.int .u8 st.2.2,.pointer (some ⟨B,3,none⟩),.pointer (some ⟨B,4,none⟩),.pointer (some ⟨bp,0,none⟩),.pointer (some ⟨bp,0,none⟩),.pointer (some ⟨bp,0,none⟩),.pointer (some ⟨bM,0,none⟩),.agg (uG o f t st.2.1 st.2.2 a b c),Nn r.1 r.2.1 r.2.2.1 r.2.2.2,undef,undef,undef,undef,undef,undef,undef,undef,undef,undef,undef],defers:=[] } X:=by
   intro R X hX
   obtain⟨hX1,hX2,hX3,hX4⟩:=hX
   have hb2:rq w0 X:=Sa hb1 hX4 (fun k hk=>by rw[hk];exact hge.2.1)
   obtain⟨z0,z1,z2,z3,z4,z5,z6,z7,z8,z9,z10⟩:=Sb hX1
   have r0:=KG hX2
   have r1:=KH hX2
   have r2:=KI hX2
   have r3:=KJ hX2
   have HA:=Lib.hid (fun V (hV:Cu X B R o f t st.2.1 st.2.2 a b c r V)=>(ajK V (hG.bel (rq.trans hb2 hV.1)) o f t st.2.1 st.2.2 (r.2.1,r.2.2.1) a b c hw.1 hw.2.1 hw.2.2.1).mono fun e V' (hh:e = .returned (.string ⟨(wS o f t (r.2.1,r.2.2.1)).toArray⟩)∧rq V V')=>(⟨hh.1,hV.bel hh.2⟩:e = .returned (.string ⟨(wS o f t (r.2.1,r.2.2.1)).toArray⟩)∧Cu X B R o f t st.2.1 st.2.2 a b c r V'))
   have HT:=Lib.hid (fun V (hV:Cu X B R o f t st.2.1 st.2.2 a b c r V)=>(ZQ V (r.2.2.2:Int) (by omega) (by omega) (hN.bel (rq.trans hb2 hV.1))).mono fun e V' (hh:e = .returned (.string ⟨(wR (r.2.2.2:Int)).toArray⟩)∧rq V V')=>(⟨hh.1,hV.bel hh.2⟩:e = .returned (.string ⟨(wR (r.2.2.2:Int)).toArray⟩)∧Cu X B R o f t st.2.1 st.2.2 a b c r V'))
   have hS0:Cu X B R o f t st.2.1 st.2.2 a b c r X:=⟨rq.refl X,z0,z1,z2,z3,z4,z5,z6,z7,z8,z9,z10,r0,r1,r2,r3⟩
   have k0:=hS0.1
   unfold Cu at HA HT hS0
   obtain⟨sA,hsA⟩:∃ sA:ByteArray,sA=⟨(wS o f t (r.2.1,r.2.2.1)).toArray⟩:=⟨_,rfl⟩
   obtain⟨sT,hsT⟩:∃ sT:ByteArray,sT=⟨(wR (r.2.2.2:Int)).toArray⟩:=⟨_,rfl⟩
   have lA:sA.size≤32:=by rw[hsA];exact(ZX o f t (r.2.1,r.2.2.1)).2
   have lT:sT.size≤60:=by rw[hsT];exact(R9 (r.2.2.2:Int) (by omega) (by omega)).1
   have q1:¬ (sA.size+1>9223372036854775807):=by omega
   have q2:¬ (sA.size+1+sT.size>9223372036854775807):=by omega
   have hcat:(⟨(wS o f t (r.2.1,r.2.2.1)++32::wR (r.2.2.2:Int)).toArray⟩:ByteArray)=sA++⟨#[32]⟩++sT:=by
    rw[hsA,hsT];exact ajS _ _ _
   rw[← hsA] at HA
   rw[← hsT] at HT
   have hcat:=Lib.hid hcat
   clear hsA hsT
   go_wp2_with fail
   go_region_held3 (fun V=>rq X V∧V.cell? ⟨B,0,none⟩=some (.int .u8 o)∧V.cell? ⟨B,1,none⟩=some (.int .u8 f)∧V.cell? ⟨B,2,none⟩=some (.int .u8 t)∧V.cell? ⟨B,3,none⟩=some (.int .u8 st.2.1)∧V.cell? ⟨B,4,none⟩=some (.int .u8 st.2.2)∧V.cell? ⟨B,5,none⟩=some (.int .u64 a.1)∧V.cell? ⟨B,6,none⟩=some (.int .u64 a.2)∧V.cell? ⟨B,7,none⟩=some (.int .u64 b.1)∧V.cell? ⟨B,8,none⟩=some (.int .u64 b.2)∧V.cell? ⟨B,9,none⟩=some (.int .u64 c.1)∧V.cell? ⟨B,10,none⟩=some (.int .u64 c.2)∧V.cell? ⟨R,0,none⟩=some (.int .i64 r.1)∧V.cell? ⟨R,1,none⟩=some (.int .u64 r.2.1)∧V.cell? ⟨R,2,none⟩=some (.int .u64 r.2.2.1)∧V.cell? ⟨R,3,none⟩=some (.int .u8 (r.2.2.2:Int))) (first|exact hS'|((try dsimp only);(repeat' apply And.intro)<;>first|assumption|exact k0.drew|go_keep))
    (first|(go_at_call 334;refine(HA.out _ (by assumption)).mono ?_;rintro e w' ⟨rfl,hS'⟩)|(go_at_call 287;refine(HT.out _ (by assumption)).mono ?_;rintro e w' ⟨rfl,hS'⟩))
   all_goals go_wp2
   all_goals go_ret2
   all_goals first|(rename_i hS;have z:=Sg (r:=r) hcat.out hX3 hk1 hX4 hS.1;exact z)|(rename_i hS _;have z:=Sg (r:=r) hcat.out hX3 hk1 hX4 hS.1;exact z)|(rename_i hS _ _;have z:=Sg (r:=r) hcat.out hX3 hk1 hX4 hS.1;exact z)
  go_region_with (go_at_call 17;refine(HD.out _ (by first|exact(rq.refl _).drew|exact((rq.refl _).alloc _).drew)).mono ?_;rintro e w1 ⟨rfl,hM1,hg1⟩;first|(have hR1:=(hg1.block W.heap.size (by simp) (by intro e;have:=Option.some.inj e;omega)).trans (show _=some (Obj.cells #[Value.int IntKind.i64 0,Value.int IntKind.u64 0,Value.int IntKind.u64 0,Value.int IntKind.u8 0] 39) from World.alloc_heap_new W _);have c0:=KG hR1;have c1:=KH hR1;have c2:=KI hR1;have c3:=KJ hR1;have d0:=DC 0 hR1;have d1:=DC 1 hR1;have d2:=DC 2 hR1;have d3:=DC 3 hR1)|skip)
  all_goals refine key2 _ _ ?_
  all_goals first|(have z:=ajN (st:=st) (r:=r) hB1 hp1 hge2 hM1 hg1 hR1;exact z)|(have z:=ajM (st:=st) (r:=r) hB1 hp1 hge2 hM1 hg1;exact z)
 go_region_with fail
 all_goals exact key _ (filled hp hB hne)
open Go.RowKit Go.Shelf FlagM
open Go.Lib (grownBy_trans grownBy_below grownBy_allocR)
attribute [local go_sem] Oper.semAt_some
def Z9 (w:World) (bp bM a b:Nat) (c:sS) (st:St) (e:Ending) (w':World):Prop :=
 e = .returned (.tuple #[.string ⟨(act c st).1.1.toArray⟩,.int .i64 (act c st).1.2])∧vE w' bp bM (act c st).2∧uq (fun k=>k=bp∨k=bM∨a≤k∧k<b) w w'
theorem uq.wide {S T:Nat→Prop} {A B:World} (h:uq S A B) (hS:∀ k,S k→T k):uq T A B:=⟨h.1,h.2.1,h.2.2.1,h.2.2.2.1,fun k hk ht=>h.2.2.2.2 k hk (fun hs=>ht (hS k hs))⟩
theorem ajU (w:World) (bp bM B1 B2 B3:Nat) (st:St) (m t:Int) (hp:vE w bp bM st) (h1:w.heap[B1]? = some (.cells #[.int .u8 m] 5)) (h2:w.heap[B2]? = some (.cells #[.int .u8 t] 5)) (h3:w.heap[B3]? = some (.cells #[.func (.func 282) #[] #[.pointer (some ⟨B1,0,none⟩),.pointer (some ⟨B2,0,none⟩)]] 348)) (hne:B1≠bp∧B2≠bp) :
  Calls Tryz.prog 338 #[.pointer (some ⟨bp,0,none⟩),.pointer (some ⟨B3,0,none⟩)] w fun e w'=>e = .returned (.tuple #[.string ⟨#[]⟩,.int .i64 0])∧vE w' bp bM (st.1,m,t)∧uq (fun k=>k=bp∨k=bM) w w':=by
 have H:=Lib.hid (ajQ w bp bM B1 B2 st m t hp h1 h2 hne)
 have c3:=cell_of h3
 clear h1 h2 h3
 go_enter Tryz.func338,Tryz.ntmps338
 go_wp2_with (go_at_call 282;refine H.out.mono ?_;rintro e w1 ⟨⟨v,rfl⟩,hP,hK⟩)
 go_ret2
 exact⟨rfl,hP,hK⟩
theorem ajV (w:World) (bp bM B3:Nat) (st:St) (hp:vE w bp bM st) (h3:w.heap[B3]? = some (.cells #[.func (.func 284) #[] #[]] 348)) :
  Calls Tryz.prog 338 #[.pointer (some ⟨bp,0,none⟩),.pointer (some ⟨B3,0,none⟩)] w fun e w'=>e = .returned (.tuple #[.string ⟨#[]⟩,.int .i64 0])∧vE w' bp bM (0,st.2.1,st.2.2)∧uq (fun k=>k=bp∨k=bM) w w':=by
 have H:=Lib.hid (ajP w bp bM st hp)
 have c3:=cell_of h3
 clear h3
 go_enter Tryz.func338,Tryz.ntmps338
 go_wp2_with (go_at_call 284;refine H.out.mono ?_;rintro e w1 ⟨⟨v,rfl⟩,hP,hK⟩)
 go_ret2
 exact⟨rfl,hP,hK⟩
theorem ajW (w0 w:World) (hG:Gl gG w0) (hN:JN.NamesAt w0) (hb0:rq w0 w) (bp bM a b:Nat) (hge:w0.heap.size≤bp∧w0.heap.size≤bM∧w0.heap.size≤a) (st:St) (v:Value) (c:sS) (hd:zg w a b v c) (hp:vE w bp bM st) (hout:¬ (a≤bp∧bp<b)∧¬ (a≤bM∧bM<b)) (hw:zW c) (hs:Fj st) :
  ∃ g caps,v = .func (.func g) #[] caps∧(∀ args X,(callFunc g args).run Tryz.prog X = .ok (.enter g args) X)∧Calls Tryz.prog g (#[.pointer (some ⟨bp,0,none⟩)]++caps) w (Z9 w bp bM a b c st):=by
 cases c with
 | op o f t x y z =>
  obtain⟨B,h1,h2,rfl,h4⟩:=hd
  refine⟨_,_,rfl,enters Tryz.func333 (by kernel_rfl) rfl,?_⟩
  refine(ajT w0 w hG hN hb0 B bp bM ⟨hge.1,hge.2.1,by omega⟩ o f t x y z st hp h4 ⟨fun e=>hout.1 (e▸⟨h1,h2⟩),fun e=>hout.2 (e▸⟨h1,h2⟩)⟩ hw hs).mono ?_
  rintro e w' ⟨he,hP,hK⟩
  exact⟨he,hP,hK.wide fun k hk=>by rcases hk with h|h|h;exact .inl h;exact .inr (.inl h);exact .inr (.inr (h▸⟨h1,h2⟩))⟩
 | env m t =>
  obtain⟨B1,B2,B3,h1,h2,h3,h4,h5,h6,rfl,h8,h9,h10⟩:=hd
  refine⟨_,_,rfl,enters Tryz.func338 (by kernel_rfl) rfl,?_⟩
  refine(ajU w bp bM B1 B2 B3 st m t hp h9 h10 h8 ⟨fun e=>hout.1 (e▸⟨h1,h2⟩),fun e=>hout.1 (e▸⟨h3,h4⟩)⟩).mono ?_
  rintro e w' ⟨he,hP,hK⟩
  exact⟨he,hP,hK.wide fun k hk=>by rcases hk with h|h;exact .inl h;exact .inr (.inl h)⟩
 | clear =>
  obtain⟨B,h1,h2,rfl,h4⟩:=hd
  refine⟨_,_,rfl,enters Tryz.func338 (by kernel_rfl) rfl,?_⟩
  refine(ajV w bp bM B st hp h4).mono ?_
  rintro e w' ⟨he,hP,hK⟩
  exact⟨he,hP,hK.wide fun k hk=>by rcases hk with h|h;exact .inl h;exact .inr (.inl h)⟩
 | sticky =>
  obtain rfl:v = .func (.func 286) #[] #[]:=hd
  refine⟨_,_,rfl,enters Tryz.func286 (by kernel_rfl) rfl,?_⟩
  refine(ajR w bp bM st (hN.bel hb0) hp hs.1).mono ?_
  rintro e w' ⟨he,hB⟩
  exact⟨he,hp.kept (Below.block hB _ (Array.getElem?_eq_some_iff.1 hp.1).1) (Below.block hB _ hp.2.1.lt),uq.of_bel hB⟩
open Go.RowKit Go.Shelf FlagM
open Go.Lib (grownBy_trans grownBy_below grownBy_allocR)
attribute [local go_sem] Oper.semAt_some
abbrev tB:TypeId:=141
def EnvW (w:World):Prop:=Gl gG w∧JN.NamesAt w∧Lib.TabIs Tryz.prog w "internal/strconv.uint64pow10" .u64 Lib.pow10Tab∧∃ m,w.cell? ⟨3,0,none⟩=some (.int .i64 m)
theorem aaa {w w':World} (h:Lib.TabIs Tryz.prog w "internal/strconv.uint64pow10" .u64 Lib.pow10Tab) (hB:rq w w'):Lib.TabIs Tryz.prog w' "internal/strconv.uint64pow10" .u64 Lib.pow10Tab :=
 Lib.tabBelow_of_tabIs h w' hB
theorem EnvW.bel {w w':World} (h:EnvW w) (hB:rq w w'):EnvW w':=by
 obtain⟨h1,h2,h3,m,h4⟩:=h
 exact⟨h1.bel hB,h2.bel hB,aaa h3 hB,m,(hB.cell _ _ (vF h4)).trans h4⟩
theorem ajX (w0:World) (hT:Lib.TabIs Tryz.prog w0 "internal/strconv.uint64pow10" .u64 Lib.pow10Tab) (n:Int) (h0:0≤n) (h1:n≤5000) (w:World) (hB:rq w0 w) :
  Calls Tryz.prog 86 #[.int .i64 n] w fun e w'=>e = .returned (.string ⟨(Lib.itoa n).toArray⟩)∧rq w w':=by
 refine(Tryz.strconv_Itoa n (by omega) (by omega) w (aaa hT hB)).mono ?_
 rintro e w' ⟨he,k,os,rfl⟩
 refine⟨he,⟨rfl,rfl,rfl,by simp[Go.Sort.grow,World.drewN],fun b hb=>?_⟩⟩
 show(w.heap++os)[b]? = w.heap[b]?
 rw[Array.getElem?_append_left hb]
theorem aab {T e:TypeId} {b:Nat} {bs:List Value} {A B:World} (h:Lib.IsBuilder T e b b bs A) (hk:∀ k,b≤k→k<A.heap.size→B.heap[k]? = A.heap[k]?):Lib.IsBuilder T e b b bs B:=by
 have key:∀ p,Lib.BuilderAt T e b b p bs A→Lib.BuilderAt T e b b p bs B:=by
  rintro p ⟨h1,v,h2,⟨h3,h4⟩,h5⟩
  refine⟨h1,v,(hk b (Nat.le_refl _) (Array.getElem?_eq_some_iff.1 h2).1).trans h2,⟨h3,?_⟩,h5⟩
  rcases h4 with h4|⟨g,cap,cur,h6,h7,h8,h9⟩
  ·exact .inl h4
  ·exact .inr ⟨g,cap,cur,h6,h7,(hk g h7 (Array.getElem?_eq_some_iff.1 h8).1).trans h8,h9⟩
 rcases h with h|h
 ·exact .inl (key _ h)
 ·exact .inr (key _ h)
def yw (w w1:World) (L:List (Nat×Nat×Value×sS)) (bp bM bb k:Nat) (st:St) (l:Sc.By) (X:World):Prop :=
 rq w X∧bb<X.heap.size∧(∀ b,b<w1.heap.size→(∀ j x,j<k→L[j]? = some x→¬ (x.1≤b∧b<x.2.1))→X.heap[b]? = w1.heap[b]?)∧vE X bp bM st∧Lib.IsBuilder tB 5 bb bb (Lib.byteCells l) X
theorem yw.bel {w w1:World} {L:List (Nat×Nat×Value×sS)} {bp bM bb k:Nat} {st:St} {l:Sc.By} {X Y:World} (h:yw w w1 L bp bM bb k st l X) (hw:w1.heap.size≤bb) (hB:rq X Y):yw w w1 L bp bM bb k st l Y:=by
 obtain⟨h1,h2,h3,h4,h5⟩:=h
 refine⟨rq.trans h1 hB,Nat.lt_of_lt_of_le h2 (Below.size hB),fun b hb hx=>(Below.block hB b (by omega)).trans (h3 b hb hx),h4.kept (Below.block hB _ (Array.getElem?_eq_some_iff.1 h4.1).1) (Below.block hB _ h4.2.1.lt),aab h5 fun k _ hk=>Below.block hB k hk⟩
theorem yw.write {w w1:World} {L:List (Nat×Nat×Value×sS)} {bp bM bb k:Nat} {st:St} {l m:Sc.By} {X Y:World} (h:yw w w1 L bp bM bb k st l X) (hw:w1.heap.size≤bb) (hw0:w.heap.size≤bb) (hlt:bp<bb∧bM<bb) (hB:Below bb X Y) (hb:Lib.BuilderAt tB 5 bb bb (.pointer (some ⟨bb,0,none⟩)) (Lib.byteCells l++Lib.strCells ⟨m.toArray⟩) Y):yw w w1 L bp bM bb k st (l++m) Y:=by
 obtain⟨h1,h2,h3,h4,h5⟩:=h
 refine⟨⟨(Below.os hB).trans (Below.os h1),(Below.tape hB).trans (Below.tape h1),(Below.output hB).trans (Below.output h1),Nat.le_trans (Below.size h1) (Below.size hB),fun k hk=>(Below.block hB k (by omega)).trans (Below.block h1 k hk)⟩,Nat.lt_of_lt_of_le h2 (Below.size hB),fun b hb hx=>(Below.block hB b (by omega)).trans (h3 b hb hx),h4.kept (Below.block hB _ hlt.1) (Below.block hB _ hlt.2),.inr ?_⟩
 have e:Lib.byteCells (l++m)=Lib.byteCells l++Lib.strCells ⟨m.toArray⟩:=by
  rw[Lib.strCells_toArray];simp[Lib.byteCells]
 rw[e];exact hb
theorem yw.done {w w1:World} {L:List (Nat×Nat×Value×sS)} {bp bM bb k:Nat} {st:St} {l:Sc.By} {X Y:World} {a b:Nat} {v:Value} {c:sS} {e:Ending} (h:yw w w1 L bp bM bb k st l X) (hw:w1.heap.size≤bb) (hw0:w.heap.size≤bp∧w.heap.size≤bM∧w.heap.size≤a) (hlt:bp<bb∧bM<bb) (hge:w1.heap.size≤bp∧w1.heap.size≤bM) (hx:L[k]? = some (a,b,v,c)) (hb:b≤w1.heap.size) (hd:Z9 X bp bM a b c st e Y) :
  e = .returned (.tuple #[.string ⟨(act c st).1.1.toArray⟩,.int .i64 (act c st).1.2])∧yw w w1 L bp bM bb (k+1) (act c st).2 l Y:=by
 obtain⟨h1,h2,h3,h4,h5⟩:=h
 obtain⟨d1,d2,d3⟩:=hd
 have hs:=d3.2.2.2.1
 refine⟨d1,Sa h1 d3 (fun k hk=>by rcases hk with h|h|h<;>omega),Nat.lt_of_lt_of_le h2 hs,fun i hi hn=>?_,d2,aab h5 fun i hi1 hi2=>d3.2.2.2.2 i hi2 (by rintro(h|h|h)<;>omega)⟩
 rw[d3.2.2.2.2 i (by omega) (by rintro(h|h|h);omega;omega;exact hn k _ (by omega) hx h)]
 exact h3 i hi (fun j x hj hjx=>hn j x (by omega) hjx)
theorem yw.next {w w1:World} {L:List (Nat×Nat×Value×sS)} {bp bM bb k n0:Nat} {st:St} {l:Sc.By} {X:World} {a b:Nat} {v u:Value} {c:sS} (h:yw w w1 L bp bM bb k st l X) (hD:DL w1 n0 u L) (hx:L[k]? = some (a,b,v,c)) :
  n0≤a∧b≤w1.heap.size∧zg X a b v c∧∃ g cap,u = .slice (some ⟨g,0,none⟩) L.length cap∧X.cell? ⟨g,k,none⟩=some v:=by
 obtain⟨h1,h2,h3,h4,h5⟩:=h
 obtain⟨hrow,hall,hpair⟩:=hD
 have hm:=List.mem_of_getElem? hx
 have hk:=(List.getElem?_eq_some_iff.1 hx).1
 obtain⟨a1,a2,a3,a4⟩:=hall _ hm
 refine⟨a1,a2,a3.kept fun i hi1 hi2=>h3 i (by simp only at a2 hi2;omega) fun j x hj hjx hin=>?_,?_⟩
 ·have hjl:=(List.getElem?_eq_some_iff.1 hjx).1
  have hp:=List.pairwise_iff_getElem.1 hpair j k hjl hk hj
  have e1:=(List.getElem?_eq_some_iff.1 hjx).2
  have e2:=(List.getElem?_eq_some_iff.1 hx).2
  rw[e1,e2] at hp
  simp only at hp hi1 hi2
  omega
 ·rcases hrow.2 with⟨_,h0⟩|⟨g,cap,cur,rfl,hb,hg,h6,h7,h8,h9⟩
  ·omega
  ·refine⟨g,cap,rfl,?_⟩
   have hg1:=(Array.getElem?_eq_some_iff.1 hg).1
   have hX:X.heap[g]? = some (.cells cur KV):=(h3 g hg1 fun j x hj hjx hin=>by
    rcases(hall x (List.mem_of_getElem? hjx)).2.2.2 g rfl with h|h<;>omega).trans hg
   have hc:(L.map (·.2.2.1))[k]? = some v:=by rw[List.getElem?_map,hx];rfl
   rw[← h9,List.getElem?_take] at hc
   split at hc
   ·simpa [World.cell?,hX] using hc
   ·cases hc
section
variable {C:Type} (words:Sc.By→List Sc.By) (cmd:List Sc.By→Option C)
theorem Si:∀ (ls:List Sc.By) (i:Nat) (out:List C),out.length≤4096→(Sc.parse words cmd i out ls).1.length≤4096
 | [],i,out,h=>h
 | s::ls,i,out,h=>by
  rw[Sc.parse_cons]
  split
  ·exact Si ls _ _ h
  ·split
   ·simp
   ·split
    ·simp
    ·exact Si ls _ _ (by simp;omega)
theorem Sj (Q:C→Prop) (hQ:∀ ws c,cmd ws=some c→Q c):∀ (ls:List Sc.By) (i:Nat) (out:List C),(∀ c∈out,Q c)→∀ c∈(Sc.parse words cmd i out ls).1,Q c
 | [],i,out,h=>h
 | s::ls,i,out,h=>by
  rw[Sc.parse_cons]
  split
  ·exact Sj Q hQ ls _ _ h
  ·split
   ·simp
   ·split
    ·simp
    ·rename_i c hc
     refine Sj Q hQ ls _ _ fun x hx=>?_
     rcases List.mem_append.1 hx with hx|hx
     ·exact h x hx
     ·rw[List.mem_singleton.1 hx];exact hQ _ _ hc
end
theorem ajY (ws:List Sc.By) (c:sS) (h:uj ws=some c):zW c:=by
 cases ws with
 | nil=>cases h
 | cons s ws =>
  have h:wo (sJ s) (ws.map sJ)=some c:=h
  unfold wo at h
  cases hts:tZ (sJ s) (ws.map sJ) with
  | none=>rw[hts] at h;cases h
  | some r =>
   obtain⟨c',ws'⟩:=r
   rw[hts] at h
   cases ws' with
   | nil=>cases h;exact ajE hts
   | cons x xs=>cases h
theorem ajZ:∀ u:Nat,(Lib.decDigits u).length≤u+1:=by
 intro u
 induction u using Nat.strongRecOn with
 | ind u ih =>
  by_cases h:u<10
  ·rw[Lib.decDigits_one h];simp
  ·rw[Lib.decDigits,dif_neg h]
   have:=ih (u/10) (by omega)
   simp;omega
theorem Ji (n:Nat):(Lib.itoa (n:Int)).length≤n+1:=by rw[Sc.itoa_nat];exact ajZ n
theorem aj0 (i:Nat) (s:Sc.By) (e:Int) (he:e=0∨e=1):(Sc.say i s e).length≤i+s.length+20:=by
 have h1:(Lib.itoa ((i:Int)+1)).length≤i+2:=by have:=Ji (i+1);simpa using this
 have h2:(Lib.itoa e).length≤2:=by
  rcases he with rfl|rfl
  ·exact Nat.le_trans (Ji 0) (by decide)
  ·exact Ji 1
 unfold Sc.say
 split<;>simp<;>omega
theorem aac:∀ (cs:List sS) (i:Nat) (st:St),i+cs.length≤5000→(Sc.play act i st cs).length≤6000*cs.length
 | [],i,st,_=>by simp[Sc.play]
 | c::cs,i,st,h=>by
  have ha:=ZY c st
  have h1:=aj0 i (act c st).1.1 (act c st).1.2 ha.1
  have h2:=aac cs (i+1) (act c st).2 (by simp at h;omega)
  rw[Sc.play,List.length_append,List.length_cons]
  simp at h
  have:=ha.2.2
  omega
theorem aad:∀ (a b:List sS) (st:St),Sc.stAt act st (a++b)=Sc.stAt act (Sc.stAt act st a) b
 | [],_,_=>rfl
 | c::a,b,st=>by rw[List.cons_append,Sc.stAt,aad a b,Sc.stAt]
theorem aj1 {cs:List sS} {k:Nat} {c:sS} (h:cs[k]? = some c):Sc.stAt act st0 (cs.take (k+1))=(act c (Sc.stAt act st0 (cs.take k))).2∧Sc.play act 0 st0 (cs.take (k+1))=Sc.play act 0 st0 (cs.take k)++Sc.say k (act c (Sc.stAt act st0 (cs.take k))).1.1 (act c (Sc.stAt act st0 (cs.take k))).1.2:=by
 obtain⟨hk,rfl⟩:=List.getElem?_eq_some_iff.1 h
 rw[List.take_succ_eq_append_getElem hk,aad,Sc.play_app]
 refine⟨rfl,?_⟩
 rw[Sc.play,Sc.play,List.append_nil,List.length_take,Nat.min_eq_left (by omega),Nat.zero_add]
theorem aae:∀ (cs:List sS) (st:St),(∀ c∈cs,zW c)→Fj st→Fj (Sc.stAt act st cs)
 | [],_,_,h=>h
 | c::cs,st,hc,h=>aae cs _ (fun x hx=>hc x (List.mem_cons_of_mem _ hx)) (ajJ c st (hc c (by simp)) h)
theorem aj2:Fj st0:=⟨by decide,by decide,by decide⟩
def Az (s:ByteArray):Sc.By×Nat×Nat:=Sc.runT zh uj act st0 s.data.toList
theorem Cv (s:ByteArray):tV s=Sc.parseT zh uj s.data.toList:=by
 have h:s.data.toList.length=s.size:=by simp
 unfold tV Sc.parseT
 rw[h]
theorem aj3 (s:ByteArray):(tV s).1.length≤4096∧∀ c∈(tV s).1,zW c:=by
 unfold tV
 split
 ·simp
 ·exact⟨Si _ _ _ _ _ (by simp),Sj _ _ _ ajY _ _ _ (by simp)⟩
open Go.RowKit Go.Shelf FlagM
open Go.Lib (grownBy_trans grownBy_below grownBy_allocR)
attribute [local go_sem] Oper.semAt_some
theorem aj4 (w:World) (hE:EnvW w) (s:ByteArray):Calls Tryz.prog 44 #[.string s] w fun e w'=>e = .returned (.tuple #[.int .i64 ((tV s).2.1:Int),.int .i64 ((tV s).2.2:Int)])∧rq w w':=by
 obtain⟨hG,hN,hT,m,hm⟩:=hE
 have HP:=Lib.hid (ZP w s m hm)
 generalize tV s=r at *
 go_enter Tryz.func44,Tryz.ntmps44
 go_wp2_with (go_at_call 84;refine HP.out.mono ?_;rintro e w1 ⟨hB1,v,L,rfl,hDL,hmap⟩)
 go_ret2
 exact⟨rfl,hB1⟩
theorem Jj (a b:Sc.By):(⟨a.toArray⟩:ByteArray)++⟨#[32]⟩++⟨b.toArray⟩++⟨#[10]⟩=⟨(a++32::(b ++ [10])).toArray⟩:=by
 apply ByteArray.ext
 simp
theorem aaf (a:Sc.By):(⟨#[32,32]⟩:ByteArray)++⟨a.toArray⟩++⟨#[10]⟩=⟨(32::32::(a ++ [10])).toArray⟩:=by
 apply ByteArray.ext
 simp
theorem NI (l m:Sc.By):(Lib.byteCells l).length+(⟨m.toArray⟩:ByteArray).size=l.length+m.length:=by
 simp[Lib.byteCells,ByteArray.size]
theorem aj5 (s:ByteArray) (h:(tV s).2.2=0):Az s=(Sc.play act 0 st0 (tV s).1,0,0):=by
 rw[Cv] at h ⊢
 exact Sc.runT_s zh uj act st0 _ h
theorem aag (s:ByteArray) (h:(tV s).2.2≠0):Az s=([],(tV s).2.1,(tV s).2.2):=by
 rw[Cv] at h ⊢
 unfold Az Sc.runT
 split
 ·rename_i h1;rw[h1] at h;exact absurd rfl h
 ·rename_i h1;rw[h1]
theorem aj6 {w:World} {n0:Nat} {v:Value} {L:List (Nat×Nat×Value×sS)} (h:DL w n0 v L):∃ ad cap,v = .slice ad L.length cap:=by
 rcases h.1.2 with⟨h1,h2⟩|⟨g,cap,cur,h1,h2⟩
 ·exact⟨none,0,by rw[h1,h2]⟩
 ·exact⟨_,cap,h1⟩
theorem aj7 {w w1:World} (L:List (Nat×Nat×Value×sS)) (hB:rq w w1):yw w w1 L (w1.heap.size+1) w1.heap.size (w1.heap.size+1+1) 0 st0 []
  (((w1.alloc (.cells #[.int .u8 0] tM)).alloc (.cells #[.pointer (some ⟨w1.heap.size,0,none⟩),.int .u8 0,.int .u8 0] tP)).alloc (.cells #[.pointer none,.slice none 0 0] tB)):=by
 have h1:=World.alloc_heap_new w1 (.cells #[.int .u8 0] tM)
 have h2:=Je w1 (.cells #[.int .u8 0] tM) (.cells #[.pointer (some ⟨w1.heap.size,0,none⟩),.int .u8 0,.int .u8 0] tP)
 refine⟨((hB.alloc _).alloc _).alloc _,by simp,fun b hb _=>?_,⟨alloc_at h2 _,alloc_at (alloc_at h1 _) _,by omega⟩,?_⟩
 ·rw[Below.heap_alloc _ _ _ (by simp;omega),Below.heap_alloc _ _ _ (by simp;omega),Below.heap_alloc _ _ _ hb]
 ·have h3:=Lib.fresh_isBuilder tB 5 ((w1.alloc (.cells #[.int .u8 0] tM)).alloc (.cells #[.pointer (some ⟨w1.heap.size,0,none⟩),.int .u8 0,.int .u8 0] tP))
  rwa [show((w1.alloc (.cells #[.int .u8 0] tM)).alloc (.cells #[.pointer (some ⟨w1.heap.size,0,none⟩),.int .u8 0,.int .u8 0] tP)).heap.size=w1.heap.size+1+1 by simp] at h3
theorem aah (w:World) (hE:EnvW w) (s:ByteArray):Calls Tryz.prog 41 #[.string s] w fun e w'=>e = .returned (.tuple #[.string ⟨(Az s).1.toArray⟩,.int .i64 ((Az s).2.1:Int),.int .i64 ((Az s).2.2:Int)])∧rq w w':=by
 obtain⟨hG,hN,hT,m,hm⟩:=hE
 have HP:=Lib.hid (ZP w s m hm)
 have hok:=aj3 s
 have hline:(tV s).2.2=0→(tV s).2.1=0:=by
  unfold tV
  split
  ·intro h;cases h
  ·exact Sc.parse_line zh uj _ _ _
 by_cases he:(tV s).2.2=0
 ·have hl0:=hline he
  rw[aj5 s he]
  generalize tV s=r at *
  obtain⟨cs,ln,er⟩:=r
  simp only at he hl0
  subst he;subst hl0
  clear hline
  have HI:=Lib.hid (fun X (hX:rq w X) n (h0:0≤n) (h1:n≤5000)=>ajX w hT n h0 h1 X hX)
  have hcap:=hok.1
  have HW:=Lib.hid hok.2
  clear hok
  go_enter Tryz.func41,Tryz.ntmps41
  go_wp2_with (first|(go_at_call 84;refine HP.out.mono ?_;rintro e w1 ⟨hB1,v,L,rfl,hDL,hmap⟩;obtain⟨ad,cap,rfl⟩:=aj6 hDL)|(go_at_call 14;refine(ahP _).mono ?_;rintro e w2 ⟨rfl,rfl⟩))
  obtain rfl:L.map (·.2.2.2)=cs:=hmap
  have hst:=Lib.hid (aj7 L hB1)
  have hlen:L.length≤4096:=by simpa using hcap
  clear hcap
  have hw1:=Below.size hB1
  go_loopw [29] (fun i W=>∃ k:Nat,i = .int .i64 (k:Int)∧k≤L.length∧yw w w1 L (w1.heap.size+1) w1.heap.size (w1.heap.size+1+1) k (Sc.stAt act st0 ((L.map (·.2.2.2)).take k)) (Sc.play act 0 st0 ((L.map (·.2.2.2)).take k)) W) (fun i _=>L.length-(intOf i).toNat)
  case atStart=>exact⟨0,rfl,Nat.zero_le _,hst.out⟩
  case round =>
   obtain⟨k,rfl,hk,hJ⟩:=hrel
   by_cases hlt:k<L.length
   ·obtain⟨⟨a,b,vk,c⟩,hx⟩:∃ x,L[k]? = some x:=⟨_,List.getElem?_eq_getElem hlt⟩
    have hnx:=hJ.next hDL hx
    obtain⟨ha1,hb1,hd,g,cap',hu,hck⟩:=hnx
    obtain⟨rfl,rfl⟩:ad=some ⟨g,0,none⟩∧cap=cap':=by simpa using hu
    have hc:(L.map (·.2.2.2))[k]? = some c:=by rw[List.getElem?_map,hx];rfl
    obtain⟨hs1,hs2⟩:=aj1 hc
    have hcw:=HW.out c (List.mem_of_getElem? hc)
    have hsw:=aae ((L.map (·.2.2.2)).take k) st0 (fun x hx=>HW.out x (List.mem_of_mem_take hx)) aj2
    have hpl:=aac ((L.map (·.2.2.2)).take k) 0 st0 (by simp;omega)
    have hact:=ZY c (Sc.stAt act st0 ((L.map (·.2.2.2)).take k))
    have hpl2:(Sc.play act 0 st0 ((L.map (·.2.2.2)).take k)).length≤30000000:=Nat.le_trans hpl (by simp;omega)
    clear hpl
    have hS:=Lib.hid (And.intro hs1 hs2)
    clear hs1 hs2
    generalize Sc.stAt act st0 ((L.map (·.2.2.2)).take k)=st at *
    generalize Sc.play act 0 st0 ((L.map (·.2.2.2)).take k)=pl at *
    have hJ1:=hJ.1
    obtain⟨gf,caps,rfl,eg,HDo⟩:=ajW w wr hG hN hJ1 (w1.heap.size+1) w1.heap.size a b ⟨by omega,by omega,by omega⟩ st vk c hd hJ.2.2.2.1 ⟨by omega,by omega⟩ hcw hsw
    have q1:(k:Int)<(L.length:Int):=by omega
    have hq1:w1.heap.size≤w1.heap.size+1+1:=by omega
    have hq2:w.heap.size≤w1.heap.size+1∧w.heap.size≤w1.heap.size∧w.heap.size≤a:=⟨by omega,by omega,by omega⟩
    have hq3:w1.heap.size+1<w1.heap.size+1+1∧w1.heap.size<w1.heap.size+1+1:=⟨by omega,by omega⟩
    have hq4:w1.heap.size≤w1.heap.size+1∧w1.heap.size≤w1.heap.size:=⟨by omega,by omega⟩
    have hq5:w.heap.size≤w1.heap.size+1+1:=by omega
    have li:(Lib.itoa ((k:Int)+1)).length≤5000:=by have:=Ji (k+1);simp at this;omega
    go_wp2_with fail
    refine HDo.mono ?_
    rintro e W1 hdone
    obtain⟨rfl,hJ2⟩:=hJ.done hq1 hq2 hq3 hq4 hx hb1 hdone
    clear HDo hdone hd hJ
    generalize act c st=A at *
    obtain⟨⟨sL,E⟩,st'⟩:=A
    simp only at hact hJ2 hS ⊢
    obtain⟨hE,_,hsl⟩:=hact
    have z1:¬ ((Lib.itoa ((k:Int)+1)).length+1>9223372036854775807):=by omega
    have lE:(Lib.itoa E).length≤2:=by
     rcases hE with rfl|rfl
     ·exact Nat.le_trans (Ji 0) (by decide)
     ·exact Ji 1
    have z2:¬ ((Lib.itoa ((k:Int)+1)).length+1+(Lib.itoa E).length>9223372036854775807):=by omega
    have z3:¬ ((Lib.itoa ((k:Int)+1)).length+1+(Lib.itoa E).length+1>9223372036854775807):=by omega
    rcases hE with rfl|rfl
    ·by_cases hsn:sL = []
     ·subst hsn
      have hsay:Sc.say k [] 0=Lib.itoa ((k:Int)+1)++32::(Lib.itoa 0 ++ [10]):=by simp[Sc.say]
      go_wp2_with (go_at_call 86;refine(HI.out _ (by first|exact hJ3.1|exact hJ2.1) _ (by omega) (by omega)).mono ?_;rintro e W2 ⟨rfl,hB2⟩;have hJ3:=yw.bel (by first|exact hJ3|exact hJ2) hq1 hB2)
      obtain hlen4:(Lib.byteCells pl).length+((⟨(Lib.itoa ((k:Int)+1)).toArray⟩:ByteArray)++⟨#[32]⟩++⟨(Lib.itoa 0).toArray⟩++⟨#[10]⟩).size≤140737488355328:=by rw[Jj,NI];simp;omega
      refine(Tryz.Builder_WriteString _ _ _ _ _ hJ3.2.2.2.2 hlen4 (Nat.le_of_lt hJ3.2.1)).mono ?_
      rintro e Y ⟨rfl,hbd,hBl⟩
      rw[Jj] at hbd
      have hJ4:=hJ3.write hq1 hq5 hq3 hBl hbd
      clear hbd hlen4
      go_wp2_with fail
      refine⟨⟨k+1,by simp,by omega,?_⟩,by simp only[intOf];omega⟩
      obtain⟨e1,e2⟩:=hS.out
      rw[e1,e2,hsay]
      exact hJ4
     ·have hsay:Sc.say k sL 0=(Lib.itoa ((k:Int)+1)++32::(Lib.itoa 0 ++ [10]))++(32::32::(sL ++ [10])):=by simp[Sc.say,hsn]
      have hse:List.isEmpty sL=false:=by simp[hsn]
      have y1:¬ (2+sL.length>9223372036854775807):=by omega
      have y2:¬ (2+sL.length+1>9223372036854775807):=by omega
      go_wp2_with (go_at_call 86;refine(HI.out _ (by first|exact hJ3.1|exact hJ2.1) _ (by omega) (by omega)).mono ?_;rintro e W2 ⟨rfl,hB2⟩;have hJ3:=yw.bel (by first|exact hJ3|exact hJ2) hq1 hB2)
      obtain hlen4:(Lib.byteCells pl).length+((⟨(Lib.itoa ((k:Int)+1)).toArray⟩:ByteArray)++⟨#[32]⟩++⟨(Lib.itoa 0).toArray⟩++⟨#[10]⟩).size≤140737488355328:=by rw[Jj,NI];simp;omega
      refine(Tryz.Builder_WriteString _ _ _ _ _ hJ3.2.2.2.2 hlen4 (Nat.le_of_lt hJ3.2.1)).mono ?_
      rintro e Y ⟨rfl,hbd,hBl⟩
      rw[Jj] at hbd
      have hJ4:=hJ3.write hq1 hq5 hq3 hBl hbd
      clear hbd hlen4
      go_wp2_with fail
      obtain hlen5:(Lib.byteCells (pl++(Lib.itoa ((k:Int)+1)++32::(Lib.itoa 0 ++ [10])))).length+((⟨#[32,32]⟩:ByteArray)++⟨sL.toArray⟩++⟨#[10]⟩).size≤140737488355328:=by rw[aaf,NI];simp;omega
      refine(Tryz.Builder_WriteString _ _ _ _ _ hJ4.2.2.2.2 hlen5 (Nat.le_of_lt hJ4.2.1)).mono ?_
      rintro e Z ⟨rfl,hbd,hBl2⟩
      rw[aaf] at hbd
      have hJ5:=hJ4.write hq1 hq5 hq3 hBl2 hbd
      clear hbd hlen5
      go_wp2_with fail
      refine⟨⟨k+1,by simp,by omega,?_⟩,by simp only[intOf];omega⟩
      obtain⟨e1,e2⟩:=hS.out
      rw[e1,e2,hsay,← List.append_assoc]
      exact hJ5
    ·have hsay:Sc.say k sL 1=Lib.itoa ((k:Int)+1)++32::(Lib.itoa 1 ++ [10]):=by simp[Sc.say]
     go_wp2_with (go_at_call 86;refine(HI.out _ (by first|exact hJ3.1|exact hJ2.1) _ (by omega) (by omega)).mono ?_;rintro e W2 ⟨rfl,hB2⟩;have hJ3:=yw.bel (by first|exact hJ3|exact hJ2) hq1 hB2)
     obtain hlen4:(Lib.byteCells pl).length+((⟨(Lib.itoa ((k:Int)+1)).toArray⟩:ByteArray)++⟨#[32]⟩++⟨(Lib.itoa 1).toArray⟩++⟨#[10]⟩).size≤140737488355328:=by rw[Jj,NI];simp;omega
     refine(Tryz.Builder_WriteString _ _ _ _ _ hJ3.2.2.2.2 hlen4 (Nat.le_of_lt hJ3.2.1)).mono ?_
     rintro e Y ⟨rfl,hbd,hBl⟩
     rw[Jj] at hbd
     have hJ4:=hJ3.write hq1 hq5 hq3 hBl hbd
     clear hbd hlen4
     go_wp2_with fail
     refine⟨⟨k+1,by simp,by omega,?_⟩,by simp only[intOf];omega⟩
     obtain⟨e1,e2⟩:=hS.out
     rw[e1,e2,hsay]
     exact hJ4
   ·obtain rfl:k=L.length:=by omega
    have q1:¬ (L.length:Int)<(L.length:Int):=by omega
    have ht:(L.map (·.2.2.2)).take L.length=L.map (·.2.2.2):=List.take_of_length_le (by simp)
    rw[ht] at hJ
    go_wp2_with fail
    refine(Tryz.Builder_String_any _ _ (Sc.play act 0 st0 (L.map (·.2.2.2))) _ hJ.2.2.2.2 (Nat.le_of_lt hJ.2.1)).mono ?_
    rintro e Y ⟨rfl,hBl⟩
    have hJ1:=hJ.1
    have hBY:rq w Y:=⟨(Below.os hBl).trans (Below.os hJ1),(Below.tape hBl).trans (Below.tape hJ1),(Below.output hBl).trans (Below.output hJ1),Nat.le_trans (Below.size hJ1) (Below.size hBl),fun i hi=>(Below.block hBl i (by omega)).trans (Below.block hJ1 i hi)⟩
    go_wp2_with fail
    try simp only[Exit.inBlock,Exit.then]
    refine bodyPost_ret (Jg rfl _ _ _) rfl ?_
    exact⟨by first|rfl|simp,hBY⟩
 ·have q1:(((tV s).2.2:Int) != 0)=true:=by simp;omega
  rw[aag s he]
  generalize tV s=r at *
  clear hline
  go_enter Tryz.func41,Tryz.ntmps41
  go_wp2_with (go_at_call 84;refine HP.out.mono ?_;rintro e w1 ⟨hB1,v,L,rfl,hDL,hmap⟩)
  try simp only[Exit.inBlock,Exit.then]
  refine bodyPost_ret (Jg rfl _ _ _) rfl ?_
  exact⟨rfl,hB1⟩
open Go.RowKit FlagM
theorem NJ:zh=Sc.wl []:=funext fun l=>Sc.words_wl (sJ l)
def Fq (n:Nat):Sc.By:=if n<10 then [UInt8.ofNat (48+n)] else [UInt8.ofNat (48+n/10),UInt8.ofNat (48+n%10)]
theorem aai (n:Nat) (h:n<100):Lib.itoa (n:Int)=Fq n:=by
 rw[Sc.itoa_nat,Fq]
 by_cases h1:n<10
 ·rw[if_pos h1,Lib.decDigits_one h1]
 ·rw[if_neg h1,Lib.decDigits,dif_neg h1,Lib.decDigits_one (by omega)];rfl
theorem Sk (k:Nat) (s:Sc.By) (e:Nat) (hk:k<99) (he:e<100):Sc.say k s (e:Int)=Fq (k+1)++32::(Fq e++10::(if e=0∧s ≠ [] then 32::32::(s ++ [10]) else [])):=by
 unfold Sc.say
 rw[show((k:Int)+1)=((k+1:Nat):Int) by omega,aai _ (by omega),aai _ he]
 have:((e:Int)=0∧s ≠ [])↔(e=0∧s ≠ []):=by constructor<;>rintro⟨a,b⟩<;>exact⟨by omega,b⟩
 simp only[this]
theorem xk (k:Nat) (s:Sc.By) (hk:k<99) (hs:s ≠ []):Sc.say k s 0=Fq (k+1)++32::(48::10::32::32::(s ++ [10])):=by
 have:=Sk k s 0 hk (by decide)
 rw[if_pos ⟨rfl,hs⟩] at this
 exact this
theorem Sl (k:Nat) (hk:k<99):Sc.say k [] 0=Fq (k+1) ++ [32,48,10]:=by
 have:=Sk k [] 0 hk (by decide)
 rw[if_neg (by simp)] at this
 exact this
theorem aaj (k:Nat) (s:Sc.By) (hk:k<99):Sc.say k s 1=Fq (k+1) ++ [32,49,10]:=by
 have:=Sk k s 1 hk (by decide)
 rw[if_neg (by simp)] at this
 exact this
theorem ve {c:sS} {st st':St} {s:Sc.By} {e:Int} (h:act c st=((s,e),st')) (i:Nat) (cs:List sS):Sc.play act i st (c::cs)=Sc.say i s e++Sc.play act (i+1) st' cs:=by rw[Sc.play,h]
theorem xw {o f t:Int} {a b c:Int×Int} {fl:Nat} {m i E hi lo:Int} {g:Nat} {s:Sc.By} (h:oE (sQ [o,f,t,m,i,a.1,a.2,b.1,b.2,c.1,c.2])=(E,hi,lo,g)) (hs:wS o f t (hi,lo)++32::wR (g:Int)=s) {fl':Nat} (hf:J [fl,g]=fl'):act (.op o f t a b c) (fl,m,i)=((s,E),(fl',m,i)):=by
 rw[← hs,← hf]
 show((wS o f t ((oE (sQ [o,f,t,m,i,a.1,a.2,b.1,b.2,c.1,c.2])).2.1,(oE (sQ [o,f,t,m,i,a.1,a.2,b.1,b.2,c.1,c.2])).2.2.1)++32::wR ((oE (sQ [o,f,t,m,i,a.1,a.2,b.1,b.2,c.1,c.2])).2.2.2:Int),(oE (sQ [o,f,t,m,i,a.1,a.2,b.1,b.2,c.1,c.2])).1),(J [fl,(oE (sQ [o,f,t,m,i,a.1,a.2,b.1,b.2,c.1,c.2])).2.2.2],m,i))=_
 rw[h]
theorem aak {text:Sc.By} {cs:List sS} {o:Sc.By} (hl:text.length≤1048576) (h1:Sc.parse (Sc.wl []) uj 0 [] (Sc.lines text)=(cs,0,0)) (h2:Sc.play act 0 st0 cs=o):Az (sJ text)=(o,0,0):=by
 have hp:tV (sJ text)=(cs,0,0):=by
  rw[Cv,NJ]
  exact(Sc.parseT_le _ _ text hl).trans h1
 have h3:=Sc.runT_s zh uj act st0 (sJ text).data.toList (by rw[← Cv,hp])
 rw[← Cv,hp] at h3
 show Sc.runT zh uj act st0 (sJ text).data.toList=_
 rw[h3]
 exact congrArg (fun x=>(x,0,0)) h2
theorem aj8:oE (sQ [1,0,0,0,0,0,15360,0,15360,0,0])=(0,0,16384,0):=by kernel_rfl
theorem aj9:act (.op 1 0 0 (0,15360) (0,15360) (0,0)) (0,0,0)=(([52,48,48,48,32,45],0),(0,0,0)):=xw aj8 (by kernel_rfl) (by decide)
theorem aka:oE (sQ [4,0,0,0,0,0,15360,0,0,0,0])=(0,0,31744,2):=by kernel_rfl
theorem akb:act (.op 4 0 0 (0,15360) (0,0) (0,0)) (0,0,0)=(([55,99,48,48,32,100,105,118,122,101,114,111],0),(2,0,0)):=xw aka (by kernel_rfl) (by decide)
theorem akc:act (.sticky) (2,0,0)=(([100,105,118,122,101,114,111],0),(2,0,0)):=by kernel_rfl
theorem akd:act (.env 2 1) (2,0,0)=(([],0),(2,2,1)):=rfl
theorem ake:oE (sQ [5,0,0,2,1,0,16384,0,0,0,0])=(0,0,15785,16):=by kernel_rfl
theorem akf:act (.op 5 0 0 (0,16384) (0,0) (0,0)) (2,2,1)=(([51,100,97,57,32,105,110,101,120,97,99,116],0),(18,2,1)):=xw ake (by kernel_rfl) (by decide)
theorem akg:oE (sQ [1,0,0,2,1,0,80896,0,0,0,0])=(1,0,0,0):=by kernel_rfl
theorem akh:act (.op 1 0 0 (0,80896) (0,0) (0,0)) (18,2,1)=((wS 1 0 0 (0,0)++32::wR ((0:Nat):Int),1),(18,2,1)):=xw akg rfl (by decide)
theorem aki:oE (sQ [13,0,0,2,1,0,0,0,32768,0,0])=(0,0,1,0):=by kernel_rfl
theorem akj:act (.op 13 0 0 (0,0) (0,32768) (0,0)) (18,2,1)=(([101,113,117,97,108,32,45],0),(18,2,1)):=xw aki (by kernel_rfl) (by decide)
def Sm:Sc.By:=[97,100,100,32,98,49,54,32,51,99,48,48,32,51,99,48,48,10,100,105,118,32,98,49,54,32,51,99,48,48,32,48,10,115,116,105,99,107,121,10,101,110,118,32,117,112,32,97,102,116,101,114,10,115,113,114,116,32,98,49,54,32,52,48,48,48,10,97,100,100,32,98,49,54,32,49,51,99,48,48,32,48,10,113,117,105,101,116,32,98,49,54,32,48,32,56,48,48,48,10]
def Sn:Sc.By:=[49,32,48,10,32,32,52,48,48,48,32,45,10,50,32,48,10,32,32,55,99,48,48,32,100,105,118,122,101,114,111,10,51,32,48,10,32,32,100,105,118,122,101,114,111,10,52,32,48,10,53,32,48,10,32,32,51,100,97,57,32,105,110,101,120,97,99,116,10,54,32,49,10,55,32,48,10,32,32,101,113,117,97,108,32,45,10]
theorem akk:Sc.parse (Sc.wl []) uj 0 [] (Sc.lines Sm)=([.op 1 0 0 (0,15360) (0,15360) (0,0),.op 4 0 0 (0,15360) (0,0) (0,0),.sticky,.env 2 1,.op 5 0 0 (0,16384) (0,0) (0,0),.op 1 0 0 (0,80896) (0,0) (0,0),.op 13 0 0 (0,0) (0,32768) (0,0)],0,0):=by kernel_rfl
theorem akl:Az (sJ Sm)=(Sn,0,0):=by
 refine aak (by decide) akk ?_
 unfold st0
 rw[ve aj9,xk 0 _ (by decide) (by decide)]
 rw[ve akb,xk 1 _ (by decide) (by decide)]
 rw[ve akc,xk 2 _ (by decide) (by decide)]
 rw[ve akd,Sl 3 (by decide)]
 rw[ve akf,xk 4 _ (by decide) (by decide)]
 rw[ve akh,aaj 5 _ (by decide)]
 rw[ve akj,xk 6 _ (by decide) (by decide)]
 kernel_rfl
theorem akm:oE (sQ [2,0,0,0,0,0,15360,0,16384,0,0])=(0,0,48128,0):=by kernel_rfl
theorem akn:act (.op 2 0 0 (0,15360) (0,16384) (0,0)) (0,0,0)=(([98,99,48,48,32,45],0),(0,0,0)):=xw akm (by kernel_rfl) (by decide)
theorem ako:oE (sQ [3,1,0,0,0,0,1073741824,0,1077936128,0,0])=(0,0,1086324736,0):=by kernel_rfl
theorem akp:act (.op 3 1 0 (0,1073741824) (0,1077936128) (0,0)) (0,0,0)=(([52,48,99,48,48,48,48,48,32,45],0),(0,0,0)):=xw ako (by kernel_rfl) (by decide)
theorem akq:oE (sQ [6,0,0,0,0,0,16384,0,16896,0,15360])=(0,0,18176,0):=by kernel_rfl
theorem akr:act (.op 6 0 0 (0,16384) (0,16896) (0,15360)) (0,0,0)=(([52,55,48,48,32,45],0),(0,0,0)):=xw akq (by kernel_rfl) (by decide)
theorem aks:oE (sQ [7,0,0,0,0,0,17664,0,16896,0,0])=(0,0,48128,0):=by kernel_rfl
theorem akt:act (.op 7 0 0 (0,17664) (0,16896) (0,0)) (0,0,0)=(([98,99,48,48,32,45],0),(0,0,0)):=xw aks (by kernel_rfl) (by decide)
theorem aku:oE (sQ [8,0,0,0,0,0,16640,0,0,0,0])=(0,0,16384,0):=by kernel_rfl
theorem akv:act (.op 8 0 0 (0,16640) (0,0) (0,0)) (0,0,0)=(([52,48,48,48,32,45],0),(0,0,0)):=xw aku (by kernel_rfl) (by decide)
theorem akw:oE (sQ [9,0,0,0,0,0,16640,0,0,0,0])=(0,0,16384,16):=by kernel_rfl
theorem akx:act (.op 9 0 0 (0,16640) (0,0) (0,0)) (0,0,0)=(([52,48,48,48,32,105,110,101,120,97,99,116],0),(16,0,0)):=xw akw (by kernel_rfl) (by decide)
theorem aky:oE (sQ [10,0,3,0,0,0,15360,0,0,0,0])=(0,4611404543450677248,0,0):=by kernel_rfl
theorem akz:act (.op 10 0 3 (0,15360) (0,0) (0,0)) (16,0,0)=(([51,102,102,102,48,48,48,48,48,48,48,48,48,48,48,48,48,48,48,48,48,48,48,48,48,48,48,48,48,48,48,48,32,45],0),(16,0,0)):=xw aky (by kernel_rfl) (by decide)
theorem akA:oE (sQ [11,0,0,0,0,0,49408,0,0,0,0])=(0,0,18446744073709551614,16):=by kernel_rfl
theorem akB:act (.op 11 0 0 (0,49408) (0,0) (0,0)) (16,0,0)=(([102,102,102,102,102,102,102,102,102,102,102,102,102,102,102,101,32,105,110,101,120,97,99,116],0),(16,0,0)):=xw akA (by kernel_rfl) (by decide)
theorem akC:oE (sQ [12,2,1,0,0,0,4294967295,0,0,0,0])=(0,0,4751297606873776128,0):=by kernel_rfl
theorem akD:act (.op 12 2 1 (0,4294967295) (0,0) (0,0)) (16,0,0)=(([52,49,101,102,102,102,102,102,102,102,101,48,48,48,48,48,32,45],0),(16,0,0)):=xw akC (by kernel_rfl) (by decide)
theorem akE:oE (sQ [12,2,1,0,0,0,4294967296,0,0,0,0])=(1,0,0,0):=by kernel_rfl
theorem akF:act (.op 12 2 1 (0,4294967296) (0,0) (0,0)) (16,0,0)=((wS 12 2 1 (0,0)++32::wR ((0:Nat):Int),1),(16,0,0)):=xw akE rfl (by decide)
theorem akG:oE (sQ [13,0,0,0,0,0,15360,0,16384,0,0])=(0,0,0,0):=by kernel_rfl
theorem akH:act (.op 13 0 0 (0,15360) (0,16384) (0,0)) (16,0,0)=(([108,101,115,115,32,45],0),(16,0,0)):=xw akG (by kernel_rfl) (by decide)
theorem akI:oE (sQ [14,0,0,0,0,0,32256,0,0,0,0])=(0,0,3,1):=by kernel_rfl
theorem akJ:act (.op 14 0 0 (0,32256) (0,0) (0,0)) (16,0,0)=(([117,110,111,114,100,101,114,101,100,32,105,110,118,97,108,105,100],0),(17,0,0)):=xw akI (by kernel_rfl) (by decide)
theorem akK:act (.sticky) (17,0,0)=(([105,110,118,97,108,105,100,32,105,110,101,120,97,99,116],0),(17,0,0)):=by kernel_rfl
theorem akL:act (.clear) (17,0,0)=(([],0),(0,0,0)):=rfl
theorem akM:act (.sticky) (0,0,0)=(([45],0),(0,0,0)):=by kernel_rfl
theorem akN:act (.env 4 0) (0,0,0)=(([],0),(0,4,0)):=rfl
theorem akO:oE (sQ [4,2,0,4,0,0,4607182418800017408,0,4613937818241073152,0,0])=(0,0,4599676419421066581,16):=by kernel_rfl
theorem akP:act (.op 4 2 0 (0,4607182418800017408) (0,4613937818241073152) (0,0)) (0,4,0)=(([51,102,100,53,53,53,53,53,53,53,53,53,53,53,53,53,32,105,110,101,120,97,99,116],0),(16,4,0)):=xw akO (by kernel_rfl) (by decide)
theorem akQ:oE (sQ [1,3,0,4,0,4611404543450677248,0,4611404543450677248,0,0,0])=(0,4611686018427387904,0,0):=by kernel_rfl
theorem akR:act (.op 1 3 0 (4611404543450677248,0) (4611404543450677248,0) (0,0)) (16,4,0)=(([52,48,48,48,48,48,48,48,48,48,48,48,48,48,48,48,48,48,48,48,48,48,48,48,48,48,48,48,48,48,48,48,32,45],0),(16,4,0)):=xw akQ (by kernel_rfl) (by decide)
def NK:Sc.By:=[115,117,98,32,98,49,54,32,51,99,48,48,32,52,48,48,48,10,109,117,108,32,98,51,50,32,52,48,48,48,48,48,48,48,32,52,48,52,48,48,48,48,48,10,102,109,97,32,98,49,54,32,52,48,48,48,32,52,50,48,48,32,51,99,48,48,10,114,101,109,32,98,49,54,32,52,53,48,48,32,52,50,48,48,10,114,105,110,116,32,98,49,54,32,52,49,48,48,10,101,120,97,99,116,32,98,49,54,32,52,49,48,48,10,99,111,110,118,32,98,49,54,32,98,49,50,56,32,51,99,48,48,10,105,110,116,32,98,49,54,32,105,51,50,32,99,49,48,48,10,102,114,111,109,32,117,51,50,32,98,54,52,32,102,102,102,102,102,102,102,102,10,102,114,111,109,32,117,51,50,32,98,54,52,32,49,48,48,48,48,48,48,48,48,10,113,117,105,101,116,32,98,49,54,32,51,99,48,48,32,52,48,48,48,10,115,105,103,110,97,108,105,110,103,32,98,49,54,32,55,101,48,48,32,48,10,115,116,105,99,107,121,10,99,108,101,97,114,10,115,116,105,99,107,121,10,101,110,118,32,122,101,114,111,32,98,101,102,111,114,101,10,35,32,120,10,9,100,105,118,32,98,54,52,32,51,102,102,48,48,48,48,48,48,48,48,48,48,48,48,48,32,52,48,48,56,48,48,48,48,48,48,48,48,48,48,48,48,32,13,10,97,100,100,32,98,49,50,56,32,51,102,102,102,48,48,48,48,48,48,48,48,48,48,48,48,48,48,48,48,48,48,48,48,48,48,48,48,48,48,48,48,32,51,102,102,102,48,48,48,48,48,48,48,48,48,48,48,48,48,48,48,48,48,48,48,48,48,48,48,48,48,48,48,48]
def Sq:Sc.By:=[49,32,48,10,32,32,98,99,48,48,32,45,10,50,32,48,10,32,32,52,48,99,48,48,48,48,48,32,45,10,51,32,48,10,32,32,52,55,48,48,32,45,10,52,32,48,10,32,32,98,99,48,48,32,45,10,53,32,48,10,32,32,52,48,48,48,32,45,10,54,32,48,10,32,32,52,48,48,48,32,105,110,101,120,97,99,116,10,55,32,48,10,32,32,51,102,102,102,48,48,48,48,48,48,48,48,48,48,48,48,48,48,48,48,48,48,48,48,48,48,48,48,48,48,48,48,32,45,10,56,32,48,10,32,32,102,102,102,102,102,102,102,102,102,102,102,102,102,102,102,101,32,105,110,101,120,97,99,116,10,57,32,48,10,32,32,52,49,101,102,102,102,102,102,102,102,101,48,48,48,48,48,32,45,10,49,48,32,49,10,49,49,32,48,10,32,32,108,101,115,115,32,45,10,49,50,32,48,10,32,32,117,110,111,114,100,101,114,101,100,32,105,110,118,97,108,105,100,10,49,51,32,48,10,32,32,105,110,118,97,108,105,100,32,105,110,101,120,97,99,116,10,49,52,32,48,10,49,53,32,48,10,32,32,45,10,49,54,32,48,10,49,55,32,48,10,32,32,51,102,100,53,53,53,53,53,53,53,53,53,53,53,53,53,32,105,110,101,120,97,99,116,10,49,56,32,48,10,32,32,52,48,48,48,48,48,48,48,48,48,48,48,48,48,48,48,48,48,48,48,48,48,48,48,48,48,48,48,48,48,48,48,32,45,10]
theorem akS:Sc.parse (Sc.wl []) uj 0 [] (Sc.lines NK)=([.op 2 0 0 (0,15360) (0,16384) (0,0),.op 3 1 0 (0,1073741824) (0,1077936128) (0,0),.op 6 0 0 (0,16384) (0,16896) (0,15360),.op 7 0 0 (0,17664) (0,16896) (0,0),.op 8 0 0 (0,16640) (0,0) (0,0),.op 9 0 0 (0,16640) (0,0) (0,0),.op 10 0 3 (0,15360) (0,0) (0,0),.op 11 0 0 (0,49408) (0,0) (0,0),.op 12 2 1 (0,4294967295) (0,0) (0,0),.op 12 2 1 (0,4294967296) (0,0) (0,0),.op 13 0 0 (0,15360) (0,16384) (0,0),.op 14 0 0 (0,32256) (0,0) (0,0),.sticky,.clear,.sticky,.env 4 0,.op 4 2 0 (0,4607182418800017408) (0,4613937818241073152) (0,0),.op 1 3 0 (4611404543450677248,0) (4611404543450677248,0) (0,0)],0,0):=by kernel_rfl
theorem akT:Az (sJ NK)=(Sq,0,0):=by
 refine aak (by decide) akS ?_
 unfold st0
 rw[ve akn,xk 0 _ (by decide) (by decide)]
 rw[ve akp,xk 1 _ (by decide) (by decide)]
 rw[ve akr,xk 2 _ (by decide) (by decide)]
 rw[ve akt,xk 3 _ (by decide) (by decide)]
 rw[ve akv,xk 4 _ (by decide) (by decide)]
 rw[ve akx,xk 5 _ (by decide) (by decide)]
 rw[ve akz,xk 6 _ (by decide) (by decide)]
 rw[ve akB,xk 7 _ (by decide) (by decide)]
 rw[ve akD,xk 8 _ (by decide) (by decide)]
 rw[ve akF,aaj 9 _ (by decide)]
 rw[ve akH,xk 10 _ (by decide) (by decide)]
 rw[ve akJ,xk 11 _ (by decide) (by decide)]
 rw[ve akK,xk 12 _ (by decide) (by decide)]
 rw[ve akL,Sl 13 (by decide)]
 rw[ve akM,xk 14 _ (by decide) (by decide)]
 rw[ve akN,Sl 15 (by decide)]
 rw[ve akP,xk 16 _ (by decide) (by decide)]
 rw[ve akR,xk 17 _ (by decide) (by decide)]
 kernel_rfl
end Go.Proofs.YtbembkamcdlhbaaGreatDoor.Sp
