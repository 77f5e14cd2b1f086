import Derived.Test.YtippohicjhilnaaGreatDoorZ5Tn
import Derived.Test.YtippohicjhilnaaGreatDoorZ7Tn
import Derived.Deep.RegionHeld3
import Derived.Lib.AppendIntMem
set_option linter.unusedSimpArgs false
set_option linter.unusedVariables false
set_option maxRecDepth 100000
set_option maxHeartbeats 4000000
open Go.Proofs.Tryz
namespace Go.Proofs.YtippohicjhilnaaGreatDoor.Sp
open Go.RowKit Go.Shelf FlagM
open Go.Lib (grownBy_trans grownBy_below grownBy_allocR)
attribute [local go_sem] Oper.semAt_some
theorem azG (w:World) (b:Nat) (s:Int) (hb:Boxed w b tM (.int .u8 s)):Calls prog 208 #[.pointer (some ⟨b,0,none⟩)] w λe w'=>(∃ v,e = .returned v)/\Boxed w' b tM (.int .u8 0)/\w.grownBy w' (some b):=by
 have hc:=hb.cell;have hf:=hb.frozen
 go_enter func208,ntmps208
 go_wp2
 go_end0
 exact⟨⟨_,rfl⟩,hb.set _,grownBy_setCell' _ _ _⟩
def Quiet (w:World) (bp bM:Nat) (st:St) (e:Ending) (w':World):Prop:=(∃ v,e = .returned v)/\Ao w' bp bM st/\zt (λk=>k=bp\/k=bM) w w'
theorem azH (w:World) (bp bM:Nat) (st:St) (hp:Ao w bp bM st):Calls prog 207 #[.pointer (some ⟨bp,0,none⟩)] w (Quiet w bp bM (0,st.2.1,st.2.2)):=by
 obtain⟨p0,p1,p2⟩:=Vh hp;have H:=Lib.hid (azG w bM _ hp.2.1);have lp:=(Array.getElem?_eq_some_iff.1 hp.1).1
 go_enter func207,ntmps207
 go_wp2_with (go_at_call 208;refine H.out.mono ?_;rintro e w1 ⟨⟨v,rfl⟩,hM,hg⟩)
 go_end0
 exact⟨⟨_,rfl⟩,⟨(hg.block _ lp (λe=>hp.2.2 (Option.some.inj e))).trans hp.1,hM,hp.2.2⟩,zt.aC0 hg (λk e=>.inl (.inr (Option.some.inj e).symm))⟩
theorem azI (w:World) (bp bM B1 B2:Nat) (st:St) (m t:Int) (hp:Ao w bp bM st) (h1:w.heap[B1]? = some (.cells #[.int .u8 m] 5)) (h2:w.heap[B2]? = some (.cells #[.int .u8 t] 5)) (hne:B1≠bp/\B2≠bp) :
  Calls prog 205 #[.pointer (some ⟨bp,0,none⟩),.pointer (some ⟨B1,0,none⟩),.pointer (some ⟨B2,0,none⟩)] w (Quiet w bp bM (st.1,m,t)):=by
 obtain⟨p0,p1,p2⟩:=Vh hp;have c1:w.cell? ⟨B1,0,none⟩=some (.int .u8 m):=by simp[World.cell?,h1]
 have c2:w.cell? ⟨B2,0,none⟩=some (.int .u8 t):=by simp[World.cell?,h2]
 have f1:w.frozen? ⟨bp,1,none⟩=false:=by simp[World.frozen?,hp.1]
 have f2:w.frozen? ⟨bp,2,none⟩=false:=by simp[World.frozen?,hp.1]
 have n1:=hne.1;have n2:=hne.2;have lM:=hp.2.1.lt
 have hq:Quiet w bp bM (st.1,m,t) (.returned (.tuple #[])) ((w.setCell ⟨bp,1,none⟩ (.int .u8 m)).setCell ⟨bp,2,none⟩ (.int .u8 t)).drew:=by have g1:=yQ w bp 1 (.int .u8 m);have g2:=yQ (w.setCell ⟨bp,1,none⟩ (.int .u8 m)) bp 2 (.int .u8 t);have g3:=grownBy_trans g1 g2;have s2:=zq (i:=2) (zq (i:=1) hp.1 (.int .u8 m)) (.int .u8 t);exact⟨⟨_,rfl⟩,⟨s2,(g3.block _ lM (λe=>hp.2.2 (Option.some.inj e).symm)).trans hp.2.1,hp.2.2⟩,zt.aC0 (grownBy_trans g3 (IX _ _)) (λk e=>.inl (.inl (Option.some.inj e).symm))⟩
 go_enter func205,ntmps205
 go_wp2_with fail
 go_region_with fail
 all_goals go_end0
 all_goals exact⟨⟨_,rfl⟩,hq.2⟩
theorem azJ (w:World) (bp bM:Nat) (st:St) (hN:JN.aCm w) (hp:Ao w bp bM st) (hs:st.1<32):Calls prog 210 #[.pointer (some ⟨bp,0,none⟩)] w λe w'=>e = .returned (.tuple #[.string ⟨(Cn ((st.1%32:Nat):Int)).toArray⟩,.int .i64 0])/\vY w w':=by
 obtain⟨p0,p1,p2⟩:=Vh hp;rw[Nat.mod_eq_of_lt hs];have H:=Lib.hid (alI w (st.1:Int) (by omega) (by omega) hN)
 go_enter func210,ntmps210
 go_wp2_with (first|(go_at_call 54;refine(ajt w bM _ hp.2.1).mono ?_;rintro e w1 ⟨rfl,rfl⟩)|(go_at_call 211;refine H.out.mono ?_;rintro e w2 ⟨rfl,hB⟩))
 go_ret2
 exact⟨rfl,hB⟩
theorem azK (a:Sc.By) (x:UInt8) (b:Sc.By):(⟨(a++x::b).toArray⟩:ByteArray)=⟨a.toArray⟩++⟨#[x]⟩++⟨b.toArray⟩:=by apply ByteArray.ext;simp
theorem aey {w W X V:World} {bp bM B:Nat} {st':St} {r:Out} {l:Sc.By} {sA:ByteArray} (hcat:(⟨l.toArray⟩:ByteArray)=sA) (hX3:Ao X bp bM st') (hk1:zt (λk=>k=bp\/k=bM\/k=B) w W) (hX4:zt (λk=>k=bM) W X) (hB:vY X V) :
  Ending.returned (.tuple #[.string sA,.int .i64 r.1]) = .returned (.tuple #[.string ⟨l.toArray⟩,.int .i64 r.1])/\Ao V bp bM st'/\zt (λk=>k=bp\/k=bM\/k=B) w V:=by
 refine⟨by rw[hcat],hX3.kept (Below.block hB _ (Array.getElem?_eq_some_iff.1 hX3.1).1) (Below.block hB _ hX3.2.1.lt),?_⟩;refine zt.trans hk1 (zt.trans ⟨hX4.1,hX4.2.1,hX4.2.2.1,hX4.2.2.2.1,λk hk hs=>hX4.2.2.2.2 k hk (λe=>hs (.inr (.inl e)))⟩ (zt.aDX hB))
def Ki (X:World) (B R:Nat) (o f t m i:Int) (a b c:Int×Int) (r:Out) (V:World):Prop:=vY X V/\V.cell? ⟨B,0,none⟩=some (.int .u8 o)/\V.cell? ⟨B,1,none⟩=some (.int .u8 f)/\V.cell? ⟨B,2,none⟩=some (.int .u8 t)/\V.cell? ⟨B,3,none⟩=some (.int .u8 m)/\V.cell? ⟨B,4,none⟩=some (.int .u8 i)/\V.cell? ⟨B,5,none⟩=some (.int .u64 a.1)/\V.cell? ⟨B,6,none⟩=some (.int .u64 a.2)/\V.cell? ⟨B,7,none⟩=some (.int .u64 b.1)/\V.cell? ⟨B,8,none⟩=some (.int .u64 b.2)/\V.cell? ⟨B,9,none⟩=some (.int .u64 c.1)/\V.cell? ⟨B,10,none⟩=some (.int .u64 c.2)/\V.cell? ⟨R,0,none⟩=some (.int .i64 r.1)/\V.cell? ⟨R,1,none⟩=some (.int .u64 r.2.1)/\V.cell? ⟨R,2,none⟩=some (.int .u64 r.2.2.1)/\V.cell? ⟨R,3,none⟩=some (.int .u8 (r.2.2.2:Int))
theorem Ki.bel {X:World} {B R:Nat} {o f t m i:Int} {a b c:Int×Int} {r:Out} {V V':World} (h:Ki X B R o f t m i a b c r V) (hB:vY V V'):Ki X B R o f t m i a b c r V':=by obtain⟨h0,h1,h2,h3,h4,h5,h6,h7,h8,h9,h10,h11,h12,h13,h14,h15⟩:=h;exact⟨vY.trans h0 hB,(hB.cell _ _ (Aa h1)).trans h1,(hB.cell _ _ (Aa h2)).trans h2,(hB.cell _ _ (Aa h3)).trans h3,(hB.cell _ _ (Aa h4)).trans h4,(hB.cell _ _ (Aa h5)).trans h5,(hB.cell _ _ (Aa h6)).trans h6,(hB.cell _ _ (Aa h7)).trans h7,(hB.cell _ _ (Aa h8)).trans h8,(hB.cell _ _ (Aa h9)).trans h9,(hB.cell _ _ (Aa h10)).trans h10,(hB.cell _ _ (Aa h11)).trans h11,(hB.cell _ _ (Aa h12)).trans h12,(hB.cell _ _ (Aa h13)).trans h13,(hB.cell _ _ (Aa h14)).trans h14,(hB.cell _ _ (Aa h15)).trans h15⟩
theorem azL (w0 w:World) (hG:Gl gG w0) (hN:JN.aCm w0) (hb0:vY w0 w) (B bp bM:Nat) (hge:w0.heap.size<=bp/\w0.heap.size<=bM/\w0.heap.size<=B) (o f t:Int) (a b c:Int×Int) (st:St) (hp:Ao w bp bM st) (hB:w.heap[B]? = some (.cells (zH o f t 0 0 a b c) 31)) (hne:B≠bp/\B≠bM) (hw:Gt (.op o f t a b c)) (hs:N7 st) :
  Calls prog 254 #[.pointer (some ⟨bp,0,none⟩),.pointer (some ⟨B,0,none⟩)] w λe w'=>e = .returned (.tuple #[.string ⟨(act (.op o f t a b c) st).1.1.toArray⟩,.int .i64 (act (.op o f t a b c) st).1.2])/\Ao w' bp bM (act (.op o f t a b c) st).2/\zt (λk=>k=bp\/k=bM\/k=B) w w':=by
 obtain⟨p0,p1,p2⟩:=Vh hp;have f3:w.frozen? ⟨B,3,none⟩=false:=by simp[World.frozen?,hB]
 have f4:w.frozen? ⟨B,4,none⟩=false:=by simp[World.frozen?,hB]
 have e3:w.cell? ⟨B,3,none⟩=some (.int .u8 0):=by simp[World.cell?,hB]
 have e4:w.cell? ⟨B,4,none⟩=some (.int .u8 0):=by simp[World.cell?,hB]
 have q1:bp≠B:=λh=>hne.1 h.symm
 have hrun:=azy o f t st.2.1 st.2.2 a b c hw.1 hw.2.1 hw.2.2.1 hs.2.1 hs.2.2 hw.2.2.2.1 hw.2.2.2.2.1 hw.2.2.2.2.2;have hfl:(oE (xw [o,f,t,st.2.1,st.2.2,a.1,a.2,b.1,b.2,c.1,c.2])).2.2.2<=255:=acV _;simp only[act];generalize oE (xw [o,f,t,st.2.1,st.2.2,a.1,a.2,b.1,b.2,c.1,c.2])=r at *
 go_enter func254,ntmps254
 go_wp2_with fail
 rename_i Q K hK
 have key:∀ W,alS w B bp bM o f t a b c st W->Exit.then K Q Exit.normal { tmps:=#[.pointer (some ⟨bp,0,none⟩),.pointer (some ⟨B,0,none⟩),undef,.string ⟨#[]⟩,.int .i64 0,undef,.pointer (some ⟨bp,0,none⟩),.pointer (some ⟨bp,0,none⟩),.pointer (some ⟨bp,1,none⟩),.int .u8 st.2.1,.pointer (some ⟨bp,0,none⟩),.pointer (some ⟨bp,0,none⟩),.pointer (some ⟨bp,2,none⟩),.int .u8 st.2.2,.pointer (some ⟨B,3,none⟩),.pointer (some ⟨B,4,none⟩),undef,undef,undef,undef,undef,undef,undef,undef,undef,undef,undef,undef,undef,undef,undef,undef,undef],defers:=[] } W:=by
  intro W hF;obtain⟨hB1,hp1,hk1⟩:=hF;have hge2:=hne;have hb1:vY w0 W:=aev hb0 hk1 (λk hk=>by rcases hk with rfl|rfl|rfl<;>omega);obtain⟨p0,p1,p2⟩:=Vh hp1;obtain⟨x0,x1,x2,x3,x4,x5,x6,x7,x8,x9,x10⟩:=aew hB1;obtain⟨y0,y1,y2,y3,y4,y5,y6,y7,y8,y9,y10⟩:=aew (alloc_at hB1 (Obj.cells #[Value.int IntKind.i64 0,Value.int IntKind.u64 0,Value.int IntKind.u64 0,Value.int IntKind.u8 0] 41));have p5:(W.alloc (Obj.cells #[Value.int IntKind.i64 0,Value.int IntKind.u64 0,Value.int IntKind.u64 0,Value.int IntKind.u8 0] 41)).cell? ⟨bp,0,none⟩=some (.pointer (some ⟨bM,0,none⟩)):=by have:=alloc_at hp1.1 (Obj.cells #[Value.int IntKind.i64 0,Value.int IntKind.u64 0,Value.int IntKind.u64 0,Value.int IntKind.u8 0] 41);simp only[World.cell?,this];rfl
  have lM:=hp1.2.1.lt
  have HD:Hid (∀ X,vY W X->Calls prog 53 #[.pointer (some ⟨bM,0,none⟩),.agg (zH o f t st.2.1 st.2.2 a b c)] X λe X'=>e = .returned (XV r.1 r.2.1 r.2.2.1 r.2.2.2)/\Boxed X' bM tM (.int .u8 (J [st.1,r.2.2.2]:Int))/\X.grownBy X' (some bM)):=Lib.hid λX hX =>
   ajs X (hG.bel (vY.trans hb1 hX)) bM st.1 r.2.2.2 (by have:=hs.1;omega) hfl _ _ _ _ _ _ _ _ _ _ _ r.1 r.2.1 r.2.2.1 ((Below.block hX bM lM).trans hp1.2.1) hrun
  go_wp2_with fail
  rename_i K2 hK2
  have key2:∀ (R:Nat) X,Did W B bp bM R o f t a b c st r X->Exit.then K2 Q Exit.normal { tmps:=#[.pointer (some ⟨bp,0,none⟩),.pointer (some ⟨B,0,none⟩),undef,.string ⟨#[]⟩,.int .i64 0,.pointer (some ⟨R,0,none⟩),.pointer (some ⟨bp,0,none⟩),.pointer (some ⟨bp,0,none⟩),.pointer (some ⟨bp,1,none⟩),.int .u8 st.2.1,.pointer (some ⟨bp,0,none⟩),.pointer (some ⟨bp,0,none⟩),.pointer (some ⟨bp,2,none⟩),.int .u8 st.2.2,.pointer (some ⟨B,3,none⟩),.pointer (some ⟨B,4,none⟩),.pointer (some ⟨bp,0,none⟩),.pointer (some ⟨bp,0,none⟩),.pointer (some ⟨bp,0,none⟩),.pointer (some ⟨bM,0,none⟩),.agg (zH o f t st.2.1 st.2.2 a b c),XV r.1 r.2.1 r.2.2.1 r.2.2.2,undef,undef,undef,undef,undef,undef,undef,undef,undef,undef,undef],defers:=[] } X:=by
   intro R X hX;obtain⟨hX1,hX2,hX3,hX4⟩:=hX;have hb2:vY w0 X:=aev hb1 hX4 (λk hk=>by rw[hk];exact hge.2.1);obtain⟨z0,z1,z2,z3,z4,z5,z6,z7,z8,z9,z10⟩:=aew hX1;have r0:=Qs hX2;have r1:=Qt hX2;have r2:=Qu hX2;have r3:=Qv hX2;have HA:=Lib.hid (λV (hV:Ki X B R o f t st.2.1 st.2.2 a b c r V)=>(azC V (hG.bel (vY.trans hb2 hV.1)) o f t st.2.1 st.2.2 (r.2.1,r.2.2.1) a b c hw.1 hw.2.1 hw.2.2.1).mono λe V' (hh:e = .returned (.string ⟨(Co o f t (r.2.1,r.2.2.1)).toArray⟩)/\vY V V')=>(⟨hh.1,hV.bel hh.2⟩:e = .returned (.string ⟨(Co o f t (r.2.1,r.2.2.1)).toArray⟩)/\Ki X B R o f t st.2.1 st.2.2 a b c r V'));have HT:=Lib.hid (λV (hV:Ki X B R o f t st.2.1 st.2.2 a b c r V)=>(alI V (r.2.2.2:Int) (by omega) (by omega) (hN.bel (vY.trans hb2 hV.1))).mono λe V' (hh:e = .returned (.string ⟨(Cn (r.2.2.2:Int)).toArray⟩)/\vY V V')=>(⟨hh.1,hV.bel hh.2⟩:e = .returned (.string ⟨(Cn (r.2.2.2:Int)).toArray⟩)/\Ki X B R o f t st.2.1 st.2.2 a b c r V'));have hS0:Ki X B R o f t st.2.1 st.2.2 a b c r X:=⟨vY.refl X,z0,z1,z2,z3,z4,z5,z6,z7,z8,z9,z10,r0,r1,r2,r3⟩;have k0:=hS0.1;unfold Ki at HA HT hS0;obtain⟨sA,hsA⟩:∃ sA:ByteArray,sA=⟨(Co o f t (r.2.1,r.2.2.1)).toArray⟩:=⟨_,rfl⟩;obtain⟨sT,hsT⟩:∃ sT:ByteArray,sT=⟨(Cn (r.2.2.2:Int)).toArray⟩:=⟨_,rfl⟩;have lA:sA.size<=32:=by rw[hsA];exact(alO o f t (r.2.1,r.2.2.1)).2
   have lT:sT.size<=60:=by rw[hsT];exact(aeu (r.2.2.2:Int) (by omega) (by omega)).1
   have q1:¬ (sA.size+1>9223372036854775807):=by omega
   have q2:¬ (sA.size+1+sT.size>9223372036854775807):=by omega
   have hcat:(⟨(Co o f t (r.2.1,r.2.2.1)++32::Cn (r.2.2.2:Int)).toArray⟩:ByteArray)=sA++⟨#[32]⟩++sT:=by rw[hsA,hsT];exact azK _ _ _
   rw[<- hsA] at HA;rw[<- hsT] at HT;have hcat:=Lib.hid hcat;clear hsA hsT
   go_wp2_with fail
   go_region_held3 (λV=>vY X V/\V.cell? ⟨B,0,none⟩=some (.int .u8 o)/\V.cell? ⟨B,1,none⟩=some (.int .u8 f)/\V.cell? ⟨B,2,none⟩=some (.int .u8 t)/\V.cell? ⟨B,3,none⟩=some (.int .u8 st.2.1)/\V.cell? ⟨B,4,none⟩=some (.int .u8 st.2.2)/\V.cell? ⟨B,5,none⟩=some (.int .u64 a.1)/\V.cell? ⟨B,6,none⟩=some (.int .u64 a.2)/\V.cell? ⟨B,7,none⟩=some (.int .u64 b.1)/\V.cell? ⟨B,8,none⟩=some (.int .u64 b.2)/\V.cell? ⟨B,9,none⟩=some (.int .u64 c.1)/\V.cell? ⟨B,10,none⟩=some (.int .u64 c.2)/\V.cell? ⟨R,0,none⟩=some (.int .i64 r.1)/\V.cell? ⟨R,1,none⟩=some (.int .u64 r.2.1)/\V.cell? ⟨R,2,none⟩=some (.int .u64 r.2.2.1)/\V.cell? ⟨R,3,none⟩=some (.int .u8 (r.2.2.2:Int))) (first|exact hS'|((try dsimp only);(repeat' apply And.intro)<;>first|assumption|exact k0.drew|go_keep))
    (first|(go_at_call 255;refine(HA.out _ (by assumption)).mono ?_;rintro e w' ⟨rfl,hS'⟩)|(go_at_call 211;refine(HT.out _ (by assumption)).mono ?_;rintro e w' ⟨rfl,hS'⟩))
   all_goals go_wp2
   all_goals go_ret2
   all_goals first|(rename_i hS;have z:=aey (r:=r) hcat.out hX3 hk1 hX4 hS.1;exact z)|(rename_i hS _;have z:=aey (r:=r) hcat.out hX3 hk1 hX4 hS.1;exact z)|(rename_i hS _ _;have z:=aey (r:=r) hcat.out hX3 hk1 hX4 hS.1;exact z)
  go_region_with (go_at_call 53;refine(HD.out _ (by first|exact(vY.refl _).drew|exact((vY.refl _).alloc _).drew)).mono ?_;rintro e w1 ⟨rfl,hM1,hg1⟩;first|(have hR1:=(hg1.block W.heap.size (by simp) (by intro e;have:=Option.some.inj e;omega)).trans (show _=some (Obj.cells #[Value.int IntKind.i64 0,Value.int IntKind.u64 0,Value.int IntKind.u64 0,Value.int IntKind.u8 0] 41) from World.alloc_heap_new W _);have c0:=Qs hR1;have c1:=Qt hR1;have c2:=Qu hR1;have c3:=Qv hR1;have d0:=LH 0 hR1;have d1:=LH 1 hR1;have d2:=LH 2 hR1;have d3:=LH 3 hR1)|skip)
  all_goals refine key2 _ _ ?_
  all_goals first|(have z:=azF (st:=st) (r:=r) hB1 hp1 hge2 hM1 hg1 hR1;exact z)|(have z:=azE (st:=st) (r:=r) hB1 hp1 hge2 hM1 hg1;exact z)
 go_region_with fail
 all_goals exact key _ (filled hp hB hne)
def alT (w:World) (bp bM a b:Nat) (c:xN) (st:St) (e:Ending) (w':World):Prop :=
 e = .returned (.tuple #[.string ⟨(act c st).1.1.toArray⟩,.int .i64 (act c st).1.2])/\Ao w' bp bM (act c st).2/\zt (λk=>k=bp\/k=bM\/a<=k/\k<b) w w'
theorem zt.wide {S T:Nat->Prop} {A B:World} (h:zt S A B) (hS:∀ k,S k->T k):zt T A B:=⟨h.1,h.2.1,h.2.2.1,h.2.2.2.1,λk hk ht=>h.2.2.2.2 k hk (λhs=>ht (hS k hs))⟩
theorem azM (w:World) (bp bM B1 B2 B3:Nat) (st:St) (m t:Int) (hp:Ao w bp bM st) (h1:w.heap[B1]? = some (.cells #[.int .u8 m] 5)) (h2:w.heap[B2]? = some (.cells #[.int .u8 t] 5)) (h3:w.heap[B3]? = some (.cells #[.func (.func 205) #[] #[.pointer (some ⟨B1,0,none⟩),.pointer (some ⟨B2,0,none⟩)]] 283)) (hne:B1≠bp/\B2≠bp) :
  Calls prog 259 #[.pointer (some ⟨bp,0,none⟩),.pointer (some ⟨B3,0,none⟩)] w λe w'=>e = .returned (.tuple #[.string ⟨#[]⟩,.int .i64 0])/\Ao w' bp bM (st.1,m,t)/\zt (λk=>k=bp\/k=bM) w w':=by
 have H:=Lib.hid (azI w bp bM B1 B2 st m t hp h1 h2 hne);have c3:=cell_of h3;clear h1 h2 h3
 go_enter func259,ntmps259
 go_wp2_with (go_at_call 205;refine H.out.mono ?_;rintro e w1 ⟨⟨v,rfl⟩,hP,hK⟩)
 go_ret2
 exact⟨rfl,hP,hK⟩
theorem azN (w:World) (bp bM B3:Nat) (st:St) (hp:Ao w bp bM st) (h3:w.heap[B3]? = some (.cells #[.func (.func 207) #[] #[]] 283)) :
  Calls prog 259 #[.pointer (some ⟨bp,0,none⟩),.pointer (some ⟨B3,0,none⟩)] w λe w'=>e = .returned (.tuple #[.string ⟨#[]⟩,.int .i64 0])/\Ao w' bp bM (0,st.2.1,st.2.2)/\zt (λk=>k=bp\/k=bM) w w':=by
 have H:=Lib.hid (azH w bp bM st hp);have c3:=cell_of h3;clear h3
 go_enter func259,ntmps259
 go_wp2_with (go_at_call 207;refine H.out.mono ?_;rintro e w1 ⟨⟨v,rfl⟩,hP,hK⟩)
 go_ret2
 exact⟨rfl,hP,hK⟩
theorem azO (w0 w:World) (hG:Gl gG w0) (hN:JN.aCm w0) (hb0:vY w0 w) (bp bM a b:Nat) (hge:w0.heap.size<=bp/\w0.heap.size<=bM/\w0.heap.size<=a) (st:St) (v:Value) (c:xN) (hd:EK w a b v c) (hp:Ao w bp bM st) (hout:¬ (a<=bp/\bp<b)/\¬ (a<=bM/\bM<b)) (hw:Gt c) (hs:N7 st) :
  ∃ g caps,v = .func (.func g) #[] caps/\(∀ args X,(callFunc g args).run prog X = .ok (.enter g args) X)/\Calls prog g (#[.pointer (some ⟨bp,0,none⟩)]++caps) w (alT w bp bM a b c st):=by
 cases c with
 | op o f t x y z =>
  obtain⟨B,h1,h2,rfl,h4⟩:=hd;refine⟨_,_,rfl,enters func254 (by kernel_rfl) rfl,?_⟩;refine(azL w0 w hG hN hb0 B bp bM ⟨hge.1,hge.2.1,by omega⟩ o f t x y z st hp h4 ⟨λe=>hout.1 (e▸⟨h1,h2⟩),λe=>hout.2 (e▸⟨h1,h2⟩)⟩ hw hs).mono ?_;rintro e w' ⟨he,hP,hK⟩;exact⟨he,hP,hK.wide λk hk=>by rcases hk with h|h|h;exact .inl h;exact .inr (.inl h);exact .inr (.inr (h▸⟨h1,h2⟩))⟩
 | env m t =>
  obtain⟨B1,B2,B3,h1,h2,h3,h4,h5,h6,rfl,h8,h9,h10⟩:=hd;refine⟨_,_,rfl,enters func259 (by kernel_rfl) rfl,?_⟩;refine(azM w bp bM B1 B2 B3 st m t hp h9 h10 h8 ⟨λe=>hout.1 (e▸⟨h1,h2⟩),λe=>hout.1 (e▸⟨h3,h4⟩)⟩).mono ?_;rintro e w' ⟨he,hP,hK⟩;exact⟨he,hP,hK.wide λk hk=>by rcases hk with h|h;exact .inl h;exact .inr (.inl h)⟩
 | clear =>
  obtain⟨B,h1,h2,rfl,h4⟩:=hd;refine⟨_,_,rfl,enters func259 (by kernel_rfl) rfl,?_⟩;refine(azN w bp bM B st hp h4).mono ?_;rintro e w' ⟨he,hP,hK⟩;exact⟨he,hP,hK.wide λk hk=>by rcases hk with h|h;exact .inl h;exact .inr (.inl h)⟩
 | sticky =>
  obtain rfl:v = .func (.func 210) #[] #[]:=hd;refine⟨_,_,rfl,enters func210 (by kernel_rfl) rfl,?_⟩;refine(azJ w bp bM st (hN.bel hb0) hp hs.1).mono ?_;rintro e w' ⟨he,hB⟩;exact⟨he,hp.kept (Below.block hB _ (Array.getElem?_eq_some_iff.1 hp.1).1) (Below.block hB _ hp.2.1.lt),zt.aDX hB⟩
abbrev tB:TypeId:=107
def aDC (w:World):Prop:=Gl gG w/\JN.aCm w/\Lib.TabIs prog w "internal/strconv.uint64pow10" .u64 Lib.pow10Tab/\∃ m,w.cell? ⟨3,0,none⟩=some (.int .i64 m)
theorem aD1 {w:World} (h:Gl gG w):aDC w:=⟨h,λj hj=>(h.2.1 j hj).trans (by
 have:j=0\/j=1\/j=2\/j=3\/j=4:=by omega
 rcases this with rfl|rfl|rfl|rfl|rfl<;>rfl),h.2.2.1,h.2.2.2⟩
theorem alU {w w':World} (h:Lib.TabIs prog w "internal/strconv.uint64pow10" .u64 Lib.pow10Tab) (hB:vY w w'):Lib.TabIs prog w' "internal/strconv.uint64pow10" .u64 Lib.pow10Tab :=
 Lib.tabBelow_of_tabIs h w' hB
theorem aDC.bel {w w':World} (h:aDC w) (hB:vY w w'):aDC w':=by obtain⟨h1,h2,h3,m,h4⟩:=h;exact⟨h1.bel hB,h2.bel hB,alU h3 hB,m,(hB.cell _ _ (Aa h4)).trans h4⟩
theorem azP (w0:World) (hT:Lib.TabIs prog w0 "internal/strconv.uint64pow10" .u64 Lib.pow10Tab) (n:Int) (h0:0<=n) (h1:n<=5000) (w:World) (hB:vY w0 w) :
  Calls prog 57 #[.int .i64 n] w λe w'=>e = .returned (.string ⟨(Lib.itoa n).toArray⟩)/\vY w w':=by
 refine(Tryz.strconv_Itoa n (by omega) (by omega) w (alU hT hB)).mono ?_;rintro e w' ⟨he,k,os,rfl⟩;refine⟨he,⟨rfl,rfl,rfl,by simp[Go.Sort.grow,World.drewN],λb hb=>?_⟩⟩;show(w.heap++os)[b]? = w.heap[b]?;rw[Array.getElem?_append_left hb]
theorem alV {T e:TypeId} {b:Nat} {bs:List Value} {A B:World} (h:Lib.IsBuilder T e b b bs A) (hk:∀ k,b<=k->k<A.heap.size->B.heap[k]? = A.heap[k]?):Lib.IsBuilder T e b b bs B:=by
 have key:∀ p,Lib.BuilderAt T e b b p bs A->Lib.BuilderAt T e b b p bs B:=by
  rintro p ⟨h1,v,h2,⟨h3,h4⟩,h5⟩;refine⟨h1,v,(hk b (Nat.le_refl _) (Array.getElem?_eq_some_iff.1 h2).1).trans h2,⟨h3,?_⟩,h5⟩;rcases h4 with h4|⟨g,cap,cur,h6,h7,h8,h9⟩
  ·exact .inl h4
  ·exact .inr ⟨g,cap,cur,h6,h7,(hk g h7 (Array.getElem?_eq_some_iff.1 h8).1).trans h8,h9⟩
 rcases h with h|h
 ·exact .inl (key _ h)
 ·exact .inr (key _ h)
def Dv (w w1:World) (L:List (Nat×Nat×Value×xN)) (bp bM bb k:Nat) (st:St) (l:Sc.By) (X:World):Prop :=
 vY w X/\bb<X.heap.size/\(∀ b,b<w1.heap.size->(∀ j x,j<k->L[j]? = some x->¬ (x.1<=b/\b<x.2.1))->X.heap[b]? = w1.heap[b]?)/\Ao X bp bM st/\Lib.IsBuilder tB 5 bb bb (Lib.byteCells l) X
theorem Dv.bel {w w1:World} {L:List (Nat×Nat×Value×xN)} {bp bM bb k:Nat} {st:St} {l:Sc.By} {X Y:World} (h:Dv w w1 L bp bM bb k st l X) (hw:w1.heap.size<=bb) (hB:vY X Y):Dv w w1 L bp bM bb k st l Y:=by obtain⟨h1,h2,h3,h4,h5⟩:=h;refine⟨vY.trans h1 hB,Nat.lt_of_lt_of_le h2 (Below.size hB),λb hb hx=>(Below.block hB b (by omega)).trans (h3 b hb hx),h4.kept (Below.block hB _ (Array.getElem?_eq_some_iff.1 h4.1).1) (Below.block hB _ h4.2.1.lt),alV h5 λk _ hk=>Below.block hB k hk⟩
theorem Dv.write {w w1:World} {L:List (Nat×Nat×Value×xN)} {bp bM bb k:Nat} {st:St} {l m:Sc.By} {X Y:World} (h:Dv w w1 L bp bM bb k st l X) (hw:w1.heap.size<=bb) (hw0:w.heap.size<=bb) (hlt:bp<bb/\bM<bb) (hB:Below bb X Y) (hb:Lib.BuilderAt tB 5 bb bb (.pointer (some ⟨bb,0,none⟩)) (Lib.byteCells l++Lib.strCells ⟨m.toArray⟩) Y):Dv w w1 L bp bM bb k st (l++m) Y:=by
 obtain⟨h1,h2,h3,h4,h5⟩:=h;refine⟨⟨(Below.os hB).trans (Below.os h1),(Below.tape hB).trans (Below.tape h1),(Below.output hB).trans (Below.output h1),Nat.le_trans (Below.size h1) (Below.size hB),λk hk=>(Below.block hB k (by omega)).trans (Below.block h1 k hk)⟩,Nat.lt_of_lt_of_le h2 (Below.size hB),λb hb hx=>(Below.block hB b (by omega)).trans (h3 b hb hx),h4.kept (Below.block hB _ hlt.1) (Below.block hB _ hlt.2),.inr ?_⟩
 have e:Lib.byteCells (l++m)=Lib.byteCells l++Lib.strCells ⟨m.toArray⟩:=by rw[Lib.strCells_toArray];simp[Lib.byteCells]
 rw[e];exact hb
theorem Dv.done {w w1:World} {L:List (Nat×Nat×Value×xN)} {bp bM bb k:Nat} {st:St} {l:Sc.By} {X Y:World} {a b:Nat} {v:Value} {c:xN} {e:Ending} (h:Dv w w1 L bp bM bb k st l X) (hw:w1.heap.size<=bb) (hw0:w.heap.size<=bp/\w.heap.size<=bM/\w.heap.size<=a) (hlt:bp<bb/\bM<bb) (hge:w1.heap.size<=bp/\w1.heap.size<=bM) (hx:L[k]? = some (a,b,v,c)) (hb:b<=w1.heap.size) (hd:alT X bp bM a b c st e Y) :
  e = .returned (.tuple #[.string ⟨(act c st).1.1.toArray⟩,.int .i64 (act c st).1.2])/\Dv w w1 L bp bM bb (k+1) (act c st).2 l Y:=by
 obtain⟨h1,h2,h3,h4,h5⟩:=h;obtain⟨d1,d2,d3⟩:=hd;have hs:=d3.2.2.2.1;refine⟨d1,aev h1 d3 (λk hk=>by rcases hk with h|h|h<;>omega),Nat.lt_of_lt_of_le h2 hs,λi hi hn=>?_,d2,alV h5 λi hi1 hi2=>d3.2.2.2.2 i hi2 (by rintro(h|h|h)<;>omega)⟩;rw[d3.2.2.2.2 i (by omega) (by rintro(h|h|h);omega;omega;exact hn k _ (by omega) hx h)];exact h3 i hi (λj x hj hjx=>hn j x (by omega) hjx)
theorem Dv.next {w w1:World} {L:List (Nat×Nat×Value×xN)} {bp bM bb k n0:Nat} {st:St} {l:Sc.By} {X:World} {a b:Nat} {v u:Value} {c:xN} (h:Dv w w1 L bp bM bb k st l X) (hD:DL w1 n0 u L) (hx:L[k]? = some (a,b,v,c)) :
  n0<=a/\b<=w1.heap.size/\EK X a b v c/\∃ g cap,u = .slice (some ⟨g,0,none⟩) L.length cap/\X.cell? ⟨g,k,none⟩=some v:=by
 obtain⟨h1,h2,h3,h4,h5⟩:=h;obtain⟨hrow,hall,hpair⟩:=hD;have hm:=List.mem_of_getElem? hx;have hk:=(List.getElem?_eq_some_iff.1 hx).1;obtain⟨a1,a2,a3,a4⟩:=hall _ hm;refine⟨a1,a2,a3.kept λi hi1 hi2=>h3 i (by simp only at a2 hi2;omega) λj x hj hjx hin=>?_,?_⟩
 ·have hjl:=(List.getElem?_eq_some_iff.1 hjx).1;have hp:=List.pairwise_iff_getElem.1 hpair j k hjl hk hj;have e1:=(List.getElem?_eq_some_iff.1 hjx).2;have e2:=(List.getElem?_eq_some_iff.1 hx).2;rw[e1,e2] at hp;simp only at hp hi1 hi2;omega
 ·rcases hrow.2 with⟨_,h0⟩|⟨g,cap,cur,rfl,hb,hg,h6,h7,h8,h9⟩
  ·omega
  ·refine⟨g,cap,rfl,?_⟩;have hg1:=(Array.getElem?_eq_some_iff.1 hg).1
   have hX:X.heap[g]? = some (.cells cur Ve):=(h3 g hg1 λj x hj hjx hin=>by
    rcases(hall x (List.mem_of_getElem? hjx)).2.2.2 g rfl with h|h<;>omega).trans hg
   have hc:(L.map (·.2.2.1))[k]? = some v:=by rw[List.getElem?_map,hx];rfl
   rw[<- h9,List.getElem?_take] at hc;split at hc
   ·simpa [World.cell?,hX] using hc
   ·cases hc
section
variable {C:Type} (words:Sc.By->List Sc.By) (cmd:List Sc.By->Option C)
theorem aez:∀ (ls:List Sc.By) (i:Nat) (out:List C),out.length<=4096->(Sc.parse words cmd i out ls).1.length<=4096
 | [],i,out,h=>h
 | s::ls,i,out,h=>by
  rw[Sc.aCS];split
  ·exact aez ls _ _ h
  ·split
   ·simp
   ·split
    ·simp
    ·exact aez ls _ _ (by simp;omega)
theorem aeA (Q:C->Prop) (hQ:∀ ws c,cmd ws=some c->Q c):∀ (ls:List Sc.By) (i:Nat) (out:List C),(∀ c∈out,Q c)->∀ c∈(Sc.parse words cmd i out ls).1,Q c
 | [],i,out,h=>h
 | s::ls,i,out,h=>by
  rw[Sc.aCS];split
  ·exact aeA Q hQ ls _ _ h
  ·split
   ·simp
   ·split
    ·simp
    ·rename_i c hc;refine aeA Q hQ ls _ _ λx hx=>?_
     rcases List.mem_append.1 hx with hx|hx
     ·exact h x hx
     ·rw[List.mem_singleton.1 hx];exact hQ _ _ hc
end
theorem azQ (ws:List Sc.By) (c:xN) (h:EM ws=some c):Gt c:=by
 cases ws with
 | nil=>cases h
 | cons s ws =>
  have h:Bf (BR s) (ws.map BR)=some c:=h;unfold Bf at h
  cases hts:yG (BR s) (ws.map BR) with
  | none=>rw[hts] at h;cases h
  | some r =>
   obtain⟨c',ws'⟩:=r;rw[hts] at h
   cases ws' with
   | nil=>cases h;exact azw hts
   | cons x xs=>cases h
theorem azR:∀ u:Nat,(Lib.decDigits u).length<=u+1:=by
 intro u
 induction u using Nat.strongRecOn with
 | ind u ih =>
  by_cases h:u<10
  ·rw[Lib.decDigits_one h];simp
  ·rw[Lib.decDigits,dif_neg h];have:=ih (u/10) (by omega);simp;omega
theorem Sy (n:Nat):(Lib.itoa (n:Int)).length<=n+1:=by rw[Sc.aDw];exact azR n
theorem azS (i:Nat) (s:Sc.By) (e:Int) (he:e=0\/e=1):(Sc.say i s e).length<=i+s.length+20:=by
 have h1:(Lib.itoa ((i:Int)+1)).length<=i+2:=by have:=Sy (i+1);simpa using this
 have h2:(Lib.itoa e).length<=2:=by
  rcases he with rfl|rfl
  ·exact Nat.le_trans (Sy 0) (by decide)
  ·exact Sy 1
 unfold Sc.say;split<;>simp<;>omega
theorem alW:∀ (cs:List xN) (i:Nat) (st:St),i+cs.length<=5000->(Sc.aCo act i st cs).length<=6000*cs.length
 | [],i,st,_=>by simp[Sc.aCo]
 | c::cs,i,st,h=>by have ha:=alP c st;have h1:=azS i (act c st).1.1 (act c st).1.2 ha.1;have h2:=alW cs (i+1) (act c st).2 (by simp at h;omega);rw[Sc.aCo,List.length_append,List.length_cons];simp at h;have:=ha.2.2;omega
theorem alX:∀ (a b:List xN) (st:St),Sc.aCL act st (a++b)=Sc.aCL act (Sc.aCL act st a) b
 | [],_,_=>rfl
 | c::a,b,st=>by rw[List.cons_append,Sc.aCL,alX a b,Sc.aCL]
theorem azT {cs:List xN} {k:Nat} {c:xN} (h:cs[k]? = some c):Sc.aCL act st0 (cs.take (k+1))=(act c (Sc.aCL act st0 (cs.take k))).2/\Sc.aCo act 0 st0 (cs.take (k+1))=Sc.aCo act 0 st0 (cs.take k)++Sc.say k (act c (Sc.aCL act st0 (cs.take k))).1.1 (act c (Sc.aCL act st0 (cs.take k))).1.2:=by obtain⟨hk,rfl⟩:=List.getElem?_eq_some_iff.1 h;rw[List.take_succ_eq_append_getElem hk,alX,Sc.aDv];refine⟨rfl,?_⟩;rw[Sc.aCo,Sc.aCo,List.append_nil,List.length_take,Nat.min_eq_left (by omega),Nat.zero_add]
theorem alY:∀ (cs:List xN) (st:St),(∀ c∈cs,Gt c)->N7 st->N7 (Sc.aCL act st cs)
 | [],_,_,h=>h
 | c::cs,st,hc,h=>alY cs _ (λx hx=>hc x (List.mem_cons_of_mem _ hx)) (azB c st (hc c (by simp)) h)
theorem azU:N7 st0:=⟨by decide,by decide,by decide⟩
def Mi (s:ByteArray):Sc.By×Nat×Nat:=Sc.runT EL EM act st0 s.data.toList
theorem Vi (s:ByteArray):AA s=Sc.aCU EL EM s.data.toList:=by
 have h:s.data.toList.length=s.size:=by simp
 unfold AA Sc.aCU;rw[h]
theorem azV (s:ByteArray):(AA s).1.length<=4096/\∀ c∈(AA s).1,Gt c:=by
 unfold AA;split
 ·simp
 ·exact⟨aez _ _ _ _ _ (by simp),aeA _ _ _ azQ _ _ _ (by simp)⟩
theorem Sz (a b:Sc.By):(⟨a.toArray⟩:ByteArray)++⟨#[32]⟩++⟨b.toArray⟩++⟨#[10]⟩=⟨(a++32::(b ++ [10])).toArray⟩:=by apply ByteArray.ext;simp
theorem alZ (a:Sc.By):(⟨#[32,32]⟩:ByteArray)++⟨a.toArray⟩++⟨#[10]⟩=⟨(32::32::(a ++ [10])).toArray⟩:=by apply ByteArray.ext;simp
theorem Yv (l m:Sc.By):(Lib.byteCells l).length+(⟨m.toArray⟩:ByteArray).size=l.length+m.length:=by simp[Lib.byteCells,ByteArray.size]
theorem azW (s:ByteArray) (h:(AA s).2.2=0):Mi s=(Sc.aCo act 0 st0 (AA s).1,0,0):=by rw[Vi] at h ⊢;exact Sc.aDU EL EM act st0 _ h
theorem azX (s:ByteArray) (h:(AA s).2.2≠0):Mi s=([],(AA s).2.1,(AA s).2.2):=by
 rw[Vi] at h ⊢;unfold Mi Sc.runT;split
 ·rename_i h1;rw[h1] at h;exact absurd rfl h
 ·rename_i h1;rw[h1]
theorem azY {w:World} {n0:Nat} {v:Value} {L:List (Nat×Nat×Value×xN)} (h:DL w n0 v L):∃ ad cap,v = .slice ad L.length cap:=by
 rcases h.1.2 with⟨h1,h2⟩|⟨g,cap,cur,h1,h2⟩
 ·exact⟨none,0,by rw[h1,h2]⟩
 ·exact⟨_,cap,h1⟩
theorem azZ {w w1:World} (L:List (Nat×Nat×Value×xN)) (hB:vY w w1):Dv w w1 L (w1.heap.size+1) w1.heap.size (w1.heap.size+1+1) 0 st0 []
  (((w1.alloc (.cells #[.int .u8 0] tM)).alloc (.cells #[.pointer (some ⟨w1.heap.size,0,none⟩),.int .u8 0,.int .u8 0] tP)).alloc (.cells #[.pointer none,.slice none 0 0] tB)):=by
 have h1:=World.alloc_heap_new w1 (.cells #[.int .u8 0] tM);have h2:=Sr w1 (.cells #[.int .u8 0] tM) (.cells #[.pointer (some ⟨w1.heap.size,0,none⟩),.int .u8 0,.int .u8 0] tP);refine⟨((hB.alloc _).alloc _).alloc _,by simp,λb hb _=>?_,⟨alloc_at h2 _,alloc_at (alloc_at h1 _) _,by omega⟩,?_⟩
 ·rw[Below.heap_alloc _ _ _ (by simp;omega),Below.heap_alloc _ _ _ (by simp;omega),Below.heap_alloc _ _ _ hb]
 ·have h3:=Lib.fresh_isBuilder tB 5 ((w1.alloc (.cells #[.int .u8 0] tM)).alloc (.cells #[.pointer (some ⟨w1.heap.size,0,none⟩),.int .u8 0,.int .u8 0] tP))
  rwa [show((w1.alloc (.cells #[.int .u8 0] tM)).alloc (.cells #[.pointer (some ⟨w1.heap.size,0,none⟩),.int .u8 0,.int .u8 0] tP)).heap.size=w1.heap.size+1+1 by simp] at h3
theorem az0 (w:World) (hE:aDC w) (s:ByteArray):Calls prog 26 #[.string s] w λe w'=>e = .returned (.tuple #[.string ⟨(Mi s).1.toArray⟩,.int .i64 ((Mi s).2.1:Int),.int .i64 ((Mi s).2.2:Int)])/\vY w w':=by
 obtain⟨hG,hN,hT,m,hm⟩:=hE;have HP:=Lib.hid (aze w s m hm);have hok:=azV s
 have hline:(AA s).2.2=0->(AA s).2.1=0:=by
  unfold AA;split
  ·intro h;cases h
  ·exact Sc.aCT EL EM _ _ _
 by_cases he:(AA s).2.2=0
 ·have hl0:=hline he;rw[azW s he];generalize AA s=r at *
  obtain⟨cs,ln,er⟩:=r;simp only at he hl0;subst he;subst hl0;clear hline;have HI:=Lib.hid (λX (hX:vY w X) n (h0:0<=n) (h1:n<=5000)=>azP w hT n h0 h1 X hX);have hcap:=hok.1;have HW:=Lib.hid hok.2;clear hok
  go_enter func26,ntmps26
  go_wp2_with (first|(go_at_call 55;refine HP.out.mono ?_;rintro e w1 ⟨hB1,v,L,rfl,hDL,hmap⟩;obtain⟨ad,cap,rfl⟩:=azY hDL)|(go_at_call 52;refine(ajp _).mono ?_;rintro e w2 ⟨rfl,rfl⟩))
  obtain rfl:L.map (·.2.2.2)=cs:=hmap;have hst:=Lib.hid (azZ L hB1);have hlen:L.length<=4096:=by simpa using hcap
  clear hcap;have hw1:=Below.size hB1
  go_loopw [29] (λi W=>∃ k:Nat,i = .int .i64 (k:Int)/\k<=L.length/\Dv w w1 L (w1.heap.size+1) w1.heap.size (w1.heap.size+1+1) k (Sc.aCL act st0 ((L.map (·.2.2.2)).take k)) (Sc.aCo act 0 st0 ((L.map (·.2.2.2)).take k)) W) (λi _=>L.length-(intOf i).toNat)
  case atStart=>exact⟨0,rfl,Nat.zero_le _,hst.out⟩
  case round =>
   obtain⟨k,rfl,hk,hJ⟩:=hrel;by_cases hlt:k<L.length
   ·obtain⟨⟨a,b,vk,c⟩,hx⟩:∃ x,L[k]? = some x:=⟨_,List.getElem?_eq_getElem hlt⟩;have hnx:=hJ.next hDL hx
    obtain⟨ha1,hb1,hd,g,cap',hu,hck⟩:=hnx;obtain⟨rfl,rfl⟩:ad=some ⟨g,0,none⟩/\cap=cap':=by simpa using hu
    have hc:(L.map (·.2.2.2))[k]? = some c:=by rw[List.getElem?_map,hx];rfl
    obtain⟨hs1,hs2⟩:=azT hc;have hcw:=HW.out c (List.mem_of_getElem? hc);have hsw:=alY ((L.map (·.2.2.2)).take k) st0 (λx hx=>HW.out x (List.mem_of_mem_take hx)) azU;have hpl:=alW ((L.map (·.2.2.2)).take k) 0 st0 (by simp;omega);have hact:=alP c (Sc.aCL act st0 ((L.map (·.2.2.2)).take k));have hpl2:(Sc.aCo act 0 st0 ((L.map (·.2.2.2)).take k)).length<=30000000:=Nat.le_trans hpl (by simp;omega);clear hpl;have hS:=Lib.hid (And.intro hs1 hs2);clear hs1 hs2;generalize Sc.aCL act st0 ((L.map (·.2.2.2)).take k)=st at *
    generalize Sc.aCo act 0 st0 ((L.map (·.2.2.2)).take k)=pl at *
    have hJ1:=hJ.1;obtain⟨gf,caps,rfl,eg,HDo⟩:=azO w wr hG hN hJ1 (w1.heap.size+1) w1.heap.size a b ⟨by omega,by omega,by omega⟩ st vk c hd hJ.2.2.2.1 ⟨by omega,by omega⟩ hcw hsw;have q1:(k:Int)<(L.length:Int):=by omega
    have hq1:w1.heap.size<=w1.heap.size+1+1:=by omega
    have hq2:w.heap.size<=w1.heap.size+1/\w.heap.size<=w1.heap.size/\w.heap.size<=a:=⟨by omega,by omega,by omega⟩;have hq3:w1.heap.size+1<w1.heap.size+1+1/\w1.heap.size<w1.heap.size+1+1:=⟨by omega,by omega⟩;have hq4:w1.heap.size<=w1.heap.size+1/\w1.heap.size<=w1.heap.size:=⟨by omega,by omega⟩;have hq5:w.heap.size<=w1.heap.size+1+1:=by omega
    have li:(Lib.itoa ((k:Int)+1)).length<=5000:=by have:=Sy (k+1);simp at this;omega
    go_wp2_with fail
    refine HDo.mono ?_;rintro e W1 hdone;obtain⟨rfl,hJ2⟩:=hJ.done hq1 hq2 hq3 hq4 hx hb1 hdone;clear HDo hdone hd hJ;generalize act c st=A at *
    obtain⟨⟨sL,E⟩,st'⟩:=A;simp only at hact hJ2 hS ⊢;obtain⟨hE,_,hsl⟩:=hact;have z1:¬ ((Lib.itoa ((k:Int)+1)).length+1>9223372036854775807):=by omega
    have lE:(Lib.itoa E).length<=2:=by
     rcases hE with rfl|rfl
     ·exact Nat.le_trans (Sy 0) (by decide)
     ·exact Sy 1
    have z2:¬ ((Lib.itoa ((k:Int)+1)).length+1+(Lib.itoa E).length>9223372036854775807):=by omega
    have z3:¬ ((Lib.itoa ((k:Int)+1)).length+1+(Lib.itoa E).length+1>9223372036854775807):=by omega
    rcases hE with rfl|rfl
    ·by_cases hsn:sL = []
     ·subst hsn;have hsay:Sc.say k [] 0=Lib.itoa ((k:Int)+1)++32::(Lib.itoa 0 ++ [10]):=by simp[Sc.say]
      go_wp2_with (go_at_call 57;refine(HI.out _ (by first|exact hJ3.1|exact hJ2.1) _ (by omega) (by omega)).mono ?_;rintro e W2 ⟨rfl,hB2⟩;have hJ3:=Dv.bel (by first|exact hJ3|exact hJ2) hq1 hB2)
      obtain hlen4:(Lib.byteCells pl).length+((⟨(Lib.itoa ((k:Int)+1)).toArray⟩:ByteArray)++⟨#[32]⟩++⟨(Lib.itoa 0).toArray⟩++⟨#[10]⟩).size<=140737488355328:=by rw[Sz,Yv];simp;omega
      refine(Tryz.Builder_WriteString _ _ _ _ _ hJ3.2.2.2.2 hlen4 (Nat.le_of_lt hJ3.2.1)).mono ?_;rintro e Y ⟨rfl,hbd,hBl⟩;rw[Sz] at hbd;have hJ4:=hJ3.write hq1 hq5 hq3 hBl hbd;clear hbd hlen4
      go_wp2_with fail
      refine⟨⟨k+1,by simp,by omega,?_⟩,by simp only[intOf];omega⟩;obtain⟨e1,e2⟩:=hS.out;rw[e1,e2,hsay];exact hJ4
     ·have hsay:Sc.say k sL 0=(Lib.itoa ((k:Int)+1)++32::(Lib.itoa 0 ++ [10]))++(32::32::(sL ++ [10])):=by simp[Sc.say,hsn]
      have hse:List.isEmpty sL=false:=by simp[hsn]
      have y1:¬ (2+sL.length>9223372036854775807):=by omega
      have y2:¬ (2+sL.length+1>9223372036854775807):=by omega
      go_wp2_with (go_at_call 57;refine(HI.out _ (by first|exact hJ3.1|exact hJ2.1) _ (by omega) (by omega)).mono ?_;rintro e W2 ⟨rfl,hB2⟩;have hJ3:=Dv.bel (by first|exact hJ3|exact hJ2) hq1 hB2)
      obtain hlen4:(Lib.byteCells pl).length+((⟨(Lib.itoa ((k:Int)+1)).toArray⟩:ByteArray)++⟨#[32]⟩++⟨(Lib.itoa 0).toArray⟩++⟨#[10]⟩).size<=140737488355328:=by rw[Sz,Yv];simp;omega
      refine(Tryz.Builder_WriteString _ _ _ _ _ hJ3.2.2.2.2 hlen4 (Nat.le_of_lt hJ3.2.1)).mono ?_;rintro e Y ⟨rfl,hbd,hBl⟩;rw[Sz] at hbd;have hJ4:=hJ3.write hq1 hq5 hq3 hBl hbd;clear hbd hlen4
      go_wp2_with fail
      obtain hlen5:(Lib.byteCells (pl++(Lib.itoa ((k:Int)+1)++32::(Lib.itoa 0 ++ [10])))).length+((⟨#[32,32]⟩:ByteArray)++⟨sL.toArray⟩++⟨#[10]⟩).size<=140737488355328:=by rw[alZ,Yv];simp;omega
      refine(Tryz.Builder_WriteString _ _ _ _ _ hJ4.2.2.2.2 hlen5 (Nat.le_of_lt hJ4.2.1)).mono ?_;rintro e Z ⟨rfl,hbd,hBl2⟩;rw[alZ] at hbd;have hJ5:=hJ4.write hq1 hq5 hq3 hBl2 hbd;clear hbd hlen5
      go_wp2_with fail
      refine⟨⟨k+1,by simp,by omega,?_⟩,by simp only[intOf];omega⟩;obtain⟨e1,e2⟩:=hS.out;rw[e1,e2,hsay,<- List.append_assoc];exact hJ5
    ·have hsay:Sc.say k sL 1=Lib.itoa ((k:Int)+1)++32::(Lib.itoa 1 ++ [10]):=by simp[Sc.say]
     go_wp2_with (go_at_call 57;refine(HI.out _ (by first|exact hJ3.1|exact hJ2.1) _ (by omega) (by omega)).mono ?_;rintro e W2 ⟨rfl,hB2⟩;have hJ3:=Dv.bel (by first|exact hJ3|exact hJ2) hq1 hB2)
     obtain hlen4:(Lib.byteCells pl).length+((⟨(Lib.itoa ((k:Int)+1)).toArray⟩:ByteArray)++⟨#[32]⟩++⟨(Lib.itoa 1).toArray⟩++⟨#[10]⟩).size<=140737488355328:=by rw[Sz,Yv];simp;omega
     refine(Tryz.Builder_WriteString _ _ _ _ _ hJ3.2.2.2.2 hlen4 (Nat.le_of_lt hJ3.2.1)).mono ?_;rintro e Y ⟨rfl,hbd,hBl⟩;rw[Sz] at hbd;have hJ4:=hJ3.write hq1 hq5 hq3 hBl hbd;clear hbd hlen4
     go_wp2_with fail
     refine⟨⟨k+1,by simp,by omega,?_⟩,by simp only[intOf];omega⟩;obtain⟨e1,e2⟩:=hS.out;rw[e1,e2,hsay];exact hJ4
   ·obtain rfl:k=L.length:=by omega
    have q1:¬ (L.length:Int)<(L.length:Int):=by omega
    have ht:(L.map (·.2.2.2)).take L.length=L.map (·.2.2.2):=List.take_of_length_le (by simp);rw[ht] at hJ
    go_wp2_with fail
    refine(Tryz.Builder_String_any _ _ (Sc.aCo act 0 st0 (L.map (·.2.2.2))) _ hJ.2.2.2.2 (Nat.le_of_lt hJ.2.1)).mono ?_;rintro e Y ⟨rfl,hBl⟩;have hJ1:=hJ.1;have hBY:vY w Y:=⟨(Below.os hBl).trans (Below.os hJ1),(Below.tape hBl).trans (Below.tape hJ1),(Below.output hBl).trans (Below.output hJ1),Nat.le_trans (Below.size hJ1) (Below.size hBl),λi hi=>(Below.block hBl i (by omega)).trans (Below.block hJ1 i hi)⟩
    go_wp2_with fail
    try simp only[Exit.inBlock,Exit.then]
    refine bodyPost_ret (Sv rfl _ _ _) rfl ?_;exact⟨by first|rfl|simp,hBY⟩
 ·have q1:(((AA s).2.2:Int) != 0)=true:=by simp;omega
  rw[azX s he];generalize AA s=r at *
  clear hline
  go_enter func26,ntmps26
  go_wp2_with (go_at_call 55;refine HP.out.mono ?_;rintro e w1 ⟨hB1,v,L,rfl,hDL,hmap⟩)
  try simp only[Exit.inBlock,Exit.then]
  refine bodyPost_ret (Sv rfl _ _ _) rfl ?_;exact⟨rfl,hB1⟩
open Go.RowKit FlagM
theorem az1:EL=Sc.wl []:=funext λl=>Sc.aDV (BR l)
def Vj (n:Nat):Sc.By:=if n<10 then [UInt8.ofNat (48+n)] else [UInt8.ofNat (48+n/10),UInt8.ofNat (48+n%10)]
theorem al0 (n:Nat) (h:n<100):Lib.itoa (n:Int)=Vj n:=by
 rw[Sc.aDw,Vj];by_cases h1:n<10
 ·rw[if_pos h1,Lib.decDigits_one h1]
 ·rw[if_neg h1,Lib.decDigits,dif_neg h1,Lib.decDigits_one (by omega)];rfl
theorem az2 (k:Nat) (s:Sc.By) (e:Nat) (hk:k<99) (he:e<100):Sc.say k s (e:Int)=Vj (k+1)++32::(Vj e++10::(if e=0/\s ≠ [] then 32::32::(s ++ [10]) else [])):=by
 unfold Sc.say;rw[show((k:Int)+1)=((k+1:Nat):Int) by omega,al0 _ (by omega),al0 _ he];have:((e:Int)=0/\s ≠ [])↔(e=0/\s ≠ []):=by constructor<;>rintro⟨a,b⟩<;>exact⟨by omega,b⟩
 simp only[this]
theorem az3 (k:Nat) (s:Sc.By) (hk:k<99) (hs:s ≠ []):Sc.say k s 0=Vj (k+1)++32::(48::10::32::32::(s ++ [10])):=by have:=az2 k s 0 hk (by decide);rw[if_pos ⟨rfl,hs⟩] at this;exact this
theorem az4 {c:xN} {st st':St} {s:Sc.By} {e:Int} (h:act c st=((s,e),st')) (i:Nat) (cs:List xN):Sc.aCo act i st (c::cs)=Sc.say i s e++Sc.aCo act (i+1) st' cs:=by rw[Sc.aCo,h]
theorem az5 {o f t:Int} {a b c:Int×Int} {fl:Nat} {m i E hi lo:Int} {g:Nat} {s:Sc.By} (h:oE (xw [o,f,t,m,i,a.1,a.2,b.1,b.2,c.1,c.2])=(E,hi,lo,g)) (hs:Co o f t (hi,lo)++32::Cn (g:Int)=s) {fl':Nat} (hf:J [fl,g]=fl'):act (.op o f t a b c) (fl,m,i)=((s,E),(fl',m,i)):=by rw[<- hs,<- hf];show((Co o f t ((oE (xw [o,f,t,m,i,a.1,a.2,b.1,b.2,c.1,c.2])).2.1,(oE (xw [o,f,t,m,i,a.1,a.2,b.1,b.2,c.1,c.2])).2.2.1)++32::Cn ((oE (xw [o,f,t,m,i,a.1,a.2,b.1,b.2,c.1,c.2])).2.2.2:Int),(oE (xw [o,f,t,m,i,a.1,a.2,b.1,b.2,c.1,c.2])).1),(J [fl,(oE (xw [o,f,t,m,i,a.1,a.2,b.1,b.2,c.1,c.2])).2.2.2],m,i))=_;rw[h]
theorem az6 {text:Sc.By} {cs:List xN} {o:Sc.By} (hl:text.length<=1048576) (h1:Sc.parse (Sc.wl []) EM 0 [] (Sc.lines text)=(cs,0,0)) (h2:Sc.aCo act 0 st0 cs=o):Mi (BR text)=(o,0,0):=by
 have hp:AA (BR text)=(cs,0,0):=by rw[Vi,az1];exact(Sc.aDL _ _ text hl).trans h1
 have h3:=Sc.aDU EL EM act st0 (BR text).data.toList (by rw[<- Vi,hp]);rw[<- Vi,hp] at h3;show Sc.runT EL EM act st0 (BR text).data.toList=_;rw[h3];exact congrArg (λx=>(x,0,0)) h2
theorem az7:oE (xw [5,0,0,0,0,0,16384,0,0,0,0])=(0,0,15784,16):=by kernel_rfl
theorem az8:act (.op 5 0 0 (0,16384) (0,0) (0,0)) (0,0,0)=(([51,100,97,56,32,105,110,101,120,97,99,116],0),(16,0,0)):=az5 az7 (by kernel_rfl) (by decide)
def Yw:Sc.By:=[115,113,114,116,32,98,49,54,32,52,48,48,48,10]
def aeB:Sc.By:=[49,32,48,10,32,32,51,100,97,56,32,105,110,101,120,97,99,116,10]
theorem az9:Sc.parse (Sc.wl []) EM 0 [] (Sc.lines Yw)=([.op 5 0 0 (0,16384) (0,0) (0,0)],0,0):=by kernel_rfl
theorem aAa:Mi (BR Yw)=(aeB,0,0):=by
 refine az6 (by decide) az9 ?_;unfold st0;rw[az4 az8,az3 0 _ (by decide) (by decide)]
 kernel_rfl
end Go.Proofs.YtippohicjhilnaaGreatDoor.Sp
