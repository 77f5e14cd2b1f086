import Derived.Test.YtippohicjhilnaaGreatDoorWNTn
import Derived.Test.YtippohicjhilnaaGreatDoorZ5Tn
import Derived.Test.YtippohicjhilnaaGreatDoorZ6Tn
import Derived.Test.YtippohicjhilnaaGreatDoorZ9Tn
import Derived.Test.YtippohicjhilnaaGreatDoorZGTn
import Derived.Test.YtippohicjhilnaaGreatDoorZTTn
import Derived.Deep.RegionHeld3
import Derived.Maps.AppendAt
import Derived.OwnWalk
import Derived.Laws.IdiomStrings
import Derived.Laws.MakeOwn
import Derived.OpenShut
import Derived.StillTailTactics
set_option linter.unusedSimpArgs false
set_option linter.unusedVariables false
set_option maxRecDepth 100000
set_option maxHeartbeats 4000000
open Go.Proofs.Tryz
namespace Go.Proofs.YtippohicjhilnaaGreatDoor.Sp
open Go.RowKit Go.Shelf FlagM
open Go.Lib (grownBy_trans grownBy_below grownBy_allocR)
attribute [local go_sem] Oper.semAt_some
theorem U7.bel {w X:World} {b:Nat} (h:U7 w X b):vY w X:=by obtain⟨v0,v1,v2,v3,v4,v5,v6,v7,v8,v9,v10,hC,_⟩:=h;exact hC.2.2
theorem ay2 {w X:World} {b:Nat} (h:U7 w X b) (s:ByteArray) :
  ∃ v kn,(Instr.lookup 207 (.map (some b)) (.string s) true).run prog X = .ok (.tuple #[v,.bool kn]) X/\(kn=true/\aeq X s v\/kn=false/\v = .nilFunc/\∀ ws,yG s ws=none):=by
 rcases look h s with⟨v,h1,h2⟩|⟨h1,h2⟩
 ·exact⟨v,true,h1,.inl ⟨rfl,h2⟩⟩
 ·exact⟨_,false,h1,.inr ⟨rfl,rfl,h2⟩⟩
def Bf (s:ByteArray) (ws:List ByteArray):Option xN:=match yG s ws with
 | some (c,[])=>some c
 | _=>none
def Kg (w:World) (r:Option xN) (e:Ending) (w':World):Prop :=
 vY w w'/\match r with
  | some c=>∃ v,e = .returned (.tuple #[v,.bool true])/\EK w' w.heap.size w'.heap.size v c
  | none=>e = .returned (.tuple #[.nilFunc,.bool false])
theorem U9 {w W:World} {v0:Value} (hB:vY w W) (hD:W.heap[w.heap.size]? = some (.cells #[v0] 109)) (hK:W.heap[w.heap.size+1]? = some (.cells #[.bool false] 4)) :
  ((W.setCell ⟨w.heap.size,0,none⟩ .nilFunc).setCell ⟨w.heap.size+1,0,none⟩ (.bool false)).cell? ⟨w.heap.size,0,none⟩=some .nilFunc/\((W.setCell ⟨w.heap.size,0,none⟩ .nilFunc).setCell ⟨w.heap.size+1,0,none⟩ (.bool false)).cell? ⟨w.heap.size+1,0,none⟩=some (.bool false)/\vY w ((W.setCell ⟨w.heap.size,0,none⟩ .nilFunc).setCell ⟨w.heap.size+1,0,none⟩ (.bool false)):=by
 have g1:=yQ W w.heap.size 0 .nilFunc;have g2:=yQ (W.setCell ⟨w.heap.size,0,none⟩ .nilFunc) (w.heap.size+1) 0 (.bool false);have s1:=zq (i:=0) hD .nilFunc;have lD:=(Array.getElem?_eq_some_iff.1 hD).1;have lK:=(Array.getElem?_eq_some_iff.1 hK).1;have s2:=(g2.block _ (Nat.lt_of_lt_of_le lD g1.size) (λe=>by have:=Option.some.inj e;omega)).trans s1;have s3:=zq (i:=0) ((g1.block _ lK (λe=>by have:=Option.some.inj e;omega)).trans hK) (.bool false);refine⟨by simp[World.cell?,s2],by simp[World.cell?,s3],?_⟩;have b1:=Below.grown hB g1 (Below.size hB) (λg e=>by cases e;exact Nat.le_refl _);exact Below.grown b1 g2 (Below.size b1) (λg e=>by cases e;exact Nat.le_succ _)
theorem alG {X:World} {bk o n:Nat} {ws:List ByteArray} (hn:n=ws.length) (hb:bk<X.heap.size) (hlen:n<=4611686018427387903) (hl:∀ j t,ws[j]? = some t->X.cell? ⟨bk,o+j,none⟩=some (.string t)) :
  yh (X.alloc (.cells #[.slice (some ⟨bk,o,none⟩) n n] tW)) X.heap.size ws:=by
 subst hn;exact⟨bk,o,ws.length,Boxed.new X tW _,Nat.le_refl _,by omega,hb,λj t ht=>(World.grownBy_alloc X _ none).cell (hl j t ht) (by simp)⟩
theorem Yq {w X w1:World} {o:Obj} {v0 v1:Value} {t0 t1:TypeId} {B:Nat} (hB:vY w X) (hD:X.heap[w.heap.size]? = some (.cells #[v0] t0)) (hK:X.heap[w.heap.size+1]? = some (.cells #[v1] t1)) (hB2:B=X.heap.size) (hg:(X.alloc o).grownBy w1 (some B)) :
  vY w w1/\w1.heap[w.heap.size]? = some (.cells #[v0] t0)/\w1.heap[w.heap.size+1]? = some (.cells #[v1] t1):=by
 subst hB2;have lD:=(Array.getElem?_eq_some_iff.1 hD).1;have lK:=(Array.getElem?_eq_some_iff.1 hK).1;refine⟨Below.grown (hB.alloc o) hg (Below.size (hB.alloc o)) (λg e=>by cases e;omega),(hg.block _ (by simp;omega) (λe=>by have:=Option.some.inj e;omega)).trans (alloc_at hD o),(hg.block _ (by simp;omega) (λe=>by have:=Option.some.inj e;omega)).trans (alloc_at hK o)⟩
theorem cell_of {W:World} {b:Nat} {v:Value} {t:TypeId} (h:W.heap[b]? = some (.cells #[v] t)):W.cell? ⟨b,0,none⟩=some v:=by simp[World.cell?,h]
theorem EK.func {W:World} {a b:Nat} {v:Value} {c:xN} (h:EK W a b v c):∃ f caps,v = .func (.func f) #[] caps:=by
 cases c with
 | op o f t x y z=>obtain⟨B,h1,h2,h3,h4⟩:=h;exact⟨_,_,h3⟩
 | env m t=>obtain⟨B1,B2,B3,h1,h2,h3,h4,h5,h6,h7,h8,h9,h10⟩:=h;exact⟨_,_,h7⟩
 | clear=>obtain⟨B,h1,h2,h3,h4⟩:=h;exact⟨_,_,h3⟩
 | sticky=>exact⟨_,_,h⟩
theorem ay3 (w:World) (bk:Nat) (s:ByteArray) (ws:List ByteArray) (hbk:bk<w.heap.size) (hlen:ws.length<=4611686018427387903) (hl:∀ j t,(s::ws)[j]? = some t->w.cell? ⟨bk,j,none⟩=some (.string t)) :
  Calls prog 84 #[.slice (some ⟨bk,0,none⟩) (ws.length+1) (ws.length+1)] w (Kg w (Bf s ws)):=by
 have hmf:∀ (fn:Fn) (first cap:Array Value) (w:World),(Instr.makeFunc fn first cap).run prog w = .ok (.func fn first cap) w:=λ_ _ _ _=>rfl
 have c0:w.cell? ⟨bk,0,none⟩=some (.string s):=hl 0 s rfl;have cA:∀ W,vY w W->W.cell? ⟨bk,0,none⟩=some (.string s):=λW h=>(Below.cell h (p:=⟨bk,0,none⟩) hbk).trans c0
 have HA:=Lib.hid cA;clear cA;have q1:(0:Int)<((ws.length+1:Nat):Int):=by omega
 have hB2:vY w ((w.alloc (.cells #[.nilFunc] 109)).alloc (.cells #[.bool false] 4)):=((vY.refl w).alloc _).alloc _;have c2:=HA.out _ hB2
 go_enter_defers func84,ntmps84
 go_wp2_with fail
 go_region_held3 (λW=>W.cell? ⟨bk,0,none⟩=some (.string s)) (first|exact hS'|exact c2|assumption|go_keep) (first|(go_at_call 138;refine(ayY _).mono ?_;rintro e X ⟨b,rfl,hM⟩;have hBX:vY w X:=vY.trans (vY.trans hB2 (vY.refl _).drew) hM.bel;have hS':=HA.out _ hBX;obtain⟨v,kn,hL,hcase⟩:=ay2 hM s))
 have hD:X.heap[w.heap.size]? = some (.cells #[.nilFunc] 109):=(Below.block hM.bel _ (by show w.heap.size<((w.alloc _).alloc _).heap.size;simp;omega)).trans (alloc_at (World.alloc_heap_new w _) _);have hK:X.heap[w.heap.size+1]? = some (.cells #[.bool false] 4):=(Below.block hM.bel _ (by show w.heap.size+1<((w.alloc _).alloc _).heap.size;simp)).trans (Sr w _ _);have hszX:=Below.size hM.bel;rcases hcase with⟨rfl,hT⟩|⟨rfl,rfl,hN⟩
 ·obtain⟨g,caps,rfl,eg,HT⟩:=hT;have hlt:=(Array.getElem?_eq_some_iff.1 hK).1;have hbX:bk<X.heap.size:=Nat.lt_of_lt_of_le hbk (Below.size hBX)
  go_wp2_with (first|(go_at_call 139;refine(U5 _ _ rfl).mono ?_;rintro e w3 ⟨⟨v,rfl⟩,rfl⟩))
  ·obtain rfl:ws = []:=by first|assumption|(apply List.eq_nil_of_length_eq_zero;omega)
   have hWA:yh (X.alloc (.cells #[.slice (some ⟨bk,0,none⟩) 0 0] tW)) X.heap.size []:=alG rfl hbX (by first|exact hlen|omega) (λj t hj=>(Below.cell hBX (p:=⟨bk,0+j,none⟩) hbk).trans (by simp at hj));have HT':=HT _ _ [] (World.grownBy_alloc _ _ _) (Nat.le_refl _) hWA
   cases hts:yG s [] with
   | none =>
    have hsp:Bf s []=none:=by simp[Bf,hts]
    rw[hts] at HT';refine HT'.mono ?_;rintro e w1 ⟨rfl,hg1⟩;obtain⟨hB1,hD1,hK1⟩:=Yq hBX hD hK rfl hg1;dsimp only;refine leaves_cons (f:=137) (args:=#[.pointer (some ⟨w.heap.size,0,none⟩),.pointer (some ⟨w.heap.size+1,0,none⟩)]) (by simp) (by simp[go_sem]) ?_;refine(U8 w.heap.size (w.heap.size+1) .nilFunc [] _ (by omega) hD1 hK1).mono ?_;rintro e u' w'' ⟨rfl,rfl,rfl⟩;have hY:=U9 hB1 hD1 hK1;generalize (w1.setCell ⟨w.heap.size,0,none⟩ .nilFunc).setCell ⟨w.heap.size+1,0,none⟩ (.bool false)=Y at hY ⊢;obtain⟨y0,y1,yB⟩:=hY;simp[Leaves,settle,results,results84,go_sem,y0,y1,hsp,Kg,yB]
   | some r =>
    obtain⟨c,ws'⟩:=r;rw[hts] at HT';refine HT'.mono ?_;rintro e w1 ⟨⟨⟨v,rfl,hv⟩,hW1⟩,hg1⟩;obtain⟨hB1,hD1,hK1⟩:=Yq hBX hD hK rfl hg1;obtain⟨vf,vc,rfl⟩:=hv.func;have hst:=run_store prog w1 ⟨w.heap.size,0,none⟩ (.func (.func vf) #[] vc) .plain rfl;have kD:w1.cell? ⟨w.heap.size,0,none⟩=some .nilFunc:=by simp[World.cell?,hD1]
    have fD:w1.frozen? ⟨w.heap.size,0,none⟩=false:=by simp[World.frozen?,hD1]
    have hg2:=yQ w1 w.heap.size 0 (.func (.func vf) #[] vc);have hD2:=zq (i:=0) hD1 (.func (.func vf) #[] vc);have hK2:=(hg2.block _ (Array.getElem?_eq_some_iff.1 hK1).1 (λe=>by have:=Option.some.inj e;omega)).trans hK1;have hB2':=Below.grown hB1 hg2 (Below.size hB1) (λg e=>by cases e;exact Nat.le_refl _);obtain⟨bk',o',c',hbx,hc1,hc2,hbk',hl'⟩:=hW1;have kW:=(hbx.kept hg2 (λe=>by have:=Option.some.inj e;have:=(Array.getElem?_eq_some_iff.1 hK).1;omega)).cell
    cases ws' with
    | nil =>
     have hsp:Bf s []=some c:=by simp[Bf,hts]
     have kD2:(w1.setCell ⟨w.heap.size,0,none⟩ (.func (.func vf) #[] vc)).cell? ⟨w.heap.size,0,none⟩=some (.func (.func vf) #[] vc):=by simp[World.cell?,hD2]
     have fD2:(w1.setCell ⟨w.heap.size,0,none⟩ (.func (.func vf) #[] vc)).frozen? ⟨w.heap.size,0,none⟩=false:=by simp[World.frozen?,hD2]
     have hst2:=run_store prog (w1.setCell ⟨w.heap.size,0,none⟩ (.func (.func vf) #[] vc)) ⟨w.heap.size,0,none⟩ (.func (.func vf) #[] vc) .plain rfl;have hg3:=yQ (w1.setCell ⟨w.heap.size,0,none⟩ (.func (.func vf) #[] vc)) w.heap.size 0 (.func (.func vf) #[] vc);have hD3:=zq (i:=0) hD2 (.func (.func vf) #[] vc);have hK3:=(hg3.block _ (Array.getElem?_eq_some_iff.1 hK2).1 (λe=>by have:=Option.some.inj e;omega)).trans hK2;have hB3:=Below.grown hB2' hg3 (Below.size hB2') (λg e=>by cases e;exact Nat.le_refl _);have kK3:((w1.setCell ⟨w.heap.size,0,none⟩ (.func (.func vf) #[] vc)).setCell ⟨w.heap.size,0,none⟩ (.func (.func vf) #[] vc)).cell? ⟨w.heap.size+1,0,none⟩=some (.bool false):=by simp[World.cell?,hK3]
     have fK3:((w1.setCell ⟨w.heap.size,0,none⟩ (.func (.func vf) #[] vc)).setCell ⟨w.heap.size,0,none⟩ (.func (.func vf) #[] vc)).frozen? ⟨w.heap.size+1,0,none⟩=false:=by simp[World.frozen?,hK3]
     go_wp2_with (first|(go_at_call 139;refine(U5 _ _ rfl).mono ?_;rintro e w3 ⟨⟨v,rfl⟩,rfl⟩))
     refine leaves_cons (f:=137) (args:=#[.pointer (some ⟨w.heap.size,0,none⟩),.pointer (some ⟨w.heap.size+1,0,none⟩)]) (by simp) (by simp[go_sem]) ?_;refine(alF w.heap.size (w.heap.size+1) _).mono ?_;rintro e u' w'' ⟨rfl,rfl,rfl⟩;have hg4:=yQ ((w1.setCell ⟨w.heap.size,0,none⟩ (.func (.func vf) #[] vc)).setCell ⟨w.heap.size,0,none⟩ (.func (.func vf) #[] vc)) (w.heap.size+1) 0 (.bool true);have hD4:=(hg4.block _ (Array.getElem?_eq_some_iff.1 hD3).1 (λe=>by have:=Option.some.inj e;omega)).trans hD3;have hK4:=zq (i:=0) hK3 (.bool true);have hB4:=Below.grown hB3 hg4 (Below.size hB3) (λg e=>by cases e;exact Nat.le_succ _);have hv4:=hv.kept (X:=((w1.setCell ⟨w.heap.size,0,none⟩ (.func (.func vf) #[] vc)).setCell ⟨w.heap.size,0,none⟩ (.func (.func vf) #[] vc)).setCell ⟨w.heap.size+1,0,none⟩ (.bool true)) (λk hk1 hk2=>((hg4.block _ (Nat.lt_of_lt_of_le hk2 (Nat.le_trans hg2.size hg3.size)) (λe=>by have:=Option.some.inj e;have hk3:X.heap.size+1<=k:=(by simpa using hk1);omega)).trans (hg3.block _ (Nat.lt_of_lt_of_le hk2 hg2.size) (λe=>by have:=Option.some.inj e;have hk3:X.heap.size+1<=k:=(by simpa using hk1);omega))).trans (hg2.block _ hk2 (λe=>by have:=Option.some.inj e;have hk3:X.heap.size+1<=k:=(by simpa using hk1);omega)));have hv5:=hv4.wide (show w.heap.size<=(X.alloc _).heap.size by simp;have:=Below.size hBX;omega) (Nat.le_trans hg2.size (Nat.le_trans hg3.size hg4.size));have y0:_=some _:=cell_of hD4;have y1:_=some _:=cell_of hK4;generalize ((w1.setCell ⟨w.heap.size,0,none⟩ (.func (.func vf) #[] vc)).setCell ⟨w.heap.size,0,none⟩ (.func (.func vf) #[] vc)).setCell ⟨w.heap.size+1,0,none⟩ (.bool true)=Y at y0 y1 hB4 hv5 ⊢;have hB5:vY w Y:=hB4;simp[Leaves,settle,results,results84,go_sem,y0,y1,hsp,Kg,hB5,hv5]
    | cons x xs =>
     have hsp:Bf s []=none:=by simp[Bf,hts]
     go_wp2_with (first|(go_at_call 139;refine(Sm _ _ (by simp;omega)).mono ?_;rintro e w3 ⟨rfl,rfl⟩))
     refine leaves_cons (f:=137) (args:=#[.pointer (some ⟨w.heap.size,0,none⟩),.pointer (some ⟨w.heap.size+1,0,none⟩)]) (by simp) (by simp[go_sem]) ?_;refine(U8 w.heap.size (w.heap.size+1) (.func (.func vf) #[] vc) [] _ (by omega) hD2 hK2).mono ?_;rintro e u' w'' ⟨rfl,rfl,rfl⟩;have hY:=U9 hB2' hD2 hK2;generalize ((w1.setCell ⟨w.heap.size,0,none⟩ (.func (.func vf) #[] vc)).setCell ⟨w.heap.size,0,none⟩ .nilFunc).setCell ⟨w.heap.size+1,0,none⟩ (.bool false)=Y at hY ⊢;obtain⟨y0,y1,yB⟩:=hY;simp[Leaves,settle,results,results84,go_sem,y0,y1,Kg,yB]
  ·have hWA:yh (X.alloc (.cells #[.slice (some ⟨bk,1,none⟩) ws.length ws.length] tW)) X.heap.size ws:=alG rfl hbX (by first|exact hlen|omega) (λj t hj=>(Below.cell hBX (p:=⟨bk,1+j,none⟩) hbk).trans (by rw[Nat.add_comm 1 j];exact hl (j+1) t hj));have HT':=HT _ _ ws (World.grownBy_alloc _ _ _) (Nat.le_refl _) hWA
   cases hts:yG s ws with
   | none =>
    have hsp:Bf s ws=none:=by simp[Bf,hts]
    rw[hts] at HT';refine HT'.mono ?_;rintro e w1 ⟨rfl,hg1⟩;obtain⟨hB1,hD1,hK1⟩:=Yq hBX hD hK rfl hg1;dsimp only;refine leaves_cons (f:=137) (args:=#[.pointer (some ⟨w.heap.size,0,none⟩),.pointer (some ⟨w.heap.size+1,0,none⟩)]) (by simp) (by simp[go_sem]) ?_;refine(U8 w.heap.size (w.heap.size+1) .nilFunc [] _ (by omega) hD1 hK1).mono ?_;rintro e u' w'' ⟨rfl,rfl,rfl⟩;have hY:=U9 hB1 hD1 hK1;generalize (w1.setCell ⟨w.heap.size,0,none⟩ .nilFunc).setCell ⟨w.heap.size+1,0,none⟩ (.bool false)=Y at hY ⊢;obtain⟨y0,y1,yB⟩:=hY;simp[Leaves,settle,results,results84,go_sem,y0,y1,hsp,Kg,yB]
   | some r =>
    obtain⟨c,ws'⟩:=r;rw[hts] at HT';refine HT'.mono ?_;rintro e w1 ⟨⟨⟨v,rfl,hv⟩,hW1⟩,hg1⟩;obtain⟨hB1,hD1,hK1⟩:=Yq hBX hD hK rfl hg1;obtain⟨vf,vc,rfl⟩:=hv.func;have hst:=run_store prog w1 ⟨w.heap.size,0,none⟩ (.func (.func vf) #[] vc) .plain rfl;have kD:w1.cell? ⟨w.heap.size,0,none⟩=some .nilFunc:=by simp[World.cell?,hD1]
    have fD:w1.frozen? ⟨w.heap.size,0,none⟩=false:=by simp[World.frozen?,hD1]
    have hg2:=yQ w1 w.heap.size 0 (.func (.func vf) #[] vc);have hD2:=zq (i:=0) hD1 (.func (.func vf) #[] vc);have hK2:=(hg2.block _ (Array.getElem?_eq_some_iff.1 hK1).1 (λe=>by have:=Option.some.inj e;omega)).trans hK1;have hB2':=Below.grown hB1 hg2 (Below.size hB1) (λg e=>by cases e;exact Nat.le_refl _);obtain⟨bk',o',c',hbx,hc1,hc2,hbk',hl'⟩:=hW1;have kW:=(hbx.kept hg2 (λe=>by have:=Option.some.inj e;have:=(Array.getElem?_eq_some_iff.1 hK).1;omega)).cell
    cases ws' with
    | nil =>
     have hsp:Bf s ws=some c:=by simp[Bf,hts]
     have kD2:(w1.setCell ⟨w.heap.size,0,none⟩ (.func (.func vf) #[] vc)).cell? ⟨w.heap.size,0,none⟩=some (.func (.func vf) #[] vc):=by simp[World.cell?,hD2]
     have fD2:(w1.setCell ⟨w.heap.size,0,none⟩ (.func (.func vf) #[] vc)).frozen? ⟨w.heap.size,0,none⟩=false:=by simp[World.frozen?,hD2]
     have hst2:=run_store prog (w1.setCell ⟨w.heap.size,0,none⟩ (.func (.func vf) #[] vc)) ⟨w.heap.size,0,none⟩ (.func (.func vf) #[] vc) .plain rfl;have hg3:=yQ (w1.setCell ⟨w.heap.size,0,none⟩ (.func (.func vf) #[] vc)) w.heap.size 0 (.func (.func vf) #[] vc);have hD3:=zq (i:=0) hD2 (.func (.func vf) #[] vc);have hK3:=(hg3.block _ (Array.getElem?_eq_some_iff.1 hK2).1 (λe=>by have:=Option.some.inj e;omega)).trans hK2;have hB3:=Below.grown hB2' hg3 (Below.size hB2') (λg e=>by cases e;exact Nat.le_refl _);have kK3:((w1.setCell ⟨w.heap.size,0,none⟩ (.func (.func vf) #[] vc)).setCell ⟨w.heap.size,0,none⟩ (.func (.func vf) #[] vc)).cell? ⟨w.heap.size+1,0,none⟩=some (.bool false):=by simp[World.cell?,hK3]
     have fK3:((w1.setCell ⟨w.heap.size,0,none⟩ (.func (.func vf) #[] vc)).setCell ⟨w.heap.size,0,none⟩ (.func (.func vf) #[] vc)).frozen? ⟨w.heap.size+1,0,none⟩=false:=by simp[World.frozen?,hK3]
     go_wp2_with (first|(go_at_call 139;refine(U5 _ _ rfl).mono ?_;rintro e w3 ⟨⟨v,rfl⟩,rfl⟩))
     refine leaves_cons (f:=137) (args:=#[.pointer (some ⟨w.heap.size,0,none⟩),.pointer (some ⟨w.heap.size+1,0,none⟩)]) (by simp) (by simp[go_sem]) ?_;refine(alF w.heap.size (w.heap.size+1) _).mono ?_;rintro e u' w'' ⟨rfl,rfl,rfl⟩;have hg4:=yQ ((w1.setCell ⟨w.heap.size,0,none⟩ (.func (.func vf) #[] vc)).setCell ⟨w.heap.size,0,none⟩ (.func (.func vf) #[] vc)) (w.heap.size+1) 0 (.bool true);have hD4:=(hg4.block _ (Array.getElem?_eq_some_iff.1 hD3).1 (λe=>by have:=Option.some.inj e;omega)).trans hD3;have hK4:=zq (i:=0) hK3 (.bool true);have hB4:=Below.grown hB3 hg4 (Below.size hB3) (λg e=>by cases e;exact Nat.le_succ _);have hv4:=hv.kept (X:=((w1.setCell ⟨w.heap.size,0,none⟩ (.func (.func vf) #[] vc)).setCell ⟨w.heap.size,0,none⟩ (.func (.func vf) #[] vc)).setCell ⟨w.heap.size+1,0,none⟩ (.bool true)) (λk hk1 hk2=>((hg4.block _ (Nat.lt_of_lt_of_le hk2 (Nat.le_trans hg2.size hg3.size)) (λe=>by have:=Option.some.inj e;have hk3:X.heap.size+1<=k:=(by simpa using hk1);omega)).trans (hg3.block _ (Nat.lt_of_lt_of_le hk2 hg2.size) (λe=>by have:=Option.some.inj e;have hk3:X.heap.size+1<=k:=(by simpa using hk1);omega))).trans (hg2.block _ hk2 (λe=>by have:=Option.some.inj e;have hk3:X.heap.size+1<=k:=(by simpa using hk1);omega)));have hv5:=hv4.wide (show w.heap.size<=(X.alloc _).heap.size by simp;have:=Below.size hBX;omega) (Nat.le_trans hg2.size (Nat.le_trans hg3.size hg4.size));have y0:_=some _:=cell_of hD4;have y1:_=some _:=cell_of hK4;generalize ((w1.setCell ⟨w.heap.size,0,none⟩ (.func (.func vf) #[] vc)).setCell ⟨w.heap.size,0,none⟩ (.func (.func vf) #[] vc)).setCell ⟨w.heap.size+1,0,none⟩ (.bool true)=Y at y0 y1 hB4 hv5 ⊢;have hB5:vY w Y:=hB4;simp[Leaves,settle,results,results84,go_sem,y0,y1,hsp,Kg,hB5,hv5]
    | cons x xs =>
     have hsp:Bf s ws=none:=by simp[Bf,hts]
     go_wp2_with (first|(go_at_call 139;refine(Sm _ _ (by simp;omega)).mono ?_;rintro e w3 ⟨rfl,rfl⟩))
     refine leaves_cons (f:=137) (args:=#[.pointer (some ⟨w.heap.size,0,none⟩),.pointer (some ⟨w.heap.size+1,0,none⟩)]) (by simp) (by simp[go_sem]) ?_;refine(U8 w.heap.size (w.heap.size+1) (.func (.func vf) #[] vc) [] _ (by omega) hD2 hK2).mono ?_;rintro e u' w'' ⟨rfl,rfl,rfl⟩;have hY:=U9 hB2' hD2 hK2;generalize ((w1.setCell ⟨w.heap.size,0,none⟩ (.func (.func vf) #[] vc)).setCell ⟨w.heap.size,0,none⟩ .nilFunc).setCell ⟨w.heap.size+1,0,none⟩ (.bool false)=Y at hY ⊢;obtain⟨y0,y1,yB⟩:=hY;simp[Leaves,settle,results,results84,go_sem,y0,y1,Kg,yB]
 ·have hsp:Bf s ws=none:=by simp[Bf,hN]
  go_wp2_with (go_at_call 139;refine(Sm _ _ rfl).mono ?_;rintro e w3 ⟨rfl,rfl⟩)
  refine leaves_cons (f:=137) (args:=#[.pointer (some ⟨w.heap.size,0,none⟩),.pointer (some ⟨w.heap.size+1,0,none⟩)]) (by simp) (by simp[go_sem]) ?_;refine(U8 w.heap.size (w.heap.size+1) .nilFunc [] _ (by omega) hD hK).mono ?_;rintro e u' w'' ⟨rfl,rfl,rfl⟩;have hY:=U9 hBX hD hK;generalize (X.setCell ⟨w.heap.size,0,none⟩ .nilFunc).setCell ⟨w.heap.size+1,0,none⟩ (.bool false)=Y at hY ⊢;obtain⟨y0,y1,yB⟩:=hY;simp[Leaves,settle,results,results84,go_sem,y0,y1,hsp,Kg,yB]
def Mf (r:Nat):Bool:=decide (r=32)||(decide (r=9)||decide (r=13))
theorem ay4 (w:World):PredAtRunes prog 81 #[] Mf w:=λW r _ _=>by
 unfold FnGives;by_cases h1:r=32
 ·subst h1
  go_enter func81,ntmps81
  go_wp2
  all_goals first|(exfalso;omega)|(go_ret;exact⟨rfl,0,rfl⟩)
 by_cases h2:r=9
 ·subst h2
  go_enter func81,ntmps81
  go_wp2
  all_goals first|(exfalso;omega)|(go_ret;exact⟨rfl,0,rfl⟩)
 by_cases h3:r=13
 ·subst h3
  go_enter func81,ntmps81
  go_wp2
  all_goals first|(exfalso;omega)|(go_ret;exact⟨rfl,0,rfl⟩)
 ·have z1:((r:Int)==32)=false:=by rw[beq_eq_false_iff_ne];omega
  have z2:((r:Int)==9)=false:=by rw[beq_eq_false_iff_ne];omega
  have z3:((r:Int)==13)=false:=by rw[beq_eq_false_iff_ne];omega
  have hb:Mf r=false:=by simp[Mf,h1,h2,h3]
  go_enter func81,ntmps81
  go_wp2
  all_goals first|(exfalso;omega)|(go_ret;exact⟨by rw[hb];rfl,0,rfl⟩)
theorem Vd (p:Nat->Bool) (s:ByteArray):∀ (f pos:Nat) (st:Option Nat) (acc:List (Nat×Nat)),(∀ x∈acc,x.1<x.2/\x.2<=s.size)->(∀ a,st=some a->a<pos/\a<s.size) ->
  (∀ x∈(Lib.spansFromP p s f pos st acc).1,x.1<x.2/\x.2<=s.size)/\(∀ a,(Lib.spansFromP p s f pos st acc).2=some a->a<s.size)/\(Lib.spansFromP p s f pos st acc).1.length<=acc.length+f
 | 0,pos,st,acc,h,hst=>⟨h,λa ha=>(hst a ha).2,Nat.le_refl _⟩
 | f+1,pos,st,acc,h,hst=>by
  have hw:=Lib.width_pos s pos;by_cases hlt:pos<s.size
  ·unfold Lib.spansFromP;rw[if_pos hlt];split
   ·split
    ·rename_i a;have ha:=hst a rfl
     obtain⟨r1,r2,r3⟩:=Vd p s f (pos+(Utf8.decode s pos).2) none (acc ++ [(a,pos)]) (λx hx=>by
      rcases List.mem_append.1 hx with hx|hx
      ·exact h x hx
      ·rw[List.mem_singleton.1 hx];exact⟨ha.1,by omega⟩) (λa e=>by cases e)
     exact⟨r1,r2,by simp at r3;omega⟩
    ·obtain⟨r1,r2,r3⟩:=Vd p s f (pos+(Utf8.decode s pos).2) none acc h (λa e=>by cases e);exact⟨r1,r2,by omega⟩
   ·split
    ·rename_i a;have ha:=hst a rfl;obtain⟨r1,r2,r3⟩:=Vd p s f (pos+(Utf8.decode s pos).2) (some a) acc h (λb e=>by cases e;omega);exact⟨r1,r2,by omega⟩
    ·obtain⟨r1,r2,r3⟩:=Vd p s f (pos+(Utf8.decode s pos).2) (some pos) acc h (λb e=>by cases e;omega);exact⟨r1,r2,by omega⟩
  ·rw[Lib.spansFromP_end p s _ _ _ _ hlt];exact⟨h,λa ha=>(hst a ha).2,by show acc.length<=acc.length+(f+1);omega⟩
theorem ay5 (p:Nat->Bool) (s:ByteArray):(∀ x∈Lib.goFieldsP p s,0<x.size)/\(Lib.goFieldsP p s).length<=s.size+1:=by
 obtain⟨h1,h2,h3⟩:=Vd p s s.size 0 none [] (by simp) (by simp);unfold Lib.goFieldsP Lib.spansOfP Lib.closeSpans;have hx:∀ x:Nat×Nat,x.1<x.2/\x.2<=s.size->0<(s.extract x.1 x.2).size:=λx hx=>by rw[ByteArray.size_extract];omega
 simp only[List.length_nil,Nat.zero_add] at h3;split
 ·rename_i a ha;refine⟨λy hy=>?_,by simp;omega⟩;obtain⟨x,hx1,rfl⟩:=List.mem_map.1 hy;rcases List.mem_append.1 hx1 with h|h
  ·exact hx x (h1 x h)
  ·rw[List.mem_singleton.1 h];exact hx _ ⟨h2 a ha,Nat.le_refl _⟩
 ·refine⟨λy hy=>?_,by simp;omega⟩;obtain⟨x,hx1,rfl⟩:=List.mem_map.1 hy;exact hx x (h1 x hx1)
def BR (l:Sc.By):ByteArray:=⟨l.toArray⟩
def EL (l:Sc.By):List Sc.By:=(Lib.goFieldsP Mf (BR l)).map (·.data.toList)
def EM:List Sc.By->Option xN
 | []=>none
 | s::ws=>Bf (BR s) (ws.map BR)
theorem ay6 (s:ByteArray):EL s.data.toList=(Lib.goFieldsP Mf s).map (·.data.toList):=rfl
theorem ay7 (l:List ByteArray):(l.map (·.data.toList)).map BR=l:=by rw[List.map_map];exact List.map_id'' (λx=>rfl) l
abbrev Ve:TypeId:=109
def DL (W:World) (n₀:Nat) (v:Value) (L:List (Nat×Nat×Value×xN)):Prop :=
 W.ownsRow n₀ Ve 1 v L.length (L.map (·.2.2.1))/\(∀ x∈L,n₀<=x.1/\x.2.1<=W.heap.size/\EK W x.1 x.2.1 x.2.2.1 x.2.2.2/\∀ g,v.ownBlock=some g->g<x.1\/x.2.1<=g)/\L.Pairwise (λx y=>x.2.1<=y.1)
theorem DL.nil (W:World) (n₀:Nat):DL W n₀ (.slice none 0 0) []:=⟨World.ownsRow_nil _ _ _ _,by simp,by simp⟩
theorem ay8 {A B:World} {base:Nat} {e:TypeId} {size:Nat} {v:Value} {n:Nat} {xs:List Value} (h:A.ownsRow base e size v n xs) (hB:vY A B):B.ownsRow base e size v n xs:=by
 obtain⟨h1,h2⟩:=h;refine⟨h1,?_⟩;rcases h2 with h2|⟨g,cap,cur,h3,h4,h5,h6⟩
 ·exact .inl h2
 ·exact .inr ⟨g,cap,cur,h3,h4,(Below.block hB g (Array.getElem?_eq_some_iff.1 h5).1).trans h5,h6⟩
theorem DL.bel {A B:World} {n₀:Nat} {v:Value} {L:List (Nat×Nat×Value×xN)} (h:DL A n₀ v L) (hB:vY A B):DL B n₀ v L:=by obtain⟨h1,h2,h3⟩:=h;refine⟨ay8 h1 hB,λx hx=>?_,h3⟩;obtain⟨a1,a2,a3,a4⟩:=h2 x hx;exact⟨a1,Nat.le_trans a2 (Below.size hB),a3.kept λk _ hk=>Below.block hB k (Nat.lt_of_lt_of_le hk a2),a4⟩
theorem DL.push {W0 W W2:World} {n₀ a:Nat} {v v' vd:Value} {L:List (Nat×Nat×Value×xN)} {c:xN} {o:Obj} (h:DL W0 n₀ v L) (hB:vY W0 W) (ha:a=W0.heap.size) (hn:n₀<=W0.heap.size) (hd:EK W a W.heap.size vd c)
  (hown:W2.ownsRow n₀ Ve 1 v' (L.length+1) (L.map (·.2.2.1) ++ [vd])) (hg:(W.alloc o).grownBy W2 v.ownBlock) (hv:v'.ownBlock=v.ownBlock\/v'.ownBlock=some (W.alloc o).heap.size) :
  DL W2 n₀ v' (L ++ [(a,W.heap.size,vd,c)]):=by
 subst ha;have hD:=h.bel hB;obtain⟨b1,b2,b3⟩:=hD;have hsz:=Below.size hB;have hg1:=hg.size;simp at hg1
 have hkeep:∀ k,k<W.heap.size->some k≠v.ownBlock->W2.heap[k]? = W.heap[k]?:=λk hk hne =>
  (hg.block k (by simp;omega) hne).trans (Below.heap_alloc W o k hk)
 have hvs:∀ g,v.ownBlock=some g->g<W0.heap.size:=λg e=>(h.1.lt g e).2
 refine⟨by simpa using hown,λx hx=>?_,?_⟩
 ·rcases List.mem_append.1 hx with hx|hx
  ·obtain⟨a1,a2,a3,a4⟩:=b2 x hx;have a2':=(h.2.1 x hx).2.1;refine⟨a1,by omega,a3.kept λk hk1 hk2=>hkeep k (by omega) (λe=>?_),λg e=>?_⟩
   ·rcases a4 k e.symm with h|h<;>omega
   ·rcases hv with e2|e2
    ·exact a4 g (e2▸e)
    ·rw[e2] at e;have:=Option.some.inj e;simp at this;omega
  ·rw[List.mem_singleton.1 hx];refine⟨hn,by show W.heap.size<=_;omega,hd.kept λk hk1 hk2=>hkeep k hk2 (λe=>?_),λg e=>?_⟩
   ·have:=hvs k e.symm;omega
   ·rcases hv with e2|e2
    ·exact .inl (hvs g (e2▸e))
    ·rw[e2] at e;have:=Option.some.inj e;simp at this;right;show W.heap.size<=g;omega
 ·rw[List.pairwise_append];refine⟨b3,by simp,λx hx y hy=>?_⟩;rw[List.mem_singleton.1 hy];exact(h.2.1 x hx).2.1
theorem Yr:∀ (s l:Sc.By),l∈Sc.lines s->l.length<=s.length
 | [],l,h=>by simp[Sc.lines] at h;simp[h]
 | c::t,l,h=>by
  by_cases hc:c=10
  ·rw[Sc.lines,if_pos hc] at h;rcases List.mem_cons.1 h with h|h
   ·simp[h]
   ·have:=Yr t l h;simp;omega
  ·obtain⟨a,rs,h1,h2⟩:=Sc.aDd c t hc;rw[h2] at h;rcases List.mem_cons.1 h with h|h
   ·have:=Yr t a (by rw[h1];simp);rw[h];simp;omega
   ·have:=Yr t l (by rw[h1];exact List.mem_cons_of_mem _ h);simp;omega
def Su:ByteArray:=⟨#[10]⟩
def Mg (s:ByteArray):List ByteArray:=Lib.splitB Su 0 (Lib.countB s Su) s
theorem alH (s:ByteArray):(Mg s).map (·.data.toList)=Sc.lines s.data.toList:=by unfold Mg;rw[Lib.splitB_data];exact Sc.aDu s.data.toList.length s.data.toList (Nat.le_refl _)
theorem ay9 (s:ByteArray):(Mg s).length=Lib.countB s Su+1:=Lib.splitB_all Su (by decide) 0 _ s rfl
theorem aza (s l:ByteArray) (h:l∈Mg s):l.size<=s.size:=by have:=Yr s.data.toList l.data.toList (by rw[<- alH];exact List.mem_map_of_mem h);simpa using this
def AA (s:ByteArray):List xN×Nat×Nat:=if 1048576<s.size then([],0,2) else Sc.parse EL EM 0 [] (Sc.lines s.data.toList)
def azb (w:World) (r:List xN×Nat×Nat) (e:Ending) (w':World):Prop :=
 vY w w'/\∃ v L,e = .returned (.tuple #[v,.int .i64 (r.2.1:Int),.int .i64 (r.2.2:Int)])/\DL w' w.heap.size v L/\L.map (·.2.2.2)=r.1
theorem Sv {fn:Func} {t u x:Tmp} (h:fn.results = #[.tmp t,.tmp u,.tmp x]) (tmps:Array Value) (P:Program) (w:World) :
  (results fn tmps).run P w = .ok (.tuple #[tmps.getD t undef,tmps.getD u undef,tmps.getD x undef]) w:=by
 simp[results,h]
theorem azc {w:World} {base g n c k:Nat} {e:TypeId} {xs:List Value} (h:w.ownsRow base e 1 (.slice (some ⟨g,0,none⟩) n c) k xs) (j:Nat) (u:Value) (hu:xs[j]? = some u):w.cell? ⟨g,j,none⟩=some u:=by
 have:=h.cells rfl j u hu
 rwa [Addr.add_lit,Nat.zero_add] at this
theorem cell_one_new (w:World) (a0:Value) (t:TypeId):∀ (j:Nat) (u:Value),[a0][j]? = some u->(w.alloc (.cells #[a0] t)).cell? ((⟨w.heap.size,0,none⟩:Addr).add j)=some u:=by
 intro j u h
 match j,h with
 | 0,h=>cases h;exact(Boxed.new w t a0).cell
theorem DL.mono {W:World} {a b:Nat} {v:Value} {L:List (Nat×Nat×Value×xN)} (h:DL W a v L) (hb:b<=a):DL W b v L:=by
 obtain⟨⟨h1,h2⟩,h3,h4⟩:=h;refine⟨⟨h1,?_⟩,λx hx=>⟨Nat.le_trans hb (h3 x hx).1,(h3 x hx).2⟩,h4⟩;rcases h2 with h2|⟨g,cap,cur,h5,h6,h7⟩
 ·exact .inl h2
 ·exact .inr ⟨g,cap,cur,h5,Nat.le_trans hb h6,h7⟩
theorem azd:(prog.info? Ve).map (λi=>(i.zero,i.size,i.bytes))=some (some .nilFunc,1,8):=by kernel_rfl
theorem aze (w : World) (s : ByteArray) (m : Int) (hm : w.cell? ⟨3, 0, none⟩ = some (.int .i64 m)) : Calls prog 55 #[.string s] w (azb w (AA s)) := by
  by_cases hbig : 1048576 < s.size
  · have q1 : ¬ (s.size : Int) <= 1048576 := by omega
    have hr : AA s = ([], 0, 2) := by rw [AA, if_pos hbig]
    go_enter func55, ntmps55
    go_wp2_with fail
    try simp only [Exit.inBlock, Exit.then]
    refine bodyPost_ret (Sv rfl _ _ _) rfl ?_;first | rw [hr] | skip
    exact ⟨vY.refl w, _, [], rfl, DL.nil _ _, rfl⟩
  · have q1 : (s.size : Int) <= 1048576 := by omega
    have hr : AA s = Sc.parse EL EM 0 [] (Sc.lines s.data.toList) := by rw [AA, if_neg hbig]
    have HS := Tryz.strings_Split s Su m w (by omega) hm (by decide);have hlen := ay9 s;have hcnt := Lib.countB_le Su (by decide) s.size s (Nat.le_refl _);have hle := aza s;have hdat := alH s;rw [<- hlen] at HS;change Calls _ _ _ _ (λe w' => e = .returned (.slice (some ⟨w.heap.size, 0, none⟩) (Mg s).length (Mg s).length) /\ w' = w.alloc (.cells ((Mg s).map Value.string).toArray 9)) at HS;rw [hr, <- hdat];generalize Mg s = ls at *
    have HS := Lib.hid HS
    have hA : ∀ k l, ls[k]? = some l -> (w.alloc (.cells (ls.map Value.string).toArray 9)).cell? ⟨w.heap.size, k, none⟩ = some (.string l) := λk l hk => by have := World.alloc_heap_new w (.cells (ls.map Value.string).toArray 9);unfold World.cell?;simp only [this];simp [hk]
    have hB0 : vY w (w.alloc (.cells (ls.map Value.string).toArray 9)) := (vY.refl w).alloc _;have hAl : w.heap.size < (w.alloc (.cells (ls.map Value.string).toArray 9)).heap.size := by simp
    generalize hw1 : w.alloc (.cells (ls.map Value.string).toArray 9) = w1 at *
    have hHA := Lib.hid hA;clear hA;obtain ⟨i0, hi, hz0, hz1, hz2⟩ := info_parts azd
    go_enter func55, ntmps55
    go_wp2_with (first | (go_at_call 82; refine HS.out.mono ?_; rintro e w1' ⟨rfl, rfl⟩))
    go_loopw [5, 18] (λout i W => ∃ (k : Nat) (L : List (Nat × Nat × Value × xN)), i = .int .i64 (k : Int) /\ k <= ls.length /\ vY w1' W /\ DL W w1'.heap.size out L /\ L.length <= 4096 /\ Sc.parse EL EM 0 [] (ls.map (·.data.toList)) = Sc.parse EL EM k (L.map (·.2.2.2)) ((ls.map (·.data.toList)).drop k))
      (λ_ i _ => ls.length - (intOf i).toNat)
    case atStart => exact ⟨0, [], rfl, Nat.zero_le _, vY.refl _, DL.nil _ _, by decide, rfl⟩
    case round =>
      obtain ⟨k, L, rfl, hk, hbel, hDL, hL, hP⟩ := hrel;by_cases hlt : k < ls.length
      · have q2 : (k : Int) < (ls.length : Int) := by omega
        obtain ⟨l, hl⟩ : ∃ l, ls[k]? = some l := ⟨_, List.getElem?_eq_getElem hlt⟩;have c1 := (Below.cell hbel (p := ⟨w.heap.size, k, none⟩) hAl).trans (hHA.out k l hl);have hmem : l ∈ ls := List.mem_of_getElem? hl;have hlsz := hle l hmem;obtain ⟨hpos, hflen⟩ := ay5 Mf l;have HF := Tryz.strings_FieldsFunc_runes 81 #[] (enters func81 rfl rfl) Mf l wr (by omega) (ay4 wr)
        have hdrop : (ls.map (·.data.toList)).drop k = l.data.toList :: (ls.map (·.data.toList)).drop (k + 1) := by rw [List.drop_eq_getElem_cons (by simpa using hlt)];congr 1;have := (List.getElem?_eq_some_iff.1 hl).2;simp [this]
        have hwf := ay6 l;rw [hdrop, Sc.aCS] at hP
        obtain ⟨ad, cap, rfl⟩ : ∃ ad cap, u5 = .slice ad L.length cap := by
          rcases hDL.1.2 with ⟨h1, h2⟩ | ⟨g, cap, cur, h1, h2⟩
          · exact ⟨none, 0, by rw [h1, h2]⟩
          · exact ⟨_, cap, h1⟩
        cases hf : Lib.goFieldsP Mf l with
        | nil =>
          rw [hf] at hwf HF;have HF := Lib.hid HF;rw [hwf, List.map_nil, if_pos (by rfl)] at hP
          go_wp2_with (first | (go_at_call 83; refine HF.out.mono ?_; rintro e W1 ⟨A1, rfl, hA1, hown1, hB1⟩))
          go_roundw
          case rel => exact ⟨k + 1, L, by go_num, by omega, vY.trans hbel hB1, hDL.bel hB1, hL, hP⟩
          case measure => simp [intOf]; omega
        | cons x xs =>
          rw [hf] at hwf HF hpos hflen;have HF := Lib.hid HF;have hx0 := hpos x (by simp)
          obtain ⟨ch, hch⟩ : ∃ ch, x.data.toList.head? = some ch := by
            cases hx : x.data.toList with
            | nil => rw [<- ByteArray.size_data] at hx0; simp [<- Array.length_toList, hx] at hx0
            | cons ch r => exact ⟨ch, rfl⟩
          have hb0 : x[0]'hx0 = ch := by
            have h1 : x.data.toList[0]? = some ch := by rw [<- List.head?_eq_getElem?]; exact hch
            have h2 := (List.getElem?_eq_some_iff.1 h1).2;exact h2
          by_cases hc35 : ch = 35
          · subst hc35;have hsk : Sc.skip (EL l.data.toList) = true := by rw [hwf]; simp [Sc.skip, hch]
            have hq : (((x[0]'hx0).toNat : Int) == 35) = true := by rw [hb0]; rfl
            rw [if_pos hsk] at hP
            go_wp2_with (first | (go_at_call 83; refine HF.out.mono ?_; rintro e W1 ⟨A1, rfl, hA1, hown1, hB1⟩; have c2 : W1.cell? ⟨A1, 0, none⟩ = some (.string x) := (by simpa [Addr.add] using hown1.cells rfl 0 _ rfl)))
            go_roundw
            case rel => exact ⟨k + 1, L, by go_num, by omega, vY.trans hbel hB1, hDL.bel hB1, hL, hP⟩
            case measure => simp [intOf]; omega
          · have hsk : ¬ Sc.skip (EL l.data.toList) = true := by rw [hwf]; simp [Sc.skip, hch, hc35]
            have hq : ((ch.toNat : Int) == 35) = false := by
              rw [beq_eq_false_iff_ne];intro e
              exact hc35 (UInt8.toNat_inj.1 (by
                have : ch.toNat = 35 := by omega
                exact this))
            rw [if_neg hsk] at hP;by_cases hfull : L.length = 4096
            · have hq2 : ((L.length : Int) == 4096) = true := by rw [hfull]; rfl
              rw [if_pos (by simpa using hfull)] at hP
              go_wp2_with (first | (go_at_call 83; refine HF.out.mono ?_; rintro e W1 ⟨A1, rfl, hA1, hown1, hB1⟩; have c2 : W1.cell? ⟨A1, 0, none⟩ = some (.string x) := (by simpa [Addr.add] using hown1.cells rfl 0 _ rfl)))
              try simp only [Exit.inBlock, Exit.then]
              refine bodyPost_ret (Sv rfl _ _ _) rfl ?_;rw [hP];exact ⟨vY.trans hB0 (vY.trans hbel hB1), _, [], rfl, DL.nil _ _, rfl⟩
            · have hq2 : ((L.length : Int) == 4096) = false := by rw [beq_eq_false_iff_ne]; omega
              rw [if_neg (by simpa using hfull), hwf] at hP
              have hcmd : EM ((x :: xs).map (·.data.toList)) = Bf x xs := by show Bf (BR x.data.toList) ((xs.map (·.data.toList)).map BR) = _;rw [ay7]; rfl
              rw [hcmd] at hP
              have HCm : ∀ (W1 : World) (A1 : Nat), W1.ownsRow wr.heap.size 9 1 (Value.slice (some ⟨A1, 0, none⟩) (x :: xs).length (x :: xs).length) (x :: xs).length (List.map Value.string (x :: xs)) ->
                  Hid (Calls prog 84 #[.slice (some ⟨A1, 0, none⟩) (xs.length + 1) (xs.length + 1)] W1 (Kg W1 (Bf x xs))) := λW1 A1 hown1 =>
                Lib.hid (ay3 W1 A1 x xs (hown1.lt _ rfl).2 (by simp at hflen; omega) (λj t ht => azc hown1 j (.string t) (by rw [List.getElem?_map, ht]; rfl)))
              cases hc : Bf x xs with
              | none =>
                rw [hc] at hP HCm
                go_wp2_with (first | (go_at_call 83; refine HF.out.mono ?_; rintro e W1 ⟨A1, rfl, hA1, hown1, hB1⟩; have c2 : W1.cell? ⟨A1, 0, none⟩ = some (.string x) := (by simpa [Addr.add] using hown1.cells rfl 0 _ rfl); have HC := HCm W1 A1 hown1) | (go_at_call 84; refine HC.out.mono ?_; rintro e W2 ⟨hB2, rfl⟩))
                try simp only [Exit.inBlock, Exit.then]
                refine bodyPost_ret (Sv rfl _ _ _) rfl ?_;rw [hP];exact ⟨vY.trans hB0 (vY.trans hbel (vY.trans hB1 hB2)), _, [], rfl, DL.nil _ _, rfl⟩
              | some c =>
                rw [hc] at hP HCm
                go_wp2_with (first | (go_at_call 83; refine HF.out.mono ?_; rintro e W1 ⟨A1, rfl, hA1, hown1, hB1⟩; have c2 : W1.cell? ⟨A1, 0, none⟩ = some (.string x) := (by simpa [Addr.add] using hown1.cells rfl 0 _ rfl); have HC := HCm W1 A1 hown1) | (go_at_call 84; refine HC.out.mono ?_; rintro e W2 ⟨hB2, vd, rfl, hd⟩; obtain ⟨vf, vc, rfl⟩ := hd.func; have hDL2 := hDL.bel (vY.trans hB1 hB2)) | (at_builtin; refine Hid.out ?_))
                refine Lib.hid ?_;refine wpList_append_own_at _ rfl (.tmp 50) (.tmp 52) 98 rfl w1'.heap.size Ve i0 .nilFunc 1 8 underlying98 hi hz0 hz1 hz2 rfl (by decide) _ _ _ rfl (hDL2.1.alloc _) ⟨W2.heap.size, 0, none⟩ 1 1 [.func (.func vf) #[] vc] rfl rfl (cell_one_new _ _ _) (by simp [Value.oneCell']) (by unfold maxLen; omega) (by omega) (by have := Below.size hB2; have := Below.size hB1; have := Below.size hbel; simp; omega) ?_;intro v' W3 hown3 hgrow hv1 hv2;have hD1 := hDL.bel hB1;have hszs := Below.size hbel;have hsz1 := Below.size hB1;have hsz2 := Below.size hB2;have hD3 := DL.push hD1 hB2 rfl (Nat.le_trans hszs hsz1) hd hown3 hgrow hv2;have hB3 : vY w1' W3 := Below.grown (vY.alloc (vY.trans hbel (vY.trans hB1 hB2)) _) hgrow (by simp; omega) (λg e => (hDL.1.lt g e).1)
                go_wp2_with fail
                go_roundw
                case rel => exact ⟨k + 1, L ++ [(W1.heap.size, W2.heap.size, .func (.func vf) #[] vc, c)], by go_num, by omega, hB3, hD3, by simp; omega, by simpa using hP⟩
                case measure => simp [intOf]; omega
      · have q2 : ¬ (k : Int) < (ls.length : Int) := by omega
        have hkk : k = ls.length := by omega
        subst hkk
        go_wp2_with fail
        try simp only [Exit.inBlock, Exit.then]
        refine bodyPost_ret (Sv rfl _ _ _) rfl ?_;first | rw [hP] | rw [<- hdat, hP]
        rw [List.drop_of_length_le (by simp)];exact ⟨vY.trans hB0 hbel, _, L, rfl, hDL.mono (Below.size hB0), rfl⟩
def Cn (s:Int):Sc.By:=if JN.evs s 5 = [] then [45] else Lib.join ((JN.evs s 5).map λx=>JN.nm x.1) [32]
theorem azf:∀ s:Fin 256,(Cn (s.1:Int)).length<=60/\(10:UInt8)∉Cn (s.1:Int):=by decide +kernel
theorem azg:∀ s:Fin 256,(Lib.join ((JN.evs (s.1:Int) 5).map λx=>JN.nm x.1) [32]).length<=60:=by decide +kernel
theorem azh {w:World} {base:Nat} {e:TypeId} {v:Value} {n:Nat} {xs:List Value} (h:w.ownsRow base e 1 v (n+1) xs):∃ g cap,v = .slice (some ⟨g,0,none⟩) (n+1) cap/\n+1<=cap/\g<w.heap.size/\∀ j u,xs[j]? = some u->w.cell? ⟨g,0+j,none⟩=some u:=by
 rcases h.2 with⟨_,h2⟩|⟨g,cap,cur,rfl,hb,hg,h3,h4,h5,h6⟩
 ·cases h2
 ·refine⟨g,cap,rfl,h3,(Array.getElem?_eq_some_iff.1 hg).1,λj u hj=>?_⟩;rw[<- h6,List.getElem?_take] at hj;split at hj
  ·simpa [World.cell?,hg] using hj
  ·cases hj
theorem azi (s:Int) (w:World) (hN:JN.aCm w) :
  Calls prog 260 #[.int .u8 s] w λe w'=>∃ v,e = .returned v/\w'.ownsRow w.heap.size 9 1 v (JN.evs s 5).length ((JN.evs s 5).map JN.nmV)/\(v = .slice none 0 0↔JN.evs s 5 = [])/\vY w w' :=
 (callsIn_wide (n:=3)).1 (JN.aDW Fence.wide 3 trivial trivial trivial rfl (by omega) s w hN (Aa (hN 0 (by decide))))
theorem alI (w:World) (s:Int) (h0:0<=s) (h1:s<=255) (hN:JN.aCm w) :
  Calls prog 211 #[.int .u8 s] w λe w'=>e = .returned (.string ⟨(Cn s).toArray⟩)/\vY w w':=by
 have H:=Lib.hid (azi s w hN);have hj:=azg ⟨s.toNat,by omega⟩;simp only[Int.toNat_of_nonneg h0] at hj
 cases hl:JN.evs s 5 with
 | nil =>
  have ht:Cn s = [45]:=by rw[Cn,if_pos hl]
  rw[ht];rw[hl] at H
  go_enter func211,ntmps211
  go_wp2_with (first|(go_at_call 260;refine H.out.mono ?_;rintro e w1 ⟨v,rfl,hS,hnil,hB⟩;obtain rfl:=hnil.2 rfl))
  go_ret
  exact⟨rfl,hB⟩
 | cons x xs =>
  have ht:Cn s=Lib.join ((JN.evs s 5).map λx=>JN.nm x.1) [32]:=by rw[Cn,if_neg (by rw[hl];simp)]
  rw[ht];rw[hl] at H hj ⊢;have q1:(0:Int)<((xs.length+1:Nat):Int):=by omega
  have hlen:(JN.evs s 5).length<=5:=JN.aDm s 5;rw[hl] at hlen;simp at hlen;have hbs:(((x::xs).map λx=>(⟨(JN.nm x.1).toArray⟩:ByteArray)).map (·.data.toList))=(x::xs).map λx=>JN.nm x.1:=by rw[List.map_map];rfl
  go_enter func211,ntmps211
  go_wp2_with (first|(go_at_call 260;refine H.out.mono ?_;rintro e w1 ⟨v,rfl,hS,hnil,hB⟩;obtain⟨g,cap,rfl,hc,hg,hcell⟩:=azh hS;have HJ:=Lib.hid (Tryz.strings_Join g 0 cap ((x::xs).map λx=>(⟨(JN.nm x.1).toArray⟩:ByteArray)) ⟨#[32]⟩ w1 (λj y hy=>hcell j (.string y) (by rw[List.getElem?_map] at hy ⊢;cases hx:(x::xs)[j]? with|none=>rw[hx] at hy;cases hy|some z=>rw[hx] at hy;cases hy;rfl)) hg (by simp;omega) (by simpa using hc) (by rw[hbs];exact Nat.le_trans hj (by decide)));rw[hbs,List.length_map,List.length_cons] at HJ)|(go_at_call 261;refine HJ.out.mono ?_;rintro e w2 ⟨rfl,hB2⟩))
  go_ret
  exact⟨rfl,vY.trans hB hB2⟩
def shB (b:Int×Int):Int×Int:=(b.1/16,bits .or .u64 (b.2/16) (IntKind.u64.wrap (b.1*1152921504606846976)))
def Db:Nat->Int×Int->Int×Int
 | 0,b=>b
 | t+1,b=>shB (Db t b)
def Sw (n:Int):UInt8:=NV.data.toList.getD n.toNat 0
def BS:Nat->Int×Int->Sc.By
 | 0,_=>[]
 | t+1,b=>Sw (bits .and .u64 (Db t b).2 15)::BS t b
theorem NY:∀ (t:Nat) (b:Int×Int),(BS t b).length=t
 | 0,_=>rfl
 | t+1,b=>by rw[BS,List.length_cons,NY t b]
theorem aer (x:Int) (k:Nat) (hk:k<=15):∃ n:Nat,bits .and .u64 x (k:Int)=(n:Int)/\n<=k:=by
 refine⟨((BitVec.ofInt 64 x&&&BitVec.ofInt 64 (k:Int)):BitVec 64).toNat,?_,?_⟩
 ·show IntKind.u64.wrap (((BitVec.ofInt 64 x&&&BitVec.ofInt 64 (k:Int):BitVec 64).toNat:Nat):Int)=_;have:=((BitVec.ofInt 64 x&&&BitVec.ofInt 64 (k:Int)):BitVec 64).isLt;generalize ((BitVec.ofInt 64 x&&&BitVec.ofInt 64 (k:Int)):BitVec 64).toNat=q at *
  unfold IntKind.wrap IntKind.bits IntKind.signed;simp;omega
 ·rw[BitVec.toNat_and];have h2:(BitVec.ofInt 64 (k:Int)).toNat=k:=by rw[BitVec.toNat_ofInt];omega
  rw[h2];exact Nat.and_le_right
def aes (w wr:World) (n t:Nat) (b:Int×Int) (B:Nat):Prop :=
 wr.heap[B]? = some (.cells #[.int .u64 (Db t b).1,.int .u64 (Db t b).2] 25)/\(∃ cs:Array Value,wr.heap[B+1]? = some (.cells cs 5)/\cs.size=n/\∀ j,j<t->cs[n-t+j]? = some (.int .u8 (((BS t b).getD j 0).toNat:Int)))/\vY w wr
theorem azk:(prog.info? 5).map (λi=>(i.zero,i.size,i.bytes))=some (some (.int .u8 0),1,1):=by kernel_rfl
theorem azl (w:World) (n:Nat) (hn:n<=1000):∃ cs:Array Value,cs.size=n/\(Instr.makeSlice 105 (.int .i64 n) (.int .i64 n)).run prog w = .ok (.slice (some ⟨w.heap.size,0,none⟩) n n) (w.alloc (.cells cs 5)):=by obtain⟨i0,hi,hz0,hz1,hz2⟩:=info_parts azk;have h:=run_make (P:=prog) w 105 5 i0 (.int .u8 0) underlying105 hi hz0 .i64 .i64 n n (by omega) (by omega) (by rw[hz2];omega) (by omega);simp only[Int.toNat_natCast,hz1,Nat.mul_one] at h;exact⟨_,size_madeCells _ _,h⟩
theorem azm (k:Nat) (h:k<16):Value.int .u8 (((Sw (k:Int)).toNat:Nat):Int)=Value.int .u8 (((NV[k]'h).toNat:Nat):Int):=by unfold Sw;rw[Int.toNat_natCast,List.getD_eq_getElem?_getD,List.getElem?_eq_getElem (show k<NV.data.toList.length from h)];rfl
theorem azn {w wr:World} {n t:Nat} {b:Int×Int} {cs:Array Value} {v:Value} (hb:wr.heap[w.heap.size]? = some (.cells #[.int .u64 (Db t b).1,.int .u64 (Db t b).2] 25)) (hcs:wr.heap[w.heap.size+1]? = some (.cells cs 5)) (hs:cs.size=n)
  (hd:∀ j,j<t->cs[n-t+j]? = some (.int .u8 (((BS t b).getD j 0).toNat:Int))) (hB:vY w wr) (hlt:t<n) (hv:v = .int .u8 (((Sw (bits .and .u64 (Db t b).2 15)).toNat:Nat):Int)) :
  aes w (((wr.setCell ⟨w.heap.size+1,n-1-t,none⟩ v).setCell ⟨w.heap.size,0,none⟩ (.int .u64 ((Db t b).1/16))).setCell ⟨w.heap.size,1,none⟩ (.int .u64 (bits .or .u64 ((Db t b).2/16) (IntKind.u64.wrap ((Db t b).1*1152921504606846976))))) n (t+1) b w.heap.size:=by
 have g1:=yQ wr (w.heap.size+1) (n-1-t) v;have k1:=(g1.block w.heap.size (Array.getElem?_eq_some_iff.1 hb).1 (λe=>by have:=Option.some.inj e;omega)).trans hb;have s1:=zq (i:=n-1-t) hcs v;have g2:=aem (wr.setCell ⟨w.heap.size+1,n-1-t,none⟩ v) w.heap.size (.int .u64 ((Db t b).1/16)) (.int .u64 (bits .or .u64 ((Db t b).2/16) (IntKind.u64.wrap ((Db t b).1*1152921504606846976))));refine⟨set2 k1 _ _,⟨cs.setIfInBounds (n-1-t) v,(g2.block _ (Array.getElem?_eq_some_iff.1 s1).1 (λe=>by have:=Option.some.inj e;omega)).trans s1,by simp[hs],λj hj=>?_⟩,?_⟩
 ·rw[Array.getElem?_setIfInBounds]
  match j with
  | 0 =>
   rw[if_pos (by omega),if_pos (by omega),hv];rfl
  | j+1 =>
   rw[if_neg (by omega),show n-(t+1)+(j+1)=n-t+j by omega,hd j (by omega)];rfl
 ·have b1:=Below.grown hB g1 (Below.size hB) (λg e=>by cases e;exact Nat.le_succ _);exact Below.grown b1 g2 (Below.size b1) (λg e=>by cases e;exact Nat.le_refl _)
theorem alJ (w:World) (b:Int×Int) (n:Nat) (hn:n<=32) :
  Calls prog 284 #[.agg #[.int .u64 b.1,.int .u64 b.2],.int .i64 n] w λe w'=>e = .returned (.string ⟨(BS n b).toArray⟩)/\vY w w':=by
 obtain⟨cs0,hcs0,hmk⟩:=azl (w.alloc (.cells #[.int .u64 b.1,.int .u64 b.2] 25)) n (by omega);have hsz:(w.alloc (.cells #[.int .u64 b.1,.int .u64 b.2] 25)).heap.size=w.heap.size+1:=by simp
 rw[hsz] at hmk;have hN:(((w.alloc (.cells #[.int .u64 b.1,.int .u64 b.2] 25)).alloc (.cells cs0 5)).heap[w.heap.size+1]? = some (.cells cs0 5)):=Sr w _ _
 have h0:aes w ((w.alloc (.cells #[.int .u64 b.1,.int .u64 b.2] 25)).alloc (.cells cs0 5)) n 0 b w.heap.size :=
  ⟨alloc_at (World.alloc_heap_new w _) _,⟨cs0,hN,hcs0,λj hj=>absurd hj (by omega)⟩,((vY.refl w).alloc _).alloc _⟩
 go_enter func284,ntmps284
 go_wp2
 go_loopw [6] (λi wr=>∃ t:Nat,t<=n/\i = .int .i64 ((n:Int)-1-t)/\aes w wr n t b w.heap.size) (λi _=>(intOf i+1).toNat)
 case atStart=>exact⟨0,Nat.zero_le _,by simp,h0⟩
 case round =>
  obtain⟨t,ht,rfl,hH⟩:=hrel;by_cases hlt:t<n
  ·obtain⟨hb,⟨cs,hcs,hs,hd⟩,hB⟩:=hH;have c0:wr.cell? ⟨w.heap.size,0,none⟩=some (.int .u64 (Db t b).1):=by simp[World.cell?,hb]
   have c1:wr.cell? ⟨w.heap.size,1,none⟩=some (.int .u64 (Db t b).2):=by simp[World.cell?,hb]
   have f0:wr.frozen? ⟨w.heap.size,0,none⟩=false:=by simp[World.frozen?,hb]
   have f1:wr.frozen? ⟨w.heap.size,1,none⟩=false:=by simp[World.frozen?,hb]
   obtain⟨k,hk,hk15⟩:=aer (Db t b).2 15 (Nat.le_refl _);rw[show((15:Nat):Int)=15 from rfl] at hk;have q1:(n:Int)-1-t>=0:=by omega
   have q2:((n:Int)-1-t).toNat=n-1-t:=by omega
   have fc:∀ j,wr.frozen? ⟨w.heap.size+1,j,none⟩=false:=λj=>by simp[World.frozen?,hcs]
   have cc:∃ v,wr.cell? ⟨w.heap.size+1,n-1-t,none⟩=some v:=by
    have:n-1-t<cs.size:=by omega
    exact⟨cs[n-1-t],by simp[World.cell?,hcs,this]⟩
   obtain⟨cv,cc⟩:=cc
   go_wp2
   refine⟨⟨t+1,by omega,by congr 1;omega,?_⟩,by simp only[intOf];omega⟩;generalize hv:Value.int IntKind.u8 _=v
   have hv':v = .int .u8 (((Sw (k:Int)).toNat:Nat):Int):=by rw[<- hv];exact(azm k (by omega)).symm
   exact azn hb hcs hs hd hB hlt (by rw[hv',hk])
  ·obtain rfl:t=n:=by omega
   obtain⟨hb,⟨cs,hcs,hs,hd⟩,hB⟩:=hH;have q1:¬ (t:Int)-1-t>=0:=by omega
   have hcv:=Go.run_convert_bytes_back (P:=prog) wr 105 9 5 ⟨w.heap.size+1,0,none⟩ t (BS t b) underlying105 underlying5 underlying9 (λj hj=>by
    rw[NY] at hj;have h1:=hd j hj;rw[Nat.sub_self,Nat.zero_add] at h1;rw[Addr.add_lit];simp only[World.cell?,Nat.zero_add,hcs]
    rw[h1,List.getD_eq_getElem?_getD,List.getElem?_eq_getElem (by rw[NY];exact hj)];rfl)
   rw[NY] at hcv
   go_wp2
   go_ret
   exact⟨rfl,hB⟩
abbrev zO (x:Int):Prop:=(Lit.int .u8 x).wf=true
abbrev wfW (x:Int):Prop:=(Lit.int .u64 x).wf=true
def bW (b:Int×Int):Prop:=wfW b.1/\wfW b.2
def Gt:xN->Prop
 | .op o f t a b c=>zO o/\zO f/\zO t/\bW a/\bW b/\bW c
 | .env m t=>zO m/\zO t
 | _=>True
theorem Eg {k:IntKind} {n:Int} (h:(Lit.int k n).wf=true):k.wrap n=n:=by unfold Lit.wf IntKind.min IntKind.max IntKind.signed IntKind.bits at h;unfold IntKind.wrap IntKind.signed IntKind.bits;cases k<;>simp at h ⊢ <;> (try split)<;>omega
theorem azo {x:Int} (h0:0<=x) (h1:x<=255):zO x:=by simp[zO,Lit.wf,IntKind.min,IntKind.max,IntKind.signed,IntKind.bits];omega
theorem azp {x:Int} (h:zO x):0<=x/\x<=255:=by simp[zO,Lit.wf,IntKind.min,IntKind.max,IntKind.signed,IntKind.bits] at h;omega
theorem Kh {zs ws ws':List ByteArray} {k:Int} (hz:zs.length<=5) (h:ym zs ws=some (k,ws')):zO k/\0<=k/\k<(zs.length:Int)+1:=by
 cases ws with
 | nil=>cases h
 | cons s ws =>
  rw[ym] at h;by_cases hi:0<=Lib.idxOfS zs s
  ·rw[if_pos hi] at h;simp only[Option.some.injEq,Prod.mk.injEq] at h;have:=alr zs s;obtain⟨h1,_⟩:=h;subst h1;refine⟨azo hi (by omega),hi,by omega⟩
  ·rw[if_neg hi] at h;cases h
theorem azq {b b':Int×Int} {c:UInt8} (h:Dt b c=some b'):bW b':=by
 unfold Dt at h;by_cases hi:0<=Sq c
 ·rw[if_pos hi] at h;cases h;exact⟨wf_bits .or .u64 _ _,wf_bits .or .u64 _ _⟩
 ·rw[if_neg hi] at h;cases h
theorem alL:∀ (l:List UInt8) (b b':Int×Int),bW b->l.foldlM Dt b=some b'->bW b'
 | [],b,b',hb,h=>by cases h;exact hb
 | c::l,b,b',hb,h=>by
  rw[List.foldlM_cons] at h
  cases hs:Dt b c with
  | none=>rw[hs] at h;cases h
  | some b1=>rw[hs] at h;exact alL l b1 b' (azq hs) h
theorem Mh:bW (0,0):=⟨by decide,by decide⟩
theorem Yt {ws ws':List ByteArray} {b:Int×Int} (h:Cm ws=some (b,ws')):bW b:=by
 cases ws with
 | nil=>cases h
 | cons s ws =>
  rw[Cm] at h;by_cases hi:s.size<=32
  ·rw[if_pos hi] at h
   cases hf:s.data.toList.foldlM Dt (0,0) with
   | none=>rw[hf] at h;cases h
   | some b1=>rw[hf] at h;cases h;exact alL _ _ _ Mh hf
  ·rw[if_neg hi] at h;cases h
theorem alM:∀ (n:Nat) (ws ws':List ByteArray) (l:List (Int×Int)),Ef n ws=some (l,ws')->∀ b∈l,bW b
 | 0,ws,ws',l,h,b,hb=>by simp only[Ef,Option.some.injEq,Prod.mk.injEq] at h;rw[<- h.1] at hb;cases hb
 | n+1,ws,ws',l,h,b,hb=>by
  rw[Ef] at h;split at h
  ·cases h
  ·rename_i l1 ws1 h1;split at h
   ·cases h
   ·rename_i b1 ws2 h2;simp only[Option.some.injEq,Prod.mk.injEq] at h;rw[<- h.1] at hb;rcases List.mem_append.1 hb with hb|hb
    ·exact alM n ws ws1 l1 h1 b hb
    ·rw[List.mem_singleton.1 hb];exact Yt h2
theorem azr {l:List (Int×Int)} (h:∀ b∈l,bW b) (j:Nat):bW (l.getD j (0,0)):=by
 rw[List.getD_eq_getElem?_getD];by_cases hj:j<l.length
 ·rw[List.getElem?_eq_getElem hj];exact h _ (List.getElem_mem hj)
 ·rw[List.getElem?_eq_none (by omega)];exact Mh
theorem aet {l:List (Int×Int)} (h:∀ b∈l,bW b) (j:Nat):bW (l[j]?.getD (0,0)):=by
 have:=azr h j
 rwa [List.getD_eq_getElem?_getD] at this
theorem H7 {o:Int} {n:Nat} {ws ws':List ByteArray} {c:xN} (ho:zO o) (h:zW o n ws=some (c,ws')):Gt c:=by
 unfold zW at h;split at h
 ·cases h
 ·rename_i f ws1 h1;split at h
  ·cases h
  ·rename_i l ws2 h2;simp only[Option.some.injEq,Prod.mk.injEq] at h;rw[<- h.1];have hb:=alM n ws1 ws2 l h2;exact⟨ho,(Kh (by decide) h1).1,by decide,aet hb 0,aet hb 1,aet hb 2⟩
theorem azs {ws ws':List ByteArray} {c:xN} (h:EB ws=some (c,ws')):Gt c:=by
 rw[EB] at h
 cases h1:ym A8 ws with
 | none=>rw[h1] at h;cases h
 | some r1 =>
  obtain⟨f,ws1⟩:=r1;rw[h1] at h
  cases h2:ym A8 ws1 with
  | none=>simp only[h2] at h;cases h
  | some r2 =>
   obtain⟨t,ws2⟩:=r2
   cases h3:Cm ws2 with
   | none=>simp only[h2,h3] at h;cases h
   | some r3 =>
    obtain⟨a,ws3⟩:=r3;simp only[h2,h3] at h;cases h;exact⟨by decide,(Kh (by decide) h1).1,(Kh (by decide) h2).1,Yt h3,Mh,Mh⟩
theorem azt {ws ws':List ByteArray} {c:xN} (h:Fy ws=some (c,ws')):Gt c:=by
 rw[Fy] at h
 cases h1:ym A8 ws with
 | none=>rw[h1] at h;cases h
 | some r1 =>
  obtain⟨f,ws1⟩:=r1;rw[h1] at h
  cases h2:ym Gr ws1 with
  | none=>simp only[h2] at h;cases h
  | some r2 =>
   obtain⟨t,ws2⟩:=r2
   cases h3:Cm ws2 with
   | none=>simp only[h2,h3] at h;cases h
   | some r3 =>
    obtain⟨a,ws3⟩:=r3;simp only[h2,h3] at h;cases h;exact⟨by decide,(Kh (by decide) h1).1,(Kh (by decide) h2).1,Yt h3,Mh,Mh⟩
theorem azu {ws ws':List ByteArray} {c:xN} (h:Fz ws=some (c,ws')):Gt c:=by
 rw[Fz] at h
 cases h1:ym Gr ws with
 | none=>rw[h1] at h;cases h
 | some r1 =>
  obtain⟨f,ws1⟩:=r1;rw[h1] at h
  cases h2:ym A8 ws1 with
  | none=>simp only[h2] at h;cases h
  | some r2 =>
   obtain⟨t,ws2⟩:=r2
   cases h3:Cm ws2 with
   | none=>simp only[h2,h3] at h;cases h
   | some r3 =>
    obtain⟨a,ws3⟩:=r3;simp only[h2,h3] at h;cases h;exact⟨by decide,(Kh (by decide) h2).1,(Kh (by decide) h1).1,Yt h3,Mh,Mh⟩
theorem azv {ws ws':List ByteArray} {c:xN} (h:AL ws=some (c,ws')):Gt c:=by
 rw[AL] at h
 cases h1:ym HY ws with
 | none=>rw[h1] at h;cases h
 | some r1 =>
  obtain⟨m,ws1⟩:=r1;rw[h1] at h
  cases h2:ym IW ws1 with
  | none=>simp only[h2] at h;cases h
  | some r2 =>
   obtain⟨t,ws2⟩:=r2;simp only[h2] at h;cases h;exact⟨(Kh (by decide) h1).1,(Kh (by decide) h2).1⟩
theorem azw {s:ByteArray} {ws ws':List ByteArray} {c:xN} (h:yG s ws=some (c,ws')):Gt c:=by
 unfold yG at h;by_cases z:s=Bw
 ·rw[if_pos z] at h;exact H7 (by decide) h
 rw[if_neg z] at h;clear z;by_cases z:s=Bz
 ·rw[if_pos z] at h;exact H7 (by decide) h
 rw[if_neg z] at h;clear z;by_cases z:s=BA
 ·rw[if_pos z] at h;exact H7 (by decide) h
 rw[if_neg z] at h;clear z;by_cases z:s=BB
 ·rw[if_pos z] at h;exact H7 (by decide) h
 rw[if_neg z] at h;clear z;by_cases z:s=BC
 ·rw[if_pos z] at h;exact H7 (by decide) h
 rw[if_neg z] at h;clear z;by_cases z:s=BD
 ·rw[if_pos z] at h;exact H7 (by decide) h
 rw[if_neg z] at h;clear z;by_cases z:s=BF
 ·rw[if_pos z] at h;exact H7 (by decide) h
 rw[if_neg z] at h;clear z;by_cases z:s=BG
 ·rw[if_pos z] at h;exact H7 (by decide) h
 rw[if_neg z] at h;clear z;by_cases z:s=BH
 ·rw[if_pos z] at h;exact H7 (by decide) h
 rw[if_neg z] at h;clear z;by_cases z:s=BI
 ·rw[if_pos z] at h;exact H7 (by decide) h
 rw[if_neg z] at h;clear z;by_cases z:s=BJ
 ·rw[if_pos z] at h;exact H7 (by decide) h
 rw[if_neg z] at h;clear z;by_cases z:s=A9
 ·rw[if_pos z] at h;exact azs h
 rw[if_neg z] at h;clear z;by_cases z:s=Ba
 ·rw[if_pos z] at h;exact azt h
 rw[if_neg z] at h;clear z;by_cases z:s=Bb
 ·rw[if_pos z] at h;exact azu h
 rw[if_neg z] at h;clear z;by_cases z:s=Bc
 ·rw[if_pos z] at h;exact azv h
 rw[if_neg z] at h;clear z;by_cases z:s=Bd
 ·rw[if_pos z] at h;cases h;trivial
 rw[if_neg z] at h;clear z;by_cases z:s=Be
 ·rw[if_pos z] at h;cases h;trivial
 rw[if_neg z] at h;clear z;cases h
abbrev St:=Nat×Int×Int
def st0:St:=(0,0,0)
def N7 (st:St):Prop:=st.1<32/\zO st.2.1/\zO st.2.2
def Vf (n:Int):Sc.By:=if n=0 then [108,101,115,115] else if n=1 then [101,113,117,97,108] else if n=2 then [103,114,101,97,116,101,114] else [117,110,111,114,100,101,114,101,100]
def BU (f:Int):Nat:=if f=0 then 4 else if f=1 then 8 else if f=2 then 16 else if f=3 then 32 else 0
def Co (o f t:Int) (b:Int×Int):Sc.By :=
 if o=11 then BS 16 b else if o=13\/o=14 then Vf (bits .and .u64 b.2 3) else if o=10 then BS (BU t) b else BS (BU f) b
def act:xN->St->(Sc.By×Int)×St
 | .op o f t a b c,st =>
  let r:=oE (xw [o,f,t,st.2.1,st.2.2,a.1,a.2,b.1,b.2,c.1,c.2])
  ((Co o f t (r.2.1,r.2.2.1)++32::Cn r.2.2.2,r.1),(J [st.1,r.2.2.2],st.2.1,st.2.2))
 | .env m t,st=>(([],0),(st.1,m,t))
 | .clear,st=>(([],0),(0,st.2.1,st.2.2))
 | .sticky,st=>((Cn ((st.1%32:Nat):Int),0),st)
theorem azx (o f t m i:Int) (a b c:Int×Int) (ho:zO o) (hf:zO f) (ht:zO t) (hm:zO m) (hi:zO i) (ha:bW a) (hb:bW b) (hc:bW c) :
  Qw (xE [o,f,t,m,i,a.1,a.2,b.1,b.2,c.1,c.2])=(zH o f t m i a b c).toList:=by
 simp only[Qw,xE,wC];simp[Eg ho,Eg hf,Eg ht,Eg hm,Eg hi,Eg ha.1,Eg ha.2,Eg hb.1,Eg hb.2,Eg hc.1,Eg hc.2]
theorem azy (o f t m i:Int) (a b c:Int×Int) (ho:zO o) (hf:zO f) (ht:zO t) (hm:zO m) (hi:zO i) (ha:bW a) (hb:bW b) (hc:bW c) :
  UJ (zH o f t m i a b c).toList (oE (xw [o,f,t,m,i,a.1,a.2,b.1,b.2,c.1,c.2])).1 (oE (xw [o,f,t,m,i,a.1,a.2,b.1,b.2,c.1,c.2])).2.1 (oE (xw [o,f,t,m,i,a.1,a.2,b.1,b.2,c.1,c.2])).2.2.1 (oE (xw [o,f,t,m,i,a.1,a.2,b.1,b.2,c.1,c.2])).2.2.2:=by
 have h1:=ajy (e:=[o,f,t,m,i,a.1,a.2,b.1,b.2,c.1,c.2]) rfl (aAy _ rfl)
 rwa [azx o f t m i a b c ho hf ht hm hi ha hb hc] at h1
theorem azz (l:List Int) (h:l.length=11):(oE (xw l)).1=0\/(oE (xw l)).1=1:=by
 rcases aAA l h with⟨_,r,hr⟩|⟨_,hr⟩
 ·left;show IntKind.i64.wrap (wC (xw l) 0)=0;rw[hr];rfl
 ·right;show IntKind.i64.wrap (wC (xw l) 0)=1;rw[hr];rfl
theorem azA:∀ n:Fin 16,Sw (n.1:Int)≠10:=by decide
theorem Yu:∀ (t:Nat) (b:Int×Int),(10:UInt8)∉BS t b
 | 0,_,h=>by cases h
 | t+1,b,h=>by
  rw[BS] at h;rcases List.mem_cons.1 h with h|h
  ·obtain⟨n,hn,hk⟩:=aer (Db t b).2 15 (Nat.le_refl _);rw[show((15:Nat):Int)=15 from rfl] at hn;rw[hn] at h;exact azA ⟨n,by omega⟩ h.symm
  ·exact Yu t b h
theorem alN (n:Int):(10:UInt8)∉Vf n/\(Vf n).length<=9:=by
 unfold Vf;repeat' split
 all_goals exact⟨by decide,by decide⟩
theorem Vg (f:Int):BU f<=32:=by unfold BU;repeat' split<;>try omega
theorem alO (o f t:Int) (b:Int×Int):(10:UInt8)∉Co o f t b/\(Co o f t b).length<=32:=by
 unfold Co;repeat' split
 ·exact⟨Yu _ _,by rw[NY];decide⟩
 ·exact⟨(alN _).1,Nat.le_trans (alN _).2 (by decide)⟩
 ·exact⟨Yu _ _,by rw[NY];exact Vg _⟩
 ·exact⟨Yu _ _,by rw[NY];exact Vg _⟩
theorem aeu (s:Int) (h0:0<=s) (h1:s<=255):(Cn s).length<=60/\(10:UInt8)∉Cn s:=by
 have:=azf ⟨s.toNat,by omega⟩
 rwa [show((⟨s.toNat,by omega⟩:Fin 256).1:Int)=s by simp[Int.toNat_of_nonneg h0]] at this
theorem alP (c:xN) (st:St):((act c st).1.2=0\/(act c st).1.2=1)/\(10:UInt8)∉(act c st).1.1/\(act c st).1.1.length<=100:=by
 cases c with
 | op o f t a b c =>
  have he:=azz [o,f,t,st.2.1,st.2.2,a.1,a.2,b.1,b.2,c.1,c.2] rfl;have hl:(oE (xw [o,f,t,st.2.1,st.2.2,a.1,a.2,b.1,b.2,c.1,c.2])).2.2.2<=255:=acV _;simp only[act];generalize oE (xw [o,f,t,st.2.1,st.2.2,a.1,a.2,b.1,b.2,c.1,c.2])=r at *
  have h2:=aeu (r.2.2.2:Int) (by omega) (by omega);have h3:=alO o f t (r.2.1,r.2.2.1);refine⟨he,λh=>?_,?_⟩
  ·rcases List.mem_append.1 h with h|h
   ·exact h3.1 h
   ·rcases List.mem_cons.1 h with h|h
    ·cases h
    ·exact h2.2 h
  ·rw[List.length_append,List.length_cons];omega
 | env m t=>exact⟨.inl rfl,by simp[act],by simp[act]⟩
 | clear=>exact⟨.inl rfl,by simp[act],by simp[act]⟩
 | sticky =>
  have h2:=aeu ((st.1%32:Nat):Int) (by omega) (by omega);exact⟨.inl rfl,h2.2,by have:=h2.1;show(Cn _).length<=100;omega⟩
theorem azB (c:xN) (st:St) (hc:Gt c) (hs:N7 st):N7 (act c st).2:=by
 cases c with
 | op o f t a b c=>exact⟨acZ _,hs.2.1,hs.2.2⟩
 | env m t=>exact⟨hs.1,hc.1,hc.2⟩
 | clear=>exact⟨by show 0<32;decide,hs.2.1,hs.2.2⟩
 | sticky=>exact hs
theorem alQ (w:World) (hG:Gl gG w) (f:Int) (hf:zO f):Calls prog 28 #[.int .u8 f] w λe w'=>e = .returned (.int .i64 ((4*BU f:Nat):Int))/\vY w w':=by
 have h:=(ajT [f] rfl).2 w hG;have h1:xk LP.a [f] = [.int .u8 f]:=by show [Value.int .u8 (IntKind.u8.wrap f)]=_;rw[Eg hf]
 have hr:=azp hf
 have h3:FP.fW (fN f)=4*BU f:=by
  obtain⟨n,rfl⟩:∃ n:Nat,f=(n:Int):=⟨f.toNat,by omega⟩
  have e1:fN (n:Int)=n:=by show(zC .u8 (n:Int)).toNat=n;rw[yJ,Eg hf];rfl
  rw[e1];unfold BU
  match n with
  | 0=>rfl
  | 1=>rfl
  | 2=>rfl
  | 3=>rfl
  | n+4=>rw[if_neg (by omega),if_neg (by omega),if_neg (by omega),if_neg (by omega)];rfl
 have h2:xU (xk LP.r (NC [f])) = .int .i64 ((4*BU f:Nat):Int):=by rw[ahQ,h3];show Value.int .i64 (IntKind.i64.wrap _)=_;rw[Eg];have:=Vg f;simp[Lit.wf,IntKind.min,IntKind.max,IntKind.signed,IntKind.bits];omega
 simp only[h1,h2] at h;unfold Ce at h;rw[KE func28 (by kernel_rfl) (by kernel_rfl)] at h;exact h
theorem alR (w:World) (b:Int×Int) (n:Nat) (hn:n<=32) :
  Calls prog 284 #[.agg #[.int .u64 b.1,.int .u64 b.2],.int .i64 (IntKind.i64.wrap (n:Int))] w λe w'=>e = .returned (.string ⟨(BS n b).toArray⟩)/\vY w w':=by
 have h:IntKind.i64.wrap (n:Int)=n:=by apply Eg;simp[Lit.wf,IntKind.min,IntKind.max,IntKind.signed,IntKind.bits];omega
 rw[h];exact alJ w b n hn
def BV (w:World) (j:Nat) (g:Int) (x:Int×Int) (W:World):Prop:=vY w W/\W.cell? ⟨w.heap.size,j,none⟩=some (.int .u8 g)/\W.cell? ⟨w.heap.size+1,0,none⟩=some (.int .u64 x.1)/\W.cell? ⟨w.heap.size+1,1,none⟩=some (.int .u64 x.2)
theorem BV.bel {w W W':World} {j:Nat} {g:Int} {x:Int×Int} (h:BV w j g x W) (hB:vY W W'):BV w j g x W' :=
 ⟨vY.trans h.1 hB,(hB.cell _ _ (Aa h.2.1)).trans h.2.1,(hB.cell _ _ (Aa h.2.2.1)).trans h.2.2.1,(hB.cell _ _ (Aa h.2.2.2)).trans h.2.2.2⟩
theorem BV.new {w W:World} {o f t m i:Int} {x a b c:Int×Int} (hB:vY w W) (h1:W.heap[w.heap.size]? = some (.cells (zH o f t m i a b c) 31)) (h2:W.heap[w.heap.size+1]? = some (.cells #[.int .u64 x.1,.int .u64 x.2] 25)):BV w 1 f x W/\BV w 2 t x W :=
 ⟨⟨hB,by simp[World.cell?,h1],by simp[World.cell?,h2],by simp[World.cell?,h2]⟩,⟨hB,by simp[World.cell?,h1],by simp[World.cell?,h2],by simp[World.cell?,h2]⟩⟩
theorem azC (w:World) (hG:Gl gG w) (o f t:Int) (m i:Int) (x a b c:Int×Int) (ho:zO o) (hf:zO f) (ht:zO t) :
  Calls prog 255 #[.agg (zH o f t m i a b c),.agg #[.int .u64 x.1,.int .u64 x.2]] w λe w'=>e = .returned (.string ⟨(Co o f t x).toArray⟩)/\vY w w':=by
 by_cases z1:o=11
 ·subst z1;have he:Co 11 f t x=BS 16 x:=by simp[Co]
  rw[he]
  go_enter func255,ntmps255
  go_wp2_with (go_at_call 284;refine(alJ _ x 16 (by decide)).mono ?_;rintro e w1 ⟨rfl,hB⟩)
  go_ret
  exact⟨rfl,vY.trans (((vY.refl w).alloc _).alloc _) hB⟩
 have y1:(o==11)=false:=by simpa using z1
 by_cases z2:o=13\/o=14
 ·have he:Co o f t x=Vf (bits .and .u64 x.2 3):=by unfold Co;rw[if_neg z1,if_pos z2]
  rw[he];obtain⟨k,hk,hk3⟩:=aer x.2 3 (by decide);rw[show((3:Nat):Int)=3 from rfl] at hk;have hk4:(k:Int)=0\/(k:Int)=1\/(k:Int)=2\/(k:Int)=3:=by omega
  rw[hk];generalize (k:Int)=q at hk hk4 ⊢;clear hk3;rcases z2 with rfl|rfl;all_goals rcases hk4 with rfl|rfl|rfl|rfl
  all_goals
   go_enter func255,ntmps255
   go_wp2
   go_ret
   exact⟨rfl,((vY.refl w).alloc _).alloc _ |>.alloc _⟩
 have y2:(o==13)=false:=by simp;intro e;exact z2 (.inl e)
 have y3:(o==14)=false:=by simp;intro e;exact z2 (.inr e)
 have hbx:(((w.alloc (.cells (zH o f t m i a b c) 31)).alloc (.cells #[.int .u64 x.1,.int .u64 x.2] 25)).heap[w.heap.size+1]?)=some (.cells #[.int .u64 x.1,.int .u64 x.2] 25):=Sr w _ _;have hen:(((w.alloc (.cells (zH o f t m i a b c) 31)).alloc (.cells #[.int .u64 x.1,.int .u64 x.2] 25)).heap[w.heap.size]?)=some (.cells (zH o f t m i a b c) 31):=alloc_at (World.alloc_heap_new w _) _;have hB0:vY w ((w.alloc (.cells (zH o f t m i a b c) 31)).alloc (.cells #[.int .u64 x.1,.int .u64 x.2] 25)):=((vY.refl w).alloc _).alloc _;by_cases z3:o=10
 ·subst z3;have he:Co 10 f t x=BS (BU t) x:=by simp[Co]
  rw[he];have HW:=Lib.hid (λW (hS:BV w 2 t x W)=>(alQ W (hG.bel hS.1) t ht).mono λe W' (hh:e = .returned (.int .i64 ((4*BU t:Nat):Int))/\vY W W')=>(⟨hh.1,hS.bel hh.2⟩:e = .returned (.int .i64 ((4*BU t:Nat):Int))/\BV w 2 t x W'));have HH:=Lib.hid (λW (hS:BV w 2 t x W)=>(alR W x (BU t) (Vg t)).mono λe W' (hh:e = .returned (.string ⟨(BS (BU t) x).toArray⟩)/\vY W W')=>(⟨hh.1,hS.bel hh.2⟩:e = .returned (.string ⟨(BS (BU t) x).toArray⟩)/\BV w 2 t x W'));have hS0:BV w 2 t x ((w.alloc (.cells (zH 10 f t m i a b c) 31)).alloc (.cells #[.int .u64 x.1,.int .u64 x.2] 25)):=(BV.new hB0 hen hbx).2
  go_enter func255,ntmps255
  go_wp2_with fail
  generalize (w.alloc (Obj.cells (zH 10 f t m i a b c) 31)).alloc (Obj.cells #[Value.int IntKind.u64 x.1,Value.int IntKind.u64 x.2] 25)=W0 at hS0 ⊢;have k0:=hS0.1;have k1:=hS0.2.1;have k2:=hS0.2.2.1;have k3:=hS0.2.2.2;unfold BV at HW HH hS0
  go_region_held3 (λW=>vY w W/\W.cell? ⟨w.heap.size,2,none⟩=some (.int .u8 t)/\W.cell? ⟨w.heap.size+1,0,none⟩=some (.int .u64 x.1)/\W.cell? ⟨w.heap.size+1,1,none⟩=some (.int .u64 x.2)) (first|exact hS'|((try dsimp only);(repeat' apply And.intro)<;>first|assumption|exact k0.drew|go_keep))
   (first|(go_at_call 28;refine(HW.out _ (by assumption)).mono ?_;rintro e w' ⟨rfl,hS'⟩)|(go_at_call 284;refine(HH.out _ (by assumption)).mono ?_;rintro e w' ⟨rfl,hS'⟩))
  all_goals go_wp2
  all_goals go_ret
  all_goals first|(rename_i hS;exact⟨rfl,hS.1⟩)|(rename_i hS _;exact⟨rfl,hS.1⟩)|(rename_i hS _ _;exact⟨rfl,hS.1⟩)|exact⟨rfl,hS'.1⟩
 ·have y4:(o==10)=false:=by simpa using z3
  have he:Co o f t x=BS (BU f) x:=by unfold Co;rw[if_neg z1,if_neg z2,if_neg z3]
  rw[he];have HW:=Lib.hid (λW (hS:BV w 1 f x W)=>(alQ W (hG.bel hS.1) f hf).mono λe W' (hh:e = .returned (.int .i64 ((4*BU f:Nat):Int))/\vY W W')=>(⟨hh.1,hS.bel hh.2⟩:e = .returned (.int .i64 ((4*BU f:Nat):Int))/\BV w 1 f x W'));have HH:=Lib.hid (λW (hS:BV w 1 f x W)=>(alR W x (BU f) (Vg f)).mono λe W' (hh:e = .returned (.string ⟨(BS (BU f) x).toArray⟩)/\vY W W')=>(⟨hh.1,hS.bel hh.2⟩:e = .returned (.string ⟨(BS (BU f) x).toArray⟩)/\BV w 1 f x W'));have hS0:BV w 1 f x ((w.alloc (.cells (zH o f t m i a b c) 31)).alloc (.cells #[.int .u64 x.1,.int .u64 x.2] 25)):=(BV.new hB0 hen hbx).1
  go_enter func255,ntmps255
  go_wp2_with fail
  generalize (w.alloc (Obj.cells (zH o f t m i a b c) 31)).alloc (Obj.cells #[Value.int IntKind.u64 x.1,Value.int IntKind.u64 x.2] 25)=W0 at hS0 ⊢;have k0:=hS0.1;have k1:=hS0.2.1;have k2:=hS0.2.2.1;have k3:=hS0.2.2.2;unfold BV at HW HH hS0
  go_region_held3 (λW=>vY w W/\W.cell? ⟨w.heap.size,1,none⟩=some (.int .u8 f)/\W.cell? ⟨w.heap.size+1,0,none⟩=some (.int .u64 x.1)/\W.cell? ⟨w.heap.size+1,1,none⟩=some (.int .u64 x.2)) (first|exact hS'|((try dsimp only);(repeat' apply And.intro)<;>first|assumption|exact k0.drew|go_keep))
   (first|(go_at_call 28;refine(HW.out _ (by assumption)).mono ?_;rintro e w' ⟨rfl,hS'⟩)|(go_at_call 284;refine(HH.out _ (by assumption)).mono ?_;rintro e w' ⟨rfl,hS'⟩))
  all_goals go_wp2
  all_goals go_ret
  all_goals first|(rename_i hS;exact⟨rfl,hS.1⟩)|(rename_i hS _;exact⟨rfl,hS.1⟩)|(rename_i hS _ _;exact⟨rfl,hS.1⟩)|exact⟨rfl,hS'.1⟩
abbrev tP:TypeId:=103
def Ao (W:World) (bp bM:Nat) (st:St):Prop :=
 W.heap[bp]? = some (.cells #[.pointer (some ⟨bM,0,none⟩),.int .u8 st.2.1,.int .u8 st.2.2] tP)/\Boxed W bM tM (.int .u8 (st.1:Int))/\bp≠bM
def zt (S:Nat->Prop) (A B:World):Prop:=B.os=A.os/\B.tape=A.tape/\B.output=A.output/\A.heap.size<=B.heap.size/\∀ k,k<A.heap.size->¬ S k->B.heap[k]? = A.heap[k]?
theorem zt.trans {S:Nat->Prop} {A B C:World} (h:zt S A B) (k:zt S B C):zt S A C :=
 ⟨k.1.trans h.1,k.2.1.trans h.2.1,k.2.2.1.trans h.2.2.1,Nat.le_trans h.2.2.2.1 k.2.2.2.1,λi hi hs=>(k.2.2.2.2 i (Nat.lt_of_lt_of_le hi h.2.2.2.1) hs).trans (h.2.2.2.2 i hi hs)⟩
theorem zt.aC0 {S:Nat->Prop} {A B:World} {r:Option Nat} (h:A.grownBy B r) (hr:∀ b,r=some b->S b\/A.heap.size<=b):zt S A B :=
 ⟨h.os,h.tape,h.output,h.size,λk hk hs=>h.block k hk (λe=>by rcases hr k e.symm with h|h;exact hs h;omega)⟩
theorem zt.aDX {S:Nat->Prop} {A B:World} (h:vY A B):zt S A B:=⟨Below.os h,Below.tape h,Below.output h,Below.size h,λk hk _=>Below.block h k hk⟩
theorem Vh {W:World} {bp bM:Nat} {st:St} (h:Ao W bp bM st):W.cell? ⟨bp,0,none⟩=some (.pointer (some ⟨bM,0,none⟩))/\W.cell? ⟨bp,1,none⟩=some (.int .u8 st.2.1)/\W.cell? ⟨bp,2,none⟩=some (.int .u8 st.2.2):=by refine⟨?_,?_,?_⟩<;>simp[World.cell?,h.1]
theorem Ao.kept {w W:World} {bp bM:Nat} {st:St} (h:Ao w bp bM st) (h1:W.heap[bp]? = w.heap[bp]?) (h2:W.heap[bM]? = w.heap[bM]?):Ao W bp bM st :=
 ⟨h1.trans h.1,h2.trans h.2.1,h.2.2⟩
def alS (w:World) (B bp bM:Nat) (o f t:Int) (a b c:Int×Int) (st:St) (W:World):Prop :=
 W.heap[B]? = some (.cells (zH o f t st.2.1 st.2.2 a b c) 31)/\Ao W bp bM st/\zt (λk=>k=bp\/k=bM\/k=B) w W
theorem filled {w:World} {B bp bM:Nat} {o f t:Int} {a b c:Int×Int} {st:St} (hp:Ao w bp bM st) (hB:w.heap[B]? = some (.cells (zH o f t 0 0 a b c) 31)) (hne:B≠bp/\B≠bM) :
  alS w B bp bM o f t a b c st ((w.setCell ⟨B,3,none⟩ (.int .u8 st.2.1)).setCell ⟨B,4,none⟩ (.int .u8 st.2.2)).drew:=by
 have g1:=yQ w B 3 (.int .u8 st.2.1);have g2:=yQ (w.setCell ⟨B,3,none⟩ (.int .u8 st.2.1)) B 4 (.int .u8 st.2.2);have s1:=zq (i:=3) hB (.int .u8 st.2.1);have s2:=zq (i:=4) s1 (.int .u8 st.2.2);have lp:=(Array.getElem?_eq_some_iff.1 hp.1).1;have lM:=hp.2.1.lt;have g3:=grownBy_trans g1 g2;refine⟨s2,hp.kept (g3.block _ lp (λe=>hne.1 (Option.some.inj e).symm)) (g3.block _ lM (λe=>hne.2 (Option.some.inj e).symm)),?_⟩;exact zt.aC0 (grownBy_trans g3 (IX _ _)) (λb e=>.inl (.inr (.inr (Option.some.inj e).symm)))
theorem aev {S:Nat->Prop} {w0 w W:World} (h:vY w0 w) (hk:zt S w W) (hS:∀ k,S k->w0.heap.size<=k):vY w0 W :=
 ⟨hk.1.trans (Below.os h),hk.2.1.trans (Below.tape h),hk.2.2.1.trans (Below.output h),Nat.le_trans (Below.size h) hk.2.2.2.1,λk hk1=>(hk.2.2.2.2 k (Nat.lt_of_lt_of_le hk1 (Below.size h)) (λhs=>by have:=hS k hs;omega)).trans (Below.block h k hk1)⟩
theorem aew {W:World} {B:Nat} {o f t m i:Int} {a b c:Int×Int} (h:W.heap[B]? = some (.cells (zH o f t m i a b c) 31)) :
  W.cell? ⟨B,0,none⟩=some (.int .u8 o)/\W.cell? ⟨B,1,none⟩=some (.int .u8 f)/\W.cell? ⟨B,2,none⟩=some (.int .u8 t)/\W.cell? ⟨B,3,none⟩=some (.int .u8 m)/\W.cell? ⟨B,4,none⟩=some (.int .u8 i)/\W.cell? ⟨B,5,none⟩=some (.int .u64 a.1)/\W.cell? ⟨B,6,none⟩=some (.int .u64 a.2)/\W.cell? ⟨B,7,none⟩=some (.int .u64 b.1)/\W.cell? ⟨B,8,none⟩=some (.int .u64 b.2)/\W.cell? ⟨B,9,none⟩=some (.int .u64 c.1)/\W.cell? ⟨B,10,none⟩=some (.int .u64 c.2):=by
 refine⟨?_,?_,?_,?_,?_,?_,?_,?_,?_,?_,?_⟩<;>simp[World.cell?,h]
def Did (W:World) (B bp bM R:Nat) (o f t:Int) (a b c:Int×Int) (st:St) (r:Out) (X:World):Prop :=
 X.heap[B]? = some (.cells (zH o f t st.2.1 st.2.2 a b c) 31)/\X.heap[R]? = some (.cells #[.int .i64 r.1,.int .u64 r.2.1,.int .u64 r.2.2.1,.int .u8 (r.2.2.2:Int)] 41)/\Ao X bp bM (J [st.1,r.2.2.2],st.2.1,st.2.2)/\zt (λk=>k=bM) W X
abbrev N8:Obj:=.cells #[.int .i64 0,.int .u64 0,.int .u64 0,.int .u8 0] 41
abbrev azD (r:Out):Obj:=.cells #[.int .i64 r.1,.int .u64 r.2.1,.int .u64 r.2.2.1,.int .u8 (r.2.2.2:Int)] 41
theorem azE {W w1:World} {B bp bM:Nat} {o f t:Int} {a b c:Int×Int} {st:St} {r:Out} (hB1:W.heap[B]? = some (.cells (zH o f t st.2.1 st.2.2 a b c) 31)) (hp1:Ao W bp bM st) (hne:B≠bp/\B≠bM)
  (hM1:Boxed w1 bM tM (.int .u8 (J [st.1,r.2.2.2]:Int))) (hg1:W.drew.grownBy w1 (some bM)):Did W B bp bM w1.heap.size o f t a b c st r (w1.alloc (azD r)):=by
 have lB:=(Array.getElem?_eq_some_iff.1 hB1).1;have lp:=(Array.getElem?_eq_some_iff.1 hp1.1).1;refine⟨alloc_at ((hg1.block _ lB (λe=>hne.2 (Option.some.inj e))).trans hB1) _,World.alloc_heap_new _ _,⟨alloc_at ((hg1.block _ lp (λe=>hp1.2.2 (Option.some.inj e))).trans hp1.1) _,hM1.alloc _,hp1.2.2⟩,?_⟩;exact zt.aC0 (grownBy_allocR (grownBy_trans (IX W (some bM)) hg1) _) (λk e=>.inl (Option.some.inj e).symm)
theorem azF {W w1:World} {B bp bM:Nat} {o f t:Int} {a b c:Int×Int} {st:St} {r:Out} (hB1:W.heap[B]? = some (.cells (zH o f t st.2.1 st.2.2 a b c) 31)) (hp1:Ao W bp bM st) (hne:B≠bp/\B≠bM)
  (hM1:Boxed w1 bM tM (.int .u8 (J [st.1,r.2.2.2]:Int))) (hg1:(W.alloc N8).drew.grownBy w1 (some bM)) (hR1:w1.heap[W.heap.size]? = some N8) :
  Did W B bp bM W.heap.size o f t a b c st r ((((w1.setCell ⟨W.heap.size,0,none⟩ (.int .i64 r.1)).setCell ⟨W.heap.size,1,none⟩ (.int .u64 r.2.1)).setCell ⟨W.heap.size,2,none⟩ (.int .u64 r.2.2.1)).setCell ⟨W.heap.size,3,none⟩ (.int .u8 (r.2.2.2:Int))):=by
 have lB:=(Array.getElem?_eq_some_iff.1 hB1).1;have lp:=(Array.getElem?_eq_some_iff.1 hp1.1).1;have lM:=hp1.2.1.lt;have k1:=(hg1.block B (by show B<(W.alloc N8).heap.size;simp;omega) (λe=>hne.2 (Option.some.inj e))).trans (alloc_at hB1 N8);have k2:=(hg1.block bp (by show bp<(W.alloc N8).heap.size;simp;omega) (λe=>hp1.2.2 (Option.some.inj e))).trans (alloc_at hp1.1 N8);have h6:=ajq hR1 (.int .i64 r.1) (.int .u64 r.2.1) (.int .u64 r.2.2.1) (.int .u8 (r.2.2.2:Int));have g6:=ajr w1 W.heap.size (.int .i64 r.1) (.int .u64 r.2.1) (.int .u64 r.2.2.1) (.int .u8 (r.2.2.2:Int));refine⟨(g6.block _ (Array.getElem?_eq_some_iff.1 k1).1 (λe=>by have:=Option.some.inj e;omega)).trans k1,h6,⟨(g6.block _ (Array.getElem?_eq_some_iff.1 k2).1 (λe=>by have:=Option.some.inj e;omega)).trans k2,hM1.kept g6 (λe=>by have:=Option.some.inj e;omega),hp1.2.2⟩,?_⟩;have h0:=grownBy_trans (grownBy_trans (World.grownBy_alloc W N8 (some bM)) (IX _ _)) hg1;exact⟨g6.os.trans h0.os,g6.tape.trans h0.tape,g6.output.trans h0.output,Nat.le_trans h0.size g6.size,λk hk hs=>(g6.block k (Nat.lt_of_lt_of_le hk h0.size) (λe=>by have:=Option.some.inj e;omega)).trans (h0.block k hk (λe=>hs (Option.some.inj e)))⟩
end Go.Proofs.YtippohicjhilnaaGreatDoor.Sp
