import Derived.Test.YtbembkamcdlhbaaGreatDoorZ5Sc
import Derived.Test.YtbembkamcdlhbaaGreatDoorZ6Sc
import Derived.Test.YtbembkamcdlhbaaGreatDoorZ9Sc
import Derived.Test.YtbembkamcdlhbaaGreatDoorZGSc
import Derived.Test.YtbembkamcdlhbaaGreatDoorZTSc
import Derived.Deep.RegionHeld3
import Derived.Maps.AppendAt
import Derived.OwnWalk
import Derived.Test.YtbembkamcdlhbaaGreatDoorNMSSc
import Derived.Laws.IdiomStrings
import Derived.Laws.MakeOwn
import Derived.OpenShut
import Derived.StillTailTactics
set_option linter.unusedSimpArgs false
set_option linter.unusedVariables false
set_option maxRecDepth 100000
set_option maxHeartbeats 4000000
namespace Go.Proofs.YtbembkamcdlhbaaGreatDoor.Sp
open Go.RowKit Go.Shelf FlagM
open Go.Lib (grownBy_trans grownBy_below grownBy_allocR)
attribute [local go_sem] Oper.semAt_some
theorem Ls.bel {w X:World} {b:Nat} (h:Ls w X b):q9 w X:=by
 obtain⟨v0,v1,v2,v3,v4,v5,v6,v7,v8,v9,v10,hC,_⟩:=h
 exact hC.2.2
theorem ajN {w X:World} {b:Nat} (h:Ls w X b) (s:ByteArray) :
  ∃ v kn,(Instr.lookup 270 (.map (some b)) (.string s) true).run Tryz.prog X = .ok (.tuple #[v,.bool kn]) X∧(kn=true∧SF X s v∨kn=false∧v = .nilFunc∧∀ ws,tN s ws=none):=by
 rcases look h s with⟨v,h1,h2⟩|⟨h1,h2⟩
 ·exact⟨v,true,h1,.inl ⟨rfl,h2⟩⟩
 ·exact⟨_,false,h1,.inr ⟨rfl,rfl,h2⟩⟩
def uC (s:ByteArray) (ws:List ByteArray):Option sF:=match tN s ws with
 | some (c,[])=>some c
 | _=>none
def CP (w:World) (r:Option sF) (e:Ending) (w':World):Prop :=
 q9 w w'∧match r with
  | some c=>∃ v,e = .returned (.tuple #[v,.bool true])∧zx w' w.heap.size w'.heap.size v c
  | none=>e = .returned (.tuple #[.nilFunc,.bool false])
theorem Lu {w W:World} {v0:Value} (hB:q9 w W) (hD:W.heap[w.heap.size]? = some (.cells #[v0] 143)) (hK:W.heap[w.heap.size+1]? = some (.cells #[.bool false] 4)) :
  ((W.setCell ⟨w.heap.size,0,none⟩ .nilFunc).setCell ⟨w.heap.size+1,0,none⟩ (.bool false)).cell? ⟨w.heap.size,0,none⟩=some .nilFunc∧((W.setCell ⟨w.heap.size,0,none⟩ .nilFunc).setCell ⟨w.heap.size+1,0,none⟩ (.bool false)).cell? ⟨w.heap.size+1,0,none⟩=some (.bool false)∧q9 w ((W.setCell ⟨w.heap.size,0,none⟩ .nilFunc).setCell ⟨w.heap.size+1,0,none⟩ (.bool false)):=by
 have g1:=tJ W w.heap.size 0 .nilFunc
 have g2:=tJ (W.setCell ⟨w.heap.size,0,none⟩ .nilFunc) (w.heap.size+1) 0 (.bool false)
 have s1:=sU (i:=0) hD .nilFunc
 have lD:=(Array.getElem?_eq_some_iff.1 hD).1
 have lK:=(Array.getElem?_eq_some_iff.1 hK).1
 have s2:=(g2.block _ (Nat.lt_of_lt_of_le lD g1.size) (fun e=>by have:=Option.some.inj e;omega)).trans s1
 have s3:=sU (i:=0) ((g1.block _ lK (fun e=>by have:=Option.some.inj e;omega)).trans hK) (.bool false)
 refine⟨by simp[World.cell?,s2],by simp[World.cell?,s3],?_⟩
 have b1:=Below.grown hB g1 (Below.size hB) (fun g e=>by cases e;exact Nat.le_refl _)
 exact Below.grown b1 g2 (Below.size b1) (fun g e=>by cases e;exact Nat.le_succ _)
theorem aal {X:World} {bk o n:Nat} {ws:List ByteArray} (hn:n=ws.length) (hb:bk<X.heap.size) (hlen:n≤4611686018427387903) (hl:∀ j t,ws[j]? = some t→X.cell? ⟨bk,o+j,none⟩=some (.string t)) :
  tH (X.alloc (.cells #[.slice (some ⟨bk,o,none⟩) n n] tW)) X.heap.size ws:=by
 subst hn
 exact⟨bk,o,ws.length,Boxed.new X tW _,Nat.le_refl _,by omega,hb,fun j t ht=>(World.grownBy_alloc X _ none).cell (hl j t ht) (by simp)⟩
theorem Oe {w X w1:World} {o:Obj} {v0 v1:Value} {t0 t1:TypeId} {B:Nat} (hB:q9 w X) (hD:X.heap[w.heap.size]? = some (.cells #[v0] t0)) (hK:X.heap[w.heap.size+1]? = some (.cells #[v1] t1)) (hB2:B=X.heap.size) (hg:(X.alloc o).grownBy w1 (some B)) :
  q9 w w1∧w1.heap[w.heap.size]? = some (.cells #[v0] t0)∧w1.heap[w.heap.size+1]? = some (.cells #[v1] t1):=by
 subst hB2
 have lD:=(Array.getElem?_eq_some_iff.1 hD).1
 have lK:=(Array.getElem?_eq_some_iff.1 hK).1
 refine⟨Below.grown (hB.alloc o) hg (Below.size (hB.alloc o)) (fun g e=>by cases e;omega),(hg.block _ (by simp;omega) (fun e=>by have:=Option.some.inj e;omega)).trans (alloc_at hD o),(hg.block _ (by simp;omega) (fun e=>by have:=Option.some.inj e;omega)).trans (alloc_at hK o)⟩
theorem cell_of {W:World} {b:Nat} {v:Value} {t:TypeId} (h:W.heap[b]? = some (.cells #[v] t)):W.cell? ⟨b,0,none⟩=some v:=by simp[World.cell?,h]
theorem zx.func {W:World} {a b:Nat} {v:Value} {c:sF} (h:zx W a b v c):∃ f caps,v = .func (.func f) #[] caps:=by
 cases c with
 | op o f t x y z=>obtain⟨B,h1,h2,h3,h4⟩:=h;exact⟨_,_,h3⟩
 | env m t=>obtain⟨B1,B2,B3,h1,h2,h3,h4,h5,h6,h7,h8,h9,h10⟩:=h;exact⟨_,_,h7⟩
 | clear=>obtain⟨B,h1,h2,h3,h4⟩:=h;exact⟨_,_,h3⟩
 | sticky=>exact⟨_,_,h⟩
theorem ajO (w:World) (bk:Nat) (s:ByteArray) (ws:List ByteArray) (hbk:bk<w.heap.size) (hlen:ws.length≤4611686018427387903) (hl:∀ j t,(s::ws)[j]? = some t→w.cell? ⟨bk,j,none⟩=some (.string t)) :
  Calls Tryz.prog 136 #[.slice (some ⟨bk,0,none⟩) (ws.length+1) (ws.length+1)] w (CP w (uC s ws)):=by
 have hmf:∀ (fn:Fn) (first cap:Array Value) (w:World),(Instr.makeFunc fn first cap).run Tryz.prog w = .ok (.func fn first cap) w:=fun _ _ _ _=>rfl
 have c0:w.cell? ⟨bk,0,none⟩=some (.string s):=hl 0 s rfl
 have cA:∀ W,q9 w W→W.cell? ⟨bk,0,none⟩=some (.string s):=fun W h=>(Below.cell h (p:=⟨bk,0,none⟩) hbk).trans c0
 have HA:=Lib.hid cA
 clear cA
 have q1:(0:Int)<((ws.length+1:Nat):Int):=by omega
 have hB2:q9 w ((w.alloc (.cells #[.nilFunc] 143)).alloc (.cells #[.bool false] 4)):=((q9.refl w).alloc _).alloc _
 have c2:=HA.out _ hB2
 go_enter_defers Tryz.func136,Tryz.ntmps136
 go_wp2_with fail
 go_region_held3 (fun W=>W.cell? ⟨bk,0,none⟩=some (.string s)) (first|exact hS'|exact c2|assumption|go_keep) (first|(go_at_call 208;refine(ajJ _).mono ?_;rintro e X ⟨b,rfl,hM⟩;have hBX:q9 w X:=q9.trans (q9.trans hB2 (q9.refl _).drew) hM.bel;have hS':=HA.out _ hBX;obtain⟨v,kn,hL,hcase⟩:=ajN hM s))
 have hD:X.heap[w.heap.size]? = some (.cells #[.nilFunc] 143):=(Below.block hM.bel _ (by show w.heap.size<((w.alloc _).alloc _).heap.size;simp;omega)).trans (alloc_at (World.alloc_heap_new w _) _)
 have hK:X.heap[w.heap.size+1]? = some (.cells #[.bool false] 4):=(Below.block hM.bel _ (by show w.heap.size+1<((w.alloc _).alloc _).heap.size;simp)).trans (BG w _ _)
 have hszX:=Below.size hM.bel
 rcases hcase with⟨rfl,hT⟩|⟨rfl,rfl,hN⟩
 ·obtain⟨g,caps,rfl,eg,HT⟩:=hT
  have hlt:=(Array.getElem?_eq_some_iff.1 hK).1
  have hbX:bk<X.heap.size:=Nat.lt_of_lt_of_le hbk (Below.size hBX)
  go_wp2_with (first|(go_at_call 209;refine(Lp _ _ rfl).mono ?_;rintro e w3 ⟨⟨v,rfl⟩,rfl⟩))
  ·obtain rfl:ws = []:=by first|assumption|(apply List.eq_nil_of_length_eq_zero;omega)
   have hWA:tH (X.alloc (.cells #[.slice (some ⟨bk,0,none⟩) 0 0] tW)) X.heap.size []:=aal rfl hbX (by first|exact hlen|omega) (fun j t hj=>(Below.cell hBX (p:=⟨bk,0+j,none⟩) hbk).trans (by simp at hj))
   have HT':=HT _ _ [] (World.grownBy_alloc _ _ _) (Nat.le_refl _) hWA
   cases hts:tN s [] with
   | none =>
    have hsp:uC s []=none:=by simp[uC,hts]
    rw[hts] at HT'
    refine HT'.mono ?_
    rintro e w1 ⟨rfl,hg1⟩
    obtain⟨hB1,hD1,hK1⟩:=Oe hBX hD hK rfl hg1
    dsimp only
    refine leaves_cons (f:=207) (args:=#[.pointer (some ⟨w.heap.size,0,none⟩),.pointer (some ⟨w.heap.size+1,0,none⟩)]) (by simp) (by simp[go_sem]) ?_
    refine(Lt w.heap.size (w.heap.size+1) .nilFunc [] _ (by omega) hD1 hK1).mono ?_
    rintro e u' w'' ⟨rfl,rfl,rfl⟩
    have hY:=Lu hB1 hD1 hK1
    generalize (w1.setCell ⟨w.heap.size,0,none⟩ .nilFunc).setCell ⟨w.heap.size+1,0,none⟩ (.bool false)=Y at hY ⊢
    obtain⟨y0,y1,yB⟩:=hY
    simp[Leaves,settle,results,Tryz.results136,go_sem,y0,y1,hsp,CP,yB]
   | some r =>
    obtain⟨c,ws'⟩:=r
    rw[hts] at HT'
    refine HT'.mono ?_
    rintro e w1 ⟨⟨⟨v,rfl,hv⟩,hW1⟩,hg1⟩
    obtain⟨hB1,hD1,hK1⟩:=Oe hBX hD hK rfl hg1
    obtain⟨vf,vc,rfl⟩:=hv.func
    have hst:=run_store Tryz.prog w1 ⟨w.heap.size,0,none⟩ (.func (.func vf) #[] vc) .plain rfl
    have kD:w1.cell? ⟨w.heap.size,0,none⟩=some .nilFunc:=by simp[World.cell?,hD1]
    have fD:w1.frozen? ⟨w.heap.size,0,none⟩=false:=by simp[World.frozen?,hD1]
    have hg2:=tJ w1 w.heap.size 0 (.func (.func vf) #[] vc)
    have hD2:=sU (i:=0) hD1 (.func (.func vf) #[] vc)
    have hK2:=(hg2.block _ (Array.getElem?_eq_some_iff.1 hK1).1 (fun e=>by have:=Option.some.inj e;omega)).trans hK1
    have hB2':=Below.grown hB1 hg2 (Below.size hB1) (fun g e=>by cases e;exact Nat.le_refl _)
    obtain⟨bk',o',c',hbx,hc1,hc2,hbk',hl'⟩:=hW1
    have kW:=(hbx.kept hg2 (fun e=>by have:=Option.some.inj e;have:=(Array.getElem?_eq_some_iff.1 hK).1;omega)).cell
    cases ws' with
    | nil =>
     have hsp:uC s []=some c:=by simp[uC,hts]
     have kD2:(w1.setCell ⟨w.heap.size,0,none⟩ (.func (.func vf) #[] vc)).cell? ⟨w.heap.size,0,none⟩=some (.func (.func vf) #[] vc):=by simp[World.cell?,hD2]
     have fD2:(w1.setCell ⟨w.heap.size,0,none⟩ (.func (.func vf) #[] vc)).frozen? ⟨w.heap.size,0,none⟩=false:=by simp[World.frozen?,hD2]
     have hst2:=run_store Tryz.prog (w1.setCell ⟨w.heap.size,0,none⟩ (.func (.func vf) #[] vc)) ⟨w.heap.size,0,none⟩ (.func (.func vf) #[] vc) .plain rfl
     have hg3:=tJ (w1.setCell ⟨w.heap.size,0,none⟩ (.func (.func vf) #[] vc)) w.heap.size 0 (.func (.func vf) #[] vc)
     have hD3:=sU (i:=0) hD2 (.func (.func vf) #[] vc)
     have hK3:=(hg3.block _ (Array.getElem?_eq_some_iff.1 hK2).1 (fun e=>by have:=Option.some.inj e;omega)).trans hK2
     have hB3:=Below.grown hB2' hg3 (Below.size hB2') (fun g e=>by cases e;exact Nat.le_refl _)
     have kK3:((w1.setCell ⟨w.heap.size,0,none⟩ (.func (.func vf) #[] vc)).setCell ⟨w.heap.size,0,none⟩ (.func (.func vf) #[] vc)).cell? ⟨w.heap.size+1,0,none⟩=some (.bool false):=by simp[World.cell?,hK3]
     have fK3:((w1.setCell ⟨w.heap.size,0,none⟩ (.func (.func vf) #[] vc)).setCell ⟨w.heap.size,0,none⟩ (.func (.func vf) #[] vc)).frozen? ⟨w.heap.size+1,0,none⟩=false:=by simp[World.frozen?,hK3]
     go_wp2_with (first|(go_at_call 209;refine(Lp _ _ rfl).mono ?_;rintro e w3 ⟨⟨v,rfl⟩,rfl⟩))
     refine leaves_cons (f:=207) (args:=#[.pointer (some ⟨w.heap.size,0,none⟩),.pointer (some ⟨w.heap.size+1,0,none⟩)]) (by simp) (by simp[go_sem]) ?_
     refine(aak w.heap.size (w.heap.size+1) _).mono ?_
     rintro e u' w'' ⟨rfl,rfl,rfl⟩
     have hg4:=tJ ((w1.setCell ⟨w.heap.size,0,none⟩ (.func (.func vf) #[] vc)).setCell ⟨w.heap.size,0,none⟩ (.func (.func vf) #[] vc)) (w.heap.size+1) 0 (.bool true)
     have hD4:=(hg4.block _ (Array.getElem?_eq_some_iff.1 hD3).1 (fun e=>by have:=Option.some.inj e;omega)).trans hD3
     have hK4:=sU (i:=0) hK3 (.bool true)
     have hB4:=Below.grown hB3 hg4 (Below.size hB3) (fun g e=>by cases e;exact Nat.le_succ _)
     have hv4:=hv.kept (X:=((w1.setCell ⟨w.heap.size,0,none⟩ (.func (.func vf) #[] vc)).setCell ⟨w.heap.size,0,none⟩ (.func (.func vf) #[] vc)).setCell ⟨w.heap.size+1,0,none⟩ (.bool true)) (fun k hk1 hk2=>((hg4.block _ (Nat.lt_of_lt_of_le hk2 (Nat.le_trans hg2.size hg3.size)) (fun e=>by have:=Option.some.inj e;have hk3:X.heap.size+1≤k:=(by simpa using hk1);omega)).trans (hg3.block _ (Nat.lt_of_lt_of_le hk2 hg2.size) (fun e=>by have:=Option.some.inj e;have hk3:X.heap.size+1≤k:=(by simpa using hk1);omega))).trans (hg2.block _ hk2 (fun e=>by have:=Option.some.inj e;have hk3:X.heap.size+1≤k:=(by simpa using hk1);omega)))
     have hv5:=hv4.wide (show w.heap.size≤(X.alloc _).heap.size by simp;have:=Below.size hBX;omega) (Nat.le_trans hg2.size (Nat.le_trans hg3.size hg4.size))
     have y0:_=some _:=cell_of hD4
     have y1:_=some _:=cell_of hK4
     generalize ((w1.setCell ⟨w.heap.size,0,none⟩ (.func (.func vf) #[] vc)).setCell ⟨w.heap.size,0,none⟩ (.func (.func vf) #[] vc)).setCell ⟨w.heap.size+1,0,none⟩ (.bool true)=Y at y0 y1 hB4 hv5 ⊢
     have hB5:q9 w Y:=hB4
     simp[Leaves,settle,results,Tryz.results136,go_sem,y0,y1,hsp,CP,hB5,hv5]
    | cons x xs =>
     have hsp:uC s []=none:=by simp[uC,hts]
     go_wp2_with (first|(go_at_call 209;refine(Jy _ _ (by simp;omega)).mono ?_;rintro e w3 ⟨rfl,rfl⟩))
     refine leaves_cons (f:=207) (args:=#[.pointer (some ⟨w.heap.size,0,none⟩),.pointer (some ⟨w.heap.size+1,0,none⟩)]) (by simp) (by simp[go_sem]) ?_
     refine(Lt w.heap.size (w.heap.size+1) (.func (.func vf) #[] vc) [] _ (by omega) hD2 hK2).mono ?_
     rintro e u' w'' ⟨rfl,rfl,rfl⟩
     have hY:=Lu hB2' hD2 hK2
     generalize ((w1.setCell ⟨w.heap.size,0,none⟩ (.func (.func vf) #[] vc)).setCell ⟨w.heap.size,0,none⟩ .nilFunc).setCell ⟨w.heap.size+1,0,none⟩ (.bool false)=Y at hY ⊢
     obtain⟨y0,y1,yB⟩:=hY
     simp[Leaves,settle,results,Tryz.results136,go_sem,y0,y1,CP,yB]
  ·have hWA:tH (X.alloc (.cells #[.slice (some ⟨bk,1,none⟩) ws.length ws.length] tW)) X.heap.size ws:=aal rfl hbX (by first|exact hlen|omega) (fun j t hj=>(Below.cell hBX (p:=⟨bk,1+j,none⟩) hbk).trans (by rw[Nat.add_comm 1 j];exact hl (j+1) t hj))
   have HT':=HT _ _ ws (World.grownBy_alloc _ _ _) (Nat.le_refl _) hWA
   cases hts:tN s ws with
   | none =>
    have hsp:uC s ws=none:=by simp[uC,hts]
    rw[hts] at HT'
    refine HT'.mono ?_
    rintro e w1 ⟨rfl,hg1⟩
    obtain⟨hB1,hD1,hK1⟩:=Oe hBX hD hK rfl hg1
    dsimp only
    refine leaves_cons (f:=207) (args:=#[.pointer (some ⟨w.heap.size,0,none⟩),.pointer (some ⟨w.heap.size+1,0,none⟩)]) (by simp) (by simp[go_sem]) ?_
    refine(Lt w.heap.size (w.heap.size+1) .nilFunc [] _ (by omega) hD1 hK1).mono ?_
    rintro e u' w'' ⟨rfl,rfl,rfl⟩
    have hY:=Lu hB1 hD1 hK1
    generalize (w1.setCell ⟨w.heap.size,0,none⟩ .nilFunc).setCell ⟨w.heap.size+1,0,none⟩ (.bool false)=Y at hY ⊢
    obtain⟨y0,y1,yB⟩:=hY
    simp[Leaves,settle,results,Tryz.results136,go_sem,y0,y1,hsp,CP,yB]
   | some r =>
    obtain⟨c,ws'⟩:=r
    rw[hts] at HT'
    refine HT'.mono ?_
    rintro e w1 ⟨⟨⟨v,rfl,hv⟩,hW1⟩,hg1⟩
    obtain⟨hB1,hD1,hK1⟩:=Oe hBX hD hK rfl hg1
    obtain⟨vf,vc,rfl⟩:=hv.func
    have hst:=run_store Tryz.prog w1 ⟨w.heap.size,0,none⟩ (.func (.func vf) #[] vc) .plain rfl
    have kD:w1.cell? ⟨w.heap.size,0,none⟩=some .nilFunc:=by simp[World.cell?,hD1]
    have fD:w1.frozen? ⟨w.heap.size,0,none⟩=false:=by simp[World.frozen?,hD1]
    have hg2:=tJ w1 w.heap.size 0 (.func (.func vf) #[] vc)
    have hD2:=sU (i:=0) hD1 (.func (.func vf) #[] vc)
    have hK2:=(hg2.block _ (Array.getElem?_eq_some_iff.1 hK1).1 (fun e=>by have:=Option.some.inj e;omega)).trans hK1
    have hB2':=Below.grown hB1 hg2 (Below.size hB1) (fun g e=>by cases e;exact Nat.le_refl _)
    obtain⟨bk',o',c',hbx,hc1,hc2,hbk',hl'⟩:=hW1
    have kW:=(hbx.kept hg2 (fun e=>by have:=Option.some.inj e;have:=(Array.getElem?_eq_some_iff.1 hK).1;omega)).cell
    cases ws' with
    | nil =>
     have hsp:uC s ws=some c:=by simp[uC,hts]
     have kD2:(w1.setCell ⟨w.heap.size,0,none⟩ (.func (.func vf) #[] vc)).cell? ⟨w.heap.size,0,none⟩=some (.func (.func vf) #[] vc):=by simp[World.cell?,hD2]
     have fD2:(w1.setCell ⟨w.heap.size,0,none⟩ (.func (.func vf) #[] vc)).frozen? ⟨w.heap.size,0,none⟩=false:=by simp[World.frozen?,hD2]
     have hst2:=run_store Tryz.prog (w1.setCell ⟨w.heap.size,0,none⟩ (.func (.func vf) #[] vc)) ⟨w.heap.size,0,none⟩ (.func (.func vf) #[] vc) .plain rfl
     have hg3:=tJ (w1.setCell ⟨w.heap.size,0,none⟩ (.func (.func vf) #[] vc)) w.heap.size 0 (.func (.func vf) #[] vc)
     have hD3:=sU (i:=0) hD2 (.func (.func vf) #[] vc)
     have hK3:=(hg3.block _ (Array.getElem?_eq_some_iff.1 hK2).1 (fun e=>by have:=Option.some.inj e;omega)).trans hK2
     have hB3:=Below.grown hB2' hg3 (Below.size hB2') (fun g e=>by cases e;exact Nat.le_refl _)
     have kK3:((w1.setCell ⟨w.heap.size,0,none⟩ (.func (.func vf) #[] vc)).setCell ⟨w.heap.size,0,none⟩ (.func (.func vf) #[] vc)).cell? ⟨w.heap.size+1,0,none⟩=some (.bool false):=by simp[World.cell?,hK3]
     have fK3:((w1.setCell ⟨w.heap.size,0,none⟩ (.func (.func vf) #[] vc)).setCell ⟨w.heap.size,0,none⟩ (.func (.func vf) #[] vc)).frozen? ⟨w.heap.size+1,0,none⟩=false:=by simp[World.frozen?,hK3]
     go_wp2_with (first|(go_at_call 209;refine(Lp _ _ rfl).mono ?_;rintro e w3 ⟨⟨v,rfl⟩,rfl⟩))
     refine leaves_cons (f:=207) (args:=#[.pointer (some ⟨w.heap.size,0,none⟩),.pointer (some ⟨w.heap.size+1,0,none⟩)]) (by simp) (by simp[go_sem]) ?_
     refine(aak w.heap.size (w.heap.size+1) _).mono ?_
     rintro e u' w'' ⟨rfl,rfl,rfl⟩
     have hg4:=tJ ((w1.setCell ⟨w.heap.size,0,none⟩ (.func (.func vf) #[] vc)).setCell ⟨w.heap.size,0,none⟩ (.func (.func vf) #[] vc)) (w.heap.size+1) 0 (.bool true)
     have hD4:=(hg4.block _ (Array.getElem?_eq_some_iff.1 hD3).1 (fun e=>by have:=Option.some.inj e;omega)).trans hD3
     have hK4:=sU (i:=0) hK3 (.bool true)
     have hB4:=Below.grown hB3 hg4 (Below.size hB3) (fun g e=>by cases e;exact Nat.le_succ _)
     have hv4:=hv.kept (X:=((w1.setCell ⟨w.heap.size,0,none⟩ (.func (.func vf) #[] vc)).setCell ⟨w.heap.size,0,none⟩ (.func (.func vf) #[] vc)).setCell ⟨w.heap.size+1,0,none⟩ (.bool true)) (fun k hk1 hk2=>((hg4.block _ (Nat.lt_of_lt_of_le hk2 (Nat.le_trans hg2.size hg3.size)) (fun e=>by have:=Option.some.inj e;have hk3:X.heap.size+1≤k:=(by simpa using hk1);omega)).trans (hg3.block _ (Nat.lt_of_lt_of_le hk2 hg2.size) (fun e=>by have:=Option.some.inj e;have hk3:X.heap.size+1≤k:=(by simpa using hk1);omega))).trans (hg2.block _ hk2 (fun e=>by have:=Option.some.inj e;have hk3:X.heap.size+1≤k:=(by simpa using hk1);omega)))
     have hv5:=hv4.wide (show w.heap.size≤(X.alloc _).heap.size by simp;have:=Below.size hBX;omega) (Nat.le_trans hg2.size (Nat.le_trans hg3.size hg4.size))
     have y0:_=some _:=cell_of hD4
     have y1:_=some _:=cell_of hK4
     generalize ((w1.setCell ⟨w.heap.size,0,none⟩ (.func (.func vf) #[] vc)).setCell ⟨w.heap.size,0,none⟩ (.func (.func vf) #[] vc)).setCell ⟨w.heap.size+1,0,none⟩ (.bool true)=Y at y0 y1 hB4 hv5 ⊢
     have hB5:q9 w Y:=hB4
     simp[Leaves,settle,results,Tryz.results136,go_sem,y0,y1,hsp,CP,hB5,hv5]
    | cons x xs =>
     have hsp:uC s ws=none:=by simp[uC,hts]
     go_wp2_with (first|(go_at_call 209;refine(Jy _ _ (by simp;omega)).mono ?_;rintro e w3 ⟨rfl,rfl⟩))
     refine leaves_cons (f:=207) (args:=#[.pointer (some ⟨w.heap.size,0,none⟩),.pointer (some ⟨w.heap.size+1,0,none⟩)]) (by simp) (by simp[go_sem]) ?_
     refine(Lt w.heap.size (w.heap.size+1) (.func (.func vf) #[] vc) [] _ (by omega) hD2 hK2).mono ?_
     rintro e u' w'' ⟨rfl,rfl,rfl⟩
     have hY:=Lu hB2' hD2 hK2
     generalize ((w1.setCell ⟨w.heap.size,0,none⟩ (.func (.func vf) #[] vc)).setCell ⟨w.heap.size,0,none⟩ .nilFunc).setCell ⟨w.heap.size+1,0,none⟩ (.bool false)=Y at hY ⊢
     obtain⟨y0,y1,yB⟩:=hY
     simp[Leaves,settle,results,Tryz.results136,go_sem,y0,y1,CP,yB]
 ·have hsp:uC s ws=none:=by simp[uC,hN]
  go_wp2_with (go_at_call 209;refine(Jy _ _ rfl).mono ?_;rintro e w3 ⟨rfl,rfl⟩)
  refine leaves_cons (f:=207) (args:=#[.pointer (some ⟨w.heap.size,0,none⟩),.pointer (some ⟨w.heap.size+1,0,none⟩)]) (by simp) (by simp[go_sem]) ?_
  refine(Lt w.heap.size (w.heap.size+1) .nilFunc [] _ (by omega) hD hK).mono ?_
  rintro e u' w'' ⟨rfl,rfl,rfl⟩
  have hY:=Lu hBX hD hK
  generalize (X.setCell ⟨w.heap.size,0,none⟩ .nilFunc).setCell ⟨w.heap.size+1,0,none⟩ (.bool false)=Y at hY ⊢
  obtain⟨y0,y1,yB⟩:=hY
  simp[Leaves,settle,results,Tryz.results136,go_sem,y0,y1,hsp,CP,yB]
open Go.RowKit Go.Shelf FlagM
open Go.Lib (grownBy_trans grownBy_below grownBy_allocR)
attribute [local go_sem] Oper.semAt_some
def Af (r:Nat):Bool:=decide (r=32)||(decide (r=9)||decide (r=13))
theorem ajP (w:World):PredAtRunes Tryz.prog 133 #[] Af w:=fun W r _ _=>by
 unfold FnGives
 by_cases h1:r=32
 ·subst h1
  go_enter Tryz.func133,Tryz.ntmps133
  go_wp2
  all_goals first|(exfalso;omega)|(go_ret;exact⟨rfl,0,rfl⟩)
 by_cases h2:r=9
 ·subst h2
  go_enter Tryz.func133,Tryz.ntmps133
  go_wp2
  all_goals first|(exfalso;omega)|(go_ret;exact⟨rfl,0,rfl⟩)
 by_cases h3:r=13
 ·subst h3
  go_enter Tryz.func133,Tryz.ntmps133
  go_wp2
  all_goals first|(exfalso;omega)|(go_ret;exact⟨rfl,0,rfl⟩)
 ·have z1:((r:Int)==32)=false:=by rw[beq_eq_false_iff_ne];omega
  have z2:((r:Int)==9)=false:=by rw[beq_eq_false_iff_ne];omega
  have z3:((r:Int)==13)=false:=by rw[beq_eq_false_iff_ne];omega
  have hb:Af r=false:=by simp[Af,h1,h2,h3]
  go_enter Tryz.func133,Tryz.ntmps133
  go_wp2
  all_goals first|(exfalso;omega)|(go_ret;exact⟨by rw[hb];rfl,0,rfl⟩)
theorem Lv (p:Nat→Bool) (s:ByteArray):∀ (f pos:Nat) (st:Option Nat) (acc:List (Nat×Nat)),(∀ x∈acc,x.1<x.2∧x.2≤s.size)→(∀ a,st=some a→a<pos∧a<s.size) →
  (∀ x∈(Lib.spansFromP p s f pos st acc).1,x.1<x.2∧x.2≤s.size)∧(∀ a,(Lib.spansFromP p s f pos st acc).2=some a→a<s.size)∧(Lib.spansFromP p s f pos st acc).1.length≤acc.length+f
 | 0,pos,st,acc,h,hst=>⟨h,fun a ha=>(hst a ha).2,Nat.le_refl _⟩
 | f+1,pos,st,acc,h,hst=>by
  have hw:=Lib.width_pos s pos
  by_cases hlt:pos<s.size
  ·unfold Lib.spansFromP
   rw[if_pos hlt]
   split
   ·split
    ·rename_i a
     have ha:=hst a rfl
     obtain⟨r1,r2,r3⟩:=Lv p s f (pos+(Utf8.decode s pos).2) none (acc ++ [(a,pos)]) (fun x hx=>by
      rcases List.mem_append.1 hx with hx|hx
      ·exact h x hx
      ·rw[List.mem_singleton.1 hx];exact⟨ha.1,by omega⟩) (fun a e=>by cases e)
     exact⟨r1,r2,by simp at r3;omega⟩
    ·obtain⟨r1,r2,r3⟩:=Lv p s f (pos+(Utf8.decode s pos).2) none acc h (fun a e=>by cases e)
     exact⟨r1,r2,by omega⟩
   ·split
    ·rename_i a
     have ha:=hst a rfl
     obtain⟨r1,r2,r3⟩:=Lv p s f (pos+(Utf8.decode s pos).2) (some a) acc h (fun b e=>by cases e;omega)
     exact⟨r1,r2,by omega⟩
    ·obtain⟨r1,r2,r3⟩:=Lv p s f (pos+(Utf8.decode s pos).2) (some pos) acc h (fun b e=>by cases e;omega)
     exact⟨r1,r2,by omega⟩
  ·rw[Lib.spansFromP_end p s _ _ _ _ hlt]
   exact⟨h,fun a ha=>(hst a ha).2,by show acc.length≤acc.length+(f+1);omega⟩
theorem SG (p:Nat→Bool) (s:ByteArray):(∀ x∈Lib.goFieldsP p s,0<x.size)∧(Lib.goFieldsP p s).length≤s.size+1:=by
 obtain⟨h1,h2,h3⟩:=Lv p s s.size 0 none [] (by simp) (by simp)
 unfold Lib.goFieldsP Lib.spansOfP Lib.closeSpans
 have hx:∀ x:Nat×Nat,x.1<x.2∧x.2≤s.size→0<(s.extract x.1 x.2).size:=fun x hx=>by rw[ByteArray.size_extract];omega
 simp only[List.length_nil,Nat.zero_add] at h3
 split
 ·rename_i a ha
  refine⟨fun y hy=>?_,by simp;omega⟩
  obtain⟨x,hx1,rfl⟩:=List.mem_map.1 hy
  rcases List.mem_append.1 hx1 with h|h
  ·exact hx x (h1 x h)
  ·rw[List.mem_singleton.1 h];exact hx _ ⟨h2 a ha,Nat.le_refl _⟩
 ·refine⟨fun y hy=>?_,by simp;omega⟩
  obtain⟨x,hx1,rfl⟩:=List.mem_map.1 hy
  exact hx x (h1 x hx1)
def uI (l:Sc.By):ByteArray:=⟨l.toArray⟩
def vU (l:Sc.By):List Sc.By:=(Lib.goFieldsP Af (uI l)).map (·.data.toList)
def wU:List Sc.By→Option sF
 | []=>none
 | s::ws=>uC (uI s) (ws.map uI)
theorem ajQ (s:ByteArray):vU s.data.toList=(Lib.goFieldsP Af s).map (·.data.toList):=rfl
theorem aam (l:List ByteArray):(l.map (·.data.toList)).map uI=l:=by
 rw[List.map_map];exact List.map_id'' (fun x=>rfl) l
abbrev Lx:TypeId:=143
def DL (W:World) (n₀:Nat) (v:Value) (L:List (Nat×Nat×Value×sF)):Prop :=
 W.ownsRow n₀ Lx 1 v L.length (L.map (·.2.2.1))∧(∀ x∈L,n₀≤x.1∧x.2.1≤W.heap.size∧zx W x.1 x.2.1 x.2.2.1 x.2.2.2∧∀ g,v.ownBlock=some g→g<x.1∨x.2.1≤g)∧L.Pairwise (fun x y=>x.2.1≤y.1)
theorem DL.nil (W:World) (n₀:Nat):DL W n₀ (.slice none 0 0) []:=⟨World.ownsRow_nil _ _ _ _,by simp,by simp⟩
theorem SI {A B:World} {base:Nat} {e:TypeId} {size:Nat} {v:Value} {n:Nat} {xs:List Value} (h:A.ownsRow base e size v n xs) (hB:q9 A B):B.ownsRow base e size v n xs:=by
 obtain⟨h1,h2⟩:=h
 refine⟨h1,?_⟩
 rcases h2 with h2|⟨g,cap,cur,h3,h4,h5,h6⟩
 ·exact .inl h2
 ·exact .inr ⟨g,cap,cur,h3,h4,(Below.block hB g (Array.getElem?_eq_some_iff.1 h5).1).trans h5,h6⟩
theorem DL.bel {A B:World} {n₀:Nat} {v:Value} {L:List (Nat×Nat×Value×sF)} (h:DL A n₀ v L) (hB:q9 A B):DL B n₀ v L:=by
 obtain⟨h1,h2,h3⟩:=h
 refine⟨SI h1 hB,fun x hx=>?_,h3⟩
 obtain⟨a1,a2,a3,a4⟩:=h2 x hx
 exact⟨a1,Nat.le_trans a2 (Below.size hB),a3.kept fun k _ hk=>Below.block hB k (Nat.lt_of_lt_of_le hk a2),a4⟩
theorem DL.push {W0 W W2:World} {n₀ a:Nat} {v v' vd:Value} {L:List (Nat×Nat×Value×sF)} {c:sF} {o:Obj} (h:DL W0 n₀ v L) (hB:q9 W0 W) (ha:a=W0.heap.size) (hn:n₀≤W0.heap.size) (hd:zx W a W.heap.size vd c)
  (hown:W2.ownsRow n₀ Lx 1 v' (L.length+1) (L.map (·.2.2.1) ++ [vd])) (hg:(W.alloc o).grownBy W2 v.ownBlock) (hv:v'.ownBlock=v.ownBlock∨v'.ownBlock=some (W.alloc o).heap.size) :
  DL W2 n₀ v' (L ++ [(a,W.heap.size,vd,c)]):=by
 subst ha
 have hD:=h.bel hB
 obtain⟨b1,b2,b3⟩:=hD
 have hsz:=Below.size hB
 have hg1:=hg.size
 simp at hg1
 have hkeep:∀ k,k<W.heap.size→some k≠v.ownBlock→W2.heap[k]? = W.heap[k]?:=fun k hk hne =>
  (hg.block k (by simp;omega) hne).trans (Below.heap_alloc W o k hk)
 have hvs:∀ g,v.ownBlock=some g→g<W0.heap.size:=fun g e=>(h.1.lt g e).2
 refine⟨by simpa using hown,fun x hx=>?_,?_⟩
 ·rcases List.mem_append.1 hx with hx|hx
  ·obtain⟨a1,a2,a3,a4⟩:=b2 x hx
   have a2':=(h.2.1 x hx).2.1
   refine⟨a1,by omega,a3.kept fun k hk1 hk2=>hkeep k (by omega) (fun e=>?_),fun g e=>?_⟩
   ·rcases a4 k e.symm with h|h<;>omega
   ·rcases hv with e2|e2
    ·exact a4 g (e2▸e)
    ·rw[e2] at e;have:=Option.some.inj e;simp at this;omega
  ·rw[List.mem_singleton.1 hx]
   refine⟨hn,by show W.heap.size≤_;omega,hd.kept fun k hk1 hk2=>hkeep k hk2 (fun e=>?_),fun g e=>?_⟩
   ·have:=hvs k e.symm;omega
   ·rcases hv with e2|e2
    ·exact .inl (hvs g (e2▸e))
    ·rw[e2] at e;have:=Option.some.inj e;simp at this;right;show W.heap.size≤g;omega
 ·rw[List.pairwise_append]
  refine⟨b3,by simp,fun x hx y hy=>?_⟩
  rw[List.mem_singleton.1 hy]
  exact(h.2.1 x hx).2.1
open Go.RowKit Go.Shelf FlagM
open Go.Lib (grownBy_trans grownBy_below grownBy_allocR)
attribute [local go_sem] Oper.semAt_some
theorem Og:∀ (s l:Sc.By),l∈Sc.lines s→l.length≤s.length
 | [],l,h=>by simp[Sc.lines] at h;simp[h]
 | c::t,l,h=>by
  by_cases hc:c=10
  ·rw[Sc.lines,if_pos hc] at h
   rcases List.mem_cons.1 h with h|h
   ·simp[h]
   ·have:=Og t l h;simp;omega
  ·obtain⟨a,rs,h1,h2⟩:=Sc.lines_cons c t hc
   rw[h2] at h
   rcases List.mem_cons.1 h with h|h
   ·have:=Og t a (by rw[h1];simp);rw[h];simp;omega
   ·have:=Og t l (by rw[h1];exact List.mem_cons_of_mem _ h);simp;omega
def Jz:ByteArray:=⟨#[10]⟩
def Eb (s:ByteArray):List ByteArray:=Lib.splitB Jz 0 (Lib.countB s Jz) s
theorem aan (s:ByteArray):(Eb s).map (·.data.toList)=Sc.lines s.data.toList:=by
 unfold Eb
 rw[Lib.splitB_data]
 exact Sc.split_lines s.data.toList.length s.data.toList (Nat.le_refl _)
theorem ajR (s:ByteArray):(Eb s).length=Lib.countB s Jz+1:=Lib.splitB_all Jz (by decide) 0 _ s rfl
theorem ajS (s l:ByteArray) (h:l∈Eb s):l.size≤s.size:=by
 have:=Og s.data.toList l.data.toList (by rw[← aan];exact List.mem_map_of_mem h)
 simpa using this
def tF (s:ByteArray):List sF×Nat×Nat:=if 1048576<s.size then([],0,2) else Sc.parse vU wU 0 [] (Sc.lines s.data.toList)
def ajT (w:World) (r:List sF×Nat×Nat) (e:Ending) (w':World):Prop :=
 q9 w w'∧∃ v L,e = .returned (.tuple #[v,.int .i64 (r.2.1:Int),.int .i64 (r.2.2:Int)])∧DL w' w.heap.size v L∧L.map (·.2.2.2)=r.1
theorem BI {fn:Func} {t u x:Tmp} (h:fn.results = #[.tmp t,.tmp u,.tmp x]) (tmps:Array Value) (P:Program) (w:World) :
  (results fn tmps).run P w = .ok (.tuple #[tmps.getD t undef,tmps.getD u undef,tmps.getD x undef]) w:=by
 simp[results,h]
theorem SK {w:World} {base g n c k:Nat} {e:TypeId} {xs:List Value} (h:w.ownsRow base e 1 (.slice (some ⟨g,0,none⟩) n c) k xs) (j:Nat) (u:Value) (hu:xs[j]? = some u):w.cell? ⟨g,j,none⟩=some u:=by
 have:=h.cells rfl j u hu
 rwa [Addr.add_lit,Nat.zero_add] at this
theorem cell_one_new (w:World) (a0:Value) (t:TypeId):∀ (j:Nat) (u:Value),[a0][j]? = some u→(w.alloc (.cells #[a0] t)).cell? ((⟨w.heap.size,0,none⟩:Addr).add j)=some u:=by
 intro j u h
 match j,h with
 | 0,h=>cases h;exact(Boxed.new w t a0).cell
theorem DL.mono {W:World} {a b:Nat} {v:Value} {L:List (Nat×Nat×Value×sF)} (h:DL W a v L) (hb:b≤a):DL W b v L:=by
 obtain⟨⟨h1,h2⟩,h3,h4⟩:=h
 refine⟨⟨h1,?_⟩,fun x hx=>⟨Nat.le_trans hb (h3 x hx).1,(h3 x hx).2⟩,h4⟩
 rcases h2 with h2|⟨g,cap,cur,h5,h6,h7⟩
 ·exact .inl h2
 ·exact .inr ⟨g,cap,cur,h5,Nat.le_trans hb h6,h7⟩
theorem ajU:(Tryz.prog.info? Lx).map (fun i=>(i.zero,i.size,i.bytes))=some (some .nilFunc,1,8):=by kernel_rfl
theorem aao (w : World) (s : ByteArray) (m : Int) (hm : w.cell? ⟨3, 0, none⟩ = some (.int .i64 m)) : Calls Tryz.prog 84 #[.string s] w (ajT w (tF s)) := by
  by_cases hbig : 1048576 < s.size
  · have q1 : ¬ (s.size : Int) ≤ 1048576 := by omega
    have hr : tF s = ([], 0, 2) := by rw [tF, if_pos hbig]
    go_enter Tryz.func84, Tryz.ntmps84
    go_wp2_with fail
    try simp only [Exit.inBlock, Exit.then]
    refine bodyPost_ret (BI rfl _ _ _) rfl ?_
    first | rw [hr] | skip
    exact ⟨q9.refl w, _, [], rfl, DL.nil _ _, rfl⟩
  · have q1 : (s.size : Int) ≤ 1048576 := by omega
    have hr : tF s = Sc.parse vU wU 0 [] (Sc.lines s.data.toList) := by rw [tF, if_neg hbig]
    have HS := Tryz.strings_Split s Jz m w (by omega) hm (by decide)
    have hlen := ajR s
    have hcnt := Lib.countB_le Jz (by decide) s.size s (Nat.le_refl _)
    have hle := ajS s
    have hdat := aan s
    rw [← hlen] at HS
    change Calls _ _ _ _ (fun e w' => e = .returned (.slice (some ⟨w.heap.size, 0, none⟩) (Eb s).length (Eb s).length) ∧ w' = w.alloc (.cells ((Eb s).map Value.string).toArray 9)) at HS
    rw [hr, ← hdat]
    generalize Eb s = ls at *
    have HS := Lib.hid HS
    have hA : ∀ k l, ls[k]? = some l → (w.alloc (.cells (ls.map Value.string).toArray 9)).cell? ⟨w.heap.size, k, none⟩ = some (.string l) := fun k l hk => by
      have := World.alloc_heap_new w (.cells (ls.map Value.string).toArray 9)
      unfold World.cell?
      simp only [this]
      simp [hk]
    have hB0 : q9 w (w.alloc (.cells (ls.map Value.string).toArray 9)) := (q9.refl w).alloc _
    have hAl : w.heap.size < (w.alloc (.cells (ls.map Value.string).toArray 9)).heap.size := by simp
    generalize hw1 : w.alloc (.cells (ls.map Value.string).toArray 9) = w1 at *
    have hHA := Lib.hid hA
    clear hA
    obtain ⟨i0, hi, hz0, hz1, hz2⟩ := info_parts ajU
    go_enter Tryz.func84, Tryz.ntmps84
    go_wp2_with (first | (go_at_call 134; refine HS.out.mono ?_; rintro e w1' ⟨rfl, rfl⟩))
    go_loopw [5, 18] (fun out i W => ∃ (k : Nat) (L : List (Nat × Nat × Value × sF)), i = .int .i64 (k : Int) ∧ k ≤ ls.length ∧ q9 w1' W ∧ DL W w1'.heap.size out L ∧ L.length ≤ 4096 ∧ Sc.parse vU wU 0 [] (ls.map (·.data.toList)) = Sc.parse vU wU k (L.map (·.2.2.2)) ((ls.map (·.data.toList)).drop k))
      (fun _ i _ => ls.length - (intOf i).toNat)
    case atStart => exact ⟨0, [], rfl, Nat.zero_le _, q9.refl _, DL.nil _ _, by decide, rfl⟩
    case round =>
      obtain ⟨k, L, rfl, hk, hbel, hDL, hL, hP⟩ := hrel
      by_cases hlt : k < ls.length
      · have q2 : (k : Int) < (ls.length : Int) := by omega
        obtain ⟨l, hl⟩ : ∃ l, ls[k]? = some l := ⟨_, List.getElem?_eq_getElem hlt⟩
        have c1 := (Below.cell hbel (p := ⟨w.heap.size, k, none⟩) hAl).trans (hHA.out k l hl)
        have hmem : l ∈ ls := List.mem_of_getElem? hl
        have hlsz := hle l hmem
        obtain ⟨hpos, hflen⟩ := SG Af l
        have HF := Tryz.strings_FieldsFunc_runes 133 #[] (enters Tryz.func133 rfl rfl) Af l wr (by omega) (ajP wr)
        have hdrop : (ls.map (·.data.toList)).drop k = l.data.toList :: (ls.map (·.data.toList)).drop (k + 1) := by
          rw [List.drop_eq_getElem_cons (by simpa using hlt)]
          congr 1
          have := (List.getElem?_eq_some_iff.1 hl).2
          simp [this]
        have hwf := ajQ l
        rw [hdrop, Sc.parse_cons] at hP
        obtain ⟨ad, cap, rfl⟩ : ∃ ad cap, u5 = .slice ad L.length cap := by
          rcases hDL.1.2 with ⟨h1, h2⟩ | ⟨g, cap, cur, h1, h2⟩
          · exact ⟨none, 0, by rw [h1, h2]⟩
          · exact ⟨_, cap, h1⟩
        cases hf : Lib.goFieldsP Af l with
        | nil =>
          rw [hf] at hwf HF
          have HF := Lib.hid HF
          rw [hwf, List.map_nil, if_pos (by rfl)] at hP
          go_wp2_with (first | (go_at_call 135; refine HF.out.mono ?_; rintro e W1 ⟨A1, rfl, hA1, hown1, hB1⟩))
          go_roundw
          case rel => exact ⟨k + 1, L, by go_num, by omega, q9.trans hbel hB1, hDL.bel hB1, hL, hP⟩
          case measure => simp [intOf]; omega
        | cons x xs =>
          rw [hf] at hwf HF hpos hflen
          have HF := Lib.hid HF
          have hx0 := hpos x (by simp)
          obtain ⟨ch, hch⟩ : ∃ ch, x.data.toList.head? = some ch := by
            cases hx : x.data.toList with
            | nil => rw [← ByteArray.size_data] at hx0; simp [← Array.length_toList, hx] at hx0
            | cons ch r => exact ⟨ch, rfl⟩
          have hb0 : x[0]'hx0 = ch := by
            have h1 : x.data.toList[0]? = some ch := by rw [← List.head?_eq_getElem?]; exact hch
            have h2 := (List.getElem?_eq_some_iff.1 h1).2
            exact h2
          by_cases hc35 : ch = 35
          · subst hc35
            have hsk : Sc.skip (vU l.data.toList) = true := by rw [hwf]; simp [Sc.skip, hch]
            have hq : (((x[0]'hx0).toNat : Int) == 35) = true := by rw [hb0]; rfl
            rw [if_pos hsk] at hP
            go_wp2_with (first | (go_at_call 135; refine HF.out.mono ?_; rintro e W1 ⟨A1, rfl, hA1, hown1, hB1⟩; have c2 : W1.cell? ⟨A1, 0, none⟩ = some (.string x) := (by simpa [Addr.add] using hown1.cells rfl 0 _ rfl)))
            go_roundw
            case rel => exact ⟨k + 1, L, by go_num, by omega, q9.trans hbel hB1, hDL.bel hB1, hL, hP⟩
            case measure => simp [intOf]; omega
          · have hsk : ¬ Sc.skip (vU l.data.toList) = true := by rw [hwf]; simp [Sc.skip, hch, hc35]
            have hq : ((ch.toNat : Int) == 35) = false := by
              rw [beq_eq_false_iff_ne]
              intro e
              exact hc35 (UInt8.toNat_inj.1 (by
                have : ch.toNat = 35 := by omega
                exact this))
            rw [if_neg hsk] at hP
            by_cases hfull : L.length = 4096
            · have hq2 : ((L.length : Int) == 4096) = true := by rw [hfull]; rfl
              rw [if_pos (by simpa using hfull)] at hP
              go_wp2_with (first | (go_at_call 135; refine HF.out.mono ?_; rintro e W1 ⟨A1, rfl, hA1, hown1, hB1⟩; have c2 : W1.cell? ⟨A1, 0, none⟩ = some (.string x) := (by simpa [Addr.add] using hown1.cells rfl 0 _ rfl)))
              try simp only [Exit.inBlock, Exit.then]
              refine bodyPost_ret (BI rfl _ _ _) rfl ?_
              rw [hP]
              exact ⟨q9.trans hB0 (q9.trans hbel hB1), _, [], rfl, DL.nil _ _, rfl⟩
            · have hq2 : ((L.length : Int) == 4096) = false := by rw [beq_eq_false_iff_ne]; omega
              rw [if_neg (by simpa using hfull), hwf] at hP
              have hcmd : wU ((x :: xs).map (·.data.toList)) = uC x xs := by
                show uC (uI x.data.toList) ((xs.map (·.data.toList)).map uI) = _
                rw [aam]; rfl
              rw [hcmd] at hP
              have HCm : ∀ (W1 : World) (A1 : Nat), W1.ownsRow wr.heap.size 9 1 (Value.slice (some ⟨A1, 0, none⟩) (x :: xs).length (x :: xs).length) (x :: xs).length (List.map Value.string (x :: xs)) →
                  Hid (Calls Tryz.prog 136 #[.slice (some ⟨A1, 0, none⟩) (xs.length + 1) (xs.length + 1)] W1 (CP W1 (uC x xs))) := fun W1 A1 hown1 =>
                Lib.hid (ajO W1 A1 x xs (hown1.lt _ rfl).2 (by simp at hflen; omega) (fun j t ht => SK hown1 j (.string t) (by rw [List.getElem?_map, ht]; rfl)))
              cases hc : uC x xs with
              | none =>
                rw [hc] at hP HCm
                go_wp2_with (first | (go_at_call 135; refine HF.out.mono ?_; rintro e W1 ⟨A1, rfl, hA1, hown1, hB1⟩; have c2 : W1.cell? ⟨A1, 0, none⟩ = some (.string x) := (by simpa [Addr.add] using hown1.cells rfl 0 _ rfl); have HC := HCm W1 A1 hown1) | (go_at_call 136; refine HC.out.mono ?_; rintro e W2 ⟨hB2, rfl⟩))
                try simp only [Exit.inBlock, Exit.then]
                refine bodyPost_ret (BI rfl _ _ _) rfl ?_
                rw [hP]
                exact ⟨q9.trans hB0 (q9.trans hbel (q9.trans hB1 hB2)), _, [], rfl, DL.nil _ _, rfl⟩
              | some c =>
                rw [hc] at hP HCm
                go_wp2_with (first | (go_at_call 135; refine HF.out.mono ?_; rintro e W1 ⟨A1, rfl, hA1, hown1, hB1⟩; have c2 : W1.cell? ⟨A1, 0, none⟩ = some (.string x) := (by simpa [Addr.add] using hown1.cells rfl 0 _ rfl); have HC := HCm W1 A1 hown1) | (go_at_call 136; refine HC.out.mono ?_; rintro e W2 ⟨hB2, vd, rfl, hd⟩; obtain ⟨vf, vc, rfl⟩ := hd.func; have hDL2 := hDL.bel (q9.trans hB1 hB2)) | (at_builtin; refine Hid.out ?_))
                refine Lib.hid ?_
                refine wpList_append_own_at _ rfl (.tmp 50) (.tmp 52) 133 rfl w1'.heap.size Lx i0 .nilFunc 1 8 Tryz.underlying133 hi hz0 hz1 hz2 rfl (by decide) _ _ _ rfl (hDL2.1.alloc _) ⟨W2.heap.size, 0, none⟩ 1 1 [.func (.func vf) #[] vc] rfl rfl (cell_one_new _ _ _) (by simp [Value.oneCell']) (by unfold maxLen; omega) (by omega) (by have := Below.size hB2; have := Below.size hB1; have := Below.size hbel; simp; omega) ?_
                intro v' W3 hown3 hgrow hv1 hv2
                have hD1 := hDL.bel hB1
                have hszs := Below.size hbel
                have hsz1 := Below.size hB1
                have hsz2 := Below.size hB2
                have hD3 := DL.push hD1 hB2 rfl (Nat.le_trans hszs hsz1) hd hown3 hgrow hv2
                have hB3 : q9 w1' W3 := Below.grown (q9.alloc (q9.trans hbel (q9.trans hB1 hB2)) _) hgrow (by simp; omega) (fun g e => (hDL.1.lt g e).1)
                go_wp2_with fail
                go_roundw
                case rel => exact ⟨k + 1, L ++ [(W1.heap.size, W2.heap.size, .func (.func vf) #[] vc, c)], by go_num, by omega, hB3, hD3, by simp; omega, by simpa using hP⟩
                case measure => simp [intOf]; omega
      · have q2 : ¬ (k : Int) < (ls.length : Int) := by omega
        have hkk : k = ls.length := by omega
        subst hkk
        go_wp2_with fail
        try simp only [Exit.inBlock, Exit.then]
        refine bodyPost_ret (BI rfl _ _ _) rfl ?_
        first | rw [hP] | rw [← hdat, hP]
        rw [List.drop_of_length_le (by simp)]
        exact ⟨q9.trans hB0 hbel, _, L, rfl, hDL.mono (Below.size hB0), rfl⟩
open Go.RowKit Go.Shelf FlagM
open Go.Lib (grownBy_trans grownBy_below grownBy_allocR)
attribute [local go_sem] Oper.semAt_some
def xk (s:Int):Sc.By:=if JN.evs s 5 = [] then [45] else Lib.join ((JN.evs s 5).map fun x=>JN.nm x.1) [32]
theorem ajV:∀ s:Fin 256,(xk (s.1:Int)).length≤60∧(10:UInt8)∉xk (s.1:Int):=by decide +kernel
theorem ajW:∀ s:Fin 256,(Lib.join ((JN.evs (s.1:Int) 5).map fun x=>JN.nm x.1) [32]).length≤60:=by decide +kernel
theorem ajX {w:World} {base:Nat} {e:TypeId} {v:Value} {n:Nat} {xs:List Value} (h:w.ownsRow base e 1 v (n+1) xs):∃ g cap,v = .slice (some ⟨g,0,none⟩) (n+1) cap∧n+1≤cap∧g<w.heap.size∧∀ j u,xs[j]? = some u→w.cell? ⟨g,0+j,none⟩=some u:=by
 rcases h.2 with⟨_,h2⟩|⟨g,cap,cur,rfl,hb,hg,h3,h4,h5,h6⟩
 ·cases h2
 ·refine⟨g,cap,rfl,h3,(Array.getElem?_eq_some_iff.1 hg).1,fun j u hj=>?_⟩
  rw[← h6,List.getElem?_take] at hj
  split at hj
  ·simpa [World.cell?,hg] using hj
  ·cases hj
theorem ajY (s:Int) (w:World) (hN:JN.NamesAt w) :
  Calls Tryz.prog 339 #[.int .u8 s] w fun e w'=>∃ v,e = .returned v∧w'.ownsRow w.heap.size 9 1 v (JN.evs s 5).length ((JN.evs s 5).map JN.nmV)∧(v = .slice none 0 0↔JN.evs s 5 = [])∧q9 w w' :=
 (callsIn_wide (n:=3)).1 (JN.Names_in Fence.wide 3 trivial trivial trivial rfl (by omega) s w hN (vJ (hN 0 (by decide))))
theorem aap (w:World) (s:Int) (h0:0≤s) (h1:s≤255) (hN:JN.NamesAt w) :
  Calls Tryz.prog 287 #[.int .u8 s] w fun e w'=>e = .returned (.string ⟨(xk s).toArray⟩)∧q9 w w':=by
 have H:=Lib.hid (ajY s w hN)
 have hj:=ajW ⟨s.toNat,by omega⟩
 simp only[Int.toNat_of_nonneg h0] at hj
 cases hl:JN.evs s 5 with
 | nil =>
  have ht:xk s = [45]:=by rw[xk,if_pos hl]
  rw[ht]
  rw[hl] at H
  go_enter Tryz.func287,Tryz.ntmps287
  go_wp2_with (first|(go_at_call 339;refine H.out.mono ?_;rintro e w1 ⟨v,rfl,hS,hnil,hB⟩;obtain rfl:=hnil.2 rfl))
  go_ret
  exact⟨rfl,hB⟩
 | cons x xs =>
  have ht:xk s=Lib.join ((JN.evs s 5).map fun x=>JN.nm x.1) [32]:=by rw[xk,if_neg (by rw[hl];simp)]
  rw[ht]
  rw[hl] at H hj ⊢
  have q1:(0:Int)<((xs.length+1:Nat):Int):=by omega
  have hlen:(JN.evs s 5).length≤5:=JN.evs_len s 5
  rw[hl] at hlen
  simp at hlen
  have hbs:(((x::xs).map fun x=>(⟨(JN.nm x.1).toArray⟩:ByteArray)).map (·.data.toList))=(x::xs).map fun x=>JN.nm x.1:=by rw[List.map_map];rfl
  go_enter Tryz.func287,Tryz.ntmps287
  go_wp2_with (first|(go_at_call 339;refine H.out.mono ?_;rintro e w1 ⟨v,rfl,hS,hnil,hB⟩;obtain⟨g,cap,rfl,hc,hg,hcell⟩:=ajX hS;have HJ:=Lib.hid (Tryz.strings_Join g 0 cap ((x::xs).map fun x=>(⟨(JN.nm x.1).toArray⟩:ByteArray)) ⟨#[32]⟩ w1 (fun j y hy=>hcell j (.string y) (by rw[List.getElem?_map] at hy ⊢;cases hx:(x::xs)[j]? with|none=>rw[hx] at hy;cases hy|some z=>rw[hx] at hy;cases hy;rfl)) hg (by simp;omega) (by simpa using hc) (by rw[hbs];exact Nat.le_trans hj (by decide)));rw[hbs,List.length_map,List.length_cons] at HJ)|(go_at_call 340;refine HJ.out.mono ?_;rintro e w2 ⟨rfl,hB2⟩))
  go_ret
  exact⟨rfl,q9.trans hB hB2⟩
open Go.RowKit Go.Shelf FlagM
open Go.Lib (grownBy_trans grownBy_below grownBy_allocR)
attribute [local go_sem] Oper.semAt_some
def shB (b:Int×Int):Int×Int:=(b.1/16,bits .or .u64 (b.2/16) (IntKind.u64.wrap (b.1*1152921504606846976)))
def yf:Nat→Int×Int→Int×Int
 | 0,b=>b
 | t+1,b=>shB (yf t b)
def JA (n:Int):UInt8:=FJ.data.toList.getD n.toNat 0
def xm:Nat→Int×Int→Sc.By
 | 0,_=>[]
 | t+1,b=>JA (bits .and .u64 (yf t b).2 15)::xm t b
theorem FL:∀ (t:Nat) (b:Int×Int),(xm t b).length=t
 | 0,_=>rfl
 | t+1,b=>by rw[xm,List.length_cons,FL t b]
theorem SL (x:Int) (k:Nat) (hk:k≤15):∃ n:Nat,bits .and .u64 x (k:Int)=(n:Int)∧n≤k:=by
 refine⟨((BitVec.ofInt 64 x&&&BitVec.ofInt 64 (k:Int)):BitVec 64).toNat,?_,?_⟩
 ·show IntKind.u64.wrap (((BitVec.ofInt 64 x&&&BitVec.ofInt 64 (k:Int):BitVec 64).toNat:Nat):Int)=_
  have:=((BitVec.ofInt 64 x&&&BitVec.ofInt 64 (k:Int)):BitVec 64).isLt
  generalize ((BitVec.ofInt 64 x&&&BitVec.ofInt 64 (k:Int)):BitVec 64).toNat=q at *
  unfold IntKind.wrap IntKind.bits IntKind.signed
  simp
  omega
 ·rw[BitVec.toNat_and]
  have h2:(BitVec.ofInt 64 (k:Int)).toNat=k:=by rw[BitVec.toNat_ofInt];omega
  rw[h2];exact Nat.and_le_right
def SN (w wr:World) (n t:Nat) (b:Int×Int) (B:Nat):Prop :=
 wr.heap[B]? = some (.cells #[.int .u64 (yf t b).1,.int .u64 (yf t b).2] 27)∧(∃ cs:Array Value,wr.heap[B+1]? = some (.cells cs 5)∧cs.size=n∧∀ j,j<t→cs[n-t+j]? = some (.int .u8 (((xm t b).getD j 0).toNat:Int)))∧q9 w wr
theorem aj0:(Tryz.prog.info? 5).map (fun i=>(i.zero,i.size,i.bytes))=some (some (.int .u8 0),1,1):=by kernel_rfl
theorem aj1 (w:World) (n:Nat) (hn:n≤1000):∃ cs:Array Value,cs.size=n∧(Instr.makeSlice 23 (.int .i64 n) (.int .i64 n)).run Tryz.prog w = .ok (.slice (some ⟨w.heap.size,0,none⟩) n n) (w.alloc (.cells cs 5)):=by
 obtain⟨i0,hi,hz0,hz1,hz2⟩:=info_parts aj0
 have h:=run_make (P:=Tryz.prog) w 23 5 i0 (.int .u8 0) Tryz.underlying23 hi hz0 .i64 .i64 n n (by omega) (by omega) (by rw[hz2];omega) (by omega)
 simp only[Int.toNat_natCast,hz1,Nat.mul_one] at h
 exact⟨_,size_madeCells _ _,h⟩
theorem aj2 (k:Nat) (h:k<16):Value.int .u8 (((JA (k:Int)).toNat:Nat):Int)=Value.int .u8 (((FJ[k]'h).toNat:Nat):Int):=by
 unfold JA
 rw[Int.toNat_natCast,List.getD_eq_getElem?_getD,List.getElem?_eq_getElem (show k<FJ.data.toList.length from h)];rfl
theorem aj3 {w wr:World} {n t:Nat} {b:Int×Int} {cs:Array Value} {v:Value} (hb:wr.heap[w.heap.size]? = some (.cells #[.int .u64 (yf t b).1,.int .u64 (yf t b).2] 27)) (hcs:wr.heap[w.heap.size+1]? = some (.cells cs 5)) (hs:cs.size=n)
  (hd:∀ j,j<t→cs[n-t+j]? = some (.int .u8 (((xm t b).getD j 0).toNat:Int))) (hB:q9 w wr) (hlt:t<n) (hv:v = .int .u8 (((JA (bits .and .u64 (yf t b).2 15)).toNat:Nat):Int)) :
  SN w (((wr.setCell ⟨w.heap.size+1,n-1-t,none⟩ v).setCell ⟨w.heap.size,0,none⟩ (.int .u64 ((yf t b).1/16))).setCell ⟨w.heap.size,1,none⟩ (.int .u64 (bits .or .u64 ((yf t b).2/16) (IntKind.u64.wrap ((yf t b).1*1152921504606846976))))) n (t+1) b w.heap.size:=by
 have g1:=tJ wr (w.heap.size+1) (n-1-t) v
 have k1:=(g1.block w.heap.size (Array.getElem?_eq_some_iff.1 hb).1 (fun e=>by have:=Option.some.inj e;omega)).trans hb
 have s1:=sU (i:=n-1-t) hcs v
 have g2:=Sy (wr.setCell ⟨w.heap.size+1,n-1-t,none⟩ v) w.heap.size (.int .u64 ((yf t b).1/16)) (.int .u64 (bits .or .u64 ((yf t b).2/16) (IntKind.u64.wrap ((yf t b).1*1152921504606846976))))
 refine⟨set2 k1 _ _,⟨cs.setIfInBounds (n-1-t) v,(g2.block _ (Array.getElem?_eq_some_iff.1 s1).1 (fun e=>by have:=Option.some.inj e;omega)).trans s1,by simp[hs],fun j hj=>?_⟩,?_⟩
 ·rw[Array.getElem?_setIfInBounds]
  match j with
  | 0 =>
   rw[if_pos (by omega),if_pos (by omega),hv];rfl
  | j+1 =>
   rw[if_neg (by omega),show n-(t+1)+(j+1)=n-t+j by omega,hd j (by omega)];rfl
 ·have b1:=Below.grown hB g1 (Below.size hB) (fun g e=>by cases e;exact Nat.le_succ _)
  exact Below.grown b1 g2 (Below.size b1) (fun g e=>by cases e;exact Nat.le_refl _)
theorem aaq (w:World) (b:Int×Int) (n:Nat) (hn:n≤32) :
  Calls Tryz.prog 363 #[.agg #[.int .u64 b.1,.int .u64 b.2],.int .i64 n] w fun e w'=>e = .returned (.string ⟨(xm n b).toArray⟩)∧q9 w w':=by
 obtain⟨cs0,hcs0,hmk⟩:=aj1 (w.alloc (.cells #[.int .u64 b.1,.int .u64 b.2] 27)) n (by omega)
 have hsz:(w.alloc (.cells #[.int .u64 b.1,.int .u64 b.2] 27)).heap.size=w.heap.size+1:=by simp
 rw[hsz] at hmk
 have hN:(((w.alloc (.cells #[.int .u64 b.1,.int .u64 b.2] 27)).alloc (.cells cs0 5)).heap[w.heap.size+1]? = some (.cells cs0 5)):=BG w _ _
 have h0:SN w ((w.alloc (.cells #[.int .u64 b.1,.int .u64 b.2] 27)).alloc (.cells cs0 5)) n 0 b w.heap.size :=
  ⟨alloc_at (World.alloc_heap_new w _) _,⟨cs0,hN,hcs0,fun j hj=>absurd hj (by omega)⟩,((q9.refl w).alloc _).alloc _⟩
 go_enter Tryz.func363,Tryz.ntmps363
 go_wp2
 go_loopw [6] (fun i wr=>∃ t:Nat,t≤n∧i = .int .i64 ((n:Int)-1-t)∧SN w wr n t b w.heap.size) (fun i _=>(intOf i+1).toNat)
 case atStart=>exact⟨0,Nat.zero_le _,by simp,h0⟩
 case round =>
  obtain⟨t,ht,rfl,hH⟩:=hrel
  by_cases hlt:t<n
  ·obtain⟨hb,⟨cs,hcs,hs,hd⟩,hB⟩:=hH
   have c0:wr.cell? ⟨w.heap.size,0,none⟩=some (.int .u64 (yf t b).1):=by simp[World.cell?,hb]
   have c1:wr.cell? ⟨w.heap.size,1,none⟩=some (.int .u64 (yf t b).2):=by simp[World.cell?,hb]
   have f0:wr.frozen? ⟨w.heap.size,0,none⟩=false:=by simp[World.frozen?,hb]
   have f1:wr.frozen? ⟨w.heap.size,1,none⟩=false:=by simp[World.frozen?,hb]
   obtain⟨k,hk,hk15⟩:=SL (yf t b).2 15 (Nat.le_refl _)
   rw[show((15:Nat):Int)=15 from rfl] at hk
   have q1:(n:Int)-1-t≥0:=by omega
   have q2:((n:Int)-1-t).toNat=n-1-t:=by omega
   have fc:∀ j,wr.frozen? ⟨w.heap.size+1,j,none⟩=false:=fun j=>by simp[World.frozen?,hcs]
   have cc:∃ v,wr.cell? ⟨w.heap.size+1,n-1-t,none⟩=some v:=by
    have:n-1-t<cs.size:=by omega
    exact⟨cs[n-1-t],by simp[World.cell?,hcs,this]⟩
   obtain⟨cv,cc⟩:=cc
   go_wp2
   refine⟨⟨t+1,by omega,by congr 1;omega,?_⟩,by simp only[intOf];omega⟩
   generalize hv:Value.int IntKind.u8 _=v
   have hv':v = .int .u8 (((JA (k:Int)).toNat:Nat):Int):=by
    rw[← hv]
    exact(aj2 k (by omega)).symm
   exact aj3 hb hcs hs hd hB hlt (by rw[hv',hk])
  ·obtain rfl:t=n:=by omega
   obtain⟨hb,⟨cs,hcs,hs,hd⟩,hB⟩:=hH
   have q1:¬ (t:Int)-1-t≥0:=by omega
   have hcv:=Go.run_convert_bytes_back (P:=Tryz.prog) wr 23 9 5 ⟨w.heap.size+1,0,none⟩ t (xm t b) Tryz.underlying23 Tryz.underlying5 Tryz.underlying9 (fun j hj=>by
    rw[FL] at hj
    have h1:=hd j hj
    rw[Nat.sub_self,Nat.zero_add] at h1
    rw[Addr.add_lit]
    simp only[World.cell?,Nat.zero_add,hcs]
    rw[h1,List.getD_eq_getElem?_getD,List.getElem?_eq_getElem (by rw[FL];exact hj)];rfl)
   rw[FL] at hcv
   go_wp2
   go_ret
   exact⟨rfl,hB⟩
open Go.RowKit Go.Shelf FlagM
abbrev uJ (x:Int):Prop:=(Lit.int .u8 x).wf=true
abbrev wfW (x:Int):Prop:=(Lit.int .u64 x).wf=true
def bW (b:Int×Int):Prop:=wfW b.1∧wfW b.2
def Ag:sF→Prop
 | .op o f t a b c=>uJ o∧uJ f∧uJ t∧bW a∧bW b∧bW c
 | .env m t=>uJ m∧uJ t
 | _=>True
theorem za {k:IntKind} {n:Int} (h:(Lit.int k n).wf=true):k.wrap n=n:=by
 unfold Lit.wf IntKind.min IntKind.max IntKind.signed IntKind.bits at h
 unfold IntKind.wrap IntKind.signed IntKind.bits
 cases k<;>simp at h ⊢ <;> (try split)<;>omega
theorem aas {x:Int} (h0:0≤x) (h1:x≤255):uJ x:=by
 simp[uJ,Lit.wf,IntKind.min,IntKind.max,IntKind.signed,IntKind.bits];omega
theorem aj4 {x:Int} (h:uJ x):0≤x∧x≤255:=by
 simp[uJ,Lit.wf,IntKind.min,IntKind.max,IntKind.signed,IntKind.bits] at h;omega
theorem CQ {zs ws ws':List ByteArray} {k:Int} (hz:zs.length≤5) (h:tC zs ws=some (k,ws')):uJ k∧0≤k∧k<(zs.length:Int)+1:=by
 cases ws with
 | nil=>cases h
 | cons s ws =>
  rw[tC] at h
  by_cases hi:0≤Lib.idxOfS zs s
  ·rw[if_pos hi] at h
   simp only[Option.some.injEq,Prod.mk.injEq] at h
   have:=Z8 zs s
   obtain⟨h1,_⟩:=h
   subst h1
   refine⟨aas hi (by omega),hi,by omega⟩
  ·rw[if_neg hi] at h;cases h
theorem aj5 {b b':Int×Int} {c:UInt8} (h:xh b c=some b'):bW b':=by
 unfold xh at h
 by_cases hi:0≤CL c
 ·rw[if_pos hi] at h;cases h;exact⟨wf_bits .or .u64 _ _,wf_bits .or .u64 _ _⟩
 ·rw[if_neg hi] at h;cases h
theorem aat:∀ (l:List UInt8) (b b':Int×Int),bW b→l.foldlM xh b=some b'→bW b'
 | [],b,b',hb,h=>by cases h;exact hb
 | c::l,b,b',hb,h=>by
  rw[List.foldlM_cons] at h
  cases hs:xh b c with
  | none=>rw[hs] at h;cases h
  | some b1=>rw[hs] at h;exact aat l b1 b' (aj5 hs) h
theorem Ec:bW (0,0):=⟨by decide,by decide⟩
theorem Oh {ws ws':List ByteArray} {b:Int×Int} (h:uT ws=some (b,ws')):bW b:=by
 cases ws with
 | nil=>cases h
 | cons s ws =>
  rw[uT] at h
  by_cases hi:s.size≤32
  ·rw[if_pos hi] at h
   cases hf:s.data.toList.foldlM xh (0,0) with
   | none=>rw[hf] at h;cases h
   | some b1=>rw[hf] at h;cases h;exact aat _ _ _ Ec hf
  ·rw[if_neg hi] at h;cases h
theorem aau:∀ (n:Nat) (ws ws':List ByteArray) (l:List (Int×Int)),uB n ws=some (l,ws')→∀ b∈l,bW b
 | 0,ws,ws',l,h,b,hb=>by
  simp only[uB,Option.some.injEq,Prod.mk.injEq] at h
  rw[← h.1] at hb;cases hb
 | n+1,ws,ws',l,h,b,hb=>by
  rw[uB] at h
  split at h
  ·cases h
  ·rename_i l1 ws1 h1
   split at h
   ·cases h
   ·rename_i b1 ws2 h2
    simp only[Option.some.injEq,Prod.mk.injEq] at h
    rw[← h.1] at hb
    rcases List.mem_append.1 hb with hb|hb
    ·exact aau n ws ws1 l1 h1 b hb
    ·rw[List.mem_singleton.1 hb];exact Oh h2
theorem aj6 {l:List (Int×Int)} (h:∀ b∈l,bW b) (j:Nat):bW (l.getD j (0,0)):=by
 rw[List.getD_eq_getElem?_getD]
 by_cases hj:j<l.length
 ·rw[List.getElem?_eq_getElem hj];exact h _ (List.getElem_mem hj)
 ·rw[List.getElem?_eq_none (by omega)];exact Ec
theorem SQ {l:List (Int×Int)} (h:∀ b∈l,bW b) (j:Nat):bW (l[j]?.getD (0,0)):=by
 have:=aj6 h j
 rwa [List.getD_eq_getElem?_getD] at this
theorem AX {o:Int} {n:Nat} {ws ws':List ByteArray} {c:sF} (ho:uJ o) (h:uH o n ws=some (c,ws')):Ag c:=by
 unfold uH at h
 split at h
 ·cases h
 ·rename_i f ws1 h1
  split at h
  ·cases h
  ·rename_i l ws2 h2
   simp only[Option.some.injEq,Prod.mk.injEq] at h
   rw[← h.1]
   have hb:=aau n ws1 ws2 l h2
   exact⟨ho,(CQ (by decide) h1).1,by decide,SQ hb 0,SQ hb 1,SQ hb 2⟩
theorem aj7 {ws ws':List ByteArray} {c:sF} (h:yE ws=some (c,ws')):Ag c:=by
 rw[yE] at h
 cases h1:tC ul ws with
 | none=>rw[h1] at h;cases h
 | some r1 =>
  obtain⟨f,ws1⟩:=r1
  rw[h1] at h
  cases h2:tC ul ws1 with
  | none=>simp only[h2] at h;cases h
  | some r2 =>
   obtain⟨t,ws2⟩:=r2
   cases h3:uT ws2 with
   | none=>simp only[h2,h3] at h;cases h
   | some r3 =>
    obtain⟨a,ws3⟩:=r3
    simp only[h2,h3] at h
    cases h
    exact⟨by decide,(CQ (by decide) h1).1,(CQ (by decide) h2).1,Oh h3,Ec,Ec⟩
theorem aj8 {ws ws':List ByteArray} {c:sF} (h:yY ws=some (c,ws')):Ag c:=by
 rw[yY] at h
 cases h1:tC ul ws with
 | none=>rw[h1] at h;cases h
 | some r1 =>
  obtain⟨f,ws1⟩:=r1
  rw[h1] at h
  cases h2:tC xI ws1 with
  | none=>simp only[h2] at h;cases h
  | some r2 =>
   obtain⟨t,ws2⟩:=r2
   cases h3:uT ws2 with
   | none=>simp only[h2,h3] at h;cases h
   | some r3 =>
    obtain⟨a,ws3⟩:=r3
    simp only[h2,h3] at h
    cases h
    exact⟨by decide,(CQ (by decide) h1).1,(CQ (by decide) h2).1,Oh h3,Ec,Ec⟩
theorem aj9 {ws ws':List ByteArray} {c:sF} (h:yZ ws=some (c,ws')):Ag c:=by
 rw[yZ] at h
 cases h1:tC xI ws with
 | none=>rw[h1] at h;cases h
 | some r1 =>
  obtain⟨f,ws1⟩:=r1
  rw[h1] at h
  cases h2:tC ul ws1 with
  | none=>simp only[h2] at h;cases h
  | some r2 =>
   obtain⟨t,ws2⟩:=r2
   cases h3:uT ws2 with
   | none=>simp only[h2,h3] at h;cases h
   | some r3 =>
    obtain⟨a,ws3⟩:=r3
    simp only[h2,h3] at h
    cases h
    exact⟨by decide,(CQ (by decide) h2).1,(CQ (by decide) h1).1,Oh h3,Ec,Ec⟩
theorem aka {ws ws':List ByteArray} {c:sF} (h:vg ws=some (c,ws')):Ag c:=by
 rw[vg] at h
 cases h1:tC xJ ws with
 | none=>rw[h1] at h;cases h
 | some r1 =>
  obtain⟨m,ws1⟩:=r1
  rw[h1] at h
  cases h2:tC yG ws1 with
  | none=>simp only[h2] at h;cases h
  | some r2 =>
   obtain⟨t,ws2⟩:=r2
   simp only[h2] at h
   cases h
   exact⟨(CQ (by decide) h1).1,(CQ (by decide) h2).1⟩
theorem akb {s:ByteArray} {ws ws':List ByteArray} {c:sF} (h:tN s ws=some (c,ws')):Ag c:=by
 unfold tN at h
 by_cases z:s=wz
 ·rw[if_pos z] at h;exact AX (by decide) h
 rw[if_neg z] at h;clear z
 by_cases z:s=wB
 ·rw[if_pos z] at h;exact AX (by decide) h
 rw[if_neg z] at h;clear z
 by_cases z:s=wC
 ·rw[if_pos z] at h;exact AX (by decide) h
 rw[if_neg z] at h;clear z
 by_cases z:s=wD
 ·rw[if_pos z] at h;exact AX (by decide) h
 rw[if_neg z] at h;clear z
 by_cases z:s=wE
 ·rw[if_pos z] at h;exact AX (by decide) h
 rw[if_neg z] at h;clear z
 by_cases z:s=wF
 ·rw[if_pos z] at h;exact AX (by decide) h
 rw[if_neg z] at h;clear z
 by_cases z:s=wG
 ·rw[if_pos z] at h;exact AX (by decide) h
 rw[if_neg z] at h;clear z
 by_cases z:s=wH
 ·rw[if_pos z] at h;exact AX (by decide) h
 rw[if_neg z] at h;clear z
 by_cases z:s=wI
 ·rw[if_pos z] at h;exact AX (by decide) h
 rw[if_neg z] at h;clear z
 by_cases z:s=wJ
 ·rw[if_pos z] at h;exact AX (by decide) h
 rw[if_neg z] at h;clear z
 by_cases z:s=wK
 ·rw[if_pos z] at h;exact AX (by decide) h
 rw[if_neg z] at h;clear z
 by_cases z:s=vO
 ·rw[if_pos z] at h;exact aj7 h
 rw[if_neg z] at h;clear z
 by_cases z:s=vP
 ·rw[if_pos z] at h;exact aj8 h
 rw[if_neg z] at h;clear z
 by_cases z:s=vQ
 ·rw[if_pos z] at h;exact aj9 h
 rw[if_neg z] at h;clear z
 by_cases z:s=vR
 ·rw[if_pos z] at h;exact aka h
 rw[if_neg z] at h;clear z
 by_cases z:s=vS
 ·rw[if_pos z] at h;cases h;trivial
 rw[if_neg z] at h;clear z
 by_cases z:s=vT
 ·rw[if_pos z] at h;cases h;trivial
 rw[if_neg z] at h;clear z
 cases h
abbrev St:=Nat×Int×Int
def st0:St:=(0,0,0)
def FM (st:St):Prop:=st.1<32∧uJ st.2.1∧uJ st.2.2
def LA (n:Int):Sc.By:=if n=0 then [108,101,115,115] else if n=1 then [101,113,117,97,108] else if n=2 then [103,114,101,97,116,101,114] else [117,110,111,114,100,101,114,101,100]
def xn (f:Int):Nat:=if f=0 then 4 else if f=1 then 8 else if f=2 then 16 else if f=3 then 32 else 0
def xq (o f t:Int) (b:Int×Int):Sc.By :=
 if o=11 then xm 16 b else if o=13∨o=14 then LA (bits .and .u64 b.2 3) else if o=10 then xm (xn t) b else xm (xn f) b
def act:sF→St→(Sc.By×Int)×St
 | .op o f t a b c,st =>
  let r:=oE (tY [o,f,t,st.2.1,st.2.2,a.1,a.2,b.1,b.2,c.1,c.2])
  ((xq o f t (r.2.1,r.2.2.1)++32::xk r.2.2.2,r.1),(J [st.1,r.2.2.2],st.2.1,st.2.2))
 | .env m t,st=>(([],0),(st.1,m,t))
 | .clear,st=>(([],0),(0,st.2.1,st.2.2))
 | .sticky,st=>((xk ((st.1%32:Nat):Int),0),st)
theorem akc (o f t m i:Int) (a b c:Int×Int) (ho:uJ o) (hf:uJ f) (ht:uJ t) (hm:uJ m) (hi:uJ i) (ha:bW a) (hb:bW b) (hc:bW c) :
  NS (xE [o,f,t,m,i,a.1,a.2,b.1,b.2,c.1,c.2])=(uG o f t m i a b c).toList:=by
 simp only[NS,xE,rE]
 simp[za ho,za hf,za ht,za hm,za hi,za ha.1,za ha.2,za hb.1,za hb.2,za hc.1,za hc.2]
theorem akd (o f t m i:Int) (a b c:Int×Int) (ho:uJ o) (hf:uJ f) (ht:uJ t) (hm:uJ m) (hi:uJ i) (ha:bW a) (hb:bW b) (hc:bW c) :
  NQ (uG o f t m i a b c).toList (oE (tY [o,f,t,m,i,a.1,a.2,b.1,b.2,c.1,c.2])).1 (oE (tY [o,f,t,m,i,a.1,a.2,b.1,b.2,c.1,c.2])).2.1 (oE (tY [o,f,t,m,i,a.1,a.2,b.1,b.2,c.1,c.2])).2.2.1 (oE (tY [o,f,t,m,i,a.1,a.2,b.1,b.2,c.1,c.2])).2.2.2:=by
 have h1:=aiy (e:=[o,f,t,m,i,a.1,a.2,b.1,b.2,c.1,c.2]) rfl (alf _ rfl)
 rwa [akc o f t m i a b c ho hf ht hm hi ha hb hc] at h1
theorem ake (l:List Int) (h:l.length=11):(oE (tY l)).1=0∨(oE (tY l)).1=1:=by
 rcases alh l h with⟨_,r,hr⟩|⟨_,hr⟩
 ·left;show IntKind.i64.wrap (rE (tY l) 0)=0;rw[hr];rfl
 ·right;show IntKind.i64.wrap (rE (tY l) 0)=1;rw[hr];rfl
theorem akf:∀ n:Fin 16,JA (n.1:Int)≠10:=by decide
theorem Oi:∀ (t:Nat) (b:Int×Int),(10:UInt8)∉xm t b
 | 0,_,h=>by cases h
 | t+1,b,h=>by
  rw[xm] at h
  rcases List.mem_cons.1 h with h|h
  ·obtain⟨n,hn,hk⟩:=SL (yf t b).2 15 (Nat.le_refl _)
   rw[show((15:Nat):Int)=15 from rfl] at hn
   rw[hn] at h
   exact akf ⟨n,by omega⟩ h.symm
  ·exact Oi t b h
theorem aav (n:Int):(10:UInt8)∉LA n∧(LA n).length≤9:=by
 unfold LA;repeat' split
 all_goals exact⟨by decide,by decide⟩
theorem LB (f:Int):xn f≤32:=by unfold xn;repeat' split<;>try omega
theorem aaw (o f t:Int) (b:Int×Int):(10:UInt8)∉xq o f t b∧(xq o f t b).length≤32:=by
 unfold xq
 repeat' split
 ·exact⟨Oi _ _,by rw[FL];decide⟩
 ·exact⟨(aav _).1,Nat.le_trans (aav _).2 (by decide)⟩
 ·exact⟨Oi _ _,by rw[FL];exact LB _⟩
 ·exact⟨Oi _ _,by rw[FL];exact LB _⟩
theorem SS (s:Int) (h0:0≤s) (h1:s≤255):(xk s).length≤60∧(10:UInt8)∉xk s:=by
 have:=ajV ⟨s.toNat,by omega⟩
 rwa [show((⟨s.toNat,by omega⟩:Fin 256).1:Int)=s by simp[Int.toNat_of_nonneg h0]] at this
theorem aax (c:sF) (st:St):((act c st).1.2=0∨(act c st).1.2=1)∧(10:UInt8)∉(act c st).1.1∧(act c st).1.1.length≤100:=by
 cases c with
 | op o f t a b c =>
  have he:=ake [o,f,t,st.2.1,st.2.2,a.1,a.2,b.1,b.2,c.1,c.2] rfl
  have hl:(oE (tY [o,f,t,st.2.1,st.2.2,a.1,a.2,b.1,b.2,c.1,c.2])).2.2.2≤255:=Zu _
  simp only[act]
  generalize oE (tY [o,f,t,st.2.1,st.2.2,a.1,a.2,b.1,b.2,c.1,c.2])=r at *
  have h2:=SS (r.2.2.2:Int) (by omega) (by omega)
  have h3:=aaw o f t (r.2.1,r.2.2.1)
  refine⟨he,fun h=>?_,?_⟩
  ·rcases List.mem_append.1 h with h|h
   ·exact h3.1 h
   ·rcases List.mem_cons.1 h with h|h
    ·cases h
    ·exact h2.2 h
  ·rw[List.length_append,List.length_cons];omega
 | env m t=>exact⟨.inl rfl,by simp[act],by simp[act]⟩
 | clear=>exact⟨.inl rfl,by simp[act],by simp[act]⟩
 | sticky =>
  have h2:=SS ((st.1%32:Nat):Int) (by omega) (by omega)
  exact⟨.inl rfl,h2.2,by have:=h2.1;show(xk _).length≤100;omega⟩
theorem akg (c:sF) (st:St) (hc:Ag c) (hs:FM st):FM (act c st).2:=by
 cases c with
 | op o f t a b c=>exact⟨ai8 _,hs.2.1,hs.2.2⟩
 | env m t=>exact⟨hs.1,hc.1,hc.2⟩
 | clear=>exact⟨by show 0<32;decide,hs.2.1,hs.2.2⟩
 | sticky=>exact hs
open Go.RowKit Go.Shelf FlagM
open Go.Lib (grownBy_trans grownBy_below grownBy_allocR)
attribute [local go_sem] Oper.semAt_some
theorem aay (w:World) (hG:Gl gG w) (f:Int) (hf:uJ f):Calls Tryz.prog 60 #[.int .u8 f] w fun e w'=>e = .returned (.int .i64 ((4*xn f:Nat):Int))∧q9 w w':=by
 have h:=(WR [f] rfl).2 w hG
 have h1:rV DT.a [f] = [.int .u8 f]:=by show [Value.int .u8 (IntKind.u8.wrap f)]=_;rw[za hf]
 have hr:=aj4 hf
 have h3:FP.fW (fN f)=4*xn f:=by
  obtain⟨n,rfl⟩:∃ n:Nat,f=(n:Int):=⟨f.toNat,by omega⟩
  have e1:fN (n:Int)=n:=by
   show(uP .u8 (n:Int)).toNat=n
   rw[um,za hf];rfl
  rw[e1]
  unfold xn
  match n with
  | 0=>rfl
  | 1=>rfl
  | 2=>rfl
  | 3=>rfl
  | n+4=>rw[if_neg (by omega),if_neg (by omega),if_neg (by omega),if_neg (by omega)];rfl
 have h2:sW (rV DT.r (KW [f])) = .int .i64 ((4*xn f:Nat):Int):=by
  rw[ahv,h3]
  show Value.int .i64 (IntKind.i64.wrap _)=_
  rw[za]
  have:=LB f
  simp[Lit.wf,IntKind.min,IntKind.max,IntKind.signed,IntKind.bits];omega
 simp only[h1,h2] at h
 unfold wW at h
 rw[Ew Tryz.func60 (by kernel_rfl) (by kernel_rfl)] at h
 exact h
theorem aaz (w:World) (b:Int×Int) (n:Nat) (hn:n≤32) :
  Calls Tryz.prog 363 #[.agg #[.int .u64 b.1,.int .u64 b.2],.int .i64 (IntKind.i64.wrap (n:Int))] w fun e w'=>e = .returned (.string ⟨(xm n b).toArray⟩)∧q9 w w':=by
 have h:IntKind.i64.wrap (n:Int)=n:=by
  apply za
  simp[Lit.wf,IntKind.min,IntKind.max,IntKind.signed,IntKind.bits];omega
 rw[h];exact aaq w b n hn
def xu (w:World) (j:Nat) (g:Int) (x:Int×Int) (W:World):Prop:=q9 w W∧W.cell? ⟨w.heap.size,j,none⟩=some (.int .u8 g)∧W.cell? ⟨w.heap.size+1,0,none⟩=some (.int .u64 x.1)∧W.cell? ⟨w.heap.size+1,1,none⟩=some (.int .u64 x.2)
theorem xu.bel {w W W':World} {j:Nat} {g:Int} {x:Int×Int} (h:xu w j g x W) (hB:q9 W W'):xu w j g x W' :=
 ⟨q9.trans h.1 hB,(hB.cell _ _ (vJ h.2.1)).trans h.2.1,(hB.cell _ _ (vJ h.2.2.1)).trans h.2.2.1,(hB.cell _ _ (vJ h.2.2.2)).trans h.2.2.2⟩
theorem xu.new {w W:World} {o f t m i:Int} {x a b c:Int×Int} (hB:q9 w W) (h1:W.heap[w.heap.size]? = some (.cells (uG o f t m i a b c) 29)) (h2:W.heap[w.heap.size+1]? = some (.cells #[.int .u64 x.1,.int .u64 x.2] 27)):xu w 1 f x W∧xu w 2 t x W :=
 ⟨⟨hB,by simp[World.cell?,h1],by simp[World.cell?,h2],by simp[World.cell?,h2]⟩,⟨hB,by simp[World.cell?,h1],by simp[World.cell?,h2],by simp[World.cell?,h2]⟩⟩
theorem akh (w:World) (hG:Gl gG w) (o f t:Int) (m i:Int) (x a b c:Int×Int) (ho:uJ o) (hf:uJ f) (ht:uJ t) :
  Calls Tryz.prog 334 #[.agg (uG o f t m i a b c),.agg #[.int .u64 x.1,.int .u64 x.2]] w fun e w'=>e = .returned (.string ⟨(xq o f t x).toArray⟩)∧q9 w w':=by
 by_cases z1:o=11
 ·subst z1
  have he:xq 11 f t x=xm 16 x:=by simp[xq]
  rw[he]
  go_enter Tryz.func334,Tryz.ntmps334
  go_wp2_with (go_at_call 363;refine(aaq _ x 16 (by decide)).mono ?_;rintro e w1 ⟨rfl,hB⟩)
  go_ret
  exact⟨rfl,q9.trans (((q9.refl w).alloc _).alloc _) hB⟩
 have y1:(o==11)=false:=by simpa using z1
 by_cases z2:o=13∨o=14
 ·have he:xq o f t x=LA (bits .and .u64 x.2 3):=by unfold xq;rw[if_neg z1,if_pos z2]
  rw[he]
  obtain⟨k,hk,hk3⟩:=SL x.2 3 (by decide)
  rw[show((3:Nat):Int)=3 from rfl] at hk
  have hk4:(k:Int)=0∨(k:Int)=1∨(k:Int)=2∨(k:Int)=3:=by omega
  rw[hk]
  generalize (k:Int)=q at hk hk4 ⊢
  clear hk3
  rcases z2 with rfl|rfl
  all_goals rcases hk4 with rfl|rfl|rfl|rfl
  all_goals
   go_enter Tryz.func334,Tryz.ntmps334
   go_wp2
   go_ret
   exact⟨rfl,((q9.refl w).alloc _).alloc _ |>.alloc _⟩
 have y2:(o==13)=false:=by simp;intro e;exact z2 (.inl e)
 have y3:(o==14)=false:=by simp;intro e;exact z2 (.inr e)
 have hbx:(((w.alloc (.cells (uG o f t m i a b c) 29)).alloc (.cells #[.int .u64 x.1,.int .u64 x.2] 27)).heap[w.heap.size+1]?)=some (.cells #[.int .u64 x.1,.int .u64 x.2] 27):=BG w _ _
 have hen:(((w.alloc (.cells (uG o f t m i a b c) 29)).alloc (.cells #[.int .u64 x.1,.int .u64 x.2] 27)).heap[w.heap.size]?)=some (.cells (uG o f t m i a b c) 29):=alloc_at (World.alloc_heap_new w _) _
 have hB0:q9 w ((w.alloc (.cells (uG o f t m i a b c) 29)).alloc (.cells #[.int .u64 x.1,.int .u64 x.2] 27)):=((q9.refl w).alloc _).alloc _
 by_cases z3:o=10
 ·subst z3
  have he:xq 10 f t x=xm (xn t) x:=by simp[xq]
  rw[he]
  have HW:=Lib.hid (fun W (hS:xu w 2 t x W)=>(aay W (hG.bel hS.1) t ht).mono fun e W' (hh:e = .returned (.int .i64 ((4*xn t:Nat):Int))∧q9 W W')=>(⟨hh.1,hS.bel hh.2⟩:e = .returned (.int .i64 ((4*xn t:Nat):Int))∧xu w 2 t x W'))
  have HH:=Lib.hid (fun W (hS:xu w 2 t x W)=>(aaz W x (xn t) (LB t)).mono fun e W' (hh:e = .returned (.string ⟨(xm (xn t) x).toArray⟩)∧q9 W W')=>(⟨hh.1,hS.bel hh.2⟩:e = .returned (.string ⟨(xm (xn t) x).toArray⟩)∧xu w 2 t x W'))
  have hS0:xu w 2 t x ((w.alloc (.cells (uG 10 f t m i a b c) 29)).alloc (.cells #[.int .u64 x.1,.int .u64 x.2] 27)):=(xu.new hB0 hen hbx).2
  go_enter Tryz.func334,Tryz.ntmps334
  go_wp2_with fail
  generalize (w.alloc (Obj.cells (uG 10 f t m i a b c) 29)).alloc (Obj.cells #[Value.int IntKind.u64 x.1,Value.int IntKind.u64 x.2] 27)=W0 at hS0 ⊢
  have k0:=hS0.1
  have k1:=hS0.2.1
  have k2:=hS0.2.2.1
  have k3:=hS0.2.2.2
  unfold xu at HW HH hS0
  go_region_held3 (fun W=>q9 w W∧W.cell? ⟨w.heap.size,2,none⟩=some (.int .u8 t)∧W.cell? ⟨w.heap.size+1,0,none⟩=some (.int .u64 x.1)∧W.cell? ⟨w.heap.size+1,1,none⟩=some (.int .u64 x.2)) (first|exact hS'|((try dsimp only);(repeat' apply And.intro)<;>first|assumption|exact k0.drew|go_keep))
   (first|(go_at_call 60;refine(HW.out _ (by assumption)).mono ?_;rintro e w' ⟨rfl,hS'⟩)|(go_at_call 363;refine(HH.out _ (by assumption)).mono ?_;rintro e w' ⟨rfl,hS'⟩))
  all_goals go_wp2
  all_goals go_ret
  all_goals first|(rename_i hS;exact⟨rfl,hS.1⟩)|(rename_i hS _;exact⟨rfl,hS.1⟩)|(rename_i hS _ _;exact⟨rfl,hS.1⟩)|exact⟨rfl,hS'.1⟩
 ·have y4:(o==10)=false:=by simpa using z3
  have he:xq o f t x=xm (xn f) x:=by unfold xq;rw[if_neg z1,if_neg z2,if_neg z3]
  rw[he]
  have HW:=Lib.hid (fun W (hS:xu w 1 f x W)=>(aay W (hG.bel hS.1) f hf).mono fun e W' (hh:e = .returned (.int .i64 ((4*xn f:Nat):Int))∧q9 W W')=>(⟨hh.1,hS.bel hh.2⟩:e = .returned (.int .i64 ((4*xn f:Nat):Int))∧xu w 1 f x W'))
  have HH:=Lib.hid (fun W (hS:xu w 1 f x W)=>(aaz W x (xn f) (LB f)).mono fun e W' (hh:e = .returned (.string ⟨(xm (xn f) x).toArray⟩)∧q9 W W')=>(⟨hh.1,hS.bel hh.2⟩:e = .returned (.string ⟨(xm (xn f) x).toArray⟩)∧xu w 1 f x W'))
  have hS0:xu w 1 f x ((w.alloc (.cells (uG o f t m i a b c) 29)).alloc (.cells #[.int .u64 x.1,.int .u64 x.2] 27)):=(xu.new hB0 hen hbx).1
  go_enter Tryz.func334,Tryz.ntmps334
  go_wp2_with fail
  generalize (w.alloc (Obj.cells (uG o f t m i a b c) 29)).alloc (Obj.cells #[Value.int IntKind.u64 x.1,Value.int IntKind.u64 x.2] 27)=W0 at hS0 ⊢
  have k0:=hS0.1
  have k1:=hS0.2.1
  have k2:=hS0.2.2.1
  have k3:=hS0.2.2.2
  unfold xu at HW HH hS0
  go_region_held3 (fun W=>q9 w W∧W.cell? ⟨w.heap.size,1,none⟩=some (.int .u8 f)∧W.cell? ⟨w.heap.size+1,0,none⟩=some (.int .u64 x.1)∧W.cell? ⟨w.heap.size+1,1,none⟩=some (.int .u64 x.2)) (first|exact hS'|((try dsimp only);(repeat' apply And.intro)<;>first|assumption|exact k0.drew|go_keep))
   (first|(go_at_call 60;refine(HW.out _ (by assumption)).mono ?_;rintro e w' ⟨rfl,hS'⟩)|(go_at_call 363;refine(HH.out _ (by assumption)).mono ?_;rintro e w' ⟨rfl,hS'⟩))
  all_goals go_wp2
  all_goals go_ret
  all_goals first|(rename_i hS;exact⟨rfl,hS.1⟩)|(rename_i hS _;exact⟨rfl,hS.1⟩)|(rename_i hS _ _;exact⟨rfl,hS.1⟩)|exact⟨rfl,hS'.1⟩
open Go.RowKit Go.Shelf FlagM
open Go.Lib (grownBy_trans grownBy_below grownBy_allocR)
attribute [local go_sem] Oper.semAt_some
abbrev tP:TypeId:=138
def vH (W:World) (bp bM:Nat) (st:St):Prop :=
 W.heap[bp]? = some (.cells #[.pointer (some ⟨bM,0,none⟩),.int .u8 st.2.1,.int .u8 st.2.2] tP)∧Boxed W bM tM (.int .u8 (st.1:Int))∧bp≠bM
def uo (S:Nat→Prop) (A B:World):Prop:=B.os=A.os∧B.tape=A.tape∧B.output=A.output∧A.heap.size≤B.heap.size∧∀ k,k<A.heap.size→¬ S k→B.heap[k]? = A.heap[k]?
theorem uo.refl (S:Nat→Prop) (A:World):uo S A A:=⟨rfl,rfl,rfl,Nat.le_refl _,fun _ _ _=>rfl⟩
theorem uo.trans {S:Nat→Prop} {A B C:World} (h:uo S A B) (k:uo S B C):uo S A C :=
 ⟨k.1.trans h.1,k.2.1.trans h.2.1,k.2.2.1.trans h.2.2.1,Nat.le_trans h.2.2.2.1 k.2.2.2.1,fun i hi hs=>(k.2.2.2.2 i (Nat.lt_of_lt_of_le hi h.2.2.2.1) hs).trans (h.2.2.2.2 i hi hs)⟩
theorem uo.of_grown {S:Nat→Prop} {A B:World} {r:Option Nat} (h:A.grownBy B r) (hr:∀ b,r=some b→S b∨A.heap.size≤b):uo S A B :=
 ⟨h.os,h.tape,h.output,h.size,fun k hk hs=>h.block k hk (fun e=>by rcases hr k e.symm with h|h;exact hs h;omega)⟩
theorem uo.of_bel {S:Nat→Prop} {A B:World} (h:q9 A B):uo S A B:=⟨Below.os h,Below.tape h,Below.output h,Below.size h,fun k hk _=>Below.block h k hk⟩
theorem LC {W:World} {bp bM:Nat} {st:St} (h:vH W bp bM st):W.cell? ⟨bp,0,none⟩=some (.pointer (some ⟨bM,0,none⟩))∧W.cell? ⟨bp,1,none⟩=some (.int .u8 st.2.1)∧W.cell? ⟨bp,2,none⟩=some (.int .u8 st.2.2):=by
 refine⟨?_,?_,?_⟩<;>simp[World.cell?,h.1]
theorem vH.kept {w W:World} {bp bM:Nat} {st:St} (h:vH w bp bM st) (h1:W.heap[bp]? = w.heap[bp]?) (h2:W.heap[bM]? = w.heap[bM]?):vH W bp bM st :=
 ⟨h1.trans h.1,h2.trans h.2.1,h.2.2⟩
def aaA (w:World) (B bp bM:Nat) (o f t:Int) (a b c:Int×Int) (st:St) (W:World):Prop :=
 W.heap[B]? = some (.cells (uG o f t st.2.1 st.2.2 a b c) 29)∧vH W bp bM st∧uo (fun k=>k=bp∨k=bM∨k=B) w W
theorem filled {w:World} {B bp bM:Nat} {o f t:Int} {a b c:Int×Int} {st:St} (hp:vH w bp bM st) (hB:w.heap[B]? = some (.cells (uG o f t 0 0 a b c) 29)) (hne:B≠bp∧B≠bM) :
  aaA w B bp bM o f t a b c st ((w.setCell ⟨B,3,none⟩ (.int .u8 st.2.1)).setCell ⟨B,4,none⟩ (.int .u8 st.2.2)).drew:=by
 have g1:=tJ w B 3 (.int .u8 st.2.1)
 have g2:=tJ (w.setCell ⟨B,3,none⟩ (.int .u8 st.2.1)) B 4 (.int .u8 st.2.2)
 have s1:=sU (i:=3) hB (.int .u8 st.2.1)
 have s2:=sU (i:=4) s1 (.int .u8 st.2.2)
 have lp:=(Array.getElem?_eq_some_iff.1 hp.1).1
 have lM:=hp.2.1.lt
 have g3:=grownBy_trans g1 g2
 refine⟨s2,hp.kept (g3.block _ lp (fun e=>hne.1 (Option.some.inj e).symm)) (g3.block _ lM (fun e=>hne.2 (Option.some.inj e).symm)),?_⟩
 exact uo.of_grown (grownBy_trans g3 (BH _ _)) (fun b e=>.inl (.inr (.inr (Option.some.inj e).symm)))
theorem SX {S:Nat→Prop} {w0 w W:World} (h:q9 w0 w) (hk:uo S w W) (hS:∀ k,S k→w0.heap.size≤k):q9 w0 W :=
 ⟨hk.1.trans (Below.os h),hk.2.1.trans (Below.tape h),hk.2.2.1.trans (Below.output h),Nat.le_trans (Below.size h) hk.2.2.2.1,fun k hk1=>(hk.2.2.2.2 k (Nat.lt_of_lt_of_le hk1 (Below.size h)) (fun hs=>by have:=hS k hs;omega)).trans (Below.block h k hk1)⟩
theorem SY {W:World} {B:Nat} {o f t m i:Int} {a b c:Int×Int} (h:W.heap[B]? = some (.cells (uG o f t m i a b c) 29)) :
  W.cell? ⟨B,0,none⟩=some (.int .u8 o)∧W.cell? ⟨B,1,none⟩=some (.int .u8 f)∧W.cell? ⟨B,2,none⟩=some (.int .u8 t)∧W.cell? ⟨B,3,none⟩=some (.int .u8 m)∧W.cell? ⟨B,4,none⟩=some (.int .u8 i)∧W.cell? ⟨B,5,none⟩=some (.int .u64 a.1)∧W.cell? ⟨B,6,none⟩=some (.int .u64 a.2)∧W.cell? ⟨B,7,none⟩=some (.int .u64 b.1)∧W.cell? ⟨B,8,none⟩=some (.int .u64 b.2)∧W.cell? ⟨B,9,none⟩=some (.int .u64 c.1)∧W.cell? ⟨B,10,none⟩=some (.int .u64 c.2):=by
 refine⟨?_,?_,?_,?_,?_,?_,?_,?_,?_,?_,?_⟩<;>simp[World.cell?,h]
def S9 (W:World) (B bp bM R:Nat) (o f t:Int) (a b c:Int×Int) (st:St) (r:Out) (X:World):Prop :=
 X.heap[B]? = some (.cells (uG o f t st.2.1 st.2.2 a b c) 29)∧X.heap[R]? = some (.cells #[.int .i64 r.1,.int .u64 r.2.1,.int .u64 r.2.2.1,.int .u8 (r.2.2.2:Int)] 39)∧vH X bp bM (J [st.1,r.2.2.2],st.2.1,st.2.2)∧uo (fun k=>k=bM) W X
abbrev FN:Obj:=.cells #[.int .i64 0,.int .u64 0,.int .u64 0,.int .u8 0] 39
abbrev aki (r:Out):Obj:=.cells #[.int .i64 r.1,.int .u64 r.2.1,.int .u64 r.2.2.1,.int .u8 (r.2.2.2:Int)] 39
theorem akj {W w1:World} {B bp bM:Nat} {o f t:Int} {a b c:Int×Int} {st:St} {r:Out} (hB1:W.heap[B]? = some (.cells (uG o f t st.2.1 st.2.2 a b c) 29)) (hp1:vH W bp bM st) (hne:B≠bp∧B≠bM)
  (hM1:Boxed w1 bM tM (.int .u8 (J [st.1,r.2.2.2]:Int))) (hg1:W.drew.grownBy w1 (some bM)):S9 W B bp bM w1.heap.size o f t a b c st r (w1.alloc (aki r)):=by
 have lB:=(Array.getElem?_eq_some_iff.1 hB1).1
 have lp:=(Array.getElem?_eq_some_iff.1 hp1.1).1
 refine⟨alloc_at ((hg1.block _ lB (fun e=>hne.2 (Option.some.inj e))).trans hB1) _,World.alloc_heap_new _ _,⟨alloc_at ((hg1.block _ lp (fun e=>hp1.2.2 (Option.some.inj e))).trans hp1.1) _,hM1.alloc _,hp1.2.2⟩,?_⟩
 exact uo.of_grown (grownBy_allocR (grownBy_trans (BH W (some bM)) hg1) _) (fun k e=>.inl (Option.some.inj e).symm)
theorem akk {W w1:World} {B bp bM:Nat} {o f t:Int} {a b c:Int×Int} {st:St} {r:Out} (hB1:W.heap[B]? = some (.cells (uG o f t st.2.1 st.2.2 a b c) 29)) (hp1:vH W bp bM st) (hne:B≠bp∧B≠bM)
  (hM1:Boxed w1 bM tM (.int .u8 (J [st.1,r.2.2.2]:Int))) (hg1:(W.alloc FN).drew.grownBy w1 (some bM)) (hR1:w1.heap[W.heap.size]? = some FN) :
  S9 W B bp bM W.heap.size o f t a b c st r ((((w1.setCell ⟨W.heap.size,0,none⟩ (.int .i64 r.1)).setCell ⟨W.heap.size,1,none⟩ (.int .u64 r.2.1)).setCell ⟨W.heap.size,2,none⟩ (.int .u64 r.2.2.1)).setCell ⟨W.heap.size,3,none⟩ (.int .u8 (r.2.2.2:Int))):=by
 have lB:=(Array.getElem?_eq_some_iff.1 hB1).1
 have lp:=(Array.getElem?_eq_some_iff.1 hp1.1).1
 have lM:=hp1.2.1.lt
 have k1:=(hg1.block B (by show B<(W.alloc FN).heap.size;simp;omega) (fun e=>hne.2 (Option.some.inj e))).trans (alloc_at hB1 FN)
 have k2:=(hg1.block bp (by show bp<(W.alloc FN).heap.size;simp;omega) (fun e=>hp1.2.2 (Option.some.inj e))).trans (alloc_at hp1.1 FN)
 have h6:=Zo hR1 (.int .i64 r.1) (.int .u64 r.2.1) (.int .u64 r.2.2.1) (.int .u8 (r.2.2.2:Int))
 have g6:=Zp w1 W.heap.size (.int .i64 r.1) (.int .u64 r.2.1) (.int .u64 r.2.2.1) (.int .u8 (r.2.2.2:Int))
 refine⟨(g6.block _ (Array.getElem?_eq_some_iff.1 k1).1 (fun e=>by have:=Option.some.inj e;omega)).trans k1,h6,⟨(g6.block _ (Array.getElem?_eq_some_iff.1 k2).1 (fun e=>by have:=Option.some.inj e;omega)).trans k2,hM1.kept g6 (fun e=>by have:=Option.some.inj e;omega),hp1.2.2⟩,?_⟩
 have h0:=grownBy_trans (grownBy_trans (World.grownBy_alloc W FN (some bM)) (BH _ _)) hg1
 exact⟨g6.os.trans h0.os,g6.tape.trans h0.tape,g6.output.trans h0.output,Nat.le_trans h0.size g6.size,fun k hk hs=>(g6.block k (Nat.lt_of_lt_of_le hk h0.size) (fun e=>by have:=Option.some.inj e;omega)).trans (h0.block k hk (fun e=>hs (Option.some.inj e)))⟩
end Go.Proofs.YtbembkamcdlhbaaGreatDoor.Sp
