import Derived.Test.YtbembkamcdlhbaaGreatDoorZ3Sc
set_option linter.unusedSimpArgs false
set_option linter.unusedVariables false
set_option maxRecDepth 100000
set_option maxHeartbeats 2000000
namespace Go.Proofs.YtbembkamcdlhbaaGreatDoor.JN
open Go.RowKit Go.Shelf FlagM
attribute [local go_sem] Oper.semAt_some
theorem amN:(Tryz.prog.info? 9).map (fun i=>(i.zero,i.size,i.bytes))=some (some (.string ⟨#[]⟩),1,16):=by kernel_rfl
def nm:Nat→List UInt8
 | 0=>[105,110,118,97,108,105,100]|1=>[100,105,118,122,101,114,111]|2=>[111,118,101,114,102,108,111,119]
 | 3=>[117,110,100,101,114,102,108,111,119]|4=>[105,110,101,120,97,99,116]|_=>[]
abbrev nmV (x:Fin 5):Value:=.string ⟨(nm x.1).toArray⟩
theorem Names_in (F:Fence) (n:Nat) (h3:F.fn 339) (h4:F.fn 157) (h5:F.fn 219) (hro:F.round=none) (hn:3≤n) (s:Int) (w:World) (hg:∀ j,j<5→w.cell? ⟨4,j,none⟩=some (.string ⟨(nm j).toArray⟩)) (h0:4<w.heap.size) :
  CallsIn F n Tryz.prog 339 #[.int .u8 s] w fun e W'=>∃ v,e = .returned v∧W'.ownsRow w.heap.size 9 1 v (evs s 5).length ((evs s 5).map nmV)∧(v = .slice none 0 0↔evs s 5 = [])∧Below w.heap.size w W':=by
 have h1:1≤n:=by omega
 obtain⟨i0,hi,hz0,hz1,hz2⟩:=info_parts amN
 refine callsIn_of_wp_marks Tryz.func339 rfl h3 ?_ hro
 simp only[Tryz.ntmps339,List.size_toArray,List.length_cons,List.length_nil,Nat.reduceAdd,Nat.reduceSub,Array.replicate_succ,Array.replicate_zero,List.push_toArray,List.append_toArray,List.nil_append,List.cons_append]
 gi_wp2_with (gi_at_call 157;refine(ZN F (n-1) h4 hro _ _).mono ?_;rintro e w' ⟨rfl,rfl⟩)
 have bO:=Boxed.new w 82 (.slice none 0 0)
 have bN:=Boxed.new (w.alloc (.cells #[.slice none 0 0] 82)) 33 (.int .u8 s)
 rw[World.size_alloc] at bN
 have hB0:Below w.heap.size w ((w.alloc (.cells #[.slice none 0 0] 82)).alloc (.cells #[.int .u8 s] 33)):=((Below.refl _ w).alloc (Nat.le_refl _) _).alloc (by simp) _
 refine wpIn_rangeFunc_ownG hro h1 (gf:=219) (lb:=#[.pointer (some ⟨w.heap.size+1,0,none⟩)]) rfl h5 (enters_of Tryz.func219 (by kernel_rfl) rfl)
  (ZO F (n-1) h5 hro (by omega) (w.heap.size+1) s _ (by simp) bN.cell) TR TS (Below.refl _ _) (fun _=>rfl)
  (fun pre W=>((∃ v,Boxed W w.heap.size 82 v∧W.ownsRow w.heap.size 9 1 v pre.length (pre.map nmV)∧(v = .slice none 0 0↔pre = []))∧Boxed W (w.heap.size+1) 33 (.int .u8 s))∧Below w.heap.size w W)
  (fun _ _ _=>False)
  (OwnFrom.and (OwnFrom.and (Own.from (holdsRow_own w.heap.size w.heap.size 82 9 1 (fun pre=>pre.length) (fun pre=>pre.map nmV) (fun pre v=>v = .slice none 0 0↔pre = [])) _) (Own.from (boxed_own _ _ _) _)) (ownFrom_below (Nat.le_refl _) (by simp;omega)))
  (fun _ _ _ _ _ hs _ _=>hs)
  ⟨⟨⟨_,bO.alloc _,World.ownsRow_nil _ _ _ _,by simp⟩,bN⟩,hB0⟩
  (fun x => { tmps:=#[.int .u8 s,undef,.slice none 0 0,.pointer (some ⟨w.heap.size,0,none⟩),.int .i64 (x.1:Int),.int .u8 s,.func (.func 219) #[] #[.pointer (some ⟨w.heap.size+1,0,none⟩)],.int .i64 (x.1:Int),.int .u8 (2^x.1%256),undef,undef,undef,undef,undef,undef,undef],defers:=[] }) ?assign ?body ?done ?stop
 case assign =>
  intro l x W K hK
  gi_wp2
  exact hK
 case body =>
  rintro l pre x W ⟨⟨⟨v,hv,hrow,hnil⟩,bN1⟩,hB⟩ hlt
  have hc:=hv.cell
  have hcA:=(hv.alloc (.cells #[.string ⟨(nm x.1).toArray⟩] 9)).cell
  have hx:(x.1:Int)<5:=by have:=x.2;omega
  have hc0:W.cell? ⟨4,x.1,none⟩=some (.string ⟨(nm x.1).toArray⟩):=(hB.cell (p:=⟨4,x.1,none⟩) h0).trans (hg x.1 x.2)
  gi_wp2
  refine abY [[0,1,2,3,4,5,6],[1,0,2,3,4,5,6],[1,2,0,3,4,5,6],[1,2,3,0,4,5,6],[1,2,3,4,0,5,6]] (by kernel_rfl) (by kernel_rfl) ?_
  simp only[List.forall_mem_cons,List.filterMap,List.getElem?_toArray,List.getElem?_cons_zero,List.getElem?_cons_succ]
  refine⟨?_,?_,?_,?_,?_,fun _ h=>by cases h⟩
  all_goals
   gi_wp2_with (gi_at_builtin;refine wpListIn_append_own _ rfl _ _ 82 rfl w.heap.size 9 i0 (.string ⟨#[]⟩) 1 16 Tryz.underlying82 hi hz0 hz1 hz2 rfl (by decide) _ _ _ rfl ((hrow.alloc _).drew) ⟨W.heap.size,0,none⟩ 1 1 [nmV x] rfl rfl (cell_one_new _ _ _) (by simp[Value.oneCell',nmV]) (by unfold maxLen;omega) (by omega) (by have:=hB.size;simp;omega) ?_;intro v' w1 hown' hgrow0 _;obtain⟨g',cap',rfl⟩:=ownsRow_succ hown';have hgrow:(W.alloc (.cells #[nmV x] 9)).grownBy w1 v.ownBlock:=⟨hgrow0.os,hgrow0.tape,hgrow0.output,hgrow0.size,hgrow0.block⟩;obtain⟨hv1,hv2,hr2,hk2,hb2⟩:=hv.appended (by decide) hrow hB.size (Nat.le_refl _) hown' hgrow;have bN2:=((bN1.alloc (.cells #[nmV x] 9)).kept hgrow (bN1.not_row (by decide) hrow)).other (B':=w.heap.size) (by omega) (.slice (some ⟨g',0,none⟩) (pre.length+1) cap');have hc1:=hv1.cell;have hf1:=hv1.frozen)
   exact⟨hk2.from _,fun u hu=>by rw[bN1.cell] at hu;cases hu;exact bN2.cell,⟨⟨_,hv2,by simpa using hr2,by simp⟩,bN2⟩,hB.trans hb2⟩
 case done =>
  rintro D ys W hD rfl ⟨⟨⟨v,hv,hrow,hnil⟩,bN1⟩,hB⟩ hK
  have hc:=hv.cell
  gi_wp2
  refine⟨by simp,.inl ⟨_,_,rfl,run_takeDeferred hK,?_⟩⟩
  exact⟨_,results_tmp rfl _ _ _,v,rfl,ownsRow_putObj hrow _ hK rfl,hnil,hB.trans (belowK_b (w:=w) (Nat.le_refl _) W D _ _ (by simp at hD;omega) hK rfl rfl)⟩
 case stop =>
  rintro D c pre W _ _ h _
  exact h.elim
def NamesAt (w:World):Prop:=∀ j,j<5→w.cell? ⟨4,j,none⟩=some (.string ⟨(nm j).toArray⟩)
theorem NamesAt.bel {A B:World} (h:NamesAt A) (hb:q9 A B):NamesAt B:=fun j hj=>(hb.cell _ _ (vJ (h 0 (by decide)))).trans (h j hj)
end Go.Proofs.YtbembkamcdlhbaaGreatDoor.JN
