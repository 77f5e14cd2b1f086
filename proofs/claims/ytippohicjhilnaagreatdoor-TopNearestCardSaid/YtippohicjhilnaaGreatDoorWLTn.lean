import Derived.Test.YtippohicjhilnaaGreatDoorZ8Tn
import Derived.Test.YtippohicjhilnaaGreatDoorZDTn
import Derived.Test.YtippohicjhilnaaGreatDoorCards
import Derived.Test.YtippohicjhilnaaGreatDoorTie
import Derived.SevenTiedAt
import Derived.ProofKit
import Derived.LaidMore
import Derived.LaidOnce
import Derived.Lay
import Derived.OpenShut
import Derived.HandedShaped
import Derived.Stop.Joined
import Derived.Stop.LaidErr
import Derived.Lib.LaidU8
import Derived.Lib.LaidTab
import Derived.Deep.Strs
import Derived.Lib.SmallJoins
set_option linter.unusedSimpArgs false
set_option linter.unusedVariables false
set_option maxRecDepth 100000
open Go.Proofs.Tryz
namespace Go.Proofs.YtippohicjhilnaaGreatDoor
open Go.ChangeShapes Go.WideShapes Go.ChangeAt Go.WideMaps Go.WideElems Go.RowKit
theorem knob:ownKnob prog.godebug=none:=by kernel_rfl
abbrev Vt:List (String×DataW Unit):=[("math/bits.deBruijn32tab",Rows.laid_math_bits_deBruijn32tab),("math/bits.deBruijn64tab",Rows.laid_math_bits_deBruijn64tab),("internal/strconv.uint64pow10",Rows.laid_internal_strconv_uint64pow10),("unicode/utf8.acceptRanges",Rows.laid_unicode_utf8_acceptRanges),("hairsbreadth/flag.names",Rows.laid_hairsbreadth_flag_names),("hairsbreadth/format.table",Rows.laid_hairsbreadth_format_table),("hairsbreadth/toint.ends",Rows.laid_hairsbreadth_toint_ends),("unicode/utf8.first",Rows.laid_unicode_utf8_first)]
abbrev aBQ:List LaidKind:=[.data,.data,.data,.data,.data,.data,.data,.pinned]
theorem laidOut:laidOutB prog=true:=by kernel_rfl
theorem aBR:prog.globalNamed "hairsbreadth/format.table" = some 0:=by kernel_rfl
theorem aBS:(prog.globals[0]?).map (·.type)=some 131:=by kernel_rfl
theorem aBT:prog.globalNamed "hairsbreadth/toint.ends" = some 1:=by kernel_rfl
theorem aBU:(prog.globals[1]?).map (·.type)=some 312:=by kernel_rfl
theorem amZ:prog.cellsOf 250=2:=by kernel_rfl
theorem aBV:prog.cellsOf 312=8:=by kernel_rfl
theorem aBW:prog.cellsOf 23=1:=by kernel_rfl
theorem am0:prog.cellsOf 88=3:=by kernel_rfl
theorem aBX:prog.cellsOf 131=12:=by kernel_rfl
theorem aBY:prog.cellsOf 3=1:=by kernel_rfl
theorem row_of {H:Type} {enc:TypeId×Value->H} {W:World} {base:Nat} {sp:Nat->Bool} {hd:Bool} {m:Nat} {cs:List Value} {y:DataW H×List MemPlace} {a b c:Int} (h:DataW.trod enc prog W base sp hd m 88 cs=some y)
  (e:y.1 = .agg [.lit (.int .i64 a),.lit (.int .i64 b),.lit (.int .i64 c)]):cs = [.int .i64 a,.int .i64 b,.int .i64 c]:=by
 obtain⟨y0,y1,y2,n,rfl,hl,h0,h1,h2⟩:=Go.Deep.trod_struct3 underlying88 h;rw[am0] at hl;rw[aBY] at h0 h1 h2;obtain⟨n0,e0,x0,_⟩:=DataW.trod_int underlying3 h0;obtain⟨n1,e1,x1,_⟩:=DataW.trod_int underlying3 h1;obtain⟨n2,e2,x2,_⟩:=DataW.trod_int underlying3 h2
 match cs,hl with
 | [u,v,w],_ =>
  simp at e0 e1 e2;subst e0;subst e1;subst e2;subst x0;subst x1;subst x2;simp at e;obtain⟨rfl,rfl,rfl⟩:=e;rfl
theorem YR {H:Type} {enc:TypeId×Value->H} {W:World} {base:Nat} {sp:Nat->Bool} {hd:Bool} {m:Nat} {cs:List Value} {y:DataW H×List MemPlace} {a b:Int} (h:DataW.trod enc prog W base sp hd m 250 cs=some y)
  (e:y.1 = .agg [.lit (.int .u64 a),.lit (.int .u64 b)]):cs = [.int .u64 a,.int .u64 b]:=by
 obtain⟨y0,y1,n,rfl,hl,h0,h1⟩:=trod_struct2 underlying250 h;rw[amZ] at hl;rw[aBW] at h0 h1;obtain⟨n0,e0,x0,_⟩:=DataW.trod_int underlying23 h0;obtain⟨n1,e1,x1,_⟩:=DataW.trod_int underlying23 h1
 match cs,hl with
 | [u,v],_ =>
  simp at e0 e1;subst e0;subst e1;subst x0;subst x1;simp at e;obtain⟨rfl,rfl⟩:=e;rfl
theorem aBZ {W:World} {rest:List (String×DataW Unit)} (h:laidMet prog (("hairsbreadth/format.table",Rows.laid_hairsbreadth_format_table)::("hairsbreadth/toint.ends",Rows.laid_hairsbreadth_toint_ends)::rest) W):∀ x∈gG.l,x.2 ≠ []->x.1<W.heap.size/\∀ j v,x.2[j]? = some v->W.cell? ⟨x.1,j,none⟩=some v:=by
 obtain⟨ps,⟨g0,t0,cs0,f0,p0,q0,hg0,ht0,hv0,hd0,hrest,_⟩,_⟩:=h;obtain rfl:=Option.some.inj (aBR.symm.trans hg0);obtain rfl:=Option.some.inj (aBS.symm.trans ht0);obtain⟨g1,t1,cs1,f1,p1,q1,hg1,ht1,hv1,hd1,_,_⟩:=hrest;obtain rfl:=Option.some.inj (aBT.symm.trans hg1);obtain rfl:=Option.some.inj (aBU.symm.trans ht1);obtain⟨xs,m1,rfl,hx1,hlen,hn3,hel⟩:=DataW.trod_array underlying131 hd0;obtain⟨zs,m2,rfl,hz1,hlen2,hn4,hel2⟩:=DataW.trod_array underlying312 hd1;simp only[Prod.mk.injEq] at hx1 hz1;rw[am0] at hel;rw[aBX] at hlen;rw[amZ] at hel2;rw[aBV] at hlen2
 match xs,hn3,zs,hn4 with
 | [y0,y1,y2,y3],_,[z0,z1,z2,z3],_ =>
  have hagg:=hx1.1;have hagg2:=hz1.1;simp only[Rows.laid_hairsbreadth_format_table,List.map_cons,List.map_nil,DataW.agg.injEq,List.cons.injEq,and_true] at hagg;simp only[Rows.laid_hairsbreadth_toint_ends,List.map_cons,List.map_nil,DataW.agg.injEq,List.cons.injEq,and_true] at hagg2;obtain⟨a0,a1,a2,a3⟩:=hagg;obtain⟨b0,b1,b2,b3⟩:=hagg2;have r0:=row_of (hel 0 (by decide)) a0.symm;have r1:=row_of (hel 1 (by decide)) a1.symm;have r2:=row_of (hel 2 (by decide)) a2.symm;have r3:=row_of (hel 3 (by decide)) a3.symm;have s0:=YR (hel2 0 (by decide)) b0.symm;have s1:=YR (hel2 1 (by decide)) b1.symm;have s2:=YR (hel2 2 (by decide)) b2.symm;have s3:=YR (hel2 3 (by decide)) b3.symm;generalize hcs:cs0.toList=cs at *
  generalize hds:cs1.toList=ds at *
  have hcell:∀ j,W.cell? ⟨0,j,none⟩=cs[j]?:=λj=>by rw[World.var?_cell hg0 hv0 j,<- hcs];simp
  have hcell2:∀ j,W.cell? ⟨1,j,none⟩=ds[j]?:=λj=>by rw[World.var?_cell hg1 hv1 j,<- hds];simp
  match cs,hlen,ds,hlen2 with
  | [c0,c1,c2,c3,c4,c5,c6,c7,c8,c9,c10,c11],_,[d0,d1,d2,d3,d4,d5,d6,d7],_ =>
   simp at r0 r1 r2 r3 s0 s1 s2 s3;obtain⟨rfl,rfl,rfl⟩:=r0;obtain⟨rfl,rfl,rfl⟩:=r1;obtain⟨rfl,rfl,rfl⟩:=r2;obtain⟨rfl,rfl,rfl⟩:=r3;obtain⟨rfl,rfl⟩:=s0;obtain⟨rfl,rfl⟩:=s1;obtain⟨rfl,rfl⟩:=s2;obtain⟨rfl,rfl⟩:=s3;intro x hx hne;simp only[gG,List.mem_cons,List.not_mem_nil,or_false] at hx;rcases hx with rfl|rfl|rfl|rfl|rfl
   ·refine⟨Aa (hcell 0),λj v hj=>?_⟩;rw[hcell];exact hj
   ·refine⟨Aa (hcell2 0),λj v hj=>?_⟩;rw[hcell2];exact hj
   ·exact absurd rfl hne
   ·exact absurd rfl hne
   ·exact absurd rfl hne
theorem aB0:prog.globalNamed "hairsbreadth/flag.names" = some 4:=by kernel_rfl
theorem aB1:(prog.globals[4]?).map (·.type)=some 325:=by kernel_rfl
theorem aB2:prog.cellsOf 9=1:=by kernel_rfl
theorem aB3 {W:World} {rest:List (String×DataW Unit)} (h:laidMet prog (("hairsbreadth/flag.names",Rows.laid_hairsbreadth_flag_names)::rest) W):JN.aCm W:=by
 obtain⟨ps,⟨g0,t0,cs0,f0,p0,q0,hg0,ht0,hv0,hd0,_,_⟩,_⟩:=h;obtain rfl:=Option.some.inj (aB0.symm.trans hg0);obtain rfl:=Option.some.inj (aB1.symm.trans ht0);obtain⟨xs,m1,rfl,hx1,hlen,hn3,hel⟩:=DataW.trod_array underlying325 hd0;simp only[Prod.mk.injEq] at hx1;rw[aB2] at hel;intro j hj;have hx:∃ y,xs[j]? = some y:=⟨xs[j]'(by omega),List.getElem?_eq_getElem (by omega)⟩;obtain⟨y,hy⟩:=hx;have hj1:=hel j hj;rw[hy] at hj1;obtain⟨s,hcs,hys,_⟩:=DataW.trod_string underlying9 hj1
 have hc:cs0.toList[j]? = some (.string s):=by have:=congrArg (·[0]?) hcs;simpa [List.getElem?_take,List.getElem?_drop] using this
 have hd:(xs.map (·.1))[j]? = some (DataW.lit (.string s.data.toList)):=by simp[hy,hys]
 have hagg:xs.map (·.1) = [.lit (.string (JN.nm 0)),.lit (.string (JN.nm 1)),.lit (.string (JN.nm 2)),.lit (.string (JN.nm 3)),.lit (.string (JN.nm 4))]:=by have:=hx1.1;simp only[Rows.laid_hairsbreadth_flag_names,DataW.agg.injEq] at this;rw[<- this];rfl
 rw[hagg] at hd
 have hs:s.data.toList=JN.nm j:=by
  have:j=0\/j=1\/j=2\/j=3\/j=4:=by omega
  rcases this with rfl|rfl|rfl|rfl|rfl<;>(simp at hd;exact hd.symm)
 have hs':s=⟨(JN.nm j).toArray⟩:=by cases s with|mk d=>simp at hs;rw[<- hs]
 have:=World.var?_cell hg0 hv0 j;rw[this,<- hs'];simpa using hc
theorem aB4:Rows.laid_internal_strconv_uint64pow10=Lib.tabData (H:=Unit) .u64 Lib.pow10Tab:=by kernel_rfl
theorem aB5 {W:World} (h:laidMetH prog Vt W) (hsh:W.ShapedOpen prog):Sp.aDC W:=by
 rw[MakeChecks.laidMetH_plain _ _ _ (by kernel_rfl)] at h;have h2:=laidMet.tail (laidMet.tail h);have h4:=laidMet.tail (laidMet.tail h2);have h5:=laidMet.tail h4;rw[aB4] at h2;have hN:=aB3 h4;have hT:=Lib.tabIs_of_head (g:=2) (t:=337) (e:=23) (n:=20) (by kernel_rfl) (by kernel_rfl) underlying337 underlying23 (by kernel_rfl) (by kernel_rfl) h2;have hM:=Tryz.laysM219.s1_3 W hsh
 have hX:gX W:=⟨λj hj=>(hN j hj).trans (by
  have:j=0\/j=1\/j=2\/j=3\/j=4:=by omega
  rcases this with rfl|rfl|rfl|rfl|rfl<;>rfl),hT,hM⟩
 have h2g:=aBZ h5
 have hP:2<W.heap.size:=by
  unfold Lib.TabIs World.var? at hT;rw[afQ] at hT;simp only[Option.bind_some] at hT
  cases hq:W.heap[2]? with
  | none=>rw[hq] at hT;cases hT
  | some o=>exact(Array.getElem?_eq_some_iff.1 hq).1
 obtain⟨m,hm⟩:=hM;refine⟨⟨λx hx=>?_,hX⟩,hN,hT,m,hm⟩;by_cases he:x.2 = []
 ·have hx':x∈gG.l:=hx;refine⟨?_,λj v hj=>by rw[he] at hj;cases hj⟩;simp only[gG,List.mem_cons,List.not_mem_nil,or_false] at hx';rcases hx' with rfl|rfl|rfl|rfl|rfl
  ·cases he
  ·cases he
  ·exact Aa (hN 0 (by decide))
  ·exact hP
  ·exact Aa hm
 ·exact h2g x hx he
theorem Ja {k:IntKind} {n:Int} (h:(Lit.int k n).wf=true):k.wrap n=n:=by unfold Lit.wf IntKind.min IntKind.max IntKind.signed IntKind.bits at h;unfold IntKind.wrap IntKind.signed IntKind.bits;cases k<;>simp at h ⊢ <;> (try split)<;>omega
theorem aB6 {H:Type} {enc:TypeId×Value->H} {a:Assume} {C:Checked} {os:Os} {f:FuncId} {fn:Func} {s:ChangeSpec} {conds:List PathCond} {apart fresh handsOn again:Bool} {X:World->Array Value->Prop}
  (hX:∀ (w w':World) (args:Array Value),w.heap=w'.heap->X w args->X w' args)
  (own:ownKnob C.prog.godebug=none) (started:os.Started) (noInit:C.prog.inits.idxOf? f=none) (hfn:C.prog.funcs[f]? = some fn)
  (witness:∃ (w:World) (tape:Tape) (i:Input),w.os=os/\(w.forCall tape i).Shaped C.prog/\i.vars = []/\Input.okWide C.prog (w.forCall tape i) .any w.heap.size f i /\
   ((s.pre enc C.prog fn conds apart (w.forCall tape i).memory i.args/\X (w.forCall tape i).memory i.args)/\sizedMet enc C.prog fn (OpenSpec.ofChange s) apart (w.forCall tape i).memory i.args)/\a.holds C.prog (lone (Frame.enter C.prog f i.args .normal) [] (w.forCall tape i)))
  (contract:∀ (W:World) (base:Nat) (args:Array Value) (ds gs:List (DataW H)) (before:List MemPlace),
   (∀ (j:Nat) t v,fn.params[j]? = some t->args[j]? = some v->Value.okWide C.prog W .any base t v) ->
   DataW.Whole enc C.prog fn.params.toList s.vars apart W args.toList ds gs before->X W args->W.ShapedOpen C.prog ->
   Calls C.prog f args W λe W'=>∃ v,e = .returned v/\s.post enc C.prog fn apart fresh handsOn again W args v W') :
  ReturnsInHanded a C os f .any (λw args=>(s.pre enc C.prog fn conds apart w args/\X w args)/\sizedMet enc C.prog fn (OpenSpec.ofChange s) apart w args) (s.post enc C.prog fn apart fresh handsOn again):=by
 refine returnsInHanded_of_calls own started noInit witness ?_;intro w tape i _ hsh _ hok hpre hholds;obtain⟨_,_,_,fn',hfn',_,_,_,_,hval⟩:=hok;have e:fn'=fn:=Option.some.inj (hfn'.symm.trans hfn);subst e;obtain⟨⟨⟨ds,gs,before,hw,hc⟩,hx⟩,hz⟩:=hpre;have hw':=DataW.Whole.of_heap (w':=w.forCall tape i) (by rfl) hw;refine(contract (w.forCall tape i) w.heap.size i.args ds gs before hval hw' (hX _ _ _ (by rfl) hx) hsh).mono λe W' ⟨v,he,hp⟩=>?_
 subst he;exact ChangeSpec.post_blind hp
theorem YS {H:Type} {enc:TypeId×Value->H} {W:World} {r:Reach} {b0 base:Nat} {sp:Nat->Bool} {hd:Bool} {v:Value} {d:DataW H} {p:List MemPlace} (hv:Value.okWide prog W r b0 25 v)
  (h:DataW.Trod enc prog W base sp hd 25 v d p):∃ a b,v = .agg #[.int .u64 a,.int .u64 b]/\d = .agg [.lit (.int .u64 a),.lit (.int .u64 b)]/\p = []/\(Lit.int .u64 a).wf=true/\(Lit.int .u64 b).wf=true:=by
 obtain⟨v0,v1,y0,y1,n,rfl,rfl,rfl,h0,h1⟩:=Go.Joins.open_agg2 underlying25 (by kernel_rfl) (by kernel_rfl) hv h;obtain⟨a,e0,x0,w0⟩:=DataW.trod_int underlying23 h0;obtain⟨b,e1,x1,w1⟩:=DataW.trod_int underlying23 h1;simp at e0 e1;subst e0;subst e1;subst x0;subst x1;exact⟨a,b,rfl,rfl,rfl,w0,w1⟩
theorem aB7 {g:FuncId} {ct:Ct} {F:List Int->List Int} (h:yT prog gG ⟨g,ct,F⟩) {fn:Func} (hf:prog.funcs[g]? = some fn) (hn:(fn.name == "runtime.NumGoroutine")=false) (hb:fn.body.isNone=false)
  (hr:ct.r = [.sc .bool]) (l:List Int) (args:List Value) (hl:l.length=(vV ct.a).length) (ha:xk ct.a l=args) (ht:F l = [1]) (W:World) (hG:Gl gG W) :
  Calls prog g args.toArray W λe w'=>e = .returned (.bool true)/\vY W w':=by
 have hlen:(F l).length=(vV ct.r).length:=by rw[ht,hr];rfl
 have:=h.ok l hl hlen W hG;simp only[ht,hr,ha] at this;unfold Ce at this;rw[KE hf hn hb] at this;exact this
end Go.Proofs.YtippohicjhilnaaGreatDoor
