import Derived.Test.YtemomocmfggiaaaGreatDoorZDU6
import Derived.Test.YtemomocmfggiaaaGreatDoorCards
import Derived.Test.YtemomocmfggiaaaGreatDoorTie
import Derived.SevenTiedAt
import Derived.ProofKit
import Derived.LaidMore
import Derived.OpenShut
import Derived.Stop.Joined
import Derived.Deep.Strs
import Derived.Lib.SmallJoins
set_option linter.unusedSimpArgs false
set_option linter.unusedVariables false
set_option maxRecDepth 100000
namespace Go.Proofs.YtemomocmfggiaaaGreatDoor
open Go.ChangeShapes Go.WideShapes Go.ChangeAt Go.WideMaps Go.WideElems Go.RowKit
theorem knob:ownKnob Tryz.prog.godebug=none:=by kernel_rfl
abbrev RF:List (String×DataW Unit):=[("hairsbreadth/format.table",Rows.laid_hairsbreadth_format_table),("hairsbreadth/toint.ends",Rows.laid_hairsbreadth_toint_ends)]
abbrev asB:List LaidKind:=[.data,.data]
theorem laidOut:laidOutB Tryz.prog=true:=by kernel_rfl
theorem asC:Tryz.prog.globalNamed "hairsbreadth/format.table" = some 0:=by kernel_rfl
theorem asD:(Tryz.prog.globals[0]?).map (·.type)=some 137:=by kernel_rfl
theorem asE:Tryz.prog.globalNamed "hairsbreadth/toint.ends" = some 1:=by kernel_rfl
theorem asF:(Tryz.prog.globals[1]?).map (·.type)=some 279:=by kernel_rfl
theorem agJ:Tryz.prog.cellsOf 215=2:=by kernel_rfl
theorem asG:Tryz.prog.cellsOf 279=8:=by kernel_rfl
theorem agK:Tryz.prog.cellsOf 22=1:=by kernel_rfl
theorem agL:Tryz.prog.cellsOf 94=3:=by kernel_rfl
theorem asH:Tryz.prog.cellsOf 137=12:=by kernel_rfl
theorem asI:Tryz.prog.cellsOf 3=1:=by kernel_rfl
theorem asJ (os:Os) (args:Array Value):laidMetH Tryz.prog RF ((World.doorLaid Tryz.prog 400 os).forCall (fun _ _=>0) ⟨#[],args,[]⟩).memory :=
 laidMetH_of_parts3 (fuel:=8) (laidMet_of_run' 8 (by kernel_rfl) (by kernel_rfl)) (by kernel_rfl) (by kernel_rfl)
theorem row_of {H:Type} {enc:TypeId×Value→H} {W:World} {base:Nat} {sp:Nat→Bool} {hd:Bool} {m:Nat} {cs:List Value} {y:DataW H×List MemPlace} {a b c:Int} (h:DataW.trod enc Tryz.prog W base sp hd m 94 cs=some y)
  (e:y.1 = .agg [.lit (.int .i64 a),.lit (.int .i64 b),.lit (.int .i64 c)]):cs = [.int .i64 a,.int .i64 b,.int .i64 c]:=by
 obtain⟨y0,y1,y2,n,rfl,hl,h0,h1,h2⟩:=Go.Deep.trod_struct3 Tryz.underlying94 h
 rw[agL] at hl
 rw[asI] at h0 h1 h2
 obtain⟨n0,e0,x0,_⟩:=DataW.trod_int Tryz.underlying3 h0
 obtain⟨n1,e1,x1,_⟩:=DataW.trod_int Tryz.underlying3 h1
 obtain⟨n2,e2,x2,_⟩:=DataW.trod_int Tryz.underlying3 h2
 match cs,hl with
 | [u,v,w],_ =>
  simp at e0 e1 e2
  subst e0;subst e1;subst e2
  subst x0;subst x1;subst x2
  simp at e
  obtain⟨rfl,rfl,rfl⟩:=e
  rfl
theorem Vd {H:Type} {enc:TypeId×Value→H} {W:World} {base:Nat} {sp:Nat→Bool} {hd:Bool} {m:Nat} {cs:List Value} {y:DataW H×List MemPlace} {a b:Int} (h:DataW.trod enc Tryz.prog W base sp hd m 215 cs=some y)
  (e:y.1 = .agg [.lit (.int .u64 a),.lit (.int .u64 b)]):cs = [.int .u64 a,.int .u64 b]:=by
 obtain⟨y0,y1,n,rfl,hl,h0,h1⟩:=trod_struct2 Tryz.underlying215 h
 rw[agJ] at hl
 rw[agK] at h0 h1
 obtain⟨n0,e0,x0,_⟩:=DataW.trod_int Tryz.underlying22 h0
 obtain⟨n1,e1,x1,_⟩:=DataW.trod_int Tryz.underlying22 h1
 match cs,hl with
 | [u,v],_ =>
  simp at e0 e1
  subst e0;subst e1
  subst x0;subst x1
  simp at e
  obtain⟨rfl,rfl⟩:=e
  rfl
theorem asK {W:World} (h:laidMetH Tryz.prog RF W):Gl gG W:=by
 rw[MakeChecks.laidMetH_plain _ _ _ (by kernel_rfl)] at h
 obtain⟨ps,⟨g0,t0,cs0,f0,p0,q0,hg0,ht0,hv0,hd0,hrest,_⟩,_⟩:=h
 obtain rfl:=Option.some.inj (asC.symm.trans hg0)
 obtain rfl:=Option.some.inj (asD.symm.trans ht0)
 obtain⟨g1,t1,cs1,f1,p1,q1,hg1,ht1,hv1,hd1,_,_⟩:=hrest
 obtain rfl:=Option.some.inj (asE.symm.trans hg1)
 obtain rfl:=Option.some.inj (asF.symm.trans ht1)
 obtain⟨xs,m1,rfl,hx1,hlen,hn3,hel⟩:=DataW.trod_array Tryz.underlying137 hd0
 obtain⟨zs,m2,rfl,hz1,hlen2,hn4,hel2⟩:=DataW.trod_array Tryz.underlying279 hd1
 simp only[Prod.mk.injEq] at hx1 hz1
 rw[agL] at hel
 rw[asH] at hlen
 rw[agJ] at hel2
 rw[asG] at hlen2
 match xs,hn3,zs,hn4 with
 | [y0,y1,y2,y3],_,[z0,z1,z2,z3],_ =>
  have hagg:=hx1.1
  have hagg2:=hz1.1
  simp only[Rows.laid_hairsbreadth_format_table,List.map_cons,List.map_nil,DataW.agg.injEq,List.cons.injEq,and_true] at hagg
  simp only[Rows.laid_hairsbreadth_toint_ends,List.map_cons,List.map_nil,DataW.agg.injEq,List.cons.injEq,and_true] at hagg2
  obtain⟨a0,a1,a2,a3⟩:=hagg
  obtain⟨b0,b1,b2,b3⟩:=hagg2
  have r0:=row_of (hel 0 (by decide)) a0.symm
  have r1:=row_of (hel 1 (by decide)) a1.symm
  have r2:=row_of (hel 2 (by decide)) a2.symm
  have r3:=row_of (hel 3 (by decide)) a3.symm
  have s0:=Vd (hel2 0 (by decide)) b0.symm
  have s1:=Vd (hel2 1 (by decide)) b1.symm
  have s2:=Vd (hel2 2 (by decide)) b2.symm
  have s3:=Vd (hel2 3 (by decide)) b3.symm
  generalize hcs:cs0.toList=cs at *
  generalize hds:cs1.toList=ds at *
  have hcell:∀ j,W.cell? ⟨0,j,none⟩=cs[j]?:=fun j=>by
   rw[World.var?_cell hg0 hv0 j,← hcs];simp
  have hcell2:∀ j,W.cell? ⟨1,j,none⟩=ds[j]?:=fun j=>by
   rw[World.var?_cell hg1 hv1 j,← hds];simp
  match cs,hlen,ds,hlen2 with
  | [c0,c1,c2,c3,c4,c5,c6,c7,c8,c9,c10,c11],_,[d0,d1,d2,d3,d4,d5,d6,d7],_ =>
   simp at r0 r1 r2 r3 s0 s1 s2 s3
   obtain⟨rfl,rfl,rfl⟩:=r0
   obtain⟨rfl,rfl,rfl⟩:=r1
   obtain⟨rfl,rfl,rfl⟩:=r2
   obtain⟨rfl,rfl,rfl⟩:=r3
   obtain⟨rfl,rfl⟩:=s0
   obtain⟨rfl,rfl⟩:=s1
   obtain⟨rfl,rfl⟩:=s2
   obtain⟨rfl,rfl⟩:=s3
   intro x hx
   simp only[gG,List.mem_cons,List.not_mem_nil,or_false] at hx
   rcases hx with rfl|rfl
   ·refine⟨abr (hcell 0),fun j v hj=>?_⟩
    rw[hcell];exact hj
   ·refine⟨abr (hcell2 0),fun j v hj=>?_⟩
    rw[hcell2];exact hj
theorem FU {k:IntKind} {n:Int} (h:(Lit.int k n).wf=true):k.wrap n=n:=by
 unfold Lit.wf IntKind.min IntKind.max IntKind.signed IntKind.bits at h
 unfold IntKind.wrap IntKind.signed IntKind.bits
 cases k<;>simp at h ⊢ <;> (try split)<;>omega
theorem asL {α:Type} {cs:List α} (h:cs.length=11):∃ c0 c1 c2 c3 c4 c5 c6 c7 c8 c9 c10,cs = [c0,c1,c2,c3,c4,c5,c6,c7,c8,c9,c10]:=by
 match cs,h with
 | [c0,c1,c2,c3,c4,c5,c6,c7,c8,c9,c10],_=>exact⟨c0,c1,c2,c3,c4,c5,c6,c7,c8,c9,c10,rfl⟩
theorem asM {α:Type} {cs:List α} (h:cs.length=8):∃ c0 c1 c2 c3 c4 c5 c6 c7,cs = [c0,c1,c2,c3,c4,c5,c6,c7]:=by
 match cs,h with
 | [c0,c1,c2,c3,c4,c5,c6,c7],_=>exact⟨c0,c1,c2,c3,c4,c5,c6,c7,rfl⟩
theorem aaN {H:Type} {enc:TypeId×Value→H} {W:World} {base:Nat} {sp:Nat→Bool} {hd:Bool} {m:Nat} {u v:Value} {y:DataW H×List MemPlace} (h:DataW.trod enc Tryz.prog W base sp hd m 24 [u,v]=some y) :
  ∃ a b,u = .int .u64 a∧v = .int .u64 b∧y=(.agg [.lit (.int .u64 a),.lit (.int .u64 b)],[])∧(Lit.int .u64 a).wf=true∧(Lit.int .u64 b).wf=true:=by
 obtain⟨y0,y1,n,rfl,hl,h0,h1⟩:=trod_struct2 Tryz.underlying24 h
 rw[agK] at h0 h1
 obtain⟨a,e0,x0,w0⟩:=DataW.trod_int Tryz.underlying22 h0
 obtain⟨b,e1,x1,w1⟩:=DataW.trod_int Tryz.underlying22 h1
 simp at e0 e1
 subst e0;subst e1;subst x0;subst x1
 exact⟨a,b,rfl,rfl,rfl,w0,w1⟩
theorem RG {H:Type} {enc:TypeId×Value→H} {W:World} {base:Nat} {sp:Nat→Bool} {hd:Bool} {m:Nat} {u:Value} {y:DataW H×List MemPlace} (h:DataW.trod enc Tryz.prog W base sp hd m 5 [u]=some y) :
  ∃ a,u = .int .u8 a∧y=(.lit (.int .u8 a),[])∧(Lit.int .u8 a).wf=true:=by
 obtain⟨a,e0,x0,w0⟩:=DataW.trod_int Tryz.underlying5 h
 simp at e0
 exact⟨a,e0,x0,w0⟩
def agM {H:Type} (x:Nat→Int):DataW H:=.agg [.lit (.int .u8 (x 0)),.lit (.int .u8 (x 1)),.lit (.int .u8 (x 2)),.lit (.int .u8 (x 3)),.lit (.int .u8 (x 4)),.agg [.lit (.int .u64 (x 5)),.lit (.int .u64 (x 6))],.agg [.lit (.int .u64 (x 7)),.lit (.int .u64 (x 8))],.agg [.lit (.int .u64 (x 9)),.lit (.int .u64 (x 10))]]
def agN (x:Nat→Int):Prop:=(∀ j,j<5→(Lit.int .u8 (x j)).wf=true)∧∀ j,5≤j→j<11→(Lit.int .u64 (x j)).wf=true
def asN (a0 a1 a2 a3 a4 a5 a6 a7 a8 a9 a10:Int):Nat→Int
 | 0=>a0|1=>a1|2=>a2|3=>a3|4=>a4|5=>a5|6=>a6|7=>a7|8=>a8|9=>a9|10=>a10|_=>0
theorem asO {H:Type} {enc:TypeId×Value→H} {W:World} {base:Nat} {sp:Nat→Bool} {hd:Bool} {m:Nat} {cs:List Value} {y:DataW H×List MemPlace} (h:DataW.trod enc Tryz.prog W base sp hd m 26 cs=some y) :
  ∃ x:Nat→Int,cs = [.int .u8 (x 0),.int .u8 (x 1),.int .u8 (x 2),.int .u8 (x 3),.int .u8 (x 4),.int .u64 (x 5),.int .u64 (x 6),.int .u64 (x 7),.int .u64 (x 8),.int .u64 (x 9),.int .u64 (x 10)]∧y=(agM x,[])∧agN x:=by
 obtain⟨ys,n,_,hy,hlen,hyl,hg⟩:=DataW.trod_struct Tryz.underlying26 h
 obtain⟨c0,c1,c2,c3,c4,c5,c6,c7,c8,c9,c10,rfl⟩:=asL (hlen.trans (by kernel_rfl))
 obtain⟨y0,y1,y2,y3,y4,y5,y6,y7,rfl⟩:=asM hyl
 have k1:Tryz.prog.cellsOf 5=1:=by kernel_rfl
 have k4:Tryz.prog.cellsOf 24=2:=by kernel_rfl
 have h0:=hg 0 _ rfl
 have h1:=hg 1 _ rfl
 have h2:=hg 2 _ rfl
 have h3:=hg 3 _ rfl
 have h4:=hg 4 _ rfl
 have h5:=hg 5 _ rfl
 have h6:=hg 6 _ rfl
 have h7:=hg 7 _ rfl
 simp only[k1,k4,List.drop_zero,List.drop_succ_cons,List.take_succ_cons,List.take_zero,List.getElem?_cons_zero,List.getElem?_cons_succ] at h0 h1 h2 h3 h4 h5 h6 h7
 obtain⟨a0,rfl,rfl,w0⟩:=RG h0
 obtain⟨a1,rfl,rfl,w1⟩:=RG h1
 obtain⟨a2,rfl,rfl,w2⟩:=RG h2
 obtain⟨a3,rfl,rfl,w3⟩:=RG h3
 obtain⟨a4,rfl,rfl,w4⟩:=RG h4
 obtain⟨a5,a6,rfl,rfl,rfl,w5,w6⟩:=aaN h5
 obtain⟨a7,a8,rfl,rfl,rfl,w7,w8⟩:=aaN h6
 obtain⟨a9,a10,rfl,rfl,rfl,w9,w10⟩:=aaN h7
 refine⟨asN a0 a1 a2 a3 a4 a5 a6 a7 a8 a9 a10,rfl,hy,fun j hj=>?_,fun j h1 h2=>?_⟩
 ·have:j=0∨j=1∨j=2∨j=3∨j=4:=by omega
  rcases this with rfl|rfl|rfl|rfl|rfl<;>assumption
 ·have:j=5∨j=6∨j=7∨j=8∨j=9∨j=10:=by omega
  rcases this with rfl|rfl|rfl|rfl|rfl|rfl<;>assumption
theorem asP {H:Type} {enc:TypeId×Value→H} {W:World} {r:Reach} {b0 base:Nat} {sp:Nat→Bool} {hd:Bool} {v:Value} {d:DataW H} {p:List MemPlace} (hv:Value.okWide Tryz.prog W r b0 26 v)
  (h:DataW.Trod enc Tryz.prog W base sp hd 26 v d p):∃ x:Nat→Int,v = .agg #[.int .u8 (x 0),.int .u8 (x 1),.int .u8 (x 2),.int .u8 (x 3),.int .u8 (x 4),.int .u64 (x 5),.int .u64 (x 6),.int .u64 (x 7),.int .u64 (x 8),.int .u64 (x 9),.int .u64 (x 10)]∧d=agM x∧p = []∧agN x:=by
 obtain⟨cs,rfl,hsz⟩:=okWide_struct Tryz.underlying26 hv
 obtain⟨fuel,hf⟩:=h
 obtain⟨x,h1,h2,h3⟩:=asO hf
 simp only[Prod.mk.injEq] at h2
 refine⟨x,?_,h2.1,h2.2,h3⟩
 congr 1
 apply Array.ext'
 exact h1
theorem asQ {g:FuncId} {ct:Ct} {F:List Int→List Int} (h:AQ Tryz.prog gG ⟨g,ct,F⟩) {fn:Func} (hf:Tryz.prog.funcs[g]? = some fn) (hn:(fn.name == "runtime.NumGoroutine")=false) (hb:fn.body.isNone=false)
  (hr:ct.r = [.sc .bool]) (l:List Int) (args:List Value) (hl:l.length=(vD ct.a).length) (ha:wJ ct.a l=args) (ht:F l = [1]) (W:World) (hG:Gl gG W) :
  Calls Tryz.prog g args.toArray W fun e w'=>e = .returned (.bool true)∧vI W w':=by
 have:=h.ok l hl (by simp only[ht,hr];rfl) W hG
 simp only[ht,hr,ha] at this
 unfold AC at this
 rw[Kv hf hn hb] at this
 exact this
end Go.Proofs.YtemomocmfggiaaaGreatDoor
