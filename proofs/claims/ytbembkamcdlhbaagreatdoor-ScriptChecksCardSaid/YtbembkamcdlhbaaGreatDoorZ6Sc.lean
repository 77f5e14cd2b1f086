import Derived.Test.YtbembkamcdlhbaaGreatDoorZ3Sc
import Derived.Test.YtbembkamcdlhbaaGreatDoorZ5Sc
import Derived.Test.YtbembkamcdlhbaaGreatDoorSHSc
import Derived.Recover
import Derived.Lib.BufferOwn
import Derived.Defers
import Derived.Lib.ConvBytes
import Derived.Deep.RegionHeld3
import Derived.Deep.RegionWith
import Derived.MapKept
import Derived.WideMake
import Derived.Laws.Pointers
set_option linter.unusedSimpArgs false
set_option linter.unusedVariables false
set_option maxRecDepth 100000
set_option maxHeartbeats 4000000
namespace Go.Proofs.YtbembkamcdlhbaaGreatDoor.Sp
open Go.RowKit Go.Shelf FlagM
open Go.Lib (grownBy_trans grownBy_below grownBy_allocR)
attribute [local go_sem] Oper.semAt_some
abbrev CK:Ending:=.panicked [{ v:=.iface 37 (.int .i64 3),recovered:=false }]
theorem Sq (w:World):Calls Tryz.prog 209 #[.bool true] w fun e w'=>(∃ v,e = .returned v)∧w=w':=by
 go_enter Tryz.func209,Tryz.ntmps209
 go_wp2
 go_end0
 exact⟨⟨_,rfl⟩,rfl⟩
theorem ZY (w:World):Calls Tryz.prog 209 #[.bool false] w fun e w'=>e=CK∧w=w':=by
 go_enter Tryz.func209,Tryz.ntmps209
 go_wp2
 simp[bodyPost]
theorem Jy (w:World) (b:Bool) (h:b=false):Calls Tryz.prog 209 #[.bool b] w fun e w'=>e=CK∧w=w':=by
 rw[h];exact ZY w
theorem Lp (w:World) (b:Bool) (h:b=true):Calls Tryz.prog 209 #[.bool b] w fun e w'=>(∃ v,e = .returned v)∧w=w':=by
 rw[h];exact Sq w
theorem uS {P:Program} {fn:Func} {Post:Ending→World→Prop} {c:List PanicEntry} {t:Array Value} {w:World} (h:Post (.panicked c) w):bodyPost P fn Post (Exit.panic c) { tmps:=t,defers:=[] } w:=by
 simp only[bodyPost]
 exact⟨trivial,h⟩
theorem ajq (w:World) (B bk o c n:Nat) (s:ByteArray) (hl:w.cell? ⟨B,0,none⟩=some (.slice (some ⟨bk,o,none⟩) (n+1) c)) (hz:w.frozen? ⟨B,0,none⟩=false) (hs:w.cell? ⟨bk,o,none⟩=some (.string s)) (hc:n+1≤c) (hc2:c≤4611686018427387904) :
  Calls Tryz.prog 335 #[.pointer (some ⟨B,0,none⟩)] w fun e w'=>e = .returned (.string s)∧∃ o' c',(0<n→o'=o+1)∧n≤c'∧c'≤c∧w'=w.setCell ⟨B,0,none⟩ (.slice (some ⟨bk,o',none⟩) n c'):=by
 have q1:(0:Int)<((n+1:Nat):Int):=by omega
 go_enter Tryz.func335,Tryz.ntmps335
 go_wp2_with (go_at_call 209;first|(with_reducible refine(Sq _).mono ?_);rintro e w' ⟨⟨v,rfl⟩,rfl⟩)
 ·go_ret
  exact⟨rfl,o,by omega,0,by omega,by omega,rfl⟩
 ·go_ret
  exact⟨rfl,o+1,fun _=>rfl,c-1,by omega,by omega,rfl⟩
theorem ajr (w:World) (B c:Nat) (ad:Option Addr) (hl:w.cell? ⟨B,0,none⟩=some (.slice ad 0 c)) :
  Calls Tryz.prog 335 #[.pointer (some ⟨B,0,none⟩)] w fun e w'=>e=CK∧w=w':=by
 go_enter Tryz.func335,Tryz.ntmps335
 go_wp2_with (go_at_call 209;(with_reducible refine(ZY _).mono ?_);rintro e w' ⟨rfl,rfl⟩)
 simp[bodyPost]
open Go.RowKit Go.Shelf FlagM
open Go.Lib (grownBy_trans grownBy_below grownBy_allocR)
attribute [local go_sem] Oper.semAt_some
abbrev tW:TypeId:=275
def tH (w:World) (B:Nat) (ws:List ByteArray):Prop :=
 ∃ bk o c,Boxed w B tW (.slice (some ⟨bk,o,none⟩) ws.length c)∧ws.length≤c∧c≤4611686018427387904∧bk<B∧∀ j s,ws[j]? = some s→w.cell? ⟨bk,o+j,none⟩=some (.string s)
theorem tH.kept {A w:World} {B:Nat} {ws:List ByteArray} {row:Option Nat} (h:tH A B ws) (hg:A.grownBy w row) (hr:∀ k,row=some k→B<k):tH w B ws:=by
 obtain⟨bk,o,c,h1,h2,h3,h4,h5⟩:=h
 have hB:=h1.lt
 refine⟨bk,o,c,h1.kept hg (fun e=>by have:=hr _ e.symm;omega),h2,h3,h4,fun j s hs=>hg.cell (h5 j s hs) (fun e=>?_)⟩
 have:=hr _ e.symm
 simp only at this
 omega
theorem Sr {w:World} {B:Nat} {s:ByteArray} {ws:List ByteArray} (h:tH w B (s::ws)) :
  Calls Tryz.prog 335 #[.pointer (some ⟨B,0,none⟩)] w fun e w'=>e = .returned (.string s)∧tH w' B ws∧w.grownBy w' (some B):=by
 obtain⟨bk,o,c,h1,h2,h3,h4,h5⟩:=h
 refine(ajq w B bk o c ws.length s (by simpa using h1.cell) h1.frozen (by simpa using h5 0 s rfl) (by simpa using h2) h3).mono ?_
 rintro e w' ⟨he,o',c',ho,hc1,hc2,rfl⟩
 refine⟨he,⟨bk,o',c',h1.set _,hc1,by omega,h4,fun j t ht=>?_⟩,grownBy_setCell' _ _ _⟩
 have hj:0<ws.length:=by have:=(List.getElem?_eq_some_iff.1 ht).1;omega
 rw[ho hj]
 have:=h5 (j+1) t (by simpa using ht)
 rw[show o+1+j=o+(j+1) by omega]
 exact(grownBy_setCell' w B _).cell this (by simp;omega)
theorem Z6 {w:World} {B:Nat} (h:tH w B []):Calls Tryz.prog 335 #[.pointer (some ⟨B,0,none⟩)] w fun e w'=>e=CK∧w=w':=by
 obtain⟨bk,o,c,h1,h2,h3,h4,h5⟩:=h
 exact ajr w B c _ (by simpa using h1.cell)
theorem Z7 (s:ByteArray):∀ (zs:List ByteArray) (i:Nat),Lib.idxFromS zs s i<((i+zs.length:Nat):Int)∨zs = []∧Lib.idxFromS zs s i = -1
 | [],i=>.inr ⟨rfl,rfl⟩
 | z::zs,i=>by
  left
  unfold Lib.idxFromS
  split
  ·simp;omega
  ·rcases Z7 s zs (i+1) with h|⟨rfl,h⟩
   ·simp only[List.length_cons];omega
   ·rw[h];omega
theorem Z8 (zs:List ByteArray) (s:ByteArray):Lib.idxOfS zs s<((zs.length+1:Nat):Int):=by
 rcases Z7 s zs 0 with h|⟨_,h⟩
 ·unfold Lib.idxOfS;omega
 ·unfold Lib.idxOfS;omega
def AL (w:World) (b:Nat) (zs:List ByteArray):Prop:=b<w.heap.size∧∀ j,j<zs.length→w.cell? ⟨b,0+j,none⟩=some (.string (zs.getD j ByteArray.empty))
theorem AL.kept {A w:World} {b:Nat} {zs:List ByteArray} {row:Option Nat} (h:AL A b zs) (hg:A.grownBy w row) (hr:some b≠row):AL w b zs :=
 ⟨Nat.lt_of_lt_of_le h.1 hg.size,fun j hj=>hg.cell (h.2 j hj) hr⟩
theorem ajs {w:World} {B:Nat} {s:ByteArray} {ws:List ByteArray} (h:tH w B (s::ws)) (b:Nat) (zs:List ByteArray) (hz:zs.length≤5) (hl:AL w b zs) (hb:B<b) :
  Calls Tryz.prog 280 #[.pointer (some ⟨B,0,none⟩),.slice (some ⟨b,0,none⟩) zs.length zs.length] w fun e w' =>
   ((0≤Lib.idxOfS zs s∧e = .returned (.int .u8 (Lib.idxOfS zs s))∧tH w' B ws)∨(Lib.idxOfS zs s<0∧e=CK))∧w.grownBy w' (some B):=by
 have hx:=Z8 zs s
 have H:=Lib.hid (Sr h)
 have HL:=Lib.hid (fun W (hg:w.grownBy W (some B))=>hl.kept hg (fun e=>by have:=Option.some.inj e;omega))
 by_cases hi:0≤Lib.idxOfS zs s
 ·generalize hk:Lib.idxOfS zs s=k at hi hx
  have q1:k≥0:=hi
  have q2:k%256=k:=by omega
  go_enter Tryz.func280,Tryz.ntmps280
  go_wp2_with (first|(go_at_call 335;refine H.out.mono ?_;rintro e w1 ⟨rfl,hW,hg⟩;have hL:=HL.out _ hg;have HI:=Lib.hid (Tryz.slices_Index_string b 0 zs.length zs.length zs s w1 (Nat.le_refl _) (by omega) hL.2))|(go_at_call 337;refine HI.out.mono ?_;rintro e w2 ⟨rfl,rfl⟩;rw[List.take_length,hk])|(go_at_call 209;refine(Sq _).mono ?_;rintro e w3 ⟨⟨v,rfl⟩,rfl⟩))
  go_ret
  exact⟨.inl ⟨hi,rfl,hW⟩,hg⟩
 ·generalize hk:Lib.idxOfS zs s=k at hi hx
  have q1:¬ k≥0:=hi
  go_enter Tryz.func280,Tryz.ntmps280
  go_wp2_with (first|(go_at_call 335;refine H.out.mono ?_;rintro e w1 ⟨rfl,hW,hg⟩;have hL:=HL.out _ hg;have HI:=Lib.hid (Tryz.slices_Index_string b 0 zs.length zs.length zs s w1 (Nat.le_refl _) (by omega) hL.2))|(go_at_call 337;refine HI.out.mono ?_;rintro e w2 ⟨rfl,rfl⟩;rw[List.take_length,hk])|(go_at_call 209;refine(Jy _ _ (by simp;omega)).mono ?_;rintro e w3 ⟨rfl,rfl⟩))
  exact uS ⟨.inr ⟨by omega,rfl⟩,hg⟩
theorem ajt {w:World} {B:Nat} (h:tH w B []) (v:Value):Calls Tryz.prog 280 #[.pointer (some ⟨B,0,none⟩),v] w fun e w'=>e=CK∧w=w':=by
 have H:=Lib.hid (Z6 h)
 go_enter Tryz.func280,Tryz.ntmps280
 go_wp2_with (go_at_call 335;refine H.out.mono ?_;rintro e w1 ⟨rfl,rfl⟩)
 exact uS ⟨rfl,rfl⟩
def tC (zs:List ByteArray):List ByteArray→Option (Int×List ByteArray)
 | []=>none
 | s::ws=>if 0≤Lib.idxOfS zs s then some (Lib.idxOfS zs s,ws) else none
def AP {α:Type} (enc:α→Value) (w:World) (B:Nat) (r:Option (α×List ByteArray)) (e:Ending) (w':World):Prop :=
 (match r with
  | some (a,ws)=>e = .returned (enc a)∧tH w' B ws
  | none=>e=CK)∧w.grownBy w' (some B)
theorem Su {w:World} {B:Nat} {ws:List ByteArray} (h:tH w B ws) (b:Nat) (zs:List ByteArray) (hz:zs.length≤5) (hl:AL w b zs) (hb:B<b) :
  Calls Tryz.prog 280 #[.pointer (some ⟨B,0,none⟩),.slice (some ⟨b,0,none⟩) zs.length zs.length] w (AP (fun k=>.int .u8 k) w B (tC zs ws)):=by
 match ws,h with
 | [],h=>exact(ajt h _).mono fun e w' ⟨h1,h2⟩=>⟨h1,h2▸World.grownBy.refl w _⟩
 | s::ws,h =>
  refine(ajs h b zs hz hl hb).mono fun e w' ⟨h1,h2⟩=>⟨?_,h2⟩
  rcases h1 with⟨h3,h4,h5⟩|⟨h3,h4⟩
  ·rw[tC,if_pos h3];exact⟨h4,h5⟩
  ·rw[tC,if_neg (by omega)];exact h4
theorem tH.alloc {w:World} {B:Nat} {ws:List ByteArray} (h:tH w B ws) (o:Obj):tH (w.alloc o) B ws:=h.kept (World.grownBy_alloc w o none) (by simp)
theorem tH.lt {w:World} {B:Nat} {ws:List ByteArray} (h:tH w B ws):B<w.heap.size:=by obtain⟨_,_,_,h1,_⟩:=h;exact h1.lt
def ul:List ByteArray:=[⟨#[98,49,54]⟩,⟨#[98,51,50]⟩,⟨#[98,54,52]⟩,⟨#[98,49,50,56]⟩]
def xI:List ByteArray:=[⟨#[105,51,50]⟩,⟨#[117,51,50]⟩,⟨#[105,54,52]⟩,⟨#[117,54,52]⟩]
theorem Sv (w:World) (zs:List ByteArray) (t:TypeId):AL (w.alloc (.cells (zs.map Value.string).toArray t)) w.heap.size zs:=by
 refine⟨by simp,fun j hj=>?_⟩
 have h:(w.alloc (.cells (zs.map Value.string).toArray t)).heap[w.heap.size]? = some (.cells (zs.map Value.string).toArray t):=World.alloc_heap_new _ _
 simp only[World.cell?,Nat.zero_add,h]
 simp[hj]
theorem Sw {α:Type} {enc:α→Value} {w w1 w':World} {B:Nat} {r:Option (α×List ByteArray)} {e:Ending} (h:AP enc w1 B r e w') (hg:w.grownBy w1 (some B)):AP enc w B r e w':=⟨h.1,grownBy_trans hg h.2⟩
theorem xY {w:World} {B:Nat} {ws:List ByteArray} (h:tH w B ws):Calls Tryz.prog 274 #[.pointer (some ⟨B,0,none⟩)] w (AP (fun k=>.int .u8 k) w B (tC ul ws)):=by
 have H:=Lib.hid (Su (h.alloc (.cells (ul.map Value.string).toArray 9)) w.heap.size ul (by decide) (Sv w ul _) h.lt)
 have hg0:w.grownBy (w.alloc (.cells (ul.map Value.string).toArray 9)) (some B):=World.grownBy_alloc _ _ _
 cases ho:tC ul ws with
 | none =>
  rw[ho] at H
  go_enter Tryz.func274,Tryz.ntmps274
  go_wp2_with (go_at_call 280;refine H.out.mono ?_;rintro e w1 ⟨rfl,hg⟩)
  exact uS ⟨rfl,grownBy_trans hg0 hg⟩
 | some r =>
  obtain⟨k,ws'⟩:=r
  rw[ho] at H
  go_enter Tryz.func274,Tryz.ntmps274
  go_wp2_with (go_at_call 280;refine H.out.mono ?_;rintro e w1 ⟨⟨rfl,hW⟩,hg⟩)
  go_ret
  exact⟨⟨rfl,hW⟩,grownBy_trans hg0 hg⟩
theorem FI {w:World} {B:Nat} {ws:List ByteArray} (h:tH w B ws):Calls Tryz.prog 277 #[.pointer (some ⟨B,0,none⟩)] w (AP (fun k=>.int .u8 k) w B (tC xI ws)):=by
 have H:=Lib.hid (Su (h.alloc (.cells (xI.map Value.string).toArray 9)) w.heap.size xI (by decide) (Sv w xI _) h.lt)
 have hg0:w.grownBy (w.alloc (.cells (xI.map Value.string).toArray 9)) (some B):=World.grownBy_alloc _ _ _
 cases ho:tC xI ws with
 | none =>
  rw[ho] at H
  go_enter Tryz.func277,Tryz.ntmps277
  go_wp2_with (go_at_call 280;refine H.out.mono ?_;rintro e w1 ⟨rfl,hg⟩)
  exact uS ⟨rfl,grownBy_trans hg0 hg⟩
 | some r =>
  obtain⟨k,ws'⟩:=r
  rw[ho] at H
  go_enter Tryz.func277,Tryz.ntmps277
  go_wp2_with (go_at_call 280;refine H.out.mono ?_;rintro e w1 ⟨⟨rfl,hW⟩,hg⟩)
  go_ret
  exact⟨⟨rfl,hW⟩,grownBy_trans hg0 hg⟩
open Go.RowKit Go.Shelf FlagM
open Go.Lib (grownBy_trans grownBy_below grownBy_allocR)
attribute [local go_sem] Oper.semAt_some
def FJ:ByteArray:=⟨#[48,49,50,51,52,53,54,55,56,57,97,98,99,100,101,102]⟩
def CL (c:UInt8):Int:=Lib.indexByte FJ.data.toList c
theorem Z9 (c:UInt8):(((c.toNat:Nat):Int).toNat).toUInt8=c:=by simp
def xh (b:Int×Int) (c:UInt8):Option (Int×Int):=if 0≤CL c then some (bits .or .u64 (IntKind.u64.wrap (b.1*16)) (b.2/1152921504606846976),bits .or .u64 (IntKind.u64.wrap (b.2*16)) (IntKind.u64.wrap (CL c))) else none
def aaa (ws:List ByteArray):Option (Int×Int)→Option ((Int×Int)×List ByteArray)
 | some b=>some (b,ws)
 | none=>none
def uT:List ByteArray→Option ((Int×Int)×List ByteArray)
 | []=>none
 | s::ws=>if s.size≤32 then aaa ws (s.data.toList.foldlM xh (0,0)) else none
abbrev xZ (b:Int×Int):Value:=.agg #[.int .u64 b.1,.int .u64 b.2]
theorem aju (w:World) (e:TypeId) (s:ByteArray) (row:Option Nat):w.grownBy (Lib.bytesWorld w e s) row :=
 ⟨rfl,by simp[Lib.bytesWorld,World.freeze],rfl,by rw[Lib.bytesWorld_size];omega,fun k hk _=>Lib.bytesWorld_at_old w e s k hk⟩
theorem set2 {w:World} {b:Nat} {a0 a1:Value} {t:TypeId} (h:w.heap[b]? = some (.cells #[a0,a1] t)) (v0 v1:Value):((w.setCell ⟨b,0,none⟩ v0).setCell ⟨b,1,none⟩ v1).heap[b]? = some (.cells #[v0,v1] t):=by
 have h1:(w.setCell ⟨b,0,none⟩ v0).heap[b]? = some (.cells #[v0,a1] t):=by
  show(w.heap.modify b _)[b]? = _
  rw[Array.getElem?_modify,if_pos rfl,h];rfl
 show((w.setCell ⟨b,0,none⟩ v0).heap.modify b _)[b]? = _
 rw[Array.getElem?_modify,if_pos rfl,h1];rfl
theorem tJ (w:World) (b i:Nat) (v:Value):w.grownBy (w.setCell ⟨b,i,none⟩ v) (some b) :=
 ⟨rfl,rfl,rfl,by show _≤(w.heap.modify b _).size;simp,fun k hk hne=>by
  show(w.heap.modify b _)[k]? = _
  rw[Array.getElem?_modify,if_neg (fun e=>hne (by rw[e]))]⟩
theorem Sy (w:World) (b:Nat) (v0 v1:Value):w.grownBy ((w.setCell ⟨b,0,none⟩ v0).setCell ⟨b,1,none⟩ v1) (some b) :=
 grownBy_trans (tJ _ _ _ _) (tJ _ _ _ _)
theorem FK {A X Y:World} {r:Option Nat} {n:Nat} (h1:A.grownBy X r) (h2:X.grownBy Y (some n)) (hn:A.heap.size≤n):A.grownBy Y r :=
 ⟨h2.os.trans h1.os,h2.tape.trans h1.tape,h2.output.trans h1.output,Nat.le_trans h1.size h2.size,fun k hk hne=>(h2.block k (Nat.lt_of_lt_of_le hk h1.size) (by simp;omega)).trans (h1.block k hk hne)⟩
theorem ajv (l:List UInt8) (k:Nat) (h:k<l.length) (b:Int×Int) (hb:(l.take k).foldlM xh (0,0)=some b):(l.take (k+1)).foldlM xh (0,0)=xh b (l.getD k 0):=by
 rw[List.take_succ_eq_append_getElem h,List.foldlM_append,hb]
 simp[h]
theorem ajw (l:List UInt8) (k:Nat) (h:(l.take k).foldlM xh (0,0)=none):l.foldlM xh (0,0)=none:=by
 have:=List.take_append_drop k l
 rw[← this,List.foldlM_append,h];rfl
theorem ajx {w:World} {B:Nat} {s:ByteArray} {ws:List ByteArray} (h:tH w B (s::ws)) (hs:s.size≤32) :
  Calls Tryz.prog 275 #[.pointer (some ⟨B,0,none⟩)] w (AP xZ w B (aaa ws (s.data.toList.foldlM xh (0,0)))):=by
 have hB:=h.lt
 have hlen:s.data.toList.length=s.size:=by show s.data.toList.length=s.data.size;exact Array.length_toList
 have H:=Lib.hid (Sr (h.alloc (.cells #[.int .u64 0,.int .u64 0] 27)))
 have hcv:∀ (w:World) (s:ByteArray),(convert 9 23 (.string s)).run Tryz.prog w = .ok (.slice (some ⟨w.heap.size,0,none⟩) s.size (grownCap w s.size 0 5)) (Lib.bytesWorld w 5 s):=fun w s=>Lib.run_convert_string_bytes w _ _ _ s Tryz.underlying9 Tryz.underlying23 Tryz.underlying5
 have hg00:w.grownBy (w.alloc (.cells #[.int .u64 0,.int .u64 0] 27)) (some B):=World.grownBy_alloc _ _ _
 generalize hFo:s.data.toList.foldlM xh (0,0)=fo
 have HFo:=Lib.hid hFo
 clear hFo
 go_enter Tryz.func275,Tryz.ntmps275
 go_wp2_with (first|(go_at_call 335;refine H.out.mono ?_;rintro e w1 ⟨rfl,hW,hg⟩)|(go_at_call 209;refine(Lp _ _ (by first|rfl|(simp;omega))).mono ?_;rintro e w3 ⟨⟨v,rfl⟩,rfl⟩))
 have hz:=hg.size
 simp at hz
 have hR:(w1.alloc (.cells #[.int .u64 0,.int .u64 0] 27)).heap[w1.heap.size]? = some (.cells #[.int .u64 0,.int .u64 0] 27):=World.alloc_heap_new _ _
 have hgb:=aju (w1.alloc (.cells #[.int .u64 0,.int .u64 0] 27)) 5 s none
 have hcb:=fun j hj=>Lib.bytesWorld_cell (w1.alloc (.cells #[.int .u64 0,.int .u64 0] 27)) 5 s j hj
 have hw2:(w1.alloc (.cells #[.int .u64 0,.int .u64 0] 27)).heap.size=w1.heap.size+1:=by simp
 have hgc:w1.grownBy (w1.alloc (.cells #[.int .u64 0,.int .u64 0] 27)) none:=World.grownBy_alloc _ _ _
 generalize w1.alloc (.cells #[.int .u64 0,.int .u64 0] 27)=w2 at *
 generalize Lib.bytesWorld w2 5 s=w3 at *
 have hzb:=hgb.size
 have hG3:w.grownBy w3 (some B):=grownBy_trans hg00 (grownBy_trans hg (grownBy_trans ⟨hgc.os,hgc.tape,hgc.output,hgc.size,fun k hk _=>hgc.block k hk (by simp)⟩ ⟨hgb.os,hgb.tape,hgb.output,hgb.size,fun k hk _=>hgb.block k hk (by simp)⟩))
 have hW3:tH w3 B ws:=(hW.kept hgc (by simp)).kept hgb (by simp)
 go_loopw [17] (fun i wr=>∃ k:Nat,k≤s.size∧i = .int .i64 (k:Int)∧∃ hi lo:Int,wr.heap[w1.heap.size]? = some (.cells #[.int .u64 hi,.int .u64 lo] 27)∧(s.data.toList.take k).foldlM xh (0,0)=some (hi,lo)∧w3.grownBy wr (some w1.heap.size)) (fun i _=>s.size-(intOf i).toNat)
 case atStart=>exact⟨0,Nat.zero_le _,rfl,0,0,(hgb.block _ (by omega) (by simp)).trans hR,rfl,World.grownBy.refl _ _⟩
 case round =>
  obtain⟨k,hk,rfl,hi,lo,hR1,hfo,hgr⟩:=hrel
  have c0:wr.cell? ⟨w1.heap.size,0,none⟩=some (.int .u64 hi):=by simp[World.cell?,hR1]
  have c1:wr.cell? ⟨w1.heap.size,1,none⟩=some (.int .u64 lo):=by simp[World.cell?,hR1]
  have HG:=Lib.hid (FK hG3 hgr (by omega))
  have HW:=Lib.hid (hW3.kept hgr (fun k e=>by have:=Option.some.inj e;omega))
  have HF:=Lib.hid hfo
  by_cases hlt:k<s.size
  ·have hcx:wr.cell? ⟨w1.heap.size+1,k,none⟩=some (.int .u8 ((s.data.toList.getD k 0).toNat:Int)):=by
    rw[← hw2]
    exact hgr.cell (hcb k hlt) (by simp;omega)
   have HS:=Lib.hid (ajv s.data.toList k (by omega) _ hfo)
   clear hfo
   generalize s.data.toList.getD k 0=x at hcx HS
   have q1:(k:Int)<(s.size:Int):=by omega
   have z0:wr.frozen? ⟨w1.heap.size,0,none⟩=false:=by simp[World.frozen?,hR1]
   have z1:wr.frozen? ⟨w1.heap.size,1,none⟩=false:=by simp[World.frozen?,hR1]
   have HIx:=Lib.hid (fun W=>Tryz.strings_IndexByte FJ (x.toNat:Int) W)
   by_cases hd:0≤CL x
   ·go_wp2_with (first|(go_at_call 336;refine(HIx.out _).mono ?_;rintro e w5 ⟨rfl,rfl⟩;rw[Z9];have hdx:Lib.indexByte FJ.data.toList x=CL x:=rfl;rw[hdx])|(go_at_call 209;refine(Lp _ _ (by first|rfl|(simp;omega))).mono ?_;rintro e w6 ⟨⟨v,rfl⟩,rfl⟩))
    refine⟨⟨k+1,by omega,by simp,_,_,set2 hR1 _ _,?_,grownBy_trans hgr (Sy _ _ _ _)⟩,by simp[intOf];omega⟩
    rw[HS.out,xh,if_pos hd]
   ·go_wp2_with (first|(go_at_call 336;refine(HIx.out _).mono ?_;rintro e w5 ⟨rfl,rfl⟩;rw[Z9];have hdx:Lib.indexByte FJ.data.toList x=CL x:=rfl;rw[hdx])|(go_at_call 209;refine(Jy _ _ (by first|rfl|(simp;omega))).mono ?_;rintro e w6 ⟨rfl,rfl⟩))
    refine uS ⟨?_,HG.out⟩
    have hn:fo=none:=by
     rw[← HFo.out]
     refine ajw _ (k+1) ?_
     rw[HS.out,xh,if_neg (by omega)]
    rw[hn]
    exact rfl
  ·obtain rfl:k=s.size:=by omega
   have hRw:wr.heap[w.heap.size]? = some (.cells #[.int .u64 0,.int .u64 0] 27):=by
    rw[hgr.block _ (by omega) (by simp;omega),hgb.block _ (by omega) (by simp),hgc.block _ (by omega) (by simp),hg.block _ (by simp) (by simp;omega)]
    exact World.alloc_heap_new _ _
   have d0:wr.frozen? ⟨w.heap.size,0,none⟩=false:=by simp[World.frozen?,hRw]
   have d1:wr.frozen? ⟨w.heap.size,1,none⟩=false:=by simp[World.frozen?,hRw]
   have e0:wr.cell? ⟨w.heap.size,0,none⟩=some (.int .u64 0):=by simp[World.cell?,hRw]
   have e1:wr.cell? ⟨w.heap.size,1,none⟩=some (.int .u64 0):=by simp[World.cell?,hRw]
   have hfin:fo=some (hi,lo):=by
    rw[← HFo.out,← HF.out,← hlen,List.take_length]
   have hset:=set2 hRw (.int .u64 hi) (.int .u64 lo)
   have hgs:=Sy wr w.heap.size (.int .u64 hi) (.int .u64 lo)
   go_wp2
   generalize (wr.setCell ⟨w.heap.size,0,none⟩ (.int .u64 hi)).setCell ⟨w.heap.size,1,none⟩ (.int .u64 lo)=W6 at *
   have f0:W6.cell? ⟨w.heap.size,0,none⟩=some (.int .u64 hi):=by simp[World.cell?,hset]
   have f1:W6.cell? ⟨w.heap.size,1,none⟩=some (.int .u64 lo):=by simp[World.cell?,hset]
   refine bodyPost_ret (v:=xZ (hi,lo)) (by simp[results,Tryz.results275,go_sem,f0,f1,xZ]) rfl ?_
   rw[hfin]
   exact⟨⟨rfl,HW.out.kept hgs (fun k e=>by have:=Option.some.inj e;omega)⟩,FK HG.out hgs (Nat.le_refl _)⟩
theorem Ae {w:World} {B:Nat} {ws:List ByteArray} (h:tH w B ws) :
  Calls Tryz.prog 275 #[.pointer (some ⟨B,0,none⟩)] w (AP xZ w B (uT ws)):=by
 match ws,h with
 | [],h =>
  have H:=Lib.hid (Z6 (h.alloc (.cells #[.int .u64 0,.int .u64 0] 27)))
  have hg0:w.grownBy (w.alloc (.cells #[.int .u64 0,.int .u64 0] 27)) (some B):=World.grownBy_alloc _ _ _
  go_enter Tryz.func275,Tryz.ntmps275
  go_wp2_with (go_at_call 335;refine H.out.mono ?_;rintro e w1 ⟨rfl,rfl⟩)
  exact uS ⟨rfl,hg0⟩
 | s::ws,h =>
  by_cases hs:s.size≤32
  ·rw[uT,if_pos hs];exact ajx h hs
  ·rw[uT,if_neg hs]
   have H:=Lib.hid (Sr (h.alloc (.cells #[.int .u64 0,.int .u64 0] 27)))
   have hg0:w.grownBy (w.alloc (.cells #[.int .u64 0,.int .u64 0] 27)) (some B):=World.grownBy_alloc _ _ _
   go_enter Tryz.func275,Tryz.ntmps275
   go_wp2_with (first|(go_at_call 335;refine H.out.mono ?_;rintro e w1 ⟨rfl,hW,hg⟩)|(go_at_call 209;refine(Jy _ _ (by simp;omega)).mono ?_;rintro e w3 ⟨rfl,rfl⟩))
   exact uS ⟨rfl,grownBy_trans hg0 hg⟩
open Go.RowKit Go.Shelf FlagM
open Go.Lib (grownBy_trans grownBy_below grownBy_allocR)
attribute [local go_sem] Oper.semAt_some
inductive sF where
 | op (o f t:Int) (a b c:Int×Int)
 | env (m t:Int)
 | clear
 | sticky
abbrev uG (o f t m i:Int) (a b c:Int×Int):Array Value:=#[.int .u8 o,.int .u8 f,.int .u8 t,.int .u8 m,.int .u8 i,.int .u64 a.1,.int .u64 a.2,.int .u64 b.1,.int .u64 b.2,.int .u64 c.1,.int .u64 c.2]
def zx (W:World) (a b:Nat) (v:Value):sF→Prop
 | .op o f t x y z=>∃ B,a≤B∧B<b∧v = .func (.func 333) #[] #[.pointer (some ⟨B,0,none⟩)]∧W.heap[B]? = some (.cells (uG o f t 0 0 x y z) 29)
 | .env m t=>∃ B1 B2 B3,a≤B1∧B1<b∧a≤B2∧B2<b∧a≤B3∧B3<b∧v = .func (.func 338) #[] #[.pointer (some ⟨B3,0,none⟩)]∧W.heap[B3]? = some (.cells #[.func (.func 282) #[] #[.pointer (some ⟨B1,0,none⟩),.pointer (some ⟨B2,0,none⟩)]] 348) ∧
   W.heap[B1]? = some (.cells #[.int .u8 m] 5)∧W.heap[B2]? = some (.cells #[.int .u8 t] 5)
 | .clear=>∃ B,a≤B∧B<b∧v = .func (.func 338) #[] #[.pointer (some ⟨B,0,none⟩)]∧W.heap[B]? = some (.cells #[.func (.func 284) #[] #[]] 348)
 | .sticky=>v = .func (.func 286) #[] #[]
theorem zx.kept {W X:World} {a b:Nat} {v:Value} {c:sF} (h:zx W a b v c) (hX:∀ k,a≤k→k<b→X.heap[k]? = W.heap[k]?):zx X a b v c:=by
 cases c with
 | op o f t x y z=>obtain⟨B,h1,h2,h3,h4⟩:=h;exact⟨B,h1,h2,h3,(hX B h1 h2).trans h4⟩
 | env m t=>obtain⟨B1,B2,B3,h1,h2,h3,h4,h5,h6,h7,h8,h9,h10⟩:=h;exact⟨B1,B2,B3,h1,h2,h3,h4,h5,h6,h7,(hX B3 h5 h6).trans h8,(hX B1 h1 h2).trans h9,(hX B2 h3 h4).trans h10⟩
 | clear=>obtain⟨B,h1,h2,h3,h4⟩:=h;exact⟨B,h1,h2,h3,(hX B h1 h2).trans h4⟩
 | sticky=>exact h
theorem zx.wide {W:World} {a b a' b':Nat} {v:Value} {c:sF} (h:zx W a b v c) (ha:a'≤a) (hb:b≤b'):zx W a' b' v c:=by
 cases c with
 | op o f t x y z=>obtain⟨B,h1,h2,h3,h4⟩:=h;exact⟨B,by omega,by omega,h3,h4⟩
 | env m t=>obtain⟨B1,B2,B3,h1,h2,h3,h4,h5,h6,h7,h8,h9,h10⟩:=h;exact⟨B1,B2,B3,by omega,by omega,by omega,by omega,by omega,by omega,h7,h8,h9,h10⟩
 | clear=>obtain⟨B,h1,h2,h3,h4⟩:=h;exact⟨B,by omega,by omega,h3,h4⟩
 | sticky=>exact h
def BF (w:World) (B:Nat) (r:Option (sF×List ByteArray)) (e:Ending) (w':World):Prop :=
 (match r with
  | some (c,ws)=>(∃ v,e = .returned v∧zx w' w.heap.size w'.heap.size v c)∧tH w' B ws
  | none=>e=CK)∧w.grownBy w' (some B)
theorem Oc (w:World) (o f t:Int) (a b c:Int×Int):Calls Tryz.prog 273 #[.agg (uG o f t 0 0 a b c)] w fun e w'=>e = .returned (.func (.func 333) #[] #[.pointer (some ⟨w.heap.size,0,none⟩)])∧w'=w.alloc (.cells (uG o f t 0 0 a b c) 29):=by
 go_enter Tryz.func273,Tryz.ntmps273
 go_wp2
 go_ret
 exact⟨rfl,rfl⟩
theorem aab (w:World) (f:Fn) (x y:Array Value):Calls Tryz.prog 281 #[.func f x y] w fun e w'=>e = .returned (.func (.func 338) #[] #[.pointer (some ⟨w.heap.size,0,none⟩)])∧w'=w.alloc (.cells #[.func f x y] 348):=by
 go_enter Tryz.func281,Tryz.ntmps281
 go_wp2
 go_ret
 exact⟨rfl,rfl⟩
theorem Od {w w1:World} {B:Nat} {ws:List ByteArray} (hg:w.grownBy w1 (some B)) (hW:tH w1 B ws) (o f t:Int) (a b c:Int×Int) :
  BF w B (some (.op o f t a b c,ws)) (.returned (.func (.func 333) #[] #[.pointer (some ⟨w1.heap.size,0,none⟩)])) (w1.alloc (.cells (uG o f t 0 0 a b c) 29)):=by
 have hs:=hg.size
 exact⟨⟨⟨_,rfl,w1.heap.size,hs,by simp,rfl,World.alloc_heap_new _ _⟩,hW.alloc _⟩,grownBy_allocR hg _⟩
def yE (ws:List ByteArray):Option (sF×List ByteArray) :=
 match tC ul ws with
 | none=>none
 | some (f,ws1) =>
  match tC ul ws1 with
  | none=>none
  | some (t,ws2) =>
   match uT ws2 with
   | none=>none
   | some (a,ws3) =>
    some (.op 10 f t a (0,0) (0,0),ws3)
theorem ajy {w:World} {B:Nat} {ws:List ByteArray} (h:tH w B ws):Calls Tryz.prog 272 #[.pointer (some ⟨B,0,none⟩)] w (BF w B (yE ws)):=by
 cases h1:tC ul ws with
 | none =>
  have H1:=xY h
  rw[h1] at H1
  have H1:=Lib.hid H1
  have hsp:yE ws=none:=by simp[yE,h1]
  go_enter Tryz.func272,Tryz.ntmps272
  go_wp2_with (first|(go_at_call 274;refine H1.out.mono ?_;rintro e w1 ⟨rfl,hg1⟩))
  refine uS ?_
  try rw[hsp]
  exact⟨rfl,hg1⟩
 | some r1 =>
  obtain⟨f,ws1⟩:=r1
  cases h2:tC ul ws1 with
  | none =>
   have H1:=xY h
   rw[h1] at H1
   have H1:=Lib.hid H1
   have hsp:yE ws=none:=by simp[yE,h1,h2]
   go_enter Tryz.func272,Tryz.ntmps272
   go_wp2_with (first|(go_at_call 274;refine H1.out.mono ?_;rintro e w1 ⟨⟨rfl,hW1⟩,hg1⟩;have H2:=xY hW1;rw[h2] at H2;have H2:=Lib.hid H2)|(go_at_call 274;refine H2.out.mono ?_;rintro e w2 ⟨rfl,hg2⟩))
   refine uS ?_
   try rw[hsp]
   exact⟨rfl,grownBy_trans (hg1) hg2⟩
  | some r2 =>
   obtain⟨t,ws2⟩:=r2
   cases h3:uT ws2 with
   | none =>
    have H1:=xY h
    rw[h1] at H1
    have H1:=Lib.hid H1
    have hsp:yE ws=none:=by simp[yE,h1,h2,h3]
    go_enter Tryz.func272,Tryz.ntmps272
    go_wp2_with (first|(go_at_call 274;refine H1.out.mono ?_;rintro e w1 ⟨⟨rfl,hW1⟩,hg1⟩;have H2:=xY hW1;rw[h2] at H2;have H2:=Lib.hid H2)|(go_at_call 274;refine H2.out.mono ?_;rintro e w2 ⟨⟨rfl,hW2⟩,hg2⟩;have H3:=Ae hW2;rw[h3] at H3;have H3:=Lib.hid H3)|(go_at_call 275;refine H3.out.mono ?_;rintro e w3 ⟨rfl,hg3⟩))
    refine uS ?_
    try rw[hsp]
    exact⟨rfl,grownBy_trans (grownBy_trans (hg1) hg2) hg3⟩
   | some r3 =>
    obtain⟨a,ws3⟩:=r3
    have H1:=xY h
    rw[h1] at H1
    have H1:=Lib.hid H1
    have hsp:yE ws=some (.op 10 f t a (0,0) (0,0),ws3):=by simp[yE,h1,h2,h3]
    go_enter Tryz.func272,Tryz.ntmps272
    go_wp2_with (first|(go_at_call 274;refine H1.out.mono ?_;rintro e w1 ⟨⟨rfl,hW1⟩,hg1⟩;have H2:=xY hW1;rw[h2] at H2;have H2:=Lib.hid H2)|(go_at_call 274;refine H2.out.mono ?_;rintro e w2 ⟨⟨rfl,hW2⟩,hg2⟩;have H3:=Ae hW2;rw[h3] at H3;have H3:=Lib.hid H3)|(go_at_call 275;refine H3.out.mono ?_;rintro e w3 ⟨⟨rfl,hW3⟩,hg3⟩)|(go_at_call 273;refine(Oc _ 10 f t a (0,0) (0,0)).mono ?_;rintro e w9 ⟨rfl,rfl⟩))
    go_ret
    try rw[hsp]
    exact Od (grownBy_trans (grownBy_trans (hg1) hg2) hg3) hW3 10 f t a (0,0) (0,0)
def yY (ws:List ByteArray):Option (sF×List ByteArray) :=
 match tC ul ws with
 | none=>none
 | some (f,ws1) =>
  match tC xI ws1 with
  | none=>none
  | some (t,ws2) =>
   match uT ws2 with
   | none=>none
   | some (a,ws3) =>
    some (.op 11 f t a (0,0) (0,0),ws3)
theorem ajz {w:World} {B:Nat} {ws:List ByteArray} (h:tH w B ws):Calls Tryz.prog 276 #[.pointer (some ⟨B,0,none⟩)] w (BF w B (yY ws)):=by
 cases h1:tC ul ws with
 | none =>
  have H1:=xY h
  rw[h1] at H1
  have H1:=Lib.hid H1
  have hsp:yY ws=none:=by simp[yY,h1]
  go_enter Tryz.func276,Tryz.ntmps276
  go_wp2_with (first|(go_at_call 274;refine H1.out.mono ?_;rintro e w1 ⟨rfl,hg1⟩))
  refine uS ?_
  try rw[hsp]
  exact⟨rfl,hg1⟩
 | some r1 =>
  obtain⟨f,ws1⟩:=r1
  cases h2:tC xI ws1 with
  | none =>
   have H1:=xY h
   rw[h1] at H1
   have H1:=Lib.hid H1
   have hsp:yY ws=none:=by simp[yY,h1,h2]
   go_enter Tryz.func276,Tryz.ntmps276
   go_wp2_with (first|(go_at_call 274;refine H1.out.mono ?_;rintro e w1 ⟨⟨rfl,hW1⟩,hg1⟩;have H2:=FI hW1;rw[h2] at H2;have H2:=Lib.hid H2)|(go_at_call 277;refine H2.out.mono ?_;rintro e w2 ⟨rfl,hg2⟩))
   refine uS ?_
   try rw[hsp]
   exact⟨rfl,grownBy_trans (hg1) hg2⟩
  | some r2 =>
   obtain⟨t,ws2⟩:=r2
   cases h3:uT ws2 with
   | none =>
    have H1:=xY h
    rw[h1] at H1
    have H1:=Lib.hid H1
    have hsp:yY ws=none:=by simp[yY,h1,h2,h3]
    go_enter Tryz.func276,Tryz.ntmps276
    go_wp2_with (first|(go_at_call 274;refine H1.out.mono ?_;rintro e w1 ⟨⟨rfl,hW1⟩,hg1⟩;have H2:=FI hW1;rw[h2] at H2;have H2:=Lib.hid H2)|(go_at_call 277;refine H2.out.mono ?_;rintro e w2 ⟨⟨rfl,hW2⟩,hg2⟩;have H3:=Ae hW2;rw[h3] at H3;have H3:=Lib.hid H3)|(go_at_call 275;refine H3.out.mono ?_;rintro e w3 ⟨rfl,hg3⟩))
    refine uS ?_
    try rw[hsp]
    exact⟨rfl,grownBy_trans (grownBy_trans (hg1) hg2) hg3⟩
   | some r3 =>
    obtain⟨a,ws3⟩:=r3
    have H1:=xY h
    rw[h1] at H1
    have H1:=Lib.hid H1
    have hsp:yY ws=some (.op 11 f t a (0,0) (0,0),ws3):=by simp[yY,h1,h2,h3]
    go_enter Tryz.func276,Tryz.ntmps276
    go_wp2_with (first|(go_at_call 274;refine H1.out.mono ?_;rintro e w1 ⟨⟨rfl,hW1⟩,hg1⟩;have H2:=FI hW1;rw[h2] at H2;have H2:=Lib.hid H2)|(go_at_call 277;refine H2.out.mono ?_;rintro e w2 ⟨⟨rfl,hW2⟩,hg2⟩;have H3:=Ae hW2;rw[h3] at H3;have H3:=Lib.hid H3)|(go_at_call 275;refine H3.out.mono ?_;rintro e w3 ⟨⟨rfl,hW3⟩,hg3⟩)|(go_at_call 273;refine(Oc _ 11 f t a (0,0) (0,0)).mono ?_;rintro e w9 ⟨rfl,rfl⟩))
    go_ret
    try rw[hsp]
    exact Od (grownBy_trans (grownBy_trans (hg1) hg2) hg3) hW3 11 f t a (0,0) (0,0)
def yZ (ws:List ByteArray):Option (sF×List ByteArray) :=
 match tC xI ws with
 | none=>none
 | some (t,ws1) =>
  match tC ul ws1 with
  | none=>none
  | some (f,ws2) =>
   match uT ws2 with
   | none=>none
   | some (a,ws3) =>
    some (.op 12 f t a (0,0) (0,0),ws3)
theorem ajA {w:World} {B:Nat} {ws:List ByteArray} (h:tH w B ws):Calls Tryz.prog 278 #[.pointer (some ⟨B,0,none⟩)] w (BF w B (yZ ws)):=by
 cases h1:tC xI ws with
 | none =>
  have H1:=FI h
  rw[h1] at H1
  have H1:=Lib.hid H1
  have hsp:yZ ws=none:=by simp[yZ,h1]
  go_enter Tryz.func278,Tryz.ntmps278
  go_wp2_with (first|(go_at_call 277;refine H1.out.mono ?_;rintro e w1 ⟨rfl,hg1⟩))
  refine uS ?_
  try rw[hsp]
  exact⟨rfl,hg1⟩
 | some r1 =>
  obtain⟨t,ws1⟩:=r1
  cases h2:tC ul ws1 with
  | none =>
   have H1:=FI h
   rw[h1] at H1
   have H1:=Lib.hid H1
   have hsp:yZ ws=none:=by simp[yZ,h1,h2]
   go_enter Tryz.func278,Tryz.ntmps278
   go_wp2_with (first|(go_at_call 277;refine H1.out.mono ?_;rintro e w1 ⟨⟨rfl,hW1⟩,hg1⟩;have H2:=xY hW1;rw[h2] at H2;have H2:=Lib.hid H2)|(go_at_call 274;refine H2.out.mono ?_;rintro e w2 ⟨rfl,hg2⟩))
   refine uS ?_
   try rw[hsp]
   exact⟨rfl,grownBy_trans (hg1) hg2⟩
  | some r2 =>
   obtain⟨f,ws2⟩:=r2
   cases h3:uT ws2 with
   | none =>
    have H1:=FI h
    rw[h1] at H1
    have H1:=Lib.hid H1
    have hsp:yZ ws=none:=by simp[yZ,h1,h2,h3]
    go_enter Tryz.func278,Tryz.ntmps278
    go_wp2_with (first|(go_at_call 277;refine H1.out.mono ?_;rintro e w1 ⟨⟨rfl,hW1⟩,hg1⟩;have H2:=xY hW1;rw[h2] at H2;have H2:=Lib.hid H2)|(go_at_call 274;refine H2.out.mono ?_;rintro e w2 ⟨⟨rfl,hW2⟩,hg2⟩;have H3:=Ae hW2;rw[h3] at H3;have H3:=Lib.hid H3)|(go_at_call 275;refine H3.out.mono ?_;rintro e w3 ⟨rfl,hg3⟩))
    refine uS ?_
    try rw[hsp]
    exact⟨rfl,grownBy_trans (grownBy_trans (hg1) hg2) hg3⟩
   | some r3 =>
    obtain⟨a,ws3⟩:=r3
    have H1:=FI h
    rw[h1] at H1
    have H1:=Lib.hid H1
    have hsp:yZ ws=some (.op 12 f t a (0,0) (0,0),ws3):=by simp[yZ,h1,h2,h3]
    go_enter Tryz.func278,Tryz.ntmps278
    go_wp2_with (first|(go_at_call 277;refine H1.out.mono ?_;rintro e w1 ⟨⟨rfl,hW1⟩,hg1⟩;have H2:=xY hW1;rw[h2] at H2;have H2:=Lib.hid H2)|(go_at_call 274;refine H2.out.mono ?_;rintro e w2 ⟨⟨rfl,hW2⟩,hg2⟩;have H3:=Ae hW2;rw[h3] at H3;have H3:=Lib.hid H3)|(go_at_call 275;refine H3.out.mono ?_;rintro e w3 ⟨⟨rfl,hW3⟩,hg3⟩)|(go_at_call 273;refine(Oc _ 12 f t a (0,0) (0,0)).mono ?_;rintro e w9 ⟨rfl,rfl⟩))
    go_ret
    try rw[hsp]
    exact Od (grownBy_trans (grownBy_trans (hg1) hg2) hg3) hW3 12 f t a (0,0) (0,0)
theorem ajB {w:World} {B:Nat} {ws:List ByteArray} (h:tH w B ws):Calls Tryz.prog 283 #[.pointer (some ⟨B,0,none⟩)] w (BF w B (some (.clear,ws))):=by
 go_enter Tryz.func283,Tryz.ntmps283
 go_wp2_with (go_at_call 281;refine(aab _ _ _ _).mono ?_;rintro e w9 ⟨rfl,rfl⟩)
 go_ret
 exact⟨⟨⟨_,rfl,w.heap.size,Nat.le_refl _,by simp,rfl,World.alloc_heap_new _ _⟩,h.alloc _⟩,World.grownBy_alloc _ _ _⟩
theorem ajC {w:World} {B:Nat} {ws:List ByteArray} (h:tH w B ws):Calls Tryz.prog 285 #[.pointer (some ⟨B,0,none⟩)] w (BF w B (some (.sticky,ws))):=by
 go_enter Tryz.func285,Tryz.ntmps285
 go_wp2
 go_ret
 exact⟨⟨⟨_,rfl,rfl⟩,h⟩,World.grownBy.refl _ _⟩
open Go.RowKit Go.Shelf FlagM
open Go.Lib (grownBy_trans grownBy_below grownBy_allocR)
attribute [local go_sem] Oper.semAt_some
def xJ:List ByteArray:=[⟨#[110,101,97,114]⟩,⟨#[97,119,97,121]⟩,⟨#[117,112]⟩,⟨#[100,111,119,110]⟩,⟨#[122,101,114,111]⟩]
def yG:List ByteArray:=[⟨#[98,101,102,111,114,101]⟩,⟨#[97,102,116,101,114]⟩]
def vg (ws:List ByteArray):Option (sF×List ByteArray) :=
 match tC xJ ws with
 | none=>none
 | some (m,ws1) =>
  match tC yG ws1 with
  | none=>none
  | some (t,ws2)=>some (.env m t,ws2)
theorem BG (w:World) (A O:Obj):((w.alloc A).alloc O).heap[w.heap.size+1]? = some O:=by
 have:=World.alloc_heap_new (w.alloc A) O
 rwa [show(w.alloc A).heap.size=w.heap.size+1 by simp] at this
theorem alloc_at {w:World} {b:Nat} {o:Obj} (h:w.heap[b]? = some o) (A:Obj):(w.alloc A).heap[b]? = some o:=(Below.heap_alloc w A b (Array.getElem?_eq_some_iff.1 h).1).trans h
theorem Lr {w:World} {B:Nat} {ws:List ByteArray} (h:tH w B ws) (zs:List ByteArray) (hz:zs.length≤5) :
  Calls Tryz.prog 280 #[.pointer (some ⟨B,0,none⟩),.slice (some ⟨w.heap.size,0,none⟩) zs.length zs.length] (w.alloc (.cells (zs.map Value.string).toArray 9)) (AP (fun k=>.int .u8 k) w B (tC zs ws)) :=
 (Su (h.alloc (.cells (zs.map Value.string).toArray 9)) w.heap.size zs hz (Sv w zs _) h.lt).mono fun e w' h'=>Sw h' (World.grownBy_alloc _ _ _)
theorem ajD {w:World} {B:Nat} {ws:List ByteArray} (h:tH w B ws):Calls Tryz.prog 279 #[.pointer (some ⟨B,0,none⟩)] w (BF w B (vg ws)):=by
 cases h1:tC xJ ws with
 | none =>
  have H1:=Lr h xJ (by decide)
  rw[h1] at H1
  simp only[xJ,yG,List.map_cons,List.map_nil,List.length_cons,List.length_nil,Nat.reduceAdd] at H1
  have H1:=Lib.hid H1
  have hsp:vg ws=none:=by simp[vg,h1]
  go_enter Tryz.func279,Tryz.ntmps279
  go_wp2_with (go_at_call 280;refine H1.out.mono ?_;rintro e w1 ⟨rfl,hg1⟩)
  refine uS ?_
  try rw[hsp]
  exact⟨rfl,hg1⟩
 | some r1 =>
  obtain⟨m,ws1⟩:=r1
  cases h2:tC yG ws1 with
  | none =>
   have H1:=Lr h xJ (by decide)
   rw[h1] at H1
   simp only[xJ,yG,List.map_cons,List.map_nil,List.length_cons,List.length_nil,Nat.reduceAdd] at H1
   have H1:=Lib.hid H1
   have hsp:vg ws=none:=by simp[vg,h1,h2]
   go_enter Tryz.func279,Tryz.ntmps279
   go_wp2_with (first|(go_at_call 280;refine H1.out.mono ?_;rintro e w1 ⟨⟨rfl,hW1⟩,hg1⟩;have H2:=Lr hW1 yG (by decide);rw[h2] at H2;simp only[xJ,yG,List.map_cons,List.map_nil,List.length_cons,List.length_nil,Nat.reduceAdd] at H2;have H2:=Lib.hid H2;clear H1)|(go_at_call 280;refine H2.out.mono ?_;rintro e w2 ⟨rfl,hg2⟩))
   refine uS ?_
   try rw[hsp]
   exact⟨rfl,grownBy_trans hg1 hg2⟩
  | some r2 =>
   obtain⟨t,ws2⟩:=r2
   have H1:=Lr h xJ (by decide)
   rw[h1] at H1
   simp only[xJ,yG,List.map_cons,List.map_nil,List.length_cons,List.length_nil,Nat.reduceAdd] at H1
   have H1:=Lib.hid H1
   have hsp:vg ws=some (.env m t,ws2):=by simp[vg,h1,h2]
   go_enter Tryz.func279,Tryz.ntmps279
   go_wp2_with (first|(go_at_call 280;refine H1.out.mono ?_;rintro e w1 ⟨⟨rfl,hW1⟩,hg1⟩;have H2:=Lr hW1 yG (by decide);rw[h2] at H2;simp only[xJ,yG,List.map_cons,List.map_nil,List.length_cons,List.length_nil,Nat.reduceAdd] at H2;have H2:=Lib.hid H2;clear H1)|(go_at_call 280;refine H2.out.mono ?_;rintro e w2 ⟨⟨rfl,hW2⟩,hg2⟩)|(go_at_call 281;refine(aab _ _ _ _).mono ?_;rintro e w9 ⟨rfl,rfl⟩))
   go_ret
   try rw[hsp]
   have hz:=(grownBy_trans hg1 hg2).size
   have k1:=World.alloc_heap_new w2 (.cells #[.int .u8 m] 5)
   have k2:=BG w2 (.cells #[.int .u8 m] 5) (.cells #[.int .u8 t] 5)
   refine⟨⟨⟨_,rfl,w2.heap.size,w2.heap.size+1,w2.heap.size+1+1,hz,by simp;omega,by omega,by simp,by omega,by simp,rfl,?_,?_,?_⟩,((hW2.alloc _).alloc _).alloc _⟩,grownBy_allocR (grownBy_allocR (grownBy_allocR (grownBy_trans hg1 hg2) _) _) _⟩
   ·have:=World.alloc_heap_new ((w2.alloc (.cells #[.int .u8 m] 5)).alloc (.cells #[.int .u8 t] 5)) (.cells #[.func (.func 282) #[] #[.pointer (some ⟨w2.heap.size,0,none⟩),.pointer (some ⟨w2.heap.size+1,0,none⟩)]] 348)
    rwa [show((w2.alloc (.cells #[.int .u8 m] 5)).alloc (.cells #[.int .u8 t] 5)).heap.size=w2.heap.size+1+1 by simp] at this
   ·exact alloc_at (alloc_at k1 _) _
   ·exact alloc_at k2 _
def uB:Nat→List ByteArray→Option (List (Int×Int)×List ByteArray)
 | 0,ws=>some ([],ws)
 | n+1,ws=>match uB n ws with
  | none=>none
  | some (l,ws1)=>match uT ws1 with
   | none=>none
   | some (a,ws2)=>some (l ++ [a],ws2)
def uH (o:Int) (n:Nat) (ws:List ByteArray):Option (sF×List ByteArray) :=
 match tC ul ws with
 | none=>none
 | some (f,ws1)=>match uB n ws1 with
  | none=>none
  | some (l,ws2)=>some (.op o f 0 (l[0]?.getD (0,0)) (l[1]?.getD (0,0)) (l[2]?.getD (0,0)),ws2)
theorem BH (w:World) (row:Option Nat):w.grownBy w.drew row:=⟨rfl,rfl,rfl,Nat.le_refl _,fun _ _ _=>rfl⟩
theorem tH.drew {w:World} {B:Nat} {ws:List ByteArray} (h:tH w B ws):tH w.drew B ws:=h.kept (BH w none) (by simp)
theorem aac {α:Type} {enc:α→Value} {w w':World} {B:Nat} {r:Option (α×List ByteArray)} {e:Ending} (h:AP enc w.drew B r e w'):AP enc w B r e w':=Sw h (BH w _)
theorem sU {w:World} {b i:Nat} {c:Array Value} {t:TypeId} (h:w.heap[b]? = some (.cells c t)) (v:Value):(w.setCell ⟨b,i,none⟩ v).heap[b]? = some (.cells (c.setIfInBounds i v) t):=by
 show(w.heap.modify b _)[b]? = _
 rw[Array.getElem?_modify,if_pos rfl,h]
 rfl
theorem ajE {w:World} {b:Nat} {a0 a1 a2 a3 a4 a5 a6 a7 a8 a9 a10:Value} {t:TypeId} (h:w.heap[b]? = some (.cells #[a0,a1,a2,a3,a4,a5,a6,a7,a8,a9,a10] t)) (v0 v1 v2 v3 v4 v5 v6 v7 v8 v9 v10:Value):(((((((((((w.setCell ⟨b,0,none⟩ v0).setCell ⟨b,1,none⟩ v1).setCell ⟨b,2,none⟩ v2).setCell ⟨b,3,none⟩ v3).setCell ⟨b,4,none⟩ v4).setCell ⟨b,5,none⟩ v5).setCell ⟨b,6,none⟩ v6).setCell ⟨b,7,none⟩ v7).setCell ⟨b,8,none⟩ v8).setCell ⟨b,9,none⟩ v9).setCell ⟨b,10,none⟩ v10).heap[b]? = some (.cells #[v0,v1,v2,v3,v4,v5,v6,v7,v8,v9,v10] t):=by
 have h0:=sU (i:=0) h v0
 simp only[List.setIfInBounds_toArray,List.set_cons_zero,List.set_cons_succ] at h0
 have h1:=sU (i:=1) h0 v1
 simp only[List.setIfInBounds_toArray,List.set_cons_zero,List.set_cons_succ] at h1
 have h2:=sU (i:=2) h1 v2
 simp only[List.setIfInBounds_toArray,List.set_cons_zero,List.set_cons_succ] at h2
 have h3:=sU (i:=3) h2 v3
 simp only[List.setIfInBounds_toArray,List.set_cons_zero,List.set_cons_succ] at h3
 have h4:=sU (i:=4) h3 v4
 simp only[List.setIfInBounds_toArray,List.set_cons_zero,List.set_cons_succ] at h4
 have h5:=sU (i:=5) h4 v5
 simp only[List.setIfInBounds_toArray,List.set_cons_zero,List.set_cons_succ] at h5
 have h6:=sU (i:=6) h5 v6
 simp only[List.setIfInBounds_toArray,List.set_cons_zero,List.set_cons_succ] at h6
 have h7:=sU (i:=7) h6 v7
 simp only[List.setIfInBounds_toArray,List.set_cons_zero,List.set_cons_succ] at h7
 have h8:=sU (i:=8) h7 v8
 simp only[List.setIfInBounds_toArray,List.set_cons_zero,List.set_cons_succ] at h8
 have h9:=sU (i:=9) h8 v9
 simp only[List.setIfInBounds_toArray,List.set_cons_zero,List.set_cons_succ] at h9
 have h10:=sU (i:=10) h9 v10
 simp only[List.setIfInBounds_toArray,List.set_cons_zero,List.set_cons_succ] at h10
 exact h10
theorem Sz (w:World) (b:Nat) (v0 v1 v2 v3 v4 v5 v6 v7 v8 v9 v10:Value):w.grownBy (((((((((((w.setCell ⟨b,0,none⟩ v0).setCell ⟨b,1,none⟩ v1).setCell ⟨b,2,none⟩ v2).setCell ⟨b,3,none⟩ v3).setCell ⟨b,4,none⟩ v4).setCell ⟨b,5,none⟩ v5).setCell ⟨b,6,none⟩ v6).setCell ⟨b,7,none⟩ v7).setCell ⟨b,8,none⟩ v8).setCell ⟨b,9,none⟩ v9).setCell ⟨b,10,none⟩ v10) (some b):=by
 have g0:=tJ w b 0 v0
 have g1:=grownBy_trans g0 (tJ _ b 1 v1)
 have g2:=grownBy_trans g1 (tJ _ b 2 v2)
 have g3:=grownBy_trans g2 (tJ _ b 3 v3)
 have g4:=grownBy_trans g3 (tJ _ b 4 v4)
 have g5:=grownBy_trans g4 (tJ _ b 5 v5)
 have g6:=grownBy_trans g5 (tJ _ b 6 v6)
 have g7:=grownBy_trans g6 (tJ _ b 7 v7)
 have g8:=grownBy_trans g7 (tJ _ b 8 v8)
 have g9:=grownBy_trans g8 (tJ _ b 9 v9)
 have g10:=grownBy_trans g9 (tJ _ b 10 v10)
 exact g10
def Made (w W:World) (B be bn:Nat) (o f:Int) (n:Nat) (ws:List ByteArray):Prop :=
 W.heap[be]? = some (.cells (uG o f 0 0 0 (0,0) (0,0) (0,0)) 29)∧tH W B ws∧w.grownBy W (some B)∧w.heap.size≤be∧W.heap[bn]? = some (.cells #[.int .i64 n] 3)
theorem ajF {w:World} {B:Nat} {ws:List ByteArray} (h:tH w B ws) (bo bn:Nat) (o:Int) (n:Nat) (hboB:bo≠B) (ho:w.heap[bo]? = some (.cells #[.int .u8 o] 5)) (hn:w.heap[bn]? = some (.cells #[.int .i64 n] 3)) (h1:tC ul ws=none) :
  Calls Tryz.prog 332 #[.pointer (some ⟨B,0,none⟩),.pointer (some ⟨bo,0,none⟩),.pointer (some ⟨bn,0,none⟩)] w fun e w'=>e=CK∧w.grownBy w' (some B):=by
 have H1:=(xY h.drew).mono fun e w' h'=>aac h'
 have H2:=(xY (h.alloc (.cells #[.int .u8 0,.int .u8 0,.int .u8 0,.int .u8 0,.int .u8 0,.int .u64 0,.int .u64 0,.int .u64 0,.int .u64 0,.int .u64 0,.int .u64 0] 29)).drew).mono fun e w' h'=>Sw (aac h') (World.grownBy_alloc w _ _)
 rw[h1] at H1 H2
 have H1:=Lib.hid H1
 have H2:=Lib.hid H2
 have c0:w.cell? ⟨bo,0,none⟩=some (.int .u8 o):=by simp[World.cell?,ho]
 have hS0:w.cell? ⟨bo,0,none⟩=some (.int .u8 o):=c0
 have hbo:bo<w.heap.size:=(Array.getElem?_eq_some_iff.1 ho).1
 have hg0:w.grownBy (w.alloc (.cells #[.int .u8 0,.int .u8 0,.int .u8 0,.int .u8 0,.int .u8 0,.int .u64 0,.int .u64 0,.int .u64 0,.int .u64 0,.int .u64 0,.int .u64 0] 29)) (some B):=World.grownBy_alloc _ _ _
 go_enter Tryz.func332,Tryz.ntmps332
 go_wp2_with fail
 refine wp_region_any (by kernel_rfl) ?_
 change wpAny _ _ _ _ _ _ _ (World.drew _)
 refine wpAny_take (i:=1) (v:=.pointer (some ⟨B,0,none⟩)) rfl (by kernel_rfl) (by kernel_rfl) (by kernel_rfl) (fun _ _ _ h=>h) (Or.inl ⟨by rfl,?_⟩) ?_
 ·intro w;go_simp
  try with_reducible rfl
 refine wpAny_ready (rs:=[0,2,4]) (by kernel_rfl) (by simp) ?_
 have c1:(w.alloc (.cells #[.int .u8 0,.int .u8 0,.int .u8 0,.int .u8 0,.int .u8 0,.int .u64 0,.int .u64 0,.int .u64 0,.int .u64 0,.int .u64 0,.int .u64 0] 29)).cell? ⟨bo,0,none⟩=some (.int .u8 o):=hg0.cell c0 (fun e=>hboB (Option.some.inj e))
 refine AllReady.cons rfl (fun K hK=>?_) (AllReady.cons rfl (fun K hK=>?_) (AllReady.cons rfl (fun K hK=>?_) AllReady.nil))
 ·go_simp
  refine hK _ _ ?_;clear hK K
  refine wpAny_ready (rs:=[2,4]) (by kernel_rfl) (by simp) ?_
  refine AllReady.cons rfl (fun K hK=>?_) (AllReady.cons rfl (fun K hK=>?_) AllReady.nil)
  ·go_simp
   refine H1.out.mono ?_;rintro e w1 ⟨rfl,hg1⟩;exact uS ⟨rfl,hg1⟩
  ·go_simp
   refine hK _ _ ?_;clear hK K
   refine wpAny_ready (rs:=[2]) (by kernel_rfl) (by simp) ?_
   refine AllReady.cons rfl (fun K hK=>?_) AllReady.nil
   go_simp
   refine H2.out.mono ?_;rintro e w1 ⟨rfl,hg1⟩;exact uS ⟨rfl,hg1⟩
 ·go_simp
  refine H1.out.mono ?_;rintro e w1 ⟨rfl,hg1⟩;exact uS ⟨rfl,hg1⟩
 ·go_simp
  refine hK _ _ ?_;clear hK K
  refine wpAny_ready (rs:=[0,2]) (by kernel_rfl) (by simp) ?_
  refine AllReady.cons rfl (fun K hK=>?_) (AllReady.cons rfl (fun K hK=>?_) AllReady.nil)
  ·go_simp
   refine hK _ _ ?_;clear hK K
   refine wpAny_ready (rs:=[2]) (by kernel_rfl) (by simp) ?_
   refine AllReady.cons rfl (fun K hK=>?_) AllReady.nil
   go_simp
   refine H2.out.mono ?_;rintro e w1 ⟨rfl,hg1⟩;exact uS ⟨rfl,hg1⟩
  ·go_simp
   refine H2.out.mono ?_;rintro e w1 ⟨rfl,hg1⟩;exact uS ⟨rfl,hg1⟩
open Go.RowKit Go.Shelf FlagM
open Go.Lib (grownBy_trans grownBy_below grownBy_allocR)
attribute [local go_sem] Oper.semAt_some
theorem aad {ws1:List ByteArray} {k:Nat} (h:uB k ws1=none):∀ j,uB (k+j) ws1=none
 | 0=>h
 | j+1=>by rw[show k+(j+1)=(k+j)+1 by omega,uB,aad h j]
theorem SA {ws1 ws2:List ByteArray} {k n:Nat} {l:List (Int×Int)} (h:uB k ws1=some (l,ws2)) (hb:uT ws2=none) (hk:k<n):uB n ws1=none:=by
 have:=aad (k:=k+1) (ws1:=ws1) (by rw[uB,h];simp[hb]) (n-(k+1))
 rwa [show k+1+(n-(k+1))=n by omega] at this
abbrev gB (l:List (Int×Int)) (i:Nat):Int×Int:=l[i]?.getD (0,0)
theorem ajG {w : World} {B : Nat} {ws : List ByteArray} (h : tH w B ws) (bo bn : Nat) (o f : Int) (n : Nat) (ws1 : List ByteArray) (hn3 : n ≤ 3) (hboB : bo ≠ B) (hbnB : bn ≠ B) (ho : w.heap[bo]? = some (.cells #[.int .u8 o] 5)) (hn : w.heap[bn]? = some (.cells #[.int .i64 n] 3)) (h1 : tC ul ws = some (f, ws1)) :
    Calls Tryz.prog 332 #[.pointer (some ⟨B, 0, none⟩), .pointer (some ⟨bo, 0, none⟩), .pointer (some ⟨bn, 0, none⟩)] w (BF w B (uH o n ws)) := by
  have HF : ∀ W, w.grownBy W none → Calls Tryz.prog 274 #[.pointer (some ⟨B, 0, none⟩)] W (AP (fun k => .int .u8 k) W B (some (f, ws1))) := fun W hW => by
    have := xY (h.kept hW (by simp))
    rwa [h1] at this
  have HF := Lib.hid HF
  have c0 : w.cell? ⟨bo, 0, none⟩ = some (.int .u8 o) := by simp [World.cell?, ho]
  have hbnL : bn < w.heap.size := (Array.getElem?_eq_some_iff.1 hn).1
  have hbo : bo < w.heap.size := (Array.getElem?_eq_some_iff.1 ho).1
  have hBw : B < w.heap.size := h.lt
  have hg0 : w.grownBy (w.alloc (.cells #[.int .u8 0, .int .u8 0, .int .u8 0, .int .u8 0, .int .u8 0, .int .u64 0, .int .u64 0, .int .u64 0, .int .u64 0, .int .u64 0, .int .u64 0] 29)) (some B) := World.grownBy_alloc _ _ _
  have c1 : (w.alloc (.cells #[.int .u8 0, .int .u8 0, .int .u8 0, .int .u8 0, .int .u8 0, .int .u64 0, .int .u64 0, .int .u64 0, .int .u64 0, .int .u64 0, .int .u64 0] 29)).cell? ⟨bo, 0, none⟩ = some (.int .u8 o) := hg0.cell c0 (fun e => hboB (Option.some.inj e))
  go_enter Tryz.func332, Tryz.ntmps332
  go_wp2_with fail
  refine Code.wp_mono (Q := fun e a W => match e with
    | .normal => ∃ be, Made w W B be bn o f n ws1 ∧ a = { tmps := #[.pointer (some ⟨B, 0, none⟩), .pointer (some ⟨bo, 0, none⟩), .pointer (some ⟨bn, 0, none⟩), undef, .nilFunc, .pointer (some ⟨be, 0, none⟩), undef, undef, .int .u8 o, .pointer (some ⟨B, 0, none⟩), .int .u8 f, .agg (uG o f 0 0 0 (0, 0) (0, 0) (0, 0)), undef, undef, undef, undef, undef, undef, undef, undef, undef, undef, undef, undef, undef, undef, undef, undef, undef, undef, undef], defers := [] }
    | _ => False) ?hmono ?hreg
  case hreg =>
    go_region_with (first | (go_at_call 274; refine (HF.out _ (by first | exact BH _ _ | exact grownBy_trans (World.grownBy_alloc _ _ _) (BH _ _))).mono ?_; rintro e w1 ⟨⟨rfl, hW1⟩, hg1⟩; have hg2 : w.grownBy w1 (some B) := (by first | exact grownBy_trans (BH _ _) hg1 | exact grownBy_trans (World.grownBy_alloc _ _ _) (grownBy_trans (BH _ _) hg1)); have c2 : w1.cell? ⟨bo, 0, none⟩ = some (.int .u8 o) := hg2.cell c0 (fun e => hboB (Option.some.inj e)); have c3 : (w1.alloc (.cells #[.int .u8 0, .int .u8 0, .int .u8 0, .int .u8 0, .int .u8 0, .int .u64 0, .int .u64 0, .int .u64 0, .int .u64 0, .int .u64 0, .int .u64 0] 29)).cell? ⟨bo, 0, none⟩ = some (.int .u8 o) := (World.grownBy_alloc w1 (.cells #[.int .u8 0, .int .u8 0, .int .u8 0, .int .u8 0, .int .u8 0, .int .u64 0, .int .u64 0, .int .u64 0, .int .u64 0, .int .u64 0, .int .u64 0] 29) none).cell c2 (fun e => by cases e); first | (have hE : w1.heap[w.heap.size]? = some (.cells #[.int .u8 0, .int .u8 0, .int .u8 0, .int .u8 0, .int .u8 0, .int .u64 0, .int .u64 0, .int .u64 0, .int .u64 0, .int .u64 0, .int .u64 0] 29) := (hg1.block _ (by simp) (fun e => by have := Option.some.inj e; omega)).trans (World.alloc_heap_new _ _); have z0 : w1.frozen? ⟨w.heap.size, 0, none⟩ = false := (by simp [World.frozen?, hE]); have z1 : w1.frozen? ⟨w.heap.size, 1, none⟩ = false := (by simp [World.frozen?, hE]); have z2 : w1.frozen? ⟨w.heap.size, 2, none⟩ = false := (by simp [World.frozen?, hE]); have z3 : w1.frozen? ⟨w.heap.size, 3, none⟩ = false := (by simp [World.frozen?, hE]); have z4 : w1.frozen? ⟨w.heap.size, 4, none⟩ = false := (by simp [World.frozen?, hE]); have z5 : w1.frozen? ⟨w.heap.size, 5, none⟩ = false := (by simp [World.frozen?, hE]); have z6 : w1.frozen? ⟨w.heap.size, 6, none⟩ = false := (by simp [World.frozen?, hE]); have z7 : w1.frozen? ⟨w.heap.size, 7, none⟩ = false := (by simp [World.frozen?, hE]); have z8 : w1.frozen? ⟨w.heap.size, 8, none⟩ = false := (by simp [World.frozen?, hE]); have z9 : w1.frozen? ⟨w.heap.size, 9, none⟩ = false := (by simp [World.frozen?, hE]); have z10 : w1.frozen? ⟨w.heap.size, 10, none⟩ = false := (by simp [World.frozen?, hE]); have y0 : w1.cell? ⟨w.heap.size, 0, none⟩ = some (.int .u8 0) := (by simp [World.cell?, hE]); have y1 : w1.cell? ⟨w.heap.size, 1, none⟩ = some (.int .u8 0) := (by simp [World.cell?, hE]); have y2 : w1.cell? ⟨w.heap.size, 2, none⟩ = some (.int .u8 0) := (by simp [World.cell?, hE]); have y3 : w1.cell? ⟨w.heap.size, 3, none⟩ = some (.int .u8 0) := (by simp [World.cell?, hE]); have y4 : w1.cell? ⟨w.heap.size, 4, none⟩ = some (.int .u8 0) := (by simp [World.cell?, hE]); have y5 : w1.cell? ⟨w.heap.size, 5, none⟩ = some (.int .u64 0) := (by simp [World.cell?, hE]); have y6 : w1.cell? ⟨w.heap.size, 6, none⟩ = some (.int .u64 0) := (by simp [World.cell?, hE]); have y7 : w1.cell? ⟨w.heap.size, 7, none⟩ = some (.int .u64 0) := (by simp [World.cell?, hE]); have y8 : w1.cell? ⟨w.heap.size, 8, none⟩ = some (.int .u64 0) := (by simp [World.cell?, hE]); have y9 : w1.cell? ⟨w.heap.size, 9, none⟩ = some (.int .u64 0) := (by simp [World.cell?, hE]); have y10 : w1.cell? ⟨w.heap.size, 10, none⟩ = some (.int .u64 0) := (by simp [World.cell?, hE])) | skip))
    all_goals first
      | (have F : Made w (w1.alloc (.cells #[.int .u8 o, .int .u8 f, .int .u8 0, .int .u8 0, .int .u8 0, .int .u64 0, .int .u64 0, .int .u64 0, .int .u64 0, .int .u64 0, .int .u64 0] 29)) B w1.heap.size bn o f n ws1 := ⟨World.alloc_heap_new _ _, hW1.alloc _, grownBy_allocR (by exact hg2) _, (by exact hg2.size), ((grownBy_allocR (by exact hg2) _ : w.grownBy (w1.alloc _) (some B)).block _ hbnL (fun e => hbnB (Option.some.inj e))).trans hn⟩
         refine ⟨_, (by with_reducible exact F), ?_⟩
         rfl)
      | (have F : Made w (((((((((((w1.setCell ⟨w.heap.size, 0, none⟩ (.int .u8 o)).setCell ⟨w.heap.size, 1, none⟩ (.int .u8 f)).setCell ⟨w.heap.size, 2, none⟩ (.int .u8 0)).setCell ⟨w.heap.size, 3, none⟩ (.int .u8 0)).setCell ⟨w.heap.size, 4, none⟩ (.int .u8 0)).setCell ⟨w.heap.size, 5, none⟩ (.int .u64 0)).setCell ⟨w.heap.size, 6, none⟩ (.int .u64 0)).setCell ⟨w.heap.size, 7, none⟩ (.int .u64 0)).setCell ⟨w.heap.size, 8, none⟩ (.int .u64 0)).setCell ⟨w.heap.size, 9, none⟩ (.int .u64 0)).setCell ⟨w.heap.size, 10, none⟩ (.int .u64 0)) B w.heap.size bn o f n ws1 := ⟨ajE hE _ _ _ _ _ _ _ _ _ _ _, hW1.kept (Sz w1 w.heap.size _ _ _ _ _ _ _ _ _ _ _) (fun k e => by have := Option.some.inj e; omega), FK hg2 (Sz w1 w.heap.size _ _ _ _ _ _ _ _ _ _ _) (Nat.le_refl _), Nat.le_refl _, ((FK hg2 (Sz w1 w.heap.size _ _ _ _ _ _ _ _ _ _ _) (Nat.le_refl _)).block _ hbnL (fun e => hbnB (Option.some.inj e))).trans hn⟩
         refine ⟨_, (by with_reducible exact F), ?_⟩
         rfl)
  case hmono =>
    intro e a W hq
    cases e <;> first | exact hq.elim | skip
    obtain ⟨be, F, rfl⟩ := hq
    obtain ⟨f1, f2, f3, f4, f5⟩ := F
    have c5 : W.cell? ⟨bn, 0, none⟩ = some (.int .i64 n) := by simp [World.cell?, f5]
    have q0 : (n : Int) ≤ 3 := by omega
    have q1 : (0 : Int) ≤ (n : Int) := by omega
    have c7 : (W.alloc (.cells #[.pointer (some ⟨be, 5, none⟩), .pointer (some ⟨be, 7, none⟩), .pointer (some ⟨be, 9, none⟩)] 395)).cell? ⟨bn, 0, none⟩ = some (.int .i64 n) := (World.grownBy_alloc W _ none).cell c5 (fun e => by cases e)
    have hbeL : be < W.heap.size := (Array.getElem?_eq_some_iff.1 f1).1
    have hR := World.alloc_heap_new W (.cells #[.pointer (some ⟨be, 5, none⟩), .pointer (some ⟨be, 7, none⟩), .pointer (some ⟨be, 9, none⟩)] 395)
    have hF1 : (W.alloc (.cells #[.pointer (some ⟨be, 5, none⟩), .pointer (some ⟨be, 7, none⟩), .pointer (some ⟨be, 9, none⟩)] 395)).heap[be]? = _ := alloc_at f1 _
    have hF2 := f2.alloc (.cells #[.pointer (some ⟨be, 5, none⟩), .pointer (some ⟨be, 7, none⟩), .pointer (some ⟨be, 9, none⟩)] 395)
    have hF3 := grownBy_allocR f3 (.cells #[.pointer (some ⟨be, 5, none⟩), .pointer (some ⟨be, 7, none⟩), .pointer (some ⟨be, 9, none⟩)] 395)
    show Exit.then _ _ Exit.normal _ _
    go_wp2
    generalize W.alloc (.cells #[.pointer (some ⟨be, 5, none⟩), .pointer (some ⟨be, 7, none⟩), .pointer (some ⟨be, 9, none⟩)] 395) = W2 at *
    generalize W.heap.size = rb at *
    go_loopw [20] (fun i wr => ∃ k : Nat, k ≤ n ∧ i = .int .i64 (k : Int) ∧ ∃ l ws2, uB k ws1 = some (l, ws2) ∧ l.length = k ∧ wr.heap[be]? = some (.cells (uG o f 0 0 0 (gB l 0) (gB l 1) (gB l 2)) 29) ∧ tH wr B ws2 ∧ w.grownBy wr (some B) ∧ wr.heap[rb]? = some (.cells #[.pointer (some ⟨be, 5, none⟩), .pointer (some ⟨be, 7, none⟩), .pointer (some ⟨be, 9, none⟩)] 395)) (fun i _ => n - (intOf i).toNat)
    case atStart => exact ⟨0, Nat.zero_le _, rfl, [], ws1, rfl, rfl, hF1, hF2, hF3, hR⟩
    case round =>
      obtain ⟨k, hk, rfl, l, ws2, hbn, hll, hEn, hWS, hgr, hRow⟩ := hrel
      have hBe : B < w.heap.size := hBw
      have f4' := f4
      have hbeB : be ≠ B := by omega
      have hbeR : be < wr.heap.size := (Array.getElem?_eq_some_iff.1 hEn).1
      have hrbR : rb < wr.heap.size := (Array.getElem?_eq_some_iff.1 hRow).1
      by_cases hlt : k < n
      · have q2 : (k : Int) < (n : Int) := by omega
        have hk3 : k = 0 ∨ k = 1 ∨ k = 2 := by omega
        rcases hk3 with rfl | rfl | rfl
        · match l, hll with
          | [], _ =>
          have r0 : wr.cell? ⟨rb, 0, none⟩ = some (.pointer (some ⟨be, 5, none⟩)) := by simp [World.cell?, hRow]
          cases hb : uT ws2 with
          | none =>
            have HB := Ae hWS
            rw [hb] at HB
            have HB := Lib.hid HB
            have hsp : uH o n ws = none := by simp [uH, h1, SA hbn hb hlt]
            go_wp2_with (first | (go_at_call 275; refine HB.out.mono ?_; rintro e w3 ⟨rfl, hg3⟩))
            refine uS ?_
            try rw [hsp]
            exact ⟨rfl, grownBy_trans hgr hg3⟩
          | some r =>
            obtain ⟨a, ws3⟩ := r
            have HB := Ae hWS
            rw [hb] at HB
            have HB := Lib.hid HB
            go_wp2_with (first | (go_at_call 275; refine HB.out.mono ?_; rintro e w3 ⟨⟨rfl, hW3⟩, hg3⟩; have hE3 := (hg3.block _ hbeR (fun e => hbeB (Option.some.inj e))).trans hEn; have z5 : w3.frozen? ⟨be, 5, none⟩ = false := (by simp [World.frozen?, hE3]); have z6 : w3.frozen? ⟨be, 6, none⟩ = false := (by simp [World.frozen?, hE3]); have y5 : w3.cell? ⟨be, 5, none⟩ = some (.int .u64 (gB [] 0).1) := (by simp [World.cell?, hE3]); have y6 : w3.cell? ⟨be, 6, none⟩ = some (.int .u64 (gB [] 0).2) := (by simp [World.cell?, hE3])))
            have hS1 := sU (i := 5) hE3 (.int .u64 a.1)
            simp only [List.setIfInBounds_toArray, List.set_cons_zero, List.set_cons_succ] at hS1
            have hS2 := sU (i := 6) hS1 (.int .u64 a.2)
            simp only [List.setIfInBounds_toArray, List.set_cons_zero, List.set_cons_succ] at hS2
            have hgs := grownBy_trans (tJ w3 be 5 (.int .u64 a.1)) (tJ _ be 6 (.int .u64 a.2))
            refine ⟨⟨1, by omega, by simp, [] ++ [a], ws3, by rw [uB, hbn]; simp [hb], rfl, (by first | exact hS2 | simpa [gB] using hS2), hW3.kept hgs (fun k e => by have := Option.some.inj e; omega), FK (grownBy_trans hgr hg3) hgs f4, ?_⟩, by simp [intOf]; omega⟩
            rw [hgs.block _ (Nat.lt_of_lt_of_le hrbR hg3.size) (fun e => by have := Option.some.inj e; omega), hg3.block _ hrbR (fun e => by have := Option.some.inj e; omega)]
            exact hRow
        · match l, hll with
          | [a0], _ =>
          have r0 : wr.cell? ⟨rb, 1, none⟩ = some (.pointer (some ⟨be, 7, none⟩)) := by simp [World.cell?, hRow]
          cases hb : uT ws2 with
          | none =>
            have HB := Ae hWS
            rw [hb] at HB
            have HB := Lib.hid HB
            have hsp : uH o n ws = none := by simp [uH, h1, SA hbn hb hlt]
            go_wp2_with (first | (go_at_call 275; refine HB.out.mono ?_; rintro e w3 ⟨rfl, hg3⟩))
            refine uS ?_
            try rw [hsp]
            exact ⟨rfl, grownBy_trans hgr hg3⟩
          | some r =>
            obtain ⟨a, ws3⟩ := r
            have HB := Ae hWS
            rw [hb] at HB
            have HB := Lib.hid HB
            go_wp2_with (first | (go_at_call 275; refine HB.out.mono ?_; rintro e w3 ⟨⟨rfl, hW3⟩, hg3⟩; have hE3 := (hg3.block _ hbeR (fun e => hbeB (Option.some.inj e))).trans hEn; have z5 : w3.frozen? ⟨be, 7, none⟩ = false := (by simp [World.frozen?, hE3]); have z6 : w3.frozen? ⟨be, 8, none⟩ = false := (by simp [World.frozen?, hE3]); have y5 : w3.cell? ⟨be, 7, none⟩ = some (.int .u64 (gB [a0] 1).1) := (by simp [World.cell?, hE3]); have y6 : w3.cell? ⟨be, 8, none⟩ = some (.int .u64 (gB [a0] 1).2) := (by simp [World.cell?, hE3])))
            have hS1 := sU (i := 7) hE3 (.int .u64 a.1)
            simp only [List.setIfInBounds_toArray, List.set_cons_zero, List.set_cons_succ] at hS1
            have hS2 := sU (i := 8) hS1 (.int .u64 a.2)
            simp only [List.setIfInBounds_toArray, List.set_cons_zero, List.set_cons_succ] at hS2
            have hgs := grownBy_trans (tJ w3 be 7 (.int .u64 a.1)) (tJ _ be 8 (.int .u64 a.2))
            refine ⟨⟨2, by omega, by simp, [a0] ++ [a], ws3, by rw [uB, hbn]; simp [hb], rfl, (by first | exact hS2 | simpa [gB] using hS2), hW3.kept hgs (fun k e => by have := Option.some.inj e; omega), FK (grownBy_trans hgr hg3) hgs f4, ?_⟩, by simp [intOf]; omega⟩
            rw [hgs.block _ (Nat.lt_of_lt_of_le hrbR hg3.size) (fun e => by have := Option.some.inj e; omega), hg3.block _ hrbR (fun e => by have := Option.some.inj e; omega)]
            exact hRow
        · match l, hll with
          | [a0, a1], _ =>
          have r0 : wr.cell? ⟨rb, 2, none⟩ = some (.pointer (some ⟨be, 9, none⟩)) := by simp [World.cell?, hRow]
          cases hb : uT ws2 with
          | none =>
            have HB := Ae hWS
            rw [hb] at HB
            have HB := Lib.hid HB
            have hsp : uH o n ws = none := by simp [uH, h1, SA hbn hb hlt]
            go_wp2_with (first | (go_at_call 275; refine HB.out.mono ?_; rintro e w3 ⟨rfl, hg3⟩))
            refine uS ?_
            try rw [hsp]
            exact ⟨rfl, grownBy_trans hgr hg3⟩
          | some r =>
            obtain ⟨a, ws3⟩ := r
            have HB := Ae hWS
            rw [hb] at HB
            have HB := Lib.hid HB
            go_wp2_with (first | (go_at_call 275; refine HB.out.mono ?_; rintro e w3 ⟨⟨rfl, hW3⟩, hg3⟩; have hE3 := (hg3.block _ hbeR (fun e => hbeB (Option.some.inj e))).trans hEn; have z5 : w3.frozen? ⟨be, 9, none⟩ = false := (by simp [World.frozen?, hE3]); have z6 : w3.frozen? ⟨be, 10, none⟩ = false := (by simp [World.frozen?, hE3]); have y5 : w3.cell? ⟨be, 9, none⟩ = some (.int .u64 (gB [a0, a1] 2).1) := (by simp [World.cell?, hE3]); have y6 : w3.cell? ⟨be, 10, none⟩ = some (.int .u64 (gB [a0, a1] 2).2) := (by simp [World.cell?, hE3])))
            have hS1 := sU (i := 9) hE3 (.int .u64 a.1)
            simp only [List.setIfInBounds_toArray, List.set_cons_zero, List.set_cons_succ] at hS1
            have hS2 := sU (i := 10) hS1 (.int .u64 a.2)
            simp only [List.setIfInBounds_toArray, List.set_cons_zero, List.set_cons_succ] at hS2
            have hgs := grownBy_trans (tJ w3 be 9 (.int .u64 a.1)) (tJ _ be 10 (.int .u64 a.2))
            refine ⟨⟨3, by omega, by simp, [a0, a1] ++ [a], ws3, by rw [uB, hbn]; simp [hb], rfl, (by first | exact hS2 | simpa [gB] using hS2), hW3.kept hgs (fun k e => by have := Option.some.inj e; omega), FK (grownBy_trans hgr hg3) hgs f4, ?_⟩, by simp [intOf]; omega⟩
            rw [hgs.block _ (Nat.lt_of_lt_of_le hrbR hg3.size) (fun e => by have := Option.some.inj e; omega), hg3.block _ hrbR (fun e => by have := Option.some.inj e; omega)]
            exact hRow
      · obtain rfl : k = n := by omega
        have q2 : ¬ (k : Int) < (k : Int) := by omega
        have hsp : uH o k ws = some (.op o f 0 (gB l 0) (gB l 1) (gB l 2), ws2) := by simp [uH, h1, hbn]
        have e0 : wr.cell? ⟨be, 0, none⟩ = some (.int .u8 o) := by simp [World.cell?, hEn]
        have e1 : wr.cell? ⟨be, 1, none⟩ = some (.int .u8 f) := by simp [World.cell?, hEn]
        have e2 : wr.cell? ⟨be, 2, none⟩ = some (.int .u8 0) := by simp [World.cell?, hEn]
        have e3 : wr.cell? ⟨be, 3, none⟩ = some (.int .u8 0) := by simp [World.cell?, hEn]
        have e4 : wr.cell? ⟨be, 4, none⟩ = some (.int .u8 0) := by simp [World.cell?, hEn]
        have e5 : wr.cell? ⟨be, 5, none⟩ = some (.int .u64 (gB l 0).1) := by simp [World.cell?, hEn]
        have e6 : wr.cell? ⟨be, 6, none⟩ = some (.int .u64 (gB l 0).2) := by simp [World.cell?, hEn]
        have e7 : wr.cell? ⟨be, 7, none⟩ = some (.int .u64 (gB l 1).1) := by simp [World.cell?, hEn]
        have e8 : wr.cell? ⟨be, 8, none⟩ = some (.int .u64 (gB l 1).2) := by simp [World.cell?, hEn]
        have e9 : wr.cell? ⟨be, 9, none⟩ = some (.int .u64 (gB l 2).1) := by simp [World.cell?, hEn]
        have e10 : wr.cell? ⟨be, 10, none⟩ = some (.int .u64 (gB l 2).2) := by simp [World.cell?, hEn]
        have HH := Lib.hid (Od hgr hWS o f 0 (gB l 0) (gB l 1) (gB l 2))
        generalize gB l 0 = x0 at *
        generalize gB l 1 = x1 at *
        generalize gB l 2 = x2 at *
        go_wp2_with (go_at_call 273; refine (Oc _ o f 0 x0 x1 x2).mono ?_; rintro e w9 ⟨rfl, rfl⟩)
        go_ret
        try rw [hsp]
        exact HH.out
theorem ajH {w:World} {B:Nat} {ws:List ByteArray} (h:tH w B ws) (bo bn:Nat) (o:Int) (n:Nat) (hn3:n≤3) (hboB:bo≠B) (hbnB:bn≠B) (ho:w.heap[bo]? = some (.cells #[.int .u8 o] 5)) (hn:w.heap[bn]? = some (.cells #[.int .i64 n] 3)) :
  Calls Tryz.prog 332 #[.pointer (some ⟨B,0,none⟩),.pointer (some ⟨bo,0,none⟩),.pointer (some ⟨bn,0,none⟩)] w (BF w B (uH o n ws)):=by
 cases h1:tC ul ws with
 | none =>
  refine(ajF h bo bn o n hboB ho hn h1).mono fun e w' ⟨h2,h3⟩=>?_
  have hsp:uH o n ws=none:=by simp[uH,h1]
  rw[hsp]
  exact⟨h2,h3⟩
 | some r =>
  obtain⟨f,ws1⟩:=r
  exact ajG h bo bn o f n ws1 hn3 hboB hbnB ho hn h1
open Go.RowKit Go.Shelf FlagM
open Go.Lib (grownBy_trans grownBy_below grownBy_allocR)
attribute [local go_sem] Oper.semAt_some
abbrev CO:TypeId:=270
def yH:Nat→List (ByteArray×Value)→List MapEntry
 | _,[]=>[]
 | i,(k,v)::l => { key:=.string k,val:=v,born:=i } :: yH (i+1) l
theorem aae (k:ByteArray) (v:Value):∀ (l:List (ByteArray×Value)) (i:Nat),yH i (l ++ [(k,v)])=yH i l ++ [{ key:=.string k,val:=v,born:=i+l.length }]
 | [],i=>rfl
 | (k',v')::l,i=>by rw[List.cons_append,yH,yH,aae k v l (i+1),List.cons_append,List.length_cons,show i+1+l.length=i+(l.length+1) by omega]
theorem aaf (a b:ByteArray):(a==b)=true↔a=b:=by
 obtain⟨x⟩:=a
 obtain⟨y⟩:=b
 show(x==y)=true↔_
 simp
theorem aag {a b:ByteArray} (h:a≠b):Instr.sameNow .string (.string a) (.string b)=some false:=by
 show some (a==b)=some false
 rw[show(a==b)=false from Bool.eq_false_iff.2 fun e=>h ((aaf a b).1 e)]
theorem same_eq (a:ByteArray):Instr.sameNow .string (.string a) (.string a)=some true:=by
 show some (a==a)=some true
 rw[(aaf a a).2 rfl]
theorem SB (k:ByteArray):∀ (l:List (ByteArray×Value)) (i j:Nat),(∀ x∈l,k≠x.1)→Instr.findNow .string (.string k) (yH i l) j=some none
 | [],_,_,_=>rfl
 | (k',v)::l,i,j,h=>by
  rw[yH,Instr.findNow,aag (h (k',v) (by simp))]
  exact SB k l (i+1) (j+1) fun x hx=>h x (List.mem_cons_of_mem _ hx)
theorem aah (k:ByteArray) (v:Value):∀ (l r:List (ByteArray×Value)) (i j:Nat),(∀ x∈l,k≠x.1)→∃ q,Instr.findNow .string (.string k) (yH i (l++(k,v)::r)) j=some (some (q,v))
 | [],r,i,j,_=>⟨j,by rw[List.nil_append,yH,Instr.findNow,same_eq]⟩
 | (k',v')::l,r,i,j,h=>by
  obtain⟨q,hq⟩:=aah k v l r (i+1) (j+1) fun x hx=>h x (List.mem_cons_of_mem _ hx)
  exact⟨q,by rw[List.cons_append,yH,Instr.findNow,aag (h (k',v') (by simp))];exact hq⟩
def putObj (W:World) (b:Nat) (o:Obj):World := { W with heap:=W.heap.setIfInBounds b o }
def CM (w X:World) (b:Nat) (l:List (ByteArray×Value)):Prop :=
 X.heap[b]? = some (.map (yH 0 l).toArray l.length)∧w.heap.size≤b∧q9 w X
def uN (w X:World) (b:Nat) (o:Int) (n:Nat) (v:Value):Prop :=
 ∃ p q,v = .func (.func 332) #[] #[.pointer (some ⟨p,0,none⟩),.pointer (some ⟨q,0,none⟩)]∧w.heap.size≤p∧w.heap.size≤q∧p≠b∧q≠b∧X.heap[p]? = some (.cells #[.int .u8 o] 5)∧X.heap[q]? = some (.cells #[.int .i64 n] 3)
theorem ajI {W:World} {b:Nat} {o:Obj} (h:b<W.heap.size):(putObj W b o).heap[b]? = some o:=by
 show(W.heap.setIfInBounds b o)[b]? = _
 simp[h]
theorem put_ne {W:World} {b k:Nat} {o:Obj} (h:k≠b):(putObj W b o).heap[k]? = W.heap[k]?:=by
 show(W.heap.setIfInBounds b o)[k]? = _
 rw[Array.getElem?_setIfInBounds_ne (fun e=>h e.symm)]
theorem put_size (W:World) (b:Nat) (o:Obj):(putObj W b o).heap.size=W.heap.size:=by
 show(W.heap.setIfInBounds b o).size=_
 simp
theorem aai (W:World) (b:Nat) (o:Obj):W.grownBy (putObj W b o) (some b):=⟨rfl,rfl,rfl,by rw[put_size];exact Nat.le_refl _,fun k _ hk=>put_ne (fun e=>hk (by rw[e]))⟩
theorem CM.ins {w X:World} {b:Nat} {l:List (ByteArray×Value)} (h:CM w X b l) (k:ByteArray) (v:Value) (hk:∀ x∈l,k≠x.1) :
  (Instr.mapUpdate CO (.map (some b)) (.string k) v).run Tryz.prog X = .ok () (putObj X b (.map (yH 0 (l ++ [(k,v)])).toArray (l.length+1)))∧CM w (putObj X b (.map (yH 0 (l ++ [(k,v)])).toArray (l.length+1))) b (l ++ [(k,v)]):=by
 have hb:=h.1
 have hlt:b<X.heap.size:=(Array.getElem?_eq_some_iff.1 hb).1
 have hku:Tryz.prog.underlying 9=some .string:=Tryz.underlying9
 have hm:Tryz.prog.underlying CO=some (.map 9 268):=Tryz.underlying270
 have hc:(Instr.checkKey false 10000 9 (.string k)).run Tryz.prog X = .ok () X:=MapKept.run_checkKey (k:=.string k) hku (by simp[MapKept.IsKey]) false 9999
 have hf:=SB k l 0 0 hk
 have he:(yH 0 l).toArray.push { key:=.string k,val:=v,born:=l.length } = (yH 0 (l ++ [(k,v)])).toArray:=by
  rw[aae];simp
 refine⟨?_,?_,h.2.1,?_⟩
 ·have hs:=MapKept.run_setObj_map (P:=Tryz.prog) (.map ((yH 0 l).toArray.push { key:=.string k,val:=v,born:=l.length }) (l.length+1)) hb
  rw[he] at hs
  simp[Instr.mapUpdate,run_underlying hm,MapKept.run_getObj_map hb,hc,MapKept.run_findKey hku hf,Result.andThen,he,hs]
  rfl
 ·rw[ajI hlt];simp
 ·exact Below.grown h.2.2 (aai X b _) (Below.size h.2.2) (fun g e=>by cases e;exact h.2.1)
theorem CM.put {w X:World} {b:Nat} {l:List (ByteArray×Value)} (h:CM w X b l) (k:ByteArray) (v:Value) (hk:∀ x∈l,k≠x.1) :
  ∃ Y,(Instr.mapUpdate CO (.map (some b)) (.string k) v).run Tryz.prog X = .ok () Y∧CM w Y b (l ++ [(k,v)])∧X.grownBy Y (some b):=⟨_,(h.ins k v hk).1,(h.ins k v hk).2,aai X b _⟩
theorem CM.alloc {w X:World} {b:Nat} {l:List (ByteArray×Value)} (h:CM w X b l) (o:Obj):CM w (X.alloc o) b l :=
 ⟨by rw[Below.heap_alloc X o b (Array.getElem?_eq_some_iff.1 h.1).1];exact h.1,h.2.1,q9.alloc h.2.2 _⟩
theorem uN.kept {w X Y:World} {b:Nat} {o:Int} {n:Nat} {v:Value} (h:uN w X b o n v) (hg:X.grownBy Y (some b)):uN w Y b o n v:=by
 obtain⟨p,q,h1,h2,h3,h4,h5,h6,h7⟩:=h
 exact⟨p,q,h1,h2,h3,h4,h5,(hg.block _ (Array.getElem?_eq_some_iff.1 h6).1 (fun e=>h4 (Option.some.inj e))).trans h6,(hg.block _ (Array.getElem?_eq_some_iff.1 h7).1 (fun e=>h5 (Option.some.inj e))).trans h7⟩
theorem AQ (w:World) (o:Int) (n:Int):Calls Tryz.prog 271 #[.int .u8 o,.int .i64 n] w fun e w'=>e = .returned (.func (.func 332) #[] #[.pointer (some ⟨w.heap.size,0,none⟩),.pointer (some ⟨w.heap.size+1,0,none⟩)])∧w'=(w.alloc (.cells #[.int .u8 o] 5)).alloc (.cells #[.int .i64 n] 3):=by
 go_enter Tryz.func271,Tryz.ntmps271
 go_wp2
 go_ret
 exact⟨rfl,rfl⟩
open Go.RowKit Go.Shelf FlagM
open Go.Lib (grownBy_trans grownBy_below grownBy_allocR)
attribute [local go_sem] Oper.semAt_some
abbrev wz:ByteArray:=⟨#[97,100,100]⟩
abbrev wB:ByteArray:=⟨#[115,117,98]⟩
abbrev wC:ByteArray:=⟨#[109,117,108]⟩
abbrev wD:ByteArray:=⟨#[100,105,118]⟩
abbrev wE:ByteArray:=⟨#[114,101,109]⟩
abbrev wF:ByteArray:=⟨#[102,109,97]⟩
abbrev wG:ByteArray:=⟨#[115,113,114,116]⟩
abbrev wH:ByteArray:=⟨#[114,105,110,116]⟩
abbrev wI:ByteArray:=⟨#[101,120,97,99,116]⟩
abbrev wJ:ByteArray:=⟨#[113,117,105,101,116]⟩
abbrev wK:ByteArray:=⟨#[115,105,103,110,97,108,105,110,103]⟩
abbrev vO:ByteArray:=⟨#[99,111,110,118]⟩
abbrev vP:ByteArray:=⟨#[105,110,116]⟩
abbrev vQ:ByteArray:=⟨#[102,114,111,109]⟩
abbrev vR:ByteArray:=⟨#[101,110,118]⟩
abbrev vS:ByteArray:=⟨#[99,108,101,97,114]⟩
abbrev vT:ByteArray:=⟨#[115,116,105,99,107,121]⟩
def aaj (v0 v1 v2 v3 v4 v5 v6 v7 v8 v9 v10:Value):List (ByteArray×Value):=[(wz,v0),(wB,v1),(wC,v2),(wD,v3),(wE,v4),(wF,v5),(wG,v6),(wH,v7),(wI,v8),(wJ,v9),(wK,v10),(vO,.func (.func 272) #[] #[]),(vP,.func (.func 276) #[] #[]),(vQ,.func (.func 278) #[] #[]),(vR,.func (.func 279) #[] #[]),(vS,.func (.func 283) #[] #[]),(vT,.func (.func 285) #[] #[])]
def Ls (w X:World) (b:Nat):Prop :=
 ∃ v0 v1 v2 v3 v4 v5 v6 v7 v8 v9 v10,CM w X b (aaj v0 v1 v2 v3 v4 v5 v6 v7 v8 v9 v10)∧uN w X b 1 2 v0∧uN w X b 2 2 v1∧uN w X b 3 2 v2∧uN w X b 4 2 v3∧uN w X b 7 2 v4∧uN w X b 6 3 v5∧uN w X b 5 1 v6∧uN w X b 8 1 v7∧uN w X b 9 1 v8∧uN w X b 13 2 v9∧uN w X b 14 2 v10
theorem AR {w X:World} {b:Nat} {l:List (ByteArray×Value)} (h:CM w X b l) (o:Int) (n:Nat) :
  uN w ((X.alloc (.cells #[.int .u8 o] 5)).alloc (.cells #[.int .i64 n] 3)) b o n (.func (.func 332) #[] #[.pointer (some ⟨X.heap.size,0,none⟩),.pointer (some ⟨X.heap.size+1,0,none⟩)]):=by
 have hb:=(Array.getElem?_eq_some_iff.1 h.1).1
 have hs:=Below.size h.2.2
 exact⟨X.heap.size,X.heap.size+1,rfl,hs,by omega,by omega,by omega,alloc_at (World.alloc_heap_new _ _) _,BG _ _ _⟩
theorem ajJ (w:World):Calls Tryz.prog 208 #[] w fun e w'=>∃ b,e = .returned (.map (some b))∧Ls w w' b:=by
 have C0:CM w (w.alloc (.map #[] 0)) w.heap.size []:=⟨World.alloc_heap_new _ _,Nat.le_refl _,(q9.refl w).alloc _⟩
 have HC0:=Lib.hid C0
 have e0:=Go.run_makeMap_plain (P:=Tryz.prog) (w:=w) 270
 clear C0
 go_enter Tryz.func208,Tryz.ntmps208
 go_wp2_with (first
  | (go_at_call 271;refine(AQ _ 1 2).mono ?_;rintro e w' ⟨rfl,rfl⟩;have p0:uN w (((w.alloc (.map #[] 0)).alloc (.cells #[.int .u8 1] 5)).alloc (.cells #[.int .i64 2] 3)) w.heap.size 1 2 (.func (.func 332) #[] #[.pointer (some ⟨w.heap.size+1,0,none⟩),.pointer (some ⟨w.heap.size+1+1,0,none⟩)]):=(by have:=AR HC0.out 1 2;simpa using this);obtain⟨Y0,I0,D0,g0⟩:=((HC0.out.alloc (.cells #[.int .u8 1] 5)).alloc (.cells #[.int .i64 2] 3)).put wz (.func (.func 332) #[] #[.pointer (some ⟨w.heap.size+1,0,none⟩),.pointer (some ⟨w.heap.size+1+1,0,none⟩)]) (by first|decide|simp);have HC1:=Lib.hid D0;clear D0)
  | (go_at_call 271;refine(AQ _ 2 2).mono ?_;rintro e w' ⟨rfl,rfl⟩;have p1:uN w ((Y0.alloc (.cells #[.int .u8 2] 5)).alloc (.cells #[.int .i64 2] 3)) w.heap.size 2 2 (.func (.func 332) #[] #[.pointer (some ⟨Y0.heap.size,0,none⟩),.pointer (some ⟨Y0.heap.size+1,0,none⟩)]):=(AR HC1.out 2 2);obtain⟨Y1,I1,D1,g1⟩:=((HC1.out.alloc (.cells #[.int .u8 2] 5)).alloc (.cells #[.int .i64 2] 3)).put wB (.func (.func 332) #[] #[.pointer (some ⟨Y0.heap.size,0,none⟩),.pointer (some ⟨Y0.heap.size+1,0,none⟩)]) (by first|decide|simp);have HC2:=Lib.hid D1;clear D1)
  | (go_at_call 271;refine(AQ _ 3 2).mono ?_;rintro e w' ⟨rfl,rfl⟩;have p2:uN w ((Y1.alloc (.cells #[.int .u8 3] 5)).alloc (.cells #[.int .i64 2] 3)) w.heap.size 3 2 (.func (.func 332) #[] #[.pointer (some ⟨Y1.heap.size,0,none⟩),.pointer (some ⟨Y1.heap.size+1,0,none⟩)]):=(AR HC2.out 3 2);obtain⟨Y2,I2,D2,g2⟩:=((HC2.out.alloc (.cells #[.int .u8 3] 5)).alloc (.cells #[.int .i64 2] 3)).put wC (.func (.func 332) #[] #[.pointer (some ⟨Y1.heap.size,0,none⟩),.pointer (some ⟨Y1.heap.size+1,0,none⟩)]) (by first|decide|simp);have HC3:=Lib.hid D2;clear D2)
  | (go_at_call 271;refine(AQ _ 4 2).mono ?_;rintro e w' ⟨rfl,rfl⟩;have p3:uN w ((Y2.alloc (.cells #[.int .u8 4] 5)).alloc (.cells #[.int .i64 2] 3)) w.heap.size 4 2 (.func (.func 332) #[] #[.pointer (some ⟨Y2.heap.size,0,none⟩),.pointer (some ⟨Y2.heap.size+1,0,none⟩)]):=(AR HC3.out 4 2);obtain⟨Y3,I3,D3,g3⟩:=((HC3.out.alloc (.cells #[.int .u8 4] 5)).alloc (.cells #[.int .i64 2] 3)).put wD (.func (.func 332) #[] #[.pointer (some ⟨Y2.heap.size,0,none⟩),.pointer (some ⟨Y2.heap.size+1,0,none⟩)]) (by first|decide|simp);have HC4:=Lib.hid D3;clear D3)
  | (go_at_call 271;refine(AQ _ 7 2).mono ?_;rintro e w' ⟨rfl,rfl⟩;have p4:uN w ((Y3.alloc (.cells #[.int .u8 7] 5)).alloc (.cells #[.int .i64 2] 3)) w.heap.size 7 2 (.func (.func 332) #[] #[.pointer (some ⟨Y3.heap.size,0,none⟩),.pointer (some ⟨Y3.heap.size+1,0,none⟩)]):=(AR HC4.out 7 2);obtain⟨Y4,I4,D4,g4⟩:=((HC4.out.alloc (.cells #[.int .u8 7] 5)).alloc (.cells #[.int .i64 2] 3)).put wE (.func (.func 332) #[] #[.pointer (some ⟨Y3.heap.size,0,none⟩),.pointer (some ⟨Y3.heap.size+1,0,none⟩)]) (by first|decide|simp);have HC5:=Lib.hid D4;clear D4)
  | (go_at_call 271;refine(AQ _ 6 3).mono ?_;rintro e w' ⟨rfl,rfl⟩;have p5:uN w ((Y4.alloc (.cells #[.int .u8 6] 5)).alloc (.cells #[.int .i64 3] 3)) w.heap.size 6 3 (.func (.func 332) #[] #[.pointer (some ⟨Y4.heap.size,0,none⟩),.pointer (some ⟨Y4.heap.size+1,0,none⟩)]):=(AR HC5.out 6 3);obtain⟨Y5,I5,D5,g5⟩:=((HC5.out.alloc (.cells #[.int .u8 6] 5)).alloc (.cells #[.int .i64 3] 3)).put wF (.func (.func 332) #[] #[.pointer (some ⟨Y4.heap.size,0,none⟩),.pointer (some ⟨Y4.heap.size+1,0,none⟩)]) (by first|decide|simp);have HC6:=Lib.hid D5;clear D5)
  | (go_at_call 271;refine(AQ _ 5 1).mono ?_;rintro e w' ⟨rfl,rfl⟩;have p6:uN w ((Y5.alloc (.cells #[.int .u8 5] 5)).alloc (.cells #[.int .i64 1] 3)) w.heap.size 5 1 (.func (.func 332) #[] #[.pointer (some ⟨Y5.heap.size,0,none⟩),.pointer (some ⟨Y5.heap.size+1,0,none⟩)]):=(AR HC6.out 5 1);obtain⟨Y6,I6,D6,g6⟩:=((HC6.out.alloc (.cells #[.int .u8 5] 5)).alloc (.cells #[.int .i64 1] 3)).put wG (.func (.func 332) #[] #[.pointer (some ⟨Y5.heap.size,0,none⟩),.pointer (some ⟨Y5.heap.size+1,0,none⟩)]) (by first|decide|simp);have HC7:=Lib.hid D6;clear D6)
  | (go_at_call 271;refine(AQ _ 8 1).mono ?_;rintro e w' ⟨rfl,rfl⟩;have p7:uN w ((Y6.alloc (.cells #[.int .u8 8] 5)).alloc (.cells #[.int .i64 1] 3)) w.heap.size 8 1 (.func (.func 332) #[] #[.pointer (some ⟨Y6.heap.size,0,none⟩),.pointer (some ⟨Y6.heap.size+1,0,none⟩)]):=(AR HC7.out 8 1);obtain⟨Y7,I7,D7,g7⟩:=((HC7.out.alloc (.cells #[.int .u8 8] 5)).alloc (.cells #[.int .i64 1] 3)).put wH (.func (.func 332) #[] #[.pointer (some ⟨Y6.heap.size,0,none⟩),.pointer (some ⟨Y6.heap.size+1,0,none⟩)]) (by first|decide|simp);have HC8:=Lib.hid D7;clear D7)
  | (go_at_call 271;refine(AQ _ 9 1).mono ?_;rintro e w' ⟨rfl,rfl⟩;have p8:uN w ((Y7.alloc (.cells #[.int .u8 9] 5)).alloc (.cells #[.int .i64 1] 3)) w.heap.size 9 1 (.func (.func 332) #[] #[.pointer (some ⟨Y7.heap.size,0,none⟩),.pointer (some ⟨Y7.heap.size+1,0,none⟩)]):=(AR HC8.out 9 1);obtain⟨Y8,I8,D8,g8⟩:=((HC8.out.alloc (.cells #[.int .u8 9] 5)).alloc (.cells #[.int .i64 1] 3)).put wI (.func (.func 332) #[] #[.pointer (some ⟨Y7.heap.size,0,none⟩),.pointer (some ⟨Y7.heap.size+1,0,none⟩)]) (by first|decide|simp);have HC9:=Lib.hid D8;clear D8)
  | (go_at_call 271;refine(AQ _ 13 2).mono ?_;rintro e w' ⟨rfl,rfl⟩;have p9:uN w ((Y8.alloc (.cells #[.int .u8 13] 5)).alloc (.cells #[.int .i64 2] 3)) w.heap.size 13 2 (.func (.func 332) #[] #[.pointer (some ⟨Y8.heap.size,0,none⟩),.pointer (some ⟨Y8.heap.size+1,0,none⟩)]):=(AR HC9.out 13 2);obtain⟨Y9,I9,D9,g9⟩:=((HC9.out.alloc (.cells #[.int .u8 13] 5)).alloc (.cells #[.int .i64 2] 3)).put wJ (.func (.func 332) #[] #[.pointer (some ⟨Y8.heap.size,0,none⟩),.pointer (some ⟨Y8.heap.size+1,0,none⟩)]) (by first|decide|simp);have HC10:=Lib.hid D9;clear D9)
  | (go_at_call 271;refine(AQ _ 14 2).mono ?_;rintro e w' ⟨rfl,rfl⟩;have p10:uN w ((Y9.alloc (.cells #[.int .u8 14] 5)).alloc (.cells #[.int .i64 2] 3)) w.heap.size 14 2 (.func (.func 332) #[] #[.pointer (some ⟨Y9.heap.size,0,none⟩),.pointer (some ⟨Y9.heap.size+1,0,none⟩)]):=(AR HC10.out 14 2);obtain⟨Y10,I10,D10,g10⟩:=((HC10.out.alloc (.cells #[.int .u8 14] 5)).alloc (.cells #[.int .i64 2] 3)).put wK (.func (.func 332) #[] #[.pointer (some ⟨Y9.heap.size,0,none⟩),.pointer (some ⟨Y9.heap.size+1,0,none⟩)]) (by first|decide|simp);have HC11:=Lib.hid D10;clear D10;obtain⟨Z0,J0,E0,f0⟩:=(HC11.out).put vO (.func (.func 272) #[] #[]) (by first|decide|simp);obtain⟨Z1,J1,E1,f1⟩:=(E0).put vP (.func (.func 276) #[] #[]) (by first|decide|simp);obtain⟨Z2,J2,E2,f2⟩:=(E1).put vQ (.func (.func 278) #[] #[]) (by first|decide|simp);obtain⟨Z3,J3,E3,f3⟩:=(E2).put vR (.func (.func 279) #[] #[]) (by first|decide|simp);obtain⟨Z4,J4,E4,f4⟩:=(E3).put vS (.func (.func 283) #[] #[]) (by first|decide|simp);obtain⟨Z5,J5,E5,f5⟩:=(E4).put vT (.func (.func 285) #[] #[]) (by first|decide|simp)))
 go_ret
 have c10:Y10.grownBy Z5 (some w.heap.size):=grownBy_trans f0 (grownBy_trans f1 (grownBy_trans f2 (grownBy_trans f3 (grownBy_trans f4 f5))))
 have c9:Y9.grownBy Z5 (some w.heap.size):=grownBy_trans (World.grownBy_alloc _ _ _) (grownBy_trans (World.grownBy_alloc _ _ _) (grownBy_trans g10 c10))
 have c8:Y8.grownBy Z5 (some w.heap.size):=grownBy_trans (World.grownBy_alloc _ _ _) (grownBy_trans (World.grownBy_alloc _ _ _) (grownBy_trans g9 c9))
 have c7:Y7.grownBy Z5 (some w.heap.size):=grownBy_trans (World.grownBy_alloc _ _ _) (grownBy_trans (World.grownBy_alloc _ _ _) (grownBy_trans g8 c8))
 have c6:Y6.grownBy Z5 (some w.heap.size):=grownBy_trans (World.grownBy_alloc _ _ _) (grownBy_trans (World.grownBy_alloc _ _ _) (grownBy_trans g7 c7))
 have c5:Y5.grownBy Z5 (some w.heap.size):=grownBy_trans (World.grownBy_alloc _ _ _) (grownBy_trans (World.grownBy_alloc _ _ _) (grownBy_trans g6 c6))
 have c4:Y4.grownBy Z5 (some w.heap.size):=grownBy_trans (World.grownBy_alloc _ _ _) (grownBy_trans (World.grownBy_alloc _ _ _) (grownBy_trans g5 c5))
 have c3:Y3.grownBy Z5 (some w.heap.size):=grownBy_trans (World.grownBy_alloc _ _ _) (grownBy_trans (World.grownBy_alloc _ _ _) (grownBy_trans g4 c4))
 have c2:Y2.grownBy Z5 (some w.heap.size):=grownBy_trans (World.grownBy_alloc _ _ _) (grownBy_trans (World.grownBy_alloc _ _ _) (grownBy_trans g3 c3))
 have c1:Y1.grownBy Z5 (some w.heap.size):=grownBy_trans (World.grownBy_alloc _ _ _) (grownBy_trans (World.grownBy_alloc _ _ _) (grownBy_trans g2 c2))
 have c0:Y0.grownBy Z5 (some w.heap.size):=grownBy_trans (World.grownBy_alloc _ _ _) (grownBy_trans (World.grownBy_alloc _ _ _) (grownBy_trans g1 c1))
 exact⟨_,rfl,_,_,_,_,_,_,_,_,_,_,_,E5,p0.kept (grownBy_trans g0 c0),p1.kept (grownBy_trans g1 c1),p2.kept (grownBy_trans g2 c2),p3.kept (grownBy_trans g3 c3),p4.kept (grownBy_trans g4 c4),p5.kept (grownBy_trans g5 c5),p6.kept (grownBy_trans g6 c6),p7.kept (grownBy_trans g7 c7),p8.kept (grownBy_trans g8 c8),p9.kept (grownBy_trans g9 c9),p10.kept (grownBy_trans g10 c10)⟩
open Go.RowKit Go.Shelf FlagM
attribute [local go_sem] Oper.semAt_some
theorem ajK (w:World):(Instr.typeAssert (.iface 37 (.int .i64 3)) 20 37 true).run Tryz.prog w = .ok (.tuple #[.int .i64 3,.bool true]) w:=by
 have h:=Tryz.underlying37
 simp[Instr.typeAssert,run_underlying h,Result.andThen]
theorem ajL (w:World):(Instr.typeAssert .nilIface 20 37 true).run Tryz.prog w = .ok (.tuple #[.int .i64 0,.bool false]) w:=by
 have h:=Tryz.underlying37
 simp[Instr.typeAssert,run_underlying h,Result.andThen,Tryz.zeroValue37]
theorem Lt (pd pk:Nat) (v0:Value) (older:List PanicEntry) (w:World) (hne:pd≠pk) (hd:w.heap[pd]? = some (.cells #[v0] 143)) (hk:w.heap[pk]? = some (.cells #[.bool false] 4)) :
  CallsD Tryz.prog 207 #[.pointer (some ⟨pd,0,none⟩),.pointer (some ⟨pk,0,none⟩)] (.panicking ({ v:=.iface 37 (.int .i64 3),recovered:=false } :: older)) w fun e u' w' =>
   e = .returned (.tuple #[])∧u' = .panicking ({ v:=.iface 37 (.int .i64 3),recovered:=true } :: older)∧w'=(w.setCell ⟨pd,0,none⟩ .nilFunc).setCell ⟨pk,0,none⟩ (.bool false):=by
 have c0:w.cell? ⟨pd,0,none⟩=some v0:=by simp[World.cell?,hd]
 have z0:w.frozen? ⟨pd,0,none⟩=false:=by simp[World.frozen?,hd]
 have c1:w.cell? ⟨pk,0,none⟩=some (.bool false):=by simp[World.cell?,hk]
 have z1:w.frozen? ⟨pk,0,none⟩=false:=by simp[World.frozen?,hk]
 have ha:=ajK w
 refine callsD_of_wpS Tryz.func207 rfl fun c₀ cs hu=>?_
 simp only[Tryz.ntmps207,List.size_toArray,List.length_cons,List.length_nil,Nat.reduceAdd,Nat.reduceSub,Array.replicate_succ,Array.replicate_zero,List.push_toArray,List.append_toArray,List.nil_append,List.cons_append]
 apply wpS_seq
 apply wpS_region
 simp[wpOpsS,go_sem,recoverD,hu,ha,Exit.thenS]
 apply wpS_seq
 apply wpS_region
 simp[wpOpsS,go_sem,Exit.thenS]
 refine wpS_cond (t:=true) (by simp[Act.eval]) ?_
 simp only[if_true]
 apply wpS_region
 have hk2:(w.setCell ⟨pd,0,none⟩ .nilFunc).heap[pk]? = some (.cells #[.bool false] 4):=((tJ w pd 0 .nilFunc).block _ (Array.getElem?_eq_some_iff.1 hk).1 (fun e=>hne (Option.some.inj e).symm)).trans hk
 have c2:(w.setCell ⟨pd,0,none⟩ .nilFunc).cell? ⟨pk,0,none⟩=some (.bool false):=by simp[World.cell?,hk2]
 have z2:(w.setCell ⟨pd,0,none⟩ .nilFunc).frozen? ⟨pk,0,none⟩=false:=by simp[World.frozen?,hk2]
 have hst:=run_store Tryz.prog w ⟨pd,0,none⟩ .nilFunc .plain rfl
 simp[wpOpsS,go_sem,hst,c0,z0,c2,z2,bodyPostS,results,Tryz.results207]
theorem aak (pd pk:Nat) (w:World) :
  CallsD Tryz.prog 207 #[.pointer (some ⟨pd,0,none⟩),.pointer (some ⟨pk,0,none⟩)] .returning w fun e u' w'=>e = .returned (.tuple #[])∧u' = .returning∧w'=w:=by
 have ha:=ajL w
 refine callsD_of_wpS Tryz.func207 rfl fun c₀ cs hu=>?_
 simp only[Tryz.ntmps207,List.size_toArray,List.length_cons,List.length_nil,Nat.reduceAdd,Nat.reduceSub,Array.replicate_succ,Array.replicate_zero,List.push_toArray,List.append_toArray,List.nil_append,List.cons_append]
 apply wpS_seq
 apply wpS_region
 simp[wpOpsS,go_sem,recoverD,hu,ha,Exit.thenS]
 apply wpS_seq
 apply wpS_region
 simp[wpOpsS,go_sem,Exit.thenS]
 refine wpS_cond (t:=false) (by simp[Act.eval]) ?_
 simp only[Bool.false_eq_true,if_false]
 refine wpS_of_wp (wp_skip ?_)
 cases c₀
 simp_all[bodyPostS,results,Tryz.results207]
open Go.RowKit Go.Shelf FlagM
open Go.Lib (grownBy_trans grownBy_below grownBy_allocR)
attribute [local go_sem] Oper.semAt_some
theorem yc {w X:World} {b:Nat} {l r:List (ByteArray×Value)} {k:ByteArray} {v:Value} (h:CM w X b (l++(k,v)::r)) (hk:∀ x∈l,k≠x.1) :
  (Instr.lookup CO (.map (some b)) (.string k) true).run Tryz.prog X = .ok (.tuple #[v,.bool true]) X:=by
 have hb:=h.1
 have hku:Tryz.prog.underlying 9=some .string:=Tryz.underlying9
 have hm:Tryz.prog.underlying CO=some (.map 9 268):=Tryz.underlying270
 obtain⟨q,hq⟩:=aah k v l r 0 0 hk
 have hc:∀ em,(Instr.checkKey em 10000 9 (.string k)).run Tryz.prog X = .ok () X:=fun em=>MapKept.run_checkKey (k:=.string k) hku (by simp[MapKept.IsKey]) em 9999
 simp[Instr.lookup,run_underlying hm,MapKept.run_getObj_map hb,hc,MapKept.run_findKey hku hq,Result.andThen]
theorem ajM {w X:World} {b:Nat} {l:List (ByteArray×Value)} {k:ByteArray} (h:CM w X b l) (hk:∀ x∈l,k≠x.1) :
  (Instr.lookup CO (.map (some b)) (.string k) true).run Tryz.prog X = .ok (.tuple #[.nilFunc,.bool false]) X:=by
 have hb:=h.1
 have hku:Tryz.prog.underlying 9=some .string:=Tryz.underlying9
 have hm:Tryz.prog.underlying CO=some (.map 9 268):=Tryz.underlying270
 have hq:=SB k l 0 0 hk
 have hc:∀ em,(Instr.checkKey em 10000 9 (.string k)).run Tryz.prog X = .ok () X:=fun em=>MapKept.run_checkKey (k:=.string k) hku (by simp[MapKept.IsKey]) em 9999
 simp[Instr.lookup,run_underlying hm,MapKept.run_getObj_map hb,hc,MapKept.run_findKey hku hq,Result.andThen,Tryz.zeroValue268]
def tN (s:ByteArray) (ws:List ByteArray):Option (sF×List ByteArray) :=
 if s=wz then uH 1 2 ws else
 if s=wB then uH 2 2 ws else
 if s=wC then uH 3 2 ws else
 if s=wD then uH 4 2 ws else
 if s=wE then uH 7 2 ws else
 if s=wF then uH 6 3 ws else
 if s=wG then uH 5 1 ws else
 if s=wH then uH 8 1 ws else
 if s=wI then uH 9 1 ws else
 if s=wJ then uH 13 2 ws else
 if s=wK then uH 14 2 ws else
 if s=vO then yE ws else
 if s=vP then yY ws else
 if s=vQ then yZ ws else
 if s=vR then vg ws else
 if s=vS then some (.clear,ws) else
 if s=vT then some (.sticky,ws) else
 none
theorem enters {f:FuncId} {fn:Func} (hf:Tryz.prog.funcs[f]? = some fn) (hn:(fn.name == "runtime.NumGoroutine")=false) (hb:fn.body.isSome=true):∀ args w,(callFunc f args).run Tryz.prog w = .ok (.enter f args) w:=by
 intro args w
 obtain⟨c,hb⟩:=Option.isSome_iff_exists.1 hb
 have hn':fn.name ≠ "runtime.NumGoroutine":=by simpa using hn
 simp[callFunc,go_sem,hf,hn',hb]
def SF (X:World) (s:ByteArray) (v:Value):Prop :=
 ∃ g caps,v = .func (.func g) #[] caps∧(∀ args w,(callFunc g args).run Tryz.prog w = .ok (.enter g args) w)∧∀ W B ws,X.grownBy W none→X.heap.size≤B→tH W B ws→Calls Tryz.prog g (#[.pointer (some ⟨B,0,none⟩)]++caps) W (BF W B (tN s ws))
theorem AU {w X:World} {b:Nat} {s:ByteArray} {v:Value} {o:Int} {n:Nat} (hn:n≤3) (h:uN w X b o n v) (hs:∀ ws,tN s ws=uH o n ws):SF X s v:=by
 obtain⟨p,q,h1,h2,h3,h4,h5,h6,h7⟩:=h
 have hp:=(Array.getElem?_eq_some_iff.1 h6).1
 have hq:=(Array.getElem?_eq_some_iff.1 h7).1
 refine⟨_,_,h1,enters Tryz.func332 rfl rfl,fun W B ws hg hB hW=>?_⟩
 rw[hs]
 exact ajH hW p q o n hn (by omega) (by omega) ((hg.block _ hp (by simp)).trans h6) ((hg.block _ hq (by simp)).trans h7)
theorem look {w X:World} {b:Nat} (h:Ls w X b) (s:ByteArray) :
  (∃ v,(Instr.lookup CO (.map (some b)) (.string s) true).run Tryz.prog X = .ok (.tuple #[v,.bool true]) X∧SF X s v) ∨
  ((Instr.lookup CO (.map (some b)) (.string s) true).run Tryz.prog X = .ok (.tuple #[.nilFunc,.bool false]) X∧∀ ws,tN s ws=none):=by
 obtain⟨v0,v1,v2,v3,v4,v5,v6,v7,v8,v9,v10,hC,p0,p1,p2,p3,p4,p5,p6,p7,p8,p9,p10⟩:=h
 by_cases e0:s=wz
 ·subst e0
  left
  refine⟨_,yc (l:=[]) (r:=[(wB,v1),(wC,v2),(wD,v3),(wE,v4),(wF,v5),(wG,v6),(wH,v7),(wI,v8),(wJ,v9),(wK,v10),(vO,.func (.func 272) #[] #[]),(vP,.func (.func 276) #[] #[]),(vQ,.func (.func 278) #[] #[]),(vR,.func (.func 279) #[] #[]),(vS,.func (.func 283) #[] #[]),(vT,.func (.func 285) #[] #[])]) hC (by simp;try decide),?_⟩
  exact AU (by decide) p0 fun ws=>by unfold tN;first|rfl|(simp;done)|decide
 by_cases e1:s=wB
 ·subst e1
  left
  refine⟨_,yc (l:=[(wz,v0)]) (r:=[(wC,v2),(wD,v3),(wE,v4),(wF,v5),(wG,v6),(wH,v7),(wI,v8),(wJ,v9),(wK,v10),(vO,.func (.func 272) #[] #[]),(vP,.func (.func 276) #[] #[]),(vQ,.func (.func 278) #[] #[]),(vR,.func (.func 279) #[] #[]),(vS,.func (.func 283) #[] #[]),(vT,.func (.func 285) #[] #[])]) hC (by simp;try decide),?_⟩
  exact AU (by decide) p1 fun ws=>by unfold tN;first|rfl|(simp;done)|decide
 by_cases e2:s=wC
 ·subst e2
  left
  refine⟨_,yc (l:=[(wz,v0),(wB,v1)]) (r:=[(wD,v3),(wE,v4),(wF,v5),(wG,v6),(wH,v7),(wI,v8),(wJ,v9),(wK,v10),(vO,.func (.func 272) #[] #[]),(vP,.func (.func 276) #[] #[]),(vQ,.func (.func 278) #[] #[]),(vR,.func (.func 279) #[] #[]),(vS,.func (.func 283) #[] #[]),(vT,.func (.func 285) #[] #[])]) hC (by simp;try decide),?_⟩
  exact AU (by decide) p2 fun ws=>by unfold tN;first|rfl|(simp;done)|decide
 by_cases e3:s=wD
 ·subst e3
  left
  refine⟨_,yc (l:=[(wz,v0),(wB,v1),(wC,v2)]) (r:=[(wE,v4),(wF,v5),(wG,v6),(wH,v7),(wI,v8),(wJ,v9),(wK,v10),(vO,.func (.func 272) #[] #[]),(vP,.func (.func 276) #[] #[]),(vQ,.func (.func 278) #[] #[]),(vR,.func (.func 279) #[] #[]),(vS,.func (.func 283) #[] #[]),(vT,.func (.func 285) #[] #[])]) hC (by simp;try decide),?_⟩
  exact AU (by decide) p3 fun ws=>by unfold tN;first|rfl|(simp;done)|decide
 by_cases e4:s=wE
 ·subst e4
  left
  refine⟨_,yc (l:=[(wz,v0),(wB,v1),(wC,v2),(wD,v3)]) (r:=[(wF,v5),(wG,v6),(wH,v7),(wI,v8),(wJ,v9),(wK,v10),(vO,.func (.func 272) #[] #[]),(vP,.func (.func 276) #[] #[]),(vQ,.func (.func 278) #[] #[]),(vR,.func (.func 279) #[] #[]),(vS,.func (.func 283) #[] #[]),(vT,.func (.func 285) #[] #[])]) hC (by simp;try decide),?_⟩
  exact AU (by decide) p4 fun ws=>by unfold tN;first|rfl|(simp;done)|decide
 by_cases e5:s=wF
 ·subst e5
  left
  refine⟨_,yc (l:=[(wz,v0),(wB,v1),(wC,v2),(wD,v3),(wE,v4)]) (r:=[(wG,v6),(wH,v7),(wI,v8),(wJ,v9),(wK,v10),(vO,.func (.func 272) #[] #[]),(vP,.func (.func 276) #[] #[]),(vQ,.func (.func 278) #[] #[]),(vR,.func (.func 279) #[] #[]),(vS,.func (.func 283) #[] #[]),(vT,.func (.func 285) #[] #[])]) hC (by simp;try decide),?_⟩
  exact AU (by decide) p5 fun ws=>by unfold tN;first|rfl|(simp;done)|decide
 by_cases e6:s=wG
 ·subst e6
  left
  refine⟨_,yc (l:=[(wz,v0),(wB,v1),(wC,v2),(wD,v3),(wE,v4),(wF,v5)]) (r:=[(wH,v7),(wI,v8),(wJ,v9),(wK,v10),(vO,.func (.func 272) #[] #[]),(vP,.func (.func 276) #[] #[]),(vQ,.func (.func 278) #[] #[]),(vR,.func (.func 279) #[] #[]),(vS,.func (.func 283) #[] #[]),(vT,.func (.func 285) #[] #[])]) hC (by simp;try decide),?_⟩
  exact AU (by decide) p6 fun ws=>by unfold tN;first|rfl|(simp;done)|decide
 by_cases e7:s=wH
 ·subst e7
  left
  refine⟨_,yc (l:=[(wz,v0),(wB,v1),(wC,v2),(wD,v3),(wE,v4),(wF,v5),(wG,v6)]) (r:=[(wI,v8),(wJ,v9),(wK,v10),(vO,.func (.func 272) #[] #[]),(vP,.func (.func 276) #[] #[]),(vQ,.func (.func 278) #[] #[]),(vR,.func (.func 279) #[] #[]),(vS,.func (.func 283) #[] #[]),(vT,.func (.func 285) #[] #[])]) hC (by simp;try decide),?_⟩
  exact AU (by decide) p7 fun ws=>by unfold tN;first|rfl|(simp;done)|decide
 by_cases e8:s=wI
 ·subst e8
  left
  refine⟨_,yc (l:=[(wz,v0),(wB,v1),(wC,v2),(wD,v3),(wE,v4),(wF,v5),(wG,v6),(wH,v7)]) (r:=[(wJ,v9),(wK,v10),(vO,.func (.func 272) #[] #[]),(vP,.func (.func 276) #[] #[]),(vQ,.func (.func 278) #[] #[]),(vR,.func (.func 279) #[] #[]),(vS,.func (.func 283) #[] #[]),(vT,.func (.func 285) #[] #[])]) hC (by simp;try decide),?_⟩
  exact AU (by decide) p8 fun ws=>by unfold tN;first|rfl|(simp;done)|decide
 by_cases e9:s=wJ
 ·subst e9
  left
  refine⟨_,yc (l:=[(wz,v0),(wB,v1),(wC,v2),(wD,v3),(wE,v4),(wF,v5),(wG,v6),(wH,v7),(wI,v8)]) (r:=[(wK,v10),(vO,.func (.func 272) #[] #[]),(vP,.func (.func 276) #[] #[]),(vQ,.func (.func 278) #[] #[]),(vR,.func (.func 279) #[] #[]),(vS,.func (.func 283) #[] #[]),(vT,.func (.func 285) #[] #[])]) hC (by simp;try decide),?_⟩
  exact AU (by decide) p9 fun ws=>by unfold tN;first|rfl|(simp;done)|decide
 by_cases e10:s=wK
 ·subst e10
  left
  refine⟨_,yc (l:=[(wz,v0),(wB,v1),(wC,v2),(wD,v3),(wE,v4),(wF,v5),(wG,v6),(wH,v7),(wI,v8),(wJ,v9)]) (r:=[(vO,.func (.func 272) #[] #[]),(vP,.func (.func 276) #[] #[]),(vQ,.func (.func 278) #[] #[]),(vR,.func (.func 279) #[] #[]),(vS,.func (.func 283) #[] #[]),(vT,.func (.func 285) #[] #[])]) hC (by simp;try decide),?_⟩
  exact AU (by decide) p10 fun ws=>by unfold tN;first|rfl|(simp;done)|decide
 by_cases e11:s=vO
 ·subst e11
  left
  refine⟨_,yc (l:=[(wz,v0),(wB,v1),(wC,v2),(wD,v3),(wE,v4),(wF,v5),(wG,v6),(wH,v7),(wI,v8),(wJ,v9),(wK,v10)]) (r:=[(vP,.func (.func 276) #[] #[]),(vQ,.func (.func 278) #[] #[]),(vR,.func (.func 279) #[] #[]),(vS,.func (.func 283) #[] #[]),(vT,.func (.func 285) #[] #[])]) hC (by simp;try decide),?_⟩
  refine⟨_,_,rfl,enters Tryz.func272 rfl rfl,fun W B ws hg hB hW=>?_⟩
  have hs:tN vO ws=yE ws:=by unfold tN;first|rfl|(simp;done)
  rw[hs]
  exact ajy hW
 by_cases e12:s=vP
 ·subst e12
  left
  refine⟨_,yc (l:=[(wz,v0),(wB,v1),(wC,v2),(wD,v3),(wE,v4),(wF,v5),(wG,v6),(wH,v7),(wI,v8),(wJ,v9),(wK,v10),(vO,.func (.func 272) #[] #[])]) (r:=[(vQ,.func (.func 278) #[] #[]),(vR,.func (.func 279) #[] #[]),(vS,.func (.func 283) #[] #[]),(vT,.func (.func 285) #[] #[])]) hC (by simp;try decide),?_⟩
  refine⟨_,_,rfl,enters Tryz.func276 rfl rfl,fun W B ws hg hB hW=>?_⟩
  have hs:tN vP ws=yY ws:=by unfold tN;first|rfl|(simp;done)
  rw[hs]
  exact ajz hW
 by_cases e13:s=vQ
 ·subst e13
  left
  refine⟨_,yc (l:=[(wz,v0),(wB,v1),(wC,v2),(wD,v3),(wE,v4),(wF,v5),(wG,v6),(wH,v7),(wI,v8),(wJ,v9),(wK,v10),(vO,.func (.func 272) #[] #[]),(vP,.func (.func 276) #[] #[])]) (r:=[(vR,.func (.func 279) #[] #[]),(vS,.func (.func 283) #[] #[]),(vT,.func (.func 285) #[] #[])]) hC (by simp;try decide),?_⟩
  refine⟨_,_,rfl,enters Tryz.func278 rfl rfl,fun W B ws hg hB hW=>?_⟩
  have hs:tN vQ ws=yZ ws:=by unfold tN;first|rfl|(simp;done)
  rw[hs]
  exact ajA hW
 by_cases e14:s=vR
 ·subst e14
  left
  refine⟨_,yc (l:=[(wz,v0),(wB,v1),(wC,v2),(wD,v3),(wE,v4),(wF,v5),(wG,v6),(wH,v7),(wI,v8),(wJ,v9),(wK,v10),(vO,.func (.func 272) #[] #[]),(vP,.func (.func 276) #[] #[]),(vQ,.func (.func 278) #[] #[])]) (r:=[(vS,.func (.func 283) #[] #[]),(vT,.func (.func 285) #[] #[])]) hC (by simp;try decide),?_⟩
  refine⟨_,_,rfl,enters Tryz.func279 rfl rfl,fun W B ws hg hB hW=>?_⟩
  have hs:tN vR ws=vg ws:=by unfold tN;first|rfl|(simp;done)
  rw[hs]
  exact ajD hW
 by_cases e15:s=vS
 ·subst e15
  left
  refine⟨_,yc (l:=[(wz,v0),(wB,v1),(wC,v2),(wD,v3),(wE,v4),(wF,v5),(wG,v6),(wH,v7),(wI,v8),(wJ,v9),(wK,v10),(vO,.func (.func 272) #[] #[]),(vP,.func (.func 276) #[] #[]),(vQ,.func (.func 278) #[] #[]),(vR,.func (.func 279) #[] #[])]) (r:=[(vT,.func (.func 285) #[] #[])]) hC (by simp;try decide),?_⟩
  refine⟨_,_,rfl,enters Tryz.func283 rfl rfl,fun W B ws hg hB hW=>?_⟩
  have hs:tN vS ws=some (.clear,ws):=by unfold tN;first|rfl|(simp;done)
  rw[hs]
  exact ajB hW
 by_cases e16:s=vT
 ·subst e16
  left
  refine⟨_,yc (l:=[(wz,v0),(wB,v1),(wC,v2),(wD,v3),(wE,v4),(wF,v5),(wG,v6),(wH,v7),(wI,v8),(wJ,v9),(wK,v10),(vO,.func (.func 272) #[] #[]),(vP,.func (.func 276) #[] #[]),(vQ,.func (.func 278) #[] #[]),(vR,.func (.func 279) #[] #[]),(vS,.func (.func 283) #[] #[])]) (r:=[]) hC (by simp;try decide),?_⟩
  refine⟨_,_,rfl,enters Tryz.func285 rfl rfl,fun W B ws hg hB hW=>?_⟩
  have hs:tN vT ws=some (.sticky,ws):=by unfold tN;first|rfl|(simp;done)
  rw[hs]
  exact ajC hW
 right
 refine⟨ajM hC (by simp[aaj];exact⟨e0,e1,e2,e3,e4,e5,e6,e7,e8,e9,e10,e11,e12,e13,e14,e15,e16⟩),fun ws=>by unfold tN;simp[e0,e1,e2,e3,e4,e5,e6,e7,e8,e9,e10,e11,e12,e13,e14,e15,e16]⟩
end Go.Proofs.YtbembkamcdlhbaaGreatDoor.Sp
