import Derived.Test.YtbembkamcdlhbaaGreatDoorZ3Sb
import Derived.Test.YtbembkamcdlhbaaGreatDoorZ5Sb
import Derived.Test.YtbembkamcdlhbaaGreatDoorSHSb
import Derived.Recover
import Derived.Lib.BufferOwn
import Derived.Defers
import Derived.Lib.ConvBytes
import Derived.Deep.RegionHeld3
import Derived.Deep.RegionWith
import Derived.MapKept
import Derived.WideMake
import Derived.Laws.Pointers
set_option linter.unusedSimpArgs false
set_option linter.unusedVariables false
set_option maxRecDepth 100000
set_option maxHeartbeats 4000000
namespace Go.Proofs.YtbembkamcdlhbaaGreatDoor.Sp
open Go.RowKit Go.Shelf FlagM
open Go.Lib (grownBy_trans grownBy_below grownBy_allocR)
attribute [local go_sem] Oper.semAt_some
abbrev Co:Ending:=.panicked [{ v:=.iface 37 (.int .i64 3),recovered:=false }]
theorem RN (w:World):Calls Tryz.prog 209 #[.bool true] w fun e w'=>(∃ v,e = .returned v)∧w=w':=by
 go_enter Tryz.func209,Tryz.ntmps209
 go_wp2
 go_end0
 exact⟨⟨_,rfl⟩,rfl⟩
theorem Zw (w:World):Calls Tryz.prog 209 #[.bool false] w fun e w'=>e=Co∧w=w':=by
 go_enter Tryz.func209,Tryz.ntmps209
 go_wp2
 simp[bodyPost]
theorem Jb (w:World) (b:Bool) (h:b=false):Calls Tryz.prog 209 #[.bool b] w fun e w'=>e=Co∧w=w':=by
 rw[h];exact Zw w
theorem KP (w:World) (b:Bool) (h:b=true):Calls Tryz.prog 209 #[.bool b] w fun e w'=>(∃ v,e = .returned v)∧w=w':=by
 rw[h];exact RN w
theorem uQ {P:Program} {fn:Func} {Post:Ending→World→Prop} {c:List PanicEntry} {t:Array Value} {w:World} (h:Post (.panicked c) w):bodyPost P fn Post (Exit.panic c) { tmps:=t,defers:=[] } w:=by
 simp only[bodyPost]
 exact⟨trivial,h⟩
theorem aiO (w:World) (B bk o c n:Nat) (s:ByteArray) (hl:w.cell? ⟨B,0,none⟩=some (.slice (some ⟨bk,o,none⟩) (n+1) c)) (hz:w.frozen? ⟨B,0,none⟩=false) (hs:w.cell? ⟨bk,o,none⟩=some (.string s)) (hc:n+1≤c) (hc2:c≤4611686018427387904) :
  Calls Tryz.prog 335 #[.pointer (some ⟨B,0,none⟩)] w fun e w'=>e = .returned (.string s)∧∃ o' c',(0<n→o'=o+1)∧n≤c'∧c'≤c∧w'=w.setCell ⟨B,0,none⟩ (.slice (some ⟨bk,o',none⟩) n c'):=by
 have q1:(0:Int)<((n+1:Nat):Int):=by omega
 go_enter Tryz.func335,Tryz.ntmps335
 go_wp2_with (go_at_call 209;first|(with_reducible refine(RN _).mono ?_);rintro e w' ⟨⟨v,rfl⟩,rfl⟩)
 ·go_ret
  exact⟨rfl,o,by omega,0,by omega,by omega,rfl⟩
 ·go_ret
  exact⟨rfl,o+1,fun _=>rfl,c-1,by omega,by omega,rfl⟩
theorem aiP (w:World) (B c:Nat) (ad:Option Addr) (hl:w.cell? ⟨B,0,none⟩=some (.slice ad 0 c)) :
  Calls Tryz.prog 335 #[.pointer (some ⟨B,0,none⟩)] w fun e w'=>e=Co∧w=w':=by
 go_enter Tryz.func335,Tryz.ntmps335
 go_wp2_with (go_at_call 209;(with_reducible refine(Zw _).mono ?_);rintro e w' ⟨rfl,rfl⟩)
 simp[bodyPost]
open Go.RowKit Go.Shelf FlagM
open Go.Lib (grownBy_trans grownBy_below grownBy_allocR)
attribute [local go_sem] Oper.semAt_some
abbrev tW:TypeId:=275
def tF (w:World) (B:Nat) (ws:List ByteArray):Prop :=
 ∃ bk o c,Boxed w B tW (.slice (some ⟨bk,o,none⟩) ws.length c)∧ws.length≤c∧c≤4611686018427387904∧bk<B∧∀ j s,ws[j]? = some s→w.cell? ⟨bk,o+j,none⟩=some (.string s)
theorem tF.kept {A w:World} {B:Nat} {ws:List ByteArray} {row:Option Nat} (h:tF A B ws) (hg:A.grownBy w row) (hr:∀ k,row=some k→B<k):tF w B ws:=by
 obtain⟨bk,o,c,h1,h2,h3,h4,h5⟩:=h
 have hB:=h1.lt
 refine⟨bk,o,c,h1.kept hg (fun e=>by have:=hr _ e.symm;omega),h2,h3,h4,fun j s hs=>hg.cell (h5 j s hs) (fun e=>?_)⟩
 have:=hr _ e.symm
 simp only at this
 omega
theorem RO {w:World} {B:Nat} {s:ByteArray} {ws:List ByteArray} (h:tF w B (s::ws)) :
  Calls Tryz.prog 335 #[.pointer (some ⟨B,0,none⟩)] w fun e w'=>e = .returned (.string s)∧tF w' B ws∧w.grownBy w' (some B):=by
 obtain⟨bk,o,c,h1,h2,h3,h4,h5⟩:=h
 refine(aiO w B bk o c ws.length s (by simpa using h1.cell) h1.frozen (by simpa using h5 0 s rfl) (by simpa using h2) h3).mono ?_
 rintro e w' ⟨he,o',c',ho,hc1,hc2,rfl⟩
 refine⟨he,⟨bk,o',c',h1.set _,hc1,by omega,h4,fun j t ht=>?_⟩,grownBy_setCell' _ _ _⟩
 have hj:0<ws.length:=by have:=(List.getElem?_eq_some_iff.1 ht).1;omega
 rw[ho hj]
 have:=h5 (j+1) t (by simpa using ht)
 rw[show o+1+j=o+(j+1) by omega]
 exact(grownBy_setCell' w B _).cell this (by simp;omega)
theorem Zx {w:World} {B:Nat} (h:tF w B []):Calls Tryz.prog 335 #[.pointer (some ⟨B,0,none⟩)] w fun e w'=>e=Co∧w=w':=by
 obtain⟨bk,o,c,h1,h2,h3,h4,h5⟩:=h
 exact aiP w B c _ (by simpa using h1.cell)
theorem Zy (s:ByteArray):∀ (zs:List ByteArray) (i:Nat),Lib.idxFromS zs s i<((i+zs.length:Nat):Int)∨zs = []∧Lib.idxFromS zs s i = -1
 | [],i=>.inr ⟨rfl,rfl⟩
 | z::zs,i=>by
  left
  unfold Lib.idxFromS
  split
  ·simp;omega
  ·rcases Zy s zs (i+1) with h|⟨rfl,h⟩
   ·simp only[List.length_cons];omega
   ·rw[h];omega
theorem Zz (zs:List ByteArray) (s:ByteArray):Lib.idxOfS zs s<((zs.length+1:Nat):Int):=by
 rcases Zy s zs 0 with h|⟨_,h⟩
 ·unfold Lib.idxOfS;omega
 ·unfold Lib.idxOfS;omega
def Jc (w:World) (b:Nat) (zs:List ByteArray):Prop:=b<w.heap.size∧∀ j,j<zs.length→w.cell? ⟨b,0+j,none⟩=some (.string (zs.getD j ByteArray.empty))
theorem Jc.kept {A w:World} {b:Nat} {zs:List ByteArray} {row:Option Nat} (h:Jc A b zs) (hg:A.grownBy w row) (hr:some b≠row):Jc w b zs :=
 ⟨Nat.lt_of_lt_of_le h.1 hg.size,fun j hj=>hg.cell (h.2 j hj) hr⟩
theorem aiQ {w:World} {B:Nat} {s:ByteArray} {ws:List ByteArray} (h:tF w B (s::ws)) (b:Nat) (zs:List ByteArray) (hz:zs.length≤5) (hl:Jc w b zs) (hb:B<b) :
  Calls Tryz.prog 280 #[.pointer (some ⟨B,0,none⟩),.slice (some ⟨b,0,none⟩) zs.length zs.length] w fun e w' =>
   ((0≤Lib.idxOfS zs s∧e = .returned (.int .u8 (Lib.idxOfS zs s))∧tF w' B ws)∨(Lib.idxOfS zs s<0∧e=Co))∧w.grownBy w' (some B):=by
 have hx:=Zz zs s
 have H:=Lib.hid (RO h)
 have HL:=Lib.hid (fun W (hg:w.grownBy W (some B))=>hl.kept hg (fun e=>by have:=Option.some.inj e;omega))
 by_cases hi:0≤Lib.idxOfS zs s
 ·generalize hk:Lib.idxOfS zs s=k at hi hx
  have q1:k≥0:=hi
  have q2:k%256=k:=by omega
  go_enter Tryz.func280,Tryz.ntmps280
  go_wp2_with (first|(go_at_call 335;refine H.out.mono ?_;rintro e w1 ⟨rfl,hW,hg⟩;have hL:=HL.out _ hg;have HI:=Lib.hid (Tryz.slices_Index_string b 0 zs.length zs.length zs s w1 (Nat.le_refl _) (by omega) hL.2))|(go_at_call 337;refine HI.out.mono ?_;rintro e w2 ⟨rfl,rfl⟩;rw[List.take_length,hk])|(go_at_call 209;refine(RN _).mono ?_;rintro e w3 ⟨⟨v,rfl⟩,rfl⟩))
  go_ret
  exact⟨.inl ⟨hi,rfl,hW⟩,hg⟩
 ·generalize hk:Lib.idxOfS zs s=k at hi hx
  have q1:¬ k≥0:=hi
  go_enter Tryz.func280,Tryz.ntmps280
  go_wp2_with (first|(go_at_call 335;refine H.out.mono ?_;rintro e w1 ⟨rfl,hW,hg⟩;have hL:=HL.out _ hg;have HI:=Lib.hid (Tryz.slices_Index_string b 0 zs.length zs.length zs s w1 (Nat.le_refl _) (by omega) hL.2))|(go_at_call 337;refine HI.out.mono ?_;rintro e w2 ⟨rfl,rfl⟩;rw[List.take_length,hk])|(go_at_call 209;refine(Jb _ _ (by simp;omega)).mono ?_;rintro e w3 ⟨rfl,rfl⟩))
  exact uQ ⟨.inr ⟨by omega,rfl⟩,hg⟩
theorem aiR {w:World} {B:Nat} (h:tF w B []) (v:Value):Calls Tryz.prog 280 #[.pointer (some ⟨B,0,none⟩),v] w fun e w'=>e=Co∧w=w':=by
 have H:=Lib.hid (Zx h)
 go_enter Tryz.func280,Tryz.ntmps280
 go_wp2_with (go_at_call 335;refine H.out.mono ?_;rintro e w1 ⟨rfl,rfl⟩)
 exact uQ ⟨rfl,rfl⟩
def tH (zs:List ByteArray):List ByteArray→Option (Int×List ByteArray)
 | []=>none
 | s::ws=>if 0≤Lib.idxOfS zs s then some (Lib.idxOfS zs s,ws) else none
def Aq {α:Type} (enc:α→Value) (w:World) (B:Nat) (r:Option (α×List ByteArray)) (e:Ending) (w':World):Prop :=
 (match r with
  | some (a,ws)=>e = .returned (enc a)∧tF w' B ws
  | none=>e=Co)∧w.grownBy w' (some B)
theorem RP {w:World} {B:Nat} {ws:List ByteArray} (h:tF w B ws) (b:Nat) (zs:List ByteArray) (hz:zs.length≤5) (hl:Jc w b zs) (hb:B<b) :
  Calls Tryz.prog 280 #[.pointer (some ⟨B,0,none⟩),.slice (some ⟨b,0,none⟩) zs.length zs.length] w (Aq (fun k=>.int .u8 k) w B (tH zs ws)):=by
 match ws,h with
 | [],h=>exact(aiR h _).mono fun e w' ⟨h1,h2⟩=>⟨h1,h2▸World.grownBy.refl w _⟩
 | s::ws,h =>
  refine(aiQ h b zs hz hl hb).mono fun e w' ⟨h1,h2⟩=>⟨?_,h2⟩
  rcases h1 with⟨h3,h4,h5⟩|⟨h3,h4⟩
  ·rw[tH,if_pos h3];exact⟨h4,h5⟩
  ·rw[tH,if_neg (by omega)];exact h4
theorem tF.alloc {w:World} {B:Nat} {ws:List ByteArray} (h:tF w B ws) (o:Obj):tF (w.alloc o) B ws:=h.kept (World.grownBy_alloc w o none) (by simp)
theorem tF.lt {w:World} {B:Nat} {ws:List ByteArray} (h:tF w B ws):B<w.heap.size:=by obtain⟨_,_,_,h1,_⟩:=h;exact h1.lt
def vU:List ByteArray:=[⟨#[98,49,54]⟩,⟨#[98,51,50]⟩,⟨#[98,54,52]⟩,⟨#[98,49,50,56]⟩]
def zU:List ByteArray:=[⟨#[105,51,50]⟩,⟨#[117,51,50]⟩,⟨#[105,54,52]⟩,⟨#[117,54,52]⟩]
theorem RQ (w:World) (zs:List ByteArray) (t:TypeId):Jc (w.alloc (.cells (zs.map Value.string).toArray t)) w.heap.size zs:=by
 refine⟨by simp,fun j hj=>?_⟩
 have h:(w.alloc (.cells (zs.map Value.string).toArray t)).heap[w.heap.size]? = some (.cells (zs.map Value.string).toArray t):=World.alloc_heap_new _ _
 simp only[World.cell?,Nat.zero_add,h]
 simp[hj]
theorem RS {α:Type} {enc:α→Value} {w w1 w':World} {B:Nat} {r:Option (α×List ByteArray)} {e:Ending} (h:Aq enc w1 B r e w') (hg:w.grownBy w1 (some B)):Aq enc w B r e w':=⟨h.1,grownBy_trans hg h.2⟩
theorem xR {w:World} {B:Nat} {ws:List ByteArray} (h:tF w B ws):Calls Tryz.prog 274 #[.pointer (some ⟨B,0,none⟩)] w (Aq (fun k=>.int .u8 k) w B (tH vU ws)):=by
 have H:=Lib.hid (RP (h.alloc (.cells (vU.map Value.string).toArray 9)) w.heap.size vU (by decide) (RQ w vU _) h.lt)
 have hg0:w.grownBy (w.alloc (.cells (vU.map Value.string).toArray 9)) (some B):=World.grownBy_alloc _ _ _
 cases ho:tH vU ws with
 | none =>
  rw[ho] at H
  go_enter Tryz.func274,Tryz.ntmps274
  go_wp2_with (go_at_call 280;refine H.out.mono ?_;rintro e w1 ⟨rfl,hg⟩)
  exact uQ ⟨rfl,grownBy_trans hg0 hg⟩
 | some r =>
  obtain⟨k,ws'⟩:=r
  rw[ho] at H
  go_enter Tryz.func274,Tryz.ntmps274
  go_wp2_with (go_at_call 280;refine H.out.mono ?_;rintro e w1 ⟨⟨rfl,hW⟩,hg⟩)
  go_ret
  exact⟨⟨rfl,hW⟩,grownBy_trans hg0 hg⟩
theorem Fe {w:World} {B:Nat} {ws:List ByteArray} (h:tF w B ws):Calls Tryz.prog 277 #[.pointer (some ⟨B,0,none⟩)] w (Aq (fun k=>.int .u8 k) w B (tH zU ws)):=by
 have H:=Lib.hid (RP (h.alloc (.cells (zU.map Value.string).toArray 9)) w.heap.size zU (by decide) (RQ w zU _) h.lt)
 have hg0:w.grownBy (w.alloc (.cells (zU.map Value.string).toArray 9)) (some B):=World.grownBy_alloc _ _ _
 cases ho:tH zU ws with
 | none =>
  rw[ho] at H
  go_enter Tryz.func277,Tryz.ntmps277
  go_wp2_with (go_at_call 280;refine H.out.mono ?_;rintro e w1 ⟨rfl,hg⟩)
  exact uQ ⟨rfl,grownBy_trans hg0 hg⟩
 | some r =>
  obtain⟨k,ws'⟩:=r
  rw[ho] at H
  go_enter Tryz.func277,Tryz.ntmps277
  go_wp2_with (go_at_call 280;refine H.out.mono ?_;rintro e w1 ⟨⟨rfl,hW⟩,hg⟩)
  go_ret
  exact⟨⟨rfl,hW⟩,grownBy_trans hg0 hg⟩
open Go.RowKit Go.Shelf FlagM
open Go.Lib (grownBy_trans grownBy_below grownBy_allocR)
attribute [local go_sem] Oper.semAt_some
def Ff:ByteArray:=⟨#[48,49,50,51,52,53,54,55,56,57,97,98,99,100,101,102]⟩
def Jd (c:UInt8):Int:=Lib.indexByte Ff.data.toList c
theorem ZA (c:UInt8):(((c.toNat:Nat):Int).toNat).toUInt8=c:=by simp
def yn (b:Int×Int) (c:UInt8):Option (Int×Int):=if 0≤Jd c then some (bits .or .u64 (IntKind.u64.wrap (b.1*16)) (b.2/1152921504606846976),bits .or .u64 (IntKind.u64.wrap (b.2*16)) (IntKind.u64.wrap (Jd c))) else none
def ZB (ws:List ByteArray):Option (Int×Int)→Option ((Int×Int)×List ByteArray)
 | some b=>some (b,ws)
 | none=>none
def xu:List ByteArray→Option ((Int×Int)×List ByteArray)
 | []=>none
 | s::ws=>if s.size≤32 then ZB ws (s.data.toList.foldlM yn (0,0)) else none
abbrev NB (b:Int×Int):Value:=.agg #[.int .u64 b.1,.int .u64 b.2]
theorem aiS (w:World) (e:TypeId) (s:ByteArray) (row:Option Nat):w.grownBy (Lib.bytesWorld w e s) row :=
 ⟨rfl,by simp[Lib.bytesWorld,World.freeze],rfl,by rw[Lib.bytesWorld_size];omega,fun k hk _=>Lib.bytesWorld_at_old w e s k hk⟩
theorem set2 {w:World} {b:Nat} {a0 a1:Value} {t:TypeId} (h:w.heap[b]? = some (.cells #[a0,a1] t)) (v0 v1:Value):((w.setCell ⟨b,0,none⟩ v0).setCell ⟨b,1,none⟩ v1).heap[b]? = some (.cells #[v0,v1] t):=by
 have h1:(w.setCell ⟨b,0,none⟩ v0).heap[b]? = some (.cells #[v0,a1] t):=by
  show(w.heap.modify b _)[b]? = _
  rw[Array.getElem?_modify,if_pos rfl,h];rfl
 show((w.setCell ⟨b,0,none⟩ v0).heap.modify b _)[b]? = _
 rw[Array.getElem?_modify,if_pos rfl,h1];rfl
theorem um (w:World) (b i:Nat) (v:Value):w.grownBy (w.setCell ⟨b,i,none⟩ v) (some b) :=
 ⟨rfl,rfl,rfl,by show _≤(w.heap.modify b _).size;simp,fun k hk hne=>by
  show(w.heap.modify b _)[k]? = _
  rw[Array.getElem?_modify,if_neg (fun e=>hne (by rw[e]))]⟩
theorem RU (w:World) (b:Nat) (v0 v1:Value):w.grownBy ((w.setCell ⟨b,0,none⟩ v0).setCell ⟨b,1,none⟩ v1) (some b) :=
 grownBy_trans (um _ _ _ _) (um _ _ _ _)
theorem Fg {A X Y:World} {r:Option Nat} {n:Nat} (h1:A.grownBy X r) (h2:X.grownBy Y (some n)) (hn:A.heap.size≤n):A.grownBy Y r :=
 ⟨h2.os.trans h1.os,h2.tape.trans h1.tape,h2.output.trans h1.output,Nat.le_trans h1.size h2.size,fun k hk hne=>(h2.block k (Nat.lt_of_lt_of_le hk h1.size) (by simp;omega)).trans (h1.block k hk hne)⟩
theorem aiT (l:List UInt8) (k:Nat) (h:k<l.length) (b:Int×Int) (hb:(l.take k).foldlM yn (0,0)=some b):(l.take (k+1)).foldlM yn (0,0)=yn b (l.getD k 0):=by
 rw[List.take_succ_eq_append_getElem h,List.foldlM_append,hb]
 simp[h]
theorem aiU (l:List UInt8) (k:Nat) (h:(l.take k).foldlM yn (0,0)=none):l.foldlM yn (0,0)=none:=by
 have:=List.take_append_drop k l
 rw[← this,List.foldlM_append,h];rfl
theorem aiV {w:World} {B:Nat} {s:ByteArray} {ws:List ByteArray} (h:tF w B (s::ws)) (hs:s.size≤32) :
  Calls Tryz.prog 275 #[.pointer (some ⟨B,0,none⟩)] w (Aq NB w B (ZB ws (s.data.toList.foldlM yn (0,0)))):=by
 have hB:=h.lt
 have hlen:s.data.toList.length=s.size:=by show s.data.toList.length=s.data.size;exact Array.length_toList
 have H:=Lib.hid (RO (h.alloc (.cells #[.int .u64 0,.int .u64 0] 27)))
 have hcv:∀ (w:World) (s:ByteArray),(convert 9 23 (.string s)).run Tryz.prog w = .ok (.slice (some ⟨w.heap.size,0,none⟩) s.size (grownCap w s.size 0 5)) (Lib.bytesWorld w 5 s):=fun w s=>Lib.run_convert_string_bytes w _ _ _ s Tryz.underlying9 Tryz.underlying23 Tryz.underlying5
 have hg00:w.grownBy (w.alloc (.cells #[.int .u64 0,.int .u64 0] 27)) (some B):=World.grownBy_alloc _ _ _
 generalize hFo:s.data.toList.foldlM yn (0,0)=fo
 have HFo:=Lib.hid hFo
 clear hFo
 go_enter Tryz.func275,Tryz.ntmps275
 go_wp2_with (first|(go_at_call 335;refine H.out.mono ?_;rintro e w1 ⟨rfl,hW,hg⟩)|(go_at_call 209;refine(KP _ _ (by first|rfl|(simp;omega))).mono ?_;rintro e w3 ⟨⟨v,rfl⟩,rfl⟩))
 have hz:=hg.size
 simp at hz
 have hR:(w1.alloc (.cells #[.int .u64 0,.int .u64 0] 27)).heap[w1.heap.size]? = some (.cells #[.int .u64 0,.int .u64 0] 27):=World.alloc_heap_new _ _
 have hgb:=aiS (w1.alloc (.cells #[.int .u64 0,.int .u64 0] 27)) 5 s none
 have hcb:=fun j hj=>Lib.bytesWorld_cell (w1.alloc (.cells #[.int .u64 0,.int .u64 0] 27)) 5 s j hj
 have hw2:(w1.alloc (.cells #[.int .u64 0,.int .u64 0] 27)).heap.size=w1.heap.size+1:=by simp
 have hgc:w1.grownBy (w1.alloc (.cells #[.int .u64 0,.int .u64 0] 27)) none:=World.grownBy_alloc _ _ _
 generalize w1.alloc (.cells #[.int .u64 0,.int .u64 0] 27)=w2 at *
 generalize Lib.bytesWorld w2 5 s=w3 at *
 have hzb:=hgb.size
 have hG3:w.grownBy w3 (some B):=grownBy_trans hg00 (grownBy_trans hg (grownBy_trans ⟨hgc.os,hgc.tape,hgc.output,hgc.size,fun k hk _=>hgc.block k hk (by simp)⟩ ⟨hgb.os,hgb.tape,hgb.output,hgb.size,fun k hk _=>hgb.block k hk (by simp)⟩))
 have hW3:tF w3 B ws:=(hW.kept hgc (by simp)).kept hgb (by simp)
 go_loopw [17] (fun i wr=>∃ k:Nat,k≤s.size∧i = .int .i64 (k:Int)∧∃ hi lo:Int,wr.heap[w1.heap.size]? = some (.cells #[.int .u64 hi,.int .u64 lo] 27)∧(s.data.toList.take k).foldlM yn (0,0)=some (hi,lo)∧w3.grownBy wr (some w1.heap.size)) (fun i _=>s.size-(intOf i).toNat)
 case atStart=>exact⟨0,Nat.zero_le _,rfl,0,0,(hgb.block _ (by omega) (by simp)).trans hR,rfl,World.grownBy.refl _ _⟩
 case round =>
  obtain⟨k,hk,rfl,hi,lo,hR1,hfo,hgr⟩:=hrel
  have c0:wr.cell? ⟨w1.heap.size,0,none⟩=some (.int .u64 hi):=by simp[World.cell?,hR1]
  have c1:wr.cell? ⟨w1.heap.size,1,none⟩=some (.int .u64 lo):=by simp[World.cell?,hR1]
  have HG:=Lib.hid (Fg hG3 hgr (by omega))
  have HW:=Lib.hid (hW3.kept hgr (fun k e=>by have:=Option.some.inj e;omega))
  have HF:=Lib.hid hfo
  by_cases hlt:k<s.size
  ·have hcx:wr.cell? ⟨w1.heap.size+1,k,none⟩=some (.int .u8 ((s.data.toList.getD k 0).toNat:Int)):=by
    rw[← hw2]
    exact hgr.cell (hcb k hlt) (by simp;omega)
   have HS:=Lib.hid (aiT s.data.toList k (by omega) _ hfo)
   clear hfo
   generalize s.data.toList.getD k 0=x at hcx HS
   have q1:(k:Int)<(s.size:Int):=by omega
   have z0:wr.frozen? ⟨w1.heap.size,0,none⟩=false:=by simp[World.frozen?,hR1]
   have z1:wr.frozen? ⟨w1.heap.size,1,none⟩=false:=by simp[World.frozen?,hR1]
   have HIx:=Lib.hid (fun W=>Tryz.strings_IndexByte Ff (x.toNat:Int) W)
   by_cases hd:0≤Jd x
   ·go_wp2_with (first|(go_at_call 336;refine(HIx.out _).mono ?_;rintro e w5 ⟨rfl,rfl⟩;rw[ZA];have hdx:Lib.indexByte Ff.data.toList x=Jd x:=rfl;rw[hdx])|(go_at_call 209;refine(KP _ _ (by first|rfl|(simp;omega))).mono ?_;rintro e w6 ⟨⟨v,rfl⟩,rfl⟩))
    refine⟨⟨k+1,by omega,by simp,_,_,set2 hR1 _ _,?_,grownBy_trans hgr (RU _ _ _ _)⟩,by simp[intOf];omega⟩
    rw[HS.out,yn,if_pos hd]
   ·go_wp2_with (first|(go_at_call 336;refine(HIx.out _).mono ?_;rintro e w5 ⟨rfl,rfl⟩;rw[ZA];have hdx:Lib.indexByte Ff.data.toList x=Jd x:=rfl;rw[hdx])|(go_at_call 209;refine(Jb _ _ (by first|rfl|(simp;omega))).mono ?_;rintro e w6 ⟨rfl,rfl⟩))
    refine uQ ⟨?_,HG.out⟩
    have hn:fo=none:=by
     rw[← HFo.out]
     refine aiU _ (k+1) ?_
     rw[HS.out,yn,if_neg (by omega)]
    rw[hn]
    exact rfl
  ·obtain rfl:k=s.size:=by omega
   have hRw:wr.heap[w.heap.size]? = some (.cells #[.int .u64 0,.int .u64 0] 27):=by
    rw[hgr.block _ (by omega) (by simp;omega),hgb.block _ (by omega) (by simp),hgc.block _ (by omega) (by simp),hg.block _ (by simp) (by simp;omega)]
    exact World.alloc_heap_new _ _
   have d0:wr.frozen? ⟨w.heap.size,0,none⟩=false:=by simp[World.frozen?,hRw]
   have d1:wr.frozen? ⟨w.heap.size,1,none⟩=false:=by simp[World.frozen?,hRw]
   have e0:wr.cell? ⟨w.heap.size,0,none⟩=some (.int .u64 0):=by simp[World.cell?,hRw]
   have e1:wr.cell? ⟨w.heap.size,1,none⟩=some (.int .u64 0):=by simp[World.cell?,hRw]
   have hfin:fo=some (hi,lo):=by
    rw[← HFo.out,← HF.out,← hlen,List.take_length]
   have hset:=set2 hRw (.int .u64 hi) (.int .u64 lo)
   have hgs:=RU wr w.heap.size (.int .u64 hi) (.int .u64 lo)
   go_wp2
   generalize (wr.setCell ⟨w.heap.size,0,none⟩ (.int .u64 hi)).setCell ⟨w.heap.size,1,none⟩ (.int .u64 lo)=W6 at *
   have f0:W6.cell? ⟨w.heap.size,0,none⟩=some (.int .u64 hi):=by simp[World.cell?,hset]
   have f1:W6.cell? ⟨w.heap.size,1,none⟩=some (.int .u64 lo):=by simp[World.cell?,hset]
   refine bodyPost_ret (v:=NB (hi,lo)) (by simp[results,Tryz.results275,go_sem,f0,f1,NB]) rfl ?_
   rw[hfin]
   exact⟨⟨rfl,HW.out.kept hgs (fun k e=>by have:=Option.some.inj e;omega)⟩,Fg HG.out hgs (Nat.le_refl _)⟩
theorem zV {w:World} {B:Nat} {ws:List ByteArray} (h:tF w B ws) :
  Calls Tryz.prog 275 #[.pointer (some ⟨B,0,none⟩)] w (Aq NB w B (xu ws)):=by
 match ws,h with
 | [],h =>
  have H:=Lib.hid (Zx (h.alloc (.cells #[.int .u64 0,.int .u64 0] 27)))
  have hg0:w.grownBy (w.alloc (.cells #[.int .u64 0,.int .u64 0] 27)) (some B):=World.grownBy_alloc _ _ _
  go_enter Tryz.func275,Tryz.ntmps275
  go_wp2_with (go_at_call 335;refine H.out.mono ?_;rintro e w1 ⟨rfl,rfl⟩)
  exact uQ ⟨rfl,hg0⟩
 | s::ws,h =>
  by_cases hs:s.size≤32
  ·rw[xu,if_pos hs];exact aiV h hs
  ·rw[xu,if_neg hs]
   have H:=Lib.hid (RO (h.alloc (.cells #[.int .u64 0,.int .u64 0] 27)))
   have hg0:w.grownBy (w.alloc (.cells #[.int .u64 0,.int .u64 0] 27)) (some B):=World.grownBy_alloc _ _ _
   go_enter Tryz.func275,Tryz.ntmps275
   go_wp2_with (first|(go_at_call 335;refine H.out.mono ?_;rintro e w1 ⟨rfl,hW,hg⟩)|(go_at_call 209;refine(Jb _ _ (by simp;omega)).mono ?_;rintro e w3 ⟨rfl,rfl⟩))
   exact uQ ⟨rfl,grownBy_trans hg0 hg⟩
open Go.RowKit Go.Shelf FlagM
open Go.Lib (grownBy_trans grownBy_below grownBy_allocR)
attribute [local go_sem] Oper.semAt_some
inductive sS where
 | op (o f t:Int) (a b c:Int×Int)
 | env (m t:Int)
 | clear
 | sticky
abbrev uG (o f t m i:Int) (a b c:Int×Int):Array Value:=#[.int .u8 o,.int .u8 f,.int .u8 t,.int .u8 m,.int .u8 i,.int .u64 a.1,.int .u64 a.2,.int .u64 b.1,.int .u64 b.2,.int .u64 c.1,.int .u64 c.2]
def zg (W:World) (a b:Nat) (v:Value):sS→Prop
 | .op o f t x y z=>∃ B,a≤B∧B<b∧v = .func (.func 333) #[] #[.pointer (some ⟨B,0,none⟩)]∧W.heap[B]? = some (.cells (uG o f t 0 0 x y z) 29)
 | .env m t=>∃ B1 B2 B3,a≤B1∧B1<b∧a≤B2∧B2<b∧a≤B3∧B3<b∧v = .func (.func 338) #[] #[.pointer (some ⟨B3,0,none⟩)]∧W.heap[B3]? = some (.cells #[.func (.func 282) #[] #[.pointer (some ⟨B1,0,none⟩),.pointer (some ⟨B2,0,none⟩)]] 348) ∧
   W.heap[B1]? = some (.cells #[.int .u8 m] 5)∧W.heap[B2]? = some (.cells #[.int .u8 t] 5)
 | .clear=>∃ B,a≤B∧B<b∧v = .func (.func 338) #[] #[.pointer (some ⟨B,0,none⟩)]∧W.heap[B]? = some (.cells #[.func (.func 284) #[] #[]] 348)
 | .sticky=>v = .func (.func 286) #[] #[]
theorem zg.kept {W X:World} {a b:Nat} {v:Value} {c:sS} (h:zg W a b v c) (hX:∀ k,a≤k→k<b→X.heap[k]? = W.heap[k]?):zg X a b v c:=by
 cases c with
 | op o f t x y z=>obtain⟨B,h1,h2,h3,h4⟩:=h;exact⟨B,h1,h2,h3,(hX B h1 h2).trans h4⟩
 | env m t=>obtain⟨B1,B2,B3,h1,h2,h3,h4,h5,h6,h7,h8,h9,h10⟩:=h;exact⟨B1,B2,B3,h1,h2,h3,h4,h5,h6,h7,(hX B3 h5 h6).trans h8,(hX B1 h1 h2).trans h9,(hX B2 h3 h4).trans h10⟩
 | clear=>obtain⟨B,h1,h2,h3,h4⟩:=h;exact⟨B,h1,h2,h3,(hX B h1 h2).trans h4⟩
 | sticky=>exact h
theorem zg.wide {W:World} {a b a' b':Nat} {v:Value} {c:sS} (h:zg W a b v c) (ha:a'≤a) (hb:b≤b'):zg W a' b' v c:=by
 cases c with
 | op o f t x y z=>obtain⟨B,h1,h2,h3,h4⟩:=h;exact⟨B,by omega,by omega,h3,h4⟩
 | env m t=>obtain⟨B1,B2,B3,h1,h2,h3,h4,h5,h6,h7,h8,h9,h10⟩:=h;exact⟨B1,B2,B3,by omega,by omega,by omega,by omega,by omega,by omega,h7,h8,h9,h10⟩
 | clear=>obtain⟨B,h1,h2,h3,h4⟩:=h;exact⟨B,by omega,by omega,h3,h4⟩
 | sticky=>exact h
def Br (w:World) (B:Nat) (r:Option (sS×List ByteArray)) (e:Ending) (w':World):Prop :=
 (match r with
  | some (c,ws)=>(∃ v,e = .returned v∧zg w' w.heap.size w'.heap.size v c)∧tF w' B ws
  | none=>e=Co)∧w.grownBy w' (some B)
theorem NC (w:World) (o f t:Int) (a b c:Int×Int):Calls Tryz.prog 273 #[.agg (uG o f t 0 0 a b c)] w fun e w'=>e = .returned (.func (.func 333) #[] #[.pointer (some ⟨w.heap.size,0,none⟩)])∧w'=w.alloc (.cells (uG o f t 0 0 a b c) 29):=by
 go_enter Tryz.func273,Tryz.ntmps273
 go_wp2
 go_ret
 exact⟨rfl,rfl⟩
theorem ZC (w:World) (f:Fn) (x y:Array Value):Calls Tryz.prog 281 #[.func f x y] w fun e w'=>e = .returned (.func (.func 338) #[] #[.pointer (some ⟨w.heap.size,0,none⟩)])∧w'=w.alloc (.cells #[.func f x y] 348):=by
 go_enter Tryz.func281,Tryz.ntmps281
 go_wp2
 go_ret
 exact⟨rfl,rfl⟩
theorem ND {w w1:World} {B:Nat} {ws:List ByteArray} (hg:w.grownBy w1 (some B)) (hW:tF w1 B ws) (o f t:Int) (a b c:Int×Int) :
  Br w B (some (.op o f t a b c,ws)) (.returned (.func (.func 333) #[] #[.pointer (some ⟨w1.heap.size,0,none⟩)])) (w1.alloc (.cells (uG o f t 0 0 a b c) 29)):=by
 have hs:=hg.size
 exact⟨⟨⟨_,rfl,w1.heap.size,hs,by simp,rfl,World.alloc_heap_new _ _⟩,hW.alloc _⟩,grownBy_allocR hg _⟩
def yZ (ws:List ByteArray):Option (sS×List ByteArray) :=
 match tH vU ws with
 | none=>none
 | some (f,ws1) =>
  match tH vU ws1 with
  | none=>none
  | some (t,ws2) =>
   match xu ws2 with
   | none=>none
   | some (a,ws3) =>
    some (.op 10 f t a (0,0) (0,0),ws3)
theorem aiW {w:World} {B:Nat} {ws:List ByteArray} (h:tF w B ws):Calls Tryz.prog 272 #[.pointer (some ⟨B,0,none⟩)] w (Br w B (yZ ws)):=by
 cases h1:tH vU ws with
 | none =>
  have H1:=xR h
  rw[h1] at H1
  have H1:=Lib.hid H1
  have hsp:yZ ws=none:=by simp[yZ,h1]
  go_enter Tryz.func272,Tryz.ntmps272
  go_wp2_with (first|(go_at_call 274;refine H1.out.mono ?_;rintro e w1 ⟨rfl,hg1⟩))
  refine uQ ?_
  try rw[hsp]
  exact⟨rfl,hg1⟩
 | some r1 =>
  obtain⟨f,ws1⟩:=r1
  cases h2:tH vU ws1 with
  | none =>
   have H1:=xR h
   rw[h1] at H1
   have H1:=Lib.hid H1
   have hsp:yZ ws=none:=by simp[yZ,h1,h2]
   go_enter Tryz.func272,Tryz.ntmps272
   go_wp2_with (first|(go_at_call 274;refine H1.out.mono ?_;rintro e w1 ⟨⟨rfl,hW1⟩,hg1⟩;have H2:=xR hW1;rw[h2] at H2;have H2:=Lib.hid H2)|(go_at_call 274;refine H2.out.mono ?_;rintro e w2 ⟨rfl,hg2⟩))
   refine uQ ?_
   try rw[hsp]
   exact⟨rfl,grownBy_trans (hg1) hg2⟩
  | some r2 =>
   obtain⟨t,ws2⟩:=r2
   cases h3:xu ws2 with
   | none =>
    have H1:=xR h
    rw[h1] at H1
    have H1:=Lib.hid H1
    have hsp:yZ ws=none:=by simp[yZ,h1,h2,h3]
    go_enter Tryz.func272,Tryz.ntmps272
    go_wp2_with (first|(go_at_call 274;refine H1.out.mono ?_;rintro e w1 ⟨⟨rfl,hW1⟩,hg1⟩;have H2:=xR hW1;rw[h2] at H2;have H2:=Lib.hid H2)|(go_at_call 274;refine H2.out.mono ?_;rintro e w2 ⟨⟨rfl,hW2⟩,hg2⟩;have H3:=zV hW2;rw[h3] at H3;have H3:=Lib.hid H3)|(go_at_call 275;refine H3.out.mono ?_;rintro e w3 ⟨rfl,hg3⟩))
    refine uQ ?_
    try rw[hsp]
    exact⟨rfl,grownBy_trans (grownBy_trans (hg1) hg2) hg3⟩
   | some r3 =>
    obtain⟨a,ws3⟩:=r3
    have H1:=xR h
    rw[h1] at H1
    have H1:=Lib.hid H1
    have hsp:yZ ws=some (.op 10 f t a (0,0) (0,0),ws3):=by simp[yZ,h1,h2,h3]
    go_enter Tryz.func272,Tryz.ntmps272
    go_wp2_with (first|(go_at_call 274;refine H1.out.mono ?_;rintro e w1 ⟨⟨rfl,hW1⟩,hg1⟩;have H2:=xR hW1;rw[h2] at H2;have H2:=Lib.hid H2)|(go_at_call 274;refine H2.out.mono ?_;rintro e w2 ⟨⟨rfl,hW2⟩,hg2⟩;have H3:=zV hW2;rw[h3] at H3;have H3:=Lib.hid H3)|(go_at_call 275;refine H3.out.mono ?_;rintro e w3 ⟨⟨rfl,hW3⟩,hg3⟩)|(go_at_call 273;refine(NC _ 10 f t a (0,0) (0,0)).mono ?_;rintro e w9 ⟨rfl,rfl⟩))
    go_ret
    try rw[hsp]
    exact ND (grownBy_trans (grownBy_trans (hg1) hg2) hg3) hW3 10 f t a (0,0) (0,0)
def zC (ws:List ByteArray):Option (sS×List ByteArray) :=
 match tH vU ws with
 | none=>none
 | some (f,ws1) =>
  match tH zU ws1 with
  | none=>none
  | some (t,ws2) =>
   match xu ws2 with
   | none=>none
   | some (a,ws3) =>
    some (.op 11 f t a (0,0) (0,0),ws3)
theorem aiX {w:World} {B:Nat} {ws:List ByteArray} (h:tF w B ws):Calls Tryz.prog 276 #[.pointer (some ⟨B,0,none⟩)] w (Br w B (zC ws)):=by
 cases h1:tH vU ws with
 | none =>
  have H1:=xR h
  rw[h1] at H1
  have H1:=Lib.hid H1
  have hsp:zC ws=none:=by simp[zC,h1]
  go_enter Tryz.func276,Tryz.ntmps276
  go_wp2_with (first|(go_at_call 274;refine H1.out.mono ?_;rintro e w1 ⟨rfl,hg1⟩))
  refine uQ ?_
  try rw[hsp]
  exact⟨rfl,hg1⟩
 | some r1 =>
  obtain⟨f,ws1⟩:=r1
  cases h2:tH zU ws1 with
  | none =>
   have H1:=xR h
   rw[h1] at H1
   have H1:=Lib.hid H1
   have hsp:zC ws=none:=by simp[zC,h1,h2]
   go_enter Tryz.func276,Tryz.ntmps276
   go_wp2_with (first|(go_at_call 274;refine H1.out.mono ?_;rintro e w1 ⟨⟨rfl,hW1⟩,hg1⟩;have H2:=Fe hW1;rw[h2] at H2;have H2:=Lib.hid H2)|(go_at_call 277;refine H2.out.mono ?_;rintro e w2 ⟨rfl,hg2⟩))
   refine uQ ?_
   try rw[hsp]
   exact⟨rfl,grownBy_trans (hg1) hg2⟩
  | some r2 =>
   obtain⟨t,ws2⟩:=r2
   cases h3:xu ws2 with
   | none =>
    have H1:=xR h
    rw[h1] at H1
    have H1:=Lib.hid H1
    have hsp:zC ws=none:=by simp[zC,h1,h2,h3]
    go_enter Tryz.func276,Tryz.ntmps276
    go_wp2_with (first|(go_at_call 274;refine H1.out.mono ?_;rintro e w1 ⟨⟨rfl,hW1⟩,hg1⟩;have H2:=Fe hW1;rw[h2] at H2;have H2:=Lib.hid H2)|(go_at_call 277;refine H2.out.mono ?_;rintro e w2 ⟨⟨rfl,hW2⟩,hg2⟩;have H3:=zV hW2;rw[h3] at H3;have H3:=Lib.hid H3)|(go_at_call 275;refine H3.out.mono ?_;rintro e w3 ⟨rfl,hg3⟩))
    refine uQ ?_
    try rw[hsp]
    exact⟨rfl,grownBy_trans (grownBy_trans (hg1) hg2) hg3⟩
   | some r3 =>
    obtain⟨a,ws3⟩:=r3
    have H1:=xR h
    rw[h1] at H1
    have H1:=Lib.hid H1
    have hsp:zC ws=some (.op 11 f t a (0,0) (0,0),ws3):=by simp[zC,h1,h2,h3]
    go_enter Tryz.func276,Tryz.ntmps276
    go_wp2_with (first|(go_at_call 274;refine H1.out.mono ?_;rintro e w1 ⟨⟨rfl,hW1⟩,hg1⟩;have H2:=Fe hW1;rw[h2] at H2;have H2:=Lib.hid H2)|(go_at_call 277;refine H2.out.mono ?_;rintro e w2 ⟨⟨rfl,hW2⟩,hg2⟩;have H3:=zV hW2;rw[h3] at H3;have H3:=Lib.hid H3)|(go_at_call 275;refine H3.out.mono ?_;rintro e w3 ⟨⟨rfl,hW3⟩,hg3⟩)|(go_at_call 273;refine(NC _ 11 f t a (0,0) (0,0)).mono ?_;rintro e w9 ⟨rfl,rfl⟩))
    go_ret
    try rw[hsp]
    exact ND (grownBy_trans (grownBy_trans (hg1) hg2) hg3) hW3 11 f t a (0,0) (0,0)
def zD (ws:List ByteArray):Option (sS×List ByteArray) :=
 match tH zU ws with
 | none=>none
 | some (t,ws1) =>
  match tH vU ws1 with
  | none=>none
  | some (f,ws2) =>
   match xu ws2 with
   | none=>none
   | some (a,ws3) =>
    some (.op 12 f t a (0,0) (0,0),ws3)
theorem aiY {w:World} {B:Nat} {ws:List ByteArray} (h:tF w B ws):Calls Tryz.prog 278 #[.pointer (some ⟨B,0,none⟩)] w (Br w B (zD ws)):=by
 cases h1:tH zU ws with
 | none =>
  have H1:=Fe h
  rw[h1] at H1
  have H1:=Lib.hid H1
  have hsp:zD ws=none:=by simp[zD,h1]
  go_enter Tryz.func278,Tryz.ntmps278
  go_wp2_with (first|(go_at_call 277;refine H1.out.mono ?_;rintro e w1 ⟨rfl,hg1⟩))
  refine uQ ?_
  try rw[hsp]
  exact⟨rfl,hg1⟩
 | some r1 =>
  obtain⟨t,ws1⟩:=r1
  cases h2:tH vU ws1 with
  | none =>
   have H1:=Fe h
   rw[h1] at H1
   have H1:=Lib.hid H1
   have hsp:zD ws=none:=by simp[zD,h1,h2]
   go_enter Tryz.func278,Tryz.ntmps278
   go_wp2_with (first|(go_at_call 277;refine H1.out.mono ?_;rintro e w1 ⟨⟨rfl,hW1⟩,hg1⟩;have H2:=xR hW1;rw[h2] at H2;have H2:=Lib.hid H2)|(go_at_call 274;refine H2.out.mono ?_;rintro e w2 ⟨rfl,hg2⟩))
   refine uQ ?_
   try rw[hsp]
   exact⟨rfl,grownBy_trans (hg1) hg2⟩
  | some r2 =>
   obtain⟨f,ws2⟩:=r2
   cases h3:xu ws2 with
   | none =>
    have H1:=Fe h
    rw[h1] at H1
    have H1:=Lib.hid H1
    have hsp:zD ws=none:=by simp[zD,h1,h2,h3]
    go_enter Tryz.func278,Tryz.ntmps278
    go_wp2_with (first|(go_at_call 277;refine H1.out.mono ?_;rintro e w1 ⟨⟨rfl,hW1⟩,hg1⟩;have H2:=xR hW1;rw[h2] at H2;have H2:=Lib.hid H2)|(go_at_call 274;refine H2.out.mono ?_;rintro e w2 ⟨⟨rfl,hW2⟩,hg2⟩;have H3:=zV hW2;rw[h3] at H3;have H3:=Lib.hid H3)|(go_at_call 275;refine H3.out.mono ?_;rintro e w3 ⟨rfl,hg3⟩))
    refine uQ ?_
    try rw[hsp]
    exact⟨rfl,grownBy_trans (grownBy_trans (hg1) hg2) hg3⟩
   | some r3 =>
    obtain⟨a,ws3⟩:=r3
    have H1:=Fe h
    rw[h1] at H1
    have H1:=Lib.hid H1
    have hsp:zD ws=some (.op 12 f t a (0,0) (0,0),ws3):=by simp[zD,h1,h2,h3]
    go_enter Tryz.func278,Tryz.ntmps278
    go_wp2_with (first|(go_at_call 277;refine H1.out.mono ?_;rintro e w1 ⟨⟨rfl,hW1⟩,hg1⟩;have H2:=xR hW1;rw[h2] at H2;have H2:=Lib.hid H2)|(go_at_call 274;refine H2.out.mono ?_;rintro e w2 ⟨⟨rfl,hW2⟩,hg2⟩;have H3:=zV hW2;rw[h3] at H3;have H3:=Lib.hid H3)|(go_at_call 275;refine H3.out.mono ?_;rintro e w3 ⟨⟨rfl,hW3⟩,hg3⟩)|(go_at_call 273;refine(NC _ 12 f t a (0,0) (0,0)).mono ?_;rintro e w9 ⟨rfl,rfl⟩))
    go_ret
    try rw[hsp]
    exact ND (grownBy_trans (grownBy_trans (hg1) hg2) hg3) hW3 12 f t a (0,0) (0,0)
theorem aiZ {w:World} {B:Nat} {ws:List ByteArray} (h:tF w B ws):Calls Tryz.prog 283 #[.pointer (some ⟨B,0,none⟩)] w (Br w B (some (.clear,ws))):=by
 go_enter Tryz.func283,Tryz.ntmps283
 go_wp2_with (go_at_call 281;refine(ZC _ _ _ _).mono ?_;rintro e w9 ⟨rfl,rfl⟩)
 go_ret
 exact⟨⟨⟨_,rfl,w.heap.size,Nat.le_refl _,by simp,rfl,World.alloc_heap_new _ _⟩,h.alloc _⟩,World.grownBy_alloc _ _ _⟩
theorem ai0 {w:World} {B:Nat} {ws:List ByteArray} (h:tF w B ws):Calls Tryz.prog 285 #[.pointer (some ⟨B,0,none⟩)] w (Br w B (some (.sticky,ws))):=by
 go_enter Tryz.func285,Tryz.ntmps285
 go_wp2
 go_ret
 exact⟨⟨⟨_,rfl,rfl⟩,h⟩,World.grownBy.refl _ _⟩
open Go.RowKit Go.Shelf FlagM
open Go.Lib (grownBy_trans grownBy_below grownBy_allocR)
attribute [local go_sem] Oper.semAt_some
def Ar:List ByteArray:=[⟨#[110,101,97,114]⟩,⟨#[97,119,97,121]⟩,⟨#[117,112]⟩,⟨#[100,111,119,110]⟩,⟨#[122,101,114,111]⟩]
def Bu:List ByteArray:=[⟨#[98,101,102,111,114,101]⟩,⟨#[97,102,116,101,114]⟩]
def vO (ws:List ByteArray):Option (sS×List ByteArray) :=
 match tH Ar ws with
 | none=>none
 | some (m,ws1) =>
  match tH Bu ws1 with
  | none=>none
  | some (t,ws2)=>some (.env m t,ws2)
theorem Je (w:World) (A O:Obj):((w.alloc A).alloc O).heap[w.heap.size+1]? = some O:=by
 have:=World.alloc_heap_new (w.alloc A) O
 rwa [show(w.alloc A).heap.size=w.heap.size+1 by simp] at this
theorem alloc_at {w:World} {b:Nat} {o:Obj} (h:w.heap[b]? = some o) (A:Obj):(w.alloc A).heap[b]? = some o:=(Below.heap_alloc w A b (Array.getElem?_eq_some_iff.1 h).1).trans h
theorem KQ {w:World} {B:Nat} {ws:List ByteArray} (h:tF w B ws) (zs:List ByteArray) (hz:zs.length≤5) :
  Calls Tryz.prog 280 #[.pointer (some ⟨B,0,none⟩),.slice (some ⟨w.heap.size,0,none⟩) zs.length zs.length] (w.alloc (.cells (zs.map Value.string).toArray 9)) (Aq (fun k=>.int .u8 k) w B (tH zs ws)) :=
 (RP (h.alloc (.cells (zs.map Value.string).toArray 9)) w.heap.size zs hz (RQ w zs _) h.lt).mono fun e w' h'=>RS h' (World.grownBy_alloc _ _ _)
theorem ai1 {w:World} {B:Nat} {ws:List ByteArray} (h:tF w B ws):Calls Tryz.prog 279 #[.pointer (some ⟨B,0,none⟩)] w (Br w B (vO ws)):=by
 cases h1:tH Ar ws with
 | none =>
  have H1:=KQ h Ar (by decide)
  rw[h1] at H1
  simp only[Ar,Bu,List.map_cons,List.map_nil,List.length_cons,List.length_nil,Nat.reduceAdd] at H1
  have H1:=Lib.hid H1
  have hsp:vO ws=none:=by simp[vO,h1]
  go_enter Tryz.func279,Tryz.ntmps279
  go_wp2_with (go_at_call 280;refine H1.out.mono ?_;rintro e w1 ⟨rfl,hg1⟩)
  refine uQ ?_
  try rw[hsp]
  exact⟨rfl,hg1⟩
 | some r1 =>
  obtain⟨m,ws1⟩:=r1
  cases h2:tH Bu ws1 with
  | none =>
   have H1:=KQ h Ar (by decide)
   rw[h1] at H1
   simp only[Ar,Bu,List.map_cons,List.map_nil,List.length_cons,List.length_nil,Nat.reduceAdd] at H1
   have H1:=Lib.hid H1
   have hsp:vO ws=none:=by simp[vO,h1,h2]
   go_enter Tryz.func279,Tryz.ntmps279
   go_wp2_with (first|(go_at_call 280;refine H1.out.mono ?_;rintro e w1 ⟨⟨rfl,hW1⟩,hg1⟩;have H2:=KQ hW1 Bu (by decide);rw[h2] at H2;simp only[Ar,Bu,List.map_cons,List.map_nil,List.length_cons,List.length_nil,Nat.reduceAdd] at H2;have H2:=Lib.hid H2;clear H1)|(go_at_call 280;refine H2.out.mono ?_;rintro e w2 ⟨rfl,hg2⟩))
   refine uQ ?_
   try rw[hsp]
   exact⟨rfl,grownBy_trans hg1 hg2⟩
  | some r2 =>
   obtain⟨t,ws2⟩:=r2
   have H1:=KQ h Ar (by decide)
   rw[h1] at H1
   simp only[Ar,Bu,List.map_cons,List.map_nil,List.length_cons,List.length_nil,Nat.reduceAdd] at H1
   have H1:=Lib.hid H1
   have hsp:vO ws=some (.env m t,ws2):=by simp[vO,h1,h2]
   go_enter Tryz.func279,Tryz.ntmps279
   go_wp2_with (first|(go_at_call 280;refine H1.out.mono ?_;rintro e w1 ⟨⟨rfl,hW1⟩,hg1⟩;have H2:=KQ hW1 Bu (by decide);rw[h2] at H2;simp only[Ar,Bu,List.map_cons,List.map_nil,List.length_cons,List.length_nil,Nat.reduceAdd] at H2;have H2:=Lib.hid H2;clear H1)|(go_at_call 280;refine H2.out.mono ?_;rintro e w2 ⟨⟨rfl,hW2⟩,hg2⟩)|(go_at_call 281;refine(ZC _ _ _ _).mono ?_;rintro e w9 ⟨rfl,rfl⟩))
   go_ret
   try rw[hsp]
   have hz:=(grownBy_trans hg1 hg2).size
   have k1:=World.alloc_heap_new w2 (.cells #[.int .u8 m] 5)
   have k2:=Je w2 (.cells #[.int .u8 m] 5) (.cells #[.int .u8 t] 5)
   refine⟨⟨⟨_,rfl,w2.heap.size,w2.heap.size+1,w2.heap.size+1+1,hz,by simp;omega,by omega,by simp,by omega,by simp,rfl,?_,?_,?_⟩,((hW2.alloc _).alloc _).alloc _⟩,grownBy_allocR (grownBy_allocR (grownBy_allocR (grownBy_trans hg1 hg2) _) _) _⟩
   ·have:=World.alloc_heap_new ((w2.alloc (.cells #[.int .u8 m] 5)).alloc (.cells #[.int .u8 t] 5)) (.cells #[.func (.func 282) #[] #[.pointer (some ⟨w2.heap.size,0,none⟩),.pointer (some ⟨w2.heap.size+1,0,none⟩)]] 348)
    rwa [show((w2.alloc (.cells #[.int .u8 m] 5)).alloc (.cells #[.int .u8 t] 5)).heap.size=w2.heap.size+1+1 by simp] at this
   ·exact alloc_at (alloc_at k1 _) _
   ·exact alloc_at k2 _
def yM:Nat→List ByteArray→Option (List (Int×Int)×List ByteArray)
 | 0,ws=>some ([],ws)
 | n+1,ws=>match yM n ws with
  | none=>none
  | some (l,ws1)=>match xu ws1 with
   | none=>none
   | some (a,ws2)=>some (l ++ [a],ws2)
def uR (o:Int) (n:Nat) (ws:List ByteArray):Option (sS×List ByteArray) :=
 match tH vU ws with
 | none=>none
 | some (f,ws1)=>match yM n ws1 with
  | none=>none
  | some (l,ws2)=>some (.op o f 0 (l[0]?.getD (0,0)) (l[1]?.getD (0,0)) (l[2]?.getD (0,0)),ws2)
theorem Bv (w:World) (row:Option Nat):w.grownBy w.drew row:=⟨rfl,rfl,rfl,Nat.le_refl _,fun _ _ _=>rfl⟩
theorem tF.drew {w:World} {B:Nat} {ws:List ByteArray} (h:tF w B ws):tF w.drew B ws:=h.kept (Bv w none) (by simp)
theorem ZE {α:Type} {enc:α→Value} {w w':World} {B:Nat} {r:Option (α×List ByteArray)} {e:Ending} (h:Aq enc w.drew B r e w'):Aq enc w B r e w':=RS h (Bv w _)
theorem uA {w:World} {b i:Nat} {c:Array Value} {t:TypeId} (h:w.heap[b]? = some (.cells c t)) (v:Value):(w.setCell ⟨b,i,none⟩ v).heap[b]? = some (.cells (c.setIfInBounds i v) t):=by
 show(w.heap.modify b _)[b]? = _
 rw[Array.getElem?_modify,if_pos rfl,h]
 rfl
theorem ai2 {w:World} {b:Nat} {a0 a1 a2 a3 a4 a5 a6 a7 a8 a9 a10:Value} {t:TypeId} (h:w.heap[b]? = some (.cells #[a0,a1,a2,a3,a4,a5,a6,a7,a8,a9,a10] t)) (v0 v1 v2 v3 v4 v5 v6 v7 v8 v9 v10:Value):(((((((((((w.setCell ⟨b,0,none⟩ v0).setCell ⟨b,1,none⟩ v1).setCell ⟨b,2,none⟩ v2).setCell ⟨b,3,none⟩ v3).setCell ⟨b,4,none⟩ v4).setCell ⟨b,5,none⟩ v5).setCell ⟨b,6,none⟩ v6).setCell ⟨b,7,none⟩ v7).setCell ⟨b,8,none⟩ v8).setCell ⟨b,9,none⟩ v9).setCell ⟨b,10,none⟩ v10).heap[b]? = some (.cells #[v0,v1,v2,v3,v4,v5,v6,v7,v8,v9,v10] t):=by
 have h0:=uA (i:=0) h v0
 simp only[List.setIfInBounds_toArray,List.set_cons_zero,List.set_cons_succ] at h0
 have h1:=uA (i:=1) h0 v1
 simp only[List.setIfInBounds_toArray,List.set_cons_zero,List.set_cons_succ] at h1
 have h2:=uA (i:=2) h1 v2
 simp only[List.setIfInBounds_toArray,List.set_cons_zero,List.set_cons_succ] at h2
 have h3:=uA (i:=3) h2 v3
 simp only[List.setIfInBounds_toArray,List.set_cons_zero,List.set_cons_succ] at h3
 have h4:=uA (i:=4) h3 v4
 simp only[List.setIfInBounds_toArray,List.set_cons_zero,List.set_cons_succ] at h4
 have h5:=uA (i:=5) h4 v5
 simp only[List.setIfInBounds_toArray,List.set_cons_zero,List.set_cons_succ] at h5
 have h6:=uA (i:=6) h5 v6
 simp only[List.setIfInBounds_toArray,List.set_cons_zero,List.set_cons_succ] at h6
 have h7:=uA (i:=7) h6 v7
 simp only[List.setIfInBounds_toArray,List.set_cons_zero,List.set_cons_succ] at h7
 have h8:=uA (i:=8) h7 v8
 simp only[List.setIfInBounds_toArray,List.set_cons_zero,List.set_cons_succ] at h8
 have h9:=uA (i:=9) h8 v9
 simp only[List.setIfInBounds_toArray,List.set_cons_zero,List.set_cons_succ] at h9
 have h10:=uA (i:=10) h9 v10
 simp only[List.setIfInBounds_toArray,List.set_cons_zero,List.set_cons_succ] at h10
 exact h10
theorem RV (w:World) (b:Nat) (v0 v1 v2 v3 v4 v5 v6 v7 v8 v9 v10:Value):w.grownBy (((((((((((w.setCell ⟨b,0,none⟩ v0).setCell ⟨b,1,none⟩ v1).setCell ⟨b,2,none⟩ v2).setCell ⟨b,3,none⟩ v3).setCell ⟨b,4,none⟩ v4).setCell ⟨b,5,none⟩ v5).setCell ⟨b,6,none⟩ v6).setCell ⟨b,7,none⟩ v7).setCell ⟨b,8,none⟩ v8).setCell ⟨b,9,none⟩ v9).setCell ⟨b,10,none⟩ v10) (some b):=by
 have g0:=um w b 0 v0
 have g1:=grownBy_trans g0 (um _ b 1 v1)
 have g2:=grownBy_trans g1 (um _ b 2 v2)
 have g3:=grownBy_trans g2 (um _ b 3 v3)
 have g4:=grownBy_trans g3 (um _ b 4 v4)
 have g5:=grownBy_trans g4 (um _ b 5 v5)
 have g6:=grownBy_trans g5 (um _ b 6 v6)
 have g7:=grownBy_trans g6 (um _ b 7 v7)
 have g8:=grownBy_trans g7 (um _ b 8 v8)
 have g9:=grownBy_trans g8 (um _ b 9 v9)
 have g10:=grownBy_trans g9 (um _ b 10 v10)
 exact g10
def Made (w W:World) (B be bn:Nat) (o f:Int) (n:Nat) (ws:List ByteArray):Prop :=
 W.heap[be]? = some (.cells (uG o f 0 0 0 (0,0) (0,0) (0,0)) 29)∧tF W B ws∧w.grownBy W (some B)∧w.heap.size≤be∧W.heap[bn]? = some (.cells #[.int .i64 n] 3)
theorem ai3 {w:World} {B:Nat} {ws:List ByteArray} (h:tF w B ws) (bo bn:Nat) (o:Int) (n:Nat) (hboB:bo≠B) (ho:w.heap[bo]? = some (.cells #[.int .u8 o] 5)) (hn:w.heap[bn]? = some (.cells #[.int .i64 n] 3)) (h1:tH vU ws=none) :
  Calls Tryz.prog 332 #[.pointer (some ⟨B,0,none⟩),.pointer (some ⟨bo,0,none⟩),.pointer (some ⟨bn,0,none⟩)] w fun e w'=>e=Co∧w.grownBy w' (some B):=by
 have H1:=(xR h.drew).mono fun e w' h'=>ZE h'
 have H2:=(xR (h.alloc (.cells #[.int .u8 0,.int .u8 0,.int .u8 0,.int .u8 0,.int .u8 0,.int .u64 0,.int .u64 0,.int .u64 0,.int .u64 0,.int .u64 0,.int .u64 0] 29)).drew).mono fun e w' h'=>RS (ZE h') (World.grownBy_alloc w _ _)
 rw[h1] at H1 H2
 have H1:=Lib.hid H1
 have H2:=Lib.hid H2
 have c0:w.cell? ⟨bo,0,none⟩=some (.int .u8 o):=by simp[World.cell?,ho]
 have hS0:w.cell? ⟨bo,0,none⟩=some (.int .u8 o):=c0
 have hbo:bo<w.heap.size:=(Array.getElem?_eq_some_iff.1 ho).1
 have hg0:w.grownBy (w.alloc (.cells #[.int .u8 0,.int .u8 0,.int .u8 0,.int .u8 0,.int .u8 0,.int .u64 0,.int .u64 0,.int .u64 0,.int .u64 0,.int .u64 0,.int .u64 0] 29)) (some B):=World.grownBy_alloc _ _ _
 go_enter Tryz.func332,Tryz.ntmps332
 go_wp2_with fail
 refine wp_region_any (by kernel_rfl) ?_
 change wpAny _ _ _ _ _ _ _ (World.drew _)
 refine wpAny_take (i:=1) (v:=.pointer (some ⟨B,0,none⟩)) rfl (by kernel_rfl) (by kernel_rfl) (by kernel_rfl) (fun _ _ _ h=>h) (Or.inl ⟨by rfl,?_⟩) ?_
 ·intro w;go_simp
  try with_reducible rfl
 refine wpAny_ready (rs:=[0,2,4]) (by kernel_rfl) (by simp) ?_
 have c1:(w.alloc (.cells #[.int .u8 0,.int .u8 0,.int .u8 0,.int .u8 0,.int .u8 0,.int .u64 0,.int .u64 0,.int .u64 0,.int .u64 0,.int .u64 0,.int .u64 0] 29)).cell? ⟨bo,0,none⟩=some (.int .u8 o):=hg0.cell c0 (fun e=>hboB (Option.some.inj e))
 refine AllReady.cons rfl (fun K hK=>?_) (AllReady.cons rfl (fun K hK=>?_) (AllReady.cons rfl (fun K hK=>?_) AllReady.nil))
 ·go_simp
  refine hK _ _ ?_;clear hK K
  refine wpAny_ready (rs:=[2,4]) (by kernel_rfl) (by simp) ?_
  refine AllReady.cons rfl (fun K hK=>?_) (AllReady.cons rfl (fun K hK=>?_) AllReady.nil)
  ·go_simp
   refine H1.out.mono ?_;rintro e w1 ⟨rfl,hg1⟩;exact uQ ⟨rfl,hg1⟩
  ·go_simp
   refine hK _ _ ?_;clear hK K
   refine wpAny_ready (rs:=[2]) (by kernel_rfl) (by simp) ?_
   refine AllReady.cons rfl (fun K hK=>?_) AllReady.nil
   go_simp
   refine H2.out.mono ?_;rintro e w1 ⟨rfl,hg1⟩;exact uQ ⟨rfl,hg1⟩
 ·go_simp
  refine H1.out.mono ?_;rintro e w1 ⟨rfl,hg1⟩;exact uQ ⟨rfl,hg1⟩
 ·go_simp
  refine hK _ _ ?_;clear hK K
  refine wpAny_ready (rs:=[0,2]) (by kernel_rfl) (by simp) ?_
  refine AllReady.cons rfl (fun K hK=>?_) (AllReady.cons rfl (fun K hK=>?_) AllReady.nil)
  ·go_simp
   refine hK _ _ ?_;clear hK K
   refine wpAny_ready (rs:=[2]) (by kernel_rfl) (by simp) ?_
   refine AllReady.cons rfl (fun K hK=>?_) AllReady.nil
   go_simp
   refine H2.out.mono ?_;rintro e w1 ⟨rfl,hg1⟩;exact uQ ⟨rfl,hg1⟩
  ·go_simp
   refine H2.out.mono ?_;rintro e w1 ⟨rfl,hg1⟩;exact uQ ⟨rfl,hg1⟩
open Go.RowKit Go.Shelf FlagM
open Go.Lib (grownBy_trans grownBy_below grownBy_allocR)
attribute [local go_sem] Oper.semAt_some
theorem ZF {ws1:List ByteArray} {k:Nat} (h:yM k ws1=none):∀ j,yM (k+j) ws1=none
 | 0=>h
 | j+1=>by rw[show k+(j+1)=(k+j)+1 by omega,yM,ZF h j]
theorem RX {ws1 ws2:List ByteArray} {k n:Nat} {l:List (Int×Int)} (h:yM k ws1=some (l,ws2)) (hb:xu ws2=none) (hk:k<n):yM n ws1=none:=by
 have:=ZF (k:=k+1) (ws1:=ws1) (by rw[yM,h];simp[hb]) (n-(k+1))
 rwa [show k+1+(n-(k+1))=n by omega] at this
abbrev gB (l:List (Int×Int)) (i:Nat):Int×Int:=l[i]?.getD (0,0)
theorem ai4 {w : World} {B : Nat} {ws : List ByteArray} (h : tF w B ws) (bo bn : Nat) (o f : Int) (n : Nat) (ws1 : List ByteArray) (hn3 : n ≤ 3) (hboB : bo ≠ B) (hbnB : bn ≠ B) (ho : w.heap[bo]? = some (.cells #[.int .u8 o] 5)) (hn : w.heap[bn]? = some (.cells #[.int .i64 n] 3)) (h1 : tH vU ws = some (f, ws1)) :
    Calls Tryz.prog 332 #[.pointer (some ⟨B, 0, none⟩), .pointer (some ⟨bo, 0, none⟩), .pointer (some ⟨bn, 0, none⟩)] w (Br w B (uR o n ws)) := by
  have HF : ∀ W, w.grownBy W none → Calls Tryz.prog 274 #[.pointer (some ⟨B, 0, none⟩)] W (Aq (fun k => .int .u8 k) W B (some (f, ws1))) := fun W hW => by
    have := xR (h.kept hW (by simp))
    rwa [h1] at this
  have HF := Lib.hid HF
  have c0 : w.cell? ⟨bo, 0, none⟩ = some (.int .u8 o) := by simp [World.cell?, ho]
  have hbnL : bn < w.heap.size := (Array.getElem?_eq_some_iff.1 hn).1
  have hbo : bo < w.heap.size := (Array.getElem?_eq_some_iff.1 ho).1
  have hBw : B < w.heap.size := h.lt
  have hg0 : w.grownBy (w.alloc (.cells #[.int .u8 0, .int .u8 0, .int .u8 0, .int .u8 0, .int .u8 0, .int .u64 0, .int .u64 0, .int .u64 0, .int .u64 0, .int .u64 0, .int .u64 0] 29)) (some B) := World.grownBy_alloc _ _ _
  have c1 : (w.alloc (.cells #[.int .u8 0, .int .u8 0, .int .u8 0, .int .u8 0, .int .u8 0, .int .u64 0, .int .u64 0, .int .u64 0, .int .u64 0, .int .u64 0, .int .u64 0] 29)).cell? ⟨bo, 0, none⟩ = some (.int .u8 o) := hg0.cell c0 (fun e => hboB (Option.some.inj e))
  go_enter Tryz.func332, Tryz.ntmps332
  go_wp2_with fail
  refine Code.wp_mono (Q := fun e a W => match e with
    | .normal => ∃ be, Made w W B be bn o f n ws1 ∧ a = { tmps := #[.pointer (some ⟨B, 0, none⟩), .pointer (some ⟨bo, 0, none⟩), .pointer (some ⟨bn, 0, none⟩), undef, .nilFunc, .pointer (some ⟨be, 0, none⟩), undef, undef, .int .u8 o, .pointer (some ⟨B, 0, none⟩), .int .u8 f, .agg (uG o f 0 0 0 (0, 0) (0, 0) (0, 0)), undef, undef, undef, undef, undef, undef, undef, undef, undef, undef, undef, undef, undef, undef, undef, undef, undef, undef, undef], defers := [] }
    | _ => False) ?hmono ?hreg
  case hreg =>
    go_region_with (first | (go_at_call 274; refine (HF.out _ (by first | exact Bv _ _ | exact grownBy_trans (World.grownBy_alloc _ _ _) (Bv _ _))).mono ?_; rintro e w1 ⟨⟨rfl, hW1⟩, hg1⟩; have hg2 : w.grownBy w1 (some B) := (by first | exact grownBy_trans (Bv _ _) hg1 | exact grownBy_trans (World.grownBy_alloc _ _ _) (grownBy_trans (Bv _ _) hg1)); have c2 : w1.cell? ⟨bo, 0, none⟩ = some (.int .u8 o) := hg2.cell c0 (fun e => hboB (Option.some.inj e)); have c3 : (w1.alloc (.cells #[.int .u8 0, .int .u8 0, .int .u8 0, .int .u8 0, .int .u8 0, .int .u64 0, .int .u64 0, .int .u64 0, .int .u64 0, .int .u64 0, .int .u64 0] 29)).cell? ⟨bo, 0, none⟩ = some (.int .u8 o) := (World.grownBy_alloc w1 (.cells #[.int .u8 0, .int .u8 0, .int .u8 0, .int .u8 0, .int .u8 0, .int .u64 0, .int .u64 0, .int .u64 0, .int .u64 0, .int .u64 0, .int .u64 0] 29) none).cell c2 (fun e => by cases e); first | (have hE : w1.heap[w.heap.size]? = some (.cells #[.int .u8 0, .int .u8 0, .int .u8 0, .int .u8 0, .int .u8 0, .int .u64 0, .int .u64 0, .int .u64 0, .int .u64 0, .int .u64 0, .int .u64 0] 29) := (hg1.block _ (by simp) (fun e => by have := Option.some.inj e; omega)).trans (World.alloc_heap_new _ _); have z0 : w1.frozen? ⟨w.heap.size, 0, none⟩ = false := (by simp [World.frozen?, hE]); have z1 : w1.frozen? ⟨w.heap.size, 1, none⟩ = false := (by simp [World.frozen?, hE]); have z2 : w1.frozen? ⟨w.heap.size, 2, none⟩ = false := (by simp [World.frozen?, hE]); have z3 : w1.frozen? ⟨w.heap.size, 3, none⟩ = false := (by simp [World.frozen?, hE]); have z4 : w1.frozen? ⟨w.heap.size, 4, none⟩ = false := (by simp [World.frozen?, hE]); have z5 : w1.frozen? ⟨w.heap.size, 5, none⟩ = false := (by simp [World.frozen?, hE]); have z6 : w1.frozen? ⟨w.heap.size, 6, none⟩ = false := (by simp [World.frozen?, hE]); have z7 : w1.frozen? ⟨w.heap.size, 7, none⟩ = false := (by simp [World.frozen?, hE]); have z8 : w1.frozen? ⟨w.heap.size, 8, none⟩ = false := (by simp [World.frozen?, hE]); have z9 : w1.frozen? ⟨w.heap.size, 9, none⟩ = false := (by simp [World.frozen?, hE]); have z10 : w1.frozen? ⟨w.heap.size, 10, none⟩ = false := (by simp [World.frozen?, hE]); have y0 : w1.cell? ⟨w.heap.size, 0, none⟩ = some (.int .u8 0) := (by simp [World.cell?, hE]); have y1 : w1.cell? ⟨w.heap.size, 1, none⟩ = some (.int .u8 0) := (by simp [World.cell?, hE]); have y2 : w1.cell? ⟨w.heap.size, 2, none⟩ = some (.int .u8 0) := (by simp [World.cell?, hE]); have y3 : w1.cell? ⟨w.heap.size, 3, none⟩ = some (.int .u8 0) := (by simp [World.cell?, hE]); have y4 : w1.cell? ⟨w.heap.size, 4, none⟩ = some (.int .u8 0) := (by simp [World.cell?, hE]); have y5 : w1.cell? ⟨w.heap.size, 5, none⟩ = some (.int .u64 0) := (by simp [World.cell?, hE]); have y6 : w1.cell? ⟨w.heap.size, 6, none⟩ = some (.int .u64 0) := (by simp [World.cell?, hE]); have y7 : w1.cell? ⟨w.heap.size, 7, none⟩ = some (.int .u64 0) := (by simp [World.cell?, hE]); have y8 : w1.cell? ⟨w.heap.size, 8, none⟩ = some (.int .u64 0) := (by simp [World.cell?, hE]); have y9 : w1.cell? ⟨w.heap.size, 9, none⟩ = some (.int .u64 0) := (by simp [World.cell?, hE]); have y10 : w1.cell? ⟨w.heap.size, 10, none⟩ = some (.int .u64 0) := (by simp [World.cell?, hE])) | skip))
    all_goals first
      | (have F : Made w (w1.alloc (.cells #[.int .u8 o, .int .u8 f, .int .u8 0, .int .u8 0, .int .u8 0, .int .u64 0, .int .u64 0, .int .u64 0, .int .u64 0, .int .u64 0, .int .u64 0] 29)) B w1.heap.size bn o f n ws1 := ⟨World.alloc_heap_new _ _, hW1.alloc _, grownBy_allocR (by exact hg2) _, (by exact hg2.size), ((grownBy_allocR (by exact hg2) _ : w.grownBy (w1.alloc _) (some B)).block _ hbnL (fun e => hbnB (Option.some.inj e))).trans hn⟩
         refine ⟨_, (by with_reducible exact F), ?_⟩
         rfl)
      | (have F : Made w (((((((((((w1.setCell ⟨w.heap.size, 0, none⟩ (.int .u8 o)).setCell ⟨w.heap.size, 1, none⟩ (.int .u8 f)).setCell ⟨w.heap.size, 2, none⟩ (.int .u8 0)).setCell ⟨w.heap.size, 3, none⟩ (.int .u8 0)).setCell ⟨w.heap.size, 4, none⟩ (.int .u8 0)).setCell ⟨w.heap.size, 5, none⟩ (.int .u64 0)).setCell ⟨w.heap.size, 6, none⟩ (.int .u64 0)).setCell ⟨w.heap.size, 7, none⟩ (.int .u64 0)).setCell ⟨w.heap.size, 8, none⟩ (.int .u64 0)).setCell ⟨w.heap.size, 9, none⟩ (.int .u64 0)).setCell ⟨w.heap.size, 10, none⟩ (.int .u64 0)) B w.heap.size bn o f n ws1 := ⟨ai2 hE _ _ _ _ _ _ _ _ _ _ _, hW1.kept (RV w1 w.heap.size _ _ _ _ _ _ _ _ _ _ _) (fun k e => by have := Option.some.inj e; omega), Fg hg2 (RV w1 w.heap.size _ _ _ _ _ _ _ _ _ _ _) (Nat.le_refl _), Nat.le_refl _, ((Fg hg2 (RV w1 w.heap.size _ _ _ _ _ _ _ _ _ _ _) (Nat.le_refl _)).block _ hbnL (fun e => hbnB (Option.some.inj e))).trans hn⟩
         refine ⟨_, (by with_reducible exact F), ?_⟩
         rfl)
  case hmono =>
    intro e a W hq
    cases e <;> first | exact hq.elim | skip
    obtain ⟨be, F, rfl⟩ := hq
    obtain ⟨f1, f2, f3, f4, f5⟩ := F
    have c5 : W.cell? ⟨bn, 0, none⟩ = some (.int .i64 n) := by simp [World.cell?, f5]
    have q0 : (n : Int) ≤ 3 := by omega
    have q1 : (0 : Int) ≤ (n : Int) := by omega
    have c7 : (W.alloc (.cells #[.pointer (some ⟨be, 5, none⟩), .pointer (some ⟨be, 7, none⟩), .pointer (some ⟨be, 9, none⟩)] 395)).cell? ⟨bn, 0, none⟩ = some (.int .i64 n) := (World.grownBy_alloc W _ none).cell c5 (fun e => by cases e)
    have hbeL : be < W.heap.size := (Array.getElem?_eq_some_iff.1 f1).1
    have hR := World.alloc_heap_new W (.cells #[.pointer (some ⟨be, 5, none⟩), .pointer (some ⟨be, 7, none⟩), .pointer (some ⟨be, 9, none⟩)] 395)
    have hF1 : (W.alloc (.cells #[.pointer (some ⟨be, 5, none⟩), .pointer (some ⟨be, 7, none⟩), .pointer (some ⟨be, 9, none⟩)] 395)).heap[be]? = _ := alloc_at f1 _
    have hF2 := f2.alloc (.cells #[.pointer (some ⟨be, 5, none⟩), .pointer (some ⟨be, 7, none⟩), .pointer (some ⟨be, 9, none⟩)] 395)
    have hF3 := grownBy_allocR f3 (.cells #[.pointer (some ⟨be, 5, none⟩), .pointer (some ⟨be, 7, none⟩), .pointer (some ⟨be, 9, none⟩)] 395)
    show Exit.then _ _ Exit.normal _ _
    go_wp2
    generalize W.alloc (.cells #[.pointer (some ⟨be, 5, none⟩), .pointer (some ⟨be, 7, none⟩), .pointer (some ⟨be, 9, none⟩)] 395) = W2 at *
    generalize W.heap.size = rb at *
    go_loopw [20] (fun i wr => ∃ k : Nat, k ≤ n ∧ i = .int .i64 (k : Int) ∧ ∃ l ws2, yM k ws1 = some (l, ws2) ∧ l.length = k ∧ wr.heap[be]? = some (.cells (uG o f 0 0 0 (gB l 0) (gB l 1) (gB l 2)) 29) ∧ tF wr B ws2 ∧ w.grownBy wr (some B) ∧ wr.heap[rb]? = some (.cells #[.pointer (some ⟨be, 5, none⟩), .pointer (some ⟨be, 7, none⟩), .pointer (some ⟨be, 9, none⟩)] 395)) (fun i _ => n - (intOf i).toNat)
    case atStart => exact ⟨0, Nat.zero_le _, rfl, [], ws1, rfl, rfl, hF1, hF2, hF3, hR⟩
    case round =>
      obtain ⟨k, hk, rfl, l, ws2, hbn, hll, hEn, hWS, hgr, hRow⟩ := hrel
      have hBe : B < w.heap.size := hBw
      have f4' := f4
      have hbeB : be ≠ B := by omega
      have hbeR : be < wr.heap.size := (Array.getElem?_eq_some_iff.1 hEn).1
      have hrbR : rb < wr.heap.size := (Array.getElem?_eq_some_iff.1 hRow).1
      by_cases hlt : k < n
      · have q2 : (k : Int) < (n : Int) := by omega
        have hk3 : k = 0 ∨ k = 1 ∨ k = 2 := by omega
        rcases hk3 with rfl | rfl | rfl
        · match l, hll with
          | [], _ =>
          have r0 : wr.cell? ⟨rb, 0, none⟩ = some (.pointer (some ⟨be, 5, none⟩)) := by simp [World.cell?, hRow]
          cases hb : xu ws2 with
          | none =>
            have HB := zV hWS
            rw [hb] at HB
            have HB := Lib.hid HB
            have hsp : uR o n ws = none := by simp [uR, h1, RX hbn hb hlt]
            go_wp2_with (first | (go_at_call 275; refine HB.out.mono ?_; rintro e w3 ⟨rfl, hg3⟩))
            refine uQ ?_
            try rw [hsp]
            exact ⟨rfl, grownBy_trans hgr hg3⟩
          | some r =>
            obtain ⟨a, ws3⟩ := r
            have HB := zV hWS
            rw [hb] at HB
            have HB := Lib.hid HB
            go_wp2_with (first | (go_at_call 275; refine HB.out.mono ?_; rintro e w3 ⟨⟨rfl, hW3⟩, hg3⟩; have hE3 := (hg3.block _ hbeR (fun e => hbeB (Option.some.inj e))).trans hEn; have z5 : w3.frozen? ⟨be, 5, none⟩ = false := (by simp [World.frozen?, hE3]); have z6 : w3.frozen? ⟨be, 6, none⟩ = false := (by simp [World.frozen?, hE3]); have y5 : w3.cell? ⟨be, 5, none⟩ = some (.int .u64 (gB [] 0).1) := (by simp [World.cell?, hE3]); have y6 : w3.cell? ⟨be, 6, none⟩ = some (.int .u64 (gB [] 0).2) := (by simp [World.cell?, hE3])))
            have hS1 := uA (i := 5) hE3 (.int .u64 a.1)
            simp only [List.setIfInBounds_toArray, List.set_cons_zero, List.set_cons_succ] at hS1
            have hS2 := uA (i := 6) hS1 (.int .u64 a.2)
            simp only [List.setIfInBounds_toArray, List.set_cons_zero, List.set_cons_succ] at hS2
            have hgs := grownBy_trans (um w3 be 5 (.int .u64 a.1)) (um _ be 6 (.int .u64 a.2))
            refine ⟨⟨1, by omega, by simp, [] ++ [a], ws3, by rw [yM, hbn]; simp [hb], rfl, (by first | exact hS2 | simpa [gB] using hS2), hW3.kept hgs (fun k e => by have := Option.some.inj e; omega), Fg (grownBy_trans hgr hg3) hgs f4, ?_⟩, by simp [intOf]; omega⟩
            rw [hgs.block _ (Nat.lt_of_lt_of_le hrbR hg3.size) (fun e => by have := Option.some.inj e; omega), hg3.block _ hrbR (fun e => by have := Option.some.inj e; omega)]
            exact hRow
        · match l, hll with
          | [a0], _ =>
          have r0 : wr.cell? ⟨rb, 1, none⟩ = some (.pointer (some ⟨be, 7, none⟩)) := by simp [World.cell?, hRow]
          cases hb : xu ws2 with
          | none =>
            have HB := zV hWS
            rw [hb] at HB
            have HB := Lib.hid HB
            have hsp : uR o n ws = none := by simp [uR, h1, RX hbn hb hlt]
            go_wp2_with (first | (go_at_call 275; refine HB.out.mono ?_; rintro e w3 ⟨rfl, hg3⟩))
            refine uQ ?_
            try rw [hsp]
            exact ⟨rfl, grownBy_trans hgr hg3⟩
          | some r =>
            obtain ⟨a, ws3⟩ := r
            have HB := zV hWS
            rw [hb] at HB
            have HB := Lib.hid HB
            go_wp2_with (first | (go_at_call 275; refine HB.out.mono ?_; rintro e w3 ⟨⟨rfl, hW3⟩, hg3⟩; have hE3 := (hg3.block _ hbeR (fun e => hbeB (Option.some.inj e))).trans hEn; have z5 : w3.frozen? ⟨be, 7, none⟩ = false := (by simp [World.frozen?, hE3]); have z6 : w3.frozen? ⟨be, 8, none⟩ = false := (by simp [World.frozen?, hE3]); have y5 : w3.cell? ⟨be, 7, none⟩ = some (.int .u64 (gB [a0] 1).1) := (by simp [World.cell?, hE3]); have y6 : w3.cell? ⟨be, 8, none⟩ = some (.int .u64 (gB [a0] 1).2) := (by simp [World.cell?, hE3])))
            have hS1 := uA (i := 7) hE3 (.int .u64 a.1)
            simp only [List.setIfInBounds_toArray, List.set_cons_zero, List.set_cons_succ] at hS1
            have hS2 := uA (i := 8) hS1 (.int .u64 a.2)
            simp only [List.setIfInBounds_toArray, List.set_cons_zero, List.set_cons_succ] at hS2
            have hgs := grownBy_trans (um w3 be 7 (.int .u64 a.1)) (um _ be 8 (.int .u64 a.2))
            refine ⟨⟨2, by omega, by simp, [a0] ++ [a], ws3, by rw [yM, hbn]; simp [hb], rfl, (by first | exact hS2 | simpa [gB] using hS2), hW3.kept hgs (fun k e => by have := Option.some.inj e; omega), Fg (grownBy_trans hgr hg3) hgs f4, ?_⟩, by simp [intOf]; omega⟩
            rw [hgs.block _ (Nat.lt_of_lt_of_le hrbR hg3.size) (fun e => by have := Option.some.inj e; omega), hg3.block _ hrbR (fun e => by have := Option.some.inj e; omega)]
            exact hRow
        · match l, hll with
          | [a0, a1], _ =>
          have r0 : wr.cell? ⟨rb, 2, none⟩ = some (.pointer (some ⟨be, 9, none⟩)) := by simp [World.cell?, hRow]
          cases hb : xu ws2 with
          | none =>
            have HB := zV hWS
            rw [hb] at HB
            have HB := Lib.hid HB
            have hsp : uR o n ws = none := by simp [uR, h1, RX hbn hb hlt]
            go_wp2_with (first | (go_at_call 275; refine HB.out.mono ?_; rintro e w3 ⟨rfl, hg3⟩))
            refine uQ ?_
            try rw [hsp]
            exact ⟨rfl, grownBy_trans hgr hg3⟩
          | some r =>
            obtain ⟨a, ws3⟩ := r
            have HB := zV hWS
            rw [hb] at HB
            have HB := Lib.hid HB
            go_wp2_with (first | (go_at_call 275; refine HB.out.mono ?_; rintro e w3 ⟨⟨rfl, hW3⟩, hg3⟩; have hE3 := (hg3.block _ hbeR (fun e => hbeB (Option.some.inj e))).trans hEn; have z5 : w3.frozen? ⟨be, 9, none⟩ = false := (by simp [World.frozen?, hE3]); have z6 : w3.frozen? ⟨be, 10, none⟩ = false := (by simp [World.frozen?, hE3]); have y5 : w3.cell? ⟨be, 9, none⟩ = some (.int .u64 (gB [a0, a1] 2).1) := (by simp [World.cell?, hE3]); have y6 : w3.cell? ⟨be, 10, none⟩ = some (.int .u64 (gB [a0, a1] 2).2) := (by simp [World.cell?, hE3])))
            have hS1 := uA (i := 9) hE3 (.int .u64 a.1)
            simp only [List.setIfInBounds_toArray, List.set_cons_zero, List.set_cons_succ] at hS1
            have hS2 := uA (i := 10) hS1 (.int .u64 a.2)
            simp only [List.setIfInBounds_toArray, List.set_cons_zero, List.set_cons_succ] at hS2
            have hgs := grownBy_trans (um w3 be 9 (.int .u64 a.1)) (um _ be 10 (.int .u64 a.2))
            refine ⟨⟨3, by omega, by simp, [a0, a1] ++ [a], ws3, by rw [yM, hbn]; simp [hb], rfl, (by first | exact hS2 | simpa [gB] using hS2), hW3.kept hgs (fun k e => by have := Option.some.inj e; omega), Fg (grownBy_trans hgr hg3) hgs f4, ?_⟩, by simp [intOf]; omega⟩
            rw [hgs.block _ (Nat.lt_of_lt_of_le hrbR hg3.size) (fun e => by have := Option.some.inj e; omega), hg3.block _ hrbR (fun e => by have := Option.some.inj e; omega)]
            exact hRow
      · obtain rfl : k = n := by omega
        have q2 : ¬ (k : Int) < (k : Int) := by omega
        have hsp : uR o k ws = some (.op o f 0 (gB l 0) (gB l 1) (gB l 2), ws2) := by simp [uR, h1, hbn]
        have e0 : wr.cell? ⟨be, 0, none⟩ = some (.int .u8 o) := by simp [World.cell?, hEn]
        have e1 : wr.cell? ⟨be, 1, none⟩ = some (.int .u8 f) := by simp [World.cell?, hEn]
        have e2 : wr.cell? ⟨be, 2, none⟩ = some (.int .u8 0) := by simp [World.cell?, hEn]
        have e3 : wr.cell? ⟨be, 3, none⟩ = some (.int .u8 0) := by simp [World.cell?, hEn]
        have e4 : wr.cell? ⟨be, 4, none⟩ = some (.int .u8 0) := by simp [World.cell?, hEn]
        have e5 : wr.cell? ⟨be, 5, none⟩ = some (.int .u64 (gB l 0).1) := by simp [World.cell?, hEn]
        have e6 : wr.cell? ⟨be, 6, none⟩ = some (.int .u64 (gB l 0).2) := by simp [World.cell?, hEn]
        have e7 : wr.cell? ⟨be, 7, none⟩ = some (.int .u64 (gB l 1).1) := by simp [World.cell?, hEn]
        have e8 : wr.cell? ⟨be, 8, none⟩ = some (.int .u64 (gB l 1).2) := by simp [World.cell?, hEn]
        have e9 : wr.cell? ⟨be, 9, none⟩ = some (.int .u64 (gB l 2).1) := by simp [World.cell?, hEn]
        have e10 : wr.cell? ⟨be, 10, none⟩ = some (.int .u64 (gB l 2).2) := by simp [World.cell?, hEn]
        have HH := Lib.hid (ND hgr hWS o f 0 (gB l 0) (gB l 1) (gB l 2))
        generalize gB l 0 = x0 at *
        generalize gB l 1 = x1 at *
        generalize gB l 2 = x2 at *
        go_wp2_with (go_at_call 273; refine (NC _ o f 0 x0 x1 x2).mono ?_; rintro e w9 ⟨rfl, rfl⟩)
        go_ret
        try rw [hsp]
        exact HH.out
theorem ai5 {w:World} {B:Nat} {ws:List ByteArray} (h:tF w B ws) (bo bn:Nat) (o:Int) (n:Nat) (hn3:n≤3) (hboB:bo≠B) (hbnB:bn≠B) (ho:w.heap[bo]? = some (.cells #[.int .u8 o] 5)) (hn:w.heap[bn]? = some (.cells #[.int .i64 n] 3)) :
  Calls Tryz.prog 332 #[.pointer (some ⟨B,0,none⟩),.pointer (some ⟨bo,0,none⟩),.pointer (some ⟨bn,0,none⟩)] w (Br w B (uR o n ws)):=by
 cases h1:tH vU ws with
 | none =>
  refine(ai3 h bo bn o n hboB ho hn h1).mono fun e w' ⟨h2,h3⟩=>?_
  have hsp:uR o n ws=none:=by simp[uR,h1]
  rw[hsp]
  exact⟨h2,h3⟩
 | some r =>
  obtain⟨f,ws1⟩:=r
  exact ai4 h bo bn o f n ws1 hn3 hboB hbnB ho hn h1
open Go.RowKit Go.Shelf FlagM
open Go.Lib (grownBy_trans grownBy_below grownBy_allocR)
attribute [local go_sem] Oper.semAt_some
abbrev Cq:TypeId:=270
def yu:Nat→List (ByteArray×Value)→List MapEntry
 | _,[]=>[]
 | i,(k,v)::l => { key:=.string k,val:=v,born:=i } :: yu (i+1) l
theorem ZG (k:ByteArray) (v:Value):∀ (l:List (ByteArray×Value)) (i:Nat),yu i (l ++ [(k,v)])=yu i l ++ [{ key:=.string k,val:=v,born:=i+l.length }]
 | [],i=>rfl
 | (k',v')::l,i=>by rw[List.cons_append,yu,yu,ZG k v l (i+1),List.cons_append,List.length_cons,show i+1+l.length=i+(l.length+1) by omega]
theorem ZH (a b:ByteArray):(a==b)=true↔a=b:=by
 obtain⟨x⟩:=a
 obtain⟨y⟩:=b
 show(x==y)=true↔_
 simp
theorem ZI {a b:ByteArray} (h:a≠b):Instr.sameNow .string (.string a) (.string b)=some false:=by
 show some (a==b)=some false
 rw[show(a==b)=false from Bool.eq_false_iff.2 fun e=>h ((ZH a b).1 e)]
theorem same_eq (a:ByteArray):Instr.sameNow .string (.string a) (.string a)=some true:=by
 show some (a==a)=some true
 rw[(ZH a a).2 rfl]
theorem RY (k:ByteArray):∀ (l:List (ByteArray×Value)) (i j:Nat),(∀ x∈l,k≠x.1)→Instr.findNow .string (.string k) (yu i l) j=some none
 | [],_,_,_=>rfl
 | (k',v)::l,i,j,h=>by
  rw[yu,Instr.findNow,ZI (h (k',v) (by simp))]
  exact RY k l (i+1) (j+1) fun x hx=>h x (List.mem_cons_of_mem _ hx)
theorem ZJ (k:ByteArray) (v:Value):∀ (l r:List (ByteArray×Value)) (i j:Nat),(∀ x∈l,k≠x.1)→∃ q,Instr.findNow .string (.string k) (yu i (l++(k,v)::r)) j=some (some (q,v))
 | [],r,i,j,_=>⟨j,by rw[List.nil_append,yu,Instr.findNow,same_eq]⟩
 | (k',v')::l,r,i,j,h=>by
  obtain⟨q,hq⟩:=ZJ k v l r (i+1) (j+1) fun x hx=>h x (List.mem_cons_of_mem _ hx)
  exact⟨q,by rw[List.cons_append,yu,Instr.findNow,ZI (h (k',v') (by simp))];exact hq⟩
def putObj (W:World) (b:Nat) (o:Obj):World := { W with heap:=W.heap.setIfInBounds b o }
def CM (w X:World) (b:Nat) (l:List (ByteArray×Value)):Prop :=
 X.heap[b]? = some (.map (yu 0 l).toArray l.length)∧w.heap.size≤b∧rq w X
def uK (w X:World) (b:Nat) (o:Int) (n:Nat) (v:Value):Prop :=
 ∃ p q,v = .func (.func 332) #[] #[.pointer (some ⟨p,0,none⟩),.pointer (some ⟨q,0,none⟩)]∧w.heap.size≤p∧w.heap.size≤q∧p≠b∧q≠b∧X.heap[p]? = some (.cells #[.int .u8 o] 5)∧X.heap[q]? = some (.cells #[.int .i64 n] 3)
theorem ai6 {W:World} {b:Nat} {o:Obj} (h:b<W.heap.size):(putObj W b o).heap[b]? = some o:=by
 show(W.heap.setIfInBounds b o)[b]? = _
 simp[h]
theorem put_ne {W:World} {b k:Nat} {o:Obj} (h:k≠b):(putObj W b o).heap[k]? = W.heap[k]?:=by
 show(W.heap.setIfInBounds b o)[k]? = _
 rw[Array.getElem?_setIfInBounds_ne (fun e=>h e.symm)]
theorem put_size (W:World) (b:Nat) (o:Obj):(putObj W b o).heap.size=W.heap.size:=by
 show(W.heap.setIfInBounds b o).size=_
 simp
theorem ZK (W:World) (b:Nat) (o:Obj):W.grownBy (putObj W b o) (some b):=⟨rfl,rfl,rfl,by rw[put_size];exact Nat.le_refl _,fun k _ hk=>put_ne (fun e=>hk (by rw[e]))⟩
theorem CM.ins {w X:World} {b:Nat} {l:List (ByteArray×Value)} (h:CM w X b l) (k:ByteArray) (v:Value) (hk:∀ x∈l,k≠x.1) :
  (Instr.mapUpdate Cq (.map (some b)) (.string k) v).run Tryz.prog X = .ok () (putObj X b (.map (yu 0 (l ++ [(k,v)])).toArray (l.length+1)))∧CM w (putObj X b (.map (yu 0 (l ++ [(k,v)])).toArray (l.length+1))) b (l ++ [(k,v)]):=by
 have hb:=h.1
 have hlt:b<X.heap.size:=(Array.getElem?_eq_some_iff.1 hb).1
 have hku:Tryz.prog.underlying 9=some .string:=Tryz.underlying9
 have hm:Tryz.prog.underlying Cq=some (.map 9 268):=Tryz.underlying270
 have hc:(Instr.checkKey false 10000 9 (.string k)).run Tryz.prog X = .ok () X:=MapKept.run_checkKey (k:=.string k) hku (by simp[MapKept.IsKey]) false 9999
 have hf:=RY k l 0 0 hk
 have he:(yu 0 l).toArray.push { key:=.string k,val:=v,born:=l.length } = (yu 0 (l ++ [(k,v)])).toArray:=by
  rw[ZG];simp
 refine⟨?_,?_,h.2.1,?_⟩
 ·have hs:=MapKept.run_setObj_map (P:=Tryz.prog) (.map ((yu 0 l).toArray.push { key:=.string k,val:=v,born:=l.length }) (l.length+1)) hb
  rw[he] at hs
  simp[Instr.mapUpdate,run_underlying hm,MapKept.run_getObj_map hb,hc,MapKept.run_findKey hku hf,Result.andThen,he,hs]
  rfl
 ·rw[ai6 hlt];simp
 ·exact Below.grown h.2.2 (ZK X b _) (Below.size h.2.2) (fun g e=>by cases e;exact h.2.1)
theorem CM.put {w X:World} {b:Nat} {l:List (ByteArray×Value)} (h:CM w X b l) (k:ByteArray) (v:Value) (hk:∀ x∈l,k≠x.1) :
  ∃ Y,(Instr.mapUpdate Cq (.map (some b)) (.string k) v).run Tryz.prog X = .ok () Y∧CM w Y b (l ++ [(k,v)])∧X.grownBy Y (some b):=⟨_,(h.ins k v hk).1,(h.ins k v hk).2,ZK X b _⟩
theorem CM.alloc {w X:World} {b:Nat} {l:List (ByteArray×Value)} (h:CM w X b l) (o:Obj):CM w (X.alloc o) b l :=
 ⟨by rw[Below.heap_alloc X o b (Array.getElem?_eq_some_iff.1 h.1).1];exact h.1,h.2.1,rq.alloc h.2.2 _⟩
theorem uK.kept {w X Y:World} {b:Nat} {o:Int} {n:Nat} {v:Value} (h:uK w X b o n v) (hg:X.grownBy Y (some b)):uK w Y b o n v:=by
 obtain⟨p,q,h1,h2,h3,h4,h5,h6,h7⟩:=h
 exact⟨p,q,h1,h2,h3,h4,h5,(hg.block _ (Array.getElem?_eq_some_iff.1 h6).1 (fun e=>h4 (Option.some.inj e))).trans h6,(hg.block _ (Array.getElem?_eq_some_iff.1 h7).1 (fun e=>h5 (Option.some.inj e))).trans h7⟩
theorem Au (w:World) (o:Int) (n:Int):Calls Tryz.prog 271 #[.int .u8 o,.int .i64 n] w fun e w'=>e = .returned (.func (.func 332) #[] #[.pointer (some ⟨w.heap.size,0,none⟩),.pointer (some ⟨w.heap.size+1,0,none⟩)])∧w'=(w.alloc (.cells #[.int .u8 o] 5)).alloc (.cells #[.int .i64 n] 3):=by
 go_enter Tryz.func271,Tryz.ntmps271
 go_wp2
 go_ret
 exact⟨rfl,rfl⟩
open Go.RowKit Go.Shelf FlagM
open Go.Lib (grownBy_trans grownBy_below grownBy_allocR)
attribute [local go_sem] Oper.semAt_some
abbrev wG:ByteArray:=⟨#[97,100,100]⟩
abbrev wH:ByteArray:=⟨#[115,117,98]⟩
abbrev wI:ByteArray:=⟨#[109,117,108]⟩
abbrev wJ:ByteArray:=⟨#[100,105,118]⟩
abbrev wK:ByteArray:=⟨#[114,101,109]⟩
abbrev wL:ByteArray:=⟨#[102,109,97]⟩
abbrev wM:ByteArray:=⟨#[115,113,114,116]⟩
abbrev wN:ByteArray:=⟨#[114,105,110,116]⟩
abbrev wO:ByteArray:=⟨#[101,120,97,99,116]⟩
abbrev wP:ByteArray:=⟨#[113,117,105,101,116]⟩
abbrev wQ:ByteArray:=⟨#[115,105,103,110,97,108,105,110,103]⟩
abbrev vV:ByteArray:=⟨#[99,111,110,118]⟩
abbrev vX:ByteArray:=⟨#[105,110,116]⟩
abbrev vY:ByteArray:=⟨#[102,114,111,109]⟩
abbrev vZ:ByteArray:=⟨#[101,110,118]⟩
abbrev wh:ByteArray:=⟨#[99,108,101,97,114]⟩
abbrev wm:ByteArray:=⟨#[115,116,105,99,107,121]⟩
def ZL (v0 v1 v2 v3 v4 v5 v6 v7 v8 v9 v10:Value):List (ByteArray×Value):=[(wG,v0),(wH,v1),(wI,v2),(wJ,v3),(wK,v4),(wL,v5),(wM,v6),(wN,v7),(wO,v8),(wP,v9),(wQ,v10),(vV,.func (.func 272) #[] #[]),(vX,.func (.func 276) #[] #[]),(vY,.func (.func 278) #[] #[]),(vZ,.func (.func 279) #[] #[]),(wh,.func (.func 283) #[] #[]),(wm,.func (.func 285) #[] #[])]
def KR (w X:World) (b:Nat):Prop :=
 ∃ v0 v1 v2 v3 v4 v5 v6 v7 v8 v9 v10,CM w X b (ZL v0 v1 v2 v3 v4 v5 v6 v7 v8 v9 v10)∧uK w X b 1 2 v0∧uK w X b 2 2 v1∧uK w X b 3 2 v2∧uK w X b 4 2 v3∧uK w X b 7 2 v4∧uK w X b 6 3 v5∧uK w X b 5 1 v6∧uK w X b 8 1 v7∧uK w X b 9 1 v8∧uK w X b 13 2 v9∧uK w X b 14 2 v10
theorem Av {w X:World} {b:Nat} {l:List (ByteArray×Value)} (h:CM w X b l) (o:Int) (n:Nat) :
  uK w ((X.alloc (.cells #[.int .u8 o] 5)).alloc (.cells #[.int .i64 n] 3)) b o n (.func (.func 332) #[] #[.pointer (some ⟨X.heap.size,0,none⟩),.pointer (some ⟨X.heap.size+1,0,none⟩)]):=by
 have hb:=(Array.getElem?_eq_some_iff.1 h.1).1
 have hs:=Below.size h.2.2
 exact⟨X.heap.size,X.heap.size+1,rfl,hs,by omega,by omega,by omega,alloc_at (World.alloc_heap_new _ _) _,Je _ _ _⟩
theorem ai7 (w:World):Calls Tryz.prog 208 #[] w fun e w'=>∃ b,e = .returned (.map (some b))∧KR w w' b:=by
 have C0:CM w (w.alloc (.map #[] 0)) w.heap.size []:=⟨World.alloc_heap_new _ _,Nat.le_refl _,(rq.refl w).alloc _⟩
 have HC0:=Lib.hid C0
 have e0:=Go.run_makeMap_plain (P:=Tryz.prog) (w:=w) 270
 clear C0
 go_enter Tryz.func208,Tryz.ntmps208
 go_wp2_with (first
  | (go_at_call 271;refine(Au _ 1 2).mono ?_;rintro e w' ⟨rfl,rfl⟩;have p0:uK w (((w.alloc (.map #[] 0)).alloc (.cells #[.int .u8 1] 5)).alloc (.cells #[.int .i64 2] 3)) w.heap.size 1 2 (.func (.func 332) #[] #[.pointer (some ⟨w.heap.size+1,0,none⟩),.pointer (some ⟨w.heap.size+1+1,0,none⟩)]):=(by have:=Av HC0.out 1 2;simpa using this);obtain⟨Y0,I0,D0,g0⟩:=((HC0.out.alloc (.cells #[.int .u8 1] 5)).alloc (.cells #[.int .i64 2] 3)).put wG (.func (.func 332) #[] #[.pointer (some ⟨w.heap.size+1,0,none⟩),.pointer (some ⟨w.heap.size+1+1,0,none⟩)]) (by first|decide|simp);have HC1:=Lib.hid D0;clear D0)
  | (go_at_call 271;refine(Au _ 2 2).mono ?_;rintro e w' ⟨rfl,rfl⟩;have p1:uK w ((Y0.alloc (.cells #[.int .u8 2] 5)).alloc (.cells #[.int .i64 2] 3)) w.heap.size 2 2 (.func (.func 332) #[] #[.pointer (some ⟨Y0.heap.size,0,none⟩),.pointer (some ⟨Y0.heap.size+1,0,none⟩)]):=(Av HC1.out 2 2);obtain⟨Y1,I1,D1,g1⟩:=((HC1.out.alloc (.cells #[.int .u8 2] 5)).alloc (.cells #[.int .i64 2] 3)).put wH (.func (.func 332) #[] #[.pointer (some ⟨Y0.heap.size,0,none⟩),.pointer (some ⟨Y0.heap.size+1,0,none⟩)]) (by first|decide|simp);have HC2:=Lib.hid D1;clear D1)
  | (go_at_call 271;refine(Au _ 3 2).mono ?_;rintro e w' ⟨rfl,rfl⟩;have p2:uK w ((Y1.alloc (.cells #[.int .u8 3] 5)).alloc (.cells #[.int .i64 2] 3)) w.heap.size 3 2 (.func (.func 332) #[] #[.pointer (some ⟨Y1.heap.size,0,none⟩),.pointer (some ⟨Y1.heap.size+1,0,none⟩)]):=(Av HC2.out 3 2);obtain⟨Y2,I2,D2,g2⟩:=((HC2.out.alloc (.cells #[.int .u8 3] 5)).alloc (.cells #[.int .i64 2] 3)).put wI (.func (.func 332) #[] #[.pointer (some ⟨Y1.heap.size,0,none⟩),.pointer (some ⟨Y1.heap.size+1,0,none⟩)]) (by first|decide|simp);have HC3:=Lib.hid D2;clear D2)
  | (go_at_call 271;refine(Au _ 4 2).mono ?_;rintro e w' ⟨rfl,rfl⟩;have p3:uK w ((Y2.alloc (.cells #[.int .u8 4] 5)).alloc (.cells #[.int .i64 2] 3)) w.heap.size 4 2 (.func (.func 332) #[] #[.pointer (some ⟨Y2.heap.size,0,none⟩),.pointer (some ⟨Y2.heap.size+1,0,none⟩)]):=(Av HC3.out 4 2);obtain⟨Y3,I3,D3,g3⟩:=((HC3.out.alloc (.cells #[.int .u8 4] 5)).alloc (.cells #[.int .i64 2] 3)).put wJ (.func (.func 332) #[] #[.pointer (some ⟨Y2.heap.size,0,none⟩),.pointer (some ⟨Y2.heap.size+1,0,none⟩)]) (by first|decide|simp);have HC4:=Lib.hid D3;clear D3)
  | (go_at_call 271;refine(Au _ 7 2).mono ?_;rintro e w' ⟨rfl,rfl⟩;have p4:uK w ((Y3.alloc (.cells #[.int .u8 7] 5)).alloc (.cells #[.int .i64 2] 3)) w.heap.size 7 2 (.func (.func 332) #[] #[.pointer (some ⟨Y3.heap.size,0,none⟩),.pointer (some ⟨Y3.heap.size+1,0,none⟩)]):=(Av HC4.out 7 2);obtain⟨Y4,I4,D4,g4⟩:=((HC4.out.alloc (.cells #[.int .u8 7] 5)).alloc (.cells #[.int .i64 2] 3)).put wK (.func (.func 332) #[] #[.pointer (some ⟨Y3.heap.size,0,none⟩),.pointer (some ⟨Y3.heap.size+1,0,none⟩)]) (by first|decide|simp);have HC5:=Lib.hid D4;clear D4)
  | (go_at_call 271;refine(Au _ 6 3).mono ?_;rintro e w' ⟨rfl,rfl⟩;have p5:uK w ((Y4.alloc (.cells #[.int .u8 6] 5)).alloc (.cells #[.int .i64 3] 3)) w.heap.size 6 3 (.func (.func 332) #[] #[.pointer (some ⟨Y4.heap.size,0,none⟩),.pointer (some ⟨Y4.heap.size+1,0,none⟩)]):=(Av HC5.out 6 3);obtain⟨Y5,I5,D5,g5⟩:=((HC5.out.alloc (.cells #[.int .u8 6] 5)).alloc (.cells #[.int .i64 3] 3)).put wL (.func (.func 332) #[] #[.pointer (some ⟨Y4.heap.size,0,none⟩),.pointer (some ⟨Y4.heap.size+1,0,none⟩)]) (by first|decide|simp);have HC6:=Lib.hid D5;clear D5)
  | (go_at_call 271;refine(Au _ 5 1).mono ?_;rintro e w' ⟨rfl,rfl⟩;have p6:uK w ((Y5.alloc (.cells #[.int .u8 5] 5)).alloc (.cells #[.int .i64 1] 3)) w.heap.size 5 1 (.func (.func 332) #[] #[.pointer (some ⟨Y5.heap.size,0,none⟩),.pointer (some ⟨Y5.heap.size+1,0,none⟩)]):=(Av HC6.out 5 1);obtain⟨Y6,I6,D6,g6⟩:=((HC6.out.alloc (.cells #[.int .u8 5] 5)).alloc (.cells #[.int .i64 1] 3)).put wM (.func (.func 332) #[] #[.pointer (some ⟨Y5.heap.size,0,none⟩),.pointer (some ⟨Y5.heap.size+1,0,none⟩)]) (by first|decide|simp);have HC7:=Lib.hid D6;clear D6)
  | (go_at_call 271;refine(Au _ 8 1).mono ?_;rintro e w' ⟨rfl,rfl⟩;have p7:uK w ((Y6.alloc (.cells #[.int .u8 8] 5)).alloc (.cells #[.int .i64 1] 3)) w.heap.size 8 1 (.func (.func 332) #[] #[.pointer (some ⟨Y6.heap.size,0,none⟩),.pointer (some ⟨Y6.heap.size+1,0,none⟩)]):=(Av HC7.out 8 1);obtain⟨Y7,I7,D7,g7⟩:=((HC7.out.alloc (.cells #[.int .u8 8] 5)).alloc (.cells #[.int .i64 1] 3)).put wN (.func (.func 332) #[] #[.pointer (some ⟨Y6.heap.size,0,none⟩),.pointer (some ⟨Y6.heap.size+1,0,none⟩)]) (by first|decide|simp);have HC8:=Lib.hid D7;clear D7)
  | (go_at_call 271;refine(Au _ 9 1).mono ?_;rintro e w' ⟨rfl,rfl⟩;have p8:uK w ((Y7.alloc (.cells #[.int .u8 9] 5)).alloc (.cells #[.int .i64 1] 3)) w.heap.size 9 1 (.func (.func 332) #[] #[.pointer (some ⟨Y7.heap.size,0,none⟩),.pointer (some ⟨Y7.heap.size+1,0,none⟩)]):=(Av HC8.out 9 1);obtain⟨Y8,I8,D8,g8⟩:=((HC8.out.alloc (.cells #[.int .u8 9] 5)).alloc (.cells #[.int .i64 1] 3)).put wO (.func (.func 332) #[] #[.pointer (some ⟨Y7.heap.size,0,none⟩),.pointer (some ⟨Y7.heap.size+1,0,none⟩)]) (by first|decide|simp);have HC9:=Lib.hid D8;clear D8)
  | (go_at_call 271;refine(Au _ 13 2).mono ?_;rintro e w' ⟨rfl,rfl⟩;have p9:uK w ((Y8.alloc (.cells #[.int .u8 13] 5)).alloc (.cells #[.int .i64 2] 3)) w.heap.size 13 2 (.func (.func 332) #[] #[.pointer (some ⟨Y8.heap.size,0,none⟩),.pointer (some ⟨Y8.heap.size+1,0,none⟩)]):=(Av HC9.out 13 2);obtain⟨Y9,I9,D9,g9⟩:=((HC9.out.alloc (.cells #[.int .u8 13] 5)).alloc (.cells #[.int .i64 2] 3)).put wP (.func (.func 332) #[] #[.pointer (some ⟨Y8.heap.size,0,none⟩),.pointer (some ⟨Y8.heap.size+1,0,none⟩)]) (by first|decide|simp);have HC10:=Lib.hid D9;clear D9)
  | (go_at_call 271;refine(Au _ 14 2).mono ?_;rintro e w' ⟨rfl,rfl⟩;have p10:uK w ((Y9.alloc (.cells #[.int .u8 14] 5)).alloc (.cells #[.int .i64 2] 3)) w.heap.size 14 2 (.func (.func 332) #[] #[.pointer (some ⟨Y9.heap.size,0,none⟩),.pointer (some ⟨Y9.heap.size+1,0,none⟩)]):=(Av HC10.out 14 2);obtain⟨Y10,I10,D10,g10⟩:=((HC10.out.alloc (.cells #[.int .u8 14] 5)).alloc (.cells #[.int .i64 2] 3)).put wQ (.func (.func 332) #[] #[.pointer (some ⟨Y9.heap.size,0,none⟩),.pointer (some ⟨Y9.heap.size+1,0,none⟩)]) (by first|decide|simp);have HC11:=Lib.hid D10;clear D10;obtain⟨Z0,J0,E0,f0⟩:=(HC11.out).put vV (.func (.func 272) #[] #[]) (by first|decide|simp);obtain⟨Z1,J1,E1,f1⟩:=(E0).put vX (.func (.func 276) #[] #[]) (by first|decide|simp);obtain⟨Z2,J2,E2,f2⟩:=(E1).put vY (.func (.func 278) #[] #[]) (by first|decide|simp);obtain⟨Z3,J3,E3,f3⟩:=(E2).put vZ (.func (.func 279) #[] #[]) (by first|decide|simp);obtain⟨Z4,J4,E4,f4⟩:=(E3).put wh (.func (.func 283) #[] #[]) (by first|decide|simp);obtain⟨Z5,J5,E5,f5⟩:=(E4).put wm (.func (.func 285) #[] #[]) (by first|decide|simp)))
 go_ret
 have c10:Y10.grownBy Z5 (some w.heap.size):=grownBy_trans f0 (grownBy_trans f1 (grownBy_trans f2 (grownBy_trans f3 (grownBy_trans f4 f5))))
 have c9:Y9.grownBy Z5 (some w.heap.size):=grownBy_trans (World.grownBy_alloc _ _ _) (grownBy_trans (World.grownBy_alloc _ _ _) (grownBy_trans g10 c10))
 have c8:Y8.grownBy Z5 (some w.heap.size):=grownBy_trans (World.grownBy_alloc _ _ _) (grownBy_trans (World.grownBy_alloc _ _ _) (grownBy_trans g9 c9))
 have c7:Y7.grownBy Z5 (some w.heap.size):=grownBy_trans (World.grownBy_alloc _ _ _) (grownBy_trans (World.grownBy_alloc _ _ _) (grownBy_trans g8 c8))
 have c6:Y6.grownBy Z5 (some w.heap.size):=grownBy_trans (World.grownBy_alloc _ _ _) (grownBy_trans (World.grownBy_alloc _ _ _) (grownBy_trans g7 c7))
 have c5:Y5.grownBy Z5 (some w.heap.size):=grownBy_trans (World.grownBy_alloc _ _ _) (grownBy_trans (World.grownBy_alloc _ _ _) (grownBy_trans g6 c6))
 have c4:Y4.grownBy Z5 (some w.heap.size):=grownBy_trans (World.grownBy_alloc _ _ _) (grownBy_trans (World.grownBy_alloc _ _ _) (grownBy_trans g5 c5))
 have c3:Y3.grownBy Z5 (some w.heap.size):=grownBy_trans (World.grownBy_alloc _ _ _) (grownBy_trans (World.grownBy_alloc _ _ _) (grownBy_trans g4 c4))
 have c2:Y2.grownBy Z5 (some w.heap.size):=grownBy_trans (World.grownBy_alloc _ _ _) (grownBy_trans (World.grownBy_alloc _ _ _) (grownBy_trans g3 c3))
 have c1:Y1.grownBy Z5 (some w.heap.size):=grownBy_trans (World.grownBy_alloc _ _ _) (grownBy_trans (World.grownBy_alloc _ _ _) (grownBy_trans g2 c2))
 have c0:Y0.grownBy Z5 (some w.heap.size):=grownBy_trans (World.grownBy_alloc _ _ _) (grownBy_trans (World.grownBy_alloc _ _ _) (grownBy_trans g1 c1))
 exact⟨_,rfl,_,_,_,_,_,_,_,_,_,_,_,E5,p0.kept (grownBy_trans g0 c0),p1.kept (grownBy_trans g1 c1),p2.kept (grownBy_trans g2 c2),p3.kept (grownBy_trans g3 c3),p4.kept (grownBy_trans g4 c4),p5.kept (grownBy_trans g5 c5),p6.kept (grownBy_trans g6 c6),p7.kept (grownBy_trans g7 c7),p8.kept (grownBy_trans g8 c8),p9.kept (grownBy_trans g9 c9),p10.kept (grownBy_trans g10 c10)⟩
open Go.RowKit Go.Shelf FlagM
attribute [local go_sem] Oper.semAt_some
theorem ai8 (w:World):(Instr.typeAssert (.iface 37 (.int .i64 3)) 20 37 true).run Tryz.prog w = .ok (.tuple #[.int .i64 3,.bool true]) w:=by
 have h:=Tryz.underlying37
 simp[Instr.typeAssert,run_underlying h,Result.andThen]
theorem ai9 (w:World):(Instr.typeAssert .nilIface 20 37 true).run Tryz.prog w = .ok (.tuple #[.int .i64 0,.bool false]) w:=by
 have h:=Tryz.underlying37
 simp[Instr.typeAssert,run_underlying h,Result.andThen,Tryz.zeroValue37]
theorem KS (pd pk:Nat) (v0:Value) (older:List PanicEntry) (w:World) (hne:pd≠pk) (hd:w.heap[pd]? = some (.cells #[v0] 143)) (hk:w.heap[pk]? = some (.cells #[.bool false] 4)) :
  CallsD Tryz.prog 207 #[.pointer (some ⟨pd,0,none⟩),.pointer (some ⟨pk,0,none⟩)] (.panicking ({ v:=.iface 37 (.int .i64 3),recovered:=false } :: older)) w fun e u' w' =>
   e = .returned (.tuple #[])∧u' = .panicking ({ v:=.iface 37 (.int .i64 3),recovered:=true } :: older)∧w'=(w.setCell ⟨pd,0,none⟩ .nilFunc).setCell ⟨pk,0,none⟩ (.bool false):=by
 have c0:w.cell? ⟨pd,0,none⟩=some v0:=by simp[World.cell?,hd]
 have z0:w.frozen? ⟨pd,0,none⟩=false:=by simp[World.frozen?,hd]
 have c1:w.cell? ⟨pk,0,none⟩=some (.bool false):=by simp[World.cell?,hk]
 have z1:w.frozen? ⟨pk,0,none⟩=false:=by simp[World.frozen?,hk]
 have ha:=ai8 w
 refine callsD_of_wpS Tryz.func207 rfl fun c₀ cs hu=>?_
 simp only[Tryz.ntmps207,List.size_toArray,List.length_cons,List.length_nil,Nat.reduceAdd,Nat.reduceSub,Array.replicate_succ,Array.replicate_zero,List.push_toArray,List.append_toArray,List.nil_append,List.cons_append]
 apply wpS_seq
 apply wpS_region
 simp[wpOpsS,go_sem,recoverD,hu,ha,Exit.thenS]
 apply wpS_seq
 apply wpS_region
 simp[wpOpsS,go_sem,Exit.thenS]
 refine wpS_cond (t:=true) (by simp[Act.eval]) ?_
 simp only[if_true]
 apply wpS_region
 have hk2:(w.setCell ⟨pd,0,none⟩ .nilFunc).heap[pk]? = some (.cells #[.bool false] 4):=((um w pd 0 .nilFunc).block _ (Array.getElem?_eq_some_iff.1 hk).1 (fun e=>hne (Option.some.inj e).symm)).trans hk
 have c2:(w.setCell ⟨pd,0,none⟩ .nilFunc).cell? ⟨pk,0,none⟩=some (.bool false):=by simp[World.cell?,hk2]
 have z2:(w.setCell ⟨pd,0,none⟩ .nilFunc).frozen? ⟨pk,0,none⟩=false:=by simp[World.frozen?,hk2]
 have hst:=run_store Tryz.prog w ⟨pd,0,none⟩ .nilFunc .plain rfl
 simp[wpOpsS,go_sem,hst,c0,z0,c2,z2,bodyPostS,results,Tryz.results207]
theorem ZM (pd pk:Nat) (w:World) :
  CallsD Tryz.prog 207 #[.pointer (some ⟨pd,0,none⟩),.pointer (some ⟨pk,0,none⟩)] .returning w fun e u' w'=>e = .returned (.tuple #[])∧u' = .returning∧w'=w:=by
 have ha:=ai9 w
 refine callsD_of_wpS Tryz.func207 rfl fun c₀ cs hu=>?_
 simp only[Tryz.ntmps207,List.size_toArray,List.length_cons,List.length_nil,Nat.reduceAdd,Nat.reduceSub,Array.replicate_succ,Array.replicate_zero,List.push_toArray,List.append_toArray,List.nil_append,List.cons_append]
 apply wpS_seq
 apply wpS_region
 simp[wpOpsS,go_sem,recoverD,hu,ha,Exit.thenS]
 apply wpS_seq
 apply wpS_region
 simp[wpOpsS,go_sem,Exit.thenS]
 refine wpS_cond (t:=false) (by simp[Act.eval]) ?_
 simp only[Bool.false_eq_true,if_false]
 refine wpS_of_wp (wp_skip ?_)
 cases c₀
 simp_all[bodyPostS,results,Tryz.results207]
open Go.RowKit Go.Shelf FlagM
open Go.Lib (grownBy_trans grownBy_below grownBy_allocR)
attribute [local go_sem] Oper.semAt_some
theorem xS {w X:World} {b:Nat} {l r:List (ByteArray×Value)} {k:ByteArray} {v:Value} (h:CM w X b (l++(k,v)::r)) (hk:∀ x∈l,k≠x.1) :
  (Instr.lookup Cq (.map (some b)) (.string k) true).run Tryz.prog X = .ok (.tuple #[v,.bool true]) X:=by
 have hb:=h.1
 have hku:Tryz.prog.underlying 9=some .string:=Tryz.underlying9
 have hm:Tryz.prog.underlying Cq=some (.map 9 268):=Tryz.underlying270
 obtain⟨q,hq⟩:=ZJ k v l r 0 0 hk
 have hc:∀ em,(Instr.checkKey em 10000 9 (.string k)).run Tryz.prog X = .ok () X:=fun em=>MapKept.run_checkKey (k:=.string k) hku (by simp[MapKept.IsKey]) em 9999
 simp[Instr.lookup,run_underlying hm,MapKept.run_getObj_map hb,hc,MapKept.run_findKey hku hq,Result.andThen]
theorem aja {w X:World} {b:Nat} {l:List (ByteArray×Value)} {k:ByteArray} (h:CM w X b l) (hk:∀ x∈l,k≠x.1) :
  (Instr.lookup Cq (.map (some b)) (.string k) true).run Tryz.prog X = .ok (.tuple #[.nilFunc,.bool false]) X:=by
 have hb:=h.1
 have hku:Tryz.prog.underlying 9=some .string:=Tryz.underlying9
 have hm:Tryz.prog.underlying Cq=some (.map 9 268):=Tryz.underlying270
 have hq:=RY k l 0 0 hk
 have hc:∀ em,(Instr.checkKey em 10000 9 (.string k)).run Tryz.prog X = .ok () X:=fun em=>MapKept.run_checkKey (k:=.string k) hku (by simp[MapKept.IsKey]) em 9999
 simp[Instr.lookup,run_underlying hm,MapKept.run_getObj_map hb,hc,MapKept.run_findKey hku hq,Result.andThen,Tryz.zeroValue268]
def tZ (s:ByteArray) (ws:List ByteArray):Option (sS×List ByteArray) :=
 if s=wG then uR 1 2 ws else
 if s=wH then uR 2 2 ws else
 if s=wI then uR 3 2 ws else
 if s=wJ then uR 4 2 ws else
 if s=wK then uR 7 2 ws else
 if s=wL then uR 6 3 ws else
 if s=wM then uR 5 1 ws else
 if s=wN then uR 8 1 ws else
 if s=wO then uR 9 1 ws else
 if s=wP then uR 13 2 ws else
 if s=wQ then uR 14 2 ws else
 if s=vV then yZ ws else
 if s=vX then zC ws else
 if s=vY then zD ws else
 if s=vZ then vO ws else
 if s=wh then some (.clear,ws) else
 if s=wm then some (.sticky,ws) else
 none
theorem enters {f:FuncId} {fn:Func} (hf:Tryz.prog.funcs[f]? = some fn) (hn:(fn.name == "runtime.NumGoroutine")=false) (hb:fn.body.isSome=true):∀ args w,(callFunc f args).run Tryz.prog w = .ok (.enter f args) w:=by
 intro args w
 obtain⟨c,hb⟩:=Option.isSome_iff_exists.1 hb
 have hn':fn.name ≠ "runtime.NumGoroutine":=by simpa using hn
 simp[callFunc,go_sem,hf,hn',hb]
def RZ (X:World) (s:ByteArray) (v:Value):Prop :=
 ∃ g caps,v = .func (.func g) #[] caps∧(∀ args w,(callFunc g args).run Tryz.prog w = .ok (.enter g args) w)∧∀ W B ws,X.grownBy W none→X.heap.size≤B→tF W B ws→Calls Tryz.prog g (#[.pointer (some ⟨B,0,none⟩)]++caps) W (Br W B (tZ s ws))
theorem Aw {w X:World} {b:Nat} {s:ByteArray} {v:Value} {o:Int} {n:Nat} (hn:n≤3) (h:uK w X b o n v) (hs:∀ ws,tZ s ws=uR o n ws):RZ X s v:=by
 obtain⟨p,q,h1,h2,h3,h4,h5,h6,h7⟩:=h
 have hp:=(Array.getElem?_eq_some_iff.1 h6).1
 have hq:=(Array.getElem?_eq_some_iff.1 h7).1
 refine⟨_,_,h1,enters Tryz.func332 rfl rfl,fun W B ws hg hB hW=>?_⟩
 rw[hs]
 exact ai5 hW p q o n hn (by omega) (by omega) ((hg.block _ hp (by simp)).trans h6) ((hg.block _ hq (by simp)).trans h7)
theorem look {w X:World} {b:Nat} (h:KR w X b) (s:ByteArray) :
  (∃ v,(Instr.lookup Cq (.map (some b)) (.string s) true).run Tryz.prog X = .ok (.tuple #[v,.bool true]) X∧RZ X s v) ∨
  ((Instr.lookup Cq (.map (some b)) (.string s) true).run Tryz.prog X = .ok (.tuple #[.nilFunc,.bool false]) X∧∀ ws,tZ s ws=none):=by
 obtain⟨v0,v1,v2,v3,v4,v5,v6,v7,v8,v9,v10,hC,p0,p1,p2,p3,p4,p5,p6,p7,p8,p9,p10⟩:=h
 by_cases e0:s=wG
 ·subst e0
  left
  refine⟨_,xS (l:=[]) (r:=[(wH,v1),(wI,v2),(wJ,v3),(wK,v4),(wL,v5),(wM,v6),(wN,v7),(wO,v8),(wP,v9),(wQ,v10),(vV,.func (.func 272) #[] #[]),(vX,.func (.func 276) #[] #[]),(vY,.func (.func 278) #[] #[]),(vZ,.func (.func 279) #[] #[]),(wh,.func (.func 283) #[] #[]),(wm,.func (.func 285) #[] #[])]) hC (by simp;try decide),?_⟩
  exact Aw (by decide) p0 fun ws=>by unfold tZ;first|rfl|(simp;done)|decide
 by_cases e1:s=wH
 ·subst e1
  left
  refine⟨_,xS (l:=[(wG,v0)]) (r:=[(wI,v2),(wJ,v3),(wK,v4),(wL,v5),(wM,v6),(wN,v7),(wO,v8),(wP,v9),(wQ,v10),(vV,.func (.func 272) #[] #[]),(vX,.func (.func 276) #[] #[]),(vY,.func (.func 278) #[] #[]),(vZ,.func (.func 279) #[] #[]),(wh,.func (.func 283) #[] #[]),(wm,.func (.func 285) #[] #[])]) hC (by simp;try decide),?_⟩
  exact Aw (by decide) p1 fun ws=>by unfold tZ;first|rfl|(simp;done)|decide
 by_cases e2:s=wI
 ·subst e2
  left
  refine⟨_,xS (l:=[(wG,v0),(wH,v1)]) (r:=[(wJ,v3),(wK,v4),(wL,v5),(wM,v6),(wN,v7),(wO,v8),(wP,v9),(wQ,v10),(vV,.func (.func 272) #[] #[]),(vX,.func (.func 276) #[] #[]),(vY,.func (.func 278) #[] #[]),(vZ,.func (.func 279) #[] #[]),(wh,.func (.func 283) #[] #[]),(wm,.func (.func 285) #[] #[])]) hC (by simp;try decide),?_⟩
  exact Aw (by decide) p2 fun ws=>by unfold tZ;first|rfl|(simp;done)|decide
 by_cases e3:s=wJ
 ·subst e3
  left
  refine⟨_,xS (l:=[(wG,v0),(wH,v1),(wI,v2)]) (r:=[(wK,v4),(wL,v5),(wM,v6),(wN,v7),(wO,v8),(wP,v9),(wQ,v10),(vV,.func (.func 272) #[] #[]),(vX,.func (.func 276) #[] #[]),(vY,.func (.func 278) #[] #[]),(vZ,.func (.func 279) #[] #[]),(wh,.func (.func 283) #[] #[]),(wm,.func (.func 285) #[] #[])]) hC (by simp;try decide),?_⟩
  exact Aw (by decide) p3 fun ws=>by unfold tZ;first|rfl|(simp;done)|decide
 by_cases e4:s=wK
 ·subst e4
  left
  refine⟨_,xS (l:=[(wG,v0),(wH,v1),(wI,v2),(wJ,v3)]) (r:=[(wL,v5),(wM,v6),(wN,v7),(wO,v8),(wP,v9),(wQ,v10),(vV,.func (.func 272) #[] #[]),(vX,.func (.func 276) #[] #[]),(vY,.func (.func 278) #[] #[]),(vZ,.func (.func 279) #[] #[]),(wh,.func (.func 283) #[] #[]),(wm,.func (.func 285) #[] #[])]) hC (by simp;try decide),?_⟩
  exact Aw (by decide) p4 fun ws=>by unfold tZ;first|rfl|(simp;done)|decide
 by_cases e5:s=wL
 ·subst e5
  left
  refine⟨_,xS (l:=[(wG,v0),(wH,v1),(wI,v2),(wJ,v3),(wK,v4)]) (r:=[(wM,v6),(wN,v7),(wO,v8),(wP,v9),(wQ,v10),(vV,.func (.func 272) #[] #[]),(vX,.func (.func 276) #[] #[]),(vY,.func (.func 278) #[] #[]),(vZ,.func (.func 279) #[] #[]),(wh,.func (.func 283) #[] #[]),(wm,.func (.func 285) #[] #[])]) hC (by simp;try decide),?_⟩
  exact Aw (by decide) p5 fun ws=>by unfold tZ;first|rfl|(simp;done)|decide
 by_cases e6:s=wM
 ·subst e6
  left
  refine⟨_,xS (l:=[(wG,v0),(wH,v1),(wI,v2),(wJ,v3),(wK,v4),(wL,v5)]) (r:=[(wN,v7),(wO,v8),(wP,v9),(wQ,v10),(vV,.func (.func 272) #[] #[]),(vX,.func (.func 276) #[] #[]),(vY,.func (.func 278) #[] #[]),(vZ,.func (.func 279) #[] #[]),(wh,.func (.func 283) #[] #[]),(wm,.func (.func 285) #[] #[])]) hC (by simp;try decide),?_⟩
  exact Aw (by decide) p6 fun ws=>by unfold tZ;first|rfl|(simp;done)|decide
 by_cases e7:s=wN
 ·subst e7
  left
  refine⟨_,xS (l:=[(wG,v0),(wH,v1),(wI,v2),(wJ,v3),(wK,v4),(wL,v5),(wM,v6)]) (r:=[(wO,v8),(wP,v9),(wQ,v10),(vV,.func (.func 272) #[] #[]),(vX,.func (.func 276) #[] #[]),(vY,.func (.func 278) #[] #[]),(vZ,.func (.func 279) #[] #[]),(wh,.func (.func 283) #[] #[]),(wm,.func (.func 285) #[] #[])]) hC (by simp;try decide),?_⟩
  exact Aw (by decide) p7 fun ws=>by unfold tZ;first|rfl|(simp;done)|decide
 by_cases e8:s=wO
 ·subst e8
  left
  refine⟨_,xS (l:=[(wG,v0),(wH,v1),(wI,v2),(wJ,v3),(wK,v4),(wL,v5),(wM,v6),(wN,v7)]) (r:=[(wP,v9),(wQ,v10),(vV,.func (.func 272) #[] #[]),(vX,.func (.func 276) #[] #[]),(vY,.func (.func 278) #[] #[]),(vZ,.func (.func 279) #[] #[]),(wh,.func (.func 283) #[] #[]),(wm,.func (.func 285) #[] #[])]) hC (by simp;try decide),?_⟩
  exact Aw (by decide) p8 fun ws=>by unfold tZ;first|rfl|(simp;done)|decide
 by_cases e9:s=wP
 ·subst e9
  left
  refine⟨_,xS (l:=[(wG,v0),(wH,v1),(wI,v2),(wJ,v3),(wK,v4),(wL,v5),(wM,v6),(wN,v7),(wO,v8)]) (r:=[(wQ,v10),(vV,.func (.func 272) #[] #[]),(vX,.func (.func 276) #[] #[]),(vY,.func (.func 278) #[] #[]),(vZ,.func (.func 279) #[] #[]),(wh,.func (.func 283) #[] #[]),(wm,.func (.func 285) #[] #[])]) hC (by simp;try decide),?_⟩
  exact Aw (by decide) p9 fun ws=>by unfold tZ;first|rfl|(simp;done)|decide
 by_cases e10:s=wQ
 ·subst e10
  left
  refine⟨_,xS (l:=[(wG,v0),(wH,v1),(wI,v2),(wJ,v3),(wK,v4),(wL,v5),(wM,v6),(wN,v7),(wO,v8),(wP,v9)]) (r:=[(vV,.func (.func 272) #[] #[]),(vX,.func (.func 276) #[] #[]),(vY,.func (.func 278) #[] #[]),(vZ,.func (.func 279) #[] #[]),(wh,.func (.func 283) #[] #[]),(wm,.func (.func 285) #[] #[])]) hC (by simp;try decide),?_⟩
  exact Aw (by decide) p10 fun ws=>by unfold tZ;first|rfl|(simp;done)|decide
 by_cases e11:s=vV
 ·subst e11
  left
  refine⟨_,xS (l:=[(wG,v0),(wH,v1),(wI,v2),(wJ,v3),(wK,v4),(wL,v5),(wM,v6),(wN,v7),(wO,v8),(wP,v9),(wQ,v10)]) (r:=[(vX,.func (.func 276) #[] #[]),(vY,.func (.func 278) #[] #[]),(vZ,.func (.func 279) #[] #[]),(wh,.func (.func 283) #[] #[]),(wm,.func (.func 285) #[] #[])]) hC (by simp;try decide),?_⟩
  refine⟨_,_,rfl,enters Tryz.func272 rfl rfl,fun W B ws hg hB hW=>?_⟩
  have hs:tZ vV ws=yZ ws:=by unfold tZ;first|rfl|(simp;done)
  rw[hs]
  exact aiW hW
 by_cases e12:s=vX
 ·subst e12
  left
  refine⟨_,xS (l:=[(wG,v0),(wH,v1),(wI,v2),(wJ,v3),(wK,v4),(wL,v5),(wM,v6),(wN,v7),(wO,v8),(wP,v9),(wQ,v10),(vV,.func (.func 272) #[] #[])]) (r:=[(vY,.func (.func 278) #[] #[]),(vZ,.func (.func 279) #[] #[]),(wh,.func (.func 283) #[] #[]),(wm,.func (.func 285) #[] #[])]) hC (by simp;try decide),?_⟩
  refine⟨_,_,rfl,enters Tryz.func276 rfl rfl,fun W B ws hg hB hW=>?_⟩
  have hs:tZ vX ws=zC ws:=by unfold tZ;first|rfl|(simp;done)
  rw[hs]
  exact aiX hW
 by_cases e13:s=vY
 ·subst e13
  left
  refine⟨_,xS (l:=[(wG,v0),(wH,v1),(wI,v2),(wJ,v3),(wK,v4),(wL,v5),(wM,v6),(wN,v7),(wO,v8),(wP,v9),(wQ,v10),(vV,.func (.func 272) #[] #[]),(vX,.func (.func 276) #[] #[])]) (r:=[(vZ,.func (.func 279) #[] #[]),(wh,.func (.func 283) #[] #[]),(wm,.func (.func 285) #[] #[])]) hC (by simp;try decide),?_⟩
  refine⟨_,_,rfl,enters Tryz.func278 rfl rfl,fun W B ws hg hB hW=>?_⟩
  have hs:tZ vY ws=zD ws:=by unfold tZ;first|rfl|(simp;done)
  rw[hs]
  exact aiY hW
 by_cases e14:s=vZ
 ·subst e14
  left
  refine⟨_,xS (l:=[(wG,v0),(wH,v1),(wI,v2),(wJ,v3),(wK,v4),(wL,v5),(wM,v6),(wN,v7),(wO,v8),(wP,v9),(wQ,v10),(vV,.func (.func 272) #[] #[]),(vX,.func (.func 276) #[] #[]),(vY,.func (.func 278) #[] #[])]) (r:=[(wh,.func (.func 283) #[] #[]),(wm,.func (.func 285) #[] #[])]) hC (by simp;try decide),?_⟩
  refine⟨_,_,rfl,enters Tryz.func279 rfl rfl,fun W B ws hg hB hW=>?_⟩
  have hs:tZ vZ ws=vO ws:=by unfold tZ;first|rfl|(simp;done)
  rw[hs]
  exact ai1 hW
 by_cases e15:s=wh
 ·subst e15
  left
  refine⟨_,xS (l:=[(wG,v0),(wH,v1),(wI,v2),(wJ,v3),(wK,v4),(wL,v5),(wM,v6),(wN,v7),(wO,v8),(wP,v9),(wQ,v10),(vV,.func (.func 272) #[] #[]),(vX,.func (.func 276) #[] #[]),(vY,.func (.func 278) #[] #[]),(vZ,.func (.func 279) #[] #[])]) (r:=[(wm,.func (.func 285) #[] #[])]) hC (by simp;try decide),?_⟩
  refine⟨_,_,rfl,enters Tryz.func283 rfl rfl,fun W B ws hg hB hW=>?_⟩
  have hs:tZ wh ws=some (.clear,ws):=by unfold tZ;first|rfl|(simp;done)
  rw[hs]
  exact aiZ hW
 by_cases e16:s=wm
 ·subst e16
  left
  refine⟨_,xS (l:=[(wG,v0),(wH,v1),(wI,v2),(wJ,v3),(wK,v4),(wL,v5),(wM,v6),(wN,v7),(wO,v8),(wP,v9),(wQ,v10),(vV,.func (.func 272) #[] #[]),(vX,.func (.func 276) #[] #[]),(vY,.func (.func 278) #[] #[]),(vZ,.func (.func 279) #[] #[]),(wh,.func (.func 283) #[] #[])]) (r:=[]) hC (by simp;try decide),?_⟩
  refine⟨_,_,rfl,enters Tryz.func285 rfl rfl,fun W B ws hg hB hW=>?_⟩
  have hs:tZ wm ws=some (.sticky,ws):=by unfold tZ;first|rfl|(simp;done)
  rw[hs]
  exact ai0 hW
 right
 refine⟨aja hC (by simp[ZL];exact⟨e0,e1,e2,e3,e4,e5,e6,e7,e8,e9,e10,e11,e12,e13,e14,e15,e16⟩),fun ws=>by unfold tZ;simp[e0,e1,e2,e3,e4,e5,e6,e7,e8,e9,e10,e11,e12,e13,e14,e15,e16]⟩
end Go.Proofs.YtbembkamcdlhbaaGreatDoor.Sp
