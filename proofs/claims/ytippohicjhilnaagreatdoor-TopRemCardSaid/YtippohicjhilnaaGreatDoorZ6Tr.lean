import Derived.Test.YtippohicjhilnaaGreatDoorWNTr
import Derived.Test.YtippohicjhilnaaGreatDoorZ3Tr
import Derived.Test.YtippohicjhilnaaGreatDoorZ5Tr
import Derived.Recover
import Derived.Lib.BufferOwn
import Derived.Defers
import Derived.Lib.ConvBytes
import Derived.Deep.RegionHeld3
import Derived.Deep.RegionWith
import Derived.MapKept
import Derived.WideMake
import Derived.Laws.Pointers
set_option linter.unusedSimpArgs false
set_option linter.unusedVariables false
set_option maxRecDepth 100000
set_option maxHeartbeats 4000000
open Go.Proofs.Tryz
namespace Go.Proofs.YtippohicjhilnaaGreatDoor.Sp
open Go.RowKit Go.Shelf FlagM
open Go.Lib (grownBy_trans grownBy_below grownBy_allocR)
attribute [local go_sem] Oper.semAt_some
abbrev Ij:Ending:=.panicked [{ v:=.iface 38 (.int .i64 3),recovered:=false }]
theorem ab5 (w:World):Calls prog 139 #[.bool true] w λe w'=>(∃ v,e = .returned v)/\w=w':=by
 go_enter func139,ntmps139
 go_wp2
 go_end0
 exact⟨⟨_,rfl⟩,rfl⟩
theorem ajh (w:World):Calls prog 139 #[.bool false] w λe w'=>e=Ij/\w=w':=by
 go_enter func139,ntmps139
 go_wp2
 simp[bodyPost]
theorem Qd (w:World) (b:Bool) (h:b=false):Calls prog 139 #[.bool b] w λe w'=>e=Ij/\w=w':=by rw[h];exact ajh w
theorem Su (w:World) (b:Bool) (h:b=true):Calls prog 139 #[.bool b] w λe w'=>(∃ v,e = .returned v)/\w=w':=by rw[h];exact ab5 w
theorem yf {P:Program} {fn:Func} {Post:Ending->World->Prop} {c:List PanicEntry} {t:Array Value} {w:World} (h:Post (.panicked c) w):bodyPost P fn Post (Exit.panic c) { tmps:=t,defers:=[] } w:=by simp only[bodyPost];exact⟨trivial,h⟩
theorem awz (w:World) (B bk o c n:Nat) (s:ByteArray) (hl:w.cell? ⟨B,0,none⟩=some (.slice (some ⟨bk,o,none⟩) (n+1) c)) (hz:w.frozen? ⟨B,0,none⟩=false) (hs:w.cell? ⟨bk,o,none⟩=some (.string s)) (hc:n+1<=c) (hc2:c<=4611686018427387904) :
  Calls prog 256 #[.pointer (some ⟨B,0,none⟩)] w λe w'=>e = .returned (.string s)/\∃ o' c',(0<n->o'=o+1)/\n<=c'/\c'<=c/\w'=w.setCell ⟨B,0,none⟩ (.slice (some ⟨bk,o',none⟩) n c'):=by
 have q1:(0:Int)<((n+1:Nat):Int):=by omega
 go_enter func256,ntmps256
 go_wp2_with (go_at_call 139;first|(with_reducible refine(ab5 _).mono ?_);rintro e w' ⟨⟨v,rfl⟩,rfl⟩)
 ·go_ret
  exact⟨rfl,o,by omega,0,by omega,by omega,rfl⟩
 ·go_ret
  exact⟨rfl,o+1,λ_=>rfl,c-1,by omega,by omega,rfl⟩
theorem awC (w:World) (B c:Nat) (ad:Option Addr) (hl:w.cell? ⟨B,0,none⟩=some (.slice ad 0 c)) :
  Calls prog 256 #[.pointer (some ⟨B,0,none⟩)] w λe w'=>e=Ij/\w=w':=by
 go_enter func256,ntmps256
 go_wp2_with (go_at_call 139;(with_reducible refine(ajh _).mono ?_);rintro e w' ⟨rfl,rfl⟩)
 simp[bodyPost]
abbrev tW:TypeId:=212
def wh (w:World) (B:Nat) (ws:List ByteArray):Prop :=
 ∃ bk o c,Boxed w B tW (.slice (some ⟨bk,o,none⟩) ws.length c)/\ws.length<=c/\c<=4611686018427387904/\bk<B/\∀ j s,ws[j]? = some s->w.cell? ⟨bk,o+j,none⟩=some (.string s)
theorem wh.kept {A w:World} {B:Nat} {ws:List ByteArray} {row:Option Nat} (h:wh A B ws) (hg:A.grownBy w row) (hr:∀ k,row=some k->B<k):wh w B ws:=by obtain⟨bk,o,c,h1,h2,h3,h4,h5⟩:=h;have hB:=h1.lt;refine⟨bk,o,c,h1.kept hg (λe=>by have:=hr _ e.symm;omega),h2,h3,h4,λj s hs=>hg.cell (h5 j s hs) (λe=>?_)⟩;have:=hr _ e.symm;simp only at this;omega
theorem ab6 {w:World} {B:Nat} {s:ByteArray} {ws:List ByteArray} (h:wh w B (s::ws)) :
  Calls prog 256 #[.pointer (some ⟨B,0,none⟩)] w λe w'=>e = .returned (.string s)/\wh w' B ws/\w.grownBy w' (some B):=by
 obtain⟨bk,o,c,h1,h2,h3,h4,h5⟩:=h;refine(awz w B bk o c ws.length s (by simpa using h1.cell) h1.frozen (by simpa using h5 0 s rfl) (by simpa using h2) h3).mono ?_;rintro e w' ⟨he,o',c',ho,hc1,hc2,rfl⟩;refine⟨he,⟨bk,o',c',h1.set _,hc1,by omega,h4,λj t ht=>?_⟩,grownBy_setCell' _ _ _⟩;have hj:0<ws.length:=by have:=(List.getElem?_eq_some_iff.1 ht).1;omega
 rw[ho hj];have:=h5 (j+1) t (by simpa using ht);rw[show o+1+j=o+(j+1) by omega];exact(grownBy_setCell' w B _).cell this (by simp;omega)
theorem aji {w:World} {B:Nat} (h:wh w B []):Calls prog 256 #[.pointer (some ⟨B,0,none⟩)] w λe w'=>e=Ij/\w=w':=by obtain⟨bk,o,c,h1,h2,h3,h4,h5⟩:=h;exact awC w B c _ (by simpa using h1.cell)
theorem ajj (s:ByteArray):∀ (zs:List ByteArray) (i:Nat),Lib.idxFromS zs s i<((i+zs.length:Nat):Int)\/zs = []/\Lib.idxFromS zs s i = -1
 | [],i=>.inr ⟨rfl,rfl⟩
 | z::zs,i=>by
  left;unfold Lib.idxFromS;split
  ·simp;omega
  ·rcases ajj s zs (i+1) with h|⟨rfl,h⟩
   ·simp only[List.length_cons];omega
   ·rw[h];omega
theorem ajk (zs:List ByteArray) (s:ByteArray):Lib.idxOfS zs s<((zs.length+1:Nat):Int):=by
 rcases ajj s zs 0 with h|⟨_,h⟩
 ·unfold Lib.idxOfS;omega
 ·unfold Lib.idxOfS;omega
def Qe (w:World) (b:Nat) (zs:List ByteArray):Prop:=b<w.heap.size/\∀ j,j<zs.length->w.cell? ⟨b,0+j,none⟩=some (.string (zs.getD j ByteArray.empty))
theorem Qe.kept {A w:World} {b:Nat} {zs:List ByteArray} {row:Option Nat} (h:Qe A b zs) (hg:A.grownBy w row) (hr:some b≠row):Qe w b zs :=
 ⟨Nat.lt_of_lt_of_le h.1 hg.size,λj hj=>hg.cell (h.2 j hj) hr⟩
theorem awD {w:World} {B:Nat} {s:ByteArray} {ws:List ByteArray} (h:wh w B (s::ws)) (b:Nat) (zs:List ByteArray) (hz:zs.length<=5) (hl:Qe w b zs) (hb:B<b) :
  Calls prog 203 #[.pointer (some ⟨B,0,none⟩),.slice (some ⟨b,0,none⟩) zs.length zs.length] w λe w' =>
   ((0<=Lib.idxOfS zs s/\e = .returned (.int .u8 (Lib.idxOfS zs s))/\wh w' B ws)\/(Lib.idxOfS zs s<0/\e=Ij))/\w.grownBy w' (some B):=by
 have hx:=ajk zs s;have H:=Lib.hid (ab6 h);have HL:=Lib.hid (λW (hg:w.grownBy W (some B))=>hl.kept hg (λe=>by have:=Option.some.inj e;omega));by_cases hi:0<=Lib.idxOfS zs s
 ·generalize hk:Lib.idxOfS zs s=k at hi hx;have q1:k>=0:=hi;have q2:k%256=k:=by omega
  go_enter func203,ntmps203
  go_wp2_with (first|(go_at_call 256;refine H.out.mono ?_;rintro e w1 ⟨rfl,hW,hg⟩;have hL:=HL.out _ hg;have HI:=Lib.hid (Tryz.slices_Index_string b 0 zs.length zs.length zs s w1 (Nat.le_refl _) (by omega) hL.2))|(go_at_call 258;refine HI.out.mono ?_;rintro e w2 ⟨rfl,rfl⟩;rw[List.take_length,hk])|(go_at_call 139;refine(ab5 _).mono ?_;rintro e w3 ⟨⟨v,rfl⟩,rfl⟩))
  go_ret
  exact⟨.inl ⟨hi,rfl,hW⟩,hg⟩
 ·generalize hk:Lib.idxOfS zs s=k at hi hx;have q1:¬ k>=0:=hi
  go_enter func203,ntmps203
  go_wp2_with (first|(go_at_call 256;refine H.out.mono ?_;rintro e w1 ⟨rfl,hW,hg⟩;have hL:=HL.out _ hg;have HI:=Lib.hid (Tryz.slices_Index_string b 0 zs.length zs.length zs s w1 (Nat.le_refl _) (by omega) hL.2))|(go_at_call 258;refine HI.out.mono ?_;rintro e w2 ⟨rfl,rfl⟩;rw[List.take_length,hk])|(go_at_call 139;refine(Qd _ _ (by simp;omega)).mono ?_;rintro e w3 ⟨rfl,rfl⟩))
  exact yf ⟨.inr ⟨by omega,rfl⟩,hg⟩
theorem awE {w:World} {B:Nat} (h:wh w B []) (v:Value):Calls prog 203 #[.pointer (some ⟨B,0,none⟩),v] w λe w'=>e=Ij/\w=w':=by
 have H:=Lib.hid (aji h)
 go_enter func203,ntmps203
 go_wp2_with (go_at_call 256;refine H.out.mono ?_;rintro e w1 ⟨rfl,rfl⟩)
 exact yf ⟨rfl,rfl⟩
def wo (zs:List ByteArray):List ByteArray->Option (Int×List ByteArray)
 | []=>none
 | s::ws=>if 0<=Lib.idxOfS zs s then some (Lib.idxOfS zs s,ws) else none
def FD {α:Type} (enc:α->Value) (w:World) (B:Nat) (r:Option (α×List ByteArray)) (e:Ending) (w':World):Prop :=
 (match r with
  | some (a,ws)=>e = .returned (enc a)/\wh w' B ws
  | none=>e=Ij)/\w.grownBy w' (some B)
theorem ab7 {w:World} {B:Nat} {ws:List ByteArray} (h:wh w B ws) (b:Nat) (zs:List ByteArray) (hz:zs.length<=5) (hl:Qe w b zs) (hb:B<b) :
  Calls prog 203 #[.pointer (some ⟨B,0,none⟩),.slice (some ⟨b,0,none⟩) zs.length zs.length] w (FD (λk=>.int .u8 k) w B (wo zs ws)):=by
 match ws,h with
 | [],h=>exact(awE h _).mono λe w' ⟨h1,h2⟩=>⟨h1,h2▸World.grownBy.refl w _⟩
 | s::ws,h =>
  refine(awD h b zs hz hl hb).mono λe w' ⟨h1,h2⟩=>⟨?_,h2⟩
  rcases h1 with⟨h3,h4,h5⟩|⟨h3,h4⟩
  ·rw[wo,if_pos h3];exact⟨h4,h5⟩
  ·rw[wo,if_neg (by omega)];exact h4
theorem wh.alloc {w:World} {B:Nat} {ws:List ByteArray} (h:wh w B ws) (o:Obj):wh (w.alloc o) B ws:=h.kept (World.grownBy_alloc w o none) (by simp)
theorem wh.lt {w:World} {B:Nat} {ws:List ByteArray} (h:wh w B ws):B<w.heap.size:=by obtain⟨_,_,_,h1,_⟩:=h;exact h1.lt
def yY:List ByteArray:=[⟨#[98,49,54]⟩,⟨#[98,51,50]⟩,⟨#[98,54,52]⟩,⟨#[98,49,50,56]⟩]
def Ez:List ByteArray:=[⟨#[105,51,50]⟩,⟨#[117,51,50]⟩,⟨#[105,54,52]⟩,⟨#[117,54,52]⟩]
theorem ab8 (w:World) (zs:List ByteArray) (t:TypeId):Qe (w.alloc (.cells (zs.map Value.string).toArray t)) w.heap.size zs:=by refine⟨by simp,λj hj=>?_⟩;have h:(w.alloc (.cells (zs.map Value.string).toArray t)).heap[w.heap.size]? = some (.cells (zs.map Value.string).toArray t):=World.alloc_heap_new _ _;simp only[World.cell?,Nat.zero_add,h];simp[hj]
theorem ab9 {α:Type} {enc:α->Value} {w w1 w':World} {B:Nat} {r:Option (α×List ByteArray)} {e:Ending} (h:FD enc w1 B r e w') (hg:w.grownBy w1 (some B)):FD enc w B r e w':=⟨h.1,grownBy_trans hg h.2⟩
theorem Bg {w:World} {B:Nat} {ws:List ByteArray} (h:wh w B ws):Calls prog 197 #[.pointer (some ⟨B,0,none⟩)] w (FD (λk=>.int .u8 k) w B (wo yY ws)):=by
 have H:=Lib.hid (ab7 (h.alloc (.cells (yY.map Value.string).toArray 9)) w.heap.size yY (by decide) (ab8 w yY _) h.lt);have hg0:w.grownBy (w.alloc (.cells (yY.map Value.string).toArray 9)) (some B):=World.grownBy_alloc _ _ _
 cases ho:wo yY ws with
 | none =>
  rw[ho] at H
  go_enter func197,ntmps197
  go_wp2_with (go_at_call 203;refine H.out.mono ?_;rintro e w1 ⟨rfl,hg⟩)
  exact yf ⟨rfl,grownBy_trans hg0 hg⟩
 | some r =>
  obtain⟨k,ws'⟩:=r;rw[ho] at H
  go_enter func197,ntmps197
  go_wp2_with (go_at_call 203;refine H.out.mono ?_;rintro e w1 ⟨⟨rfl,hW⟩,hg⟩)
  go_ret
  exact⟨⟨rfl,hW⟩,grownBy_trans hg0 hg⟩
theorem LK {w:World} {B:Nat} {ws:List ByteArray} (h:wh w B ws):Calls prog 200 #[.pointer (some ⟨B,0,none⟩)] w (FD (λk=>.int .u8 k) w B (wo Ez ws)):=by
 have H:=Lib.hid (ab7 (h.alloc (.cells (Ez.map Value.string).toArray 9)) w.heap.size Ez (by decide) (ab8 w Ez _) h.lt);have hg0:w.grownBy (w.alloc (.cells (Ez.map Value.string).toArray 9)) (some B):=World.grownBy_alloc _ _ _
 cases ho:wo Ez ws with
 | none =>
  rw[ho] at H
  go_enter func200,ntmps200
  go_wp2_with (go_at_call 203;refine H.out.mono ?_;rintro e w1 ⟨rfl,hg⟩)
  exact yf ⟨rfl,grownBy_trans hg0 hg⟩
 | some r =>
  obtain⟨k,ws'⟩:=r;rw[ho] at H
  go_enter func200,ntmps200
  go_wp2_with (go_at_call 203;refine H.out.mono ?_;rintro e w1 ⟨⟨rfl,hW⟩,hg⟩)
  go_ret
  exact⟨⟨rfl,hW⟩,grownBy_trans hg0 hg⟩
def LM:ByteArray:=⟨#[48,49,50,51,52,53,54,55,56,57,97,98,99,100,101,102]⟩
def Qf (c:UInt8):Int:=Lib.indexByte LM.data.toList c
theorem ajl (c:UInt8):(((c.toNat:Nat):Int).toNat).toUInt8=c:=by simp
def BF (b:Int×Int) (c:UInt8):Option (Int×Int):=if 0<=Qf c then some (bits .or .u64 (IntKind.u64.wrap (b.1*16)) (b.2/1152921504606846976),bits .or .u64 (IntKind.u64.wrap (b.2*16)) (IntKind.u64.wrap (Qf c))) else none
def ajm (ws:List ByteArray):Option (Int×Int)->Option ((Int×Int)×List ByteArray)
 | some b=>some (b,ws)
 | none=>none
def Aq:List ByteArray->Option ((Int×Int)×List ByteArray)
 | []=>none
 | s::ws=>if s.size<=32 then ajm ws (s.data.toList.foldlM BF (0,0)) else none
abbrev Wd (b:Int×Int):Value:=.agg #[.int .u64 b.1,.int .u64 b.2]
theorem awF (w:World) (e:TypeId) (s:ByteArray) (row:Option Nat):w.grownBy (Lib.bytesWorld w e s) row :=
 ⟨rfl,by simp[Lib.bytesWorld,World.freeze],rfl,by rw[Lib.bytesWorld_size];omega,λk hk _=>Lib.bytesWorld_at_old w e s k hk⟩
theorem set2 {w:World} {b:Nat} {a0 a1:Value} {t:TypeId} (h:w.heap[b]? = some (.cells #[a0,a1] t)) (v0 v1:Value):((w.setCell ⟨b,0,none⟩ v0).setCell ⟨b,1,none⟩ v1).heap[b]? = some (.cells #[v0,v1] t):=by
 have h1:(w.setCell ⟨b,0,none⟩ v0).heap[b]? = some (.cells #[v0,a1] t):=by show(w.heap.modify b _)[b]? = _;rw[Array.getElem?_modify,if_pos rfl,h];rfl
 show((w.setCell ⟨b,0,none⟩ v0).heap.modify b _)[b]? = _;rw[Array.getElem?_modify,if_pos rfl,h1];rfl
theorem wU (w:World) (b i:Nat) (v:Value):w.grownBy (w.setCell ⟨b,i,none⟩ v) (some b) :=
 ⟨rfl,rfl,rfl,by show _<=(w.heap.modify b _).size;simp,λk hk hne=>by
  show(w.heap.modify b _)[k]? = _
  rw[Array.getElem?_modify,if_neg (λe=>hne (by rw[e]))]⟩
theorem aca (w:World) (b:Nat) (v0 v1:Value):w.grownBy ((w.setCell ⟨b,0,none⟩ v0).setCell ⟨b,1,none⟩ v1) (some b) :=
 grownBy_trans (wU _ _ _ _) (wU _ _ _ _)
theorem LP {A X Y:World} {r:Option Nat} {n:Nat} (h1:A.grownBy X r) (h2:X.grownBy Y (some n)) (hn:A.heap.size<=n):A.grownBy Y r :=
 ⟨h2.os.trans h1.os,h2.tape.trans h1.tape,h2.output.trans h1.output,Nat.le_trans h1.size h2.size,λk hk hne=>(h2.block k (Nat.lt_of_lt_of_le hk h1.size) (by simp;omega)).trans (h1.block k hk hne)⟩
theorem awG (l:List UInt8) (k:Nat) (h:k<l.length) (b:Int×Int) (hb:(l.take k).foldlM BF (0,0)=some b):(l.take (k+1)).foldlM BF (0,0)=BF b (l.getD k 0):=by rw[List.take_succ_eq_append_getElem h,List.foldlM_append,hb];simp[h]
theorem awH (l:List UInt8) (k:Nat) (h:(l.take k).foldlM BF (0,0)=none):l.foldlM BF (0,0)=none:=by have:=List.take_append_drop k l;rw[<- this,List.foldlM_append,h];rfl
theorem awI {w:World} {B:Nat} {s:ByteArray} {ws:List ByteArray} (h:wh w B (s::ws)) (hs:s.size<=32) :
  Calls prog 198 #[.pointer (some ⟨B,0,none⟩)] w (FD Wd w B (ajm ws (s.data.toList.foldlM BF (0,0)))):=by
 have hB:=h.lt;have hlen:s.data.toList.length=s.size:=by show s.data.toList.length=s.data.size;exact Array.length_toList
 have H:=Lib.hid (ab6 (h.alloc (.cells #[.int .u64 0,.int .u64 0] 25)));have hcv:∀ (w:World) (s:ByteArray),(convert 9 105 (.string s)).run prog w = .ok (.slice (some ⟨w.heap.size,0,none⟩) s.size (grownCap w s.size 0 5)) (Lib.bytesWorld w 5 s):=λw s=>Lib.run_convert_string_bytes w _ _ _ s underlying9 underlying105 underlying5
 have hg00:w.grownBy (w.alloc (.cells #[.int .u64 0,.int .u64 0] 25)) (some B):=World.grownBy_alloc _ _ _;generalize hFo:s.data.toList.foldlM BF (0,0)=fo;have HFo:=Lib.hid hFo;clear hFo
 go_enter func198,ntmps198
 go_wp2_with (first|(go_at_call 256;refine H.out.mono ?_;rintro e w1 ⟨rfl,hW,hg⟩)|(go_at_call 139;refine(Su _ _ (by first|rfl|(simp;omega))).mono ?_;rintro e w3 ⟨⟨v,rfl⟩,rfl⟩))
 have hz:=hg.size;simp at hz;have hR:(w1.alloc (.cells #[.int .u64 0,.int .u64 0] 25)).heap[w1.heap.size]? = some (.cells #[.int .u64 0,.int .u64 0] 25):=World.alloc_heap_new _ _;have hgb:=awF (w1.alloc (.cells #[.int .u64 0,.int .u64 0] 25)) 5 s none;have hcb:=λj hj=>Lib.bytesWorld_cell (w1.alloc (.cells #[.int .u64 0,.int .u64 0] 25)) 5 s j hj
 have hw2:(w1.alloc (.cells #[.int .u64 0,.int .u64 0] 25)).heap.size=w1.heap.size+1:=by simp
 have hgc:w1.grownBy (w1.alloc (.cells #[.int .u64 0,.int .u64 0] 25)) none:=World.grownBy_alloc _ _ _;generalize w1.alloc (.cells #[.int .u64 0,.int .u64 0] 25)=w2 at *
 generalize Lib.bytesWorld w2 5 s=w3 at *
 have hzb:=hgb.size;have hG3:w.grownBy w3 (some B):=grownBy_trans hg00 (grownBy_trans hg (grownBy_trans ⟨hgc.os,hgc.tape,hgc.output,hgc.size,λk hk _=>hgc.block k hk (by simp)⟩ ⟨hgb.os,hgb.tape,hgb.output,hgb.size,λk hk _=>hgb.block k hk (by simp)⟩));have hW3:wh w3 B ws:=(hW.kept hgc (by simp)).kept hgb (by simp)
 go_loopw [17] (λi wr=>∃ k:Nat,k<=s.size/\i = .int .i64 (k:Int)/\∃ hi lo:Int,wr.heap[w1.heap.size]? = some (.cells #[.int .u64 hi,.int .u64 lo] 25)/\(s.data.toList.take k).foldlM BF (0,0)=some (hi,lo)/\w3.grownBy wr (some w1.heap.size)) (λi _=>s.size-(intOf i).toNat)
 case atStart=>exact⟨0,Nat.zero_le _,rfl,0,0,(hgb.block _ (by omega) (by simp)).trans hR,rfl,World.grownBy.refl _ _⟩
 case round =>
  obtain⟨k,hk,rfl,hi,lo,hR1,hfo,hgr⟩:=hrel;have c0:wr.cell? ⟨w1.heap.size,0,none⟩=some (.int .u64 hi):=by simp[World.cell?,hR1]
  have c1:wr.cell? ⟨w1.heap.size,1,none⟩=some (.int .u64 lo):=by simp[World.cell?,hR1]
  have HG:=Lib.hid (LP hG3 hgr (by omega));have HW:=Lib.hid (hW3.kept hgr (λk e=>by have:=Option.some.inj e;omega));have HF:=Lib.hid hfo;by_cases hlt:k<s.size
  ·have hcx:wr.cell? ⟨w1.heap.size+1,k,none⟩=some (.int .u8 ((s.data.toList.getD k 0).toNat:Int)):=by rw[<- hw2];exact hgr.cell (hcb k hlt) (by simp;omega)
   have HS:=Lib.hid (awG s.data.toList k (by omega) _ hfo);clear hfo;generalize s.data.toList.getD k 0=x at hcx HS;have q1:(k:Int)<(s.size:Int):=by omega
   have z0:wr.frozen? ⟨w1.heap.size,0,none⟩=false:=by simp[World.frozen?,hR1]
   have z1:wr.frozen? ⟨w1.heap.size,1,none⟩=false:=by simp[World.frozen?,hR1]
   have HIx:=Lib.hid (λW=>Tryz.strings_IndexByte LM (x.toNat:Int) W);by_cases hd:0<=Qf x
   ·go_wp2_with (first|(go_at_call 257;refine(HIx.out _).mono ?_;rintro e w5 ⟨rfl,rfl⟩;rw[ajl];have hdx:Lib.indexByte LM.data.toList x=Qf x:=rfl;rw[hdx])|(go_at_call 139;refine(Su _ _ (by first|rfl|(simp;omega))).mono ?_;rintro e w6 ⟨⟨v,rfl⟩,rfl⟩))
    refine⟨⟨k+1,by omega,by simp,_,_,set2 hR1 _ _,?_,grownBy_trans hgr (aca _ _ _ _)⟩,by simp[intOf];omega⟩;rw[HS.out,BF,if_pos hd]
   ·go_wp2_with (first|(go_at_call 257;refine(HIx.out _).mono ?_;rintro e w5 ⟨rfl,rfl⟩;rw[ajl];have hdx:Lib.indexByte LM.data.toList x=Qf x:=rfl;rw[hdx])|(go_at_call 139;refine(Qd _ _ (by first|rfl|(simp;omega))).mono ?_;rintro e w6 ⟨rfl,rfl⟩))
    refine yf ⟨?_,HG.out⟩
    have hn:fo=none:=by rw[<- HFo.out];refine awH _ (k+1) ?_;rw[HS.out,BF,if_neg (by omega)]
    rw[hn];exact rfl
  ·obtain rfl:k=s.size:=by omega
   have hRw:wr.heap[w.heap.size]? = some (.cells #[.int .u64 0,.int .u64 0] 25):=by rw[hgr.block _ (by omega) (by simp;omega),hgb.block _ (by omega) (by simp),hgc.block _ (by omega) (by simp),hg.block _ (by simp) (by simp;omega)];exact World.alloc_heap_new _ _
   have d0:wr.frozen? ⟨w.heap.size,0,none⟩=false:=by simp[World.frozen?,hRw]
   have d1:wr.frozen? ⟨w.heap.size,1,none⟩=false:=by simp[World.frozen?,hRw]
   have e0:wr.cell? ⟨w.heap.size,0,none⟩=some (.int .u64 0):=by simp[World.cell?,hRw]
   have e1:wr.cell? ⟨w.heap.size,1,none⟩=some (.int .u64 0):=by simp[World.cell?,hRw]
   have hfin:fo=some (hi,lo):=by rw[<- HFo.out,<- HF.out,<- hlen,List.take_length]
   have hset:=set2 hRw (.int .u64 hi) (.int .u64 lo);have hgs:=aca wr w.heap.size (.int .u64 hi) (.int .u64 lo)
   go_wp2
   generalize (wr.setCell ⟨w.heap.size,0,none⟩ (.int .u64 hi)).setCell ⟨w.heap.size,1,none⟩ (.int .u64 lo)=W6 at *
   have f0:W6.cell? ⟨w.heap.size,0,none⟩=some (.int .u64 hi):=by simp[World.cell?,hset]
   have f1:W6.cell? ⟨w.heap.size,1,none⟩=some (.int .u64 lo):=by simp[World.cell?,hset]
   refine bodyPost_ret (v:=Wd (hi,lo)) (by simp[results,results198,go_sem,f0,f1,Wd]) rfl ?_;rw[hfin];exact⟨⟨rfl,HW.out.kept hgs (λk e=>by have:=Option.some.inj e;omega)⟩,LP HG.out hgs (Nat.le_refl _)⟩
theorem EA {w:World} {B:Nat} {ws:List ByteArray} (h:wh w B ws) :
  Calls prog 198 #[.pointer (some ⟨B,0,none⟩)] w (FD Wd w B (Aq ws)):=by
 match ws,h with
 | [],h =>
  have H:=Lib.hid (aji (h.alloc (.cells #[.int .u64 0,.int .u64 0] 25)));have hg0:w.grownBy (w.alloc (.cells #[.int .u64 0,.int .u64 0] 25)) (some B):=World.grownBy_alloc _ _ _
  go_enter func198,ntmps198
  go_wp2_with (go_at_call 256;refine H.out.mono ?_;rintro e w1 ⟨rfl,rfl⟩)
  exact yf ⟨rfl,hg0⟩
 | s::ws,h =>
  by_cases hs:s.size<=32
  ·rw[Aq,if_pos hs];exact awI h hs
  ·rw[Aq,if_neg hs];have H:=Lib.hid (ab6 (h.alloc (.cells #[.int .u64 0,.int .u64 0] 25)));have hg0:w.grownBy (w.alloc (.cells #[.int .u64 0,.int .u64 0] 25)) (some B):=World.grownBy_alloc _ _ _
   go_enter func198,ntmps198
   go_wp2_with (first|(go_at_call 256;refine H.out.mono ?_;rintro e w1 ⟨rfl,hW,hg⟩)|(go_at_call 139;refine(Qd _ _ (by simp;omega)).mono ?_;rintro e w3 ⟨rfl,rfl⟩))
   exact yf ⟨rfl,grownBy_trans hg0 hg⟩
inductive vG where
 | op (o f t:Int) (a b c:Int×Int)
 | env (m t:Int)
 | clear
 | sticky
abbrev xM (o f t m i:Int) (a b c:Int×Int):Array Value:=#[.int .u8 o,.int .u8 f,.int .u8 t,.int .u8 m,.int .u8 i,.int .u64 a.1,.int .u64 a.2,.int .u64 b.1,.int .u64 b.2,.int .u64 c.1,.int .u64 c.2]
def CY (W:World) (a b:Nat) (v:Value):vG->Prop
 | .op o f t x y z=>∃ B,a<=B/\B<b/\v = .func (.func 254) #[] #[.pointer (some ⟨B,0,none⟩)]/\W.heap[B]? = some (.cells (xM o f t 0 0 x y z) 31)
 | .env m t=>∃ B1 B2 B3,a<=B1/\B1<b/\a<=B2/\B2<b/\a<=B3/\B3<b/\v = .func (.func 259) #[] #[.pointer (some ⟨B3,0,none⟩)]/\W.heap[B3]? = some (.cells #[.func (.func 205) #[] #[.pointer (some ⟨B1,0,none⟩),.pointer (some ⟨B2,0,none⟩)]] 283) /\
   W.heap[B1]? = some (.cells #[.int .u8 m] 5)/\W.heap[B2]? = some (.cells #[.int .u8 t] 5)
 | .clear=>∃ B,a<=B/\B<b/\v = .func (.func 259) #[] #[.pointer (some ⟨B,0,none⟩)]/\W.heap[B]? = some (.cells #[.func (.func 207) #[] #[]] 283)
 | .sticky=>v = .func (.func 210) #[] #[]
theorem CY.kept {W X:World} {a b:Nat} {v:Value} {c:vG} (h:CY W a b v c) (hX:∀ k,a<=k->k<b->X.heap[k]? = W.heap[k]?):CY X a b v c:=by
 cases c with
 | op o f t x y z=>obtain⟨B,h1,h2,h3,h4⟩:=h;exact⟨B,h1,h2,h3,(hX B h1 h2).trans h4⟩
 | env m t=>obtain⟨B1,B2,B3,h1,h2,h3,h4,h5,h6,h7,h8,h9,h10⟩:=h;exact⟨B1,B2,B3,h1,h2,h3,h4,h5,h6,h7,(hX B3 h5 h6).trans h8,(hX B1 h1 h2).trans h9,(hX B2 h3 h4).trans h10⟩
 | clear=>obtain⟨B,h1,h2,h3,h4⟩:=h;exact⟨B,h1,h2,h3,(hX B h1 h2).trans h4⟩
 | sticky=>exact h
theorem CY.wide {W:World} {a b a' b':Nat} {v:Value} {c:vG} (h:CY W a b v c) (ha:a'<=a) (hb:b<=b'):CY W a' b' v c:=by
 cases c with
 | op o f t x y z=>obtain⟨B,h1,h2,h3,h4⟩:=h;exact⟨B,by omega,by omega,h3,h4⟩
 | env m t=>obtain⟨B1,B2,B3,h1,h2,h3,h4,h5,h6,h7,h8,h9,h10⟩:=h;exact⟨B1,B2,B3,by omega,by omega,by omega,by omega,by omega,by omega,h7,h8,h9,h10⟩
 | clear=>obtain⟨B,h1,h2,h3,h4⟩:=h;exact⟨B,by omega,by omega,h3,h4⟩
 | sticky=>exact h
def Gv (w:World) (B:Nat) (r:Option (vG×List ByteArray)) (e:Ending) (w':World):Prop :=
 (match r with
  | some (c,ws)=>(∃ v,e = .returned v/\CY w' w.heap.size w'.heap.size v c)/\wh w' B ws
  | none=>e=Ij)/\w.grownBy w' (some B)
theorem We (w:World) (o f t:Int) (a b c:Int×Int):Calls prog 196 #[.agg (xM o f t 0 0 a b c)] w λe w'=>e = .returned (.func (.func 254) #[] #[.pointer (some ⟨w.heap.size,0,none⟩)])/\w'=w.alloc (.cells (xM o f t 0 0 a b c) 31):=by
 go_enter func196,ntmps196
 go_wp2
 go_ret
 exact⟨rfl,rfl⟩
theorem ajn (w:World) (f:Fn) (x y:Array Value):Calls prog 204 #[.func f x y] w λe w'=>e = .returned (.func (.func 259) #[] #[.pointer (some ⟨w.heap.size,0,none⟩)])/\w'=w.alloc (.cells #[.func f x y] 283):=by
 go_enter func204,ntmps204
 go_wp2
 go_ret
 exact⟨rfl,rfl⟩
theorem Wh {w w1:World} {B:Nat} {ws:List ByteArray} (hg:w.grownBy w1 (some B)) (hW:wh w1 B ws) (o f t:Int) (a b c:Int×Int) :
  Gv w B (some (.op o f t a b c,ws)) (.returned (.func (.func 254) #[] #[.pointer (some ⟨w1.heap.size,0,none⟩)])) (w1.alloc (.cells (xM o f t 0 0 a b c) 31)):=by
 have hs:=hg.size;exact⟨⟨⟨_,rfl,w1.heap.size,hs,by simp,rfl,World.alloc_heap_new _ _⟩,hW.alloc _⟩,grownBy_allocR hg _⟩
def CK (ws:List ByteArray):Option (vG×List ByteArray) :=
 match wo yY ws with
 | none=>none
 | some (f,ws1) =>
  match wo yY ws1 with
  | none=>none
  | some (t,ws2) =>
   match Aq ws2 with
   | none=>none
   | some (a,ws3) =>
    some (.op 10 f t a (0,0) (0,0),ws3)
theorem awJ {w:World} {B:Nat} {ws:List ByteArray} (h:wh w B ws):Calls prog 195 #[.pointer (some ⟨B,0,none⟩)] w (Gv w B (CK ws)):=by
 cases h1:wo yY ws with
 | none =>
  have H1:=Bg h;rw[h1] at H1;have H1:=Lib.hid H1;have hsp:CK ws=none:=by simp[CK,h1]
  go_enter func195,ntmps195
  go_wp2_with (first|(go_at_call 197;refine H1.out.mono ?_;rintro e w1 ⟨rfl,hg1⟩))
  refine yf ?_;try rw[hsp]
  exact⟨rfl,hg1⟩
 | some r1 =>
  obtain⟨f,ws1⟩:=r1
  cases h2:wo yY ws1 with
  | none =>
   have H1:=Bg h;rw[h1] at H1;have H1:=Lib.hid H1;have hsp:CK ws=none:=by simp[CK,h1,h2]
   go_enter func195,ntmps195
   go_wp2_with (first|(go_at_call 197;refine H1.out.mono ?_;rintro e w1 ⟨⟨rfl,hW1⟩,hg1⟩;have H2:=Bg hW1;rw[h2] at H2;have H2:=Lib.hid H2)|(go_at_call 197;refine H2.out.mono ?_;rintro e w2 ⟨rfl,hg2⟩))
   refine yf ?_;try rw[hsp]
   exact⟨rfl,grownBy_trans (hg1) hg2⟩
  | some r2 =>
   obtain⟨t,ws2⟩:=r2
   cases h3:Aq ws2 with
   | none =>
    have H1:=Bg h;rw[h1] at H1;have H1:=Lib.hid H1;have hsp:CK ws=none:=by simp[CK,h1,h2,h3]
    go_enter func195,ntmps195
    go_wp2_with (first|(go_at_call 197;refine H1.out.mono ?_;rintro e w1 ⟨⟨rfl,hW1⟩,hg1⟩;have H2:=Bg hW1;rw[h2] at H2;have H2:=Lib.hid H2)|(go_at_call 197;refine H2.out.mono ?_;rintro e w2 ⟨⟨rfl,hW2⟩,hg2⟩;have H3:=EA hW2;rw[h3] at H3;have H3:=Lib.hid H3)|(go_at_call 198;refine H3.out.mono ?_;rintro e w3 ⟨rfl,hg3⟩))
    refine yf ?_;try rw[hsp]
    exact⟨rfl,grownBy_trans (grownBy_trans (hg1) hg2) hg3⟩
   | some r3 =>
    obtain⟨a,ws3⟩:=r3;have H1:=Bg h;rw[h1] at H1;have H1:=Lib.hid H1;have hsp:CK ws=some (.op 10 f t a (0,0) (0,0),ws3):=by simp[CK,h1,h2,h3]
    go_enter func195,ntmps195
    go_wp2_with (first|(go_at_call 197;refine H1.out.mono ?_;rintro e w1 ⟨⟨rfl,hW1⟩,hg1⟩;have H2:=Bg hW1;rw[h2] at H2;have H2:=Lib.hid H2)|(go_at_call 197;refine H2.out.mono ?_;rintro e w2 ⟨⟨rfl,hW2⟩,hg2⟩;have H3:=EA hW2;rw[h3] at H3;have H3:=Lib.hid H3)|(go_at_call 198;refine H3.out.mono ?_;rintro e w3 ⟨⟨rfl,hW3⟩,hg3⟩)|(go_at_call 196;refine(We _ 10 f t a (0,0) (0,0)).mono ?_;rintro e w9 ⟨rfl,rfl⟩))
    go_ret
    try rw[hsp]
    exact Wh (grownBy_trans (grownBy_trans (hg1) hg2) hg3) hW3 10 f t a (0,0) (0,0)
def DI (ws:List ByteArray):Option (vG×List ByteArray) :=
 match wo yY ws with
 | none=>none
 | some (f,ws1) =>
  match wo Ez ws1 with
  | none=>none
  | some (t,ws2) =>
   match Aq ws2 with
   | none=>none
   | some (a,ws3) =>
    some (.op 11 f t a (0,0) (0,0),ws3)
theorem awK {w:World} {B:Nat} {ws:List ByteArray} (h:wh w B ws):Calls prog 199 #[.pointer (some ⟨B,0,none⟩)] w (Gv w B (DI ws)):=by
 cases h1:wo yY ws with
 | none =>
  have H1:=Bg h;rw[h1] at H1;have H1:=Lib.hid H1;have hsp:DI ws=none:=by simp[DI,h1]
  go_enter func199,ntmps199
  go_wp2_with (first|(go_at_call 197;refine H1.out.mono ?_;rintro e w1 ⟨rfl,hg1⟩))
  refine yf ?_;try rw[hsp]
  exact⟨rfl,hg1⟩
 | some r1 =>
  obtain⟨f,ws1⟩:=r1
  cases h2:wo Ez ws1 with
  | none =>
   have H1:=Bg h;rw[h1] at H1;have H1:=Lib.hid H1;have hsp:DI ws=none:=by simp[DI,h1,h2]
   go_enter func199,ntmps199
   go_wp2_with (first|(go_at_call 197;refine H1.out.mono ?_;rintro e w1 ⟨⟨rfl,hW1⟩,hg1⟩;have H2:=LK hW1;rw[h2] at H2;have H2:=Lib.hid H2)|(go_at_call 200;refine H2.out.mono ?_;rintro e w2 ⟨rfl,hg2⟩))
   refine yf ?_;try rw[hsp]
   exact⟨rfl,grownBy_trans (hg1) hg2⟩
  | some r2 =>
   obtain⟨t,ws2⟩:=r2
   cases h3:Aq ws2 with
   | none =>
    have H1:=Bg h;rw[h1] at H1;have H1:=Lib.hid H1;have hsp:DI ws=none:=by simp[DI,h1,h2,h3]
    go_enter func199,ntmps199
    go_wp2_with (first|(go_at_call 197;refine H1.out.mono ?_;rintro e w1 ⟨⟨rfl,hW1⟩,hg1⟩;have H2:=LK hW1;rw[h2] at H2;have H2:=Lib.hid H2)|(go_at_call 200;refine H2.out.mono ?_;rintro e w2 ⟨⟨rfl,hW2⟩,hg2⟩;have H3:=EA hW2;rw[h3] at H3;have H3:=Lib.hid H3)|(go_at_call 198;refine H3.out.mono ?_;rintro e w3 ⟨rfl,hg3⟩))
    refine yf ?_;try rw[hsp]
    exact⟨rfl,grownBy_trans (grownBy_trans (hg1) hg2) hg3⟩
   | some r3 =>
    obtain⟨a,ws3⟩:=r3;have H1:=Bg h;rw[h1] at H1;have H1:=Lib.hid H1;have hsp:DI ws=some (.op 11 f t a (0,0) (0,0),ws3):=by simp[DI,h1,h2,h3]
    go_enter func199,ntmps199
    go_wp2_with (first|(go_at_call 197;refine H1.out.mono ?_;rintro e w1 ⟨⟨rfl,hW1⟩,hg1⟩;have H2:=LK hW1;rw[h2] at H2;have H2:=Lib.hid H2)|(go_at_call 200;refine H2.out.mono ?_;rintro e w2 ⟨⟨rfl,hW2⟩,hg2⟩;have H3:=EA hW2;rw[h3] at H3;have H3:=Lib.hid H3)|(go_at_call 198;refine H3.out.mono ?_;rintro e w3 ⟨⟨rfl,hW3⟩,hg3⟩)|(go_at_call 196;refine(We _ 11 f t a (0,0) (0,0)).mono ?_;rintro e w9 ⟨rfl,rfl⟩))
    go_ret
    try rw[hsp]
    exact Wh (grownBy_trans (grownBy_trans (hg1) hg2) hg3) hW3 11 f t a (0,0) (0,0)
def DJ (ws:List ByteArray):Option (vG×List ByteArray) :=
 match wo Ez ws with
 | none=>none
 | some (t,ws1) =>
  match wo yY ws1 with
  | none=>none
  | some (f,ws2) =>
   match Aq ws2 with
   | none=>none
   | some (a,ws3) =>
    some (.op 12 f t a (0,0) (0,0),ws3)
theorem awL {w:World} {B:Nat} {ws:List ByteArray} (h:wh w B ws):Calls prog 201 #[.pointer (some ⟨B,0,none⟩)] w (Gv w B (DJ ws)):=by
 cases h1:wo Ez ws with
 | none =>
  have H1:=LK h;rw[h1] at H1;have H1:=Lib.hid H1;have hsp:DJ ws=none:=by simp[DJ,h1]
  go_enter func201,ntmps201
  go_wp2_with (first|(go_at_call 200;refine H1.out.mono ?_;rintro e w1 ⟨rfl,hg1⟩))
  refine yf ?_;try rw[hsp]
  exact⟨rfl,hg1⟩
 | some r1 =>
  obtain⟨t,ws1⟩:=r1
  cases h2:wo yY ws1 with
  | none =>
   have H1:=LK h;rw[h1] at H1;have H1:=Lib.hid H1;have hsp:DJ ws=none:=by simp[DJ,h1,h2]
   go_enter func201,ntmps201
   go_wp2_with (first|(go_at_call 200;refine H1.out.mono ?_;rintro e w1 ⟨⟨rfl,hW1⟩,hg1⟩;have H2:=Bg hW1;rw[h2] at H2;have H2:=Lib.hid H2)|(go_at_call 197;refine H2.out.mono ?_;rintro e w2 ⟨rfl,hg2⟩))
   refine yf ?_;try rw[hsp]
   exact⟨rfl,grownBy_trans (hg1) hg2⟩
  | some r2 =>
   obtain⟨f,ws2⟩:=r2
   cases h3:Aq ws2 with
   | none =>
    have H1:=LK h;rw[h1] at H1;have H1:=Lib.hid H1;have hsp:DJ ws=none:=by simp[DJ,h1,h2,h3]
    go_enter func201,ntmps201
    go_wp2_with (first|(go_at_call 200;refine H1.out.mono ?_;rintro e w1 ⟨⟨rfl,hW1⟩,hg1⟩;have H2:=Bg hW1;rw[h2] at H2;have H2:=Lib.hid H2)|(go_at_call 197;refine H2.out.mono ?_;rintro e w2 ⟨⟨rfl,hW2⟩,hg2⟩;have H3:=EA hW2;rw[h3] at H3;have H3:=Lib.hid H3)|(go_at_call 198;refine H3.out.mono ?_;rintro e w3 ⟨rfl,hg3⟩))
    refine yf ?_;try rw[hsp]
    exact⟨rfl,grownBy_trans (grownBy_trans (hg1) hg2) hg3⟩
   | some r3 =>
    obtain⟨a,ws3⟩:=r3;have H1:=LK h;rw[h1] at H1;have H1:=Lib.hid H1;have hsp:DJ ws=some (.op 12 f t a (0,0) (0,0),ws3):=by simp[DJ,h1,h2,h3]
    go_enter func201,ntmps201
    go_wp2_with (first|(go_at_call 200;refine H1.out.mono ?_;rintro e w1 ⟨⟨rfl,hW1⟩,hg1⟩;have H2:=Bg hW1;rw[h2] at H2;have H2:=Lib.hid H2)|(go_at_call 197;refine H2.out.mono ?_;rintro e w2 ⟨⟨rfl,hW2⟩,hg2⟩;have H3:=EA hW2;rw[h3] at H3;have H3:=Lib.hid H3)|(go_at_call 198;refine H3.out.mono ?_;rintro e w3 ⟨⟨rfl,hW3⟩,hg3⟩)|(go_at_call 196;refine(We _ 12 f t a (0,0) (0,0)).mono ?_;rintro e w9 ⟨rfl,rfl⟩))
    go_ret
    try rw[hsp]
    exact Wh (grownBy_trans (grownBy_trans (hg1) hg2) hg3) hW3 12 f t a (0,0) (0,0)
theorem awM {w:World} {B:Nat} {ws:List ByteArray} (h:wh w B ws):Calls prog 206 #[.pointer (some ⟨B,0,none⟩)] w (Gv w B (some (.clear,ws))):=by
 go_enter func206,ntmps206
 go_wp2_with (go_at_call 204;refine(ajn _ _ _ _).mono ?_;rintro e w9 ⟨rfl,rfl⟩)
 go_ret
 exact⟨⟨⟨_,rfl,w.heap.size,Nat.le_refl _,by simp,rfl,World.alloc_heap_new _ _⟩,h.alloc _⟩,World.grownBy_alloc _ _ _⟩
theorem awN {w:World} {B:Nat} {ws:List ByteArray} (h:wh w B ws):Calls prog 209 #[.pointer (some ⟨B,0,none⟩)] w (Gv w B (some (.sticky,ws))):=by
 go_enter func209,ntmps209
 go_wp2
 go_ret
 exact⟨⟨⟨_,rfl,rfl⟩,h⟩,World.grownBy.refl _ _⟩
def FE:List ByteArray:=[⟨#[110,101,97,114]⟩,⟨#[97,119,97,121]⟩,⟨#[117,112]⟩,⟨#[100,111,119,110]⟩,⟨#[122,101,114,111]⟩]
def Gx:List ByteArray:=[⟨#[98,101,102,111,114,101]⟩,⟨#[97,102,116,101,114]⟩]
def yQ (ws:List ByteArray):Option (vG×List ByteArray) :=
 match wo FE ws with
 | none=>none
 | some (m,ws1) =>
  match wo Gx ws1 with
  | none=>none
  | some (t,ws2)=>some (.env m t,ws2)
theorem Qg (w:World) (A O:Obj):((w.alloc A).alloc O).heap[w.heap.size+1]? = some O:=by
 have:=World.alloc_heap_new (w.alloc A) O
 rwa [show(w.alloc A).heap.size=w.heap.size+1 by simp] at this
theorem alloc_at {w:World} {b:Nat} {o:Obj} (h:w.heap[b]? = some o) (A:Obj):(w.alloc A).heap[b]? = some o:=(Below.heap_alloc w A b (Array.getElem?_eq_some_iff.1 h).1).trans h
theorem Sv {w:World} {B:Nat} {ws:List ByteArray} (h:wh w B ws) (zs:List ByteArray) (hz:zs.length<=5) :
  Calls prog 203 #[.pointer (some ⟨B,0,none⟩),.slice (some ⟨w.heap.size,0,none⟩) zs.length zs.length] (w.alloc (.cells (zs.map Value.string).toArray 9)) (FD (λk=>.int .u8 k) w B (wo zs ws)) :=
 (ab7 (h.alloc (.cells (zs.map Value.string).toArray 9)) w.heap.size zs hz (ab8 w zs _) h.lt).mono λe w' h'=>ab9 h' (World.grownBy_alloc _ _ _)
theorem awO {w:World} {B:Nat} {ws:List ByteArray} (h:wh w B ws):Calls prog 202 #[.pointer (some ⟨B,0,none⟩)] w (Gv w B (yQ ws)):=by
 cases h1:wo FE ws with
 | none =>
  have H1:=Sv h FE (by decide);rw[h1] at H1;simp only[FE,Gx,List.map_cons,List.map_nil,List.length_cons,List.length_nil,Nat.reduceAdd] at H1;have H1:=Lib.hid H1;have hsp:yQ ws=none:=by simp[yQ,h1]
  go_enter func202,ntmps202
  go_wp2_with (go_at_call 203;refine H1.out.mono ?_;rintro e w1 ⟨rfl,hg1⟩)
  refine yf ?_;try rw[hsp]
  exact⟨rfl,hg1⟩
 | some r1 =>
  obtain⟨m,ws1⟩:=r1
  cases h2:wo Gx ws1 with
  | none =>
   have H1:=Sv h FE (by decide);rw[h1] at H1;simp only[FE,Gx,List.map_cons,List.map_nil,List.length_cons,List.length_nil,Nat.reduceAdd] at H1;have H1:=Lib.hid H1;have hsp:yQ ws=none:=by simp[yQ,h1,h2]
   go_enter func202,ntmps202
   go_wp2_with (first|(go_at_call 203;refine H1.out.mono ?_;rintro e w1 ⟨⟨rfl,hW1⟩,hg1⟩;have H2:=Sv hW1 Gx (by decide);rw[h2] at H2;simp only[FE,Gx,List.map_cons,List.map_nil,List.length_cons,List.length_nil,Nat.reduceAdd] at H2;have H2:=Lib.hid H2;clear H1)|(go_at_call 203;refine H2.out.mono ?_;rintro e w2 ⟨rfl,hg2⟩))
   refine yf ?_;try rw[hsp]
   exact⟨rfl,grownBy_trans hg1 hg2⟩
  | some r2 =>
   obtain⟨t,ws2⟩:=r2;have H1:=Sv h FE (by decide);rw[h1] at H1;simp only[FE,Gx,List.map_cons,List.map_nil,List.length_cons,List.length_nil,Nat.reduceAdd] at H1;have H1:=Lib.hid H1;have hsp:yQ ws=some (.env m t,ws2):=by simp[yQ,h1,h2]
   go_enter func202,ntmps202
   go_wp2_with (first|(go_at_call 203;refine H1.out.mono ?_;rintro e w1 ⟨⟨rfl,hW1⟩,hg1⟩;have H2:=Sv hW1 Gx (by decide);rw[h2] at H2;simp only[FE,Gx,List.map_cons,List.map_nil,List.length_cons,List.length_nil,Nat.reduceAdd] at H2;have H2:=Lib.hid H2;clear H1)|(go_at_call 203;refine H2.out.mono ?_;rintro e w2 ⟨⟨rfl,hW2⟩,hg2⟩)|(go_at_call 204;refine(ajn _ _ _ _).mono ?_;rintro e w9 ⟨rfl,rfl⟩))
   go_ret
   try rw[hsp]
   have hz:=(grownBy_trans hg1 hg2).size;have k1:=World.alloc_heap_new w2 (.cells #[.int .u8 m] 5);have k2:=Qg w2 (.cells #[.int .u8 m] 5) (.cells #[.int .u8 t] 5);refine⟨⟨⟨_,rfl,w2.heap.size,w2.heap.size+1,w2.heap.size+1+1,hz,by simp;omega,by omega,by simp,by omega,by simp,rfl,?_,?_,?_⟩,((hW2.alloc _).alloc _).alloc _⟩,grownBy_allocR (grownBy_allocR (grownBy_allocR (grownBy_trans hg1 hg2) _) _) _⟩
   ·have:=World.alloc_heap_new ((w2.alloc (.cells #[.int .u8 m] 5)).alloc (.cells #[.int .u8 t] 5)) (.cells #[.func (.func 205) #[] #[.pointer (some ⟨w2.heap.size,0,none⟩),.pointer (some ⟨w2.heap.size+1,0,none⟩)]] 283)
    rwa [show((w2.alloc (.cells #[.int .u8 m] 5)).alloc (.cells #[.int .u8 t] 5)).heap.size=w2.heap.size+1+1 by simp] at this
   ·exact alloc_at (alloc_at k1 _) _
   ·exact alloc_at k2 _
def Ck:Nat->List ByteArray->Option (List (Int×Int)×List ByteArray)
 | 0,ws=>some ([],ws)
 | n+1,ws=>match Ck n ws with
  | none=>none
  | some (l,ws1)=>match Aq ws1 with
   | none=>none
   | some (a,ws2)=>some (l ++ [a],ws2)
def yg (o:Int) (n:Nat) (ws:List ByteArray):Option (vG×List ByteArray) :=
 match wo yY ws with
 | none=>none
 | some (f,ws1)=>match Ck n ws1 with
  | none=>none
  | some (l,ws2)=>some (.op o f 0 (l[0]?.getD (0,0)) (l[1]?.getD (0,0)) (l[2]?.getD (0,0)),ws2)
theorem Gy (w:World) (row:Option Nat):w.grownBy w.drew row:=⟨rfl,rfl,rfl,Nat.le_refl _,λ_ _ _=>rfl⟩
theorem wh.drew {w:World} {B:Nat} {ws:List ByteArray} (h:wh w B ws):wh w.drew B ws:=h.kept (Gy w none) (by simp)
theorem ajo {α:Type} {enc:α->Value} {w w':World} {B:Nat} {r:Option (α×List ByteArray)} {e:Ending} (h:FD enc w.drew B r e w'):FD enc w B r e w':=ab9 h (Gy w _)
theorem xA {w:World} {b i:Nat} {c:Array Value} {t:TypeId} (h:w.heap[b]? = some (.cells c t)) (v:Value):(w.setCell ⟨b,i,none⟩ v).heap[b]? = some (.cells (c.setIfInBounds i v) t):=by show(w.heap.modify b _)[b]? = _;rw[Array.getElem?_modify,if_pos rfl,h];rfl
theorem awP {w:World} {b:Nat} {a0 a1 a2 a3 a4 a5 a6 a7 a8 a9 a10:Value} {t:TypeId} (h:w.heap[b]? = some (.cells #[a0,a1,a2,a3,a4,a5,a6,a7,a8,a9,a10] t)) (v0 v1 v2 v3 v4 v5 v6 v7 v8 v9 v10:Value):(((((((((((w.setCell ⟨b,0,none⟩ v0).setCell ⟨b,1,none⟩ v1).setCell ⟨b,2,none⟩ v2).setCell ⟨b,3,none⟩ v3).setCell ⟨b,4,none⟩ v4).setCell ⟨b,5,none⟩ v5).setCell ⟨b,6,none⟩ v6).setCell ⟨b,7,none⟩ v7).setCell ⟨b,8,none⟩ v8).setCell ⟨b,9,none⟩ v9).setCell ⟨b,10,none⟩ v10).heap[b]? = some (.cells #[v0,v1,v2,v3,v4,v5,v6,v7,v8,v9,v10] t):=by have h0:=xA (i:=0) h v0;simp only[List.setIfInBounds_toArray,List.set_cons_zero,List.set_cons_succ] at h0;have h1:=xA (i:=1) h0 v1;simp only[List.setIfInBounds_toArray,List.set_cons_zero,List.set_cons_succ] at h1;have h2:=xA (i:=2) h1 v2;simp only[List.setIfInBounds_toArray,List.set_cons_zero,List.set_cons_succ] at h2;have h3:=xA (i:=3) h2 v3;simp only[List.setIfInBounds_toArray,List.set_cons_zero,List.set_cons_succ] at h3;have h4:=xA (i:=4) h3 v4;simp only[List.setIfInBounds_toArray,List.set_cons_zero,List.set_cons_succ] at h4;have h5:=xA (i:=5) h4 v5;simp only[List.setIfInBounds_toArray,List.set_cons_zero,List.set_cons_succ] at h5;have h6:=xA (i:=6) h5 v6;simp only[List.setIfInBounds_toArray,List.set_cons_zero,List.set_cons_succ] at h6;have h7:=xA (i:=7) h6 v7;simp only[List.setIfInBounds_toArray,List.set_cons_zero,List.set_cons_succ] at h7;have h8:=xA (i:=8) h7 v8;simp only[List.setIfInBounds_toArray,List.set_cons_zero,List.set_cons_succ] at h8;have h9:=xA (i:=9) h8 v9;simp only[List.setIfInBounds_toArray,List.set_cons_zero,List.set_cons_succ] at h9;have h10:=xA (i:=10) h9 v10;simp only[List.setIfInBounds_toArray,List.set_cons_zero,List.set_cons_succ] at h10;exact h10
theorem acb (w:World) (b:Nat) (v0 v1 v2 v3 v4 v5 v6 v7 v8 v9 v10:Value):w.grownBy (((((((((((w.setCell ⟨b,0,none⟩ v0).setCell ⟨b,1,none⟩ v1).setCell ⟨b,2,none⟩ v2).setCell ⟨b,3,none⟩ v3).setCell ⟨b,4,none⟩ v4).setCell ⟨b,5,none⟩ v5).setCell ⟨b,6,none⟩ v6).setCell ⟨b,7,none⟩ v7).setCell ⟨b,8,none⟩ v8).setCell ⟨b,9,none⟩ v9).setCell ⟨b,10,none⟩ v10) (some b):=by have g0:=wU w b 0 v0;have g1:=grownBy_trans g0 (wU _ b 1 v1);have g2:=grownBy_trans g1 (wU _ b 2 v2);have g3:=grownBy_trans g2 (wU _ b 3 v3);have g4:=grownBy_trans g3 (wU _ b 4 v4);have g5:=grownBy_trans g4 (wU _ b 5 v5);have g6:=grownBy_trans g5 (wU _ b 6 v6);have g7:=grownBy_trans g6 (wU _ b 7 v7);have g8:=grownBy_trans g7 (wU _ b 8 v8);have g9:=grownBy_trans g8 (wU _ b 9 v9);have g10:=grownBy_trans g9 (wU _ b 10 v10);exact g10
def Made (w W:World) (B be bn:Nat) (o f:Int) (n:Nat) (ws:List ByteArray):Prop :=
 W.heap[be]? = some (.cells (xM o f 0 0 0 (0,0) (0,0) (0,0)) 31)/\wh W B ws/\w.grownBy W (some B)/\w.heap.size<=be/\W.heap[bn]? = some (.cells #[.int .i64 n] 3)
theorem awQ {w:World} {B:Nat} {ws:List ByteArray} (h:wh w B ws) (bo bn:Nat) (o:Int) (n:Nat) (hboB:bo≠B) (ho:w.heap[bo]? = some (.cells #[.int .u8 o] 5)) (hn:w.heap[bn]? = some (.cells #[.int .i64 n] 3)) (h1:wo yY ws=none) :
  Calls prog 253 #[.pointer (some ⟨B,0,none⟩),.pointer (some ⟨bo,0,none⟩),.pointer (some ⟨bn,0,none⟩)] w λe w'=>e=Ij/\w.grownBy w' (some B):=by
 have H1:=(Bg h.drew).mono λe w' h'=>ajo h'
 have H2:=(Bg (h.alloc (.cells #[.int .u8 0,.int .u8 0,.int .u8 0,.int .u8 0,.int .u8 0,.int .u64 0,.int .u64 0,.int .u64 0,.int .u64 0,.int .u64 0,.int .u64 0] 31)).drew).mono λe w' h'=>ab9 (ajo h') (World.grownBy_alloc w _ _)
 rw[h1] at H1 H2;have H1:=Lib.hid H1;have H2:=Lib.hid H2;have c0:w.cell? ⟨bo,0,none⟩=some (.int .u8 o):=by simp[World.cell?,ho]
 have hS0:w.cell? ⟨bo,0,none⟩=some (.int .u8 o):=c0;have hbo:bo<w.heap.size:=(Array.getElem?_eq_some_iff.1 ho).1;have hg0:w.grownBy (w.alloc (.cells #[.int .u8 0,.int .u8 0,.int .u8 0,.int .u8 0,.int .u8 0,.int .u64 0,.int .u64 0,.int .u64 0,.int .u64 0,.int .u64 0,.int .u64 0] 31)) (some B):=World.grownBy_alloc _ _ _
 go_enter func253,ntmps253
 go_wp2_with fail
 refine wp_region_any (by kernel_rfl) ?_;change wpAny _ _ _ _ _ _ _ (World.drew _);refine wpAny_take (i:=1) (v:=.pointer (some ⟨B,0,none⟩)) rfl (by kernel_rfl) (by kernel_rfl) (by kernel_rfl) (λ_ _ _ h=>h) (Or.inl ⟨by rfl,?_⟩) ?_
 ·intro w;go_simp;try with_reducible rfl
 refine wpAny_ready (rs:=[0,2,4]) (by kernel_rfl) (by simp) ?_;have c1:(w.alloc (.cells #[.int .u8 0,.int .u8 0,.int .u8 0,.int .u8 0,.int .u8 0,.int .u64 0,.int .u64 0,.int .u64 0,.int .u64 0,.int .u64 0,.int .u64 0] 31)).cell? ⟨bo,0,none⟩=some (.int .u8 o):=hg0.cell c0 (λe=>hboB (Option.some.inj e));refine AllReady.cons rfl (λK hK=>?_) (AllReady.cons rfl (λK hK=>?_) (AllReady.cons rfl (λK hK=>?_) AllReady.nil))
 ·go_simp
  refine hK _ _ ?_;clear hK K;refine wpAny_ready (rs:=[2,4]) (by kernel_rfl) (by simp) ?_;refine AllReady.cons rfl (λK hK=>?_) (AllReady.cons rfl (λK hK=>?_) AllReady.nil)
  ·go_simp
   refine H1.out.mono ?_;rintro e w1 ⟨rfl,hg1⟩;exact yf ⟨rfl,hg1⟩
  ·go_simp
   refine hK _ _ ?_;clear hK K;refine wpAny_ready (rs:=[2]) (by kernel_rfl) (by simp) ?_;refine AllReady.cons rfl (λK hK=>?_) AllReady.nil
   go_simp
   refine H2.out.mono ?_;rintro e w1 ⟨rfl,hg1⟩;exact yf ⟨rfl,hg1⟩
 ·go_simp
  refine H1.out.mono ?_;rintro e w1 ⟨rfl,hg1⟩;exact yf ⟨rfl,hg1⟩
 ·go_simp
  refine hK _ _ ?_;clear hK K;refine wpAny_ready (rs:=[0,2]) (by kernel_rfl) (by simp) ?_;refine AllReady.cons rfl (λK hK=>?_) (AllReady.cons rfl (λK hK=>?_) AllReady.nil)
  ·go_simp
   refine hK _ _ ?_;clear hK K;refine wpAny_ready (rs:=[2]) (by kernel_rfl) (by simp) ?_;refine AllReady.cons rfl (λK hK=>?_) AllReady.nil
   go_simp
   refine H2.out.mono ?_;rintro e w1 ⟨rfl,hg1⟩;exact yf ⟨rfl,hg1⟩
  ·go_simp
   refine H2.out.mono ?_;rintro e w1 ⟨rfl,hg1⟩;exact yf ⟨rfl,hg1⟩
theorem ajp {ws1:List ByteArray} {k:Nat} (h:Ck k ws1=none):∀ j,Ck (k+j) ws1=none
 | 0=>h
 | j+1=>by rw[show k+(j+1)=(k+j)+1 by omega,Ck,ajp h j]
theorem acd {ws1 ws2:List ByteArray} {k n:Nat} {l:List (Int×Int)} (h:Ck k ws1=some (l,ws2)) (hb:Aq ws2=none) (hk:k<n):Ck n ws1=none:=by
 have:=ajp (k:=k+1) (ws1:=ws1) (by rw[Ck,h];simp[hb]) (n-(k+1))
 rwa [show k+1+(n-(k+1))=n by omega] at this
abbrev gB (l:List (Int×Int)) (i:Nat):Int×Int:=l[i]?.getD (0,0)
theorem awR {w : World} {B : Nat} {ws : List ByteArray} (h : wh w B ws) (bo bn : Nat) (o f : Int) (n : Nat) (ws1 : List ByteArray) (hn3 : n <= 3) (hboB : bo ≠ B) (hbnB : bn ≠ B) (ho : w.heap[bo]? = some (.cells #[.int .u8 o] 5)) (hn : w.heap[bn]? = some (.cells #[.int .i64 n] 3)) (h1 : wo yY ws = some (f, ws1)) :
    Calls prog 253 #[.pointer (some ⟨B, 0, none⟩), .pointer (some ⟨bo, 0, none⟩), .pointer (some ⟨bn, 0, none⟩)] w (Gv w B (yg o n ws)) := by
  have HF : ∀ W, w.grownBy W none -> Calls prog 197 #[.pointer (some ⟨B, 0, none⟩)] W (FD (λk => .int .u8 k) W B (some (f, ws1))) := λW hW => by
    have := Bg (h.kept hW (by simp))
    rwa [h1] at this
  have HF := Lib.hid HF;have c0 : w.cell? ⟨bo, 0, none⟩ = some (.int .u8 o) := by simp [World.cell?, ho]
  have hbnL : bn < w.heap.size := (Array.getElem?_eq_some_iff.1 hn).1;have hbo : bo < w.heap.size := (Array.getElem?_eq_some_iff.1 ho).1;have hBw : B < w.heap.size := h.lt;have hg0 : w.grownBy (w.alloc (.cells #[.int .u8 0, .int .u8 0, .int .u8 0, .int .u8 0, .int .u8 0, .int .u64 0, .int .u64 0, .int .u64 0, .int .u64 0, .int .u64 0, .int .u64 0] 31)) (some B) := World.grownBy_alloc _ _ _;have c1 : (w.alloc (.cells #[.int .u8 0, .int .u8 0, .int .u8 0, .int .u8 0, .int .u8 0, .int .u64 0, .int .u64 0, .int .u64 0, .int .u64 0, .int .u64 0, .int .u64 0] 31)).cell? ⟨bo, 0, none⟩ = some (.int .u8 o) := hg0.cell c0 (λe => hboB (Option.some.inj e))
  go_enter func253, ntmps253
  go_wp2_with fail
  refine Code.wp_mono (Q := λe a W => match e with
    | .normal => ∃ be, Made w W B be bn o f n ws1 /\ a = { tmps := #[.pointer (some ⟨B, 0, none⟩), .pointer (some ⟨bo, 0, none⟩), .pointer (some ⟨bn, 0, none⟩), undef, .nilFunc, .pointer (some ⟨be, 0, none⟩), undef, undef, .int .u8 o, .pointer (some ⟨B, 0, none⟩), .int .u8 f, .agg (xM o f 0 0 0 (0, 0) (0, 0) (0, 0)), undef, undef, undef, undef, undef, undef, undef, undef, undef, undef, undef, undef, undef, undef, undef, undef, undef, undef, undef], defers := [] }
    | _ => False) ?hmono ?hreg
  case hreg =>
    go_region_with (first | (go_at_call 197; refine (HF.out _ (by first | exact Gy _ _ | exact grownBy_trans (World.grownBy_alloc _ _ _) (Gy _ _))).mono ?_; rintro e w1 ⟨⟨rfl, hW1⟩, hg1⟩; have hg2 : w.grownBy w1 (some B) := (by first | exact grownBy_trans (Gy _ _) hg1 | exact grownBy_trans (World.grownBy_alloc _ _ _) (grownBy_trans (Gy _ _) hg1)); have c2 : w1.cell? ⟨bo, 0, none⟩ = some (.int .u8 o) := hg2.cell c0 (λe => hboB (Option.some.inj e)); have c3 : (w1.alloc (.cells #[.int .u8 0, .int .u8 0, .int .u8 0, .int .u8 0, .int .u8 0, .int .u64 0, .int .u64 0, .int .u64 0, .int .u64 0, .int .u64 0, .int .u64 0] 31)).cell? ⟨bo, 0, none⟩ = some (.int .u8 o) := (World.grownBy_alloc w1 (.cells #[.int .u8 0, .int .u8 0, .int .u8 0, .int .u8 0, .int .u8 0, .int .u64 0, .int .u64 0, .int .u64 0, .int .u64 0, .int .u64 0, .int .u64 0] 31) none).cell c2 (λe => by cases e); first | (have hE : w1.heap[w.heap.size]? = some (.cells #[.int .u8 0, .int .u8 0, .int .u8 0, .int .u8 0, .int .u8 0, .int .u64 0, .int .u64 0, .int .u64 0, .int .u64 0, .int .u64 0, .int .u64 0] 31) := (hg1.block _ (by simp) (λe => by have := Option.some.inj e; omega)).trans (World.alloc_heap_new _ _); have z0 : w1.frozen? ⟨w.heap.size, 0, none⟩ = false := (by simp [World.frozen?, hE]); have z1 : w1.frozen? ⟨w.heap.size, 1, none⟩ = false := (by simp [World.frozen?, hE]); have z2 : w1.frozen? ⟨w.heap.size, 2, none⟩ = false := (by simp [World.frozen?, hE]); have z3 : w1.frozen? ⟨w.heap.size, 3, none⟩ = false := (by simp [World.frozen?, hE]); have z4 : w1.frozen? ⟨w.heap.size, 4, none⟩ = false := (by simp [World.frozen?, hE]); have z5 : w1.frozen? ⟨w.heap.size, 5, none⟩ = false := (by simp [World.frozen?, hE]); have z6 : w1.frozen? ⟨w.heap.size, 6, none⟩ = false := (by simp [World.frozen?, hE]); have z7 : w1.frozen? ⟨w.heap.size, 7, none⟩ = false := (by simp [World.frozen?, hE]); have z8 : w1.frozen? ⟨w.heap.size, 8, none⟩ = false := (by simp [World.frozen?, hE]); have z9 : w1.frozen? ⟨w.heap.size, 9, none⟩ = false := (by simp [World.frozen?, hE]); have z10 : w1.frozen? ⟨w.heap.size, 10, none⟩ = false := (by simp [World.frozen?, hE]); have y0 : w1.cell? ⟨w.heap.size, 0, none⟩ = some (.int .u8 0) := (by simp [World.cell?, hE]); have y1 : w1.cell? ⟨w.heap.size, 1, none⟩ = some (.int .u8 0) := (by simp [World.cell?, hE]); have y2 : w1.cell? ⟨w.heap.size, 2, none⟩ = some (.int .u8 0) := (by simp [World.cell?, hE]); have y3 : w1.cell? ⟨w.heap.size, 3, none⟩ = some (.int .u8 0) := (by simp [World.cell?, hE]); have y4 : w1.cell? ⟨w.heap.size, 4, none⟩ = some (.int .u8 0) := (by simp [World.cell?, hE]); have y5 : w1.cell? ⟨w.heap.size, 5, none⟩ = some (.int .u64 0) := (by simp [World.cell?, hE]); have y6 : w1.cell? ⟨w.heap.size, 6, none⟩ = some (.int .u64 0) := (by simp [World.cell?, hE]); have y7 : w1.cell? ⟨w.heap.size, 7, none⟩ = some (.int .u64 0) := (by simp [World.cell?, hE]); have y8 : w1.cell? ⟨w.heap.size, 8, none⟩ = some (.int .u64 0) := (by simp [World.cell?, hE]); have y9 : w1.cell? ⟨w.heap.size, 9, none⟩ = some (.int .u64 0) := (by simp [World.cell?, hE]); have y10 : w1.cell? ⟨w.heap.size, 10, none⟩ = some (.int .u64 0) := (by simp [World.cell?, hE])) | skip))
    all_goals first
      | (have F : Made w (w1.alloc (.cells #[.int .u8 o, .int .u8 f, .int .u8 0, .int .u8 0, .int .u8 0, .int .u64 0, .int .u64 0, .int .u64 0, .int .u64 0, .int .u64 0, .int .u64 0] 31)) B w1.heap.size bn o f n ws1 := ⟨World.alloc_heap_new _ _, hW1.alloc _, grownBy_allocR (by exact hg2) _, (by exact hg2.size), ((grownBy_allocR (by exact hg2) _ : w.grownBy (w1.alloc _) (some B)).block _ hbnL (λe => hbnB (Option.some.inj e))).trans hn⟩
         refine ⟨_, (by with_reducible exact F), ?_⟩
         rfl)
      | (have F : Made w (((((((((((w1.setCell ⟨w.heap.size, 0, none⟩ (.int .u8 o)).setCell ⟨w.heap.size, 1, none⟩ (.int .u8 f)).setCell ⟨w.heap.size, 2, none⟩ (.int .u8 0)).setCell ⟨w.heap.size, 3, none⟩ (.int .u8 0)).setCell ⟨w.heap.size, 4, none⟩ (.int .u8 0)).setCell ⟨w.heap.size, 5, none⟩ (.int .u64 0)).setCell ⟨w.heap.size, 6, none⟩ (.int .u64 0)).setCell ⟨w.heap.size, 7, none⟩ (.int .u64 0)).setCell ⟨w.heap.size, 8, none⟩ (.int .u64 0)).setCell ⟨w.heap.size, 9, none⟩ (.int .u64 0)).setCell ⟨w.heap.size, 10, none⟩ (.int .u64 0)) B w.heap.size bn o f n ws1 := ⟨awP hE _ _ _ _ _ _ _ _ _ _ _, hW1.kept (acb w1 w.heap.size _ _ _ _ _ _ _ _ _ _ _) (λk e => by have := Option.some.inj e; omega), LP hg2 (acb w1 w.heap.size _ _ _ _ _ _ _ _ _ _ _) (Nat.le_refl _), Nat.le_refl _, ((LP hg2 (acb w1 w.heap.size _ _ _ _ _ _ _ _ _ _ _) (Nat.le_refl _)).block _ hbnL (λe => hbnB (Option.some.inj e))).trans hn⟩
         refine ⟨_, (by with_reducible exact F), ?_⟩
         rfl)
  case hmono =>
    intro e a W hq;cases e <;> first | exact hq.elim | skip
    obtain ⟨be, F, rfl⟩ := hq;obtain ⟨f1, f2, f3, f4, f5⟩ := F;have c5 : W.cell? ⟨bn, 0, none⟩ = some (.int .i64 n) := by simp [World.cell?, f5]
    have q0 : (n : Int) <= 3 := by omega
    have q1 : (0 : Int) <= (n : Int) := by omega
    have c7 : (W.alloc (.cells #[.pointer (some ⟨be, 5, none⟩), .pointer (some ⟨be, 7, none⟩), .pointer (some ⟨be, 9, none⟩)] 331)).cell? ⟨bn, 0, none⟩ = some (.int .i64 n) := (World.grownBy_alloc W _ none).cell c5 (λe => by cases e);have hbeL : be < W.heap.size := (Array.getElem?_eq_some_iff.1 f1).1;have hR := World.alloc_heap_new W (.cells #[.pointer (some ⟨be, 5, none⟩), .pointer (some ⟨be, 7, none⟩), .pointer (some ⟨be, 9, none⟩)] 331);have hF1 : (W.alloc (.cells #[.pointer (some ⟨be, 5, none⟩), .pointer (some ⟨be, 7, none⟩), .pointer (some ⟨be, 9, none⟩)] 331)).heap[be]? = _ := alloc_at f1 _;have hF2 := f2.alloc (.cells #[.pointer (some ⟨be, 5, none⟩), .pointer (some ⟨be, 7, none⟩), .pointer (some ⟨be, 9, none⟩)] 331);have hF3 := grownBy_allocR f3 (.cells #[.pointer (some ⟨be, 5, none⟩), .pointer (some ⟨be, 7, none⟩), .pointer (some ⟨be, 9, none⟩)] 331);show Exit.then _ _ Exit.normal _ _
    go_wp2
    generalize W.alloc (.cells #[.pointer (some ⟨be, 5, none⟩), .pointer (some ⟨be, 7, none⟩), .pointer (some ⟨be, 9, none⟩)] 331) = W2 at *
    generalize W.heap.size = rb at *
    go_loopw [20] (λi wr => ∃ k : Nat, k <= n /\ i = .int .i64 (k : Int) /\ ∃ l ws2, Ck k ws1 = some (l, ws2) /\ l.length = k /\ wr.heap[be]? = some (.cells (xM o f 0 0 0 (gB l 0) (gB l 1) (gB l 2)) 31) /\ wh wr B ws2 /\ w.grownBy wr (some B) /\ wr.heap[rb]? = some (.cells #[.pointer (some ⟨be, 5, none⟩), .pointer (some ⟨be, 7, none⟩), .pointer (some ⟨be, 9, none⟩)] 331)) (λi _ => n - (intOf i).toNat)
    case atStart => exact ⟨0, Nat.zero_le _, rfl, [], ws1, rfl, rfl, hF1, hF2, hF3, hR⟩
    case round =>
      obtain ⟨k, hk, rfl, l, ws2, hbn, hll, hEn, hWS, hgr, hRow⟩ := hrel;have hBe : B < w.heap.size := hBw;have f4' := f4;have hbeB : be ≠ B := by omega
      have hbeR : be < wr.heap.size := (Array.getElem?_eq_some_iff.1 hEn).1;have hrbR : rb < wr.heap.size := (Array.getElem?_eq_some_iff.1 hRow).1;by_cases hlt : k < n
      · have q2 : (k : Int) < (n : Int) := by omega
        have hk3 : k = 0 \/ k = 1 \/ k = 2 := by omega
        rcases hk3 with rfl | rfl | rfl
        · match l, hll with
          | [], _ =>
          have r0 : wr.cell? ⟨rb, 0, none⟩ = some (.pointer (some ⟨be, 5, none⟩)) := by simp [World.cell?, hRow]
          cases hb : Aq ws2 with
          | none =>
            have HB := EA hWS;rw [hb] at HB;have HB := Lib.hid HB;have hsp : yg o n ws = none := by simp [yg, h1, acd hbn hb hlt]
            go_wp2_with (first | (go_at_call 198; refine HB.out.mono ?_; rintro e w3 ⟨rfl, hg3⟩))
            refine yf ?_;try rw [hsp]
            exact ⟨rfl, grownBy_trans hgr hg3⟩
          | some r =>
            obtain ⟨a, ws3⟩ := r;have HB := EA hWS;rw [hb] at HB;have HB := Lib.hid HB
            go_wp2_with (first | (go_at_call 198; refine HB.out.mono ?_; rintro e w3 ⟨⟨rfl, hW3⟩, hg3⟩; have hE3 := (hg3.block _ hbeR (λe => hbeB (Option.some.inj e))).trans hEn; have z5 : w3.frozen? ⟨be, 5, none⟩ = false := (by simp [World.frozen?, hE3]); have z6 : w3.frozen? ⟨be, 6, none⟩ = false := (by simp [World.frozen?, hE3]); have y5 : w3.cell? ⟨be, 5, none⟩ = some (.int .u64 (gB [] 0).1) := (by simp [World.cell?, hE3]); have y6 : w3.cell? ⟨be, 6, none⟩ = some (.int .u64 (gB [] 0).2) := (by simp [World.cell?, hE3])))
            have hS1 := xA (i := 5) hE3 (.int .u64 a.1);simp only [List.setIfInBounds_toArray, List.set_cons_zero, List.set_cons_succ] at hS1;have hS2 := xA (i := 6) hS1 (.int .u64 a.2);simp only [List.setIfInBounds_toArray, List.set_cons_zero, List.set_cons_succ] at hS2;have hgs := grownBy_trans (wU w3 be 5 (.int .u64 a.1)) (wU _ be 6 (.int .u64 a.2));refine ⟨⟨1, by omega, by simp, [] ++ [a], ws3, by rw [Ck, hbn]; simp [hb], rfl, (by first | exact hS2 | simpa [gB] using hS2), hW3.kept hgs (λk e => by have := Option.some.inj e; omega), LP (grownBy_trans hgr hg3) hgs f4, ?_⟩, by simp [intOf]; omega⟩;rw [hgs.block _ (Nat.lt_of_lt_of_le hrbR hg3.size) (λe => by have := Option.some.inj e; omega), hg3.block _ hrbR (λe => by have := Option.some.inj e; omega)];exact hRow
        · match l, hll with
          | [a0], _ =>
          have r0 : wr.cell? ⟨rb, 1, none⟩ = some (.pointer (some ⟨be, 7, none⟩)) := by simp [World.cell?, hRow]
          cases hb : Aq ws2 with
          | none =>
            have HB := EA hWS;rw [hb] at HB;have HB := Lib.hid HB;have hsp : yg o n ws = none := by simp [yg, h1, acd hbn hb hlt]
            go_wp2_with (first | (go_at_call 198; refine HB.out.mono ?_; rintro e w3 ⟨rfl, hg3⟩))
            refine yf ?_;try rw [hsp]
            exact ⟨rfl, grownBy_trans hgr hg3⟩
          | some r =>
            obtain ⟨a, ws3⟩ := r;have HB := EA hWS;rw [hb] at HB;have HB := Lib.hid HB
            go_wp2_with (first | (go_at_call 198; refine HB.out.mono ?_; rintro e w3 ⟨⟨rfl, hW3⟩, hg3⟩; have hE3 := (hg3.block _ hbeR (λe => hbeB (Option.some.inj e))).trans hEn; have z5 : w3.frozen? ⟨be, 7, none⟩ = false := (by simp [World.frozen?, hE3]); have z6 : w3.frozen? ⟨be, 8, none⟩ = false := (by simp [World.frozen?, hE3]); have y5 : w3.cell? ⟨be, 7, none⟩ = some (.int .u64 (gB [a0] 1).1) := (by simp [World.cell?, hE3]); have y6 : w3.cell? ⟨be, 8, none⟩ = some (.int .u64 (gB [a0] 1).2) := (by simp [World.cell?, hE3])))
            have hS1 := xA (i := 7) hE3 (.int .u64 a.1);simp only [List.setIfInBounds_toArray, List.set_cons_zero, List.set_cons_succ] at hS1;have hS2 := xA (i := 8) hS1 (.int .u64 a.2);simp only [List.setIfInBounds_toArray, List.set_cons_zero, List.set_cons_succ] at hS2;have hgs := grownBy_trans (wU w3 be 7 (.int .u64 a.1)) (wU _ be 8 (.int .u64 a.2));refine ⟨⟨2, by omega, by simp, [a0] ++ [a], ws3, by rw [Ck, hbn]; simp [hb], rfl, (by first | exact hS2 | simpa [gB] using hS2), hW3.kept hgs (λk e => by have := Option.some.inj e; omega), LP (grownBy_trans hgr hg3) hgs f4, ?_⟩, by simp [intOf]; omega⟩;rw [hgs.block _ (Nat.lt_of_lt_of_le hrbR hg3.size) (λe => by have := Option.some.inj e; omega), hg3.block _ hrbR (λe => by have := Option.some.inj e; omega)];exact hRow
        · match l, hll with
          | [a0, a1], _ =>
          have r0 : wr.cell? ⟨rb, 2, none⟩ = some (.pointer (some ⟨be, 9, none⟩)) := by simp [World.cell?, hRow]
          cases hb : Aq ws2 with
          | none =>
            have HB := EA hWS;rw [hb] at HB;have HB := Lib.hid HB;have hsp : yg o n ws = none := by simp [yg, h1, acd hbn hb hlt]
            go_wp2_with (first | (go_at_call 198; refine HB.out.mono ?_; rintro e w3 ⟨rfl, hg3⟩))
            refine yf ?_;try rw [hsp]
            exact ⟨rfl, grownBy_trans hgr hg3⟩
          | some r =>
            obtain ⟨a, ws3⟩ := r;have HB := EA hWS;rw [hb] at HB;have HB := Lib.hid HB
            go_wp2_with (first | (go_at_call 198; refine HB.out.mono ?_; rintro e w3 ⟨⟨rfl, hW3⟩, hg3⟩; have hE3 := (hg3.block _ hbeR (λe => hbeB (Option.some.inj e))).trans hEn; have z5 : w3.frozen? ⟨be, 9, none⟩ = false := (by simp [World.frozen?, hE3]); have z6 : w3.frozen? ⟨be, 10, none⟩ = false := (by simp [World.frozen?, hE3]); have y5 : w3.cell? ⟨be, 9, none⟩ = some (.int .u64 (gB [a0, a1] 2).1) := (by simp [World.cell?, hE3]); have y6 : w3.cell? ⟨be, 10, none⟩ = some (.int .u64 (gB [a0, a1] 2).2) := (by simp [World.cell?, hE3])))
            have hS1 := xA (i := 9) hE3 (.int .u64 a.1);simp only [List.setIfInBounds_toArray, List.set_cons_zero, List.set_cons_succ] at hS1;have hS2 := xA (i := 10) hS1 (.int .u64 a.2);simp only [List.setIfInBounds_toArray, List.set_cons_zero, List.set_cons_succ] at hS2;have hgs := grownBy_trans (wU w3 be 9 (.int .u64 a.1)) (wU _ be 10 (.int .u64 a.2));refine ⟨⟨3, by omega, by simp, [a0, a1] ++ [a], ws3, by rw [Ck, hbn]; simp [hb], rfl, (by first | exact hS2 | simpa [gB] using hS2), hW3.kept hgs (λk e => by have := Option.some.inj e; omega), LP (grownBy_trans hgr hg3) hgs f4, ?_⟩, by simp [intOf]; omega⟩;rw [hgs.block _ (Nat.lt_of_lt_of_le hrbR hg3.size) (λe => by have := Option.some.inj e; omega), hg3.block _ hrbR (λe => by have := Option.some.inj e; omega)];exact hRow
      · obtain rfl : k = n := by omega
        have q2 : ¬ (k : Int) < (k : Int) := by omega
        have hsp : yg o k ws = some (.op o f 0 (gB l 0) (gB l 1) (gB l 2), ws2) := by simp [yg, h1, hbn]
        have e0 : wr.cell? ⟨be, 0, none⟩ = some (.int .u8 o) := by simp [World.cell?, hEn]
        have e1 : wr.cell? ⟨be, 1, none⟩ = some (.int .u8 f) := by simp [World.cell?, hEn]
        have e2 : wr.cell? ⟨be, 2, none⟩ = some (.int .u8 0) := by simp [World.cell?, hEn]
        have e3 : wr.cell? ⟨be, 3, none⟩ = some (.int .u8 0) := by simp [World.cell?, hEn]
        have e4 : wr.cell? ⟨be, 4, none⟩ = some (.int .u8 0) := by simp [World.cell?, hEn]
        have e5 : wr.cell? ⟨be, 5, none⟩ = some (.int .u64 (gB l 0).1) := by simp [World.cell?, hEn]
        have e6 : wr.cell? ⟨be, 6, none⟩ = some (.int .u64 (gB l 0).2) := by simp [World.cell?, hEn]
        have e7 : wr.cell? ⟨be, 7, none⟩ = some (.int .u64 (gB l 1).1) := by simp [World.cell?, hEn]
        have e8 : wr.cell? ⟨be, 8, none⟩ = some (.int .u64 (gB l 1).2) := by simp [World.cell?, hEn]
        have e9 : wr.cell? ⟨be, 9, none⟩ = some (.int .u64 (gB l 2).1) := by simp [World.cell?, hEn]
        have e10 : wr.cell? ⟨be, 10, none⟩ = some (.int .u64 (gB l 2).2) := by simp [World.cell?, hEn]
        have HH := Lib.hid (Wh hgr hWS o f 0 (gB l 0) (gB l 1) (gB l 2));generalize gB l 0 = x0 at *
        generalize gB l 1 = x1 at *
        generalize gB l 2 = x2 at *
        go_wp2_with (go_at_call 196; refine (We _ o f 0 x0 x1 x2).mono ?_; rintro e w9 ⟨rfl, rfl⟩)
        go_ret
        try rw [hsp]
        exact HH.out
theorem awS {w:World} {B:Nat} {ws:List ByteArray} (h:wh w B ws) (bo bn:Nat) (o:Int) (n:Nat) (hn3:n<=3) (hboB:bo≠B) (hbnB:bn≠B) (ho:w.heap[bo]? = some (.cells #[.int .u8 o] 5)) (hn:w.heap[bn]? = some (.cells #[.int .i64 n] 3)) :
  Calls prog 253 #[.pointer (some ⟨B,0,none⟩),.pointer (some ⟨bo,0,none⟩),.pointer (some ⟨bn,0,none⟩)] w (Gv w B (yg o n ws)):=by
 cases h1:wo yY ws with
 | none =>
  refine(awQ h bo bn o n hboB ho hn h1).mono λe w' ⟨h2,h3⟩=>?_
  have hsp:yg o n ws=none:=by simp[yg,h1]
  rw[hsp];exact⟨h2,h3⟩
 | some r =>
  obtain⟨f,ws1⟩:=r;exact awR h bo bn o f n ws1 hn3 hboB hbnB ho hn h1
abbrev Ik:TypeId:=207
def BG:Nat->List (ByteArray×Value)->List MapEntry
 | _,[]=>[]
 | i,(k,v)::l => { key:=.string k,val:=v,born:=i } :: BG (i+1) l
theorem ajq (k:ByteArray) (v:Value):∀ (l:List (ByteArray×Value)) (i:Nat),BG i (l ++ [(k,v)])=BG i l ++ [{ key:=.string k,val:=v,born:=i+l.length }]
 | [],i=>rfl
 | (k',v')::l,i=>by rw[List.cons_append,BG,BG,ajq k v l (i+1),List.cons_append,List.length_cons,show i+1+l.length=i+(l.length+1) by omega]
theorem ajr (a b:ByteArray):(a==b)=true↔a=b:=by obtain⟨x⟩:=a;obtain⟨y⟩:=b;show(x==y)=true↔_;simp
theorem ajs {a b:ByteArray} (h:a≠b):Instr.sameNow .string (.string a) (.string b)=some false:=by show some (a==b)=some false;rw[show(a==b)=false from Bool.eq_false_iff.2 λe=>h ((ajr a b).1 e)]
theorem same_eq (a:ByteArray):Instr.sameNow .string (.string a) (.string a)=some true:=by show some (a==a)=some true;rw[(ajr a a).2 rfl]
theorem ace (k:ByteArray):∀ (l:List (ByteArray×Value)) (i j:Nat),(∀ x∈l,k≠x.1)->Instr.findNow .string (.string k) (BG i l) j=some none
 | [],_,_,_=>rfl
 | (k',v)::l,i,j,h=>by rw[BG,Instr.findNow,ajs (h (k',v) (by simp))];exact ace k l (i+1) (j+1) λx hx=>h x (List.mem_cons_of_mem _ hx)
theorem ajt (k:ByteArray) (v:Value):∀ (l r:List (ByteArray×Value)) (i j:Nat),(∀ x∈l,k≠x.1)->∃ q,Instr.findNow .string (.string k) (BG i (l++(k,v)::r)) j=some (some (q,v))
 | [],r,i,j,_=>⟨j,by rw[List.nil_append,BG,Instr.findNow,same_eq]⟩
 | (k',v')::l,r,i,j,h=>by
  obtain⟨q,hq⟩:=ajt k v l r (i+1) (j+1) λx hx=>h x (List.mem_cons_of_mem _ hx)
  exact⟨q,by rw[List.cons_append,BG,Instr.findNow,ajs (h (k',v') (by simp))];exact hq⟩
def putObj (W:World) (b:Nat) (o:Obj):World := { W with heap:=W.heap.setIfInBounds b o }
def CM (w X:World) (b:Nat) (l:List (ByteArray×Value)):Prop :=
 X.heap[b]? = some (.map (BG 0 l).toArray l.length)/\w.heap.size<=b/\tQ w X
def xQ (w X:World) (b:Nat) (o:Int) (n:Nat) (v:Value):Prop :=
 ∃ p q,v = .func (.func 253) #[] #[.pointer (some ⟨p,0,none⟩),.pointer (some ⟨q,0,none⟩)]/\w.heap.size<=p/\w.heap.size<=q/\p≠b/\q≠b/\X.heap[p]? = some (.cells #[.int .u8 o] 5)/\X.heap[q]? = some (.cells #[.int .i64 n] 3)
theorem awT {W:World} {b:Nat} {o:Obj} (h:b<W.heap.size):(putObj W b o).heap[b]? = some o:=by show(W.heap.setIfInBounds b o)[b]? = _;simp[h]
theorem put_ne {W:World} {b k:Nat} {o:Obj} (h:k≠b):(putObj W b o).heap[k]? = W.heap[k]?:=by show(W.heap.setIfInBounds b o)[k]? = _;rw[Array.getElem?_setIfInBounds_ne (λe=>h e.symm)]
theorem put_size (W:World) (b:Nat) (o:Obj):(putObj W b o).heap.size=W.heap.size:=by show(W.heap.setIfInBounds b o).size=_;simp
theorem aju (W:World) (b:Nat) (o:Obj):W.grownBy (putObj W b o) (some b):=⟨rfl,rfl,rfl,by rw[put_size];exact Nat.le_refl _,λk _ hk=>put_ne (λe=>hk (by rw[e]))⟩
theorem CM.ins {w X:World} {b:Nat} {l:List (ByteArray×Value)} (h:CM w X b l) (k:ByteArray) (v:Value) (hk:∀ x∈l,k≠x.1) :
  (Instr.mapUpdate Ik (.map (some b)) (.string k) v).run prog X = .ok () (putObj X b (.map (BG 0 (l ++ [(k,v)])).toArray (l.length+1)))/\CM w (putObj X b (.map (BG 0 (l ++ [(k,v)])).toArray (l.length+1))) b (l ++ [(k,v)]):=by
 have hb:=h.1;have hlt:b<X.heap.size:=(Array.getElem?_eq_some_iff.1 hb).1;have hku:prog.underlying 9=some .string:=underlying9;have hm:prog.underlying Ik=some (.map 9 205):=underlying207;have hc:(Instr.checkKey false 10000 9 (.string k)).run prog X = .ok () X:=MapKept.run_checkKey (k:=.string k) hku (by simp[MapKept.IsKey]) false 9999;have hf:=ace k l 0 0 hk
 have he:(BG 0 l).toArray.push { key:=.string k,val:=v,born:=l.length } = (BG 0 (l ++ [(k,v)])).toArray:=by rw[ajq];simp
 refine⟨?_,?_,h.2.1,?_⟩
 ·have hs:=MapKept.run_setObj_map (P:=prog) (.map ((BG 0 l).toArray.push { key:=.string k,val:=v,born:=l.length }) (l.length+1)) hb;rw[he] at hs;simp[Instr.mapUpdate,run_underlying hm,MapKept.run_getObj_map hb,hc,MapKept.run_findKey hku hf,Result.andThen,he,hs];rfl
 ·rw[awT hlt];simp
 ·exact Below.grown h.2.2 (aju X b _) (Below.size h.2.2) (λg e=>by cases e;exact h.2.1)
theorem CM.put {w X:World} {b:Nat} {l:List (ByteArray×Value)} (h:CM w X b l) (k:ByteArray) (v:Value) (hk:∀ x∈l,k≠x.1) :
  ∃ Y,(Instr.mapUpdate Ik (.map (some b)) (.string k) v).run prog X = .ok () Y/\CM w Y b (l ++ [(k,v)])/\X.grownBy Y (some b):=⟨_,(h.ins k v hk).1,(h.ins k v hk).2,aju X b _⟩
theorem CM.alloc {w X:World} {b:Nat} {l:List (ByteArray×Value)} (h:CM w X b l) (o:Obj):CM w (X.alloc o) b l :=
 ⟨by rw[Below.heap_alloc X o b (Array.getElem?_eq_some_iff.1 h.1).1];exact h.1,h.2.1,tQ.alloc h.2.2 _⟩
theorem xQ.kept {w X Y:World} {b:Nat} {o:Int} {n:Nat} {v:Value} (h:xQ w X b o n v) (hg:X.grownBy Y (some b)):xQ w Y b o n v:=by obtain⟨p,q,h1,h2,h3,h4,h5,h6,h7⟩:=h;exact⟨p,q,h1,h2,h3,h4,h5,(hg.block _ (Array.getElem?_eq_some_iff.1 h6).1 (λe=>h4 (Option.some.inj e))).trans h6,(hg.block _ (Array.getElem?_eq_some_iff.1 h7).1 (λe=>h5 (Option.some.inj e))).trans h7⟩
theorem FI (w:World) (o:Int) (n:Int):Calls prog 194 #[.int .u8 o,.int .i64 n] w λe w'=>e = .returned (.func (.func 253) #[] #[.pointer (some ⟨w.heap.size,0,none⟩),.pointer (some ⟨w.heap.size+1,0,none⟩)])/\w'=(w.alloc (.cells #[.int .u8 o] 5)).alloc (.cells #[.int .i64 n] 3):=by
 go_enter func194,ntmps194
 go_wp2
 go_ret
 exact⟨rfl,rfl⟩
abbrev zF:ByteArray:=⟨#[97,100,100]⟩
abbrev zG:ByteArray:=⟨#[115,117,98]⟩
abbrev zH:ByteArray:=⟨#[109,117,108]⟩
abbrev zI:ByteArray:=⟨#[100,105,118]⟩
abbrev zJ:ByteArray:=⟨#[114,101,109]⟩
abbrev zK:ByteArray:=⟨#[102,109,97]⟩
abbrev zL:ByteArray:=⟨#[115,113,114,116]⟩
abbrev zM:ByteArray:=⟨#[114,105,110,116]⟩
abbrev zN:ByteArray:=⟨#[101,120,97,99,116]⟩
abbrev zO:ByteArray:=⟨#[113,117,105,101,116]⟩
abbrev zP:ByteArray:=⟨#[115,105,103,110,97,108,105,110,103]⟩
abbrev yZ:ByteArray:=⟨#[99,111,110,118]⟩
abbrev ze:ByteArray:=⟨#[105,110,116]⟩
abbrev zf:ByteArray:=⟨#[102,114,111,109]⟩
abbrev zg:ByteArray:=⟨#[101,110,118]⟩
abbrev zh:ByteArray:=⟨#[99,108,101,97,114]⟩
abbrev zi:ByteArray:=⟨#[115,116,105,99,107,121]⟩
def ajv (v0 v1 v2 v3 v4 v5 v6 v7 v8 v9 v10:Value):List (ByteArray×Value):=[(zF,v0),(zG,v1),(zH,v2),(zI,v3),(zJ,v4),(zK,v5),(zL,v6),(zM,v7),(zN,v8),(zO,v9),(zP,v10),(yZ,.func (.func 195) #[] #[]),(ze,.func (.func 199) #[] #[]),(zf,.func (.func 201) #[] #[]),(zg,.func (.func 202) #[] #[]),(zh,.func (.func 206) #[] #[]),(zi,.func (.func 209) #[] #[])]
def Sw (w X:World) (b:Nat):Prop :=
 ∃ v0 v1 v2 v3 v4 v5 v6 v7 v8 v9 v10,CM w X b (ajv v0 v1 v2 v3 v4 v5 v6 v7 v8 v9 v10)/\xQ w X b 1 2 v0/\xQ w X b 2 2 v1/\xQ w X b 3 2 v2/\xQ w X b 4 2 v3/\xQ w X b 7 2 v4/\xQ w X b 6 3 v5/\xQ w X b 5 1 v6/\xQ w X b 8 1 v7/\xQ w X b 9 1 v8/\xQ w X b 13 2 v9/\xQ w X b 14 2 v10
theorem FJ {w X:World} {b:Nat} {l:List (ByteArray×Value)} (h:CM w X b l) (o:Int) (n:Nat) :
  xQ w ((X.alloc (.cells #[.int .u8 o] 5)).alloc (.cells #[.int .i64 n] 3)) b o n (.func (.func 253) #[] #[.pointer (some ⟨X.heap.size,0,none⟩),.pointer (some ⟨X.heap.size+1,0,none⟩)]):=by
 have hb:=(Array.getElem?_eq_some_iff.1 h.1).1;have hs:=Below.size h.2.2;exact⟨X.heap.size,X.heap.size+1,rfl,hs,by omega,by omega,by omega,alloc_at (World.alloc_heap_new _ _) _,Qg _ _ _⟩
theorem awU (w:World):Calls prog 138 #[] w λe w'=>∃ b,e = .returned (.map (some b))/\Sw w w' b:=by
 have C0:CM w (w.alloc (.map #[] 0)) w.heap.size []:=⟨World.alloc_heap_new _ _,Nat.le_refl _,(tQ.refl w).alloc _⟩;have HC0:=Lib.hid C0;have e0:=Go.run_makeMap_plain (P:=prog) (w:=w) 207;clear C0
 go_enter func138,ntmps138
 go_wp2_with (first
  | (go_at_call 194;refine(FI _ 1 2).mono ?_;rintro e w' ⟨rfl,rfl⟩;have p0:xQ w (((w.alloc (.map #[] 0)).alloc (.cells #[.int .u8 1] 5)).alloc (.cells #[.int .i64 2] 3)) w.heap.size 1 2 (.func (.func 253) #[] #[.pointer (some ⟨w.heap.size+1,0,none⟩),.pointer (some ⟨w.heap.size+1+1,0,none⟩)]):=(by have:=FJ HC0.out 1 2;simpa using this);obtain⟨Y0,I0,D0,g0⟩:=((HC0.out.alloc (.cells #[.int .u8 1] 5)).alloc (.cells #[.int .i64 2] 3)).put zF (.func (.func 253) #[] #[.pointer (some ⟨w.heap.size+1,0,none⟩),.pointer (some ⟨w.heap.size+1+1,0,none⟩)]) (by first|decide|simp);have HC1:=Lib.hid D0;clear D0)
  | (go_at_call 194;refine(FI _ 2 2).mono ?_;rintro e w' ⟨rfl,rfl⟩;have p1:xQ w ((Y0.alloc (.cells #[.int .u8 2] 5)).alloc (.cells #[.int .i64 2] 3)) w.heap.size 2 2 (.func (.func 253) #[] #[.pointer (some ⟨Y0.heap.size,0,none⟩),.pointer (some ⟨Y0.heap.size+1,0,none⟩)]):=(FJ HC1.out 2 2);obtain⟨Y1,I1,D1,g1⟩:=((HC1.out.alloc (.cells #[.int .u8 2] 5)).alloc (.cells #[.int .i64 2] 3)).put zG (.func (.func 253) #[] #[.pointer (some ⟨Y0.heap.size,0,none⟩),.pointer (some ⟨Y0.heap.size+1,0,none⟩)]) (by first|decide|simp);have HC2:=Lib.hid D1;clear D1)
  | (go_at_call 194;refine(FI _ 3 2).mono ?_;rintro e w' ⟨rfl,rfl⟩;have p2:xQ w ((Y1.alloc (.cells #[.int .u8 3] 5)).alloc (.cells #[.int .i64 2] 3)) w.heap.size 3 2 (.func (.func 253) #[] #[.pointer (some ⟨Y1.heap.size,0,none⟩),.pointer (some ⟨Y1.heap.size+1,0,none⟩)]):=(FJ HC2.out 3 2);obtain⟨Y2,I2,D2,g2⟩:=((HC2.out.alloc (.cells #[.int .u8 3] 5)).alloc (.cells #[.int .i64 2] 3)).put zH (.func (.func 253) #[] #[.pointer (some ⟨Y1.heap.size,0,none⟩),.pointer (some ⟨Y1.heap.size+1,0,none⟩)]) (by first|decide|simp);have HC3:=Lib.hid D2;clear D2)
  | (go_at_call 194;refine(FI _ 4 2).mono ?_;rintro e w' ⟨rfl,rfl⟩;have p3:xQ w ((Y2.alloc (.cells #[.int .u8 4] 5)).alloc (.cells #[.int .i64 2] 3)) w.heap.size 4 2 (.func (.func 253) #[] #[.pointer (some ⟨Y2.heap.size,0,none⟩),.pointer (some ⟨Y2.heap.size+1,0,none⟩)]):=(FJ HC3.out 4 2);obtain⟨Y3,I3,D3,g3⟩:=((HC3.out.alloc (.cells #[.int .u8 4] 5)).alloc (.cells #[.int .i64 2] 3)).put zI (.func (.func 253) #[] #[.pointer (some ⟨Y2.heap.size,0,none⟩),.pointer (some ⟨Y2.heap.size+1,0,none⟩)]) (by first|decide|simp);have HC4:=Lib.hid D3;clear D3)
  | (go_at_call 194;refine(FI _ 7 2).mono ?_;rintro e w' ⟨rfl,rfl⟩;have p4:xQ w ((Y3.alloc (.cells #[.int .u8 7] 5)).alloc (.cells #[.int .i64 2] 3)) w.heap.size 7 2 (.func (.func 253) #[] #[.pointer (some ⟨Y3.heap.size,0,none⟩),.pointer (some ⟨Y3.heap.size+1,0,none⟩)]):=(FJ HC4.out 7 2);obtain⟨Y4,I4,D4,g4⟩:=((HC4.out.alloc (.cells #[.int .u8 7] 5)).alloc (.cells #[.int .i64 2] 3)).put zJ (.func (.func 253) #[] #[.pointer (some ⟨Y3.heap.size,0,none⟩),.pointer (some ⟨Y3.heap.size+1,0,none⟩)]) (by first|decide|simp);have HC5:=Lib.hid D4;clear D4)
  | (go_at_call 194;refine(FI _ 6 3).mono ?_;rintro e w' ⟨rfl,rfl⟩;have p5:xQ w ((Y4.alloc (.cells #[.int .u8 6] 5)).alloc (.cells #[.int .i64 3] 3)) w.heap.size 6 3 (.func (.func 253) #[] #[.pointer (some ⟨Y4.heap.size,0,none⟩),.pointer (some ⟨Y4.heap.size+1,0,none⟩)]):=(FJ HC5.out 6 3);obtain⟨Y5,I5,D5,g5⟩:=((HC5.out.alloc (.cells #[.int .u8 6] 5)).alloc (.cells #[.int .i64 3] 3)).put zK (.func (.func 253) #[] #[.pointer (some ⟨Y4.heap.size,0,none⟩),.pointer (some ⟨Y4.heap.size+1,0,none⟩)]) (by first|decide|simp);have HC6:=Lib.hid D5;clear D5)
  | (go_at_call 194;refine(FI _ 5 1).mono ?_;rintro e w' ⟨rfl,rfl⟩;have p6:xQ w ((Y5.alloc (.cells #[.int .u8 5] 5)).alloc (.cells #[.int .i64 1] 3)) w.heap.size 5 1 (.func (.func 253) #[] #[.pointer (some ⟨Y5.heap.size,0,none⟩),.pointer (some ⟨Y5.heap.size+1,0,none⟩)]):=(FJ HC6.out 5 1);obtain⟨Y6,I6,D6,g6⟩:=((HC6.out.alloc (.cells #[.int .u8 5] 5)).alloc (.cells #[.int .i64 1] 3)).put zL (.func (.func 253) #[] #[.pointer (some ⟨Y5.heap.size,0,none⟩),.pointer (some ⟨Y5.heap.size+1,0,none⟩)]) (by first|decide|simp);have HC7:=Lib.hid D6;clear D6)
  | (go_at_call 194;refine(FI _ 8 1).mono ?_;rintro e w' ⟨rfl,rfl⟩;have p7:xQ w ((Y6.alloc (.cells #[.int .u8 8] 5)).alloc (.cells #[.int .i64 1] 3)) w.heap.size 8 1 (.func (.func 253) #[] #[.pointer (some ⟨Y6.heap.size,0,none⟩),.pointer (some ⟨Y6.heap.size+1,0,none⟩)]):=(FJ HC7.out 8 1);obtain⟨Y7,I7,D7,g7⟩:=((HC7.out.alloc (.cells #[.int .u8 8] 5)).alloc (.cells #[.int .i64 1] 3)).put zM (.func (.func 253) #[] #[.pointer (some ⟨Y6.heap.size,0,none⟩),.pointer (some ⟨Y6.heap.size+1,0,none⟩)]) (by first|decide|simp);have HC8:=Lib.hid D7;clear D7)
  | (go_at_call 194;refine(FI _ 9 1).mono ?_;rintro e w' ⟨rfl,rfl⟩;have p8:xQ w ((Y7.alloc (.cells #[.int .u8 9] 5)).alloc (.cells #[.int .i64 1] 3)) w.heap.size 9 1 (.func (.func 253) #[] #[.pointer (some ⟨Y7.heap.size,0,none⟩),.pointer (some ⟨Y7.heap.size+1,0,none⟩)]):=(FJ HC8.out 9 1);obtain⟨Y8,I8,D8,g8⟩:=((HC8.out.alloc (.cells #[.int .u8 9] 5)).alloc (.cells #[.int .i64 1] 3)).put zN (.func (.func 253) #[] #[.pointer (some ⟨Y7.heap.size,0,none⟩),.pointer (some ⟨Y7.heap.size+1,0,none⟩)]) (by first|decide|simp);have HC9:=Lib.hid D8;clear D8)
  | (go_at_call 194;refine(FI _ 13 2).mono ?_;rintro e w' ⟨rfl,rfl⟩;have p9:xQ w ((Y8.alloc (.cells #[.int .u8 13] 5)).alloc (.cells #[.int .i64 2] 3)) w.heap.size 13 2 (.func (.func 253) #[] #[.pointer (some ⟨Y8.heap.size,0,none⟩),.pointer (some ⟨Y8.heap.size+1,0,none⟩)]):=(FJ HC9.out 13 2);obtain⟨Y9,I9,D9,g9⟩:=((HC9.out.alloc (.cells #[.int .u8 13] 5)).alloc (.cells #[.int .i64 2] 3)).put zO (.func (.func 253) #[] #[.pointer (some ⟨Y8.heap.size,0,none⟩),.pointer (some ⟨Y8.heap.size+1,0,none⟩)]) (by first|decide|simp);have HC10:=Lib.hid D9;clear D9)
  | (go_at_call 194;refine(FI _ 14 2).mono ?_;rintro e w' ⟨rfl,rfl⟩;have p10:xQ w ((Y9.alloc (.cells #[.int .u8 14] 5)).alloc (.cells #[.int .i64 2] 3)) w.heap.size 14 2 (.func (.func 253) #[] #[.pointer (some ⟨Y9.heap.size,0,none⟩),.pointer (some ⟨Y9.heap.size+1,0,none⟩)]):=(FJ HC10.out 14 2);obtain⟨Y10,I10,D10,g10⟩:=((HC10.out.alloc (.cells #[.int .u8 14] 5)).alloc (.cells #[.int .i64 2] 3)).put zP (.func (.func 253) #[] #[.pointer (some ⟨Y9.heap.size,0,none⟩),.pointer (some ⟨Y9.heap.size+1,0,none⟩)]) (by first|decide|simp);have HC11:=Lib.hid D10;clear D10;obtain⟨Z0,J0,E0,f0⟩:=(HC11.out).put yZ (.func (.func 195) #[] #[]) (by first|decide|simp);obtain⟨Z1,J1,E1,f1⟩:=(E0).put ze (.func (.func 199) #[] #[]) (by first|decide|simp);obtain⟨Z2,J2,E2,f2⟩:=(E1).put zf (.func (.func 201) #[] #[]) (by first|decide|simp);obtain⟨Z3,J3,E3,f3⟩:=(E2).put zg (.func (.func 202) #[] #[]) (by first|decide|simp);obtain⟨Z4,J4,E4,f4⟩:=(E3).put zh (.func (.func 206) #[] #[]) (by first|decide|simp);obtain⟨Z5,J5,E5,f5⟩:=(E4).put zi (.func (.func 209) #[] #[]) (by first|decide|simp)))
 go_ret
 have c10:Y10.grownBy Z5 (some w.heap.size):=grownBy_trans f0 (grownBy_trans f1 (grownBy_trans f2 (grownBy_trans f3 (grownBy_trans f4 f5))));have c9:Y9.grownBy Z5 (some w.heap.size):=grownBy_trans (World.grownBy_alloc _ _ _) (grownBy_trans (World.grownBy_alloc _ _ _) (grownBy_trans g10 c10));have c8:Y8.grownBy Z5 (some w.heap.size):=grownBy_trans (World.grownBy_alloc _ _ _) (grownBy_trans (World.grownBy_alloc _ _ _) (grownBy_trans g9 c9));have c7:Y7.grownBy Z5 (some w.heap.size):=grownBy_trans (World.grownBy_alloc _ _ _) (grownBy_trans (World.grownBy_alloc _ _ _) (grownBy_trans g8 c8));have c6:Y6.grownBy Z5 (some w.heap.size):=grownBy_trans (World.grownBy_alloc _ _ _) (grownBy_trans (World.grownBy_alloc _ _ _) (grownBy_trans g7 c7));have c5:Y5.grownBy Z5 (some w.heap.size):=grownBy_trans (World.grownBy_alloc _ _ _) (grownBy_trans (World.grownBy_alloc _ _ _) (grownBy_trans g6 c6));have c4:Y4.grownBy Z5 (some w.heap.size):=grownBy_trans (World.grownBy_alloc _ _ _) (grownBy_trans (World.grownBy_alloc _ _ _) (grownBy_trans g5 c5));have c3:Y3.grownBy Z5 (some w.heap.size):=grownBy_trans (World.grownBy_alloc _ _ _) (grownBy_trans (World.grownBy_alloc _ _ _) (grownBy_trans g4 c4));have c2:Y2.grownBy Z5 (some w.heap.size):=grownBy_trans (World.grownBy_alloc _ _ _) (grownBy_trans (World.grownBy_alloc _ _ _) (grownBy_trans g3 c3));have c1:Y1.grownBy Z5 (some w.heap.size):=grownBy_trans (World.grownBy_alloc _ _ _) (grownBy_trans (World.grownBy_alloc _ _ _) (grownBy_trans g2 c2));have c0:Y0.grownBy Z5 (some w.heap.size):=grownBy_trans (World.grownBy_alloc _ _ _) (grownBy_trans (World.grownBy_alloc _ _ _) (grownBy_trans g1 c1));exact⟨_,rfl,_,_,_,_,_,_,_,_,_,_,_,E5,p0.kept (grownBy_trans g0 c0),p1.kept (grownBy_trans g1 c1),p2.kept (grownBy_trans g2 c2),p3.kept (grownBy_trans g3 c3),p4.kept (grownBy_trans g4 c4),p5.kept (grownBy_trans g5 c5),p6.kept (grownBy_trans g6 c6),p7.kept (grownBy_trans g7 c7),p8.kept (grownBy_trans g8 c8),p9.kept (grownBy_trans g9 c9),p10.kept (grownBy_trans g10 c10)⟩
theorem awV (w:World):(Instr.typeAssert (.iface 38 (.int .i64 3)) 20 38 true).run prog w = .ok (.tuple #[.int .i64 3,.bool true]) w:=by have h:=underlying38;simp[Instr.typeAssert,run_underlying h,Result.andThen]
theorem awW (w:World):(Instr.typeAssert .nilIface 20 38 true).run prog w = .ok (.tuple #[.int .i64 0,.bool false]) w:=by have h:=underlying38;simp[Instr.typeAssert,run_underlying h,Result.andThen,Tryz.zeroValue38]
theorem Sy (pd pk:Nat) (v0:Value) (older:List PanicEntry) (w:World) (hne:pd≠pk) (hd:w.heap[pd]? = some (.cells #[v0] 109)) (hk:w.heap[pk]? = some (.cells #[.bool false] 4)) :
  CallsD prog 137 #[.pointer (some ⟨pd,0,none⟩),.pointer (some ⟨pk,0,none⟩)] (.panicking ({ v:=.iface 38 (.int .i64 3),recovered:=false } :: older)) w λe u' w' =>
   e = .returned (.tuple #[])/\u' = .panicking ({ v:=.iface 38 (.int .i64 3),recovered:=true } :: older)/\w'=(w.setCell ⟨pd,0,none⟩ .nilFunc).setCell ⟨pk,0,none⟩ (.bool false):=by
 have c0:w.cell? ⟨pd,0,none⟩=some v0:=by simp[World.cell?,hd]
 have z0:w.frozen? ⟨pd,0,none⟩=false:=by simp[World.frozen?,hd]
 have c1:w.cell? ⟨pk,0,none⟩=some (.bool false):=by simp[World.cell?,hk]
 have z1:w.frozen? ⟨pk,0,none⟩=false:=by simp[World.frozen?,hk]
 have ha:=awV w;refine callsD_of_wpS func137 rfl λc₀ cs hu=>?_
 simp only[ntmps137,List.size_toArray,List.length_cons,List.length_nil,Nat.reduceAdd,Nat.reduceSub,Array.replicate_succ,Array.replicate_zero,List.push_toArray,List.append_toArray,List.nil_append,List.cons_append];apply wpS_seq;apply wpS_region;simp[wpOpsS,go_sem,recoverD,hu,ha,Exit.thenS];apply wpS_seq;apply wpS_region;simp[wpOpsS,go_sem,Exit.thenS];refine wpS_cond (t:=true) (by simp[Act.eval]) ?_;simp only[if_true];apply wpS_region;have hk2:(w.setCell ⟨pd,0,none⟩ .nilFunc).heap[pk]? = some (.cells #[.bool false] 4):=((wU w pd 0 .nilFunc).block _ (Array.getElem?_eq_some_iff.1 hk).1 (λe=>hne (Option.some.inj e).symm)).trans hk;have c2:(w.setCell ⟨pd,0,none⟩ .nilFunc).cell? ⟨pk,0,none⟩=some (.bool false):=by simp[World.cell?,hk2]
 have z2:(w.setCell ⟨pd,0,none⟩ .nilFunc).frozen? ⟨pk,0,none⟩=false:=by simp[World.frozen?,hk2]
 have hst:=run_store prog w ⟨pd,0,none⟩ .nilFunc .plain rfl;simp[wpOpsS,go_sem,hst,c0,z0,c2,z2,bodyPostS,results,results137]
theorem ajw (pd pk:Nat) (w:World) :
  CallsD prog 137 #[.pointer (some ⟨pd,0,none⟩),.pointer (some ⟨pk,0,none⟩)] .returning w λe u' w'=>e = .returned (.tuple #[])/\u' = .returning/\w'=w:=by
 have ha:=awW w;refine callsD_of_wpS func137 rfl λc₀ cs hu=>?_
 simp only[ntmps137,List.size_toArray,List.length_cons,List.length_nil,Nat.reduceAdd,Nat.reduceSub,Array.replicate_succ,Array.replicate_zero,List.push_toArray,List.append_toArray,List.nil_append,List.cons_append];apply wpS_seq;apply wpS_region;simp[wpOpsS,go_sem,recoverD,hu,ha,Exit.thenS];apply wpS_seq;apply wpS_region;simp[wpOpsS,go_sem,Exit.thenS];refine wpS_cond (t:=false) (by simp[Act.eval]) ?_;simp only[Bool.false_eq_true,if_false];refine wpS_of_wp (wp_skip ?_);cases c₀;simp_all[bodyPostS,results,results137]
theorem Bh {w X:World} {b:Nat} {l r:List (ByteArray×Value)} {k:ByteArray} {v:Value} (h:CM w X b (l++(k,v)::r)) (hk:∀ x∈l,k≠x.1) :
  (Instr.lookup Ik (.map (some b)) (.string k) true).run prog X = .ok (.tuple #[v,.bool true]) X:=by
 have hb:=h.1;have hku:prog.underlying 9=some .string:=underlying9;have hm:prog.underlying Ik=some (.map 9 205):=underlying207;obtain⟨q,hq⟩:=ajt k v l r 0 0 hk;have hc:∀ em,(Instr.checkKey em 10000 9 (.string k)).run prog X = .ok () X:=λem=>MapKept.run_checkKey (k:=.string k) hku (by simp[MapKept.IsKey]) em 9999
 simp[Instr.lookup,run_underlying hm,MapKept.run_getObj_map hb,hc,MapKept.run_findKey hku hq,Result.andThen]
theorem awX {w X:World} {b:Nat} {l:List (ByteArray×Value)} {k:ByteArray} (h:CM w X b l) (hk:∀ x∈l,k≠x.1) :
  (Instr.lookup Ik (.map (some b)) (.string k) true).run prog X = .ok (.tuple #[.nilFunc,.bool false]) X:=by
 have hb:=h.1;have hku:prog.underlying 9=some .string:=underlying9;have hm:prog.underlying Ik=some (.map 9 205):=underlying207;have hq:=ace k l 0 0 hk;have hc:∀ em,(Instr.checkKey em 10000 9 (.string k)).run prog X = .ok () X:=λem=>MapKept.run_checkKey (k:=.string k) hku (by simp[MapKept.IsKey]) em 9999
 simp[Instr.lookup,run_underlying hm,MapKept.run_getObj_map hb,hc,MapKept.run_findKey hku hq,Result.andThen,Tryz.zeroValue205]
def wK (s:ByteArray) (ws:List ByteArray):Option (vG×List ByteArray) :=
 if s=zF then yg 1 2 ws else
 if s=zG then yg 2 2 ws else
 if s=zH then yg 3 2 ws else
 if s=zI then yg 4 2 ws else
 if s=zJ then yg 7 2 ws else
 if s=zK then yg 6 3 ws else
 if s=zL then yg 5 1 ws else
 if s=zM then yg 8 1 ws else
 if s=zN then yg 9 1 ws else
 if s=zO then yg 13 2 ws else
 if s=zP then yg 14 2 ws else
 if s=yZ then CK ws else
 if s=ze then DI ws else
 if s=zf then DJ ws else
 if s=zg then yQ ws else
 if s=zh then some (.clear,ws) else
 if s=zi then some (.sticky,ws) else
 none
theorem enters {f:FuncId} {fn:Func} (hf:prog.funcs[f]? = some fn) (hn:(fn.name == "runtime.NumGoroutine")=false) (hb:fn.body.isSome=true):∀ args w,(callFunc f args).run prog w = .ok (.enter f args) w:=by
 intro args w;obtain⟨c,hb⟩:=Option.isSome_iff_exists.1 hb
 have hn':fn.name ≠ "runtime.NumGoroutine":=by simpa using hn
 simp[callFunc,go_sem,hf,hn',hb]
def acf (X:World) (s:ByteArray) (v:Value):Prop :=
 ∃ g caps,v = .func (.func g) #[] caps/\(∀ args w,(callFunc g args).run prog w = .ok (.enter g args) w)/\∀ W B ws,X.grownBy W none->X.heap.size<=B->wh W B ws->Calls prog g (#[.pointer (some ⟨B,0,none⟩)]++caps) W (Gv W B (wK s ws))
theorem FK {w X:World} {b:Nat} {s:ByteArray} {v:Value} {o:Int} {n:Nat} (hn:n<=3) (h:xQ w X b o n v) (hs:∀ ws,wK s ws=yg o n ws):acf X s v:=by obtain⟨p,q,h1,h2,h3,h4,h5,h6,h7⟩:=h;have hp:=(Array.getElem?_eq_some_iff.1 h6).1;have hq:=(Array.getElem?_eq_some_iff.1 h7).1;refine⟨_,_,h1,enters func253 rfl rfl,λW B ws hg hB hW=>?_⟩;rw[hs];exact awS hW p q o n hn (by omega) (by omega) ((hg.block _ hp (by simp)).trans h6) ((hg.block _ hq (by simp)).trans h7)
theorem look {w X:World} {b:Nat} (h:Sw w X b) (s:ByteArray) :
  (∃ v,(Instr.lookup Ik (.map (some b)) (.string s) true).run prog X = .ok (.tuple #[v,.bool true]) X/\acf X s v) \/
  ((Instr.lookup Ik (.map (some b)) (.string s) true).run prog X = .ok (.tuple #[.nilFunc,.bool false]) X/\∀ ws,wK s ws=none):=by
 obtain⟨v0,v1,v2,v3,v4,v5,v6,v7,v8,v9,v10,hC,p0,p1,p2,p3,p4,p5,p6,p7,p8,p9,p10⟩:=h;by_cases e0:s=zF
 ·subst e0;left;refine⟨_,Bh (l:=[]) (r:=[(zG,v1),(zH,v2),(zI,v3),(zJ,v4),(zK,v5),(zL,v6),(zM,v7),(zN,v8),(zO,v9),(zP,v10),(yZ,.func (.func 195) #[] #[]),(ze,.func (.func 199) #[] #[]),(zf,.func (.func 201) #[] #[]),(zg,.func (.func 202) #[] #[]),(zh,.func (.func 206) #[] #[]),(zi,.func (.func 209) #[] #[])]) hC (by simp;try decide),?_⟩;exact FK (by decide) p0 λws=>by unfold wK;first|rfl|(simp;done)|decide
 by_cases e1:s=zG
 ·subst e1;left;refine⟨_,Bh (l:=[(zF,v0)]) (r:=[(zH,v2),(zI,v3),(zJ,v4),(zK,v5),(zL,v6),(zM,v7),(zN,v8),(zO,v9),(zP,v10),(yZ,.func (.func 195) #[] #[]),(ze,.func (.func 199) #[] #[]),(zf,.func (.func 201) #[] #[]),(zg,.func (.func 202) #[] #[]),(zh,.func (.func 206) #[] #[]),(zi,.func (.func 209) #[] #[])]) hC (by simp;try decide),?_⟩;exact FK (by decide) p1 λws=>by unfold wK;first|rfl|(simp;done)|decide
 by_cases e2:s=zH
 ·subst e2;left;refine⟨_,Bh (l:=[(zF,v0),(zG,v1)]) (r:=[(zI,v3),(zJ,v4),(zK,v5),(zL,v6),(zM,v7),(zN,v8),(zO,v9),(zP,v10),(yZ,.func (.func 195) #[] #[]),(ze,.func (.func 199) #[] #[]),(zf,.func (.func 201) #[] #[]),(zg,.func (.func 202) #[] #[]),(zh,.func (.func 206) #[] #[]),(zi,.func (.func 209) #[] #[])]) hC (by simp;try decide),?_⟩;exact FK (by decide) p2 λws=>by unfold wK;first|rfl|(simp;done)|decide
 by_cases e3:s=zI
 ·subst e3;left;refine⟨_,Bh (l:=[(zF,v0),(zG,v1),(zH,v2)]) (r:=[(zJ,v4),(zK,v5),(zL,v6),(zM,v7),(zN,v8),(zO,v9),(zP,v10),(yZ,.func (.func 195) #[] #[]),(ze,.func (.func 199) #[] #[]),(zf,.func (.func 201) #[] #[]),(zg,.func (.func 202) #[] #[]),(zh,.func (.func 206) #[] #[]),(zi,.func (.func 209) #[] #[])]) hC (by simp;try decide),?_⟩;exact FK (by decide) p3 λws=>by unfold wK;first|rfl|(simp;done)|decide
 by_cases e4:s=zJ
 ·subst e4;left;refine⟨_,Bh (l:=[(zF,v0),(zG,v1),(zH,v2),(zI,v3)]) (r:=[(zK,v5),(zL,v6),(zM,v7),(zN,v8),(zO,v9),(zP,v10),(yZ,.func (.func 195) #[] #[]),(ze,.func (.func 199) #[] #[]),(zf,.func (.func 201) #[] #[]),(zg,.func (.func 202) #[] #[]),(zh,.func (.func 206) #[] #[]),(zi,.func (.func 209) #[] #[])]) hC (by simp;try decide),?_⟩;exact FK (by decide) p4 λws=>by unfold wK;first|rfl|(simp;done)|decide
 by_cases e5:s=zK
 ·subst e5;left;refine⟨_,Bh (l:=[(zF,v0),(zG,v1),(zH,v2),(zI,v3),(zJ,v4)]) (r:=[(zL,v6),(zM,v7),(zN,v8),(zO,v9),(zP,v10),(yZ,.func (.func 195) #[] #[]),(ze,.func (.func 199) #[] #[]),(zf,.func (.func 201) #[] #[]),(zg,.func (.func 202) #[] #[]),(zh,.func (.func 206) #[] #[]),(zi,.func (.func 209) #[] #[])]) hC (by simp;try decide),?_⟩;exact FK (by decide) p5 λws=>by unfold wK;first|rfl|(simp;done)|decide
 by_cases e6:s=zL
 ·subst e6;left;refine⟨_,Bh (l:=[(zF,v0),(zG,v1),(zH,v2),(zI,v3),(zJ,v4),(zK,v5)]) (r:=[(zM,v7),(zN,v8),(zO,v9),(zP,v10),(yZ,.func (.func 195) #[] #[]),(ze,.func (.func 199) #[] #[]),(zf,.func (.func 201) #[] #[]),(zg,.func (.func 202) #[] #[]),(zh,.func (.func 206) #[] #[]),(zi,.func (.func 209) #[] #[])]) hC (by simp;try decide),?_⟩;exact FK (by decide) p6 λws=>by unfold wK;first|rfl|(simp;done)|decide
 by_cases e7:s=zM
 ·subst e7;left;refine⟨_,Bh (l:=[(zF,v0),(zG,v1),(zH,v2),(zI,v3),(zJ,v4),(zK,v5),(zL,v6)]) (r:=[(zN,v8),(zO,v9),(zP,v10),(yZ,.func (.func 195) #[] #[]),(ze,.func (.func 199) #[] #[]),(zf,.func (.func 201) #[] #[]),(zg,.func (.func 202) #[] #[]),(zh,.func (.func 206) #[] #[]),(zi,.func (.func 209) #[] #[])]) hC (by simp;try decide),?_⟩;exact FK (by decide) p7 λws=>by unfold wK;first|rfl|(simp;done)|decide
 by_cases e8:s=zN
 ·subst e8;left;refine⟨_,Bh (l:=[(zF,v0),(zG,v1),(zH,v2),(zI,v3),(zJ,v4),(zK,v5),(zL,v6),(zM,v7)]) (r:=[(zO,v9),(zP,v10),(yZ,.func (.func 195) #[] #[]),(ze,.func (.func 199) #[] #[]),(zf,.func (.func 201) #[] #[]),(zg,.func (.func 202) #[] #[]),(zh,.func (.func 206) #[] #[]),(zi,.func (.func 209) #[] #[])]) hC (by simp;try decide),?_⟩;exact FK (by decide) p8 λws=>by unfold wK;first|rfl|(simp;done)|decide
 by_cases e9:s=zO
 ·subst e9;left;refine⟨_,Bh (l:=[(zF,v0),(zG,v1),(zH,v2),(zI,v3),(zJ,v4),(zK,v5),(zL,v6),(zM,v7),(zN,v8)]) (r:=[(zP,v10),(yZ,.func (.func 195) #[] #[]),(ze,.func (.func 199) #[] #[]),(zf,.func (.func 201) #[] #[]),(zg,.func (.func 202) #[] #[]),(zh,.func (.func 206) #[] #[]),(zi,.func (.func 209) #[] #[])]) hC (by simp;try decide),?_⟩;exact FK (by decide) p9 λws=>by unfold wK;first|rfl|(simp;done)|decide
 by_cases e10:s=zP
 ·subst e10;left;refine⟨_,Bh (l:=[(zF,v0),(zG,v1),(zH,v2),(zI,v3),(zJ,v4),(zK,v5),(zL,v6),(zM,v7),(zN,v8),(zO,v9)]) (r:=[(yZ,.func (.func 195) #[] #[]),(ze,.func (.func 199) #[] #[]),(zf,.func (.func 201) #[] #[]),(zg,.func (.func 202) #[] #[]),(zh,.func (.func 206) #[] #[]),(zi,.func (.func 209) #[] #[])]) hC (by simp;try decide),?_⟩;exact FK (by decide) p10 λws=>by unfold wK;first|rfl|(simp;done)|decide
 by_cases e11:s=yZ
 ·subst e11;left;refine⟨_,Bh (l:=[(zF,v0),(zG,v1),(zH,v2),(zI,v3),(zJ,v4),(zK,v5),(zL,v6),(zM,v7),(zN,v8),(zO,v9),(zP,v10)]) (r:=[(ze,.func (.func 199) #[] #[]),(zf,.func (.func 201) #[] #[]),(zg,.func (.func 202) #[] #[]),(zh,.func (.func 206) #[] #[]),(zi,.func (.func 209) #[] #[])]) hC (by simp;try decide),?_⟩;refine⟨_,_,rfl,enters func195 rfl rfl,λW B ws hg hB hW=>?_⟩;have hs:wK yZ ws=CK ws:=by unfold wK;first|rfl|(simp;done)
  rw[hs];exact awJ hW
 by_cases e12:s=ze
 ·subst e12;left;refine⟨_,Bh (l:=[(zF,v0),(zG,v1),(zH,v2),(zI,v3),(zJ,v4),(zK,v5),(zL,v6),(zM,v7),(zN,v8),(zO,v9),(zP,v10),(yZ,.func (.func 195) #[] #[])]) (r:=[(zf,.func (.func 201) #[] #[]),(zg,.func (.func 202) #[] #[]),(zh,.func (.func 206) #[] #[]),(zi,.func (.func 209) #[] #[])]) hC (by simp;try decide),?_⟩;refine⟨_,_,rfl,enters func199 rfl rfl,λW B ws hg hB hW=>?_⟩;have hs:wK ze ws=DI ws:=by unfold wK;first|rfl|(simp;done)
  rw[hs];exact awK hW
 by_cases e13:s=zf
 ·subst e13;left;refine⟨_,Bh (l:=[(zF,v0),(zG,v1),(zH,v2),(zI,v3),(zJ,v4),(zK,v5),(zL,v6),(zM,v7),(zN,v8),(zO,v9),(zP,v10),(yZ,.func (.func 195) #[] #[]),(ze,.func (.func 199) #[] #[])]) (r:=[(zg,.func (.func 202) #[] #[]),(zh,.func (.func 206) #[] #[]),(zi,.func (.func 209) #[] #[])]) hC (by simp;try decide),?_⟩;refine⟨_,_,rfl,enters func201 rfl rfl,λW B ws hg hB hW=>?_⟩;have hs:wK zf ws=DJ ws:=by unfold wK;first|rfl|(simp;done)
  rw[hs];exact awL hW
 by_cases e14:s=zg
 ·subst e14;left;refine⟨_,Bh (l:=[(zF,v0),(zG,v1),(zH,v2),(zI,v3),(zJ,v4),(zK,v5),(zL,v6),(zM,v7),(zN,v8),(zO,v9),(zP,v10),(yZ,.func (.func 195) #[] #[]),(ze,.func (.func 199) #[] #[]),(zf,.func (.func 201) #[] #[])]) (r:=[(zh,.func (.func 206) #[] #[]),(zi,.func (.func 209) #[] #[])]) hC (by simp;try decide),?_⟩;refine⟨_,_,rfl,enters func202 rfl rfl,λW B ws hg hB hW=>?_⟩;have hs:wK zg ws=yQ ws:=by unfold wK;first|rfl|(simp;done)
  rw[hs];exact awO hW
 by_cases e15:s=zh
 ·subst e15;left;refine⟨_,Bh (l:=[(zF,v0),(zG,v1),(zH,v2),(zI,v3),(zJ,v4),(zK,v5),(zL,v6),(zM,v7),(zN,v8),(zO,v9),(zP,v10),(yZ,.func (.func 195) #[] #[]),(ze,.func (.func 199) #[] #[]),(zf,.func (.func 201) #[] #[]),(zg,.func (.func 202) #[] #[])]) (r:=[(zi,.func (.func 209) #[] #[])]) hC (by simp;try decide),?_⟩;refine⟨_,_,rfl,enters func206 rfl rfl,λW B ws hg hB hW=>?_⟩;have hs:wK zh ws=some (.clear,ws):=by unfold wK;first|rfl|(simp;done)
  rw[hs];exact awM hW
 by_cases e16:s=zi
 ·subst e16;left;refine⟨_,Bh (l:=[(zF,v0),(zG,v1),(zH,v2),(zI,v3),(zJ,v4),(zK,v5),(zL,v6),(zM,v7),(zN,v8),(zO,v9),(zP,v10),(yZ,.func (.func 195) #[] #[]),(ze,.func (.func 199) #[] #[]),(zf,.func (.func 201) #[] #[]),(zg,.func (.func 202) #[] #[]),(zh,.func (.func 206) #[] #[])]) (r:=[]) hC (by simp;try decide),?_⟩;refine⟨_,_,rfl,enters func209 rfl rfl,λW B ws hg hB hW=>?_⟩;have hs:wK zi ws=some (.sticky,ws):=by unfold wK;first|rfl|(simp;done)
  rw[hs];exact awN hW
 right;refine⟨awX hC (by simp[ajv];exact⟨e0,e1,e2,e3,e4,e5,e6,e7,e8,e9,e10,e11,e12,e13,e14,e15,e16⟩),λws=>by unfold wK;simp[e0,e1,e2,e3,e4,e5,e6,e7,e8,e9,e10,e11,e12,e13,e14,e15,e16]⟩
end Go.Proofs.YtippohicjhilnaaGreatDoor.Sp
