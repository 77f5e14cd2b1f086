import Derived.Test.YtippohicjhilnaaGreatDoorWNTn
import Derived.Test.YtippohicjhilnaaGreatDoorZ3Tn
import Derived.Test.YtippohicjhilnaaGreatDoorZ5Tn
import Derived.Recover
import Derived.Lib.BufferOwn
import Derived.Defers
import Derived.Lib.ConvBytes
import Derived.Deep.RegionHeld3
import Derived.Deep.RegionWith
import Derived.MapKept
import Derived.WideMake
import Derived.Laws.Pointers
set_option linter.unusedSimpArgs false
set_option linter.unusedVariables false
set_option maxRecDepth 100000
set_option maxHeartbeats 4000000
open Go.Proofs.Tryz
namespace Go.Proofs.YtippohicjhilnaaGreatDoor.Sp
open Go.RowKit Go.Shelf FlagM
open Go.Lib (grownBy_trans grownBy_below grownBy_allocR)
attribute [local go_sem] Oper.semAt_some
abbrev Kc:Ending:=.panicked [{ v:=.iface 38 (.int .i64 3),recovered:=false }]
theorem aeh (w:World):Calls prog 139 #[.bool true] w λe w'=>(∃ v,e = .returned v)/\w=w':=by
 go_enter func139,ntmps139
 go_wp2
 go_end0
 exact⟨⟨_,rfl⟩,rfl⟩
theorem alo (w:World):Calls prog 139 #[.bool false] w λe w'=>e=Kc/\w=w':=by
 go_enter func139,ntmps139
 go_wp2
 simp[bodyPost]
theorem Sm (w:World) (b:Bool) (h:b=false):Calls prog 139 #[.bool b] w λe w'=>e=Kc/\w=w':=by rw[h];exact alo w
theorem U5 (w:World) (b:Bool) (h:b=true):Calls prog 139 #[.bool b] w λe w'=>(∃ v,e = .returned v)/\w=w':=by rw[h];exact aeh w
theorem zV {P:Program} {fn:Func} {Post:Ending->World->Prop} {c:List PanicEntry} {t:Array Value} {w:World} (h:Post (.panicked c) w):bodyPost P fn Post (Exit.panic c) { tmps:=t,defers:=[] } w:=by simp only[bodyPost];exact⟨trivial,h⟩
theorem ayF (w:World) (B bk o c n:Nat) (s:ByteArray) (hl:w.cell? ⟨B,0,none⟩=some (.slice (some ⟨bk,o,none⟩) (n+1) c)) (hz:w.frozen? ⟨B,0,none⟩=false) (hs:w.cell? ⟨bk,o,none⟩=some (.string s)) (hc:n+1<=c) (hc2:c<=4611686018427387904) :
  Calls prog 256 #[.pointer (some ⟨B,0,none⟩)] w λe w'=>e = .returned (.string s)/\∃ o' c',(0<n->o'=o+1)/\n<=c'/\c'<=c/\w'=w.setCell ⟨B,0,none⟩ (.slice (some ⟨bk,o',none⟩) n c'):=by
 have q1:(0:Int)<((n+1:Nat):Int):=by omega
 go_enter func256,ntmps256
 go_wp2_with (go_at_call 139;first|(with_reducible refine(aeh _).mono ?_);rintro e w' ⟨⟨v,rfl⟩,rfl⟩)
 ·go_ret
  exact⟨rfl,o,by omega,0,by omega,by omega,rfl⟩
 ·go_ret
  exact⟨rfl,o+1,λ_=>rfl,c-1,by omega,by omega,rfl⟩
theorem ayG (w:World) (B c:Nat) (ad:Option Addr) (hl:w.cell? ⟨B,0,none⟩=some (.slice ad 0 c)) :
  Calls prog 256 #[.pointer (some ⟨B,0,none⟩)] w λe w'=>e=Kc/\w=w':=by
 go_enter func256,ntmps256
 go_wp2_with (go_at_call 139;(with_reducible refine(alo _).mono ?_);rintro e w' ⟨rfl,rfl⟩)
 simp[bodyPost]
abbrev tW:TypeId:=212
def yh (w:World) (B:Nat) (ws:List ByteArray):Prop :=
 ∃ bk o c,Boxed w B tW (.slice (some ⟨bk,o,none⟩) ws.length c)/\ws.length<=c/\c<=4611686018427387904/\bk<B/\∀ j s,ws[j]? = some s->w.cell? ⟨bk,o+j,none⟩=some (.string s)
theorem yh.kept {A w:World} {B:Nat} {ws:List ByteArray} {row:Option Nat} (h:yh A B ws) (hg:A.grownBy w row) (hr:∀ k,row=some k->B<k):yh w B ws:=by obtain⟨bk,o,c,h1,h2,h3,h4,h5⟩:=h;have hB:=h1.lt;refine⟨bk,o,c,h1.kept hg (λe=>by have:=hr _ e.symm;omega),h2,h3,h4,λj s hs=>hg.cell (h5 j s hs) (λe=>?_)⟩;have:=hr _ e.symm;simp only at this;omega
theorem aei {w:World} {B:Nat} {s:ByteArray} {ws:List ByteArray} (h:yh w B (s::ws)) :
  Calls prog 256 #[.pointer (some ⟨B,0,none⟩)] w λe w'=>e = .returned (.string s)/\yh w' B ws/\w.grownBy w' (some B):=by
 obtain⟨bk,o,c,h1,h2,h3,h4,h5⟩:=h;refine(ayF w B bk o c ws.length s (by simpa using h1.cell) h1.frozen (by simpa using h5 0 s rfl) (by simpa using h2) h3).mono ?_;rintro e w' ⟨he,o',c',ho,hc1,hc2,rfl⟩;refine⟨he,⟨bk,o',c',h1.set _,hc1,by omega,h4,λj t ht=>?_⟩,grownBy_setCell' _ _ _⟩;have hj:0<ws.length:=by have:=(List.getElem?_eq_some_iff.1 ht).1;omega
 rw[ho hj];have:=h5 (j+1) t (by simpa using ht);rw[show o+1+j=o+(j+1) by omega];exact(grownBy_setCell' w B _).cell this (by simp;omega)
theorem alp {w:World} {B:Nat} (h:yh w B []):Calls prog 256 #[.pointer (some ⟨B,0,none⟩)] w λe w'=>e=Kc/\w=w':=by obtain⟨bk,o,c,h1,h2,h3,h4,h5⟩:=h;exact ayG w B c _ (by simpa using h1.cell)
theorem alq (s:ByteArray):∀ (zs:List ByteArray) (i:Nat),Lib.idxFromS zs s i<((i+zs.length:Nat):Int)\/zs = []/\Lib.idxFromS zs s i = -1
 | [],i=>.inr ⟨rfl,rfl⟩
 | z::zs,i=>by
  left;unfold Lib.idxFromS;split
  ·simp;omega
  ·rcases alq s zs (i+1) with h|⟨rfl,h⟩
   ·simp only[List.length_cons];omega
   ·rw[h];omega
theorem alr (zs:List ByteArray) (s:ByteArray):Lib.idxOfS zs s<((zs.length+1:Nat):Int):=by
 rcases alq s zs 0 with h|⟨_,h⟩
 ·unfold Lib.idxOfS;omega
 ·unfold Lib.idxOfS;omega
def Sn (w:World) (b:Nat) (zs:List ByteArray):Prop:=b<w.heap.size/\∀ j,j<zs.length->w.cell? ⟨b,0+j,none⟩=some (.string (zs.getD j ByteArray.empty))
theorem Sn.kept {A w:World} {b:Nat} {zs:List ByteArray} {row:Option Nat} (h:Sn A b zs) (hg:A.grownBy w row) (hr:some b≠row):Sn w b zs :=
 ⟨Nat.lt_of_lt_of_le h.1 hg.size,λj hj=>hg.cell (h.2 j hj) hr⟩
theorem ayH {w:World} {B:Nat} {s:ByteArray} {ws:List ByteArray} (h:yh w B (s::ws)) (b:Nat) (zs:List ByteArray) (hz:zs.length<=5) (hl:Sn w b zs) (hb:B<b) :
  Calls prog 203 #[.pointer (some ⟨B,0,none⟩),.slice (some ⟨b,0,none⟩) zs.length zs.length] w λe w' =>
   ((0<=Lib.idxOfS zs s/\e = .returned (.int .u8 (Lib.idxOfS zs s))/\yh w' B ws)\/(Lib.idxOfS zs s<0/\e=Kc))/\w.grownBy w' (some B):=by
 have hx:=alr zs s;have H:=Lib.hid (aei h);have HL:=Lib.hid (λW (hg:w.grownBy W (some B))=>hl.kept hg (λe=>by have:=Option.some.inj e;omega));by_cases hi:0<=Lib.idxOfS zs s
 ·generalize hk:Lib.idxOfS zs s=k at hi hx;have q1:k>=0:=hi;have q2:k%256=k:=by omega
  go_enter func203,ntmps203
  go_wp2_with (first|(go_at_call 256;refine H.out.mono ?_;rintro e w1 ⟨rfl,hW,hg⟩;have hL:=HL.out _ hg;have HI:=Lib.hid (Tryz.slices_Index_string b 0 zs.length zs.length zs s w1 (Nat.le_refl _) (by omega) hL.2))|(go_at_call 258;refine HI.out.mono ?_;rintro e w2 ⟨rfl,rfl⟩;rw[List.take_length,hk])|(go_at_call 139;refine(aeh _).mono ?_;rintro e w3 ⟨⟨v,rfl⟩,rfl⟩))
  go_ret
  exact⟨.inl ⟨hi,rfl,hW⟩,hg⟩
 ·generalize hk:Lib.idxOfS zs s=k at hi hx;have q1:¬ k>=0:=hi
  go_enter func203,ntmps203
  go_wp2_with (first|(go_at_call 256;refine H.out.mono ?_;rintro e w1 ⟨rfl,hW,hg⟩;have hL:=HL.out _ hg;have HI:=Lib.hid (Tryz.slices_Index_string b 0 zs.length zs.length zs s w1 (Nat.le_refl _) (by omega) hL.2))|(go_at_call 258;refine HI.out.mono ?_;rintro e w2 ⟨rfl,rfl⟩;rw[List.take_length,hk])|(go_at_call 139;refine(Sm _ _ (by simp;omega)).mono ?_;rintro e w3 ⟨rfl,rfl⟩))
  exact zV ⟨.inr ⟨by omega,rfl⟩,hg⟩
theorem ayI {w:World} {B:Nat} (h:yh w B []) (v:Value):Calls prog 203 #[.pointer (some ⟨B,0,none⟩),v] w λe w'=>e=Kc/\w=w':=by
 have H:=Lib.hid (alp h)
 go_enter func203,ntmps203
 go_wp2_with (go_at_call 256;refine H.out.mono ?_;rintro e w1 ⟨rfl,rfl⟩)
 exact zV ⟨rfl,rfl⟩
def ym (zs:List ByteArray):List ByteArray->Option (Int×List ByteArray)
 | []=>none
 | s::ws=>if 0<=Lib.idxOfS zs s then some (Lib.idxOfS zs s,ws) else none
def HV {α:Type} (enc:α->Value) (w:World) (B:Nat) (r:Option (α×List ByteArray)) (e:Ending) (w':World):Prop :=
 (match r with
  | some (a,ws)=>e = .returned (enc a)/\yh w' B ws
  | none=>e=Kc)/\w.grownBy w' (some B)
theorem aej {w:World} {B:Nat} {ws:List ByteArray} (h:yh w B ws) (b:Nat) (zs:List ByteArray) (hz:zs.length<=5) (hl:Sn w b zs) (hb:B<b) :
  Calls prog 203 #[.pointer (some ⟨B,0,none⟩),.slice (some ⟨b,0,none⟩) zs.length zs.length] w (HV (λk=>.int .u8 k) w B (ym zs ws)):=by
 match ws,h with
 | [],h=>exact(ayI h _).mono λe w' ⟨h1,h2⟩=>⟨h1,h2▸World.grownBy.refl w _⟩
 | s::ws,h =>
  refine(ayH h b zs hz hl hb).mono λe w' ⟨h1,h2⟩=>⟨?_,h2⟩
  rcases h1 with⟨h3,h4,h5⟩|⟨h3,h4⟩
  ·rw[ym,if_pos h3];exact⟨h4,h5⟩
  ·rw[ym,if_neg (by omega)];exact h4
theorem yh.alloc {w:World} {B:Nat} {ws:List ByteArray} (h:yh w B ws) (o:Obj):yh (w.alloc o) B ws:=h.kept (World.grownBy_alloc w o none) (by simp)
theorem yh.lt {w:World} {B:Nat} {ws:List ByteArray} (h:yh w B ws):B<w.heap.size:=by obtain⟨_,_,_,h1,_⟩:=h;exact h1.lt
def A8:List ByteArray:=[⟨#[98,49,54]⟩,⟨#[98,51,50]⟩,⟨#[98,54,52]⟩,⟨#[98,49,50,56]⟩]
def Gr:List ByteArray:=[⟨#[105,51,50]⟩,⟨#[117,51,50]⟩,⟨#[105,54,52]⟩,⟨#[117,54,52]⟩]
theorem aek (w:World) (zs:List ByteArray) (t:TypeId):Sn (w.alloc (.cells (zs.map Value.string).toArray t)) w.heap.size zs:=by refine⟨by simp,λj hj=>?_⟩;have h:(w.alloc (.cells (zs.map Value.string).toArray t)).heap[w.heap.size]? = some (.cells (zs.map Value.string).toArray t):=World.alloc_heap_new _ _;simp only[World.cell?,Nat.zero_add,h];simp[hj]
theorem ael {α:Type} {enc:α->Value} {w w1 w':World} {B:Nat} {r:Option (α×List ByteArray)} {e:Ending} (h:HV enc w1 B r e w') (hg:w.grownBy w1 (some B)):HV enc w B r e w':=⟨h.1,grownBy_trans hg h.2⟩
theorem C9 {w:World} {B:Nat} {ws:List ByteArray} (h:yh w B ws):Calls prog 197 #[.pointer (some ⟨B,0,none⟩)] w (HV (λk=>.int .u8 k) w B (ym A8 ws)):=by
 have H:=Lib.hid (aej (h.alloc (.cells (A8.map Value.string).toArray 9)) w.heap.size A8 (by decide) (aek w A8 _) h.lt);have hg0:w.grownBy (w.alloc (.cells (A8.map Value.string).toArray 9)) (some B):=World.grownBy_alloc _ _ _
 cases ho:ym A8 ws with
 | none =>
  rw[ho] at H
  go_enter func197,ntmps197
  go_wp2_with (go_at_call 203;refine H.out.mono ?_;rintro e w1 ⟨rfl,hg⟩)
  exact zV ⟨rfl,grownBy_trans hg0 hg⟩
 | some r =>
  obtain⟨k,ws'⟩:=r;rw[ho] at H
  go_enter func197,ntmps197
  go_wp2_with (go_at_call 203;refine H.out.mono ?_;rintro e w1 ⟨⟨rfl,hW⟩,hg⟩)
  go_ret
  exact⟨⟨rfl,hW⟩,grownBy_trans hg0 hg⟩
theorem NU {w:World} {B:Nat} {ws:List ByteArray} (h:yh w B ws):Calls prog 200 #[.pointer (some ⟨B,0,none⟩)] w (HV (λk=>.int .u8 k) w B (ym Gr ws)):=by
 have H:=Lib.hid (aej (h.alloc (.cells (Gr.map Value.string).toArray 9)) w.heap.size Gr (by decide) (aek w Gr _) h.lt);have hg0:w.grownBy (w.alloc (.cells (Gr.map Value.string).toArray 9)) (some B):=World.grownBy_alloc _ _ _
 cases ho:ym Gr ws with
 | none =>
  rw[ho] at H
  go_enter func200,ntmps200
  go_wp2_with (go_at_call 203;refine H.out.mono ?_;rintro e w1 ⟨rfl,hg⟩)
  exact zV ⟨rfl,grownBy_trans hg0 hg⟩
 | some r =>
  obtain⟨k,ws'⟩:=r;rw[ho] at H
  go_enter func200,ntmps200
  go_wp2_with (go_at_call 203;refine H.out.mono ?_;rintro e w1 ⟨⟨rfl,hW⟩,hg⟩)
  go_ret
  exact⟨⟨rfl,hW⟩,grownBy_trans hg0 hg⟩
def NV:ByteArray:=⟨#[48,49,50,51,52,53,54,55,56,57,97,98,99,100,101,102]⟩
def Sq (c:UInt8):Int:=Lib.indexByte NV.data.toList c
theorem als (c:UInt8):(((c.toNat:Nat):Int).toNat).toUInt8=c:=by simp
def Dt (b:Int×Int) (c:UInt8):Option (Int×Int):=if 0<=Sq c then some (bits .or .u64 (IntKind.u64.wrap (b.1*16)) (b.2/1152921504606846976),bits .or .u64 (IntKind.u64.wrap (b.2*16)) (IntKind.u64.wrap (Sq c))) else none
def alu (ws:List ByteArray):Option (Int×Int)->Option ((Int×Int)×List ByteArray)
 | some b=>some (b,ws)
 | none=>none
def Cm:List ByteArray->Option ((Int×Int)×List ByteArray)
 | []=>none
 | s::ws=>if s.size<=32 then alu ws (s.data.toList.foldlM Dt (0,0)) else none
abbrev Yn (b:Int×Int):Value:=.agg #[.int .u64 b.1,.int .u64 b.2]
theorem ayJ (w:World) (e:TypeId) (s:ByteArray) (row:Option Nat):w.grownBy (Lib.bytesWorld w e s) row :=
 ⟨rfl,by simp[Lib.bytesWorld,World.freeze],rfl,by rw[Lib.bytesWorld_size];omega,λk hk _=>Lib.bytesWorld_at_old w e s k hk⟩
theorem set2 {w:World} {b:Nat} {a0 a1:Value} {t:TypeId} (h:w.heap[b]? = some (.cells #[a0,a1] t)) (v0 v1:Value):((w.setCell ⟨b,0,none⟩ v0).setCell ⟨b,1,none⟩ v1).heap[b]? = some (.cells #[v0,v1] t):=by
 have h1:(w.setCell ⟨b,0,none⟩ v0).heap[b]? = some (.cells #[v0,a1] t):=by show(w.heap.modify b _)[b]? = _;rw[Array.getElem?_modify,if_pos rfl,h];rfl
 show((w.setCell ⟨b,0,none⟩ v0).heap.modify b _)[b]? = _;rw[Array.getElem?_modify,if_pos rfl,h1];rfl
theorem yQ (w:World) (b i:Nat) (v:Value):w.grownBy (w.setCell ⟨b,i,none⟩ v) (some b) :=
 ⟨rfl,rfl,rfl,by show _<=(w.heap.modify b _).size;simp,λk hk hne=>by
  show(w.heap.modify b _)[k]? = _
  rw[Array.getElem?_modify,if_neg (λe=>hne (by rw[e]))]⟩
theorem aem (w:World) (b:Nat) (v0 v1:Value):w.grownBy ((w.setCell ⟨b,0,none⟩ v0).setCell ⟨b,1,none⟩ v1) (some b) :=
 grownBy_trans (yQ _ _ _ _) (yQ _ _ _ _)
theorem NW {A X Y:World} {r:Option Nat} {n:Nat} (h1:A.grownBy X r) (h2:X.grownBy Y (some n)) (hn:A.heap.size<=n):A.grownBy Y r :=
 ⟨h2.os.trans h1.os,h2.tape.trans h1.tape,h2.output.trans h1.output,Nat.le_trans h1.size h2.size,λk hk hne=>(h2.block k (Nat.lt_of_lt_of_le hk h1.size) (by simp;omega)).trans (h1.block k hk hne)⟩
theorem ayK (l:List UInt8) (k:Nat) (h:k<l.length) (b:Int×Int) (hb:(l.take k).foldlM Dt (0,0)=some b):(l.take (k+1)).foldlM Dt (0,0)=Dt b (l.getD k 0):=by rw[List.take_succ_eq_append_getElem h,List.foldlM_append,hb];simp[h]
theorem ayL (l:List UInt8) (k:Nat) (h:(l.take k).foldlM Dt (0,0)=none):l.foldlM Dt (0,0)=none:=by have:=List.take_append_drop k l;rw[<- this,List.foldlM_append,h];rfl
theorem ayM {w:World} {B:Nat} {s:ByteArray} {ws:List ByteArray} (h:yh w B (s::ws)) (hs:s.size<=32) :
  Calls prog 198 #[.pointer (some ⟨B,0,none⟩)] w (HV Yn w B (alu ws (s.data.toList.foldlM Dt (0,0)))):=by
 have hB:=h.lt;have hlen:s.data.toList.length=s.size:=by show s.data.toList.length=s.data.size;exact Array.length_toList
 have H:=Lib.hid (aei (h.alloc (.cells #[.int .u64 0,.int .u64 0] 25)));have hcv:∀ (w:World) (s:ByteArray),(convert 9 105 (.string s)).run prog w = .ok (.slice (some ⟨w.heap.size,0,none⟩) s.size (grownCap w s.size 0 5)) (Lib.bytesWorld w 5 s):=λw s=>Lib.run_convert_string_bytes w _ _ _ s underlying9 underlying105 underlying5
 have hg00:w.grownBy (w.alloc (.cells #[.int .u64 0,.int .u64 0] 25)) (some B):=World.grownBy_alloc _ _ _;generalize hFo:s.data.toList.foldlM Dt (0,0)=fo;have HFo:=Lib.hid hFo;clear hFo
 go_enter func198,ntmps198
 go_wp2_with (first|(go_at_call 256;refine H.out.mono ?_;rintro e w1 ⟨rfl,hW,hg⟩)|(go_at_call 139;refine(U5 _ _ (by first|rfl|(simp;omega))).mono ?_;rintro e w3 ⟨⟨v,rfl⟩,rfl⟩))
 have hz:=hg.size;simp at hz;have hR:(w1.alloc (.cells #[.int .u64 0,.int .u64 0] 25)).heap[w1.heap.size]? = some (.cells #[.int .u64 0,.int .u64 0] 25):=World.alloc_heap_new _ _;have hgb:=ayJ (w1.alloc (.cells #[.int .u64 0,.int .u64 0] 25)) 5 s none;have hcb:=λj hj=>Lib.bytesWorld_cell (w1.alloc (.cells #[.int .u64 0,.int .u64 0] 25)) 5 s j hj
 have hw2:(w1.alloc (.cells #[.int .u64 0,.int .u64 0] 25)).heap.size=w1.heap.size+1:=by simp
 have hgc:w1.grownBy (w1.alloc (.cells #[.int .u64 0,.int .u64 0] 25)) none:=World.grownBy_alloc _ _ _;generalize w1.alloc (.cells #[.int .u64 0,.int .u64 0] 25)=w2 at *
 generalize Lib.bytesWorld w2 5 s=w3 at *
 have hzb:=hgb.size;have hG3:w.grownBy w3 (some B):=grownBy_trans hg00 (grownBy_trans hg (grownBy_trans ⟨hgc.os,hgc.tape,hgc.output,hgc.size,λk hk _=>hgc.block k hk (by simp)⟩ ⟨hgb.os,hgb.tape,hgb.output,hgb.size,λk hk _=>hgb.block k hk (by simp)⟩));have hW3:yh w3 B ws:=(hW.kept hgc (by simp)).kept hgb (by simp)
 go_loopw [17] (λi wr=>∃ k:Nat,k<=s.size/\i = .int .i64 (k:Int)/\∃ hi lo:Int,wr.heap[w1.heap.size]? = some (.cells #[.int .u64 hi,.int .u64 lo] 25)/\(s.data.toList.take k).foldlM Dt (0,0)=some (hi,lo)/\w3.grownBy wr (some w1.heap.size)) (λi _=>s.size-(intOf i).toNat)
 case atStart=>exact⟨0,Nat.zero_le _,rfl,0,0,(hgb.block _ (by omega) (by simp)).trans hR,rfl,World.grownBy.refl _ _⟩
 case round =>
  obtain⟨k,hk,rfl,hi,lo,hR1,hfo,hgr⟩:=hrel;have c0:wr.cell? ⟨w1.heap.size,0,none⟩=some (.int .u64 hi):=by simp[World.cell?,hR1]
  have c1:wr.cell? ⟨w1.heap.size,1,none⟩=some (.int .u64 lo):=by simp[World.cell?,hR1]
  have HG:=Lib.hid (NW hG3 hgr (by omega));have HW:=Lib.hid (hW3.kept hgr (λk e=>by have:=Option.some.inj e;omega));have HF:=Lib.hid hfo;by_cases hlt:k<s.size
  ·have hcx:wr.cell? ⟨w1.heap.size+1,k,none⟩=some (.int .u8 ((s.data.toList.getD k 0).toNat:Int)):=by rw[<- hw2];exact hgr.cell (hcb k hlt) (by simp;omega)
   have HS:=Lib.hid (ayK s.data.toList k (by omega) _ hfo);clear hfo;generalize s.data.toList.getD k 0=x at hcx HS;have q1:(k:Int)<(s.size:Int):=by omega
   have z0:wr.frozen? ⟨w1.heap.size,0,none⟩=false:=by simp[World.frozen?,hR1]
   have z1:wr.frozen? ⟨w1.heap.size,1,none⟩=false:=by simp[World.frozen?,hR1]
   have HIx:=Lib.hid (λW=>Tryz.strings_IndexByte NV (x.toNat:Int) W);by_cases hd:0<=Sq x
   ·go_wp2_with (first|(go_at_call 257;refine(HIx.out _).mono ?_;rintro e w5 ⟨rfl,rfl⟩;rw[als];have hdx:Lib.indexByte NV.data.toList x=Sq x:=rfl;rw[hdx])|(go_at_call 139;refine(U5 _ _ (by first|rfl|(simp;omega))).mono ?_;rintro e w6 ⟨⟨v,rfl⟩,rfl⟩))
    refine⟨⟨k+1,by omega,by simp,_,_,set2 hR1 _ _,?_,grownBy_trans hgr (aem _ _ _ _)⟩,by simp[intOf];omega⟩;rw[HS.out,Dt,if_pos hd]
   ·go_wp2_with (first|(go_at_call 257;refine(HIx.out _).mono ?_;rintro e w5 ⟨rfl,rfl⟩;rw[als];have hdx:Lib.indexByte NV.data.toList x=Sq x:=rfl;rw[hdx])|(go_at_call 139;refine(Sm _ _ (by first|rfl|(simp;omega))).mono ?_;rintro e w6 ⟨rfl,rfl⟩))
    refine zV ⟨?_,HG.out⟩
    have hn:fo=none:=by rw[<- HFo.out];refine ayL _ (k+1) ?_;rw[HS.out,Dt,if_neg (by omega)]
    rw[hn];exact rfl
  ·obtain rfl:k=s.size:=by omega
   have hRw:wr.heap[w.heap.size]? = some (.cells #[.int .u64 0,.int .u64 0] 25):=by rw[hgr.block _ (by omega) (by simp;omega),hgb.block _ (by omega) (by simp),hgc.block _ (by omega) (by simp),hg.block _ (by simp) (by simp;omega)];exact World.alloc_heap_new _ _
   have d0:wr.frozen? ⟨w.heap.size,0,none⟩=false:=by simp[World.frozen?,hRw]
   have d1:wr.frozen? ⟨w.heap.size,1,none⟩=false:=by simp[World.frozen?,hRw]
   have e0:wr.cell? ⟨w.heap.size,0,none⟩=some (.int .u64 0):=by simp[World.cell?,hRw]
   have e1:wr.cell? ⟨w.heap.size,1,none⟩=some (.int .u64 0):=by simp[World.cell?,hRw]
   have hfin:fo=some (hi,lo):=by rw[<- HFo.out,<- HF.out,<- hlen,List.take_length]
   have hset:=set2 hRw (.int .u64 hi) (.int .u64 lo);have hgs:=aem wr w.heap.size (.int .u64 hi) (.int .u64 lo)
   go_wp2
   generalize (wr.setCell ⟨w.heap.size,0,none⟩ (.int .u64 hi)).setCell ⟨w.heap.size,1,none⟩ (.int .u64 lo)=W6 at *
   have f0:W6.cell? ⟨w.heap.size,0,none⟩=some (.int .u64 hi):=by simp[World.cell?,hset]
   have f1:W6.cell? ⟨w.heap.size,1,none⟩=some (.int .u64 lo):=by simp[World.cell?,hset]
   refine bodyPost_ret (v:=Yn (hi,lo)) (by simp[results,results198,go_sem,f0,f1,Yn]) rfl ?_;rw[hfin];exact⟨⟨rfl,HW.out.kept hgs (λk e=>by have:=Option.some.inj e;omega)⟩,NW HG.out hgs (Nat.le_refl _)⟩
theorem Gs {w:World} {B:Nat} {ws:List ByteArray} (h:yh w B ws) :
  Calls prog 198 #[.pointer (some ⟨B,0,none⟩)] w (HV Yn w B (Cm ws)):=by
 match ws,h with
 | [],h =>
  have H:=Lib.hid (alp (h.alloc (.cells #[.int .u64 0,.int .u64 0] 25)));have hg0:w.grownBy (w.alloc (.cells #[.int .u64 0,.int .u64 0] 25)) (some B):=World.grownBy_alloc _ _ _
  go_enter func198,ntmps198
  go_wp2_with (go_at_call 256;refine H.out.mono ?_;rintro e w1 ⟨rfl,rfl⟩)
  exact zV ⟨rfl,hg0⟩
 | s::ws,h =>
  by_cases hs:s.size<=32
  ·rw[Cm,if_pos hs];exact ayM h hs
  ·rw[Cm,if_neg hs];have H:=Lib.hid (aei (h.alloc (.cells #[.int .u64 0,.int .u64 0] 25)));have hg0:w.grownBy (w.alloc (.cells #[.int .u64 0,.int .u64 0] 25)) (some B):=World.grownBy_alloc _ _ _
   go_enter func198,ntmps198
   go_wp2_with (first|(go_at_call 256;refine H.out.mono ?_;rintro e w1 ⟨rfl,hW,hg⟩)|(go_at_call 139;refine(Sm _ _ (by simp;omega)).mono ?_;rintro e w3 ⟨rfl,rfl⟩))
   exact zV ⟨rfl,grownBy_trans hg0 hg⟩
inductive xN where
 | op (o f t:Int) (a b c:Int×Int)
 | env (m t:Int)
 | clear
 | sticky
abbrev zH (o f t m i:Int) (a b c:Int×Int):Array Value:=#[.int .u8 o,.int .u8 f,.int .u8 t,.int .u8 m,.int .u8 i,.int .u64 a.1,.int .u64 a.2,.int .u64 b.1,.int .u64 b.2,.int .u64 c.1,.int .u64 c.2]
def EK (W:World) (a b:Nat) (v:Value):xN->Prop
 | .op o f t x y z=>∃ B,a<=B/\B<b/\v = .func (.func 254) #[] #[.pointer (some ⟨B,0,none⟩)]/\W.heap[B]? = some (.cells (zH o f t 0 0 x y z) 31)
 | .env m t=>∃ B1 B2 B3,a<=B1/\B1<b/\a<=B2/\B2<b/\a<=B3/\B3<b/\v = .func (.func 259) #[] #[.pointer (some ⟨B3,0,none⟩)]/\W.heap[B3]? = some (.cells #[.func (.func 205) #[] #[.pointer (some ⟨B1,0,none⟩),.pointer (some ⟨B2,0,none⟩)]] 283) /\
   W.heap[B1]? = some (.cells #[.int .u8 m] 5)/\W.heap[B2]? = some (.cells #[.int .u8 t] 5)
 | .clear=>∃ B,a<=B/\B<b/\v = .func (.func 259) #[] #[.pointer (some ⟨B,0,none⟩)]/\W.heap[B]? = some (.cells #[.func (.func 207) #[] #[]] 283)
 | .sticky=>v = .func (.func 210) #[] #[]
theorem EK.kept {W X:World} {a b:Nat} {v:Value} {c:xN} (h:EK W a b v c) (hX:∀ k,a<=k->k<b->X.heap[k]? = W.heap[k]?):EK X a b v c:=by
 cases c with
 | op o f t x y z=>obtain⟨B,h1,h2,h3,h4⟩:=h;exact⟨B,h1,h2,h3,(hX B h1 h2).trans h4⟩
 | env m t=>obtain⟨B1,B2,B3,h1,h2,h3,h4,h5,h6,h7,h8,h9,h10⟩:=h;exact⟨B1,B2,B3,h1,h2,h3,h4,h5,h6,h7,(hX B3 h5 h6).trans h8,(hX B1 h1 h2).trans h9,(hX B2 h3 h4).trans h10⟩
 | clear=>obtain⟨B,h1,h2,h3,h4⟩:=h;exact⟨B,h1,h2,h3,(hX B h1 h2).trans h4⟩
 | sticky=>exact h
theorem EK.wide {W:World} {a b a' b':Nat} {v:Value} {c:xN} (h:EK W a b v c) (ha:a'<=a) (hb:b<=b'):EK W a' b' v c:=by
 cases c with
 | op o f t x y z=>obtain⟨B,h1,h2,h3,h4⟩:=h;exact⟨B,by omega,by omega,h3,h4⟩
 | env m t=>obtain⟨B1,B2,B3,h1,h2,h3,h4,h5,h6,h7,h8,h9,h10⟩:=h;exact⟨B1,B2,B3,by omega,by omega,by omega,by omega,by omega,by omega,h7,h8,h9,h10⟩
 | clear=>obtain⟨B,h1,h2,h3,h4⟩:=h;exact⟨B,by omega,by omega,h3,h4⟩
 | sticky=>exact h
def IV (w:World) (B:Nat) (r:Option (xN×List ByteArray)) (e:Ending) (w':World):Prop :=
 (match r with
  | some (c,ws)=>(∃ v,e = .returned v/\EK w' w.heap.size w'.heap.size v c)/\yh w' B ws
  | none=>e=Kc)/\w.grownBy w' (some B)
theorem Yo (w:World) (o f t:Int) (a b c:Int×Int):Calls prog 196 #[.agg (zH o f t 0 0 a b c)] w λe w'=>e = .returned (.func (.func 254) #[] #[.pointer (some ⟨w.heap.size,0,none⟩)])/\w'=w.alloc (.cells (zH o f t 0 0 a b c) 31):=by
 go_enter func196,ntmps196
 go_wp2
 go_ret
 exact⟨rfl,rfl⟩
theorem alv (w:World) (f:Fn) (x y:Array Value):Calls prog 204 #[.func f x y] w λe w'=>e = .returned (.func (.func 259) #[] #[.pointer (some ⟨w.heap.size,0,none⟩)])/\w'=w.alloc (.cells #[.func f x y] 283):=by
 go_enter func204,ntmps204
 go_wp2
 go_ret
 exact⟨rfl,rfl⟩
theorem Yp {w w1:World} {B:Nat} {ws:List ByteArray} (hg:w.grownBy w1 (some B)) (hW:yh w1 B ws) (o f t:Int) (a b c:Int×Int) :
  IV w B (some (.op o f t a b c,ws)) (.returned (.func (.func 254) #[] #[.pointer (some ⟨w1.heap.size,0,none⟩)])) (w1.alloc (.cells (zH o f t 0 0 a b c) 31)):=by
 have hs:=hg.size;exact⟨⟨⟨_,rfl,w1.heap.size,hs,by simp,rfl,World.alloc_heap_new _ _⟩,hW.alloc _⟩,grownBy_allocR hg _⟩
def EB (ws:List ByteArray):Option (xN×List ByteArray) :=
 match ym A8 ws with
 | none=>none
 | some (f,ws1) =>
  match ym A8 ws1 with
  | none=>none
  | some (t,ws2) =>
   match Cm ws2 with
   | none=>none
   | some (a,ws3) =>
    some (.op 10 f t a (0,0) (0,0),ws3)
theorem ayN {w:World} {B:Nat} {ws:List ByteArray} (h:yh w B ws):Calls prog 195 #[.pointer (some ⟨B,0,none⟩)] w (IV w B (EB ws)):=by
 cases h1:ym A8 ws with
 | none =>
  have H1:=C9 h;rw[h1] at H1;have H1:=Lib.hid H1;have hsp:EB ws=none:=by simp[EB,h1]
  go_enter func195,ntmps195
  go_wp2_with (first|(go_at_call 197;refine H1.out.mono ?_;rintro e w1 ⟨rfl,hg1⟩))
  refine zV ?_;try rw[hsp]
  exact⟨rfl,hg1⟩
 | some r1 =>
  obtain⟨f,ws1⟩:=r1
  cases h2:ym A8 ws1 with
  | none =>
   have H1:=C9 h;rw[h1] at H1;have H1:=Lib.hid H1;have hsp:EB ws=none:=by simp[EB,h1,h2]
   go_enter func195,ntmps195
   go_wp2_with (first|(go_at_call 197;refine H1.out.mono ?_;rintro e w1 ⟨⟨rfl,hW1⟩,hg1⟩;have H2:=C9 hW1;rw[h2] at H2;have H2:=Lib.hid H2)|(go_at_call 197;refine H2.out.mono ?_;rintro e w2 ⟨rfl,hg2⟩))
   refine zV ?_;try rw[hsp]
   exact⟨rfl,grownBy_trans (hg1) hg2⟩
  | some r2 =>
   obtain⟨t,ws2⟩:=r2
   cases h3:Cm ws2 with
   | none =>
    have H1:=C9 h;rw[h1] at H1;have H1:=Lib.hid H1;have hsp:EB ws=none:=by simp[EB,h1,h2,h3]
    go_enter func195,ntmps195
    go_wp2_with (first|(go_at_call 197;refine H1.out.mono ?_;rintro e w1 ⟨⟨rfl,hW1⟩,hg1⟩;have H2:=C9 hW1;rw[h2] at H2;have H2:=Lib.hid H2)|(go_at_call 197;refine H2.out.mono ?_;rintro e w2 ⟨⟨rfl,hW2⟩,hg2⟩;have H3:=Gs hW2;rw[h3] at H3;have H3:=Lib.hid H3)|(go_at_call 198;refine H3.out.mono ?_;rintro e w3 ⟨rfl,hg3⟩))
    refine zV ?_;try rw[hsp]
    exact⟨rfl,grownBy_trans (grownBy_trans (hg1) hg2) hg3⟩
   | some r3 =>
    obtain⟨a,ws3⟩:=r3;have H1:=C9 h;rw[h1] at H1;have H1:=Lib.hid H1;have hsp:EB ws=some (.op 10 f t a (0,0) (0,0),ws3):=by simp[EB,h1,h2,h3]
    go_enter func195,ntmps195
    go_wp2_with (first|(go_at_call 197;refine H1.out.mono ?_;rintro e w1 ⟨⟨rfl,hW1⟩,hg1⟩;have H2:=C9 hW1;rw[h2] at H2;have H2:=Lib.hid H2)|(go_at_call 197;refine H2.out.mono ?_;rintro e w2 ⟨⟨rfl,hW2⟩,hg2⟩;have H3:=Gs hW2;rw[h3] at H3;have H3:=Lib.hid H3)|(go_at_call 198;refine H3.out.mono ?_;rintro e w3 ⟨⟨rfl,hW3⟩,hg3⟩)|(go_at_call 196;refine(Yo _ 10 f t a (0,0) (0,0)).mono ?_;rintro e w9 ⟨rfl,rfl⟩))
    go_ret
    try rw[hsp]
    exact Yp (grownBy_trans (grownBy_trans (hg1) hg2) hg3) hW3 10 f t a (0,0) (0,0)
def Fy (ws:List ByteArray):Option (xN×List ByteArray) :=
 match ym A8 ws with
 | none=>none
 | some (f,ws1) =>
  match ym Gr ws1 with
  | none=>none
  | some (t,ws2) =>
   match Cm ws2 with
   | none=>none
   | some (a,ws3) =>
    some (.op 11 f t a (0,0) (0,0),ws3)
theorem ayO {w:World} {B:Nat} {ws:List ByteArray} (h:yh w B ws):Calls prog 199 #[.pointer (some ⟨B,0,none⟩)] w (IV w B (Fy ws)):=by
 cases h1:ym A8 ws with
 | none =>
  have H1:=C9 h;rw[h1] at H1;have H1:=Lib.hid H1;have hsp:Fy ws=none:=by simp[Fy,h1]
  go_enter func199,ntmps199
  go_wp2_with (first|(go_at_call 197;refine H1.out.mono ?_;rintro e w1 ⟨rfl,hg1⟩))
  refine zV ?_;try rw[hsp]
  exact⟨rfl,hg1⟩
 | some r1 =>
  obtain⟨f,ws1⟩:=r1
  cases h2:ym Gr ws1 with
  | none =>
   have H1:=C9 h;rw[h1] at H1;have H1:=Lib.hid H1;have hsp:Fy ws=none:=by simp[Fy,h1,h2]
   go_enter func199,ntmps199
   go_wp2_with (first|(go_at_call 197;refine H1.out.mono ?_;rintro e w1 ⟨⟨rfl,hW1⟩,hg1⟩;have H2:=NU hW1;rw[h2] at H2;have H2:=Lib.hid H2)|(go_at_call 200;refine H2.out.mono ?_;rintro e w2 ⟨rfl,hg2⟩))
   refine zV ?_;try rw[hsp]
   exact⟨rfl,grownBy_trans (hg1) hg2⟩
  | some r2 =>
   obtain⟨t,ws2⟩:=r2
   cases h3:Cm ws2 with
   | none =>
    have H1:=C9 h;rw[h1] at H1;have H1:=Lib.hid H1;have hsp:Fy ws=none:=by simp[Fy,h1,h2,h3]
    go_enter func199,ntmps199
    go_wp2_with (first|(go_at_call 197;refine H1.out.mono ?_;rintro e w1 ⟨⟨rfl,hW1⟩,hg1⟩;have H2:=NU hW1;rw[h2] at H2;have H2:=Lib.hid H2)|(go_at_call 200;refine H2.out.mono ?_;rintro e w2 ⟨⟨rfl,hW2⟩,hg2⟩;have H3:=Gs hW2;rw[h3] at H3;have H3:=Lib.hid H3)|(go_at_call 198;refine H3.out.mono ?_;rintro e w3 ⟨rfl,hg3⟩))
    refine zV ?_;try rw[hsp]
    exact⟨rfl,grownBy_trans (grownBy_trans (hg1) hg2) hg3⟩
   | some r3 =>
    obtain⟨a,ws3⟩:=r3;have H1:=C9 h;rw[h1] at H1;have H1:=Lib.hid H1;have hsp:Fy ws=some (.op 11 f t a (0,0) (0,0),ws3):=by simp[Fy,h1,h2,h3]
    go_enter func199,ntmps199
    go_wp2_with (first|(go_at_call 197;refine H1.out.mono ?_;rintro e w1 ⟨⟨rfl,hW1⟩,hg1⟩;have H2:=NU hW1;rw[h2] at H2;have H2:=Lib.hid H2)|(go_at_call 200;refine H2.out.mono ?_;rintro e w2 ⟨⟨rfl,hW2⟩,hg2⟩;have H3:=Gs hW2;rw[h3] at H3;have H3:=Lib.hid H3)|(go_at_call 198;refine H3.out.mono ?_;rintro e w3 ⟨⟨rfl,hW3⟩,hg3⟩)|(go_at_call 196;refine(Yo _ 11 f t a (0,0) (0,0)).mono ?_;rintro e w9 ⟨rfl,rfl⟩))
    go_ret
    try rw[hsp]
    exact Yp (grownBy_trans (grownBy_trans (hg1) hg2) hg3) hW3 11 f t a (0,0) (0,0)
def Fz (ws:List ByteArray):Option (xN×List ByteArray) :=
 match ym Gr ws with
 | none=>none
 | some (t,ws1) =>
  match ym A8 ws1 with
  | none=>none
  | some (f,ws2) =>
   match Cm ws2 with
   | none=>none
   | some (a,ws3) =>
    some (.op 12 f t a (0,0) (0,0),ws3)
theorem ayP {w:World} {B:Nat} {ws:List ByteArray} (h:yh w B ws):Calls prog 201 #[.pointer (some ⟨B,0,none⟩)] w (IV w B (Fz ws)):=by
 cases h1:ym Gr ws with
 | none =>
  have H1:=NU h;rw[h1] at H1;have H1:=Lib.hid H1;have hsp:Fz ws=none:=by simp[Fz,h1]
  go_enter func201,ntmps201
  go_wp2_with (first|(go_at_call 200;refine H1.out.mono ?_;rintro e w1 ⟨rfl,hg1⟩))
  refine zV ?_;try rw[hsp]
  exact⟨rfl,hg1⟩
 | some r1 =>
  obtain⟨t,ws1⟩:=r1
  cases h2:ym A8 ws1 with
  | none =>
   have H1:=NU h;rw[h1] at H1;have H1:=Lib.hid H1;have hsp:Fz ws=none:=by simp[Fz,h1,h2]
   go_enter func201,ntmps201
   go_wp2_with (first|(go_at_call 200;refine H1.out.mono ?_;rintro e w1 ⟨⟨rfl,hW1⟩,hg1⟩;have H2:=C9 hW1;rw[h2] at H2;have H2:=Lib.hid H2)|(go_at_call 197;refine H2.out.mono ?_;rintro e w2 ⟨rfl,hg2⟩))
   refine zV ?_;try rw[hsp]
   exact⟨rfl,grownBy_trans (hg1) hg2⟩
  | some r2 =>
   obtain⟨f,ws2⟩:=r2
   cases h3:Cm ws2 with
   | none =>
    have H1:=NU h;rw[h1] at H1;have H1:=Lib.hid H1;have hsp:Fz ws=none:=by simp[Fz,h1,h2,h3]
    go_enter func201,ntmps201
    go_wp2_with (first|(go_at_call 200;refine H1.out.mono ?_;rintro e w1 ⟨⟨rfl,hW1⟩,hg1⟩;have H2:=C9 hW1;rw[h2] at H2;have H2:=Lib.hid H2)|(go_at_call 197;refine H2.out.mono ?_;rintro e w2 ⟨⟨rfl,hW2⟩,hg2⟩;have H3:=Gs hW2;rw[h3] at H3;have H3:=Lib.hid H3)|(go_at_call 198;refine H3.out.mono ?_;rintro e w3 ⟨rfl,hg3⟩))
    refine zV ?_;try rw[hsp]
    exact⟨rfl,grownBy_trans (grownBy_trans (hg1) hg2) hg3⟩
   | some r3 =>
    obtain⟨a,ws3⟩:=r3;have H1:=NU h;rw[h1] at H1;have H1:=Lib.hid H1;have hsp:Fz ws=some (.op 12 f t a (0,0) (0,0),ws3):=by simp[Fz,h1,h2,h3]
    go_enter func201,ntmps201
    go_wp2_with (first|(go_at_call 200;refine H1.out.mono ?_;rintro e w1 ⟨⟨rfl,hW1⟩,hg1⟩;have H2:=C9 hW1;rw[h2] at H2;have H2:=Lib.hid H2)|(go_at_call 197;refine H2.out.mono ?_;rintro e w2 ⟨⟨rfl,hW2⟩,hg2⟩;have H3:=Gs hW2;rw[h3] at H3;have H3:=Lib.hid H3)|(go_at_call 198;refine H3.out.mono ?_;rintro e w3 ⟨⟨rfl,hW3⟩,hg3⟩)|(go_at_call 196;refine(Yo _ 12 f t a (0,0) (0,0)).mono ?_;rintro e w9 ⟨rfl,rfl⟩))
    go_ret
    try rw[hsp]
    exact Yp (grownBy_trans (grownBy_trans (hg1) hg2) hg3) hW3 12 f t a (0,0) (0,0)
theorem ayQ {w:World} {B:Nat} {ws:List ByteArray} (h:yh w B ws):Calls prog 206 #[.pointer (some ⟨B,0,none⟩)] w (IV w B (some (.clear,ws))):=by
 go_enter func206,ntmps206
 go_wp2_with (go_at_call 204;refine(alv _ _ _ _).mono ?_;rintro e w9 ⟨rfl,rfl⟩)
 go_ret
 exact⟨⟨⟨_,rfl,w.heap.size,Nat.le_refl _,by simp,rfl,World.alloc_heap_new _ _⟩,h.alloc _⟩,World.grownBy_alloc _ _ _⟩
theorem ayR {w:World} {B:Nat} {ws:List ByteArray} (h:yh w B ws):Calls prog 209 #[.pointer (some ⟨B,0,none⟩)] w (IV w B (some (.sticky,ws))):=by
 go_enter func209,ntmps209
 go_wp2
 go_ret
 exact⟨⟨⟨_,rfl,rfl⟩,h⟩,World.grownBy.refl _ _⟩
def HY:List ByteArray:=[⟨#[110,101,97,114]⟩,⟨#[97,119,97,121]⟩,⟨#[117,112]⟩,⟨#[100,111,119,110]⟩,⟨#[122,101,114,111]⟩]
def IW:List ByteArray:=[⟨#[98,101,102,111,114,101]⟩,⟨#[97,102,116,101,114]⟩]
def AL (ws:List ByteArray):Option (xN×List ByteArray) :=
 match ym HY ws with
 | none=>none
 | some (m,ws1) =>
  match ym IW ws1 with
  | none=>none
  | some (t,ws2)=>some (.env m t,ws2)
theorem Sr (w:World) (A O:Obj):((w.alloc A).alloc O).heap[w.heap.size+1]? = some O:=by
 have:=World.alloc_heap_new (w.alloc A) O
 rwa [show(w.alloc A).heap.size=w.heap.size+1 by simp] at this
theorem alloc_at {w:World} {b:Nat} {o:Obj} (h:w.heap[b]? = some o) (A:Obj):(w.alloc A).heap[b]? = some o:=(Below.heap_alloc w A b (Array.getElem?_eq_some_iff.1 h).1).trans h
theorem U6 {w:World} {B:Nat} {ws:List ByteArray} (h:yh w B ws) (zs:List ByteArray) (hz:zs.length<=5) :
  Calls prog 203 #[.pointer (some ⟨B,0,none⟩),.slice (some ⟨w.heap.size,0,none⟩) zs.length zs.length] (w.alloc (.cells (zs.map Value.string).toArray 9)) (HV (λk=>.int .u8 k) w B (ym zs ws)) :=
 (aej (h.alloc (.cells (zs.map Value.string).toArray 9)) w.heap.size zs hz (aek w zs _) h.lt).mono λe w' h'=>ael h' (World.grownBy_alloc _ _ _)
theorem ayS {w:World} {B:Nat} {ws:List ByteArray} (h:yh w B ws):Calls prog 202 #[.pointer (some ⟨B,0,none⟩)] w (IV w B (AL ws)):=by
 cases h1:ym HY ws with
 | none =>
  have H1:=U6 h HY (by decide);rw[h1] at H1;simp only[HY,IW,List.map_cons,List.map_nil,List.length_cons,List.length_nil,Nat.reduceAdd] at H1;have H1:=Lib.hid H1;have hsp:AL ws=none:=by simp[AL,h1]
  go_enter func202,ntmps202
  go_wp2_with (go_at_call 203;refine H1.out.mono ?_;rintro e w1 ⟨rfl,hg1⟩)
  refine zV ?_;try rw[hsp]
  exact⟨rfl,hg1⟩
 | some r1 =>
  obtain⟨m,ws1⟩:=r1
  cases h2:ym IW ws1 with
  | none =>
   have H1:=U6 h HY (by decide);rw[h1] at H1;simp only[HY,IW,List.map_cons,List.map_nil,List.length_cons,List.length_nil,Nat.reduceAdd] at H1;have H1:=Lib.hid H1;have hsp:AL ws=none:=by simp[AL,h1,h2]
   go_enter func202,ntmps202
   go_wp2_with (first|(go_at_call 203;refine H1.out.mono ?_;rintro e w1 ⟨⟨rfl,hW1⟩,hg1⟩;have H2:=U6 hW1 IW (by decide);rw[h2] at H2;simp only[HY,IW,List.map_cons,List.map_nil,List.length_cons,List.length_nil,Nat.reduceAdd] at H2;have H2:=Lib.hid H2;clear H1)|(go_at_call 203;refine H2.out.mono ?_;rintro e w2 ⟨rfl,hg2⟩))
   refine zV ?_;try rw[hsp]
   exact⟨rfl,grownBy_trans hg1 hg2⟩
  | some r2 =>
   obtain⟨t,ws2⟩:=r2;have H1:=U6 h HY (by decide);rw[h1] at H1;simp only[HY,IW,List.map_cons,List.map_nil,List.length_cons,List.length_nil,Nat.reduceAdd] at H1;have H1:=Lib.hid H1;have hsp:AL ws=some (.env m t,ws2):=by simp[AL,h1,h2]
   go_enter func202,ntmps202
   go_wp2_with (first|(go_at_call 203;refine H1.out.mono ?_;rintro e w1 ⟨⟨rfl,hW1⟩,hg1⟩;have H2:=U6 hW1 IW (by decide);rw[h2] at H2;simp only[HY,IW,List.map_cons,List.map_nil,List.length_cons,List.length_nil,Nat.reduceAdd] at H2;have H2:=Lib.hid H2;clear H1)|(go_at_call 203;refine H2.out.mono ?_;rintro e w2 ⟨⟨rfl,hW2⟩,hg2⟩)|(go_at_call 204;refine(alv _ _ _ _).mono ?_;rintro e w9 ⟨rfl,rfl⟩))
   go_ret
   try rw[hsp]
   have hz:=(grownBy_trans hg1 hg2).size;have k1:=World.alloc_heap_new w2 (.cells #[.int .u8 m] 5);have k2:=Sr w2 (.cells #[.int .u8 m] 5) (.cells #[.int .u8 t] 5);refine⟨⟨⟨_,rfl,w2.heap.size,w2.heap.size+1,w2.heap.size+1+1,hz,by simp;omega,by omega,by simp,by omega,by simp,rfl,?_,?_,?_⟩,((hW2.alloc _).alloc _).alloc _⟩,grownBy_allocR (grownBy_allocR (grownBy_allocR (grownBy_trans hg1 hg2) _) _) _⟩
   ·have:=World.alloc_heap_new ((w2.alloc (.cells #[.int .u8 m] 5)).alloc (.cells #[.int .u8 t] 5)) (.cells #[.func (.func 205) #[] #[.pointer (some ⟨w2.heap.size,0,none⟩),.pointer (some ⟨w2.heap.size+1,0,none⟩)]] 283)
    rwa [show((w2.alloc (.cells #[.int .u8 m] 5)).alloc (.cells #[.int .u8 t] 5)).heap.size=w2.heap.size+1+1 by simp] at this
   ·exact alloc_at (alloc_at k1 _) _
   ·exact alloc_at k2 _
def Ef:Nat->List ByteArray->Option (List (Int×Int)×List ByteArray)
 | 0,ws=>some ([],ws)
 | n+1,ws=>match Ef n ws with
  | none=>none
  | some (l,ws1)=>match Cm ws1 with
   | none=>none
   | some (a,ws2)=>some (l ++ [a],ws2)
def zW (o:Int) (n:Nat) (ws:List ByteArray):Option (xN×List ByteArray) :=
 match ym A8 ws with
 | none=>none
 | some (f,ws1)=>match Ef n ws1 with
  | none=>none
  | some (l,ws2)=>some (.op o f 0 (l[0]?.getD (0,0)) (l[1]?.getD (0,0)) (l[2]?.getD (0,0)),ws2)
theorem IX (w:World) (row:Option Nat):w.grownBy w.drew row:=⟨rfl,rfl,rfl,Nat.le_refl _,λ_ _ _=>rfl⟩
theorem yh.drew {w:World} {B:Nat} {ws:List ByteArray} (h:yh w B ws):yh w.drew B ws:=h.kept (IX w none) (by simp)
theorem alx {α:Type} {enc:α->Value} {w w':World} {B:Nat} {r:Option (α×List ByteArray)} {e:Ending} (h:HV enc w.drew B r e w'):HV enc w B r e w':=ael h (IX w _)
theorem zq {w:World} {b i:Nat} {c:Array Value} {t:TypeId} (h:w.heap[b]? = some (.cells c t)) (v:Value):(w.setCell ⟨b,i,none⟩ v).heap[b]? = some (.cells (c.setIfInBounds i v) t):=by show(w.heap.modify b _)[b]? = _;rw[Array.getElem?_modify,if_pos rfl,h];rfl
theorem ayT {w:World} {b:Nat} {a0 a1 a2 a3 a4 a5 a6 a7 a8 a9 a10:Value} {t:TypeId} (h:w.heap[b]? = some (.cells #[a0,a1,a2,a3,a4,a5,a6,a7,a8,a9,a10] t)) (v0 v1 v2 v3 v4 v5 v6 v7 v8 v9 v10:Value):(((((((((((w.setCell ⟨b,0,none⟩ v0).setCell ⟨b,1,none⟩ v1).setCell ⟨b,2,none⟩ v2).setCell ⟨b,3,none⟩ v3).setCell ⟨b,4,none⟩ v4).setCell ⟨b,5,none⟩ v5).setCell ⟨b,6,none⟩ v6).setCell ⟨b,7,none⟩ v7).setCell ⟨b,8,none⟩ v8).setCell ⟨b,9,none⟩ v9).setCell ⟨b,10,none⟩ v10).heap[b]? = some (.cells #[v0,v1,v2,v3,v4,v5,v6,v7,v8,v9,v10] t):=by have h0:=zq (i:=0) h v0;simp only[List.setIfInBounds_toArray,List.set_cons_zero,List.set_cons_succ] at h0;have h1:=zq (i:=1) h0 v1;simp only[List.setIfInBounds_toArray,List.set_cons_zero,List.set_cons_succ] at h1;have h2:=zq (i:=2) h1 v2;simp only[List.setIfInBounds_toArray,List.set_cons_zero,List.set_cons_succ] at h2;have h3:=zq (i:=3) h2 v3;simp only[List.setIfInBounds_toArray,List.set_cons_zero,List.set_cons_succ] at h3;have h4:=zq (i:=4) h3 v4;simp only[List.setIfInBounds_toArray,List.set_cons_zero,List.set_cons_succ] at h4;have h5:=zq (i:=5) h4 v5;simp only[List.setIfInBounds_toArray,List.set_cons_zero,List.set_cons_succ] at h5;have h6:=zq (i:=6) h5 v6;simp only[List.setIfInBounds_toArray,List.set_cons_zero,List.set_cons_succ] at h6;have h7:=zq (i:=7) h6 v7;simp only[List.setIfInBounds_toArray,List.set_cons_zero,List.set_cons_succ] at h7;have h8:=zq (i:=8) h7 v8;simp only[List.setIfInBounds_toArray,List.set_cons_zero,List.set_cons_succ] at h8;have h9:=zq (i:=9) h8 v9;simp only[List.setIfInBounds_toArray,List.set_cons_zero,List.set_cons_succ] at h9;have h10:=zq (i:=10) h9 v10;simp only[List.setIfInBounds_toArray,List.set_cons_zero,List.set_cons_succ] at h10;exact h10
theorem aen (w:World) (b:Nat) (v0 v1 v2 v3 v4 v5 v6 v7 v8 v9 v10:Value):w.grownBy (((((((((((w.setCell ⟨b,0,none⟩ v0).setCell ⟨b,1,none⟩ v1).setCell ⟨b,2,none⟩ v2).setCell ⟨b,3,none⟩ v3).setCell ⟨b,4,none⟩ v4).setCell ⟨b,5,none⟩ v5).setCell ⟨b,6,none⟩ v6).setCell ⟨b,7,none⟩ v7).setCell ⟨b,8,none⟩ v8).setCell ⟨b,9,none⟩ v9).setCell ⟨b,10,none⟩ v10) (some b):=by have g0:=yQ w b 0 v0;have g1:=grownBy_trans g0 (yQ _ b 1 v1);have g2:=grownBy_trans g1 (yQ _ b 2 v2);have g3:=grownBy_trans g2 (yQ _ b 3 v3);have g4:=grownBy_trans g3 (yQ _ b 4 v4);have g5:=grownBy_trans g4 (yQ _ b 5 v5);have g6:=grownBy_trans g5 (yQ _ b 6 v6);have g7:=grownBy_trans g6 (yQ _ b 7 v7);have g8:=grownBy_trans g7 (yQ _ b 8 v8);have g9:=grownBy_trans g8 (yQ _ b 9 v9);have g10:=grownBy_trans g9 (yQ _ b 10 v10);exact g10
def Made (w W:World) (B be bn:Nat) (o f:Int) (n:Nat) (ws:List ByteArray):Prop :=
 W.heap[be]? = some (.cells (zH o f 0 0 0 (0,0) (0,0) (0,0)) 31)/\yh W B ws/\w.grownBy W (some B)/\w.heap.size<=be/\W.heap[bn]? = some (.cells #[.int .i64 n] 3)
theorem ayU {w:World} {B:Nat} {ws:List ByteArray} (h:yh w B ws) (bo bn:Nat) (o:Int) (n:Nat) (hboB:bo≠B) (ho:w.heap[bo]? = some (.cells #[.int .u8 o] 5)) (hn:w.heap[bn]? = some (.cells #[.int .i64 n] 3)) (h1:ym A8 ws=none) :
  Calls prog 253 #[.pointer (some ⟨B,0,none⟩),.pointer (some ⟨bo,0,none⟩),.pointer (some ⟨bn,0,none⟩)] w λe w'=>e=Kc/\w.grownBy w' (some B):=by
 have H1:=(C9 h.drew).mono λe w' h'=>alx h'
 have H2:=(C9 (h.alloc (.cells #[.int .u8 0,.int .u8 0,.int .u8 0,.int .u8 0,.int .u8 0,.int .u64 0,.int .u64 0,.int .u64 0,.int .u64 0,.int .u64 0,.int .u64 0] 31)).drew).mono λe w' h'=>ael (alx h') (World.grownBy_alloc w _ _)
 rw[h1] at H1 H2;have H1:=Lib.hid H1;have H2:=Lib.hid H2;have c0:w.cell? ⟨bo,0,none⟩=some (.int .u8 o):=by simp[World.cell?,ho]
 have hS0:w.cell? ⟨bo,0,none⟩=some (.int .u8 o):=c0;have hbo:bo<w.heap.size:=(Array.getElem?_eq_some_iff.1 ho).1;have hg0:w.grownBy (w.alloc (.cells #[.int .u8 0,.int .u8 0,.int .u8 0,.int .u8 0,.int .u8 0,.int .u64 0,.int .u64 0,.int .u64 0,.int .u64 0,.int .u64 0,.int .u64 0] 31)) (some B):=World.grownBy_alloc _ _ _
 go_enter func253,ntmps253
 go_wp2_with fail
 refine wp_region_any (by kernel_rfl) ?_;change wpAny _ _ _ _ _ _ _ (World.drew _);refine wpAny_take (i:=1) (v:=.pointer (some ⟨B,0,none⟩)) rfl (by kernel_rfl) (by kernel_rfl) (by kernel_rfl) (λ_ _ _ h=>h) (Or.inl ⟨by rfl,?_⟩) ?_
 ·intro w;go_simp;try with_reducible rfl
 refine wpAny_ready (rs:=[0,2,4]) (by kernel_rfl) (by simp) ?_;have c1:(w.alloc (.cells #[.int .u8 0,.int .u8 0,.int .u8 0,.int .u8 0,.int .u8 0,.int .u64 0,.int .u64 0,.int .u64 0,.int .u64 0,.int .u64 0,.int .u64 0] 31)).cell? ⟨bo,0,none⟩=some (.int .u8 o):=hg0.cell c0 (λe=>hboB (Option.some.inj e));refine AllReady.cons rfl (λK hK=>?_) (AllReady.cons rfl (λK hK=>?_) (AllReady.cons rfl (λK hK=>?_) AllReady.nil))
 ·go_simp
  refine hK _ _ ?_;clear hK K;refine wpAny_ready (rs:=[2,4]) (by kernel_rfl) (by simp) ?_;refine AllReady.cons rfl (λK hK=>?_) (AllReady.cons rfl (λK hK=>?_) AllReady.nil)
  ·go_simp
   refine H1.out.mono ?_;rintro e w1 ⟨rfl,hg1⟩;exact zV ⟨rfl,hg1⟩
  ·go_simp
   refine hK _ _ ?_;clear hK K;refine wpAny_ready (rs:=[2]) (by kernel_rfl) (by simp) ?_;refine AllReady.cons rfl (λK hK=>?_) AllReady.nil
   go_simp
   refine H2.out.mono ?_;rintro e w1 ⟨rfl,hg1⟩;exact zV ⟨rfl,hg1⟩
 ·go_simp
  refine H1.out.mono ?_;rintro e w1 ⟨rfl,hg1⟩;exact zV ⟨rfl,hg1⟩
 ·go_simp
  refine hK _ _ ?_;clear hK K;refine wpAny_ready (rs:=[0,2]) (by kernel_rfl) (by simp) ?_;refine AllReady.cons rfl (λK hK=>?_) (AllReady.cons rfl (λK hK=>?_) AllReady.nil)
  ·go_simp
   refine hK _ _ ?_;clear hK K;refine wpAny_ready (rs:=[2]) (by kernel_rfl) (by simp) ?_;refine AllReady.cons rfl (λK hK=>?_) AllReady.nil
   go_simp
   refine H2.out.mono ?_;rintro e w1 ⟨rfl,hg1⟩;exact zV ⟨rfl,hg1⟩
  ·go_simp
   refine H2.out.mono ?_;rintro e w1 ⟨rfl,hg1⟩;exact zV ⟨rfl,hg1⟩
theorem aly {ws1:List ByteArray} {k:Nat} (h:Ef k ws1=none):∀ j,Ef (k+j) ws1=none
 | 0=>h
 | j+1=>by rw[show k+(j+1)=(k+j)+1 by omega,Ef,aly h j]
theorem aeo {ws1 ws2:List ByteArray} {k n:Nat} {l:List (Int×Int)} (h:Ef k ws1=some (l,ws2)) (hb:Cm ws2=none) (hk:k<n):Ef n ws1=none:=by
 have:=aly (k:=k+1) (ws1:=ws1) (by rw[Ef,h];simp[hb]) (n-(k+1))
 rwa [show k+1+(n-(k+1))=n by omega] at this
abbrev gB (l:List (Int×Int)) (i:Nat):Int×Int:=l[i]?.getD (0,0)
theorem ayV {w : World} {B : Nat} {ws : List ByteArray} (h : yh w B ws) (bo bn : Nat) (o f : Int) (n : Nat) (ws1 : List ByteArray) (hn3 : n <= 3) (hboB : bo ≠ B) (hbnB : bn ≠ B) (ho : w.heap[bo]? = some (.cells #[.int .u8 o] 5)) (hn : w.heap[bn]? = some (.cells #[.int .i64 n] 3)) (h1 : ym A8 ws = some (f, ws1)) :
    Calls prog 253 #[.pointer (some ⟨B, 0, none⟩), .pointer (some ⟨bo, 0, none⟩), .pointer (some ⟨bn, 0, none⟩)] w (IV w B (zW o n ws)) := by
  have HF : ∀ W, w.grownBy W none -> Calls prog 197 #[.pointer (some ⟨B, 0, none⟩)] W (HV (λk => .int .u8 k) W B (some (f, ws1))) := λW hW => by
    have := C9 (h.kept hW (by simp))
    rwa [h1] at this
  have HF := Lib.hid HF;have c0 : w.cell? ⟨bo, 0, none⟩ = some (.int .u8 o) := by simp [World.cell?, ho]
  have hbnL : bn < w.heap.size := (Array.getElem?_eq_some_iff.1 hn).1;have hbo : bo < w.heap.size := (Array.getElem?_eq_some_iff.1 ho).1;have hBw : B < w.heap.size := h.lt;have hg0 : w.grownBy (w.alloc (.cells #[.int .u8 0, .int .u8 0, .int .u8 0, .int .u8 0, .int .u8 0, .int .u64 0, .int .u64 0, .int .u64 0, .int .u64 0, .int .u64 0, .int .u64 0] 31)) (some B) := World.grownBy_alloc _ _ _;have c1 : (w.alloc (.cells #[.int .u8 0, .int .u8 0, .int .u8 0, .int .u8 0, .int .u8 0, .int .u64 0, .int .u64 0, .int .u64 0, .int .u64 0, .int .u64 0, .int .u64 0] 31)).cell? ⟨bo, 0, none⟩ = some (.int .u8 o) := hg0.cell c0 (λe => hboB (Option.some.inj e))
  go_enter func253, ntmps253
  go_wp2_with fail
  refine Code.wp_mono (Q := λe a W => match e with
    | .normal => ∃ be, Made w W B be bn o f n ws1 /\ a = { tmps := #[.pointer (some ⟨B, 0, none⟩), .pointer (some ⟨bo, 0, none⟩), .pointer (some ⟨bn, 0, none⟩), undef, .nilFunc, .pointer (some ⟨be, 0, none⟩), undef, undef, .int .u8 o, .pointer (some ⟨B, 0, none⟩), .int .u8 f, .agg (zH o f 0 0 0 (0, 0) (0, 0) (0, 0)), undef, undef, undef, undef, undef, undef, undef, undef, undef, undef, undef, undef, undef, undef, undef, undef, undef, undef, undef], defers := [] }
    | _ => False) ?hmono ?hreg
  case hreg =>
    go_region_with (first | (go_at_call 197; refine (HF.out _ (by first | exact IX _ _ | exact grownBy_trans (World.grownBy_alloc _ _ _) (IX _ _))).mono ?_; rintro e w1 ⟨⟨rfl, hW1⟩, hg1⟩; have hg2 : w.grownBy w1 (some B) := (by first | exact grownBy_trans (IX _ _) hg1 | exact grownBy_trans (World.grownBy_alloc _ _ _) (grownBy_trans (IX _ _) hg1)); have c2 : w1.cell? ⟨bo, 0, none⟩ = some (.int .u8 o) := hg2.cell c0 (λe => hboB (Option.some.inj e)); have c3 : (w1.alloc (.cells #[.int .u8 0, .int .u8 0, .int .u8 0, .int .u8 0, .int .u8 0, .int .u64 0, .int .u64 0, .int .u64 0, .int .u64 0, .int .u64 0, .int .u64 0] 31)).cell? ⟨bo, 0, none⟩ = some (.int .u8 o) := (World.grownBy_alloc w1 (.cells #[.int .u8 0, .int .u8 0, .int .u8 0, .int .u8 0, .int .u8 0, .int .u64 0, .int .u64 0, .int .u64 0, .int .u64 0, .int .u64 0, .int .u64 0] 31) none).cell c2 (λe => by cases e); first | (have hE : w1.heap[w.heap.size]? = some (.cells #[.int .u8 0, .int .u8 0, .int .u8 0, .int .u8 0, .int .u8 0, .int .u64 0, .int .u64 0, .int .u64 0, .int .u64 0, .int .u64 0, .int .u64 0] 31) := (hg1.block _ (by simp) (λe => by have := Option.some.inj e; omega)).trans (World.alloc_heap_new _ _); have z0 : w1.frozen? ⟨w.heap.size, 0, none⟩ = false := (by simp [World.frozen?, hE]); have z1 : w1.frozen? ⟨w.heap.size, 1, none⟩ = false := (by simp [World.frozen?, hE]); have z2 : w1.frozen? ⟨w.heap.size, 2, none⟩ = false := (by simp [World.frozen?, hE]); have z3 : w1.frozen? ⟨w.heap.size, 3, none⟩ = false := (by simp [World.frozen?, hE]); have z4 : w1.frozen? ⟨w.heap.size, 4, none⟩ = false := (by simp [World.frozen?, hE]); have z5 : w1.frozen? ⟨w.heap.size, 5, none⟩ = false := (by simp [World.frozen?, hE]); have z6 : w1.frozen? ⟨w.heap.size, 6, none⟩ = false := (by simp [World.frozen?, hE]); have z7 : w1.frozen? ⟨w.heap.size, 7, none⟩ = false := (by simp [World.frozen?, hE]); have z8 : w1.frozen? ⟨w.heap.size, 8, none⟩ = false := (by simp [World.frozen?, hE]); have z9 : w1.frozen? ⟨w.heap.size, 9, none⟩ = false := (by simp [World.frozen?, hE]); have z10 : w1.frozen? ⟨w.heap.size, 10, none⟩ = false := (by simp [World.frozen?, hE]); have y0 : w1.cell? ⟨w.heap.size, 0, none⟩ = some (.int .u8 0) := (by simp [World.cell?, hE]); have y1 : w1.cell? ⟨w.heap.size, 1, none⟩ = some (.int .u8 0) := (by simp [World.cell?, hE]); have y2 : w1.cell? ⟨w.heap.size, 2, none⟩ = some (.int .u8 0) := (by simp [World.cell?, hE]); have y3 : w1.cell? ⟨w.heap.size, 3, none⟩ = some (.int .u8 0) := (by simp [World.cell?, hE]); have y4 : w1.cell? ⟨w.heap.size, 4, none⟩ = some (.int .u8 0) := (by simp [World.cell?, hE]); have y5 : w1.cell? ⟨w.heap.size, 5, none⟩ = some (.int .u64 0) := (by simp [World.cell?, hE]); have y6 : w1.cell? ⟨w.heap.size, 6, none⟩ = some (.int .u64 0) := (by simp [World.cell?, hE]); have y7 : w1.cell? ⟨w.heap.size, 7, none⟩ = some (.int .u64 0) := (by simp [World.cell?, hE]); have y8 : w1.cell? ⟨w.heap.size, 8, none⟩ = some (.int .u64 0) := (by simp [World.cell?, hE]); have y9 : w1.cell? ⟨w.heap.size, 9, none⟩ = some (.int .u64 0) := (by simp [World.cell?, hE]); have y10 : w1.cell? ⟨w.heap.size, 10, none⟩ = some (.int .u64 0) := (by simp [World.cell?, hE])) | skip))
    all_goals first
      | (have F : Made w (w1.alloc (.cells #[.int .u8 o, .int .u8 f, .int .u8 0, .int .u8 0, .int .u8 0, .int .u64 0, .int .u64 0, .int .u64 0, .int .u64 0, .int .u64 0, .int .u64 0] 31)) B w1.heap.size bn o f n ws1 := ⟨World.alloc_heap_new _ _, hW1.alloc _, grownBy_allocR (by exact hg2) _, (by exact hg2.size), ((grownBy_allocR (by exact hg2) _ : w.grownBy (w1.alloc _) (some B)).block _ hbnL (λe => hbnB (Option.some.inj e))).trans hn⟩
         refine ⟨_, (by with_reducible exact F), ?_⟩
         rfl)
      | (have F : Made w (((((((((((w1.setCell ⟨w.heap.size, 0, none⟩ (.int .u8 o)).setCell ⟨w.heap.size, 1, none⟩ (.int .u8 f)).setCell ⟨w.heap.size, 2, none⟩ (.int .u8 0)).setCell ⟨w.heap.size, 3, none⟩ (.int .u8 0)).setCell ⟨w.heap.size, 4, none⟩ (.int .u8 0)).setCell ⟨w.heap.size, 5, none⟩ (.int .u64 0)).setCell ⟨w.heap.size, 6, none⟩ (.int .u64 0)).setCell ⟨w.heap.size, 7, none⟩ (.int .u64 0)).setCell ⟨w.heap.size, 8, none⟩ (.int .u64 0)).setCell ⟨w.heap.size, 9, none⟩ (.int .u64 0)).setCell ⟨w.heap.size, 10, none⟩ (.int .u64 0)) B w.heap.size bn o f n ws1 := ⟨ayT hE _ _ _ _ _ _ _ _ _ _ _, hW1.kept (aen w1 w.heap.size _ _ _ _ _ _ _ _ _ _ _) (λk e => by have := Option.some.inj e; omega), NW hg2 (aen w1 w.heap.size _ _ _ _ _ _ _ _ _ _ _) (Nat.le_refl _), Nat.le_refl _, ((NW hg2 (aen w1 w.heap.size _ _ _ _ _ _ _ _ _ _ _) (Nat.le_refl _)).block _ hbnL (λe => hbnB (Option.some.inj e))).trans hn⟩
         refine ⟨_, (by with_reducible exact F), ?_⟩
         rfl)
  case hmono =>
    intro e a W hq;cases e <;> first | exact hq.elim | skip
    obtain ⟨be, F, rfl⟩ := hq;obtain ⟨f1, f2, f3, f4, f5⟩ := F;have c5 : W.cell? ⟨bn, 0, none⟩ = some (.int .i64 n) := by simp [World.cell?, f5]
    have q0 : (n : Int) <= 3 := by omega
    have q1 : (0 : Int) <= (n : Int) := by omega
    have c7 : (W.alloc (.cells #[.pointer (some ⟨be, 5, none⟩), .pointer (some ⟨be, 7, none⟩), .pointer (some ⟨be, 9, none⟩)] 331)).cell? ⟨bn, 0, none⟩ = some (.int .i64 n) := (World.grownBy_alloc W _ none).cell c5 (λe => by cases e);have hbeL : be < W.heap.size := (Array.getElem?_eq_some_iff.1 f1).1;have hR := World.alloc_heap_new W (.cells #[.pointer (some ⟨be, 5, none⟩), .pointer (some ⟨be, 7, none⟩), .pointer (some ⟨be, 9, none⟩)] 331);have hF1 : (W.alloc (.cells #[.pointer (some ⟨be, 5, none⟩), .pointer (some ⟨be, 7, none⟩), .pointer (some ⟨be, 9, none⟩)] 331)).heap[be]? = _ := alloc_at f1 _;have hF2 := f2.alloc (.cells #[.pointer (some ⟨be, 5, none⟩), .pointer (some ⟨be, 7, none⟩), .pointer (some ⟨be, 9, none⟩)] 331);have hF3 := grownBy_allocR f3 (.cells #[.pointer (some ⟨be, 5, none⟩), .pointer (some ⟨be, 7, none⟩), .pointer (some ⟨be, 9, none⟩)] 331);show Exit.then _ _ Exit.normal _ _
    go_wp2
    generalize W.alloc (.cells #[.pointer (some ⟨be, 5, none⟩), .pointer (some ⟨be, 7, none⟩), .pointer (some ⟨be, 9, none⟩)] 331) = W2 at *
    generalize W.heap.size = rb at *
    go_loopw [20] (λi wr => ∃ k : Nat, k <= n /\ i = .int .i64 (k : Int) /\ ∃ l ws2, Ef k ws1 = some (l, ws2) /\ l.length = k /\ wr.heap[be]? = some (.cells (zH o f 0 0 0 (gB l 0) (gB l 1) (gB l 2)) 31) /\ yh wr B ws2 /\ w.grownBy wr (some B) /\ wr.heap[rb]? = some (.cells #[.pointer (some ⟨be, 5, none⟩), .pointer (some ⟨be, 7, none⟩), .pointer (some ⟨be, 9, none⟩)] 331)) (λi _ => n - (intOf i).toNat)
    case atStart => exact ⟨0, Nat.zero_le _, rfl, [], ws1, rfl, rfl, hF1, hF2, hF3, hR⟩
    case round =>
      obtain ⟨k, hk, rfl, l, ws2, hbn, hll, hEn, hWS, hgr, hRow⟩ := hrel;have hBe : B < w.heap.size := hBw;have f4' := f4;have hbeB : be ≠ B := by omega
      have hbeR : be < wr.heap.size := (Array.getElem?_eq_some_iff.1 hEn).1;have hrbR : rb < wr.heap.size := (Array.getElem?_eq_some_iff.1 hRow).1;by_cases hlt : k < n
      · have q2 : (k : Int) < (n : Int) := by omega
        have hk3 : k = 0 \/ k = 1 \/ k = 2 := by omega
        rcases hk3 with rfl | rfl | rfl
        · match l, hll with
          | [], _ =>
          have r0 : wr.cell? ⟨rb, 0, none⟩ = some (.pointer (some ⟨be, 5, none⟩)) := by simp [World.cell?, hRow]
          cases hb : Cm ws2 with
          | none =>
            have HB := Gs hWS;rw [hb] at HB;have HB := Lib.hid HB;have hsp : zW o n ws = none := by simp [zW, h1, aeo hbn hb hlt]
            go_wp2_with (first | (go_at_call 198; refine HB.out.mono ?_; rintro e w3 ⟨rfl, hg3⟩))
            refine zV ?_;try rw [hsp]
            exact ⟨rfl, grownBy_trans hgr hg3⟩
          | some r =>
            obtain ⟨a, ws3⟩ := r;have HB := Gs hWS;rw [hb] at HB;have HB := Lib.hid HB
            go_wp2_with (first | (go_at_call 198; refine HB.out.mono ?_; rintro e w3 ⟨⟨rfl, hW3⟩, hg3⟩; have hE3 := (hg3.block _ hbeR (λe => hbeB (Option.some.inj e))).trans hEn; have z5 : w3.frozen? ⟨be, 5, none⟩ = false := (by simp [World.frozen?, hE3]); have z6 : w3.frozen? ⟨be, 6, none⟩ = false := (by simp [World.frozen?, hE3]); have y5 : w3.cell? ⟨be, 5, none⟩ = some (.int .u64 (gB [] 0).1) := (by simp [World.cell?, hE3]); have y6 : w3.cell? ⟨be, 6, none⟩ = some (.int .u64 (gB [] 0).2) := (by simp [World.cell?, hE3])))
            have hS1 := zq (i := 5) hE3 (.int .u64 a.1);simp only [List.setIfInBounds_toArray, List.set_cons_zero, List.set_cons_succ] at hS1;have hS2 := zq (i := 6) hS1 (.int .u64 a.2);simp only [List.setIfInBounds_toArray, List.set_cons_zero, List.set_cons_succ] at hS2;have hgs := grownBy_trans (yQ w3 be 5 (.int .u64 a.1)) (yQ _ be 6 (.int .u64 a.2));refine ⟨⟨1, by omega, by simp, [] ++ [a], ws3, by rw [Ef, hbn]; simp [hb], rfl, (by first | exact hS2 | simpa [gB] using hS2), hW3.kept hgs (λk e => by have := Option.some.inj e; omega), NW (grownBy_trans hgr hg3) hgs f4, ?_⟩, by simp [intOf]; omega⟩;rw [hgs.block _ (Nat.lt_of_lt_of_le hrbR hg3.size) (λe => by have := Option.some.inj e; omega), hg3.block _ hrbR (λe => by have := Option.some.inj e; omega)];exact hRow
        · match l, hll with
          | [a0], _ =>
          have r0 : wr.cell? ⟨rb, 1, none⟩ = some (.pointer (some ⟨be, 7, none⟩)) := by simp [World.cell?, hRow]
          cases hb : Cm ws2 with
          | none =>
            have HB := Gs hWS;rw [hb] at HB;have HB := Lib.hid HB;have hsp : zW o n ws = none := by simp [zW, h1, aeo hbn hb hlt]
            go_wp2_with (first | (go_at_call 198; refine HB.out.mono ?_; rintro e w3 ⟨rfl, hg3⟩))
            refine zV ?_;try rw [hsp]
            exact ⟨rfl, grownBy_trans hgr hg3⟩
          | some r =>
            obtain ⟨a, ws3⟩ := r;have HB := Gs hWS;rw [hb] at HB;have HB := Lib.hid HB
            go_wp2_with (first | (go_at_call 198; refine HB.out.mono ?_; rintro e w3 ⟨⟨rfl, hW3⟩, hg3⟩; have hE3 := (hg3.block _ hbeR (λe => hbeB (Option.some.inj e))).trans hEn; have z5 : w3.frozen? ⟨be, 7, none⟩ = false := (by simp [World.frozen?, hE3]); have z6 : w3.frozen? ⟨be, 8, none⟩ = false := (by simp [World.frozen?, hE3]); have y5 : w3.cell? ⟨be, 7, none⟩ = some (.int .u64 (gB [a0] 1).1) := (by simp [World.cell?, hE3]); have y6 : w3.cell? ⟨be, 8, none⟩ = some (.int .u64 (gB [a0] 1).2) := (by simp [World.cell?, hE3])))
            have hS1 := zq (i := 7) hE3 (.int .u64 a.1);simp only [List.setIfInBounds_toArray, List.set_cons_zero, List.set_cons_succ] at hS1;have hS2 := zq (i := 8) hS1 (.int .u64 a.2);simp only [List.setIfInBounds_toArray, List.set_cons_zero, List.set_cons_succ] at hS2;have hgs := grownBy_trans (yQ w3 be 7 (.int .u64 a.1)) (yQ _ be 8 (.int .u64 a.2));refine ⟨⟨2, by omega, by simp, [a0] ++ [a], ws3, by rw [Ef, hbn]; simp [hb], rfl, (by first | exact hS2 | simpa [gB] using hS2), hW3.kept hgs (λk e => by have := Option.some.inj e; omega), NW (grownBy_trans hgr hg3) hgs f4, ?_⟩, by simp [intOf]; omega⟩;rw [hgs.block _ (Nat.lt_of_lt_of_le hrbR hg3.size) (λe => by have := Option.some.inj e; omega), hg3.block _ hrbR (λe => by have := Option.some.inj e; omega)];exact hRow
        · match l, hll with
          | [a0, a1], _ =>
          have r0 : wr.cell? ⟨rb, 2, none⟩ = some (.pointer (some ⟨be, 9, none⟩)) := by simp [World.cell?, hRow]
          cases hb : Cm ws2 with
          | none =>
            have HB := Gs hWS;rw [hb] at HB;have HB := Lib.hid HB;have hsp : zW o n ws = none := by simp [zW, h1, aeo hbn hb hlt]
            go_wp2_with (first | (go_at_call 198; refine HB.out.mono ?_; rintro e w3 ⟨rfl, hg3⟩))
            refine zV ?_;try rw [hsp]
            exact ⟨rfl, grownBy_trans hgr hg3⟩
          | some r =>
            obtain ⟨a, ws3⟩ := r;have HB := Gs hWS;rw [hb] at HB;have HB := Lib.hid HB
            go_wp2_with (first | (go_at_call 198; refine HB.out.mono ?_; rintro e w3 ⟨⟨rfl, hW3⟩, hg3⟩; have hE3 := (hg3.block _ hbeR (λe => hbeB (Option.some.inj e))).trans hEn; have z5 : w3.frozen? ⟨be, 9, none⟩ = false := (by simp [World.frozen?, hE3]); have z6 : w3.frozen? ⟨be, 10, none⟩ = false := (by simp [World.frozen?, hE3]); have y5 : w3.cell? ⟨be, 9, none⟩ = some (.int .u64 (gB [a0, a1] 2).1) := (by simp [World.cell?, hE3]); have y6 : w3.cell? ⟨be, 10, none⟩ = some (.int .u64 (gB [a0, a1] 2).2) := (by simp [World.cell?, hE3])))
            have hS1 := zq (i := 9) hE3 (.int .u64 a.1);simp only [List.setIfInBounds_toArray, List.set_cons_zero, List.set_cons_succ] at hS1;have hS2 := zq (i := 10) hS1 (.int .u64 a.2);simp only [List.setIfInBounds_toArray, List.set_cons_zero, List.set_cons_succ] at hS2;have hgs := grownBy_trans (yQ w3 be 9 (.int .u64 a.1)) (yQ _ be 10 (.int .u64 a.2));refine ⟨⟨3, by omega, by simp, [a0, a1] ++ [a], ws3, by rw [Ef, hbn]; simp [hb], rfl, (by first | exact hS2 | simpa [gB] using hS2), hW3.kept hgs (λk e => by have := Option.some.inj e; omega), NW (grownBy_trans hgr hg3) hgs f4, ?_⟩, by simp [intOf]; omega⟩;rw [hgs.block _ (Nat.lt_of_lt_of_le hrbR hg3.size) (λe => by have := Option.some.inj e; omega), hg3.block _ hrbR (λe => by have := Option.some.inj e; omega)];exact hRow
      · obtain rfl : k = n := by omega
        have q2 : ¬ (k : Int) < (k : Int) := by omega
        have hsp : zW o k ws = some (.op o f 0 (gB l 0) (gB l 1) (gB l 2), ws2) := by simp [zW, h1, hbn]
        have e0 : wr.cell? ⟨be, 0, none⟩ = some (.int .u8 o) := by simp [World.cell?, hEn]
        have e1 : wr.cell? ⟨be, 1, none⟩ = some (.int .u8 f) := by simp [World.cell?, hEn]
        have e2 : wr.cell? ⟨be, 2, none⟩ = some (.int .u8 0) := by simp [World.cell?, hEn]
        have e3 : wr.cell? ⟨be, 3, none⟩ = some (.int .u8 0) := by simp [World.cell?, hEn]
        have e4 : wr.cell? ⟨be, 4, none⟩ = some (.int .u8 0) := by simp [World.cell?, hEn]
        have e5 : wr.cell? ⟨be, 5, none⟩ = some (.int .u64 (gB l 0).1) := by simp [World.cell?, hEn]
        have e6 : wr.cell? ⟨be, 6, none⟩ = some (.int .u64 (gB l 0).2) := by simp [World.cell?, hEn]
        have e7 : wr.cell? ⟨be, 7, none⟩ = some (.int .u64 (gB l 1).1) := by simp [World.cell?, hEn]
        have e8 : wr.cell? ⟨be, 8, none⟩ = some (.int .u64 (gB l 1).2) := by simp [World.cell?, hEn]
        have e9 : wr.cell? ⟨be, 9, none⟩ = some (.int .u64 (gB l 2).1) := by simp [World.cell?, hEn]
        have e10 : wr.cell? ⟨be, 10, none⟩ = some (.int .u64 (gB l 2).2) := by simp [World.cell?, hEn]
        have HH := Lib.hid (Yp hgr hWS o f 0 (gB l 0) (gB l 1) (gB l 2));generalize gB l 0 = x0 at *
        generalize gB l 1 = x1 at *
        generalize gB l 2 = x2 at *
        go_wp2_with (go_at_call 196; refine (Yo _ o f 0 x0 x1 x2).mono ?_; rintro e w9 ⟨rfl, rfl⟩)
        go_ret
        try rw [hsp]
        exact HH.out
theorem ayW {w:World} {B:Nat} {ws:List ByteArray} (h:yh w B ws) (bo bn:Nat) (o:Int) (n:Nat) (hn3:n<=3) (hboB:bo≠B) (hbnB:bn≠B) (ho:w.heap[bo]? = some (.cells #[.int .u8 o] 5)) (hn:w.heap[bn]? = some (.cells #[.int .i64 n] 3)) :
  Calls prog 253 #[.pointer (some ⟨B,0,none⟩),.pointer (some ⟨bo,0,none⟩),.pointer (some ⟨bn,0,none⟩)] w (IV w B (zW o n ws)):=by
 cases h1:ym A8 ws with
 | none =>
  refine(ayU h bo bn o n hboB ho hn h1).mono λe w' ⟨h2,h3⟩=>?_
  have hsp:zW o n ws=none:=by simp[zW,h1]
  rw[hsp];exact⟨h2,h3⟩
 | some r =>
  obtain⟨f,ws1⟩:=r;exact ayV h bo bn o f n ws1 hn3 hboB hbnB ho hn h1
abbrev Ke:TypeId:=207
def Du:Nat->List (ByteArray×Value)->List MapEntry
 | _,[]=>[]
 | i,(k,v)::l => { key:=.string k,val:=v,born:=i } :: Du (i+1) l
theorem alz (k:ByteArray) (v:Value):∀ (l:List (ByteArray×Value)) (i:Nat),Du i (l ++ [(k,v)])=Du i l ++ [{ key:=.string k,val:=v,born:=i+l.length }]
 | [],i=>rfl
 | (k',v')::l,i=>by rw[List.cons_append,Du,Du,alz k v l (i+1),List.cons_append,List.length_cons,show i+1+l.length=i+(l.length+1) by omega]
theorem alA (a b:ByteArray):(a==b)=true↔a=b:=by obtain⟨x⟩:=a;obtain⟨y⟩:=b;show(x==y)=true↔_;simp
theorem alB {a b:ByteArray} (h:a≠b):Instr.sameNow .string (.string a) (.string b)=some false:=by show some (a==b)=some false;rw[show(a==b)=false from Bool.eq_false_iff.2 λe=>h ((alA a b).1 e)]
theorem same_eq (a:ByteArray):Instr.sameNow .string (.string a) (.string a)=some true:=by show some (a==a)=some true;rw[(alA a a).2 rfl]
theorem aep (k:ByteArray):∀ (l:List (ByteArray×Value)) (i j:Nat),(∀ x∈l,k≠x.1)->Instr.findNow .string (.string k) (Du i l) j=some none
 | [],_,_,_=>rfl
 | (k',v)::l,i,j,h=>by rw[Du,Instr.findNow,alB (h (k',v) (by simp))];exact aep k l (i+1) (j+1) λx hx=>h x (List.mem_cons_of_mem _ hx)
theorem alC (k:ByteArray) (v:Value):∀ (l r:List (ByteArray×Value)) (i j:Nat),(∀ x∈l,k≠x.1)->∃ q,Instr.findNow .string (.string k) (Du i (l++(k,v)::r)) j=some (some (q,v))
 | [],r,i,j,_=>⟨j,by rw[List.nil_append,Du,Instr.findNow,same_eq]⟩
 | (k',v')::l,r,i,j,h=>by
  obtain⟨q,hq⟩:=alC k v l r (i+1) (j+1) λx hx=>h x (List.mem_cons_of_mem _ hx)
  exact⟨q,by rw[List.cons_append,Du,Instr.findNow,alB (h (k',v') (by simp))];exact hq⟩
def putObj (W:World) (b:Nat) (o:Obj):World := { W with heap:=W.heap.setIfInBounds b o }
def CM (w X:World) (b:Nat) (l:List (ByteArray×Value)):Prop :=
 X.heap[b]? = some (.map (Du 0 l).toArray l.length)/\w.heap.size<=b/\vY w X
def zN (w X:World) (b:Nat) (o:Int) (n:Nat) (v:Value):Prop :=
 ∃ p q,v = .func (.func 253) #[] #[.pointer (some ⟨p,0,none⟩),.pointer (some ⟨q,0,none⟩)]/\w.heap.size<=p/\w.heap.size<=q/\p≠b/\q≠b/\X.heap[p]? = some (.cells #[.int .u8 o] 5)/\X.heap[q]? = some (.cells #[.int .i64 n] 3)
theorem ayX {W:World} {b:Nat} {o:Obj} (h:b<W.heap.size):(putObj W b o).heap[b]? = some o:=by show(W.heap.setIfInBounds b o)[b]? = _;simp[h]
theorem anO {W:World} {b k:Nat} {o:Obj} (h:k≠b):(putObj W b o).heap[k]? = W.heap[k]?:=by show(W.heap.setIfInBounds b o)[k]? = _;rw[Array.getElem?_setIfInBounds_ne (λe=>h e.symm)]
theorem aC7 (W:World) (b:Nat) (o:Obj):(putObj W b o).heap.size=W.heap.size:=by show(W.heap.setIfInBounds b o).size=_;simp
theorem alD (W:World) (b:Nat) (o:Obj):W.grownBy (putObj W b o) (some b):=⟨rfl,rfl,rfl,by rw[aC7];exact Nat.le_refl _,λk _ hk=>anO (λe=>hk (by rw[e]))⟩
theorem CM.ins {w X:World} {b:Nat} {l:List (ByteArray×Value)} (h:CM w X b l) (k:ByteArray) (v:Value) (hk:∀ x∈l,k≠x.1) :
  (Instr.mapUpdate Ke (.map (some b)) (.string k) v).run prog X = .ok () (putObj X b (.map (Du 0 (l ++ [(k,v)])).toArray (l.length+1)))/\CM w (putObj X b (.map (Du 0 (l ++ [(k,v)])).toArray (l.length+1))) b (l ++ [(k,v)]):=by
 have hb:=h.1;have hlt:b<X.heap.size:=(Array.getElem?_eq_some_iff.1 hb).1;have hku:prog.underlying 9=some .string:=underlying9;have hm:prog.underlying Ke=some (.map 9 205):=underlying207;have hc:(Instr.checkKey false 10000 9 (.string k)).run prog X = .ok () X:=MapKept.run_checkKey (k:=.string k) hku (by simp[MapKept.IsKey]) false 9999;have hf:=aep k l 0 0 hk
 have he:(Du 0 l).toArray.push { key:=.string k,val:=v,born:=l.length } = (Du 0 (l ++ [(k,v)])).toArray:=by rw[alz];simp
 refine⟨?_,?_,h.2.1,?_⟩
 ·have hs:=MapKept.run_setObj_map (P:=prog) (.map ((Du 0 l).toArray.push { key:=.string k,val:=v,born:=l.length }) (l.length+1)) hb;rw[he] at hs;simp[Instr.mapUpdate,run_underlying hm,MapKept.run_getObj_map hb,hc,MapKept.run_findKey hku hf,Result.andThen,he,hs];rfl
 ·rw[ayX hlt];simp
 ·exact Below.grown h.2.2 (alD X b _) (Below.size h.2.2) (λg e=>by cases e;exact h.2.1)
theorem CM.put {w X:World} {b:Nat} {l:List (ByteArray×Value)} (h:CM w X b l) (k:ByteArray) (v:Value) (hk:∀ x∈l,k≠x.1) :
  ∃ Y,(Instr.mapUpdate Ke (.map (some b)) (.string k) v).run prog X = .ok () Y/\CM w Y b (l ++ [(k,v)])/\X.grownBy Y (some b):=⟨_,(h.ins k v hk).1,(h.ins k v hk).2,alD X b _⟩
theorem CM.alloc {w X:World} {b:Nat} {l:List (ByteArray×Value)} (h:CM w X b l) (o:Obj):CM w (X.alloc o) b l :=
 ⟨by rw[Below.heap_alloc X o b (Array.getElem?_eq_some_iff.1 h.1).1];exact h.1,h.2.1,vY.alloc h.2.2 _⟩
theorem zN.kept {w X Y:World} {b:Nat} {o:Int} {n:Nat} {v:Value} (h:zN w X b o n v) (hg:X.grownBy Y (some b)):zN w Y b o n v:=by obtain⟨p,q,h1,h2,h3,h4,h5,h6,h7⟩:=h;exact⟨p,q,h1,h2,h3,h4,h5,(hg.block _ (Array.getElem?_eq_some_iff.1 h6).1 (λe=>h4 (Option.some.inj e))).trans h6,(hg.block _ (Array.getElem?_eq_some_iff.1 h7).1 (λe=>h5 (Option.some.inj e))).trans h7⟩
theorem HZ (w:World) (o:Int) (n:Int):Calls prog 194 #[.int .u8 o,.int .i64 n] w λe w'=>e = .returned (.func (.func 253) #[] #[.pointer (some ⟨w.heap.size,0,none⟩),.pointer (some ⟨w.heap.size+1,0,none⟩)])/\w'=(w.alloc (.cells #[.int .u8 o] 5)).alloc (.cells #[.int .i64 n] 3):=by
 go_enter func194,ntmps194
 go_wp2
 go_ret
 exact⟨rfl,rfl⟩
abbrev Bw:ByteArray:=⟨#[97,100,100]⟩
abbrev Bz:ByteArray:=⟨#[115,117,98]⟩
abbrev BA:ByteArray:=⟨#[109,117,108]⟩
abbrev BB:ByteArray:=⟨#[100,105,118]⟩
abbrev BC:ByteArray:=⟨#[114,101,109]⟩
abbrev BD:ByteArray:=⟨#[102,109,97]⟩
abbrev BF:ByteArray:=⟨#[115,113,114,116]⟩
abbrev BG:ByteArray:=⟨#[114,105,110,116]⟩
abbrev BH:ByteArray:=⟨#[101,120,97,99,116]⟩
abbrev BI:ByteArray:=⟨#[113,117,105,101,116]⟩
abbrev BJ:ByteArray:=⟨#[115,105,103,110,97,108,105,110,103]⟩
abbrev A9:ByteArray:=⟨#[99,111,110,118]⟩
abbrev Ba:ByteArray:=⟨#[105,110,116]⟩
abbrev Bb:ByteArray:=⟨#[102,114,111,109]⟩
abbrev Bc:ByteArray:=⟨#[101,110,118]⟩
abbrev Bd:ByteArray:=⟨#[99,108,101,97,114]⟩
abbrev Be:ByteArray:=⟨#[115,116,105,99,107,121]⟩
def alE (v0 v1 v2 v3 v4 v5 v6 v7 v8 v9 v10:Value):List (ByteArray×Value):=[(Bw,v0),(Bz,v1),(BA,v2),(BB,v3),(BC,v4),(BD,v5),(BF,v6),(BG,v7),(BH,v8),(BI,v9),(BJ,v10),(A9,.func (.func 195) #[] #[]),(Ba,.func (.func 199) #[] #[]),(Bb,.func (.func 201) #[] #[]),(Bc,.func (.func 202) #[] #[]),(Bd,.func (.func 206) #[] #[]),(Be,.func (.func 209) #[] #[])]
def U7 (w X:World) (b:Nat):Prop :=
 ∃ v0 v1 v2 v3 v4 v5 v6 v7 v8 v9 v10,CM w X b (alE v0 v1 v2 v3 v4 v5 v6 v7 v8 v9 v10)/\zN w X b 1 2 v0/\zN w X b 2 2 v1/\zN w X b 3 2 v2/\zN w X b 4 2 v3/\zN w X b 7 2 v4/\zN w X b 6 3 v5/\zN w X b 5 1 v6/\zN w X b 8 1 v7/\zN w X b 9 1 v8/\zN w X b 13 2 v9/\zN w X b 14 2 v10
theorem H5 {w X:World} {b:Nat} {l:List (ByteArray×Value)} (h:CM w X b l) (o:Int) (n:Nat) :
  zN w ((X.alloc (.cells #[.int .u8 o] 5)).alloc (.cells #[.int .i64 n] 3)) b o n (.func (.func 253) #[] #[.pointer (some ⟨X.heap.size,0,none⟩),.pointer (some ⟨X.heap.size+1,0,none⟩)]):=by
 have hb:=(Array.getElem?_eq_some_iff.1 h.1).1;have hs:=Below.size h.2.2;exact⟨X.heap.size,X.heap.size+1,rfl,hs,by omega,by omega,by omega,alloc_at (World.alloc_heap_new _ _) _,Sr _ _ _⟩
theorem ayY (w:World):Calls prog 138 #[] w λe w'=>∃ b,e = .returned (.map (some b))/\U7 w w' b:=by
 have C0:CM w (w.alloc (.map #[] 0)) w.heap.size []:=⟨World.alloc_heap_new _ _,Nat.le_refl _,(vY.refl w).alloc _⟩;have HC0:=Lib.hid C0;have e0:=Go.run_makeMap_plain (P:=prog) (w:=w) 207;clear C0
 go_enter func138,ntmps138
 go_wp2_with (first
  | (go_at_call 194;refine(HZ _ 1 2).mono ?_;rintro e w' ⟨rfl,rfl⟩;have p0:zN w (((w.alloc (.map #[] 0)).alloc (.cells #[.int .u8 1] 5)).alloc (.cells #[.int .i64 2] 3)) w.heap.size 1 2 (.func (.func 253) #[] #[.pointer (some ⟨w.heap.size+1,0,none⟩),.pointer (some ⟨w.heap.size+1+1,0,none⟩)]):=(by have:=H5 HC0.out 1 2;simpa using this);obtain⟨Y0,I0,D0,g0⟩:=((HC0.out.alloc (.cells #[.int .u8 1] 5)).alloc (.cells #[.int .i64 2] 3)).put Bw (.func (.func 253) #[] #[.pointer (some ⟨w.heap.size+1,0,none⟩),.pointer (some ⟨w.heap.size+1+1,0,none⟩)]) (by first|decide|simp);have HC1:=Lib.hid D0;clear D0)
  | (go_at_call 194;refine(HZ _ 2 2).mono ?_;rintro e w' ⟨rfl,rfl⟩;have p1:zN w ((Y0.alloc (.cells #[.int .u8 2] 5)).alloc (.cells #[.int .i64 2] 3)) w.heap.size 2 2 (.func (.func 253) #[] #[.pointer (some ⟨Y0.heap.size,0,none⟩),.pointer (some ⟨Y0.heap.size+1,0,none⟩)]):=(H5 HC1.out 2 2);obtain⟨Y1,I1,D1,g1⟩:=((HC1.out.alloc (.cells #[.int .u8 2] 5)).alloc (.cells #[.int .i64 2] 3)).put Bz (.func (.func 253) #[] #[.pointer (some ⟨Y0.heap.size,0,none⟩),.pointer (some ⟨Y0.heap.size+1,0,none⟩)]) (by first|decide|simp);have HC2:=Lib.hid D1;clear D1)
  | (go_at_call 194;refine(HZ _ 3 2).mono ?_;rintro e w' ⟨rfl,rfl⟩;have p2:zN w ((Y1.alloc (.cells #[.int .u8 3] 5)).alloc (.cells #[.int .i64 2] 3)) w.heap.size 3 2 (.func (.func 253) #[] #[.pointer (some ⟨Y1.heap.size,0,none⟩),.pointer (some ⟨Y1.heap.size+1,0,none⟩)]):=(H5 HC2.out 3 2);obtain⟨Y2,I2,D2,g2⟩:=((HC2.out.alloc (.cells #[.int .u8 3] 5)).alloc (.cells #[.int .i64 2] 3)).put BA (.func (.func 253) #[] #[.pointer (some ⟨Y1.heap.size,0,none⟩),.pointer (some ⟨Y1.heap.size+1,0,none⟩)]) (by first|decide|simp);have HC3:=Lib.hid D2;clear D2)
  | (go_at_call 194;refine(HZ _ 4 2).mono ?_;rintro e w' ⟨rfl,rfl⟩;have p3:zN w ((Y2.alloc (.cells #[.int .u8 4] 5)).alloc (.cells #[.int .i64 2] 3)) w.heap.size 4 2 (.func (.func 253) #[] #[.pointer (some ⟨Y2.heap.size,0,none⟩),.pointer (some ⟨Y2.heap.size+1,0,none⟩)]):=(H5 HC3.out 4 2);obtain⟨Y3,I3,D3,g3⟩:=((HC3.out.alloc (.cells #[.int .u8 4] 5)).alloc (.cells #[.int .i64 2] 3)).put BB (.func (.func 253) #[] #[.pointer (some ⟨Y2.heap.size,0,none⟩),.pointer (some ⟨Y2.heap.size+1,0,none⟩)]) (by first|decide|simp);have HC4:=Lib.hid D3;clear D3)
  | (go_at_call 194;refine(HZ _ 7 2).mono ?_;rintro e w' ⟨rfl,rfl⟩;have p4:zN w ((Y3.alloc (.cells #[.int .u8 7] 5)).alloc (.cells #[.int .i64 2] 3)) w.heap.size 7 2 (.func (.func 253) #[] #[.pointer (some ⟨Y3.heap.size,0,none⟩),.pointer (some ⟨Y3.heap.size+1,0,none⟩)]):=(H5 HC4.out 7 2);obtain⟨Y4,I4,D4,g4⟩:=((HC4.out.alloc (.cells #[.int .u8 7] 5)).alloc (.cells #[.int .i64 2] 3)).put BC (.func (.func 253) #[] #[.pointer (some ⟨Y3.heap.size,0,none⟩),.pointer (some ⟨Y3.heap.size+1,0,none⟩)]) (by first|decide|simp);have HC5:=Lib.hid D4;clear D4)
  | (go_at_call 194;refine(HZ _ 6 3).mono ?_;rintro e w' ⟨rfl,rfl⟩;have p5:zN w ((Y4.alloc (.cells #[.int .u8 6] 5)).alloc (.cells #[.int .i64 3] 3)) w.heap.size 6 3 (.func (.func 253) #[] #[.pointer (some ⟨Y4.heap.size,0,none⟩),.pointer (some ⟨Y4.heap.size+1,0,none⟩)]):=(H5 HC5.out 6 3);obtain⟨Y5,I5,D5,g5⟩:=((HC5.out.alloc (.cells #[.int .u8 6] 5)).alloc (.cells #[.int .i64 3] 3)).put BD (.func (.func 253) #[] #[.pointer (some ⟨Y4.heap.size,0,none⟩),.pointer (some ⟨Y4.heap.size+1,0,none⟩)]) (by first|decide|simp);have HC6:=Lib.hid D5;clear D5)
  | (go_at_call 194;refine(HZ _ 5 1).mono ?_;rintro e w' ⟨rfl,rfl⟩;have p6:zN w ((Y5.alloc (.cells #[.int .u8 5] 5)).alloc (.cells #[.int .i64 1] 3)) w.heap.size 5 1 (.func (.func 253) #[] #[.pointer (some ⟨Y5.heap.size,0,none⟩),.pointer (some ⟨Y5.heap.size+1,0,none⟩)]):=(H5 HC6.out 5 1);obtain⟨Y6,I6,D6,g6⟩:=((HC6.out.alloc (.cells #[.int .u8 5] 5)).alloc (.cells #[.int .i64 1] 3)).put BF (.func (.func 253) #[] #[.pointer (some ⟨Y5.heap.size,0,none⟩),.pointer (some ⟨Y5.heap.size+1,0,none⟩)]) (by first|decide|simp);have HC7:=Lib.hid D6;clear D6)
  | (go_at_call 194;refine(HZ _ 8 1).mono ?_;rintro e w' ⟨rfl,rfl⟩;have p7:zN w ((Y6.alloc (.cells #[.int .u8 8] 5)).alloc (.cells #[.int .i64 1] 3)) w.heap.size 8 1 (.func (.func 253) #[] #[.pointer (some ⟨Y6.heap.size,0,none⟩),.pointer (some ⟨Y6.heap.size+1,0,none⟩)]):=(H5 HC7.out 8 1);obtain⟨Y7,I7,D7,g7⟩:=((HC7.out.alloc (.cells #[.int .u8 8] 5)).alloc (.cells #[.int .i64 1] 3)).put BG (.func (.func 253) #[] #[.pointer (some ⟨Y6.heap.size,0,none⟩),.pointer (some ⟨Y6.heap.size+1,0,none⟩)]) (by first|decide|simp);have HC8:=Lib.hid D7;clear D7)
  | (go_at_call 194;refine(HZ _ 9 1).mono ?_;rintro e w' ⟨rfl,rfl⟩;have p8:zN w ((Y7.alloc (.cells #[.int .u8 9] 5)).alloc (.cells #[.int .i64 1] 3)) w.heap.size 9 1 (.func (.func 253) #[] #[.pointer (some ⟨Y7.heap.size,0,none⟩),.pointer (some ⟨Y7.heap.size+1,0,none⟩)]):=(H5 HC8.out 9 1);obtain⟨Y8,I8,D8,g8⟩:=((HC8.out.alloc (.cells #[.int .u8 9] 5)).alloc (.cells #[.int .i64 1] 3)).put BH (.func (.func 253) #[] #[.pointer (some ⟨Y7.heap.size,0,none⟩),.pointer (some ⟨Y7.heap.size+1,0,none⟩)]) (by first|decide|simp);have HC9:=Lib.hid D8;clear D8)
  | (go_at_call 194;refine(HZ _ 13 2).mono ?_;rintro e w' ⟨rfl,rfl⟩;have p9:zN w ((Y8.alloc (.cells #[.int .u8 13] 5)).alloc (.cells #[.int .i64 2] 3)) w.heap.size 13 2 (.func (.func 253) #[] #[.pointer (some ⟨Y8.heap.size,0,none⟩),.pointer (some ⟨Y8.heap.size+1,0,none⟩)]):=(H5 HC9.out 13 2);obtain⟨Y9,I9,D9,g9⟩:=((HC9.out.alloc (.cells #[.int .u8 13] 5)).alloc (.cells #[.int .i64 2] 3)).put BI (.func (.func 253) #[] #[.pointer (some ⟨Y8.heap.size,0,none⟩),.pointer (some ⟨Y8.heap.size+1,0,none⟩)]) (by first|decide|simp);have HC10:=Lib.hid D9;clear D9)
  | (go_at_call 194;refine(HZ _ 14 2).mono ?_;rintro e w' ⟨rfl,rfl⟩;have p10:zN w ((Y9.alloc (.cells #[.int .u8 14] 5)).alloc (.cells #[.int .i64 2] 3)) w.heap.size 14 2 (.func (.func 253) #[] #[.pointer (some ⟨Y9.heap.size,0,none⟩),.pointer (some ⟨Y9.heap.size+1,0,none⟩)]):=(H5 HC10.out 14 2);obtain⟨Y10,I10,D10,g10⟩:=((HC10.out.alloc (.cells #[.int .u8 14] 5)).alloc (.cells #[.int .i64 2] 3)).put BJ (.func (.func 253) #[] #[.pointer (some ⟨Y9.heap.size,0,none⟩),.pointer (some ⟨Y9.heap.size+1,0,none⟩)]) (by first|decide|simp);have HC11:=Lib.hid D10;clear D10;obtain⟨Z0,J0,E0,f0⟩:=(HC11.out).put A9 (.func (.func 195) #[] #[]) (by first|decide|simp);obtain⟨Z1,J1,E1,f1⟩:=(E0).put Ba (.func (.func 199) #[] #[]) (by first|decide|simp);obtain⟨Z2,J2,E2,f2⟩:=(E1).put Bb (.func (.func 201) #[] #[]) (by first|decide|simp);obtain⟨Z3,J3,E3,f3⟩:=(E2).put Bc (.func (.func 202) #[] #[]) (by first|decide|simp);obtain⟨Z4,J4,E4,f4⟩:=(E3).put Bd (.func (.func 206) #[] #[]) (by first|decide|simp);obtain⟨Z5,J5,E5,f5⟩:=(E4).put Be (.func (.func 209) #[] #[]) (by first|decide|simp)))
 go_ret
 have c10:Y10.grownBy Z5 (some w.heap.size):=grownBy_trans f0 (grownBy_trans f1 (grownBy_trans f2 (grownBy_trans f3 (grownBy_trans f4 f5))));have c9:Y9.grownBy Z5 (some w.heap.size):=grownBy_trans (World.grownBy_alloc _ _ _) (grownBy_trans (World.grownBy_alloc _ _ _) (grownBy_trans g10 c10));have c8:Y8.grownBy Z5 (some w.heap.size):=grownBy_trans (World.grownBy_alloc _ _ _) (grownBy_trans (World.grownBy_alloc _ _ _) (grownBy_trans g9 c9));have c7:Y7.grownBy Z5 (some w.heap.size):=grownBy_trans (World.grownBy_alloc _ _ _) (grownBy_trans (World.grownBy_alloc _ _ _) (grownBy_trans g8 c8));have c6:Y6.grownBy Z5 (some w.heap.size):=grownBy_trans (World.grownBy_alloc _ _ _) (grownBy_trans (World.grownBy_alloc _ _ _) (grownBy_trans g7 c7));have c5:Y5.grownBy Z5 (some w.heap.size):=grownBy_trans (World.grownBy_alloc _ _ _) (grownBy_trans (World.grownBy_alloc _ _ _) (grownBy_trans g6 c6));have c4:Y4.grownBy Z5 (some w.heap.size):=grownBy_trans (World.grownBy_alloc _ _ _) (grownBy_trans (World.grownBy_alloc _ _ _) (grownBy_trans g5 c5));have c3:Y3.grownBy Z5 (some w.heap.size):=grownBy_trans (World.grownBy_alloc _ _ _) (grownBy_trans (World.grownBy_alloc _ _ _) (grownBy_trans g4 c4));have c2:Y2.grownBy Z5 (some w.heap.size):=grownBy_trans (World.grownBy_alloc _ _ _) (grownBy_trans (World.grownBy_alloc _ _ _) (grownBy_trans g3 c3));have c1:Y1.grownBy Z5 (some w.heap.size):=grownBy_trans (World.grownBy_alloc _ _ _) (grownBy_trans (World.grownBy_alloc _ _ _) (grownBy_trans g2 c2));have c0:Y0.grownBy Z5 (some w.heap.size):=grownBy_trans (World.grownBy_alloc _ _ _) (grownBy_trans (World.grownBy_alloc _ _ _) (grownBy_trans g1 c1));exact⟨_,rfl,_,_,_,_,_,_,_,_,_,_,_,E5,p0.kept (grownBy_trans g0 c0),p1.kept (grownBy_trans g1 c1),p2.kept (grownBy_trans g2 c2),p3.kept (grownBy_trans g3 c3),p4.kept (grownBy_trans g4 c4),p5.kept (grownBy_trans g5 c5),p6.kept (grownBy_trans g6 c6),p7.kept (grownBy_trans g7 c7),p8.kept (grownBy_trans g8 c8),p9.kept (grownBy_trans g9 c9),p10.kept (grownBy_trans g10 c10)⟩
theorem ayZ (w:World):(Instr.typeAssert (.iface 38 (.int .i64 3)) 20 38 true).run prog w = .ok (.tuple #[.int .i64 3,.bool true]) w:=by have h:=underlying38;simp[Instr.typeAssert,run_underlying h,Result.andThen]
theorem ay0 (w:World):(Instr.typeAssert .nilIface 20 38 true).run prog w = .ok (.tuple #[.int .i64 0,.bool false]) w:=by have h:=underlying38;simp[Instr.typeAssert,run_underlying h,Result.andThen,Tryz.zeroValue38]
theorem U8 (pd pk:Nat) (v0:Value) (older:List PanicEntry) (w:World) (hne:pd≠pk) (hd:w.heap[pd]? = some (.cells #[v0] 109)) (hk:w.heap[pk]? = some (.cells #[.bool false] 4)) :
  CallsD prog 137 #[.pointer (some ⟨pd,0,none⟩),.pointer (some ⟨pk,0,none⟩)] (.panicking ({ v:=.iface 38 (.int .i64 3),recovered:=false } :: older)) w λe u' w' =>
   e = .returned (.tuple #[])/\u' = .panicking ({ v:=.iface 38 (.int .i64 3),recovered:=true } :: older)/\w'=(w.setCell ⟨pd,0,none⟩ .nilFunc).setCell ⟨pk,0,none⟩ (.bool false):=by
 have c0:w.cell? ⟨pd,0,none⟩=some v0:=by simp[World.cell?,hd]
 have z0:w.frozen? ⟨pd,0,none⟩=false:=by simp[World.frozen?,hd]
 have c1:w.cell? ⟨pk,0,none⟩=some (.bool false):=by simp[World.cell?,hk]
 have z1:w.frozen? ⟨pk,0,none⟩=false:=by simp[World.frozen?,hk]
 have ha:=ayZ w;refine callsD_of_wpS func137 rfl λc₀ cs hu=>?_
 simp only[ntmps137,List.size_toArray,List.length_cons,List.length_nil,Nat.reduceAdd,Nat.reduceSub,Array.replicate_succ,Array.replicate_zero,List.push_toArray,List.append_toArray,List.nil_append,List.cons_append];apply wpS_seq;apply wpS_region;simp[wpOpsS,go_sem,recoverD,hu,ha,Exit.thenS];apply wpS_seq;apply wpS_region;simp[wpOpsS,go_sem,Exit.thenS];refine wpS_cond (t:=true) (by simp[Act.eval]) ?_;simp only[if_true];apply wpS_region;have hk2:(w.setCell ⟨pd,0,none⟩ .nilFunc).heap[pk]? = some (.cells #[.bool false] 4):=((yQ w pd 0 .nilFunc).block _ (Array.getElem?_eq_some_iff.1 hk).1 (λe=>hne (Option.some.inj e).symm)).trans hk;have c2:(w.setCell ⟨pd,0,none⟩ .nilFunc).cell? ⟨pk,0,none⟩=some (.bool false):=by simp[World.cell?,hk2]
 have z2:(w.setCell ⟨pd,0,none⟩ .nilFunc).frozen? ⟨pk,0,none⟩=false:=by simp[World.frozen?,hk2]
 have hst:=run_store prog w ⟨pd,0,none⟩ .nilFunc .plain rfl;simp[wpOpsS,go_sem,hst,c0,z0,c2,z2,bodyPostS,results,results137]
theorem alF (pd pk:Nat) (w:World) :
  CallsD prog 137 #[.pointer (some ⟨pd,0,none⟩),.pointer (some ⟨pk,0,none⟩)] .returning w λe u' w'=>e = .returned (.tuple #[])/\u' = .returning/\w'=w:=by
 have ha:=ay0 w;refine callsD_of_wpS func137 rfl λc₀ cs hu=>?_
 simp only[ntmps137,List.size_toArray,List.length_cons,List.length_nil,Nat.reduceAdd,Nat.reduceSub,Array.replicate_succ,Array.replicate_zero,List.push_toArray,List.append_toArray,List.nil_append,List.cons_append];apply wpS_seq;apply wpS_region;simp[wpOpsS,go_sem,recoverD,hu,ha,Exit.thenS];apply wpS_seq;apply wpS_region;simp[wpOpsS,go_sem,Exit.thenS];refine wpS_cond (t:=false) (by simp[Act.eval]) ?_;simp only[Bool.false_eq_true,if_false];refine wpS_of_wp (wp_skip ?_);cases c₀;simp_all[bodyPostS,results,results137]
theorem Da {w X:World} {b:Nat} {l r:List (ByteArray×Value)} {k:ByteArray} {v:Value} (h:CM w X b (l++(k,v)::r)) (hk:∀ x∈l,k≠x.1) :
  (Instr.lookup Ke (.map (some b)) (.string k) true).run prog X = .ok (.tuple #[v,.bool true]) X:=by
 have hb:=h.1;have hku:prog.underlying 9=some .string:=underlying9;have hm:prog.underlying Ke=some (.map 9 205):=underlying207;obtain⟨q,hq⟩:=alC k v l r 0 0 hk;have hc:∀ em,(Instr.checkKey em 10000 9 (.string k)).run prog X = .ok () X:=λem=>MapKept.run_checkKey (k:=.string k) hku (by simp[MapKept.IsKey]) em 9999
 simp[Instr.lookup,run_underlying hm,MapKept.run_getObj_map hb,hc,MapKept.run_findKey hku hq,Result.andThen]
theorem ay1 {w X:World} {b:Nat} {l:List (ByteArray×Value)} {k:ByteArray} (h:CM w X b l) (hk:∀ x∈l,k≠x.1) :
  (Instr.lookup Ke (.map (some b)) (.string k) true).run prog X = .ok (.tuple #[.nilFunc,.bool false]) X:=by
 have hb:=h.1;have hku:prog.underlying 9=some .string:=underlying9;have hm:prog.underlying Ke=some (.map 9 205):=underlying207;have hq:=aep k l 0 0 hk;have hc:∀ em,(Instr.checkKey em 10000 9 (.string k)).run prog X = .ok () X:=λem=>MapKept.run_checkKey (k:=.string k) hku (by simp[MapKept.IsKey]) em 9999
 simp[Instr.lookup,run_underlying hm,MapKept.run_getObj_map hb,hc,MapKept.run_findKey hku hq,Result.andThen,Tryz.zeroValue205]
def yG (s:ByteArray) (ws:List ByteArray):Option (xN×List ByteArray) :=
 if s=Bw then zW 1 2 ws else
 if s=Bz then zW 2 2 ws else
 if s=BA then zW 3 2 ws else
 if s=BB then zW 4 2 ws else
 if s=BC then zW 7 2 ws else
 if s=BD then zW 6 3 ws else
 if s=BF then zW 5 1 ws else
 if s=BG then zW 8 1 ws else
 if s=BH then zW 9 1 ws else
 if s=BI then zW 13 2 ws else
 if s=BJ then zW 14 2 ws else
 if s=A9 then EB ws else
 if s=Ba then Fy ws else
 if s=Bb then Fz ws else
 if s=Bc then AL ws else
 if s=Bd then some (.clear,ws) else
 if s=Be then some (.sticky,ws) else
 none
theorem enters {f:FuncId} {fn:Func} (hf:prog.funcs[f]? = some fn) (hn:(fn.name == "runtime.NumGoroutine")=false) (hb:fn.body.isSome=true):∀ args w,(callFunc f args).run prog w = .ok (.enter f args) w:=by
 intro args w;obtain⟨c,hb⟩:=Option.isSome_iff_exists.1 hb
 have hn':fn.name ≠ "runtime.NumGoroutine":=by simpa using hn
 simp[callFunc,go_sem,hf,hn',hb]
def aeq (X:World) (s:ByteArray) (v:Value):Prop :=
 ∃ g caps,v = .func (.func g) #[] caps/\(∀ args w,(callFunc g args).run prog w = .ok (.enter g args) w)/\∀ W B ws,X.grownBy W none->X.heap.size<=B->yh W B ws->Calls prog g (#[.pointer (some ⟨B,0,none⟩)]++caps) W (IV W B (yG s ws))
theorem H6 {w X:World} {b:Nat} {s:ByteArray} {v:Value} {o:Int} {n:Nat} (hn:n<=3) (h:zN w X b o n v) (hs:∀ ws,yG s ws=zW o n ws):aeq X s v:=by obtain⟨p,q,h1,h2,h3,h4,h5,h6,h7⟩:=h;have hp:=(Array.getElem?_eq_some_iff.1 h6).1;have hq:=(Array.getElem?_eq_some_iff.1 h7).1;refine⟨_,_,h1,enters func253 rfl rfl,λW B ws hg hB hW=>?_⟩;rw[hs];exact ayW hW p q o n hn (by omega) (by omega) ((hg.block _ hp (by simp)).trans h6) ((hg.block _ hq (by simp)).trans h7)
theorem look {w X:World} {b:Nat} (h:U7 w X b) (s:ByteArray) :
  (∃ v,(Instr.lookup Ke (.map (some b)) (.string s) true).run prog X = .ok (.tuple #[v,.bool true]) X/\aeq X s v) \/
  ((Instr.lookup Ke (.map (some b)) (.string s) true).run prog X = .ok (.tuple #[.nilFunc,.bool false]) X/\∀ ws,yG s ws=none):=by
 obtain⟨v0,v1,v2,v3,v4,v5,v6,v7,v8,v9,v10,hC,p0,p1,p2,p3,p4,p5,p6,p7,p8,p9,p10⟩:=h;by_cases e0:s=Bw
 ·subst e0;left;refine⟨_,Da (l:=[]) (r:=[(Bz,v1),(BA,v2),(BB,v3),(BC,v4),(BD,v5),(BF,v6),(BG,v7),(BH,v8),(BI,v9),(BJ,v10),(A9,.func (.func 195) #[] #[]),(Ba,.func (.func 199) #[] #[]),(Bb,.func (.func 201) #[] #[]),(Bc,.func (.func 202) #[] #[]),(Bd,.func (.func 206) #[] #[]),(Be,.func (.func 209) #[] #[])]) hC (by simp;try decide),?_⟩;exact H6 (by decide) p0 λws=>by unfold yG;first|rfl|(simp;done)|decide
 by_cases e1:s=Bz
 ·subst e1;left;refine⟨_,Da (l:=[(Bw,v0)]) (r:=[(BA,v2),(BB,v3),(BC,v4),(BD,v5),(BF,v6),(BG,v7),(BH,v8),(BI,v9),(BJ,v10),(A9,.func (.func 195) #[] #[]),(Ba,.func (.func 199) #[] #[]),(Bb,.func (.func 201) #[] #[]),(Bc,.func (.func 202) #[] #[]),(Bd,.func (.func 206) #[] #[]),(Be,.func (.func 209) #[] #[])]) hC (by simp;try decide),?_⟩;exact H6 (by decide) p1 λws=>by unfold yG;first|rfl|(simp;done)|decide
 by_cases e2:s=BA
 ·subst e2;left;refine⟨_,Da (l:=[(Bw,v0),(Bz,v1)]) (r:=[(BB,v3),(BC,v4),(BD,v5),(BF,v6),(BG,v7),(BH,v8),(BI,v9),(BJ,v10),(A9,.func (.func 195) #[] #[]),(Ba,.func (.func 199) #[] #[]),(Bb,.func (.func 201) #[] #[]),(Bc,.func (.func 202) #[] #[]),(Bd,.func (.func 206) #[] #[]),(Be,.func (.func 209) #[] #[])]) hC (by simp;try decide),?_⟩;exact H6 (by decide) p2 λws=>by unfold yG;first|rfl|(simp;done)|decide
 by_cases e3:s=BB
 ·subst e3;left;refine⟨_,Da (l:=[(Bw,v0),(Bz,v1),(BA,v2)]) (r:=[(BC,v4),(BD,v5),(BF,v6),(BG,v7),(BH,v8),(BI,v9),(BJ,v10),(A9,.func (.func 195) #[] #[]),(Ba,.func (.func 199) #[] #[]),(Bb,.func (.func 201) #[] #[]),(Bc,.func (.func 202) #[] #[]),(Bd,.func (.func 206) #[] #[]),(Be,.func (.func 209) #[] #[])]) hC (by simp;try decide),?_⟩;exact H6 (by decide) p3 λws=>by unfold yG;first|rfl|(simp;done)|decide
 by_cases e4:s=BC
 ·subst e4;left;refine⟨_,Da (l:=[(Bw,v0),(Bz,v1),(BA,v2),(BB,v3)]) (r:=[(BD,v5),(BF,v6),(BG,v7),(BH,v8),(BI,v9),(BJ,v10),(A9,.func (.func 195) #[] #[]),(Ba,.func (.func 199) #[] #[]),(Bb,.func (.func 201) #[] #[]),(Bc,.func (.func 202) #[] #[]),(Bd,.func (.func 206) #[] #[]),(Be,.func (.func 209) #[] #[])]) hC (by simp;try decide),?_⟩;exact H6 (by decide) p4 λws=>by unfold yG;first|rfl|(simp;done)|decide
 by_cases e5:s=BD
 ·subst e5;left;refine⟨_,Da (l:=[(Bw,v0),(Bz,v1),(BA,v2),(BB,v3),(BC,v4)]) (r:=[(BF,v6),(BG,v7),(BH,v8),(BI,v9),(BJ,v10),(A9,.func (.func 195) #[] #[]),(Ba,.func (.func 199) #[] #[]),(Bb,.func (.func 201) #[] #[]),(Bc,.func (.func 202) #[] #[]),(Bd,.func (.func 206) #[] #[]),(Be,.func (.func 209) #[] #[])]) hC (by simp;try decide),?_⟩;exact H6 (by decide) p5 λws=>by unfold yG;first|rfl|(simp;done)|decide
 by_cases e6:s=BF
 ·subst e6;left;refine⟨_,Da (l:=[(Bw,v0),(Bz,v1),(BA,v2),(BB,v3),(BC,v4),(BD,v5)]) (r:=[(BG,v7),(BH,v8),(BI,v9),(BJ,v10),(A9,.func (.func 195) #[] #[]),(Ba,.func (.func 199) #[] #[]),(Bb,.func (.func 201) #[] #[]),(Bc,.func (.func 202) #[] #[]),(Bd,.func (.func 206) #[] #[]),(Be,.func (.func 209) #[] #[])]) hC (by simp;try decide),?_⟩;exact H6 (by decide) p6 λws=>by unfold yG;first|rfl|(simp;done)|decide
 by_cases e7:s=BG
 ·subst e7;left;refine⟨_,Da (l:=[(Bw,v0),(Bz,v1),(BA,v2),(BB,v3),(BC,v4),(BD,v5),(BF,v6)]) (r:=[(BH,v8),(BI,v9),(BJ,v10),(A9,.func (.func 195) #[] #[]),(Ba,.func (.func 199) #[] #[]),(Bb,.func (.func 201) #[] #[]),(Bc,.func (.func 202) #[] #[]),(Bd,.func (.func 206) #[] #[]),(Be,.func (.func 209) #[] #[])]) hC (by simp;try decide),?_⟩;exact H6 (by decide) p7 λws=>by unfold yG;first|rfl|(simp;done)|decide
 by_cases e8:s=BH
 ·subst e8;left;refine⟨_,Da (l:=[(Bw,v0),(Bz,v1),(BA,v2),(BB,v3),(BC,v4),(BD,v5),(BF,v6),(BG,v7)]) (r:=[(BI,v9),(BJ,v10),(A9,.func (.func 195) #[] #[]),(Ba,.func (.func 199) #[] #[]),(Bb,.func (.func 201) #[] #[]),(Bc,.func (.func 202) #[] #[]),(Bd,.func (.func 206) #[] #[]),(Be,.func (.func 209) #[] #[])]) hC (by simp;try decide),?_⟩;exact H6 (by decide) p8 λws=>by unfold yG;first|rfl|(simp;done)|decide
 by_cases e9:s=BI
 ·subst e9;left;refine⟨_,Da (l:=[(Bw,v0),(Bz,v1),(BA,v2),(BB,v3),(BC,v4),(BD,v5),(BF,v6),(BG,v7),(BH,v8)]) (r:=[(BJ,v10),(A9,.func (.func 195) #[] #[]),(Ba,.func (.func 199) #[] #[]),(Bb,.func (.func 201) #[] #[]),(Bc,.func (.func 202) #[] #[]),(Bd,.func (.func 206) #[] #[]),(Be,.func (.func 209) #[] #[])]) hC (by simp;try decide),?_⟩;exact H6 (by decide) p9 λws=>by unfold yG;first|rfl|(simp;done)|decide
 by_cases e10:s=BJ
 ·subst e10;left;refine⟨_,Da (l:=[(Bw,v0),(Bz,v1),(BA,v2),(BB,v3),(BC,v4),(BD,v5),(BF,v6),(BG,v7),(BH,v8),(BI,v9)]) (r:=[(A9,.func (.func 195) #[] #[]),(Ba,.func (.func 199) #[] #[]),(Bb,.func (.func 201) #[] #[]),(Bc,.func (.func 202) #[] #[]),(Bd,.func (.func 206) #[] #[]),(Be,.func (.func 209) #[] #[])]) hC (by simp;try decide),?_⟩;exact H6 (by decide) p10 λws=>by unfold yG;first|rfl|(simp;done)|decide
 by_cases e11:s=A9
 ·subst e11;left;refine⟨_,Da (l:=[(Bw,v0),(Bz,v1),(BA,v2),(BB,v3),(BC,v4),(BD,v5),(BF,v6),(BG,v7),(BH,v8),(BI,v9),(BJ,v10)]) (r:=[(Ba,.func (.func 199) #[] #[]),(Bb,.func (.func 201) #[] #[]),(Bc,.func (.func 202) #[] #[]),(Bd,.func (.func 206) #[] #[]),(Be,.func (.func 209) #[] #[])]) hC (by simp;try decide),?_⟩;refine⟨_,_,rfl,enters func195 rfl rfl,λW B ws hg hB hW=>?_⟩;have hs:yG A9 ws=EB ws:=by unfold yG;first|rfl|(simp;done)
  rw[hs];exact ayN hW
 by_cases e12:s=Ba
 ·subst e12;left;refine⟨_,Da (l:=[(Bw,v0),(Bz,v1),(BA,v2),(BB,v3),(BC,v4),(BD,v5),(BF,v6),(BG,v7),(BH,v8),(BI,v9),(BJ,v10),(A9,.func (.func 195) #[] #[])]) (r:=[(Bb,.func (.func 201) #[] #[]),(Bc,.func (.func 202) #[] #[]),(Bd,.func (.func 206) #[] #[]),(Be,.func (.func 209) #[] #[])]) hC (by simp;try decide),?_⟩;refine⟨_,_,rfl,enters func199 rfl rfl,λW B ws hg hB hW=>?_⟩;have hs:yG Ba ws=Fy ws:=by unfold yG;first|rfl|(simp;done)
  rw[hs];exact ayO hW
 by_cases e13:s=Bb
 ·subst e13;left;refine⟨_,Da (l:=[(Bw,v0),(Bz,v1),(BA,v2),(BB,v3),(BC,v4),(BD,v5),(BF,v6),(BG,v7),(BH,v8),(BI,v9),(BJ,v10),(A9,.func (.func 195) #[] #[]),(Ba,.func (.func 199) #[] #[])]) (r:=[(Bc,.func (.func 202) #[] #[]),(Bd,.func (.func 206) #[] #[]),(Be,.func (.func 209) #[] #[])]) hC (by simp;try decide),?_⟩;refine⟨_,_,rfl,enters func201 rfl rfl,λW B ws hg hB hW=>?_⟩;have hs:yG Bb ws=Fz ws:=by unfold yG;first|rfl|(simp;done)
  rw[hs];exact ayP hW
 by_cases e14:s=Bc
 ·subst e14;left;refine⟨_,Da (l:=[(Bw,v0),(Bz,v1),(BA,v2),(BB,v3),(BC,v4),(BD,v5),(BF,v6),(BG,v7),(BH,v8),(BI,v9),(BJ,v10),(A9,.func (.func 195) #[] #[]),(Ba,.func (.func 199) #[] #[]),(Bb,.func (.func 201) #[] #[])]) (r:=[(Bd,.func (.func 206) #[] #[]),(Be,.func (.func 209) #[] #[])]) hC (by simp;try decide),?_⟩;refine⟨_,_,rfl,enters func202 rfl rfl,λW B ws hg hB hW=>?_⟩;have hs:yG Bc ws=AL ws:=by unfold yG;first|rfl|(simp;done)
  rw[hs];exact ayS hW
 by_cases e15:s=Bd
 ·subst e15;left;refine⟨_,Da (l:=[(Bw,v0),(Bz,v1),(BA,v2),(BB,v3),(BC,v4),(BD,v5),(BF,v6),(BG,v7),(BH,v8),(BI,v9),(BJ,v10),(A9,.func (.func 195) #[] #[]),(Ba,.func (.func 199) #[] #[]),(Bb,.func (.func 201) #[] #[]),(Bc,.func (.func 202) #[] #[])]) (r:=[(Be,.func (.func 209) #[] #[])]) hC (by simp;try decide),?_⟩;refine⟨_,_,rfl,enters func206 rfl rfl,λW B ws hg hB hW=>?_⟩;have hs:yG Bd ws=some (.clear,ws):=by unfold yG;first|rfl|(simp;done)
  rw[hs];exact ayQ hW
 by_cases e16:s=Be
 ·subst e16;left;refine⟨_,Da (l:=[(Bw,v0),(Bz,v1),(BA,v2),(BB,v3),(BC,v4),(BD,v5),(BF,v6),(BG,v7),(BH,v8),(BI,v9),(BJ,v10),(A9,.func (.func 195) #[] #[]),(Ba,.func (.func 199) #[] #[]),(Bb,.func (.func 201) #[] #[]),(Bc,.func (.func 202) #[] #[]),(Bd,.func (.func 206) #[] #[])]) (r:=[]) hC (by simp;try decide),?_⟩;refine⟨_,_,rfl,enters func209 rfl rfl,λW B ws hg hB hW=>?_⟩;have hs:yG Be ws=some (.sticky,ws):=by unfold yG;first|rfl|(simp;done)
  rw[hs];exact ayR hW
 right;refine⟨ay1 hC (by simp[alE];exact⟨e0,e1,e2,e3,e4,e5,e6,e7,e8,e9,e10,e11,e12,e13,e14,e15,e16⟩),λws=>by unfold yG;simp[e0,e1,e2,e3,e4,e5,e6,e7,e8,e9,e10,e11,e12,e13,e14,e15,e16]⟩
end Go.Proofs.YtippohicjhilnaaGreatDoor.Sp
