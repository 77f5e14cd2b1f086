import Derived.Test.YtbembkamcdlhbaaGreatDoorZ5Sc
import Derived.Test.YtbembkamcdlhbaaGreatDoorZ7Sc
import Derived.Test.YtbembkamcdlhbaaGreatDoorZ8Sc
import Derived.Maps.AppendAt
import Derived.OwnWalk
import Derived.StillTailTactics
set_option linter.unusedSimpArgs false
set_option linter.unusedVariables false
set_option maxRecDepth 100000
set_option maxHeartbeats 8000000
namespace Go.Proofs.YtbembkamcdlhbaaGreatDoor.Sp
open Go.RowKit Go.Shelf FlagM
attribute [local go_sem] Oper.semAt_some
def xz (x:Nat):Bool:=(decide (48≤x)&&decide (x≤57))||(decide (97≤x)&&decide (x≤102))
def xK (s:ByteArray):Bool:=decide (0<s.size)&&decide (s.size≤32)&&s.data.toList.all (fun c=>xz c.toNat)
theorem alS (l:List UInt8) (k:Nat) (h:k<l.length):l.all (fun c=>xz c.toNat)=((l.take k).all (fun c=>xz c.toNat)&&(xz l[k].toNat&&(l.drop (k+1)).all (fun c=>xz c.toNat))):=by
 conv=>lhs;rw[← List.take_append_drop k l,List.drop_eq_getElem_cons h]
 rw[List.all_append,List.all_cons]
theorem alT (l:List UInt8) (k:Nat) (h:k<l.length):(l.take (k+1)).all (fun c=>xz c.toNat)=((l.take k).all (fun c=>xz c.toNat)&&xz l[k].toNat):=by
 rw[List.take_succ_eq_append_getElem h,List.all_append];simp
abbrev zB:Obj:=.cells #[.int .u64 0,.int .u64 0] 27
theorem Ei (w:World) (A B:Obj):((w.alloc A).alloc B).heap[w.heap.size]? = some A:=by
 show((w.heap.push A).push B)[w.heap.size]? = _
 rw[Array.getElem?_push,if_neg (by simp),Array.getElem?_push,if_pos rfl]
theorem Ej {W:World} {b:Nat} {a0 a1:Value} {t:TypeId} (h:W.heap[b]? = some (.cells #[a0,a1] t)):W.cell? ⟨b,0,none⟩=some a0∧W.cell? ⟨b,1,none⟩=some a1∧W.frozen? ⟨b,0,none⟩=false∧W.frozen? ⟨b,1,none⟩=false:=by
 refine⟨?_,?_,?_,?_⟩<;>simp[World.cell?,World.frozen?,h]
theorem JI {w W:World} {b:Nat} (h:q9 w W) (hb:w.heap.size≤b) (v0 v1:Value):q9 w ((W.setCell ⟨b,0,none⟩ v0).setCell ⟨b,1,none⟩ v1):=(h.set hb v0).set hb v1
theorem JJ {W:World} {b c i:Nat} (h:b≠c) (v:Value):(W.setCell ⟨b,i,none⟩ v).heap[c]? = W.heap[c]?:=by
 show(W.heap.modify b _)[c]? = _
 rw[Array.getElem?_modify,if_neg h]
theorem TJ (w:World) (s:ByteArray):Calls Tryz.prog 205 #[.string s] w fun e w'=>(∃ hi lo:Int,e = .returned (.tuple #[xZ (hi,lo),.bool (xK s)]))∧q9 w w':=by
 have hA0:=Ei w zB zB
 have hA1:=BG w zB zB
 have hB0:q9 w ((w.alloc zB).alloc zB):=q9.alloc (q9.alloc (q9.refl w) _) _
 by_cases h0:s.size=0
 ·have q1:((s.size:Int)==0)=true:=by simp[h0]
  have hn:xK s=false:=by simp[xK,h0]
  rw[hn]
  clear hn
  go_enter Tryz.func205,Tryz.ntmps205
  go_wp2
  generalize (w.alloc zB).alloc zB=W0 at *
  obtain⟨f0,f1,_,_⟩:=Ej hA0
  exact bodyPost_ret (v:=.tuple #[xZ (0,0),.bool false]) (by simp[results,Tryz.results205,go_sem,f0,f1,xZ]) rfl ⟨⟨0,0,rfl⟩,hB0⟩
 by_cases h32:s.size≤32
 ·have q1:((s.size:Int)==0)=false:=by simp;intro e;exact h0 (by show s.data.size=0;simp[e])
  have q2:¬ (s.size:Int)>32:=by omega
  have hlen:s.data.toList.length=s.size:=by simp
  obtain⟨N,hNo⟩:∃ N,N=xK s:=⟨_,rfl⟩
  rw[← hNo]
  have hN2:N=s.data.toList.all (fun c=>xz c.toNat):=by
   rw[hNo,xK,decide_eq_true (show 0<s.size by omega),decide_eq_true h32];rfl
  have hN:=Lib.hid hN2
  clear hN2 hNo
  go_enter Tryz.func205,Tryz.ntmps205
  go_wp2
  generalize (w.alloc zB).alloc zB=W0 at *
  go_loopw [5] (fun i W=>∃ k:Nat,k≤s.size∧i = .int .i64 (k:Int)∧q9 w W∧(∃ hi lo:Int,W.heap[w.heap.size+1]? = some (.cells #[.int .u64 hi,.int .u64 lo] 27))∧W.heap[w.heap.size]? = some zB∧Hid ((s.data.toList.take k).all (fun c=>xz c.toNat)=true)) (fun i _=>s.size-(intOf i).toNat)
  case atStart=>exact⟨0,Nat.zero_le _,rfl,hB0,⟨0,0,hA1⟩,hA0,Lib.hid (by simp)⟩
  case round =>
   obtain⟨k,hk,rfl,hB,⟨hi,lo,hR1⟩,hR0,hall⟩:=hrel
   obtain⟨c0,c1,z0,z1⟩:=Ej hR1
   obtain⟨d0,d1,y0,y1⟩:=Ej hR0
   by_cases hlt:k<s.size
   ·have q3:(k:Int)<(s.size:Int):=by omega
    have hsp:=Lib.hid (alS s.data.toList k (by omega))
    have htk:=Lib.hid (alT s.data.toList k (by omega))
    have hx:s.data.toList[k]'(by omega)=s[k]:=rfl
    rw[hx] at hsp htk
    clear hx
    by_cases ha:48≤s[k].toNat∧s[k].toNat≤57
    ·have q4:(48:Int)≤(s[k].toNat:Int):=by omega
     have q5:(s[k].toNat:Int)≤57:=by omega
     have hd:xz s[k].toNat=true:=by simp[xz];omega
     go_wp2
     exact⟨⟨k+1,by omega,by simp,JI hB (by omega) _ _,⟨_,_,set2 hR1 _ _⟩,((JJ (by omega) _).trans (JJ (by omega) _)).trans hR0,Lib.hid (by rw[htk.out,hall.out,hd];rfl)⟩,by simp only[intOf];omega⟩
    ·by_cases hb:97≤s[k].toNat∧s[k].toNat≤102
     ·have q4:(48:Int)≤(s[k].toNat:Int):=by omega
      have q5:¬ (s[k].toNat:Int)≤57:=by omega
      have q6:(97:Int)≤(s[k].toNat:Int):=by omega
      have q7:(s[k].toNat:Int)≤102:=by omega
      have hd:xz s[k].toNat=true:=by simp[xz];omega
      go_wp2
      exact⟨⟨k+1,by omega,by simp,JI hB (by omega) _ _,⟨_,_,set2 hR1 _ _⟩,((JJ (by omega) _).trans (JJ (by omega) _)).trans hR0,Lib.hid (by rw[htk.out,hall.out,hd];rfl)⟩,by simp only[intOf];omega⟩
     ·have hd:xz s[k].toNat=false:=by simp[xz];omega
      have hNf:N=false:=by rw[hN.out,hsp.out,hd];simp
      have hNf:=Lib.hid hNf
      by_cases x1:s[k].toNat<48
      ·have q4:¬ (48:Int)≤(s[k].toNat:Int):=by omega
       have q5:¬ (97:Int)≤(s[k].toNat:Int):=by omega
       go_wp2
       have hset:=set2 hR0 (.int .u64 0) (.int .u64 0)
       have hB2:=JI hB (Nat.le_refl _) (.int .u64 0) (.int .u64 0)
       generalize (wr.setCell ⟨w.heap.size,0,none⟩ (.int .u64 0)).setCell ⟨w.heap.size,1,none⟩ (.int .u64 0)=W6 at *
       obtain⟨f0,f1,_,_⟩:=Ej hset
       exact bodyPost_ret (v:=.tuple #[xZ (0,0),.bool false]) (by simp[results,Tryz.results205,go_sem,f0,f1,xZ]) rfl ⟨⟨0,0,by first|rfl|rw[hNf.out]⟩,hB2⟩
      by_cases x2:s[k].toNat<97
      ·have q4:(48:Int)≤(s[k].toNat:Int):=by omega
       have q5:¬ (s[k].toNat:Int)≤57:=by omega
       have q6:¬ (97:Int)≤(s[k].toNat:Int):=by omega
       go_wp2
       have hset:=set2 hR0 (.int .u64 0) (.int .u64 0)
       have hB2:=JI hB (Nat.le_refl _) (.int .u64 0) (.int .u64 0)
       generalize (wr.setCell ⟨w.heap.size,0,none⟩ (.int .u64 0)).setCell ⟨w.heap.size,1,none⟩ (.int .u64 0)=W6 at *
       obtain⟨f0,f1,_,_⟩:=Ej hset
       exact bodyPost_ret (v:=.tuple #[xZ (0,0),.bool false]) (by simp[results,Tryz.results205,go_sem,f0,f1,xZ]) rfl ⟨⟨0,0,by first|rfl|rw[hNf.out]⟩,hB2⟩
      ·have q4:(48:Int)≤(s[k].toNat:Int):=by omega
       have q5:¬ (s[k].toNat:Int)≤57:=by omega
       have q6:(97:Int)≤(s[k].toNat:Int):=by omega
       have q7:¬ (s[k].toNat:Int)≤102:=by omega
       go_wp2
       have hset:=set2 hR0 (.int .u64 0) (.int .u64 0)
       have hB2:=JI hB (Nat.le_refl _) (.int .u64 0) (.int .u64 0)
       generalize (wr.setCell ⟨w.heap.size,0,none⟩ (.int .u64 0)).setCell ⟨w.heap.size,1,none⟩ (.int .u64 0)=W6 at *
       obtain⟨f0,f1,_,_⟩:=Ej hset
       exact bodyPost_ret (v:=.tuple #[xZ (0,0),.bool false]) (by simp[results,Tryz.results205,go_sem,f0,f1,xZ]) rfl ⟨⟨0,0,by first|rfl|rw[hNf.out]⟩,hB2⟩
   ·obtain rfl:k=s.size:=by omega
    have q3:¬ (s.size:Int)<(s.size:Int):=by omega
    have hNt:N=true:=by
     have h:=hall.out
     rw[List.take_of_length_le (by omega)] at h
     rw[hN.out];exact h
    have hNt:=Lib.hid hNt
    go_wp2
    have hset:=set2 hR0 (.int .u64 hi) (.int .u64 lo)
    have hB2:=JI hB (Nat.le_refl _) (.int .u64 hi) (.int .u64 lo)
    generalize (wr.setCell ⟨w.heap.size,0,none⟩ (.int .u64 hi)).setCell ⟨w.heap.size,1,none⟩ (.int .u64 lo)=W6 at *
    obtain⟨f0,f1,_,_⟩:=Ej hset
    exact bodyPost_ret (v:=.tuple #[xZ (hi,lo),.bool true]) (by simp[results,Tryz.results205,go_sem,f0,f1,xZ]) rfl ⟨⟨hi,lo,by first|rfl|rw[hNt.out]⟩,hB2⟩
 ·have q1:((s.size:Int)==0)=false:=by simp;intro e;exact h0 (by show s.data.size=0;simp[e])
  have q2:(s.size:Int)>32:=by omega
  have hn:xK s=false:=by simp[xK];intro _ h;omega
  rw[hn]
  clear hn
  go_enter Tryz.func205,Tryz.ntmps205
  go_wp2
  generalize (w.alloc zB).alloc zB=W0 at *
  obtain⟨f0,f1,_,_⟩:=Ej hA0
  exact bodyPost_ret (v:=.tuple #[xZ (0,0),.bool false]) (by simp[results,Tryz.results205,go_sem,f0,f1,xZ]) rfl ⟨⟨0,0,rfl⟩,hB0⟩
theorem LU (w:World) (s:ByteArray) (b:Nat) (zs:List ByteArray) (hz:zs.length≤5) (hl:AL w b zs):Calls Tryz.prog 130 #[.string s,.slice (some ⟨b,0,none⟩) zs.length zs.length] w fun e w'=>(∃ k:Int,uJ k∧e = .returned (.tuple #[.int .u8 k,.bool (decide (0≤Lib.idxOfS zs s))]))∧w'=w:=by
 obtain⟨N,hNo⟩:∃ N,N=decide (0≤Lib.idxOfS zs s):=⟨_,rfl⟩
 rw[← hNo]
 have hN:=Lib.hid hNo
 clear hNo
 have hl2:=Lib.hid hl.2
 clear hl
 go_enter Tryz.func130,Tryz.ntmps130
 go_wp2
 go_loopw [6] (fun i W=>∃ k:Nat,k≤zs.length∧i = .int .i64 (k:Int)∧W=w∧Hid (s∉zs.take k)) (fun i _=>zs.length-(intOf i).toNat)
 case atStart=>exact⟨0,Nat.zero_le _,rfl,rfl,Lib.hid (by simp)⟩
 case round =>
  obtain⟨k,hk,rfl,rfl,hno⟩:=hrel
  by_cases hlt:k<zs.length
  ·have q3:(k:Int)<(zs.length:Int):=by omega
   have hc:=hl2.out k hlt
   rw[Nat.zero_add] at hc
   have hgd:zs.getD k ByteArray.empty=zs[k]:=by simp[List.getD,hlt]
   rw[hgd] at hc
   have htk:=Lib.hid (List.take_succ_eq_append_getElem hlt)
   have hmem:=Lib.hid (List.getElem_mem hlt)
   clear hgd
   generalize zs[k]=z at hc htk hmem
   by_cases he:z=s
   ·subst he
    have hNt:N=true:=by rw[hN.out];exact decide_eq_true ((Lib.idxOfS_nonneg_iff _ _).2 hmem.out)
    go_wp2
    go_ret2
    exact⟨⟨(k:Int),aas (by omega) (by omega),by first|(rw[hNt];rfl)|rfl⟩,rfl⟩
   ·have q5:(z.toList==s.toList)=false:=by
     simp only[beq_eq_false_iff_ne,ne_eq]
     intro h
     rw[ByteArray.toList_eq,ByteArray.toList_eq] at h
     exact he (ByteArray.ext (Array.toList_inj.1 h))
    go_wp2
    exact⟨⟨k+1,by omega,by simp,trivial,Lib.hid (by rw[htk.out];intro h;rcases List.mem_append.1 h with h|h;exact hno.out h;exact he (List.mem_singleton.1 h).symm)⟩,by simp only[intOf];omega⟩
  ·obtain rfl:k=zs.length:=by omega
   have q3:¬ (zs.length:Int)<(zs.length:Int):=by omega
   have hNf:N=false:=by
    have h:=hno.out
    rw[List.take_length] at h
    rw[hN.out];exact decide_eq_false (fun h2=>h ((Lib.idxOfS_nonneg_iff _ _).1 h2))
   go_wp2
   go_ret2
   exact⟨⟨0,by decide,by first|(rw[hNf];rfl)|rfl⟩,rfl⟩
open Go.RowKit Go.Shelf FlagM
open Go.Lib (grownBy_trans)
attribute [local go_sem] Oper.semAt_some
def yJ (W:World) (B:Nat) (wd:ByteArray):Prop:=∃ x1 x2 x3 x4 x5 y1 y2 y3 y4 y5 y6:Int,W.heap[B]? = some (.cells #[.string wd,.int .u8 x1,.int .u8 x2,.int .u8 x3,.int .u8 x4,.int .u8 x5,.int .u64 y1,.int .u64 y2,.int .u64 y3,.int .u64 y4,.int .u64 y5,.int .u64 y6] 130)
theorem BK {W:World} {B:Nat} {cs:Array Value} {t:TypeId} (h:W.heap[B]? = some (.cells cs t)) (j:Nat):W.cell? ⟨B,j,none⟩=cs[j]?:=by simp[World.cell?,h]
theorem CW {W:World} {B:Nat} {cs:Array Value} {t:TypeId} (h:W.heap[B]? = some (.cells cs t)) (j:Nat):W.frozen? ⟨B,j,none⟩=false:=by simp[World.frozen?,h]
theorem TK {w X:World} (h:q9 w X) (r:Option Nat):w.grownBy X r:=⟨Below.os h,Below.tape h,Below.output h,Below.size h,fun k hk _=>Below.block h k hk⟩
abbrev vV:Obj:=.cells #[.string ⟨#[98,49,54]⟩,.string ⟨#[98,51,50]⟩,.string ⟨#[98,54,52]⟩,.string ⟨#[98,49,50,56]⟩] 9
abbrev Oz:Obj:=.cells #[.string ⟨#[105,51,50]⟩,.string ⟨#[117,51,50]⟩,.string ⟨#[105,54,52]⟩,.string ⟨#[117,54,52]⟩] 9
theorem JK (w:World):AL (w.alloc vV) w.heap.size ul:=by
 refine⟨by show _<(Array.push _ _).size;rw[Array.size_push];exact Nat.lt_succ_self _,fun j hj=>?_⟩
 rw[World.cell?_alloc_mark]
 match j,hj with
 | 0,_=>rfl
 | 1,_=>rfl
 | 2,_=>rfl
 | 3,_=>rfl
theorem alU (w:World):AL (w.alloc Oz) w.heap.size xI:=by
 refine⟨by show _<(Array.push _ _).size;rw[Array.size_push];exact Nat.lt_succ_self _,fun j hj=>?_⟩
 rw[World.cell?_alloc_mark]
 match j,hj with
 | 0,_=>rfl
 | 1,_=>rfl
 | 2,_=>rfl
 | 3,_=>rfl
def sZ (c:Nat) (s:ByteArray):Bool:=if c=102∨c=116 then decide (0≤Lib.idxOfS ul s) else if c=107 then decide (0≤Lib.idxOfS xI s) else xK s
theorem alV (w:World) (B:Nat) (wd s:ByteArray) (hB:yJ w B wd):Calls Tryz.prog 132 #[.pointer (some ⟨B,1,none⟩),.int .u8 102,.string s] w fun e w'=>e = .returned (.bool (sZ 102 s))∧yJ w' B wd∧w.grownBy w' (some B):=by
 obtain⟨x1,x2,x3,x4,x5,y1,y2,y3,y4,y5,y6,hR⟩:=hB
 have hS:sZ 102 s=decide (0≤Lib.idxOfS ul s):=by simp[sZ]
 rw[hS]
 have hlt:=(Array.getElem?_eq_some_iff.1 hR).1
 have hL:=JK w
 have hRX:=((World.grownBy_alloc w vV none).block B hlt (by simp)).trans hR
 have hg:=World.grownBy_alloc w vV (some B)
 go_enter Tryz.func132,Tryz.ntmps132
 go_wp2_with (go_at_call 130;refine(LU _ s w.heap.size ul (by decide) hL).mono ?_;rintro e X ⟨⟨k,hk,rfl⟩,rfl⟩;generalize w.alloc vV=X at *;have c2:=BK hRX 2;have z2:=CW hRX 2)
 go_ret
 exact⟨rfl,⟨x1,k,x3,x4,x5,y1,y2,y3,y4,y5,y6,sU hRX _⟩,grownBy_trans hg (tJ _ _ _ _)⟩
theorem alW (w:World) (B:Nat) (wd s:ByteArray) (hB:yJ w B wd):Calls Tryz.prog 132 #[.pointer (some ⟨B,1,none⟩),.int .u8 116,.string s] w fun e w'=>e = .returned (.bool (sZ 116 s))∧yJ w' B wd∧w.grownBy w' (some B):=by
 obtain⟨x1,x2,x3,x4,x5,y1,y2,y3,y4,y5,y6,hR⟩:=hB
 have hS:sZ 116 s=decide (0≤Lib.idxOfS ul s):=by simp[sZ]
 rw[hS]
 have hlt:=(Array.getElem?_eq_some_iff.1 hR).1
 have hL:=JK w
 have hRX:=((World.grownBy_alloc w vV none).block B hlt (by simp)).trans hR
 have hg:=World.grownBy_alloc w vV (some B)
 go_enter Tryz.func132,Tryz.ntmps132
 go_wp2_with (go_at_call 130;refine(LU _ s w.heap.size ul (by decide) hL).mono ?_;rintro e X ⟨⟨k,hk,rfl⟩,rfl⟩;generalize w.alloc vV=X at *;have c2:=BK hRX 3;have z2:=CW hRX 3)
 go_ret
 exact⟨rfl,⟨x1,x2,k,x4,x5,y1,y2,y3,y4,y5,y6,sU hRX _⟩,grownBy_trans hg (tJ _ _ _ _)⟩
theorem alX (w:World) (B:Nat) (wd s:ByteArray) (hB:yJ w B wd):Calls Tryz.prog 132 #[.pointer (some ⟨B,1,none⟩),.int .u8 107,.string s] w fun e w'=>e = .returned (.bool (sZ 107 s))∧yJ w' B wd∧w.grownBy w' (some B):=by
 obtain⟨x1,x2,x3,x4,x5,y1,y2,y3,y4,y5,y6,hR⟩:=hB
 have hS:sZ 107 s=decide (0≤Lib.idxOfS xI s):=by simp[sZ]
 rw[hS]
 have hlt:=(Array.getElem?_eq_some_iff.1 hR).1
 have hL:=JK w
 have hRX:=((World.grownBy_alloc w vV none).block B hlt (by simp)).trans hR
 have hg:=World.grownBy_alloc w vV (some B)
 have hL2:=alU (w.alloc vV)
 have hRY:=((World.grownBy_alloc (w.alloc vV) Oz none).block B (by have:=hg.size;omega) (by simp)).trans hRX
 have hg2:=grownBy_trans hg (World.grownBy_alloc (w.alloc vV) Oz (some B))
 have hsz:(w.alloc vV).heap.size=w.heap.size+1:=by simp
 rw[hsz] at hL2
 clear hsz hg hRX hL
 go_enter Tryz.func132,Tryz.ntmps132
 go_wp2_with (go_at_call 130;refine(LU _ s (w.heap.size+1) xI (by decide) hL2).mono ?_;rintro e X ⟨⟨k,hk,rfl⟩,rfl⟩;generalize (w.alloc vV).alloc Oz=X at *;have c2:=BK hRY 3;have z2:=CW hRY 3)
 go_ret
 exact⟨rfl,⟨x1,x2,k,x4,x5,y1,y2,y3,y4,y5,y6,sU hRY _⟩,grownBy_trans hg2 (tJ _ _ _ _)⟩
theorem alY (w:World) (B:Nat) (wd s:ByteArray) (hB:yJ w B wd):Calls Tryz.prog 132 #[.pointer (some ⟨B,1,none⟩),.int .u8 97,.string s] w fun e w'=>e = .returned (.bool (sZ 97 s))∧yJ w' B wd∧w.grownBy w' (some B):=by
 obtain⟨x1,x2,x3,x4,x5,y1,y2,y3,y4,y5,y6,hR⟩:=hB
 have hS:sZ 97 s=xK s:=by simp[sZ]
 rw[hS]
 have hlt:=(Array.getElem?_eq_some_iff.1 hR).1
 have hL:=JK w
 have hRX:=((World.grownBy_alloc w vV none).block B hlt (by simp)).trans hR
 have hg:=World.grownBy_alloc w vV (some B)
 generalize hX0:w.alloc vV=X0 at *
 have hX0:=Lib.hid hX0
 go_enter Tryz.func132,Tryz.ntmps132
 go_wp2_with (go_at_call 205;refine(TJ _ s).mono ?_;rintro e X ⟨⟨hi,lo,rfl⟩,hBX⟩;have hX1:=hX0.out;subst hX1;have hRY:=(Below.block hBX B (by have:=hg.size;omega)).trans hRX;have hgY:=grownBy_trans hg (TK hBX (some B));clear hBX;have c2:=BK hRY 6;have c3:=BK hRY 7;have z2:=CW hRY 6;have z3:=CW hRY 7)
 go_ret
 exact⟨rfl,⟨x1,x2,x3,x4,x5,hi,lo,y3,y4,y5,y6,sU (sU hRY _) _⟩,grownBy_trans hgY (grownBy_trans (tJ _ _ _ _) (tJ _ _ _ _))⟩
theorem alZ (w:World) (B:Nat) (wd s:ByteArray) (hB:yJ w B wd):Calls Tryz.prog 132 #[.pointer (some ⟨B,1,none⟩),.int .u8 98,.string s] w fun e w'=>e = .returned (.bool (sZ 98 s))∧yJ w' B wd∧w.grownBy w' (some B):=by
 obtain⟨x1,x2,x3,x4,x5,y1,y2,y3,y4,y5,y6,hR⟩:=hB
 have hS:sZ 98 s=xK s:=by simp[sZ]
 rw[hS]
 have hlt:=(Array.getElem?_eq_some_iff.1 hR).1
 have hL:=JK w
 have hRX:=((World.grownBy_alloc w vV none).block B hlt (by simp)).trans hR
 have hg:=World.grownBy_alloc w vV (some B)
 generalize hX0:w.alloc vV=X0 at *
 have hX0:=Lib.hid hX0
 go_enter Tryz.func132,Tryz.ntmps132
 go_wp2_with (go_at_call 205;refine(TJ _ s).mono ?_;rintro e X ⟨⟨hi,lo,rfl⟩,hBX⟩;have hX1:=hX0.out;subst hX1;have hRY:=(Below.block hBX B (by have:=hg.size;omega)).trans hRX;have hgY:=grownBy_trans hg (TK hBX (some B));clear hBX;have c2:=BK hRY 8;have c3:=BK hRY 9;have z2:=CW hRY 8;have z3:=CW hRY 9)
 go_ret
 exact⟨rfl,⟨x1,x2,x3,x4,x5,y1,y2,hi,lo,y5,y6,sU (sU hRY _) _⟩,grownBy_trans hgY (grownBy_trans (tJ _ _ _ _) (tJ _ _ _ _))⟩
theorem al0 (w:World) (B:Nat) (wd s:ByteArray) (hB:yJ w B wd):Calls Tryz.prog 132 #[.pointer (some ⟨B,1,none⟩),.int .u8 99,.string s] w fun e w'=>e = .returned (.bool (sZ 99 s))∧yJ w' B wd∧w.grownBy w' (some B):=by
 obtain⟨x1,x2,x3,x4,x5,y1,y2,y3,y4,y5,y6,hR⟩:=hB
 have hS:sZ 99 s=xK s:=by simp[sZ]
 rw[hS]
 have hlt:=(Array.getElem?_eq_some_iff.1 hR).1
 have hL:=JK w
 have hRX:=((World.grownBy_alloc w vV none).block B hlt (by simp)).trans hR
 have hg:=World.grownBy_alloc w vV (some B)
 generalize hX0:w.alloc vV=X0 at *
 have hX0:=Lib.hid hX0
 go_enter Tryz.func132,Tryz.ntmps132
 go_wp2_with (go_at_call 205;refine(TJ _ s).mono ?_;rintro e X ⟨⟨hi,lo,rfl⟩,hBX⟩;have hX1:=hX0.out;subst hX1;have hRY:=(Below.block hBX B (by have:=hg.size;omega)).trans hRX;have hgY:=grownBy_trans hg (TK hBX (some B));clear hBX;have c2:=BK hRY 10;have c3:=BK hRY 11;have z2:=CW hRY 10;have z3:=CW hRY 11)
 go_ret
 exact⟨rfl,⟨x1,x2,x3,x4,x5,y1,y2,y3,y4,hi,lo,sU (sU hRY _) _⟩,grownBy_trans hgY (grownBy_trans (tJ _ _ _ _) (tJ _ _ _ _))⟩
open Go.RowKit Go.Shelf FlagM
open Go.Lib (grownBy_trans)
attribute [local go_sem] Oper.semAt_some
def uV (l:Sc.By):Sc.By :=
 if (l == [97,100,100])=true then [102,97,98] else
 if (l == [115,117,98])=true then [102,97,98] else
 if (l == [109,117,108])=true then [102,97,98] else
 if (l == [100,105,118])=true then [102,97,98] else
 if (l == [114,101,109])=true then [102,97,98] else
 if (l == [113,117,105,101,116])=true then [102,97,98] else
 if (l == [115,105,103,110,97,108,105,110,103])=true then [102,97,98] else
 if (l == [102,109,97])=true then [102,97,98,99] else
 if (l == [115,113,114,116])=true then [102,97] else
 if (l == [114,105,110,116])=true then [102,97] else
 if (l == [101,120,97,99,116])=true then [102,97] else
 if (l == [99,111,110,118])=true then [102,116,97] else
 if (l == [105,110,116])=true then [102,107,97] else
 if (l == [102,114,111,109])=true then [107,102,97] else
 []
theorem abn (w:World) (s:ByteArray):Calls Tryz.prog 131 #[.string s] w fun e w'=>(∃ o:Int,e = .returned (.tuple #[.int .u8 o,.string ⟨(uV s.toList).toArray⟩]))∧w'=w:=by
 obtain⟨F,hF⟩:∃ F,F=uV s.toList:=⟨_,rfl⟩
 rw[← hF]
 have hF2:=Lib.hid hF
 clear hF
 go_enter Tryz.func131,Tryz.ntmps131
 go_wp2
 all_goals
  have h:=hF2.out
  clear hF2
  simp only[uV, *,Bool.false_eq_true,if_false,if_true] at h
  subst h
  go_ret2
  exact⟨⟨_,rfl⟩,rfl⟩
open Go.RowKit Go.Shelf FlagM
open Go.Lib (grownBy_trans)
attribute [local go_sem] Oper.semAt_some
theorem al1 (w:World) (c:UInt8):Calls Tryz.prog 129 #[.int .u8 ((c.toNat:Nat):Int)] w fun e w'=>e = .returned (.bool (Sc.blankQ c.toNat))∧w'=w:=by
 by_cases h1:c.toNat=32
 ·have q:Sc.blankQ c.toNat=true:=by simp[Sc.blankQ,h1]
  have q1:(((c.toNat:Nat):Int)==32)=true:=by simp[h1]
  rw[q]
  go_enter Tryz.func129,Tryz.ntmps129
  go_wp2
  go_ret
  exact⟨rfl,rfl⟩
 have q1:(((c.toNat:Nat):Int)==32)=false:=by simp;omega
 by_cases h2:c.toNat=9
 ·have q:Sc.blankQ c.toNat=true:=by simp[Sc.blankQ,h2]
  have q2:(((c.toNat:Nat):Int)==9)=true:=by simp[h2]
  rw[q]
  go_enter Tryz.func129,Tryz.ntmps129
  go_wp2
  go_ret
  exact⟨rfl,rfl⟩
 have q2:(((c.toNat:Nat):Int)==9)=false:=by simp;omega
 by_cases h3:c.toNat=13
 ·have q:Sc.blankQ c.toNat=true:=by simp[Sc.blankQ,h3]
  have q3:(((c.toNat:Nat):Int)==13)=true:=by simp[h3]
  rw[q]
  go_enter Tryz.func129,Tryz.ntmps129
  go_wp2
  go_ret
  exact⟨rfl,rfl⟩
 have q3:(((c.toNat:Nat):Int)==13)=false:=by simp;omega
 have q:Sc.blankQ c.toNat=false:=by simp[Sc.blankQ,h1,h2,h3]
 rw[q]
 go_enter Tryz.func129,Tryz.ntmps129
 go_wp2
 go_ret
 exact⟨rfl,rfl⟩
theorem al2 (l cur:Sc.By) (k:Nat) (h:k=l.length∨∃ h:k<l.length,Sc.blankQ l[k].toNat=true):Sc.wl cur (l.drop k)=(if cur = [] then [] else [cur])++Sc.wl [] (l.drop (k+1)):=by
 rcases h with rfl|⟨h,hb⟩
 ·rw[List.drop_length,List.drop_of_length_le (by omega),Sc.wl,Sc.wl];simp
 ·rw[List.drop_eq_getElem_cons h,Sc.wl,if_pos hb]
  split<;>simp
theorem al3 (l cur:Sc.By) (k:Nat) (h:k<l.length) (hb:Sc.blankQ l[k].toNat=false):Sc.wl cur (l.drop k)=Sc.wl (cur ++ [l[k]]) (l.drop (k+1)):=by
 rw[List.drop_eq_getElem_cons h,Sc.wl,if_neg (by simp[hb])]
theorem al4:(Tryz.prog.info? 9).map (fun i=>(i.zero,i.size,i.bytes))=some (some (.string ⟨#[]⟩),1,16):=by kernel_rfl
def al5 (w:World) (s:ByteArray) (e:Ending) (w':World):Prop:=q9 w w'∧∃ (v:Value) (L:List ByteArray),e = .returned v∧w'.ownsRow w.heap.size 9 1 v L.length (L.map Value.string)∧L.map (·.data.toList)=Sc.wl [] s.data.toList
theorem al6 (w:World) (s:ByteArray) (hs:s.size≤2000000):Calls Tryz.prog 82 #[.string s] w (al5 w s):=by
 have HB:=Lib.hid (fun X c=>al1 X c)
 have hlen:s.data.toList.length=s.size:=by simp
 obtain⟨i0,hi,hz0,hz1,hz2⟩:=info_parts al4
 go_enter Tryz.func82,Tryz.ntmps82
 go_wp2
 go_loopw [3,4,5] (fun out f i W=>∃ (k:Nat) (L:List ByteArray) (cur:Sc.By),i = .int .i64 (k:Int)∧k≤s.size+1∧q9 w W∧W.ownsRow w.heap.size 9 1 out L.length (L.map Value.string)∧L.length≤k∧(f = .int .i64 (-1)∧cur = []∨∃ g:Nat,f = .int .i64 (g:Int)∧g<k∧k≤s.size∧cur=(s.data.toList.take k).drop g)∧Hid (L.map (·.data.toList)++Sc.wl cur (s.data.toList.drop k)=Sc.wl [] s.data.toList)) (fun _ _ i _=>s.size+1-(intOf i).toNat)
 case atStart=>exact⟨0,[],[],rfl,by omega,q9.refl w,World.ownsRow_nil _ _ _ _,by simp,.inl ⟨rfl,rfl⟩,Lib.hid (by simp)⟩
 case round =>
  obtain⟨k,L,cur,rfl,hk,hB,hown,hLk,hcur,hI⟩:=hrel
  by_cases hlt:k≤s.size
  ·have q1:(k:Int)≤(s.size:Int):=by omega
   by_cases hst:k=s.data.toList.length∨∃ h:k<s.data.toList.length,Sc.blankQ s.data.toList[k].toNat=true
   ·have hI2:=hI.out
    rw[al2 _ _ _ hst] at hI2
    have hI2:=Lib.hid hI2
    clear hI
    rcases hcur with⟨rfl,rfl⟩|⟨g,rfl,hg,hk2,hcu⟩
    ·rcases hst with hst|⟨hx,hbl⟩
     ·obtain rfl:k=s.size:=by omega
      clear hst
      go_wp2
      exact⟨⟨s.size+1,L,[],by simp,by omega,hB,hown,by omega,.inl ⟨rfl,rfl⟩,Lib.hid (by simpa using hI2.out)⟩,by simp only[intOf];omega⟩
     ·have q2:((k:Int)==(s.size:Int))=false:=by rw[beq_eq_false_iff_ne];omega
      have q3:(k:Int)<(s.size:Int):=by omega
      have hx2:k<s.size:=by omega
      have hb2:Sc.blankQ (s[k]).toNat=true:=hbl
      go_wp2_with (go_at_call 129;refine(HB.out _ _).mono ?_;rintro e X ⟨rfl,rfl⟩;rw[hb2])
      exact⟨⟨k+1,L,[],by simp,by omega,hB,hown,by omega,.inl ⟨rfl,rfl⟩,Lib.hid (by simpa using hI2.out)⟩,by simp only[intOf];omega⟩
    ·obtain⟨ad,cap,rfl⟩:∃ ad cap,u3 = .slice ad L.length cap:=by
      rcases hown.2 with⟨h1,h2⟩|⟨g,cap,cur,h1,h2⟩
      ·exact⟨none,0,by rw[h1,h2]⟩
      ·exact⟨_,cap,h1⟩
     have q5:(g:Int)≤(k:Int):=by omega
     have q6:(k:Int)≤(s.size:Int):=by omega
     have q7:(0:Int)≤(g:Int):=by omega
     have hcu:=Lib.hid hcu
     rcases hst with hst|⟨hx,hbl⟩
     ·obtain rfl:k=s.size:=by omega
      clear hst
      go_wp2_with (first|(go_at_call 129;refine(HB.out _ _).mono ?_;rintro e X ⟨rfl,rfl⟩;rw[hb2])|(at_builtin;refine Hid.out ?_))
      refine Lib.hid ?_
      refine wpList_append_own_at _ rfl (.tmp 28) (.tmp 33) 82 rfl w.heap.size 9 i0 (.string ⟨#[]⟩) 1 16 Tryz.underlying82 hi hz0 hz1 hz2 rfl (by decide) _ _ _ rfl (hown.alloc _) ⟨wr.heap.size,0,none⟩ 1 1 [.string (s.extract g s.size)] rfl rfl (cell_one_new _ _ _) (by simp[Value.oneCell']) (by unfold maxLen;omega) (by omega) (by have:=Below.size hB;simp;omega) ?_
      intro v' W3 hown3 hgrow hv1 hv2
      have hB3:q9 w W3:=Below.grown (q9.alloc hB _) hgrow (by have:=Below.size hB;simp;omega) (fun g e=>(hown.lt g e).1)
      have hcn:cur ≠ []:=by
       intro e
       have:=congrArg List.length (hcu.out.symm.trans e)
       simp at this;omega
      go_wp2_with fail
      exact⟨⟨s.size+1,L ++ [s.extract g s.size],[],by simp,by omega,hB3,by simpa using hown3,by simp;omega,.inl ⟨rfl,rfl⟩,Lib.hid (by have h:=hI2.out;rw[if_neg hcn,hcu.out] at h;rw[← h,List.map_append,List.append_assoc];simp[Sc.ext_eq,List.drop_take])⟩,by simp only[intOf];omega⟩
     ·have q2:((k:Int)==(s.size:Int))=false:=by rw[beq_eq_false_iff_ne];omega
      have q3:(k:Int)<(s.size:Int):=by omega
      have hx2:k<s.size:=by omega
      have hb2:Sc.blankQ (s[k]).toNat=true:=hbl
      go_wp2_with (first|(go_at_call 129;refine(HB.out _ _).mono ?_;rintro e X ⟨rfl,rfl⟩;rw[hb2])|(at_builtin;refine Hid.out ?_))
      refine Lib.hid ?_
      refine wpList_append_own_at _ rfl (.tmp 28) (.tmp 33) 82 rfl w.heap.size 9 i0 (.string ⟨#[]⟩) 1 16 Tryz.underlying82 hi hz0 hz1 hz2 rfl (by decide) _ _ _ rfl (hown.alloc _) ⟨X.heap.size,0,none⟩ 1 1 [.string (s.extract g k)] rfl rfl (cell_one_new _ _ _) (by simp[Value.oneCell']) (by unfold maxLen;omega) (by omega) (by have:=Below.size hB;simp;omega) ?_
      intro v' W3 hown3 hgrow hv1 hv2
      have hB3:q9 w W3:=Below.grown (q9.alloc hB _) hgrow (by have:=Below.size hB;simp;omega) (fun g e=>(hown.lt g e).1)
      have hcn:cur ≠ []:=by
       intro e
       have:=congrArg List.length (hcu.out.symm.trans e)
       simp at this;omega
      go_wp2_with fail
      exact⟨⟨k+1,L ++ [s.extract g k],[],by simp,by omega,hB3,by simpa using hown3,by simp;omega,.inl ⟨rfl,rfl⟩,Lib.hid (by have h:=hI2.out;rw[if_neg hcn,hcu.out] at h;rw[← h,List.map_append,List.append_assoc];simp[Sc.ext_eq,List.drop_take])⟩,by simp only[intOf];omega⟩
   ·have hx:k<s.data.toList.length:=by
     apply Classical.byContradiction;intro h;exact hst (.inl (by omega))
    have hbl:Sc.blankQ s.data.toList[k].toNat=false:=by
     cases h:Sc.blankQ s.data.toList[k].toNat with
     | false=>rfl
     | true=>exact absurd (.inr ⟨hx,h⟩) hst
    clear hst
    have hI2:=hI.out
    rw[al3 _ _ _ hx hbl] at hI2
    have hI2:=Lib.hid hI2
    clear hI
    have q2:((k:Int)==(s.size:Int))=false:=by rw[beq_eq_false_iff_ne];omega
    have q3:(k:Int)<(s.size:Int):=by omega
    have hx2:k<s.size:=by omega
    have hb2:Sc.blankQ (s[k]).toNat=false:=hbl
    have htk:=Lib.hid (List.take_succ_eq_append_getElem hx)
    rcases hcur with⟨rfl,rfl⟩|⟨g,rfl,hg,hk2,hcu⟩
    ·go_wp2_with (go_at_call 129;refine(HB.out _ _).mono ?_;rintro e X ⟨rfl,rfl⟩;rw[hb2])
     exact⟨⟨k+1,L,_,by simp,by omega,hB,hown,by omega,.inr ⟨k,rfl,by omega,by omega,by rw[htk.out,List.drop_append_of_le_length (by simp;omega),List.drop_of_length_le (by simp;omega)]⟩,hI2⟩,by simp only[intOf];omega⟩
    ·have q7:¬ (g:Int)<0:=by omega
     have hcu:=Lib.hid hcu
     go_wp2_with (go_at_call 129;refine(HB.out _ _).mono ?_;rintro e X ⟨rfl,rfl⟩;rw[hb2])
     exact⟨⟨k+1,L,_,by simp,by omega,hB,hown,by omega,.inr ⟨g,rfl,by omega,by omega,by rw[htk.out,List.drop_append_of_le_length (by simp;omega),hcu.out]⟩,hI2⟩,by simp only[intOf];omega⟩
  ·obtain rfl:k=s.size+1:=by omega
   have q1:¬ ((s.size:Int)+1≤(s.size:Int)):=by omega
   have q1':¬ (((s.size+1:Nat):Int)≤(s.size:Int)):=by omega
   have hc0:cur = []:=by
    rcases hcur with⟨_,h⟩|⟨g,_,_,h,_⟩
    ·exact h
    ·omega
   subst hc0
   have hI2:=hI.out
   rw[List.drop_of_length_le (by simp),Sc.wl,if_pos rfl,List.append_nil] at hI2
   have hI2:=Lib.hid hI2
   clear hI hcur
   go_wp2
   go_ret
   exact⟨hB,_,L,rfl,hown,hI2.out⟩
open Go.RowKit Go.Shelf FlagM
open Go.Lib (grownBy_trans)
attribute [local go_sem] Oper.semAt_some
def al7 (v:Value):Prop:=∃ (wd:ByteArray) (x1 x2 x3 x4 x5 y1 y2 y3 y4 y5 y6:Int),v = .agg #[.string wd,.int .u8 x1,.int .u8 x2,.int .u8 x3,.int .u8 x4,.int .u8 x5,.int .u64 y1,.int .u64 y2,.int .u64 y3,.int .u64 y4,.int .u64 y5,.int .u64 y6]
def El (w:World) (q:Bool) (e:Ending) (w':World):Prop:=q9 w w'∧∃ v,al7 v∧e = .returned (.tuple #[v,.bool q])
theorem F6 (W:World) (g:Nat) (wd:ByteArray) (x1 x2 x3 x4 x5 y1 y2 y3 y4 y5 y6:Int) (b:Bool) (h:W.heap[g]? = some (.cells #[.string wd,.int .u8 x1,.int .u8 x2,.int .u8 x3,.int .u8 x4,.int .u8 x5,.int .u64 y1,.int .u64 y2,.int .u64 y3,.int .u64 y4,.int .u64 y5,.int .u64 y6] 130)) (tm:Array Value) (h2:tm.getD 2 undef = .pointer (some ⟨g,0,none⟩)) (h3:tm.getD 3 undef = .bool b) :
  (results Tryz.f83 tm).run Tryz.prog W = .ok (.tuple #[.agg #[.string wd,.int .u8 x1,.int .u8 x2,.int .u8 x3,.int .u8 x4,.int .u8 x5,.int .u64 y1,.int .u64 y2,.int .u64 y3,.int .u64 y4,.int .u64 y5,.int .u64 y6],.bool b]) W:=by
 have hc:=BK h
 simp only[Array.getD_eq_getD_getElem?] at h2 h3
 simp[results,Tryz.results83,go_sem,h2,h3,hc]
abbrev zC (s:ByteArray):Obj:=.cells #[.string s,.int .u8 0,.int .u8 0,.int .u8 0,.int .u8 0,.int .u8 0,.int .u64 0,.int .u64 0,.int .u64 0,.int .u64 0,.int .u64 0,.int .u64 0] 130
theorem abo (w:World) (A cap:Nat) (s:ByteArray) (ws:List ByteArray) (hA:A<w.heap.size) (hc:w.cell? ⟨A,0,none⟩=some (.string s)) (hl:ws.length≤2000000) (h:(s.toList == [115,116,105,99,107,121])=true∨(s.toList == [115,116,105,99,107,121])=false∧(s.toList == [99,108,101,97,114])=true):Calls Tryz.prog 83 #[.slice (some ⟨A,0,none⟩) (ws.length+1) cap] w (El w (decide (ws.length=0))):=by
 have h0:=Ei w (zC s) (zC s)
 have hB0:q9 w ((w.alloc (zC s)).alloc (zC s)):=q9.alloc (q9.alloc (q9.refl w) _) _
 rcases h with h|⟨h,h1⟩
 all_goals
  go_enter Tryz.func83,Tryz.ntmps83
  go_wp2
  generalize (w.alloc (zC s)).alloc (zC s)=W0 at *
  rw[show El w (decide (ws.length=0))=El w ((ws.length:Int)+1==1) from by congr 1;rw[Bool.eq_iff_iff,beq_iff_eq,decide_eq_true_iff];omega]
  exact bodyPost_ret (F6 W0 _ _ _ _ _ _ _ _ _ _ _ _ _ ((ws.length:Int)+1==1) h0 _ rfl rfl) rfl ⟨hB0,_,⟨s,0,0,0,0,0,0,0,0,0,0,0,rfl⟩,rfl⟩
theorem JL {W:World} {B:Nat} {a0 a1 a2 a3 a4 a5 a6 a7 a8 a9 a10 a11:Value} {t:TypeId} (h:W.heap[B]? = some (.cells #[a0,a1,a2,a3,a4,a5,a6,a7,a8,a9,a10,a11] t)) :
  (W.cell? ⟨B,0,none⟩=some a0∧W.cell? ⟨B,1,none⟩=some a1∧W.cell? ⟨B,2,none⟩=some a2∧W.cell? ⟨B,3,none⟩=some a3∧W.cell? ⟨B,4,none⟩=some a4∧W.cell? ⟨B,5,none⟩=some a5∧W.cell? ⟨B,6,none⟩=some a6∧W.cell? ⟨B,7,none⟩=some a7∧W.cell? ⟨B,8,none⟩=some a8∧W.cell? ⟨B,9,none⟩=some a9∧W.cell? ⟨B,10,none⟩=some a10∧W.cell? ⟨B,11,none⟩=some a11) ∧
  (W.frozen? ⟨B,0,none⟩=false∧W.frozen? ⟨B,1,none⟩=false∧W.frozen? ⟨B,2,none⟩=false∧W.frozen? ⟨B,3,none⟩=false∧W.frozen? ⟨B,4,none⟩=false∧W.frozen? ⟨B,5,none⟩=false∧W.frozen? ⟨B,6,none⟩=false∧W.frozen? ⟨B,7,none⟩=false∧W.frozen? ⟨B,8,none⟩=false∧W.frozen? ⟨B,9,none⟩=false∧W.frozen? ⟨B,10,none⟩=false∧W.frozen? ⟨B,11,none⟩=false):=by
 refine⟨⟨?_,?_,?_,?_,?_,?_,?_,?_,?_,?_,?_,?_⟩,⟨?_,?_,?_,?_,?_,?_,?_,?_,?_,?_,?_,?_⟩⟩<;>simp[World.cell?,World.frozen?,h]
theorem sc0 {W:World} {B:Nat} {a0 a1 a2 a3 a4 a5 a6 a7 a8 a9 a10 a11:Value} {t:TypeId} (h:W.heap[B]? = some (.cells #[a0,a1,a2,a3,a4,a5,a6,a7,a8,a9,a10,a11] t)) (v:Value):(W.setCell ⟨B,0,none⟩ v).heap[B]? = some (.cells #[v,a1,a2,a3,a4,a5,a6,a7,a8,a9,a10,a11] t):=sU (i:=0) h v
theorem sc1 {W:World} {B:Nat} {a0 a1 a2 a3 a4 a5 a6 a7 a8 a9 a10 a11:Value} {t:TypeId} (h:W.heap[B]? = some (.cells #[a0,a1,a2,a3,a4,a5,a6,a7,a8,a9,a10,a11] t)) (v:Value):(W.setCell ⟨B,1,none⟩ v).heap[B]? = some (.cells #[a0,v,a2,a3,a4,a5,a6,a7,a8,a9,a10,a11] t):=sU (i:=1) h v
theorem sc2 {W:World} {B:Nat} {a0 a1 a2 a3 a4 a5 a6 a7 a8 a9 a10 a11:Value} {t:TypeId} (h:W.heap[B]? = some (.cells #[a0,a1,a2,a3,a4,a5,a6,a7,a8,a9,a10,a11] t)) (v:Value):(W.setCell ⟨B,2,none⟩ v).heap[B]? = some (.cells #[a0,a1,v,a3,a4,a5,a6,a7,a8,a9,a10,a11] t):=sU (i:=2) h v
theorem sc3 {W:World} {B:Nat} {a0 a1 a2 a3 a4 a5 a6 a7 a8 a9 a10 a11:Value} {t:TypeId} (h:W.heap[B]? = some (.cells #[a0,a1,a2,a3,a4,a5,a6,a7,a8,a9,a10,a11] t)) (v:Value):(W.setCell ⟨B,3,none⟩ v).heap[B]? = some (.cells #[a0,a1,a2,v,a4,a5,a6,a7,a8,a9,a10,a11] t):=sU (i:=3) h v
theorem sc4 {W:World} {B:Nat} {a0 a1 a2 a3 a4 a5 a6 a7 a8 a9 a10 a11:Value} {t:TypeId} (h:W.heap[B]? = some (.cells #[a0,a1,a2,a3,a4,a5,a6,a7,a8,a9,a10,a11] t)) (v:Value):(W.setCell ⟨B,4,none⟩ v).heap[B]? = some (.cells #[a0,a1,a2,a3,v,a5,a6,a7,a8,a9,a10,a11] t):=sU (i:=4) h v
theorem sc5 {W:World} {B:Nat} {a0 a1 a2 a3 a4 a5 a6 a7 a8 a9 a10 a11:Value} {t:TypeId} (h:W.heap[B]? = some (.cells #[a0,a1,a2,a3,a4,a5,a6,a7,a8,a9,a10,a11] t)) (v:Value):(W.setCell ⟨B,5,none⟩ v).heap[B]? = some (.cells #[a0,a1,a2,a3,a4,v,a6,a7,a8,a9,a10,a11] t):=sU (i:=5) h v
theorem sc6 {W:World} {B:Nat} {a0 a1 a2 a3 a4 a5 a6 a7 a8 a9 a10 a11:Value} {t:TypeId} (h:W.heap[B]? = some (.cells #[a0,a1,a2,a3,a4,a5,a6,a7,a8,a9,a10,a11] t)) (v:Value):(W.setCell ⟨B,6,none⟩ v).heap[B]? = some (.cells #[a0,a1,a2,a3,a4,a5,v,a7,a8,a9,a10,a11] t):=sU (i:=6) h v
theorem sc7 {W:World} {B:Nat} {a0 a1 a2 a3 a4 a5 a6 a7 a8 a9 a10 a11:Value} {t:TypeId} (h:W.heap[B]? = some (.cells #[a0,a1,a2,a3,a4,a5,a6,a7,a8,a9,a10,a11] t)) (v:Value):(W.setCell ⟨B,7,none⟩ v).heap[B]? = some (.cells #[a0,a1,a2,a3,a4,a5,a6,v,a8,a9,a10,a11] t):=sU (i:=7) h v
theorem sc8 {W:World} {B:Nat} {a0 a1 a2 a3 a4 a5 a6 a7 a8 a9 a10 a11:Value} {t:TypeId} (h:W.heap[B]? = some (.cells #[a0,a1,a2,a3,a4,a5,a6,a7,a8,a9,a10,a11] t)) (v:Value):(W.setCell ⟨B,8,none⟩ v).heap[B]? = some (.cells #[a0,a1,a2,a3,a4,a5,a6,a7,v,a9,a10,a11] t):=sU (i:=8) h v
theorem sc9 {W:World} {B:Nat} {a0 a1 a2 a3 a4 a5 a6 a7 a8 a9 a10 a11:Value} {t:TypeId} (h:W.heap[B]? = some (.cells #[a0,a1,a2,a3,a4,a5,a6,a7,a8,a9,a10,a11] t)) (v:Value):(W.setCell ⟨B,9,none⟩ v).heap[B]? = some (.cells #[a0,a1,a2,a3,a4,a5,a6,a7,a8,v,a10,a11] t):=sU (i:=9) h v
theorem ami {W:World} {B:Nat} {a0 a1 a2 a3 a4 a5 a6 a7 a8 a9 a10 a11:Value} {t:TypeId} (h:W.heap[B]? = some (.cells #[a0,a1,a2,a3,a4,a5,a6,a7,a8,a9,a10,a11] t)) (v:Value):(W.setCell ⟨B,10,none⟩ v).heap[B]? = some (.cells #[a0,a1,a2,a3,a4,a5,a6,a7,a8,a9,v,a11] t):=sU (i:=10) h v
theorem amj {W:World} {B:Nat} {a0 a1 a2 a3 a4 a5 a6 a7 a8 a9 a10 a11:Value} {t:TypeId} (h:W.heap[B]? = some (.cells #[a0,a1,a2,a3,a4,a5,a6,a7,a8,a9,a10,a11] t)) (v:Value):(W.setCell ⟨B,11,none⟩ v).heap[B]? = some (.cells #[a0,a1,a2,a3,a4,a5,a6,a7,a8,a9,a10,v] t):=sU (i:=11) h v
theorem amk {W:World} {B:Nat} {a0 a1 a2 a3 a4 a5 a6 a7 a8 a9 a10 a11:Value} {t:TypeId} (h:W.heap[B]? = some (.cells #[a0,a1,a2,a3,a4,a5,a6,a7,a8,a9,a10,a11] t)) (v0 v1 v2 v3 v4 v5 v6 v7 v8 v9 v10 v11:Value):((((((((((((W.setCell ⟨B,0,none⟩ v0).setCell ⟨B,1,none⟩ v1).setCell ⟨B,2,none⟩ v2).setCell ⟨B,3,none⟩ v3).setCell ⟨B,4,none⟩ v4).setCell ⟨B,5,none⟩ v5).setCell ⟨B,6,none⟩ v6).setCell ⟨B,7,none⟩ v7).setCell ⟨B,8,none⟩ v8).setCell ⟨B,9,none⟩ v9).setCell ⟨B,10,none⟩ v10).setCell ⟨B,11,none⟩ v11).heap[B]? = some (.cells #[v0,v1,v2,v3,v4,v5,v6,v7,v8,v9,v10,v11] t) :=
 (amj (ami (sc9 (sc8 (sc7 (sc6 (sc5 (sc4 (sc3 (sc2 (sc1 (sc0 h v0) v1) v2) v3) v4) v5) v6) v7) v8) v9) v10) v11)
abbrev F7:Obj:=.cells #[.string ⟨#[110,101,97,114]⟩,.string ⟨#[97,119,97,121]⟩,.string ⟨#[117,112]⟩,.string ⟨#[100,111,119,110]⟩,.string ⟨#[122,101,114,111]⟩] 9
abbrev JM:Obj:=.cells #[.string ⟨#[98,101,102,111,114,101]⟩,.string ⟨#[97,102,116,101,114]⟩] 9
theorem aml (w:World) (g:Nat) (hg:g=w.heap.size):AL (w.alloc F7) g xJ:=by
 subst hg
 refine⟨by show _<(Array.push _ _).size;rw[Array.size_push];exact Nat.lt_succ_self _,fun j hj=>?_⟩
 rw[World.cell?_alloc_mark]
 match j,hj with
 | 0,_=>rfl
 | 1,_=>rfl
 | 2,_=>rfl
 | 3,_=>rfl
 | 4,_=>rfl
theorem amm (w:World) (g:Nat) (hg:g=w.heap.size):AL (w.alloc JM) g yG:=by
 subst hg
 refine⟨by show _<(Array.push _ _).size;rw[Array.size_push];exact Nat.lt_succ_self _,fun j hj=>?_⟩
 rw[World.cell?_alloc_mark]
 match j,hj with
 | 0,_=>rfl
 | 1,_=>rfl
theorem OA (w:World) (o:Obj) {B:Nat} {x:Obj} (h:w.heap[B]? = some x):(w.alloc o).heap[B]? = some x:=((World.grownBy_alloc w o none).block B (Array.getElem?_eq_some_iff.1 h).1 (by simp)).trans h
open Go.RowKit Go.Shelf FlagM
open Go.Lib (grownBy_trans)
attribute [local go_sem] Oper.semAt_some
theorem TM {w Z:World} {a0 a1 a2 a3 a4 a5 a6 a7 a8 a9 a10 a11:Value} {t:TypeId} (hB:q9 w Z) (h:Z.heap[w.heap.size]? = some (.cells #[a0,a1,a2,a3,a4,a5,a6,a7,a8,a9,a10,a11] t)) (v0 v1 v2 v3 v4 v5 v6 v7 v8 v9 v10 v11:Value):q9 w ((((((((((((Z.setCell ⟨w.heap.size,0,none⟩ v0).setCell ⟨w.heap.size,1,none⟩ v1).setCell ⟨w.heap.size,2,none⟩ v2).setCell ⟨w.heap.size,3,none⟩ v3).setCell ⟨w.heap.size,4,none⟩ v4).setCell ⟨w.heap.size,5,none⟩ v5).setCell ⟨w.heap.size,6,none⟩ v6).setCell ⟨w.heap.size,7,none⟩ v7).setCell ⟨w.heap.size,8,none⟩ v8).setCell ⟨w.heap.size,9,none⟩ v9).setCell ⟨w.heap.size,10,none⟩ v10).setCell ⟨w.heap.size,11,none⟩ v11)∧((((((((((((Z.setCell ⟨w.heap.size,0,none⟩ v0).setCell ⟨w.heap.size,1,none⟩ v1).setCell ⟨w.heap.size,2,none⟩ v2).setCell ⟨w.heap.size,3,none⟩ v3).setCell ⟨w.heap.size,4,none⟩ v4).setCell ⟨w.heap.size,5,none⟩ v5).setCell ⟨w.heap.size,6,none⟩ v6).setCell ⟨w.heap.size,7,none⟩ v7).setCell ⟨w.heap.size,8,none⟩ v8).setCell ⟨w.heap.size,9,none⟩ v9).setCell ⟨w.heap.size,10,none⟩ v10).setCell ⟨w.heap.size,11,none⟩ v11).heap[w.heap.size]? = some (.cells #[v0,v1,v2,v3,v4,v5,v6,v7,v8,v9,v10,v11] t) :=
 ⟨(q9.set (q9.set (q9.set (q9.set (q9.set (q9.set (q9.set (q9.set (q9.set (q9.set (q9.set (q9.set hB (Nat.le_refl _) v0) (Nat.le_refl _) v1) (Nat.le_refl _) v2) (Nat.le_refl _) v3) (Nat.le_refl _) v4) (Nat.le_refl _) v5) (Nat.le_refl _) v6) (Nat.le_refl _) v7) (Nat.le_refl _) v8) (Nat.le_refl _) v9) (Nat.le_refl _) v10) (Nat.le_refl _) v11),amk h v0 v1 v2 v3 v4 v5 v6 v7 v8 v9 v10 v11⟩
theorem amn {w Y:World} {x:Obj} (hB:q9 w Y) (h:Y.heap[w.heap.size]? = some x) (u v:Value):q9 w ((Y.setCell ⟨w.heap.size+1,4,none⟩ u).setCell ⟨w.heap.size+1,5,none⟩ v)∧((Y.setCell ⟨w.heap.size+1,4,none⟩ u).setCell ⟨w.heap.size+1,5,none⟩ v).heap[w.heap.size]? = some x :=
 ⟨q9.set (q9.set hB (by omega) _) (by omega) _,(JJ (by omega) _).trans ((JJ (by omega) _).trans h)⟩
theorem amo (w : World) (A cap : Nat) (s a b : ByteArray) (hA : A < w.heap.size) (hc : w.cell? ⟨A, 0, none⟩ = some (.string s)) (hc1 : w.cell? ⟨A, 1, none⟩ = some (.string a)) (hc2 : w.cell? ⟨A, 2, none⟩ = some (.string b))
    (h : (s.toList == [115, 116, 105, 99, 107, 121]) = false) (h1 : (s.toList == [99, 108, 101, 97, 114]) = false) (h2 : (s.toList == [101, 110, 118]) = true) : Calls Tryz.prog 83 #[.slice (some ⟨A, 0, none⟩) 3 cap] w (El w (decide (0 ≤ Lib.idxOfS xJ a) && decide (0 ≤ Lib.idxOfS yG b))) := by
  obtain ⟨pm, hpm⟩ : ∃ p, p = decide (0 ≤ Lib.idxOfS xJ a) := ⟨_, rfl⟩
  obtain ⟨pt, hpt⟩ : ∃ p, p = decide (0 ≤ Lib.idxOfS yG b) := ⟨_, rfl⟩
  rw [← hpm, ← hpt]
  have hB0 : q9 w (((w.alloc (zC ⟨#[]⟩)).alloc (zC s)).alloc F7) := q9.alloc (q9.alloc (q9.alloc (q9.refl w) _) _) _
  have hM := aml ((w.alloc (zC ⟨#[]⟩)).alloc (zC s)) (w.heap.size + 1 + 1) (by simp)
  have r0 := OA _ F7 (Ei w (zC ⟨#[]⟩) (zC s))
  have r1 := OA _ F7 (BG w (zC ⟨#[]⟩) (zC s))
  have e1 : (((w.alloc (zC ⟨#[]⟩)).alloc (zC s)).alloc F7).heap.size = w.heap.size + 1 + 1 + 1 := by simp
  have k2 := (q9.cell hB0 A 2 hA).trans hc2
  have HP0 := (show Calls Tryz.prog 130 #[.string a, .slice (some ⟨w.heap.size + 1 + 1, 0, none⟩) 5 5] (((w.alloc (zC ⟨#[]⟩)).alloc (zC s)).alloc F7) _ from LU _ a (w.heap.size + 1 + 1) xJ (by decide) hM)
  rw [← hpm] at HP0
  have HP := Lib.hid HP0
  have hN0 := (fun (X : World) (hX : X.heap.size = w.heap.size + 1 + 1 + 1) => (show Calls Tryz.prog 130 #[.string b, .slice (some ⟨w.heap.size + 1 + 1 + 1, 0, none⟩) 2 2] (X.alloc JM) _ from LU _ b (w.heap.size + 1 + 1 + 1) yG (by decide) (amm X _ hX.symm)))
  rw [← hpt] at hN0
  have hN := Lib.hid hN0
  clear HP0 hN0 hpm hpt
  cases pm
  all_goals
   go_enter Tryz.func83, Tryz.ntmps83
   go_wp2_with (first | (go_at_call 130; with_reducible refine HP.out.mono ?_; rintro e X ⟨⟨m, hm, rfl⟩, rfl⟩; clear HP hM; generalize ((w.alloc (zC ⟨#[]⟩)).alloc (zC s)).alloc F7 = X at *; have hXs := Lib.hid e1) | (go_at_call 130; with_reducible refine (hN.out X hXs.out).mono ?_; rintro e2 Y ⟨⟨t, ht, rfl⟩, rfl⟩; clear hN; have s0 := OA X JM r0; have s1 := OA X JM r1; have hBY := q9.alloc hB0 JM; clear r0 r1 hB0; generalize X.alloc JM = Y at *; obtain ⟨⟨c0, c1, c2, c3, c4, c5, c6, c7, c8, c9, c10, c11⟩, ⟨z0, z1, z2, z3, z4, z5, z6, z7, z8, z9, z10, z11⟩⟩ := JL s1; obtain ⟨⟨d0, d1, d2, d3, d4, d5, d6, d7, d8, d9, d10, d11⟩, ⟨y0, y1, y2, y3, y4, y5, y6, y7, y8, y9, y10, y11⟩⟩ := JL s0; have s0 := Lib.hid s0; have s1 := Lib.hid s1) | fail)
   obtain ⟨hB5, s2⟩ := amn hBY s0.out (.int .u8 m) (.int .u8 t)
   obtain ⟨hB6, s3⟩ := TM hB5 s2 (.string s) (.int .u8 0) (.int .u8 0) (.int .u8 0) (.int .u8 m) (.int .u8 t) (.int .u64 0) (.int .u64 0) (.int .u64 0) (.int .u64 0) (.int .u64 0) (.int .u64 0)
   exact bodyPost_ret (F6 _ _ _ _ _ _ _ _ _ _ _ _ _ _ _ s3 _ rfl rfl) rfl ⟨hB6, _, ⟨s, 0, 0, 0, m, t, 0, 0, 0, 0, 0, 0, rfl⟩, rfl⟩
open FlagM
theorem amq:∀ n:Fin 256,decide (0≤CL (UInt8.ofNat n.1))=xz (UInt8.ofNat n.1).toNat:=by decide +kernel
theorem amr (c:UInt8):decide (0≤CL c)=xz c.toNat:=by
 have h:=amq ⟨c.toNat,c.toNat_lt⟩
 simpa using h
theorem abp:∀ (l:List UInt8) (b:Int×Int),(l.foldlM xh b).isSome=l.all (fun c=>xz c.toNat)
 | [],b=>rfl
 | c::t,b=>by
  rw[List.all_cons,← amr c,List.foldlM_cons]
  by_cases h:0≤CL c
  ·rw[xh,if_pos h,decide_eq_true h,Bool.true_and]
   exact abp t _
  ·rw[xh,if_neg h,decide_eq_false h,Bool.false_and];rfl
theorem ams (s:ByteArray) (ws:List ByteArray) (h:0<s.size):(uT (s::ws)).isSome=xK s∧∀ x,uT (s::ws)=some x→x.2=ws:=by
 rw[uT]
 unfold xK
 rw[decide_eq_true h,Bool.true_and]
 by_cases h2:s.size≤32
 ·rw[if_pos h2,decide_eq_true h2,Bool.true_and,← abp s.data.toList (0,0)]
  cases s.data.toList.foldlM xh (0,0) with
  | none=>exact⟨rfl,fun x hx=>by cases hx⟩
  | some b=>exact⟨rfl,fun x hx=>by cases hx;rfl⟩
 ·rw[if_neg h2,decide_eq_false h2,Bool.false_and]
  exact⟨rfl,fun x hx=>by cases hx⟩
open Go.RowKit Go.Shelf FlagM
open Go.Lib (grownBy_trans)
attribute [local go_sem] Oper.semAt_some
theorem amt (w:World) (A cap:Nat) (s:ByteArray) (ws:List ByteArray) (hA:A<w.heap.size) (hc:w.cell? ⟨A,0,none⟩=some (.string s)) (hl:ws.length≤2000000) (hn:ws.length≠2)
  (h:(s.toList == [115,116,105,99,107,121])=false) (h1:(s.toList == [99,108,101,97,114])=false) (h2:(s.toList == [101,110,118])=true):Calls Tryz.prog 83 #[.slice (some ⟨A,0,none⟩) (ws.length+1) cap] w (El w false):=by
 have h0:=Ei w (zC s) (zC s)
 have hB0:q9 w ((w.alloc (zC s)).alloc (zC s)):=q9.alloc (q9.alloc (q9.refl w) _) _
 have q1:((ws.length:Int)+1 != 3)=true:=by rw[bne_iff_ne];omega
 clear hn
 go_enter Tryz.func83,Tryz.ntmps83
 go_wp2
 generalize (w.alloc (zC s)).alloc (zC s)=W0 at *
 exact bodyPost_ret (F6 W0 _ _ _ _ _ _ _ _ _ _ _ _ _ false h0 _ rfl rfl) rfl ⟨hB0,_,⟨s,0,0,0,0,0,0,0,0,0,0,0,rfl⟩,rfl⟩
open Go.RowKit Go.Shelf FlagM
open Go.Lib (grownBy_trans)
attribute [local go_sem] Oper.semAt_some
abbrev F8 (s:ByteArray) (o:Int):Obj:=.cells #[.string s,.int .u8 o,.int .u8 0,.int .u8 0,.int .u8 0,.int .u8 0,.int .u64 0,.int .u64 0,.int .u64 0,.int .u64 0,.int .u64 0,.int .u64 0] 130
theorem abq (w:World) (A cap:Nat) (s:ByteArray) (ws:List ByteArray) (hA:A<w.heap.size) (hc:w.cell? ⟨A,0,none⟩=some (.string s)) (hl:ws.length≤2000000) (hn:uV s.toList = []∨(uV s.toList).isEmpty=false∧ws.length≠(uV s.toList).length) (hf:(uV s.toList).length≤4)
  (h:(s.toList == [115,116,105,99,107,121])=false) (h1:(s.toList == [99,108,101,97,114])=false) (h2:(s.toList == [101,110,118])=false):Calls Tryz.prog 83 #[.slice (some ⟨A,0,none⟩) (ws.length+1) cap] w (El w false):=by
 have HO:=Lib.hid (fun X=>abn X s)
 have h0:=Ei w (zC ⟨#[]⟩) (zC s)
 have h1':=BG w (zC ⟨#[]⟩) (zC s)
 have hB0:q9 w ((w.alloc (zC ⟨#[]⟩)).alloc (zC s)):=q9.alloc (q9.alloc (q9.refl w) _) _
 generalize uV s.toList=F at *
 go_enter Tryz.func83,Tryz.ntmps83
 go_wp2_with (go_at_call 131;refine(HO.out _).mono ?_;rintro e X ⟨⟨o,rfl⟩,rfl⟩)
 ·exact bodyPost_ret (F6 _ _ s o 0 0 0 0 0 0 0 0 0 0 false (Ei w (F8 s o) (F8 s o)) _ rfl rfl) rfl ⟨q9.alloc (q9.alloc (q9.refl w) _) _,_,⟨s,o,0,0,0,0,0,0,0,0,0,0,rfl⟩,rfl⟩
 ·exact bodyPost_ret (F6 _ _ s o 0 0 0 0 0 0 0 0 0 0 false (Ei w (F8 s o) (F8 s o)) _ rfl rfl) rfl ⟨q9.alloc (q9.alloc (q9.refl w) _) _,_,⟨s,o,0,0,0,0,0,0,0,0,0,0,rfl⟩,rfl⟩
 ·exfalso
  rename_i hF hb K hK
  rcases hn with hn|⟨_,hn⟩
  ·exact hF hn
  ·have h5:=hb.2
   rw[bne_eq_false_iff_eq] at h5
   omega
open Go.RowKit Go.Shelf FlagM
open Go.Lib (grownBy_trans)
attribute [local go_sem] Oper.semAt_some
theorem amu (w:World) (B:Nat) (wd s:ByteArray) (hB:yJ w B wd) (c:UInt8) (hc:c.toNat=102∨c.toNat=116∨c.toNat=107∨c.toNat=97∨c.toNat=98∨c.toNat=99) :
  Calls Tryz.prog 132 #[.pointer (some ⟨B,1,none⟩),.int .u8 ((c.toNat:Nat):Int),.string s] w fun e w'=>e = .returned (.bool (sZ c.toNat s))∧yJ w' B wd∧w.grownBy w' (some B):=by
 rcases hc with h|h|h|h|h|h
 all_goals rw[h]
 ·exact alV w B wd s hB
 ·exact alW w B wd s hB
 ·exact alX w B wd s hB
 ·exact alY w B wd s hB
 ·exact alZ w B wd s hB
 ·exact al0 w B wd s hB
theorem abr {w W X:World} {b:Nat} (h:q9 w W) (hg:W.grownBy X (some b)) (hb:w.heap.size≤b):q9 w X :=
 ⟨hg.os.trans (Below.os h),hg.tape.trans (Below.tape h),hg.output.trans (Below.output h),Nat.le_trans (Below.size h) hg.size,fun k hk=>(hg.block k (Nat.lt_of_lt_of_le hk (Below.size h)) (by simp;omega)).trans (Below.block h k hk)⟩
open Go.RowKit Go.Shelf FlagM
open Go.Lib (grownBy_trans)
attribute [local go_sem] Oper.semAt_some
theorem amv (w:World) (A cap:Nat) (s F:ByteArray) (ws:List ByteArray) (hA:A<w.heap.size) (hc:w.cell? ⟨A,0,none⟩=some (.string s)) (hcs:∀ j t,ws[j]? = some t→w.cell? ⟨A,j+1,none⟩=some (.string t)) (hF:F=⟨(uV s.toList).toArray⟩) (hn:ws.length=F.size) (hF4:F.size≤4) (hF0:0<F.size) (hFe:(F.toList == [])=false)
  (hFc:∀ k (h:k<F.size),F[k].toNat=102∨F[k].toNat=116∨F[k].toNat=107∨F[k].toNat=97∨F[k].toNat=98∨F[k].toNat=99)
  (h:(s.toList == [115,116,105,99,107,121])=false) (h1:(s.toList == [99,108,101,97,114])=false) (h2:(s.toList == [101,110,118])=false):Calls Tryz.prog 83 #[.slice (some ⟨A,0,none⟩) (ws.length+1) cap] w (El w (decide (∀ k (h:k<F.size),sZ F[k].toNat (ws.getD k ByteArray.empty)=true))):=by
 obtain⟨N,hNo⟩:∃ N,N=decide (∀ k (h:k<F.size),sZ F[k].toNat (ws.getD k ByteArray.empty)=true):=⟨_,rfl⟩
 rw[← hNo]
 have hN:=Lib.hid hNo
 have HO:=Lib.hid (fun X=>abn X s)
 rw[← hF] at HO
 have hcs:=Lib.hid hcs
 have hFc:=Lib.hid hFc
 clear hNo hF
 have q1:((ws.length:Int)+1 != (F.size:Int)+1)=false:=by rw[bne_eq_false_iff_eq];omega
 have hn:=Lib.hid hn
 go_enter Tryz.func83,Tryz.ntmps83
 go_wp2_with (go_at_call 131;refine(HO.out _).mono ?_;rintro e X ⟨⟨o,rfl⟩,rfl⟩)
 have hB0:q9 w ((w.alloc (zC ⟨#[]⟩)).alloc (F8 s o)):=q9.alloc (q9.alloc (q9.refl w) _) _
 have r0:=Ei w (zC ⟨#[]⟩) (F8 s o)
 have r1:=BG w (zC ⟨#[]⟩) (F8 s o)
 go_loopw [10] (fun i W=>∃ k:Nat,i = .int .i64 (k:Int)∧k≤F.size∧q9 w W∧yJ W (w.heap.size+1) s∧W.heap[w.heap.size]? = some (zC ⟨#[]⟩)∧Hid (∀ j (h:j<F.size),j<k→sZ F[j].toNat (ws.getD j ByteArray.empty)=true)) (fun i _=>F.size-(intOf i).toNat)
 case atStart=>exact⟨0,rfl,by omega,hB0,⟨o,0,0,0,0,0,0,0,0,0,0,r1⟩,r0,Lib.hid (fun j _ h=>by omega)⟩
 case round =>
  obtain⟨k,rfl,hk,hB,hC,hR0,hI⟩:=hrel
  clear hB0 r0 r1
  by_cases hlt:k<F.size
  ·have q3:(k:Int)<(F.size:Int):=by omega
   obtain⟨t,ht⟩:∃ t,ws[k]? = some t:=⟨_,List.getElem?_eq_getElem (by have:=hn.out;omega)⟩
   have hct:=(q9.cell hB A (k+1) hA).trans (hcs.out k t ht)
   have q4:(k:Int)+1<(F.size:Int)+1:=by omega
   have q5:(0:Int)≤(k:Int)+1:=by omega
   have q6:((k:Int)+1).toNat=k+1:=by omega
   have hgd:ws.getD k ByteArray.empty=t:=by rw[List.getD_eq_getElem?_getD,ht];rfl
   have qw:IntKind.i64.wrap ((k:Int)+1)=(k:Int)+1:=by rw[DW,Fs (by omega) (by omega)]
   have hC1:yJ wr.drew (w.heap.size+1) s:=hC
   have HS:=amu wr.drew (w.heap.size+1) s t hC1 F[k] (hFc.out k hlt)
   have hR1:wr.drew.heap[w.heap.size]? = some (zC ⟨#[]⟩):=hR0
   have hlt0:=(Array.getElem?_eq_some_iff.1 hR1).1
   have hBd:q9 w wr.drew:=hB.drew
   clear hC hC1
   have hct2:({ wr with drawn:=wr.drawn+1 } : World).cell? ⟨A,k+1,none⟩=some (.string t):=hct
   cases hv:sZ F[k].toNat t with
   | true =>
    rw[hv] at HS
    have HS:=Lib.hid HS
    have hv:=Lib.hid hv
    have hgd:=Lib.hid hgd
    have hlt0:=Lib.hid hlt0
    have hR1:=Lib.hid hR1
    go_wp2_with fail
    go_still_tail 9,(by kernel_rfl)
    change wpList _ _ _ _ _ wr.drew
    go_wp2_with (go_at_call 132;refine HS.out.mono ?_;rintro e X ⟨rfl,hC2,hg2⟩)
    refine⟨⟨k+1,by simp,by omega,abr hBd hg2 (by omega),hC2,(hg2.block _ hlt0.out (by simp)).trans hR1.out,Lib.hid (fun j hj hjk=>?_)⟩,by simp only[intOf];omega⟩
    by_cases hjk2:j<k
    ·exact hI.out j hj hjk2
    ·obtain rfl:j=k:=by omega
     rw[hgd.out];exact hv.out
   | false =>
    rw[hv] at HS
    have HS:=Lib.hid HS
    have hNf:N=false:=by
     rw[hN.out]
     apply decide_eq_false
     intro h
     have:=h k hlt
     rw[hgd,hv] at this
     cases this
    subst hNf
    have hlt0:=Lib.hid hlt0
    have hR1:=Lib.hid hR1
    clear hv hgd
    go_wp2_with fail
    go_still_tail 9,(by kernel_rfl)
    change wpList _ _ _ _ _ wr.drew
    go_wp2_with (go_at_call 132;refine HS.out.mono ?_;rintro e X ⟨rfl,⟨x1,x2,x3,x4,x5,y1,y2,y3,y4,y5,y6,hC2⟩,hg2⟩;have hB5:=abr hBd hg2 (by omega);have s0:=(hg2.block _ hlt0.out (by simp)).trans hR1.out;obtain⟨⟨c0,c1,c2,c3,c4,c5,c6,c7,c8,c9,c10,c11⟩,⟨z0,z1,z2,z3,z4,z5,z6,z7,z8,z9,z10,z11⟩⟩:=JL hC2;obtain⟨⟨d0,d1,d2,d3,d4,d5,d6,d7,d8,d9,d10,d11⟩,⟨a0,a1,a2,a3,a4,a5,a6,a7,a8,a9,a10,a11⟩⟩:=JL s0;have s0:=Lib.hid s0;have hC2:=Lib.hid hC2)
    obtain⟨hB6,s3⟩:=TM hB5 s0.out (.string s) (.int .u8 x1) (.int .u8 x2) (.int .u8 x3) (.int .u8 x4) (.int .u8 x5) (.int .u64 y1) (.int .u64 y2) (.int .u64 y3) (.int .u64 y4) (.int .u64 y5) (.int .u64 y6)
    exact bodyPost_ret (F6 _ _ _ _ _ _ _ _ _ _ _ _ _ _ _ s3 _ rfl rfl) rfl ⟨hB6,_,⟨s,x1,x2,x3,x4,x5,y1,y2,y3,y4,y5,y6,rfl⟩,rfl⟩
  ·obtain rfl:k=F.size:=by omega
   have q3:¬ (F.size:Int)<(F.size:Int):=by omega
   have hNt:N=true:=by
    rw[hN.out]
    apply decide_eq_true
    intro j hj
    exact hI.out j hj hj
   subst hNt
   obtain⟨x1,x2,x3,x4,x5,y1,y2,y3,y4,y5,y6,hC2⟩:=hC
   have s0:=hR0
   obtain⟨⟨c0,c1,c2,c3,c4,c5,c6,c7,c8,c9,c10,c11⟩,⟨z0,z1,z2,z3,z4,z5,z6,z7,z8,z9,z10,z11⟩⟩:=JL hC2
   obtain⟨⟨d0,d1,d2,d3,d4,d5,d6,d7,d8,d9,d10,d11⟩,⟨a0,a1,a2,a3,a4,a5,a6,a7,a8,a9,a10,a11⟩⟩:=JL s0
   have s0:=Lib.hid s0
   have hC2:=Lib.hid hC2
   clear hR0
   go_wp2_with fail
   obtain⟨hB6,s3⟩:=TM hB s0.out (.string s) (.int .u8 x1) (.int .u8 x2) (.int .u8 x3) (.int .u8 x4) (.int .u8 x5) (.int .u64 y1) (.int .u64 y2) (.int .u64 y3) (.int .u64 y4) (.int .u64 y5) (.int .u64 y6)
   exact bodyPost_ret (F6 _ _ _ _ _ _ _ _ _ _ _ _ _ _ _ s3 _ rfl rfl) rfl ⟨hB6,_,⟨s,x1,x2,x3,x4,x5,y1,y2,y3,y4,y5,y6,rfl⟩,rfl⟩
open FlagM
def vI:Sc.By→List ByteArray→Bool
 | [],[]=>true
 | c::F,s::ws=>sZ c.toNat s&&vI F ws
 | _,_=>false
def F9:List ByteArray→Bool
 | [a,b]=>decide (0≤Lib.idxOfS xJ a)&&decide (0≤Lib.idxOfS yG b)
 | _=>false
def Ah (s:ByteArray) (ws:List ByteArray):Bool :=
 if (s.data.toList == [115,116,105,99,107,121])=true then ws.isEmpty else
 if (s.data.toList == [99,108,101,97,114])=true then ws.isEmpty else
 if (s.data.toList == [101,110,118])=true then F9 ws else
 !(uV s.data.toList).isEmpty&&vI (uV s.data.toList) ws
def JO:Option (sF×List ByteArray)→Bool
 | some (_,[])=>true
 | _=>false
theorem amw (s:ByteArray) (ws:List ByteArray):(uC s ws).isSome=JO (tN s ws):=by
 unfold uC
 rcases tN s ws with _|⟨c,_|⟨a,l⟩⟩<;>rfl
theorem BL (zs:List ByteArray) (s:ByteArray) (ws:List ByteArray):(∃ k,tC zs (s::ws)=some (k,ws))∧decide (0≤Lib.idxOfS zs s)=true∨tC zs (s::ws)=none∧decide (0≤Lib.idxOfS zs s)=false:=by
 rw[tC]
 by_cases h:0≤Lib.idxOfS zs s
 ·exact .inl ⟨⟨_,if_pos h⟩,decide_eq_true h⟩
 ·exact .inr ⟨if_neg h,decide_eq_false h⟩
theorem OB (s:ByteArray) (ws:List ByteArray) (h:0<s.size):(∃ k,uT (s::ws)=some (k,ws))∧xK s=true∨uT (s::ws)=none∧xK s=false:=by
 obtain⟨h1,h2⟩:=ams s ws h
 cases hb:uT (s::ws) with
 | none=>rw[hb] at h1;exact .inr ⟨rfl,h1.symm⟩
 | some x =>
  have h3:=h2 _ hb
  obtain⟨k,l⟩:=x
  rw[hb] at h1
  simp only at h3
  subst h3
  exact .inl ⟨⟨k,rfl⟩,h1.symm⟩
theorem abt:∀ n,uB (n+1) []=none
 | 0=>rfl
 | n+1=>by rw[uB,abt n]
theorem abu (s:ByteArray) (ws:List ByteArray) (h:0<s.size):∀ n,(xK s=true∧∃ k,uB (n+1) (s::ws)=(uB n ws).map (fun x=>(k::x.1,x.2)))∨(xK s=false∧uB (n+1) (s::ws)=none)
 | 0=>by
  rcases OB s ws h with⟨⟨k,h1⟩,h2⟩|⟨h1,h2⟩
  ·exact .inl ⟨h2,k,by simp[uB,h1]⟩
  ·exact .inr ⟨h2,by simp[uB,h1]⟩
 | n+1=>by
  rcases abu s ws h n with⟨h1,k,h2⟩|⟨h1,h2⟩
  ·refine .inl ⟨h1,k,?_⟩
   rw[uB,h2]
   conv=>rhs;rw[uB]
   cases uB n ws with
   | none=>rfl
   | some x =>
    obtain⟨l,r⟩:=x
    simp only[Option.map_some]
    cases uT r with
    | none=>rfl
    | some y=>rfl
  ·exact .inr ⟨h1,by rw[uB,h2]⟩
def okN:Option (List (Int×Int)×List ByteArray)→Bool
 | some (_,[])=>true
 | _=>false
theorem abv:∀ (F:Sc.By) (ws:List ByteArray),(∀ c∈F,c=97∨c=98∨c=99)→(∀ x∈ws,0<x.size)→okN (uB F.length ws)=vI F ws
 | [],[],_,_=>rfl
 | [],s::ws,_,_=>rfl
 | c::F,[],_,_=>by rw[List.length_cons,abt];rfl
 | c::F,s::ws,hF,hw=>by
  have hs:sZ c.toNat s=xK s:=by
   rcases hF c (by simp) with rfl|rfl|rfl<;>rfl
  have ih:=abv F ws (fun x hx=>hF x (List.mem_cons_of_mem _ hx)) (fun x hx=>hw x (List.mem_cons_of_mem _ hx))
  rw[vI,hs,List.length_cons,← ih]
  rcases abu s ws (hw s (by simp)) F.length with⟨h1,k,h2⟩|⟨h1,h2⟩
  ·rw[h1,h2,Bool.true_and]
   rcases uB F.length ws with _|⟨x,_|⟨a,l⟩⟩<;>rfl
  ·rw[h1,h2,Bool.false_and];rfl
theorem AZ (o:Int) (F:Sc.By) (ws:List ByteArray) (hF:∀ c∈F,c=97∨c=98∨c=99) (hw:∀ x∈ws,0<x.size):JO (uH o F.length ws)=vI (102::F) ws:=by
 cases ws with
 | nil=>rfl
 | cons a ws =>
  rw[vI,← abv F ws hF (fun x hx=>hw x (List.mem_cons_of_mem _ hx)),uH]
  rcases BL ul a ws with⟨⟨k,h⟩,e⟩|⟨h,e⟩
  ·rw[h,show sZ (102:UInt8).toNat a=true from e,Bool.true_and]
   simp only
   rcases uB F.length ws with _|⟨x,_|⟨a,l⟩⟩<;>rfl
  ·rw[h,show sZ (102:UInt8).toNat a=false from e];rfl
theorem amy (ws:List ByteArray) (hw:∀ x∈ws,0<x.size):JO (yE ws)=vI [102,116,97] ws:=by
 match ws,hw with
 | [],_=>rfl
 | a::ws,hw =>
  rw[vI,yE]
  rcases BL ul a ws with⟨⟨k,h⟩,e⟩|⟨h,e⟩
  ·rw[h,show sZ (102:UInt8).toNat a=true from e,Bool.true_and]
   match ws,hw with
   | [],_=>rfl
   | b::ws,hw =>
    rw[vI]
    simp only
    rcases BL ul b ws with⟨⟨k,h⟩,e⟩|⟨h,e⟩
    ·rw[h,show sZ (116:UInt8).toNat b=true from e,Bool.true_and]
     match ws,hw with
     | [],_=>rfl
     | c::ws,hw =>
      rw[vI]
      simp only
      rcases OB c ws (hw c (by simp)) with⟨⟨k,h⟩,e⟩|⟨h,e⟩
      ·rw[h,show sZ (97:UInt8).toNat c=true from e,Bool.true_and]
       cases ws<;>rfl
      ·rw[h,show sZ (97:UInt8).toNat c=false from e];rfl
    ·rw[h,show sZ (116:UInt8).toNat b=false from e];rfl
  ·rw[h,show sZ (102:UInt8).toNat a=false from e];rfl
theorem amz (ws:List ByteArray) (hw:∀ x∈ws,0<x.size):JO (yY ws)=vI [102,107,97] ws:=by
 match ws,hw with
 | [],_=>rfl
 | a::ws,hw =>
  rw[vI,yY]
  rcases BL ul a ws with⟨⟨k,h⟩,e⟩|⟨h,e⟩
  ·rw[h,show sZ (102:UInt8).toNat a=true from e,Bool.true_and]
   match ws,hw with
   | [],_=>rfl
   | b::ws,hw =>
    rw[vI]
    simp only
    rcases BL xI b ws with⟨⟨k,h⟩,e⟩|⟨h,e⟩
    ·rw[h,show sZ (107:UInt8).toNat b=true from e,Bool.true_and]
     match ws,hw with
     | [],_=>rfl
     | c::ws,hw =>
      rw[vI]
      simp only
      rcases OB c ws (hw c (by simp)) with⟨⟨k,h⟩,e⟩|⟨h,e⟩
      ·rw[h,show sZ (97:UInt8).toNat c=true from e,Bool.true_and]
       cases ws<;>rfl
      ·rw[h,show sZ (97:UInt8).toNat c=false from e];rfl
    ·rw[h,show sZ (107:UInt8).toNat b=false from e];rfl
  ·rw[h,show sZ (102:UInt8).toNat a=false from e];rfl
theorem amA (ws:List ByteArray) (hw:∀ x∈ws,0<x.size):JO (yZ ws)=vI [107,102,97] ws:=by
 match ws,hw with
 | [],_=>rfl
 | a::ws,hw =>
  rw[vI,yZ]
  rcases BL xI a ws with⟨⟨k,h⟩,e⟩|⟨h,e⟩
  ·rw[h,show sZ (107:UInt8).toNat a=true from e,Bool.true_and]
   match ws,hw with
   | [],_=>rfl
   | b::ws,hw =>
    rw[vI]
    simp only
    rcases BL ul b ws with⟨⟨k,h⟩,e⟩|⟨h,e⟩
    ·rw[h,show sZ (102:UInt8).toNat b=true from e,Bool.true_and]
     match ws,hw with
     | [],_=>rfl
     | c::ws,hw =>
      rw[vI]
      simp only
      rcases OB c ws (hw c (by simp)) with⟨⟨k,h⟩,e⟩|⟨h,e⟩
      ·rw[h,show sZ (97:UInt8).toNat c=true from e,Bool.true_and]
       cases ws<;>rfl
      ·rw[h,show sZ (97:UInt8).toNat c=false from e];rfl
    ·rw[h,show sZ (102:UInt8).toNat b=false from e];rfl
  ·rw[h,show sZ (107:UInt8).toNat a=false from e];rfl
theorem amB (ws:List ByteArray):JO (vg ws)=F9 ws:=by
 match ws with
 | []=>rfl
 | [a] =>
  rw[vg]
  rcases BL xJ a [] with⟨⟨k,h⟩,e⟩|⟨h,e⟩<;>rw[h]<;>rfl
 | a::b::ws =>
  rw[vg]
  rcases BL xJ a (b::ws) with⟨⟨k,h⟩,e⟩|⟨h,e⟩
  ·rw[h]
   simp only
   rcases BL yG b ws with⟨⟨k,h⟩,e2⟩|⟨h,e2⟩
   ·rw[h]
    cases ws with
    | nil=>rw[F9,e,e2];rfl
    | cons c ws=>rfl
   ·rw[h]
    cases ws with
    | nil=>rw[F9,e,e2];rfl
    | cons c ws=>rfl
  ·rw[h]
   cases ws with
   | nil=>rw[F9,e];rfl
   | cons c ws=>rfl
theorem yh {s:ByteArray} {l:Sc.By} (h:s≠⟨l.toArray⟩):(s.data.toList==l)=false:=by
 rw[beq_eq_false_iff_ne]
 intro e
 apply h
 apply ByteArray.ext
 rw[← e]
theorem amC (s:ByteArray) (ws:List ByteArray) (hw:∀ x∈ws,0<x.size):(uC s ws).isSome=Ah s ws:=by
 rw[amw]
 by_cases e0:s=wz
 ·subst e0;exact AZ 1 [97,98] ws (by decide) hw
 by_cases e1:s=wB
 ·subst e1;exact AZ 2 [97,98] ws (by decide) hw
 by_cases e2:s=wC
 ·subst e2;exact AZ 3 [97,98] ws (by decide) hw
 by_cases e3:s=wD
 ·subst e3;exact AZ 4 [97,98] ws (by decide) hw
 by_cases e4:s=wE
 ·subst e4;exact AZ 7 [97,98] ws (by decide) hw
 by_cases e5:s=wF
 ·subst e5;exact AZ 6 [97,98,99] ws (by decide) hw
 by_cases e6:s=wG
 ·subst e6;exact AZ 5 [97] ws (by decide) hw
 by_cases e7:s=wH
 ·subst e7;exact AZ 8 [97] ws (by decide) hw
 by_cases e8:s=wI
 ·subst e8;exact AZ 9 [97] ws (by decide) hw
 by_cases e9:s=wJ
 ·subst e9;exact AZ 13 [97,98] ws (by decide) hw
 by_cases e10:s=wK
 ·subst e10;exact AZ 14 [97,98] ws (by decide) hw
 by_cases e11:s=vO
 ·subst e11;exact amy ws hw
 by_cases e12:s=vP
 ·subst e12;exact amz ws hw
 by_cases e13:s=vQ
 ·subst e13;exact amA ws hw
 by_cases e14:s=vR
 ·subst e14;exact amB ws
 by_cases e15:s=vS
 ·subst e15;cases ws<;>rfl
 by_cases e16:s=vT
 ·subst e16;cases ws<;>rfl
 ·have hf:uV s.data.toList = []:=by
   simp only[uV,yh e0,yh e1,yh e2,yh e3,yh e4,yh e5,yh e6,yh e7,yh e8,yh e9,yh e10,yh e11,yh e12,yh e13,Bool.false_eq_true,if_false]
  rw[tN,if_neg e0,if_neg e1,if_neg e2,if_neg e3,if_neg e4,if_neg e5,if_neg e6,if_neg e7,if_neg e8,if_neg e9,if_neg e10,if_neg e11,if_neg e12,if_neg e13,if_neg e14,if_neg e15,if_neg e16]
  rw[Ah,yh e16,yh e15,yh e14,hf]
  rfl
theorem abw:∀ (F:Sc.By) (ws:List ByteArray),ws.length=F.length→vI F ws=decide (∀ k (h:k<F.length),sZ F[k].toNat (ws.getD k ByteArray.empty)=true)
 | [],[],_=>by rw[vI];symm;simp
 | c::F,s::ws,h=>by
  rw[vI,abw F ws (by simpa using h),Bool.eq_iff_iff,Bool.and_eq_true,decide_eq_true_iff,decide_eq_true_iff]
  constructor
  ·rintro⟨h1,h2⟩ k hk
   cases k with
   | zero=>exact h1
   | succ k=>exact h2 k (by simpa using hk)
  ·intro h1
   exact⟨h1 0 (by simp),fun k hk=>h1 (k+1) (by simp;omega)⟩
theorem abx:∀ (F:Sc.By) (ws:List ByteArray),ws.length≠F.length→vI F ws=false
 | [],[],h=>absurd rfl h
 | [],s::ws,_=>rfl
 | c::F,[],_=>rfl
 | c::F,s::ws,h=>by
  rw[vI,abx F ws (by simpa using h),Bool.and_false]
open Go.RowKit Go.Shelf FlagM
abbrev sO (F:Sc.By):Prop:=F.length≤4∧∀ c∈F,c.toNat=102∨c.toNat=116∨c.toNat=107∨c.toNat=97∨c.toNat=98∨c.toNat=99
theorem amD {b:Bool} {x y:Sc.By} (hx:sO x) (hy:sO y):sO (if b=true then x else y):=by split<;>assumption
theorem amE (l:Sc.By):sO (uV l):=by
 unfold uV
 iterate 14 refine amD (by decide) ?_
 decide
theorem amF (w:World) (A cap:Nat) (s:ByteArray) (ws:List ByteArray) (hA:A<w.heap.size) (hl:ws.length≤2000000) (hcs:∀ j t,(s::ws)[j]? = some t→w.cell? ⟨A,j,none⟩=some (.string t)) :
  Calls Tryz.prog 83 #[.slice (some ⟨A,0,none⟩) (ws.length+1) cap] w (El w (Ah s ws)):=by
 have c0:=hcs 0 s rfl
 have hie:decide (ws.length=0)=ws.isEmpty:=by cases ws<;>rfl
 have ht:=ByteArray.toList_eq s
 cases h:(s.toList == [115,116,105,99,107,121]) with
 | true =>
  have z:=abo w A cap s ws hA c0 hl (.inl h)
  rw[ht] at h
  rw[Ah,if_pos h,← hie]
  exact z
 | false =>
  cases h1:(s.toList == [99,108,101,97,114]) with
  | true =>
   have z:=abo w A cap s ws hA c0 hl (.inr ⟨h,h1⟩)
   rw[ht] at h h1
   rw[Ah,if_neg (by rw[h];decide),if_pos h1,← hie]
   exact z
  | false =>
   cases h2:(s.toList == [101,110,118]) with
   | true =>
    have hq:Ah s ws=F9 ws:=by
     rw[ht] at h h1 h2
     rw[Ah,if_neg (by rw[h];decide),if_neg (by rw[h1];decide),if_pos h2]
    rw[hq]
    by_cases hn:ws.length=2
    ·match ws,hn with
     | [a,b],_=>exact amo w A cap s a b hA c0 (hcs 1 a rfl) (hcs 2 b rfl) h h1 h2
    ·have he:F9 ws=false:=by
      match ws,hn with
      | [],_=>rfl
      | [a],_=>rfl
      | [a,b],hn=>exact absurd rfl hn
      | a::b::c::l,_=>rfl
     rw[he]
     exact amt w A cap s ws hA c0 hl hn h h1 h2
   | false =>
    obtain⟨f1,f2⟩:=amE s.toList
    have hq:Ah s ws=(!(uV s.toList).isEmpty&&vI (uV s.toList) ws):=by
     rw[ht] at h h1 h2 ⊢
     rw[Ah,if_neg (by rw[h];decide),if_neg (by rw[h1];decide),if_neg (by rw[h2];decide)]
    rw[hq]
    by_cases hF:uV s.toList = []
    ·rw[hF]
     exact abq w A cap s ws hA c0 hl (.inl hF) f1 h h1 h2
    ·have hF2:(uV s.toList).isEmpty=false:=by simpa using hF
     rw[hF2]
     by_cases hn:ws.length=(uV s.toList).length
     ·have z:=amv w A cap s ⟨(uV s.toList).toArray⟩ ws hA c0 (fun j t hj=>hcs (j+1) t hj) rfl (hn.trans (by simp[ByteArray.size])) (by simpa [ByteArray.size] using f1) (by simp[ByteArray.size];exact Nat.pos_of_ne_zero (fun e=>hF (List.length_eq_zero_iff.1 e))) (by rw[ByteArray.toList_eq];simpa using hF)
       (fun k hk=>f2 _ (List.getElem_mem (l:=uV s.toList) (n:=k) (by simpa [ByteArray.size] using hk))) h h1 h2
      rw[abw _ _ hn]
      have e:(!false&&decide (∀ k (h:k<(uV s.toList).length),sZ (uV s.toList)[k].toNat (ws.getD k ByteArray.empty)=true))=decide (∀ k (h:k<(⟨(uV s.toList).toArray⟩:ByteArray).size),sZ ((⟨(uV s.toList).toArray⟩:ByteArray)[k]'h).toNat (ws.getD k ByteArray.empty)=true):=by
       rw[Bool.not_false,Bool.true_and,decide_eq_decide]
       constructor
       ·intro z k hk;exact z k (by simpa [ByteArray.size] using hk)
       ·intro z k hk;exact z k (by simpa [ByteArray.size] using hk)
      rw[e]
      exact z
     ·rw[abx _ _ hn,Bool.and_false]
      exact abq w A cap s ws hA c0 hl (.inr ⟨hF2,hn⟩) f1 h h1 h2
open FlagM
theorem aby (l:Sc.By):vU l=Sc.wl [] l:=by
 show(Lib.goFieldsP Af (uI l)).map (·.data.toList)=_
 have h:=Sc.words_wl (uI l)
 rw[show(uI l).data.toList=l from by simp[uI]] at h
 exact h
theorem amG (l:Sc.By) (x:Sc.By) (h:x∈vU l):x ≠ []:=by
 obtain⟨y,hy,rfl⟩:=List.mem_map.1 h
 have h1:=(SG Af (uI l)).1 y hy
 intro e
 rw[← ByteArray.size_data,← Array.length_toList,e] at h1
 exact absurd h1 (by decide)
def yj (s:ByteArray) (r:List sF×Nat×Nat) (k m g n:Nat):Prop :=
 ∃ (out:List sF) (R:List Sc.By),out.length=n∧r=Sc.parse vU wU m out R∧(k≤s.size∧g≤k∧R=Sc.lines (s.data.toList.drop g)∧(10:UInt8)∉(s.data.toList.take k).drop g∨k=s.size+1∧R = [])
theorem yj.start (s:ByteArray):yj s (Sc.parse vU wU 0 [] (Sc.lines s.data.toList)) 0 0 0 0 :=
 ⟨[],_,rfl,rfl,.inl ⟨Nat.zero_le _,Nat.le_refl _,rfl,by simp⟩⟩
theorem yj.gk {s:ByteArray} {r:List sF×Nat×Nat} {k m g n:Nat} (h:yj s r k m g n) (hk:k≤s.size):g≤k:=by
 obtain⟨out,R,h1,h2,h3⟩:=h
 omega
theorem yj.next {s:ByteArray} {r:List sF×Nat×Nat} {k m g n:Nat} (h:yj s r k m g n) (hk:k<s.size) (hc:s[k]≠10):yj s r (k+1) m g n:=by
 obtain⟨out,R,h1,h2,h3⟩:=h
 rcases h3 with⟨a,b,c,d⟩|⟨a,b⟩
 ·refine⟨out,R,h1,h2,.inl ⟨hk,by omega,c,?_⟩⟩
  have hl:k<s.data.toList.length:=by simpa using hk
  rw[List.take_succ_eq_append_getElem hl,List.drop_append_of_le_length (by simp;omega)]
  intro e
  rcases List.mem_append.1 e with e|e
  ·exact d e
  ·exact hc (List.mem_singleton.1 e).symm
 ·omega
theorem yj.stop {s:ByteArray} {r:List sF×Nat×Nat} {m g n:Nat} (h:yj s r (s.size+1) m g n):r.2=(0,0):=by
 obtain⟨out,R,h1,h2,h3⟩:=h
 rcases h3 with⟨a,_⟩|⟨_,b⟩
 ·omega
 ·rw[h2,b];rfl
theorem amH (T:Sc.By) (g k:Nat) (hg:g≤k) (h:k<T.length):T.drop g=(T.take k).drop g++T[k]::T.drop (k+1):=by
 have e:T=T.take k++T[k]::T.drop (k+1):=by
  rw[← List.drop_eq_getElem_cons h,List.take_append_drop]
 conv=>lhs;rw[e]
 rw[List.drop_append_of_le_length (by simp;omega)]
theorem yj.line {s:ByteArray} {r:List sF×Nat×Nat} {k m g n:Nat} (h:yj s r k m g n) (hst:k=s.size∨∃ hk:k<s.size,s[k]=10) (L:List ByteArray) (hL:L.map (·.data.toList)=Sc.wl [] (s.extract g k).data.toList) :
  (L = []→yj s r (k+1) (m+1) (k+1) n)∧∀ x xs,L=x::xs→(∀ y∈xs,0<y.size)∧∃ hx:0<x.size,(x[0]=35→yj s r (k+1) (m+1) (k+1) n)∧(x[0]≠35→(n=4096→r.2=(m+1,2))∧(n≠4096→(Ah x xs=false→r.2=(m+1,3))∧(Ah x xs=true→yj s r (k+1) (m+1) (k+1) (n+1)))):=by
 obtain⟨out,R,h1,h2,h3⟩:=h
 obtain⟨a,b,c,d⟩:=h3.resolve_right (by rintro⟨a,_⟩;rcases hst with e|⟨e,_⟩<;>omega)
 obtain⟨R',hR,hN⟩:∃ R',R=(s.extract g k).data.toList::R'∧∀ out:List sF,r=Sc.parse vU wU (m+1) out R'→yj s r (k+1) (m+1) (k+1) out.length:=by
  rw[Sc.ext_eq]
  rcases hst with e|⟨hk,e⟩
  ·refine⟨[],?_,fun out hr=>⟨out,[],rfl,hr,.inr ⟨by omega,rfl⟩⟩⟩
   have ht:s.data.toList.take k=s.data.toList:=List.take_of_length_le (by simp;omega)
   rw[ht] at d ⊢
   rw[c,Sc.lines_free _ d]
  ·have hl:k<s.data.toList.length:=by simpa using hk
   have e2:s.data.toList[k]=10:=e
   refine⟨Sc.lines (s.data.toList.drop (k+1)),?_,fun out hr=>⟨out,_,rfl,hr,.inl ⟨hk,Nat.le_refl _,rfl,by simp⟩⟩⟩
   rw[c,amH _ g k b hl,e2,Sc.lines_app,Sc.lines_free _ d];rfl
 rw[hR,Sc.parse_cons] at h2
 have hw:vU (s.extract g k).data.toList=L.map (·.data.toList):=by rw[hL,aby]
 have hpos:∀ y∈L,0<y.size:=fun y hy=>by
  have h5:=amG (s.extract g k).data.toList y.data.toList (by rw[hw];exact List.mem_map_of_mem hy)
  rw[← ByteArray.size_data,← Array.length_toList]
  exact List.length_pos_iff.2 h5
 rw[hw] at h2
 subst h1
 constructor
 ·intro e
  subst e
  rw[List.map_nil,if_pos (show Sc.skip []=true from rfl)] at h2
  exact hN out h2
 ·rintro x xs rfl
  have hx:=hpos x (by simp)
  have hx0:x.data.toList.head? = some x[0]:=by
   rw[List.head?_eq_getElem?]
   exact List.getElem?_eq_getElem (by simpa using hx)
  refine⟨fun y hy=>hpos y (List.mem_cons_of_mem _ hy),hx,fun h35=>?_,fun h35=>⟨fun h4=>?_,fun h4=>⟨fun hq=>?_,fun hq=>?_⟩⟩⟩
  ·rw[if_pos (by simp[Sc.skip,hx0,h35])] at h2
   exact hN out h2
  all_goals rw[if_neg (by simp[Sc.skip,hx0,h35])] at h2
  ·rw[if_pos h4] at h2;rw[h2]
  all_goals
   have hc:wU ((x::xs).map (·.data.toList))=uC x xs:=by
    show uC (uI x.data.toList) ((xs.map (·.data.toList)).map uI)=_
    rw[aam];rfl
   have hcl:=amC x xs (fun y hy=>hpos y (List.mem_cons_of_mem _ hy))
   rw[hq] at hcl
   rw[if_neg h4,hc] at h2
  ·cases hcs:uC x xs with
   | none=>rw[hcs] at h2;rw[h2]
   | some c=>rw[hcs] at hcl;cases hcl
  ·cases hcs:uC x xs with
   | none=>rw[hcs] at hcl;cases hcl
   | some c =>
    rw[hcs] at h2
    have:=hN _ h2
    simpa using this
open Go.RowKit Go.Shelf FlagM
open Go.Lib (grownBy_trans)
attribute [local go_sem] Oper.semAt_some
abbrev abz:Value:=.agg #[.string ⟨#[]⟩,.int .u8 0,.int .u8 0,.int .u8 0,.int .u8 0,.int .u8 0,.int .u64 0,.int .u64 0,.int .u64 0,.int .u64 0,.int .u64 0,.int .u64 0]
theorem amI:(Tryz.prog.info? 130).map (fun i=>(i.zero,i.size,i.bytes))=some (some abz,12,72):=by kernel_rfl
theorem amJ (w:World) (cs:List Value) (t:TypeId) (b:Nat) (hb:b=w.heap.size):∀ (j:Nat) (u:Value),cs[j]? = some u→(w.alloc (.cells cs.toArray t)).cell? ((⟨b,0,none⟩:Addr).add j)=some u:=by
 intro j u h
 subst hb
 rw[Addr.add_lit,Nat.zero_add]
 have:=World.alloc_heap_new w (.cells cs.toArray t)
 unfold World.cell?
 simp only[this]
 simpa using h
theorem abA {w:World} {base n:Nat} {v:Value} {xs:List Value} {t z:Nat} (h:w.ownsRow base t z v n xs):∃ ad cap,v = .slice ad n cap:=by
 rcases h.2 with⟨h1,h2⟩|⟨g,cap,cur,h1,h2⟩
 ·exact⟨none,0,by rw[h1,h2]⟩
 ·exact⟨_,cap,h1⟩
theorem amK {w:World} {base n:Nat} {v:Value} {xs:List Value} {t z:Nat} (h:w.ownsRow base t z v (n+1) xs):∃ g cap,v = .slice (some ⟨g,0,none⟩) (n+1) cap:=by
 rcases h.2 with⟨h1,h2⟩|⟨g,cap,cur,h1,h2⟩
 ·cases h2
 ·exact⟨g,cap,h1⟩
theorem amL (l:Sc.By):(Sc.wl [] l).length≤l.length+1:=by
 rw[← aby]
 have h:=(SG Af (uI l)).2
 rw[show(uI l).size=l.length from by simp[uI,ByteArray.size]] at h
 show((Lib.goFieldsP Af (uI l)).map _).length≤_
 rw[List.length_map];exact h
theorem amM (w : World) (s : ByteArray) : Calls Tryz.prog 38 #[.string s] w fun e w' => q9 w w' ∧ ∃ v, e = .returned (.tuple #[v, .int .i64 ((tF s).2.1 : Int), .int .i64 ((tF s).2.2 : Int)]) := by
  by_cases hbig : 1048576 < s.size
  · have q1 : (s.size : Int) > 1048576 := by omega
    have hr : tF s = ([], 0, 2) := by rw [tF, if_pos hbig]
    rw [hr]
    go_enter Tryz.func38, Tryz.ntmps38
    go_wp2_with fail
    try simp only [Exit.inBlock, Exit.then]
    refine bodyPost_ret (BI rfl _ _ _) rfl ?_
    exact ⟨q9.refl w, _, rfl⟩
  have q1 : ¬ (s.size : Int) > 1048576 := by omega
  have hr : tF s = Sc.parse vU wU 0 [] (Sc.lines s.data.toList) := by rw [tF, if_neg hbig]
  rw [hr]
  have hP0 := yj.start s
  generalize Sc.parse vU wU 0 [] (Sc.lines s.data.toList) = r at *
  have hP0 := Lib.hid hP0
  clear hr
  have HWd := Lib.hid (fun X t (ht : t.size ≤ 2000000) => al6 X t ht)
  obtain ⟨i0, hi, hz0, hz1, hz2⟩ := info_parts amI
  go_enter Tryz.func38, Tryz.ntmps38
  go_wp2_with fail
  go_loopw [5, 6, 7, 8] (fun out l f i W => ∃ (k m g n : Nat) (xs : List Value), i = .int .i64 (k : Int) ∧ l = .int .i64 (m : Int) ∧ f = .int .i64 (g : Int) ∧ k ≤ s.size + 1 ∧ m ≤ k ∧ n ≤ k ∧ n ≤ 4096 ∧ q9 w W ∧ W.ownsRow w.heap.size 130 12 out n xs ∧ Hid (yj s r k m g n)) (fun _ _ _ i _ => s.size + 1 - (intOf i).toNat)
  case atStart => exact ⟨0, 0, 0, 0, [], rfl, rfl, rfl, by omega, by omega, by omega, by omega, q9.refl w, World.ownsRow_nil _ _ _ _, hP0⟩
  case round =>
    obtain ⟨k, m, g, n, xs, rfl, rfl, rfl, hk, hm, hn, hn4, hB, hown, hP⟩ := hrel
    clear hP0
    obtain ⟨ad, cap, rfl⟩ := abA hown
    by_cases hlt : k ≤ s.size
    · have q2 : (k : Int) ≤ (s.size : Int) := by omega
      by_cases hst : k = s.size ∨ ∃ h : k < s.size, s[k] = 10
      · have hgk := hP.out.gk hlt
        have q3 : (g : Int) ≤ (k : Int) := by omega
        have q4 : (0 : Int) ≤ (g : Int) := by omega
        have hsz : (s.extract g k).size ≤ 2000000 := by rw [ByteArray.size_extract]; omega
        have hLn := Lib.hid (hP.out.line hst)
        have q5 : ¬ (k : Int) < (s.size : Int) ∨ ((k : Int) < (s.size : Int)) ∧ ∃ h : k < s.size, (((s[k]).toNat : Int) != 10) = false := by
          rcases hst with e | ⟨h, e⟩
          · left; omega
          · right; exact ⟨by omega, h, by rw [e]; rfl⟩
        have hbase : w.heap.size ≤ wr.heap.size := Below.size hB
        clear hst hP
        rcases q5 with q5 | ⟨q5, hkl, q6⟩
        all_goals
          go_wp2_with fail
          go_at_call 82
          refine (HWd.out _ _ hsz).mono ?_
          rintro e W1 ⟨hB1, v, L, rfl, hown1, hLw⟩
          obtain ⟨hl0, hl1⟩ := hLn.out L hLw
          have hsz1 := Below.size hB1
          have hown2 := SI hown hB1
          have hLl : L.length ≤ 2000000 := by
            have h1 := amL (s.extract g k).data.toList
            have h3 : (s.extract g k).data.toList.length = (s.extract g k).size := Array.length_toList
            have h4 := congrArg List.length hLw
            rw [List.length_map] at h4
            have h2 : (s.extract g k).size ≤ 1048576 := by rw [ByteArray.size_extract]; omega
            omega
          cases L with
          | nil =>
            obtain ⟨ad1, cap1, rfl⟩ := abA hown1
            have hN := Lib.hid (hl0 rfl)
            clear hl0 hl1 hLn hLw
            go_wp2_with fail
            exact ⟨⟨k + 1, m + 1, k + 1, n, xs, by simp, by simp, by simp, by omega, by omega, by omega, hn4, q9.trans hB hB1, hown2, hN⟩, by simp only [intOf]; omega⟩
          | cons x ws =>
            obtain ⟨A1, cap1, rfl⟩ := amK hown1
            obtain ⟨hws, hx0, h35, hno⟩ := hl1 x ws rfl
            have c2 : W1.cell? ⟨A1, 0, none⟩ = some (.string x) := SK hown1 0 (.string x) rfl
            clear hl0 hl1 hLn hLw hws
            by_cases h5 : x[0] = 35
            · have q7 : (((x[0]).toNat : Int) == 35) = true := by rw [h5]; rfl
              have hN := Lib.hid (h35 h5)
              clear h35 hno h5
              go_wp2_with fail
              exact ⟨⟨k + 1, m + 1, k + 1, n, xs, by simp, by simp, by simp, by omega, by omega, by omega, hn4, q9.trans hB hB1, hown2, hN⟩, by simp only [intOf]; omega⟩
            · have q7 : (((x[0]).toNat : Int) == 35) = false := by
                rw [beq_eq_false_iff_ne]
                intro e
                exact h5 (UInt8.toNat_inj.1 (by
                  have : x[0].toNat = 35 := by omega
                  exact this))
              obtain ⟨hno1, hno2⟩ := hno h5
              clear h35 hno h5
              by_cases h4 : n = 4096
              · have q8 : ((n : Int) == 4096) = true := by rw [h4]; rfl
                have hr := Lib.hid (hno1 h4)
                clear hno1 hno2
                go_wp2_with fail
                try simp only [Exit.inBlock, Exit.then]
                refine bodyPost_ret (BI rfl _ _ _) rfl ?_
                rw [hr.out]
                exact ⟨q9.trans hB hB1, .slice none 0 0, by simp⟩
              · have q8 : ((n : Int) == 4096) = false := by rw [beq_eq_false_iff_ne]; omega
                obtain ⟨hno3, hno4⟩ := hno2 h4
                have hA := (hown1.lt _ rfl).2
                have HC := amF W1 A1 cap1 x ws hA (by simp at hLl; omega) (fun j t ht => SK hown1 j (.string t) (by rw [List.getElem?_map, ht]; rfl))
                clear hno1 hno2
                cases hq : Ah x ws with
                | false =>
                  rw [hq] at HC
                  have HC := Lib.hid HC
                  have hr := Lib.hid (hno3 hq)
                  clear hno3 hno4 hq
                  go_wp2_with (go_at_call 83; refine HC.out.mono ?_; rintro e W2 ⟨hB2, v2, ⟨wd, x1, x2, x3, x4, x5, y1, y2, y3, y4, y5, y6, rfl⟩, rfl⟩)
                  try simp only [Exit.inBlock, Exit.then]
                  refine bodyPost_ret (BI rfl _ _ _) rfl ?_
                  rw [hr.out]
                  exact ⟨q9.alloc (q9.trans hB (q9.trans hB1 hB2)) _, .slice none 0 0, by simp⟩
                | true =>
                  rw [hq] at HC
                  have HC := Lib.hid HC
                  have hN := Lib.hid (hno4 hq)
                  clear hno3 hno4 hq
                  go_wp2_with (first | (go_at_call 83; refine HC.out.mono ?_; rintro e W2 ⟨hB2, v2, ⟨wd, x1, x2, x3, x4, x5, y1, y2, y3, y4, y5, y6, rfl⟩, rfl⟩) | (at_builtin; refine Hid.out ?_))
                  refine Lib.hid ?_
                  have hsz2 := Below.size hB2
                  refine wpList_append_own_at _ rfl (.tmp 62) (.tmp 64) 71 rfl w.heap.size 130 i0 abz 12 72 Tryz.underlying71 hi hz0 hz1 hz2 rfl (by decide) _ _ _ rfl (((SI hown2 hB2).alloc _).alloc _) ⟨W2.heap.size + 1, 0, none⟩ 1 1 [.string wd, .int .u8 x1, .int .u8 x2, .int .u8 x3, .int .u8 x4, .int .u8 x5, .int .u64 y1, .int .u64 y2, .int .u64 y3, .int .u64 y4, .int .u64 y5, .int .u64 y6] rfl rfl (amJ _ [.string wd, .int .u8 x1, .int .u8 x2, .int .u8 x3, .int .u8 x4, .int .u8 x5, .int .u64 y1, .int .u64 y2, .int .u64 y3, .int .u64 y4, .int .u64 y5, .int .u64 y6] _ _ (by simp)) (by simp [Value.oneCell']) (by unfold maxLen; omega) (by omega) (by simp; omega) ?_
                  intro v' W3 hown3 hgrow hv1 hv2
                  have hB3 : q9 w W3 := Below.grown (q9.alloc (q9.alloc (q9.trans hB (q9.trans hB1 hB2)) _) _) hgrow (by simp; omega) (fun g e => (hown.lt g e).1)
                  clear hv1 hv2 hgrow
                  go_wp2_with fail
                  exact ⟨⟨k + 1, m + 1, k + 1, n + 1, _, by simp, by simp, by simp, by omega, by omega, by omega, by omega, hB3, hown3, hN⟩, by simp only [intOf]; omega⟩
      · have hkl : k < s.size := by
          apply Classical.byContradiction; intro h; exact hst (.inl (by omega))
        have hne : s[k] ≠ 10 := fun e => hst (.inr ⟨hkl, e⟩)
        have q5 : (k : Int) < (s.size : Int) := by omega
        have q6 : (((s[k]).toNat : Int) != 10) = true := by
          rw [bne_iff_ne]
          intro e
          exact hne (UInt8.toNat_inj.1 (by
            have : s[k].toNat = 10 := by omega
            exact this))
        have hN := Lib.hid (hP.out.next hkl hne)
        clear hst hne hP
        go_wp2_with fail
        exact ⟨⟨k + 1, m, g, n, xs, by simp, rfl, rfl, by omega, by omega, by omega, hn4, hB, hown, hN⟩, by simp only [intOf]; omega⟩
    · obtain rfl : k = s.size + 1 := by omega
      have q2 : ¬ ((s.size : Int) + 1 ≤ (s.size : Int)) := by omega
      have q3 : ¬ (((s.size + 1 : Nat) : Int) ≤ (s.size : Int)) := by omega
      have hr := Lib.hid hP.out.stop
      clear hP
      go_wp2_with fail
      try simp only [Exit.inBlock, Exit.then]
      refine bodyPost_ret (BI rfl _ _ _) rfl ?_
      rw [hr.out]
      exact ⟨hB, _, rfl⟩
end Go.Proofs.YtbembkamcdlhbaaGreatDoor.Sp
