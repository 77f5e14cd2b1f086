import Derived.Test.YtbembkamcdlhbaaGreatDoorSK1Sb
import Derived.Test.YtbembkamcdlhbaaGreatDoorSL3Sb
set_option linter.unusedSimpArgs false
set_option linter.unusedVariables false
set_option maxRecDepth 100000
set_option maxHeartbeats 4000000
namespace Go.Proofs.YtbembkamcdlhbaaGreatDoor.Sp
open Go.RowKit Go.Shelf FlagM
attribute [local go_sem] Oper.semAt_some
def KB (g:Nat) (W:World):Prop:=g<W.heap.size∧∀ k,k<14→W.cell? ⟨g,k*3,none⟩=some (.string (sJ (kb k).1))∧W.cell? ⟨g,k*3+1,none⟩=some (.int .i64 ((kb k).2.2:Int))∧W.cell? ⟨g,k*3+2,none⟩=some (.int .i64 ((kb k).2.1:Int))
theorem KB.bel {g:Nat} {W X:World} (h:KB g W) (hB:rq W X):KB g X:=by
 refine⟨Nat.lt_of_lt_of_le h.1 hB.size,fun k hk=>?_⟩
 obtain⟨a,b,c⟩:=h.2 k hk
 exact⟨(hB.cell _ _ h.1).trans a,(hB.cell _ _ h.1).trans b,(hB.cell _ _ h.1).trans c⟩
def N9 (T:ByteArray):Array Value:=#[.string (sJ (kb 0).1),.int .i64 3,.int .i64 1,.string (sJ (kb 1).1),.int .i64 3,.int .i64 1,.string (sJ (kb 2).1),.int .i64 3,.int .i64 1,.string (sJ (kb 3).1),.int .i64 3,.int .i64 1,.string (sJ (kb 4).1),.int .i64 3,.int .i64 1,.string (sJ (kb 5).1),.int .i64 3,.int .i64 1,.string (sJ (kb 6).1),.int .i64 3,.int .i64 1,.string (sJ (kb 7).1),.int .i64 3,.int .i64 1,.string (sJ (kb 8).1),.int .i64 3,.int .i64 1,.string (sJ (kb 9).1),.int .i64 3,.int .i64 1,.string (sJ (kb 10).1),.int .i64 3,.int .i64 1,.string (sJ (kb 11).1),.int .i64 3,.int .i64 1,.string (sJ (kb 12).1),.int .i64 3,.int .i64 3,.string T,.int .i64 2,.int .i64 4097]
theorem amV (w:World) (t:TypeId) (T:ByteArray) (hT:T=sJ (kb 13).1):KB w.heap.size (w.alloc (.cells (N9 T) t)):=by
 subst hT
 refine⟨by show _<(Array.push _ _).size;rw[Array.size_push];exact Nat.lt_succ_self _,fun k hk=>?_⟩
 have h:∀ j,(w.alloc (.cells (N9 (sJ (kb 13).1)) t)).cell? ⟨w.heap.size,j,none⟩=(N9 (sJ (kb 13).1))[j]?:=fun j=>World.cell?_alloc_mark w _ t (0,0) j
 rw[h,h,h]
 obtain rfl|rfl|rfl|rfl|rfl|rfl|rfl|rfl|rfl|rfl|rfl|rfl|rfl|rfl:k=0∨k=1∨k=2∨k=3∨k=4∨k=5∨k=6∨k=7∨k=8∨k=9∨k=10∨k=11∨k=12∨k=13:=by omega
 all_goals exact⟨rfl,rfl,rfl⟩
theorem ScriptKnown_c (w:World) (hE:EnvW w):Calls Tryz.prog 11 #[] w fun e w'=>e = .returned (.bool true)∧rq w w':=by
 have HC:=Lib.hid (fun X (hX:rq w X) (t:ByteArray)=>(aj4 X (hE.bel hX) t).mono fun e w' h=>(⟨h.1,rq.trans hX h.2,h.2⟩:e=_∧rq w w'∧rq X w'))
 have HR:=Lib.hid (fun X (hX:rq w X) (t:ByteArray)=>(aah X (hE.bel hX) t).mono fun e w' h=>(⟨h.1,rq.trans hX h.2,h.2⟩:e=_∧rq w w'∧rq X w'))
 have HU:=Lib.hid (fun X (hX:rq w X)=>(amT X (hE.bel hX)).mono fun e w' h=>(⟨h.1,rq.trans hX h.2⟩:e=Ending.returned (Value.bool true)∧rq w w'))
 have HM:=Lib.hid (fun X (hX:rq w X) (s:ByteArray) (n:Nat) (hn:n≤2000000) (hs:s.size≤6)=>(amS X s n hn hs).mono fun e w' h=>(⟨h.1,rq.trans hX h.2,h.2⟩:e=_∧rq w w'∧rq X w'))
 clear hE
 go_enter Tryz.func11,Tryz.ntmps11
 go_wp2_with (go_at_call 45;refine(HM.out _ (rq.refl w) ⟨#[99,108,101,97,114,10]⟩ 4097 (by decide) (by decide)).mono ?_;rintro e w1 ⟨rfl,hB1⟩;generalize hT13:sJ (Sc.rep 4097 [99,108,101,97,114,10])=T13)
 have hK0:=amV w1 87 T13 hT13.symm
 have hK0:=Lib.hid hK0
 clear hT13
 have hBa:=rq.alloc hB1.1 (Obj.cells (N9 T13) 87)
 go_loopw [2] (fun i W=>∃ k:Nat,i = .int .i64 (k:Int)∧k≤14∧rq w W∧Hid (KB w1.heap.size W)) (fun i _=>14-(intOf i).toNat)
 case atStart=>exact⟨0,rfl,by omega,hBa,hK0⟩
 case round =>
  obtain⟨k,rfl,hk,hBr,hK⟩:=hrel
  clear hK0 hBa
  by_cases hlt:k<14
  ·have q1:(k:Int)<14:=by omega
   obtain⟨c0,c1,c2⟩:=hK.out.2 k hlt
   have hgl:=hK.out.1
   obtain⟨p1,p2⟩:=amJ k hlt
   generalize sJ (kb k).1=t at *
   generalize (kb k).2.1=l at *
   generalize (kb k).2.2=e at *
   have HCt:∀ X,rq w X→Calls Tryz.prog 44 #[.string t] X fun z w'=>z = .returned (.tuple #[.int .i64 (l:Int),.int .i64 (e:Int)])∧rq w w'∧rq X w':=by
    intro X hX
    have h:=HC.out X hX t
    rw[p1] at h
    exact h
   have HRt:∀ X,rq w X→Calls Tryz.prog 41 #[.string t] X fun z w'=>z = .returned (.tuple #[.string ⟨#[]⟩,.int .i64 (l:Int),.int .i64 (e:Int)])∧rq w w'∧rq X w':=by
    intro X hX
    have h:=HR.out X hX t
    rw[p2] at h
    exact h
   have HCt:=Lib.hid HCt
   have HRt:=Lib.hid HRt
   clear p1 p2
   go_wp2_with (first|(go_at_call 44;refine(HCt.out _ hBr).mono ?_;rintro z2 w2 ⟨rfl,hB2,hX2⟩;have hg2:=Nat.lt_of_lt_of_le hgl hX2.size;have d0:=(hX2.cell _ (k*3) hgl).trans c0;have d1:=(hX2.cell _ (k*3+1) hgl).trans c1;have d2:=(hX2.cell _ (k*3+2) hgl).trans c2)|(go_at_call 41;refine(HRt.out _ hB2).mono ?_;rintro z3 w3 ⟨rfl,hB3,hX3⟩;have f0:=(hX3.cell _ (k*3) hg2).trans d0;have f1:=(hX3.cell _ (k*3+1) hg2).trans d1;have f2:=(hX3.cell _ (k*3+2) hg2).trans d2))
   exact⟨⟨k+1,by simp,by omega,hB3,Lib.hid ((hK.out.bel hX2).bel hX3)⟩,by simp only[intOf];omega⟩
  ·obtain rfl:k=14:=by omega
   have q1:¬ ((14:Nat):Int)<14:=by omega
   obtain⟨TA,hTA⟩:∃ T,T=sJ (Sc.rep 1048576 [35]):=⟨_,rfl⟩
   obtain⟨TB,hTB⟩:∃ T,T=sJ (Sc.rep 1048577 [35]):=⟨_,rfl⟩
   obtain⟨TC,hTC⟩:∃ T,T=sJ (Sc.rep 4096 [99,108,101,97,114,10]):=⟨_,rfl⟩
   obtain⟨lc,hlc⟩:∃ l,l=(tV TC).2.1:=⟨_,rfl⟩
   have HMa:∀ X,rq w X→Calls Tryz.prog 45 #[.string ⟨#[35]⟩,.int .i64 1048576] X fun z w'=>z = .returned (.string TA)∧rq w w'∧rq X w':=by
    intro X hX;rw[hTA];exact HM.out X hX ⟨#[35]⟩ 1048576 (by decide) (by decide)
   have HMb:∀ X,rq w X→Calls Tryz.prog 45 #[.string ⟨#[35]⟩,.int .i64 1048577] X fun z w'=>z = .returned (.string TB)∧rq w w'∧rq X w':=by
    intro X hX;rw[hTB];exact HM.out X hX ⟨#[35]⟩ 1048577 (by decide) (by decide)
   have HMc:∀ X,rq w X→Calls Tryz.prog 45 #[.string ⟨#[99,108,101,97,114,10]⟩,.int .i64 4096] X fun z w'=>z = .returned (.string TC)∧rq w w'∧rq X w':=by
    intro X hX;rw[hTC];exact HM.out X hX ⟨#[99,108,101,97,114,10]⟩ 4096 (by decide) (by decide)
   have pa:(tV TA).2=(0,0):=by rw[hTA];exact amQ
   have pb:(tV TB).2=(0,2):=by rw[hTB];exact amR
   have pc:(tV TC).2.2=0:=by rw[hTC];exact amM
   have HCa:∀ X,rq w X→Calls Tryz.prog 44 #[.string TA] X fun z w'=>z = .returned (.tuple #[.int .i64 0,.int .i64 0])∧rq w w'∧rq X w':=by
    intro X hX
    have h:=HC.out X hX TA
    rw[pa] at h
    exact h
   have HCb:∀ X,rq w X→Calls Tryz.prog 44 #[.string TB] X fun z w'=>z = .returned (.tuple #[.int .i64 0,.int .i64 2])∧rq w w'∧rq X w':=by
    intro X hX
    have h:=HC.out X hX TB
    rw[pb] at h
    exact h
   have HCc:∀ X,rq w X→Calls Tryz.prog 44 #[.string TC] X fun z w'=>z = .returned (.tuple #[.int .i64 (lc:Int),.int .i64 0])∧rq w w'∧rq X w':=by
    intro X hX
    have h:=HC.out X hX TC
    rw[pc,← hlc] at h
    exact h
   have HRq:∀ X,rq w X→Calls Tryz.prog 41 #[.string (sJ NK)] X fun z w'=>z = .returned (.tuple #[.string (sJ Sq),.int .i64 0,.int .i64 0])∧rq w w'∧rq X w':=by
    intro X hX
    have h:=HR.out X hX (sJ NK)
    rw[akT] at h
    exact h
   have HMa:=Lib.hid HMa
   have HMb:=Lib.hid HMb
   have HMc:=Lib.hid HMc
   have HCa:=Lib.hid HCa
   have HCb:=Lib.hid HCb
   have HCc:=Lib.hid HCc
   have HRq:=Lib.hid HRq
   clear hTA hTB hTC hlc pa pb pc
   go_wp2_with (first|(go_at_call 45;(first|(with_reducible refine(HMa.out _ (by assumption)).mono ?_)|(with_reducible refine(HMb.out _ (by assumption)).mono ?_)|(with_reducible refine(HMc.out _ (by assumption)).mono ?_));rintro z2 w2 ⟨rfl,hB2,hX2⟩)|(go_at_call 44;(first|(with_reducible refine(HCa.out _ (by assumption)).mono ?_)|(with_reducible refine(HCb.out _ (by assumption)).mono ?_)|(with_reducible refine(HCc.out _ (by assumption)).mono ?_));rintro z2 w2 ⟨rfl,hB2,hX2⟩))
   refine(HRq.out _ (by assumption)).mono ?_
   rintro z3 w3 ⟨rfl,hB3,hX3⟩
   go_wp2_with (go_at_call 40;refine(HU.out _ (by assumption)).mono ?_;rintro z2 w2 ⟨rfl,hB2⟩)
   all_goals first|(rename_i hq;exact(hq ((amU _).trans (Lm Sq))).elim)|(go_ret;exact⟨rfl,by assumption⟩)
end Go.Proofs.YtbembkamcdlhbaaGreatDoor.Sp
