import Derived.Test.YtbembkamcdlhbaaGreatDoorWFSc
import Derived.Test.YtbembkamcdlhbaaGreatDoorSL1Sc
set_option linter.unusedSimpArgs false
set_option linter.unusedVariables false
set_option maxRecDepth 100000
set_option maxHeartbeats 4000000
namespace Go.Proofs.YtbembkamcdlhbaaGreatDoor.Sp
open Go.RowKit Go.Shelf FlagM
attribute [local go_sem] Oper.semAt_some
theorem ScriptChecks_c (w:World) (hE:EnvW w) (text:ByteArray):Calls Tryz.prog 10 #[.string text] w fun e w'=>e = .returned (.bool true)∧q9 w w':=by
 by_cases h3:3000<text.size∧text.size≤1048576
 ·have q1:(text.size:Int)>3000:=by omega
  have q2:(text.size:Int)≤1048576:=by omega
  clear h3
  go_enter Tryz.func10,Tryz.ntmps10
  go_wp2
  go_ret
  exact⟨rfl,q9.refl w⟩
 have q0:(text.size:Int)>3000∧¬ (text.size:Int)≤1048576∨¬ (text.size:Int)>3000:=by omega
 clear h3
 have hline:(tF text).2.2=0→(tF text).2.1=0:=by
  unfold tF
  split
  ·intro h;cases h
  ·exact Sc.parse_line vU wU _ _ _
 have HC:=Lib.hid (fun X (hX:q9 w X)=>(akB X (hE.bel hX) text).mono fun e w' h=>(⟨h.1,q9.trans hX h.2⟩:e=_∧q9 w w'))
 have HP:=Lib.hid (fun X (hX:q9 w X)=>(amM X text).mono fun e w' h=>(⟨q9.trans hX h.1,h.2⟩:q9 w w'∧∃ v,e = .returned (.tuple #[v,.int .i64 ((tF text).2.1:Int),.int .i64 ((tF text).2.2:Int)])))
 have HR:=Lib.hid (fun X (hX:q9 w X)=>(aaK X (hE.bel hX) text).mono fun e w' h=>(⟨h.1,q9.trans hX h.2⟩:e=_∧q9 w w'))
 have HU:=Lib.hid (fun X (hX:q9 w X)=>(anq X (hE.bel hX)).mono fun e w' h=>(⟨h.1,q9.trans hX h.2⟩:e=Ending.returned (Value.bool true)∧q9 w w'))
 clear hE
 have key:∀ (l e:Nat) (o:ByteArray),(e=0∨e≠0∧o=⟨#[]⟩) →
   (∀ X,q9 w X→Calls Tryz.prog 44 #[.string text] X fun z w'=>z = .returned (.tuple #[.int .i64 (l:Int),.int .i64 (e:Int)])∧q9 w w') →
   (∀ X,q9 w X→Calls Tryz.prog 38 #[.string text] X fun z w'=>q9 w w'∧∃ v,z = .returned (.tuple #[v,.int .i64 (l:Int),.int .i64 (e:Int)])) →
   (∀ X,q9 w X→Calls Tryz.prog 41 #[.string text] X fun z w'=>z = .returned (.tuple #[.string o,.int .i64 (l:Int),.int .i64 (e:Int)])∧q9 w w') →
   Calls Tryz.prog 10 #[.string text] w fun e w'=>e = .returned (.bool true)∧q9 w w':=by
  clear HC HP HR hline
  intro l e o he HC HP HR
  have HC:=Lib.hid HC
  have HP:=Lib.hid HP
  have HR:=Lib.hid HR
  have p1:((l:Int)==(l:Int))=true:=beq_self_eq_true _
  have p2:((e:Int)==(e:Int))=true:=beq_self_eq_true _
  rcases q0 with⟨q1,q2⟩|q1<;>rcases he with rfl|⟨he,rfl⟩
  all_goals
   first|(have p3:((e:Int)==0)=false:=by rw[beq_eq_false_iff_ne];omega)|skip
   go_enter Tryz.func10,Tryz.ntmps10
   go_wp2_with (first|(go_at_call 44;refine(HC.out _ (q9.refl w)).mono ?_;rintro z w1 ⟨rfl,hB1⟩)|(go_at_call 38;refine(HP.out _ (by assumption)).mono ?_;rintro z w2 ⟨hB2,v,rfl⟩)|(go_at_call 41;refine(HR.out _ (by assumption)).mono ?_;rintro z w3 ⟨rfl,hB3⟩)|(go_at_call 40;refine(HU.out _ (by assumption)).mono ?_;rintro z w4 ⟨rfl,hB4⟩))
   go_ret
   exact⟨rfl,by assumption⟩
 by_cases he:(tF text).2.2=0
 ·have hr:=aaI text he
  have hl:=hline he
  have HR:=HR.out
  rw[hr] at HR
  refine key (tF text).2.1 (tF text).2.2 ⟨(Sc.play act 0 st0 (tF text).1).toArray⟩ (.inl he) HC.out HP.out ?_
  rw[hl,he]
  exact HR
 ·have hr:=aaJ text he
  have HR:=HR.out
  rw[hr] at HR
  exact key (tF text).2.1 (tF text).2.2 ⟨#[]⟩ (.inr ⟨he,rfl⟩) HC.out HP.out HR
end Go.Proofs.YtbembkamcdlhbaaGreatDoor.Sp
