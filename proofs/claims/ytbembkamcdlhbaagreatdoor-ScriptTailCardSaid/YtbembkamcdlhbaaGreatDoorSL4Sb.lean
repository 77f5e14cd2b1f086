import Derived.Test.YtbembkamcdlhbaaGreatDoorSL3Sb
set_option linter.unusedSimpArgs false
set_option linter.unusedVariables false
set_option maxRecDepth 100000
set_option maxHeartbeats 4000000
namespace Go.Proofs.YtbembkamcdlhbaaGreatDoor.Sp
open Go.RowKit Go.Shelf FlagM
attribute [local go_sem] Oper.semAt_some
def LH:Sc.By:=[101,110,118,32,110,101,97,114,32,98,101,102,111,114,101]
def LJ:Sc.By:=[99,108,101,97,114]
theorem amj:xI (xh LH)=some (.env 0 0):=by rw[Lj];kernel_rfl
theorem amk:xI (xh LJ)=some .clear:=by rw[Lj];kernel_rfl
theorem aml:Sc.skip (xh LH)=false:=by rw[Lj];kernel_rfl
theorem amm:Sc.skip (xh LJ)=false:=by rw[Lj];kernel_rfl
theorem amn (a b D:ByteArray) (hD:D.data.toList=a.data.toList++10::(LH++10::(LJ++10::b.data.toList))) (ha:a.size≤1500) (hb:b.size≤1500) (h1:(tO a).2.2=0) (h2:(tO b).2.2=0) :
  (tO D).2.2=0∧∃ t,(tO D).1=(tO a).1++t∧Sc.ansL 2 (Sc.ended t)=Sc.ansL 0 (Sc.ended (tO b).1):=by
 unfold tO
 rw[hD]
 exact Sc.fresh_law xh xI act st0 (fun c st=>⟨(N7 c st).1,(N7 c st).2.1⟩) LH LJ _ _ (by decide) (by decide) (by decide) aml amm amj amk (fun _=>rfl) (fun _=>rfl) a.data.toList b.data.toList (by simpa using ha) (by simpa using hb) h1 h2
theorem amo (a b D:ByteArray) (hD:D.data.toList=a.data.toList++10::b.data.toList) (ha:a.size≤1500) (hb:b.size≤1500) :
  ((tO a).2.2≠0∨(tO b).2.2≠0→(tO D).2.2≠0)∧((tO a).2.2=0→(tO b).2.2=0→(tO D).2.2=0∧∃ t,(tO D).1=(tO a).1++t):=by
 unfold tO
 rw[hD]
 exact Sc.tail_law xh xI act st0 a.data.toList b.data.toList (by simpa using ha) (by simpa using hb)
theorem Tz (s:ByteArray):(tO s).1.length≤30000000:=by
 by_cases h:(uW s).2.2=0
 ·rw[aaz s h]
  have h1:=(aax s).1
  have h2:=SI (uW s).1 0 st0 (by omega)
  show(Sc.play act 0 st0 (uW s).1).length≤_
  omega
 ·rw[aaA s h];simp
abbrev DY (w:World) (t A:ByteArray) (l e:Nat):Prop:=∀ X,ry w X→Calls Tryz.prog 41 #[.string t] X fun z w'=>z = .returned (.tuple #[.string A,.int .i64 (l:Int),.int .i64 (e:Int)])∧ry w w'
theorem FN (w:World) (hE:EnvW w) (t:ByteArray):DY w t ⟨(tO t).1.toArray⟩ (tO t).2.1 (tO t).2.2:=fun X hX=>(aaB X (hE.bel hX) t).mono fun _ _ h=>⟨h.1,ry.trans hX h.2⟩
abbrev Oq (w:World) (t:ByteArray) (a b:Int) (A:ByteArray):Prop:=∀ X,ry w X→Calls Tryz.prog 43 #[.string t,.int .i64 a,.int .i64 b] X fun z w'=>z = .returned (.string A)∧ry w w'
theorem Ot (l:Sc.By):(⟨l.toArray⟩:ByteArray).size=l.length:=by show(Array.size _)=_;simp
theorem amq (w:World) (A F Z t:Sc.By) (hu:F=A++t) (hF:F.length≤30000000) (hz:Sc.ansL 2 (Sc.ended t)=Z):Oq w ⟨F.toArray⟩ ((⟨A.toArray⟩:ByteArray).size:Int) 2 ⟨Z.toArray⟩:=by
 intro X hX
 have z:=abA X ⟨F.toArray⟩ A.length 2 (by rw[Ot,hu,List.length_append];omega) (by rw[Ot];omega) (by omega)
 rw[Ot]
 refine z.mono ?_
 rintro e w' ⟨rfl,hB⟩
 refine⟨?_,ry.trans hX hB⟩
 rw[← hz,hu];simp
theorem amr (w:World) (D:Sc.By) (hD:D.length≤30000000):Oq w ⟨D.toArray⟩ 0 0 ⟨(Sc.ansL 0 (Sc.ended D)).toArray⟩:=by
 intro X hX
 have z:=abA X ⟨D.toArray⟩ 0 0 (by omega) (by rw[Ot];omega) (by omega)
 refine z.mono ?_
 rintro e w' ⟨rfl,hB⟩
 exact⟨rfl,ry.trans hX hB⟩
theorem ams (w:World) (hE:EnvW w) (text behind A C D F Z:ByteArray) (ha:text.size≤1500) (hb:behind.size≤1500) (la lc ld lf:Nat) (ec:Nat)
  (hA:DY w text A la 0) (hC:DY w (text++⟨#[10]⟩++behind) C lc 0) (hD:DY w behind D ld 0) (hF:DY w (text++⟨#[10,101,110,118,32,110,101,97,114,32,98,101,102,111,114,101,10,99,108,101,97,114,10]⟩++behind) F lf 0)
  (h1:Oq w F A.size 2 Z) (h2:Oq w D 0 0 Z) (hAC:A.size≤C.size) (hx:C.extract 0 A.size=A) (hCs:C.size≤30000000) :
  Calls Tryz.prog 8 #[.string text,.string behind] w fun e w'=>e = .returned (.bool true)∧ry w w':=by
 have q0:((A.data.toList==A.data.toList)=true):=beq_self_eq_true _
 have q1:¬ (text.size:Int)>1500:=by omega
 have q2:¬ (behind.size:Int)>1500:=by omega
 have q3:¬ (C.size:Int)<(A.size:Int):=by omega
 have q4:(A.size:Int)≤(C.size:Int):=by omega
 have hA':=Lib.hid hA
 have hC':=Lib.hid hC
 have hD':=Lib.hid hD
 have hF':=Lib.hid hF
 have h1':=Lib.hid h1
 have h2':=Lib.hid h2
 have HU:=Lib.hid (fun X (hX:ry w X)=>(abz X (hE.bel hX)).mono fun e w' h=>(⟨h.1,ry.trans hX h.2⟩:e=Ending.returned (Value.bool true)∧ry w w'))
 clear hA hC hD hF h1 h2 ha hb hE
 have z1:¬ (text.size+1>9223372036854775807):=by omega
 have z2:¬ (text.size+1+behind.size>9223372036854775807):=by omega
 have z3:¬ (text.size+23>9223372036854775807):=by omega
 have z4:¬ (text.size+23+behind.size>9223372036854775807):=by omega
 go_enter Tryz.func8,Tryz.ntmps8
 go_wp2_with (first|(go_at_call 41;(first|(with_reducible refine(hA'.out _ (by first|exact ry.refl w|assumption)).mono ?_)|(with_reducible refine(hC'.out _ (by assumption)).mono ?_)|(with_reducible refine(hD'.out _ (by assumption)).mono ?_)|(with_reducible refine(hF'.out _ (by assumption)).mono ?_));rintro e w1 ⟨rfl,hB1⟩)|(go_at_call 43;(first|(with_reducible refine(h1'.out _ (by assumption)).mono ?_)|(with_reducible refine(h2'.out _ (by assumption)).mono ?_));rintro e w1 ⟨rfl,hB1⟩)|(go_at_call 40;refine(HU.out _ (by assumption)).mono ?_;rintro e w1 ⟨rfl,hB1⟩))
 go_ret
 exact⟨rfl,by assumption⟩
theorem amt (w:World) (hE:EnvW w) (text behind A C D:ByteArray) (ha:text.size≤1500) (hb:behind.size≤1500) (la lc ld ea ec ed:Nat)
  (hA:DY w text A la ea) (hC:DY w (text++⟨#[10]⟩++behind) C lc ec) (hD:DY w behind D ld ed) (hc:ec≠0) (hd:ea≠0∨ea=0∧ed≠0) :
  Calls Tryz.prog 8 #[.string text,.string behind] w fun e w'=>e = .returned (.bool true)∧ry w w':=by
 have q1:¬ (text.size:Int)>1500:=by omega
 have q2:¬ (behind.size:Int)>1500:=by omega
 have hA':=Lib.hid hA
 have hC':=Lib.hid hC
 have hD':=Lib.hid hD
 have HU:=Lib.hid (fun X (hX:ry w X)=>(abz X (hE.bel hX)).mono fun e w' h=>(⟨h.1,ry.trans hX h.2⟩:e=Ending.returned (Value.bool true)∧ry w w'))
 clear hA hC hD hE
 have z1:¬ (text.size+1>9223372036854775807):=by omega
 have z2:¬ (text.size+1+behind.size>9223372036854775807):=by omega
 clear ha hb
 have q3:((ec:Int) != 0)=true:=by simp;omega
 clear hc
 rcases hd with hd|⟨rfl,hd⟩
 ·have q4:((ea:Int) != 0)=true:=by simp;omega
  clear hd
  go_enter Tryz.func8,Tryz.ntmps8
  go_wp2_with (first|(go_at_call 41;(first|(with_reducible refine(hA'.out _ (by first|exact ry.refl w|assumption)).mono ?_)|(with_reducible refine(hC'.out _ (by assumption)).mono ?_)|(with_reducible refine(hD'.out _ (by assumption)).mono ?_));rintro e w1 ⟨rfl,hB1⟩)|(go_at_call 40;refine(HU.out _ (by assumption)).mono ?_;rintro e w1 ⟨rfl,hB1⟩))
  go_ret
  exact⟨rfl,by assumption⟩
 ·have q4:((ed:Int) != 0)=true:=by simp;omega
  clear hd
  go_enter Tryz.func8,Tryz.ntmps8
  go_wp2_with (first|(go_at_call 41;(first|(with_reducible refine(hA'.out _ (by first|exact ry.refl w|assumption)).mono ?_)|(with_reducible refine(hC'.out _ (by assumption)).mono ?_)|(with_reducible refine(hD'.out _ (by assumption)).mono ?_));rintro e w1 ⟨rfl,hB1⟩)|(go_at_call 40;refine(HU.out _ (by assumption)).mono ?_;rintro e w1 ⟨rfl,hB1⟩))
  go_ret
  exact⟨rfl,by assumption⟩
theorem ScriptTail_c (w:World) (hE:EnvW w) (text behind:ByteArray):Calls Tryz.prog 8 #[.string text,.string behind] w fun e w'=>e = .returned (.bool true)∧ry w w':=by
 by_cases hbig:1500<text.size
 ·have q1:(text.size:Int)>1500:=by omega
  go_enter Tryz.func8,Tryz.ntmps8
  go_wp2
  go_ret
  exact⟨rfl,ry.refl w⟩
 by_cases hbig2:1500<behind.size
 ·have q1:¬ (text.size:Int)>1500:=by omega
  have q2:(behind.size:Int)>1500:=by omega
  go_enter Tryz.func8,Tryz.ntmps8
  go_wp2
  go_ret
  exact⟨rfl,ry.refl w⟩
 have ha:text.size≤1500:=by omega
 have hb:behind.size≤1500:=by omega
 have hT:=amo text behind (text++⟨#[10]⟩++behind) (by rw[DX,DX];simp) ha hb
 by_cases h0:(tO text).2.2=0∧(tO behind).2.2=0
 ·obtain⟨h1,h2⟩:=h0
  obtain⟨hc,t,ht⟩:=hT.2 h1 h2
  obtain⟨hf,t2,hu,hz⟩:=amn text behind (text++⟨#[10,101,110,118,32,110,101,97,114,32,98,101,102,111,114,101,10,99,108,101,97,114,10]⟩++behind) (by rw[DX,DX];simp[LH,LJ]) ha hb h1 h2
  have rA:=FN w hE text
  have rC:=FN w hE (text++⟨#[10]⟩++behind)
  have rD:=FN w hE behind
  have rF:=FN w hE (text++⟨#[10,101,110,118,32,110,101,97,114,32,98,101,102,111,114,101,10,99,108,101,97,114,10]⟩++behind)
  have lC:=Tz (text++⟨#[10]⟩++behind)
  have lF:=Tz (text++⟨#[10,101,110,118,32,110,101,97,114,32,98,101,102,111,114,101,10,99,108,101,97,114,10]⟩++behind)
  have lD:=Tz behind
  rw[h1] at rA
  rw[hc] at rC
  rw[h2] at rD
  rw[hf] at rF
  have hsA:(⟨(tO text).1.toArray⟩:ByteArray).size=(tO text).1.length:=by show(tO text).1.toArray.size=_;simp
  have hsC:(⟨(tO (text++⟨#[10]⟩++behind)).1.toArray⟩:ByteArray).size=(tO (text++⟨#[10]⟩++behind)).1.length:=by show(Array.size _)=_;simp
  refine ams w hE text behind _ _ _ _ ⟨(Sc.ansL 0 (Sc.ended (tO behind).1)).toArray⟩ ha hb _ _ _ _ 0 rA rC rD rF (fun X hX=>?_) (fun X hX=>?_) ?_ ?_ ?_
  ·exact amq w _ _ _ t2 hu lF hz X hX
  ·exact amr w _ lD X hX
  ·rw[hsA,hsC,ht];simp
  ·apply ByteArray.ext
   apply Array.toList_inj.1
   rw[Sc.ext_eq,hsA,ht];simp
  ·rw[hsC];omega
 ·have hd:(tO text).2.2≠0∨(tO text).2.2=0∧(tO behind).2.2≠0:=by omega
  have rA:=FN w hE text
  have rC:=FN w hE (text++⟨#[10]⟩++behind)
  have rD:=FN w hE behind
  have hne:(tO (text++⟨#[10]⟩++behind)).2.2≠0:=hT.1 (by omega)
  exact amt w hE text behind _ _ _ ha hb _ _ _ _ _ _ rA rC rD hne hd
end Go.Proofs.YtbembkamcdlhbaaGreatDoor.Sp
