import Derived.Test.YtippohicjhilnaaGreatDoorZ8Tr
import Derived.Test.YtippohicjhilnaaGreatDoorZ9Tr
import Derived.Test.YtippohicjhilnaaGreatDoorZITr
import Derived.Test.YtippohicjhilnaaGreatDoorZTTr
import Derived.Deep.RegionHeld3
set_option linter.unusedSimpArgs false
set_option linter.unusedVariables false
set_option maxRecDepth 100000
set_option maxHeartbeats 4000000
open Go.Proofs.Tryz
namespace Go.Proofs.YtippohicjhilnaaGreatDoor.Sp
open Go.RowKit Go.Shelf FlagM
attribute [local go_sem] Oper.semAt_some
theorem ay9 {W:World} {b:Nat} {a0 a1:Value} {t:TypeId} (h:W.heap[b]? = some (.cells #[a0,a1] t)):W.cell? ⟨b,0,none⟩=some a0/\W.cell? ⟨b,1,none⟩=some a1/\W.frozen? ⟨b,0,none⟩=false/\W.frozen? ⟨b,1,none⟩=false:=by refine⟨?_,?_,?_,?_⟩<;>simp[World.cell?,World.frozen?,h]
theorem aku (w:World) (v:Int):Calls prog 25 #[.int .u64 v] w λe w'=>e = .returned (.agg #[.int .u64 0,.int .u64 v])/\tQ w w':=by
 have h0:=World.alloc_heap_new w (.cells #[.int .u64 0,.int .u64 v] 25);have hB:=tQ.alloc (tQ.refl w) (.cells #[.int .u64 0,.int .u64 v] 25)
 go_enter func25,ntmps25
 go_wp2
 generalize w.alloc (.cells #[.int .u64 0,.int .u64 v] 25)=W0 at *
 obtain⟨f0,f1,_,_⟩:=ay9 h0;exact bodyPost_ret (v:=.agg #[.int .u64 0,.int .u64 v]) (by simp[results,results25,go_sem,f0,f1]) rfl ⟨rfl,hB⟩
def Iu:List (List Int):=[[1,0,0,0,0,0,15360,0,15360,0,0],[4,0,0,0,0,0,15360,0,16896,0,0],[6,0,0,0,0,0,15361,0,15361,0,48130],[77,0,0,0,0,0,0,0,0,0,0]]
theorem wk0:vg [1,0,0,0,0,0,15360,0,15360,0,0] = [0,0,16384,0]:=by kernel_rfl
theorem wk1:vg [4,0,0,0,0,0,15360,0,16896,0,0] = [0,0,13653,16]:=by kernel_rfl
theorem wk2:vg [6,0,0,0,0,0,15361,0,15361,0,48130] = [0,0,16,0]:=by kernel_rfl
theorem wk3:vg [77,0,0,0,0,0,0,0,0,0,0] = [1,0,0,0]:=by kernel_rfl
theorem aza:Iu.flatMap (uT kE) = [.int .u8 1,.int .u8 0,.int .u8 0,.int .u8 0,.int .u8 0,.int .u64 0,.int .u64 15360,.int .u64 0,.int .u64 15360,.int .u64 0,.int .u64 0,.int .u8 4,.int .u8 0,.int .u8 0,.int .u8 0,.int .u8 0,.int .u64 0,.int .u64 15360,.int .u64 0,.int .u64 16896,.int .u64 0,.int .u64 0,.int .u8 6,.int .u8 0,.int .u8 0,.int .u8 0,.int .u8 0,.int .u64 0,.int .u64 15361,.int .u64 0,.int .u64 15361,.int .u64 0,.int .u64 48130,.int .u8 77,.int .u8 0,.int .u8 0,.int .u8 0,.int .u8 0,.int .u64 0,.int .u64 0,.int .u64 0,.int .u64 0,.int .u64 0,.int .u64 0]:=by kernel_rfl
theorem azb:(Iu.flatMap λe=>uT kO (vg e)) = [.int .i64 0,.int .u64 0,.int .u64 16384,.int .u8 0,.int .i64 0,.int .u64 0,.int .u64 13653,.int .u8 16,.int .i64 0,.int .u64 0,.int .u64 16,.int .u8 0,.int .i64 1,.int .u64 0,.int .u64 0,.int .u8 0]:=by
 simp only[Iu,List.flatMap_cons,List.flatMap_nil,wk0,wk1,wk2,wk3]
 kernel_rfl
theorem azc:J (Iu.map λe=>JK (vg e))=16:=by
 simp only[Iu,List.map_cons,List.map_nil,wk0,wk1,wk2,wk3]
 kernel_rfl
abbrev WC:Array Value:=#[.int .u8 1,.int .u8 0,.int .u8 0,.int .u8 0,.int .u8 0,.int .u64 0,.int .u64 15360,.int .u64 0,.int .u64 15360,.int .u64 0,.int .u64 0,.int .u8 4,.int .u8 0,.int .u8 0,.int .u8 0,.int .u8 0,.int .u64 0,.int .u64 15360,.int .u64 0,.int .u64 16896,.int .u64 0,.int .u64 0,.int .u8 6,.int .u8 0,.int .u8 0,.int .u8 0,.int .u8 0,.int .u64 0,.int .u64 15361,.int .u64 0,.int .u64 15361,.int .u64 0,.int .u64 48130,.int .u8 77,.int .u8 0,.int .u8 0,.int .u8 0,.int .u8 0,.int .u64 0,.int .u64 0,.int .u64 0,.int .u64 0,.int .u64 0,.int .u64 0]
theorem azd (w:World) (hG:Gl gG w):Calls prog 24 #[.slice (some ⟨w.heap.size,0,none⟩) 4 4] (w.alloc (.cells WC 31)) λen w'=>∃ b off cap,en = .returned (.tuple #[.slice (some ⟨b,off,none⟩) 4 cap,.int .u8 16])/\b<w'.heap.size/\tQ w w'/\(w'.cell? ⟨b,off+1,none⟩=some (.int .u64 0)/\w'.cell? ⟨b,off+2,none⟩=some (.int .u64 16384)/\w'.cell? ⟨b,off+4+1,none⟩=some (.int .u64 0)/\w'.cell? ⟨b,off+4+2,none⟩=some (.int .u64 13653)/\w'.cell? ⟨b,off+8+1,none⟩=some (.int .u64 0)/\w'.cell? ⟨b,off+8+2,none⟩=some (.int .u64 16)/\w'.cell? ⟨b,off+12,none⟩=some (.int .i64 1)):=by
 have hB:=tQ.alloc (tQ.refl w) (.cells WC 31)
 have hR:Reads (w.alloc (.cells WC 31)) (.slice (some ⟨w.heap.size,0,none⟩) 4 4) Iu.length (Iu.flatMap (uT kE)):=by refine .inr ⟨w.heap.size,0,4,rfl,by simp,λj x hj=>?_⟩;rw[aza] at hj;rw[Nat.zero_add];have:=World.alloc_heap_new w (.cells WC 31);unfold World.cell?;simp only[this];simpa using hj
 have h:=ar4 _ (hG.bel hB) (.slice (some ⟨w.heap.size,0,none⟩) 4 4) Iu (by decide) (by decide) (by intro e he;simp only[Iu,List.mem_cons,List.not_mem_nil,or_false] at he;rcases he with rfl|rfl|rfl|rfl;rw[wk0];rfl;rw[wk1];rfl;rw[wk2];rfl;rw[wk3];rfl) hR;refine h.mono ?_;rintro en w' ⟨u,rfl,hRd,hB2,hf⟩;rw[azb] at hRd;rw[azc];rcases hRd with⟨_,h0,_⟩|⟨b,off,cap,rfl,hb,hc⟩
 ·cases h0
 ·exact⟨b,off,cap,rfl,hb,tQ.trans hB hB2,hc 1 _ rfl,hc 2 _ rfl,hc 5 _ rfl,hc 6 _ rfl,hc 9 _ rfl,hc 10 _ rfl,hc 12 _ rfl⟩
def Qs (b off:Nat) (w W:World):Prop:=tQ w W/\W.cell? ⟨b,off+1,none⟩=some (.int .u64 0)/\W.cell? ⟨b,off+2,none⟩=some (.int .u64 16384)/\W.cell? ⟨b,off+4+1,none⟩=some (.int .u64 0)/\W.cell? ⟨b,off+4+2,none⟩=some (.int .u64 13653)/\W.cell? ⟨b,off+8+1,none⟩=some (.int .u64 0)/\W.cell? ⟨b,off+8+2,none⟩=some (.int .u64 16)/\W.cell? ⟨b,off+12,none⟩=some (.int .i64 1)
theorem Qs.bel {b off:Nat} {w W X:World} (h:Qs b off w W) (hb:b<W.heap.size) (hB:tQ W X):Qs b off w X:=by
 have hc:∀ j,X.cell? ⟨b,j,none⟩=W.cell? ⟨b,j,none⟩:=λj=>hB.cell b j hb
 unfold Qs at h ⊢;simp only[hc];exact⟨tQ.trans h.1 hB,h.2⟩
theorem wakes_c (w:World) (hE:EnvW w):Calls prog 7 #[] w λe w'=>e = .returned (.bool true)/\tQ w w':=by
 have HA:=Lib.hid (λX (hX:tQ w X)=>(azd X (hE.bel hX).1))
 have HRq:∀ X,tQ w X->Calls prog 26 #[.string (zZ Wo)] X λz w'=>z = .returned (.tuple #[.string (zZ acr),.int .i64 0,.int .i64 0])/\tQ X w':=by intro X hX;have h:=axX X (hE.bel hX) (zZ Wo);rw[ax7] at h;exact h
 have HRq:=Lib.hid HRq;have HH:=Lib.hid (λX v (hX:tQ w X)=>(aku X v).mono λe w' h=>(⟨h.1,tQ.trans hX h.2⟩:e = .returned (.agg #[.int .u64 0,.int .u64 v])/\tQ w w'));have hB0:=tQ.refl w;clear hE
 go_enter func7,ntmps7
 go_wp2_with (first|(go_at_call 25;refine(HH.out _ _ (by assumption)).mono ?_;rintro e X ⟨rfl,hBX⟩)|(go_at_call 24;with_reducible refine(HA.out _ (by assumption)).mono ?_;rintro e w1 ⟨b,off,cap,rfl,hb,hB1,c0,c1,c2,c3,c4,c5,c6⟩))
 have hBw1:tQ w w1:=tQ.trans (by assumption) hB1;refine(HRq.out _ hBw1).mono ?_;rintro e w2 ⟨rfl,hB2⟩;have hBw2:=tQ.trans hBw1 hB2;have hb2:=Nat.lt_of_lt_of_le hb (Below.size hB2);have hS0:Qs b off w w1:=⟨hBw1,c0,c1,c2,c3,c4,c5,c6⟩;have hS1:=hS0.bel hb hB2;clear hS0 c0 c1 c2 c3 c4 c5 c6;obtain⟨_,c0,c1,c2,c3,c4,c5,c6⟩:=hS1;clear hB2 hBw1 hB1 hb HH
 have HD:∀ v W,tQ w2 W/\W.cell? ⟨b,off+1,none⟩=some (.int .u64 0)/\W.cell? ⟨b,off+2,none⟩=some (.int .u64 16384)/\W.cell? ⟨b,off+4+1,none⟩=some (.int .u64 0)/\W.cell? ⟨b,off+4+2,none⟩=some (.int .u64 13653)/\W.cell? ⟨b,off+8+1,none⟩=some (.int .u64 0)/\W.cell? ⟨b,off+8+2,none⟩=some (.int .u64 16)/\W.cell? ⟨b,off+12,none⟩=some (.int .i64 1)->Calls prog 25 #[.int .u64 v] W λe W'=>e = .returned (.agg #[.int .u64 0,.int .u64 v])/\tQ w2 W'/\W'.cell? ⟨b,off+1,none⟩=some (.int .u64 0)/\W'.cell? ⟨b,off+2,none⟩=some (.int .u64 16384)/\W'.cell? ⟨b,off+4+1,none⟩=some (.int .u64 0)/\W'.cell? ⟨b,off+4+2,none⟩=some (.int .u64 13653)/\W'.cell? ⟨b,off+8+1,none⟩=some (.int .u64 0)/\W'.cell? ⟨b,off+8+2,none⟩=some (.int .u64 16)/\W'.cell? ⟨b,off+12,none⟩=some (.int .i64 1) :=
  λv W hW=>(aku W v).mono λe W' h=>⟨h.1,Qs.bel (w:=w2) hW (Nat.lt_of_lt_of_le hb2 (Below.size hW.1)) h.2⟩
 have HD:=Lib.hid HD
 go_wp2_with fail
 go_region_held3 (λw'=>tQ w2 w'/\w'.cell? ⟨b,off+1,none⟩=some (.int .u64 0)/\w'.cell? ⟨b,off+2,none⟩=some (.int .u64 16384)/\w'.cell? ⟨b,off+4+1,none⟩=some (.int .u64 0)/\w'.cell? ⟨b,off+4+2,none⟩=some (.int .u64 13653)/\w'.cell? ⟨b,off+8+1,none⟩=some (.int .u64 0)/\w'.cell? ⟨b,off+8+2,none⟩=some (.int .u64 16)/\w'.cell? ⟨b,off+12,none⟩=some (.int .i64 1)) (first|exact hS'|((try dsimp only);(repeat' apply And.intro)<;>first|assumption|exact(tQ.refl _).drew|go_keep))
  (first|(go_at_call 25;refine(HD.out _ _ (by assumption)).mono ?_;rintro e w' ⟨rfl,hS'⟩))
 rename_i hS;have hq:((zZ acr).toList == [49,32,48,10,32,32,51,100,97,56,32,105,110,101,120,97,99,116,10])=true:=by rw[ByteArray.toList_eq];kernel_rfl
 go_wp2_with fail
 go_ret
 exact⟨congrArg (λb=>Ending.returned (Value.bool b)) hq,tQ.trans hBw2 hS.1⟩
end Go.Proofs.YtippohicjhilnaaGreatDoor.Sp
namespace Go.Proofs.YtippohicjhilnaaGreatDoor
open Go.RowKit
def fWk (_:List Int):List Int:=[1]
theorem aze:wX prog gG ⟨7,⟨[],[.sc .bool]⟩,fWk⟩:=by refine⟨λl hl _ w hG=>?_⟩;obtain rfl:l = []:=List.length_eq_zero_iff.1 hl;exact DT func7 (by kernel_rfl) (by kernel_rfl) ((Sp.wakes_c w (Sp.envW_of hG)).mono λe w' h=>h)
def Db:List uL:=⟨7,⟨[],[.sc .bool]⟩,fWk⟩::(TC++C6)
theorem akw:∀ e∈Db,wX prog gG e:=List.forall_mem_cons.2 ⟨aze,λe he=>(List.mem_append.1 he).elim (ayi e) (aq3 e)⟩
theorem WE:wW (uI Db N6 ZZ) eE:=EW akw agO Wp (by kernel_rfl)
def WF:Ct:=⟨[.sc kB,.agg [kU,kU]],[.agg [.bool,.nat,kI],.sc .bool]⟩
def akx:tL SV :=
 (.call 39 iV 3 2 (.call 10 iV 5 3 (.leaf (.agg [(.int .u64 iJ),(.int .u64 ou),(.int .u64 iL),(.int .u64 (.bin .leq .u8 jA bg))]))))
theorem azf:CE (uI Db N6 ZZ) 3000 13 WF (tO WF.a).length=akx:=by kernel_rfl
def aky:List Int->List Int:=xx (uy Db N6 ZZ) akx
theorem azg:wS prog gG ⟨13,WF,aky⟩:=EU WE 3000 (by kernel_rfl) (by kernel_rfl) azf (by kernel_rfl)
def WG:Ct:=⟨[.agg [.bool,.nat,kI],.agg [.bool,.nat,kI]],[.agg [.bool,.nat,kI]]⟩
def akz:tL SV :=
 (.call 9 [oH,og,au,(.not je),nZ,gQ] 6 3 (.leaf (.agg [aO,(.int .u64 oD),(.int .u64 jh)])))
theorem azh:CE (uI Db N6 ZZ) 3000 15 WG (tO WG.a).length=akz:=by kernel_rfl
def akA:List Int->List Int:=xx (uy Db N6 ZZ) akz
theorem azi:wS prog gG ⟨15,WG,akA⟩:=EU WE 3000 (by kernel_rfl) (by kernel_rfl) azh (by kernel_rfl)
def WH:Ct:=⟨[.agg [.bool,.nat,kI],.agg [.bool,.nat,kI]],[.sc .bool]⟩
def acT:tL SV :=
 (.call 29 oF 6 1 (.call 29 oG 7 1 (.call 31 [ou,oD] 8 1 (.leaf (.agg [(.int .u64 oJ)])))))
theorem azj:CE (uI Db N6 ZZ) 3000 16 WH (tO WH.a).length=acT:=by kernel_rfl
def Mg:List Int->List Int:=xx (uy Db N6 ZZ) acT
theorem azk:wS prog gG ⟨16,WH,Mg⟩:=EU WE 3000 (by kernel_rfl) (by kernel_rfl) azj (by kernel_rfl)
def Qt:Ct:=⟨[.sc kB,.agg [kU,kU]],[.sc .bool]⟩
def acU:tL SV :=
 (.call 23 iV 3 1 (.leaf (.bool (.not je))))
theorem azl:uN (uI Db N6 ZZ) 3000 6 (uF Qt.a (uC 0 (tO Qt.a))) (tO Qt.a).length=acU:=by kernel_rfl
def Qu:List Int->List Int:=uq (uy Db N6 ZZ) Qt acU
theorem azm:wX prog gG ⟨6,Qt,Qu⟩:=Ns WE 3000 (by kernel_rfl) azl (by kernel_rfl)
def DK:List uL:=⟨6,Qt,Qu⟩::Db
theorem azn:∀ e∈DK,wX prog gG e:=List.forall_mem_cons.2 ⟨azm,akw⟩
def DN:List uL:=⟨13,WF,aky⟩::⟨15,WG,akA⟩::⟨16,WH,Mg⟩::N6
theorem azo:∀ e∈DN,wS prog gG e:=List.forall_mem_cons.2 ⟨azg,List.forall_mem_cons.2 ⟨azi,List.forall_mem_cons.2 ⟨azk,agO⟩⟩⟩
theorem akB:uy Db N6 ZZ 29=Jz:=zy (e:=⟨29,_,Jz⟩) rfl rfl
theorem azp:uy Db N6 ZZ 31=NT:=zy (e:=⟨31,_,NT⟩) rfl rfl
theorem azq:uy Db N6 ZZ 23=PI:=vo (e:=⟨23,_,PI⟩) rfl rfl rfl
end Go.Proofs.YtippohicjhilnaaGreatDoor
