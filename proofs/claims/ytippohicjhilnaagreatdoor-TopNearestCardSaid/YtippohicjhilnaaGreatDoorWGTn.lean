import Derived.Test.YtippohicjhilnaaGreatDoorZ8Tn
import Derived.Test.YtippohicjhilnaaGreatDoorZ9Tn
import Derived.Test.YtippohicjhilnaaGreatDoorZITn
import Derived.Test.YtippohicjhilnaaGreatDoorZTTn
import Derived.Deep.RegionHeld3
set_option linter.unusedSimpArgs false
set_option linter.unusedVariables false
set_option maxRecDepth 100000
set_option maxHeartbeats 4000000
open Go.Proofs.Tryz
namespace Go.Proofs.YtippohicjhilnaaGreatDoor.Sp
open Go.RowKit Go.Shelf FlagM
attribute [local go_sem] Oper.semAt_some
theorem aBd {W:World} {b:Nat} {a0 a1:Value} {t:TypeId} (h:W.heap[b]? = some (.cells #[a0,a1] t)):W.cell? ⟨b,0,none⟩=some a0/\W.cell? ⟨b,1,none⟩=some a1/\W.frozen? ⟨b,0,none⟩=false/\W.frozen? ⟨b,1,none⟩=false:=by refine⟨?_,?_,?_,?_⟩<;>simp[World.cell?,World.frozen?,h]
theorem amD (w:World) (v:Int):Calls prog 25 #[.int .u64 v] w λe w'=>e = .returned (.agg #[.int .u64 0,.int .u64 v])/\vY w w':=by
 have h0:=World.alloc_heap_new w (.cells #[.int .u64 0,.int .u64 v] 25);have hB:=vY.alloc (vY.refl w) (.cells #[.int .u64 0,.int .u64 v] 25)
 go_enter func25,ntmps25
 go_wp2
 generalize w.alloc (.cells #[.int .u64 0,.int .u64 v] 25)=W0 at *
 obtain⟨f0,f1,_,_⟩:=aBd h0;exact bodyPost_ret (v:=.agg #[.int .u64 0,.int .u64 v]) (by simp[results,results25,go_sem,f0,f1]) rfl ⟨rfl,hB⟩
def Km:List (List Int):=[[1,0,0,0,0,0,15360,0,15360,0,0],[4,0,0,0,0,0,15360,0,16896,0,0],[6,0,0,0,0,0,15361,0,15361,0,48130],[77,0,0,0,0,0,0,0,0,0,0]]
theorem wk0:xw [1,0,0,0,0,0,15360,0,15360,0,0] = [0,0,16384,0]:=by kernel_rfl
theorem wk1:xw [4,0,0,0,0,0,15360,0,16896,0,0] = [0,0,13653,16]:=by kernel_rfl
theorem wk2:xw [6,0,0,0,0,0,15361,0,15361,0,48130] = [0,0,16,0]:=by kernel_rfl
theorem wk3:xw [77,0,0,0,0,0,0,0,0,0,0] = [1,0,0,0]:=by kernel_rfl
theorem aBe:Km.flatMap (xu kE) = [.int .u8 1,.int .u8 0,.int .u8 0,.int .u8 0,.int .u8 0,.int .u64 0,.int .u64 15360,.int .u64 0,.int .u64 15360,.int .u64 0,.int .u64 0,.int .u8 4,.int .u8 0,.int .u8 0,.int .u8 0,.int .u8 0,.int .u64 0,.int .u64 15360,.int .u64 0,.int .u64 16896,.int .u64 0,.int .u64 0,.int .u8 6,.int .u8 0,.int .u8 0,.int .u8 0,.int .u8 0,.int .u64 0,.int .u64 15361,.int .u64 0,.int .u64 15361,.int .u64 0,.int .u64 48130,.int .u8 77,.int .u8 0,.int .u8 0,.int .u8 0,.int .u8 0,.int .u64 0,.int .u64 0,.int .u64 0,.int .u64 0,.int .u64 0,.int .u64 0]:=by kernel_rfl
theorem aBf:(Km.flatMap λe=>xu kO (xw e)) = [.int .i64 0,.int .u64 0,.int .u64 16384,.int .u8 0,.int .i64 0,.int .u64 0,.int .u64 13653,.int .u8 16,.int .i64 0,.int .u64 0,.int .u64 16,.int .u8 0,.int .i64 1,.int .u64 0,.int .u64 0,.int .u8 0]:=by
 simp only[Km,List.flatMap_cons,List.flatMap_nil,wk0,wk1,wk2,wk3]
 kernel_rfl
theorem aBg:J (Km.map λe=>LK (xw e))=16:=by
 simp only[Km,List.map_cons,List.map_nil,wk0,wk1,wk2,wk3]
 kernel_rfl
abbrev YH:Array Value:=#[.int .u8 1,.int .u8 0,.int .u8 0,.int .u8 0,.int .u8 0,.int .u64 0,.int .u64 15360,.int .u64 0,.int .u64 15360,.int .u64 0,.int .u64 0,.int .u8 4,.int .u8 0,.int .u8 0,.int .u8 0,.int .u8 0,.int .u64 0,.int .u64 15360,.int .u64 0,.int .u64 16896,.int .u64 0,.int .u64 0,.int .u8 6,.int .u8 0,.int .u8 0,.int .u8 0,.int .u8 0,.int .u64 0,.int .u64 15361,.int .u64 0,.int .u64 15361,.int .u64 0,.int .u64 48130,.int .u8 77,.int .u8 0,.int .u8 0,.int .u8 0,.int .u8 0,.int .u64 0,.int .u64 0,.int .u64 0,.int .u64 0,.int .u64 0,.int .u64 0]
theorem aBh (w:World) (hG:Gl gG w):Calls prog 24 #[.slice (some ⟨w.heap.size,0,none⟩) 4 4] (w.alloc (.cells YH 31)) λen w'=>∃ b off cap,en = .returned (.tuple #[.slice (some ⟨b,off,none⟩) 4 cap,.int .u8 16])/\b<w'.heap.size/\vY w w'/\(w'.cell? ⟨b,off+1,none⟩=some (.int .u64 0)/\w'.cell? ⟨b,off+2,none⟩=some (.int .u64 16384)/\w'.cell? ⟨b,off+4+1,none⟩=some (.int .u64 0)/\w'.cell? ⟨b,off+4+2,none⟩=some (.int .u64 13653)/\w'.cell? ⟨b,off+8+1,none⟩=some (.int .u64 0)/\w'.cell? ⟨b,off+8+2,none⟩=some (.int .u64 16)/\w'.cell? ⟨b,off+12,none⟩=some (.int .i64 1)):=by
 have hB:=vY.alloc (vY.refl w) (.cells YH 31)
 have hR:Reads (w.alloc (.cells YH 31)) (.slice (some ⟨w.heap.size,0,none⟩) 4 4) Km.length (Km.flatMap (xu kE)):=by refine .inr ⟨w.heap.size,0,4,rfl,by simp,λj x hj=>?_⟩;rw[aBe] at hj;rw[Nat.zero_add];have:=World.alloc_heap_new w (.cells YH 31);unfold World.cell?;simp only[this];simpa using hj
 have h:=atY _ (hG.bel hB) (.slice (some ⟨w.heap.size,0,none⟩) 4 4) Km (by decide) (by decide) (by intro e he;simp only[Km,List.mem_cons,List.not_mem_nil,or_false] at he;rcases he with rfl|rfl|rfl|rfl;rw[wk0];rfl;rw[wk1];rfl;rw[wk2];rfl;rw[wk3];rfl) hR;refine h.mono ?_;rintro en w' ⟨u,rfl,hRd,hB2,hf⟩;rw[aBf] at hRd;rw[aBg];rcases hRd with⟨_,h0,_⟩|⟨b,off,cap,rfl,hb,hc⟩
 ·cases h0
 ·exact⟨b,off,cap,rfl,hb,vY.trans hB hB2,hc 1 _ rfl,hc 2 _ rfl,hc 5 _ rfl,hc 6 _ rfl,hc 9 _ rfl,hc 10 _ rfl,hc 12 _ rfl⟩
def SG (b off:Nat) (w W:World):Prop:=vY w W/\W.cell? ⟨b,off+1,none⟩=some (.int .u64 0)/\W.cell? ⟨b,off+2,none⟩=some (.int .u64 16384)/\W.cell? ⟨b,off+4+1,none⟩=some (.int .u64 0)/\W.cell? ⟨b,off+4+2,none⟩=some (.int .u64 13653)/\W.cell? ⟨b,off+8+1,none⟩=some (.int .u64 0)/\W.cell? ⟨b,off+8+2,none⟩=some (.int .u64 16)/\W.cell? ⟨b,off+12,none⟩=some (.int .i64 1)
theorem SG.bel {b off:Nat} {w W X:World} (h:SG b off w W) (hb:b<W.heap.size) (hB:vY W X):SG b off w X:=by
 have hc:∀ j,X.cell? ⟨b,j,none⟩=W.cell? ⟨b,j,none⟩:=λj=>hB.cell b j hb
 unfold SG at h ⊢;simp only[hc];exact⟨vY.trans h.1 hB,h.2⟩
theorem aD2 (w:World) (hE:aDC w):Calls prog 7 #[] w λe w'=>e = .returned (.bool true)/\vY w w':=by
 have HA:=Lib.hid (λX (hX:vY w X)=>(aBh X (hE.bel hX).1))
 have HRq:∀ X,vY w X->Calls prog 26 #[.string (BR Yw)] X λz w'=>z = .returned (.tuple #[.string (BR aeB),.int .i64 0,.int .i64 0])/\vY X w':=by intro X hX;have h:=az0 X (hE.bel hX) (BR Yw);rw[aAa] at h;exact h
 have HRq:=Lib.hid HRq;have HH:=Lib.hid (λX v (hX:vY w X)=>(amD X v).mono λe w' h=>(⟨h.1,vY.trans hX h.2⟩:e = .returned (.agg #[.int .u64 0,.int .u64 v])/\vY w w'));have hB0:=vY.refl w;clear hE
 go_enter func7,ntmps7
 go_wp2_with (first|(go_at_call 25;refine(HH.out _ _ (by assumption)).mono ?_;rintro e X ⟨rfl,hBX⟩)|(go_at_call 24;with_reducible refine(HA.out _ (by assumption)).mono ?_;rintro e w1 ⟨b,off,cap,rfl,hb,hB1,c0,c1,c2,c3,c4,c5,c6⟩))
 have hBw1:vY w w1:=vY.trans (by assumption) hB1;refine(HRq.out _ hBw1).mono ?_;rintro e w2 ⟨rfl,hB2⟩;have hBw2:=vY.trans hBw1 hB2;have hb2:=Nat.lt_of_lt_of_le hb (Below.size hB2);have hS0:SG b off w w1:=⟨hBw1,c0,c1,c2,c3,c4,c5,c6⟩;have hS1:=hS0.bel hb hB2;clear hS0 c0 c1 c2 c3 c4 c5 c6;obtain⟨_,c0,c1,c2,c3,c4,c5,c6⟩:=hS1;clear hB2 hBw1 hB1 hb HH
 have HD:∀ v W,vY w2 W/\W.cell? ⟨b,off+1,none⟩=some (.int .u64 0)/\W.cell? ⟨b,off+2,none⟩=some (.int .u64 16384)/\W.cell? ⟨b,off+4+1,none⟩=some (.int .u64 0)/\W.cell? ⟨b,off+4+2,none⟩=some (.int .u64 13653)/\W.cell? ⟨b,off+8+1,none⟩=some (.int .u64 0)/\W.cell? ⟨b,off+8+2,none⟩=some (.int .u64 16)/\W.cell? ⟨b,off+12,none⟩=some (.int .i64 1)->Calls prog 25 #[.int .u64 v] W λe W'=>e = .returned (.agg #[.int .u64 0,.int .u64 v])/\vY w2 W'/\W'.cell? ⟨b,off+1,none⟩=some (.int .u64 0)/\W'.cell? ⟨b,off+2,none⟩=some (.int .u64 16384)/\W'.cell? ⟨b,off+4+1,none⟩=some (.int .u64 0)/\W'.cell? ⟨b,off+4+2,none⟩=some (.int .u64 13653)/\W'.cell? ⟨b,off+8+1,none⟩=some (.int .u64 0)/\W'.cell? ⟨b,off+8+2,none⟩=some (.int .u64 16)/\W'.cell? ⟨b,off+12,none⟩=some (.int .i64 1) :=
  λv W hW=>(amD W v).mono λe W' h=>⟨h.1,SG.bel (w:=w2) hW (Nat.lt_of_lt_of_le hb2 (Below.size hW.1)) h.2⟩
 have HD:=Lib.hid HD
 go_wp2_with fail
 go_region_held3 (λw'=>vY w2 w'/\w'.cell? ⟨b,off+1,none⟩=some (.int .u64 0)/\w'.cell? ⟨b,off+2,none⟩=some (.int .u64 16384)/\w'.cell? ⟨b,off+4+1,none⟩=some (.int .u64 0)/\w'.cell? ⟨b,off+4+2,none⟩=some (.int .u64 13653)/\w'.cell? ⟨b,off+8+1,none⟩=some (.int .u64 0)/\w'.cell? ⟨b,off+8+2,none⟩=some (.int .u64 16)/\w'.cell? ⟨b,off+12,none⟩=some (.int .i64 1)) (first|exact hS'|((try dsimp only);(repeat' apply And.intro)<;>first|assumption|exact(vY.refl _).drew|go_keep))
  (first|(go_at_call 25;refine(HD.out _ _ (by assumption)).mono ?_;rintro e w' ⟨rfl,hS'⟩))
 rename_i hS;have hq:((BR aeB).toList == [49,32,48,10,32,32,51,100,97,56,32,105,110,101,120,97,99,116,10])=true:=by rw[ByteArray.toList_eq];kernel_rfl
 go_wp2_with fail
 go_ret
 exact⟨congrArg (λb=>Ending.returned (Value.bool b)) hq,vY.trans hBw2 hS.1⟩
end Go.Proofs.YtippohicjhilnaaGreatDoor.Sp
namespace Go.Proofs.YtippohicjhilnaaGreatDoor
open Go.RowKit
def fWk (_:List Int):List Int:=[1]
theorem aBi:yT prog gG ⟨7,⟨[],[.sc .bool]⟩,fWk⟩:=by refine⟨λl hl _ w hG=>?_⟩;obtain rfl:l = []:=List.length_eq_zero_iff.1 hl;exact FC func7 (by kernel_rfl) (by kernel_rfl) ((Sp.aD2 w (Sp.aD1 hG)).mono λe w' h=>h)
def Dc:List wY:=⟨7,⟨[],[.sc .bool]⟩,fWk⟩::(TC++C6)
theorem amF:∀ e∈Dc,yT prog gG e:=List.forall_mem_cons.2 ⟨aBi,λe he=>(List.mem_append.1 he).elim (aAl e) (as0 e)⟩
theorem YI:yS (wR Dc N6 ZZ) eE:=GY amF aiT Yx (by kernel_rfl)
def YJ:Ct:=⟨[.sc kB,.agg [kU,kU]],[.agg [.bool,.nat,kI],.sc .bool]⟩
def ae0:vU SV :=
 (.call 39 iX 3 2 (.call 10 iX 5 3 (.leaf (.agg [(.int .u64 iK),(.int .u64 oM),(.int .u64 iM),(.int .u64 (.bin .leq .u8 jD aY))]))))
theorem aBj:Eu (wR Dc N6 ZZ) 3000 13 YJ (vV YJ.a).length=ae0:=by kernel_rfl
def SI:List Int->List Int:=zo (wH Dc N6 ZZ) ae0
theorem aBk:yM prog gG ⟨13,YJ,SI⟩:=GX YI 3000 (by kernel_rfl) (by kernel_rfl) aBj (by kernel_rfl)
def YK:Ct:=⟨[.agg [.bool,.nat,kI],.agg [.bool,.nat,kI]],[.agg [.bool,.nat,kI]]⟩
def ae1:vU SV :=
 (.call 9 [oZ,oG,aj,(.not jh),oF,gP] 6 3 (.leaf (.agg [aL,(.int .u64 oQ),(.int .u64 jl)])))
theorem aBl:Eu (wR Dc N6 ZZ) 3000 15 YK (vV YK.a).length=ae1:=by kernel_rfl
def SK:List Int->List Int:=zo (wH Dc N6 ZZ) ae1
theorem aBm:yM prog gG ⟨15,YK,SK⟩:=GX YI 3000 (by kernel_rfl) (by kernel_rfl) aBl (by kernel_rfl)
def YL:Ct:=⟨[.agg [.bool,.nat,kI],.agg [.bool,.nat,kI]],[.sc .bool]⟩
def ae2:vU SV :=
 (.call 29 oU 6 1 (.call 29 oV 7 1 (.call 31 [oM,oQ] 8 1 (.leaf (.agg [(.int .u64 pg)])))))
theorem aBn:Eu (wR Dc N6 ZZ) 3000 16 YL (vV YL.a).length=ae2:=by kernel_rfl
def Oo:List Int->List Int:=zo (wH Dc N6 ZZ) ae2
theorem aBo:yM prog gG ⟨16,YL,Oo⟩:=GX YI 3000 (by kernel_rfl) (by kernel_rfl) aBn (by kernel_rfl)
def SL:Ct:=⟨[.sc kB,.agg [kU,kU]],[.sc .bool]⟩
def ae3:vU SV :=
 (.call 23 iX 3 1 (.leaf (.bool (.not jh))))
theorem aBp:xe (wR Dc N6 ZZ) 3000 6 (wN SL.a (wM 0 (vV SL.a))) (vV SL.a).length=ae3:=by kernel_rfl
def SN:List Int->List Int:=wE (wH Dc N6 ZZ) SL ae3
theorem aBq:yT prog gG ⟨6,SL,SN⟩:=Py YI 3000 (by kernel_rfl) aBp (by kernel_rfl)
def Ei:List wY:=⟨6,SL,SN⟩::Dc
theorem aBr:∀ e∈Ei,yT prog gG e:=List.forall_mem_cons.2 ⟨aBq,amF⟩
def Ej:List wY:=⟨13,YJ,SI⟩::⟨15,YK,SK⟩::⟨16,YL,Oo⟩::N6
theorem aBs:∀ e∈Ej,yM prog gG e:=List.forall_mem_cons.2 ⟨aBk,List.forall_mem_cons.2 ⟨aBm,List.forall_mem_cons.2 ⟨aBo,aiT⟩⟩⟩
theorem aBt:wH Dc N6 ZZ 39=Qm:=xZ (e:=⟨39,_,Qm⟩) rfl rfl rfl
theorem aBu:wH Dc N6 ZZ 10=Hm:=yO (e:=⟨10,_,Hm⟩) rfl rfl
theorem aBv:wH Dc N6 ZZ 9=LC:=yO (e:=⟨9,_,LC⟩) rfl rfl
theorem amG:wH Dc N6 ZZ 29=IG:=yO (e:=⟨29,_,IG⟩) rfl rfl
theorem aBw:wH Dc N6 ZZ 31=IE:=yO (e:=⟨31,_,IE⟩) rfl rfl
theorem aBx:wH Dc N6 ZZ 23=RH:=xZ (e:=⟨23,_,RH⟩) rfl rfl rfl
theorem aBy:yS (wR Ei Ej ZZ) eE:=GY aBr aBs Yx (by kernel_rfl)
def Gu:Ct:=⟨[.sc kB,.sc kB,.sc .bool,.agg [kU,kU],.agg [kU,kU],.agg [kU,kU],.agg [kU,kU]],[.sc .bool]⟩
def ae4:vU SV :=
 (.ite (.bin .gtr .u8 dM bP) tX (.call 6 tY 11 1 (.ite lH tX (.call 6 sW 12 1 (.ite kG tX (.call 6 sZ 13 1 (.ite lJ tX (.call 6 tN 14 1 (.ite je tX (.call 8 tY 15 2 (.call 8 sW 17 2 (.call 10 tY 19 3 (.call 10 sW 22 3 (.call 9 [kw,(.var .nat 20),(.var kI 21),lh,(.var .nat 23),nX] 25 3 (.ite (.bin .eql .u8 tZ ai) (.call 8 sZ 28 2 (.call 10 tY 30 3 (.call 10 sW 33 3 (.call 11 [(.var .bool 30),(.var .nat 31),(.var kI 32),nI,(.var .nat 34),(.var kI 35)] 36 3 (.call 10 sZ 39 3 (.call 9 [pG,ug,oo,(.var .bool 39),(.var .nat 40),(.var kI 41)] 42 3 (.ite dL (.call 12 [aQ,dM,ae,ai,ae,fw,eZ,fe,fq,mR,jY] 45 4 (.call 13 uh 49 4 (.call 13 tN 53 4 (.ite ui av (.call 14 uh 57 1 (.ite uj av (.ite (.not oh) tX (.ite uo tX (.ite uq tX (.ite uw tX (.ite uy tX (.call 15 uB 58 3 (.call 15 uD 61 3 (.call 16 uG 64 1 (.ite (.var .bool 64) av (.call 16 uH 65 1 (.ite uI (.call 15 uJ 66 3 (.ite uK (.call 16 uJ 69 1 (.ite (.var .bool 69) av uL)) uL)) uL))))))))))))))))) (.call 12 [aQ,dM,ae,ae,ae,fw,eZ,fe,fq,mR,jY] 45 4 (.call 13 uh 49 4 (.call 13 tN 53 4 (.ite ui av (.call 14 uh 57 1 (.ite uj av (.ite (.not oh) tX (.ite uo tX (.ite uq tX (.ite uw tX (.ite uy tX (.call 15 uB 58 3 (.call 15 uD 61 3 (.call 16 uG 64 1 (.ite (.var .bool 64) av (.call 16 uH 65 1 (.ite uI (.call 15 uJ 66 3 (.ite uK (.ite (.bin .neq .u64 (.bin .and .u64 (.var kU 47) ai) ae) av uL) uL)) uL)))))))))))))))))))))))) (.ite (.bin .eql .u8 tZ aY) (.call 10 tY 28 3 (.call 10 sW 31 3 (.call 11 [jX,(.var .nat 29),(.var kI 30),(.var .bool 31),(.var .nat 32),(.var kI 33)] 34 3 (.ite dL (.call 12 [bP,dM,ae,ai,ae,fw,eZ,fe,fq,ae,ae] 37 4 (.call 13 uM 41 4 (.call 13 tN 45 4 (.ite uN av (.call 14 uM 49 1 (.ite uz av (.ite (.not qA) tX (.ite uQ tX (.ite uR tX (.ite uS tX (.ite uT tX (.call 15 uW 50 3 (.call 15 uX 53 3 (.call 16 uZ 56 1 (.ite (.var .bool 56) av (.call 16 ve 57 1 (.ite (.not uj) (.call 15 vg 58 3 (.ite vo (.call 16 vg 61 1 (.ite uE av vv)) vv)) vv))))))))))))))))) (.call 12 [bP,dM,ae,ae,ae,fw,eZ,fe,fq,ae,ae] 37 4 (.call 13 uM 41 4 (.call 13 tN 45 4 (.ite uN av (.call 14 uM 49 1 (.ite uz av (.ite (.not qA) tX (.ite uQ tX (.ite uR tX (.ite uS tX (.ite uT tX (.call 15 uW 50 3 (.call 15 uX 53 3 (.call 16 uZ 56 1 (.ite (.var .bool 56) av (.call 16 ve 57 1 (.ite (.not uj) (.call 15 vg 58 3 (.ite vo (.ite (.bin .neq .u64 (.bin .and .u64 nO ai) ae) av vv) vv)) vv))))))))))))))))))))) (.ite dL (.call 12 [(.bin .add .u8 ai tZ),dM,ae,ai,ae,fw,eZ,fe,fq,ae,ae] 28 4 (.call 13 vw 32 4 (.call 13 tN 36 4 (.ite vC av (.call 14 vw 40 1 (.ite (.var .bool 40) av (.ite qd tX (.ite vF tX (.ite vG tX (.ite vH tX (.ite vI tX (.call 15 vJ 41 3 (.call 15 vK 44 3 (.call 16 vL 47 1 (.ite (.var .bool 47) av (.call 16 vN 48 1 (.ite vO (.call 15 vP 49 3 (.ite vQ (.call 16 vP 52 1 (.ite oh av vR)) vR)) vR))))))))))))))))) (.call 12 [(.bin .add .u8 ai tZ),dM,ae,ae,ae,fw,eZ,fe,fq,ae,ae] 28 4 (.call 13 vw 32 4 (.call 13 tN 36 4 (.ite vC av (.call 14 vw 40 1 (.ite (.var .bool 40) av (.ite qd tX (.ite vF tX (.ite vG tX (.ite vH tX (.ite vI tX (.call 15 vJ 41 3 (.call 15 vK 44 3 (.call 16 vL 47 1 (.ite (.var .bool 47) av (.call 16 vN 48 1 (.ite vO (.call 15 vP 49 3 (.ite vQ (.ite (.bin .neq .u64 (.bin .and .u64 j4 ai) ae) av vR) vR)) vR))))))))))))))))))))))))))))))))))
theorem aBz:xe (wR Ei Ej ZZ) 3000 3 (wN Gu.a (wM 0 (vV Gu.a))) (vV Gu.a).length=ae4:=by kernel_rfl
def ae5:List Int->List Int:=wE (wH Ei Ej ZZ) Gu ae4
theorem aBA:yT prog gG ⟨3,Gu,ae5⟩:=Py aBy 3000 (by kernel_rfl) aBz (by kernel_rfl)
theorem YM:wH Ei Ej ZZ 6=SN:=xZ (e:=⟨6,_,SN⟩) rfl rfl rfl
theorem ae6:wH Ei Ej ZZ 8=Dp:=xZ (e:=⟨8,_,Dp⟩) rfl rfl rfl
theorem Oq:wH Ei Ej ZZ 10=Hm:=yO (e:=⟨10,_,Hm⟩) rfl rfl
theorem amH:wH Ei Ej ZZ 9=LC:=yO (e:=⟨9,_,LC⟩) rfl rfl
theorem amI:wH Ei Ej ZZ 11=Qn:=yO (e:=⟨11,_,Qn⟩) rfl rfl
theorem SQ:wH Ei Ej ZZ 12=xw:=xZ (e:=⟨12,_,xw⟩) rfl rfl rfl
theorem amJ:wH Ei Ej ZZ 13=SI:=yO (e:=⟨13,_,SI⟩) rfl rfl
theorem aBB:wH Ei Ej ZZ 14=CX:=xZ (e:=⟨14,_,CX⟩) rfl rfl rfl
theorem ae7:wH Ei Ej ZZ 15=SK:=yO (e:=⟨15,_,SK⟩) rfl rfl
theorem ae8:wH Ei Ej ZZ 16=Oo:=yO (e:=⟨16,_,Oo⟩) rfl rfl
end Go.Proofs.YtippohicjhilnaaGreatDoor
