import Derived.Test.YtippohicjhilnaaGreatDoorZATn
import Derived.Laws.BitsAllLaws
set_option linter.unusedSimpArgs false
set_option linter.unusedVariables false
set_option maxRecDepth 100000
set_option maxHeartbeats 2000000
open Go.Proofs.Tryz
namespace Go.Proofs.YtippohicjhilnaaGreatDoor.FlagM
def J (l:List Nat):Nat:=l.foldl (λa s=>a|||s%32) 0
theorem auc (l:List Nat):∀ a,l.foldl (λa s=>a|||s%32) a=a|||J l:=by
 induction l with
 | nil=>intro a;simp[J]
 | cons x l ih=>intro a;simp only[List.foldl_cons,J];rw[ih,ih (0|||x%32)];simp[Nat.or_assoc]
theorem ajF:J []=0:=rfl
theorem J_cons (x:Nat) (l:List Nat):J (x::l)=x%32|||J l:=by simp only[J,List.foldl_cons];rw[auc];simp[J]
theorem aud (l m:List Nat):J (l++m)=J l|||J m:=by
 induction l with
 | nil=>simp[ajF]
 | cons x l ih=>rw[List.cons_append,J_cons,ih,J_cons,Nat.or_assoc]
theorem acZ (l:List Nat):J l<32:=by
 induction l with
 | nil=>decide
 | cons x l ih=>rw[J_cons];exact Nat.or_lt_two_pow (n:=5) (Nat.mod_lt _ (by decide)) ih
def sub (s p:Nat):Bool:=p&&&(255-s)==0
theorem sub_zero (s:Nat):sub s 0=true:=by simp[sub]
end Go.Proofs.YtippohicjhilnaaGreatDoor.FlagM
namespace Go.Proofs.YtippohicjhilnaaGreatDoor.JN
open Go.RowKit Go.Shelf FlagM
attribute [local go_sem] Oper.semAt_some
def fb (s:Int) (k:Nat):Bool:=bits .and .u8 s (2^k%256) != 0
def evs (s:Int):Nat->List (Fin 5)
 | 0=>[]
 | k+1=>if h:k<5 then(if fb s k then evs s k ++ [⟨k,h⟩] else evs s k) else evs s k
theorem aue {s:Int} {k:Nat} (hk:k<5) (h:fb s k=true):evs s (k+1)=evs s k ++ [⟨k,hk⟩]:=by simp[evs,h,hk]
theorem auf {s:Int} {k:Nat} (h:fb s k=false):evs s (k+1)=evs s k:=by simp[evs,h]
theorem aDm (s:Int):∀ k,(evs s k).length<=k
 | 0=>by simp[evs]
 | k+1=>by
  have:=aDm s k;simp only[evs];split
  ·split
   ·simp;omega
   ·omega
  ·omega
theorem aug (F:Fence) (n:Nat) (h7:F.fn 248) (hro:F.round=none) (hn:1<=n) (l Bs:Nat) (s:Int) (J Jx:List (Fin 5)->World->Prop)
  (hY:∀ pre x W,J pre W->pre.length<5->YieldAt F (n-1) prog l #[.int .i64 (x.1:Int),.int .u8 (2^x.1%256)] W λe W' =>
   (e = .returned (.bool true)/\J (pre ++ [x]) W'/\Ov Bs W W')\/(e = .returned (.bool false)/\Jx (pre ++ [x]) W'))
  (W:World) (hBs:W.cell? ⟨Bs,0,none⟩=some (.int .u8 s)) (h0:J [] W) :
  CallsIn F n prog 248 #[.func (.yield l) #[] #[],.pointer (some ⟨Bs,0,none⟩)] W λe W'=>(∃ v,e = .returned v) /\
   ((∃ ys,ys=evs s 5/\J ys W')\/(∃ pre,True/\Jx pre W')):=by
 refine callsIn_of_wp func248 rfl h7 ?_ hro;simp only[ntmps248,List.size_toArray,List.length_cons,List.length_nil,Nat.reduceAdd,Nat.reduceSub,Array.replicate_succ,Array.replicate_zero,List.push_toArray,List.append_toArray,List.nil_append,List.cons_append]
 gi_wp2
 gi_loopw [5] (λi wr=>∃ k:Nat,k<=5/\i = .int .i64 k/\J (evs s k) wr/\wr.cell? ⟨Bs,0,none⟩=some (.int .u8 s))
  (λi _=>5-(intOf i).toNat)
 case atStart=>exact⟨0,Nat.zero_le _,rfl,h0,hBs⟩
 case round =>
  obtain⟨k,hk,rfl,hJs,hcx⟩:=hrel;by_cases hlt:k<5
  ·cases hf:fb s k with
   | true =>
    have Hs:=Lib.hid (aue hlt hf);have hlen:=aDm s k;have hf':(bits .and .u8 s (2^k%256) != 0)=true:=hf;clear hf;obtain⟨fn,tmps,assign,body,hy,hR⟩:=hY _ ⟨k,hlt⟩ wr hJs (by omega);dsimp only at hy
    gi_wp2
    refine hR.mono ?_;rintro e W3 (⟨rfl,hJ3,hk3⟩|⟨rfl,hJx3⟩)
    ·gi_wp2
     go_roundw
     case rel=>exact⟨k+1,by omega,by simp,by rw[Hs.out];exact hJ3,hk3 _ hcx⟩
     case measure=>simp[intOf];omega
    ·gi_wp2
     refine bodyPost_ret (results_none rfl _ _ _) rfl ?_;exact⟨⟨_,rfl⟩,.inr ⟨_,trivial,hJx3⟩⟩
   | false =>
    have Hs:=Lib.hid (auf hf);have hf':(bits .and .u8 s (2^k%256) != 0)=false:=hf;clear hf
    gi_wp2
    refine⟨λ_ h=>(by cases h),?_⟩
    gi_wp2
    go_roundw
    case rel=>exact⟨k+1,by omega,by simp,by rw[Hs.out];exact hJs,hcx⟩
    case measure=>simp[intOf];omega
  ·obtain rfl:k=5:=by omega
   gi_wp2
   go_end0
   exact⟨⟨_,rfl⟩,.inl ⟨_,rfl,hJs⟩⟩
theorem ajG (F:Fence) (n:Nat) (h5:F.fn 190) (hro:F.round=none) (s:Int) (w:World) :
  CallsIn F n prog 190 #[.int .u8 s] w λe w'=>e = .returned (.func (.func 248) #[] #[.pointer (some ⟨w.heap.size,0,none⟩)])/\w'=w.alloc (.cells #[.int .u8 s] 39):=by
 refine callsIn_of_wp func190 rfl h5 ?_ hro;simp only[ntmps190,List.size_toArray,List.length_cons,List.length_nil,Nat.reduceAdd,Nat.reduceSub,Array.replicate_succ,Array.replicate_zero,List.push_toArray,List.append_toArray,List.nil_append,List.cons_append]
 gi_wp2
 go_ret
 exact⟨rfl,rfl⟩
theorem ajH (F:Fence) (n:Nat) (h7:F.fn 248) (hro:F.round=none) (hn:1<=n) (Bs:Nat) (s:Int) (w:World) (hBs:Bs<w.heap.size)
  (hc:w.cell? ⟨Bs,0,none⟩=some (.int .u8 s)) :
  SeqStopsK F n prog 248 #[.pointer (some ⟨Bs,0,none⟩)] (λx:Fin 5=>#[Value.int .i64 (x.1:Int),Value.int .u8 (2^x.1%256)]) (Ov Bs) (λys=>ys=evs s 5)
   (λ_=>True) 5 w:=λl J Jx W hW _ _ hY h0 =>
 aug F n h7 hro hn l Bs s J Jx hY W ((hW.cell (p:=⟨Bs,0,none⟩) hBs).trans hc) h0
def Hr (acc:Int) (l:List (Fin 5)):Int:=l.foldl (λa x=>bits .or .u8 a (2^x.1%256)) acc
theorem auh (acc:Int) (pre:List (Fin 5)) (x:Fin 5):Hr acc (pre ++ [x])=bits .or .u8 (Hr acc pre) (2^x.1%256):=by simp[Hr]
def Hu (zs:List Int):Int:=zs.foldl (λacc s=>Hr acc (evs s 5)) 0
theorem aui (pre:List Int) (x:Int):Hu (pre ++ [x])=Hr (Hu pre) (evs x 5):=by simp[Hu]
theorem auj (zs:List Int) (k:Nat) (h:k<zs.length):Hu (zs.take (k+1))=Hr (Hu (zs.take k)) (evs (zs[k]?.getD 0) 5):=by rw[List.take_succ_eq_append_getElem h,aui];simp[h]
theorem auk (F:Fence) (n:Nat) (h3:F.fn 135) (h5:F.fn 190) (h7:F.fn 248) (hro:F.round=none) (hn:3<=n) (b off cap:Nat) (zs:List Int) (hreach:zs.length<=140737488351232) (w:World)
  (hb:b<w.heap.size) (hc:∀ j,j<zs.length->w.cell? ⟨b,off+j,none⟩=some (.int .u8 (zs[j]?.getD 0))) :
  CallsIn F n prog 135 #[.slice (some ⟨b,off,none⟩) zs.length cap] w λe W'=>e = .returned (.int .u8 (Hu zs))/\Below w.heap.size w W':=by
 have h1:1<=n:=by omega
 refine callsIn_of_wp_marks func135 rfl h3 ?_ hro;simp only[ntmps135,List.size_toArray,List.length_cons,List.length_nil,Nat.reduceAdd,Nat.reduceSub,Array.replicate_succ,Array.replicate_zero,List.push_toArray,List.append_toArray,List.nil_append,List.cons_append]
 gi_wp2
 have bS:=Boxed.new w 39 (.int .u8 0)
 refine wpIn_loop (λa wr=>∃ u5 u7 u11 u12 u13 u14 u15 u16 u17 u18 u19 u20 u21,∃ (k:Nat) (Ds:List Nat),k<=zs.length/\Boxed wr w.heap.size 39 (.int .u8 (Hu (zs.take k)))/\Below w.heap.size w wr/\Marks w.heap.size Ds wr /\
  a = { tmps:=#[.slice (some ⟨b,off,none⟩) zs.length cap,undef,.int .u8 0,.pointer (some ⟨w.heap.size,0,none⟩),undef,u5,undef,u7,.slice (some ⟨b,off,none⟩) zs.length cap,.int .i64 zs.length,.int .i64 k,u11,u12,u13,u14,u15,u16,u17,u18,u19,u20,u21,undef],defers:=Ds.map mk1 })
  (λa _=>zs.length-(intOf (a.tmps.getD 10 undef)).toNat) ?_ ?_
 ·exact⟨_,_,_,_,_,_,_,_,_,_,_,_,_,0,[],Nat.zero_le _,bS,(Below.refl _ w).alloc (Nat.le_refl _) _,⟨List.nodup_nil,by simp⟩,rfl⟩
 ·rintro a wr ⟨u5,u7,u11,u12,u13,u14,u15,u16,u17,u18,u19,u20,u21,k,Ds,hk,bR,hnx,hM,rfl⟩;by_cases hlt:k<zs.length
  ·have hcx:wr.cell? ⟨b,off+k,none⟩=some (.int .u8 (zs[k]?.getD 0)):=(hnx.cell (p:=⟨b,off+k,none⟩) hb).trans (hc k hlt);have Ht:=Lib.hid (auj zs k hlt);generalize zs[k]?.getD 0=z at hcx Ht
   gi_wp2_with (gi_at_call 190;refine(ajG F (n-1) h5 hro _ _).mono ?_;rintro e w' ⟨rfl,rfl⟩)
   have bR1:=bR.alloc (.cells #[.int .u8 z] 39);have bZ:=Boxed.new wr 39 (.int .u8 z);have hM1:=hM.keeps (KeepsOthers.alloc wr (.cells #[.int .u8 z] 39));have hB1:=hnx.alloc hnx.size (.cells #[.int .u8 z] 39);have hltD:∀ D∈Ds,D<(wr.alloc (.cells #[.int .u8 z] 39)).heap.size:=λD hD=>hM1.lt hD
   have hwr:=bR.lt;have hnz:=hnx.size
   refine wpIn_rangeFunc_ownG hro h1 (gf:=248) (lb:=#[.pointer (some ⟨wr.heap.size,0,none⟩)]) rfl h7 (enters_of func248 (by kernel_rfl) rfl)
    (ajH F (n-1) h7 hro (by omega) wr.heap.size z _ (by simp) bZ.cell) afl afm (Below.refl _ _) (λ_=>rfl)
    (λpre W=>(Boxed W w.heap.size 39 (.int .u8 (Hr (Hu (zs.take k)) pre))/\Boxed W wr.heap.size 39 (.int .u8 z))/\(Below w.heap.size w W/\Marks w.heap.size Ds W))
    (λ_ _ _=>False)
    (OwnFrom.and (OwnFrom.and (Own.from (boxed_own _ _ _) _) (Own.from (boxed_own _ _ _) _)) (OwnFrom.and (ownFrom_below (Nat.le_refl _) (by simp;omega)) (am5 hltD)))
    (λ_ _ _ _ _ hs _ _=>hs)
    ⟨⟨bR1,bZ⟩,hB1,hM1⟩
    (λx => { tmps:=#[.slice (some ⟨b,off,none⟩) zs.length cap,undef,.int .u8 0,.pointer (some ⟨w.heap.size,0,none⟩),undef,.int .u8 z,undef,.int .u8 (2^x.1%256),.slice (some ⟨b,off,none⟩) zs.length cap,.int .i64 zs.length,.int .i64 k,.bool true,.pointer (some ⟨b,off+k,none⟩),.int .u8 z,.int .u8 z,.func (.func 248) #[] #[.pointer (some ⟨wr.heap.size,0,none⟩)],.int .i64 (x.1:Int),.int .u8 (2^x.1%256),u18,u19,u20,u21,undef],defers:=[] }) ?assign ?body ?done ?stop
   case assign =>
    intro l x W K hK
    gi_wp2
    exact hK
   case body =>
    rintro l pre x W ⟨⟨bR2,bZ2⟩,hB2,hM2⟩ _;have hc2:=bR2.cell;have hf2:=bR2.frozen
    gi_wp2
    exact⟨(KeepsOthers.setCell _ _ _).from _,λv hv=>by rw[bZ2.cell] at hv;cases hv;exact(bZ2.other (by omega) _).cell,⟨⟨by rw[auh];exact bR2.set _,bZ2.other (by omega) _⟩,hB2.setCell (p:=⟨w.heap.size,0,none⟩) (Nat.le_refl _) _,hM2.keeps (KeepsOthers.setCell _ _ _)⟩⟩
   case done =>
    rintro D ys W hD rfl ⟨⟨bR3,bZ3⟩,hB3,hM3⟩ hK
    gi_wp2
    refine⟨⟨_,_,_,_,_,_,_,_,_,_,_,_,_,k+1,D::Ds,by omega,by rw[Ht.out];exact bR3,hB3,hM3.cons hltD hD (by simp at hD;omega) hK,rfl⟩,?_⟩;simp[intOf];omega
   case stop =>
    rintro D c pre W _ _ h _;exact h.elim
  ·obtain rfl:k=zs.length:=by omega
   have hcR:=bR.cell
   gi_wp2
   exact Marks.leaves (F:=F) (n:=n) (fn:=Tryz.f135) (v:=.int .u8 (Hu zs)) (w:=w) (λW=>results_tmp (t:=2) rfl _ _ _) Ds wr hM hnx
theorem aul (F:Fence) (n:Nat) (h3:F.fn 135) (hro:F.round=none) (a:Option Addr) (c:Nat) (w:World) :
  CallsIn F n prog 135 #[.slice a 0 c] w λe W'=>e = .returned (.int .u8 0)/\vY w W':=by
 refine callsIn_of_wp_marks func135 rfl h3 ?_ hro;simp only[ntmps135,List.size_toArray,List.length_cons,List.length_nil,Nat.reduceAdd,Nat.reduceSub,Array.replicate_succ,Array.replicate_zero,List.push_toArray,List.append_toArray,List.nil_append,List.cons_append]
 gi_wp2
 have bS:=Boxed.new w 39 (.int .u8 0)
 gi_loopw [10] (λi wr=>i = .int .i64 0/\Boxed wr w.heap.size 39 (.int .u8 0)/\vY w wr) (λ_ _=>0)
 case atStart=>exact⟨rfl,bS,(vY.refl w).alloc _⟩
 case round =>
  obtain⟨rfl,bR,hB⟩:=hrel;have hcR:=bR.cell
  gi_wp2
  exact⟨_,results_tmp (t:=2) rfl _ _ _,rfl,hB⟩
def XZ (W:World) (v:Value) (l:List Int):Prop :=
 (∀ j,j<l.length->0<=l[j]?.getD 0/\l[j]?.getD 0<=255)/\l.length<=140737488351232 /\
 ((∃ a c,v = .slice a 0 c/\l = [])\/∃ b off cap,v = .slice (some ⟨b,off,none⟩) l.length cap/\b<W.heap.size/\∀ j,j<l.length->W.cell? ⟨b,off+j,none⟩=some (.int .u8 (l[j]?.getD 0)))
theorem aum:∀ (a:Fin 32) (x:Fin 5),bits .or .u8 (a.1:Int) (2^x.1%256)=((a.1|||2^x.1:Nat):Int):=by decide +kernel
theorem aif {a:Nat} (h:a<32) (x:Fin 5):a|||2^x.1<32 :=
 Nat.or_lt_two_pow (n:=5) h (Nat.pow_lt_pow_right (by decide) x.2)
theorem aun (l:List (Fin 5)):∀ (a:Nat),a<32->Hr (a:Int) l=((l.foldl (λa x=>a|||2^x.1) a:Nat):Int):=by
 induction l with
 | nil=>intro a _;rfl
 | cons x l ih =>
  intro a ha;have h1:=aum ⟨a,ha⟩ x;have h2:=ih (a|||2^x.1) (aif ha x);simp only[Hr,List.foldl_cons] at h2 ⊢;rw[h1,h2]
theorem auo:∀ s:Fin 256,(evs (s.1:Int) 5).foldl (λa x=>a|||2^x.1) 0=s.1%32:=by decide +kernel
theorem aup (l:List (Fin 5)):∀ a:Nat,l.foldl (λa x=>a|||2^x.1) a=a|||l.foldl (λa x=>a|||2^x.1) 0:=by
 induction l with
 | nil=>intro a;simp
 | cons x l ih=>intro a;simp only[List.foldl_cons];rw[ih,ih (0|||2^x.1)];simp[Nat.or_assoc]
theorem auq (l:List Int) (hl:∀ x∈l,0<=x/\x<=255):∀ a:Nat,a<32->l.foldl (λacc s=>Hr acc (evs s 5)) (a:Int)=((a|||J (l.map Int.toNat):Nat):Int):=by
 induction l with
 | nil=>intro a _;simp[ajF]
 | cons x l ih =>
  intro a ha;obtain⟨h0,h1⟩:=hl x (by simp)
  have e:Hr (a:Int) (evs x 5)=((a|||x.toNat%32:Nat):Int):=by rw[aun _ a ha,aup];have:=auo ⟨x.toNat,by omega⟩;simp only[Int.toNat_of_nonneg h0] at this;rw[this]
  have hlt:a|||x.toNat%32<32:=Nat.or_lt_two_pow (n:=5) ha (Nat.mod_lt _ (by decide));rw[List.foldl_cons,e,ih (λy hy=>hl y (by simp[hy])) _ hlt,List.map_cons,J_cons,Nat.or_assoc]
theorem aur (l:List Int) (hl:∀ x∈l,0<=x/\x<=255):Hu l=(J (l.map Int.toNat):Int):=by have:=auq l hl 0 (by decide);simpa [Hu] using this
theorem XZ.mem {W:World} {v:Value} {l:List Int} (h:XZ W v l):∀ x∈l,0<=x/\x<=255:=λx hx=>by obtain⟨j,hj,rfl⟩:=List.mem_iff_getElem.1 hx;have:=h.1 j hj;simpa [hj] using this
theorem aD7 (v:Value) (l:List Int) (w:World) (h:XZ w v l) :
  Calls prog 135 #[v] w λe w'=>e = .returned (.int .u8 (J (l.map Int.toNat):Int))/\vY w w':=by
 rw[<- aur l h.mem];refine(callsIn_wide (n:=3)).1 ?_;rcases h.2.2 with⟨a,c,rfl,rfl⟩|⟨b,off,cap,rfl,hb,hc⟩
 ·exact aul _ _ trivial rfl a c w
 ·exact auk _ 3 trivial trivial trivial rfl (by omega) b off cap l h.2.1 w hb hc
theorem ajI {w:World} {x y:Value} {t:TypeId} : (w.alloc (.cells #[x,y] t)).cell? ⟨w.heap.size,0,none⟩=some x/\(w.alloc (.cells #[x,y] t)).cell? ⟨w.heap.size,1,none⟩=some y:=by unfold World.cell?;simp only[World.alloc_heap_new];exact⟨rfl,rfl⟩
theorem ajJ {P:Nat->Prop} (h:P 0) (k:P 1):∀ j,j<2->P j:=λj hj=>by
 have:j=0\/j=1:=by omega
 rcases this with rfl|rfl
 ·exact h
 ·exact k
theorem aD0 (w:World) (x y:Int) (c:Nat) (h0:0<=x) (h1:x<=255) (h2:0<=y) (h3:y<=255):XZ (w.alloc (.cells #[.int .u8 x,.int .u8 y] 39)) (.slice (some ⟨w.heap.size,0,none⟩) 2 c) [x,y] :=
 ⟨ajJ ⟨h0,h1⟩ ⟨h2,h3⟩,by simp,.inr ⟨_,0,c,rfl,by simp,ajJ ajI.1 ajI.2⟩⟩
end Go.Proofs.YtippohicjhilnaaGreatDoor.JN
