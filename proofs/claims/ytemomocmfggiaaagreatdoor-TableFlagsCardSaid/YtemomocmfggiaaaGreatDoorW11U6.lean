import Derived.Test.YtemomocmfggiaaaGreatDoorW10U6
set_option linter.unusedSimpArgs false
set_option linter.unusedVariables false
set_option maxRecDepth 100000
namespace Go.Proofs.YtemomocmfggiaaaGreatDoor
open Go.RowKit
def Ke (r:Nat) (x:Int) (d:Nat):List Int:=match decide (r<d∧0≤x∧x≤40000) with
 | true=>oB (vO r x.toNat d).1 ++ [vw (vO r x.toNat d).2,1]
 | false=>[0,0,0,0]
def LV (l:List Int):List Int:=Ke (nB (vT l 0) (vT l 1)) (i64 (vT l 2)) (nB (vT l 3) (vT l 4))
abbrev IY:Ct:=⟨[.agg [kU,kU],.sc kI,.agg [kU,kU]],[.agg [kU,kU],.sc .bool,.sc .bool]⟩
theorem five {α:Type} {l:List α} (h:l.length=5):∃ a b c d e,l = [a,b,c,d,e]:=by match l,h with | [a,b,c,d,e],_=>exact⟨a,b,c,d,e,rfl⟩
theorem atp (a b c d e:Int):wJ IY.a [a,b,c,d,e] = [vB (nB a b),.int .i64 (i64 c),vB (nB d e)]:=by
 obtain⟨n1,n0⟩:=JG a b
 obtain⟨m1,m0⟩:=JG d e
 simp only[IY,wJ,yx,wQ,xW,AU,Gx,Sh.kinds,List.drop_succ_cons,List.drop_zero,List.length_cons,List.length_nil,n1,n0,m1,m0]
theorem atq (q:Nat) (o:Bool):xG (wJ IY.r (oB q ++ [vw o,1])) = .tuple #[vB q,.bool o,.bool true]:=by
 rw[vR]
 simp only[IY,wB,wC,wJ,yx,wQ,xW,AU,Sh.kinds,List.drop_succ_cons,List.drop_zero,List.length_cons,List.length_nil,BQ,yN,xG]
 rfl
theorem atr:xG (wJ IY.r [0,0,0,0]) = .tuple #[vB 0,.bool false,.bool false]:=by
 have zw:∀ j,wd 0 j=0:=fun j=>by unfold wd;simp
 have z:u64 0=0:=by decide
 simp only[IY,wJ,yx,wQ,xW,AU,Sh.kinds,List.drop_succ_cons,List.drop_zero,List.length_cons,List.length_nil,xG,z,vB,zw]
 rfl
theorem aa0 {r d:Nat} {x:Int} (h:r<d∧0≤x∧x≤40000):Ke r x d=oB (vO r x.toNat d).1 ++ [vw (vO r x.toNat d).2,1]:=by
 have:decide (r<d∧0≤x∧x≤40000)=true:=decide_eq_true h
 unfold Ke;rw[this]
theorem ag6 {r d:Nat} {x:Int} (h:¬ (r<d∧0≤x∧x≤40000)):Ke r x d = [0,0,0,0]:=by
 have:decide (r<d∧0≤x∧x≤40000)=false:=decide_eq_false h
 unfold Ke;rw[this]
theorem att (r:Nat) (x:Int) (d:Nat):(Ke r x d).length=4:=by
 by_cases h:r<d∧0≤x∧x≤40000
 ·rw[aa0 h,vR];rfl
 ·rw[ag6 h];rfl
theorem ag7 {args:List Value} {v:Value} (h:∀ w,Gl gG w→Calls Tryz.prog 228 args.toArray w fun e w'=>e = .returned v∧vI w w'):PC Tryz.prog gG 228 args v:=fun w hG =>
 Hu Tryz.func228 (by kernel_rfl) (by kernel_rfl) (h w hG)
theorem atu (r d k:Nat) (hr:r<d) (hd:d<vF) (hk:k≤40000) (w:World) (hG:Gl gG w):Calls Tryz.prog 228 #[vB r,.int .i64 (k:Int),vB d] w fun e w'=>e = .returned (.tuple #[vB (vO r k d).1,.bool (vO r k d).2,.bool true])∧vI w w' :=
 callsIn_wide.1 (atn 3 (Nat.le_refl _) r d k hr hd hk w hG)
theorem atv (r d:Nat) (x:Int) (hr:r<vF) (hd:d<vF) (hx:d≤r∨x<0∨40000<x) (w:World) (hG:Gl gG w):Calls Tryz.prog 228 #[vB r,.int .i64 x,vB d] w fun e w'=>e = .returned (.tuple #[vB 0,.bool false,.bool false])∧vI w w' :=
 callsIn_wide.1 (ato 3 (Nat.le_refl _) r d x hr hd hx w hG)
theorem atw (r d:Nat) (x:Int) (hr:r<vF) (hd:d<vF):PC Tryz.prog gG 228 [vB r,.int .i64 x,vB d] (xG (wJ IY.r (Ke r x d))):=by
 by_cases h:r<d∧0≤x∧x≤40000
 ·rw[aa0 h,atq]
  obtain⟨k,rfl⟩:∃ k:Nat,x=(k:Int):=⟨x.toNat,by omega⟩
  exact ag7 fun w hG=>atu r d k h.1 hd (by omega) w hG
 ·rw[ag6 h,atr]
  exact ag7 fun w hG=>atv r d x hr hd (by omega) w hG
theorem aa1 (a b c d e:Int):LV [a,b,c,d,e]=Ke (nB a b) (i64 c) (nB d e):=by rw[LV];simp only[wV,wW]
theorem atx:wh Tryz.prog gG ⟨228,IY,LV⟩:=by
 intro l hl
 obtain⟨a,b,c,d,e,rfl⟩:=five hl
 have h1:=att (nB a b) (i64 c) (nB d e)
 have h2:=atw (nB a b) (nB d e) (i64 c) (Gz a b) (Gz d e)
 rw[← atp,← aa1] at h2
 rw[← aa1] at h1
 exact⟨h1,h2⟩
end Go.Proofs.YtemomocmfggiaaaGreatDoor
