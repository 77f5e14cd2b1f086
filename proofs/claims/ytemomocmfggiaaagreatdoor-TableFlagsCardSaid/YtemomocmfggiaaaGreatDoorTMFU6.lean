import Derived.Test.YtemomocmfggiaaaGreatDoorCKU6
import Derived.Test.YtemomocmfggiaaaGreatDoorTGU6
import Derived.Test.YtemomocmfggiaaaGreatDoorTM5U6
import Derived.Test.YtemomocmfggiaaaGreatDoorZSU6
set_option linter.unusedSimpArgs false
set_option linter.unusedVariables false
set_option maxRecDepth 100000
set_option maxHeartbeats 4000000
namespace Go.Proofs.YtemomocmfggiaaaGreatDoor
open Go.RowKit
theorem aiA:vP TE NZ ZZ 11=LZ:=wy (e:=⟨11,_,LZ⟩) rfl rfl rfl
def kF (f:Nat) (ts:List Tg) (ns:List Nat) (a:Nat) (K:Option Te):Option Te:=match Pk ts ns with
 | true=>match Nat.beq f 14 with
  | true=>some [(.bool,.k (vw (Nat.ble 1 a)))]
  | false=>match Nat.beq f 15 with
   | true=>some [(.bool,.k (vw (Nat.beq a 2)))]
   | false=>none
 | false=>K
def nrF (o g:Int) (a b c:Nat):Bool:=match yF g 1 with
 | true=>true
 | false=>match yF o 12 with
  | true=>false
  | false=>Nat.ble 1 (a+b+c)
def toF (o:Int):Nat:=match yF o 10 with|true=>2|false=>1
def orG (o g:Int) (a b c f:Nat) (ts:List Tg):Option Te:=match Nat.beq f 10 with
  | true=>match ts with
   | .k n::l=>match xD (yF n o) (Pk l [1,2,3,4,5,6,7,8,9,10]) with
    | true=>some [(kI,.k 0),(kU,.i 11),(kU,.i 12),(kB,.k g)]
    | false=>none
   | _=>none
  | false=>match Nat.beq f 11 with
   | true=>match ts with
    | []=>some [(.bool,.k 1)]
    | _=>none
   | false=>match Pk ts [toF o,11,12] with
    | true=>match (match zS o 11 with|true=>true|false=>yF o 12) with
     | true=>match Nat.beq f 16 with
      | true=>some [(.bool,.k 1)]
      | false=>match Nat.beq f 15 with
       | true=>some [(.bool,.k 0)]
       | false=>match Nat.beq f 14 with
        | true=>some [(.bool,.k (vw (nrF o g a b c)))]
        | false=>none
     | false=>none
    | false=>match zS o 11 with
     | true=>kF f ts [1,5,6] a (kF f ts [1,7,8] b (kF f ts [1,9,10] c none))
     | false=>none
def orF (p:Int×Int×Nat×Nat×Nat) (f:Nat) (ts:List Tg):Option Te:=orG p.1 p.2.1 p.2.2.1 p.2.2.2.1 p.2.2.2.2 f ts
def inF (o:Int):Te:=[(kB,.k o),(kB,.i 1),(kB,.i 2),(kB,.i 3),(kB,.i 4),(kU,.i 5),(kU,.i 6),(kU,.i 7),(kU,.i 8),(kU,.i 9),(kU,.i 10)]
def stF:List ((Int×Int×Nat×Nat×Nat)×Te) :=
 ([1,2,3,4,5,6,7,8,9,10].flatMap fun o=>[0,1,2,16,20,24].flatMap fun g=>[0,1,2].flatMap fun a=>[0,1,2].flatMap fun b=>[0,1,2].flatMap fun c =>
  match (match yF g 1 with|true=>true|false=>match Nat.beq a 2 with|true=>false|false=>match Nat.beq b 2 with|true=>false|false=>match Nat.beq c 2 with|true=>false|false=>true) with
  | true=>[((o,g,a,b,c),inF o)]
  | false=>[]) ++ [11,12,13,14].flatMap fun o=>[0,1,2,16,20,24].map fun g=>((o,g,0,0,0),inF o)
theorem avF:IV orF En.r L6 stF=true:=by kernel_rfl
def orB (_:Unit) (f:Nat) (ts:List Tg):Option Te:=match Nat.beq f 10 with
 | true=>match Pk ts [0,1,2,3,4,5,6,7,8,9,10] with
  | true=>some [(kI,.k 1),(kU,.k 0),(kU,.k 0),(kB,.k 0)]
  | false=>none
 | false=>match Nat.beq f 11 with
  | true=>match ts with
   | []=>some [(.bool,.k 1)]
   | _=>none
  | false=>none
def inB:Te:=[(kB,.i 0),(kB,.i 1),(kB,.i 2),(kB,.i 3),(kB,.i 4),(kU,.i 5),(kU,.i 6),(kU,.i 7),(kU,.i 8),(kU,.i 9),(kU,.i 10)]
theorem avG:IV orB En.r L6 [((),inB)]=true:=by kernel_rfl
def DK (c:Nat):Nat:=if c=5 then 2 else if 4≤c then 1 else 0
theorem VC (c:Nat):Nat.ble 1 (DK c)=decide (4≤c):=by
 unfold DK
 split
 ·rename_i h;subst h;rfl
 ·split
  ·rename_i h;rw[decide_eq_true h];rfl
  ·rename_i h;rw[decide_eq_false h];rfl
theorem aiF (c:Nat):Nat.beq (DK c) 2=decide (c=5):=by
 unfold DK
 split
 ·rename_i h;rw[decide_eq_true h];rfl
 ·rename_i h;rw[decide_eq_false h];split<;>rfl
theorem avH (c:Nat):DK c=0∨DK c=1∨DK c=2:=by
 unfold DK
 by_cases h:c=5
 ·rw[if_pos h];simp
 ·rw[if_neg h];split<;>simp
def Ma (o f t m i a1 a0 b1 b0 c1 c0:Int) (r:Nat) (j:Nat):Int:=vT [u8 o,u8 f,u8 t,u8 m,u8 i,u64 a1,u64 a0,u64 b1,u64 b0,u64 c1,u64 c0,wd r 1,wd r 0] j
theorem R6 {ν:Nat→Int} {b c:Bool} (h:b=c):zN ν [(.bool,.k (vw b))] [vw c]:=⟨by rw[h];cases c<;>rfl,trivial⟩
theorem avI (o f t m i a1 a0 b1 b0 c1 c0:Int) (r g:Nat) (hr:r<vF) (hg:GV g) (hgo:LZ [] = [1])
  (hrun:ym [u8 o,u8 f,u8 t,u8 m,u8 i,u64 a1,u64 a0,u64 b1,u64 b0,u64 c1,u64 c0] = [0,wd r 1,wd r 0,(g:Int)])
  (ho:1≤u8 o∧u8 o≤14) (hto:fN (if u8 o=10 then t else f)<4)
  (hG:u8 o<11∨u8 o=12→yS (fN (if u8 o=10 then t else f)) (u8 o≠12∧FN (fN f) (nB a1 a0) (nB b1 b0) (nB c1 c0)) (u8 o≠12∧ES (fN f) (nB a1 a0) (nB b1 b0) (nB c1 c0)) (r,g)) :
  PV [o,f,t,m,i,a1,a0,b1,b0,c1,c0] = [1]:=by
 generalize hka:(if u8 o<11 then DK (uZ (fN f) (nB a1 a0)) else 0)=ka
 generalize hkb:(if u8 o<11 then DK (uZ (fN f) (nB b1 b0)) else 0)=kb
 generalize hkc:(if u8 o<11 then DK (uZ (fN f) (nB c1 c0)) else 0)=kc
 have hO:∀ F ts ans xs,orF (u8 o,(g:Int),ka,kb,kc) F ts=some ans→Pj (Ma o f t m i a1 a0 b1 b0 c1 c0 r) ts xs→zN (Ma o f t m i a1 a0 b1 b0 c1 c0 r) ans (vP TE NZ ZZ F xs):=by
  intro F ts ans xs h hx
  have hk:∀ {ns:List Nat} {a:Nat} {K:Option Te} {x1 x0:Int},kF F ts ns a K=some ans→ns.map (Ma o f t m i a1 a0 b1 b0 c1 c0 r) = [u8 f,u64 x1,u64 x0]→a=DK (uZ (fN f) (nB x1 x0)) →
    (K=some ans→zN (Ma o f t m i a1 a0 b1 b0 c1 c0 r) ans (vP TE NZ ZZ F xs))→zN (Ma o f t m i a1 a0 b1 b0 c1 c0 r) ans (vP TE NZ ZZ F xs):=by
   intro ns a K x1 x0 h hn ha hK
   unfold kF at h
   split at h
   ·rename_i hi
    rw[RH hi hx,hn]
    subst ha
    split at h
    ·rename_i hb;cases h;rw[wR.1 hb,aig,Bj,vH,vM];exact R6 (VC _)
    split at h
    ·rename_i hb;cases h;rw[wR.1 hb,aif,CZ,vH,vM];exact R6 (aiF _)
    ·cases h
   ·exact hK h
  replace h:orG (u8 o) (g:Int) ka kb kc F ts=some ans:=h
  unfold orG at h
  split at h
  ·rename_i hb
   rw[wR.1 hb,aie]
   split at h
   ·rename_i n l
    split at h
    ·rename_i hc
     cases h
     have hc:=xk hc
     match xs,hx with
     | x::xs,⟨h1,h2⟩ =>
      have e1:=RH hc.2 h2
      have e2:n=u8 o:=by have:=hc.1;rw[Di,beq_iff_eq] at this;exact this
      rw[e1,show x=n from h1,e2]
      show zN _ _ (ym [u8 o,u8 f,u8 t,u8 m,u8 i,u64 a1,u64 a0,u64 b1,u64 b0,u64 c1,u64 c0])
      rw[hrun]
      refine⟨rfl,?_,?_,?_,trivial⟩
      ·show IntKind.u64.wrap (wd r 1)=wd r 1
       rw[← xR];exact BQ r 1
      ·show IntKind.u64.wrap (wd r 0)=wd r 0
       rw[← xR];exact BQ r 0
      ·show IntKind.u8.wrap (g:Int)=(g:Int)
       rcases hg with rfl|rfl|rfl|rfl|rfl|rfl<;>decide
    ·cases h
   ·cases h
  split at h
  ·rename_i hb
   rw[wR.1 hb,aiA]
   split at h
   ·cases h
    match xs,hx with
    | [],_=>rw[hgo];exact⟨rfl,trivial⟩
   ·cases h
  split at h
  ·rename_i hi
   have hx:=RH hi hx
   split at h
   ·rename_i hoo
    have ho3:u8 o<11∨u8 o=12:=by
     revert hoo
     rw[Cc,Di]
     by_cases h11:u8 o<11
     ·intro _;exact .inl h11
     ·rw[decide_eq_false h11];intro h;exact .inr (by simpa using h)
    have hg3:=hG ho3
    have hx2:xs = [u8 (if u8 o=10 then t else f),wd r 1,wd r 0]:=by
     rw[hx]
     unfold toF
     rw[Di]
     by_cases h10:u8 o=10
     ·rw[h10];rfl
     ·rw[show(u8 o==10)=false by simpa using h10,if_neg h10];rfl
    rw[hx2]
    split at h
    ·rename_i hb;cases h
     rw[wR.1 hb,avk,xL,vH,xn hr]
     exact R6 (b:=true) (by unfold wo;rw[decide_eq_true hto,decide_eq_true hg3.lt];rfl)
    split at h
    ·rename_i hb;cases h
     rw[wR.1 hb,aif,CZ,vH,xn hr]
     exact R6 (b:=false) (decide_eq_false hg3.sg).symm
    split at h
    ·rename_i hb;cases h
     rw[wR.1 hb,aig,Bj,vH,xn hr]
     refine R6 ?_
     unfold nrF
     rw[Di,Di]
     have hna:=hg3.na
     simp only at hna
     by_cases g1:g=1
     ·subst g1
      rw[decide_eq_true (hna.2 (.inr rfl))];rfl
     ·rw[show((g:Int)==1)=false by rw[beq_eq_false_iff_ne];omega]
      by_cases o12:u8 o=12
      ·rw[show(u8 o==12)=true by rw[o12];rfl]
       rw[decide_eq_false (fun h=>by rcases hna.1 h with h|h;exact h.1 o12;exact g1 h)]
      ·rw[show(u8 o==12)=false by simpa using o12]
       have o11:u8 o<11:=by omega
       rw[if_pos o11] at hka hkb hkc
       have e1:=VC (uZ (fN f) (nB a1 a0))
       have e2:=VC (uZ (fN f) (nB b1 b0))
       have e3:=VC (uZ (fN f) (nB c1 c0))
       rw[hka] at e1;rw[hkb] at e2;rw[hkc] at e3
       show Nat.ble 1 (ka+kb+kc)=_
       rw[Bool.eq_iff_iff,Nat.ble_eq,decide_eq_true_iff,hna]
       have f1:1≤ka↔4≤uZ (fN f) (nB a1 a0):=by rw[← Nat.ble_eq,e1,decide_eq_true_iff]
       have f2:1≤kb↔4≤uZ (fN f) (nB b1 b0):=by rw[← Nat.ble_eq,e2,decide_eq_true_iff]
       have f3:1≤kc↔4≤uZ (fN f) (nB c1 c0):=by rw[← Nat.ble_eq,e3,decide_eq_true_iff]
       have:(u8 o≠12):=o12
       constructor
       ·intro h
        refine .inl ⟨this,?_⟩
        unfold FN
        rw[← f1,← f2,← f3]
        omega
       ·rintro(⟨_,h⟩|h)
        ·unfold FN at h
         rw[← f1,← f2,← f3] at h
         omega
        ·exact absurd h g1
    ·cases h
   ·cases h
  split at h
  ·rename_i hoo
   rw[Cc,decide_eq_true_iff] at hoo
   rw[if_pos hoo] at hka hkb hkc
   exact hk h rfl hka.symm fun h=>hk h rfl hkb.symm fun h=>hk h rfl hkc.symm fun h=>by cases h
  ·cases h
 unfold PV
 refine RI hO En L6 stF (inF (u8 o)) _ avF ?_ ?_
 ·have hgs:(g:Int)∈([0,1,2,16,20,24]:List Int):=by rcases hg with rfl|rfl|rfl|rfl|rfl|rfl<;>simp
  unfold stF
  by_cases h11:u8 o<11
  ·rw[if_pos h11] at hka hkb hkc
   refine List.mem_append_left _ ?_
   have hos:u8 o∈([1,2,3,4,5,6,7,8,9,10]:List Int):=by
    have:u8 o=1∨u8 o=2∨u8 o=3∨u8 o=4∨u8 o=5∨u8 o=6∨u8 o=7∨u8 o=8∨u8 o=9∨u8 o=10:=by omega
    simpa using this
   have ks:∀ {k c:Nat},DK c=k→k ∈ [0,1,2]:=fun e=>by rw[← e];simpa using avH _
   refine List.mem_flatMap.2 ⟨_,hos,List.mem_flatMap.2 ⟨_,hgs,List.mem_flatMap.2 ⟨_,ks hka,List.mem_flatMap.2 ⟨_,ks hkb,List.mem_flatMap.2 ⟨_,ks hkc,?_⟩⟩⟩⟩⟩
   have si:=(hG (.inl h11)).si
   simp only at si
   rw[Di]
   by_cases g1:g=1
   ·subst g1;exact List.mem_singleton.2 rfl
   ·have h2:∀ {k c:Nat},DK c=k→c≠5→Nat.beq k 2=false:=fun e hc=>by rw[← e,aiF,decide_eq_false hc]
    have ns:¬ ES (fN f) (nB a1 a0) (nB b1 b0) (nB c1 c0):=fun h=>g1 (si ⟨by omega,h⟩)
    unfold ES at ns
    simp only[not_or] at ns
    rw[show((g:Int)==1)=false by rw[beq_eq_false_iff_ne];omega,h2 hka ns.1,h2 hkb ns.2.1,h2 hkc ns.2.2]
    exact List.mem_singleton.2 rfl
  ·rw[if_neg h11] at hka hkb hkc
   refine List.mem_append_right _ ?_
   have hos:u8 o∈([11,12,13,14]:List Int):=by
    have:u8 o=11∨u8 o=12∨u8 o=13∨u8 o=14:=by omega
    simpa using this
   rw[← hka,← hkb,← hkc]
   exact List.mem_flatMap.2 ⟨_,hos,List.mem_map.2 ⟨_,hgs,rfl⟩⟩
 ·have w8:∀ x:Int,IntKind.u8.wrap x=u8 x:=fun x=>(xR .u8 x).symm
  have w64:∀ x:Int,IntKind.u64.wrap x=u64 x:=fun x=>(xR .u64 x).symm
  exact⟨w8 o,w8 f,w8 t,w8 m,w8 i,w64 a1,w64 a0,w64 b1,w64 b0,w64 c1,w64 c0,trivial⟩
theorem avJ (o f t m i a1 a0 b1 b0 c1 c0:Int) (hgo:LZ [] = [1]) (hrun:ym [u8 o,u8 f,u8 t,u8 m,u8 i,u64 a1,u64 a0,u64 b1,u64 b0,u64 c1,u64 c0] = [1,0,0,0]) :
  PV [o,f,t,m,i,a1,a0,b1,b0,c1,c0] = [1]:=by
 have hO:∀ F ts ans xs,orB () F ts=some ans→Pj (Ma o f t m i a1 a0 b1 b0 c1 c0 0) ts xs→zN (Ma o f t m i a1 a0 b1 b0 c1 c0 0) ans (vP TE NZ ZZ F xs):=by
  intro F ts ans xs h hx
  unfold orB at h
  split at h
  ·rename_i hb
   rw[wR.1 hb,aie]
   split at h
   ·rename_i hi
    cases h
    rw[RH hi hx]
    show zN _ _ (ym [u8 o,u8 f,u8 t,u8 m,u8 i,u64 a1,u64 a0,u64 b1,u64 b0,u64 c1,u64 c0])
    rw[hrun]
    exact⟨rfl,rfl,rfl,rfl,trivial⟩
   ·cases h
  split at h
  ·rename_i hb
   rw[wR.1 hb,aiA]
   split at h
   ·cases h
    match xs,hx with
    | [],_=>rw[hgo];exact⟨rfl,trivial⟩
   ·cases h
  ·cases h
 unfold PV
 refine RI hO En L6 _ inB _ avG (List.mem_singleton.2 rfl) ?_
 have w8:∀ x:Int,IntKind.u8.wrap x=u8 x:=fun x=>(xR .u8 x).symm
 have w64:∀ x:Int,IntKind.u64.wrap x=u64 x:=fun x=>(xR .u64 x).symm
 exact⟨w8 o,w8 f,w8 t,w8 m,w8 i,w64 a1,w64 a0,w64 b1,w64 b0,w64 c1,w64 c0,trivial⟩
end Go.Proofs.YtemomocmfggiaaaGreatDoor
