import Derived.Test.YtemomocmfggiaaaGreatDoorZCU6
set_option linter.unusedSimpArgs false
set_option linter.unusedVariables false
set_option maxRecDepth 100000
namespace Go.Proofs.YtemomocmfggiaaaGreatDoor
open Go.RowKit
inductive Tg where
 | k (n:Int)
 | i (j:Nat)
 | u
abbrev Te:=List (VK×Tg)
def Ve:VK→VK→Bool
 | .int a,.int b=>zT a b
 | .bool,.bool=>true
 | _,_=>false
theorem asR {a b:VK} (h:Ve a b=true):a=b:=by
 cases a<;>cases b<;>first|rfl|(simp[Ve] at h;done)|(rw[Be h])
def aaO:Te→Nat→VK→Tg
 | [],_,_=>.u
 | (k,t)::_,0,κ=>match Ve k κ with|true=>t|false=>.u
 | _::l,n+1,κ=>aaO l n κ
def pe (e:Te):X→Tg
 | .lit n=>.k n
 | .var κ i=>aaO e i κ
 | .bin op k a b=>match pe e a with
  | .k x=>match pe e b with
   | .k y=>Ev (fold op k x y) Tg.k
   | _=>.u
  | _=>.u
 | .not a=>match pe e a with
  | .k x=>.k (vw (Dj (vG x)))
  | _=>.u
 | .and a b=>match pe e a with
  | .k x=>match pe e b with
   | .k y=>.k (vw (xD (vG x) (vG y)))
   | _=>.u
  | _=>.u
 | .beq a b=>match pe e a with
  | .k x=>match pe e b with
   | .k y=>.k (vw (match vG x with|true=>vG y|false=>Dj (vG y)))
   | _=>.u
  | _=>.u
 | _=>.u
def Tg.is (ν:Nat→Int):Tg→Int→Prop
 | .k n,v=>v=n
 | .i j,v=>v=ν j
 | .u,_=>True
def zN (ν:Nat→Int):Te→List Int→Prop
 | [],[]=>True
 | (k,t)::e,x::l=>t.is ν (k.norm x)∧zN ν e l
 | _,_=>False
theorem zN.app {ν:Nat→Int} : ∀ {e r:Te} {l m:List Int},zN ν e l→zN ν r m→zN ν (e++r) (l++m)
 | [],_,[],_,_,h=>h
 | _::_,_,_::_,_,⟨h1,h2⟩,h=>⟨h1,zN.app h2 h⟩
 | [],_,_::_,_,h,_=>h.elim
 | _::_,_,[],_,h,_=>h.elim
theorem zN.len {ν:Nat→Int} : ∀ {e:Te} {l:List Int},zN ν e l→l.length=e.length
 | [],[],_=>rfl
 | _::_,_::_,⟨_,h⟩=>by rw[List.length_cons,List.length_cons,zN.len h]
 | [],_::_,h=>h.elim
 | _::_,[],h=>h.elim
theorem zN.at {ν:Nat→Int} : ∀ {e:Te} {l:List Int},zN ν e l→∀ (i:Nat) (κ:VK),(aaO e i κ).is ν (κ.norm (vT l i))
 | [],_,_,_,_=>trivial
 | (k,t)::e,x::l,⟨h,_⟩,0,κ=>by
  show Tg.is ν (match Ve k κ with|true=>t|false=>.u) _
  split
  ·rename_i hk;rw[← asR hk];exact h
  ·trivial
 | _::e,_::l,⟨_,h⟩,i+1,κ=>zN.at h i κ
 | _::_,[],h,_,_=>h.elim
theorem GY {ν:Nat→Int} {e:Te} {l:List Int} (h:zN ν e l):∀ x:X,(pe e x).is ν (x.ev l)
 | .lit n=>rfl
 | .var κ i=>by rw[X.ev_den];exact h.at i κ
 | .bin op k a b=>by
  have ha:=GY h a;have hb:=GY h b
  unfold pe X.ev
  split
  ·rename_i x hx;rw[hx] at ha
   split
   ·rename_i y hy;rw[hy] at hb
    rw[Hy];show _=_
    rw[show a.ev l=x from ha,show b.ev l=y from hb]
   ·trivial
  ·trivial
 | .not a=>by
  have ha:=GY h a
  unfold pe X.ev
  split
  ·rename_i x hx;rw[hx] at ha
   show _=_
   rw[show a.ev l=x from ha]
  ·trivial
 | .and a b=>by
  have ha:=GY h a;have hb:=GY h b
  unfold pe X.ev
  split
  ·rename_i x hx;rw[hx] at ha
   split
   ·rename_i y hy;rw[hy] at hb
    show _=_
    rw[show a.ev l=x from ha,show b.ev l=y from hb]
    cases vG x<;>cases vG y<;>rfl
   ·trivial
  ·trivial
 | .beq a b=>by
  have ha:=GY h a;have hb:=GY h b
  unfold pe X.ev
  split
  ·rename_i x hx;rw[hx] at ha
   split
   ·rename_i y hy;rw[hy] at hb
    show _=_
    rw[show a.ev l=x from ha,show b.ev l=y from hb]
    cases vG x<;>rfl
   ·trivial
  ·trivial
 | .conv _ _=>trivial
 | .com _ _=>trivial
 | .min _ _=>trivial
 | .max _ _=>trivial
 | .ite _ _ _=>trivial
 | .dlen _=>trivial
def Pj (ν:Nat→Int):List Tg→List Int→Prop
 | [],[]=>True
 | t::e,x::l=>t.is ν x∧Pj ν e l
 | _,_=>False
theorem agO {ν:Nat→Int} {e:Te} {l:List Int} (h:zN ν e l):∀ xs:List X,Pj ν (xs.map (pe e)) (xs.map (X.den (vT l)))
 | []=>trivial
 | x::xs=>⟨by rw[← X.ev_den];exact GY h x,agO h xs⟩
def Pk:List Tg→List Nat→Bool
 | [],[]=>true
 | .i j::l,n::m=>xD (Nat.beq j n) (Pk l m)
 | _,_=>false
theorem RH {ν:Nat→Int} : ∀ {t:List Tg} {n:List Nat} {l:List Int},Pk t n=true→Pj ν t l→l=n.map ν
 | [],[],[],_,_=>rfl
 | .i j::t,n::m,x::l,h,⟨h1,h2⟩=>by
  have h:=xk h
  have hj:=wR.1 h.1
  rw[List.map_cons,← RH h.2 h2,show x=ν j from h1,hj]
section
variable {P:Type} (orc:P→Nat→List Tg→Option Te)
def part (c:X):List (P×Te)→Option (List (P×Te)×List (P×Te))
 | []=>some ([],[])
 | s::l=>match pe s.2 c with
  | .k n=>match part c l with
   | some (y,z)=>match vG n with|true=>some (s::y,z)|false=>some (y,s::z)
   | none=>none
  | _=>none
def Vf (g:Nat) (args:List X) (n:Nat):List (P×Te)→Option (List (P×Te))
 | []=>some []
 | s::l=>match orc s.1 g (args.map (pe s.2)) with
  | some r=>match Nat.beq r.length n with
   | true=>match Vf g args n l with
    | some m=>F7 (s.2++r) fun e=>some ((s.1,e)::m)
    | none=>none
   | false=>none
  | none=>none
def lf (r:List Sh) (a:SV) (l:List (P×Te)):Bool:=match DX r (Gg r a) with
 | some [x]=>l.all fun s=>match pe s.2 x with | .k n=>yF n 1|_=>false
 | _=>false
def IV (r:List Sh):vo SV→List (P×Te)→Bool
 | .leaf a,l=>match l with | []=>true|s::l=>lf r a (s::l)
 | .ite c a b,l=>match l with
  | []=>true
  | s::l=>match part c (s::l) with
   | some (y,z)=>match IV r a y with|true=>IV r b z|false=>false
   | none=>false
 | .call g args _ n t,l=>match l with
  | []=>true
  | s::l=>match Vf orc g args n (s::l) with
   | some m=>IV r t m
   | none=>false
 | .stuck _,l=>match l with | []=>true|_::_=>false
end
theorem agP {P:Type} {ν:Nat→Int} {c:X} {p:P} {e:Te} {L:List Int} (hA:zN ν e L):∀ {l y z:List (P×Te)},part c l=some (y,z)→(p,e)∈l→(vG (c.ev L)=true∧(p,e)∈y)∨(vG (c.ev L)=false∧(p,e)∈z)
 | s::l,y,z,h,hm=>by
  unfold part at h
  split at h
  ·rename_i n hn
   split at h
   ·rename_i y' z' hp
    rcases List.mem_cons.1 hm with rfl|hm
    ·have hv:c.ev L=n:=by have:=GY hA c;rw[show pe e c = .k n from hn] at this;exact this
     rw[hv]
     split at h
     ·rename_i hz;cases h;exact .inl ⟨hz,by simp⟩
     ·rename_i hz;cases h;exact .inr ⟨hz,by simp⟩
    ·have ih:=agP hA hp hm
     split at h<;>cases h<;>rcases ih with⟨h1,h2⟩|⟨h1,h2⟩
     ·exact .inl ⟨h1,List.mem_cons_of_mem _ h2⟩
     ·exact .inr ⟨h1,h2⟩
     ·exact .inl ⟨h1,h2⟩
     ·exact .inr ⟨h1,List.mem_cons_of_mem _ h2⟩
   ·cases h
  ·cases h
theorem agQ {P:Type} {orc:P→Nat→List Tg→Option Te} {g n:Nat} {args:List X} {p:P} {e:Te} : ∀ {l m:List (P×Te)},Vf orc g args n l=some m→(p,e)∈l→∃ r,orc p g (args.map (pe e))=some r∧r.length=n∧(p,e++r)∈m
 | s::l,m,h,hm=>by
  unfold Vf at h
  split at h
  ·rename_i r hr
   split at h
   ·rename_i hn
    split at h
    ·rename_i m' hm'
     rw[Ji] at h
     cases h
     rcases List.mem_cons.1 hm with rfl|hm
     ·exact⟨r,hr,wR.1 hn,by simp⟩
     ·obtain⟨r,h1,h2,h3⟩:=agQ hm' hm
      exact⟨r,h1,h2,List.mem_cons_of_mem _ h3⟩
    ·cases h
   ·cases h
  ·cases h
theorem RI {P:Type} {orc:P→Nat→List Tg→Option Te} {Φ:yY} {ν:Nat→Int} {p:P} (hO:∀ g tgs r xs,orc p g tgs=some r→Pj ν tgs xs→zN ν r (Φ g xs)) (ct:Ct) :
  ∀ (t:vo SV) (l:List (P×Te)) (e:Te) (L:List Int),IV orc ct.r t l=true→(p,e)∈l→zN ν e L→vU Φ ct t L = [1]
 | .leaf a,s::l,e,L,h,hm,hA=>by
  unfold IV at h
  simp only at h
  unfold lf at h
  unfold vU zg
  split at h
  ·rename_i x hx
   simp only[hx,Fu,id,List.map_cons,List.map_nil]
   have h1:=List.all_eq_true.1 h _ hm
   have h2:=GY hA x
   split at h1
   ·rename_i n hn
    rw[show pe e x = .k n from hn] at h2
    rw[Di,beq_iff_eq] at h1
    rw[← X.ev_den,show x.ev L=n from h2,h1]
   ·cases h1
  ·cases h
 | .ite c a b,s::l,e,L,h,hm,hA=>by
  unfold IV at h
  simp only at h
  split at h
  ·rename_i y z hp
   split at h
   ·rename_i h1
    rcases agP hA hp hm with⟨h3,h4⟩|⟨h3,h4⟩
    ·have:=RI hO ct a y e L h1 h4 hA
     have hE:zg Φ (.ite c a b) L=zg Φ a L:=by rw[zg,h3]
     unfold vU at this ⊢
     rw[hE];exact this
    ·have:=RI hO ct b z e L h h4 hA
     have hE:zg Φ (.ite c a b) L=zg Φ b L:=by rw[zg,h3]
     unfold vU at this ⊢
     rw[hE];exact this
   ·cases h
  ·cases h
 | .call g args base n t,s::l,e,L,h,hm,hA=>by
  unfold IV at h
  simp only at h
  split at h
  ·rename_i m ha
   obtain⟨r,h1,h2,h3⟩:=agQ ha hm
   have hR:=hO g _ r _ h1 (agO hA args)
   have:=RI hO ct t m _ _ h h3 (hA.app hR)
   have hn:Nat.beq (Φ g (args.map (X.den (vT L)))).length n=true:=by rw[hR.len,h2];exact wR.2 rfl
   have hE:zg Φ (.call g args base n t) L=zg Φ t (L++Φ g (args.map (X.den (vT L)))):=by
    rw[zg,Fu,hn]
   unfold vU at this ⊢
   rw[hE];exact this
  ·cases h
 | .stuck _,_::_,_,_,h,_,_=>by cases h
end Go.Proofs.YtemomocmfggiaaaGreatDoor
