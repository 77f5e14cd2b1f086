import Derived.Test.YtippohicjhilnaaGreatDoorZBTr
import Derived.Test.YtippohicjhilnaaGreatDoorZCTr
set_option linter.unusedSimpArgs false
set_option linter.unusedVariables false
set_option maxRecDepth 100000
open Go.Proofs.Tryz
namespace Go.Proofs.YtippohicjhilnaaGreatDoor
open Go.RowKit
def xX (x:SV):X:=match x with | .int _ x=>x|_=>.lit (.ofNat 0)
def Nt (ys:List X):SV:=.agg (ys.map (SV.int .u64))
def CE (C:vI) (fuel:Nat) (g:FuncId) (ct:Ct) (nv:Nat):tL SV :=
 match C.P.funcs[g]? with
 | none=>.stuck "no such function"
 | some fn=>match fn.body with
  | none=>.stuck "no body"
  | some cd=>match Nat.ble ct.a.length fn.ntmps with
   | true=>xq (xD (tO ct.a)) λN=>(exec C fuel cd ⟨N,xO (Ca ct.a (uC 0 (tO ct.a)) 0) fn.ntmps,xh (tO ct.a) (uC 0 (tO ct.a)) 0,nv,[],[]⟩).bind λr=>match r.1 with
    | .normal=>match yw C.P r.2.T r.2.H fn.results.toList with|some rs=>(match Ej r.2.H ct.r rs with|some ys=>.leaf (Nt ys)|none=>.stuck "results: numbers")|none=>.stuck "results"
    | .ret=>match yw C.P r.2.T r.2.H fn.results.toList with|some rs=>(match Ej r.2.H ct.r rs with|some ys=>.leaf (Nt ys)|none=>.stuck "results: numbers")|none=>.stuck "results"
    | _=>.stuck "end"
   | false=>.stuck "arguments"
def ET:List VK->List Value->List Value
 | k::ks,v::vs=>match k with | .nat=>v::ET ks vs|_=>ET ks vs
 | _,_=>[]
section
variable {G:uG} {w:World} {s:ut}
theorem Rq {v:Value} {ks:List VK} {vs:List Value} : ET (.nat::ks) (v::vs)=v::ET ks vs:=rfl
theorem Ux {k:VK} (hk:nN k=0) {v:Value} {ks:List VK} {vs:List Value} : ET (k::ks) (v::vs)=ET ks vs:=by cases k<;>first|rfl|cases hk
theorem Zn {v:Value} : ∀ {ks:List VK} {vs:List Value},v∈ET ks vs->v∈vs
 | [],vs,h=>by cases vs<;>cases h
 | k::ks,[],h=>by cases h
 | k::ks,u::vs,h=>by
  rcases Jf k with⟨rfl,h1⟩|⟨h1,_⟩
  ·rw[Rq] at h;rcases List.mem_cons.1 h with rfl|h
   ·exact List.mem_cons_self
   ·exact List.mem_cons_of_mem _ (Zn h)
  ·rw[Ux h1] at h;exact List.mem_cons_of_mem _ (Zn h)
theorem Uy:∀ {ks:List VK} {vs:List Value},vs.length=ks.length->(ET ks vs).length=xD ks
 | [],vs,h=>by cases vs<;>rfl
 | k::ks,[],h=>by simp at h
 | k::ks,u::vs,h=>by
  have ih:=Uy (ks:=ks) (vs:=vs) (by simpa using h);rcases Jf k with⟨rfl,h1⟩|⟨h1,_⟩
  ·rw[Rq,List.length_cons,ih,xD,h1,Nat.add_comm]
  ·rw[Ux h1,ih,xD,h1,Nat.zero_add]
theorem Nu:∀ {ks:List VK} {xs:List X} {ns:List Int} {fvs:List Value} {h j:Nat} {o:SO},xs.map (X.den s)=xw ks ns->wF w ks ns fvs->hget (xh ks xs h) j=some o ->
  h<=j/\(o.t=none/\Bv o.c=none/\BX o.c=none)/\∃ v,(ET ks fvs)[j-h]? = some v/\Reads w v (uH ((Ed o.c).den s).toNat) (Bu ((Ed o.c).den s).toNat)
 | [],xs,ns,fvs,h,j,o,_,_,hg=>by
  have:xh [] xs h = []:=by cases xs<;>rfl
  rw[this] at hg;cases hg
 | k::ks,[],ns,fvs,h,j,o,hx,hf,hg=>by simp[xh,hget] at hg
 | k::ks,x::xs,[],fvs,h,j,o,hx,hf,hg=>hf.elim
 | k::ks,x::xs,n::ns,[],h,j,o,hx,hf,hg=>hf.elim
 | k::ks,x::xs,n::ns,v::fvs,h,j,o,hx,hf,hg=>by
  simp only[List.map_cons,xw,List.cons.injEq] at hx;rcases Jf k with⟨rfl,h1⟩|⟨h1,_⟩
  ·rw[Uq] at hg;simp only[hget] at hg;rw[Rq];split at hg
   ·rename_i hb;cases hg;have:=vH.1 hb;subst this;refine⟨Nat.le_refl _,⟨rfl,rfl,rfl⟩,v,by simp,?_⟩;have hr:Reads w v (uH n.toNat) (Bu n.toNat):=hf.1;have hxn:(x.den s).toNat=n.toNat:=by rw[hx.1];rfl
    simp only[Ed,hxn];exact hr
   ·obtain⟨h2,h3,u,h4,h5⟩:=Nu hx.2 hf.2 hg;refine⟨by omega,h3,u,?_,h5⟩;rw[show j-h=(j-(h+1))+1 by omega,List.getElem?_cons_succ];exact h4
  ·rw[Ur h1] at hg;rw[Ux h1];exact Nu hx.2 hf.2 hg
theorem Uz:∀ {ks:List VK} {xs:List X} {h j:Nat},xs.length=ks.length->h<=j->j<h+xD ks->∃ o,hget (xh ks xs h) j=some o
 | [],xs,h,j,_,h1,h2=>by rw[xD] at h2;omega
 | k::ks,[],h,j,hl,_,_=>by simp at hl
 | k::ks,x::xs,h,j,hl,h1,h2=>by
  rw[xD] at h2;rcases Jf k with⟨rfl,hk⟩|⟨hk,_⟩
  ·rw[Uq];simp only[hget];by_cases e:h=j
   ·subst e;simp
   ·have:Nat.beq h j=false:=by
     cases hb:Nat.beq h j with
     | false=>rfl
     | true=>exact absurd (vH.1 hb) e
    rw[this];exact Uz (by simpa using hl) (by omega) (by omega)
  ·rw[Ur hk];exact Uz (by simpa using hl) h1 (by omega)
end
theorem anS {G:uG} {w w':World} {B:ve} {e:Env} {H:tZ} (hb:B.blks = []) (R:uO G w B e H w'):tQ w w' :=
 ⟨R.os,R.tape,R.output,R.size,λk hk=>R.old k hk (by rw[hb];simp)⟩
theorem anT {G:uG} {w:World} {s:ut} (hG:Gl G w) {hs:List Sh} {xs:List X} {ns:List Int} {fvs:List Value} (hx:xs.map (X.den s)=xw (tO hs) ns) (hl:xs.length=(tO hs).length) (hf:wF w (tO hs) ns fvs) :
  ∃ B e,B.blks = []/\(∀ j∈B.dom,∀ b,wV (B.env.hnd j)=some b->∃ v∈fvs,wV v=some b)/\uO G w B e (SH.den s (xh (tO hs) xs 0)) w/\AV.vals e (SV.dens s (Ca hs xs 0))=EQ hs fvs:=by
 let nv:=ET (tO hs) fvs;let e:Env:=⟨λ_=>0,λj=>(nv[j]?).getD undef⟩;let B:ve:=⟨[],List.range (xD (tO hs)),e⟩
 have own:∀ k c t,¬ SH.den s (xh (tO hs) xs 0) k=some (.own c t):=by
  intro k c t h;unfold SH.den at h
  cases hg:hget (xh (tO hs) xs 0) k with
  | none=>rw[hg] at h;cases h
  | some o =>
   obtain⟨_,h2,_⟩:=Nu hx hf hg;rw[hg,Option.map_some,SO.den_nat s h2.1 h2.2.1 h2.2.2] at h;cases h
 have rdv:∀ k n l,SH.den s (xh (tO hs) xs 0) k=some (.rd n l)->∃ v,nv[k]? = some v/\e.hnd k=v/\Reads w v n l:=by
  intro k n l h;unfold SH.den at h
  cases hg:hget (xh (tO hs) xs 0) k with
  | none=>rw[hg] at h;cases h
  | some o =>
   obtain⟨_,h2,v,h3,h4⟩:=Nu hx hf hg;rw[hg,Option.map_some,SO.den_nat s h2.1 h2.2.1 h2.2.2] at h;simp only[Option.some.injEq,AO.rd.injEq] at h;rw[<- h.1,<- h.2];refine⟨v,by simpa using h3,?_,h4⟩;show(nv[k]?).getD undef=v;rw[show nv[k]? = some v by simpa using h3];rfl
 have R:uO G w B e (SH.den s (xh (tO hs) xs 0)) w:=by
  refine⟨rfl,rfl,rfl,Nat.le_refl _,λ_ _ _=>rfl,hG,λk c t h=>absurd h (own k c t),λk c t h=>absurd h (own k c t),λk c t h=>absurd h (own k c t),λk c t _ _ _ h=>absurd h (own k c t),?_,λ_ _ _ k c t _ h=>absurd h (own k c t),?_,?_,?_,?_⟩
  ·intro k n l h;obtain⟨v,_,h2,h3⟩:=rdv k n l h;rw[h2];exact h3
  ·intro k o h r hr
   cases o with
   | own c t=>exact absurd h (own k c t)
   | rd n l=>simp[AO.refs] at hr
   | mp es=>simp[AO.refs] at hr
  ·intro k hk;have hk:k<xD (tO hs):=by simpa [B] using hk
   obtain⟨o,ho⟩:=Uz (h:=0) (j:=k) hl (Nat.zero_le _) (by omega);exact⟨YX ho,rfl,rfl⟩
  ·intro k n l h b hb;obtain⟨v,h1,h2,h3⟩:=rdv k n l h;refine .inr ⟨k,?_,hb⟩;show k∈List.range _;rw[List.mem_range,<- Uy (wF.len hf).2];exact(List.getElem?_eq_some_iff.1 h1).1
  ·intro k es h;exfalso;unfold SH.den at h
   cases hg:hget (xh (tO hs) xs 0) k with
   | none=>rw[hg] at h;cases h
   | some o =>
    obtain⟨_,h2,_⟩:=Nu hx hf hg;rw[hg,Option.map_some,SO.den_nat s h2.1 h2.2.1 h2.2.2] at h;cases h
 refine⟨B,e,rfl,?_,R,?_⟩
 ·intro j hj b hb;have hj:j<xD (tO hs):=by simpa [B] using hj
  have hlt:j<nv.length:=by rw[Uy (wF.len hf).2];exact hj
  have:nv[j]? = some nv[j]:=List.getElem?_eq_getElem hlt;have hb2:wV ((nv[j]?).getD undef)=some b:=hb;rw[this] at hb2;exact⟨nv[j],Zn (List.getElem_mem hlt),hb2⟩
 ·rw[Zb e hs xs 0 hl];congr 1
  have key:∀ (ks:List VK) (xs:List X) (ns:List Int) (fvs:List Value) (h:Nat),xs.map (X.den s)=xw ks ns->wF w ks ns fvs->(∀ j v,(ET ks fvs)[j]? = some v->e.hnd (h+j)=v)->AV.vals e (SV.dens s (xg ks xs h))=fvs:=by
   intro ks
   induction ks with
   | nil =>
    intro xs ns fvs h _ hf _;have:fvs = []:=List.eq_nil_of_length_eq_zero (wF.len hf).2;subst this;cases xs<;>rfl
   | cons k ks ih =>
    intro xs ns fvs h hx hf hh
    cases ns with
    | nil=>exact hf.elim
    | cons n ns=>cases fvs with
     | nil=>exact hf.elim
     | cons v fvs=>cases xs with
      | nil=>simp[xw] at hx
      | cons x xs =>
       simp only[List.map_cons,xw,List.cons.injEq] at hx;rw[xg,SV.dens,AV.vals];rcases Jf k with⟨rfl,h1⟩|⟨h1,h2,h3⟩
       ·rw[h1,ih xs ns fvs (h+1) hx.2 hf.2 (λj u hj=>by
         have:=hh (j+1) u (by rw[Rq];simpa using hj)
         rw[<- this];congr 1;omega)]
        congr 1;show De (e.hnd h)=v;have:=hh 0 v (by rw[Rq];rfl);rw[Nat.add_zero] at this;rw[this];exact YU (show Reads w v _ _ from hf.1)
       ·rw[h1,Nat.add_zero,ih xs ns fvs h hx.2 hf.2 (λj u hj=>hh j u (by rw[Ux h1];exact hj)),h2,Rh hx.1];congr 1;exact((h3 w n v).1 hf.1).symm
  refine key _ xs ns fvs 0 hx hf (λj v hj=>?_);show(nv[0+j]?).getD undef=v;rw[Nat.zero_add,show nv[j]? = some v from hj];rfl
theorem anU {s:ut} {hs:List Sh} {xs:List X} (hl:xs.length=(tO hs).length):∀ c∈SV.refss (Ca hs xs 0),SH.den s (xh (tO hs) xs 0) c≠none:=by
 intro c hc;have h1:=Zc hl hc
 have key:∀ (ks:List VK) (xs:List X) (h:Nat),c∈SV.refss (xg ks xs h)->h<=c/\c<h+xD ks:=by
  intro ks
  induction ks with
  | nil=>intro xs h hc;cases xs<;>simp[xg,SV.refss] at hc
  | cons k ks ih =>
   intro xs h hc
   cases xs with
   | nil=>simp[xg,SV.refss] at hc
   | cons x xs =>
    rw[xg,SV.refss] at hc;rw[xD];rcases Jf k with⟨rfl,h1⟩|⟨h1,h2,_⟩
    ·rcases List.mem_append.1 hc with hc|hc
     ·simp[Nk,SV.refs] at hc;subst hc;rw[h1];omega
     ·have:=ih xs _ hc;rw[h1] at this ⊢;omega
    ·rcases List.mem_append.1 hc with hc|hc
     ·rw[h2] at hc;cases k<;>simp[Eh,SV.refs] at hc
     ·have:=ih xs _ hc;rw[h1] at this ⊢;omega
 obtain⟨h2,h3⟩:=key _ _ _ h1;obtain⟨o,ho⟩:=Uz hl h2 h3;exact YX ho
theorem anV {C:vI} {E:vR} {s:ut} (hC:wW C E) {n:Nat} {g:FuncId} {ct:Ct} {nv:Nat} {a:SV} {l:List Int} (h:(CE C n g ct nv).path C.Φ s=some a) (hl:yH s 0 (tO ct.a).length=l) :
  ∃ ys,a=Nt ys/\ys.length=(tO ct.r).length/\F6 C.P C.G g ct l (ys.map (X.den s)):=by
 unfold CE at h;split at h
 ·cases h
 ·rename_i fn hf;split at h
  ·cases h
  ·rename_i cd hb;split at h
   ·rename_i hle;rw[wQ] at h;obtain⟨⟨ex,st⟩,h1,h2⟩:=tL.path_bind_some h;have sp:=(KN (E:=E) (s:=s) hC n).1 _ _ _ _ h1 (λx hx=>by cases hx);obtain⟨v1,v2⟩:=EP s (tO ct.a) 0;rw[hl] at v1
    have uln:∀ (hs:List Sh) (xs:List X) (k:Nat),(Ca hs xs k).length=hs.length:=by
     intro hs
     induction hs with
     | nil=>intro xs k;rfl
     | cons x hs ih=>intro xs k;rw[Ca,List.length_cons,ih,List.length_cons]
    have hx:(ex = .normal\/ex = .ret)/\∃ rs ys,yw C.P st.T st.H fn.results.toList=some rs/\Ej st.H ct.r rs=some ys/\a=Nt ys:=by
     rcases Nq h2 with⟨rfl,h3⟩|⟨rfl,h3⟩
     ·split at h3
      ·rename_i rs hrs;split at h3
       ·rename_i ys hys;cases h3;exact⟨.inl rfl,rs,ys,hrs,hys,rfl⟩
       ·cases h3
      ·cases h3
     ·split at h3
      ·rename_i rs hrs;split at h3
       ·rename_i ys hys;cases h3;exact⟨.inr rfl,rs,ys,hrs,hys,rfl⟩
       ·cases h3
      ·cases h3
    obtain⟨hx,rs,ys,hrs,hys,rfl⟩:=hx;refine⟨ys,rfl,?_,?_⟩
    ·have key:∀ {hs:List Sh} {xs:List SV} {l:List X},Ej st.H hs xs=some l->l.length=(tO hs).length:=by
      have k1:∀ {ks:List VK} {xs:List SV} {l:List X},F5 st.H ks xs=some l->l.length=ks.length:=by
       intro ks
       induction ks with
       | nil=>intro xs l h;cases xs<;>simp[F5] at h;subst h;rfl
       | cons k ks ih =>
        intro xs l h
        cases xs with
        | nil=>cases h
        | cons x xs =>
         simp only[F5] at h;split at h
         ·rename_i a l' _ hl';cases h;simp[ih hl']
         ·cases h
      intro hs
      induction hs with
      | nil=>intro xs l h;cases xs<;>simp[Ej] at h;subst h;rfl
      | cons sh hs ih =>
       intro xs l h
       cases xs with
       | nil=>cases h
       | cons x xs =>
        simp only[Ej] at h;split at h
        ·rename_i p l' ha hl';cases h;have hk:tO (sh::hs)=sh.kinds++tO hs:=by simp[tO]
         rw[List.length_append,ih hl',hk,List.length_append];congr 1;unfold Nj at ha;split at ha
         ·split at ha
          ·cases ha;rfl
          ·cases ha
         ·exact k1 ha
         ·exact k1 ha
         ·cases ha
        ·cases h
     exact key hys
    ·intro w fvs hG hfit;refine DT hf (hC.nm g fn hf (by rw[hb];rfl)) (by rw[hb];rfl) ?_;obtain⟨B,e,hB,hdom,R,hvals⟩:=anT (s:=s) hG v1 v2 hfit;have hlen:(xO (Ca ct.a (uC 0 (tO ct.a)) 0) fn.ntmps).length=fn.ntmps:=Jd _ _ (by rw[uln];exact Nat.le_of_ble_eq_true hle);have hA:=sp.aw w B;simp only[hlen,Np] at hA
     have hbound:BN (SH.den s (xh (tO ct.a) (uC 0 (tO ct.a)) 0)) (xD (tO ct.a)):=by
      intro b hb;unfold SH.den
      cases hg:hget (xh (tO ct.a) (uC 0 (tO ct.a)) 0) b with
      | none=>rfl
      | some o =>
       obtain⟨_,_,v,hv,_⟩:=Nu v1 hfit hg;have:=(List.getElem?_eq_some_iff.1 hv).1;rw[Uy (wF.len hfit).2] at this;omega
     have hcalls:=TJ (E:=E) (args:=SV.dens s (Ca ct.a (uC 0 (tO ct.a)) 0)) (R:=λr H=>H=SH.den s st.H/\r=(resS rs).den s) hf hb (by rw[Cw,uln];exact Nat.le_of_ble_eq_true hle) R hbound (λx hx r hr=>by
      rw[SV.dens_map] at hx;obtain⟨y,hy,rfl⟩:=List.mem_map.1 hx;refine anU v2 r ?_;have:r∈AV.refss (SV.dens s (Ca ct.a (uC 0 (tO ct.a)) 0)):=AV.mem_refss.2 ⟨_,by rw[SV.dens_map];exact List.mem_map_of_mem hy,hr⟩
      exact SV.dens_refs s _ this) (by
      refine AW.mono (show AW _ cd (zu s ex st) _ _ _ from hA) ?_;rintro x N T H ⟨rfl,rfl,rfl,rfl⟩;have hres:=Je (G:=C.G) s hrs;rcases hx with rfl|rfl
      ·exact⟨_,hres,rfl,Jc s rs⟩
      ·exact⟨_,hres,rfl,Jc s rs⟩)
     rw[hvals] at hcalls;refine hcalls.mono ?_;rintro en w' ⟨r,e2,H2,rfl,⟨rfl,rfl⟩,R2⟩;obtain⟨fus,b1,b2,b3⟩:=YW (s:=s) R2 hys (λ_ _=>rfl);refine⟨fus,by rw[aeD,b1],b2,λu hu b hb=>?_,anS hB R2⟩;rcases(b3 u hu).new b hb with h3|⟨j,hj,h3⟩
     ·exact .inl h3
     ·exact .inr (hdom j hj b h3)
   ·cases h
def Nv (a:SV):List X:=match a with | .agg l=>l.map xX|_=>[]
def xx (Φ:wH) (t:tL SV) (l:List Int):List Int:=match yx Φ t l with
 | some (a,l')=>evs l' (Nv a) id
 | none=>[]
def UA:List yR->Nat->Option Ct
 | [],_=>none
 | c::L,id=>match Nat.beq c.id id with|true=>some ⟨c.a ++ [.agg c.ks],c.r⟩|false=>UA L id
theorem aeS:∀ {L:List yR} {id:Nat} {c:Ct},UA L id=some c->∃ s∈L,s.id=id/\c=⟨s.a ++ [.agg s.ks],s.r⟩
 | [],id,c,h=>by cases h
 | s::L,id,c,h=>by
  simp only[UA] at h;split at h
  ·rename_i hb;cases h;exact⟨s,List.mem_cons_self,vH.1 hb,rfl⟩
  ·obtain⟨s',h1,h2⟩:=aeS h;exact⟨s',List.mem_cons_of_mem _ h1,h2⟩
def KP (C:vI):FuncId->Option Ct:=λg=>match C.nt g with|some c=>some c|none=>match C.ct g with|some c=>some c|none=>UA (C.sl (g%1000000)) g
theorem anW {C:vI} {E:vR} (hC:zx C E) {f:FuncId} {c:Ct} (h:KP C f=some c) {l:List Int} (hl:l.length=(tO c.a).length):(C.Φ f l).length=(tO c.r).length:=by
 unfold KP at h;split at h
 ·rename_i c' hc;cases h;exact hC.nt f c hc l hl
 ·split at h
  ·rename_i c' hc;cases h;exact hC.ct f c hc l hl
  ·obtain⟨s,h1,rfl,rfl⟩:=aeS h;exact hC.sl _ s h1 l (by rw[hl];simp[tO,Sh.kinds])
structure Rs (P:Program) (G:uG) (e:uL):Prop where
 two:xD (tO e.ct.r)<=2
 ok:∀ l:List Int,l.length=(tO e.ct.a).length->(e.F l).length=(tO e.ct.r).length/\F6 P G e.g e.ct l (e.F l)
structure wS (P:Program) (G:uG) (e:uL):Prop where
 two:xD (tO e.ct.r)<=2
 ok:∀ l:List Int,l.length=(tO e.ct.a).length->(e.F l).length=(tO e.ct.r).length->F6 P G e.g e.ct l (e.F l)
theorem Rs.c {P:Program} {G:uG} {e:uL} (h:Rs P G e):wS P G e:=⟨h.two,λl hl _=>(h.ok l hl).2⟩
theorem EU {C:vI} {E:vR} (hC:wW C E) (n:Nat) {g:FuncId} {ct:Ct} {t:tL SV} (h2:Nat.ble (xD (tO ct.r)) 2=true) (hp:Nat.blt 0 (tO ct.r).length=true) (h:CE C n g ct (tO ct.a).length=t) (hs:Em (tO ct.a).length t=true) :
  wS C.P C.G ⟨g,ct,xx C.Φ t⟩:=by
 refine⟨Nat.le_of_ble_eq_true h2,λl hl hF=>?_⟩;have hp:0<(tO ct.r).length:=by simpa [Nat.blt_eq] using hp
 have hF:(xx C.Φ t l).length=(tO ct.r).length:=hF
 cases h3:yx C.Φ t l with
 | none=>unfold xx at hF;rw[h3] at hF;simp only[List.length_nil] at hF;omega
 | some q =>
  obtain⟨a,l'⟩:=q;obtain⟨h5,m,rfl⟩:=Jg h3 (by rw[hl];exact hs);rw[<- h] at h5;obtain⟨ys,rfl,h6,h7⟩:=anV hC h5 (l:=l) (by rw[<- hl];exact Ro l m);have hx:Nv (Nt ys)=ys:=by simp[Nv,Nt,xX,Function.comp_def]
  have hE:xx C.Φ t l=ys.map (X.den (ul (l++m))):=by unfold xx;simp only[h3,El,id,hx]
  show F6 C.P C.G g ct l (xx C.Φ t l);rw[hE];exact h7
theorem Jh {C:vI} {E:vR} (hC:zx C E) {ct:Ct} : ∀ {t:tL SV} {l:List Int},CB (KP C) ct l.length t=true->okF C.Φ ct t l
 | .leaf a,l,h=>by obtain⟨xs,hx⟩:=Option.isSome_iff_exists.1 (show(Cy ct.r (ES ct.r a)).isSome=true from h);exact⟨a,l,xs,rfl,hx⟩
 | .ite c a b,l,h=>by
  have h:=vw h;have h2:=vw h.2;unfold okF;simp only[yx]
  cases uk (c.ev l) with
  | true=>exact Jh hC h2.1
  | false=>exact Jh hC h2.2
 | .call f args base m t,l,h=>by
  simp only[CB] at h;split at h
  ·rename_i c hc;have h:=vw h;have h2:=vw h.2;have h3:=vw h2.2;have h4:=vw h3.2;have e1:=vH.1 h3.1;have e2:=vH.1 h4.1;unfold okF;simp only[yx,El];have hl:=anW hC hc (l:=args.map (X.den (ul l))) (by rw[List.length_map];exact e1);rw[hl,e2];simp only[Nat.beq_refl];refine Jh hC ?_;rw[List.length_append,hl,<- e2];exact h4.2
  ·cases h
 | .stuck _,l,h=>by cases h
theorem F7 {C:vI} {E:vR} (hC:zx C E) (n:Nat) {g:FuncId} {ct:Ct} {t:tL SV} (h:uN C n g (uF ct.a (uC 0 (tO ct.a))) (tO ct.a).length=t) (hs:CB (KP C) ct (tO ct.a).length t=true) :
  uz C.P C.G ⟨g,ct,uq C.Φ ct t⟩:=λl hl=>Zm hC.ok h (KO hs) l hl (Jh hC (by rw[hl];exact hs))
def Nw (c:yR):List VK:=tO c.a++c.ks
def Ny (C:vI) (fuel:Nat) (g:FuncId) (c:yR):tL SV :=
 match C.P.funcs[g]? with
 | none=>.stuck "no such function"
 | some fn=>match fn.body with
  | none=>.stuck "no body"
  | some cd=>match Nat.ble (c.a.length+1) fn.ntmps with
   | true=>xq (tO c.a).length λm=>xq (m+c.ks.length) λnv=>(exec C fuel cd ⟨1,xO (uF c.a (uC 0 (tO c.a)) ++ [.sl 0 0 c.n c.n]) fn.ntmps,[(0,⟨Ei c.ks (uC m c.ks),some c.t⟩)],nv,[],[]⟩).bind λr=>match wE 0 r.2.dt with
    | true=>.stuck "the slice is turned"
    | false=>match r.1 with
     | .normal=>(match yw C.P r.2.T r.2.H fn.results.toList with|some rs=>.leaf (resS rs)|none=>.stuck "results")
     | .ret=>(match yw C.P r.2.T r.2.H fn.results.toList with|some rs=>.leaf (resS rs)|none=>.stuck "results")
     | _=>.stuck "end"
   | false=>.stuck "arguments"
theorem Zo (s:ut):∀ (a b k:Nat),yH s k (a+b)=yH s k a++yH s (k+a) b
 | 0,b,k=>by rw[Nat.zero_add];rfl
 | a+1,b,k=>by rw[show a+1+b=(a+b)+1 by omega,yH,Zo s a b (k+1),yH,show k+1+a=k+(a+1) by omega];rfl
theorem anX {C:vI} {E:vR} {s:ut} (hC:wW C E) {n:Nat} {g:FuncId} {c:yR} {a:SV} {l:List Int} {v:Value} (h:(Ny C n g c).path C.Φ s=some a) (hl:yH s 0 (Nw c).length=l) (hv:a.den s = .v v) :
  ∀ w b,Gl C.G w->(∀ x∈C.G,x.1≠b)->w.heap[b]? = some (.cells (uT c.ks (l.drop (tO c.a).length)).toArray c.t (0,0)) ->
  Ae C.P g (uP c.a l ++ [Value.slice (some ⟨b,0,none⟩) c.n c.n]).toArray w λe w'=>e = .returned v/\tQ w w':=by
 intro w b hG hgb hw;unfold Ny at h;split at h
 ·cases h
 ·rename_i fn hf;split at h
  ·cases h
  ·rename_i cd hb;split at h
   ·rename_i hle;rw[wQ,wQ] at h;obtain⟨⟨ex,st⟩,h1,h2⟩:=tL.path_bind_some h;have sp:=(KN (E:=E) (s:=s) hC n).1 _ _ _ _ h1 (λx hx=>by cases hx);have hle:=Nat.le_of_ble_eq_true hle;have hk:(Nw c).length=(tO c.a).length+c.ks.length:=by unfold Nw;rw[List.length_append]
    rw[hk,Zo,Nat.zero_add] at hl;have l1:(yH s 0 (tO c.a).length).length=(tO c.a).length:=GZ _ _ _
    have hd1:l.drop (tO c.a).length=yH s (tO c.a).length c.ks.length:=by rw[<- hl,List.drop_append_of_le_length (by omega),List.drop_of_length_le (by omega)];rfl
    have hd2:uP c.a l=uP c.a (yH s 0 (tO c.a).length):=by rw[<- hl,Zd _ _ _ l1]
    rw[hd1] at hw;rw[hd2];obtain⟨v1,v2⟩:=EP s (tO c.a) 0;obtain⟨u1,u2⟩:=EP s c.ks (tO c.a).length;have a1:=Hg v1 v2;have b1:=Uo u1 u2;have alen:(uF c.a (uC 0 (tO c.a))).length=c.a.length:=by rw[<- Cw s,a1,List.length_map,Nr]
    let e:Env:=⟨λ_=>b,λ_=>undef⟩;let B:ve:=⟨[b],[0],e⟩;let o:SO:=⟨Ei c.ks (uC (tO c.a).length c.ks),some c.t⟩
    have hH:∀ k x,SH.den s [(0,o)] k=some x->k=0/\x = .own (SV.dens s o.c) c.t:=by
     intro k x hx;unfold SH.den at hx;simp only[hget] at hx;split at hx
     ·rename_i hb0;have:=vH.1 hb0;simp only[Option.map_some,Option.some.injEq] at hx;exact⟨this.symm,by rw[<- hx];exact SO.den_own s rfl⟩
     ·cases hx
    have hlt:b<w.heap.size:=(Array.getElem?_eq_some_iff.1 hw).1;have h00:SH.den s [(0,o)] 0=some (.own (SV.dens s o.c) c.t):=SH.den_get rfl rfl
    have R:uO C.G w B e (SH.den s [(0,o)]) w:=by
     refine⟨rfl,rfl,rfl,Nat.le_refl _,λ_ _ _=>rfl,hG,?_,?_,?_,?_,?_,?_,?_,?_,?_,λk es hk=>by have:=(hH k _ hk).2;cases this⟩
     ·intro k c' t hk;obtain⟨rfl,hx⟩:=hH k _ hk;simp only[AO.own.injEq] at hx;rw[hx.1,hx.2,b1,Ay];exact hw
     ·intro k c' t hk;exact .inr (by simp[B,e])
     ·intro k c' t hk x hx;exact hgb x hx
     ·intro k c' t k' c'' t' hk hk' _;rw[(hH k _ hk).1,(hH k' _ hk').1]
     ·intro k n' l' hk;have:=(hH k _ hk).2;cases this
     ·intro k n' l' _ _ _ hk;have:=(hH k _ hk).2;cases this
     ·intro k x hk r hr;obtain⟨_,rfl⟩:=hH k x hk;rw[AO.refs,b1,GH] at hr;simp at hr
     ·intro k hk;have:k=0:=by simpa [B] using hk
      subst this;exact⟨by rw[h00];simp,rfl,rfl⟩
     ·intro k n' l' hk;have:=(hH k _ hk).2;cases this
    have hbound:BN (SH.den s [(0,o)]) 1:=by
     intro k hk
     cases hx:SH.den s [(0,o)] k with
     | none=>rfl
     | some x=>have:=(hH k x hx).1;omega
    have hlen:(xO (uF c.a (uC 0 (tO c.a)) ++ [.sl 0 0 c.n c.n]) fn.ntmps).length=fn.ntmps:=Jd _ _ (by rw[List.length_append,alen];simpa using hle);have hA:=sp.aw w B;simp only[hlen,Np] at hA
    have hx:wE 0 st.dt=false/\(ex = .normal\/ex = .ret)/\∃ rs,yw C.P st.T st.H fn.results.toList=some rs/\resS rs=a:=by
     simp only at h2;split at h2
     ·cases h2
     ·rename_i hdt;refine⟨hdt,?_⟩;rcases Nq h2 with⟨rfl,h3⟩|⟨rfl,h3⟩
      ·split at h3
       ·rename_i rs hrs;cases h3;exact⟨.inl rfl,rs,hrs,rfl⟩
       ·cases h3
      ·split at h3
       ·rename_i rs hrs;cases h3;exact⟨.inr rfl,rs,hrs,rfl⟩
       ·cases h3
    obtain⟨hdt,hx,rs,hrs,he⟩:=hx;refine DT hf (hC.nm g fn hf (by rw[hb];rfl)) (by rw[hb];rfl) ?_
    have hcalls:=TJ (E:=E) (args:=SV.dens s (uF c.a (uC 0 (tO c.a)) ++ [.sl 0 0 c.n c.n])) (R:=λr H=>H=SH.den s st.H/\r = .v v) hf hb (by rw[Cw,List.length_append,alen];simpa using hle) R hbound (λx hx r hr=>by
     rw[IX,a1] at hx;rcases List.mem_append.1 hx with hx|hx
     ·obtain⟨y,_,rfl⟩:=List.mem_map.1 hx;simp[AV.refs] at hr
     ·simp[SV.dens,SV.den] at hx;subst hx;simp[AV.refs] at hr;subst hr
      rw[h00];simp) (by
     refine AW.mono (show AW _ cd (zu s ex st) _ _ _ from hA) ?_;rintro x N T H ⟨rfl,rfl,rfl,rfl⟩;have hres:=Je (G:=C.G) s hrs;have hrv:EH (SV.dens s rs) = .v v:=by rw[Jc,he,hv]
     rcases hx with rfl|rfl
     ·exact⟨_,hres,rfl,hrv⟩
     ·exact⟨_,hres,rfl,hrv⟩)
    have hvals:AV.vals e (SV.dens s (uF c.a (uC 0 (tO c.a)) ++ [.sl 0 0 c.n c.n]))=uP c.a (yH s 0 (tO c.a).length) ++ [Value.slice (some ⟨b,0,none⟩) c.n c.n]:=by rw[IX,TE,a1,Ay];rfl
    rw[hvals] at hcalls;refine hcalls.mono ?_;rintro en w' ⟨r,e2,H2,rfl,⟨rfl,rfl⟩,R2⟩;refine⟨rfl,R2.os,R2.tape,R2.output,R2.size,λk hk=>?_⟩;by_cases hkb:k=b
    ·subst hkb;have hg:hget st.H 0=some o:=(sp.dt 0 hdt).2.trans rfl;have hown:=R2.own 0 _ _ (SH.den_get hg rfl);have henv:=(R2.env 0 (by simp[B])).2.1;have henv:e2.blk 0=k:=henv;rw[henv,b1,Ay] at hown;rw[hown,hw]
    ·exact R2.old k hk (by simpa [B] using hkb)
   ·cases h
structure wY where
 g:FuncId
 c:yR
 F:List Int->List Int
structure F8 (P:Program) (G:uG) (e:wY):Prop where
 ok:∀ l:List Int,l.length=(Nw e.c).length->(e.F l).length=(tO e.c.r).length/\Us P G e.g e.c l (e.F l)
theorem Zp {C:vI} {E:vR} (hC:zx C E) (n:Nat) {g:FuncId} {c:yR} {t:tL SV} (h:Ny C n g c=t) (hs:CB (KP C) ⟨c.a,c.r⟩ (Nw c).length t=true) :
  F8 C.P C.G ⟨g,c,uq C.Φ ⟨c.a,c.r⟩ t⟩:=by
 refine⟨λl hl=>?_⟩;obtain ho:=Jh hC (ct:=⟨c.a,c.r⟩) (t:=t) (l:=l) (by rw[hl];exact hs);refine⟨Uu ho,?_⟩;obtain⟨a,l',xs,h1,h2⟩:=ho;obtain⟨h3,m,rfl⟩:=Jg h1 (by rw[hl];exact KO hs);rw[<- h] at h3;have hf:=Jb (ul (l++m)) h2;have hF:uq C.Φ ⟨c.a,c.r⟩ t l=xs.map (X.den (ul (l++m))):=by unfold uq;simp only[h1,h2,El,id]
 have hv:=Uv hf.1 (Nr _ _);have:=anX hC.ok h3 (l:=l) (by rw[<- hl];exact Ro l m) hv;intro w b hG hgb hw;show Ae C.P g _ w λe w'=>e = .returned (vP (uP c.r (uq C.Φ ⟨c.a,c.r⟩ t l)))/\tQ w w'
 rw[hF];exact this w b hG hgb hw
structure UB (P:Program) (G:uG) (e:wY):Prop where
 ok:∀ l:List Int,l.length=(Nw e.c).length->(e.F l).length=(tO e.c.r).length->Us P G e.g e.c l (e.F l)
theorem F8.c {P:Program} {G:uG} {e:wY} (h:F8 P G e):UB P G e:=⟨λl hl _=>(h.ok l hl).2⟩
def Zq:Value->Value->Option Bool
 | .agg xs,.agg ys=>match xs.toList,ys.toList with
  | [.int .u64 a,.int .u64 b],[.int .u64 c,.int .u64 d]=>some (a==c&&b==d)
  | _,_=>none
 | _,_=>none
def Zr:Value->Value->Option Bool
 | .agg xs,.agg ys=>match xs.toList,ys.toList with
  | [.int .u64 a,.int .u64 b,.int .u64 c,.int .u64 d],[.int .u64 a',.int .u64 b',.int .u64 c',.int .u64 d']=>some (a==a'&&(b==b'&&(c==c'&&d==d')))
  | _,_=>none
 | _,_=>none
def Zt:Value->Value->Option Bool
 | .agg xs,.agg ys=>match xs.toList,ys.toList with
  | [.int .u64 a,.int .u64 b,.int .u8 c],[.int .u64 a',.int .u64 b',.int .u8 c']=>some ((a==a'&&b==b')&&c==c')
  | _,_=>none
 | _,_=>none
def Zu:Value->Value->Option Bool
 | .func _ _ _,.nilFunc=>some false
 | .nilFunc,.nilFunc=>some true
 | _,_=>none
def Rt:Value->Value->Option Bool
 | .agg xs,.agg ys=>match xs.toList,ys.toList with
  | [.int .i64 a,.int .u64 b,.int .u64 c,.int .u8 d],[.int .i64 a',.int .u64 b',.int .u64 c',.int .u8 d']=>some (a==a'&&((b==b'&&c==c')&&d==d'))
  | _,_=>none
 | _,_=>none
def outT (t:TypeId):Bool :=
 Nat.beq t 41 ||
  false
def Ji (t:TypeId) (x y:Value):Option Bool :=
 if t=25 then Zq x y else if t=188 then Zr x y else if t=51 then Zt x y else if t=27 then Zu x y else none
def F9 (t:TypeId) (x y:Value):Option Bool:=match outT t with|true=>Rt x y|false=>Ji t x y
def eE:vR:=λop t x y=>match op with
 | .eql=>match F9 t x y with|some b=>some (.bool b)|none=>none
 | .neq=>match F9 t x y with|some b=>some (.bool (!b))|none=>none
 | _=>none
theorem Ru (w:World) {k:IntKind} {e:TypeId} (hu:prog.underlying e=some (.int k)) (xs:Array Value) (i:Nat) (v:Value) (h:xs[i]? = some v):(part e xs i).run prog w = .ok v w:=by simp[part,isAgg,run_underlying hu,h]
theorem anY:(prog.fieldsOf 25).toList.map (λf=>(f.name != "_",f.offset,f.type)) = [(true,0,23),(true,1,23)]:=by kernel_rfl
theorem anZ:(prog.fieldsOf 51).toList.map (λf=>(f.name != "_",f.offset,f.type)) = [(true,0,25),(true,2,39)]:=by kernel_rfl
theorem Zv (w:World) (n:Nat) (a b c d:Int):(Op.equalIn (n+2) 25 (.agg #[.int .u64 a,.int .u64 b]) (.agg #[.int .u64 c,.int .u64 d])).run prog w = .ok (a==c&&b==d) w:=by
 have hu:prog.underlying 23=some (.int .u64):=by kernel_rfl
 rw[run_equalIn_struct w (n+1) _ _ _ (by kernel_rfl) (by kernel_rfl)]
 obtain⟨f0,f1,hf,h0,h1⟩:∃ f0 f1:Field,(prog.fieldsOf 25).toList = [f0,f1]/\(f0.name ≠ "_" /\ f0.offset=0/\f0.type=23)/\(f1.name ≠ "_" /\ f1.offset=1/\f1.type=23):=by
  have:=anY
  match hl:(prog.fieldsOf 25).toList with
  | [f0,f1]=>rw[hl] at this;simp at this;exact⟨f0,f1,rfl,⟨by simpa using this.1.1,this.1.2.1,this.1.2.2⟩,⟨by simpa using this.2.1,this.2.2.1,this.2.2.2⟩⟩
  | []=>rw[hl] at this;simp at this
  | [_]=>rw[hl] at this;simp at this
  | _::_::_::_=>rw[hl] at this;simp at this
 rw[hf];have p0 (x y:Value):(part 23 #[x,y] 0).run prog w = .ok x w:=Ru w hu _ _ _ rfl;have p1 (x y:Value):(part 23 #[x,y] 1).run prog w = .ok y w:=Ru w hu _ _ _ rfl;have q (x y:Int):(Op.equalIn (n+1) 23 (.int .u64 x) (.int .u64 y)).run prog w = .ok (x==y) w:=run_equalIn_int w n _ .u64 .u64 x y hu;simp only[Op.eqFields,h0.1,h0.2.1,h0.2.2,h1.1,h1.2.1,h1.2.2,ne_eq,not_true_eq_false,not_false_eq_true,if_true,Sem.run_bind,p0,p1,q,Result.andThen_ok];cases (a==c)<;>cases hbd:(b==d)<;>simp[p1,q,hbd,Op.eqFields]
theorem an0 (w:World) (a b a' b' c c':Int):(Op.equalIn 10000 51 (.agg #[.int .u64 a,.int .u64 b,.int .u8 c]) (.agg #[.int .u64 a',.int .u64 b',.int .u8 c'])).run prog w = .ok ((a==a'&&b==b')&&c==c') w:=by
 have hu:prog.underlying 39=some (.int .u8):=by kernel_rfl
 rw[run_equalIn_struct w 9999 _ _ _ (by kernel_rfl) (by kernel_rfl)]
 obtain⟨f0,f1,hf,h0,h1⟩:∃ f0 f1:Field,(prog.fieldsOf 51).toList = [f0,f1]/\(f0.name ≠ "_" /\ f0.offset=0/\f0.type=25)/\(f1.name ≠ "_" /\ f1.offset=2/\f1.type=39):=by
  have:=anZ
  match hl:(prog.fieldsOf 51).toList with
  | [f0,f1]=>rw[hl] at this;simp at this;exact⟨f0,f1,rfl,⟨by simpa using this.1.1,this.1.2.1,this.1.2.2⟩,⟨by simpa using this.2.1,this.2.2.1,this.2.2.2⟩⟩
  | []=>rw[hl] at this;simp at this
  | [_]=>rw[hl] at this;simp at this
  | _::_::_::_=>rw[hl] at this;simp at this
 rw[hf]
 have p0 (x y z:Value):(part 25 #[x,y,z] 0).run prog w = .ok (.agg #[x,y]) w:=by simp[part,Mo (P:=prog) (t:=25) (b:=true) (by kernel_rfl),run_sizeOf (P:=prog) (t:=25) (s:=2) (by kernel_rfl)]
 have p1 (x y z:Value):(part 39 #[x,y,z] 2).run prog w = .ok z w:=Ru w hu _ _ _ rfl;have q (x y:Int):(Op.equalIn 9999 39 (.int .u8 x) (.int .u8 y)).run prog w = .ok (x==y) w:=run_equalIn_int w 9998 _ .u8 .u8 x y hu;have qb:=Zv w 9997 a b a' b';simp only[Op.eqFields,h0.1,h0.2.1,h0.2.2,h1.1,h1.2.1,h1.2.2,ne_eq,not_true_eq_false,not_false_eq_true,if_true,Sem.run_bind,p0,p1,q,qb,Result.andThen_ok];cases (a==a'&&b==b')<;>cases hcd:(c==c')<;>simp[p1,q,hcd,Op.eqFields]
theorem an1 (w:World) (a b c d a' b' c' d':Int):(Op.equalIn 10000 188 (.agg #[.int .u64 a,.int .u64 b,.int .u64 c,.int .u64 d]) (.agg #[.int .u64 a',.int .u64 b',.int .u64 c',.int .u64 d'])).run prog w = .ok (a==a'&&(b==b'&&(c==c'&&d==d'))) w:=by
 have hu:prog.underlying 23=some (.int .u64):=by kernel_rfl
 obtain⟨i,hi⟩:∃ i,prog.info? 23=some i:=Option.isSome_iff_exists.1 (by kernel_rfl);rw[run_equalIn_array (P:=prog) (w:=w) (d:=9999) (e:=23) (n:=4) _ _ (by kernel_rfl) hi];rw[show prog.cellsOf 23=1 by kernel_rfl,show List.range 4 = [0,1,2,3] by decide];have p0 (x0 x1 x2 x3:Value):(part 23 #[x0,x1,x2,x3] 0).run prog w = .ok x0 w:=TK w hu _ _ _ rfl;have p1 (x0 x1 x2 x3:Value):(part 23 #[x0,x1,x2,x3] 1).run prog w = .ok x1 w:=TK w hu _ _ _ rfl;have p2 (x0 x1 x2 x3:Value):(part 23 #[x0,x1,x2,x3] 2).run prog w = .ok x2 w:=TK w hu _ _ _ rfl;have p3 (x0 x1 x2 x3:Value):(part 23 #[x0,x1,x2,x3] 3).run prog w = .ok x3 w:=TK w hu _ _ _ rfl;have q (x y:Int):(Op.equalIn 9999 23 (.int .u64 x) (.int .u64 y)).run prog w = .ok (x==y) w:=run_equalIn_int w 9998 _ .u64 .u64 x y hu;simp only[Op.eqItems,Sem.run_bind,Nat.mul_one];rw[p0,Result.andThen_ok,p0,Result.andThen_ok,q,Result.andThen_ok];cases (a==a')
 ·rfl
 rw[if_neg (by decide)];simp only[Sem.run_bind];rw[p1,Result.andThen_ok,p1,Result.andThen_ok,q,Result.andThen_ok];cases (b==b')
 ·rfl
 rw[if_neg (by decide)];simp only[Sem.run_bind];rw[p2,Result.andThen_ok,p2,Result.andThen_ok,q,Result.andThen_ok];cases (c==c')
 ·rfl
 rw[if_neg (by decide)];simp only[Sem.run_bind];rw[p3,Result.andThen_ok,p3,Result.andThen_ok,q,Result.andThen_ok];cases (d==d')
 ·rfl
 rfl
theorem an2:(prog.fieldsOf 41).toList.map (λf=>(f.name != "_",f.offset,f.type)) = [(true,0,38),(true,1,25),(true,3,39)]:=by kernel_rfl
theorem an3 (w:World) (a b c d a' b' c' d':Int):(Op.equalIn 10000 41 (.agg #[.int .i64 a,.int .u64 b,.int .u64 c,.int .u8 d]) (.agg #[.int .i64 a',.int .u64 b',.int .u64 c',.int .u8 d'])).run prog w = .ok (a==a'&&((b==b'&&c==c')&&d==d')) w:=by
 have hu:prog.underlying 39=some (.int .u8):=by kernel_rfl
 have he:prog.underlying 38=some (.int .i64):=by kernel_rfl
 rw[run_equalIn_struct w 9999 _ _ _ (by kernel_rfl) (by kernel_rfl)]
 obtain⟨f0,f1,f2,hf,h0,h1,h2⟩:∃ f0 f1 f2:Field,(prog.fieldsOf 41).toList = [f0,f1,f2]/\(f0.name ≠ "_" /\ f0.offset=0/\f0.type=38)/\(f1.name ≠ "_" /\ f1.offset=1/\f1.type=25)/\(f2.name ≠ "_" /\ f2.offset=3/\f2.type=39):=by
  have:=an2
  match hl:(prog.fieldsOf 41).toList with
  | [f0,f1,f2]=>rw[hl] at this;simp at this;exact⟨f0,f1,f2,rfl,⟨by simpa using this.1.1,this.1.2.1,this.1.2.2⟩,⟨by simpa using this.2.1.1,this.2.1.2.1,this.2.1.2.2⟩,⟨by simpa using this.2.2.1,this.2.2.2.1,this.2.2.2.2⟩⟩
  | []=>rw[hl] at this;simp at this
  | [_]=>rw[hl] at this;simp at this
  | [_,_]=>rw[hl] at this;simp at this
  | _::_::_::_::_=>rw[hl] at this;simp at this
 rw[hf];have p0 (x y z u:Value):(part 38 #[x,y,z,u] 0).run prog w = .ok x w:=Ru w he _ _ _ rfl
 have p1 (x y z u:Value):(part 25 #[x,y,z,u] 1).run prog w = .ok (.agg #[y,z]) w:=by simp[part,Mo (P:=prog) (t:=25) (b:=true) (by kernel_rfl),run_sizeOf (P:=prog) (t:=25) (s:=2) (by kernel_rfl)]
 have p2 (x y z u:Value):(part 39 #[x,y,z,u] 3).run prog w = .ok u w:=Ru w hu _ _ _ rfl;have q0 (x y:Int):(Op.equalIn 9999 38 (.int .i64 x) (.int .i64 y)).run prog w = .ok (x==y) w:=run_equalIn_int w 9998 _ .i64 .i64 x y he;have q2 (x y:Int):(Op.equalIn 9999 39 (.int .u8 x) (.int .u8 y)).run prog w = .ok (x==y) w:=run_equalIn_int w 9998 _ .u8 .u8 x y hu;have qb:=Zv w 9997 b c b' c';simp only[Op.eqFields,h0.1,h0.2.1,h0.2.2,h1.1,h1.2.1,h1.2.2,h2.1,h2.2.1,h2.2.2,ne_eq,not_true_eq_false,not_false_eq_true,if_true,Sem.run_bind,p0,p1,p2,q0,q2,qb,Result.andThen_ok];cases hab:(a==a')
 ·simp
 ·cases hbc:(b==b'&&c==c')<;>cases hdd:(d==d')<;>simp[p0,p1,p2,q0,q2,qb,hbc,hdd,Op.eqFields]
theorem an4 {t:TypeId} {x y:Value} {b:Bool} (ht:outT t=true) (h:Rt x y=some b) (w:World):(∀ op xo yo,(eqGuard op t xo yo x y).run prog w = .ok () w)/\(binOp .eql t x y).run prog w = .ok (.bool b) w/\(binOp .neq t x y).run prog w = .ok (.bool (!b)) w:=by
 have ht2:t=41:=by unfold outT at ht;rw[Bool.or_false] at ht;exact vH.1 ht
 subst ht2
 have agg:∀ (xs ys:Array Value),prog.eqGuardType prog.depth 41=false->(Op.equalIn 10000 41 (.agg xs) (.agg ys)).run prog w = .ok b w ->
   (∀ op xo yo,(eqGuard op 41 xo yo (.agg xs) (.agg ys)).run prog w = .ok () w)/\(binOp .eql 41 (.agg xs) (.agg ys)).run prog w = .ok (.bool b) w/\(binOp .neq 41 (.agg xs) (.agg ys)).run prog w = .ok (.bool (!b)) w:=by
  intro xs ys hg he;refine⟨λop xo yo=>run_eqGuard_agg w op _ xo yo xs ys hg,?_,?_⟩
  ·rw[run_eql_struct,he];rfl
  ·rw[run_neq_struct,he];rfl
 have lst:∀ {xs:Array Value} {l:List Value},xs.toList=l->xs=l.toArray:=λh=>by rw[<- h]
 unfold Rt at h;split at h
 ·split at h
  ·rename_i h1 h2;cases h;rw[lst h1,lst h2];exact agg _ _ (by kernel_rfl) (an3 w _ _ _ _ _ _ _ _)
  ·cases h
 ·cases h
theorem an5 {t:TypeId} {x y:Value} {b:Bool} (h:Ji t x y=some b) (w:World):(∀ op xo yo,(eqGuard op t xo yo x y).run prog w = .ok () w)/\(binOp .eql t x y).run prog w = .ok (.bool b) w/\(binOp .neq t x y).run prog w = .ok (.bool (!b)) w:=by
 have agg:∀ (xs ys:Array Value),prog.eqGuardType prog.depth t=false->(Op.equalIn 10000 t (.agg xs) (.agg ys)).run prog w = .ok b w ->
   (∀ op xo yo,(eqGuard op t xo yo (.agg xs) (.agg ys)).run prog w = .ok () w)/\(binOp .eql t (.agg xs) (.agg ys)).run prog w = .ok (.bool b) w/\(binOp .neq t (.agg xs) (.agg ys)).run prog w = .ok (.bool (!b)) w:=by
  intro xs ys hg he;refine⟨λop xo yo=>run_eqGuard_agg w op t xo yo xs ys hg,?_,?_⟩
  ·rw[run_eql_struct,he];rfl
  ·rw[run_neq_struct,he];rfl
 have lst:∀ {xs:Array Value} {l:List Value},xs.toList=l->xs=l.toArray:=λh=>by rw[<- h]
 unfold Ji at h;split at h
 ·rename_i ht;subst ht;unfold Zq at h;split at h
  ·split at h
   ·rename_i h1 h2;cases h;rw[lst h1,lst h2];exact agg _ _ (by kernel_rfl) (Zv w 9998 _ _ _ _)
   ·cases h
  ·cases h
 ·split at h
  ·rename_i ht;subst ht;unfold Zr at h;split at h
   ·split at h
    ·rename_i h1 h2;cases h;rw[lst h1,lst h2];exact agg _ _ (by kernel_rfl) (an1 w _ _ _ _ _ _ _ _)
    ·cases h
   ·cases h
  ·split at h
   ·rename_i ht;subst ht;unfold Zt at h;split at h
    ·split at h
     ·rename_i h1 h2;cases h;rw[lst h1,lst h2];exact agg _ _ (by kernel_rfl) (an0 w _ _ _ _ _ _)
     ·cases h
    ·cases h
   ·split at h
    ·rename_i ht;subst ht;have hu:=underlying27;unfold Zu at h;split at h
     ·cases h;refine⟨λop xo yo=>by cases op<;>rfl,?_,?_⟩
      ·simp only[binOp];simp[Op.equal,Op.maxDepth];show((Op.equalIn (9999+1) _ _ _).run _ w).andThen _=_;rw[Op.equalIn];simp[run_underlying hu]
      ·simp only[binOp];simp[Op.equal,Op.maxDepth];show((Op.equalIn (9999+1) _ _ _).run _ w).andThen _=_;rw[Op.equalIn];simp[run_underlying hu]
     ·cases h;refine⟨λop xo yo=>by cases op<;>rfl,?_,?_⟩
      ·simp only[binOp];simp[Op.equal,Op.maxDepth];show((Op.equalIn (9999+1) _ _ _).run _ w).andThen _=_;rw[Op.equalIn];simp[run_underlying hu]
      ·simp only[binOp];simp[Op.equal,Op.maxDepth];show((Op.equalIn (9999+1) _ _ _).run _ w).andThen _=_;rw[Op.equalIn];simp[run_underlying hu]
     ·cases h
    ·cases h
theorem Zw {t:TypeId} {x y:Value} {b:Bool} (h:F9 t x y=some b) (w:World):(∀ op xo yo,(eqGuard op t xo yo x y).run prog w = .ok () w)/\(binOp .eql t x y).run prog w = .ok (.bool b) w/\(binOp .neq t x y).run prog w = .ok (.bool (!b)) w:=by
 unfold F9 at h;split at h
 ·rename_i ht;exact an4 ht h w
 ·exact an5 h w
theorem UC {t:TypeId} (ho:outT t=false) (x y:Value):F9 t x y=Ji t x y:=by unfold F9;rw[ho]
theorem an6 {t:TypeId} (ho:outT t=true) (x y:Value):F9 t x y=Rt x y:=by unfold F9;rw[ho]
theorem Zx:GJ prog eE:=by
 intro op t x y v h xo yo w;unfold eE at h;split at h
 ·split at h
  ·rename_i b hb;cases h;obtain⟨h1,h2,h3⟩:=Zw hb w;simp only[Sem.run_bind,h1,h2,Result.andThen_ok]
  ·cases h
 ·split at h
  ·rename_i b hb;cases h;obtain⟨h1,h2,h3⟩:=Zw hb w;simp only[Sem.run_bind,h1,h3,Result.andThen_ok]
  ·cases h
 ·cases h
def yT:List IntKind->List SV->List SV->Option X
 | [],[],[]=>some (.lit (.ofNat 1))
 | k::ks,.int k1 a::l,.int k2 b::m=>match yO k k1,yO k k2,yT ks l m with
  | true,true,some r=>some (mkAnd (xu .eql k a b) r)
  | _,_,_=>none
 | _,_,_=>none
def KQ:List IntKind->List Int->List Value
 | k::ks,n::ns=>.int k n::KQ ks ns
 | _,_=>[]
def Jj:List Int->List Int->Bool
 | a::us,b::zs=>a==b&&Jj us zs
 | _,_=>true
theorem aeT (s:ut):∀ {ks:List IntKind} {l m:List SV} {r:X},yT ks l m=some r->∃ us zs:List Int,SV.dens s l=(KQ ks us).map .v/\SV.dens s m=(KQ ks zs).map .v/\us.length=ks.length/\zs.length=ks.length/\(r.den s != 0)=Jj us zs
 | [],[],[],r,h=>by cases h;exact⟨[],[],rfl,rfl,rfl,rfl,rfl⟩
 | k::ks,.int k1 a::l,.int k2 b::m,r,h=>by
  simp only[yT] at h;split at h
  ·rename_i q h1 h2 h3;cases h;have h1:=Az h1;have h2:=Az h2;subst h1;subst h2;obtain⟨us,zs,e1,e2,e3,e4,e5⟩:=aeT s h3;refine⟨a.den s::us,b.den s::zs,?_,?_,by simp[e3],by simp[e4],?_⟩
   ·rw[SV.dens,e1];rfl
   ·rw[SV.dens,e2];rfl
   ·rw[amL,xe,IQ,e5];simp only[uA,xe,Jj]
  ·cases h
 | [],[],_::_,r,h=>by simp[yT] at h
 | [],_::_,_,r,h=>by simp[yT] at h
 | _::_,[],_,r,h=>by simp[yT] at h
 | _::_,.int _ _::_,[],r,h=>by simp[yT] at h
 | _::_,.int _ _::_,.v _::_,r,h=>by simp[yT] at h
 | _::_,.int _ _::_,.bool _::_,r,h=>by simp[yT] at h
 | _::_,.int _ _::_,.loc _ _::_,r,h=>by simp[yT] at h
 | _::_,.int _ _::_,.sl _ _ _ _::_,r,h=>by simp[yT] at h
 | _::_,.int _ _::_,.fn _ _ _::_,r,h=>by simp[yT] at h
 | _::_,.int _ _::_,.tup _::_,r,h=>by simp[yT] at h
 | _::_,.int _ _::_,.agg _::_,r,h=>by simp[yT] at h
 | _::_,.v _::_,_,r,h=>by simp[yT] at h
 | _::_,.bool _::_,_,r,h=>by simp[yT] at h
 | _::_,.loc _ _::_,_,r,h=>by simp[yT] at h
 | _::_,.sl _ _ _ _::_,_,r,h=>by simp[yT] at h
 | _::_,.fn _ _ _::_,_,r,h=>by simp[yT] at h
 | _::_,.tup _::_,_,r,h=>by simp[yT] at h
 | _::_,.agg _::_,_,r,h=>by simp[yT] at h
def UD:SV->Option (List SV)
 | .agg l=>some l
 | .v (.agg cs)=>some (cs.toList.map AA)
 | _=>none
theorem aeU {s:ut} {x:SV} {l:List SV} {vs:List Value} (h:UD x=some l) (hd:SV.dens s l=vs.map .v):x.den s = .v (.agg vs.toArray):=by
 unfold UD at h;split at h
 ·cases h;simp only[SV.den,hd,TS]
 ·rename_i cs;cases h;rw[Ec] at hd;have:=congrArg wJ hd;rw[IU,IU] at this;have:=Option.some.inj this;simp only[SV.den,<- this]
 ·cases h
def UE:SV->Option (Option Value)
 | .v .nilFunc=>some none
 | .v (.func f a c)=>some (some (.func f a c))
 | .fn f [] []=>some (some (.func f #[] #[]))
 | _=>none
def aeV (t:TypeId):Option (List IntKind):=match outT t with
 | true=>some [.i64,.u64,.u64,.u8]
 | false=>match Nat.beq t 25 with
 | true=>some [.u64,.u64]
 | false=>match Nat.beq t 188 with
  | true=>some [.u64,.u64,.u64,.u64]
  | false=>match Nat.beq t 51 with
   | true=>some [.u64,.u64,.u8]
   | false=>none
def Rv:Nc:=λt x y=>match aeV t with
 | some ks=>match UD x,UD y with
  | some l,some m=>yT ks l m
  | _,_=>none
 | none=>match Nat.beq t 27 with
  | true=>match UE x,UE y with
   | some (some _),some none=>some (.lit (.ofNat 0))
   | some none,some none=>some (.lit (.ofNat 1))
   | _,_=>none
  | false=>none
theorem Zy:Ud prog Rv eE:=by
 intro t x y r s h;unfold Rv at h;have pb:∀ (u v:List Value) op,zn prog op t (.agg u.toArray) (.agg v.toArray)=none:=λu v op=>rfl
 have fin:∀ (a b:Value) (q:Bool),zn prog .eql t a b=none->zn prog .neq t a b=none->F9 t a b=some q->x.den s = .v a->y.den s = .v b->(r.den s != 0)=q ->
   ∃ a b,x.den s = .v a/\y.den s = .v b/\zn prog .eql t a b=none/\zn prog .neq t a b=none/\eE .eql t a b=some (.bool (r.den s != 0))/\eE .neq t a b=some (.bool (!(r.den s != 0))):=λa b q h1 h2 h3 h4 h5 h6 =>
  ⟨a,b,h4,h5,h1,h2,by simp only[eE,h3,h6],by simp only[eE,h3,h6]⟩
 split at h
 ·rename_i ks hk;split at h
  ·rename_i l m hl hm;obtain⟨us,zs,e1,e2,e3,e4,e5⟩:=aeT s h;have hx:=aeU hl e1;have hy:=aeU hm e2;refine fin _ _ (Jj us zs) (pb _ _ _) (pb _ _ _) ?_ hx hy e5;unfold aeV at hk;split at hk
   ·rename_i ho;cases hk
    match us,zs,e3,e4 with
    | [a,b,c,d],[a',b',c',d'],_,_ =>
     rw[an6 ho];simp only[Rt,KQ,Jj,Bool.and_true,Bool.and_assoc]
   rename_i ho;split at hk
   ·rename_i ht;cases hk;have ht:=vH.1 ht
    match us,zs,e3,e4 with
    | [a,b],[c,d],_,_ =>
     rw[UC ho];unfold Ji;rw[if_pos ht];simp only[Zq,KQ,Jj,Bool.and_true]
   ·rename_i ht0;split at hk
    ·rename_i ht;cases hk;have ht:=vH.1 ht
     match us,zs,e3,e4 with
     | [a,b,c,d],[a',b',c',d'],_,_ =>
      rw[UC ho];unfold Ji;rw[if_neg (λe=>by rw[e] at ht0;simp at ht0),if_pos ht];simp only[Zr,KQ,Jj,Bool.and_true]
    ·rename_i ht1;split at hk
     ·rename_i ht;cases hk;have ht:=vH.1 ht
      match us,zs,e3,e4 with
      | [a,b,c],[a',b',c'],_,_ =>
       rw[UC ho];unfold Ji;rw[if_neg (λe=>by rw[e] at ht0;simp at ht0),if_neg (λe=>by rw[e] at ht1;simp at ht1),if_pos ht];simp only[Zt,KQ,Jj,Bool.and_true,Bool.and_assoc]
     ·cases hk
  ·cases h
 ·split at h
  ·rename_i hk ht;have ht:=vH.1 ht
   have hf:∀ {z:SV} {o:Option Value},UE z=some o->z.den s = .v (match o with|none=>.nilFunc|some v=>v)/\∀ v,o=some v->∃ f a c,v = .func f a c:=λ{z} {o} hz=>by
    unfold UE at hz;split at hz
    ·cases hz;exact⟨rfl,λv hv=>by cases hv⟩
    ·cases hz;exact⟨rfl,λv hv=>by cases hv;exact⟨_,_,_,rfl⟩⟩
    ·cases hz;exact⟨rfl,λv hv=>by cases hv;exact⟨_,_,_,rfl⟩⟩
    ·cases hz
   have hne:t≠25/\t≠188/\t≠51:=by rw[ht];decide
   have ho:outT t=false:=by rw[ht];rfl
   have at':∀ a b,F9 t a b=Zu a b:=λa b=>by rw[UC ho];unfold Ji;rw[if_neg hne.1,if_neg hne.2.1,if_neg hne.2.2,if_pos ht]
   split at h
   ·rename_i v h1 h2;cases h;obtain⟨hx,hv⟩:=hf h1;obtain⟨hy,_⟩:=hf h2;obtain⟨f,a,c,rfl⟩:=hv v rfl;exact fin _ _ false rfl rfl (by rw[at'];rfl) hx hy rfl
   ·rename_i h1 h2;cases h;obtain⟨hx,_⟩:=hf h1;obtain⟨hy,_⟩:=hf h2;exact fin _ _ true rfl rfl (by rw[at'];rfl) hx hy rfl
   ·cases h
  ·cases h
noncomputable def cE:vI:=⟨prog,gG,Rv,λ_=>none,λ_ _=>[],λ_=>none,λ_=>[]⟩
theorem an7:(prog.funcs.toList.all λfn=>fn.body.isNone || !(fn.name == "runtime.NumGoroutine"))=true:=by kernel_rfl
theorem UF:wW cE eE:=by
 refine⟨Zy,Zx,by kernel_rfl,?_,λg ct h=>(by cases h),λg ct h=>(by cases h),λg c h=>(by cases h)⟩;intro g fn hf hb;have h:=List.all_eq_true.1 an7 fn (Array.mem_toList_iff.2 (Array.mem_of_getElem? hf));rw[Bool.or_eq_true] at h;rcases h with h|h
 ·rw[Option.isNone_iff_eq_none] at h;rw[h] at hb;cases hb
 ·simpa using h
abbrev kU:VK:=.int .u64
abbrev kI:VK:=.int .i64
abbrev kB:VK:=.int .u8
abbrev Dn:Sh:=.agg [kU,kU,kU,kU]
def u64 (n:Int):Int:=xJ .u64 n
theorem Cb (n:Int):xU (u64 n):=by unfold u64;rw[wP];show 0<=_/\_<(18446744073709551616:Int);unfold IntKind.wrap IntKind.bits IntKind.signed;simp;omega
theorem Zz {n:Int} (h:xU n):IntKind.u64.wrap n=n:=by have h1:=h.1;have h2:n<18446744073709551616:=h.2;unfold IntKind.wrap IntKind.bits IntKind.signed;simp;omega
def wT (n:Int):Int:=ui (uk n)
theorem ZA (n:Int):0<=wT n/\wT n<=1:=by unfold wT;cases uk n<;>decide
theorem UG {n:Int} (h:0<=n/\n<=1):ui (n != 0)=n:=by rcases(show n=0\/n=1 by omega) with rfl|rfl<;>rfl
theorem Ga (n:Int):wB kU n = .int .u64 (u64 n):=by simp only[wB,u64,wP]
theorem aeW (n:Int):wB .bit n = .int .u64 (wT n):=by simp only[wB,wT,xW]
theorem aeX {g:FuncId} {vs:List Value} {v:Value} (h:∀ w,(callFunc g vs.toArray).run prog w = .ok (.value v) w):PC prog gG g vs v:=λw _=>by unfold Ae;rw[h w];exact⟨rfl,tQ.refl w⟩
theorem three {α:Type} {l:List α} (h:l.length=3):∃ a b c,l = [a,b,c]:=by match l,h with | [a,b,c],_=>exact⟨a,b,c,rfl⟩
theorem two {α:Type} {l:List α} (h:l.length=2):∃ a b,l = [a,b]:=by match l,h with | [a,b],_=>exact⟨a,b,rfl⟩
theorem one' {α:Type} {l:List α} (h:l.length=1):∃ a,l = [a]:=by match l,h with | [a],_=>exact⟨a,rfl⟩
theorem four {α:Type} {l:List α} (h:l.length=4):∃ a b c d,l = [a,b,c,d]:=by match l,h with | [a,b,c,d],_=>exact⟨a,b,c,d,rfl⟩
theorem eight {α:Type} {l:List α} (h:l.length=8):∃ a b c d e f g i,l = [a,b,c,d,e,f,g,i]:=by match l,h with | [a,b,c,d,e,f,g,i],_=>exact⟨a,b,c,d,e,f,g,i,rfl⟩
def KR (l:List Int):List Int:=[BQ (u64 (ul l 0)) (u64 (ul l 1)) (wT (ul l 2)),yG (u64 (ul l 0)) (u64 (ul l 1)) (wT (ul l 2))]
def KS (l:List Int):List Int:=[Bp (u64 (ul l 0)) (u64 (ul l 1)) (wT (ul l 2)),yz (u64 (ul l 0)) (u64 (ul l 1)) (wT (ul l 2))]
def Nz (l:List Int):List Int:=[u64 (ul l 0)*u64 (ul l 1)/(tV:Int),u64 (ul l 0)*u64 (ul l 1)%(tV:Int)]
def Hu (l:List Int):List Int:=[(Lib.bitLen (u64 (ul l 0)).toNat:Int)]
theorem an8 (x y c:Int):xU (BQ x y c):=by unfold BQ;exact⟨Int.emod_nonneg _ (by decide),Int.emod_lt_of_pos _ (by decide)⟩
theorem an9 (x y c:Int):xU (Bp x y c):=by unfold Bp;exact⟨Int.emod_nonneg _ (by decide),Int.emod_lt_of_pos _ (by decide)⟩
theorem aoa {x y c:Int} (hx:xU x) (hy:xU y) (hc:0<=c/\c<=1):0<=yG x y c/\yG x y c<=1:=by have h1:=hx.1;have h2:x<18446744073709551616:=hx.2;have h3:=hy.1;have h4:y<18446744073709551616:=hy.2;unfold yG;show 0<=(x+y+c)/18446744073709551616/\(x+y+c)/18446744073709551616<=1;omega
theorem aob (x y c:Int):0<=yz x y c/\yz x y c<=1:=by unfold yz;split<;>decide
theorem aoc:uz prog gG ⟨75,⟨[.sc kU,.sc kU,.sc .bit],[.sc kU,.sc .bit]⟩,KR⟩:=by
 intro l hl;obtain⟨a,b,c,rfl⟩:=three hl;refine⟨rfl,?_⟩;have h:=aeX (g:=75) (vs:=[_,_,_]) (adJ (u64 a) (u64 b) (wT c) (Cb a) (Cb b) (ZA c));have e1:=Zz (an8 (u64 a) (u64 b) (wT c));have e2:=UG (aoa (Cb a) (Cb b) (ZA c));simp only[uP,wR,Sh.kinds,List.drop_succ_cons,List.drop_zero,List.length_cons,List.length_nil,Ga,aeW,KR,ul,vP];have e3:u64 (BQ (u64 a) (u64 b) (wT c))=BQ (u64 a) (u64 b) (wT c):=by conv => { lhs;unfold u64 };rw[wP];exact e1
 have e4:wT (yG (u64 a) (u64 b) (wT c))=yG (u64 a) (u64 b) (wT c):=by conv => { lhs;unfold wT };rw[xW];exact e2
 rw[e3,e4];exact h
theorem aod:uz prog gG ⟨228,⟨[.sc kU,.sc kU,.sc .bit],[.sc kU,.sc .bit]⟩,KS⟩:=by
 intro l hl;obtain⟨a,b,c,rfl⟩:=three hl;refine⟨rfl,?_⟩;have h:=aeX (g:=228) (vs:=[_,_,_]) (adK (u64 a) (u64 b) (wT c) (Cb a) (Cb b) (ZA c));have e1:=Zz (an9 (u64 a) (u64 b) (wT c));have e2:=UG (aob (u64 a) (u64 b) (wT c));simp only[uP,wR,Sh.kinds,List.drop_succ_cons,List.drop_zero,List.length_cons,List.length_nil,Ga,aeW,KS,ul,vP];have e3:u64 (Bp (u64 a) (u64 b) (wT c))=Bp (u64 a) (u64 b) (wT c):=by conv => { lhs;unfold u64 };rw[wP];exact e1
 have e4:wT (yz (u64 a) (u64 b) (wT c))=yz (u64 a) (u64 b) (wT c):=by conv => { lhs;unfold wT };rw[xW];exact e2
 rw[e3,e4];exact h
theorem Gb {n:Int} (h:xU n):u64 n=n:=by unfold u64;rw[wP];exact Zz h
theorem aoe {x y:Int} (hx:xU x) (hy:xU y):xU (x*y/(tV:Int)):=by obtain⟨a,rfl,ha⟩:=hx.nat;obtain⟨b,rfl,hb⟩:=hy.nat;rw[(adL ha hb).1];exact Bo _ _
theorem aof:uz prog gG ⟨288,⟨[.sc kU,.sc kU],[.sc kU,.sc kU]⟩,Nz⟩:=by
 intro l hl;obtain⟨a,b,rfl⟩:=two hl;refine⟨rfl,?_⟩
 have h:PC prog gG 288 [.int .u64 (u64 a),.int .u64 (u64 b)] (.tuple #[.int .u64 (u64 a*u64 b/(tV:Int)),.int .u64 (u64 a*u64 b%(tV:Int))]) :=
  QD func288 (by kernel_rfl) (by kernel_rfl) λw=>(amf (u64 a) (u64 b) w (Cb a) (Cb b)).mono λe w' ⟨h1,h2⟩=>⟨h1,by rw[<- h2];exact tQ.refl w⟩
 simp only[uP,wR,Sh.kinds,List.drop_succ_cons,List.drop_zero,List.length_cons,List.length_nil,Ga,Nz,ul,vP];rw[Gb (aoe (Cb a) (Cb b)),Gb (n:=u64 a*u64 b%(tV:Int)) ⟨Int.emod_nonneg _ (by decide),Int.emod_lt_of_pos _ (by decide)⟩];exact h
theorem bitLen_le (n : Nat) (h : n < tV) : Lib.bitLen n <= 64 := by
  unfold Lib.bitLen
  have key : ∀ f x, Lib.bitLenAux f x <= f := by
    intro f
    induction f with
    | zero => intro x; exact Nat.le_refl _
    | succ f ih => intro x; unfold Lib.bitLenAux; split
                   · omega
                   · have := ih (x / 2); omega
  exact key _ _
theorem aog:uz prog gG ⟨263,⟨[.sc kU],[.sc kI]⟩,Hu⟩:=by
 intro l hl;obtain⟨a,rfl⟩:=one' hl;refine⟨rfl,?_⟩
 have h:PC prog gG 263 [.int .u64 (u64 a)] (.int .i64 (Lib.bitLen (u64 a).toNat:Int)) :=
  QD func263 (by kernel_rfl) (by kernel_rfl) λw=>(amg (u64 a) w (Cb a)).mono λe w' ⟨h1,h2⟩=>⟨h1,by rw[<- h2];exact tQ.refl w⟩
 have hb:=bitLen_le (u64 a).toNat (by have h1:=(Cb a).1;have h2:=(Cb a).2;omega);simp only[uP,wR,Ga,Hu,ul,vP]
 have e:wB kI (Lib.bitLen (u64 a).toNat:Int) = .int .i64 (Lib.bitLen (u64 a).toNat:Int):=by simp only[wB];rw[wrap_i64 (by omega)]
 rw[e];exact h
def Hw (l:List Int):List Int:=[ui (MQ (xJ .u8 (ul l 0)) (uk (ul l 1)) (uk (ul l 2)) (xJ .u8 (ul l 3)))]
theorem aoh:uz prog gG ⟨243,⟨[.sc kB,.sc .bool,.sc .bool,.sc kB],[.sc .bool]⟩,Hw⟩:=by
 intro l hl;obtain⟨a,b,c,d,rfl⟩:=four hl;refine⟨rfl,?_⟩
 have h:PC prog gG 243 [.int .u8 (xJ .u8 a),.bool (uk b),.bool (uk c),.int .u8 (xJ .u8 d)] (.bool (MQ (xJ .u8 a) (uk b) (uk c) (xJ .u8 d))) :=
  QD func243 (by kernel_rfl) (by kernel_rfl) λw=>amG _ _ _ _ w
 simp only[uP,wR,Sh.kinds,List.drop_succ_cons,List.drop_zero,List.length_cons,List.length_nil,wB,Hw,ul,vP,xe,<- wP,<- xW];simp only[xW,xe] at h ⊢;exact h
def w4 (l:List Int) (i:Nat):Nat:=(u64 (ul l i)).toNat+tV*((u64 (ul l (i+1))).toNat+tV*((u64 (ul l (i+2))).toNat+tV*(u64 (ul l (i+3))).toNat))
theorem xK (n:Int):((u64 n).toNat:Int)=u64 n/\(u64 n).toNat<tV:=by have h:=Cb n;exact⟨Int.toNat_of_nonneg h.1,by have:=h.2;have:=h.1;omega⟩
theorem aeY (a b c d:Nat) (ha:a<tV) (hb:b<tV) (hc:c<tV) (hd:d<tV):wd (a+tV*(b+tV*(c+tV*d))) 0=a/\wd (a+tV*(b+tV*(c+tV*d))) 1=b/\wd (a+tV*(b+tV*(c+tV*d))) 2=c /\
  wd (a+tV*(b+tV*(c+tV*d))) 3=d/\a+tV*(b+tV*(c+tV*d))<uu:=by
 have hW:tV=18446744073709551616:=rfl;unfold wd uu uh;rw[Nat.pow_zero,Nat.pow_one,show tV^2=tV*tV by rw[Nat.pow_two],show tV^3=tV*(tV*tV) by rw[Nat.pow_succ,Nat.pow_two,Nat.mul_comm]];have d1:(a+tV*(b+tV*(c+tV*d)))/tV=b+tV*(c+tV*d):=by rw[Nat.add_mul_div_left _ _ xm,Nat.div_eq_of_lt ha,Nat.zero_add]
 have d2:(b+tV*(c+tV*d))/tV=c+tV*d:=by rw[Nat.add_mul_div_left _ _ xm,Nat.div_eq_of_lt hb,Nat.zero_add]
 have d3:(c+tV*d)/tV=d:=by rw[Nat.add_mul_div_left _ _ xm,Nat.div_eq_of_lt hc,Nat.zero_add]
 rw[<- Nat.div_div_eq_div_mul,<- Nat.div_div_eq_div_mul,<- Nat.div_div_eq_div_mul,d1,d2,d3,Nat.div_one];refine⟨?_,?_,?_,?_,?_⟩
 ·rw[Nat.add_mul_mod_self_left,Nat.mod_eq_of_lt ha]
 ·rw[Nat.add_mul_mod_self_left,Nat.mod_eq_of_lt hb]
 ·rw[Nat.add_mul_mod_self_left,Nat.mod_eq_of_lt hc]
 ·rw[Nat.mod_eq_of_lt hd]
 ·have ha':a<18446744073709551616:=ha;have hb':b<18446744073709551616:=hb;have hc':c<18446744073709551616:=hc;have hd':d<18446744073709551616:=hd;clear d1 d2 d3 ha hb hc hd hW;show a+18446744073709551616*(b+18446744073709551616*(c+18446744073709551616*d))<115792089237316195423570985008687907853269984665640564039457584007913129639936;omega
theorem Jk (l:List Int) (i:Nat):vW (w4 l i) = .agg #[.int .u64 (u64 (ul l i)),.int .u64 (u64 (ul l (i+1))),.int .u64 (u64 (ul l (i+2))),.int .u64 (u64 (ul l (i+3)))]/\w4 l i<uu:=by obtain⟨h0,h1,h2,h3,h4⟩:=aeY _ _ _ _ (xK (ul l i)).2 (xK (ul l (i+1))).2 (xK (ul l (i+2))).2 (xK (ul l (i+3))).2;unfold w4 vW;rw[h0,h1,h2,h3,(xK _).1,(xK _).1,(xK _).1,(xK _).1];exact⟨rfl,h4⟩
def Jl (s:Nat) (b:Bool):List Int:=[wd s 0,wd s 1,wd s 2,wd s 3,ui b]
theorem aeZ (s:Nat) (b:Bool):vP (uP [Dn,.sc .bool] (Jl s b)) = .tuple #[vW s,.bool b]:=by simp only[uP,wR,uT,Sh.kinds,List.drop_succ_cons,List.drop_zero,List.length_cons,List.length_nil,Ga,Jl,vP,Gb (Bo _ _)];simp only[wB,xe]
def En (l:List Int):List Int:=Jl (w4 l 0+w4 l 4) (Nat.ble uu (w4 l 0+w4 l 4))
theorem aoi:uz prog gG ⟨157,⟨[Dn,Dn],[Dn,.sc .bool]⟩,En⟩:=by
 intro l hl;refine⟨rfl,?_⟩
 have h:PC prog gG 157 [vW (w4 l 0),vW (w4 l 4)] (.tuple #[vW (w4 l 0+w4 l 4),.bool (decide (uu<=w4 l 0+w4 l 4))]) :=
  QD func157 (by kernel_rfl) (by kernel_rfl) λw=>amu _ _ w (Jk l 0).2 (Jk l 4).2
 obtain⟨a,b,c,d,e,f,g,i,rfl⟩:=eight hl;unfold En
 rw[aeZ,show Nat.ble uu (w4 [a,b,c,d,e,f,g,i] 0+w4 [a,b,c,d,e,f,g,i] 4)=decide (uu<=w4 [a,b,c,d,e,f,g,i] 0+w4 [a,b,c,d,e,f,g,i] 4) by
  rw[Bool.eq_iff_iff,Nat.ble_eq,decide_eq_true_iff]]
 rw[(Jk _ 0).1,(Jk _ 4).1] at h;simpa only[uP,wR,uT,Sh.kinds,List.drop_succ_cons,List.drop_zero,List.length_cons,List.length_nil,Ga,ul] using h
def Gc (l:List Int):List Int:=Jl (w4 l 0+uu-w4 l 4) (Nat.blt (w4 l 0) (w4 l 4))
theorem aoj:uz prog gG ⟨158,⟨[Dn,Dn],[Dn,.sc .bool]⟩,Gc⟩:=by
 intro l hl;refine⟨rfl,?_⟩
 have h:PC prog gG 158 [vW (w4 l 0),vW (w4 l 4)] (.tuple #[vW (w4 l 0+uu-w4 l 4),.bool (decide (w4 l 0<w4 l 4))]) :=
  QD func158 (by kernel_rfl) (by kernel_rfl) λw=>amv _ _ w (Jk l 0).2 (Jk l 4).2
 obtain⟨a,b,c,d,e,f,g,i,rfl⟩:=eight hl;unfold Gc
 rw[aeZ,show Nat.blt (w4 [a,b,c,d,e,f,g,i] 0) (w4 [a,b,c,d,e,f,g,i] 4)=decide (w4 [a,b,c,d,e,f,g,i] 0<w4 [a,b,c,d,e,f,g,i] 4) by
  rw[Bool.eq_iff_iff,Nat.blt_eq,decide_eq_true_iff]]
 rw[(Jk _ 0).1,(Jk _ 4).1] at h;simpa only[uP,wR,uT,Sh.kinds,List.drop_succ_cons,List.drop_zero,List.length_cons,List.length_nil,Ga,ul] using h
def ae0:List uL:=[
 ⟨75,⟨[.sc kU,.sc kU,.sc .bit],[.sc kU,.sc .bit]⟩,KR⟩,
 ⟨228,⟨[.sc kU,.sc kU,.sc .bit],[.sc kU,.sc .bit]⟩,KS⟩,
 ⟨288,⟨[.sc kU,.sc kU],[.sc kU,.sc kU]⟩,Nz⟩,
 ⟨157,⟨[Dn,Dn],[Dn,.sc .bool]⟩,En⟩,
 ⟨158,⟨[Dn,Dn],[Dn,.sc .bool]⟩,Gc⟩,
 ⟨243,⟨[.sc kB,.sc .bool,.sc .bool,.sc kB],[.sc .bool]⟩,Hw⟩,
 ⟨263,⟨[.sc kU],[.sc kI]⟩,Hu⟩]
def uw (L:List uL):wH:=λg l=>match Ah L g with|some e=>e.F l|none=>[]
theorem uQ {L:List uL} {g:FuncId} {e:uL} (h:Ah L g=some e):uw L g=e.F:=by funext l;unfold uw;rw[h]
def Jm (L:List uL):FuncId->Option Ct:=λg=>match Ah L g with|some e=>some e.ct|none=>none
noncomputable def ctx (L:List uL):vI:=⟨prog,gG,Rv,Jm L,uw L,λ_=>none,λ_=>[]⟩
theorem vD {L:List uL} (h:∀ e∈L,uz prog gG e):zx (ctx L) eE:=by
  have key:∀ (g:FuncId) (ct:Ct),(ctx L).ct g=some ct->∀ l:List Int,l.length=(tO ct.a).length->((ctx L).Φ g l).length=(tO ct.r).length/\PC prog gG g (uP ct.a l) (vP (uP ct.r ((ctx L).Φ g l))):=by
   intro g ct hct l hl;simp only[ctx,Jm,uw] at hct ⊢
   cases hf:Ah L g with
   | some e =>
     rw[hf] at hct;simp only[Option.some.injEq] at hct;subst hct;obtain⟨h1,h2⟩:=Rp hf;subst h2;exact h e h1 l hl
   | none=>rw[hf] at hct;cases hct
  exact⟨⟨Zy,Zx,UF.mix,UF.nm,λg ct hct l hl _=>(key g ct hct l hl).2,λg ct hn=>(by cases hn),λg c hc=>(by cases hc)⟩,λg ct hct l hl=>(key g ct hct l hl).1,λg ct hn=>(by cases hn),λg c hc=>(by cases hc)⟩
def Eo:List wY->Nat->Option wY
 | [],_=>none
 | x::l,id=>match Nat.beq x.c.id id with|true=>some x|false=>Eo l id
def KT:List wY->FuncId->List yR
 | [],_=>[]
 | x::l,g=>match Nat.beq x.g g with|true=>x.c::KT l g|false=>KT l g
def uy (L M:List uL) (S:List wY):wH:=λg l=>match Eo S g with
 | some e=>e.F l
 | none=>match Ah M g with|some e=>e.F l|none=>uw L g l
theorem UH {L M:List uL} {S:List wY} {g:Nat} {e:wY} (h:Eo S g=some e):uy L M S g=e.F:=by funext l;unfold uy;rw[h]
theorem zy {L M:List uL} {S:List wY} {g:Nat} {e:uL} (h0:Eo S g=none) (h:Ah M g=some e):uy L M S g=e.F:=by funext l;unfold uy;rw[h0];simp only[];rw[h]
theorem vo {L M:List uL} {S:List wY} {g:Nat} {e:uL} (h0:Eo S g=none) (h1:Ah M g=none) (h:Ah L g=some e):uy L M S g=e.F:=by funext l;unfold uy;rw[h0];simp only[];rw[h1];simp only[];rw[uQ h]
noncomputable def uI (L M:List uL) (S:List wY):vI:=⟨prog,gG,Rv,Jm L,uy L M S,Jm M,KT S⟩
def Rw (S:List wY) (g:Nat):Bool:=match Eo S g with|some _=>false|none=>true
def ZB (M:List uL) (g:Nat):Bool:=match Ah M g with|some _=>false|none=>true
def UI (M:List uL) (S:List wY):List uL->Bool
 | []=>true
 | x::l=>vT (Rw S x.g) (vT (ZB M x.g) (UI M S l))
def UJ (S:List wY):List uL->Bool
 | []=>true
 | x::l=>vT (Rw S x.g) (UJ S l)
def UK:List wY->Bool
 | []=>true
 | x::l=>vT (Rw l x.c.id) (UK l)
theorem ZC {S:List wY} {g:Nat} (h:Rw S g=true):Eo S g=none:=by
 unfold Rw at h
 cases hf:Eo S g with
 | none=>rfl
 | some e=>rw[hf] at h;cases h
theorem aok {M:List uL} {g:Nat} (h:ZB M g=true):Ah M g=none:=by
 unfold ZB at h
 cases hf:Ah M g with
 | none=>rfl
 | some e=>rw[hf] at h;cases h
theorem ZE {M:List uL} {S:List wY} : ∀ {L:List uL},UI M S L=true->∀ e∈L,Eo S e.g=none/\Ah M e.g=none
 | [],_,e,he=>by cases he
 | x::l,h,e,he=>by
  have h:=vw h;have h2:=vw h.2;rcases List.mem_cons.1 he with rfl|he
  ·exact⟨ZC h.1,aok h2.1⟩
  ·exact ZE h2.2 e he
theorem ZF {S:List wY} : ∀ {L:List uL},UJ S L=true->∀ e∈L,Eo S e.g=none
 | [],_,e,he=>by cases he
 | x::l,h,e,he=>by
  have h:=vw h;rcases List.mem_cons.1 he with rfl|he
  ·exact ZC h.1
  ·exact ZF h.2 e he
theorem ZG:∀ {S:List wY},UK S=true->∀ e∈S,Eo S e.c.id=some e
 | [],_,e,he=>by cases he
 | x::l,h,e,he=>by
  have h:=vw h;simp only[Eo];rcases List.mem_cons.1 he with rfl|he
  ·rw[Nat.beq_refl]
  ·have h1:=ZG h.2 e he
   cases hb:Nat.beq x.c.id e.c.id with
   | true =>
    have h2:=ZC h.1;rw[vH.1 hb,h1] at h2;cases h2
   | false=>exact h1
theorem UL:∀ {S:List wY} {g:FuncId} {c:yR},c∈KT S g->∃ e∈S,e.g=g/\e.c=c
 | [],g,c,h=>by cases h
 | x::l,g,c,h=>by
  simp only[KT] at h;split at h
  ·rename_i hb;rcases List.mem_cons.1 h with rfl|h
   ·exact⟨x,List.mem_cons_self,vH.1 hb,rfl⟩
   ·obtain⟨e,h1,h2⟩:=UL h;exact⟨e,List.mem_cons_of_mem _ h1,h2⟩
  ·obtain⟨e,h1,h2⟩:=UL h;exact⟨e,List.mem_cons_of_mem _ h1,h2⟩
theorem EW {L M:List uL} {S:List wY} (hL:∀ e∈L,wX prog gG e) (hM:∀ e∈M,wS prog gG e) (hS:∀ e∈S,UB prog gG e) (h:vT (UI M S L) (vT (UJ S M) (UK S))=true):wW (uI L M S) eE:=by
 have h:=vw h;have h2:=vw h.2;refine⟨Zy,Zx,UF.mix,UF.nm,λg ct hct l hl hF=>?_,λg ct hct=>?_,λg c hc l hl hF=>?_⟩
 ·simp only[uI,Jm] at hct hF ⊢
  cases hf:Ah L g with
  | some e =>
   rw[hf] at hct;simp only[Option.some.injEq] at hct;subst hct;obtain⟨h1,h3⟩:=Rp hf;subst h3;obtain⟨h4,h5⟩:=ZE h.1 e h1;rw[vo h4 h5 hf] at hF ⊢;exact(hL e h1).ok l hl hF
  | none=>rw[hf] at hct;cases hct
 ·simp only[uI,Jm] at hct ⊢
  cases hf:Ah M g with
  | some e =>
   rw[hf] at hct;simp only[Option.some.injEq] at hct;subst hct;obtain⟨h1,h3⟩:=Rp hf;subst h3;have h4:=ZF h2.1 e h1;refine⟨(hM e h1).two,λl hl hF=>?_⟩;rw[zy h4 hf] at hF ⊢;exact(hM e h1).ok l hl hF
  | none=>rw[hf] at hct;cases hct
 ·obtain⟨e,h1,h3,h4⟩:=UL (show c∈KT S g from hc);subst h3;subst h4;have h5:=ZG h2.2 e h1;simp only[uI] at hF ⊢;rw[UH h5] at hF ⊢;exact(hS e h1).ok l hl hF
theorem EX {L M:List uL} {S:List wY} (hL:∀ e∈L,uz prog gG e) (hM:∀ e∈M,Rs prog gG e) (hS:∀ e∈S,F8 prog gG e) (h:vT (UI M S L) (vT (UJ S M) (UK S))=true):zx (uI L M S) eE:=by
 refine⟨EW (λe he=>(hL e he).c) (λe he=>(hM e he).c) (λe he=>(hS e he).c) h,?_,?_,?_⟩;all_goals have h:=vw h
 all_goals have h2:=vw h.2
 ·intro g ct hct l hl;simp only[uI,Jm] at hct ⊢
  cases hf:Ah L g with
  | some e =>
   rw[hf] at hct;simp only[Option.some.injEq] at hct;subst hct;obtain⟨h1,h3⟩:=Rp hf;subst h3;obtain⟨h4,h5⟩:=ZE h.1 e h1;rw[vo h4 h5 hf];exact(hL e h1 l hl).1
  | none=>rw[hf] at hct;cases hct
 ·intro g ct hct l hl;simp only[uI,Jm] at hct ⊢
  cases hf:Ah M g with
  | some e =>
   rw[hf] at hct;simp only[Option.some.injEq] at hct;subst hct;obtain⟨h1,h3⟩:=Rp hf;subst h3;rw[zy (ZF h2.1 e h1) hf];exact((hM e h1).ok l hl).1
  | none=>rw[hf] at hct;cases hct
 ·intro g c hc l hl;obtain⟨e,h1,h3,h4⟩:=UL (show c∈KT S g from hc);subst h3;subst h4;have h5:=ZG h2.2 e h1;simp only[uI];rw[UH h5];exact((hS e h1).ok l hl).1
def M0:List uL:=[]
theorem Hy:∀ e∈M0,Rs prog gG e:=λe he=>by cases he
def S0:List wY:=[]
theorem ae1:∀ e∈S0,F8 prog gG e:=λe he=>by cases he
def E0:List uL:=ae0
theorem Ai:∀ e∈E0,uz prog gG e:=by
 intro e he;simp only[E0,ae0,List.mem_cons,List.not_mem_nil,or_false] at he;rcases he with rfl|he
 ·exact aoc
 rcases he with rfl|he
 ·exact aod
 rcases he with rfl|he
 ·exact aof
 rcases he with rfl|he
 ·exact aoi
 rcases he with rfl|he
 ·exact aoj
 rcases he with rfl|he
 ·exact aoh
 ·subst he;exact aog
end Go.Proofs.YtippohicjhilnaaGreatDoor
