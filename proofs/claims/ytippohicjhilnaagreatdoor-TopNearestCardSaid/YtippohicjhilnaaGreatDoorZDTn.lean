import Derived.Test.YtippohicjhilnaaGreatDoorZBTn
import Derived.Test.YtippohicjhilnaaGreatDoorZCTn
set_option linter.unusedSimpArgs false
set_option linter.unusedVariables false
set_option maxRecDepth 100000
open Go.Proofs.Tryz
namespace Go.Proofs.YtippohicjhilnaaGreatDoor
open Go.RowKit
def xX (x:SV):X:=match x with | .int _ x=>x|_=>.lit (.ofNat 0)
def Pz (ys:List X):SV:=.agg (ys.map (SV.int .u64))
def Eu (C:xP) (fuel:Nat) (g:FuncId) (ct:Ct) (nv:Nat):vU SV :=
 match C.P.funcs[g]? with
 | none=>.stuck "no such function"
 | some fn=>match fn.body with
  | none=>.stuck "no body"
  | some cd=>match Nat.ble ct.a.length fn.ntmps with
   | true=>zk (zx (vV ct.a)) λN=>(exec C fuel cd ⟨N,zK (DV ct.a (wM 0 (vV ct.a)) 0) fn.ntmps,yZ (vV ct.a) (wM 0 (vV ct.a)) 0,nv,[],[]⟩).bind λr=>match r.1 with
    | .normal=>match Af C.P r.2.T r.2.H fn.results.toList with|some rs=>(match FZ r.2.H ct.r rs with|some ys=>.leaf (Pz ys)|none=>.stuck "results: numbers")|none=>.stuck "results"
    | .ret=>match Af C.P r.2.T r.2.H fn.results.toList with|some rs=>(match FZ r.2.H ct.r rs with|some ys=>.leaf (Pz ys)|none=>.stuck "results: numbers")|none=>.stuck "results"
    | _=>.stuck "end"
   | false=>.stuck "arguments"
def GV:List VK->List Value->List Value
 | k::ks,v::vs=>match k with | .nat=>v::GV ks vs|_=>GV ks vs
 | _,_=>[]
section
variable {G:wQ} {w:World} {s:wF}
theorem Ug {v:Value} {ks:List VK} {vs:List Value} : GV (.nat::ks) (v::vs)=v::GV ks vs:=rfl
theorem WC {k:VK} (hk:nN k=0) {v:Value} {ks:List VK} {vs:List Value} : GV (k::ks) (v::vs)=GV ks vs:=by cases k<;>first|rfl|cases hk
theorem abm {v:Value} : ∀ {ks:List VK} {vs:List Value},v∈GV ks vs->v∈vs
 | [],vs,h=>by cases vs<;>cases h
 | k::ks,[],h=>by cases h
 | k::ks,u::vs,h=>by
  rcases KU k with⟨rfl,h1⟩|⟨h1,_⟩
  ·rw[Ug] at h;rcases List.mem_cons.1 h with rfl|h
   ·exact List.mem_cons_self
   ·exact List.mem_cons_of_mem _ (abm h)
  ·rw[WC h1] at h;exact List.mem_cons_of_mem _ (abm h)
theorem WE:∀ {ks:List VK} {vs:List Value},vs.length=ks.length->(GV ks vs).length=zx ks
 | [],vs,h=>by cases vs<;>rfl
 | k::ks,[],h=>by simp at h
 | k::ks,u::vs,h=>by
  have ih:=WE (ks:=ks) (vs:=vs) (by simpa using h);rcases KU k with⟨rfl,h1⟩|⟨h1,_⟩
  ·rw[Ug,List.length_cons,ih,zx,h1,Nat.add_comm]
  ·rw[WC h1,ih,zx,h1,Nat.zero_add]
theorem PD:∀ {ks:List VK} {xs:List X} {ns:List Int} {fvs:List Value} {h j:Nat} {o:SO},xs.map (X.den s)=zn ks ns->yD w ks ns fvs->hget (yZ ks xs h) j=some o ->
  h<=j/\(o.t=none/\Dj o.c=none/\DT o.c=none)/\∃ v,(GV ks fvs)[j-h]? = some v/\Reads w v (wO ((FR o.c).den s).toNat) (Di ((FR o.c).den s).toNat)
 | [],xs,ns,fvs,h,j,o,_,_,hg=>by
  have:yZ [] xs h = []:=by cases xs<;>rfl
  rw[this] at hg;cases hg
 | k::ks,[],ns,fvs,h,j,o,hx,hf,hg=>by simp[yZ,hget] at hg
 | k::ks,x::xs,[],fvs,h,j,o,hx,hf,hg=>hf.elim
 | k::ks,x::xs,n::ns,[],h,j,o,hx,hf,hg=>hf.elim
 | k::ks,x::xs,n::ns,v::fvs,h,j,o,hx,hf,hg=>by
  simp only[List.map_cons,zn,List.cons.injEq] at hx;rcases KU k with⟨rfl,h1⟩|⟨h1,_⟩
  ·rw[Wv] at hg;simp only[hget] at hg;rw[Ug];split at hg
   ·rename_i hb;cases hg;have:=xO.1 hb;subst this;refine⟨Nat.le_refl _,⟨rfl,rfl,rfl⟩,v,by simp,?_⟩;have hr:Reads w v (wO n.toNat) (Di n.toNat):=hf.1;have hxn:(x.den s).toNat=n.toNat:=by rw[hx.1];rfl
    simp only[FR,hxn];exact hr
   ·obtain⟨h2,h3,u,h4,h5⟩:=PD hx.2 hf.2 hg;refine⟨by omega,h3,u,?_,h5⟩;rw[show j-h=(j-(h+1))+1 by omega,List.getElem?_cons_succ];exact h4
  ·rw[Ww h1] at hg;rw[WC h1];exact PD hx.2 hf.2 hg
theorem WF:∀ {ks:List VK} {xs:List X} {h j:Nat},xs.length=ks.length->h<=j->j<h+zx ks->∃ o,hget (yZ ks xs h) j=some o
 | [],xs,h,j,_,h1,h2=>by rw[zx] at h2;omega
 | k::ks,[],h,j,hl,_,_=>by simp at hl
 | k::ks,x::xs,h,j,hl,h1,h2=>by
  rw[zx] at h2;rcases KU k with⟨rfl,hk⟩|⟨hk,_⟩
  ·rw[Wv];simp only[hget];by_cases e:h=j
   ·subst e;simp
   ·have:Nat.beq h j=false:=by
     cases hb:Nat.beq h j with
     | false=>rfl
     | true=>exact absurd (xO.1 hb) e
    rw[this];exact WF (by simpa using hl) (by omega) (by omega)
  ·rw[Ww hk];exact WF (by simpa using hl) h1 (by omega)
end
theorem apR {G:wQ} {w w':World} {B:xB} {e:Env} {H:wm} (hb:B.blks = []) (R:xh G w B e H w'):vY w w' :=
 ⟨R.os,R.tape,R.output,R.size,λk hk=>R.old k hk (by rw[hb];simp)⟩
theorem apS {G:wQ} {w:World} {s:wF} (hG:Gl G w) {hs:List Sh} {xs:List X} {ns:List Int} {fvs:List Value} (hx:xs.map (X.den s)=zn (vV hs) ns) (hl:xs.length=(vV hs).length) (hf:yD w (vV hs) ns fvs) :
  ∃ B e,B.blks = []/\(∀ j∈B.dom,∀ b,yR (B.env.hnd j)=some b->∃ v∈fvs,yR v=some b)/\xh G w B e (SH.den s (yZ (vV hs) xs 0)) w/\AV.vals e (SV.aaE s (DV hs xs 0))=GQ hs fvs:=by
 let nv:=GV (vV hs) fvs;let e:Env:=⟨λ_=>0,λj=>(nv[j]?).getD undef⟩;let B:xB:=⟨[],List.range (zx (vV hs)),e⟩
 have own:∀ k c t,¬ SH.den s (yZ (vV hs) xs 0) k=some (.own c t):=by
  intro k c t h;unfold SH.den at h
  cases hg:hget (yZ (vV hs) xs 0) k with
  | none=>rw[hg] at h;cases h
  | some o =>
   obtain⟨_,h2,_⟩:=PD hx hf hg;rw[hg,Option.map_some,SO.aCG s h2.1 h2.2.1 h2.2.2] at h;cases h
 have rdv:∀ k n l,SH.den s (yZ (vV hs) xs 0) k=some (.rd n l)->∃ v,nv[k]? = some v/\e.hnd k=v/\Reads w v n l:=by
  intro k n l h;unfold SH.den at h
  cases hg:hget (yZ (vV hs) xs 0) k with
  | none=>rw[hg] at h;cases h
  | some o =>
   obtain⟨_,h2,v,h3,h4⟩:=PD hx hf hg;rw[hg,Option.map_some,SO.aCG s h2.1 h2.2.1 h2.2.2] at h;simp only[Option.some.injEq,AO.rd.injEq] at h;rw[<- h.1,<- h.2];refine⟨v,by simpa using h3,?_,h4⟩;show(nv[k]?).getD undef=v;rw[show nv[k]? = some v by simpa using h3];rfl
 have R:xh G w B e (SH.den s (yZ (vV hs) xs 0)) w:=by
  refine⟨rfl,rfl,rfl,Nat.le_refl _,λ_ _ _=>rfl,hG,λk c t h=>absurd h (own k c t),λk c t h=>absurd h (own k c t),λk c t h=>absurd h (own k c t),λk c t _ _ _ h=>absurd h (own k c t),?_,λ_ _ _ k c t _ h=>absurd h (own k c t),?_,?_,?_,?_⟩
  ·intro k n l h;obtain⟨v,_,h2,h3⟩:=rdv k n l h;rw[h2];exact h3
  ·intro k o h r hr
   cases o with
   | own c t=>exact absurd h (own k c t)
   | rd n l=>simp[AO.refs] at hr
   | mp es=>simp[AO.refs] at hr
  ·intro k hk;have hk:k<zx (vV hs):=by simpa [B] using hk
   obtain⟨o,ho⟩:=WF (h:=0) (j:=k) hl (Nat.zero_le _) (by omega);exact⟨aa4 ho,rfl,rfl⟩
  ·intro k n l h b hb;obtain⟨v,h1,h2,h3⟩:=rdv k n l h;refine .inr ⟨k,?_,hb⟩;show k∈List.range _;rw[List.mem_range,<- WE (yD.len hf).2];exact(List.getElem?_eq_some_iff.1 h1).1
  ·intro k es h;exfalso;unfold SH.den at h
   cases hg:hget (yZ (vV hs) xs 0) k with
   | none=>rw[hg] at h;cases h
   | some o =>
    obtain⟨_,h2,_⟩:=PD hx hf hg;rw[hg,Option.map_some,SO.aCG s h2.1 h2.2.1 h2.2.2] at h;cases h
 refine⟨B,e,rfl,?_,R,?_⟩
 ·intro j hj b hb;have hj:j<zx (vV hs):=by simpa [B] using hj
  have hlt:j<nv.length:=by rw[WE (yD.len hf).2];exact hj
  have:nv[j]? = some nv[j]:=List.getElem?_eq_getElem hlt;have hb2:yR ((nv[j]?).getD undef)=some b:=hb;rw[this] at hb2;exact⟨nv[j],abm (List.getElem_mem hlt),hb2⟩
 ·rw[aa8 e hs xs 0 hl];congr 1
  have key:∀ (ks:List VK) (xs:List X) (ns:List Int) (fvs:List Value) (h:Nat),xs.map (X.den s)=zn ks ns->yD w ks ns fvs->(∀ j v,(GV ks fvs)[j]? = some v->e.hnd (h+j)=v)->AV.vals e (SV.aaE s (yY ks xs h))=fvs:=by
   intro ks
   induction ks with
   | nil =>
    intro xs ns fvs h _ hf _;have:fvs = []:=List.eq_nil_of_length_eq_zero (yD.len hf).2;subst this;cases xs<;>rfl
   | cons k ks ih =>
    intro xs ns fvs h hx hf hh
    cases ns with
    | nil=>exact hf.elim
    | cons n ns=>cases fvs with
     | nil=>exact hf.elim
     | cons v fvs=>cases xs with
      | nil=>simp[zn] at hx
      | cons x xs =>
       simp only[List.map_cons,zn,List.cons.injEq] at hx;rw[yY,SV.aaE,AV.vals];rcases KU k with⟨rfl,h1⟩|⟨h1,h2,h3⟩
       ·rw[h1,ih xs ns fvs (h+1) hx.2 hf.2 (λj u hj=>by
         have:=hh (j+1) u (by rw[Ug];simpa using hj)
         rw[<- this];congr 1;omega)]
        congr 1;show EP (e.hnd h)=v;have:=hh 0 v (by rw[Ug];rfl);rw[Nat.add_zero] at this;rw[this];exact aa1 (show Reads w v _ _ from hf.1)
       ·rw[h1,Nat.add_zero,ih xs ns fvs h hx.2 hf.2 (λj u hj=>hh j u (by rw[WC h1];exact hj)),h2,TY hx.1];congr 1;exact((h3 w n v).1 hf.1).symm
  refine key _ xs ns fvs 0 hx hf (λj v hj=>?_);show(nv[0+j]?).getD undef=v;rw[Nat.zero_add,show nv[j]? = some v from hj];rfl
theorem apT {s:wF} {hs:List Sh} {xs:List X} (hl:xs.length=(vV hs).length):∀ c∈SV.aav (DV hs xs 0),SH.den s (yZ (vV hs) xs 0) c≠none:=by
 intro c hc;have h1:=aa9 hl hc
 have key:∀ (ks:List VK) (xs:List X) (h:Nat),c∈SV.aav (yY ks xs h)->h<=c/\c<h+zx ks:=by
  intro ks
  induction ks with
  | nil=>intro xs h hc;cases xs<;>simp[yY,SV.aav] at hc
  | cons k ks ih =>
   intro xs h hc
   cases xs with
   | nil=>simp[yY,SV.aav] at hc
   | cons x xs =>
    rw[yY,SV.aav] at hc;rw[zx];rcases KU k with⟨rfl,h1⟩|⟨h1,h2,_⟩
    ·rcases List.mem_append.1 hc with hc|hc
     ·simp[Pq,SV.refs] at hc;subst hc;rw[h1];omega
     ·have:=ih xs _ hc;rw[h1] at this ⊢;omega
    ·rcases List.mem_append.1 hc with hc|hc
     ·rw[h2] at hc;cases k<;>simp[FX,SV.refs] at hc
     ·have:=ih xs _ hc;rw[h1] at this ⊢;omega
 obtain⟨h2,h3⟩:=key _ _ _ h1;obtain⟨o,ho⟩:=WF hl h2 h3;exact aa4 ho
theorem apU {C:xP} {E:xV} {s:wF} (hC:yS C E) {n:Nat} {g:FuncId} {ct:Ct} {nv:Nat} {a:SV} {l:List Int} (h:(Eu C n g ct nv).path C.Φ s=some a) (hl:Au s 0 (vV ct.a).length=l) :
  ∃ ys,a=Pz ys/\ys.length=(vV ct.r).length/\Io C.P C.G g ct l (ys.map (X.den s)):=by
 unfold Eu at h;split at h
 ·cases h
 ·rename_i fn hf;split at h
  ·cases h
  ·rename_i cd hb;split at h
   ·rename_i hle;rw[yK] at h;obtain⟨⟨ex,st⟩,h1,h2⟩:=vU.abA h;have sp:=(MZ (E:=E) (s:=s) hC n).1 _ _ _ _ h1 (λx hx=>by cases hx);obtain⟨v1,v2⟩:=GN s (vV ct.a) 0;rw[hl] at v1
    have uln:∀ (hs:List Sh) (xs:List X) (k:Nat),(DV hs xs k).length=hs.length:=by
     intro hs
     induction hs with
     | nil=>intro xs k;rfl
     | cons x hs ih=>intro xs k;rw[DV,List.length_cons,ih,List.length_cons]
    have hx:(ex = .normal\/ex = .ret)/\∃ rs ys,Af C.P st.T st.H fn.results.toList=some rs/\FZ st.H ct.r rs=some ys/\a=Pz ys:=by
     rcases Pw h2 with⟨rfl,h3⟩|⟨rfl,h3⟩
     ·split at h3
      ·rename_i rs hrs;split at h3
       ·rename_i ys hys;cases h3;exact⟨.inl rfl,rs,ys,hrs,hys,rfl⟩
       ·cases h3
      ·cases h3
     ·split at h3
      ·rename_i rs hrs;split at h3
       ·rename_i ys hys;cases h3;exact⟨.inr rfl,rs,ys,hrs,hys,rfl⟩
       ·cases h3
      ·cases h3
    obtain⟨hx,rs,ys,hrs,hys,rfl⟩:=hx;refine⟨ys,rfl,?_,?_⟩
    ·have key:∀ {hs:List Sh} {xs:List SV} {l:List X},FZ st.H hs xs=some l->l.length=(vV hs).length:=by
      have k1:∀ {ks:List VK} {xs:List SV} {l:List X},Im st.H ks xs=some l->l.length=ks.length:=by
       intro ks
       induction ks with
       | nil=>intro xs l h;cases xs<;>simp[Im] at h;subst h;rfl
       | cons k ks ih =>
        intro xs l h
        cases xs with
        | nil=>cases h
        | cons x xs =>
         simp only[Im] at h;split at h
         ·rename_i a l' _ hl';cases h;simp[ih hl']
         ·cases h
      intro hs
      induction hs with
      | nil=>intro xs l h;cases xs<;>simp[FZ] at h;subst h;rfl
      | cons sh hs ih =>
       intro xs l h
       cases xs with
       | nil=>cases h
       | cons x xs =>
        simp only[FZ] at h;split at h
        ·rename_i p l' ha hl';cases h;have hk:vV (sh::hs)=sh.kinds++vV hs:=by simp[vV]
         rw[List.length_append,ih hl',hk,List.length_append];congr 1;unfold Pp at ha;split at ha
         ·split at ha
          ·cases ha;rfl
          ·cases ha
         ·exact k1 ha
         ·exact k1 ha
         ·cases ha
        ·cases h
     exact key hys
    ·intro w fvs hG hfit;refine FC hf (hC.nm g fn hf (by rw[hb];rfl)) (by rw[hb];rfl) ?_;obtain⟨B,e,hB,hdom,R,hvals⟩:=apS (s:=s) hG v1 v2 hfit;have hlen:(zK (DV ct.a (wM 0 (vV ct.a)) 0) fn.ntmps).length=fn.ntmps:=KS _ _ (by rw[uln];exact Nat.le_of_ble_eq_true hle);have hA:=sp.aw w B;simp only[hlen,Pv] at hA
     have hbound:DC (SH.den s (yZ (vV ct.a) (wM 0 (vV ct.a)) 0)) (zx (vV ct.a)):=by
      intro b hb;unfold SH.den
      cases hg:hget (yZ (vV ct.a) (wM 0 (vV ct.a)) 0) b with
      | none=>rfl
      | some o =>
       obtain⟨_,_,v,hv,_⟩:=PD v1 hfit hg;have:=(List.getElem?_eq_some_iff.1 hv).1;rw[WE (yD.len hfit).2] at this;omega
     have hcalls:=VS (E:=E) (args:=SV.aaE s (DV ct.a (wM 0 (vV ct.a)) 0)) (R:=λr H=>H=SH.den s st.H/\r=(aeY rs).den s) hf hb (by rw[Ep,uln];exact Nat.le_of_ble_eq_true hle) R hbound (λx hx r hr=>by
      rw[SV.aeX] at hx;obtain⟨y,hy,rfl⟩:=List.mem_map.1 hx;refine apT v2 r ?_;have:r∈AV.aav (SV.aaE s (DV ct.a (wM 0 (vV ct.a)) 0)):=AV.aec.2 ⟨_,by rw[SV.aeX];exact List.mem_map_of_mem hy,hr⟩
      exact SV.amE s _ this) (by
      refine AW.mono (show AW _ cd (Bq s ex st) _ _ _ from hA) ?_;rintro x N T H ⟨rfl,rfl,rfl,rfl⟩;have hres:=KT (G:=C.G) s hrs;rcases hx with rfl|rfl
      ·exact⟨_,hres,rfl,KR s rs⟩
      ·exact⟨_,hres,rfl,KR s rs⟩)
     rw[hvals] at hcalls;refine hcalls.mono ?_;rintro en w' ⟨r,e2,H2,rfl,⟨rfl,rfl⟩,R2⟩;obtain⟨fus,b1,b2,b3⟩:=aa3 (s:=s) R2 hys (λ_ _=>rfl);refine⟨fus,by rw[agY,b1],b2,λu hu b hb=>?_,apR hB R2⟩;rcases(b3 u hu).new b hb with h3|⟨j,hj,h3⟩
     ·exact .inl h3
     ·exact .inr (hdom j hj b h3)
   ·cases h
def PE (a:SV):List X:=match a with | .agg l=>l.map xX|_=>[]
def zo (Φ:yE) (t:vU SV) (l:List Int):List Int:=match Ag Φ t l with
 | some (a,l')=>evs l' (PE a) id
 | none=>[]
def WG:List AP->Nat->Option Ct
 | [],_=>none
 | c::L,id=>match Nat.beq c.id id with|true=>some ⟨c.a ++ [.agg c.ks],c.r⟩|false=>WG L id
theorem ahd:∀ {L:List AP} {id:Nat} {c:Ct},WG L id=some c->∃ s∈L,s.id=id/\c=⟨s.a ++ [.agg s.ks],s.r⟩
 | [],id,c,h=>by cases h
 | s::L,id,c,h=>by
  simp only[WG] at h;split at h
  ·rename_i hb;cases h;exact⟨s,List.mem_cons_self,xO.1 hb,rfl⟩
  ·obtain⟨s',h1,h2⟩:=ahd h;exact⟨s',List.mem_cons_of_mem _ h1,h2⟩
def M4 (C:xP):FuncId->Option Ct:=λg=>match C.nt g with|some c=>some c|none=>match C.ct g with|some c=>some c|none=>WG (C.sl (g%1000000)) g
theorem apV {C:xP} {E:xV} (hC:Br C E) {f:FuncId} {c:Ct} (h:M4 C f=some c) {l:List Int} (hl:l.length=(vV c.a).length):(C.Φ f l).length=(vV c.r).length:=by
 unfold M4 at h;split at h
 ·rename_i c' hc;cases h;exact hC.nt f c hc l hl
 ·split at h
  ·rename_i c' hc;cases h;exact hC.ct f c hc l hl
  ·obtain⟨s,h1,rfl,rfl⟩:=ahd h;exact hC.sl _ s h1 l (by rw[hl];simp[vV,Sh.kinds])
structure Uh (P:Program) (G:wQ) (e:wY):Prop where
 two:zx (vV e.ct.r)<=2
 ok:∀ l:List Int,l.length=(vV e.ct.a).length->(e.F l).length=(vV e.ct.r).length/\Io P G e.g e.ct l (e.F l)
structure yM (P:Program) (G:wQ) (e:wY):Prop where
 two:zx (vV e.ct.r)<=2
 ok:∀ l:List Int,l.length=(vV e.ct.a).length->(e.F l).length=(vV e.ct.r).length->Io P G e.g e.ct l (e.F l)
theorem Uh.c {P:Program} {G:wQ} {e:wY} (h:Uh P G e):yM P G e:=⟨h.two,λl hl _=>(h.ok l hl).2⟩
theorem GX {C:xP} {E:xV} (hC:yS C E) (n:Nat) {g:FuncId} {ct:Ct} {t:vU SV} (h2:Nat.ble (zx (vV ct.r)) 2=true) (hp:Nat.blt 0 (vV ct.r).length=true) (h:Eu C n g ct (vV ct.a).length=t) (hs:F4 (vV ct.a).length t=true) :
  yM C.P C.G ⟨g,ct,zo C.Φ t⟩:=by
 refine⟨Nat.le_of_ble_eq_true h2,λl hl hF=>?_⟩;have hp:0<(vV ct.r).length:=by simpa [Nat.blt_eq] using hp
 have hF:(zo C.Φ t l).length=(vV ct.r).length:=hF
 cases h3:Ag C.Φ t l with
 | none=>unfold zo at hF;rw[h3] at hF;simp only[List.length_nil] at hF;omega
 | some q =>
  obtain⟨a,l'⟩:=q;obtain⟨h5,m,rfl⟩:=KV h3 (by rw[hl];exact hs);rw[<- h] at h5;obtain⟨ys,rfl,h6,h7⟩:=apU hC h5 (l:=l) (by rw[<- hl];exact Ue l m);have hx:PE (Pz ys)=ys:=by simp[PE,Pz,xX,Function.comp_def]
  have hE:zo C.Φ t l=ys.map (X.den (wC (l++m))):=by unfold zo;simp only[h3,F3,id,hx]
  show Io C.P C.G g ct l (zo C.Φ t l);rw[hE];exact h7
theorem KW {C:xP} {E:xV} (hC:Br C E) {ct:Ct} : ∀ {t:vU SV} {l:List Int},Et (M4 C) ct l.length t=true->okF C.Φ ct t l
 | .leaf a,l,h=>by obtain⟨xs,hx⟩:=Option.isSome_iff_exists.1 (show(Er ct.r (GU ct.r a)).isSome=true from h);exact⟨a,l,xs,rfl,hx⟩
 | .ite c a b,l,h=>by
  have h:=xH h;have h2:=xH h.2;unfold okF;simp only[Ag]
  cases ww (c.ev l) with
  | true=>exact KW hC h2.1
  | false=>exact KW hC h2.2
 | .call f args base m t,l,h=>by
  simp only[Et] at h;split at h
  ·rename_i c hc;have h:=xH h;have h2:=xH h.2;have h3:=xH h2.2;have h4:=xH h3.2;have e1:=xO.1 h3.1;have e2:=xO.1 h4.1;unfold okF;simp only[Ag,F3];have hl:=apV hC hc (l:=args.map (X.den (wC l))) (by rw[List.length_map];exact e1);rw[hl,e2];simp only[Nat.beq_refl];refine KW hC ?_;rw[List.length_append,hl,<- e2];exact h4.2
  ·cases h
 | .stuck _,l,h=>by cases h
theorem Ip {C:xP} {E:xV} (hC:Br C E) (n:Nat) {g:FuncId} {ct:Ct} {t:vU SV} (h:xe C n g (wN ct.a (wM 0 (vV ct.a))) (vV ct.a).length=t) (hs:Et (M4 C) ct (vV ct.a).length t=true) :
  wK C.P C.G ⟨g,ct,wE C.Φ ct t⟩:=λl hl=>abl hC.ok h (M3 hs) l hl (KW hC (by rw[hl];exact hs))
def PG (c:AP):List VK:=vV c.a++c.ks
def PH (C:xP) (fuel:Nat) (g:FuncId) (c:AP):vU SV :=
 match C.P.funcs[g]? with
 | none=>.stuck "no such function"
 | some fn=>match fn.body with
  | none=>.stuck "no body"
  | some cd=>match Nat.ble (c.a.length+1) fn.ntmps with
   | true=>zk (vV c.a).length λm=>zk (m+c.ks.length) λnv=>(exec C fuel cd ⟨1,zK (wN c.a (wM 0 (vV c.a)) ++ [.sl 0 0 c.n c.n]) fn.ntmps,[(0,⟨FY c.ks (wM m c.ks),some c.t⟩)],nv,[],[]⟩).bind λr=>match yC 0 r.2.dt with
    | true=>.stuck "the slice is turned"
    | false=>match r.1 with
     | .normal=>(match Af C.P r.2.T r.2.H fn.results.toList with|some rs=>.leaf (aeY rs)|none=>.stuck "results")
     | .ret=>(match Af C.P r.2.T r.2.H fn.results.toList with|some rs=>.leaf (aeY rs)|none=>.stuck "results")
     | _=>.stuck "end"
   | false=>.stuck "arguments"
theorem abn (s:wF):∀ (a b k:Nat),Au s k (a+b)=Au s k a++Au s (k+a) b
 | 0,b,k=>by rw[Nat.zero_add];rfl
 | a+1,b,k=>by rw[show a+1+b=(a+b)+1 by omega,Au,abn s a b (k+1),Au,show k+1+a=k+(a+1) by omega];rfl
theorem apW {C:xP} {E:xV} {s:wF} (hC:yS C E) {n:Nat} {g:FuncId} {c:AP} {a:SV} {l:List Int} {v:Value} (h:(PH C n g c).path C.Φ s=some a) (hl:Au s 0 (PG c).length=l) (hv:a.den s = .v v) :
  ∀ w b,Gl C.G w->(∀ x∈C.G,x.1≠b)->w.heap[b]? = some (.cells (xu c.ks (l.drop (vV c.a).length)).toArray c.t (0,0)) ->
  Ce C.P g (xk c.a l ++ [Value.slice (some ⟨b,0,none⟩) c.n c.n]).toArray w λe w'=>e = .returned v/\vY w w':=by
 intro w b hG hgb hw;unfold PH at h;split at h
 ·cases h
 ·rename_i fn hf;split at h
  ·cases h
  ·rename_i cd hb;split at h
   ·rename_i hle;rw[yK,yK] at h;obtain⟨⟨ex,st⟩,h1,h2⟩:=vU.abA h;have sp:=(MZ (E:=E) (s:=s) hC n).1 _ _ _ _ h1 (λx hx=>by cases hx);have hle:=Nat.le_of_ble_eq_true hle;have hk:(PG c).length=(vV c.a).length+c.ks.length:=by unfold PG;rw[List.length_append]
    rw[hk,abn,Nat.zero_add] at hl;have l1:(Au s 0 (vV c.a).length).length=(vV c.a).length:=Jq _ _ _
    have hd1:l.drop (vV c.a).length=Au s (vV c.a).length c.ks.length:=by rw[<- hl,List.drop_append_of_le_length (by omega),List.drop_of_length_le (by omega)];rfl
    have hd2:xk c.a l=xk c.a (Au s 0 (vV c.a).length):=by rw[<- hl,aba _ _ _ l1]
    rw[hd1] at hw;rw[hd2];obtain⟨v1,v2⟩:=GN s (vV c.a) 0;obtain⟨u1,u2⟩:=GN s c.ks (vV c.a).length;have a1:=Jw v1 v2;have b1:=Wu u1 u2;have alen:(wN c.a (wM 0 (vV c.a))).length=c.a.length:=by rw[<- Ep s,a1,List.length_map,Px]
    let e:Env:=⟨λ_=>b,λ_=>undef⟩;let B:xB:=⟨[b],[0],e⟩;let o:SO:=⟨FY c.ks (wM (vV c.a).length c.ks),some c.t⟩
    have hH:∀ k x,SH.den s [(0,o)] k=some x->k=0/\x = .own (SV.aaE s o.c) c.t:=by
     intro k x hx;unfold SH.den at hx;simp only[hget] at hx;split at hx
     ·rename_i hb0;have:=xO.1 hb0;simp only[Option.map_some,Option.some.injEq] at hx;exact⟨this.symm,by rw[<- hx];exact SO.aCW s rfl⟩
     ·cases hx
    have hlt:b<w.heap.size:=(Array.getElem?_eq_some_iff.1 hw).1;have h00:SH.den s [(0,o)] 0=some (.own (SV.aaE s o.c) c.t):=SH.aCp rfl rfl
    have R:xh C.G w B e (SH.den s [(0,o)]) w:=by
     refine⟨rfl,rfl,rfl,Nat.le_refl _,λ_ _ _=>rfl,hG,?_,?_,?_,?_,?_,?_,?_,?_,?_,λk es hk=>by have:=(hH k _ hk).2;cases this⟩
     ·intro k c' t hk;obtain⟨rfl,hx⟩:=hH k _ hk;simp only[AO.own.injEq] at hx;rw[hx.1,hx.2,b1,Cs];exact hw
     ·intro k c' t hk;exact .inr (by simp[B,e])
     ·intro k c' t hk x hx;exact hgb x hx
     ·intro k c' t k' c'' t' hk hk' _;rw[(hH k _ hk).1,(hH k' _ hk').1]
     ·intro k n' l' hk;have:=(hH k _ hk).2;cases this
     ·intro k n' l' _ _ _ hk;have:=(hH k _ hk).2;cases this
     ·intro k x hk r hr;obtain⟨_,rfl⟩:=hH k x hk;rw[AO.refs,b1,Jd] at hr;simp at hr
     ·intro k hk;have:k=0:=by simpa [B] using hk
      subst this;exact⟨by rw[h00];simp,rfl,rfl⟩
     ·intro k n' l' hk;have:=(hH k _ hk).2;cases this
    have hbound:DC (SH.den s [(0,o)]) 1:=by
     intro k hk
     cases hx:SH.den s [(0,o)] k with
     | none=>rfl
     | some x=>have:=(hH k x hx).1;omega
    have hlen:(zK (wN c.a (wM 0 (vV c.a)) ++ [.sl 0 0 c.n c.n]) fn.ntmps).length=fn.ntmps:=KS _ _ (by rw[List.length_append,alen];simpa using hle);have hA:=sp.aw w B;simp only[hlen,Pv] at hA
    have hx:yC 0 st.dt=false/\(ex = .normal\/ex = .ret)/\∃ rs,Af C.P st.T st.H fn.results.toList=some rs/\aeY rs=a:=by
     simp only at h2;split at h2
     ·cases h2
     ·rename_i hdt;refine⟨hdt,?_⟩;rcases Pw h2 with⟨rfl,h3⟩|⟨rfl,h3⟩
      ·split at h3
       ·rename_i rs hrs;cases h3;exact⟨.inl rfl,rs,hrs,rfl⟩
       ·cases h3
      ·split at h3
       ·rename_i rs hrs;cases h3;exact⟨.inr rfl,rs,hrs,rfl⟩
       ·cases h3
    obtain⟨hdt,hx,rs,hrs,he⟩:=hx;refine FC hf (hC.nm g fn hf (by rw[hb];rfl)) (by rw[hb];rfl) ?_
    have hcalls:=VS (E:=E) (args:=SV.aaE s (wN c.a (wM 0 (vV c.a)) ++ [.sl 0 0 c.n c.n])) (R:=λr H=>H=SH.den s st.H/\r = .v v) hf hb (by rw[Ep,List.length_append,alen];simpa using hle) R hbound (λx hx r hr=>by
     rw[KM,a1] at hx;rcases List.mem_append.1 hx with hx|hx
     ·obtain⟨y,_,rfl⟩:=List.mem_map.1 hx;simp[AV.refs] at hr
     ·simp[SV.aaE,SV.den] at hx;subst hx;simp[AV.refs] at hr;subst hr
      rw[h00];simp) (by
     refine AW.mono (show AW _ cd (Bq s ex st) _ _ _ from hA) ?_;rintro x N T H ⟨rfl,rfl,rfl,rfl⟩;have hres:=KT (G:=C.G) s hrs;have hrv:GD (SV.aaE s rs) = .v v:=by rw[KR,he,hv]
     rcases hx with rfl|rfl
     ·exact⟨_,hres,rfl,hrv⟩
     ·exact⟨_,hres,rfl,hrv⟩)
    have hvals:AV.vals e (SV.aaE s (wN c.a (wM 0 (vV c.a)) ++ [.sl 0 0 c.n c.n]))=xk c.a (Au s 0 (vV c.a).length) ++ [Value.slice (some ⟨b,0,none⟩) c.n c.n]:=by rw[KM,VN,a1,Cs];rfl
    rw[hvals] at hcalls;refine hcalls.mono ?_;rintro en w' ⟨r,e2,H2,rfl,⟨rfl,rfl⟩,R2⟩;refine⟨rfl,R2.os,R2.tape,R2.output,R2.size,λk hk=>?_⟩;by_cases hkb:k=b
    ·subst hkb;have hg:hget st.H 0=some o:=(sp.dt 0 hdt).2.trans rfl;have hown:=R2.own 0 _ _ (SH.aCp hg rfl);have henv:=(R2.env 0 (by simp[B])).2.1;have henv:e2.blk 0=k:=henv;rw[henv,b1,Cs] at hown;rw[hown,hw]
    ·exact R2.old k hk (by simpa [B] using hkb)
   ·cases h
structure yU where
 g:FuncId
 c:AP
 F:List Int->List Int
structure Iq (P:Program) (G:wQ) (e:yU):Prop where
 ok:∀ l:List Int,l.length=(PG e.c).length->(e.F l).length=(vV e.c.r).length/\Wx P G e.g e.c l (e.F l)
theorem abo {C:xP} {E:xV} (hC:Br C E) (n:Nat) {g:FuncId} {c:AP} {t:vU SV} (h:PH C n g c=t) (hs:Et (M4 C) ⟨c.a,c.r⟩ (PG c).length t=true) :
  Iq C.P C.G ⟨g,c,wE C.Φ ⟨c.a,c.r⟩ t⟩:=by
 refine⟨λl hl=>?_⟩;obtain ho:=KW hC (ct:=⟨c.a,c.r⟩) (t:=t) (l:=l) (by rw[hl];exact hs);refine⟨Wz ho,?_⟩;obtain⟨a,l',xs,h1,h2⟩:=ho;obtain⟨h3,m,rfl⟩:=KV h1 (by rw[hl];exact M3 hs);rw[<- h] at h3;have hf:=KQ (wC (l++m)) h2;have hF:wE C.Φ ⟨c.a,c.r⟩ t l=xs.map (X.den (wC (l++m))):=by unfold wE;simp only[h1,h2,F3,id]
 have hv:=WA hf.1 (Px _ _);have:=apW hC.ok h3 (l:=l) (by rw[<- hl];exact Ue l m) hv;intro w b hG hgb hw;show Ce C.P g _ w λe w'=>e = .returned (xU (xk c.r (wE C.Φ ⟨c.a,c.r⟩ t l)))/\vY w w'
 rw[hF];exact this w b hG hgb hw
structure WH (P:Program) (G:wQ) (e:yU):Prop where
 ok:∀ l:List Int,l.length=(PG e.c).length->(e.F l).length=(vV e.c.r).length->Wx P G e.g e.c l (e.F l)
theorem Iq.c {P:Program} {G:wQ} {e:yU} (h:Iq P G e):WH P G e:=⟨λl hl _=>(h.ok l hl).2⟩
def abp:Value->Value->Option Bool
 | .agg xs,.agg ys=>match xs.toList,ys.toList with
  | [.int .u64 a,.int .u64 b],[.int .u64 c,.int .u64 d]=>some (a==c&&b==d)
  | _,_=>none
 | _,_=>none
def abq:Value->Value->Option Bool
 | .agg xs,.agg ys=>match xs.toList,ys.toList with
  | [.int .u64 a,.int .u64 b,.int .u64 c,.int .u64 d],[.int .u64 a',.int .u64 b',.int .u64 c',.int .u64 d']=>some (a==a'&&(b==b'&&(c==c'&&d==d')))
  | _,_=>none
 | _,_=>none
def abr:Value->Value->Option Bool
 | .agg xs,.agg ys=>match xs.toList,ys.toList with
  | [.int .u64 a,.int .u64 b,.int .u8 c],[.int .u64 a',.int .u64 b',.int .u8 c']=>some ((a==a'&&b==b')&&c==c')
  | _,_=>none
 | _,_=>none
def abt:Value->Value->Option Bool
 | .func _ _ _,.nilFunc=>some false
 | .nilFunc,.nilFunc=>some true
 | _,_=>none
def Ui:Value->Value->Option Bool
 | .agg xs,.agg ys=>match xs.toList,ys.toList with
  | [.int .i64 a,.int .u64 b,.int .u64 c,.int .u8 d],[.int .i64 a',.int .u64 b',.int .u64 c',.int .u8 d']=>some (a==a'&&((b==b'&&c==c')&&d==d'))
  | _,_=>none
 | _,_=>none
def outT (t:TypeId):Bool :=
 Nat.beq t 41 ||
  false
def KX (t:TypeId) (x y:Value):Option Bool :=
 if t=25 then abp x y else if t=188 then abq x y else if t=51 then abr x y else if t=27 then abt x y else none
def Ir (t:TypeId) (x y:Value):Option Bool:=match outT t with|true=>Ui x y|false=>KX t x y
def eE:xV:=λop t x y=>match op with
 | .eql=>match Ir t x y with|some b=>some (.bool b)|none=>none
 | .neq=>match Ir t x y with|some b=>some (.bool (!b))|none=>none
 | _=>none
theorem Uj (w:World) {k:IntKind} {e:TypeId} (hu:prog.underlying e=some (.int k)) (xs:Array Value) (i:Nat) (v:Value) (h:xs[i]? = some v):(part e xs i).run prog w = .ok v w:=by simp[part,isAgg,run_underlying hu,h]
theorem apX:(prog.fieldsOf 25).toList.map (λf=>(f.name != "_",f.offset,f.type)) = [(true,0,23),(true,1,23)]:=by kernel_rfl
theorem apY:(prog.fieldsOf 51).toList.map (λf=>(f.name != "_",f.offset,f.type)) = [(true,0,25),(true,2,39)]:=by kernel_rfl
theorem abu (w:World) (n:Nat) (a b c d:Int):(Op.equalIn (n+2) 25 (.agg #[.int .u64 a,.int .u64 b]) (.agg #[.int .u64 c,.int .u64 d])).run prog w = .ok (a==c&&b==d) w:=by
 have hu:prog.underlying 23=some (.int .u64):=by kernel_rfl
 rw[run_equalIn_struct w (n+1) _ _ _ (by kernel_rfl) (by kernel_rfl)]
 obtain⟨f0,f1,hf,h0,h1⟩:∃ f0 f1:Field,(prog.fieldsOf 25).toList = [f0,f1]/\(f0.name ≠ "_" /\ f0.offset=0/\f0.type=23)/\(f1.name ≠ "_" /\ f1.offset=1/\f1.type=23):=by
  have:=apX
  match hl:(prog.fieldsOf 25).toList with
  | [f0,f1]=>rw[hl] at this;simp at this;exact⟨f0,f1,rfl,⟨by simpa using this.1.1,this.1.2.1,this.1.2.2⟩,⟨by simpa using this.2.1,this.2.2.1,this.2.2.2⟩⟩
  | []=>rw[hl] at this;simp at this
  | [_]=>rw[hl] at this;simp at this
  | _::_::_::_=>rw[hl] at this;simp at this
 rw[hf];have p0 (x y:Value):(part 23 #[x,y] 0).run prog w = .ok x w:=Uj w hu _ _ _ rfl;have p1 (x y:Value):(part 23 #[x,y] 1).run prog w = .ok y w:=Uj w hu _ _ _ rfl;have q (x y:Int):(Op.equalIn (n+1) 23 (.int .u64 x) (.int .u64 y)).run prog w = .ok (x==y) w:=run_equalIn_int w n _ .u64 .u64 x y hu;simp only[Op.eqFields,h0.1,h0.2.1,h0.2.2,h1.1,h1.2.1,h1.2.2,ne_eq,not_true_eq_false,not_false_eq_true,if_true,Sem.run_bind,p0,p1,q,Result.andThen_ok];cases (a==c)<;>cases hbd:(b==d)<;>simp[p1,q,hbd,Op.eqFields]
theorem apZ (w:World) (a b a' b' c c':Int):(Op.equalIn 10000 51 (.agg #[.int .u64 a,.int .u64 b,.int .u8 c]) (.agg #[.int .u64 a',.int .u64 b',.int .u8 c'])).run prog w = .ok ((a==a'&&b==b')&&c==c') w:=by
 have hu:prog.underlying 39=some (.int .u8):=by kernel_rfl
 rw[run_equalIn_struct w 9999 _ _ _ (by kernel_rfl) (by kernel_rfl)]
 obtain⟨f0,f1,hf,h0,h1⟩:∃ f0 f1:Field,(prog.fieldsOf 51).toList = [f0,f1]/\(f0.name ≠ "_" /\ f0.offset=0/\f0.type=25)/\(f1.name ≠ "_" /\ f1.offset=2/\f1.type=39):=by
  have:=apY
  match hl:(prog.fieldsOf 51).toList with
  | [f0,f1]=>rw[hl] at this;simp at this;exact⟨f0,f1,rfl,⟨by simpa using this.1.1,this.1.2.1,this.1.2.2⟩,⟨by simpa using this.2.1,this.2.2.1,this.2.2.2⟩⟩
  | []=>rw[hl] at this;simp at this
  | [_]=>rw[hl] at this;simp at this
  | _::_::_::_=>rw[hl] at this;simp at this
 rw[hf]
 have p0 (x y z:Value):(part 25 #[x,y,z] 0).run prog w = .ok (.agg #[x,y]) w:=by simp[part,OA (P:=prog) (t:=25) (b:=true) (by kernel_rfl),run_sizeOf (P:=prog) (t:=25) (s:=2) (by kernel_rfl)]
 have p1 (x y z:Value):(part 39 #[x,y,z] 2).run prog w = .ok z w:=Uj w hu _ _ _ rfl;have q (x y:Int):(Op.equalIn 9999 39 (.int .u8 x) (.int .u8 y)).run prog w = .ok (x==y) w:=run_equalIn_int w 9998 _ .u8 .u8 x y hu;have qb:=abu w 9997 a b a' b';simp only[Op.eqFields,h0.1,h0.2.1,h0.2.2,h1.1,h1.2.1,h1.2.2,ne_eq,not_true_eq_false,not_false_eq_true,if_true,Sem.run_bind,p0,p1,q,qb,Result.andThen_ok];cases (a==a'&&b==b')<;>cases hcd:(c==c')<;>simp[p1,q,hcd,Op.eqFields]
theorem ap0 (w:World) (a b c d a' b' c' d':Int):(Op.equalIn 10000 188 (.agg #[.int .u64 a,.int .u64 b,.int .u64 c,.int .u64 d]) (.agg #[.int .u64 a',.int .u64 b',.int .u64 c',.int .u64 d'])).run prog w = .ok (a==a'&&(b==b'&&(c==c'&&d==d'))) w:=by
 have hu:prog.underlying 23=some (.int .u64):=by kernel_rfl
 obtain⟨i,hi⟩:∃ i,prog.info? 23=some i:=Option.isSome_iff_exists.1 (by kernel_rfl);rw[run_equalIn_array (P:=prog) (w:=w) (d:=9999) (e:=23) (n:=4) _ _ (by kernel_rfl) hi];rw[show prog.cellsOf 23=1 by kernel_rfl,show List.range 4 = [0,1,2,3] by decide];have p0 (x0 x1 x2 x3:Value):(part 23 #[x0,x1,x2,x3] 0).run prog w = .ok x0 w:=VT w hu _ _ _ rfl;have p1 (x0 x1 x2 x3:Value):(part 23 #[x0,x1,x2,x3] 1).run prog w = .ok x1 w:=VT w hu _ _ _ rfl;have p2 (x0 x1 x2 x3:Value):(part 23 #[x0,x1,x2,x3] 2).run prog w = .ok x2 w:=VT w hu _ _ _ rfl;have p3 (x0 x1 x2 x3:Value):(part 23 #[x0,x1,x2,x3] 3).run prog w = .ok x3 w:=VT w hu _ _ _ rfl;have q (x y:Int):(Op.equalIn 9999 23 (.int .u64 x) (.int .u64 y)).run prog w = .ok (x==y) w:=run_equalIn_int w 9998 _ .u64 .u64 x y hu;simp only[Op.eqItems,Sem.run_bind,Nat.mul_one];rw[p0,Result.andThen_ok,p0,Result.andThen_ok,q,Result.andThen_ok];cases (a==a')
 ·rfl
 rw[if_neg (by decide)];simp only[Sem.run_bind];rw[p1,Result.andThen_ok,p1,Result.andThen_ok,q,Result.andThen_ok];cases (b==b')
 ·rfl
 rw[if_neg (by decide)];simp only[Sem.run_bind];rw[p2,Result.andThen_ok,p2,Result.andThen_ok,q,Result.andThen_ok];cases (c==c')
 ·rfl
 rw[if_neg (by decide)];simp only[Sem.run_bind];rw[p3,Result.andThen_ok,p3,Result.andThen_ok,q,Result.andThen_ok];cases (d==d')
 ·rfl
 rfl
theorem ap1:(prog.fieldsOf 41).toList.map (λf=>(f.name != "_",f.offset,f.type)) = [(true,0,38),(true,1,25),(true,3,39)]:=by kernel_rfl
theorem ap2 (w:World) (a b c d a' b' c' d':Int):(Op.equalIn 10000 41 (.agg #[.int .i64 a,.int .u64 b,.int .u64 c,.int .u8 d]) (.agg #[.int .i64 a',.int .u64 b',.int .u64 c',.int .u8 d'])).run prog w = .ok (a==a'&&((b==b'&&c==c')&&d==d')) w:=by
 have hu:prog.underlying 39=some (.int .u8):=by kernel_rfl
 have he:prog.underlying 38=some (.int .i64):=by kernel_rfl
 rw[run_equalIn_struct w 9999 _ _ _ (by kernel_rfl) (by kernel_rfl)]
 obtain⟨f0,f1,f2,hf,h0,h1,h2⟩:∃ f0 f1 f2:Field,(prog.fieldsOf 41).toList = [f0,f1,f2]/\(f0.name ≠ "_" /\ f0.offset=0/\f0.type=38)/\(f1.name ≠ "_" /\ f1.offset=1/\f1.type=25)/\(f2.name ≠ "_" /\ f2.offset=3/\f2.type=39):=by
  have:=ap1
  match hl:(prog.fieldsOf 41).toList with
  | [f0,f1,f2]=>rw[hl] at this;simp at this;exact⟨f0,f1,f2,rfl,⟨by simpa using this.1.1,this.1.2.1,this.1.2.2⟩,⟨by simpa using this.2.1.1,this.2.1.2.1,this.2.1.2.2⟩,⟨by simpa using this.2.2.1,this.2.2.2.1,this.2.2.2.2⟩⟩
  | []=>rw[hl] at this;simp at this
  | [_]=>rw[hl] at this;simp at this
  | [_,_]=>rw[hl] at this;simp at this
  | _::_::_::_::_=>rw[hl] at this;simp at this
 rw[hf];have p0 (x y z u:Value):(part 38 #[x,y,z,u] 0).run prog w = .ok x w:=Uj w he _ _ _ rfl
 have p1 (x y z u:Value):(part 25 #[x,y,z,u] 1).run prog w = .ok (.agg #[y,z]) w:=by simp[part,OA (P:=prog) (t:=25) (b:=true) (by kernel_rfl),run_sizeOf (P:=prog) (t:=25) (s:=2) (by kernel_rfl)]
 have p2 (x y z u:Value):(part 39 #[x,y,z,u] 3).run prog w = .ok u w:=Uj w hu _ _ _ rfl;have q0 (x y:Int):(Op.equalIn 9999 38 (.int .i64 x) (.int .i64 y)).run prog w = .ok (x==y) w:=run_equalIn_int w 9998 _ .i64 .i64 x y he;have q2 (x y:Int):(Op.equalIn 9999 39 (.int .u8 x) (.int .u8 y)).run prog w = .ok (x==y) w:=run_equalIn_int w 9998 _ .u8 .u8 x y hu;have qb:=abu w 9997 b c b' c';simp only[Op.eqFields,h0.1,h0.2.1,h0.2.2,h1.1,h1.2.1,h1.2.2,h2.1,h2.2.1,h2.2.2,ne_eq,not_true_eq_false,not_false_eq_true,if_true,Sem.run_bind,p0,p1,p2,q0,q2,qb,Result.andThen_ok];cases hab:(a==a')
 ·simp
 ·cases hbc:(b==b'&&c==c')<;>cases hdd:(d==d')<;>simp[p0,p1,p2,q0,q2,qb,hbc,hdd,Op.eqFields]
theorem ap3 {t:TypeId} {x y:Value} {b:Bool} (ht:outT t=true) (h:Ui x y=some b) (w:World):(∀ op xo yo,(eqGuard op t xo yo x y).run prog w = .ok () w)/\(binOp .eql t x y).run prog w = .ok (.bool b) w/\(binOp .neq t x y).run prog w = .ok (.bool (!b)) w:=by
 have ht2:t=41:=by unfold outT at ht;rw[Bool.or_false] at ht;exact xO.1 ht
 subst ht2
 have agg:∀ (xs ys:Array Value),prog.eqGuardType prog.depth 41=false->(Op.equalIn 10000 41 (.agg xs) (.agg ys)).run prog w = .ok b w ->
   (∀ op xo yo,(eqGuard op 41 xo yo (.agg xs) (.agg ys)).run prog w = .ok () w)/\(binOp .eql 41 (.agg xs) (.agg ys)).run prog w = .ok (.bool b) w/\(binOp .neq 41 (.agg xs) (.agg ys)).run prog w = .ok (.bool (!b)) w:=by
  intro xs ys hg he;refine⟨λop xo yo=>run_eqGuard_agg w op _ xo yo xs ys hg,?_,?_⟩
  ·rw[run_eql_struct,he];rfl
  ·rw[run_neq_struct,he];rfl
 have lst:∀ {xs:Array Value} {l:List Value},xs.toList=l->xs=l.toArray:=λh=>by rw[<- h]
 unfold Ui at h;split at h
 ·split at h
  ·rename_i h1 h2;cases h;rw[lst h1,lst h2];exact agg _ _ (by kernel_rfl) (ap2 w _ _ _ _ _ _ _ _)
  ·cases h
 ·cases h
theorem ap4 {t:TypeId} {x y:Value} {b:Bool} (h:KX t x y=some b) (w:World):(∀ op xo yo,(eqGuard op t xo yo x y).run prog w = .ok () w)/\(binOp .eql t x y).run prog w = .ok (.bool b) w/\(binOp .neq t x y).run prog w = .ok (.bool (!b)) w:=by
 have agg:∀ (xs ys:Array Value),prog.eqGuardType prog.depth t=false->(Op.equalIn 10000 t (.agg xs) (.agg ys)).run prog w = .ok b w ->
   (∀ op xo yo,(eqGuard op t xo yo (.agg xs) (.agg ys)).run prog w = .ok () w)/\(binOp .eql t (.agg xs) (.agg ys)).run prog w = .ok (.bool b) w/\(binOp .neq t (.agg xs) (.agg ys)).run prog w = .ok (.bool (!b)) w:=by
  intro xs ys hg he;refine⟨λop xo yo=>run_eqGuard_agg w op t xo yo xs ys hg,?_,?_⟩
  ·rw[run_eql_struct,he];rfl
  ·rw[run_neq_struct,he];rfl
 have lst:∀ {xs:Array Value} {l:List Value},xs.toList=l->xs=l.toArray:=λh=>by rw[<- h]
 unfold KX at h;split at h
 ·rename_i ht;subst ht;unfold abp at h;split at h
  ·split at h
   ·rename_i h1 h2;cases h;rw[lst h1,lst h2];exact agg _ _ (by kernel_rfl) (abu w 9998 _ _ _ _)
   ·cases h
  ·cases h
 ·split at h
  ·rename_i ht;subst ht;unfold abq at h;split at h
   ·split at h
    ·rename_i h1 h2;cases h;rw[lst h1,lst h2];exact agg _ _ (by kernel_rfl) (ap0 w _ _ _ _ _ _ _ _)
    ·cases h
   ·cases h
  ·split at h
   ·rename_i ht;subst ht;unfold abr at h;split at h
    ·split at h
     ·rename_i h1 h2;cases h;rw[lst h1,lst h2];exact agg _ _ (by kernel_rfl) (apZ w _ _ _ _ _ _)
     ·cases h
    ·cases h
   ·split at h
    ·rename_i ht;subst ht;have hu:=underlying27;unfold abt at h;split at h
     ·cases h;refine⟨λop xo yo=>by cases op<;>rfl,?_,?_⟩
      ·simp only[binOp];simp[Op.equal,Op.maxDepth];show((Op.equalIn (9999+1) _ _ _).run _ w).andThen _=_;rw[Op.equalIn];simp[run_underlying hu]
      ·simp only[binOp];simp[Op.equal,Op.maxDepth];show((Op.equalIn (9999+1) _ _ _).run _ w).andThen _=_;rw[Op.equalIn];simp[run_underlying hu]
     ·cases h;refine⟨λop xo yo=>by cases op<;>rfl,?_,?_⟩
      ·simp only[binOp];simp[Op.equal,Op.maxDepth];show((Op.equalIn (9999+1) _ _ _).run _ w).andThen _=_;rw[Op.equalIn];simp[run_underlying hu]
      ·simp only[binOp];simp[Op.equal,Op.maxDepth];show((Op.equalIn (9999+1) _ _ _).run _ w).andThen _=_;rw[Op.equalIn];simp[run_underlying hu]
     ·cases h
    ·cases h
theorem abv {t:TypeId} {x y:Value} {b:Bool} (h:Ir t x y=some b) (w:World):(∀ op xo yo,(eqGuard op t xo yo x y).run prog w = .ok () w)/\(binOp .eql t x y).run prog w = .ok (.bool b) w/\(binOp .neq t x y).run prog w = .ok (.bool (!b)) w:=by
 unfold Ir at h;split at h
 ·rename_i ht;exact ap3 ht h w
 ·exact ap4 h w
theorem WI {t:TypeId} (ho:outT t=false) (x y:Value):Ir t x y=KX t x y:=by unfold Ir;rw[ho]
theorem ap5 {t:TypeId} (ho:outT t=true) (x y:Value):Ir t x y=Ui x y:=by unfold Ir;rw[ho]
theorem eOK:Jf prog eE:=by
 intro op t x y v h xo yo w;unfold eE at h;split at h
 ·split at h
  ·rename_i b hb;cases h;obtain⟨h1,h2,h3⟩:=abv hb w;simp only[Sem.run_bind,h1,h2,Result.andThen_ok]
  ·cases h
 ·split at h
  ·rename_i b hb;cases h;obtain⟨h1,h2,h3⟩:=abv hb w;simp only[Sem.run_bind,h1,h3,Result.andThen_ok]
  ·cases h
 ·cases h
def AR:List IntKind->List SV->List SV->Option X
 | [],[],[]=>some (.lit (.ofNat 1))
 | k::ks,.int k1 a::l,.int k2 b::m=>match AC k k1,AC k k2,AR ks l m with
  | true,true,some r=>some (mkAnd (zm .eql k a b) r)
  | _,_,_=>none
 | _,_,_=>none
def M5:List IntKind->List Int->List Value
 | k::ks,n::ns=>.int k n::M5 ks ns
 | _,_=>[]
def KY:List Int->List Int->Bool
 | a::us,b::zs=>a==b&&KY us zs
 | _,_=>true
theorem ahe (s:wF):∀ {ks:List IntKind} {l m:List SV} {r:X},AR ks l m=some r->∃ us zs:List Int,SV.aaE s l=(M5 ks us).map .v/\SV.aaE s m=(M5 ks zs).map .v/\us.length=ks.length/\zs.length=ks.length/\(r.den s != 0)=KY us zs
 | [],[],[],r,h=>by cases h;exact⟨[],[],rfl,rfl,rfl,rfl,rfl⟩
 | k::ks,.int k1 a::l,.int k2 b::m,r,h=>by
  simp only[AR] at h;split at h
  ·rename_i q h1 h2 h3;cases h;have h1:=Cu h1;have h2:=Cu h2;subst h1;subst h2;obtain⟨us,zs,e1,e2,e3,e4,e5⟩:=ahe s h3;refine⟨a.den s::us,b.den s::zs,?_,?_,by simp[e3],by simp[e4],?_⟩
   ·rw[SV.aaE,e1];rfl
   ·rw[SV.aaE,e2];rfl
   ·rw[aoM,yX,KG,e5];simp only[wJ,yX,KY]
  ·cases h
 | [],[],_::_,r,h=>by simp[AR] at h
 | [],_::_,_,r,h=>by simp[AR] at h
 | _::_,[],_,r,h=>by simp[AR] at h
 | _::_,.int _ _::_,[],r,h=>by simp[AR] at h
 | _::_,.int _ _::_,.v _::_,r,h=>by simp[AR] at h
 | _::_,.int _ _::_,.bool _::_,r,h=>by simp[AR] at h
 | _::_,.int _ _::_,.loc _ _::_,r,h=>by simp[AR] at h
 | _::_,.int _ _::_,.sl _ _ _ _::_,r,h=>by simp[AR] at h
 | _::_,.int _ _::_,.fn _ _ _::_,r,h=>by simp[AR] at h
 | _::_,.int _ _::_,.tup _::_,r,h=>by simp[AR] at h
 | _::_,.int _ _::_,.agg _::_,r,h=>by simp[AR] at h
 | _::_,.v _::_,_,r,h=>by simp[AR] at h
 | _::_,.bool _::_,_,r,h=>by simp[AR] at h
 | _::_,.loc _ _::_,_,r,h=>by simp[AR] at h
 | _::_,.sl _ _ _ _::_,_,r,h=>by simp[AR] at h
 | _::_,.fn _ _ _::_,_,r,h=>by simp[AR] at h
 | _::_,.tup _::_,_,r,h=>by simp[AR] at h
 | _::_,.agg _::_,_,r,h=>by simp[AR] at h
def WJ:SV->Option (List SV)
 | .agg l=>some l
 | .v (.agg cs)=>some (cs.toList.map Cv)
 | _=>none
theorem ahf {s:wF} {x:SV} {l:List SV} {vs:List Value} (h:WJ x=some l) (hd:SV.aaE s l=vs.map .v):x.den s = .v (.agg vs.toArray):=by
 unfold WJ at h;split at h
 ·cases h;simp only[SV.den,hd,VZ]
 ·rename_i cs;cases h;rw[FQ] at hd;have:=congrArg yF hd;rw[KI,KI] at this;have:=Option.some.inj this;simp only[SV.den,<- this]
 ·cases h
def WK:SV->Option (Option Value)
 | .v .nilFunc=>some none
 | .v (.func f a c)=>some (some (.func f a c))
 | .fn f [] []=>some (some (.func f #[] #[]))
 | _=>none
def ahg (t:TypeId):Option (List IntKind):=match outT t with
 | true=>some [.i64,.u64,.u64,.u8]
 | false=>match Nat.beq t 25 with
 | true=>some [.u64,.u64]
 | false=>match Nat.beq t 188 with
  | true=>some [.u64,.u64,.u64,.u64]
  | false=>match Nat.beq t 51 with
   | true=>some [.u64,.u64,.u8]
   | false=>none
def Uk:Pj:=λt x y=>match ahg t with
 | some ks=>match WJ x,WJ y with
  | some l,some m=>AR ks l m
  | _,_=>none
 | none=>match Nat.beq t 27 with
  | true=>match WK x,WK y with
   | some (some _),some none=>some (.lit (.ofNat 0))
   | some none,some none=>some (.lit (.ofNat 1))
   | _,_=>none
  | false=>none
theorem abx:Wi prog Uk eE:=by
 intro t x y r s h;unfold Uk at h;have pb:∀ (u v:List Value) op,Bj prog op t (.agg u.toArray) (.agg v.toArray)=none:=λu v op=>rfl
 have fin:∀ (a b:Value) (q:Bool),Bj prog .eql t a b=none->Bj prog .neq t a b=none->Ir t a b=some q->x.den s = .v a->y.den s = .v b->(r.den s != 0)=q ->
   ∃ a b,x.den s = .v a/\y.den s = .v b/\Bj prog .eql t a b=none/\Bj prog .neq t a b=none/\eE .eql t a b=some (.bool (r.den s != 0))/\eE .neq t a b=some (.bool (!(r.den s != 0))):=λa b q h1 h2 h3 h4 h5 h6 =>
  ⟨a,b,h4,h5,h1,h2,by simp only[eE,h3,h6],by simp only[eE,h3,h6]⟩
 split at h
 ·rename_i ks hk;split at h
  ·rename_i l m hl hm;obtain⟨us,zs,e1,e2,e3,e4,e5⟩:=ahe s h;have hx:=ahf hl e1;have hy:=ahf hm e2;refine fin _ _ (KY us zs) (pb _ _ _) (pb _ _ _) ?_ hx hy e5;unfold ahg at hk;split at hk
   ·rename_i ho;cases hk
    match us,zs,e3,e4 with
    | [a,b,c,d],[a',b',c',d'],_,_ =>
     rw[ap5 ho];simp only[Ui,M5,KY,Bool.and_true,Bool.and_assoc]
   rename_i ho;split at hk
   ·rename_i ht;cases hk;have ht:=xO.1 ht
    match us,zs,e3,e4 with
    | [a,b],[c,d],_,_ =>
     rw[WI ho];unfold KX;rw[if_pos ht];simp only[abp,M5,KY,Bool.and_true]
   ·rename_i ht0;split at hk
    ·rename_i ht;cases hk;have ht:=xO.1 ht
     match us,zs,e3,e4 with
     | [a,b,c,d],[a',b',c',d'],_,_ =>
      rw[WI ho];unfold KX;rw[if_neg (λe=>by rw[e] at ht0;simp at ht0),if_pos ht];simp only[abq,M5,KY,Bool.and_true]
    ·rename_i ht1;split at hk
     ·rename_i ht;cases hk;have ht:=xO.1 ht
      match us,zs,e3,e4 with
      | [a,b,c],[a',b',c'],_,_ =>
       rw[WI ho];unfold KX;rw[if_neg (λe=>by rw[e] at ht0;simp at ht0),if_neg (λe=>by rw[e] at ht1;simp at ht1),if_pos ht];simp only[abr,M5,KY,Bool.and_true,Bool.and_assoc]
     ·cases hk
  ·cases h
 ·split at h
  ·rename_i hk ht;have ht:=xO.1 ht
   have hf:∀ {z:SV} {o:Option Value},WK z=some o->z.den s = .v (match o with|none=>.nilFunc|some v=>v)/\∀ v,o=some v->∃ f a c,v = .func f a c:=λ{z} {o} hz=>by
    unfold WK at hz;split at hz
    ·cases hz;exact⟨rfl,λv hv=>by cases hv⟩
    ·cases hz;exact⟨rfl,λv hv=>by cases hv;exact⟨_,_,_,rfl⟩⟩
    ·cases hz;exact⟨rfl,λv hv=>by cases hv;exact⟨_,_,_,rfl⟩⟩
    ·cases hz
   have hne:t≠25/\t≠188/\t≠51:=by rw[ht];decide
   have ho:outT t=false:=by rw[ht];rfl
   have at':∀ a b,Ir t a b=abt a b:=λa b=>by rw[WI ho];unfold KX;rw[if_neg hne.1,if_neg hne.2.1,if_neg hne.2.2,if_pos ht]
   split at h
   ·rename_i v h1 h2;cases h;obtain⟨hx,hv⟩:=hf h1;obtain⟨hy,_⟩:=hf h2;obtain⟨f,a,c,rfl⟩:=hv v rfl;exact fin _ _ false rfl rfl (by rw[at'];rfl) hx hy rfl
   ·rename_i h1 h2;cases h;obtain⟨hx,_⟩:=hf h1;obtain⟨hy,_⟩:=hf h2;exact fin _ _ true rfl rfl (by rw[at'];rfl) hx hy rfl
   ·cases h
  ·cases h
noncomputable def cE:xP:=⟨prog,gG,Uk,λ_=>none,λ_ _=>[],λ_=>none,λ_=>[]⟩
theorem ap6:(prog.funcs.toList.all λfn=>fn.body.isNone || !(fn.name == "runtime.NumGoroutine"))=true:=by kernel_rfl
theorem WL:yS cE eE:=by
 refine⟨abx,eOK,by kernel_rfl,?_,λg ct h=>(by cases h),λg ct h=>(by cases h),λg c h=>(by cases h)⟩;intro g fn hf hb;have h:=List.all_eq_true.1 ap6 fn (Array.mem_toList_iff.2 (Array.mem_of_getElem? hf));rw[Bool.or_eq_true] at h;rcases h with h|h
 ·rw[Option.isNone_iff_eq_none] at h;rw[h] at hb;cases hb
 ·simpa using h
abbrev kU:VK:=.int .u64
abbrev kI:VK:=.int .i64
abbrev kB:VK:=.int .u8
abbrev EY:Sh:=.agg [kU,kU,kU,kU]
def u64 (n:Int):Int:=zC .u64 n
theorem DW (n:Int):Ac (u64 n):=by unfold u64;rw[yJ];show 0<=_/\_<(18446744073709551616:Int);unfold IntKind.wrap IntKind.bits IntKind.signed;simp;omega
theorem aby {n:Int} (h:Ac n):IntKind.u64.wrap n=n:=by have h1:=h.1;have h2:n<18446744073709551616:=h.2;unfold IntKind.wrap IntKind.bits IntKind.signed;simp;omega
def yN (n:Int):Int:=wh (ww n)
theorem abz (n:Int):0<=yN n/\yN n<=1:=by unfold yN;cases ww n<;>decide
theorem WM {n:Int} (h:0<=n/\n<=1):wh (n != 0)=n:=by rcases(show n=0\/n=1 by omega) with rfl|rfl<;>rfl
theorem Iu (n:Int):yw kU n = .int .u64 (u64 n):=by simp only[yw,u64,yJ]
theorem ahh (n:Int):yw .bit n = .int .u64 (yN n):=by simp only[yw,yN,zR]
theorem ahi {g:FuncId} {vs:List Value} {v:Value} (h:∀ w,(callFunc g vs.toArray).run prog w = .ok (.value v) w):PC prog gG g vs v:=λw _=>by unfold Ce;rw[h w];exact⟨rfl,vY.refl w⟩
theorem three {α:Type} {l:List α} (h:l.length=3):∃ a b c,l = [a,b,c]:=by match l,h with | [a,b,c],_=>exact⟨a,b,c,rfl⟩
theorem two {α:Type} {l:List α} (h:l.length=2):∃ a b,l = [a,b]:=by match l,h with | [a,b],_=>exact⟨a,b,rfl⟩
theorem one' {α:Type} {l:List α} (h:l.length=1):∃ a,l = [a]:=by match l,h with | [a],_=>exact⟨a,rfl⟩
theorem four {α:Type} {l:List α} (h:l.length=4):∃ a b c d,l = [a,b,c,d]:=by match l,h with | [a,b,c,d],_=>exact⟨a,b,c,d,rfl⟩
theorem eight {α:Type} {l:List α} (h:l.length=8):∃ a b c d e f g i,l = [a,b,c,d,e,f,g,i]:=by match l,h with | [a,b,c,d,e,f,g,i],_=>exact⟨a,b,c,d,e,f,g,i,rfl⟩
def M6 (l:List Int):List Int:=[DI (u64 (wC l 0)) (u64 (wC l 1)) (yN (wC l 2)),Ar (u64 (wC l 0)) (u64 (wC l 1)) (yN (wC l 2))]
def M7 (l:List Int):List Int:=[Df (u64 (wC l 0)) (u64 (wC l 1)) (yN (wC l 2)),Aj (u64 (wC l 0)) (u64 (wC l 1)) (yN (wC l 2))]
def PI (l:List Int):List Int:=[u64 (wC l 0)*u64 (wC l 1)/(vZ:Int),u64 (wC l 0)*u64 (wC l 1)%(vZ:Int)]
def JD (l:List Int):List Int:=[(Lib.bitLen (u64 (wC l 0)).toNat:Int)]
theorem ap7 (x y c:Int):Ac (DI x y c):=by unfold DI;exact⟨Int.emod_nonneg _ (by decide),Int.emod_lt_of_pos _ (by decide)⟩
theorem ap8 (x y c:Int):Ac (Df x y c):=by unfold Df;exact⟨Int.emod_nonneg _ (by decide),Int.emod_lt_of_pos _ (by decide)⟩
theorem ap9 {x y c:Int} (hx:Ac x) (hy:Ac y) (hc:0<=c/\c<=1):0<=Ar x y c/\Ar x y c<=1:=by have h1:=hx.1;have h2:x<18446744073709551616:=hx.2;have h3:=hy.1;have h4:y<18446744073709551616:=hy.2;unfold Ar;show 0<=(x+y+c)/18446744073709551616/\(x+y+c)/18446744073709551616<=1;omega
theorem aqa (x y c:Int):0<=Aj x y c/\Aj x y c<=1:=by unfold Aj;split<;>decide
theorem aqb:wK prog gG ⟨75,⟨[.sc kU,.sc kU,.sc .bit],[.sc kU,.sc .bit]⟩,M6⟩:=by
 intro l hl;obtain⟨a,b,c,rfl⟩:=three hl;refine⟨rfl,?_⟩;have h:=ahi (g:=75) (vs:=[_,_,_]) (af3 (u64 a) (u64 b) (yN c) (DW a) (DW b) (abz c));have e1:=aby (ap7 (u64 a) (u64 b) (yN c));have e2:=WM (ap9 (DW a) (DW b) (abz c));simp only[xk,yL,Sh.kinds,List.drop_succ_cons,List.drop_zero,List.length_cons,List.length_nil,Iu,ahh,M6,wC,xU];have e3:u64 (DI (u64 a) (u64 b) (yN c))=DI (u64 a) (u64 b) (yN c):=by conv => { lhs;unfold u64 };rw[yJ];exact e1
 have e4:yN (Ar (u64 a) (u64 b) (yN c))=Ar (u64 a) (u64 b) (yN c):=by conv => { lhs;unfold yN };rw[zR];exact e2
 rw[e3,e4];exact h
theorem aqc:wK prog gG ⟨228,⟨[.sc kU,.sc kU,.sc .bit],[.sc kU,.sc .bit]⟩,M7⟩:=by
 intro l hl;obtain⟨a,b,c,rfl⟩:=three hl;refine⟨rfl,?_⟩;have h:=ahi (g:=228) (vs:=[_,_,_]) (af4 (u64 a) (u64 b) (yN c) (DW a) (DW b) (abz c));have e1:=aby (ap8 (u64 a) (u64 b) (yN c));have e2:=WM (aqa (u64 a) (u64 b) (yN c));simp only[xk,yL,Sh.kinds,List.drop_succ_cons,List.drop_zero,List.length_cons,List.length_nil,Iu,ahh,M7,wC,xU];have e3:u64 (Df (u64 a) (u64 b) (yN c))=Df (u64 a) (u64 b) (yN c):=by conv => { lhs;unfold u64 };rw[yJ];exact e1
 have e4:yN (Aj (u64 a) (u64 b) (yN c))=Aj (u64 a) (u64 b) (yN c):=by conv => { lhs;unfold yN };rw[zR];exact e2
 rw[e3,e4];exact h
theorem Iw {n:Int} (h:Ac n):u64 n=n:=by unfold u64;rw[yJ];exact aby h
theorem aqd {x y:Int} (hx:Ac x) (hy:Ac y):Ac (x*y/(vZ:Int)):=by obtain⟨a,rfl,ha⟩:=hx.nat;obtain⟨b,rfl,hb⟩:=hy.nat;rw[(af5 ha hb).1];exact FD _ _
theorem aqe:wK prog gG ⟨288,⟨[.sc kU,.sc kU],[.sc kU,.sc kU]⟩,PI⟩:=by
 intro l hl;obtain⟨a,b,rfl⟩:=two hl;refine⟨rfl,?_⟩
 have h:PC prog gG 288 [.int .u64 (u64 a),.int .u64 (u64 b)] (.tuple #[.int .u64 (u64 a*u64 b/(vZ:Int)),.int .u64 (u64 a*u64 b%(vZ:Int))]) :=
  Tk func288 (by kernel_rfl) (by kernel_rfl) λw=>(aoh (u64 a) (u64 b) w (DW a) (DW b)).mono λe w' ⟨h1,h2⟩=>⟨h1,by rw[<- h2];exact vY.refl w⟩
 simp only[xk,yL,Sh.kinds,List.drop_succ_cons,List.drop_zero,List.length_cons,List.length_nil,Iu,PI,wC,xU];rw[Iw (aqd (DW a) (DW b)),Iw (n:=u64 a*u64 b%(vZ:Int)) ⟨Int.emod_nonneg _ (by decide),Int.emod_lt_of_pos _ (by decide)⟩];exact h
theorem bitLen_le (n : Nat) (h : n < vZ) : Lib.bitLen n <= 64 := by
  unfold Lib.bitLen
  have key : ∀ f x, Lib.bitLenAux f x <= f := by
    intro f
    induction f with
    | zero => intro x; exact Nat.le_refl _
    | succ f ih => intro x; unfold Lib.bitLenAux; split
                   · omega
                   · have := ih (x / 2); omega
  exact key _ _
theorem aqf:wK prog gG ⟨263,⟨[.sc kU],[.sc kI]⟩,JD⟩:=by
 intro l hl;obtain⟨a,rfl⟩:=one' hl;refine⟨rfl,?_⟩
 have h:PC prog gG 263 [.int .u64 (u64 a)] (.int .i64 (Lib.bitLen (u64 a).toNat:Int)) :=
  Tk func263 (by kernel_rfl) (by kernel_rfl) λw=>(aoi (u64 a) w (DW a)).mono λe w' ⟨h1,h2⟩=>⟨h1,by rw[<- h2];exact vY.refl w⟩
 have hb:=bitLen_le (u64 a).toNat (by have h1:=(DW a).1;have h2:=(DW a).2;omega);simp only[xk,yL,Iu,JD,wC,xU]
 have e:yw kI (Lib.bitLen (u64 a).toNat:Int) = .int .i64 (Lib.bitLen (u64 a).toNat:Int):=by simp only[yw];rw[wrap_i64 (by omega)]
 rw[e];exact h
def JF (l:List Int):List Int:=[wh (O1 (zC .u8 (wC l 0)) (ww (wC l 1)) (ww (wC l 2)) (zC .u8 (wC l 3)))]
theorem aqg:wK prog gG ⟨243,⟨[.sc kB,.sc .bool,.sc .bool,.sc kB],[.sc .bool]⟩,JF⟩:=by
 intro l hl;obtain⟨a,b,c,d,rfl⟩:=four hl;refine⟨rfl,?_⟩
 have h:PC prog gG 243 [.int .u8 (zC .u8 a),.bool (ww b),.bool (ww c),.int .u8 (zC .u8 d)] (.bool (O1 (zC .u8 a) (ww b) (ww c) (zC .u8 d))) :=
  Tk func243 (by kernel_rfl) (by kernel_rfl) λw=>aoH _ _ _ _ w
 simp only[xk,yL,Sh.kinds,List.drop_succ_cons,List.drop_zero,List.length_cons,List.length_nil,yw,JF,wC,xU,yX,<- yJ,<- zR];simp only[zR,yX] at h ⊢;exact h
def w4 (l:List Int) (i:Nat):Nat:=(u64 (wC l i)).toNat+vZ*((u64 (wC l (i+1))).toNat+vZ*((u64 (wC l (i+2))).toNat+vZ*(u64 (wC l (i+3))).toNat))
theorem zD (n:Int):((u64 n).toNat:Int)=u64 n/\(u64 n).toNat<vZ:=by have h:=DW n;exact⟨Int.toNat_of_nonneg h.1,by have:=h.2;have:=h.1;omega⟩
theorem ahj (a b c d:Nat) (ha:a<vZ) (hb:b<vZ) (hc:c<vZ) (hd:d<vZ):wd (a+vZ*(b+vZ*(c+vZ*d))) 0=a/\wd (a+vZ*(b+vZ*(c+vZ*d))) 1=b/\wd (a+vZ*(b+vZ*(c+vZ*d))) 2=c /\
  wd (a+vZ*(b+vZ*(c+vZ*d))) 3=d/\a+vZ*(b+vZ*(c+vZ*d))<wG:=by
 have hW:vZ=18446744073709551616:=rfl;unfold wd wG wy;rw[Nat.pow_zero,Nat.pow_one,show vZ^2=vZ*vZ by rw[Nat.pow_two],show vZ^3=vZ*(vZ*vZ) by rw[Nat.pow_succ,Nat.pow_two,Nat.mul_comm]];have d1:(a+vZ*(b+vZ*(c+vZ*d)))/vZ=b+vZ*(c+vZ*d):=by rw[Nat.add_mul_div_left _ _ zu,Nat.div_eq_of_lt ha,Nat.zero_add]
 have d2:(b+vZ*(c+vZ*d))/vZ=c+vZ*d:=by rw[Nat.add_mul_div_left _ _ zu,Nat.div_eq_of_lt hb,Nat.zero_add]
 have d3:(c+vZ*d)/vZ=d:=by rw[Nat.add_mul_div_left _ _ zu,Nat.div_eq_of_lt hc,Nat.zero_add]
 rw[<- Nat.div_div_eq_div_mul,<- Nat.div_div_eq_div_mul,<- Nat.div_div_eq_div_mul,d1,d2,d3,Nat.div_one];refine⟨?_,?_,?_,?_,?_⟩
 ·rw[Nat.add_mul_mod_self_left,Nat.mod_eq_of_lt ha]
 ·rw[Nat.add_mul_mod_self_left,Nat.mod_eq_of_lt hb]
 ·rw[Nat.add_mul_mod_self_left,Nat.mod_eq_of_lt hc]
 ·rw[Nat.mod_eq_of_lt hd]
 ·have ha':a<18446744073709551616:=ha;have hb':b<18446744073709551616:=hb;have hc':c<18446744073709551616:=hc;have hd':d<18446744073709551616:=hd;clear d1 d2 d3 ha hb hc hd hW;show a+18446744073709551616*(b+18446744073709551616*(c+18446744073709551616*d))<115792089237316195423570985008687907853269984665640564039457584007913129639936;omega
theorem KZ (l:List Int) (i:Nat):vW (w4 l i) = .agg #[.int .u64 (u64 (wC l i)),.int .u64 (u64 (wC l (i+1))),.int .u64 (u64 (wC l (i+2))),.int .u64 (u64 (wC l (i+3)))]/\w4 l i<wG:=by obtain⟨h0,h1,h2,h3,h4⟩:=ahj _ _ _ _ (zD (wC l i)).2 (zD (wC l (i+1))).2 (zD (wC l (i+2))).2 (zD (wC l (i+3))).2;unfold w4 vW;rw[h0,h1,h2,h3,(zD _).1,(zD _).1,(zD _).1,(zD _).1];exact⟨rfl,h4⟩
def K9 (s:Nat) (b:Bool):List Int:=[wd s 0,wd s 1,wd s 2,wd s 3,wh b]
theorem ahk (s:Nat) (b:Bool):xU (xk [EY,.sc .bool] (K9 s b)) = .tuple #[vW s,.bool b]:=by simp only[xk,yL,xu,Sh.kinds,List.drop_succ_cons,List.drop_zero,List.length_cons,List.length_nil,Iu,K9,xU,Iw (FD _ _)];simp only[yw,yX]
def Iy (l:List Int):List Int:=K9 (w4 l 0+w4 l 4) (Nat.ble wG (w4 l 0+w4 l 4))
theorem aqh:wK prog gG ⟨157,⟨[EY,EY],[EY,.sc .bool]⟩,Iy⟩:=by
 intro l hl;refine⟨rfl,?_⟩
 have h:PC prog gG 157 [vW (w4 l 0),vW (w4 l 4)] (.tuple #[vW (w4 l 0+w4 l 4),.bool (decide (wG<=w4 l 0+w4 l 4))]) :=
  Tk func157 (by kernel_rfl) (by kernel_rfl) λw=>aov _ _ w (KZ l 0).2 (KZ l 4).2
 obtain⟨a,b,c,d,e,f,g,i,rfl⟩:=eight hl;unfold Iy
 rw[ahk,show Nat.ble wG (w4 [a,b,c,d,e,f,g,i] 0+w4 [a,b,c,d,e,f,g,i] 4)=decide (wG<=w4 [a,b,c,d,e,f,g,i] 0+w4 [a,b,c,d,e,f,g,i] 4) by
  rw[Bool.eq_iff_iff,Nat.ble_eq,decide_eq_true_iff]]
 rw[(KZ _ 0).1,(KZ _ 4).1] at h;simpa only[xk,yL,xu,Sh.kinds,List.drop_succ_cons,List.drop_zero,List.length_cons,List.length_nil,Iu,wC] using h
def M8 (l:List Int):List Int:=K9 (w4 l 0+wG-w4 l 4) (Nat.blt (w4 l 0) (w4 l 4))
theorem aqi:wK prog gG ⟨158,⟨[EY,EY],[EY,.sc .bool]⟩,M8⟩:=by
 intro l hl;refine⟨rfl,?_⟩
 have h:PC prog gG 158 [vW (w4 l 0),vW (w4 l 4)] (.tuple #[vW (w4 l 0+wG-w4 l 4),.bool (decide (w4 l 0<w4 l 4))]) :=
  Tk func158 (by kernel_rfl) (by kernel_rfl) λw=>aow _ _ w (KZ l 0).2 (KZ l 4).2
 obtain⟨a,b,c,d,e,f,g,i,rfl⟩:=eight hl;unfold M8
 rw[ahk,show Nat.blt (w4 [a,b,c,d,e,f,g,i] 0) (w4 [a,b,c,d,e,f,g,i] 4)=decide (w4 [a,b,c,d,e,f,g,i] 0<w4 [a,b,c,d,e,f,g,i] 4) by
  rw[Bool.eq_iff_iff,Nat.blt_eq,decide_eq_true_iff]]
 rw[(KZ _ 0).1,(KZ _ 4).1] at h;simpa only[xk,yL,xu,Sh.kinds,List.drop_succ_cons,List.drop_zero,List.length_cons,List.length_nil,Iu,wC] using h
def ahl:List wY:=[
 ⟨75,⟨[.sc kU,.sc kU,.sc .bit],[.sc kU,.sc .bit]⟩,M6⟩,
 ⟨228,⟨[.sc kU,.sc kU,.sc .bit],[.sc kU,.sc .bit]⟩,M7⟩,
 ⟨288,⟨[.sc kU,.sc kU],[.sc kU,.sc kU]⟩,PI⟩,
 ⟨157,⟨[EY,EY],[EY,.sc .bool]⟩,Iy⟩,
 ⟨158,⟨[EY,EY],[EY,.sc .bool]⟩,M8⟩,
 ⟨243,⟨[.sc kB,.sc .bool,.sc .bool,.sc kB],[.sc .bool]⟩,JF⟩,
 ⟨263,⟨[.sc kU],[.sc kI]⟩,JD⟩]
def wD (L:List wY):yE:=λg l=>match Ch L g with|some e=>e.F l|none=>[]
theorem wZ {L:List wY} {g:FuncId} {e:wY} (h:Ch L g=some e):wD L g=e.F:=by funext l;unfold wD;rw[h]
def La (L:List wY):FuncId->Option Ct:=λg=>match Ch L g with|some e=>some e.ct|none=>none
noncomputable def ctx (L:List wY):xP:=⟨prog,gG,Uk,La L,wD L,λ_=>none,λ_=>[]⟩
theorem xJ {L:List wY} (h:∀ e∈L,wK prog gG e):Br (ctx L) eE:=by
  have key:∀ (g:FuncId) (ct:Ct),(ctx L).ct g=some ct->∀ l:List Int,l.length=(vV ct.a).length->((ctx L).Φ g l).length=(vV ct.r).length/\PC prog gG g (xk ct.a l) (xU (xk ct.r ((ctx L).Φ g l))):=by
   intro g ct hct l hl;simp only[ctx,La,wD] at hct ⊢
   cases hf:Ch L g with
   | some e =>
     rw[hf] at hct;simp only[Option.some.injEq] at hct;subst hct;obtain⟨h1,h2⟩:=Uf hf;subst h2;exact h e h1 l hl
   | none=>rw[hf] at hct;cases hct
  exact⟨⟨abx,eOK,WL.mix,WL.nm,λg ct hct l hl _=>(key g ct hct l hl).2,λg ct hn=>(by cases hn),λg c hc=>(by cases hc)⟩,λg ct hct l hl=>(key g ct hct l hl).1,λg ct hn=>(by cases hn),λg c hc=>(by cases hc)⟩
def F5:List yU->Nat->Option yU
 | [],_=>none
 | x::l,id=>match Nat.beq x.c.id id with|true=>some x|false=>F5 l id
def M9:List yU->FuncId->List AP
 | [],_=>[]
 | x::l,g=>match Nat.beq x.g g with|true=>x.c::M9 l g|false=>M9 l g
def wH (L M:List wY) (S:List yU):yE:=λg l=>match F5 S g with
 | some e=>e.F l
 | none=>match Ch M g with|some e=>e.F l|none=>wD L g l
theorem WN {L M:List wY} {S:List yU} {g:Nat} {e:yU} (h:F5 S g=some e):wH L M S g=e.F:=by funext l;unfold wH;rw[h]
theorem yO {L M:List wY} {S:List yU} {g:Nat} {e:wY} (h0:F5 S g=none) (h:Ch M g=some e):wH L M S g=e.F:=by funext l;unfold wH;rw[h0];simp only[];rw[h]
theorem xZ {L M:List wY} {S:List yU} {g:Nat} {e:wY} (h0:F5 S g=none) (h1:Ch M g=none) (h:Ch L g=some e):wH L M S g=e.F:=by funext l;unfold wH;rw[h0];simp only[];rw[h1];simp only[];rw[wZ h]
noncomputable def wR (L M:List wY) (S:List yU):xP:=⟨prog,gG,Uk,La L,wH L M S,La M,M9 S⟩
def Um (S:List yU) (g:Nat):Bool:=match F5 S g with|some _=>false|none=>true
def noE (M:List wY) (g:Nat):Bool:=match Ch M g with|some _=>false|none=>true
def WO (M:List wY) (S:List yU):List wY->Bool
 | []=>true
 | x::l=>xY (Um S x.g) (xY (noE M x.g) (WO M S l))
def WP (S:List yU):List wY->Bool
 | []=>true
 | x::l=>xY (Um S x.g) (WP S l)
def WQ:List yU->Bool
 | []=>true
 | x::l=>xY (Um l x.c.id) (WQ l)
theorem abB {S:List yU} {g:Nat} (h:Um S g=true):F5 S g=none:=by
 unfold Um at h
 cases hf:F5 S g with
 | none=>rfl
 | some e=>rw[hf] at h;cases h
theorem aqj {M:List wY} {g:Nat} (h:noE M g=true):Ch M g=none:=by
 unfold noE at h
 cases hf:Ch M g with
 | none=>rfl
 | some e=>rw[hf] at h;cases h
theorem abC {M:List wY} {S:List yU} : ∀ {L:List wY},WO M S L=true->∀ e∈L,F5 S e.g=none/\Ch M e.g=none
 | [],_,e,he=>by cases he
 | x::l,h,e,he=>by
  have h:=xH h;have h2:=xH h.2;rcases List.mem_cons.1 he with rfl|he
  ·exact⟨abB h.1,aqj h2.1⟩
  ·exact abC h2.2 e he
theorem abD {S:List yU} : ∀ {L:List wY},WP S L=true->∀ e∈L,F5 S e.g=none
 | [],_,e,he=>by cases he
 | x::l,h,e,he=>by
  have h:=xH h;rcases List.mem_cons.1 he with rfl|he
  ·exact abB h.1
  ·exact abD h.2 e he
theorem abE:∀ {S:List yU},WQ S=true->∀ e∈S,F5 S e.c.id=some e
 | [],_,e,he=>by cases he
 | x::l,h,e,he=>by
  have h:=xH h;simp only[F5];rcases List.mem_cons.1 he with rfl|he
  ·rw[Nat.beq_refl]
  ·have h1:=abE h.2 e he
   cases hb:Nat.beq x.c.id e.c.id with
   | true =>
    have h2:=abB h.1;rw[xO.1 hb,h1] at h2;cases h2
   | false=>exact h1
theorem WR:∀ {S:List yU} {g:FuncId} {c:AP},c∈M9 S g->∃ e∈S,e.g=g/\e.c=c
 | [],g,c,h=>by cases h
 | x::l,g,c,h=>by
  simp only[M9] at h;split at h
  ·rename_i hb;rcases List.mem_cons.1 h with rfl|h
   ·exact⟨x,List.mem_cons_self,xO.1 hb,rfl⟩
   ·obtain⟨e,h1,h2⟩:=WR h;exact⟨e,List.mem_cons_of_mem _ h1,h2⟩
  ·obtain⟨e,h1,h2⟩:=WR h;exact⟨e,List.mem_cons_of_mem _ h1,h2⟩
theorem GY {L M:List wY} {S:List yU} (hL:∀ e∈L,yT prog gG e) (hM:∀ e∈M,yM prog gG e) (hS:∀ e∈S,WH prog gG e) (h:xY (WO M S L) (xY (WP S M) (WQ S))=true):yS (wR L M S) eE:=by
 have h:=xH h;have h2:=xH h.2;refine⟨abx,eOK,WL.mix,WL.nm,λg ct hct l hl hF=>?_,λg ct hct=>?_,λg c hc l hl hF=>?_⟩
 ·simp only[wR,La] at hct hF ⊢
  cases hf:Ch L g with
  | some e =>
   rw[hf] at hct;simp only[Option.some.injEq] at hct;subst hct;obtain⟨h1,h3⟩:=Uf hf;subst h3;obtain⟨h4,h5⟩:=abC h.1 e h1;rw[xZ h4 h5 hf] at hF ⊢;exact(hL e h1).ok l hl hF
  | none=>rw[hf] at hct;cases hct
 ·simp only[wR,La] at hct ⊢
  cases hf:Ch M g with
  | some e =>
   rw[hf] at hct;simp only[Option.some.injEq] at hct;subst hct;obtain⟨h1,h3⟩:=Uf hf;subst h3;have h4:=abD h2.1 e h1;refine⟨(hM e h1).two,λl hl hF=>?_⟩;rw[yO h4 hf] at hF ⊢;exact(hM e h1).ok l hl hF
  | none=>rw[hf] at hct;cases hct
 ·obtain⟨e,h1,h3,h4⟩:=WR (show c∈M9 S g from hc);subst h3;subst h4;have h5:=abE h2.2 e h1;simp only[wR] at hF ⊢;rw[WN h5] at hF ⊢;exact(hS e h1).ok l hl hF
theorem GZ {L M:List wY} {S:List yU} (hL:∀ e∈L,wK prog gG e) (hM:∀ e∈M,Uh prog gG e) (hS:∀ e∈S,Iq prog gG e) (h:xY (WO M S L) (xY (WP S M) (WQ S))=true):Br (wR L M S) eE:=by
 refine⟨GY (λe he=>(hL e he).c) (λe he=>(hM e he).c) (λe he=>(hS e he).c) h,?_,?_,?_⟩;all_goals have h:=xH h
 all_goals have h2:=xH h.2
 ·intro g ct hct l hl;simp only[wR,La] at hct ⊢
  cases hf:Ch L g with
  | some e =>
   rw[hf] at hct;simp only[Option.some.injEq] at hct;subst hct;obtain⟨h1,h3⟩:=Uf hf;subst h3;obtain⟨h4,h5⟩:=abC h.1 e h1;rw[xZ h4 h5 hf];exact(hL e h1 l hl).1
  | none=>rw[hf] at hct;cases hct
 ·intro g ct hct l hl;simp only[wR,La] at hct ⊢
  cases hf:Ch M g with
  | some e =>
   rw[hf] at hct;simp only[Option.some.injEq] at hct;subst hct;obtain⟨h1,h3⟩:=Uf hf;subst h3;rw[yO (abD h2.1 e h1) hf];exact((hM e h1).ok l hl).1
  | none=>rw[hf] at hct;cases hct
 ·intro g c hc l hl;obtain⟨e,h1,h3,h4⟩:=WR (show c∈M9 S g from hc);subst h3;subst h4;have h5:=abE h2.2 e h1;simp only[wR];rw[WN h5];exact((hS e h1).ok l hl).1
def M0:List wY:=[]
theorem JG:∀ e∈M0,Uh prog gG e:=λe he=>by cases he
def S0:List yU:=[]
theorem ahm:∀ e∈S0,Iq prog gG e:=λe he=>by cases he
def E0:List wY:=ahl
theorem Ci:∀ e∈E0,wK prog gG e:=by
 intro e he;simp only[E0,ahl,List.mem_cons,List.not_mem_nil,or_false] at he;rcases he with rfl|he
 ·exact aqb
 rcases he with rfl|he
 ·exact aqc
 rcases he with rfl|he
 ·exact aqe
 rcases he with rfl|he
 ·exact aqh
 rcases he with rfl|he
 ·exact aqi
 rcases he with rfl|he
 ·exact aqg
 ·subst he;exact aqf
end Go.Proofs.YtippohicjhilnaaGreatDoor
