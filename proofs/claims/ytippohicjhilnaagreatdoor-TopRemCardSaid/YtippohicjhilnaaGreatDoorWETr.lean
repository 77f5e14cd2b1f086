import Derived.Test.YtippohicjhilnaaGreatDoorZBTr
import Derived.Test.YtippohicjhilnaaGreatDoorZDTr
set_option linter.unusedSimpArgs false
set_option linter.unusedVariables false
set_option maxRecDepth 100000
open Go.Proofs.Tryz
namespace Go.Proofs.YtippohicjhilnaaGreatDoor
open Go.RowKit
structure Mf where
 g:FuncId
 es:List (Value×Value)
def SS (P:Program) (G:uG) (m:Mf):Prop :=
 ∀ w,Gl G w->Ae P m.g #[] w λen w'=>∃ b,en = .returned (.map (some b))/\w.heap.size<=b/\w'.heap[b]? = some (FQ m.es)/\tQ w w'
structure Qq where
 g:FuncId
 id:Nat
 m:Nat
 t:TypeId
 ki:List VK
 ko:List VK
def Cn (ks:List VK) (m:Nat):List VK:=(List.replicate m ks).flatten
def ayV (P:Program) (G:uG) (a:Qq) (F:List Int->List Int):Prop :=
 ∀ l,l.length=(Cn a.ki a.m).length->∀ f r,F l=f::r->r.length=(Cn a.ko a.m).length->∀ w v,Gl G w->Reads w v a.m (uT (Cn a.ki a.m) l) ->
  Ae P a.g #[v] w λen w'=>∃ u,en = .returned (.tuple #[u,.int .u8 (IntKind.u8.wrap f)])/\Reads w' u a.m (uT (Cn a.ko a.m) r)/\tQ w w'/\∀ b,wV u=some b->w.heap.size<=b
structure MX where
 ms:List Mf
 al:List Qq
def SX:List VK->Bool
 | []=>true
 | .int _::l=>SX l
 | .bool::l=>SX l
 | _::_=>false
structure Qr (C:vI) (X:MX):Prop where
 ms:∀ m∈X.ms,SS C.P C.G m
 al:∀ a∈X.al,ayV C.P C.G a (C.Φ a.id)
def Wx:List Mf->FuncId->Option Mf
 | [],_=>none
 | x::l,g=>match Nat.beq x.g g with|true=>some x|false=>Wx l g
theorem ayW {L:List Mf} {g:FuncId} {e:Mf} (h:Wx L g=some e):e∈L/\e.g=g:=by
 induction L with
 | nil=>cases h
 | cons x l ih =>
  simp only[Wx] at h;split at h
  ·rename_i hb;cases h;exact⟨List.mem_cons_self,vH.1 hb⟩
  ·obtain⟨h1,h2⟩:=ih h;exact⟨List.mem_cons_of_mem _ h1,h2⟩
def Wy:List Qq->FuncId->Nat->TypeId->Option Qq
 | [],_,_,_=>none
 | x::l,g,m,t=>match Nat.beq x.g g,Nat.beq x.m m,Nat.beq x.t t with|true,true,true=>some x|_,_,_=>Wy l g m t
theorem ayX {L:List Qq} {g:FuncId} {m:Nat} {t:TypeId} {e:Qq} (h:Wy L g m t=some e):e∈L/\e.g=g/\e.m=m/\e.t=t:=by
 induction L with
 | nil=>cases h
 | cons x l ih =>
  simp only[Wy] at h;split at h
  ·rename_i h1 h2 h3;cases h;exact⟨List.mem_cons_self,vH.1 h1,vH.1 h2,vH.1 h3⟩
  ·obtain⟨h1,h2⟩:=ih h;exact⟨List.mem_cons_of_mem _ h1,h2⟩
def ako (x:Value×Value):Value:=.tuple #[x.1,x.2]
def Wz (es:List (Value×Value)):SO:=⟨[.v (.tuple (es.map ako).toArray)],none⟩
theorem ayY (s:ut) (es:List (Value×Value)):(Wz es).den s = .mp es:=by
 refine SO.den_map s rfl ?_;simp only[Wz,Bv,X6,List.map_map];congr 1;have:ad2∘ako=id:=by funext x;rfl
 simp[this]
def SY (n:X) (b:Nat) (ks:List VK):SO:=⟨.v (.bool false) :: .int .i64 n :: .v (.int .i64 (.ofNat b))::ks.map (λk=>QZ k (.lit 0)),none⟩
theorem acK:∀ {ks:List VK},SX ks=true->(ks.map (λk=>QZ k (.lit 0))).map TW=ks
 | [],_=>rfl
 | .int k::l,h=>by rw[List.map_cons,List.map_cons,acK (ks:=l) h];rfl
 | .bool::l,h=>by rw[List.map_cons,List.map_cons,acK (ks:=l) h];rfl
 | .bit::l,h=>by cases h
 | .nat::l,h=>by cases h
theorem ayZ (s:ut) (n:X) (b:Nat) {ks:List VK} (hk:SX ks=true):(SY n b ks).den s = .rd (n.den s).toNat (AB s b ks (n.den s).toNat):=by
 have h:BX (SY n b ks).c=some ⟨n,b,ks⟩:=by simp only[SY,BX,TY,TZ,T9,acK hk]
 exact SO.den_ora s (r:=⟨n,b,ks⟩) rfl rfl h
theorem akp:∀ (a b:List VK) (p q:List Int),p.length=a.length->uT (a++b) (p++q)=uT a p++uT b q
 | [],b,p,q,h=>by have:p = []:=List.length_eq_zero_iff.1 (by simpa using h);subst this;rfl
 | k::a,b,[],q,h=>by simp at h
 | k::a,b,n::p,q,h=>by rw[List.cons_append,List.cons_append,uT,uT,akp a b p q (by simpa using h),List.cons_append]
theorem akq (ks:List VK) (m:Nat):Cn ks (m+1)=Cn ks m++ks:=by unfold Cn;rw[List.replicate_succ',List.flatten_append];simp
theorem acL (ks:List VK):∀ m,(Cn ks m).length=m*ks.length
 | 0=>by simp[Cn]
 | m+1=>by rw[akq,List.length_append,acL ks m,Nat.add_mul,Nat.one_mul]
theorem akr (s:ut) (b:Nat) (ks:List VK):∀ m,AB s b ks m=uT (Cn ks m) (yH s b (m*ks.length))
 | 0=>by simp[AB,Cn,uT]
 | m+1=>by rw[AB,akr s b ks m,akq,Nat.add_mul,Nat.one_mul,Zo,akp _ _ _ _ (by rw[GZ,acL])]
def acM (C:vI) (X:MX) (g:FuncId) (args:List SV) (H:SH) (k nv:Nat) (fc:Facts) (K:Unit->tL CR):tL CR:=match args with
 | [.sl b 0 n m]=>match hget H b with
  | some o=>match o.t with
   | some t=>match Wy X.al g n t with
    | some a=>match KF (Cn a.ki a.m) o.c,SX a.ko with
     | some xs,true=>xq (Nat.succ nv) λnv1=>xq (a.m*a.ko.length) λq=>.call a.id xs nv (Nat.succ q) (xq (nv1+q) λnv'=>.leaf ⟨.tup [.hd k,.int .u8 (.var (.int .u8) nv)],[b],[(k,SY (.lit (.ofNat a.m)) nv1 a.ko)],nv',fc⟩)
     | _,_=>.stuck "a slice's cells"
    | none=>K ()
   | none=>K ()
  | none=>K ()
 | _=>K ()
def acN (C:vI) (X:MX) (ex:Code->St->tL (Exit×St)) (g:FuncId) (args:List SV) (H:SH) (k nv:Nat) (fc:Facts):tL CR:=match Wx X.ms g with
 | some m=>match args with
  | []=>.leaf ⟨.hd k,[],[(k,Wz m.es)],nv,fc⟩
  | _=>.stuck "a map's arguments"
 | none=>acM C X g args H k nv fc λ_=>Re C ex g args H k nv fc
section
variable {C:vI} {E:vR} {s:ut} {ms:MX}
theorem ay0 (hX:Qr C ms) {g:FuncId} {args:List SV} {H:SH} {k nv:Nat} {fc:Facts} {K:Unit->tL CR} {r:CR} (h:(acM C ms g args H k nv fc K).path C.Φ s=some r) (hfc:vO s fc) (hK:(K ()).path C.Φ s=some r->Cz C s g args H k r):Cz C s g args H k r:=by
 unfold acM at h;split at h
 ·rename_i b n m;split at h
  ·rename_i o ho;split at h
   ·rename_i t ht;split at h
    ·rename_i a ha;obtain⟨a1,a2,a3,a4⟩:=ayX ha;split at h
     ·rename_i xs hxs hpk;rw[wQ,wQ] at h;simp only[tL.path] at h;split at h
      ·rename_i hce;rw[wQ] at h;cases h;obtain⟨f1,f2⟩:=Rf s hxs;have hB:SH.den s H b=some (.own ((uT (Cn a.ki a.m) (xs.map (X.den s))).map .v) t):=by rw[SH.den_get ho ht,f1]
       refine⟨λj hj=>?_,λx hx=>?_,hfc,λw0 B0=>?_⟩
       ·simp at hj;subst hj;rw[hB];simp
       ·simp[uY] at hx;subst hx;exact .inl rfl
       ·intro H' e w hag hk _ _ R;have hb':H' b=some (.own ((uT (Cn a.ki a.m) (xs.map (X.den s))).map .v) t):=by rw[hag b (by simp)];exact hB
        have hown:=R.own b _ t hb';rw[Ay] at hown;have hrd:Reads w (.slice (some ⟨e.blk b,0,none⟩) n m) a.m (uT (Cn a.ki a.m) (xs.map (X.den s))):=.inr ⟨e.blk b,0,m,by rw[a3],R.lt hb',λj x hj=>by simp[World.cell?,hown,hj]⟩;unfold Ky at hce;rw[yH] at hce;have hcall:=hX.al a a1 (xs.map (X.den s)) (by rw[List.length_map];exact f2) _ _ hce.symm (by rw[GZ,acL]) w _ R.gl hrd;rw[a2] at hcall;have hv:AV.vals e (SV.dens s [.sl b 0 n m]) = [Value.slice (some ⟨e.blk b,0,none⟩) n m]:=rfl;rw[hv];refine hcall.mono ?_;rintro en w' ⟨u,rfl,hru,hbel,hfr⟩;have R2:=R.below hbel
        have hef:uY s [(k,SY (.lit (.ofNat a.m)) (nv+1) a.ko)] = [(k,.rd a.m (AB s (nv+1) a.ko a.m))]:=by simp only[uY,List.map_cons,List.map_nil,ayZ s _ _ hpk,X.den];rfl
        rw[show Nat.succ nv=nv+1 from rfl,hef]
        have hsl:De u=u:=by rcases hru with⟨h1,_⟩|⟨b',o',cap,h1,_⟩<;>rw[h1]<;>rfl
        refine⟨e.setHnd k u,?_,?_,Env.setHnd_on hk e _,λj hj=>?_⟩
        ·have h2:((SV.tup [.hd k,.int .u8 (.var (.int .u8) nv)]).den s).val (e.setHnd k u) = .tuple #[u,.int .u8 (IntKind.u8.wrap (s nv))]:=by simp only[SV.den,SV.dens];show(Av [.hd k,.v _]).val _=_;simp[Av,wJ,AV.val,AV.vals,Env.setHnd,hsl,X.den,VK.norm]
         rw[h2]
        ·rw[tZ.puts,tZ.puts];refine R2.handle hk (by rw[akr];exact hru) (λj c t' hj he=>?_) (λb2 hb2=>.inl (Nat.le_trans R.size (hfr b2 hb2)));have h3:=R.lt hj;have:=hfr _ he;omega
        ·have:j=k:=by have h4:=SV.den_refs s (.tup [.hd k,.int .u8 (.var (.int .u8) nv)]) hj;simpa [SV.refs,SV.refss] using h4
         subst this;rw[tZ.puts,tZ.puts,tZ.put_same];simp
      ·cases h
     ·cases h
    ·exact hK h
   ·exact hK h
  ·exact hK h
 ·exact hK h
theorem ay1 (hC:wW C E) (hms:Qr C ms) {exf:Code->St->tL (Exit×St)} (hex:Rl C E s exf) {g:FuncId} {args:List SV} {H:SH} {k nv:Nat} {fc:Facts} {r:CR} (h:(acN C ms exf g args H k nv fc).path C.Φ s=some r) (hfc:vO s fc):Cz C s g args H k r:=by
 unfold acN at h;split at h
 ·rename_i m hm;obtain⟨h1,h2⟩:=ayW hm;split at h
  ·cases h;refine⟨λb hb=>by simp at hb,λx hx=>by simp[uY] at hx;subst hx;exact .inl rfl,hfc,λw0 B0=>?_⟩;intro H' e w _ hk _ _ R;subst h2;refine(hms.ms m h1 w R.gl).mono ?_;rintro en w' ⟨b,rfl,hb,ho,hbel⟩;have hef:uY s [(k,Wz m.es)] = [(k,.mp m.es)]:=by simp only[uY,List.map_cons,List.map_nil,ayY]
   refine⟨e.setHnd k (.map (some b)),by simp[SV.den,AV.val,Env.setHnd,De],?_,Env.setHnd_on hk e _,λj hj=>?_⟩
   ·rw[hef];exact R.adoptM hbel hk hb ho
   ·simp[SV.den,AV.refs] at hj;subst hj;rw[hef,tZ.puts,tZ.puts,tZ.put_same];simp
  ·cases h
 ·exact ay0 hms h hfc λh=>Zf hC hex h hfc
end
def yh (C:vI) (ms:MX):Nat->Code->St->tL (Exit×St)
 | 0,_,_=>.stuck "no fuel"
 | f+1,c,s=>match c with
  | .skip=>.leaf (.normal,s)
  | .label _=>.leaf (.normal,s)
  | .exit id=>.leaf (.exit id,s)
  | .ret=>.leaf (.ret,s)
  | .seq a b=>(yh C ms f a s).bind λr=>match r.1 with | .normal=>yh C ms f b r.2|_=>.leaf r
  | .cond c a b=>match Ee s.T c with
   | some (.bool q)=>EL s.fc q λbb fc=>match bb with|true=>yh C ms f a { s with fc:=fc } | false=>yh C ms f b { s with fc:=fc }
   | _=>.stuck "cond"
  | .block id c=>(yh C ms f c s).bind λr=>match r.1 with
   | .exit id'=>match Nat.beq id' id with|true=>.leaf (.normal,r.2)|false=>.leaf r
   | _=>.leaf r
  | .loop c=>(yh C ms f c s).bind λr=>match r.1 with | .normal=>yh C ms f (.loop c) r.2|_=>.leaf r
  | .scope c=>(yh C ms f c s).bind λr=>match r.1 with | .goto _=>.stuck "goto" | _=>.leaf r
  | .region _ ops draw=>(Dk C (acN C ms (yh C ms f)) ops s.N 0 ops.toList s.T s.H [] s.nv s.dt s.fc).bind λr=>regionEnd s.T.length ops draw s r
  | _=>.stuck "no such text"
def FN (C:vI) (ms:MX) (fuel:Nat) (g:FuncId) (args:List SV) (nv:Nat):tL SV :=
 match C.P.funcs[g]? with
 | none=>.stuck "no such function"
 | some fn=>match fn.body with
  | none=>.stuck "no body"
  | some cd=>match Nat.ble args.length fn.ntmps with
   | true=>(yh C ms fuel cd ⟨0,xO args fn.ntmps,[],nv,[],[]⟩).bind λr=>match r.1 with
    | .normal=>match yw C.P r.2.T r.2.H fn.results.toList with|some rs=>.leaf (resS rs)|none=>.stuck "results"
    | .ret=>match yw C.P r.2.T r.2.H fn.results.toList with|some rs=>.leaf (resS rs)|none=>.stuck "results"
    | _=>.stuck "end"
   | false=>.stuck "arguments"
section
variable {C:vI} {E:vR} {s:ut} {ms:MX}
theorem aks (hC:wW C E) (hms:Qr C ms):∀ n:Nat,Rl C E s (yh C ms n) /\
  ∀ c st ex st',(yh C ms n (.loop c) st).path C.Φ s=some (ex,st')->vO s st.fc->∀ w0 B0,AZ ⟨C.P,C.G,E,w0,B0,st.T.length⟩ c (zu s ex st') n st.N (uJ.den s st.T) (SH.den s st.H)
 | 0=>⟨λc st ex st' h=>(by cases h),λc st ex st' h=>(by cases h)⟩
 | n+1=>by
  obtain⟨ih,ihl⟩:=aks hC hms n
  have loop:∀ c st ex st',(yh C ms (n+1) (.loop c) st).path C.Φ s=some (ex,st')->vO s st.fc->ER C E s (.loop c) st ex st'/\∀ w0 B0,AZ ⟨C.P,C.G,E,w0,B0,st.T.length⟩ c (zu s ex st') (n+1) st.N (uJ.den s st.T) (SH.den s st.H):=by
   intro c st ex st' h hf;simp only[yh] at h;obtain⟨ex1,st1,h1,h2⟩:=Dm h;have s1:=ih _ _ _ _ h1 hf;rcases KL h2 with⟨rfl,h3⟩|⟨hx,h3⟩
   ·have s2:=ih _ _ _ _ h3 s1.fc
    have hr:∀ w0 B0,AZ ⟨C.P,C.G,E,w0,B0,st.T.length⟩ c (zu s ex st') (n+1) st.N (uJ.den s st.T) (SH.den s st.H):=λw0 B0=>by rw[MK];refine(s1.aw w0 B0).mono ?_;rintro x N T H ⟨rfl,rfl,rfl,rfl⟩;have:=ihl _ _ _ _ h3 s1.fc w0 B0;rw[s1.len] at this;exact this
    exact⟨s1.trans s2 λw0 B0=>MJ _ (hr w0 B0),hr⟩
   ·obtain⟨rfl,rfl⟩:ex1=ex/\st1=st':=by cases h3;exact⟨rfl,rfl⟩
    have hr:∀ w0 B0,AZ ⟨C.P,C.G,E,w0,B0,st.T.length⟩ c (zu s ex1 st1) (n+1) st.N (uJ.den s st.T) (SH.den s st.H):=λw0 B0=>by rw[MK];refine(s1.aw w0 B0).mono ?_;rintro x N T H ⟨rfl,rfl,rfl,rfl⟩;exact KM hx ⟨rfl,rfl,rfl,rfl⟩
    exact⟨⟨λw0 B0=>MJ _ (hr w0 B0),s1.len,s1.dt,s1.fc⟩,hr⟩
  refine⟨?_,λc st ex st' h hf=>(loop c st ex st' h hf).2⟩;intro c st ex st' h hf
  cases c with
  | skip=>simp only[yh] at h;cases h;exact⟨λw0 B0=>Xr ⟨rfl,rfl,rfl,rfl⟩,rfl,λj hj=>⟨hj,rfl⟩,hf⟩
  | label l=>simp only[yh] at h;cases h;exact⟨λw0 B0=>Xt ⟨rfl,rfl,rfl,rfl⟩,rfl,λj hj=>⟨hj,rfl⟩,hf⟩
  | exit id=>simp only[yh] at h;cases h;exact⟨λw0 B0=>Xu ⟨rfl,rfl,rfl,rfl⟩,rfl,λj hj=>⟨hj,rfl⟩,hf⟩
  | ret=>simp only[yh] at h;cases h;exact⟨λw0 B0=>Xv ⟨rfl,rfl,rfl,rfl⟩,rfl,λj hj=>⟨hj,rfl⟩,hf⟩
  | seq a b =>
   simp only[yh] at h;obtain⟨ex1,st1,h1,h2⟩:=Dm h;have s1:=ih _ _ _ _ h1 hf;rcases KL h2 with⟨rfl,h3⟩|⟨hx,h3⟩
   ·have s2:=ih _ _ _ _ h3 s1.fc;refine s1.trans s2 λw0 B0=>MI ((s1.aw w0 B0).mono ?_)
    rintro x N T H ⟨rfl,rfl,rfl,rfl⟩;have:=s2.aw w0 B0;rw[s1.len] at this;exact this
   ·cases h3;refine⟨λw0 B0=>MI ((s1.aw w0 B0).mono ?_),s1.len,s1.dt,s1.fc⟩;rintro x N T H ⟨rfl,rfl,rfl,rfl⟩;exact KM hx ⟨rfl,rfl,rfl,rfl⟩
  | cond c a b =>
   simp only[yh] at h;split at h
   ·rename_i q hq;have hd:=IW s st.T _ _ hq;obtain⟨fc',hf',h⟩:=G9 hf h;simp only[SV.den] at hd
    cases hb:(q.den s != 0) with
    | true =>
     rw[hb] at h hd;have s1:=ih _ _ _ _ h hf';exact⟨λw0 B0=>Xw hd (s1.aw w0 B0),s1.len,s1.dt,s1.fc⟩
    | false =>
     rw[hb] at h hd;have s1:=ih _ _ _ _ h hf';exact⟨λw0 B0=>Xx hd (s1.aw w0 B0),s1.len,s1.dt,s1.fc⟩
   ·cases h
  | block id c =>
   simp only[yh] at h;obtain⟨ex1,st1,h1,h2⟩:=Dm h;have s1:=ih _ _ _ _ h1 hf
   have key:ex=Hr id ex1/\st'=st1:=by
    cases ex1 with
    | exit id' =>
     simp only at h2;simp only[Hr];split at h2
     ·rename_i hb;cases h2;rw[if_pos (vH.1 hb)];exact⟨rfl,rfl⟩
     ·rename_i hb;cases h2;rw[if_neg (λe=>by rw[e] at hb;simp at hb)];exact⟨rfl,rfl⟩
    | _=>cases h2;exact⟨rfl,rfl⟩
   obtain⟨rfl,rfl⟩:=key;refine⟨λw0 B0=>Xy ((s1.aw w0 B0).mono ?_),s1.len,s1.dt,s1.fc⟩;rintro x N T H ⟨rfl,rfl,rfl,rfl⟩
   cases x with
   | exit id' =>
    simp only[QB,Hr];split
    ·exact⟨rfl,rfl,rfl,rfl⟩
    ·exact⟨rfl,rfl,rfl,rfl⟩
   | _=>exact⟨rfl,rfl,rfl,rfl⟩
  | loop c=>exact(loop c st ex st' h hf).1
  | scope c =>
   simp only[yh] at h;obtain⟨ex1,st1,h1,h2⟩:=Dm h;have s1:=ih _ _ _ _ h1 hf
   have key:(∀ l,ex1 ≠ .goto l)/\ex=ex1/\st'=st1:=by cases ex1<;>first|(cases h2;exact⟨λl e=>(by cases e),rfl,rfl⟩)|cases h2
   obtain⟨hg,rfl,rfl⟩:=key;exact⟨λw0 B0=>XA (s1.aw w0 B0) (λl N T H e=>hg l e.1.symm),s1.len,s1.dt,s1.fc⟩
  | region id ops draw =>
   simp only[yh] at h;obtain⟨out,h1,h2⟩:=tL.path_bind_some h
   have dst:∀ o∈ops.toList,∀ t,o.dst=some t->t<st.T.length:=by
    unfold regionEnd at h2;split at h2
    ·split at h2
     ·rename_i hdr _;simp only[drawOK,Bool.and_eq_true] at hdr;exact GQ hdr.1.2
     ·cases h2
     ·cases h2
    ·split at h2
     ·rename_i hdr;exact GQ hdr
     ·cases h2
   obtain⟨e1,e2,e3,e4⟩:=Rn hC (nt:=st.T.length) (λg args H k nv fc r hr hf=>ay1 hC hms ih hr hf) ops.toList 0 st.T st.H [] st.nv st.dt st.fc out h1 hf rfl dst;unfold regionEnd at h2
   cases draw with
   | true =>
    simp only at h2;split at h2
    ·rename_i hdr htr;rw[wQ] at h2;cases h2;refine⟨λw0 B0=>XC hC.eq hC.mix hdr (e1 w0 B0 [] _ rfl ?_),e2,e4,e3⟩;intro trf htf;refine⟨?_,rfl,rfl,rfl,rfl⟩;rw[<- htf] at htr;exact Rm htr
    ·cases h2
    ·cases h2
   | false =>
    simp only at h2;split at h2
    ·rename_i hdr;rw[wQ] at h2;cases h2;exact⟨λw0 B0=>XB hC.eq hdr (e1 w0 B0 [] _ rfl λtrf htf=>⟨rfl,rfl,rfl,rfl⟩),e2,e4,e3⟩
    ·cases h2
  | rangeFunc f ps a b=>simp only[yh] at h;cases h
  | goto l=>simp only[yh] at h;cases h
  | refuse w=>simp only[yh] at h;cases h
end
theorem ay2 {C:vI} {E:vR} {s:ut} {ms:MX} (hC:wW C E) (hms:Qr C ms) {n:Nat} {g:FuncId} {args:List SV} {nv:Nat} {a:SV} {vs:List Value} {v:Value} (h:(FN C ms n g args nv).path C.Φ s=some a) (ha:SV.dens s args=vs.map .v) (hv:a.den s = .v v) :
  PC C.P C.G g vs v:=by
 unfold FN at h;split at h
 ·cases h
 ·rename_i fn hf;split at h
  ·cases h
  ·rename_i cd hb;split at h
   ·rename_i hl;obtain⟨⟨ex,st⟩,h1,h2⟩:=tL.path_bind_some h;have sp:=(aks (E:=E) (s:=s) hC hms n).1 _ _ _ _ h1 (λx hx=>by cases hx);have hlen:(xO args fn.ntmps).length=fn.ntmps:=Jd _ _ (Nat.le_of_ble_eq_true hl);have hvl:vs.length=args.length:=by have:=congrArg List.length ha;rw[Cw,List.length_map] at this;exact this.symm
    refine XF E hf hb (hC.nm g fn hf (by rw[hb];rfl)) (by rw[hvl];exact hl) λw=>?_
    have hA:=sp.aw w ve.nil;simp only[hlen,Np,ha] at hA
    have key:∀ rs,yw C.P st.T st.H fn.results.toList=some rs->resS rs=a->∃ rs',BP C.P C.G (uJ.den s st.T) (SH.den s st.H) fn.results.toList=some rs'/\EH rs' = .v v:=λrs hrs e =>
     ⟨_,Je s hrs,by rw[Jc,e,hv]⟩
    have hx:(ex = .normal\/ex = .ret)/\∃ rs,yw C.P st.T st.H fn.results.toList=some rs/\resS rs=a:=by
     rcases Nq h2 with⟨rfl,h3⟩|⟨rfl,h3⟩
     ·split at h3
      ·rename_i rs hrs;cases h3;exact⟨.inl rfl,rs,hrs,rfl⟩
      ·cases h3
     ·split at h3
      ·rename_i rs hrs;cases h3;exact⟨.inr rfl,rs,hrs,rfl⟩
      ·cases h3
    obtain⟨hx,rs,hrs,e⟩:=hx;refine AW.mono (show AW _ cd (zu s ex st) 0 _ _ from hA) ?_;rintro x N T H ⟨rfl,rfl,rfl,rfl⟩;rcases hx with rfl|rfl
    ·exact key rs hrs e
    ·exact key rs hrs e
   ·cases h
theorem Kc {C:vI} {E:vR} {ms:MX} (hC:wW C E) (hms:Qr C ms) (n:Nat) {g:FuncId} {ct:Ct} {t:tL SV} (hp:Nat.blt 0 (tO ct.r).length=true) (h:FN C ms n g (uF ct.a (uC 0 (tO ct.a))) (tO ct.a).length=t) (hs:Em (tO ct.a).length t=true) :
  wX C.P C.G ⟨g,ct,uq C.Φ ct t⟩:=⟨λl hl hF=>by
 obtain⟨a,l',xs,h1,h2⟩:=aeR hp hF;obtain⟨h3,m,rfl⟩:=Jg h1 (by rw[hl];exact hs);rw[<- h] at h3;obtain⟨h4,h5⟩:=EP (ul (l++m)) (tO ct.a) 0;rw[<- hl,Ro] at h4;have hf:=Jb (ul (l++m)) h2;have e:uq C.Φ ct t l=xs.map (X.den (ul (l++m))):=by unfold uq;simp only[h1,h2,El,id]
 refine ay2 hC hms h3 (Hg h4 h5) ?_;simp only[e]
 exact Uv hf.1 (Nr _ _)⟩
def tL.th {α:Type} : tL α->tL α
 | .ite _ a _=>a
 | t=>t
def tL.el {α:Type} : tL α->tL α
 | .ite _ _ b=>b
 | t=>t
def tL.nx {α:Type} : tL α->tL α
 | .call _ _ _ _ t=>t
 | t=>t
def tL.hI {α:Type} : tL α->Option X
 | .ite c _ _=>some c
 | _=>none
def tL.hC {α:Type} : tL α->Option (Nat×List X×Nat×Nat)
 | .call f a m n _=>some (f,a,m,n)
 | _=>none
theorem WA {α:Type} {T a b:tL α} {c:X} (h1:T.hI=some c) (ha:T.th=a) (hb:T.el=b):T = .ite c a b:=by subst ha hb;cases T<;>simp_all[tL.hI,tL.th,tL.el]
theorem WB {α:Type} {T a:tL α} {q:Nat×List X×Nat×Nat} (h1:T.hC=some q) (ha:T.nx=a):T = .call q.1 q.2.1 q.2.2.1 q.2.2.2 a:=by subst ha;cases T<;>simp_all[tL.hC,tL.nx];subst h1;exact⟨rfl,rfl,rfl,rfl⟩
def S9 (k:Int) (v:Value) (c:Nat):MapEntry := { key:=.int .u8 k,val:=v,born:=c }
theorem ay3 {mt kt et:TypeId} (hk:prog.underlying kt=some (.int .u8)) (hm:prog.underlying mt=some (.map kt et)) (w:World) (es:Array MapEntry) (c:Nat) (k:Int) (v:Value) (h:Instr.findNow (.int .u8) (.int .u8 k) es.toList 0=some none) :
  (Instr.mapUpdate mt (.map (some w.heap.size)) (.int .u8 k) v).run prog (w.alloc (.map es c)) = .ok () (w.alloc (.map (es.push (S9 k v c)) (c+1))):=by
 have hb:(w.alloc (.map es c)).heap[w.heap.size]? = some (.map es c):=by show(w.heap.push _)[w.heap.size]? = _;simp
 have hc:(Instr.checkKey false 10000 kt (.int .u8 k)).run prog (w.alloc (.map es c)) = .ok () (w.alloc (.map es c)):=MapKept.run_checkKey (k:=.int .u8 k) hk (by simp[MapKept.IsKey]) false 9999
 have hs:(w.alloc (.map es c)).heap.setIfInBounds w.heap.size (.map (es.push (S9 k v c)) (c+1))=w.heap.push (.map (es.push (S9 k v c)) (c+1)):=by show(w.heap.push _).setIfInBounds w.heap.size _=_;apply Array.ext';simp
 unfold S9 at hs ⊢;simp[Instr.mapUpdate,run_underlying hm,MapKept.run_getObj_map hb,hc,MapKept.run_findKey hk h,MapKept.run_setObj_map _ hb,Result.andThen,hs];rfl
def Ir (V:List (Value×Value)) (n:Nat):Array MapEntry:=(Ki 0 (V.take n)).toArray
theorem AR {mt kt et:TypeId} (hk:prog.underlying kt=some (.int .u8)) (hm:prog.underlying mt=some (.map kt et)) (w:World) (V:List (Value×Value)) (c d:Nat) (k:Int) (v:Value) (hd:d=c+1) (h:Instr.findNow (.int .u8) (.int .u8 k) (Ir V c).toList 0=some none) (h2:(Ir V c).push (S9 k v c)=Ir V d) :
  (Instr.mapUpdate mt (.map (some w.heap.size)) (.int .u8 k) v).run prog (w.alloc (.map (Ir V c) c)) = .ok () (w.alloc (.map (Ir V d) d)):=by
 rw[<- h2,hd];exact ay3 hk hm w _ c k v h
theorem akt {g:FuncId} {fn:Func} (hf:prog.funcs[g]? = some fn) (hn:(fn.name == "runtime.NumGoroutine")=false) (hb:fn.body.isNone=false) {es:List (Value×Value)} (h:∀ w,Calls prog g #[] w λe w'=>e = .returned (.map (some w.heap.size))/\w'=w.alloc (FQ es)):SS prog gG ⟨g,es⟩:=by intro w _;refine DT hf hn hb ((h w).mono ?_);rintro en w' ⟨rfl,rfl⟩;refine⟨w.heap.size,rfl,Nat.le_refl _,?_,(tQ.refl w).alloc _⟩;show(w.heap.push _)[w.heap.size]? = _;simp
def Gz:List (Value×Value):=[(.int .u8 0,.func (.func 170) #[] #[]),(.int .u8 1,.func (.func 171) #[] #[]),(.int .u8 2,.func (.func 172) #[] #[]),(.int .u8 3,.func (.func 173) #[] #[])]
theorem ay4 (w:World):Calls prog 117 #[] w λe w'=>e = .returned (.map (some w.heap.size))/\w'=w.alloc (FQ Gz):=by
 have hk:prog.underlying 78=some (.int .u8):=by kernel_rfl
 have hm:prog.underlying 173=some (.map 78 171):=by kernel_rfl
 have e0:=Go.run_makeMap_plain (P:=prog) (w:=w) 173;rw[show(#[]:Array MapEntry)=Ir Gz 0 from rfl] at e0;have e1:=AR hk hm w Gz 0 1 0 (.func (.func 170) #[] #[]) rfl rfl rfl;have e2:=AR hk hm w Gz 1 2 1 (.func (.func 171) #[] #[]) rfl rfl rfl;have e3:=AR hk hm w Gz 2 3 2 (.func (.func 172) #[] #[]) rfl rfl rfl;have e4:=AR hk hm w Gz 3 4 3 (.func (.func 173) #[] #[]) rfl rfl rfl;clear hk hm;rw[show FQ Gz = .map (Ir Gz 4) 4 from rfl]
 go_enter func117,ntmps117
 go_wp2
 go_ret
 exact⟨rfl,rfl⟩
theorem ay5:SS prog gG ⟨117,Gz⟩:=akt func117 (by kernel_rfl) (by kernel_rfl) ay4
def Ad:List (Value×Value):=[(.int .u8 1,.agg #[.int .i64 2,.func (.func 88) #[] #[],.func (.func 89) #[] #[]]),(.int .u8 2,.agg #[.int .i64 2,.func (.func 88) #[] #[],.func (.func 90) #[] #[]]),(.int .u8 3,.agg #[.int .i64 2,.func (.func 88) #[] #[],.func (.func 91) #[] #[]]),(.int .u8 4,.agg #[.int .i64 2,.func (.func 88) #[] #[],.func (.func 93) #[] #[]]),(.int .u8 5,.agg #[.int .i64 1,.func (.func 88) #[] #[],.func (.func 95) #[] #[]]),(.int .u8 6,.agg #[.int .i64 3,.func (.func 88) #[] #[],.func (.func 97) #[] #[]]),(.int .u8 7,.agg #[.int .i64 2,.func (.func 88) #[] #[],.func (.func 99) #[] #[]]),(.int .u8 8,.agg #[.int .i64 1,.func (.func 88) #[] #[],.func (.func 101) #[] #[]]),(.int .u8 9,.agg #[.int .i64 1,.func (.func 88) #[] #[],.func (.func 103) #[] #[]]),(.int .u8 10,.agg #[.int .i64 1,.func (.func 104) #[] #[],.func (.func 105) #[] #[]]),(.int .u8 11,.agg #[.int .i64 1,.func (.func 107) #[] #[],.func (.func 108) #[] #[]]),(.int .u8 12,.agg #[.int .i64 1,.func (.func 107) #[] #[],.func (.func 110) #[] #[]]),(.int .u8 13,.agg #[.int .i64 2,.func (.func 88) #[] #[],.func (.func 112) #[] #[]]),(.int .u8 14,.agg #[.int .i64 2,.func (.func 88) #[] #[],.func (.func 115) #[] #[]])]
theorem ay6 (w:World):Calls prog 68 #[] w λe w'=>e = .returned (.map (some w.heap.size))/\w'=w.alloc (FQ Ad):=by
 have hk:prog.underlying 5=some (.int .u8):=by kernel_rfl
 have hm:prog.underlying 126=some (.map 5 84):=by kernel_rfl
 have e0:=Go.run_makeMap_plain (P:=prog) (w:=w) 126;rw[show(#[]:Array MapEntry)=Ir Ad 0 from rfl] at e0;have e1:=AR hk hm w Ad 0 1 1 (.agg #[.int .i64 2,.func (.func 88) #[] #[],.func (.func 89) #[] #[]]) rfl rfl rfl;have e2:=AR hk hm w Ad 1 2 2 (.agg #[.int .i64 2,.func (.func 88) #[] #[],.func (.func 90) #[] #[]]) rfl rfl rfl;have e3:=AR hk hm w Ad 2 3 3 (.agg #[.int .i64 2,.func (.func 88) #[] #[],.func (.func 91) #[] #[]]) rfl rfl rfl;have e4:=AR hk hm w Ad 3 4 4 (.agg #[.int .i64 2,.func (.func 88) #[] #[],.func (.func 93) #[] #[]]) rfl rfl rfl;have e5:=AR hk hm w Ad 4 5 5 (.agg #[.int .i64 1,.func (.func 88) #[] #[],.func (.func 95) #[] #[]]) rfl rfl rfl;have e6:=AR hk hm w Ad 5 6 6 (.agg #[.int .i64 3,.func (.func 88) #[] #[],.func (.func 97) #[] #[]]) rfl rfl rfl;have e7:=AR hk hm w Ad 6 7 7 (.agg #[.int .i64 2,.func (.func 88) #[] #[],.func (.func 99) #[] #[]]) rfl rfl rfl;have e8:=AR hk hm w Ad 7 8 8 (.agg #[.int .i64 1,.func (.func 88) #[] #[],.func (.func 101) #[] #[]]) rfl rfl rfl;have e9:=AR hk hm w Ad 8 9 9 (.agg #[.int .i64 1,.func (.func 88) #[] #[],.func (.func 103) #[] #[]]) rfl rfl rfl;have e10:=AR hk hm w Ad 9 10 10 (.agg #[.int .i64 1,.func (.func 104) #[] #[],.func (.func 105) #[] #[]]) rfl rfl rfl;have e11:=AR hk hm w Ad 10 11 11 (.agg #[.int .i64 1,.func (.func 107) #[] #[],.func (.func 108) #[] #[]]) rfl rfl rfl;have e12:=AR hk hm w Ad 11 12 12 (.agg #[.int .i64 1,.func (.func 107) #[] #[],.func (.func 110) #[] #[]]) rfl rfl rfl;have e13:=AR hk hm w Ad 12 13 13 (.agg #[.int .i64 2,.func (.func 88) #[] #[],.func (.func 112) #[] #[]]) rfl rfl rfl;have e14:=AR hk hm w Ad 13 14 14 (.agg #[.int .i64 2,.func (.func 88) #[] #[],.func (.func 115) #[] #[]]) rfl rfl rfl;clear hk hm;rw[show FQ Ad = .map (Ir Ad 14) 14 from rfl]
 go_enter func68,ntmps68
 go_wp2
 go_ret
 exact⟨rfl,rfl⟩
theorem ay7:SS prog gG ⟨68,Ad⟩:=akt func68 (by kernel_rfl) (by kernel_rfl) ay6
def mEs:List Mf:=[⟨117,Gz⟩,⟨68,Ad⟩]
theorem ay8:∀ m∈mEs,SS prog gG m:=by
 intro m hm;simp only[mEs,List.mem_cons,List.not_mem_nil,or_false] at hm;rcases hm with rfl|rfl
 ·exact ay5
 ·exact ay7
def mE:MX:=⟨mEs,[]⟩
theorem Ke {L M:List uL} {S:List wY} : Qr (uI L M S) mE:=⟨ay8,λa ha=>by cases ha⟩
end Go.Proofs.YtippohicjhilnaaGreatDoor
