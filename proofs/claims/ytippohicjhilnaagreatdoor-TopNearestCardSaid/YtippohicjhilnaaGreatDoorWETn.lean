import Derived.Test.YtippohicjhilnaaGreatDoorZBTn
import Derived.Test.YtippohicjhilnaaGreatDoorZDTn
set_option linter.unusedSimpArgs false
set_option linter.unusedVariables false
set_option maxRecDepth 100000
open Go.Proofs.Tryz
namespace Go.Proofs.YtippohicjhilnaaGreatDoor
open Go.RowKit
structure Om where
 g:FuncId
 es:List (Value×Value)
def Vm (P:Program) (G:wQ) (m:Om):Prop :=
 ∀ w,Gl G w->Ce P m.g #[] w λen w'=>∃ b,en = .returned (.map (some b))/\w.heap.size<=b/\w'.heap[b]? = some (Ia m.es)/\vY w w'
structure SC where
 g:FuncId
 id:Nat
 m:Nat
 t:TypeId
 ki:List VK
 ko:List VK
def Eh (ks:List VK) (m:Nat):List VK:=(List.replicate m ks).flatten
def aAZ (P:Program) (G:wQ) (a:SC) (F:List Int->List Int):Prop :=
 ∀ l,l.length=(Eh a.ki a.m).length->∀ f r,F l=f::r->r.length=(Eh a.ko a.m).length->∀ w v,Gl G w->Reads w v a.m (xu (Eh a.ki a.m) l) ->
  Ce P a.g #[v] w λen w'=>∃ u,en = .returned (.tuple #[u,.int .u8 (IntKind.u8.wrap f)])/\Reads w' u a.m (xu (Eh a.ko a.m) r)/\vY w w'/\∀ b,yR u=some b->w.heap.size<=b
structure MX where
 ms:List Om
 al:List SC
def Vn:List VK->Bool
 | []=>true
 | .int _::l=>Vn l
 | .bool::l=>Vn l
 | _::_=>false
structure SF (C:xP) (X:MX):Prop where
 ms:∀ m∈X.ms,Vm C.P C.G m
 al:∀ a∈X.al,aAZ C.P C.G a (C.Φ a.id)
def YC:List Om->FuncId->Option Om
 | [],_=>none
 | x::l,g=>match Nat.beq x.g g with|true=>some x|false=>YC l g
theorem aA0 {L:List Om} {g:FuncId} {e:Om} (h:YC L g=some e):e∈L/\e.g=g:=by
 induction L with
 | nil=>cases h
 | cons x l ih =>
  simp only[YC] at h;split at h
  ·rename_i hb;cases h;exact⟨List.mem_cons_self,xO.1 hb⟩
  ·obtain⟨h1,h2⟩:=ih h;exact⟨List.mem_cons_of_mem _ h1,h2⟩
def YD:List SC->FuncId->Nat->TypeId->Option SC
 | [],_,_,_=>none
 | x::l,g,m,t=>match Nat.beq x.g g,Nat.beq x.m m,Nat.beq x.t t with|true,true,true=>some x|_,_,_=>YD l g m t
theorem aA1 {L:List SC} {g:FuncId} {m:Nat} {t:TypeId} {e:SC} (h:YD L g m t=some e):e∈L/\e.g=g/\e.m=m/\e.t=t:=by
 induction L with
 | nil=>cases h
 | cons x l ih =>
  simp only[YD] at h;split at h
  ·rename_i h1 h2 h3;cases h;exact⟨List.mem_cons_self,xO.1 h1,xO.1 h2,xO.1 h3⟩
  ·obtain⟨h1,h2⟩:=ih h;exact⟨List.mem_cons_of_mem _ h1,h2⟩
def amx (x:Value×Value):Value:=.tuple #[x.1,x.2]
def YE (es:List (Value×Value)):SO:=⟨[.v (.tuple (es.map amx).toArray)],none⟩
theorem aA2 (s:wF) (es:List (Value×Value)):(YE es).den s = .mp es:=by
 refine SO.aC3 s rfl ?_;simp only[YE,Dj,aaf,List.map_map];congr 1;have:agm∘amx=id:=by funext x;rfl
 simp[this]
def Vo (n:X) (b:Nat) (ks:List VK):SO:=⟨.v (.bool false) :: .int .i64 n :: .v (.int .i64 (.ofNat b))::ks.map (λk=>TP k (.lit 0)),none⟩
theorem aeR:∀ {ks:List VK},Vn ks=true->(ks.map (λk=>TP k (.lit 0))).map V6=ks
 | [],_=>rfl
 | .int k::l,h=>by rw[List.map_cons,List.map_cons,aeR (ks:=l) h];rfl
 | .bool::l,h=>by rw[List.map_cons,List.map_cons,aeR (ks:=l) h];rfl
 | .bit::l,h=>by cases h
 | .nat::l,h=>by cases h
theorem aA3 (s:wF) (n:X) (b:Nat) {ks:List VK} (hk:Vn ks=true):(Vo n b ks).den s = .rd (n.den s).toNat (Cw s b ks (n.den s).toNat):=by
 have h:DT (Vo n b ks).c=some ⟨n,b,ks⟩:=by simp only[Vo,DT,V7,V8,V9,aeR hk]
 exact SO.aCX s (r:=⟨n,b,ks⟩) rfl rfl h
theorem amy:∀ (a b:List VK) (p q:List Int),p.length=a.length->xu (a++b) (p++q)=xu a p++xu b q
 | [],b,p,q,h=>by have:p = []:=List.length_eq_zero_iff.1 (by simpa using h);subst this;rfl
 | k::a,b,[],q,h=>by simp at h
 | k::a,b,n::p,q,h=>by rw[List.cons_append,List.cons_append,xu,xu,amy a b p q (by simpa using h),List.cons_append]
theorem amz (ks:List VK) (m:Nat):Eh ks (m+1)=Eh ks m++ks:=by unfold Eh;rw[List.replicate_succ',List.flatten_append];simp
theorem aeS (ks:List VK):∀ m,(Eh ks m).length=m*ks.length
 | 0=>by simp[Eh]
 | m+1=>by rw[amz,List.length_append,aeS ks m,Nat.add_mul,Nat.one_mul]
theorem amA (s:wF) (b:Nat) (ks:List VK):∀ m,Cw s b ks m=xu (Eh ks m) (Au s b (m*ks.length))
 | 0=>by simp[Cw,Eh,xu]
 | m+1=>by rw[Cw,amA s b ks m,amz,Nat.add_mul,Nat.one_mul,abn,amy _ _ _ _ (by rw[Jq,aeS])]
def aeT (C:xP) (X:MX) (g:FuncId) (args:List SV) (H:SH) (k nv:Nat) (fc:Facts) (K:Unit->vU CR):vU CR:=match args with
 | [.sl b 0 n m]=>match hget H b with
  | some o=>match o.t with
   | some t=>match YD X.al g n t with
    | some a=>match MP (Eh a.ki a.m) o.c,Vn a.ko with
     | some xs,true=>zk (Nat.succ nv) λnv1=>zk (a.m*a.ko.length) λq=>.call a.id xs nv (Nat.succ q) (zk (nv1+q) λnv'=>.leaf ⟨.tup [.hd k,.int .u8 (.var (.int .u8) nv)],[b],[(k,Vo (.lit (.ofNat a.m)) nv1 a.ko)],nv',fc⟩)
     | _,_=>.stuck "a slice's cells"
    | none=>K ()
   | none=>K ()
  | none=>K ()
 | _=>K ()
def aeU (C:xP) (X:MX) (ex:Code->St->vU (Exit×St)) (g:FuncId) (args:List SV) (H:SH) (k nv:Nat) (fc:Facts):vU CR:=match YC X.ms g with
 | some m=>match args with
  | []=>.leaf ⟨.hd k,[],[(k,YE m.es)],nv,fc⟩
  | _=>.stuck "a map's arguments"
 | none=>aeT C X g args H k nv fc λ_=>TV C ex g args H k nv fc
section
variable {C:xP} {E:xV} {s:wF} {ms:MX}
theorem aA4 (hX:SF C ms) {g:FuncId} {args:List SV} {H:SH} {k nv:Nat} {fc:Facts} {K:Unit->vU CR} {r:CR} (h:(aeT C ms g args H k nv fc K).path C.Φ s=some r) (hfc:xS s fc) (hK:(K ()).path C.Φ s=some r->Es C s g args H k r):Es C s g args H k r:=by
 unfold aeT at h;split at h
 ·rename_i b n m;split at h
  ·rename_i o ho;split at h
   ·rename_i t ht;split at h
    ·rename_i a ha;obtain⟨a1,a2,a3,a4⟩:=aA1 ha;split at h
     ·rename_i xs hxs hpk;rw[yK,yK] at h;simp only[vU.path] at h;split at h
      ·rename_i hce;rw[yK] at h;cases h;obtain⟨f1,f2⟩:=TW s hxs;have hB:SH.den s H b=some (.own ((xu (Eh a.ki a.m) (xs.map (X.den s))).map .v) t):=by rw[SH.aCp ho ht,f1]
       refine⟨λj hj=>?_,λx hx=>?_,hfc,λw0 B0=>?_⟩
       ·simp at hj;subst hj;rw[hB];simp
       ·simp[xz] at hx;subst hx;exact .inl rfl
       ·intro H' e w hag hk _ _ R;have hb':H' b=some (.own ((xu (Eh a.ki a.m) (xs.map (X.den s))).map .v) t):=by rw[hag b (by simp)];exact hB
        have hown:=R.own b _ t hb';rw[Cs] at hown;have hrd:Reads w (.slice (some ⟨e.blk b,0,none⟩) n m) a.m (xu (Eh a.ki a.m) (xs.map (X.den s))):=.inr ⟨e.blk b,0,m,by rw[a3],R.lt hb',λj x hj=>by simp[World.cell?,hown,hj]⟩;unfold MJ at hce;rw[Au] at hce;have hcall:=hX.al a a1 (xs.map (X.den s)) (by rw[List.length_map];exact f2) _ _ hce.symm (by rw[Jq,aeS]) w _ R.gl hrd;rw[a2] at hcall;have hv:AV.vals e (SV.aaE s [.sl b 0 n m]) = [Value.slice (some ⟨e.blk b,0,none⟩) n m]:=rfl;rw[hv];refine hcall.mono ?_;rintro en w' ⟨u,rfl,hru,hbel,hfr⟩;have R2:=R.below hbel
        have hef:xz s [(k,Vo (.lit (.ofNat a.m)) (nv+1) a.ko)] = [(k,.rd a.m (Cw s (nv+1) a.ko a.m))]:=by simp only[xz,List.map_cons,List.map_nil,aA3 s _ _ hpk,X.den];rfl
        rw[show Nat.succ nv=nv+1 from rfl,hef]
        have hsl:EP u=u:=by rcases hru with⟨h1,_⟩|⟨b',o',cap,h1,_⟩<;>rw[h1]<;>rfl
        refine⟨e.aeZ k u,?_,?_,Env.aCB hk e _,λj hj=>?_⟩
        ·have h2:((SV.tup [.hd k,.int .u8 (.var (.int .u8) nv)]).den s).val (e.aeZ k u) = .tuple #[u,.int .u8 (IntKind.u8.wrap (s nv))]:=by simp only[SV.den,SV.aaE];show(Cq [.hd k,.v _]).val _=_;simp[Cq,yF,AV.val,AV.vals,Env.aeZ,hsl,X.den,VK.norm]
         rw[h2]
        ·rw[wm.puts,wm.puts];refine R2.handle hk (by rw[amA];exact hru) (λj c t' hj he=>?_) (λb2 hb2=>.inl (Nat.le_trans R.size (hfr b2 hb2)));have h3:=R.lt hj;have:=hfr _ he;omega
        ·have:j=k:=by have h4:=SV.aCY s (.tup [.hd k,.int .u8 (.var (.int .u8) nv)]) hj;simpa [SV.refs,SV.aav] using h4
         subst this;rw[wm.puts,wm.puts,wm.aed];simp
      ·cases h
     ·cases h
    ·exact hK h
   ·exact hK h
  ·exact hK h
 ·exact hK h
theorem aA5 (hC:yS C E) (hms:SF C ms) {exf:Code->St->vU (Exit×St)} (hex:Ub C E s exf) {g:FuncId} {args:List SV} {H:SH} {k nv:Nat} {fc:Facts} {r:CR} (h:(aeU C ms exf g args H k nv fc).path C.Φ s=some r) (hfc:xS s fc):Es C s g args H k r:=by
 unfold aeU at h;split at h
 ·rename_i m hm;obtain⟨h1,h2⟩:=aA0 hm;split at h
  ·cases h;refine⟨λb hb=>by simp at hb,λx hx=>by simp[xz] at hx;subst hx;exact .inl rfl,hfc,λw0 B0=>?_⟩;intro H' e w _ hk _ _ R;subst h2;refine(hms.ms m h1 w R.gl).mono ?_;rintro en w' ⟨b,rfl,hb,ho,hbel⟩;have hef:xz s [(k,YE m.es)] = [(k,.mp m.es)]:=by simp only[xz,List.map_cons,List.map_nil,aA2]
   refine⟨e.aeZ k (.map (some b)),by simp[SV.den,AV.val,Env.aeZ,EP],?_,Env.aCB hk e _,λj hj=>?_⟩
   ·rw[hef];exact R.aD4 hbel hk hb ho
   ·simp[SV.den,AV.refs] at hj;subst hj;rw[hef,wm.puts,wm.puts,wm.aed];simp
  ·cases h
 ·exact aA4 hms h hfc λh=>abd hC hex h hfc
end
def zZ (C:xP) (ms:MX):Nat->Code->St->vU (Exit×St)
 | 0,_,_=>.stuck "no fuel"
 | f+1,c,s=>match c with
  | .skip=>.leaf (.normal,s)
  | .label _=>.leaf (.normal,s)
  | .exit id=>.leaf (.exit id,s)
  | .ret=>.leaf (.ret,s)
  | .seq a b=>(zZ C ms f a s).bind λr=>match r.1 with | .normal=>zZ C ms f b r.2|_=>.leaf r
  | .cond c a b=>match FU s.T c with
   | some (.bool q)=>GJ s.fc q λbb fc=>match bb with|true=>zZ C ms f a { s with fc:=fc } | false=>zZ C ms f b { s with fc:=fc }
   | _=>.stuck "cond"
  | .block id c=>(zZ C ms f c s).bind λr=>match r.1 with
   | .exit id'=>match Nat.beq id' id with|true=>.leaf (.normal,r.2)|false=>.leaf r
   | _=>.leaf r
  | .loop c=>(zZ C ms f c s).bind λr=>match r.1 with | .normal=>zZ C ms f (.loop c) r.2|_=>.leaf r
  | .scope c=>(zZ C ms f c s).bind λr=>match r.1 with | .goto _=>.stuck "goto" | _=>.leaf r
  | .region _ ops draw=>(EW C (aeU C ms (zZ C ms f)) ops s.N 0 ops.toList s.T s.H [] s.nv s.dt s.fc).bind λr=>regionEnd s.T.length ops draw s r
  | _=>.stuck "no such text"
def H9 (C:xP) (ms:MX) (fuel:Nat) (g:FuncId) (args:List SV) (nv:Nat):vU SV :=
 match C.P.funcs[g]? with
 | none=>.stuck "no such function"
 | some fn=>match fn.body with
  | none=>.stuck "no body"
  | some cd=>match Nat.ble args.length fn.ntmps with
   | true=>(zZ C ms fuel cd ⟨0,zK args fn.ntmps,[],nv,[],[]⟩).bind λr=>match r.1 with
    | .normal=>match Af C.P r.2.T r.2.H fn.results.toList with|some rs=>.leaf (aeY rs)|none=>.stuck "results"
    | .ret=>match Af C.P r.2.T r.2.H fn.results.toList with|some rs=>.leaf (aeY rs)|none=>.stuck "results"
    | _=>.stuck "end"
   | false=>.stuck "arguments"
section
variable {C:xP} {E:xV} {s:wF} {ms:MX}
theorem amB (hC:yS C E) (hms:SF C ms):∀ n:Nat,Ub C E s (zZ C ms n) /\
  ∀ c st ex st',(zZ C ms n (.loop c) st).path C.Φ s=some (ex,st')->xS s st.fc->∀ w0 B0,CP ⟨C.P,C.G,E,w0,B0,st.T.length⟩ c (Bq s ex st') n st.N (wT.den s st.T) (SH.den s st.H)
 | 0=>⟨λc st ex st' h=>(by cases h),λc st ex st' h=>(by cases h)⟩
 | n+1=>by
  obtain⟨ih,ihl⟩:=amB hC hms n
  have loop:∀ c st ex st',(zZ C ms (n+1) (.loop c) st).path C.Φ s=some (ex,st')->xS s st.fc->GR C E s (.loop c) st ex st'/\∀ w0 B0,CP ⟨C.P,C.G,E,w0,B0,st.T.length⟩ c (Bq s ex st') (n+1) st.N (wT.den s st.T) (SH.den s st.H):=by
   intro c st ex st' h hf;simp only[zZ] at h;obtain⟨ex1,st1,h1,h2⟩:=EX h;have s1:=ih _ _ _ _ h1 hf;rcases MV h2 with⟨rfl,h3⟩|⟨hx,h3⟩
   ·have s2:=ih _ _ _ _ h3 s1.fc
    have hr:∀ w0 B0,CP ⟨C.P,C.G,E,w0,B0,st.T.length⟩ c (Bq s ex st') (n+1) st.N (wT.den s st.T) (SH.den s st.H):=λw0 B0=>by rw[OV];refine(s1.aw w0 B0).mono ?_;rintro x N T H ⟨rfl,rfl,rfl,rfl⟩;have:=ihl _ _ _ _ h3 s1.fc w0 B0;rw[s1.len] at this;exact this
    exact⟨s1.trans s2 λw0 B0=>OU _ (hr w0 B0),hr⟩
   ·obtain⟨rfl,rfl⟩:ex1=ex/\st1=st':=by cases h3;exact⟨rfl,rfl⟩
    have hr:∀ w0 B0,CP ⟨C.P,C.G,E,w0,B0,st.T.length⟩ c (Bq s ex1 st1) (n+1) st.N (wT.den s st.T) (SH.den s st.H):=λw0 B0=>by rw[OV];refine(s1.aw w0 B0).mono ?_;rintro x N T H ⟨rfl,rfl,rfl,rfl⟩;exact MW hx ⟨rfl,rfl,rfl,rfl⟩
    exact⟨⟨λw0 B0=>OU _ (hr w0 B0),s1.len,s1.dt,s1.fc⟩,hr⟩
  refine⟨?_,λc st ex st' h hf=>(loop c st ex st' h hf).2⟩;intro c st ex st' h hf
  cases c with
  | skip=>simp only[zZ] at h;cases h;exact⟨λw0 B0=>Zw ⟨rfl,rfl,rfl,rfl⟩,rfl,λj hj=>⟨hj,rfl⟩,hf⟩
  | label l=>simp only[zZ] at h;cases h;exact⟨λw0 B0=>Zx ⟨rfl,rfl,rfl,rfl⟩,rfl,λj hj=>⟨hj,rfl⟩,hf⟩
  | exit id=>simp only[zZ] at h;cases h;exact⟨λw0 B0=>Zy ⟨rfl,rfl,rfl,rfl⟩,rfl,λj hj=>⟨hj,rfl⟩,hf⟩
  | ret=>simp only[zZ] at h;cases h;exact⟨λw0 B0=>Zz ⟨rfl,rfl,rfl,rfl⟩,rfl,λj hj=>⟨hj,rfl⟩,hf⟩
  | seq a b =>
   simp only[zZ] at h;obtain⟨ex1,st1,h1,h2⟩:=EX h;have s1:=ih _ _ _ _ h1 hf;rcases MV h2 with⟨rfl,h3⟩|⟨hx,h3⟩
   ·have s2:=ih _ _ _ _ h3 s1.fc;refine s1.trans s2 λw0 B0=>OT ((s1.aw w0 B0).mono ?_)
    rintro x N T H ⟨rfl,rfl,rfl,rfl⟩;have:=s2.aw w0 B0;rw[s1.len] at this;exact this
   ·cases h3;refine⟨λw0 B0=>OT ((s1.aw w0 B0).mono ?_),s1.len,s1.dt,s1.fc⟩;rintro x N T H ⟨rfl,rfl,rfl,rfl⟩;exact MW hx ⟨rfl,rfl,rfl,rfl⟩
  | cond c a b =>
   simp only[zZ] at h;split at h
   ·rename_i q hq;have hd:=KL s st.T _ _ hq;obtain⟨fc',hf',h⟩:=Jr hf h;simp only[SV.den] at hd
    cases hb:(q.den s != 0) with
    | true =>
     rw[hb] at h hd;have s1:=ih _ _ _ _ h hf';exact⟨λw0 B0=>ZA hd (s1.aw w0 B0),s1.len,s1.dt,s1.fc⟩
    | false =>
     rw[hb] at h hd;have s1:=ih _ _ _ _ h hf';exact⟨λw0 B0=>ZB hd (s1.aw w0 B0),s1.len,s1.dt,s1.fc⟩
   ·cases h
  | block id c =>
   simp only[zZ] at h;obtain⟨ex1,st1,h1,h2⟩:=EX h;have s1:=ih _ _ _ _ h1 hf
   have key:ex=JC id ex1/\st'=st1:=by
    cases ex1 with
    | exit id' =>
     simp only at h2;simp only[JC];split at h2
     ·rename_i hb;cases h2;rw[if_pos (xO.1 hb)];exact⟨rfl,rfl⟩
     ·rename_i hb;cases h2;rw[if_neg (λe=>by rw[e] at hb;simp at hb)];exact⟨rfl,rfl⟩
    | _=>cases h2;exact⟨rfl,rfl⟩
   obtain⟨rfl,rfl⟩:=key;refine⟨λw0 B0=>ZC ((s1.aw w0 B0).mono ?_),s1.len,s1.dt,s1.fc⟩;rintro x N T H ⟨rfl,rfl,rfl,rfl⟩
   cases x with
   | exit id' =>
    simp only[Ti,JC];split
    ·exact⟨rfl,rfl,rfl,rfl⟩
    ·exact⟨rfl,rfl,rfl,rfl⟩
   | _=>exact⟨rfl,rfl,rfl,rfl⟩
  | loop c=>exact(loop c st ex st' h hf).1
  | scope c =>
   simp only[zZ] at h;obtain⟨ex1,st1,h1,h2⟩:=EX h;have s1:=ih _ _ _ _ h1 hf
   have key:(∀ l,ex1 ≠ .goto l)/\ex=ex1/\st'=st1:=by cases ex1<;>first|(cases h2;exact⟨λl e=>(by cases e),rfl,rfl⟩)|cases h2
   obtain⟨hg,rfl,rfl⟩:=key;exact⟨λw0 B0=>ZF (s1.aw w0 B0) (λl N T H e=>hg l e.1.symm),s1.len,s1.dt,s1.fc⟩
  | region id ops draw =>
   simp only[zZ] at h;obtain⟨out,h1,h2⟩:=vU.abA h
   have dst:∀ o∈ops.toList,∀ t,o.dst=some t->t<st.T.length:=by
    unfold regionEnd at h2;split at h2
    ·split at h2
     ·rename_i hdr _;simp only[drawOK,Bool.and_eq_true] at hdr;exact Jk hdr.1.2
     ·cases h2
     ·cases h2
    ·split at h2
     ·rename_i hdr;exact Jk hdr
     ·cases h2
   obtain⟨e1,e2,e3,e4⟩:=Ud hC (nt:=st.T.length) (λg args H k nv fc r hr hf=>aA5 hC hms ih hr hf) ops.toList 0 st.T st.H [] st.nv st.dt st.fc out h1 hf rfl dst;unfold regionEnd at h2
   cases draw with
   | true =>
    simp only at h2;split at h2
    ·rename_i hdr htr;rw[yK] at h2;cases h2;refine⟨λw0 B0=>ZH hC.eq hC.mix hdr (e1 w0 B0 [] _ rfl ?_),e2,e4,e3⟩;intro trf htf;refine⟨?_,rfl,rfl,rfl,rfl⟩;rw[<- htf] at htr;exact Uc htr
    ·cases h2
    ·cases h2
   | false =>
    simp only at h2;split at h2
    ·rename_i hdr;rw[yK] at h2;cases h2;exact⟨λw0 B0=>ZG hC.eq hdr (e1 w0 B0 [] _ rfl λtrf htf=>⟨rfl,rfl,rfl,rfl⟩),e2,e4,e3⟩
    ·cases h2
  | rangeFunc f ps a b=>simp only[zZ] at h;cases h
  | goto l=>simp only[zZ] at h;cases h
  | refuse w=>simp only[zZ] at h;cases h
end
theorem aA6 {C:xP} {E:xV} {s:wF} {ms:MX} (hC:yS C E) (hms:SF C ms) {n:Nat} {g:FuncId} {args:List SV} {nv:Nat} {a:SV} {vs:List Value} {v:Value} (h:(H9 C ms n g args nv).path C.Φ s=some a) (ha:SV.aaE s args=vs.map .v) (hv:a.den s = .v v) :
  PC C.P C.G g vs v:=by
 unfold H9 at h;split at h
 ·cases h
 ·rename_i fn hf;split at h
  ·cases h
  ·rename_i cd hb;split at h
   ·rename_i hl;obtain⟨⟨ex,st⟩,h1,h2⟩:=vU.abA h;have sp:=(amB (E:=E) (s:=s) hC hms n).1 _ _ _ _ h1 (λx hx=>by cases hx);have hlen:(zK args fn.ntmps).length=fn.ntmps:=KS _ _ (Nat.le_of_ble_eq_true hl);have hvl:vs.length=args.length:=by have:=congrArg List.length ha;rw[Ep,List.length_map] at this;exact this.symm
    refine ZK E hf hb (hC.nm g fn hf (by rw[hb];rfl)) (by rw[hvl];exact hl) λw=>?_
    have hA:=sp.aw w xB.nil;simp only[hlen,Pv,ha] at hA
    have key:∀ rs,Af C.P st.T st.H fn.results.toList=some rs->aeY rs=a->∃ rs',DF C.P C.G (wT.den s st.T) (SH.den s st.H) fn.results.toList=some rs'/\GD rs' = .v v:=λrs hrs e =>
     ⟨_,KT s hrs,by rw[KR,e,hv]⟩
    have hx:(ex = .normal\/ex = .ret)/\∃ rs,Af C.P st.T st.H fn.results.toList=some rs/\aeY rs=a:=by
     rcases Pw h2 with⟨rfl,h3⟩|⟨rfl,h3⟩
     ·split at h3
      ·rename_i rs hrs;cases h3;exact⟨.inl rfl,rs,hrs,rfl⟩
      ·cases h3
     ·split at h3
      ·rename_i rs hrs;cases h3;exact⟨.inr rfl,rs,hrs,rfl⟩
      ·cases h3
    obtain⟨hx,rs,hrs,e⟩:=hx;refine AW.mono (show AW _ cd (Bq s ex st) 0 _ _ from hA) ?_;rintro x N T H ⟨rfl,rfl,rfl,rfl⟩;rcases hx with rfl|rfl
    ·exact key rs hrs e
    ·exact key rs hrs e
   ·cases h
theorem Mm {C:xP} {E:xV} {ms:MX} (hC:yS C E) (hms:SF C ms) (n:Nat) {g:FuncId} {ct:Ct} {t:vU SV} (hp:Nat.blt 0 (vV ct.r).length=true) (h:H9 C ms n g (wN ct.a (wM 0 (vV ct.a))) (vV ct.a).length=t) (hs:F4 (vV ct.a).length t=true) :
  yT C.P C.G ⟨g,ct,wE C.Φ ct t⟩:=⟨λl hl hF=>by
 obtain⟨a,l',xs,h1,h2⟩:=ahc hp hF;obtain⟨h3,m,rfl⟩:=KV h1 (by rw[hl];exact hs);rw[<- h] at h3;obtain⟨h4,h5⟩:=GN (wC (l++m)) (vV ct.a) 0;rw[<- hl,Ue] at h4;have hf:=KQ (wC (l++m)) h2;have e:wE C.Φ ct t l=xs.map (X.den (wC (l++m))):=by unfold wE;simp only[h1,h2,F3,id]
 refine aA6 hC hms h3 (Jw h4 h5) ?_;simp only[e]
 exact WA hf.1 (Px _ _)⟩
def vU.th {α:Type} : vU α->vU α
 | .ite _ a _=>a
 | t=>t
def vU.el {α:Type} : vU α->vU α
 | .ite _ _ b=>b
 | t=>t
def vU.nx {α:Type} : vU α->vU α
 | .call _ _ _ _ t=>t
 | t=>t
def vU.hI {α:Type} : vU α->Option X
 | .ite c _ _=>some c
 | _=>none
def vU.hC {α:Type} : vU α->Option (Nat×List X×Nat×Nat)
 | .call f a m n _=>some (f,a,m,n)
 | _=>none
theorem YF {α:Type} {T a b:vU α} {c:X} (h1:T.hI=some c) (ha:T.th=a) (hb:T.el=b):T = .ite c a b:=by subst ha hb;cases T<;>simp_all[vU.hI,vU.th,vU.el]
theorem YG {α:Type} {T a:vU α} {q:Nat×List X×Nat×Nat} (h1:T.hC=some q) (ha:T.nx=a):T = .call q.1 q.2.1 q.2.2.1 q.2.2.2 a:=by subst ha;cases T<;>simp_all[vU.hC,vU.nx];subst h1;exact⟨rfl,rfl,rfl,rfl⟩
def Vp (k:Int) (v:Value) (c:Nat):MapEntry := { key:=.int .u8 k,val:=v,born:=c }
theorem aA7 {mt kt et:TypeId} (hk:prog.underlying kt=some (.int .u8)) (hm:prog.underlying mt=some (.map kt et)) (w:World) (es:Array MapEntry) (c:Nat) (k:Int) (v:Value) (h:Instr.findNow (.int .u8) (.int .u8 k) es.toList 0=some none) :
  (Instr.mapUpdate mt (.map (some w.heap.size)) (.int .u8 k) v).run prog (w.alloc (.map es c)) = .ok () (w.alloc (.map (es.push (Vp k v c)) (c+1))):=by
 have hb:(w.alloc (.map es c)).heap[w.heap.size]? = some (.map es c):=by show(w.heap.push _)[w.heap.size]? = _;simp
 have hc:(Instr.checkKey false 10000 kt (.int .u8 k)).run prog (w.alloc (.map es c)) = .ok () (w.alloc (.map es c)):=MapKept.run_checkKey (k:=.int .u8 k) hk (by simp[MapKept.IsKey]) false 9999
 have hs:(w.alloc (.map es c)).heap.setIfInBounds w.heap.size (.map (es.push (Vp k v c)) (c+1))=w.heap.push (.map (es.push (Vp k v c)) (c+1)):=by show(w.heap.push _).setIfInBounds w.heap.size _=_;apply Array.ext';simp
 unfold Vp at hs ⊢;simp[Instr.mapUpdate,run_underlying hm,MapKept.run_getObj_map hb,hc,MapKept.run_findKey hk h,MapKept.run_setObj_map _ hb,Result.andThen,hs];rfl
def Kl (V:List (Value×Value)) (n:Nat):Array MapEntry:=(Mr 0 (V.take n)).toArray
theorem CJ {mt kt et:TypeId} (hk:prog.underlying kt=some (.int .u8)) (hm:prog.underlying mt=some (.map kt et)) (w:World) (V:List (Value×Value)) (c d:Nat) (k:Int) (v:Value) (hd:d=c+1) (h:Instr.findNow (.int .u8) (.int .u8 k) (Kl V c).toList 0=some none) (h2:(Kl V c).push (Vp k v c)=Kl V d) :
  (Instr.mapUpdate mt (.map (some w.heap.size)) (.int .u8 k) v).run prog (w.alloc (.map (Kl V c) c)) = .ok () (w.alloc (.map (Kl V d) d)):=by
 rw[<- h2,hd];exact aA7 hk hm w _ c k v h
theorem amC {g:FuncId} {fn:Func} (hf:prog.funcs[g]? = some fn) (hn:(fn.name == "runtime.NumGoroutine")=false) (hb:fn.body.isNone=false) {es:List (Value×Value)} (h:∀ w,Calls prog g #[] w λe w'=>e = .returned (.map (some w.heap.size))/\w'=w.alloc (Ia es)):Vm prog gG ⟨g,es⟩:=by intro w _;refine FC hf hn hb ((h w).mono ?_);rintro en w' ⟨rfl,rfl⟩;refine⟨w.heap.size,rfl,Nat.le_refl _,?_,(vY.refl w).alloc _⟩;show(w.heap.push _)[w.heap.size]? = _;simp
def IY:List (Value×Value):=[(.int .u8 0,.func (.func 170) #[] #[]),(.int .u8 1,.func (.func 171) #[] #[]),(.int .u8 2,.func (.func 172) #[] #[]),(.int .u8 3,.func (.func 173) #[] #[])]
theorem aA8 (w:World):Calls prog 117 #[] w λe w'=>e = .returned (.map (some w.heap.size))/\w'=w.alloc (Ia IY):=by
 have hk:prog.underlying 78=some (.int .u8):=by kernel_rfl
 have hm:prog.underlying 173=some (.map 78 171):=by kernel_rfl
 have e0:=Go.run_makeMap_plain (P:=prog) (w:=w) 173;rw[show(#[]:Array MapEntry)=Kl IY 0 from rfl] at e0;have e1:=CJ hk hm w IY 0 1 0 (.func (.func 170) #[] #[]) rfl rfl rfl;have e2:=CJ hk hm w IY 1 2 1 (.func (.func 171) #[] #[]) rfl rfl rfl;have e3:=CJ hk hm w IY 2 3 2 (.func (.func 172) #[] #[]) rfl rfl rfl;have e4:=CJ hk hm w IY 3 4 3 (.func (.func 173) #[] #[]) rfl rfl rfl;clear hk hm;rw[show Ia IY = .map (Kl IY 4) 4 from rfl]
 go_enter func117,ntmps117
 go_wp2
 go_ret
 exact⟨rfl,rfl⟩
theorem aA9:Vm prog gG ⟨117,IY⟩:=amC func117 (by kernel_rfl) (by kernel_rfl) aA8
def BX:List (Value×Value):=[(.int .u8 1,.agg #[.int .i64 2,.func (.func 88) #[] #[],.func (.func 89) #[] #[]]),(.int .u8 2,.agg #[.int .i64 2,.func (.func 88) #[] #[],.func (.func 90) #[] #[]]),(.int .u8 3,.agg #[.int .i64 2,.func (.func 88) #[] #[],.func (.func 91) #[] #[]]),(.int .u8 4,.agg #[.int .i64 2,.func (.func 88) #[] #[],.func (.func 93) #[] #[]]),(.int .u8 5,.agg #[.int .i64 1,.func (.func 88) #[] #[],.func (.func 95) #[] #[]]),(.int .u8 6,.agg #[.int .i64 3,.func (.func 88) #[] #[],.func (.func 97) #[] #[]]),(.int .u8 7,.agg #[.int .i64 2,.func (.func 88) #[] #[],.func (.func 99) #[] #[]]),(.int .u8 8,.agg #[.int .i64 1,.func (.func 88) #[] #[],.func (.func 101) #[] #[]]),(.int .u8 9,.agg #[.int .i64 1,.func (.func 88) #[] #[],.func (.func 103) #[] #[]]),(.int .u8 10,.agg #[.int .i64 1,.func (.func 104) #[] #[],.func (.func 105) #[] #[]]),(.int .u8 11,.agg #[.int .i64 1,.func (.func 107) #[] #[],.func (.func 108) #[] #[]]),(.int .u8 12,.agg #[.int .i64 1,.func (.func 107) #[] #[],.func (.func 110) #[] #[]]),(.int .u8 13,.agg #[.int .i64 2,.func (.func 88) #[] #[],.func (.func 112) #[] #[]]),(.int .u8 14,.agg #[.int .i64 2,.func (.func 88) #[] #[],.func (.func 115) #[] #[]])]
theorem aBa (w:World):Calls prog 68 #[] w λe w'=>e = .returned (.map (some w.heap.size))/\w'=w.alloc (Ia BX):=by
 have hk:prog.underlying 5=some (.int .u8):=by kernel_rfl
 have hm:prog.underlying 126=some (.map 5 84):=by kernel_rfl
 have e0:=Go.run_makeMap_plain (P:=prog) (w:=w) 126;rw[show(#[]:Array MapEntry)=Kl BX 0 from rfl] at e0;have e1:=CJ hk hm w BX 0 1 1 (.agg #[.int .i64 2,.func (.func 88) #[] #[],.func (.func 89) #[] #[]]) rfl rfl rfl;have e2:=CJ hk hm w BX 1 2 2 (.agg #[.int .i64 2,.func (.func 88) #[] #[],.func (.func 90) #[] #[]]) rfl rfl rfl;have e3:=CJ hk hm w BX 2 3 3 (.agg #[.int .i64 2,.func (.func 88) #[] #[],.func (.func 91) #[] #[]]) rfl rfl rfl;have e4:=CJ hk hm w BX 3 4 4 (.agg #[.int .i64 2,.func (.func 88) #[] #[],.func (.func 93) #[] #[]]) rfl rfl rfl;have e5:=CJ hk hm w BX 4 5 5 (.agg #[.int .i64 1,.func (.func 88) #[] #[],.func (.func 95) #[] #[]]) rfl rfl rfl;have e6:=CJ hk hm w BX 5 6 6 (.agg #[.int .i64 3,.func (.func 88) #[] #[],.func (.func 97) #[] #[]]) rfl rfl rfl;have e7:=CJ hk hm w BX 6 7 7 (.agg #[.int .i64 2,.func (.func 88) #[] #[],.func (.func 99) #[] #[]]) rfl rfl rfl;have e8:=CJ hk hm w BX 7 8 8 (.agg #[.int .i64 1,.func (.func 88) #[] #[],.func (.func 101) #[] #[]]) rfl rfl rfl;have e9:=CJ hk hm w BX 8 9 9 (.agg #[.int .i64 1,.func (.func 88) #[] #[],.func (.func 103) #[] #[]]) rfl rfl rfl;have e10:=CJ hk hm w BX 9 10 10 (.agg #[.int .i64 1,.func (.func 104) #[] #[],.func (.func 105) #[] #[]]) rfl rfl rfl;have e11:=CJ hk hm w BX 10 11 11 (.agg #[.int .i64 1,.func (.func 107) #[] #[],.func (.func 108) #[] #[]]) rfl rfl rfl;have e12:=CJ hk hm w BX 11 12 12 (.agg #[.int .i64 1,.func (.func 107) #[] #[],.func (.func 110) #[] #[]]) rfl rfl rfl;have e13:=CJ hk hm w BX 12 13 13 (.agg #[.int .i64 2,.func (.func 88) #[] #[],.func (.func 112) #[] #[]]) rfl rfl rfl;have e14:=CJ hk hm w BX 13 14 14 (.agg #[.int .i64 2,.func (.func 88) #[] #[],.func (.func 115) #[] #[]]) rfl rfl rfl;clear hk hm;rw[show Ia BX = .map (Kl BX 14) 14 from rfl]
 go_enter func68,ntmps68
 go_wp2
 go_ret
 exact⟨rfl,rfl⟩
theorem aBb:Vm prog gG ⟨68,BX⟩:=amC func68 (by kernel_rfl) (by kernel_rfl) aBa
def mEs:List Om:=[⟨117,IY⟩,⟨68,BX⟩]
theorem aBc:∀ m∈mEs,Vm prog gG m:=by
 intro m hm;simp only[mEs,List.mem_cons,List.not_mem_nil,or_false] at hm;rcases hm with rfl|rfl
 ·exact aA9
 ·exact aBb
def mE:MX:=⟨mEs,[]⟩
theorem Mo {L M:List wY} {S:List yU} : SF (wR L M S) mE:=⟨aBc,λa ha=>by cases ha⟩
end Go.Proofs.YtippohicjhilnaaGreatDoor
