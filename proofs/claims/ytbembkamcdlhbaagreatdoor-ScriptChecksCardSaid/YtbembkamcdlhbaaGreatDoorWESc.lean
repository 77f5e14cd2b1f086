import Derived.Test.YtbembkamcdlhbaaGreatDoorZDSc
set_option linter.unusedSimpArgs false
set_option linter.unusedVariables false
namespace Go.Proofs.YtbembkamcdlhbaaGreatDoor
open Go.RowKit
structure F5 where
 g:FuncId
 es:List (Value×Value)
def LM (P:Program) (G:rO) (m:F5):Prop :=
 ∀ w,Gl G w→wW P m.g #[] w fun en w'=>∃ b,en = .returned (.map (some b))∧w.heap.size≤b∧w'.heap[b]? = some (Ba m.es)∧q9 w w'
structure JG where
 g:FuncId
 id:Nat
 m:Nat
 t:TypeId
 ki:List VK
 ko:List VK
def zb (ks:List VK) (m:Nat):List VK:=(List.replicate m ks).flatten
def alK (P:Program) (G:rO) (a:JG) (F:List Int→List Int):Prop :=
 ∀ l,l.length=(zb a.ki a.m).length→∀ f r,F l=f::r→r.length=(zb a.ko a.m).length→∀ w v,Gl G w→Reads w v a.m (sP (zb a.ki a.m) l) →
  wW P a.g #[v] w fun en w'=>∃ u,en = .returned (.tuple #[u,.int .u8 (IntKind.u8.wrap f)])∧Reads w' u a.m (sP (zb a.ko a.m) r)∧q9 w w'∧∀ b,wV u=some b→w.heap.size≤b
structure MX where
 ms:List F5
 al:List JG
def LP:List VK→Bool
 | []=>true
 | .int _::l=>LP l
 | .bool::l=>LP l
 | _::_=>false
structure JH (C:sV) (X:MX):Prop where
 ms:∀ m∈X.ms,LM C.P C.G m
 al:∀ a∈X.al,alK C.P C.G a (C.Φ a.id)
def Ou:List F5→FuncId→Option F5
 | [],_=>none
 | x::l,g=>match Nat.beq x.g g with|true=>some x|false=>Ou l g
theorem alL {L:List F5} {g:FuncId} {e:F5} (h:Ou L g=some e):e∈L∧e.g=g:=by
 induction L with
 | nil=>cases h
 | cons x l ih =>
  simp only[Ou] at h
  split at h
  ·rename_i hb;cases h;exact⟨List.mem_cons_self,sQ.1 hb⟩
  ·obtain⟨h1,h2⟩:=ih h;exact⟨List.mem_cons_of_mem _ h1,h2⟩
def Ov:List JG→FuncId→Nat→TypeId→Option JG
 | [],_,_,_=>none
 | x::l,g,m,t=>match Nat.beq x.g g,Nat.beq x.m m,Nat.beq x.t t with|true,true,true=>some x|_,_,_=>Ov l g m t
theorem alM {L:List JG} {g:FuncId} {m:Nat} {t:TypeId} {e:JG} (h:Ov L g m t=some e):e∈L∧e.g=g∧e.m=m∧e.t=t:=by
 induction L with
 | nil=>cases h
 | cons x l ih =>
  simp only[Ov] at h
  split at h
  ·rename_i h1 h2 h3;cases h;exact⟨List.mem_cons_self,sQ.1 h1,sQ.1 h2,sQ.1 h3⟩
  ·obtain⟨h1,h2⟩:=ih h;exact⟨List.mem_cons_of_mem _ h1,h2⟩
def abh (x:Value×Value):Value:=.tuple #[x.1,x.2]
def Ow (es:List (Value×Value)):SO:=⟨[.v (.tuple (es.map abh).toArray)],none⟩
theorem alN (s:rC) (es:List (Value×Value)):(Ow es).den s = .mp es:=by
 refine SO.den_map s rfl ?_
 simp only[Ow,yT,PX,List.map_map]
 congr 1
 have:U5∘abh=id:=by funext x;rfl
 simp[this]
def LQ (n:X) (b:Nat) (ks:List VK):SO:=⟨.v (.bool false) :: .int .i64 n :: .v (.int .i64 (.ofNat b))::ks.map (fun k=>Kw k (.lit 0)),none⟩
theorem TF:∀ {ks:List VK},LP ks=true→(ks.map (fun k=>Kw k (.lit 0))).map MM=ks
 | [],_=>rfl
 | .int k::l,h=>by rw[List.map_cons,List.map_cons,TF (ks:=l) h];rfl
 | .bool::l,h=>by rw[List.map_cons,List.map_cons,TF (ks:=l) h];rfl
 | .bit::l,h=>by cases h
 | .nat::l,h=>by cases h
theorem alO (s:rC) (n:X) (b:Nat) {ks:List VK} (hk:LP ks=true):(LQ n b ks).den s = .rd (n.den s).toNat (xG s b ks (n.den s).toNat):=by
 have h:zk (LQ n b ks).c=some ⟨n,b,ks⟩:=by
  simp only[LQ,zk,MN,MO,MP,TF hk]
 exact SO.den_ora s (r:=⟨n,b,ks⟩) rfl rfl h
theorem abj:∀ (a b:List VK) (p q:List Int),p.length=a.length→sP (a++b) (p++q)=sP a p++sP b q
 | [],b,p,q,h=>by
  have:p = []:=List.length_eq_zero_iff.1 (by simpa using h)
  subst this;rfl
 | k::a,b,[],q,h=>by simp at h
 | k::a,b,n::p,q,h=>by rw[List.cons_append,List.cons_append,sP,sP,abj a b p q (by simpa using h),List.cons_append]
theorem abk (ks:List VK) (m:Nat):zb ks (m+1)=zb ks m++ks:=by
 unfold zb;rw[List.replicate_succ',List.flatten_append];simp
theorem TG (ks:List VK):∀ m,(zb ks m).length=m*ks.length
 | 0=>by simp[zb]
 | m+1=>by rw[abk,List.length_append,TG ks m,Nat.add_mul,Nat.one_mul]
theorem abl (s:rC) (b:Nat) (ks:List VK):∀ m,xG s b ks m=sP (zb ks m) (wh s b (m*ks.length))
 | 0=>by simp[xG,zb,sP]
 | m+1=>by
  rw[xG,abl s b ks m,abk,Nat.add_mul,Nat.one_mul,Rc,abj _ _ _ _ (by rw[Ce,TG])]
def TH (C:sV) (X:MX) (g:FuncId) (args:List SV) (H:SH) (k nv:Nat) (fc:Facts) (K:Unit→rf CR):rf CR:=match args with
 | [.sl b 0 n m]=>match hget H b with
  | some o=>match o.t with
   | some t=>match Ov X.al g n t with
    | some a=>match EJ (zb a.ki a.m) o.c,LP a.ko with
     | some xs,true=>uA (Nat.succ nv) fun nv1=>uA (a.m*a.ko.length) fun q=>.call a.id xs nv (Nat.succ q) (uA (nv1+q) fun nv'=>.leaf ⟨.tup [.hd k,.int .u8 (.var (.int .u8) nv)],[b],[(k,LQ (.lit (.ofNat a.m)) nv1 a.ko)],nv',fc⟩)
     | _,_=>.stuck "a slice's cells"
    | none=>K ()
   | none=>K ()
  | none=>K ()
 | _=>K ()
def TI (C:sV) (X:MX) (ex:Code→St→rf (Exit×St)) (g:FuncId) (args:List SV) (H:SH) (k nv:Nat) (fc:Facts):rf CR:=match Ou X.ms g with
 | some m=>match args with
  | []=>.leaf ⟨.hd k,[],[(k,Ow m.es)],nv,fc⟩
  | _=>.stuck "a map's arguments"
 | none=>TH C X g args H k nv fc fun _=>KF C ex g args H k nv fc
section
variable {C:sV} {E:tu} {s:rC} {ms:MX}
theorem alP (hX:JH C ms) {g:FuncId} {args:List SV} {H:SH} {k nv:Nat} {fc:Facts} {K:Unit→rf CR} {r:CR} (h:(TH C ms g args H k nv fc K).path C.Φ s=some r) (hfc:sO s fc) (hK:(K ()).path C.Φ s=some r→zm C s g args H k r):zm C s g args H k r:=by
 unfold TH at h
 split at h
 ·rename_i b n m
  split at h
  ·rename_i o ho
   split at h
   ·rename_i t ht
    split at h
    ·rename_i a ha
     obtain⟨a1,a2,a3,a4⟩:=alM ha
     split at h
     ·rename_i xs hxs hpk
      rw[uj,uj] at h
      simp only[rf.path] at h
      split at h
      ·rename_i hce
       rw[uj] at h
       cases h
       obtain⟨f1,f2⟩:=KG s hxs
       have hB:SH.den s H b=some (.own ((sP (zb a.ki a.m) (xs.map (X.den s))).map .v) t):=by rw[SH.den_get ho ht,f1]
       refine⟨fun j hj=>?_,fun x hx=>?_,hfc,fun w0 B0=>?_⟩
       ·simp at hj;subst hj;rw[hB];simp
       ·simp[sH] at hx;subst hx;exact .inl rfl
       ·intro H' e w hag hk _ _ R
        have hb':H' b=some (.own ((sP (zb a.ki a.m) (xs.map (X.den s))).map .v) t):=by rw[hag b (by simp)];exact hB
        have hown:=R.own b _ t hb'
        rw[vX] at hown
        have hrd:Reads w (.slice (some ⟨e.blk b,0,none⟩) n m) a.m (sP (zb a.ki a.m) (xs.map (X.den s))):=.inr ⟨e.blk b,0,m,by rw[a3],R.lt hb',fun j x hj=>by simp[World.cell?,hown,hj]⟩
        unfold ED at hce
        rw[wh] at hce
        have hcall:=hX.al a a1 (xs.map (X.den s)) (by rw[List.length_map];exact f2) _ _ hce.symm (by rw[Ce,TG]) w _ R.gl hrd
        rw[a2] at hcall
        have hv:AV.vals e (SV.dens s [.sl b 0 n m]) = [Value.slice (some ⟨e.blk b,0,none⟩) n m]:=rfl
        rw[hv]
        refine hcall.mono ?_
        rintro en w' ⟨u,rfl,hru,hbel,hfr⟩
        have R2:=R.below hbel
        have hef:sH s [(k,LQ (.lit (.ofNat a.m)) (nv+1) a.ko)] = [(k,.rd a.m (xG s (nv+1) a.ko a.m))]:=by
         simp only[sH,List.map_cons,List.map_nil,alO s _ _ hpk,X.den];rfl
        rw[show Nat.succ nv=nv+1 from rfl,hef]
        have hsl:zQ u=u:=by
         rcases hru with⟨h1,_⟩|⟨b',o',cap,h1,_⟩<;>rw[h1]<;>rfl
        refine⟨e.setHnd k u,?_,?_,Env.setHnd_on hk e _,fun j hj=>?_⟩
        ·have h2:((SV.tup [.hd k,.int .u8 (.var (.int .u8) nv)]).den s).val (e.setHnd k u) = .tuple #[u,.int .u8 (IntKind.u8.wrap (s nv))]:=by
          simp only[SV.den,SV.dens]
          show(xA [.hd k,.v _]).val _=_
          simp[xA,tZ,AV.val,AV.vals,Env.setHnd,hsl,X.den,VK.norm]
         rw[h2]
        ·rw[ru.puts,ru.puts]
         refine R2.handle hk (by rw[abl];exact hru) (fun j c t' hj he=>?_) (fun b2 hb2=>.inl (Nat.le_trans R.size (hfr b2 hb2)))
         have h3:=R.lt hj
         have:=hfr _ he
         omega
        ·have:j=k:=by
          have h4:=SV.den_refs s (.tup [.hd k,.int .u8 (.var (.int .u8) nv)]) hj
          simpa [SV.refs,SV.refss] using h4
         subst this;rw[ru.puts,ru.puts,ru.put_same];simp
      ·cases h
     ·cases h
    ·exact hK h
   ·exact hK h
  ·exact hK h
 ·exact hK h
theorem alQ (hC:wR C E) (hms:JH C ms) {exf:Code→St→rf (Exit×St)} (hex:KM C E s exf) {g:FuncId} {args:List SV} {H:SH} {k nv:Nat} {fc:Facts} {r:CR} (h:(TI C ms exf g args H k nv fc).path C.Φ s=some r) (hfc:sO s fc):zm C s g args H k r:=by
 unfold TI at h
 split at h
 ·rename_i m hm
  obtain⟨h1,h2⟩:=alL hm
  split at h
  ·cases h
   refine⟨fun b hb=>by simp at hb,fun x hx=>by simp[sH] at hx;subst hx;exact .inl rfl,hfc,fun w0 B0=>?_⟩
   intro H' e w _ hk _ _ R
   subst h2
   refine(hms.ms m h1 w R.gl).mono ?_
   rintro en w' ⟨b,rfl,hb,ho,hbel⟩
   have hef:sH s [(k,Ow m.es)] = [(k,.mp m.es)]:=by simp only[sH,List.map_cons,List.map_nil,alN]
   refine⟨e.setHnd k (.map (some b)),by simp[SV.den,AV.val,Env.setHnd,zQ],?_,Env.setHnd_on hk e _,fun j hj=>?_⟩
   ·rw[hef];exact R.adoptM hbel hk hb ho
   ·simp[SV.den,AV.refs] at hj;subst hj;rw[hef,ru.puts,ru.puts,ru.put_same];simp
  ·cases h
 ·exact alP hms h hfc fun h=>QV hC hex h hfc
end
def uU (C:sV) (ms:MX):Nat→Code→St→rf (Exit×St)
 | 0,_,_=>.stuck "no fuel"
 | f+1,c,s=>match c with
  | .skip=>.leaf (.normal,s)
  | .label _=>.leaf (.normal,s)
  | .exit id=>.leaf (.exit id,s)
  | .ret=>.leaf (.ret,s)
  | .seq a b=>(uU C ms f a s).bind fun r=>match r.1 with | .normal=>uU C ms f b r.2|_=>.leaf r
  | .cond c a b=>match zY s.T c with
   | some (.bool q)=>Aq s.fc q fun bb fc=>match bb with|true=>uU C ms f a { s with fc:=fc } | false=>uU C ms f b { s with fc:=fc }
   | _=>.stuck "cond"
  | .block id c=>(uU C ms f c s).bind fun r=>match r.1 with
   | .exit id'=>match Nat.beq id' id with|true=>.leaf (.normal,r.2)|false=>.leaf r
   | _=>.leaf r
  | .loop c=>(uU C ms f c s).bind fun r=>match r.1 with | .normal=>uU C ms f (.loop c) r.2|_=>.leaf r
  | .scope c=>(uU C ms f c s).bind fun r=>match r.1 with | .goto _=>.stuck "goto" | _=>.leaf r
  | .region _ ops draw=>(zJ C (TI C ms (uU C ms f)) ops s.N 0 ops.toList s.T s.H [] s.nv s.dt s.fc).bind fun r=>regionEnd s.T.length ops draw s r
  | _=>.stuck "no such text"
def AY (C:sV) (ms:MX) (fuel:Nat) (g:FuncId) (args:List SV) (nv:Nat):rf SV :=
 match C.P.funcs[g]? with
 | none=>.stuck "no such function"
 | some fn=>match fn.body with
  | none=>.stuck "no body"
  | some cd=>match Nat.ble args.length fn.ntmps with
   | true=>(uU C ms fuel cd ⟨0,vo args fn.ntmps,[],nv,[],[]⟩).bind fun r=>match r.1 with
    | .normal=>match wo C.P r.2.T r.2.H fn.results.toList with|some rs=>.leaf (tT rs)|none=>.stuck "results"
    | .ret=>match wo C.P r.2.T r.2.H fn.results.toList with|some rs=>.leaf (tT rs)|none=>.stuck "results"
    | _=>.stuck "end"
   | false=>.stuck "arguments"
section
variable {C:sV} {E:tu} {s:rC} {ms:MX}
theorem abm (hC:wR C E) (hms:JH C ms):∀ n:Nat,KM C E s (uU C ms n) ∧
  ∀ c st ex st',(uU C ms n (.loop c) st).path C.Φ s=some (ex,st')→sO s st.fc→∀ w0 B0,xP ⟨C.P,C.G,E,w0,B0,st.T.length⟩ c (wZ s ex st') n st.N (rQ.den s st.T) (SH.den s st.H)
 | 0=>⟨fun c st ex st' h=>(by cases h),fun c st ex st' h=>(by cases h)⟩
 | n+1=>by
  obtain⟨ih,ihl⟩:=abm hC hms n
  have loop:∀ c st ex st',(uU C ms (n+1) (.loop c) st).path C.Φ s=some (ex,st')→sO s st.fc→Ay C E s (.loop c) st ex st'∧∀ w0 B0,xP ⟨C.P,C.G,E,w0,B0,st.T.length⟩ c (wZ s ex st') (n+1) st.N (rQ.den s st.T) (SH.den s st.H):=by
   intro c st ex st' h hf
   simp only[uU] at h
   obtain⟨ex1,st1,h1,h2⟩:=zK h
   have s1:=ih _ _ _ _ h1 hf
   rcases ES h2 with⟨rfl,h3⟩|⟨hx,h3⟩
   ·have s2:=ih _ _ _ _ h3 s1.fc
    have hr:∀ w0 B0,xP ⟨C.P,C.G,E,w0,B0,st.T.length⟩ c (wZ s ex st') (n+1) st.N (rQ.den s st.T) (SH.den s st.H):=fun w0 B0=>by
     rw[GA]
     refine(s1.aw w0 B0).mono ?_
     rintro x N T H ⟨rfl,rfl,rfl,rfl⟩
     have:=ihl _ _ _ _ h3 s1.fc w0 B0
     rw[s1.len] at this
     exact this
    exact⟨s1.trans s2 fun w0 B0=>Gz _ (hr w0 B0),hr⟩
   ·obtain⟨rfl,rfl⟩:ex1=ex∧st1=st':=by cases h3;exact⟨rfl,rfl⟩
    have hr:∀ w0 B0,xP ⟨C.P,C.G,E,w0,B0,st.T.length⟩ c (wZ s ex1 st1) (n+1) st.N (rQ.den s st.T) (SH.den s st.H):=fun w0 B0=>by
     rw[GA]
     refine(s1.aw w0 B0).mono ?_
     rintro x N T H ⟨rfl,rfl,rfl,rfl⟩
     exact ET hx ⟨rfl,rfl,rfl,rfl⟩
    exact⟨⟨fun w0 B0=>Gz _ (hr w0 B0),s1.len,s1.dt,s1.fc⟩,hr⟩
  refine⟨?_,fun c st ex st' h hf=>(loop c st ex st' h hf).2⟩
  intro c st ex st' h hf
  cases c with
  | skip=>simp only[uU] at h;cases h;exact⟨fun w0 B0=>Pf ⟨rfl,rfl,rfl,rfl⟩,rfl,fun j hj=>⟨hj,rfl⟩,hf⟩
  | label l=>simp only[uU] at h;cases h;exact⟨fun w0 B0=>Pg ⟨rfl,rfl,rfl,rfl⟩,rfl,fun j hj=>⟨hj,rfl⟩,hf⟩
  | exit id=>simp only[uU] at h;cases h;exact⟨fun w0 B0=>Ph ⟨rfl,rfl,rfl,rfl⟩,rfl,fun j hj=>⟨hj,rfl⟩,hf⟩
  | ret=>simp only[uU] at h;cases h;exact⟨fun w0 B0=>Pi ⟨rfl,rfl,rfl,rfl⟩,rfl,fun j hj=>⟨hj,rfl⟩,hf⟩
  | seq a b =>
   simp only[uU] at h
   obtain⟨ex1,st1,h1,h2⟩:=zK h
   have s1:=ih _ _ _ _ h1 hf
   rcases ES h2 with⟨rfl,h3⟩|⟨hx,h3⟩
   ·have s2:=ih _ _ _ _ h3 s1.fc
    refine s1.trans s2 fun w0 B0=>Gy ((s1.aw w0 B0).mono ?_)
    rintro x N T H ⟨rfl,rfl,rfl,rfl⟩
    have:=s2.aw w0 B0
    rw[s1.len] at this
    exact this
   ·cases h3
    refine⟨fun w0 B0=>Gy ((s1.aw w0 B0).mono ?_),s1.len,s1.dt,s1.fc⟩
    rintro x N T H ⟨rfl,rfl,rfl,rfl⟩
    exact ET hx ⟨rfl,rfl,rfl,rfl⟩
  | cond c a b =>
   simp only[uU] at h
   split at h
   ·rename_i q hq
    have hd:=Du s st.T _ _ hq
    obtain⟨fc',hf',h⟩:=Cf hf h
    simp only[SV.den] at hd
    cases hb:(q.den s != 0) with
    | true =>
     rw[hb] at h hd
     have s1:=ih _ _ _ _ h hf'
     exact⟨fun w0 B0=>Pj hd (s1.aw w0 B0),s1.len,s1.dt,s1.fc⟩
    | false =>
     rw[hb] at h hd
     have s1:=ih _ _ _ _ h hf'
     exact⟨fun w0 B0=>Pk hd (s1.aw w0 B0),s1.len,s1.dt,s1.fc⟩
   ·cases h
  | block id c =>
   simp only[uU] at h
   obtain⟨ex1,st1,h1,h2⟩:=zK h
   have s1:=ih _ _ _ _ h1 hf
   have key:ex=Cu id ex1∧st'=st1:=by
    cases ex1 with
    | exit id' =>
     simp only at h2
     simp only[Cu]
     split at h2
     ·rename_i hb;cases h2;rw[if_pos (sQ.1 hb)];exact⟨rfl,rfl⟩
     ·rename_i hb;cases h2
      rw[if_neg (fun e=>by rw[e] at hb;simp at hb)];exact⟨rfl,rfl⟩
    | _=>cases h2;exact⟨rfl,rfl⟩
   obtain⟨rfl,rfl⟩:=key
   refine⟨fun w0 B0=>Pm ((s1.aw w0 B0).mono ?_),s1.len,s1.dt,s1.fc⟩
   rintro x N T H ⟨rfl,rfl,rfl,rfl⟩
   cases x with
   | exit id' =>
    simp only[JY,Cu]
    split
    ·exact⟨rfl,rfl,rfl,rfl⟩
    ·exact⟨rfl,rfl,rfl,rfl⟩
   | _=>exact⟨rfl,rfl,rfl,rfl⟩
  | loop c=>exact(loop c st ex st' h hf).1
  | scope c =>
   simp only[uU] at h
   obtain⟨ex1,st1,h1,h2⟩:=zK h
   have s1:=ih _ _ _ _ h1 hf
   have key:(∀ l,ex1 ≠ .goto l)∧ex=ex1∧st'=st1:=by
    cases ex1<;>first|(cases h2;exact⟨fun l e=>(by cases e),rfl,rfl⟩)|cases h2
   obtain⟨hg,rfl,rfl⟩:=key
   exact⟨fun w0 B0=>Po (s1.aw w0 B0) (fun l N T H e=>hg l e.1.symm),s1.len,s1.dt,s1.fc⟩
  | region id ops draw =>
   simp only[uU] at h
   obtain⟨out,h1,h2⟩:=rf.path_bind_some h
   have dst:∀ o∈ops.toList,∀ t,o.dst=some t→t<st.T.length:=by
    unfold regionEnd at h2
    split at h2
    ·split at h2
     ·rename_i hdr _
      simp only[drawOK,Bool.and_eq_true] at hdr
      exact BX hdr.1.2
     ·cases h2
     ·cases h2
    ·split at h2
     ·rename_i hdr;exact BX hdr
     ·cases h2
   obtain⟨e1,e2,e3,e4⟩:=KP hC (nt:=st.T.length) (fun g args H k nv fc r hr hf=>alQ hC hms ih hr hf) ops.toList 0 st.T st.H [] st.nv st.dt st.fc out h1 hf rfl dst
   unfold regionEnd at h2
   cases draw with
   | true =>
    simp only at h2
    split at h2
    ·rename_i hdr htr
     rw[uj] at h2
     cases h2
     refine⟨fun w0 B0=>Pq hC.eq hC.mix hdr (e1 w0 B0 [] _ rfl ?_),e2,e4,e3⟩
     intro trf htf
     refine⟨?_,rfl,rfl,rfl,rfl⟩
     rw[← htf] at htr
     exact KO htr
    ·cases h2
    ·cases h2
   | false =>
    simp only at h2
    split at h2
    ·rename_i hdr
     rw[uj] at h2
     cases h2
     exact⟨fun w0 B0=>Pp hC.eq hdr (e1 w0 B0 [] _ rfl fun trf htf=>⟨rfl,rfl,rfl,rfl⟩),e2,e4,e3⟩
    ·cases h2
  | rangeFunc f ps a b=>simp only[uU] at h;cases h
  | goto l=>simp only[uU] at h;cases h
  | refuse w=>simp only[uU] at h;cases h
end
theorem alR {C:sV} {E:tu} {s:rC} {ms:MX} (hC:wR C E) (hms:JH C ms) {n:Nat} {g:FuncId} {args:List SV} {nv:Nat} {a:SV} {vs:List Value} {v:Value} (h:(AY C ms n g args nv).path C.Φ s=some a) (ha:SV.dens s args=vs.map .v) (hv:a.den s = .v v) :
  PC C.P C.G g vs v:=by
 unfold AY at h
 split at h
 ·cases h
 ·rename_i fn hf
  split at h
  ·cases h
  ·rename_i cd hb
   split at h
   ·rename_i hl
    obtain⟨⟨ex,st⟩,h1,h2⟩:=rf.path_bind_some h
    have sp:=(abm (E:=E) (s:=s) hC hms n).1 _ _ _ _ h1 (fun x hx=>by cases hx)
    have hlen:(vo args fn.ntmps).length=fn.ntmps:=EP _ _ (Nat.le_of_ble_eq_true hl)
    have hvl:vs.length=args.length:=by have:=congrArg List.length ha;rw[zG,List.length_map] at this;exact this.symm
    refine Pw E hf hb (hC.nm g fn hf (by rw[hb];rfl)) (by rw[hvl];exact hl) fun w=>?_
    have hA:=sp.aw w sG.nil
    simp only[hlen,KJ,ha] at hA
    have key:∀ rs,wo C.P st.T st.H fn.results.toList=some rs→tT rs=a→∃ rs',yP C.P C.G (rQ.den s st.T) (SH.den s st.H) fn.results.toList=some rs'∧Ao rs' = .v v:=fun rs hrs e =>
     ⟨_,EQ s hrs,by rw[Ho,e,hv]⟩
    have hx:(ex = .normal∨ex = .ret)∧∃ rs,wo C.P st.T st.H fn.results.toList=some rs∧tT rs=a:=by
     rcases KN h2 with⟨rfl,h3⟩|⟨rfl,h3⟩
     ·split at h3
      ·rename_i rs hrs;cases h3;exact⟨.inl rfl,rs,hrs,rfl⟩
      ·cases h3
     ·split at h3
      ·rename_i rs hrs;cases h3;exact⟨.inr rfl,rs,hrs,rfl⟩
      ·cases h3
    obtain⟨hx,rs,hrs,e⟩:=hx
    refine AW.mono (show AW _ cd (wZ s ex st) 0 _ _ from hA) ?_
    rintro x N T H ⟨rfl,rfl,rfl,rfl⟩
    rcases hx with rfl|rfl
    ·exact key rs hrs e
    ·exact key rs hrs e
   ·cases h
theorem Eh {C:sV} {E:tu} {ms:MX} (hC:wR C E) (hms:JH C ms) (n:Nat) {g:FuncId} {ct:Ct} {t:rf SV} (hp:Nat.blt 0 (rq ct.r).length=true) (h:AY C ms n g (rM ct.a (rJ 0 (rq ct.a))) (rq ct.a).length=t) (hs:Br (rq ct.a).length t=true) :
  yz C.P C.G ⟨g,ct,rG C.Φ ct t⟩:=⟨fun l hl hF=>by
 obtain⟨a,l',xs,h1,h2⟩:=aeG hp hF
 obtain⟨h3,m,rfl⟩:=EU h1 (by rw[hl];exact hs)
 rw[← h] at h3
 obtain⟨h4,h5⟩:=Bq (rE (l++m)) (rq ct.a) 0
 rw[← hl,Ni] at h4
 have hf:=Dz (rE (l++m)) h2
 have e:rG C.Φ ct t l=xs.map (X.den (rE (l++m))):=by unfold rG;simp only[h1,h2,zL,id]
 refine alR hC hms h3 (Cn h4 h5) ?_
 simp only[e]
 exact Nj hf.1 (Hu _ _)⟩
def rf.th {α:Type} : rf α→rf α
 | .ite _ a _=>a
 | t=>t
def rf.el {α:Type} : rf α→rf α
 | .ite _ _ b=>b
 | t=>t
def rf.nx {α:Type} : rf α→rf α
 | .call _ _ _ _ t=>t
 | t=>t
def rf.hI {α:Type} : rf α→Option X
 | .ite c _ _=>some c
 | _=>none
def rf.hC {α:Type} : rf α→Option (Nat×List X×Nat×Nat)
 | .call f a m n _=>some (f,a,m,n)
 | _=>none
theorem Ox {α:Type} {T a b:rf α} {c:X} (h1:T.hI=some c) (ha:T.th=a) (hb:T.el=b):T = .ite c a b:=by
 subst ha hb
 cases T<;>simp_all[rf.hI,rf.th,rf.el]
theorem Oy {α:Type} {T a:rf α} {q:Nat×List X×Nat×Nat} (h1:T.hC=some q) (ha:T.nx=a):T = .call q.1 q.2.1 q.2.2.1 q.2.2.2 a:=by
 subst ha
 cases T<;>simp_all[rf.hC,rf.nx]
 subst h1
 exact⟨rfl,rfl,rfl,rfl⟩
end Go.Proofs.YtbembkamcdlhbaaGreatDoor
