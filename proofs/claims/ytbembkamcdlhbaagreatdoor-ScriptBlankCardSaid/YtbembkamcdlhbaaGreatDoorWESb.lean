import Derived.Test.YtbembkamcdlhbaaGreatDoorZDSb
set_option linter.unusedSimpArgs false
set_option linter.unusedVariables false
namespace Go.Proofs.YtbembkamcdlhbaaGreatDoor
open Go.RowKit
structure Fw where
 g:FuncId
 es:List (Value×Value)
def La (P:Program) (G:rJ) (m:Fw):Prop :=
 ∀ w,Gl G w→wM P m.g #[] w fun en w'=>∃ b,en = .returned (.map (some b))∧w.heap.size≤b∧w'.heap[b]? = some (Au m.es)∧q8 w w'
structure Jh where
 g:FuncId
 id:Nat
 m:Nat
 t:TypeId
 ki:List VK
 ko:List VK
def yJ (ks:List VK) (m:Nat):List VK:=(List.replicate m ks).flatten
def ak0 (P:Program) (G:rJ) (a:Jh) (F:List Int→List Int):Prop :=
 ∀ l,l.length=(yJ a.ki a.m).length→∀ f r,F l=f::r→r.length=(yJ a.ko a.m).length→∀ w v,Gl G w→Reads w v a.m (sK (yJ a.ki a.m) l) →
  wM P a.g #[v] w fun en w'=>∃ u,en = .returned (.tuple #[u,.int .u8 (IntKind.u8.wrap f)])∧Reads w' u a.m (sK (yJ a.ko a.m) r)∧q8 w w'∧∀ b,wL u=some b→w.heap.size≤b
structure MX where
 ms:List Fw
 al:List Jh
def Lb:List VK→Bool
 | []=>true
 | .int _::l=>Lb l
 | .bool::l=>Lb l
 | _::_=>false
structure Ji (C:sP) (X:MX):Prop where
 ms:∀ m∈X.ms,La C.P C.G m
 al:∀ a∈X.al,ak0 C.P C.G a (C.Φ a.id)
def NP:List Fw→FuncId→Option Fw
 | [],_=>none
 | x::l,g=>match Nat.beq x.g g with|true=>some x|false=>NP l g
theorem ak1 {L:List Fw} {g:FuncId} {e:Fw} (h:NP L g=some e):e∈L∧e.g=g:=by
 induction L with
 | nil=>cases h
 | cons x l ih =>
  simp only[NP] at h
  split at h
  ·rename_i hb;cases h;exact⟨List.mem_cons_self,sN.1 hb⟩
  ·obtain⟨h1,h2⟩:=ih h;exact⟨List.mem_cons_of_mem _ h1,h2⟩
def NQ:List Jh→FuncId→Nat→TypeId→Option Jh
 | [],_,_,_=>none
 | x::l,g,m,t=>match Nat.beq x.g g,Nat.beq x.m m,Nat.beq x.t t with|true,true,true=>some x|_,_,_=>NQ l g m t
theorem ak2 {L:List Jh} {g:FuncId} {m:Nat} {t:TypeId} {e:Jh} (h:NQ L g m t=some e):e∈L∧e.g=g∧e.m=m∧e.t=t:=by
 induction L with
 | nil=>cases h
 | cons x l ih =>
  simp only[NQ] at h
  split at h
  ·rename_i h1 h2 h3;cases h;exact⟨List.mem_cons_self,sN.1 h1,sN.1 h2,sN.1 h3⟩
  ·obtain⟨h1,h2⟩:=ih h;exact⟨List.mem_cons_of_mem _ h1,h2⟩
def aaH (x:Value×Value):Value:=.tuple #[x.1,x.2]
def NR (es:List (Value×Value)):SO:=⟨[.v (.tuple (es.map aaH).toArray)],none⟩
theorem ak3 (s:ry) (es:List (Value×Value)):(NR es).den s = .mp es:=by
 refine SO.den_map s rfl ?_
 simp only[NR,yD,Po,List.map_map]
 congr 1
 have:Uz∘aaH=id:=by funext x;rfl
 simp[this]
def Lc (n:X) (b:Nat) (ks:List VK):SO:=⟨.v (.bool false) :: .int .i64 n :: .v (.int .i64 (.ofNat b))::ks.map (fun k=>JR k (.lit 0)),none⟩
theorem SQ:∀ {ks:List VK},Lb ks=true→(ks.map (fun k=>JR k (.lit 0))).map Mc=ks
 | [],_=>rfl
 | .int k::l,h=>by rw[List.map_cons,List.map_cons,SQ (ks:=l) h];rfl
 | .bool::l,h=>by rw[List.map_cons,List.map_cons,SQ (ks:=l) h];rfl
 | .bit::l,h=>by cases h
 | .nat::l,h=>by cases h
theorem ak4 (s:ry) (n:X) (b:Nat) {ks:List VK} (hk:Lb ks=true):(Lc n b ks).den s = .rd (n.den s).toNat (xn s b ks (n.den s).toNat):=by
 have h:yP (Lc n b ks).c=some ⟨n,b,ks⟩:=by
  simp only[Lc,yP,Md,Me,Mf,SQ hk]
 exact SO.den_ora s (r:=⟨n,b,ks⟩) rfl rfl h
theorem aaI:∀ (a b:List VK) (p q:List Int),p.length=a.length→sK (a++b) (p++q)=sK a p++sK b q
 | [],b,p,q,h=>by
  have:p = []:=List.length_eq_zero_iff.1 (by simpa using h)
  subst this;rfl
 | k::a,b,[],q,h=>by simp at h
 | k::a,b,n::p,q,h=>by rw[List.cons_append,List.cons_append,sK,sK,aaI a b p q (by simpa using h),List.cons_append]
theorem aaJ (ks:List VK) (m:Nat):yJ ks (m+1)=yJ ks m++ks:=by
 unfold yJ;rw[List.replicate_succ',List.flatten_append];simp
theorem SS (ks:List VK):∀ m,(yJ ks m).length=m*ks.length
 | 0=>by simp[yJ]
 | m+1=>by rw[aaJ,List.length_append,SS ks m,Nat.add_mul,Nat.one_mul]
theorem aaK (s:ry) (b:Nat) (ks:List VK):∀ m,xn s b ks m=sK (yJ ks m) (vH s b (m*ks.length))
 | 0=>by simp[xn,yJ,sK]
 | m+1=>by
  rw[xn,aaK s b ks m,aaJ,Nat.add_mul,Nat.one_mul,QB,aaI _ _ _ _ (by rw[BG,SS])]
def SX (C:sP) (X:MX) (g:FuncId) (args:List SV) (H:SH) (k nv:Nat) (fc:Facts) (K:Unit→qZ CR):qZ CR:=match args with
 | [.sl b 0 n m]=>match hget H b with
  | some o=>match o.t with
   | some t=>match NQ X.al g n t with
    | some a=>match Ei (yJ a.ki a.m) o.c,Lb a.ko with
     | some xs,true=>uu (Nat.succ nv) fun nv1=>uu (a.m*a.ko.length) fun q=>.call a.id xs nv (Nat.succ q) (uu (nv1+q) fun nv'=>.leaf ⟨.tup [.hd k,.int .u8 (.var (.int .u8) nv)],[b],[(k,Lc (.lit (.ofNat a.m)) nv1 a.ko)],nv',fc⟩)
     | _,_=>.stuck "a slice's cells"
    | none=>K ()
   | none=>K ()
  | none=>K ()
 | _=>K ()
def SY (C:sP) (X:MX) (ex:Code→St→qZ (Exit×St)) (g:FuncId) (args:List SV) (H:SH) (k nv:Nat) (fc:Facts):qZ CR:=match NP X.ms g with
 | some m=>match args with
  | []=>.leaf ⟨.hd k,[],[(k,NR m.es)],nv,fc⟩
  | _=>.stuck "a map's arguments"
 | none=>SX C X g args H k nv fc fun _=>JZ C ex g args H k nv fc
section
variable {C:sP} {E:sV} {s:ry} {ms:MX}
theorem ak5 (hX:Ji C ms) {g:FuncId} {args:List SV} {H:SH} {k nv:Nat} {fc:Facts} {K:Unit→qZ CR} {r:CR} (h:(SX C ms g args H k nv fc K).path C.Φ s=some r) (hfc:sQ s fc) (hK:(K ()).path C.Φ s=some r→yR C s g args H k r):yR C s g args H k r:=by
 unfold SX at h
 split at h
 ·rename_i b n m
  split at h
  ·rename_i o ho
   split at h
   ·rename_i t ht
    split at h
    ·rename_i a ha
     obtain⟨a1,a2,a3,a4⟩:=ak2 ha
     split at h
     ·rename_i xs hxs hpk
      rw[tZ,tZ] at h
      simp only[qZ.path] at h
      split at h
      ·rename_i hce
       rw[tZ] at h
       cases h
       obtain⟨f1,f2⟩:=J6 s hxs
       have hB:SH.den s H b=some (.own ((sK (yJ a.ki a.m) (xs.map (X.den s))).map .v) t):=by rw[SH.den_get ho ht,f1]
       refine⟨fun j hj=>?_,fun x hx=>?_,hfc,fun w0 B0=>?_⟩
       ·simp at hj;subst hj;rw[hB];simp
       ·simp[sD] at hx;subst hx;exact .inl rfl
       ·intro H' e w hag hk _ _ R
        have hb':H' b=some (.own ((sK (yJ a.ki a.m) (xs.map (X.den s))).map .v) t):=by rw[hag b (by simp)];exact hB
        have hown:=R.own b _ t hb'
        rw[vE] at hown
        have hrd:Reads w (.slice (some ⟨e.blk b,0,none⟩) n m) a.m (sK (yJ a.ki a.m) (xs.map (X.den s))):=.inr ⟨e.blk b,0,m,by rw[a3],R.lt hb',fun j x hj=>by simp[World.cell?,hown,hj]⟩
        unfold Ec at hce
        rw[vH] at hce
        have hcall:=hX.al a a1 (xs.map (X.den s)) (by rw[List.length_map];exact f2) _ _ hce.symm (by rw[BG,SS]) w _ R.gl hrd
        rw[a2] at hcall
        have hv:AV.vals e (SV.dens s [.sl b 0 n m]) = [Value.slice (some ⟨e.blk b,0,none⟩) n m]:=rfl
        rw[hv]
        refine hcall.mono ?_
        rintro en w' ⟨u,rfl,hru,hbel,hfr⟩
        have R2:=R.below hbel
        have hef:sD s [(k,Lc (.lit (.ofNat a.m)) (nv+1) a.ko)] = [(k,.rd a.m (xn s (nv+1) a.ko a.m))]:=by
         simp only[sD,List.map_cons,List.map_nil,ak4 s _ _ hpk,X.den];rfl
        rw[show Nat.succ nv=nv+1 from rfl,hef]
        have hsl:zA u=u:=by
         rcases hru with⟨h1,_⟩|⟨b',o',cap,h1,_⟩<;>rw[h1]<;>rfl
        refine⟨e.setHnd k u,?_,?_,Env.setHnd_on hk e _,fun j hj=>?_⟩
        ·have h2:((SV.tup [.hd k,.int .u8 (.var (.int .u8) nv)]).den s).val (e.setHnd k u) = .tuple #[u,.int .u8 (IntKind.u8.wrap (s nv))]:=by
          simp only[SV.den,SV.dens]
          show(xg [.hd k,.v _]).val _=_
          simp[xg,tO,AV.val,AV.vals,Env.setHnd,hsl,X.den,VK.norm]
         rw[h2]
        ·rw[rf.puts,rf.puts]
         refine R2.handle hk (by rw[aaK];exact hru) (fun j c t' hj he=>?_) (fun b2 hb2=>.inl (Nat.le_trans R.size (hfr b2 hb2)))
         have h3:=R.lt hj
         have:=hfr _ he
         omega
        ·have:j=k:=by
          have h4:=SV.den_refs s (.tup [.hd k,.int .u8 (.var (.int .u8) nv)]) hj
          simpa [SV.refs,SV.refss] using h4
         subst this;rw[rf.puts,rf.puts,rf.put_same];simp
      ·cases h
     ·cases h
    ·exact hK h
   ·exact hK h
  ·exact hK h
 ·exact hK h
theorem ak6 (hC:wu C E) (hms:Ji C ms) {exf:Code→St→qZ (Exit×St)} (hex:Kb C E s exf) {g:FuncId} {args:List SV} {H:SH} {k nv:Nat} {fc:Facts} {r:CR} (h:(SY C ms exf g args H k nv fc).path C.Φ s=some r) (hfc:sQ s fc):yR C s g args H k r:=by
 unfold SY at h
 split at h
 ·rename_i m hm
  obtain⟨h1,h2⟩:=ak1 hm
  split at h
  ·cases h
   refine⟨fun b hb=>by simp at hb,fun x hx=>by simp[sD] at hx;subst hx;exact .inl rfl,hfc,fun w0 B0=>?_⟩
   intro H' e w _ hk _ _ R
   subst h2
   refine(hms.ms m h1 w R.gl).mono ?_
   rintro en w' ⟨b,rfl,hb,ho,hbel⟩
   have hef:sD s [(k,NR m.es)] = [(k,.mp m.es)]:=by simp only[sD,List.map_cons,List.map_nil,ak3]
   refine⟨e.setHnd k (.map (some b)),by simp[SV.den,AV.val,Env.setHnd,zA],?_,Env.setHnd_on hk e _,fun j hj=>?_⟩
   ·rw[hef];exact R.adoptM hbel hk hb ho
   ·simp[SV.den,AV.refs] at hj;subst hj;rw[hef,rf.puts,rf.puts,rf.put_same];simp
  ·cases h
 ·exact ak5 hms h hfc fun h=>Qt hC hex h hfc
end
def uM (C:sP) (ms:MX):Nat→Code→St→qZ (Exit×St)
 | 0,_,_=>.stuck "no fuel"
 | f+1,c,s=>match c with
  | .skip=>.leaf (.normal,s)
  | .label _=>.leaf (.normal,s)
  | .exit id=>.leaf (.exit id,s)
  | .ret=>.leaf (.ret,s)
  | .seq a b=>(uM C ms f a s).bind fun r=>match r.1 with | .normal=>uM C ms f b r.2|_=>.leaf r
  | .cond c a b=>match zJ s.T c with
   | some (.bool q)=>zZ s.fc q fun bb fc=>match bb with|true=>uM C ms f a { s with fc:=fc } | false=>uM C ms f b { s with fc:=fc }
   | _=>.stuck "cond"
  | .block id c=>(uM C ms f c s).bind fun r=>match r.1 with
   | .exit id'=>match Nat.beq id' id with|true=>.leaf (.normal,r.2)|false=>.leaf r
   | _=>.leaf r
  | .loop c=>(uM C ms f c s).bind fun r=>match r.1 with | .normal=>uM C ms f (.loop c) r.2|_=>.leaf r
  | .scope c=>(uM C ms f c s).bind fun r=>match r.1 with | .goto _=>.stuck "goto" | _=>.leaf r
  | .region _ ops draw=>(zm C (SY C ms (uM C ms f)) ops s.N 0 ops.toList s.T s.H [] s.nv s.dt s.fc).bind fun r=>regionEnd s.T.length ops draw s r
  | _=>.stuck "no such text"
def Ar (C:sP) (ms:MX) (fuel:Nat) (g:FuncId) (args:List SV) (nv:Nat):qZ SV :=
 match C.P.funcs[g]? with
 | none=>.stuck "no such function"
 | some fn=>match fn.body with
  | none=>.stuck "no body"
  | some cd=>match Nat.ble args.length fn.ntmps with
   | true=>(uM C ms fuel cd ⟨0,uS args fn.ntmps,[],nv,[],[]⟩).bind fun r=>match r.1 with
    | .normal=>match vK C.P r.2.T r.2.H fn.results.toList with|some rs=>.leaf (tJ rs)|none=>.stuck "results"
    | .ret=>match vK C.P r.2.T r.2.H fn.results.toList with|some rs=>.leaf (tJ rs)|none=>.stuck "results"
    | _=>.stuck "end"
   | false=>.stuck "arguments"
section
variable {C:sP} {E:sV} {s:ry} {ms:MX}
theorem aaL (hC:wu C E) (hms:Ji C ms):∀ n:Nat,Kb C E s (uM C ms n) ∧
  ∀ c st ex st',(uM C ms n (.loop c) st).path C.Φ s=some (ex,st')→sQ s st.fc→∀ w0 B0,xA ⟨C.P,C.G,E,w0,B0,st.T.length⟩ c (wP s ex st') n st.N (rO.den s st.T) (SH.den s st.H)
 | 0=>⟨fun c st ex st' h=>(by cases h),fun c st ex st' h=>(by cases h)⟩
 | n+1=>by
  obtain⟨ih,ihl⟩:=aaL hC hms n
  have loop:∀ c st ex st',(uM C ms (n+1) (.loop c) st).path C.Φ s=some (ex,st')→sQ s st.fc→Ae C E s (.loop c) st ex st'∧∀ w0 B0,xA ⟨C.P,C.G,E,w0,B0,st.T.length⟩ c (wP s ex st') (n+1) st.N (rO.den s st.T) (SH.den s st.H):=by
   intro c st ex st' h hf
   simp only[uM] at h
   obtain⟨tF,st1,h1,h2⟩:=zn h
   have s1:=ih _ _ _ _ h1 hf
   rcases Et h2 with⟨rfl,h3⟩|⟨hx,h3⟩
   ·have s2:=ih _ _ _ _ h3 s1.fc
    have hr:∀ w0 B0,xA ⟨C.P,C.G,E,w0,B0,st.T.length⟩ c (wP s ex st') (n+1) st.N (rO.den s st.T) (SH.den s st.H):=fun w0 B0=>by
     rw[FZ]
     refine(s1.aw w0 B0).mono ?_
     rintro x N T H ⟨rfl,rfl,rfl,rfl⟩
     have:=ihl _ _ _ _ h3 s1.fc w0 B0
     rw[s1.len] at this
     exact this
    exact⟨s1.trans s2 fun w0 B0=>FY _ (hr w0 B0),hr⟩
   ·obtain⟨rfl,rfl⟩:tF=ex∧st1=st':=by cases h3;exact⟨rfl,rfl⟩
    have hr:∀ w0 B0,xA ⟨C.P,C.G,E,w0,B0,st.T.length⟩ c (wP s tF st1) (n+1) st.N (rO.den s st.T) (SH.den s st.H):=fun w0 B0=>by
     rw[FZ]
     refine(s1.aw w0 B0).mono ?_
     rintro x N T H ⟨rfl,rfl,rfl,rfl⟩
     exact Eu hx ⟨rfl,rfl,rfl,rfl⟩
    exact⟨⟨fun w0 B0=>FY _ (hr w0 B0),s1.len,s1.dt,s1.fc⟩,hr⟩
  refine⟨?_,fun c st ex st' h hf=>(loop c st ex st' h hf).2⟩
  intro c st ex st' h hf
  cases c with
  | skip=>simp only[uM] at h;cases h;exact⟨fun w0 B0=>OD ⟨rfl,rfl,rfl,rfl⟩,rfl,fun j hj=>⟨hj,rfl⟩,hf⟩
  | label l=>simp only[uM] at h;cases h;exact⟨fun w0 B0=>OE ⟨rfl,rfl,rfl,rfl⟩,rfl,fun j hj=>⟨hj,rfl⟩,hf⟩
  | exit id=>simp only[uM] at h;cases h;exact⟨fun w0 B0=>OG ⟨rfl,rfl,rfl,rfl⟩,rfl,fun j hj=>⟨hj,rfl⟩,hf⟩
  | ret=>simp only[uM] at h;cases h;exact⟨fun w0 B0=>OH ⟨rfl,rfl,rfl,rfl⟩,rfl,fun j hj=>⟨hj,rfl⟩,hf⟩
  | seq a b =>
   simp only[uM] at h
   obtain⟨tF,st1,h1,h2⟩:=zn h
   have s1:=ih _ _ _ _ h1 hf
   rcases Et h2 with⟨rfl,h3⟩|⟨hx,h3⟩
   ·have s2:=ih _ _ _ _ h3 s1.fc
    refine s1.trans s2 fun w0 B0=>FX ((s1.aw w0 B0).mono ?_)
    rintro x N T H ⟨rfl,rfl,rfl,rfl⟩
    have:=s2.aw w0 B0
    rw[s1.len] at this
    exact this
   ·cases h3
    refine⟨fun w0 B0=>FX ((s1.aw w0 B0).mono ?_),s1.len,s1.dt,s1.fc⟩
    rintro x N T H ⟨rfl,rfl,rfl,rfl⟩
    exact Eu hx ⟨rfl,rfl,rfl,rfl⟩
  | cond c a b =>
   simp only[uM] at h
   split at h
   ·rename_i q hq
    have hd:=CY s st.T _ _ hq
    obtain⟨fc',hf',h⟩:=BH hf h
    simp only[SV.den] at hd
    cases hb:(q.den s != 0) with
    | true =>
     rw[hb] at h hd
     have s1:=ih _ _ _ _ h hf'
     exact⟨fun w0 B0=>OI hd (s1.aw w0 B0),s1.len,s1.dt,s1.fc⟩
    | false =>
     rw[hb] at h hd
     have s1:=ih _ _ _ _ h hf'
     exact⟨fun w0 B0=>OJ hd (s1.aw w0 B0),s1.len,s1.dt,s1.fc⟩
   ·cases h
  | block id c =>
   simp only[uM] at h
   obtain⟨tF,st1,h1,h2⟩:=zn h
   have s1:=ih _ _ _ _ h1 hf
   have key:ex=BU id tF∧st'=st1:=by
    cases tF with
    | exit id' =>
     simp only at h2
     simp only[BU]
     split at h2
     ·rename_i hb;cases h2;rw[if_pos (sN.1 hb)];exact⟨rfl,rfl⟩
     ·rename_i hb;cases h2
      rw[if_neg (fun e=>by rw[e] at hb;simp at hb)];exact⟨rfl,rfl⟩
    | _=>cases h2;exact⟨rfl,rfl⟩
   obtain⟨rfl,rfl⟩:=key
   refine⟨fun w0 B0=>OL ((s1.aw w0 B0).mono ?_),s1.len,s1.dt,s1.fc⟩
   rintro x N T H ⟨rfl,rfl,rfl,rfl⟩
   cases x with
   | exit id' =>
    simp only[Jr,BU]
    split
    ·exact⟨rfl,rfl,rfl,rfl⟩
    ·exact⟨rfl,rfl,rfl,rfl⟩
   | _=>exact⟨rfl,rfl,rfl,rfl⟩
  | loop c=>exact(loop c st ex st' h hf).1
  | scope c =>
   simp only[uM] at h
   obtain⟨tF,st1,h1,h2⟩:=zn h
   have s1:=ih _ _ _ _ h1 hf
   have key:(∀ l,tF ≠ .goto l)∧ex=tF∧st'=st1:=by
    cases tF<;>first|(cases h2;exact⟨fun l e=>(by cases e),rfl,rfl⟩)|cases h2
   obtain⟨hg,rfl,rfl⟩:=key
   exact⟨fun w0 B0=>OO (s1.aw w0 B0) (fun l N T H e=>hg l e.1.symm),s1.len,s1.dt,s1.fc⟩
  | region id ops draw =>
   simp only[uM] at h
   obtain⟨out,h1,h2⟩:=qZ.path_bind_some h
   have dst:∀ o∈ops.toList,∀ t,o.dst=some t→t<st.T.length:=by
    unfold regionEnd at h2
    split at h2
    ·split at h2
     ·rename_i hdr _
      simp only[drawOK,Bool.and_eq_true] at hdr
      exact BA hdr.1.2
     ·cases h2
     ·cases h2
    ·split at h2
     ·rename_i hdr;exact BA hdr
     ·cases h2
   obtain⟨e1,e2,e3,e4⟩:=Kg hC (nt:=st.T.length) (fun g args H k nv fc r hr hf=>ak6 hC hms ih hr hf) ops.toList 0 st.T st.H [] st.nv st.dt st.fc out h1 hf rfl dst
   unfold regionEnd at h2
   cases draw with
   | true =>
    simp only at h2
    split at h2
    ·rename_i hdr htr
     rw[tZ] at h2
     cases h2
     refine⟨fun w0 B0=>OQ hC.eq hC.mix hdr (e1 w0 B0 [] _ rfl ?_),e2,e4,e3⟩
     intro trf htf
     refine⟨?_,rfl,rfl,rfl,rfl⟩
     rw[← htf] at htr
     exact Ke htr
    ·cases h2
    ·cases h2
   | false =>
    simp only at h2
    split at h2
    ·rename_i hdr
     rw[tZ] at h2
     cases h2
     exact⟨fun w0 B0=>OP hC.eq hdr (e1 w0 B0 [] _ rfl fun trf htf=>⟨rfl,rfl,rfl,rfl⟩),e2,e4,e3⟩
    ·cases h2
  | rangeFunc f ps a b=>simp only[uM] at h;cases h
  | goto l=>simp only[uM] at h;cases h
  | refuse w=>simp only[uM] at h;cases h
end
theorem ak7 {C:sP} {E:sV} {s:ry} {ms:MX} (hC:wu C E) (hms:Ji C ms) {n:Nat} {g:FuncId} {args:List SV} {nv:Nat} {a:SV} {vs:List Value} {v:Value} (h:(Ar C ms n g args nv).path C.Φ s=some a) (ha:SV.dens s args=vs.map .v) (hv:a.den s = .v v) :
  PC C.P C.G g vs v:=by
 unfold Ar at h
 split at h
 ·cases h
 ·rename_i fn hf
  split at h
  ·cases h
  ·rename_i cd hb
   split at h
   ·rename_i hl
    obtain⟨⟨ex,st⟩,h1,h2⟩:=qZ.path_bind_some h
    have sp:=(aaL (E:=E) (s:=s) hC hms n).1 _ _ _ _ h1 (fun x hx=>by cases hx)
    have hlen:(uS args fn.ntmps).length=fn.ntmps:=Ep _ _ (Nat.le_of_ble_eq_true hl)
    have hvl:vs.length=args.length:=by have:=congrArg List.length ha;rw[zi,List.length_map] at this;exact this.symm
    refine OW E hf hb (hC.nm g fn hf (by rw[hb];rfl)) (by rw[hvl];exact hl) fun w=>?_
    have hA:=sp.aw w sw.nil
    simp only[hlen,J9,ha] at hA
    have key:∀ rs,vK C.P st.T st.H fn.results.toList=some rs→tJ rs=a→∃ rs',yx C.P C.G (rO.den s st.T) (SH.den s st.H) fn.results.toList=some rs'∧zX rs' = .v v:=fun rs hrs e =>
     ⟨_,Er s hrs,by rw[Gv,e,hv]⟩
    have hx:(ex = .normal∨ex = .ret)∧∃ rs,vK C.P st.T st.H fn.results.toList=some rs∧tJ rs=a:=by
     rcases Kc h2 with⟨rfl,h3⟩|⟨rfl,h3⟩
     ·split at h3
      ·rename_i rs hrs;cases h3;exact⟨.inl rfl,rs,hrs,rfl⟩
      ·cases h3
     ·split at h3
      ·rename_i rs hrs;cases h3;exact⟨.inr rfl,rs,hrs,rfl⟩
      ·cases h3
    obtain⟨hx,rs,hrs,e⟩:=hx
    refine AW.mono (show AW _ cd (wP s ex st) 0 _ _ from hA) ?_
    rintro x N T H ⟨rfl,rfl,rfl,rfl⟩
    rcases hx with rfl|rfl
    ·exact key rs hrs e
    ·exact key rs hrs e
   ·cases h
theorem DC {C:sP} {E:sV} {ms:MX} (hC:wu C E) (hms:Ji C ms) (n:Nat) {g:FuncId} {ct:Ct} {t:qZ SV} (hp:Nat.blt 0 (q9 ct.r).length=true) (h:Ar C ms n g (rH ct.a (rG 0 (q9 ct.a))) (q9 ct.a).length=t) (hs:AY (q9 ct.a).length t=true) :
  xX C.P C.G ⟨g,ct,rE C.Φ ct t⟩:=⟨fun l hl hF=>by
 obtain⟨a,l',xs,h1,h2⟩:=adS hp hF
 obtain⟨h3,m,rfl⟩:=Ev h1 (by rw[hl];exact hs)
 rw[← h] at h3
 obtain⟨h4,h5⟩:=AX (rC (l++m)) (q9 ct.a) 0
 rw[← hl,MG] at h4
 have hf:=Db (rC (l++m)) h2
 have e:rE C.Φ ct t l=xs.map (X.den (rC (l++m))):=by unfold rE;simp only[h1,h2,zo,id]
 refine ak7 hC hms h3 (BO h4 h5) ?_
 simp only[e]
 exact MH hf.1 (Gz _ _)⟩
def qZ.th {α:Type} : qZ α→qZ α
 | .ite _ a _=>a
 | t=>t
def qZ.el {α:Type} : qZ α→qZ α
 | .ite _ _ b=>b
 | t=>t
def qZ.nx {α:Type} : qZ α→qZ α
 | .call _ _ _ _ t=>t
 | t=>t
def qZ.hI {α:Type} : qZ α→Option X
 | .ite c _ _=>some c
 | _=>none
def qZ.hC {α:Type} : qZ α→Option (Nat×List X×Nat×Nat)
 | .call f a m n _=>some (f,a,m,n)
 | _=>none
theorem NS {α:Type} {T a b:qZ α} {c:X} (h1:T.hI=some c) (ha:T.th=a) (hb:T.el=b):T = .ite c a b:=by
 subst ha hb
 cases T<;>simp_all[qZ.hI,qZ.th,qZ.el]
theorem NT {α:Type} {T a:qZ α} {q:Nat×List X×Nat×Nat} (h1:T.hC=some q) (ha:T.nx=a):T = .call q.1 q.2.1 q.2.2.1 q.2.2.2 a:=by
 subst ha
 cases T<;>simp_all[qZ.hC,qZ.nx]
 subst h1
 exact⟨rfl,rfl,rfl,rfl⟩
end Go.Proofs.YtbembkamcdlhbaaGreatDoor
