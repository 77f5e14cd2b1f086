import Derived.Test.YtbembkamcdlhbaaGreatDoorZDSb
set_option linter.unusedSimpArgs false
set_option linter.unusedVariables false
namespace Go.Proofs.YtbembkamcdlhbaaGreatDoor
open Go.RowKit
structure FD where
 g:FuncId
 es:List (Value×Value)
def Lb (P:Program) (G:rP) (m:FD):Prop :=
 ∀ w,Gl G w→wU P m.g #[] w fun en w'=>∃ b,en = .returned (.map (some b))∧w.heap.size≤b∧w'.heap[b]? = some (AC m.es)∧rq w w'
structure Jn where
 g:FuncId
 id:Nat
 m:Nat
 t:TypeId
 ki:List VK
 ko:List VK
def yO (ks:List VK) (m:Nat):List VK:=(List.replicate m ks).flatten
def alI (P:Program) (G:rP) (a:Jn) (F:List Int→List Int):Prop :=
 ∀ l,l.length=(yO a.ki a.m).length→∀ f r,F l=f::r→r.length=(yO a.ko a.m).length→∀ w v,Gl G w→Reads w v a.m (sP (yO a.ki a.m) l) →
  wU P a.g #[v] w fun en w'=>∃ u,en = .returned (.tuple #[u,.int .u8 (IntKind.u8.wrap f)])∧Reads w' u a.m (sP (yO a.ko a.m) r)∧rq w w'∧∀ b,wT u=some b→w.heap.size≤b
structure MX where
 ms:List FD
 al:List Jn
def Lc:List VK→Bool
 | []=>true
 | .int _::l=>Lc l
 | .bool::l=>Lc l
 | _::_=>false
structure Jo (C:sW) (X:MX):Prop where
 ms:∀ m∈X.ms,Lb C.P C.G m
 al:∀ a∈X.al,alI C.P C.G a (C.Φ a.id)
def NS:List FD→FuncId→Option FD
 | [],_=>none
 | x::l,g=>match Nat.beq x.g g with|true=>some x|false=>NS l g
theorem alJ {L:List FD} {g:FuncId} {e:FD} (h:NS L g=some e):e∈L∧e.g=g:=by
 induction L with
 | nil=>cases h
 | cons x l ih =>
  simp only[NS] at h
  split at h
  ·rename_i hb;cases h;exact⟨List.mem_cons_self,sU.1 hb⟩
  ·obtain⟨h1,h2⟩:=ih h;exact⟨List.mem_cons_of_mem _ h1,h2⟩
def NT:List Jn→FuncId→Nat→TypeId→Option Jn
 | [],_,_,_=>none
 | x::l,g,m,t=>match Nat.beq x.g g,Nat.beq x.m m,Nat.beq x.t t with|true,true,true=>some x|_,_,_=>NT l g m t
theorem alK {L:List Jn} {g:FuncId} {m:Nat} {t:TypeId} {e:Jn} (h:NT L g m t=some e):e∈L∧e.g=g∧e.m=m∧e.t=t:=by
 induction L with
 | nil=>cases h
 | cons x l ih =>
  simp only[NT] at h
  split at h
  ·rename_i h1 h2 h3;cases h;exact⟨List.mem_cons_self,sU.1 h1,sU.1 h2,sU.1 h3⟩
  ·obtain⟨h1,h2⟩:=ih h;exact⟨List.mem_cons_of_mem _ h1,h2⟩
def aaO (x:Value×Value):Value:=.tuple #[x.1,x.2]
def NU (es:List (Value×Value)):SO:=⟨[.v (.tuple (es.map aaO).toArray)],none⟩
theorem alL (s:rD) (es:List (Value×Value)):(NU es).den s = .mp es:=by
 refine SO.den_map s rfl ?_
 simp only[NU,yI,Ps,List.map_map]
 congr 1
 have:UD∘aaO=id:=by funext x;rfl
 simp[this]
def Ld (n:X) (b:Nat) (ks:List VK):SO:=⟨.v (.bool false) :: .int .i64 n :: .v (.int .i64 (.ofNat b))::ks.map (fun k=>JY k (.lit 0)),none⟩
theorem SY:∀ {ks:List VK},Lc ks=true→(ks.map (fun k=>JY k (.lit 0))).map Me=ks
 | [],_=>rfl
 | .int k::l,h=>by rw[List.map_cons,List.map_cons,SY (ks:=l) h];rfl
 | .bool::l,h=>by rw[List.map_cons,List.map_cons,SY (ks:=l) h];rfl
 | .bit::l,h=>by cases h
 | .nat::l,h=>by cases h
theorem alM (s:rD) (n:X) (b:Nat) {ks:List VK} (hk:Lc ks=true):(Ld n b ks).den s = .rd (n.den s).toNat (xB s b ks (n.den s).toNat):=by
 have h:yU (Ld n b ks).c=some ⟨n,b,ks⟩:=by
  simp only[Ld,yU,Mf,Mg,Mh,SY hk]
 exact SO.den_ora s (r:=⟨n,b,ks⟩) rfl rfl h
theorem aaP:∀ (a b:List VK) (p q:List Int),p.length=a.length→sP (a++b) (p++q)=sP a p++sP b q
 | [],b,p,q,h=>by
  have:p = []:=List.length_eq_zero_iff.1 (by simpa using h)
  subst this;rfl
 | k::a,b,[],q,h=>by simp at h
 | k::a,b,n::p,q,h=>by rw[List.cons_append,List.cons_append,sP,sP,aaP a b p q (by simpa using h),List.cons_append]
theorem aaQ (ks:List VK) (m:Nat):yO ks (m+1)=yO ks m++ks:=by
 unfold yO;rw[List.replicate_succ',List.flatten_append];simp
theorem S9 (ks:List VK):∀ m,(yO ks m).length=m*ks.length
 | 0=>by simp[yO]
 | m+1=>by rw[aaQ,List.length_append,S9 ks m,Nat.add_mul,Nat.one_mul]
theorem aaR (s:rD) (b:Nat) (ks:List VK):∀ m,xB s b ks m=sP (yO ks m) (vN s b (m*ks.length))
 | 0=>by simp[xB,yO,sP]
 | m+1=>by
  rw[xB,aaR s b ks m,aaQ,Nat.add_mul,Nat.one_mul,QE,aaP _ _ _ _ (by rw[BN,S9])]
def Ta (C:sW) (X:MX) (g:FuncId) (args:List SV) (H:SH) (k nv:Nat) (fc:Facts) (K:Unit→rf CR):rf CR:=match args with
 | [.sl b 0 n m]=>match hget H b with
  | some o=>match o.t with
   | some t=>match NT X.al g n t with
    | some a=>match Er (yO a.ki a.m) o.c,Lc a.ko with
     | some xs,true=>uC (Nat.succ nv) fun nv1=>uC (a.m*a.ko.length) fun q=>.call a.id xs nv (Nat.succ q) (uC (nv1+q) fun nv'=>.leaf ⟨.tup [.hd k,.int .u8 (.var (.int .u8) nv)],[b],[(k,Ld (.lit (.ofNat a.m)) nv1 a.ko)],nv',fc⟩)
     | _,_=>.stuck "a slice's cells"
    | none=>K ()
   | none=>K ()
  | none=>K ()
 | _=>K ()
def Tc (C:sW) (X:MX) (ex:Code→St→rf (Exit×St)) (g:FuncId) (args:List SV) (H:SH) (k nv:Nat) (fc:Facts):rf CR:=match NS X.ms g with
 | some m=>match args with
  | []=>.leaf ⟨.hd k,[],[(k,NU m.es)],nv,fc⟩
  | _=>.stuck "a map's arguments"
 | none=>Ta C X g args H k nv fc fun _=>Kb C ex g args H k nv fc
section
variable {C:sW} {E:tC} {s:rD} {ms:MX}
theorem alN (hX:Jo C ms) {g:FuncId} {args:List SV} {H:SH} {k nv:Nat} {fc:Facts} {K:Unit→rf CR} {r:CR} (h:(Ta C ms g args H k nv fc K).path C.Φ s=some r) (hfc:sZ s fc) (hK:(K ()).path C.Φ s=some r→yX C s g args H k r):yX C s g args H k r:=by
 unfold Ta at h
 split at h
 ·rename_i b n m
  split at h
  ·rename_i o ho
   split at h
   ·rename_i t ht
    split at h
    ·rename_i a ha
     obtain⟨a1,a2,a3,a4⟩:=alK ha
     split at h
     ·rename_i xs hxs hpk
      rw[uk,uk] at h
      simp only[rf.path] at h
      split at h
      ·rename_i hce
       rw[uk] at h
       cases h
       obtain⟨f1,f2⟩:=Kc s hxs
       have hB:SH.den s H b=some (.own ((sP (yO a.ki a.m) (xs.map (X.den s))).map .v) t):=by rw[SH.den_get ho ht,f1]
       refine⟨fun j hj=>?_,fun x hx=>?_,hfc,fun w0 B0=>?_⟩
       ·simp at hj;subst hj;rw[hB];simp
       ·simp[sH] at hx;subst hx;exact .inl rfl
       ·intro H' e w hag hk _ _ R
        have hb':H' b=some (.own ((sP (yO a.ki a.m) (xs.map (X.den s))).map .v) t):=by rw[hag b (by simp)];exact hB
        have hown:=R.own b _ t hb'
        rw[vK] at hown
        have hrd:Reads w (.slice (some ⟨e.blk b,0,none⟩) n m) a.m (sP (yO a.ki a.m) (xs.map (X.den s))):=.inr ⟨e.blk b,0,m,by rw[a3],R.lt hb',fun j x hj=>by simp[World.cell?,hown,hj]⟩
        unfold Ej at hce
        rw[vN] at hce
        have hcall:=hX.al a a1 (xs.map (X.den s)) (by rw[List.length_map];exact f2) _ _ hce.symm (by rw[BN,S9]) w _ R.gl hrd
        rw[a2] at hcall
        have hv:AV.vals e (SV.dens s [.sl b 0 n m]) = [Value.slice (some ⟨e.blk b,0,none⟩) n m]:=rfl
        rw[hv]
        refine hcall.mono ?_
        rintro en w' ⟨u,rfl,hru,hbel,hfr⟩
        have R2:=R.below hbel
        have hef:sH s [(k,Ld (.lit (.ofNat a.m)) (nv+1) a.ko)] = [(k,.rd a.m (xB s (nv+1) a.ko a.m))]:=by
         simp only[sH,List.map_cons,List.map_nil,alM s _ _ hpk,X.den];rfl
        rw[show Nat.succ nv=nv+1 from rfl,hef]
        have hsl:zG u=u:=by
         rcases hru with⟨h1,_⟩|⟨b',o',cap,h1,_⟩<;>rw[h1]<;>rfl
        refine⟨e.setHnd k u,?_,?_,Env.setHnd_on hk e _,fun j hj=>?_⟩
        ·have h2:((SV.tup [.hd k,.int .u8 (.var (.int .u8) nv)]).den s).val (e.setHnd k u) = .tuple #[u,.int .u8 (IntKind.u8.wrap (s nv))]:=by
          simp only[SV.den,SV.dens]
          show(xx [.hd k,.v _]).val _=_
          simp[xx,tX,AV.val,AV.vals,Env.setHnd,hsl,X.den,VK.norm]
         rw[h2]
        ·rw[ry.puts,ry.puts]
         refine R2.handle hk (by rw[aaR];exact hru) (fun j c t' hj he=>?_) (fun b2 hb2=>.inl (Nat.le_trans R.size (hfr b2 hb2)))
         have h3:=R.lt hj
         have:=hfr _ he
         omega
        ·have:j=k:=by
          have h4:=SV.den_refs s (.tup [.hd k,.int .u8 (.var (.int .u8) nv)]) hj
          simpa [SV.refs,SV.refss] using h4
         subst this;rw[ry.puts,ry.puts,ry.put_same];simp
      ·cases h
     ·cases h
    ·exact hK h
   ·exact hK h
  ·exact hK h
 ·exact hK h
theorem alO (hC:wD C E) (hms:Jo C ms) {exf:Code→St→rf (Exit×St)} (hex:Kj C E s exf) {g:FuncId} {args:List SV} {H:SH} {k nv:Nat} {fc:Facts} {r:CR} (h:(Tc C ms exf g args H k nv fc).path C.Φ s=some r) (hfc:sZ s fc):yX C s g args H k r:=by
 unfold Tc at h
 split at h
 ·rename_i m hm
  obtain⟨h1,h2⟩:=alJ hm
  split at h
  ·cases h
   refine⟨fun b hb=>by simp at hb,fun x hx=>by simp[sH] at hx;subst hx;exact .inl rfl,hfc,fun w0 B0=>?_⟩
   intro H' e w _ hk _ _ R
   subst h2
   refine(hms.ms m h1 w R.gl).mono ?_
   rintro en w' ⟨b,rfl,hb,ho,hbel⟩
   have hef:sH s [(k,NU m.es)] = [(k,.mp m.es)]:=by simp only[sH,List.map_cons,List.map_nil,alL]
   refine⟨e.setHnd k (.map (some b)),by simp[SV.den,AV.val,Env.setHnd,zG],?_,Env.setHnd_on hk e _,fun j hj=>?_⟩
   ·rw[hef];exact R.adoptM hbel hk hb ho
   ·simp[SV.den,AV.refs] at hj;subst hj;rw[hef,ry.puts,ry.puts,ry.put_same];simp
  ·cases h
 ·exact alN hms h hfc fun h=>Qw hC hex h hfc
end
def uS (C:sW) (ms:MX):Nat→Code→St→rf (Exit×St)
 | 0,_,_=>.stuck "no fuel"
 | f+1,c,s=>match c with
  | .skip=>.leaf (.normal,s)
  | .label _=>.leaf (.normal,s)
  | .exit id=>.leaf (.exit id,s)
  | .ret=>.leaf (.ret,s)
  | .seq a b=>(uS C ms f a s).bind fun r=>match r.1 with | .normal=>uS C ms f b r.2|_=>.leaf r
  | .cond c a b=>match zO s.T c with
   | some (.bool q)=>Ae s.fc q fun bb fc=>match bb with|true=>uS C ms f a { s with fc:=fc } | false=>uS C ms f b { s with fc:=fc }
   | _=>.stuck "cond"
  | .block id c=>(uS C ms f c s).bind fun r=>match r.1 with
   | .exit id'=>match Nat.beq id' id with|true=>.leaf (.normal,r.2)|false=>.leaf r
   | _=>.leaf r
  | .loop c=>(uS C ms f c s).bind fun r=>match r.1 with | .normal=>uS C ms f (.loop c) r.2|_=>.leaf r
  | .scope c=>(uS C ms f c s).bind fun r=>match r.1 with | .goto _=>.stuck "goto" | _=>.leaf r
  | .region _ ops draw=>(zu C (Tc C ms (uS C ms f)) ops s.N 0 ops.toList s.T s.H [] s.nv s.dt s.fc).bind fun r=>regionEnd s.T.length ops draw s r
  | _=>.stuck "no such text"
def AB (C:sW) (ms:MX) (fuel:Nat) (g:FuncId) (args:List SV) (nv:Nat):rf SV :=
 match C.P.funcs[g]? with
 | none=>.stuck "no such function"
 | some fn=>match fn.body with
  | none=>.stuck "no body"
  | some cd=>match Nat.ble args.length fn.ntmps with
   | true=>(uS C ms fuel cd ⟨0,uY args fn.ntmps,[],nv,[],[]⟩).bind fun r=>match r.1 with
    | .normal=>match vQ C.P r.2.T r.2.H fn.results.toList with|some rs=>.leaf (tO rs)|none=>.stuck "results"
    | .ret=>match vQ C.P r.2.T r.2.H fn.results.toList with|some rs=>.leaf (tO rs)|none=>.stuck "results"
    | _=>.stuck "end"
   | false=>.stuck "arguments"
section
variable {C:sW} {E:tC} {s:rD} {ms:MX}
theorem aaS (hC:wD C E) (hms:Jo C ms):∀ n:Nat,Kj C E s (uS C ms n) ∧
  ∀ c st ex st',(uS C ms n (.loop c) st).path C.Φ s=some (ex,st')→sZ s st.fc→∀ w0 B0,xJ ⟨C.P,C.G,E,w0,B0,st.T.length⟩ c (wX s ex st') n st.N (rR.den s st.T) (SH.den s st.H)
 | 0=>⟨fun c st ex st' h=>(by cases h),fun c st ex st' h=>(by cases h)⟩
 | n+1=>by
  obtain⟨ih,ihl⟩:=aaS hC hms n
  have loop:∀ c st ex st',(uS C ms (n+1) (.loop c) st).path C.Φ s=some (ex,st')→sZ s st.fc→Aj C E s (.loop c) st ex st'∧∀ w0 B0,xJ ⟨C.P,C.G,E,w0,B0,st.T.length⟩ c (wX s ex st') (n+1) st.N (rR.den s st.T) (SH.den s st.H):=by
   intro c st ex st' h hf
   simp only[uS] at h
   obtain⟨ug,st1,h1,h2⟩:=zx h
   have s1:=ih _ _ _ _ h1 hf
   rcases EA h2 with⟨rfl,h3⟩|⟨hx,h3⟩
   ·have s2:=ih _ _ _ _ h3 s1.fc
    have hr:∀ w0 B0,xJ ⟨C.P,C.G,E,w0,B0,st.T.length⟩ c (wX s ex st') (n+1) st.N (rR.den s st.T) (SH.den s st.H):=fun w0 B0=>by
     rw[F8]
     refine(s1.aw w0 B0).mono ?_
     rintro x N T H ⟨rfl,rfl,rfl,rfl⟩
     have:=ihl _ _ _ _ h3 s1.fc w0 B0
     rw[s1.len] at this
     exact this
    exact⟨s1.trans s2 fun w0 B0=>F7 _ (hr w0 B0),hr⟩
   ·obtain⟨rfl,rfl⟩:ug=ex∧st1=st':=by cases h3;exact⟨rfl,rfl⟩
    have hr:∀ w0 B0,xJ ⟨C.P,C.G,E,w0,B0,st.T.length⟩ c (wX s ug st1) (n+1) st.N (rR.den s st.T) (SH.den s st.H):=fun w0 B0=>by
     rw[F8]
     refine(s1.aw w0 B0).mono ?_
     rintro x N T H ⟨rfl,rfl,rfl,rfl⟩
     exact EB hx ⟨rfl,rfl,rfl,rfl⟩
    exact⟨⟨fun w0 B0=>F7 _ (hr w0 B0),s1.len,s1.dt,s1.fc⟩,hr⟩
  refine⟨?_,fun c st ex st' h hf=>(loop c st ex st' h hf).2⟩
  intro c st ex st' h hf
  cases c with
  | skip=>simp only[uS] at h;cases h;exact⟨fun w0 B0=>OH ⟨rfl,rfl,rfl,rfl⟩,rfl,fun j hj=>⟨hj,rfl⟩,hf⟩
  | label l=>simp only[uS] at h;cases h;exact⟨fun w0 B0=>OI ⟨rfl,rfl,rfl,rfl⟩,rfl,fun j hj=>⟨hj,rfl⟩,hf⟩
  | exit id=>simp only[uS] at h;cases h;exact⟨fun w0 B0=>OJ ⟨rfl,rfl,rfl,rfl⟩,rfl,fun j hj=>⟨hj,rfl⟩,hf⟩
  | ret=>simp only[uS] at h;cases h;exact⟨fun w0 B0=>OL ⟨rfl,rfl,rfl,rfl⟩,rfl,fun j hj=>⟨hj,rfl⟩,hf⟩
  | seq a b =>
   simp only[uS] at h
   obtain⟨ug,st1,h1,h2⟩:=zx h
   have s1:=ih _ _ _ _ h1 hf
   rcases EA h2 with⟨rfl,h3⟩|⟨hx,h3⟩
   ·have s2:=ih _ _ _ _ h3 s1.fc
    refine s1.trans s2 fun w0 B0=>F6 ((s1.aw w0 B0).mono ?_)
    rintro x N T H ⟨rfl,rfl,rfl,rfl⟩
    have:=s2.aw w0 B0
    rw[s1.len] at this
    exact this
   ·cases h3
    refine⟨fun w0 B0=>F6 ((s1.aw w0 B0).mono ?_),s1.len,s1.dt,s1.fc⟩
    rintro x N T H ⟨rfl,rfl,rfl,rfl⟩
    exact EB hx ⟨rfl,rfl,rfl,rfl⟩
  | cond c a b =>
   simp only[uS] at h
   split at h
   ·rename_i q hq
    have hd:=De s st.T _ _ hq
    obtain⟨fc',hf',h⟩:=BO hf h
    simp only[SV.den] at hd
    cases hb:(q.den s != 0) with
    | true =>
     rw[hb] at h hd
     have s1:=ih _ _ _ _ h hf'
     exact⟨fun w0 B0=>OM hd (s1.aw w0 B0),s1.len,s1.dt,s1.fc⟩
    | false =>
     rw[hb] at h hd
     have s1:=ih _ _ _ _ h hf'
     exact⟨fun w0 B0=>OO hd (s1.aw w0 B0),s1.len,s1.dt,s1.fc⟩
   ·cases h
  | block id c =>
   simp only[uS] at h
   obtain⟨ug,st1,h1,h2⟩:=zx h
   have s1:=ih _ _ _ _ h1 hf
   have key:ex=Ce id ug∧st'=st1:=by
    cases ug with
    | exit id' =>
     simp only at h2
     simp only[Ce]
     split at h2
     ·rename_i hb;cases h2;rw[if_pos (sU.1 hb)];exact⟨rfl,rfl⟩
     ·rename_i hb;cases h2
      rw[if_neg (fun e=>by rw[e] at hb;simp at hb)];exact⟨rfl,rfl⟩
    | _=>cases h2;exact⟨rfl,rfl⟩
   obtain⟨rfl,rfl⟩:=key
   refine⟨fun w0 B0=>OP ((s1.aw w0 B0).mono ?_),s1.len,s1.dt,s1.fc⟩
   rintro x N T H ⟨rfl,rfl,rfl,rfl⟩
   cases x with
   | exit id' =>
    simp only[Jy,Ce]
    split
    ·exact⟨rfl,rfl,rfl,rfl⟩
    ·exact⟨rfl,rfl,rfl,rfl⟩
   | _=>exact⟨rfl,rfl,rfl,rfl⟩
  | loop c=>exact(loop c st ex st' h hf).1
  | scope c =>
   simp only[uS] at h
   obtain⟨ug,st1,h1,h2⟩:=zx h
   have s1:=ih _ _ _ _ h1 hf
   have key:(∀ l,ug ≠ .goto l)∧ex=ug∧st'=st1:=by
    cases ug<;>first|(cases h2;exact⟨fun l e=>(by cases e),rfl,rfl⟩)|cases h2
   obtain⟨hg,rfl,rfl⟩:=key
   exact⟨fun w0 B0=>OT (s1.aw w0 B0) (fun l N T H e=>hg l e.1.symm),s1.len,s1.dt,s1.fc⟩
  | region id ops draw =>
   simp only[uS] at h
   obtain⟨out,h1,h2⟩:=rf.path_bind_some h
   have dst:∀ o∈ops.toList,∀ t,o.dst=some t→t<st.T.length:=by
    unfold regionEnd at h2
    split at h2
    ·split at h2
     ·rename_i hdr _
      simp only[drawOK,Bool.and_eq_true] at hdr
      exact BI hdr.1.2
     ·cases h2
     ·cases h2
    ·split at h2
     ·rename_i hdr;exact BI hdr
     ·cases h2
   obtain⟨e1,e2,e3,e4⟩:=Km hC (nt:=st.T.length) (fun g args H k nv fc r hr hf=>alO hC hms ih hr hf) ops.toList 0 st.T st.H [] st.nv st.dt st.fc out h1 hf rfl dst
   unfold regionEnd at h2
   cases draw with
   | true =>
    simp only at h2
    split at h2
    ·rename_i hdr htr
     rw[uk] at h2
     cases h2
     refine⟨fun w0 B0=>OV hC.eq hC.mix hdr (e1 w0 B0 [] _ rfl ?_),e2,e4,e3⟩
     intro trf htf
     refine⟨?_,rfl,rfl,rfl,rfl⟩
     rw[← htf] at htr
     exact Kl htr
    ·cases h2
    ·cases h2
   | false =>
    simp only at h2
    split at h2
    ·rename_i hdr
     rw[uk] at h2
     cases h2
     exact⟨fun w0 B0=>OU hC.eq hdr (e1 w0 B0 [] _ rfl fun trf htf=>⟨rfl,rfl,rfl,rfl⟩),e2,e4,e3⟩
    ·cases h2
  | rangeFunc f ps a b=>simp only[uS] at h;cases h
  | goto l=>simp only[uS] at h;cases h
  | refuse w=>simp only[uS] at h;cases h
end
theorem alP {C:sW} {E:tC} {s:rD} {ms:MX} (hC:wD C E) (hms:Jo C ms) {n:Nat} {g:FuncId} {args:List SV} {nv:Nat} {a:SV} {vs:List Value} {v:Value} (h:(AB C ms n g args nv).path C.Φ s=some a) (ha:SV.dens s args=vs.map .v) (hv:a.den s = .v v) :
  PC C.P C.G g vs v:=by
 unfold AB at h
 split at h
 ·cases h
 ·rename_i fn hf
  split at h
  ·cases h
  ·rename_i cd hb
   split at h
   ·rename_i hl
    obtain⟨⟨ex,st⟩,h1,h2⟩:=rf.path_bind_some h
    have sp:=(aaS (E:=E) (s:=s) hC hms n).1 _ _ _ _ h1 (fun x hx=>by cases hx)
    have hlen:(uY args fn.ntmps).length=fn.ntmps:=Ex _ _ (Nat.le_of_ble_eq_true hl)
    have hvl:vs.length=args.length:=by have:=congrArg List.length ha;rw[zo,List.length_map] at this;exact this.symm
    refine OZ E hf hb (hC.nm g fn hf (by rw[hb];rfl)) (by rw[hvl];exact hl) fun w=>?_
    have hA:=sp.aw w sG.nil
    simp only[hlen,Kh,ha] at hA
    have key:∀ rs,vQ C.P st.T st.H fn.results.toList=some rs→tO rs=a→∃ rs',yE C.P C.G (rR.den s st.T) (SH.den s st.H) fn.results.toList=some rs'∧Ac rs' = .v v:=fun rs hrs e =>
     ⟨_,Ey s hrs,by rw[GG,e,hv]⟩
    have hx:(ex = .normal∨ex = .ret)∧∃ rs,vQ C.P st.T st.H fn.results.toList=some rs∧tO rs=a:=by
     rcases Kk h2 with⟨rfl,h3⟩|⟨rfl,h3⟩
     ·split at h3
      ·rename_i rs hrs;cases h3;exact⟨.inl rfl,rs,hrs,rfl⟩
      ·cases h3
     ·split at h3
      ·rename_i rs hrs;cases h3;exact⟨.inr rfl,rs,hrs,rfl⟩
      ·cases h3
    obtain⟨hx,rs,hrs,e⟩:=hx
    refine AW.mono (show AW _ cd (wX s ex st) 0 _ _ from hA) ?_
    rintro x N T H ⟨rfl,rfl,rfl,rfl⟩
    rcases hx with rfl|rfl
    ·exact key rs hrs e
    ·exact key rs hrs e
   ·cases h
theorem DR {C:sW} {E:tC} {ms:MX} (hC:wD C E) (hms:Jo C ms) (n:Nat) {g:FuncId} {ct:Ct} {t:rf SV} (hp:Nat.blt 0 (ru ct.r).length=true) (h:AB C ms n g (rO ct.a (rM 0 (ru ct.a))) (ru ct.a).length=t) (hs:Bf (ru ct.a).length t=true) :
  yg C.P C.G ⟨g,ct,rH C.Φ ct t⟩:=⟨fun l hl hF=>by
 obtain⟨a,l',xs,h1,h2⟩:=ad4 hp hF
 obtain⟨h3,m,rfl⟩:=EC h1 (by rw[hl];exact hs)
 rw[← h] at h3
 obtain⟨h4,h5⟩:=Be (rF (l++m)) (ru ct.a) 0
 rw[← hl,MI] at h4
 have hf:=Dj (rF (l++m)) h2
 have e:rH C.Φ ct t l=xs.map (X.den (rF (l++m))):=by unfold rH;simp only[h1,h2,zy,id]
 refine alP hC hms h3 (BX h4 h5) ?_
 simp only[e]
 exact MJ hf.1 (GJ _ _)⟩
def rf.th {α:Type} : rf α→rf α
 | .ite _ a _=>a
 | t=>t
def rf.el {α:Type} : rf α→rf α
 | .ite _ _ b=>b
 | t=>t
def rf.nx {α:Type} : rf α→rf α
 | .call _ _ _ _ t=>t
 | t=>t
def rf.hI {α:Type} : rf α→Option X
 | .ite c _ _=>some c
 | _=>none
def rf.hC {α:Type} : rf α→Option (Nat×List X×Nat×Nat)
 | .call f a m n _=>some (f,a,m,n)
 | _=>none
theorem NV {α:Type} {T a b:rf α} {c:X} (h1:T.hI=some c) (ha:T.th=a) (hb:T.el=b):T = .ite c a b:=by
 subst ha hb
 cases T<;>simp_all[rf.hI,rf.th,rf.el]
theorem NW {α:Type} {T a:rf α} {q:Nat×List X×Nat×Nat} (h1:T.hC=some q) (ha:T.nx=a):T = .call q.1 q.2.1 q.2.2.1 q.2.2.2 a:=by
 subst ha
 cases T<;>simp_all[rf.hC,rf.nx]
 subst h1
 exact⟨rfl,rfl,rfl,rfl⟩
end Go.Proofs.YtbembkamcdlhbaaGreatDoor
