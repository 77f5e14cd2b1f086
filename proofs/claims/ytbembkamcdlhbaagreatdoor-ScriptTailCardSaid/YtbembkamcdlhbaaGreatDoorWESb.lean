import Derived.Test.YtbembkamcdlhbaaGreatDoorZDSb
set_option linter.unusedSimpArgs false
set_option linter.unusedVariables false
namespace Go.Proofs.YtbembkamcdlhbaaGreatDoor
open Go.RowKit
structure FM where
 g:FuncId
 es:List (Value×Value)
def Lt (P:Program) (G:rX) (m:FM):Prop :=
 ∀ w,Gl G w→wW P m.g #[] w fun en w'=>∃ b,en = .returned (.map (some b))∧w.heap.size≤b∧w'.heap[b]? = some (AL m.es)∧ry w w'
structure Ju where
 g:FuncId
 id:Nat
 m:Nat
 t:TypeId
 ki:List VK
 ko:List VK
def yT (ks:List VK) (m:Nat):List VK:=(List.replicate m ks).flatten
def alu (P:Program) (G:rX) (a:Ju) (F:List Int→List Int):Prop :=
 ∀ l,l.length=(yT a.ki a.m).length→∀ f r,F l=f::r→r.length=(yT a.ko a.m).length→∀ w v,Gl G w→Reads w v a.m (sW (yT a.ki a.m) l) →
  wW P a.g #[v] w fun en w'=>∃ u,en = .returned (.tuple #[u,.int .u8 (IntKind.u8.wrap f)])∧Reads w' u a.m (sW (yT a.ko a.m) r)∧ry w w'∧∀ b,wV u=some b→w.heap.size≤b
structure MX where
 ms:List FM
 al:List Ju
def Lu:List VK→Bool
 | []=>true
 | .int _::l=>Lu l
 | .bool::l=>Lu l
 | _::_=>false
structure Jv (C:tC) (X:MX):Prop where
 ms:∀ m∈X.ms,Lt C.P C.G m
 al:∀ a∈X.al,alu C.P C.G a (C.Φ a.id)
def Oe:List FM→FuncId→Option FM
 | [],_=>none
 | x::l,g=>match Nat.beq x.g g with|true=>some x|false=>Oe l g
theorem alv {L:List FM} {g:FuncId} {e:FM} (h:Oe L g=some e):e∈L∧e.g=g:=by
 induction L with
 | nil=>cases h
 | cons x l ih =>
  simp only[Oe] at h
  split at h
  ·rename_i hb;cases h;exact⟨List.mem_cons_self,tq.1 hb⟩
  ·obtain⟨h1,h2⟩:=ih h;exact⟨List.mem_cons_of_mem _ h1,h2⟩
def Og:List Ju→FuncId→Nat→TypeId→Option Ju
 | [],_,_,_=>none
 | x::l,g,m,t=>match Nat.beq x.g g,Nat.beq x.m m,Nat.beq x.t t with|true,true,true=>some x|_,_,_=>Og l g m t
theorem alx {L:List Ju} {g:FuncId} {m:Nat} {t:TypeId} {e:Ju} (h:Og L g m t=some e):e∈L∧e.g=g∧e.m=m∧e.t=t:=by
 induction L with
 | nil=>cases h
 | cons x l ih =>
  simp only[Og] at h
  split at h
  ·rename_i h1 h2 h3;cases h;exact⟨List.mem_cons_self,tq.1 h1,tq.1 h2,tq.1 h3⟩
  ·obtain⟨h1,h2⟩:=ih h;exact⟨List.mem_cons_of_mem _ h1,h2⟩
def aa7 (x:Value×Value):Value:=.tuple #[x.1,x.2]
def Oh (es:List (Value×Value)):SO:=⟨[.v (.tuple (es.map aa7).toArray)],none⟩
theorem aly (s:rM) (es:List (Value×Value)):(Oh es).den s = .mp es:=by
 refine SO.den_map s rfl ?_
 simp only[Oh,yN,PM,List.map_map]
 congr 1
 have:UR∘aa7=id:=by funext x;rfl
 simp[this]
def Lv (n:X) (b:Nat) (ks:List VK):SO:=⟨.v (.bool false) :: .int .i64 n :: .v (.int .i64 (.ofNat b))::ks.map (fun k=>Kb k (.lit 0)),none⟩
theorem Tq:∀ {ks:List VK},Lu ks=true→(ks.map (fun k=>Kb k (.lit 0))).map Mw=ks
 | [],_=>rfl
 | .int k::l,h=>by rw[List.map_cons,List.map_cons,Tq (ks:=l) h];rfl
 | .bool::l,h=>by rw[List.map_cons,List.map_cons,Tq (ks:=l) h];rfl
 | .bit::l,h=>by cases h
 | .nat::l,h=>by cases h
theorem alz (s:rM) (n:X) (b:Nat) {ks:List VK} (hk:Lu ks=true):(Lv n b ks).den s = .rd (n.den s).toNat (xG s b ks (n.den s).toNat):=by
 have h:za (Lv n b ks).c=some ⟨n,b,ks⟩:=by
  simp only[Lv,za,Mx,MB,MC,Tq hk]
 exact SO.den_ora s (r:=⟨n,b,ks⟩) rfl rfl h
theorem aa8:∀ (a b:List VK) (p q:List Int),p.length=a.length→sW (a++b) (p++q)=sW a p++sW b q
 | [],b,p,q,h=>by
  have:p = []:=List.length_eq_zero_iff.1 (by simpa using h)
  subst this;rfl
 | k::a,b,[],q,h=>by simp at h
 | k::a,b,n::p,q,h=>by rw[List.cons_append,List.cons_append,sW,sW,aa8 a b p q (by simpa using h),List.cons_append]
theorem aa9 (ks:List VK) (m:Nat):yT ks (m+1)=yT ks m++ks:=by
 unfold yT;rw[List.replicate_succ',List.flatten_append];simp
theorem Tt (ks:List VK):∀ m,(yT ks m).length=m*ks.length
 | 0=>by simp[yT]
 | m+1=>by rw[aa9,List.length_append,Tt ks m,Nat.add_mul,Nat.one_mul]
theorem aba (s:rM) (b:Nat) (ks:List VK):∀ m,xG s b ks m=sW (yT ks m) (vR s b (m*ks.length))
 | 0=>by simp[xG,yT,sW]
 | m+1=>by
  rw[xG,aba s b ks m,aa9,Nat.add_mul,Nat.one_mul,QS,aa8 _ _ _ _ (by rw[BP,Tt])]
def Tu (C:tC) (X:MX) (g:FuncId) (args:List SV) (H:SH) (k nv:Nat) (fc:Facts) (K:Unit→ru CR):ru CR:=match args with
 | [.sl b 0 n m]=>match hget H b with
  | some o=>match o.t with
   | some t=>match Og X.al g n t with
    | some a=>match Ev (yT a.ki a.m) o.c,Lu a.ko with
     | some xs,true=>uG (Nat.succ nv) fun nv1=>uG (a.m*a.ko.length) fun q=>.call a.id xs nv (Nat.succ q) (uG (nv1+q) fun nv'=>.leaf ⟨.tup [.hd k,.int .u8 (.var (.int .u8) nv)],[b],[(k,Lv (.lit (.ofNat a.m)) nv1 a.ko)],nv',fc⟩)
     | _,_=>.stuck "a slice's cells"
    | none=>K ()
   | none=>K ()
  | none=>K ()
 | _=>K ()
def Tv (C:tC) (X:MX) (ex:Code→St→ru (Exit×St)) (g:FuncId) (args:List SV) (H:SH) (k nv:Nat) (fc:Facts):ru CR:=match Oe X.ms g with
 | some m=>match args with
  | []=>.leaf ⟨.hd k,[],[(k,Oh m.es)],nv,fc⟩
  | _=>.stuck "a map's arguments"
 | none=>Tu C X g args H k nv fc fun _=>Kk C ex g args H k nv fc
section
variable {C:tC} {E:tK} {s:rM} {ms:MX}
theorem alA (hX:Jv C ms) {g:FuncId} {args:List SV} {H:SH} {k nv:Nat} {fc:Facts} {K:Unit→ru CR} {r:CR} (h:(Tu C ms g args H k nv fc K).path C.Φ s=some r) (hfc:tF s fc) (hK:(K ()).path C.Φ s=some r→ze C s g args H k r):ze C s g args H k r:=by
 unfold Tu at h
 split at h
 ·rename_i b n m
  split at h
  ·rename_i o ho
   split at h
   ·rename_i t ht
    split at h
    ·rename_i a ha
     obtain⟨a1,a2,a3,a4⟩:=alx ha
     split at h
     ·rename_i xs hxs hpk
      rw[uq,uq] at h
      simp only[ru.path] at h
      split at h
      ·rename_i hce
       rw[uq] at h
       cases h
       obtain⟨f1,f2⟩:=Kl s hxs
       have hB:SH.den s H b=some (.own ((sW (yT a.ki a.m) (xs.map (X.den s))).map .v) t):=by rw[SH.den_get ho ht,f1]
       refine⟨fun j hj=>?_,fun x hx=>?_,hfc,fun w0 B0=>?_⟩
       ·simp at hj;subst hj;rw[hB];simp
       ·simp[sO] at hx;subst hx;exact .inl rfl
       ·intro H' e w hag hk _ _ R
        have hb':H' b=some (.own ((sW (yT a.ki a.m) (xs.map (X.den s))).map .v) t):=by rw[hag b (by simp)];exact hB
        have hown:=R.own b _ t hb'
        rw[vO] at hown
        have hrd:Reads w (.slice (some ⟨e.blk b,0,none⟩) n m) a.m (sW (yT a.ki a.m) (xs.map (X.den s))):=.inr ⟨e.blk b,0,m,by rw[a3],R.lt hb',fun j x hj=>by simp[World.cell?,hown,hj]⟩
        unfold Eo at hce
        rw[vR] at hce
        have hcall:=hX.al a a1 (xs.map (X.den s)) (by rw[List.length_map];exact f2) _ _ hce.symm (by rw[BP,Tt]) w _ R.gl hrd
        rw[a2] at hcall
        have hv:AV.vals e (SV.dens s [.sl b 0 n m]) = [Value.slice (some ⟨e.blk b,0,none⟩) n m]:=rfl
        rw[hv]
        refine hcall.mono ?_
        rintro en w' ⟨u,rfl,hru,hbel,hfr⟩
        have R2:=R.below hbel
        have hef:sO s [(k,Lv (.lit (.ofNat a.m)) (nv+1) a.ko)] = [(k,.rd a.m (xG s (nv+1) a.ko a.m))]:=by
         simp only[sO,List.map_cons,List.map_nil,alz s _ _ hpk,X.den];rfl
        rw[show Nat.succ nv=nv+1 from rfl,hef]
        have hsl:zK u=u:=by
         rcases hru with⟨h1,_⟩|⟨b',o',cap,h1,_⟩<;>rw[h1]<;>rfl
        refine⟨e.setHnd k u,?_,?_,Env.setHnd_on hk e _,fun j hj=>?_⟩
        ·have h2:((SV.tup [.hd k,.int .u8 (.var (.int .u8) nv)]).den s).val (e.setHnd k u) = .tuple #[u,.int .u8 (IntKind.u8.wrap (s nv))]:=by
          simp only[SV.den,SV.dens]
          show(xA [.hd k,.v _]).val _=_
          simp[xA,uh,AV.val,AV.vals,Env.setHnd,hsl,X.den,VK.norm]
         rw[h2]
        ·rw[rG.puts,rG.puts]
         refine R2.handle hk (by rw[aba];exact hru) (fun j c t' hj he=>?_) (fun b2 hb2=>.inl (Nat.le_trans R.size (hfr b2 hb2)))
         have h3:=R.lt hj
         have:=hfr _ he
         omega
        ·have:j=k:=by
          have h4:=SV.den_refs s (.tup [.hd k,.int .u8 (.var (.int .u8) nv)]) hj
          simpa [SV.refs,SV.refss] using h4
         subst this;rw[rG.puts,rG.puts,rG.put_same];simp
      ·cases h
     ·cases h
    ·exact hK h
   ·exact hK h
  ·exact hK h
 ·exact hK h
theorem alB (hC:wH C E) (hms:Jv C ms) {exf:Code→St→ru (Exit×St)} (hex:Kr C E s exf) {g:FuncId} {args:List SV} {H:SH} {k nv:Nat} {fc:Facts} {r:CR} (h:(Tv C ms exf g args H k nv fc).path C.Φ s=some r) (hfc:tF s fc):ze C s g args H k r:=by
 unfold Tv at h
 split at h
 ·rename_i m hm
  obtain⟨h1,h2⟩:=alv hm
  split at h
  ·cases h
   refine⟨fun b hb=>by simp at hb,fun x hx=>by simp[sO] at hx;subst hx;exact .inl rfl,hfc,fun w0 B0=>?_⟩
   intro H' e w _ hk _ _ R
   subst h2
   refine(hms.ms m h1 w R.gl).mono ?_
   rintro en w' ⟨b,rfl,hb,ho,hbel⟩
   have hef:sO s [(k,Oh m.es)] = [(k,.mp m.es)]:=by simp only[sO,List.map_cons,List.map_nil,aly]
   refine⟨e.setHnd k (.map (some b)),by simp[SV.den,AV.val,Env.setHnd,zK],?_,Env.setHnd_on hk e _,fun j hj=>?_⟩
   ·rw[hef];exact R.adoptM hbel hk hb ho
   ·simp[SV.den,AV.refs] at hj;subst hj;rw[hef,rG.puts,rG.puts,rG.put_same];simp
  ·cases h
 ·exact alA hms h hfc fun h=>QK hC hex h hfc
end
def uX (C:tC) (ms:MX):Nat→Code→St→ru (Exit×St)
 | 0,_,_=>.stuck "no fuel"
 | f+1,c,s=>match c with
  | .skip=>.leaf (.normal,s)
  | .label _=>.leaf (.normal,s)
  | .exit id=>.leaf (.exit id,s)
  | .ret=>.leaf (.ret,s)
  | .seq a b=>(uX C ms f a s).bind fun r=>match r.1 with | .normal=>uX C ms f b r.2|_=>.leaf r
  | .cond c a b=>match zS s.T c with
   | some (.bool q)=>Ai s.fc q fun bb fc=>match bb with|true=>uX C ms f a { s with fc:=fc } | false=>uX C ms f b { s with fc:=fc }
   | _=>.stuck "cond"
  | .block id c=>(uX C ms f c s).bind fun r=>match r.1 with
   | .exit id'=>match Nat.beq id' id with|true=>.leaf (.normal,r.2)|false=>.leaf r
   | _=>.leaf r
  | .loop c=>(uX C ms f c s).bind fun r=>match r.1 with | .normal=>uX C ms f (.loop c) r.2|_=>.leaf r
  | .scope c=>(uX C ms f c s).bind fun r=>match r.1 with | .goto _=>.stuck "goto" | _=>.leaf r
  | .region _ ops draw=>(zA C (Tv C ms (uX C ms f)) ops s.N 0 ops.toList s.T s.H [] s.nv s.dt s.fc).bind fun r=>regionEnd s.T.length ops draw s r
  | _=>.stuck "no such text"
def AJ (C:tC) (ms:MX) (fuel:Nat) (g:FuncId) (args:List SV) (nv:Nat):ru SV :=
 match C.P.funcs[g]? with
 | none=>.stuck "no such function"
 | some fn=>match fn.body with
  | none=>.stuck "no body"
  | some cd=>match Nat.ble args.length fn.ntmps with
   | true=>(uX C ms fuel cd ⟨0,vv args fn.ntmps,[],nv,[],[]⟩).bind fun r=>match r.1 with
    | .normal=>match vU C.P r.2.T r.2.H fn.results.toList with|some rs=>.leaf (tY rs)|none=>.stuck "results"
    | .ret=>match vU C.P r.2.T r.2.H fn.results.toList with|some rs=>.leaf (tY rs)|none=>.stuck "results"
    | _=>.stuck "end"
   | false=>.stuck "arguments"
section
variable {C:tC} {E:tK} {s:rM} {ms:MX}
theorem abb (hC:wH C E) (hms:Jv C ms):∀ n:Nat,Kr C E s (uX C ms n) ∧
  ∀ c st ex st',(uX C ms n (.loop c) st).path C.Φ s=some (ex,st')→tF s st.fc→∀ w0 B0,xN ⟨C.P,C.G,E,w0,B0,st.T.length⟩ c (wZ s ex st') n st.N (rZ.den s st.T) (SH.den s st.H)
 | 0=>⟨fun c st ex st' h=>(by cases h),fun c st ex st' h=>(by cases h)⟩
 | n+1=>by
  obtain⟨ih,ihl⟩:=abb hC hms n
  have loop:∀ c st ex st',(uX C ms (n+1) (.loop c) st).path C.Φ s=some (ex,st')→tF s st.fc→Ao C E s (.loop c) st ex st'∧∀ w0 B0,xN ⟨C.P,C.G,E,w0,B0,st.T.length⟩ c (wZ s ex st') (n+1) st.N (rZ.den s st.T) (SH.den s st.H):=by
   intro c st ex st' h hf
   simp only[uX] at h
   obtain⟨ul,st1,h1,h2⟩:=zB h
   have s1:=ih _ _ _ _ h1 hf
   rcases EE h2 with⟨rfl,h3⟩|⟨hx,h3⟩
   ·have s2:=ih _ _ _ _ h3 s1.fc
    have hr:∀ w0 B0,xN ⟨C.P,C.G,E,w0,B0,st.T.length⟩ c (wZ s ex st') (n+1) st.N (rZ.den s st.T) (SH.den s st.H):=fun w0 B0=>by
     rw[Gg]
     refine(s1.aw w0 B0).mono ?_
     rintro x N T H ⟨rfl,rfl,rfl,rfl⟩
     have:=ihl _ _ _ _ h3 s1.fc w0 B0
     rw[s1.len] at this
     exact this
    exact⟨s1.trans s2 fun w0 B0=>Gf _ (hr w0 B0),hr⟩
   ·obtain⟨rfl,rfl⟩:ul=ex∧st1=st':=by cases h3;exact⟨rfl,rfl⟩
    have hr:∀ w0 B0,xN ⟨C.P,C.G,E,w0,B0,st.T.length⟩ c (wZ s ul st1) (n+1) st.N (rZ.den s st.T) (SH.den s st.H):=fun w0 B0=>by
     rw[Gg]
     refine(s1.aw w0 B0).mono ?_
     rintro x N T H ⟨rfl,rfl,rfl,rfl⟩
     exact EF hx ⟨rfl,rfl,rfl,rfl⟩
    exact⟨⟨fun w0 B0=>Gf _ (hr w0 B0),s1.len,s1.dt,s1.fc⟩,hr⟩
  refine⟨?_,fun c st ex st' h hf=>(loop c st ex st' h hf).2⟩
  intro c st ex st' h hf
  cases c with
  | skip=>simp only[uX] at h;cases h;exact⟨fun w0 B0=>OZ ⟨rfl,rfl,rfl,rfl⟩,rfl,fun j hj=>⟨hj,rfl⟩,hf⟩
  | label l=>simp only[uX] at h;cases h;exact⟨fun w0 B0=>O0 ⟨rfl,rfl,rfl,rfl⟩,rfl,fun j hj=>⟨hj,rfl⟩,hf⟩
  | exit id=>simp only[uX] at h;cases h;exact⟨fun w0 B0=>O1 ⟨rfl,rfl,rfl,rfl⟩,rfl,fun j hj=>⟨hj,rfl⟩,hf⟩
  | ret=>simp only[uX] at h;cases h;exact⟨fun w0 B0=>O3 ⟨rfl,rfl,rfl,rfl⟩,rfl,fun j hj=>⟨hj,rfl⟩,hf⟩
  | seq a b =>
   simp only[uX] at h
   obtain⟨ul,st1,h1,h2⟩:=zB h
   have s1:=ih _ _ _ _ h1 hf
   rcases EE h2 with⟨rfl,h3⟩|⟨hx,h3⟩
   ·have s2:=ih _ _ _ _ h3 s1.fc
    refine s1.trans s2 fun w0 B0=>Gd ((s1.aw w0 B0).mono ?_)
    rintro x N T H ⟨rfl,rfl,rfl,rfl⟩
    have:=s2.aw w0 B0
    rw[s1.len] at this
    exact this
   ·cases h3
    refine⟨fun w0 B0=>Gd ((s1.aw w0 B0).mono ?_),s1.len,s1.dt,s1.fc⟩
    rintro x N T H ⟨rfl,rfl,rfl,rfl⟩
    exact EF hx ⟨rfl,rfl,rfl,rfl⟩
  | cond c a b =>
   simp only[uX] at h
   split at h
   ·rename_i q hq
    have hd:=Dg s st.T _ _ hq
    obtain⟨fc',hf',h⟩:=BQ hf h
    simp only[SV.den] at hd
    cases hb:(q.den s != 0) with
    | true =>
     rw[hb] at h hd
     have s1:=ih _ _ _ _ h hf'
     exact⟨fun w0 B0=>O4 hd (s1.aw w0 B0),s1.len,s1.dt,s1.fc⟩
    | false =>
     rw[hb] at h hd
     have s1:=ih _ _ _ _ h hf'
     exact⟨fun w0 B0=>O5 hd (s1.aw w0 B0),s1.len,s1.dt,s1.fc⟩
   ·cases h
  | block id c =>
   simp only[uX] at h
   obtain⟨ul,st1,h1,h2⟩:=zB h
   have s1:=ih _ _ _ _ h1 hf
   have key:ex=Cg id ul∧st'=st1:=by
    cases ul with
    | exit id' =>
     simp only at h2
     simp only[Cg]
     split at h2
     ·rename_i hb;cases h2;rw[if_pos (tq.1 hb)];exact⟨rfl,rfl⟩
     ·rename_i hb;cases h2
      rw[if_neg (fun e=>by rw[e] at hb;simp at hb)];exact⟨rfl,rfl⟩
    | _=>cases h2;exact⟨rfl,rfl⟩
   obtain⟨rfl,rfl⟩:=key
   refine⟨fun w0 B0=>O6 ((s1.aw w0 B0).mono ?_),s1.len,s1.dt,s1.fc⟩
   rintro x N T H ⟨rfl,rfl,rfl,rfl⟩
   cases x with
   | exit id' =>
    simp only[JF,Cg]
    split
    ·exact⟨rfl,rfl,rfl,rfl⟩
    ·exact⟨rfl,rfl,rfl,rfl⟩
   | _=>exact⟨rfl,rfl,rfl,rfl⟩
  | loop c=>exact(loop c st ex st' h hf).1
  | scope c =>
   simp only[uX] at h
   obtain⟨ul,st1,h1,h2⟩:=zB h
   have s1:=ih _ _ _ _ h1 hf
   have key:(∀ l,ul ≠ .goto l)∧ex=ul∧st'=st1:=by
    cases ul<;>first|(cases h2;exact⟨fun l e=>(by cases e),rfl,rfl⟩)|cases h2
   obtain⟨hg,rfl,rfl⟩:=key
   exact⟨fun w0 B0=>O8 (s1.aw w0 B0) (fun l N T H e=>hg l e.1.symm),s1.len,s1.dt,s1.fc⟩
  | region id ops draw =>
   simp only[uX] at h
   obtain⟨out,h1,h2⟩:=ru.path_bind_some h
   have dst:∀ o∈ops.toList,∀ t,o.dst=some t→t<st.T.length:=by
    unfold regionEnd at h2
    split at h2
    ·split at h2
     ·rename_i hdr _
      simp only[drawOK,Bool.and_eq_true] at hdr
      exact BK hdr.1.2
     ·cases h2
     ·cases h2
    ·split at h2
     ·rename_i hdr;exact BK hdr
     ·cases h2
   obtain⟨e1,e2,e3,e4⟩:=Kv hC (nt:=st.T.length) (fun g args H k nv fc r hr hf=>alB hC hms ih hr hf) ops.toList 0 st.T st.H [] st.nv st.dt st.fc out h1 hf rfl dst
   unfold regionEnd at h2
   cases draw with
   | true =>
    simp only at h2
    split at h2
    ·rename_i hdr htr
     rw[uq] at h2
     cases h2
     refine⟨fun w0 B0=>Pb hC.eq hC.mix hdr (e1 w0 B0 [] _ rfl ?_),e2,e4,e3⟩
     intro trf htf
     refine⟨?_,rfl,rfl,rfl,rfl⟩
     rw[← htf] at htr
     exact Ku htr
    ·cases h2
    ·cases h2
   | false =>
    simp only at h2
    split at h2
    ·rename_i hdr
     rw[uq] at h2
     cases h2
     exact⟨fun w0 B0=>O9 hC.eq hdr (e1 w0 B0 [] _ rfl fun trf htf=>⟨rfl,rfl,rfl,rfl⟩),e2,e4,e3⟩
    ·cases h2
  | rangeFunc f ps a b=>simp only[uX] at h;cases h
  | goto l=>simp only[uX] at h;cases h
  | refuse w=>simp only[uX] at h;cases h
end
theorem alC {C:tC} {E:tK} {s:rM} {ms:MX} (hC:wH C E) (hms:Jv C ms) {n:Nat} {g:FuncId} {args:List SV} {nv:Nat} {a:SV} {vs:List Value} {v:Value} (h:(AJ C ms n g args nv).path C.Φ s=some a) (ha:SV.dens s args=vs.map .v) (hv:a.den s = .v v) :
  PC C.P C.G g vs v:=by
 unfold AJ at h
 split at h
 ·cases h
 ·rename_i fn hf
  split at h
  ·cases h
  ·rename_i cd hb
   split at h
   ·rename_i hl
    obtain⟨⟨ex,st⟩,h1,h2⟩:=ru.path_bind_some h
    have sp:=(abb (E:=E) (s:=s) hC hms n).1 _ _ _ _ h1 (fun x hx=>by cases hx)
    have hlen:(vv args fn.ntmps).length=fn.ntmps:=EB _ _ (Nat.le_of_ble_eq_true hl)
    have hvl:vs.length=args.length:=by have:=congrArg List.length ha;rw[zx,List.length_map] at this;exact this.symm
    refine Pi E hf hb (hC.nm g fn hf (by rw[hb];rfl)) (by rw[hvl];exact hl) fun w=>?_
    have hA:=sp.aw w sN.nil
    simp only[hlen,Ko,ha] at hA
    have key:∀ rs,vU C.P st.T st.H fn.results.toList=some rs→tY rs=a→∃ rs',yJ C.P C.G (rZ.den s st.T) (SH.den s st.H) fn.results.toList=some rs'∧Ag rs' = .v v:=fun rs hrs e =>
     ⟨_,EC s hrs,by rw[GN,e,hv]⟩
    have hx:(ex = .normal∨ex = .ret)∧∃ rs,vU C.P st.T st.H fn.results.toList=some rs∧tY rs=a:=by
     rcases Kt h2 with⟨rfl,h3⟩|⟨rfl,h3⟩
     ·split at h3
      ·rename_i rs hrs;cases h3;exact⟨.inl rfl,rs,hrs,rfl⟩
      ·cases h3
     ·split at h3
      ·rename_i rs hrs;cases h3;exact⟨.inr rfl,rs,hrs,rfl⟩
      ·cases h3
    obtain⟨hx,rs,hrs,e⟩:=hx
    refine AW.mono (show AW _ cd (wZ s ex st) 0 _ _ from hA) ?_
    rintro x N T H ⟨rfl,rfl,rfl,rfl⟩
    rcases hx with rfl|rfl
    ·exact key rs hrs e
    ·exact key rs hrs e
   ·cases h
theorem DU {C:tC} {E:tK} {ms:MX} (hC:wH C E) (hms:Jv C ms) (n:Nat) {g:FuncId} {ct:Ct} {t:ru SV} (hp:Nat.blt 0 (rE ct.r).length=true) (h:AJ C ms n g (rV ct.a (rU 0 (rE ct.a))) (rE ct.a).length=t) (hs:Bh (rE ct.a).length t=true) :
  yn C.P C.G ⟨g,ct,rR C.Φ ct t⟩:=⟨fun l hl hF=>by
 obtain⟨a,l',xs,h1,h2⟩:=ael hp hF
 obtain⟨h3,m,rfl⟩:=EG h1 (by rw[hl];exact hs)
 rw[← h] at h3
 obtain⟨h4,h5⟩:=Bg (rP (l++m)) (rE ct.a) 0
 rw[← hl,M3] at h4
 have hf:=Dl (rP (l++m)) h2
 have e:rR C.Φ ct t l=xs.map (X.den (rP (l++m))):=by unfold rR;simp only[h1,h2,zC,id]
 refine alC hC hms h3 (Ca h4 h5) ?_
 simp only[e]
 exact M4 hf.1 (GU _ _)⟩
def ru.th {α:Type} : ru α→ru α
 | .ite _ a _=>a
 | t=>t
def ru.el {α:Type} : ru α→ru α
 | .ite _ _ b=>b
 | t=>t
def ru.nx {α:Type} : ru α→ru α
 | .call _ _ _ _ t=>t
 | t=>t
def ru.hI {α:Type} : ru α→Option X
 | .ite c _ _=>some c
 | _=>none
def ru.hC {α:Type} : ru α→Option (Nat×List X×Nat×Nat)
 | .call f a m n _=>some (f,a,m,n)
 | _=>none
theorem Oi {α:Type} {T a b:ru α} {c:X} (h1:T.hI=some c) (ha:T.th=a) (hb:T.el=b):T = .ite c a b:=by
 subst ha hb
 cases T<;>simp_all[ru.hI,ru.th,ru.el]
theorem Oj {α:Type} {T a:ru α} {q:Nat×List X×Nat×Nat} (h1:T.hC=some q) (ha:T.nx=a):T = .call q.1 q.2.1 q.2.2.1 q.2.2.2 a:=by
 subst ha
 cases T<;>simp_all[ru.hC,ru.nx]
 subst h1
 exact⟨rfl,rfl,rfl,rfl⟩
end Go.Proofs.YtbembkamcdlhbaaGreatDoor
