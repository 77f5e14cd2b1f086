import Derived.Test.YtemomocmfggiaaaGreatDoorZDU6
set_option linter.unusedSimpArgs false
set_option linter.unusedVariables false
namespace Go.Proofs.YtemomocmfggiaaaGreatDoor
open Go.RowKit
structure LQ where
 g:FuncId
 es:List (Value×Value)
def RJ (P:Program) (G:wD) (m:LQ):Prop :=
 ∀ w,Gl G w→AC P m.g #[] w fun en w'=>∃ b,en = .returned (.map (some b))∧w.heap.size≤b∧w'.heap[b]? = some (FX m.es)∧vI w w'
structure Pm where
 g:FuncId
 id:Nat
 m:Nat
 t:TypeId
 ki:List VK
 ko:List VK
def zO (ks:List VK) (m:Nat):List VK:=(List.replicate m ks).flatten
def aaP (P:Program) (G:wD) (a:Pm) (F:List Int→List Int):Prop :=
 ∀ l,l.length=(zO a.ki a.m).length→∀ f r,F l=f::r→r.length=(zO a.ko a.m).length→∀ w v,Gl G w→Reads w v a.m (wQ (zO a.ki a.m) l) →
  AC P a.g #[v] w fun en w'=>∃ u,en = .returned (.tuple #[u,.int .u8 (IntKind.u8.wrap f)])∧Reads w' u a.m (wQ (zO a.ko a.m) r)∧vI w w'∧∀ b,Aa u=some b→w.heap.size≤b
structure MX where
 ms:List LQ
 al:List Pm
def RL:List VK→Bool
 | []=>true
 | .int _::l=>RL l
 | .bool::l=>RL l
 | _::_=>false
structure LU (C:xA) (X:MX):Prop where
 ms:∀ m∈X.ms,RJ C.P C.G m
 al:∀ a∈X.al,aaP C.P C.G a (C.Φ a.id)
def Vg:List LQ→FuncId→Option LQ
 | [],_=>none
 | x::l,g=>match Nat.beq x.g g with|true=>some x|false=>Vg l g
theorem asS {L:List LQ} {g:FuncId} {e:LQ} (h:Vg L g=some e):e∈L∧e.g=g:=by
 induction L with
 | nil=>cases h
 | cons x l ih =>
  simp only[Vg] at h
  split at h
  ·rename_i hb;cases h;exact⟨List.mem_cons_self,wR.1 hb⟩
  ·obtain⟨h1,h2⟩:=ih h;exact⟨List.mem_cons_of_mem _ h1,h2⟩
def Vh:List Pm→FuncId→Nat→TypeId→Option Pm
 | [],_,_,_=>none
 | x::l,g,m,t=>match Nat.beq x.g g,Nat.beq x.m m,Nat.beq x.t t with|true,true,true=>some x|_,_,_=>Vh l g m t
theorem asT {L:List Pm} {g:FuncId} {m:Nat} {t:TypeId} {e:Pm} (h:Vh L g m t=some e):e∈L∧e.g=g∧e.m=m∧e.t=t:=by
 induction L with
 | nil=>cases h
 | cons x l ih =>
  simp only[Vh] at h
  split at h
  ·rename_i h1 h2 h3;cases h;exact⟨List.mem_cons_self,wR.1 h1,wR.1 h2,wR.1 h3⟩
  ·obtain⟨h1,h2⟩:=ih h;exact⟨List.mem_cons_of_mem _ h1,h2⟩
def agR (x:Value×Value):Value:=.tuple #[x.1,x.2]
def Vi (es:List (Value×Value)):SO:=⟨[.v (.tuple (es.map agR).toArray)],none⟩
theorem asU (s:vS) (es:List (Value×Value)):(Vi es).den s = .mp es:=by
 refine SO.den_map s rfl ?_
 simp only[Vi,CO,WS,List.map_map]
 congr 1
 have:acu∘agR=id:=by funext x;rfl
 simp[this]
def RN (n:X) (b:Nat) (ks:List VK):SO:=⟨.v (.bool false) :: .int .i64 n :: .v (.int .i64 (.ofNat b))::ks.map (fun k=>Qw k (.lit 0)),none⟩
theorem aaQ:∀ {ks:List VK},RL ks=true→(ks.map (fun k=>Qw k (.lit 0))).map SX=ks
 | [],_=>rfl
 | .int k::l,h=>by rw[List.map_cons,List.map_cons,aaQ (ks:=l) h];rfl
 | .bool::l,h=>by rw[List.map_cons,List.map_cons,aaQ (ks:=l) h];rfl
 | .bit::l,h=>by cases h
 | .nat::l,h=>by cases h
theorem asV (s:vS) (n:X) (b:Nat) {ks:List VK} (hk:RL ks=true):(RN n b ks).den s = .rd (n.den s).toNat (Bq s b ks (n.den s).toNat):=by
 have h:Dn (RN n b ks).c=some ⟨n,b,ks⟩:=by
  simp only[RN,Dn,SY,S9,Ta,aaQ hk]
 exact SO.den_ora s (r:=⟨n,b,ks⟩) rfl rfl h
theorem Vj:∀ (a b:List VK) (p q:List Int),p.length=a.length→wQ (a++b) (p++q)=wQ a p++wQ b q
 | [],b,p,q,h=>by
  have:p = []:=List.length_eq_zero_iff.1 (by simpa using h)
  subst this;rfl
 | k::a,b,[],q,h=>by simp at h
 | k::a,b,n::p,q,h=>by rw[List.cons_append,List.cons_append,wQ,wQ,Vj a b p q (by simpa using h),List.cons_append]
theorem agS (ks:List VK) (m:Nat):zO ks (m+1)=zO ks m++ks:=by
 unfold zO;rw[List.replicate_succ',List.flatten_append];simp
theorem Vk (ks:List VK):∀ m,(zO ks m).length=m*ks.length
 | 0=>by simp[zO]
 | m+1=>by rw[agS,List.length_append,Vk ks m,Nat.add_mul,Nat.one_mul]
theorem agT (s:vS) (b:Nat) (ks:List VK):∀ m,Bq s b ks m=wQ (zO ks m) (Ad s b (m*ks.length))
 | 0=>by simp[Bq,zO,wQ]
 | m+1=>by
  rw[Bq,agT s b ks m,agS,Nat.add_mul,Nat.one_mul,Yd,Vj _ _ _ _ (by rw[HY,Vk])]
def aaR (C:xA) (X:MX) (g:FuncId) (args:List SV) (H:SH) (k nv:Nat) (fc:Facts) (K:Unit→vo CR):vo CR:=match args with
 | [.sl b 0 n m]=>match hget H b with
  | some o=>match o.t with
   | some t=>match Vh X.al g n t with
    | some a=>match KF (zO a.ki a.m) o.c,RL a.ko with
     | some xs,true=>yO (Nat.succ nv) fun nv1=>yO (a.m*a.ko.length) fun q=>.call a.id xs nv (Nat.succ q) (yO (nv1+q) fun nv'=>.leaf ⟨.tup [.hd k,.int .u8 (.var (.int .u8) nv)],[b],[(k,RN (.lit (.ofNat a.m)) nv1 a.ko)],nv',fc⟩)
     | _,_=>.stuck "a slice's cells"
    | none=>K ()
   | none=>K ()
  | none=>K ()
 | _=>K ()
def aaS (C:xA) (X:MX) (ex:Code→St→vo (Exit×St)) (g:FuncId) (args:List SV) (H:SH) (k nv:Nat) (fc:Facts):vo CR:=match Vg X.ms g with
 | some m=>match args with
  | []=>.leaf ⟨.hd k,[],[(k,Vi m.es)],nv,fc⟩
  | _=>.stuck "a map's arguments"
 | none=>aaR C X g args H k nv fc fun _=>QD C ex g args H k nv fc
section
variable {C:xA} {E:xK} {s:vS} {ms:MX}
theorem asW (hX:LU C ms) {g:FuncId} {args:List SV} {H:SH} {k nv:Nat} {fc:Facts} {K:Unit→vo CR} {r:CR} (h:(aaR C ms g args H k nv fc K).path C.Φ s=some r) (hfc:xC s fc) (hK:(K ()).path C.Φ s=some r→Dq C s g args H k r):Dq C s g args H k r:=by
 unfold aaR at h
 split at h
 ·rename_i b n m
  split at h
  ·rename_i o ho
   split at h
   ·rename_i t ht
    split at h
    ·rename_i a ha
     obtain⟨a1,a2,a3,a4⟩:=asT ha
     split at h
     ·rename_i xs hxs hpk
      rw[yw,yw] at h
      simp only[vo.path] at h
      split at h
      ·rename_i hce
       rw[yw] at h
       cases h
       obtain⟨f1,f2⟩:=QE s hxs
       have hB:SH.den s H b=some (.own ((wQ (zO a.ki a.m) (xs.map (X.den s))).map .v) t):=by rw[SH.den_get ho ht,f1]
       refine⟨fun j hj=>?_,fun x hx=>?_,hfc,fun w0 B0=>?_⟩
       ·simp at hj;subst hj;rw[hB];simp
       ·simp[wY] at hx;subst hx;exact .inl rfl
       ·intro H' e w hag hk _ _ R
        have hb':H' b=some (.own ((wQ (zO a.ki a.m) (xs.map (X.den s))).map .v) t):=by rw[hag b (by simp)];exact hB
        have hown:=R.own b _ t hb'
        rw[Ab] at hown
        have hrd:Reads w (.slice (some ⟨e.blk b,0,none⟩) n m) a.m (wQ (zO a.ki a.m) (xs.map (X.den s))):=.inr ⟨e.blk b,0,m,by rw[a3],R.lt hb',fun j x hj=>by simp[World.cell?,hown,hj]⟩
        unfold Ky at hce
        rw[Ad] at hce
        have hcall:=hX.al a a1 (xs.map (X.den s)) (by rw[List.length_map];exact f2) _ _ hce.symm (by rw[HY,Vk]) w _ R.gl hrd
        rw[a2] at hcall
        have hv:AV.vals e (SV.dens s [.sl b 0 n m]) = [Value.slice (some ⟨e.blk b,0,none⟩) n m]:=rfl
        rw[hv]
        refine hcall.mono ?_
        rintro en w' ⟨u,rfl,hru,hbel,hfr⟩
        have R2:=R.below hbel
        have hef:wY s [(k,RN (.lit (.ofNat a.m)) (nv+1) a.ko)] = [(k,.rd a.m (Bq s (nv+1) a.ko a.m))]:=by
         simp only[wY,List.map_cons,List.map_nil,asV s _ _ hpk,X.den];rfl
        rw[show Nat.succ nv=nv+1 from rfl,hef]
        have hsl:Eo u=u:=by
         rcases hru with⟨h1,_⟩|⟨b',o',cap,h1,_⟩<;>rw[h1]<;>rfl
        refine⟨e.setHnd k u,?_,?_,Env.setHnd_on hk e _,fun j hj=>?_⟩
        ·have h2:((SV.tup [.hd k,.int .u8 (.var (.int .u8) nv)]).den s).val (e.setHnd k u) = .tuple #[u,.int .u8 (IntKind.u8.wrap (s nv))]:=by
          simp only[SV.den,SV.dens]
          show(Bn [.hd k,.v _]).val _=_
          simp[Bn,yf,AV.val,AV.vals,Env.setHnd,hsl,X.den,VK.norm]
         rw[h2]
        ·rw[vE.puts,vE.puts]
         refine R2.handle hk (by rw[agT];exact hru) (fun j c t' hj he=>?_) (fun b2 hb2=>.inl (Nat.le_trans R.size (hfr b2 hb2)))
         have h3:=R.lt hj
         have:=hfr _ he
         omega
        ·have:j=k:=by
          have h4:=SV.den_refs s (.tup [.hd k,.int .u8 (.var (.int .u8) nv)]) hj
          simpa [SV.refs,SV.refss] using h4
         subst this;rw[vE.puts,vE.puts,vE.put_same];simp
      ·cases h
     ·cases h
    ·exact hK h
   ·exact hK h
  ·exact hK h
 ·exact hK h
theorem asX (hC:zU C E) (hms:LU C ms) {exf:Code→St→vo (Exit×St)} (hex:QJ C E s exf) {g:FuncId} {args:List SV} {H:SH} {k nv:Nat} {fc:Facts} {r:CR} (h:(aaS C ms exf g args H k nv fc).path C.Φ s=some r) (hfc:xC s fc):Dq C s g args H k r:=by
 unfold aaS at h
 split at h
 ·rename_i m hm
  obtain⟨h1,h2⟩:=asS hm
  split at h
  ·cases h
   refine⟨fun b hb=>by simp at hb,fun x hx=>by simp[wY] at hx;subst hx;exact .inl rfl,hfc,fun w0 B0=>?_⟩
   intro H' e w _ hk _ _ R
   subst h2
   refine(hms.ms m h1 w R.gl).mono ?_
   rintro en w' ⟨b,rfl,hb,ho,hbel⟩
   have hef:wY s [(k,Vi m.es)] = [(k,.mp m.es)]:=by simp only[wY,List.map_cons,List.map_nil,asU]
   refine⟨e.setHnd k (.map (some b)),by simp[SV.den,AV.val,Env.setHnd,Eo],?_,Env.setHnd_on hk e _,fun j hj=>?_⟩
   ·rw[hef];exact R.adoptM hbel hk hb ho
   ·simp[SV.den,AV.refs] at hj;subst hj;rw[hef,vE.puts,vE.puts,vE.put_same];simp
  ·cases h
 ·exact asW hms h hfc fun h=>XZ hC hex h hfc
end
def zx (C:xA) (ms:MX):Nat→Code→St→vo (Exit×St)
 | 0,_,_=>.stuck "no fuel"
 | f+1,c,s=>match c with
  | .skip=>.leaf (.normal,s)
  | .label _=>.leaf (.normal,s)
  | .exit id=>.leaf (.exit id,s)
  | .ret=>.leaf (.ret,s)
  | .seq a b=>(zx C ms f a s).bind fun r=>match r.1 with | .normal=>zx C ms f b r.2|_=>.leaf r
  | .cond c a b=>match EB s.T c with
   | some (.bool q)=>Fg s.fc q fun bb fc=>match bb with|true=>zx C ms f a { s with fc:=fc } | false=>zx C ms f b { s with fc:=fc }
   | _=>.stuck "cond"
  | .block id c=>(zx C ms f c s).bind fun r=>match r.1 with
   | .exit id'=>match Nat.beq id' id with|true=>.leaf (.normal,r.2)|false=>.leaf r
   | _=>.leaf r
  | .loop c=>(zx C ms f c s).bind fun r=>match r.1 with | .normal=>zx C ms f (.loop c) r.2|_=>.leaf r
  | .scope c=>(zx C ms f c s).bind fun r=>match r.1 with | .goto _=>.stuck "goto" | _=>.leaf r
  | .region _ ops draw=>(DY C (aaS C ms (zx C ms f)) ops s.N 0 ops.toList s.T s.H [] s.nv s.dt s.fc).bind fun r=>regionEnd s.T.length ops draw s r
  | _=>.stuck "no such text"
def De (C:xA) (ms:MX) (fuel:Nat) (g:FuncId) (args:List SV) (nv:Nat):vo SV :=
 match C.P.funcs[g]? with
 | none=>.stuck "no such function"
 | some fn=>match fn.body with
  | none=>.stuck "no body"
  | some cd=>match Nat.ble args.length fn.ntmps with
   | true=>(zx C ms fuel cd ⟨0,zF args fn.ntmps,[],nv,[],[]⟩).bind fun r=>match r.1 with
    | .normal=>match Af C.P r.2.T r.2.H fn.results.toList with|some rs=>.leaf (resS rs)|none=>.stuck "results"
    | .ret=>match Af C.P r.2.T r.2.H fn.results.toList with|some rs=>.leaf (resS rs)|none=>.stuck "results"
    | _=>.stuck "end"
   | false=>.stuck "arguments"
section
variable {C:xA} {E:xK} {s:vS} {ms:MX}
theorem agU (hC:zU C E) (hms:LU C ms):∀ n:Nat,QJ C E s (zx C ms n) ∧
  ∀ c st ex st',(zx C ms n (.loop c) st).path C.Φ s=some (ex,st')→xC s st.fc→∀ w0 B0,BI ⟨C.P,C.G,E,w0,B0,st.T.length⟩ c (AL s ex st') n st.N (wE.den s st.T) (SH.den s st.H)
 | 0=>⟨fun c st ex st' h=>(by cases h),fun c st ex st' h=>(by cases h)⟩
 | n+1=>by
  obtain⟨ih,ihl⟩:=agU hC hms n
  have loop:∀ c st ex st',(zx C ms (n+1) (.loop c) st).path C.Φ s=some (ex,st')→xC s st.fc→Fs C E s (.loop c) st ex st'∧∀ w0 B0,BI ⟨C.P,C.G,E,w0,B0,st.T.length⟩ c (AL s ex st') (n+1) st.N (wE.den s st.T) (SH.den s st.H):=by
   intro c st ex st' h hf
   simp only[zx] at h
   obtain⟨ex1,st1,h1,h2⟩:=DZ h
   have s1:=ih _ _ _ _ h1 hf
   rcases KP h2 with⟨rfl,h3⟩|⟨hx,h3⟩
   ·have s2:=ih _ _ _ _ h3 s1.fc
    have hr:∀ w0 B0,BI ⟨C.P,C.G,E,w0,B0,st.T.length⟩ c (AL s ex st') (n+1) st.N (wE.den s st.T) (SH.den s st.H):=fun w0 B0=>by
     rw[MC]
     refine(s1.aw w0 B0).mono ?_
     rintro x N T H ⟨rfl,rfl,rfl,rfl⟩
     have:=ihl _ _ _ _ h3 s1.fc w0 B0
     rw[s1.len] at this
     exact this
    exact⟨s1.trans s2 fun w0 B0=>MB _ (hr w0 B0),hr⟩
   ·obtain⟨rfl,rfl⟩:ex1=ex∧st1=st':=by cases h3;exact⟨rfl,rfl⟩
    have hr:∀ w0 B0,BI ⟨C.P,C.G,E,w0,B0,st.T.length⟩ c (AL s ex1 st1) (n+1) st.N (wE.den s st.T) (SH.den s st.H):=fun w0 B0=>by
     rw[MC]
     refine(s1.aw w0 B0).mono ?_
     rintro x N T H ⟨rfl,rfl,rfl,rfl⟩
     exact KQ hx ⟨rfl,rfl,rfl,rfl⟩
    exact⟨⟨fun w0 B0=>MB _ (hr w0 B0),s1.len,s1.dt,s1.fc⟩,hr⟩
  refine⟨?_,fun c st ex st' h hf=>(loop c st ex st' h hf).2⟩
  intro c st ex st' h hf
  cases c with
  | skip=>simp only[zx] at h;cases h;exact⟨fun w0 B0=>V8 ⟨rfl,rfl,rfl,rfl⟩,rfl,fun j hj=>⟨hj,rfl⟩,hf⟩
  | label l=>simp only[zx] at h;cases h;exact⟨fun w0 B0=>V9 ⟨rfl,rfl,rfl,rfl⟩,rfl,fun j hj=>⟨hj,rfl⟩,hf⟩
  | exit id=>simp only[zx] at h;cases h;exact⟨fun w0 B0=>Wd ⟨rfl,rfl,rfl,rfl⟩,rfl,fun j hj=>⟨hj,rfl⟩,hf⟩
  | ret=>simp only[zx] at h;cases h;exact⟨fun w0 B0=>We ⟨rfl,rfl,rfl,rfl⟩,rfl,fun j hj=>⟨hj,rfl⟩,hf⟩
  | seq a b =>
   simp only[zx] at h
   obtain⟨ex1,st1,h1,h2⟩:=DZ h
   have s1:=ih _ _ _ _ h1 hf
   rcases KP h2 with⟨rfl,h3⟩|⟨hx,h3⟩
   ·have s2:=ih _ _ _ _ h3 s1.fc
    refine s1.trans s2 fun w0 B0=>Mx ((s1.aw w0 B0).mono ?_)
    rintro x N T H ⟨rfl,rfl,rfl,rfl⟩
    have:=s2.aw w0 B0
    rw[s1.len] at this
    exact this
   ·cases h3
    refine⟨fun w0 B0=>Mx ((s1.aw w0 B0).mono ?_),s1.len,s1.dt,s1.fc⟩
    rintro x N T H ⟨rfl,rfl,rfl,rfl⟩
    exact KQ hx ⟨rfl,rfl,rfl,rfl⟩
  | cond c a b =>
   simp only[zx] at h
   split at h
   ·rename_i q hq
    have hd:=Jo s st.T _ _ hq
    obtain⟨fc',hf',h⟩:=HZ hf h
    simp only[SV.den] at hd
    cases hb:(q.den s != 0) with
    | true =>
     rw[hb] at h hd
     have s1:=ih _ _ _ _ h hf'
     exact⟨fun w0 B0=>Wh hd (s1.aw w0 B0),s1.len,s1.dt,s1.fc⟩
    | false =>
     rw[hb] at h hd
     have s1:=ih _ _ _ _ h hf'
     exact⟨fun w0 B0=>Wi hd (s1.aw w0 B0),s1.len,s1.dt,s1.fc⟩
   ·cases h
  | block id c =>
   simp only[zx] at h
   obtain⟨ex1,st1,h1,h2⟩:=DZ h
   have s1:=ih _ _ _ _ h1 hf
   have key:ex=Ii id ex1∧st'=st1:=by
    cases ex1 with
    | exit id' =>
     simp only at h2
     simp only[Ii]
     split at h2
     ·rename_i hb;cases h2;rw[if_pos (wR.1 hb)];exact⟨rfl,rfl⟩
     ·rename_i hb;cases h2
      rw[if_neg (fun e=>by rw[e] at hb;simp at hb)];exact⟨rfl,rfl⟩
    | _=>cases h2;exact⟨rfl,rfl⟩
   obtain⟨rfl,rfl⟩:=key
   refine⟨fun w0 B0=>Wj ((s1.aw w0 B0).mono ?_),s1.len,s1.dt,s1.fc⟩
   rintro x N T H ⟨rfl,rfl,rfl,rfl⟩
   cases x with
   | exit id' =>
    simp only[P8,Ii]
    split
    ·exact⟨rfl,rfl,rfl,rfl⟩
    ·exact⟨rfl,rfl,rfl,rfl⟩
   | _=>exact⟨rfl,rfl,rfl,rfl⟩
  | loop c=>exact(loop c st ex st' h hf).1
  | scope c =>
   simp only[zx] at h
   obtain⟨ex1,st1,h1,h2⟩:=DZ h
   have s1:=ih _ _ _ _ h1 hf
   have key:(∀ l,ex1 ≠ .goto l)∧ex=ex1∧st'=st1:=by
    cases ex1<;>first|(cases h2;exact⟨fun l e=>(by cases e),rfl,rfl⟩)|cases h2
   obtain⟨hg,rfl,rfl⟩:=key
   exact⟨fun w0 B0=>Wm (s1.aw w0 B0) (fun l N T H e=>hg l e.1.symm),s1.len,s1.dt,s1.fc⟩
  | region id ops draw =>
   simp only[zx] at h
   obtain⟨out,h1,h2⟩:=vo.path_bind_some h
   have dst:∀ o∈ops.toList,∀ t,o.dst=some t→t<st.T.length:=by
    unfold regionEnd at h2
    split at h2
    ·split at h2
     ·rename_i hdr _
      simp only[drawOK,Bool.and_eq_true] at hdr
      exact Hq hdr.1.2
     ·cases h2
     ·cases h2
    ·split at h2
     ·rename_i hdr;exact Hq hdr
     ·cases h2
   obtain⟨e1,e2,e3,e4⟩:=QM hC (nt:=st.T.length) (fun g args H k nv fc r hr hf=>asX hC hms ih hr hf) ops.toList 0 st.T st.H [] st.nv st.dt st.fc out h1 hf rfl dst
   unfold regionEnd at h2
   cases draw with
   | true =>
    simp only at h2
    split at h2
    ·rename_i hdr htr
     rw[yw] at h2
     cases h2
     refine⟨fun w0 B0=>Wo hC.eq hC.mix hdr (e1 w0 B0 [] _ rfl ?_),e2,e4,e3⟩
     intro trf htf
     refine⟨?_,rfl,rfl,rfl,rfl⟩
     rw[← htf] at htr
     exact QL htr
    ·cases h2
    ·cases h2
   | false =>
    simp only at h2
    split at h2
    ·rename_i hdr
     rw[yw] at h2
     cases h2
     exact⟨fun w0 B0=>Wn hC.eq hdr (e1 w0 B0 [] _ rfl fun trf htf=>⟨rfl,rfl,rfl,rfl⟩),e2,e4,e3⟩
    ·cases h2
  | rangeFunc f ps a b=>simp only[zx] at h;cases h
  | goto l=>simp only[zx] at h;cases h
  | refuse w=>simp only[zx] at h;cases h
end
theorem asY {C:xA} {E:xK} {s:vS} {ms:MX} (hC:zU C E) (hms:LU C ms) {n:Nat} {g:FuncId} {args:List SV} {nv:Nat} {a:SV} {vs:List Value} {v:Value} (h:(De C ms n g args nv).path C.Φ s=some a) (ha:SV.dens s args=vs.map .v) (hv:a.den s = .v v) :
  PC C.P C.G g vs v:=by
 unfold De at h
 split at h
 ·cases h
 ·rename_i fn hf
  split at h
  ·cases h
  ·rename_i cd hb
   split at h
   ·rename_i hl
    obtain⟨⟨ex,st⟩,h1,h2⟩:=vo.path_bind_some h
    have sp:=(agU (E:=E) (s:=s) hC hms n).1 _ _ _ _ h1 (fun x hx=>by cases hx)
    have hlen:(zF args fn.ntmps).length=fn.ntmps:=KM _ _ (Nat.le_of_ble_eq_true hl)
    have hvl:vs.length=args.length:=by have:=congrArg List.length ha;rw[DU,List.length_map] at this;exact this.symm
    refine Wt E hf hb (hC.nm g fn hf (by rw[hb];rfl)) (by rw[hvl];exact hl) fun w=>?_
    have hA:=sp.aw w wX.nil
    simp only[hlen,QH,ha] at hA
    have key:∀ rs,Af C.P st.T st.H fn.results.toList=some rs→resS rs=a→∃ rs',CB C.P C.G (wE.den s st.T) (SH.den s st.H) fn.results.toList=some rs'∧Fa rs' = .v v:=fun rs hrs e =>
     ⟨_,KN s hrs,by rw[M8,e,hv]⟩
    have hx:(ex = .normal∨ex = .ret)∧∃ rs,Af C.P st.T st.H fn.results.toList=some rs∧resS rs=a:=by
     rcases QK h2 with⟨rfl,h3⟩|⟨rfl,h3⟩
     ·split at h3
      ·rename_i rs hrs;cases h3;exact⟨.inl rfl,rs,hrs,rfl⟩
      ·cases h3
     ·split at h3
      ·rename_i rs hrs;cases h3;exact⟨.inr rfl,rs,hrs,rfl⟩
      ·cases h3
    obtain⟨hx,rs,hrs,e⟩:=hx
    refine AW.mono (show AW _ cd (AL s ex st) 0 _ _ from hA) ?_
    rintro x N T H ⟨rfl,rfl,rfl,rfl⟩
    rcases hx with rfl|rfl
    ·exact key rs hrs e
    ·exact key rs hrs e
   ·cases h
theorem FV {C:xA} {E:xK} {ms:MX} (hC:zU C E) (hms:LU C ms) (n:Nat) {g:FuncId} {ct:Ct} {t:vo SV} (hp:Nat.blt 0 (vD ct.r).length=true) (h:De C ms n g (ww ct.a (wm 0 (vD ct.a))) (vD ct.a).length=t) (hs:Gf (vD ct.a).length t=true) :
  AQ C.P C.G ⟨g,ct,vU C.Φ ct t⟩:=⟨fun l hl hF=>by
 obtain⟨a,l',xs,h1,h2⟩:=alm hp hF
 obtain⟨h3,m,rfl⟩:=KR h1 (by rw[hl];exact hs)
 rw[← h] at h3
 obtain⟨h4,h5⟩:=Gc (vT (l++m)) (vD ct.a) 0
 rw[← hl,TG] at h4
 have hf:=Jt (vT (l++m)) h2
 have e:vU C.Φ ct t l=xs.map (X.den (vT (l++m))):=by unfold vU;simp only[h1,h2,Fu,id]
 refine asY hC hms h3 (Ib h4 h5) ?_
 simp only[e]
 exact TH hf.1 (Nc _ _)⟩
end Go.Proofs.YtemomocmfggiaaaGreatDoor
