import Derived.Test.YtbembkamcdlhbaaGreatDoorZCSc
set_option linter.unusedSimpArgs false
set_option linter.unusedVariables false
namespace Go.Proofs.YtbembkamcdlhbaaGreatDoor
open Go.RowKit
abbrev CX:=Code→Option Nat
abbrev En:=Nat→St→rf (Exit×St)
def here (key:CX) (c:Code):List (Nat×Code):=match key c with|some k=>[(k,c)]|none=>[]
def keyed (key:CX):Code→List (Nat×Code)
 | .seq a b=>here key (.seq a b)++(keyed key a++keyed key b)
 | .cond c a b=>here key (.cond c a b)++(keyed key a++keyed key b)
 | .block id c=>here key (.block id c)++keyed key c
 | .loop c=>here key (.loop c)++keyed key c
 | .scope c=>here key (.scope c)++keyed key c
 | c=>here key c
def uW (C:sV) (key:CX) (H:En):Nat→Code→St→rf (Exit×St)
 | 0,_,_=>.stuck "no fuel"
 | f+1,c,s=>match key c with
  | some k=>H k s
  | none=>match c with
   | .skip=>.leaf (.normal,s)
   | .label _=>.leaf (.normal,s)
   | .exit id=>.leaf (.exit id,s)
   | .ret=>.leaf (.ret,s)
   | .seq a b=>(uW C key H f a s).bind fun r=>match r.1 with | .normal=>uW C key H f b r.2|_=>.leaf r
   | .cond c a b=>match zY s.T c with
    | some (.bool q)=>Aq s.fc q fun bb fc=>match bb with|true=>uW C key H f a { s with fc:=fc } | false=>uW C key H f b { s with fc:=fc }
    | _=>.stuck "cond"
   | .block id c=>(uW C key H f c s).bind fun r=>match r.1 with
    | .exit id'=>match Nat.beq id' id with|true=>.leaf (.normal,r.2)|false=>.leaf r
    | _=>.leaf r
   | .loop c=>(uW C key H f c s).bind fun r=>match r.1 with | .normal=>uW C key H f (.loop c) r.2|_=>.leaf r
   | .scope c=>(uW C key H f c s).bind fun r=>match r.1 with | .goto _=>.stuck "goto" | _=>.leaf r
   | .region _ ops draw=>(zJ C (KF C (exec C f)) ops s.N 0 ops.toList s.T s.H [] s.nv s.dt s.fc).bind fun r=>regionEnd s.T.length ops draw s r
   | _=>.stuck "no such text"
def LZ (C:sV) (key:CX) (H:En) (fuel:Nat) (g:FuncId) (args:List SV) (nv:Nat):rf SV :=
 match C.P.funcs[g]? with
 | none=>.stuck "no such function"
 | some fn=>match fn.body with
  | none=>.stuck "no body"
  | some cd=>match Nat.ble args.length fn.ntmps with
   | true=>(uW C key H fuel cd ⟨0,vo args fn.ntmps,[],nv,[],[]⟩).bind fun r=>match r.1 with
    | .normal=>match wo C.P r.2.T r.2.H fn.results.toList with|some rs=>.leaf (tT rs)|none=>.stuck "results"
    | .ret=>match wo C.P r.2.T r.2.H fn.results.toList with|some rs=>.leaf (tT rs)|none=>.stuck "results"
    | _=>.stuck "end"
   | false=>.stuck "arguments"
def Good (C:sV) (E:tu) (s:rC) (H:En) (p:Nat×Code):Prop:=∀ st ex st',(H p.1 st).path C.Φ s=some (ex,st')→sO s st.fc→Ay C E s p.2 st ex st'
section
variable {C:sV} {E:tu} {s:rC} {key:CX} {H:En}
theorem am2 {c:Code} {k:Nat} (h:∀ p∈here key c,Good C E s H p) (hk:key c=some k):Good C E s H (k,c):=h (k,c) (by unfold here;rw[hk];exact List.mem_cons_self)
theorem TQ {a b:List (Nat×Code)} (h:∀ p∈a++b,Good C E s H p):∀ p∈a,Good C E s H p:=fun p hp=>h p (List.mem_append_left _ hp)
theorem CY {a b:List (Nat×Code)} (h:∀ p∈a++b,Good C E s H p):∀ p∈b,Good C E s H p:=fun p hp=>h p (List.mem_append_right _ hp)
theorem am3 {c:Code} (h:∀ p∈keyed key c,Good C E s H p):∀ p∈here key c,Good C E s H p:=by
 cases c<;>first|exact h|exact TQ h
abbrev L6 (C:sV) (E:tu) (s:rC) (key:CX) (H:En) (c:Code):Prop:=∀ p∈keyed key c,Good C E s H p
theorem abM (hC:wR C E):∀ n:Nat,(∀ c,L6 C E s key H c→∀ st ex st',(uW C key H n c st).path C.Φ s=some (ex,st')→sO s st.fc→Ay C E s c st ex st') ∧
  ∀ c,L6 C E s key H (.loop c)→key (.loop c)=none→∀ st ex st',(uW C key H n (.loop c) st).path C.Φ s=some (ex,st')→sO s st.fc→∀ w0 B0,xP ⟨C.P,C.G,E,w0,B0,st.T.length⟩ c (wZ s ex st') n st.N (rQ.den s st.T) (SH.den s st.H)
 | 0=>⟨fun c hg st ex st' h=>(by cases h),fun c hg hk st ex st' h=>(by cases h)⟩
 | n+1=>by
  obtain⟨ih,ihl⟩:=abM hC n
  have loop:∀ c,L6 C E s key H (.loop c)→key (.loop c)=none→∀ st ex st',(uW C key H (n+1) (.loop c) st).path C.Φ s=some (ex,st')→sO s st.fc→Ay C E s (.loop c) st ex st'∧∀ w0 B0,xP ⟨C.P,C.G,E,w0,B0,st.T.length⟩ c (wZ s ex st') (n+1) st.N (rQ.den s st.T) (SH.den s st.H):=by
   intro c hg hk st ex st' h hf
   simp only[uW,hk] at h
   obtain⟨ex1,st1,h1,h2⟩:=zK h
   have s1:=ih _ (CY hg) _ _ _ h1 hf
   rcases ES h2 with⟨rfl,h3⟩|⟨hx,h3⟩
   ·have s2:=ih _ hg _ _ _ h3 s1.fc
    have hr:∀ w0 B0,xP ⟨C.P,C.G,E,w0,B0,st.T.length⟩ c (wZ s ex st') (n+1) st.N (rQ.den s st.T) (SH.den s st.H):=fun w0 B0=>by
     rw[GA]
     refine(s1.aw w0 B0).mono ?_
     rintro x N T H ⟨rfl,rfl,rfl,rfl⟩
     have:=ihl _ hg hk _ _ _ h3 s1.fc w0 B0
     rw[s1.len] at this
     exact this
    exact⟨s1.trans s2 fun w0 B0=>Gz _ (hr w0 B0),hr⟩
   ·obtain⟨rfl,rfl⟩:ex1=ex∧st1=st':=by cases h3;exact⟨rfl,rfl⟩
    have hr:∀ w0 B0,xP ⟨C.P,C.G,E,w0,B0,st.T.length⟩ c (wZ s ex1 st1) (n+1) st.N (rQ.den s st.T) (SH.den s st.H):=fun w0 B0=>by
     rw[GA]
     refine(s1.aw w0 B0).mono ?_
     rintro x N T H ⟨rfl,rfl,rfl,rfl⟩
     exact ET hx ⟨rfl,rfl,rfl,rfl⟩
    exact⟨⟨fun w0 B0=>Gz _ (hr w0 B0),s1.len,s1.dt,s1.fc⟩,hr⟩
  refine⟨?_,fun c hg hk st ex st' h hf=>(loop c hg hk st ex st' h hf).2⟩
  intro c hg st ex st' h hf
  cases hk:key c with
  | some k =>
   simp only[uW,hk] at h
   exact am2 (am3 hg) hk st ex st' h hf
  | none =>
  cases c with
  | skip=>simp only[uW,hk] at h;cases h;exact⟨fun w0 B0=>Pf ⟨rfl,rfl,rfl,rfl⟩,rfl,fun j hj=>⟨hj,rfl⟩,hf⟩
  | label l=>simp only[uW,hk] at h;cases h;exact⟨fun w0 B0=>Pg ⟨rfl,rfl,rfl,rfl⟩,rfl,fun j hj=>⟨hj,rfl⟩,hf⟩
  | exit id=>simp only[uW,hk] at h;cases h;exact⟨fun w0 B0=>Ph ⟨rfl,rfl,rfl,rfl⟩,rfl,fun j hj=>⟨hj,rfl⟩,hf⟩
  | ret=>simp only[uW,hk] at h;cases h;exact⟨fun w0 B0=>Pi ⟨rfl,rfl,rfl,rfl⟩,rfl,fun j hj=>⟨hj,rfl⟩,hf⟩
  | seq a b =>
   simp only[uW,hk] at h
   obtain⟨ex1,st1,h1,h2⟩:=zK h
   have s1:=ih _ (TQ (CY hg)) _ _ _ h1 hf
   rcases ES h2 with⟨rfl,h3⟩|⟨hx,h3⟩
   ·have s2:=ih _ (CY (CY hg)) _ _ _ h3 s1.fc
    refine s1.trans s2 fun w0 B0=>Gy ((s1.aw w0 B0).mono ?_)
    rintro x N T H ⟨rfl,rfl,rfl,rfl⟩
    have:=s2.aw w0 B0
    rw[s1.len] at this
    exact this
   ·cases h3
    refine⟨fun w0 B0=>Gy ((s1.aw w0 B0).mono ?_),s1.len,s1.dt,s1.fc⟩
    rintro x N T H ⟨rfl,rfl,rfl,rfl⟩
    exact ET hx ⟨rfl,rfl,rfl,rfl⟩
  | cond c a b =>
   simp only[uW,hk] at h
   split at h
   ·rename_i q hq
    have hd:=Du s st.T _ _ hq
    obtain⟨fc',hf',h⟩:=Cf hf h
    simp only[SV.den] at hd
    cases hb:(q.den s != 0) with
    | true =>
     rw[hb] at h hd
     have s1:=ih _ (TQ (CY hg)) _ _ _ h hf'
     exact⟨fun w0 B0=>Pj hd (s1.aw w0 B0),s1.len,s1.dt,s1.fc⟩
    | false =>
     rw[hb] at h hd
     have s1:=ih _ (CY (CY hg)) _ _ _ h hf'
     exact⟨fun w0 B0=>Pk hd (s1.aw w0 B0),s1.len,s1.dt,s1.fc⟩
   ·cases h
  | block id c =>
   simp only[uW,hk] at h
   obtain⟨ex1,st1,h1,h2⟩:=zK h
   have s1:=ih _ (CY hg) _ _ _ h1 hf
   have keyB:ex=Cu id ex1∧st'=st1:=by
    cases ex1 with
    | exit id' =>
     simp only at h2
     simp only[Cu]
     split at h2
     ·rename_i hb;cases h2;rw[if_pos (sQ.1 hb)];exact⟨rfl,rfl⟩
     ·rename_i hb;cases h2
      rw[if_neg (fun e=>by rw[e] at hb;simp at hb)];exact⟨rfl,rfl⟩
    | _=>cases h2;exact⟨rfl,rfl⟩
   obtain⟨rfl,rfl⟩:=keyB
   refine⟨fun w0 B0=>Pm ((s1.aw w0 B0).mono ?_),s1.len,s1.dt,s1.fc⟩
   rintro x N T H ⟨rfl,rfl,rfl,rfl⟩
   cases x with
   | exit id' =>
    simp only[JY,Cu]
    split
    ·exact⟨rfl,rfl,rfl,rfl⟩
    ·exact⟨rfl,rfl,rfl,rfl⟩
   | _=>exact⟨rfl,rfl,rfl,rfl⟩
  | loop c=>exact(loop c hg hk st ex st' h hf).1
  | scope c =>
   simp only[uW,hk] at h
   obtain⟨ex1,st1,h1,h2⟩:=zK h
   have s1:=ih _ (CY hg) _ _ _ h1 hf
   have Jv:(∀ l,ex1 ≠ .goto l)∧ex=ex1∧st'=st1:=by
    cases ex1<;>first|(cases h2;exact⟨fun l e=>(by cases e),rfl,rfl⟩)|cases h2
   obtain⟨hgo,rfl,rfl⟩:=Jv
   exact⟨fun w0 B0=>Po (s1.aw w0 B0) (fun l N T H e=>hgo l e.1.symm),s1.len,s1.dt,s1.fc⟩
  | region id ops draw =>
   simp only[uW,hk] at h
   obtain⟨out,h1,h2⟩:=rf.path_bind_some h
   have dst:∀ o∈ops.toList,∀ t,o.dst=some t→t<st.T.length:=by
    unfold regionEnd at h2
    split at h2
    ·split at h2
     ·rename_i hdr _
      simp only[drawOK,Bool.and_eq_true] at hdr
      exact BX hdr.1.2
     ·cases h2
     ·cases h2
    ·split at h2
     ·rename_i hdr;exact BX hdr
     ·cases h2
   obtain⟨e1,e2,e3,e4⟩:=KP hC (nt:=st.T.length) (fun g args H k nv fc r hr hf=>QV hC (Hr hC n).1 hr hf) ops.toList 0 st.T st.H [] st.nv st.dt st.fc out h1 hf rfl dst
   unfold regionEnd at h2
   cases draw with
   | true =>
    simp only at h2
    split at h2
    ·rename_i hdr htr
     rw[uj] at h2
     cases h2
     refine⟨fun w0 B0=>Pq hC.eq hC.mix hdr (e1 w0 B0 [] _ rfl ?_),e2,e4,e3⟩
     intro trf htf
     refine⟨?_,rfl,rfl,rfl,rfl⟩
     rw[← htf] at htr
     exact KO htr
    ·cases h2
    ·cases h2
   | false =>
    simp only at h2
    split at h2
    ·rename_i hdr
     rw[uj] at h2
     cases h2
     exact⟨fun w0 B0=>Pp hC.eq hdr (e1 w0 B0 [] _ rfl fun trf htf=>⟨rfl,rfl,rfl,rfl⟩),e2,e4,e3⟩
    ·cases h2
  | rangeFunc f ps a b=>simp only[uW,hk] at h;cases h
  | goto l=>simp only[uW,hk] at h;cases h
  | refuse w=>simp only[uW,hk] at h;cases h
end
theorem am4 {C:sV} {E:tu} {s:rC} {key:CX} {H:En} (hC:wR C E) {n:Nat} {g:FuncId} (hg:∀ fn cd,C.P.funcs[g]? = some fn→fn.body=some cd→L6 C E s key H cd) {args:List SV} {nv:Nat} {a:SV} {vs:List Value} {v:Value} (h:(LZ C key H n g args nv).path C.Φ s=some a) (ha:SV.dens s args=vs.map .v) (hv:a.den s = .v v) :
  PC C.P C.G g vs v:=by
 unfold LZ at h
 split at h
 ·cases h
 ·rename_i fn hf
  split at h
  ·cases h
  ·rename_i cd hb
   split at h
   ·rename_i hl
    obtain⟨⟨ex,st⟩,h1,h2⟩:=rf.path_bind_some h
    have sp:=(abM (E:=E) (s:=s) hC n).1 _ (hg fn cd hf hb) _ _ _ h1 (fun x hx=>by cases hx)
    have hlen:(vo args fn.ntmps).length=fn.ntmps:=EP _ _ (Nat.le_of_ble_eq_true hl)
    have hvl:vs.length=args.length:=by have:=congrArg List.length ha;rw[zG,List.length_map] at this;exact this.symm
    refine Pw E hf hb (hC.nm g fn hf (by rw[hb];rfl)) (by rw[hvl];exact hl) fun w=>?_
    have hA:=sp.aw w sG.nil
    simp only[hlen,KJ,ha] at hA
    have keyR:∀ rs,wo C.P st.T st.H fn.results.toList=some rs→tT rs=a→∃ rs',yP C.P C.G (rQ.den s st.T) (SH.den s st.H) fn.results.toList=some rs'∧Ao rs' = .v v:=fun rs hrs e =>
     ⟨_,EQ s hrs,by rw[Ho,e,hv]⟩
    have hx:(ex = .normal∨ex = .ret)∧∃ rs,wo C.P st.T st.H fn.results.toList=some rs∧tT rs=a:=by
     rcases KN h2 with⟨rfl,h3⟩|⟨rfl,h3⟩
     ·split at h3
      ·rename_i rs hrs;cases h3;exact⟨.inl rfl,rs,hrs,rfl⟩
      ·cases h3
     ·split at h3
      ·rename_i rs hrs;cases h3;exact⟨.inr rfl,rs,hrs,rfl⟩
      ·cases h3
    obtain⟨hx,rs,hrs,e⟩:=hx
    refine AW.mono (show AW _ cd (wZ s ex st) 0 _ _ from hA) ?_
    rintro x N T H2 ⟨rfl,rfl,rfl,rfl⟩
    rcases hx with rfl|rfl
    ·exact keyR rs hrs e
    ·exact keyR rs hrs e
   ·cases h
theorem am5 {C:sV} {E:tu} {key:CX} {H:En} (hC:wR C E) {n:Nat} {g:FuncId} (hg:∀ s fn cd,C.P.funcs[g]? = some fn→fn.body=some cd→L6 C E s key H cd) {ct:Ct} {t:rf SV} (h:LZ C key H n g (rM ct.a (rJ 0 (rq ct.a))) (rq ct.a).length=t) (hs:Br (rq ct.a).length t=true)
  (l:List Int) (hl:l.length=(rq ct.a).length) (ho:okF C.Φ ct t l) :
  (rG C.Φ ct t l).length=(rq ct.r).length∧PC C.P C.G g (rV ct.a l) (sW (rV ct.r (rG C.Φ ct t l))):=by
 refine⟨Nh ho,?_⟩
 obtain⟨a,l',xs,h1,h2⟩:=ho
 obtain⟨h3,m,rfl⟩:=EU h1 (by rw[hl];exact hs)
 rw[← h] at h3
 obtain⟨h4,h5⟩:=Bq (rE (l++m)) (rq ct.a) 0
 rw[← hl,Ni] at h4
 have hf:=Dz (rE (l++m)) h2
 refine am4 hC (hg _) h3 (Cn h4 h5) ?_
 have:rG C.Φ ct t l=xs.map (X.den (rE (l++m))):=by unfold rG;simp only[h1,h2,zL,id]
 rw[this]
 exact Nj hf.1 (Hu _ _)
end Go.Proofs.YtbembkamcdlhbaaGreatDoor
