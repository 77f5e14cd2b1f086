import Derived.Test.YtbembkamcdlhbaaGreatDoorZCSb
set_option linter.unusedSimpArgs false
set_option linter.unusedVariables false
namespace Go.Proofs.YtbembkamcdlhbaaGreatDoor
open Go.RowKit
abbrev CE:=Code→Option Nat
abbrev DW:=Nat→St→ru (Exit×St)
def here (key:CE) (c:Code):List (Nat×Code):=match key c with|some k=>[(k,c)]|none=>[]
def keyed (key:CE):Code→List (Nat×Code)
 | .seq a b=>here key (.seq a b)++(keyed key a++keyed key b)
 | .cond c a b=>here key (.cond c a b)++(keyed key a++keyed key b)
 | .block id c=>here key (.block id c)++keyed key c
 | .loop c=>here key (.loop c)++keyed key c
 | .scope c=>here key (.scope c)++keyed key c
 | c=>here key c
def uY (C:tC) (key:CE) (H:DW):Nat→Code→St→ru (Exit×St)
 | 0,_,_=>.stuck "no fuel"
 | f+1,c,s=>match key c with
  | some k=>H k s
  | none=>match c with
   | .skip=>.leaf (.normal,s)
   | .label _=>.leaf (.normal,s)
   | .exit id=>.leaf (.exit id,s)
   | .ret=>.leaf (.ret,s)
   | .seq a b=>(uY C key H f a s).bind fun r=>match r.1 with | .normal=>uY C key H f b r.2|_=>.leaf r
   | .cond c a b=>match zS s.T c with
    | some (.bool q)=>Ai s.fc q fun bb fc=>match bb with|true=>uY C key H f a { s with fc:=fc } | false=>uY C key H f b { s with fc:=fc }
    | _=>.stuck "cond"
   | .block id c=>(uY C key H f c s).bind fun r=>match r.1 with
    | .exit id'=>match Nat.beq id' id with|true=>.leaf (.normal,r.2)|false=>.leaf r
    | _=>.leaf r
   | .loop c=>(uY C key H f c s).bind fun r=>match r.1 with | .normal=>uY C key H f (.loop c) r.2|_=>.leaf r
   | .scope c=>(uY C key H f c s).bind fun r=>match r.1 with | .goto _=>.stuck "goto" | _=>.leaf r
   | .region _ ops draw=>(zA C (Kk C (exec C f)) ops s.N 0 ops.toList s.T s.H [] s.nv s.dt s.fc).bind fun r=>regionEnd s.T.length ops draw s r
   | _=>.stuck "no such text"
def LD (C:tC) (key:CE) (H:DW) (fuel:Nat) (g:FuncId) (args:List SV) (nv:Nat):ru SV :=
 match C.P.funcs[g]? with
 | none=>.stuck "no such function"
 | some fn=>match fn.body with
  | none=>.stuck "no body"
  | some cd=>match Nat.ble args.length fn.ntmps with
   | true=>(uY C key H fuel cd ⟨0,vv args fn.ntmps,[],nv,[],[]⟩).bind fun r=>match r.1 with
    | .normal=>match vU C.P r.2.T r.2.H fn.results.toList with|some rs=>.leaf (tY rs)|none=>.stuck "results"
    | .ret=>match vU C.P r.2.T r.2.H fn.results.toList with|some rs=>.leaf (tY rs)|none=>.stuck "results"
    | _=>.stuck "end"
   | false=>.stuck "arguments"
def Good (C:tC) (E:tK) (s:rM) (H:DW) (p:Nat×Code):Prop:=∀ st ex st',(H p.1 st).path C.Φ s=some (ex,st')→tF s st.fc→Ao C E s p.2 st ex st'
section
variable {C:tC} {E:tK} {s:rM} {key:CE} {H:DW}
theorem alS {c:Code} {k:Nat} (h:∀ p∈here key c,Good C E s H p) (hk:key c=some k):Good C E s H (k,c):=h (k,c) (by unfold here;rw[hk];exact List.mem_cons_self)
theorem Ty {a b:List (Nat×Code)} (h:∀ p∈a++b,Good C E s H p):∀ p∈a,Good C E s H p:=fun p hp=>h p (List.mem_append_left _ hp)
theorem CG {a b:List (Nat×Code)} (h:∀ p∈a++b,Good C E s H p):∀ p∈b,Good C E s H p:=fun p hp=>h p (List.mem_append_right _ hp)
theorem alT {c:Code} (h:∀ p∈keyed key c,Good C E s H p):∀ p∈here key c,Good C E s H p:=by
 cases c<;>first|exact h|exact Ty h
abbrev LF (C:tC) (E:tK) (s:rM) (key:CE) (H:DW) (c:Code):Prop:=∀ p∈keyed key c,Good C E s H p
theorem abp (hC:wH C E):∀ n:Nat,(∀ c,LF C E s key H c→∀ st ex st',(uY C key H n c st).path C.Φ s=some (ex,st')→tF s st.fc→Ao C E s c st ex st') ∧
  ∀ c,LF C E s key H (.loop c)→key (.loop c)=none→∀ st ex st',(uY C key H n (.loop c) st).path C.Φ s=some (ex,st')→tF s st.fc→∀ w0 B0,xN ⟨C.P,C.G,E,w0,B0,st.T.length⟩ c (wZ s ex st') n st.N (rZ.den s st.T) (SH.den s st.H)
 | 0=>⟨fun c hg st ex st' h=>(by cases h),fun c hg hk st ex st' h=>(by cases h)⟩
 | n+1=>by
  obtain⟨ih,ihl⟩:=abp hC n
  have loop:∀ c,LF C E s key H (.loop c)→key (.loop c)=none→∀ st ex st',(uY C key H (n+1) (.loop c) st).path C.Φ s=some (ex,st')→tF s st.fc→Ao C E s (.loop c) st ex st'∧∀ w0 B0,xN ⟨C.P,C.G,E,w0,B0,st.T.length⟩ c (wZ s ex st') (n+1) st.N (rZ.den s st.T) (SH.den s st.H):=by
   intro c hg hk st ex st' h hf
   simp only[uY,hk] at h
   obtain⟨ul,st1,h1,h2⟩:=zB h
   have s1:=ih _ (CG hg) _ _ _ h1 hf
   rcases EE h2 with⟨rfl,h3⟩|⟨hx,h3⟩
   ·have s2:=ih _ hg _ _ _ h3 s1.fc
    have hr:∀ w0 B0,xN ⟨C.P,C.G,E,w0,B0,st.T.length⟩ c (wZ s ex st') (n+1) st.N (rZ.den s st.T) (SH.den s st.H):=fun w0 B0=>by
     rw[Gg]
     refine(s1.aw w0 B0).mono ?_
     rintro x N T H ⟨rfl,rfl,rfl,rfl⟩
     have:=ihl _ hg hk _ _ _ h3 s1.fc w0 B0
     rw[s1.len] at this
     exact this
    exact⟨s1.trans s2 fun w0 B0=>Gf _ (hr w0 B0),hr⟩
   ·obtain⟨rfl,rfl⟩:ul=ex∧st1=st':=by cases h3;exact⟨rfl,rfl⟩
    have hr:∀ w0 B0,xN ⟨C.P,C.G,E,w0,B0,st.T.length⟩ c (wZ s ul st1) (n+1) st.N (rZ.den s st.T) (SH.den s st.H):=fun w0 B0=>by
     rw[Gg]
     refine(s1.aw w0 B0).mono ?_
     rintro x N T H ⟨rfl,rfl,rfl,rfl⟩
     exact EF hx ⟨rfl,rfl,rfl,rfl⟩
    exact⟨⟨fun w0 B0=>Gf _ (hr w0 B0),s1.len,s1.dt,s1.fc⟩,hr⟩
  refine⟨?_,fun c hg hk st ex st' h hf=>(loop c hg hk st ex st' h hf).2⟩
  intro c hg st ex st' h hf
  cases hk:key c with
  | some k =>
   simp only[uY,hk] at h
   exact alS (alT hg) hk st ex st' h hf
  | none =>
  cases c with
  | skip=>simp only[uY,hk] at h;cases h;exact⟨fun w0 B0=>OZ ⟨rfl,rfl,rfl,rfl⟩,rfl,fun j hj=>⟨hj,rfl⟩,hf⟩
  | label l=>simp only[uY,hk] at h;cases h;exact⟨fun w0 B0=>O0 ⟨rfl,rfl,rfl,rfl⟩,rfl,fun j hj=>⟨hj,rfl⟩,hf⟩
  | exit id=>simp only[uY,hk] at h;cases h;exact⟨fun w0 B0=>O1 ⟨rfl,rfl,rfl,rfl⟩,rfl,fun j hj=>⟨hj,rfl⟩,hf⟩
  | ret=>simp only[uY,hk] at h;cases h;exact⟨fun w0 B0=>O3 ⟨rfl,rfl,rfl,rfl⟩,rfl,fun j hj=>⟨hj,rfl⟩,hf⟩
  | seq a b =>
   simp only[uY,hk] at h
   obtain⟨ul,st1,h1,h2⟩:=zB h
   have s1:=ih _ (Ty (CG hg)) _ _ _ h1 hf
   rcases EE h2 with⟨rfl,h3⟩|⟨hx,h3⟩
   ·have s2:=ih _ (CG (CG hg)) _ _ _ h3 s1.fc
    refine s1.trans s2 fun w0 B0=>Gd ((s1.aw w0 B0).mono ?_)
    rintro x N T H ⟨rfl,rfl,rfl,rfl⟩
    have:=s2.aw w0 B0
    rw[s1.len] at this
    exact this
   ·cases h3
    refine⟨fun w0 B0=>Gd ((s1.aw w0 B0).mono ?_),s1.len,s1.dt,s1.fc⟩
    rintro x N T H ⟨rfl,rfl,rfl,rfl⟩
    exact EF hx ⟨rfl,rfl,rfl,rfl⟩
  | cond c a b =>
   simp only[uY,hk] at h
   split at h
   ·rename_i q hq
    have hd:=Dg s st.T _ _ hq
    obtain⟨fc',hf',h⟩:=BQ hf h
    simp only[SV.den] at hd
    cases hb:(q.den s != 0) with
    | true =>
     rw[hb] at h hd
     have s1:=ih _ (Ty (CG hg)) _ _ _ h hf'
     exact⟨fun w0 B0=>O4 hd (s1.aw w0 B0),s1.len,s1.dt,s1.fc⟩
    | false =>
     rw[hb] at h hd
     have s1:=ih _ (CG (CG hg)) _ _ _ h hf'
     exact⟨fun w0 B0=>O5 hd (s1.aw w0 B0),s1.len,s1.dt,s1.fc⟩
   ·cases h
  | block id c =>
   simp only[uY,hk] at h
   obtain⟨ul,st1,h1,h2⟩:=zB h
   have s1:=ih _ (CG hg) _ _ _ h1 hf
   have keyB:ex=Cg id ul∧st'=st1:=by
    cases ul with
    | exit id' =>
     simp only at h2
     simp only[Cg]
     split at h2
     ·rename_i hb;cases h2;rw[if_pos (tq.1 hb)];exact⟨rfl,rfl⟩
     ·rename_i hb;cases h2
      rw[if_neg (fun e=>by rw[e] at hb;simp at hb)];exact⟨rfl,rfl⟩
    | _=>cases h2;exact⟨rfl,rfl⟩
   obtain⟨rfl,rfl⟩:=keyB
   refine⟨fun w0 B0=>O6 ((s1.aw w0 B0).mono ?_),s1.len,s1.dt,s1.fc⟩
   rintro x N T H ⟨rfl,rfl,rfl,rfl⟩
   cases x with
   | exit id' =>
    simp only[JF,Cg]
    split
    ·exact⟨rfl,rfl,rfl,rfl⟩
    ·exact⟨rfl,rfl,rfl,rfl⟩
   | _=>exact⟨rfl,rfl,rfl,rfl⟩
  | loop c=>exact(loop c hg hk st ex st' h hf).1
  | scope c =>
   simp only[uY,hk] at h
   obtain⟨ul,st1,h1,h2⟩:=zB h
   have s1:=ih _ (CG hg) _ _ _ h1 hf
   have Jg:(∀ l,ul ≠ .goto l)∧ex=ul∧st'=st1:=by
    cases ul<;>first|(cases h2;exact⟨fun l e=>(by cases e),rfl,rfl⟩)|cases h2
   obtain⟨hgo,rfl,rfl⟩:=Jg
   exact⟨fun w0 B0=>O8 (s1.aw w0 B0) (fun l N T H e=>hgo l e.1.symm),s1.len,s1.dt,s1.fc⟩
  | region id ops draw =>
   simp only[uY,hk] at h
   obtain⟨out,h1,h2⟩:=ru.path_bind_some h
   have dst:∀ o∈ops.toList,∀ t,o.dst=some t→t<st.T.length:=by
    unfold regionEnd at h2
    split at h2
    ·split at h2
     ·rename_i hdr _
      simp only[drawOK,Bool.and_eq_true] at hdr
      exact BK hdr.1.2
     ·cases h2
     ·cases h2
    ·split at h2
     ·rename_i hdr;exact BK hdr
     ·cases h2
   obtain⟨e1,e2,e3,e4⟩:=Kv hC (nt:=st.T.length) (fun g args H k nv fc r hr hf=>QK hC (GR hC n).1 hr hf) ops.toList 0 st.T st.H [] st.nv st.dt st.fc out h1 hf rfl dst
   unfold regionEnd at h2
   cases draw with
   | true =>
    simp only at h2
    split at h2
    ·rename_i hdr htr
     rw[uq] at h2
     cases h2
     refine⟨fun w0 B0=>Pb hC.eq hC.mix hdr (e1 w0 B0 [] _ rfl ?_),e2,e4,e3⟩
     intro trf htf
     refine⟨?_,rfl,rfl,rfl,rfl⟩
     rw[← htf] at htr
     exact Ku htr
    ·cases h2
    ·cases h2
   | false =>
    simp only at h2
    split at h2
    ·rename_i hdr
     rw[uq] at h2
     cases h2
     exact⟨fun w0 B0=>O9 hC.eq hdr (e1 w0 B0 [] _ rfl fun trf htf=>⟨rfl,rfl,rfl,rfl⟩),e2,e4,e3⟩
    ·cases h2
  | rangeFunc f ps a b=>simp only[uY,hk] at h;cases h
  | goto l=>simp only[uY,hk] at h;cases h
  | refuse w=>simp only[uY,hk] at h;cases h
end
theorem alU {C:tC} {E:tK} {s:rM} {key:CE} {H:DW} (hC:wH C E) {n:Nat} {g:FuncId} (hg:∀ fn cd,C.P.funcs[g]? = some fn→fn.body=some cd→LF C E s key H cd) {args:List SV} {nv:Nat} {a:SV} {vs:List Value} {v:Value} (h:(LD C key H n g args nv).path C.Φ s=some a) (ha:SV.dens s args=vs.map .v) (hv:a.den s = .v v) :
  PC C.P C.G g vs v:=by
 unfold LD at h
 split at h
 ·cases h
 ·rename_i fn hf
  split at h
  ·cases h
  ·rename_i cd hb
   split at h
   ·rename_i hl
    obtain⟨⟨ex,st⟩,h1,h2⟩:=ru.path_bind_some h
    have sp:=(abp (E:=E) (s:=s) hC n).1 _ (hg fn cd hf hb) _ _ _ h1 (fun x hx=>by cases hx)
    have hlen:(vv args fn.ntmps).length=fn.ntmps:=EB _ _ (Nat.le_of_ble_eq_true hl)
    have hvl:vs.length=args.length:=by have:=congrArg List.length ha;rw[zx,List.length_map] at this;exact this.symm
    refine Pi E hf hb (hC.nm g fn hf (by rw[hb];rfl)) (by rw[hvl];exact hl) fun w=>?_
    have hA:=sp.aw w sN.nil
    simp only[hlen,Ko,ha] at hA
    have keyR:∀ rs,vU C.P st.T st.H fn.results.toList=some rs→tY rs=a→∃ rs',yJ C.P C.G (rZ.den s st.T) (SH.den s st.H) fn.results.toList=some rs'∧Ag rs' = .v v:=fun rs hrs e =>
     ⟨_,EC s hrs,by rw[GN,e,hv]⟩
    have hx:(ex = .normal∨ex = .ret)∧∃ rs,vU C.P st.T st.H fn.results.toList=some rs∧tY rs=a:=by
     rcases Kt h2 with⟨rfl,h3⟩|⟨rfl,h3⟩
     ·split at h3
      ·rename_i rs hrs;cases h3;exact⟨.inl rfl,rs,hrs,rfl⟩
      ·cases h3
     ·split at h3
      ·rename_i rs hrs;cases h3;exact⟨.inr rfl,rs,hrs,rfl⟩
      ·cases h3
    obtain⟨hx,rs,hrs,e⟩:=hx
    refine AW.mono (show AW _ cd (wZ s ex st) 0 _ _ from hA) ?_
    rintro x N T H2 ⟨rfl,rfl,rfl,rfl⟩
    rcases hx with rfl|rfl
    ·exact keyR rs hrs e
    ·exact keyR rs hrs e
   ·cases h
theorem alV {C:tC} {E:tK} {key:CE} {H:DW} (hC:wH C E) {n:Nat} {g:FuncId} (hg:∀ s fn cd,C.P.funcs[g]? = some fn→fn.body=some cd→LF C E s key H cd) {ct:Ct} {t:ru SV} (h:LD C key H n g (rV ct.a (rU 0 (rE ct.a))) (rE ct.a).length=t) (hs:Bh (rE ct.a).length t=true)
  (l:List Int) (hl:l.length=(rE ct.a).length) (ho:okF C.Φ ct t l) :
  (rR C.Φ ct t l).length=(rE ct.r).length∧PC C.P C.G g (su ct.a l) (tH (su ct.r (rR C.Φ ct t l))):=by
 refine⟨MZ ho,?_⟩
 obtain⟨a,l',xs,h1,h2⟩:=ho
 obtain⟨h3,m,rfl⟩:=EG h1 (by rw[hl];exact hs)
 rw[← h] at h3
 obtain⟨h4,h5⟩:=Bg (rP (l++m)) (rE ct.a) 0
 rw[← hl,M3] at h4
 have hf:=Dl (rP (l++m)) h2
 refine alU hC (hg _) h3 (Ca h4 h5) ?_
 have:rR C.Φ ct t l=xs.map (X.den (rP (l++m))):=by unfold rR;simp only[h1,h2,zC,id]
 rw[this]
 exact M4 hf.1 (GU _ _)
end Go.Proofs.YtbembkamcdlhbaaGreatDoor
