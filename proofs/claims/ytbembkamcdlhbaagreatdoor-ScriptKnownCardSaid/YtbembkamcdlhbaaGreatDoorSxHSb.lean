import Derived.Test.YtbembkamcdlhbaaGreatDoorZCSb
set_option linter.unusedSimpArgs false
set_option linter.unusedVariables false
namespace Go.Proofs.YtbembkamcdlhbaaGreatDoor
open Go.RowKit
abbrev Cz:=Code→Option Nat
abbrev DU:=Nat→St→rf (Exit×St)
def here (key:Cz) (c:Code):List (Nat×Code):=match key c with|some k=>[(k,c)]|none=>[]
def keyed (key:Cz):Code→List (Nat×Code)
 | .seq a b=>here key (.seq a b)++(keyed key a++keyed key b)
 | .cond c a b=>here key (.cond c a b)++(keyed key a++keyed key b)
 | .block id c=>here key (.block id c)++keyed key c
 | .loop c=>here key (.loop c)++keyed key c
 | .scope c=>here key (.scope c)++keyed key c
 | c=>here key c
def uT (C:sW) (key:Cz) (H:DU):Nat→Code→St→rf (Exit×St)
 | 0,_,_=>.stuck "no fuel"
 | f+1,c,s=>match key c with
  | some k=>H k s
  | none=>match c with
   | .skip=>.leaf (.normal,s)
   | .label _=>.leaf (.normal,s)
   | .exit id=>.leaf (.exit id,s)
   | .ret=>.leaf (.ret,s)
   | .seq a b=>(uT C key H f a s).bind fun r=>match r.1 with | .normal=>uT C key H f b r.2|_=>.leaf r
   | .cond c a b=>match zO s.T c with
    | some (.bool q)=>Ae s.fc q fun bb fc=>match bb with|true=>uT C key H f a { s with fc:=fc } | false=>uT C key H f b { s with fc:=fc }
    | _=>.stuck "cond"
   | .block id c=>(uT C key H f c s).bind fun r=>match r.1 with
    | .exit id'=>match Nat.beq id' id with|true=>.leaf (.normal,r.2)|false=>.leaf r
    | _=>.leaf r
   | .loop c=>(uT C key H f c s).bind fun r=>match r.1 with | .normal=>uT C key H f (.loop c) r.2|_=>.leaf r
   | .scope c=>(uT C key H f c s).bind fun r=>match r.1 with | .goto _=>.stuck "goto" | _=>.leaf r
   | .region _ ops draw=>(zu C (Kb C (exec C f)) ops s.N 0 ops.toList s.T s.H [] s.nv s.dt s.fc).bind fun r=>regionEnd s.T.length ops draw s r
   | _=>.stuck "no such text"
def Li (C:sW) (key:Cz) (H:DU) (fuel:Nat) (g:FuncId) (args:List SV) (nv:Nat):rf SV :=
 match C.P.funcs[g]? with
 | none=>.stuck "no such function"
 | some fn=>match fn.body with
  | none=>.stuck "no body"
  | some cd=>match Nat.ble args.length fn.ntmps with
   | true=>(uT C key H fuel cd ⟨0,uY args fn.ntmps,[],nv,[],[]⟩).bind fun r=>match r.1 with
    | .normal=>match vQ C.P r.2.T r.2.H fn.results.toList with|some rs=>.leaf (tO rs)|none=>.stuck "results"
    | .ret=>match vQ C.P r.2.T r.2.H fn.results.toList with|some rs=>.leaf (tO rs)|none=>.stuck "results"
    | _=>.stuck "end"
   | false=>.stuck "arguments"
def Good (C:sW) (E:tC) (s:rD) (H:DU) (p:Nat×Code):Prop:=∀ st ex st',(H p.1 st).path C.Φ s=some (ex,st')→sZ s st.fc→Aj C E s p.2 st ex st'
section
variable {C:sW} {E:tC} {s:rD} {key:Cz} {H:DU}
theorem al5 {c:Code} {k:Nat} (h:∀ p∈here key c,Good C E s H p) (hk:key c=some k):Good C E s H (k,c):=h (k,c) (by unfold here;rw[hk];exact List.mem_cons_self)
theorem Tf {a b:List (Nat×Code)} (h:∀ p∈a++b,Good C E s H p):∀ p∈a,Good C E s H p:=fun p hp=>h p (List.mem_append_left _ hp)
theorem CB {a b:List (Nat×Code)} (h:∀ p∈a++b,Good C E s H p):∀ p∈b,Good C E s H p:=fun p hp=>h p (List.mem_append_right _ hp)
theorem al6 {c:Code} (h:∀ p∈keyed key c,Good C E s H p):∀ p∈here key c,Good C E s H p:=by
 cases c<;>first|exact h|exact Tf h
abbrev Lj (C:sW) (E:tC) (s:rD) (key:Cz) (H:DU) (c:Code):Prop:=∀ p∈keyed key c,Good C E s H p
theorem aa4 (hC:wD C E):∀ n:Nat,(∀ c,Lj C E s key H c→∀ st ex st',(uT C key H n c st).path C.Φ s=some (ex,st')→sZ s st.fc→Aj C E s c st ex st') ∧
  ∀ c,Lj C E s key H (.loop c)→key (.loop c)=none→∀ st ex st',(uT C key H n (.loop c) st).path C.Φ s=some (ex,st')→sZ s st.fc→∀ w0 B0,xJ ⟨C.P,C.G,E,w0,B0,st.T.length⟩ c (wX s ex st') n st.N (rR.den s st.T) (SH.den s st.H)
 | 0=>⟨fun c hg st ex st' h=>(by cases h),fun c hg hk st ex st' h=>(by cases h)⟩
 | n+1=>by
  obtain⟨ih,ihl⟩:=aa4 hC n
  have loop:∀ c,Lj C E s key H (.loop c)→key (.loop c)=none→∀ st ex st',(uT C key H (n+1) (.loop c) st).path C.Φ s=some (ex,st')→sZ s st.fc→Aj C E s (.loop c) st ex st'∧∀ w0 B0,xJ ⟨C.P,C.G,E,w0,B0,st.T.length⟩ c (wX s ex st') (n+1) st.N (rR.den s st.T) (SH.den s st.H):=by
   intro c hg hk st ex st' h hf
   simp only[uT,hk] at h
   obtain⟨ug,st1,h1,h2⟩:=zx h
   have s1:=ih _ (CB hg) _ _ _ h1 hf
   rcases EA h2 with⟨rfl,h3⟩|⟨hx,h3⟩
   ·have s2:=ih _ hg _ _ _ h3 s1.fc
    have hr:∀ w0 B0,xJ ⟨C.P,C.G,E,w0,B0,st.T.length⟩ c (wX s ex st') (n+1) st.N (rR.den s st.T) (SH.den s st.H):=fun w0 B0=>by
     rw[F8]
     refine(s1.aw w0 B0).mono ?_
     rintro x N T H ⟨rfl,rfl,rfl,rfl⟩
     have:=ihl _ hg hk _ _ _ h3 s1.fc w0 B0
     rw[s1.len] at this
     exact this
    exact⟨s1.trans s2 fun w0 B0=>F7 _ (hr w0 B0),hr⟩
   ·obtain⟨rfl,rfl⟩:ug=ex∧st1=st':=by cases h3;exact⟨rfl,rfl⟩
    have hr:∀ w0 B0,xJ ⟨C.P,C.G,E,w0,B0,st.T.length⟩ c (wX s ug st1) (n+1) st.N (rR.den s st.T) (SH.den s st.H):=fun w0 B0=>by
     rw[F8]
     refine(s1.aw w0 B0).mono ?_
     rintro x N T H ⟨rfl,rfl,rfl,rfl⟩
     exact EB hx ⟨rfl,rfl,rfl,rfl⟩
    exact⟨⟨fun w0 B0=>F7 _ (hr w0 B0),s1.len,s1.dt,s1.fc⟩,hr⟩
  refine⟨?_,fun c hg hk st ex st' h hf=>(loop c hg hk st ex st' h hf).2⟩
  intro c hg st ex st' h hf
  cases hk:key c with
  | some k =>
   simp only[uT,hk] at h
   exact al5 (al6 hg) hk st ex st' h hf
  | none =>
  cases c with
  | skip=>simp only[uT,hk] at h;cases h;exact⟨fun w0 B0=>OH ⟨rfl,rfl,rfl,rfl⟩,rfl,fun j hj=>⟨hj,rfl⟩,hf⟩
  | label l=>simp only[uT,hk] at h;cases h;exact⟨fun w0 B0=>OI ⟨rfl,rfl,rfl,rfl⟩,rfl,fun j hj=>⟨hj,rfl⟩,hf⟩
  | exit id=>simp only[uT,hk] at h;cases h;exact⟨fun w0 B0=>OJ ⟨rfl,rfl,rfl,rfl⟩,rfl,fun j hj=>⟨hj,rfl⟩,hf⟩
  | ret=>simp only[uT,hk] at h;cases h;exact⟨fun w0 B0=>OL ⟨rfl,rfl,rfl,rfl⟩,rfl,fun j hj=>⟨hj,rfl⟩,hf⟩
  | seq a b =>
   simp only[uT,hk] at h
   obtain⟨ug,st1,h1,h2⟩:=zx h
   have s1:=ih _ (Tf (CB hg)) _ _ _ h1 hf
   rcases EA h2 with⟨rfl,h3⟩|⟨hx,h3⟩
   ·have s2:=ih _ (CB (CB hg)) _ _ _ h3 s1.fc
    refine s1.trans s2 fun w0 B0=>F6 ((s1.aw w0 B0).mono ?_)
    rintro x N T H ⟨rfl,rfl,rfl,rfl⟩
    have:=s2.aw w0 B0
    rw[s1.len] at this
    exact this
   ·cases h3
    refine⟨fun w0 B0=>F6 ((s1.aw w0 B0).mono ?_),s1.len,s1.dt,s1.fc⟩
    rintro x N T H ⟨rfl,rfl,rfl,rfl⟩
    exact EB hx ⟨rfl,rfl,rfl,rfl⟩
  | cond c a b =>
   simp only[uT,hk] at h
   split at h
   ·rename_i q hq
    have hd:=De s st.T _ _ hq
    obtain⟨fc',hf',h⟩:=BO hf h
    simp only[SV.den] at hd
    cases hb:(q.den s != 0) with
    | true =>
     rw[hb] at h hd
     have s1:=ih _ (Tf (CB hg)) _ _ _ h hf'
     exact⟨fun w0 B0=>OM hd (s1.aw w0 B0),s1.len,s1.dt,s1.fc⟩
    | false =>
     rw[hb] at h hd
     have s1:=ih _ (CB (CB hg)) _ _ _ h hf'
     exact⟨fun w0 B0=>OO hd (s1.aw w0 B0),s1.len,s1.dt,s1.fc⟩
   ·cases h
  | block id c =>
   simp only[uT,hk] at h
   obtain⟨ug,st1,h1,h2⟩:=zx h
   have s1:=ih _ (CB hg) _ _ _ h1 hf
   have keyB:ex=Ce id ug∧st'=st1:=by
    cases ug with
    | exit id' =>
     simp only at h2
     simp only[Ce]
     split at h2
     ·rename_i hb;cases h2;rw[if_pos (sU.1 hb)];exact⟨rfl,rfl⟩
     ·rename_i hb;cases h2
      rw[if_neg (fun e=>by rw[e] at hb;simp at hb)];exact⟨rfl,rfl⟩
    | _=>cases h2;exact⟨rfl,rfl⟩
   obtain⟨rfl,rfl⟩:=keyB
   refine⟨fun w0 B0=>OP ((s1.aw w0 B0).mono ?_),s1.len,s1.dt,s1.fc⟩
   rintro x N T H ⟨rfl,rfl,rfl,rfl⟩
   cases x with
   | exit id' =>
    simp only[Jy,Ce]
    split
    ·exact⟨rfl,rfl,rfl,rfl⟩
    ·exact⟨rfl,rfl,rfl,rfl⟩
   | _=>exact⟨rfl,rfl,rfl,rfl⟩
  | loop c=>exact(loop c hg hk st ex st' h hf).1
  | scope c =>
   simp only[uT,hk] at h
   obtain⟨ug,st1,h1,h2⟩:=zx h
   have s1:=ih _ (CB hg) _ _ _ h1 hf
   have IZ:(∀ l,ug ≠ .goto l)∧ex=ug∧st'=st1:=by
    cases ug<;>first|(cases h2;exact⟨fun l e=>(by cases e),rfl,rfl⟩)|cases h2
   obtain⟨hgo,rfl,rfl⟩:=IZ
   exact⟨fun w0 B0=>OT (s1.aw w0 B0) (fun l N T H e=>hgo l e.1.symm),s1.len,s1.dt,s1.fc⟩
  | region id ops draw =>
   simp only[uT,hk] at h
   obtain⟨out,h1,h2⟩:=rf.path_bind_some h
   have dst:∀ o∈ops.toList,∀ t,o.dst=some t→t<st.T.length:=by
    unfold regionEnd at h2
    split at h2
    ·split at h2
     ·rename_i hdr _
      simp only[drawOK,Bool.and_eq_true] at hdr
      exact BI hdr.1.2
     ·cases h2
     ·cases h2
    ·split at h2
     ·rename_i hdr;exact BI hdr
     ·cases h2
   obtain⟨e1,e2,e3,e4⟩:=Km hC (nt:=st.T.length) (fun g args H k nv fc r hr hf=>Qw hC (GI hC n).1 hr hf) ops.toList 0 st.T st.H [] st.nv st.dt st.fc out h1 hf rfl dst
   unfold regionEnd at h2
   cases draw with
   | true =>
    simp only at h2
    split at h2
    ·rename_i hdr htr
     rw[uk] at h2
     cases h2
     refine⟨fun w0 B0=>OV hC.eq hC.mix hdr (e1 w0 B0 [] _ rfl ?_),e2,e4,e3⟩
     intro trf htf
     refine⟨?_,rfl,rfl,rfl,rfl⟩
     rw[← htf] at htr
     exact Kl htr
    ·cases h2
    ·cases h2
   | false =>
    simp only at h2
    split at h2
    ·rename_i hdr
     rw[uk] at h2
     cases h2
     exact⟨fun w0 B0=>OU hC.eq hdr (e1 w0 B0 [] _ rfl fun trf htf=>⟨rfl,rfl,rfl,rfl⟩),e2,e4,e3⟩
    ·cases h2
  | rangeFunc f ps a b=>simp only[uT,hk] at h;cases h
  | goto l=>simp only[uT,hk] at h;cases h
  | refuse w=>simp only[uT,hk] at h;cases h
end
theorem al7 {C:sW} {E:tC} {s:rD} {key:Cz} {H:DU} (hC:wD C E) {n:Nat} {g:FuncId} (hg:∀ fn cd,C.P.funcs[g]? = some fn→fn.body=some cd→Lj C E s key H cd) {args:List SV} {nv:Nat} {a:SV} {vs:List Value} {v:Value} (h:(Li C key H n g args nv).path C.Φ s=some a) (ha:SV.dens s args=vs.map .v) (hv:a.den s = .v v) :
  PC C.P C.G g vs v:=by
 unfold Li at h
 split at h
 ·cases h
 ·rename_i fn hf
  split at h
  ·cases h
  ·rename_i cd hb
   split at h
   ·rename_i hl
    obtain⟨⟨ex,st⟩,h1,h2⟩:=rf.path_bind_some h
    have sp:=(aa4 (E:=E) (s:=s) hC n).1 _ (hg fn cd hf hb) _ _ _ h1 (fun x hx=>by cases hx)
    have hlen:(uY args fn.ntmps).length=fn.ntmps:=Ex _ _ (Nat.le_of_ble_eq_true hl)
    have hvl:vs.length=args.length:=by have:=congrArg List.length ha;rw[zo,List.length_map] at this;exact this.symm
    refine OZ E hf hb (hC.nm g fn hf (by rw[hb];rfl)) (by rw[hvl];exact hl) fun w=>?_
    have hA:=sp.aw w sG.nil
    simp only[hlen,Kh,ha] at hA
    have keyR:∀ rs,vQ C.P st.T st.H fn.results.toList=some rs→tO rs=a→∃ rs',yE C.P C.G (rR.den s st.T) (SH.den s st.H) fn.results.toList=some rs'∧Ac rs' = .v v:=fun rs hrs e =>
     ⟨_,Ey s hrs,by rw[GG,e,hv]⟩
    have hx:(ex = .normal∨ex = .ret)∧∃ rs,vQ C.P st.T st.H fn.results.toList=some rs∧tO rs=a:=by
     rcases Kk h2 with⟨rfl,h3⟩|⟨rfl,h3⟩
     ·split at h3
      ·rename_i rs hrs;cases h3;exact⟨.inl rfl,rs,hrs,rfl⟩
      ·cases h3
     ·split at h3
      ·rename_i rs hrs;cases h3;exact⟨.inr rfl,rs,hrs,rfl⟩
      ·cases h3
    obtain⟨hx,rs,hrs,e⟩:=hx
    refine AW.mono (show AW _ cd (wX s ex st) 0 _ _ from hA) ?_
    rintro x N T H2 ⟨rfl,rfl,rfl,rfl⟩
    rcases hx with rfl|rfl
    ·exact keyR rs hrs e
    ·exact keyR rs hrs e
   ·cases h
theorem al8 {C:sW} {E:tC} {key:Cz} {H:DU} (hC:wD C E) {n:Nat} {g:FuncId} (hg:∀ s fn cd,C.P.funcs[g]? = some fn→fn.body=some cd→Lj C E s key H cd) {ct:Ct} {t:rf SV} (h:Li C key H n g (rO ct.a (rM 0 (ru ct.a))) (ru ct.a).length=t) (hs:Bf (ru ct.a).length t=true)
  (l:List Int) (hl:l.length=(ru ct.a).length) (ho:okF C.Φ ct t l) :
  (rH C.Φ ct t l).length=(ru ct.r).length∧PC C.P C.G g (rX ct.a l) (tq (rX ct.r (rH C.Φ ct t l))):=by
 refine⟨MH ho,?_⟩
 obtain⟨a,l',xs,h1,h2⟩:=ho
 obtain⟨h3,m,rfl⟩:=EC h1 (by rw[hl];exact hs)
 rw[← h] at h3
 obtain⟨h4,h5⟩:=Be (rF (l++m)) (ru ct.a) 0
 rw[← hl,MI] at h4
 have hf:=Dj (rF (l++m)) h2
 refine al7 hC (hg _) h3 (BX h4 h5) ?_
 have:rH C.Φ ct t l=xs.map (X.den (rF (l++m))):=by unfold rH;simp only[h1,h2,zy,id]
 rw[this]
 exact MJ hf.1 (GJ _ _)
end Go.Proofs.YtbembkamcdlhbaaGreatDoor
