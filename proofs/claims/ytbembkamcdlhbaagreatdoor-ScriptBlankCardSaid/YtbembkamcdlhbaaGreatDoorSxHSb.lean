import Derived.Test.YtbembkamcdlhbaaGreatDoorZCSb
set_option linter.unusedSimpArgs false
set_option linter.unusedVariables false
namespace Go.Proofs.YtbembkamcdlhbaaGreatDoor
open Go.RowKit
abbrev Cq:=Code→Option Nat
abbrev DF:=Nat→St→qZ (Exit×St)
def here (key:Cq) (c:Code):List (Nat×Code):=match key c with|some k=>[(k,c)]|none=>[]
def keyed (key:Cq):Code→List (Nat×Code)
 | .seq a b=>here key (.seq a b)++(keyed key a++keyed key b)
 | .cond c a b=>here key (.cond c a b)++(keyed key a++keyed key b)
 | .block id c=>here key (.block id c)++keyed key c
 | .loop c=>here key (.loop c)++keyed key c
 | .scope c=>here key (.scope c)++keyed key c
 | c=>here key c
def uN (C:sP) (key:Cq) (H:DF):Nat→Code→St→qZ (Exit×St)
 | 0,_,_=>.stuck "no fuel"
 | f+1,c,s=>match key c with
  | some k=>H k s
  | none=>match c with
   | .skip=>.leaf (.normal,s)
   | .label _=>.leaf (.normal,s)
   | .exit id=>.leaf (.exit id,s)
   | .ret=>.leaf (.ret,s)
   | .seq a b=>(uN C key H f a s).bind fun r=>match r.1 with | .normal=>uN C key H f b r.2|_=>.leaf r
   | .cond c a b=>match zJ s.T c with
    | some (.bool q)=>zZ s.fc q fun bb fc=>match bb with|true=>uN C key H f a { s with fc:=fc } | false=>uN C key H f b { s with fc:=fc }
    | _=>.stuck "cond"
   | .block id c=>(uN C key H f c s).bind fun r=>match r.1 with
    | .exit id'=>match Nat.beq id' id with|true=>.leaf (.normal,r.2)|false=>.leaf r
    | _=>.leaf r
   | .loop c=>(uN C key H f c s).bind fun r=>match r.1 with | .normal=>uN C key H f (.loop c) r.2|_=>.leaf r
   | .scope c=>(uN C key H f c s).bind fun r=>match r.1 with | .goto _=>.stuck "goto" | _=>.leaf r
   | .region _ ops draw=>(zm C (JZ C (exec C f)) ops s.N 0 ops.toList s.T s.H [] s.nv s.dt s.fc).bind fun r=>regionEnd s.T.length ops draw s r
   | _=>.stuck "no such text"
def Lh (C:sP) (key:Cq) (H:DF) (fuel:Nat) (g:FuncId) (args:List SV) (nv:Nat):qZ SV :=
 match C.P.funcs[g]? with
 | none=>.stuck "no such function"
 | some fn=>match fn.body with
  | none=>.stuck "no body"
  | some cd=>match Nat.ble args.length fn.ntmps with
   | true=>(uN C key H fuel cd ⟨0,uS args fn.ntmps,[],nv,[],[]⟩).bind fun r=>match r.1 with
    | .normal=>match vK C.P r.2.T r.2.H fn.results.toList with|some rs=>.leaf (tJ rs)|none=>.stuck "results"
    | .ret=>match vK C.P r.2.T r.2.H fn.results.toList with|some rs=>.leaf (tJ rs)|none=>.stuck "results"
    | _=>.stuck "end"
   | false=>.stuck "arguments"
def Good (C:sP) (E:sV) (s:ry) (H:DF) (p:Nat×Code):Prop:=∀ st ex st',(H p.1 st).path C.Φ s=some (ex,st')→sQ s st.fc→Ae C E s p.2 st ex st'
section
variable {C:sP} {E:sV} {s:ry} {key:Cq} {H:DF}
theorem alo {c:Code} {k:Nat} (h:∀ p∈here key c,Good C E s H p) (hk:key c=some k):Good C E s H (k,c):=h (k,c) (by unfold here;rw[hk];exact List.mem_cons_self)
theorem Tc {a b:List (Nat×Code)} (h:∀ p∈a++b,Good C E s H p):∀ p∈a,Good C E s H p:=fun p hp=>h p (List.mem_append_left _ hp)
theorem Cr {a b:List (Nat×Code)} (h:∀ p∈a++b,Good C E s H p):∀ p∈b,Good C E s H p:=fun p hp=>h p (List.mem_append_right _ hp)
theorem alp {c:Code} (h:∀ p∈keyed key c,Good C E s H p):∀ p∈here key c,Good C E s H p:=by
 cases c<;>first|exact h|exact Tc h
abbrev Li (C:sP) (E:sV) (s:ry) (key:Cq) (H:DF) (c:Code):Prop:=∀ p∈keyed key c,Good C E s H p
theorem aaX (hC:wu C E):∀ n:Nat,(∀ c,Li C E s key H c→∀ st ex st',(uN C key H n c st).path C.Φ s=some (ex,st')→sQ s st.fc→Ae C E s c st ex st') ∧
  ∀ c,Li C E s key H (.loop c)→key (.loop c)=none→∀ st ex st',(uN C key H n (.loop c) st).path C.Φ s=some (ex,st')→sQ s st.fc→∀ w0 B0,xA ⟨C.P,C.G,E,w0,B0,st.T.length⟩ c (wP s ex st') n st.N (rO.den s st.T) (SH.den s st.H)
 | 0=>⟨fun c hg st ex st' h=>(by cases h),fun c hg hk st ex st' h=>(by cases h)⟩
 | n+1=>by
  obtain⟨ih,ihl⟩:=aaX hC n
  have loop:∀ c,Li C E s key H (.loop c)→key (.loop c)=none→∀ st ex st',(uN C key H (n+1) (.loop c) st).path C.Φ s=some (ex,st')→sQ s st.fc→Ae C E s (.loop c) st ex st'∧∀ w0 B0,xA ⟨C.P,C.G,E,w0,B0,st.T.length⟩ c (wP s ex st') (n+1) st.N (rO.den s st.T) (SH.den s st.H):=by
   intro c hg hk st ex st' h hf
   simp only[uN,hk] at h
   obtain⟨tF,st1,h1,h2⟩:=zn h
   have s1:=ih _ (Cr hg) _ _ _ h1 hf
   rcases Et h2 with⟨rfl,h3⟩|⟨hx,h3⟩
   ·have s2:=ih _ hg _ _ _ h3 s1.fc
    have hr:∀ w0 B0,xA ⟨C.P,C.G,E,w0,B0,st.T.length⟩ c (wP s ex st') (n+1) st.N (rO.den s st.T) (SH.den s st.H):=fun w0 B0=>by
     rw[FZ]
     refine(s1.aw w0 B0).mono ?_
     rintro x N T H ⟨rfl,rfl,rfl,rfl⟩
     have:=ihl _ hg hk _ _ _ h3 s1.fc w0 B0
     rw[s1.len] at this
     exact this
    exact⟨s1.trans s2 fun w0 B0=>FY _ (hr w0 B0),hr⟩
   ·obtain⟨rfl,rfl⟩:tF=ex∧st1=st':=by cases h3;exact⟨rfl,rfl⟩
    have hr:∀ w0 B0,xA ⟨C.P,C.G,E,w0,B0,st.T.length⟩ c (wP s tF st1) (n+1) st.N (rO.den s st.T) (SH.den s st.H):=fun w0 B0=>by
     rw[FZ]
     refine(s1.aw w0 B0).mono ?_
     rintro x N T H ⟨rfl,rfl,rfl,rfl⟩
     exact Eu hx ⟨rfl,rfl,rfl,rfl⟩
    exact⟨⟨fun w0 B0=>FY _ (hr w0 B0),s1.len,s1.dt,s1.fc⟩,hr⟩
  refine⟨?_,fun c hg hk st ex st' h hf=>(loop c hg hk st ex st' h hf).2⟩
  intro c hg st ex st' h hf
  cases hk:key c with
  | some k =>
   simp only[uN,hk] at h
   exact alo (alp hg) hk st ex st' h hf
  | none =>
  cases c with
  | skip=>simp only[uN,hk] at h;cases h;exact⟨fun w0 B0=>OD ⟨rfl,rfl,rfl,rfl⟩,rfl,fun j hj=>⟨hj,rfl⟩,hf⟩
  | label l=>simp only[uN,hk] at h;cases h;exact⟨fun w0 B0=>OE ⟨rfl,rfl,rfl,rfl⟩,rfl,fun j hj=>⟨hj,rfl⟩,hf⟩
  | exit id=>simp only[uN,hk] at h;cases h;exact⟨fun w0 B0=>OG ⟨rfl,rfl,rfl,rfl⟩,rfl,fun j hj=>⟨hj,rfl⟩,hf⟩
  | ret=>simp only[uN,hk] at h;cases h;exact⟨fun w0 B0=>OH ⟨rfl,rfl,rfl,rfl⟩,rfl,fun j hj=>⟨hj,rfl⟩,hf⟩
  | seq a b =>
   simp only[uN,hk] at h
   obtain⟨tF,st1,h1,h2⟩:=zn h
   have s1:=ih _ (Tc (Cr hg)) _ _ _ h1 hf
   rcases Et h2 with⟨rfl,h3⟩|⟨hx,h3⟩
   ·have s2:=ih _ (Cr (Cr hg)) _ _ _ h3 s1.fc
    refine s1.trans s2 fun w0 B0=>FX ((s1.aw w0 B0).mono ?_)
    rintro x N T H ⟨rfl,rfl,rfl,rfl⟩
    have:=s2.aw w0 B0
    rw[s1.len] at this
    exact this
   ·cases h3
    refine⟨fun w0 B0=>FX ((s1.aw w0 B0).mono ?_),s1.len,s1.dt,s1.fc⟩
    rintro x N T H ⟨rfl,rfl,rfl,rfl⟩
    exact Eu hx ⟨rfl,rfl,rfl,rfl⟩
  | cond c a b =>
   simp only[uN,hk] at h
   split at h
   ·rename_i q hq
    have hd:=CY s st.T _ _ hq
    obtain⟨fc',hf',h⟩:=BH hf h
    simp only[SV.den] at hd
    cases hb:(q.den s != 0) with
    | true =>
     rw[hb] at h hd
     have s1:=ih _ (Tc (Cr hg)) _ _ _ h hf'
     exact⟨fun w0 B0=>OI hd (s1.aw w0 B0),s1.len,s1.dt,s1.fc⟩
    | false =>
     rw[hb] at h hd
     have s1:=ih _ (Cr (Cr hg)) _ _ _ h hf'
     exact⟨fun w0 B0=>OJ hd (s1.aw w0 B0),s1.len,s1.dt,s1.fc⟩
   ·cases h
  | block id c =>
   simp only[uN,hk] at h
   obtain⟨tF,st1,h1,h2⟩:=zn h
   have s1:=ih _ (Cr hg) _ _ _ h1 hf
   have keyB:ex=BU id tF∧st'=st1:=by
    cases tF with
    | exit id' =>
     simp only at h2
     simp only[BU]
     split at h2
     ·rename_i hb;cases h2;rw[if_pos (sN.1 hb)];exact⟨rfl,rfl⟩
     ·rename_i hb;cases h2
      rw[if_neg (fun e=>by rw[e] at hb;simp at hb)];exact⟨rfl,rfl⟩
    | _=>cases h2;exact⟨rfl,rfl⟩
   obtain⟨rfl,rfl⟩:=keyB
   refine⟨fun w0 B0=>OL ((s1.aw w0 B0).mono ?_),s1.len,s1.dt,s1.fc⟩
   rintro x N T H ⟨rfl,rfl,rfl,rfl⟩
   cases x with
   | exit id' =>
    simp only[Jr,BU]
    split
    ·exact⟨rfl,rfl,rfl,rfl⟩
    ·exact⟨rfl,rfl,rfl,rfl⟩
   | _=>exact⟨rfl,rfl,rfl,rfl⟩
  | loop c=>exact(loop c hg hk st ex st' h hf).1
  | scope c =>
   simp only[uN,hk] at h
   obtain⟨tF,st1,h1,h2⟩:=zn h
   have s1:=ih _ (Cr hg) _ _ _ h1 hf
   have IR:(∀ l,tF ≠ .goto l)∧ex=tF∧st'=st1:=by
    cases tF<;>first|(cases h2;exact⟨fun l e=>(by cases e),rfl,rfl⟩)|cases h2
   obtain⟨hgo,rfl,rfl⟩:=IR
   exact⟨fun w0 B0=>OO (s1.aw w0 B0) (fun l N T H e=>hgo l e.1.symm),s1.len,s1.dt,s1.fc⟩
  | region id ops draw =>
   simp only[uN,hk] at h
   obtain⟨out,h1,h2⟩:=qZ.path_bind_some h
   have dst:∀ o∈ops.toList,∀ t,o.dst=some t→t<st.T.length:=by
    unfold regionEnd at h2
    split at h2
    ·split at h2
     ·rename_i hdr _
      simp only[drawOK,Bool.and_eq_true] at hdr
      exact BA hdr.1.2
     ·cases h2
     ·cases h2
    ·split at h2
     ·rename_i hdr;exact BA hdr
     ·cases h2
   obtain⟨e1,e2,e3,e4⟩:=Kg hC (nt:=st.T.length) (fun g args H k nv fc r hr hf=>Qt hC (Gy hC n).1 hr hf) ops.toList 0 st.T st.H [] st.nv st.dt st.fc out h1 hf rfl dst
   unfold regionEnd at h2
   cases draw with
   | true =>
    simp only at h2
    split at h2
    ·rename_i hdr htr
     rw[tZ] at h2
     cases h2
     refine⟨fun w0 B0=>OQ hC.eq hC.mix hdr (e1 w0 B0 [] _ rfl ?_),e2,e4,e3⟩
     intro trf htf
     refine⟨?_,rfl,rfl,rfl,rfl⟩
     rw[← htf] at htr
     exact Ke htr
    ·cases h2
    ·cases h2
   | false =>
    simp only at h2
    split at h2
    ·rename_i hdr
     rw[tZ] at h2
     cases h2
     exact⟨fun w0 B0=>OP hC.eq hdr (e1 w0 B0 [] _ rfl fun trf htf=>⟨rfl,rfl,rfl,rfl⟩),e2,e4,e3⟩
    ·cases h2
  | rangeFunc f ps a b=>simp only[uN,hk] at h;cases h
  | goto l=>simp only[uN,hk] at h;cases h
  | refuse w=>simp only[uN,hk] at h;cases h
end
theorem alq {C:sP} {E:sV} {s:ry} {key:Cq} {H:DF} (hC:wu C E) {n:Nat} {g:FuncId} (hg:∀ fn cd,C.P.funcs[g]? = some fn→fn.body=some cd→Li C E s key H cd) {args:List SV} {nv:Nat} {a:SV} {vs:List Value} {v:Value} (h:(Lh C key H n g args nv).path C.Φ s=some a) (ha:SV.dens s args=vs.map .v) (hv:a.den s = .v v) :
  PC C.P C.G g vs v:=by
 unfold Lh at h
 split at h
 ·cases h
 ·rename_i fn hf
  split at h
  ·cases h
  ·rename_i cd hb
   split at h
   ·rename_i hl
    obtain⟨⟨ex,st⟩,h1,h2⟩:=qZ.path_bind_some h
    have sp:=(aaX (E:=E) (s:=s) hC n).1 _ (hg fn cd hf hb) _ _ _ h1 (fun x hx=>by cases hx)
    have hlen:(uS args fn.ntmps).length=fn.ntmps:=Ep _ _ (Nat.le_of_ble_eq_true hl)
    have hvl:vs.length=args.length:=by have:=congrArg List.length ha;rw[zi,List.length_map] at this;exact this.symm
    refine OW E hf hb (hC.nm g fn hf (by rw[hb];rfl)) (by rw[hvl];exact hl) fun w=>?_
    have hA:=sp.aw w sw.nil
    simp only[hlen,J9,ha] at hA
    have keyR:∀ rs,vK C.P st.T st.H fn.results.toList=some rs→tJ rs=a→∃ rs',yx C.P C.G (rO.den s st.T) (SH.den s st.H) fn.results.toList=some rs'∧zX rs' = .v v:=fun rs hrs e =>
     ⟨_,Er s hrs,by rw[Gv,e,hv]⟩
    have hx:(ex = .normal∨ex = .ret)∧∃ rs,vK C.P st.T st.H fn.results.toList=some rs∧tJ rs=a:=by
     rcases Kc h2 with⟨rfl,h3⟩|⟨rfl,h3⟩
     ·split at h3
      ·rename_i rs hrs;cases h3;exact⟨.inl rfl,rs,hrs,rfl⟩
      ·cases h3
     ·split at h3
      ·rename_i rs hrs;cases h3;exact⟨.inr rfl,rs,hrs,rfl⟩
      ·cases h3
    obtain⟨hx,rs,hrs,e⟩:=hx
    refine AW.mono (show AW _ cd (wP s ex st) 0 _ _ from hA) ?_
    rintro x N T H2 ⟨rfl,rfl,rfl,rfl⟩
    rcases hx with rfl|rfl
    ·exact keyR rs hrs e
    ·exact keyR rs hrs e
   ·cases h
theorem alr {C:sP} {E:sV} {key:Cq} {H:DF} (hC:wu C E) {n:Nat} {g:FuncId} (hg:∀ s fn cd,C.P.funcs[g]? = some fn→fn.body=some cd→Li C E s key H cd) {ct:Ct} {t:qZ SV} (h:Lh C key H n g (rH ct.a (rG 0 (q9 ct.a))) (q9 ct.a).length=t) (hs:AY (q9 ct.a).length t=true)
  (l:List Int) (hl:l.length=(q9 ct.a).length) (ho:okF C.Φ ct t l) :
  (rE C.Φ ct t l).length=(q9 ct.r).length∧PC C.P C.G g (rT ct.a l) (sS (rT ct.r (rE C.Φ ct t l))):=by
 refine⟨MF ho,?_⟩
 obtain⟨a,l',xs,h1,h2⟩:=ho
 obtain⟨h3,m,rfl⟩:=Ev h1 (by rw[hl];exact hs)
 rw[← h] at h3
 obtain⟨h4,h5⟩:=AX (rC (l++m)) (q9 ct.a) 0
 rw[← hl,MG] at h4
 have hf:=Db (rC (l++m)) h2
 refine alq hC (hg _) h3 (BO h4 h5) ?_
 have:rE C.Φ ct t l=xs.map (X.den (rC (l++m))):=by unfold rE;simp only[h1,h2,zo,id]
 rw[this]
 exact MH hf.1 (Gz _ _)
end Go.Proofs.YtbembkamcdlhbaaGreatDoor
