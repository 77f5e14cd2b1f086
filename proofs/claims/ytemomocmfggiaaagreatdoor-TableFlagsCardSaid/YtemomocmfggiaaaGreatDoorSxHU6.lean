import Derived.Test.YtemomocmfggiaaaGreatDoorZCU6
set_option linter.unusedSimpArgs false
set_option linter.unusedVariables false
namespace Go.Proofs.YtemomocmfggiaaaGreatDoor
open Go.RowKit
abbrev I1:=Code→Option Nat
abbrev Kh:=Nat→St→vo (Exit×St)
def here (key:I1) (c:Code):List (Nat×Code):=match key c with|some k=>[(k,c)]|none=>[]
def keyed (key:I1):Code→List (Nat×Code)
 | .seq a b=>here key (.seq a b)++(keyed key a++keyed key b)
 | .cond c a b=>here key (.cond c a b)++(keyed key a++keyed key b)
 | .block id c=>here key (.block id c)++keyed key c
 | .loop c=>here key (.loop c)++keyed key c
 | .scope c=>here key (.scope c)++keyed key c
 | c=>here key c
def zy (C:xA) (key:I1) (H:Kh):Nat→Code→St→vo (Exit×St)
 | 0,_,_=>.stuck "no fuel"
 | f+1,c,s=>match key c with
  | some k=>H k s
  | none=>match c with
   | .skip=>.leaf (.normal,s)
   | .label _=>.leaf (.normal,s)
   | .exit id=>.leaf (.exit id,s)
   | .ret=>.leaf (.ret,s)
   | .seq a b=>(zy C key H f a s).bind fun r=>match r.1 with | .normal=>zy C key H f b r.2|_=>.leaf r
   | .cond c a b=>match EB s.T c with
    | some (.bool q)=>Fg s.fc q fun bb fc=>match bb with|true=>zy C key H f a { s with fc:=fc } | false=>zy C key H f b { s with fc:=fc }
    | _=>.stuck "cond"
   | .block id c=>(zy C key H f c s).bind fun r=>match r.1 with
    | .exit id'=>match Nat.beq id' id with|true=>.leaf (.normal,r.2)|false=>.leaf r
    | _=>.leaf r
   | .loop c=>(zy C key H f c s).bind fun r=>match r.1 with | .normal=>zy C key H f (.loop c) r.2|_=>.leaf r
   | .scope c=>(zy C key H f c s).bind fun r=>match r.1 with | .goto _=>.stuck "goto" | _=>.leaf r
   | .region _ ops draw=>(DY C (QD C (exec C f)) ops s.N 0 ops.toList s.T s.H [] s.nv s.dt s.fc).bind fun r=>regionEnd s.T.length ops draw s r
   | _=>.stuck "no such text"
def RY (C:xA) (key:I1) (H:Kh) (fuel:Nat) (g:FuncId) (args:List SV) (nv:Nat):vo SV :=
 match C.P.funcs[g]? with
 | none=>.stuck "no such function"
 | some fn=>match fn.body with
  | none=>.stuck "no body"
  | some cd=>match Nat.ble args.length fn.ntmps with
   | true=>(zy C key H fuel cd ⟨0,zF args fn.ntmps,[],nv,[],[]⟩).bind fun r=>match r.1 with
    | .normal=>match Af C.P r.2.T r.2.H fn.results.toList with|some rs=>.leaf (resS rs)|none=>.stuck "results"
    | .ret=>match Af C.P r.2.T r.2.H fn.results.toList with|some rs=>.leaf (resS rs)|none=>.stuck "results"
    | _=>.stuck "end"
   | false=>.stuck "arguments"
def Good (C:xA) (E:xK) (s:vS) (H:Kh) (p:Nat×Code):Prop:=∀ st ex st',(H p.1 st).path C.Φ s=some (ex,st')→xC s st.fc→Fs C E s p.2 st ex st'
section
variable {C:xA} {E:xK} {s:vS} {key:I1} {H:Kh}
theorem atJ {c:Code} {k:Nat} (h:∀ p∈here key c,Good C E s H p) (hk:key c=some k):Good C E s H (k,c):=h (k,c) (by unfold here;rw[hk];exact List.mem_cons_self)
theorem aa3 {a b:List (Nat×Code)} (h:∀ p∈a++b,Good C E s H p):∀ p∈a,Good C E s H p:=fun p hp=>h p (List.mem_append_left _ hp)
theorem I4 {a b:List (Nat×Code)} (h:∀ p∈a++b,Good C E s H p):∀ p∈b,Good C E s H p:=fun p hp=>h p (List.mem_append_right _ hp)
theorem atK {c:Code} (h:∀ p∈keyed key c,Good C E s H p):∀ p∈here key c,Good C E s H p:=by
 cases c<;>first|exact h|exact aa3 h
abbrev RZ (C:xA) (E:xK) (s:vS) (key:I1) (H:Kh) (c:Code):Prop:=∀ p∈keyed key c,Good C E s H p
theorem ahg (hC:zU C E):∀ n:Nat,(∀ c,RZ C E s key H c→∀ st ex st',(zy C key H n c st).path C.Φ s=some (ex,st')→xC s st.fc→Fs C E s c st ex st') ∧
  ∀ c,RZ C E s key H (.loop c)→key (.loop c)=none→∀ st ex st',(zy C key H n (.loop c) st).path C.Φ s=some (ex,st')→xC s st.fc→∀ w0 B0,BI ⟨C.P,C.G,E,w0,B0,st.T.length⟩ c (AL s ex st') n st.N (wE.den s st.T) (SH.den s st.H)
 | 0=>⟨fun c hg st ex st' h=>(by cases h),fun c hg hk st ex st' h=>(by cases h)⟩
 | n+1=>by
  obtain⟨ih,ihl⟩:=ahg hC n
  have loop:∀ c,RZ C E s key H (.loop c)→key (.loop c)=none→∀ st ex st',(zy C key H (n+1) (.loop c) st).path C.Φ s=some (ex,st')→xC s st.fc→Fs C E s (.loop c) st ex st'∧∀ w0 B0,BI ⟨C.P,C.G,E,w0,B0,st.T.length⟩ c (AL s ex st') (n+1) st.N (wE.den s st.T) (SH.den s st.H):=by
   intro c hg hk st ex st' h hf
   simp only[zy,hk] at h
   obtain⟨ex1,st1,h1,h2⟩:=DZ h
   have s1:=ih _ (I4 hg) _ _ _ h1 hf
   rcases KP h2 with⟨rfl,h3⟩|⟨hx,h3⟩
   ·have s2:=ih _ hg _ _ _ h3 s1.fc
    have hr:∀ w0 B0,BI ⟨C.P,C.G,E,w0,B0,st.T.length⟩ c (AL s ex st') (n+1) st.N (wE.den s st.T) (SH.den s st.H):=fun w0 B0=>by
     rw[MC]
     refine(s1.aw w0 B0).mono ?_
     rintro x N T H ⟨rfl,rfl,rfl,rfl⟩
     have:=ihl _ hg hk _ _ _ h3 s1.fc w0 B0
     rw[s1.len] at this
     exact this
    exact⟨s1.trans s2 fun w0 B0=>MB _ (hr w0 B0),hr⟩
   ·obtain⟨rfl,rfl⟩:ex1=ex∧st1=st':=by cases h3;exact⟨rfl,rfl⟩
    have hr:∀ w0 B0,BI ⟨C.P,C.G,E,w0,B0,st.T.length⟩ c (AL s ex1 st1) (n+1) st.N (wE.den s st.T) (SH.den s st.H):=fun w0 B0=>by
     rw[MC]
     refine(s1.aw w0 B0).mono ?_
     rintro x N T H ⟨rfl,rfl,rfl,rfl⟩
     exact KQ hx ⟨rfl,rfl,rfl,rfl⟩
    exact⟨⟨fun w0 B0=>MB _ (hr w0 B0),s1.len,s1.dt,s1.fc⟩,hr⟩
  refine⟨?_,fun c hg hk st ex st' h hf=>(loop c hg hk st ex st' h hf).2⟩
  intro c hg st ex st' h hf
  cases hk:key c with
  | some k =>
   simp only[zy,hk] at h
   exact atJ (atK hg) hk st ex st' h hf
  | none =>
  cases c with
  | skip=>simp only[zy,hk] at h;cases h;exact⟨fun w0 B0=>V8 ⟨rfl,rfl,rfl,rfl⟩,rfl,fun j hj=>⟨hj,rfl⟩,hf⟩
  | label l=>simp only[zy,hk] at h;cases h;exact⟨fun w0 B0=>V9 ⟨rfl,rfl,rfl,rfl⟩,rfl,fun j hj=>⟨hj,rfl⟩,hf⟩
  | exit id=>simp only[zy,hk] at h;cases h;exact⟨fun w0 B0=>Wd ⟨rfl,rfl,rfl,rfl⟩,rfl,fun j hj=>⟨hj,rfl⟩,hf⟩
  | ret=>simp only[zy,hk] at h;cases h;exact⟨fun w0 B0=>We ⟨rfl,rfl,rfl,rfl⟩,rfl,fun j hj=>⟨hj,rfl⟩,hf⟩
  | seq a b =>
   simp only[zy,hk] at h
   obtain⟨ex1,st1,h1,h2⟩:=DZ h
   have s1:=ih _ (aa3 (I4 hg)) _ _ _ h1 hf
   rcases KP h2 with⟨rfl,h3⟩|⟨hx,h3⟩
   ·have s2:=ih _ (I4 (I4 hg)) _ _ _ h3 s1.fc
    refine s1.trans s2 fun w0 B0=>Mx ((s1.aw w0 B0).mono ?_)
    rintro x N T H ⟨rfl,rfl,rfl,rfl⟩
    have:=s2.aw w0 B0
    rw[s1.len] at this
    exact this
   ·cases h3
    refine⟨fun w0 B0=>Mx ((s1.aw w0 B0).mono ?_),s1.len,s1.dt,s1.fc⟩
    rintro x N T H ⟨rfl,rfl,rfl,rfl⟩
    exact KQ hx ⟨rfl,rfl,rfl,rfl⟩
  | cond c a b =>
   simp only[zy,hk] at h
   split at h
   ·rename_i q hq
    have hd:=Jo s st.T _ _ hq
    obtain⟨fc',hf',h⟩:=HZ hf h
    simp only[SV.den] at hd
    cases hb:(q.den s != 0) with
    | true =>
     rw[hb] at h hd
     have s1:=ih _ (aa3 (I4 hg)) _ _ _ h hf'
     exact⟨fun w0 B0=>Wh hd (s1.aw w0 B0),s1.len,s1.dt,s1.fc⟩
    | false =>
     rw[hb] at h hd
     have s1:=ih _ (I4 (I4 hg)) _ _ _ h hf'
     exact⟨fun w0 B0=>Wi hd (s1.aw w0 B0),s1.len,s1.dt,s1.fc⟩
   ·cases h
  | block id c =>
   simp only[zy,hk] at h
   obtain⟨ex1,st1,h1,h2⟩:=DZ h
   have s1:=ih _ (I4 hg) _ _ _ h1 hf
   have keyB:ex=Ii id ex1∧st'=st1:=by
    cases ex1 with
    | exit id' =>
     simp only at h2
     simp only[Ii]
     split at h2
     ·rename_i hb;cases h2;rw[if_pos (wR.1 hb)];exact⟨rfl,rfl⟩
     ·rename_i hb;cases h2
      rw[if_neg (fun e=>by rw[e] at hb;simp at hb)];exact⟨rfl,rfl⟩
    | _=>cases h2;exact⟨rfl,rfl⟩
   obtain⟨rfl,rfl⟩:=keyB
   refine⟨fun w0 B0=>Wj ((s1.aw w0 B0).mono ?_),s1.len,s1.dt,s1.fc⟩
   rintro x N T H ⟨rfl,rfl,rfl,rfl⟩
   cases x with
   | exit id' =>
    simp only[P8,Ii]
    split
    ·exact⟨rfl,rfl,rfl,rfl⟩
    ·exact⟨rfl,rfl,rfl,rfl⟩
   | _=>exact⟨rfl,rfl,rfl,rfl⟩
  | loop c=>exact(loop c hg hk st ex st' h hf).1
  | scope c =>
   simp only[zy,hk] at h
   obtain⟨ex1,st1,h1,h2⟩:=DZ h
   have s1:=ih _ (I4 hg) _ _ _ h1 hf
   have Pi:(∀ l,ex1 ≠ .goto l)∧ex=ex1∧st'=st1:=by
    cases ex1<;>first|(cases h2;exact⟨fun l e=>(by cases e),rfl,rfl⟩)|cases h2
   obtain⟨hgo,rfl,rfl⟩:=Pi
   exact⟨fun w0 B0=>Wm (s1.aw w0 B0) (fun l N T H e=>hgo l e.1.symm),s1.len,s1.dt,s1.fc⟩
  | region id ops draw =>
   simp only[zy,hk] at h
   obtain⟨out,h1,h2⟩:=vo.path_bind_some h
   have dst:∀ o∈ops.toList,∀ t,o.dst=some t→t<st.T.length:=by
    unfold regionEnd at h2
    split at h2
    ·split at h2
     ·rename_i hdr _
      simp only[drawOK,Bool.and_eq_true] at hdr
      exact Hq hdr.1.2
     ·cases h2
     ·cases h2
    ·split at h2
     ·rename_i hdr;exact Hq hdr
     ·cases h2
   obtain⟨e1,e2,e3,e4⟩:=QM hC (nt:=st.T.length) (fun g args H k nv fc r hr hf=>XZ hC (Na hC n).1 hr hf) ops.toList 0 st.T st.H [] st.nv st.dt st.fc out h1 hf rfl dst
   unfold regionEnd at h2
   cases draw with
   | true =>
    simp only at h2
    split at h2
    ·rename_i hdr htr
     rw[yw] at h2
     cases h2
     refine⟨fun w0 B0=>Wo hC.eq hC.mix hdr (e1 w0 B0 [] _ rfl ?_),e2,e4,e3⟩
     intro trf htf
     refine⟨?_,rfl,rfl,rfl,rfl⟩
     rw[← htf] at htr
     exact QL htr
    ·cases h2
    ·cases h2
   | false =>
    simp only at h2
    split at h2
    ·rename_i hdr
     rw[yw] at h2
     cases h2
     exact⟨fun w0 B0=>Wn hC.eq hdr (e1 w0 B0 [] _ rfl fun trf htf=>⟨rfl,rfl,rfl,rfl⟩),e2,e4,e3⟩
    ·cases h2
  | rangeFunc f ps a b=>simp only[zy,hk] at h;cases h
  | goto l=>simp only[zy,hk] at h;cases h
  | refuse w=>simp only[zy,hk] at h;cases h
end
theorem atL {C:xA} {E:xK} {s:vS} {key:I1} {H:Kh} (hC:zU C E) {n:Nat} {g:FuncId} (hg:∀ fn cd,C.P.funcs[g]? = some fn→fn.body=some cd→RZ C E s key H cd) {args:List SV} {nv:Nat} {a:SV} {vs:List Value} {v:Value} (h:(RY C key H n g args nv).path C.Φ s=some a) (ha:SV.dens s args=vs.map .v) (hv:a.den s = .v v) :
  PC C.P C.G g vs v:=by
 unfold RY at h
 split at h
 ·cases h
 ·rename_i fn hf
  split at h
  ·cases h
  ·rename_i cd hb
   split at h
   ·rename_i hl
    obtain⟨⟨ex,st⟩,h1,h2⟩:=vo.path_bind_some h
    have sp:=(ahg (E:=E) (s:=s) hC n).1 _ (hg fn cd hf hb) _ _ _ h1 (fun x hx=>by cases hx)
    have hlen:(zF args fn.ntmps).length=fn.ntmps:=KM _ _ (Nat.le_of_ble_eq_true hl)
    have hvl:vs.length=args.length:=by have:=congrArg List.length ha;rw[DU,List.length_map] at this;exact this.symm
    refine Wt E hf hb (hC.nm g fn hf (by rw[hb];rfl)) (by rw[hvl];exact hl) fun w=>?_
    have hA:=sp.aw w wX.nil
    simp only[hlen,QH,ha] at hA
    have keyR:∀ rs,Af C.P st.T st.H fn.results.toList=some rs→resS rs=a→∃ rs',CB C.P C.G (wE.den s st.T) (SH.den s st.H) fn.results.toList=some rs'∧Fa rs' = .v v:=fun rs hrs e =>
     ⟨_,KN s hrs,by rw[M8,e,hv]⟩
    have hx:(ex = .normal∨ex = .ret)∧∃ rs,Af C.P st.T st.H fn.results.toList=some rs∧resS rs=a:=by
     rcases QK h2 with⟨rfl,h3⟩|⟨rfl,h3⟩
     ·split at h3
      ·rename_i rs hrs;cases h3;exact⟨.inl rfl,rs,hrs,rfl⟩
      ·cases h3
     ·split at h3
      ·rename_i rs hrs;cases h3;exact⟨.inr rfl,rs,hrs,rfl⟩
      ·cases h3
    obtain⟨hx,rs,hrs,e⟩:=hx
    refine AW.mono (show AW _ cd (AL s ex st) 0 _ _ from hA) ?_
    rintro x N T H2 ⟨rfl,rfl,rfl,rfl⟩
    rcases hx with rfl|rfl
    ·exact keyR rs hrs e
    ·exact keyR rs hrs e
   ·cases h
theorem atM {C:xA} {E:xK} {key:I1} {H:Kh} (hC:zU C E) {n:Nat} {g:FuncId} (hg:∀ s fn cd,C.P.funcs[g]? = some fn→fn.body=some cd→RZ C E s key H cd) {ct:Ct} {t:vo SV} (h:RY C key H n g (ww ct.a (wm 0 (vD ct.a))) (vD ct.a).length=t) (hs:Gf (vD ct.a).length t=true)
  (l:List Int) (hl:l.length=(vD ct.a).length) (ho:okF C.Φ ct t l) :
  (vU C.Φ ct t l).length=(vD ct.r).length∧PC C.P C.G g (wJ ct.a l) (xG (wJ ct.r (vU C.Φ ct t l))):=by
 refine⟨X9 ho,?_⟩
 obtain⟨a,l',xs,h1,h2⟩:=ho
 obtain⟨h3,m,rfl⟩:=KR h1 (by rw[hl];exact hs)
 rw[← h] at h3
 obtain⟨h4,h5⟩:=Gc (vT (l++m)) (vD ct.a) 0
 rw[← hl,TG] at h4
 have hf:=Jt (vT (l++m)) h2
 refine atL hC (hg _) h3 (Ib h4 h5) ?_
 have:vU C.Φ ct t l=xs.map (X.den (vT (l++m))):=by unfold vU;simp only[h1,h2,Fu,id]
 rw[this]
 exact TH hf.1 (Nc _ _)
end Go.Proofs.YtemomocmfggiaaaGreatDoor
