import Derived.Test.YtemomocmfggiaaaGreatDoorZBU6
import Derived.Test.YtemomocmfggiaaaGreatDoorZCU6
set_option linter.unusedSimpArgs false
set_option linter.unusedVariables false
set_option maxRecDepth 100000
namespace Go.Proofs.YtemomocmfggiaaaGreatDoor
open Go.RowKit
section
variable {G:wD} {w:World} {s:vS}
end
def TJ:List Ae→Nat→Option Ct
 | [],_=>none
 | c::L,id=>match Nat.beq c.id id with|true=>some ⟨c.a ++ [.agg c.ks],c.r⟩|false=>TJ L id
theorem ads:∀ {L:List Ae} {id:Nat} {c:Ct},TJ L id=some c→∃ s∈L,s.id=id∧c=⟨s.a ++ [.agg s.ks],s.r⟩
 | [],id,c,h=>by cases h
 | s::L,id,c,h=>by
  simp only[TJ] at h
  split at h
  ·rename_i hb
   cases h
   exact⟨s,List.mem_cons_self,wR.1 hb,rfl⟩
  ·obtain⟨s',h1,h2⟩:=ads h
   exact⟨s',List.mem_cons_of_mem _ h1,h2⟩
def Nh (C:xA):FuncId→Option Ct:=fun g=>match C.nt g with|some c=>some c|none=>match C.ct g with|some c=>some c|none=>TJ (C.sl (g%1000000)) g
theorem aln {C:xA} {E:xK} (hC:Aw C E) {f:FuncId} {c:Ct} (h:Nh C f=some c) {l:List Int} (hl:l.length=(vD c.a).length):(C.Φ f l).length=(vD c.r).length:=by
 unfold Nh at h
 split at h
 ·rename_i c' hc;cases h;exact hC.nt f c hc l hl
 ·split at h
  ·rename_i c' hc;cases h;exact hC.ct f c hc l hl
  ·obtain⟨s,h1,rfl,rfl⟩:=ads h
   exact hC.sl _ s h1 l (by rw[hl];simp[vD,Sh.kinds])
structure TK (P:Program) (G:wD) (e:wO):Prop where
 two:Dp (vD e.ct.r)≤2
 ok:∀ l:List Int,l.length=(vD e.ct.a).length→(e.F l).length=(vD e.ct.r).length∧Ty P G e.g e.ct l (e.F l)
structure Yc (P:Program) (G:wD) (e:wO):Prop where
 two:Dp (vD e.ct.r)≤2
 ok:∀ l:List Int,l.length=(vD e.ct.a).length→(e.F l).length=(vD e.ct.r).length→Ty P G e.g e.ct l (e.F l)
theorem TK.c {P:Program} {G:wD} {e:wO} (h:TK P G e):Yc P G e:=⟨h.two,fun l hl _=>(h.ok l hl).2⟩
theorem Ni {C:xA} {E:xK} (hC:Aw C E) {ct:Ct} : ∀ {t:vo SV} {l:List Int},D9 (Nh C) ct l.length t=true→okF C.Φ ct t l
 | .leaf a,l,h=>by
  obtain⟨xs,hx⟩:=Option.isSome_iff_exists.1 (show(DX ct.r (Gg ct.r a)).isSome=true from h)
  exact⟨a,l,xs,rfl,hx⟩
 | .ite c a b,l,h=>by
  have h:=xk h;have h2:=xk h.2
  unfold okF
  simp only[zg]
  cases vG (c.ev l) with
  | true=>exact Ni hC h2.1
  | false=>exact Ni hC h2.2
 | .call f args base m t,l,h=>by
  simp only[D9] at h
  split at h
  ·rename_i c hc
   have h:=xk h;have h2:=xk h.2;have h3:=xk h2.2;have h4:=xk h3.2
   have e1:=wR.1 h3.1;have e2:=wR.1 h4.1
   unfold okF
   simp only[zg,Fu]
   have hl:=aln hC hc (l:=args.map (X.den (vT l))) (by rw[List.length_map];exact e1)
   rw[hl,e2]
   simp only[Nat.beq_refl]
   refine Ni hC ?_
   rw[List.length_append,hl,← e2];exact h4.2
  ·cases h
 | .stuck _,l,h=>by cases h
theorem Gh {C:xA} {E:xK} (hC:Aw C E) (n:Nat) {g:FuncId} {ct:Ct} {t:vo SV} (h:wM C n g (ww ct.a (wm 0 (vD ct.a))) (vD ct.a).length=t) (hs:D9 (Nh C) ct (vD ct.a).length t=true) :
  wh C.P C.G ⟨g,ct,vU C.Φ ct t⟩:=fun l hl=>adr hC.ok h (KS hs) l hl (Ni hC (by rw[hl];exact hs))
open Go.RowKit
def Nj (c:Ae):List VK:=vD c.a++c.ks
def Nk (C:xA) (fuel:Nat) (g:FuncId) (c:Ae):vo SV :=
 match C.P.funcs[g]? with
 | none=>.stuck "no such function"
 | some fn=>match fn.body with
  | none=>.stuck "no body"
  | some cd=>match Nat.ble (c.a.length+1) fn.ntmps with
   | true=>yO (vD c.a).length fun m=>yO (m+c.ks.length) fun nv=>(exec C fuel cd ⟨1,zF (ww c.a (wm 0 (vD c.a)) ++ [.sl 0 0 c.n c.n]) fn.ntmps,[(0,⟨EE c.ks (wm m c.ks),some c.t⟩)],nv,[],[]⟩).bind fun r=>match xZ 0 r.2.dt with
    | true=>.stuck "the slice is turned"
    | false=>match r.1 with
     | .normal=>(match Af C.P r.2.T r.2.H fn.results.toList with|some rs=>.leaf (resS rs)|none=>.stuck "results")
     | .ret=>(match Af C.P r.2.T r.2.H fn.results.toList with|some rs=>.leaf (resS rs)|none=>.stuck "results")
     | _=>.stuck "end"
   | false=>.stuck "arguments"
theorem Yd (s:vS):∀ (a b k:Nat),Ad s k (a+b)=Ad s k a++Ad s (k+a) b
 | 0,b,k=>by rw[Nat.zero_add];rfl
 | a+1,b,k=>by rw[show a+1+b=(a+b)+1 by omega,Ad,Yd s a b (k+1),Ad,show k+1+a=k+(a+1) by omega];rfl
theorem alo {C:xA} {E:xK} {s:vS} (hC:zU C E) {n:Nat} {g:FuncId} {c:Ae} {a:SV} {l:List Int} {v:Value} (h:(Nk C n g c).path C.Φ s=some a) (hl:Ad s 0 (Nj c).length=l) (hv:a.den s = .v v) :
  ∀ w b,Gl C.G w→(∀ x∈C.G,x.1≠b)→w.heap[b]? = some (.cells (wQ c.ks (l.drop (vD c.a).length)).toArray c.t (0,0)) →
  AC C.P g (wJ c.a l ++ [Value.slice (some ⟨b,0,none⟩) c.n c.n]).toArray w fun e w'=>e = .returned v∧vI w w':=by
 intro w b hG hgb hw
 unfold Nk at h
 split at h
 ·cases h
 ·rename_i fn hf
  split at h
  ·cases h
  ·rename_i cd hb
   split at h
   ·rename_i hle
    rw[yw,yw] at h
    obtain⟨⟨ex,st⟩,h1,h2⟩:=vo.path_bind_some h
    have sp:=(Na (E:=E) (s:=s) hC n).1 _ _ _ _ h1 (fun x hx=>by cases hx)
    have hle:=Nat.le_of_ble_eq_true hle
    have hk:(Nj c).length=(vD c.a).length+c.ks.length:=by unfold Nj;rw[List.length_append]
    rw[hk,Yd,Nat.zero_add] at hl
    have l1:(Ad s 0 (vD c.a).length).length=(vD c.a).length:=HY _ _ _
    have hd1:l.drop (vD c.a).length=Ad s (vD c.a).length c.ks.length:=by
     rw[← hl,List.drop_append_of_le_length (by omega),List.drop_of_length_le (by omega)];rfl
    have hd2:wJ c.a l=wJ c.a (Ad s 0 (vD c.a).length):=by rw[← hl,XX _ _ _ l1]
    rw[hd1] at hw
    rw[hd2]
    obtain⟨v1,v2⟩:=Gc s (vD c.a) 0
    obtain⟨u1,u2⟩:=Gc s c.ks (vD c.a).length
    have a1:=Ib v1 v2
    have b1:=Tx u1 u2
    have alen:(ww c.a (wm 0 (vD c.a))).length=c.a.length:=by rw[← DU s,a1,List.length_map,Nc]
    let e:Env:=⟨fun _=>b,fun _=>undef⟩
    let B:wX:=⟨[b],[0],e⟩
    let o:SO:=⟨EE c.ks (wm (vD c.a).length c.ks),some c.t⟩
    have hH:∀ k x,SH.den s [(0,o)] k=some x→k=0∧x = .own (SV.dens s o.c) c.t:=by
     intro k x hx
     unfold SH.den at hx
     simp only[hget] at hx
     split at hx
     ·rename_i hb0
      have:=wR.1 hb0
      simp only[Option.map_some,Option.some.injEq] at hx
      exact⟨this.symm,by rw[← hx];exact SO.den_own s rfl⟩
     ·cases hx
    have hlt:b<w.heap.size:=(Array.getElem?_eq_some_iff.1 hw).1
    have h00:SH.den s [(0,o)] 0=some (.own (SV.dens s o.c) c.t):=SH.den_get rfl rfl
    have R:wH C.G w B e (SH.den s [(0,o)]) w:=by
     refine⟨rfl,rfl,rfl,Nat.le_refl _,fun _ _ _=>rfl,hG,?_,?_,?_,?_,?_,?_,?_,?_,?_,fun k es hk=>by have:=(hH k _ hk).2;cases this⟩
     ·intro k c' t hk
      obtain⟨rfl,hx⟩:=hH k _ hk
      simp only[AO.own.injEq] at hx
      rw[hx.1,hx.2,b1,Ab];exact hw
     ·intro k c' t hk;exact .inr (by simp[B,e])
     ·intro k c' t hk x hx;exact hgb x hx
     ·intro k c' t k' c'' t' hk hk' _;rw[(hH k _ hk).1,(hH k' _ hk').1]
     ·intro k n' l' hk;have:=(hH k _ hk).2;cases this
     ·intro k n' l' _ _ _ hk;have:=(hH k _ hk).2;cases this
     ·intro k x hk r hr
      obtain⟨_,rfl⟩:=hH k x hk
      rw[AO.refs,b1,F3] at hr;simp at hr
     ·intro k hk
      have:k=0:=by simpa [B] using hk
      subst this
      exact⟨by rw[h00];simp,rfl,rfl⟩
     ·intro k n' l' hk;have:=(hH k _ hk).2;cases this
    have hbound:Dh (SH.den s [(0,o)]) 1:=by
     intro k hk
     cases hx:SH.den s [(0,o)] k with
     | none=>rfl
     | some x=>have:=(hH k x hx).1;omega
    have hlen:(zF (ww c.a (wm 0 (vD c.a)) ++ [.sl 0 0 c.n c.n]) fn.ntmps).length=fn.ntmps:=KM _ _ (by rw[List.length_append,alen];simpa using hle)
    have hA:=sp.aw w B
    simp only[hlen,QH] at hA
    have hx:xZ 0 st.dt=false∧(ex = .normal∨ex = .ret)∧∃ rs,Af C.P st.T st.H fn.results.toList=some rs∧resS rs=a:=by
     simp only at h2
     split at h2
     ·cases h2
     ·rename_i hdt
      refine⟨hdt,?_⟩
      rcases QK h2 with⟨rfl,h3⟩|⟨rfl,h3⟩
      ·split at h3
       ·rename_i rs hrs;cases h3;exact⟨.inl rfl,rs,hrs,rfl⟩
       ·cases h3
      ·split at h3
       ·rename_i rs hrs;cases h3;exact⟨.inr rfl,rs,hrs,rfl⟩
       ·cases h3
    obtain⟨hdt,hx,rs,hrs,he⟩:=hx
    refine Hu hf (hC.nm g fn hf (by rw[hb];rfl)) (by rw[hb];rfl) ?_
    have hcalls:=Ws (E:=E) (args:=SV.dens s (ww c.a (wm 0 (vD c.a)) ++ [.sl 0 0 c.n c.n])) (R:=fun r H=>H=SH.den s st.H∧r = .v v) hf hb (by rw[DU,List.length_append,alen];simpa using hle) R hbound (fun x hx r hr=>by
     rw[Jp,a1] at hx
     rcases List.mem_append.1 hx with hx|hx
     ·obtain⟨y,_,rfl⟩:=List.mem_map.1 hx;simp[AV.refs] at hr
     ·simp[SV.dens,SV.den] at hx;subst hx
      simp[AV.refs] at hr;subst hr
      rw[h00];simp) (by
     refine AW.mono (show AW _ cd (AL s ex st) _ _ _ from hA) ?_
     rintro x N T H ⟨rfl,rfl,rfl,rfl⟩
     have hres:=KN (G:=C.G) s hrs
     have hrv:Fa (SV.dens s rs) = .v v:=by rw[M8,he,hv]
     rcases hx with rfl|rfl
     ·exact⟨_,hres,rfl,hrv⟩
     ·exact⟨_,hres,rfl,hrv⟩)
    have hvals:AV.vals e (SV.dens s (ww c.a (wm 0 (vD c.a)) ++ [.sl 0 0 c.n c.n]))=wJ c.a (Ad s 0 (vD c.a).length) ++ [Value.slice (some ⟨b,0,none⟩) c.n c.n]:=by
     rw[Jp,P7,a1,Ab];rfl
    rw[hvals] at hcalls
    refine hcalls.mono ?_
    rintro en w' ⟨r,e2,H2,rfl,⟨rfl,rfl⟩,R2⟩
    refine⟨rfl,R2.os,R2.tape,R2.output,R2.size,fun k hk=>?_⟩
    by_cases hkb:k=b
    ·subst hkb
     have hg:hget st.H 0=some o:=(sp.dt 0 hdt).2.trans rfl
     have hown:=R2.own 0 _ _ (SH.den_get hg rfl)
     have henv:=(R2.env 0 (by simp[B])).2.1
     have henv:e2.blk 0=k:=henv
     rw[henv,b1,Ab] at hown
     rw[hown,hw]
    ·exact R2.old k hk (by simpa [B] using hkb)
   ·cases h
structure yQ where
 g:FuncId
 c:Ae
 F:List Int→List Int
structure Ij (P:Program) (G:wD) (e:yQ):Prop where
 ok:∀ l:List Int,l.length=(Nj e.c).length→(e.F l).length=(vD e.c.r).length∧Tz P G e.g e.c l (e.F l)
theorem Ye {C:xA} {E:xK} (hC:Aw C E) (n:Nat) {g:FuncId} {c:Ae} {t:vo SV} (h:Nk C n g c=t) (hs:D9 (Nh C) ⟨c.a,c.r⟩ (Nj c).length t=true) :
  Ij C.P C.G ⟨g,c,vU C.Φ ⟨c.a,c.r⟩ t⟩:=by
 refine⟨fun l hl=>?_⟩
 obtain ho:=Ni hC (ct:=⟨c.a,c.r⟩) (t:=t) (l:=l) (by rw[hl];exact hs)
 refine⟨X9 ho,?_⟩
 obtain⟨a,l',xs,h1,h2⟩:=ho
 obtain⟨h3,m,rfl⟩:=KR h1 (by rw[hl];exact KS hs)
 rw[← h] at h3
 have hf:=Jt (vT (l++m)) h2
 have hF:vU C.Φ ⟨c.a,c.r⟩ t l=xs.map (X.den (vT (l++m))):=by unfold vU;simp only[h1,h2,Fu,id]
 have hv:=TH hf.1 (Nc _ _)
 have:=alo hC.ok h3 (l:=l) (by rw[← hl];exact TG l m) hv
 intro w b hG hgb hw
 show AC C.P g _ w fun e w'=>e = .returned (xG (wJ c.r (vU C.Φ ⟨c.a,c.r⟩ t l)))∧vI w w'
 rw[hF]
 exact this w b hG hgb hw
structure Yf (P:Program) (G:wD) (e:yQ):Prop where
 ok:∀ l:List Int,l.length=(Nj e.c).length→(e.F l).length=(vD e.c.r).length→Tz P G e.g e.c l (e.F l)
theorem Ij.c {P:Program} {G:wD} {e:yQ} (h:Ij P G e):Yf P G e:=⟨fun l hl _=>(h.ok l hl).2⟩
open Go.RowKit
def Yg:Value→Value→Option Bool
 | .agg xs,.agg ys=>match xs.toList,ys.toList with
  | [.int .u64 a,.int .u64 b],[.int .u64 c,.int .u64 d]=>some (a==c&&b==d)
  | _,_=>none
 | _,_=>none
def Yh:Value→Value→Option Bool
 | .agg xs,.agg ys=>match xs.toList,ys.toList with
  | [.int .u64 a,.int .u64 b,.int .u64 c,.int .u64 d],[.int .u64 a',.int .u64 b',.int .u64 c',.int .u64 d']=>some (a==a'&&(b==b'&&(c==c'&&d==d')))
  | _,_=>none
 | _,_=>none
def Yi:Value→Value→Option Bool
 | .agg xs,.agg ys=>match xs.toList,ys.toList with
  | [.int .u64 a,.int .u64 b,.int .u8 c],[.int .u64 a',.int .u64 b',.int .u8 c']=>some ((a==a'&&b==b')&&c==c')
  | _,_=>none
 | _,_=>none
def Yj:Value→Value→Option Bool
 | .func _ _ _,.nilFunc=>some false
 | .nilFunc,.nilFunc=>some true
 | _,_=>none
def QN:Value→Value→Option Bool
 | .agg xs,.agg ys=>match xs.toList,ys.toList with
  | [.int .i64 a,.int .u64 b,.int .u64 c,.int .u8 d],[.int .i64 a',.int .u64 b',.int .u64 c',.int .u8 d']=>some (a==a'&&((b==b'&&c==c')&&d==d'))
  | _,_=>none
 | _,_=>none
def outT (t:TypeId):Bool :=
 Nat.beq t 30 ||
  false
def Ju (t:TypeId) (x y:Value):Option Bool :=
 if t=24 then Yg x y else if t=177 then Yh x y else if t=71 then Yi x y else if t=36 then Yj x y else none
def Gi (t:TypeId) (x y:Value):Option Bool:=match outT t with|true=>QN x y|false=>Ju t x y
def eE:xK:=fun op t x y=>match op with
 | .eql=>match Gi t x y with|some b=>some (.bool b)|none=>none
 | .neq=>match Gi t x y with|some b=>some (.bool (!b))|none=>none
 | _=>none
theorem QO (w:World) {k:IntKind} {e:TypeId} (hu:Tryz.prog.underlying e=some (.int k)) (xs:Array Value) (i:Nat) (v:Value) (h:xs[i]? = some v):(part e xs i).run Tryz.prog w = .ok v w:=by
 simp[part,isAgg,run_underlying hu,h]
theorem alp:(Tryz.prog.fieldsOf 24).toList.map (fun f=>(f.name != "_",f.offset,f.type)) = [(true,0,22),(true,1,22)]:=by kernel_rfl
theorem alq:(Tryz.prog.fieldsOf 71).toList.map (fun f=>(f.name != "_",f.offset,f.type)) = [(true,0,24),(true,2,28)]:=by kernel_rfl
theorem Yk (w:World) (n:Nat) (a b c d:Int):(Op.equalIn (n+2) 24 (.agg #[.int .u64 a,.int .u64 b]) (.agg #[.int .u64 c,.int .u64 d])).run Tryz.prog w = .ok (a==c&&b==d) w:=by
 have hu:Tryz.prog.underlying 22=some (.int .u64):=by kernel_rfl
 rw[run_equalIn_struct w (n+1) _ _ _ (by kernel_rfl) (by kernel_rfl)]
 obtain⟨f0,f1,hf,h0,h1⟩:∃ f0 f1:Field,(Tryz.prog.fieldsOf 24).toList = [f0,f1]∧(f0.name ≠ "_" ∧ f0.offset=0∧f0.type=22)∧(f1.name ≠ "_" ∧ f1.offset=1∧f1.type=22):=by
  have:=alp
  match hl:(Tryz.prog.fieldsOf 24).toList with
  | [f0,f1]=>rw[hl] at this;simp at this;exact⟨f0,f1,rfl,⟨by simpa using this.1.1,this.1.2.1,this.1.2.2⟩,⟨by simpa using this.2.1,this.2.2.1,this.2.2.2⟩⟩
  | []=>rw[hl] at this;simp at this
  | [_]=>rw[hl] at this;simp at this
  | _::_::_::_=>rw[hl] at this;simp at this
 rw[hf]
 have p0 (x y:Value):(part 22 #[x,y] 0).run Tryz.prog w = .ok x w:=QO w hu _ _ _ rfl
 have p1 (x y:Value):(part 22 #[x,y] 1).run Tryz.prog w = .ok y w:=QO w hu _ _ _ rfl
 have q (x y:Int):(Op.equalIn (n+1) 22 (.int .u64 x) (.int .u64 y)).run Tryz.prog w = .ok (x==y) w:=run_equalIn_int w n _ .u64 .u64 x y hu
 simp only[Op.eqFields,h0.1,h0.2.1,h0.2.2,h1.1,h1.2.1,h1.2.2,ne_eq,not_true_eq_false,not_false_eq_true,if_true,Sem.run_bind,p0,p1,q,Result.andThen_ok]
 cases (a==c)<;>cases hbd:(b==d)<;>simp[p1,q,hbd,Op.eqFields]
theorem alr (w:World) (a b a' b' c c':Int):(Op.equalIn 10000 71 (.agg #[.int .u64 a,.int .u64 b,.int .u8 c]) (.agg #[.int .u64 a',.int .u64 b',.int .u8 c'])).run Tryz.prog w = .ok ((a==a'&&b==b')&&c==c') w:=by
 have hu:Tryz.prog.underlying 28=some (.int .u8):=by kernel_rfl
 rw[run_equalIn_struct w 9999 _ _ _ (by kernel_rfl) (by kernel_rfl)]
 obtain⟨f0,f1,hf,h0,h1⟩:∃ f0 f1:Field,(Tryz.prog.fieldsOf 71).toList = [f0,f1]∧(f0.name ≠ "_" ∧ f0.offset=0∧f0.type=24)∧(f1.name ≠ "_" ∧ f1.offset=2∧f1.type=28):=by
  have:=alq
  match hl:(Tryz.prog.fieldsOf 71).toList with
  | [f0,f1]=>rw[hl] at this;simp at this;exact⟨f0,f1,rfl,⟨by simpa using this.1.1,this.1.2.1,this.1.2.2⟩,⟨by simpa using this.2.1,this.2.2.1,this.2.2.2⟩⟩
  | []=>rw[hl] at this;simp at this
  | [_]=>rw[hl] at this;simp at this
  | _::_::_::_=>rw[hl] at this;simp at this
 rw[hf]
 have p0 (x y z:Value):(part 24 #[x,y,z] 0).run Tryz.prog w = .ok (.agg #[x,y]) w:=by
  simp[part,Mg (P:=Tryz.prog) (t:=24) (b:=true) (by kernel_rfl),run_sizeOf (P:=Tryz.prog) (t:=24) (s:=2) (by kernel_rfl)]
 have p1 (x y z:Value):(part 28 #[x,y,z] 2).run Tryz.prog w = .ok z w:=QO w hu _ _ _ rfl
 have q (x y:Int):(Op.equalIn 9999 28 (.int .u8 x) (.int .u8 y)).run Tryz.prog w = .ok (x==y) w:=run_equalIn_int w 9998 _ .u8 .u8 x y hu
 have qb:=Yk w 9997 a b a' b'
 simp only[Op.eqFields,h0.1,h0.2.1,h0.2.2,h1.1,h1.2.1,h1.2.2,ne_eq,not_true_eq_false,not_false_eq_true,if_true,Sem.run_bind,p0,p1,q,qb,Result.andThen_ok]
 cases (a==a'&&b==b')<;>cases hcd:(c==c')<;>simp[p1,q,hcd,Op.eqFields]
theorem als (w:World) (a b c d a' b' c' d':Int):(Op.equalIn 10000 177 (.agg #[.int .u64 a,.int .u64 b,.int .u64 c,.int .u64 d]) (.agg #[.int .u64 a',.int .u64 b',.int .u64 c',.int .u64 d'])).run Tryz.prog w = .ok (a==a'&&(b==b'&&(c==c'&&d==d'))) w:=by
 have hu:Tryz.prog.underlying 22=some (.int .u64):=by kernel_rfl
 obtain⟨i,hi⟩:∃ i,Tryz.prog.info? 22=some i:=Option.isSome_iff_exists.1 (by kernel_rfl)
 rw[run_equalIn_array (P:=Tryz.prog) (w:=w) (d:=9999) (e:=22) (n:=4) _ _ (by kernel_rfl) hi]
 rw[show Tryz.prog.cellsOf 22=1 by kernel_rfl,show List.range 4 = [0,1,2,3] by decide]
 have p0 (x0 x1 x2 x3:Value):(part 22 #[x0,x1,x2,x3] 0).run Tryz.prog w = .ok x0 w:=SB w hu _ _ _ rfl
 have p1 (x0 x1 x2 x3:Value):(part 22 #[x0,x1,x2,x3] 1).run Tryz.prog w = .ok x1 w:=SB w hu _ _ _ rfl
 have p2 (x0 x1 x2 x3:Value):(part 22 #[x0,x1,x2,x3] 2).run Tryz.prog w = .ok x2 w:=SB w hu _ _ _ rfl
 have p3 (x0 x1 x2 x3:Value):(part 22 #[x0,x1,x2,x3] 3).run Tryz.prog w = .ok x3 w:=SB w hu _ _ _ rfl
 have q (x y:Int):(Op.equalIn 9999 22 (.int .u64 x) (.int .u64 y)).run Tryz.prog w = .ok (x==y) w:=run_equalIn_int w 9998 _ .u64 .u64 x y hu
 simp only[Op.eqItems,Sem.run_bind,Nat.mul_one]
 rw[p0,Result.andThen_ok,p0,Result.andThen_ok,q,Result.andThen_ok]
 cases (a==a')
 ·rfl
 rw[if_neg (by decide)]
 simp only[Sem.run_bind]
 rw[p1,Result.andThen_ok,p1,Result.andThen_ok,q,Result.andThen_ok]
 cases (b==b')
 ·rfl
 rw[if_neg (by decide)]
 simp only[Sem.run_bind]
 rw[p2,Result.andThen_ok,p2,Result.andThen_ok,q,Result.andThen_ok]
 cases (c==c')
 ·rfl
 rw[if_neg (by decide)]
 simp only[Sem.run_bind]
 rw[p3,Result.andThen_ok,p3,Result.andThen_ok,q,Result.andThen_ok]
 cases (d==d')
 ·rfl
 rfl
theorem alu:(Tryz.prog.fieldsOf 30).toList.map (fun f=>(f.name != "_",f.offset,f.type)) = [(true,0,27),(true,1,24),(true,3,28)]:=by kernel_rfl
theorem alv (w:World) (a b c d a' b' c' d':Int):(Op.equalIn 10000 30 (.agg #[.int .i64 a,.int .u64 b,.int .u64 c,.int .u8 d]) (.agg #[.int .i64 a',.int .u64 b',.int .u64 c',.int .u8 d'])).run Tryz.prog w = .ok (a==a'&&((b==b'&&c==c')&&d==d')) w:=by
 have hu:Tryz.prog.underlying 28=some (.int .u8):=by kernel_rfl
 have he:Tryz.prog.underlying 27=some (.int .i64):=by kernel_rfl
 rw[run_equalIn_struct w 9999 _ _ _ (by kernel_rfl) (by kernel_rfl)]
 obtain⟨f0,f1,f2,hf,h0,h1,h2⟩:∃ f0 f1 f2:Field,(Tryz.prog.fieldsOf 30).toList = [f0,f1,f2]∧(f0.name ≠ "_" ∧ f0.offset=0∧f0.type=27)∧(f1.name ≠ "_" ∧ f1.offset=1∧f1.type=24)∧(f2.name ≠ "_" ∧ f2.offset=3∧f2.type=28):=by
  have:=alu
  match hl:(Tryz.prog.fieldsOf 30).toList with
  | [f0,f1,f2]=>rw[hl] at this;simp at this;exact⟨f0,f1,f2,rfl,⟨by simpa using this.1.1,this.1.2.1,this.1.2.2⟩,⟨by simpa using this.2.1.1,this.2.1.2.1,this.2.1.2.2⟩,⟨by simpa using this.2.2.1,this.2.2.2.1,this.2.2.2.2⟩⟩
  | []=>rw[hl] at this;simp at this
  | [_]=>rw[hl] at this;simp at this
  | [_,_]=>rw[hl] at this;simp at this
  | _::_::_::_::_=>rw[hl] at this;simp at this
 rw[hf]
 have p0 (x y z u:Value):(part 27 #[x,y,z,u] 0).run Tryz.prog w = .ok x w:=QO w he _ _ _ rfl
 have p1 (x y z u:Value):(part 24 #[x,y,z,u] 1).run Tryz.prog w = .ok (.agg #[y,z]) w:=by
  simp[part,Mg (P:=Tryz.prog) (t:=24) (b:=true) (by kernel_rfl),run_sizeOf (P:=Tryz.prog) (t:=24) (s:=2) (by kernel_rfl)]
 have p2 (x y z u:Value):(part 28 #[x,y,z,u] 3).run Tryz.prog w = .ok u w:=QO w hu _ _ _ rfl
 have q0 (x y:Int):(Op.equalIn 9999 27 (.int .i64 x) (.int .i64 y)).run Tryz.prog w = .ok (x==y) w:=run_equalIn_int w 9998 _ .i64 .i64 x y he
 have q2 (x y:Int):(Op.equalIn 9999 28 (.int .u8 x) (.int .u8 y)).run Tryz.prog w = .ok (x==y) w:=run_equalIn_int w 9998 _ .u8 .u8 x y hu
 have qb:=Yk w 9997 b c b' c'
 simp only[Op.eqFields,h0.1,h0.2.1,h0.2.2,h1.1,h1.2.1,h1.2.2,h2.1,h2.2.1,h2.2.2,ne_eq,not_true_eq_false,not_false_eq_true,if_true,Sem.run_bind,p0,p1,p2,q0,q2,qb,Result.andThen_ok]
 cases hab:(a==a')
 ·simp
 ·cases hbc:(b==b'&&c==c')<;>cases hdd:(d==d')<;>simp[p0,p1,p2,q0,q2,qb,hbc,hdd,Op.eqFields]
theorem alx {t:TypeId} {x y:Value} {b:Bool} (ht:outT t=true) (h:QN x y=some b) (w:World):(∀ op xo yo,(eqGuard op t xo yo x y).run Tryz.prog w = .ok () w)∧(binOp .eql t x y).run Tryz.prog w = .ok (.bool b) w∧(binOp .neq t x y).run Tryz.prog w = .ok (.bool (!b)) w:=by
 have ht2:t=30:=by
  unfold outT at ht;rw[Bool.or_false] at ht;exact wR.1 ht
 subst ht2
 have agg:∀ (xs ys:Array Value),Tryz.prog.eqGuardType Tryz.prog.depth 30=false→(Op.equalIn 10000 30 (.agg xs) (.agg ys)).run Tryz.prog w = .ok b w →
   (∀ op xo yo,(eqGuard op 30 xo yo (.agg xs) (.agg ys)).run Tryz.prog w = .ok () w)∧(binOp .eql 30 (.agg xs) (.agg ys)).run Tryz.prog w = .ok (.bool b) w∧(binOp .neq 30 (.agg xs) (.agg ys)).run Tryz.prog w = .ok (.bool (!b)) w:=by
  intro xs ys hg he
  refine⟨fun op xo yo=>run_eqGuard_agg w op _ xo yo xs ys hg,?_,?_⟩
  ·rw[run_eql_struct,he];rfl
  ·rw[run_neq_struct,he];rfl
 have lst:∀ {xs:Array Value} {l:List Value},xs.toList=l→xs=l.toArray:=fun h=>by rw[← h]
 unfold QN at h
 split at h
 ·split at h
  ·rename_i h1 h2
   cases h
   rw[lst h1,lst h2]
   exact agg _ _ (by kernel_rfl) (alv w _ _ _ _ _ _ _ _)
  ·cases h
 ·cases h
theorem aly {t:TypeId} {x y:Value} {b:Bool} (h:Ju t x y=some b) (w:World):(∀ op xo yo,(eqGuard op t xo yo x y).run Tryz.prog w = .ok () w)∧(binOp .eql t x y).run Tryz.prog w = .ok (.bool b) w∧(binOp .neq t x y).run Tryz.prog w = .ok (.bool (!b)) w:=by
 have agg:∀ (xs ys:Array Value),Tryz.prog.eqGuardType Tryz.prog.depth t=false→(Op.equalIn 10000 t (.agg xs) (.agg ys)).run Tryz.prog w = .ok b w →
   (∀ op xo yo,(eqGuard op t xo yo (.agg xs) (.agg ys)).run Tryz.prog w = .ok () w)∧(binOp .eql t (.agg xs) (.agg ys)).run Tryz.prog w = .ok (.bool b) w∧(binOp .neq t (.agg xs) (.agg ys)).run Tryz.prog w = .ok (.bool (!b)) w:=by
  intro xs ys hg he
  refine⟨fun op xo yo=>run_eqGuard_agg w op t xo yo xs ys hg,?_,?_⟩
  ·rw[run_eql_struct,he];rfl
  ·rw[run_neq_struct,he];rfl
 have lst:∀ {xs:Array Value} {l:List Value},xs.toList=l→xs=l.toArray:=fun h=>by rw[← h]
 unfold Ju at h
 split at h
 ·rename_i ht;subst ht
  unfold Yg at h
  split at h
  ·split at h
   ·rename_i h1 h2
    cases h
    rw[lst h1,lst h2]
    exact agg _ _ (by kernel_rfl) (Yk w 9998 _ _ _ _)
   ·cases h
  ·cases h
 ·split at h
  ·rename_i ht;subst ht
   unfold Yh at h
   split at h
   ·split at h
    ·rename_i h1 h2
     cases h
     rw[lst h1,lst h2]
     exact agg _ _ (by kernel_rfl) (als w _ _ _ _ _ _ _ _)
    ·cases h
   ·cases h
  ·split at h
   ·rename_i ht;subst ht
    unfold Yi at h
    split at h
    ·split at h
     ·rename_i h1 h2
      cases h
      rw[lst h1,lst h2]
      exact agg _ _ (by kernel_rfl) (alr w _ _ _ _ _ _)
     ·cases h
    ·cases h
   ·split at h
    ·rename_i ht;subst ht
     have hu:=Tryz.underlying36
     unfold Yj at h
     split at h
     ·cases h
      refine⟨fun op xo yo=>by cases op<;>rfl,?_,?_⟩
      ·simp only[binOp];simp[Op.equal,Op.maxDepth]
       show((Op.equalIn (9999+1) _ _ _).run _ w).andThen _=_
       rw[Op.equalIn];simp[run_underlying hu]
      ·simp only[binOp];simp[Op.equal,Op.maxDepth]
       show((Op.equalIn (9999+1) _ _ _).run _ w).andThen _=_
       rw[Op.equalIn];simp[run_underlying hu]
     ·cases h
      refine⟨fun op xo yo=>by cases op<;>rfl,?_,?_⟩
      ·simp only[binOp];simp[Op.equal,Op.maxDepth]
       show((Op.equalIn (9999+1) _ _ _).run _ w).andThen _=_
       rw[Op.equalIn];simp[run_underlying hu]
      ·simp only[binOp];simp[Op.equal,Op.maxDepth]
       show((Op.equalIn (9999+1) _ _ _).run _ w).andThen _=_
       rw[Op.equalIn];simp[run_underlying hu]
     ·cases h
    ·cases h
theorem Ym {t:TypeId} {x y:Value} {b:Bool} (h:Gi t x y=some b) (w:World):(∀ op xo yo,(eqGuard op t xo yo x y).run Tryz.prog w = .ok () w)∧(binOp .eql t x y).run Tryz.prog w = .ok (.bool b) w∧(binOp .neq t x y).run Tryz.prog w = .ok (.bool (!b)) w:=by
 unfold Gi at h
 split at h
 ·rename_i ht;exact alx ht h w
 ·exact aly h w
theorem TM {t:TypeId} (ho:outT t=false) (x y:Value):Gi t x y=Ju t x y:=by unfold Gi;rw[ho]
theorem alz {t:TypeId} (ho:outT t=true) (x y:Value):Gi t x y=QN x y:=by unfold Gi;rw[ho]
theorem Yn:Hf Tryz.prog eE:=by
 intro op t x y v h xo yo w
 unfold eE at h
 split at h
 ·split at h
  ·rename_i b hb
   cases h
   obtain⟨h1,h2,h3⟩:=Ym hb w
   simp only[Sem.run_bind,h1,h2,Result.andThen_ok]
  ·cases h
 ·split at h
  ·rename_i b hb
   cases h
   obtain⟨h1,h2,h3⟩:=Ym hb w
   simp only[Sem.run_bind,h1,h3,Result.andThen_ok]
  ·cases h
 ·cases h
def Ai:List IntKind→List SV→List SV→Option X
 | [],[],[]=>some (.lit (.ofNat 1))
 | k::ks,.int k1 a::l,.int k2 b::m=>match zT k k1,zT k k2,Ai ks l m with
  | true,true,some r=>some (mkAnd (yP .eql k a b) r)
  | _,_,_=>none
 | _,_,_=>none
def KT:List IntKind→List Int→List Value
 | k::ks,n::ns=>.int k n::KT ks ns
 | _,_=>[]
def Jv:List Int→List Int→Bool
 | a::us,b::zs=>a==b&&Jv us zs
 | _,_=>true
theorem adt (s:vS):∀ {ks:List IntKind} {l m:List SV} {r:X},Ai ks l m=some r→∃ us zs:List Int,SV.dens s l=(KT ks us).map .v∧SV.dens s m=(KT ks zs).map .v∧us.length=ks.length∧zs.length=ks.length∧(r.den s != 0)=Jv us zs
 | [],[],[],r,h=>by cases h;exact⟨[],[],rfl,rfl,rfl,rfl,rfl⟩
 | k::ks,.int k1 a::l,.int k2 b::m,r,h=>by
  simp only[Ai] at h
  split at h
  ·rename_i q h1 h2 h3
   cases h
   have h1:=Be h1;have h2:=Be h2;subst h1;subst h2
   obtain⟨us,zs,e1,e2,e3,e4,e5⟩:=adt s h3
   refine⟨a.den s::us,b.den s::zs,?_,?_,by simp[e3],by simp[e4],?_⟩
   ·rw[SV.dens,e1];rfl
   ·rw[SV.dens,e2];rfl
   ·rw[akf,yN,Jk,e5]
    simp only[vX,yN,Jv]
  ·cases h
 | [],[],_::_,r,h=>by simp[Ai] at h
 | [],_::_,_,r,h=>by simp[Ai] at h
 | _::_,[],_,r,h=>by simp[Ai] at h
 | _::_,.int _ _::_,[],r,h=>by simp[Ai] at h
 | _::_,.int _ _::_,.v _::_,r,h=>by simp[Ai] at h
 | _::_,.int _ _::_,.bool _::_,r,h=>by simp[Ai] at h
 | _::_,.int _ _::_,.loc _ _::_,r,h=>by simp[Ai] at h
 | _::_,.int _ _::_,.sl _ _ _ _::_,r,h=>by simp[Ai] at h
 | _::_,.int _ _::_,.fn _ _ _::_,r,h=>by simp[Ai] at h
 | _::_,.int _ _::_,.tup _::_,r,h=>by simp[Ai] at h
 | _::_,.int _ _::_,.agg _::_,r,h=>by simp[Ai] at h
 | _::_,.v _::_,_,r,h=>by simp[Ai] at h
 | _::_,.bool _::_,_,r,h=>by simp[Ai] at h
 | _::_,.loc _ _::_,_,r,h=>by simp[Ai] at h
 | _::_,.sl _ _ _ _::_,_,r,h=>by simp[Ai] at h
 | _::_,.fn _ _ _::_,_,r,h=>by simp[Ai] at h
 | _::_,.tup _::_,_,r,h=>by simp[Ai] at h
 | _::_,.agg _::_,_,r,h=>by simp[Ai] at h
def TN:SV→Option (List SV)
 | .agg l=>some l
 | .v (.agg cs)=>some (cs.toList.map Bp)
 | _=>none
theorem adu {s:vS} {x:SV} {l:List SV} {vs:List Value} (h:TN x=some l) (hd:SV.dens s l=vs.map .v):x.den s = .v (.agg vs.toArray):=by
 unfold TN at h
 split at h
 ·cases h;simp only[SV.den,hd,SN]
 ·rename_i cs
  cases h
  rw[EA] at hd
  have:=congrArg yf hd
  rw[Jm,Jm] at this
  have:=Option.some.inj this
  simp only[SV.den,← this]
 ·cases h
def TP:SV→Option (Option Value)
 | .v .nilFunc=>some none
 | .v (.func f a c)=>some (some (.func f a c))
 | .fn f [] []=>some (some (.func f #[] #[]))
 | _=>none
def adv (t:TypeId):Option (List IntKind):=match outT t with
 | true=>some [.i64,.u64,.u64,.u8]
 | false=>match Nat.beq t 24 with
 | true=>some [.u64,.u64]
 | false=>match Nat.beq t 177 with
  | true=>some [.u64,.u64,.u64,.u64]
  | false=>match Nat.beq t 71 with
   | true=>some [.u64,.u64,.u8]
   | false=>none
def QP:MW:=fun t x y=>match adv t with
 | some ks=>match TN x,TN y with
  | some l,some m=>Ai ks l m
  | _,_=>none
 | none=>match Nat.beq t 36 with
  | true=>match TP x,TP y with
   | some (some _),some none=>some (.lit (.ofNat 0))
   | some none,some none=>some (.lit (.ofNat 1))
   | _,_=>none
  | false=>none
theorem Yo:Ti Tryz.prog QP eE:=by
 intro t x y r s h
 unfold QP at h
 have pb:∀ (u v:List Value) op,Aq Tryz.prog op t (.agg u.toArray) (.agg v.toArray)=none:=fun u v op=>rfl
 have fin:∀ (a b:Value) (q:Bool),Aq Tryz.prog .eql t a b=none→Aq Tryz.prog .neq t a b=none→Gi t a b=some q→x.den s = .v a→y.den s = .v b→(r.den s != 0)=q →
   ∃ a b,x.den s = .v a∧y.den s = .v b∧Aq Tryz.prog .eql t a b=none∧Aq Tryz.prog .neq t a b=none∧eE .eql t a b=some (.bool (r.den s != 0))∧eE .neq t a b=some (.bool (!(r.den s != 0))):=fun a b q h1 h2 h3 h4 h5 h6 =>
  ⟨a,b,h4,h5,h1,h2,by simp only[eE,h3,h6],by simp only[eE,h3,h6]⟩
 split at h
 ·rename_i ks hk
  split at h
  ·rename_i l m hl hm
   obtain⟨us,zs,e1,e2,e3,e4,e5⟩:=adt s h
   have hx:=adu hl e1
   have hy:=adu hm e2
   refine fin _ _ (Jv us zs) (pb _ _ _) (pb _ _ _) ?_ hx hy e5
   unfold adv at hk
   split at hk
   ·rename_i ho
    cases hk
    match us,zs,e3,e4 with
    | [a,b,c,d],[a',b',c',d'],_,_ =>
     rw[alz ho]
     simp only[QN,KT,Jv,Bool.and_true,Bool.and_assoc]
   rename_i ho
   split at hk
   ·rename_i ht
    cases hk
    have ht:=wR.1 ht
    match us,zs,e3,e4 with
    | [a,b],[c,d],_,_ =>
     rw[TM ho]
     unfold Ju
     rw[if_pos ht]
     simp only[Yg,KT,Jv,Bool.and_true]
   ·rename_i ht0
    split at hk
    ·rename_i ht
     cases hk
     have ht:=wR.1 ht
     match us,zs,e3,e4 with
     | [a,b,c,d],[a',b',c',d'],_,_ =>
      rw[TM ho]
      unfold Ju
      rw[if_neg (fun e=>by rw[e] at ht0;simp at ht0),if_pos ht]
      simp only[Yh,KT,Jv,Bool.and_true]
    ·rename_i ht1
     split at hk
     ·rename_i ht
      cases hk
      have ht:=wR.1 ht
      match us,zs,e3,e4 with
      | [a,b,c],[a',b',c'],_,_ =>
       rw[TM ho]
       unfold Ju
       rw[if_neg (fun e=>by rw[e] at ht0;simp at ht0),if_neg (fun e=>by rw[e] at ht1;simp at ht1),if_pos ht]
       simp only[Yi,KT,Jv,Bool.and_true,Bool.and_assoc]
     ·cases hk
  ·cases h
 ·split at h
  ·rename_i hk ht
   have ht:=wR.1 ht
   have hf:∀ {z:SV} {o:Option Value},TP z=some o→z.den s = .v (match o with|none=>.nilFunc|some v=>v)∧∀ v,o=some v→∃ f a c,v = .func f a c:=fun {z} {o} hz=>by
    unfold TP at hz
    split at hz
    ·cases hz;exact⟨rfl,fun v hv=>by cases hv⟩
    ·cases hz;exact⟨rfl,fun v hv=>by cases hv;exact⟨_,_,_,rfl⟩⟩
    ·cases hz;exact⟨rfl,fun v hv=>by cases hv;exact⟨_,_,_,rfl⟩⟩
    ·cases hz
   have hne:t≠24∧t≠177∧t≠71:=by rw[ht];decide
   have ho:outT t=false:=by rw[ht];rfl
   have at':∀ a b,Gi t a b=Yj a b:=fun a b=>by
    rw[TM ho];unfold Ju;rw[if_neg hne.1,if_neg hne.2.1,if_neg hne.2.2,if_pos ht]
   split at h
   ·rename_i v h1 h2
    cases h
    obtain⟨hx,hv⟩:=hf h1
    obtain⟨hy,_⟩:=hf h2
    obtain⟨f,a,c,rfl⟩:=hv v rfl
    exact fin _ _ false rfl rfl (by rw[at'];rfl) hx hy rfl
   ·rename_i h1 h2
    cases h
    obtain⟨hx,_⟩:=hf h1
    obtain⟨hy,_⟩:=hf h2
    exact fin _ _ true rfl rfl (by rw[at'];rfl) hx hy rfl
   ·cases h
  ·cases h
open Go.RowKit
noncomputable def cE:xA:=⟨Tryz.prog,gG,QP,fun _=>none,fun _ _=>[],fun _=>none,fun _=>[]⟩
theorem alA:(Tryz.prog.funcs.toList.all fun fn=>fn.body.isNone || !(fn.name == "runtime.NumGoroutine"))=true:=by kernel_rfl
theorem TQ:zU cE eE:=by
 refine⟨Yo,Yn,by kernel_rfl,?_,fun g ct h=>(by cases h),fun g ct h=>(by cases h),fun g c h=>(by cases h)⟩
 intro g fn hf hb
 have h:=List.all_eq_true.1 alA fn (Array.mem_toList_iff.2 (Array.mem_of_getElem? hf))
 rw[Bool.or_eq_true] at h
 rcases h with h|h
 ·rw[Option.isNone_iff_eq_none] at h;rw[h] at hb;cases hb
 ·simpa using h
abbrev kU:VK:=.int .u64
abbrev kI:VK:=.int .i64
abbrev kB:VK:=.int .u8
abbrev Ea:Sh:=.agg [kU,kU,kU,kU]
def u64 (n:Int):Int:=yX .u64 n
theorem CQ (n:Int):zA (u64 n):=by
 unfold u64;rw[xR]
 show 0≤_∧_<(18446744073709551616:Int)
 unfold IntKind.wrap IntKind.bits IntKind.signed;simp;omega
theorem Yp {n:Int} (h:zA n):IntKind.u64.wrap n=n:=by
 have h1:=h.1;have h2:n<18446744073709551616:=h.2
 unfold IntKind.wrap IntKind.bits IntKind.signed;simp;omega
def yz (n:Int):Int:=vw (vG n)
theorem Yq (n:Int):0≤yz n∧yz n≤1:=by unfold yz;cases vG n<;>decide
theorem TR {n:Int} (h:0≤n∧n≤1):vw (n != 0)=n:=by
 rcases(show n=0∨n=1 by omega) with rfl|rfl<;>rfl
theorem Gj (n:Int):xW kU n = .int .u64 (u64 n):=by simp only[xW,u64,xR]
theorem adw (n:Int):xW .bit n = .int .u64 (yz n):=by simp only[xW,yz,zm]
theorem adx {g:FuncId} {vs:List Value} {v:Value} (h:∀ w,(callFunc g vs.toArray).run Tryz.prog w = .ok (.value v) w):PC Tryz.prog gG g vs v:=fun w _=>by
 unfold AC;rw[h w];exact⟨rfl,vI.refl w⟩
theorem three {α:Type} {l:List α} (h:l.length=3):∃ a b c,l = [a,b,c]:=by match l,h with | [a,b,c],_=>exact⟨a,b,c,rfl⟩
theorem two {α:Type} {l:List α} (h:l.length=2):∃ a b,l = [a,b]:=by match l,h with | [a,b],_=>exact⟨a,b,rfl⟩
theorem one' {α:Type} {l:List α} (h:l.length=1):∃ a,l = [a]:=by match l,h with | [a],_=>exact⟨a,rfl⟩
theorem four {α:Type} {l:List α} (h:l.length=4):∃ a b c d,l = [a,b,c,d]:=by match l,h with | [a,b,c,d],_=>exact⟨a,b,c,d,rfl⟩
theorem eight {α:Type} {l:List α} (h:l.length=8):∃ a b c d e f g i,l = [a,b,c,d,e,f,g,i]:=by match l,h with | [a,b,c,d,e,f,g,i],_=>exact⟨a,b,c,d,e,f,g,i,rfl⟩
def KU (l:List Int):List Int:=[CE (u64 (vT l 0)) (u64 (vT l 1)) (yz (vT l 2)),zR (u64 (vT l 0)) (u64 (vT l 1)) (yz (vT l 2))]
def KV (l:List Int):List Int:=[Cb (u64 (vT l 0)) (u64 (vT l 1)) (yz (vT l 2)),zJ (u64 (vT l 0)) (u64 (vT l 1)) (yz (vT l 2))]
def Nl (l:List Int):List Int:=[u64 (vT l 0)*u64 (vT l 1)/(vC:Int),u64 (vT l 0)*u64 (vT l 1)%(vC:Int)]
def Ik (l:List Int):List Int:=[(Lib.bitLen (u64 (vT l 0)).toNat:Int)]
theorem alB (x y c:Int):zA (CE x y c):=by
 unfold CE;exact⟨Int.emod_nonneg _ (by decide),Int.emod_lt_of_pos _ (by decide)⟩
theorem alC (x y c:Int):zA (Cb x y c):=by
 unfold Cb;exact⟨Int.emod_nonneg _ (by decide),Int.emod_lt_of_pos _ (by decide)⟩
theorem alD {x y c:Int} (hx:zA x) (hy:zA y) (hc:0≤c∧c≤1):0≤zR x y c∧zR x y c≤1:=by
 have h1:=hx.1;have h2:x<18446744073709551616:=hx.2;have h3:=hy.1;have h4:y<18446744073709551616:=hy.2
 unfold zR
 show 0≤(x+y+c)/18446744073709551616∧(x+y+c)/18446744073709551616≤1
 omega
theorem alE (x y c:Int):0≤zJ x y c∧zJ x y c≤1:=by unfold zJ;split<;>decide
theorem alF:wh Tryz.prog gG ⟨225,⟨[.sc kU,.sc kU,.sc .bit],[.sc kU,.sc .bit]⟩,KU⟩:=by
 intro l hl
 obtain⟨a,b,c,rfl⟩:=three hl
 refine⟨rfl,?_⟩
 have h:=adx (g:=225) (vs:=[_,_,_]) (ab7 (u64 a) (u64 b) (yz c) (CQ a) (CQ b) (Yq c))
 have e1:=Yp (alB (u64 a) (u64 b) (yz c))
 have e2:=TR (alD (CQ a) (CQ b) (Yq c))
 simp only[wJ,yx,Sh.kinds,List.drop_succ_cons,List.drop_zero,List.length_cons,List.length_nil,Gj,adw,KU,vT,xG]
 have e3:u64 (CE (u64 a) (u64 b) (yz c))=CE (u64 a) (u64 b) (yz c):=by conv => { lhs;unfold u64 };rw[xR];exact e1
 have e4:yz (zR (u64 a) (u64 b) (yz c))=zR (u64 a) (u64 b) (yz c):=by conv => { lhs;unfold yz };rw[zm];exact e2
 rw[e3,e4];exact h
theorem alG:wh Tryz.prog gG ⟨226,⟨[.sc kU,.sc kU,.sc .bit],[.sc kU,.sc .bit]⟩,KV⟩:=by
 intro l hl
 obtain⟨a,b,c,rfl⟩:=three hl
 refine⟨rfl,?_⟩
 have h:=adx (g:=226) (vs:=[_,_,_]) (ab8 (u64 a) (u64 b) (yz c) (CQ a) (CQ b) (Yq c))
 have e1:=Yp (alC (u64 a) (u64 b) (yz c))
 have e2:=TR (alE (u64 a) (u64 b) (yz c))
 simp only[wJ,yx,Sh.kinds,List.drop_succ_cons,List.drop_zero,List.length_cons,List.length_nil,Gj,adw,KV,vT,xG]
 have e3:u64 (Cb (u64 a) (u64 b) (yz c))=Cb (u64 a) (u64 b) (yz c):=by conv => { lhs;unfold u64 };rw[xR];exact e1
 have e4:yz (zJ (u64 a) (u64 b) (yz c))=zJ (u64 a) (u64 b) (yz c):=by conv => { lhs;unfold yz };rw[zm];exact e2
 rw[e3,e4];exact h
theorem Gm {n:Int} (h:zA n):u64 n=n:=by unfold u64;rw[xR];exact Yp h
theorem alH {x y:Int} (hx:zA x) (hy:zA y):zA (x*y/(vC:Int)):=by
 obtain⟨a,rfl,ha⟩:=hx.nat
 obtain⟨b,rfl,hb⟩:=hy.nat
 rw[(ab9 ha hb).1];exact Er _ _
theorem alI:wh Tryz.prog gG ⟨268,⟨[.sc kU,.sc kU],[.sc kU,.sc kU]⟩,Nl⟩:=by
 intro l hl
 obtain⟨a,b,rfl⟩:=two hl
 refine⟨rfl,?_⟩
 have h:PC Tryz.prog gG 268 [.int .u64 (u64 a),.int .u64 (u64 b)] (.tuple #[.int .u64 (u64 a*u64 b/(vC:Int)),.int .u64 (u64 a*u64 b%(vC:Int))]) :=
  Qa Tryz.func268 (by kernel_rfl) (by kernel_rfl) fun w=>(ajK (u64 a) (u64 b) w (CQ a) (CQ b)).mono fun e w' ⟨h1,h2⟩=>⟨h1,by rw[← h2];exact vI.refl w⟩
 simp only[wJ,yx,Sh.kinds,List.drop_succ_cons,List.drop_zero,List.length_cons,List.length_nil,Gj,Nl,vT,xG]
 rw[Gm (alH (CQ a) (CQ b)),Gm (n:=u64 a*u64 b%(vC:Int)) ⟨Int.emod_nonneg _ (by decide),Int.emod_lt_of_pos _ (by decide)⟩]
 exact h
theorem bitLen_le (n : Nat) (h : n < vC) : Lib.bitLen n ≤ 64 := by
  unfold Lib.bitLen
  have key : ∀ f x, Lib.bitLenAux f x ≤ f := by
    intro f
    induction f with
    | zero => intro x; exact Nat.le_refl _
    | succ f ih => intro x; unfold Lib.bitLenAux; split
                   · omega
                   · have := ih (x / 2); omega
  exact key _ _
theorem alJ:wh Tryz.prog gG ⟨273,⟨[.sc kU],[.sc kI]⟩,Ik⟩:=by
 intro l hl
 obtain⟨a,rfl⟩:=one' hl
 refine⟨rfl,?_⟩
 have h:PC Tryz.prog gG 273 [.int .u64 (u64 a)] (.int .i64 (Lib.bitLen (u64 a).toNat:Int)) :=
  Qa Tryz.func273 (by kernel_rfl) (by kernel_rfl) fun w=>(ajL (u64 a) w (CQ a)).mono fun e w' ⟨h1,h2⟩=>⟨h1,by rw[← h2];exact vI.refl w⟩
 have hb:=bitLen_le (u64 a).toNat (by have h1:=(CQ a).1;have h2:=(CQ a).2;omega)
 simp only[wJ,yx,Gj,Ik,vT,xG]
 have e:xW kI (Lib.bitLen (u64 a).toNat:Int) = .int .i64 (Lib.bitLen (u64 a).toNat:Int):=by
  simp only[xW]
  rw[wrap_i64 (by omega)]
 rw[e];exact h
def Il (l:List Int):List Int:=[vw (MJ (yX .u8 (vT l 0)) (vG (vT l 1)) (vG (vT l 2)) (yX .u8 (vT l 3)))]
theorem alK:wh Tryz.prog gG ⟨251,⟨[.sc kB,.sc .bool,.sc .bool,.sc kB],[.sc .bool]⟩,Il⟩:=by
 intro l hl
 obtain⟨a,b,c,d,rfl⟩:=four hl
 refine⟨rfl,?_⟩
 have h:PC Tryz.prog gG 251 [.int .u8 (yX .u8 a),.bool (vG b),.bool (vG c),.int .u8 (yX .u8 d)] (.bool (MJ (yX .u8 a) (vG b) (vG c) (yX .u8 d))) :=
  Qa Tryz.func251 (by kernel_rfl) (by kernel_rfl) fun w=>aka _ _ _ _ w
 simp only[wJ,yx,Sh.kinds,List.drop_succ_cons,List.drop_zero,List.length_cons,List.length_nil,xW,Il,vT,xG,yN,← xR,← zm]
 simp only[zm,yN] at h ⊢
 exact h
def w4 (l:List Int) (i:Nat):Nat:=(u64 (vT l i)).toNat+vC*((u64 (vT l (i+1))).toNat+vC*((u64 (vT l (i+2))).toNat+vC*(u64 (vT l (i+3))).toNat))
theorem yZ (n:Int):((u64 n).toNat:Int)=u64 n∧(u64 n).toNat<vC:=by
 have h:=CQ n
 exact⟨Int.toNat_of_nonneg h.1,by have:=h.2;have:=h.1;omega⟩
theorem ady (a b c d:Nat) (ha:a<vC) (hb:b<vC) (hc:c<vC) (hd:d<vC):wd (a+vC*(b+vC*(c+vC*d))) 0=a∧wd (a+vC*(b+vC*(c+vC*d))) 1=b∧wd (a+vC*(b+vC*(c+vC*d))) 2=c ∧
  wd (a+vC*(b+vC*(c+vC*d))) 3=d∧a+vC*(b+vC*(c+vC*d))<vL:=by
 have hW:vC=18446744073709551616:=rfl
 unfold wd vL vF
 rw[Nat.pow_zero,Nat.pow_one,show vC^2=vC*vC by rw[Nat.pow_two],show vC^3=vC*(vC*vC) by rw[Nat.pow_succ,Nat.pow_two,Nat.mul_comm]]
 have d1:(a+vC*(b+vC*(c+vC*d)))/vC=b+vC*(c+vC*d):=by rw[Nat.add_mul_div_left _ _ yE,Nat.div_eq_of_lt ha,Nat.zero_add]
 have d2:(b+vC*(c+vC*d))/vC=c+vC*d:=by rw[Nat.add_mul_div_left _ _ yE,Nat.div_eq_of_lt hb,Nat.zero_add]
 have d3:(c+vC*d)/vC=d:=by rw[Nat.add_mul_div_left _ _ yE,Nat.div_eq_of_lt hc,Nat.zero_add]
 rw[← Nat.div_div_eq_div_mul,← Nat.div_div_eq_div_mul,← Nat.div_div_eq_div_mul,d1,d2,d3,Nat.div_one]
 refine⟨?_,?_,?_,?_,?_⟩
 ·rw[Nat.add_mul_mod_self_left,Nat.mod_eq_of_lt ha]
 ·rw[Nat.add_mul_mod_self_left,Nat.mod_eq_of_lt hb]
 ·rw[Nat.add_mul_mod_self_left,Nat.mod_eq_of_lt hc]
 ·rw[Nat.mod_eq_of_lt hd]
 ·have ha':a<18446744073709551616:=ha
  have hb':b<18446744073709551616:=hb
  have hc':c<18446744073709551616:=hc
  have hd':d<18446744073709551616:=hd
  clear d1 d2 d3 ha hb hc hd hW
  show a+18446744073709551616*(b+18446744073709551616*(c+18446744073709551616*d))<115792089237316195423570985008687907853269984665640564039457584007913129639936
  omega
theorem Jw (l:List Int) (i:Nat):vW (w4 l i) = .agg #[.int .u64 (u64 (vT l i)),.int .u64 (u64 (vT l (i+1))),.int .u64 (u64 (vT l (i+2))),.int .u64 (u64 (vT l (i+3)))]∧w4 l i<vL:=by
 obtain⟨h0,h1,h2,h3,h4⟩:=ady _ _ _ _ (yZ (vT l i)).2 (yZ (vT l (i+1))).2 (yZ (vT l (i+2))).2 (yZ (vT l (i+3))).2
 unfold w4 vW
 rw[h0,h1,h2,h3,(yZ _).1,(yZ _).1,(yZ _).1,(yZ _).1]
 exact⟨rfl,h4⟩
def Jy (s:Nat) (b:Bool):List Int:=[wd s 0,wd s 1,wd s 2,wd s 3,vw b]
theorem adz (s:Nat) (b:Bool):xG (wJ [Ea,.sc .bool] (Jy s b)) = .tuple #[vW s,.bool b]:=by
 simp only[wJ,yx,wQ,Sh.kinds,List.drop_succ_cons,List.drop_zero,List.length_cons,List.length_nil,Gj,Jy,xG,Gm (Er _ _)]
 simp only[xW,yN]
def EF (l:List Int):List Int:=Jy (w4 l 0+w4 l 4) (Nat.ble vL (w4 l 0+w4 l 4))
theorem alL:wh Tryz.prog gG ⟨160,⟨[Ea,Ea],[Ea,.sc .bool]⟩,EF⟩:=by
 intro l hl
 refine⟨rfl,?_⟩
 have h:PC Tryz.prog gG 160 [vW (w4 l 0),vW (w4 l 4)] (.tuple #[vW (w4 l 0+w4 l 4),.bool (decide (vL≤w4 l 0+w4 l 4))]) :=
  Qa Tryz.func160 (by kernel_rfl) (by kernel_rfl) fun w=>ajY _ _ w (Jw l 0).2 (Jw l 4).2
 obtain⟨a,b,c,d,e,f,g,i,rfl⟩:=eight hl
 unfold EF
 rw[adz,show Nat.ble vL (w4 [a,b,c,d,e,f,g,i] 0+w4 [a,b,c,d,e,f,g,i] 4)=decide (vL≤w4 [a,b,c,d,e,f,g,i] 0+w4 [a,b,c,d,e,f,g,i] 4) by
  rw[Bool.eq_iff_iff,Nat.ble_eq,decide_eq_true_iff]]
 rw[(Jw _ 0).1,(Jw _ 4).1] at h
 simpa only[wJ,yx,wQ,Sh.kinds,List.drop_succ_cons,List.drop_zero,List.length_cons,List.length_nil,Gj,vT] using h
def Gn (l:List Int):List Int:=Jy (w4 l 0+vL-w4 l 4) (Nat.blt (w4 l 0) (w4 l 4))
theorem alM:wh Tryz.prog gG ⟨161,⟨[Ea,Ea],[Ea,.sc .bool]⟩,Gn⟩:=by
 intro l hl
 refine⟨rfl,?_⟩
 have h:PC Tryz.prog gG 161 [vW (w4 l 0),vW (w4 l 4)] (.tuple #[vW (w4 l 0+vL-w4 l 4),.bool (decide (w4 l 0<w4 l 4))]) :=
  Qa Tryz.func161 (by kernel_rfl) (by kernel_rfl) fun w=>ajZ _ _ w (Jw l 0).2 (Jw l 4).2
 obtain⟨a,b,c,d,e,f,g,i,rfl⟩:=eight hl
 unfold Gn
 rw[adz,show Nat.blt (w4 [a,b,c,d,e,f,g,i] 0) (w4 [a,b,c,d,e,f,g,i] 4)=decide (w4 [a,b,c,d,e,f,g,i] 0<w4 [a,b,c,d,e,f,g,i] 4) by
  rw[Bool.eq_iff_iff,Nat.blt_eq,decide_eq_true_iff]]
 rw[(Jw _ 0).1,(Jw _ 4).1] at h
 simpa only[wJ,yx,wQ,Sh.kinds,List.drop_succ_cons,List.drop_zero,List.length_cons,List.length_nil,Gj,vT] using h
def adA:List wO:=[
 ⟨225,⟨[.sc kU,.sc kU,.sc .bit],[.sc kU,.sc .bit]⟩,KU⟩,
 ⟨226,⟨[.sc kU,.sc kU,.sc .bit],[.sc kU,.sc .bit]⟩,KV⟩,
 ⟨268,⟨[.sc kU,.sc kU],[.sc kU,.sc kU]⟩,Nl⟩,
 ⟨160,⟨[Ea,Ea],[Ea,.sc .bool]⟩,EF⟩,
 ⟨161,⟨[Ea,Ea],[Ea,.sc .bool]⟩,Gn⟩,
 ⟨251,⟨[.sc kB,.sc .bool,.sc .bool,.sc kB],[.sc .bool]⟩,Il⟩,
 ⟨273,⟨[.sc kU],[.sc kI]⟩,Ik⟩]
open Go.RowKit
def vK (L:List wO):yY:=fun g l=>match Ah L g with|some e=>e.F l|none=>[]
theorem wz {L:List wO} {g:FuncId} {e:wO} (h:Ah L g=some e):vK L g=e.F:=by funext l;unfold vK;rw[h]
def Jz (L:List wO):FuncId→Option Ct:=fun g=>match Ah L g with|some e=>some e.ct|none=>none
noncomputable def ctx (L:List wO):xA:=⟨Tryz.prog,gG,QP,Jz L,vK L,fun _=>none,fun _=>[]⟩
theorem xx {L:List wO} (h:∀ e∈L,wh Tryz.prog gG e):Aw (ctx L) eE:=by
  have key:∀ (g:FuncId) (ct:Ct),(ctx L).ct g=some ct→∀ l:List Int,l.length=(vD ct.a).length→((ctx L).Φ g l).length=(vD ct.r).length∧PC Tryz.prog gG g (wJ ct.a l) (xG (wJ ct.r ((ctx L).Φ g l))):=by
   intro g ct hct l hl
   simp only[ctx,Jz,vK] at hct ⊢
   cases hf:Ah L g with
   | some e =>
     rw[hf] at hct
     simp only[Option.some.injEq] at hct;subst hct
     obtain⟨h1,h2⟩:=Ng hf
     subst h2
     exact h e h1 l hl
   | none=>rw[hf] at hct;cases hct
  exact⟨⟨Yo,Yn,TQ.mix,TQ.nm,fun g ct hct l hl _=>(key g ct hct l hl).2,fun g ct hn=>(by cases hn),fun g c hc=>(by cases hc)⟩,fun g ct hct l hl=>(key g ct hct l hl).1,fun g ct hn=>(by cases hn),fun g c hc=>(by cases hc)⟩
def EG:List yQ→Nat→Option yQ
 | [],_=>none
 | x::l,id=>match Nat.beq x.c.id id with|true=>some x|false=>EG l id
def KW:List yQ→FuncId→List Ae
 | [],_=>[]
 | x::l,g=>match Nat.beq x.g g with|true=>x.c::KW l g|false=>KW l g
def vP (L M:List wO) (S:List yQ):yY:=fun g l=>match EG S g with
 | some e=>e.F l
 | none=>match Ah M g with|some e=>e.F l|none=>vK L g l
theorem JA {L M:List wO} {S:List yQ} {g:Nat} {e:yQ} (h:EG S g=some e):vP L M S g=e.F:=by funext l;unfold vP;rw[h]
theorem adB {L M:List wO} {S:List yQ} {g:Nat} {e:wO} (h0:EG S g=none) (h:Ah M g=some e):vP L M S g=e.F:=by funext l;unfold vP;rw[h0];simp only[];rw[h]
theorem wy {L M:List wO} {S:List yQ} {g:Nat} {e:wO} (h0:EG S g=none) (h1:Ah M g=none) (h:Ah L g=some e):vP L M S g=e.F:=by funext l;unfold vP;rw[h0];simp only[];rw[h1];simp only[];rw[wz h]
noncomputable def wP (L M:List wO) (S:List yQ):xA:=⟨Tryz.prog,gG,QP,Jz L,vP L M S,Jz M,KW S⟩
def QQ (S:List yQ) (g:Nat):Bool:=match EG S g with|some _=>false|none=>true
def Yr (M:List wO) (g:Nat):Bool:=match Ah M g with|some _=>false|none=>true
def TS (M:List wO) (S:List yQ):List wO→Bool
 | []=>true
 | x::l=>xD (QQ S x.g) (xD (Yr M x.g) (TS M S l))
def TU (S:List yQ):List wO→Bool
 | []=>true
 | x::l=>xD (QQ S x.g) (TU S l)
def TV:List yQ→Bool
 | []=>true
 | x::l=>xD (QQ l x.c.id) (TV l)
theorem Yt {S:List yQ} {g:Nat} (h:QQ S g=true):EG S g=none:=by
 unfold QQ at h
 cases hf:EG S g with
 | none=>rfl
 | some e=>rw[hf] at h;cases h
theorem alN {M:List wO} {g:Nat} (h:Yr M g=true):Ah M g=none:=by
 unfold Yr at h
 cases hf:Ah M g with
 | none=>rfl
 | some e=>rw[hf] at h;cases h
theorem Yu {M:List wO} {S:List yQ} : ∀ {L:List wO},TS M S L=true→∀ e∈L,EG S e.g=none∧Ah M e.g=none
 | [],_,e,he=>by cases he
 | x::l,h,e,he=>by
  have h:=xk h;have h2:=xk h.2
  rcases List.mem_cons.1 he with rfl|he
  ·exact⟨Yt h.1,alN h2.1⟩
  ·exact Yu h2.2 e he
theorem Yv {S:List yQ} : ∀ {L:List wO},TU S L=true→∀ e∈L,EG S e.g=none
 | [],_,e,he=>by cases he
 | x::l,h,e,he=>by
  have h:=xk h
  rcases List.mem_cons.1 he with rfl|he
  ·exact Yt h.1
  ·exact Yv h.2 e he
theorem Yw:∀ {S:List yQ},TV S=true→∀ e∈S,EG S e.c.id=some e
 | [],_,e,he=>by cases he
 | x::l,h,e,he=>by
  have h:=xk h
  simp only[EG]
  rcases List.mem_cons.1 he with rfl|he
  ·rw[Nat.beq_refl]
  ·have h1:=Yw h.2 e he
   cases hb:Nat.beq x.c.id e.c.id with
   | true =>
    have h2:=Yt h.1
    rw[wR.1 hb,h1] at h2;cases h2
   | false=>exact h1
theorem TW:∀ {S:List yQ} {g:FuncId} {c:Ae},c∈KW S g→∃ e∈S,e.g=g∧e.c=c
 | [],g,c,h=>by cases h
 | x::l,g,c,h=>by
  simp only[KW] at h
  split at h
  ·rename_i hb
   rcases List.mem_cons.1 h with rfl|h
   ·exact⟨x,List.mem_cons_self,wR.1 hb,rfl⟩
   ·obtain⟨e,h1,h2⟩:=TW h;exact⟨e,List.mem_cons_of_mem _ h1,h2⟩
  ·obtain⟨e,h1,h2⟩:=TW h;exact⟨e,List.mem_cons_of_mem _ h1,h2⟩
theorem QR {L M:List wO} {S:List yQ} (hL:∀ e∈L,AQ Tryz.prog gG e) (hM:∀ e∈M,Yc Tryz.prog gG e) (hS:∀ e∈S,Yf Tryz.prog gG e) (h:xD (TS M S L) (xD (TU S M) (TV S))=true):zU (wP L M S) eE:=by
 have h:=xk h;have h2:=xk h.2
 refine⟨Yo,Yn,TQ.mix,TQ.nm,fun g ct hct l hl hF=>?_,fun g ct hct=>?_,fun g c hc l hl hF=>?_⟩
 ·simp only[wP,Jz] at hct hF ⊢
  cases hf:Ah L g with
  | some e =>
   rw[hf] at hct
   simp only[Option.some.injEq] at hct;subst hct
   obtain⟨h1,h3⟩:=Ng hf
   subst h3
   obtain⟨h4,h5⟩:=Yu h.1 e h1
   rw[wy h4 h5 hf] at hF ⊢
   exact(hL e h1).ok l hl hF
  | none=>rw[hf] at hct;cases hct
 ·simp only[wP,Jz] at hct ⊢
  cases hf:Ah M g with
  | some e =>
   rw[hf] at hct
   simp only[Option.some.injEq] at hct;subst hct
   obtain⟨h1,h3⟩:=Ng hf
   subst h3
   have h4:=Yv h2.1 e h1
   refine⟨(hM e h1).two,fun l hl hF=>?_⟩
   rw[adB h4 hf] at hF ⊢
   exact(hM e h1).ok l hl hF
  | none=>rw[hf] at hct;cases hct
 ·obtain⟨e,h1,h3,h4⟩:=TW (show c∈KW S g from hc)
  subst h3;subst h4
  have h5:=Yw h2.2 e h1
  simp only[wP] at hF ⊢
  rw[JA h5] at hF ⊢
  exact(hS e h1).ok l hl hF
theorem Im {L M:List wO} {S:List yQ} (hL:∀ e∈L,wh Tryz.prog gG e) (hM:∀ e∈M,TK Tryz.prog gG e) (hS:∀ e∈S,Ij Tryz.prog gG e) (h:xD (TS M S L) (xD (TU S M) (TV S))=true):Aw (wP L M S) eE:=by
 refine⟨QR (fun e he=>(hL e he).c) (fun e he=>(hM e he).c) (fun e he=>(hS e he).c) h,?_,?_,?_⟩
 all_goals have h:=xk h
 all_goals have h2:=xk h.2
 ·intro g ct hct l hl
  simp only[wP,Jz] at hct ⊢
  cases hf:Ah L g with
  | some e =>
   rw[hf] at hct
   simp only[Option.some.injEq] at hct;subst hct
   obtain⟨h1,h3⟩:=Ng hf
   subst h3
   obtain⟨h4,h5⟩:=Yu h.1 e h1
   rw[wy h4 h5 hf]
   exact(hL e h1 l hl).1
  | none=>rw[hf] at hct;cases hct
 ·intro g ct hct l hl
  simp only[wP,Jz] at hct ⊢
  cases hf:Ah M g with
  | some e =>
   rw[hf] at hct
   simp only[Option.some.injEq] at hct;subst hct
   obtain⟨h1,h3⟩:=Ng hf
   subst h3
   rw[adB (Yv h2.1 e h1) hf]
   exact((hM e h1).ok l hl).1
  | none=>rw[hf] at hct;cases hct
 ·intro g c hc l hl
  obtain⟨e,h1,h3,h4⟩:=TW (show c∈KW S g from hc)
  subst h3;subst h4
  have h5:=Yw h2.2 e h1
  simp only[wP]
  rw[JA h5]
  exact((hS e h1).ok l hl).1
def M0:List wO:=[]
theorem Io:∀ e∈M0,TK Tryz.prog gG e:=fun e he=>by cases he
def S0:List yQ:=[]
theorem adC:∀ e∈S0,Ij Tryz.prog gG e:=fun e he=>by cases he
def E0:List wO:=adA
theorem Bg:∀ e∈E0,wh Tryz.prog gG e:=by
 intro e he
 simp only[E0,adA,List.mem_cons,List.not_mem_nil,or_false] at he
 rcases he with rfl|he
 ·exact alF
 rcases he with rfl|he
 ·exact alG
 rcases he with rfl|he
 ·exact alI
 rcases he with rfl|he
 ·exact alL
 rcases he with rfl|he
 ·exact alM
 rcases he with rfl|he
 ·exact alK
 ·subst he;exact alJ
end Go.Proofs.YtemomocmfggiaaaGreatDoor
