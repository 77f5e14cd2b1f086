import Derived.Test.YtbembkamcdlhbaaGreatDoorZBSb
import Derived.Test.YtbembkamcdlhbaaGreatDoorZCSb
set_option linter.unusedSimpArgs false
set_option linter.unusedVariables false
set_option maxRecDepth 100000
namespace Go.Proofs.YtbembkamcdlhbaaGreatDoor
open Go.RowKit
section
variable {G:rX} {w:World} {s:rM}
end
def M6:List vT→Nat→Option Ct
 | [],_=>none
 | c::L,id=>match Nat.beq c.id id with|true=>some ⟨c.a ++ [.agg c.ks],c.r⟩|false=>M6 L id
theorem VQ:∀ {L:List vT} {id:Nat} {c:Ct},M6 L id=some c→∃ s∈L,s.id=id∧c=⟨s.a ++ [.agg s.ks],s.r⟩
 | [],id,c,h=>by cases h
 | s::L,id,c,h=>by
  simp only[M6] at h
  split at h
  ·rename_i hb
   cases h
   exact⟨s,List.mem_cons_self,tq.1 hb,rfl⟩
  ·obtain⟨s',h1,h2⟩:=VQ h
   exact⟨s',List.mem_cons_of_mem _ h1,h2⟩
def EI (C:tC):FuncId→Option Ct:=fun g=>match C.nt g with|some c=>some c|none=>match C.ct g with|some c=>some c|none=>M6 (C.sl (g%1000000)) g
theorem aem {C:tC} {E:tK} (hC:vG C E) {f:FuncId} {c:Ct} (h:EI C f=some c) {l:List Int} (hl:l.length=(rE c.a).length):(C.Φ f l).length=(rE c.r).length:=by
 unfold EI at h
 split at h
 ·rename_i c' hc;cases h;exact hC.nt f c hc l hl
 ·split at h
  ·rename_i c' hc;cases h;exact hC.ct f c hc l hl
  ·obtain⟨s,h1,rfl,rfl⟩:=VQ h
   exact hC.sl _ s h1 l (by rw[hl];simp[rE,Sh.kinds])
structure Kw (P:Program) (G:rX) (e:sH):Prop where
 two:zb (rE e.ct.r)≤2
 ok:∀ l:List Int,l.length=(rE e.ct.a).length→(e.F l).length=(rE e.ct.r).length∧MU P G e.g e.ct l (e.F l)
structure QR (P:Program) (G:rX) (e:sH):Prop where
 two:zb (rE e.ct.r)≤2
 ok:∀ l:List Int,l.length=(rE e.ct.a).length→(e.F l).length=(rE e.ct.r).length→MU P G e.g e.ct l (e.F l)
theorem Kw.c {P:Program} {G:rX} {e:sH} (h:Kw P G e):QR P G e:=⟨h.two,fun l hl _=>(h.ok l hl).2⟩
theorem Dm {C:tC} {E:tK} (hC:vG C E) {ct:Ct} : ∀ {t:ru SV} {l:List Int},zf (EI C) ct l.length t=true→okF C.Φ ct t l
 | .leaf a,l,h=>by
  obtain⟨xs,hx⟩:=Option.isSome_iff_exists.1 (show(wY ct.r (xU ct.r a)).isSome=true from h)
  exact⟨a,l,xs,rfl,hx⟩
 | .ite c a b,l,h=>by
  have h:=sM h;have h2:=sM h.2
  unfold okF
  simp only[vF]
  cases sV (c.ev l) with
  | true=>exact Dm hC h2.1
  | false=>exact Dm hC h2.2
 | .call f args base m t,l,h=>by
  simp only[zf] at h
  split at h
  ·rename_i c hc
   have h:=sM h;have h2:=sM h.2;have h3:=sM h2.2;have h4:=sM h3.2
   have e1:=tq.1 h3.1;have e2:=tq.1 h4.1
   unfold okF
   simp only[vF,zC]
   have hl:=aem hC hc (l:=args.map (X.den (rP l))) (by rw[List.length_map];exact e1)
   rw[hl,e2]
   simp only[Nat.beq_refl]
   refine Dm hC ?_
   rw[List.length_append,hl,← e2];exact h4.2
  ·cases h
 | .stuck _,l,h=>by cases h
theorem Bi {C:tC} {E:tK} (hC:vG C E) (n:Nat) {g:FuncId} {ct:Ct} {t:ru SV} (h:sw C n g (rV ct.a (rU 0 (rE ct.a))) (rE ct.a).length=t) (hs:zf (EI C) ct (rE ct.a).length t=true) :
  rQ C.P C.G ⟨g,ct,rR C.Φ ct t⟩:=fun l hl=>VP hC.ok h (EH hs) l hl (Dm hC (by rw[hl];exact hs))
open Go.RowKit
def GY (c:vT):List VK:=rE c.a++c.ks
def GZ (C:tC) (fuel:Nat) (g:FuncId) (c:vT):ru SV :=
 match C.P.funcs[g]? with
 | none=>.stuck "no such function"
 | some fn=>match fn.body with
  | none=>.stuck "no body"
  | some cd=>match Nat.ble (c.a.length+1) fn.ntmps with
   | true=>uG (rE c.a).length fun m=>uG (m+c.ks.length) fun nv=>(exec C fuel cd ⟨1,vv (rV c.a (rU 0 (rE c.a)) ++ [.sl 0 0 c.n c.n]) fn.ntmps,[(0,⟨zV c.ks (rU m c.ks),some c.t⟩)],nv,[],[]⟩).bind fun r=>match tZ 0 r.2.dt with
    | true=>.stuck "the slice is turned"
    | false=>match r.1 with
     | .normal=>(match vU C.P r.2.T r.2.H fn.results.toList with|some rs=>.leaf (tY rs)|none=>.stuck "results")
     | .ret=>(match vU C.P r.2.T r.2.H fn.results.toList with|some rs=>.leaf (tY rs)|none=>.stuck "results")
     | _=>.stuck "end"
   | false=>.stuck "arguments"
theorem QS (s:rM):∀ (a b k:Nat),vR s k (a+b)=vR s k a++vR s (k+a) b
 | 0,b,k=>by rw[Nat.zero_add];rfl
 | a+1,b,k=>by rw[show a+1+b=(a+b)+1 by omega,vR,QS s a b (k+1),vR,show k+1+a=k+(a+1) by omega];rfl
theorem aen {C:tC} {E:tK} {s:rM} (hC:wH C E) {n:Nat} {g:FuncId} {c:vT} {a:SV} {l:List Int} {v:Value} (h:(GZ C n g c).path C.Φ s=some a) (hl:vR s 0 (GY c).length=l) (hv:a.den s = .v v) :
  ∀ w b,Gl C.G w→(∀ x∈C.G,x.1≠b)→w.heap[b]? = some (.cells (sW c.ks (l.drop (rE c.a).length)).toArray c.t (0,0)) →
  wW C.P g (su c.a l ++ [Value.slice (some ⟨b,0,none⟩) c.n c.n]).toArray w fun e w'=>e = .returned v∧ry w w':=by
 intro w b hG hgb hw
 unfold GZ at h
 split at h
 ·cases h
 ·rename_i fn hf
  split at h
  ·cases h
  ·rename_i cd hb
   split at h
   ·rename_i hle
    rw[uq,uq] at h
    obtain⟨⟨ex,st⟩,h1,h2⟩:=ru.path_bind_some h
    have sp:=(GR (E:=E) (s:=s) hC n).1 _ _ _ _ h1 (fun x hx=>by cases hx)
    have hle:=Nat.le_of_ble_eq_true hle
    have hk:(GY c).length=(rE c.a).length+c.ks.length:=by unfold GY;rw[List.length_append]
    rw[hk,QS,Nat.zero_add] at hl
    have l1:(vR s 0 (rE c.a).length).length=(rE c.a).length:=BP _ _ _
    have hd1:l.drop (rE c.a).length=vR s (rE c.a).length c.ks.length:=by
     rw[← hl,List.drop_append_of_le_length (by omega),List.drop_of_length_le (by omega)];rfl
    have hd2:su c.a l=su c.a (vR s 0 (rE c.a).length):=by rw[← hl,QI _ _ _ l1]
    rw[hd1] at hw
    rw[hd2]
    obtain⟨v1,v2⟩:=Bg s (rE c.a) 0
    obtain⟨u1,u2⟩:=Bg s c.ks (rE c.a).length
    have a1:=Ca v1 v2
    have b1:=MS u1 u2
    have alen:(rV c.a (rU 0 (rE c.a))).length=c.a.length:=by rw[← zx s,a1,List.length_map,GU]
    let e:Env:=⟨fun _=>b,fun _=>undef⟩
    let B:sN:=⟨[b],[0],e⟩
    let o:SO:=⟨zV c.ks (rU (rE c.a).length c.ks),some c.t⟩
    have hH:∀ k x,SH.den s [(0,o)] k=some x→k=0∧x = .own (SV.dens s o.c) c.t:=by
     intro k x hx
     unfold SH.den at hx
     simp only[hget] at hx
     split at hx
     ·rename_i hb0
      have:=tq.1 hb0
      simp only[Option.map_some,Option.some.injEq] at hx
      exact⟨this.symm,by rw[← hx];exact SO.den_own s rfl⟩
     ·cases hx
    have hlt:b<w.heap.size:=(Array.getElem?_eq_some_iff.1 hw).1
    have h00:SH.den s [(0,o)] 0=some (.own (SV.dens s o.c) c.t):=SH.den_get rfl rfl
    have R:si C.G w B e (SH.den s [(0,o)]) w:=by
     refine⟨rfl,rfl,rfl,Nat.le_refl _,fun _ _ _=>rfl,hG,?_,?_,?_,?_,?_,?_,?_,?_,?_,fun k es hk=>by have:=(hH k _ hk).2;cases this⟩
     ·intro k c' t hk
      obtain⟨rfl,hx⟩:=hH k _ hk
      simp only[AO.own.injEq] at hx
      rw[hx.1,hx.2,b1,vO];exact hw
     ·intro k c' t hk;exact .inr (by simp[B,e])
     ·intro k c' t hk x hx;exact hgb x hx
     ·intro k c' t k' c'' t' hk hk' _;rw[(hH k _ hk).1,(hH k' _ hk').1]
     ·intro k n' l' hk;have:=(hH k _ hk).2;cases this
     ·intro k n' l' _ _ _ hk;have:=(hH k _ hk).2;cases this
     ·intro k x hk r hr
      obtain⟨_,rfl⟩:=hH k x hk
      rw[AO.refs,b1,AR] at hr;simp at hr
     ·intro k hk
      have:k=0:=by simpa [B] using hk
      subst this
      exact⟨by rw[h00];simp,rfl,rfl⟩
     ·intro k n' l' hk;have:=(hH k _ hk).2;cases this
    have hbound:yV (SH.den s [(0,o)]) 1:=by
     intro k hk
     cases hx:SH.den s [(0,o)] k with
     | none=>rfl
     | some x=>have:=(hH k x hx).1;omega
    have hlen:(vv (rV c.a (rU 0 (rE c.a)) ++ [.sl 0 0 c.n c.n]) fn.ntmps).length=fn.ntmps:=EB _ _ (by rw[List.length_append,alen];simpa using hle)
    have hA:=sp.aw w B
    simp only[hlen,Ko] at hA
    have hx:tZ 0 st.dt=false∧(ex = .normal∨ex = .ret)∧∃ rs,vU C.P st.T st.H fn.results.toList=some rs∧tY rs=a:=by
     simp only at h2
     split at h2
     ·cases h2
     ·rename_i hdt
      refine⟨hdt,?_⟩
      rcases Kt h2 with⟨rfl,h3⟩|⟨rfl,h3⟩
      ·split at h3
       ·rename_i rs hrs;cases h3;exact⟨.inl rfl,rs,hrs,rfl⟩
       ·cases h3
      ·split at h3
       ·rename_i rs hrs;cases h3;exact⟨.inr rfl,rs,hrs,rfl⟩
       ·cases h3
    obtain⟨hdt,hx,rs,hrs,he⟩:=hx
    refine C8 hf (hC.nm g fn hf (by rw[hb];rfl)) (by rw[hb];rfl) ?_
    have hcalls:=Ph (E:=E) (args:=SV.dens s (rV c.a (rU 0 (rE c.a)) ++ [.sl 0 0 c.n c.n])) (R:=fun r H=>H=SH.den s st.H∧r = .v v) hf hb (by rw[zx,List.length_append,alen];simpa using hle) R hbound (fun x hx r hr=>by
     rw[Dh,a1] at hx
     rcases List.mem_append.1 hx with hx|hx
     ·obtain⟨y,_,rfl⟩:=List.mem_map.1 hx;simp[AV.refs] at hr
     ·simp[SV.dens,SV.den] at hx;subst hx
      simp[AV.refs] at hr;subst hr
      rw[h00];simp) (by
     refine AW.mono (show AW _ cd (wZ s ex st) _ _ _ from hA) ?_
     rintro x N T H ⟨rfl,rfl,rfl,rfl⟩
     have hres:=EC (G:=C.G) s hrs
     have hrv:Ag (SV.dens s rs) = .v v:=by rw[GN,he,hv]
     rcases hx with rfl|rfl
     ·exact⟨_,hres,rfl,hrv⟩
     ·exact⟨_,hres,rfl,hrv⟩)
    have hvals:AV.vals e (SV.dens s (rV c.a (rU 0 (rE c.a)) ++ [.sl 0 0 c.n c.n]))=su c.a (vR s 0 (rE c.a).length) ++ [Value.slice (some ⟨b,0,none⟩) c.n c.n]:=by
     rw[Dh,JE,a1,vO];rfl
    rw[hvals] at hcalls
    refine hcalls.mono ?_
    rintro en w' ⟨r,e2,H2,rfl,⟨rfl,rfl⟩,R2⟩
    refine⟨rfl,R2.os,R2.tape,R2.output,R2.size,fun k hk=>?_⟩
    by_cases hkb:k=b
    ·subst hkb
     have hg:hget st.H 0=some o:=(sp.dt 0 hdt).2.trans rfl
     have hown:=R2.own 0 _ _ (SH.den_get hg rfl)
     have henv:=(R2.env 0 (by simp[B])).2.1
     have henv:e2.blk 0=k:=henv
     rw[henv,b1,vO] at hown
     rw[hown,hw]
    ·exact R2.old k hk (by simpa [B] using hkb)
   ·cases h
structure uA where
 g:FuncId
 c:vT
 F:List Int→List Int
structure Bj (P:Program) (G:rX) (e:uA):Prop where
 ok:∀ l:List Int,l.length=(GY e.c).length→(e.F l).length=(rE e.c.r).length∧MV P G e.g e.c l (e.F l)
theorem QT {C:tC} {E:tK} (hC:vG C E) (n:Nat) {g:FuncId} {c:vT} {t:ru SV} (h:GZ C n g c=t) (hs:zf (EI C) ⟨c.a,c.r⟩ (GY c).length t=true) :
  Bj C.P C.G ⟨g,c,rR C.Φ ⟨c.a,c.r⟩ t⟩:=by
 refine⟨fun l hl=>?_⟩
 obtain ho:=Dm hC (ct:=⟨c.a,c.r⟩) (t:=t) (l:=l) (by rw[hl];exact hs)
 refine⟨MZ ho,?_⟩
 obtain⟨a,l',xs,h1,h2⟩:=ho
 obtain⟨h3,m,rfl⟩:=EG h1 (by rw[hl];exact EH hs)
 rw[← h] at h3
 have hf:=Dl (rP (l++m)) h2
 have hF:rR C.Φ ⟨c.a,c.r⟩ t l=xs.map (X.den (rP (l++m))):=by unfold rR;simp only[h1,h2,zC,id]
 have hv:=M4 hf.1 (GU _ _)
 have:=aen hC.ok h3 (l:=l) (by rw[← hl];exact M3 l m) hv
 intro w b hG hgb hw
 show wW C.P g _ w fun e w'=>e = .returned (tH (su c.r (rR C.Φ ⟨c.a,c.r⟩ t l)))∧ry w w'
 rw[hF]
 exact this w b hG hgb hw
structure QU (P:Program) (G:rX) (e:uA):Prop where
 ok:∀ l:List Int,l.length=(GY e.c).length→(e.F l).length=(rE e.c.r).length→MV P G e.g e.c l (e.F l)
theorem Bj.c {P:Program} {G:rX} {e:uA} (h:Bj P G e):QU P G e:=⟨fun l hl _=>(h.ok l hl).2⟩
open Go.RowKit
def QV:Value→Value→Option Bool
 | .agg xs,.agg ys=>match xs.toList,ys.toList with
  | [.int .u64 a,.int .u64 b],[.int .u64 c,.int .u64 d]=>some (a==c&&b==d)
  | _,_=>none
 | _,_=>none
def QW:Value→Value→Option Bool
 | .agg xs,.agg ys=>match xs.toList,ys.toList with
  | [.int .u64 a,.int .u64 b,.int .u64 c,.int .u64 d],[.int .u64 a',.int .u64 b',.int .u64 c',.int .u64 d']=>some (a==a'&&(b==b'&&(c==c'&&d==d')))
  | _,_=>none
 | _,_=>none
def QX:Value→Value→Option Bool
 | .agg xs,.agg ys=>match xs.toList,ys.toList with
  | [.int .u64 a,.int .u64 b,.int .u8 c],[.int .u64 a',.int .u64 b',.int .u8 c']=>some ((a==a'&&b==b')&&c==c')
  | _,_=>none
 | _,_=>none
def QY:Value→Value→Option Bool
 | .func _ _ _,.nilFunc=>some false
 | .nilFunc,.nilFunc=>some true
 | _,_=>none
def Ky:Value→Value→Option Bool
 | .agg xs,.agg ys=>match xs.toList,ys.toList with
  | [.int .i64 a,.int .u64 b,.int .u64 c,.int .u8 d],[.int .i64 a',.int .u64 b',.int .u64 c',.int .u8 d']=>some (a==a'&&((b==b'&&c==c')&&d==d'))
  | _,_=>none
 | _,_=>none
def outT (t:TypeId):Bool :=
 Nat.beq t 39 ||
  false
def Dn (t:TypeId) (x y:Value):Option Bool :=
 if t=27 then QV x y else if t=252 then QW x y else if t=62 then QX x y else if t=46 then QY x y else none
def Bl (t:TypeId) (x y:Value):Option Bool:=match outT t with|true=>Ky x y|false=>Dn t x y
def eE:tK:=fun op t x y=>match op with
 | .eql=>match Bl t x y with|some b=>some (.bool b)|none=>none
 | .neq=>match Bl t x y with|some b=>some (.bool (!b))|none=>none
 | _=>none
theorem Kz (w:World) {k:IntKind} {e:TypeId} (hu:Tryz.prog.underlying e=some (.int k)) (xs:Array Value) (i:Nat) (v:Value) (h:xs[i]? = some v):(part e xs i).run Tryz.prog w = .ok v w:=by
 simp[part,isAgg,run_underlying hu,h]
theorem aeo:(Tryz.prog.fieldsOf 27).toList.map (fun f=>(f.name != "_",f.offset,f.type)) = [(true,0,25),(true,1,25)]:=by kernel_rfl
theorem aep:(Tryz.prog.fieldsOf 62).toList.map (fun f=>(f.name != "_",f.offset,f.type)) = [(true,0,27),(true,2,33)]:=by kernel_rfl
theorem QZ (w:World) (n:Nat) (a b c d:Int):(Op.equalIn (n+2) 27 (.agg #[.int .u64 a,.int .u64 b]) (.agg #[.int .u64 c,.int .u64 d])).run Tryz.prog w = .ok (a==c&&b==d) w:=by
 have hu:Tryz.prog.underlying 25=some (.int .u64):=by kernel_rfl
 rw[run_equalIn_struct w (n+1) _ _ _ (by kernel_rfl) (by kernel_rfl)]
 obtain⟨f0,f1,hf,h0,h1⟩:∃ f0 f1:Field,(Tryz.prog.fieldsOf 27).toList = [f0,f1]∧(f0.name ≠ "_" ∧ f0.offset=0∧f0.type=25)∧(f1.name ≠ "_" ∧ f1.offset=1∧f1.type=25):=by
  have:=aeo
  match hl:(Tryz.prog.fieldsOf 27).toList with
  | [f0,f1]=>rw[hl] at this;simp at this;exact⟨f0,f1,rfl,⟨by simpa using this.1.1,this.1.2.1,this.1.2.2⟩,⟨by simpa using this.2.1,this.2.2.1,this.2.2.2⟩⟩
  | []=>rw[hl] at this;simp at this
  | [_]=>rw[hl] at this;simp at this
  | _::_::_::_=>rw[hl] at this;simp at this
 rw[hf]
 have p0 (x y:Value):(part 25 #[x,y] 0).run Tryz.prog w = .ok x w:=Kz w hu _ _ _ rfl
 have p1 (x y:Value):(part 25 #[x,y] 1).run Tryz.prog w = .ok y w:=Kz w hu _ _ _ rfl
 have q (x y:Int):(Op.equalIn (n+1) 25 (.int .u64 x) (.int .u64 y)).run Tryz.prog w = .ok (x==y) w:=run_equalIn_int w n _ .u64 .u64 x y hu
 simp only[Op.eqFields,h0.1,h0.2.1,h0.2.2,h1.1,h1.2.1,h1.2.2,ne_eq,not_true_eq_false,not_false_eq_true,if_true,Sem.run_bind,p0,p1,q,Result.andThen_ok]
 cases (a==c)<;>cases hbd:(b==d)<;>simp[p1,q,hbd,Op.eqFields]
theorem aeq (w:World) (a b a' b' c c':Int):(Op.equalIn 10000 62 (.agg #[.int .u64 a,.int .u64 b,.int .u8 c]) (.agg #[.int .u64 a',.int .u64 b',.int .u8 c'])).run Tryz.prog w = .ok ((a==a'&&b==b')&&c==c') w:=by
 have hu:Tryz.prog.underlying 33=some (.int .u8):=by kernel_rfl
 rw[run_equalIn_struct w 9999 _ _ _ (by kernel_rfl) (by kernel_rfl)]
 obtain⟨f0,f1,hf,h0,h1⟩:∃ f0 f1:Field,(Tryz.prog.fieldsOf 62).toList = [f0,f1]∧(f0.name ≠ "_" ∧ f0.offset=0∧f0.type=27)∧(f1.name ≠ "_" ∧ f1.offset=2∧f1.type=33):=by
  have:=aep
  match hl:(Tryz.prog.fieldsOf 62).toList with
  | [f0,f1]=>rw[hl] at this;simp at this;exact⟨f0,f1,rfl,⟨by simpa using this.1.1,this.1.2.1,this.1.2.2⟩,⟨by simpa using this.2.1,this.2.2.1,this.2.2.2⟩⟩
  | []=>rw[hl] at this;simp at this
  | [_]=>rw[hl] at this;simp at this
  | _::_::_::_=>rw[hl] at this;simp at this
 rw[hf]
 have p0 (x y z:Value):(part 27 #[x,y,z] 0).run Tryz.prog w = .ok (.agg #[x,y]) w:=by
  simp[part,FW (P:=Tryz.prog) (t:=27) (b:=true) (by kernel_rfl),run_sizeOf (P:=Tryz.prog) (t:=27) (s:=2) (by kernel_rfl)]
 have p1 (x y z:Value):(part 33 #[x,y,z] 2).run Tryz.prog w = .ok z w:=Kz w hu _ _ _ rfl
 have q (x y:Int):(Op.equalIn 9999 33 (.int .u8 x) (.int .u8 y)).run Tryz.prog w = .ok (x==y) w:=run_equalIn_int w 9998 _ .u8 .u8 x y hu
 have qb:=QZ w 9997 a b a' b'
 simp only[Op.eqFields,h0.1,h0.2.1,h0.2.2,h1.1,h1.2.1,h1.2.2,ne_eq,not_true_eq_false,not_false_eq_true,if_true,Sem.run_bind,p0,p1,q,qb,Result.andThen_ok]
 cases (a==a'&&b==b')<;>cases hcd:(c==c')<;>simp[p1,q,hcd,Op.eqFields]
theorem aer (w:World) (a b c d a' b' c' d':Int):(Op.equalIn 10000 252 (.agg #[.int .u64 a,.int .u64 b,.int .u64 c,.int .u64 d]) (.agg #[.int .u64 a',.int .u64 b',.int .u64 c',.int .u64 d'])).run Tryz.prog w = .ok (a==a'&&(b==b'&&(c==c'&&d==d'))) w:=by
 have hu:Tryz.prog.underlying 25=some (.int .u64):=by kernel_rfl
 obtain⟨i,hi⟩:∃ i,Tryz.prog.info? 25=some i:=Option.isSome_iff_exists.1 (by kernel_rfl)
 rw[run_equalIn_array (P:=Tryz.prog) (w:=w) (d:=9999) (e:=25) (n:=4) _ _ (by kernel_rfl) hi]
 rw[show Tryz.prog.cellsOf 25=1 by kernel_rfl,show List.range 4 = [0,1,2,3] by decide]
 have p0 (x0 x1 x2 x3:Value):(part 25 #[x0,x1,x2,x3] 0).run Tryz.prog w = .ok x0 w:=Mj w hu _ _ _ rfl
 have p1 (x0 x1 x2 x3:Value):(part 25 #[x0,x1,x2,x3] 1).run Tryz.prog w = .ok x1 w:=Mj w hu _ _ _ rfl
 have p2 (x0 x1 x2 x3:Value):(part 25 #[x0,x1,x2,x3] 2).run Tryz.prog w = .ok x2 w:=Mj w hu _ _ _ rfl
 have p3 (x0 x1 x2 x3:Value):(part 25 #[x0,x1,x2,x3] 3).run Tryz.prog w = .ok x3 w:=Mj w hu _ _ _ rfl
 have q (x y:Int):(Op.equalIn 9999 25 (.int .u64 x) (.int .u64 y)).run Tryz.prog w = .ok (x==y) w:=run_equalIn_int w 9998 _ .u64 .u64 x y hu
 simp only[Op.eqItems,Sem.run_bind,Nat.mul_one]
 rw[p0,Result.andThen_ok,p0,Result.andThen_ok,q,Result.andThen_ok]
 cases (a==a')
 ·rfl
 rw[if_neg (by decide)]
 simp only[Sem.run_bind]
 rw[p1,Result.andThen_ok,p1,Result.andThen_ok,q,Result.andThen_ok]
 cases (b==b')
 ·rfl
 rw[if_neg (by decide)]
 simp only[Sem.run_bind]
 rw[p2,Result.andThen_ok,p2,Result.andThen_ok,q,Result.andThen_ok]
 cases (c==c')
 ·rfl
 rw[if_neg (by decide)]
 simp only[Sem.run_bind]
 rw[p3,Result.andThen_ok,p3,Result.andThen_ok,q,Result.andThen_ok]
 cases (d==d')
 ·rfl
 rfl
theorem aes:(Tryz.prog.fieldsOf 39).toList.map (fun f=>(f.name != "_",f.offset,f.type)) = [(true,0,37),(true,1,27),(true,3,33)]:=by kernel_rfl
theorem aet (w:World) (a b c d a' b' c' d':Int):(Op.equalIn 10000 39 (.agg #[.int .i64 a,.int .u64 b,.int .u64 c,.int .u8 d]) (.agg #[.int .i64 a',.int .u64 b',.int .u64 c',.int .u8 d'])).run Tryz.prog w = .ok (a==a'&&((b==b'&&c==c')&&d==d')) w:=by
 have hu:Tryz.prog.underlying 33=some (.int .u8):=by kernel_rfl
 have he:Tryz.prog.underlying 37=some (.int .i64):=by kernel_rfl
 rw[run_equalIn_struct w 9999 _ _ _ (by kernel_rfl) (by kernel_rfl)]
 obtain⟨f0,f1,f2,hf,h0,h1,h2⟩:∃ f0 f1 f2:Field,(Tryz.prog.fieldsOf 39).toList = [f0,f1,f2]∧(f0.name ≠ "_" ∧ f0.offset=0∧f0.type=37)∧(f1.name ≠ "_" ∧ f1.offset=1∧f1.type=27)∧(f2.name ≠ "_" ∧ f2.offset=3∧f2.type=33):=by
  have:=aes
  match hl:(Tryz.prog.fieldsOf 39).toList with
  | [f0,f1,f2]=>rw[hl] at this;simp at this;exact⟨f0,f1,f2,rfl,⟨by simpa using this.1.1,this.1.2.1,this.1.2.2⟩,⟨by simpa using this.2.1.1,this.2.1.2.1,this.2.1.2.2⟩,⟨by simpa using this.2.2.1,this.2.2.2.1,this.2.2.2.2⟩⟩
  | []=>rw[hl] at this;simp at this
  | [_]=>rw[hl] at this;simp at this
  | [_,_]=>rw[hl] at this;simp at this
  | _::_::_::_::_=>rw[hl] at this;simp at this
 rw[hf]
 have p0 (x y z u:Value):(part 37 #[x,y,z,u] 0).run Tryz.prog w = .ok x w:=Kz w he _ _ _ rfl
 have p1 (x y z u:Value):(part 27 #[x,y,z,u] 1).run Tryz.prog w = .ok (.agg #[y,z]) w:=by
  simp[part,FW (P:=Tryz.prog) (t:=27) (b:=true) (by kernel_rfl),run_sizeOf (P:=Tryz.prog) (t:=27) (s:=2) (by kernel_rfl)]
 have p2 (x y z u:Value):(part 33 #[x,y,z,u] 3).run Tryz.prog w = .ok u w:=Kz w hu _ _ _ rfl
 have q0 (x y:Int):(Op.equalIn 9999 37 (.int .i64 x) (.int .i64 y)).run Tryz.prog w = .ok (x==y) w:=run_equalIn_int w 9998 _ .i64 .i64 x y he
 have q2 (x y:Int):(Op.equalIn 9999 33 (.int .u8 x) (.int .u8 y)).run Tryz.prog w = .ok (x==y) w:=run_equalIn_int w 9998 _ .u8 .u8 x y hu
 have qb:=QZ w 9997 b c b' c'
 simp only[Op.eqFields,h0.1,h0.2.1,h0.2.2,h1.1,h1.2.1,h1.2.2,h2.1,h2.2.1,h2.2.2,ne_eq,not_true_eq_false,not_false_eq_true,if_true,Sem.run_bind,p0,p1,p2,q0,q2,qb,Result.andThen_ok]
 cases hab:(a==a')
 ·simp
 ·cases hbc:(b==b'&&c==c')<;>cases hdd:(d==d')<;>simp[p0,p1,p2,q0,q2,qb,hbc,hdd,Op.eqFields]
theorem aeu {t:TypeId} {x y:Value} {b:Bool} (ht:outT t=true) (h:Ky x y=some b) (w:World):(∀ op xo yo,(eqGuard op t xo yo x y).run Tryz.prog w = .ok () w)∧(binOp .eql t x y).run Tryz.prog w = .ok (.bool b) w∧(binOp .neq t x y).run Tryz.prog w = .ok (.bool (!b)) w:=by
 have ht2:t=39:=by
  unfold outT at ht;rw[Bool.or_false] at ht;exact tq.1 ht
 subst ht2
 have agg:∀ (xs ys:Array Value),Tryz.prog.eqGuardType Tryz.prog.depth 39=false→(Op.equalIn 10000 39 (.agg xs) (.agg ys)).run Tryz.prog w = .ok b w →
   (∀ op xo yo,(eqGuard op 39 xo yo (.agg xs) (.agg ys)).run Tryz.prog w = .ok () w)∧(binOp .eql 39 (.agg xs) (.agg ys)).run Tryz.prog w = .ok (.bool b) w∧(binOp .neq 39 (.agg xs) (.agg ys)).run Tryz.prog w = .ok (.bool (!b)) w:=by
  intro xs ys hg he
  refine⟨fun op xo yo=>run_eqGuard_agg w op _ xo yo xs ys hg,?_,?_⟩
  ·rw[run_eql_struct,he];rfl
  ·rw[run_neq_struct,he];rfl
 have lst:∀ {xs:Array Value} {l:List Value},xs.toList=l→xs=l.toArray:=fun h=>by rw[← h]
 unfold Ky at h
 split at h
 ·split at h
  ·rename_i h1 h2
   cases h
   rw[lst h1,lst h2]
   exact agg _ _ (by kernel_rfl) (aet w _ _ _ _ _ _ _ _)
  ·cases h
 ·cases h
theorem aev {t:TypeId} {x y:Value} {b:Bool} (h:Dn t x y=some b) (w:World):(∀ op xo yo,(eqGuard op t xo yo x y).run Tryz.prog w = .ok () w)∧(binOp .eql t x y).run Tryz.prog w = .ok (.bool b) w∧(binOp .neq t x y).run Tryz.prog w = .ok (.bool (!b)) w:=by
 have agg:∀ (xs ys:Array Value),Tryz.prog.eqGuardType Tryz.prog.depth t=false→(Op.equalIn 10000 t (.agg xs) (.agg ys)).run Tryz.prog w = .ok b w →
   (∀ op xo yo,(eqGuard op t xo yo (.agg xs) (.agg ys)).run Tryz.prog w = .ok () w)∧(binOp .eql t (.agg xs) (.agg ys)).run Tryz.prog w = .ok (.bool b) w∧(binOp .neq t (.agg xs) (.agg ys)).run Tryz.prog w = .ok (.bool (!b)) w:=by
  intro xs ys hg he
  refine⟨fun op xo yo=>run_eqGuard_agg w op t xo yo xs ys hg,?_,?_⟩
  ·rw[run_eql_struct,he];rfl
  ·rw[run_neq_struct,he];rfl
 have lst:∀ {xs:Array Value} {l:List Value},xs.toList=l→xs=l.toArray:=fun h=>by rw[← h]
 unfold Dn at h
 split at h
 ·rename_i ht;subst ht
  unfold QV at h
  split at h
  ·split at h
   ·rename_i h1 h2
    cases h
    rw[lst h1,lst h2]
    exact agg _ _ (by kernel_rfl) (QZ w 9998 _ _ _ _)
   ·cases h
  ·cases h
 ·split at h
  ·rename_i ht;subst ht
   unfold QW at h
   split at h
   ·split at h
    ·rename_i h1 h2
     cases h
     rw[lst h1,lst h2]
     exact agg _ _ (by kernel_rfl) (aer w _ _ _ _ _ _ _ _)
    ·cases h
   ·cases h
  ·split at h
   ·rename_i ht;subst ht
    unfold QX at h
    split at h
    ·split at h
     ·rename_i h1 h2
      cases h
      rw[lst h1,lst h2]
      exact agg _ _ (by kernel_rfl) (aeq w _ _ _ _ _ _)
     ·cases h
    ·cases h
   ·split at h
    ·rename_i ht;subst ht
     have hu:=Tryz.underlying46
     unfold QY at h
     split at h
     ·cases h
      refine⟨fun op xo yo=>by cases op<;>rfl,?_,?_⟩
      ·simp only[binOp];simp[Op.equal,Op.maxDepth]
       show((Op.equalIn (9999+1) _ _ _).run _ w).andThen _=_
       rw[Op.equalIn];simp[run_underlying hu]
      ·simp only[binOp];simp[Op.equal,Op.maxDepth]
       show((Op.equalIn (9999+1) _ _ _).run _ w).andThen _=_
       rw[Op.equalIn];simp[run_underlying hu]
     ·cases h
      refine⟨fun op xo yo=>by cases op<;>rfl,?_,?_⟩
      ·simp only[binOp];simp[Op.equal,Op.maxDepth]
       show((Op.equalIn (9999+1) _ _ _).run _ w).andThen _=_
       rw[Op.equalIn];simp[run_underlying hu]
      ·simp only[binOp];simp[Op.equal,Op.maxDepth]
       show((Op.equalIn (9999+1) _ _ _).run _ w).andThen _=_
       rw[Op.equalIn];simp[run_underlying hu]
     ·cases h
    ·cases h
theorem Q9 {t:TypeId} {x y:Value} {b:Bool} (h:Bl t x y=some b) (w:World):(∀ op xo yo,(eqGuard op t xo yo x y).run Tryz.prog w = .ok () w)∧(binOp .eql t x y).run Tryz.prog w = .ok (.bool b) w∧(binOp .neq t x y).run Tryz.prog w = .ok (.bool (!b)) w:=by
 unfold Bl at h
 split at h
 ·rename_i ht;exact aeu ht h w
 ·exact aev h w
theorem M7 {t:TypeId} (ho:outT t=false) (x y:Value):Bl t x y=Dn t x y:=by unfold Bl;rw[ho]
theorem aew {t:TypeId} (ho:outT t=true) (x y:Value):Bl t x y=Ky x y:=by unfold Bl;rw[ho]
theorem Ra:BF Tryz.prog eE:=by
 intro op t x y v h xo yo w
 unfold eE at h
 split at h
 ·split at h
  ·rename_i b hb
   cases h
   obtain⟨h1,h2,h3⟩:=Q9 hb w
   simp only[Sem.run_bind,h1,h2,Result.andThen_ok]
  ·cases h
 ·split at h
  ·rename_i b hb
   cases h
   obtain⟨h1,h2,h3⟩:=Q9 hb w
   simp only[Sem.run_bind,h1,h3,Result.andThen_ok]
  ·cases h
 ·cases h
def vY:List IntKind→List SV→List SV→Option X
 | [],[],[]=>some (.lit (.ofNat 1))
 | k::ks,.int k1 a::l,.int k2 b::m=>match vQ k k1,vQ k k2,vY ks l m with
  | true,true,some r=>some (mkAnd (uD .eql k a b) r)
  | _,_,_=>none
 | _,_,_=>none
def EJ:List IntKind→List Int→List Value
 | k::ks,n::ns=>.int k n::EJ ks ns
 | _,_=>[]
def Dp:List Int→List Int→Bool
 | a::us,b::zs=>a==b&&Dp us zs
 | _,_=>true
theorem VR (s:rM):∀ {ks:List IntKind} {l m:List SV} {r:X},vY ks l m=some r→∃ us zs:List Int,SV.dens s l=(EJ ks us).map .v∧SV.dens s m=(EJ ks zs).map .v∧us.length=ks.length∧zs.length=ks.length∧(r.den s != 0)=Dp us zs
 | [],[],[],r,h=>by cases h;exact⟨[],[],rfl,rfl,rfl,rfl,rfl⟩
 | k::ks,.int k1 a::l,.int k2 b::m,r,h=>by
  simp only[vY] at h
  split at h
  ·rename_i q h1 h2 h3
   cases h
   have h1:=xC h1;have h2:=xC h2;subst h1;subst h2
   obtain⟨us,zs,e1,e2,e3,e4,e5⟩:=VR s h3
   refine⟨a.den s::us,b.den s::zs,?_,?_,by simp[e3],by simp[e4],?_⟩
   ·rw[SV.dens,e1];rfl
   ·rw[SV.dens,e2];rfl
   ·rw[ade,uF,Da,e5]
    simp only[rY,uF,Dp]
  ·cases h
 | [],[],_::_,r,h=>by simp[vY] at h
 | [],_::_,_,r,h=>by simp[vY] at h
 | _::_,[],_,r,h=>by simp[vY] at h
 | _::_,.int _ _::_,[],r,h=>by simp[vY] at h
 | _::_,.int _ _::_,.v _::_,r,h=>by simp[vY] at h
 | _::_,.int _ _::_,.bool _::_,r,h=>by simp[vY] at h
 | _::_,.int _ _::_,.loc _ _::_,r,h=>by simp[vY] at h
 | _::_,.int _ _::_,.sl _ _ _ _::_,r,h=>by simp[vY] at h
 | _::_,.int _ _::_,.fn _ _ _::_,r,h=>by simp[vY] at h
 | _::_,.int _ _::_,.tup _::_,r,h=>by simp[vY] at h
 | _::_,.int _ _::_,.agg _::_,r,h=>by simp[vY] at h
 | _::_,.v _::_,_,r,h=>by simp[vY] at h
 | _::_,.bool _::_,_,r,h=>by simp[vY] at h
 | _::_,.loc _ _::_,_,r,h=>by simp[vY] at h
 | _::_,.sl _ _ _ _::_,_,r,h=>by simp[vY] at h
 | _::_,.fn _ _ _::_,_,r,h=>by simp[vY] at h
 | _::_,.tup _::_,_,r,h=>by simp[vY] at h
 | _::_,.agg _::_,_,r,h=>by simp[vY] at h
def M8:SV→Option (List SV)
 | .agg l=>some l
 | .v (.agg cs)=>some (cs.toList.map xD)
 | _=>none
theorem VS {s:rM} {x:SV} {l:List SV} {vs:List Value} (h:M8 x=some l) (hd:SV.dens s l=vs.map .v):x.den s = .v (.agg vs.toArray):=by
 unfold M8 at h
 split at h
 ·cases h;simp only[SV.den,hd,Ms]
 ·rename_i cs
  cases h
  rw[zR] at hd
  have:=congrArg uh hd
  rw[De,De] at this
  have:=Option.some.inj this
  simp only[SV.den,← this]
 ·cases h
def M9:SV→Option (Option Value)
 | .v .nilFunc=>some none
 | .v (.func f a c)=>some (some (.func f a c))
 | .fn f [] []=>some (some (.func f #[] #[]))
 | _=>none
def VT (t:TypeId):Option (List IntKind):=match outT t with
 | true=>some [.i64,.u64,.u64,.u8]
 | false=>match Nat.beq t 27 with
 | true=>some [.u64,.u64]
 | false=>match Nat.beq t 252 with
  | true=>some [.u64,.u64,.u64,.u64]
  | false=>match Nat.beq t 62 with
   | true=>some [.u64,.u64,.u8]
   | false=>none
def KA:GG:=fun t x y=>match VT t with
 | some ks=>match M8 x,M8 y with
  | some l,some m=>vY ks l m
  | _,_=>none
 | none=>match Nat.beq t 46 with
  | true=>match M9 x,M9 y with
   | some (some _),some none=>some (.lit (.ofNat 0))
   | some none,some none=>some (.lit (.ofNat 1))
   | _,_=>none
  | false=>none
theorem Rb:MH Tryz.prog KA eE:=by
 intro t x y r s h
 unfold KA at h
 have pb:∀ (u v:List Value) op,wD Tryz.prog op t (.agg u.toArray) (.agg v.toArray)=none:=fun u v op=>rfl
 have fin:∀ (a b:Value) (q:Bool),wD Tryz.prog .eql t a b=none→wD Tryz.prog .neq t a b=none→Bl t a b=some q→x.den s = .v a→y.den s = .v b→(r.den s != 0)=q →
   ∃ a b,x.den s = .v a∧y.den s = .v b∧wD Tryz.prog .eql t a b=none∧wD Tryz.prog .neq t a b=none∧eE .eql t a b=some (.bool (r.den s != 0))∧eE .neq t a b=some (.bool (!(r.den s != 0))):=fun a b q h1 h2 h3 h4 h5 h6 =>
  ⟨a,b,h4,h5,h1,h2,by simp only[eE,h3,h6],by simp only[eE,h3,h6]⟩
 split at h
 ·rename_i ks hk
  split at h
  ·rename_i l m hl hm
   obtain⟨us,zs,e1,e2,e3,e4,e5⟩:=VR s h
   have hx:=VS hl e1
   have hy:=VS hm e2
   refine fin _ _ (Dp us zs) (pb _ _ _) (pb _ _ _) ?_ hx hy e5
   unfold VT at hk
   split at hk
   ·rename_i ho
    cases hk
    match us,zs,e3,e4 with
    | [a,b,c,d],[a',b',c',d'],_,_ =>
     rw[aew ho]
     simp only[Ky,EJ,Dp,Bool.and_true,Bool.and_assoc]
   rename_i ho
   split at hk
   ·rename_i ht
    cases hk
    have ht:=tq.1 ht
    match us,zs,e3,e4 with
    | [a,b],[c,d],_,_ =>
     rw[M7 ho]
     unfold Dn
     rw[if_pos ht]
     simp only[QV,EJ,Dp,Bool.and_true]
   ·rename_i ht0
    split at hk
    ·rename_i ht
     cases hk
     have ht:=tq.1 ht
     match us,zs,e3,e4 with
     | [a,b,c,d],[a',b',c',d'],_,_ =>
      rw[M7 ho]
      unfold Dn
      rw[if_neg (fun e=>by rw[e] at ht0;simp at ht0),if_pos ht]
      simp only[QW,EJ,Dp,Bool.and_true]
    ·rename_i ht1
     split at hk
     ·rename_i ht
      cases hk
      have ht:=tq.1 ht
      match us,zs,e3,e4 with
      | [a,b,c],[a',b',c'],_,_ =>
       rw[M7 ho]
       unfold Dn
       rw[if_neg (fun e=>by rw[e] at ht0;simp at ht0),if_neg (fun e=>by rw[e] at ht1;simp at ht1),if_pos ht]
       simp only[QX,EJ,Dp,Bool.and_true,Bool.and_assoc]
     ·cases hk
  ·cases h
 ·split at h
  ·rename_i hk ht
   have ht:=tq.1 ht
   have hf:∀ {z:SV} {o:Option Value},M9 z=some o→z.den s = .v (match o with|none=>.nilFunc|some v=>v)∧∀ v,o=some v→∃ f a c,v = .func f a c:=fun {z} {o} hz=>by
    unfold M9 at hz
    split at hz
    ·cases hz;exact⟨rfl,fun v hv=>by cases hv⟩
    ·cases hz;exact⟨rfl,fun v hv=>by cases hv;exact⟨_,_,_,rfl⟩⟩
    ·cases hz;exact⟨rfl,fun v hv=>by cases hv;exact⟨_,_,_,rfl⟩⟩
    ·cases hz
   have hne:t≠27∧t≠252∧t≠62:=by rw[ht];decide
   have ho:outT t=false:=by rw[ht];rfl
   have at':∀ a b,Bl t a b=QY a b:=fun a b=>by
    rw[M7 ho];unfold Dn;rw[if_neg hne.1,if_neg hne.2.1,if_neg hne.2.2,if_pos ht]
   split at h
   ·rename_i v h1 h2
    cases h
    obtain⟨hx,hv⟩:=hf h1
    obtain⟨hy,_⟩:=hf h2
    obtain⟨f,a,c,rfl⟩:=hv v rfl
    exact fin _ _ false rfl rfl (by rw[at'];rfl) hx hy rfl
   ·rename_i h1 h2
    cases h
    obtain⟨hx,_⟩:=hf h1
    obtain⟨hy,_⟩:=hf h2
    exact fin _ _ true rfl rfl (by rw[at'];rfl) hx hy rfl
   ·cases h
  ·cases h
open Go.RowKit
noncomputable def cE:tC:=⟨Tryz.prog,gG,KA,fun _=>none,fun _ _=>[],fun _=>none,fun _=>[]⟩
theorem aex:(Tryz.prog.funcs.toList.all fun fn=>fn.body.isNone || !(fn.name == "runtime.NumGoroutine"))=true:=by kernel_rfl
theorem Na:wH cE eE:=by
 refine⟨Rb,Ra,by kernel_rfl,?_,fun g ct h=>(by cases h),fun g ct h=>(by cases h),fun g c h=>(by cases h)⟩
 intro g fn hf hb
 have h:=List.all_eq_true.1 aex fn (Array.mem_toList_iff.2 (Array.mem_of_getElem? hf))
 rw[Bool.or_eq_true] at h
 rcases h with h|h
 ·rw[Option.isNone_iff_eq_none] at h;rw[h] at hb;cases hb
 ·simpa using h
abbrev kU:VK:=.int .u64
abbrev kI:VK:=.int .i64
abbrev kB:VK:=.int .u8
abbrev zD:Sh:=.agg [kU,kU,kU,kU]
def u64 (n:Int):Int:=uR .u64 n
theorem yP (n:Int):ve (u64 n):=by
 unfold u64;rw[uw]
 show 0≤_∧_<(18446744073709551616:Int)
 unfold IntKind.wrap IntKind.bits IntKind.signed;simp;omega
theorem Rc {n:Int} (h:ve n):IntKind.u64.wrap n=n:=by
 have h1:=h.1;have h2:n<18446744073709551616:=h.2
 unfold IntKind.wrap IntKind.bits IntKind.signed;simp;omega
def uo (n:Int):Int:=sF (sV n)
theorem Re (n:Int):0≤uo n∧uo n≤1:=by unfold uo;cases sV n<;>decide
theorem Nc {n:Int} (h:0≤n∧n≤1):sF (n != 0)=n:=by
 rcases(show n=0∨n=1 by omega) with rfl|rfl<;>rfl
theorem Bn (n:Int):tX kU n = .int .u64 (u64 n):=by simp only[tX,u64,uw]
theorem VU (n:Int):tX .bit n = .int .u64 (uo n):=by simp only[tX,uo,uS]
theorem VV {g:FuncId} {vs:List Value} {v:Value} (h:∀ w,(callFunc g vs.toArray).run Tryz.prog w = .ok (.value v) w):PC Tryz.prog gG g vs v:=fun w _=>by
 unfold wW;rw[h w];exact⟨rfl,ry.refl w⟩
theorem three {α:Type} {l:List α} (h:l.length=3):∃ a b c,l = [a,b,c]:=by match l,h with | [a,b,c],_=>exact⟨a,b,c,rfl⟩
theorem two {α:Type} {l:List α} (h:l.length=2):∃ a b,l = [a,b]:=by match l,h with | [a,b],_=>exact⟨a,b,rfl⟩
theorem one' {α:Type} {l:List α} (h:l.length=1):∃ a,l = [a]:=by match l,h with | [a],_=>exact⟨a,rfl⟩
theorem four {α:Type} {l:List α} (h:l.length=4):∃ a b c d,l = [a,b,c,d]:=by match l,h with | [a,b,c,d],_=>exact⟨a,b,c,d,rfl⟩
theorem eight {α:Type} {l:List α} (h:l.length=8):∃ a b c d e f g i,l = [a,b,c,d,e,f,g,i]:=by match l,h with | [a,b,c,d,e,f,g,i],_=>exact⟨a,b,c,d,e,f,g,i,rfl⟩
def EK (l:List Int):List Int:=[yK (u64 (rP l 0)) (u64 (rP l 1)) (uo (rP l 2)),vM (u64 (rP l 0)) (u64 (rP l 1)) (uo (rP l 2))]
def EL (l:List Int):List Int:=[yg (u64 (rP l 0)) (u64 (rP l 1)) (uo (rP l 2)),vD (u64 (rP l 0)) (u64 (rP l 1)) (uo (rP l 2))]
def G9 (l:List Int):List Int:=[u64 (rP l 0)*u64 (rP l 1)/(rH:Int),u64 (rP l 0)*u64 (rP l 1)%(rH:Int)]
def Rf (l:List Int):List Int:=[(Lib.bitLen (u64 (rP l 0)).toNat:Int)]
theorem aey (x y c:Int):ve (yK x y c):=by
 unfold yK;exact⟨Int.emod_nonneg _ (by decide),Int.emod_lt_of_pos _ (by decide)⟩
theorem aez (x y c:Int):ve (yg x y c):=by
 unfold yg;exact⟨Int.emod_nonneg _ (by decide),Int.emod_lt_of_pos _ (by decide)⟩
theorem aeA {x y c:Int} (hx:ve x) (hy:ve y) (hc:0≤c∧c≤1):0≤vM x y c∧vM x y c≤1:=by
 have h1:=hx.1;have h2:x<18446744073709551616:=hx.2;have h3:=hy.1;have h4:y<18446744073709551616:=hy.2
 unfold vM
 show 0≤(x+y+c)/18446744073709551616∧(x+y+c)/18446744073709551616≤1
 omega
theorem aeB (x y c:Int):0≤vD x y c∧vD x y c≤1:=by unfold vD;split<;>decide
theorem aeC:rQ Tryz.prog gG ⟨124,⟨[.sc kU,.sc kU,.sc .bit],[.sc kU,.sc .bit]⟩,EK⟩:=by
 intro l hl
 obtain⟨a,b,c,rfl⟩:=three hl
 refine⟨rfl,?_⟩
 have h:=VV (g:=124) (vs:=[_,_,_]) (Uw (u64 a) (u64 b) (uo c) (yP a) (yP b) (Re c))
 have e1:=Rc (aey (u64 a) (u64 b) (uo c))
 have e2:=Nc (aeA (yP a) (yP b) (Re c))
 simp only[su,ut,Sh.kinds,List.drop_succ_cons,List.drop_zero,List.length_cons,List.length_nil,Bn,VU,EK,rP,tH]
 have e3:u64 (yK (u64 a) (u64 b) (uo c))=yK (u64 a) (u64 b) (uo c):=by conv => { lhs;unfold u64 };rw[uw];exact e1
 have e4:uo (vM (u64 a) (u64 b) (uo c))=vM (u64 a) (u64 b) (uo c):=by conv => { lhs;unfold uo };rw[uS];exact e2
 rw[e3,e4];exact h
theorem aeD:rQ Tryz.prog gG ⟨308,⟨[.sc kU,.sc kU,.sc .bit],[.sc kU,.sc .bit]⟩,EL⟩:=by
 intro l hl
 obtain⟨a,b,c,rfl⟩:=three hl
 refine⟨rfl,?_⟩
 have h:=VV (g:=308) (vs:=[_,_,_]) (Ux (u64 a) (u64 b) (uo c) (yP a) (yP b) (Re c))
 have e1:=Rc (aez (u64 a) (u64 b) (uo c))
 have e2:=Nc (aeB (u64 a) (u64 b) (uo c))
 simp only[su,ut,Sh.kinds,List.drop_succ_cons,List.drop_zero,List.length_cons,List.length_nil,Bn,VU,EL,rP,tH]
 have e3:u64 (yg (u64 a) (u64 b) (uo c))=yg (u64 a) (u64 b) (uo c):=by conv => { lhs;unfold u64 };rw[uw];exact e1
 have e4:uo (vD (u64 a) (u64 b) (uo c))=vD (u64 a) (u64 b) (uo c):=by conv => { lhs;unfold uo };rw[uS];exact e2
 rw[e3,e4];exact h
theorem Bo {n:Int} (h:ve n):u64 n=n:=by unfold u64;rw[uw];exact Rc h
theorem aeE {x y:Int} (hx:ve x) (hy:ve y):ve (x*y/(rH:Int)):=by
 obtain⟨a,rfl,ha⟩:=hx.nat
 obtain⟨b,rfl,hb⟩:=hy.nat
 rw[(Uy ha hb).1];exact AY _ _
theorem aeF:rQ Tryz.prog gG ⟨367,⟨[.sc kU,.sc kU],[.sc kU,.sc kU]⟩,G9⟩:=by
 intro l hl
 obtain⟨a,b,rfl⟩:=two hl
 refine⟨rfl,?_⟩
 have h:PC Tryz.prog gG 367 [.int .u64 (u64 a),.int .u64 (u64 b)] (.tuple #[.int .u64 (u64 a*u64 b/(rH:Int)),.int .u64 (u64 a*u64 b%(rH:Int))]) :=
  JH Tryz.func367 (by kernel_rfl) (by kernel_rfl) fun w=>(acJ (u64 a) (u64 b) w (yP a) (yP b)).mono fun e w' ⟨h1,h2⟩=>⟨h1,by rw[← h2];exact ry.refl w⟩
 simp only[su,ut,Sh.kinds,List.drop_succ_cons,List.drop_zero,List.length_cons,List.length_nil,Bn,G9,rP,tH]
 rw[Bo (aeE (yP a) (yP b)),Bo (n:=u64 a*u64 b%(rH:Int)) ⟨Int.emod_nonneg _ (by decide),Int.emod_lt_of_pos _ (by decide)⟩]
 exact h
theorem bitLen_le (n : Nat) (h : n < rH) : Lib.bitLen n ≤ 64 := by
  unfold Lib.bitLen
  have key : ∀ f x, Lib.bitLenAux f x ≤ f := by
    intro f
    induction f with
    | zero => intro x; exact Nat.le_refl _
    | succ f ih => intro x; unfold Lib.bitLenAux; split
                   · omega
                   · have := ih (x / 2); omega
  exact key _ _
theorem aeG:rQ Tryz.prog gG ⟨342,⟨[.sc kU],[.sc kI]⟩,Rf⟩:=by
 intro l hl
 obtain⟨a,rfl⟩:=one' hl
 refine⟨rfl,?_⟩
 have h:PC Tryz.prog gG 342 [.int .u64 (u64 a)] (.int .i64 (Lib.bitLen (u64 a).toNat:Int)) :=
  JH Tryz.func342 (by kernel_rfl) (by kernel_rfl) fun w=>(acK (u64 a) w (yP a)).mono fun e w' ⟨h1,h2⟩=>⟨h1,by rw[← h2];exact ry.refl w⟩
 have hb:=bitLen_le (u64 a).toNat (by have h1:=(yP a).1;have h2:=(yP a).2;omega)
 simp only[su,ut,Bn,Rf,rP,tH]
 have e:tX kI (Lib.bitLen (u64 a).toNat:Int) = .int .i64 (Lib.bitLen (u64 a).toNat:Int):=by
  simp only[tX]
  rw[wrap_i64 (by omega)]
 rw[e];exact h
def Rh (l:List Int):List Int:=[sF (Ml (uR .u8 (rP l 0)) (sV (rP l 1)) (sV (rP l 2)) (uR .u8 (rP l 3)))]
theorem aeH:rQ Tryz.prog gG ⟨323,⟨[.sc kB,.sc .bool,.sc .bool,.sc kB],[.sc .bool]⟩,Rh⟩:=by
 intro l hl
 obtain⟨a,b,c,d,rfl⟩:=four hl
 refine⟨rfl,?_⟩
 have h:PC Tryz.prog gG 323 [.int .u8 (uR .u8 a),.bool (sV b),.bool (sV c),.int .u8 (uR .u8 d)] (.bool (Ml (uR .u8 a) (sV b) (sV c) (uR .u8 d))) :=
  JH Tryz.func323 (by kernel_rfl) (by kernel_rfl) fun w=>ac8 _ _ _ _ w
 simp only[su,ut,Sh.kinds,List.drop_succ_cons,List.drop_zero,List.length_cons,List.length_nil,tX,Rh,rP,tH,uF,← uw,← uS]
 simp only[uS,uF] at h ⊢
 exact h
def w4 (l:List Int) (i:Nat):Nat:=(u64 (rP l i)).toNat+rH*((u64 (rP l (i+1))).toNat+rH*((u64 (rP l (i+2))).toNat+rH*(u64 (rP l (i+3))).toNat))
theorem uJ (n:Int):((u64 n).toNat:Int)=u64 n∧(u64 n).toNat<rH:=by
 have h:=yP n
 exact⟨Int.toNat_of_nonneg h.1,by have:=h.2;have:=h.1;omega⟩
theorem VW (a b c d:Nat) (ha:a<rH) (hb:b<rH) (hc:c<rH) (hd:d<rH):wd (a+rH*(b+rH*(c+rH*d))) 0=a∧wd (a+rH*(b+rH*(c+rH*d))) 1=b∧wd (a+rH*(b+rH*(c+rH*d))) 2=c ∧
  wd (a+rH*(b+rH*(c+rH*d))) 3=d∧a+rH*(b+rH*(c+rH*d))<sP:=by
 have hW:rH=18446744073709551616:=rfl
 unfold wd sP rO
 rw[Nat.pow_zero,Nat.pow_one,show rH^2=rH*rH by rw[Nat.pow_two],show rH^3=rH*(rH*rH) by rw[Nat.pow_succ,Nat.pow_two,Nat.mul_comm]]
 have d1:(a+rH*(b+rH*(c+rH*d)))/rH=b+rH*(c+rH*d):=by rw[Nat.add_mul_div_left _ _ vC,Nat.div_eq_of_lt ha,Nat.zero_add]
 have d2:(b+rH*(c+rH*d))/rH=c+rH*d:=by rw[Nat.add_mul_div_left _ _ vC,Nat.div_eq_of_lt hb,Nat.zero_add]
 have d3:(c+rH*d)/rH=d:=by rw[Nat.add_mul_div_left _ _ vC,Nat.div_eq_of_lt hc,Nat.zero_add]
 rw[← Nat.div_div_eq_div_mul,← Nat.div_div_eq_div_mul,← Nat.div_div_eq_div_mul,d1,d2,d3,Nat.div_one]
 refine⟨?_,?_,?_,?_,?_⟩
 ·rw[Nat.add_mul_mod_self_left,Nat.mod_eq_of_lt ha]
 ·rw[Nat.add_mul_mod_self_left,Nat.mod_eq_of_lt hb]
 ·rw[Nat.add_mul_mod_self_left,Nat.mod_eq_of_lt hc]
 ·rw[Nat.mod_eq_of_lt hd]
 ·have ha':a<18446744073709551616:=ha
  have hb':b<18446744073709551616:=hb
  have hc':c<18446744073709551616:=hc
  have hd':d<18446744073709551616:=hd
  clear d1 d2 d3 ha hb hc hd hW
  show a+18446744073709551616*(b+18446744073709551616*(c+18446744073709551616*d))<115792089237316195423570985008687907853269984665640564039457584007913129639936
  omega
theorem Dq (l:List Int) (i:Nat):vW (w4 l i) = .agg #[.int .u64 (u64 (rP l i)),.int .u64 (u64 (rP l (i+1))),.int .u64 (u64 (rP l (i+2))),.int .u64 (u64 (rP l (i+3)))]∧w4 l i<sP:=by
 obtain⟨h0,h1,h2,h3,h4⟩:=VW _ _ _ _ (uJ (rP l i)).2 (uJ (rP l (i+1))).2 (uJ (rP l (i+2))).2 (uJ (rP l (i+3))).2
 unfold w4 vW
 rw[h0,h1,h2,h3,(uJ _).1,(uJ _).1,(uJ _).1,(uJ _).1]
 exact⟨rfl,h4⟩
def Dr (s:Nat) (b:Bool):List Int:=[wd s 0,wd s 1,wd s 2,wd s 3,sF b]
theorem VX (s:Nat) (b:Bool):tH (su [zD,.sc .bool] (Dr s b)) = .tuple #[vW s,.bool b]:=by
 simp only[su,ut,sW,Sh.kinds,List.drop_succ_cons,List.drop_zero,List.length_cons,List.length_nil,Bn,Dr,tH,Bo (AY _ _)]
 simp only[tX,uF]
def Ha (l:List Int):List Int:=Dr (w4 l 0+w4 l 4) (Nat.ble sP (w4 l 0+w4 l 4))
theorem aeI:rQ Tryz.prog gG ⟨235,⟨[zD,zD],[zD,.sc .bool]⟩,Ha⟩:=by
 intro l hl
 refine⟨rfl,?_⟩
 have h:PC Tryz.prog gG 235 [vW (w4 l 0),vW (w4 l 4)] (.tuple #[vW (w4 l 0+w4 l 4),.bool (decide (sP≤w4 l 0+w4 l 4))]) :=
  JH Tryz.func235 (by kernel_rfl) (by kernel_rfl) fun w=>acW _ _ w (Dq l 0).2 (Dq l 4).2
 obtain⟨a,b,c,d,e,f,g,i,rfl⟩:=eight hl
 unfold Ha
 rw[VX,show Nat.ble sP (w4 [a,b,c,d,e,f,g,i] 0+w4 [a,b,c,d,e,f,g,i] 4)=decide (sP≤w4 [a,b,c,d,e,f,g,i] 0+w4 [a,b,c,d,e,f,g,i] 4) by
  rw[Bool.eq_iff_iff,Nat.ble_eq,decide_eq_true_iff]]
 rw[(Dq _ 0).1,(Dq _ 4).1] at h
 simpa only[su,ut,sW,Sh.kinds,List.drop_succ_cons,List.drop_zero,List.length_cons,List.length_nil,Bn,rP] using h
def Ri (l:List Int):List Int:=Dr (w4 l 0+sP-w4 l 4) (Nat.blt (w4 l 0) (w4 l 4))
theorem aeJ:rQ Tryz.prog gG ⟨236,⟨[zD,zD],[zD,.sc .bool]⟩,Ri⟩:=by
 intro l hl
 refine⟨rfl,?_⟩
 have h:PC Tryz.prog gG 236 [vW (w4 l 0),vW (w4 l 4)] (.tuple #[vW (w4 l 0+sP-w4 l 4),.bool (decide (w4 l 0<w4 l 4))]) :=
  JH Tryz.func236 (by kernel_rfl) (by kernel_rfl) fun w=>acX _ _ w (Dq l 0).2 (Dq l 4).2
 obtain⟨a,b,c,d,e,f,g,i,rfl⟩:=eight hl
 unfold Ri
 rw[VX,show Nat.blt (w4 [a,b,c,d,e,f,g,i] 0) (w4 [a,b,c,d,e,f,g,i] 4)=decide (w4 [a,b,c,d,e,f,g,i] 0<w4 [a,b,c,d,e,f,g,i] 4) by
  rw[Bool.eq_iff_iff,Nat.blt_eq,decide_eq_true_iff]]
 rw[(Dq _ 0).1,(Dq _ 4).1] at h
 simpa only[su,ut,sW,Sh.kinds,List.drop_succ_cons,List.drop_zero,List.length_cons,List.length_nil,Bn,rP] using h
def VY:List sH:=[
 ⟨124,⟨[.sc kU,.sc kU,.sc .bit],[.sc kU,.sc .bit]⟩,EK⟩,
 ⟨308,⟨[.sc kU,.sc kU,.sc .bit],[.sc kU,.sc .bit]⟩,EL⟩,
 ⟨367,⟨[.sc kU,.sc kU],[.sc kU,.sc kU]⟩,G9⟩,
 ⟨235,⟨[zD,zD],[zD,.sc .bool]⟩,Ha⟩,
 ⟨236,⟨[zD,zD],[zD,.sc .bool]⟩,Ri⟩,
 ⟨323,⟨[.sc kB,.sc .bool,.sc .bool,.sc kB],[.sc .bool]⟩,Rh⟩,
 ⟨342,⟨[.sc kU],[.sc kI]⟩,Rf⟩]
open Go.RowKit
def sG (L:List sH):uM:=fun g l=>match vX L g with|some e=>e.F l|none=>[]
theorem Bp {L:List sH} {g:FuncId} {e:sH} (h:vX L g=some e):sG L g=e.F:=by funext l;unfold sG;rw[h]
def Dt (L:List sH):FuncId→Option Ct:=fun g=>match vX L g with|some e=>some e.ct|none=>none
noncomputable def ctx (L:List sH):tC:=⟨Tryz.prog,gG,KA,Dt L,sG L,fun _=>none,fun _=>[]⟩
theorem sS {L:List sH} (h:∀ e∈L,rQ Tryz.prog gG e):vG (ctx L) eE:=by
  have key:∀ (g:FuncId) (ct:Ct),(ctx L).ct g=some ct→∀ l:List Int,l.length=(rE ct.a).length→((ctx L).Φ g l).length=(rE ct.r).length∧PC Tryz.prog gG g (su ct.a l) (tH (su ct.r ((ctx L).Φ g l))):=by
   intro g ct hct l hl
   simp only[ctx,Dt,sG] at hct ⊢
   cases hf:vX L g with
   | some e =>
     rw[hf] at hct
     simp only[Option.some.injEq] at hct;subst hct
     obtain⟨h1,h2⟩:=GX hf
     subst h2
     exact h e h1 l hl
   | none=>rw[hf] at hct;cases hct
  exact⟨⟨Rb,Ra,Na.mix,Na.nm,fun g ct hct l hl _=>(key g ct hct l hl).2,fun g ct hn=>(by cases hn),fun g c hc=>(by cases hc)⟩,fun g ct hct l hl=>(key g ct hct l hl).1,fun g ct hn=>(by cases hn),fun g c hc=>(by cases hc)⟩
def zW:List uA→Nat→Option uA
 | [],_=>none
 | x::l,id=>match Nat.beq x.c.id id with|true=>some x|false=>zW l id
def EM:List uA→FuncId→List vT
 | [],_=>[]
 | x::l,g=>match Nat.beq x.g g with|true=>x.c::EM l g|false=>EM l g
def uk (L M:List sH) (S:List uA):uM:=fun g l=>match zW S g with
 | some e=>e.F l
 | none=>match vX M g with|some e=>e.F l|none=>sG L g l
theorem VZ {L M:List sH} {S:List uA} {g:Nat} {e:uA} (h:zW S g=some e):uk L M S g=e.F:=by funext l;unfold uk;rw[h]
theorem V3 {L M:List sH} {S:List uA} {g:Nat} {e:sH} (h0:zW S g=none) (h:vX M g=some e):uk L M S g=e.F:=by funext l;unfold uk;rw[h0];simp only[];rw[h]
theorem KC {L M:List sH} {S:List uA} {g:Nat} {e:sH} (h0:zW S g=none) (h1:vX M g=none) (h:vX L g=some e):uk L M S g=e.F:=by funext l;unfold uk;rw[h0];simp only[];rw[h1];simp only[];rw[Bp h]
noncomputable def sI (L M:List sH) (S:List uA):tC:=⟨Tryz.prog,gG,KA,Dt L,uk L M S,Dt M,EM S⟩
def KD (S:List uA) (g:Nat):Bool:=match zW S g with|some _=>false|none=>true
def Rj (M:List sH) (g:Nat):Bool:=match vX M g with|some _=>false|none=>true
def Nf (M:List sH) (S:List uA):List sH→Bool
 | []=>true
 | x::l=>tu (KD S x.g) (tu (Rj M x.g) (Nf M S l))
def Ng (S:List uA):List sH→Bool
 | []=>true
 | x::l=>tu (KD S x.g) (Ng S l)
def Nh:List uA→Bool
 | []=>true
 | x::l=>tu (KD l x.c.id) (Nh l)
theorem Rk {S:List uA} {g:Nat} (h:KD S g=true):zW S g=none:=by
 unfold KD at h
 cases hf:zW S g with
 | none=>rfl
 | some e=>rw[hf] at h;cases h
theorem aeK {M:List sH} {g:Nat} (h:Rj M g=true):vX M g=none:=by
 unfold Rj at h
 cases hf:vX M g with
 | none=>rfl
 | some e=>rw[hf] at h;cases h
theorem Rl {M:List sH} {S:List uA} : ∀ {L:List sH},Nf M S L=true→∀ e∈L,zW S e.g=none∧vX M e.g=none
 | [],_,e,he=>by cases he
 | x::l,h,e,he=>by
  have h:=sM h;have h2:=sM h.2
  rcases List.mem_cons.1 he with rfl|he
  ·exact⟨Rk h.1,aeK h2.1⟩
  ·exact Rl h2.2 e he
theorem Rm {S:List uA} : ∀ {L:List sH},Ng S L=true→∀ e∈L,zW S e.g=none
 | [],_,e,he=>by cases he
 | x::l,h,e,he=>by
  have h:=sM h
  rcases List.mem_cons.1 he with rfl|he
  ·exact Rk h.1
  ·exact Rm h.2 e he
theorem Rn:∀ {S:List uA},Nh S=true→∀ e∈S,zW S e.c.id=some e
 | [],_,e,he=>by cases he
 | x::l,h,e,he=>by
  have h:=sM h
  simp only[zW]
  rcases List.mem_cons.1 he with rfl|he
  ·rw[Nat.beq_refl]
  ·have h1:=Rn h.2 e he
   cases hb:Nat.beq x.c.id e.c.id with
   | true =>
    have h2:=Rk h.1
    rw[tq.1 hb,h1] at h2;cases h2
   | false=>exact h1
theorem Ni:∀ {S:List uA} {g:FuncId} {c:vT},c∈EM S g→∃ e∈S,e.g=g∧e.c=c
 | [],g,c,h=>by cases h
 | x::l,g,c,h=>by
  simp only[EM] at h
  split at h
  ·rename_i hb
   rcases List.mem_cons.1 h with rfl|h
   ·exact⟨x,List.mem_cons_self,tq.1 hb,rfl⟩
   ·obtain⟨e,h1,h2⟩:=Ni h;exact⟨e,List.mem_cons_of_mem _ h1,h2⟩
  ·obtain⟨e,h1,h2⟩:=Ni h;exact⟨e,List.mem_cons_of_mem _ h1,h2⟩
theorem Ro {L M:List sH} {S:List uA} (hL:∀ e∈L,yn Tryz.prog gG e) (hM:∀ e∈M,QR Tryz.prog gG e) (hS:∀ e∈S,QU Tryz.prog gG e) (h:tu (Nf M S L) (tu (Ng S M) (Nh S))=true):wH (sI L M S) eE:=by
 have h:=sM h;have h2:=sM h.2
 refine⟨Rb,Ra,Na.mix,Na.nm,fun g ct hct l hl hF=>?_,fun g ct hct=>?_,fun g c hc l hl hF=>?_⟩
 ·simp only[sI,Dt] at hct hF ⊢
  cases hf:vX L g with
  | some e =>
   rw[hf] at hct
   simp only[Option.some.injEq] at hct;subst hct
   obtain⟨h1,h3⟩:=GX hf
   subst h3
   obtain⟨h4,h5⟩:=Rl h.1 e h1
   rw[KC h4 h5 hf] at hF ⊢
   exact(hL e h1).ok l hl hF
  | none=>rw[hf] at hct;cases hct
 ·simp only[sI,Dt] at hct ⊢
  cases hf:vX M g with
  | some e =>
   rw[hf] at hct
   simp only[Option.some.injEq] at hct;subst hct
   obtain⟨h1,h3⟩:=GX hf
   subst h3
   have h4:=Rm h2.1 e h1
   refine⟨(hM e h1).two,fun l hl hF=>?_⟩
   rw[V3 h4 hf] at hF ⊢
   exact(hM e h1).ok l hl hF
  | none=>rw[hf] at hct;cases hct
 ·obtain⟨e,h1,h3,h4⟩:=Ni (show c∈EM S g from hc)
  subst h3;subst h4
  have h5:=Rn h2.2 e h1
  simp only[sI] at hF ⊢
  rw[VZ h5] at hF ⊢
  exact(hS e h1).ok l hl hF
theorem Ap {L M:List sH} {S:List uA} (hL:∀ e∈L,rQ Tryz.prog gG e) (hM:∀ e∈M,Kw Tryz.prog gG e) (hS:∀ e∈S,Bj Tryz.prog gG e) (h:tu (Nf M S L) (tu (Ng S M) (Nh S))=true):vG (sI L M S) eE:=by
 refine⟨Ro (fun e he=>(hL e he).c) (fun e he=>(hM e he).c) (fun e he=>(hS e he).c) h,?_,?_,?_⟩
 all_goals have h:=sM h
 all_goals have h2:=sM h.2
 ·intro g ct hct l hl
  simp only[sI,Dt] at hct ⊢
  cases hf:vX L g with
  | some e =>
   rw[hf] at hct
   simp only[Option.some.injEq] at hct;subst hct
   obtain⟨h1,h3⟩:=GX hf
   subst h3
   obtain⟨h4,h5⟩:=Rl h.1 e h1
   rw[KC h4 h5 hf]
   exact(hL e h1 l hl).1
  | none=>rw[hf] at hct;cases hct
 ·intro g ct hct l hl
  simp only[sI,Dt] at hct ⊢
  cases hf:vX M g with
  | some e =>
   rw[hf] at hct
   simp only[Option.some.injEq] at hct;subst hct
   obtain⟨h1,h3⟩:=GX hf
   subst h3
   rw[V3 (Rm h2.1 e h1) hf]
   exact((hM e h1).ok l hl).1
  | none=>rw[hf] at hct;cases hct
 ·intro g c hc l hl
  obtain⟨e,h1,h3,h4⟩:=Ni (show c∈EM S g from hc)
  subst h3;subst h4
  have h5:=Rn h2.2 e h1
  simp only[sI]
  rw[VZ h5]
  exact((hS e h1).ok l hl).1
def M0:List sH:=[]
theorem Ch:∀ e∈M0,Kw Tryz.prog gG e:=fun e he=>by cases he
def S0:List uA:=[]
theorem V5:∀ e∈S0,Bj Tryz.prog gG e:=fun e he=>by cases he
def E0:List sH:=VY
theorem xy:∀ e∈E0,rQ Tryz.prog gG e:=by
 intro e he
 simp only[E0,VY,List.mem_cons,List.not_mem_nil,or_false] at he
 rcases he with rfl|he
 ·exact aeC
 rcases he with rfl|he
 ·exact aeD
 rcases he with rfl|he
 ·exact aeF
 rcases he with rfl|he
 ·exact aeI
 rcases he with rfl|he
 ·exact aeJ
 rcases he with rfl|he
 ·exact aeH
 ·subst he;exact aeG
end Go.Proofs.YtbembkamcdlhbaaGreatDoor
