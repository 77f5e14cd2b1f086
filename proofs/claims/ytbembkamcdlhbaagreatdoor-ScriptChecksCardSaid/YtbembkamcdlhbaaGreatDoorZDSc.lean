import Derived.Test.YtbembkamcdlhbaaGreatDoorZBSc
import Derived.Test.YtbembkamcdlhbaaGreatDoorZCSc
set_option linter.unusedSimpArgs false
set_option linter.unusedVariables false
set_option maxRecDepth 100000
namespace Go.Proofs.YtbembkamcdlhbaaGreatDoor
open Go.RowKit
section
variable {G:rO} {w:World} {s:rC}
end
def Nl:List wm→Nat→Option Ct
 | [],_=>none
 | c::L,id=>match Nat.beq c.id id with|true=>some ⟨c.a ++ [.agg c.ks],c.r⟩|false=>Nl L id
theorem V7:∀ {L:List wm} {id:Nat} {c:Ct},Nl L id=some c→∃ s∈L,s.id=id∧c=⟨s.a ++ [.agg s.ks],s.r⟩
 | [],id,c,h=>by cases h
 | s::L,id,c,h=>by
  simp only[Nl] at h
  split at h
  ·rename_i hb
   cases h
   exact⟨s,List.mem_cons_self,sQ.1 hb,rfl⟩
  ·obtain⟨s',h1,h2⟩:=V7 h
   exact⟨s',List.mem_cons_of_mem _ h1,h2⟩
def EX (C:sV):FuncId→Option Ct:=fun g=>match C.nt g with|some c=>some c|none=>match C.ct g with|some c=>some c|none=>Nl (C.sl (g%1000000)) g
theorem aeH {C:sV} {E:tu} (hC:vF C E) {f:FuncId} {c:Ct} (h:EX C f=some c) {l:List Int} (hl:l.length=(rq c.a).length):(C.Φ f l).length=(rq c.r).length:=by
 unfold EX at h
 split at h
 ·rename_i c' hc;cases h;exact hC.nt f c hc l hl
 ·split at h
  ·rename_i c' hc;cases h;exact hC.ct f c hc l hl
  ·obtain⟨s,h1,rfl,rfl⟩:=V7 h
   exact hC.sl _ s h1 l (by rw[hl];simp[rq,Sh.kinds])
structure KQ (P:Program) (G:rO) (e:si):Prop where
 two:zl (rq e.ct.r)≤2
 ok:∀ l:List Int,l.length=(rq e.ct.a).length→(e.F l).length=(rq e.ct.r).length∧Nc P G e.g e.ct l (e.F l)
structure Rb (P:Program) (G:rO) (e:si):Prop where
 two:zl (rq e.ct.r)≤2
 ok:∀ l:List Int,l.length=(rq e.ct.a).length→(e.F l).length=(rq e.ct.r).length→Nc P G e.g e.ct l (e.F l)
theorem KQ.c {P:Program} {G:rO} {e:si} (h:KQ P G e):Rb P G e:=⟨h.two,fun l hl _=>(h.ok l hl).2⟩
theorem DC {C:sV} {E:tu} (hC:vF C E) {ct:Ct} : ∀ {t:rf SV} {l:List Int},zn (EX C) ct l.length t=true→okF C.Φ ct t l
 | .leaf a,l,h=>by
  obtain⟨xs,hx⟩:=Option.isSome_iff_exists.1 (show(wY ct.r (xW ct.r a)).isSome=true from h)
  exact⟨a,l,xs,rfl,hx⟩
 | .ite c a b,l,h=>by
  have h:=sD h;have h2:=sD h.2
  unfold okF
  simp only[vE]
  cases sN (c.ev l) with
  | true=>exact DC hC h2.1
  | false=>exact DC hC h2.2
 | .call f args base m t,l,h=>by
  simp only[zn] at h
  split at h
  ·rename_i c hc
   have h:=sD h;have h2:=sD h.2;have h3:=sD h2.2;have h4:=sD h3.2
   have e1:=sQ.1 h3.1;have e2:=sQ.1 h4.1
   unfold okF
   simp only[vE,zL]
   have hl:=aeH hC hc (l:=args.map (X.den (rE l))) (by rw[List.length_map];exact e1)
   rw[hl,e2]
   simp only[Nat.beq_refl]
   refine DC hC ?_
   rw[List.length_append,hl,← e2];exact h4.2
  ·cases h
 | .stuck _,l,h=>by cases h
theorem Bu {C:sV} {E:tu} (hC:vF C E) (n:Nat) {g:FuncId} {ct:Ct} {t:rf SV} (h:rX C n g (rM ct.a (rJ 0 (rq ct.a))) (rq ct.a).length=t) (hs:zn (EX C) ct (rq ct.a).length t=true) :
  rF C.P C.G ⟨g,ct,rG C.Φ ct t⟩:=fun l hl=>V6 hC.ok h (EW hs) l hl (DC hC (by rw[hl];exact hs))
open Go.RowKit
def Hz (c:wm):List VK:=rq c.a++c.ks
def HV (C:sV) (fuel:Nat) (g:FuncId) (c:wm):rf SV :=
 match C.P.funcs[g]? with
 | none=>.stuck "no such function"
 | some fn=>match fn.body with
  | none=>.stuck "no body"
  | some cd=>match Nat.ble (c.a.length+1) fn.ntmps with
   | true=>uA (rq c.a).length fun m=>uA (m+c.ks.length) fun nv=>(exec C fuel cd ⟨1,vo (rM c.a (rJ 0 (rq c.a)) ++ [.sl 0 0 c.n c.n]) fn.ntmps,[(0,⟨Ab c.ks (rJ m c.ks),some c.t⟩)],nv,[],[]⟩).bind fun r=>match tV 0 r.2.dt with
    | true=>.stuck "the slice is turned"
    | false=>match r.1 with
     | .normal=>(match wo C.P r.2.T r.2.H fn.results.toList with|some rs=>.leaf (tT rs)|none=>.stuck "results")
     | .ret=>(match wo C.P r.2.T r.2.H fn.results.toList with|some rs=>.leaf (tT rs)|none=>.stuck "results")
     | _=>.stuck "end"
   | false=>.stuck "arguments"
theorem Rc (s:rC):∀ (a b k:Nat),wh s k (a+b)=wh s k a++wh s (k+a) b
 | 0,b,k=>by rw[Nat.zero_add];rfl
 | a+1,b,k=>by rw[show a+1+b=(a+b)+1 by omega,wh,Rc s a b (k+1),wh,show k+1+a=k+(a+1) by omega];rfl
theorem aeI {C:sV} {E:tu} {s:rC} (hC:wR C E) {n:Nat} {g:FuncId} {c:wm} {a:SV} {l:List Int} {v:Value} (h:(HV C n g c).path C.Φ s=some a) (hl:wh s 0 (Hz c).length=l) (hv:a.den s = .v v) :
  ∀ w b,Gl C.G w→(∀ x∈C.G,x.1≠b)→w.heap[b]? = some (.cells (sP c.ks (l.drop (rq c.a).length)).toArray c.t (0,0)) →
  wW C.P g (rV c.a l ++ [Value.slice (some ⟨b,0,none⟩) c.n c.n]).toArray w fun e w'=>e = .returned v∧q9 w w':=by
 intro w b hG hgb hw
 unfold HV at h
 split at h
 ·cases h
 ·rename_i fn hf
  split at h
  ·cases h
  ·rename_i cd hb
   split at h
   ·rename_i hle
    rw[uj,uj] at h
    obtain⟨⟨ex,st⟩,h1,h2⟩:=rf.path_bind_some h
    have sp:=(Hr (E:=E) (s:=s) hC n).1 _ _ _ _ h1 (fun x hx=>by cases hx)
    have hle:=Nat.le_of_ble_eq_true hle
    have hk:(Hz c).length=(rq c.a).length+c.ks.length:=by unfold Hz;rw[List.length_append]
    rw[hk,Rc,Nat.zero_add] at hl
    have l1:(wh s 0 (rq c.a).length).length=(rq c.a).length:=Ce _ _ _
    have hd1:l.drop (rq c.a).length=wh s (rq c.a).length c.ks.length:=by
     rw[← hl,List.drop_append_of_le_length (by omega),List.drop_of_length_le (by omega)];rfl
    have hd2:rV c.a l=rV c.a (wh s 0 (rq c.a).length):=by rw[← hl,QT _ _ _ l1]
    rw[hd1] at hw
    rw[hd2]
    obtain⟨v1,v2⟩:=Bq s (rq c.a) 0
    obtain⟨u1,u2⟩:=Bq s c.ks (rq c.a).length
    have a1:=Cn v1 v2
    have b1:=Na u1 u2
    have alen:(rM c.a (rJ 0 (rq c.a))).length=c.a.length:=by rw[← zG s,a1,List.length_map,Hu]
    let e:Env:=⟨fun _=>b,fun _=>undef⟩
    let B:sG:=⟨[b],[0],e⟩
    let o:SO:=⟨Ab c.ks (rJ (rq c.a).length c.ks),some c.t⟩
    have hH:∀ k x,SH.den s [(0,o)] k=some x→k=0∧x = .own (SV.dens s o.c) c.t:=by
     intro k x hx
     unfold SH.den at hx
     simp only[hget] at hx
     split at hx
     ·rename_i hb0
      have:=sQ.1 hb0
      simp only[Option.map_some,Option.some.injEq] at hx
      exact⟨this.symm,by rw[← hx];exact SO.den_own s rfl⟩
     ·cases hx
    have hlt:b<w.heap.size:=(Array.getElem?_eq_some_iff.1 hw).1
    have h00:SH.den s [(0,o)] 0=some (.own (SV.dens s o.c) c.t):=SH.den_get rfl rfl
    have R:rT C.G w B e (SH.den s [(0,o)]) w:=by
     refine⟨rfl,rfl,rfl,Nat.le_refl _,fun _ _ _=>rfl,hG,?_,?_,?_,?_,?_,?_,?_,?_,?_,fun k es hk=>by have:=(hH k _ hk).2;cases this⟩
     ·intro k c' t hk
      obtain⟨rfl,hx⟩:=hH k _ hk
      simp only[AO.own.injEq] at hx
      rw[hx.1,hx.2,b1,vX];exact hw
     ·intro k c' t hk;exact .inr (by simp[B,e])
     ·intro k c' t hk x hx;exact hgb x hx
     ·intro k c' t k' c'' t' hk hk' _;rw[(hH k _ hk).1,(hH k' _ hk').1]
     ·intro k n' l' hk;have:=(hH k _ hk).2;cases this
     ·intro k n' l' _ _ _ hk;have:=(hH k _ hk).2;cases this
     ·intro k x hk r hr
      obtain⟨_,rfl⟩:=hH k x hk
      rw[AO.refs,b1,Bd] at hr;simp at hr
     ·intro k hk
      have:k=0:=by simpa [B] using hk
      subst this
      exact⟨by rw[h00];simp,rfl,rfl⟩
     ·intro k n' l' hk;have:=(hH k _ hk).2;cases this
    have hbound:zf (SH.den s [(0,o)]) 1:=by
     intro k hk
     cases hx:SH.den s [(0,o)] k with
     | none=>rfl
     | some x=>have:=(hH k x hx).1;omega
    have hlen:(vo (rM c.a (rJ 0 (rq c.a)) ++ [.sl 0 0 c.n c.n]) fn.ntmps).length=fn.ntmps:=EP _ _ (by rw[List.length_append,alen];simpa using hle)
    have hA:=sp.aw w B
    simp only[hlen,KJ] at hA
    have hx:tV 0 st.dt=false∧(ex = .normal∨ex = .ret)∧∃ rs,wo C.P st.T st.H fn.results.toList=some rs∧tT rs=a:=by
     simp only at h2
     split at h2
     ·cases h2
     ·rename_i hdt
      refine⟨hdt,?_⟩
      rcases KN h2 with⟨rfl,h3⟩|⟨rfl,h3⟩
      ·split at h3
       ·rename_i rs hrs;cases h3;exact⟨.inl rfl,rs,hrs,rfl⟩
       ·cases h3
      ·split at h3
       ·rename_i rs hrs;cases h3;exact⟨.inr rfl,rs,hrs,rfl⟩
       ·cases h3
    obtain⟨hdt,hx,rs,hrs,he⟩:=hx
    refine Dl hf (hC.nm g fn hf (by rw[hb];rfl)) (by rw[hb];rfl) ?_
    have hcalls:=Pv (E:=E) (args:=SV.dens s (rM c.a (rJ 0 (rq c.a)) ++ [.sl 0 0 c.n c.n])) (R:=fun r H=>H=SH.den s st.H∧r = .v v) hf hb (by rw[zG,List.length_append,alen];simpa using hle) R hbound (fun x hx r hr=>by
     rw[Dv,a1] at hx
     rcases List.mem_append.1 hx with hx|hx
     ·obtain⟨y,_,rfl⟩:=List.mem_map.1 hx;simp[AV.refs] at hr
     ·simp[SV.dens,SV.den] at hx;subst hx
      simp[AV.refs] at hr;subst hr
      rw[h00];simp) (by
     refine AW.mono (show AW _ cd (wZ s ex st) _ _ _ from hA) ?_
     rintro x N T H ⟨rfl,rfl,rfl,rfl⟩
     have hres:=EQ (G:=C.G) s hrs
     have hrv:Ao (SV.dens s rs) = .v v:=by rw[Ho,he,hv]
     rcases hx with rfl|rfl
     ·exact⟨_,hres,rfl,hrv⟩
     ·exact⟨_,hres,rfl,hrv⟩)
    have hvals:AV.vals e (SV.dens s (rM c.a (rJ 0 (rq c.a)) ++ [.sl 0 0 c.n c.n]))=rV c.a (wh s 0 (rq c.a).length) ++ [Value.slice (some ⟨b,0,none⟩) c.n c.n]:=by
     rw[Dv,JX,a1,vX];rfl
    rw[hvals] at hcalls
    refine hcalls.mono ?_
    rintro en w' ⟨r,e2,H2,rfl,⟨rfl,rfl⟩,R2⟩
    refine⟨rfl,R2.os,R2.tape,R2.output,R2.size,fun k hk=>?_⟩
    by_cases hkb:k=b
    ·subst hkb
     have hg:hget st.H 0=some o:=(sp.dt 0 hdt).2.trans rfl
     have hown:=R2.own 0 _ _ (SH.den_get hg rfl)
     have henv:=(R2.env 0 (by simp[B])).2.1
     have henv:e2.blk 0=k:=henv
     rw[henv,b1,vX] at hown
     rw[hown,hw]
    ·exact R2.old k hk (by simpa [B] using hkb)
   ·cases h
structure ut where
 g:FuncId
 c:wm
 F:List Int→List Int
structure Bv (P:Program) (G:rO) (e:ut):Prop where
 ok:∀ l:List Int,l.length=(Hz e.c).length→(e.F l).length=(rq e.c.r).length∧Nf P G e.g e.c l (e.F l)
theorem Re {C:sV} {E:tu} (hC:vF C E) (n:Nat) {g:FuncId} {c:wm} {t:rf SV} (h:HV C n g c=t) (hs:zn (EX C) ⟨c.a,c.r⟩ (Hz c).length t=true) :
  Bv C.P C.G ⟨g,c,rG C.Φ ⟨c.a,c.r⟩ t⟩:=by
 refine⟨fun l hl=>?_⟩
 obtain ho:=DC hC (ct:=⟨c.a,c.r⟩) (t:=t) (l:=l) (by rw[hl];exact hs)
 refine⟨Nh ho,?_⟩
 obtain⟨a,l',xs,h1,h2⟩:=ho
 obtain⟨h3,m,rfl⟩:=EU h1 (by rw[hl];exact EW hs)
 rw[← h] at h3
 have hf:=Dz (rE (l++m)) h2
 have hF:rG C.Φ ⟨c.a,c.r⟩ t l=xs.map (X.den (rE (l++m))):=by unfold rG;simp only[h1,h2,zL,id]
 have hv:=Nj hf.1 (Hu _ _)
 have:=aeI hC.ok h3 (l:=l) (by rw[← hl];exact Ni l m) hv
 intro w b hG hgb hw
 show wW C.P g _ w fun e w'=>e = .returned (sW (rV c.r (rG C.Φ ⟨c.a,c.r⟩ t l)))∧q9 w w'
 rw[hF]
 exact this w b hG hgb hw
structure Rf (P:Program) (G:rO) (e:ut):Prop where
 ok:∀ l:List Int,l.length=(Hz e.c).length→(e.F l).length=(rq e.c.r).length→Nf P G e.g e.c l (e.F l)
theorem Bv.c {P:Program} {G:rO} {e:ut} (h:Bv P G e):Rf P G e:=⟨fun l hl _=>(h.ok l hl).2⟩
open Go.RowKit
def Rh:Value→Value→Option Bool
 | .agg xs,.agg ys=>match xs.toList,ys.toList with
  | [.int .u64 a,.int .u64 b],[.int .u64 c,.int .u64 d]=>some (a==c&&b==d)
  | _,_=>none
 | _,_=>none
def Ri:Value→Value→Option Bool
 | .agg xs,.agg ys=>match xs.toList,ys.toList with
  | [.int .u64 a,.int .u64 b,.int .u64 c,.int .u64 d],[.int .u64 a',.int .u64 b',.int .u64 c',.int .u64 d']=>some (a==a'&&(b==b'&&(c==c'&&d==d')))
  | _,_=>none
 | _,_=>none
def Rj:Value→Value→Option Bool
 | .agg xs,.agg ys=>match xs.toList,ys.toList with
  | [.int .u64 a,.int .u64 b,.int .u8 c],[.int .u64 a',.int .u64 b',.int .u8 c']=>some ((a==a'&&b==b')&&c==c')
  | _,_=>none
 | _,_=>none
def Rk:Value→Value→Option Bool
 | .func _ _ _,.nilFunc=>some false
 | .nilFunc,.nilFunc=>some true
 | _,_=>none
def KR:Value→Value→Option Bool
 | .agg xs,.agg ys=>match xs.toList,ys.toList with
  | [.int .i64 a,.int .u64 b,.int .u64 c,.int .u8 d],[.int .i64 a',.int .u64 b',.int .u64 c',.int .u8 d']=>some (a==a'&&((b==b'&&c==c')&&d==d'))
  | _,_=>none
 | _,_=>none
def outT (t:TypeId):Bool :=
 Nat.beq t 39 ||
  false
def DD (t:TypeId) (x y:Value):Option Bool :=
 if t=27 then Rh x y else if t=252 then Ri x y else if t=62 then Rj x y else if t=46 then Rk x y else none
def Bw (t:TypeId) (x y:Value):Option Bool:=match outT t with|true=>KR x y|false=>DD t x y
def eE:tu:=fun op t x y=>match op with
 | .eql=>match Bw t x y with|some b=>some (.bool b)|none=>none
 | .neq=>match Bw t x y with|some b=>some (.bool (!b))|none=>none
 | _=>none
theorem KS (w:World) {k:IntKind} {e:TypeId} (hu:Tryz.prog.underlying e=some (.int k)) (xs:Array Value) (i:Nat) (v:Value) (h:xs[i]? = some v):(part e xs i).run Tryz.prog w = .ok v w:=by
 simp[part,isAgg,run_underlying hu,h]
theorem aeJ:(Tryz.prog.fieldsOf 27).toList.map (fun f=>(f.name != "_",f.offset,f.type)) = [(true,0,25),(true,1,25)]:=by kernel_rfl
theorem aeK:(Tryz.prog.fieldsOf 62).toList.map (fun f=>(f.name != "_",f.offset,f.type)) = [(true,0,27),(true,2,33)]:=by kernel_rfl
theorem Rl (w:World) (n:Nat) (a b c d:Int):(Op.equalIn (n+2) 27 (.agg #[.int .u64 a,.int .u64 b]) (.agg #[.int .u64 c,.int .u64 d])).run Tryz.prog w = .ok (a==c&&b==d) w:=by
 have hu:Tryz.prog.underlying 25=some (.int .u64):=by kernel_rfl
 rw[run_equalIn_struct w (n+1) _ _ _ (by kernel_rfl) (by kernel_rfl)]
 obtain⟨f0,f1,hf,h0,h1⟩:∃ f0 f1:Field,(Tryz.prog.fieldsOf 27).toList = [f0,f1]∧(f0.name ≠ "_" ∧ f0.offset=0∧f0.type=25)∧(f1.name ≠ "_" ∧ f1.offset=1∧f1.type=25):=by
  have:=aeJ
  match hl:(Tryz.prog.fieldsOf 27).toList with
  | [f0,f1]=>rw[hl] at this;simp at this;exact⟨f0,f1,rfl,⟨by simpa using this.1.1,this.1.2.1,this.1.2.2⟩,⟨by simpa using this.2.1,this.2.2.1,this.2.2.2⟩⟩
  | []=>rw[hl] at this;simp at this
  | [_]=>rw[hl] at this;simp at this
  | _::_::_::_=>rw[hl] at this;simp at this
 rw[hf]
 have p0 (x y:Value):(part 25 #[x,y] 0).run Tryz.prog w = .ok x w:=KS w hu _ _ _ rfl
 have p1 (x y:Value):(part 25 #[x,y] 1).run Tryz.prog w = .ok y w:=KS w hu _ _ _ rfl
 have q (x y:Int):(Op.equalIn (n+1) 25 (.int .u64 x) (.int .u64 y)).run Tryz.prog w = .ok (x==y) w:=run_equalIn_int w n _ .u64 .u64 x y hu
 simp only[Op.eqFields,h0.1,h0.2.1,h0.2.2,h1.1,h1.2.1,h1.2.2,ne_eq,not_true_eq_false,not_false_eq_true,if_true,Sem.run_bind,p0,p1,q,Result.andThen_ok]
 cases (a==c)<;>cases hbd:(b==d)<;>simp[p1,q,hbd,Op.eqFields]
theorem aeL (w:World) (a b a' b' c c':Int):(Op.equalIn 10000 62 (.agg #[.int .u64 a,.int .u64 b,.int .u8 c]) (.agg #[.int .u64 a',.int .u64 b',.int .u8 c'])).run Tryz.prog w = .ok ((a==a'&&b==b')&&c==c') w:=by
 have hu:Tryz.prog.underlying 33=some (.int .u8):=by kernel_rfl
 rw[run_equalIn_struct w 9999 _ _ _ (by kernel_rfl) (by kernel_rfl)]
 obtain⟨f0,f1,hf,h0,h1⟩:∃ f0 f1:Field,(Tryz.prog.fieldsOf 62).toList = [f0,f1]∧(f0.name ≠ "_" ∧ f0.offset=0∧f0.type=27)∧(f1.name ≠ "_" ∧ f1.offset=2∧f1.type=33):=by
  have:=aeK
  match hl:(Tryz.prog.fieldsOf 62).toList with
  | [f0,f1]=>rw[hl] at this;simp at this;exact⟨f0,f1,rfl,⟨by simpa using this.1.1,this.1.2.1,this.1.2.2⟩,⟨by simpa using this.2.1,this.2.2.1,this.2.2.2⟩⟩
  | []=>rw[hl] at this;simp at this
  | [_]=>rw[hl] at this;simp at this
  | _::_::_::_=>rw[hl] at this;simp at this
 rw[hf]
 have p0 (x y z:Value):(part 27 #[x,y,z] 0).run Tryz.prog w = .ok (.agg #[x,y]) w:=by
  simp[part,Gg (P:=Tryz.prog) (t:=27) (b:=true) (by kernel_rfl),run_sizeOf (P:=Tryz.prog) (t:=27) (s:=2) (by kernel_rfl)]
 have p1 (x y z:Value):(part 33 #[x,y,z] 2).run Tryz.prog w = .ok z w:=KS w hu _ _ _ rfl
 have q (x y:Int):(Op.equalIn 9999 33 (.int .u8 x) (.int .u8 y)).run Tryz.prog w = .ok (x==y) w:=run_equalIn_int w 9998 _ .u8 .u8 x y hu
 have qb:=Rl w 9997 a b a' b'
 simp only[Op.eqFields,h0.1,h0.2.1,h0.2.2,h1.1,h1.2.1,h1.2.2,ne_eq,not_true_eq_false,not_false_eq_true,if_true,Sem.run_bind,p0,p1,q,qb,Result.andThen_ok]
 cases (a==a'&&b==b')<;>cases hcd:(c==c')<;>simp[p1,q,hcd,Op.eqFields]
theorem aeM (w:World) (a b c d a' b' c' d':Int):(Op.equalIn 10000 252 (.agg #[.int .u64 a,.int .u64 b,.int .u64 c,.int .u64 d]) (.agg #[.int .u64 a',.int .u64 b',.int .u64 c',.int .u64 d'])).run Tryz.prog w = .ok (a==a'&&(b==b'&&(c==c'&&d==d'))) w:=by
 have hu:Tryz.prog.underlying 25=some (.int .u64):=by kernel_rfl
 obtain⟨i,hi⟩:∃ i,Tryz.prog.info? 25=some i:=Option.isSome_iff_exists.1 (by kernel_rfl)
 rw[run_equalIn_array (P:=Tryz.prog) (w:=w) (d:=9999) (e:=25) (n:=4) _ _ (by kernel_rfl) hi]
 rw[show Tryz.prog.cellsOf 25=1 by kernel_rfl,show List.range 4 = [0,1,2,3] by decide]
 have p0 (x0 x1 x2 x3:Value):(part 25 #[x0,x1,x2,x3] 0).run Tryz.prog w = .ok x0 w:=MB w hu _ _ _ rfl
 have p1 (x0 x1 x2 x3:Value):(part 25 #[x0,x1,x2,x3] 1).run Tryz.prog w = .ok x1 w:=MB w hu _ _ _ rfl
 have p2 (x0 x1 x2 x3:Value):(part 25 #[x0,x1,x2,x3] 2).run Tryz.prog w = .ok x2 w:=MB w hu _ _ _ rfl
 have p3 (x0 x1 x2 x3:Value):(part 25 #[x0,x1,x2,x3] 3).run Tryz.prog w = .ok x3 w:=MB w hu _ _ _ rfl
 have q (x y:Int):(Op.equalIn 9999 25 (.int .u64 x) (.int .u64 y)).run Tryz.prog w = .ok (x==y) w:=run_equalIn_int w 9998 _ .u64 .u64 x y hu
 simp only[Op.eqItems,Sem.run_bind,Nat.mul_one]
 rw[p0,Result.andThen_ok,p0,Result.andThen_ok,q,Result.andThen_ok]
 cases (a==a')
 ·rfl
 rw[if_neg (by decide)]
 simp only[Sem.run_bind]
 rw[p1,Result.andThen_ok,p1,Result.andThen_ok,q,Result.andThen_ok]
 cases (b==b')
 ·rfl
 rw[if_neg (by decide)]
 simp only[Sem.run_bind]
 rw[p2,Result.andThen_ok,p2,Result.andThen_ok,q,Result.andThen_ok]
 cases (c==c')
 ·rfl
 rw[if_neg (by decide)]
 simp only[Sem.run_bind]
 rw[p3,Result.andThen_ok,p3,Result.andThen_ok,q,Result.andThen_ok]
 cases (d==d')
 ·rfl
 rfl
theorem aeN:(Tryz.prog.fieldsOf 39).toList.map (fun f=>(f.name != "_",f.offset,f.type)) = [(true,0,37),(true,1,27),(true,3,33)]:=by kernel_rfl
theorem aeO (w:World) (a b c d a' b' c' d':Int):(Op.equalIn 10000 39 (.agg #[.int .i64 a,.int .u64 b,.int .u64 c,.int .u8 d]) (.agg #[.int .i64 a',.int .u64 b',.int .u64 c',.int .u8 d'])).run Tryz.prog w = .ok (a==a'&&((b==b'&&c==c')&&d==d')) w:=by
 have hu:Tryz.prog.underlying 33=some (.int .u8):=by kernel_rfl
 have he:Tryz.prog.underlying 37=some (.int .i64):=by kernel_rfl
 rw[run_equalIn_struct w 9999 _ _ _ (by kernel_rfl) (by kernel_rfl)]
 obtain⟨f0,f1,f2,hf,h0,h1,h2⟩:∃ f0 f1 f2:Field,(Tryz.prog.fieldsOf 39).toList = [f0,f1,f2]∧(f0.name ≠ "_" ∧ f0.offset=0∧f0.type=37)∧(f1.name ≠ "_" ∧ f1.offset=1∧f1.type=27)∧(f2.name ≠ "_" ∧ f2.offset=3∧f2.type=33):=by
  have:=aeN
  match hl:(Tryz.prog.fieldsOf 39).toList with
  | [f0,f1,f2]=>rw[hl] at this;simp at this;exact⟨f0,f1,f2,rfl,⟨by simpa using this.1.1,this.1.2.1,this.1.2.2⟩,⟨by simpa using this.2.1.1,this.2.1.2.1,this.2.1.2.2⟩,⟨by simpa using this.2.2.1,this.2.2.2.1,this.2.2.2.2⟩⟩
  | []=>rw[hl] at this;simp at this
  | [_]=>rw[hl] at this;simp at this
  | [_,_]=>rw[hl] at this;simp at this
  | _::_::_::_::_=>rw[hl] at this;simp at this
 rw[hf]
 have p0 (x y z u:Value):(part 37 #[x,y,z,u] 0).run Tryz.prog w = .ok x w:=KS w he _ _ _ rfl
 have p1 (x y z u:Value):(part 27 #[x,y,z,u] 1).run Tryz.prog w = .ok (.agg #[y,z]) w:=by
  simp[part,Gg (P:=Tryz.prog) (t:=27) (b:=true) (by kernel_rfl),run_sizeOf (P:=Tryz.prog) (t:=27) (s:=2) (by kernel_rfl)]
 have p2 (x y z u:Value):(part 33 #[x,y,z,u] 3).run Tryz.prog w = .ok u w:=KS w hu _ _ _ rfl
 have q0 (x y:Int):(Op.equalIn 9999 37 (.int .i64 x) (.int .i64 y)).run Tryz.prog w = .ok (x==y) w:=run_equalIn_int w 9998 _ .i64 .i64 x y he
 have q2 (x y:Int):(Op.equalIn 9999 33 (.int .u8 x) (.int .u8 y)).run Tryz.prog w = .ok (x==y) w:=run_equalIn_int w 9998 _ .u8 .u8 x y hu
 have qb:=Rl w 9997 b c b' c'
 simp only[Op.eqFields,h0.1,h0.2.1,h0.2.2,h1.1,h1.2.1,h1.2.2,h2.1,h2.2.1,h2.2.2,ne_eq,not_true_eq_false,not_false_eq_true,if_true,Sem.run_bind,p0,p1,p2,q0,q2,qb,Result.andThen_ok]
 cases hab:(a==a')
 ·simp
 ·cases hbc:(b==b'&&c==c')<;>cases hdd:(d==d')<;>simp[p0,p1,p2,q0,q2,qb,hbc,hdd,Op.eqFields]
theorem aeP {t:TypeId} {x y:Value} {b:Bool} (ht:outT t=true) (h:KR x y=some b) (w:World):(∀ op xo yo,(eqGuard op t xo yo x y).run Tryz.prog w = .ok () w)∧(binOp .eql t x y).run Tryz.prog w = .ok (.bool b) w∧(binOp .neq t x y).run Tryz.prog w = .ok (.bool (!b)) w:=by
 have ht2:t=39:=by
  unfold outT at ht;rw[Bool.or_false] at ht;exact sQ.1 ht
 subst ht2
 have agg:∀ (xs ys:Array Value),Tryz.prog.eqGuardType Tryz.prog.depth 39=false→(Op.equalIn 10000 39 (.agg xs) (.agg ys)).run Tryz.prog w = .ok b w →
   (∀ op xo yo,(eqGuard op 39 xo yo (.agg xs) (.agg ys)).run Tryz.prog w = .ok () w)∧(binOp .eql 39 (.agg xs) (.agg ys)).run Tryz.prog w = .ok (.bool b) w∧(binOp .neq 39 (.agg xs) (.agg ys)).run Tryz.prog w = .ok (.bool (!b)) w:=by
  intro xs ys hg he
  refine⟨fun op xo yo=>run_eqGuard_agg w op _ xo yo xs ys hg,?_,?_⟩
  ·rw[run_eql_struct,he];rfl
  ·rw[run_neq_struct,he];rfl
 have lst:∀ {xs:Array Value} {l:List Value},xs.toList=l→xs=l.toArray:=fun h=>by rw[← h]
 unfold KR at h
 split at h
 ·split at h
  ·rename_i h1 h2
   cases h
   rw[lst h1,lst h2]
   exact agg _ _ (by kernel_rfl) (aeO w _ _ _ _ _ _ _ _)
  ·cases h
 ·cases h
theorem aeQ {t:TypeId} {x y:Value} {b:Bool} (h:DD t x y=some b) (w:World):(∀ op xo yo,(eqGuard op t xo yo x y).run Tryz.prog w = .ok () w)∧(binOp .eql t x y).run Tryz.prog w = .ok (.bool b) w∧(binOp .neq t x y).run Tryz.prog w = .ok (.bool (!b)) w:=by
 have agg:∀ (xs ys:Array Value),Tryz.prog.eqGuardType Tryz.prog.depth t=false→(Op.equalIn 10000 t (.agg xs) (.agg ys)).run Tryz.prog w = .ok b w →
   (∀ op xo yo,(eqGuard op t xo yo (.agg xs) (.agg ys)).run Tryz.prog w = .ok () w)∧(binOp .eql t (.agg xs) (.agg ys)).run Tryz.prog w = .ok (.bool b) w∧(binOp .neq t (.agg xs) (.agg ys)).run Tryz.prog w = .ok (.bool (!b)) w:=by
  intro xs ys hg he
  refine⟨fun op xo yo=>run_eqGuard_agg w op t xo yo xs ys hg,?_,?_⟩
  ·rw[run_eql_struct,he];rfl
  ·rw[run_neq_struct,he];rfl
 have lst:∀ {xs:Array Value} {l:List Value},xs.toList=l→xs=l.toArray:=fun h=>by rw[← h]
 unfold DD at h
 split at h
 ·rename_i ht;subst ht
  unfold Rh at h
  split at h
  ·split at h
   ·rename_i h1 h2
    cases h
    rw[lst h1,lst h2]
    exact agg _ _ (by kernel_rfl) (Rl w 9998 _ _ _ _)
   ·cases h
  ·cases h
 ·split at h
  ·rename_i ht;subst ht
   unfold Ri at h
   split at h
   ·split at h
    ·rename_i h1 h2
     cases h
     rw[lst h1,lst h2]
     exact agg _ _ (by kernel_rfl) (aeM w _ _ _ _ _ _ _ _)
    ·cases h
   ·cases h
  ·split at h
   ·rename_i ht;subst ht
    unfold Rj at h
    split at h
    ·split at h
     ·rename_i h1 h2
      cases h
      rw[lst h1,lst h2]
      exact agg _ _ (by kernel_rfl) (aeL w _ _ _ _ _ _)
     ·cases h
    ·cases h
   ·split at h
    ·rename_i ht;subst ht
     have hu:=Tryz.underlying46
     unfold Rk at h
     split at h
     ·cases h
      refine⟨fun op xo yo=>by cases op<;>rfl,?_,?_⟩
      ·simp only[binOp];simp[Op.equal,Op.maxDepth]
       show((Op.equalIn (9999+1) _ _ _).run _ w).andThen _=_
       rw[Op.equalIn];simp[run_underlying hu]
      ·simp only[binOp];simp[Op.equal,Op.maxDepth]
       show((Op.equalIn (9999+1) _ _ _).run _ w).andThen _=_
       rw[Op.equalIn];simp[run_underlying hu]
     ·cases h
      refine⟨fun op xo yo=>by cases op<;>rfl,?_,?_⟩
      ·simp only[binOp];simp[Op.equal,Op.maxDepth]
       show((Op.equalIn (9999+1) _ _ _).run _ w).andThen _=_
       rw[Op.equalIn];simp[run_underlying hu]
      ·simp only[binOp];simp[Op.equal,Op.maxDepth]
       show((Op.equalIn (9999+1) _ _ _).run _ w).andThen _=_
       rw[Op.equalIn];simp[run_underlying hu]
     ·cases h
    ·cases h
theorem Rm {t:TypeId} {x y:Value} {b:Bool} (h:Bw t x y=some b) (w:World):(∀ op xo yo,(eqGuard op t xo yo x y).run Tryz.prog w = .ok () w)∧(binOp .eql t x y).run Tryz.prog w = .ok (.bool b) w∧(binOp .neq t x y).run Tryz.prog w = .ok (.bool (!b)) w:=by
 unfold Bw at h
 split at h
 ·rename_i ht;exact aeP ht h w
 ·exact aeQ h w
theorem Nn {t:TypeId} (ho:outT t=false) (x y:Value):Bw t x y=DD t x y:=by unfold Bw;rw[ho]
theorem aeR {t:TypeId} (ho:outT t=true) (x y:Value):Bw t x y=KR x y:=by unfold Bw;rw[ho]
theorem Rn:BQ Tryz.prog eE:=by
 intro op t x y v h xo yo w
 unfold eE at h
 split at h
 ·split at h
  ·rename_i b hb
   cases h
   obtain⟨h1,h2,h3⟩:=Rm hb w
   simp only[Sem.run_bind,h1,h2,Result.andThen_ok]
  ·cases h
 ·split at h
  ·rename_i b hb
   cases h
   obtain⟨h1,h2,h3⟩:=Rm hb w
   simp only[Sem.run_bind,h1,h3,Result.andThen_ok]
  ·cases h
 ·cases h
def wy:List IntKind→List SV→List SV→Option X
 | [],[],[]=>some (.lit (.ofNat 1))
 | k::ks,.int k1 a::l,.int k2 b::m=>match vZ k k1,vZ k k2,wy ks l m with
  | true,true,some r=>some (mkAnd (uy .eql k a b) r)
  | _,_,_=>none
 | _,_,_=>none
def EY:List IntKind→List Int→List Value
 | k::ks,n::ns=>.int k n::EY ks ns
 | _,_=>[]
def DF:List Int→List Int→Bool
 | a::us,b::zs=>a==b&&DF us zs
 | _,_=>true
theorem V8 (s:rC):∀ {ks:List IntKind} {l m:List SV} {r:X},wy ks l m=some r→∃ us zs:List Int,SV.dens s l=(EY ks us).map .v∧SV.dens s m=(EY ks zs).map .v∧us.length=ks.length∧zs.length=ks.length∧(r.den s != 0)=DF us zs
 | [],[],[],r,h=>by cases h;exact⟨[],[],rfl,rfl,rfl,rfl,rfl⟩
 | k::ks,.int k1 a::l,.int k2 b::m,r,h=>by
  simp only[wy] at h
  split at h
  ·rename_i q h1 h2 h3
   cases h
   have h1:=xC h1;have h2:=xC h2;subst h1;subst h2
   obtain⟨us,zs,e1,e2,e3,e4,e5⟩:=V8 s h3
   refine⟨a.den s::us,b.den s::zs,?_,?_,by simp[e3],by simp[e4],?_⟩
   ·rw[SV.dens,e1];rfl
   ·rw[SV.dens,e2];rfl
   ·rw[ady,uz,Dn,e5]
    simp only[rP,uz,DF]
  ·cases h
 | [],[],_::_,r,h=>by simp[wy] at h
 | [],_::_,_,r,h=>by simp[wy] at h
 | _::_,[],_,r,h=>by simp[wy] at h
 | _::_,.int _ _::_,[],r,h=>by simp[wy] at h
 | _::_,.int _ _::_,.v _::_,r,h=>by simp[wy] at h
 | _::_,.int _ _::_,.bool _::_,r,h=>by simp[wy] at h
 | _::_,.int _ _::_,.loc _ _::_,r,h=>by simp[wy] at h
 | _::_,.int _ _::_,.sl _ _ _ _::_,r,h=>by simp[wy] at h
 | _::_,.int _ _::_,.fn _ _ _::_,r,h=>by simp[wy] at h
 | _::_,.int _ _::_,.tup _::_,r,h=>by simp[wy] at h
 | _::_,.int _ _::_,.agg _::_,r,h=>by simp[wy] at h
 | _::_,.v _::_,_,r,h=>by simp[wy] at h
 | _::_,.bool _::_,_,r,h=>by simp[wy] at h
 | _::_,.loc _ _::_,_,r,h=>by simp[wy] at h
 | _::_,.sl _ _ _ _::_,_,r,h=>by simp[wy] at h
 | _::_,.fn _ _ _::_,_,r,h=>by simp[wy] at h
 | _::_,.tup _::_,_,r,h=>by simp[wy] at h
 | _::_,.agg _::_,_,r,h=>by simp[wy] at h
def Np:SV→Option (List SV)
 | .agg l=>some l
 | .v (.agg cs)=>some (cs.toList.map xD)
 | _=>none
theorem V9 {s:rC} {x:SV} {l:List SV} {vs:List Value} (h:Np x=some l) (hd:SV.dens s l=vs.map .v):x.den s = .v (.agg vs.toArray):=by
 unfold Np at h
 split at h
 ·cases h;simp only[SV.den,hd,MJ]
 ·rename_i cs
  cases h
  rw[zX] at hd
  have:=congrArg tZ hd
  rw[Dr,Dr] at this
  have:=Option.some.inj this
  simp only[SV.den,← this]
 ·cases h
def Nq:SV→Option (Option Value)
 | .v .nilFunc=>some none
 | .v (.func f a c)=>some (some (.func f a c))
 | .fn f [] []=>some (some (.func f #[] #[]))
 | _=>none
def Wd (t:TypeId):Option (List IntKind):=match outT t with
 | true=>some [.i64,.u64,.u64,.u8]
 | false=>match Nat.beq t 27 with
 | true=>some [.u64,.u64]
 | false=>match Nat.beq t 252 with
  | true=>some [.u64,.u64,.u64,.u64]
  | false=>match Nat.beq t 62 with
   | true=>some [.u64,.u64,.u8]
   | false=>none
def KT:Ha:=fun t x y=>match Wd t with
 | some ks=>match Np x,Np y with
  | some l,some m=>wy ks l m
  | _,_=>none
 | none=>match Nat.beq t 46 with
  | true=>match Nq x,Nq y with
   | some (some _),some none=>some (.lit (.ofNat 0))
   | some none,some none=>some (.lit (.ofNat 1))
   | _,_=>none
  | false=>none
theorem Ro:MU Tryz.prog KT eE:=by
 intro t x y r s h
 unfold KT at h
 have pb:∀ (u v:List Value) op,wN Tryz.prog op t (.agg u.toArray) (.agg v.toArray)=none:=fun u v op=>rfl
 have fin:∀ (a b:Value) (q:Bool),wN Tryz.prog .eql t a b=none→wN Tryz.prog .neq t a b=none→Bw t a b=some q→x.den s = .v a→y.den s = .v b→(r.den s != 0)=q →
   ∃ a b,x.den s = .v a∧y.den s = .v b∧wN Tryz.prog .eql t a b=none∧wN Tryz.prog .neq t a b=none∧eE .eql t a b=some (.bool (r.den s != 0))∧eE .neq t a b=some (.bool (!(r.den s != 0))):=fun a b q h1 h2 h3 h4 h5 h6 =>
  ⟨a,b,h4,h5,h1,h2,by simp only[eE,h3,h6],by simp only[eE,h3,h6]⟩
 split at h
 ·rename_i ks hk
  split at h
  ·rename_i l m hl hm
   obtain⟨us,zs,e1,e2,e3,e4,e5⟩:=V8 s h
   have hx:=V9 hl e1
   have hy:=V9 hm e2
   refine fin _ _ (DF us zs) (pb _ _ _) (pb _ _ _) ?_ hx hy e5
   unfold Wd at hk
   split at hk
   ·rename_i ho
    cases hk
    match us,zs,e3,e4 with
    | [a,b,c,d],[a',b',c',d'],_,_ =>
     rw[aeR ho]
     simp only[KR,EY,DF,Bool.and_true,Bool.and_assoc]
   rename_i ho
   split at hk
   ·rename_i ht
    cases hk
    have ht:=sQ.1 ht
    match us,zs,e3,e4 with
    | [a,b],[c,d],_,_ =>
     rw[Nn ho]
     unfold DD
     rw[if_pos ht]
     simp only[Rh,EY,DF,Bool.and_true]
   ·rename_i ht0
    split at hk
    ·rename_i ht
     cases hk
     have ht:=sQ.1 ht
     match us,zs,e3,e4 with
     | [a,b,c,d],[a',b',c',d'],_,_ =>
      rw[Nn ho]
      unfold DD
      rw[if_neg (fun e=>by rw[e] at ht0;simp at ht0),if_pos ht]
      simp only[Ri,EY,DF,Bool.and_true]
    ·rename_i ht1
     split at hk
     ·rename_i ht
      cases hk
      have ht:=sQ.1 ht
      match us,zs,e3,e4 with
      | [a,b,c],[a',b',c'],_,_ =>
       rw[Nn ho]
       unfold DD
       rw[if_neg (fun e=>by rw[e] at ht0;simp at ht0),if_neg (fun e=>by rw[e] at ht1;simp at ht1),if_pos ht]
       simp only[Rj,EY,DF,Bool.and_true,Bool.and_assoc]
     ·cases hk
  ·cases h
 ·split at h
  ·rename_i hk ht
   have ht:=sQ.1 ht
   have hf:∀ {z:SV} {o:Option Value},Nq z=some o→z.den s = .v (match o with|none=>.nilFunc|some v=>v)∧∀ v,o=some v→∃ f a c,v = .func f a c:=fun {z} {o} hz=>by
    unfold Nq at hz
    split at hz
    ·cases hz;exact⟨rfl,fun v hv=>by cases hv⟩
    ·cases hz;exact⟨rfl,fun v hv=>by cases hv;exact⟨_,_,_,rfl⟩⟩
    ·cases hz;exact⟨rfl,fun v hv=>by cases hv;exact⟨_,_,_,rfl⟩⟩
    ·cases hz
   have hne:t≠27∧t≠252∧t≠62:=by rw[ht];decide
   have ho:outT t=false:=by rw[ht];rfl
   have at':∀ a b,Bw t a b=Rk a b:=fun a b=>by
    rw[Nn ho];unfold DD;rw[if_neg hne.1,if_neg hne.2.1,if_neg hne.2.2,if_pos ht]
   split at h
   ·rename_i v h1 h2
    cases h
    obtain⟨hx,hv⟩:=hf h1
    obtain⟨hy,_⟩:=hf h2
    obtain⟨f,a,c,rfl⟩:=hv v rfl
    exact fin _ _ false rfl rfl (by rw[at'];rfl) hx hy rfl
   ·rename_i h1 h2
    cases h
    obtain⟨hx,_⟩:=hf h1
    obtain⟨hy,_⟩:=hf h2
    exact fin _ _ true rfl rfl (by rw[at'];rfl) hx hy rfl
   ·cases h
  ·cases h
open Go.RowKit
noncomputable def cE:sV:=⟨Tryz.prog,gG,KT,fun _=>none,fun _ _=>[],fun _=>none,fun _=>[]⟩
theorem aeS:(Tryz.prog.funcs.toList.all fun fn=>fn.body.isNone || !(fn.name == "runtime.NumGoroutine"))=true:=by kernel_rfl
theorem Nr:wR cE eE:=by
 refine⟨Ro,Rn,by kernel_rfl,?_,fun g ct h=>(by cases h),fun g ct h=>(by cases h),fun g c h=>(by cases h)⟩
 intro g fn hf hb
 have h:=List.all_eq_true.1 aeS fn (Array.mem_toList_iff.2 (Array.mem_of_getElem? hf))
 rw[Bool.or_eq_true] at h
 rcases h with h|h
 ·rw[Option.isNone_iff_eq_none] at h;rw[h] at hb;cases hb
 ·simpa using h
abbrev kU:VK:=.int .u64
abbrev kI:VK:=.int .i64
abbrev kB:VK:=.int .u8
abbrev zM:Sh:=.agg [kU,kU,kU,kU]
def u64 (n:Int):Int:=uP .u64 n
theorem yV (n:Int):uY (u64 n):=by
 unfold u64;rw[um]
 show 0≤_∧_<(18446744073709551616:Int)
 unfold IntKind.wrap IntKind.bits IntKind.signed;simp;omega
theorem Rp {n:Int} (h:uY n):IntKind.u64.wrap n=n:=by
 have h1:=h.1;have h2:n<18446744073709551616:=h.2
 unfold IntKind.wrap IntKind.bits IntKind.signed;simp;omega
def ui (n:Int):Int:=rZ (sN n)
theorem Rq (n:Int):0≤ui n∧ui n≤1:=by unfold ui;cases sN n<;>decide
theorem Ns {n:Int} (h:0≤n∧n≤1):rZ (n != 0)=n:=by
 rcases(show n=0∨n=1 by omega) with rfl|rfl<;>rfl
theorem Bz (n:Int):tQ kU n = .int .u64 (u64 n):=by simp only[tQ,u64,um]
theorem We (n:Int):tQ .bit n = .int .u64 (ui n):=by simp only[tQ,ui,uQ]
theorem Wh {g:FuncId} {vs:List Value} {v:Value} (h:∀ w,(callFunc g vs.toArray).run Tryz.prog w = .ok (.value v) w):PC Tryz.prog gG g vs v:=fun w _=>by
 unfold wW;rw[h w];exact⟨rfl,q9.refl w⟩
theorem three {α:Type} {l:List α} (h:l.length=3):∃ a b c,l = [a,b,c]:=by match l,h with | [a,b,c],_=>exact⟨a,b,c,rfl⟩
theorem two {α:Type} {l:List α} (h:l.length=2):∃ a b,l = [a,b]:=by match l,h with | [a,b],_=>exact⟨a,b,rfl⟩
theorem one' {α:Type} {l:List α} (h:l.length=1):∃ a,l = [a]:=by match l,h with | [a],_=>exact⟨a,rfl⟩
theorem four {α:Type} {l:List α} (h:l.length=4):∃ a b c d,l = [a,b,c,d]:=by match l,h with | [a,b,c,d],_=>exact⟨a,b,c,d,rfl⟩
theorem eight {α:Type} {l:List α} (h:l.length=8):∃ a b c d e f g i,l = [a,b,c,d,e,f,g,i]:=by match l,h with | [a,b,c,d,e,f,g,i],_=>exact⟨a,b,c,d,e,f,g,i,rfl⟩
def EZ (l:List Int):List Int:=[yQ (u64 (rE l 0)) (u64 (rE l 1)) (ui (rE l 2)),vM (u64 (rE l 0)) (u64 (rE l 1)) (ui (rE l 2))]
def Fa (l:List Int):List Int:=[ym (u64 (rE l 0)) (u64 (rE l 1)) (ui (rE l 2)),vC (u64 (rE l 0)) (u64 (rE l 1)) (ui (rE l 2))]
def HY (l:List Int):List Int:=[u64 (rE l 0)*u64 (rE l 1)/(ry:Int),u64 (rE l 0)*u64 (rE l 1)%(ry:Int)]
def Rs (l:List Int):List Int:=[(Lib.bitLen (u64 (rE l 0)).toNat:Int)]
theorem aeT (x y c:Int):uY (yQ x y c):=by
 unfold yQ;exact⟨Int.emod_nonneg _ (by decide),Int.emod_lt_of_pos _ (by decide)⟩
theorem aeU (x y c:Int):uY (ym x y c):=by
 unfold ym;exact⟨Int.emod_nonneg _ (by decide),Int.emod_lt_of_pos _ (by decide)⟩
theorem aeV {x y c:Int} (hx:uY x) (hy:uY y) (hc:0≤c∧c≤1):0≤vM x y c∧vM x y c≤1:=by
 have h1:=hx.1;have h2:x<18446744073709551616:=hx.2;have h3:=hy.1;have h4:y<18446744073709551616:=hy.2
 unfold vM
 show 0≤(x+y+c)/18446744073709551616∧(x+y+c)/18446744073709551616≤1
 omega
theorem aeW (x y c:Int):0≤vC x y c∧vC x y c≤1:=by unfold vC;split<;>decide
theorem aeX:rF Tryz.prog gG ⟨124,⟨[.sc kU,.sc kU,.sc .bit],[.sc kU,.sc .bit]⟩,EZ⟩:=by
 intro l hl
 obtain⟨a,b,c,rfl⟩:=three hl
 refine⟨rfl,?_⟩
 have h:=Wh (g:=124) (vs:=[_,_,_]) (UJ (u64 a) (u64 b) (ui c) (yV a) (yV b) (Rq c))
 have e1:=Rp (aeT (u64 a) (u64 b) (ui c))
 have e2:=Ns (aeV (yV a) (yV b) (Rq c))
 simp only[rV,uk,Sh.kinds,List.drop_succ_cons,List.drop_zero,List.length_cons,List.length_nil,Bz,We,EZ,rE,sW]
 have e3:u64 (yQ (u64 a) (u64 b) (ui c))=yQ (u64 a) (u64 b) (ui c):=by conv => { lhs;unfold u64 };rw[um];exact e1
 have e4:ui (vM (u64 a) (u64 b) (ui c))=vM (u64 a) (u64 b) (ui c):=by conv => { lhs;unfold ui };rw[uQ];exact e2
 rw[e3,e4];exact h
theorem aeY:rF Tryz.prog gG ⟨308,⟨[.sc kU,.sc kU,.sc .bit],[.sc kU,.sc .bit]⟩,Fa⟩:=by
 intro l hl
 obtain⟨a,b,c,rfl⟩:=three hl
 refine⟨rfl,?_⟩
 have h:=Wh (g:=308) (vs:=[_,_,_]) (UK (u64 a) (u64 b) (ui c) (yV a) (yV b) (Rq c))
 have e1:=Rp (aeU (u64 a) (u64 b) (ui c))
 have e2:=Ns (aeW (u64 a) (u64 b) (ui c))
 simp only[rV,uk,Sh.kinds,List.drop_succ_cons,List.drop_zero,List.length_cons,List.length_nil,Bz,We,Fa,rE,sW]
 have e3:u64 (ym (u64 a) (u64 b) (ui c))=ym (u64 a) (u64 b) (ui c):=by conv => { lhs;unfold u64 };rw[um];exact e1
 have e4:ui (vC (u64 a) (u64 b) (ui c))=vC (u64 a) (u64 b) (ui c):=by conv => { lhs;unfold ui };rw[uQ];exact e2
 rw[e3,e4];exact h
theorem BA {n:Int} (h:uY n):u64 n=n:=by unfold u64;rw[um];exact Rp h
theorem aeZ {x y:Int} (hx:uY x) (hy:uY y):uY (x*y/(ry:Int)):=by
 obtain⟨a,rfl,ha⟩:=hx.nat
 obtain⟨b,rfl,hb⟩:=hy.nat
 rw[(UL ha hb).1];exact Bg _ _
theorem ae0:rF Tryz.prog gG ⟨367,⟨[.sc kU,.sc kU],[.sc kU,.sc kU]⟩,HY⟩:=by
 intro l hl
 obtain⟨a,b,rfl⟩:=two hl
 refine⟨rfl,?_⟩
 have h:PC Tryz.prog gG 367 [.int .u64 (u64 a),.int .u64 (u64 b)] (.tuple #[.int .u64 (u64 a*u64 b/(ry:Int)),.int .u64 (u64 a*u64 b%(ry:Int))]) :=
  J6 Tryz.func367 (by kernel_rfl) (by kernel_rfl) fun w=>(ac3 (u64 a) (u64 b) w (yV a) (yV b)).mono fun e w' ⟨h1,h2⟩=>⟨h1,by rw[← h2];exact q9.refl w⟩
 simp only[rV,uk,Sh.kinds,List.drop_succ_cons,List.drop_zero,List.length_cons,List.length_nil,Bz,HY,rE,sW]
 rw[BA (aeZ (yV a) (yV b)),BA (n:=u64 a*u64 b%(ry:Int)) ⟨Int.emod_nonneg _ (by decide),Int.emod_lt_of_pos _ (by decide)⟩]
 exact h
theorem bitLen_le (n : Nat) (h : n < ry) : Lib.bitLen n ≤ 64 := by
  unfold Lib.bitLen
  have key : ∀ f x, Lib.bitLenAux f x ≤ f := by
    intro f
    induction f with
    | zero => intro x; exact Nat.le_refl _
    | succ f ih => intro x; unfold Lib.bitLenAux; split
                   · omega
                   · have := ih (x / 2); omega
  exact key _ _
theorem ae1:rF Tryz.prog gG ⟨342,⟨[.sc kU],[.sc kI]⟩,Rs⟩:=by
 intro l hl
 obtain⟨a,rfl⟩:=one' hl
 refine⟨rfl,?_⟩
 have h:PC Tryz.prog gG 342 [.int .u64 (u64 a)] (.int .i64 (Lib.bitLen (u64 a).toNat:Int)) :=
  J6 Tryz.func342 (by kernel_rfl) (by kernel_rfl) fun w=>(ac4 (u64 a) w (yV a)).mono fun e w' ⟨h1,h2⟩=>⟨h1,by rw[← h2];exact q9.refl w⟩
 have hb:=bitLen_le (u64 a).toNat (by have h1:=(yV a).1;have h2:=(yV a).2;omega)
 simp only[rV,uk,Bz,Rs,rE,sW]
 have e:tQ kI (Lib.bitLen (u64 a).toNat:Int) = .int .i64 (Lib.bitLen (u64 a).toNat:Int):=by
  simp only[tQ]
  rw[wrap_i64 (by omega)]
 rw[e];exact h
def Rt (l:List Int):List Int:=[rZ (ME (uP .u8 (rE l 0)) (sN (rE l 1)) (sN (rE l 2)) (uP .u8 (rE l 3)))]
theorem ae2:rF Tryz.prog gG ⟨323,⟨[.sc kB,.sc .bool,.sc .bool,.sc kB],[.sc .bool]⟩,Rt⟩:=by
 intro l hl
 obtain⟨a,b,c,d,rfl⟩:=four hl
 refine⟨rfl,?_⟩
 have h:PC Tryz.prog gG 323 [.int .u8 (uP .u8 a),.bool (sN b),.bool (sN c),.int .u8 (uP .u8 d)] (.bool (ME (uP .u8 a) (sN b) (sN c) (uP .u8 d))) :=
  J6 Tryz.func323 (by kernel_rfl) (by kernel_rfl) fun w=>adt _ _ _ _ w
 simp only[rV,uk,Sh.kinds,List.drop_succ_cons,List.drop_zero,List.length_cons,List.length_nil,tQ,Rt,rE,sW,uz,← um,← uQ]
 simp only[uQ,uz] at h ⊢
 exact h
def w4 (l:List Int) (i:Nat):Nat:=(u64 (rE l i)).toNat+ry*((u64 (rE l (i+1))).toNat+ry*((u64 (rE l (i+2))).toNat+ry*(u64 (rE l (i+3))).toNat))
theorem uF (n:Int):((u64 n).toNat:Int)=u64 n∧(u64 n).toNat<ry:=by
 have h:=yV n
 exact⟨Int.toNat_of_nonneg h.1,by have:=h.2;have:=h.1;omega⟩
theorem Wi (a b c d:Nat) (ha:a<ry) (hb:b<ry) (hc:c<ry) (hd:d<ry):wd (a+ry*(b+ry*(c+ry*d))) 0=a∧wd (a+ry*(b+ry*(c+ry*d))) 1=b∧wd (a+ry*(b+ry*(c+ry*d))) 2=c ∧
  wd (a+ry*(b+ry*(c+ry*d))) 3=d∧a+ry*(b+ry*(c+ry*d))<sI:=by
 have hW:ry=18446744073709551616:=rfl
 unfold wd sI rD
 rw[Nat.pow_zero,Nat.pow_one,show ry^2=ry*ry by rw[Nat.pow_two],show ry^3=ry*(ry*ry) by rw[Nat.pow_succ,Nat.pow_two,Nat.mul_comm]]
 have d1:(a+ry*(b+ry*(c+ry*d)))/ry=b+ry*(c+ry*d):=by rw[Nat.add_mul_div_left _ _ vw,Nat.div_eq_of_lt ha,Nat.zero_add]
 have d2:(b+ry*(c+ry*d))/ry=c+ry*d:=by rw[Nat.add_mul_div_left _ _ vw,Nat.div_eq_of_lt hb,Nat.zero_add]
 have d3:(c+ry*d)/ry=d:=by rw[Nat.add_mul_div_left _ _ vw,Nat.div_eq_of_lt hc,Nat.zero_add]
 rw[← Nat.div_div_eq_div_mul,← Nat.div_div_eq_div_mul,← Nat.div_div_eq_div_mul,d1,d2,d3,Nat.div_one]
 refine⟨?_,?_,?_,?_,?_⟩
 ·rw[Nat.add_mul_mod_self_left,Nat.mod_eq_of_lt ha]
 ·rw[Nat.add_mul_mod_self_left,Nat.mod_eq_of_lt hb]
 ·rw[Nat.add_mul_mod_self_left,Nat.mod_eq_of_lt hc]
 ·rw[Nat.mod_eq_of_lt hd]
 ·have ha':a<18446744073709551616:=ha
  have hb':b<18446744073709551616:=hb
  have hc':c<18446744073709551616:=hc
  have hd':d<18446744073709551616:=hd
  clear d1 d2 d3 ha hb hc hd hW
  show a+18446744073709551616*(b+18446744073709551616*(c+18446744073709551616*d))<115792089237316195423570985008687907853269984665640564039457584007913129639936
  omega
theorem DI (l:List Int) (i:Nat):vW (w4 l i) = .agg #[.int .u64 (u64 (rE l i)),.int .u64 (u64 (rE l (i+1))),.int .u64 (u64 (rE l (i+2))),.int .u64 (u64 (rE l (i+3)))]∧w4 l i<sI:=by
 obtain⟨h0,h1,h2,h3,h4⟩:=Wi _ _ _ _ (uF (rE l i)).2 (uF (rE l (i+1))).2 (uF (rE l (i+2))).2 (uF (rE l (i+3))).2
 unfold w4 vW
 rw[h0,h1,h2,h3,(uF _).1,(uF _).1,(uF _).1,(uF _).1]
 exact⟨rfl,h4⟩
def DJ (s:Nat) (b:Bool):List Int:=[wd s 0,wd s 1,wd s 2,wd s 3,rZ b]
theorem Wj (s:Nat) (b:Bool):sW (rV [zM,.sc .bool] (DJ s b)) = .tuple #[vW s,.bool b]:=by
 simp only[rV,uk,sP,Sh.kinds,List.drop_succ_cons,List.drop_zero,List.length_cons,List.length_nil,Bz,DJ,sW,BA (Bg _ _)]
 simp only[tQ,uz]
def HZ (l:List Int):List Int:=DJ (w4 l 0+w4 l 4) (Nat.ble sI (w4 l 0+w4 l 4))
theorem ae3:rF Tryz.prog gG ⟨235,⟨[zM,zM],[zM,.sc .bool]⟩,HZ⟩:=by
 intro l hl
 refine⟨rfl,?_⟩
 have h:PC Tryz.prog gG 235 [vW (w4 l 0),vW (w4 l 4)] (.tuple #[vW (w4 l 0+w4 l 4),.bool (decide (sI≤w4 l 0+w4 l 4))]) :=
  J6 Tryz.func235 (by kernel_rfl) (by kernel_rfl) fun w=>adh _ _ w (DI l 0).2 (DI l 4).2
 obtain⟨a,b,c,d,e,f,g,i,rfl⟩:=eight hl
 unfold HZ
 rw[Wj,show Nat.ble sI (w4 [a,b,c,d,e,f,g,i] 0+w4 [a,b,c,d,e,f,g,i] 4)=decide (sI≤w4 [a,b,c,d,e,f,g,i] 0+w4 [a,b,c,d,e,f,g,i] 4) by
  rw[Bool.eq_iff_iff,Nat.ble_eq,decide_eq_true_iff]]
 rw[(DI _ 0).1,(DI _ 4).1] at h
 simpa only[rV,uk,sP,Sh.kinds,List.drop_succ_cons,List.drop_zero,List.length_cons,List.length_nil,Bz,rE] using h
def Ru (l:List Int):List Int:=DJ (w4 l 0+sI-w4 l 4) (Nat.blt (w4 l 0) (w4 l 4))
theorem ae4:rF Tryz.prog gG ⟨236,⟨[zM,zM],[zM,.sc .bool]⟩,Ru⟩:=by
 intro l hl
 refine⟨rfl,?_⟩
 have h:PC Tryz.prog gG 236 [vW (w4 l 0),vW (w4 l 4)] (.tuple #[vW (w4 l 0+sI-w4 l 4),.bool (decide (w4 l 0<w4 l 4))]) :=
  J6 Tryz.func236 (by kernel_rfl) (by kernel_rfl) fun w=>adi _ _ w (DI l 0).2 (DI l 4).2
 obtain⟨a,b,c,d,e,f,g,i,rfl⟩:=eight hl
 unfold Ru
 rw[Wj,show Nat.blt (w4 [a,b,c,d,e,f,g,i] 0) (w4 [a,b,c,d,e,f,g,i] 4)=decide (w4 [a,b,c,d,e,f,g,i] 0<w4 [a,b,c,d,e,f,g,i] 4) by
  rw[Bool.eq_iff_iff,Nat.blt_eq,decide_eq_true_iff]]
 rw[(DI _ 0).1,(DI _ 4).1] at h
 simpa only[rV,uk,sP,Sh.kinds,List.drop_succ_cons,List.drop_zero,List.length_cons,List.length_nil,Bz,rE] using h
def Wl:List si:=[
 ⟨124,⟨[.sc kU,.sc kU,.sc .bit],[.sc kU,.sc .bit]⟩,EZ⟩,
 ⟨308,⟨[.sc kU,.sc kU,.sc .bit],[.sc kU,.sc .bit]⟩,Fa⟩,
 ⟨367,⟨[.sc kU,.sc kU],[.sc kU,.sc kU]⟩,HY⟩,
 ⟨235,⟨[zM,zM],[zM,.sc .bool]⟩,HZ⟩,
 ⟨236,⟨[zM,zM],[zM,.sc .bool]⟩,Ru⟩,
 ⟨323,⟨[.sc kB,.sc .bool,.sc .bool,.sc kB],[.sc .bool]⟩,Rt⟩,
 ⟨342,⟨[.sc kU],[.sc kI]⟩,Rs⟩]
open Go.RowKit
def r9 (L:List si):uL:=fun g l=>match ww L g with|some e=>e.F l|none=>[]
theorem BB {L:List si} {g:FuncId} {e:si} (h:ww L g=some e):r9 L g=e.F:=by funext l;unfold r9;rw[h]
def DK (L:List si):FuncId→Option Ct:=fun g=>match ww L g with|some e=>some e.ct|none=>none
noncomputable def ctx (L:List si):sV:=⟨Tryz.prog,gG,KT,DK L,r9 L,fun _=>none,fun _=>[]⟩
theorem sK {L:List si} (h:∀ e∈L,rF Tryz.prog gG e):vF (ctx L) eE:=by
  have key:∀ (g:FuncId) (ct:Ct),(ctx L).ct g=some ct→∀ l:List Int,l.length=(rq ct.a).length→((ctx L).Φ g l).length=(rq ct.r).length∧PC Tryz.prog gG g (rV ct.a l) (sW (rV ct.r ((ctx L).Φ g l))):=by
   intro g ct hct l hl
   simp only[ctx,DK,r9] at hct ⊢
   cases hf:ww L g with
   | some e =>
     rw[hf] at hct
     simp only[Option.some.injEq] at hct;subst hct
     obtain⟨h1,h2⟩:=Hy hf
     subst h2
     exact h e h1 l hl
   | none=>rw[hf] at hct;cases hct
  exact⟨⟨Ro,Rn,Nr.mix,Nr.nm,fun g ct hct l hl _=>(key g ct hct l hl).2,fun g ct hn=>(by cases hn),fun g c hc=>(by cases hc)⟩,fun g ct hct l hl=>(key g ct hct l hl).1,fun g ct hn=>(by cases hn),fun g c hc=>(by cases hc)⟩
def Ac:List ut→Nat→Option ut
 | [],_=>none
 | x::l,id=>match Nat.beq x.c.id id with|true=>some x|false=>Ac l id
def Fb:List ut→FuncId→List wm
 | [],_=>[]
 | x::l,g=>match Nat.beq x.g g with|true=>x.c::Fb l g|false=>Fb l g
def ug (L M:List si) (S:List ut):uL:=fun g l=>match Ac S g with
 | some e=>e.F l
 | none=>match ww M g with|some e=>e.F l|none=>r9 L g l
theorem Wm {L M:List si} {S:List ut} {g:Nat} {e:ut} (h:Ac S g=some e):ug L M S g=e.F:=by funext l;unfold ug;rw[h]
theorem Wn {L M:List si} {S:List ut} {g:Nat} {e:si} (h0:Ac S g=none) (h:ww M g=some e):ug L M S g=e.F:=by funext l;unfold ug;rw[h0];simp only[];rw[h]
theorem KU {L M:List si} {S:List ut} {g:Nat} {e:si} (h0:Ac S g=none) (h1:ww M g=none) (h:ww L g=some e):ug L M S g=e.F:=by funext l;unfold ug;rw[h0];simp only[];rw[h1];simp only[];rw[BB h]
noncomputable def sj (L M:List si) (S:List ut):sV:=⟨Tryz.prog,gG,KT,DK L,ug L M S,DK M,Fb S⟩
def KV (S:List ut) (g:Nat):Bool:=match Ac S g with|some _=>false|none=>true
def Rv (M:List si) (g:Nat):Bool:=match ww M g with|some _=>false|none=>true
def Nt (M:List si) (S:List ut):List si→Bool
 | []=>true
 | x::l=>sS (KV S x.g) (sS (Rv M x.g) (Nt M S l))
def Nu (S:List ut):List si→Bool
 | []=>true
 | x::l=>sS (KV S x.g) (Nu S l)
def Nv:List ut→Bool
 | []=>true
 | x::l=>sS (KV l x.c.id) (Nv l)
theorem Rw {S:List ut} {g:Nat} (h:KV S g=true):Ac S g=none:=by
 unfold KV at h
 cases hf:Ac S g with
 | none=>rfl
 | some e=>rw[hf] at h;cases h
theorem ae5 {M:List si} {g:Nat} (h:Rv M g=true):ww M g=none:=by
 unfold Rv at h
 cases hf:ww M g with
 | none=>rfl
 | some e=>rw[hf] at h;cases h
theorem Rx {M:List si} {S:List ut} : ∀ {L:List si},Nt M S L=true→∀ e∈L,Ac S e.g=none∧ww M e.g=none
 | [],_,e,he=>by cases he
 | x::l,h,e,he=>by
  have h:=sD h;have h2:=sD h.2
  rcases List.mem_cons.1 he with rfl|he
  ·exact⟨Rw h.1,ae5 h2.1⟩
  ·exact Rx h2.2 e he
theorem Ry {S:List ut} : ∀ {L:List si},Nu S L=true→∀ e∈L,Ac S e.g=none
 | [],_,e,he=>by cases he
 | x::l,h,e,he=>by
  have h:=sD h
  rcases List.mem_cons.1 he with rfl|he
  ·exact Rw h.1
  ·exact Ry h.2 e he
theorem Rz:∀ {S:List ut},Nv S=true→∀ e∈S,Ac S e.c.id=some e
 | [],_,e,he=>by cases he
 | x::l,h,e,he=>by
  have h:=sD h
  simp only[Ac]
  rcases List.mem_cons.1 he with rfl|he
  ·rw[Nat.beq_refl]
  ·have h1:=Rz h.2 e he
   cases hb:Nat.beq x.c.id e.c.id with
   | true =>
    have h2:=Rw h.1
    rw[sQ.1 hb,h1] at h2;cases h2
   | false=>exact h1
theorem Nw:∀ {S:List ut} {g:FuncId} {c:wm},c∈Fb S g→∃ e∈S,e.g=g∧e.c=c
 | [],g,c,h=>by cases h
 | x::l,g,c,h=>by
  simp only[Fb] at h
  split at h
  ·rename_i hb
   rcases List.mem_cons.1 h with rfl|h
   ·exact⟨x,List.mem_cons_self,sQ.1 hb,rfl⟩
   ·obtain⟨e,h1,h2⟩:=Nw h;exact⟨e,List.mem_cons_of_mem _ h1,h2⟩
  ·obtain⟨e,h1,h2⟩:=Nw h;exact⟨e,List.mem_cons_of_mem _ h1,h2⟩
theorem RA {L M:List si} {S:List ut} (hL:∀ e∈L,yz Tryz.prog gG e) (hM:∀ e∈M,Rb Tryz.prog gG e) (hS:∀ e∈S,Rf Tryz.prog gG e) (h:sS (Nt M S L) (sS (Nu S M) (Nv S))=true):wR (sj L M S) eE:=by
 have h:=sD h;have h2:=sD h.2
 refine⟨Ro,Rn,Nr.mix,Nr.nm,fun g ct hct l hl hF=>?_,fun g ct hct=>?_,fun g c hc l hl hF=>?_⟩
 ·simp only[sj,DK] at hct hF ⊢
  cases hf:ww L g with
  | some e =>
   rw[hf] at hct
   simp only[Option.some.injEq] at hct;subst hct
   obtain⟨h1,h3⟩:=Hy hf
   subst h3
   obtain⟨h4,h5⟩:=Rx h.1 e h1
   rw[KU h4 h5 hf] at hF ⊢
   exact(hL e h1).ok l hl hF
  | none=>rw[hf] at hct;cases hct
 ·simp only[sj,DK] at hct ⊢
  cases hf:ww M g with
  | some e =>
   rw[hf] at hct
   simp only[Option.some.injEq] at hct;subst hct
   obtain⟨h1,h3⟩:=Hy hf
   subst h3
   have h4:=Ry h2.1 e h1
   refine⟨(hM e h1).two,fun l hl hF=>?_⟩
   rw[Wn h4 hf] at hF ⊢
   exact(hM e h1).ok l hl hF
  | none=>rw[hf] at hct;cases hct
 ·obtain⟨e,h1,h3,h4⟩:=Nw (show c∈Fb S g from hc)
  subst h3;subst h4
  have h5:=Rz h2.2 e h1
  simp only[sj] at hF ⊢
  rw[Wm h5] at hF ⊢
  exact(hS e h1).ok l hl hF
theorem Az {L M:List si} {S:List ut} (hL:∀ e∈L,rF Tryz.prog gG e) (hM:∀ e∈M,KQ Tryz.prog gG e) (hS:∀ e∈S,Bv Tryz.prog gG e) (h:sS (Nt M S L) (sS (Nu S M) (Nv S))=true):vF (sj L M S) eE:=by
 refine⟨RA (fun e he=>(hL e he).c) (fun e he=>(hM e he).c) (fun e he=>(hS e he).c) h,?_,?_,?_⟩
 all_goals have h:=sD h
 all_goals have h2:=sD h.2
 ·intro g ct hct l hl
  simp only[sj,DK] at hct ⊢
  cases hf:ww L g with
  | some e =>
   rw[hf] at hct
   simp only[Option.some.injEq] at hct;subst hct
   obtain⟨h1,h3⟩:=Hy hf
   subst h3
   obtain⟨h4,h5⟩:=Rx h.1 e h1
   rw[KU h4 h5 hf]
   exact(hL e h1 l hl).1
  | none=>rw[hf] at hct;cases hct
 ·intro g ct hct l hl
  simp only[sj,DK] at hct ⊢
  cases hf:ww M g with
  | some e =>
   rw[hf] at hct
   simp only[Option.some.injEq] at hct;subst hct
   obtain⟨h1,h3⟩:=Hy hf
   subst h3
   rw[Wn (Ry h2.1 e h1) hf]
   exact((hM e h1).ok l hl).1
  | none=>rw[hf] at hct;cases hct
 ·intro g c hc l hl
  obtain⟨e,h1,h3,h4⟩:=Nw (show c∈Fb S g from hc)
  subst h3;subst h4
  have h5:=Rz h2.2 e h1
  simp only[sj]
  rw[Wm h5]
  exact((hS e h1).ok l hl).1
def M0:List si:=[]
theorem Cv:∀ e∈M0,KQ Tryz.prog gG e:=fun e he=>by cases he
def S0:List ut:=[]
theorem Wo:∀ e∈S0,Bv Tryz.prog gG e:=fun e he=>by cases he
def E0:List si:=Wl
theorem xy:∀ e∈E0,rF Tryz.prog gG e:=by
 intro e he
 simp only[E0,Wl,List.mem_cons,List.not_mem_nil,or_false] at he
 rcases he with rfl|he
 ·exact aeX
 rcases he with rfl|he
 ·exact aeY
 rcases he with rfl|he
 ·exact ae0
 rcases he with rfl|he
 ·exact ae3
 rcases he with rfl|he
 ·exact ae4
 rcases he with rfl|he
 ·exact ae2
 ·subst he;exact ae1
end Go.Proofs.YtbembkamcdlhbaaGreatDoor
