import Derived.Test.YtbembkamcdlhbaaGreatDoorZBSb
import Derived.Test.YtbembkamcdlhbaaGreatDoorZCSb
set_option linter.unusedSimpArgs false
set_option linter.unusedVariables false
set_option maxRecDepth 100000
namespace Go.Proofs.YtbembkamcdlhbaaGreatDoor
open Go.RowKit
section
variable {G:rP} {w:World} {s:rD}
end
def ML:List vP→Nat→Option Ct
 | [],_=>none
 | c::L,id=>match Nat.beq c.id id with|true=>some ⟨c.a ++ [.agg c.ks],c.r⟩|false=>ML L id
theorem VC:∀ {L:List vP} {id:Nat} {c:Ct},ML L id=some c→∃ s∈L,s.id=id∧c=⟨s.a ++ [.agg s.ks],s.r⟩
 | [],id,c,h=>by cases h
 | s::L,id,c,h=>by
  simp only[ML] at h
  split at h
  ·rename_i hb
   cases h
   exact⟨s,List.mem_cons_self,sU.1 hb,rfl⟩
  ·obtain⟨s',h1,h2⟩:=VC h
   exact⟨s',List.mem_cons_of_mem _ h1,h2⟩
def EE (C:sW):FuncId→Option Ct:=fun g=>match C.nt g with|some c=>some c|none=>match C.ct g with|some c=>some c|none=>ML (C.sl (g%1000000)) g
theorem ad5 {C:sW} {E:tC} (hC:vC C E) {f:FuncId} {c:Ct} (h:EE C f=some c) {l:List Int} (hl:l.length=(ru c.a).length):(C.Φ f l).length=(ru c.r).length:=by
 unfold EE at h
 split at h
 ·rename_i c' hc;cases h;exact hC.nt f c hc l hl
 ·split at h
  ·rename_i c' hc;cases h;exact hC.ct f c hc l hl
  ·obtain⟨s,h1,rfl,rfl⟩:=VC h
   exact hC.sl _ s h1 l (by rw[hl];simp[ru,Sh.kinds])
structure Kn (P:Program) (G:rP) (e:sj):Prop where
 two:yV (ru e.ct.r)≤2
 ok:∀ l:List Int,l.length=(ru e.ct.a).length→(e.F l).length=(ru e.ct.r).length∧ME P G e.g e.ct l (e.F l)
structure QD (P:Program) (G:rP) (e:sj):Prop where
 two:yV (ru e.ct.r)≤2
 ok:∀ l:List Int,l.length=(ru e.ct.a).length→(e.F l).length=(ru e.ct.r).length→ME P G e.g e.ct l (e.F l)
theorem Kn.c {P:Program} {G:rP} {e:sj} (h:Kn P G e):QD P G e:=⟨h.two,fun l hl _=>(h.ok l hl).2⟩
theorem Dk {C:sW} {E:tC} (hC:vC C E) {ct:Ct} : ∀ {t:rf SV} {l:List Int},yY (EE C) ct l.length t=true→okF C.Φ ct t l
 | .leaf a,l,h=>by
  obtain⟨xs,hx⟩:=Option.isSome_iff_exists.1 (show(wW ct.r (xP ct.r a)).isSome=true from h)
  exact⟨a,l,xs,rfl,hx⟩
 | .ite c a b,l,h=>by
  have h:=sF h;have h2:=sF h.2
  unfold okF
  simp only[vw]
  cases sO (c.ev l) with
  | true=>exact Dk hC h2.1
  | false=>exact Dk hC h2.2
 | .call f args base m t,l,h=>by
  simp only[yY] at h
  split at h
  ·rename_i c hc
   have h:=sF h;have h2:=sF h.2;have h3:=sF h2.2;have h4:=sF h3.2
   have e1:=sU.1 h3.1;have e2:=sU.1 h4.1
   unfold okF
   simp only[vw,zy]
   have hl:=ad5 hC hc (l:=args.map (X.den (rF l))) (by rw[List.length_map];exact e1)
   rw[hl,e2]
   simp only[Nat.beq_refl]
   refine Dk hC ?_
   rw[List.length_append,hl,← e2];exact h4.2
  ·cases h
 | .stuck _,l,h=>by cases h
theorem Bg {C:sW} {E:tC} (hC:vC C E) (n:Nat) {g:FuncId} {ct:Ct} {t:rf SV} (h:rY C n g (rO ct.a (rM 0 (ru ct.a))) (ru ct.a).length=t) (hs:yY (EE C) ct (ru ct.a).length t=true) :
  rG C.P C.G ⟨g,ct,rH C.Φ ct t⟩:=fun l hl=>VB hC.ok h (ED hs) l hl (Dk hC (by rw[hl];exact hs))
open Go.RowKit
def GM (c:vP):List VK:=ru c.a++c.ks
def GN (C:sW) (fuel:Nat) (g:FuncId) (c:vP):rf SV :=
 match C.P.funcs[g]? with
 | none=>.stuck "no such function"
 | some fn=>match fn.body with
  | none=>.stuck "no body"
  | some cd=>match Nat.ble (c.a.length+1) fn.ntmps with
   | true=>uC (ru c.a).length fun m=>uC (m+c.ks.length) fun nv=>(exec C fuel cd ⟨1,uY (rO c.a (rM 0 (ru c.a)) ++ [.sl 0 0 c.n c.n]) fn.ntmps,[(0,⟨zR c.ks (rM m c.ks),some c.t⟩)],nv,[],[]⟩).bind fun r=>match tQ 0 r.2.dt with
    | true=>.stuck "the slice is turned"
    | false=>match r.1 with
     | .normal=>(match vQ C.P r.2.T r.2.H fn.results.toList with|some rs=>.leaf (tO rs)|none=>.stuck "results")
     | .ret=>(match vQ C.P r.2.T r.2.H fn.results.toList with|some rs=>.leaf (tO rs)|none=>.stuck "results")
     | _=>.stuck "end"
   | false=>.stuck "arguments"
theorem QE (s:rD):∀ (a b k:Nat),vN s k (a+b)=vN s k a++vN s (k+a) b
 | 0,b,k=>by rw[Nat.zero_add];rfl
 | a+1,b,k=>by rw[show a+1+b=(a+b)+1 by omega,vN,QE s a b (k+1),vN,show k+1+a=k+(a+1) by omega];rfl
theorem ad6 {C:sW} {E:tC} {s:rD} (hC:wD C E) {n:Nat} {g:FuncId} {c:vP} {a:SV} {l:List Int} {v:Value} (h:(GN C n g c).path C.Φ s=some a) (hl:vN s 0 (GM c).length=l) (hv:a.den s = .v v) :
  ∀ w b,Gl C.G w→(∀ x∈C.G,x.1≠b)→w.heap[b]? = some (.cells (sP c.ks (l.drop (ru c.a).length)).toArray c.t (0,0)) →
  wU C.P g (rX c.a l ++ [Value.slice (some ⟨b,0,none⟩) c.n c.n]).toArray w fun e w'=>e = .returned v∧rq w w':=by
 intro w b hG hgb hw
 unfold GN at h
 split at h
 ·cases h
 ·rename_i fn hf
  split at h
  ·cases h
  ·rename_i cd hb
   split at h
   ·rename_i hle
    rw[uk,uk] at h
    obtain⟨⟨ex,st⟩,h1,h2⟩:=rf.path_bind_some h
    have sp:=(GI (E:=E) (s:=s) hC n).1 _ _ _ _ h1 (fun x hx=>by cases hx)
    have hle:=Nat.le_of_ble_eq_true hle
    have hk:(GM c).length=(ru c.a).length+c.ks.length:=by unfold GM;rw[List.length_append]
    rw[hk,QE,Nat.zero_add] at hl
    have l1:(vN s 0 (ru c.a).length).length=(ru c.a).length:=BN _ _ _
    have hd1:l.drop (ru c.a).length=vN s (ru c.a).length c.ks.length:=by
     rw[← hl,List.drop_append_of_le_length (by omega),List.drop_of_length_le (by omega)];rfl
    have hd2:rX c.a l=rX c.a (vN s 0 (ru c.a).length):=by rw[← hl,Qu _ _ _ l1]
    rw[hd1] at hw
    rw[hd2]
    obtain⟨v1,v2⟩:=Be s (ru c.a) 0
    obtain⟨u1,u2⟩:=Be s c.ks (ru c.a).length
    have a1:=BX v1 v2
    have b1:=MC u1 u2
    have alen:(rO c.a (rM 0 (ru c.a))).length=c.a.length:=by rw[← zo s,a1,List.length_map,GJ]
    let e:Env:=⟨fun _=>b,fun _=>undef⟩
    let B:sG:=⟨[b],[0],e⟩
    let o:SO:=⟨zR c.ks (rM (ru c.a).length c.ks),some c.t⟩
    have hH:∀ k x,SH.den s [(0,o)] k=some x→k=0∧x = .own (SV.dens s o.c) c.t:=by
     intro k x hx
     unfold SH.den at hx
     simp only[hget] at hx
     split at hx
     ·rename_i hb0
      have:=sU.1 hb0
      simp only[Option.map_some,Option.some.injEq] at hx
      exact⟨this.symm,by rw[← hx];exact SO.den_own s rfl⟩
     ·cases hx
    have hlt:b<w.heap.size:=(Array.getElem?_eq_some_iff.1 hw).1
    have h00:SH.den s [(0,o)] 0=some (.own (SV.dens s o.c) c.t):=SH.den_get rfl rfl
    have R:rU C.G w B e (SH.den s [(0,o)]) w:=by
     refine⟨rfl,rfl,rfl,Nat.le_refl _,fun _ _ _=>rfl,hG,?_,?_,?_,?_,?_,?_,?_,?_,?_,fun k es hk=>by have:=(hH k _ hk).2;cases this⟩
     ·intro k c' t hk
      obtain⟨rfl,hx⟩:=hH k _ hk
      simp only[AO.own.injEq] at hx
      rw[hx.1,hx.2,b1,vK];exact hw
     ·intro k c' t hk;exact .inr (by simp[B,e])
     ·intro k c' t hk x hx;exact hgb x hx
     ·intro k c' t k' c'' t' hk hk' _;rw[(hH k _ hk).1,(hH k' _ hk').1]
     ·intro k n' l' hk;have:=(hH k _ hk).2;cases this
     ·intro k n' l' _ _ _ hk;have:=(hH k _ hk).2;cases this
     ·intro k x hk r hr
      obtain⟨_,rfl⟩:=hH k x hk
      rw[AO.refs,b1,AP] at hr;simp at hr
     ·intro k hk
      have:k=0:=by simpa [B] using hk
      subst this
      exact⟨by rw[h00];simp,rfl,rfl⟩
     ·intro k n' l' hk;have:=(hH k _ hk).2;cases this
    have hbound:yQ (SH.den s [(0,o)]) 1:=by
     intro k hk
     cases hx:SH.den s [(0,o)] k with
     | none=>rfl
     | some x=>have:=(hH k x hx).1;omega
    have hlen:(uY (rO c.a (rM 0 (ru c.a)) ++ [.sl 0 0 c.n c.n]) fn.ntmps).length=fn.ntmps:=Ex _ _ (by rw[List.length_append,alen];simpa using hle)
    have hA:=sp.aw w B
    simp only[hlen,Kh] at hA
    have hx:tQ 0 st.dt=false∧(ex = .normal∨ex = .ret)∧∃ rs,vQ C.P st.T st.H fn.results.toList=some rs∧tO rs=a:=by
     simp only at h2
     split at h2
     ·cases h2
     ·rename_i hdt
      refine⟨hdt,?_⟩
      rcases Kk h2 with⟨rfl,h3⟩|⟨rfl,h3⟩
      ·split at h3
       ·rename_i rs hrs;cases h3;exact⟨.inl rfl,rs,hrs,rfl⟩
       ·cases h3
      ·split at h3
       ·rename_i rs hrs;cases h3;exact⟨.inr rfl,rs,hrs,rfl⟩
       ·cases h3
    obtain⟨hdt,hx,rs,hrs,he⟩:=hx
    refine CY hf (hC.nm g fn hf (by rw[hb];rfl)) (by rw[hb];rfl) ?_
    have hcalls:=OY (E:=E) (args:=SV.dens s (rO c.a (rM 0 (ru c.a)) ++ [.sl 0 0 c.n c.n])) (R:=fun r H=>H=SH.den s st.H∧r = .v v) hf hb (by rw[zo,List.length_append,alen];simpa using hle) R hbound (fun x hx r hr=>by
     rw[Df,a1] at hx
     rcases List.mem_append.1 hx with hx|hx
     ·obtain⟨y,_,rfl⟩:=List.mem_map.1 hx;simp[AV.refs] at hr
     ·simp[SV.dens,SV.den] at hx;subst hx
      simp[AV.refs] at hr;subst hr
      rw[h00];simp) (by
     refine AW.mono (show AW _ cd (wX s ex st) _ _ _ from hA) ?_
     rintro x N T H ⟨rfl,rfl,rfl,rfl⟩
     have hres:=Ey (G:=C.G) s hrs
     have hrv:Ac (SV.dens s rs) = .v v:=by rw[GG,he,hv]
     rcases hx with rfl|rfl
     ·exact⟨_,hres,rfl,hrv⟩
     ·exact⟨_,hres,rfl,hrv⟩)
    have hvals:AV.vals e (SV.dens s (rO c.a (rM 0 (ru c.a)) ++ [.sl 0 0 c.n c.n]))=rX c.a (vN s 0 (ru c.a).length) ++ [Value.slice (some ⟨b,0,none⟩) c.n c.n]:=by
     rw[Df,Jw,a1,vK];rfl
    rw[hvals] at hcalls
    refine hcalls.mono ?_
    rintro en w' ⟨r,e2,H2,rfl,⟨rfl,rfl⟩,R2⟩
    refine⟨rfl,R2.os,R2.tape,R2.output,R2.size,fun k hk=>?_⟩
    by_cases hkb:k=b
    ·subst hkb
     have hg:hget st.H 0=some o:=(sp.dt 0 hdt).2.trans rfl
     have hown:=R2.own 0 _ _ (SH.den_get hg rfl)
     have henv:=(R2.env 0 (by simp[B])).2.1
     have henv:e2.blk 0=k:=henv
     rw[henv,b1,vK] at hown
     rw[hown,hw]
    ·exact R2.old k hk (by simpa [B] using hkb)
   ·cases h
structure uu where
 g:FuncId
 c:vP
 F:List Int→List Int
structure Bh (P:Program) (G:rP) (e:uu):Prop where
 ok:∀ l:List Int,l.length=(GM e.c).length→(e.F l).length=(ru e.c.r).length∧MF P G e.g e.c l (e.F l)
theorem QF {C:sW} {E:tC} (hC:vC C E) (n:Nat) {g:FuncId} {c:vP} {t:rf SV} (h:GN C n g c=t) (hs:yY (EE C) ⟨c.a,c.r⟩ (GM c).length t=true) :
  Bh C.P C.G ⟨g,c,rH C.Φ ⟨c.a,c.r⟩ t⟩:=by
 refine⟨fun l hl=>?_⟩
 obtain ho:=Dk hC (ct:=⟨c.a,c.r⟩) (t:=t) (l:=l) (by rw[hl];exact hs)
 refine⟨MH ho,?_⟩
 obtain⟨a,l',xs,h1,h2⟩:=ho
 obtain⟨h3,m,rfl⟩:=EC h1 (by rw[hl];exact ED hs)
 rw[← h] at h3
 have hf:=Dj (rF (l++m)) h2
 have hF:rH C.Φ ⟨c.a,c.r⟩ t l=xs.map (X.den (rF (l++m))):=by unfold rH;simp only[h1,h2,zy,id]
 have hv:=MJ hf.1 (GJ _ _)
 have:=ad6 hC.ok h3 (l:=l) (by rw[← hl];exact MI l m) hv
 intro w b hG hgb hw
 show wU C.P g _ w fun e w'=>e = .returned (tq (rX c.r (rH C.Φ ⟨c.a,c.r⟩ t l)))∧rq w w'
 rw[hF]
 exact this w b hG hgb hw
structure QG (P:Program) (G:rP) (e:uu):Prop where
 ok:∀ l:List Int,l.length=(GM e.c).length→(e.F l).length=(ru e.c.r).length→MF P G e.g e.c l (e.F l)
theorem Bh.c {P:Program} {G:rP} {e:uu} (h:Bh P G e):QG P G e:=⟨fun l hl _=>(h.ok l hl).2⟩
open Go.RowKit
def QH:Value→Value→Option Bool
 | .agg xs,.agg ys=>match xs.toList,ys.toList with
  | [.int .u64 a,.int .u64 b],[.int .u64 c,.int .u64 d]=>some (a==c&&b==d)
  | _,_=>none
 | _,_=>none
def QI:Value→Value→Option Bool
 | .agg xs,.agg ys=>match xs.toList,ys.toList with
  | [.int .u64 a,.int .u64 b,.int .u64 c,.int .u64 d],[.int .u64 a',.int .u64 b',.int .u64 c',.int .u64 d']=>some (a==a'&&(b==b'&&(c==c'&&d==d')))
  | _,_=>none
 | _,_=>none
def QJ:Value→Value→Option Bool
 | .agg xs,.agg ys=>match xs.toList,ys.toList with
  | [.int .u64 a,.int .u64 b,.int .u8 c],[.int .u64 a',.int .u64 b',.int .u8 c']=>some ((a==a'&&b==b')&&c==c')
  | _,_=>none
 | _,_=>none
def QK:Value→Value→Option Bool
 | .func _ _ _,.nilFunc=>some false
 | .nilFunc,.nilFunc=>some true
 | _,_=>none
def Ko:Value→Value→Option Bool
 | .agg xs,.agg ys=>match xs.toList,ys.toList with
  | [.int .i64 a,.int .u64 b,.int .u64 c,.int .u8 d],[.int .i64 a',.int .u64 b',.int .u64 c',.int .u8 d']=>some (a==a'&&((b==b'&&c==c')&&d==d'))
  | _,_=>none
 | _,_=>none
def outT (t:TypeId):Bool :=
 Nat.beq t 39 ||
  false
def Dl (t:TypeId) (x y:Value):Option Bool :=
 if t=27 then QH x y else if t=252 then QI x y else if t=62 then QJ x y else if t=46 then QK x y else none
def Bi (t:TypeId) (x y:Value):Option Bool:=match outT t with|true=>Ko x y|false=>Dl t x y
def eE:tC:=fun op t x y=>match op with
 | .eql=>match Bi t x y with|some b=>some (.bool b)|none=>none
 | .neq=>match Bi t x y with|some b=>some (.bool (!b))|none=>none
 | _=>none
theorem Kq (w:World) {k:IntKind} {e:TypeId} (hu:Tryz.prog.underlying e=some (.int k)) (xs:Array Value) (i:Nat) (v:Value) (h:xs[i]? = some v):(part e xs i).run Tryz.prog w = .ok v w:=by
 simp[part,isAgg,run_underlying hu,h]
theorem ad7:(Tryz.prog.fieldsOf 27).toList.map (fun f=>(f.name != "_",f.offset,f.type)) = [(true,0,25),(true,1,25)]:=by kernel_rfl
theorem ad8:(Tryz.prog.fieldsOf 62).toList.map (fun f=>(f.name != "_",f.offset,f.type)) = [(true,0,27),(true,2,33)]:=by kernel_rfl
theorem QL (w:World) (n:Nat) (a b c d:Int):(Op.equalIn (n+2) 27 (.agg #[.int .u64 a,.int .u64 b]) (.agg #[.int .u64 c,.int .u64 d])).run Tryz.prog w = .ok (a==c&&b==d) w:=by
 have hu:Tryz.prog.underlying 25=some (.int .u64):=by kernel_rfl
 rw[run_equalIn_struct w (n+1) _ _ _ (by kernel_rfl) (by kernel_rfl)]
 obtain⟨f0,f1,hf,h0,h1⟩:∃ f0 f1:Field,(Tryz.prog.fieldsOf 27).toList = [f0,f1]∧(f0.name ≠ "_" ∧ f0.offset=0∧f0.type=25)∧(f1.name ≠ "_" ∧ f1.offset=1∧f1.type=25):=by
  have:=ad7
  match hl:(Tryz.prog.fieldsOf 27).toList with
  | [f0,f1]=>rw[hl] at this;simp at this;exact⟨f0,f1,rfl,⟨by simpa using this.1.1,this.1.2.1,this.1.2.2⟩,⟨by simpa using this.2.1,this.2.2.1,this.2.2.2⟩⟩
  | []=>rw[hl] at this;simp at this
  | [_]=>rw[hl] at this;simp at this
  | _::_::_::_=>rw[hl] at this;simp at this
 rw[hf]
 have p0 (x y:Value):(part 25 #[x,y] 0).run Tryz.prog w = .ok x w:=Kq w hu _ _ _ rfl
 have p1 (x y:Value):(part 25 #[x,y] 1).run Tryz.prog w = .ok y w:=Kq w hu _ _ _ rfl
 have q (x y:Int):(Op.equalIn (n+1) 25 (.int .u64 x) (.int .u64 y)).run Tryz.prog w = .ok (x==y) w:=run_equalIn_int w n _ .u64 .u64 x y hu
 simp only[Op.eqFields,h0.1,h0.2.1,h0.2.2,h1.1,h1.2.1,h1.2.2,ne_eq,not_true_eq_false,not_false_eq_true,if_true,Sem.run_bind,p0,p1,q,Result.andThen_ok]
 cases (a==c)<;>cases hbd:(b==d)<;>simp[p1,q,hbd,Op.eqFields]
theorem ad9 (w:World) (a b a' b' c c':Int):(Op.equalIn 10000 62 (.agg #[.int .u64 a,.int .u64 b,.int .u8 c]) (.agg #[.int .u64 a',.int .u64 b',.int .u8 c'])).run Tryz.prog w = .ok ((a==a'&&b==b')&&c==c') w:=by
 have hu:Tryz.prog.underlying 33=some (.int .u8):=by kernel_rfl
 rw[run_equalIn_struct w 9999 _ _ _ (by kernel_rfl) (by kernel_rfl)]
 obtain⟨f0,f1,hf,h0,h1⟩:∃ f0 f1:Field,(Tryz.prog.fieldsOf 62).toList = [f0,f1]∧(f0.name ≠ "_" ∧ f0.offset=0∧f0.type=27)∧(f1.name ≠ "_" ∧ f1.offset=2∧f1.type=33):=by
  have:=ad8
  match hl:(Tryz.prog.fieldsOf 62).toList with
  | [f0,f1]=>rw[hl] at this;simp at this;exact⟨f0,f1,rfl,⟨by simpa using this.1.1,this.1.2.1,this.1.2.2⟩,⟨by simpa using this.2.1,this.2.2.1,this.2.2.2⟩⟩
  | []=>rw[hl] at this;simp at this
  | [_]=>rw[hl] at this;simp at this
  | _::_::_::_=>rw[hl] at this;simp at this
 rw[hf]
 have p0 (x y z:Value):(part 27 #[x,y,z] 0).run Tryz.prog w = .ok (.agg #[x,y]) w:=by
  simp[part,FM (P:=Tryz.prog) (t:=27) (b:=true) (by kernel_rfl),run_sizeOf (P:=Tryz.prog) (t:=27) (s:=2) (by kernel_rfl)]
 have p1 (x y z:Value):(part 33 #[x,y,z] 2).run Tryz.prog w = .ok z w:=Kq w hu _ _ _ rfl
 have q (x y:Int):(Op.equalIn 9999 33 (.int .u8 x) (.int .u8 y)).run Tryz.prog w = .ok (x==y) w:=run_equalIn_int w 9998 _ .u8 .u8 x y hu
 have qb:=QL w 9997 a b a' b'
 simp only[Op.eqFields,h0.1,h0.2.1,h0.2.2,h1.1,h1.2.1,h1.2.2,ne_eq,not_true_eq_false,not_false_eq_true,if_true,Sem.run_bind,p0,p1,q,qb,Result.andThen_ok]
 cases (a==a'&&b==b')<;>cases hcd:(c==c')<;>simp[p1,q,hcd,Op.eqFields]
theorem aea (w:World) (a b c d a' b' c' d':Int):(Op.equalIn 10000 252 (.agg #[.int .u64 a,.int .u64 b,.int .u64 c,.int .u64 d]) (.agg #[.int .u64 a',.int .u64 b',.int .u64 c',.int .u64 d'])).run Tryz.prog w = .ok (a==a'&&(b==b'&&(c==c'&&d==d'))) w:=by
 have hu:Tryz.prog.underlying 25=some (.int .u64):=by kernel_rfl
 obtain⟨i,hi⟩:∃ i,Tryz.prog.info? 25=some i:=Option.isSome_iff_exists.1 (by kernel_rfl)
 rw[run_equalIn_array (P:=Tryz.prog) (w:=w) (d:=9999) (e:=25) (n:=4) _ _ (by kernel_rfl) hi]
 rw[show Tryz.prog.cellsOf 25=1 by kernel_rfl,show List.range 4 = [0,1,2,3] by decide]
 have p0 (x0 x1 x2 x3:Value):(part 25 #[x0,x1,x2,x3] 0).run Tryz.prog w = .ok x0 w:=LW w hu _ _ _ rfl
 have p1 (x0 x1 x2 x3:Value):(part 25 #[x0,x1,x2,x3] 1).run Tryz.prog w = .ok x1 w:=LW w hu _ _ _ rfl
 have p2 (x0 x1 x2 x3:Value):(part 25 #[x0,x1,x2,x3] 2).run Tryz.prog w = .ok x2 w:=LW w hu _ _ _ rfl
 have p3 (x0 x1 x2 x3:Value):(part 25 #[x0,x1,x2,x3] 3).run Tryz.prog w = .ok x3 w:=LW w hu _ _ _ rfl
 have q (x y:Int):(Op.equalIn 9999 25 (.int .u64 x) (.int .u64 y)).run Tryz.prog w = .ok (x==y) w:=run_equalIn_int w 9998 _ .u64 .u64 x y hu
 simp only[Op.eqItems,Sem.run_bind,Nat.mul_one]
 rw[p0,Result.andThen_ok,p0,Result.andThen_ok,q,Result.andThen_ok]
 cases (a==a')
 ·rfl
 rw[if_neg (by decide)]
 simp only[Sem.run_bind]
 rw[p1,Result.andThen_ok,p1,Result.andThen_ok,q,Result.andThen_ok]
 cases (b==b')
 ·rfl
 rw[if_neg (by decide)]
 simp only[Sem.run_bind]
 rw[p2,Result.andThen_ok,p2,Result.andThen_ok,q,Result.andThen_ok]
 cases (c==c')
 ·rfl
 rw[if_neg (by decide)]
 simp only[Sem.run_bind]
 rw[p3,Result.andThen_ok,p3,Result.andThen_ok,q,Result.andThen_ok]
 cases (d==d')
 ·rfl
 rfl
theorem aeb:(Tryz.prog.fieldsOf 39).toList.map (fun f=>(f.name != "_",f.offset,f.type)) = [(true,0,37),(true,1,27),(true,3,33)]:=by kernel_rfl
theorem aec (w:World) (a b c d a' b' c' d':Int):(Op.equalIn 10000 39 (.agg #[.int .i64 a,.int .u64 b,.int .u64 c,.int .u8 d]) (.agg #[.int .i64 a',.int .u64 b',.int .u64 c',.int .u8 d'])).run Tryz.prog w = .ok (a==a'&&((b==b'&&c==c')&&d==d')) w:=by
 have hu:Tryz.prog.underlying 33=some (.int .u8):=by kernel_rfl
 have he:Tryz.prog.underlying 37=some (.int .i64):=by kernel_rfl
 rw[run_equalIn_struct w 9999 _ _ _ (by kernel_rfl) (by kernel_rfl)]
 obtain⟨f0,f1,f2,hf,h0,h1,h2⟩:∃ f0 f1 f2:Field,(Tryz.prog.fieldsOf 39).toList = [f0,f1,f2]∧(f0.name ≠ "_" ∧ f0.offset=0∧f0.type=37)∧(f1.name ≠ "_" ∧ f1.offset=1∧f1.type=27)∧(f2.name ≠ "_" ∧ f2.offset=3∧f2.type=33):=by
  have:=aeb
  match hl:(Tryz.prog.fieldsOf 39).toList with
  | [f0,f1,f2]=>rw[hl] at this;simp at this;exact⟨f0,f1,f2,rfl,⟨by simpa using this.1.1,this.1.2.1,this.1.2.2⟩,⟨by simpa using this.2.1.1,this.2.1.2.1,this.2.1.2.2⟩,⟨by simpa using this.2.2.1,this.2.2.2.1,this.2.2.2.2⟩⟩
  | []=>rw[hl] at this;simp at this
  | [_]=>rw[hl] at this;simp at this
  | [_,_]=>rw[hl] at this;simp at this
  | _::_::_::_::_=>rw[hl] at this;simp at this
 rw[hf]
 have p0 (x y z u:Value):(part 37 #[x,y,z,u] 0).run Tryz.prog w = .ok x w:=Kq w he _ _ _ rfl
 have p1 (x y z u:Value):(part 27 #[x,y,z,u] 1).run Tryz.prog w = .ok (.agg #[y,z]) w:=by
  simp[part,FM (P:=Tryz.prog) (t:=27) (b:=true) (by kernel_rfl),run_sizeOf (P:=Tryz.prog) (t:=27) (s:=2) (by kernel_rfl)]
 have p2 (x y z u:Value):(part 33 #[x,y,z,u] 3).run Tryz.prog w = .ok u w:=Kq w hu _ _ _ rfl
 have q0 (x y:Int):(Op.equalIn 9999 37 (.int .i64 x) (.int .i64 y)).run Tryz.prog w = .ok (x==y) w:=run_equalIn_int w 9998 _ .i64 .i64 x y he
 have q2 (x y:Int):(Op.equalIn 9999 33 (.int .u8 x) (.int .u8 y)).run Tryz.prog w = .ok (x==y) w:=run_equalIn_int w 9998 _ .u8 .u8 x y hu
 have qb:=QL w 9997 b c b' c'
 simp only[Op.eqFields,h0.1,h0.2.1,h0.2.2,h1.1,h1.2.1,h1.2.2,h2.1,h2.2.1,h2.2.2,ne_eq,not_true_eq_false,not_false_eq_true,if_true,Sem.run_bind,p0,p1,p2,q0,q2,qb,Result.andThen_ok]
 cases hab:(a==a')
 ·simp
 ·cases hbc:(b==b'&&c==c')<;>cases hdd:(d==d')<;>simp[p0,p1,p2,q0,q2,qb,hbc,hdd,Op.eqFields]
theorem aed {t:TypeId} {x y:Value} {b:Bool} (ht:outT t=true) (h:Ko x y=some b) (w:World):(∀ op xo yo,(eqGuard op t xo yo x y).run Tryz.prog w = .ok () w)∧(binOp .eql t x y).run Tryz.prog w = .ok (.bool b) w∧(binOp .neq t x y).run Tryz.prog w = .ok (.bool (!b)) w:=by
 have ht2:t=39:=by
  unfold outT at ht;rw[Bool.or_false] at ht;exact sU.1 ht
 subst ht2
 have agg:∀ (xs ys:Array Value),Tryz.prog.eqGuardType Tryz.prog.depth 39=false→(Op.equalIn 10000 39 (.agg xs) (.agg ys)).run Tryz.prog w = .ok b w →
   (∀ op xo yo,(eqGuard op 39 xo yo (.agg xs) (.agg ys)).run Tryz.prog w = .ok () w)∧(binOp .eql 39 (.agg xs) (.agg ys)).run Tryz.prog w = .ok (.bool b) w∧(binOp .neq 39 (.agg xs) (.agg ys)).run Tryz.prog w = .ok (.bool (!b)) w:=by
  intro xs ys hg he
  refine⟨fun op xo yo=>run_eqGuard_agg w op _ xo yo xs ys hg,?_,?_⟩
  ·rw[run_eql_struct,he];rfl
  ·rw[run_neq_struct,he];rfl
 have lst:∀ {xs:Array Value} {l:List Value},xs.toList=l→xs=l.toArray:=fun h=>by rw[← h]
 unfold Ko at h
 split at h
 ·split at h
  ·rename_i h1 h2
   cases h
   rw[lst h1,lst h2]
   exact agg _ _ (by kernel_rfl) (aec w _ _ _ _ _ _ _ _)
  ·cases h
 ·cases h
theorem aee {t:TypeId} {x y:Value} {b:Bool} (h:Dl t x y=some b) (w:World):(∀ op xo yo,(eqGuard op t xo yo x y).run Tryz.prog w = .ok () w)∧(binOp .eql t x y).run Tryz.prog w = .ok (.bool b) w∧(binOp .neq t x y).run Tryz.prog w = .ok (.bool (!b)) w:=by
 have agg:∀ (xs ys:Array Value),Tryz.prog.eqGuardType Tryz.prog.depth t=false→(Op.equalIn 10000 t (.agg xs) (.agg ys)).run Tryz.prog w = .ok b w →
   (∀ op xo yo,(eqGuard op t xo yo (.agg xs) (.agg ys)).run Tryz.prog w = .ok () w)∧(binOp .eql t (.agg xs) (.agg ys)).run Tryz.prog w = .ok (.bool b) w∧(binOp .neq t (.agg xs) (.agg ys)).run Tryz.prog w = .ok (.bool (!b)) w:=by
  intro xs ys hg he
  refine⟨fun op xo yo=>run_eqGuard_agg w op t xo yo xs ys hg,?_,?_⟩
  ·rw[run_eql_struct,he];rfl
  ·rw[run_neq_struct,he];rfl
 have lst:∀ {xs:Array Value} {l:List Value},xs.toList=l→xs=l.toArray:=fun h=>by rw[← h]
 unfold Dl at h
 split at h
 ·rename_i ht;subst ht
  unfold QH at h
  split at h
  ·split at h
   ·rename_i h1 h2
    cases h
    rw[lst h1,lst h2]
    exact agg _ _ (by kernel_rfl) (QL w 9998 _ _ _ _)
   ·cases h
  ·cases h
 ·split at h
  ·rename_i ht;subst ht
   unfold QI at h
   split at h
   ·split at h
    ·rename_i h1 h2
     cases h
     rw[lst h1,lst h2]
     exact agg _ _ (by kernel_rfl) (aea w _ _ _ _ _ _ _ _)
    ·cases h
   ·cases h
  ·split at h
   ·rename_i ht;subst ht
    unfold QJ at h
    split at h
    ·split at h
     ·rename_i h1 h2
      cases h
      rw[lst h1,lst h2]
      exact agg _ _ (by kernel_rfl) (ad9 w _ _ _ _ _ _)
     ·cases h
    ·cases h
   ·split at h
    ·rename_i ht;subst ht
     have hu:=Tryz.underlying46
     unfold QK at h
     split at h
     ·cases h
      refine⟨fun op xo yo=>by cases op<;>rfl,?_,?_⟩
      ·simp only[binOp];simp[Op.equal,Op.maxDepth]
       show((Op.equalIn (9999+1) _ _ _).run _ w).andThen _=_
       rw[Op.equalIn];simp[run_underlying hu]
      ·simp only[binOp];simp[Op.equal,Op.maxDepth]
       show((Op.equalIn (9999+1) _ _ _).run _ w).andThen _=_
       rw[Op.equalIn];simp[run_underlying hu]
     ·cases h
      refine⟨fun op xo yo=>by cases op<;>rfl,?_,?_⟩
      ·simp only[binOp];simp[Op.equal,Op.maxDepth]
       show((Op.equalIn (9999+1) _ _ _).run _ w).andThen _=_
       rw[Op.equalIn];simp[run_underlying hu]
      ·simp only[binOp];simp[Op.equal,Op.maxDepth]
       show((Op.equalIn (9999+1) _ _ _).run _ w).andThen _=_
       rw[Op.equalIn];simp[run_underlying hu]
     ·cases h
    ·cases h
theorem QM {t:TypeId} {x y:Value} {b:Bool} (h:Bi t x y=some b) (w:World):(∀ op xo yo,(eqGuard op t xo yo x y).run Tryz.prog w = .ok () w)∧(binOp .eql t x y).run Tryz.prog w = .ok (.bool b) w∧(binOp .neq t x y).run Tryz.prog w = .ok (.bool (!b)) w:=by
 unfold Bi at h
 split at h
 ·rename_i ht;exact aed ht h w
 ·exact aee h w
theorem MM {t:TypeId} (ho:outT t=false) (x y:Value):Bi t x y=Dl t x y:=by unfold Bi;rw[ho]
theorem aef {t:TypeId} (ho:outT t=true) (x y:Value):Bi t x y=Ko x y:=by unfold Bi;rw[ho]
theorem QN:BC Tryz.prog eE:=by
 intro op t x y v h xo yo w
 unfold eE at h
 split at h
 ·split at h
  ·rename_i b hb
   cases h
   obtain⟨h1,h2,h3⟩:=QM hb w
   simp only[Sem.run_bind,h1,h2,Result.andThen_ok]
  ·cases h
 ·split at h
  ·rename_i b hb
   cases h
   obtain⟨h1,h2,h3⟩:=QM hb w
   simp only[Sem.run_bind,h1,h3,Result.andThen_ok]
  ·cases h
 ·cases h
def vT:List IntKind→List SV→List SV→Option X
 | [],[],[]=>some (.lit (.ofNat 1))
 | k::ks,.int k1 a::l,.int k2 b::m=>match vM k k1,vM k k2,vT ks l m with
  | true,true,some r=>some (mkAnd (uz .eql k a b) r)
  | _,_,_=>none
 | _,_,_=>none
def EF:List IntKind→List Int→List Value
 | k::ks,n::ns=>.int k n::EF ks ns
 | _,_=>[]
def Dm:List Int→List Int→Bool
 | a::us,b::zs=>a==b&&Dm us zs
 | _,_=>true
theorem VD (s:rD):∀ {ks:List IntKind} {l m:List SV} {r:X},vT ks l m=some r→∃ us zs:List Int,SV.dens s l=(EF ks us).map .v∧SV.dens s m=(EF ks zs).map .v∧us.length=ks.length∧zs.length=ks.length∧(r.den s != 0)=Dm us zs
 | [],[],[],r,h=>by cases h;exact⟨[],[],rfl,rfl,rfl,rfl,rfl⟩
 | k::ks,.int k1 a::l,.int k2 b::m,r,h=>by
  simp only[vT] at h
  split at h
  ·rename_i q h1 h2 h3
   cases h
   have h1:=xz h1;have h2:=xz h2;subst h1;subst h2
   obtain⟨us,zs,e1,e2,e3,e4,e5⟩:=VD s h3
   refine⟨a.den s::us,b.den s::zs,?_,?_,by simp[e3],by simp[e4],?_⟩
   ·rw[SV.dens,e1];rfl
   ·rw[SV.dens,e2];rfl
   ·rw[acW,uB,C8,e5]
    simp only[rQ,uB,Dm]
  ·cases h
 | [],[],_::_,r,h=>by simp[vT] at h
 | [],_::_,_,r,h=>by simp[vT] at h
 | _::_,[],_,r,h=>by simp[vT] at h
 | _::_,.int _ _::_,[],r,h=>by simp[vT] at h
 | _::_,.int _ _::_,.v _::_,r,h=>by simp[vT] at h
 | _::_,.int _ _::_,.bool _::_,r,h=>by simp[vT] at h
 | _::_,.int _ _::_,.loc _ _::_,r,h=>by simp[vT] at h
 | _::_,.int _ _::_,.sl _ _ _ _::_,r,h=>by simp[vT] at h
 | _::_,.int _ _::_,.fn _ _ _::_,r,h=>by simp[vT] at h
 | _::_,.int _ _::_,.tup _::_,r,h=>by simp[vT] at h
 | _::_,.int _ _::_,.agg _::_,r,h=>by simp[vT] at h
 | _::_,.v _::_,_,r,h=>by simp[vT] at h
 | _::_,.bool _::_,_,r,h=>by simp[vT] at h
 | _::_,.loc _ _::_,_,r,h=>by simp[vT] at h
 | _::_,.sl _ _ _ _::_,_,r,h=>by simp[vT] at h
 | _::_,.fn _ _ _::_,_,r,h=>by simp[vT] at h
 | _::_,.tup _::_,_,r,h=>by simp[vT] at h
 | _::_,.agg _::_,_,r,h=>by simp[vT] at h
def MN:SV→Option (List SV)
 | .agg l=>some l
 | .v (.agg cs)=>some (cs.toList.map xA)
 | _=>none
theorem VE {s:rD} {x:SV} {l:List SV} {vs:List Value} (h:MN x=some l) (hd:SV.dens s l=vs.map .v):x.den s = .v (.agg vs.toArray):=by
 unfold MN at h
 split at h
 ·cases h;simp only[SV.den,hd,Ma]
 ·rename_i cs
  cases h
  rw[zN] at hd
  have:=congrArg tX hd
  rw[Db,Db] at this
  have:=Option.some.inj this
  simp only[SV.den,← this]
 ·cases h
def MO:SV→Option (Option Value)
 | .v .nilFunc=>some none
 | .v (.func f a c)=>some (some (.func f a c))
 | .fn f [] []=>some (some (.func f #[] #[]))
 | _=>none
def VF (t:TypeId):Option (List IntKind):=match outT t with
 | true=>some [.i64,.u64,.u64,.u8]
 | false=>match Nat.beq t 27 with
 | true=>some [.u64,.u64]
 | false=>match Nat.beq t 252 with
  | true=>some [.u64,.u64,.u64,.u64]
  | false=>match Nat.beq t 62 with
   | true=>some [.u64,.u64,.u8]
   | false=>none
def Kr:Gu:=fun t x y=>match VF t with
 | some ks=>match MN x,MN y with
  | some l,some m=>vT ks l m
  | _,_=>none
 | none=>match Nat.beq t 46 with
  | true=>match MO x,MO y with
   | some (some _),some none=>some (.lit (.ofNat 0))
   | some none,some none=>some (.lit (.ofNat 1))
   | _,_=>none
  | false=>none
theorem QO:Ml Tryz.prog Kr eE:=by
 intro t x y r s h
 unfold Kr at h
 have pb:∀ (u v:List Value) op,wy Tryz.prog op t (.agg u.toArray) (.agg v.toArray)=none:=fun u v op=>rfl
 have fin:∀ (a b:Value) (q:Bool),wy Tryz.prog .eql t a b=none→wy Tryz.prog .neq t a b=none→Bi t a b=some q→x.den s = .v a→y.den s = .v b→(r.den s != 0)=q →
   ∃ a b,x.den s = .v a∧y.den s = .v b∧wy Tryz.prog .eql t a b=none∧wy Tryz.prog .neq t a b=none∧eE .eql t a b=some (.bool (r.den s != 0))∧eE .neq t a b=some (.bool (!(r.den s != 0))):=fun a b q h1 h2 h3 h4 h5 h6 =>
  ⟨a,b,h4,h5,h1,h2,by simp only[eE,h3,h6],by simp only[eE,h3,h6]⟩
 split at h
 ·rename_i ks hk
  split at h
  ·rename_i l m hl hm
   obtain⟨us,zs,e1,e2,e3,e4,e5⟩:=VD s h
   have hx:=VE hl e1
   have hy:=VE hm e2
   refine fin _ _ (Dm us zs) (pb _ _ _) (pb _ _ _) ?_ hx hy e5
   unfold VF at hk
   split at hk
   ·rename_i ho
    cases hk
    match us,zs,e3,e4 with
    | [a,b,c,d],[a',b',c',d'],_,_ =>
     rw[aef ho]
     simp only[Ko,EF,Dm,Bool.and_true,Bool.and_assoc]
   rename_i ho
   split at hk
   ·rename_i ht
    cases hk
    have ht:=sU.1 ht
    match us,zs,e3,e4 with
    | [a,b],[c,d],_,_ =>
     rw[MM ho]
     unfold Dl
     rw[if_pos ht]
     simp only[QH,EF,Dm,Bool.and_true]
   ·rename_i ht0
    split at hk
    ·rename_i ht
     cases hk
     have ht:=sU.1 ht
     match us,zs,e3,e4 with
     | [a,b,c,d],[a',b',c',d'],_,_ =>
      rw[MM ho]
      unfold Dl
      rw[if_neg (fun e=>by rw[e] at ht0;simp at ht0),if_pos ht]
      simp only[QI,EF,Dm,Bool.and_true]
    ·rename_i ht1
     split at hk
     ·rename_i ht
      cases hk
      have ht:=sU.1 ht
      match us,zs,e3,e4 with
      | [a,b,c],[a',b',c'],_,_ =>
       rw[MM ho]
       unfold Dl
       rw[if_neg (fun e=>by rw[e] at ht0;simp at ht0),if_neg (fun e=>by rw[e] at ht1;simp at ht1),if_pos ht]
       simp only[QJ,EF,Dm,Bool.and_true,Bool.and_assoc]
     ·cases hk
  ·cases h
 ·split at h
  ·rename_i hk ht
   have ht:=sU.1 ht
   have hf:∀ {z:SV} {o:Option Value},MO z=some o→z.den s = .v (match o with|none=>.nilFunc|some v=>v)∧∀ v,o=some v→∃ f a c,v = .func f a c:=fun {z} {o} hz=>by
    unfold MO at hz
    split at hz
    ·cases hz;exact⟨rfl,fun v hv=>by cases hv⟩
    ·cases hz;exact⟨rfl,fun v hv=>by cases hv;exact⟨_,_,_,rfl⟩⟩
    ·cases hz;exact⟨rfl,fun v hv=>by cases hv;exact⟨_,_,_,rfl⟩⟩
    ·cases hz
   have hne:t≠27∧t≠252∧t≠62:=by rw[ht];decide
   have ho:outT t=false:=by rw[ht];rfl
   have at':∀ a b,Bi t a b=QK a b:=fun a b=>by
    rw[MM ho];unfold Dl;rw[if_neg hne.1,if_neg hne.2.1,if_neg hne.2.2,if_pos ht]
   split at h
   ·rename_i v h1 h2
    cases h
    obtain⟨hx,hv⟩:=hf h1
    obtain⟨hy,_⟩:=hf h2
    obtain⟨f,a,c,rfl⟩:=hv v rfl
    exact fin _ _ false rfl rfl (by rw[at'];rfl) hx hy rfl
   ·rename_i h1 h2
    cases h
    obtain⟨hx,_⟩:=hf h1
    obtain⟨hy,_⟩:=hf h2
    exact fin _ _ true rfl rfl (by rw[at'];rfl) hx hy rfl
   ·cases h
  ·cases h
open Go.RowKit
noncomputable def cE:sW:=⟨Tryz.prog,gG,Kr,fun _=>none,fun _ _=>[],fun _=>none,fun _=>[]⟩
theorem aeg:(Tryz.prog.funcs.toList.all fun fn=>fn.body.isNone || !(fn.name == "runtime.NumGoroutine"))=true:=by kernel_rfl
theorem MP:wD cE eE:=by
 refine⟨QO,QN,by kernel_rfl,?_,fun g ct h=>(by cases h),fun g ct h=>(by cases h),fun g c h=>(by cases h)⟩
 intro g fn hf hb
 have h:=List.all_eq_true.1 aeg fn (Array.mem_toList_iff.2 (Array.mem_of_getElem? hf))
 rw[Bool.or_eq_true] at h
 rcases h with h|h
 ·rw[Option.isNone_iff_eq_none] at h;rw[h] at hb;cases hb
 ·simpa using h
abbrev kU:VK:=.int .u64
abbrev kI:VK:=.int .i64
abbrev kB:VK:=.int .u8
abbrev zz:Sh:=.agg [kU,kU,kU,kU]
def u64 (n:Int):Int:=uN .u64 n
theorem yK (n:Int):uV (u64 n):=by
 unfold u64;rw[uo]
 show 0≤_∧_<(18446744073709551616:Int)
 unfold IntKind.wrap IntKind.bits IntKind.signed;simp;omega
theorem QP {n:Int} (h:uV n):IntKind.u64.wrap n=n:=by
 have h1:=h.1;have h2:n<18446744073709551616:=h.2
 unfold IntKind.wrap IntKind.bits IntKind.signed;simp;omega
def ui (n:Int):Int:=r9 (sO n)
theorem QQ (n:Int):0≤ui n∧ui n≤1:=by unfold ui;cases sO n<;>decide
theorem MQ {n:Int} (h:0≤n∧n≤1):r9 (n != 0)=n:=by
 rcases(show n=0∨n=1 by omega) with rfl|rfl<;>rfl
theorem Bj (n:Int):tN kU n = .int .u64 (u64 n):=by simp only[tN,u64,uo]
theorem VG (n:Int):tN .bit n = .int .u64 (ui n):=by simp only[tN,ui,uO]
theorem VH {g:FuncId} {vs:List Value} {v:Value} (h:∀ w,(callFunc g vs.toArray).run Tryz.prog w = .ok (.value v) w):PC Tryz.prog gG g vs v:=fun w _=>by
 unfold wU;rw[h w];exact⟨rfl,rq.refl w⟩
theorem three {α:Type} {l:List α} (h:l.length=3):∃ a b c,l = [a,b,c]:=by match l,h with | [a,b,c],_=>exact⟨a,b,c,rfl⟩
theorem two {α:Type} {l:List α} (h:l.length=2):∃ a b,l = [a,b]:=by match l,h with | [a,b],_=>exact⟨a,b,rfl⟩
theorem one' {α:Type} {l:List α} (h:l.length=1):∃ a,l = [a]:=by match l,h with | [a],_=>exact⟨a,rfl⟩
theorem four {α:Type} {l:List α} (h:l.length=4):∃ a b c d,l = [a,b,c,d]:=by match l,h with | [a,b,c,d],_=>exact⟨a,b,c,d,rfl⟩
theorem eight {α:Type} {l:List α} (h:l.length=8):∃ a b c d e f g i,l = [a,b,c,d,e,f,g,i]:=by match l,h with | [a,b,c,d,e,f,g,i],_=>exact⟨a,b,c,d,e,f,g,i,rfl⟩
def EG (l:List Int):List Int:=[yF (u64 (rF l 0)) (u64 (rF l 1)) (ui (rF l 2)),vI (u64 (rF l 0)) (u64 (rF l 1)) (ui (rF l 2))]
def EH (l:List Int):List Int:=[xX (u64 (rF l 0)) (u64 (rF l 1)) (ui (rF l 2)),vo (u64 (rF l 0)) (u64 (rF l 1)) (ui (rF l 2))]
def GQ (l:List Int):List Int:=[u64 (rF l 0)*u64 (rF l 1)/(rA:Int),u64 (rF l 0)*u64 (rF l 1)%(rA:Int)]
def QR (l:List Int):List Int:=[(Lib.bitLen (u64 (rF l 0)).toNat:Int)]
theorem aeh (x y c:Int):uV (yF x y c):=by
 unfold yF;exact⟨Int.emod_nonneg _ (by decide),Int.emod_lt_of_pos _ (by decide)⟩
theorem aei (x y c:Int):uV (xX x y c):=by
 unfold xX;exact⟨Int.emod_nonneg _ (by decide),Int.emod_lt_of_pos _ (by decide)⟩
theorem aej {x y c:Int} (hx:uV x) (hy:uV y) (hc:0≤c∧c≤1):0≤vI x y c∧vI x y c≤1:=by
 have h1:=hx.1;have h2:x<18446744073709551616:=hx.2;have h3:=hy.1;have h4:y<18446744073709551616:=hy.2
 unfold vI
 show 0≤(x+y+c)/18446744073709551616∧(x+y+c)/18446744073709551616≤1
 omega
theorem aek (x y c:Int):0≤vo x y c∧vo x y c≤1:=by unfold vo;split<;>decide
theorem ael:rG Tryz.prog gG ⟨124,⟨[.sc kU,.sc kU,.sc .bit],[.sc kU,.sc .bit]⟩,EG⟩:=by
 intro l hl
 obtain⟨a,b,c,rfl⟩:=three hl
 refine⟨rfl,?_⟩
 have h:=VH (g:=124) (vs:=[_,_,_]) (Ui (u64 a) (u64 b) (ui c) (yK a) (yK b) (QQ c))
 have e1:=QP (aeh (u64 a) (u64 b) (ui c))
 have e2:=MQ (aej (yK a) (yK b) (QQ c))
 simp only[rX,ul,Sh.kinds,List.drop_succ_cons,List.drop_zero,List.length_cons,List.length_nil,Bj,VG,EG,rF,tq]
 have e3:u64 (yF (u64 a) (u64 b) (ui c))=yF (u64 a) (u64 b) (ui c):=by conv => { lhs;unfold u64 };rw[uo];exact e1
 have e4:ui (vI (u64 a) (u64 b) (ui c))=vI (u64 a) (u64 b) (ui c):=by conv => { lhs;unfold ui };rw[uO];exact e2
 rw[e3,e4];exact h
theorem aem:rG Tryz.prog gG ⟨308,⟨[.sc kU,.sc kU,.sc .bit],[.sc kU,.sc .bit]⟩,EH⟩:=by
 intro l hl
 obtain⟨a,b,c,rfl⟩:=three hl
 refine⟨rfl,?_⟩
 have h:=VH (g:=308) (vs:=[_,_,_]) (Uj (u64 a) (u64 b) (ui c) (yK a) (yK b) (QQ c))
 have e1:=QP (aei (u64 a) (u64 b) (ui c))
 have e2:=MQ (aek (u64 a) (u64 b) (ui c))
 simp only[rX,ul,Sh.kinds,List.drop_succ_cons,List.drop_zero,List.length_cons,List.length_nil,Bj,VG,EH,rF,tq]
 have e3:u64 (xX (u64 a) (u64 b) (ui c))=xX (u64 a) (u64 b) (ui c):=by conv => { lhs;unfold u64 };rw[uo];exact e1
 have e4:ui (vo (u64 a) (u64 b) (ui c))=vo (u64 a) (u64 b) (ui c):=by conv => { lhs;unfold ui };rw[uO];exact e2
 rw[e3,e4];exact h
theorem Bl {n:Int} (h:uV n):u64 n=n:=by unfold u64;rw[uo];exact QP h
theorem aen {x y:Int} (hx:uV x) (hy:uV y):uV (x*y/(rA:Int)):=by
 obtain⟨a,rfl,ha⟩:=hx.nat
 obtain⟨b,rfl,hb⟩:=hy.nat
 rw[(Uk ha hb).1];exact AU _ _
theorem aeo:rG Tryz.prog gG ⟨367,⟨[.sc kU,.sc kU],[.sc kU,.sc kU]⟩,GQ⟩:=by
 intro l hl
 obtain⟨a,b,rfl⟩:=two hl
 refine⟨rfl,?_⟩
 have h:PC Tryz.prog gG 367 [.int .u64 (u64 a),.int .u64 (u64 b)] (.tuple #[.int .u64 (u64 a*u64 b/(rA:Int)),.int .u64 (u64 a*u64 b%(rA:Int))]) :=
  JA Tryz.func367 (by kernel_rfl) (by kernel_rfl) fun w=>(acr (u64 a) (u64 b) w (yK a) (yK b)).mono fun e w' ⟨h1,h2⟩=>⟨h1,by rw[← h2];exact rq.refl w⟩
 simp only[rX,ul,Sh.kinds,List.drop_succ_cons,List.drop_zero,List.length_cons,List.length_nil,Bj,GQ,rF,tq]
 rw[Bl (aen (yK a) (yK b)),Bl (n:=u64 a*u64 b%(rA:Int)) ⟨Int.emod_nonneg _ (by decide),Int.emod_lt_of_pos _ (by decide)⟩]
 exact h
theorem bitLen_le (n : Nat) (h : n < rA) : Lib.bitLen n ≤ 64 := by
  unfold Lib.bitLen
  have key : ∀ f x, Lib.bitLenAux f x ≤ f := by
    intro f
    induction f with
    | zero => intro x; exact Nat.le_refl _
    | succ f ih => intro x; unfold Lib.bitLenAux; split
                   · omega
                   · have := ih (x / 2); omega
  exact key _ _
theorem aep:rG Tryz.prog gG ⟨342,⟨[.sc kU],[.sc kI]⟩,QR⟩:=by
 intro l hl
 obtain⟨a,rfl⟩:=one' hl
 refine⟨rfl,?_⟩
 have h:PC Tryz.prog gG 342 [.int .u64 (u64 a)] (.int .i64 (Lib.bitLen (u64 a).toNat:Int)) :=
  JA Tryz.func342 (by kernel_rfl) (by kernel_rfl) fun w=>(acs (u64 a) w (yK a)).mono fun e w' ⟨h1,h2⟩=>⟨h1,by rw[← h2];exact rq.refl w⟩
 have hb:=bitLen_le (u64 a).toNat (by have h1:=(yK a).1;have h2:=(yK a).2;omega)
 simp only[rX,ul,Bj,QR,rF,tq]
 have e:tN kI (Lib.bitLen (u64 a).toNat:Int) = .int .i64 (Lib.bitLen (u64 a).toNat:Int):=by
  simp only[tN]
  rw[wrap_i64 (by omega)]
 rw[e];exact h
def QS (l:List Int):List Int:=[r9 (LY (uN .u8 (rF l 0)) (sO (rF l 1)) (sO (rF l 2)) (uN .u8 (rF l 3)))]
theorem aeq:rG Tryz.prog gG ⟨323,⟨[.sc kB,.sc .bool,.sc .bool,.sc kB],[.sc .bool]⟩,QS⟩:=by
 intro l hl
 obtain⟨a,b,c,d,rfl⟩:=four hl
 refine⟨rfl,?_⟩
 have h:PC Tryz.prog gG 323 [.int .u8 (uN .u8 a),.bool (sO b),.bool (sO c),.int .u8 (uN .u8 d)] (.bool (LY (uN .u8 a) (sO b) (sO c) (uN .u8 d))) :=
  JA Tryz.func323 (by kernel_rfl) (by kernel_rfl) fun w=>acR _ _ _ _ w
 simp only[rX,ul,Sh.kinds,List.drop_succ_cons,List.drop_zero,List.length_cons,List.length_nil,tN,QS,rF,tq,uB,← uo,← uO]
 simp only[uO,uB] at h ⊢
 exact h
def w4 (l:List Int) (i:Nat):Nat:=(u64 (rF l i)).toNat+rA*((u64 (rF l (i+1))).toNat+rA*((u64 (rF l (i+2))).toNat+rA*(u64 (rF l (i+3))).toNat))
theorem uF (n:Int):((u64 n).toNat:Int)=u64 n∧(u64 n).toNat<rA:=by
 have h:=yK n
 exact⟨Int.toNat_of_nonneg h.1,by have:=h.2;have:=h.1;omega⟩
theorem VI (a b c d:Nat) (ha:a<rA) (hb:b<rA) (hc:c<rA) (hd:d<rA):wd (a+rA*(b+rA*(c+rA*d))) 0=a∧wd (a+rA*(b+rA*(c+rA*d))) 1=b∧wd (a+rA*(b+rA*(c+rA*d))) 2=c ∧
  wd (a+rA*(b+rA*(c+rA*d))) 3=d∧a+rA*(b+rA*(c+rA*d))<sI:=by
 have hW:rA=18446744073709551616:=rfl
 unfold wd sI rE
 rw[Nat.pow_zero,Nat.pow_one,show rA^2=rA*rA by rw[Nat.pow_two],show rA^3=rA*(rA*rA) by rw[Nat.pow_succ,Nat.pow_two,Nat.mul_comm]]
 have d1:(a+rA*(b+rA*(c+rA*d)))/rA=b+rA*(c+rA*d):=by rw[Nat.add_mul_div_left _ _ vg,Nat.div_eq_of_lt ha,Nat.zero_add]
 have d2:(b+rA*(c+rA*d))/rA=c+rA*d:=by rw[Nat.add_mul_div_left _ _ vg,Nat.div_eq_of_lt hb,Nat.zero_add]
 have d3:(c+rA*d)/rA=d:=by rw[Nat.add_mul_div_left _ _ vg,Nat.div_eq_of_lt hc,Nat.zero_add]
 rw[← Nat.div_div_eq_div_mul,← Nat.div_div_eq_div_mul,← Nat.div_div_eq_div_mul,d1,d2,d3,Nat.div_one]
 refine⟨?_,?_,?_,?_,?_⟩
 ·rw[Nat.add_mul_mod_self_left,Nat.mod_eq_of_lt ha]
 ·rw[Nat.add_mul_mod_self_left,Nat.mod_eq_of_lt hb]
 ·rw[Nat.add_mul_mod_self_left,Nat.mod_eq_of_lt hc]
 ·rw[Nat.mod_eq_of_lt hd]
 ·have ha':a<18446744073709551616:=ha
  have hb':b<18446744073709551616:=hb
  have hc':c<18446744073709551616:=hc
  have hd':d<18446744073709551616:=hd
  clear d1 d2 d3 ha hb hc hd hW
  show a+18446744073709551616*(b+18446744073709551616*(c+18446744073709551616*d))<115792089237316195423570985008687907853269984665640564039457584007913129639936
  omega
theorem Dn (l:List Int) (i:Nat):vW (w4 l i) = .agg #[.int .u64 (u64 (rF l i)),.int .u64 (u64 (rF l (i+1))),.int .u64 (u64 (rF l (i+2))),.int .u64 (u64 (rF l (i+3)))]∧w4 l i<sI:=by
 obtain⟨h0,h1,h2,h3,h4⟩:=VI _ _ _ _ (uF (rF l i)).2 (uF (rF l (i+1))).2 (uF (rF l (i+2))).2 (uF (rF l (i+3))).2
 unfold w4 vW
 rw[h0,h1,h2,h3,(uF _).1,(uF _).1,(uF _).1,(uF _).1]
 exact⟨rfl,h4⟩
def Dp (s:Nat) (b:Bool):List Int:=[wd s 0,wd s 1,wd s 2,wd s 3,r9 b]
theorem VJ (s:Nat) (b:Bool):tq (rX [zz,.sc .bool] (Dp s b)) = .tuple #[vW s,.bool b]:=by
 simp only[rX,ul,sP,Sh.kinds,List.drop_succ_cons,List.drop_zero,List.length_cons,List.length_nil,Bj,Dp,tq,Bl (AU _ _)]
 simp only[tN,uB]
def GR (l:List Int):List Int:=Dp (w4 l 0+w4 l 4) (Nat.ble sI (w4 l 0+w4 l 4))
theorem aer:rG Tryz.prog gG ⟨235,⟨[zz,zz],[zz,.sc .bool]⟩,GR⟩:=by
 intro l hl
 refine⟨rfl,?_⟩
 have h:PC Tryz.prog gG 235 [vW (w4 l 0),vW (w4 l 4)] (.tuple #[vW (w4 l 0+w4 l 4),.bool (decide (sI≤w4 l 0+w4 l 4))]) :=
  JA Tryz.func235 (by kernel_rfl) (by kernel_rfl) fun w=>acF _ _ w (Dn l 0).2 (Dn l 4).2
 obtain⟨a,b,c,d,e,f,g,i,rfl⟩:=eight hl
 unfold GR
 rw[VJ,show Nat.ble sI (w4 [a,b,c,d,e,f,g,i] 0+w4 [a,b,c,d,e,f,g,i] 4)=decide (sI≤w4 [a,b,c,d,e,f,g,i] 0+w4 [a,b,c,d,e,f,g,i] 4) by
  rw[Bool.eq_iff_iff,Nat.ble_eq,decide_eq_true_iff]]
 rw[(Dn _ 0).1,(Dn _ 4).1] at h
 simpa only[rX,ul,sP,Sh.kinds,List.drop_succ_cons,List.drop_zero,List.length_cons,List.length_nil,Bj,rF] using h
def QT (l:List Int):List Int:=Dp (w4 l 0+sI-w4 l 4) (Nat.blt (w4 l 0) (w4 l 4))
theorem aes:rG Tryz.prog gG ⟨236,⟨[zz,zz],[zz,.sc .bool]⟩,QT⟩:=by
 intro l hl
 refine⟨rfl,?_⟩
 have h:PC Tryz.prog gG 236 [vW (w4 l 0),vW (w4 l 4)] (.tuple #[vW (w4 l 0+sI-w4 l 4),.bool (decide (w4 l 0<w4 l 4))]) :=
  JA Tryz.func236 (by kernel_rfl) (by kernel_rfl) fun w=>acG _ _ w (Dn l 0).2 (Dn l 4).2
 obtain⟨a,b,c,d,e,f,g,i,rfl⟩:=eight hl
 unfold QT
 rw[VJ,show Nat.blt (w4 [a,b,c,d,e,f,g,i] 0) (w4 [a,b,c,d,e,f,g,i] 4)=decide (w4 [a,b,c,d,e,f,g,i] 0<w4 [a,b,c,d,e,f,g,i] 4) by
  rw[Bool.eq_iff_iff,Nat.blt_eq,decide_eq_true_iff]]
 rw[(Dn _ 0).1,(Dn _ 4).1] at h
 simpa only[rX,ul,sP,Sh.kinds,List.drop_succ_cons,List.drop_zero,List.length_cons,List.length_nil,Bj,rF] using h
def VL:List sj:=[
 ⟨124,⟨[.sc kU,.sc kU,.sc .bit],[.sc kU,.sc .bit]⟩,EG⟩,
 ⟨308,⟨[.sc kU,.sc kU,.sc .bit],[.sc kU,.sc .bit]⟩,EH⟩,
 ⟨367,⟨[.sc kU,.sc kU],[.sc kU,.sc kU]⟩,GQ⟩,
 ⟨235,⟨[zz,zz],[zz,.sc .bool]⟩,GR⟩,
 ⟨236,⟨[zz,zz],[zz,.sc .bool]⟩,QT⟩,
 ⟨323,⟨[.sc kB,.sc .bool,.sc .bool,.sc kB],[.sc .bool]⟩,QS⟩,
 ⟨342,⟨[.sc kU],[.sc kI]⟩,QR⟩]
open Go.RowKit
def si (L:List sj):uI:=fun g l=>match vS L g with|some e=>e.F l|none=>[]
theorem Bn {L:List sj} {g:FuncId} {e:sj} (h:vS L g=some e):si L g=e.F:=by funext l;unfold si;rw[h]
def Dq (L:List sj):FuncId→Option Ct:=fun g=>match vS L g with|some e=>some e.ct|none=>none
noncomputable def ctx (L:List sj):sW:=⟨Tryz.prog,gG,Kr,Dq L,si L,fun _=>none,fun _=>[]⟩
theorem sM {L:List sj} (h:∀ e∈L,rG Tryz.prog gG e):vC (ctx L) eE:=by
  have key:∀ (g:FuncId) (ct:Ct),(ctx L).ct g=some ct→∀ l:List Int,l.length=(ru ct.a).length→((ctx L).Φ g l).length=(ru ct.r).length∧PC Tryz.prog gG g (rX ct.a l) (tq (rX ct.r ((ctx L).Φ g l))):=by
   intro g ct hct l hl
   simp only[ctx,Dq,si] at hct ⊢
   cases hf:vS L g with
   | some e =>
     rw[hf] at hct
     simp only[Option.some.injEq] at hct;subst hct
     obtain⟨h1,h2⟩:=GL hf
     subst h2
     exact h e h1 l hl
   | none=>rw[hf] at hct;cases hct
  exact⟨⟨QO,QN,MP.mix,MP.nm,fun g ct hct l hl _=>(key g ct hct l hl).2,fun g ct hn=>(by cases hn),fun g c hc=>(by cases hc)⟩,fun g ct hct l hl=>(key g ct hct l hl).1,fun g ct hn=>(by cases hn),fun g c hc=>(by cases hc)⟩
def zS:List uu→Nat→Option uu
 | [],_=>none
 | x::l,id=>match Nat.beq x.c.id id with|true=>some x|false=>zS l id
def EI:List uu→FuncId→List vP
 | [],_=>[]
 | x::l,g=>match Nat.beq x.g g with|true=>x.c::EI l g|false=>EI l g
def uf (L M:List sj) (S:List uu):uI:=fun g l=>match zS S g with
 | some e=>e.F l
 | none=>match vS M g with|some e=>e.F l|none=>si L g l
theorem VM {L M:List sj} {S:List uu} {g:Nat} {e:uu} (h:zS S g=some e):uf L M S g=e.F:=by funext l;unfold uf;rw[h]
theorem VN {L M:List sj} {S:List uu} {g:Nat} {e:sj} (h0:zS S g=none) (h:vS M g=some e):uf L M S g=e.F:=by funext l;unfold uf;rw[h0];simp only[];rw[h]
theorem Kt {L M:List sj} {S:List uu} {g:Nat} {e:sj} (h0:zS S g=none) (h1:vS M g=none) (h:vS L g=some e):uf L M S g=e.F:=by funext l;unfold uf;rw[h0];simp only[];rw[h1];simp only[];rw[Bn h]
noncomputable def su (L M:List sj) (S:List uu):sW:=⟨Tryz.prog,gG,Kr,Dq L,uf L M S,Dq M,EI S⟩
def Ku (S:List uu) (g:Nat):Bool:=match zS S g with|some _=>false|none=>true
def QU (M:List sj) (g:Nat):Bool:=match vS M g with|some _=>false|none=>true
def MR (M:List sj) (S:List uu):List sj→Bool
 | []=>true
 | x::l=>sV (Ku S x.g) (sV (QU M x.g) (MR M S l))
def MS (S:List uu):List sj→Bool
 | []=>true
 | x::l=>sV (Ku S x.g) (MS S l)
def MU:List uu→Bool
 | []=>true
 | x::l=>sV (Ku l x.c.id) (MU l)
theorem QV {S:List uu} {g:Nat} (h:Ku S g=true):zS S g=none:=by
 unfold Ku at h
 cases hf:zS S g with
 | none=>rfl
 | some e=>rw[hf] at h;cases h
theorem aet {M:List sj} {g:Nat} (h:QU M g=true):vS M g=none:=by
 unfold QU at h
 cases hf:vS M g with
 | none=>rfl
 | some e=>rw[hf] at h;cases h
theorem QW {M:List sj} {S:List uu} : ∀ {L:List sj},MR M S L=true→∀ e∈L,zS S e.g=none∧vS M e.g=none
 | [],_,e,he=>by cases he
 | x::l,h,e,he=>by
  have h:=sF h;have h2:=sF h.2
  rcases List.mem_cons.1 he with rfl|he
  ·exact⟨QV h.1,aet h2.1⟩
  ·exact QW h2.2 e he
theorem QX {S:List uu} : ∀ {L:List sj},MS S L=true→∀ e∈L,zS S e.g=none
 | [],_,e,he=>by cases he
 | x::l,h,e,he=>by
  have h:=sF h
  rcases List.mem_cons.1 he with rfl|he
  ·exact QV h.1
  ·exact QX h.2 e he
theorem QY:∀ {S:List uu},MU S=true→∀ e∈S,zS S e.c.id=some e
 | [],_,e,he=>by cases he
 | x::l,h,e,he=>by
  have h:=sF h
  simp only[zS]
  rcases List.mem_cons.1 he with rfl|he
  ·rw[Nat.beq_refl]
  ·have h1:=QY h.2 e he
   cases hb:Nat.beq x.c.id e.c.id with
   | true =>
    have h2:=QV h.1
    rw[sU.1 hb,h1] at h2;cases h2
   | false=>exact h1
theorem MV:∀ {S:List uu} {g:FuncId} {c:vP},c∈EI S g→∃ e∈S,e.g=g∧e.c=c
 | [],g,c,h=>by cases h
 | x::l,g,c,h=>by
  simp only[EI] at h
  split at h
  ·rename_i hb
   rcases List.mem_cons.1 h with rfl|h
   ·exact⟨x,List.mem_cons_self,sU.1 hb,rfl⟩
   ·obtain⟨e,h1,h2⟩:=MV h;exact⟨e,List.mem_cons_of_mem _ h1,h2⟩
  ·obtain⟨e,h1,h2⟩:=MV h;exact⟨e,List.mem_cons_of_mem _ h1,h2⟩
theorem QZ {L M:List sj} {S:List uu} (hL:∀ e∈L,yg Tryz.prog gG e) (hM:∀ e∈M,QD Tryz.prog gG e) (hS:∀ e∈S,QG Tryz.prog gG e) (h:sV (MR M S L) (sV (MS S M) (MU S))=true):wD (su L M S) eE:=by
 have h:=sF h;have h2:=sF h.2
 refine⟨QO,QN,MP.mix,MP.nm,fun g ct hct l hl hF=>?_,fun g ct hct=>?_,fun g c hc l hl hF=>?_⟩
 ·simp only[su,Dq] at hct hF ⊢
  cases hf:vS L g with
  | some e =>
   rw[hf] at hct
   simp only[Option.some.injEq] at hct;subst hct
   obtain⟨h1,h3⟩:=GL hf
   subst h3
   obtain⟨h4,h5⟩:=QW h.1 e h1
   rw[Kt h4 h5 hf] at hF ⊢
   exact(hL e h1).ok l hl hF
  | none=>rw[hf] at hct;cases hct
 ·simp only[su,Dq] at hct ⊢
  cases hf:vS M g with
  | some e =>
   rw[hf] at hct
   simp only[Option.some.injEq] at hct;subst hct
   obtain⟨h1,h3⟩:=GL hf
   subst h3
   have h4:=QX h2.1 e h1
   refine⟨(hM e h1).two,fun l hl hF=>?_⟩
   rw[VN h4 hf] at hF ⊢
   exact(hM e h1).ok l hl hF
  | none=>rw[hf] at hct;cases hct
 ·obtain⟨e,h1,h3,h4⟩:=MV (show c∈EI S g from hc)
  subst h3;subst h4
  have h5:=QY h2.2 e h1
  simp only[su] at hF ⊢
  rw[VM h5] at hF ⊢
  exact(hS e h1).ok l hl hF
theorem Ak {L M:List sj} {S:List uu} (hL:∀ e∈L,rG Tryz.prog gG e) (hM:∀ e∈M,Kn Tryz.prog gG e) (hS:∀ e∈S,Bh Tryz.prog gG e) (h:sV (MR M S L) (sV (MS S M) (MU S))=true):vC (su L M S) eE:=by
 refine⟨QZ (fun e he=>(hL e he).c) (fun e he=>(hM e he).c) (fun e he=>(hS e he).c) h,?_,?_,?_⟩
 all_goals have h:=sF h
 all_goals have h2:=sF h.2
 ·intro g ct hct l hl
  simp only[su,Dq] at hct ⊢
  cases hf:vS L g with
  | some e =>
   rw[hf] at hct
   simp only[Option.some.injEq] at hct;subst hct
   obtain⟨h1,h3⟩:=GL hf
   subst h3
   obtain⟨h4,h5⟩:=QW h.1 e h1
   rw[Kt h4 h5 hf]
   exact(hL e h1 l hl).1
  | none=>rw[hf] at hct;cases hct
 ·intro g ct hct l hl
  simp only[su,Dq] at hct ⊢
  cases hf:vS M g with
  | some e =>
   rw[hf] at hct
   simp only[Option.some.injEq] at hct;subst hct
   obtain⟨h1,h3⟩:=GL hf
   subst h3
   rw[VN (QX h2.1 e h1) hf]
   exact((hM e h1).ok l hl).1
  | none=>rw[hf] at hct;cases hct
 ·intro g c hc l hl
  obtain⟨e,h1,h3,h4⟩:=MV (show c∈EI S g from hc)
  subst h3;subst h4
  have h5:=QY h2.2 e h1
  simp only[su]
  rw[VM h5]
  exact((hS e h1).ok l hl).1
def M0:List sj:=[]
theorem Cf:∀ e∈M0,Kn Tryz.prog gG e:=fun e he=>by cases he
def S0:List uu:=[]
theorem VO:∀ e∈S0,Bh Tryz.prog gG e:=fun e he=>by cases he
def E0:List sj:=VL
theorem xq:∀ e∈E0,rG Tryz.prog gG e:=by
 intro e he
 simp only[E0,VL,List.mem_cons,List.not_mem_nil,or_false] at he
 rcases he with rfl|he
 ·exact ael
 rcases he with rfl|he
 ·exact aem
 rcases he with rfl|he
 ·exact aeo
 rcases he with rfl|he
 ·exact aer
 rcases he with rfl|he
 ·exact aes
 rcases he with rfl|he
 ·exact aeq
 ·subst he;exact aep
end Go.Proofs.YtbembkamcdlhbaaGreatDoor
