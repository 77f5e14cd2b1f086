import Derived.Test.YtbembkamcdlhbaaGreatDoorZBSb
import Derived.Test.YtbembkamcdlhbaaGreatDoorZCSb
set_option linter.unusedSimpArgs false
set_option linter.unusedVariables false
set_option maxRecDepth 100000
namespace Go.Proofs.YtbembkamcdlhbaaGreatDoor
open Go.RowKit
section
variable {G:rJ} {w:World} {s:ry}
end
def MJ:List vJ→Nat→Option Ct
 | [],_=>none
 | c::L,id=>match Nat.beq c.id id with|true=>some ⟨c.a ++ [.agg c.ks],c.r⟩|false=>MJ L id
theorem Vy:∀ {L:List vJ} {id:Nat} {c:Ct},MJ L id=some c→∃ s∈L,s.id=id∧c=⟨s.a ++ [.agg s.ks],s.r⟩
 | [],id,c,h=>by cases h
 | s::L,id,c,h=>by
  simp only[MJ] at h
  split at h
  ·rename_i hb
   cases h
   exact⟨s,List.mem_cons_self,sN.1 hb,rfl⟩
  ·obtain⟨s',h1,h2⟩:=Vy h
   exact⟨s',List.mem_cons_of_mem _ h1,h2⟩
def Ex (C:sP):FuncId→Option Ct:=fun g=>match C.nt g with|some c=>some c|none=>match C.ct g with|some c=>some c|none=>MJ (C.sl (g%1000000)) g
theorem adT {C:sP} {E:sV} (hC:uY C E) {f:FuncId} {c:Ct} (h:Ex C f=some c) {l:List Int} (hl:l.length=(q9 c.a).length):(C.Φ f l).length=(q9 c.r).length:=by
 unfold Ex at h
 split at h
 ·rename_i c' hc;cases h;exact hC.nt f c hc l hl
 ·split at h
  ·rename_i c' hc;cases h;exact hC.ct f c hc l hl
  ·obtain⟨s,h1,rfl,rfl⟩:=Vy h
   exact hC.sl _ s h1 l (by rw[hl];simp[q9,Sh.kinds])
structure Kh (P:Program) (G:rJ) (e:rZ):Prop where
 two:yQ (q9 e.ct.r)≤2
 ok:∀ l:List Int,l.length=(q9 e.ct.a).length→(e.F l).length=(q9 e.ct.r).length∧MB P G e.g e.ct l (e.F l)
structure QA (P:Program) (G:rJ) (e:rZ):Prop where
 two:yQ (q9 e.ct.r)≤2
 ok:∀ l:List Int,l.length=(q9 e.ct.a).length→(e.F l).length=(q9 e.ct.r).length→MB P G e.g e.ct l (e.F l)
theorem Kh.c {P:Program} {G:rJ} {e:rZ} (h:Kh P G e):QA P G e:=⟨h.two,fun l hl _=>(h.ok l hl).2⟩
theorem Dc {C:sP} {E:sV} (hC:uY C E) {ct:Ct} : ∀ {t:qZ SV} {l:List Int},yS (Ex C) ct l.length t=true→okF C.Φ ct t l
 | .leaf a,l,h=>by
  obtain⟨xs,hx⟩:=Option.isSome_iff_exists.1 (show(wO ct.r (xI ct.r a)).isSome=true from h)
  exact⟨a,l,xs,rfl,hx⟩
 | .ite c a b,l,h=>by
  have h:=su h;have h2:=su h.2
  unfold okF
  simp only[uX]
  cases sJ (c.ev l) with
  | true=>exact Dc hC h2.1
  | false=>exact Dc hC h2.2
 | .call f args base m t,l,h=>by
  simp only[yS] at h
  split at h
  ·rename_i c hc
   have h:=su h;have h2:=su h.2;have h3:=su h2.2;have h4:=su h3.2
   have e1:=sN.1 h3.1;have e2:=sN.1 h4.1
   unfold okF
   simp only[uX,zo]
   have hl:=adT hC hc (l:=args.map (X.den (rC l))) (by rw[List.length_map];exact e1)
   rw[hl,e2]
   simp only[Nat.beq_refl]
   refine Dc hC ?_
   rw[List.length_append,hl,← e2];exact h4.2
  ·cases h
 | .stuck _,l,h=>by cases h
theorem AZ {C:sP} {E:sV} (hC:uY C E) (n:Nat) {g:FuncId} {ct:Ct} {t:qZ SV} (h:rU C n g (rH ct.a (rG 0 (q9 ct.a))) (q9 ct.a).length=t) (hs:yS (Ex C) ct (q9 ct.a).length t=true) :
  rD C.P C.G ⟨g,ct,rE C.Φ ct t⟩:=fun l hl=>Vx hC.ok h (Ew hs) l hl (Dc hC (by rw[hl];exact hs))
open Go.RowKit
def GG (c:vJ):List VK:=q9 c.a++c.ks
def GH (C:sP) (fuel:Nat) (g:FuncId) (c:vJ):qZ SV :=
 match C.P.funcs[g]? with
 | none=>.stuck "no such function"
 | some fn=>match fn.body with
  | none=>.stuck "no body"
  | some cd=>match Nat.ble (c.a.length+1) fn.ntmps with
   | true=>uu (q9 c.a).length fun m=>uu (m+c.ks.length) fun nv=>(exec C fuel cd ⟨1,uS (rH c.a (rG 0 (q9 c.a)) ++ [.sl 0 0 c.n c.n]) fn.ntmps,[(0,⟨zM c.ks (rG m c.ks),some c.t⟩)],nv,[],[]⟩).bind fun r=>match tK 0 r.2.dt with
    | true=>.stuck "the slice is turned"
    | false=>match r.1 with
     | .normal=>(match vK C.P r.2.T r.2.H fn.results.toList with|some rs=>.leaf (tJ rs)|none=>.stuck "results")
     | .ret=>(match vK C.P r.2.T r.2.H fn.results.toList with|some rs=>.leaf (tJ rs)|none=>.stuck "results")
     | _=>.stuck "end"
   | false=>.stuck "arguments"
theorem QB (s:ry):∀ (a b k:Nat),vH s k (a+b)=vH s k a++vH s (k+a) b
 | 0,b,k=>by rw[Nat.zero_add];rfl
 | a+1,b,k=>by rw[show a+1+b=(a+b)+1 by omega,vH,QB s a b (k+1),vH,show k+1+a=k+(a+1) by omega];rfl
theorem adU {C:sP} {E:sV} {s:ry} (hC:wu C E) {n:Nat} {g:FuncId} {c:vJ} {a:SV} {l:List Int} {v:Value} (h:(GH C n g c).path C.Φ s=some a) (hl:vH s 0 (GG c).length=l) (hv:a.den s = .v v) :
  ∀ w b,Gl C.G w→(∀ x∈C.G,x.1≠b)→w.heap[b]? = some (.cells (sK c.ks (l.drop (q9 c.a).length)).toArray c.t (0,0)) →
  wM C.P g (rT c.a l ++ [Value.slice (some ⟨b,0,none⟩) c.n c.n]).toArray w fun e w'=>e = .returned v∧q8 w w':=by
 intro w b hG hgb hw
 unfold GH at h
 split at h
 ·cases h
 ·rename_i fn hf
  split at h
  ·cases h
  ·rename_i cd hb
   split at h
   ·rename_i hle
    rw[tZ,tZ] at h
    obtain⟨⟨ex,st⟩,h1,h2⟩:=qZ.path_bind_some h
    have sp:=(Gy (E:=E) (s:=s) hC n).1 _ _ _ _ h1 (fun x hx=>by cases hx)
    have hle:=Nat.le_of_ble_eq_true hle
    have hk:(GG c).length=(q9 c.a).length+c.ks.length:=by unfold GG;rw[List.length_append]
    rw[hk,QB,Nat.zero_add] at hl
    have l1:(vH s 0 (q9 c.a).length).length=(q9 c.a).length:=BG _ _ _
    have hd1:l.drop (q9 c.a).length=vH s (q9 c.a).length c.ks.length:=by
     rw[← hl,List.drop_append_of_le_length (by omega),List.drop_of_length_le (by omega)];rfl
    have hd2:rT c.a l=rT c.a (vH s 0 (q9 c.a).length):=by rw[← hl,Qr _ _ _ l1]
    rw[hd1] at hw
    rw[hd2]
    obtain⟨v1,v2⟩:=AX s (q9 c.a) 0
    obtain⟨u1,u2⟩:=AX s c.ks (q9 c.a).length
    have a1:=BO v1 v2
    have b1:=Mx u1 u2
    have alen:(rH c.a (rG 0 (q9 c.a))).length=c.a.length:=by rw[← zi s,a1,List.length_map,Gz]
    let e:Env:=⟨fun _=>b,fun _=>undef⟩
    let B:sw:=⟨[b],[0],e⟩
    let o:SO:=⟨zM c.ks (rG (q9 c.a).length c.ks),some c.t⟩
    have hH:∀ k x,SH.den s [(0,o)] k=some x→k=0∧x = .own (SV.dens s o.c) c.t:=by
     intro k x hx
     unfold SH.den at hx
     simp only[hget] at hx
     split at hx
     ·rename_i hb0
      have:=sN.1 hb0
      simp only[Option.map_some,Option.some.injEq] at hx
      exact⟨this.symm,by rw[← hx];exact SO.den_own s rfl⟩
     ·cases hx
    have hlt:b<w.heap.size:=(Array.getElem?_eq_some_iff.1 hw).1
    have h00:SH.den s [(0,o)] 0=some (.own (SV.dens s o.c) c.t):=SH.den_get rfl rfl
    have R:rQ C.G w B e (SH.den s [(0,o)]) w:=by
     refine⟨rfl,rfl,rfl,Nat.le_refl _,fun _ _ _=>rfl,hG,?_,?_,?_,?_,?_,?_,?_,?_,?_,fun k es hk=>by have:=(hH k _ hk).2;cases this⟩
     ·intro k c' t hk
      obtain⟨rfl,hx⟩:=hH k _ hk
      simp only[AO.own.injEq] at hx
      rw[hx.1,hx.2,b1,vE];exact hw
     ·intro k c' t hk;exact .inr (by simp[B,e])
     ·intro k c' t hk x hx;exact hgb x hx
     ·intro k c' t k' c'' t' hk hk' _;rw[(hH k _ hk).1,(hH k' _ hk').1]
     ·intro k n' l' hk;have:=(hH k _ hk).2;cases this
     ·intro k n' l' _ _ _ hk;have:=(hH k _ hk).2;cases this
     ·intro k x hk r hr
      obtain⟨_,rfl⟩:=hH k x hk
      rw[AO.refs,b1,Ay] at hr;simp at hr
     ·intro k hk
      have:k=0:=by simpa [B] using hk
      subst this
      exact⟨by rw[h00];simp,rfl,rfl⟩
     ·intro k n' l' hk;have:=(hH k _ hk).2;cases this
    have hbound:yL (SH.den s [(0,o)]) 1:=by
     intro k hk
     cases hx:SH.den s [(0,o)] k with
     | none=>rfl
     | some x=>have:=(hH k x hx).1;omega
    have hlen:(uS (rH c.a (rG 0 (q9 c.a)) ++ [.sl 0 0 c.n c.n]) fn.ntmps).length=fn.ntmps:=Ep _ _ (by rw[List.length_append,alen];simpa using hle)
    have hA:=sp.aw w B
    simp only[hlen,J9] at hA
    have hx:tK 0 st.dt=false∧(ex = .normal∨ex = .ret)∧∃ rs,vK C.P st.T st.H fn.results.toList=some rs∧tJ rs=a:=by
     simp only at h2
     split at h2
     ·cases h2
     ·rename_i hdt
      refine⟨hdt,?_⟩
      rcases Kc h2 with⟨rfl,h3⟩|⟨rfl,h3⟩
      ·split at h3
       ·rename_i rs hrs;cases h3;exact⟨.inl rfl,rs,hrs,rfl⟩
       ·cases h3
      ·split at h3
       ·rename_i rs hrs;cases h3;exact⟨.inr rfl,rs,hrs,rfl⟩
       ·cases h3
    obtain⟨hdt,hx,rs,hrs,he⟩:=hx
    refine CP hf (hC.nm g fn hf (by rw[hb];rfl)) (by rw[hb];rfl) ?_
    have hcalls:=OV (E:=E) (args:=SV.dens s (rH c.a (rG 0 (q9 c.a)) ++ [.sl 0 0 c.n c.n])) (R:=fun r H=>H=SH.den s st.H∧r = .v v) hf hb (by rw[zi,List.length_append,alen];simpa using hle) R hbound (fun x hx r hr=>by
     rw[CZ,a1] at hx
     rcases List.mem_append.1 hx with hx|hx
     ·obtain⟨y,_,rfl⟩:=List.mem_map.1 hx;simp[AV.refs] at hr
     ·simp[SV.dens,SV.den] at hx;subst hx
      simp[AV.refs] at hr;subst hr
      rw[h00];simp) (by
     refine AW.mono (show AW _ cd (wP s ex st) _ _ _ from hA) ?_
     rintro x N T H ⟨rfl,rfl,rfl,rfl⟩
     have hres:=Er (G:=C.G) s hrs
     have hrv:zX (SV.dens s rs) = .v v:=by rw[Gv,he,hv]
     rcases hx with rfl|rfl
     ·exact⟨_,hres,rfl,hrv⟩
     ·exact⟨_,hres,rfl,hrv⟩)
    have hvals:AV.vals e (SV.dens s (rH c.a (rG 0 (q9 c.a)) ++ [.sl 0 0 c.n c.n]))=rT c.a (vH s 0 (q9 c.a).length) ++ [Value.slice (some ⟨b,0,none⟩) c.n c.n]:=by
     rw[CZ,Jq,a1,vE];rfl
    rw[hvals] at hcalls
    refine hcalls.mono ?_
    rintro en w' ⟨r,e2,H2,rfl,⟨rfl,rfl⟩,R2⟩
    refine⟨rfl,R2.os,R2.tape,R2.output,R2.size,fun k hk=>?_⟩
    by_cases hkb:k=b
    ·subst hkb
     have hg:hget st.H 0=some o:=(sp.dt 0 hdt).2.trans rfl
     have hown:=R2.own 0 _ _ (SH.den_get hg rfl)
     have henv:=(R2.env 0 (by simp[B])).2.1
     have henv:e2.blk 0=k:=henv
     rw[henv,b1,vE] at hown
     rw[hown,hw]
    ·exact R2.old k hk (by simpa [B] using hkb)
   ·cases h
structure uk where
 g:FuncId
 c:vJ
 F:List Int→List Int
structure Ba (P:Program) (G:rJ) (e:uk):Prop where
 ok:∀ l:List Int,l.length=(GG e.c).length→(e.F l).length=(q9 e.c.r).length∧MC P G e.g e.c l (e.F l)
theorem QC {C:sP} {E:sV} (hC:uY C E) (n:Nat) {g:FuncId} {c:vJ} {t:qZ SV} (h:GH C n g c=t) (hs:yS (Ex C) ⟨c.a,c.r⟩ (GG c).length t=true) :
  Ba C.P C.G ⟨g,c,rE C.Φ ⟨c.a,c.r⟩ t⟩:=by
 refine⟨fun l hl=>?_⟩
 obtain ho:=Dc hC (ct:=⟨c.a,c.r⟩) (t:=t) (l:=l) (by rw[hl];exact hs)
 refine⟨MF ho,?_⟩
 obtain⟨a,l',xs,h1,h2⟩:=ho
 obtain⟨h3,m,rfl⟩:=Ev h1 (by rw[hl];exact Ew hs)
 rw[← h] at h3
 have hf:=Db (rC (l++m)) h2
 have hF:rE C.Φ ⟨c.a,c.r⟩ t l=xs.map (X.den (rC (l++m))):=by unfold rE;simp only[h1,h2,zo,id]
 have hv:=MH hf.1 (Gz _ _)
 have:=adU hC.ok h3 (l:=l) (by rw[← hl];exact MG l m) hv
 intro w b hG hgb hw
 show wM C.P g _ w fun e w'=>e = .returned (sS (rT c.r (rE C.Φ ⟨c.a,c.r⟩ t l)))∧q8 w w'
 rw[hF]
 exact this w b hG hgb hw
structure QD (P:Program) (G:rJ) (e:uk):Prop where
 ok:∀ l:List Int,l.length=(GG e.c).length→(e.F l).length=(q9 e.c.r).length→MC P G e.g e.c l (e.F l)
theorem Ba.c {P:Program} {G:rJ} {e:uk} (h:Ba P G e):QD P G e:=⟨fun l hl _=>(h.ok l hl).2⟩
open Go.RowKit
def QE:Value→Value→Option Bool
 | .agg xs,.agg ys=>match xs.toList,ys.toList with
  | [.int .u64 a,.int .u64 b],[.int .u64 c,.int .u64 d]=>some (a==c&&b==d)
  | _,_=>none
 | _,_=>none
def QF:Value→Value→Option Bool
 | .agg xs,.agg ys=>match xs.toList,ys.toList with
  | [.int .u64 a,.int .u64 b,.int .u64 c,.int .u64 d],[.int .u64 a',.int .u64 b',.int .u64 c',.int .u64 d']=>some (a==a'&&(b==b'&&(c==c'&&d==d')))
  | _,_=>none
 | _,_=>none
def QG:Value→Value→Option Bool
 | .agg xs,.agg ys=>match xs.toList,ys.toList with
  | [.int .u64 a,.int .u64 b,.int .u8 c],[.int .u64 a',.int .u64 b',.int .u8 c']=>some ((a==a'&&b==b')&&c==c')
  | _,_=>none
 | _,_=>none
def QH:Value→Value→Option Bool
 | .func _ _ _,.nilFunc=>some false
 | .nilFunc,.nilFunc=>some true
 | _,_=>none
def Ki:Value→Value→Option Bool
 | .agg xs,.agg ys=>match xs.toList,ys.toList with
  | [.int .i64 a,.int .u64 b,.int .u64 c,.int .u8 d],[.int .i64 a',.int .u64 b',.int .u64 c',.int .u8 d']=>some (a==a'&&((b==b'&&c==c')&&d==d'))
  | _,_=>none
 | _,_=>none
def outT (t:TypeId):Bool :=
 Nat.beq t 39 ||
  false
def De (t:TypeId) (x y:Value):Option Bool :=
 if t=27 then QE x y else if t=252 then QF x y else if t=62 then QG x y else if t=46 then QH x y else none
def Bb (t:TypeId) (x y:Value):Option Bool:=match outT t with|true=>Ki x y|false=>De t x y
def eE:sV:=fun op t x y=>match op with
 | .eql=>match Bb t x y with|some b=>some (.bool b)|none=>none
 | .neq=>match Bb t x y with|some b=>some (.bool (!b))|none=>none
 | _=>none
theorem Kj (w:World) {k:IntKind} {e:TypeId} (hu:Tryz.prog.underlying e=some (.int k)) (xs:Array Value) (i:Nat) (v:Value) (h:xs[i]? = some v):(part e xs i).run Tryz.prog w = .ok v w:=by
 simp[part,isAgg,run_underlying hu,h]
theorem adV:(Tryz.prog.fieldsOf 27).toList.map (fun f=>(f.name != "_",f.offset,f.type)) = [(true,0,25),(true,1,25)]:=by kernel_rfl
theorem adW:(Tryz.prog.fieldsOf 62).toList.map (fun f=>(f.name != "_",f.offset,f.type)) = [(true,0,27),(true,2,33)]:=by kernel_rfl
theorem QI (w:World) (n:Nat) (a b c d:Int):(Op.equalIn (n+2) 27 (.agg #[.int .u64 a,.int .u64 b]) (.agg #[.int .u64 c,.int .u64 d])).run Tryz.prog w = .ok (a==c&&b==d) w:=by
 have hu:Tryz.prog.underlying 25=some (.int .u64):=by kernel_rfl
 rw[run_equalIn_struct w (n+1) _ _ _ (by kernel_rfl) (by kernel_rfl)]
 obtain⟨f0,f1,hf,h0,h1⟩:∃ f0 f1:Field,(Tryz.prog.fieldsOf 27).toList = [f0,f1]∧(f0.name ≠ "_" ∧ f0.offset=0∧f0.type=25)∧(f1.name ≠ "_" ∧ f1.offset=1∧f1.type=25):=by
  have:=adV
  match hl:(Tryz.prog.fieldsOf 27).toList with
  | [f0,f1]=>rw[hl] at this;simp at this;exact⟨f0,f1,rfl,⟨by simpa using this.1.1,this.1.2.1,this.1.2.2⟩,⟨by simpa using this.2.1,this.2.2.1,this.2.2.2⟩⟩
  | []=>rw[hl] at this;simp at this
  | [_]=>rw[hl] at this;simp at this
  | _::_::_::_=>rw[hl] at this;simp at this
 rw[hf]
 have p0 (x y:Value):(part 25 #[x,y] 0).run Tryz.prog w = .ok x w:=Kj w hu _ _ _ rfl
 have p1 (x y:Value):(part 25 #[x,y] 1).run Tryz.prog w = .ok y w:=Kj w hu _ _ _ rfl
 have q (x y:Int):(Op.equalIn (n+1) 25 (.int .u64 x) (.int .u64 y)).run Tryz.prog w = .ok (x==y) w:=run_equalIn_int w n _ .u64 .u64 x y hu
 simp only[Op.eqFields,h0.1,h0.2.1,h0.2.2,h1.1,h1.2.1,h1.2.2,ne_eq,not_true_eq_false,not_false_eq_true,if_true,Sem.run_bind,p0,p1,q,Result.andThen_ok]
 cases (a==c)<;>cases hbd:(b==d)<;>simp[p1,q,hbd,Op.eqFields]
theorem adX (w:World) (a b a' b' c c':Int):(Op.equalIn 10000 62 (.agg #[.int .u64 a,.int .u64 b,.int .u8 c]) (.agg #[.int .u64 a',.int .u64 b',.int .u8 c'])).run Tryz.prog w = .ok ((a==a'&&b==b')&&c==c') w:=by
 have hu:Tryz.prog.underlying 33=some (.int .u8):=by kernel_rfl
 rw[run_equalIn_struct w 9999 _ _ _ (by kernel_rfl) (by kernel_rfl)]
 obtain⟨f0,f1,hf,h0,h1⟩:∃ f0 f1:Field,(Tryz.prog.fieldsOf 62).toList = [f0,f1]∧(f0.name ≠ "_" ∧ f0.offset=0∧f0.type=27)∧(f1.name ≠ "_" ∧ f1.offset=2∧f1.type=33):=by
  have:=adW
  match hl:(Tryz.prog.fieldsOf 62).toList with
  | [f0,f1]=>rw[hl] at this;simp at this;exact⟨f0,f1,rfl,⟨by simpa using this.1.1,this.1.2.1,this.1.2.2⟩,⟨by simpa using this.2.1,this.2.2.1,this.2.2.2⟩⟩
  | []=>rw[hl] at this;simp at this
  | [_]=>rw[hl] at this;simp at this
  | _::_::_::_=>rw[hl] at this;simp at this
 rw[hf]
 have p0 (x y z:Value):(part 27 #[x,y,z] 0).run Tryz.prog w = .ok (.agg #[x,y]) w:=by
  simp[part,FD (P:=Tryz.prog) (t:=27) (b:=true) (by kernel_rfl),run_sizeOf (P:=Tryz.prog) (t:=27) (s:=2) (by kernel_rfl)]
 have p1 (x y z:Value):(part 33 #[x,y,z] 2).run Tryz.prog w = .ok z w:=Kj w hu _ _ _ rfl
 have q (x y:Int):(Op.equalIn 9999 33 (.int .u8 x) (.int .u8 y)).run Tryz.prog w = .ok (x==y) w:=run_equalIn_int w 9998 _ .u8 .u8 x y hu
 have qb:=QI w 9997 a b a' b'
 simp only[Op.eqFields,h0.1,h0.2.1,h0.2.2,h1.1,h1.2.1,h1.2.2,ne_eq,not_true_eq_false,not_false_eq_true,if_true,Sem.run_bind,p0,p1,q,qb,Result.andThen_ok]
 cases (a==a'&&b==b')<;>cases hcd:(c==c')<;>simp[p1,q,hcd,Op.eqFields]
theorem adY (w:World) (a b c d a' b' c' d':Int):(Op.equalIn 10000 252 (.agg #[.int .u64 a,.int .u64 b,.int .u64 c,.int .u64 d]) (.agg #[.int .u64 a',.int .u64 b',.int .u64 c',.int .u64 d'])).run Tryz.prog w = .ok (a==a'&&(b==b'&&(c==c'&&d==d'))) w:=by
 have hu:Tryz.prog.underlying 25=some (.int .u64):=by kernel_rfl
 obtain⟨i,hi⟩:∃ i,Tryz.prog.info? 25=some i:=Option.isSome_iff_exists.1 (by kernel_rfl)
 rw[run_equalIn_array (P:=Tryz.prog) (w:=w) (d:=9999) (e:=25) (n:=4) _ _ (by kernel_rfl) hi]
 rw[show Tryz.prog.cellsOf 25=1 by kernel_rfl,show List.range 4 = [0,1,2,3] by decide]
 have p0 (x0 x1 x2 x3:Value):(part 25 #[x0,x1,x2,x3] 0).run Tryz.prog w = .ok x0 w:=LU w hu _ _ _ rfl
 have p1 (x0 x1 x2 x3:Value):(part 25 #[x0,x1,x2,x3] 1).run Tryz.prog w = .ok x1 w:=LU w hu _ _ _ rfl
 have p2 (x0 x1 x2 x3:Value):(part 25 #[x0,x1,x2,x3] 2).run Tryz.prog w = .ok x2 w:=LU w hu _ _ _ rfl
 have p3 (x0 x1 x2 x3:Value):(part 25 #[x0,x1,x2,x3] 3).run Tryz.prog w = .ok x3 w:=LU w hu _ _ _ rfl
 have q (x y:Int):(Op.equalIn 9999 25 (.int .u64 x) (.int .u64 y)).run Tryz.prog w = .ok (x==y) w:=run_equalIn_int w 9998 _ .u64 .u64 x y hu
 simp only[Op.eqItems,Sem.run_bind,Nat.mul_one]
 rw[p0,Result.andThen_ok,p0,Result.andThen_ok,q,Result.andThen_ok]
 cases (a==a')
 ·rfl
 rw[if_neg (by decide)]
 simp only[Sem.run_bind]
 rw[p1,Result.andThen_ok,p1,Result.andThen_ok,q,Result.andThen_ok]
 cases (b==b')
 ·rfl
 rw[if_neg (by decide)]
 simp only[Sem.run_bind]
 rw[p2,Result.andThen_ok,p2,Result.andThen_ok,q,Result.andThen_ok]
 cases (c==c')
 ·rfl
 rw[if_neg (by decide)]
 simp only[Sem.run_bind]
 rw[p3,Result.andThen_ok,p3,Result.andThen_ok,q,Result.andThen_ok]
 cases (d==d')
 ·rfl
 rfl
theorem adZ:(Tryz.prog.fieldsOf 39).toList.map (fun f=>(f.name != "_",f.offset,f.type)) = [(true,0,37),(true,1,27),(true,3,33)]:=by kernel_rfl
theorem ad1 (w:World) (a b c d a' b' c' d':Int):(Op.equalIn 10000 39 (.agg #[.int .i64 a,.int .u64 b,.int .u64 c,.int .u8 d]) (.agg #[.int .i64 a',.int .u64 b',.int .u64 c',.int .u8 d'])).run Tryz.prog w = .ok (a==a'&&((b==b'&&c==c')&&d==d')) w:=by
 have hu:Tryz.prog.underlying 33=some (.int .u8):=by kernel_rfl
 have he:Tryz.prog.underlying 37=some (.int .i64):=by kernel_rfl
 rw[run_equalIn_struct w 9999 _ _ _ (by kernel_rfl) (by kernel_rfl)]
 obtain⟨f0,f1,f2,hf,h0,h1,h2⟩:∃ f0 f1 f2:Field,(Tryz.prog.fieldsOf 39).toList = [f0,f1,f2]∧(f0.name ≠ "_" ∧ f0.offset=0∧f0.type=37)∧(f1.name ≠ "_" ∧ f1.offset=1∧f1.type=27)∧(f2.name ≠ "_" ∧ f2.offset=3∧f2.type=33):=by
  have:=adZ
  match hl:(Tryz.prog.fieldsOf 39).toList with
  | [f0,f1,f2]=>rw[hl] at this;simp at this;exact⟨f0,f1,f2,rfl,⟨by simpa using this.1.1,this.1.2.1,this.1.2.2⟩,⟨by simpa using this.2.1.1,this.2.1.2.1,this.2.1.2.2⟩,⟨by simpa using this.2.2.1,this.2.2.2.1,this.2.2.2.2⟩⟩
  | []=>rw[hl] at this;simp at this
  | [_]=>rw[hl] at this;simp at this
  | [_,_]=>rw[hl] at this;simp at this
  | _::_::_::_::_=>rw[hl] at this;simp at this
 rw[hf]
 have p0 (x y z u:Value):(part 37 #[x,y,z,u] 0).run Tryz.prog w = .ok x w:=Kj w he _ _ _ rfl
 have p1 (x y z u:Value):(part 27 #[x,y,z,u] 1).run Tryz.prog w = .ok (.agg #[y,z]) w:=by
  simp[part,FD (P:=Tryz.prog) (t:=27) (b:=true) (by kernel_rfl),run_sizeOf (P:=Tryz.prog) (t:=27) (s:=2) (by kernel_rfl)]
 have p2 (x y z u:Value):(part 33 #[x,y,z,u] 3).run Tryz.prog w = .ok u w:=Kj w hu _ _ _ rfl
 have q0 (x y:Int):(Op.equalIn 9999 37 (.int .i64 x) (.int .i64 y)).run Tryz.prog w = .ok (x==y) w:=run_equalIn_int w 9998 _ .i64 .i64 x y he
 have q2 (x y:Int):(Op.equalIn 9999 33 (.int .u8 x) (.int .u8 y)).run Tryz.prog w = .ok (x==y) w:=run_equalIn_int w 9998 _ .u8 .u8 x y hu
 have qb:=QI w 9997 b c b' c'
 simp only[Op.eqFields,h0.1,h0.2.1,h0.2.2,h1.1,h1.2.1,h1.2.2,h2.1,h2.2.1,h2.2.2,ne_eq,not_true_eq_false,not_false_eq_true,if_true,Sem.run_bind,p0,p1,p2,q0,q2,qb,Result.andThen_ok]
 cases hab:(a==a')
 ·simp
 ·cases hbc:(b==b'&&c==c')<;>cases hdd:(d==d')<;>simp[p0,p1,p2,q0,q2,qb,hbc,hdd,Op.eqFields]
theorem ad2 {t:TypeId} {x y:Value} {b:Bool} (ht:outT t=true) (h:Ki x y=some b) (w:World):(∀ op xo yo,(eqGuard op t xo yo x y).run Tryz.prog w = .ok () w)∧(binOp .eql t x y).run Tryz.prog w = .ok (.bool b) w∧(binOp .neq t x y).run Tryz.prog w = .ok (.bool (!b)) w:=by
 have ht2:t=39:=by
  unfold outT at ht;rw[Bool.or_false] at ht;exact sN.1 ht
 subst ht2
 have agg:∀ (xs ys:Array Value),Tryz.prog.eqGuardType Tryz.prog.depth 39=false→(Op.equalIn 10000 39 (.agg xs) (.agg ys)).run Tryz.prog w = .ok b w →
   (∀ op xo yo,(eqGuard op 39 xo yo (.agg xs) (.agg ys)).run Tryz.prog w = .ok () w)∧(binOp .eql 39 (.agg xs) (.agg ys)).run Tryz.prog w = .ok (.bool b) w∧(binOp .neq 39 (.agg xs) (.agg ys)).run Tryz.prog w = .ok (.bool (!b)) w:=by
  intro xs ys hg he
  refine⟨fun op xo yo=>run_eqGuard_agg w op _ xo yo xs ys hg,?_,?_⟩
  ·rw[run_eql_struct,he];rfl
  ·rw[run_neq_struct,he];rfl
 have lst:∀ {xs:Array Value} {l:List Value},xs.toList=l→xs=l.toArray:=fun h=>by rw[← h]
 unfold Ki at h
 split at h
 ·split at h
  ·rename_i h1 h2
   cases h
   rw[lst h1,lst h2]
   exact agg _ _ (by kernel_rfl) (ad1 w _ _ _ _ _ _ _ _)
  ·cases h
 ·cases h
theorem ad3 {t:TypeId} {x y:Value} {b:Bool} (h:De t x y=some b) (w:World):(∀ op xo yo,(eqGuard op t xo yo x y).run Tryz.prog w = .ok () w)∧(binOp .eql t x y).run Tryz.prog w = .ok (.bool b) w∧(binOp .neq t x y).run Tryz.prog w = .ok (.bool (!b)) w:=by
 have agg:∀ (xs ys:Array Value),Tryz.prog.eqGuardType Tryz.prog.depth t=false→(Op.equalIn 10000 t (.agg xs) (.agg ys)).run Tryz.prog w = .ok b w →
   (∀ op xo yo,(eqGuard op t xo yo (.agg xs) (.agg ys)).run Tryz.prog w = .ok () w)∧(binOp .eql t (.agg xs) (.agg ys)).run Tryz.prog w = .ok (.bool b) w∧(binOp .neq t (.agg xs) (.agg ys)).run Tryz.prog w = .ok (.bool (!b)) w:=by
  intro xs ys hg he
  refine⟨fun op xo yo=>run_eqGuard_agg w op t xo yo xs ys hg,?_,?_⟩
  ·rw[run_eql_struct,he];rfl
  ·rw[run_neq_struct,he];rfl
 have lst:∀ {xs:Array Value} {l:List Value},xs.toList=l→xs=l.toArray:=fun h=>by rw[← h]
 unfold De at h
 split at h
 ·rename_i ht;subst ht
  unfold QE at h
  split at h
  ·split at h
   ·rename_i h1 h2
    cases h
    rw[lst h1,lst h2]
    exact agg _ _ (by kernel_rfl) (QI w 9998 _ _ _ _)
   ·cases h
  ·cases h
 ·split at h
  ·rename_i ht;subst ht
   unfold QF at h
   split at h
   ·split at h
    ·rename_i h1 h2
     cases h
     rw[lst h1,lst h2]
     exact agg _ _ (by kernel_rfl) (adY w _ _ _ _ _ _ _ _)
    ·cases h
   ·cases h
  ·split at h
   ·rename_i ht;subst ht
    unfold QG at h
    split at h
    ·split at h
     ·rename_i h1 h2
      cases h
      rw[lst h1,lst h2]
      exact agg _ _ (by kernel_rfl) (adX w _ _ _ _ _ _)
     ·cases h
    ·cases h
   ·split at h
    ·rename_i ht;subst ht
     have hu:=Tryz.underlying46
     unfold QH at h
     split at h
     ·cases h
      refine⟨fun op xo yo=>by cases op<;>rfl,?_,?_⟩
      ·simp only[binOp];simp[Op.equal,Op.maxDepth]
       show((Op.equalIn (9999+1) _ _ _).run _ w).andThen _=_
       rw[Op.equalIn];simp[run_underlying hu]
      ·simp only[binOp];simp[Op.equal,Op.maxDepth]
       show((Op.equalIn (9999+1) _ _ _).run _ w).andThen _=_
       rw[Op.equalIn];simp[run_underlying hu]
     ·cases h
      refine⟨fun op xo yo=>by cases op<;>rfl,?_,?_⟩
      ·simp only[binOp];simp[Op.equal,Op.maxDepth]
       show((Op.equalIn (9999+1) _ _ _).run _ w).andThen _=_
       rw[Op.equalIn];simp[run_underlying hu]
      ·simp only[binOp];simp[Op.equal,Op.maxDepth]
       show((Op.equalIn (9999+1) _ _ _).run _ w).andThen _=_
       rw[Op.equalIn];simp[run_underlying hu]
     ·cases h
    ·cases h
theorem QJ {t:TypeId} {x y:Value} {b:Bool} (h:Bb t x y=some b) (w:World):(∀ op xo yo,(eqGuard op t xo yo x y).run Tryz.prog w = .ok () w)∧(binOp .eql t x y).run Tryz.prog w = .ok (.bool b) w∧(binOp .neq t x y).run Tryz.prog w = .ok (.bool (!b)) w:=by
 unfold Bb at h
 split at h
 ·rename_i ht;exact ad2 ht h w
 ·exact ad3 h w
theorem MK {t:TypeId} (ho:outT t=false) (x y:Value):Bb t x y=De t x y:=by unfold Bb;rw[ho]
theorem ad4 {t:TypeId} (ho:outT t=true) (x y:Value):Bb t x y=Ki x y:=by unfold Bb;rw[ho]
theorem QK:Br Tryz.prog eE:=by
 intro op t x y v h xo yo w
 unfold eE at h
 split at h
 ·split at h
  ·rename_i b hb
   cases h
   obtain⟨h1,h2,h3⟩:=QJ hb w
   simp only[Sem.run_bind,h1,h2,Result.andThen_ok]
  ·cases h
 ·split at h
  ·rename_i b hb
   cases h
   obtain⟨h1,h2,h3⟩:=QJ hb w
   simp only[Sem.run_bind,h1,h3,Result.andThen_ok]
  ·cases h
 ·cases h
def vN:List IntKind→List SV→List SV→Option X
 | [],[],[]=>some (.lit (.ofNat 1))
 | k::ks,.int k1 a::l,.int k2 b::m=>match vG k k1,vG k k2,vN ks l m with
  | true,true,some r=>some (mkAnd (uo .eql k a b) r)
  | _,_,_=>none
 | _,_,_=>none
def Ey:List IntKind→List Int→List Value
 | k::ks,n::ns=>.int k n::Ey ks ns
 | _,_=>[]
def Df:List Int→List Int→Bool
 | a::us,b::zs=>a==b&&Df us zs
 | _,_=>true
theorem Vz (s:ry):∀ {ks:List IntKind} {l m:List SV} {r:X},vN ks l m=some r→∃ us zs:List Int,SV.dens s l=(Ey ks us).map .v∧SV.dens s m=(Ey ks zs).map .v∧us.length=ks.length∧zs.length=ks.length∧(r.den s != 0)=Df us zs
 | [],[],[],r,h=>by cases h;exact⟨[],[],rfl,rfl,rfl,rfl,rfl⟩
 | k::ks,.int k1 a::l,.int k2 b::m,r,h=>by
  simp only[vN] at h
  split at h
  ·rename_i q h1 h2 h3
   cases h
   have h1:=xk h1;have h2:=xk h2;subst h1;subst h2
   obtain⟨us,zs,e1,e2,e3,e4,e5⟩:=Vz s h3
   refine⟨a.den s::us,b.den s::zs,?_,?_,by simp[e3],by simp[e4],?_⟩
   ·rw[SV.dens,e1];rfl
   ·rw[SV.dens,e2];rfl
   ·rw[acL,ut,CS,e5]
    simp only[rM,ut,Df]
  ·cases h
 | [],[],_::_,r,h=>by simp[vN] at h
 | [],_::_,_,r,h=>by simp[vN] at h
 | _::_,[],_,r,h=>by simp[vN] at h
 | _::_,.int _ _::_,[],r,h=>by simp[vN] at h
 | _::_,.int _ _::_,.v _::_,r,h=>by simp[vN] at h
 | _::_,.int _ _::_,.bool _::_,r,h=>by simp[vN] at h
 | _::_,.int _ _::_,.loc _ _::_,r,h=>by simp[vN] at h
 | _::_,.int _ _::_,.sl _ _ _ _::_,r,h=>by simp[vN] at h
 | _::_,.int _ _::_,.fn _ _ _::_,r,h=>by simp[vN] at h
 | _::_,.int _ _::_,.tup _::_,r,h=>by simp[vN] at h
 | _::_,.int _ _::_,.agg _::_,r,h=>by simp[vN] at h
 | _::_,.v _::_,_,r,h=>by simp[vN] at h
 | _::_,.bool _::_,_,r,h=>by simp[vN] at h
 | _::_,.loc _ _::_,_,r,h=>by simp[vN] at h
 | _::_,.sl _ _ _ _::_,_,r,h=>by simp[vN] at h
 | _::_,.fn _ _ _::_,_,r,h=>by simp[vN] at h
 | _::_,.tup _::_,_,r,h=>by simp[vN] at h
 | _::_,.agg _::_,_,r,h=>by simp[vN] at h
def ML:SV→Option (List SV)
 | .agg l=>some l
 | .v (.agg cs)=>some (cs.toList.map xm)
 | _=>none
theorem VA {s:ry} {x:SV} {l:List SV} {vs:List Value} (h:ML x=some l) (hd:SV.dens s l=vs.map .v):x.den s = .v (.agg vs.toArray):=by
 unfold ML at h
 split at h
 ·cases h;simp only[SV.den,hd,L8]
 ·rename_i cs
  cases h
  rw[zI] at hd
  have:=congrArg tO hd
  rw[CW,CW] at this
  have:=Option.some.inj this
  simp only[SV.den,← this]
 ·cases h
def MM:SV→Option (Option Value)
 | .v .nilFunc=>some none
 | .v (.func f a c)=>some (some (.func f a c))
 | .fn f [] []=>some (some (.func f #[] #[]))
 | _=>none
def VB (t:TypeId):Option (List IntKind):=match outT t with
 | true=>some [.i64,.u64,.u64,.u8]
 | false=>match Nat.beq t 27 with
 | true=>some [.u64,.u64]
 | false=>match Nat.beq t 252 with
  | true=>some [.u64,.u64,.u64,.u64]
  | false=>match Nat.beq t 62 with
   | true=>some [.u64,.u64,.u8]
   | false=>none
def Kk:Gn:=fun t x y=>match VB t with
 | some ks=>match ML x,ML y with
  | some l,some m=>vN ks l m
  | _,_=>none
 | none=>match Nat.beq t 46 with
  | true=>match MM x,MM y with
   | some (some _),some none=>some (.lit (.ofNat 0))
   | some none,some none=>some (.lit (.ofNat 1))
   | _,_=>none
  | false=>none
theorem QL:Mj Tryz.prog Kk eE:=by
 intro t x y r s h
 unfold Kk at h
 have pb:∀ (u v:List Value) op,vZ Tryz.prog op t (.agg u.toArray) (.agg v.toArray)=none:=fun u v op=>rfl
 have fin:∀ (a b:Value) (q:Bool),vZ Tryz.prog .eql t a b=none→vZ Tryz.prog .neq t a b=none→Bb t a b=some q→x.den s = .v a→y.den s = .v b→(r.den s != 0)=q →
   ∃ a b,x.den s = .v a∧y.den s = .v b∧vZ Tryz.prog .eql t a b=none∧vZ Tryz.prog .neq t a b=none∧eE .eql t a b=some (.bool (r.den s != 0))∧eE .neq t a b=some (.bool (!(r.den s != 0))):=fun a b q h1 h2 h3 h4 h5 h6 =>
  ⟨a,b,h4,h5,h1,h2,by simp only[eE,h3,h6],by simp only[eE,h3,h6]⟩
 split at h
 ·rename_i ks hk
  split at h
  ·rename_i l m hl hm
   obtain⟨us,zs,e1,e2,e3,e4,e5⟩:=Vz s h
   have hx:=VA hl e1
   have hy:=VA hm e2
   refine fin _ _ (Df us zs) (pb _ _ _) (pb _ _ _) ?_ hx hy e5
   unfold VB at hk
   split at hk
   ·rename_i ho
    cases hk
    match us,zs,e3,e4 with
    | [a,b,c,d],[a',b',c',d'],_,_ =>
     rw[ad4 ho]
     simp only[Ki,Ey,Df,Bool.and_true,Bool.and_assoc]
   rename_i ho
   split at hk
   ·rename_i ht
    cases hk
    have ht:=sN.1 ht
    match us,zs,e3,e4 with
    | [a,b],[c,d],_,_ =>
     rw[MK ho]
     unfold De
     rw[if_pos ht]
     simp only[QE,Ey,Df,Bool.and_true]
   ·rename_i ht0
    split at hk
    ·rename_i ht
     cases hk
     have ht:=sN.1 ht
     match us,zs,e3,e4 with
     | [a,b,c,d],[a',b',c',d'],_,_ =>
      rw[MK ho]
      unfold De
      rw[if_neg (fun e=>by rw[e] at ht0;simp at ht0),if_pos ht]
      simp only[QF,Ey,Df,Bool.and_true]
    ·rename_i ht1
     split at hk
     ·rename_i ht
      cases hk
      have ht:=sN.1 ht
      match us,zs,e3,e4 with
      | [a,b,c],[a',b',c'],_,_ =>
       rw[MK ho]
       unfold De
       rw[if_neg (fun e=>by rw[e] at ht0;simp at ht0),if_neg (fun e=>by rw[e] at ht1;simp at ht1),if_pos ht]
       simp only[QG,Ey,Df,Bool.and_true,Bool.and_assoc]
     ·cases hk
  ·cases h
 ·split at h
  ·rename_i hk ht
   have ht:=sN.1 ht
   have hf:∀ {z:SV} {o:Option Value},MM z=some o→z.den s = .v (match o with|none=>.nilFunc|some v=>v)∧∀ v,o=some v→∃ f a c,v = .func f a c:=fun {z} {o} hz=>by
    unfold MM at hz
    split at hz
    ·cases hz;exact⟨rfl,fun v hv=>by cases hv⟩
    ·cases hz;exact⟨rfl,fun v hv=>by cases hv;exact⟨_,_,_,rfl⟩⟩
    ·cases hz;exact⟨rfl,fun v hv=>by cases hv;exact⟨_,_,_,rfl⟩⟩
    ·cases hz
   have hne:t≠27∧t≠252∧t≠62:=by rw[ht];decide
   have ho:outT t=false:=by rw[ht];rfl
   have at':∀ a b,Bb t a b=QH a b:=fun a b=>by
    rw[MK ho];unfold De;rw[if_neg hne.1,if_neg hne.2.1,if_neg hne.2.2,if_pos ht]
   split at h
   ·rename_i v h1 h2
    cases h
    obtain⟨hx,hv⟩:=hf h1
    obtain⟨hy,_⟩:=hf h2
    obtain⟨f,a,c,rfl⟩:=hv v rfl
    exact fin _ _ false rfl rfl (by rw[at'];rfl) hx hy rfl
   ·rename_i h1 h2
    cases h
    obtain⟨hx,_⟩:=hf h1
    obtain⟨hy,_⟩:=hf h2
    exact fin _ _ true rfl rfl (by rw[at'];rfl) hx hy rfl
   ·cases h
  ·cases h
open Go.RowKit
noncomputable def cE:sP:=⟨Tryz.prog,gG,Kk,fun _=>none,fun _ _=>[],fun _=>none,fun _=>[]⟩
theorem ad5:(Tryz.prog.funcs.toList.all fun fn=>fn.body.isNone || !(fn.name == "runtime.NumGoroutine"))=true:=by kernel_rfl
theorem MN:wu cE eE:=by
 refine⟨QL,QK,by kernel_rfl,?_,fun g ct h=>(by cases h),fun g ct h=>(by cases h),fun g c h=>(by cases h)⟩
 intro g fn hf hb
 have h:=List.all_eq_true.1 ad5 fn (Array.mem_toList_iff.2 (Array.mem_of_getElem? hf))
 rw[Bool.or_eq_true] at h
 rcases h with h|h
 ·rw[Option.isNone_iff_eq_none] at h;rw[h] at hb;cases hb
 ·simpa using h
abbrev kU:VK:=.int .u64
abbrev kI:VK:=.int .i64
abbrev kB:VK:=.int .u8
abbrev zq:Sh:=.agg [kU,kU,kU,kU]
def u64 (n:Int):Int:=uH .u64 n
theorem yF (n:Int):uP (u64 n):=by
 unfold u64;rw[uh]
 show 0≤_∧_<(18446744073709551616:Int)
 unfold IntKind.wrap IntKind.bits IntKind.signed;simp;omega
theorem QM {n:Int} (h:uP n):IntKind.u64.wrap n=n:=by
 have h1:=h.1;have h2:n<18446744073709551616:=h.2
 unfold IntKind.wrap IntKind.bits IntKind.signed;simp;omega
def tY (n:Int):Int:=rX (sJ n)
theorem QN (n:Int):0≤tY n∧tY n≤1:=by unfold tY;cases sJ n<;>decide
theorem MO {n:Int} (h:0≤n∧n≤1):rX (n != 0)=n:=by
 rcases(show n=0∨n=1 by omega) with rfl|rfl<;>rfl
theorem Bc (n:Int):tH kU n = .int .u64 (u64 n):=by simp only[tH,u64,uh]
theorem VC (n:Int):tH .bit n = .int .u64 (tY n):=by simp only[tH,tY,uI]
theorem VD {g:FuncId} {vs:List Value} {v:Value} (h:∀ w,(callFunc g vs.toArray).run Tryz.prog w = .ok (.value v) w):PC Tryz.prog gG g vs v:=fun w _=>by
 unfold wM;rw[h w];exact⟨rfl,q8.refl w⟩
theorem three {α:Type} {l:List α} (h:l.length=3):∃ a b c,l = [a,b,c]:=by match l,h with | [a,b,c],_=>exact⟨a,b,c,rfl⟩
theorem two {α:Type} {l:List α} (h:l.length=2):∃ a b,l = [a,b]:=by match l,h with | [a,b],_=>exact⟨a,b,rfl⟩
theorem one' {α:Type} {l:List α} (h:l.length=1):∃ a,l = [a]:=by match l,h with | [a],_=>exact⟨a,rfl⟩
theorem four {α:Type} {l:List α} (h:l.length=4):∃ a b c d,l = [a,b,c,d]:=by match l,h with | [a,b,c,d],_=>exact⟨a,b,c,d,rfl⟩
theorem eight {α:Type} {l:List α} (h:l.length=8):∃ a b c d e f g i,l = [a,b,c,d,e,f,g,i]:=by match l,h with | [a,b,c,d,e,f,g,i],_=>exact⟨a,b,c,d,e,f,g,i,rfl⟩
def Ez (l:List Int):List Int:=[yz (u64 (rC l 0)) (u64 (rC l 1)) (tY (rC l 2)),vw (u64 (rC l 0)) (u64 (rC l 1)) (tY (rC l 2))]
def EA (l:List Int):List Int:=[xR (u64 (rC l 0)) (u64 (rC l 1)) (tY (rC l 2)),uV (u64 (rC l 0)) (u64 (rC l 1)) (tY (rC l 2))]
def GI (l:List Int):List Int:=[u64 (rC l 0)*u64 (rC l 1)/(rq:Int),u64 (rC l 0)*u64 (rC l 1)%(rq:Int)]
def QO (l:List Int):List Int:=[(Lib.bitLen (u64 (rC l 0)).toNat:Int)]
theorem ad6 (x y c:Int):uP (yz x y c):=by
 unfold yz;exact⟨Int.emod_nonneg _ (by decide),Int.emod_lt_of_pos _ (by decide)⟩
theorem ad7 (x y c:Int):uP (xR x y c):=by
 unfold xR;exact⟨Int.emod_nonneg _ (by decide),Int.emod_lt_of_pos _ (by decide)⟩
theorem ad8 {x y c:Int} (hx:uP x) (hy:uP y) (hc:0≤c∧c≤1):0≤vw x y c∧vw x y c≤1:=by
 have h1:=hx.1;have h2:x<18446744073709551616:=hx.2;have h3:=hy.1;have h4:y<18446744073709551616:=hy.2
 unfold vw
 show 0≤(x+y+c)/18446744073709551616∧(x+y+c)/18446744073709551616≤1
 omega
theorem ad9 (x y c:Int):0≤uV x y c∧uV x y c≤1:=by unfold uV;split<;>decide
theorem aea:rD Tryz.prog gG ⟨124,⟨[.sc kU,.sc kU,.sc .bit],[.sc kU,.sc .bit]⟩,Ez⟩:=by
 intro l hl
 obtain⟨a,b,c,rfl⟩:=three hl
 refine⟨rfl,?_⟩
 have h:=VD (g:=124) (vs:=[_,_,_]) (Ue (u64 a) (u64 b) (tY c) (yF a) (yF b) (QN c))
 have e1:=QM (ad6 (u64 a) (u64 b) (tY c))
 have e2:=MO (ad8 (yF a) (yF b) (QN c))
 simp only[rT,uf,Sh.kinds,List.drop_succ_cons,List.drop_zero,List.length_cons,List.length_nil,Bc,VC,Ez,rC,sS]
 have e3:u64 (yz (u64 a) (u64 b) (tY c))=yz (u64 a) (u64 b) (tY c):=by conv => { lhs;unfold u64 };rw[uh];exact e1
 have e4:tY (vw (u64 a) (u64 b) (tY c))=vw (u64 a) (u64 b) (tY c):=by conv => { lhs;unfold tY };rw[uI];exact e2
 rw[e3,e4];exact h
theorem aeb:rD Tryz.prog gG ⟨308,⟨[.sc kU,.sc kU,.sc .bit],[.sc kU,.sc .bit]⟩,EA⟩:=by
 intro l hl
 obtain⟨a,b,c,rfl⟩:=three hl
 refine⟨rfl,?_⟩
 have h:=VD (g:=308) (vs:=[_,_,_]) (Uf (u64 a) (u64 b) (tY c) (yF a) (yF b) (QN c))
 have e1:=QM (ad7 (u64 a) (u64 b) (tY c))
 have e2:=MO (ad9 (u64 a) (u64 b) (tY c))
 simp only[rT,uf,Sh.kinds,List.drop_succ_cons,List.drop_zero,List.length_cons,List.length_nil,Bc,VC,EA,rC,sS]
 have e3:u64 (xR (u64 a) (u64 b) (tY c))=xR (u64 a) (u64 b) (tY c):=by conv => { lhs;unfold u64 };rw[uh];exact e1
 have e4:tY (uV (u64 a) (u64 b) (tY c))=uV (u64 a) (u64 b) (tY c):=by conv => { lhs;unfold tY };rw[uI];exact e2
 rw[e3,e4];exact h
theorem Bd {n:Int} (h:uP n):u64 n=n:=by unfold u64;rw[uh];exact QM h
theorem aec {x y:Int} (hx:uP x) (hy:uP y):uP (x*y/(rq:Int)):=by
 obtain⟨a,rfl,ha⟩:=hx.nat
 obtain⟨b,rfl,hb⟩:=hy.nat
 rw[(Ug ha hb).1];exact AB _ _
theorem aed:rD Tryz.prog gG ⟨367,⟨[.sc kU,.sc kU],[.sc kU,.sc kU]⟩,GI⟩:=by
 intro l hl
 obtain⟨a,b,rfl⟩:=two hl
 refine⟨rfl,?_⟩
 have h:PC Tryz.prog gG 367 [.int .u64 (u64 a),.int .u64 (u64 b)] (.tuple #[.int .u64 (u64 a*u64 b/(rq:Int)),.int .u64 (u64 a*u64 b%(rq:Int))]) :=
  Jt Tryz.func367 (by kernel_rfl) (by kernel_rfl) fun w=>(acf (u64 a) (u64 b) w (yF a) (yF b)).mono fun e w' ⟨h1,h2⟩=>⟨h1,by rw[← h2];exact q8.refl w⟩
 simp only[rT,uf,Sh.kinds,List.drop_succ_cons,List.drop_zero,List.length_cons,List.length_nil,Bc,GI,rC,sS]
 rw[Bd (aec (yF a) (yF b)),Bd (n:=u64 a*u64 b%(rq:Int)) ⟨Int.emod_nonneg _ (by decide),Int.emod_lt_of_pos _ (by decide)⟩]
 exact h
theorem bitLen_le (n : Nat) (h : n < rq) : Lib.bitLen n ≤ 64 := by
  unfold Lib.bitLen
  have key : ∀ f x, Lib.bitLenAux f x ≤ f := by
    intro f
    induction f with
    | zero => intro x; exact Nat.le_refl _
    | succ f ih => intro x; unfold Lib.bitLenAux; split
                   · omega
                   · have := ih (x / 2); omega
  exact key _ _
theorem aee:rD Tryz.prog gG ⟨342,⟨[.sc kU],[.sc kI]⟩,QO⟩:=by
 intro l hl
 obtain⟨a,rfl⟩:=one' hl
 refine⟨rfl,?_⟩
 have h:PC Tryz.prog gG 342 [.int .u64 (u64 a)] (.int .i64 (Lib.bitLen (u64 a).toNat:Int)) :=
  Jt Tryz.func342 (by kernel_rfl) (by kernel_rfl) fun w=>(acg (u64 a) w (yF a)).mono fun e w' ⟨h1,h2⟩=>⟨h1,by rw[← h2];exact q8.refl w⟩
 have hb:=bitLen_le (u64 a).toNat (by have h1:=(yF a).1;have h2:=(yF a).2;omega)
 simp only[rT,uf,Bc,QO,rC,sS]
 have e:tH kI (Lib.bitLen (u64 a).toNat:Int) = .int .i64 (Lib.bitLen (u64 a).toNat:Int):=by
  simp only[tH]
  rw[wrap_i64 (by omega)]
 rw[e];exact h
def QP (l:List Int):List Int:=[rX (LW (uH .u8 (rC l 0)) (sJ (rC l 1)) (sJ (rC l 2)) (uH .u8 (rC l 3)))]
theorem aef:rD Tryz.prog gG ⟨323,⟨[.sc kB,.sc .bool,.sc .bool,.sc kB],[.sc .bool]⟩,QP⟩:=by
 intro l hl
 obtain⟨a,b,c,d,rfl⟩:=four hl
 refine⟨rfl,?_⟩
 have h:PC Tryz.prog gG 323 [.int .u8 (uH .u8 a),.bool (sJ b),.bool (sJ c),.int .u8 (uH .u8 d)] (.bool (LW (uH .u8 a) (sJ b) (sJ c) (uH .u8 d))) :=
  Jt Tryz.func323 (by kernel_rfl) (by kernel_rfl) fun w=>acG _ _ _ _ w
 simp only[rT,uf,Sh.kinds,List.drop_succ_cons,List.drop_zero,List.length_cons,List.length_nil,tH,QP,rC,sS,ut,← uh,← uI]
 simp only[uI,ut] at h ⊢
 exact h
def w4 (l:List Int) (i:Nat):Nat:=(u64 (rC l i)).toNat+rq*((u64 (rC l (i+1))).toNat+rq*((u64 (rC l (i+2))).toNat+rq*(u64 (rC l (i+3))).toNat))
theorem uz (n:Int):((u64 n).toNat:Int)=u64 n∧(u64 n).toNat<rq:=by
 have h:=yF n
 exact⟨Int.toNat_of_nonneg h.1,by have:=h.2;have:=h.1;omega⟩
theorem VE (a b c d:Nat) (ha:a<rq) (hb:b<rq) (hc:c<rq) (hd:d<rq):wd (a+rq*(b+rq*(c+rq*d))) 0=a∧wd (a+rq*(b+rq*(c+rq*d))) 1=b∧wd (a+rq*(b+rq*(c+rq*d))) 2=c ∧
  wd (a+rq*(b+rq*(c+rq*d))) 3=d∧a+rq*(b+rq*(c+rq*d))<sF:=by
 have hW:rq=18446744073709551616:=rfl
 unfold wd sF rA
 rw[Nat.pow_zero,Nat.pow_one,show rq^2=rq*rq by rw[Nat.pow_two],show rq^3=rq*(rq*rq) by rw[Nat.pow_succ,Nat.pow_two,Nat.mul_comm]]
 have d1:(a+rq*(b+rq*(c+rq*d)))/rq=b+rq*(c+rq*d):=by rw[Nat.add_mul_div_left _ _ uU,Nat.div_eq_of_lt ha,Nat.zero_add]
 have d2:(b+rq*(c+rq*d))/rq=c+rq*d:=by rw[Nat.add_mul_div_left _ _ uU,Nat.div_eq_of_lt hb,Nat.zero_add]
 have d3:(c+rq*d)/rq=d:=by rw[Nat.add_mul_div_left _ _ uU,Nat.div_eq_of_lt hc,Nat.zero_add]
 rw[← Nat.div_div_eq_div_mul,← Nat.div_div_eq_div_mul,← Nat.div_div_eq_div_mul,d1,d2,d3,Nat.div_one]
 refine⟨?_,?_,?_,?_,?_⟩
 ·rw[Nat.add_mul_mod_self_left,Nat.mod_eq_of_lt ha]
 ·rw[Nat.add_mul_mod_self_left,Nat.mod_eq_of_lt hb]
 ·rw[Nat.add_mul_mod_self_left,Nat.mod_eq_of_lt hc]
 ·rw[Nat.mod_eq_of_lt hd]
 ·have ha':a<18446744073709551616:=ha
  have hb':b<18446744073709551616:=hb
  have hc':c<18446744073709551616:=hc
  have hd':d<18446744073709551616:=hd
  clear d1 d2 d3 ha hb hc hd hW
  show a+18446744073709551616*(b+18446744073709551616*(c+18446744073709551616*d))<115792089237316195423570985008687907853269984665640564039457584007913129639936
  omega
theorem Dg (l:List Int) (i:Nat):vW (w4 l i) = .agg #[.int .u64 (u64 (rC l i)),.int .u64 (u64 (rC l (i+1))),.int .u64 (u64 (rC l (i+2))),.int .u64 (u64 (rC l (i+3)))]∧w4 l i<sF:=by
 obtain⟨h0,h1,h2,h3,h4⟩:=VE _ _ _ _ (uz (rC l i)).2 (uz (rC l (i+1))).2 (uz (rC l (i+2))).2 (uz (rC l (i+3))).2
 unfold w4 vW
 rw[h0,h1,h2,h3,(uz _).1,(uz _).1,(uz _).1,(uz _).1]
 exact⟨rfl,h4⟩
def Dh (s:Nat) (b:Bool):List Int:=[wd s 0,wd s 1,wd s 2,wd s 3,rX b]
theorem VF (s:Nat) (b:Bool):sS (rT [zq,.sc .bool] (Dh s b)) = .tuple #[vW s,.bool b]:=by
 simp only[rT,uf,sK,Sh.kinds,List.drop_succ_cons,List.drop_zero,List.length_cons,List.length_nil,Bc,Dh,sS,Bd (AB _ _)]
 simp only[tH,ut]
def GJ (l:List Int):List Int:=Dh (w4 l 0+w4 l 4) (Nat.ble sF (w4 l 0+w4 l 4))
theorem aeg:rD Tryz.prog gG ⟨235,⟨[zq,zq],[zq,.sc .bool]⟩,GJ⟩:=by
 intro l hl
 refine⟨rfl,?_⟩
 have h:PC Tryz.prog gG 235 [vW (w4 l 0),vW (w4 l 4)] (.tuple #[vW (w4 l 0+w4 l 4),.bool (decide (sF≤w4 l 0+w4 l 4))]) :=
  Jt Tryz.func235 (by kernel_rfl) (by kernel_rfl) fun w=>acu _ _ w (Dg l 0).2 (Dg l 4).2
 obtain⟨a,b,c,d,e,f,g,i,rfl⟩:=eight hl
 unfold GJ
 rw[VF,show Nat.ble sF (w4 [a,b,c,d,e,f,g,i] 0+w4 [a,b,c,d,e,f,g,i] 4)=decide (sF≤w4 [a,b,c,d,e,f,g,i] 0+w4 [a,b,c,d,e,f,g,i] 4) by
  rw[Bool.eq_iff_iff,Nat.ble_eq,decide_eq_true_iff]]
 rw[(Dg _ 0).1,(Dg _ 4).1] at h
 simpa only[rT,uf,sK,Sh.kinds,List.drop_succ_cons,List.drop_zero,List.length_cons,List.length_nil,Bc,rC] using h
def QQ (l:List Int):List Int:=Dh (w4 l 0+sF-w4 l 4) (Nat.blt (w4 l 0) (w4 l 4))
theorem aeh:rD Tryz.prog gG ⟨236,⟨[zq,zq],[zq,.sc .bool]⟩,QQ⟩:=by
 intro l hl
 refine⟨rfl,?_⟩
 have h:PC Tryz.prog gG 236 [vW (w4 l 0),vW (w4 l 4)] (.tuple #[vW (w4 l 0+sF-w4 l 4),.bool (decide (w4 l 0<w4 l 4))]) :=
  Jt Tryz.func236 (by kernel_rfl) (by kernel_rfl) fun w=>acv _ _ w (Dg l 0).2 (Dg l 4).2
 obtain⟨a,b,c,d,e,f,g,i,rfl⟩:=eight hl
 unfold QQ
 rw[VF,show Nat.blt (w4 [a,b,c,d,e,f,g,i] 0) (w4 [a,b,c,d,e,f,g,i] 4)=decide (w4 [a,b,c,d,e,f,g,i] 0<w4 [a,b,c,d,e,f,g,i] 4) by
  rw[Bool.eq_iff_iff,Nat.blt_eq,decide_eq_true_iff]]
 rw[(Dg _ 0).1,(Dg _ 4).1] at h
 simpa only[rT,uf,sK,Sh.kinds,List.drop_succ_cons,List.drop_zero,List.length_cons,List.length_nil,Bc,rC] using h
def VG:List rZ:=[
 ⟨124,⟨[.sc kU,.sc kU,.sc .bit],[.sc kU,.sc .bit]⟩,Ez⟩,
 ⟨308,⟨[.sc kU,.sc kU,.sc .bit],[.sc kU,.sc .bit]⟩,EA⟩,
 ⟨367,⟨[.sc kU,.sc kU],[.sc kU,.sc kU]⟩,GI⟩,
 ⟨235,⟨[zq,zq],[zq,.sc .bool]⟩,GJ⟩,
 ⟨236,⟨[zq,zq],[zq,.sc .bool]⟩,QQ⟩,
 ⟨323,⟨[.sc kB,.sc .bool,.sc .bool,.sc kB],[.sc .bool]⟩,QP⟩,
 ⟨342,⟨[.sc kU],[.sc kI]⟩,QO⟩]
open Go.RowKit
def rY (L:List rZ):uD:=fun g l=>match vM L g with|some e=>e.F l|none=>[]
theorem Be {L:List rZ} {g:FuncId} {e:rZ} (h:vM L g=some e):rY L g=e.F:=by funext l;unfold rY;rw[h]
def Di (L:List rZ):FuncId→Option Ct:=fun g=>match vM L g with|some e=>some e.ct|none=>none
noncomputable def ctx (L:List rZ):sP:=⟨Tryz.prog,gG,Kk,Di L,rY L,fun _=>none,fun _=>[]⟩
theorem sH {L:List rZ} (h:∀ e∈L,rD Tryz.prog gG e):uY (ctx L) eE:=by
  have key:∀ (g:FuncId) (ct:Ct),(ctx L).ct g=some ct→∀ l:List Int,l.length=(q9 ct.a).length→((ctx L).Φ g l).length=(q9 ct.r).length∧PC Tryz.prog gG g (rT ct.a l) (sS (rT ct.r ((ctx L).Φ g l))):=by
   intro g ct hct l hl
   simp only[ctx,Di,rY] at hct ⊢
   cases hf:vM L g with
   | some e =>
     rw[hf] at hct
     simp only[Option.some.injEq] at hct;subst hct
     obtain⟨h1,h2⟩:=GD hf
     subst h2
     exact h e h1 l hl
   | none=>rw[hf] at hct;cases hct
  exact⟨⟨QL,QK,MN.mix,MN.nm,fun g ct hct l hl _=>(key g ct hct l hl).2,fun g ct hn=>(by cases hn),fun g c hc=>(by cases hc)⟩,fun g ct hct l hl=>(key g ct hct l hl).1,fun g ct hn=>(by cases hn),fun g c hc=>(by cases hc)⟩
def zN:List uk→Nat→Option uk
 | [],_=>none
 | x::l,id=>match Nat.beq x.c.id id with|true=>some x|false=>zN l id
def EB:List uk→FuncId→List vJ
 | [],_=>[]
 | x::l,g=>match Nat.beq x.g g with|true=>x.c::EB l g|false=>EB l g
def tV (L M:List rZ) (S:List uk):uD:=fun g l=>match zN S g with
 | some e=>e.F l
 | none=>match vM M g with|some e=>e.F l|none=>rY L g l
theorem VH {L M:List rZ} {S:List uk} {g:Nat} {e:uk} (h:zN S g=some e):tV L M S g=e.F:=by funext l;unfold tV;rw[h]
theorem VI {L M:List rZ} {S:List uk} {g:Nat} {e:rZ} (h0:zN S g=none) (h:vM M g=some e):tV L M S g=e.F:=by funext l;unfold tV;rw[h0];simp only[];rw[h]
theorem Kl {L M:List rZ} {S:List uk} {g:Nat} {e:rZ} (h0:zN S g=none) (h1:vM M g=none) (h:vM L g=some e):tV L M S g=e.F:=by funext l;unfold tV;rw[h0];simp only[];rw[h1];simp only[];rw[Be h]
noncomputable def r9 (L M:List rZ) (S:List uk):sP:=⟨Tryz.prog,gG,Kk,Di L,tV L M S,Di M,EB S⟩
def Km (S:List uk) (g:Nat):Bool:=match zN S g with|some _=>false|none=>true
def QR (M:List rZ) (g:Nat):Bool:=match vM M g with|some _=>false|none=>true
def MP (M:List rZ) (S:List uk):List rZ→Bool
 | []=>true
 | x::l=>sO (Km S x.g) (sO (QR M x.g) (MP M S l))
def MQ (S:List uk):List rZ→Bool
 | []=>true
 | x::l=>sO (Km S x.g) (MQ S l)
def MR:List uk→Bool
 | []=>true
 | x::l=>sO (Km l x.c.id) (MR l)
theorem QS {S:List uk} {g:Nat} (h:Km S g=true):zN S g=none:=by
 unfold Km at h
 cases hf:zN S g with
 | none=>rfl
 | some e=>rw[hf] at h;cases h
theorem aei {M:List rZ} {g:Nat} (h:QR M g=true):vM M g=none:=by
 unfold QR at h
 cases hf:vM M g with
 | none=>rfl
 | some e=>rw[hf] at h;cases h
theorem QT {M:List rZ} {S:List uk} : ∀ {L:List rZ},MP M S L=true→∀ e∈L,zN S e.g=none∧vM M e.g=none
 | [],_,e,he=>by cases he
 | x::l,h,e,he=>by
  have h:=su h;have h2:=su h.2
  rcases List.mem_cons.1 he with rfl|he
  ·exact⟨QS h.1,aei h2.1⟩
  ·exact QT h2.2 e he
theorem QU {S:List uk} : ∀ {L:List rZ},MQ S L=true→∀ e∈L,zN S e.g=none
 | [],_,e,he=>by cases he
 | x::l,h,e,he=>by
  have h:=su h
  rcases List.mem_cons.1 he with rfl|he
  ·exact QS h.1
  ·exact QU h.2 e he
theorem QV:∀ {S:List uk},MR S=true→∀ e∈S,zN S e.c.id=some e
 | [],_,e,he=>by cases he
 | x::l,h,e,he=>by
  have h:=su h
  simp only[zN]
  rcases List.mem_cons.1 he with rfl|he
  ·rw[Nat.beq_refl]
  ·have h1:=QV h.2 e he
   cases hb:Nat.beq x.c.id e.c.id with
   | true =>
    have h2:=QS h.1
    rw[sN.1 hb,h1] at h2;cases h2
   | false=>exact h1
theorem MS:∀ {S:List uk} {g:FuncId} {c:vJ},c∈EB S g→∃ e∈S,e.g=g∧e.c=c
 | [],g,c,h=>by cases h
 | x::l,g,c,h=>by
  simp only[EB] at h
  split at h
  ·rename_i hb
   rcases List.mem_cons.1 h with rfl|h
   ·exact⟨x,List.mem_cons_self,sN.1 hb,rfl⟩
   ·obtain⟨e,h1,h2⟩:=MS h;exact⟨e,List.mem_cons_of_mem _ h1,h2⟩
  ·obtain⟨e,h1,h2⟩:=MS h;exact⟨e,List.mem_cons_of_mem _ h1,h2⟩
theorem QW {L M:List rZ} {S:List uk} (hL:∀ e∈L,xX Tryz.prog gG e) (hM:∀ e∈M,QA Tryz.prog gG e) (hS:∀ e∈S,QD Tryz.prog gG e) (h:sO (MP M S L) (sO (MQ S M) (MR S))=true):wu (r9 L M S) eE:=by
 have h:=su h;have h2:=su h.2
 refine⟨QL,QK,MN.mix,MN.nm,fun g ct hct l hl hF=>?_,fun g ct hct=>?_,fun g c hc l hl hF=>?_⟩
 ·simp only[r9,Di] at hct hF ⊢
  cases hf:vM L g with
  | some e =>
   rw[hf] at hct
   simp only[Option.some.injEq] at hct;subst hct
   obtain⟨h1,h3⟩:=GD hf
   subst h3
   obtain⟨h4,h5⟩:=QT h.1 e h1
   rw[Kl h4 h5 hf] at hF ⊢
   exact(hL e h1).ok l hl hF
  | none=>rw[hf] at hct;cases hct
 ·simp only[r9,Di] at hct ⊢
  cases hf:vM M g with
  | some e =>
   rw[hf] at hct
   simp only[Option.some.injEq] at hct;subst hct
   obtain⟨h1,h3⟩:=GD hf
   subst h3
   have h4:=QU h2.1 e h1
   refine⟨(hM e h1).two,fun l hl hF=>?_⟩
   rw[VI h4 hf] at hF ⊢
   exact(hM e h1).ok l hl hF
  | none=>rw[hf] at hct;cases hct
 ·obtain⟨e,h1,h3,h4⟩:=MS (show c∈EB S g from hc)
  subst h3;subst h4
  have h5:=QV h2.2 e h1
  simp only[r9] at hF ⊢
  rw[VH h5] at hF ⊢
  exact(hS e h1).ok l hl hF
theorem Af {L M:List rZ} {S:List uk} (hL:∀ e∈L,rD Tryz.prog gG e) (hM:∀ e∈M,Kh Tryz.prog gG e) (hS:∀ e∈S,Ba Tryz.prog gG e) (h:sO (MP M S L) (sO (MQ S M) (MR S))=true):uY (r9 L M S) eE:=by
 refine⟨QW (fun e he=>(hL e he).c) (fun e he=>(hM e he).c) (fun e he=>(hS e he).c) h,?_,?_,?_⟩
 all_goals have h:=su h
 all_goals have h2:=su h.2
 ·intro g ct hct l hl
  simp only[r9,Di] at hct ⊢
  cases hf:vM L g with
  | some e =>
   rw[hf] at hct
   simp only[Option.some.injEq] at hct;subst hct
   obtain⟨h1,h3⟩:=GD hf
   subst h3
   obtain⟨h4,h5⟩:=QT h.1 e h1
   rw[Kl h4 h5 hf]
   exact(hL e h1 l hl).1
  | none=>rw[hf] at hct;cases hct
 ·intro g ct hct l hl
  simp only[r9,Di] at hct ⊢
  cases hf:vM M g with
  | some e =>
   rw[hf] at hct
   simp only[Option.some.injEq] at hct;subst hct
   obtain⟨h1,h3⟩:=GD hf
   subst h3
   rw[VI (QU h2.1 e h1) hf]
   exact((hM e h1).ok l hl).1
  | none=>rw[hf] at hct;cases hct
 ·intro g c hc l hl
  obtain⟨e,h1,h3,h4⟩:=MS (show c∈EB S g from hc)
  subst h3;subst h4
  have h5:=QV h2.2 e h1
  simp only[r9]
  rw[VH h5]
  exact((hS e h1).ok l hl).1
def M0:List rZ:=[]
theorem BV:∀ e∈M0,Kh Tryz.prog gG e:=fun e he=>by cases he
def S0:List uk:=[]
theorem VJ:∀ e∈S0,Ba Tryz.prog gG e:=fun e he=>by cases he
def E0:List rZ:=VG
theorem xc:∀ e∈E0,rD Tryz.prog gG e:=by
 intro e he
 simp only[E0,VG,List.mem_cons,List.not_mem_nil,or_false] at he
 rcases he with rfl|he
 ·exact aea
 rcases he with rfl|he
 ·exact aeb
 rcases he with rfl|he
 ·exact aed
 rcases he with rfl|he
 ·exact aeg
 rcases he with rfl|he
 ·exact aeh
 rcases he with rfl|he
 ·exact aef
 ·subst he;exact aee
end Go.Proofs.YtbembkamcdlhbaaGreatDoor
