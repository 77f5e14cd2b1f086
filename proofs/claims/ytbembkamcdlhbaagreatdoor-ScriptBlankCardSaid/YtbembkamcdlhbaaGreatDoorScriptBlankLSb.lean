import Derived.Test.YtbembkamcdlhbaaGreatDoorLawSSb
import Derived.Test.YtbembkamcdlhbaaGreatDoorSL2Sb
set_option linter.unusedSimpArgs false
set_option linter.unusedVariables false
set_option maxRecDepth 100000
namespace Go.Proofs.YtbembkamcdlhbaaGreatDoor
open Go.ChangeShapes Go.WideShapes Go.ChangeAt Go.WideMaps Go.WideElems Go.RowKit
theorem alO (os:Os) (started:os.Started) (H:Type) (enc:TypeId×Value→H) :
  ReturnsInHanded {} Tryz.checked os 9 .any (fun w args=>(Rows.scriptBlankSpec.pre enc Tryz.prog Tryz.f9 [] false w args∧laidMetH Tryz.prog Lj w)∧sizedMet enc Tryz.prog Tryz.f9 (OpenSpec.ofChange Rows.scriptBlankSpec) false w args)
   (Rows.scriptBlankSpec.post enc Tryz.prog Tryz.f9 false true false false):=by
 refine alM (C:=Tryz.checked) (X:=fun w _=>laidMetH Tryz.prog Lj w) (fun _ _ _ hh h=>h.of_heap hh) knob started (by kernel_rfl) Tryz.func9
  (ChangeSpec.witness_shaped (enc:=enc) (C:=Tryz.checked) (os:=os) (X:=fun w _=>laidMetH Tryz.prog Lj w) false (World.laidAll Tryz.prog os Lj) #[.string ⟨#[]⟩,.int .u16 0,.int .u8 0] 8 (World.laidAll_os _ _ _) (World.shaped_of_ZipB (by kernel_rfl) (by kernel_rfl)) (by kernel_rfl) (by kernel_rfl) (by kernel_rfl) (by rw[MakeChecks.laidMetH_plain _ _ _ (by kernel_rfl)];exact laidMet_laidAll _ (by kernel_rfl) (by kernel_rfl))) ?_
 intro W base args ds gs before hval0 hW hL hsh
 have hval:∀ (j:Nat) t v,Tryz.f9.params[j]? = some t→args[j]? = some v→Value.okWide Tryz.prog W .any base t v:=hval0
 have hW':=hW
 obtain⟨p,q,hA0,hV,rfl,hfz,hnd⟩:=hW
 have hA:DataW.TrodAll enc Tryz.prog W 0 (fun _=>true) true Tryz.f9.params.toList args.toList ds p:=hA0
 rw[Tryz.params9] at hA hval
 obtain⟨v0,vs0,d0,ds0,p0,q0,hargs,rfl,rfl,h0,r0⟩:=trodAll_cons hA
 obtain⟨v1,vs1,d1,ds1,p1,q1,rfl,rfl,rfl,h1,r1⟩:=trodAll_cons r0
 obtain⟨v2,vs2,d2,ds2,p2,q2,rfl,rfl,rfl,h2,r2⟩:=trodAll_cons r1
 obtain⟨rfl,rfl,rfl⟩:=trodAll_nil r2
 obtain rfl:args = #[v0,v1,v2]:=by cases args;simp_all
 obtain⟨rfl,rfl⟩:=trodVars_none hV
 have k0:=h0
 have k1:=h1
 have k2:=h2
 obtain⟨s0,rfl,rfl,rfl,w0⟩:=Go.ChangeMaps.open_string Tryz.underlying9 (hval 0 9 v0 rfl rfl) h0
 obtain⟨a1,rfl,rfl,rfl,w1⟩:=open_int Tryz.underlying81 (hval 1 81 v1 rfl rfl) h1
 obtain⟨a2,rfl,rfl,rfl,w2⟩:=open_int Tryz.underlying5 (hval 2 5 v2 rfl rfl) h2
 clear hA0 hval0
 simp only[List.append_nil] at hW'
 refine(Sp.ScriptBlank_c W (alL hL hsh) s0 a1 a2 (by simp[Lit.wf,IntKind.min,IntKind.max,IntKind.signed,IntKind.bits] at w1;omega) w2).mono fun e W' ⟨he,hg⟩=>?_
 subst he
 have hg':Below W.heap.size W W':=hg
 exact⟨_,rfl,⟨_,_,_,[],_,[],hW',trodAll_mk1 (shut_bool Tryz.underlying4 _),(trodAll_cons_mk (Below.trod laidOut (by kernel_rfl) (of_decide_eq_true (by kernel_rfl)) k0 hg' (fun x hx=>by first|(cases hx;done)|exact hW'.lt x hx|exact hW'.lt x (by simp[hx]))) (trodAll_cons_mk (Below.trod laidOut (by kernel_rfl) (of_decide_eq_true (by kernel_rfl)) k1 hg' (fun x hx=>by first|(cases hx;done)|exact hW'.lt x hx|exact hW'.lt x (by simp[hx]))) (trodAll_cons_mk (Below.trod laidOut (by kernel_rfl) (of_decide_eq_true (by kernel_rfl)) k2 hg' (fun x hx=>by first|(cases hx;done)|exact hW'.lt x hx|exact hW'.lt x (by simp[hx]))) trodAll_mk0))),rfl,hg'.frame _,fun h=>by cases h⟩⟩
end Go.Proofs.YtbembkamcdlhbaaGreatDoor
