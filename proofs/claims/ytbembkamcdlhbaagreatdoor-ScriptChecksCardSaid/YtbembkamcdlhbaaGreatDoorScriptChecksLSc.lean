import Derived.Test.YtbembkamcdlhbaaGreatDoorLawSSc
import Derived.Test.YtbembkamcdlhbaaGreatDoorSL5Sc
set_option linter.unusedSimpArgs false
set_option linter.unusedVariables false
set_option maxRecDepth 100000
namespace Go.Proofs.YtbembkamcdlhbaaGreatDoor
open Go.ChangeShapes Go.WideShapes Go.ChangeAt Go.WideMaps Go.WideElems Go.RowKit
theorem anr (os:Os) (started:os.Started) (H:Type) (enc:TypeId×Value→H) :
  ReturnsInHanded {} Tryz.checked os 10 .any (fun w args=>(Rows.scriptChecksSpec.pre enc Tryz.prog Tryz.f10 [] false w args∧laidMetH Tryz.prog L8 w)∧sizedMet enc Tryz.prog Tryz.f10 (OpenSpec.ofChange Rows.scriptChecksSpec) false w args)
   (Rows.scriptChecksSpec.post enc Tryz.prog Tryz.f10 false true false false):=by
 refine anp (C:=Tryz.checked) (X:=fun w _=>laidMetH Tryz.prog L8 w) (fun _ _ _ hh h=>h.of_heap hh) knob started (by kernel_rfl) Tryz.func10
  (ChangeSpec.witness_shaped (enc:=enc) (C:=Tryz.checked) (os:=os) (X:=fun w _=>laidMetH Tryz.prog L8 w) false (World.laidAll Tryz.prog os L8) #[.string ⟨#[]⟩] 8 (World.laidAll_os _ _ _) (World.shaped_of_ZipB (by kernel_rfl) (by kernel_rfl)) (by kernel_rfl) (by kernel_rfl) (by kernel_rfl) (by rw[MakeChecks.laidMetH_plain _ _ _ (by kernel_rfl)];exact laidMet_laidAll _ (by kernel_rfl) (by kernel_rfl))) ?_
 intro W base args ds gs before hval0 hW hL hsh
 have hval:∀ (j:Nat) t v,Tryz.f10.params[j]? = some t→args[j]? = some v→Value.okWide Tryz.prog W .any base t v:=hval0
 have hW':=hW
 obtain⟨p,q,hA0,hV,rfl,hfz,hnd⟩:=hW
 have hA:DataW.TrodAll enc Tryz.prog W 0 (fun _=>true) true Tryz.f10.params.toList args.toList ds p:=hA0
 rw[Tryz.params10] at hA hval
 obtain⟨v0,vs0,d0,ds0,p0,q0,hargs,rfl,rfl,h0,r0⟩:=trodAll_cons hA
 obtain⟨rfl,rfl,rfl⟩:=trodAll_nil r0
 obtain rfl:args = #[v0]:=by cases args;simp_all
 obtain⟨rfl,rfl⟩:=trodVars_none hV
 have k0:=h0
 obtain⟨s0,rfl,rfl,rfl,w0⟩:=Go.ChangeMaps.open_string Tryz.underlying9 (hval 0 9 v0 rfl rfl) h0
 clear hA0 hval0
 simp only[List.append_nil] at hW'
 refine(Sp.ScriptChecks_c W (ano hL hsh) s0).mono fun e W' ⟨he,hg⟩=>?_
 subst he
 have hg':Below W.heap.size W W':=hg
 exact⟨_,rfl,⟨_,_,_,[],_,[],hW',trodAll_mk1 (shut_bool Tryz.underlying4 _),(trodAll_cons_mk (Below.trod laidOut (by kernel_rfl) (of_decide_eq_true (by kernel_rfl)) k0 hg' (fun x hx=>by first|(cases hx;done)|exact hW'.lt x hx|exact hW'.lt x (by simp[hx]))) trodAll_mk0),rfl,hg'.frame _,fun h=>by cases h⟩⟩
end Go.Proofs.YtbembkamcdlhbaaGreatDoor
