import Derived.Test.YtbembkamcdlhbaaGreatDoorLawSSb
import Derived.Test.YtbembkamcdlhbaaGreatDoorSK2Sb
set_option linter.unusedSimpArgs false
set_option linter.unusedVariables false
set_option maxRecDepth 100000
namespace Go.Proofs.YtbembkamcdlhbaaGreatDoor
open Go.ChangeShapes Go.WideShapes Go.ChangeAt Go.WideMaps Go.WideElems Go.RowKit
theorem amW (os:Os) (started:os.Started) (H:Type) (enc:TypeId×Value→H) :
  ReturnsInHanded {} Tryz.checked os 11 .any (fun w args=>(Rows.scriptKnownSpec.pre enc Tryz.prog Tryz.f11 [] false w args∧laidMetH Tryz.prog Ll w)∧sizedMet enc Tryz.prog Tryz.f11 (OpenSpec.ofChange Rows.scriptKnownSpec) false w args)
   (Rows.scriptKnownSpec.post enc Tryz.prog Tryz.f11 false true false false):=by
 refine ams (C:=Tryz.checked) (X:=fun w _=>laidMetH Tryz.prog Ll w) (fun _ _ _ hh h=>h.of_heap hh) knob started (by kernel_rfl) Tryz.func11
  (ChangeSpec.witness_shaped (enc:=enc) (C:=Tryz.checked) (os:=os) (X:=fun w _=>laidMetH Tryz.prog Ll w) false (World.laidAll Tryz.prog os Ll) #[] 8 (World.laidAll_os _ _ _) (World.shaped_of_ZipB (by kernel_rfl) (by kernel_rfl)) (by kernel_rfl) (by kernel_rfl) (by kernel_rfl) (by rw[MakeChecks.laidMetH_plain _ _ _ (by kernel_rfl)];exact laidMet_laidAll _ (by kernel_rfl) (by kernel_rfl))) ?_
 intro W base args ds gs before hval0 hW hL hsh
 have hval:∀ (j:Nat) t v,Tryz.f11.params[j]? = some t→args[j]? = some v→Value.okWide Tryz.prog W .any base t v:=hval0
 have hW':=hW
 obtain⟨p,q,hA0,hV,rfl,hfz,hnd⟩:=hW
 have hA:DataW.TrodAll enc Tryz.prog W 0 (fun _=>true) true Tryz.f11.params.toList args.toList ds p:=hA0
 rw[Tryz.params11] at hA hval
 obtain⟨hargs,rfl,rfl⟩:=trodAll_nil hA
 obtain rfl:args = #[]:=by cases args;simp_all
 obtain⟨rfl,rfl⟩:=trodVars_none hV
 clear hA0 hval0
 refine(Sp.ScriptKnown_c W (amr hL hsh)).mono fun e W' ⟨he,hg⟩=>?_
 subst he
 have hg':Below W.heap.size W W':=hg
 exact⟨_,rfl,⟨_,_,_,[],_,[],hW',trodAll_mk1 (shut_bool Tryz.underlying4 _),trodAll_mk0,rfl,hg'.frame _,fun h=>by cases h⟩⟩
end Go.Proofs.YtbembkamcdlhbaaGreatDoor
