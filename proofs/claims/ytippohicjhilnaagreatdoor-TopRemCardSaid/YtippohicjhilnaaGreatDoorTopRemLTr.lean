import Derived.Test.YtippohicjhilnaaGreatDoorWLTr
import Derived.Test.YtippohicjhilnaaGreatDoorWJTr
set_option linter.unusedSimpArgs false
set_option linter.unusedVariables false
set_option maxRecDepth 100000
open Go.Proofs.Tryz
namespace Go.Proofs.YtippohicjhilnaaGreatDoor
open Go.ChangeShapes Go.WideShapes Go.ChangeAt Go.WideMaps Go.WideElems Go.RowKit
theorem aAp (os:Os) (started:os.Started) (H:Type) (enc:TypeId×Value->H) :
  ReturnsInHanded {} checked os 4 .any (λw args=>(Rows.topRemSpec.pre enc prog Tryz.f4 [] false w args/\laidMetH prog Td w)/\sizedMet enc prog Tryz.f4 (OpenSpec.ofChange Rows.topRemSpec) false w args)
   (Rows.topRemSpec.post enc prog Tryz.f4 false true false false):=by
 refine azV (C:=checked) (X:=λw _=>laidMetH prog Td w) (λ_ _ _ hh h=>h.of_heap hh) knob started (by kernel_rfl) func4
  (ChangeSpec.witness_shaped (enc:=enc) (C:=checked) (os:=os) (X:=λw _=>laidMetH prog Td w) false (World.laidAll prog os Td) #[.int .u8 0,.agg #[.int .u64 0,.int .u64 0],.agg #[.int .u64 0,.int .u64 0]] 8 (World.laidAll_os _ _ _) (World.shaped_of_ZipB (by kernel_rfl) (by kernel_rfl)) (by kernel_rfl) (by kernel_rfl) (by kernel_rfl) (by rw[MakeChecks.laidMetH_plain _ _ _ (by kernel_rfl)];exact laidMet_laidAll _ (by kernel_rfl) (by kernel_rfl))) ?_
 intro W base args ds gs before hval0 hW hL hsh;have hval:∀ (j:Nat) t v,Tryz.f4.params[j]? = some t->args[j]? = some v->Value.okWide prog W .any base t v:=hval0;have hW':=hW;obtain⟨p,q,hA0,hV,rfl,hfz,hnd⟩:=hW;have hA:DataW.TrodAll enc prog W 0 (λ_=>true) true Tryz.f4.params.toList args.toList ds p:=hA0;rw[params4] at hA hval;obtain⟨v0,vs0,d0,ds0,p0,q0,hargs,rfl,rfl,h0,r0⟩:=trodAll_cons hA;obtain⟨v1,vs1,d1,ds1,p1,q1,rfl,rfl,rfl,h1,r1⟩:=trodAll_cons r0;obtain⟨v2,vs2,d2,ds2,p2,q2,rfl,rfl,rfl,h2,r2⟩:=trodAll_cons r1;obtain⟨rfl,rfl,rfl⟩:=trodAll_nil r2;obtain rfl:args = #[v0,v1,v2]:=by cases args;simp_all
 obtain⟨rfl,rfl⟩:=trodVars_none hV;have k0:=h0;have k1:=h1;have k2:=h2;obtain⟨a0,rfl,rfl,rfl,w0⟩:=open_int underlying22 (hval 0 22 v0 rfl rfl) h0;obtain⟨h1_,l1_,rfl,rfl,rfl,wh1,wl1⟩:=akR (hval 1 25 v1 rfl rfl) h1;obtain⟨h2_,l2_,rfl,rfl,rfl,wh2,wl2⟩:=akR (hval 2 25 v2 rfl rfl) h2;clear hA0 hval0;simp only[List.append_nil] at hW';refine(azW azy func4 (by kernel_rfl) (by kernel_rfl) rfl [a0,h1_,l1_,h2_,l2_] [.int .u8 a0,.agg #[.int .u64 h1_,.int .u64 l1_],.agg #[.int .u64 h2_,.int .u64 l2_]] rfl (by simp only[FO,uP,wR,uT,wB,Sh.kinds,List.drop_succ_cons,List.drop_zero,List.length_cons,List.length_nil,xe,Te w0,Te wh1,Te wl1,Te wh2,Te wl2]) (azE _ rfl) W (azU hL hsh).1).mono λe W' ⟨he,hg⟩=>?_
 subst he;have hg':Below W.heap.size W W':=hg;exact⟨_,rfl,⟨_,_,_,[],_,[],hW',trodAll_mk1 (shut_bool underlying4 _),(trodAll_cons_mk (Below.trod laidOut (by kernel_rfl) (of_decide_eq_true (by kernel_rfl)) k0 hg' (λx hx=>by first|(cases hx;done)|exact hW'.lt x hx|exact hW'.lt x (by simp[hx]))) (trodAll_cons_mk (Below.trod laidOut (by kernel_rfl) (of_decide_eq_true (by kernel_rfl)) k1 hg' (λx hx=>by first|(cases hx;done)|exact hW'.lt x hx|exact hW'.lt x (by simp[hx]))) (trodAll_cons_mk (Below.trod laidOut (by kernel_rfl) (of_decide_eq_true (by kernel_rfl)) k2 hg' (λx hx=>by first|(cases hx;done)|exact hW'.lt x hx|exact hW'.lt x (by simp[hx]))) trodAll_mk0))),rfl,hg'.frame _,λh=>by cases h⟩⟩
end Go.Proofs.YtippohicjhilnaaGreatDoor
