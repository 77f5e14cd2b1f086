import Derived.Test.YtemomocmfggiaaaGreatDoorLawTU6
import Derived.Test.YtemomocmfggiaaaGreatDoorZYU6
set_option linter.unusedSimpArgs false
set_option linter.unusedVariables false
set_option maxRecDepth 100000
/- Proved here: law29.TableFlags returns true for every input,and leaves what it was handed as it was;the package variable that it reads is tied to the program's text (the card). Conditions: none but the row's own. -/
namespace Go.Proofs.YtemomocmfggiaaaGreatDoor
open Go.ChangeShapes Go.WideShapes Go.ChangeAt Go.WideMaps Go.WideElems Go.RowKit

theorem avK (os : Os) (started : os.Started) (H : Type) (enc : TypeId × Value → H) :
    ReturnsInHanded {} Tryz.checked os 3 .any (fun w args => (Rows.tableFlagsSpec.pre enc Tryz.prog Tryz.f3 [] false w args ∧ laidMetH Tryz.prog RF w) ∧ sizedMet enc Tryz.prog Tryz.f3 (OpenSpec.ofChange Rows.tableFlagsSpec) false w args)
      (Rows.tableFlagsSpec.post enc Tryz.prog Tryz.f3 false true false false) := by
  refine returnsInHanded_of_change_and (C := Tryz.checked) (X := fun w _ => laidMetH Tryz.prog RF w) (fun _ _ _ hh h => h.of_heap hh) knob started (by kernel_rfl) Tryz.func3
    (ChangeSpec.witness_shaped (enc := enc) (C := Tryz.checked) (os := os) (X := fun w _ => laidMetH Tryz.prog RF w) false (World.doorLaid Tryz.prog 400 os) #[.agg #[.int .u8 0, .int .u8 0, .int .u8 0, .int .u8 0, .int .u8 0, .int .u64 0, .int .u64 0, .int .u64 0, .int .u64 0, .int .u64 0, .int .u64 0]] 8 rfl (World.shaped_of_RefB (by kernel_rfl) (by kernel_rfl)) (by kernel_rfl) (by kernel_rfl) (by kernel_rfl) (asJ os _)) ?_
  intro W base args ds gs before hval0 hW _ hsz hL _
  have hval : ∀ (j : Nat) t v, Tryz.f3.params[j]? = some t → args[j]? = some v → Value.okWide Tryz.prog W .any base t v := hval0
  have hW' := hW
  obtain ⟨p, q, hA0, hV, rfl, hfz, hnd⟩ := hW
  have hA : DataW.TrodAll enc Tryz.prog W 0 (fun _ => true) true Tryz.f3.params.toList args.toList ds p := hA0
  rw [Tryz.params3] at hA hval
  obtain ⟨v0, vs0, d0, ds0, p0, q0, hargs, rfl, rfl, h0, r0⟩ := trodAll_cons hA
  obtain ⟨rfl, rfl, rfl⟩ := trodAll_nil r0
  obtain rfl : args = #[v0] := by cases args; simp_all
  obtain ⟨rfl, rfl⟩ := trodVars_none hV
  have k0 := h0
  obtain ⟨x0, rfl, rfl, rfl, wx0⟩ := asP (hval 0 26 v0 rfl rfl) h0
  clear hA0 hval0
  simp only [List.append_nil] at hW'
  refine (asQ avj Tryz.func3 (by kernel_rfl) (by kernel_rfl) rfl [x0 0, x0 1, x0 2, x0 3, x0 4, x0 5, x0 6, x0 7, x0 8, x0 9, x0 10] [.agg #[.int .u8 (x0 0), .int .u8 (x0 1), .int .u8 (x0 2), .int .u8 (x0 3), .int .u8 (x0 4), .int .u64 (x0 5), .int .u64 (x0 6), .int .u64 (x0 7), .int .u64 (x0 8), .int .u64 (x0 9), .int .u64 (x0 10)]] rfl (by simp only [En, wJ, yx, wQ, xW, Sh.kinds, List.drop_succ_cons, List.drop_zero, List.length_cons, List.length_nil, yN, FU (wx0.1 0 (by decide)), FU (wx0.1 1 (by decide)), FU (wx0.1 2 (by decide)), FU (wx0.1 3 (by decide)), FU (wx0.1 4 (by decide)), FU (wx0.2 5 (by decide) (by decide)), FU (wx0.2 6 (by decide) (by decide)), FU (wx0.2 7 (by decide) (by decide)), FU (wx0.2 8 (by decide) (by decide)), FU (wx0.2 9 (by decide) (by decide)), FU (wx0.2 10 (by decide) (by decide))]) (ars _ rfl) W (asK hL)).mono fun e W' ⟨he, hg⟩ => ?_
  subst he
  have hg' : Below W.heap.size W W' := hg
  exact ⟨_, rfl, ⟨_, _, _, [], _, [], hW', trodAll_mk1 (shut_bool Tryz.underlying4 _), (trodAll_cons_mk (Below.trod laidOut (by kernel_rfl) (of_decide_eq_true (by kernel_rfl)) k0 hg' (fun x hx => by first | (cases hx; done) | exact hW'.lt x hx | exact hW'.lt x (by simp [hx]))) trodAll_mk0), rfl, hg'.frame _, fun h => by cases h⟩⟩
theorem avL:Rows.TableFlagsSaid :=
  OpenClaim.holds_of_wide 3 Tryz.f3 rfl rfl rfl rfl rfl rfl rfl ⟨rfl,rfl,rfl,rfl,rfl⟩ rfl rfl rfl rfl rfl (by kernel_rfl) Tryz.func3 (by kernel_rfl)
    (of_decide_eq_true (by kernel_rfl)) (by unfold Func.isWrapper;first|(rw[if_pos (by decide +kernel)];kernel_rfl)|(rw[if_neg (by decide +kernel)];exact⟨rfl,rfl⟩))
    (fun os started H enc _=>avK os started H enc)
theorem tableFlags_card:Rows.TableFlagsCardSaid :=
  Claim7.holds_tied_plain_at .later [] asB true (true, "a076c2c3570269640d4780e8856f70f737b74ae0dab777f1e6b2959e73d9f373") false
    avL (fun _ h=>by cases h) (by kernel_rfl) (fun _ h=>by cases h) tableFlags_row_tie rfl ⟨rfl,rfl⟩ (by kernel_rfl) rfl
    (fun f fn hf hfn=>by
      obtain rfl:f=3:=Option.some.inj ((show Tryz.prog.funcNamed "hairsbreadth/hairsbreadthlaw29.TableFlags" = some 3 by kernel_rfl).symm.trans hf) |>.symm
      obtain rfl:fn=Tryz.f3:=(Option.some.inj (Tryz.func3.symm.trans hfn)).symm
      exact⟨by kernel_rfl,fun j t ht=>by
        rw[Tryz.params3] at ht
        have hm:t∈([26]:List TypeId):=by simpa using Array.mem_of_getElem? ht
        have hall:(([26]:List TypeId).all fun u => !Tryz.prog.wantsStandIn u)=true:=by kernel_rfl
        exact(show Tryz.prog.wantsStandIn t=false by simpa using List.all_eq_true.1 hall t hm)⟩)
    (by kernel_rfl)
end Go.Proofs.YtemomocmfggiaaaGreatDoor
