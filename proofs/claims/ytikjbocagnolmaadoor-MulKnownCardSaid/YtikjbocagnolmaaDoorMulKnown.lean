/- Proved here: law19.MulKnown returns true for every input, and leaves what it was handed as it was; the package variable that it reads is tied to the program's text (the card). Conditions: none but the row's own. -/
import Derived.Test.YtikjbocagnolmaaDoorLawP
import Derived.Test.YtikjbocagnolmaaDoorH2
namespace Go.Proofs.YtikjbocagnolmaaDoor
set_option linter.unusedVariables false
open Go.ChangeShapes Go.WideShapes Go.ChangeAt Go.WideMaps Go.WideElems Go.RowKit

theorem true_MulKnown (l : List Int) (h : l.length = 0) : F_law19_MulKnown l = [1] := by
  rw [List.length_eq_zero_iff.1 h]; kernel_rfl
set_option maxRecDepth 100000 in
theorem mulKnown_lifted (os : Os) (started : os.Started) (H : Type) (enc : TypeId × Value → H) :
    ReturnsInHanded {} Tryd.checked os 9 .any (fun w args => (Rows.mulKnownSpec.pre enc Tryd.prog Tryd.f9 [] false w args ∧ laidMetH Tryd.prog laidL w) ∧ sizedMet enc Tryd.prog Tryd.f9 (OpenSpec.ofChange Rows.mulKnownSpec) false w args)
      (Rows.mulKnownSpec.post enc Tryd.prog Tryd.f9 false true false false) := by
  refine returnsInHanded_of_change_and (C := Tryd.checked) (X := fun w _ => laidMetH Tryd.prog laidL w) (fun _ _ _ hh h => h.of_heap hh) knob started (by kernel_rfl) Tryd.func9
    (ChangeSpec.witness_shaped (enc := enc) (C := Tryd.checked) (os := os) (X := fun w _ => laidMetH Tryd.prog laidL w) false (World.doorLaid Tryd.prog 400 os) #[] 8 rfl (World.shaped_of_RefB (by kernel_rfl) (by kernel_rfl)) (by kernel_rfl) (by kernel_rfl) (by kernel_rfl) (door_met os _)) ?_
  intro W base args ds gs before hval0 hW _ hsz hL _
  have hval : ∀ (j : Nat) t v, Tryd.f9.params[j]? = some t → args[j]? = some v → Value.okWide Tryd.prog W .any base t v := hval0
  have hW' := hW
  obtain ⟨p, q, hA0, hV, rfl, hfz, hnd⟩ := hW
  have hA : DataW.TrodAll enc Tryd.prog W 0 (fun _ => true) true Tryd.f9.params.toList args.toList ds p := hA0
  rw [Tryd.params9] at hA hval
  obtain ⟨hargs, rfl, rfl⟩ := trodAll_nil hA
  obtain rfl : args = #[] := by cases args; simp_all
  obtain ⟨rfl, rfl⟩ := trodVars_none hV
  clear hA0 hval0
  refine (law_c e_law19_MulKnown Tryd.func9 (by kernel_rfl) (by kernel_rfl) rfl [] [] rfl rfl (true_MulKnown _ rfl) W (gl_of_laid hL)).mono fun e W' ⟨he, hg⟩ => ?_
  subst he
  have hg' : Below W.heap.size W W' := hg
  exact ⟨_, rfl, ⟨_, _, _, [], _, [], hW', trodAll_mk1 (shut_bool Tryd.underlying4 _), trodAll_mk0, rfl, hg'.frame _, fun h => by cases h⟩⟩
theorem mulKnown_row : Rows.MulKnownSaid :=
  OpenClaim.holds_of_wide 9 Tryd.f9 rfl rfl rfl rfl rfl rfl rfl ⟨rfl, rfl, rfl, rfl, rfl⟩ rfl rfl rfl rfl rfl (by kernel_rfl) Tryd.func9 (by kernel_rfl)
    (of_decide_eq_true (by kernel_rfl)) (by unfold Func.isWrapper; first | (rw [if_pos (by decide +kernel)]; kernel_rfl) | (rw [if_neg (by decide +kernel)]; exact ⟨rfl, rfl⟩))
    (fun os started H enc _ => mulKnown_lifted os started H enc)
theorem mulKnown_card : Rows.MulKnownCardSaid :=
  Claim7.holds_tied_plain_at .later [] laidK true (true, "432fb0fd2245206525dd590d1f3ef6c1f624b1b3a61d98f65d60bfa2a90895d0") false
    mulKnown_row (fun _ h => by cases h) (by kernel_rfl) (fun _ h => by cases h) mulKnown_row_tie rfl ⟨rfl, rfl⟩ (by kernel_rfl) rfl
    (fun f fn hf hfn => by
      obtain rfl : f = 9 := Option.some.inj ((show Tryd.prog.funcNamed "hairsbreadth/hairsbreadthlaw19.MulKnown" = some 9 by kernel_rfl).symm.trans hf) |>.symm
      obtain rfl : fn = Tryd.f9 := (Option.some.inj (Tryd.func9.symm.trans hfn)).symm
      exact ⟨by kernel_rfl, fun j t ht => by
        rw [Tryd.params9] at ht
        simp at ht⟩)
    (by kernel_rfl)
end Go.Proofs.YtikjbocagnolmaaDoor
