import Derived.Test.YtemomocmfggiaaaGreatDoorW14U2
import Derived.Test.YtemomocmfggiaaaGreatDoorH1U2
import Derived.Test.YtemomocmfggiaaaGreatDoorK1U2
import Derived.Test.YtemomocmfggiaaaGreatDoorSxTU2
namespace Go.Proofs.YtemomocmfggiaaaGreatDoor
set_option linter.unusedVariables false
set_option linter.unusedSimpArgs false
set_option maxRecDepth 100000
open Go.RowKit
def smPick (f q : SV) (i : Nat) (x : Option SV) : Option SV := match Nat.beq i 11 with
 | true => some f
 | false => match Nat.beq i 12 with
  | true => some q
  | false => match Nat.beq i 10 with
   | true => none
   | false => match Nat.ble 52 i, Nat.ble i 60 with
    | true, true => none
    | _, _ => x
def smGo (f q : SV) : Nat → SRegs → SRegs
 | _, [] => []
 | i, x :: l => forceNat (Nat.succ i) fun j => smPick f q i x :: smGo f q j l
theorem smGo_get (f q : SV) : ∀ (T : SRegs) (i t : Nat) (y : SV), rget (smGo f q i T) t = some y → smPick f q (i + t) (rget T t) = some y
 | [], i, t, y, h => by rw [smGo] at h; cases h
 | x :: l, i, 0, y, h => by rw [smGo, forceNat_eq] at h; exact h
 | x :: l, i, t + 1, y, h => by
  rw [smGo, forceNat_eq] at h
  have := smGo_get f q l (i + 1) t y h
  rw [show i + (t + 1) = i + 1 + t by omega]; exact this
theorem smGo_len (f q : SV) : ∀ (T : SRegs) (i : Nat), (smGo f q i T).length = T.length
 | [], i => rfl
 | x :: l, i => by rw [smGo, forceNat_eq, List.length_cons, smGo_len f q l, List.length_cons]
theorem smGo_den {f q : SV} {s : Sig} {T : SRegs} {c : Int} (hf : f.den s = .v (smF c)) (hq : q.den s = .v (.bool (smQ c))) : ∀ t x, SRegs.den s (smGo f q 0 T) t = some x → smT (SRegs.den s T) c t = some x := by
 intro t x h
 unfold SRegs.den at h
 cases hg : rget (smGo f q 0 T) t with
 | none => rw [hg] at h; cases h
 | some y =>
  rw [hg] at h
  simp only [Option.map_some, Option.some.injEq] at h
  have h2 := smGo_get f q T 0 t y hg
  rw [Nat.zero_add] at h2
  unfold smPick at h2
  unfold smT
  split at h2
  ·rename_i hb
   rw [if_pos (Nat.eq_of_beq_eq_true hb)]
   cases h2; rw [← h, hf]
  ·rename_i hb
   have n11 : ¬ t = 11 := fun e => by rw [e] at hb; cases hb
   rw [if_neg n11]
   split at h2
   ·rename_i hb2
    rw [if_pos (Nat.eq_of_beq_eq_true hb2)]
    cases h2; rw [← h, hq]
   ·rename_i hb2
    have n12 : ¬ t = 12 := fun e => by rw [e] at hb2; cases hb2
    rw [if_neg n12]
    split at h2
    ·cases h2
    ·rename_i hb3
     have n10 : ¬ t = 10 := fun e => by rw [e] at hb3; cases hb3
     split at h2
     ·cases h2
     ·rename_i hb4
      rw [if_neg (fun e => by
       rcases e with e | ⟨e1, e2⟩
       ·exact n10 e
       ·exact hb4 (Nat.ble_eq_true_of_le e1) (Nat.ble_eq_true_of_le e2))]
      unfold SRegs.den
      rw [h2, ← h]; rfl
noncomputable def afterS (C : SCx) (f : Nat) (st : St) : Tr' (Exit × St) := (exec C f XXs st).bind fun r => match r.1 with | .normal => exec C f YYs r.2 | _ => .leaf r
def fnS (g : FuncId) : SV := .v (.func (.func g) #[] #[])
def clsS (st : St) : Option X := match rget st.T 7 with
 | some (.loc b 0) => match hget st.H b with
  | some o => match o.t, o.c with
   | some _, _ :: .int .u8 x :: _ => some x
   | _, _ => none
  | none => none
 | _ => none
noncomputable def hookS (C : SCx) (f : Nat) : HookF := fun _ st => match clsS st, Nat.ble 103 st.T.length with
 | some x, true => iteF st.fc (.bin .eql .u8 x (.lit 0)) fun b fc => match b with
  | true => afterS C f { st with T := smGo (fnS 152) (.bool (.lit 1)) 0 st.T, fc := fc }
  | false => iteF fc (.bin .eql .u8 x (.lit 3)) fun b fc => match b with
   | true => afterS C f { st with T := smGo (fnS 141) (.bool (.lit 1)) 0 st.T, fc := fc }
   | false => afterS C f { st with T := smGo (.v .nilFunc) (.bool (.lit 0)) 0 st.T, fc := fc }
 | _, _ => .stuck "map"
theorem clsS_den {s : Sig} {st : St} {x : X} (h : clsS st = some x) : ∃ b cs t, SRegs.den s st.T 7 = some (.loc b 0) ∧ SH.den s st.H b = some (.own cs t) ∧ cs[1]? = some (.v (.int .u8 (x.den s))) := by
 unfold clsS at h
 split at h
 ·rename_i b h7
  split at h
  ·rename_i o ho
   split at h
   ·rename_i t y x' l ht hc
    cases h
    refine ⟨b, SV.dens s o.c, t, ?_, ?_, ?_⟩
    ·unfold SRegs.den; rw [h7]; rfl
    ·unfold SH.den; rw [ho]; simp only [Option.map_some]; rw [SO.den_own s ht]
    ·rw [hc]; rfl
   ·cases h
  ·cases h
 ·cases h
theorem afterS_ok {L M : List Ent} {S : List EntS} (hC : SOK (ctxA L M S) eE) {s : Sig} {f : Nat} {st : St} {x : X} {fc : Facts} {fv q : SV} (hcl : clsS st = some x) (hlen : Nat.ble 103 st.T.length = true) (hfv : fv.den s = .v (smF (x.den s))) (hq : q.den s = .v (.bool (smQ (x.den s)))) (hf : FOK s fc)
  {ex : Exit} {st' : St} (h : (afterS (ctxA L M S) f { st with T := smGo fv q 0 st.T, fc := fc }).path (ctxA L M S).Φ s = some (ex, st')) : ESpec (ctxA L M S) eE s nodeS st ex st' := by
 obtain ⟨b, cs, t, h7, hb, hc⟩ := clsS_den (s := s) hcl
 have hld : ldCells Tryz.prog 75 cs 1 = some (.v (.int .u8 (x.den s))) := by
  unfold ldCells; rw [show tyAgg Tryz.prog 75 = some false by kernel_rfl]; exact hc
 have hfa : evFieldAddr Tryz.prog 170 1 (.loc b 0) = some (.loc b 1) := by
  unfold evFieldAddr; rw [show tyFld Tryz.prog 170 1 = some (1, 75) by kernel_rfl]; simp only []; rw [show tySize Tryz.prog 75 = some (0 + 1) by kernel_rfl]
 have hw := fun w0 B0 Q h => sm_walk (E := eE) (w0 := w0) (B0 := B0) (N := st.N) (Q := Q) (Nat.le_of_ble_eq_true hlen) h7 hb hld hfa (smGo_den (T := st.T) hfv hq) h
 unfold afterS at h
 obtain ⟨ex1, st1, h1, h2⟩ := bind_exit h
 have s1 := (exec_ok (E := eE) (s := s) hC f).1 _ _ _ _ h1 hf
 have l0 : (smGo fv q 0 st.T).length = st.T.length := smGo_len _ _ _ _
 have l1 : st1.T.length = st.T.length := s1.len.trans l0
 have aw1 := s1.aw
 simp only [l0] at aw1
 rcases normal_path h2 with ⟨rfl, h3⟩ | ⟨hx, h3⟩
 ·have s2 := (exec_ok (E := eE) (s := s) hC f).1 _ _ _ _ h3 s1.fc
  refine ⟨fun w0 B0 => hw w0 B0 _ ((aw1 w0 B0).mono ?_), s2.len.trans l1, fun j hj => ?_, s2.fc⟩
  ·rintro y N T H ⟨rfl, rfl, rfl, rfl⟩
   have := s2.aw w0 B0
   rw [l1] at this
   exact this
  ·obtain ⟨a, b⟩ := s2.dt j hj
   obtain ⟨a', b'⟩ := s1.dt j a
   exact ⟨a', b.trans b'⟩
 ·cases h3
  refine ⟨fun w0 B0 => hw w0 B0 _ ((aw1 w0 B0).mono ?_), l1, s1.dt, s1.fc⟩
  rintro y N T H ⟨rfl, rfl, rfl, rfl⟩
  exact thenA_not hx ⟨rfl, rfl, rfl, rfl⟩
theorem good_S {L M : List Ent} {S : List EntS} (hC : SOK (ctxA L M S) eE) (s : Sig) (f : Nat) : Good (ctxA L M S) eE s (hookS (ctxA L M S) f) (0, nodeS) := by
 intro st ex st' h hf
 unfold hookS at h
 split at h
 ·rename_i x hx hlen
  obtain ⟨fc1, hf1, h⟩ := iteF_path hf h
  have e0 : ((X.bin .eql .u8 x (.lit 0)).den s != 0) = decide (x.den s = 0) := by
   simp only [X.den, iOp, b2i_ne]; rw [Bool.eq_iff_iff, beq_iff_eq, decide_eq_true_iff]
  rw [e0] at h
  by_cases c0 : x.den s = 0
  ·rw [decide_eq_true c0] at h
   exact afterS_ok hC hx hlen (by rw [c0]; rfl) (by rw [c0]; rfl) hf1 h
  ·rw [decide_eq_false c0] at h
   obtain ⟨fc2, hf2, h⟩ := iteF_path hf1 h
   have e3 : ((X.bin .eql .u8 x (.lit 3)).den s != 0) = decide (x.den s = 3) := by
    simp only [X.den, iOp, b2i_ne]; rw [Bool.eq_iff_iff, beq_iff_eq, decide_eq_true_iff]
   rw [e3] at h
   by_cases c3 : x.den s = 3
   ·rw [decide_eq_true c3] at h
    exact afterS_ok hC hx hlen (by rw [c3]; rfl) (by rw [c3]; rfl) hf2 h
   ·rw [decide_eq_false c3] at h
    have hF : smF (x.den s) = .nilFunc := by unfold smF; rw [if_neg c0, if_neg c3]
    have hQ : smQ (x.den s) = false := decide_eq_false (by omega)
    exact afterS_ok hC hx hlen (by rw [hF]; rfl) (by rw [hQ]; rfl) hf2 h
 ·cases h
theorem body_S {fn : Func} {cd : Code} (h1 : Tryz.prog.funcs[88]? = some fn) (h2 : fn.body = some cd) : cd = bodyS := by
 rw [Tryz.func88] at h1
 cases h1
 unfold bodyS
 rw [h2]; rfl
theorem ent_S {L M : List Ent} {S : List EntS} (hC : SOKT (ctxA L M S) eE) (f n : Nat) {ct : Ct} {t : Tr' SV} (h : execFH (ctxA L M S) keyS (hookS (ctxA L M S) f) n 88 (uns ct.a (varsAt 0 (kindsOf ct.a))) (kindsOf ct.a).length = t) (hs : checkT (ctAny (ctxA L M S)) ct (kindsOf ct.a).length t = true) :
  EntOK (ctxA L M S).P (ctxA L M S).G ⟨88, ct, treeF (ctxA L M S).Φ ct t⟩ := fun l hl =>
 ctH_of hC.ok (fun s fn cd h1 h2 p hp => by
  rw [body_S h1 h2, keyedS] at hp
  rw [List.mem_singleton.1 hp]
  exact good_S hC.ok s f) h (checkT_scoped hs) l hl (checkT_any hC (by rw [hl]; exact hs))
end Go.Proofs.YtemomocmfggiaaaGreatDoor
