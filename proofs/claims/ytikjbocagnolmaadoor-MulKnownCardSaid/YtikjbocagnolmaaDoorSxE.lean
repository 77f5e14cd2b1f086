/- Comparisons of structs and arrays of this seat, as a table. No function of the program. -/
import Derived.Test.YtikjbocagnolmaaDoorSx9
import Derived.Test.YtikjbocagnolmaaDoorW4
namespace Go.Proofs.YtikjbocagnolmaaDoor
set_option linter.unusedVariables false
set_option linter.unusedSimpArgs false
open Go.RowKit
def eqBits : Value → Value → Option Bool
  | .agg xs, .agg ys => match xs.toList, ys.toList with
    | [.int .u64 a, .int .u64 b], [.int .u64 c, .int .u64 d] => some (a == c && b == d)
    | _, _ => none
  | _, _ => none
def eqWide : Value → Value → Option Bool
  | .agg xs, .agg ys => match xs.toList, ys.toList with
    | [.int .u64 a, .int .u64 b, .int .u64 c, .int .u64 d], [.int .u64 a', .int .u64 b', .int .u64 c', .int .u64 d'] => some (a == a' && (b == b' && (c == c' && d == d')))
    | _, _ => none
  | _, _ => none
def eqRes : Value → Value → Option Bool
  | .agg xs, .agg ys => match xs.toList, ys.toList with
    | [.int .u64 a, .int .u64 b, .int .u8 c], [.int .u64 a', .int .u64 b', .int .u8 c'] => some ((a == a' && b == b') && c == c')
    | _, _ => none
  | _, _ => none
def eqFun : Value → Value → Option Bool
  | .func _ _ _, .nilFunc => some false
  | .nilFunc, .nilFunc => some true
  | _, _ => none
def eqAt (t : TypeId) (x y : Value) : Option Bool :=
  if t = 28 then eqBits x y else if t = 53 then eqWide x y else if t = 32 then eqRes x y else if t = 36 then eqFun x y else none
def eE : EqT := fun op t x y => match op with
  | .eql => match eqAt t x y with | some b => some (.bool b) | none => none
  | .neq => match eqAt t x y with | some b => some (.bool (!b)) | none => none
  | _ => none
theorem part_int (w : World) {k : IntKind} {e : TypeId} (hu : Tryd.prog.underlying e = some (.int k)) (xs : Array Value) (i : Nat) (v : Value) (h : xs[i]? = some v) : (part e xs i).run Tryd.prog w = .ok v w := by
  simp [part, isAgg, run_underlying hu, h]
theorem fields_bits : (Tryd.prog.fieldsOf 28).toList.map (fun f => (f.name != "_", f.offset, f.type)) = [(true, 0, 26), (true, 1, 26)] := by kernel_rfl
theorem fields_res : (Tryd.prog.fieldsOf 32).toList.map (fun f => (f.name != "_", f.offset, f.type)) = [(true, 0, 28), (true, 2, 30)] := by kernel_rfl
theorem run_bits (w : World) (n : Nat) (a b c d : Int) : (Op.equalIn (n + 2) 28 (.agg #[.int .u64 a, .int .u64 b]) (.agg #[.int .u64 c, .int .u64 d])).run Tryd.prog w = .ok (a == c && b == d) w := by
  have hu : Tryd.prog.underlying 26 = some (.int .u64) := by kernel_rfl
  rw [run_equalIn_struct w (n + 1) _ _ _ (by kernel_rfl) (by kernel_rfl)]
  obtain ⟨f0, f1, hf, h0, h1⟩ : ∃ f0 f1 : Field, (Tryd.prog.fieldsOf 28).toList = [f0, f1] ∧ (f0.name ≠ "_" ∧ f0.offset = 0 ∧ f0.type = 26) ∧ (f1.name ≠ "_" ∧ f1.offset = 1 ∧ f1.type = 26) := by
    have := fields_bits
    match hl : (Tryd.prog.fieldsOf 28).toList with
    | [f0, f1] => rw [hl] at this; simp at this; exact ⟨f0, f1, rfl, ⟨by simpa using this.1.1, this.1.2.1, this.1.2.2⟩, ⟨by simpa using this.2.1, this.2.2.1, this.2.2.2⟩⟩
    | [] => rw [hl] at this; simp at this
    | [_] => rw [hl] at this; simp at this
    | _ :: _ :: _ :: _ => rw [hl] at this; simp at this
  rw [hf]
  have p0 (x y : Value) : (part 26 #[x, y] 0).run Tryd.prog w = .ok x w := part_int w hu _ _ _ rfl
  have p1 (x y : Value) : (part 26 #[x, y] 1).run Tryd.prog w = .ok y w := part_int w hu _ _ _ rfl
  have q (x y : Int) : (Op.equalIn (n + 1) 26 (.int .u64 x) (.int .u64 y)).run Tryd.prog w = .ok (x == y) w := run_equalIn_int w n _ .u64 .u64 x y hu
  simp only [Op.eqFields, h0.1, h0.2.1, h0.2.2, h1.1, h1.2.1, h1.2.2, ne_eq, not_true_eq_false, not_false_eq_true, if_true, Sem.run_bind, p0, p1, q, Result.andThen_ok]
  cases (a == c) <;> cases hbd : (b == d) <;> simp [p1, q, hbd, Op.eqFields]
theorem run_res (w : World) (a b a' b' c c' : Int) : (Op.equalIn 10000 32 (.agg #[.int .u64 a, .int .u64 b, .int .u8 c]) (.agg #[.int .u64 a', .int .u64 b', .int .u8 c'])).run Tryd.prog w = .ok ((a == a' && b == b') && c == c') w := by
  have hu : Tryd.prog.underlying 30 = some (.int .u8) := by kernel_rfl
  rw [run_equalIn_struct w 9999 _ _ _ (by kernel_rfl) (by kernel_rfl)]
  obtain ⟨f0, f1, hf, h0, h1⟩ : ∃ f0 f1 : Field, (Tryd.prog.fieldsOf 32).toList = [f0, f1] ∧ (f0.name ≠ "_" ∧ f0.offset = 0 ∧ f0.type = 28) ∧ (f1.name ≠ "_" ∧ f1.offset = 2 ∧ f1.type = 30) := by
    have := fields_res
    match hl : (Tryd.prog.fieldsOf 32).toList with
    | [f0, f1] => rw [hl] at this; simp at this; exact ⟨f0, f1, rfl, ⟨by simpa using this.1.1, this.1.2.1, this.1.2.2⟩, ⟨by simpa using this.2.1, this.2.2.1, this.2.2.2⟩⟩
    | [] => rw [hl] at this; simp at this
    | [_] => rw [hl] at this; simp at this
    | _ :: _ :: _ :: _ => rw [hl] at this; simp at this
  rw [hf]
  have p0 (x y z : Value) : (part 28 #[x, y, z] 0).run Tryd.prog w = .ok (.agg #[x, y]) w := by
    simp [part, run_isAgg (P := Tryd.prog) (t := 28) (b := true) (by kernel_rfl), run_sizeOf (P := Tryd.prog) (t := 28) (s := 2) (by kernel_rfl)]
  have p1 (x y z : Value) : (part 30 #[x, y, z] 2).run Tryd.prog w = .ok z w := part_int w hu _ _ _ rfl
  have q (x y : Int) : (Op.equalIn 9999 30 (.int .u8 x) (.int .u8 y)).run Tryd.prog w = .ok (x == y) w := run_equalIn_int w 9998 _ .u8 .u8 x y hu
  have qb := run_bits w 9997 a b a' b'
  simp only [Op.eqFields, h0.1, h0.2.1, h0.2.2, h1.1, h1.2.1, h1.2.2, ne_eq, not_true_eq_false, not_false_eq_true, if_true, Sem.run_bind, p0, p1, q, qb, Result.andThen_ok]
  cases (a == a' && b == b') <;> cases hcd : (c == c') <;> simp [p1, q, hcd, Op.eqFields]
theorem run_wide (w : World) (a b c d a' b' c' d' : Int) : (Op.equalIn 10000 53 (.agg #[.int .u64 a, .int .u64 b, .int .u64 c, .int .u64 d]) (.agg #[.int .u64 a', .int .u64 b', .int .u64 c', .int .u64 d'])).run Tryd.prog w = .ok (a == a' && (b == b' && (c == c' && d == d'))) w := by
  have hu : Tryd.prog.underlying 26 = some (.int .u64) := by kernel_rfl
  obtain ⟨i, hi⟩ : ∃ i, Tryd.prog.info? 26 = some i := Option.isSome_iff_exists.1 (by kernel_rfl)
  rw [run_equalIn_array (P := Tryd.prog) (w := w) (d := 9999) (e := 26) (n := 4) _ _ (by kernel_rfl) hi]
  rw [show Tryd.prog.cellsOf 26 = 1 by kernel_rfl, show List.range 4 = [0, 1, 2, 3] by decide]
  have p0 (x0 x1 x2 x3 : Value) : (part 26 #[x0, x1, x2, x3] 0).run Tryd.prog w = .ok x0 w := part_u64 w hu _ _ _ rfl
  have p1 (x0 x1 x2 x3 : Value) : (part 26 #[x0, x1, x2, x3] 1).run Tryd.prog w = .ok x1 w := part_u64 w hu _ _ _ rfl
  have p2 (x0 x1 x2 x3 : Value) : (part 26 #[x0, x1, x2, x3] 2).run Tryd.prog w = .ok x2 w := part_u64 w hu _ _ _ rfl
  have p3 (x0 x1 x2 x3 : Value) : (part 26 #[x0, x1, x2, x3] 3).run Tryd.prog w = .ok x3 w := part_u64 w hu _ _ _ rfl
  have q (x y : Int) : (Op.equalIn 9999 26 (.int .u64 x) (.int .u64 y)).run Tryd.prog w = .ok (x == y) w := run_equalIn_int w 9998 _ .u64 .u64 x y hu
  simp only [Op.eqItems, Sem.run_bind, Nat.mul_one]
  rw [p0, Result.andThen_ok, p0, Result.andThen_ok, q, Result.andThen_ok]
  cases (a == a')
  · rfl
  rw [if_neg (by decide)]
  simp only [Sem.run_bind]
  rw [p1, Result.andThen_ok, p1, Result.andThen_ok, q, Result.andThen_ok]
  cases (b == b')
  · rfl
  rw [if_neg (by decide)]
  simp only [Sem.run_bind]
  rw [p2, Result.andThen_ok, p2, Result.andThen_ok, q, Result.andThen_ok]
  cases (c == c')
  · rfl
  rw [if_neg (by decide)]
  simp only [Sem.run_bind]
  rw [p3, Result.andThen_ok, p3, Result.andThen_ok, q, Result.andThen_ok]
  cases (d == d')
  · rfl
  rfl
/-- what a comparison comes to, and its guard -/
theorem eqAt_run {t : TypeId} {x y : Value} {b : Bool} (h : eqAt t x y = some b) (w : World) : (∀ op xo yo, (eqGuard op t xo yo x y).run Tryd.prog w = .ok () w) ∧ (binOp .eql t x y).run Tryd.prog w = .ok (.bool b) w ∧ (binOp .neq t x y).run Tryd.prog w = .ok (.bool (!b)) w := by
  have agg : ∀ (xs ys : Array Value), Tryd.prog.eqGuardType Tryd.prog.depth t = false → (Op.equalIn 10000 t (.agg xs) (.agg ys)).run Tryd.prog w = .ok b w →
      (∀ op xo yo, (eqGuard op t xo yo (.agg xs) (.agg ys)).run Tryd.prog w = .ok () w) ∧ (binOp .eql t (.agg xs) (.agg ys)).run Tryd.prog w = .ok (.bool b) w ∧ (binOp .neq t (.agg xs) (.agg ys)).run Tryd.prog w = .ok (.bool (!b)) w := by
    intro xs ys hg he
    refine ⟨fun op xo yo => run_eqGuard_agg w op t xo yo xs ys hg, ?_, ?_⟩
    · rw [run_eql_struct, he]; rfl
    · rw [run_neq_struct, he]; rfl
  have lst : ∀ {xs : Array Value} {l : List Value}, xs.toList = l → xs = l.toArray := fun h => by rw [← h]
  unfold eqAt at h
  split at h
  · rename_i ht; subst ht
    unfold eqBits at h
    split at h
    · split at h
      · rename_i h1 h2
        cases h
        rw [lst h1, lst h2]
        exact agg _ _ (by kernel_rfl) (run_bits w 9998 _ _ _ _)
      · cases h
    · cases h
  · split at h
    · rename_i ht; subst ht
      unfold eqWide at h
      split at h
      · split at h
        · rename_i h1 h2
          cases h
          rw [lst h1, lst h2]
          exact agg _ _ (by kernel_rfl) (run_wide w _ _ _ _ _ _ _ _)
        · cases h
      · cases h
    · split at h
      · rename_i ht; subst ht
        unfold eqRes at h
        split at h
        · split at h
          · rename_i h1 h2
            cases h
            rw [lst h1, lst h2]
            exact agg _ _ (by kernel_rfl) (run_res w _ _ _ _ _ _)
          · cases h
        · cases h
      · split at h
        · rename_i ht; subst ht
          have hu := Tryd.underlying36
          unfold eqFun at h
          split at h
          · cases h
            refine ⟨fun op xo yo => by cases op <;> rfl, ?_, ?_⟩
            · simp only [binOp]; simp [Op.equal, Op.maxDepth]
              show ((Op.equalIn (9999 + 1) _ _ _).run _ w).andThen _ = _
              rw [Op.equalIn]; simp [run_underlying hu]
            · simp only [binOp]; simp [Op.equal, Op.maxDepth]
              show ((Op.equalIn (9999 + 1) _ _ _).run _ w).andThen _ = _
              rw [Op.equalIn]; simp [run_underlying hu]
          · cases h
            refine ⟨fun op xo yo => by cases op <;> rfl, ?_, ?_⟩
            · simp only [binOp]; simp [Op.equal, Op.maxDepth]
              show ((Op.equalIn (9999 + 1) _ _ _).run _ w).andThen _ = _
              rw [Op.equalIn]; simp [run_underlying hu]
            · simp only [binOp]; simp [Op.equal, Op.maxDepth]
              show ((Op.equalIn (9999 + 1) _ _ _).run _ w).andThen _ = _
              rw [Op.equalIn]; simp [run_underlying hu]
          · cases h
        · cases h
theorem eOK : EqOK Tryd.prog eE := by
  intro op t x y v h xo yo w
  unfold eE at h
  split at h
  · split at h
    · rename_i b hb
      cases h
      obtain ⟨h1, h2, h3⟩ := eqAt_run hb w
      simp only [Sem.run_bind, h1, h2, Result.andThen_ok]
    · cases h
  · split at h
    · rename_i b hb
      cases h
      obtain ⟨h1, h2, h3⟩ := eqAt_run hb w
      simp only [Sem.run_bind, h1, h3, Result.andThen_ok]
    · cases h
  · cases h
/-! ### the same on symbolic values -/
def seqK : List IntKind → List SV → List SV → Option X
  | [], [], [] => some (.lit (.ofNat 1))
  | k :: ks, .int k1 a :: l, .int k2 b :: m => match kEq k k1, kEq k k2, seqK ks l m with
    | true, true, some r => some (mkAnd (mkBin .eql k a b) r)
    | _, _, _ => none
  | _, _, _ => none
def ivals : List IntKind → List Int → List Value
  | k :: ks, n :: ns => .int k n :: ivals ks ns
  | _, _ => []
def eqAll : List Int → List Int → Bool
  | a :: us, b :: zs => a == b && eqAll us zs
  | _, _ => true
theorem seqK_ok (s : Sig) : ∀ {ks : List IntKind} {l m : List SV} {r : X}, seqK ks l m = some r → ∃ us zs : List Int, SV.dens s l = (ivals ks us).map .v ∧ SV.dens s m = (ivals ks zs).map .v ∧ us.length = ks.length ∧ zs.length = ks.length ∧ (r.den s != 0) = eqAll us zs
  | [], [], [], r, h => by cases h; exact ⟨[], [], rfl, rfl, rfl, rfl, rfl⟩
  | k :: ks, .int k1 a :: l, .int k2 b :: m, r, h => by
    simp only [seqK] at h
    split at h
    · rename_i q h1 h2 h3
      cases h
      have h1 := kEq_eq h1; have h2 := kEq_eq h2; subst h1; subst h2
      obtain ⟨us, zs, e1, e2, e3, e4, e5⟩ := seqK_ok s h3
      refine ⟨a.den s :: us, b.den s :: zs, ?_, ?_, by simp [e3], by simp [e4], ?_⟩
      · rw [SV.dens, e1]; rfl
      · rw [SV.dens, e2]; rfl
      · rw [mkAnd_den, b2i_ne, mkBin_den, e5]
        simp only [iOp, b2i_ne, eqAll]
    · cases h
  | [], [], _ :: _, r, h => by simp [seqK] at h
  | [], _ :: _, _, r, h => by simp [seqK] at h
  | _ :: _, [], _, r, h => by simp [seqK] at h
  | _ :: _, .int _ _ :: _, [], r, h => by simp [seqK] at h
  | _ :: _, .int _ _ :: _, .v _ :: _, r, h => by simp [seqK] at h
  | _ :: _, .int _ _ :: _, .bool _ :: _, r, h => by simp [seqK] at h
  | _ :: _, .int _ _ :: _, .loc _ _ :: _, r, h => by simp [seqK] at h
  | _ :: _, .int _ _ :: _, .sl _ _ _ _ :: _, r, h => by simp [seqK] at h
  | _ :: _, .int _ _ :: _, .fn _ _ _ :: _, r, h => by simp [seqK] at h
  | _ :: _, .int _ _ :: _, .tup _ :: _, r, h => by simp [seqK] at h
  | _ :: _, .int _ _ :: _, .agg _ :: _, r, h => by simp [seqK] at h
  | _ :: _, .v _ :: _, _, r, h => by simp [seqK] at h
  | _ :: _, .bool _ :: _, _, r, h => by simp [seqK] at h
  | _ :: _, .loc _ _ :: _, _, r, h => by simp [seqK] at h
  | _ :: _, .sl _ _ _ _ :: _, _, r, h => by simp [seqK] at h
  | _ :: _, .fn _ _ _ :: _, _, r, h => by simp [seqK] at h
  | _ :: _, .tup _ :: _, _, r, h => by simp [seqK] at h
  | _ :: _, .agg _ :: _, _, r, h => by simp [seqK] at h
def aggL : SV → Option (List SV)
  | .agg l => some l
  | .v (.agg cs) => some (cs.toList.map ofV)
  | _ => none
theorem aggL_ok {s : Sig} {x : SV} {l : List SV} {vs : List Value} (h : aggL x = some l) (hd : SV.dens s l = vs.map .v) : x.den s = .v (.agg vs.toArray) := by
  unfold aggL at h
  split at h
  · cases h; simp only [SV.den, hd, mkAgg_v]
  · rename_i cs
    cases h
    rw [dens_ofV] at hd
    have := congrArg allV hd
    rw [allV_v, allV_v] at this
    have := Option.some.inj this
    simp only [SV.den, ← this]
  · cases h
def funS : SV → Option (Option Value)
  | .v .nilFunc => some none
  | .v (.func f a c) => some (some (.func f a c))
  | .fn f [] [] => some (some (.func f #[] #[]))
  | _ => none
def kindsE (t : TypeId) : Option (List IntKind) := match Nat.beq t 28 with
  | true => some [.u64, .u64]
  | false => match Nat.beq t 53 with
    | true => some [.u64, .u64, .u64, .u64]
    | false => match Nat.beq t 32 with
      | true => some [.u64, .u64, .u8]
      | false => none
def seT : SEq := fun t x y => match kindsE t with
  | some ks => match aggL x, aggL y with
    | some l, some m => seqK ks l m
    | _, _ => none
  | none => match Nat.beq t 36 with
    | true => match funS x, funS y with
      | some (some _), some none => some (.lit (.ofNat 0))
      | some none, some none => some (.lit (.ofNat 1))
      | _, _ => none
    | false => none
theorem seT_ok : SEqOK Tryd.prog seT eE := by
  intro t x y r s h
  unfold seT at h
  have pb : ∀ (u v : List Value) op, pBin Tryd.prog op t (.agg u.toArray) (.agg v.toArray) = none := fun u v op => rfl
  have fin : ∀ (a b : Value) (q : Bool), pBin Tryd.prog .eql t a b = none → pBin Tryd.prog .neq t a b = none → eqAt t a b = some q → x.den s = .v a → y.den s = .v b → (r.den s != 0) = q →
      ∃ a b, x.den s = .v a ∧ y.den s = .v b ∧ pBin Tryd.prog .eql t a b = none ∧ pBin Tryd.prog .neq t a b = none ∧ eE .eql t a b = some (.bool (r.den s != 0)) ∧ eE .neq t a b = some (.bool (!(r.den s != 0))) := fun a b q h1 h2 h3 h4 h5 h6 =>
    ⟨a, b, h4, h5, h1, h2, by simp only [eE, h3, h6], by simp only [eE, h3, h6]⟩
  split at h
  · rename_i ks hk
    split at h
    · rename_i l m hl hm
      obtain ⟨us, zs, e1, e2, e3, e4, e5⟩ := seqK_ok s h
      have hx := aggL_ok hl e1
      have hy := aggL_ok hm e2
      refine fin _ _ (eqAll us zs) (pb _ _ _) (pb _ _ _) ?_ hx hy e5
      unfold kindsE at hk
      split at hk
      · rename_i ht
        cases hk
        have ht := beq_iff.1 ht
        match us, zs, e3, e4 with
        | [a, b], [c, d], _, _ =>
          unfold eqAt
          rw [if_pos ht]
          simp only [eqBits, ivals, eqAll, Bool.and_true]
      · rename_i ht0
        split at hk
        · rename_i ht
          cases hk
          have ht := beq_iff.1 ht
          match us, zs, e3, e4 with
          | [a, b, c, d], [a', b', c', d'], _, _ =>
            unfold eqAt
            rw [if_neg (fun e => by rw [e] at ht0; simp at ht0), if_pos ht]
            simp only [eqWide, ivals, eqAll, Bool.and_true]
        · rename_i ht1
          split at hk
          · rename_i ht
            cases hk
            have ht := beq_iff.1 ht
            match us, zs, e3, e4 with
            | [a, b, c], [a', b', c'], _, _ =>
              unfold eqAt
              rw [if_neg (fun e => by rw [e] at ht0; simp at ht0), if_neg (fun e => by rw [e] at ht1; simp at ht1), if_pos ht]
              simp only [eqRes, ivals, eqAll, Bool.and_true, Bool.and_assoc]
          · cases hk
    · cases h
  · split at h
    · rename_i hk ht
      have ht := beq_iff.1 ht
      have hf : ∀ {z : SV} {o : Option Value}, funS z = some o → z.den s = .v (match o with | none => .nilFunc | some v => v) ∧ ∀ v, o = some v → ∃ f a c, v = .func f a c := fun {z} {o} hz => by
        unfold funS at hz
        split at hz
        · cases hz; exact ⟨rfl, fun v hv => by cases hv⟩
        · cases hz; exact ⟨rfl, fun v hv => by cases hv; exact ⟨_, _, _, rfl⟩⟩
        · cases hz; exact ⟨rfl, fun v hv => by cases hv; exact ⟨_, _, _, rfl⟩⟩
        · cases hz
      have hne : t ≠ 28 ∧ t ≠ 53 ∧ t ≠ 32 := by rw [ht]; decide
      have at' : ∀ a b, eqAt t a b = eqFun a b := fun a b => by
        unfold eqAt; rw [if_neg hne.1, if_neg hne.2.1, if_neg hne.2.2, if_pos ht]
      split at h
      · rename_i v h1 h2
        cases h
        obtain ⟨hx, hv⟩ := hf h1
        obtain ⟨hy, _⟩ := hf h2
        obtain ⟨f, a, c, rfl⟩ := hv v rfl
        exact fin _ _ false rfl rfl (by rw [at']; rfl) hx hy rfl
      · rename_i h1 h2
        cases h
        obtain ⟨hx, _⟩ := hf h1
        obtain ⟨hy, _⟩ := hf h2
        exact fin _ _ true rfl rfl (by rw [at']; rfl) hx hy rfl
      · cases h
    · cases h
end Go.Proofs.YtikjbocagnolmaaDoor
