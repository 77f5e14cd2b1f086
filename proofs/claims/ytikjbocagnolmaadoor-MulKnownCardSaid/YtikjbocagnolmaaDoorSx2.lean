/- Symbolic values, and the operations of the language on them; that they are what is computed on abstract states. No function of the program. -/
import Derived.Test.YtikjbocagnolmaaDoorSxR
namespace Go.Proofs.YtikjbocagnolmaaDoor
set_option linter.unusedVariables false
set_option linter.unusedSimpArgs false
open Go.RowKit
inductive SV where
  | v (x : Value)
  | int (k : IntKind) (x : X)
  | bool (x : X)
  | loc (b off : Nat)
  | sl (b off len cap : Nat)
  | fn (f : Fn) (a c : List SV)
  | tup (l : List SV)
  | agg (l : List SV)
mutual
def SV.den (s : Sig) : SV → AV
  | .v x => .v x
  | .int k x => .v (.int k (x.den s))
  | .bool x => .v (.bool (x.den s != 0))
  | .loc b off => .loc b off
  | .sl b off len cap => .sl b off len cap
  | .fn f a c => mkFn f (SV.dens s a) (SV.dens s c)
  | .tup l => mkTup (SV.dens s l)
  | .agg l => mkAgg (SV.dens s l)
def SV.dens (s : Sig) : List SV → List AV
  | [] => []
  | x :: l => SV.den s x :: SV.dens s l
end
theorem SV.dens_map (s : Sig) : ∀ l : List SV, SV.dens s l = l.map (SV.den s)
  | [] => rfl
  | x :: l => by rw [SV.dens, SV.dens_map s l]; rfl
/-- a value that is known -/
def ofV (x : Value) : SV := match x with
  | .int k n => .int k (.lit n)
  | .bool b => .bool (.lit (b2i b))
  | x => .v x
theorem ofV_den (s : Sig) (x : Value) : (ofV x).den s = .v x := by
  cases x <;> first | rfl | (simp only [ofV, SV.den, X.den, b2i_ne])
def ofC (x : Value) : SV := match x with
  | .agg cs => .agg (cs.toList.map ofV)
  | x => ofV x
theorem dens_ofV (s : Sig) (l : List Value) : SV.dens s (l.map ofV) = l.map .v := by
  rw [SV.dens_map, List.map_map]
  apply List.map_congr_left; intro x _; exact ofV_den s x
theorem allV_v : ∀ l : List Value, allV (l.map .v) = some l
  | [] => rfl
  | x :: l => by rw [List.map_cons, allV, allV_v l]
theorem mkAgg_v (l : List Value) : mkAgg (l.map .v) = .v (.agg l.toArray) := by unfold mkAgg; rw [allV_v]
theorem mkTup_v (l : List Value) : mkTup (l.map .v) = .v (.tuple l.toArray) := by unfold mkTup; rw [allV_v]
theorem ofC_den (s : Sig) (x : Value) : (ofC x).den s = .v x := by
  unfold ofC; split
  · simp only [SV.den, dens_ofV, mkAgg_v]
  · exact ofV_den s _
/-- blocks -/
structure SO where
  c : List SV
  t : TypeId
def SO.den (s : Sig) (o : SO) : AO := .own (SV.dens s o.c) o.t
abbrev SH := List (Nat × SO)
def hget : SH → Nat → Option SO
  | [], _ => none
  | x :: l, k => match Nat.beq x.1 k with | true => some x.2 | false => hget l k
def SH.den (s : Sig) (H : SH) : AHeap := fun k => (hget H k).map (SO.den s)
abbrev SRegs := List (Option SV)
def rget : SRegs → Nat → Option SV
  | [], _ => none
  | x :: l, 0 => x
  | x :: l, n + 1 => rget l n
def SRegs.den (s : Sig) (T : SRegs) : Regs := fun t => (rget T t).map (SV.den s)
def rset {β : Sort _} : SRegs → Nat → SV → (SRegs → β) → β
  | [], _, _, k => k []
  | x :: l, 0, v, k => k (some v :: l)
  | x :: l, n + 1, v, k => rset l n v fun l' => k (x :: l')
def rsetP : SRegs → Nat → SV → SRegs
  | [], _, _ => []
  | _ :: l, 0, v => some v :: l
  | x :: l, n + 1, v => x :: rsetP l n v
theorem rset_eq {β : Sort _} : ∀ (T : SRegs) (n : Nat) (v : SV) (k : SRegs → β), rset T n v k = k (rsetP T n v)
  | [], _, _, _ => rfl
  | x :: l, 0, _, _ => rfl
  | x :: l, n + 1, v, k => by rw [rset, rset_eq l n v]; rfl
theorem rset_get : ∀ (T : SRegs) (n : Nat) (v : SV) (t : Nat), rget (rsetP T n v) t = if t = n ∧ n < T.length then some v else rget T t
  | [], n, v, t => by simp [rsetP]
  | x :: l, 0, v, 0 => by simp [rsetP, rget]
  | x :: l, 0, v, t + 1 => by simp [rsetP, rget]
  | x :: l, n + 1, v, t => by
    rw [rsetP]
    cases t with
    | zero => simp [rget]
    | succ t =>
      show rget (rsetP l n v) t = _
      rw [rset_get l n v t]; simp [rget]
theorem rset_len : ∀ (T : SRegs) (n : Nat) (v : SV), (rsetP T n v).length = T.length
  | [], _, _ => rfl
  | x :: l, 0, _ => rfl
  | x :: l, n + 1, v => by rw [rsetP]; simp [rset_len l n v]
theorem SRegs.den_set (s : Sig) (T : SRegs) (n : Nat) (v : SV) (h : n < T.length) : SRegs.den s (rsetP T n v) = (SRegs.den s T).put (some n) (v.den s) := by
  funext t
  unfold SRegs.den
  rw [rset_get]
  by_cases ht : t = n
  · subst ht; rw [if_pos ⟨rfl, h⟩, Regs.put_same]; rfl
  · rw [if_neg (fun e => ht e.1), Regs.put_ne _ _ _ ht]
def hset {β : Sort _} : SH → Nat → SO → (SH → β) → β
  | [], k, o, K => K [(k, o)]
  | x :: l, k, o, K => match Nat.beq x.1 k with
    | true => K ((k, o) :: l)
    | false => hset l k o fun l' => K (x :: l')
def hsetP : SH → Nat → SO → SH
  | [], k, o => [(k, o)]
  | x :: l, k, o => match Nat.beq x.1 k with
    | true => (k, o) :: l
    | false => x :: hsetP l k o
theorem hset_eq {β : Sort _} : ∀ (H : SH) (k : Nat) (o : SO) (K : SH → β), hset H k o K = K (hsetP H k o)
  | [], _, _, _ => rfl
  | x :: l, k, o, K => by
    simp only [hset, hsetP]
    cases Nat.beq x.1 k with
    | true => rfl
    | false => simp only []; rw [hset_eq l k o]
theorem hset_get : ∀ (H : SH) (k : Nat) (o : SO) (j : Nat), hget (hsetP H k o) j = if j = k then some o else hget H j
  | [], k, o, j => by
    simp only [hsetP, hget]
    cases h : Nat.beq k j with
    | true => rw [if_pos (beq_iff.1 h).symm]
    | false => rw [if_neg]; intro e; subst e; simp at h
  | x :: l, k, o, j => by
    simp only [hsetP]
    cases h : Nat.beq x.1 k with
    | true =>
      have hx := beq_iff.1 h
      simp only [hget]
      cases h2 : Nat.beq k j with
      | true => rw [if_pos (beq_iff.1 h2).symm]
      | false =>
        have : j ≠ k := fun e => by subst e; simp at h2
        rw [if_neg this, hx, h2]
    | false =>
      simp only [hget]
      cases h2 : Nat.beq x.1 j with
      | true =>
        have hj := beq_iff.1 h2
        have : j ≠ k := fun e => by rw [← hj] at e; rw [e] at h; simp at h
        rw [if_neg this]
      | false => simp only []; exact hset_get l k o j
theorem SH.den_set (s : Sig) (H : SH) (k : Nat) (o : SO) : SH.den s (hsetP H k o) = (SH.den s H).put k (o.den s) := by
  funext j
  unfold SH.den AHeap.put
  rw [hset_get]
  split <;> rfl
def hputs {β : Sort _} : SH → List (Nat × SO) → (SH → β) → β
  | H, [], K => K H
  | H, x :: l, K => hset H x.1 x.2 fun H => hputs H l K
def hputsP : SH → List (Nat × SO) → SH
  | H, [] => H
  | H, x :: l => hputsP (hsetP H x.1 x.2) l
theorem hputs_eq {β : Sort _} : ∀ (l : List (Nat × SO)) (H : SH) (K : SH → β), hputs H l K = K (hputsP H l)
  | [], _, _ => rfl
  | x :: l, H, K => by rw [hputs, hset_eq, hputs_eq l, hputsP]
def efD (s : Sig) (ef : List (Nat × SO)) : List (Nat × AO) := ef.map fun x => (x.1, x.2.den s)
theorem hputs_den (s : Sig) : ∀ (l : List (Nat × SO)) (H : SH), SH.den s (hputsP H l) = (SH.den s H).puts (efD s l)
  | [], _ => rfl
  | x :: l, H => by rw [hputsP, hputs_den s l, SH.den_set]; rfl
/-! ### operands -/
def rdS (T : SRegs) : Operand → Option SV
  | .tmp t => rget T t
  | .const v => some (ofC v)
  | .global g => some (.v (.pointer (some ⟨g, 0, none⟩)))
  | .func f => some (.v (.func (.func f) #[] #[]))
def RD (s : Sig) (ρ : Operand → Option SV) (ρ' : Operand → Option AV) : Prop := ∀ x a, ρ x = some a → ρ' x = some (a.den s)
theorem rdS_den (s : Sig) (T : SRegs) : RD s (rdS T) (rdOp (SRegs.den s T)) := by
  intro x a h
  cases x with
  | tmp t => have h : rget T t = some a := h
             simp [rdOp, SRegs.den, h]
  | const v => simp only [rdS, Option.some.injEq] at h; subst h; rw [ofC_den]; rfl
  | global g => simp only [rdS, Option.some.injEq] at h; subst h; rfl
  | func f => simp only [rdS, Option.some.injEq] at h; subst h; rfl
/-! ### the cells of a value -/
def cellsS : SV → List SV
  | .v x => x.cells.toList.map ofV
  | .agg l => l
  | x => [x]
theorem cellsA_mkAgg (l : List AV) : cellsA (mkAgg l) = l := by
  unfold mkAgg
  cases h : allV l with
  | none => rfl
  | some vs =>
    simp only [cellsA, Value.cells]
    induction l generalizing vs with
    | nil => simp only [allV, Option.some.injEq] at h; subst h; rfl
    | cons x l ih =>
      cases x <;> simp only [allV] at h <;> try cases h
      rename_i x
      cases h2 : allV l with
      | none => rw [h2] at h; cases h
      | some ws =>
        rw [h2] at h
        simp only [Option.some.injEq] at h
        subst h
        simpa using ih ws h2
theorem cellsA_mkTup (l : List AV) : cellsA (mkTup l) = [mkTup l] := by
  unfold mkTup; split <;> rfl
theorem cellsA_mkFn (f : Fn) (a c : List AV) : cellsA (mkFn f a c) = [mkFn f a c] := by
  unfold mkFn; split <;> rfl
theorem cellsS_den (s : Sig) (a : SV) : SV.dens s (cellsS a) = cellsA (a.den s) := by
  cases a with
  | v x => simp only [cellsS, dens_ofV, SV.den, cellsA]
  | agg l => simp only [cellsS, SV.den, cellsA_mkAgg]
  | tup l => simp only [cellsS, SV.dens, SV.den, cellsA_mkTup]
  | fn f a c => simp only [cellsS, SV.dens, SV.den, cellsA_mkFn]
  | int k x => simp only [cellsS, SV.dens, SV.den, cellsA, Value.cells, List.map_cons, List.map_nil]
  | bool x => simp only [cellsS, SV.dens, SV.den, cellsA, Value.cells, List.map_cons, List.map_nil]
  | _ => rfl
def oneS : SV → Bool
  | .v (.agg _) => false
  | .v (.tuple _) => false
  | .agg _ => false
  | .tup _ => false
  | _ => true
theorem oneA_mkFn (f : Fn) (a c : List AV) : oneA (mkFn f a c) = true := by unfold mkFn; split <;> rfl
theorem oneS_den {s : Sig} {a : SV} (h : oneS a = true) : oneA (a.den s) = true := by
  cases a with
  | v x => cases x <;> first | rfl | cases h
  | fn f a c => exact oneA_mkFn _ _ _
  | agg l => cases h
  | tup l => cases h
  | _ => rfl
def takeS {β : Sort _} : Nat → List SV → (List SV → β) → β
  | 0, _, K => K []
  | _ + 1, [], K => K []
  | n + 1, x :: l, K => takeS n l fun l' => K (x :: l')
def ldS (P : Program) (t : TypeId) (c : List SV) (off : Nat) : Option SV :=
  match tyAgg P t with
  | some true => match tySize P t with
    | some sz => match Nat.ble (off + sz) c.length, Nat.ble 1 sz with
      | true, true => forceL ((c.drop off).take sz) fun l => some (.agg l)
      | _, _ => none
    | none => none
  | some false => c[off]?
  | none => none
theorem dens_len (s : Sig) (l : List SV) : (SV.dens s l).length = l.length := by rw [SV.dens_map]; simp
theorem dens_take (s : Sig) (l : List SV) (n : Nat) : SV.dens s (l.take n) = (SV.dens s l).take n := by rw [SV.dens_map, SV.dens_map, List.map_take]
theorem dens_drop (s : Sig) (l : List SV) (n : Nat) : SV.dens s (l.drop n) = (SV.dens s l).drop n := by rw [SV.dens_map, SV.dens_map, List.map_drop]
theorem dens_append (s : Sig) (a b : List SV) : SV.dens s (a ++ b) = SV.dens s a ++ SV.dens s b := by simp [SV.dens_map]
theorem dens_get (s : Sig) {l : List SV} {i : Nat} {x : SV} (h : l[i]? = some x) : (SV.dens s l)[i]? = some (x.den s) := by rw [SV.dens_map]; simp [h]
theorem ldS_ok {P : Program} {t : TypeId} {c : List SV} {off : Nat} {r : SV} (s : Sig) (h : ldS P t c off = some r) : ldCells P t (SV.dens s c) off = some (r.den s) := by
  unfold ldS at h
  unfold ldCells
  split at h
  · rename_i ha
    rw [ha]
    simp only
    split at h
    · rename_i sz hs
      rw [hs]
      simp only
      split at h
      · rename_i h1 h2
        rw [forceL_eq] at h
        cases h
        have h1 := Nat.le_of_ble_eq_true h1; have h2 := Nat.le_of_ble_eq_true h2
        rw [if_pos ⟨by rw [dens_len]; exact h1, h2⟩]
        simp only [SV.den, dens_take, dens_drop]
      · cases h
    · cases h
  · rename_i ha
    rw [ha]
    exact dens_get s h
  · cases h
abbrev SR := SV × List Nat × List (Nat × SO)
def one (a : SV) : Tr' SR := .leaf (a, [], [])
def oneO (w : String) (x : Option SV) : Tr' SR := match x with | some a => .leaf (a, [], []) | none => .stuck w
def sLoad (P : Program) (G : Glob) (t : TypeId) (H : SH) (a : SV) : Tr' SR := match a with
  | .loc b off => match hget H b with
    | some o => match ldS P t o.c off with | some r => .leaf (r, [b], []) | none => .stuck "load: cells"
    | none => .stuck "load: block"
  | .v (.pointer (some ⟨g, off, none⟩)) => match gCells G g with
    | some c => match ldS P t (c.map ofV) off with | some r => one r | none => .stuck "load: global cells"
    | none => .stuck "load: global"
  | _ => .stuck "load"
def storeL (c : List SV) (off : Nat) (ys : List SV) : List SV := c.take off ++ ys ++ c.drop (off + ys.length)
def sStore (P : Program) (t : TypeId) (H : SH) (x y : SV) : Tr' SR := match x with
  | .loc b off => match hget H b with
    | some o => match (cellsS y).all oneS, tySize P t with
      | true, some n => match Nat.beq n (cellsS y).length, Nat.ble (off + (cellsS y).length) o.c.length with
        | true, true => forceL (storeL o.c off (cellsS y)) fun c => .leaf (.v undef, [b], [(b, ⟨c, o.t⟩)])
        | _, _ => .stuck "store: size"
      | _, _ => .stuck "store: cells"
    | none => .stuck "store: block"
  | _ => .stuck "store"
def sField (P : Program) (t : TypeId) (f : Nat) (x : SV) : Option SV := match x with
  | .agg l => match tyFld P t f with
    | some (off, ft) => ldS P ft l off
    | none => none
  | .v (.agg cs) => match tyFld P t f with
    | some (off, ft) => ldS P ft (cs.toList.map ofV) off
    | none => none
  | _ => none
def sFieldAddr (P : Program) (t : TypeId) (f : Nat) (x : SV) : Option SV :=
  match tyFld P t f with
  | some (off, ft) => match tySize P ft with
    | some (_ + 1) => match x with
      | .loc b o => forceNat (o + off) fun n => some (.loc b n)
      | .v (.pointer (some ⟨g, o, none⟩)) => forceNat (o + off) fun n => some (.v (.pointer (some ⟨g, n, none⟩)))
      | _ => none
    | _ => none
  | none => none
/-- an index, one by one -/
def splitGo {α : Type} (x : X) (f : Nat → Tr' α) : Nat → Nat → Facts → Tr' α
  | 0, _, _ => .stuck "index"
  | m + 1, j, fc => match decX fc (.bin .eql .i64 x (.lit (.ofNat j))) with
    | some true => f j
    | some false => splitGo x f m (Nat.succ j) fc
    | none => .ite (.bin .eql .i64 x (.lit (.ofNat j))) (f j) (splitGo x f m (Nat.succ j) (addF fc (.bin .eql .i64 x (.lit (.ofNat j))) false))
def splitX {α : Type} (fc : Facts) (x : X) (len : Nat) (f : Nat → Tr' α) : Tr' α := match x with
  | .lit (.ofNat j) => match Nat.blt j len with | true => f j | false => .stuck "index: out of range"
  | .lit (.negSucc _) => .stuck "index: below 0"
  | x => splitGo x f len 0 fc
theorem splitGo_path {α : Type} {Φ : Phi} {s : Sig} {x : X} {f : Nat → Tr' α} {a : α} : ∀ (m j : Nat) (fc : Facts), FOK s fc → (splitGo x f m j fc).path Φ s = some a → ∃ i, j ≤ i ∧ i < j + m ∧ x.den s = i ∧ (f i).path Φ s = some a
  | 0, j, fc, hf, h => by cases h
  | m + 1, j, fc, hf, h => by
    have eqj : ((X.bin .eql .i64 x (.lit (.ofNat j))).den s != 0) = true → x.den s = (j : Int) := fun hq => by
      simp only [X.den, iOp, b2i_ne] at hq; simpa using hq
    have ite : (Tr'.ite (.bin .eql .i64 x (.lit (.ofNat j))) (f j) (splitGo x f m (Nat.succ j) (addF fc (.bin .eql .i64 x (.lit (.ofNat j))) false))).path Φ s = some a → ∃ i, j ≤ i ∧ i < j + (m + 1) ∧ x.den s = i ∧ (f i).path Φ s = some a := fun h => by
      simp only [Tr'.path] at h
      split at h
      · rename_i hc
        obtain ⟨i, h1, h2, h3, h4⟩ := splitGo_path m (j + 1) _ (addF_ok hf (by rw [hc]; rfl)) h
        exact ⟨i, by omega, by omega, h3, h4⟩
      · rename_i hne
        exact ⟨j, Nat.le_refl _, by omega, eqj (by simpa using hne), h⟩
    simp only [splitGo] at h
    split at h
    · rename_i hd; exact ⟨j, Nat.le_refl _, by omega, eqj (decX_ok hf hd), h⟩
    · obtain ⟨i, h1, h2, h3, h4⟩ := splitGo_path m (j + 1) fc hf h
      exact ⟨i, by omega, by omega, h3, h4⟩
    · exact ite h
theorem splitX_path {α : Type} {Φ : Phi} {s : Sig} {fc : Facts} (hf : FOK s fc) {x : X} {len : Nat} {f : Nat → Tr' α} {a : α} (h : (splitX fc x len f).path Φ s = some a) : ∃ i, i < len ∧ x.den s = (i : Int) ∧ (f i).path Φ s = some a := by
  unfold splitX at h
  split at h
  · rename_i j
    split at h
    · rename_i hb
      exact ⟨j, by simpa [Nat.blt_eq] using hb, rfl, h⟩
    · cases h
  · cases h
  · obtain ⟨i, _, h2, h3, h4⟩ := splitGo_path _ _ _ hf h
    exact ⟨i, by omega, h3, h4⟩
def sIndexAddr (P : Program) (fc : Facts) (t : TypeId) (x i : SV) : Tr' SR := match i with
  | .int _ n => match x with
    | .loc b o => match tyArr P t with
      | some (len, el) => match tySize P el with
        | some sz => splitX fc n len fun j => forceNat (o + j * sz) fun q => one (.loc b q)
        | none => .stuck "indexAddr: size"
      | none => .stuck "indexAddr: no array"
    | .v (.pointer (some ⟨g, o, none⟩)) => match tyArr P t with
      | some (len, el) => match tySize P el with
        | some sz => splitX fc n len fun j => forceNat (o + j * sz) fun q => one (.v (.pointer (some ⟨g, q, none⟩)))
        | none => .stuck "indexAddr: size"
      | none => .stuck "indexAddr: no array"
    | .sl b o len _ => match tySlc P t with
      | some el => match tySize P el with
        | some sz => splitX fc n len fun j => forceNat (o + j * sz) fun q => one (.loc b q)
        | none => .stuck "indexAddr: size"
      | none => .stuck "indexAddr: no slice"
    | _ => .stuck "indexAddr"
  | _ => .stuck "indexAddr: index"
def sIndex (P : Program) (fc : Facts) (t : TypeId) (x i : SV) : Tr' SR := match i with
  | .int _ n => match x with
    | .agg l => match tyArr P t with
      | some (len, el) => match tySize P el with
        | some sz => splitX fc n len fun j => oneO "index: cells" (ldS P el l (j * sz))
        | none => .stuck "index: size"
      | none => .stuck "index: no array"
    | .v (.agg cs) => match tyArr P t with
      | some (len, el) => match tySize P el with
        | some sz => splitX fc n len fun j => oneO "index: cells" (ldS P el (cs.toList.map ofV) (j * sz))
        | none => .stuck "index: size"
      | none => .stuck "index: no array"
    | _ => .stuck "index"
  | _ => .stuck "index: index"
def sExtract (x : SV) (i : Nat) : Option SV := match x with
  | .v (.tuple vs) => match vs.toList[i]? with | some v => some (ofV v) | none => none
  | .tup l => l[i]?
  | _ => none
def fillS (place : Nat → Option (Nat × Nat)) (cells : List SV) : List (Nat × SV) → Option (List SV)
  | [] => some cells
  | (i, x) :: rest => match place i with
    | none => none
    | some (off, size) => match Nat.beq (cellsS x).length size, Nat.ble (off + size) cells.length with
      | true, true => forceL (cells.take off ++ cellsS x ++ cells.drop (off + size)) fun c => fillS place c rest
      | _, _ => none
def psD (s : Sig) (l : List (Nat × SV)) : List (Nat × AV) := l.map fun x => (x.1, x.2.den s)
theorem fillS_ok {place : Nat → Option (Nat × Nat)} (s : Sig) : ∀ {ps : List (Nat × SV)} {cells c : List SV}, fillS place cells ps = some c → fillA place (SV.dens s cells) (psD s ps) = some (SV.dens s c)
  | [], cells, c, h => by simp only [fillS, Option.some.injEq] at h; subst h; rfl
  | (i, x) :: rest, cells, c, h => by
    simp only [fillS] at h
    simp only [psD, List.map_cons, fillA]
    split at h
    · cases h
    · rename_i off size hp
      rw [hp]
      simp only
      split at h
      · rename_i h1 h2
        rw [forceL_eq] at h
        have h1 := beq_iff.1 h1; have h2 := Nat.le_of_ble_eq_true h2
        rw [if_pos ⟨by rw [← cellsS_den, dens_len]; exact h1, by rw [dens_len]; exact h2⟩]
        have := fillS_ok s h
        rw [dens_append, dens_append, dens_take, dens_drop, cellsS_den] at this
        exact this
      · cases h
def partsS (ρ : Operand → Option SV) : List (Nat × Operand) → Option (List (Nat × SV))
  | [] => some []
  | (i, x) :: l => match ρ x, partsS ρ l with
    | some a, some r => some ((i, a) :: r)
    | _, _ => none
theorem partsS_ok {s : Sig} {ρ : Operand → Option SV} {ρ' : Operand → Option AV} (hρ : RD s ρ ρ') : ∀ {l : List (Nat × Operand)} {r : List (Nat × SV)}, partsS ρ l = some r → partsA ρ' l = some (psD s r)
  | [], r, h => by simp only [partsS, Option.some.injEq] at h; subst h; rfl
  | (i, x) :: l, r, h => by
    simp only [partsS] at h
    split at h
    · rename_i a r' ha hr
      cases h
      rw [partsA, hρ x a ha, partsS_ok hρ hr]; rfl
    · cases h
def listS (ρ : Operand → Option SV) : List Operand → Option (List SV)
  | [] => some []
  | x :: l => match ρ x, listS ρ l with
    | some a, some r => some (a :: r)
    | _, _ => none
theorem listS_ok {s : Sig} {ρ : Operand → Option SV} {ρ' : Operand → Option AV} (hρ : RD s ρ ρ') : ∀ {l : List Operand} {r : List SV}, listS ρ l = some r → listA ρ' l = some (SV.dens s r)
  | [], r, h => by simp only [listS, Option.some.injEq] at h; subst h; rfl
  | x :: l, r, h => by
    simp only [listS] at h
    split at h
    · rename_i a r' ha hr
      cases h
      rw [listA, hρ x a ha, listS_ok hρ hr]; rfl
    · cases h
/-- comparisons of structs and the like: a table on symbolic values -/
abbrev SEq := TypeId → SV → SV → Option X
def SEqOK (P : Program) (SE : SEq) (E : EqT) : Prop := ∀ t x y r (s : Sig), SE t x y = some r → ∃ a b, x.den s = .v a ∧ y.den s = .v b ∧ pBin P .eql t a b = none ∧ pBin P .neq t a b = none ∧ E .eql t a b = some (.bool (r.den s != 0)) ∧ E .neq t a b = some (.bool (!(r.den s != 0)))
/-- a count below 0, a divisor 0: must not be -/
def notT (fc : Facts) (w : String) (c : X) (t : Tr' SR) : Tr' SR := match decX fc c with
  | some true => .stuck w
  | some false => t
  | none => iteT c (.stuck w) t
def sInt2 (fc : Facts) (op : BinOp) (k k' : IntKind) (a b : X) : Tr' SR := match op with
  | .shl => match X.inK k' b, k'.signed with
    | true, false => forceX (mkBin .shl k a b) fun x => one (.int k x)
    | _, _ => notT fc "shift below 0" (mkBin .lss k' b (.lit (.ofNat 0))) (forceX (mkBin .shl k a b) fun x => one (.int k x))
  | .shr => match X.inK k' b, k'.signed with
    | true, false => forceX (mkBin .shr k a b) fun x => one (.int k x)
    | _, _ => notT fc "shift below 0" (mkBin .lss k' b (.lit (.ofNat 0))) (forceX (mkBin .shr k a b) fun x => one (.int k x))
  | .quo => match kEq k k' with
    | true => notT fc "by 0" (mkBin .eql k' b (.lit (.ofNat 0))) (forceX (mkBin .quo k a b) fun x => one (.int k x))
    | false => .stuck "kinds"
  | .rem => match kEq k k' with
    | true => notT fc "by 0" (mkBin .eql k' b (.lit (.ofNat 0))) (forceX (mkBin .rem k a b) fun x => one (.int k x))
    | false => .stuck "kinds"
  | .add | .sub | .mul | .and | .or | .xor | .andNot => match kEq k k' with
    | true => forceX (mkBin op k a b) fun x => one (.int k x)
    | false => .stuck "kinds"
  | .eql | .neq | .lss | .leq | .gtr | .geq => match kEq k k' with
    | true => forceX (mkBin op k a b) fun x => one (.bool x)
    | false => .stuck "kinds"
def sBin (P : Program) (SE : SEq) (fc : Facts) (op : BinOp) (t : TypeId) (x y : SV) : Tr' SR := match x, y with
  | .int k a, .int k' b => sInt2 fc op k k' a b
  | .bool a, .bool b => match P.underlying t with
    | some .bool => match op with
      | .eql => forceX (mkBeq a b) fun x => one (.bool x)
      | .neq => forceX (mkNot (mkBeq a b)) fun x => one (.bool x)
      | _ => .stuck "binOp: bools"
    | _ => .stuck "binOp: bool type"
  | x, y => match op with
    | .eql => match SE t x y with | some r => forceX r fun r => one (.bool r) | none => .stuck "eql"
    | .neq => match SE t x y with | some r => forceX (mkNot r) fun r => one (.bool r) | none => .stuck "neq"
    | _ => .stuck "binOp"
def sUn (op : UnOp) (x : SV) : Tr' SR := match op, x with
  | .neg, .int k a => forceX (mkBin .sub k (.lit (.ofNat 0)) a) fun x => one (.int k x)
  | .xor, .int k a => forceX (mkCom k a) fun x => one (.int k x)
  | .not, .bool a => forceX (mkNot a) fun x => one (.bool x)
  | _, _ => .stuck "unOp"
def sConv (P : Program) (src dst : TypeId) (x : SV) : Tr' SR := match x with
  | .int _ a => match tyInt P dst, P.underlying src with
    | some k, some _ => forceX (mkConv k a) fun x => one (.int k x)
    | _, _ => .stuck "convert: type"
  | _ => .stuck "convert"
def sNil (x : SV) : Tr' SR := match x with
  | .loc b o => one (.loc b o)
  | .v (.func (.func f) a c) => one (.v (.func (.func f) a c))
  | .v (.pointer (some p)) => one (.v (.pointer (some p)))
  | .fn (.func f) a c => one (.fn (.func f) a c)
  | _ => .stuck "nilCheck"
def sLen (P : Program) (t : TypeId) (x : SV) : Tr' SR := match P.underlying t with
  | some (.slice _) => match x with
    | .sl _ _ n _ => one (.int .i64 (.lit (.ofNat n)))
    | .v (.slice _ n _) => one (.int .i64 (.lit (.ofNat n)))
    | _ => .stuck "len: slice"
  | some .string => match x with | .v (.string s) => forceNat s.size fun n => one (.int .i64 (.lit (.ofNat n))) | _ => .stuck "len: string"
  | some (.array n _) => one (.int .i64 (.lit (.ofNat n)))
  | _ => .stuck "len"
def sArrayAt (P : Program) (t : TypeId) (x : SV) : Tr' SR := match tyArr P t with
  | some (n, _) => match x with
    | .sl b o len _ => match Nat.ble n len with | true => one (.loc b o) | false => .stuck "arrayAt: len"
    | _ => .stuck "arrayAt"
  | none => .stuck "arrayAt: no array"
def sMakeSlice (P : Program) (t : TypeId) (k : Nat) (x y : SV) : Tr' SR := match x, y with
  | .int _ (.lit (.ofNat n)), .int _ (.lit (.ofNat m)) => match tySlc P t with
    | some el => match tySize P el, tyZero P el, tyBytes P el with
      | some sz, some z, some b => match Nat.ble n m, Nat.blt m 16777216, Nat.ble b 4096, Nat.beq (m * sz) 0 with
        | true, true, true, false => forceL ((zeroRow z (m * sz)).map ofV) fun c => .leaf (.sl k 0 n m, [], [(k, ⟨c, el⟩)])
        | _, _, _, _ => .stuck "makeSlice: size"
      | _, _, _ => .stuck "makeSlice: type"
    | none => .stuck "makeSlice: no slice"
  | _, _ => .stuck "makeSlice"
def sSliceAll (P : Program) (t : TypeId) (x : SV) : Tr' SR := match tyArr P t with
  | some (n, el) => match x, tySize P el with
    | .loc b o, some _ => one (.sl b o n n)
    | _, _ => .stuck "slice"
  | none => .stuck "slice: no array"
def sBuildSlice (P : Program) (t : TypeId) (len : Nat) (k : Nat) (ps : List (Nat × SV)) : Tr' SR := match tySlc P t with
  | some el => match tySize P el, tyZero P el with
    | some sz, some z => match Nat.ble (len * sz) 16777216, Nat.beq (len * sz) 0 with
      | true, false => match fillS (fun i => some (i * sz, sz)) ((zeroRow z (len * sz)).map ofV) ps with
        | some c => .leaf (.sl k 0 len len, [], [(k, ⟨c, el⟩)])
        | none => .stuck "buildSlice: parts"
      | _, _ => .stuck "buildSlice: size"
    | _, _ => .stuck "buildSlice: type"
  | none => .stuck "buildSlice"
def o1 (ρ : Operand → Option SV) (x : Operand) (f : SV → Tr' SR) : Tr' SR := match ρ x with | some a => f a | none => .stuck "operand"
def o2 (ρ : Operand → Option SV) (x y : Operand) (f : SV → SV → Tr' SR) : Tr' SR := match ρ x with
  | some a => match ρ y with | some b => f a b | none => .stuck "operand"
  | none => .stuck "operand"
/-- one operation on symbolic values -/
def sevN (P : Program) (G : Glob) (SE : SEq) (fc : Facts) (op : Op) (ρ : Operand → Option SV) (H : SH) (k : Nat) : Tr' SR :=
  match op with
  | .move x => o1 ρ x one
  | .assign x => o1 ρ x one
  | .pick c a b => o1 ρ c fun v => match v with
    | .bool q => iteT q (o1 ρ a one) (o1 ρ b one)
    | _ => .stuck "pick"
  | .alloc t => match tyZero P t with | some z => forceL (z.map ofV) fun c => .leaf (.loc k 0, [], [(k, ⟨c, t⟩)]) | none => .stuck "alloc"
  | .box t x => o1 ρ x fun a => forceL (cellsS a) fun c => .leaf (.loc k 0, [], [(k, ⟨c, t⟩)])
  | .build t ps => match partsS ρ ps.toList, tyZero P t with
    | some l, some z => match sizesOk P t with
      | true => match fillS (placeA P t) (z.map ofV) l with | some c => one (.agg c) | none => .stuck "build: parts"
      | false => .stuck "build: sizes"
    | _, _ => .stuck "build"
  | .buildSlice t len ps => match partsS ρ ps.toList with | some l => sBuildSlice P t len k l | none => .stuck "buildSlice: operands"
  | .load t x => o1 ρ x fun a => sLoad P G t H a
  | .store t x y => o2 ρ x y fun a b => sStore P t H a b
  | .nilCheck x => o1 ρ x sNil
  | .binOp op t x y _ => o2 ρ x y fun a b => sBin P SE fc op t a b
  | .unOp op _ x => o1 ρ x fun a => sUn op a
  | .convert s d x => o1 ρ x fun a => sConv P s d a
  | .makeFunc f a c => match listS ρ a.toList, listS ρ c.toList with | some x, some y => one (.fn f x y) | _, _ => .stuck "makeFunc"
  | .fieldAddr t x f => o1 ρ x fun a => oneO "fieldAddr" (sFieldAddr P t f a)
  | .field t x f => o1 ρ x fun a => oneO "field" (sField P t f a)
  | .indexAddr t x i => o2 ρ x i fun a b => sIndexAddr P fc t a b
  | .index t x i => o2 ρ x i fun a b => sIndex P fc t a b
  | .extract x i => o1 ρ x fun a => oneO "extract" (sExtract a i)
  | .call { callee := .builtin .len, args := args, argTypes := ts } => match args.toList, ts.toList with
    | [x], [t] => o1 ρ x fun a => sLen P t a
    | _, _ => .stuck "len: operands"
  | .call { callee := .builtin .min, args := args, argTypes := _ } => match args.toList with
    | [x, y] => o2 ρ x y fun a b => match a, b with
      | .int k a, .int _ b => forceX (mkMin a b) fun x => one (.int k x)
      | _, _ => .stuck "min"
    | _ => .stuck "min: operands"
  | .call { callee := .builtin .max, args := args, argTypes := _ } => match args.toList with
    | [x, y] => o2 ρ x y fun a b => match a, b with
      | .int k a, .int _ b => forceX (mkMax a b) fun x => one (.int k x)
      | _, _ => .stuck "max"
    | _ => .stuck "max: operands"
  | .sliceToArrayPointer t x => o1 ρ x fun a => sArrayAt P t a
  | .makeSlice t x y => o2 ρ x y fun a b => sMakeSlice P t k a b
  | .slice t x none none none => o1 ρ x fun a => sSliceAll P t a
  | _ => .stuck "no such operation"
end Go.Proofs.YtikjbocagnolmaaDoor
