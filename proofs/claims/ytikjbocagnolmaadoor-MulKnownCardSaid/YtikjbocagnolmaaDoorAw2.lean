/- The operations of the language on abstract states, computed; and that the model does the same. No function of the program. -/
import Derived.Test.YtikjbocagnolmaaDoorAw1
namespace Go.Proofs.YtikjbocagnolmaaDoor
set_option linter.unusedVariables false
set_option linter.unusedSimpArgs false
open Go.RowKit
def tySize (P : Program) (t : TypeId) : Option Nat := (P.info? t).map (·.size)
def tyAgg (P : Program) (t : TypeId) : Option Bool := match P.underlying t with | none => none | some (.struct _) => some true | some (.array _ _) => some true | some _ => some false
def tyFld (P : Program) (t : TypeId) (f : Nat) : Option (Nat × TypeId) := match P.underlying t with | some (.struct fs) => (fs[f]?).map fun x => (x.offset, x.type) | _ => none
def tyArr (P : Program) (t : TypeId) : Option (Nat × TypeId) := match P.underlying t with | some (.array n e) => some (n, e) | _ => none
def tySlc (P : Program) (t : TypeId) : Option TypeId := match P.underlying t with | some (.slice e) => some e | _ => none
def tyInt (P : Program) (t : TypeId) : Option IntKind := match P.underlying t with | some (.int k) => some k | _ => none
def tyZero (P : Program) (t : TypeId) : Option (List Value) := ((P.info? t).bind (·.zero)).map (·.cells.toList)
def allV : List AV → Option (List Value)
  | [] => some []
  | .v x :: l => match allV l with | some vs => some (x :: vs) | none => none
  | _ :: _ => none
def mkAgg (l : List AV) : AV := match allV l with | some vs => .v (.agg vs.toArray) | none => .agg l
def mkTup (l : List AV) : AV := match allV l with | some vs => .v (.tuple vs.toArray) | none => .tup l
def mkFn (f : Fn) (a c : List AV) : AV := match allV a, allV c with | some x, some y => .v (.func f x.toArray y.toArray) | _, _ => .fn f a c
theorem allV_val {e : Env} : ∀ {l : List AV} {vs : List Value}, allV l = some vs → AV.vals e l = vs
  | [], vs, h => by simp only [allV, Option.some.injEq] at h; subst h; rfl
  | x :: l, vs, h => by
    cases x <;> simp only [allV] at h <;> try cases h
    rename_i x
    cases hl : allV l with
    | none => rw [hl] at h; cases h
    | some ws =>
      rw [hl] at h
      simp only [Option.some.injEq] at h
      subst h
      rw [AV.vals, allV_val hl]; rfl
theorem mkAgg_val (e : Env) (l : List AV) : (mkAgg l).val e = .agg (AV.vals e l).toArray := by
  unfold mkAgg
  cases h : allV l with
  | none => rfl
  | some vs => simp only [AV.val, allV_val h]
theorem mkTup_val (e : Env) (l : List AV) : (mkTup l).val e = .tuple (AV.vals e l).toArray := by
  unfold mkTup
  cases h : allV l with
  | none => rfl
  | some vs => simp only [AV.val, allV_val h]
theorem mkFn_val (e : Env) (f : Fn) (a c : List AV) : (mkFn f a c).val e = .func f (AV.vals e a).toArray (AV.vals e c).toArray := by
  unfold mkFn
  cases h : allV a <;> cases h' : allV c <;> simp only [AV.val]
  rw [allV_val h, allV_val h']
theorem mkAgg_refs {l : List AV} {r : Nat} (h : r ∈ (mkAgg l).refs) : r ∈ AV.refss l := by
  unfold mkAgg at h; split at h
  · simp [AV.refs] at h
  · simpa [AV.refs] using h
theorem mkTup_refs {l : List AV} {r : Nat} (h : r ∈ (mkTup l).refs) : r ∈ AV.refss l := by
  unfold mkTup at h; split at h
  · simp [AV.refs] at h
  · simpa [AV.refs] using h
theorem mkFn_refs {f : Fn} {a c : List AV} {r : Nat} (h : r ∈ (mkFn f a c).refs) : r ∈ AV.refss a ++ AV.refss c := by
  unfold mkFn at h; split at h
  · simp [AV.refs] at h
  · simpa [AV.refs] using h
/-- the cells of a value -/
def cellsA : AV → List AV
  | .v x => x.cells.toList.map .v
  | .agg l => l
  | x => [x]
theorem vals_v (e : Env) (l : List Value) : AV.vals e (l.map .v) = l := by
  induction l with
  | nil => rfl
  | cons x l ih => rw [List.map_cons, AV.vals, ih]; rfl
theorem refss_v (l : List Value) : AV.refss (l.map .v) = [] := by
  induction l with
  | nil => rfl
  | cons x l ih => rw [List.map_cons, AV.refss, ih]; rfl
theorem sliceOf_cells (v : Value) : (sliceOf v).cells = #[sliceOf v] := by cases v <;> rfl
theorem cellsA_val (e : Env) (a : AV) : (a.val e).cells = (AV.vals e (cellsA a)).toArray := by
  cases a with
  | v x => simp [cellsA, vals_v, AV.val]
  | agg l => rfl
  | hd k => simp only [cellsA, AV.vals, AV.val, sliceOf_cells]
  | ha k off => simp only [cellsA, AV.vals, AV.val]; split <;> rfl
  | _ => rfl
theorem cellsA_refs {a : AV} {r : Nat} (h : r ∈ AV.refss (cellsA a)) : r ∈ a.refs := by
  cases a <;> simp_all [cellsA, refss_v, AV.refss, AV.refs]
/-- may it lie in one cell? -/
def oneA : AV → Bool
  | .v (.agg _) => false
  | .v (.tuple _) => false
  | .v _ => true
  | .agg _ => false
  | .tup _ => false
  | .ha _ _ => false
  | _ => true
theorem oneA_val {e : Env} {a : AV} (h : oneA a = true) : (a.val e).oneCell' = true := by
  cases a with
  | v x => cases x <;> first | rfl | simp [oneA] at h
  | hd k => simp only [AV.val]; cases e.hnd k <;> rfl
  | _ => first | rfl | simp [oneA] at h
/-- what a package's variable holds -/
def gCells (G : Glob) (g : Nat) : Option (List Value) := match G with
  | [] => none
  | x :: l => if x.1 = g then some x.2 else gCells l g
theorem gCells_get {G : Glob} {g : Nat} {c : List Value} (h : gCells G g = some c) : ∃ x ∈ G, x.1 = g ∧ x.2 = c := by
  induction G with
  | nil => cases h
  | cons x G ih =>
    simp only [gCells] at h
    split at h
    · rename_i hk; cases h; exact ⟨x, List.mem_cons_self, hk, rfl⟩
    · obtain ⟨y, hy, r⟩ := ih h; exact ⟨y, List.mem_cons_of_mem _ hy, r⟩
def ldCells (P : Program) (t : TypeId) (c : List AV) (off : Nat) : Option AV :=
  match tyAgg P t with
  | some true => match tySize P t with
    | some s => if off + s ≤ c.length ∧ 0 < s then some (mkAgg ((c.drop off).take s)) else none
    | none => none
  | some false => c[off]?
  | none => none
theorem ldCells_refs {P : Program} {t : TypeId} {c : List AV} {off : Nat} {r : AV} (h : ldCells P t c off = some r) {b : Nat} (hb : b ∈ r.refs) : b ∈ AV.refss c := by
  unfold ldCells at h
  split at h
  · split at h
    · split at h
      · cases h
        obtain ⟨x, hx, hr⟩ := AV.mem_refss.1 (mkAgg_refs hb)
        exact AV.mem_refss.2 ⟨x, List.mem_of_mem_drop (List.mem_of_mem_take hx), hr⟩
      · cases h
    · cases h
  · exact AV.mem_refss.2 ⟨r, List.mem_of_getElem? h, hb⟩
  · cases h
theorem run_isAgg {P : Program} {t : TypeId} {b : Bool} (h : tyAgg P t = some b) (w : World) : (isAgg t).run P w = .ok b w := by
  unfold tyAgg at h
  unfold isAgg
  cases hu : P.underlying t with
  | none => rw [hu] at h; cases h
  | some d =>
    rw [hu] at h
    cases d <;> simp [run_underlying hu] at h ⊢ <;> exact h.symm ▸ rfl
theorem run_sizeOf {P : Program} {t : TypeId} {s : Nat} (h : tySize P t = some s) (w : World) : (sizeOf t).run P w = .ok s w := by
  unfold tySize at h
  cases hi : P.info? t with
  | none => rw [hi] at h; cases h
  | some i =>
    rw [hi] at h
    simp at h
    simp [sizeOf, typeInfo, hi, h]
theorem vals_length (e : Env) (l : List AV) : (AV.vals e l).length = l.length := by rw [AV.vals_map]; simp
theorem run_ldCells {P : Program} {t : TypeId} {c : List AV} {off : Nat} {r : AV} {e : Env} {w : World} {b o : Nat} (h : ldCells P t c off = some r)
    (hc : ∀ j x, (AV.vals e c)[j]? = some x → w.cell? ⟨b, o + j, none⟩ = some x) :
    (loadVar t ⟨b, o + off, none⟩).run P w = .ok (r.val e) w := by
  have hadd : ∀ n i : Nat, (⟨b, n, none⟩ : Addr).add i = ⟨b, n + i, none⟩ := fun n i => by unfold Addr.add; split <;> simp_all
  unfold ldCells at h
  unfold loadVar
  cases ha : tyAgg P t with
  | none => rw [ha] at h; cases h
  | some q =>
    rw [ha] at h
    cases q with
    | true =>
      simp only at h
      cases hs : tySize P t with
      | none => rw [hs] at h; cases h
      | some s =>
        rw [hs] at h
        simp only at h
        split at h
        · rename_i hle
          cases h
          have hl : (AV.vals e ((c.drop off).take s)).length = s := by rw [vals_length]; simp; omega
          have := run_loadCells_list (P := P) w ⟨b, o + off, none⟩ (AV.vals e ((c.drop off).take s)) (fun j x hj => by
            rw [hadd, Nat.add_assoc]
            refine hc _ _ ?_
            rw [AV.vals_map] at hj ⊢
            simp only [List.getElem?_map, List.getElem?_take, List.getElem?_drop] at hj ⊢
            split at hj
            · exact hj
            · simp at hj)
          rw [hl] at this
          simp [run_isAgg ha, run_sizeOf hs, this, mkAgg_val]
        · cases h
    | false =>
      have hx : w.cell? ⟨b, o + off, none⟩ = some (r.val e) := hc off _ (by rw [AV.vals_map]; simp [h])
      simp [run_isAgg ha, hx]
/-- an abstract result: the value, the blocks that were touched, the blocks that turned -/
abbrev ARes := Option (AV × List Nat × List (Nat × AO))
def evLoad (P : Program) (G : Glob) (t : TypeId) (H : AHeap) : AV → ARes
  | .loc b off => match H b with
    | some (.own c _) => match ldCells P t c off with | some r => some (r, [b], []) | none => none
    | _ => none
  | .ha k off => match H k with
    | some (.rd _ c) => match ldCells P t (c.map .v) off with | some r => some (r, [k], []) | none => none
    | _ => none
  | .v (.pointer (some ⟨g, off, none⟩)) => match gCells G g with
    | some c => match ldCells P t (c.map .v) off with | some r => some (r, [], []) | none => none
    | none => none
  | _ => none
def evStore (P : Program) (t : TypeId) (H : AHeap) (x y : AV) : ARes :=
  match x with
  | .loc b off => match H b with
    | some (.own c tt) =>
      if (cellsA y).all oneA && decide (tySize P t = some (cellsA y).length) && decide (off + (cellsA y).length ≤ c.length) then
        some (.v undef, [b], [(b, .own (c.take off ++ cellsA y ++ c.drop (off + (cellsA y).length)) tt)])
      else none
    | _ => none
  | _ => none
def evField (P : Program) (t : TypeId) (f : Nat) (x : AV) : Option AV :=
  match x with
  | .v (.agg _) | .agg _ => match tyFld P t f with
    | some (off, ft) => ldCells P ft (cellsA x) off
    | none => none
  | _ => none
def evFieldAddr (P : Program) (t : TypeId) (f : Nat) (x : AV) : Option AV :=
  match tyFld P t f with
  | some (off, ft) => match tySize P ft with
    | some (_ + 1) => match x with
      | .loc b o => some (.loc b (o + off))
      | .ha k o => some (.ha k (o + off))
      | .v (.pointer (some ⟨g, o, none⟩)) => some (.v (.pointer (some ⟨g, o + off, none⟩)))
      | _ => none
    | _ => none
  | none => none
def evIndexAddr (P : Program) (t : TypeId) (H : AHeap) (x i : AV) : Option (AV × List Nat) :=
  match i with
  | .v (.int _ n) => match x with
    | .loc b o => match tyArr P t with
      | some (len, el) => match tySize P el with
        | some s => if 0 ≤ n ∧ n < len then some (.loc b (o + n.toNat * s), []) else none
        | none => none
      | none => none
    | .v (.pointer (some ⟨g, o, none⟩)) => match tyArr P t with
      | some (len, el) => match tySize P el with
        | some s => if 0 ≤ n ∧ n < len then some (.v (.pointer (some ⟨g, o + n.toNat * s, none⟩)), []) else none
        | none => none
      | none => none
    | .sl b o len _ => match tySlc P t with
      | some el => match tySize P el with
        | some s => if 0 ≤ n ∧ n < len then some (.loc b (o + n.toNat * s), []) else none
        | none => none
      | none => none
    | .hd k => match H k with
      | some (.rd len _) => match tySlc P t with
        | some el => match tySize P el with
          | some s => if 0 ≤ n ∧ n < len then some (.ha k (n.toNat * s), [k]) else none
          | none => none
        | none => none
      | _ => none
    | _ => none
  | _ => none
def evIndex (P : Program) (t : TypeId) (x i : AV) : Option AV :=
  match x, i with
  | .v (.agg cs), .v (.int _ n) => match tyArr P t with
    | some (len, el) => match tySize P el with
      | some s => if 0 ≤ n ∧ n < len then ldCells P el (cs.toList.map .v) (n.toNat * s) else none
      | none => none
    | none => none
  | .agg cs, .v (.int _ n) => match tyArr P t with
    | some (len, el) => match tySize P el with
      | some s => if 0 ≤ n ∧ n < len then ldCells P el cs (n.toNat * s) else none
      | none => none
    | none => none
  | _, _ => none
def evExtract (x : AV) (i : Nat) : Option AV :=
  match x with
  | .v (.tuple vs) => match vs.toList[i]? with | some v => some (.v v) | none => none
  | .tup l => l[i]?
  | _ => none
/-- parts laid into cells -/
def fillA (place : Nat → Option (Nat × Nat)) (cells : List AV) : List (Nat × AV) → Option (List AV)
  | [] => some cells
  | (i, x) :: rest => match place i with
    | none => none
    | some (off, size) => if (cellsA x).length = size ∧ off + size ≤ cells.length then fillA place (cells.take off ++ cellsA x ++ cells.drop (off + size)) rest else none
def placeA (P : Program) (t : TypeId) (i : Nat) : Option (Nat × Nat) :=
  match P.underlying t with
  | some (.struct fs) => match fs[i]? with
    | some f => match tySize P f.type with | some s => some (f.offset, s) | none => none
    | none => none
  | some (.array _ e) => match tySize P e with | some s => some (i * s, s) | none => none
  | _ => none
/-- are the sizes of all fields known? -/
def sizesOk (P : Program) (t : TypeId) : Bool :=
  match P.underlying t with
  | some (.struct fs) => fs.toList.all fun f => (tySize P f.type).isSome
  | some (.array _ e) => (tySize P e).isSome
  | _ => false
def partsA (ρ : Operand → Option AV) : List (Nat × Operand) → Option (List (Nat × AV))
  | [] => some []
  | (i, x) :: l => match ρ x, partsA ρ l with
    | some a, some r => some ((i, a) :: r)
    | _, _ => none
def listA (ρ : Operand → Option AV) : List Operand → Option (List AV)
  | [] => some []
  | x :: l => match ρ x, listA ρ l with
    | some a, some r => some (a :: r)
    | _, _ => none
def bitsV (op : BinOp) (k : IntKind) (x y : Int) : Value :=
  let a := BitVec.ofInt k.bits x
  let b := BitVec.ofInt k.bits y
  .int k (k.wrap (match op with | .and => a &&& b | .or => a ||| b | .xor => a ^^^ b | _ => a &&& ~~~b).toNat)
def pBin (P : Program) (op : BinOp) (t : TypeId) (x y : Value) : Option Value :=
  match x, y with
  | .int k a, .int k' b => match op with
    | .shl => if b < 0 then none else some (.int k (k.wrap (a * 2 ^ min b.toNat k.bits)))
    | .shr => if b < 0 then none else some (.int k (a.fdiv (2 ^ min b.toNat k.bits)))
    | .add => if k = k' then some (.int k (k.wrap (a + b))) else none
    | .sub => if k = k' then some (.int k (k.wrap (a - b))) else none
    | .mul => if k = k' then some (.int k (k.wrap (a * b))) else none
    | .quo => if k = k' ∧ b ≠ 0 then some (.int k (k.wrap (a.tdiv b))) else none
    | .rem => if k = k' ∧ b ≠ 0 then some (.int k (a.tmod b)) else none
    | .and => if k = k' then some (bitsV .and k a b) else none
    | .or => if k = k' then some (bitsV .or k a b) else none
    | .xor => if k = k' then some (bitsV .xor k a b) else none
    | .andNot => if k = k' then some (bitsV .andNot k a b) else none
    | .eql => if k = k' then some (.bool (a == b)) else none
    | .neq => if k = k' then some (.bool (a != b)) else none
    | .lss => if k = k' then some (.bool (decide (a < b))) else none
    | .leq => if k = k' then some (.bool (decide (a ≤ b))) else none
    | .gtr => if k = k' then some (.bool (decide (a > b))) else none
    | .geq => if k = k' then some (.bool (decide (a ≥ b))) else none
  | .bool a, .bool b => match op with
    | .eql => match P.underlying t with | some .bool => some (.bool (a == b)) | _ => none
    | .neq => match P.underlying t with | some .bool => some (.bool (!(a == b))) | _ => none
    | _ => none
  | _, _ => none
abbrev EqT := BinOp → TypeId → Value → Value → Option Value
/-- the table of comparisons holds -/
def EqOK (P : Program) (E : EqT) : Prop := ∀ op t x y v, E op t x y = some v → ∀ (xo yo : Operand) (w : World), (do eqGuard op t xo yo x y; binOp op t x y : Sem Value).run P w = .ok v w
def evBin (P : Program) (E : EqT) (op : BinOp) (t : TypeId) (x y : AV) : Option AV :=
  match x, y with
  | .v a, .v b => match pBin P op t a b with
    | some v => some (.v v)
    | none => match E op t a b with | some v => some (.v v) | none => none
  | _, _ => none
def evUn (op : UnOp) (x : AV) : Option AV :=
  match op, x with
  | .neg, .v (.int k n) => some (.v (.int k (k.wrap (0 - n))))
  | .xor, .v (.int k n) => some (.v (bitsV .xor k (if k.signed then -1 else k.max) n))
  | .not, .v (.bool b) => some (.v (.bool !b))
  | _, _ => none
def evConv (P : Program) (src dst : TypeId) (x : AV) : Option AV :=
  match x with
  | .v (.int _ n) => match tyInt P dst, P.underlying src with
    | some k, some _ => some (.v (.int k (k.wrap n)))
    | _, _ => none
  | _ => none
def evNil (x : AV) : Option AV :=
  match x with
  | .loc _ _ => some x
  | .v (.func (.func _) _ _) => some x
  | .v (.pointer (some _)) => some x
  | .fn (.func _) _ _ => some x
  | _ => none
def zeroGo (z : List Value) (j : Nat) : Nat → List Value
  | 0 => []
  | n + 1 => (z[j % z.length]?).getD default :: zeroGo z (j + 1) n
def zeroRow (z : List Value) (n : Nat) : List Value := zeroGo z 0 n
theorem zeroGo_eq (z : List Value) : ∀ (n j : Nat), zeroGo z j n = (List.range' j n).map fun i => z.toArray[i % z.length]!
  | 0, j => rfl
  | n + 1, j => by
    rw [zeroGo, List.range'_succ, List.map_cons, zeroGo_eq z n (j + 1)]
    simp [List.getElem!_toArray, List.getElem!_eq_getElem?_getD]
theorem zeroRow_eq (z : List Value) (n : Nat) : zeroRow z n = (List.range n).map fun j => z.toArray[j % z.length]! := by
  rw [zeroRow, zeroGo_eq, List.range_eq_range']
def evBuildSlice (P : Program) (t : TypeId) (len : Nat) (k : Nat) (ps : List (Nat × AV)) : ARes :=
  match tySlc P t with
  | some el => match tySize P el, tyZero P el with
    | some s, some z =>
      if len * s ≤ 2 ^ 24 ∧ len * s ≠ 0 then
        match fillA (fun i => some (i * s, s)) ((zeroRow z (len * s)).map .v) ps with
        | some c => some (.sl k 0 len len, [], [(k, .own c el)])
        | none => none
      else none
    | _, _ => none
  | none => none
def evLen (P : Program) (t : TypeId) (H : AHeap) (x : AV) : Option (AV × List Nat) :=
  match P.underlying t with
  | some (.slice _) => match x with
    | .sl _ _ n _ => some (.v (.int .i64 n), [])
    | .hd k => match H k with | some (.rd n _) => some (.v (.int .i64 n), [k]) | _ => none
    | .v (.slice _ n _) => some (.v (.int .i64 n), [])
    | _ => none
  | some .string => match x with | .v (.string s) => some (.v (.int .i64 s.size), []) | _ => none
  | some (.array n _) => some (.v (.int .i64 n), [])
  | _ => none
def tyBytes (P : Program) (t : TypeId) : Option Nat := (P.info? t).map (·.bytes)
def evArrayAt (P : Program) (t : TypeId) (H : AHeap) (x : AV) : Option (AV × List Nat) :=
  match tyArr P t with
  | some (n, _) => match x with
    | .sl b o len _ => if n ≤ len then some (.loc b o, []) else none
    | .hd k => match H k with | some (.rd len _) => if n ≤ len ∧ 0 < len then some (.ha k 0, [k]) else none | _ => none
    | _ => none
  | none => none
def evMakeSlice (P : Program) (t : TypeId) (k : Nat) (x y : AV) : ARes :=
  match x, y with
  | .v (.int _ n), .v (.int _ m) => match tySlc P t with
    | some el => match tySize P el, tyZero P el, tyBytes P el with
      | some s, some z, some b => if 0 ≤ n ∧ n ≤ m ∧ m < 16777216 ∧ b ≤ 4096 ∧ m.toNat * s ≠ 0 then some (.sl k 0 n.toNat m.toNat, [], [(k, .own ((zeroRow z (m.toNat * s)).map .v) el)]) else none
      | _, _, _ => none
    | none => none
  | _, _ => none
def evSliceAll (P : Program) (t : TypeId) (x : AV) : Option AV :=
  match tyArr P t with
  | some (n, el) => match x, tySize P el with
    | .loc b o, some _ => some (.sl b o n n)
    | _, _ => none
  | none => none
def wt (x : Option AV) : ARes := match x with | some a => some (a, [], []) | none => none
def wtt (x : Option (AV × List Nat)) : ARes := match x with | some (a, l) => some (a, l, []) | none => none
/-- one operation, computed -/
def evN (P : Program) (G : Glob) (E : EqT) (op : Op) (ρ : Operand → Option AV) (H : AHeap) (k : Nat) : ARes :=
  match op with
  | .move x => wt (ρ x)
  | .assign x => wt (ρ x)
  | .pick c a b => match ρ c with
    | some (.v (.bool q)) => if q then wt (ρ a) else wt (ρ b)
    | _ => none
  | .alloc t => match tyZero P t with | some z => some (.loc k 0, [], [(k, .own (z.map .v) t)]) | none => none
  | .box t x => match ρ x with | some a => some (.loc k 0, [], [(k, .own (cellsA a) t)]) | none => none
  | .build t ps => match partsA ρ ps.toList, tyZero P t with
    | some l, some z => if sizesOk P t then match fillA (placeA P t) (z.map .v) l with | some c => some (mkAgg c, [], []) | none => none else none
    | _, _ => none
  | .buildSlice t len ps => match partsA ρ ps.toList with | some l => evBuildSlice P t len k l | none => none
  | .load t x => match ρ x with | some a => evLoad P G t H a | none => none
  | .store t x y => match ρ x, ρ y with | some a, some b => evStore P t H a b | _, _ => none
  | .nilCheck x => match ρ x with | some a => wt (evNil a) | none => none
  | .binOp op t x y _ => match ρ x, ρ y with | some a, some b => wt (evBin P E op t a b) | _, _ => none
  | .unOp op _ x => match ρ x with | some a => wt (evUn op a) | none => none
  | .convert s d x => match ρ x with | some a => wt (evConv P s d a) | none => none
  | .makeFunc f a c => match listA ρ a.toList, listA ρ c.toList with | some x, some y => some (mkFn f x y, [], []) | _, _ => none
  | .fieldAddr t x f => match ρ x with | some a => wt (evFieldAddr P t f a) | none => none
  | .field t x f => match ρ x with | some a => wt (evField P t f a) | none => none
  | .indexAddr t x i => match ρ x, ρ i with | some a, some b => wtt (evIndexAddr P t H a b) | _, _ => none
  | .index t x i => match ρ x, ρ i with | some a, some b => wt (evIndex P t a b) | _, _ => none
  | .extract x i => match ρ x with | some a => wt (evExtract a i) | none => none
  | .call { callee := .builtin .len, args := args, argTypes := ts } => match args.toList, ts.toList with
    | [x], [t] => match ρ x with | some a => wtt (evLen P t H a) | none => none
    | _, _ => none
  | .call { callee := .builtin .min, args := args, argTypes := _ } => match args.toList with
    | [x, y] => match ρ x, ρ y with | some (.v (.int k a)), some (.v (.int _ b)) => some (.v (.int k (if b < a then b else a)), [], []) | _, _ => none
    | _ => none
  | .call { callee := .builtin .max, args := args, argTypes := _ } => match args.toList with
    | [x, y] => match ρ x, ρ y with | some (.v (.int k a)), some (.v (.int _ b)) => some (.v (.int k (if b > a then b else a)), [], []) | _, _ => none
    | _ => none
  | .sliceToArrayPointer t x => match ρ x with | some a => wtt (evArrayAt P t H a) | none => none
  | .makeSlice t x y => match ρ x, ρ y with | some a, some b => evMakeSlice P t k a b | _, _ => none
  | .slice t x none none none => match ρ x with | some a => wt (evSliceAll P t a) | none => none
  | _ => none
end Go.Proofs.YtikjbocagnolmaaDoor
