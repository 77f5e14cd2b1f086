/- A region that draws its order of evaluation, walked by an invariant: one goal an operation. No function of the program. -/
import Derived.Orders
import Derived.OrdersIn
import Derived.WalkKit
import Derived.StillTail
import Derived.Below
import Derived.Test.YtikjbocagnolmaaDoorBase
namespace Go.Proofs.YtikjbocagnolmaaDoor
/-- one more is listed -/
def upd (L : Nat → Bool) (i : Nat) : Nat → Bool := fun j => bif Nat.beq j i then true else L j
theorem upd_self (L : Nat → Bool) (i : Nat) : upd L i i = true := by simp [upd]
/-- does operation o wait for operation j? -/
def depB (o : Oper) (j : Nat) : Bool := o.after.any fun e => Region.binds .any e && Nat.beq e.on j
/-- every operation waits for earlier ones alone -/
def topoL : Nat → List Oper → Bool
  | _, [] => true
  | k, o :: rest => (o.after.all fun e => !Region.binds .any e || Nat.blt e.on k) && topoL (k + 1) rest
theorem topoL_spec : ∀ (l : List Oper) (k : Nat), topoL k l = true → ∀ (i : Nat) (o : Oper), l[i]? = some o → ∀ e ∈ o.after, Region.binds .any e = true → e.on < k + i
  | [], _, _, i, o, h => by simp at h
  | x :: l, k, ht, i, o, h => by
    simp only [topoL, Bool.and_eq_true] at ht
    intro e he hb
    cases i with
    | zero =>
      simp at h; subst h
      have := Array.all_eq_true_iff_forall_mem.1 ht.1 e he
      simp [hb] at this
      simpa using this
    | succ i =>
      have := topoL_spec l (k + 1) ht.2 i o (by simpa using h) e he hb
      omega
def listedFn (listed : Array Bool) : Nat → Bool := fun i => listed.getD i false
theorem listedFn_set (listed : Array Bool) (i : Nat) (h : i < listed.size) : listedFn (listed.setIfInBounds i true) = upd (listedFn listed) i := by
  funext j
  unfold listedFn upd
  cases hb : Nat.beq j i with
  | true =>
    obtain rfl := Nat.eq_of_beq_eq_true hb
    simp [h]
  | false =>
    have hne : i ≠ j := fun e => by rw [e] at hb; simp at hb
    simp [hne]
theorem ready_nil_all {ops : Array Oper} (ht : topoL 0 ops.toList = true) {listed : Array Bool} (hs : listed.size = ops.size) (hr : Region.ready .any ops listed = []) : ∀ i, i < ops.size → listedFn listed i = true := by
  intro i
  induction i using Nat.strongRecOn with
  | _ i ih =>
    intro hi
    apply Classical.byContradiction
    intro hn
    have hf : listed.getD i false = false := by unfold listedFn at hn; simpa using hn
    have : i ∈ Region.ready .any ops listed := by
      rw [mem_ready]
      refine ⟨?_, ops[i], Array.getElem?_eq_getElem hi, fun e he hb => ?_⟩
      · simp [hs, hi] at hf ⊢; exact hf
      · have hlt := topoL_spec ops.toList 0 ht i ops[i] (by simp [hi]) e he hb
        exact ih e.on (by omega) (by omega)
    rw [hr] at this; cases this

theorem getD_f {listed : Array Bool} {i : Nat} (h : listed.getD i true = false) : listedFn listed i = false := by
  unfold listedFn
  rcases Nat.lt_or_ge i listed.size with h' | h'
  · simp [h'] at h ⊢; exact h
  · simp [Array.getElem?_eq_none h'] at h
/-- what a listed operation waits for is listed -/
def Closed (ops : Array Oper) (listed : Array Bool) : Prop := ∀ k x, ops[k]? = some x → listedFn listed k = true → ∀ j, depB x j = true → listedFn listed j = true
theorem Closed.off {ops : Array Oper} {listed : Array Bool} (h : Closed ops listed) {k i : Nat} {x : Oper} (hx : ops[k]? = some x) (hd : depB x i = true) (hL : listedFn listed i = false) : listedFn listed k = false := by
  cases hk : listedFn listed k with
  | false => rfl
  | true => rw [h k x hx hk i hd] at hL; cases hL
theorem Closed.set {ops : Array Oper} {listed : Array Bool} (h : Closed ops listed) {i : Nat} {o : Oper} (hi : i < listed.size) (ho : ops[i]? = some o) (hdep : ∀ e ∈ o.after, Region.binds .any e = true → listed.getD e.on false = true) : Closed ops (listed.setIfInBounds i true) := by
  intro k x hx hk j hj
  rw [listedFn_set _ _ hi] at hk ⊢
  unfold upd at hk ⊢
  cases hji : Nat.beq j i with
  | true => rfl
  | false =>
    simp only [cond_false]
    cases hki : Nat.beq k i with
    | true =>
      obtain rfl := Nat.eq_of_beq_eq_true hki
      obtain rfl := Option.some.inj (hx.symm.trans ho)
      unfold depB at hj
      obtain ⟨e, he, hb⟩ := Array.any_eq_true'.1 hj
      simp only [Bool.and_eq_true] at hb
      obtain rfl := Nat.eq_of_beq_eq_true hb.2
      exact hdep e he hb.1
    | false => rw [hki] at hk; exact h k x hx hk j hj
theorem Closed.none {ops : Array Oper} : Closed ops (Array.replicate ops.size false) := by
  intro k x hx hk
  unfold listedFn at hk
  rw [getD_replicate_false] at hk; cases hk
section plain
variable {P : Program} {ops : Array Oper} {Q : Exit → Act → World → Prop}
def StepAt (P : Program) (ops : Array Oper) (Q : Exit → Act → World → Prop) (Inv : (Nat → Bool) → Act → World → Prop) (i : Nat) (o : Oper) : Prop :=
  ∀ (L : Nat → Bool) (a : Act) (w : World) (K : Act → World → Prop), Inv L a w → L i = false → (∀ j, depB o j = true → L j = true) → (∀ k x, ops[k]? = some x → depB x i = true → L k = false) → (∀ a' w', Inv (upd L i) a' w' → K a' w') →
    if Region.wanted o (yielded ops a.tmps) = true then Oper.wp P o a w K Q else K (a.put o.dst undef) w
def StepsFrom (P : Program) (ops : Array Oper) (Q : Exit → Act → World → Prop) (Inv : (Nat → Bool) → Act → World → Prop) : Nat → List Oper → Prop
  | _, [] => True
  | k, o :: rest => StepAt P ops Q Inv k o ∧ StepsFrom P ops Q Inv (k + 1) rest
theorem StepsFrom.get {Inv : (Nat → Bool) → Act → World → Prop} : ∀ (l : List Oper) (k : Nat), StepsFrom P ops Q Inv k l → ∀ i o, l[i]? = some o → StepAt P ops Q Inv (k + i) o
  | [], _, _, i, o, h => by simp at h
  | x :: l, k, hs, 0, o, h => by simp at h; subst h; exact hs.1
  | x :: l, k, hs, i + 1, o, h => by
    have := StepsFrom.get l (k + 1) hs.2 i o (by simpa using h)
    rwa [show k + 1 + i = k + (i + 1) by omega] at this
theorem wpAny_inv (Inv : (Nat → Bool) → Act → World → Prop) (ht : topoL 0 ops.toList = true) (hs : StepsFrom P ops Q Inv 0 ops.toList)
    (hd : ∀ L a w, Inv L a w → (∀ i, i < ops.size → L i = true) → Q .normal a w) :
    ∀ (fuel : Nat) (listed : Array Bool) (a : Act) (w : World), listed.size = ops.size → Closed ops listed → (∃ n : Nat, n + fuel = ops.size ∧ n = listed.toList.countP id) → Inv (listedFn listed) a w → wpAny P .any ops Q fuel listed a w := by
  intro fuel
  induction fuel with
  | zero =>
    rintro listed a w hsz hcl ⟨n, hn, hc⟩ hI
    have hall : ∀ x ∈ listed.toList, x = true := by
      have : listed.toList.countP id = listed.toList.length := by rw [← hc, Array.length_toList, hsz]; omega
      simpa using List.countP_eq_length.1 this
    have hl : ∀ i, i < ops.size → listedFn listed i = true := fun i hi => by
      unfold listedFn
      have := hall (listed[i]'(by omega)) (by simp)
      simp [show i < listed.size by omega, this]
    refine ⟨?_, hd _ a w hI hl⟩
    apply Classical.byContradiction
    intro hne
    obtain ⟨j, hj⟩ := List.exists_mem_of_ne_nil _ hne
    obtain ⟨h1, o, ho, _⟩ := mem_ready.1 hj
    have hj' := (Array.getElem?_eq_some_iff.1 ho).1
    have := hl j hj'
    unfold listedFn at this
    simp [show j < listed.size by omega] at this h1
    rw [this] at h1; cases h1
  | succ fuel ih =>
    rintro listed a w hsz hcl ⟨n, hn, hc⟩ hI
    refine ⟨fun hr => hd _ a w hI (ready_nil_all ht hsz hr), fun i hi => ?_⟩
    obtain ⟨h1, o, ho, hdep⟩ := mem_ready.1 hi
    have hi' := (Array.getElem?_eq_some_iff.1 ho).1
    have hL : listedFn listed i = false := getD_f h1
    have hst := StepsFrom.get ops.toList 0 hs i o (by simpa using ho)
    rw [Nat.zero_add] at hst
    have hcnt : (listed.setIfInBounds i true).toList.countP id = n + 1 := by
      rw [hc]
      have hil : i < listed.toList.length := by simp; omega
      have hfi : listed.toList[i] = false := by unfold listedFn at hL; simp [show i < listed.size by omega] at hL; simpa using hL
      rw [Array.toList_setIfInBounds, List.countP_set (h := hil)]
      simp [hfi]
    have hstep := hst (listedFn listed) a w (wpAny P .any ops Q fuel (listed.setIfInBounds i true)) hI hL
      (fun j hj => by
        unfold depB at hj
        obtain ⟨e, he, hb⟩ := Array.any_eq_true'.1 hj
        simp only [Bool.and_eq_true] at hb
        obtain rfl := Nat.eq_of_beq_eq_true hb.2
        exact hdep e he hb.1)
      (fun k x hx hdx => hcl.off hx hdx hL)
      (fun a' w' hI' => ih _ a' w' (by simp [hsz]) (hcl.set (by omega) ho hdep) ⟨n + 1, by omega, hcnt.symm⟩ (by rw [listedFn_set _ _ (by omega)]; exact hI'))
    unfold wpOp
    rw [ho]
    dsimp only
    split
    · rename_i hw; rw [if_pos hw] at hstep; exact .inl hstep
    · rename_i hw; rw [if_neg hw] at hstep; exact hstep
/-- **A REGION THAT DRAWS ITS ORDER, BY AN INVARIANT**: of what holds when just the operations of L have run. One goal an operation, whatever the order. -/
theorem wp_region_inv {id : Nat} {a : Act} {w : World} (Inv : (Nat → Bool) → Act → World → Prop) (hm : P.follows .mixedOrders = true) (ht : topoL 0 ops.toList = true) (h0 : Inv (fun _ => false) a w.drew)
    (hs : StepsFrom P ops Q Inv 0 ops.toList) (hd : ∀ L a w, Inv L a w → (∀ i, i < ops.size → L i = true) → Q .normal a w) : (Code.region id ops true).wp P Q a w :=
  wp_region_any hm (wpAny_inv Inv ht hs hd ops.size _ a _ (by simp) Closed.none ⟨0, by simp, by simp [List.countP_replicate]⟩ (by
    have : listedFn (Array.replicate ops.size false) = fun _ => false := by
      funext i; unfold listedFn; exact getD_replicate_false _ _
    rw [this]; exact h0))
end plain
section fenced
variable {F : Fence} {n : Nat} {P : Program} {ops : Array Oper} {Q : Exit → Act → World → Prop}
def StepAtIn (F : Fence) (n : Nat) (P : Program) (ops : Array Oper) (Q : Exit → Act → World → Prop) (Inv : (Nat → Bool) → Act → World → Prop) (i : Nat) (o : Oper) : Prop :=
  ∀ (L : Nat → Bool) (a : Act) (w : World) (K : Act → World → Prop), Inv L a w → L i = false → (∀ j, depB o j = true → L j = true) → (∀ k x, ops[k]? = some x → depB x i = true → L k = false) → (∀ a' w', Inv (upd L i) a' w' → K a' w') →
    if Region.wanted o (yielded ops a.tmps) = true then Oper.wpIn F n P o a w K Q else (∀ f, o.about P w a.eval = some f → F.fn f) ∧ K (a.put o.dst undef) w
def StepsFromIn (F : Fence) (n : Nat) (P : Program) (ops : Array Oper) (Q : Exit → Act → World → Prop) (Inv : (Nat → Bool) → Act → World → Prop) : Nat → List Oper → Prop
  | _, [] => True
  | k, o :: rest => StepAtIn F n P ops Q Inv k o ∧ StepsFromIn F n P ops Q Inv (k + 1) rest
theorem StepsFromIn.get {Inv : (Nat → Bool) → Act → World → Prop} : ∀ (l : List Oper) (k : Nat), StepsFromIn F n P ops Q Inv k l → ∀ i o, l[i]? = some o → StepAtIn F n P ops Q Inv (k + i) o
  | [], _, _, i, o, h => by simp at h
  | x :: l, k, hs, 0, o, h => by simp at h; subst h; exact hs.1
  | x :: l, k, hs, i + 1, o, h => by
    have := StepsFromIn.get l (k + 1) hs.2 i o (by simpa using h)
    rwa [show k + 1 + i = k + (i + 1) by omega] at this
theorem wpAnyIn_inv (Inv : (Nat → Bool) → Act → World → Prop) (ht : topoL 0 ops.toList = true) (hs : StepsFromIn F n P ops Q Inv 0 ops.toList)
    (hd : ∀ L a w, Inv L a w → (∀ i, i < ops.size → L i = true) → Q .normal a w) :
    ∀ (fuel : Nat) (listed : Array Bool) (a : Act) (w : World), listed.size = ops.size → Closed ops listed → (∃ m : Nat, m + fuel = ops.size ∧ m = listed.toList.countP id) → Inv (listedFn listed) a w → wpAnyIn F n P .any ops Q fuel listed a w := by
  intro fuel
  induction fuel with
  | zero =>
    rintro listed a w hsz hcl ⟨m, hn, hc⟩ hI
    have hall : ∀ x ∈ listed.toList, x = true := by
      have : listed.toList.countP id = listed.toList.length := by rw [← hc, Array.length_toList, hsz]; omega
      simpa using List.countP_eq_length.1 this
    have hl : ∀ i, i < ops.size → listedFn listed i = true := fun i hi => by
      unfold listedFn
      have := hall (listed[i]'(by omega)) (by simp)
      simp [show i < listed.size by omega, this]
    refine ⟨?_, hd _ a w hI hl⟩
    apply Classical.byContradiction
    intro hne
    obtain ⟨j, hj⟩ := List.exists_mem_of_ne_nil _ hne
    obtain ⟨h1, o, ho, _⟩ := mem_ready.1 hj
    have hj' := (Array.getElem?_eq_some_iff.1 ho).1
    have := hl j hj'
    unfold listedFn at this
    simp [show j < listed.size by omega] at this h1
    rw [this] at h1; cases h1
  | succ fuel ih =>
    rintro listed a w hsz hcl ⟨m, hn, hc⟩ hI
    refine ⟨fun hr => hd _ a w hI (ready_nil_all ht hsz hr), fun i hi => ?_⟩
    obtain ⟨h1, o, ho, hdep⟩ := mem_ready.1 hi
    have hi' := (Array.getElem?_eq_some_iff.1 ho).1
    have hL : listedFn listed i = false := getD_f h1
    have hst := StepsFromIn.get ops.toList 0 hs i o (by simpa using ho)
    rw [Nat.zero_add] at hst
    have hcnt : (listed.setIfInBounds i true).toList.countP id = m + 1 := by
      rw [hc]
      have hil : i < listed.toList.length := by simp; omega
      have hfi : listed.toList[i] = false := by unfold listedFn at hL; simp [show i < listed.size by omega] at hL; simpa using hL
      rw [Array.toList_setIfInBounds, List.countP_set (h := hil)]
      simp [hfi]
    have hstep := hst (listedFn listed) a w (wpAnyIn F n P .any ops Q fuel (listed.setIfInBounds i true)) hI hL
      (fun j hj => by
        unfold depB at hj
        obtain ⟨e, he, hb⟩ := Array.any_eq_true'.1 hj
        simp only [Bool.and_eq_true] at hb
        obtain rfl := Nat.eq_of_beq_eq_true hb.2
        exact hdep e he hb.1)
      (fun k x hx hdx => hcl.off hx hdx hL)
      (fun a' w' hI' => ih _ a' w' (by simp [hsz]) (hcl.set (by omega) ho hdep) ⟨m + 1, by omega, hcnt.symm⟩ (by rw [listedFn_set _ _ (by omega)]; exact hI'))
    unfold wpOpIn
    rw [ho]
    dsimp only
    split
    · rename_i hw; rw [if_pos hw] at hstep; exact hstep
    · rename_i hw; rw [if_neg hw] at hstep; exact hstep
/-- **A REGION THAT DRAWS ITS ORDER, BY AN INVARIANT**: of what holds when just the operations of L have run. One goal an operation, whatever the order. -/
theorem wpIn_region_inv {id : Nat} {a : Act} {w : World} (Inv : (Nat → Bool) → Act → World → Prop) (hm : P.follows .mixedOrders = true) (ht : topoL 0 ops.toList = true) (h0 : Inv (fun _ => false) a w.drew)
    (hs : StepsFromIn F n P ops Q Inv 0 ops.toList) (hd : ∀ L a w, Inv L a w → (∀ i, i < ops.size → L i = true) → Q .normal a w) : (Code.region id ops true).wpIn F n P Q a w :=
  wpIn_region_any hm (wpAnyIn_inv Inv ht hs hd ops.size _ a _ (by simp) Closed.none ⟨0, by simp, by simp [List.countP_replicate]⟩ (by
    have : listedFn (Array.replicate ops.size false) = fun _ => false := by
      funext i; unfold listedFn; exact getD_replicate_false _ _
    rw [this]; exact h0))
end fenced

/-! a block's cells, out of the block -/
open Go.RowKit
theorem heap_cell {w : World} {B : Nat} {cs : Array Value} {t : TypeId} {fr : Nat × Nat} (h : w.heap[B]? = some (.cells cs t fr)) (i : Nat) {v : Value} (hv : cs[i]? = some v) : w.cell? ⟨B, i, none⟩ = some v := by
  simp [World.cell?, h, hv]
theorem heap_free {w : World} {B : Nat} {cs : Array Value} {t : TypeId} (h : w.heap[B]? = some (.cells cs t (0, 0))) (i : Nat) : w.frozen? ⟨B, i, none⟩ = false := by
  simp [World.frozen?, h]
theorem heap_lt {w : World} {B : Nat} {o : Obj} (h : w.heap[B]? = some o) : B < w.heap.size := (Array.getElem?_eq_some_iff.1 h).1
theorem heap_alloc {w : World} {B : Nat} {o : Obj} (h : w.heap[B]? = some o) (x : Obj) : (w.alloc x).heap[B]? = some o := (Below.heap_alloc w x B (heap_lt h)).trans h
theorem heap_new (w : World) (o : Obj) : (w.alloc o).heap[w.heap.size]? = some o := World.alloc_heap_new w o
theorem heap_new1 (w : World) (x o : Obj) : ((w.alloc x).alloc o).heap[w.heap.size + 1]? = some o := by
  have := heap_new (w.alloc x) o; rwa [World.size_alloc] at this
theorem heap_new2 (w : World) (x y o : Obj) : (((w.alloc x).alloc y).alloc o).heap[w.heap.size + 1 + 1]? = some o := by
  have := heap_new1 (w.alloc x) y o; rwa [World.size_alloc] at this
theorem heap_new3 (w : World) (x y z o : Obj) : ((((w.alloc x).alloc y).alloc z).alloc o).heap[w.heap.size + 1 + 1 + 1]? = some o := by
  have := heap_new2 (w.alloc x) y z o; rwa [World.size_alloc] at this
theorem heap_new4 (w : World) (x y z v o : Obj) : (((((w.alloc x).alloc y).alloc z).alloc v).alloc o).heap[w.heap.size + 1 + 1 + 1 + 1]? = some o := by
  have := heap_new3 (w.alloc x) y z v o; rwa [World.size_alloc] at this
theorem heap_new5 (w : World) (x y z v u o : Obj) : ((((((w.alloc x).alloc y).alloc z).alloc v).alloc u).alloc o).heap[w.heap.size + 1 + 1 + 1 + 1 + 1]? = some o := by
  have := heap_new4 (w.alloc x) y z v u o; rwa [World.size_alloc] at this
theorem heap_drew {w : World} {B : Nat} {o : Obj} (h : w.heap[B]? = some o) : w.drew.heap[B]? = some o := h
theorem wanted_none {o : Oper} {y : Nat → Option Bool} (h : o.guard = none) : Region.wanted o y = true := by unfold Region.wanted; rw [h]
theorem step_on {b : Bool} {p q : Prop} (hb : b = true) (h : p) : if b = true then p else q := by rw [if_pos hb]; exact h
theorem step_off {b : Bool} {p q : Prop} (hb : b = false) (h : q) : if b = true then p else q := by rw [if_neg (by rw [hb]; exact Bool.false_ne_true)]; exact h
theorem Bel.set {w W : World} {B i : Nat} (h : Bel w W) (hB : w.heap.size ≤ B) (v : Value) : Bel w (W.setCell ⟨B, i, none⟩ v) := Below.setCell h hB v
theorem heap_below {w w' : World} {B : Nat} {o : Obj} (h : w.heap[B]? = some o) (hb : Below w.heap.size w w') : w'.heap[B]? = some o := (hb.block B (heap_lt h)).trans h
theorem heap_set_other {w : World} {B : Nat} {o : Obj} (h : w.heap[B]? = some o) (a : Addr) (v : Value) (hne : B ≠ a.block) : (w.setCell a v).heap[B]? = some o := (Below.heap_setCell w a v B hne).trans h
theorem heap_set {w : World} {B i : Nat} {cs : Array Value} {t : TypeId} {fr : Nat × Nat} (h : w.heap[B]? = some (.cells cs t fr)) (v : Value) : (w.setCell ⟨B, i, none⟩ v).heap[B]? = some (.cells (cs.setIfInBounds i v) t fr) := by
  have hlt := heap_lt h
  have hg : w.heap[B] = .cells cs t fr := (Array.getElem?_eq_some_iff.1 h).2
  simp only [World.setCell]
  rw [Array.getElem?_eq_getElem (by simpa using hlt), Array.getElem_modify_self, hg]; rfl
theorem heap_set2 {w : World} {B : Nat} {x0 x1 : Value} {t : TypeId} {fr : Nat × Nat} (h : w.heap[B]? = some (.cells #[x0, x1] t fr)) (v0 v1 : Value) :
    ((w.setCell ⟨B, 0, none⟩ v0).setCell ⟨B, 1, none⟩ v1).heap[B]? = some (.cells #[v0, v1] t fr) := heap_set (heap_set h v0) v1
theorem heap_set3 {w : World} {B : Nat} {x0 x1 x2 : Value} {t : TypeId} {fr : Nat × Nat} (h : w.heap[B]? = some (.cells #[x0, x1, x2] t fr)) (v0 v1 v2 : Value) :
    (((w.setCell ⟨B, 0, none⟩ v0).setCell ⟨B, 1, none⟩ v1).setCell ⟨B, 2, none⟩ v2).heap[B]? = some (.cells #[v0, v1, v2] t fr) := heap_set (heap_set (heap_set h v0) v1) v2
theorem heap_set4 {w : World} {B : Nat} {x0 x1 x2 x3 : Value} {t : TypeId} {fr : Nat × Nat} (h : w.heap[B]? = some (.cells #[x0, x1, x2, x3] t fr)) (v0 v1 v2 v3 : Value) :
    ((((w.setCell ⟨B, 0, none⟩ v0).setCell ⟨B, 1, none⟩ v1).setCell ⟨B, 2, none⟩ v2).setCell ⟨B, 3, none⟩ v3).heap[B]? = some (.cells #[v0, v1, v2, v3] t fr) := heap_set (heap_set (heap_set (heap_set h v0) v1) v2) v3
theorem heap_other4 {w : World} {B B' : Nat} {o : Obj} (h : w.heap[B]? = some o) (hne : B ≠ B') (v0 v1 v2 v3 : Value) :
    ((((w.setCell ⟨B', 0, none⟩ v0).setCell ⟨B', 1, none⟩ v1).setCell ⟨B', 2, none⟩ v2).setCell ⟨B', 3, none⟩ v3).heap[B]? = some o := heap_set_other (heap_set_other (heap_set_other (heap_set_other h _ _ hne) _ _ hne) _ _ hne) _ _ hne
theorem heap_set5 {w : World} {B : Nat} {x0 x1 x2 x3 x4 : Value} {t : TypeId} {fr : Nat × Nat} (h : w.heap[B]? = some (.cells #[x0, x1, x2, x3, x4] t fr)) (v0 v1 v2 v3 v4 : Value) :
    (((((w.setCell ⟨B, 0, none⟩ v0).setCell ⟨B, 1, none⟩ v1).setCell ⟨B, 2, none⟩ v2).setCell ⟨B, 3, none⟩ v3).setCell ⟨B, 4, none⟩ v4).heap[B]? = some (.cells #[v0, v1, v2, v3, v4] t fr) := heap_set (heap_set (heap_set (heap_set (heap_set h v0) v1) v2) v3) v4
end Go.Proofs.YtikjbocagnolmaaDoor
