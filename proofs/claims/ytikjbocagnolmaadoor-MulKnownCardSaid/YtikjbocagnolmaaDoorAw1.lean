/- Abstract states of a walk: registers and blocks by small numbers, and what a world has of them. No function of the program. -/
import Derived.Test.YtikjbocagnolmaaDoorBase
import Derived.Test.YtikjbocagnolmaaDoorReg
import Derived.Laws.CopyRow
namespace Go.Proofs.YtikjbocagnolmaaDoor
set_option linter.unusedVariables false
open Go.RowKit
/-- an abstract value: plain, or something that points into blocks that are known by small numbers -/
inductive AV where
  | v (x : Value)
  | loc (b off : Nat)
  | sl (b off len cap : Nat)
  | hd (k : Nat)
  | ha (k off : Nat)
  | fn (f : Fn) (first captured : List AV)
  | tup (l : List AV)
  | agg (l : List AV)
def sliceOf : Value → Value
  | .slice a l c => .slice a l c
  | _ => .slice none 0 0
structure Env where
  blk : Nat → Nat
  hnd : Nat → Value
mutual
def AV.val (e : Env) : AV → Value
  | .v x => x
  | .loc b off => .pointer (some ⟨e.blk b, off, none⟩)
  | .sl b off len cap => .slice (some ⟨e.blk b, off, none⟩) len cap
  | .hd k => sliceOf (e.hnd k)
  | .ha k off => match e.hnd k with | .slice (some a) _ _ => .pointer (some ⟨a.block, a.off + off, none⟩) | _ => .pointer (some ⟨0, off, none⟩)
  | .fn f a c => .func f (AV.vals e a).toArray (AV.vals e c).toArray
  | .tup l => .tuple (AV.vals e l).toArray
  | .agg l => .agg (AV.vals e l).toArray
def AV.vals (e : Env) : List AV → List Value
  | [] => []
  | x :: l => AV.val e x :: AV.vals e l
end
theorem AV.vals_map (e : Env) : ∀ l : List AV, AV.vals e l = l.map (AV.val e)
  | [] => rfl
  | x :: l => by rw [AV.vals, AV.vals_map e l]; rfl
mutual
def AV.refs : AV → List Nat
  | .v _ => []
  | .loc b _ => [b]
  | .sl b _ _ _ => [b]
  | .hd k => [k]
  | .ha k _ => [k]
  | .fn _ a c => AV.refss a ++ AV.refss c
  | .tup l => AV.refss l
  | .agg l => AV.refss l
def AV.refss : List AV → List Nat
  | [] => []
  | x :: l => AV.refs x ++ AV.refss l
end
theorem AV.mem_refss {r : Nat} : ∀ {l : List AV}, r ∈ AV.refss l ↔ ∃ x ∈ l, r ∈ AV.refs x
  | [] => by simp [AV.refss]
  | x :: l => by rw [AV.refss, List.mem_append, AV.mem_refss (l := l)]; simp
/-- what an abstract block is: one of the call's own, or a slice that reads as plain cells -/
inductive AO where
  | own (c : List AV) (t : TypeId)
  | rd (n : Nat) (c : List Value)
def AO.refs : AO → List Nat
  | .own c _ => AV.refss c
  | .rd _ _ => []
abbrev AHeap := Nat → Option AO
def AHeap.put (H : AHeap) (k : Nat) (o : AO) : AHeap := fun j => if j = k then some o else H j
def AHeap.puts (H : AHeap) : List (Nat × AO) → AHeap
  | [] => H
  | x :: l => AHeap.puts (H.put x.1 x.2) l
abbrev Regs := Nat → Option AV
def Regs.put (T : Regs) (d : Option Nat) (x : AV) : Regs := match d with | none => T | some d => fun j => if j = d then some x else T j
theorem AHeap.put_same (H : AHeap) (k : Nat) (o : AO) : (H.put k o) k = some o := by simp [AHeap.put]
theorem AHeap.put_ne (H : AHeap) (k : Nat) (o : AO) {j : Nat} (h : j ≠ k) : (H.put k o) j = H j := by simp [AHeap.put, h]
theorem Regs.put_same (T : Regs) (d : Nat) (x : AV) : (T.put (some d) x) d = some x := by simp [Regs.put]
theorem Regs.put_ne (T : Regs) (d : Nat) (x : AV) {j : Nat} (h : j ≠ d) : (T.put (some d) x) j = T j := by simp [Regs.put, h]
theorem Regs.put_none (T : Regs) (x : AV) : T.put none x = T := rfl
def rdOp (T : Regs) : Operand → Option AV
  | .tmp t => T t
  | .const v => some (.v v)
  | .global g => some (.v (.pointer (some ⟨g, 0, none⟩)))
  | .func f => some (.v (.func (.func f) #[] #[]))
/-- the temporaries are as the registers say -/
def RegsOK (nt : Nat) (e : Env) (T : Regs) (a : Act) : Prop := a.tmps.size = nt ∧ ∀ t x, T t = some x → t < nt ∧ a.tmps.getD t undef = x.val e
theorem RegsOK.eval {nt : Nat} {e : Env} {T : Regs} {a : Act} (h : RegsOK nt e T a) {x : Operand} {y : AV} (hx : rdOp T x = some y) : a.eval x = y.val e := by
  cases x with
  | tmp t => exact (h.2 t y hx).2
  | const v => simp only [rdOp, Option.some.injEq] at hx; subst hx; rfl
  | global g => simp only [rdOp, Option.some.injEq] at hx; subst hx; rfl
  | func f => simp only [rdOp, Option.some.injEq] at hx; subst hx; rfl
/-- a slice value reads as cells -/
def Reads (w : World) (v : Value) (n : Nat) (c : List Value) : Prop :=
  (v = .slice none 0 0 ∧ n = 0 ∧ c = []) ∨ ∃ b off cap, v = .slice (some ⟨b, off, none⟩) n cap ∧ b < w.heap.size ∧ ∀ j x, c[j]? = some x → w.cell? ⟨b, off + j, none⟩ = some x
def vblock : Value → Option Nat
  | .slice (some a) _ _ => some a.block
  | .pointer (some a) => some a.block
  | _ => none
theorem Reads.same {w w' : World} {v : Value} {n : Nat} {c : List Value} (h : Reads w v n c) (hs : w.heap.size ≤ w'.heap.size) (hb : ∀ b, vblock v = some b → b < w.heap.size → w'.heap[b]? = w.heap[b]?) : Reads w' v n c := by
  rcases h with h | ⟨b, off, cap, rfl, hlt, hc⟩
  · exact .inl h
  · refine .inr ⟨b, off, cap, rfl, by omega, fun j x hj => ?_⟩
    rw [← hc j x hj]
    exact World.cell?_of_block (w := w) (a := ⟨b, off + j, none⟩) (hb b rfl hlt)
theorem Reads.lt {w : World} {v : Value} {n : Nat} {c : List Value} (h : Reads w v n c) {b : Nat} (hb : vblock v = some b) : b < w.heap.size := by
  rcases h with ⟨rfl, _⟩ | ⟨b', off, cap, rfl, hlt, _⟩
  · simp [vblock] at hb
  · simp [vblock] at hb; omega
abbrev Glob := List (Nat × List Value)
/-- the package's variables hold what they were laid with -/
def Gl (G : Glob) (w : World) : Prop := ∀ x ∈ G, x.1 < w.heap.size ∧ ∀ j v, x.2[j]? = some v → w.cell? ⟨x.1, j, none⟩ = some v
theorem Gl.same {G : Glob} {w w' : World} (h : Gl G w) (hs : w.heap.size ≤ w'.heap.size) (hb : ∀ x ∈ G, w'.heap[x.1]? = w.heap[x.1]?) : Gl G w' := fun x hx =>
  ⟨Nat.lt_of_lt_of_le (h x hx).1 hs, fun j v hj => by rw [← (h x hx).2 j v hj]; exact World.cell?_of_block (w := w) (a := ⟨x.1, j, none⟩) (hb x hx)⟩
theorem Gl.bel {G : Glob} {w w' : World} (h : Gl G w) (hb : Bel w w') : Gl G w' := h.same (Below.size hb) fun x hx => Below.block hb x.1 (h x hx).1
/-- what was there when a walk began and is its own to turn: the blocks, their small numbers, and what these stood for -/
structure Bas where
  blks : List Nat
  dom : List Nat
  env : Env
def Bas.nil : Bas := ⟨[], [], ⟨fun _ => 0, fun _ => undef⟩⟩
/-- what a world has of the abstract blocks -/
structure Rep (G : Glob) (w0 : World) (B0 : Bas) (e : Env) (H : AHeap) (w : World) : Prop where
  os : w.os = w0.os
  tape : w.tape = w0.tape
  output : w.output = w0.output
  size : w0.heap.size ≤ w.heap.size
  old : ∀ b, b < w0.heap.size → b ∉ B0.blks → w.heap[b]? = w0.heap[b]?
  gl : Gl G w
  own : ∀ k c t, H k = some (.own c t) → w.heap[e.blk k]? = some (.cells (AV.vals e c).toArray t (0, 0))
  ge : ∀ k c t, H k = some (.own c t) → w0.heap.size ≤ e.blk k ∨ e.blk k ∈ B0.blks
  glo : ∀ k c t, H k = some (.own c t) → ∀ x ∈ G, x.1 ≠ e.blk k
  inj : ∀ k c t k' c' t', H k = some (.own c t) → H k' = some (.own c' t') → e.blk k = e.blk k' → k = k'
  rd : ∀ k n l, H k = some (.rd n l) → Reads w (e.hnd k) n l
  apart : ∀ k n l k' c t, H k = some (.rd n l) → H k' = some (.own c t) → vblock (e.hnd k) ≠ some (e.blk k')
  refs : ∀ k o, H k = some o → ∀ r ∈ o.refs, H r ≠ none
  env : ∀ k ∈ B0.dom, H k ≠ none ∧ e.blk k = B0.env.blk k ∧ e.hnd k = B0.env.hnd k
/-- two environments agree where a heap has something -/
def Env.on (H : AHeap) (e e' : Env) : Prop := ∀ k, H k ≠ none → e'.blk k = e.blk k ∧ e'.hnd k = e.hnd k
theorem Env.on.refl (H : AHeap) (e : Env) : Env.on H e e := fun _ _ => ⟨rfl, rfl⟩
mutual
theorem AV.val_on {H : AHeap} {e e' : Env} (h : Env.on H e e') : ∀ x : AV, (∀ r ∈ x.refs, H r ≠ none) → x.val e' = x.val e
  | .v _, _ => rfl
  | .loc b off, hr => by simp only [AV.val]; rw [(h b (hr b (by simp [AV.refs]))).1]
  | .sl b off len cap, hr => by simp only [AV.val]; rw [(h b (hr b (by simp [AV.refs]))).1]
  | .hd k, hr => by simp only [AV.val]; rw [(h k (hr k (by simp [AV.refs]))).2]
  | .ha k off, hr => by simp only [AV.val]; rw [(h k (hr k (by simp [AV.refs]))).2]
  | .fn f a c, hr => by
    simp only [AV.val]
    rw [AV.vals_on h a (fun r hm => hr r (by rw [AV.refs]; exact List.mem_append_left _ hm)), AV.vals_on h c (fun r hm => hr r (by rw [AV.refs]; exact List.mem_append_right _ hm))]
  | .tup l, hr => by simp only [AV.val]; rw [AV.vals_on h l (fun r hm => hr r (by rw [AV.refs]; exact hm))]
  | .agg l, hr => by simp only [AV.val]; rw [AV.vals_on h l (fun r hm => hr r (by rw [AV.refs]; exact hm))]
theorem AV.vals_on {H : AHeap} {e e' : Env} (h : Env.on H e e') : ∀ l : List AV, (∀ r ∈ AV.refss l, H r ≠ none) → AV.vals e' l = AV.vals e l
  | [], _ => rfl
  | x :: l, hr => by
    rw [AV.vals, AV.vals, AV.val_on h x (fun r hm => hr r (by rw [AV.refss]; exact List.mem_append_left _ hm)), AV.vals_on h l (fun r hm => hr r (by rw [AV.refss]; exact List.mem_append_right _ hm))]
end
/-- the registers point at what is there -/
def RegsIn (T : Regs) (H : AHeap) : Prop := ∀ t x, T t = some x → ∀ r ∈ x.refs, H r ≠ none
theorem RegsOK.on {nt : Nat} {H : AHeap} {e e' : Env} {T : Regs} {a : Act} (h : RegsOK nt e T a) (hi : RegsIn T H) (he : Env.on H e e') : RegsOK nt e' T a :=
  ⟨h.1, fun t x hx => ⟨(h.2 t x hx).1, by rw [AV.val_on he x (hi t x hx)]; exact (h.2 t x hx).2⟩⟩
theorem Act.put_size (a : Act) (d : Option Tmp) (v : Value) : (a.put d v).tmps.size = a.tmps.size := by cases d <;> simp [Act.put]
theorem Act.put_defers (a : Act) (d : Option Tmp) (v : Value) : (a.put d v).defers = a.defers := by cases d <;> rfl
theorem RegsOK.put {nt : Nat} {e : Env} {T : Regs} {a : Act} (h : RegsOK nt e T a) {d : Option Tmp} (hd : ∀ t, d = some t → t < nt) (x : AV) : RegsOK nt e (T.put d x) (a.put d (x.val e)) := by
  refine ⟨by rw [Act.put_size]; exact h.1, fun t y hy => ?_⟩
  cases d with
  | none => exact h.2 t y hy
  | some d =>
    have hd' := hd d rfl
    have hs := h.1
    by_cases ht : t = d
    · subst ht
      rw [Regs.put_same] at hy; cases hy
      refine ⟨hd', ?_⟩
      simp [Act.put, hs, hd']
    · rw [Regs.put_ne _ _ _ ht] at hy
      refine ⟨(h.2 t y hy).1, ?_⟩
      rw [← (h.2 t y hy).2]
      simp only [Act.put, Array.getD_eq_getD_getElem?]
      rw [Array.getElem?_setIfInBounds_ne (by omega)]
theorem RegsIn.put {T : Regs} {H : AHeap} (h : RegsIn T H) (d : Option Tmp) {x : AV} (hx : ∀ r ∈ x.refs, H r ≠ none) : RegsIn (T.put d x) H := by
  intro t y hy
  cases d with
  | none => exact h t y hy
  | some d =>
    by_cases ht : t = d
    · subst ht; rw [Regs.put_same] at hy; cases hy; exact hx
    · rw [Regs.put_ne _ _ _ ht] at hy; exact h t y hy
theorem AHeap.put_dom (H : AHeap) (k : Nat) (o : AO) {r : Nat} (h : H r ≠ none) : (H.put k o) r ≠ none := by
  unfold AHeap.put; split <;> simp [h]
theorem RegsIn.grow {T : Regs} {H H' : AHeap} (h : RegsIn T H) (hh : ∀ r, H r ≠ none → H' r ≠ none) : RegsIn T H' := fun t x hx r hr => hh r (h t x hx r hr)
/-! new blocks, stores -/
theorem Rep.drew {G : Glob} {w0 : World} {B0 : Bas} {e : Env} {H : AHeap} {w : World} (h : Rep G w0 B0 e H w) : Rep G w0 B0 e H w.drew :=
  ⟨h.os, h.tape, h.output, h.size, h.old, h.gl, h.own, h.ge, h.glo, h.inj, fun k n l hk => (h.rd k n l hk).same (Nat.le_refl _) (fun _ _ _ => rfl), h.apart, h.refs, h.env⟩
def Env.setBlk (e : Env) (k b : Nat) : Env := { e with blk := fun j => if j = k then b else e.blk j }
def Env.setHnd (e : Env) (k : Nat) (v : Value) : Env := { e with hnd := fun j => if j = k then v else e.hnd j }
theorem Env.setBlk_on {H : AHeap} {k : Nat} (hk : H k = none) (e : Env) (b : Nat) : Env.on H e (e.setBlk k b) := fun j hj => by
  have : j ≠ k := by rintro rfl; exact hj hk
  simp [Env.setBlk, this]
theorem Env.setHnd_on {H : AHeap} {k : Nat} (hk : H k = none) (e : Env) (v : Value) : Env.on H e (e.setHnd k v) := fun j hj => by
  have : j ≠ k := by rintro rfl; exact hj hk
  simp [Env.setHnd, this]
theorem AHeap.put_eq {H : AHeap} {k j : Nat} {o o' : AO} (h : (H.put k o) j = some o') : (j = k ∧ o' = o) ∨ (j ≠ k ∧ H j = some o') := by
  by_cases hj : j = k
  · subst hj; rw [AHeap.put_same] at h; cases h; exact .inl ⟨rfl, rfl⟩
  · rw [AHeap.put_ne _ _ _ hj] at h; exact .inr ⟨hj, h⟩
theorem Rep.lt {G : Glob} {w0 : World} {B0 : Bas} {e : Env} {H : AHeap} {w : World} (h : Rep G w0 B0 e H w) {k : Nat} {c : List AV} {t : TypeId} (hk : H k = some (.own c t)) : e.blk k < w.heap.size :=
  (Array.getElem?_eq_some_iff.1 (h.own k c t hk)).1
/-- one block more -/
theorem Rep.alloc {G : Glob} {w0 : World} {B0 : Bas} {e : Env} {H : AHeap} {w : World} (h : Rep G w0 B0 e H w) {k : Nat} (hk : H k = none) (c : List AV) (t : TypeId) (hc : ∀ r ∈ AV.refss c, H r ≠ none) :
    Rep G w0 B0 (e.setBlk k w.heap.size) (H.put k (.own c t)) (w.alloc (.cells (AV.vals e c).toArray t (0, 0))) := by
  have hon := Env.setBlk_on hk e w.heap.size
  have hne : ∀ j o, H j = some o → j ≠ k := fun j o hj => by rintro rfl; rw [hk] at hj; cases hj
  have hb : ∀ j, j ≠ k → (e.setBlk k w.heap.size).blk j = e.blk j := fun j hj => by simp [Env.setBlk, hj]
  have hbk : (e.setBlk k w.heap.size).blk k = w.heap.size := by simp [Env.setBlk]
  have hlt : ∀ x ∈ G, x.1 < w.heap.size := fun x hx => (h.gl x hx).1
  refine ⟨h.os, h.tape, h.output, ?_, ?_, ?_, ?_, ?_, ?_, ?_, ?_, ?_, ?_, fun j hj => ⟨AHeap.put_dom _ _ _ (h.env j hj).1, by rw [hb j (fun e => (h.env j hj).1 (by rw [e]; exact hk))]; exact (h.env j hj).2.1, (h.env j hj).2.2⟩⟩
  · have := h.size; simp; omega
  · intro b hb hb0
    rw [Below.heap_alloc _ _ _ (by have := h.size; omega)]; exact h.old b hb hb0
  · exact h.gl.same (by simp) fun x hx => Below.heap_alloc _ _ _ (hlt x hx)
  · intro j c' t' hj
    rcases AHeap.put_eq hj with ⟨rfl, he⟩ | ⟨hjk, hj⟩
    · cases he
      rw [hbk, AV.vals_on hon c hc]
      show (w.heap.push _)[w.heap.size]? = _
      simp
    · rw [hb j hjk, Below.heap_alloc _ _ _ (h.lt hj), AV.vals_on hon c' (fun r hr => h.refs j _ hj r hr)]; exact h.own j c' t' hj
  · intro j c' t' hj
    rcases AHeap.put_eq hj with ⟨rfl, he⟩ | ⟨hjk, hj⟩
    · rw [hbk]; exact .inl h.size
    · rw [hb j hjk]; exact h.ge j c' t' hj
  · intro j c' t' hj x hx
    rcases AHeap.put_eq hj with ⟨rfl, he⟩ | ⟨hjk, hj⟩
    · rw [hbk]; have := hlt x hx; omega
    · rw [hb j hjk]; exact h.glo j c' t' hj x hx
  · intro j c' t' j' c'' t'' hj hj' he
    rcases AHeap.put_eq hj with ⟨h1, _⟩ | ⟨hjk, h1⟩ <;> rcases AHeap.put_eq hj' with ⟨h2, _⟩ | ⟨hjk', h2⟩
    · omega
    · rw [h1, hbk, hb j' hjk'] at he; have := h.lt h2; omega
    · rw [h2, hbk, hb j hjk] at he; have := h.lt h1; omega
    · rw [hb j hjk, hb j' hjk'] at he; exact h.inj j c' t' j' c'' t'' h1 h2 he
  · intro j n l hj
    rcases AHeap.put_eq hj with ⟨rfl, he⟩ | ⟨hjk, hj⟩
    · cases he
    · exact (h.rd j n l hj).same (by simp) (fun b _ hb => Below.heap_alloc _ _ _ hb)
  · intro j n l j' c' t' hj hj'
    rcases AHeap.put_eq hj with ⟨_, he⟩ | ⟨hjk, h1⟩
    · cases he
    · rcases AHeap.put_eq hj' with ⟨h2, _⟩ | ⟨hjk', h2⟩
      · rw [h2, hbk]; intro hv; have := (h.rd j n l h1).lt hv; omega
      · rw [hb j' hjk']; exact h.apart j n l j' c' t' h1 h2
  · intro j o hj r hr
    rcases AHeap.put_eq hj with ⟨rfl, rfl⟩ | ⟨hjk, hj⟩
    · exact AHeap.put_dom _ _ _ (hc r hr)
    · exact AHeap.put_dom _ _ _ (h.refs j o hj r hr)
/-- a store into a block of the call's own -/
theorem Rep.store {G : Glob} {w0 : World} {B0 : Bas} {e : Env} {H : AHeap} {w : World} (h : Rep G w0 B0 e H w) {k : Nat} {c : List AV} {t : TypeId} (hk : H k = some (.own c t)) (c' : List AV) (hc : ∀ r ∈ AV.refss c', H r ≠ none)
    {w' : World} (hw : w' = w.setRow (e.blk k) (AV.vals e c').toArray) : Rep G w0 B0 e (H.put k (.own c' t)) w' := by
  have hlt := h.lt hk
  have hst : w' = { w with heap := w.heap.setIfInBounds (e.blk k) (.cells (AV.vals e c').toArray t (0, 0)) } := by
    rw [hw]
    unfold World.setRow
    congr 1
    have ho := h.own k c t hk
    apply Array.ext_getElem?
    intro i
    rw [Array.getElem?_modify]
    by_cases hi : e.blk k = i
    · subst hi
      rw [Array.getElem?_eq_getElem hlt] at ho
      simp [Option.some.inj ho, hlt]
    · simp [hi]
  clear hw
  subst hst
  have hoth : ∀ b, b ≠ e.blk k → (w.heap.setIfInBounds (e.blk k) (.cells (AV.vals e c').toArray t (0, 0)))[b]? = w.heap[b]? := fun b hb => Array.getElem?_setIfInBounds_ne (by omega)
  have hown : ∀ j c'' t'', (H.put k (.own c' t)) j = some (.own c'' t'') → ∃ c₁ t₁, H j = some (.own c₁ t₁) := fun j c'' t'' hj => by
    rcases AHeap.put_eq hj with ⟨rfl, _⟩ | ⟨_, hj⟩
    · exact ⟨_, _, hk⟩
    · exact ⟨_, _, hj⟩
  refine ⟨h.os, h.tape, h.output, ?_, ?_, ?_, ?_, ?_, ?_, ?_, ?_, ?_, ?_, fun j hj => ⟨AHeap.put_dom _ _ _ (h.env j hj).1, (h.env j hj).2⟩⟩
  · simpa using h.size
  · intro b hb hb0
    have : b ≠ e.blk k := by
      rcases h.ge k c t hk with hg | hg
      · omega
      · rintro rfl; exact hb0 hg
    rw [← h.old b hb hb0]; exact hoth b this
  · exact h.gl.same (by simp) fun x hx => hoth x.1 (h.glo k c t hk x hx)
  · intro j c'' t'' hj
    rcases AHeap.put_eq hj with ⟨rfl, he⟩ | ⟨hjk, hj⟩
    · cases he; simp [hlt]
    · rw [← h.own j c'' t'' hj]
      exact hoth _ (fun he => hjk (h.inj j _ _ k _ _ hj hk he))
  · intro j c'' t'' hj
    obtain ⟨c₁, t₁, hj⟩ := hown j c'' t'' hj
    exact h.ge j c₁ t₁ hj
  · intro j c'' t'' hj x hx
    obtain ⟨c₁, t₁, hj⟩ := hown j c'' t'' hj
    exact h.glo j c₁ t₁ hj x hx
  · intro j _ _ j' _ _ hj hj' he
    obtain ⟨c₁, t₁, hj⟩ := hown j _ _ hj
    obtain ⟨c₂, t₂, hj'⟩ := hown j' _ _ hj'
    exact h.inj j _ _ j' _ _ hj hj' he
  · intro j n l hj
    rcases AHeap.put_eq hj with ⟨rfl, he⟩ | ⟨hjk, hj⟩
    · cases he
    · refine (h.rd j n l hj).same (by simp) (fun b hv hb => hoth b ?_)
      rintro rfl; exact h.apart j n l k c t hj hk hv
  · intro j n l j' c'' t'' hj hj'
    rcases AHeap.put_eq hj with ⟨rfl, he⟩ | ⟨hjk, hj⟩
    · cases he
    · obtain ⟨c₁, t₁, hj'⟩ := hown j' _ _ hj'
      exact h.apart j n l j' c₁ t₁ hj hj'
  · intro j o hj r hr
    rcases AHeap.put_eq hj with ⟨rfl, rfl⟩ | ⟨hjk, hj⟩
    · exact AHeap.put_dom _ _ _ (hc r hr)
    · exact AHeap.put_dom _ _ _ (h.refs j o hj r hr)
/-- another call has come and gone -/
theorem Rep.below {G : Glob} {w0 : World} {B0 : Bas} {e : Env} {H : AHeap} {w w' : World} (h : Rep G w0 B0 e H w) (hb : Bel w w') : Rep G w0 B0 e H w' := by
  have hbl := Below.block hb
  have hsz := Below.size hb
  refine ⟨(Below.os hb).trans h.os, (Below.tape hb).trans h.tape, (Below.output hb).trans h.output, Nat.le_trans h.size hsz, ?_, h.gl.bel hb, ?_, h.ge, h.glo, h.inj, ?_, h.apart, h.refs, h.env⟩
  · intro b hb' hb0; rw [hbl b (Nat.lt_of_lt_of_le hb' h.size)]; exact h.old b hb' hb0
  · intro k c t hk; rw [hbl _ (h.lt hk)]; exact h.own k c t hk
  · intro k n l hk; exact (h.rd k n l hk).same hsz (fun b _ hlt => hbl b hlt)
/-- a slice that reads as plain cells, under a name -/
theorem Rep.handle {G : Glob} {w0 : World} {B0 : Bas} {e : Env} {H : AHeap} {w : World} (h : Rep G w0 B0 e H w) {k : Nat} (hk : H k = none) {v : Value} {n : Nat} {l : List Value} (hr : Reads w v n l)
    (ha : ∀ j c t, H j = some (.own c t) → vblock v ≠ some (e.blk j)) : Rep G w0 B0 (e.setHnd k v) (H.put k (.rd n l)) w := by
  have hon := Env.setHnd_on hk e v
  have hne : ∀ j o, H j = some o → j ≠ k := fun j o hj => by rintro rfl; rw [hk] at hj; cases hj
  have hown : ∀ j c t, (H.put k (.rd n l)) j = some (.own c t) → H j = some (.own c t) := fun j c t hj => by
    rcases AHeap.put_eq hj with ⟨rfl, he⟩ | ⟨_, hj⟩
    · cases he
    · exact hj
  refine ⟨h.os, h.tape, h.output, h.size, h.old, h.gl, ?_, ?_, ?_, ?_, ?_, ?_, ?_, fun j hj => ⟨AHeap.put_dom _ _ _ (h.env j hj).1, (h.env j hj).2.1, by
    have : j ≠ k := fun e => (h.env j hj).1 (by rw [e]; exact hk)
    simpa [Env.setHnd, this] using (h.env j hj).2.2⟩⟩
  · intro j c t hj
    rw [AV.vals_on hon c (fun r hr => h.refs j _ (hown j c t hj) r hr)]; exact h.own j c t (hown j c t hj)
  · intro j c t hj; exact h.ge j c t (hown j c t hj)
  · intro j c t hj; exact h.glo j c t (hown j c t hj)
  · intro j c t j' c' t' hj hj'; exact h.inj j c t j' c' t' (hown _ _ _ hj) (hown _ _ _ hj')
  · intro j m l' hj
    rcases AHeap.put_eq hj with ⟨rfl, he⟩ | ⟨hjk, hj⟩
    · cases he; simpa [Env.setHnd] using hr
    · simpa [Env.setHnd, hjk] using h.rd j m l' hj
  · intro j m l' j' c t hj hj'
    have h2 := hown _ _ _ hj'
    rcases AHeap.put_eq hj with ⟨h1, he⟩ | ⟨hjk, h1⟩
    · rw [h1]; simpa [Env.setHnd] using ha j' c t h2
    · simpa [Env.setHnd, hjk] using h.apart j m l' j' c t h1 h2
  · intro j o hj r hr
    rcases AHeap.put_eq hj with ⟨rfl, rfl⟩ | ⟨hjk, hj⟩
    · simp [AO.refs] at hr
    · exact AHeap.put_dom _ _ _ (h.refs j o hj r hr)
/-- fewer blocks -/
theorem Rep.less {G : Glob} {w0 : World} {B0 : Bas} {e : Env} {H H' : AHeap} {w : World} (h : Rep G w0 B0 e H w) (hs : ∀ k o, H' k = some o → H k = some o) (hr : ∀ k o, H' k = some o → ∀ r ∈ o.refs, H' r ≠ none) (hd : ∀ k ∈ B0.dom, H' k ≠ none) : Rep G w0 B0 e H' w :=
  ⟨h.os, h.tape, h.output, h.size, h.old, h.gl, fun k c t hk => h.own k c t (hs _ _ hk), fun k c t hk => h.ge k c t (hs _ _ hk), fun k c t hk => h.glo k c t (hs _ _ hk),
    fun k c t k' c' t' hk hk' => h.inj k c t k' c' t' (hs _ _ hk) (hs _ _ hk'), fun k n l hk => h.rd k n l (hs _ _ hk), fun k n l k' c t hk hk' => h.apart k n l k' c t (hs _ _ hk) (hs _ _ hk'), hr, fun k hk => ⟨hd k hk, (h.env k hk).2⟩⟩
/-- a block that a call has made and handed back -/
theorem Rep.adopt {G : Glob} {w0 : World} {B0 : Bas} {e : Env} {H : AHeap} {w w' : World} (h : Rep G w0 B0 e H w) (hw : Bel w w') {k : Nat} (hk : H k = none) {b : Nat} (hb : w.heap.size ≤ b) {c : List AV} {t : TypeId} (hc : ∀ r ∈ AV.refss c, H r ≠ none)
    (ho : w'.heap[b]? = some (.cells (AV.vals e c).toArray t (0, 0))) : Rep G w0 B0 (e.setBlk k b) (H.put k (.own c t)) w' := by
  have h' := h.below hw
  have hon := Env.setBlk_on hk e b
  have hbk : (e.setBlk k b).blk k = b := by simp [Env.setBlk]
  have hbl : ∀ j, j ≠ k → (e.setBlk k b).blk j = e.blk j := fun j hj => by simp [Env.setBlk, hj]
  refine ⟨h'.os, h'.tape, h'.output, h'.size, h'.old, h'.gl, ?_, ?_, ?_, ?_, ?_, ?_, ?_, fun j hj => ⟨AHeap.put_dom _ _ _ (h.env j hj).1, by rw [hbl j (fun e => (h.env j hj).1 (by rw [e]; exact hk))]; exact (h.env j hj).2.1, (h.env j hj).2.2⟩⟩
  · intro j c' t' hj
    rcases AHeap.put_eq hj with ⟨rfl, he⟩ | ⟨hjk, hj⟩
    · cases he; rw [hbk, AV.vals_on hon c hc]; exact ho
    · rw [hbl j hjk, AV.vals_on hon c' (fun r hr => h.refs j _ hj r hr)]; exact h'.own j c' t' hj
  · intro j c' t' hj
    rcases AHeap.put_eq hj with ⟨rfl, he⟩ | ⟨hjk, hj⟩
    · rw [hbk]; exact .inl (Nat.le_trans h.size hb)
    · rw [hbl j hjk]; exact h.ge j c' t' hj
  · intro j c' t' hj x hx
    rcases AHeap.put_eq hj with ⟨rfl, he⟩ | ⟨hjk, hj⟩
    · rw [hbk]; have := (h.gl x hx).1; omega
    · rw [hbl j hjk]; exact h.glo j c' t' hj x hx
  · intro j c' t' j' c'' t'' hj hj' he
    rcases AHeap.put_eq hj with ⟨h1, _⟩ | ⟨hjk, h1⟩ <;> rcases AHeap.put_eq hj' with ⟨h2, _⟩ | ⟨hjk', h2⟩
    · omega
    · rw [h1, hbk, hbl j' hjk'] at he; have := h.lt h2; omega
    · rw [h2, hbk, hbl j hjk] at he; have := h.lt h1; omega
    · rw [hbl j hjk, hbl j' hjk'] at he; exact h.inj j c' t' j' c'' t'' h1 h2 he
  · intro j n l hj
    rcases AHeap.put_eq hj with ⟨rfl, he⟩ | ⟨hjk, hj⟩
    · cases he
    · exact h'.rd j n l hj
  · intro j n l j' c' t' hj hj'
    rcases AHeap.put_eq hj with ⟨_, he⟩ | ⟨hjk, h1⟩
    · cases he
    · rcases AHeap.put_eq hj' with ⟨h2, _⟩ | ⟨hjk', h2⟩
      · rw [h2, hbk]; intro hv; have := (h.rd j n l h1).lt hv; omega
      · rw [hbl j' hjk']; exact h.apart j n l j' c' t' h1 h2
  · intro j o hj r hr
    rcases AHeap.put_eq hj with ⟨rfl, rfl⟩ | ⟨hjk, hj⟩
    · exact AHeap.put_dom _ _ _ (hc r hr)
    · exact AHeap.put_dom _ _ _ (h.refs j o hj r hr)
end Go.Proofs.YtikjbocagnolmaaDoor
