/- The executor: code on symbolic states, computed. No function of the program. -/
import Derived.Test.YtikjbocagnolmaaDoorSx5
namespace Go.Proofs.YtikjbocagnolmaaDoor
set_option linter.unusedVariables false
set_option linter.unusedSimpArgs false
open Go.RowKit
/-! ### contracts by shape -/
inductive Sh where
  | sc (k : VK)
  | agg (l : List VK)
structure Ct where
  a : List Sh
  r : List Sh
structure SCx where
  P : Program
  G : Glob
  SE : SEq
  ct : FuncId → Option Ct
  Φ : Phi
def scX (k : VK) (x : SV) : Option X := match k, x with
  | .int k, .int k' a => match kEq k k', X.inK k a with | true, true => some a | _, _ => none
  | .bool, .bool a => some a
  | .bit, .int k' a => match kEq .u64 k', X.isBit a with | true, true => some a | _, _ => none
  | _, _ => none
def flatL : List VK → List SV → Option (List X)
  | [], [] => some []
  | k :: ks, x :: xs => match scX k x, flatL ks xs with | some a, some l => some (a :: l) | _, _ => none
  | _, _ => none
def flat1 (h : Sh) (x : SV) : Option (List X) := match h, x with
  | .sc k, x => match scX k x with | some a => some [a] | none => none
  | .agg l, .agg xs => flatL l xs
  | .agg l, .v (.agg cs) => flatL l (cs.toList.map ofV)
  | _, _ => none
def flats : List Sh → List SV → Option (List X)
  | [], [] => some []
  | h :: hs, x :: xs => match flat1 h x, flats hs xs with | some a, some l => some (a ++ l) | _, _ => none
  | _, _ => none
def unX (k : VK) (x : X) : SV := match k with | .int k => .int k x | .bool => .bool x | .bit => .int .u64 x
def unXs : List VK → List X → List SV
  | k :: ks, x :: xs => unX k x :: unXs ks xs
  | _, _ => []
def Sh.kinds : Sh → List VK
  | .sc k => [k]
  | .agg l => l
def un1 (h : Sh) (xs : List X) : SV := match h with
  | .sc k => match xs with | x :: _ => unX k x | [] => .v undef
  | .agg l => .agg (unXs l xs)
def uns : List Sh → List X → List SV
  | [], _ => []
  | h :: hs, xs => un1 h xs :: uns hs (xs.drop h.kinds.length)
def resS : List SV → SV
  | [x] => x
  | l => .tup l
def kindsOf (l : List Sh) : List VK := l.flatMap Sh.kinds
def varsAt : Nat → List VK → List X
  | _, [] => []
  | b, k :: ks => .var k b :: varsAt (Nat.succ b) ks
def normC (k : VK) (n : Int) : Int := match k with | .int k => wrapC k n | .bool => b2i (iNz n) | .bit => b2i (iNz n)
def litsAt {β : Sort _} : List VK → List Int → (List X → β) → β
  | k :: ks, n :: ns, K => forceInt (normC k n) fun n => litsAt ks ns fun l => K (.lit n :: l)
  | _, _, K => K []
def allLit : List X → Option (List Int)
  | [] => some []
  | .lit n :: l => match allLit l with | some r => some (n :: r) | none => none
  | _ :: _ => none
/-! ### what is reached -/
mutual
def SV.refs : SV → List Nat
  | .v _ => []
  | .int _ _ => []
  | .bool _ => []
  | .loc b _ => [b]
  | .sl b _ _ _ => [b]
  | .fn _ a c => SV.refss a ++ SV.refss c
  | .tup l => SV.refss l
  | .agg l => SV.refss l
def SV.refss : List SV → List Nat
  | [] => []
  | x :: l => SV.refs x ++ SV.refss l
end
def reachGo (H : SH) : Nat → List Nat → SH → Option SH
  | 0, _, _ => none
  | _ + 1, [], acc => some acc
  | f + 1, b :: todo, acc => match hget acc b with
    | some _ => reachGo H f todo acc
    | none => match hget H b with
      | none => none
      | some o => reachGo H f (SV.refss o.c ++ todo) ((b, o) :: acc)
def reach (H : SH) (l : List Nat) : Option SH := match l with | [] => some [] | l => reachGo H 2000 l []
def memN (n : Nat) : List Nat → Bool
  | [] => false
  | x :: l => match Nat.beq x n with | true => true | false => memN n l
def addN (n : Nat) (l : List Nat) : List Nat := match memN n l with | true => l | false => n :: l
mutual
def SV.ren (f : Nat → Nat) : SV → SV
  | .v x => .v x
  | .int k x => .int k x
  | .bool x => .bool x
  | .loc b o => .loc (f b) o
  | .sl b o l c => .sl (f b) o l c
  | .fn g a c => .fn g (SV.rens f a) (SV.rens f c)
  | .tup l => .tup (SV.rens f l)
  | .agg l => .agg (SV.rens f l)
def SV.rens (f : Nat → Nat) : List SV → List SV
  | [] => []
  | x :: l => SV.ren f x :: SV.rens f l
end
def renF (m : List (Nat × Nat)) (n : Nat) : Nat := match m with
  | [] => n
  | x :: l => match Nat.beq x.1 n with | true => x.2 | false => renF l n
/-! ### the executor -/
structure St where
  N : Nat
  T : SRegs
  H : SH
  nv : Nat
  dt : List Nat
  fc : Facts
abbrev Trc := List (Nat × List Nat × Bool)
def setD {β : Sort _} (T : SRegs) (d : Option Tmp) (x : SV) (K : SRegs → β) : β := match d with | none => K T | some d => rset T d x K
def guardS {β : Type} (ops : Array Oper) (T : SRegs) (o : Oper) (fc : Facts) (K : Bool → Facts → Tr' β) : Tr' β := match o.guard with
  | none => K true fc
  | some (j, want) => match (ops[j]?).bind (·.dst) with
    | none => K false fc
    | some d => match rget T d with
      | some (.bool x) => iteF fc x fun b fc => K (match b with | true => want | false => bNot want) fc
      | some (.v (.tuple _)) => K false fc
      | _ => .stuck "guard"
def calleeS : SV → Option (FuncId × List SV × List SV)
  | .v (.func (.func g) a c) => some (g, a.toList.map ofC, c.toList.map ofC)
  | .fn (.func g) a c => some (g, a, c)
  | _ => none
def callS (op : Op) (ρ : Operand → Option SV) : Option (Option (FuncId × List SV)) := match op with
  | .call { callee := .value f, args := xs, argTypes := _ } => match ρ f with
    | some fv => match calleeS fv, listS ρ xs.toList with
      | some (g, a, c), some bs => some (some (g, a ++ bs ++ c))
      | _, _ => some none
    | none => some none
  | _ => none
structure CR where
  r : SV
  tc : List Nat
  ef : List (Nat × SO)
  nv : Nat
  fc : Facts
abbrev CF := FuncId → List SV → SH → Nat → Nat → Facts → Tr' CR
def pickS (op : Op) (ρ : Operand → Option SV) : Option (X × Option SV × Option SV) := match op with
  | .pick c a b => match ρ c with
    | some (.bool q) => some (q, ρ a, ρ b)
    | _ => none
  | _ => none
def addDt : List (Nat × SO) → List Nat → List Nat
  | [], l => l
  | x :: ef, l => addDt ef (addN x.1 l)
def mutS (tc : List Nat) : List (Nat × SO) → Bool
  | [] => false
  | x :: ef => match memN x.1 tc with | true => true | false => mutS tc ef
def trAdd (i : Nat) (tc : List Nat) (ef : List (Nat × SO)) (tr : Trc) : Trc := match tc with | [] => tr | tc => (i, tc, mutS tc ef) :: tr
structure OR where
  T : SRegs
  H : SH
  tr : Trc
  nv : Nat
  dt : List Nat
  fc : Facts
def execOps (C : SCx) (cf : CF) (ops : Array Oper) (Nb : Nat) : Nat → List Oper → SRegs → SH → Trc → Nat → List Nat → Facts → Tr' OR
  | _, [], T, H, tr, nv, dt, fc => .leaf ⟨T, H, tr, nv, dt, fc⟩
  | i, o :: os, T, H, tr, nv, dt, fc => guardS ops T o fc fun want fc => match want with
    | false => setD T o.dst (.v undef) fun T => execOps C cf ops Nb (Nat.succ i) os T H tr nv dt fc
    | true => match callS o.op (rdS T) with
      | some none => .stuck "call: operands"
      | some (some (g, args)) => forceNat (Nb + 2 * i) fun k => (cf g args H k nv fc).bind fun r =>
          setD T o.dst r.r fun T => hputs H r.ef fun H => execOps C cf ops Nb (Nat.succ i) os T H (trAdd i r.tc r.ef tr) r.nv (addDt r.ef dt) r.fc
      | none => match pickS o.op (rdS T) with
        | some (q, x, y) => iteF fc q fun b fc => match (match b with | true => x | false => y) with
          | some r => setD T o.dst r fun T => execOps C cf ops Nb (Nat.succ i) os T H tr nv dt fc
          | none => .stuck "pick"
        | none => forceNat (Nb + 2 * i) fun k => (sevN C.P C.G C.SE fc o.op (rdS T) H k).bind fun r =>
          setD T o.dst r.1 fun T => hputs H r.2.2 fun H => execOps C cf ops Nb (Nat.succ i) os T H (trAdd i r.2.1 r.2.2 tr) nv (addDt r.2.2 dt) fc
def resSX (P : Program) (T : SRegs) (H : SH) : List ResultVar → Option (List SV)
  | [] => some []
  | .tmp t :: l => match rget T t, resSX P T H l with
    | some x, some r => some (x :: r)
    | _, _ => none
  | .cell a t :: l => match rget T a with
    | some (.loc b o) => match hget H b with
      | some ob => match ldS P t ob.c o, resSX P T H l with
        | some x, some r => some (x :: r)
        | _, _ => none
      | none => none
    | _ => none
def padR : List SV → Nat → SRegs
  | [], 0 => []
  | [], n + 1 => some (.v undef) :: padR [] n
  | _ :: _, 0 => []
  | x :: l, n + 1 => some x :: padR l n
/-- the blocks that are new; all others must be the caller's -/
def newOf (k : Nat) (objs : SH) : SH → Option (List Nat)
  | [] => some []
  | x :: l => match newOf k objs l with
    | none => none
    | some r => match Nat.ble k x.1 with
      | true => some (x.1 :: r)
      | false => match hget objs x.1 with | some _ => some r | none => none
def zipK (k : Nat) : List Nat → Option (List (Nat × Nat))
  | [] => some []
  | [n1] => some [(n1, k)]
  | [n1, n2] => match Nat.beq n1 n2 with | true => none | false => some [(n1, k), (n2, k + 1)]
  | _ => none
def dirtyOf (dt : List Nat) : SH → List Nat
  | [] => []
  | x :: l => match memN x.1 dt with | true => x.1 :: dirtyOf dt l | false => dirtyOf dt l
def keysLt (k : Nat) : SH → Bool
  | [] => true
  | x :: l => match Nat.blt x.1 k with | true => keysLt k l | false => false
def keysOf : SH → List Nat
  | [] => []
  | x :: l => x.1 :: keysOf l
def efOld (f : Nat → Nat) (H : SH) : List Nat → List (Nat × SO)
  | [] => []
  | b :: l => match hget H b with | some o => (b, ⟨SV.rens f o.c, o.t⟩) :: efOld f H l | none => efOld f H l
def efNew (f : Nat → Nat) (H : SH) : List Nat → List (Nat × SO)
  | [] => []
  | b :: l => match hget H b with | some o => (f b, ⟨SV.rens f o.c, o.t⟩) :: efNew f H l | none => efNew f H l
/-- behind an inlined call: what of it the caller sees -/
def afterCall (P : Program) (fn : Func) (objs : SH) (k : Nat) (s : St) : Tr' CR :=
  match resSX P s.T s.H fn.results.toList with
  | none => .stuck "results"
  | some rs => match reach s.H (SV.refss rs ++ dirtyOf s.dt objs) with
      | none => .stuck "reach behind a call"
      | some R2 => match newOf k objs R2 with
        | none => .stuck "a block of nobody"
        | some nw => match nw with
          | [] => .leaf ⟨resS rs, keysOf objs, efOld (fun n => n) s.H (dirtyOf s.dt objs), s.nv, s.fc⟩
          | nw => match zipK k nw with
            | none => .stuck "more than two new blocks"
            | some m => .leaf ⟨(resS rs).ren (renF m), keysOf objs, efOld (renF m) s.H (dirtyOf s.dt objs) ++ efNew (renF m) s.H nw, s.nv, s.fc⟩
/-! ### ways that meet again -/
mutual
def mergeV (c : X) : SV → SV → Option SV
  | .int k a, .int k' b => match kEq k k' with | true => some (.int k (mkIte c a b)) | false => none
  | .bool a, .bool b => some (.bool (mkIte c a b))
  | .agg l, .agg m => match mergeVs c l m with | some r => some (.agg r) | none => none
  | .tup l, .tup m => match mergeVs c l m with | some r => some (.tup r) | none => none
  | _, _ => none
def mergeVs (c : X) : List SV → List SV → Option (List SV)
  | [], [] => some []
  | x :: l, y :: m => match mergeV c x y, mergeVs c l m with | some r, some rs => some (r :: rs) | _, _ => none
  | _, _ => none
end
def eqL : List Nat → List Nat → Bool
  | [], [] => true
  | x :: l, y :: m => match Nat.beq x y with | true => eqL l m | false => false
  | _, _ => false
/-- a tree of results as one result, and where it is one -/
def mergeT (tc : List Nat) (nv : Nat) : Tr' CR → Option (X × Option SV)
  | .leaf r => match r.ef with
    | [] => match eqL r.tc tc, Nat.beq r.nv nv with | true, true => some (.lit (.ofNat 1), some r.r) | _, _ => none
    | _ :: _ => none
  | .ite c a b => match mergeT tc nv a, mergeT tc nv b with
    | some (x, none), some (y, r) => some (mkIte c x y, r)
    | some (x, r), some (y, none) => some (mkIte c x y, r)
    | some (x, some r), some (y, some q) => match mergeV c r q with | some z => some (mkIte c x y, some z) | none => none
    | _, _ => none
  | .stuck _ => some (.lit (.ofNat 0), none)
  | .call _ _ _ _ _ => none
def mergeC (tc : List Nat) (nv : Nat) (fc : Facts) (t : Tr' CR) : Tr' CR := match t with
  | .ite c a b => match mergeT tc nv (.ite c a b) with
    | some (x, some r) => iteT x (.leaf ⟨r, tc, [], nv, fc⟩) (.stuck "in a call")
    | _ => .ite c a b
  | t => t
def regionEnd (nt : Nat) (ops : Array Oper) (draw : Bool) (s : St) (r : OR) : Tr' (Exit × St) :=
  match draw with
  | true => match drawOK ops nt, traceOK ops s.N r.tr with
    | true, true => forceNat (s.N + 2 * ops.size) fun N => .leaf (.normal, ⟨N, r.T, r.H, r.nv, r.dt, r.fc⟩)
    | false, _ => .stuck "drawOK"
    | _, _ => .stuck "traceOK"
  | false => match dstsLt nt ops.toList with
    | true => forceNat (s.N + 2 * ops.size) fun N => .leaf (.normal, ⟨N, r.T, r.H, r.nv, r.dt, r.fc⟩)
    | false => .stuck "dstsLt"
/-- a call, walked in place -/
def inlC (P : Program) (ex : Code → St → Tr' (Exit × St)) (g : FuncId) (args : List SV) (H : SH) (k nv : Nat) (fc : Facts) : Tr' CR := match P.funcs[g]? with
  | none => .stuck "no such function"
  | some fn => match fn.body with
    | none => .stuck "no body"
    | some cd => match reach H (SV.refss args) with
      | none => .stuck "reach"
      | some objs => match Nat.ble args.length fn.ntmps, keysLt k objs with
        | true, true => mergeC (keysOf objs) nv fc ((ex cd ⟨k, padR args fn.ntmps, objs, nv, [], fc⟩).bind fun r => match r.1 with
          | .normal => afterCall P fn objs k r.2
          | .ret => afterCall P fn objs k r.2
          | _ => .stuck "a call's end")
        | _, _ => .stuck "a call's arguments"
/-- a call: by its contract, or in place -/
def callC (C : SCx) (ex : Code → St → Tr' (Exit × St)) (g : FuncId) (args : List SV) (H : SH) (k nv : Nat) (fc : Facts) : Tr' CR := match C.ct g with
  | none => inlC C.P ex g args H k nv fc
  | some ct => match flats ct.a args with
    | none => inlC C.P ex g args H k nv fc
    | some xs => match allLit xs with
      | some ns => litsAt (kindsOf ct.r) (C.Φ g ns) fun l => .leaf ⟨resS (uns ct.r l), [], [], nv, fc⟩
      | none => .call g xs nv (kindsOf ct.r).length (forceNat (nv + (kindsOf ct.r).length) fun nv' => .leaf ⟨resS (uns ct.r (varsAt nv (kindsOf ct.r))), [], [], nv', fc⟩)
def exec (C : SCx) : Nat → Code → St → Tr' (Exit × St)
  | 0, _, _ => .stuck "no fuel"
  | f + 1, c, s => match c with
    | .skip => .leaf (.normal, s)
    | .label _ => .leaf (.normal, s)
    | .exit id => .leaf (.exit id, s)
    | .ret => .leaf (.ret, s)
    | .seq a b => (exec C f a s).bind fun r => match r.1 with | .normal => exec C f b r.2 | _ => .leaf r
    | .cond c a b => match rdS s.T c with
      | some (.bool q) => iteF s.fc q fun bb fc => match bb with | true => exec C f a { s with fc := fc } | false => exec C f b { s with fc := fc }
      | _ => .stuck "cond"
    | .block id c => (exec C f c s).bind fun r => match r.1 with
      | .exit id' => match Nat.beq id' id with | true => .leaf (.normal, r.2) | false => .leaf r
      | _ => .leaf r
    | .loop c => (exec C f c s).bind fun r => match r.1 with | .normal => exec C f (.loop c) r.2 | _ => .leaf r
    | .scope c => (exec C f c s).bind fun r => match r.1 with | .goto _ => .stuck "goto" | _ => .leaf r
    | .region _ ops draw => (execOps C (callC C (exec C f)) ops s.N 0 ops.toList s.T s.H [] s.nv s.dt s.fc).bind fun r => regionEnd s.T.length ops draw s r
    | _ => .stuck "no such text"
/-- a function, executed -/
def execF (C : SCx) (fuel : Nat) (g : FuncId) (args : List SV) (nv : Nat) : Tr' SV :=
  match C.P.funcs[g]? with
  | none => .stuck "no such function"
  | some fn => match fn.body with
    | none => .stuck "no body"
    | some cd => match Nat.ble args.length fn.ntmps with
      | true => (exec C fuel cd ⟨0, padR args fn.ntmps, [], nv, [], []⟩).bind fun r => match r.1 with
        | .normal => match resSX C.P r.2.T r.2.H fn.results.toList with | some rs => .leaf (resS rs) | none => .stuck "results"
        | .ret => match resSX C.P r.2.T r.2.H fn.results.toList with | some rs => .leaf (resS rs) | none => .stuck "results"
        | _ => .stuck "end"
      | false => .stuck "arguments"
end Go.Proofs.YtikjbocagnolmaaDoor
