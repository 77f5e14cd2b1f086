import Derived.Test.YtemomocmfggiaaaGreatDoorZDU5
namespace Go.Proofs.YtemomocmfggiaaaGreatDoor
set_option linter.unusedVariables false
set_option linter.unusedSimpArgs false
open Go.RowKit
structure MEnt where
 g : FuncId
 es : List (Value × Value)
def MapOK (P : Program) (G : Glob) (m : MEnt) : Prop :=
 ∀ w, Gl G w → CallsX P m.g #[] w fun en w' => ∃ b, en = .returned (.map (some b)) ∧ w.heap.size ≤ b ∧ w'.heap[b]? = some (mapObj m.es) ∧ Bel w w'
structure AllC where
 g : FuncId
 id : Nat
 m : Nat
 t : TypeId
 ki : List VK
 ko : List VK
def cellsN (ks : List VK) (m : Nat) : List VK := (List.replicate m ks).flatten
def AllOK (P : Program) (G : Glob) (a : AllC) (F : List Int → List Int) : Prop :=
 ∀ l, l.length = (cellsN a.ki a.m).length → ∀ f r, F l = f :: r → r.length = (cellsN a.ko a.m).length → ∀ w v, Gl G w → Reads w v a.m (valXs (cellsN a.ki a.m) l) →
  CallsX P a.g #[v] w fun en w' => ∃ u, en = .returned (.tuple #[u, .int .u8 (IntKind.u8.wrap f)]) ∧ Reads w' u a.m (valXs (cellsN a.ko a.m) r) ∧ Bel w w' ∧ ∀ b, vblock u = some b → w.heap.size ≤ b
structure MX where
 ms : List MEnt
 al : List AllC
def plainK : List VK → Bool
 | [] => true
 | .int _ :: l => plainK l
 | .bool :: l => plainK l
 | _ :: _ => false
structure MXOK (C : SCx) (X : MX) : Prop where
 ms : ∀ m ∈ X.ms, MapOK C.P C.G m
 al : ∀ a ∈ X.al, AllOK C.P C.G a (C.Φ a.id)
def findM : List MEnt → FuncId → Option MEnt
 | [], _ => none
 | x :: l, g => match Nat.beq x.g g with | true => some x | false => findM l g
theorem findM_ok {L : List MEnt} {g : FuncId} {e : MEnt} (h : findM L g = some e) : e ∈ L ∧ e.g = g := by
 induction L with
 | nil => cases h
 | cons x l ih =>
  simp only [findM] at h
  split at h
  ·rename_i hb; cases h; exact ⟨List.mem_cons_self, beq_iff.1 hb⟩
  ·obtain ⟨h1, h2⟩ := ih h; exact ⟨List.mem_cons_of_mem _ h1, h2⟩
def findA : List AllC → FuncId → Nat → TypeId → Option AllC
 | [], _, _, _ => none
 | x :: l, g, m, t => match Nat.beq x.g g, Nat.beq x.m m, Nat.beq x.t t with | true, true, true => some x | _, _, _ => findA l g m t
theorem findA_ok {L : List AllC} {g : FuncId} {m : Nat} {t : TypeId} {e : AllC} (h : findA L g m t = some e) : e ∈ L ∧ e.g = g ∧ e.m = m ∧ e.t = t := by
 induction L with
 | nil => cases h
 | cons x l ih =>
  simp only [findA] at h
  split at h
  ·rename_i h1 h2 h3; cases h; exact ⟨List.mem_cons_self, beq_iff.1 h1, beq_iff.1 h2, beq_iff.1 h3⟩
  ·obtain ⟨h1, h2⟩ := ih h; exact ⟨List.mem_cons_of_mem _ h1, h2⟩
def pairE (x : Value × Value) : Value := .tuple #[x.1, x.2]
def mapS (es : List (Value × Value)) : SO := ⟨[.v (.tuple (es.map pairE).toArray)], none⟩
theorem mapS_den (s : Sig) (es : List (Value × Value)) : (mapS es).den s = .mp es := by
 refine SO.den_map s rfl ?_
 simp only [mapS, mapC, mapV, List.map_map]
 congr 1
 have : pairV ∘ pairE = id := by funext x; rfl
 simp [this]
def oraO (n : X) (b : Nat) (ks : List VK) : SO := ⟨.v (.bool false) :: .int .i64 n :: .v (.int .i64 (.ofNat b)) :: ks.map (fun k => unX0 k (.lit 0)), none⟩
theorem kinds_unX0 : ∀ {ks : List VK}, plainK ks = true → (ks.map (fun k => unX0 k (.lit 0))).map kindSV = ks
 | [], _ => rfl
 | .int k :: l, h => by rw [List.map_cons, List.map_cons, kinds_unX0 (ks := l) h]; rfl
 | .bool :: l, h => by rw [List.map_cons, List.map_cons, kinds_unX0 (ks := l) h]; rfl
 | .bit :: l, h => by cases h
 | .nat :: l, h => by cases h
theorem oraO_den (s : Sig) (n : X) (b : Nat) {ks : List VK} (hk : plainK ks = true) : (oraO n b ks).den s = .rd (n.den s).toNat (oraCells s b ks (n.den s).toNat) := by
 have h : oraC (oraO n b ks).c = some ⟨n, b, ks⟩ := by
  simp only [oraO, oraC, oraF, oraN, oraB, kinds_unX0 hk]
 exact SO.den_ora s (r := ⟨n, b, ks⟩) rfl rfl h
theorem valXs_app : ∀ (a b : List VK) (p q : List Int), p.length = a.length → valXs (a ++ b) (p ++ q) = valXs a p ++ valXs b q
 | [], b, p, q, h => by
  have : p = [] := List.length_eq_zero_iff.1 (by simpa using h)
  subst this; rfl
 | k :: a, b, [], q, h => by simp at h
 | k :: a, b, n :: p, q, h => by rw [List.cons_append, List.cons_append, valXs, valXs, valXs_app a b p q (by simpa using h), List.cons_append]
theorem cellsN_succ (ks : List VK) (m : Nat) : cellsN ks (m + 1) = cellsN ks m ++ ks := by
 unfold cellsN; rw [List.replicate_succ', List.flatten_append]; simp
theorem cellsN_len (ks : List VK) : ∀ m, (cellsN ks m).length = m * ks.length
 | 0 => by simp [cellsN]
 | m + 1 => by rw [cellsN_succ, List.length_append, cellsN_len ks m, Nat.add_mul, Nat.one_mul]
theorem oraCells_eq (s : Sig) (b : Nat) (ks : List VK) : ∀ m, oraCells s b ks m = valXs (cellsN ks m) (sigL s b (m * ks.length))
 | 0 => by simp [oraCells, cellsN, valXs]
 | m + 1 => by
  rw [oraCells, oraCells_eq s b ks m, cellsN_succ, Nat.add_mul, Nat.one_mul, sigL_split, valXs_app _ _ _ _ (by rw [sigL_len, cellsN_len])]
def callA (C : SCx) (X : MX) (g : FuncId) (args : List SV) (H : SH) (k nv : Nat) (fc : Facts) (K : Unit → Tr' CR) : Tr' CR := match args with
 | [.sl b 0 n m] => match hget H b with
  | some o => match o.t with
   | some t => match findA X.al g n t with
    | some a => match flatL (cellsN a.ki a.m) o.c, plainK a.ko with
     | some xs, true => forceNat (Nat.succ nv) fun nv1 => forceNat (a.m * a.ko.length) fun q => .call a.id xs nv (Nat.succ q) (forceNat (nv1 + q) fun nv' => .leaf ⟨.tup [.hd k, .int .u8 (.var (.int .u8) nv)], [b], [(k, oraO (.lit (.ofNat a.m)) nv1 a.ko)], nv', fc⟩)
     | _, _ => .stuck "a slice's cells"
    | none => K ()
   | none => K ()
  | none => K ()
 | _ => K ()
def callM (C : SCx) (X : MX) (ex : Code → St → Tr' (Exit × St)) (g : FuncId) (args : List SV) (H : SH) (k nv : Nat) (fc : Facts) : Tr' CR := match findM X.ms g with
 | some m => match args with
  | [] => .leaf ⟨.hd k, [], [(k, mapS m.es)], nv, fc⟩
  | _ => .stuck "a map's arguments"
 | none => callA C X g args H k nv fc fun _ => callC C ex g args H k nv fc
section
variable {C : SCx} {E : EqT} {s : Sig} {ms : MX}
theorem callA_ok (hX : MXOK C ms) {g : FuncId} {args : List SV} {H : SH} {k nv : Nat} {fc : Facts} {K : Unit → Tr' CR} {r : CR} (h : (callA C ms g args H k nv fc K).path C.Φ s = some r) (hfc : FOK s fc) (hK : (K ()).path C.Φ s = some r → CSpec C s g args H k r) : CSpec C s g args H k r := by
 unfold callA at h
 split at h
 ·rename_i b n m
  split at h
  ·rename_i o ho
   split at h
   ·rename_i t ht
    split at h
    ·rename_i a ha
     obtain ⟨a1, a2, a3, a4⟩ := findA_ok ha
     split at h
     ·rename_i xs hxs hpk
      rw [forceNat_eq, forceNat_eq] at h
      simp only [Tr'.path] at h
      split at h
      ·rename_i hce
       rw [forceNat_eq] at h
       cases h
       obtain ⟨f1, f2⟩ := flatL_ok s hxs
       have hB : SH.den s H b = some (.own ((valXs (cellsN a.ki a.m) (xs.map (X.den s))).map .v) t) := by rw [SH.den_get ho ht, f1]
       refine ⟨fun j hj => ?_, fun x hx => ?_, hfc, fun w0 B0 => ?_⟩
       ·simp at hj; subst hj; rw [hB]; simp
       ·simp [efD] at hx; subst hx; exact .inl rfl
       ·intro H' e w hag hk _ _ R
        have hb' : H' b = some (.own ((valXs (cellsN a.ki a.m) (xs.map (X.den s))).map .v) t) := by rw [hag b (by simp)]; exact hB
        have hown := R.own b _ t hb'
        rw [vals_v] at hown
        have hrd : Reads w (.slice (some ⟨e.blk b, 0, none⟩) n m) a.m (valXs (cellsN a.ki a.m) (xs.map (X.den s))) := .inr ⟨e.blk b, 0, m, by rw [a3], R.lt hb', fun j x hj => by simp [World.cell?, hown, hj]⟩
        unfold callEq at hce
        rw [sigL] at hce
        have hcall := hX.al a a1 (xs.map (X.den s)) (by rw [List.length_map]; exact f2) _ _ hce.symm (by rw [sigL_len, cellsN_len]) w _ R.gl hrd
        rw [a2] at hcall
        have hv : AV.vals e (SV.dens s [.sl b 0 n m]) = [Value.slice (some ⟨e.blk b, 0, none⟩) n m] := rfl
        rw [hv]
        refine hcall.mono ?_
        rintro en w' ⟨u, rfl, hru, hbel, hfr⟩
        have R2 := R.below hbel
        have hef : efD s [(k, oraO (.lit (.ofNat a.m)) (nv + 1) a.ko)] = [(k, .rd a.m (oraCells s (nv + 1) a.ko a.m))] := by
         simp only [efD, List.map_cons, List.map_nil, oraO_den s _ _ hpk, X.den]; rfl
        rw [show Nat.succ nv = nv + 1 from rfl, hef]
        have hsl : sliceOf u = u := by
         rcases hru with ⟨h1, _⟩ | ⟨b', o', cap, h1, _⟩ <;> rw [h1] <;> rfl
        refine ⟨e.setHnd k u, ?_, ?_, Env.setHnd_on hk e _, fun j hj => ?_⟩
        ·have h2 : ((SV.tup [.hd k, .int .u8 (.var (.int .u8) nv)]).den s).val (e.setHnd k u) = .tuple #[u, .int .u8 (IntKind.u8.wrap (s nv))] := by
          simp only [SV.den, SV.dens]
          show (mkTup [.hd k, .v _]).val _ = _
          simp [mkTup, allV, AV.val, AV.vals, Env.setHnd, hsl, X.den, VK.norm]
         rw [h2]
        ·rw [AHeap.puts, AHeap.puts]
         refine R2.handle hk (by rw [oraCells_eq]; exact hru) (fun j c t' hj he => ?_) (fun b2 hb2 => .inl (Nat.le_trans R.size (hfr b2 hb2)))
         have h3 := R.lt hj
         have := hfr _ he
         omega
        ·have : j = k := by
          have h4 := SV.den_refs s (.tup [.hd k, .int .u8 (.var (.int .u8) nv)]) hj
          simpa [SV.refs, SV.refss] using h4
         subst this; rw [AHeap.puts, AHeap.puts, AHeap.put_same]; simp
      ·cases h
     ·cases h
    ·exact hK h
   ·exact hK h
  ·exact hK h
 ·exact hK h
theorem callM_ok (hC : SOK C E) (hms : MXOK C ms) {exf : Code → St → Tr' (Exit × St)} (hex : EOK C E s exf) {g : FuncId} {args : List SV} {H : SH} {k nv : Nat} {fc : Facts} {r : CR} (h : (callM C ms exf g args H k nv fc).path C.Φ s = some r) (hfc : FOK s fc) : CSpec C s g args H k r := by
 unfold callM at h
 split at h
 ·rename_i m hm
  obtain ⟨h1, h2⟩ := findM_ok hm
  split at h
  ·cases h
   refine ⟨fun b hb => by simp at hb, fun x hx => by simp [efD] at hx; subst hx; exact .inl rfl, hfc, fun w0 B0 => ?_⟩
   intro H' e w _ hk _ _ R
   subst h2
   refine (hms.ms m h1 w R.gl).mono ?_
   rintro en w' ⟨b, rfl, hb, ho, hbel⟩
   have hef : efD s [(k, mapS m.es)] = [(k, .mp m.es)] := by simp only [efD, List.map_cons, List.map_nil, mapS_den]
   refine ⟨e.setHnd k (.map (some b)), by simp [SV.den, AV.val, Env.setHnd, sliceOf], ?_, Env.setHnd_on hk e _, fun j hj => ?_⟩
   ·rw [hef]; exact R.adoptM hbel hk hb ho
   ·simp [SV.den, AV.refs] at hj; subst hj; rw [hef, AHeap.puts, AHeap.puts, AHeap.put_same]; simp
  ·cases h
 ·exact callA_ok hms h hfc fun h => callC_ok hC hex h hfc
end
def execM (C : SCx) (ms : MX) : Nat → Code → St → Tr' (Exit × St)
 | 0, _, _ => .stuck "no fuel"
 | f + 1, c, s => match c with
  | .skip => .leaf (.normal, s)
  | .label _ => .leaf (.normal, s)
  | .exit id => .leaf (.exit id, s)
  | .ret => .leaf (.ret, s)
  | .seq a b => (execM C ms f a s).bind fun r => match r.1 with | .normal => execM C ms f b r.2 | _ => .leaf r
  | .cond c a b => match rdS s.T c with
   | some (.bool q) => iteF s.fc q fun bb fc => match bb with | true => execM C ms f a { s with fc := fc } | false => execM C ms f b { s with fc := fc }
   | _ => .stuck "cond"
  | .block id c => (execM C ms f c s).bind fun r => match r.1 with
   | .exit id' => match Nat.beq id' id with | true => .leaf (.normal, r.2) | false => .leaf r
   | _ => .leaf r
  | .loop c => (execM C ms f c s).bind fun r => match r.1 with | .normal => execM C ms f (.loop c) r.2 | _ => .leaf r
  | .scope c => (execM C ms f c s).bind fun r => match r.1 with | .goto _ => .stuck "goto" | _ => .leaf r
  | .region _ ops draw => (execOps C (callM C ms (execM C ms f)) ops s.N 0 ops.toList s.T s.H [] s.nv s.dt s.fc).bind fun r => regionEnd s.T.length ops draw s r
  | _ => .stuck "no such text"
def execMF (C : SCx) (ms : MX) (fuel : Nat) (g : FuncId) (args : List SV) (nv : Nat) : Tr' SV :=
 match C.P.funcs[g]? with
 | none => .stuck "no such function"
 | some fn => match fn.body with
  | none => .stuck "no body"
  | some cd => match Nat.ble args.length fn.ntmps with
   | true => (execM C ms fuel cd ⟨0, padR args fn.ntmps, [], nv, [], []⟩).bind fun r => match r.1 with
    | .normal => match resSX C.P r.2.T r.2.H fn.results.toList with | some rs => .leaf (resS rs) | none => .stuck "results"
    | .ret => match resSX C.P r.2.T r.2.H fn.results.toList with | some rs => .leaf (resS rs) | none => .stuck "results"
    | _ => .stuck "end"
   | false => .stuck "arguments"
section
variable {C : SCx} {E : EqT} {s : Sig} {ms : MX}
theorem execM_ok (hC : SOK C E) (hms : MXOK C ms) : ∀ n : Nat, EOK C E s (execM C ms n) ∧
  ∀ c st ex st', (execM C ms n (.loop c) st).path C.Φ s = some (ex, st') → FOK s st.fc → ∀ w0 B0, roundsA ⟨C.P, C.G, E, w0, B0, st.T.length⟩ c (ExA s ex st') n st.N (SRegs.den s st.T) (SH.den s st.H)
 | 0 => ⟨fun c st ex st' h => (by cases h), fun c st ex st' h => (by cases h)⟩
 | n + 1 => by
  obtain ⟨ih, ihl⟩ := execM_ok hC hms n
  have loop : ∀ c st ex st', (execM C ms (n + 1) (.loop c) st).path C.Φ s = some (ex, st') → FOK s st.fc → ESpec C E s (.loop c) st ex st' ∧ ∀ w0 B0, roundsA ⟨C.P, C.G, E, w0, B0, st.T.length⟩ c (ExA s ex st') (n + 1) st.N (SRegs.den s st.T) (SH.den s st.H) := by
   intro c st ex st' h hf
   simp only [execM] at h
   obtain ⟨ex1, st1, h1, h2⟩ := bind_exit h
   have s1 := ih _ _ _ _ h1 hf
   rcases normal_path h2 with ⟨rfl, h3⟩ | ⟨hx, h3⟩
   ·have s2 := ih _ _ _ _ h3 s1.fc
    have hr : ∀ w0 B0, roundsA ⟨C.P, C.G, E, w0, B0, st.T.length⟩ c (ExA s ex st') (n + 1) st.N (SRegs.den s st.T) (SH.den s st.H) := fun w0 B0 => by
     rw [roundsA_succ]
     refine (s1.aw w0 B0).mono ?_
     rintro x N T H ⟨rfl, rfl, rfl, rfl⟩
     have := ihl _ _ _ _ h3 s1.fc w0 B0
     rw [s1.len] at this
     exact this
    exact ⟨s1.trans s2 fun w0 B0 => aw_rounds _ (hr w0 B0), hr⟩
   ·obtain ⟨rfl, rfl⟩ : ex1 = ex ∧ st1 = st' := by cases h3; exact ⟨rfl, rfl⟩
    have hr : ∀ w0 B0, roundsA ⟨C.P, C.G, E, w0, B0, st.T.length⟩ c (ExA s ex1 st1) (n + 1) st.N (SRegs.den s st.T) (SH.den s st.H) := fun w0 B0 => by
     rw [roundsA_succ]
     refine (s1.aw w0 B0).mono ?_
     rintro x N T H ⟨rfl, rfl, rfl, rfl⟩
     exact thenA_not hx ⟨rfl, rfl, rfl, rfl⟩
    exact ⟨⟨fun w0 B0 => aw_rounds _ (hr w0 B0), s1.len, s1.dt, s1.fc⟩, hr⟩
  refine ⟨?_, fun c st ex st' h hf => (loop c st ex st' h hf).2⟩
  intro c st ex st' h hf
  cases c with
  | skip => simp only [execM] at h; cases h; exact ⟨fun w0 B0 => aw_skip ⟨rfl, rfl, rfl, rfl⟩, rfl, fun j hj => ⟨hj, rfl⟩, hf⟩
  | label l => simp only [execM] at h; cases h; exact ⟨fun w0 B0 => aw_label ⟨rfl, rfl, rfl, rfl⟩, rfl, fun j hj => ⟨hj, rfl⟩, hf⟩
  | exit id => simp only [execM] at h; cases h; exact ⟨fun w0 B0 => aw_exit ⟨rfl, rfl, rfl, rfl⟩, rfl, fun j hj => ⟨hj, rfl⟩, hf⟩
  | ret => simp only [execM] at h; cases h; exact ⟨fun w0 B0 => aw_ret ⟨rfl, rfl, rfl, rfl⟩, rfl, fun j hj => ⟨hj, rfl⟩, hf⟩
  | seq a b =>
   simp only [execM] at h
   obtain ⟨ex1, st1, h1, h2⟩ := bind_exit h
   have s1 := ih _ _ _ _ h1 hf
   rcases normal_path h2 with ⟨rfl, h3⟩ | ⟨hx, h3⟩
   ·have s2 := ih _ _ _ _ h3 s1.fc
    refine s1.trans s2 fun w0 B0 => aw_seq ((s1.aw w0 B0).mono ?_)
    rintro x N T H ⟨rfl, rfl, rfl, rfl⟩
    have := s2.aw w0 B0
    rw [s1.len] at this
    exact this
   ·cases h3
    refine ⟨fun w0 B0 => aw_seq ((s1.aw w0 B0).mono ?_), s1.len, s1.dt, s1.fc⟩
    rintro x N T H ⟨rfl, rfl, rfl, rfl⟩
    exact thenA_not hx ⟨rfl, rfl, rfl, rfl⟩
  | cond c a b =>
   simp only [execM] at h
   split at h
   ·rename_i q hq
    have hd := rdS_den s st.T _ _ hq
    obtain ⟨fc', hf', h⟩ := iteF_path hf h
    simp only [SV.den] at hd
    cases hb : (q.den s != 0) with
    | true =>
     rw [hb] at h hd
     have s1 := ih _ _ _ _ h hf'
     exact ⟨fun w0 B0 => aw_true hd (s1.aw w0 B0), s1.len, s1.dt, s1.fc⟩
    | false =>
     rw [hb] at h hd
     have s1 := ih _ _ _ _ h hf'
     exact ⟨fun w0 B0 => aw_false hd (s1.aw w0 B0), s1.len, s1.dt, s1.fc⟩
   ·cases h
  | block id c =>
   simp only [execM] at h
   obtain ⟨ex1, st1, h1, h2⟩ := bind_exit h
   have s1 := ih _ _ _ _ h1 hf
   have key : ex = blkExit id ex1 ∧ st' = st1 := by
    cases ex1 with
    | exit id' =>
     simp only at h2
     simp only [blkExit]
     split at h2
     ·rename_i hb; cases h2; rw [if_pos (beq_iff.1 hb)]; exact ⟨rfl, rfl⟩
     ·rename_i hb; cases h2
      rw [if_neg (fun e => by rw [e] at hb; simp at hb)]; exact ⟨rfl, rfl⟩
    | _ => cases h2; exact ⟨rfl, rfl⟩
   obtain ⟨rfl, rfl⟩ := key
   refine ⟨fun w0 B0 => aw_block ((s1.aw w0 B0).mono ?_), s1.len, s1.dt, s1.fc⟩
   rintro x N T H ⟨rfl, rfl, rfl, rfl⟩
   cases x with
   | exit id' =>
    simp only [blockA, blkExit]
    split
    ·exact ⟨rfl, rfl, rfl, rfl⟩
    ·exact ⟨rfl, rfl, rfl, rfl⟩
   | _ => exact ⟨rfl, rfl, rfl, rfl⟩
  | loop c => exact (loop c st ex st' h hf).1
  | scope c =>
   simp only [execM] at h
   obtain ⟨ex1, st1, h1, h2⟩ := bind_exit h
   have s1 := ih _ _ _ _ h1 hf
   have key : (∀ l, ex1 ≠ .goto l) ∧ ex = ex1 ∧ st' = st1 := by
    cases ex1 <;> first | (cases h2; exact ⟨fun l e => (by cases e), rfl, rfl⟩) | cases h2
   obtain ⟨hg, rfl, rfl⟩ := key
   exact ⟨fun w0 B0 => aw_scope (s1.aw w0 B0) (fun l N T H e => hg l e.1.symm), s1.len, s1.dt, s1.fc⟩
  | region id ops draw =>
   simp only [execM] at h
   obtain ⟨out, h1, h2⟩ := Tr'.path_bind_some h
   have dst : ∀ o ∈ ops.toList, ∀ t, o.dst = some t → t < st.T.length := by
    unfold regionEnd at h2
    split at h2
    ·split at h2
     ·rename_i hdr _
      simp only [drawOK, Bool.and_eq_true] at hdr
      exact dstsLt_get hdr.1.2
     ·cases h2
     ·cases h2
    ·split at h2
     ·rename_i hdr; exact dstsLt_get hdr
     ·cases h2
   obtain ⟨e1, e2, e3, e4⟩ := execOps_ok hC (nt := st.T.length) (fun g args H k nv fc r hr hf => callM_ok hC hms ih hr hf) ops.toList 0 st.T st.H [] st.nv st.dt st.fc out h1 hf rfl dst
   unfold regionEnd at h2
   cases draw with
   | true =>
    simp only at h2
    split at h2
    ·rename_i hdr htr
     rw [forceNat_eq] at h2
     cases h2
     refine ⟨fun w0 B0 => aw_draw hC.eq hC.mix hdr (e1 w0 B0 [] _ rfl ?_), e2, e4, e3⟩
     intro trf htf
     refine ⟨?_, rfl, rfl, rfl, rfl⟩
     rw [← htf] at htr
     exact traceRows_trF htr
    ·cases h2
    ·cases h2
   | false =>
    simp only at h2
    split at h2
    ·rename_i hdr
     rw [forceNat_eq] at h2
     cases h2
     exact ⟨fun w0 B0 => aw_text hC.eq hdr (e1 w0 B0 [] _ rfl fun trf htf => ⟨rfl, rfl, rfl, rfl⟩), e2, e4, e3⟩
    ·cases h2
  | rangeFunc f ps a b => simp only [execM] at h; cases h
  | goto l => simp only [execM] at h; cases h
  | refuse w => simp only [execM] at h; cases h
end
theorem execMF_pc {C : SCx} {E : EqT} {s : Sig} {ms : MX} (hC : SOK C E) (hms : MXOK C ms) {n : Nat} {g : FuncId} {args : List SV} {nv : Nat} {a : SV} {vs : List Value} {v : Value} (h : (execMF C ms n g args nv).path C.Φ s = some a) (ha : SV.dens s args = vs.map .v) (hv : a.den s = .v v) :
  PC C.P C.G g vs v := by
 unfold execMF at h
 split at h
 ·cases h
 ·rename_i fn hf
  split at h
  ·cases h
  ·rename_i cd hb
   split at h
   ·rename_i hl
    obtain ⟨⟨ex, st⟩, h1, h2⟩ := Tr'.path_bind_some h
    have sp := (execM_ok (E := E) (s := s) hC hms n).1 _ _ _ _ h1 (fun x hx => by cases hx)
    have hlen : (padR args fn.ntmps).length = fn.ntmps := padR_len _ _ (Nat.le_of_ble_eq_true hl)
    have hvl : vs.length = args.length := by have := congrArg List.length ha; rw [dens_len, List.length_map] at this; exact this.symm
    refine pc_of_aw E hf hb (hC.nm g fn hf (by rw [hb]; rfl)) (by rw [hvl]; exact hl) fun w => ?_
    have hA := sp.aw w Bas.nil
    simp only [hlen, padR_den, ha] at hA
    have key : ∀ rs, resSX C.P st.T st.H fn.results.toList = some rs → resS rs = a → ∃ rs', resA C.P C.G (SRegs.den s st.T) (SH.den s st.H) fn.results.toList = some rs' ∧ resV rs' = .v v := fun rs hrs e =>
     ⟨_, resSX_ok s hrs, by rw [resV_dens, e, hv]⟩
    have hx : (ex = .normal ∨ ex = .ret) ∧ ∃ rs, resSX C.P st.T st.H fn.results.toList = some rs ∧ resS rs = a := by
     rcases ret_path h2 with ⟨rfl, h3⟩ | ⟨rfl, h3⟩
     ·split at h3
      ·rename_i rs hrs; cases h3; exact ⟨.inl rfl, rs, hrs, rfl⟩
      ·cases h3
     ·split at h3
      ·rename_i rs hrs; cases h3; exact ⟨.inr rfl, rs, hrs, rfl⟩
      ·cases h3
    obtain ⟨hx, rs, hrs, e⟩ := hx
    refine AW.mono (show AW _ cd (ExA s ex st) 0 _ _ from hA) ?_
    rintro x N T H ⟨rfl, rfl, rfl, rfl⟩
    rcases hx with rfl | rfl
    ·exact key rs hrs e
    ·exact key rs hrs e
   ·cases h
theorem entM_of {C : SCx} {E : EqT} {ms : MX} (hC : SOK C E) (hms : MXOK C ms) (n : Nat) {g : FuncId} {ct : Ct} {t : Tr' SV} (hp : Nat.blt 0 (kindsOf ct.r).length = true) (h : execMF C ms n g (uns ct.a (varsAt 0 (kindsOf ct.a))) (kindsOf ct.a).length = t) (hs : scopedT (kindsOf ct.a).length t = true) :
  EntC C.P C.G ⟨g, ct, treeF C.Φ ct t⟩ := ⟨fun l hl hF => by
 obtain ⟨a, l', xs, h1, h2⟩ := treeF_okF hp hF
 obtain ⟨h3, m, rfl⟩ := evalL_path h1 (by rw [hl]; exact hs)
 rw [← h] at h3
 obtain ⟨h4, h5⟩ := varsAt_den (getI (l ++ m)) (kindsOf ct.a) 0
 rw [← hl, sigL_zero] at h4
 have hf := flats_ok (getI (l ++ m)) h2
 have e : treeF C.Φ ct t l = xs.map (X.den (getI (l ++ m))) := by unfold treeF; simp only [h1, h2, evs_eq, id]
 refine execMF_pc hC hms h3 (uns_ok h4 h5) ?_
 simp only [e]
 exact unres_den hf.1 (valsS_len _ _)⟩
end Go.Proofs.YtemomocmfggiaaaGreatDoor
