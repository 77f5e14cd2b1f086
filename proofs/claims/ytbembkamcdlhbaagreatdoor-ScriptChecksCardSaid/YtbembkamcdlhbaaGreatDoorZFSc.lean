set_option linter.unusedSimpArgs false
set_option linter.unusedVariables false
namespace Go.Proofs.YtbembkamcdlhbaaGreatDoor.FP
def Ya (m:Nat) (neg odd:Bool) (r:Nat):Bool:=match m with
 | 0=>Nat.beq r 3||(Nat.beq r 2&&odd)
 | 1=>Nat.ble 2 r
 | 2 => !neg
 | 3=>neg
 | _=>false
def BC (N D:Nat):Nat:=if N%D=0 then 0 else if 2*(N%D)<D then 1 else if 2*(N%D)=D then 2 else 3
def agT (n:Nat):Bool:=Nat.beq (n%2) 1
def upN (m:Nat) (neg:Bool) (N D:Nat):Bool := !(Nat.beq (BC N D) 0)&&Ya m neg (agT (N/D)) (BC N D)
def Yb (m:Nat) (neg:Bool) (N D:Nat):Nat:=N/D+(upN m neg N D).toNat
def RV (p N D:Nat):Nat:=Nat.log2 (N/D)-(p-1)
def Yc (p m:Nat) (neg:Bool) (N D:Nat):Nat:=RV p N D*2^(p-1)+Yb m neg N (D*2^RV p N D)
def Yd (p c:Nat):Nat:=c/2^(p-1)-1
def cq (p c:Nat):Nat:=c-Yd p c*2^(p-1)
def agV (p c:Nat):Nat:=cq p c*2^Yd p c
def NE (p emax:Nat):Nat:=(2*emax+1)*2^(p-1)
def agW (p emax m:Nat) (neg:Bool):Nat:=if Ya m neg true 3 then NE p emax else NE p emax-1
def agX (p m:Nat) (after neg:Bool) (N D:Nat):Bool:=if after then decide (Yb m neg (2*N) D<2^p) else decide (N<D*2^(p-1))
def agY (p emax m:Nat) (after neg:Bool) (N D:Nat):Nat×Nat :=
 if NE p emax≤Yc p m neg N D then(agW p emax m neg,20)
 else(Yc p m neg N D,if N%(D*2^RV p N D)=0 then 0 else if agX p m after neg N D then 24 else 16)
theorem Ye {N E:Nat} (hE:0<E):BC N E=(if 2*N/E%2=0 then 0 else 2)+(if 2*N%E=0 then 0 else 1)∧N/E=2*N/E/2:=by
 have e:=Nat.div_add_mod N E
 have l:=Nat.mod_lt N hE
 generalize N/E=q at *
 generalize hr:N%E=r at *
 subst e
 have h2:2*(E*q+r)=2*r+E*(2*q):=by rw[Nat.mul_add,← Nat.mul_assoc,Nat.mul_comm 2 E,Nat.mul_assoc];omega
 rw[h2,Nat.add_mul_div_left _ _ hE,Nat.add_mul_mod_self_left (2*r) E (2*q)]
 unfold BC
 rw[hr]
 rcases Nat.lt_or_ge (2*r) E with h|h
 ·rw[Nat.div_eq_of_lt h,Nat.mod_eq_of_lt h]
  refine⟨?_,by omega⟩
  rw[if_pos (show(0+2*q)%2=0 by omega)]
  by_cases h0:r=0
  ·subst h0;simp
  ·rw[if_neg h0,if_pos h,if_neg (by omega)]
 ·have h3:2*r/E=1:=by rw[Nat.div_eq_iff hE];omega
  have h4:2*r%E=2*r-E:=by rw[Nat.mod_eq_sub_mod h,Nat.mod_eq_of_lt (by omega)]
  rw[h3,h4]
  refine⟨?_,by omega⟩
  rw[if_neg (show r≠0 by omega),if_neg (by omega),if_neg (show ¬ (1+2*q)%2=0 by omega)]
  by_cases h5:2*r=E
  ·rw[if_pos h5,if_pos (by omega)]
  ·rw[if_neg h5,if_neg (by omega)]
theorem grain {N1 E1 N2 E2 G1 G2 k:Nat} (hG1:0<G1) (hG2:0<G2) (hk:0<k) (h1:E1=2*(k*G1)) (h2:E2=2*(k*G2)) (hq:N1/G1=N2/G2) (hz:N1%G1=0↔N2%G2=0) :
  BC N1 E1=BC N2 E2∧N1/E1=N2/E2∧(N1%E1=0↔N2%E2=0):=by
 have key:∀ {N G:Nat},0<G→2*N/(2*(k*G))=N/G/k∧(2*N%(2*(k*G))=0↔N%G=0∧N/G%k=0):=by
  intro N G hG
  rw[Nat.mul_div_mul_left _ _ (by decide),Nat.mul_mod_mul_left,Nat.mul_comm k G,← Nat.div_div_eq_div_mul]
  refine⟨rfl,?_⟩
  rw[Nat.mod_mul]
  constructor
  ·intro h
   have a:N%G+G*(N/G%k)=0:=by omega
   have b:G*(N/G%k)=0:=by omega
   rcases Nat.mul_eq_zero.1 b with c|c
   ·omega
   ·exact⟨by omega,c⟩
  ·rintro⟨a,b⟩;rw[a,b];simp
 have p1:0<E1:=by rw[h1];exact Nat.mul_pos (by decide) (Nat.mul_pos hk hG1)
 have p2:0<E2:=by rw[h2];exact Nat.mul_pos (by decide) (Nat.mul_pos hk hG2)
 obtain⟨r1,q1⟩:=Ye (N:=N1) p1
 obtain⟨r2,q2⟩:=Ye (N:=N2) p2
 obtain⟨a1,b1⟩:=key (N:=N1) hG1
 obtain⟨a2,b2⟩:=key (N:=N2) hG2
 subst h1;subst h2
 have e:2*N1/(2*(k*G1))=2*N2/(2*(k*G2)):=by rw[a1,a2,hq]
 have z:2*N1%(2*(k*G1))=0↔2*N2%(2*(k*G2))=0:=by rw[b1,b2,hz,hq]
 have rr:BC N1 (2*(k*G1))=BC N2 (2*(k*G2)):=by
  rw[r1,r2,e]
  by_cases hh:2*N1%(2*(k*G1))=0
  ·rw[if_pos hh,if_pos (z.1 hh)]
  ·rw[if_neg hh,if_neg (fun x=>hh (z.2 x))]
 refine⟨rr,by rw[q1,q2,e],?_⟩
 have rz:∀ N E:Nat,BC N E=0↔N%E=0:=by
  intro N E;unfold BC;split
  ·simp[*]
  ·rename_i h;simp only[h,iff_false];split<;>(try split)<;>omega
 rw[← rz,← rz,rr]
def fP (f:Nat):Nat:=match f with|0=>11|1=>24|2=>53|3=>113|_=>0
def fW (f:Nat):Nat:=match f with|0=>16|1=>32|2=>64|3=>128|_=>0
def fE (f:Nat):Nat:=match f with|0=>15|1=>127|2=>1023|3=>16383|_=>0
def inf (f:Nat):Nat:=NE (fP f) (fE f)
theorem f4 {f:Nat} (h:f<4):f=0∨f=1∨f=2∨f=3:=by omega
theorem Yf {f:Nat} (h:f<4):fW f≤128:=by rcases f4 h with rfl|rfl|rfl|rfl<;>decide
def mk (f:Nat) (neg:Bool) (c:Nat):Nat:=c+neg.toNat*2^(fW f-1)
def clsC (f c:Nat):Nat:=if c=0 then 0 else if c<2^(fP f-1) then 1 else if c<inf f then 2 else if c=inf f then 3 else if inf f+2^(fP f-2)≤c then 4 else 5
def fU (f:Nat):Nat:=fE f+fP f-2
abbrev val (f c:Nat):Nat:=agV (fP f) c
def convC (f t m:Nat) (after neg:Bool) (c:Nat):Nat×Nat:=agY (fP t) (fE t) m after neg (val f c*2^fU t) (2^fU f)
end Go.Proofs.YtbembkamcdlhbaaGreatDoor.FP
