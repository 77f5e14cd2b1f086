import Derived.Test.YtemomocmfggiaaaGreatDoorW7bU6
import Derived.Test.YtemomocmfggiaaaGreatDoorZGU6
set_option linter.unusedSimpArgs false
set_option linter.unusedVariables false
set_option maxRecDepth 100000
namespace Go.Proofs.YtemomocmfggiaaaGreatDoor
open Go.RowKit
def BV (r x d:Nat):Nat×Bool:=if d≤2*r+x then(2*r+x-d,true) else(2*r+x,false)
theorem or_bit (n x:Nat) (hn:n%2=0) (hx:x<2):n|||x=n+x:=by
 rcases(show x=0∨x=1 by omega) with rfl|rfl
 ·simp
 ·have:=Nat.two_pow_add_eq_or_of_lt (i:=1) (b:=1) (by decide) (n/2)
  rw[show 2^1*(n/2)=n by rw[Nat.pow_one];omega] at this
  exact this.symm
theorem agZ (r x d:Nat) (hd:d<vF) (hr:r<d) (hx:x<2):La [wd r 1,wd r 0,(x:Int),wd d 1,wd d 0]=oB (BV r x d).1 ++ [vw (BV r x d).2]:=by
 refine Eq.trans ?_ (show(fun p:Nat×Bool=>oB p.1 ++ [vw p.2]) (BV r x d)=_ from rfl)
 have hrW:r<vF:=Nat.lt_trans hr hd
 have w64:=Eb
 have ux:u64 (x:Int)=(x:Int):=Gy x (by omega)
 have hor:vX .or .u64 (wd (r+r) 0) (x:Int)=wd (r+r+x) 0:=by
  rw[y9,y9,Q9 _ _ (Nat.mod_lt _ yE) (by omega),Nat.pow_zero,Nat.div_one,Nat.div_one,or_bit _ _ (by rw[w64];omega) hx]
  congr 1
  rw[w64];omega
 have hhi:wd (r+r) 1=wd (r+r+x) 1:=by
  rw[y9,y9,Nat.pow_one]
  congr 2
  rw[w64];omega
 have hT:nB (wd (r+r) 1) (wd (r+r+x) 0)=(r+r+x)%vF:=by rw[hhi,OJ]
 rw[La,YX]
 refine(ve (r:=[wd (r+r) 1,wd (r+r) 0,vw (decide (vF≤r+r))]) ?_ rfl).trans ?_
 ·simp only[uY,amJ];rw[aeu,xn hrW]
 refine(ve (r:=[wd ((r+r+x)%vF+vF-d) 1,wd ((r+r+x)%vF+vF-d) 0,vw (decide ((r+r+x)%vF<d))]) ?_ rfl).trans ?_
 ·simp only[uY,amK,ux,hor];rw[aev,hT,xn hd]
 rw[wG]
 simp only[xe,wB,wC,xg,xh,wV,wW,yI,vJ,decide_eq_true_iff]
 have w128:=OI
 have hd':d<340282366920938463463374607431768211456:=by rw[← w128];exact hd
 have key:∀ {a b:Nat},a%vF=b%vF→oB a=oB b:=fun {a b} h=>by
  rw[vR,vR,F6 a 1 (by decide) |>.symm,F6 a 0 (by decide) |>.symm,h,F6 b 1 (by decide),F6 b 0 (by decide)]
 unfold BV
 by_cases hle:d≤2*r+x
 ·rw[if_pos hle]
  have e:oB ((r+r+x)%vF+vF-d)=oB (2*r+x-d):=key (by rw[w128];omega)
  rw[vR,vR] at e
  by_cases hc:vF≤r+r
  ·rw[if_pos hc,vg rfl]
   simp only[uY]
   simp only[List.cons.injEq] at e
   rw[e.1,e.2.1];rfl
  ·rw[if_neg hc,wG]
   simp only[xe,wB,wC,xg,xh,wV,wW,BR,yI,vJ,Bool.not_eq_true',decide_eq_false_iff_not]
   rw[if_pos (by rw[Nat.mod_eq_of_lt (by omega)];omega),vg rfl]
   simp only[uY]
   simp only[List.cons.injEq] at e
   rw[e.1,e.2.1];rfl
 ·rw[if_neg hle]
  rw[if_neg (show ¬ vF≤r+r by omega),wG]
  simp only[xe,wB,wC,xg,xh,wV,wW,BR,yI,vJ,Bool.not_eq_true',decide_eq_false_iff_not]
  rw[if_neg (by rw[Nat.mod_eq_of_lt (by omega)];omega),vg rfl]
  simp only[uY,ux,hor]
  rw[hhi,show 2*r+x=r+r+x by omega];rfl
theorem atf (m r d:Nat) (w:World) (hG:Gl gG w) (hr:r<d) (hd:d<vF):CallsIn Fence.wide m Tryz.prog 217 #[vB r,.int .u64 0,vB d] w fun e w'=>e = .returned (.tuple #[vB (BV r 0 d).1,.bool (BV r 0 d).2])∧vI w w':=callsIn_wide.2 (by
 have h:=Kb (TZ [wd r 1,wd r 0,((0:Nat):Int),wd d 1,wd d 0] rfl).2 Tryz.func217 (by kernel_rfl) (by kernel_rfl) w hG
 simp only[] at h
 rw[agZ r 0 d hd hr (by decide),vR] at h
 have ux:u64 ((0:Nat):Int)=0:=by decide
 simpa only[JB,wJ,yx,wQ,xW,Sh.kinds,List.drop_succ_cons,List.drop_zero,List.length_cons,List.length_nil,AU,BQ,ux,xG,yN,wB,wC] using h)
end Go.Proofs.YtemomocmfggiaaaGreatDoor
