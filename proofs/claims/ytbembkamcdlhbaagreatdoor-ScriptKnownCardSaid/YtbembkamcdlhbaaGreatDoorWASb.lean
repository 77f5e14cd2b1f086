import Derived.Test.YtbembkamcdlhbaaGreatDoorZASb
import Derived.Test.YtbembkamcdlhbaaGreatDoorZBSb
import Derived.Test.YtbembkamcdlhbaaGreatDoorZGSb
set_option linter.unusedSimpArgs false
set_option linter.unusedVariables false
set_option maxRecDepth 100000
namespace Go.Proofs.YtbembkamcdlhbaaGreatDoor
open Go.RowKit
theorem DK {g:FuncId} {args:List Value} {v:Value} (h:PC Tryz.prog gG g args v) {fn:Func} (hf:Tryz.prog.funcs[g]? = some fn) (hn:(fn.name == "runtime.NumGoroutine")=false) (hb:fn.body.isNone=false) (w:World) (hG:Gl gG w) :
  Calls Tryz.prog g args.toArray w fun e w'=>e = .returned v∧rq w w':=by
 have:=h w hG
 unfold wU at this
 rw[Ec hf hn hb] at this
 exact this
open Go.RowKit
def xV (r x d:Nat):Nat×Bool:=if d≤2*r+x then(2*r+x-d,true) else(2*r+x,false)
theorem or_bit (n x:Nat) (hn:n%2=0) (hx:x<2):n|||x=n+x:=by
 rcases(show x=0∨x=1 by omega) with rfl|rfl
 ·simp
 ·have:=Nat.two_pow_add_eq_or_of_lt (i:=1) (b:=1) (by decide) (n/2)
  rw[show 2^1*(n/2)=n by rw[Nat.pow_one];omega] at this
  exact this.symm
theorem aay (r x d:Nat) (hd:d<rE) (hr:r<d) (hx:x<2):EM [wd r 1,wd r 0,(x:Int),wd d 1,wd d 0]=oB (xV r x d).1 ++ [r9 (xV r x d).2]:=by
 refine Eq.trans ?_ (show(fun p:Nat×Bool=>oB p.1 ++ [r9 p.2]) (xV r x d)=_ from rfl)
 have hrW:r<rE:=Nat.lt_trans hr hd
 have w64:=ER
 have ux:u64 (x:Int)=(x:Int):=M9 x (by omega)
 have hor:rQ .or .u64 (wd (r+r) 0) (x:Int)=wd (r+r+x) 0:=by
  rw[yl,yl,Rt _ _ (Nat.mod_lt _ vg) (by omega),Nat.pow_zero,Nat.div_one,Nat.div_one,or_bit _ _ (by rw[w64];omega) hx]
  congr 1
  rw[w64];omega
 have hhi:wd (r+r) 1=wd (r+r+x) 1:=by
  rw[yl,yl,Nat.pow_one]
  congr 2
  rw[w64];omega
 have hT:nB (wd (r+r) 1) (wd (r+r+x) 0)=(r+r+x)%rE:=by rw[hhi,Na]
 rw[EM,Rm]
 refine(wF (r:=[wd (r+r) 1,wd (r+r) 0,r9 (decide (rE≤r+r))]) ?_ rfl).trans ?_
 ·simp only[tT,afl];rw[agN,zB hrW]
 refine(wF (r:=[wd ((r+r+x)%rE+rE-d) 1,wd ((r+r+x)%rE+rE-d) 0,r9 (decide ((r+r+x)%rE<d))]) ?_ rfl).trans ?_
 ·simp only[tT,afm,ux,hor];rw[agO,hT,zB hd]
 rw[KC]
 simp only[Ky,Cg,Ch,Kz,KA,Ci,Cj,Nc,IK,decide_eq_true_iff]
 have w128:=XP
 have hd':d<340282366920938463463374607431768211456:=by rw[← w128];exact hd
 have key:∀ {a b:Nat},a%rE=b%rE→oB a=oB b:=fun {a b} h=>by
  rw[yj,yj,AZ a 1 (by decide) |>.symm,AZ a 0 (by decide) |>.symm,h,AZ b 1 (by decide),AZ b 0 (by decide)]
 unfold xV
 by_cases hle:d≤2*r+x
 ·rw[if_pos hle]
  have e:oB ((r+r+x)%rE+rE-d)=oB (2*r+x-d):=key (by rw[w128];omega)
  rw[yj,yj] at e
  by_cases hc:rE≤r+r
  ·rw[if_pos hc,wE rfl]
   simp only[tT]
   simp only[List.cons.injEq] at e
   rw[e.1,e.2.1];rfl
  ·rw[if_neg hc,KC]
   simp only[Ky,Cg,Ch,Kz,KA,Ci,Cj,Ru,Nc,IK,Bool.not_eq_true',decide_eq_false_iff_not]
   rw[if_pos (by rw[Nat.mod_eq_of_lt (by omega)];omega),wE rfl]
   simp only[tT]
   simp only[List.cons.injEq] at e
   rw[e.1,e.2.1];rfl
 ·rw[if_neg hle]
  rw[if_neg (show ¬ rE≤r+r by omega),KC]
  simp only[Ky,Cg,Ch,Kz,KA,Ci,Cj,Ru,Nc,IK,Bool.not_eq_true',decide_eq_false_iff_not]
  rw[if_neg (by rw[Nat.mod_eq_of_lt (by omega)];omega),wE rfl]
  simp only[tT,ux,hor]
  rw[hhi,show 2*r+x=r+r+x by omega];rfl
theorem alg (m r d:Nat) (w:World) (hG:Gl gG w) (hr:r<d) (hd:d<rE):CallsIn Fence.wide m Tryz.prog 300 #[vB r,.int .u64 0,vB d] w fun e w'=>e = .returned (.tuple #[vB (xV r 0 d).1,.bool (xV r 0 d).2])∧rq w w':=callsIn_wide.2 (by
 have h:=DK (M4 [wd r 1,wd r 0,((0:Nat):Int),wd d 1,wd d 0] rfl).2 Tryz.func300 (by kernel_rfl) (by kernel_rfl) w hG
 simp only[] at h
 rw[aay r 0 d hd hr (by decide),yj] at h
 have ux:u64 ((0:Nat):Int)=0:=by decide
 simpa only[Dv,rX,ul,sP,tN,Sh.kinds,List.drop_succ_cons,List.drop_zero,List.length_cons,List.length_nil,yh,yL,ux,tq,uB,Cg,Ch] using h)
end Go.Proofs.YtbembkamcdlhbaaGreatDoor
