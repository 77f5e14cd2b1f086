import Derived.Test.YtbembkamcdlhbaaGreatDoorZASb
import Derived.Test.YtbembkamcdlhbaaGreatDoorZBSb
import Derived.Test.YtbembkamcdlhbaaGreatDoorZGSb
set_option linter.unusedSimpArgs false
set_option linter.unusedVariables false
set_option maxRecDepth 100000
namespace Go.Proofs.YtbembkamcdlhbaaGreatDoor
open Go.RowKit
theorem DR {g:FuncId} {args:List Value} {v:Value} (h:PC Tryz.prog gG g args v) {fn:Func} (hf:Tryz.prog.funcs[g]? = some fn) (hn:(fn.name == "runtime.NumGoroutine")=false) (hb:fn.body.isNone=false) (w:World) (hG:Gl gG w) :
  Calls Tryz.prog g args.toArray w fun e w'=>e = .returned v∧ry w w':=by
 have:=h w hG
 unfold wW at this
 rw[Eg hf hn hb] at this
 exact this
open Go.RowKit
def yc (r x d:Nat):Nat×Bool:=if d≤2*r+x then(2*r+x-d,true) else(2*r+x,false)
theorem or_bit (n x:Nat) (hn:n%2=0) (hx:x<2):n|||x=n+x:=by
 rcases(show x=0∨x=1 by omega) with rfl|rfl
 ·simp
 ·have:=Nat.two_pow_add_eq_or_of_lt (i:=1) (b:=1) (by decide) (n/2)
  rw[show 2^1*(n/2)=n by rw[Nat.pow_one];omega] at this
  exact this.symm
theorem aaR (r x d:Nat) (hd:d<rO) (hr:r<d) (hx:x<2):EQ [wd r 1,wd r 0,(x:Int),wd d 1,wd d 0]=oB (yc r x d).1 ++ [sF (yc r x d).2]:=by
 refine Eq.trans ?_ (show(fun p:Nat×Bool=>oB p.1 ++ [sF p.2]) (yc r x d)=_ from rfl)
 have hrW:r<rO:=Nat.lt_trans hr hd
 have w64:=EW
 have ux:u64 (x:Int)=(x:Int):=Nt x (by omega)
 have hor:rY .or .u64 (wd (r+r) 0) (x:Int)=wd (r+r+x) 0:=by
  rw[yx,yx,RL _ _ (Nat.mod_lt _ vC) (by omega),Nat.pow_zero,Nat.div_one,Nat.div_one,or_bit _ _ (by rw[w64];omega) hx]
  congr 1
  rw[w64];omega
 have hhi:wd (r+r) 1=wd (r+r+x) 1:=by
  rw[yx,yx,Nat.pow_one]
  congr 2
  rw[w64];omega
 have hT:nB (wd (r+r) 1) (wd (r+r+x) 0)=(r+r+x)%rO:=by rw[hhi,Nu]
 rw[EQ,RB]
 refine(wJ (r:=[wd (r+r) 1,wd (r+r) 0,sF (decide (rO≤r+r))]) ?_ rfl).trans ?_
 ·simp only[uf,afC];rw[ag4,zG hrW]
 refine(wJ (r:=[wd ((r+r+x)%rO+rO-d) 1,wd ((r+r+x)%rO+rO-d) 0,sF (decide ((r+r+x)%rO<d))]) ?_ rfl).trans ?_
 ·simp only[uf,afD,ux,hor];rw[ag5,hT,zG hd]
 rw[KJ]
 simp only[KG,Ci,Cj,KH,KI,Ck,Cm,Nv,IV,decide_eq_true_iff]
 have w128:=X5
 have hd':d<340282366920938463463374607431768211456:=by rw[← w128];exact hd
 have key:∀ {a b:Nat},a%rO=b%rO→oB a=oB b:=fun {a b} h=>by
  rw[yw,yw,Bb a 1 (by decide) |>.symm,Bb a 0 (by decide) |>.symm,h,Bb b 1 (by decide),Bb b 0 (by decide)]
 unfold yc
 by_cases hle:d≤2*r+x
 ·rw[if_pos hle]
  have e:oB ((r+r+x)%rO+rO-d)=oB (2*r+x-d):=key (by rw[w128];omega)
  rw[yw,yw] at e
  by_cases hc:rO≤r+r
  ·rw[if_pos hc,wI rfl]
   simp only[uf]
   simp only[List.cons.injEq] at e
   rw[e.1,e.2.1];rfl
  ·rw[if_neg hc,KJ]
   simp only[KG,Ci,Cj,KH,KI,Ck,Cm,RN,Nv,IV,Bool.not_eq_true',decide_eq_false_iff_not]
   rw[if_pos (by rw[Nat.mod_eq_of_lt (by omega)];omega),wI rfl]
   simp only[uf]
   simp only[List.cons.injEq] at e
   rw[e.1,e.2.1];rfl
 ·rw[if_neg hle]
  rw[if_neg (show ¬ rO≤r+r by omega),KJ]
  simp only[KG,Ci,Cj,KH,KI,Ck,Cm,RN,Nv,IV,Bool.not_eq_true',decide_eq_false_iff_not]
  rw[if_neg (by rw[Nat.mod_eq_of_lt (by omega)];omega),wI rfl]
  simp only[uf,ux,hor]
  rw[hhi,show 2*r+x=r+r+x by omega];rfl
theorem ak3 (m r d:Nat) (w:World) (hG:Gl gG w) (hr:r<d) (hd:d<rO):CallsIn Fence.wide m Tryz.prog 300 #[vB r,.int .u64 0,vB d] w fun e w'=>e = .returned (.tuple #[vB (yc r 0 d).1,.bool (yc r 0 d).2])∧ry w w':=callsIn_wide.2 (by
 have h:=DR (Nn [wd r 1,wd r 0,((0:Nat):Int),wd d 1,wd d 0] rfl).2 Tryz.func300 (by kernel_rfl) (by kernel_rfl) w hG
 simp only[] at h
 rw[aaR r 0 d hd hr (by decide),yw] at h
 have ux:u64 ((0:Nat):Int)=0:=by decide
 simpa only[Dx,su,ut,sW,tX,Sh.kinds,List.drop_succ_cons,List.drop_zero,List.length_cons,List.length_nil,yu,yQ,ux,tH,uF,Ci,Cj] using h)
end Go.Proofs.YtbembkamcdlhbaaGreatDoor
