import Derived.Test.YtbembkamcdlhbaaGreatDoorZASc
import Derived.Test.YtbembkamcdlhbaaGreatDoorZBSc
import Derived.Test.YtbembkamcdlhbaaGreatDoorZGSc
set_option linter.unusedSimpArgs false
set_option linter.unusedVariables false
set_option maxRecDepth 100000
namespace Go.Proofs.YtbembkamcdlhbaaGreatDoor
open Go.RowKit
theorem Ef {g:FuncId} {args:List Value} {v:Value} (h:PC Tryz.prog gG g args v) {fn:Func} (hf:Tryz.prog.funcs[g]? = some fn) (hn:(fn.name == "runtime.NumGoroutine")=false) (hb:fn.body.isNone=false) (w:World) (hG:Gl gG w) :
  Calls Tryz.prog g args.toArray w fun e w'=>e = .returned v∧q9 w w':=by
 have:=h w hG
 unfold wW at this
 rw[Ew hf hn hb] at this
 exact this
open Go.RowKit
def yg (r x d:Nat):Nat×Bool:=if d≤2*r+x then(2*r+x-d,true) else(2*r+x,false)
theorem or_bit (n x:Nat) (hn:n%2=0) (hx:x<2):n|||x=n+x:=by
 rcases(show x=0∨x=1 by omega) with rfl|rfl
 ·simp
 ·have:=Nat.two_pow_add_eq_or_of_lt (i:=1) (b:=1) (by decide) (n/2)
  rw[show 2^1*(n/2)=n by rw[Nat.pow_one];omega] at this
  exact this.symm
theorem aa0 (r x d:Nat) (hd:d<rD) (hr:r<d) (hx:x<2):Fh [wd r 1,wd r 0,(x:Int),wd d 1,wd d 0]=oB (yg r x d).1 ++ [rZ (yg r x d).2]:=by
 refine Eq.trans ?_ (show(fun p:Nat×Bool=>oB p.1 ++ [rZ p.2]) (yg r x d)=_ from rfl)
 have hrW:r<rD:=Nat.lt_trans hr hd
 have w64:=Fu
 have ux:u64 (x:Int)=(x:Int):=NG x (by omega)
 have hor:rP .or .u64 (wd (r+r) 0) (x:Int)=wd (r+r+x) 0:=by
  rw[yD,yD,R4 _ _ (Nat.mod_lt _ vw) (by omega),Nat.pow_zero,Nat.div_one,Nat.div_one,or_bit _ _ (by rw[w64];omega) hx]
  congr 1
  rw[w64];omega
 have hhi:wd (r+r) 1=wd (r+r+x) 1:=by
  rw[yD,yD,Nat.pow_one]
  congr 2
  rw[w64];omega
 have hT:nB (wd (r+r) 1) (wd (r+r+x) 0)=(r+r+x)%rD:=by rw[hhi,NH]
 rw[Fh,RS]
 refine(wT (r:=[wd (r+r) 1,wd (r+r) 0,rZ (decide (rD≤r+r))]) ?_ rfl).trans ?_
 ·simp only[tX,afX];rw[ahp,zO hrW]
 refine(wT (r:=[wd ((r+r+x)%rD+rD-d) 1,wd ((r+r+x)%rD+rD-d) 0,rZ (decide ((r+r+x)%rD<d))]) ?_ rfl).trans ?_
 ·simp only[tX,afY,ux,hor];rw[ahq,hT,zO hd]
 rw[La]
 simp only[KY,Cw,Cy,KZ,K9,Cz,CB,NI,Jl,decide_eq_true_iff]
 have w128:=Yj
 have hd':d<340282366920938463463374607431768211456:=by rw[← w128];exact hd
 have key:∀ {a b:Nat},a%rD=b%rD→oB a=oB b:=fun {a b} h=>by
  rw[yC,yC,Bj a 1 (by decide) |>.symm,Bj a 0 (by decide) |>.symm,h,Bj b 1 (by decide),Bj b 0 (by decide)]
 unfold yg
 by_cases hle:d≤2*r+x
 ·rw[if_pos hle]
  have e:oB ((r+r+x)%rD+rD-d)=oB (2*r+x-d):=key (by rw[w128];omega)
  rw[yC,yC] at e
  by_cases hc:rD≤r+r
  ·rw[if_pos hc,wS rfl]
   simp only[tX]
   simp only[List.cons.injEq] at e
   rw[e.1,e.2.1];rfl
  ·rw[if_neg hc,La]
   simp only[KY,Cw,Cy,KZ,K9,Cz,CB,R5,NI,Jl,Bool.not_eq_true',decide_eq_false_iff_not]
   rw[if_pos (by rw[Nat.mod_eq_of_lt (by omega)];omega),wS rfl]
   simp only[tX]
   simp only[List.cons.injEq] at e
   rw[e.1,e.2.1];rfl
 ·rw[if_neg hle]
  rw[if_neg (show ¬ rD≤r+r by omega),La]
  simp only[KY,Cw,Cy,KZ,K9,Cz,CB,R5,NI,Jl,Bool.not_eq_true',decide_eq_false_iff_not]
  rw[if_neg (by rw[Nat.mod_eq_of_lt (by omega)];omega),wS rfl]
  simp only[tX,ux,hor]
  rw[hhi,show 2*r+x=r+r+x by omega];rfl
theorem ali (m r d:Nat) (w:World) (hG:Gl gG w) (hr:r<d) (hd:d<rD):CallsIn Fence.wide m Tryz.prog 300 #[vB r,.int .u64 0,vB d] w fun e w'=>e = .returned (.tuple #[vB (yg r 0 d).1,.bool (yg r 0 d).2])∧q9 w w':=callsIn_wide.2 (by
 have h:=Ef (NB [wd r 1,wd r 0,((0:Nat):Int),wd d 1,wd d 0] rfl).2 Tryz.func300 (by kernel_rfl) (by kernel_rfl) w hG
 simp only[] at h
 rw[aa0 r 0 d hd hr (by decide),yC] at h
 have ux:u64 ((0:Nat):Int)=0:=by decide
 simpa only[DU,rV,uk,sP,tQ,Sh.kinds,List.drop_succ_cons,List.drop_zero,List.length_cons,List.length_nil,yA,yX,ux,sW,uz,Cw,Cy] using h)
end Go.Proofs.YtbembkamcdlhbaaGreatDoor
