import Derived.Test.YtbembkamcdlhbaaGreatDoorZASb
import Derived.Test.YtbembkamcdlhbaaGreatDoorZBSb
import Derived.Test.YtbembkamcdlhbaaGreatDoorZGSb
set_option linter.unusedSimpArgs false
set_option linter.unusedVariables false
set_option maxRecDepth 100000
namespace Go.Proofs.YtbembkamcdlhbaaGreatDoor
open Go.RowKit
theorem Dy {g:FuncId} {args:List Value} {v:Value} (h:PC Tryz.prog gG g args v) {fn:Func} (hf:Tryz.prog.funcs[g]? = some fn) (hn:(fn.name == "runtime.NumGoroutine")=false) (hb:fn.body.isNone=false) (w:World) (hG:Gl gG w) :
  Calls Tryz.prog g args.toArray w fun e w'=>e = .returned v∧q8 w w':=by
 have:=h w hG
 unfold wM at this
 rw[DV hf hn hb] at this
 exact this
open Go.RowKit
def xP (r x d:Nat):Nat×Bool:=if d≤2*r+x then(2*r+x-d,true) else(2*r+x,false)
theorem or_bit (n x:Nat) (hn:n%2=0) (hx:x<2):n|||x=n+x:=by
 rcases(show x=0∨x=1 by omega) with rfl|rfl
 ·simp
 ·have:=Nat.two_pow_add_eq_or_of_lt (i:=1) (b:=1) (by decide) (n/2)
  rw[show 2^1*(n/2)=n by rw[Nat.pow_one];omega] at this
  exact this.symm
theorem aar (r x d:Nat) (hd:d<rA) (hr:r<d) (hx:x<2):EF [wd r 1,wd r 0,(x:Int),wd d 1,wd d 0]=oB (xP r x d).1 ++ [rX (xP r x d).2]:=by
 refine Eq.trans ?_ (show(fun p:Nat×Bool=>oB p.1 ++ [rX p.2]) (xP r x d)=_ from rfl)
 have hrW:r<rA:=Nat.lt_trans hr hd
 have w64:=EK
 have ux:u64 (x:Int)=(x:Int):=M7 x (by omega)
 have hor:rM .or .u64 (wd (r+r) 0) (x:Int)=wd (r+r+x) 0:=by
  rw[yc,yc,Rp _ _ (Nat.mod_lt _ uU) (by omega),Nat.pow_zero,Nat.div_one,Nat.div_one,or_bit _ _ (by rw[w64];omega) hx]
  congr 1
  rw[w64];omega
 have hhi:wd (r+r) 1=wd (r+r+x) 1:=by
  rw[yc,yc,Nat.pow_one]
  congr 2
  rw[w64];omega
 have hT:nB (wd (r+r) 1) (wd (r+r+x) 0)=(r+r+x)%rA:=by rw[hhi,M8]
 rw[EF,Rj]
 refine(wy (r:=[wd (r+r) 1,wd (r+r) 0,rX (decide (rA≤r+r))]) ?_ rfl).trans ?_
 ·simp only[tL,afa];rw[agC,zu hrW]
 refine(wy (r:=[wd ((r+r+x)%rA+rA-d) 1,wd ((r+r+x)%rA+rA-d) 0,rX (decide ((r+r+x)%rA<d))]) ?_ rfl).trans ?_
 ·simp only[tL,afb,ux,hor];rw[agD,hT,zu hd]
 rw[Ku]
 simp only[Kq,BX,BZ,Kr,Kt,Ca,Cb,M9,IB,decide_eq_true_iff]
 have w128:=XL
 have hd':d<340282366920938463463374607431768211456:=by rw[← w128];exact hd
 have key:∀ {a b:Nat},a%rA=b%rA→oB a=oB b:=fun {a b} h=>by
  rw[xZ,xZ,AL a 1 (by decide) |>.symm,AL a 0 (by decide) |>.symm,h,AL b 1 (by decide),AL b 0 (by decide)]
 unfold xP
 by_cases hle:d≤2*r+x
 ·rw[if_pos hle]
  have e:oB ((r+r+x)%rA+rA-d)=oB (2*r+x-d):=key (by rw[w128];omega)
  rw[xZ,xZ] at e
  by_cases hc:rA≤r+r
  ·rw[if_pos hc,ww rfl]
   simp only[tL]
   simp only[List.cons.injEq] at e
   rw[e.1,e.2.1];rfl
  ·rw[if_neg hc,Ku]
   simp only[Kq,BX,BZ,Kr,Kt,Ca,Cb,Rq,M9,IB,Bool.not_eq_true',decide_eq_false_iff_not]
   rw[if_pos (by rw[Nat.mod_eq_of_lt (by omega)];omega),ww rfl]
   simp only[tL]
   simp only[List.cons.injEq] at e
   rw[e.1,e.2.1];rfl
 ·rw[if_neg hle]
  rw[if_neg (show ¬ rA≤r+r by omega),Ku]
  simp only[Kq,BX,BZ,Kr,Kt,Ca,Cb,Rq,M9,IB,Bool.not_eq_true',decide_eq_false_iff_not]
  rw[if_neg (by rw[Nat.mod_eq_of_lt (by omega)];omega),ww rfl]
  simp only[tL,ux,hor]
  rw[hhi,show 2*r+x=r+r+x by omega];rfl
theorem akB (m r d:Nat) (w:World) (hG:Gl gG w) (hr:r<d) (hd:d<rA):CallsIn Fence.wide m Tryz.prog 300 #[vB r,.int .u64 0,vB d] w fun e w'=>e = .returned (.tuple #[vB (xP r 0 d).1,.bool (xP r 0 d).2])∧q8 w w':=callsIn_wide.2 (by
 have h:=Dy (MZ [wd r 1,wd r 0,((0:Nat):Int),wd d 1,wd d 0] rfl).2 Tryz.func300 (by kernel_rfl) (by kernel_rfl) w hG
 simp only[] at h
 rw[aar r 0 d hd hr (by decide),xZ] at h
 have ux:u64 ((0:Nat):Int)=0:=by decide
 simpa only[Dm,rT,uf,sK,tH,Sh.kinds,List.drop_succ_cons,List.drop_zero,List.length_cons,List.length_nil,xY,yG,ux,sS,ut,BX,BZ] using h)
end Go.Proofs.YtbembkamcdlhbaaGreatDoor
