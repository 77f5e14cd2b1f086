import Derived.Test.YtippohicjhilnaaGreatDoorZ1Tr
import Derived.Test.YtippohicjhilnaaGreatDoorZ4Tr
import Derived.Test.YtippohicjhilnaaGreatDoorZGTr
import Derived.Test.YtippohicjhilnaaGreatDoorZHTr
import Derived.Test.YtippohicjhilnaaGreatDoorZITr
import Derived.Test.YtippohicjhilnaaGreatDoorZJTr
set_option linter.defProp false
set_option linter.unusedSimpArgs false
set_option linter.unusedVariables false
set_option maxRecDepth 100000
namespace Go.Proofs.YtippohicjhilnaaGreatDoor
open Go.RowKit
theorem JF {Φ:wH} {a:SV} {l:List Int} {xs:List X} (h:Nv a=xs):xx Φ (.leaf a) l=xs.map (X.ev l):=by unfold xx;simp only[yx,h,RA,id]
theorem agQ {Φ:wH} {c:X} {a b:tL SV} {l:List Int} : xx Φ (.ite c a b) l=if uk (c.ev l)=true then xx Φ a l else xx Φ b l:=by unfold xx;simp only[yx];cases uk (c.ev l)<;>rfl
theorem wZ {Φ:wH} {f:Nat} {args:List X} {base n:Nat} {t:tL SV} {l:List Int} {r:List Int} (h:Φ f (args.map (X.ev l))=r) (hn:r.length=n):xx Φ (.call f args base n t) l=xx Φ t (l++r):=by unfold xx;simp only[yx,RA,h];rw[show Nat.beq r.length n=true by rw[hn];exact Nat.beq_refl n]
theorem aq5 (l:List Int) (i:Nat):X.ev l (.var .nat i)=(((ul l i).toNat:Nat):Int):=rfl
theorem aq6 (l:List Int) (a:X):X.ev l (.dlen a)=((uH (X.ev l a).toNat:Nat):Int):=by rw[X.ev_den,X.den,X.ev_den];rfl
theorem aq7 (l:List Int) (i:Nat):X.ev l (.var (.int .u32) i)=IntKind.u32.wrap (ul l i):=by rw[X.ev];exact wP _ _
theorem aq8 (l:List SV):Nv (.agg l)=l.map xX:=by rw[Nv]
theorem aq9 (k:IntKind) (x:X):xX (.int k x)=x:=by rw[xX]
def uZ:=And.intro @aq8 (And.intro @aq9 (And.intro @wM (And.intro @vK (And.intro @vL (And.intro @wN (And.intro @wO (And.intro @vU (And.intro @vV (And.intro @uV (And.intro @yI (And.intro @Al (And.intro @NE (And.intro @NF (And.intro @Ak (And.intro @NG (And.intro @CJ (And.intro @KW (And.intro @Am (And.intro @afn (And.intro @Fg (And.intro @afl (And.intro @afm (And.intro @HV (And.intro @Hz (And.intro @KX (And.intro @afo (And.intro @Dp (And.intro @RB (And.intro @UT (And.intro @RF (And.intro @ZT (And.intro @Dq (And.intro @uE (And.intro @xL (And.intro @Fb (And.intro @ZN (And.intro @zT (And.intro @AC (And.intro @vJ (And.intro @CG (And.intro @aq5 (And.intro @aq7 (And.intro @aq6 (@yU))))))))))))))))))))))))))))))))))))))))))))
theorem tnT {Φ:wH} {c:X} {a b:tL SV} {l r:List Int} (h:uk (c.ev l)=true) (k:xx Φ a l=r):xx Φ (.ite c a b) l=r:=by rw[agQ,if_pos h];exact k
theorem tnF {Φ:wH} {c:X} {a b:tL SV} {l r:List Int} (h:uk (c.ev l)=false) (k:xx Φ b l=r):xx Φ (.ite c a b) l=r:=by rw[agQ,if_neg (by rw[h];exact Bool.false_ne_true)];exact k
theorem arb {n j k:Nat} (h:n<2^j) (hk:j<=k):n<2^k:=Nat.lt_of_lt_of_le h (Nat.pow_le_pow_right (by decide) hk)
theorem agS {n j k:Nat} (h:n<2^j):n*2^k<2^(j+k):=by rw[Nat.pow_add];exact Nat.mul_lt_mul_of_pos_right h (Nat.pow_pos (by decide))
theorem agT {n m j:Nat} (h:n<2^j):n/m<2^j:=Nat.lt_of_le_of_lt (Nat.div_le_self _ _) h
theorem agU {n m j:Nat} (h:n<2^j):n%m<2^j:=Nat.lt_of_le_of_lt (Nat.mod_le _ _) h
theorem arc {x:Int} {n:Nat} (hx:u64 x=(n:Int)):NR [x] = [(n:Int)]:=by unfold NR gU;rw[vU,xL,hx];rfl
theorem ard (h l:Int):NS [h,l] = [((nB h l:Nat):Int)]:=by unfold NS gU nB;rw[vU,vV,vU,xL,xL];rfl
theorem Lh (a:Nat) (l:List Int):gN ((a:Int)::l) 0=a:=by unfold gN;rw[vU];omega
theorem aaD (x:Int) (a:Nat) (l:List Int):gN (x::(a:Int)::l) 1=a:=by unfold gN;rw[vV,vU];omega
theorem Vw (x y:Int) (l:List Int):gW (x::y::l) 1=i64 y:=by unfold gW;rw[vV,vU,Fb]
theorem arf {a b j k:Nat} (ha:a<2^j) (hb:b<2^k) (hj:j<=1073741824) (hk:k<=1073741824):NT [(a:Int),(b:Int)] = [zC a b]:=by unfold NT;rw[Lh,aaD,Le ha hj,Le hb hk];rfl
theorem arh {a b j k:Nat} (ha:a<2^j) (hb:b<2^k) (hj:j<=1073741824) (hk:k<=1073741824):NU [(a:Int),(b:Int)] = [((a+b:Nat):Int)]:=by unfold NU;rw[Lh,aaD,Le ha hj,Le hb hk];rfl
theorem ari {a b j:Nat} (ha:a<2^j) (hb:b<=a) (hj:j<=1073741824):NV [(a:Int),(b:Int)] = [((a-b:Nat):Int)]:=by unfold NV;rw[Lh,aaD,Le ha hj,decide_eq_true hb];rfl
theorem aaE {a j k:Nat} {n:Int} (ha:a<2^j) (hj:j<=1073741824) (hn:n=(k:Int)) (hk:k<=1073741824):Lg a n=true:=by subst hn;unfold Lg;rw[Le ha hj,decide_eq_true (by omega),decide_eq_true (by omega)];rfl
theorem Vx {a j k:Nat} {n:Int} (ha:a<2^j) (hj:j<=1073741824) (hn:i64 n=(k:Int)) (hk:k<=1073741824):Jz [(a:Int),n] = [((a*2^k:Nat):Int)]:=by unfold Jz;rw[Lh,Vw,if_pos (aaE ha hj hn hk),hn,Int.toNat_natCast]
theorem agV {a j k:Nat} {n:Int} (ha:a<2^j) (hj:j<=1073741824) (hn:i64 n=(k:Int)) (hk:k<=1073741824):JA [(a:Int),n] = [((a/2^k:Nat):Int)]:=by unfold JA;rw[Lh,Vw,if_pos (aaE ha hj hn hk),hn,Int.toNat_natCast]
theorem arj {a j k:Nat} {n:Int} (ha:a<2^j) (hj:j<=1073741824) (hn:i64 n=(k:Int)) (hk:k<=1073741824):NW [(a:Int),n] = [ui (a.testBit k)]:=by unfold NW;rw[Lh,Vw,if_pos (aaE ha hj hn hk),hn,Int.toNat_natCast]
theorem ark {a j k:Nat} {n:Int} (ha:a<2^j) (hj:j<=1073741824) (hn:i64 n=(k:Int)) (hk:k<=1000):NY [(a:Int),n] = [((dg a k:Nat):Int)]:=by unfold NY okD;rw[Lh,Vw,Le ha hj,hn,decide_eq_true (by omega),decide_eq_true (by omega),Int.toNat_natCast];rfl
theorem aaF {a j k:Nat} {n:Int} (ha:a<2^j) (hj:j<=1073741824) (hn:i64 n=(k:Int)) (hk:k<=1073741824):JC [(a:Int),n] = [((a%2^k:Nat):Int)]:=by rw[JC,aas];refine(wZ (r:=[((a/2^k:Nat):Int)]) (by simp only[uZ,aqv];exact agV ha hj (by rw[vJ];exact hn) hk) (by rfl)).trans ?_;refine(wZ (r:=[((a/2^k*2^k:Nat):Int)]) (by simp only[uZ,agx];exact Vx (agT ha) hj (by rw[vJ];exact hn) hk) (by rfl)).trans ?_;refine(wZ (r:=[((a-a/2^k*2^k:Nat):Int)]) (by simp only[uZ,aqw];exact ari ha (Nat.div_mul_le_self _ _) hj) (by rfl)).trans ?_;rw[JF rfl];simp only[uZ];rw[show a-a/2^k*2^k=a%2^k by have:=Nat.div_add_mod a (2^k);rw[Nat.mul_comm] at this;omega]
theorem arl {k:Nat} {n:Int} (hn:i64 n=(k:Int)) (hk:k<=1073741824):N9 [n] = [((2^k:Nat):Int)]:=by rw[N9,aau];refine(wZ (r:=[((1:Nat):Int)]) (by simp only[uZ,aqx];exact arc (by rfl)) (by rfl)).trans ?_;refine(wZ (r:=[((1*2^k:Nat):Int)]) (by simp only[uZ,agx];exact Vx (j:=1) (by decide) (by decide) (by rw[vJ];exact hn) hk) (by rfl)).trans ?_;rw[JF rfl];simp only[uZ,Nat.one_mul]
theorem agW (n i:Nat):uA .add .u64 ((dg n (2*i):Nat):Int) (uA .shl .u64 ((dg n (2*i+1):Nat):Int) 32)=wd n i:=by
 show IntKind.u64.wrap (_+_)=_;rw[xL];have h0:=Ap n (2*i);have h1:=Ap n (2*i+1);unfold ug at h0 h1
 have e1:uA .shl .u64 ((dg n (2*i+1):Nat):Int) 32=((dg n (2*i+1)*4294967296:Nat):Int):=by show IntKind.u64.wrap (_*2^32)=_;rw[xL,show((dg n (2*i+1):Nat):Int)*2^32=((dg n (2*i+1)*4294967296:Nat):Int) by rw[Int.natCast_mul];rfl];exact Fe _ (by rw[Bb];omega)
 rw[e1,<- Int.natCast_add,Fe _ (by rw[Bb];omega),xH];congr 1;have e2:tV^i=ug^(2*i):=by rw[Nat.pow_mul];rfl
 unfold dg;rw[e2,Nat.pow_succ,<- Nat.div_div_eq_div_mul,Bb];unfold ug;omega
theorem Vy (n i:Nat) {j:Nat} {x:Int} (h:n<2^j) (hj:j<=1073741824) (hx:x=(i:Int)) (hi:i<=100):NY [(n:Int),x] = [((dg n i:Nat):Int)]:=ark h hj (by rw[hx,wD (by omega)]) (by omega)
theorem arn {n j:Nat} (h:n<2^j) (hj:j<=1073741824):N8 [(n:Int)]=oB n:=by rw[N8,aat];refine(wZ (r:=[((dg n 0:Nat):Int)]) (by simp only[uZ,Vp];exact Vy n 0 h hj (by rfl) (by decide)) (by rfl)).trans ?_;refine(wZ (r:=[((dg n 1:Nat):Int)]) (by simp only[uZ,Vp];exact Vy n 1 h hj (by rfl) (by decide)) (by rfl)).trans ?_;refine(wZ (r:=[((dg n 2:Nat):Int)]) (by simp only[uZ,Vp];exact Vy n 2 h hj (by rfl) (by decide)) (by rfl)).trans ?_;refine(wZ (r:=[((dg n 3:Nat):Int)]) (by simp only[uZ,Vp];exact Vy n 3 h hj (by rfl) (by decide)) (by rfl)).trans ?_;rw[JF rfl];simp only[uZ,agu];rw[show uA .add .u64 ((dg n 2:Nat):Int) (uA .shl .u64 ((dg n 3:Nat):Int) 32)=wd n 1 from agW n 1,show uA .add .u64 ((dg n 0:Nat):Int) (uA .shl .u64 ((dg n 1:Nat):Int) 32)=wd n 0 from agW n 0]
theorem aaG (f:Int):u8 f=((fN f:Nat):Int):=by have:=Fa f;unfold fN;omega
theorem Vz (f:Int):JD [f] = [((FP.fW (fN f):Nat):Int)]:=by
 rw[JD,aaw];simp only[uU,uZ,beq_iff_eq,aaG f];rcases(show fN f=0\/fN f=1\/fN f=2\/fN f=3\/4<=fN f by omega) with h|h|h|h|h
 ·rw[h,if_pos (by omega),uj rfl];rfl
 ·rw[h,if_neg (by omega),if_pos (by omega),uj rfl];rfl
 ·rw[h,if_neg (by omega),if_neg (by omega),if_pos (by omega),uj rfl];rfl
 ·rw[h,if_neg (by omega),if_neg (by omega),if_neg (by omega),if_pos (by omega),uj rfl];rfl
 ·obtain⟨m,hm⟩:∃ m,fN f=m+4:=⟨fN f-4,by omega⟩;rw[hm,if_neg (by omega),if_neg (by omega),if_neg (by omega),if_neg (by omega),uj rfl];rfl
theorem aaH (f:Int):JE [f] = [((FP.fP (fN f):Nat):Int)]:=by
 rw[JE,aax];simp only[uU,uZ,beq_iff_eq,aaG f];rcases(show fN f=0\/fN f=1\/fN f=2\/fN f=3\/4<=fN f by omega) with h|h|h|h|h
 ·rw[h,if_pos (by omega),uj rfl];rfl
 ·rw[h,if_neg (by omega),if_pos (by omega),uj rfl];rfl
 ·rw[h,if_neg (by omega),if_neg (by omega),if_pos (by omega),uj rfl];rfl
 ·rw[h,if_neg (by omega),if_neg (by omega),if_neg (by omega),if_pos (by omega),uj rfl];rfl
 ·obtain⟨m,hm⟩:∃ m,fN f=m+4:=⟨fN f-4,by omega⟩;rw[hm,if_neg (by omega),if_neg (by omega),if_neg (by omega),if_neg (by omega),uj rfl];rfl
theorem agX (f:Int):Od [f] = [((FP.fE (fN f):Nat):Int)]:=by
 rw[Od,aay];simp only[uU,uZ,beq_iff_eq,aaG f];rcases(show fN f=0\/fN f=1\/fN f=2\/fN f=3\/4<=fN f by omega) with h|h|h|h|h
 ·rw[h,if_pos (by omega),uj rfl];rfl
 ·rw[h,if_neg (by omega),if_pos (by omega),uj rfl];rfl
 ·rw[h,if_neg (by omega),if_neg (by omega),if_pos (by omega),uj rfl];rfl
 ·rw[h,if_neg (by omega),if_neg (by omega),if_neg (by omega),if_pos (by omega),uj rfl];rfl
 ·obtain⟨m,hm⟩:∃ m,fN f=m+4:=⟨fN f-4,by omega⟩;rw[hm,if_neg (by omega),if_neg (by omega),if_neg (by omega),if_neg (by omega),uj rfl];rfl
theorem agY (a b:Int):nB a b<2^128:=by have:=Ff a b;rw[yN] at this;exact this
theorem aro (f a b:Int):Oe [f,a,b] = [((nB a b%2^FP.fW (fN f):Nat):Int)]:=by have hW:=fW_le (fN f);rw[Oe,aaz];refine(wZ (r:=[((nB a b:Nat):Int)]) (by simp only[uZ,aqH];exact(ard _ _).trans (by rw[vQ])) (by rfl)).trans ?_;refine(wZ (r:=[((FP.fW (fN f):Nat):Int)]) (by simp only[uZ,aqI];exact(Vz _).trans (by rw[uD])) (by rfl)).trans ?_;refine(wZ (r:=[((nB a b%2^FP.fW (fN f):Nat):Int)]) (by simp only[uZ,aqJ];exact aaF (agY a b) (by decide) (by rw[vJ,Jq]) (by omega)) (by rfl)).trans ?_;rw[JF rfl];simp only[uZ]
theorem RZ {a b:Nat} {x:Int} (h:b<=a) (h2:a<=1000000) (hx:x=(b:Int)):i64 ((a:Int)-x)=((a-b:Nat):Int):=by rw[hx];exact Ep h h2
theorem arp (f a b:Int) (hf:fN f<4):Og [f,a,b] = [ui (FP.sgn (fN f) (nB a b)),((FP.cod (fN f) (nB a b)/2^(FP.fP (fN f)-1):Nat):Int),((FP.cod (fN f) (nB a b)%2^(FP.fP (fN f)-1):Nat):Int)]:=by
 obtain⟨n1,n2,n3,n4,n5,n6,n7,n8,n9⟩:=FP.fmtN hf;have hn:=agY a b;have hcl:=FP.cod_lt (fN f) (nB a b);rw[Og,aaA];refine(wZ (r:=[((FP.fW (fN f):Nat):Int)]) (by simp only[uZ,aaB];exact(Vz _).trans (by rw[uD])) (by rfl)).trans ?_;refine tnF (by simp only[uZ,Jq,beq_eq_false_iff_ne];omega) ?_;refine(wZ (r:=[((nB a b%2^FP.fW (fN f):Nat):Int)]) (by simp only[uZ,aqN];exact(aro _ _ _).trans (by rw[uD,vQ])) (by rfl)).trans ?_;refine(wZ (r:=[((FP.fW (fN f):Nat):Int)]) (by simp only[uZ,aaB];exact(Vz _).trans (by rw[uD])) (by rfl)).trans ?_
 have hc:nB a b%2^FP.fW (fN f)%2^(FP.fW (fN f)-1)=FP.cod (fN f) (nB a b):=by unfold FP.cod;exact Nat.mod_mod_of_dvd _ (Nat.pow_dvd_pow 2 (by omega))
 refine(wZ (r:=[((FP.cod (fN f) (nB a b):Nat):Int)]) (by simp only[uZ,agB];exact(aaF (k:=FP.fW (fN f)-1) (agU hn) (by decide) (by rw[Jq,vJ];exact RZ (by omega) (by omega) (by rfl)) (by omega)).trans (by rw[hc])) (by rfl)).trans ?_
 have hs:(nB a b%2^FP.fW (fN f)).testBit (FP.fW (fN f)-1)=FP.sgn (fN f) (nB a b):=by unfold FP.sgn;rw[Nat.testBit_mod_two_pow,decide_eq_true (by omega),Bool.true_and]
 generalize FP.cod (fN f) (nB a b)=c at *
 have hc1:c<2^128:=arb hcl (by omega);refine(wZ (r:=[((FP.fP (fN f):Nat):Int)]) (by simp only[uZ,agC];exact(aaH _).trans (by rw[uD])) (by rfl)).trans ?_;refine(wZ (r:=[((c/2^(FP.fP (fN f)-1):Nat):Int)]) (by simp only[uZ,aqO];exact agV hc1 (by decide) (by rw[xz,vJ];exact RZ (by omega) (by omega) (by rfl)) (by omega)) (by rfl)).trans ?_;refine(wZ (r:=[wd (c/2^(FP.fP (fN f)-1)) 1,wd (c/2^(FP.fP (fN f)-1)) 0]) (by simp only[uZ,aqP];exact(arn (agT hc1) (by decide)).trans (uV _)) (by rfl)).trans ?_;refine(wZ (r:=[((FP.fW (fN f):Nat):Int)]) (by simp only[uZ,aaB];exact(Vz _).trans (by rw[uD])) (by rfl)).trans ?_;refine(wZ (r:=[ui (FP.sgn (fN f) (nB a b))]) (by simp only[uZ,aqQ];exact(arj (k:=FP.fW (fN f)-1) (agU hn) (by decide) (by rw[Jq,vJ];exact RZ (by omega) (by omega) (by rfl)) (by omega)).trans (by rw[hs])) (by rfl)).trans ?_;refine(wZ (r:=[((FP.fP (fN f):Nat):Int)]) (by simp only[uZ,agC];exact(aaH _).trans (by rw[uD])) (by rfl)).trans ?_;refine(wZ (r:=[((c%2^(FP.fP (fN f)-1):Nat):Int)]) (by simp only[uZ,agB];exact aaF hc1 (by decide) (by rw[xz,vJ];exact RZ (by omega) (by omega) (by rfl)) (by omega)) (by rfl)).trans ?_;rw[JF rfl];simp only[uZ]
 have hq:c/2^(FP.fP (fN f)-1)<32768:=by rw[Nat.div_lt_iff_lt_mul (FP.two_pow_pos _),show(32768:Nat)=2^15 by decide,<- Nat.pow_add];exact Nat.lt_of_lt_of_le hcl (Nat.pow_le_pow_right (by decide) (by omega))
 have e1:wd (c/2^(FP.fP (fN f)-1)) 0=((c/2^(FP.fP (fN f)-1):Nat):Int):=by rw[xH,Nat.pow_zero,Nat.div_one,Nat.mod_eq_of_lt (by rw[Bb];omega)]
 rw[e1,wD (by omega)]
theorem arq (a b:Nat):i64 (zC a b)=zC a b:=by
 unfold zC;split
 ·rfl
 ·split<;>rfl
theorem agZ {f a b:Int} (hf:fN f<4):Oi [f,a,b] = [ui (FP.sgn (fN f) (nB a b)),((FP.vM (fN f) (FP.cod (fN f) (nB a b)):Nat):Int),FP.vE (fN f) (FP.cod (fN f) (nB a b))]:=by
 rw[Oi,aaC];obtain⟨n1,n2,n3,n4,n5,n6,n7,n8,n9⟩:=FP.fmtN hf;have hcl:=FP.cod_lt (fN f) (nB a b);refine(wZ (r:=[ui (FP.sgn (fN f) (nB a b)),((FP.cod (fN f) (nB a b)/2^(FP.fP (fN f)-1):Nat):Int),((FP.cod (fN f) (nB a b)%2^(FP.fP (fN f)-1):Nat):Int)]) (by simp only[uZ,aqV];exact(arp _ _ _ (by rw[uD];exact hf)).trans (by rw[uD,vQ])) (by rfl)).trans ?_;refine(wZ (r:=[((FP.fP (fN f):Nat):Int)]) (by simp only[uZ,aqW];exact(aaH _).trans (by rw[uD])) (by rfl)).trans ?_;unfold FP.vM FP.vE;generalize FP.sgn (fN f) (nB a b)=s;generalize FP.cod (fN f) (nB a b)=c at *
 have hH0:=FP.two_pow_pos (FP.fP (fN f)-1);have hml:=Nat.mod_lt c hH0
 have hc128:c/2^(FP.fP (fN f)-1)<1000000:=by
  rw[Nat.div_lt_iff_lt_mul hH0];have e1:2^(FP.fW (fN f)-1)=2^(FP.fW (fN f)-FP.fP (fN f))*2^(FP.fP (fN f)-1):=by rw[<- Nat.pow_add];congr 1;omega
  rw[e1] at hcl;refine Nat.lt_of_lt_of_le hcl (Nat.mul_le_mul_right _ ?_);rw[<- n9];omega
 generalize c/2^(FP.fP (fN f)-1)=q at *
 have hH1:2^(FP.fP (fN f)-1)<2^128:=Nat.pow_lt_pow_right (by decide) (by omega);have e1:i64 ((q:Nat):Int)=((q:Nat):Int):=wD (by omega);have e2:i64 (((FP.fP (fN f):Nat):Int)-1)=((FP.fP (fN f)-1:Nat):Int):=RZ (b:=1) (by omega) (by omega) (by rfl);by_cases h:q=0
 ·refine tnT (by simp only[uZ,e1,h];rfl) ?_;refine(wZ (r:=[((FP.fE (fN f):Nat):Int)]) (by simp only[uZ,agI];exact(agX _).trans (by rw[uD])) (by rfl)).trans ?_;rw[JF rfl,if_pos h,if_pos h];simp only[uZ,zz,xz,e2];rw[vX (n:=1-((FP.fE (fN f):Nat):Int)) (by omega) (by omega),vX (by omega) (by omega),show(1:Int)-((FP.fE (fN f):Nat):Int)-((FP.fP (fN f)-1:Nat):Int)=1-((FP.fE (fN f):Nat):Int)-(((FP.fP (fN f):Nat):Int)-1) by omega]
 ·refine tnF (by simp only[uZ,e1,beq_eq_false_iff_ne];omega) ?_;refine(wZ (r:=[((2^(FP.fP (fN f)-1):Nat):Int)]) (by simp only[uZ,aqX];exact arl (by rw[xz,e2];exact wD (by omega)) (by omega)) (by rfl)).trans ?_;refine(wZ (r:=[((c%2^(FP.fP (fN f)-1)+2^(FP.fP (fN f)-1):Nat):Int)]) (by simp only[uZ,aqY];exact arh (Nat.lt_trans hml hH1) hH1 (by decide) (by decide)) (by rfl)).trans ?_;refine(wZ (r:=[((FP.fE (fN f):Nat):Int)]) (by simp only[uZ,agI];exact(agX _).trans (by rw[uD])) (by rfl)).trans ?_;rw[JF rfl,if_neg h,if_neg h];simp only[uZ,zz,xz,e1,e2];rw[vX (n:=((q:Nat):Int)-((FP.fE (fN f):Nat):Int)) (by omega) (by omega),vX (by omega) (by omega),show((q:Nat):Int)-((FP.fE (fN f):Nat):Int)-((FP.fP (fN f)-1:Nat):Int)=((q:Nat):Int)-((FP.fE (fN f):Nat):Int)-(((FP.fP (fN f):Nat):Int)-1) by omega]
end Go.Proofs.YtippohicjhilnaaGreatDoor
