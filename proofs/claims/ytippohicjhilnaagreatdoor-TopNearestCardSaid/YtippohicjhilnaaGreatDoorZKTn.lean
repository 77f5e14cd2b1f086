import Derived.Test.YtippohicjhilnaaGreatDoorZ1Tn
import Derived.Test.YtippohicjhilnaaGreatDoorZ4Tn
import Derived.Test.YtippohicjhilnaaGreatDoorZGTn
import Derived.Test.YtippohicjhilnaaGreatDoorZHTn
import Derived.Test.YtippohicjhilnaaGreatDoorZITn
import Derived.Test.YtippohicjhilnaaGreatDoorZJTn
set_option linter.defProp false
set_option linter.unusedSimpArgs false
set_option linter.unusedVariables false
set_option maxRecDepth 100000
namespace Go.Proofs.YtippohicjhilnaaGreatDoor
open Go.RowKit
theorem ED {Φ:yE} {a:SV} {l:List Int} {xs:List X} (h:PE a=xs):zo Φ (.leaf a) l=xs.map (X.ev l):=by unfold zo;simp only[Ag,h,Ur,id]
theorem aiW {Φ:yE} {c:X} {a b:vU SV} {l:List Int} : zo Φ (.ite c a b) l=if ww (c.ev l)=true then zo Φ a l else zo Φ b l:=by unfold zo;simp only[Ag];cases ww (c.ev l)<;>rfl
theorem yf {Φ:yE} {f:Nat} {args:List X} {base n:Nat} {t:vU SV} {l:List Int} {r:List Int} (h:Φ f (args.map (X.ev l))=r) (hn:r.length=n):zo Φ (.call f args base n t) l=zo Φ t (l++r):=by unfold zo;simp only[Ag,Ur,h];rw[show Nat.beq r.length n=true by rw[hn];exact Nat.beq_refl n]
theorem as4 (l:List Int) (i:Nat):X.ev l (.var .nat i)=(((wC l i).toNat:Nat):Int):=rfl
theorem as5 (l:List Int) (a:X):X.ev l (.dlen a)=((wO (X.ev l a).toNat:Nat):Int):=by rw[X.akm,X.den,X.akm];rfl
theorem as6 (l:List Int) (i:Nat):X.ev l (.var (.int .u32) i)=IntKind.u32.wrap (wC l i):=by rw[X.ev];exact yJ _ _
theorem as7 (l:List SV):PE (.agg l)=l.map xX:=by rw[PE]
theorem as8 (k:IntKind) (x:X):xX (.int k x)=x:=by rw[xX]
def wI:=And.intro @as7 (And.intro @as8 (And.intro @xM (And.intro @wV (And.intro @wW (And.intro @xQ (And.intro @xR (And.intro @xA (And.intro @xC (And.intro @wS (And.intro @Al (And.intro @Aw (And.intro @PO (And.intro @Nf (And.intro @Av (And.intro @PP (And.intro @Ez (And.intro @Hf (And.intro @zG (And.intro @ahE (And.intro @Ey (And.intro @ahC (And.intro @ahD (And.intro @JI (And.intro @JH (And.intro @Le (And.intro @abV (And.intro @EA (And.intro @PQ (And.intro @WX (And.intro @PR (And.intro @abW (And.intro @EZ (And.intro @wP (And.intro @zF (And.intro @Ha (And.intro @abQ (And.intro @Dm (And.intro @Cy (And.intro @xD (And.intro @Ak (And.intro @as4 (And.intro @as6 (And.intro @as5 (@Ah))))))))))))))))))))))))))))))))))))))))))))
theorem tnT {Φ:yE} {c:X} {a b:vU SV} {l r:List Int} (h:ww (c.ev l)=true) (k:zo Φ a l=r):zo Φ (.ite c a b) l=r:=by rw[aiW,if_pos h];exact k
theorem XH {Φ:yE} {c:X} {a b:vU SV} {l r:List Int} (h:ww (c.ev l)=false) (k:zo Φ b l=r):zo Φ (.ite c a b) l=r:=by rw[aiW,if_neg (by rw[h];exact Bool.false_ne_true)];exact k
theorem LD {n j k:Nat} (h:n<2^j) (hk:j<=k):n<2^k:=Nat.lt_of_lt_of_le h (Nat.pow_le_pow_right (by decide) hk)
theorem Qo {n j k:Nat} (h:n<2^j):n*2^k<2^(j+k):=by rw[Nat.pow_add];exact Nat.mul_lt_mul_of_pos_right h (Nat.pow_pos (by decide))
theorem aiX {n m j:Nat} (h:n<2^j):n/m<2^j:=Nat.lt_of_le_of_lt (Nat.div_le_self _ _) h
theorem aiY {n m j:Nat} (h:n<2^j):n%m<2^j:=Nat.lt_of_le_of_lt (Nat.mod_le _ _) h
theorem as9 {x:Int} {n:Nat} (hx:u64 x=(n:Int)):P7 [x] = [(n:Int)]:=by unfold P7 gU;rw[xA,zF,hx];rfl
theorem ata (h l:Int):P8 [h,l] = [((nB h l:Nat):Int)]:=by unfold P8 gU nB;rw[xA,xC,xA,zF,zF];rfl
theorem LF (a:Nat) (l:List Int):gN ((a:Int)::l) 0=a:=by unfold gN;rw[xA];omega
theorem XI (x:Int) (a:Nat) (l:List Int):gN (x::(a:Int)::l) 1=a:=by unfold gN;rw[xC,xA];omega
theorem XJ (x y:Int) (l:List Int):gW (x::y::l) 1=i64 y:=by unfold gW;rw[xC,xA,Ha]
theorem acK {a b j k:Nat} (ha:a<2^j) (hb:b<2^k) (hj:j<=1073741824) (hk:k<=1073741824):IE [(a:Int),(b:Int)] = [zT a b]:=by unfold IE;rw[LF,XI,JM ha hj,JM hb hk];rfl
theorem aiZ {a b j k:Nat} (ha:a<2^j) (hb:b<2^k) (hj:j<=1073741824) (hk:k<=1073741824):Ls [(a:Int),(b:Int)] = [((a+b:Nat):Int)]:=by unfold Ls;rw[LF,XI,JM ha hj,JM hb hk];rfl
theorem acL {a b j:Nat} (ha:a<2^j) (hb:b<=a) (hj:j<=1073741824):Lt [(a:Int),(b:Int)] = [((a-b:Nat):Int)]:=by unfold Lt;rw[LF,XI,JM ha hj,decide_eq_true hb];rfl
theorem atb {a b j k:Nat} (ha:a<2^j) (hb:b<2^k) (hj:j<=1073741824) (hk:k<=1073741824):P9 [(a:Int),(b:Int)] = [((a*b:Nat):Int)]:=by unfold P9;rw[LF,XI,JM ha hj,JM hb hk];rfl
theorem acM {a j k:Nat} {n:Int} (ha:a<2^j) (hj:j<=1073741824) (hn:n=(k:Int)) (hk:k<=1073741824):Nu a n=true:=by subst hn;unfold Nu;rw[JM ha hj,decide_eq_true (by omega),decide_eq_true (by omega)];rfl
theorem Qp {a j k:Nat} {n:Int} (ha:a<2^j) (hj:j<=1073741824) (hn:i64 n=(k:Int)) (hk:k<=1073741824):IG [(a:Int),n] = [((a*2^k:Nat):Int)]:=by unfold IG;rw[LF,XJ,if_pos (acM ha hj hn hk),hn,Int.toNat_natCast]
theorem ai0 {a j k:Nat} {n:Int} (ha:a<2^j) (hj:j<=1073741824) (hn:i64 n=(k:Int)) (hk:k<=1073741824):Lu [(a:Int),n] = [((a/2^k:Nat):Int)]:=by unfold Lu;rw[LF,XJ,if_pos (acM ha hj hn hk),hn,Int.toNat_natCast]
theorem atc {a j k:Nat} {n:Int} (ha:a<2^j) (hj:j<=1073741824) (hn:i64 n=(k:Int)) (hk:k<=1073741824):Qa [(a:Int),n] = [wh (a.testBit k)]:=by unfold Qa;rw[LF,XJ,if_pos (acM ha hj hn hk),hn,Int.toNat_natCast]
theorem atd {a j k:Nat} {n:Int} (ha:a<2^j) (hj:j<=1073741824) (hn:i64 n=(k:Int)) (hk:k<=1000):Qb [(a:Int),n] = [((dg a k:Nat):Int)]:=by unfold Qb okD;rw[LF,XJ,JM ha hj,hn,decide_eq_true (by omega),decide_eq_true (by omega),Int.toNat_natCast];rfl
theorem acN {a j k:Nat} {n:Int} (ha:a<2^j) (hj:j<=1073741824) (hn:i64 n=(k:Int)) (hk:k<=1073741824):Lx [(a:Int),n] = [((a%2^k:Nat):Int)]:=by rw[Lx,acs];refine(yf (r:=[((a/2^k:Nat):Int)]) (by simp only[wI,asu];exact ai0 ha hj (by rw[xD];exact hn) hk) (by rfl)).trans ?_;refine(yf (r:=[((a/2^k*2^k:Nat):Int)]) (by simp only[wI,aiG];exact Qp (aiX ha) hj (by rw[xD];exact hn) hk) (by rfl)).trans ?_;refine(yf (r:=[((a-a/2^k*2^k:Nat):Int)]) (by simp only[wI,asv];exact acL ha (Nat.div_mul_le_self _ _) hj) (by rfl)).trans ?_;rw[ED rfl];simp only[wI];rw[show a-a/2^k*2^k=a%2^k by have:=Nat.div_add_mod a (2^k);rw[Nat.mul_comm] at this;omega]
theorem ai1 {k:Nat} {n:Int} (hn:i64 n=(k:Int)) (hk:k<=1073741824):Qe [n] = [((2^k:Nat):Int)]:=by rw[Qe,acv];refine(yf (r:=[((1:Nat):Int)]) (by simp only[wI,asw];exact as9 (by rfl)) (by rfl)).trans ?_;refine(yf (r:=[((1*2^k:Nat):Int)]) (by simp only[wI,aiG];exact Qp (j:=1) (by decide) (by decide) (by rw[xD];exact hn) hk) (by rfl)).trans ?_;rw[ED rfl];simp only[wI,Nat.one_mul]
theorem ai2 (n i:Nat):wJ .add .u64 ((dg n (2*i):Nat):Int) (wJ .shl .u64 ((dg n (2*i+1):Nat):Int) 32)=wd n i:=by
 show IntKind.u64.wrap (_+_)=_;rw[zF];have h0:=Ck n (2*i);have h1:=Ck n (2*i+1);unfold wo at h0 h1
 have e1:wJ .shl .u64 ((dg n (2*i+1):Nat):Int) 32=((dg n (2*i+1)*4294967296:Nat):Int):=by show IntKind.u64.wrap (_*2^32)=_;rw[zF,show((dg n (2*i+1):Nat):Int)*2^32=((dg n (2*i+1)*4294967296:Nat):Int) by rw[Int.natCast_mul];rfl];exact Hd _ (by rw[CW];omega)
 rw[e1,<- Int.natCast_add,Hd _ (by rw[CW];omega),zz];congr 1;have e2:vZ^i=wo^(2*i):=by rw[Nat.pow_mul];rfl
 unfold dg;rw[e2,Nat.pow_succ,<- Nat.div_div_eq_div_mul,CW];unfold wo;omega
theorem XK (n i:Nat) {j:Nat} {x:Int} (h:n<2^j) (hj:j<=1073741824) (hx:x=(i:Int)) (hi:i<=100):Qb [(n:Int),x] = [((dg n i:Nat):Int)]:=atd h hj (by rw[hx,yz (by omega)]) (by omega)
theorem ate {n j:Nat} (h:n<2^j) (hj:j<=1073741824):Qd [(n:Int)]=oB n:=by rw[Qd,acu];refine(yf (r:=[((dg n 0:Nat):Int)]) (by simp only[wI,Xz];exact XK n 0 h hj (by rfl) (by decide)) (by rfl)).trans ?_;refine(yf (r:=[((dg n 1:Nat):Int)]) (by simp only[wI,Xz];exact XK n 1 h hj (by rfl) (by decide)) (by rfl)).trans ?_;refine(yf (r:=[((dg n 2:Nat):Int)]) (by simp only[wI,Xz];exact XK n 2 h hj (by rfl) (by decide)) (by rfl)).trans ?_;refine(yf (r:=[((dg n 3:Nat):Int)]) (by simp only[wI,Xz];exact XK n 3 h hj (by rfl) (by decide)) (by rfl)).trans ?_;rw[ED rfl];simp only[wI,aiD];rw[show wJ .add .u64 ((dg n 2:Nat):Int) (wJ .shl .u64 ((dg n 3:Nat):Int) 32)=wd n 1 from ai2 n 1,show wJ .add .u64 ((dg n 0:Nat):Int) (wJ .shl .u64 ((dg n 1:Nat):Int) 32)=wd n 0 from ai2 n 0]
theorem XL (f:Int):u8 f=((fN f:Nat):Int):=by have:=Ew f;unfold fN;omega
theorem XM (f:Int):LA [f] = [((FP.fW (fN f):Nat):Int)]:=by
 rw[LA,acx];simp only[xg,wI,beq_iff_eq,XL f];rcases(show fN f=0\/fN f=1\/fN f=2\/fN f=3\/4<=fN f by omega) with h|h|h|h|h
 ·rw[h,if_pos (by omega),wu rfl];rfl
 ·rw[h,if_neg (by omega),if_pos (by omega),wu rfl];rfl
 ·rw[h,if_neg (by omega),if_neg (by omega),if_pos (by omega),wu rfl];rfl
 ·rw[h,if_neg (by omega),if_neg (by omega),if_neg (by omega),if_pos (by omega),wu rfl];rfl
 ·obtain⟨m,hm⟩:∃ m,fN f=m+4:=⟨fN f-4,by omega⟩;rw[hm,if_neg (by omega),if_neg (by omega),if_neg (by omega),if_neg (by omega),wu rfl];rfl
theorem XN (f:Int):LB [f] = [((FP.fP (fN f):Nat):Int)]:=by
 rw[LB,acy];simp only[xg,wI,beq_iff_eq,XL f];rcases(show fN f=0\/fN f=1\/fN f=2\/fN f=3\/4<=fN f by omega) with h|h|h|h|h
 ·rw[h,if_pos (by omega),wu rfl];rfl
 ·rw[h,if_neg (by omega),if_pos (by omega),wu rfl];rfl
 ·rw[h,if_neg (by omega),if_neg (by omega),if_pos (by omega),wu rfl];rfl
 ·rw[h,if_neg (by omega),if_neg (by omega),if_neg (by omega),if_pos (by omega),wu rfl];rfl
 ·obtain⟨m,hm⟩:∃ m,fN f=m+4:=⟨fN f-4,by omega⟩;rw[hm,if_neg (by omega),if_neg (by omega),if_neg (by omega),if_neg (by omega),wu rfl];rfl
theorem acO (f:Int):Qi [f] = [((FP.fE (fN f):Nat):Int)]:=by
 rw[Qi,acz];simp only[xg,wI,beq_iff_eq,XL f];rcases(show fN f=0\/fN f=1\/fN f=2\/fN f=3\/4<=fN f by omega) with h|h|h|h|h
 ·rw[h,if_pos (by omega),wu rfl];rfl
 ·rw[h,if_neg (by omega),if_pos (by omega),wu rfl];rfl
 ·rw[h,if_neg (by omega),if_neg (by omega),if_pos (by omega),wu rfl];rfl
 ·rw[h,if_neg (by omega),if_neg (by omega),if_neg (by omega),if_pos (by omega),wu rfl];rfl
 ·obtain⟨m,hm⟩:∃ m,fN f=m+4:=⟨fN f-4,by omega⟩;rw[hm,if_neg (by omega),if_neg (by omega),if_neg (by omega),if_neg (by omega),wu rfl];rfl
theorem ai3 (a b:Int):nB a b<2^128:=by have:=He a b;rw[Bl] at this;exact this
theorem atf (f a b:Int):Qj [f,a,b] = [((nB a b%2^FP.fW (fN f):Nat):Int)]:=by have hW:=aDs (fN f);rw[Qj,acA];refine(yf (r:=[((nB a b:Nat):Int)]) (by simp only[wI,asG];exact(ata _ _).trans (by rw[wX])) (by rfl)).trans ?_;refine(yf (r:=[((FP.fW (fN f):Nat):Int)]) (by simp only[wI,asH];exact(XM _).trans (by rw[wz])) (by rfl)).trans ?_;refine(yf (r:=[((nB a b%2^FP.fW (fN f):Nat):Int)]) (by simp only[wI,asI];exact acN (ai3 a b) (by decide) (by rw[xD,Lf]) (by omega)) (by rfl)).trans ?_;rw[ED rfl];simp only[wI]
theorem Qq {a b:Nat} {x:Int} (h:b<=a) (h2:a<=1000000) (hx:x=(b:Int)):i64 ((a:Int)-x)=((a-b:Nat):Int):=by rw[hx];exact F7 h h2
theorem ai4 (f a b:Int) (hf:fN f<4):Qk [f,a,b] = [wh (FP.sgn (fN f) (nB a b)),((FP.cod (fN f) (nB a b)/2^(FP.fP (fN f)-1):Nat):Int),((FP.cod (fN f) (nB a b)%2^(FP.fP (fN f)-1):Nat):Int)]:=by
 obtain⟨n1,n2,n3,n4,n5,n6,n7,n8,n9⟩:=FP.axv hf;have hn:=ai3 a b;have hcl:=FP.aCH (fN f) (nB a b);rw[Qk,acB];refine(yf (r:=[((FP.fW (fN f):Nat):Int)]) (by simp only[wI,acC];exact(XM _).trans (by rw[wz])) (by rfl)).trans ?_;refine XH (by simp only[wI,Lf,beq_eq_false_iff_ne];omega) ?_;refine(yf (r:=[((nB a b%2^FP.fW (fN f):Nat):Int)]) (by simp only[wI,asM];exact(atf _ _ _).trans (by rw[wz,wX])) (by rfl)).trans ?_;refine(yf (r:=[((FP.fW (fN f):Nat):Int)]) (by simp only[wI,acC];exact(XM _).trans (by rw[wz])) (by rfl)).trans ?_
 have hc:nB a b%2^FP.fW (fN f)%2^(FP.fW (fN f)-1)=FP.cod (fN f) (nB a b):=by unfold FP.cod;exact Nat.mod_mod_of_dvd _ (Nat.pow_dvd_pow 2 (by omega))
 refine(yf (r:=[((FP.cod (fN f) (nB a b):Nat):Int)]) (by simp only[wI,aiK];exact(acN (k:=FP.fW (fN f)-1) (aiY hn) (by decide) (by rw[Lf,xD];exact Qq (by omega) (by omega) (by rfl)) (by omega)).trans (by rw[hc])) (by rfl)).trans ?_
 have hs:(nB a b%2^FP.fW (fN f)).testBit (FP.fW (fN f)-1)=FP.sgn (fN f) (nB a b):=by unfold FP.sgn;rw[Nat.testBit_mod_two_pow,decide_eq_true (by omega),Bool.true_and]
 generalize FP.cod (fN f) (nB a b)=c at *
 have hc1:c<2^128:=LD hcl (by omega);refine(yf (r:=[((FP.fP (fN f):Nat):Int)]) (by simp only[wI,aiL];exact(XN _).trans (by rw[wz])) (by rfl)).trans ?_;refine(yf (r:=[((c/2^(FP.fP (fN f)-1):Nat):Int)]) (by simp only[wI,asN];exact ai0 hc1 (by decide) (by rw[ze,xD];exact Qq (by omega) (by omega) (by rfl)) (by omega)) (by rfl)).trans ?_;refine(yf (r:=[wd (c/2^(FP.fP (fN f)-1)) 1,wd (c/2^(FP.fP (fN f)-1)) 0]) (by simp only[wI,asO];exact(ate (aiX hc1) (by decide)).trans (wS _)) (by rfl)).trans ?_;refine(yf (r:=[((FP.fW (fN f):Nat):Int)]) (by simp only[wI,acC];exact(XM _).trans (by rw[wz])) (by rfl)).trans ?_;refine(yf (r:=[wh (FP.sgn (fN f) (nB a b))]) (by simp only[wI,asP];exact(atc (k:=FP.fW (fN f)-1) (aiY hn) (by decide) (by rw[Lf,xD];exact Qq (by omega) (by omega) (by rfl)) (by omega)).trans (by rw[hs])) (by rfl)).trans ?_;refine(yf (r:=[((FP.fP (fN f):Nat):Int)]) (by simp only[wI,aiL];exact(XN _).trans (by rw[wz])) (by rfl)).trans ?_;refine(yf (r:=[((c%2^(FP.fP (fN f)-1):Nat):Int)]) (by simp only[wI,aiK];exact acN hc1 (by decide) (by rw[ze,xD];exact Qq (by omega) (by omega) (by rfl)) (by omega)) (by rfl)).trans ?_;rw[ED rfl];simp only[wI]
 have hq:c/2^(FP.fP (fN f)-1)<32768:=by rw[Nat.div_lt_iff_lt_mul (FP.two_pow_pos _),show(32768:Nat)=2^15 by decide,<- Nat.pow_add];exact Nat.lt_of_lt_of_le hcl (Nat.pow_le_pow_right (by decide) (by omega))
 have e1:wd (c/2^(FP.fP (fN f)-1)) 0=((c/2^(FP.fP (fN f)-1):Nat):Int):=by rw[zz,Nat.pow_zero,Nat.div_one,Nat.mod_eq_of_lt (by rw[CW];omega)]
 rw[e1,yz (by omega)]
theorem atg (f:Nat):wJ .mul .i64 2 ((FP.fE f:Nat):Int)=((2*FP.fE f:Nat):Int):=by have:=Ng f;rw[Uz _ (by omega) (by omega)];omega
theorem ai5 (f:Nat):i64 (wJ .mul .i64 2 (i64 ((FP.fE f:Nat):Int))+1)=((2*FP.fE f+1:Nat):Int):=by have hl:=Ng f;rw[AU,atg,xG (by omega) (by omega)];omega
theorem XO (n:Nat):((((wO n:Nat):Int))==0)=decide (n=0):=by rw[Bool.eq_iff_iff,beq_iff_eq,decide_eq_true_eq,<- acd];omega
theorem ai6 (a b:Nat):decide (zT a b>=0)=decide (b<=a):=by
 rw[decide_eq_decide];unfold zT;split
 ·omega
 ·split<;>omega
theorem UH (a b:Nat):i64 (zT a b)=zT a b:=by
 unfold zT;split
 ·rfl
 ·split<;>rfl
theorem ath (f a b:Int):Qm [f,a,b] = [((vT (fN f) (nB a b):Nat):Int),wh (DX (fN f) (nB a b))]:=by
 rw[Qm,acD];have hu:=XL f;by_cases hf:¬ fN f<4
 ·refine tT (by simp only[wI];exact decide_eq_true (by omega)) ?_;rw[wu rfl];unfold vT DX;rw[if_neg hf,decide_eq_false hf];rfl
 have hf:=Classical.not_not.1 hf;refine tF (by simp only[wI];exact decide_eq_false (by omega)) ?_;obtain⟨n1,n2,n3,n4,n5,n6,n7,n8,n9⟩:=FP.axv hf;have hcl:=FP.aCH (fN f) (nB a b);refine(vX (r:=[wh (FP.sgn (fN f) (nB a b)),((FP.cod (fN f) (nB a b)/2^(FP.fP (fN f)-1):Nat):Int),((FP.cod (fN f) (nB a b)%2^(FP.fP (fN f)-1):Nat):Int)]) (by simp only[wI,aiP];exact(ai4 _ _ _ (by rw[wz];exact hf)).trans (by rw[wz,wX])) (by rfl)).trans ?_;unfold vT DX FP.cls;rw[if_pos hf,decide_eq_true hf,Bool.true_and];generalize FP.sgn (fN f) (nB a b)=s;generalize FP.cod (fN f) (nB a b)=c at *
 generalize hH:2^(FP.fP (fN f)-1)=H at *
 have hH0:0<H:=by rw[<- hH];exact FP.two_pow_pos _
 have hc128:c/H<1000000:=by
  rw[Nat.div_lt_iff_lt_mul hH0];have e1:2^(FP.fW (fN f)-1)=2^(FP.fW (fN f)-FP.fP (fN f))*H:=by rw[<- hH,<- Nat.pow_add];congr 1;omega
  rw[e1] at hcl;refine Nat.lt_of_lt_of_le hcl (Nat.mul_le_mul_right _ ?_);rw[<- n9];omega
 have htop:2^(FP.fW (fN f)-1)=FP.inf (fN f)+H:=by rw[<- hH];exact FP.aC5 hf
 have hinf:FP.inf (fN f)=(2*FP.fE (fN f)+1)*H:=by rw[<- hH];rfl
 have hdm:=Nat.div_add_mod c H;have hml:=Nat.mod_lt c hH0;have e1:i64 ((c/H:Nat):Int)=((c/H:Nat):Int):=yz (by omega);have cls0:c=0->FP.aeV (fN f) c=0:=λh=>by unfold FP.aeV;rw[if_pos h]
 have cls1:c≠0->c<H->FP.aeV (fN f) c=1:=λh h2=>by unfold FP.aeV;rw[if_neg h,hH,if_pos h2]
 have cls2:c≠0->¬ c<H->c<FP.inf (fN f)->FP.aeV (fN f) c=2:=λh h2 h3=>by unfold FP.aeV;rw[if_neg h,hH,if_neg h2,if_pos h3]
 have cls3:c≠0->¬ c<H->c=FP.inf (fN f)->FP.aeV (fN f) c=3:=λh h2 h3=>by unfold FP.aeV;rw[if_neg h,hH,if_neg h2,if_neg (by omega),if_pos h3]
 have cls45:c≠0->¬ c<H->¬ c<FP.inf (fN f)->c≠FP.inf (fN f)->FP.aeV (fN f) c=if FP.inf (fN f)+2^(FP.fP (fN f)-2)<=c then 4 else 5:=λh h2 h3 h4=>by unfold FP.aeV;rw[if_neg h,hH,if_neg h2,if_neg h3,if_neg h4]
 by_cases hz:c/H=0
 ·have hlt:c<H:=(Nat.div_eq_zero_iff_lt hH0).1 hz;have hcm:c%H=c:=Nat.mod_eq_of_lt hlt;rw[hcm];refine tT (by simp only[wI,e1,hz];rfl) ?_;by_cases h0:c=0
  ·refine tT (by simp only[wI,XO];exact decide_eq_true h0) ?_;rw[wu rfl,cls0 h0];(simp only[wI])<;>rfl
  ·refine tF (by simp only[wI,XO];exact decide_eq_false h0) ?_;rw[wu rfl,cls1 h0 hlt];(simp only[wI])<;>rfl
 ·have hge:¬ c<H:=λh=>hz (Nat.div_eq_of_lt h)
  have h0:c≠0:=by omega
  refine tF (by simp only[wI,e1,beq_eq_false_iff_ne];omega) ?_;refine(vX (r:=[((FP.fE (fN f):Nat):Int)]) (by simp only[wI,acF];exact(acO _).trans (by rw[wz])) (by rfl)).trans ?_
  have hq:c/H<=2*FP.fE (fN f)+1:=by
   have:c/H<2*FP.fE (fN f)+2:=by rw[Nat.div_lt_iff_lt_mul hH0,show(2*FP.fE (fN f)+2)*H=FP.inf (fN f)+H by rw[hinf,<- Nat.succ_mul],<- htop];exact hcl
   omega
  have hcmp:c/H<2*FP.fE (fN f)+1↔c<FP.inf (fN f):=by rw[hinf,<- Nat.div_lt_iff_lt_mul hH0]
  by_cases h1:c<FP.inf (fN f)
  ·have h1':=hcmp.2 h1;refine tT (by simp only[wI,e1,ai5,bne_iff_ne];omega) ?_;rw[wu rfl,cls2 h0 hge h1];(simp only[wI])<;>rfl
  ·have hq2:c/H=2*FP.fE (fN f)+1:=by
    have:¬ c/H<2*FP.fE (fN f)+1:=λh=>h1 (hcmp.1 h)
    omega
   refine tF (by simp only[wI,e1,ai5,bne_eq_false_iff_eq];omega) ?_;have hcm:c=FP.inf (fN f)+c%H:=by rw[hinf,<- hq2,Nat.mul_comm];exact hdm.symm
   by_cases h2:c%H=0
   ·refine tT (by simp only[wI,XO];exact decide_eq_true h2) ?_;rw[wu rfl,cls3 h0 hge (by omega)];(simp only[wI])<;>rfl
   ·refine tF (by simp only[wI,XO];exact decide_eq_false h2) ?_;have c45:=cls45 h0 hge h1 (by omega);refine(vX (r:=[((FP.fP (fN f):Nat):Int)]) (by simp only[wI,aiQ];exact(XN _).trans (by rw[wz])) (by rfl)).trans ?_;refine(vX (r:=[((2^(FP.fP (fN f)-2):Nat):Int)]) (by simp only[wI,aiR];exact ai1 (by rw[ze,xD];exact Qq (b:=2) (by omega) (by omega) (by rfl)) (by omega)) (by rfl)).trans ?_;have hp:2^(FP.fP (fN f)-2)<2^128:=Nat.pow_lt_pow_right (by decide) (by omega);have hr:c%H<2^128:=Nat.lt_of_lt_of_le hml (by rw[<- hH];exact Nat.pow_le_pow_right (by decide) (by omega));refine(vX (r:=[zT (c%H) (2^(FP.fP (fN f)-2))]) (by simp only[wI,asU];exact acK hr hp (by decide) (by decide)) (by rfl)).trans ?_;by_cases h3:2^(FP.fP (fN f)-2)<=c%H
    ·refine tT (by simp only[wI,UH,ai6];exact decide_eq_true h3) ?_;rw[wu rfl,show FP.aeV (fN f) c=4 by rw[c45,if_pos (by omega)]];(simp only[wI])<;>rfl
    ·refine tF (by simp only[wI,UH,ai6];exact decide_eq_false h3) ?_;rw[wu rfl,show FP.aeV (fN f) c=5 by rw[c45,if_neg (by omega)]];(simp only[wI])<;>rfl
theorem XP {f a b:Int} (hf:fN f<4):Hm [f,a,b] = [wh (FP.sgn (fN f) (nB a b)),((FP.vM (fN f) (FP.cod (fN f) (nB a b)):Nat):Int),FP.vE (fN f) (FP.cod (fN f) (nB a b))]:=by
 rw[Hm,acE];obtain⟨n1,n2,n3,n4,n5,n6,n7,n8,n9⟩:=FP.axv hf;have hcl:=FP.aCH (fN f) (nB a b);refine(yf (r:=[wh (FP.sgn (fN f) (nB a b)),((FP.cod (fN f) (nB a b)/2^(FP.fP (fN f)-1):Nat):Int),((FP.cod (fN f) (nB a b)%2^(FP.fP (fN f)-1):Nat):Int)]) (by simp only[wI,aiP];exact(ai4 _ _ _ (by rw[wz];exact hf)).trans (by rw[wz,wX])) (by rfl)).trans ?_;refine(yf (r:=[((FP.fP (fN f):Nat):Int)]) (by simp only[wI,aiQ];exact(XN _).trans (by rw[wz])) (by rfl)).trans ?_;unfold FP.vM FP.vE;generalize FP.sgn (fN f) (nB a b)=s;generalize FP.cod (fN f) (nB a b)=c at *
 have hH0:=FP.two_pow_pos (FP.fP (fN f)-1);have hml:=Nat.mod_lt c hH0
 have hc128:c/2^(FP.fP (fN f)-1)<1000000:=by
  rw[Nat.div_lt_iff_lt_mul hH0];have e1:2^(FP.fW (fN f)-1)=2^(FP.fW (fN f)-FP.fP (fN f))*2^(FP.fP (fN f)-1):=by rw[<- Nat.pow_add];congr 1;omega
  rw[e1] at hcl;refine Nat.lt_of_lt_of_le hcl (Nat.mul_le_mul_right _ ?_);rw[<- n9];omega
 generalize c/2^(FP.fP (fN f)-1)=q at *
 have hH1:2^(FP.fP (fN f)-1)<2^128:=Nat.pow_lt_pow_right (by decide) (by omega);have e1:i64 ((q:Nat):Int)=((q:Nat):Int):=yz (by omega);have e2:i64 (((FP.fP (fN f):Nat):Int)-1)=((FP.fP (fN f)-1:Nat):Int):=Qq (b:=1) (by omega) (by omega) (by rfl);by_cases h:q=0
 ·refine tnT (by simp only[wI,e1,h];rfl) ?_;refine(yf (r:=[((FP.fE (fN f):Nat):Int)]) (by simp only[wI,acF];exact(acO _).trans (by rw[wz])) (by rfl)).trans ?_;rw[ED rfl,if_pos h,if_pos h];simp only[wI,AU,ze,e2];rw[xG (n:=1-((FP.fE (fN f):Nat):Int)) (by omega) (by omega),xG (by omega) (by omega),show(1:Int)-((FP.fE (fN f):Nat):Int)-((FP.fP (fN f)-1:Nat):Int)=1-((FP.fE (fN f):Nat):Int)-(((FP.fP (fN f):Nat):Int)-1) by omega]
 ·refine XH (by simp only[wI,e1,beq_eq_false_iff_ne];omega) ?_;refine(yf (r:=[((2^(FP.fP (fN f)-1):Nat):Int)]) (by simp only[wI,aiR];exact ai1 (by rw[ze,e2];exact yz (by omega)) (by omega)) (by rfl)).trans ?_;refine(yf (r:=[((c%2^(FP.fP (fN f)-1)+2^(FP.fP (fN f)-1):Nat):Int)]) (by simp only[wI,asV];exact aiZ (Nat.lt_trans hml hH1) hH1 (by decide) (by decide)) (by rfl)).trans ?_;refine(yf (r:=[((FP.fE (fN f):Nat):Int)]) (by simp only[wI,acF];exact(acO _).trans (by rw[wz])) (by rfl)).trans ?_;rw[ED rfl,if_neg h,if_neg h];simp only[wI,AU,ze,e1,e2];rw[xG (n:=((q:Nat):Int)-((FP.fE (fN f):Nat):Int)) (by omega) (by omega),xG (by omega) (by omega),show((q:Nat):Int)-((FP.fE (fN f):Nat):Int)-((FP.fP (fN f)-1:Nat):Int)=((q:Nat):Int)-((FP.fE (fN f):Nat):Int)-(((FP.fP (fN f):Nat):Int)-1) by omega]
end Go.Proofs.YtippohicjhilnaaGreatDoor
