import Derived.Test.YtippohicjhilnaaGreatDoorZATr
set_option linter.unusedSimpArgs false
set_option linter.unusedVariables false
namespace Go.Proofs.YtippohicjhilnaaGreatDoor
open Go.RowKit
inductive VK where
 | int (k:IntKind)
 | bool
 | bit
 | nat
def ui (b:Bool):Int:=match b with|true=>1|false=>0
def Dh (op:BinOp) (k:IntKind) (x y:Int):Int :=
 let a:=BitVec.ofInt k.bits x;let b:=BitVec.ofInt k.bits y
 k.wrap (match op with | .and=>a&&&b | .or=>a|||b | .xor=>a ^^^ b|_=>a &&& ~~~b).toNat
theorem adR (op:BinOp) (k:IntKind) (x y:Int):Km op k x y = .int k (Dh op k x y):=rfl
def uA (op:BinOp) (k:IntKind) (a b:Int):Int:=match op with
 | .shl=>k.wrap (a*2^min b.toNat k.bits)
 | .shr=>a.fdiv (2^min b.toNat k.bits)
 | .add=>k.wrap (a+b)
 | .sub=>k.wrap (a-b)
 | .mul=>k.wrap (a*b)
 | .quo=>k.wrap (a.tdiv b)
 | .rem=>a.tmod b
 | .and=>Dh .and k a b
 | .or=>Dh .or k a b
 | .xor=>Dh .xor k a b
 | .andNot=>Dh .andNot k a b
 | .eql=>ui (a==b)
 | .neq=>ui (a != b)
 | .lss=>ui (decide (a<b))
 | .leq=>ui (decide (a<=b))
 | .gtr=>ui (decide (a>b))
 | .geq=>ui (decide (a>=b))
def EJ:Nat->Nat->List Nat
 | 0,_=>[]
 | f+1,n=>match n with|0=>[]|m+1=>(m+1)%4294967296::EJ f ((m+1)/4294967296)
def QL (n:Nat):List Nat:=EJ n n
def uH (n:Nat):Nat:=(QL n).length
inductive X where
 | lit (n:Int)
 | var (k:VK) (i:Nat)
 | bin (op:BinOp) (k:IntKind) (a b:X)
 | conv (k:IntKind) (a:X)
 | com (k:IntKind) (a:X)
 | not (a:X)
 | and (a b:X)
 | beq (a b:X)
 | min (a b:X)
 | max (a b:X)
 | ite (c a b:X)
 | dlen (a:X)
abbrev ut:=Nat->Int
def VK.norm:VK->Int->Int
 | .int k,n=>k.wrap n
 | .bool,n=>ui (n != 0)
 | .bit,n=>ui (n != 0)
 | .nat,n=>Int.ofNat n.toNat
def QM (k:IntKind) (n:Int):Int:=Dh .xor k (if k.signed then -1 else k.max) n
def X.den (s:ut):X->Int
 | .lit n=>n
 | .var k i=>k.norm (s i)
 | .bin op k a b=>uA op k (a.den s) (b.den s)
 | .conv k a=>k.wrap (a.den s)
 | .com k a=>QM k (a.den s)
 | .not a=>ui (!(a.den s != 0))
 | .and a b=>ui (a.den s != 0&&b.den s != 0)
 | .beq a b=>ui ((a.den s != 0)==(b.den s != 0))
 | .min a b=>if b.den s<a.den s then b.den s else a.den s
 | .max a b=>if b.den s>a.den s then b.den s else a.den s
 | .ite c a b=>if c.den s=0 then b.den s else a.den s
 | .dlen a=>Int.ofNat (uH (a.den s).toNat)
theorem xe (b:Bool):(ui b != 0)=b:=by cases b<;>rfl
def xq {β:Sort _} (n:Nat) (k:Nat->β):β:=match n with|0=>k 0|m+1=>k (Nat.succ m)
theorem wQ {β:Sort _} (n:Nat) (k:Nat->β):xq n k=k n:=by cases n<;>rfl
def Kr {β:Sort _} (n:Int) (k:Int->β):β:=match n with | .ofNat m=>xq m λm=>k (.ofNat m) | .negSucc m=>xq m λm=>k (.negSucc m)
theorem Kt {β:Sort _} (n:Int) (k:Int->β):Kr n k=k n:=by cases n<;>simp[Kr,wQ]
def GV {α:Type} {β:Sort _} : List α->(List α->β)->β
 | [],k=>k []
 | a::l,k=>GV l λl'=>k (a::l')
theorem Ku {α:Type} {β:Sort _} : ∀ (l:List α) (k:List α->β),GV l k=k l
 | [],k=>rfl
 | a::l,k=>by rw[GV,Ku l]
def xI {β:Sort _} (x:X) (k:X->β):β:=match x with
 | .lit n=>k (.lit n)
 | .var a b=>k (.var a b)
 | .bin o q a b=>k (.bin o q a b)
 | .conv q a=>k (.conv q a)
 | .com q a=>k (.com q a)
 | .not a=>k (.not a)
 | .and a b=>k (.and a b)
 | .beq a b=>k (.beq a b)
 | .min a b=>k (.min a b)
 | .max a b=>k (.max a b)
 | .ite c a b=>k (.ite c a b)
 | .dlen a=>k (.dlen a)
theorem amH {β:Sort _} (x:X) (k:X->β):xI x k=k x:=by cases x<;>rfl
def zo:IntKind->Nat
 | .i8 | .u8=>256
 | .i16 | .u16=>65536
 | .i32 | .u32=>4294967296
 | .i64 | .u64=>18446744073709551616
def GX:IntKind->Nat
 | .i8 | .u8=>128
 | .i16 | .u16=>32768
 | .i32 | .u32=>2147483648
 | .i64 | .u64=>9223372036854775808
theorem XJ (k:IntKind):(zo k:Int)=2^k.bits:=by cases k<;>decide
theorem amI (k:IntKind):zo k=2^k.bits:=by cases k<;>decide
theorem amJ (k:IntKind):(GX k:Int)=2^(k.bits-1):=by cases k<;>decide
theorem adS (k:IntKind):0<zo k:=by cases k<;>decide
def wm (k:IntKind) (n:Int):Nat:=match n with
 | .ofNat m=>m%zo k
 | .negSucc m=>zo k-1-m%zo k
theorem XK (k:IntKind) (n:Int):(wm k n:Int)=n%2^k.bits:=by
 rw[<- XJ];have:=adS k
 cases n with
 | ofNat m=>simp[wm]
 | negSucc m =>
  have h:=Nat.mod_lt m this;simp only[wm];rw[Int.negSucc_emod _ (by omega)];have h2:((m:Int)%(zo k:Int))=((m%zo k:Nat):Int):=by simp
  omega
theorem IP (k:IntKind) (n:Int):(BitVec.ofInt k.bits n).toNat=wm k n:=by
 rw[BitVec.toNat_ofInt];have:=XK k n;have h2:((2^k.bits:Nat):Int)=2^k.bits:=by simp
 rw[h2,<- this];simp
def adT (k:IntKind) (r:Nat):Int:=match k.signed with
 | true=>match Nat.ble (GX k) r with|true=>Int.subNatNat r (zo k)|false=>.ofNat r
 | false=>.ofNat r
def xJ (k:IntKind) (n:Int):Int:=adT k (wm k n)
theorem wP (k:IntKind) (n:Int):xJ k n=k.wrap n:=by
 unfold xJ adT IntKind.wrap;have h:=XK k n;rw[<- XJ,<- amJ] at *
 rw[<- h]
 cases hs:k.signed with
 | false=>simp
 | true =>
  simp only[Bool.true_and]
  cases hb:Nat.ble (GX k) (wm k n) with
  | true =>
   have:GX k<=wm k n:=Nat.le_of_ble_eq_true hb;rw[if_pos (by simp;omega),Int.subNatNat_eq_coe]
  | false =>
   have:¬ GX k<=wm k n:=λe=>by rw[Nat.ble_eq_true_of_le e] at hb;cases hb
   rw[if_neg (by simp;omega)];rfl
def MR (n:Nat) (k:IntKind):Nat:=match Nat.ble n k.bits with|true=>n|false=>k.bits
theorem XL (n:Nat) (k:IntKind):MR n k=min n k.bits:=by
 unfold MR
 cases h:Nat.ble n k.bits with
 | true=>have:=Nat.le_of_ble_eq_true h;simp;omega
 | false =>
  have:¬ n<=k.bits:=λe=>by rw[Nat.ble_eq_true_of_le e] at h;cases h
  simp;omega
def xV:Int->Int->Bool
 | .ofNat m,.ofNat n=>Nat.beq m n
 | .negSucc m,.negSucc n=>Nat.beq m n
 | _,_=>false
def zq:Int->Int->Bool
 | .ofNat m,.ofNat n=>Nat.blt m n
 | .negSucc m,.negSucc n=>Nat.blt n m
 | .negSucc _,.ofNat _=>true
 | .ofNat _,.negSucc _=>false
theorem Kv (a b:Int):xV a b=(a==b):=by
 cases a with
 | ofNat m=>cases b with
  | ofNat n =>
   simp only[xV];rw[Bool.eq_iff_iff,Nat.beq_eq,beq_iff_eq];exact⟨λh=>by rw[h],λh=>Int.ofNat.inj h⟩
  | negSucc n=>simp only[xV];rw[eq_comm,beq_eq_false_iff_ne];intro h;cases h
 | negSucc m=>cases b with
  | ofNat n=>simp only[xV];rw[eq_comm,beq_eq_false_iff_ne];intro h;cases h
  | negSucc n =>
   simp only[xV];rw[Bool.eq_iff_iff,Nat.beq_eq,beq_iff_eq];omega
theorem Cs (a b:Int):zq a b=decide (a<b):=by cases a<;>cases b<;>simp only[zq]<;>rw[Bool.eq_iff_iff]<;>simp[Nat.blt_eq]<;>omega
def DX (b:Bool):Bool:=match b with|true=>false|false=>true
theorem Cu (b:Bool):DX b = !b:=by cases b<;>rfl
def fold (op:BinOp) (k:IntKind) (a b:Int):Int:=match op with
 | .shl=>match a,b with
  | .ofNat m,.ofNat n=>xJ k (.ofNat (Nat.shiftLeft m (MR n k)))
  | a,b=>uA .shl k a b
 | .shr=>match a,b with
  | .ofNat m,.ofNat n=>.ofNat (Nat.shiftRight m (MR n k))
  | a,b=>uA .shr k a b
 | .add=>xJ k (Int.add a b)
 | .sub=>xJ k (Int.sub a b)
 | .mul=>xJ k (Int.mul a b)
 | .quo=>xJ k (Int.tdiv a b)
 | .rem=>Int.tmod a b
 | .and=>xJ k (.ofNat (Nat.land (wm k a) (wm k b)))
 | .or=>xJ k (.ofNat (Nat.lor (wm k a) (wm k b)))
 | .xor=>xJ k (.ofNat (Nat.xor (wm k a) (wm k b)))
 | .andNot=>xJ k (.ofNat (Nat.land (wm k a) (zo k-1-wm k b)))
 | .eql=>ui (xV a b)
 | .neq=>ui (DX (xV a b))
 | .lss=>ui (zq a b)
 | .leq=>ui (DX (zq b a))
 | .gtr=>ui (zq b a)
 | .geq=>ui (DX (zq a b))
theorem GY (op:BinOp) (k:IntKind) (a b:Int):fold op k a b=uA op k a b:=by
 cases op
 case shl =>
  simp only[fold];split
  ·rename_i m n;rw[wP,XL];show k.wrap (Int.ofNat (m <<< _))=k.wrap (Int.ofNat m*2^min n k.bits);rw[Nat.shiftLeft_eq];congr 1
  ·rfl
 case shr =>
  simp only[fold];split
  ·rename_i m n;rw[XL];show Int.ofNat (m >>> _)=(Int.ofNat m).fdiv (2^min n k.bits);rw[Nat.shiftRight_eq_div_pow,Int.fdiv_eq_ediv_of_nonneg _ (Int.pow_nonneg (by decide))];simp
  ·rfl
 case add=>exact wP _ _
 case sub=>exact wP _ _
 case mul=>exact wP _ _
 case quo=>exact wP _ _
 case rem=>rfl
 case and=>simp only[fold,uA,Dh];rw[wP,BitVec.toNat_and,IP,IP];rfl
 case or=>simp only[fold,uA,Dh];rw[wP,BitVec.toNat_or,IP,IP];rfl
 case xor=>simp only[fold,uA,Dh];rw[wP,BitVec.toNat_xor,IP,IP];rfl
 case andNot=>simp only[fold,uA,Dh];rw[wP,BitVec.toNat_and,BitVec.toNat_not,IP,IP,<- amI];rfl
 case eql=>simp only[fold,uA,Kv]
 case neq=>simp only[fold,uA,Kv,Cu,bne]
 case lss=>simp only[fold,uA,Cs]
 case leq=>simp only[fold,uA,Cs,Cu];congr 1;rw[Bool.eq_iff_iff];simp
 case gtr=>simp only[fold,uA,Cs,gt_iff_lt]
 case geq=>simp only[fold,uA,Cs,Cu];congr 1;rw[Bool.eq_iff_iff];simp
def XM:IntKind->IntKind->Bool
 | .u8,.u8=>true | .u8,.u16=>true | .u8,.u32=>true | .u8,.u64=>true | .u8,.i16=>true | .u8,.i32=>true | .u8,.i64=>true
 | .u16,.u16=>true | .u16,.u32=>true | .u16,.u64=>true | .u16,.i32=>true | .u16,.i64=>true
 | .u32,.u32=>true | .u32,.u64=>true | .u32,.i64=>true
 | .u64,.u64=>true
 | .i8,.i8=>true | .i8,.i16=>true | .i8,.i32=>true | .i8,.i64=>true
 | .i16,.i16=>true | .i16,.i32=>true | .i16,.i64=>true
 | .i32,.i32=>true | .i32,.i64=>true
 | .i64,.i64=>true
 | _,_=>false
theorem adU {a b:IntKind} (h:XM a b=true) (n:Int):b.wrap (a.wrap n)=a.wrap n:=by unfold IntKind.wrap IntKind.bits IntKind.signed;cases a<;>cases b<;>first|(cases h;done)|(simp<;>(try split)<;>(try split)<;>omega)
def xu (op:BinOp) (k:IntKind) (a b:X):X:=match a,b with
 | .lit x,.lit y=>Kr (fold op k x y) .lit
 | a,b=>.bin op k a b
theorem IQ (s:ut) (op:BinOp) (k:IntKind) (a b:X):(xu op k a b).den s=uA op k (a.den s) (b.den s):=by
 unfold xu;split
 ·rw[Kt,X.den,GY];rfl
 ·rfl
def XN (k:IntKind) (a:X):X:=match a with
 | .lit x=>Kr (xJ k x) .lit
 | .var (.int k') i=>match XM k' k with|true=>.var (.int k') i|false=>.conv k (.var (.int k') i)
 | a=>.conv k a
theorem amK (s:ut) (k:IntKind) (a:X):(XN k a).den s=k.wrap (a.den s):=by
 unfold XN;split
 ·rw[Kt,X.den,wP];rfl
 ·split
  ·rename_i h;exact(adU h _).symm
  ·rfl
 ·rfl
def TN (k:IntKind) (a:X):X:=match a with
 | .lit x=>Kr (fold .xor k (match k.signed with|true => -1|false=>.ofNat (zo k-1)) x) .lit
 | a=>.com k a
theorem adV (s:ut) (k:IntKind) (a:X):(TN k a).den s=QM k (a.den s):=by
 unfold TN;split
 ·rw[Kt,X.den,GY];unfold QM uA IntKind.max
  cases hs:k.signed with
  | true=>simp[X.den]
  | false =>
   simp only[Bool.false_eq_true,if_false,X.den];have h1:=XJ k;have h2:=adS k;congr 1;rw[<- h1];simp;omega
 ·rfl
def uk (n:Int):Bool:=match n with | .ofNat 0=>false|_=>true
theorem xW (n:Int):uk n=(n != 0):=by
 unfold uk;split
 ·rfl
 ·rename_i h;rw[eq_comm,bne_iff_ne];intro e;exact h (by rw[e];rfl)
def mkNot (a:X):X:=match a with
 | .lit x=>.lit (ui (DX (uk x)))
 | a=>.not a
theorem XO (s:ut) (a:X):(mkNot a).den s=ui (!(a.den s != 0)):=by
 unfold mkNot;split
 ·rw[X.den,Cu,xW];rfl
 ·rfl
def mkAnd (a b:X):X:=match a with
 | .lit x=>match uk x with
  | true=>match b with
   | .lit y=>.lit (ui (uk y))
   | b=>.and a b
  | false=>.lit 0
 | a=>.and a b
theorem amL (s:ut) (a b:X):(mkAnd a b).den s=ui (a.den s != 0&&b.den s != 0):=by
 unfold mkAnd;split
 ·rename_i x;split
  ·rename_i hx;rw[xW] at hx;split
   ·rw[X.den,X.den,X.den,hx,xW];rfl
   ·rfl
  ·rename_i hx;rw[xW] at hx;simp only[X.den];rw[hx];rfl
 ·rfl
def TP (a b:X):X:=match a,b with
 | .lit x,.lit y=>.lit (ui (match uk x with|true=>uk y|false=>DX (uk y)))
 | a,b=>.beq a b
theorem adW (s:ut) (a b:X):(TP a b).den s=ui ((a.den s != 0)==(b.den s != 0)):=by
 unfold TP;split
 ·rename_i x y;simp only[X.den,xW,Cu];cases hx:(x != 0)<;>cases hy:(y != 0)<;>rfl
 ·rfl
def XP (a b:X):X:=match a,b with
 | .lit x,.lit y=>match zq y x with|true=>.lit y|false=>.lit x
 | a,b=>.min a b
theorem amM (s:ut) (a b:X):(XP a b).den s=if b.den s<a.den s then b.den s else a.den s:=by
 unfold XP;split
 ·rename_i x y;show _=if y<x then y else x;rw[Cs];by_cases h:y<x
  ·rw[if_pos h,decide_eq_true h];rfl
  ·rw[if_neg h,decide_eq_false h];rfl
 ·rfl
def TQ (a b:X):X:=match a,b with
 | .lit x,.lit y=>match zq x y with|true=>.lit y|false=>.lit x
 | a,b=>.max a b
theorem adX (s:ut) (a b:X):(TQ a b).den s=if b.den s>a.den s then b.den s else a.den s:=by
 unfold TQ;split
 ·rename_i x y;show _=if x<y then y else x;rw[Cs];by_cases h:x<y
  ·rw[if_pos h,decide_eq_true h];rfl
  ·rw[if_neg h,decide_eq_false h];rfl
 ·rfl
def Kw (c a b:X):X:=match c with
 | .lit n=>match uk n with|true=>a|false=>b
 | c=>match a,b with
  | .lit x,.lit y=>match xV x y with|true=>.lit x|false=>.ite c (.lit x) (.lit y)
  | a,b=>.ite c a b
theorem QN (s:ut) (c a b:X):(Kw c a b).den s=if c.den s=0 then b.den s else a.den s:=by
 unfold Kw;split
 ·rename_i n;show _=if n=0 then b.den s else a.den s;split
  ·rename_i h;rw[xW,bne_iff_ne] at h;rw[if_neg h]
  ·rename_i h;rw[xW,bne_eq_false_iff_eq] at h;rw[if_pos h]
 ·split
  ·rename_i x y;split
   ·rename_i h;rw[Kv,beq_iff_eq] at h;subst h;show x=if _ then x else x;split<;>rfl
   ·rfl
  ·rfl
def XQ (k:IntKind) (n:Int):Bool:=xV (xJ k n) n
def yO:IntKind->IntKind->Bool
 | .i8,.i8=>true | .i16,.i16=>true | .i32,.i32=>true | .i64,.i64=>true
 | .u8,.u8=>true | .u16,.u16=>true | .u32,.u32=>true | .u64,.u64=>true
 | _,_=>false
theorem Az {a b:IntKind} (h:yO a b=true):a=b:=by cases a<;>cases b<;>first|rfl|cases h
def X.inK (k:IntKind):X->Bool
 | .lit n=>XQ k n
 | .var (.int k') _=>XM k' k
 | .var .bit _=>yO k .u64
 | .bin op k' a b=>match op with
  | .add | .sub | .mul | .quo | .shl | .and | .or | .xor | .andNot=>yO k k'
  | .shr=>X.inK k a
  | .rem=>X.inK k a
  | _=>false
 | .conv k' _=>yO k k'
 | .com k' _=>yO k k'
 | .min a b=>match X.inK k a with|true=>X.inK k b|false=>false
 | .max a b=>match X.inK k a with|true=>X.inK k b|false=>false
 | .ite _ a b=>match X.inK k a with|true=>X.inK k b|false=>false
 | _=>false
theorem wrap_wrap (k:IntKind) (n:Int):k.wrap (k.wrap n)=k.wrap n:=by unfold IntKind.wrap IntKind.bits IntKind.signed;cases k<;>simp<;>(try split)<;>(try split)<;>omega
theorem amN (k:IntKind) (n:Int) (m:Nat) (h:k.wrap n=n):k.wrap (n.fdiv (2^m))=n.fdiv (2^m):=by
 rw[Int.fdiv_eq_ediv_of_nonneg _ (Int.pow_nonneg (by decide))];have hp:(0:Int)<2^m:=Int.pow_pos (by decide);generalize (2:Int)^m=p at hp;have h1:0<=n->0<=n/p/\n/p<=n:=λhn=>⟨Int.ediv_nonneg hn (by omega),Int.ediv_le_self _ hn⟩
 have h2:n<0->n<=n/p/\n/p<0:=λhn=>⟨by
  have h3:=Int.mul_ediv_add_emod n p;have h4:=Int.emod_nonneg n (show p≠0 by omega);have h5:=Int.emod_lt_of_pos n hp;have:n/p<0:=Int.ediv_neg_of_neg_of_pos hn hp;have:p*(n/p)<=1*(n/p):=Int.mul_le_mul_of_nonpos_right (by omega) (by omega);apply Int.le_of_lt_add_one;have h6:n<p*(n/p)+p:=by omega
  have h7:p*(n/p)+p<=(n/p)+1:=by have:p*(n/p+1)<=1*(n/p+1):=Int.mul_le_mul_of_nonpos_right (by omega) (by omega);rw[Int.mul_add,Int.mul_one] at this;omega
  omega,Int.ediv_neg_of_neg_of_pos hn hp⟩
 unfold IntKind.wrap IntKind.bits IntKind.signed at *
 cases k<;>simp at h ⊢ <;> (rcases Int.lt_or_le n 0 with hn|hn)<;>first
  | (have:=h2 hn;split at h<;>(try split)<;>omega)
  | (have:=h1 hn;split at h<;>(try split)<;>omega)
  | (have:=h2 hn;omega)
  | (have:=h1 hn;omega)
theorem amO (k:IntKind) (n m:Int) (h:k.wrap n=n):k.wrap (n.tmod m)=n.tmod m:=by
 have h1:0<=n->0<=n.tmod m/\n.tmod m<=n:=λhn=>by
  obtain⟨a,rfl⟩:=Int.eq_ofNat_of_zero_le hn
  have:(a:Int).tmod m=((a%m.natAbs:Nat):Int):=by
   rcases Int.natAbs_eq m with e|e
   ·rw[e];simp only[Int.natAbs_natCast];rfl
   ·rw[e];simp only[Int.natAbs_neg,Int.natAbs_natCast,Int.tmod_neg];rfl
  rw[this];have:=Nat.mod_le a m.natAbs;omega
 have h2:n<0->n<=n.tmod m/\n.tmod m<=0:=λhn=>by
  obtain⟨a,ha⟩:=Int.eq_ofNat_of_zero_le (show 0 <= -n by omega);have hn2:n = -(a:Int):=by omega
  rw[hn2,Int.neg_tmod]
  have:(a:Int).tmod m=((a%m.natAbs:Nat):Int):=by
   rcases Int.natAbs_eq m with e|e
   ·rw[e];simp only[Int.natAbs_natCast];rfl
   ·rw[e];simp only[Int.natAbs_neg,Int.natAbs_natCast,Int.tmod_neg];rfl
  rw[this];have:=Nat.mod_le a m.natAbs;omega
 generalize n.tmod m=r at *
 unfold IntKind.wrap IntKind.bits IntKind.signed at *
 cases k<;>simp at h ⊢ <;> (rcases Int.lt_or_le n 0 with hn|hn)<;>first
  | (have:=h2 hn;split at h<;>(try split)<;>omega)
  | (have:=h1 hn;split at h<;>(try split)<;>omega)
  | (have:=h2 hn;omega)
  | (have:=h1 hn;omega)
theorem X.inK_ok {k:IntKind} (s:ut):∀ {x:X},x.inK k=true->k.wrap (x.den s)=x.den s
 | .lit n,h=>by have h':XQ k n=true:=h;unfold XQ at h';rw[Kv,wP,beq_iff_eq] at h';exact h'
 | .var (.int k') i,h=>adU h _
 | .var .bool i,h=>by cases h
 | .var .nat i,h=>by cases h
 | .dlen a,h=>by cases h
 | .var .bit i,h=>by have:=Az (show yO k .u64=true from h);subst this;simp only[X.den,VK.norm];cases (s i != 0)<;>rfl
 | .bin op k' a b,h=>by
  cases op<;>simp only[X.inK] at h<;>first
   | cases h
   | (have:=Az h;subst this;simp only[X.den,uA,Dh];exact wrap_wrap _ _)
   | (simp only[X.den,uA];exact amN _ _ _ (X.inK_ok s h))
   | (simp only[X.den,uA];exact amO _ _ _ (X.inK_ok s h))
 | .conv k' a,h=>by have:=Az h;subst this;exact wrap_wrap _ _
 | .com k' a,h=>by have:=Az h;subst this;exact wrap_wrap _ _
 | .not a,h=>by cases h
 | .and a b,h=>by cases h
 | .beq a b,h=>by cases h
 | .min a b,h=>by
  simp only[X.inK] at h;split at h
  ·rename_i h1;simp only[X.den];split
   ·exact X.inK_ok s h
   ·exact X.inK_ok s h1
  ·cases h
 | .max a b,h=>by
  simp only[X.inK] at h;split at h
  ·rename_i h1;simp only[X.den];split
   ·exact X.inK_ok s h
   ·exact X.inK_ok s h1
  ·cases h
 | .ite c a b,h=>by
  simp only[X.inK] at h;split at h
  ·rename_i h1;simp only[X.den];split
   ·exact X.inK_ok s h
   ·exact X.inK_ok s h1
  ·cases h
def X.isBit:X->Bool
 | .lit n=>match xV n (.ofNat 0) with|true=>true|false=>xV n (.ofNat 1)
 | .var .bit _=>true
 | .ite _ a b=>match X.isBit a with|true=>X.isBit b|false=>false
 | _=>false
theorem X.isBit_ok (s:ut):∀ {x:X},x.isBit=true->x.den s=ui (x.den s != 0)
 | .lit n,h=>by
  simp only[X.isBit,Kv] at h;split at h
  ·rename_i h1;rw[beq_iff_eq] at h1;subst h1;rfl
  ·rw[beq_iff_eq] at h;subst h;rfl
 | .var .bit i,_=>by simp only[X.den,VK.norm];cases (s i != 0)<;>rfl
 | .var (.int _) i,h=>by simp[X.isBit] at h
 | .var .bool i,h=>by simp[X.isBit] at h
 | .var .nat i,h=>by simp[X.isBit] at h
 | .dlen a,h=>by simp[X.isBit] at h
 | .ite c a b,h=>by
  simp only[X.isBit] at h;split at h
  ·rename_i h1;simp only[X.den];split
   ·exact X.isBit_ok s h
   ·exact X.isBit_ok s h1
  ·cases h
 | .bin _ _ _ _,h=>by simp[X.isBit] at h
 | .conv _ _,h=>by simp[X.isBit] at h
 | .com _ _,h=>by simp[X.isBit] at h
 | .not _,h=>by simp[X.isBit] at h
 | .and _ _,h=>by simp[X.isBit] at h
 | .beq _ _,h=>by simp[X.isBit] at h
 | .min _ _,h=>by simp[X.isBit] at h
 | .max _ _,h=>by simp[X.isBit] at h
inductive tL (α:Type) where
 | leaf (a:α)
 | ite (c:X) (a b:tL α)
 | call (f:Nat) (args:List X) (base n:Nat) (t:tL α)
 | stuck (why:String)
abbrev wH:=Nat->List Int->List Int
def yH (s:ut) (base:Nat):Nat->List Int
 | 0=>[]
 | n+1=>s base::yH s (base+1) n
theorem GZ (s:ut):∀ (n b:Nat),(yH s b n).length=n
 | 0,_=>rfl
 | n+1,b=>by rw[yH,List.length_cons,GZ s n]
def Ky (Φ:wH) (s:ut) (f:Nat) (args:List X) (base n:Nat):Prop:=yH s base n=Φ f (args.map (X.den s))
instance (Φ:wH) (s:ut) (f:Nat) (args:List X) (base n:Nat):Decidable (Ky Φ s f args base n):=inferInstanceAs (Decidable (_=_))
def tL.path {α:Type} (Φ:wH) (s:ut):tL α->Option α
 | .leaf a=>some a
 | .ite c a b=>if c.den s=0 then b.path Φ s else a.path Φ s
 | .call f args base n t=>if Ky Φ s f args base n then t.path Φ s else none
 | .stuck _=>none
def tL.bind {α β:Type} : tL α->(α->tL β)->tL β
 | .leaf a,f=>f a
 | .ite c a b,f=>.ite c (a.bind f) (b.bind f)
 | .call g args base n t,f=>.call g args base n (t.bind f)
 | .stuck w,_=>.stuck w
theorem tL.path_bind {α β:Type} (Φ:wH) (s:ut) (f:α->tL β):∀ t:tL α,(t.bind f).path Φ s=(t.path Φ s).bind λa=>(f a).path Φ s
 | .leaf a=>rfl
 | .ite c a b=>by
  simp only[tL.bind,tL.path];split
  ·exact tL.path_bind Φ s f b
  ·exact tL.path_bind Φ s f a
 | .call g args base n t=>by
  simp only[tL.bind,tL.path];split
  ·exact tL.path_bind Φ s f t
  ·rfl
 | .stuck w=>rfl
theorem tL.path_bind_some {α β:Type} {Φ:wH} {s:ut} {f:α->tL β} {t:tL α} {b:β} (h:(t.bind f).path Φ s=some b):∃ a,t.path Φ s=some a/\(f a).path Φ s=some b:=by
 rw[tL.path_bind] at h
 cases ht:t.path Φ s with
 | none=>rw[ht] at h;cases h
 | some a=>rw[ht] at h;exact⟨a,rfl,h⟩
def MS {α:Type} (c:X) (a b:tL α):tL α:=match c with
 | .lit n=>match uk n with|true=>a|false=>b
 | c=>.ite c a b
theorem XR {α:Type} (Φ:wH) (s:ut) (c:X) (a b:tL α):(MS c a b).path Φ s=if c.den s=0 then b.path Φ s else a.path Φ s:=by
 unfold MS;split
 ·rename_i n;show _=if n=0 then b.path Φ s else a.path Φ s;split
  ·rename_i h;rw[xW,bne_iff_ne] at h;rw[if_neg h]
  ·rename_i h;rw[xW,bne_eq_false_iff_eq] at h;rw[if_pos h]
 ·rfl
theorem vH {a b:Nat} : Nat.beq a b=true↔a=b:=by rw[Nat.beq_eq]
def XT:VK->VK->Bool
 | .int k,.int k'=>yO k k'
 | .bool,.bool=>true
 | .bit,.bit=>true
 | .nat,.nat=>true
 | _,_=>false
def QO:BinOp->Nat
 | .add=>0 | .sub=>1 | .mul=>2 | .quo=>3 | .rem=>4 | .and=>5 | .or=>6 | .xor=>7 | .shl=>8 | .shr=>9 | .andNot=>10
 | .eql=>11 | .neq=>12 | .lss=>13 | .leq=>14 | .gtr=>15 | .geq=>16
def vT (a:Bool) (b:Bool):Bool:=match a with|true=>b|false=>false
def yP:X->X->Bool
 | .lit m,.lit n=>xV m n
 | .var k i,.var k' j=>vT (Nat.beq i j) (XT k k')
 | .bin o k a b,.bin o' k' a' b'=>vT (Nat.beq (QO o) (QO o')) (vT (yO k k') (vT (yP a a') (yP b b')))
 | .conv k a,.conv k' a'=>vT (yO k k') (yP a a')
 | .com k a,.com k' a'=>vT (yO k k') (yP a a')
 | .not a,.not a'=>yP a a'
 | .and a b,.and a' b'=>vT (yP a a') (yP b b')
 | .beq a b,.beq a' b'=>vT (yP a a') (yP b b')
 | .min a b,.min a' b'=>vT (yP a a') (yP b b')
 | .max a b,.max a' b'=>vT (yP a a') (yP b b')
 | .ite c a b,.ite c' a' b'=>vT (yP c c') (vT (yP a a') (yP b b'))
 | .dlen a,.dlen a'=>yP a a'
 | _,_=>false
abbrev Facts:=List (X×Bool)
def IR:Facts->X->Option Bool
 | [],_=>none
 | x::l,c=>match yP x.1 c with|true=>some x.2|false=>IR l c
def MU (fc:Facts) (c:X) (b:Bool):Facts:=match c with
 | .not a=>(a,DX b)::fc
 | c=>(c,b)::fc
def vO (s:ut) (fc:Facts):Prop:=∀ x∈fc,(x.1.den s != 0)=x.2
theorem amP {a b:VK} (h:XT a b=true):a=b:=by cases a<;>cases b<;>first|rfl|(simp only[XT] at h;rw[Az h])|cases h
theorem amQ {a b:BinOp} (h:QO a=QO b):a=b:=by cases a<;>cases b<;>first|rfl|(simp[QO] at h)
theorem vw {a b:Bool} (h:vT a b=true):a=true/\b=true:=by
 cases a with
 | true=>exact⟨rfl,h⟩
 | false=>cases h
theorem zQ:∀ {a b:X},yP a b=true->a=b
 | .lit m,.lit n,h=>by simp only[yP,Kv,beq_iff_eq] at h;rw[h]
 | .var k i,.var k' j,h=>by have h:=vw h;rw[vH.1 h.1,amP h.2]
 | .bin o k a b,.bin o' k' a' b',h=>by have h:=vw h;have h2:=vw h.2;have h3:=vw h2.2;rw[amQ (vH.1 h.1),Az h2.1,zQ h3.1,zQ h3.2]
 | .conv k a,.conv k' a',h=>by have h:=vw h;rw[Az h.1,zQ h.2]
 | .com k a,.com k' a',h=>by have h:=vw h;rw[Az h.1,zQ h.2]
 | .not a,.not a',h=>by rw[zQ (a:=a) (b:=a') h]
 | .and a b,.and a' b',h=>by have h:=vw h;rw[zQ h.1,zQ h.2]
 | .beq a b,.beq a' b',h=>by have h:=vw h;rw[zQ h.1,zQ h.2]
 | .min a b,.min a' b',h=>by have h:=vw h;rw[zQ h.1,zQ h.2]
 | .max a b,.max a' b',h=>by have h:=vw h;rw[zQ h.1,zQ h.2]
 | .ite c a b,.ite c' a' b',h=>by have h:=vw h;have h2:=vw h.2;rw[zQ h.1,zQ h2.1,zQ h2.2]
 | .dlen a,.dlen a',h=>by rw[zQ (a:=a) (b:=a') h]
theorem DY {s:ut} : ∀ {fc:Facts} {c:X} {b:Bool},vO s fc->IR fc c=some b->(c.den s != 0)=b
 | [],c,b,_,h=>by cases h
 | x::l,c,b,hf,h=>by
  simp only[IR] at h;split at h
  ·rename_i he;cases h;rw[<- zQ he];exact hf x List.mem_cons_self
  ·exact DY (λy hy=>hf y (List.mem_cons_of_mem _ hy)) h
theorem XU {s:ut} {fc:Facts} {c:X} {b:Bool} (hf:vO s fc) (h:(c.den s != 0)=b):vO s (MU fc c b):=by
 unfold MU;split
 ·rename_i a;rw[X.den,xe] at h;intro x hx;rcases List.mem_cons.1 hx with rfl|hx
  ·simp only[Cu,<- h,Bool.not_not]
  ·exact hf x hx
 ·intro x hx;rcases List.mem_cons.1 hx with rfl|hx
  ·exact h
  ·exact hf x hx
abbrev A7:=Int×Int
def A8:IntKind->Int
 | .i8 => -128 | .i16 => -32768 | .i32 => -2147483648 | .i64 => -9223372036854775808|_=>0
def A9:IntKind->Int
 | .i8=>127 | .i16=>32767 | .i32=>2147483647 | .i64=>9223372036854775807
 | .u8=>255 | .u16=>65535 | .u32=>4294967295 | .u64=>18446744073709551615
theorem EK (k:IntKind) (n:Int):A8 k<=k.wrap n/\k.wrap n<=A9 k:=by unfold IntKind.wrap IntKind.bits IntKind.signed A8 A9;cases k<;>simp<;>(try split)<;>(constructor<;>omega)
def DZ (a b:Int):Bool:=DX (zq b a)
theorem MV {a b:Int} (h:DZ a b=true):a<=b:=by unfold DZ at h;rw[Cu,Cs] at h;simpa using h
theorem XV {a b:Int} (h:zq a b=true):a<b:=by rw[Cs] at h;simpa using h
theorem MW {a b:Int} (h:xV a b=true):a=b:=by rw[Kv] at h;simpa using h
def Ea (a b:Int):Int:=match DZ a b with|true=>a|false=>b
def Eb (a b:Int):Int:=match DZ a b with|true=>b|false=>a
theorem XW {a b n:Int} (h1:n<=a) (h2:n<=b):n<=Ea a b:=by unfold Ea;split<;>assumption
theorem XX {a b n:Int} (h1:a<=n) (h2:b<=n):Eb a b<=n:=by unfold Eb;split<;>assumption
theorem adY (a b:Int):Ea a b<=a/\Ea a b<=b:=by
 unfold Ea;split
 ·rename_i h;exact⟨Int.le_refl _,MV h⟩
 ·rename_i h;unfold DZ at h;rw[Cu,Cs] at h;simp at h;omega
theorem adZ (a b:Int):a<=Eb a b/\b<=Eb a b:=by
 unfold Eb;split
 ·rename_i h;exact⟨MV h,Int.le_refl _⟩
 ·rename_i h;unfold DZ at h;rw[Cu,Cs] at h;simp at h;omega
def zR (r:A7) (n:Int):Prop:=r.1<=n/\n<=r.2
def QP (k:IntKind) (lo hi:Int):A7:=match vT (DZ (A8 k) lo) (DZ hi (A9 k)) with|true=>(lo,hi)|false=>(A8 k,A9 k)
theorem TR {k:IntKind} {n:Int} (h1:A8 k<=n) (h2:n<=A9 k):k.wrap n=n:=by
 unfold IntKind.wrap IntKind.bits IntKind.signed A8 A9 at *
 cases k<;>simp at h1 h2 ⊢ <;> (try split)<;>omega
theorem XY {k:IntKind} {lo hi n:Int} (h:zR (lo,hi) n):zR (QP k lo hi) (k.wrap n):=by
 unfold QP;split
 ·rename_i he;have he:=vw he;have h1:=MV he.1;have h2:=MV he.2;rw[TR (Int.le_trans h1 h.1) (Int.le_trans h.2 h2)];exact h
 ·exact EK k n
def XZ (op:BinOp) (c:Int) (b:Bool) (r:A7):A7:=match op,b with
 | .lss,true=>(r.1,Ea r.2 (c-1))
 | .lss,false=>(Eb r.1 c,r.2)
 | .leq,true=>(r.1,Ea r.2 c)
 | .leq,false=>(Eb r.1 (c+1),r.2)
 | .gtr,true=>(Eb r.1 (c+1),r.2)
 | .gtr,false=>(r.1,Ea r.2 c)
 | .geq,true=>(Eb r.1 c,r.2)
 | .geq,false=>(r.1,Ea r.2 (c-1))
 | .eql,true=>(c,c)
 | .neq,false=>(c,c)
 | .eql,false=>(match xV r.1 c with|true=>c+1|false=>r.1,match xV r.2 c with|true=>c-1|false=>r.2)
 | .neq,true=>(match xV r.1 c with|true=>c+1|false=>r.1,match xV r.2 c with|true=>c-1|false=>r.2)
 | _,_=>r
theorem amR {op:BinOp} {k:IntKind} {c n:Int} {b:Bool} {r:A7} (h:zR r n) (hf:(uA op k n c != 0)=b):zR (XZ op c b r) n:=by
 have ne:n≠c->zR (match xV r.1 c with|true=>c+1|false=>r.1,match xV r.2 c with|true=>c-1|false=>r.2) n:=λhn=>by
  obtain⟨h1,h2⟩:=h;constructor
  ·simp only;split
   ·rename_i he;have:=MW he;omega
   ·exact h1
  ·simp only;split
   ·rename_i he;have:=MW he;omega
   ·exact h2
 cases op<;>simp only[uA,xe] at hf<;>cases b<;>simp only[XZ]<;>first
  | exact h
  | (simp at hf;exact ne hf)
  | (simp at hf;subst hf;exact⟨Int.le_refl _,Int.le_refl _⟩)
  | (simp at hf;exact⟨h.1,XW h.2 (by omega)⟩)
  | (simp at hf;exact⟨XX h.1 (by omega),h.2⟩)
def X0 (x:X) (f:X×Bool) (r:A7):A7:=match f.1 with
 | .bin op _ a (.lit c)=>match yP a x with|true=>XZ op c f.2 r|false=>r
 | _=>r
def MZ (x:X):Facts->A7->A7
 | [],r=>r
 | f::fc,r=>X0 x f (MZ x fc r)
theorem X3 {s:ut} {x:X} : ∀ {fc:Facts} {r:A7},vO s fc->zR r (x.den s)->zR (MZ x fc r) (x.den s)
 | [],r,_,h=>h
 | f::fc,r,hf,h=>by
  have ih:zR (MZ x fc r) (x.den s):=X3 (λy hy=>hf y (List.mem_cons_of_mem _ hy)) h;show zR (X0 x f (MZ x fc r)) _;unfold X0;split
  ·rename_i op k a c hc;split
   ·rename_i he;have:=zQ he;subst this;have hf0:=hf f List.mem_cons_self;rw[hc] at hf0;exact amR ih hf0
   ·exact ih
  ·exact ih
def Bq (x:X) (fc:Facts) (r:A7):A7:=MZ x fc (MZ x fc r)
theorem BV {s:ut} {x:X} {fc:Facts} {r:A7} (hf:vO s fc) (h:zR r (x.den s)):zR (Bq x fc r) (x.den s):=X3 hf (X3 hf h)
def zt (fc:Facts):X->Option A7
 | .lit n=>some (n,n)
 | .var k i=>match k with
  | .int k=>some (Bq (.var (.int k) i) fc (A8 k,A9 k))
  | .nat=>none
  | _=>some (Bq (.var k i) fc (.ofNat 0,.ofNat 1))
 | .bin op k a b=>match op with
  | .add=>match zt fc a,zt fc b with
   | some x,some y=>some (Bq (.bin .add k a b) fc (QP k (x.1+y.1) (x.2+y.2)))
   | _,_=>some (Bq (.bin .add k a b) fc (A8 k,A9 k))
  | .sub=>match zt fc a,zt fc b with
   | some x,some y=>some (Bq (.bin .sub k a b) fc (QP k (x.1-y.2) (x.2-y.1)))
   | _,_=>some (Bq (.bin .sub k a b) fc (A8 k,A9 k))
  | .mul | .quo | .shl | .or | .xor | .andNot=>some (Bq (.bin op k a b) fc (A8 k,A9 k))
  | .and=>match b with
   | .lit (.ofNat n)=>match zq (.ofNat n) (.ofNat (GX k)) with
    | true=>some (Bq (.bin .and k a (.lit (.ofNat n))) fc (.ofNat 0,.ofNat n))
    | false=>some (Bq (.bin .and k a (.lit (.ofNat n))) fc (A8 k,A9 k))
   | b=>some (Bq (.bin .and k a b) fc (A8 k,A9 k))
  | .shr=>match zt fc a,b with
   | some x,.lit (.ofNat n)=>some (Bq (.bin .shr k a (.lit (.ofNat n))) fc (x.1.fdiv (2^MR n k),x.2.fdiv (2^MR n k)))
   | _,_=>none
  | .rem=>none
  | _=>some (.ofNat 0,.ofNat 1)
 | .conv k a=>match zt fc a with
  | some x=>some (Bq (.conv k a) fc (QP k x.1 x.2))
  | none=>some (Bq (.conv k a) fc (A8 k,A9 k))
 | .com k _=>some (A8 k,A9 k)
 | .not _=>some (.ofNat 0,.ofNat 1)
 | .and _ _=>some (.ofNat 0,.ofNat 1)
 | .beq _ _=>some (.ofNat 0,.ofNat 1)
 | .min a b=>match zt fc a,zt fc b with
  | some x,some y=>some (Bq (.min a b) fc (Ea x.1 y.1,Ea x.2 y.2))
  | _,_=>none
 | .max a b=>match zt fc a,zt fc b with
  | some x,some y=>some (Bq (.max a b) fc (Eb x.1 y.1,Eb x.2 y.2))
  | _,_=>none
 | .ite _ a b=>match zt fc a,zt fc b with
  | some x,some y=>some (Ea x.1 y.1,Eb x.2 y.2)
  | _,_=>none
 | .dlen _=>none
theorem M5 (b:Bool):zR (.ofNat 0,.ofNat 1) (ui b):=by cases b<;>exact⟨by decide,by decide⟩
theorem amS {k:IntKind} {a:Int} {n:Nat} (h:n<GX k):zR (.ofNat 0,.ofNat n) (Dh .and k a (.ofNat n)):=by
 have h0:fold .and k a (.ofNat n)=Dh .and k a (.ofNat n):=GY .and k a (.ofNat n);rw[<- h0];simp only[fold,wP]
 have hm:Nat.land (wm k a) (wm k (.ofNat n))<=n:=by refine Nat.le_trans (Nat.and_le_right (n:=wm k a) (m:=wm k (.ofNat n))) ?_;exact Nat.mod_le _ _
 have hk:(GX k:Int)<=A9 k+1:=by unfold A9 GX;cases k<;>decide
 have hl:A8 k<=0:=by unfold A8;cases k<;>decide
 rw[TR (by have:(0:Int)<=Int.ofNat (Nat.land (wm k a) (wm k (.ofNat n))):=Int.natCast_nonneg _;omega) (by
  have:Int.ofNat (Nat.land (wm k a) (wm k (.ofNat n)))<=(n:Int):=Int.ofNat_le.2 hm
  omega)]
 exact⟨Int.natCast_nonneg _,Int.ofNat_le.2 hm⟩
theorem ad1 {a b:Int} (m:Nat) (h:a<=b):a.fdiv (2^m)<=b.fdiv (2^m):=by rw[Int.fdiv_eq_ediv_of_nonneg _ (Int.pow_nonneg (by decide)),Int.fdiv_eq_ediv_of_nonneg _ (Int.pow_nonneg (by decide))];exact Int.ediv_le_ediv (Int.pow_pos (by decide)) h
theorem Cv {s:ut} {fc:Facts} (hf:vO s fc):∀ {x:X} {r:A7},zt fc x=some r->zR r (x.den s)
 | .lit n,r,h=>by cases h;exact⟨Int.le_refl _,Int.le_refl _⟩
 | .var k i,r,h=>by
  simp only[zt] at h;split at h
  ·cases h;exact BV hf (EK _ _)
  ·cases h
  ·rename_i hk hk2;cases h;refine BV hf ?_
   cases k with
   | int k=>exact absurd rfl (hk k)
   | nat=>exact absurd rfl hk2
   | bool=>exact M5 _
   | bit=>exact M5 _
 | .dlen a,r,h=>by cases h
 | .bin op k a b,r,h=>by
  have kr:∀ {op'},op' = .add\/op' = .sub\/op' = .mul\/op' = .quo\/op' = .shl\/op' = .and\/op' = .or\/op' = .xor\/op' = .andNot->zR (A8 k,A9 k) ((X.bin op' k a b).den s):=by rintro op' (rfl|rfl|rfl|rfl|rfl|rfl|rfl|rfl|rfl)<;>exact EK _ _
  cases op<;>simp only[zt] at h
  case add =>
   split at h
   ·rename_i x y hx hy;cases h;have h1:=Cv hf hx;have h2:=Cv hf hy;exact BV hf (XY ⟨Int.add_le_add h1.1 h2.1,Int.add_le_add h1.2 h2.2⟩)
   ·cases h;exact BV hf (kr (by simp))
  case sub =>
   split at h
   ·rename_i x y hx hy;cases h;have h1:=Cv hf hx;have h2:=Cv hf hy;exact BV hf (XY ⟨Int.sub_le_sub h1.1 h2.2,Int.sub_le_sub h1.2 h2.1⟩)
   ·cases h;exact BV hf (kr (by simp))
  case and =>
   split at h
   ·rename_i n;split at h
    ·rename_i hn;cases h;exact BV hf (amS (by have:=XV hn;simpa using this))
    ·cases h;exact BV hf (EK _ _)
   ·cases h;exact BV hf (EK _ _)
  case shr =>
   split at h
   ·rename_i x n hx;cases h;have h1:=Cv hf hx;refine BV hf ?_;rw[XL];exact⟨ad1 _ h1.1,ad1 _ h1.2⟩
   ·cases h
  case rem=>cases h
  all_goals first
   | (cases h;exact BV hf (EK _ _))
   | (cases h;exact M5 _)
 | .conv k a,r,h=>by
  simp only[zt] at h;split at h
  ·rename_i x hx;cases h;exact BV hf (XY (Cv hf hx))
  ·cases h;exact BV hf (EK _ _)
 | .com k a,r,h=>by cases h;exact EK _ _
 | .not a,r,h=>by cases h;exact M5 _
 | .and a b,r,h=>by cases h;exact M5 _
 | .beq a b,r,h=>by cases h;exact M5 _
 | .min a b,r,h=>by
  simp only[zt] at h;split at h
  ·rename_i x y hx hy;cases h;have h1:=Cv hf hx;have h2:=Cv hf hy;have h3:=adY x.1 y.1;refine BV hf ?_;simp only[X.den];split
   ·rename_i hlt;exact⟨Int.le_trans h3.2 h2.1,XW (Int.le_trans (Int.le_of_lt hlt) h1.2) h2.2⟩
   ·rename_i hlt;exact⟨Int.le_trans h3.1 h1.1,XW h1.2 (Int.le_trans (Int.not_lt.1 hlt) h2.2)⟩
  ·cases h
 | .max a b,r,h=>by
  simp only[zt] at h;split at h
  ·rename_i x y hx hy;cases h;have h1:=Cv hf hx;have h2:=Cv hf hy;have h3:=adZ x.2 y.2;refine BV hf ?_;simp only[X.den];split
   ·rename_i hlt;exact⟨XX (Int.le_trans h1.1 (Int.le_of_lt hlt)) h2.1,Int.le_trans h2.2 h3.2⟩
   ·rename_i hlt;exact⟨XX h1.1 (Int.le_trans h2.1 (Int.not_lt.1 hlt)),Int.le_trans h1.2 h3.1⟩
  ·cases h
 | .ite c a b,r,h=>by
  simp only[zt] at h;split at h
  ·rename_i x y hx hy;cases h;have h1:=Cv hf hx;have h2:=Cv hf hy;have h3:=adY x.1 y.1;have h4:=adZ x.2 y.2;simp only[X.den];split
   ·exact⟨Int.le_trans h3.2 h2.1,Int.le_trans h2.2 h4.2⟩
   ·exact⟨Int.le_trans h3.1 h1.1,Int.le_trans h1.2 h4.1⟩
  ·cases h
def X4 (op:BinOp) (x y:A7):Option Bool:=match op with
 | .lss=>match zq x.2 y.1 with|true=>some true|false=>match DZ y.2 x.1 with|true=>some false|false=>none
 | .leq=>match DZ x.2 y.1 with|true=>some true|false=>match zq y.2 x.1 with|true=>some false|false=>none
 | .gtr=>match zq y.2 x.1 with|true=>some true|false=>match DZ x.2 y.1 with|true=>some false|false=>none
 | .geq=>match DZ y.2 x.1 with|true=>some true|false=>match zq x.2 y.1 with|true=>some false|false=>none
 | .eql=>match zq x.2 y.1 with
  | true=>some false
  | false=>match zq y.2 x.1 with
   | true=>some false
   | false=>match vT (xV x.1 x.2) (vT (xV y.1 y.2) (xV x.1 y.1)) with|true=>some true|false=>none
 | .neq=>match zq x.2 y.1 with
  | true=>some true
  | false=>match zq y.2 x.1 with
   | true=>some true
   | false=>match vT (xV x.1 x.2) (vT (xV y.1 y.2) (xV x.1 y.1)) with|true=>some false|false=>none
 | _=>none
theorem amT {op : BinOp} {k : IntKind} {x y : A7} {m n : Int} {b : Bool} (hx : zR x m) (hy : zR y n) (h : X4 op x y = some b) : (uA op k m n != 0) = b := by
  obtain ⟨x1, x2⟩ := hx;obtain ⟨y1, y2⟩ := hy;cases op <;> simp only [X4] at h <;> try cases h
  all_goals
    simp only [uA, xe];split at h
    · rename_i he
      first
        | (have := XV he; cases h; simp; omega)
        | (have := MV he; cases h; simp; omega)
    · split at h
      · rename_i he
        first
          | (have := XV he; cases h; simp; omega)
          | (have := MV he; cases h; simp; omega)
      · first
          | (cases h; done)
          | (split at h
             · rename_i he;have he := vw he; have he2 := vw he.2;have e1 := MW he.1; have e2 := MW he2.1; have e3 := MW he2.2;cases h; simp; omega
             · cases h)
def Ba (fc:Facts):X->Option Bool
 | .lit n=>some (uk n)
 | .bin op k a b=>match IR fc (.bin op k a b) with
  | some r=>some r
  | none=>match zt fc a,zt fc b with
   | some x,some y=>X4 op x y
   | _,_=>none
 | .not a=>match Ba fc a with|some b=>some (DX b)|none=>IR fc (.not a)
 | .and a b=>match Ba fc a with
  | some true=>Ba fc b
  | some false=>some false
  | none=>match Ba fc b with|some false=>some false|_=>IR fc (.and a b)
 | .ite c a b=>match Ba fc c with
  | some true=>Ba fc a
  | some false=>Ba fc b
  | none=>match Ba fc a,Ba fc b with
   | some true,some true=>some true
   | some false,some false=>some false
   | _,_=>IR fc (.ite c a b)
 | x=>IR fc x
theorem Br {s:ut} {fc:Facts} (hf:vO s fc):∀ {c:X} {b:Bool},Ba fc c=some b->(c.den s != 0)=b
 | .lit n,b,h=>by cases h;rw[xW];rfl
 | .bin op k x y,b,h=>by
  simp only[Ba] at h;split at h
  ·rename_i r hr;cases h;exact DY hf hr
  ·split at h
   ·rename_i p q hp hq;exact amT (Cv hf hp) (Cv hf hq) h
   ·cases h
 | .not a,b,h=>by
  simp only[Ba] at h;split at h
  ·rename_i q hq;cases h;rw[X.den,xe,Br hf hq,Cu]
  ·exact DY hf h
 | .and x y,b,h=>by
  simp only[Ba] at h;split at h
  ·rename_i hq;rw[X.den,xe,Br hf hq,Br hf h];rfl
  ·rename_i hq;cases h;rw[X.den,xe,Br hf hq];rfl
  ·split at h
   ·rename_i hq;cases h;rw[X.den,xe,Br hf hq,Bool.and_false]
   ·exact DY hf h
 | .ite c x y,b,h=>by
  have den:∀ q,(x.den s != 0)=q->(y.den s != 0)=q->((X.ite c x y).den s != 0)=q:=λq h1 h2=>by simp only[X.den];split<;>assumption
  simp only[Ba] at h;split at h
  ·rename_i hq;have:=Br hf hq;have hc:c.den s≠0:=by simpa using this
   simp only[X.den,if_neg hc];exact Br hf h
  ·rename_i hq;have:=Br hf hq;have hc:c.den s=0:=by simpa using this
   simp only[X.den,if_pos hc];exact Br hf h
  ·split at h
   ·rename_i h1 h2;cases h;exact den _ (Br hf h1) (Br hf h2)
   ·rename_i h1 h2;cases h;exact den _ (Br hf h1) (Br hf h2)
   ·exact DY hf h
 | .var k i,b,h=>DY hf h
 | .conv k a,b,h=>DY hf h
 | .com k a,b,h=>DY hf h
 | .beq x y,b,h=>DY hf h
 | .min x y,b,h=>DY hf h
 | .max x y,b,h=>DY hf h
 | .dlen x,b,h=>DY hf h
def EL {β:Type} (fc:Facts) (c:X) (K:Bool->Facts->tL β):tL β:=match c with
 | .lit n=>K (uk n) fc
 | c=>match Ba fc c with
  | some b=>K b fc
  | none=>.ite c (K true (MU fc c true)) (K false (MU fc c false))
theorem G9 {β:Type} {Φ:wH} {s:ut} {fc:Facts} {c:X} {K:Bool->Facts->tL β} {r:β} (hf:vO s fc) (h:(EL fc c K).path Φ s=some r):∃ fc',vO s fc'/\(K (c.den s != 0) fc').path Φ s=some r:=by
 unfold EL at h;split at h
 ·rename_i n;refine⟨fc,hf,?_⟩;rw[xW] at h;exact h
 ·split at h
  ·rename_i b hb;rw[Br hf hb];exact⟨fc,hf,h⟩
  ·simp only[tL.path] at h;split at h
   ·rename_i hc;have:(c.den s != 0)=false:=by rw[hc];rfl
    rw[this];exact⟨_,XU hf this,h⟩
   ·rename_i hc;have:(c.den s != 0)=true:=by simpa using hc
    rw[this];exact⟨_,XU hf this,h⟩
inductive SV where
 | v (x:Value)
 | int (k:IntKind) (x:X)
 | bool (x:X)
 | loc (b off:Nat)
 | hd (k:Nat)
 | ha (k off:Nat)
 | sl (b off len cap:Nat)
 | fn (f:Fn) (a c:List SV)
 | tup (l:List SV)
 | agg (l:List SV)
mutual
def SV.den (s:ut):SV->AV
 | .v x=>.v x
 | .int k x=>.v (.int k (x.den s))
 | .bool x=>.v (.bool (x.den s != 0))
 | .loc b off=>.loc b off
 | .hd k=>.hd k
 | .ha k off=>.ha k off
 | .sl b off len cap=>.sl b off len cap
 | .fn f a c=>Aw f (SV.dens s a) (SV.dens s c)
 | .tup l=>Av (SV.dens s l)
 | .agg l=>zm (SV.dens s l)
def SV.dens (s:ut):List SV->List AV
 | []=>[]
 | x::l=>SV.den s x::SV.dens s l
end
theorem SV.dens_map (s:ut):∀ l:List SV,SV.dens s l=l.map (SV.den s)
 | []=>rfl
 | x::l=>by rw[SV.dens,SV.dens_map s l];rfl
def AA (x:Value):SV:=match x with
 | .int k n=>.int k (.lit n)
 | .bool b=>.bool (.lit (ui b))
 | x=>.v x
theorem X5 (s:ut) (x:Value):(AA x).den s = .v x:=by cases x<;>first|rfl|(simp only[AA,SV.den,X.den,xe])
def Ha (x:Value):SV:=match x with
 | .agg cs=>.agg (cs.toList.map AA)
 | x=>AA x
theorem Ec (s:ut) (l:List Value):SV.dens s (l.map AA)=l.map .v:=by rw[SV.dens_map,List.map_map];apply List.map_congr_left;intro x _;exact X5 s x
theorem IU:∀ l:List Value,wJ (l.map .v)=some l
 | []=>rfl
 | x::l=>by rw[List.map_cons,wJ,IU l]
theorem TS (l:List Value):zm (l.map .v) = .v (.agg l.toArray):=by unfold zm;rw[IU]
theorem TU (l:List Value):Av (l.map .v) = .v (.tuple l.toArray):=by unfold Av;rw[IU]
theorem TV (s:ut) (x:Value):(Ha x).den s = .v x:=by
 unfold Ha;split
 ·simp only[SV.den,Ec,TS]
 ·exact X5 s _
structure SO where
 c:List SV
 t:Option TypeId
def Bu (n:Nat):List Value:=(QL n).map λd=>.int .u32 (Int.ofNat d)
def Ed (c:List SV):X:=match c with
 | [.int _ x]=>x
 | _=>.lit (.ofNat 0)
def ad2:Value->Value×Value
 | .tuple xs=>match xs.toList with | [k,v]=>(k,v)|_=>(undef,undef)
 | _=>(undef,undef)
def X6:SV->Option (List (Value×Value))
 | .v (.tuple xs)=>some (xs.toList.map ad2)
 | _=>none
def Bv (c:List SV):Option (List (Value×Value)):=match c with
 | [x]=>X6 x
 | _=>none
def wB (k:VK) (n:Int):Value:=match k with | .int k=>.int k (k.wrap n) | .bool=>.bool (n != 0) | .bit=>.int .u64 (ui (n != 0)) | .nat=>.int .u64 (Int.ofNat n.toNat)
def uT:List VK->List Int->List Value
 | k::ks,n::ns=>wB k n::uT ks ns
 | _,_=>[]
structure QQ where
 n:X
 b:Nat
 ks:List VK
def TW:SV->VK
 | .int k _=>.int k
 | _=>.bool
def TY:SV->Bool
 | .v (.bool false)=>true
 | _=>false
def TZ:SV->Option X
 | .int .i64 n=>some n
 | _=>none
def T9:SV->Option Nat
 | .v (.int .i64 (.ofNat b))=>some b
 | _=>none
def BX (c:List SV):Option QQ:=match c with
 | x::y::z::l=>match TY x,TZ y,T9 z with
  | true,some n,some b=>some ⟨n,b,l.map TW⟩
  | _,_,_=>none
 | _=>none
def AB (s:ut) (b:Nat) (ks:List VK):Nat->List Value
 | 0=>[]
 | n+1=>AB s b ks n++uT ks (yH s (b+n*ks.length) ks.length)
def SO.den (s:ut) (o:SO):AO:=match o.t with
 | some t=>.own (SV.dens s o.c) t
 | none=>match Bv o.c with
  | some es=>.mp es
  | none=>match BX o.c with
   | some r=>.rd (r.n.den s).toNat (AB s r.b r.ks (r.n.den s).toNat)
   | none=>.rd (uH ((Ed o.c).den s).toNat) (Bu ((Ed o.c).den s).toNat)
theorem SO.den_own (s:ut) {o:SO} {t:TypeId} (h:o.t=some t):o.den s = .own (SV.dens s o.c) t:=by unfold SO.den;rw[h]
theorem SO.den_nat (s:ut) {o:SO} (h:o.t=none) (hm:Bv o.c=none) (ho:BX o.c=none):o.den s = .rd (uH ((Ed o.c).den s).toNat) (Bu ((Ed o.c).den s).toNat):=by unfold SO.den;rw[h];simp only[];rw[hm];simp only[];rw[ho]
theorem SO.den_ora (s:ut) {o:SO} {r:QQ} (h:o.t=none) (hm:Bv o.c=none) (ho:BX o.c=some r):o.den s = .rd (r.n.den s).toNat (AB s r.b r.ks (r.n.den s).toNat):=by unfold SO.den;rw[h];simp only[];rw[hm];simp only[];rw[ho]
theorem SO.den_map (s:ut) {o:SO} {es:List (Value×Value)} (h:o.t=none) (hm:Bv o.c=some es):o.den s = .mp es:=by unfold SO.den;rw[h];simp only[];rw[hm]
abbrev SH:=List (Nat×SO)
def hget:SH->Nat->Option SO
 | [],_=>none
 | x::l,k=>match Nat.beq x.1 k with|true=>some x.2|false=>hget l k
def SH.den (s:ut) (H:SH):tZ:=λk=>(hget H k).map (SO.den s)
abbrev uJ:=List (Option SV)
def yu:uJ->Nat->Option SV
 | [],_=>none
 | x::l,0=>x
 | x::l,n+1=>yu l n
def uJ.den (s:ut) (T:uJ):uK:=λt=>(yu T t).map (SV.den s)
def Ua {β:Sort _} : uJ->Nat->SV->(uJ->β)->β
 | [],_,_,k=>k []
 | x::l,0,v,k=>k (some v::l)
 | x::l,n+1,v,k=>Ua l n v λl'=>k (x::l')
def EM:uJ->Nat->SV->uJ
 | [],_,_=>[]
 | _::l,0,v=>some v::l
 | x::l,n+1,v=>x::EM l n v
theorem ad3 {β:Sort _} : ∀ (T:uJ) (n:Nat) (v:SV) (k:uJ->β),Ua T n v k=k (EM T n v)
 | [],_,_,_=>rfl
 | x::l,0,_,_=>rfl
 | x::l,n+1,v,k=>by rw[Ua,ad3 l n v];rfl
theorem ad4:∀ (T:uJ) (n:Nat) (v:SV) (t:Nat),yu (EM T n v) t=if t=n/\n<T.length then some v else yu T t
 | [],n,v,t=>by simp[EM]
 | x::l,0,v,0=>by simp[EM,yu]
 | x::l,0,v,t+1=>by simp[EM,yu]
 | x::l,n+1,v,t=>by
  rw[EM]
  cases t with
  | zero=>simp[yu]
  | succ t =>
   show yu (EM l n v) t=_;rw[ad4 l n v t];simp[yu]
theorem ad5:∀ (T:uJ) (n:Nat) (v:SV),(EM T n v).length=T.length
 | [],_,_=>rfl
 | x::l,0,_=>rfl
 | x::l,n+1,v=>by rw[EM];simp[ad5 l n v]
theorem uJ.den_set (s:ut) (T:uJ) (n:Nat) (v:SV) (h:n<T.length):uJ.den s (EM T n v)=(uJ.den s T).put (some n) (v.den s):=by
 funext t;unfold uJ.den;rw[ad4];by_cases ht:t=n
 ·subst ht;rw[if_pos ⟨rfl,h⟩,uK.put_same];rfl
 ·rw[if_neg (λe=>ht e.1),uK.put_ne _ _ _ ht]
def hset {β:Sort _} : SH->Nat->SO->(SH->β)->β
 | [],k,o,K=>K [(k,o)]
 | x::l,k,o,K=>match Nat.beq x.1 k with
  | true=>K ((k,o)::l)
  | false=>hset l k o λl'=>K (x::l')
def IV:SH->Nat->SO->SH
 | [],k,o=>[(k,o)]
 | x::l,k,o=>match Nat.beq x.1 k with
  | true=>(k,o)::l
  | false=>x::IV l k o
theorem ad6 {β:Sort _} : ∀ (H:SH) (k:Nat) (o:SO) (K:SH->β),hset H k o K=K (IV H k o)
 | [],_,_,_=>rfl
 | x::l,k,o,K=>by
  simp only[hset,IV]
  cases Nat.beq x.1 k with
  | true=>rfl
  | false=>simp only[];rw[ad6 l k o]
theorem X7:∀ (H:SH) (k:Nat) (o:SO) (j:Nat),hget (IV H k o) j=if j=k then some o else hget H j
 | [],k,o,j=>by
  simp only[IV,hget]
  cases h:Nat.beq k j with
  | true=>rw[if_pos (vH.1 h).symm]
  | false=>rw[if_neg];intro e;subst e;simp at h
 | x::l,k,o,j=>by
  simp only[IV]
  cases h:Nat.beq x.1 k with
  | true =>
   have hx:=vH.1 h;simp only[hget]
   cases h2:Nat.beq k j with
   | true=>rw[if_pos (vH.1 h2).symm]
   | false =>
    have:j≠k:=λe=>by subst e;simp at h2
    rw[if_neg this,hx,h2]
  | false =>
   simp only[hget]
   cases h2:Nat.beq x.1 j with
   | true =>
    have hj:=vH.1 h2;have:j≠k:=λe=>by rw[<- hj] at e;rw[e] at h;simp at h
    rw[if_neg this]
   | false=>simp only[];exact X7 l k o j
theorem SH.den_set (s:ut) (H:SH) (k:Nat) (o:SO):SH.den s (IV H k o)=(SH.den s H).put k (o.den s):=by funext j;unfold SH.den tZ.put;rw[X7];split<;>rfl
def FZ {β:Sort _} : SH->List (Nat×SO)->(SH->β)->β
 | H,[],K=>K H
 | H,x::l,K=>hset H x.1 x.2 λH=>FZ H l K
def Kz:SH->List (Nat×SO)->SH
 | H,[]=>H
 | H,x::l=>Kz (IV H x.1 x.2) l
theorem ad7 {β:Sort _} : ∀ (l:List (Nat×SO)) (H:SH) (K:SH->β),FZ H l K=K (Kz H l)
 | [],_,_=>rfl
 | x::l,H,K=>by rw[FZ,ad6,ad7 l,Kz]
def uY (s:ut) (ef:List (Nat×SO)):List (Nat×AO):=ef.map λx=>(x.1,x.2.den s)
theorem ad8 (s:ut):∀ (l:List (Nat×SO)) (H:SH),SH.den s (Kz H l)=(SH.den s H).puts (uY s l)
 | [],_=>rfl
 | x::l,H=>by rw[Kz,ad8 s l,SH.den_set];rfl
def Ee (T:uJ):Operand->Option SV
 | .tmp t=>yu T t
 | .const v=>some (Ha v)
 | .global g=>some (.v (.pointer (some ⟨g,0,none⟩)))
 | .func f=>some (.v (.func (.func f) #[] #[]))
def RD (s:ut) (ρ:Operand->Option SV) (ρ':Operand->Option AV):Prop:=∀ x a,ρ x=some a->ρ' x=some (a.den s)
theorem IW (s : ut) (T : uJ) : RD s (Ee T) (ym (uJ.den s T)) := by
  intro x a h
  cases x with
  | tmp t => have h : yu T t = some a := h
             simp [ym, uJ.den, h]
  | const v => simp only [Ee, Option.some.injEq] at h; subst h; rw [TV]; rfl
  | global g => simp only [Ee, Option.some.injEq] at h; subst h; rfl
  | func f => simp only [Ee, Option.some.injEq] at h; subst h; rfl
def cellsS:SV->List SV
 | .v x=>x.cells.toList.map AA
 | .agg l=>l
 | x=>[x]
theorem QR (l:List AV):wz (zm l)=l:=by
 unfold zm
 cases h:wJ l with
 | none=>rfl
 | some vs =>
  simp only[wz,Value.cells]
  induction l generalizing vs with
  | nil=>simp only[wJ,Option.some.injEq] at h;subst h;rfl
  | cons x l ih =>
   cases x<;>simp only[wJ] at h<;>try cases h
   rename_i x
   cases h2:wJ l with
   | none=>rw[h2] at h;cases h
   | some ws =>
    rw[h2] at h;simp only[Option.some.injEq] at h;subst h;simpa using ih ws h2
theorem amU (l:List AV):wz (Av l) = [Av l]:=by unfold Av;split<;>rfl
theorem amV (f:Fn) (a c:List AV):wz (Aw f a c) = [Aw f a c]:=by unfold Aw;split<;>rfl
theorem M6 (s:ut) (a:SV):SV.dens s (cellsS a)=wz (a.den s):=by
 cases a with
 | v x=>simp only[cellsS,Ec,SV.den,wz]
 | agg l=>simp only[cellsS,SV.den,QR]
 | tup l=>simp only[cellsS,SV.dens,SV.den,amU]
 | fn f a c=>simp only[cellsS,SV.dens,SV.den,amV]
 | int k x=>simp only[cellsS,SV.dens,SV.den,wz,Value.cells,List.map_cons,List.map_nil]
 | bool x=>simp only[cellsS,SV.dens,SV.den,wz,Value.cells,List.map_cons,List.map_nil]
 | _=>rfl
def wo:SV->Bool
 | .v (.agg _)=>false
 | .v (.tuple _)=>false
 | .agg _=>false
 | .tup _=>false
 | .ha _ _=>false
 | _=>true
theorem amW (f:Fn) (a c:List AV):Kk (Aw f a c)=true:=by unfold Aw;split<;>rfl
theorem amX {s:ut} {a:SV} (h:wo a=true):Kk (a.den s)=true:=by
 cases a with
 | v x=>cases x<;>first|rfl|cases h
 | fn f a c=>exact amW _ _ _
 | agg l=>cases h
 | tup l=>cases h
 | ha k o=>cases h
 | _=>rfl
def wK {β:Sort _} : Nat->List SV->(List SV->β)->β
 | 0,_,K=>K []
 | _+1,[],K=>K []
 | n+1,x::l,K=>wK n l λl'=>K (x::l')
def Hd (P:Program) (t:TypeId) (c:List SV) (off:Nat):Option SV :=
 match IA P t with
 | some true=>match wu P t with
  | some sz=>match Nat.ble (off+sz) c.length,Nat.ble 1 sz with
   | true,true=>GV ((c.drop off).take sz) λl=>some (.agg l)
   | _,_=>none
  | none=>none
 | some false=>c[off]?
 | none=>none
theorem Cw (s:ut) (l:List SV):(SV.dens s l).length=l.length:=by rw[SV.dens_map];simp
theorem X8 (s:ut) (l:List SV) (n:Nat):SV.dens s (l.take n)=(SV.dens s l).take n:=by rw[SV.dens_map,SV.dens_map,List.map_take]
theorem X9 (s:ut) (l:List SV) (n:Nat):SV.dens s (l.drop n)=(SV.dens s l).drop n:=by rw[SV.dens_map,SV.dens_map,List.map_drop]
theorem IX (s:ut) (a b:List SV):SV.dens s (a++b)=SV.dens s a++SV.dens s b:=by simp[SV.dens_map]
theorem ad9 (s:ut) {l:List SV} {i:Nat} {x:SV} (h:l[i]? = some x):(SV.dens s l)[i]? = some (x.den s):=by rw[SV.dens_map];simp[h]
theorem KA {P:Program} {t:TypeId} {c:List SV} {off:Nat} {r:SV} (s:ut) (h:Hd P t c off=some r):yF P t (SV.dens s c) off=some (r.den s):=by
 unfold Hd at h;unfold yF;split at h
 ·rename_i ha;rw[ha];simp only;split at h
  ·rename_i sz hs;rw[hs];simp only;split at h
   ·rename_i h1 h2;rw[Ku] at h;cases h;have h1:=Nat.le_of_ble_eq_true h1;have h2:=Nat.le_of_ble_eq_true h2;rw[if_pos ⟨by rw[Cw];exact h1,h2⟩];simp only[SV.den,X8,X9]
   ·cases h
  ·cases h
 ·rename_i ha;rw[ha];exact ad9 s h
 ·cases h
abbrev SR:=SV×List Nat×List (Nat×SO)
def one (a:SV):tL SR:=.leaf (a,[],[])
def M7 (w:String) (x:Option SV):tL SR:=match x with|some a=>.leaf (a,[],[])|none=>.stuck w
def Ya (P:Program) (G:uG) (t:TypeId) (H:SH) (a:SV):tL SR:=match a with
 | .loc b off=>match hget H b with
  | some o=>match o.t with
   | some _=>match Hd P t o.c off with|some r=>.leaf (r,[b],[])|none=>.stuck "load: cells"
   | none=>.stuck "load: a number"
  | none=>.stuck "load: block"
 | .v (.pointer (some ⟨g,off,none⟩))=>match WU G g with
  | some c=>match Hd P t (c.map AA) off with|some r=>one r|none=>.stuck "load: global cells"
  | none=>.stuck "load: global"
 | _=>.stuck "load"
def aea (c:List SV) (off:Nat) (ys:List SV):List SV:=c.take off++ys++c.drop (off+ys.length)
def Yb (P:Program) (t:TypeId) (H:SH) (x y:SV):tL SR:=match x with
 | .loc b off=>match hget H b with
  | some ⟨_,none⟩=>.stuck "store: a number"
  | some o=>match (cellsS y).all wo,wu P t with
   | true,some n=>match Nat.beq n (cellsS y).length,Nat.ble (off+(cellsS y).length) o.c.length with
    | true,true=>GV (aea o.c off (cellsS y)) λc=>.leaf (.v undef,[b],[(b,⟨c,o.t⟩)])
    | _,_=>.stuck "store: size"
   | _,_=>.stuck "store: cells"
  | none=>.stuck "store: block"
 | _=>.stuck "store"
def Yc (P:Program) (t:TypeId) (f:Nat) (x:SV):Option SV:=match x with
 | .agg l=>match FR P t f with
  | some (off,ft)=>Hd P ft l off
  | none=>none
 | .v (.agg cs)=>match FR P t f with
  | some (off,ft)=>Hd P ft (cs.toList.map AA) off
  | none=>none
 | _=>none
def Yd (P:Program) (t:TypeId) (f:Nat) (x:SV):Option SV :=
 match FR P t f with
 | some (off,ft)=>match wu P ft with
  | some (_+1)=>match x with
   | .loc b o=>xq (o+off) λn=>some (.loc b n)
   | .v (.pointer (some ⟨g,o,none⟩))=>xq (o+off) λn=>some (.v (.pointer (some ⟨g,n,none⟩)))
   | _=>none
  | _=>none
 | none=>none
def M8 {α:Type} (x:X) (f:Nat->tL α):Nat->Nat->Facts->tL α
 | 0,_,_=>.stuck "index"
 | m+1,j,fc=>match Ba fc (.bin .eql .i64 x (.lit (.ofNat j))) with
  | some true=>f j
  | some false=>M8 x f m (Nat.succ j) fc
  | none=>.ite (.bin .eql .i64 x (.lit (.ofNat j))) (f j) (M8 x f m (Nat.succ j) (MU fc (.bin .eql .i64 x (.lit (.ofNat j))) false))
def KC {α:Type} (fc:Facts) (x:X) (len:Nat) (f:Nat->tL α):tL α:=match x with
 | .lit (.ofNat j)=>match Nat.blt j len with|true=>f j|false=>.stuck "index: out of range"
 | .lit (.negSucc _)=>.stuck "index: below 0"
 | x=>M8 x f len 0 fc
theorem Ye {α:Type} {Φ:wH} {s:ut} {x:X} {f:Nat->tL α} {a:α} : ∀ (m j:Nat) (fc:Facts),vO s fc->(M8 x f m j fc).path Φ s=some a->∃ i,j<=i/\i<j+m/\x.den s=i/\(f i).path Φ s=some a
 | 0,j,fc,hf,h=>by cases h
 | m+1,j,fc,hf,h=>by
  have eqj:((X.bin .eql .i64 x (.lit (.ofNat j))).den s != 0)=true->x.den s=(j:Int):=λhq=>by simp only[X.den,uA,xe] at hq;simpa using hq
  have ite:(tL.ite (.bin .eql .i64 x (.lit (.ofNat j))) (f j) (M8 x f m (Nat.succ j) (MU fc (.bin .eql .i64 x (.lit (.ofNat j))) false))).path Φ s=some a->∃ i,j<=i/\i<j+(m+1)/\x.den s=i/\(f i).path Φ s=some a:=λh=>by
   simp only[tL.path] at h;split at h
   ·rename_i hc;obtain⟨i,h1,h2,h3,h4⟩:=Ye m (j+1) _ (XU hf (by rw[hc];rfl)) h;exact⟨i,by omega,by omega,h3,h4⟩
   ·rename_i hne;exact⟨j,Nat.le_refl _,by omega,eqj (by simpa using hne),h⟩
  simp only[M8] at h;split at h
  ·rename_i hd;exact⟨j,Nat.le_refl _,by omega,eqj (Br hf hd),h⟩
  ·obtain⟨i,h1,h2,h3,h4⟩:=Ye m (j+1) fc hf h;exact⟨i,by omega,by omega,h3,h4⟩
  ·exact ite h
theorem QS {α:Type} {Φ:wH} {s:ut} {fc:Facts} (hf:vO s fc) {x:X} {len:Nat} {f:Nat->tL α} {a:α} (h:(KC fc x len f).path Φ s=some a):∃ i,i<len/\x.den s=(i:Int)/\(f i).path Φ s=some a:=by
 unfold KC at h;split at h
 ·rename_i j;split at h
  ·rename_i hb;exact⟨j,by simpa [Nat.blt_eq] using hb,rfl,h⟩
  ·cases h
 ·cases h
 ·obtain⟨i,_,h2,h3,h4⟩:=Ye _ _ _ hf h;exact⟨i,by omega,h3,h4⟩
def Yf (P:Program) (fc:Facts) (t:TypeId) (x i:SV):tL SR:=match i with
 | .int _ n=>match x with
  | .loc b o=>match BJ P t with
   | some (len,el)=>match wu P el with
    | some sz=>KC fc n len λj=>xq (o+j*sz) λq=>one (.loc b q)
    | none=>.stuck "indexAddr: size"
   | none=>.stuck "indexAddr: no array"
  | .v (.pointer (some ⟨g,o,none⟩))=>match BJ P t with
   | some (len,el)=>match wu P el with
    | some sz=>KC fc n len λj=>xq (o+j*sz) λq=>one (.v (.pointer (some ⟨g,q,none⟩)))
    | none=>.stuck "indexAddr: size"
   | none=>.stuck "indexAddr: no array"
  | .sl b o len _=>match FU P t with
   | some el=>match wu P el with
    | some sz=>KC fc n len λj=>xq (o+j*sz) λq=>one (.loc b q)
    | none=>.stuck "indexAddr: size"
   | none=>.stuck "indexAddr: no slice"
  | _=>.stuck "indexAddr"
 | _=>.stuck "indexAddr: index"
def Yg (P:Program) (fc:Facts) (t:TypeId) (x i:SV):tL SR:=match i with
 | .int _ n=>match x with
  | .agg l=>match BJ P t with
   | some (len,el)=>match wu P el with
    | some sz=>KC fc n len λj=>M7 "index: cells" (Hd P el l (j*sz))
    | none=>.stuck "index: size"
   | none=>.stuck "index: no array"
  | .v (.agg cs)=>match BJ P t with
   | some (len,el)=>match wu P el with
    | some sz=>KC fc n len λj=>M7 "index: cells" (Hd P el (cs.toList.map AA) (j*sz))
    | none=>.stuck "index: size"
   | none=>.stuck "index: no array"
  | _=>.stuck "index"
 | _=>.stuck "index: index"
def Yh (x:SV) (i:Nat):Option SV:=match x with
 | .v (.tuple vs)=>match vs.toList[i]? with|some v=>some (AA v)|none=>none
 | .tup l=>l[i]?
 | _=>none
def M9 (place:Nat->Option (Nat×Nat)) (cells:List SV):List (Nat×SV)->Option (List SV)
 | []=>some cells
 | (i,x)::rest=>match place i with
  | none=>none
  | some (off,size)=>match Nat.beq (cellsS x).length size,Nat.ble (off+size) cells.length with
   | true,true=>GV (cells.take off++cellsS x++cells.drop (off+size)) λc=>M9 place c rest
   | _,_=>none
def Ub (s:ut) (l:List (Nat×SV)):List (Nat×AV):=l.map λx=>(x.1,x.2.den s)
theorem Yi {place:Nat->Option (Nat×Nat)} (s:ut):∀ {ps:List (Nat×SV)} {cells c:List SV},M9 place cells ps=some c->DR place (SV.dens s cells) (Ub s ps)=some (SV.dens s c)
 | [],cells,c,h=>by simp only[M9,Option.some.injEq] at h;subst h;rfl
 | (i,x)::rest,cells,c,h=>by
  simp only[M9] at h;simp only[Ub,List.map_cons,DR];split at h
  ·cases h
  ·rename_i off size hp;rw[hp];simp only;split at h
   ·rename_i h1 h2;rw[Ku] at h;have h1:=vH.1 h1;have h2:=Nat.le_of_ble_eq_true h2;rw[if_pos ⟨by rw[<- M6,Cw];exact h1,by rw[Cw];exact h2⟩];have:=Yi s h;rw[IX,IX,X8,X9,M6] at this;exact this
   ·cases h
def Na (ρ:Operand->Option SV):List (Nat×Operand)->Option (List (Nat×SV))
 | []=>some []
 | (i,x)::l=>match ρ x,Na ρ l with
  | some a,some r=>some ((i,a)::r)
  | _,_=>none
theorem Yj {s:ut} {ρ:Operand->Option SV} {ρ':Operand->Option AV} (hρ:RD s ρ ρ'):∀ {l:List (Nat×Operand)} {r:List (Nat×SV)},Na ρ l=some r->BK ρ' l=some (Ub s r)
 | [],r,h=>by simp only[Na,Option.some.injEq] at h;subst h;rfl
 | (i,x)::l,r,h=>by
  simp only[Na] at h;split at h
  ·rename_i a r' ha hr;cases h;rw[BK,hρ x a ha,Yj hρ hr];rfl
  ·cases h
def KD (ρ:Operand->Option SV):List Operand->Option (List SV)
 | []=>some []
 | x::l=>match ρ x,KD ρ l with
  | some a,some r=>some (a::r)
  | _,_=>none
theorem Uc {s:ut} {ρ:Operand->Option SV} {ρ':Operand->Option AV} (hρ:RD s ρ ρ'):∀ {l:List Operand} {r:List SV},KD ρ l=some r->AX ρ' l=some (SV.dens s r)
 | [],r,h=>by simp only[KD,Option.some.injEq] at h;subst h;rfl
 | x::l,r,h=>by
  simp only[KD] at h;split at h
  ·rename_i a r' ha hr;cases h;rw[AX,hρ x a ha,Uc hρ hr];rfl
  ·cases h
abbrev Nc:=TypeId->SV->SV->Option X
def Ud (P:Program) (SE:Nc) (E:vR):Prop:=∀ t x y r (s:ut),SE t x y=some r->∃ a b,x.den s = .v a/\y.den s = .v b/\zn P .eql t a b=none/\zn P .neq t a b=none/\E .eql t a b=some (.bool (r.den s != 0))/\E .neq t a b=some (.bool (!(r.den s != 0)))
def IY (fc:Facts) (w:String) (c:X) (t:tL SR):tL SR:=match Ba fc c with
 | some true=>.stuck w
 | some false=>t
 | none=>MS c (.stuck w) t
def Yk (fc:Facts) (op:BinOp) (k k':IntKind) (a b:X):tL SR:=match op with
 | .shl=>match X.inK k' b,k'.signed with
  | true,false=>xI (xu .shl k a b) λx=>one (.int k x)
  | _,_=>IY fc "shift below 0" (xu .lss k' b (.lit (.ofNat 0))) (xI (xu .shl k a b) λx=>one (.int k x))
 | .shr=>match X.inK k' b,k'.signed with
  | true,false=>xI (xu .shr k a b) λx=>one (.int k x)
  | _,_=>IY fc "shift below 0" (xu .lss k' b (.lit (.ofNat 0))) (xI (xu .shr k a b) λx=>one (.int k x))
 | .quo=>match yO k k' with
  | true=>IY fc "by 0" (xu .eql k' b (.lit (.ofNat 0))) (xI (xu .quo k a b) λx=>one (.int k x))
  | false=>.stuck "kinds"
 | .rem=>match yO k k' with
  | true=>IY fc "by 0" (xu .eql k' b (.lit (.ofNat 0))) (xI (xu .rem k a b) λx=>one (.int k x))
  | false=>.stuck "kinds"
 | .add | .sub | .mul | .and | .or | .xor | .andNot=>match yO k k' with
  | true=>xI (xu op k a b) λx=>one (.int k x)
  | false=>.stuck "kinds"
 | .eql | .neq | .lss | .leq | .gtr | .geq=>match yO k k' with
  | true=>xI (xu op k a b) λx=>one (.bool x)
  | false=>.stuck "kinds"
def Ym (P:Program) (SE:Nc) (fc:Facts) (op:BinOp) (t:TypeId) (x y:SV):tL SR:=match x,y with
 | .int k a,.int k' b=>Yk fc op k k' a b
 | .bool a,.bool b=>match P.underlying t with
  | some .bool=>match op with
   | .eql=>xI (TP a b) λx=>one (.bool x)
   | .neq=>xI (mkNot (TP a b)) λx=>one (.bool x)
   | _=>.stuck "binOp: bools"
  | _=>.stuck "binOp: bool type"
 | x,y=>match op with
  | .eql=>match SE t x y with|some r=>xI r λr=>one (.bool r)|none=>.stuck "eql"
  | .neq=>match SE t x y with|some r=>xI (mkNot r) λr=>one (.bool r)|none=>.stuck "neq"
  | _=>.stuck "binOp"
def Yn (op:UnOp) (x:SV):tL SR:=match op,x with
 | .neg,.int k a=>xI (xu .sub k (.lit (.ofNat 0)) a) λx=>one (.int k x)
 | .xor,.int k a=>xI (TN k a) λx=>one (.int k x)
 | .not,.bool a=>xI (mkNot a) λx=>one (.bool x)
 | _,_=>.stuck "unOp"
def Yo (P:Program) (src dst:TypeId) (x:SV):tL SR:=match x with
 | .int _ a=>match Ml P dst,P.underlying src with
  | some k,some _=>xI (XN k a) λx=>one (.int k x)
  | _,_=>.stuck "convert: type"
 | _=>.stuck "convert"
def Yp (x:SV):tL SR:=match x with
 | .loc b o=>one (.loc b o)
 | .v (.func (.func f) a c)=>one (.v (.func (.func f) a c))
 | .v (.pointer (some p))=>one (.v (.pointer (some p)))
 | .fn (.func f) a c=>one (.fn (.func f) a c)
 | _=>.stuck "nilCheck"
def sLen (P:Program) (t:TypeId) (H:SH) (x:SV):tL SR:=match P.underlying t with
 | some (.slice _)=>match x with
  | .hd k=>match hget H k with
   | some ⟨[.int _ x],none⟩=>.leaf (.int .i64 (.dlen x),[k],[])
   | some ⟨c,none⟩=>match Bv c,BX c with
    | none,some r=>xI (TQ r.n (.lit (.ofNat 0))) λx=>.leaf (.int .i64 x,[k],[])
    | _,_=>.stuck "len: handle"
   | _=>.stuck "len: handle"
  | .sl _ _ n _=>one (.int .i64 (.lit (.ofNat n)))
  | .v (.slice _ n _)=>one (.int .i64 (.lit (.ofNat n)))
  | _=>.stuck "len: slice"
 | some .string=>match x with | .v (.string s)=>xq s.size λn=>one (.int .i64 (.lit (.ofNat n)))|_=>.stuck "len: string"
 | some (.array n _)=>one (.int .i64 (.lit (.ofNat n)))
 | _=>.stuck "len"
def Yq (P:Program) (t:TypeId) (x:SV):tL SR:=match BJ P t with
 | some (n,_)=>match x with
  | .sl b o len _=>match Nat.ble n len with|true=>one (.loc b o)|false=>.stuck "arrayAt: len"
  | _=>.stuck "arrayAt"
 | none=>.stuck "arrayAt: no array"
def Yr (P:Program) (t:TypeId) (k:Nat) (x y:SV):tL SR:=match x,y with
 | .int _ (.lit (.ofNat n)),.int _ (.lit (.ofNat m))=>match FU P t with
  | some el=>match wu P el,ED P el,WW P el with
   | some sz,some z,some b=>match Nat.ble n m,Nat.blt m 16777216,Nat.ble b 4096,Nat.beq (m*sz) 0 with
    | true,true,true,false=>GV ((GK z (m*sz)).map AA) λc=>.leaf (.sl k 0 n m,[],[(k,⟨c,some el⟩)])
    | _,_,_,_=>.stuck "makeSlice: size"
   | _,_,_=>.stuck "makeSlice: type"
  | none=>.stuck "makeSlice: no slice"
 | _,_=>.stuck "makeSlice"
def Yt (P:Program) (t:TypeId) (x:SV):tL SR:=match BJ P t with
 | some (n,el)=>match x,wu P el with
  | .loc b o,some _=>one (.sl b o n n)
  | _,_=>.stuck "slice"
 | none=>.stuck "slice: no array"
def Yu (P:Program) (t:TypeId) (len:Nat) (k:Nat) (ps:List (Nat×SV)):tL SR:=match FU P t with
 | some el=>match wu P el,ED P el with
  | some sz,some z=>match Nat.ble (len*sz) 16777216,Nat.beq (len*sz) 0 with
   | true,false=>match M9 (λi=>some (i*sz,sz)) ((GK z (len*sz)).map AA) ps with
    | some c=>.leaf (.sl k 0 len len,[],[(k,⟨c,some el⟩)])
    | none=>.stuck "buildSlice: parts"
   | _,_=>.stuck "buildSlice: size"
  | _,_=>.stuck "buildSlice: type"
 | none=>.stuck "buildSlice"
def o1 (ρ:Operand->Option SV) (x:Operand) (f:SV->tL SR):tL SR:=match ρ x with|some a=>f a|none=>.stuck "operand"
def o2 (ρ:Operand->Option SV) (x y:Operand) (f:SV->SV->tL SR):tL SR:=match ρ x with
 | some a=>match ρ y with|some b=>f a b|none=>.stuck "operand"
 | none=>.stuck "operand"
def Yv (P:Program) (G:uG) (SE:Nc) (fc:Facts) (op:Op) (ρ:Operand->Option SV) (H:SH) (k:Nat):tL SR :=
 match op with
 | .move x=>o1 ρ x one
 | .assign x=>o1 ρ x one
 | .pick c a b=>o1 ρ c λv=>match v with
  | .bool q=>MS q (o1 ρ a one) (o1 ρ b one)
  | _=>.stuck "pick"
 | .alloc t=>match ED P t with|some z=>GV (z.map AA) λc=>.leaf (.loc k 0,[],[(k,⟨c,some t⟩)])|none=>.stuck "alloc"
 | .box t x=>o1 ρ x λa=>GV (cellsS a) λc=>.leaf (.loc k 0,[],[(k,⟨c,some t⟩)])
 | .build t ps=>match Na ρ ps.toList,ED P t with
  | some l,some z=>match Tq P t with
   | true=>match M9 (Qy P t) (z.map AA) l with|some c=>one (.agg c)|none=>.stuck "build: parts"
   | false=>.stuck "build: sizes"
  | _,_=>.stuck "build"
 | .buildSlice t len ps=>match Na ρ ps.toList with|some l=>Yu P t len k l|none=>.stuck "buildSlice: operands"
 | .load t x=>o1 ρ x λa=>Ya P G t H a
 | .store t x y=>o2 ρ x y λa b=>Yb P t H a b
 | .nilCheck x=>o1 ρ x Yp
 | .binOp op t x y _=>o2 ρ x y λa b=>Ym P SE fc op t a b
 | .unOp op _ x=>o1 ρ x λa=>Yn op a
 | .convert s d x=>o1 ρ x λa=>Yo P s d a
 | .makeFunc f a c=>match KD ρ a.toList,KD ρ c.toList with|some x,some y=>one (.fn f x y)|_,_=>.stuck "makeFunc"
 | .fieldAddr t x f=>o1 ρ x λa=>M7 "fieldAddr" (Yd P t f a)
 | .field t x f=>o1 ρ x λa=>M7 "field" (Yc P t f a)
 | .indexAddr t x i=>o2 ρ x i λa b=>Yf P fc t a b
 | .index t x i=>o2 ρ x i λa b=>Yg P fc t a b
 | .extract x i=>o1 ρ x λa=>M7 "extract" (Yh a i)
 | .call { callee:=.builtin .len,args:=args,argTypes:=ts }=>match args.toList,ts.toList with
  | [x],[t]=>o1 ρ x λa=>sLen P t H a
  | _,_=>.stuck "len: operands"
 | .call { callee:=.builtin .min,args:=args,argTypes:=_ }=>match args.toList with
  | [x,y]=>o2 ρ x y λa b=>match a,b with
   | .int k a,.int _ b=>xI (XP a b) λx=>one (.int k x)
   | _,_=>.stuck "min"
  | _=>.stuck "min: operands"
 | .call { callee:=.builtin .max,args:=args,argTypes:=_ }=>match args.toList with
  | [x,y]=>o2 ρ x y λa b=>match a,b with
   | .int k a,.int _ b=>xI (TQ a b) λx=>one (.int k x)
   | _,_=>.stuck "max"
  | _=>.stuck "max: operands"
 | .sliceToArrayPointer t x=>o1 ρ x λa=>Yq P t a
 | .makeSlice t x y=>o2 ρ x y λa b=>Yr P t k a b
 | .slice t x none none none=>o1 ρ x λa=>Yt P t a
 | _=>.stuck "no such operation"
open Go.RowKit
theorem SH.den_get {s:ut} {H:SH} {k:Nat} {o:SO} {t:TypeId} (h:hget H k=some o) (ht:o.t=some t):SH.den s H k=some (.own (SV.dens s o.c) t):=by unfold SH.den;rw[h,Option.map_some,SO.den_own s ht]
theorem SH.den_nat {s:ut} {H:SH} {k:Nat} {o:SO} (h:hget H k=some o) (ht:o.t=none) (hm:Bv o.c=none) (ho:BX o.c=none):SH.den s H k=some (.rd (uH ((Ed o.c).den s).toNat) (Bu ((Ed o.c).den s).toNat)):=by unfold SH.den;rw[h,Option.map_some,SO.den_nat s ht hm ho]
theorem SH.den_ora {s:ut} {H:SH} {k:Nat} {o:SO} {r:QQ} (h:hget H k=some o) (ht:o.t=none) (hm:Bv o.c=none) (ho:BX o.c=some r):SH.den s H k=some (.rd (r.n.den s).toNat (AB s r.b r.ks (r.n.den s).toNat)):=by unfold SH.den;rw[h,Option.map_some,SO.den_ora s ht hm ho]
theorem SH.den_map {s:ut} {H:SH} {k:Nat} {o:SO} {es:List (Value×Value)} (h:hget H k=some o) (ht:o.t=none) (hm:Bv o.c=some es):SH.den s H k=some (.mp es):=by unfold SH.den;rw[h,Option.map_some,SO.den_map s ht hm]
section
variable {P:Program} {G:uG} {SE:Nc} {E:vR} {Φ:wH} {s:ut} {r:SR} {fc:Facts}
theorem Ef {a:SV} (h:(one a).path Φ s=some r):r=(a,[],[]):=by cases h;rfl
theorem QT {w:String} {x:Option SV} (h:(M7 w x).path Φ s=some r):∃ a,x=some a/\r=(a,[],[]):=by
 cases x with
 | none=>cases h
 | some a=>cases h;exact⟨a,rfl,rfl⟩
theorem Bw {ρ:Operand->Option SV} {x:Operand} {f:SV->tL SR} (h:(o1 ρ x f).path Φ s=some r):∃ a,ρ x=some a/\(f a).path Φ s=some r:=by
 unfold o1 at h;split at h
 ·rename_i a ha;exact⟨a,ha,h⟩
 ·cases h
theorem KE {ρ:Operand->Option SV} {x y:Operand} {f:SV->SV->tL SR} (h:(o2 ρ x y f).path Φ s=some r):∃ a b,ρ x=some a/\ρ y=some b/\(f a b).path Φ s=some r:=by
 unfold o2 at h;split at h
 ·rename_i a ha;split at h
  ·rename_i b hb;exact⟨a,b,ha,hb,h⟩
  ·cases h
 ·cases h
theorem Di {x:X} {k:X->tL SR} (h:(xI x k).path Φ s=some r):(k x).path Φ s=some r:=by rwa [amH] at h
theorem amY {t:TypeId} {H:SH} {a:SV} (h:(Ya P G t H a).path Φ s=some r):AU P G t (SH.den s H) (a.den s)=some (r.1.den s,r.2.1,uY s r.2.2):=by
 unfold Ya at h;split at h
 ·rename_i b off;split at h
  ·rename_i o ho;split at h
   ·rename_i t0 ht;split at h
    ·rename_i r' hr;cases h;simp only[SV.den,AU,SH.den_get ho ht,KA s hr];rfl
    ·cases h
   ·cases h
  ·cases h
 ·rename_i g off;split at h
  ·rename_i c hc;split at h
   ·rename_i r' hr;cases h;have:=KA s hr;rw[Ec] at this;simp only[SV.den,AU,hc,this];rfl
   ·cases h
  ·cases h
 ·cases h
theorem amZ {t:TypeId} {H:SH} {x y:SV} (h:(Yb P t H x y).path Φ s=some r):GI P t (SH.den s H) (x.den s) (y.den s)=some (r.1.den s,r.2.1,uY s r.2.2):=by
  unfold Yb at h;split at h
  · rename_i b off;split at h
    · cases h
    · rename_i o hno ho
      obtain⟨t0,ht⟩:∃ t0,o.t=some t0:=by
        obtain⟨c,t0⟩:=o
        cases t0 with
        | none=>exact absurd rfl (hno c)
        | some t0=>exact⟨t0,rfl⟩
      split at h
      · rename_i n h1 hn;split at h
        · rename_i h2 h3;rw[Ku] at h;cases h;have h2:=vH.1 h2;have h3:=Nat.le_of_ble_eq_true h3;have hl:(wz (y.den s)).length=(cellsS y).length:=by rw[<- M6,Cw]
          have ha:(wz (y.den s)).all Kk=true:=by rw[<- M6,SV.dens_map,List.all_map,List.all_eq_true];intro z hz;exact amX (List.all_eq_true.1 h1 z hz)
          simp only[SV.den,GI,SH.den_get ho ht]
          rw[if_pos (by
            simp only[Bool.and_eq_true,decide_eq_true_eq];refine⟨⟨ha,?_⟩,?_⟩
            · rw[hl,hn,h2]
            · rw[hl,Cw];exact h3)]
          congr 3;simp only[uY,List.map_cons,List.map_nil,ht,SO.den,aea,IX,X8,X9,M6,<- hl]
        · cases h
      · cases h
    · cases h
  · cases h
theorem am0 {t:TypeId} {l:List AV} {f off:Nat} {ft:TypeId} (hf:FR P t f=some (off,ft)):IB P t f (zm l)=yF P ft l off:=by
 have hc:=QR l;unfold zm at hc ⊢
 cases h:wJ l with
 | none=>simp only[IB,hf,wz]
 | some vs =>
  rw[h] at hc;simp only[IB,hf];rw[hc]
theorem am1 {t:TypeId} {f:Nat} {x a:SV} (h:Yc P t f x=some a):IB P t f (x.den s)=some (a.den s):=by
 unfold Yc at h;split at h
 ·rename_i l;split at h
  ·rename_i off ft hf;simp only[SV.den];rw[am0 hf,KA s h]
  ·cases h
 ·rename_i cs;split at h
  ·rename_i off ft hf;have:=KA s h;rw[Ec] at this;simp only[SV.den,IB,hf,wz,Value.cells];exact this
  ·cases h
 ·cases h
theorem am2 {t:TypeId} {f:Nat} {x a:SV} (h:Yd P t f x=some a):IC P t f (x.den s)=some (a.den s):=by
 unfold Yd at h;unfold IC;split at h
 ·rename_i off ft hf;rw[hf];simp only;split at h
  ·rename_i n hs;rw[hs];simp only;split at h
   ·rw[wQ] at h;cases h;rfl
   ·rw[wQ] at h;cases h;rfl
   ·cases h
  ·cases h
 ·cases h
theorem am3 (hf:vO s fc) {t:TypeId} {H:tZ} {x i:SV} (h:(Yf P fc t x i).path Φ s=some r):Cr (Dg P t H (x.den s) (i.den s))=some (r.1.den s,r.2.1,uY s r.2.2):=by
 unfold Yf at h;split at h
 ·rename_i k n;split at h
  ·rename_i b o;split at h
   ·rename_i len el ha;split at h
    ·rename_i sz hs;obtain⟨j,h1,h2,h3⟩:=QS hf h;rw[wQ] at h3;cases h3;simp only[SV.den,Dg,ha,hs,h2];rw[if_pos ⟨by omega,by omega⟩];rfl
    ·cases h
   ·cases h
  ·rename_i g o;split at h
   ·rename_i len el ha;split at h
    ·rename_i sz hs;obtain⟨j,h1,h2,h3⟩:=QS hf h;rw[wQ] at h3;cases h3;simp only[SV.den,Dg,ha,hs,h2];rw[if_pos ⟨by omega,by omega⟩];rfl
    ·cases h
   ·cases h
  ·rename_i b o len cap;split at h
   ·rename_i el ha;split at h
    ·rename_i sz hs;obtain⟨j,h1,h2,h3⟩:=QS hf h;rw[wQ] at h3;cases h3;simp only[SV.den,Dg,ha,hs,h2];rw[if_pos ⟨by omega,by omega⟩];rfl
    ·cases h
   ·cases h
  ·cases h
 ·cases h
theorem am4 {t:TypeId} {l:List AV} {k:IntKind} {n:Int} {len el sz:Nat} (ha:BJ P t=some (len,el)) (hs:wu P el=some sz) (hn:0<=n/\n<len):IE P t (zm l) (.v (.int k n))=yF P el l (n.toNat*sz):=by
 have hc:=QR l;unfold zm at hc ⊢
 cases h:wJ l with
 | none=>simp only[IE,ha,hs,if_pos hn]
 | some vs =>
  rw[h] at hc;simp only[wz,Value.cells] at hc;simp only[IE,ha,hs,if_pos hn];rw[hc]
theorem am5 (hf:vO s fc) {t:TypeId} {x i:SV} (h:(Yg P fc t x i).path Φ s=some r):wt (IE P t (x.den s) (i.den s))=some (r.1.den s,r.2.1,uY s r.2.2):=by
 unfold Yg at h;split at h
 ·rename_i k n;split at h
  ·rename_i l;split at h
   ·rename_i len el ha;split at h
    ·rename_i sz hs;obtain⟨j,h1,h2,h3⟩:=QS hf h;obtain⟨a,h4,rfl⟩:=QT h3;simp only[SV.den];rw[am4 ha hs (by rw[h2];omega),h2,show((j:Int)).toNat=j by simp,KA s h4];rfl
    ·cases h
   ·cases h
  ·rename_i cs;split at h
   ·rename_i len el ha;split at h
    ·rename_i sz hs;obtain⟨j,h1,h2,h3⟩:=QS hf h;obtain⟨a,h4,rfl⟩:=QT h3;have:=KA s h4;rw[Ec] at this;simp only[SV.den,IE,ha,hs,h2];rw[if_pos ⟨by omega,by omega⟩,show((j:Int)).toNat=j by simp,this];rfl
    ·cases h
   ·cases h
  ·cases h
 ·cases h
theorem am6 {x a:SV} {i:Nat} (h:Yh x i=some a):Mq (x.den s) i=some (a.den s):=by
 unfold Yh at h;split at h
 ·rename_i vs;split at h
  ·rename_i v hv;cases h;simp only[SV.den,Mq,hv,X5]
  ·cases h
 ·rename_i l;have:=ad9 s h;simp only[SV.den];unfold Av
  cases hv:wJ (SV.dens s l) with
  | none=>exact this
  | some vs =>
   have h2:=Kj (e:=⟨λ_=>0,λ_=>undef⟩) hv
   have h3:SV.dens s l=vs.map .v:=by have h4:=QR (SV.dens s l);unfold zm at h4;rw[hv] at h4;simpa [wz,Value.cells] using h4.symm
   rw[h3] at this;simp only[Mq];rw[List.getElem?_map] at this
   cases hg:vs[i]? with
   | none=>rw[hg] at this;cases this
   | some v=>rw[hg] at this;simp only[List.getElem?_toArray,List.toList_toArray,hg];exact this
 ·cases h
theorem am7 {c:X} {w:String} {b:tL SR} (h:(MS c (.stuck w) b).path Φ s=some r):c.den s=0/\b.path Φ s=some r:=by
 rw[XR] at h;split at h
 ·rename_i hc;exact⟨hc,h⟩
 ·cases h
theorem aeb {b:Bool} (h:ui b=0):b=false:=by cases b<;>first|rfl|cases h
theorem am8 {k:IntKind} (hk:k.signed=false) (n:Int):0<=k.wrap n:=by unfold IntKind.wrap IntKind.bits;cases k<;>first|(cases hk;done)|(simp[IntKind.signed];omega)
theorem aec (hf:vO s fc) {w:String} {c:X} {t:tL SR} (h:(IY fc w c t).path Φ s=some r):c.den s=0/\t.path Φ s=some r:=by
 unfold IY at h;split at h
 ·cases h
 ·rename_i hd;have:=Br hf hd;exact⟨by simpa using this,h⟩
 ·exact am7 h
theorem am9 (hf:vO s fc) {t:TypeId} {op:BinOp} {k k':IntKind} {a b:X} (h:(Yk fc op k k' a b).path Φ s=some r):∃ v,zn P op t (.int k (a.den s)) (.int k' (b.den s))=some v /\ .v v=r.1.den s/\r.2=([],[]):=by
 have ar:∀ {op':BinOp},(xI (xu op' k a b) λx=>one (.int k x)).path Φ s=some r->AV.v (.int k (uA op' k (a.den s) (b.den s)))=r.1.den s/\r.2=([],[]):=λh=>by have h:=Ef (Di h);subst h;exact⟨by simp only[SV.den,IQ],rfl⟩
 have cm:∀ {op':BinOp},(xI (xu op' k a b) λx=>one (.bool x)).path Φ s=some r->AV.v (.bool (uA op' k (a.den s) (b.den s) != 0))=r.1.den s/\r.2=([],[]):=λh=>by have h:=Ef (Di h);subst h;exact⟨by simp only[SV.den,IQ],rfl⟩
 have nn:∀ {op':BinOp},(match X.inK k' b,k'.signed with
   | true,false=>xI (xu op' k a b) λx=>one (.int k x)
   | _,_=>IY fc "shift below 0" (xu .lss k' b (.lit (.ofNat 0))) (xI (xu op' k a b) λx=>one (.int k x))).path Φ s=some r ->
   ¬ b.den s<0/\(xI (xu op' k a b) λx=>one (.int k x)).path Φ s=some r:=λh=>by
  split at h
  ·rename_i h1 h2;refine⟨?_,h⟩;rw[<- X.inK_ok s h1];have:=am8 h2 (b.den s);omega
  ·obtain⟨h1,h2⟩:=aec hf h;refine⟨?_,h2⟩;rw[IQ] at h1;have:=aeb h1;intro hc;simp only[decide_eq_false_iff_not] at this;exact this hc
 have nz:∀ {op':BinOp},(IY fc "by 0" (xu .eql k' b (.lit (.ofNat 0))) (xI (xu op' k a b) λx=>one (.int k x))).path Φ s=some r ->
   b.den s≠0/\(xI (xu op' k a b) λx=>one (.int k x)).path Φ s=some r:=λh=>by
  obtain⟨h1,h2⟩:=aec hf h;refine⟨?_,h2⟩;rw[IQ] at h1;have:=aeb h1;intro hc;rw[hc] at this;cases this
 cases op<;>simp only[Yk] at h
 case shl =>
  obtain⟨h1,h2⟩:=nn h;exact⟨_,by simp only[zn,if_neg h1];rfl,ar h2⟩
 case shr =>
  obtain⟨h1,h2⟩:=nn h;exact⟨_,by simp only[zn,if_neg h1];rfl,ar h2⟩
 case quo =>
  split at h
  ·rename_i hk;have hk:=Az hk;obtain⟨h1,h2⟩:=nz h;exact⟨_,by simp only[zn,if_pos (And.intro hk h1)];rfl,ar h2⟩
  ·cases h
 case rem =>
  split at h
  ·rename_i hk;have hk:=Az hk;obtain⟨h1,h2⟩:=nz h;exact⟨_,by simp only[zn,if_pos (And.intro hk h1)];rfl,ar h2⟩
  ·cases h
 all_goals
  split at h
  ·rename_i hk;have hk:=Az hk
   first
    | exact⟨_,by simp only[zn,if_pos hk,uA,adR],ar h⟩
    | exact⟨_,by simp only[zn,if_pos hk,uA,xe],cm h⟩
  ·cases h
theorem ana (hSE:Ud P SE E) (hf:vO s fc) {t:TypeId} {op:BinOp} {x y:SV} (h:(Ym P SE fc op t x y).path Φ s=some r):wt (IG P E op t (x.den s) (y.den s))=some (r.1.den s,r.2.1,uY s r.2.2):=by
 unfold Ym at h;split at h
 ·rename_i k a k' b;obtain⟨v,h1,h2,h3⟩:=am9 (P:=P) hf (t:=t) h;simp only[SV.den,IG,h1,wt,h2,h3];rfl
 ·rename_i a b;split at h
  ·rename_i hu;split at h
   ·have h:=Ef (Di h);subst h;simp only[SV.den,IG,zn,hu,wt,adW,xe];rfl
   ·have h:=Ef (Di h);subst h;simp only[SV.den,IG,zn,hu,wt,XO,adW,xe];rfl
   ·cases h
  ·cases h
 ·rename_i hi hb;have key:∀ u,SE t x y=some u->∃ a b,x.den s = .v a/\y.den s = .v b/\zn P .eql t a b=none/\zn P .neq t a b=none/\E .eql t a b=some (.bool (u.den s != 0))/\E .neq t a b=some (.bool (!(u.den s != 0))):=λu hu=>hSE t x y u s hu
  split at h
  ·split at h
   ·rename_i u hu;have h:=Ef (Di h);subst h;obtain⟨a,b,h1,h2,p1,p2,h3,h4⟩:=key u hu;simp only[h1,h2,IG,p1,h3,wt,SV.den];rfl
   ·cases h
  ·split at h
   ·rename_i u hu;have h:=Ef (Di h);subst h;obtain⟨a,b,h1,h2,p1,p2,h3,h4⟩:=key u hu;simp only[h1,h2,IG,p2,h4,wt,SV.den,XO,xe];rfl
   ·cases h
  ·cases h
theorem anb {op:UnOp} {x:SV} (h:(Yn op x).path Φ s=some r):wt (Mr op (x.den s))=some (r.1.den s,r.2.1,uY s r.2.2):=by
 unfold Yn at h;split at h
 ·have h:=Ef (Di h);subst h;simp only[SV.den,Mr,wt,IQ,uA];rfl
 ·have h:=Ef (Di h);subst h;simp only[SV.den,Mr,wt,adV,QM,adR];rfl
 ·have h:=Ef (Di h);subst h;simp only[SV.den,Mr,wt,XO,xe];rfl
 ·cases h
theorem anc {src dst:TypeId} {x:SV} (h:(Yo P src dst x).path Φ s=some r):wt (Tt P src dst (x.den s))=some (r.1.den s,r.2.1,uY s r.2.2):=by
 unfold Yo at h;split at h
 ·split at h
  ·rename_i k d hk hd;have h:=Ef (Di h);subst h;simp only[SV.den,Tt,hk,hd,wt,amK];rfl
  ·cases h
 ·cases h
theorem ane (f:FuncId) (a c:List AV):Tu (Aw (.func f) a c)=some (Aw (.func f) a c):=by unfold Aw;split<;>rfl
theorem anf {x:SV} (h:(Yp x).path Φ s=some r):wt (Tu (x.den s))=some (r.1.den s,r.2.1,uY s r.2.2):=by
 unfold Yp at h;split at h
 ·cases h;rfl
 ·cases h;rfl
 ·cases h;rfl
 ·cases h;simp only[SV.den,ane,wt];rfl
 ·cases h
theorem ang {t:TypeId} {H:SH} {x:SV} (h:(sLen P t H x).path Φ s=some r):Cr (BL P t (SH.den s H) (x.den s))=some (r.1.den s,r.2.1,uY s r.2.2):=by
 unfold sLen at h;split at h
 ·rename_i el hu;split at h
  ·rename_i k;split at h
   ·rename_i kd x hk;cases h;simp only[SV.den,BL,hu,SH.den_nat hk rfl rfl rfl];rfl
   ·rename_i c _ hk;split at h
    ·rename_i ro hm ho;have h:=Di h;cases h;simp only[SV.den,BL,hu,SH.den_ora hk rfl hm ho,Cr,adX,X.den]
     have e:((ro.n.den s).toNat:Int)=if Int.ofNat 0>ro.n.den s then Int.ofNat 0 else ro.n.den s:=by show _=if (0:Int)>ro.n.den s then(0:Int) else ro.n.den s;split<;>omega
     rw[e];rfl
    ·cases h
   ·cases h
  ·cases h;simp only[SV.den,BL,hu];rfl
  ·cases h;simp only[SV.den,BL,hu];rfl
  ·cases h
 ·rename_i hu;split at h
  ·rw[wQ] at h;cases h;simp only[SV.den,BL,hu];rfl
  ·cases h
 ·rename_i n el hu;cases h;simp only[BL,hu];rfl
 ·cases h
theorem anh {t:TypeId} {H:tZ} {x:SV} (h:(Yq P t x).path Φ s=some r):Cr (GL P t H (x.den s))=some (r.1.den s,r.2.1,uY s r.2.2):=by
 unfold Yq at h;split at h
 ·rename_i n el ha;split at h
  ·split at h
   ·rename_i hb;cases h;simp only[SV.den,GL,ha,if_pos (Nat.le_of_ble_eq_true hb)];rfl
   ·cases h
  ·cases h
 ·cases h
theorem ani {t:TypeId} {k:Nat} {x y:SV} (h:(Yr P t k x y).path Φ s=some r):Mt P t k (x.den s) (y.den s)=some (r.1.den s,r.2.1,uY s r.2.2):=by
 unfold Yr at h;split at h
 ·rename_i k1 n k2 m;split at h
  ·rename_i el hel;split at h
   ·rename_i sz z b hs hz hb;split at h
    ·rename_i h1 h2 h3 h4;rw[Ku] at h;cases h;have h1:=Nat.le_of_ble_eq_true h1;have h2:m<16777216:=by simpa [Nat.blt_eq] using h2
     have h3:=Nat.le_of_ble_eq_true h3;have h4:m*sz≠0:=λe=>by rw[e] at h4;cases h4
     simp only[SV.den,X.den,Mt,hel,hs,hz,hb,Int.ofNat_eq_natCast];rw[if_pos ⟨by omega,by omega,by omega,h3,by simpa using h4⟩];simp only[uY,List.map_cons,List.map_nil,SO.den,Ec,Int.ofNat_eq_natCast,Int.toNat_natCast]
    ·cases h
   ·cases h
  ·cases h
 ·cases h
theorem anj {t:TypeId} {x:SV} (h:(Yt P t x).path Φ s=some r):wt (Qz P t (x.den s))=some (r.1.den s,r.2.1,uY s r.2.2):=by
 unfold Yt at h;split at h
 ·rename_i n el ha;split at h
  ·rename_i b o sz hs;cases h;simp only[SV.den,Qz,ha,hs];rfl
  ·cases h
 ·cases h
theorem ank {t:TypeId} {len k:Nat} {ps:List (Nat×SV)} (h:(Yu P t len k ps).path Φ s=some r):Ms P t len k (Ub s ps)=some (r.1.den s,r.2.1,uY s r.2.2):=by
 unfold Yu at h;split at h
 ·rename_i el hel;split at h
  ·rename_i sz z hs hz;split at h
   ·rename_i h1 h2;split at h
    ·rename_i c hc;cases h;have h1:=Nat.le_of_ble_eq_true h1;have h2:len*sz≠0:=λe=>by rw[e] at h2;cases h2
     have h3:=Yi s hc;rw[Ec] at h3;simp only[Ms,hel,hs,hz,h3];rw[if_pos ⟨h1,h2⟩];rfl
    ·cases h
   ·cases h
  ·cases h
 ·cases h
theorem anl (hSE:Ud P SE E) (hf:vO s fc) {op:Op} {ρ:Operand->Option SV} {ρ':Operand->Option AV} (hρ:RD s ρ ρ') {H:SH} {k:Nat} (h:(Yv P G SE fc op ρ H k).path Φ s=some r) :
  uM P G E op ρ' (SH.den s H) k=some (r.1.den s,r.2.1,uY s r.2.2):=by
 unfold Yv at h;split at h
 ·obtain⟨a,ha,h⟩:=Bw h;cases h;simp only[uM,hρ _ _ ha,wt];rfl
 ·obtain⟨a,ha,h⟩:=Bw h;cases h;simp only[uM,hρ _ _ ha,wt];rfl
 ·obtain⟨v,hv,h⟩:=Bw h;split at h
  ·rename_i q;rw[XR] at h;have hq:=hρ _ _ hv;split at h
   ·rename_i hc;obtain⟨a,ha,h⟩:=Bw h;cases h;simp only[uM,hq,SV.den,hc,bne_self_eq_false,Bool.false_eq_true,if_false,hρ _ _ ha,wt];rfl
   ·rename_i hc;obtain⟨a,ha,h⟩:=Bw h;cases h;have:(q.den s != 0)=true:=by simpa using hc
    simp only[uM,hq,SV.den,this,if_true,hρ _ _ ha,wt];rfl
  ·cases h
 ·split at h
  ·rename_i z hz;rw[Ku] at h;cases h;simp only[uM,hz,SV.den,uY,List.map_cons,List.map_nil,SO.den,Ec]
  ·cases h
 ·obtain⟨a,ha,h⟩:=Bw h;rw[Ku] at h;cases h;simp only[uM,hρ _ _ ha,SV.den,uY,List.map_cons,List.map_nil,SO.den,M6]
 ·split at h
  ·rename_i l z hl hz;split at h
   ·rename_i hs;split at h
    ·rename_i c hc;cases h;have h3:=Yi s hc;rw[Ec] at h3;simp only[uM,Yj hρ hl,hz,hs,if_true,h3,SV.den];rfl
    ·cases h
   ·cases h
  ·cases h
 ·split at h
  ·rename_i l hl;simp only[uM,Yj hρ hl];exact ank h
  ·cases h
 ·obtain⟨a,ha,h⟩:=Bw h;simp only[uM,hρ _ _ ha];exact amY h
 ·obtain⟨a,b,ha,hb,h⟩:=KE h;simp only[uM,hρ _ _ ha,hρ _ _ hb];exact amZ h
 ·obtain⟨a,ha,h⟩:=Bw h;simp only[uM,hρ _ _ ha];exact anf h
 ·obtain⟨a,b,ha,hb,h⟩:=KE h;simp only[uM,hρ _ _ ha,hρ _ _ hb];exact ana hSE hf h
 ·obtain⟨a,ha,h⟩:=Bw h;simp only[uM,hρ _ _ ha];exact anb h
 ·obtain⟨a,ha,h⟩:=Bw h;simp only[uM,hρ _ _ ha];exact anc h
 ·split at h
  ·rename_i x y hx hy;cases h;simp only[uM,Uc hρ hx,Uc hρ hy,SV.den];rfl
  ·cases h
 ·obtain⟨a,ha,h⟩:=Bw h;obtain⟨b,hb,rfl⟩:=QT h;simp only[uM,hρ _ _ ha,am2 hb,wt];rfl
 ·obtain⟨a,ha,h⟩:=Bw h;obtain⟨b,hb,rfl⟩:=QT h;simp only[uM,hρ _ _ ha,am1 hb,wt];rfl
 ·obtain⟨a,b,ha,hb,h⟩:=KE h;simp only[uM,hρ _ _ ha,hρ _ _ hb];exact am3 hf h
 ·obtain⟨a,b,ha,hb,h⟩:=KE h;simp only[uM,hρ _ _ ha,hρ _ _ hb];exact am5 hf h
 ·obtain⟨a,ha,h⟩:=Bw h;obtain⟨b,hb,rfl⟩:=QT h;simp only[uM,hρ _ _ ha,am6 hb,wt];rfl
 ·split at h
  ·rename_i x t hx ht;obtain⟨a,ha,h⟩:=Bw h;simp only[uM,hx,ht,hρ _ _ ha];exact ang h
  ·cases h
 ·split at h
  ·rename_i x y hx;obtain⟨a,b,ha,hb,h⟩:=KE h;split at h
   ·have h:=Ef (Di h);subst h;simp only[uM,hx,hρ _ _ ha,hρ _ _ hb,SV.den,amM];rfl
   ·cases h
  ·cases h
 ·split at h
  ·rename_i x y hx;obtain⟨a,b,ha,hb,h⟩:=KE h;split at h
   ·have h:=Ef (Di h);subst h;simp only[uM,hx,hρ _ _ ha,hρ _ _ hb,SV.den,adX];rfl
   ·cases h
  ·cases h
 ·obtain⟨a,ha,h⟩:=Bw h;simp only[uM,hρ _ _ ha];exact anh h
 ·obtain⟨a,b,ha,hb,h⟩:=KE h;simp only[uM,hρ _ _ ha,hρ _ _ hb];exact ani h
 ·obtain⟨a,ha,h⟩:=Bw h;simp only[uM,hρ _ _ ha];exact anj h
 ·cases h
end
mutual
def AV.ren (f:Nat->Nat):AV->AV
 | .v x=>.v x
 | .loc b off=>.loc (f b) off
 | .sl b off len cap=>.sl (f b) off len cap
 | .hd k=>.hd (f k)
 | .ha k off=>.ha (f k) off
 | .fn g a c=>.fn g (AV.rens f a) (AV.rens f c)
 | .tup l=>.tup (AV.rens f l)
 | .agg l=>.agg (AV.rens f l)
def AV.rens (f:Nat->Nat):List AV->List AV
 | []=>[]
 | x::l=>AV.ren f x::AV.rens f l
end
def AO.ren (f:Nat->Nat):AO->AO
 | .own c t=>.own (AV.rens f c) t
 | .rd n c=>.rd n c
 | .mp es=>.mp es
def aed (f:Nat->Nat) (e e':Env) (l:List Nat):Prop:=∀ r∈l,e'.blk (f r)=e.blk r/\e'.hnd (f r)=e.hnd r
mutual
theorem AV.ren_val {f:Nat->Nat} {e e':Env} : ∀ x:AV,aed f e e' x.refs->(x.ren f).val e'=x.val e
 | .v _,_=>rfl
 | .loc b off,h=>by simp only[AV.ren,AV.val];rw[(h b (by simp[AV.refs])).1]
 | .sl b off len cap,h=>by simp only[AV.ren,AV.val];rw[(h b (by simp[AV.refs])).1]
 | .hd k,h=>by simp only[AV.ren,AV.val];rw[(h k (by simp[AV.refs])).2]
 | .ha k off,h=>by simp only[AV.ren,AV.val];rw[(h k (by simp[AV.refs])).2]
 | .fn g a c,h=>by simp only[AV.ren,AV.val];rw[AV.rens_val a (λr hr=>h r (by rw[AV.refs];exact List.mem_append_left _ hr)),AV.rens_val c (λr hr=>h r (by rw[AV.refs];exact List.mem_append_right _ hr))]
 | .tup l,h=>by simp only[AV.ren,AV.val];rw[AV.rens_val l (λr hr=>h r (by rw[AV.refs];exact hr))]
 | .agg l,h=>by simp only[AV.ren,AV.val];rw[AV.rens_val l (λr hr=>h r (by rw[AV.refs];exact hr))]
theorem AV.rens_val {f:Nat->Nat} {e e':Env} : ∀ l:List AV,aed f e e' (AV.refss l)->AV.vals e' (AV.rens f l)=AV.vals e l
 | [],_=>rfl
 | x::l,h=>by rw[AV.rens,AV.vals,AV.vals,AV.ren_val x (λr hr=>h r (by rw[AV.refss];exact List.mem_append_left _ hr)),AV.rens_val l (λr hr=>h r (by rw[AV.refss];exact List.mem_append_right _ hr))]
end
mutual
theorem AV.ren_refs {f:Nat->Nat} : ∀ (x:AV) {r:Nat},r∈(x.ren f).refs->∃ q∈x.refs,r=f q
 | .v _,r,h=>by simp[AV.ren,AV.refs] at h
 | .loc b off,r,h=>by simp[AV.ren,AV.refs] at h;exact⟨b,by simp[AV.refs],h⟩
 | .sl b off len cap,r,h=>by simp[AV.ren,AV.refs] at h;exact⟨b,by simp[AV.refs],h⟩
 | .hd k,r,h=>by simp[AV.ren,AV.refs] at h;exact⟨k,by simp[AV.refs],h⟩
 | .ha k off,r,h=>by simp[AV.ren,AV.refs] at h;exact⟨k,by simp[AV.refs],h⟩
 | .fn g a c,r,h=>by
  simp only[AV.ren,AV.refs,List.mem_append] at h;rcases h with h|h
  ·obtain⟨q,hq,e⟩:=AV.rens_refs a h;exact⟨q,by rw[AV.refs];exact List.mem_append_left _ hq,e⟩
  ·obtain⟨q,hq,e⟩:=AV.rens_refs c h;exact⟨q,by rw[AV.refs];exact List.mem_append_right _ hq,e⟩
 | .tup l,r,h=>by simp only[AV.ren,AV.refs] at h;obtain⟨q,hq,e⟩:=AV.rens_refs l h;exact⟨q,by rw[AV.refs];exact hq,e⟩
 | .agg l,r,h=>by simp only[AV.ren,AV.refs] at h;obtain⟨q,hq,e⟩:=AV.rens_refs l h;exact⟨q,by rw[AV.refs];exact hq,e⟩
theorem AV.rens_refs {f:Nat->Nat} : ∀ (l:List AV) {r:Nat},r∈AV.refss (AV.rens f l)->∃ q∈AV.refss l,r=f q
 | [],r,h=>by simp[AV.rens,AV.refss] at h
 | x::l,r,h=>by
  simp only[AV.rens,AV.refss,List.mem_append] at h;rcases h with h|h
  ·obtain⟨q,hq,e⟩:=AV.ren_refs x h;exact⟨q,by rw[AV.refss];exact List.mem_append_left _ hq,e⟩
  ·obtain⟨q,hq,e⟩:=AV.rens_refs l h;exact⟨q,by rw[AV.refss];exact List.mem_append_right _ hq,e⟩
end
def yQ (src:Nat->Option Nat) (e e2:Env):Env:=⟨λj=>match src j with|some n=>e2.blk n|none=>e.blk j,λj=>match src j with|some n=>e2.hnd n|none=>e.hnd j⟩
theorem Eg {src:Nat->Option Nat} {e e2:Env} {j n:Nat} (h:src j=some n):(yQ src e e2).blk j=e2.blk n/\(yQ src e e2).hnd j=e2.hnd n:=by unfold yQ;simp only[h];exact⟨trivial,trivial⟩
theorem Dj {src:Nat->Option Nat} {e e2:Env} {j:Nat} (h:src j=none):(yQ src e e2).blk j=e.blk j/\(yQ src e e2).hnd j=e.hnd j:=by unfold yQ;simp only[h];exact⟨trivial,trivial⟩
theorem anm {G:uG} {w0:World} {B0:ve} {e:Env} {H':tZ} {w:World} (R:uO G w0 B0 e H' w) {keys:List Nat} {B:ve} (hBd:B.dom=keys) (hBb:∀ b∈B.blks,∃ j∈keys,b=e.blk j) (hBe:B.env=e)
  {e2:Env} {Hc:tZ} {w':World} (R2:uO G w B e2 Hc w') (hown:∀ j∈keys,∃ c t,H' j=some (.own c t)) {src:Nat->Option Nat} {f:Nat->Nat}
  (h1:∀ j n,src j=some n->f n=j/\∃ c t,Hc n=some (.own c t)/\∀ r∈AV.refss c,src (f r)=some r)
  (h2:∀ j∈keys,src j=some j) (h3:∀ j,j∉keys->src j≠none->H' j=none) {Hn:tZ} (hn:∀ j,Hn j=match src j with|some n=>(Hc n).map (AO.ren f)|none=>H' j) :
  uO G w0 B0 (yQ src e e2) Hn w'/\Env.on H' e (yQ src e e2)/\∀ j,H' j≠none->Hn j≠none:=by
 have hK:∀ j∈keys,e2.blk j=e.blk j/\e2.hnd j=e.hnd j:=λj hj=>by have:=(R2.env j (by rw[hBd];exact hj)).2;rw[hBe] at this;exact this
 have hon:Env.on H' e (yQ src e e2):=by
  intro j hj
  cases hs:src j with
  | none=>exact Dj hs
  | some n =>
   rw[(Eg hs).1,(Eg hs).2];by_cases hm:j∈keys
   ·have:=h2 j hm;rw[hs] at this;cases this;exact hK j hm
   ·exact absurd (h3 j hm (by rw[hs];simp)) hj
 have hdom:∀ j,H' j≠none->Hn j≠none:=by
  intro j hj;rw[hn]
  cases hs:src j with
  | none=>exact hj
  | some n =>
   obtain⟨_,c,t,hc,_⟩:=h1 j n hs;simp[hc]
 have hbk:∀ n j,src j=some n->e2.blk n<w.heap.size->∃ i∈keys,e2.blk n=e.blk i:=by
  intro n j hs hlt;obtain⟨_,c,t,hc,_⟩:=h1 j n hs;rcases R2.ge n c t hc with hg|hg
  ·omega
  ·exact hBb _ hg
 have hold:∀ b,b<w.heap.size->(∀ i∈keys,b≠e.blk i)->w'.heap[b]? = w.heap[b]?:=λb hb hne=>R2.old b hb (λhm=>by
  obtain⟨i,hi,rfl⟩:=hBb b hm;exact hne i hi rfl)
 have hnone:∀ j o,Hn j=some o->src j=none->H' j=some o:=λj o hj hs=>by rw[hn,hs] at hj;exact hj
 have hsome:∀ j n o,Hn j=some o->src j=some n->∃ c t,Hc n=some (.own c t)/\o = .own (AV.rens f c) t/\∀ r∈AV.refss c,src (f r)=some r:=λj n o hj hs=>by obtain⟨_,c,t,hc,hr⟩:=h1 j n hs;rw[hn,hs] at hj;simp only[hc,Option.map_some,AO.ren,Option.some.injEq] at hj;exact⟨c,t,hc,hj.symm,hr⟩
 refine⟨⟨R2.os.trans R.os,R2.tape.trans R.tape,R2.output.trans R.output,Nat.le_trans R.size R2.size,?_,R2.gl,?_,?_,?_,?_,?_,?_,?_,?_,λj n l hj b hv=>by
  cases hs:src j with
  | some m=>obtain⟨c0,t0,hc,ho,hr⟩:=hsome j m _ hj hs;cases ho
  | none=>rw[(Dj hs).2] at hv;exact R.new j n l (hnone j _ hj hs) b hv,λj es hj=>by
  cases hs:src j with
  | some m=>obtain⟨c0,t0,hc,ho,hr⟩:=hsome j m _ hj hs;cases ho
  | none =>
   have h0:=hnone j _ hj hs;obtain⟨m1,m2⟩:=R.mp j es h0;rw[(Dj hs).2];refine⟨m1.same (λb hv hb=>hold b hb (λi hi he=>?_)),λj' c t hj' hv=>?_⟩
   ·obtain⟨c',t',hi'⟩:=hown i hi;exact m2 i c' t' hi' (by rw[hv,he])
   ·cases hs':src j' with
    | none =>
     rw[(Dj hs').1] at hv;exact m2 j' c t (hnone j' _ hj' hs') hv
    | some m =>
     rw[(Eg hs').1] at hv;obtain⟨i,hi,he⟩:=hbk m j' hs' (m1.lt hv);obtain⟨c',t',hi'⟩:=hown i hi
     exact m2 i c' t' hi' (by rw[hv,he])⟩,hon,hdom⟩
 ·intro b hb hb0;rw[<- R.old b hb hb0];refine hold b (Nat.lt_of_lt_of_le hb R.size) (λi hi he=>?_);obtain⟨c,t,hc⟩:=hown i hi;rcases R.ge i c t hc with hg|hg
  ·omega
  ·rw[he] at hb0;exact hb0 hg
 ·intro j c t hj
  cases hs:src j with
  | some n =>
   obtain⟨c0,t0,hc,ho,hr⟩:=hsome j n _ hj hs;cases ho;rw[(Eg hs).1,AV.rens_val c0 (λr hrm=>Eg (hr r hrm))];exact R2.own n c0 t hc
  | none =>
   have h0:=hnone j _ hj hs;rw[(Dj hs).1,AV.vals_on hon c (λr hr=>R.refs j _ h0 r hr),hold (e.blk j) (R.lt h0) (λi hi he=>?_)]
   ·exact R.own j c t h0
   ·obtain⟨c',t',hi'⟩:=hown i hi;have:=R.inj j c t i c' t' h0 hi' he;rw[this,h2 i hi] at hs;cases hs
 ·intro j c t hj
  cases hs:src j with
  | some n =>
   obtain⟨c0,t0,hc,ho,hr⟩:=hsome j n _ hj hs;rw[(Eg hs).1];rcases R2.ge n c0 t0 hc with hg|hg
   ·exact .inl (Nat.le_trans R.size hg)
   ·obtain⟨i,hi,he⟩:=hBb _ hg;obtain⟨c',t',hi'⟩:=hown i hi;rw[he];exact R.ge i c' t' hi'
  | none=>rw[(Dj hs).1];exact R.ge j c t (hnone j _ hj hs)
 ·intro j c t hj x hx
  cases hs:src j with
  | some n =>
   obtain⟨c0,t0,hc,ho,hr⟩:=hsome j n _ hj hs;rw[(Eg hs).1];exact R2.glo n c0 t0 hc x hx
  | none=>rw[(Dj hs).1];exact R.glo j c t (hnone j _ hj hs) x hx
 ·have mix:∀ j n j',src j=some n->src j'=none->(∃ c t,H' j'=some (.own c t))->e2.blk n≠e.blk j':=by intro j n j' hs hs' ⟨c,t,hj'⟩ he;obtain⟨i,hi,h⟩:=hbk n j hs (by rw[he];exact R.lt hj');obtain⟨c',t',hi'⟩:=hown i hi;have:=R.inj i c' t' j' c t hi' hj' (by rw[<- h,he]);rw[<- this,h2 i hi] at hs';cases hs'
  intro j c t j' c' t' hj hj' he
  cases hs:src j with
  | some n =>
   obtain⟨c0,t0,hc,ho,hr⟩:=hsome j n _ hj hs;rw[(Eg hs).1] at he
   cases hs':src j' with
   | some n' =>
    obtain⟨c0',t0',hc',ho',hr'⟩:=hsome j' n' _ hj' hs';rw[(Eg hs').1] at he;have:=R2.inj n c0 t0 n' c0' t0' hc hc' he;rw[<- (h1 j n hs).1,<- (h1 j' n' hs').1,this]
   | none =>
    rw[(Dj hs').1] at he;exact absurd he (mix j n j' hs hs' ⟨c',t',hnone j' _ hj' hs'⟩)
  | none =>
   rw[(Dj hs).1] at he
   cases hs':src j' with
   | some n' =>
    rw[(Eg hs').1] at he;exact absurd he.symm (mix j' n' j hs' hs ⟨c,t,hnone j _ hj hs⟩)
   | none =>
    rw[(Dj hs').1] at he;exact R.inj j c t j' c' t' (hnone j _ hj hs) (hnone j' _ hj' hs') he
 ·intro j n l hj
  cases hs:src j with
  | some m=>obtain⟨c0,t0,hc,ho,hr⟩:=hsome j m _ hj hs;cases ho
  | none =>
   have h0:=hnone j _ hj hs;rw[(Dj hs).2];refine(R.rd j n l h0).same R2.size (λb hv hb=>hold b hb (λi hi he=>?_));obtain⟨c',t',hi'⟩:=hown i hi;exact R.apart j n l i c' t' h0 hi' (by rw[hv,he])
 ·intro j n l j' c t hj hj' hv
  cases hs:src j with
  | some m=>obtain⟨c0,t0,hc,ho,hr⟩:=hsome j m _ hj hs;cases ho
  | none =>
   have h0:=hnone j _ hj hs;rw[(Dj hs).2] at hv
   cases hs':src j' with
   | none =>
    rw[(Dj hs').1] at hv;exact R.apart j n l j' c t h0 (hnone j' _ hj' hs') hv
   | some m =>
    rw[(Eg hs').1] at hv;obtain⟨i,hi,he⟩:=hbk m j' hs' ((R.rd j n l h0).lt hv);obtain⟨c',t',hi'⟩:=hown i hi;exact R.apart j n l i c' t' h0 hi' (by rw[hv,he])
 ·intro j o hj r hr
  cases hs:src j with
  | some n =>
   obtain⟨c0,t0,hc,ho,hrf⟩:=hsome j n _ hj hs;subst ho;obtain⟨q,hq,rfl⟩:=AV.rens_refs c0 hr;have hsq:=hrf q hq;obtain⟨_,c,t,hc',_⟩:=h1 _ _ hsq;rw[hn,hsq];simp[hc']
  | none=>exact hdom r (R.refs j o (hnone j _ hj hs) r hr)
 ·intro j hj;obtain⟨h0,hb⟩:=R.env j hj;exact⟨hdom j h0,by rw[(hon j h0).1];exact hb.1,by rw[(hon j h0).2];exact hb.2⟩
theorem ann {P : Program} {G : uG} (E : vR) {w0 : World} {B0 : ve} {g : FuncId} {fn : Func} {c : Code} {args : List AV} {H H1 Hc : tZ} {k : Nat} {r : AV} {ef : List (Nat × AO)} (keys : List Nat) (N1 : Nat) (src : Nat -> Option Nat) (f : Nat -> Nat)
    (hf : P.funcs[g]? = some fn) (hb : fn.body = some c) (hn : (fn.name == "runtime.NumGoroutine") = false) (hl : (Nat.ble args.length fn.ntmps) = true)
    (hH1 : ∀ j o, H1 j = some o -> j ∈ keys) (hH1' : ∀ j ∈ keys, H1 j = H j /\ (∃ c t, H j = some (.own c t)) /\ j < N1) (hcl : ∀ j c t, H1 j = some (.own c t) -> ∀ r ∈ AV.refss c, r ∈ keys) (href : ∀ x ∈ args, ∀ j ∈ x.refs, j ∈ keys)
    (h1 : ∀ j n, src j = some n -> f n = j /\ ∃ c t, Hc n = some (.own c t) /\ ∀ r ∈ AV.refss c, src (f r) = some r)
    (h2 : ∀ j ∈ keys, src j = some j) (h3 : ∀ j n, src j = some n -> j ∈ keys \/ j = k \/ j = k + 1) (hr : ∀ j ∈ r.refs, src (f j) = some j)
    (hef : ∀ H' : tZ, (∀ b ∈ keys, H' b = H b) -> ∀ j, (H'.puts ef) j = match src j with | some n => (Hc n).map (AO.ren f) | none => H' j)
    (h : ∀ w1 B, AW ⟨P, G, E, w1, B, fn.ntmps⟩ c (XE P G fn (λr' Hx => r' = r /\ Hx = Hc)) N1 (GR args fn.ntmps) H1) :
    QA P G w0 B0 g args H keys k (r.ren f) ef := by
  intro H' e w hag hk0 hk1 hrefs R;have hkeys : ∀ j ∈ keys, ∃ c t, H' j = some (.own c t) := λj hj => by rw [hag j hj]; exact (hH1' j hj).2.1
  have hsub : ∀ j o, H1 j = some o -> H' j = some o := λj o hj => by have hm := hH1 j o hj; rw [hag j hm, <- (hH1' j hm).1]; exact hj
  let B : ve := ⟨keys.map e.blk, keys, e⟩
  have R1 : uO G w B e H1 w := by
    refine ⟨rfl, rfl, rfl, Nat.le_refl _, λ_ _ _ => rfl, R.gl, λj c t hj => R.own j c t (hsub _ _ hj), λj c t hj => .inr (List.mem_map.2 ⟨j, hH1 j _ hj, rfl⟩), λj c t hj => R.glo j c t (hsub _ _ hj),
      λj c t j' c' t' hj hj' => R.inj j c t j' c' t' (hsub _ _ hj) (hsub _ _ hj'), λj n l hj => R.rd j n l (hsub _ _ hj), λj n l j' c t hj hj' => R.apart j n l j' c t (hsub _ _ hj) (hsub _ _ hj'), ?_, ?_, λj n l hj b hv => .inr ⟨j, hH1 j _ hj, hv⟩, λj es hj => ⟨(R.mp j es (hsub _ _ hj)).1, λj' c t hj' => (R.mp j es (hsub _ _ hj)).2 j' c t (hsub _ _ hj')⟩⟩
    · intro j o hj i hi;obtain ⟨hj1, ⟨c, t, hc⟩, _⟩ := hH1' j (hH1 j o hj);rw [<- hj1, hj] at hc;cases hc;have hm := hcl j c t hj i hi;obtain ⟨h5, ⟨c', t', hc'⟩, _⟩ := hH1' i hm;rw [h5, hc']; simp
    · intro j hj;obtain ⟨h5, ⟨c', t', hc'⟩, _⟩ := hH1' j hj;exact ⟨by rw [h5, hc']; simp, rfl, rfl⟩
  have hB1 : BN H1 N1 := by
    intro b hb
    cases hv : H1 b with
    | none => rfl
    | some o => have := (hH1' b (hH1 b o hv)).2.2; omega
  have hcall := TJ (E := E) hf hb (by simpa using hl) R1 hB1 (λx hx j hj => by
    obtain ⟨h5, ⟨c', t', hc'⟩, _⟩ := hH1' j (href x hx j hj); rw [h5, hc']; simp) (h w B)
  refine DT hf hn (by rw [hb]; rfl) (hcall.mono ?_);rintro en w' ⟨r', e2, Hx, rfl, ⟨rfl, rfl⟩, R2⟩;have hput := hef H' hag
  obtain ⟨R3, hon, hdom⟩ := anm R (keys := keys) (B := B) rfl (λb hb => by obtain ⟨j, hj, rfl⟩ := List.mem_map.1 hb; exact ⟨j, hj, rfl⟩) rfl R2 hkeys h1 h2 (λj hj hs => by
    cases hsj : src j with
    | none => exact absurd hsj hs
    | some n => rcases h3 j n hsj with h6 | h6 | h6
                · exact absurd h6 hj
                · rw [h6]; exact hk0
                · rw [h6]; exact hk1) hput
  refine ⟨yQ src e e2, ?_, R3, hon, λj hj => ?_⟩
  · rw [AV.ren_val r' (λj hj => Eg (hr j hj))]
  · obtain ⟨q, hq, rfl⟩ := AV.ren_refs r' hj;have hs := hr q hq;obtain ⟨_, c, t, hc, _⟩ := h1 _ _ hs;rw [hput, hs]; simp [hc]
inductive Sh where
 | sc (k:VK)
 | agg (l:List VK)
structure Ct where
 a:List Sh
 r:List Sh
structure yR where
 id:Nat
 a:List Sh
 n:Nat
 t:TypeId
 ks:List VK
 r:List Sh
structure vI where
 P:Program
 G:uG
 SE:Nc
 ct:FuncId->Option Ct
 Φ:wH
 nt:FuncId->Option Ct
 sl:FuncId->List yR
def EN (k:VK) (x:SV):Option X:=match k,x with
 | .int k,.int k' a=>match yO k k',X.inK k a with|true,true=>some a|_,_=>none
 | .bool,.bool a=>some a
 | .bit,.int k' a=>match yO .u64 k',X.isBit a with|true,true=>some a|_,_=>none
 | _,_=>none
def KF:List VK->List SV->Option (List X)
 | [],[]=>some []
 | k::ks,x::xs=>match EN k x,KF ks xs with|some a,some l=>some (a::l)|_,_=>none
 | _,_=>none
def Yw (h:Sh) (x:SV):Option (List X):=match h,x with
 | .sc k,x=>match EN k x with|some a=>some [a]|none=>none
 | .agg l,.agg xs=>KF l xs
 | .agg l,.v (.agg cs)=>KF l (cs.toList.map AA)
 | _,_=>none
def Cy:List Sh->List SV->Option (List X)
 | [],[]=>some []
 | h::hs,x::xs=>match Yw h x,Cy hs xs with|some a,some l=>some (a++l)|_,_=>none
 | _,_=>none
def Eh (k:VK) (x:X):SV:=match k with | .int k=>.int k x | .bool=>.bool x | .bit=>.int .u64 x | .nat=>.int .u64 x
def Ei:List VK->List X->List SV
 | k::ks,x::xs=>Eh k x::Ei ks xs
 | _,_=>[]
def Sh.kinds:Sh->List VK
 | .sc k=>[k]
 | .agg l=>l
def Yx (h:Sh) (xs:List X):SV:=match h with
 | .sc k=>match xs with|x::_=>Eh k x | []=>.v undef
 | .agg l=>.agg (Ei l xs)
def uF:List Sh->List X->List SV
 | [],_=>[]
 | h::hs,xs=>Yx h xs::uF hs (xs.drop h.kinds.length)
def resS:List SV->SV
 | [x]=>x
 | l=>.tup l
def tO (l:List Sh):List VK:=l.flatMap Sh.kinds
def uC:Nat->List VK->List X
 | _,[]=>[]
 | b,k::ks=>.var k b::uC (Nat.succ b) ks
def Nf (k:VK) (n:Int):Int:=match k with | .int k=>xJ k n | .bool=>ui (uk n) | .bit=>ui (uk n) | .nat=>Int.ofNat n.toNat
def QU {β:Sort _} : List VK->List Int->(List X->β)->β
 | k::ks,n::ns,K=>Kr (Nf k n) λn=>QU ks ns λl=>K (.lit n::l)
 | _,_,K=>K []
def QV:List X->Option (List Int)
 | []=>some []
 | .lit n::l=>match QV l with|some r=>some (n::r)|none=>none
 | _::_=>none
mutual
def SV.refs:SV->List Nat
 | .v _=>[]
 | .int _ _=>[]
 | .bool _=>[]
 | .loc b _=>[b]
 | .hd k=>[k]
 | .ha k _=>[k]
 | .sl b _ _ _=>[b]
 | .fn _ a c=>SV.refss a++SV.refss c
 | .tup l=>SV.refss l
 | .agg l=>SV.refss l
def SV.refss:List SV->List Nat
 | []=>[]
 | x::l=>SV.refs x++SV.refss l
end
def Ng (H:SH):Nat->List Nat->SH->Option SH
 | 0,_,_=>none
 | _+1,[],acc=>some acc
 | f+1,b::todo,acc=>match hget acc b with
  | some _=>Ng H f todo acc
  | none=>match hget H b with
   | none=>none
   | some o=>Ng H f (SV.refss o.c++todo) ((b,o)::acc)
def reach (H:SH) (l:List Nat):Option SH:=match l with | []=>some []|l=>Ng H 2000 l []
def wE (n:Nat):List Nat->Bool
 | []=>false
 | x::l=>match Nat.beq x n with|true=>true|false=>wE n l
def addN (n:Nat) (l:List Nat):List Nat:=match wE n l with|true=>l|false=>n::l
mutual
def SV.ren (f:Nat->Nat):SV->SV
 | .v x=>.v x
 | .int k x=>.int k x
 | .bool x=>.bool x
 | .loc b o=>.loc (f b) o
 | .hd k=>.hd (f k)
 | .ha k off=>.ha (f k) off
 | .sl b o l c=>.sl (f b) o l c
 | .fn g a c=>.fn g (SV.rens f a) (SV.rens f c)
 | .tup l=>.tup (SV.rens f l)
 | .agg l=>.agg (SV.rens f l)
def SV.rens (f:Nat->Nat):List SV->List SV
 | []=>[]
 | x::l=>SV.ren f x::SV.rens f l
end
def xN (m:List (Nat×Nat)) (n:Nat):Nat:=match m with
 | []=>n
 | x::l=>match Nat.beq x.1 n with|true=>x.2|false=>xN l n
structure St where
 N:Nat
 T:uJ
 H:SH
 nv:Nat
 dt:List Nat
 fc:Facts
abbrev QW:=List (Nat×List Nat×Bool)
def He {β:Sort _} (T:uJ) (d:Option Tmp) (x:SV) (K:uJ->β):β:=match d with|none=>K T|some d=>Ua T d x K
def Yy {β:Type} (ops:Array Oper) (T:uJ) (o:Oper) (fc:Facts) (K:Bool->Facts->tL β):tL β:=match o.guard with
 | none=>K true fc
 | some (j,want)=>match (ops[j]?).bind (·.dst) with
  | none=>K false fc
  | some d=>match yu T d with
   | some (.bool x)=>EL fc x λb fc=>K (match b with|true=>want|false=>DX want) fc
   | some (.v (.tuple _))=>K false fc
   | _=>.stuck "guard"
def Yz:SV->Option (FuncId×List SV×List SV)
 | .v (.func (.func g) a c)=>some (g,a.toList.map Ha,c.toList.map Ha)
 | .fn (.func g) a c=>some (g,a,c)
 | _=>none
def YA (op:Op) (ρ:Operand->Option SV):Option (Option (FuncId×List SV)):=match op with
 | .call { callee:=.value f,args:=xs,argTypes:=_ }=>match ρ f with
  | some fv=>match Yz fv,KD ρ xs.toList with
   | some (g,a,c),some bs=>some (some (g,a++bs++c))
   | _,_=>some none
  | none=>some none
 | _=>none
structure CR where
 r:SV
 tc:List Nat
 ef:List (Nat×SO)
 nv:Nat
 fc:Facts
abbrev CF:=FuncId->List SV->SH->Nat->Nat->Facts->tL CR
def YB (op:Op) (ρ:Operand->Option SV):Option (X×Option SV×Option SV):=match op with
 | .pick c a b=>match ρ c with
  | some (.bool q)=>some (q,ρ a,ρ b)
  | _=>none
 | _=>none
structure aee where
 k:Nat
 kd:IntKind
 n:X
 es:List (Value×Value)
 z:Value
 q:Bool
def QX (kd:IntKind):List (Value×Value)->Bool
 | []=>true
 | x::l=>match x.1 with
  | .int k' _=>match yO kd k' with|true=>QX kd l|false=>false
  | _=>false
def YC (P:Program) (op:Op) (ρ:Operand->Option SV) (H:SH):Option aee:=match op with
 | .lookup t x i q=>match ρ x,ρ i with
  | some (.hd k),some (.int kd n)=>match hget H k with
   | some o=>match o.t,Bv o.c with
    | none,some es=>match P.underlying t with
     | some (.map kt et)=>match Ml P kt,WX P et with
      | some kd',some z=>match yO kd' kd,QX kd es with
       | true,true=>some ⟨k,kd,n,es,z,q⟩
       | _,_=>none
      | _,_=>none
     | _=>none
    | _,_=>none
   | none=>none
  | _,_=>none
 | _=>none
def QY (q:Bool) (v:Value) (b:Bool):SV:=match q with
 | true=>.tup [Ha v,.bool (.lit (ui b))]
 | false=>Ha v
def Ue {β:Type} (kd:IntKind) (n:X) (q:Bool) (z:Value) (K:SV->Facts->tL β):List (Value×Value)->Facts->tL β
 | [],fc=>K (QY q z false) fc
 | x::l,fc=>match x.1 with
  | .int _ m=>EL fc (xu .eql kd n (.lit m)) λb fc=>match b with
   | true=>K (QY q x.2 true) fc
   | false=>Ue kd n q z K l fc
  | _=>.stuck "key"
structure aef where
 k:Nat
 c:X
 r:SV
def Uf (H:SH) (k:Nat):Option QQ:=match hget H k with
 | some o=>match o.t,Bv o.c,BX o.c with
  | none,none,some r=>some r
  | _,_,_=>none
 | none=>none
def QZ (k:VK) (x:X):SV:=match k with | .int k=>.int k x | .bool=>.bool x | .bit=>.int .u64 x | .nat=>.int .u64 x
def Ug:List VK->List X->List SV
 | k::ks,x::xs=>QZ k x::Ug ks xs
 | _,_=>[]
def Uh:Nat->List VK->List X
 | _,[]=>[]
 | b,k::ks=>.var k b::Uh (Nat.succ b) ks
def YD (P:Program) (op:Op) (ρ:Operand->Option SV) (H:SH):Option aef:=match op with
 | .indexAddr t x i=>match ρ x,ρ i with
  | some (.hd k),some (.int _ (.lit (.ofNat j)))=>match Uf H k,FU P t with
   | some r,some el=>match wu P el with
    | some sz=>match Nat.beq sz r.ks.length with
     | true=>xq (j*sz) λoff=>some ⟨k,xu .lss .i64 (.lit (.ofNat j)) r.n,.ha k off⟩
     | false=>none
    | none=>none
   | _,_=>none
  | _,_=>none
 | .load t x=>match ρ x with
  | some (.ha k off)=>match Uf H k with
   | some r=>xq (off/r.ks.length) λj=>match Nat.beq (j*r.ks.length) off,IA P t with
    | true,some true=>match wu P t with
     | some sz=>match Nat.beq sz r.ks.length,Nat.ble 1 sz with
      | true,true=>xq (r.b+off) λb=>some ⟨k,xu .lss .i64 (.lit (.ofNat j)) r.n,.agg (Ug r.ks (Uh b r.ks))⟩
      | _,_=>none
     | none=>none
    | true,some false=>match r.ks with
     | [vk]=>xq (r.b+off) λb=>some ⟨k,xu .lss .i64 (.lit (.ofNat j)) r.n,QZ vk (.var vk b)⟩
     | _=>none
    | _,_=>none
   | none=>none
  | _=>none
 | _=>none
def F3:List (Nat×SO)->List Nat->List Nat
 | [],l=>l
 | x::ef,l=>F3 ef (addN x.1 l)
def Ui (tc:List Nat):List (Nat×SO)->Bool
 | []=>false
 | x::ef=>match wE x.1 tc with|true=>true|false=>Ui tc ef
def Hf (i:Nat) (tc:List Nat) (ef:List (Nat×SO)) (tr:QW):QW:=match tc with | []=>tr|tc=>(i,tc,Ui tc ef)::tr
structure OR where
 T:uJ
 H:SH
 tr:QW
 nv:Nat
 dt:List Nat
 fc:Facts
def Dk (C:vI) (cf:CF) (ops:Array Oper) (Nb:Nat):Nat->List Oper->uJ->SH->QW->Nat->List Nat->Facts->tL OR
 | _,[],T,H,tr,nv,dt,fc=>.leaf ⟨T,H,tr,nv,dt,fc⟩
 | i,o::os,T,H,tr,nv,dt,fc=>Yy ops T o fc λwant fc=>match want with
  | false=>He T o.dst (.v undef) λT=>Dk C cf ops Nb (Nat.succ i) os T H tr nv dt fc
  | true=>match YA o.op (Ee T) with
   | some none=>.stuck "call: operands"
   | some (some (g,args))=>xq (Nb+2*i) λk=>(cf g args H k nv fc).bind λr =>
     He T o.dst r.r λT=>FZ H r.ef λH=>Dk C cf ops Nb (Nat.succ i) os T H (Hf i r.tc r.ef tr) r.nv (F3 r.ef dt) r.fc
   | none=>match YB o.op (Ee T) with
    | some (q,x,y)=>EL fc q λb fc=>match (match b with|true=>x|false=>y) with
     | some r=>He T o.dst r λT=>Dk C cf ops Nb (Nat.succ i) os T H tr nv dt fc
     | none=>.stuck "pick"
    | none=>match YC C.P o.op (Ee T) H with
     | some L=>Ue L.kd L.n L.q L.z (λr fc=>He T o.dst r λT=>Dk C cf ops Nb (Nat.succ i) os T H (Hf i [L.k] [] tr) nv dt fc) L.es fc
     | none=>match YD C.P o.op (Ee T) H with
      | some L=>EL fc L.c λb fc=>match b with
       | true=>He T o.dst L.r λT=>Dk C cf ops Nb (Nat.succ i) os T H (Hf i [L.k] [] tr) nv dt fc
       | false=>.stuck "index: beyond"
      | none=>xq (Nb+2*i) λk=>(Yv C.P C.G C.SE fc o.op (Ee T) H k).bind λr =>
       He T o.dst r.1 λT=>FZ H r.2.2 λH=>Dk C cf ops Nb (Nat.succ i) os T H (Hf i r.2.1 r.2.2 tr) nv (F3 r.2.2 dt) fc
def yw (P:Program) (T:uJ) (H:SH):List ResultVar->Option (List SV)
 | []=>some []
 | .tmp t::l=>match yu T t,yw P T H l with
  | some x,some r=>some (x::r)
  | _,_=>none
 | .cell a t::l=>match yu T a with
  | some (.loc b o)=>match hget H b with
   | some ob=>match ob.t with
    | some _=>match Hd P t ob.c o,yw P T H l with
     | some x,some r=>some (x::r)
     | _,_=>none
    | none=>none
   | none=>none
  | _=>none
def xO:List SV->Nat->uJ
 | [],0=>[]
 | [],n+1=>some (.v undef)::xO [] n
 | _::_,0=>[]
 | x::l,n+1=>some x::xO l n
def KG:SH->Bool
 | []=>true
 | x::l=>match x.2.t with|some _=>KG l|none=>false
def Q9 (k:Nat) (objs:SH):SH->Option (List Nat)
 | []=>some []
 | x::l=>match Q9 k objs l with
  | none=>none
  | some r=>match Nat.ble k x.1 with
   | true=>some (x.1::r)
   | false=>match hget objs x.1 with|some _=>some r|none=>none
def Uj (k:Nat):List Nat->Option (List (Nat×Nat))
 | []=>some []
 | [n1]=>some [(n1,k)]
 | [n1,n2]=>match Nat.beq n1 n2 with|true=>none|false=>some [(n1,k),(n2,k+1)]
 | _=>none
def BZ (dt:List Nat):SH->List Nat
 | []=>[]
 | x::l=>match wE x.1 dt with|true=>x.1::BZ dt l|false=>BZ dt l
def Ra (k:Nat):SH->Bool
 | []=>true
 | x::l=>match Nat.blt x.1 k with|true=>Ra k l|false=>false
def keysOf:SH->List Nat
 | []=>[]
 | x::l=>x.1::keysOf l
def F4 (f:Nat->Nat) (H:SH):List Nat->List (Nat×SO)
 | []=>[]
 | b::l=>match hget H b with|some o=>(b,⟨SV.rens f o.c,o.t⟩)::F4 f H l|none=>F4 f H l
def EO (f:Nat->Nat) (H:SH):List Nat->List (Nat×SO)
 | []=>[]
 | b::l=>match hget H b with|some o=>(f b,⟨SV.rens f o.c,o.t⟩)::EO f H l|none=>EO f H l
def Uk (P:Program) (fn:Func) (objs:SH) (k:Nat) (s:St):tL CR :=
 match yw P s.T s.H fn.results.toList with
 | none=>.stuck "results"
 | some rs=>match reach s.H (SV.refss rs++BZ s.dt objs) with
   | none=>.stuck "reach behind a call"
   | some R2=>match Q9 k objs R2,KG R2 with
    | none,_=>.stuck "a block of nobody"
    | _,false=>.stuck "a number behind a call"
    | some nw,true=>match nw with
     | []=>.leaf ⟨resS rs,keysOf objs,F4 (λn=>n) s.H (BZ s.dt objs),s.nv,s.fc⟩
     | nw=>match Uj k nw with
      | none=>.stuck "more than two new blocks"
      | some m=>.leaf ⟨(resS rs).ren (xN m),keysOf objs,F4 (xN m) s.H (BZ s.dt objs)++EO (xN m) s.H nw,s.nv,s.fc⟩
mutual
def wC (c:X):SV->SV->Option SV
 | .int k a,.int k' b=>match yO k k' with|true=>some (.int k (Kw c a b))|false=>none
 | .bool a,.bool b=>some (.bool (Kw c a b))
 | .agg l,.agg m=>match IZ c l m with|some r=>some (.agg r)|none=>none
 | .tup l,.tup m=>match IZ c l m with|some r=>some (.tup r)|none=>none
 | _,_=>none
def IZ (c:X):List SV->List SV->Option (List SV)
 | [],[]=>some []
 | x::l,y::m=>match wC c x y,IZ c l m with|some r,some rs=>some (r::rs)|_,_=>none
 | _,_=>none
end
def Nh:List Nat->List Nat->Bool
 | [],[]=>true
 | x::l,y::m=>match Nat.beq x y with|true=>Nh l m|false=>false
 | _,_=>false
def Ja (tc:List Nat) (nv:Nat):tL CR->Option (X×Option SV)
 | .leaf r=>match r.ef with
  | []=>match Nh r.tc tc,Nat.beq r.nv nv with|true,true=>some (.lit (.ofNat 1),some r.r)|_,_=>none
  | _::_=>none
 | .ite c a b=>match Ja tc nv a,Ja tc nv b with
  | some (x,none),some (y,r)=>some (Kw c x y,r)
  | some (x,r),some (y,none)=>some (Kw c x y,r)
  | some (x,some r),some (y,some q)=>match wC c r q with|some z=>some (Kw c x y,some z)|none=>none
  | _,_=>none
 | .stuck _=>some (.lit (.ofNat 0),none)
 | .call _ _ _ _ _=>none
def YE (tc:List Nat) (nv:Nat) (fc:Facts) (t:tL CR):tL CR:=match t with
 | .ite c a b=>match Ja tc nv (.ite c a b) with
  | some (x,some r)=>MS x (.leaf ⟨r,tc,[],nv,fc⟩) (.stuck "in a call")
  | _=>.ite c a b
 | t=>t
def regionEnd (nt:Nat) (ops:Array Oper) (draw:Bool) (s:St) (r:OR):tL (Exit×St) :=
 match draw with
 | true=>match drawOK ops nt,traceOK ops s.N r.tr with
  | true,true=>xq (s.N+2*ops.size) λN=>.leaf (.normal,⟨N,r.T,r.H,r.nv,r.dt,r.fc⟩)
  | false,_=>.stuck "drawOK"
  | _,_=>.stuck "traceOK"
 | false=>match dstsLt nt ops.toList with
  | true=>xq (s.N+2*ops.size) λN=>.leaf (.normal,⟨N,r.T,r.H,r.nv,r.dt,r.fc⟩)
  | false=>.stuck "dstsLt"
def Rb (P:Program) (ex:Code->St->tL (Exit×St)) (g:FuncId) (args:List SV) (H:SH) (k nv:Nat) (fc:Facts):tL CR:=match P.funcs[g]? with
 | none=>.stuck "no such function"
 | some fn=>match fn.body with
  | none=>.stuck "no body"
  | some cd=>match reach H (SV.refss args) with
   | none=>.stuck "reach"
   | some objs=>match Nat.ble args.length fn.ntmps,Ra k objs,KG objs with
    | true,true,true=>YE (keysOf objs) nv fc ((ex cd ⟨k,xO args fn.ntmps,objs,nv,[],fc⟩).bind λr=>match r.1 with
     | .normal=>Uk P fn objs k r.2
     | .ret=>Uk P fn objs k r.2
     | _=>.stuck "a call's end")
    | _,_,_=>.stuck "a call's arguments"
def Ni (H:SH) (k:VK) (x:SV):Option X:=match k with
 | .nat=>match x with
  | .hd h=>match hget H h with
   | some o=>match o.t with
    | none=>match o.c with
     | [.int _ x]=>some x
     | _=>none
    | some _=>none
   | none=>none
  | .v (.slice none 0 0)=>some (.lit (.ofNat 0))
  | _=>none
 | .int k=>EN (.int k) x
 | .bool=>EN .bool x
 | .bit=>EN .bit x
def F5 (H:SH):List VK->List SV->Option (List X)
 | [],[]=>some []
 | k::ks,x::xs=>match Ni H k x,F5 H ks xs with|some a,some l=>some (a::l)|_,_=>none
 | _,_=>none
def Nj (H:SH) (h:Sh) (x:SV):Option (List X):=match h,x with
 | .sc k,x=>match Ni H k x with|some a=>some [a]|none=>none
 | .agg l,.agg xs=>F5 H l xs
 | .agg l,.v (.agg cs)=>F5 H l (cs.toList.map AA)
 | _,_=>none
def Ej (H:SH):List Sh->List SV->Option (List X)
 | [],[]=>some []
 | h::hs,x::xs=>match Nj H h x,Ej H hs xs with|some a,some l=>some (a++l)|_,_=>none
 | _,_=>none
def nN (k:VK):Nat:=match k with | .nat=>1|_=>0
def xD:List VK->Nat
 | []=>0
 | k::ks=>nN k+xD ks
def Nk (k:VK) (x:X) (h:Nat):SV:=match k with | .nat=>.hd h|k=>Eh k x
def xg:List VK->List X->Nat->List SV
 | k::ks,x::xs,h=>Nk k x h::xg ks xs (h+nN k)
 | _,_,_=>[]
def YF (sh:Sh) (xs:List X) (h:Nat):SV:=match sh with
 | .sc k=>match xs with|x::_=>Nk k x h | []=>.v undef
 | .agg l=>.agg (xg l xs h)
def Ca:List Sh->List X->Nat->List SV
 | [],_,_=>[]
 | s::ss,xs,h=>YF s xs h::Ca ss (xs.drop s.kinds.length) (h+xD s.kinds)
def xh:List VK->List X->Nat->List (Nat×SO)
 | k::ks,x::xs,h=>match k with
  | .nat=>xq h λh'=>(h',⟨[.int .u64 x],none⟩)::xh ks xs (h+1)
  | _=>xh ks xs h
 | _,_,_=>[]
def YG (C:vI) (ct:Ct) (g:FuncId) (args:List SV) (H:SH) (k nv:Nat) (fc:Facts):tL CR:=match Ej H ct.a args with
 | none=>.stuck "numbers: arguments"
 | some xs=>.call g xs nv (tO ct.r).length (xq (nv+(tO ct.r).length) λnv'=>.leaf ⟨resS (Ca ct.r (uC nv (tO ct.r)) k),SV.refss args,xh (tO ct.r) (uC nv (tO ct.r)) k,nv',fc⟩)
structure aeg where
 i:List SV
 b:Nat
 o:Nat
 n:Nat
 m:Nat
def Rc:List SV->Option aeg
 | []=>none
 | x::l=>match l with
  | []=>match x with
   | .sl b o n m=>some ⟨[],b,o,n,m⟩
   | _=>none
  | y::l'=>match Rc (y::l') with
   | some r=>some ⟨x::r.i,r.b,r.o,r.n,r.m⟩
   | none=>none
def Um:List yR->Nat->Nat->TypeId->Option yR
 | [],_,_,_=>none
 | s::L,n,m,t=>match Nat.beq s.n n,Nat.beq s.n m,Nat.beq s.t t with
  | true,true,true=>some s
  | _,_,_=>Um L n m t
def YH (C:vI) (L:List yR) (args:List SV) (H:SH) (nv:Nat) (fc:Facts) (K:Unit->tL CR):tL CR:=match Rc args with
 | none=>K ()
 | some r=>match hget H r.b with
  | none=>K ()
  | some o=>match o.t with
   | none=>K ()
   | some t=>match Um L r.n r.m t with
    | none=>K ()
    | some s=>match Nat.beq r.o 0,Cy s.a r.i,KF s.ks o.c with
     | true,some xs,some ys=>match QV (xs++ys) with
      | some ns=>match Nat.beq (C.Φ s.id ns).length (tO s.r).length with
       | true=>QU (tO s.r) (C.Φ s.id ns) λl=>.leaf ⟨resS (uF s.r l),[r.b],[],nv,fc⟩
       | false=>.stuck "contract"
      | none=>.call s.id (xs++ys) nv (tO s.r).length (xq (nv+(tO s.r).length) λnv'=>.leaf ⟨resS (uF s.r (uC nv (tO s.r))),[r.b],[],nv',fc⟩)
     | _,_,_=>K ()
def Re (C:vI) (ex:Code->St->tL (Exit×St)) (g:FuncId) (args:List SV) (H:SH) (k nv:Nat) (fc:Facts):tL CR:=match C.nt g with
 | some ct=>YG C ct g args H k nv fc
 | none=>match C.ct g with
 | none=>match C.sl g with
  | []=>Rb C.P ex g args H k nv fc
  | L=>YH C L args H nv fc λ_=>Rb C.P ex g args H k nv fc
 | some ct=>match Cy ct.a args with
  | none=>Rb C.P ex g args H k nv fc
  | some xs=>match QV xs with
   | some ns=>match Nat.beq (C.Φ g ns).length (tO ct.r).length with
    | true=>QU (tO ct.r) (C.Φ g ns) λl=>.leaf ⟨resS (uF ct.r l),[],[],nv,fc⟩
    | false=>.stuck "contract"
   | none=>.call g xs nv (tO ct.r).length (xq (nv+(tO ct.r).length) λnv'=>.leaf ⟨resS (uF ct.r (uC nv (tO ct.r))),[],[],nv',fc⟩)
def exec (C:vI):Nat->Code->St->tL (Exit×St)
 | 0,_,_=>.stuck "no fuel"
 | f+1,c,s=>match c with
  | .skip=>.leaf (.normal,s)
  | .label _=>.leaf (.normal,s)
  | .exit id=>.leaf (.exit id,s)
  | .ret=>.leaf (.ret,s)
  | .seq a b=>(exec C f a s).bind λr=>match r.1 with | .normal=>exec C f b r.2|_=>.leaf r
  | .cond c a b=>match Ee s.T c with
   | some (.bool q)=>EL s.fc q λbb fc=>match bb with|true=>exec C f a { s with fc:=fc } | false=>exec C f b { s with fc:=fc }
   | _=>.stuck "cond"
  | .block id c=>(exec C f c s).bind λr=>match r.1 with
   | .exit id'=>match Nat.beq id' id with|true=>.leaf (.normal,r.2)|false=>.leaf r
   | _=>.leaf r
  | .loop c=>(exec C f c s).bind λr=>match r.1 with | .normal=>exec C f (.loop c) r.2|_=>.leaf r
  | .scope c=>(exec C f c s).bind λr=>match r.1 with | .goto _=>.stuck "goto" | _=>.leaf r
  | .region _ ops draw=>(Dk C (Re C (exec C f)) ops s.N 0 ops.toList s.T s.H [] s.nv s.dt s.fc).bind λr=>regionEnd s.T.length ops draw s r
  | _=>.stuck "no such text"
def uN (C:vI) (fuel:Nat) (g:FuncId) (args:List SV) (nv:Nat):tL SV :=
 match C.P.funcs[g]? with
 | none=>.stuck "no such function"
 | some fn=>match fn.body with
  | none=>.stuck "no body"
  | some cd=>match Nat.ble args.length fn.ntmps with
   | true=>(exec C fuel cd ⟨0,xO args fn.ntmps,[],nv,[],[]⟩).bind λr=>match r.1 with
    | .normal=>match yw C.P r.2.T r.2.H fn.results.toList with|some rs=>.leaf (resS rs)|none=>.stuck "results"
    | .ret=>match yw C.P r.2.T r.2.H fn.results.toList with|some rs=>.leaf (resS rs)|none=>.stuck "results"
    | _=>.stuck "end"
   | false=>.stuck "arguments"
def wR (h:Sh) (ns:List Int):Value:=match h with
 | .sc k=>match ns with|n::_=>wB k n | []=>undef
 | .agg l=>.agg (uT l ns).toArray
def uP:List Sh->List Int->List Value
 | [],_=>[]
 | h::hs,ns=>wR h ns::uP hs (ns.drop h.kinds.length)
def vP:List Value->Value
 | [x]=>x
 | l=>.tuple l.toArray
def xw:List VK->List Int->List Int
 | k::ks,n::ns=>k.norm n::xw ks ns
 | _,_=>[]
theorem Un {k:VK} {x:SV} {a:X} (s:ut) (h:EN k x=some a):x.den s = .v (wB k (a.den s)):=by
 unfold EN at h;split at h
 ·split at h
  ·rename_i hk hi;cases h;have hk:=Az hk;subst hk;simp only[SV.den,wB,X.inK_ok s hi]
  ·cases h
 ·cases h;rfl
 ·split at h
  ·rename_i hk hi;cases h;have hk:=Az hk;subst hk;simp only[SV.den,wB];rw[<- X.isBit_ok s hi]
  ·cases h
 ·cases h
theorem Rf (s:ut):∀ {ks:List VK} {xs:List SV} {l:List X},KF ks xs=some l->SV.dens s xs=(uT ks (l.map (X.den s))).map .v/\l.length=ks.length
 | [],[],l,h=>by cases h;exact⟨rfl,rfl⟩
 | k::ks,x::xs,l,h=>by
  simp only[KF] at h;split at h
  ·rename_i a l' ha hl;cases h;obtain⟨h1,h2⟩:=Rf s hl;exact⟨by rw[SV.dens,h1,Un s ha];rfl,by simp[h2]⟩
  ·cases h
 | [],_::_,l,h=>by cases h
 | _::_,[],l,h=>by cases h
theorem ano (s:ut) {h:Sh} {x:SV} {l:List X} (hh:Yw h x=some l):x.den s = .v (wR h (l.map (X.den s)))/\l.length=h.kinds.length:=by
 unfold Yw at hh;split at hh
 ·split at hh
  ·rename_i a ha;cases hh;exact⟨Un s ha,rfl⟩
  ·cases hh
 ·obtain⟨h1,h2⟩:=Rf s hh;exact⟨by simp only[SV.den,h1,TS];rfl,h2⟩
 ·obtain⟨h1,h2⟩:=Rf s hh;rw[Ec] at h1;refine⟨?_,h2⟩;simp only[SV.den,wR];rename_i l0 cs
  have:cs.toList=uT l0 (l.map (X.den s)):=by have:=congrArg wJ h1;rw[IU,IU] at this;exact Option.some.inj this
  rw[<- this]
 ·cases hh
theorem aeh:∀ (ks:List VK) (p q:List Int),p.length=ks.length->uT ks (p++q)=uT ks p
 | [],[],q,_=>by cases q<;>rfl
 | k::ks,n::p,q,h=>by rw[List.cons_append,uT,uT,aeh ks p q (by simpa using h)]
 | [],_::_,_,h=>by simp at h
 | _::_,[],_,h=>by simp at h
theorem YI (h:Sh) (p q:List Int) (hl:p.length=h.kinds.length):wR h (p++q)=wR h p:=by
 cases h with
 | sc k =>
  cases p with
  | nil=>simp[Sh.kinds] at hl
  | cons n p=>rfl
 | agg l=>simp only[wR];rw[aeh l p q hl]
theorem Jb (s:ut):∀ {hs:List Sh} {xs:List SV} {l:List X},Cy hs xs=some l->SV.dens s xs=(uP hs (l.map (X.den s))).map .v/\l.length=(tO hs).length
 | [],[],l,h=>by cases h;exact⟨rfl,rfl⟩
 | h::hs,x::xs,l,hh=>by
  simp only[Cy] at hh;split at hh
  ·rename_i a l' ha hl;cases hh;obtain⟨h1,h2⟩:=Jb s hl;obtain⟨h3,h4⟩:=ano s ha;refine⟨?_,by simp[tO,h4] at h2 ⊢;omega⟩;rw[SV.dens,h1,h3,uP,List.map_append,YI _ _ _ (by simpa using h4),List.map_cons];rw[show(List.map (X.den s) a++List.map (X.den s) l').drop h.kinds.length=List.map (X.den s) l' by rw[List.drop_append_of_le_length (by simp[h4])];rw[List.drop_of_length_le (by simp[h4])];rfl]
  ·cases hh
 | [],_::_,l,h=>by cases h
 | _::_,[],l,h=>by cases h
theorem Rh {k:VK} {x:X} {n:Int} {s:ut} (h:x.den s=k.norm n):(Eh k x).den s = .v (wB k n):=by
 cases k with
 | int k=>simp only[Eh,SV.den,h,VK.norm,wB]
 | bool=>simp only[Eh,SV.den,h,VK.norm,wB,xe]
 | bit=>simp only[Eh,SV.den,h,VK.norm,wB]
 | nat=>simp only[Eh,SV.den,h,VK.norm,wB]
theorem Uo {s:ut} : ∀ {ks:List VK} {xs:List X} {ns:List Int},xs.map (X.den s)=xw ks ns->xs.length=ks.length->SV.dens s (Ei ks xs)=(uT ks ns).map .v
 | [],xs,ns,_,_=>by cases xs<;>rfl
 | k::ks,[],ns,_,hl=>by simp at hl
 | k::ks,x::xs,[],h,_=>by simp[xw] at h
 | k::ks,x::xs,n::ns,h,hl=>by simp only[List.map_cons,xw,List.cons.injEq] at h;rw[Ei,SV.dens,Uo h.2 (by simpa using hl),Rh h.1];rfl
theorem aei:∀ (ks js:List VK) (ns:List Int),(xw (ks++js) ns).take ks.length=xw ks ns
 | [],js,ns=>rfl
 | k::ks,js,[]=>rfl
 | k::ks,js,n::ns=>by rw[List.cons_append,xw,List.length_cons,List.take_succ_cons,aei ks js ns,xw]
theorem aej:∀ (ks js:List VK) (ns:List Int),(xw (ks++js) ns).drop ks.length=xw js (ns.drop ks.length)
 | [],js,ns=>rfl
 | k::ks,js,[]=>by cases js<;>simp[xw]
 | k::ks,js,n::ns=>by rw[List.cons_append,xw,List.length_cons,List.drop_succ_cons,aej ks js ns,List.drop_succ_cons]
theorem aek:∀ (ks:List VK) (xs:List X),Ei ks (xs.take ks.length)=Ei ks xs
 | [],xs=>by cases xs<;>rfl
 | k::ks,[]=>rfl
 | k::ks,x::xs=>by rw[List.length_cons,List.take_succ_cons,Ei,aek ks xs,Ei]
theorem anp {s:ut} {h:Sh} {js:List VK} {xs:List X} {ns:List Int} (hx:xs.map (X.den s)=xw (h.kinds++js) ns) (hl:xs.length=(h.kinds++js).length):(Yx h xs).den s = .v (wR h ns):=by
 cases h with
 | sc k =>
  cases xs with
  | nil=>simp[Sh.kinds] at hl
  | cons x xs =>
   cases ns with
   | nil=>simp[Sh.kinds,xw] at hx
   | cons n ns =>
    simp only[Sh.kinds,List.cons_append,List.nil_append,xw,List.map_cons,List.cons.injEq] at hx;exact Rh hx.1
 | agg l =>
  simp only[Yx,SV.den,wR]
  have h1:(xs.take l.length).map (X.den s)=xw l ns:=by rw[List.map_take,hx];exact aei l js ns
  rw[<- aek l xs,Uo h1 (by simp[Sh.kinds] at hl ⊢;omega),TS]
theorem Hg {s:ut} : ∀ {hs:List Sh} {xs:List X} {ns:List Int},xs.map (X.den s)=xw (tO hs) ns->xs.length=(tO hs).length->SV.dens s (uF hs xs)=(uP hs ns).map .v
 | [],xs,ns,_,_=>rfl
 | h::hs,xs,ns,hx,hl=>by
  have hk:tO (h::hs)=h.kinds++tO hs:=by simp[tO]
  rw[hk] at hx hl;rw[uF,SV.dens,anp hx hl,Hg (hs:=hs) (ns:=ns.drop h.kinds.length) (by rw[List.map_drop,hx,aej]) (by simp at hl ⊢;omega)];rfl
theorem EP (s:ut):∀ (ks:List VK) (b:Nat),(uC b ks).map (X.den s)=xw ks (yH s b ks.length)/\(uC b ks).length=ks.length
 | [],b=>⟨rfl,rfl⟩
 | k::ks,b=>by obtain⟨h1,h2⟩:=EP s ks (b+1);refine⟨?_,by simp[uC,h2]⟩;rw[uC,List.map_cons,h1];rfl
theorem ael (k:VK) (n:Int):Nf k n=k.norm n:=by
 cases k with
 | int k=>exact wP k n
 | bool=>simp only[Nf,VK.norm,xW]
 | bit=>simp only[Nf,VK.norm,xW]
 | nat=>rfl
def Nl:List VK->List Int->List X
 | k::ks,n::ns=>.lit (Nf k n)::Nl ks ns
 | _,_=>[]
theorem YJ {β:Sort _} : ∀ (ks:List VK) (ns:List Int) (K:List X->β),QU ks ns K=K (Nl ks ns)
 | [],ns,K=>by cases ns<;>rfl
 | k::ks,[],K=>rfl
 | k::ks,n::ns,K=>by rw[QU,Kt,YJ ks ns];rfl
theorem YK (s:ut):∀ (ks:List VK) (ns:List Int),(Nl ks ns).map (X.den s)=xw ks ns
 | [],ns=>by cases ns<;>rfl
 | k::ks,[]=>rfl
 | k::ks,n::ns=>by rw[Nl,List.map_cons,YK s ks ns,xw,X.den,ael]
theorem YL:∀ (ks:List VK) (ns:List Int),ns.length=ks.length->(Nl ks ns).length=ks.length
 | [],ns,_=>by cases ns<;>rfl
 | k::ks,[],h=>by simp at h
 | k::ks,n::ns,h=>by rw[Nl];simp[YL ks ns (by simpa using h)]
theorem YM (s:ut):∀ {xs:List X} {ns:List Int},QV xs=some ns->xs.map (X.den s)=ns
 | [],ns,h=>by cases h;rfl
 | .lit n::l,ns,h=>by
  simp only[QV] at h;split at h
  ·rename_i r hr;cases h;rw[List.map_cons,YM s hr];rfl
  ·cases h
 | .var _ _::_,_,h=>by cases h
 | .bin _ _ _ _::_,_,h=>by cases h
 | .conv _ _::_,_,h=>by cases h
 | .com _ _::_,_,h=>by cases h
 | .not _::_,_,h=>by cases h
 | .and _ _::_,_,h=>by cases h
 | .beq _ _::_,_,h=>by cases h
 | .min _ _::_,_,h=>by cases h
 | .max _ _::_,_,h=>by cases h
 | .ite _ _ _::_,_,h=>by cases h
 | .dlen _::_,_,h=>by cases h
theorem YN {s:ut} {l:List SV} {vs:List Value} (h:SV.dens s l=vs.map .v):(resS l).den s = .v (vP vs):=by
 match l,vs,h with
 | [],[],_=>simp only[resS,SV.den,SV.dens,vP];exact TU []
 | [x],[v],h=>simpa [SV.dens,resS,vP] using h
 | x::y::l,v::u::vs,h =>
  simp only[resS,SV.den,h,TU,vP]
 | [],v::vs,h=>simp[SV.dens] at h
 | x::l,[],h=>simp[SV.dens] at h
 | [x],v::u::vs,h=>simp[SV.dens] at h
 | x::y::l,[v],h=>simp[SV.dens] at h
theorem Jc (s:ut) (l:List SV):EH (SV.dens s l)=(resS l).den s:=by
 match l with
 | []=>rfl
 | [x]=>rfl
 | x::y::l=>rfl
mutual
theorem aem (s:ut) (c:X):∀ {a b r:SV},wC c a b=some r->r.den s=if c.den s=0 then b.den s else a.den s
 | .int k a,.int k' b,r,h=>by
  simp only[wC] at h;split at h
  ·rename_i hk;cases h;have:=Az hk;subst this;simp only[SV.den,QN];split<;>rfl
  ·cases h
 | .bool a,.bool b,r,h=>by simp only[wC] at h;cases h;simp only[SV.den,QN];split<;>rfl
 | .agg l,.agg m,r,h=>by
  simp only[wC] at h;split at h
  ·rename_i q hq;cases h;have:=YO s c hq;simp only[SV.den,this];split<;>rfl
  ·cases h
 | .tup l,.tup m,r,h=>by
  simp only[wC] at h;split at h
  ·rename_i q hq;cases h;have:=YO s c hq;simp only[SV.den,this];split<;>rfl
  ·cases h
 | .v _,_,_,h=>by simp[wC] at h
 | .loc _ _,_,_,h=>by simp[wC] at h
 | .sl _ _ _ _,_,_,h=>by simp[wC] at h
 | .fn _ _ _,_,_,h=>by simp[wC] at h
 | .int _ _,.v _,_,h=>by simp[wC] at h
 | .int _ _,.bool _,_,h=>by simp[wC] at h
 | .int _ _,.loc _ _,_,h=>by simp[wC] at h
 | .int _ _,.sl _ _ _ _,_,h=>by simp[wC] at h
 | .int _ _,.fn _ _ _,_,h=>by simp[wC] at h
 | .int _ _,.tup _,_,h=>by simp[wC] at h
 | .int _ _,.agg _,_,h=>by simp[wC] at h
 | .bool _,.v _,_,h=>by simp[wC] at h
 | .bool _,.int _ _,_,h=>by simp[wC] at h
 | .bool _,.loc _ _,_,h=>by simp[wC] at h
 | .bool _,.sl _ _ _ _,_,h=>by simp[wC] at h
 | .bool _,.fn _ _ _,_,h=>by simp[wC] at h
 | .bool _,.tup _,_,h=>by simp[wC] at h
 | .bool _,.agg _,_,h=>by simp[wC] at h
 | .agg _,.v _,_,h=>by simp[wC] at h
 | .agg _,.int _ _,_,h=>by simp[wC] at h
 | .agg _,.bool _,_,h=>by simp[wC] at h
 | .agg _,.loc _ _,_,h=>by simp[wC] at h
 | .agg _,.sl _ _ _ _,_,h=>by simp[wC] at h
 | .agg _,.fn _ _ _,_,h=>by simp[wC] at h
 | .agg _,.tup _,_,h=>by simp[wC] at h
 | .tup _,.v _,_,h=>by simp[wC] at h
 | .tup _,.int _ _,_,h=>by simp[wC] at h
 | .tup _,.bool _,_,h=>by simp[wC] at h
 | .tup _,.loc _ _,_,h=>by simp[wC] at h
 | .tup _,.sl _ _ _ _,_,h=>by simp[wC] at h
 | .tup _,.fn _ _ _,_,h=>by simp[wC] at h
 | .tup _,.agg _,_,h=>by simp[wC] at h
theorem YO (s:ut) (c:X):∀ {a b r:List SV},IZ c a b=some r->SV.dens s r=if c.den s=0 then SV.dens s b else SV.dens s a
 | [],[],r,h=>by simp only[IZ] at h;cases h;split<;>rfl
 | x::l,y::m,r,h=>by
  simp only[IZ] at h;split at h
  ·rename_i q qs h1 h2;cases h;have e1:=aem s c h1;have e2:=YO s c h2;simp only[SV.dens,e1,e2];split<;>rfl
  ·cases h
 | [],_::_,_,h=>by simp[IZ] at h
 | _::_,[],_,h=>by simp[IZ] at h
end
theorem aen:∀ {a b:List Nat},Nh a b=true->a=b
 | [],[],_=>rfl
 | x::l,y::m,h=>by
  simp only[Nh] at h;split at h
  ·rename_i hb;rw[vH.1 hb,aen h]
  ·cases h
 | [],_::_,h=>by simp[Nh] at h
 | _::_,[],h=>by simp[Nh] at h
theorem KH {Φ:wH} {s:ut} {tc:List Nat} {nv:Nat} : ∀ {t:tL CR} {x:X} {o:Option SV},Ja tc nv t=some (x,o)->x.den s≠0->∃ r,t.path Φ s=some r/\r.tc=tc/\r.ef = []/\∃ z,o=some z/\z.den s=r.r.den s
 | .leaf r,x,o,h,hx=>by
  simp only[Ja] at h;split at h
  ·rename_i he;split at h
   ·rename_i h1 h2;cases h;exact⟨r,rfl,aen h1,he,_,rfl,rfl⟩
   ·cases h
  ·cases h
 | .stuck w,x,o,h,hx=>by simp only[Ja,Option.some.injEq,Prod.mk.injEq] at h;rw[<- h.1] at hx;exact absurd rfl hx
 | .call _ _ _ _ _,x,o,h,hx=>by simp[Ja] at h
 | .ite c a b,x,o,h,hx=>by
  simp only[Ja] at h;split at h
  ·rename_i y1 y2 q h1 h2;cases h;rw[QN] at hx;by_cases hc:c.den s=0
   ·rw[if_pos hc] at hx;obtain⟨r,hr,h3⟩:=KH (Φ:=Φ) h2 hx;exact⟨r,by simp only[tL.path,if_pos hc];exact hr,h3⟩
   ·rw[if_neg hc] at hx;obtain⟨r,hr,_,_,z,hz,_⟩:=KH (Φ:=Φ) h1 hx;cases hz
  ·rename_i y1 q y2 hno h1 h2;cases h;rw[QN] at hx;by_cases hc:c.den s=0
   ·rw[if_pos hc] at hx;obtain⟨r,hr,_,_,z,hz,_⟩:=KH (Φ:=Φ) h2 hx;cases hz
   ·rw[if_neg hc] at hx;obtain⟨r,hr,h3⟩:=KH (Φ:=Φ) h1 hx;exact⟨r,by simp only[tL.path,if_neg hc];exact hr,h3⟩
  ·rename_i y1 q1 y2 q2 h1 h2;split at h
   ·rename_i z hz;cases h;have hzd:=aem s c hz;rw[QN] at hx;by_cases hc:c.den s=0
    ·rw[if_pos hc] at hx hzd;obtain⟨r,hr,h3,h4,u,hu,h5⟩:=KH (Φ:=Φ) h2 hx;cases hu;exact⟨r,by simp only[tL.path,if_pos hc];exact hr,h3,h4,_,rfl,hzd.trans h5⟩
    ·rw[if_neg hc] at hx hzd;obtain⟨r,hr,h3,h4,u,hu,h5⟩:=KH (Φ:=Φ) h1 hx;cases hu;exact⟨r,by simp only[tL.path,if_neg hc];exact hr,h3,h4,_,rfl,hzd.trans h5⟩
   ·cases h
  ·cases h
theorem anq {Φ:wH} {s:ut} {tc:List Nat} {nv:Nat} {fc:Facts} {t:tL CR} {r':CR} (hf:vO s fc) (h:(YE tc nv fc t).path Φ s=some r'):∃ r,t.path Φ s=some r/\r.r.den s=r'.r.den s/\r.tc=r'.tc/\r.ef=r'.ef/\(vO s r.fc->vO s r'.fc):=by
 unfold YE at h;split at h
 ·rename_i c a b;split at h
  ·rename_i x z hm;rw[XR] at h;split at h
   ·cases h
   ·rename_i hx;cases h;obtain⟨r,h1,h2,h3,u,hu,h4⟩:=KH (Φ:=Φ) hm hx;cases hu;exact⟨r,h1,h4.symm,h2,h3,λ_=>hf⟩
  ·exact⟨r',h,rfl,rfl,rfl,id⟩
 ·exact⟨r',h,rfl,rfl,rfl,id⟩
mutual
theorem SV.den_refs (s:ut):∀ (x:SV) {r:Nat},r∈(x.den s).refs->r∈x.refs
 | .v _,r,h=>by simp[SV.den,AV.refs] at h
 | .int _ _,r,h=>by simp[SV.den,AV.refs] at h
 | .bool _,r,h=>by simp[SV.den,AV.refs] at h
 | .loc b o,r,h=>by simpa [SV.den,AV.refs,SV.refs] using h
 | .sl b o l c,r,h=>by simpa [SV.den,AV.refs,SV.refs] using h
 | .hd k,r,h=>by simpa [SV.den,AV.refs,SV.refs] using h
 | .ha k off,r,h=>by simpa [SV.den,AV.refs,SV.refs] using h
 | .fn g a c,r,h=>by
  rw[SV.den] at h;rw[SV.refs];rcases List.mem_append.1 (ac7 h) with h|h
  ·exact List.mem_append_left _ (SV.dens_refs s a h)
  ·exact List.mem_append_right _ (SV.dens_refs s c h)
 | .tup l,r,h=>by rw[SV.den] at h;rw[SV.refs];exact SV.dens_refs s l (alb h)
 | .agg l,r,h=>by rw[SV.den] at h;rw[SV.refs];exact SV.dens_refs s l (WT h)
theorem SV.dens_refs (s:ut):∀ (l:List SV) {r:Nat},r∈AV.refss (SV.dens s l)->r∈SV.refss l
 | [],r,h=>by simp[SV.dens,AV.refss] at h
 | x::l,r,h=>by
  rw[SV.dens,AV.refss] at h;rw[SV.refss];rcases List.mem_append.1 h with h|h
  ·exact List.mem_append_left _ (SV.den_refs s x h)
  ·exact List.mem_append_right _ (SV.dens_refs s l h)
end
theorem Ri (f:Nat->Nat):∀ l:List AV,wJ (AV.rens f l)=wJ l
 | []=>rfl
 | .v x::l=>by simp only[AV.rens,AV.ren,wJ,Ri f l]
 | .loc _ _::l=>rfl
 | .sl _ _ _ _::l=>rfl
 | .hd _::l=>rfl
 | .ha _ _::l=>rfl
 | .fn _ _ _::l=>rfl
 | .tup _::l=>rfl
 | .agg _::l=>rfl
theorem anr (f:Nat->Nat) (l:List AV):(zm l).ren f=zm (AV.rens f l):=by unfold zm;rw[Ri];cases wJ l<;>rfl
theorem ant (f:Nat->Nat) (l:List AV):(Av l).ren f=Av (AV.rens f l):=by unfold Av;rw[Ri];cases wJ l<;>rfl
theorem anu (f:Nat->Nat) (g:Fn) (a c:List AV):(Aw g a c).ren f=Aw g (AV.rens f a) (AV.rens f c):=by unfold Aw;rw[Ri,Ri];cases wJ a<;>cases wJ c<;>rfl
mutual
theorem SV.den_ren (s:ut) (f:Nat->Nat):∀ x:SV,(x.ren f).den s=(x.den s).ren f
 | .v _=>rfl
 | .int _ _=>rfl
 | .bool _=>rfl
 | .loc b o=>rfl
 | .hd k=>rfl
 | .ha k off=>rfl
 | .sl b o l c=>rfl
 | .fn g a c=>by simp only[SV.ren,SV.den,anu,SV.dens_ren s f a,SV.dens_ren s f c]
 | .tup l=>by simp only[SV.ren,SV.den,ant,SV.dens_ren s f l]
 | .agg l=>by simp only[SV.ren,SV.den,anr,SV.dens_ren s f l]
theorem SV.dens_ren (s:ut) (f:Nat->Nat):∀ l:List SV,SV.dens s (SV.rens f l)=AV.rens f (SV.dens s l)
 | []=>rfl
 | x::l=>by simp only[SV.rens,SV.dens,AV.rens,SV.den_ren s f x,SV.dens_ren s f l]
end
mutual
theorem AV.ren_id {f:Nat->Nat} : ∀ x:AV,(∀ r∈x.refs,f r=r)->x.ren f=x
 | .v _,_=>rfl
 | .loc b o,h=>by simp only[AV.ren];rw[h b (by simp[AV.refs])]
 | .sl b o l c,h=>by simp only[AV.ren];rw[h b (by simp[AV.refs])]
 | .hd k,h=>by simp only[AV.ren];rw[h k (by simp[AV.refs])]
 | .ha k o,h=>by simp only[AV.ren];rw[h k (by simp[AV.refs])]
 | .fn g a c,h=>by simp only[AV.ren];rw[AV.rens_id a (λr hr=>h r (by rw[AV.refs];exact List.mem_append_left _ hr)),AV.rens_id c (λr hr=>h r (by rw[AV.refs];exact List.mem_append_right _ hr))]
 | .tup l,h=>by simp only[AV.ren];rw[AV.rens_id l (λr hr=>h r (by rw[AV.refs];exact hr))]
 | .agg l,h=>by simp only[AV.ren];rw[AV.rens_id l (λr hr=>h r (by rw[AV.refs];exact hr))]
theorem AV.rens_id {f:Nat->Nat} : ∀ l:List AV,(∀ r∈AV.refss l,f r=r)->AV.rens f l=l
 | [],_=>rfl
 | x::l,h=>by rw[AV.rens,AV.ren_id x (λr hr=>h r (by rw[AV.refss];exact List.mem_append_left _ hr)),AV.rens_id l (λr hr=>h r (by rw[AV.refss];exact List.mem_append_right _ hr))]
end
theorem Rj {n:Nat} : ∀ {l:List Nat},wE n l=true↔n∈l
 | []=>by simp[wE]
 | x::l=>by
  simp only[wE]
  cases h:Nat.beq x n with
  | true=>simp only[vH.1 h,List.mem_cons,true_or]
  | false =>
   simp only[];rw[Rj,List.mem_cons];constructor
   ·exact .inr
   ·rintro(rfl|h1)
    ·simp at h
    ·exact h1
theorem Hl {j:Nat} : ∀ {H:SH},(∃ o,hget H j=some o)↔j∈keysOf H
 | []=>by simp[hget,keysOf]
 | x::l=>by
  simp only[hget,keysOf]
  cases h:Nat.beq x.1 j with
  | true=>simp[vH.1 h]
  | false =>
   simp only[];rw[Hl,List.mem_cons];constructor
   ·exact .inr
   ·rintro(rfl|h1)
    ·simp at h
    ·exact h1
theorem aeo {k:Nat} : ∀ {H:SH},Ra k H=true->∀ j∈keysOf H,j<k
 | [],_,j,h=>by simp[keysOf] at h
 | x::l,h,j,hj=>by
  simp only[Ra] at h;split at h
  ·rename_i hb;simp only[keysOf,List.mem_cons] at hj;rcases hj with rfl|hj
   ·simpa [Nat.blt_eq] using hb
   ·exact aeo h j hj
  ·cases h
structure Reached (H:SH) (l:List Nat) (R:SH):Prop where
 sub:∀ b o,hget R b=some o->hget H b=some o
 cl:∀ b o,hget R b=some o->∀ r∈SV.refss o.c,r∈keysOf R
 all:∀ b∈l,b∈keysOf R
theorem YP {H:SH} : ∀ {n:Nat} {todo:List Nat} {acc R:SH},Ng H n todo acc=some R->(∀ b o,hget acc b=some o->hget H b=some o)->(∀ b o,hget acc b=some o->∀ r∈SV.refss o.c,r∈todo\/r∈keysOf acc) ->
  Reached H todo R/\∀ b∈keysOf acc,b∈keysOf R
 | 0,_,_,_,h,_,_=>by cases h
 | n+1,[],acc,R,h,h1,h2=>by simp only[Ng,Option.some.injEq] at h;subst h;exact⟨⟨h1,λb o hb r hr=>(h2 b o hb r hr).resolve_left (by simp),λb hb=>by simp at hb⟩,λb hb=>hb⟩
 | n+1,b::todo,acc,R,h,h1,h2=>by
  simp only[Ng] at h;split at h
  ·rename_i o ho;have hk:b∈keysOf acc:=Hl.1 ⟨o,ho⟩
   obtain⟨h3,h4⟩:=YP h h1 (λb' o' hb' r hr=>by
    rcases h2 b' o' hb' r hr with h5|h5
    ·rcases List.mem_cons.1 h5 with rfl|h5
     ·exact .inr hk
     ·exact .inl h5
    ·exact .inr h5)
   refine⟨⟨h3.sub,h3.cl,λb' hb'=>?_⟩,h4⟩;rcases List.mem_cons.1 hb' with rfl|hb'
   ·exact h4 _ hk
   ·exact h3.all _ hb'
  ·split at h
   ·cases h
   ·rename_i hno _ o ho
    have hget':∀ b' o',hget ((b,o)::acc) b'=some o'->(b'=b/\o'=o)\/hget acc b'=some o':=λb' o' hb'=>by
     simp only[hget] at hb';split at hb'
     ·rename_i he;cases hb';exact .inl ⟨(vH.1 he).symm,rfl⟩
     ·exact .inr hb'
    obtain⟨h3,h4⟩:=YP h (λb' o' hb'=>by
     rcases hget' b' o' hb' with⟨rfl,rfl⟩|hb'
     ·exact ho
     ·exact h1 b' o' hb') (λb' o' hb' r hr=>by
     rcases hget' b' o' hb' with⟨rfl,rfl⟩|hb'
     ·exact .inl (List.mem_append_left _ hr)
     ·rcases h2 b' o' hb' r hr with h5|h5
      ·rcases List.mem_cons.1 h5 with rfl|h5
       ·exact .inr (by simp[keysOf])
       ·exact .inl (List.mem_append_right _ h5)
      ·exact .inr (by simp[keysOf,h5]))
    refine⟨⟨h3.sub,h3.cl,λb' hb'=>?_⟩,λb' hb'=>h4 _ (by simp[keysOf,hb'])⟩;rcases List.mem_cons.1 hb' with rfl|hb'
    ·exact h4 _ (by simp[keysOf])
    ·exact h3.all _ (List.mem_append_right _ hb')
theorem aep {H:SH} {l:List Nat} {R:SH} (h:reach H l=some R):Reached H l R:=by
 unfold reach at h;split at h
 ·cases h;exact⟨λb o hb=>(by cases hb),λb o hb=>(by cases hb),λb hb=>(by cases hb)⟩
 ·exact(YP h (λb o hb=>(by cases hb)) (λb o hb=>(by cases hb))).1
theorem aeq {k:Nat} {objs:SH} : ∀ {R:SH} {nw:List Nat},Q9 k objs R=some nw->(∀ j∈keysOf R,j∈nw\/j∈keysOf objs)/\∀ n∈nw,k<=n/\n∈keysOf R
 | [],nw,h=>by cases h;exact⟨λj hj=>by simp[keysOf] at hj,λn hn=>by simp at hn⟩
 | x::l,nw,h=>by
  simp only[Q9] at h;split at h
  ·cases h
  ·rename_i r hr;obtain⟨h1,h2⟩:=aeq hr;split at h
   ·rename_i hk;cases h;refine⟨λj hj=>?_,λn hn=>?_⟩
    ·simp only[keysOf,List.mem_cons] at hj;rcases hj with rfl|hj
     ·exact .inl List.mem_cons_self
     ·exact(h1 j hj).imp (List.mem_cons_of_mem _) id
    ·rcases List.mem_cons.1 hn with rfl|hn
     ·exact⟨Nat.le_of_ble_eq_true hk,by simp[keysOf]⟩
     ·exact⟨(h2 n hn).1,by simp[keysOf,(h2 n hn).2]⟩
   ·split at h
    ·rename_i o ho;cases h;refine⟨λj hj=>?_,λn hn=>⟨(h2 n hn).1,by simp[keysOf,(h2 n hn).2]⟩⟩;simp only[keysOf,List.mem_cons] at hj;rcases hj with rfl|hj
     ·exact .inr (Hl.1 ⟨o,ho⟩)
     ·exact h1 j hj
    ·cases h
theorem Hm {dt:List Nat} {j:Nat} : ∀ {H:SH},j∈BZ dt H↔j∈keysOf H/\wE j dt=true
 | []=>by simp[BZ,keysOf]
 | x::l=>by
  simp only[BZ,keysOf]
  cases h:wE x.1 dt with
  | true =>
   simp only[List.mem_cons,Hm (H:=l)];constructor
   ·rintro(rfl|h1)
    ·exact⟨.inl rfl,h⟩
    ·exact⟨.inr h1.1,h1.2⟩
   ·rintro⟨rfl|h1,h2⟩
    ·exact .inl rfl
    ·exact .inr ⟨h1,h2⟩
  | false =>
   simp only[List.mem_cons,Hm (H:=l)];constructor
   ·rintro⟨h1,h2⟩;exact⟨.inr h1,h2⟩
   ·rintro⟨rfl|h1,h2⟩
    ·rw[h] at h2;cases h2
    ·exact⟨h1,h2⟩
def Nn (s:ut) (f:Nat->Nat) (o:SO):AO:=(⟨SV.rens f o.c,o.t⟩:SO).den s
theorem anv (f:Nat->Nat):∀ c:List SV,Ed (SV.rens f c)=Ed c
 | []=>rfl
 | [x]=>by cases x<;>rfl
 | x::y::l=>by cases x<;>cases y<;>rfl
theorem anw (f:Nat->Nat):∀ c:List SV,Bv (SV.rens f c)=Bv c
 | []=>rfl
 | [x]=>by cases x<;>rfl
 | x::y::l=>rfl
theorem aer (f:Nat->Nat):∀ l:List SV,(SV.rens f l).map TW=l.map TW
 | []=>rfl
 | x::l=>by rw[SV.rens,List.map_cons,List.map_cons,aer f l];cases x<;>rfl
theorem anx (f:Nat->Nat):∀ c:List SV,BX (SV.rens f c)=BX c
 | []=>rfl
 | [x]=>rfl
 | [x,y]=>rfl
 | x::y::z::l=>by
  have e1:TY (SV.ren f x)=TY x:=by cases x<;>rfl
  have e2:TZ (SV.ren f y)=TZ y:=by cases y<;>rfl
  have e3:T9 (SV.ren f z)=T9 z:=by cases z<;>rfl
  simp only[SV.rens,BX,aer,e1,e2,e3]
theorem aes (s:ut) (f:Nat->Nat) (o:SO):Nn s f o=AO.ren f (o.den s):=by
 obtain⟨c,t⟩:=o
 cases t with
 | some t=>unfold Nn SO.den AO.ren;simp only[SV.dens_ren]
 | none =>
  unfold Nn SO.den;simp only[anv,anw,anx]
  cases Bv c with
  | some es=>rfl
  | none=>cases BX c<;>rfl
theorem KI:∀ {l:SH} {k:Nat} {o:SO},KG l=true->hget l k=some o->∃ t,o.t=some t
 | [],k,o,_,h=>by cases h
 | x::l,k,o,ha,h=>by
  simp only[KG] at ha;simp only[hget] at h;split at ha
  ·rename_i t ht;split at h
   ·cases h;exact⟨t,ht⟩
   ·exact KI ha h
  ·cases ha
theorem aet:∀ (a b:List (Nat×AO)) (H:tZ),H.puts (a++b)=(H.puts a).puts b
 | [],b,H=>rfl
 | x::a,b,H=>by rw[List.cons_append,tZ.puts,tZ.puts,aet a b]
theorem YQ (s:ut) (f:Nat->Nat) (Hh:SH):∀ (l:List Nat) (H:tZ) (j:Nat),(H.puts (uY s (F4 f Hh l))) j=match (match wE j l with|true=>hget Hh j|false=>none) with|some o=>some (Nn s f o)|none=>H j
 | [],H,j=>rfl
 | b::l,H,j=>by
  simp only[F4]
  cases ho:hget Hh b with
  | some o =>
   simp only[];rw[uY,List.map_cons,tZ.puts];have ih:=YQ s f Hh l (H.put b (Nn s f o)) j;rw[uY] at ih;refine ih.trans ?_;simp only[wE]
   cases hb:Nat.beq b j with
   | true =>
    have:=vH.1 hb;subst this;simp only[ho]
    cases wE b l with
    | true=>simp only[ho]
    | false=>simp only[tZ.put_same]
   | false =>
    simp only[]
    cases hm:wE j l with
    | true =>
     simp only[]
     cases hget Hh j with
     | some _=>rfl
     | none=>simp only[];exact tZ.put_ne _ _ _ (λe=>by subst e;simp at hb)
    | false=>simp only[];exact tZ.put_ne _ _ _ (λe=>by subst e;simp at hb)
  | none =>
   simp only[];refine(YQ s f Hh l H j).trans ?_;simp only[wE]
   cases hb:Nat.beq b j with
   | true =>
    have:=vH.1 hb;subst this;simp only[ho];cases wE b l<;>simp only[ho]
   | false=>rfl
structure Names (k:Nat) (nw:List Nat) (m:List (Nat×Nat)) (f:Nat->Nat) (src:Nat->Option Nat):Prop where
 old:∀ j,j<k->f j=j
 new:∀ n∈nw,src (f n)=some n
 srcOld:∀ j,j<k->src j=none
 srcNew:∀ j n,src j=some n->n∈nw/\f n=j/\(j=k\/j=k+1)
theorem anz {k:Nat} {nw:List Nat} {m:List (Nat×Nat)} (h:Uj k nw=some m) (hk:∀ n∈nw,k<=n):∃ src,Names k nw m (xN m) src/\∀ (s:ut) (Hh:SH),(∀ n∈nw,∃ o,hget Hh n=some o)->∀ (H:tZ) (j:Nat),
  (H.puts (uY s (EO (xN m) Hh nw))) j=match src j with|some n=>(hget Hh n).map (Nn s (xN m))|none=>H j:=by
 unfold Uj at h;split at h
 ·cases h;exact⟨λ_=>none,⟨λ_ _=>rfl,λn hn=>by simp at hn,λ_ _=>rfl,λ_ _ h=>by cases h⟩,λs Hh _ H j=>rfl⟩
 ·rename_i n1;cases h;have h1:=hk n1 (by simp);refine⟨λj=>if j=k then some n1 else none,⟨?_,?_,?_,?_⟩,?_⟩
  ·intro j hj;simp only[xN]
   cases hb:Nat.beq n1 j with
   | true=>have:=vH.1 hb;omega
   | false=>rfl
  ·intro n hn;simp only[List.mem_singleton] at hn;subst hn;simp[xN]
  ·intro j hj;simp;omega
  ·intro j n hs;split at hs
   ·rename_i hj;cases hs;subst hj;exact⟨by simp,by simp[xN],.inl rfl⟩
   ·cases hs
  ·intro s Hh hH H j;obtain⟨o,ho⟩:=hH n1 (by simp);simp only[EO,ho,uY,List.map_cons,List.map_nil,tZ.puts];have hf:xN [(n1,k)] n1=k:=by simp[xN]
   rw[hf];by_cases hj:j=k
   ·subst hj;simp only[if_true,tZ.put_same,ho];rfl
   ·simp only[if_neg hj];exact tZ.put_ne _ _ _ hj
 ·rename_i n1 n2;split at h
  ·cases h
  ·rename_i hne;cases h;have h1:=hk n1 (by simp);have h2:=hk n2 (by simp);have hne':n1≠n2:=λe=>by subst e;simp at hne
   have f1:xN [(n1,k),(n2,k+1)] n1=k:=by simp[xN]
   have f2:xN [(n1,k),(n2,k+1)] n2=k+1:=by simp only[xN,hne];simp
   refine⟨λj=>if j=k then some n1 else if j=k+1 then some n2 else none,⟨?_,?_,?_,?_⟩,?_⟩
   ·intro j hj;simp only[xN]
    cases hb:Nat.beq n1 j with
    | true=>have:=vH.1 hb;omega
    | false =>
     simp only[]
     cases hb2:Nat.beq n2 j with
     | true=>have:=vH.1 hb2;omega
     | false=>rfl
   ·intro n hn;simp only[List.mem_cons,List.not_mem_nil,or_false] at hn;rcases hn with rfl|rfl
    ·rw[f1];simp
    ·rw[f2];simp
   ·intro j hj;rw[if_neg (by omega),if_neg (by omega)]
   ·intro j n hs;split at hs
    ·rename_i hj;cases hs;subst hj;exact⟨by simp,f1,.inl rfl⟩
    ·split at hs
     ·rename_i hj;cases hs;subst hj;exact⟨by simp,f2,.inr rfl⟩
     ·cases hs
   ·intro s Hh hH H j;obtain⟨o1,ho1⟩:=hH n1 (by simp);obtain⟨o2,ho2⟩:=hH n2 (by simp);simp only[EO,ho1,ho2,uY,List.map_cons,List.map_nil,tZ.puts,f1,f2];by_cases hj:j=k
    ·subst hj;rw[tZ.put_ne _ _ _ (by omega),tZ.put_same];simp only[if_true,ho1];rfl
    ·by_cases hj2:j=k+1
     ·subst hj2;rw[tZ.put_same];simp only[if_neg hj,if_true,ho2];rfl
     ·rw[tZ.put_ne _ _ _ hj2,tZ.put_ne _ _ _ hj];simp only[if_neg hj,if_neg hj2]
 ·cases h
theorem YR:∀ (l:List SV) (n t:Nat),yu (xO l n) t=match l[t]? with|some x=>if t<n then some x else none|none=>if t<n then some (.v undef) else none
 | [],0,t=>by simp[xO,yu]
 | [],n+1,0=>by simp[xO,yu]
 | [],n+1,t+1=>by simp only[xO,yu];rw[YR [] n t];simp
 | x::l,0,t=>by simp only[xO,yu];cases (x::l)[t]? <;> simp
 | x::l,n+1,0=>by simp[xO,yu]
 | x::l,n+1,t+1=>by simp only[xO,yu];rw[YR l n t];simp
theorem Np (s:ut) (l:List SV) (n:Nat):uJ.den s (xO l n)=GR (SV.dens s l) n:=by
 funext t;unfold uJ.den GR;rw[YR,SV.dens_map,List.getElem?_map]
 cases l[t]? with
 | some x=>simp only[Option.map_some];split<;>rfl
 | none=>simp only[Option.map_none];split<;>rfl
theorem Jd:∀ (l:List SV) (n:Nat),l.length<=n->(xO l n).length=n
 | [],0,_=>rfl
 | [],n+1,_=>by rw[xO];simp[Jd [] n (by simp)]
 | x::l,0,h=>by simp at h
 | x::l,n+1,h=>by rw[xO];simp[Jd l n (by simpa using h)]
theorem Je {P:Program} {G:uG} (s:ut) {T:uJ} {H:SH} : ∀ {l:List ResultVar} {rs:List SV},yw P T H l=some rs->BP P G (uJ.den s T) (SH.den s H) l=some (SV.dens s rs)
 | [],rs,h=>by cases h;rfl
 | .tmp t::l,rs,h=>by
  simp only[yw] at h;split at h
  ·rename_i x r hx hr;cases h;simp only[BP,Je s hr];have:uJ.den s T t=some (x.den s):=by simp[uJ.den,hx]
   rw[this];rfl
  ·cases h
 | .cell a t::l,rs,h=>by
  simp only[yw] at h;split at h
  ·rename_i b o hx;split at h
   ·rename_i ob hob;split at h
    ·rename_i t0 ht0;split at h
     ·rename_i x r hx2 hr;cases h;have:uJ.den s T a=some (.loc b o):=by simp[uJ.den,hx,SV.den]
      simp only[BP,this,AU,SH.den_get hob ht0,KA s hx2,Je s hr];rfl
     ·cases h
    ·cases h
   ·cases h
  ·cases h
structure Cz (C:vI) (s:ut) (g:FuncId) (args:List SV) (H:SH) (k:Nat) (r:CR):Prop where
 tc:∀ b∈r.tc,SH.den s H b≠none
 ef:∀ x∈uY s r.ef,x.1=k\/x.1=k+1\/x.1∈r.tc
 fc:vO s r.fc
 ok:∀ w0 B0,QA C.P C.G w0 B0 g (SV.dens s args) (SH.den s H) r.tc k (r.r.den s) (uY s r.ef)
def DOK (H0:SH) (dt:List Nat) (H:SH):Prop:=∀ j,wE j dt=false->hget H j=hget H0 j
def zu (s:ut) (ex:Exit) (st:St):BO:=λx N T H=>x=ex/\N=st.N/\T=uJ.den s st.T/\H=SH.den s st.H
theorem YS {s:ut} {f:Nat->Nat} {Hh:SH} : ∀ {l:List Nat} {x:Nat×AO},x∈uY s (F4 f Hh l)->x.1∈l
 | [],x,h=>by simp[F4,uY] at h
 | b::l,x,h=>by
  simp only[F4] at h;split at h
  ·rw[uY,List.map_cons] at h;rcases List.mem_cons.1 h with rfl|h
   ·exact List.mem_cons_self
   ·exact List.mem_cons_of_mem _ (YS h)
  ·exact List.mem_cons_of_mem _ (YS h)
theorem YT {s:ut} {f:Nat->Nat} {Hh:SH} : ∀ {l:List Nat} {x:Nat×AO},x∈uY s (EO f Hh l)->∃ n∈l,x.1=f n
 | [],x,h=>by simp[EO,uY] at h
 | b::l,x,h=>by
  simp only[EO] at h;split at h
  ·rw[uY,List.map_cons] at h;rcases List.mem_cons.1 h with rfl|h
   ·exact⟨b,List.mem_cons_self,rfl⟩
   ·obtain⟨n,hn,e⟩:=YT h;exact⟨n,List.mem_cons_of_mem _ hn,e⟩
  ·obtain⟨n,hn,e⟩:=YT h;exact⟨n,List.mem_cons_of_mem _ hn,e⟩
theorem aev {C:vI} {E:vR} {s:ut} {g:FuncId} {fn:Func} {cd:Code} {args:List SV} {H objs:SH} {k:Nat} {ex:Exit} {st:St} {rs:List SV} {R2:SH} {nw:List Nat} {m:List (Nat×Nat)} {fc:Facts}
  (hf:C.P.funcs[g]? = some fn) (hb:fn.body=some cd) (hn:(fn.name == "runtime.NumGoroutine")=false) (hro:reach H (SV.refss args)=some objs) (hl:Nat.ble args.length fn.ntmps=true) (hk:Ra k objs=true)
  (hA:∀ w0 B0,AW ⟨C.P,C.G,E,w0,B0,fn.ntmps⟩ cd (zu s ex st) k (uJ.den s (xO args fn.ntmps)) (SH.den s objs)) (hex:ex = .normal\/ex = .ret) (hD:DOK objs st.dt st.H) (hfc:vO s fc)
  (hrs:yw C.P st.T st.H fn.results.toList=some rs) (hR2:reach st.H (SV.refss rs++BZ st.dt objs)=some R2) (hw0:KG objs=true) (hw2:KG R2=true) (hnw:Q9 k objs R2=some nw) (hm:Uj k nw=some m) (nv:Nat) :
  Cz C s g args H k ⟨(resS rs).ren (xN m),keysOf objs,F4 (xN m) st.H (BZ st.dt objs)++EO (xN m) st.H nw,nv,fc⟩:=by
 have ro:=aep hro;have r2:=aep hR2;obtain⟨n1,n2⟩:=aeq hnw;obtain⟨src,hN,hput⟩:=anz hm (λn hn=>(n2 n hn).1);have hlt:=aeo hk
 have hH:∀ j∈keysOf objs,∃ o,hget objs j=some o/\hget H j=some o:=λj hj=>by obtain⟨o,ho⟩:=Hl.2 hj;exact⟨o,ho,ro.sub j o ho⟩
 have hden:∀ j∈keysOf objs,SH.den s objs j=SH.den s H j:=λj hj=>by obtain⟨o,h1,h2⟩:=hH j hj;unfold SH.den;rw[h1,h2]
 have hnew:∀ n∈nw,∃ o,hget st.H n=some o/\hget R2 n=some o:=λn hn=>by obtain⟨o,ho⟩:=Hl.2 (n2 n hn).2;exact⟨o,r2.sub n o ho,ho⟩
 let sr:Nat->Option Nat:=λj=>if j∈keysOf objs then some j else src j
 have srk:∀ j∈keysOf objs,sr j=some j:=λj hj=>if_pos hj
 have srn:∀ r,(r∈nw\/r∈keysOf objs)->sr (xN m r)=some r:=by
  rintro r (hr|hr)
  ·have h1:=hN.new r hr
   have:xN m r∉keysOf objs:=λhm'=>by have:=hN.srcOld _ (hlt _ hm');rw[this] at h1;cases h1
   show(if _ then _ else _)=_;rw[if_neg this,h1]
  ·rw[hN.old r (hlt r hr)];exact srk r hr
 have clean:∀ j∈keysOf objs,wE j st.dt=false->∃ o,hget st.H j=some o/\hget objs j=some o:=λj hj hd=>by obtain⟨o,h1,_⟩:=hH j hj;exact⟨o,by rw[hD j hd];exact h1,h1⟩
 have cont:∀ j o,hget st.H j=some o->(j∈nw\/j∈keysOf objs)->∀ r∈SV.refss o.c,r∈nw\/r∈keysOf objs:=by
  intro j o ho hj r hr
  have zR:∀ b,b∈keysOf R2->hget st.H b=some o->r∈nw\/r∈keysOf objs:=λb hbk hb=>by obtain⟨o',ho'⟩:=Hl.2 hbk;have:=r2.sub b o' ho';rw[hb] at this;cases this;exact n1 r (r2.cl b o ho' r hr)
  rcases hj with hj|hj
  ·exact zR j (n2 j hj).2 ho
  ·cases hd:wE j st.dt with
   | true=>exact zR j (r2.all j (List.mem_append_right _ (Hm.2 ⟨hj,hd⟩))) ho
   | false =>
    obtain⟨o',h1,h2⟩:=clean j hj hd;rw[ho] at h1;cases h1;exact .inr (ro.cl j o h2 r hr)
 have have':∀ j,(j∈nw\/j∈keysOf objs)->∃ o,hget st.H j=some o:=by
  rintro j (hj|hj)
  ·obtain⟨o,h1,_⟩:=hnew j hj;exact⟨o,h1⟩
  ·cases hd:wE j st.dt with
   | true =>
    obtain⟨o,ho⟩:=Hl.2 (r2.all j (List.mem_append_right _ (Hm.2 ⟨hj,hd⟩)));exact⟨o,r2.sub j o ho⟩
   | false=>obtain⟨o,h1,_⟩:=clean j hj hd;exact⟨o,h1⟩
 have own':∀ j o,(j∈nw\/j∈keysOf objs)->hget st.H j=some o->∃ t,o.t=some t:=by
  intro j o hj ho;rcases hj with hj|hj
  ·obtain⟨o',h1,h2⟩:=hnew j hj;rw[ho] at h1;cases h1;exact KI hw2 h2
  ·cases hd:wE j st.dt with
   | true =>
    obtain⟨o',ho'⟩:=Hl.2 (r2.all j (List.mem_append_right _ (Hm.2 ⟨hj,hd⟩)));have:=r2.sub j o' ho';rw[ho] at this;cases this;exact KI hw2 ho'
   | false =>
    obtain⟨o',h1,h2⟩:=clean j hj hd;rw[ho] at h1;cases h1;exact KI hw0 h2
 refine⟨?_,?_,hfc,?_⟩
 ·intro b hb;obtain⟨o,_,h2⟩:=hH b hb;unfold SH.den;rw[h2];simp
 ·intro x hx;rw[uY,List.map_append,<- uY,<- uY] at hx;rcases List.mem_append.1 hx with hx|hx
  ·exact .inr (.inr (Hm.1 (YS hx)).1)
  ·obtain⟨n,hn,e⟩:=YT hx;rw[e];exact(hN.srcNew _ n (hN.new n hn)).2.2.imp id .inl
 ·intro w0 B0;rw[SV.den_ren];refine ann E (H1:=SH.den s objs) (Hc:=SH.den s st.H) (keysOf objs) k sr (xN m) hf hb hn (by rw[Cw];exact hl) ?_ ?_ ?_ ?_ ?_ srk ?_ ?_ ?_ ?_
  ·intro j o hj;unfold SH.den at hj
   cases hg:hget objs j with
   | none=>rw[hg] at hj;cases hj
   | some o'=>exact Hl.1 ⟨o',hg⟩
  ·intro j hj;obtain⟨o,h1,h2⟩:=hH j hj;obtain⟨t0,ht0⟩:=KI hw0 h1;exact⟨hden j hj,⟨_,_,SH.den_get h2 ht0⟩,hlt j hj⟩
  ·intro j c t hj r hr;unfold SH.den at hj
   cases hg:hget objs j with
   | none=>rw[hg] at hj;cases hj
   | some o' =>
    rw[hg] at hj;obtain⟨t0,ht0⟩:=KI hw0 hg;rw[Option.map_some,SO.den_own s ht0] at hj;simp only[Option.some.injEq,AO.own.injEq] at hj;rw[<- hj.1] at hr;exact ro.cl j o' hg r (SV.dens_refs s _ hr)
  ·intro x hx j hj;rw[SV.dens_map] at hx;obtain⟨y,hy,rfl⟩:=List.mem_map.1 hx;refine ro.all j ?_;have:j∈AV.refss (SV.dens s args):=AV.mem_refss.2 ⟨_,by rw[SV.dens_map];exact List.mem_map_of_mem hy,hj⟩;exact SV.dens_refs s args this
  ·intro j n hs
   have key:(n∈nw\/n∈keysOf objs)/\xN m n=j:=by
    by_cases hj:j∈keysOf objs
    ·have:sr j=some j:=srk j hj;rw[this] at hs;cases hs;exact⟨.inr hj,hN.old j (hlt j hj)⟩
    ·have:sr j=src j:=if_neg hj;rw[this] at hs;obtain⟨h1,h2,_⟩:=hN.srcNew j n hs;exact⟨.inl h1,h2⟩
   obtain⟨o,ho⟩:=have' n key.1;obtain⟨t0,ht0⟩:=own' n o key.1 ho;refine⟨key.2,_,_,SH.den_get ho ht0,λr hr=>srn r (cont n o ho key.1 r (SV.dens_refs s _ hr))⟩
  ·intro j n hs;by_cases hj:j∈keysOf objs
   ·exact .inl hj
   ·have:sr j=src j:=if_neg hj;rw[this] at hs;exact .inr (hN.srcNew j n hs).2.2
  ·intro j hj;refine srn j (n1 j (r2.all j (List.mem_append_left _ ?_)));have h1:=SV.den_refs s _ hj
   cases rs with
   | nil=>simp[resS,SV.refs,SV.refss] at h1
   | cons x l=>cases l with
    | nil=>simpa [resS,SV.refss] using h1
    | cons y l=>exact h1
  ·intro H' hag j;rw[uY,List.map_append,<- uY,<- uY,aet,hput s st.H (λn hn=>(hnew n hn).imp λo ho=>ho.1),YQ];by_cases hj:j∈keysOf objs
   ·have h0:src j=none:=hN.srcOld j (hlt j hj);rw[h0,srk j hj];simp only
    cases hd:wE j st.dt with
    | true =>
     have:wE j (BZ st.dt objs)=true:=Rj.2 (Hm.2 ⟨hj,hd⟩);rw[this];obtain⟨o,ho⟩:=have' j (.inr hj);simp only[ho,SH.den,Option.map_some,aes]
    | false =>
     have:wE j (BZ st.dt objs)=false:=by
      cases hmn:wE j (BZ st.dt objs) with
      | false=>rfl
      | true=>have:=(Hm.1 (Rj.1 hmn)).2;rw[hd] at this;cases this
     rw[this];obtain⟨o,h1,h2⟩:=clean j hj hd;obtain⟨o',h3,h4⟩:=hH j hj;rw[h2] at h3;cases h3;simp only[];rw[hag j hj];obtain⟨t0,ht0⟩:=KI hw0 h2;simp only[SH.den,h1,h4,Option.map_some,SO.den_own s ht0,AO.ren];rw[AV.rens_id _ (λr hr=>hN.old r (hlt r (ro.cl j o h2 r (SV.dens_refs s _ hr))))]
   ·have h0:sr j=src j:=if_neg hj;rw[h0]
    cases hs:src j with
    | some n =>
     simp only;obtain⟨o,ho⟩:=have' n (.inl (hN.srcNew j n hs).1);simp only[ho,SH.den,Option.map_some,aes]
    | none =>
     simp only
     have:wE j (BZ st.dt objs)=false:=by
      cases hmn:wE j (BZ st.dt objs) with
      | false=>rfl
      | true=>exact absurd (Hm.1 (Rj.1 hmn)).1 hj
     rw[this]
  ·intro w1 B;have:=hA w1 B;rw[Np] at this;refine this.mono ?_;rintro x N T Hx ⟨rfl,rfl,rfl,rfl⟩;have hres:=Je (G:=C.G) s hrs;rcases hex with rfl|rfl
   ·exact⟨_,hres,Jc s rs,rfl⟩
   ·exact⟨_,hres,Jc s rs,rfl⟩
def KJ (w:World) (k:VK) (n:Int) (v:Value):Prop:=match k with
 | .nat=>Reads w v (uH n.toNat) (Bu n.toNat)
 | k=>v=wB k n
def wF (w:World):List VK->List Int->List Value->Prop
 | [],[],[]=>True
 | k::ks,n::ns,v::vs=>KJ w k n v/\wF w ks ns vs
 | _,_,_=>False
def Rk (h:Sh) (vs:List Value):Value:=match h with
 | .sc _=>vs.headD undef
 | .agg l=>.agg (vs.take l.length).toArray
def EQ:List Sh->List Value->List Value
 | [],_=>[]
 | h::hs,vs=>Rk h vs::EQ hs (vs.drop h.kinds.length)
def F6 (P:Program) (G:uG) (g:FuncId) (ct:Ct) (l r:List Int):Prop:=∀ w fvs,Gl G w->wF w (tO ct.a) l fvs->Ae P g (EQ ct.a fvs).toArray w λe w' =>
 ∃ fus,e = .returned (vP (EQ ct.r fus))/\wF w' (tO ct.r) r fus/\(∀ u∈fus,∀ b,wV u=some b->w.heap.size<=b\/∃ v∈fvs,wV v=some b)/\tQ w w'
theorem wF.len {w:World} : ∀ {ks:List VK} {ns:List Int} {vs:List Value},wF w ks ns vs->ns.length=ks.length/\vs.length=ks.length
 | [],[],[],_=>⟨rfl,rfl⟩
 | k::ks,n::ns,v::vs,h=>by obtain⟨h1,h2⟩:=wF.len h.2;exact⟨by simp[h1],by simp[h2]⟩
 | [],_::_,_,h=>h.elim
 | [],[],_::_,h=>h.elim
 | _::_,[],_,h=>h.elim
 | _::_,_::_,[],h=>h.elim
theorem YU {w:World} {v:Value} {n:Nat} {c:List Value} (h:Reads w v n c):De v=v:=by rcases h with⟨h1,_⟩|⟨b',o,cap,h1,_⟩<;>rw[h1]<;>rfl
theorem anA {k:VK} {n:Int} (h:nN k=0):wV (wB k n)=none:=by cases k<;>first|rfl|cases h
theorem wF.append {w:World} : ∀ {ks js:List VK} {ns ms:List Int} {vs us:List Value},wF w ks ns vs->wF w js ms us->wF w (ks++js) (ns++ms) (vs++us)
 | [],js,[],ms,[],us,_,h=>h
 | k::ks,js,n::ns,ms,v::vs,us,h,h'=>⟨h.1,wF.append h.2 h'⟩
 | [],_,_::_,_,_,_,h,_=>h.elim
 | [],_,[],_,_::_,_,h,_=>h.elim
 | _::_,_,[],_,_,_,h,_=>h.elim
 | _::_,_,_::_,_,[],_,h,_=>h.elim
structure Ho (w0:World) (B0:ve) (e:Env) (H:tZ) (v:Value):Prop where
 ap:∀ b,wV v=some b->∀ j c t,H j=some (.own c t)->b≠e.blk j
 new:∀ b,wV v=some b->w0.heap.size<=b\/∃ j∈B0.dom,wV (B0.env.hnd j)=some b
section
variable {G:uG} {w0:World} {B0:ve} {e:Env} {H':tZ} {w:World} {s:ut} {H:SH}
theorem aew {v:Value} (h:wV v=none):Ho w0 B0 e H' v:=⟨λb hb=>(by rw[h] at hb;cases hb),λb hb=>(by rw[h] at hb;cases hb)⟩
theorem aex (R:uO G w0 B0 e H' w) {k:VK} {x:SV} {a:X} (h:Ni H k x=some a) (hag:∀ b∈x.refs,H' b=SH.den s H b) :
  ∃ v,(x.den s).val e=v/\KJ w k (a.den s) v/\Ho w0 B0 e H' v:=by
 have plain:∀ k,nN k=0->EN k x=some a->∃ v,(x.den s).val e=v/\v=wB k (a.den s)/\Ho w0 B0 e H' v:=λk hk h=>by
  refine⟨_,rfl,?_,?_⟩
  ·rw[Un s h];rfl
  ·rw[Un s h];exact aew (anA hk)
 cases k with
 | int k=>exact plain _ rfl h
 | bool=>exact plain _ rfl h
 | bit=>exact plain _ rfl h
 | nat =>
  simp only[Ni] at h;split at h
  ·rename_i j;split at h
   ·rename_i o ho;split at h
    ·rename_i ht
     obtain⟨kd,x,hc,rfl⟩:∃ kd x,o.c = [.int kd x]/\a=x:=by
      split at h
      ·rename_i kd x hc;cases h;exact⟨kd,_,hc,rfl⟩
      ·cases h
     have hj:H' j=some (.rd (uH (X.den s a).toNat) (Bu (X.den s a).toNat)):=by have:=SH.den_nat (s:=s) ho ht (by rw[hc];rfl) (by rw[hc];rfl);rw[hag j (by simp[SV.refs]),this,hc];rfl
     have hr:=R.rd j _ _ hj;refine⟨e.hnd j,?_,hr,?_,?_⟩
     ·simp only[SV.den,AV.val];exact YU hr
     ·intro b hb i c t hi he;exact R.apart j _ _ i c t hj hi (by rw[hb,he])
     ·intro b hb;exact R.new j _ _ hj b hb
    ·cases h
   ·cases h
  ·cases h;refine⟨.slice none 0 0,rfl,?_,aew rfl⟩;exact .inl ⟨rfl,rfl,rfl⟩
  ·cases h
theorem YV (R:uO G w0 B0 e H' w):∀ {ks:List VK} {xs:List SV} {l:List X},F5 H ks xs=some l->(∀ b∈SV.refss xs,H' b=SH.den s H b) ->
  ∃ fvs,AV.vals e (SV.dens s xs)=fvs/\wF w ks (l.map (X.den s)) fvs/\∀ v∈fvs,Ho w0 B0 e H' v
 | [],[],l,h,_=>by cases h;exact⟨[],rfl,trivial,λv hv=>by cases hv⟩
 | k::ks,x::xs,l,h,hag=>by
  simp only[F5] at h;split at h
  ·rename_i a l' ha hl;cases h;obtain⟨fvs,h1,h2,h3⟩:=YV R hl (λb hb=>hag b (by rw[SV.refss];exact List.mem_append_right _ hb));obtain⟨v,h4,h5,h6⟩:=aex R ha (λb hb=>hag b (by rw[SV.refss];exact List.mem_append_left _ hb));refine⟨v::fvs,by rw[SV.dens,AV.vals,h1,h4],⟨h5,h2⟩,λu hu=>?_⟩;rcases List.mem_cons.1 hu with rfl|hu
   ·exact h6
   ·exact h3 u hu
  ·cases h
 | [],_::_,l,h,_=>by cases h
 | _::_,[],l,h,_=>by cases h
theorem anB (R:uO G w0 B0 e H' w) {sh:Sh} {x:SV} {l:List X} (h:Nj H sh x=some l) (hag:∀ b∈x.refs,H' b=SH.den s H b) :
  ∃ fvs,(∀ us,(x.den s).val e=Rk sh (fvs++us))/\wF w sh.kinds (l.map (X.den s)) fvs/\∀ v∈fvs,Ho w0 B0 e H' v:=by
 unfold Nj at h;split at h
 ·split at h
  ·rename_i a ha;cases h;obtain⟨v,h1,h2,h3⟩:=aex R ha hag;exact⟨[v],λus=>h1,⟨h2,trivial⟩,λu hu=>by simp at hu;subst hu;exact h3⟩
  ·cases h
 ·rename_i ks xs;obtain⟨fvs,h1,h2,h3⟩:=YV R h (λb hb=>hag b (by rw[SV.refs];exact hb));refine⟨fvs,λus=>?_,h2,h3⟩;rw[SV.den,Qx,h1];simp only[Rk];rw[List.take_append_of_le_length (by rw[(wF.len h2).2];exact Nat.le_refl _),List.take_of_length_le (by rw[(wF.len h2).2];exact Nat.le_refl _)]
 ·rename_i ks cs
  have hrf:∀ l:List Value,SV.refss (l.map AA) = []:=λl=>by
   induction l with
   | nil=>rfl
   | cons x l ih=>rw[List.map_cons,SV.refss,ih];cases x<;>rfl
  obtain⟨fvs,h1,h2,h3⟩:=YV R h (λb hb=>by rw[hrf] at hb;cases hb);refine⟨fvs,λus=>?_,h2,h3⟩;rw[Ec,Ay] at h1;simp only[SV.den,AV.val,Rk];rw[List.take_append_of_le_length (by rw[(wF.len h2).2];exact Nat.le_refl _),List.take_of_length_le (by rw[(wF.len h2).2];exact Nat.le_refl _),<- h1]
 ·cases h
theorem YW (R:uO G w0 B0 e H' w):∀ {hs:List Sh} {xs:List SV} {l:List X},Ej H hs xs=some l->(∀ b∈SV.refss xs,H' b=SH.den s H b) ->
  ∃ fvs,AV.vals e (SV.dens s xs)=EQ hs fvs/\wF w (tO hs) (l.map (X.den s)) fvs/\∀ v∈fvs,Ho w0 B0 e H' v
 | [],[],l,h,_=>by cases h;exact⟨[],rfl,trivial,λv hv=>by cases hv⟩
 | sh::hs,x::xs,l,h,hag=>by
  simp only[Ej] at h;split at h
  ·rename_i a l' ha hl;cases h;obtain⟨fvs,h1,h2,h3⟩:=YW R hl (λb hb=>hag b (by rw[SV.refss];exact List.mem_append_right _ hb));obtain⟨gvs,h4,h5,h6⟩:=anB R ha (λb hb=>hag b (by rw[SV.refss];exact List.mem_append_left _ hb));refine⟨gvs++fvs,?_,?_,λu hu=>?_⟩
   ·rw[SV.dens,AV.vals,h1,h4 fvs,EQ,List.drop_append_of_le_length (by rw[(wF.len h5).2];exact Nat.le_refl _),List.drop_of_length_le (by rw[(wF.len h5).2];exact Nat.le_refl _)];rfl
   ·have hk:tO (sh::hs)=sh.kinds++tO hs:=by simp[tO]
    rw[hk,List.map_append];exact wF.append h5 h2
   ·rcases List.mem_append.1 hu with hu|hu
    ·exact h6 u hu
    ·exact h3 u hu
  ·cases h
 | [],_::_,l,h,_=>by cases h
 | _::_,[],l,h,_=>by cases h
theorem anC {k:VK} {x:SV} {a:X} (h:EN k x=some a):x.refs = []:=by unfold EN at h;split at h<;>first|rfl|cases h
theorem YX {b:Nat} {o:SO} (h:hget H b=some o):SH.den s H b≠none:=by unfold SH.den;rw[h];simp
theorem aey {k:VK} {x:SV} {a:X} (h:Ni H k x=some a):∀ b∈x.refs,SH.den s H b≠none:=by
 have plain:∀ k,EN k x=some a->∀ b∈x.refs,SH.den s H b≠none:=λk h b hb=>by rw[anC h] at hb;cases hb
 cases k with
 | int k=>exact plain _ h
 | bool=>exact plain _ h
 | bit=>exact plain _ h
 | nat =>
  simp only[Ni] at h;split at h
  ·rename_i j;split at h
   ·rename_i o ho;intro b hb;simp[SV.refs] at hb;subst hb;exact YX ho
   ·cases h
  ·intro b hb;simp[SV.refs] at hb
  ·cases h
theorem aez:∀ {ks:List VK} {xs:List SV} {l:List X},F5 H ks xs=some l->∀ b∈SV.refss xs,SH.den s H b≠none
 | [],[],l,h,b,hb=>by simp[SV.refss] at hb
 | k::ks,x::xs,l,h,b,hb=>by
  simp only[F5] at h;split at h
  ·rename_i a l' ha hl;rw[SV.refss] at hb;rcases List.mem_append.1 hb with hb|hb
   ·exact aey ha b hb
   ·exact aez hl b hb
  ·cases h
 | [],_::_,l,h,_,_=>by cases h
 | _::_,[],l,h,_,_=>by cases h
theorem anD {sh:Sh} {x:SV} {l:List X} (h:Nj H sh x=some l):∀ b∈x.refs,SH.den s H b≠none:=by
 unfold Nj at h;split at h
 ·split at h
  ·rename_i a ha;exact aey ha
  ·cases h
 ·exact λb hb=>aez h b (by simpa [SV.refs] using hb)
 ·intro b hb;simp[SV.refs] at hb
 ·cases h
theorem aeA:∀ {hs:List Sh} {xs:List SV} {l:List X},Ej H hs xs=some l->∀ b∈SV.refss xs,SH.den s H b≠none
 | [],[],l,h,b,hb=>by simp[SV.refss] at hb
 | sh::hs,x::xs,l,h,b,hb=>by
  simp only[Ej] at h;split at h
  ·rename_i a l' ha hl;rw[SV.refss] at hb;rcases List.mem_append.1 hb with hb|hb
   ·exact anD ha b hb
   ·exact aeA hl b hb
  ·cases h
 | [],_::_,l,h,_,_=>by cases h
 | _::_,[],l,h,_,_=>by cases h
theorem Jf (k:VK):(k = .nat/\nN k=1)\/(nN k=0/\(∀ x h,Nk k x h=Eh k x)/\∀ (w:World) n v,KJ w k n v↔v=wB k n):=by cases k<;>first|exact .inl ⟨rfl,rfl⟩|exact .inr ⟨rfl,λ_ _=>rfl,λ_ _ _=>Iff.rfl⟩
theorem Uq {x:X} {ks:List VK} {xs:List X} {h:Nat} : xh (.nat::ks) (x::xs) h=(h,⟨[.int .u64 x],none⟩)::xh ks xs (h+1):=by simp only[xh,wQ]
theorem Ur {k:VK} (hk:nN k=0) {x:X} {ks:List VK} {xs:List X} {h:Nat} : xh (k::ks) (x::xs) h=xh ks xs h:=by cases k<;>first|rfl|cases hk
theorem YY:∀ {ks:List VK} {xs:List X} {h:Nat} {y:Nat×SO},y∈xh ks xs h->h<=y.1/\y.1<h+xD ks
 | [],xs,h,y,hy=>by simp[xh] at hy
 | k::ks,[],h,y,hy=>by simp[xh] at hy
 | k::ks,x::xs,h,y,hy=>by
  rcases Jf k with⟨rfl,h1⟩|⟨h1,_⟩
  ·rw[Uq] at hy;rw[xD,h1];rcases List.mem_cons.1 hy with rfl|hy
   ·exact⟨Nat.le_refl _,by omega⟩
   ·have:=YY hy;omega
  ·rw[Ur h1] at hy;have:=YY hy;rw[xD];omega
theorem Env.on.trans' {H1 H2:tZ} {e e1 e2:Env} (h1:Env.on H1 e e1) (h2:Env.on H2 e1 e2) (hs:∀ k,H1 k≠none->H2 k≠none):Env.on H1 e e2:=λk hk =>
 ⟨(h2 k (hs k hk)).1.trans (h1 k hk).1,(h2 k (hs k hk)).2.trans (h1 k hk).2⟩
theorem YZ:∀ {ks:List VK} {xs:List X} {ns:List Int} {fus:List Value} {h:Nat} {e:Env} {H':tZ},uO G w0 B0 e H' w->xs.map (X.den s)=xw ks ns->wF w ks ns fus->(∀ u∈fus,Ho w0 B0 e H' u) ->
  (∀ j,h<=j->j<h+xD ks->H' j=none)->∃ e',uO G w0 B0 e' (H'.puts (uY s (xh ks xs h))) w/\Env.on H' e e'/\AV.vals e' (SV.dens s (xg ks xs h))=fus/\∀ c∈SV.refss (xg ks xs h),(H'.puts (uY s (xh ks xs h))) c≠none
 | [],xs,ns,fus,h,e,H',R,hx,hf,hg,hn=>by
  obtain⟨l1,l2⟩:=wF.len hf;have:fus = []:=List.eq_nil_of_length_eq_zero l2;subst this;have hu:xg [] xs h = []:=by cases xs<;>rfl
  have he:xh [] xs h = []:=by cases xs<;>rfl
  rw[hu,he];exact⟨e,R,Env.on.refl _ _,rfl,λc hc=>by cases hc⟩
 | k::ks,[],ns,fus,h,e,H',R,hx,hf,hg,hn=>by
  obtain⟨l1,l2⟩:=wF.len hf
  cases ns with
  | nil=>simp at l1
  | cons n ns=>simp[xw] at hx
 | k::ks,x::xs,[],fus,h,e,H',R,hx,hf,hg,hn=>by simp[xw] at hx
 | k::ks,x::xs,n::ns,[],h,e,H',R,hx,hf,hg,hn=>hf.elim
 | k::ks,x::xs,n::ns,u::fus,h,e,H',R,hx,hf,hg,hn=>by
  simp only[List.map_cons,xw,List.cons.injEq] at hx;rcases Jf k with⟨rfl,h1⟩|⟨h1,h2,h3⟩
  ·rw[xD,h1] at hn;have hk:H' h=none:=hn h (Nat.le_refl _) (by omega);have gu:=hg u List.mem_cons_self;have hr:Reads w u (uH n.toNat) (Bu n.toNat):=hf.1;have hxn:((x.den s).toNat:Nat)=n.toNat:=by rw[hx.1];rfl
   have R1:=R.handle hk hr (λj c t hj he=>gu.ap _ he j c t hj rfl) gu.new;have hon1:=Env.setHnd_on hk e u
   have hsz:∀ {v:Value},Ho w0 B0 e H' v->Ho w0 B0 (e.setHnd h u) (H'.put h (.rd (uH n.toNat) (Bu n.toNat))) v:=λ{v} g=>⟨λb hb j c t hj=>by
    rcases tZ.put_eq hj with⟨_,he⟩|⟨_,hj⟩
    ·cases he
    ·exact g.ap b hb j c t hj,g.new⟩
   obtain⟨e',R',o',v',c'⟩:=YZ (h:=h+1) R1 hx.2 hf.2 (λv hv=>hsz (hg v (List.mem_cons_of_mem _ hv))) (λj h4 h5=>by rw[tZ.put_ne _ _ _ (by omega)];exact hn j (by omega) (by omega));have hd:∀ j,H' j≠none->(H'.put h (.rd (uH n.toNat) (Bu n.toNat))) j≠none:=λj hj=>tZ.put_dom _ _ _ hj
   have hef:uY s (xh (.nat::ks) (x::xs) h)=(h,.rd (uH n.toNat) (Bu n.toNat))::uY s (xh ks xs (h+1)):=by rw[Uq];simp only[uY,List.map_cons,SO.den,Bv,X6,BX,Ed,hxn]
   rw[hef];refine⟨e',R',hon1.trans' o' hd,?_,?_⟩
   ·rw[xg,SV.dens,AV.vals,h1,v'];congr 1;show De (e'.hnd h)=u;rw[(o' h (by rw[tZ.put_same];simp)).2];show De (if h=h then u else e.hnd h)=u;rw[if_pos rfl];exact YU hr
   ·intro c hc;rw[xg,SV.refss,h1] at hc;rcases List.mem_append.1 hc with hc|hc
    ·simp[Nk,SV.refs] at hc;subst hc;rw[tZ.puts];exact tZ.puts_dom (by rw[tZ.put_same];simp)
    ·exact c' c hc
  ·rw[xD,h1,Nat.zero_add] at hn;obtain⟨e',R',o',v',c'⟩:=YZ (h:=h) R hx.2 hf.2 (λv hv=>hg v (List.mem_cons_of_mem _ hv)) hn;rw[Ur h1];refine⟨e',R',o',?_,?_⟩
   ·rw[xg,SV.dens,AV.vals,h1,Nat.add_zero,v',h2,Rh hx.1];congr 1;exact((h3 w n u).1 hf.1).symm
   ·intro c hc;rw[xg,SV.refss,h1,Nat.add_zero,h2] at hc;rcases List.mem_append.1 hc with hc|hc
    ·cases k<;>simp[Eh,SV.refs] at hc
    ·exact c' c hc
theorem Za:∀ (ks js:List VK) (xs:List X) (h:Nat),ks.length<=xs.length->xg (ks++js) xs h=xg ks xs h++xg js (xs.drop ks.length) (h+xD ks)
 | [],js,xs,h,_=>by cases xs<;>rfl
 | k::ks,js,[],h,hl=>by simp at hl
 | k::ks,js,x::xs,h,hl=>by rw[List.cons_append,xg,xg,Za ks js xs _ (by simpa using hl),xD,Nat.add_assoc];rfl
theorem aeB:∀ (ks:List VK) (xs:List X) (h:Nat),xs.length=ks.length->(xg ks xs h).length=ks.length
 | [],xs,h,_=>by cases xs<;>rfl
 | k::ks,[],h,hl=>by simp at hl
 | k::ks,x::xs,h,hl=>by rw[xg,List.length_cons,aeB ks xs _ (by simpa using hl),List.length_cons]
theorem aeC:∀ (ks:List VK) (xs:List X) (h:Nat),xg ks (xs.take ks.length) h=xg ks xs h
 | [],xs,h=>by cases xs<;>rfl
 | k::ks,[],h=>rfl
 | k::ks,x::xs,h=>by rw[List.length_cons,List.take_succ_cons,xg,aeC ks xs,xg]
theorem Zb (e:Env):∀ (hs:List Sh) (xs:List X) (h:Nat),xs.length=(tO hs).length->AV.vals e (SV.dens s (Ca hs xs h))=EQ hs (AV.vals e (SV.dens s (xg (tO hs) xs h)))
 | [],xs,h,_=>rfl
 | sh::hs,xs,h,hl=>by
  have hk:tO (sh::hs)=sh.kinds++tO hs:=by simp[tO]
  rw[hk,List.length_append] at hl;have hle:sh.kinds.length<=xs.length:=by omega
  have h1:(xg sh.kinds xs h).length=sh.kinds.length:=by rw[<- aeC];exact aeB _ _ _ (by rw[List.length_take];omega)
  have h2:(AV.vals e (SV.dens s (xg sh.kinds xs h))).length=sh.kinds.length:=by rw[Df,Cw,h1]
  rw[Ca,SV.dens,AV.vals,Zb e hs _ _ (by rw[List.length_drop];omega),hk,Za _ _ _ _ hle,IX,TE,EQ];congr 1
  ·cases sh with
   | sc k =>
    match xs,hle with
    | x::xs,_=>rfl
   | agg l =>
    simp only[YF,SV.den,Qx,Rk];rw[List.take_append_of_le_length (by rw[h2];exact Nat.le_refl _),List.take_of_length_le (by rw[h2];exact Nat.le_refl _)];rfl
  ·have d:∀ (a b:List Value) (n:Nat),a.length=n->(a++b).drop n=b:=λa b n hn=>by subst hn;simp
   rw[d _ _ _ h2]
theorem Zc {c:Nat} : ∀ {hs:List Sh} {xs:List X} {h:Nat},xs.length=(tO hs).length->c∈SV.refss (Ca hs xs h)->c∈SV.refss (xg (tO hs) xs h)
 | [],xs,h,_,hc=>by simp[Ca,SV.refss] at hc
 | sh::hs,xs,h,hl,hc=>by
  have hk:tO (sh::hs)=sh.kinds++tO hs:=by simp[tO]
  rw[hk,List.length_append] at hl;have hle:sh.kinds.length<=xs.length:=by omega
  have happ:∀ (a b:List SV),SV.refss (a++b)=SV.refss a++SV.refss b:=λa b=>by
   induction a with
   | nil=>rfl
   | cons x a ih=>rw[List.cons_append,SV.refss,ih,SV.refss,List.append_assoc]
  rw[hk,Za _ _ _ _ hle,happ];rw[Ca,SV.refss] at hc;rcases List.mem_append.1 hc with hc|hc
  ·refine List.mem_append_left _ ?_
   cases sh with
   | sc k =>
    match xs,hle with
    | x::xs,_ =>
     have e:xg (Sh.sc k).kinds (x::xs) h = [Nk k x h]:=by cases xs<;>rfl
     rw[e];simpa [SV.refss,YF] using hc
   | agg l=>exact hc
  ·exact List.mem_append_right _ (Zc (by rw[List.length_drop];omega) hc)
theorem aeD (e:Env) (l:List SV):((resS l).den s).val e=vP (AV.vals e (SV.dens s l)):=by
 match l with
 | []=>simp only[resS,SV.den,SV.dens,WS];rfl
 | [x]=>rfl
 | x::y::l=>simp only[resS,SV.den,WS,SV.dens,AV.vals,vP]
theorem anE {l:List SV} {c:Nat} (h:c∈(resS l).refs):c∈SV.refss l:=by
 match l,h with
 | [],h=>exact h
 | [x],h=>simpa [resS,SV.refss] using h
 | x::y::l,h=>exact h
end
def Us (P:Program) (G:uG) (g:FuncId) (c:yR) (l r:List Int):Prop:=∀ w b,Gl G w->(∀ x∈G,x.1≠b)->w.heap[b]? = some (.cells (uT c.ks (l.drop (tO c.a).length)).toArray c.t (0,0)) ->
 Ae P g (uP c.a l ++ [Value.slice (some ⟨b,0,none⟩) c.n c.n]).toArray w λe w'=>e = .returned (vP (uP c.r r))/\tQ w w'
theorem aeE {s:ut} : ∀ {l:List SV} {r:aeg},Rc l=some r->l=r.i ++ [.sl r.b r.o r.n r.m]
 | [],r,h=>by cases h
 | [x],r,h=>by
  simp only[Rc] at h;split at h
  ·cases h;rfl
  ·cases h
 | x::y::l,r,h=>by
  simp only[Rc] at h;split at h
  ·rename_i r' hr;cases h;have:=aeE (s:=s) hr;rw[this];rfl
  ·cases h
theorem aeF:∀ {L:List yR} {n m:Nat} {t:TypeId} {c:yR},Um L n m t=some c->c∈L/\c.n=n/\c.n=m/\c.t=t
 | [],n,m,t,c,h=>by cases h
 | x::L,n,m,t,c,h=>by
  simp only[Um] at h;split at h
  ·rename_i h1 h2 h3;cases h;exact⟨List.mem_cons_self,vH.1 h1,vH.1 h2,vH.1 h3⟩
  ·obtain⟨h1,h2⟩:=aeF h;exact⟨List.mem_cons_of_mem _ h1,h2⟩
theorem Zd:∀ (hs:List Sh) (p q:List Int),p.length=(tO hs).length->uP hs (p++q)=uP hs p
 | [],p,q,_=>rfl
 | h::hs,p,q,hl=>by
  have hk:tO (h::hs)=h.kinds++tO hs:=by simp[tO]
  rw[hk,List.length_append] at hl;have h1:(p++q).take h.kinds.length=p.take h.kinds.length:=by rw[List.take_append_of_le_length (by omega)]
  have e1:wR h (p++q)=wR h p:=by have a1:=YI h (p.take h.kinds.length) (p.drop h.kinds.length++q) (by rw[List.length_take];omega);have a2:=YI h (p.take h.kinds.length) (p.drop h.kinds.length) (by rw[List.length_take];omega);rw[<- List.append_assoc,List.take_append_drop] at a1;rw[List.take_append_drop] at a2;rw[a1,a2]
  rw[uP,uP,e1,List.drop_append_of_le_length (by omega),Zd hs _ q (by rw[List.length_drop];omega)]
theorem anF {C:vI} {s:ut} {g:FuncId} {L:List yR}
  (hct:∀ c∈L,∀ l:List Int,l.length=(tO c.a++c.ks).length->(C.Φ c.id l).length=(tO c.r).length->Us C.P C.G g c l (C.Φ c.id l))
  {args:List SV} {H:SH} {k nv:Nat} {fc:Facts} {K:Unit->tL CR} {r:CR} (h:(YH C L args H nv fc K).path C.Φ s=some r) (hfc:vO s fc) (hK:(K ()).path C.Φ s=some r->Cz C s g args H k r):Cz C s g args H k r:=by
 unfold YH at h;split at h
 ·exact hK h
 rename_i q hq;split at h
 ·exact hK h
 rename_i o ho;split at h
 ·exact hK h
 rename_i t ht;split at h
 ·exact hK h
 rename_i c hc;split at h
 ·rename_i xs ys h0 hxs hys;obtain⟨m1,m2,m3,m4⟩:=aeF hc;have h0:=vH.1 h0;obtain⟨a1,a2⟩:=Jb s hxs;obtain⟨b1,b2⟩:=Rf s hys;have hargs:=aeE (s:=s) hq;have hlen:((xs++ys).map (X.den s)).length=(tO c.a++c.ks).length:=by simp[a2,b2]
  have hS:=hct c m1 _ hlen
  have fin:(C.Φ c.id ((xs++ys).map (X.den s))).length=(tO c.r).length->∀ l:List SV,SV.dens s l=(uP c.r (C.Φ c.id ((xs++ys).map (X.den s)))).map .v->Cz C s g args H k ⟨resS l,[q.b],[],r.nv,fc⟩:=λhln l hd=>by
   refine⟨λb hb=>?_,λx hx=>by simp[uY] at hx,hfc,λw0 B0=>?_⟩
   ·simp at hb;subst hb;unfold SH.den;rw[ho];simp
   ·intro H' e w hag hk0 hk1 hrefs R;have hb:H' q.b=some (.own (SV.dens s o.c) t):=by rw[hag q.b (by simp)];exact SH.den_get ho ht
    have hown:=R.own q.b _ t hb;rw[b1,Ay] at hown
    have hd1:(uT c.ks (((xs++ys).map (X.den s)).drop (tO c.a).length))=uT c.ks (ys.map (X.den s)):=by rw[List.map_append,List.drop_append_of_le_length (by simp[a2]),List.drop_of_length_le (by simp[a2])];rfl
    have hcall:=hS hln w (e.blk q.b) R.gl (λx hx=>R.glo q.b _ t hb x hx) (by rw[hd1,m4];exact hown)
    have hv:AV.vals e (SV.dens s args)=uP c.a ((xs++ys).map (X.den s)) ++ [Value.slice (some ⟨e.blk q.b,0,none⟩) c.n c.n]:=by rw[hargs,IX,TE,a1,Ay,List.map_append,Zd _ _ _ (by simp[a2])];simp only[SV.dens,SV.den,AV.vals,AV.val,h0];rw[<- m2,<- m3]
    rw[hv];refine hcall.mono ?_;rintro en w' ⟨rfl,hB⟩;refine⟨e,?_,R.below hB,Env.on.refl H' e,λj hj=>?_⟩
    ·rw[YN hd];rfl
    ·rw[YN hd] at hj;simp[AV.refs] at hj
  split at h
  ·rename_i ns hns;split at h
   ·rename_i hq;have hq:=vH.1 hq;rw[YJ] at h;cases h;have e:=YM s hns;refine fin (by rw[e];exact hq) _ ?_;rw[e];exact Hg (YK s _ _) (YL _ _ hq)
   ·cases h
  ·simp only[tL.path] at h;split at h
   ·rename_i hce;rw[wQ] at h;cases h;unfold Ky at hce;refine fin (by rw[<- hce];exact GZ _ _ _) _ ?_;obtain⟨h1,h2⟩:=EP s (tO c.r) nv;rw[hce] at h1;exact Hg h1 h2
   ·cases h
 ·exact hK h
theorem anG {C:vI} {s:ut} {ct:Ct} {g:FuncId} (h2:xD (tO ct.r)<=2)
  (hct:∀ l:List Int,l.length=(tO ct.a).length->(C.Φ g l).length=(tO ct.r).length->F6 C.P C.G g ct l (C.Φ g l))
  {args:List SV} {H:SH} {k nv:Nat} {fc:Facts} {r:CR} (h:(YG C ct g args H k nv fc).path C.Φ s=some r) (hfc:vO s fc):Cz C s g args H k r:=by
 unfold YG at h;split at h
 ·cases h
 ·rename_i xs hxs;simp only[tL.path] at h;split at h
  ·rename_i hce;rw[wQ] at h;cases h;obtain⟨v1,v2⟩:=EP s (tO ct.r) nv;unfold Ky at hce;have hln:(C.Φ g (xs.map (X.den s))).length=(tO ct.r).length:=by rw[<- hce];exact GZ _ _ _
   rw[hce] at v1;refine⟨aeA hxs,λx hx=>?_,hfc,λw0 B0=>?_⟩
   ·rw[uY] at hx;obtain⟨y,hy,rfl⟩:=List.mem_map.1 hx;have:=YY hy;show y.1=k\/y.1=k+1\/_;omega
   ·intro H' e w hag hk0 hk1 hrefs R;obtain⟨fvs,a1,a2,a3⟩:=YW (s:=s) R hxs hag;have hl:(xs.map (X.den s)).length=(tO ct.a).length:=(wF.len a2).1;have hcc:=hct _ hl hln w fvs R.gl a2;rw[a1];refine hcc.mono ?_;rintro en w' ⟨fus,rfl,b2,b3,hB⟩;have R':=R.below hB;have hlen:=(wF.len b2).1
    obtain⟨e',c1,c2,c3,c4⟩:=YZ (s:=s) (h:=k) R' v1 b2 (λu hu=>⟨λb hb j c t hj he=>by
     rcases b3 u hu b hb with hlt|⟨v,hv,hvb⟩
     ·have:=R.lt hj;omega
     ·exact(a3 v hv).ap b hvb j c t hj he,λb hb=>by
     rcases b3 u hu b hb with hlt|⟨v,hv,hvb⟩
     ·exact .inl (Nat.le_trans R.size hlt)
     ·exact(a3 v hv).new b hvb⟩) (λj h3 h4=>by
     have:j=k\/j=k+1:=by omega
     rcases this with rfl|rfl
     ·exact hk0
     ·exact hk1)
    refine⟨e',?_,c1,c2,λc hc=>c4 c (Zc (by rw[v2]) (anE (SV.den_refs s _ hc)))⟩;rw[aeD,Zb _ _ _ _ (by rw[v2]),c3]
  ·cases h
structure wW (C:vI) (E:vR):Prop where
 se:Ud C.P C.SE E
 eq:GJ C.P E
 mix:C.P.follows .mixedOrders=true
 nm:∀ (g:FuncId) (fn:Func),C.P.funcs[g]? = some fn->fn.body.isSome=true->(fn.name == "runtime.NumGoroutine")=false
 ct:∀ (g:FuncId) (ct:Ct),C.ct g=some ct->∀ l:List Int,l.length=(tO ct.a).length->(C.Φ g l).length=(tO ct.r).length->PC C.P C.G g (uP ct.a l) (vP (uP ct.r (C.Φ g l)))
 nt:∀ (g:FuncId) (ct:Ct),C.nt g=some ct->xD (tO ct.r)<=2/\∀ l:List Int,l.length=(tO ct.a).length->(C.Φ g l).length=(tO ct.r).length->F6 C.P C.G g ct l (C.Φ g l)
 sl:∀ (g:FuncId) (c:yR),c∈C.sl g->∀ l:List Int,l.length=(tO c.a++c.ks).length->(C.Φ c.id l).length=(tO c.r).length->Us C.P C.G g c l (C.Φ c.id l)
structure ER (C:vI) (E:vR) (s:ut) (c:Code) (st:St) (ex:Exit) (st':St):Prop where
 aw:∀ w0 B0,AW ⟨C.P,C.G,E,w0,B0,st.T.length⟩ c (zu s ex st') st.N (uJ.den s st.T) (SH.den s st.H)
 len:st'.T.length=st.T.length
 dt:∀ j,wE j st'.dt=false->wE j st.dt=false/\hget st'.H j=hget st.H j
 fc:vO s st'.fc
abbrev Rl (C:vI) (E:vR) (s:ut) (exf:Code->St->tL (Exit×St)):Prop:=∀ c st ex st',(exf c st).path C.Φ s=some (ex,st')->vO s st.fc->ER C E s c st ex st'
section
variable {C:vI} {E:vR} {s:ut}
theorem Nq {α:Type} {x:Exit} {A B:tL α} {w:String} {r:α} (h:(match x with | .normal=>A | .ret=>B|_=>.stuck w:tL α).path C.Φ s=some r):(x = .normal/\A.path C.Φ s=some r)\/(x = .ret/\B.path C.Φ s=some r):=by cases x<;>first|exact .inl ⟨rfl,h⟩|exact .inr ⟨rfl,h⟩|cases h
theorem anH:(λn:Nat=>n)=xN []:=by funext n;rfl
mutual
theorem SV.ren_nil:∀ x:SV,x.ren (xN [])=x
 | .v _=>rfl
 | .int _ _=>rfl
 | .bool _=>rfl
 | .loc _ _=>rfl
 | .hd _=>rfl
 | .ha _ _=>rfl
 | .sl _ _ _ _=>rfl
 | .fn g a c=>by simp only[SV.ren,SV.rens_nil a,SV.rens_nil c]
 | .tup l=>by simp only[SV.ren,SV.rens_nil l]
 | .agg l=>by simp only[SV.ren,SV.rens_nil l]
theorem SV.rens_nil:∀ l:List SV,SV.rens (xN []) l=l
 | []=>rfl
 | x::l=>by simp only[SV.rens,SV.ren_nil x,SV.rens_nil l]
end
theorem Ze (hC:wW C E) {exf:Code->St->tL (Exit×St)} (hex:Rl C E s exf) {g:FuncId} {args:List SV} {H:SH} {k nv:Nat} {fc:Facts} {r:CR} (h:(Rb C.P exf g args H k nv fc).path C.Φ s=some r) (hfc:vO s fc):Cz C s g args H k r:=by
 unfold Rb at h;split at h
 ·cases h
 ·rename_i fn hf;split at h
  ·cases h
  ·rename_i cd hb;split at h
   ·cases h
   ·rename_i objs hro;split at h
    ·rename_i hl hk hw0;obtain⟨r0,h0,e1,e2,e3,e4⟩:=anq hfc h;obtain⟨⟨ex,st⟩,h1,h2⟩:=tL.path_bind_some h0;have sp:=hex _ _ _ _ h1 hfc;have hlen:(xO args fn.ntmps).length=fn.ntmps:=Jd _ _ (Nat.le_of_ble_eq_true hl)
     have hA:∀ w0 B0,AW ⟨C.P,C.G,E,w0,B0,fn.ntmps⟩ cd (zu s ex st) k (uJ.den s (xO args fn.ntmps)) (SH.den s objs):=λw0 B0=>by have:=sp.aw w0 B0;simp only[hlen] at this;exact this
     have hD:DOK objs st.dt st.H:=λj hj=>(sp.dt j hj).2
     have hn:=hC.nm g fn hf (by rw[hb];rfl)
     have key:ex = .normal\/ex = .ret->(Uk C.P fn objs k st).path C.Φ s=some r0->Cz C s g args H k r0:=by
      intro hx h3;unfold Uk at h3;split at h3
      ·cases h3
      ·rename_i rs hrs;split at h3
       ·cases h3
       ·rename_i R2 hR2;split at h3
        ·cases h3
        ·cases h3
        ·rename_i nw hnw hw2;split at h3
         ·cases h3;have:=aev hf hb hn hro hl hk hA hx hD sp.fc hrs hR2 hw0 hw2 hnw (m:=[]) rfl st.nv;rw[SV.ren_nil] at this;simpa [EO,anH] using this
         ·split at h3
          ·cases h3
          ·rename_i m hm;cases h3;exact aev hf hb hn hro hl hk hA hx hD sp.fc hrs hR2 hw0 hw2 hnw hm st.nv
     have main:Cz C s g args H k r0:=by
      rcases Nq h2 with⟨hx,h3⟩|⟨hx,h3⟩
      ·exact key (.inl hx) h3
      ·exact key (.inr hx) h3
     refine⟨by rw[<- e2];exact main.tc,by rw[<- e2,<- e3];exact main.ef,e4 main.fc,?_⟩;rw[<- e1,<- e2,<- e3];exact main.ok
    ·cases h
theorem Zf (hC:wW C E) {exf:Code->St->tL (Exit×St)} (hex:Rl C E s exf) {g:FuncId} {args:List SV} {H:SH} {k nv:Nat} {fc:Facts} {r:CR} (h:(Re C exf g args H k nv fc).path C.Φ s=some r) (hfc:vO s fc):Cz C s g args H k r:=by
 unfold Re at h;split at h
 ·rename_i ct hnt;exact anG (hC.nt g ct hnt).1 (hC.nt g ct hnt).2 h hfc
 split at h
 ·split at h
  ·exact Ze hC hex h hfc
  ·exact anF (λc hc=>hC.sl g c hc) h hfc (λh=>Ze hC hex h hfc)
 ·rename_i ct hct;split at h
  ·exact Ze hC hex h hfc
  ·rename_i xs hxs;obtain⟨hv,hl⟩:=Jb s hxs;have hcc:=hC.ct g ct hct (xs.map (X.den s)) (by simpa using hl)
   have fin:(C.Φ g (xs.map (X.den s))).length=(tO ct.r).length->∀ l:List SV,SV.dens s l=(uP ct.r (C.Φ g (xs.map (X.den s)))).map .v->Cz C s g args H k ⟨resS l,[],[],r.nv,fc⟩:=λhln l hd=>by refine⟨λb hb=>by simp at hb,λx hx=>by simp[uY] at hx,hfc,λw0 B0=>?_⟩;simp only[YN hd];exact(hcc hln).call w0 B0 (by rw[hv];exact IU _) _ _
   split at h
   ·rename_i ns hns;split at h
    ·rename_i hq;have hq:=vH.1 hq;rw[YJ] at h;cases h;have e:=YM s hns;refine fin (by rw[e];exact hq) _ ?_;rw[e];exact Hg (YK s _ _) (YL _ _ hq)
    ·cases h
   ·simp only[tL.path] at h;split at h
    ·rename_i hce;rw[wQ] at h;cases h;unfold Ky at hce;refine fin (by rw[<- hce];exact GZ _ _ _) _ ?_;obtain⟨h1,h2⟩:=EP s (tO ct.r) nv;rw[hce] at h1;exact Hg h1 h2
    ·cases h
theorem anI {β:Type} {ops:Array Oper} {T:uJ} {o:Oper} {fc:Facts} {K:Bool->Facts->tL β} {r:β} (hf:vO s fc) (h:(Yy ops T o fc K).path C.Φ s=some r) :
  ∃ q fc',vO s fc'/\FW ops (uJ.den s T) o=some q/\(K q fc').path C.Φ s=some r:=by
 unfold Yy at h;unfold FW;split at h
 ·rename_i hg;exact⟨true,fc,hf,by rw[hg],h⟩
 ·rename_i j want hg;rw[hg];simp only;split at h
  ·rename_i hd;exact⟨false,fc,hf,by rw[hd],h⟩
  ·rename_i d hd;rw[hd];simp only;split at h
   ·rename_i x hx;have hT:uJ.den s T d=some (.v (.bool (x.den s != 0))):=by simp[uJ.den,hx,SV.den]
    obtain⟨fc',hf',h'⟩:=G9 hf h;refine⟨_,fc',hf',?_,h'⟩;rw[hT];simp only[Cu];cases (x.den s != 0)<;>cases want<;>rfl
   ·rename_i vs hx;have hT:uJ.den s T d=some (.v (.tuple vs)):=by simp[uJ.den,hx,SV.den]
    exact⟨false,fc,hf,by rw[hT],h⟩
   ·cases h
theorem anJ {fv:SV} {g:FuncId} {a c:List SV} (h:Yz fv=some (g,a,c)):MB (fv.den s)=some (g,SV.dens s a,SV.dens s c):=by
 have hC':∀ l:List Value,SV.dens s (l.map Ha)=l.map .v:=λl=>by rw[SV.dens_map,List.map_map];exact List.map_congr_left λx _=>TV s x
 unfold Yz at h;split at h
 ·cases h;simp only[SV.den,MB,hC']
 ·cases h;simp only[SV.den];unfold Aw
  have hm:∀ {l:List AV} {vs:List Value},wJ l=some vs->l=vs.map .v:=λ{l} {vs} hv=>by have h4:=QR l;unfold zm at h4;rw[hv] at h4;simpa [wz,Value.cells] using h4.symm
  cases ha:wJ (SV.dens s a) with
  | none=>rfl
  | some x=>cases hc:wJ (SV.dens s c) with
   | none=>rfl
   | some y=>simp only[MB,hm ha,hm hc]
 ·cases h
theorem anK {op:Op} {ρ:Operand->Option SV} {ρ':Operand->Option AV} (hρ:RD s ρ ρ') {g:FuncId} {args:List SV} (h:YA op ρ=some (some (g,args))) {P:Program} {G:uG} {H:tZ} {k:Nat} :
  MC op ρ'=some (g,SV.dens s args)/\EG op ρ'=none/\uM P G E op ρ' H k=none:=by
 unfold YA at h;split at h
 ·rename_i f xs ts;split at h
  ·rename_i fv hfv;split at h
   ·rename_i g' a c bs hcl hl;simp only[Option.some.injEq,Prod.mk.injEq] at h;obtain⟨rfl,rfl⟩:=h;refine⟨?_,rfl,rfl⟩;simp only[MC,hρ _ _ hfv,anJ hcl,Uc hρ hl,IX]
   ·cases h
  ·cases h
 ·cases h
theorem anL {op:Op} {ρ:Operand->Option SV} {ρ':Operand->Option AV} (hρ:RD s ρ ρ') {q:X} {x y:Option SV} (h:YB op ρ=some (q,x,y)):∃ x' y',EG op ρ'=some (q.den s != 0,x',y')/\(∀ a,x=some a->x'=some (a.den s))/\(∀ a,y=some a->y'=some (a.den s)):=by
 unfold YB at h;split at h
 ·rename_i c a b;split at h
  ·rename_i q' hq;cases h;refine⟨ρ' a,ρ' b,?_,λz hz=>hρ _ _ hz,λz hz=>hρ _ _ hz⟩;simp only[EG,hρ _ _ hq,SV.den]
  ·cases h
 ·cases h
theorem anM {P:Program} {G:uG} {op:Op} {ρ:Operand->Option AV} {c:Bool} {x y:Option AV} {H:tZ} {k:Nat} {r:AV} {tc:List Nat} {ef:List (Nat×AO)} (h:EG op ρ=some (c,x,y)) (hn:uM P G E op ρ H k=some (r,tc,ef)) :
  tc = []/\ef = []/\(c=true->x=some r)/\(c=false->y=some r):=by
 unfold EG at h;split at h
 ·rename_i q a b;split at h
  ·rename_i q' hq;cases h;simp only[uM,hq] at hn
   cases c with
   | true =>
    simp only[if_true] at hn;obtain⟨h1,rfl,rfl⟩:=Bn hn;exact⟨rfl,rfl,λ_=>h1,λh=>by cases h⟩
   | false =>
    simp only[Bool.false_eq_true,if_false] at hn;obtain⟨h1,rfl,rfl⟩:=Bn hn;exact⟨rfl,rfl,(λh=>by cases h),λ_=>h1⟩
  ·cases h
 ·cases h
def Hq (tr:Tr):Tr:=tr.filter λx => !x.2.1.isEmpty
theorem aeG (tc:List Nat):∀ ef:List (Nat×SO),Ui tc ef=BM tc (uY s ef)
 | []=>rfl
 | x::ef=>by
  have hc:wE x.1 tc=tc.contains x.1:=by rw[Bool.eq_iff_iff,Rj,List.contains_iff_mem]
  simp only[Ui,BM,uY,List.map_cons,List.any_cons,hc]
  cases tc.contains x.1 with
  | true=>rfl
  | false=>simp only[Bool.false_or];exact aeG tc ef
theorem anN {i:Nat} {tc:List Nat} {ef:List (Nat×SO)} {tr:Tr} : Hq ((i,tc,BM tc (uY s ef))::tr)=Hf i tc ef (Hq tr):=by
 unfold Hf Hq
 cases tc with
 | nil=>rfl
 | cons b tc=>rw[List.filter_cons_of_pos (by rfl),<- aeG (s:=s)]
theorem Rm {M:List Nat} {Nb:Nat} : ∀ {tr:Tr},IL M Nb (Hq tr)=true->IL M Nb tr=true
 | [],_=>rfl
 | x::l,h=>by
  unfold Hq at h
  have empty:∀ y z:Nat×List Nat×Bool,z.2.1 = []\/y.2.1 = []->IK M y z=true:=λy z hz=>by unfold IK;rcases hz with hz|hz<;>simp[hz]
  cases hx:x.2.1 with
  | nil =>
   rw[List.filter_cons_of_neg (by simp[hx])] at h;simp only[IL,Bool.and_eq_true];refine⟨⟨by rw[hx];rfl,?_⟩,Rm h⟩;rw[List.all_eq_true];intro y _;exact empty x y (.inr hx)
  | cons b tc =>
   rw[List.filter_cons_of_pos (by simp[hx])] at h;simp only[IL,Bool.and_eq_true] at h ⊢;refine⟨⟨h.1.1,?_⟩,Rm h.2⟩;rw[List.all_eq_true];intro y hy
   cases hy2:y.2.1 with
   | nil=>exact empty x y (.inl hy2)
   | cons b' tc'=>exact List.all_eq_true.1 h.1.2 y (List.mem_filter.2 ⟨hy,by simp[hy2]⟩)
theorem aeH {β:Type} {T:uJ} {d:Option Tmp} {x:SV} {K:uJ->tL β} {r:β} (hd:∀ t,d=some t->t<T.length) (h:(He T d x K).path C.Φ s=some r) :
  ∃ T',T'.length=T.length/\uJ.den s T'=(uJ.den s T).put d (x.den s)/\(K T').path C.Φ s=some r:=by
 unfold He at h
 cases d with
 | none=>exact⟨T,rfl,rfl,h⟩
 | some d =>
  simp only at h;rw[ad3] at h;exact⟨_,ad5 T d x,uJ.den_set s T d x (hd d rfl),h⟩
theorem aeI {j:Nat} : ∀ {ef:List (Nat×SO)} {dt:List Nat},wE j (F3 ef dt)=false->wE j dt=false/\∀ x∈ef,x.1≠j
 | [],dt,h=>⟨h,λx hx=>by simp at hx⟩
 | x::ef,dt,h=>by
  rw[F3] at h;obtain⟨h1,h2⟩:=aeI h;unfold addN at h1;split at h1
  ·rename_i hm;refine⟨h1,λy hy=>?_⟩;rcases List.mem_cons.1 hy with rfl|hy
   ·rintro rfl;rw[hm] at h1;cases h1
   ·exact h2 y hy
  ·simp only[wE] at h1;split at h1
   ·cases h1
   ·rename_i hb;refine⟨h1,λy hy=>?_⟩;rcases List.mem_cons.1 hy with rfl|hy
    ·rintro rfl;simp at hb
    ·exact h2 y hy
theorem aeJ {j:Nat} : ∀ {ef:List (Nat×SO)} {H:SH},(∀ x∈ef,x.1≠j)->hget (Kz H ef) j=hget H j
 | [],H,_=>rfl
 | x::ef,H,h=>by rw[Kz,aeJ (λy hy=>h y (List.mem_cons_of_mem _ hy)),X7,if_neg (λe=>h x List.mem_cons_self e.symm)]
theorem aeK (q:Bool) (v:Value) (b:Bool):(QY q v b).den s = .v (EE q v b):=by
 cases q with
 | true =>
  have:SV.dens s [Ha v,.bool (.lit (ui b))] = [v,Value.bool b].map .v:=by simp only[SV.dens,TV,SV.den,X.den,xe,List.map_cons,List.map_nil]
  simp only[QY,SV.den,this,TU,EE,if_true]
 | false=>simp only[QY,TV,EE,Bool.false_eq_true,if_false]
theorem aeL {β:Type} {kd:IntKind} {n:X} {q:Bool} {z:Value} {K:SV->Facts->tL β} {r:β} : ∀ {es:List (Value×Value)} {fc:Facts},QX kd es=true->vO s fc->(Ue kd n q z K es fc).path C.Φ s=some r ->
  ∃ a fc',vO s fc'/\(K a fc').path C.Φ s=some r/\((∃ v,GM kd (n.den s) es=some (some v)/\a.den s = .v (EE q v true))\/(GM kd (n.den s) es=some none/\a.den s = .v (EE q z false)))
 | [],fc,hk,hf,h=>⟨_,fc,hf,h,.inr ⟨rfl,aeK q z false⟩⟩
 | x::l,fc,hk,hf,h=>by
  simp only[QX] at hk;simp only[Ue] at h
  cases hx:x.1 with
  | int k' m =>
   rw[hx] at hk h;simp only at hk h
   cases hkk:yO kd k' with
   | false=>rw[hkk] at hk;cases hk
   | true =>
    rw[hkk] at hk;simp only at hk;have hke:=Az hkk;obtain⟨fc',hf',h⟩:=G9 hf h;rw[IQ] at h;simp only[uA,xe,X.den] at h;unfold GM;rw[hx];simp only[hke,if_true]
    cases hb:(n.den s==m) with
    | true =>
     rw[hb] at h;have:n.den s=m:=by simpa using hb
     simp only[this,if_true];exact⟨_,fc',hf',h,.inl ⟨x.2,rfl,aeK q x.2 true⟩⟩
    | false =>
     rw[hb] at h;have:¬ n.den s=m:=by simpa using hb
     simp only[this,if_false];rw[<- hke];exact aeL hk hf' h
  | _=>rw[hx] at hk;cases hk
theorem anO {op:Op} {ρ:Operand->Option SV} {ρ':Operand->Option AV} (hρ:RD s ρ ρ') {H:SH} {L:aee} (h:YC C.P op ρ H=some L) {G:uG} {k:Nat} :
  QX L.kd L.es=true/\EG op ρ'=none/\MC op ρ'=none/\(∀ v,GM L.kd (L.n.den s) L.es=some (some v)->uM C.P G E op ρ' (SH.den s H) k=some (.v (EE L.q v true),[L.k],[])) /\
   (GM L.kd (L.n.den s) L.es=some none->uM C.P G E op ρ' (SH.den s H) k=some (.v (EE L.q L.z false),[L.k],[])):=by
 unfold YC at h;split at h
 ·rename_i t x i q;split at h
  ·rename_i j kd n hx hi;split at h
   ·rename_i o ho;split at h
    ·rename_i es ht hm;split at h
     ·rename_i kt et hu;split at h
      ·rename_i kd' z hkt hz;split at h
       ·rename_i hk1 hk2;cases h;have e1:=Az hk1;have a1:=hρ _ _ hx;have a2:=hρ _ _ hi;simp only[SV.den] at a1 a2;have a3:=SH.den_map (s:=s) ho ht hm;refine⟨hk2,rfl,rfl,λv hv=>?_,λhv=>?_⟩
        ·simp only at hv;simp only[uM,a1,a2,FV,a3,hu,hkt,e1,if_true,hv];rfl
        ·simp only at hv;simp only[uM,a1,a2,FV,a3,hu,hkt,e1,if_true,hv,hz];rfl
       ·cases h
      ·cases h
     ·cases h
    ·cases h
   ·cases h
  ·cases h
 ·cases h
theorem aeM (k:VK) (x:X):QZ k x=Eh k x:=by cases k<;>rfl
theorem aeN:∀ (ks:List VK) (xs:List X),Ug ks xs=Ei ks xs
 | [],_=>rfl
 | _::_,[]=>rfl
 | k::ks,x::xs=>by rw[Ug,Ei,aeM,aeN ks xs]
theorem aeO:∀ (ks:List VK) (b:Nat),Uh b ks=uC b ks
 | [],_=>rfl
 | k::ks,b=>by rw[Uh,uC,aeO ks]
theorem Zg:∀ (ks:List VK) (ns:List Int),ns.length=ks.length->(uT ks ns).length=ks.length
 | [],_,_=>by simp[uT]
 | k::ks,[],h=>by simp at h
 | k::ks,n::ns,h=>by rw[uT,List.length_cons,List.length_cons,Zg ks ns (by simpa using h)]
theorem Zh (b:Nat) (ks:List VK):∀ n,(AB s b ks n).length=n*ks.length
 | 0=>by simp[AB]
 | n+1=>by rw[AB,List.length_append,Zh b ks n,Zg _ _ (GZ _ _ _),Nat.add_mul,Nat.one_mul]
theorem Zi (b:Nat) (ks:List VK):∀ {n j:Nat},j<n->((AB s b ks n).drop (j*ks.length)).take ks.length=uT ks (yH s (b+j*ks.length) ks.length)
 | n+1,j,h=>by
  rw[AB];have hl:=Zh (s:=s) b ks n;by_cases hj:j=n
  ·subst hj;rw[List.drop_append_of_le_length (by rw[hl];exact Nat.le_refl _),List.drop_of_length_le (by rw[hl];exact Nat.le_refl _),List.nil_append,List.take_of_length_le (by rw[Zg _ _ (GZ _ _ _)];exact Nat.le_refl _)]
  ·have hjn:j<n:=by omega
   have hm:(j+1)*ks.length<=n*ks.length:=Nat.mul_le_mul_right _ hjn;rw[Nat.add_mul,Nat.one_mul] at hm;rw[List.drop_append_of_le_length (by rw[hl];omega),List.take_append_of_le_length (by rw[List.length_drop,hl];omega)];exact Zi b ks hjn
theorem Zj {H:SH} {k:Nat} {r:QQ} (h:Uf H k=some r):SH.den s H k=some (.rd (r.n.den s).toNat (AB s r.b r.ks (r.n.den s).toNat)):=by
 unfold Uf at h;split at h
 ·rename_i o ho;split at h
  ·rename_i r' h1 h2 h3;cases h;exact SH.den_ora ho h1 h2 h3
  ·cases h
 ·cases h
theorem Zk {j:Nat} {n:X} (h:((xu .lss .i64 (.lit (.ofNat j)) n).den s != 0)=true):j<(n.den s).toNat:=by rw[IQ] at h;simp only[uA,xe,X.den] at h;have:=of_decide_eq_true h;have h2:(j:Int)<n.den s:=this;omega
theorem anP {op:Op} {ρ:Operand->Option SV} {ρ':Operand->Option AV} (hρ:RD s ρ ρ') {H:SH} {L:aef} (h:YD C.P op ρ H=some L) {G:uG} {k:Nat} (hc:(L.c.den s != 0)=true) :
  EG op ρ'=none/\uM C.P G E op ρ' (SH.den s H) k=some (L.r.den s,[L.k],[]):=by
 unfold YD at h;split at h
 ·rename_i t x i;split at h
  ·rename_i j kk kd m hx hi;split at h
   ·rename_i r el hr hel;split at h
    ·rename_i sz hsz;split at h
     ·rename_i hb;rw[wQ] at h;cases h;have a1:=hρ _ _ hx;have a2:=hρ _ _ hi;have hlt:=Zk hc;refine⟨rfl,?_⟩;simp only[SV.den,X.den] at a1 a2;simp only[uM,a1,a2,Dg,Zj hr,hel,hsz];rw[if_pos ⟨by exact Int.natCast_nonneg _,by show(m:Int)<_;omega⟩];rfl
     ·cases h
    ·cases h
   ·cases h
  ·cases h
 ·rename_i t x;split at h
  ·rename_i kk off hx;split at h
   ·rename_i r hr;rw[wQ] at h;have a1:=hρ _ _ hx;simp only[SV.den] at a1;split at h
    ·rename_i hb ha;have hb:=vH.1 hb;split at h
     ·rename_i sz hsz;split at h
      ·rename_i hz h1;have hz:=vH.1 hz;have h1:=Nat.le_of_ble_eq_true h1;rw[wQ] at h;cases h;have hlt:=Zk hc;refine⟨rfl,?_⟩;have hg:=Zi (s:=s) r.b r.ks hlt;have hl:=Zh (s:=s) r.b r.ks (r.n.den s).toNat;have hm:(off/r.ks.length+1)*r.ks.length<=(r.n.den s).toNat*r.ks.length:=Nat.mul_le_mul_right _ hlt;rw[Nat.add_mul,Nat.one_mul,hb] at hm;rw[hb] at hg;simp only[uM,a1,AU,Zj hr,yF,ha,hsz];rw[if_pos ⟨by rw[List.length_map,hl,hz];exact hm,by omega⟩];simp only[SV.den,aeN,aeO];obtain⟨v1,v2⟩:=EP s r.ks (r.b+off);rw[Uo v1 v2,<- List.map_drop,<- List.map_take,hz,hg]
      ·cases h
     ·cases h
    ·rename_i hb ha;have hb:=vH.1 hb;split at h
     ·rename_i vk hks;rw[wQ] at h;cases h;have hlt:=Zk hc;refine⟨rfl,?_⟩;have hg:=Zi (s:=s) r.b r.ks hlt;rw[hb,hks] at hg;simp only[uM,a1,AU,Zj hr,yF,ha]
      have hx1:(AB s r.b r.ks (r.n.den s).toNat)[off]? = some (wB vk (s (r.b+off))):=by
       have e1:((AB s r.b [vk] (r.n.den s).toNat).drop off).take 1 = [wB vk (s (r.b+off))]:=hg;rw[hks];have e2:(((AB s r.b [vk] (r.n.den s).toNat).drop off).take 1)[0]? = some (wB vk (s (r.b+off))):=by rw[e1];rfl
       rwa [List.getElem?_take_of_lt (by decide),List.getElem?_drop] at e2
      rw[List.getElem?_map,hx1,aeM];rw[Rh (s:=s) (k:=vk) (x:=.var vk (r.b+off)) (n:=s (r.b+off)) rfl];rfl
     ·cases h
    ·cases h
   ·cases h
  ·cases h
 ·cases h
theorem Rn (hC:wW C E) {cf:CF} {nt:Nat} (hcf:∀ g args H k nv fc r,(cf g args H k nv fc).path C.Φ s=some r->vO s fc->Cz C s g args H k r) {ops:Array Oper} {Nb:Nat} :
  ∀ (os:List Oper) (i:Nat) (T:uJ) (H:SH) (tr:QW) (nv:Nat) (dt:List Nat) (fc:Facts) (out:OR),(Dk C cf ops Nb i os T H tr nv dt fc).path C.Φ s=some out->vO s fc->T.length=nt->(∀ o∈os,∀ t,o.dst=some t->t<nt) ->
   (∀ w0 B0 (trf:Tr) (K:uK->tZ->Tr->Prop),Hq trf=tr->(∀ trf',Hq trf'=out.tr->K (uJ.den s out.T) (SH.den s out.H) trf')->xS C.P C.G E w0 B0 ops Nb i os (uJ.den s T) (SH.den s H) trf K) /\
   out.T.length=nt/\vO s out.fc/\∀ j,wE j out.dt=false->wE j dt=false/\hget out.H j=hget H j
 | [],i,T,H,tr,nv,dt,fc,out,h,hfc,hT,hd=>by simp only[Dk] at h;cases h;exact⟨λw0 B0 trf K ht hK=>by rw[xS];exact hK trf ht,hT,hfc,λj hj=>⟨hj,rfl⟩⟩
 | o::os,i,T,H,tr,nv,dt,fc,out,h,hfc,hT,hd=>by
  simp only[Dk] at h;obtain⟨q,fc1,hf1,hw,h⟩:=anI hfc h;have hdo:∀ t,o.dst=some t->t<T.length:=by rw[hT];exact hd o List.mem_cons_self
  have hds:∀ o'∈os,∀ t,o'.dst=some t->t<nt:=λo' ho'=>hd o' (List.mem_cons_of_mem _ ho')
  cases q with
  | false =>
   simp only at h;obtain⟨T',hl,hden,h⟩:=aeH hdo h;obtain⟨h1,h2,h3,h4⟩:=Rn hC hcf os (i+1) T' H tr nv dt fc1 out h hf1 (hl.trans hT) hds;refine⟨λw0 B0 trf K ht hK=>?_,h2,h3,h4⟩;have:=h1 w0 B0 trf K ht hK;rw[hden] at this;simp only[xS,hw,Kn];exact this
  | true =>
   simp only at h
   have step:∀ (r:SV) (tc:List Nat) (ef:List (Nat×SO)) (nv':Nat) (fc':Facts),vO s fc'->(He T o.dst r λT=>FZ H ef λH=>Dk C cf ops Nb (Nat.succ i) os T H (Hf i tc ef tr) nv' (F3 ef dt) fc').path C.Φ s=some out ->
     (∀ w0 B0 (trf:Tr) (K:uK->tZ->Tr->Prop),Hq trf=tr->(∀ trf',Hq trf'=out.tr->K (uJ.den s out.T) (SH.den s out.H) trf')->xS C.P C.G E w0 B0 ops Nb (i+1) os ((uJ.den s T).put o.dst (r.den s)) ((SH.den s H).puts (uY s ef)) ((i,tc,BM tc (uY s ef))::trf) K) /\
     out.T.length=nt/\vO s out.fc/\∀ j,wE j out.dt=false->wE j dt=false/\hget out.H j=hget H j:=by
    intro r tc ef nv' fc' hf' h;obtain⟨T',hl,hden,h⟩:=aeH hdo h;rw[ad7] at h;obtain⟨h1,h2,h3,h4⟩:=Rn hC hcf os (i+1) T' _ _ nv' _ fc' out h hf' (hl.trans hT) hds;refine⟨λw0 B0 trf K ht hK=>?_,h2,h3,λj hj=>?_⟩
    ·have:=h1 w0 B0 ((i,tc,BM tc (uY s ef))::trf) K (by rw[anN,ht]) hK;rw[hden,ad8] at this;exact this
    ·obtain⟨h5,h6⟩:=h4 j hj;obtain⟨h7,h8⟩:=aeI h5;exact⟨h7,by rw[h6,aeJ h8]⟩
   split at h
   ·cases h
   ·rename_i g args hcs;rw[wQ] at h;obtain⟨r,hr,h⟩:=tL.path_bind_some h;have sp:=hcf _ _ _ _ _ _ _ hr hf1;obtain⟨h1,h2⟩:=step r.r r.tc r.ef r.nv r.fc sp.fc h;refine⟨λw0 B0 trf K ht hK=>?_,h2⟩;obtain⟨e1,e2,e3⟩:=anK (E:=E) (IW s T) hcs (P:=C.P) (G:=C.G) (H:=SH.den s H) (k:=Nb+2*i);simp only[xS,hw,EF,e2,e3,e1];exact⟨_,_,_,sp.ok w0 B0,sp.tc,sp.ef,h1 w0 B0 trf K ht hK⟩
   ·split at h
    ·rename_i q x y hp;obtain⟨fc2,hf2,h⟩:=G9 hf1 h;obtain⟨x',y',e1,e2,e3⟩:=anL (s:=s) (IW s T) hp
     cases hq:(q.den s != 0) with
     | true =>
      rw[hq] at h e1;simp only at h
      cases x with
      | none=>cases h
      | some r =>
       obtain⟨h1,h2⟩:=step r [] [] nv fc2 hf2 (by simpa [FZ,Hf,F3] using h);refine⟨λw0 B0 trf K ht hK=>?_,h2⟩;simp only[xS,hw,EF,e1,e2 r rfl];exact h1 w0 B0 trf K ht hK
     | false =>
      rw[hq] at h e1;simp only at h
      cases y with
      | none=>cases h
      | some r =>
       obtain⟨h1,h2⟩:=step r [] [] nv fc2 hf2 (by simpa [FZ,Hf,F3] using h);refine⟨λw0 B0 trf K ht hK=>?_,h2⟩;simp only[xS,hw,EF,Kn,e1,e3 r rfl];exact h1 w0 B0 trf K ht hK
    ·split at h
     ·rename_i L hL;obtain⟨k1,k2,k3,k4,k5⟩:=anO (E:=E) (s:=s) (IW s T) hL (G:=C.G) (k:=Nb+2*i);obtain⟨a,fc2,hf2,h,hv⟩:=aeL k1 hf1 h;obtain⟨h1,h2⟩:=step a [L.k] [] nv fc2 hf2 (by simpa [FZ,F3] using h);refine⟨λw0 B0 trf K ht hK=>?_,h2⟩;have h3:=h1 w0 B0 trf K ht hK
      have hn:uM C.P C.G E o.op (ym (uJ.den s T)) (SH.den s H) (Nb+2*i)=some (a.den s,[L.k],[]):=by
       rcases hv with⟨v,v1,v2⟩|⟨v1,v2⟩
       ·rw[v2];exact k4 v v1
       ·rw[v2];exact k5 v1
      simp only[xS,hw,EF,k2,hn];exact h3
     split at h
     ·rename_i L hL;obtain⟨fc2,hf2,h⟩:=G9 hf1 h
      cases hq:(L.c.den s != 0) with
      | false=>rw[hq] at h;cases h
      | true =>
       rw[hq] at h;simp only at h;obtain⟨k2,hn⟩:=anP (E:=E) (s:=s) (IW s T) hL (G:=C.G) (k:=Nb+2*i) hq;obtain⟨h1,h2⟩:=step L.r [L.k] [] nv fc2 hf2 (by simpa [FZ,F3] using h);refine⟨λw0 B0 trf K ht hK=>?_,h2⟩;have h3:=h1 w0 B0 trf K ht hK;simp only[xS,hw,EF,k2,hn];exact h3
     ·rw[wQ] at h;obtain⟨r,hr,h⟩:=tL.path_bind_some h;have hn:=anl hC.se hf1 (IW s T) hr;obtain⟨h1,h2⟩:=step r.1 r.2.1 r.2.2 nv fc1 hf1 h;refine⟨λw0 B0 trf K ht hK=>?_,h2⟩;have h3:=h1 w0 B0 trf K ht hK;simp only[xS,hw,EF]
      cases hp:EG o.op (ym (uJ.den s T)) with
      | none=>simp only[hn];exact h3
      | some z =>
       obtain⟨c,x,y⟩:=z;obtain⟨e1,e2,e3,e4⟩:=anM hp hn;rw[e1,e2] at h3
       cases c with
       | true=>simp only[EF,e3 rfl];exact h3
       | false=>simp only[Kn,e4 rfl];exact h3
theorem Dm {r:Exit×St} {t:tL (Exit×St)} {f:Exit×St->tL (Exit×St)} (h:(t.bind f).path C.Φ s=some r):∃ ex st,t.path C.Φ s=some (ex,st)/\(f (ex,st)).path C.Φ s=some r:=by obtain⟨⟨ex,st⟩,h1,h2⟩:=tL.path_bind_some h;exact⟨ex,st,h1,h2⟩
theorem KL {x:Exit} {r y:Exit×St} {A:tL (Exit×St)} (h:(match x with | .normal=>A|_=>.leaf y:tL (Exit×St)).path C.Φ s=some r):(x = .normal/\A.path C.Φ s=some r)\/(x ≠ .normal/\r=y):=by cases x<;>first|exact .inl ⟨rfl,h⟩|(cases h;exact .inr ⟨λe=>(by cases e),rfl⟩)
theorem KM {K:Nat->uK->tZ->Prop} {Q:BO} {x:Exit} {N:Nat} {T:uK} {H:tZ} (hx:x ≠ .normal) (h:Q x N T H):MH K Q x N T H:=by cases x<;>first|exact absurd rfl hx|exact h
theorem ER.trans {c c' c2:Code} {st st1 st2:St} {ex1 ex2:Exit} (h1:ER C E s c st ex1 st1) (h2:ER C E s c' st1 ex2 st2) (aw:∀ w0 B0,AW ⟨C.P,C.G,E,w0,B0,st.T.length⟩ c2 (zu s ex2 st2) st.N (uJ.den s st.T) (SH.den s st.H)):ER C E s c2 st ex2 st2 :=
 ⟨aw,h2.len.trans h1.len,λj hj=>by obtain⟨a,b⟩:=h2.dt j hj;obtain⟨a',b'⟩:=h1.dt j a;exact⟨a',b.trans b'⟩,h2.fc⟩
def Hr (id:Nat):Exit->Exit
 | .exit id'=>if id'=id then .normal else .exit id'
 | x=>x
theorem KN (hC:wW C E):∀ n:Nat,Rl C E s (exec C n) /\
  ∀ c st ex st',(exec C n (.loop c) st).path C.Φ s=some (ex,st')->vO s st.fc->∀ w0 B0,AZ ⟨C.P,C.G,E,w0,B0,st.T.length⟩ c (zu s ex st') n st.N (uJ.den s st.T) (SH.den s st.H)
 | 0=>⟨λc st ex st' h=>(by cases h),λc st ex st' h=>(by cases h)⟩
 | n+1=>by
  obtain⟨ih,ihl⟩:=KN hC n
  have loop:∀ c st ex st',(exec C (n+1) (.loop c) st).path C.Φ s=some (ex,st')->vO s st.fc->ER C E s (.loop c) st ex st'/\∀ w0 B0,AZ ⟨C.P,C.G,E,w0,B0,st.T.length⟩ c (zu s ex st') (n+1) st.N (uJ.den s st.T) (SH.den s st.H):=by
   intro c st ex st' h hf;simp only[exec] at h;obtain⟨ex1,st1,h1,h2⟩:=Dm h;have s1:=ih _ _ _ _ h1 hf;rcases KL h2 with⟨rfl,h3⟩|⟨hx,h3⟩
   ·have s2:=ih _ _ _ _ h3 s1.fc
    have hr:∀ w0 B0,AZ ⟨C.P,C.G,E,w0,B0,st.T.length⟩ c (zu s ex st') (n+1) st.N (uJ.den s st.T) (SH.den s st.H):=λw0 B0=>by rw[MK];refine(s1.aw w0 B0).mono ?_;rintro x N T H ⟨rfl,rfl,rfl,rfl⟩;have:=ihl _ _ _ _ h3 s1.fc w0 B0;rw[s1.len] at this;exact this
    exact⟨s1.trans s2 λw0 B0=>MJ _ (hr w0 B0),hr⟩
   ·obtain⟨rfl,rfl⟩:ex1=ex/\st1=st':=by cases h3;exact⟨rfl,rfl⟩
    have hr:∀ w0 B0,AZ ⟨C.P,C.G,E,w0,B0,st.T.length⟩ c (zu s ex1 st1) (n+1) st.N (uJ.den s st.T) (SH.den s st.H):=λw0 B0=>by rw[MK];refine(s1.aw w0 B0).mono ?_;rintro x N T H ⟨rfl,rfl,rfl,rfl⟩;exact KM hx ⟨rfl,rfl,rfl,rfl⟩
    exact⟨⟨λw0 B0=>MJ _ (hr w0 B0),s1.len,s1.dt,s1.fc⟩,hr⟩
  refine⟨?_,λc st ex st' h hf=>(loop c st ex st' h hf).2⟩;intro c st ex st' h hf
  cases c with
  | skip=>simp only[exec] at h;cases h;exact⟨λw0 B0=>Xr ⟨rfl,rfl,rfl,rfl⟩,rfl,λj hj=>⟨hj,rfl⟩,hf⟩
  | label l=>simp only[exec] at h;cases h;exact⟨λw0 B0=>Xt ⟨rfl,rfl,rfl,rfl⟩,rfl,λj hj=>⟨hj,rfl⟩,hf⟩
  | exit id=>simp only[exec] at h;cases h;exact⟨λw0 B0=>Xu ⟨rfl,rfl,rfl,rfl⟩,rfl,λj hj=>⟨hj,rfl⟩,hf⟩
  | ret=>simp only[exec] at h;cases h;exact⟨λw0 B0=>Xv ⟨rfl,rfl,rfl,rfl⟩,rfl,λj hj=>⟨hj,rfl⟩,hf⟩
  | seq a b =>
   simp only[exec] at h;obtain⟨ex1,st1,h1,h2⟩:=Dm h;have s1:=ih _ _ _ _ h1 hf;rcases KL h2 with⟨rfl,h3⟩|⟨hx,h3⟩
   ·have s2:=ih _ _ _ _ h3 s1.fc;refine s1.trans s2 λw0 B0=>MI ((s1.aw w0 B0).mono ?_)
    rintro x N T H ⟨rfl,rfl,rfl,rfl⟩;have:=s2.aw w0 B0;rw[s1.len] at this;exact this
   ·cases h3;refine⟨λw0 B0=>MI ((s1.aw w0 B0).mono ?_),s1.len,s1.dt,s1.fc⟩;rintro x N T H ⟨rfl,rfl,rfl,rfl⟩;exact KM hx ⟨rfl,rfl,rfl,rfl⟩
  | cond c a b =>
   simp only[exec] at h;split at h
   ·rename_i q hq;have hd:=IW s st.T _ _ hq;obtain⟨fc',hf',h⟩:=G9 hf h;simp only[SV.den] at hd
    cases hb:(q.den s != 0) with
    | true =>
     rw[hb] at h hd;have s1:=ih _ _ _ _ h hf';exact⟨λw0 B0=>Xw hd (s1.aw w0 B0),s1.len,s1.dt,s1.fc⟩
    | false =>
     rw[hb] at h hd;have s1:=ih _ _ _ _ h hf';exact⟨λw0 B0=>Xx hd (s1.aw w0 B0),s1.len,s1.dt,s1.fc⟩
   ·cases h
  | block id c =>
   simp only[exec] at h;obtain⟨ex1,st1,h1,h2⟩:=Dm h;have s1:=ih _ _ _ _ h1 hf
   have key:ex=Hr id ex1/\st'=st1:=by
    cases ex1 with
    | exit id' =>
     simp only at h2;simp only[Hr];split at h2
     ·rename_i hb;cases h2;rw[if_pos (vH.1 hb)];exact⟨rfl,rfl⟩
     ·rename_i hb;cases h2;rw[if_neg (λe=>by rw[e] at hb;simp at hb)];exact⟨rfl,rfl⟩
    | _=>cases h2;exact⟨rfl,rfl⟩
   obtain⟨rfl,rfl⟩:=key;refine⟨λw0 B0=>Xy ((s1.aw w0 B0).mono ?_),s1.len,s1.dt,s1.fc⟩;rintro x N T H ⟨rfl,rfl,rfl,rfl⟩
   cases x with
   | exit id' =>
    simp only[QB,Hr];split
    ·exact⟨rfl,rfl,rfl,rfl⟩
    ·exact⟨rfl,rfl,rfl,rfl⟩
   | _=>exact⟨rfl,rfl,rfl,rfl⟩
  | loop c=>exact(loop c st ex st' h hf).1
  | scope c =>
   simp only[exec] at h;obtain⟨ex1,st1,h1,h2⟩:=Dm h;have s1:=ih _ _ _ _ h1 hf
   have key:(∀ l,ex1 ≠ .goto l)/\ex=ex1/\st'=st1:=by cases ex1<;>first|(cases h2;exact⟨λl e=>(by cases e),rfl,rfl⟩)|cases h2
   obtain⟨hg,rfl,rfl⟩:=key;exact⟨λw0 B0=>XA (s1.aw w0 B0) (λl N T H e=>hg l e.1.symm),s1.len,s1.dt,s1.fc⟩
  | region id ops draw =>
   simp only[exec] at h;obtain⟨out,h1,h2⟩:=tL.path_bind_some h
   have dst:∀ o∈ops.toList,∀ t,o.dst=some t->t<st.T.length:=by
    unfold regionEnd at h2;split at h2
    ·split at h2
     ·rename_i hdr _;simp only[drawOK,Bool.and_eq_true] at hdr;exact GQ hdr.1.2
     ·cases h2
     ·cases h2
    ·split at h2
     ·rename_i hdr;exact GQ hdr
     ·cases h2
   obtain⟨e1,e2,e3,e4⟩:=Rn hC (nt:=st.T.length) (λg args H k nv fc r hr hf=>Zf hC ih hr hf) ops.toList 0 st.T st.H [] st.nv st.dt st.fc out h1 hf rfl dst;unfold regionEnd at h2
   cases draw with
   | true =>
    simp only at h2;split at h2
    ·rename_i hdr htr;rw[wQ] at h2;cases h2;refine⟨λw0 B0=>XC hC.eq hC.mix hdr (e1 w0 B0 [] _ rfl ?_),e2,e4,e3⟩;intro trf htf;refine⟨?_,rfl,rfl,rfl,rfl⟩;rw[<- htf] at htr;exact Rm htr
    ·cases h2
    ·cases h2
   | false =>
    simp only at h2;split at h2
    ·rename_i hdr;rw[wQ] at h2;cases h2;exact⟨λw0 B0=>XB hC.eq hdr (e1 w0 B0 [] _ rfl λtrf htf=>⟨rfl,rfl,rfl,rfl⟩),e2,e4,e3⟩
    ·cases h2
  | rangeFunc f ps a b=>simp only[exec] at h;cases h
  | goto l=>simp only[exec] at h;cases h
  | refuse w=>simp only[exec] at h;cases h
end
def ul:List Int->Nat->Int
 | [],_=>0
 | x::_,0=>x
 | _::l,n+1=>ul l n
theorem aeP:∀ (l m:List Int) (i:Nat),i<l.length->ul (l++m) i=ul l i
 | x::l,m,0,_=>rfl
 | x::l,m,i+1,h=>aeP l m i (by simpa using h)
 | [],m,i,h=>by simp at h
theorem Zl:∀ (l m q:List Int),yH (ul (l++m++q)) l.length m.length=m
 | l,[],q=>rfl
 | l,x::m,q=>by
  rw[List.length_cons,yH]
  have h1:ul (l++x::m++q) l.length=x:=by
   induction l with
   | nil=>rfl
   | cons y l ih=>exact ih
  have h2:=Zl (l ++ [x]) m q;rw[h1];simp only[List.append_assoc,List.singleton_append,List.length_append,List.length_cons,List.length_nil,List.cons_append,List.nil_append,Nat.zero_add] at h2 ⊢;rw[h2]
def X.ev (l:List Int):X->Int
 | .lit n=>n
 | .var k i=>Nf k (ul l i)
 | .bin op k a b=>fold op k (a.ev l) (b.ev l)
 | .conv k a=>xJ k (a.ev l)
 | .com k a=>fold .xor k (match k.signed with|true => -1|false=>.ofNat (zo k-1)) (a.ev l)
 | .not a=>ui (DX (uk (a.ev l)))
 | .and a b=>match uk (a.ev l) with|true=>ui (uk (b.ev l))|false=>0
 | .beq a b=>ui (match uk (a.ev l) with|true=>uk (b.ev l)|false=>DX (uk (b.ev l)))
 | .min a b=>match zq (b.ev l) (a.ev l) with|true=>b.ev l|false=>a.ev l
 | .max a b=>match zq (a.ev l) (b.ev l) with|true=>b.ev l|false=>a.ev l
 | .ite c a b=>match uk (c.ev l) with|true=>a.ev l|false=>b.ev l
 | .dlen a=>Int.ofNat (uH (a.ev l).toNat)
theorem anQ (k:IntKind) (n:Int):fold .xor k (match k.signed with|true => -1|false=>.ofNat (zo k-1)) n=QM k n:=by have:=adV (λ_=>0) k (.lit n);unfold TN at this;simp only[Kt,X.den] at this;exact this
theorem X.ev_den (l:List Int):∀ x:X,x.ev l=x.den (ul l)
 | .lit n=>rfl
 | .var k i=>ael k _
 | .bin op k a b=>by simp only[X.ev,X.den,GY,X.ev_den l a,X.ev_den l b]
 | .conv k a=>by simp only[X.ev,X.den,wP,X.ev_den l a]
 | .com k a=>by simp only[X.ev,X.den,anQ,X.ev_den l a]
 | .not a=>by simp only[X.ev,X.den,Cu,xW,X.ev_den l a]
 | .and a b=>by simp only[X.ev,X.den,xW,X.ev_den l a,X.ev_den l b];cases (a.den (ul l) != 0)<;>rfl
 | .beq a b=>by simp only[X.ev,X.den,xW,Cu,X.ev_den l a,X.ev_den l b];cases (a.den (ul l) != 0)<;>cases (b.den (ul l) != 0)<;>rfl
 | .min a b=>by
  simp only[X.ev,X.den,Cs,X.ev_den l a,X.ev_den l b];by_cases h:b.den (ul l)<a.den (ul l)
  ·rw[decide_eq_true h,if_pos h]
  ·rw[decide_eq_false h,if_neg h]
 | .max a b=>by
  simp only[X.ev,X.den,Cs,X.ev_den l a,X.ev_den l b];by_cases h:a.den (ul l)<b.den (ul l)
  ·rw[decide_eq_true h,if_pos h]
  ·rw[decide_eq_false h,if_neg h]
 | .ite c a b=>by
  simp only[X.ev,X.den,xW,X.ev_den l a,X.ev_den l b,X.ev_den l c];by_cases h:c.den (ul l)=0
  ·rw[if_pos h,h];rfl
  ·rw[if_neg h,show(c.den (ul l) != 0)=true by simpa using h]
 | .dlen a=>by simp only[X.ev,X.den,X.ev_den l a]
def evs {β:Sort _} (l:List Int):List X->(List Int->β)->β
 | [],K=>K []
 | x::xs,K=>Kr (x.ev l) λn=>evs l xs λr=>K (n::r)
theorem El {β:Sort _} (l:List Int):∀ (xs:List X) (K:List Int->β),evs l xs K=K (xs.map (X.den (ul l)))
 | [],K=>rfl
 | x::xs,K=>by rw[evs,Kt,El l xs,X.ev_den];rfl
def yx (Φ:wH):tL SV->List Int->Option (SV×List Int)
 | .leaf a,l=>some (a,l)
 | .ite c a b,l=>match uk (c.ev l) with|true=>yx Φ a l|false=>yx Φ b l
 | .call f args _ n t,l=>evs l args λxs=>match Nat.beq (Φ f xs).length n with|true=>yx Φ t (l++Φ f xs)|false=>none
 | .stuck _,_=>none
def yS (n:Nat):X->Bool
 | .lit _=>true
 | .var _ i=>Nat.blt i n
 | .bin _ _ a b=>vT (yS n a) (yS n b)
 | .conv _ a=>yS n a
 | .com _ a=>yS n a
 | .not a=>yS n a
 | .and a b=>vT (yS n a) (yS n b)
 | .beq a b=>vT (yS n a) (yS n b)
 | .min a b=>vT (yS n a) (yS n b)
 | .max a b=>vT (yS n a) (yS n b)
 | .ite c a b=>vT (yS n c) (vT (yS n a) (yS n b))
 | .dlen a=>yS n a
def Ut (n:Nat):List X->Bool
 | []=>true
 | x::l=>vT (yS n x) (Ut n l)
def Em (n:Nat):tL SV->Bool
 | .leaf _=>true
 | .ite c a b=>vT (yS n c) (vT (Em n a) (Em n b))
 | .call _ args base m t=>vT (Nat.beq base n) (vT (Ut n args) (Em (n+m) t))
 | .stuck _=>true
theorem zS {l m:List Int} : ∀ {x:X},yS l.length x=true->x.den (ul (l++m))=x.den (ul l)
 | .lit n,_=>rfl
 | .var k i,h=>by simp only[X.den];rw[aeP _ _ _ (by simpa [yS,Nat.blt_eq] using h)]
 | .bin _ _ a b,h=>by have h:=vw h;simp only[X.den,zS h.1,zS h.2]
 | .conv _ a,h=>by simp only[X.den,zS (x:=a) h]
 | .com _ a,h=>by simp only[X.den,zS (x:=a) h]
 | .not a,h=>by simp only[X.den,zS (x:=a) h]
 | .and a b,h=>by have h:=vw h;simp only[X.den,zS h.1,zS h.2]
 | .beq a b,h=>by have h:=vw h;simp only[X.den,zS h.1,zS h.2]
 | .min a b,h=>by have h:=vw h;simp only[X.den,zS h.1,zS h.2]
 | .max a b,h=>by have h:=vw h;simp only[X.den,zS h.1,zS h.2]
 | .ite c a b,h=>by have h:=vw h;have h2:=vw h.2;simp only[X.den,zS h.1,zS h2.1,zS h2.2]
 | .dlen a,h=>by simp only[X.den,zS (x:=a) h]
theorem aeQ {l m:List Int} : ∀ {xs:List X},Ut l.length xs=true->xs.map (X.den (ul (l++m)))=xs.map (X.den (ul l))
 | [],_=>rfl
 | x::xs,h=>by have h:=vw h;rw[List.map_cons,List.map_cons,zS h.1,aeQ h.2]
theorem Jg {Φ:wH} : ∀ {t:tL SV} {l:List Int} {a:SV} {l':List Int},yx Φ t l=some (a,l')->Em l.length t=true->t.path Φ (ul l')=some a/\∃ m,l'=l++m
 | .leaf a,l,b,l',h,_=>by simp only[yx,Option.some.injEq,Prod.mk.injEq] at h;obtain⟨rfl,rfl⟩:=h;exact⟨rfl,[],by simp⟩
 | .ite c a b,l,v,l',h,hs=>by
  have hs:=vw hs;have hs2:=vw hs.2;simp only[yx,xW,X.ev_den] at h;split at h
  ·rename_i hc;obtain⟨h1,m,rfl⟩:=Jg h hs2.1;refine⟨?_,m,rfl⟩;rw[tL.path,zS hs.1,if_neg (by simpa using hc)];exact h1
  ·rename_i hc;obtain⟨h1,m,rfl⟩:=Jg h hs2.2;refine⟨?_,m,rfl⟩;rw[tL.path,zS hs.1,if_pos (by simpa using hc)];exact h1
 | .call f args base n t,l,v,l',h,hs=>by
  have hs:=vw hs;have hs2:=vw hs.2;have hb:=vH.1 hs.1;subst hb;simp only[yx,El] at h;split at h
  ·rename_i hn;have hn:=vH.1 hn;subst hn;obtain⟨h1,m,rfl⟩:=Jg h (by rw[List.length_append];exact hs2.2);refine⟨?_,_,List.append_assoc _ _ _⟩;rw[tL.path,if_pos]
   ·exact h1
   ·unfold Ky;have e:=aeQ (m:=Φ f (args.map (X.den (ul l)))++m) hs2.1;rw[List.append_assoc,e,<- List.append_assoc];exact Zl l _ m
  ·cases h
 | .stuck w,l,v,l',h,_=>by cases h
def ES (r:List Sh) (a:SV):List SV:=match r with
 | [_]=>[a]
 | _=>match a with | .tup m=>m|a=>[a]
def uq (Φ:wH) (ct:Ct) (t:tL SV) (l:List Int):List Int:=match yx Φ t l with
 | some (a,l')=>match Cy ct.r (ES ct.r a) with
  | some xs=>evs l' xs id
  | none=>[]
 | none=>[]
def okF (Φ:wH) (ct:Ct) (t:tL SV) (l:List Int):Prop:=∃ a l' xs,yx Φ t l=some (a,l')/\Cy ct.r (ES ct.r a)=some xs
theorem Uu {Φ:wH} {ct:Ct} {t:tL SV} {l:List Int} (h:okF Φ ct t l):(uq Φ ct t l).length=(tO ct.r).length:=by obtain⟨a,l',xs,h1,h2⟩:=h;unfold uq;simp only[h1,h2,El,id,List.length_map,(Jb (λ_=>0) h2).2]
theorem Ro (l m:List Int):yH (ul (l++m)) 0 l.length=l:=by have:=Zl [] l m;simpa using this
theorem anR {C:vI} {E:vR} {s:ut} (hC:wW C E) {n:Nat} {g:FuncId} {args:List SV} {nv:Nat} {a:SV} {vs:List Value} {v:Value} (h:(uN C n g args nv).path C.Φ s=some a) (ha:SV.dens s args=vs.map .v) (hv:a.den s = .v v) :
  PC C.P C.G g vs v:=by
 unfold uN at h;split at h
 ·cases h
 ·rename_i fn hf;split at h
  ·cases h
  ·rename_i cd hb;split at h
   ·rename_i hl;obtain⟨⟨ex,st⟩,h1,h2⟩:=tL.path_bind_some h;have sp:=(KN (E:=E) (s:=s) hC n).1 _ _ _ _ h1 (λx hx=>by cases hx);have hlen:(xO args fn.ntmps).length=fn.ntmps:=Jd _ _ (Nat.le_of_ble_eq_true hl);have hvl:vs.length=args.length:=by have:=congrArg List.length ha;rw[Cw,List.length_map] at this;exact this.symm
    refine XF E hf hb (hC.nm g fn hf (by rw[hb];rfl)) (by rw[hvl];exact hl) λw=>?_
    have hA:=sp.aw w ve.nil;simp only[hlen,Np,ha] at hA
    have key:∀ rs,yw C.P st.T st.H fn.results.toList=some rs->resS rs=a->∃ rs',BP C.P C.G (uJ.den s st.T) (SH.den s st.H) fn.results.toList=some rs'/\EH rs' = .v v:=λrs hrs e =>
     ⟨_,Je s hrs,by rw[Jc,e,hv]⟩
    have hx:(ex = .normal\/ex = .ret)/\∃ rs,yw C.P st.T st.H fn.results.toList=some rs/\resS rs=a:=by
     rcases Nq h2 with⟨rfl,h3⟩|⟨rfl,h3⟩
     ·split at h3
      ·rename_i rs hrs;cases h3;exact⟨.inl rfl,rs,hrs,rfl⟩
      ·cases h3
     ·split at h3
      ·rename_i rs hrs;cases h3;exact⟨.inr rfl,rs,hrs,rfl⟩
      ·cases h3
    obtain⟨hx,rs,hrs,e⟩:=hx;refine AW.mono (show AW _ cd (zu s ex st) 0 _ _ from hA) ?_;rintro x N T H ⟨rfl,rfl,rfl,rfl⟩;rcases hx with rfl|rfl
    ·exact key rs hrs e
    ·exact key rs hrs e
   ·cases h
theorem Uv {s:ut} {r:List Sh} {a:SV} {vs:List Value} (h:SV.dens s (ES r a)=vs.map .v) (hl:vs.length=r.length):a.den s = .v (vP vs):=by
 unfold ES at h;split at h
 ·match vs,hl with
  | [v],_=>simpa [SV.dens,vP] using h
 ·rename_i hr
  have tup:∀ m,SV.dens s m=vs.map .v->(SV.tup m).den s = .v (vP vs):=λm hm=>by
   simp only[SV.den,hm,TU]
   match vs,hl with
   | [],_=>rfl
   | [v],hl=>exfalso;match r,hl with | [x],_=>exact hr x rfl
   | _::_::_,_=>rfl
  split at h
  ·exact tup _ h
  ·rename_i hnt;exfalso;have h1:=congrArg List.length h;rw[Cw,List.length_map,hl] at h1
   match r,h1 with
   | [x],_=>exact hr x rfl
theorem Nr:∀ (hs:List Sh) (ns:List Int),(uP hs ns).length=hs.length
 | [],_=>rfl
 | h::hs,ns=>by rw[uP,List.length_cons,Nr hs,List.length_cons]
theorem Zm {C:vI} {E:vR} (hC:wW C E) {n:Nat} {g:FuncId} {ct:Ct} {t:tL SV} (h:uN C n g (uF ct.a (uC 0 (tO ct.a))) (tO ct.a).length=t) (hs:Em (tO ct.a).length t=true)
  (l:List Int) (hl:l.length=(tO ct.a).length) (ho:okF C.Φ ct t l) :
  (uq C.Φ ct t l).length=(tO ct.r).length/\PC C.P C.G g (uP ct.a l) (vP (uP ct.r (uq C.Φ ct t l))):=by
 refine⟨Uu ho,?_⟩;obtain⟨a,l',xs,h1,h2⟩:=ho;obtain⟨h3,m,rfl⟩:=Jg h1 (by rw[hl];exact hs);rw[<- h] at h3;obtain⟨h4,h5⟩:=EP (ul (l++m)) (tO ct.a) 0;rw[<- hl,Ro] at h4;have hf:=Jb (ul (l++m)) h2;refine anR hC h3 (Hg h4 h5) ?_;have:uq C.Φ ct t l=xs.map (X.den (ul (l++m))):=by unfold uq;simp only[h1,h2,El,id]
 rw[this];exact Uv hf.1 (Nr _ _)
def CB (cf:FuncId->Option Ct) (ct:Ct) (n:Nat):tL SV->Bool
 | .leaf a=>(Cy ct.r (ES ct.r a)).isSome
 | .ite c a b=>vT (yS n c) (vT (CB cf ct n a) (CB cf ct n b))
 | .call f args base m t=>match cf f with
  | some c=>vT (Nat.beq base n) (vT (Ut n args) (vT (Nat.beq args.length (tO c.a).length) (vT (Nat.beq m (tO c.r).length) (CB cf ct (n+m) t))))
  | none=>false
 | .stuck _=>false
theorem KO {cf:FuncId->Option Ct} {ct:Ct} : ∀ {t:tL SV} {n:Nat},CB cf ct n t=true->Em n t=true
 | .leaf a,n,_=>rfl
 | .ite c a b,n,h=>by have h:=vw h;have h2:=vw h.2;simp only[Em,h.1,KO h2.1,KO h2.2];rfl
 | .call f args base m t,n,h=>by
  simp only[CB] at h;split at h
  ·have h:=vw h;have h2:=vw h.2;have h3:=vw h2.2;have h4:=vw h3.2;simp only[Em,h.1,h2.1,KO h4.2];rfl
  ·cases h
 | .stuck _,n,h=>by cases h
structure zx (C:vI) (E:vR):Prop where
 ok:wW C E
 ct:∀ (g:FuncId) (ct:Ct),C.ct g=some ct->∀ l:List Int,l.length=(tO ct.a).length->(C.Φ g l).length=(tO ct.r).length
 nt:∀ (g:FuncId) (ct:Ct),C.nt g=some ct->∀ l:List Int,l.length=(tO ct.a).length->(C.Φ g l).length=(tO ct.r).length
 sl:∀ (g:FuncId) (c:yR),c∈C.sl g->∀ l:List Int,l.length=(tO c.a++c.ks).length->(C.Φ c.id l).length=(tO c.r).length
theorem Uw {C:vI} {E:vR} (hC:zx C E) {ct:Ct} : ∀ {t:tL SV} {l:List Int},CB C.ct ct l.length t=true->okF C.Φ ct t l
 | .leaf a,l,h=>by obtain⟨xs,hx⟩:=Option.isSome_iff_exists.1 (show(Cy ct.r (ES ct.r a)).isSome=true from h);exact⟨a,l,xs,rfl,hx⟩
 | .ite c a b,l,h=>by
  have h:=vw h;have h2:=vw h.2;unfold okF;simp only[yx]
  cases uk (c.ev l) with
  | true=>exact Uw hC h2.1
  | false=>exact Uw hC h2.2
 | .call f args base m t,l,h=>by
  simp only[CB] at h;split at h
  ·rename_i c hc;have h:=vw h;have h2:=vw h.2;have h3:=vw h2.2;have h4:=vw h3.2;have e1:=vH.1 h3.1;have e2:=vH.1 h4.1;unfold okF;simp only[yx,El];have hl:=(hC.ct f c hc (args.map (X.den (ul l))) (by rw[List.length_map];exact e1));rw[hl,e2];simp only[Nat.beq_refl];refine Uw hC ?_;rw[List.length_append,hl,<- e2];exact h4.2
  ·cases h
 | .stuck _,l,h=>by cases h
structure uL where
 g:FuncId
 ct:Ct
 F:List Int->List Int
def Ah:List uL->FuncId->Option uL
 | [],_=>none
 | x::l,g=>match Nat.beq x.g g with|true=>some x|false=>Ah l g
def uz (P:Program) (G:uG) (e:uL):Prop:=∀ l:List Int,l.length=(tO e.ct.a).length->(e.F l).length=(tO e.ct.r).length/\PC P G e.g (uP e.ct.a l) (vP (uP e.ct.r (e.F l)))
theorem Rp {L:List uL} {g:FuncId} {e:uL} (h:Ah L g=some e):e∈L/\e.g=g:=by
 induction L with
 | nil=>cases h
 | cons x l ih =>
  simp only[Ah] at h;split at h
  ·rename_i hb;cases h;exact⟨List.mem_cons_self,vH.1 hb⟩
  ·obtain⟨h1,h2⟩:=ih h;exact⟨List.mem_cons_of_mem _ h1,h2⟩
theorem vC {C:vI} {E:vR} (hC:zx C E) (n:Nat) {g:FuncId} {ct:Ct} {t:tL SV} (h:uN C n g (uF ct.a (uC 0 (tO ct.a))) (tO ct.a).length=t) (hs:CB C.ct ct (tO ct.a).length t=true) :
  uz C.P C.G ⟨g,ct,uq C.Φ ct t⟩:=λl hl=>Zm hC.ok h (KO hs) l hl (Uw hC (by rw[hl];exact hs))
structure wX (P:Program) (G:uG) (e:uL):Prop where
 ok:∀ l:List Int,l.length=(tO e.ct.a).length->(e.F l).length=(tO e.ct.r).length->PC P G e.g (uP e.ct.a l) (vP (uP e.ct.r (e.F l)))
theorem uz.c {P:Program} {G:uG} {e:uL} (h:uz P G e):wX P G e:=⟨λl hl _=>(h l hl).2⟩
theorem wX.tot {P:Program} {G:uG} {e:uL} (h:wX P G e) (ht:∀ l:List Int,l.length=(tO e.ct.a).length->(e.F l).length=(tO e.ct.r).length):uz P G e:=λl hl=>⟨ht l hl,h.ok l hl (ht l hl)⟩
theorem aeR {Φ:wH} {ct:Ct} {t:tL SV} {l:List Int} (hp:Nat.blt 0 (tO ct.r).length=true) (h:(uq Φ ct t l).length=(tO ct.r).length):okF Φ ct t l:=by
 have hp:0<(tO ct.r).length:=by simpa [Nat.blt_eq] using hp
 unfold uq at h
 cases he:yx Φ t l with
 | none=>rw[he] at h;simp only[List.length_nil] at h;omega
 | some q =>
  obtain⟨a,l'⟩:=q;rw[he] at h;simp only at h
  cases hf:Cy ct.r (ES ct.r a) with
  | none=>rw[hf] at h;simp only[List.length_nil] at h;omega
  | some xs=>exact⟨a,l',xs,he,hf⟩
theorem Ns {C:vI} {E:vR} (hC:wW C E) (n:Nat) {g:FuncId} {ct:Ct} {t:tL SV} (hp:Nat.blt 0 (tO ct.r).length=true) (h:uN C n g (uF ct.a (uC 0 (tO ct.a))) (tO ct.a).length=t) (hs:Em (tO ct.a).length t=true) :
  wX C.P C.G ⟨g,ct,uq C.Φ ct t⟩:=⟨λl hl hF=>(Zm hC h hs l hl (aeR hp hF)).2⟩
end Go.Proofs.YtippohicjhilnaaGreatDoor
