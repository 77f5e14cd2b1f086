import Derived.Test.YtippohicjhilnaaGreatDoorZATn
set_option linter.unusedSimpArgs false
set_option linter.unusedVariables false
namespace Go.Proofs.YtippohicjhilnaaGreatDoor
open Go.RowKit
inductive VK where
 | int (k:IntKind)
 | bool
 | bit
 | nat
def wh (b:Bool):Int:=match b with|true=>1|false=>0
def ES (op:BinOp) (k:IntKind) (x y:Int):Int :=
 let a:=BitVec.ofInt k.bits x;let b:=BitVec.ofInt k.bits y
 k.wrap (match op with | .and=>a&&&b | .or=>a|||b | .xor=>a ^^^ b|_=>a &&& ~~~b).toNat
theorem agb (op:BinOp) (k:IntKind) (x y:Int):Mw op k x y = .int k (ES op k x y):=rfl
def wJ (op:BinOp) (k:IntKind) (a b:Int):Int:=match op with
 | .shl=>k.wrap (a*2^min b.toNat k.bits)
 | .shr=>a.fdiv (2^min b.toNat k.bits)
 | .add=>k.wrap (a+b)
 | .sub=>k.wrap (a-b)
 | .mul=>k.wrap (a*b)
 | .quo=>k.wrap (a.tdiv b)
 | .rem=>a.tmod b
 | .and=>ES .and k a b
 | .or=>ES .or k a b
 | .xor=>ES .xor k a b
 | .andNot=>ES .andNot k a b
 | .eql=>wh (a==b)
 | .neq=>wh (a != b)
 | .lss=>wh (decide (a<b))
 | .leq=>wh (decide (a<=b))
 | .gtr=>wh (decide (a>b))
 | .geq=>wh (decide (a>=b))
def GH:Nat->Nat->List Nat
 | 0,_=>[]
 | f+1,n=>match n with|0=>[]|m+1=>(m+1)%4294967296::GH f ((m+1)/4294967296)
def Tw (n:Nat):List Nat:=GH n n
def wO (n:Nat):Nat:=(Tw n).length
inductive X where
 | lit (n:Int)
 | var (k:VK) (i:Nat)
 | bin (op:BinOp) (k:IntKind) (a b:X)
 | conv (k:IntKind) (a:X)
 | com (k:IntKind) (a:X)
 | not (a:X)
 | and (a b:X)
 | beq (a b:X)
 | min (a b:X)
 | max (a b:X)
 | ite (c a b:X)
 | dlen (a:X)
abbrev wF:=Nat->Int
def VK.norm:VK->Int->Int
 | .int k,n=>k.wrap n
 | .bool,n=>wh (n != 0)
 | .bit,n=>wh (n != 0)
 | .nat,n=>Int.ofNat n.toNat
def Tx (k:IntKind) (n:Int):Int:=ES .xor k (if k.signed then -1 else k.max) n
def X.den (s:wF):X->Int
 | .lit n=>n
 | .var k i=>k.norm (s i)
 | .bin op k a b=>wJ op k (a.den s) (b.den s)
 | .conv k a=>k.wrap (a.den s)
 | .com k a=>Tx k (a.den s)
 | .not a=>wh (!(a.den s != 0))
 | .and a b=>wh (a.den s != 0&&b.den s != 0)
 | .beq a b=>wh ((a.den s != 0)==(b.den s != 0))
 | .min a b=>if b.den s<a.den s then b.den s else a.den s
 | .max a b=>if b.den s>a.den s then b.den s else a.den s
 | .ite c a b=>if c.den s=0 then b.den s else a.den s
 | .dlen a=>Int.ofNat (wO (a.den s).toNat)
theorem yX (b:Bool):(wh b != 0)=b:=by cases b<;>rfl
def zk {β:Sort _} (n:Nat) (k:Nat->β):β:=match n with|0=>k 0|m+1=>k (Nat.succ m)
theorem yK {β:Sort _} (n:Nat) (k:Nat->β):zk n k=k n:=by cases n<;>rfl
def ME {β:Sort _} (n:Int) (k:Int->β):β:=match n with | .ofNat m=>zk m λm=>k (.ofNat m) | .negSucc m=>zk m λm=>k (.negSucc m)
theorem MF {β:Sort _} (n:Int) (k:Int->β):ME n k=k n:=by cases n<;>simp[ME,yK]
def Jn {α:Type} {β:Sort _} : List α->(List α->β)->β
 | [],k=>k []
 | a::l,k=>Jn l λl'=>k (a::l')
theorem MG {α:Type} {β:Sort _} : ∀ (l:List α) (k:List α->β),Jn l k=k l
 | [],k=>rfl
 | a::l,k=>by rw[Jn,MG l]
def zA {β:Sort _} (x:X) (k:X->β):β:=match x with
 | .lit n=>k (.lit n)
 | .var a b=>k (.var a b)
 | .bin o q a b=>k (.bin o q a b)
 | .conv q a=>k (.conv q a)
 | .com q a=>k (.com q a)
 | .not a=>k (.not a)
 | .and a b=>k (.and a b)
 | .beq a b=>k (.beq a b)
 | .min a b=>k (.min a b)
 | .max a b=>k (.max a b)
 | .ite c a b=>k (.ite c a b)
 | .dlen a=>k (.dlen a)
theorem aoI {β:Sort _} (x:X) (k:X->β):zA x k=k x:=by cases x<;>rfl
def Bn:IntKind->Nat
 | .i8 | .u8=>256
 | .i16 | .u16=>65536
 | .i32 | .u32=>4294967296
 | .i64 | .u64=>18446744073709551616
def Jo:IntKind->Nat
 | .i8 | .u8=>128
 | .i16 | .u16=>32768
 | .i32 | .u32=>2147483648
 | .i64 | .u64=>9223372036854775808
theorem ZN (k:IntKind):(Bn k:Int)=2^k.bits:=by cases k<;>decide
theorem aoJ (k:IntKind):Bn k=2^k.bits:=by cases k<;>decide
theorem aoK (k:IntKind):(Jo k:Int)=2^(k.bits-1):=by cases k<;>decide
theorem agc (k:IntKind):0<Bn k:=by cases k<;>decide
def yj (k:IntKind) (n:Int):Nat:=match n with
 | .ofNat m=>m%Bn k
 | .negSucc m=>Bn k-1-m%Bn k
theorem ZO (k:IntKind) (n:Int):(yj k n:Int)=n%2^k.bits:=by
 rw[<- ZN];have:=agc k
 cases n with
 | ofNat m=>simp[yj]
 | negSucc m =>
  have h:=Nat.mod_lt m this;simp only[yj];rw[Int.negSucc_emod _ (by omega)];have h2:((m:Int)%(Bn k:Int))=((m%Bn k:Nat):Int):=by simp
  omega
theorem KF (k:IntKind) (n:Int):(BitVec.ofInt k.bits n).toNat=yj k n:=by
 rw[BitVec.toNat_ofInt];have:=ZO k n;have h2:((2^k.bits:Nat):Int)=2^k.bits:=by simp
 rw[h2,<- this];simp
def agd (k:IntKind) (r:Nat):Int:=match k.signed with
 | true=>match Nat.ble (Jo k) r with|true=>Int.subNatNat r (Bn k)|false=>.ofNat r
 | false=>.ofNat r
def zC (k:IntKind) (n:Int):Int:=agd k (yj k n)
theorem yJ (k:IntKind) (n:Int):zC k n=k.wrap n:=by
 unfold zC agd IntKind.wrap;have h:=ZO k n;rw[<- ZN,<- aoK] at *
 rw[<- h]
 cases hs:k.signed with
 | false=>simp
 | true =>
  simp only[Bool.true_and]
  cases hb:Nat.ble (Jo k) (yj k n) with
  | true =>
   have:Jo k<=yj k n:=Nat.le_of_ble_eq_true hb;rw[if_pos (by simp;omega),Int.subNatNat_eq_coe]
  | false =>
   have:¬ Jo k<=yj k n:=λe=>by rw[Nat.ble_eq_true_of_le e] at hb;cases hb
   rw[if_neg (by simp;omega)];rfl
def O3 (n:Nat) (k:IntKind):Nat:=match Nat.ble n k.bits with|true=>n|false=>k.bits
theorem ZP (n:Nat) (k:IntKind):O3 n k=min n k.bits:=by
 unfold O3
 cases h:Nat.ble n k.bits with
 | true=>have:=Nat.le_of_ble_eq_true h;simp;omega
 | false =>
  have:¬ n<=k.bits:=λe=>by rw[Nat.ble_eq_true_of_le e] at h;cases h
  simp;omega
def zQ:Int->Int->Bool
 | .ofNat m,.ofNat n=>Nat.beq m n
 | .negSucc m,.negSucc n=>Nat.beq m n
 | _,_=>false
def Bo:Int->Int->Bool
 | .ofNat m,.ofNat n=>Nat.blt m n
 | .negSucc m,.negSucc n=>Nat.blt n m
 | .negSucc _,.ofNat _=>true
 | .ofNat _,.negSucc _=>false
theorem MH (a b:Int):zQ a b=(a==b):=by
 cases a with
 | ofNat m=>cases b with
  | ofNat n =>
   simp only[zQ];rw[Bool.eq_iff_iff,Nat.beq_eq,beq_iff_eq];exact⟨λh=>by rw[h],λh=>Int.ofNat.inj h⟩
  | negSucc n=>simp only[zQ];rw[eq_comm,beq_eq_false_iff_ne];intro h;cases h
 | negSucc m=>cases b with
  | ofNat n=>simp only[zQ];rw[eq_comm,beq_eq_false_iff_ne];intro h;cases h
  | negSucc n =>
   simp only[zQ];rw[Bool.eq_iff_iff,Nat.beq_eq,beq_iff_eq];omega
theorem Em (a b:Int):Bo a b=decide (a<b):=by cases a<;>cases b<;>simp only[Bo]<;>rw[Bool.eq_iff_iff]<;>simp[Nat.blt_eq]<;>omega
def FK (b:Bool):Bool:=match b with|true=>false|false=>true
theorem En (b:Bool):FK b = !b:=by cases b<;>rfl
def fold (op:BinOp) (k:IntKind) (a b:Int):Int:=match op with
 | .shl=>match a,b with
  | .ofNat m,.ofNat n=>zC k (.ofNat (Nat.shiftLeft m (O3 n k)))
  | a,b=>wJ .shl k a b
 | .shr=>match a,b with
  | .ofNat m,.ofNat n=>.ofNat (Nat.shiftRight m (O3 n k))
  | a,b=>wJ .shr k a b
 | .add=>zC k (Int.add a b)
 | .sub=>zC k (Int.sub a b)
 | .mul=>zC k (Int.mul a b)
 | .quo=>zC k (Int.tdiv a b)
 | .rem=>Int.tmod a b
 | .and=>zC k (.ofNat (Nat.land (yj k a) (yj k b)))
 | .or=>zC k (.ofNat (Nat.lor (yj k a) (yj k b)))
 | .xor=>zC k (.ofNat (Nat.xor (yj k a) (yj k b)))
 | .andNot=>zC k (.ofNat (Nat.land (yj k a) (Bn k-1-yj k b)))
 | .eql=>wh (zQ a b)
 | .neq=>wh (FK (zQ a b))
 | .lss=>wh (Bo a b)
 | .leq=>wh (FK (Bo b a))
 | .gtr=>wh (Bo b a)
 | .geq=>wh (FK (Bo a b))
theorem Jp (op:BinOp) (k:IntKind) (a b:Int):fold op k a b=wJ op k a b:=by
 cases op
 case shl =>
  simp only[fold];split
  ·rename_i m n;rw[yJ,ZP];show k.wrap (Int.ofNat (m <<< _))=k.wrap (Int.ofNat m*2^min n k.bits);rw[Nat.shiftLeft_eq];congr 1
  ·rfl
 case shr =>
  simp only[fold];split
  ·rename_i m n;rw[ZP];show Int.ofNat (m >>> _)=(Int.ofNat m).fdiv (2^min n k.bits);rw[Nat.shiftRight_eq_div_pow,Int.fdiv_eq_ediv_of_nonneg _ (Int.pow_nonneg (by decide))];simp
  ·rfl
 case add=>exact yJ _ _
 case sub=>exact yJ _ _
 case mul=>exact yJ _ _
 case quo=>exact yJ _ _
 case rem=>rfl
 case and=>simp only[fold,wJ,ES];rw[yJ,BitVec.toNat_and,KF,KF];rfl
 case or=>simp only[fold,wJ,ES];rw[yJ,BitVec.toNat_or,KF,KF];rfl
 case xor=>simp only[fold,wJ,ES];rw[yJ,BitVec.toNat_xor,KF,KF];rfl
 case andNot=>simp only[fold,wJ,ES];rw[yJ,BitVec.toNat_and,BitVec.toNat_not,KF,KF,<- aoJ];rfl
 case eql=>simp only[fold,wJ,MH]
 case neq=>simp only[fold,wJ,MH,En,bne]
 case lss=>simp only[fold,wJ,Em]
 case leq=>simp only[fold,wJ,Em,En];congr 1;rw[Bool.eq_iff_iff];simp
 case gtr=>simp only[fold,wJ,Em,gt_iff_lt]
 case geq=>simp only[fold,wJ,Em,En];congr 1;rw[Bool.eq_iff_iff];simp
def ZQ:IntKind->IntKind->Bool
 | .u8,.u8=>true | .u8,.u16=>true | .u8,.u32=>true | .u8,.u64=>true | .u8,.i16=>true | .u8,.i32=>true | .u8,.i64=>true
 | .u16,.u16=>true | .u16,.u32=>true | .u16,.u64=>true | .u16,.i32=>true | .u16,.i64=>true
 | .u32,.u32=>true | .u32,.u64=>true | .u32,.i64=>true
 | .u64,.u64=>true
 | .i8,.i8=>true | .i8,.i16=>true | .i8,.i32=>true | .i8,.i64=>true
 | .i16,.i16=>true | .i16,.i32=>true | .i16,.i64=>true
 | .i32,.i32=>true | .i32,.i64=>true
 | .i64,.i64=>true
 | _,_=>false
theorem age {a b:IntKind} (h:ZQ a b=true) (n:Int):b.wrap (a.wrap n)=a.wrap n:=by unfold IntKind.wrap IntKind.bits IntKind.signed;cases a<;>cases b<;>first|(cases h;done)|(simp<;>(try split)<;>(try split)<;>omega)
def zm (op:BinOp) (k:IntKind) (a b:X):X:=match a,b with
 | .lit x,.lit y=>ME (fold op k x y) .lit
 | a,b=>.bin op k a b
theorem KG (s:wF) (op:BinOp) (k:IntKind) (a b:X):(zm op k a b).den s=wJ op k (a.den s) (b.den s):=by
 unfold zm;split
 ·rw[MF,X.den,Jp];rfl
 ·rfl
def ZR (k:IntKind) (a:X):X:=match a with
 | .lit x=>ME (zC k x) .lit
 | .var (.int k') i=>match ZQ k' k with|true=>.var (.int k') i|false=>.conv k (.var (.int k') i)
 | a=>.conv k a
theorem aoL (s:wF) (k:IntKind) (a:X):(ZR k a).den s=k.wrap (a.den s):=by
 unfold ZR;split
 ·rw[MF,X.den,yJ];rfl
 ·split
  ·rename_i h;exact(age h _).symm
  ·rfl
 ·rfl
def VV (k:IntKind) (a:X):X:=match a with
 | .lit x=>ME (fold .xor k (match k.signed with|true => -1|false=>.ofNat (Bn k-1)) x) .lit
 | a=>.com k a
theorem agf (s:wF) (k:IntKind) (a:X):(VV k a).den s=Tx k (a.den s):=by
 unfold VV;split
 ·rw[MF,X.den,Jp];unfold Tx wJ IntKind.max
  cases hs:k.signed with
  | true=>simp[X.den]
  | false =>
   simp only[Bool.false_eq_true,if_false,X.den];have h1:=ZN k;have h2:=agc k;congr 1;rw[<- h1];simp;omega
 ·rfl
def ww (n:Int):Bool:=match n with | .ofNat 0=>false|_=>true
theorem zR (n:Int):ww n=(n != 0):=by
 unfold ww;split
 ·rfl
 ·rename_i h;rw[eq_comm,bne_iff_ne];intro e;exact h (by rw[e];rfl)
def mkNot (a:X):X:=match a with
 | .lit x=>.lit (wh (FK (ww x)))
 | a=>.not a
theorem ZT (s:wF) (a:X):(mkNot a).den s=wh (!(a.den s != 0)):=by
 unfold mkNot;split
 ·rw[X.den,En,zR];rfl
 ·rfl
def mkAnd (a b:X):X:=match a with
 | .lit x=>match ww x with
  | true=>match b with
   | .lit y=>.lit (wh (ww y))
   | b=>.and a b
  | false=>.lit 0
 | a=>.and a b
theorem aoM (s:wF) (a b:X):(mkAnd a b).den s=wh (a.den s != 0&&b.den s != 0):=by
 unfold mkAnd;split
 ·rename_i x;split
  ·rename_i hx;rw[zR] at hx;split
   ·rw[X.den,X.den,X.den,hx,zR];rfl
   ·rfl
  ·rename_i hx;rw[zR] at hx;simp only[X.den];rw[hx];rfl
 ·rfl
def VW (a b:X):X:=match a,b with
 | .lit x,.lit y=>.lit (wh (match ww x with|true=>ww y|false=>FK (ww y)))
 | a,b=>.beq a b
theorem agh (s:wF) (a b:X):(VW a b).den s=wh ((a.den s != 0)==(b.den s != 0)):=by
 unfold VW;split
 ·rename_i x y;simp only[X.den,zR,En];cases hx:(x != 0)<;>cases hy:(y != 0)<;>rfl
 ·rfl
def ZU (a b:X):X:=match a,b with
 | .lit x,.lit y=>match Bo y x with|true=>.lit y|false=>.lit x
 | a,b=>.min a b
theorem aoN (s:wF) (a b:X):(ZU a b).den s=if b.den s<a.den s then b.den s else a.den s:=by
 unfold ZU;split
 ·rename_i x y;show _=if y<x then y else x;rw[Em];by_cases h:y<x
  ·rw[if_pos h,decide_eq_true h];rfl
  ·rw[if_neg h,decide_eq_false h];rfl
 ·rfl
def VX (a b:X):X:=match a,b with
 | .lit x,.lit y=>match Bo x y with|true=>.lit y|false=>.lit x
 | a,b=>.max a b
theorem agi (s:wF) (a b:X):(VX a b).den s=if b.den s>a.den s then b.den s else a.den s:=by
 unfold VX;split
 ·rename_i x y;show _=if x<y then y else x;rw[Em];by_cases h:x<y
  ·rw[if_pos h,decide_eq_true h];rfl
  ·rw[if_neg h,decide_eq_false h];rfl
 ·rfl
def MI (c a b:X):X:=match c with
 | .lit n=>match ww n with|true=>a|false=>b
 | c=>match a,b with
  | .lit x,.lit y=>match zQ x y with|true=>.lit x|false=>.ite c (.lit x) (.lit y)
  | a,b=>.ite c a b
theorem Ty (s:wF) (c a b:X):(MI c a b).den s=if c.den s=0 then b.den s else a.den s:=by
 unfold MI;split
 ·rename_i n;show _=if n=0 then b.den s else a.den s;split
  ·rename_i h;rw[zR,bne_iff_ne] at h;rw[if_neg h]
  ·rename_i h;rw[zR,bne_eq_false_iff_eq] at h;rw[if_pos h]
 ·split
  ·rename_i x y;split
   ·rename_i h;rw[MH,beq_iff_eq] at h;subst h;show x=if _ then x else x;split<;>rfl
   ·rfl
  ·rfl
def ZV (k:IntKind) (n:Int):Bool:=zQ (zC k n) n
def AC:IntKind->IntKind->Bool
 | .i8,.i8=>true | .i16,.i16=>true | .i32,.i32=>true | .i64,.i64=>true
 | .u8,.u8=>true | .u16,.u16=>true | .u32,.u32=>true | .u64,.u64=>true
 | _,_=>false
theorem Cu {a b:IntKind} (h:AC a b=true):a=b:=by cases a<;>cases b<;>first|rfl|cases h
def X.inK (k:IntKind):X->Bool
 | .lit n=>ZV k n
 | .var (.int k') _=>ZQ k' k
 | .var .bit _=>AC k .u64
 | .bin op k' a b=>match op with
  | .add | .sub | .mul | .quo | .shl | .and | .or | .xor | .andNot=>AC k k'
  | .shr=>X.inK k a
  | .rem=>X.inK k a
  | _=>false
 | .conv k' _=>AC k k'
 | .com k' _=>AC k k'
 | .min a b=>match X.inK k a with|true=>X.inK k b|false=>false
 | .max a b=>match X.inK k a with|true=>X.inK k b|false=>false
 | .ite _ a b=>match X.inK k a with|true=>X.inK k b|false=>false
 | _=>false
theorem wrap_wrap (k:IntKind) (n:Int):k.wrap (k.wrap n)=k.wrap n:=by unfold IntKind.wrap IntKind.bits IntKind.signed;cases k<;>simp<;>(try split)<;>(try split)<;>omega
theorem aoO (k:IntKind) (n:Int) (m:Nat) (h:k.wrap n=n):k.wrap (n.fdiv (2^m))=n.fdiv (2^m):=by
 rw[Int.fdiv_eq_ediv_of_nonneg _ (Int.pow_nonneg (by decide))];have hp:(0:Int)<2^m:=Int.pow_pos (by decide);generalize (2:Int)^m=p at hp;have h1:0<=n->0<=n/p/\n/p<=n:=λhn=>⟨Int.ediv_nonneg hn (by omega),Int.ediv_le_self _ hn⟩
 have h2:n<0->n<=n/p/\n/p<0:=λhn=>⟨by
  have h3:=Int.mul_ediv_add_emod n p;have h4:=Int.emod_nonneg n (show p≠0 by omega);have h5:=Int.emod_lt_of_pos n hp;have:n/p<0:=Int.ediv_neg_of_neg_of_pos hn hp;have:p*(n/p)<=1*(n/p):=Int.mul_le_mul_of_nonpos_right (by omega) (by omega);apply Int.le_of_lt_add_one;have h6:n<p*(n/p)+p:=by omega
  have h7:p*(n/p)+p<=(n/p)+1:=by have:p*(n/p+1)<=1*(n/p+1):=Int.mul_le_mul_of_nonpos_right (by omega) (by omega);rw[Int.mul_add,Int.mul_one] at this;omega
  omega,Int.ediv_neg_of_neg_of_pos hn hp⟩
 unfold IntKind.wrap IntKind.bits IntKind.signed at *
 cases k<;>simp at h ⊢ <;> (rcases Int.lt_or_le n 0 with hn|hn)<;>first
  | (have:=h2 hn;split at h<;>(try split)<;>omega)
  | (have:=h1 hn;split at h<;>(try split)<;>omega)
  | (have:=h2 hn;omega)
  | (have:=h1 hn;omega)
theorem aoP (k:IntKind) (n m:Int) (h:k.wrap n=n):k.wrap (n.tmod m)=n.tmod m:=by
 have h1:0<=n->0<=n.tmod m/\n.tmod m<=n:=λhn=>by
  obtain⟨a,rfl⟩:=Int.eq_ofNat_of_zero_le hn
  have:(a:Int).tmod m=((a%m.natAbs:Nat):Int):=by
   rcases Int.natAbs_eq m with e|e
   ·rw[e];simp only[Int.natAbs_natCast];rfl
   ·rw[e];simp only[Int.natAbs_neg,Int.natAbs_natCast,Int.tmod_neg];rfl
  rw[this];have:=Nat.mod_le a m.natAbs;omega
 have h2:n<0->n<=n.tmod m/\n.tmod m<=0:=λhn=>by
  obtain⟨a,ha⟩:=Int.eq_ofNat_of_zero_le (show 0 <= -n by omega);have hn2:n = -(a:Int):=by omega
  rw[hn2,Int.neg_tmod]
  have:(a:Int).tmod m=((a%m.natAbs:Nat):Int):=by
   rcases Int.natAbs_eq m with e|e
   ·rw[e];simp only[Int.natAbs_natCast];rfl
   ·rw[e];simp only[Int.natAbs_neg,Int.natAbs_natCast,Int.tmod_neg];rfl
  rw[this];have:=Nat.mod_le a m.natAbs;omega
 generalize n.tmod m=r at *
 unfold IntKind.wrap IntKind.bits IntKind.signed at *
 cases k<;>simp at h ⊢ <;> (rcases Int.lt_or_le n 0 with hn|hn)<;>first
  | (have:=h2 hn;split at h<;>(try split)<;>omega)
  | (have:=h1 hn;split at h<;>(try split)<;>omega)
  | (have:=h2 hn;omega)
  | (have:=h1 hn;omega)
theorem X.aCx {k:IntKind} (s:wF):∀ {x:X},x.inK k=true->k.wrap (x.den s)=x.den s
 | .lit n,h=>by have h':ZV k n=true:=h;unfold ZV at h';rw[MH,yJ,beq_iff_eq] at h';exact h'
 | .var (.int k') i,h=>age h _
 | .var .bool i,h=>by cases h
 | .var .nat i,h=>by cases h
 | .dlen a,h=>by cases h
 | .var .bit i,h=>by have:=Cu (show AC k .u64=true from h);subst this;simp only[X.den,VK.norm];cases (s i != 0)<;>rfl
 | .bin op k' a b,h=>by
  cases op<;>simp only[X.inK] at h<;>first
   | cases h
   | (have:=Cu h;subst this;simp only[X.den,wJ,ES];exact wrap_wrap _ _)
   | (simp only[X.den,wJ];exact aoO _ _ _ (X.aCx s h))
   | (simp only[X.den,wJ];exact aoP _ _ _ (X.aCx s h))
 | .conv k' a,h=>by have:=Cu h;subst this;exact wrap_wrap _ _
 | .com k' a,h=>by have:=Cu h;subst this;exact wrap_wrap _ _
 | .not a,h=>by cases h
 | .and a b,h=>by cases h
 | .beq a b,h=>by cases h
 | .min a b,h=>by
  simp only[X.inK] at h;split at h
  ·rename_i h1;simp only[X.den];split
   ·exact X.aCx s h
   ·exact X.aCx s h1
  ·cases h
 | .max a b,h=>by
  simp only[X.inK] at h;split at h
  ·rename_i h1;simp only[X.den];split
   ·exact X.aCx s h
   ·exact X.aCx s h1
  ·cases h
 | .ite c a b,h=>by
  simp only[X.inK] at h;split at h
  ·rename_i h1;simp only[X.den];split
   ·exact X.aCx s h
   ·exact X.aCx s h1
  ·cases h
def X.axw:X->Bool
 | .lit n=>match zQ n (.ofNat 0) with|true=>true|false=>zQ n (.ofNat 1)
 | .var .bit _=>true
 | .ite _ a b=>match X.axw a with|true=>X.axw b|false=>false
 | _=>false
theorem X.aC9 (s:wF):∀ {x:X},x.axw=true->x.den s=wh (x.den s != 0)
 | .lit n,h=>by
  simp only[X.axw,MH] at h;split at h
  ·rename_i h1;rw[beq_iff_eq] at h1;subst h1;rfl
  ·rw[beq_iff_eq] at h;subst h;rfl
 | .var .bit i,_=>by simp only[X.den,VK.norm];cases (s i != 0)<;>rfl
 | .var (.int _) i,h=>by simp[X.axw] at h
 | .var .bool i,h=>by simp[X.axw] at h
 | .var .nat i,h=>by simp[X.axw] at h
 | .dlen a,h=>by simp[X.axw] at h
 | .ite c a b,h=>by
  simp only[X.axw] at h;split at h
  ·rename_i h1;simp only[X.den];split
   ·exact X.aC9 s h
   ·exact X.aC9 s h1
  ·cases h
 | .bin _ _ _ _,h=>by simp[X.axw] at h
 | .conv _ _,h=>by simp[X.axw] at h
 | .com _ _,h=>by simp[X.axw] at h
 | .not _,h=>by simp[X.axw] at h
 | .and _ _,h=>by simp[X.axw] at h
 | .beq _ _,h=>by simp[X.axw] at h
 | .min _ _,h=>by simp[X.axw] at h
 | .max _ _,h=>by simp[X.axw] at h
inductive vU (α:Type) where
 | leaf (a:α)
 | ite (c:X) (a b:vU α)
 | call (f:Nat) (args:List X) (base n:Nat) (t:vU α)
 | stuck (why:String)
abbrev yE:=Nat->List Int->List Int
def Au (s:wF) (base:Nat):Nat->List Int
 | 0=>[]
 | n+1=>s base::Au s (base+1) n
theorem Jq (s:wF):∀ (n b:Nat),(Au s b n).length=n
 | 0,_=>rfl
 | n+1,b=>by rw[Au,List.length_cons,Jq s n]
def MJ (Φ:yE) (s:wF) (f:Nat) (args:List X) (base n:Nat):Prop:=Au s base n=Φ f (args.map (X.den s))
instance (Φ:yE) (s:wF) (f:Nat) (args:List X) (base n:Nat):Decidable (MJ Φ s f args base n):=inferInstanceAs (Decidable (_=_))
def vU.path {α:Type} (Φ:yE) (s:wF):vU α->Option α
 | .leaf a=>some a
 | .ite c a b=>if c.den s=0 then b.path Φ s else a.path Φ s
 | .call f args base n t=>if MJ Φ s f args base n then t.path Φ s else none
 | .stuck _=>none
def vU.bind {α β:Type} : vU α->(α->vU β)->vU β
 | .leaf a,f=>f a
 | .ite c a b,f=>.ite c (a.bind f) (b.bind f)
 | .call g args base n t,f=>.call g args base n (t.bind f)
 | .stuck w,_=>.stuck w
theorem vU.aCN {α β:Type} (Φ:yE) (s:wF) (f:α->vU β):∀ t:vU α,(t.bind f).path Φ s=(t.path Φ s).bind λa=>(f a).path Φ s
 | .leaf a=>rfl
 | .ite c a b=>by
  simp only[vU.bind,vU.path];split
  ·exact vU.aCN Φ s f b
  ·exact vU.aCN Φ s f a
 | .call g args base n t=>by
  simp only[vU.bind,vU.path];split
  ·exact vU.aCN Φ s f t
  ·rfl
 | .stuck w=>rfl
theorem vU.abA {α β:Type} {Φ:yE} {s:wF} {f:α->vU β} {t:vU α} {b:β} (h:(t.bind f).path Φ s=some b):∃ a,t.path Φ s=some a/\(f a).path Φ s=some b:=by
 rw[vU.aCN] at h
 cases ht:t.path Φ s with
 | none=>rw[ht] at h;cases h
 | some a=>rw[ht] at h;exact⟨a,rfl,h⟩
def O4 {α:Type} (c:X) (a b:vU α):vU α:=match c with
 | .lit n=>match ww n with|true=>a|false=>b
 | c=>.ite c a b
theorem ZW {α:Type} (Φ:yE) (s:wF) (c:X) (a b:vU α):(O4 c a b).path Φ s=if c.den s=0 then b.path Φ s else a.path Φ s:=by
 unfold O4;split
 ·rename_i n;show _=if n=0 then b.path Φ s else a.path Φ s;split
  ·rename_i h;rw[zR,bne_iff_ne] at h;rw[if_neg h]
  ·rename_i h;rw[zR,bne_eq_false_iff_eq] at h;rw[if_pos h]
 ·rfl
theorem xO {a b:Nat} : Nat.beq a b=true↔a=b:=by rw[Nat.beq_eq]
def ZX:VK->VK->Bool
 | .int k,.int k'=>AC k k'
 | .bool,.bool=>true
 | .bit,.bit=>true
 | .nat,.nat=>true
 | _,_=>false
def Tz:BinOp->Nat
 | .add=>0 | .sub=>1 | .mul=>2 | .quo=>3 | .rem=>4 | .and=>5 | .or=>6 | .xor=>7 | .shl=>8 | .shr=>9 | .andNot=>10
 | .eql=>11 | .neq=>12 | .lss=>13 | .leq=>14 | .gtr=>15 | .geq=>16
def xY (a:Bool) (b:Bool):Bool:=match a with|true=>b|false=>false
def AJ:X->X->Bool
 | .lit m,.lit n=>zQ m n
 | .var k i,.var k' j=>xY (Nat.beq i j) (ZX k k')
 | .bin o k a b,.bin o' k' a' b'=>xY (Nat.beq (Tz o) (Tz o')) (xY (AC k k') (xY (AJ a a') (AJ b b')))
 | .conv k a,.conv k' a'=>xY (AC k k') (AJ a a')
 | .com k a,.com k' a'=>xY (AC k k') (AJ a a')
 | .not a,.not a'=>AJ a a'
 | .and a b,.and a' b'=>xY (AJ a a') (AJ b b')
 | .beq a b,.beq a' b'=>xY (AJ a a') (AJ b b')
 | .min a b,.min a' b'=>xY (AJ a a') (AJ b b')
 | .max a b,.max a' b'=>xY (AJ a a') (AJ b b')
 | .ite c a b,.ite c' a' b'=>xY (AJ c c') (xY (AJ a a') (AJ b b'))
 | .dlen a,.dlen a'=>AJ a a'
 | _,_=>false
abbrev Facts:=List (X×Bool)
def KH:Facts->X->Option Bool
 | [],_=>none
 | x::l,c=>match AJ x.1 c with|true=>some x.2|false=>KH l c
def O5 (fc:Facts) (c:X) (b:Bool):Facts:=match c with
 | .not a=>(a,FK b)::fc
 | c=>(c,b)::fc
def xS (s:wF) (fc:Facts):Prop:=∀ x∈fc,(x.1.den s != 0)=x.2
theorem aoQ {a b:VK} (h:ZX a b=true):a=b:=by cases a<;>cases b<;>first|rfl|(simp only[ZX] at h;rw[Cu h])|cases h
theorem aoR {a b:BinOp} (h:Tz a=Tz b):a=b:=by cases a<;>cases b<;>first|rfl|(simp[Tz] at h)
theorem xH {a b:Bool} (h:xY a b=true):a=true/\b=true:=by
 cases a with
 | true=>exact⟨rfl,h⟩
 | false=>cases h
theorem BK:∀ {a b:X},AJ a b=true->a=b
 | .lit m,.lit n,h=>by simp only[AJ,MH,beq_iff_eq] at h;rw[h]
 | .var k i,.var k' j,h=>by have h:=xH h;rw[xO.1 h.1,aoQ h.2]
 | .bin o k a b,.bin o' k' a' b',h=>by have h:=xH h;have h2:=xH h.2;have h3:=xH h2.2;rw[aoR (xO.1 h.1),Cu h2.1,BK h3.1,BK h3.2]
 | .conv k a,.conv k' a',h=>by have h:=xH h;rw[Cu h.1,BK h.2]
 | .com k a,.com k' a',h=>by have h:=xH h;rw[Cu h.1,BK h.2]
 | .not a,.not a',h=>by rw[BK (a:=a) (b:=a') h]
 | .and a b,.and a' b',h=>by have h:=xH h;rw[BK h.1,BK h.2]
 | .beq a b,.beq a' b',h=>by have h:=xH h;rw[BK h.1,BK h.2]
 | .min a b,.min a' b',h=>by have h:=xH h;rw[BK h.1,BK h.2]
 | .max a b,.max a' b',h=>by have h:=xH h;rw[BK h.1,BK h.2]
 | .ite c a b,.ite c' a' b',h=>by have h:=xH h;have h2:=xH h.2;rw[BK h.1,BK h2.1,BK h2.2]
 | .dlen a,.dlen a',h=>by rw[BK (a:=a) (b:=a') h]
theorem FL {s:wF} : ∀ {fc:Facts} {c:X} {b:Bool},xS s fc->KH fc c=some b->(c.den s != 0)=b
 | [],c,b,_,h=>by cases h
 | x::l,c,b,hf,h=>by
  simp only[KH] at h;split at h
  ·rename_i he;cases h;rw[<- BK he];exact hf x List.mem_cons_self
  ·exact FL (λy hy=>hf y (List.mem_cons_of_mem _ hy)) h
theorem ZY {s:wF} {fc:Facts} {c:X} {b:Bool} (hf:xS s fc) (h:(c.den s != 0)=b):xS s (O5 fc c b):=by
 unfold O5;split
 ·rename_i a;rw[X.den,yX] at h;intro x hx;rcases List.mem_cons.1 hx with rfl|hx
  ·simp only[En,<- h,Bool.not_not]
  ·exact hf x hx
 ·intro x hx;rcases List.mem_cons.1 hx with rfl|hx
  ·exact h
  ·exact hf x hx
abbrev CQ:=Int×Int
def CS:IntKind->Int
 | .i8 => -128 | .i16 => -32768 | .i32 => -2147483648 | .i64 => -9223372036854775808|_=>0
def CU:IntKind->Int
 | .i8=>127 | .i16=>32767 | .i32=>2147483647 | .i64=>9223372036854775807
 | .u8=>255 | .u16=>65535 | .u32=>4294967295 | .u64=>18446744073709551615
theorem GI (k:IntKind) (n:Int):CS k<=k.wrap n/\k.wrap n<=CU k:=by unfold IntKind.wrap IntKind.bits IntKind.signed CS CU;cases k<;>simp<;>(try split)<;>(constructor<;>omega)
def FM (a b:Int):Bool:=FK (Bo b a)
theorem O6 {a b:Int} (h:FM a b=true):a<=b:=by unfold FM at h;rw[En,Em] at h;simpa using h
theorem Z6 {a b:Int} (h:Bo a b=true):a<b:=by rw[Em] at h;simpa using h
theorem O7 {a b:Int} (h:zQ a b=true):a=b:=by rw[MH] at h;simpa using h
def FN (a b:Int):Int:=match FM a b with|true=>a|false=>b
def FO (a b:Int):Int:=match FM a b with|true=>b|false=>a
theorem Z7 {a b n:Int} (h1:n<=a) (h2:n<=b):n<=FN a b:=by unfold FN;split<;>assumption
theorem Z8 {a b n:Int} (h1:a<=n) (h2:b<=n):FO a b<=n:=by unfold FO;split<;>assumption
theorem agj (a b:Int):FN a b<=a/\FN a b<=b:=by
 unfold FN;split
 ·rename_i h;exact⟨Int.le_refl _,O6 h⟩
 ·rename_i h;unfold FM at h;rw[En,Em] at h;simp at h;omega
theorem agk (a b:Int):a<=FO a b/\b<=FO a b:=by
 unfold FO;split
 ·rename_i h;exact⟨O6 h,Int.le_refl _⟩
 ·rename_i h;unfold FM at h;rw[En,Em] at h;simp at h;omega
def BL (r:CQ) (n:Int):Prop:=r.1<=n/\n<=r.2
def TD (k:IntKind) (lo hi:Int):CQ:=match xY (FM (CS k) lo) (FM hi (CU k)) with|true=>(lo,hi)|false=>(CS k,CU k)
theorem VY {k:IntKind} {n:Int} (h1:CS k<=n) (h2:n<=CU k):k.wrap n=n:=by
 unfold IntKind.wrap IntKind.bits IntKind.signed CS CU at *
 cases k<;>simp at h1 h2 ⊢ <;> (try split)<;>omega
theorem Z9 {k:IntKind} {lo hi n:Int} (h:BL (lo,hi) n):BL (TD k lo hi) (k.wrap n):=by
 unfold TD;split
 ·rename_i he;have he:=xH he;have h1:=O6 he.1;have h2:=O6 he.2;rw[VY (Int.le_trans h1 h.1) (Int.le_trans h.2 h2)];exact h
 ·exact GI k n
def aaa (op:BinOp) (c:Int) (b:Bool) (r:CQ):CQ:=match op,b with
 | .lss,true=>(r.1,FN r.2 (c-1))
 | .lss,false=>(FO r.1 c,r.2)
 | .leq,true=>(r.1,FN r.2 c)
 | .leq,false=>(FO r.1 (c+1),r.2)
 | .gtr,true=>(FO r.1 (c+1),r.2)
 | .gtr,false=>(r.1,FN r.2 c)
 | .geq,true=>(FO r.1 c,r.2)
 | .geq,false=>(r.1,FN r.2 (c-1))
 | .eql,true=>(c,c)
 | .neq,false=>(c,c)
 | .eql,false=>(match zQ r.1 c with|true=>c+1|false=>r.1,match zQ r.2 c with|true=>c-1|false=>r.2)
 | .neq,true=>(match zQ r.1 c with|true=>c+1|false=>r.1,match zQ r.2 c with|true=>c-1|false=>r.2)
 | _,_=>r
theorem aoS {op:BinOp} {k:IntKind} {c n:Int} {b:Bool} {r:CQ} (h:BL r n) (hf:(wJ op k n c != 0)=b):BL (aaa op c b r) n:=by
 have ne:n≠c->BL (match zQ r.1 c with|true=>c+1|false=>r.1,match zQ r.2 c with|true=>c-1|false=>r.2) n:=λhn=>by
  obtain⟨h1,h2⟩:=h;constructor
  ·simp only;split
   ·rename_i he;have:=O7 he;omega
   ·exact h1
  ·simp only;split
   ·rename_i he;have:=O7 he;omega
   ·exact h2
 cases op<;>simp only[wJ,yX] at hf<;>cases b<;>simp only[aaa]<;>first
  | exact h
  | (simp at hf;exact ne hf)
  | (simp at hf;subst hf;exact⟨Int.le_refl _,Int.le_refl _⟩)
  | (simp at hf;exact⟨h.1,Z7 h.2 (by omega)⟩)
  | (simp at hf;exact⟨Z8 h.1 (by omega),h.2⟩)
def aab (x:X) (f:X×Bool) (r:CQ):CQ:=match f.1 with
 | .bin op _ a (.lit c)=>match AJ a x with|true=>aaa op c f.2 r|false=>r
 | _=>r
def O8 (x:X):Facts->CQ->CQ
 | [],r=>r
 | f::fc,r=>aab x f (O8 x fc r)
theorem aac {s:wF} {x:X} : ∀ {fc:Facts} {r:CQ},xS s fc->BL r (x.den s)->BL (O8 x fc r) (x.den s)
 | [],r,_,h=>h
 | f::fc,r,hf,h=>by
  have ih:BL (O8 x fc r) (x.den s):=aac (λy hy=>hf y (List.mem_cons_of_mem _ hy)) h;show BL (aab x f (O8 x fc r)) _;unfold aab;split
  ·rename_i op k a c hc;split
   ·rename_i he;have:=BK he;subst this;have hf0:=hf f List.mem_cons_self;rw[hc] at hf0;exact aoS ih hf0
   ·exact ih
  ·exact ih
def Dg (x:X) (fc:Facts) (r:CQ):CQ:=O8 x fc (O8 x fc r)
theorem DR {s:wF} {x:X} {fc:Facts} {r:CQ} (hf:xS s fc) (h:BL r (x.den s)):BL (Dg x fc r) (x.den s):=aac hf (aac hf h)
def Bp (fc:Facts):X->Option CQ
 | .lit n=>some (n,n)
 | .var k i=>match k with
  | .int k=>some (Dg (.var (.int k) i) fc (CS k,CU k))
  | .nat=>none
  | _=>some (Dg (.var k i) fc (.ofNat 0,.ofNat 1))
 | .bin op k a b=>match op with
  | .add=>match Bp fc a,Bp fc b with
   | some x,some y=>some (Dg (.bin .add k a b) fc (TD k (x.1+y.1) (x.2+y.2)))
   | _,_=>some (Dg (.bin .add k a b) fc (CS k,CU k))
  | .sub=>match Bp fc a,Bp fc b with
   | some x,some y=>some (Dg (.bin .sub k a b) fc (TD k (x.1-y.2) (x.2-y.1)))
   | _,_=>some (Dg (.bin .sub k a b) fc (CS k,CU k))
  | .mul | .quo | .shl | .or | .xor | .andNot=>some (Dg (.bin op k a b) fc (CS k,CU k))
  | .and=>match b with
   | .lit (.ofNat n)=>match Bo (.ofNat n) (.ofNat (Jo k)) with
    | true=>some (Dg (.bin .and k a (.lit (.ofNat n))) fc (.ofNat 0,.ofNat n))
    | false=>some (Dg (.bin .and k a (.lit (.ofNat n))) fc (CS k,CU k))
   | b=>some (Dg (.bin .and k a b) fc (CS k,CU k))
  | .shr=>match Bp fc a,b with
   | some x,.lit (.ofNat n)=>some (Dg (.bin .shr k a (.lit (.ofNat n))) fc (x.1.fdiv (2^O3 n k),x.2.fdiv (2^O3 n k)))
   | _,_=>none
  | .rem=>none
  | _=>some (.ofNat 0,.ofNat 1)
 | .conv k a=>match Bp fc a with
  | some x=>some (Dg (.conv k a) fc (TD k x.1 x.2))
  | none=>some (Dg (.conv k a) fc (CS k,CU k))
 | .com k _=>some (CS k,CU k)
 | .not _=>some (.ofNat 0,.ofNat 1)
 | .and _ _=>some (.ofNat 0,.ofNat 1)
 | .beq _ _=>some (.ofNat 0,.ofNat 1)
 | .min a b=>match Bp fc a,Bp fc b with
  | some x,some y=>some (Dg (.min a b) fc (FN x.1 y.1,FN x.2 y.2))
  | _,_=>none
 | .max a b=>match Bp fc a,Bp fc b with
  | some x,some y=>some (Dg (.max a b) fc (FO x.1 y.1,FO x.2 y.2))
  | _,_=>none
 | .ite _ a b=>match Bp fc a,Bp fc b with
  | some x,some y=>some (FN x.1 y.1,FO x.2 y.2)
  | _,_=>none
 | .dlen _=>none
theorem O9 (b:Bool):BL (.ofNat 0,.ofNat 1) (wh b):=by cases b<;>exact⟨by decide,by decide⟩
theorem aoT {k:IntKind} {a:Int} {n:Nat} (h:n<Jo k):BL (.ofNat 0,.ofNat n) (ES .and k a (.ofNat n)):=by
 have h0:fold .and k a (.ofNat n)=ES .and k a (.ofNat n):=Jp .and k a (.ofNat n);rw[<- h0];simp only[fold,yJ]
 have hm:Nat.land (yj k a) (yj k (.ofNat n))<=n:=by refine Nat.le_trans (Nat.and_le_right (n:=yj k a) (m:=yj k (.ofNat n))) ?_;exact Nat.mod_le _ _
 have hk:(Jo k:Int)<=CU k+1:=by unfold CU Jo;cases k<;>decide
 have hl:CS k<=0:=by unfold CS;cases k<;>decide
 rw[VY (by have:(0:Int)<=Int.ofNat (Nat.land (yj k a) (yj k (.ofNat n))):=Int.natCast_nonneg _;omega) (by
  have:Int.ofNat (Nat.land (yj k a) (yj k (.ofNat n)))<=(n:Int):=Int.ofNat_le.2 hm
  omega)]
 exact⟨Int.natCast_nonneg _,Int.ofNat_le.2 hm⟩
theorem agl {a b:Int} (m:Nat) (h:a<=b):a.fdiv (2^m)<=b.fdiv (2^m):=by rw[Int.fdiv_eq_ediv_of_nonneg _ (Int.pow_nonneg (by decide)),Int.fdiv_eq_ediv_of_nonneg _ (Int.pow_nonneg (by decide))];exact Int.ediv_le_ediv (Int.pow_pos (by decide)) h
theorem Eo {s:wF} {fc:Facts} (hf:xS s fc):∀ {x:X} {r:CQ},Bp fc x=some r->BL r (x.den s)
 | .lit n,r,h=>by cases h;exact⟨Int.le_refl _,Int.le_refl _⟩
 | .var k i,r,h=>by
  simp only[Bp] at h;split at h
  ·cases h;exact DR hf (GI _ _)
  ·cases h
  ·rename_i hk hk2;cases h;refine DR hf ?_
   cases k with
   | int k=>exact absurd rfl (hk k)
   | nat=>exact absurd rfl hk2
   | bool=>exact O9 _
   | bit=>exact O9 _
 | .dlen a,r,h=>by cases h
 | .bin op k a b,r,h=>by
  have kr:∀ {op'},op' = .add\/op' = .sub\/op' = .mul\/op' = .quo\/op' = .shl\/op' = .and\/op' = .or\/op' = .xor\/op' = .andNot->BL (CS k,CU k) ((X.bin op' k a b).den s):=by rintro op' (rfl|rfl|rfl|rfl|rfl|rfl|rfl|rfl|rfl)<;>exact GI _ _
  cases op<;>simp only[Bp] at h
  case add =>
   split at h
   ·rename_i x y hx hy;cases h;have h1:=Eo hf hx;have h2:=Eo hf hy;exact DR hf (Z9 ⟨Int.add_le_add h1.1 h2.1,Int.add_le_add h1.2 h2.2⟩)
   ·cases h;exact DR hf (kr (by simp))
  case sub =>
   split at h
   ·rename_i x y hx hy;cases h;have h1:=Eo hf hx;have h2:=Eo hf hy;exact DR hf (Z9 ⟨Int.sub_le_sub h1.1 h2.2,Int.sub_le_sub h1.2 h2.1⟩)
   ·cases h;exact DR hf (kr (by simp))
  case and =>
   split at h
   ·rename_i n;split at h
    ·rename_i hn;cases h;exact DR hf (aoT (by have:=Z6 hn;simpa using this))
    ·cases h;exact DR hf (GI _ _)
   ·cases h;exact DR hf (GI _ _)
  case shr =>
   split at h
   ·rename_i x n hx;cases h;have h1:=Eo hf hx;refine DR hf ?_;rw[ZP];exact⟨agl _ h1.1,agl _ h1.2⟩
   ·cases h
  case rem=>cases h
  all_goals first
   | (cases h;exact DR hf (GI _ _))
   | (cases h;exact O9 _)
 | .conv k a,r,h=>by
  simp only[Bp] at h;split at h
  ·rename_i x hx;cases h;exact DR hf (Z9 (Eo hf hx))
  ·cases h;exact DR hf (GI _ _)
 | .com k a,r,h=>by cases h;exact GI _ _
 | .not a,r,h=>by cases h;exact O9 _
 | .and a b,r,h=>by cases h;exact O9 _
 | .beq a b,r,h=>by cases h;exact O9 _
 | .min a b,r,h=>by
  simp only[Bp] at h;split at h
  ·rename_i x y hx hy;cases h;have h1:=Eo hf hx;have h2:=Eo hf hy;have h3:=agj x.1 y.1;refine DR hf ?_;simp only[X.den];split
   ·rename_i hlt;exact⟨Int.le_trans h3.2 h2.1,Z7 (Int.le_trans (Int.le_of_lt hlt) h1.2) h2.2⟩
   ·rename_i hlt;exact⟨Int.le_trans h3.1 h1.1,Z7 h1.2 (Int.le_trans (Int.not_lt.1 hlt) h2.2)⟩
  ·cases h
 | .max a b,r,h=>by
  simp only[Bp] at h;split at h
  ·rename_i x y hx hy;cases h;have h1:=Eo hf hx;have h2:=Eo hf hy;have h3:=agk x.2 y.2;refine DR hf ?_;simp only[X.den];split
   ·rename_i hlt;exact⟨Z8 (Int.le_trans h1.1 (Int.le_of_lt hlt)) h2.1,Int.le_trans h2.2 h3.2⟩
   ·rename_i hlt;exact⟨Z8 h1.1 (Int.le_trans h2.1 (Int.not_lt.1 hlt)),Int.le_trans h1.2 h3.1⟩
  ·cases h
 | .ite c a b,r,h=>by
  simp only[Bp] at h;split at h
  ·rename_i x y hx hy;cases h;have h1:=Eo hf hx;have h2:=Eo hf hy;have h3:=agj x.1 y.1;have h4:=agk x.2 y.2;simp only[X.den];split
   ·exact⟨Int.le_trans h3.2 h2.1,Int.le_trans h2.2 h4.2⟩
   ·exact⟨Int.le_trans h3.1 h1.1,Int.le_trans h1.2 h4.1⟩
  ·cases h
def aad (op:BinOp) (x y:CQ):Option Bool:=match op with
 | .lss=>match Bo x.2 y.1 with|true=>some true|false=>match FM y.2 x.1 with|true=>some false|false=>none
 | .leq=>match FM x.2 y.1 with|true=>some true|false=>match Bo y.2 x.1 with|true=>some false|false=>none
 | .gtr=>match Bo y.2 x.1 with|true=>some true|false=>match FM x.2 y.1 with|true=>some false|false=>none
 | .geq=>match FM y.2 x.1 with|true=>some true|false=>match Bo x.2 y.1 with|true=>some false|false=>none
 | .eql=>match Bo x.2 y.1 with
  | true=>some false
  | false=>match Bo y.2 x.1 with
   | true=>some false
   | false=>match xY (zQ x.1 x.2) (xY (zQ y.1 y.2) (zQ x.1 y.1)) with|true=>some true|false=>none
 | .neq=>match Bo x.2 y.1 with
  | true=>some true
  | false=>match Bo y.2 x.1 with
   | true=>some true
   | false=>match xY (zQ x.1 x.2) (xY (zQ y.1 y.2) (zQ x.1 y.1)) with|true=>some false|false=>none
 | _=>none
theorem aoU {op : BinOp} {k : IntKind} {x y : CQ} {m n : Int} {b : Bool} (hx : BL x m) (hy : BL y n) (h : aad op x y = some b) : (wJ op k m n != 0) = b := by
  obtain ⟨x1, x2⟩ := hx;obtain ⟨y1, y2⟩ := hy;cases op <;> simp only [aad] at h <;> try cases h
  all_goals
    simp only [wJ, yX];split at h
    · rename_i he
      first
        | (have := Z6 he; cases h; simp; omega)
        | (have := O6 he; cases h; simp; omega)
    · split at h
      · rename_i he
        first
          | (have := Z6 he; cases h; simp; omega)
          | (have := O6 he; cases h; simp; omega)
      · first
          | (cases h; done)
          | (split at h
             · rename_i he;have he := xH he; have he2 := xH he.2;have e1 := O7 he.1; have e2 := O7 he2.1; have e3 := O7 he2.2;cases h; simp; omega
             · cases h)
def CV (fc:Facts):X->Option Bool
 | .lit n=>some (ww n)
 | .bin op k a b=>match KH fc (.bin op k a b) with
  | some r=>some r
  | none=>match Bp fc a,Bp fc b with
   | some x,some y=>aad op x y
   | _,_=>none
 | .not a=>match CV fc a with|some b=>some (FK b)|none=>KH fc (.not a)
 | .and a b=>match CV fc a with
  | some true=>CV fc b
  | some false=>some false
  | none=>match CV fc b with|some false=>some false|_=>KH fc (.and a b)
 | .ite c a b=>match CV fc c with
  | some true=>CV fc a
  | some false=>CV fc b
  | none=>match CV fc a,CV fc b with
   | some true,some true=>some true
   | some false,some false=>some false
   | _,_=>KH fc (.ite c a b)
 | x=>KH fc x
theorem Dh {s:wF} {fc:Facts} (hf:xS s fc):∀ {c:X} {b:Bool},CV fc c=some b->(c.den s != 0)=b
 | .lit n,b,h=>by cases h;rw[zR];rfl
 | .bin op k x y,b,h=>by
  simp only[CV] at h;split at h
  ·rename_i r hr;cases h;exact FL hf hr
  ·split at h
   ·rename_i p q hp hq;exact aoU (Eo hf hp) (Eo hf hq) h
   ·cases h
 | .not a,b,h=>by
  simp only[CV] at h;split at h
  ·rename_i q hq;cases h;rw[X.den,yX,Dh hf hq,En]
  ·exact FL hf h
 | .and x y,b,h=>by
  simp only[CV] at h;split at h
  ·rename_i hq;rw[X.den,yX,Dh hf hq,Dh hf h];rfl
  ·rename_i hq;cases h;rw[X.den,yX,Dh hf hq];rfl
  ·split at h
   ·rename_i hq;cases h;rw[X.den,yX,Dh hf hq,Bool.and_false]
   ·exact FL hf h
 | .ite c x y,b,h=>by
  have den:∀ q,(x.den s != 0)=q->(y.den s != 0)=q->((X.ite c x y).den s != 0)=q:=λq h1 h2=>by simp only[X.den];split<;>assumption
  simp only[CV] at h;split at h
  ·rename_i hq;have:=Dh hf hq;have hc:c.den s≠0:=by simpa using this
   simp only[X.den,if_neg hc];exact Dh hf h
  ·rename_i hq;have:=Dh hf hq;have hc:c.den s=0:=by simpa using this
   simp only[X.den,if_pos hc];exact Dh hf h
  ·split at h
   ·rename_i h1 h2;cases h;exact den _ (Dh hf h1) (Dh hf h2)
   ·rename_i h1 h2;cases h;exact den _ (Dh hf h1) (Dh hf h2)
   ·exact FL hf h
 | .var k i,b,h=>FL hf h
 | .conv k a,b,h=>FL hf h
 | .com k a,b,h=>FL hf h
 | .beq x y,b,h=>FL hf h
 | .min x y,b,h=>FL hf h
 | .max x y,b,h=>FL hf h
 | .dlen x,b,h=>FL hf h
def GJ {β:Type} (fc:Facts) (c:X) (K:Bool->Facts->vU β):vU β:=match c with
 | .lit n=>K (ww n) fc
 | c=>match CV fc c with
  | some b=>K b fc
  | none=>.ite c (K true (O5 fc c true)) (K false (O5 fc c false))
theorem Jr {β:Type} {Φ:yE} {s:wF} {fc:Facts} {c:X} {K:Bool->Facts->vU β} {r:β} (hf:xS s fc) (h:(GJ fc c K).path Φ s=some r):∃ fc',xS s fc'/\(K (c.den s != 0) fc').path Φ s=some r:=by
 unfold GJ at h;split at h
 ·rename_i n;refine⟨fc,hf,?_⟩;rw[zR] at h;exact h
 ·split at h
  ·rename_i b hb;rw[Dh hf hb];exact⟨fc,hf,h⟩
  ·simp only[vU.path] at h;split at h
   ·rename_i hc;have:(c.den s != 0)=false:=by rw[hc];rfl
    rw[this];exact⟨_,ZY hf this,h⟩
   ·rename_i hc;have:(c.den s != 0)=true:=by simpa using hc
    rw[this];exact⟨_,ZY hf this,h⟩
inductive SV where
 | v (x:Value)
 | int (k:IntKind) (x:X)
 | bool (x:X)
 | loc (b off:Nat)
 | hd (k:Nat)
 | ha (k off:Nat)
 | sl (b off len cap:Nat)
 | fn (f:Fn) (a c:List SV)
 | tup (l:List SV)
 | agg (l:List SV)
mutual
def SV.den (s:wF):SV->AV
 | .v x=>.v x
 | .int k x=>.v (.int k (x.den s))
 | .bool x=>.v (.bool (x.den s != 0))
 | .loc b off=>.loc b off
 | .hd k=>.hd k
 | .ha k off=>.ha k off
 | .sl b off len cap=>.sl b off len cap
 | .fn f a c=>Cr f (SV.aaE s a) (SV.aaE s c)
 | .tup l=>Cq (SV.aaE s l)
 | .agg l=>Bi (SV.aaE s l)
def SV.aaE (s:wF):List SV->List AV
 | []=>[]
 | x::l=>SV.den s x::SV.aaE s l
end
theorem SV.aeX (s:wF):∀ l:List SV,SV.aaE s l=l.map (SV.den s)
 | []=>rfl
 | x::l=>by rw[SV.aaE,SV.aeX s l];rfl
def Cv (x:Value):SV:=match x with
 | .int k n=>.int k (.lit n)
 | .bool b=>.bool (.lit (wh b))
 | x=>.v x
theorem aae (s:wF) (x:Value):(Cv x).den s = .v x:=by cases x<;>first|rfl|(simp only[Cv,SV.den,X.den,yX])
def Js (x:Value):SV:=match x with
 | .agg cs=>.agg (cs.toList.map Cv)
 | x=>Cv x
theorem FQ (s:wF) (l:List Value):SV.aaE s (l.map Cv)=l.map .v:=by rw[SV.aeX,List.map_map];apply List.map_congr_left;intro x _;exact aae s x
theorem KI:∀ l:List Value,yF (l.map .v)=some l
 | []=>rfl
 | x::l=>by rw[List.map_cons,yF,KI l]
theorem VZ (l:List Value):Bi (l.map .v) = .v (.agg l.toArray):=by unfold Bi;rw[KI]
theorem V3 (l:List Value):Cq (l.map .v) = .v (.tuple l.toArray):=by unfold Cq;rw[KI]
theorem V5 (s:wF) (x:Value):(Js x).den s = .v x:=by
 unfold Js;split
 ·simp only[SV.den,FQ,VZ]
 ·exact aae s _
structure SO where
 c:List SV
 t:Option TypeId
def Di (n:Nat):List Value:=(Tw n).map λd=>.int .u32 (Int.ofNat d)
def FR (c:List SV):X:=match c with
 | [.int _ x]=>x
 | _=>.lit (.ofNat 0)
def agm:Value->Value×Value
 | .tuple xs=>match xs.toList with | [k,v]=>(k,v)|_=>(undef,undef)
 | _=>(undef,undef)
def aaf:SV->Option (List (Value×Value))
 | .v (.tuple xs)=>some (xs.toList.map agm)
 | _=>none
def Dj (c:List SV):Option (List (Value×Value)):=match c with
 | [x]=>aaf x
 | _=>none
def yw (k:VK) (n:Int):Value:=match k with | .int k=>.int k (k.wrap n) | .bool=>.bool (n != 0) | .bit=>.int .u64 (wh (n != 0)) | .nat=>.int .u64 (Int.ofNat n.toNat)
def xu:List VK->List Int->List Value
 | k::ks,n::ns=>yw k n::xu ks ns
 | _,_=>[]
structure TE where
 n:X
 b:Nat
 ks:List VK
def V6:SV->VK
 | .int k _=>.int k
 | _=>.bool
def V7:SV->Bool
 | .v (.bool false)=>true
 | _=>false
def V8:SV->Option X
 | .int .i64 n=>some n
 | _=>none
def V9:SV->Option Nat
 | .v (.int .i64 (.ofNat b))=>some b
 | _=>none
def DT (c:List SV):Option TE:=match c with
 | x::y::z::l=>match V7 x,V8 y,V9 z with
  | true,some n,some b=>some ⟨n,b,l.map V6⟩
  | _,_,_=>none
 | _=>none
def Cw (s:wF) (b:Nat) (ks:List VK):Nat->List Value
 | 0=>[]
 | n+1=>Cw s b ks n++xu ks (Au s (b+n*ks.length) ks.length)
def SO.den (s:wF) (o:SO):AO:=match o.t with
 | some t=>.own (SV.aaE s o.c) t
 | none=>match Dj o.c with
  | some es=>.mp es
  | none=>match DT o.c with
   | some r=>.rd (r.n.den s).toNat (Cw s r.b r.ks (r.n.den s).toNat)
   | none=>.rd (wO ((FR o.c).den s).toNat) (Di ((FR o.c).den s).toNat)
theorem SO.aCW (s:wF) {o:SO} {t:TypeId} (h:o.t=some t):o.den s = .own (SV.aaE s o.c) t:=by unfold SO.den;rw[h]
theorem SO.aCG (s:wF) {o:SO} (h:o.t=none) (hm:Dj o.c=none) (ho:DT o.c=none):o.den s = .rd (wO ((FR o.c).den s).toNat) (Di ((FR o.c).den s).toNat):=by unfold SO.den;rw[h];simp only[];rw[hm];simp only[];rw[ho]
theorem SO.aCX (s:wF) {o:SO} {r:TE} (h:o.t=none) (hm:Dj o.c=none) (ho:DT o.c=some r):o.den s = .rd (r.n.den s).toNat (Cw s r.b r.ks (r.n.den s).toNat):=by unfold SO.den;rw[h];simp only[];rw[hm];simp only[];rw[ho]
theorem SO.aC3 (s:wF) {o:SO} {es:List (Value×Value)} (h:o.t=none) (hm:Dj o.c=some es):o.den s = .mp es:=by unfold SO.den;rw[h];simp only[];rw[hm]
abbrev SH:=List (Nat×SO)
def hget:SH->Nat->Option SO
 | [],_=>none
 | x::l,k=>match Nat.beq x.1 k with|true=>some x.2|false=>hget l k
def SH.den (s:wF) (H:SH):wm:=λk=>(hget H k).map (SO.den s)
abbrev wT:=List (Option SV)
def Ae:wT->Nat->Option SV
 | [],_=>none
 | x::l,0=>x
 | x::l,n+1=>Ae l n
def wT.den (s:wF) (T:wT):wU:=λt=>(Ae T t).map (SV.den s)
def Wd {β:Sort _} : wT->Nat->SV->(wT->β)->β
 | [],_,_,k=>k []
 | x::l,0,v,k=>k (some v::l)
 | x::l,n+1,v,k=>Wd l n v λl'=>k (x::l')
def GK:wT->Nat->SV->wT
 | [],_,_=>[]
 | _::l,0,v=>some v::l
 | x::l,n+1,v=>x::GK l n v
theorem agn {β:Sort _} : ∀ (T:wT) (n:Nat) (v:SV) (k:wT->β),Wd T n v k=k (GK T n v)
 | [],_,_,_=>rfl
 | x::l,0,_,_=>rfl
 | x::l,n+1,v,k=>by rw[Wd,agn l n v];rfl
theorem agp:∀ (T:wT) (n:Nat) (v:SV) (t:Nat),Ae (GK T n v) t=if t=n/\n<T.length then some v else Ae T t
 | [],n,v,t=>by simp[GK]
 | x::l,0,v,0=>by simp[GK,Ae]
 | x::l,0,v,t+1=>by simp[GK,Ae]
 | x::l,n+1,v,t=>by
  rw[GK]
  cases t with
  | zero=>simp[Ae]
  | succ t =>
   show Ae (GK l n v) t=_;rw[agp l n v t];simp[Ae]
theorem agq:∀ (T:wT) (n:Nat) (v:SV),(GK T n v).length=T.length
 | [],_,_=>rfl
 | x::l,0,_=>rfl
 | x::l,n+1,v=>by rw[GK];simp[agq l n v]
theorem wT.aDi (s:wF) (T:wT) (n:Nat) (v:SV) (h:n<T.length):wT.den s (GK T n v)=(wT.den s T).put (some n) (v.den s):=by
 funext t;unfold wT.den;rw[agp];by_cases ht:t=n
 ·subst ht;rw[if_pos ⟨rfl,h⟩,wU.aed];rfl
 ·rw[if_neg (λe=>ht e.1),wU.anO _ _ _ ht]
def hset {β:Sort _} : SH->Nat->SO->(SH->β)->β
 | [],k,o,K=>K [(k,o)]
 | x::l,k,o,K=>match Nat.beq x.1 k with
  | true=>K ((k,o)::l)
  | false=>hset l k o λl'=>K (x::l')
def KJ:SH->Nat->SO->SH
 | [],k,o=>[(k,o)]
 | x::l,k,o=>match Nat.beq x.1 k with
  | true=>(k,o)::l
  | false=>x::KJ l k o
theorem agr {β:Sort _} : ∀ (H:SH) (k:Nat) (o:SO) (K:SH->β),hset H k o K=K (KJ H k o)
 | [],_,_,_=>rfl
 | x::l,k,o,K=>by
  simp only[hset,KJ]
  cases Nat.beq x.1 k with
  | true=>rfl
  | false=>simp only[];rw[agr l k o]
theorem aag:∀ (H:SH) (k:Nat) (o:SO) (j:Nat),hget (KJ H k o) j=if j=k then some o else hget H j
 | [],k,o,j=>by
  simp only[KJ,hget]
  cases h:Nat.beq k j with
  | true=>rw[if_pos (xO.1 h).symm]
  | false=>rw[if_neg];intro e;subst e;simp at h
 | x::l,k,o,j=>by
  simp only[KJ]
  cases h:Nat.beq x.1 k with
  | true =>
   have hx:=xO.1 h;simp only[hget]
   cases h2:Nat.beq k j with
   | true=>rw[if_pos (xO.1 h2).symm]
   | false =>
    have:j≠k:=λe=>by subst e;simp at h2
    rw[if_neg this,hx,h2]
  | false =>
   simp only[hget]
   cases h2:Nat.beq x.1 j with
   | true =>
    have hj:=xO.1 h2;have:j≠k:=λe=>by rw[<- hj] at e;rw[e] at h;simp at h
    rw[if_neg this]
   | false=>simp only[];exact aag l k o j
theorem SH.aDi (s:wF) (H:SH) (k:Nat) (o:SO):SH.den s (KJ H k o)=(SH.den s H).put k (o.den s):=by funext j;unfold SH.den wm.put;rw[aag];split<;>rfl
def Ij {β:Sort _} : SH->List (Nat×SO)->(SH->β)->β
 | H,[],K=>K H
 | H,x::l,K=>hset H x.1 x.2 λH=>Ij H l K
def MK:SH->List (Nat×SO)->SH
 | H,[]=>H
 | H,x::l=>MK (KJ H x.1 x.2) l
theorem ags {β:Sort _} : ∀ (l:List (Nat×SO)) (H:SH) (K:SH->β),Ij H l K=K (MK H l)
 | [],_,_=>rfl
 | x::l,H,K=>by rw[Ij,agr,ags l,MK]
def xz (s:wF) (ef:List (Nat×SO)):List (Nat×AO):=ef.map λx=>(x.1,x.2.den s)
theorem agt (s:wF):∀ (l:List (Nat×SO)) (H:SH),SH.den s (MK H l)=(SH.den s H).puts (xz s l)
 | [],_=>rfl
 | x::l,H=>by rw[MK,agt s l,SH.aDi];rfl
def FU (T:wT):Operand->Option SV
 | .tmp t=>Ae T t
 | .const v=>some (Js v)
 | .global g=>some (.v (.pointer (some ⟨g,0,none⟩)))
 | .func f=>some (.v (.func (.func f) #[] #[]))
def RD (s:wF) (ρ:Operand->Option SV) (ρ':Operand->Option AV):Prop:=∀ x a,ρ x=some a->ρ' x=some (a.den s)
theorem KL (s : wF) (T : wT) : RD s (FU T) (Ab (wT.den s T)) := by
  intro x a h
  cases x with
  | tmp t => have h : Ae T t = some a := h
             simp [Ab, wT.den, h]
  | const v => simp only [FU, Option.some.injEq] at h; subst h; rw [V5]; rfl
  | global g => simp only [FU, Option.some.injEq] at h; subst h; rfl
  | func f => simp only [FU, Option.some.injEq] at h; subst h; rfl
def cellsS:SV->List SV
 | .v x=>x.cells.toList.map Cv
 | .agg l=>l
 | x=>[x]
theorem TF (l:List AV):yu (Bi l)=l:=by
 unfold Bi
 cases h:yF l with
 | none=>rfl
 | some vs =>
  simp only[yu,Value.cells]
  induction l generalizing vs with
  | nil=>simp only[yF,Option.some.injEq] at h;subst h;rfl
  | cons x l ih =>
   cases x<;>simp only[yF] at h<;>try cases h
   rename_i x
   cases h2:yF l with
   | none=>rw[h2] at h;cases h
   | some ws =>
    rw[h2] at h;simp only[Option.some.injEq] at h;subst h;simpa using ih ws h2
theorem aoV (l:List AV):yu (Cq l) = [Cq l]:=by unfold Cq;split<;>rfl
theorem aoW (f:Fn) (a c:List AV):yu (Cr f a c) = [Cr f a c]:=by unfold Cr;split<;>rfl
theorem Pb (s:wF) (a:SV):SV.aaE s (cellsS a)=yu (a.den s):=by
 cases a with
 | v x=>simp only[cellsS,FQ,SV.den,yu]
 | agg l=>simp only[cellsS,SV.den,TF]
 | tup l=>simp only[cellsS,SV.aaE,SV.den,aoV]
 | fn f a c=>simp only[cellsS,SV.aaE,SV.den,aoW]
 | int k x=>simp only[cellsS,SV.aaE,SV.den,yu,Value.cells,List.map_cons,List.map_nil]
 | bool x=>simp only[cellsS,SV.aaE,SV.den,yu,Value.cells,List.map_cons,List.map_nil]
 | _=>rfl
def ym:SV->Bool
 | .v (.agg _)=>false
 | .v (.tuple _)=>false
 | .agg _=>false
 | .tup _=>false
 | .ha _ _=>false
 | _=>true
theorem aoX (f:Fn) (a c:List AV):Mt (Cr f a c)=true:=by unfold Cr;split<;>rfl
theorem aoY {s:wF} {a:SV} (h:ym a=true):Mt (a.den s)=true:=by
 cases a with
 | v x=>cases x<;>first|rfl|cases h
 | fn f a c=>exact aoX _ _ _
 | agg l=>cases h
 | tup l=>cases h
 | ha k o=>cases h
 | _=>rfl
def yG {β:Sort _} : Nat->List SV->(List SV->β)->β
 | 0,_,K=>K []
 | _+1,[],K=>K []
 | n+1,x::l,K=>yG n l λl'=>K (x::l')
def Jt (P:Program) (t:TypeId) (c:List SV) (off:Nat):Option SV :=
 match Kt P t with
 | some true=>match yn P t with
  | some sz=>match Nat.ble (off+sz) c.length,Nat.ble 1 sz with
   | true,true=>Jn ((c.drop off).take sz) λl=>some (.agg l)
   | _,_=>none
  | none=>none
 | some false=>c[off]?
 | none=>none
theorem Ep (s:wF) (l:List SV):(SV.aaE s l).length=l.length:=by rw[SV.aeX];simp
theorem aah (s:wF) (l:List SV) (n:Nat):SV.aaE s (l.take n)=(SV.aaE s l).take n:=by rw[SV.aeX,SV.aeX,List.map_take]
theorem aai (s:wF) (l:List SV) (n:Nat):SV.aaE s (l.drop n)=(SV.aaE s l).drop n:=by rw[SV.aeX,SV.aeX,List.map_drop]
theorem KM (s:wF) (a b:List SV):SV.aaE s (a++b)=SV.aaE s a++SV.aaE s b:=by simp[SV.aeX]
theorem agu (s:wF) {l:List SV} {i:Nat} {x:SV} (h:l[i]? = some x):(SV.aaE s l)[i]? = some (x.den s):=by rw[SV.aeX];simp[h]
theorem ML {P:Program} {t:TypeId} {c:List SV} {off:Nat} {r:SV} (s:wF) (h:Jt P t c off=some r):Aq P t (SV.aaE s c) off=some (r.den s):=by
 unfold Jt at h;unfold Aq;split at h
 ·rename_i ha;rw[ha];simp only;split at h
  ·rename_i sz hs;rw[hs];simp only;split at h
   ·rename_i h1 h2;rw[MG] at h;cases h;have h1:=Nat.le_of_ble_eq_true h1;have h2:=Nat.le_of_ble_eq_true h2;rw[if_pos ⟨by rw[Ep];exact h1,h2⟩];simp only[SV.den,aah,aai]
   ·cases h
  ·cases h
 ·rename_i ha;rw[ha];exact agu s h
 ·cases h
abbrev SR:=SV×List Nat×List (Nat×SO)
def one (a:SV):vU SR:=.leaf (a,[],[])
def Pf (w:String) (x:Option SV):vU SR:=match x with|some a=>.leaf (a,[],[])|none=>.stuck w
def aaj (P:Program) (G:wQ) (t:TypeId) (H:SH) (a:SV):vU SR:=match a with
 | .loc b off=>match hget H b with
  | some o=>match o.t with
   | some _=>match Jt P t o.c off with|some r=>.leaf (r,[b],[])|none=>.stuck "load: cells"
   | none=>.stuck "load: a number"
  | none=>.stuck "load: block"
 | .v (.pointer (some ⟨g,off,none⟩))=>match YX G g with
  | some c=>match Jt P t (c.map Cv) off with|some r=>one r|none=>.stuck "load: global cells"
  | none=>.stuck "load: global"
 | _=>.stuck "load"
def agv (c:List SV) (off:Nat) (ys:List SV):List SV:=c.take off++ys++c.drop (off+ys.length)
def aak (P:Program) (t:TypeId) (H:SH) (x y:SV):vU SR:=match x with
 | .loc b off=>match hget H b with
  | some ⟨_,none⟩=>.stuck "store: a number"
  | some o=>match (cellsS y).all ym,yn P t with
   | true,some n=>match Nat.beq n (cellsS y).length,Nat.ble (off+(cellsS y).length) o.c.length with
    | true,true=>Jn (agv o.c off (cellsS y)) λc=>.leaf (.v undef,[b],[(b,⟨c,o.t⟩)])
    | _,_=>.stuck "store: size"
   | _,_=>.stuck "store: cells"
  | none=>.stuck "store: block"
 | _=>.stuck "store"
def aal (P:Program) (t:TypeId) (f:Nat) (x:SV):Option SV:=match x with
 | .agg l=>match Ib P t f with
  | some (off,ft)=>Jt P ft l off
  | none=>none
 | .v (.agg cs)=>match Ib P t f with
  | some (off,ft)=>Jt P ft (cs.toList.map Cv) off
  | none=>none
 | _=>none
def aam (P:Program) (t:TypeId) (f:Nat) (x:SV):Option SV :=
 match Ib P t f with
 | some (off,ft)=>match yn P ft with
  | some (_+1)=>match x with
   | .loc b o=>zk (o+off) λn=>some (.loc b n)
   | .v (.pointer (some ⟨g,o,none⟩))=>zk (o+off) λn=>some (.v (.pointer (some ⟨g,n,none⟩)))
   | _=>none
  | _=>none
 | none=>none
def Pg {α:Type} (x:X) (f:Nat->vU α):Nat->Nat->Facts->vU α
 | 0,_,_=>.stuck "index"
 | m+1,j,fc=>match CV fc (.bin .eql .i64 x (.lit (.ofNat j))) with
  | some true=>f j
  | some false=>Pg x f m (Nat.succ j) fc
  | none=>.ite (.bin .eql .i64 x (.lit (.ofNat j))) (f j) (Pg x f m (Nat.succ j) (O5 fc (.bin .eql .i64 x (.lit (.ofNat j))) false))
def MM {α:Type} (fc:Facts) (x:X) (len:Nat) (f:Nat->vU α):vU α:=match x with
 | .lit (.ofNat j)=>match Nat.blt j len with|true=>f j|false=>.stuck "index: out of range"
 | .lit (.negSucc _)=>.stuck "index: below 0"
 | x=>Pg x f len 0 fc
theorem aan {α:Type} {Φ:yE} {s:wF} {x:X} {f:Nat->vU α} {a:α} : ∀ (m j:Nat) (fc:Facts),xS s fc->(Pg x f m j fc).path Φ s=some a->∃ i,j<=i/\i<j+m/\x.den s=i/\(f i).path Φ s=some a
 | 0,j,fc,hf,h=>by cases h
 | m+1,j,fc,hf,h=>by
  have eqj:((X.bin .eql .i64 x (.lit (.ofNat j))).den s != 0)=true->x.den s=(j:Int):=λhq=>by simp only[X.den,wJ,yX] at hq;simpa using hq
  have ite:(vU.ite (.bin .eql .i64 x (.lit (.ofNat j))) (f j) (Pg x f m (Nat.succ j) (O5 fc (.bin .eql .i64 x (.lit (.ofNat j))) false))).path Φ s=some a->∃ i,j<=i/\i<j+(m+1)/\x.den s=i/\(f i).path Φ s=some a:=λh=>by
   simp only[vU.path] at h;split at h
   ·rename_i hc;obtain⟨i,h1,h2,h3,h4⟩:=aan m (j+1) _ (ZY hf (by rw[hc];rfl)) h;exact⟨i,by omega,by omega,h3,h4⟩
   ·rename_i hne;exact⟨j,Nat.le_refl _,by omega,eqj (by simpa using hne),h⟩
  simp only[Pg] at h;split at h
  ·rename_i hd;exact⟨j,Nat.le_refl _,by omega,eqj (Dh hf hd),h⟩
  ·obtain⟨i,h1,h2,h3,h4⟩:=aan m (j+1) fc hf h;exact⟨i,by omega,by omega,h3,h4⟩
  ·exact ite h
theorem TG {α:Type} {Φ:yE} {s:wF} {fc:Facts} (hf:xS s fc) {x:X} {len:Nat} {f:Nat->vU α} {a:α} (h:(MM fc x len f).path Φ s=some a):∃ i,i<len/\x.den s=(i:Int)/\(f i).path Φ s=some a:=by
 unfold MM at h;split at h
 ·rename_i j;split at h
  ·rename_i hb;exact⟨j,by simpa [Nat.blt_eq] using hb,rfl,h⟩
  ·cases h
 ·cases h
 ·obtain⟨i,_,h2,h3,h4⟩:=aan _ _ _ hf h;exact⟨i,by omega,h3,h4⟩
def aao (P:Program) (fc:Facts) (t:TypeId) (x i:SV):vU SR:=match i with
 | .int _ n=>match x with
  | .loc b o=>match Dw P t with
   | some (len,el)=>match yn P el with
    | some sz=>MM fc n len λj=>zk (o+j*sz) λq=>one (.loc b q)
    | none=>.stuck "indexAddr: size"
   | none=>.stuck "indexAddr: no array"
  | .v (.pointer (some ⟨g,o,none⟩))=>match Dw P t with
   | some (len,el)=>match yn P el with
    | some sz=>MM fc n len λj=>zk (o+j*sz) λq=>one (.v (.pointer (some ⟨g,q,none⟩)))
    | none=>.stuck "indexAddr: size"
   | none=>.stuck "indexAddr: no array"
  | .sl b o len _=>match Ic P t with
   | some el=>match yn P el with
    | some sz=>MM fc n len λj=>zk (o+j*sz) λq=>one (.loc b q)
    | none=>.stuck "indexAddr: size"
   | none=>.stuck "indexAddr: no slice"
  | _=>.stuck "indexAddr"
 | _=>.stuck "indexAddr: index"
def aap (P:Program) (fc:Facts) (t:TypeId) (x i:SV):vU SR:=match i with
 | .int _ n=>match x with
  | .agg l=>match Dw P t with
   | some (len,el)=>match yn P el with
    | some sz=>MM fc n len λj=>Pf "index: cells" (Jt P el l (j*sz))
    | none=>.stuck "index: size"
   | none=>.stuck "index: no array"
  | .v (.agg cs)=>match Dw P t with
   | some (len,el)=>match yn P el with
    | some sz=>MM fc n len λj=>Pf "index: cells" (Jt P el (cs.toList.map Cv) (j*sz))
    | none=>.stuck "index: size"
   | none=>.stuck "index: no array"
  | _=>.stuck "index"
 | _=>.stuck "index: index"
def aaq (x:SV) (i:Nat):Option SV:=match x with
 | .v (.tuple vs)=>match vs.toList[i]? with|some v=>some (Cv v)|none=>none
 | .tup l=>l[i]?
 | _=>none
def Ph (place:Nat->Option (Nat×Nat)) (cells:List SV):List (Nat×SV)->Option (List SV)
 | []=>some cells
 | (i,x)::rest=>match place i with
  | none=>none
  | some (off,size)=>match Nat.beq (cellsS x).length size,Nat.ble (off+size) cells.length with
   | true,true=>Jn (cells.take off++cellsS x++cells.drop (off+size)) λc=>Ph place c rest
   | _,_=>none
def We (s:wF) (l:List (Nat×SV)):List (Nat×AV):=l.map λx=>(x.1,x.2.den s)
theorem aar {place:Nat->Option (Nat×Nat)} (s:wF):∀ {ps:List (Nat×SV)} {cells c:List SV},Ph place cells ps=some c->FB place (SV.aaE s cells) (We s ps)=some (SV.aaE s c)
 | [],cells,c,h=>by simp only[Ph,Option.some.injEq] at h;subst h;rfl
 | (i,x)::rest,cells,c,h=>by
  simp only[Ph] at h;simp only[We,List.map_cons,FB];split at h
  ·cases h
  ·rename_i off size hp;rw[hp];simp only;split at h
   ·rename_i h1 h2;rw[MG] at h;have h1:=xO.1 h1;have h2:=Nat.le_of_ble_eq_true h2;rw[if_pos ⟨by rw[<- Pb,Ep];exact h1,by rw[Ep];exact h2⟩];have:=aar s h;rw[KM,KM,aah,aai,Pb] at this;exact this
   ·cases h
def Pi (ρ:Operand->Option SV):List (Nat×Operand)->Option (List (Nat×SV))
 | []=>some []
 | (i,x)::l=>match ρ x,Pi ρ l with
  | some a,some r=>some ((i,a)::r)
  | _,_=>none
theorem aas {s:wF} {ρ:Operand->Option SV} {ρ':Operand->Option AV} (hρ:RD s ρ ρ'):∀ {l:List (Nat×Operand)} {r:List (Nat×SV)},Pi ρ l=some r->Dx ρ' l=some (We s r)
 | [],r,h=>by simp only[Pi,Option.some.injEq] at h;subst h;rfl
 | (i,x)::l,r,h=>by
  simp only[Pi] at h;split at h
  ·rename_i a r' ha hr;cases h;rw[Dx,hρ x a ha,aas hρ hr];rfl
  ·cases h
def MN (ρ:Operand->Option SV):List Operand->Option (List SV)
 | []=>some []
 | x::l=>match ρ x,MN ρ l with
  | some a,some r=>some (a::r)
  | _,_=>none
theorem Wh {s:wF} {ρ:Operand->Option SV} {ρ':Operand->Option AV} (hρ:RD s ρ ρ'):∀ {l:List Operand} {r:List SV},MN ρ l=some r->CL ρ' l=some (SV.aaE s r)
 | [],r,h=>by simp only[MN,Option.some.injEq] at h;subst h;rfl
 | x::l,r,h=>by
  simp only[MN] at h;split at h
  ·rename_i a r' ha hr;cases h;rw[CL,hρ x a ha,Wh hρ hr];rfl
  ·cases h
abbrev Pj:=TypeId->SV->SV->Option X
def Wi (P:Program) (SE:Pj) (E:xV):Prop:=∀ t x y r (s:wF),SE t x y=some r->∃ a b,x.den s = .v a/\y.den s = .v b/\Bj P .eql t a b=none/\Bj P .neq t a b=none/\E .eql t a b=some (.bool (r.den s != 0))/\E .neq t a b=some (.bool (!(r.den s != 0)))
def KN (fc:Facts) (w:String) (c:X) (t:vU SR):vU SR:=match CV fc c with
 | some true=>.stuck w
 | some false=>t
 | none=>O4 c (.stuck w) t
def aat (fc:Facts) (op:BinOp) (k k':IntKind) (a b:X):vU SR:=match op with
 | .shl=>match X.inK k' b,k'.signed with
  | true,false=>zA (zm .shl k a b) λx=>one (.int k x)
  | _,_=>KN fc "shift below 0" (zm .lss k' b (.lit (.ofNat 0))) (zA (zm .shl k a b) λx=>one (.int k x))
 | .shr=>match X.inK k' b,k'.signed with
  | true,false=>zA (zm .shr k a b) λx=>one (.int k x)
  | _,_=>KN fc "shift below 0" (zm .lss k' b (.lit (.ofNat 0))) (zA (zm .shr k a b) λx=>one (.int k x))
 | .quo=>match AC k k' with
  | true=>KN fc "by 0" (zm .eql k' b (.lit (.ofNat 0))) (zA (zm .quo k a b) λx=>one (.int k x))
  | false=>.stuck "kinds"
 | .rem=>match AC k k' with
  | true=>KN fc "by 0" (zm .eql k' b (.lit (.ofNat 0))) (zA (zm .rem k a b) λx=>one (.int k x))
  | false=>.stuck "kinds"
 | .add | .sub | .mul | .and | .or | .xor | .andNot=>match AC k k' with
  | true=>zA (zm op k a b) λx=>one (.int k x)
  | false=>.stuck "kinds"
 | .eql | .neq | .lss | .leq | .gtr | .geq=>match AC k k' with
  | true=>zA (zm op k a b) λx=>one (.bool x)
  | false=>.stuck "kinds"
def aau (P:Program) (SE:Pj) (fc:Facts) (op:BinOp) (t:TypeId) (x y:SV):vU SR:=match x,y with
 | .int k a,.int k' b=>aat fc op k k' a b
 | .bool a,.bool b=>match P.underlying t with
  | some .bool=>match op with
   | .eql=>zA (VW a b) λx=>one (.bool x)
   | .neq=>zA (mkNot (VW a b)) λx=>one (.bool x)
   | _=>.stuck "binOp: bools"
  | _=>.stuck "binOp: bool type"
 | x,y=>match op with
  | .eql=>match SE t x y with|some r=>zA r λr=>one (.bool r)|none=>.stuck "eql"
  | .neq=>match SE t x y with|some r=>zA (mkNot r) λr=>one (.bool r)|none=>.stuck "neq"
  | _=>.stuck "binOp"
def sUn (op:UnOp) (x:SV):vU SR:=match op,x with
 | .neg,.int k a=>zA (zm .sub k (.lit (.ofNat 0)) a) λx=>one (.int k x)
 | .xor,.int k a=>zA (VV k a) λx=>one (.int k x)
 | .not,.bool a=>zA (mkNot a) λx=>one (.bool x)
 | _,_=>.stuck "unOp"
def aaw (P:Program) (src dst:TypeId) (x:SV):vU SR:=match x with
 | .int _ a=>match Oy P dst,P.underlying src with
  | some k,some _=>zA (ZR k a) λx=>one (.int k x)
  | _,_=>.stuck "convert: type"
 | _=>.stuck "convert"
def aax (x:SV):vU SR:=match x with
 | .loc b o=>one (.loc b o)
 | .v (.func (.func f) a c)=>one (.v (.func (.func f) a c))
 | .v (.pointer (some p))=>one (.v (.pointer (some p)))
 | .fn (.func f) a c=>one (.fn (.func f) a c)
 | _=>.stuck "nilCheck"
def sLen (P:Program) (t:TypeId) (H:SH) (x:SV):vU SR:=match P.underlying t with
 | some (.slice _)=>match x with
  | .hd k=>match hget H k with
   | some ⟨[.int _ x],none⟩=>.leaf (.int .i64 (.dlen x),[k],[])
   | some ⟨c,none⟩=>match Dj c,DT c with
    | none,some r=>zA (VX r.n (.lit (.ofNat 0))) λx=>.leaf (.int .i64 x,[k],[])
    | _,_=>.stuck "len: handle"
   | _=>.stuck "len: handle"
  | .sl _ _ n _=>one (.int .i64 (.lit (.ofNat n)))
  | .v (.slice _ n _)=>one (.int .i64 (.lit (.ofNat n)))
  | _=>.stuck "len: slice"
 | some .string=>match x with | .v (.string s)=>zk s.size λn=>one (.int .i64 (.lit (.ofNat n)))|_=>.stuck "len: string"
 | some (.array n _)=>one (.int .i64 (.lit (.ofNat n)))
 | _=>.stuck "len"
def aay (P:Program) (t:TypeId) (x:SV):vU SR:=match Dw P t with
 | some (n,_)=>match x with
  | .sl b o len _=>match Nat.ble n len with|true=>one (.loc b o)|false=>.stuck "arrayAt: len"
  | _=>.stuck "arrayAt"
 | none=>.stuck "arrayAt: no array"
def aaz (P:Program) (t:TypeId) (k:Nat) (x y:SV):vU SR:=match x,y with
 | .int _ (.lit (.ofNat n)),.int _ (.lit (.ofNat m))=>match Ic P t with
  | some el=>match yn P el,Gx P el,YZ P el with
   | some sz,some z,some b=>match Nat.ble n m,Nat.blt m 16777216,Nat.ble b 4096,Nat.beq (m*sz) 0 with
    | true,true,true,false=>Jn ((Jg z (m*sz)).map Cv) λc=>.leaf (.sl k 0 n m,[],[(k,⟨c,some el⟩)])
    | _,_,_,_=>.stuck "makeSlice: size"
   | _,_,_=>.stuck "makeSlice: type"
  | none=>.stuck "makeSlice: no slice"
 | _,_=>.stuck "makeSlice"
def aaA (P:Program) (t:TypeId) (x:SV):vU SR:=match Dw P t with
 | some (n,el)=>match x,yn P el with
  | .loc b o,some _=>one (.sl b o n n)
  | _,_=>.stuck "slice"
 | none=>.stuck "slice: no array"
def aaB (P:Program) (t:TypeId) (len:Nat) (k:Nat) (ps:List (Nat×SV)):vU SR:=match Ic P t with
 | some el=>match yn P el,Gx P el with
  | some sz,some z=>match Nat.ble (len*sz) 16777216,Nat.beq (len*sz) 0 with
   | true,false=>match Ph (λi=>some (i*sz,sz)) ((Jg z (len*sz)).map Cv) ps with
    | some c=>.leaf (.sl k 0 len len,[],[(k,⟨c,some el⟩)])
    | none=>.stuck "buildSlice: parts"
   | _,_=>.stuck "buildSlice: size"
  | _,_=>.stuck "buildSlice: type"
 | none=>.stuck "buildSlice"
def o1 (ρ:Operand->Option SV) (x:Operand) (f:SV->vU SR):vU SR:=match ρ x with|some a=>f a|none=>.stuck "operand"
def o2 (ρ:Operand->Option SV) (x y:Operand) (f:SV->SV->vU SR):vU SR:=match ρ x with
 | some a=>match ρ y with|some b=>f a b|none=>.stuck "operand"
 | none=>.stuck "operand"
def aaC (P:Program) (G:wQ) (SE:Pj) (fc:Facts) (op:Op) (ρ:Operand->Option SV) (H:SH) (k:Nat):vU SR :=
 match op with
 | .move x=>o1 ρ x one
 | .assign x=>o1 ρ x one
 | .pick c a b=>o1 ρ c λv=>match v with
  | .bool q=>O4 q (o1 ρ a one) (o1 ρ b one)
  | _=>.stuck "pick"
 | .alloc t=>match Gx P t with|some z=>Jn (z.map Cv) λc=>.leaf (.loc k 0,[],[(k,⟨c,some t⟩)])|none=>.stuck "alloc"
 | .box t x=>o1 ρ x λa=>Jn (cellsS a) λc=>.leaf (.loc k 0,[],[(k,⟨c,some t⟩)])
 | .build t ps=>match Pi ρ ps.toList,Gx P t with
  | some l,some z=>match VD P t with
   | true=>match Ph (Te P t) (z.map Cv) l with|some c=>one (.agg c)|none=>.stuck "build: parts"
   | false=>.stuck "build: sizes"
  | _,_=>.stuck "build"
 | .buildSlice t len ps=>match Pi ρ ps.toList with|some l=>aaB P t len k l|none=>.stuck "buildSlice: operands"
 | .load t x=>o1 ρ x λa=>aaj P G t H a
 | .store t x y=>o2 ρ x y λa b=>aak P t H a b
 | .nilCheck x=>o1 ρ x aax
 | .binOp op t x y _=>o2 ρ x y λa b=>aau P SE fc op t a b
 | .unOp op _ x=>o1 ρ x λa=>sUn op a
 | .convert s d x=>o1 ρ x λa=>aaw P s d a
 | .makeFunc f a c=>match MN ρ a.toList,MN ρ c.toList with|some x,some y=>one (.fn f x y)|_,_=>.stuck "makeFunc"
 | .fieldAddr t x f=>o1 ρ x λa=>Pf "fieldAddr" (aam P t f a)
 | .field t x f=>o1 ρ x λa=>Pf "field" (aal P t f a)
 | .indexAddr t x i=>o2 ρ x i λa b=>aao P fc t a b
 | .index t x i=>o2 ρ x i λa b=>aap P fc t a b
 | .extract x i=>o1 ρ x λa=>Pf "extract" (aaq a i)
 | .call { callee:=.builtin .len,args:=args,argTypes:=ts }=>match args.toList,ts.toList with
  | [x],[t]=>o1 ρ x λa=>sLen P t H a
  | _,_=>.stuck "len: operands"
 | .call { callee:=.builtin .min,args:=args,argTypes:=_ }=>match args.toList with
  | [x,y]=>o2 ρ x y λa b=>match a,b with
   | .int k a,.int _ b=>zA (ZU a b) λx=>one (.int k x)
   | _,_=>.stuck "min"
  | _=>.stuck "min: operands"
 | .call { callee:=.builtin .max,args:=args,argTypes:=_ }=>match args.toList with
  | [x,y]=>o2 ρ x y λa b=>match a,b with
   | .int k a,.int _ b=>zA (VX a b) λx=>one (.int k x)
   | _,_=>.stuck "max"
  | _=>.stuck "max: operands"
 | .sliceToArrayPointer t x=>o1 ρ x λa=>aay P t a
 | .makeSlice t x y=>o2 ρ x y λa b=>aaz P t k a b
 | .slice t x none none none=>o1 ρ x λa=>aaA P t a
 | _=>.stuck "no such operation"
open Go.RowKit
theorem SH.aCp {s:wF} {H:SH} {k:Nat} {o:SO} {t:TypeId} (h:hget H k=some o) (ht:o.t=some t):SH.den s H k=some (.own (SV.aaE s o.c) t):=by unfold SH.den;rw[h,Option.map_some,SO.aCW s ht]
theorem SH.aCG {s:wF} {H:SH} {k:Nat} {o:SO} (h:hget H k=some o) (ht:o.t=none) (hm:Dj o.c=none) (ho:DT o.c=none):SH.den s H k=some (.rd (wO ((FR o.c).den s).toNat) (Di ((FR o.c).den s).toNat)):=by unfold SH.den;rw[h,Option.map_some,SO.aCG s ht hm ho]
theorem SH.aCX {s:wF} {H:SH} {k:Nat} {o:SO} {r:TE} (h:hget H k=some o) (ht:o.t=none) (hm:Dj o.c=none) (ho:DT o.c=some r):SH.den s H k=some (.rd (r.n.den s).toNat (Cw s r.b r.ks (r.n.den s).toNat)):=by unfold SH.den;rw[h,Option.map_some,SO.aCX s ht hm ho]
theorem SH.aC3 {s:wF} {H:SH} {k:Nat} {o:SO} {es:List (Value×Value)} (h:hget H k=some o) (ht:o.t=none) (hm:Dj o.c=some es):SH.den s H k=some (.mp es):=by unfold SH.den;rw[h,Option.map_some,SO.aC3 s ht hm]
section
variable {P:Program} {G:wQ} {SE:Pj} {E:xV} {Φ:yE} {s:wF} {r:SR} {fc:Facts}
theorem FV {a:SV} (h:(one a).path Φ s=some r):r=(a,[],[]):=by cases h;rfl
theorem TH {w:String} {x:Option SV} (h:(Pf w x).path Φ s=some r):∃ a,x=some a/\r=(a,[],[]):=by
 cases x with
 | none=>cases h
 | some a=>cases h;exact⟨a,rfl,rfl⟩
theorem Dk {ρ:Operand->Option SV} {x:Operand} {f:SV->vU SR} (h:(o1 ρ x f).path Φ s=some r):∃ a,ρ x=some a/\(f a).path Φ s=some r:=by
 unfold o1 at h;split at h
 ·rename_i a ha;exact⟨a,ha,h⟩
 ·cases h
theorem MO {ρ:Operand->Option SV} {x y:Operand} {f:SV->SV->vU SR} (h:(o2 ρ x y f).path Φ s=some r):∃ a b,ρ x=some a/\ρ y=some b/\(f a b).path Φ s=some r:=by
 unfold o2 at h;split at h
 ·rename_i a ha;split at h
  ·rename_i b hb;exact⟨a,b,ha,hb,h⟩
  ·cases h
 ·cases h
theorem ET {x:X} {k:X->vU SR} (h:(zA x k).path Φ s=some r):(k x).path Φ s=some r:=by rwa [aoI] at h
theorem aoZ {t:TypeId} {H:SH} {a:SV} (h:(aaj P G t H a).path Φ s=some r):CK P G t (SH.den s H) (a.den s)=some (r.1.den s,r.2.1,xz s r.2.2):=by
 unfold aaj at h;split at h
 ·rename_i b off;split at h
  ·rename_i o ho;split at h
   ·rename_i t0 ht;split at h
    ·rename_i r' hr;cases h;simp only[SV.den,CK,SH.aCp ho ht,ML s hr];rfl
    ·cases h
   ·cases h
  ·cases h
 ·rename_i g off;split at h
  ·rename_i c hc;split at h
   ·rename_i r' hr;cases h;have:=ML s hr;rw[FQ] at this;simp only[SV.den,CK,hc,this];rfl
   ·cases h
  ·cases h
 ·cases h
theorem ao0 {t:TypeId} {H:SH} {x y:SV} (h:(aak P t H x y).path Φ s=some r):Je P t (SH.den s H) (x.den s) (y.den s)=some (r.1.den s,r.2.1,xz s r.2.2):=by
  unfold aak at h;split at h
  · rename_i b off;split at h
    · cases h
    · rename_i o hno ho
      obtain⟨t0,ht⟩:∃ t0,o.t=some t0:=by
        obtain⟨c,t0⟩:=o
        cases t0 with
        | none=>exact absurd rfl (hno c)
        | some t0=>exact⟨t0,rfl⟩
      split at h
      · rename_i n h1 hn;split at h
        · rename_i h2 h3;rw[MG] at h;cases h;have h2:=xO.1 h2;have h3:=Nat.le_of_ble_eq_true h3;have hl:(yu (y.den s)).length=(cellsS y).length:=by rw[<- Pb,Ep]
          have ha:(yu (y.den s)).all Mt=true:=by rw[<- Pb,SV.aeX,List.all_map,List.all_eq_true];intro z hz;exact aoY (List.all_eq_true.1 h1 z hz)
          simp only[SV.den,Je,SH.aCp ho ht]
          rw[if_pos (by
            simp only[Bool.and_eq_true,decide_eq_true_eq];refine⟨⟨ha,?_⟩,?_⟩
            · rw[hl,hn,h2]
            · rw[hl,Ep];exact h3)]
          congr 3;simp only[xz,List.map_cons,List.map_nil,ht,SO.den,agv,KM,aah,aai,Pb,<- hl]
        · cases h
      · cases h
    · cases h
  · cases h
theorem ao1 {t:TypeId} {l:List AV} {f off:Nat} {ft:TypeId} (hf:Ib P t f=some (off,ft)):Ku P t f (Bi l)=Aq P ft l off:=by
 have hc:=TF l;unfold Bi at hc ⊢
 cases h:yF l with
 | none=>simp only[Ku,hf,yu]
 | some vs =>
  rw[h] at hc;simp only[Ku,hf];rw[hc]
theorem ao2 {t:TypeId} {f:Nat} {x a:SV} (h:aal P t f x=some a):Ku P t f (x.den s)=some (a.den s):=by
 unfold aal at h;split at h
 ·rename_i l;split at h
  ·rename_i off ft hf;simp only[SV.den];rw[ao1 hf,ML s h]
  ·cases h
 ·rename_i cs;split at h
  ·rename_i off ft hf;have:=ML s h;rw[FQ] at this;simp only[SV.den,Ku,hf,yu,Value.cells];exact this
  ·cases h
 ·cases h
theorem ao3 {t:TypeId} {f:Nat} {x a:SV} (h:aam P t f x=some a):Kv P t f (x.den s)=some (a.den s):=by
 unfold aam at h;unfold Kv;split at h
 ·rename_i off ft hf;rw[hf];simp only;split at h
  ·rename_i n hs;rw[hs];simp only;split at h
   ·rw[yK] at h;cases h;rfl
   ·rw[yK] at h;cases h;rfl
   ·cases h
  ·cases h
 ·cases h
theorem ao4 (hf:xS s fc) {t:TypeId} {H:wm} {x i:SV} (h:(aao P fc t x i).path Φ s=some r):El (ER P t H (x.den s) (i.den s))=some (r.1.den s,r.2.1,xz s r.2.2):=by
 unfold aao at h;split at h
 ·rename_i k n;split at h
  ·rename_i b o;split at h
   ·rename_i len el ha;split at h
    ·rename_i sz hs;obtain⟨j,h1,h2,h3⟩:=TG hf h;rw[yK] at h3;cases h3;simp only[SV.den,ER,ha,hs,h2];rw[if_pos ⟨by omega,by omega⟩];rfl
    ·cases h
   ·cases h
  ·rename_i g o;split at h
   ·rename_i len el ha;split at h
    ·rename_i sz hs;obtain⟨j,h1,h2,h3⟩:=TG hf h;rw[yK] at h3;cases h3;simp only[SV.den,ER,ha,hs,h2];rw[if_pos ⟨by omega,by omega⟩];rfl
    ·cases h
   ·cases h
  ·rename_i b o len cap;split at h
   ·rename_i el ha;split at h
    ·rename_i sz hs;obtain⟨j,h1,h2,h3⟩:=TG hf h;rw[yK] at h3;cases h3;simp only[SV.den,ER,ha,hs,h2];rw[if_pos ⟨by omega,by omega⟩];rfl
    ·cases h
   ·cases h
  ·cases h
 ·cases h
theorem ao5 {t:TypeId} {l:List AV} {k:IntKind} {n:Int} {len el sz:Nat} (ha:Dw P t=some (len,el)) (hs:yn P el=some sz) (hn:0<=n/\n<len):Kw P t (Bi l) (.v (.int k n))=Aq P el l (n.toNat*sz):=by
 have hc:=TF l;unfold Bi at hc ⊢
 cases h:yF l with
 | none=>simp only[Kw,ha,hs,if_pos hn]
 | some vs =>
  rw[h] at hc;simp only[yu,Value.cells] at hc;simp only[Kw,ha,hs,if_pos hn];rw[hc]
theorem ao6 (hf:xS s fc) {t:TypeId} {x i:SV} (h:(aap P fc t x i).path Φ s=some r):wt (Kw P t (x.den s) (i.den s))=some (r.1.den s,r.2.1,xz s r.2.2):=by
 unfold aap at h;split at h
 ·rename_i k n;split at h
  ·rename_i l;split at h
   ·rename_i len el ha;split at h
    ·rename_i sz hs;obtain⟨j,h1,h2,h3⟩:=TG hf h;obtain⟨a,h4,rfl⟩:=TH h3;simp only[SV.den];rw[ao5 ha hs (by rw[h2];omega),h2,show((j:Int)).toNat=j by simp,ML s h4];rfl
    ·cases h
   ·cases h
  ·rename_i cs;split at h
   ·rename_i len el ha;split at h
    ·rename_i sz hs;obtain⟨j,h1,h2,h3⟩:=TG hf h;obtain⟨a,h4,rfl⟩:=TH h3;have:=ML s h4;rw[FQ] at this;simp only[SV.den,Kw,ha,hs,h2];rw[if_pos ⟨by omega,by omega⟩,show((j:Int)).toNat=j by simp,this];rfl
    ·cases h
   ·cases h
  ·cases h
 ·cases h
theorem ao7 {x a:SV} {i:Nat} (h:aaq x i=some a):OB (x.den s) i=some (a.den s):=by
 unfold aaq at h;split at h
 ·rename_i vs;split at h
  ·rename_i v hv;cases h;simp only[SV.den,OB,hv,aae]
  ·cases h
 ·rename_i l;have:=agu s h;simp only[SV.den];unfold Cq
  cases hv:yF (SV.aaE s l) with
  | none=>exact this
  | some vs =>
   have h2:=Ms (e:=⟨λ_=>0,λ_=>undef⟩) hv
   have h3:SV.aaE s l=vs.map .v:=by have h4:=TF (SV.aaE s l);unfold Bi at h4;rw[hv] at h4;simpa [yu,Value.cells] using h4.symm
   rw[h3] at this;simp only[OB];rw[List.getElem?_map] at this
   cases hg:vs[i]? with
   | none=>rw[hg] at this;cases this
   | some v=>rw[hg] at this;simp only[List.getElem?_toArray,List.toList_toArray,hg];exact this
 ·cases h
theorem ao8 {c:X} {w:String} {b:vU SR} (h:(O4 c (.stuck w) b).path Φ s=some r):c.den s=0/\b.path Φ s=some r:=by
 rw[ZW] at h;split at h
 ·rename_i hc;exact⟨hc,h⟩
 ·cases h
theorem agw {b:Bool} (h:wh b=0):b=false:=by cases b<;>first|rfl|cases h
theorem ao9 {k:IntKind} (hk:k.signed=false) (n:Int):0<=k.wrap n:=by unfold IntKind.wrap IntKind.bits;cases k<;>first|(cases hk;done)|(simp[IntKind.signed];omega)
theorem agx (hf:xS s fc) {w:String} {c:X} {t:vU SR} (h:(KN fc w c t).path Φ s=some r):c.den s=0/\t.path Φ s=some r:=by
 unfold KN at h;split at h
 ·cases h
 ·rename_i hd;have:=Dh hf hd;exact⟨by simpa using this,h⟩
 ·exact ao8 h
theorem apa (hf:xS s fc) {t:TypeId} {op:BinOp} {k k':IntKind} {a b:X} (h:(aat fc op k k' a b).path Φ s=some r):∃ v,Bj P op t (.int k (a.den s)) (.int k' (b.den s))=some v /\ .v v=r.1.den s/\r.2=([],[]):=by
 have ar:∀ {op':BinOp},(zA (zm op' k a b) λx=>one (.int k x)).path Φ s=some r->AV.v (.int k (wJ op' k (a.den s) (b.den s)))=r.1.den s/\r.2=([],[]):=λh=>by have h:=FV (ET h);subst h;exact⟨by simp only[SV.den,KG],rfl⟩
 have cm:∀ {op':BinOp},(zA (zm op' k a b) λx=>one (.bool x)).path Φ s=some r->AV.v (.bool (wJ op' k (a.den s) (b.den s) != 0))=r.1.den s/\r.2=([],[]):=λh=>by have h:=FV (ET h);subst h;exact⟨by simp only[SV.den,KG],rfl⟩
 have nn:∀ {op':BinOp},(match X.inK k' b,k'.signed with
   | true,false=>zA (zm op' k a b) λx=>one (.int k x)
   | _,_=>KN fc "shift below 0" (zm .lss k' b (.lit (.ofNat 0))) (zA (zm op' k a b) λx=>one (.int k x))).path Φ s=some r ->
   ¬ b.den s<0/\(zA (zm op' k a b) λx=>one (.int k x)).path Φ s=some r:=λh=>by
  split at h
  ·rename_i h1 h2;refine⟨?_,h⟩;rw[<- X.aCx s h1];have:=ao9 h2 (b.den s);omega
  ·obtain⟨h1,h2⟩:=agx hf h;refine⟨?_,h2⟩;rw[KG] at h1;have:=agw h1;intro hc;simp only[decide_eq_false_iff_not] at this;exact this hc
 have nz:∀ {op':BinOp},(KN fc "by 0" (zm .eql k' b (.lit (.ofNat 0))) (zA (zm op' k a b) λx=>one (.int k x))).path Φ s=some r ->
   b.den s≠0/\(zA (zm op' k a b) λx=>one (.int k x)).path Φ s=some r:=λh=>by
  obtain⟨h1,h2⟩:=agx hf h;refine⟨?_,h2⟩;rw[KG] at h1;have:=agw h1;intro hc;rw[hc] at this;cases this
 cases op<;>simp only[aat] at h
 case shl =>
  obtain⟨h1,h2⟩:=nn h;exact⟨_,by simp only[Bj,if_neg h1];rfl,ar h2⟩
 case shr =>
  obtain⟨h1,h2⟩:=nn h;exact⟨_,by simp only[Bj,if_neg h1];rfl,ar h2⟩
 case quo =>
  split at h
  ·rename_i hk;have hk:=Cu hk;obtain⟨h1,h2⟩:=nz h;exact⟨_,by simp only[Bj,if_pos (And.intro hk h1)];rfl,ar h2⟩
  ·cases h
 case rem =>
  split at h
  ·rename_i hk;have hk:=Cu hk;obtain⟨h1,h2⟩:=nz h;exact⟨_,by simp only[Bj,if_pos (And.intro hk h1)];rfl,ar h2⟩
  ·cases h
 all_goals
  split at h
  ·rename_i hk;have hk:=Cu hk
   first
    | exact⟨_,by simp only[Bj,if_pos hk,wJ,agb],ar h⟩
    | exact⟨_,by simp only[Bj,if_pos hk,wJ,yX],cm h⟩
  ·cases h
theorem apb (hSE:Wi P SE E) (hf:xS s fc) {t:TypeId} {op:BinOp} {x y:SV} (h:(aau P SE fc op t x y).path Φ s=some r):wt (Ky P E op t (x.den s) (y.den s))=some (r.1.den s,r.2.1,xz s r.2.2):=by
 unfold aau at h;split at h
 ·rename_i k a k' b;obtain⟨v,h1,h2,h3⟩:=apa (P:=P) hf (t:=t) h;simp only[SV.den,Ky,h1,wt,h2,h3];rfl
 ·rename_i a b;split at h
  ·rename_i hu;split at h
   ·have h:=FV (ET h);subst h;simp only[SV.den,Ky,Bj,hu,wt,agh,yX];rfl
   ·have h:=FV (ET h);subst h;simp only[SV.den,Ky,Bj,hu,wt,ZT,agh,yX];rfl
   ·cases h
  ·cases h
 ·rename_i hi hb;have key:∀ u,SE t x y=some u->∃ a b,x.den s = .v a/\y.den s = .v b/\Bj P .eql t a b=none/\Bj P .neq t a b=none/\E .eql t a b=some (.bool (u.den s != 0))/\E .neq t a b=some (.bool (!(u.den s != 0))):=λu hu=>hSE t x y u s hu
  split at h
  ·split at h
   ·rename_i u hu;have h:=FV (ET h);subst h;obtain⟨a,b,h1,h2,p1,p2,h3,h4⟩:=key u hu;simp only[h1,h2,Ky,p1,h3,wt,SV.den];rfl
   ·cases h
  ·split at h
   ·rename_i u hu;have h:=FV (ET h);subst h;obtain⟨a,b,h1,h2,p1,p2,h3,h4⟩:=key u hu;simp only[h1,h2,Ky,p2,h4,wt,SV.den,ZT,yX];rfl
   ·cases h
  ·cases h
theorem apc {op:UnOp} {x:SV} (h:(sUn op x).path Φ s=some r):wt (OC op (x.den s))=some (r.1.den s,r.2.1,xz s r.2.2):=by
 unfold sUn at h;split at h
 ·have h:=FV (ET h);subst h;simp only[SV.den,OC,wt,KG,wJ];rfl
 ·have h:=FV (ET h);subst h;simp only[SV.den,OC,wt,agf,Tx,agb];rfl
 ·have h:=FV (ET h);subst h;simp only[SV.den,OC,wt,ZT,yX];rfl
 ·cases h
theorem apd {src dst:TypeId} {x:SV} (h:(aaw P src dst x).path Φ s=some r):wt (VE P src dst (x.den s))=some (r.1.den s,r.2.1,xz s r.2.2):=by
 unfold aaw at h;split at h
 ·split at h
  ·rename_i k d hk hd;have h:=FV (ET h);subst h;simp only[SV.den,VE,hk,hd,wt,aoL];rfl
  ·cases h
 ·cases h
theorem ape (f:FuncId) (a c:List AV):VF (Cr (.func f) a c)=some (Cr (.func f) a c):=by unfold Cr;split<;>rfl
theorem apf {x:SV} (h:(aax x).path Φ s=some r):wt (VF (x.den s))=some (r.1.den s,r.2.1,xz s r.2.2):=by
 unfold aax at h;split at h
 ·cases h;rfl
 ·cases h;rfl
 ·cases h;rfl
 ·cases h;simp only[SV.den,ape,wt];rfl
 ·cases h
theorem apg {t:TypeId} {H:SH} {x:SV} (h:(sLen P t H x).path Φ s=some r):El (Dy P t (SH.den s H) (x.den s))=some (r.1.den s,r.2.1,xz s r.2.2):=by
 unfold sLen at h;split at h
 ·rename_i el hu;split at h
  ·rename_i k;split at h
   ·rename_i kd x hk;cases h;simp only[SV.den,Dy,hu,SH.aCG hk rfl rfl rfl];rfl
   ·rename_i c _ hk;split at h
    ·rename_i ro hm ho;have h:=ET h;cases h;simp only[SV.den,Dy,hu,SH.aCX hk rfl hm ho,El,agi,X.den]
     have e:((ro.n.den s).toNat:Int)=if Int.ofNat 0>ro.n.den s then Int.ofNat 0 else ro.n.den s:=by show _=if (0:Int)>ro.n.den s then(0:Int) else ro.n.den s;split<;>omega
     rw[e];rfl
    ·cases h
   ·cases h
  ·cases h;simp only[SV.den,Dy,hu];rfl
  ·cases h;simp only[SV.den,Dy,hu];rfl
  ·cases h
 ·rename_i hu;split at h
  ·rw[yK] at h;cases h;simp only[SV.den,Dy,hu];rfl
  ·cases h
 ·rename_i n el hu;cases h;simp only[Dy,hu];rfl
 ·cases h
theorem aph {t:TypeId} {H:wm} {x:SV} (h:(aay P t x).path Φ s=some r):El (Jh P t H (x.den s))=some (r.1.den s,r.2.1,xz s r.2.2):=by
 unfold aay at h;split at h
 ·rename_i n el ha;split at h
  ·split at h
   ·rename_i hb;cases h;simp only[SV.den,Jh,ha,if_pos (Nat.le_of_ble_eq_true hb)];rfl
   ·cases h
  ·cases h
 ·cases h
theorem api {t:TypeId} {k:Nat} {x y:SV} (h:(aaz P t k x y).path Φ s=some r):OE P t k (x.den s) (y.den s)=some (r.1.den s,r.2.1,xz s r.2.2):=by
 unfold aaz at h;split at h
 ·rename_i k1 n k2 m;split at h
  ·rename_i el hel;split at h
   ·rename_i sz z b hs hz hb;split at h
    ·rename_i h1 h2 h3 h4;rw[MG] at h;cases h;have h1:=Nat.le_of_ble_eq_true h1;have h2:m<16777216:=by simpa [Nat.blt_eq] using h2
     have h3:=Nat.le_of_ble_eq_true h3;have h4:m*sz≠0:=λe=>by rw[e] at h4;cases h4
     simp only[SV.den,X.den,OE,hel,hs,hz,hb,Int.ofNat_eq_natCast];rw[if_pos ⟨by omega,by omega,by omega,h3,by simpa using h4⟩];simp only[xz,List.map_cons,List.map_nil,SO.den,FQ,Int.ofNat_eq_natCast,Int.toNat_natCast]
    ·cases h
   ·cases h
  ·cases h
 ·cases h
theorem apj {t:TypeId} {x:SV} (h:(aaA P t x).path Φ s=some r):wt (Tf P t (x.den s))=some (r.1.den s,r.2.1,xz s r.2.2):=by
 unfold aaA at h;split at h
 ·rename_i n el ha;split at h
  ·rename_i b o sz hs;cases h;simp only[SV.den,Tf,ha,hs];rfl
  ·cases h
 ·cases h
theorem apk {t:TypeId} {len k:Nat} {ps:List (Nat×SV)} (h:(aaB P t len k ps).path Φ s=some r):OD P t len k (We s ps)=some (r.1.den s,r.2.1,xz s r.2.2):=by
 unfold aaB at h;split at h
 ·rename_i el hel;split at h
  ·rename_i sz z hs hz;split at h
   ·rename_i h1 h2;split at h
    ·rename_i c hc;cases h;have h1:=Nat.le_of_ble_eq_true h1;have h2:len*sz≠0:=λe=>by rw[e] at h2;cases h2
     have h3:=aar s hc;rw[FQ] at h3;simp only[OD,hel,hs,hz,h3];rw[if_pos ⟨h1,h2⟩];rfl
    ·cases h
   ·cases h
  ·cases h
 ·cases h
theorem apl (hSE:Wi P SE E) (hf:xS s fc) {op:Op} {ρ:Operand->Option SV} {ρ':Operand->Option AV} (hρ:RD s ρ ρ') {H:SH} {k:Nat} (h:(aaC P G SE fc op ρ H k).path Φ s=some r) :
  xc P G E op ρ' (SH.den s H) k=some (r.1.den s,r.2.1,xz s r.2.2):=by
 unfold aaC at h;split at h
 ·obtain⟨a,ha,h⟩:=Dk h;cases h;simp only[xc,hρ _ _ ha,wt];rfl
 ·obtain⟨a,ha,h⟩:=Dk h;cases h;simp only[xc,hρ _ _ ha,wt];rfl
 ·obtain⟨v,hv,h⟩:=Dk h;split at h
  ·rename_i q;rw[ZW] at h;have hq:=hρ _ _ hv;split at h
   ·rename_i hc;obtain⟨a,ha,h⟩:=Dk h;cases h;simp only[xc,hq,SV.den,hc,bne_self_eq_false,Bool.false_eq_true,if_false,hρ _ _ ha,wt];rfl
   ·rename_i hc;obtain⟨a,ha,h⟩:=Dk h;cases h;have:(q.den s != 0)=true:=by simpa using hc
    simp only[xc,hq,SV.den,this,if_true,hρ _ _ ha,wt];rfl
  ·cases h
 ·split at h
  ·rename_i z hz;rw[MG] at h;cases h;simp only[xc,hz,SV.den,xz,List.map_cons,List.map_nil,SO.den,FQ]
  ·cases h
 ·obtain⟨a,ha,h⟩:=Dk h;rw[MG] at h;cases h;simp only[xc,hρ _ _ ha,SV.den,xz,List.map_cons,List.map_nil,SO.den,Pb]
 ·split at h
  ·rename_i l z hl hz;split at h
   ·rename_i hs;split at h
    ·rename_i c hc;cases h;have h3:=aar s hc;rw[FQ] at h3;simp only[xc,aas hρ hl,hz,hs,if_true,h3,SV.den];rfl
    ·cases h
   ·cases h
  ·cases h
 ·split at h
  ·rename_i l hl;simp only[xc,aas hρ hl];exact apk h
  ·cases h
 ·obtain⟨a,ha,h⟩:=Dk h;simp only[xc,hρ _ _ ha];exact aoZ h
 ·obtain⟨a,b,ha,hb,h⟩:=MO h;simp only[xc,hρ _ _ ha,hρ _ _ hb];exact ao0 h
 ·obtain⟨a,ha,h⟩:=Dk h;simp only[xc,hρ _ _ ha];exact apf h
 ·obtain⟨a,b,ha,hb,h⟩:=MO h;simp only[xc,hρ _ _ ha,hρ _ _ hb];exact apb hSE hf h
 ·obtain⟨a,ha,h⟩:=Dk h;simp only[xc,hρ _ _ ha];exact apc h
 ·obtain⟨a,ha,h⟩:=Dk h;simp only[xc,hρ _ _ ha];exact apd h
 ·split at h
  ·rename_i x y hx hy;cases h;simp only[xc,Wh hρ hx,Wh hρ hy,SV.den];rfl
  ·cases h
 ·obtain⟨a,ha,h⟩:=Dk h;obtain⟨b,hb,rfl⟩:=TH h;simp only[xc,hρ _ _ ha,ao3 hb,wt];rfl
 ·obtain⟨a,ha,h⟩:=Dk h;obtain⟨b,hb,rfl⟩:=TH h;simp only[xc,hρ _ _ ha,ao2 hb,wt];rfl
 ·obtain⟨a,b,ha,hb,h⟩:=MO h;simp only[xc,hρ _ _ ha,hρ _ _ hb];exact ao4 hf h
 ·obtain⟨a,b,ha,hb,h⟩:=MO h;simp only[xc,hρ _ _ ha,hρ _ _ hb];exact ao6 hf h
 ·obtain⟨a,ha,h⟩:=Dk h;obtain⟨b,hb,rfl⟩:=TH h;simp only[xc,hρ _ _ ha,ao7 hb,wt];rfl
 ·split at h
  ·rename_i x t hx ht;obtain⟨a,ha,h⟩:=Dk h;simp only[xc,hx,ht,hρ _ _ ha];exact apg h
  ·cases h
 ·split at h
  ·rename_i x y hx;obtain⟨a,b,ha,hb,h⟩:=MO h;split at h
   ·have h:=FV (ET h);subst h;simp only[xc,hx,hρ _ _ ha,hρ _ _ hb,SV.den,aoN];rfl
   ·cases h
  ·cases h
 ·split at h
  ·rename_i x y hx;obtain⟨a,b,ha,hb,h⟩:=MO h;split at h
   ·have h:=FV (ET h);subst h;simp only[xc,hx,hρ _ _ ha,hρ _ _ hb,SV.den,agi];rfl
   ·cases h
  ·cases h
 ·obtain⟨a,ha,h⟩:=Dk h;simp only[xc,hρ _ _ ha];exact aph h
 ·obtain⟨a,b,ha,hb,h⟩:=MO h;simp only[xc,hρ _ _ ha,hρ _ _ hb];exact api h
 ·obtain⟨a,ha,h⟩:=Dk h;simp only[xc,hρ _ _ ha];exact apj h
 ·cases h
end
mutual
def AV.ren (f:Nat->Nat):AV->AV
 | .v x=>.v x
 | .loc b off=>.loc (f b) off
 | .sl b off len cap=>.sl (f b) off len cap
 | .hd k=>.hd (f k)
 | .ha k off=>.ha (f k) off
 | .fn g a c=>.fn g (AV.akX f a) (AV.akX f c)
 | .tup l=>.tup (AV.akX f l)
 | .agg l=>.agg (AV.akX f l)
def AV.akX (f:Nat->Nat):List AV->List AV
 | []=>[]
 | x::l=>AV.ren f x::AV.akX f l
end
def AO.ren (f:Nat->Nat):AO->AO
 | .own c t=>.own (AV.akX f c) t
 | .rd n c=>.rd n c
 | .mp es=>.mp es
def agy (f:Nat->Nat) (e e':Env) (l:List Nat):Prop:=∀ r∈l,e'.blk (f r)=e.blk r/\e'.hnd (f r)=e.hnd r
mutual
theorem AV.aDE {f:Nat->Nat} {e e':Env} : ∀ x:AV,agy f e e' x.refs->(x.ren f).val e'=x.val e
 | .v _,_=>rfl
 | .loc b off,h=>by simp only[AV.ren,AV.val];rw[(h b (by simp[AV.refs])).1]
 | .sl b off len cap,h=>by simp only[AV.ren,AV.val];rw[(h b (by simp[AV.refs])).1]
 | .hd k,h=>by simp only[AV.ren,AV.val];rw[(h k (by simp[AV.refs])).2]
 | .ha k off,h=>by simp only[AV.ren,AV.val];rw[(h k (by simp[AV.refs])).2]
 | .fn g a c,h=>by simp only[AV.ren,AV.val];rw[AV.aCC a (λr hr=>h r (by rw[AV.refs];exact List.mem_append_left _ hr)),AV.aCC c (λr hr=>h r (by rw[AV.refs];exact List.mem_append_right _ hr))]
 | .tup l,h=>by simp only[AV.ren,AV.val];rw[AV.aCC l (λr hr=>h r (by rw[AV.refs];exact hr))]
 | .agg l,h=>by simp only[AV.ren,AV.val];rw[AV.aCC l (λr hr=>h r (by rw[AV.refs];exact hr))]
theorem AV.aCC {f:Nat->Nat} {e e':Env} : ∀ l:List AV,agy f e e' (AV.aav l)->AV.vals e' (AV.akX f l)=AV.vals e l
 | [],_=>rfl
 | x::l,h=>by rw[AV.akX,AV.vals,AV.vals,AV.aDE x (λr hr=>h r (by rw[AV.aav];exact List.mem_append_left _ hr)),AV.aCC l (λr hr=>h r (by rw[AV.aav];exact List.mem_append_right _ hr))]
end
mutual
theorem AV.aDo {f:Nat->Nat} : ∀ (x:AV) {r:Nat},r∈(x.ren f).refs->∃ q∈x.refs,r=f q
 | .v _,r,h=>by simp[AV.ren,AV.refs] at h
 | .loc b off,r,h=>by simp[AV.ren,AV.refs] at h;exact⟨b,by simp[AV.refs],h⟩
 | .sl b off len cap,r,h=>by simp[AV.ren,AV.refs] at h;exact⟨b,by simp[AV.refs],h⟩
 | .hd k,r,h=>by simp[AV.ren,AV.refs] at h;exact⟨k,by simp[AV.refs],h⟩
 | .ha k off,r,h=>by simp[AV.ren,AV.refs] at h;exact⟨k,by simp[AV.refs],h⟩
 | .fn g a c,r,h=>by
  simp only[AV.ren,AV.refs,List.mem_append] at h;rcases h with h|h
  ·obtain⟨q,hq,e⟩:=AV.aCq a h;exact⟨q,by rw[AV.refs];exact List.mem_append_left _ hq,e⟩
  ·obtain⟨q,hq,e⟩:=AV.aCq c h;exact⟨q,by rw[AV.refs];exact List.mem_append_right _ hq,e⟩
 | .tup l,r,h=>by simp only[AV.ren,AV.refs] at h;obtain⟨q,hq,e⟩:=AV.aCq l h;exact⟨q,by rw[AV.refs];exact hq,e⟩
 | .agg l,r,h=>by simp only[AV.ren,AV.refs] at h;obtain⟨q,hq,e⟩:=AV.aCq l h;exact⟨q,by rw[AV.refs];exact hq,e⟩
theorem AV.aCq {f:Nat->Nat} : ∀ (l:List AV) {r:Nat},r∈AV.aav (AV.akX f l)->∃ q∈AV.aav l,r=f q
 | [],r,h=>by simp[AV.akX,AV.aav] at h
 | x::l,r,h=>by
  simp only[AV.akX,AV.aav,List.mem_append] at h;rcases h with h|h
  ·obtain⟨q,hq,e⟩:=AV.aDo x h;exact⟨q,by rw[AV.aav];exact List.mem_append_left _ hq,e⟩
  ·obtain⟨q,hq,e⟩:=AV.aCq l h;exact⟨q,by rw[AV.aav];exact List.mem_append_right _ hq,e⟩
end
def AL (src:Nat->Option Nat) (e e2:Env):Env:=⟨λj=>match src j with|some n=>e2.blk n|none=>e.blk j,λj=>match src j with|some n=>e2.hnd n|none=>e.hnd j⟩
theorem FW {src:Nat->Option Nat} {e e2:Env} {j n:Nat} (h:src j=some n):(AL src e e2).blk j=e2.blk n/\(AL src e e2).hnd j=e2.hnd n:=by unfold AL;simp only[h];exact⟨trivial,trivial⟩
theorem EU {src:Nat->Option Nat} {e e2:Env} {j:Nat} (h:src j=none):(AL src e e2).blk j=e.blk j/\(AL src e e2).hnd j=e.hnd j:=by unfold AL;simp only[h];exact⟨trivial,trivial⟩
theorem apm {G:wQ} {w0:World} {B0:xB} {e:Env} {H':wm} {w:World} (R:xh G w0 B0 e H' w) {keys:List Nat} {B:xB} (hBd:B.dom=keys) (hBb:∀ b∈B.blks,∃ j∈keys,b=e.blk j) (hBe:B.env=e)
  {e2:Env} {Hc:wm} {w':World} (R2:xh G w B e2 Hc w') (hown:∀ j∈keys,∃ c t,H' j=some (.own c t)) {src:Nat->Option Nat} {f:Nat->Nat}
  (h1:∀ j n,src j=some n->f n=j/\∃ c t,Hc n=some (.own c t)/\∀ r∈AV.aav c,src (f r)=some r)
  (h2:∀ j∈keys,src j=some j) (h3:∀ j,j∉keys->src j≠none->H' j=none) {Hn:wm} (hn:∀ j,Hn j=match src j with|some n=>(Hc n).map (AO.ren f)|none=>H' j) :
  xh G w0 B0 (AL src e e2) Hn w'/\Env.on H' e (AL src e e2)/\∀ j,H' j≠none->Hn j≠none:=by
 have hK:∀ j∈keys,e2.blk j=e.blk j/\e2.hnd j=e.hnd j:=λj hj=>by have:=(R2.env j (by rw[hBd];exact hj)).2;rw[hBe] at this;exact this
 have hon:Env.on H' e (AL src e e2):=by
  intro j hj
  cases hs:src j with
  | none=>exact EU hs
  | some n =>
   rw[(FW hs).1,(FW hs).2];by_cases hm:j∈keys
   ·have:=h2 j hm;rw[hs] at this;cases this;exact hK j hm
   ·exact absurd (h3 j hm (by rw[hs];simp)) hj
 have hdom:∀ j,H' j≠none->Hn j≠none:=by
  intro j hj;rw[hn]
  cases hs:src j with
  | none=>exact hj
  | some n =>
   obtain⟨_,c,t,hc,_⟩:=h1 j n hs;simp[hc]
 have hbk:∀ n j,src j=some n->e2.blk n<w.heap.size->∃ i∈keys,e2.blk n=e.blk i:=by
  intro n j hs hlt;obtain⟨_,c,t,hc,_⟩:=h1 j n hs;rcases R2.ge n c t hc with hg|hg
  ·omega
  ·exact hBb _ hg
 have hold:∀ b,b<w.heap.size->(∀ i∈keys,b≠e.blk i)->w'.heap[b]? = w.heap[b]?:=λb hb hne=>R2.old b hb (λhm=>by
  obtain⟨i,hi,rfl⟩:=hBb b hm;exact hne i hi rfl)
 have hnone:∀ j o,Hn j=some o->src j=none->H' j=some o:=λj o hj hs=>by rw[hn,hs] at hj;exact hj
 have hsome:∀ j n o,Hn j=some o->src j=some n->∃ c t,Hc n=some (.own c t)/\o = .own (AV.akX f c) t/\∀ r∈AV.aav c,src (f r)=some r:=λj n o hj hs=>by obtain⟨_,c,t,hc,hr⟩:=h1 j n hs;rw[hn,hs] at hj;simp only[hc,Option.map_some,AO.ren,Option.some.injEq] at hj;exact⟨c,t,hc,hj.symm,hr⟩
 refine⟨⟨R2.os.trans R.os,R2.tape.trans R.tape,R2.output.trans R.output,Nat.le_trans R.size R2.size,?_,R2.gl,?_,?_,?_,?_,?_,?_,?_,?_,λj n l hj b hv=>by
  cases hs:src j with
  | some m=>obtain⟨c0,t0,hc,ho,hr⟩:=hsome j m _ hj hs;cases ho
  | none=>rw[(EU hs).2] at hv;exact R.new j n l (hnone j _ hj hs) b hv,λj es hj=>by
  cases hs:src j with
  | some m=>obtain⟨c0,t0,hc,ho,hr⟩:=hsome j m _ hj hs;cases ho
  | none =>
   have h0:=hnone j _ hj hs;obtain⟨m1,m2⟩:=R.mp j es h0;rw[(EU hs).2];refine⟨m1.same (λb hv hb=>hold b hb (λi hi he=>?_)),λj' c t hj' hv=>?_⟩
   ·obtain⟨c',t',hi'⟩:=hown i hi;exact m2 i c' t' hi' (by rw[hv,he])
   ·cases hs':src j' with
    | none =>
     rw[(EU hs').1] at hv;exact m2 j' c t (hnone j' _ hj' hs') hv
    | some m =>
     rw[(FW hs').1] at hv;obtain⟨i,hi,he⟩:=hbk m j' hs' (m1.lt hv);obtain⟨c',t',hi'⟩:=hown i hi
     exact m2 i c' t' hi' (by rw[hv,he])⟩,hon,hdom⟩
 ·intro b hb hb0;rw[<- R.old b hb hb0];refine hold b (Nat.lt_of_lt_of_le hb R.size) (λi hi he=>?_);obtain⟨c,t,hc⟩:=hown i hi;rcases R.ge i c t hc with hg|hg
  ·omega
  ·rw[he] at hb0;exact hb0 hg
 ·intro j c t hj
  cases hs:src j with
  | some n =>
   obtain⟨c0,t0,hc,ho,hr⟩:=hsome j n _ hj hs;cases ho;rw[(FW hs).1,AV.aCC c0 (λr hrm=>FW (hr r hrm))];exact R2.own n c0 t hc
  | none =>
   have h0:=hnone j _ hj hs;rw[(EU hs).1,AV.azj hon c (λr hr=>R.refs j _ h0 r hr),hold (e.blk j) (R.lt h0) (λi hi he=>?_)]
   ·exact R.own j c t h0
   ·obtain⟨c',t',hi'⟩:=hown i hi;have:=R.inj j c t i c' t' h0 hi' he;rw[this,h2 i hi] at hs;cases hs
 ·intro j c t hj
  cases hs:src j with
  | some n =>
   obtain⟨c0,t0,hc,ho,hr⟩:=hsome j n _ hj hs;rw[(FW hs).1];rcases R2.ge n c0 t0 hc with hg|hg
   ·exact .inl (Nat.le_trans R.size hg)
   ·obtain⟨i,hi,he⟩:=hBb _ hg;obtain⟨c',t',hi'⟩:=hown i hi;rw[he];exact R.ge i c' t' hi'
  | none=>rw[(EU hs).1];exact R.ge j c t (hnone j _ hj hs)
 ·intro j c t hj x hx
  cases hs:src j with
  | some n =>
   obtain⟨c0,t0,hc,ho,hr⟩:=hsome j n _ hj hs;rw[(FW hs).1];exact R2.glo n c0 t0 hc x hx
  | none=>rw[(EU hs).1];exact R.glo j c t (hnone j _ hj hs) x hx
 ·have mix:∀ j n j',src j=some n->src j'=none->(∃ c t,H' j'=some (.own c t))->e2.blk n≠e.blk j':=by intro j n j' hs hs' ⟨c,t,hj'⟩ he;obtain⟨i,hi,h⟩:=hbk n j hs (by rw[he];exact R.lt hj');obtain⟨c',t',hi'⟩:=hown i hi;have:=R.inj i c' t' j' c t hi' hj' (by rw[<- h,he]);rw[<- this,h2 i hi] at hs';cases hs'
  intro j c t j' c' t' hj hj' he
  cases hs:src j with
  | some n =>
   obtain⟨c0,t0,hc,ho,hr⟩:=hsome j n _ hj hs;rw[(FW hs).1] at he
   cases hs':src j' with
   | some n' =>
    obtain⟨c0',t0',hc',ho',hr'⟩:=hsome j' n' _ hj' hs';rw[(FW hs').1] at he;have:=R2.inj n c0 t0 n' c0' t0' hc hc' he;rw[<- (h1 j n hs).1,<- (h1 j' n' hs').1,this]
   | none =>
    rw[(EU hs').1] at he;exact absurd he (mix j n j' hs hs' ⟨c',t',hnone j' _ hj' hs'⟩)
  | none =>
   rw[(EU hs).1] at he
   cases hs':src j' with
   | some n' =>
    rw[(FW hs').1] at he;exact absurd he.symm (mix j' n' j hs' hs ⟨c,t,hnone j _ hj hs⟩)
   | none =>
    rw[(EU hs').1] at he;exact R.inj j c t j' c' t' (hnone j _ hj hs) (hnone j' _ hj' hs') he
 ·intro j n l hj
  cases hs:src j with
  | some m=>obtain⟨c0,t0,hc,ho,hr⟩:=hsome j m _ hj hs;cases ho
  | none =>
   have h0:=hnone j _ hj hs;rw[(EU hs).2];refine(R.rd j n l h0).same R2.size (λb hv hb=>hold b hb (λi hi he=>?_));obtain⟨c',t',hi'⟩:=hown i hi;exact R.apart j n l i c' t' h0 hi' (by rw[hv,he])
 ·intro j n l j' c t hj hj' hv
  cases hs:src j with
  | some m=>obtain⟨c0,t0,hc,ho,hr⟩:=hsome j m _ hj hs;cases ho
  | none =>
   have h0:=hnone j _ hj hs;rw[(EU hs).2] at hv
   cases hs':src j' with
   | none =>
    rw[(EU hs').1] at hv;exact R.apart j n l j' c t h0 (hnone j' _ hj' hs') hv
   | some m =>
    rw[(FW hs').1] at hv;obtain⟨i,hi,he⟩:=hbk m j' hs' ((R.rd j n l h0).lt hv);obtain⟨c',t',hi'⟩:=hown i hi;exact R.apart j n l i c' t' h0 hi' (by rw[hv,he])
 ·intro j o hj r hr
  cases hs:src j with
  | some n =>
   obtain⟨c0,t0,hc,ho,hrf⟩:=hsome j n _ hj hs;subst ho;obtain⟨q,hq,rfl⟩:=AV.aCq c0 hr;have hsq:=hrf q hq;obtain⟨_,c,t,hc',_⟩:=h1 _ _ hsq;rw[hn,hsq];simp[hc']
  | none=>exact hdom r (R.refs j o (hnone j _ hj hs) r hr)
 ·intro j hj;obtain⟨h0,hb⟩:=R.env j hj;exact⟨hdom j h0,by rw[(hon j h0).1];exact hb.1,by rw[(hon j h0).2];exact hb.2⟩
theorem apn {P : Program} {G : wQ} (E : xV) {w0 : World} {B0 : xB} {g : FuncId} {fn : Func} {c : Code} {args : List AV} {H H1 Hc : wm} {k : Nat} {r : AV} {ef : List (Nat × AO)} (keys : List Nat) (N1 : Nat) (src : Nat -> Option Nat) (f : Nat -> Nat)
    (hf : P.funcs[g]? = some fn) (hb : fn.body = some c) (hn : (fn.name == "runtime.NumGoroutine") = false) (hl : (Nat.ble args.length fn.ntmps) = true)
    (hH1 : ∀ j o, H1 j = some o -> j ∈ keys) (hH1' : ∀ j ∈ keys, H1 j = H j /\ (∃ c t, H j = some (.own c t)) /\ j < N1) (hcl : ∀ j c t, H1 j = some (.own c t) -> ∀ r ∈ AV.aav c, r ∈ keys) (href : ∀ x ∈ args, ∀ j ∈ x.refs, j ∈ keys)
    (h1 : ∀ j n, src j = some n -> f n = j /\ ∃ c t, Hc n = some (.own c t) /\ ∀ r ∈ AV.aav c, src (f r) = some r)
    (h2 : ∀ j ∈ keys, src j = some j) (h3 : ∀ j n, src j = some n -> j ∈ keys \/ j = k \/ j = k + 1) (hr : ∀ j ∈ r.refs, src (f j) = some j)
    (hef : ∀ H' : wm, (∀ b ∈ keys, H' b = H b) -> ∀ j, (H'.puts ef) j = match src j with | some n => (Hc n).map (AO.ren f) | none => H' j)
    (h : ∀ w1 B, AW ⟨P, G, E, w1, B, fn.ntmps⟩ c (ZJ P G fn (λr' Hx => r' = r /\ Hx = Hc)) N1 (Jl args fn.ntmps) H1) :
    Tg P G w0 B0 g args H keys k (r.ren f) ef := by
  intro H' e w hag hk0 hk1 hrefs R;have hkeys : ∀ j ∈ keys, ∃ c t, H' j = some (.own c t) := λj hj => by rw [hag j hj]; exact (hH1' j hj).2.1
  have hsub : ∀ j o, H1 j = some o -> H' j = some o := λj o hj => by have hm := hH1 j o hj; rw [hag j hm, <- (hH1' j hm).1]; exact hj
  let B : xB := ⟨keys.map e.blk, keys, e⟩
  have R1 : xh G w B e H1 w := by
    refine ⟨rfl, rfl, rfl, Nat.le_refl _, λ_ _ _ => rfl, R.gl, λj c t hj => R.own j c t (hsub _ _ hj), λj c t hj => .inr (List.mem_map.2 ⟨j, hH1 j _ hj, rfl⟩), λj c t hj => R.glo j c t (hsub _ _ hj),
      λj c t j' c' t' hj hj' => R.inj j c t j' c' t' (hsub _ _ hj) (hsub _ _ hj'), λj n l hj => R.rd j n l (hsub _ _ hj), λj n l j' c t hj hj' => R.apart j n l j' c t (hsub _ _ hj) (hsub _ _ hj'), ?_, ?_, λj n l hj b hv => .inr ⟨j, hH1 j _ hj, hv⟩, λj es hj => ⟨(R.mp j es (hsub _ _ hj)).1, λj' c t hj' => (R.mp j es (hsub _ _ hj)).2 j' c t (hsub _ _ hj')⟩⟩
    · intro j o hj i hi;obtain ⟨hj1, ⟨c, t, hc⟩, _⟩ := hH1' j (hH1 j o hj);rw [<- hj1, hj] at hc;cases hc;have hm := hcl j c t hj i hi;obtain ⟨h5, ⟨c', t', hc'⟩, _⟩ := hH1' i hm;rw [h5, hc']; simp
    · intro j hj;obtain ⟨h5, ⟨c', t', hc'⟩, _⟩ := hH1' j hj;exact ⟨by rw [h5, hc']; simp, rfl, rfl⟩
  have hB1 : DC H1 N1 := by
    intro b hb
    cases hv : H1 b with
    | none => rfl
    | some o => have := (hH1' b (hH1 b o hv)).2.2; omega
  have hcall := VS (E := E) hf hb (by simpa using hl) R1 hB1 (λx hx j hj => by
    obtain ⟨h5, ⟨c', t', hc'⟩, _⟩ := hH1' j (href x hx j hj); rw [h5, hc']; simp) (h w B)
  refine FC hf hn (by rw [hb]; rfl) (hcall.mono ?_);rintro en w' ⟨r', e2, Hx, rfl, ⟨rfl, rfl⟩, R2⟩;have hput := hef H' hag
  obtain ⟨R3, hon, hdom⟩ := apm R (keys := keys) (B := B) rfl (λb hb => by obtain ⟨j, hj, rfl⟩ := List.mem_map.1 hb; exact ⟨j, hj, rfl⟩) rfl R2 hkeys h1 h2 (λj hj hs => by
    cases hsj : src j with
    | none => exact absurd hsj hs
    | some n => rcases h3 j n hsj with h6 | h6 | h6
                · exact absurd h6 hj
                · rw [h6]; exact hk0
                · rw [h6]; exact hk1) hput
  refine ⟨AL src e e2, ?_, R3, hon, λj hj => ?_⟩
  · rw [AV.aDE r' (λj hj => FW (hr j hj))]
  · obtain ⟨q, hq, rfl⟩ := AV.aDo r' hj;have hs := hr q hq;obtain ⟨_, c, t, hc, _⟩ := h1 _ _ hs;rw [hput, hs]; simp [hc]
inductive Sh where
 | sc (k:VK)
 | agg (l:List VK)
structure Ct where
 a:List Sh
 r:List Sh
structure AP where
 id:Nat
 a:List Sh
 n:Nat
 t:TypeId
 ks:List VK
 r:List Sh
structure xP where
 P:Program
 G:wQ
 SE:Pj
 ct:FuncId->Option Ct
 Φ:yE
 nt:FuncId->Option Ct
 sl:FuncId->List AP
def GL (k:VK) (x:SV):Option X:=match k,x with
 | .int k,.int k' a=>match AC k k',X.inK k a with|true,true=>some a|_,_=>none
 | .bool,.bool a=>some a
 | .bit,.int k' a=>match AC .u64 k',X.axw a with|true,true=>some a|_,_=>none
 | _,_=>none
def MP:List VK->List SV->Option (List X)
 | [],[]=>some []
 | k::ks,x::xs=>match GL k x,MP ks xs with|some a,some l=>some (a::l)|_,_=>none
 | _,_=>none
def aaD (h:Sh) (x:SV):Option (List X):=match h,x with
 | .sc k,x=>match GL k x with|some a=>some [a]|none=>none
 | .agg l,.agg xs=>MP l xs
 | .agg l,.v (.agg cs)=>MP l (cs.toList.map Cv)
 | _,_=>none
def Er:List Sh->List SV->Option (List X)
 | [],[]=>some []
 | h::hs,x::xs=>match aaD h x,Er hs xs with|some a,some l=>some (a++l)|_,_=>none
 | _,_=>none
def FX (k:VK) (x:X):SV:=match k with | .int k=>.int k x | .bool=>.bool x | .bit=>.int .u64 x | .nat=>.int .u64 x
def FY:List VK->List X->List SV
 | k::ks,x::xs=>FX k x::FY ks xs
 | _,_=>[]
def Sh.kinds:Sh->List VK
 | .sc k=>[k]
 | .agg l=>l
def un1 (h:Sh) (xs:List X):SV:=match h with
 | .sc k=>match xs with|x::_=>FX k x | []=>.v undef
 | .agg l=>.agg (FY l xs)
def wN:List Sh->List X->List SV
 | [],_=>[]
 | h::hs,xs=>un1 h xs::wN hs (xs.drop h.kinds.length)
def aeY:List SV->SV
 | [x]=>x
 | l=>.tup l
def vV (l:List Sh):List VK:=l.flatMap Sh.kinds
def wM:Nat->List VK->List X
 | _,[]=>[]
 | b,k::ks=>.var k b::wM (Nat.succ b) ks
def Pk (k:VK) (n:Int):Int:=match k with | .int k=>zC k n | .bool=>wh (ww n) | .bit=>wh (ww n) | .nat=>Int.ofNat n.toNat
def TI {β:Sort _} : List VK->List Int->(List X->β)->β
 | k::ks,n::ns,K=>ME (Pk k n) λn=>TI ks ns λl=>K (.lit n::l)
 | _,_,K=>K []
def TJ:List X->Option (List Int)
 | []=>some []
 | .lit n::l=>match TJ l with|some r=>some (n::r)|none=>none
 | _::_=>none
mutual
def SV.refs:SV->List Nat
 | .v _=>[]
 | .int _ _=>[]
 | .bool _=>[]
 | .loc b _=>[b]
 | .hd k=>[k]
 | .ha k _=>[k]
 | .sl b _ _ _=>[b]
 | .fn _ a c=>SV.aav a++SV.aav c
 | .tup l=>SV.aav l
 | .agg l=>SV.aav l
def SV.aav:List SV->List Nat
 | []=>[]
 | x::l=>SV.refs x++SV.aav l
end
def Pm (H:SH):Nat->List Nat->SH->Option SH
 | 0,_,_=>none
 | _+1,[],acc=>some acc
 | f+1,b::todo,acc=>match hget acc b with
  | some _=>Pm H f todo acc
  | none=>match hget H b with
   | none=>none
   | some o=>Pm H f (SV.aav o.c++todo) ((b,o)::acc)
def reach (H:SH) (l:List Nat):Option SH:=match l with | []=>some []|l=>Pm H 2000 l []
def yC (n:Nat):List Nat->Bool
 | []=>false
 | x::l=>match Nat.beq x n with|true=>true|false=>yC n l
def addN (n:Nat) (l:List Nat):List Nat:=match yC n l with|true=>l|false=>n::l
mutual
def SV.ren (f:Nat->Nat):SV->SV
 | .v x=>.v x
 | .int k x=>.int k x
 | .bool x=>.bool x
 | .loc b o=>.loc (f b) o
 | .hd k=>.hd (f k)
 | .ha k off=>.ha (f k) off
 | .sl b o l c=>.sl (f b) o l c
 | .fn g a c=>.fn g (SV.akX f a) (SV.akX f c)
 | .tup l=>.tup (SV.akX f l)
 | .agg l=>.agg (SV.akX f l)
def SV.akX (f:Nat->Nat):List SV->List SV
 | []=>[]
 | x::l=>SV.ren f x::SV.akX f l
end
def zJ (m:List (Nat×Nat)) (n:Nat):Nat:=match m with
 | []=>n
 | x::l=>match Nat.beq x.1 n with|true=>x.2|false=>zJ l n
structure St where
 N:Nat
 T:wT
 H:SH
 nv:Nat
 dt:List Nat
 fc:Facts
abbrev TK:=List (Nat×List Nat×Bool)
def Ju {β:Sort _} (T:wT) (d:Option Tmp) (x:SV) (K:wT->β):β:=match d with|none=>K T|some d=>Wd T d x K
def aaF {β:Type} (ops:Array Oper) (T:wT) (o:Oper) (fc:Facts) (K:Bool->Facts->vU β):vU β:=match o.guard with
 | none=>K true fc
 | some (j,want)=>match (ops[j]?).bind (·.dst) with
  | none=>K false fc
  | some d=>match Ae T d with
   | some (.bool x)=>GJ fc x λb fc=>K (match b with|true=>want|false=>FK want) fc
   | some (.v (.tuple _))=>K false fc
   | _=>.stuck "guard"
def aaG:SV->Option (FuncId×List SV×List SV)
 | .v (.func (.func g) a c)=>some (g,a.toList.map Js,c.toList.map Js)
 | .fn (.func g) a c=>some (g,a,c)
 | _=>none
def aaH (op:Op) (ρ:Operand->Option SV):Option (Option (FuncId×List SV)):=match op with
 | .call { callee:=.value f,args:=xs,argTypes:=_ }=>match ρ f with
  | some fv=>match aaG fv,MN ρ xs.toList with
   | some (g,a,c),some bs=>some (some (g,a++bs++c))
   | _,_=>some none
  | none=>some none
 | _=>none
structure CR where
 r:SV
 tc:List Nat
 ef:List (Nat×SO)
 nv:Nat
 fc:Facts
abbrev CF:=FuncId->List SV->SH->Nat->Nat->Facts->vU CR
def aaI (op:Op) (ρ:Operand->Option SV):Option (X×Option SV×Option SV):=match op with
 | .pick c a b=>match ρ c with
  | some (.bool q)=>some (q,ρ a,ρ b)
  | _=>none
 | _=>none
structure agz where
 k:Nat
 kd:IntKind
 n:X
 es:List (Value×Value)
 z:Value
 q:Bool
def TM (kd:IntKind):List (Value×Value)->Bool
 | []=>true
 | x::l=>match x.1 with
  | .int k' _=>match AC kd k' with|true=>TM kd l|false=>false
  | _=>false
def aaJ (P:Program) (op:Op) (ρ:Operand->Option SV) (H:SH):Option agz:=match op with
 | .lookup t x i q=>match ρ x,ρ i with
  | some (.hd k),some (.int kd n)=>match hget H k with
   | some o=>match o.t,Dj o.c with
    | none,some es=>match P.underlying t with
     | some (.map kt et)=>match Oy P kt,Za P et with
      | some kd',some z=>match AC kd' kd,TM kd es with
       | true,true=>some ⟨k,kd,n,es,z,q⟩
       | _,_=>none
      | _,_=>none
     | _=>none
    | _,_=>none
   | none=>none
  | _,_=>none
 | _=>none
def TN (q:Bool) (v:Value) (b:Bool):SV:=match q with
 | true=>.tup [Js v,.bool (.lit (wh b))]
 | false=>Js v
def Wj {β:Type} (kd:IntKind) (n:X) (q:Bool) (z:Value) (K:SV->Facts->vU β):List (Value×Value)->Facts->vU β
 | [],fc=>K (TN q z false) fc
 | x::l,fc=>match x.1 with
  | .int _ m=>GJ fc (zm .eql kd n (.lit m)) λb fc=>match b with
   | true=>K (TN q x.2 true) fc
   | false=>Wj kd n q z K l fc
  | _=>.stuck "key"
structure agA where
 k:Nat
 c:X
 r:SV
def Wl (H:SH) (k:Nat):Option TE:=match hget H k with
 | some o=>match o.t,Dj o.c,DT o.c with
  | none,none,some r=>some r
  | _,_,_=>none
 | none=>none
def TP (k:VK) (x:X):SV:=match k with | .int k=>.int k x | .bool=>.bool x | .bit=>.int .u64 x | .nat=>.int .u64 x
def Wm:List VK->List X->List SV
 | k::ks,x::xs=>TP k x::Wm ks xs
 | _,_=>[]
def Wn:Nat->List VK->List X
 | _,[]=>[]
 | b,k::ks=>.var k b::Wn (Nat.succ b) ks
def aaK (P:Program) (op:Op) (ρ:Operand->Option SV) (H:SH):Option agA:=match op with
 | .indexAddr t x i=>match ρ x,ρ i with
  | some (.hd k),some (.int _ (.lit (.ofNat j)))=>match Wl H k,Ic P t with
   | some r,some el=>match yn P el with
    | some sz=>match Nat.beq sz r.ks.length with
     | true=>zk (j*sz) λoff=>some ⟨k,zm .lss .i64 (.lit (.ofNat j)) r.n,.ha k off⟩
     | false=>none
    | none=>none
   | _,_=>none
  | _,_=>none
 | .load t x=>match ρ x with
  | some (.ha k off)=>match Wl H k with
   | some r=>zk (off/r.ks.length) λj=>match Nat.beq (j*r.ks.length) off,Kt P t with
    | true,some true=>match yn P t with
     | some sz=>match Nat.beq sz r.ks.length,Nat.ble 1 sz with
      | true,true=>zk (r.b+off) λb=>some ⟨k,zm .lss .i64 (.lit (.ofNat j)) r.n,.agg (Wm r.ks (Wn b r.ks))⟩
      | _,_=>none
     | none=>none
    | true,some false=>match r.ks with
     | [vk]=>zk (r.b+off) λb=>some ⟨k,zm .lss .i64 (.lit (.ofNat j)) r.n,TP vk (.var vk b)⟩
     | _=>none
    | _,_=>none
   | none=>none
  | _=>none
 | _=>none
def Ik:List (Nat×SO)->List Nat->List Nat
 | [],l=>l
 | x::ef,l=>Ik ef (addN x.1 l)
def Wo (tc:List Nat):List (Nat×SO)->Bool
 | []=>false
 | x::ef=>match yC x.1 tc with|true=>true|false=>Wo tc ef
def Jv (i:Nat) (tc:List Nat) (ef:List (Nat×SO)) (tr:TK):TK:=match tc with | []=>tr|tc=>(i,tc,Wo tc ef)::tr
structure OR where
 T:wT
 H:SH
 tr:TK
 nv:Nat
 dt:List Nat
 fc:Facts
def EW (C:xP) (cf:CF) (ops:Array Oper) (Nb:Nat):Nat->List Oper->wT->SH->TK->Nat->List Nat->Facts->vU OR
 | _,[],T,H,tr,nv,dt,fc=>.leaf ⟨T,H,tr,nv,dt,fc⟩
 | i,o::os,T,H,tr,nv,dt,fc=>aaF ops T o fc λwant fc=>match want with
  | false=>Ju T o.dst (.v undef) λT=>EW C cf ops Nb (Nat.succ i) os T H tr nv dt fc
  | true=>match aaH o.op (FU T) with
   | some none=>.stuck "call: operands"
   | some (some (g,args))=>zk (Nb+2*i) λk=>(cf g args H k nv fc).bind λr =>
     Ju T o.dst r.r λT=>Ij H r.ef λH=>EW C cf ops Nb (Nat.succ i) os T H (Jv i r.tc r.ef tr) r.nv (Ik r.ef dt) r.fc
   | none=>match aaI o.op (FU T) with
    | some (q,x,y)=>GJ fc q λb fc=>match (match b with|true=>x|false=>y) with
     | some r=>Ju T o.dst r λT=>EW C cf ops Nb (Nat.succ i) os T H tr nv dt fc
     | none=>.stuck "pick"
    | none=>match aaJ C.P o.op (FU T) H with
     | some L=>Wj L.kd L.n L.q L.z (λr fc=>Ju T o.dst r λT=>EW C cf ops Nb (Nat.succ i) os T H (Jv i [L.k] [] tr) nv dt fc) L.es fc
     | none=>match aaK C.P o.op (FU T) H with
      | some L=>GJ fc L.c λb fc=>match b with
       | true=>Ju T o.dst L.r λT=>EW C cf ops Nb (Nat.succ i) os T H (Jv i [L.k] [] tr) nv dt fc
       | false=>.stuck "index: beyond"
      | none=>zk (Nb+2*i) λk=>(aaC C.P C.G C.SE fc o.op (FU T) H k).bind λr =>
       Ju T o.dst r.1 λT=>Ij H r.2.2 λH=>EW C cf ops Nb (Nat.succ i) os T H (Jv i r.2.1 r.2.2 tr) nv (Ik r.2.2 dt) fc
def Af (P:Program) (T:wT) (H:SH):List ResultVar->Option (List SV)
 | []=>some []
 | .tmp t::l=>match Ae T t,Af P T H l with
  | some x,some r=>some (x::r)
  | _,_=>none
 | .cell a t::l=>match Ae T a with
  | some (.loc b o)=>match hget H b with
   | some ob=>match ob.t with
    | some _=>match Jt P t ob.c o,Af P T H l with
     | some x,some r=>some (x::r)
     | _,_=>none
    | none=>none
   | none=>none
  | _=>none
def zK:List SV->Nat->wT
 | [],0=>[]
 | [],n+1=>some (.v undef)::zK [] n
 | _::_,0=>[]
 | x::l,n+1=>some x::zK l n
def MQ:SH->Bool
 | []=>true
 | x::l=>match x.2.t with|some _=>MQ l|none=>false
def TQ (k:Nat) (objs:SH):SH->Option (List Nat)
 | []=>some []
 | x::l=>match TQ k objs l with
  | none=>none
  | some r=>match Nat.ble k x.1 with
   | true=>some (x.1::r)
   | false=>match hget objs x.1 with|some _=>some r|none=>none
def Wp (k:Nat):List Nat->Option (List (Nat×Nat))
 | []=>some []
 | [n1]=>some [(n1,k)]
 | [n1,n2]=>match Nat.beq n1 n2 with|true=>none|false=>some [(n1,k),(n2,k+1)]
 | _=>none
def DU (dt:List Nat):SH->List Nat
 | []=>[]
 | x::l=>match yC x.1 dt with|true=>x.1::DU dt l|false=>DU dt l
def TR (k:Nat):SH->Bool
 | []=>true
 | x::l=>match Nat.blt x.1 k with|true=>TR k l|false=>false
def keysOf:SH->List Nat
 | []=>[]
 | x::l=>x.1::keysOf l
def Il (f:Nat->Nat) (H:SH):List Nat->List (Nat×SO)
 | []=>[]
 | b::l=>match hget H b with|some o=>(b,⟨SV.akX f o.c,o.t⟩)::Il f H l|none=>Il f H l
def GM (f:Nat->Nat) (H:SH):List Nat->List (Nat×SO)
 | []=>[]
 | b::l=>match hget H b with|some o=>(f b,⟨SV.akX f o.c,o.t⟩)::GM f H l|none=>GM f H l
def Wq (P:Program) (fn:Func) (objs:SH) (k:Nat) (s:St):vU CR :=
 match Af P s.T s.H fn.results.toList with
 | none=>.stuck "results"
 | some rs=>match reach s.H (SV.aav rs++DU s.dt objs) with
   | none=>.stuck "reach behind a call"
   | some R2=>match TQ k objs R2,MQ R2 with
    | none,_=>.stuck "a block of nobody"
    | _,false=>.stuck "a number behind a call"
    | some nw,true=>match nw with
     | []=>.leaf ⟨aeY rs,keysOf objs,Il (λn=>n) s.H (DU s.dt objs),s.nv,s.fc⟩
     | nw=>match Wp k nw with
      | none=>.stuck "more than two new blocks"
      | some m=>.leaf ⟨(aeY rs).ren (zJ m),keysOf objs,Il (zJ m) s.H (DU s.dt objs)++GM (zJ m) s.H nw,s.nv,s.fc⟩
mutual
def yx (c:X):SV->SV->Option SV
 | .int k a,.int k' b=>match AC k k' with|true=>some (.int k (MI c a b))|false=>none
 | .bool a,.bool b=>some (.bool (MI c a b))
 | .agg l,.agg m=>match KO c l m with|some r=>some (.agg r)|none=>none
 | .tup l,.tup m=>match KO c l m with|some r=>some (.tup r)|none=>none
 | _,_=>none
def KO (c:X):List SV->List SV->Option (List SV)
 | [],[]=>some []
 | x::l,y::m=>match yx c x y,KO c l m with|some r,some rs=>some (r::rs)|_,_=>none
 | _,_=>none
end
def Pn:List Nat->List Nat->Bool
 | [],[]=>true
 | x::l,y::m=>match Nat.beq x y with|true=>Pn l m|false=>false
 | _,_=>false
def KP (tc:List Nat) (nv:Nat):vU CR->Option (X×Option SV)
 | .leaf r=>match r.ef with
  | []=>match Pn r.tc tc,Nat.beq r.nv nv with|true,true=>some (.lit (.ofNat 1),some r.r)|_,_=>none
  | _::_=>none
 | .ite c a b=>match KP tc nv a,KP tc nv b with
  | some (x,none),some (y,r)=>some (MI c x y,r)
  | some (x,r),some (y,none)=>some (MI c x y,r)
  | some (x,some r),some (y,some q)=>match yx c r q with|some z=>some (MI c x y,some z)|none=>none
  | _,_=>none
 | .stuck _=>some (.lit (.ofNat 0),none)
 | .call _ _ _ _ _=>none
def aaL (tc:List Nat) (nv:Nat) (fc:Facts) (t:vU CR):vU CR:=match t with
 | .ite c a b=>match KP tc nv (.ite c a b) with
  | some (x,some r)=>O4 x (.leaf ⟨r,tc,[],nv,fc⟩) (.stuck "in a call")
  | _=>.ite c a b
 | t=>t
def regionEnd (nt:Nat) (ops:Array Oper) (draw:Bool) (s:St) (r:OR):vU (Exit×St) :=
 match draw with
 | true=>match drawOK ops nt,traceOK ops s.N r.tr with
  | true,true=>zk (s.N+2*ops.size) λN=>.leaf (.normal,⟨N,r.T,r.H,r.nv,r.dt,r.fc⟩)
  | false,_=>.stuck "drawOK"
  | _,_=>.stuck "traceOK"
 | false=>match dstsLt nt ops.toList with
  | true=>zk (s.N+2*ops.size) λN=>.leaf (.normal,⟨N,r.T,r.H,r.nv,r.dt,r.fc⟩)
  | false=>.stuck "dstsLt"
def TS (P:Program) (ex:Code->St->vU (Exit×St)) (g:FuncId) (args:List SV) (H:SH) (k nv:Nat) (fc:Facts):vU CR:=match P.funcs[g]? with
 | none=>.stuck "no such function"
 | some fn=>match fn.body with
  | none=>.stuck "no body"
  | some cd=>match reach H (SV.aav args) with
   | none=>.stuck "reach"
   | some objs=>match Nat.ble args.length fn.ntmps,TR k objs,MQ objs with
    | true,true,true=>aaL (keysOf objs) nv fc ((ex cd ⟨k,zK args fn.ntmps,objs,nv,[],fc⟩).bind λr=>match r.1 with
     | .normal=>Wq P fn objs k r.2
     | .ret=>Wq P fn objs k r.2
     | _=>.stuck "a call's end")
    | _,_,_=>.stuck "a call's arguments"
def Po (H:SH) (k:VK) (x:SV):Option X:=match k with
 | .nat=>match x with
  | .hd h=>match hget H h with
   | some o=>match o.t with
    | none=>match o.c with
     | [.int _ x]=>some x
     | _=>none
    | some _=>none
   | none=>none
  | .v (.slice none 0 0)=>some (.lit (.ofNat 0))
  | _=>none
 | .int k=>GL (.int k) x
 | .bool=>GL .bool x
 | .bit=>GL .bit x
def Im (H:SH):List VK->List SV->Option (List X)
 | [],[]=>some []
 | k::ks,x::xs=>match Po H k x,Im H ks xs with|some a,some l=>some (a::l)|_,_=>none
 | _,_=>none
def Pp (H:SH) (h:Sh) (x:SV):Option (List X):=match h,x with
 | .sc k,x=>match Po H k x with|some a=>some [a]|none=>none
 | .agg l,.agg xs=>Im H l xs
 | .agg l,.v (.agg cs)=>Im H l (cs.toList.map Cv)
 | _,_=>none
def FZ (H:SH):List Sh->List SV->Option (List X)
 | [],[]=>some []
 | h::hs,x::xs=>match Pp H h x,FZ H hs xs with|some a,some l=>some (a++l)|_,_=>none
 | _,_=>none
def nN (k:VK):Nat:=match k with | .nat=>1|_=>0
def zx:List VK->Nat
 | []=>0
 | k::ks=>nN k+zx ks
def Pq (k:VK) (x:X) (h:Nat):SV:=match k with | .nat=>.hd h|k=>FX k x
def yY:List VK->List X->Nat->List SV
 | k::ks,x::xs,h=>Pq k x h::yY ks xs (h+nN k)
 | _,_,_=>[]
def aaM (sh:Sh) (xs:List X) (h:Nat):SV:=match sh with
 | .sc k=>match xs with|x::_=>Pq k x h | []=>.v undef
 | .agg l=>.agg (yY l xs h)
def DV:List Sh->List X->Nat->List SV
 | [],_,_=>[]
 | s::ss,xs,h=>aaM s xs h::DV ss (xs.drop s.kinds.length) (h+zx s.kinds)
def yZ:List VK->List X->Nat->List (Nat×SO)
 | k::ks,x::xs,h=>match k with
  | .nat=>zk h λh'=>(h',⟨[.int .u64 x],none⟩)::yZ ks xs (h+1)
  | _=>yZ ks xs h
 | _,_,_=>[]
def aaN (C:xP) (ct:Ct) (g:FuncId) (args:List SV) (H:SH) (k nv:Nat) (fc:Facts):vU CR:=match FZ H ct.a args with
 | none=>.stuck "numbers: arguments"
 | some xs=>.call g xs nv (vV ct.r).length (zk (nv+(vV ct.r).length) λnv'=>.leaf ⟨aeY (DV ct.r (wM nv (vV ct.r)) k),SV.aav args,yZ (vV ct.r) (wM nv (vV ct.r)) k,nv',fc⟩)
structure agB where
 i:List SV
 b:Nat
 o:Nat
 n:Nat
 m:Nat
def TU:List SV->Option agB
 | []=>none
 | x::l=>match l with
  | []=>match x with
   | .sl b o n m=>some ⟨[],b,o,n,m⟩
   | _=>none
  | y::l'=>match TU (y::l') with
   | some r=>some ⟨x::r.i,r.b,r.o,r.n,r.m⟩
   | none=>none
def Ws:List AP->Nat->Nat->TypeId->Option AP
 | [],_,_,_=>none
 | s::L,n,m,t=>match Nat.beq s.n n,Nat.beq s.n m,Nat.beq s.t t with
  | true,true,true=>some s
  | _,_,_=>Ws L n m t
def aaO (C:xP) (L:List AP) (args:List SV) (H:SH) (nv:Nat) (fc:Facts) (K:Unit->vU CR):vU CR:=match TU args with
 | none=>K ()
 | some r=>match hget H r.b with
  | none=>K ()
  | some o=>match o.t with
   | none=>K ()
   | some t=>match Ws L r.n r.m t with
    | none=>K ()
    | some s=>match Nat.beq r.o 0,Er s.a r.i,MP s.ks o.c with
     | true,some xs,some ys=>match TJ (xs++ys) with
      | some ns=>match Nat.beq (C.Φ s.id ns).length (vV s.r).length with
       | true=>TI (vV s.r) (C.Φ s.id ns) λl=>.leaf ⟨aeY (wN s.r l),[r.b],[],nv,fc⟩
       | false=>.stuck "contract"
      | none=>.call s.id (xs++ys) nv (vV s.r).length (zk (nv+(vV s.r).length) λnv'=>.leaf ⟨aeY (wN s.r (wM nv (vV s.r))),[r.b],[],nv',fc⟩)
     | _,_,_=>K ()
def TV (C:xP) (ex:Code->St->vU (Exit×St)) (g:FuncId) (args:List SV) (H:SH) (k nv:Nat) (fc:Facts):vU CR:=match C.nt g with
 | some ct=>aaN C ct g args H k nv fc
 | none=>match C.ct g with
 | none=>match C.sl g with
  | []=>TS C.P ex g args H k nv fc
  | L=>aaO C L args H nv fc λ_=>TS C.P ex g args H k nv fc
 | some ct=>match Er ct.a args with
  | none=>TS C.P ex g args H k nv fc
  | some xs=>match TJ xs with
   | some ns=>match Nat.beq (C.Φ g ns).length (vV ct.r).length with
    | true=>TI (vV ct.r) (C.Φ g ns) λl=>.leaf ⟨aeY (wN ct.r l),[],[],nv,fc⟩
    | false=>.stuck "contract"
   | none=>.call g xs nv (vV ct.r).length (zk (nv+(vV ct.r).length) λnv'=>.leaf ⟨aeY (wN ct.r (wM nv (vV ct.r))),[],[],nv',fc⟩)
def exec (C:xP):Nat->Code->St->vU (Exit×St)
 | 0,_,_=>.stuck "no fuel"
 | f+1,c,s=>match c with
  | .skip=>.leaf (.normal,s)
  | .label _=>.leaf (.normal,s)
  | .exit id=>.leaf (.exit id,s)
  | .ret=>.leaf (.ret,s)
  | .seq a b=>(exec C f a s).bind λr=>match r.1 with | .normal=>exec C f b r.2|_=>.leaf r
  | .cond c a b=>match FU s.T c with
   | some (.bool q)=>GJ s.fc q λbb fc=>match bb with|true=>exec C f a { s with fc:=fc } | false=>exec C f b { s with fc:=fc }
   | _=>.stuck "cond"
  | .block id c=>(exec C f c s).bind λr=>match r.1 with
   | .exit id'=>match Nat.beq id' id with|true=>.leaf (.normal,r.2)|false=>.leaf r
   | _=>.leaf r
  | .loop c=>(exec C f c s).bind λr=>match r.1 with | .normal=>exec C f (.loop c) r.2|_=>.leaf r
  | .scope c=>(exec C f c s).bind λr=>match r.1 with | .goto _=>.stuck "goto" | _=>.leaf r
  | .region _ ops draw=>(EW C (TV C (exec C f)) ops s.N 0 ops.toList s.T s.H [] s.nv s.dt s.fc).bind λr=>regionEnd s.T.length ops draw s r
  | _=>.stuck "no such text"
def xe (C:xP) (fuel:Nat) (g:FuncId) (args:List SV) (nv:Nat):vU SV :=
 match C.P.funcs[g]? with
 | none=>.stuck "no such function"
 | some fn=>match fn.body with
  | none=>.stuck "no body"
  | some cd=>match Nat.ble args.length fn.ntmps with
   | true=>(exec C fuel cd ⟨0,zK args fn.ntmps,[],nv,[],[]⟩).bind λr=>match r.1 with
    | .normal=>match Af C.P r.2.T r.2.H fn.results.toList with|some rs=>.leaf (aeY rs)|none=>.stuck "results"
    | .ret=>match Af C.P r.2.T r.2.H fn.results.toList with|some rs=>.leaf (aeY rs)|none=>.stuck "results"
    | _=>.stuck "end"
   | false=>.stuck "arguments"
def yL (h:Sh) (ns:List Int):Value:=match h with
 | .sc k=>match ns with|n::_=>yw k n | []=>undef
 | .agg l=>.agg (xu l ns).toArray
def xk:List Sh->List Int->List Value
 | [],_=>[]
 | h::hs,ns=>yL h ns::xk hs (ns.drop h.kinds.length)
def xU:List Value->Value
 | [x]=>x
 | l=>.tuple l.toArray
def zn:List VK->List Int->List Int
 | k::ks,n::ns=>k.norm n::zn ks ns
 | _,_=>[]
theorem Wt {k:VK} {x:SV} {a:X} (s:wF) (h:GL k x=some a):x.den s = .v (yw k (a.den s)):=by
 unfold GL at h;split at h
 ·split at h
  ·rename_i hk hi;cases h;have hk:=Cu hk;subst hk;simp only[SV.den,yw,X.aCx s hi]
  ·cases h
 ·cases h;rfl
 ·split at h
  ·rename_i hk hi;cases h;have hk:=Cu hk;subst hk;simp only[SV.den,yw];rw[<- X.aC9 s hi]
  ·cases h
 ·cases h
theorem TW (s:wF):∀ {ks:List VK} {xs:List SV} {l:List X},MP ks xs=some l->SV.aaE s xs=(xu ks (l.map (X.den s))).map .v/\l.length=ks.length
 | [],[],l,h=>by cases h;exact⟨rfl,rfl⟩
 | k::ks,x::xs,l,h=>by
  simp only[MP] at h;split at h
  ·rename_i a l' ha hl;cases h;obtain⟨h1,h2⟩:=TW s hl;exact⟨by rw[SV.aaE,h1,Wt s ha];rfl,by simp[h2]⟩
  ·cases h
 | [],_::_,l,h=>by cases h
 | _::_,[],l,h=>by cases h
theorem apo (s:wF) {h:Sh} {x:SV} {l:List X} (hh:aaD h x=some l):x.den s = .v (yL h (l.map (X.den s)))/\l.length=h.kinds.length:=by
 unfold aaD at hh;split at hh
 ·split at hh
  ·rename_i a ha;cases hh;exact⟨Wt s ha,rfl⟩
  ·cases hh
 ·obtain⟨h1,h2⟩:=TW s hh;exact⟨by simp only[SV.den,h1,VZ];rfl,h2⟩
 ·obtain⟨h1,h2⟩:=TW s hh;rw[FQ] at h1;refine⟨?_,h2⟩;simp only[SV.den,yL];rename_i l0 cs
  have:cs.toList=xu l0 (l.map (X.den s)):=by have:=congrArg yF h1;rw[KI,KI] at this;exact Option.some.inj this
  rw[<- this]
 ·cases hh
theorem agC:∀ (ks:List VK) (p q:List Int),p.length=ks.length->xu ks (p++q)=xu ks p
 | [],[],q,_=>by cases q<;>rfl
 | k::ks,n::p,q,h=>by rw[List.cons_append,xu,xu,agC ks p q (by simpa using h)]
 | [],_::_,_,h=>by simp at h
 | _::_,[],_,h=>by simp at h
theorem aaP (h:Sh) (p q:List Int) (hl:p.length=h.kinds.length):yL h (p++q)=yL h p:=by
 cases h with
 | sc k =>
  cases p with
  | nil=>simp[Sh.kinds] at hl
  | cons n p=>rfl
 | agg l=>simp only[yL];rw[agC l p q hl]
theorem KQ (s:wF):∀ {hs:List Sh} {xs:List SV} {l:List X},Er hs xs=some l->SV.aaE s xs=(xk hs (l.map (X.den s))).map .v/\l.length=(vV hs).length
 | [],[],l,h=>by cases h;exact⟨rfl,rfl⟩
 | h::hs,x::xs,l,hh=>by
  simp only[Er] at hh;split at hh
  ·rename_i a l' ha hl;cases hh;obtain⟨h1,h2⟩:=KQ s hl;obtain⟨h3,h4⟩:=apo s ha;refine⟨?_,by simp[vV,h4] at h2 ⊢;omega⟩;rw[SV.aaE,h1,h3,xk,List.map_append,aaP _ _ _ (by simpa using h4),List.map_cons];rw[show(List.map (X.den s) a++List.map (X.den s) l').drop h.kinds.length=List.map (X.den s) l' by rw[List.drop_append_of_le_length (by simp[h4])];rw[List.drop_of_length_le (by simp[h4])];rfl]
  ·cases hh
 | [],_::_,l,h=>by cases h
 | _::_,[],l,h=>by cases h
theorem TY {k:VK} {x:X} {n:Int} {s:wF} (h:x.den s=k.norm n):(FX k x).den s = .v (yw k n):=by
 cases k with
 | int k=>simp only[FX,SV.den,h,VK.norm,yw]
 | bool=>simp only[FX,SV.den,h,VK.norm,yw,yX]
 | bit=>simp only[FX,SV.den,h,VK.norm,yw]
 | nat=>simp only[FX,SV.den,h,VK.norm,yw]
theorem Wu {s:wF} : ∀ {ks:List VK} {xs:List X} {ns:List Int},xs.map (X.den s)=zn ks ns->xs.length=ks.length->SV.aaE s (FY ks xs)=(xu ks ns).map .v
 | [],xs,ns,_,_=>by cases xs<;>rfl
 | k::ks,[],ns,_,hl=>by simp at hl
 | k::ks,x::xs,[],h,_=>by simp[zn] at h
 | k::ks,x::xs,n::ns,h,hl=>by simp only[List.map_cons,zn,List.cons.injEq] at h;rw[FY,SV.aaE,Wu h.2 (by simpa using hl),TY h.1];rfl
theorem agD:∀ (ks js:List VK) (ns:List Int),(zn (ks++js) ns).take ks.length=zn ks ns
 | [],js,ns=>rfl
 | k::ks,js,[]=>rfl
 | k::ks,js,n::ns=>by rw[List.cons_append,zn,List.length_cons,List.take_succ_cons,agD ks js ns,zn]
theorem agE:∀ (ks js:List VK) (ns:List Int),(zn (ks++js) ns).drop ks.length=zn js (ns.drop ks.length)
 | [],js,ns=>rfl
 | k::ks,js,[]=>by cases js<;>simp[zn]
 | k::ks,js,n::ns=>by rw[List.cons_append,zn,List.length_cons,List.drop_succ_cons,agE ks js ns,List.drop_succ_cons]
theorem agF:∀ (ks:List VK) (xs:List X),FY ks (xs.take ks.length)=FY ks xs
 | [],xs=>by cases xs<;>rfl
 | k::ks,[]=>rfl
 | k::ks,x::xs=>by rw[List.length_cons,List.take_succ_cons,FY,agF ks xs,FY]
theorem apq {s:wF} {h:Sh} {js:List VK} {xs:List X} {ns:List Int} (hx:xs.map (X.den s)=zn (h.kinds++js) ns) (hl:xs.length=(h.kinds++js).length):(un1 h xs).den s = .v (yL h ns):=by
 cases h with
 | sc k =>
  cases xs with
  | nil=>simp[Sh.kinds] at hl
  | cons x xs =>
   cases ns with
   | nil=>simp[Sh.kinds,zn] at hx
   | cons n ns =>
    simp only[Sh.kinds,List.cons_append,List.nil_append,zn,List.map_cons,List.cons.injEq] at hx;exact TY hx.1
 | agg l =>
  simp only[un1,SV.den,yL]
  have h1:(xs.take l.length).map (X.den s)=zn l ns:=by rw[List.map_take,hx];exact agD l js ns
  rw[<- agF l xs,Wu h1 (by simp[Sh.kinds] at hl ⊢;omega),VZ]
theorem Jw {s:wF} : ∀ {hs:List Sh} {xs:List X} {ns:List Int},xs.map (X.den s)=zn (vV hs) ns->xs.length=(vV hs).length->SV.aaE s (wN hs xs)=(xk hs ns).map .v
 | [],xs,ns,_,_=>rfl
 | h::hs,xs,ns,hx,hl=>by
  have hk:vV (h::hs)=h.kinds++vV hs:=by simp[vV]
  rw[hk] at hx hl;rw[wN,SV.aaE,apq hx hl,Jw (hs:=hs) (ns:=ns.drop h.kinds.length) (by rw[List.map_drop,hx,agE]) (by simp at hl ⊢;omega)];rfl
theorem GN (s:wF):∀ (ks:List VK) (b:Nat),(wM b ks).map (X.den s)=zn ks (Au s b ks.length)/\(wM b ks).length=ks.length
 | [],b=>⟨rfl,rfl⟩
 | k::ks,b=>by obtain⟨h1,h2⟩:=GN s ks (b+1);refine⟨?_,by simp[wM,h2]⟩;rw[wM,List.map_cons,h1];rfl
theorem agG (k:VK) (n:Int):Pk k n=k.norm n:=by
 cases k with
 | int k=>exact yJ k n
 | bool=>simp only[Pk,VK.norm,zR]
 | bit=>simp only[Pk,VK.norm,zR]
 | nat=>rfl
def Ps:List VK->List Int->List X
 | k::ks,n::ns=>.lit (Pk k n)::Ps ks ns
 | _,_=>[]
theorem aaQ {β:Sort _} : ∀ (ks:List VK) (ns:List Int) (K:List X->β),TI ks ns K=K (Ps ks ns)
 | [],ns,K=>by cases ns<;>rfl
 | k::ks,[],K=>rfl
 | k::ks,n::ns,K=>by rw[TI,MF,aaQ ks ns];rfl
theorem aaR (s:wF):∀ (ks:List VK) (ns:List Int),(Ps ks ns).map (X.den s)=zn ks ns
 | [],ns=>by cases ns<;>rfl
 | k::ks,[]=>rfl
 | k::ks,n::ns=>by rw[Ps,List.map_cons,aaR s ks ns,zn,X.den,agG]
theorem aaS:∀ (ks:List VK) (ns:List Int),ns.length=ks.length->(Ps ks ns).length=ks.length
 | [],ns,_=>by cases ns<;>rfl
 | k::ks,[],h=>by simp at h
 | k::ks,n::ns,h=>by rw[Ps];simp[aaS ks ns (by simpa using h)]
theorem aaT (s:wF):∀ {xs:List X} {ns:List Int},TJ xs=some ns->xs.map (X.den s)=ns
 | [],ns,h=>by cases h;rfl
 | .lit n::l,ns,h=>by
  simp only[TJ] at h;split at h
  ·rename_i r hr;cases h;rw[List.map_cons,aaT s hr];rfl
  ·cases h
 | .var _ _::_,_,h=>by cases h
 | .bin _ _ _ _::_,_,h=>by cases h
 | .conv _ _::_,_,h=>by cases h
 | .com _ _::_,_,h=>by cases h
 | .not _::_,_,h=>by cases h
 | .and _ _::_,_,h=>by cases h
 | .beq _ _::_,_,h=>by cases h
 | .min _ _::_,_,h=>by cases h
 | .max _ _::_,_,h=>by cases h
 | .ite _ _ _::_,_,h=>by cases h
 | .dlen _::_,_,h=>by cases h
theorem aaU {s:wF} {l:List SV} {vs:List Value} (h:SV.aaE s l=vs.map .v):(aeY l).den s = .v (xU vs):=by
 match l,vs,h with
 | [],[],_=>simp only[aeY,SV.den,SV.aaE,xU];exact V3 []
 | [x],[v],h=>simpa [SV.aaE,aeY,xU] using h
 | x::y::l,v::u::vs,h =>
  simp only[aeY,SV.den,h,V3,xU]
 | [],v::vs,h=>simp[SV.aaE] at h
 | x::l,[],h=>simp[SV.aaE] at h
 | [x],v::u::vs,h=>simp[SV.aaE] at h
 | x::y::l,[v],h=>simp[SV.aaE] at h
theorem KR (s:wF) (l:List SV):GD (SV.aaE s l)=(aeY l).den s:=by
 match l with
 | []=>rfl
 | [x]=>rfl
 | x::y::l=>rfl
mutual
theorem agH (s:wF) (c:X):∀ {a b r:SV},yx c a b=some r->r.den s=if c.den s=0 then b.den s else a.den s
 | .int k a,.int k' b,r,h=>by
  simp only[yx] at h;split at h
  ·rename_i hk;cases h;have:=Cu hk;subst this;simp only[SV.den,Ty];split<;>rfl
  ·cases h
 | .bool a,.bool b,r,h=>by simp only[yx] at h;cases h;simp only[SV.den,Ty];split<;>rfl
 | .agg l,.agg m,r,h=>by
  simp only[yx] at h;split at h
  ·rename_i q hq;cases h;have:=aaV s c hq;simp only[SV.den,this];split<;>rfl
  ·cases h
 | .tup l,.tup m,r,h=>by
  simp only[yx] at h;split at h
  ·rename_i q hq;cases h;have:=aaV s c hq;simp only[SV.den,this];split<;>rfl
  ·cases h
 | .v _,_,_,h=>by simp[yx] at h
 | .loc _ _,_,_,h=>by simp[yx] at h
 | .sl _ _ _ _,_,_,h=>by simp[yx] at h
 | .fn _ _ _,_,_,h=>by simp[yx] at h
 | .int _ _,.v _,_,h=>by simp[yx] at h
 | .int _ _,.bool _,_,h=>by simp[yx] at h
 | .int _ _,.loc _ _,_,h=>by simp[yx] at h
 | .int _ _,.sl _ _ _ _,_,h=>by simp[yx] at h
 | .int _ _,.fn _ _ _,_,h=>by simp[yx] at h
 | .int _ _,.tup _,_,h=>by simp[yx] at h
 | .int _ _,.agg _,_,h=>by simp[yx] at h
 | .bool _,.v _,_,h=>by simp[yx] at h
 | .bool _,.int _ _,_,h=>by simp[yx] at h
 | .bool _,.loc _ _,_,h=>by simp[yx] at h
 | .bool _,.sl _ _ _ _,_,h=>by simp[yx] at h
 | .bool _,.fn _ _ _,_,h=>by simp[yx] at h
 | .bool _,.tup _,_,h=>by simp[yx] at h
 | .bool _,.agg _,_,h=>by simp[yx] at h
 | .agg _,.v _,_,h=>by simp[yx] at h
 | .agg _,.int _ _,_,h=>by simp[yx] at h
 | .agg _,.bool _,_,h=>by simp[yx] at h
 | .agg _,.loc _ _,_,h=>by simp[yx] at h
 | .agg _,.sl _ _ _ _,_,h=>by simp[yx] at h
 | .agg _,.fn _ _ _,_,h=>by simp[yx] at h
 | .agg _,.tup _,_,h=>by simp[yx] at h
 | .tup _,.v _,_,h=>by simp[yx] at h
 | .tup _,.int _ _,_,h=>by simp[yx] at h
 | .tup _,.bool _,_,h=>by simp[yx] at h
 | .tup _,.loc _ _,_,h=>by simp[yx] at h
 | .tup _,.sl _ _ _ _,_,h=>by simp[yx] at h
 | .tup _,.fn _ _ _,_,h=>by simp[yx] at h
 | .tup _,.agg _,_,h=>by simp[yx] at h
theorem aaV (s:wF) (c:X):∀ {a b r:List SV},KO c a b=some r->SV.aaE s r=if c.den s=0 then SV.aaE s b else SV.aaE s a
 | [],[],r,h=>by simp only[KO] at h;cases h;split<;>rfl
 | x::l,y::m,r,h=>by
  simp only[KO] at h;split at h
  ·rename_i q qs h1 h2;cases h;have e1:=agH s c h1;have e2:=aaV s c h2;simp only[SV.aaE,e1,e2];split<;>rfl
  ·cases h
 | [],_::_,_,h=>by simp[KO] at h
 | _::_,[],_,h=>by simp[KO] at h
end
theorem agI:∀ {a b:List Nat},Pn a b=true->a=b
 | [],[],_=>rfl
 | x::l,y::m,h=>by
  simp only[Pn] at h;split at h
  ·rename_i hb;rw[xO.1 hb,agI h]
  ·cases h
 | [],_::_,h=>by simp[Pn] at h
 | _::_,[],h=>by simp[Pn] at h
theorem MR {Φ:yE} {s:wF} {tc:List Nat} {nv:Nat} : ∀ {t:vU CR} {x:X} {o:Option SV},KP tc nv t=some (x,o)->x.den s≠0->∃ r,t.path Φ s=some r/\r.tc=tc/\r.ef = []/\∃ z,o=some z/\z.den s=r.r.den s
 | .leaf r,x,o,h,hx=>by
  simp only[KP] at h;split at h
  ·rename_i he;split at h
   ·rename_i h1 h2;cases h;exact⟨r,rfl,agI h1,he,_,rfl,rfl⟩
   ·cases h
  ·cases h
 | .stuck w,x,o,h,hx=>by simp only[KP,Option.some.injEq,Prod.mk.injEq] at h;rw[<- h.1] at hx;exact absurd rfl hx
 | .call _ _ _ _ _,x,o,h,hx=>by simp[KP] at h
 | .ite c a b,x,o,h,hx=>by
  simp only[KP] at h;split at h
  ·rename_i y1 y2 q h1 h2;cases h;rw[Ty] at hx;by_cases hc:c.den s=0
   ·rw[if_pos hc] at hx;obtain⟨r,hr,h3⟩:=MR (Φ:=Φ) h2 hx;exact⟨r,by simp only[vU.path,if_pos hc];exact hr,h3⟩
   ·rw[if_neg hc] at hx;obtain⟨r,hr,_,_,z,hz,_⟩:=MR (Φ:=Φ) h1 hx;cases hz
  ·rename_i y1 q y2 hno h1 h2;cases h;rw[Ty] at hx;by_cases hc:c.den s=0
   ·rw[if_pos hc] at hx;obtain⟨r,hr,_,_,z,hz,_⟩:=MR (Φ:=Φ) h2 hx;cases hz
   ·rw[if_neg hc] at hx;obtain⟨r,hr,h3⟩:=MR (Φ:=Φ) h1 hx;exact⟨r,by simp only[vU.path,if_neg hc];exact hr,h3⟩
  ·rename_i y1 q1 y2 q2 h1 h2;split at h
   ·rename_i z hz;cases h;have hzd:=agH s c hz;rw[Ty] at hx;by_cases hc:c.den s=0
    ·rw[if_pos hc] at hx hzd;obtain⟨r,hr,h3,h4,u,hu,h5⟩:=MR (Φ:=Φ) h2 hx;cases hu;exact⟨r,by simp only[vU.path,if_pos hc];exact hr,h3,h4,_,rfl,hzd.trans h5⟩
    ·rw[if_neg hc] at hx hzd;obtain⟨r,hr,h3,h4,u,hu,h5⟩:=MR (Φ:=Φ) h1 hx;cases hu;exact⟨r,by simp only[vU.path,if_neg hc];exact hr,h3,h4,_,rfl,hzd.trans h5⟩
   ·cases h
  ·cases h
theorem apr {Φ:yE} {s:wF} {tc:List Nat} {nv:Nat} {fc:Facts} {t:vU CR} {r':CR} (hf:xS s fc) (h:(aaL tc nv fc t).path Φ s=some r'):∃ r,t.path Φ s=some r/\r.r.den s=r'.r.den s/\r.tc=r'.tc/\r.ef=r'.ef/\(xS s r.fc->xS s r'.fc):=by
 unfold aaL at h;split at h
 ·rename_i c a b;split at h
  ·rename_i x z hm;rw[ZW] at h;split at h
   ·cases h
   ·rename_i hx;cases h;obtain⟨r,h1,h2,h3,u,hu,h4⟩:=MR (Φ:=Φ) hm hx;cases hu;exact⟨r,h1,h4.symm,h2,h3,λ_=>hf⟩
  ·exact⟨r',h,rfl,rfl,rfl,id⟩
 ·exact⟨r',h,rfl,rfl,rfl,id⟩
mutual
theorem SV.aCY (s:wF):∀ (x:SV) {r:Nat},r∈(x.den s).refs->r∈x.refs
 | .v _,r,h=>by simp[SV.den,AV.refs] at h
 | .int _ _,r,h=>by simp[SV.den,AV.refs] at h
 | .bool _,r,h=>by simp[SV.den,AV.refs] at h
 | .loc b o,r,h=>by simpa [SV.den,AV.refs,SV.refs] using h
 | .sl b o l c,r,h=>by simpa [SV.den,AV.refs,SV.refs] using h
 | .hd k,r,h=>by simpa [SV.den,AV.refs,SV.refs] using h
 | .ha k off,r,h=>by simpa [SV.den,AV.refs,SV.refs] using h
 | .fn g a c,r,h=>by
  rw[SV.den] at h;rw[SV.refs];rcases List.mem_append.1 (aft h) with h|h
  ·exact List.mem_append_left _ (SV.amE s a h)
  ·exact List.mem_append_right _ (SV.amE s c h)
 | .tup l,r,h=>by rw[SV.den] at h;rw[SV.refs];exact SV.amE s l (ane h)
 | .agg l,r,h=>by rw[SV.den] at h;rw[SV.refs];exact SV.amE s l (YW h)
theorem SV.amE (s:wF):∀ (l:List SV) {r:Nat},r∈AV.aav (SV.aaE s l)->r∈SV.aav l
 | [],r,h=>by simp[SV.aaE,AV.aav] at h
 | x::l,r,h=>by
  rw[SV.aaE,AV.aav] at h;rw[SV.aav];rcases List.mem_append.1 h with h|h
  ·exact List.mem_append_left _ (SV.aCY s x h)
  ·exact List.mem_append_right _ (SV.amE s l h)
end
theorem TZ (f:Nat->Nat):∀ l:List AV,yF (AV.akX f l)=yF l
 | []=>rfl
 | .v x::l=>by simp only[AV.akX,AV.ren,yF,TZ f l]
 | .loc _ _::l=>rfl
 | .sl _ _ _ _::l=>rfl
 | .hd _::l=>rfl
 | .ha _ _::l=>rfl
 | .fn _ _ _::l=>rfl
 | .tup _::l=>rfl
 | .agg _::l=>rfl
theorem aps (f:Nat->Nat) (l:List AV):(Bi l).ren f=Bi (AV.akX f l):=by unfold Bi;rw[TZ];cases yF l<;>rfl
theorem apt (f:Nat->Nat) (l:List AV):(Cq l).ren f=Cq (AV.akX f l):=by unfold Cq;rw[TZ];cases yF l<;>rfl
theorem apu (f:Nat->Nat) (g:Fn) (a c:List AV):(Cr g a c).ren f=Cr g (AV.akX f a) (AV.akX f c):=by unfold Cr;rw[TZ,TZ];cases yF a<;>cases yF c<;>rfl
mutual
theorem SV.aDF (s:wF) (f:Nat->Nat):∀ x:SV,(x.ren f).den s=(x.den s).ren f
 | .v _=>rfl
 | .int _ _=>rfl
 | .bool _=>rfl
 | .loc b o=>rfl
 | .hd k=>rfl
 | .ha k off=>rfl
 | .sl b o l c=>rfl
 | .fn g a c=>by simp only[SV.ren,SV.den,apu,SV.aCD s f a,SV.aCD s f c]
 | .tup l=>by simp only[SV.ren,SV.den,apt,SV.aCD s f l]
 | .agg l=>by simp only[SV.ren,SV.den,aps,SV.aCD s f l]
theorem SV.aCD (s:wF) (f:Nat->Nat):∀ l:List SV,SV.aaE s (SV.akX f l)=AV.akX f (SV.aaE s l)
 | []=>rfl
 | x::l=>by simp only[SV.akX,SV.aaE,AV.akX,SV.aDF s f x,SV.aCD s f l]
end
mutual
theorem AV.aD5 {f:Nat->Nat} : ∀ x:AV,(∀ r∈x.refs,f r=r)->x.ren f=x
 | .v _,_=>rfl
 | .loc b o,h=>by simp only[AV.ren];rw[h b (by simp[AV.refs])]
 | .sl b o l c,h=>by simp only[AV.ren];rw[h b (by simp[AV.refs])]
 | .hd k,h=>by simp only[AV.ren];rw[h k (by simp[AV.refs])]
 | .ha k o,h=>by simp only[AV.ren];rw[h k (by simp[AV.refs])]
 | .fn g a c,h=>by simp only[AV.ren];rw[AV.aCO a (λr hr=>h r (by rw[AV.refs];exact List.mem_append_left _ hr)),AV.aCO c (λr hr=>h r (by rw[AV.refs];exact List.mem_append_right _ hr))]
 | .tup l,h=>by simp only[AV.ren];rw[AV.aCO l (λr hr=>h r (by rw[AV.refs];exact hr))]
 | .agg l,h=>by simp only[AV.ren];rw[AV.aCO l (λr hr=>h r (by rw[AV.refs];exact hr))]
theorem AV.aCO {f:Nat->Nat} : ∀ l:List AV,(∀ r∈AV.aav l,f r=r)->AV.akX f l=l
 | [],_=>rfl
 | x::l,h=>by rw[AV.akX,AV.aD5 x (λr hr=>h r (by rw[AV.aav];exact List.mem_append_left _ hr)),AV.aCO l (λr hr=>h r (by rw[AV.aav];exact List.mem_append_right _ hr))]
end
theorem T9 {n:Nat} : ∀ {l:List Nat},yC n l=true↔n∈l
 | []=>by simp[yC]
 | x::l=>by
  simp only[yC]
  cases h:Nat.beq x n with
  | true=>simp only[xO.1 h,List.mem_cons,true_or]
  | false =>
   simp only[];rw[T9,List.mem_cons];constructor
   ·exact .inr
   ·rintro(rfl|h1)
    ·simp at h
    ·exact h1
theorem Jy {j:Nat} : ∀ {H:SH},(∃ o,hget H j=some o)↔j∈keysOf H
 | []=>by simp[hget,keysOf]
 | x::l=>by
  simp only[hget,keysOf]
  cases h:Nat.beq x.1 j with
  | true=>simp[xO.1 h]
  | false =>
   simp only[];rw[Jy,List.mem_cons];constructor
   ·exact .inr
   ·rintro(rfl|h1)
    ·simp at h
    ·exact h1
theorem agJ {k:Nat} : ∀ {H:SH},TR k H=true->∀ j∈keysOf H,j<k
 | [],_,j,h=>by simp[keysOf] at h
 | x::l,h,j,hj=>by
  simp only[TR] at h;split at h
  ·rename_i hb;simp only[keysOf,List.mem_cons] at hj;rcases hj with rfl|hj
   ·simpa [Nat.blt_eq] using hb
   ·exact agJ h j hj
  ·cases h
structure Reached (H:SH) (l:List Nat) (R:SH):Prop where
 sub:∀ b o,hget R b=some o->hget H b=some o
 cl:∀ b o,hget R b=some o->∀ r∈SV.aav o.c,r∈keysOf R
 all:∀ b∈l,b∈keysOf R
theorem aaW {H:SH} : ∀ {n:Nat} {todo:List Nat} {acc R:SH},Pm H n todo acc=some R->(∀ b o,hget acc b=some o->hget H b=some o)->(∀ b o,hget acc b=some o->∀ r∈SV.aav o.c,r∈todo\/r∈keysOf acc) ->
  Reached H todo R/\∀ b∈keysOf acc,b∈keysOf R
 | 0,_,_,_,h,_,_=>by cases h
 | n+1,[],acc,R,h,h1,h2=>by simp only[Pm,Option.some.injEq] at h;subst h;exact⟨⟨h1,λb o hb r hr=>(h2 b o hb r hr).resolve_left (by simp),λb hb=>by simp at hb⟩,λb hb=>hb⟩
 | n+1,b::todo,acc,R,h,h1,h2=>by
  simp only[Pm] at h;split at h
  ·rename_i o ho;have hk:b∈keysOf acc:=Jy.1 ⟨o,ho⟩
   obtain⟨h3,h4⟩:=aaW h h1 (λb' o' hb' r hr=>by
    rcases h2 b' o' hb' r hr with h5|h5
    ·rcases List.mem_cons.1 h5 with rfl|h5
     ·exact .inr hk
     ·exact .inl h5
    ·exact .inr h5)
   refine⟨⟨h3.sub,h3.cl,λb' hb'=>?_⟩,h4⟩;rcases List.mem_cons.1 hb' with rfl|hb'
   ·exact h4 _ hk
   ·exact h3.all _ hb'
  ·split at h
   ·cases h
   ·rename_i hno _ o ho
    have hget':∀ b' o',hget ((b,o)::acc) b'=some o'->(b'=b/\o'=o)\/hget acc b'=some o':=λb' o' hb'=>by
     simp only[hget] at hb';split at hb'
     ·rename_i he;cases hb';exact .inl ⟨(xO.1 he).symm,rfl⟩
     ·exact .inr hb'
    obtain⟨h3,h4⟩:=aaW h (λb' o' hb'=>by
     rcases hget' b' o' hb' with⟨rfl,rfl⟩|hb'
     ·exact ho
     ·exact h1 b' o' hb') (λb' o' hb' r hr=>by
     rcases hget' b' o' hb' with⟨rfl,rfl⟩|hb'
     ·exact .inl (List.mem_append_left _ hr)
     ·rcases h2 b' o' hb' r hr with h5|h5
      ·rcases List.mem_cons.1 h5 with rfl|h5
       ·exact .inr (by simp[keysOf])
       ·exact .inl (List.mem_append_right _ h5)
      ·exact .inr (by simp[keysOf,h5]))
    refine⟨⟨h3.sub,h3.cl,λb' hb'=>?_⟩,λb' hb'=>h4 _ (by simp[keysOf,hb'])⟩;rcases List.mem_cons.1 hb' with rfl|hb'
    ·exact h4 _ (by simp[keysOf])
    ·exact h3.all _ (List.mem_append_right _ hb')
theorem agK {H:SH} {l:List Nat} {R:SH} (h:reach H l=some R):Reached H l R:=by
 unfold reach at h;split at h
 ·cases h;exact⟨λb o hb=>(by cases hb),λb o hb=>(by cases hb),λb hb=>(by cases hb)⟩
 ·exact(aaW h (λb o hb=>(by cases hb)) (λb o hb=>(by cases hb))).1
theorem agL {k:Nat} {objs:SH} : ∀ {R:SH} {nw:List Nat},TQ k objs R=some nw->(∀ j∈keysOf R,j∈nw\/j∈keysOf objs)/\∀ n∈nw,k<=n/\n∈keysOf R
 | [],nw,h=>by cases h;exact⟨λj hj=>by simp[keysOf] at hj,λn hn=>by simp at hn⟩
 | x::l,nw,h=>by
  simp only[TQ] at h;split at h
  ·cases h
  ·rename_i r hr;obtain⟨h1,h2⟩:=agL hr;split at h
   ·rename_i hk;cases h;refine⟨λj hj=>?_,λn hn=>?_⟩
    ·simp only[keysOf,List.mem_cons] at hj;rcases hj with rfl|hj
     ·exact .inl List.mem_cons_self
     ·exact(h1 j hj).imp (List.mem_cons_of_mem _) id
    ·rcases List.mem_cons.1 hn with rfl|hn
     ·exact⟨Nat.le_of_ble_eq_true hk,by simp[keysOf]⟩
     ·exact⟨(h2 n hn).1,by simp[keysOf,(h2 n hn).2]⟩
   ·split at h
    ·rename_i o ho;cases h;refine⟨λj hj=>?_,λn hn=>⟨(h2 n hn).1,by simp[keysOf,(h2 n hn).2]⟩⟩;simp only[keysOf,List.mem_cons] at hj;rcases hj with rfl|hj
     ·exact .inr (Jy.1 ⟨o,ho⟩)
     ·exact h1 j hj
    ·cases h
theorem Jz {dt:List Nat} {j:Nat} : ∀ {H:SH},j∈DU dt H↔j∈keysOf H/\yC j dt=true
 | []=>by simp[DU,keysOf]
 | x::l=>by
  simp only[DU,keysOf]
  cases h:yC x.1 dt with
  | true =>
   simp only[List.mem_cons,Jz (H:=l)];constructor
   ·rintro(rfl|h1)
    ·exact⟨.inl rfl,h⟩
    ·exact⟨.inr h1.1,h1.2⟩
   ·rintro⟨rfl|h1,h2⟩
    ·exact .inl rfl
    ·exact .inr ⟨h1,h2⟩
  | false =>
   simp only[List.mem_cons,Jz (H:=l)];constructor
   ·rintro⟨h1,h2⟩;exact⟨.inr h1,h2⟩
   ·rintro⟨rfl|h1,h2⟩
    ·rw[h] at h2;cases h2
    ·exact⟨h1,h2⟩
def Pt (s:wF) (f:Nat->Nat) (o:SO):AO:=(⟨SV.akX f o.c,o.t⟩:SO).den s
theorem apv (f:Nat->Nat):∀ c:List SV,FR (SV.akX f c)=FR c
 | []=>rfl
 | [x]=>by cases x<;>rfl
 | x::y::l=>by cases x<;>cases y<;>rfl
theorem apw (f:Nat->Nat):∀ c:List SV,Dj (SV.akX f c)=Dj c
 | []=>rfl
 | [x]=>by cases x<;>rfl
 | x::y::l=>rfl
theorem agM (f:Nat->Nat):∀ l:List SV,(SV.akX f l).map V6=l.map V6
 | []=>rfl
 | x::l=>by rw[SV.akX,List.map_cons,List.map_cons,agM f l];cases x<;>rfl
theorem apx (f:Nat->Nat):∀ c:List SV,DT (SV.akX f c)=DT c
 | []=>rfl
 | [x]=>rfl
 | [x,y]=>rfl
 | x::y::z::l=>by
  have e1:V7 (SV.ren f x)=V7 x:=by cases x<;>rfl
  have e2:V8 (SV.ren f y)=V8 y:=by cases y<;>rfl
  have e3:V9 (SV.ren f z)=V9 z:=by cases z<;>rfl
  simp only[SV.akX,DT,agM,e1,e2,e3]
theorem agN (s:wF) (f:Nat->Nat) (o:SO):Pt s f o=AO.ren f (o.den s):=by
 obtain⟨c,t⟩:=o
 cases t with
 | some t=>unfold Pt SO.den AO.ren;simp only[SV.aCD]
 | none =>
  unfold Pt SO.den;simp only[apv,apw,apx]
  cases Dj c with
  | some es=>rfl
  | none=>cases DT c<;>rfl
theorem MS:∀ {l:SH} {k:Nat} {o:SO},MQ l=true->hget l k=some o->∃ t,o.t=some t
 | [],k,o,_,h=>by cases h
 | x::l,k,o,ha,h=>by
  simp only[MQ] at ha;simp only[hget] at h;split at ha
  ·rename_i t ht;split at h
   ·cases h;exact⟨t,ht⟩
   ·exact MS ha h
  ·cases ha
theorem agO:∀ (a b:List (Nat×AO)) (H:wm),H.puts (a++b)=(H.puts a).puts b
 | [],b,H=>rfl
 | x::a,b,H=>by rw[List.cons_append,wm.puts,wm.puts,agO a b]
theorem aaX (s:wF) (f:Nat->Nat) (Hh:SH):∀ (l:List Nat) (H:wm) (j:Nat),(H.puts (xz s (Il f Hh l))) j=match (match yC j l with|true=>hget Hh j|false=>none) with|some o=>some (Pt s f o)|none=>H j
 | [],H,j=>rfl
 | b::l,H,j=>by
  simp only[Il]
  cases ho:hget Hh b with
  | some o =>
   simp only[];rw[xz,List.map_cons,wm.puts];have ih:=aaX s f Hh l (H.put b (Pt s f o)) j;rw[xz] at ih;refine ih.trans ?_;simp only[yC]
   cases hb:Nat.beq b j with
   | true =>
    have:=xO.1 hb;subst this;simp only[ho]
    cases yC b l with
    | true=>simp only[ho]
    | false=>simp only[wm.aed]
   | false =>
    simp only[]
    cases hm:yC j l with
    | true =>
     simp only[]
     cases hget Hh j with
     | some _=>rfl
     | none=>simp only[];exact wm.anO _ _ _ (λe=>by subst e;simp at hb)
    | false=>simp only[];exact wm.anO _ _ _ (λe=>by subst e;simp at hb)
  | none =>
   simp only[];refine(aaX s f Hh l H j).trans ?_;simp only[yC]
   cases hb:Nat.beq b j with
   | true =>
    have:=xO.1 hb;subst this;simp only[ho];cases yC b l<;>simp only[ho]
   | false=>rfl
structure Names (k:Nat) (nw:List Nat) (m:List (Nat×Nat)) (f:Nat->Nat) (src:Nat->Option Nat):Prop where
 old:∀ j,j<k->f j=j
 new:∀ n∈nw,src (f n)=some n
 srcOld:∀ j,j<k->src j=none
 srcNew:∀ j n,src j=some n->n∈nw/\f n=j/\(j=k\/j=k+1)
theorem apy {k:Nat} {nw:List Nat} {m:List (Nat×Nat)} (h:Wp k nw=some m) (hk:∀ n∈nw,k<=n):∃ src,Names k nw m (zJ m) src/\∀ (s:wF) (Hh:SH),(∀ n∈nw,∃ o,hget Hh n=some o)->∀ (H:wm) (j:Nat),
  (H.puts (xz s (GM (zJ m) Hh nw))) j=match src j with|some n=>(hget Hh n).map (Pt s (zJ m))|none=>H j:=by
 unfold Wp at h;split at h
 ·cases h;exact⟨λ_=>none,⟨λ_ _=>rfl,λn hn=>by simp at hn,λ_ _=>rfl,λ_ _ h=>by cases h⟩,λs Hh _ H j=>rfl⟩
 ·rename_i n1;cases h;have h1:=hk n1 (by simp);refine⟨λj=>if j=k then some n1 else none,⟨?_,?_,?_,?_⟩,?_⟩
  ·intro j hj;simp only[zJ]
   cases hb:Nat.beq n1 j with
   | true=>have:=xO.1 hb;omega
   | false=>rfl
  ·intro n hn;simp only[List.mem_singleton] at hn;subst hn;simp[zJ]
  ·intro j hj;simp;omega
  ·intro j n hs;split at hs
   ·rename_i hj;cases hs;subst hj;exact⟨by simp,by simp[zJ],.inl rfl⟩
   ·cases hs
  ·intro s Hh hH H j;obtain⟨o,ho⟩:=hH n1 (by simp);simp only[GM,ho,xz,List.map_cons,List.map_nil,wm.puts];have hf:zJ [(n1,k)] n1=k:=by simp[zJ]
   rw[hf];by_cases hj:j=k
   ·subst hj;simp only[if_true,wm.aed,ho];rfl
   ·simp only[if_neg hj];exact wm.anO _ _ _ hj
 ·rename_i n1 n2;split at h
  ·cases h
  ·rename_i hne;cases h;have h1:=hk n1 (by simp);have h2:=hk n2 (by simp);have hne':n1≠n2:=λe=>by subst e;simp at hne
   have f1:zJ [(n1,k),(n2,k+1)] n1=k:=by simp[zJ]
   have f2:zJ [(n1,k),(n2,k+1)] n2=k+1:=by simp only[zJ,hne];simp
   refine⟨λj=>if j=k then some n1 else if j=k+1 then some n2 else none,⟨?_,?_,?_,?_⟩,?_⟩
   ·intro j hj;simp only[zJ]
    cases hb:Nat.beq n1 j with
    | true=>have:=xO.1 hb;omega
    | false =>
     simp only[]
     cases hb2:Nat.beq n2 j with
     | true=>have:=xO.1 hb2;omega
     | false=>rfl
   ·intro n hn;simp only[List.mem_cons,List.not_mem_nil,or_false] at hn;rcases hn with rfl|rfl
    ·rw[f1];simp
    ·rw[f2];simp
   ·intro j hj;rw[if_neg (by omega),if_neg (by omega)]
   ·intro j n hs;split at hs
    ·rename_i hj;cases hs;subst hj;exact⟨by simp,f1,.inl rfl⟩
    ·split at hs
     ·rename_i hj;cases hs;subst hj;exact⟨by simp,f2,.inr rfl⟩
     ·cases hs
   ·intro s Hh hH H j;obtain⟨o1,ho1⟩:=hH n1 (by simp);obtain⟨o2,ho2⟩:=hH n2 (by simp);simp only[GM,ho1,ho2,xz,List.map_cons,List.map_nil,wm.puts,f1,f2];by_cases hj:j=k
    ·subst hj;rw[wm.anO _ _ _ (by omega),wm.aed];simp only[if_true,ho1];rfl
    ·by_cases hj2:j=k+1
     ·subst hj2;rw[wm.aed];simp only[if_neg hj,if_true,ho2];rfl
     ·rw[wm.anO _ _ _ hj2,wm.anO _ _ _ hj];simp only[if_neg hj,if_neg hj2]
 ·cases h
theorem aaY:∀ (l:List SV) (n t:Nat),Ae (zK l n) t=match l[t]? with|some x=>if t<n then some x else none|none=>if t<n then some (.v undef) else none
 | [],0,t=>by simp[zK,Ae]
 | [],n+1,0=>by simp[zK,Ae]
 | [],n+1,t+1=>by simp only[zK,Ae];rw[aaY [] n t];simp
 | x::l,0,t=>by simp only[zK,Ae];cases (x::l)[t]? <;> simp
 | x::l,n+1,0=>by simp[zK,Ae]
 | x::l,n+1,t+1=>by simp only[zK,Ae];rw[aaY l n t];simp
theorem Pv (s:wF) (l:List SV) (n:Nat):wT.den s (zK l n)=Jl (SV.aaE s l) n:=by
 funext t;unfold wT.den Jl;rw[aaY,SV.aeX,List.getElem?_map]
 cases l[t]? with
 | some x=>simp only[Option.map_some];split<;>rfl
 | none=>simp only[Option.map_none];split<;>rfl
theorem KS:∀ (l:List SV) (n:Nat),l.length<=n->(zK l n).length=n
 | [],0,_=>rfl
 | [],n+1,_=>by rw[zK];simp[KS [] n (by simp)]
 | x::l,0,h=>by simp at h
 | x::l,n+1,h=>by rw[zK];simp[KS l n (by simpa using h)]
theorem KT {P:Program} {G:wQ} (s:wF) {T:wT} {H:SH} : ∀ {l:List ResultVar} {rs:List SV},Af P T H l=some rs->DF P G (wT.den s T) (SH.den s H) l=some (SV.aaE s rs)
 | [],rs,h=>by cases h;rfl
 | .tmp t::l,rs,h=>by
  simp only[Af] at h;split at h
  ·rename_i x r hx hr;cases h;simp only[DF,KT s hr];have:wT.den s T t=some (x.den s):=by simp[wT.den,hx]
   rw[this];rfl
  ·cases h
 | .cell a t::l,rs,h=>by
  simp only[Af] at h;split at h
  ·rename_i b o hx;split at h
   ·rename_i ob hob;split at h
    ·rename_i t0 ht0;split at h
     ·rename_i x r hx2 hr;cases h;have:wT.den s T a=some (.loc b o):=by simp[wT.den,hx,SV.den]
      simp only[DF,this,CK,SH.aCp hob ht0,ML s hx2,KT s hr];rfl
     ·cases h
    ·cases h
   ·cases h
  ·cases h
structure Es (C:xP) (s:wF) (g:FuncId) (args:List SV) (H:SH) (k:Nat) (r:CR):Prop where
 tc:∀ b∈r.tc,SH.den s H b≠none
 ef:∀ x∈xz s r.ef,x.1=k\/x.1=k+1\/x.1∈r.tc
 fc:xS s r.fc
 ok:∀ w0 B0,Tg C.P C.G w0 B0 g (SV.aaE s args) (SH.den s H) r.tc k (r.r.den s) (xz s r.ef)
def DOK (H0:SH) (dt:List Nat) (H:SH):Prop:=∀ j,yC j dt=false->hget H j=hget H0 j
def Bq (s:wF) (ex:Exit) (st:St):DD:=λx N T H=>x=ex/\N=st.N/\T=wT.den s st.T/\H=SH.den s st.H
theorem aaZ {s:wF} {f:Nat->Nat} {Hh:SH} : ∀ {l:List Nat} {x:Nat×AO},x∈xz s (Il f Hh l)->x.1∈l
 | [],x,h=>by simp[Il,xz] at h
 | b::l,x,h=>by
  simp only[Il] at h;split at h
  ·rw[xz,List.map_cons] at h;rcases List.mem_cons.1 h with rfl|h
   ·exact List.mem_cons_self
   ·exact List.mem_cons_of_mem _ (aaZ h)
  ·exact List.mem_cons_of_mem _ (aaZ h)
theorem aa0 {s:wF} {f:Nat->Nat} {Hh:SH} : ∀ {l:List Nat} {x:Nat×AO},x∈xz s (GM f Hh l)->∃ n∈l,x.1=f n
 | [],x,h=>by simp[GM,xz] at h
 | b::l,x,h=>by
  simp only[GM] at h;split at h
  ·rw[xz,List.map_cons] at h;rcases List.mem_cons.1 h with rfl|h
   ·exact⟨b,List.mem_cons_self,rfl⟩
   ·obtain⟨n,hn,e⟩:=aa0 h;exact⟨n,List.mem_cons_of_mem _ hn,e⟩
  ·obtain⟨n,hn,e⟩:=aa0 h;exact⟨n,List.mem_cons_of_mem _ hn,e⟩
theorem agQ {C:xP} {E:xV} {s:wF} {g:FuncId} {fn:Func} {cd:Code} {args:List SV} {H objs:SH} {k:Nat} {ex:Exit} {st:St} {rs:List SV} {R2:SH} {nw:List Nat} {m:List (Nat×Nat)} {fc:Facts}
  (hf:C.P.funcs[g]? = some fn) (hb:fn.body=some cd) (hn:(fn.name == "runtime.NumGoroutine")=false) (hro:reach H (SV.aav args)=some objs) (hl:Nat.ble args.length fn.ntmps=true) (hk:TR k objs=true)
  (hA:∀ w0 B0,AW ⟨C.P,C.G,E,w0,B0,fn.ntmps⟩ cd (Bq s ex st) k (wT.den s (zK args fn.ntmps)) (SH.den s objs)) (hex:ex = .normal\/ex = .ret) (hD:DOK objs st.dt st.H) (hfc:xS s fc)
  (hrs:Af C.P st.T st.H fn.results.toList=some rs) (hR2:reach st.H (SV.aav rs++DU st.dt objs)=some R2) (hw0:MQ objs=true) (hw2:MQ R2=true) (hnw:TQ k objs R2=some nw) (hm:Wp k nw=some m) (nv:Nat) :
  Es C s g args H k ⟨(aeY rs).ren (zJ m),keysOf objs,Il (zJ m) st.H (DU st.dt objs)++GM (zJ m) st.H nw,nv,fc⟩:=by
 have ro:=agK hro;have r2:=agK hR2;obtain⟨n1,n2⟩:=agL hnw;obtain⟨src,hN,hput⟩:=apy hm (λn hn=>(n2 n hn).1);have hlt:=agJ hk
 have hH:∀ j∈keysOf objs,∃ o,hget objs j=some o/\hget H j=some o:=λj hj=>by obtain⟨o,ho⟩:=Jy.2 hj;exact⟨o,ho,ro.sub j o ho⟩
 have hden:∀ j∈keysOf objs,SH.den s objs j=SH.den s H j:=λj hj=>by obtain⟨o,h1,h2⟩:=hH j hj;unfold SH.den;rw[h1,h2]
 have hnew:∀ n∈nw,∃ o,hget st.H n=some o/\hget R2 n=some o:=λn hn=>by obtain⟨o,ho⟩:=Jy.2 (n2 n hn).2;exact⟨o,r2.sub n o ho,ho⟩
 let sr:Nat->Option Nat:=λj=>if j∈keysOf objs then some j else src j
 have srk:∀ j∈keysOf objs,sr j=some j:=λj hj=>if_pos hj
 have srn:∀ r,(r∈nw\/r∈keysOf objs)->sr (zJ m r)=some r:=by
  rintro r (hr|hr)
  ·have h1:=hN.new r hr
   have:zJ m r∉keysOf objs:=λhm'=>by have:=hN.srcOld _ (hlt _ hm');rw[this] at h1;cases h1
   show(if _ then _ else _)=_;rw[if_neg this,h1]
  ·rw[hN.old r (hlt r hr)];exact srk r hr
 have clean:∀ j∈keysOf objs,yC j st.dt=false->∃ o,hget st.H j=some o/\hget objs j=some o:=λj hj hd=>by obtain⟨o,h1,_⟩:=hH j hj;exact⟨o,by rw[hD j hd];exact h1,h1⟩
 have cont:∀ j o,hget st.H j=some o->(j∈nw\/j∈keysOf objs)->∀ r∈SV.aav o.c,r∈nw\/r∈keysOf objs:=by
  intro j o ho hj r hr
  have BL:∀ b,b∈keysOf R2->hget st.H b=some o->r∈nw\/r∈keysOf objs:=λb hbk hb=>by obtain⟨o',ho'⟩:=Jy.2 hbk;have:=r2.sub b o' ho';rw[hb] at this;cases this;exact n1 r (r2.cl b o ho' r hr)
  rcases hj with hj|hj
  ·exact BL j (n2 j hj).2 ho
  ·cases hd:yC j st.dt with
   | true=>exact BL j (r2.all j (List.mem_append_right _ (Jz.2 ⟨hj,hd⟩))) ho
   | false =>
    obtain⟨o',h1,h2⟩:=clean j hj hd;rw[ho] at h1;cases h1;exact .inr (ro.cl j o h2 r hr)
 have have':∀ j,(j∈nw\/j∈keysOf objs)->∃ o,hget st.H j=some o:=by
  rintro j (hj|hj)
  ·obtain⟨o,h1,_⟩:=hnew j hj;exact⟨o,h1⟩
  ·cases hd:yC j st.dt with
   | true =>
    obtain⟨o,ho⟩:=Jy.2 (r2.all j (List.mem_append_right _ (Jz.2 ⟨hj,hd⟩)));exact⟨o,r2.sub j o ho⟩
   | false=>obtain⟨o,h1,_⟩:=clean j hj hd;exact⟨o,h1⟩
 have own':∀ j o,(j∈nw\/j∈keysOf objs)->hget st.H j=some o->∃ t,o.t=some t:=by
  intro j o hj ho;rcases hj with hj|hj
  ·obtain⟨o',h1,h2⟩:=hnew j hj;rw[ho] at h1;cases h1;exact MS hw2 h2
  ·cases hd:yC j st.dt with
   | true =>
    obtain⟨o',ho'⟩:=Jy.2 (r2.all j (List.mem_append_right _ (Jz.2 ⟨hj,hd⟩)));have:=r2.sub j o' ho';rw[ho] at this;cases this;exact MS hw2 ho'
   | false =>
    obtain⟨o',h1,h2⟩:=clean j hj hd;rw[ho] at h1;cases h1;exact MS hw0 h2
 refine⟨?_,?_,hfc,?_⟩
 ·intro b hb;obtain⟨o,_,h2⟩:=hH b hb;unfold SH.den;rw[h2];simp
 ·intro x hx;rw[xz,List.map_append,<- xz,<- xz] at hx;rcases List.mem_append.1 hx with hx|hx
  ·exact .inr (.inr (Jz.1 (aaZ hx)).1)
  ·obtain⟨n,hn,e⟩:=aa0 hx;rw[e];exact(hN.srcNew _ n (hN.new n hn)).2.2.imp id .inl
 ·intro w0 B0;rw[SV.aDF];refine apn E (H1:=SH.den s objs) (Hc:=SH.den s st.H) (keysOf objs) k sr (zJ m) hf hb hn (by rw[Ep];exact hl) ?_ ?_ ?_ ?_ ?_ srk ?_ ?_ ?_ ?_
  ·intro j o hj;unfold SH.den at hj
   cases hg:hget objs j with
   | none=>rw[hg] at hj;cases hj
   | some o'=>exact Jy.1 ⟨o',hg⟩
  ·intro j hj;obtain⟨o,h1,h2⟩:=hH j hj;obtain⟨t0,ht0⟩:=MS hw0 h1;exact⟨hden j hj,⟨_,_,SH.aCp h2 ht0⟩,hlt j hj⟩
  ·intro j c t hj r hr;unfold SH.den at hj
   cases hg:hget objs j with
   | none=>rw[hg] at hj;cases hj
   | some o' =>
    rw[hg] at hj;obtain⟨t0,ht0⟩:=MS hw0 hg;rw[Option.map_some,SO.aCW s ht0] at hj;simp only[Option.some.injEq,AO.own.injEq] at hj;rw[<- hj.1] at hr;exact ro.cl j o' hg r (SV.amE s _ hr)
  ·intro x hx j hj;rw[SV.aeX] at hx;obtain⟨y,hy,rfl⟩:=List.mem_map.1 hx;refine ro.all j ?_;have:j∈AV.aav (SV.aaE s args):=AV.aec.2 ⟨_,by rw[SV.aeX];exact List.mem_map_of_mem hy,hj⟩;exact SV.amE s args this
  ·intro j n hs
   have key:(n∈nw\/n∈keysOf objs)/\zJ m n=j:=by
    by_cases hj:j∈keysOf objs
    ·have:sr j=some j:=srk j hj;rw[this] at hs;cases hs;exact⟨.inr hj,hN.old j (hlt j hj)⟩
    ·have:sr j=src j:=if_neg hj;rw[this] at hs;obtain⟨h1,h2,_⟩:=hN.srcNew j n hs;exact⟨.inl h1,h2⟩
   obtain⟨o,ho⟩:=have' n key.1;obtain⟨t0,ht0⟩:=own' n o key.1 ho;refine⟨key.2,_,_,SH.aCp ho ht0,λr hr=>srn r (cont n o ho key.1 r (SV.amE s _ hr))⟩
  ·intro j n hs;by_cases hj:j∈keysOf objs
   ·exact .inl hj
   ·have:sr j=src j:=if_neg hj;rw[this] at hs;exact .inr (hN.srcNew j n hs).2.2
  ·intro j hj;refine srn j (n1 j (r2.all j (List.mem_append_left _ ?_)));have h1:=SV.aCY s _ hj
   cases rs with
   | nil=>simp[aeY,SV.refs,SV.aav] at h1
   | cons x l=>cases l with
    | nil=>simpa [aeY,SV.aav] using h1
    | cons y l=>exact h1
  ·intro H' hag j;rw[xz,List.map_append,<- xz,<- xz,agO,hput s st.H (λn hn=>(hnew n hn).imp λo ho=>ho.1),aaX];by_cases hj:j∈keysOf objs
   ·have h0:src j=none:=hN.srcOld j (hlt j hj);rw[h0,srk j hj];simp only
    cases hd:yC j st.dt with
    | true =>
     have:yC j (DU st.dt objs)=true:=T9.2 (Jz.2 ⟨hj,hd⟩);rw[this];obtain⟨o,ho⟩:=have' j (.inr hj);simp only[ho,SH.den,Option.map_some,agN]
    | false =>
     have:yC j (DU st.dt objs)=false:=by
      cases hmn:yC j (DU st.dt objs) with
      | false=>rfl
      | true=>have:=(Jz.1 (T9.1 hmn)).2;rw[hd] at this;cases this
     rw[this];obtain⟨o,h1,h2⟩:=clean j hj hd;obtain⟨o',h3,h4⟩:=hH j hj;rw[h2] at h3;cases h3;simp only[];rw[hag j hj];obtain⟨t0,ht0⟩:=MS hw0 h2;simp only[SH.den,h1,h4,Option.map_some,SO.aCW s ht0,AO.ren];rw[AV.aCO _ (λr hr=>hN.old r (hlt r (ro.cl j o h2 r (SV.amE s _ hr))))]
   ·have h0:sr j=src j:=if_neg hj;rw[h0]
    cases hs:src j with
    | some n =>
     simp only;obtain⟨o,ho⟩:=have' n (.inl (hN.srcNew j n hs).1);simp only[ho,SH.den,Option.map_some,agN]
    | none =>
     simp only
     have:yC j (DU st.dt objs)=false:=by
      cases hmn:yC j (DU st.dt objs) with
      | false=>rfl
      | true=>exact absurd (Jz.1 (T9.1 hmn)).1 hj
     rw[this]
  ·intro w1 B;have:=hA w1 B;rw[Pv] at this;refine this.mono ?_;rintro x N T Hx ⟨rfl,rfl,rfl,rfl⟩;have hres:=KT (G:=C.G) s hrs;rcases hex with rfl|rfl
   ·exact⟨_,hres,KR s rs,rfl⟩
   ·exact⟨_,hres,KR s rs,rfl⟩
def MU (w:World) (k:VK) (n:Int) (v:Value):Prop:=match k with
 | .nat=>Reads w v (wO n.toNat) (Di n.toNat)
 | k=>v=yw k n
def yD (w:World):List VK->List Int->List Value->Prop
 | [],[],[]=>True
 | k::ks,n::ns,v::vs=>MU w k n v/\yD w ks ns vs
 | _,_,_=>False
def Ua (h:Sh) (vs:List Value):Value:=match h with
 | .sc _=>vs.headD undef
 | .agg l=>.agg (vs.take l.length).toArray
def GQ:List Sh->List Value->List Value
 | [],_=>[]
 | h::hs,vs=>Ua h vs::GQ hs (vs.drop h.kinds.length)
def Io (P:Program) (G:wQ) (g:FuncId) (ct:Ct) (l r:List Int):Prop:=∀ w fvs,Gl G w->yD w (vV ct.a) l fvs->Ce P g (GQ ct.a fvs).toArray w λe w' =>
 ∃ fus,e = .returned (xU (GQ ct.r fus))/\yD w' (vV ct.r) r fus/\(∀ u∈fus,∀ b,yR u=some b->w.heap.size<=b\/∃ v∈fvs,yR v=some b)/\vY w w'
theorem yD.len {w:World} : ∀ {ks:List VK} {ns:List Int} {vs:List Value},yD w ks ns vs->ns.length=ks.length/\vs.length=ks.length
 | [],[],[],_=>⟨rfl,rfl⟩
 | k::ks,n::ns,v::vs,h=>by obtain⟨h1,h2⟩:=yD.len h.2;exact⟨by simp[h1],by simp[h2]⟩
 | [],_::_,_,h=>h.elim
 | [],[],_::_,h=>h.elim
 | _::_,[],_,h=>h.elim
 | _::_,_::_,[],h=>h.elim
theorem aa1 {w:World} {v:Value} {n:Nat} {c:List Value} (h:Reads w v n c):EP v=v:=by rcases h with⟨h1,_⟩|⟨b',o,cap,h1,_⟩<;>rw[h1]<;>rfl
theorem apz {k:VK} {n:Int} (h:nN k=0):yR (yw k n)=none:=by cases k<;>first|rfl|cases h
theorem yD.append {w:World} : ∀ {ks js:List VK} {ns ms:List Int} {vs us:List Value},yD w ks ns vs->yD w js ms us->yD w (ks++js) (ns++ms) (vs++us)
 | [],js,[],ms,[],us,_,h=>h
 | k::ks,js,n::ns,ms,v::vs,us,h,h'=>⟨h.1,yD.append h.2 h'⟩
 | [],_,_::_,_,_,_,h,_=>h.elim
 | [],_,[],_,_::_,_,h,_=>h.elim
 | _::_,_,[],_,_,_,h,_=>h.elim
 | _::_,_,_::_,_,[],_,h,_=>h.elim
structure JA (w0:World) (B0:xB) (e:Env) (H:wm) (v:Value):Prop where
 ap:∀ b,yR v=some b->∀ j c t,H j=some (.own c t)->b≠e.blk j
 new:∀ b,yR v=some b->w0.heap.size<=b\/∃ j∈B0.dom,yR (B0.env.hnd j)=some b
section
variable {G:wQ} {w0:World} {B0:xB} {e:Env} {H':wm} {w:World} {s:wF} {H:SH}
theorem agR {v:Value} (h:yR v=none):JA w0 B0 e H' v:=⟨λb hb=>(by rw[h] at hb;cases hb),λb hb=>(by rw[h] at hb;cases hb)⟩
theorem agS (R:xh G w0 B0 e H' w) {k:VK} {x:SV} {a:X} (h:Po H k x=some a) (hag:∀ b∈x.refs,H' b=SH.den s H b) :
  ∃ v,(x.den s).val e=v/\MU w k (a.den s) v/\JA w0 B0 e H' v:=by
 have plain:∀ k,nN k=0->GL k x=some a->∃ v,(x.den s).val e=v/\v=yw k (a.den s)/\JA w0 B0 e H' v:=λk hk h=>by
  refine⟨_,rfl,?_,?_⟩
  ·rw[Wt s h];rfl
  ·rw[Wt s h];exact agR (apz hk)
 cases k with
 | int k=>exact plain _ rfl h
 | bool=>exact plain _ rfl h
 | bit=>exact plain _ rfl h
 | nat =>
  simp only[Po] at h;split at h
  ·rename_i j;split at h
   ·rename_i o ho;split at h
    ·rename_i ht
     obtain⟨kd,x,hc,rfl⟩:∃ kd x,o.c = [.int kd x]/\a=x:=by
      split at h
      ·rename_i kd x hc;cases h;exact⟨kd,_,hc,rfl⟩
      ·cases h
     have hj:H' j=some (.rd (wO (X.den s a).toNat) (Di (X.den s a).toNat)):=by have:=SH.aCG (s:=s) ho ht (by rw[hc];rfl) (by rw[hc];rfl);rw[hag j (by simp[SV.refs]),this,hc];rfl
     have hr:=R.rd j _ _ hj;refine⟨e.hnd j,?_,hr,?_,?_⟩
     ·simp only[SV.den,AV.val];exact aa1 hr
     ·intro b hb i c t hi he;exact R.apart j _ _ i c t hj hi (by rw[hb,he])
     ·intro b hb;exact R.new j _ _ hj b hb
    ·cases h
   ·cases h
  ·cases h;refine⟨.slice none 0 0,rfl,?_,agR rfl⟩;exact .inl ⟨rfl,rfl,rfl⟩
  ·cases h
theorem aa2 (R:xh G w0 B0 e H' w):∀ {ks:List VK} {xs:List SV} {l:List X},Im H ks xs=some l->(∀ b∈SV.aav xs,H' b=SH.den s H b) ->
  ∃ fvs,AV.vals e (SV.aaE s xs)=fvs/\yD w ks (l.map (X.den s)) fvs/\∀ v∈fvs,JA w0 B0 e H' v
 | [],[],l,h,_=>by cases h;exact⟨[],rfl,trivial,λv hv=>by cases hv⟩
 | k::ks,x::xs,l,h,hag=>by
  simp only[Im] at h;split at h
  ·rename_i a l' ha hl;cases h;obtain⟨fvs,h1,h2,h3⟩:=aa2 R hl (λb hb=>hag b (by rw[SV.aav];exact List.mem_append_right _ hb));obtain⟨v,h4,h5,h6⟩:=agS R ha (λb hb=>hag b (by rw[SV.aav];exact List.mem_append_left _ hb));refine⟨v::fvs,by rw[SV.aaE,AV.vals,h1,h4],⟨h5,h2⟩,λu hu=>?_⟩;rcases List.mem_cons.1 hu with rfl|hu
   ·exact h6
   ·exact h3 u hu
  ·cases h
 | [],_::_,l,h,_=>by cases h
 | _::_,[],l,h,_=>by cases h
theorem apA (R:xh G w0 B0 e H' w) {sh:Sh} {x:SV} {l:List X} (h:Pp H sh x=some l) (hag:∀ b∈x.refs,H' b=SH.den s H b) :
  ∃ fvs,(∀ us,(x.den s).val e=Ua sh (fvs++us))/\yD w sh.kinds (l.map (X.den s)) fvs/\∀ v∈fvs,JA w0 B0 e H' v:=by
 unfold Pp at h;split at h
 ·split at h
  ·rename_i a ha;cases h;obtain⟨v,h1,h2,h3⟩:=agS R ha hag;exact⟨[v],λus=>h1,⟨h2,trivial⟩,λu hu=>by simp at hu;subst hu;exact h3⟩
  ·cases h
 ·rename_i ks xs;obtain⟨fvs,h1,h2,h3⟩:=aa2 R h (λb hb=>hag b (by rw[SV.refs];exact hb));refine⟨fvs,λus=>?_,h2,h3⟩;rw[SV.den,Td,h1];simp only[Ua];rw[List.take_append_of_le_length (by rw[(yD.len h2).2];exact Nat.le_refl _),List.take_of_length_le (by rw[(yD.len h2).2];exact Nat.le_refl _)]
 ·rename_i ks cs
  have hrf:∀ l:List Value,SV.aav (l.map Cv) = []:=λl=>by
   induction l with
   | nil=>rfl
   | cons x l ih=>rw[List.map_cons,SV.aav,ih];cases x<;>rfl
  obtain⟨fvs,h1,h2,h3⟩:=aa2 R h (λb hb=>by rw[hrf] at hb;cases hb);refine⟨fvs,λus=>?_,h2,h3⟩;rw[FQ,Cs] at h1;simp only[SV.den,AV.val,Ua];rw[List.take_append_of_le_length (by rw[(yD.len h2).2];exact Nat.le_refl _),List.take_of_length_le (by rw[(yD.len h2).2];exact Nat.le_refl _),<- h1]
 ·cases h
theorem aa3 (R:xh G w0 B0 e H' w):∀ {hs:List Sh} {xs:List SV} {l:List X},FZ H hs xs=some l->(∀ b∈SV.aav xs,H' b=SH.den s H b) ->
  ∃ fvs,AV.vals e (SV.aaE s xs)=GQ hs fvs/\yD w (vV hs) (l.map (X.den s)) fvs/\∀ v∈fvs,JA w0 B0 e H' v
 | [],[],l,h,_=>by cases h;exact⟨[],rfl,trivial,λv hv=>by cases hv⟩
 | sh::hs,x::xs,l,h,hag=>by
  simp only[FZ] at h;split at h
  ·rename_i a l' ha hl;cases h;obtain⟨fvs,h1,h2,h3⟩:=aa3 R hl (λb hb=>hag b (by rw[SV.aav];exact List.mem_append_right _ hb));obtain⟨gvs,h4,h5,h6⟩:=apA R ha (λb hb=>hag b (by rw[SV.aav];exact List.mem_append_left _ hb));refine⟨gvs++fvs,?_,?_,λu hu=>?_⟩
   ·rw[SV.aaE,AV.vals,h1,h4 fvs,GQ,List.drop_append_of_le_length (by rw[(yD.len h5).2];exact Nat.le_refl _),List.drop_of_length_le (by rw[(yD.len h5).2];exact Nat.le_refl _)];rfl
   ·have hk:vV (sh::hs)=sh.kinds++vV hs:=by simp[vV]
    rw[hk,List.map_append];exact yD.append h5 h2
   ·rcases List.mem_append.1 hu with hu|hu
    ·exact h6 u hu
    ·exact h3 u hu
  ·cases h
 | [],_::_,l,h,_=>by cases h
 | _::_,[],l,h,_=>by cases h
theorem apB {k:VK} {x:SV} {a:X} (h:GL k x=some a):x.refs = []:=by unfold GL at h;split at h<;>first|rfl|cases h
theorem aa4 {b:Nat} {o:SO} (h:hget H b=some o):SH.den s H b≠none:=by unfold SH.den;rw[h];simp
theorem agT {k:VK} {x:SV} {a:X} (h:Po H k x=some a):∀ b∈x.refs,SH.den s H b≠none:=by
 have plain:∀ k,GL k x=some a->∀ b∈x.refs,SH.den s H b≠none:=λk h b hb=>by rw[apB h] at hb;cases hb
 cases k with
 | int k=>exact plain _ h
 | bool=>exact plain _ h
 | bit=>exact plain _ h
 | nat =>
  simp only[Po] at h;split at h
  ·rename_i j;split at h
   ·rename_i o ho;intro b hb;simp[SV.refs] at hb;subst hb;exact aa4 ho
   ·cases h
  ·intro b hb;simp[SV.refs] at hb
  ·cases h
theorem agU:∀ {ks:List VK} {xs:List SV} {l:List X},Im H ks xs=some l->∀ b∈SV.aav xs,SH.den s H b≠none
 | [],[],l,h,b,hb=>by simp[SV.aav] at hb
 | k::ks,x::xs,l,h,b,hb=>by
  simp only[Im] at h;split at h
  ·rename_i a l' ha hl;rw[SV.aav] at hb;rcases List.mem_append.1 hb with hb|hb
   ·exact agT ha b hb
   ·exact agU hl b hb
  ·cases h
 | [],_::_,l,h,_,_=>by cases h
 | _::_,[],l,h,_,_=>by cases h
theorem apC {sh:Sh} {x:SV} {l:List X} (h:Pp H sh x=some l):∀ b∈x.refs,SH.den s H b≠none:=by
 unfold Pp at h;split at h
 ·split at h
  ·rename_i a ha;exact agT ha
  ·cases h
 ·exact λb hb=>agU h b (by simpa [SV.refs] using hb)
 ·intro b hb;simp[SV.refs] at hb
 ·cases h
theorem agV:∀ {hs:List Sh} {xs:List SV} {l:List X},FZ H hs xs=some l->∀ b∈SV.aav xs,SH.den s H b≠none
 | [],[],l,h,b,hb=>by simp[SV.aav] at hb
 | sh::hs,x::xs,l,h,b,hb=>by
  simp only[FZ] at h;split at h
  ·rename_i a l' ha hl;rw[SV.aav] at hb;rcases List.mem_append.1 hb with hb|hb
   ·exact apC ha b hb
   ·exact agV hl b hb
  ·cases h
 | [],_::_,l,h,_,_=>by cases h
 | _::_,[],l,h,_,_=>by cases h
theorem KU (k:VK):(k = .nat/\nN k=1)\/(nN k=0/\(∀ x h,Pq k x h=FX k x)/\∀ (w:World) n v,MU w k n v↔v=yw k n):=by cases k<;>first|exact .inl ⟨rfl,rfl⟩|exact .inr ⟨rfl,λ_ _=>rfl,λ_ _ _=>Iff.rfl⟩
theorem Wv {x:X} {ks:List VK} {xs:List X} {h:Nat} : yZ (.nat::ks) (x::xs) h=(h,⟨[.int .u64 x],none⟩)::yZ ks xs (h+1):=by simp only[yZ,yK]
theorem Ww {k:VK} (hk:nN k=0) {x:X} {ks:List VK} {xs:List X} {h:Nat} : yZ (k::ks) (x::xs) h=yZ ks xs h:=by cases k<;>first|rfl|cases hk
theorem aa5:∀ {ks:List VK} {xs:List X} {h:Nat} {y:Nat×SO},y∈yZ ks xs h->h<=y.1/\y.1<h+zx ks
 | [],xs,h,y,hy=>by simp[yZ] at hy
 | k::ks,[],h,y,hy=>by simp[yZ] at hy
 | k::ks,x::xs,h,y,hy=>by
  rcases KU k with⟨rfl,h1⟩|⟨h1,_⟩
  ·rw[Wv] at hy;rw[zx,h1];rcases List.mem_cons.1 hy with rfl|hy
   ·exact⟨Nat.le_refl _,by omega⟩
   ·have:=aa5 hy;omega
  ·rw[Ww h1] at hy;have:=aa5 hy;rw[zx];omega
theorem Env.on.trans' {H1 H2:wm} {e e1 e2:Env} (h1:Env.on H1 e e1) (h2:Env.on H2 e1 e2) (hs:∀ k,H1 k≠none->H2 k≠none):Env.on H1 e e2:=λk hk =>
 ⟨(h2 k (hs k hk)).1.trans (h1 k hk).1,(h2 k (hs k hk)).2.trans (h1 k hk).2⟩
theorem aa6:∀ {ks:List VK} {xs:List X} {ns:List Int} {fus:List Value} {h:Nat} {e:Env} {H':wm},xh G w0 B0 e H' w->xs.map (X.den s)=zn ks ns->yD w ks ns fus->(∀ u∈fus,JA w0 B0 e H' u) ->
  (∀ j,h<=j->j<h+zx ks->H' j=none)->∃ e',xh G w0 B0 e' (H'.puts (xz s (yZ ks xs h))) w/\Env.on H' e e'/\AV.vals e' (SV.aaE s (yY ks xs h))=fus/\∀ c∈SV.aav (yY ks xs h),(H'.puts (xz s (yZ ks xs h))) c≠none
 | [],xs,ns,fus,h,e,H',R,hx,hf,hg,hn=>by
  obtain⟨l1,l2⟩:=yD.len hf;have:fus = []:=List.eq_nil_of_length_eq_zero l2;subst this;have hu:yY [] xs h = []:=by cases xs<;>rfl
  have he:yZ [] xs h = []:=by cases xs<;>rfl
  rw[hu,he];exact⟨e,R,Env.on.refl _ _,rfl,λc hc=>by cases hc⟩
 | k::ks,[],ns,fus,h,e,H',R,hx,hf,hg,hn=>by
  obtain⟨l1,l2⟩:=yD.len hf
  cases ns with
  | nil=>simp at l1
  | cons n ns=>simp[zn] at hx
 | k::ks,x::xs,[],fus,h,e,H',R,hx,hf,hg,hn=>by simp[zn] at hx
 | k::ks,x::xs,n::ns,[],h,e,H',R,hx,hf,hg,hn=>hf.elim
 | k::ks,x::xs,n::ns,u::fus,h,e,H',R,hx,hf,hg,hn=>by
  simp only[List.map_cons,zn,List.cons.injEq] at hx;rcases KU k with⟨rfl,h1⟩|⟨h1,h2,h3⟩
  ·rw[zx,h1] at hn;have hk:H' h=none:=hn h (Nat.le_refl _) (by omega);have gu:=hg u List.mem_cons_self;have hr:Reads w u (wO n.toNat) (Di n.toNat):=hf.1;have hxn:((x.den s).toNat:Nat)=n.toNat:=by rw[hx.1];rfl
   have R1:=R.handle hk hr (λj c t hj he=>gu.ap _ he j c t hj rfl) gu.new;have hon1:=Env.aCB hk e u
   have hsz:∀ {v:Value},JA w0 B0 e H' v->JA w0 B0 (e.aeZ h u) (H'.put h (.rd (wO n.toNat) (Di n.toNat))) v:=λ{v} g=>⟨λb hb j c t hj=>by
    rcases wm.put_eq hj with⟨_,he⟩|⟨_,hj⟩
    ·cases he
    ·exact g.ap b hb j c t hj,g.new⟩
   obtain⟨e',R',o',v',c'⟩:=aa6 (h:=h+1) R1 hx.2 hf.2 (λv hv=>hsz (hg v (List.mem_cons_of_mem _ hv))) (λj h4 h5=>by rw[wm.anO _ _ _ (by omega)];exact hn j (by omega) (by omega));have hd:∀ j,H' j≠none->(H'.put h (.rd (wO n.toNat) (Di n.toNat))) j≠none:=λj hj=>wm.an2 _ _ _ hj
   have hef:xz s (yZ (.nat::ks) (x::xs) h)=(h,.rd (wO n.toNat) (Di n.toNat))::xz s (yZ ks xs (h+1)):=by rw[Wv];simp only[xz,List.map_cons,SO.den,Dj,aaf,DT,FR,hxn]
   rw[hef];refine⟨e',R',hon1.trans' o' hd,?_,?_⟩
   ·rw[yY,SV.aaE,AV.vals,h1,v'];congr 1;show EP (e'.hnd h)=u;rw[(o' h (by rw[wm.aed];simp)).2];show EP (if h=h then u else e.hnd h)=u;rw[if_pos rfl];exact aa1 hr
   ·intro c hc;rw[yY,SV.aav,h1] at hc;rcases List.mem_append.1 hc with hc|hc
    ·simp[Pq,SV.refs] at hc;subst hc;rw[wm.puts];exact wm.aC8 (by rw[wm.aed];simp)
    ·exact c' c hc
  ·rw[zx,h1,Nat.zero_add] at hn;obtain⟨e',R',o',v',c'⟩:=aa6 (h:=h) R hx.2 hf.2 (λv hv=>hg v (List.mem_cons_of_mem _ hv)) hn;rw[Ww h1];refine⟨e',R',o',?_,?_⟩
   ·rw[yY,SV.aaE,AV.vals,h1,Nat.add_zero,v',h2,TY hx.1];congr 1;exact((h3 w n u).1 hf.1).symm
   ·intro c hc;rw[yY,SV.aav,h1,Nat.add_zero,h2] at hc;rcases List.mem_append.1 hc with hc|hc
    ·cases k<;>simp[FX,SV.refs] at hc
    ·exact c' c hc
theorem aa7:∀ (ks js:List VK) (xs:List X) (h:Nat),ks.length<=xs.length->yY (ks++js) xs h=yY ks xs h++yY js (xs.drop ks.length) (h+zx ks)
 | [],js,xs,h,_=>by cases xs<;>rfl
 | k::ks,js,[],h,hl=>by simp at hl
 | k::ks,js,x::xs,h,hl=>by rw[List.cons_append,yY,yY,aa7 ks js xs _ (by simpa using hl),zx,Nat.add_assoc];rfl
theorem agW:∀ (ks:List VK) (xs:List X) (h:Nat),xs.length=ks.length->(yY ks xs h).length=ks.length
 | [],xs,h,_=>by cases xs<;>rfl
 | k::ks,[],h,hl=>by simp at hl
 | k::ks,x::xs,h,hl=>by rw[yY,List.length_cons,agW ks xs _ (by simpa using hl),List.length_cons]
theorem agX:∀ (ks:List VK) (xs:List X) (h:Nat),yY ks (xs.take ks.length) h=yY ks xs h
 | [],xs,h=>by cases xs<;>rfl
 | k::ks,[],h=>rfl
 | k::ks,x::xs,h=>by rw[List.length_cons,List.take_succ_cons,yY,agX ks xs,yY]
theorem aa8 (e:Env):∀ (hs:List Sh) (xs:List X) (h:Nat),xs.length=(vV hs).length->AV.vals e (SV.aaE s (DV hs xs h))=GQ hs (AV.vals e (SV.aaE s (yY (vV hs) xs h)))
 | [],xs,h,_=>rfl
 | sh::hs,xs,h,hl=>by
  have hk:vV (sh::hs)=sh.kinds++vV hs:=by simp[vV]
  rw[hk,List.length_append] at hl;have hle:sh.kinds.length<=xs.length:=by omega
  have h1:(yY sh.kinds xs h).length=sh.kinds.length:=by rw[<- agX];exact agW _ _ _ (by rw[List.length_take];omega)
  have h2:(AV.vals e (SV.aaE s (yY sh.kinds xs h))).length=sh.kinds.length:=by rw[EQ,Ep,h1]
  rw[DV,SV.aaE,AV.vals,aa8 e hs _ _ (by rw[List.length_drop];omega),hk,aa7 _ _ _ _ hle,KM,VN,GQ];congr 1
  ·cases sh with
   | sc k =>
    match xs,hle with
    | x::xs,_=>rfl
   | agg l =>
    simp only[aaM,SV.den,Td,Ua];rw[List.take_append_of_le_length (by rw[h2];exact Nat.le_refl _),List.take_of_length_le (by rw[h2];exact Nat.le_refl _)];rfl
  ·have d:∀ (a b:List Value) (n:Nat),a.length=n->(a++b).drop n=b:=λa b n hn=>by subst hn;simp
   rw[d _ _ _ h2]
theorem aa9 {c:Nat} : ∀ {hs:List Sh} {xs:List X} {h:Nat},xs.length=(vV hs).length->c∈SV.aav (DV hs xs h)->c∈SV.aav (yY (vV hs) xs h)
 | [],xs,h,_,hc=>by simp[DV,SV.aav] at hc
 | sh::hs,xs,h,hl,hc=>by
  have hk:vV (sh::hs)=sh.kinds++vV hs:=by simp[vV]
  rw[hk,List.length_append] at hl;have hle:sh.kinds.length<=xs.length:=by omega
  have happ:∀ (a b:List SV),SV.aav (a++b)=SV.aav a++SV.aav b:=λa b=>by
   induction a with
   | nil=>rfl
   | cons x a ih=>rw[List.cons_append,SV.aav,ih,SV.aav,List.append_assoc]
  rw[hk,aa7 _ _ _ _ hle,happ];rw[DV,SV.aav] at hc;rcases List.mem_append.1 hc with hc|hc
  ·refine List.mem_append_left _ ?_
   cases sh with
   | sc k =>
    match xs,hle with
    | x::xs,_ =>
     have e:yY (Sh.sc k).kinds (x::xs) h = [Pq k x h]:=by cases xs<;>rfl
     rw[e];simpa [SV.aav,aaM] using hc
   | agg l=>exact hc
  ·exact List.mem_append_right _ (aa9 (by rw[List.length_drop];omega) hc)
theorem agY (e:Env) (l:List SV):((aeY l).den s).val e=xU (AV.vals e (SV.aaE s l)):=by
 match l with
 | []=>simp only[aeY,SV.den,SV.aaE,YV];rfl
 | [x]=>rfl
 | x::y::l=>simp only[aeY,SV.den,YV,SV.aaE,AV.vals,xU]
theorem apD {l:List SV} {c:Nat} (h:c∈(aeY l).refs):c∈SV.aav l:=by
 match l,h with
 | [],h=>exact h
 | [x],h=>simpa [aeY,SV.aav] using h
 | x::y::l,h=>exact h
end
def Wx (P:Program) (G:wQ) (g:FuncId) (c:AP) (l r:List Int):Prop:=∀ w b,Gl G w->(∀ x∈G,x.1≠b)->w.heap[b]? = some (.cells (xu c.ks (l.drop (vV c.a).length)).toArray c.t (0,0)) ->
 Ce P g (xk c.a l ++ [Value.slice (some ⟨b,0,none⟩) c.n c.n]).toArray w λe w'=>e = .returned (xU (xk c.r r))/\vY w w'
theorem agZ {s:wF} : ∀ {l:List SV} {r:agB},TU l=some r->l=r.i ++ [.sl r.b r.o r.n r.m]
 | [],r,h=>by cases h
 | [x],r,h=>by
  simp only[TU] at h;split at h
  ·cases h;rfl
  ·cases h
 | x::y::l,r,h=>by
  simp only[TU] at h;split at h
  ·rename_i r' hr;cases h;have:=agZ (s:=s) hr;rw[this];rfl
  ·cases h
theorem ag0:∀ {L:List AP} {n m:Nat} {t:TypeId} {c:AP},Ws L n m t=some c->c∈L/\c.n=n/\c.n=m/\c.t=t
 | [],n,m,t,c,h=>by cases h
 | x::L,n,m,t,c,h=>by
  simp only[Ws] at h;split at h
  ·rename_i h1 h2 h3;cases h;exact⟨List.mem_cons_self,xO.1 h1,xO.1 h2,xO.1 h3⟩
  ·obtain⟨h1,h2⟩:=ag0 h;exact⟨List.mem_cons_of_mem _ h1,h2⟩
theorem aba:∀ (hs:List Sh) (p q:List Int),p.length=(vV hs).length->xk hs (p++q)=xk hs p
 | [],p,q,_=>rfl
 | h::hs,p,q,hl=>by
  have hk:vV (h::hs)=h.kinds++vV hs:=by simp[vV]
  rw[hk,List.length_append] at hl;have h1:(p++q).take h.kinds.length=p.take h.kinds.length:=by rw[List.take_append_of_le_length (by omega)]
  have e1:yL h (p++q)=yL h p:=by have a1:=aaP h (p.take h.kinds.length) (p.drop h.kinds.length++q) (by rw[List.length_take];omega);have a2:=aaP h (p.take h.kinds.length) (p.drop h.kinds.length) (by rw[List.length_take];omega);rw[<- List.append_assoc,List.take_append_drop] at a1;rw[List.take_append_drop] at a2;rw[a1,a2]
  rw[xk,xk,e1,List.drop_append_of_le_length (by omega),aba hs _ q (by rw[List.length_drop];omega)]
theorem apE {C:xP} {s:wF} {g:FuncId} {L:List AP}
  (hct:∀ c∈L,∀ l:List Int,l.length=(vV c.a++c.ks).length->(C.Φ c.id l).length=(vV c.r).length->Wx C.P C.G g c l (C.Φ c.id l))
  {args:List SV} {H:SH} {k nv:Nat} {fc:Facts} {K:Unit->vU CR} {r:CR} (h:(aaO C L args H nv fc K).path C.Φ s=some r) (hfc:xS s fc) (hK:(K ()).path C.Φ s=some r->Es C s g args H k r):Es C s g args H k r:=by
 unfold aaO at h;split at h
 ·exact hK h
 rename_i q hq;split at h
 ·exact hK h
 rename_i o ho;split at h
 ·exact hK h
 rename_i t ht;split at h
 ·exact hK h
 rename_i c hc;split at h
 ·rename_i xs ys h0 hxs hys;obtain⟨m1,m2,m3,m4⟩:=ag0 hc;have h0:=xO.1 h0;obtain⟨a1,a2⟩:=KQ s hxs;obtain⟨b1,b2⟩:=TW s hys;have hargs:=agZ (s:=s) hq;have hlen:((xs++ys).map (X.den s)).length=(vV c.a++c.ks).length:=by simp[a2,b2]
  have hS:=hct c m1 _ hlen
  have fin:(C.Φ c.id ((xs++ys).map (X.den s))).length=(vV c.r).length->∀ l:List SV,SV.aaE s l=(xk c.r (C.Φ c.id ((xs++ys).map (X.den s)))).map .v->Es C s g args H k ⟨aeY l,[q.b],[],r.nv,fc⟩:=λhln l hd=>by
   refine⟨λb hb=>?_,λx hx=>by simp[xz] at hx,hfc,λw0 B0=>?_⟩
   ·simp at hb;subst hb;unfold SH.den;rw[ho];simp
   ·intro H' e w hag hk0 hk1 hrefs R;have hb:H' q.b=some (.own (SV.aaE s o.c) t):=by rw[hag q.b (by simp)];exact SH.aCp ho ht
    have hown:=R.own q.b _ t hb;rw[b1,Cs] at hown
    have hd1:(xu c.ks (((xs++ys).map (X.den s)).drop (vV c.a).length))=xu c.ks (ys.map (X.den s)):=by rw[List.map_append,List.drop_append_of_le_length (by simp[a2]),List.drop_of_length_le (by simp[a2])];rfl
    have hcall:=hS hln w (e.blk q.b) R.gl (λx hx=>R.glo q.b _ t hb x hx) (by rw[hd1,m4];exact hown)
    have hv:AV.vals e (SV.aaE s args)=xk c.a ((xs++ys).map (X.den s)) ++ [Value.slice (some ⟨e.blk q.b,0,none⟩) c.n c.n]:=by rw[hargs,KM,VN,a1,Cs,List.map_append,aba _ _ _ (by simp[a2])];simp only[SV.aaE,SV.den,AV.vals,AV.val,h0];rw[<- m2,<- m3]
    rw[hv];refine hcall.mono ?_;rintro en w' ⟨rfl,hB⟩;refine⟨e,?_,R.below hB,Env.on.refl H' e,λj hj=>?_⟩
    ·rw[aaU hd];rfl
    ·rw[aaU hd] at hj;simp[AV.refs] at hj
  split at h
  ·rename_i ns hns;split at h
   ·rename_i hq;have hq:=xO.1 hq;rw[aaQ] at h;cases h;have e:=aaT s hns;refine fin (by rw[e];exact hq) _ ?_;rw[e];exact Jw (aaR s _ _) (aaS _ _ hq)
   ·cases h
  ·simp only[vU.path] at h;split at h
   ·rename_i hce;rw[yK] at h;cases h;unfold MJ at hce;refine fin (by rw[<- hce];exact Jq _ _ _) _ ?_;obtain⟨h1,h2⟩:=GN s (vV c.r) nv;rw[hce] at h1;exact Jw h1 h2
   ·cases h
 ·exact hK h
theorem apF {C:xP} {s:wF} {ct:Ct} {g:FuncId} (h2:zx (vV ct.r)<=2)
  (hct:∀ l:List Int,l.length=(vV ct.a).length->(C.Φ g l).length=(vV ct.r).length->Io C.P C.G g ct l (C.Φ g l))
  {args:List SV} {H:SH} {k nv:Nat} {fc:Facts} {r:CR} (h:(aaN C ct g args H k nv fc).path C.Φ s=some r) (hfc:xS s fc):Es C s g args H k r:=by
 unfold aaN at h;split at h
 ·cases h
 ·rename_i xs hxs;simp only[vU.path] at h;split at h
  ·rename_i hce;rw[yK] at h;cases h;obtain⟨v1,v2⟩:=GN s (vV ct.r) nv;unfold MJ at hce;have hln:(C.Φ g (xs.map (X.den s))).length=(vV ct.r).length:=by rw[<- hce];exact Jq _ _ _
   rw[hce] at v1;refine⟨agV hxs,λx hx=>?_,hfc,λw0 B0=>?_⟩
   ·rw[xz] at hx;obtain⟨y,hy,rfl⟩:=List.mem_map.1 hx;have:=aa5 hy;show y.1=k\/y.1=k+1\/_;omega
   ·intro H' e w hag hk0 hk1 hrefs R;obtain⟨fvs,a1,a2,a3⟩:=aa3 (s:=s) R hxs hag;have hl:(xs.map (X.den s)).length=(vV ct.a).length:=(yD.len a2).1;have hcc:=hct _ hl hln w fvs R.gl a2;rw[a1];refine hcc.mono ?_;rintro en w' ⟨fus,rfl,b2,b3,hB⟩;have R':=R.below hB;have hlen:=(yD.len b2).1
    obtain⟨e',c1,c2,c3,c4⟩:=aa6 (s:=s) (h:=k) R' v1 b2 (λu hu=>⟨λb hb j c t hj he=>by
     rcases b3 u hu b hb with hlt|⟨v,hv,hvb⟩
     ·have:=R.lt hj;omega
     ·exact(a3 v hv).ap b hvb j c t hj he,λb hb=>by
     rcases b3 u hu b hb with hlt|⟨v,hv,hvb⟩
     ·exact .inl (Nat.le_trans R.size hlt)
     ·exact(a3 v hv).new b hvb⟩) (λj h3 h4=>by
     have:j=k\/j=k+1:=by omega
     rcases this with rfl|rfl
     ·exact hk0
     ·exact hk1)
    refine⟨e',?_,c1,c2,λc hc=>c4 c (aa9 (by rw[v2]) (apD (SV.aCY s _ hc)))⟩;rw[agY,aa8 _ _ _ _ (by rw[v2]),c3]
  ·cases h
structure yS (C:xP) (E:xV):Prop where
 se:Wi C.P C.SE E
 eq:Jf C.P E
 mix:C.P.follows .mixedOrders=true
 nm:∀ (g:FuncId) (fn:Func),C.P.funcs[g]? = some fn->fn.body.isSome=true->(fn.name == "runtime.NumGoroutine")=false
 ct:∀ (g:FuncId) (ct:Ct),C.ct g=some ct->∀ l:List Int,l.length=(vV ct.a).length->(C.Φ g l).length=(vV ct.r).length->PC C.P C.G g (xk ct.a l) (xU (xk ct.r (C.Φ g l)))
 nt:∀ (g:FuncId) (ct:Ct),C.nt g=some ct->zx (vV ct.r)<=2/\∀ l:List Int,l.length=(vV ct.a).length->(C.Φ g l).length=(vV ct.r).length->Io C.P C.G g ct l (C.Φ g l)
 sl:∀ (g:FuncId) (c:AP),c∈C.sl g->∀ l:List Int,l.length=(vV c.a++c.ks).length->(C.Φ c.id l).length=(vV c.r).length->Wx C.P C.G g c l (C.Φ c.id l)
structure GR (C:xP) (E:xV) (s:wF) (c:Code) (st:St) (ex:Exit) (st':St):Prop where
 aw:∀ w0 B0,AW ⟨C.P,C.G,E,w0,B0,st.T.length⟩ c (Bq s ex st') st.N (wT.den s st.T) (SH.den s st.H)
 len:st'.T.length=st.T.length
 dt:∀ j,yC j st'.dt=false->yC j st.dt=false/\hget st'.H j=hget st.H j
 fc:xS s st'.fc
abbrev Ub (C:xP) (E:xV) (s:wF) (exf:Code->St->vU (Exit×St)):Prop:=∀ c st ex st',(exf c st).path C.Φ s=some (ex,st')->xS s st.fc->GR C E s c st ex st'
section
variable {C:xP} {E:xV} {s:wF}
theorem Pw {α:Type} {x:Exit} {A B:vU α} {w:String} {r:α} (h:(match x with | .normal=>A | .ret=>B|_=>.stuck w:vU α).path C.Φ s=some r):(x = .normal/\A.path C.Φ s=some r)\/(x = .ret/\B.path C.Φ s=some r):=by cases x<;>first|exact .inl ⟨rfl,h⟩|exact .inr ⟨rfl,h⟩|cases h
theorem apG:(λn:Nat=>n)=zJ []:=by funext n;rfl
mutual
theorem SV.aDG:∀ x:SV,x.ren (zJ [])=x
 | .v _=>rfl
 | .int _ _=>rfl
 | .bool _=>rfl
 | .loc _ _=>rfl
 | .hd _=>rfl
 | .ha _ _=>rfl
 | .sl _ _ _ _=>rfl
 | .fn g a c=>by simp only[SV.ren,SV.aCJ a,SV.aCJ c]
 | .tup l=>by simp only[SV.ren,SV.aCJ l]
 | .agg l=>by simp only[SV.ren,SV.aCJ l]
theorem SV.aCJ:∀ l:List SV,SV.akX (zJ []) l=l
 | []=>rfl
 | x::l=>by simp only[SV.akX,SV.aDG x,SV.aCJ l]
end
theorem abb (hC:yS C E) {exf:Code->St->vU (Exit×St)} (hex:Ub C E s exf) {g:FuncId} {args:List SV} {H:SH} {k nv:Nat} {fc:Facts} {r:CR} (h:(TS C.P exf g args H k nv fc).path C.Φ s=some r) (hfc:xS s fc):Es C s g args H k r:=by
 unfold TS at h;split at h
 ·cases h
 ·rename_i fn hf;split at h
  ·cases h
  ·rename_i cd hb;split at h
   ·cases h
   ·rename_i objs hro;split at h
    ·rename_i hl hk hw0;obtain⟨r0,h0,e1,e2,e3,e4⟩:=apr hfc h;obtain⟨⟨ex,st⟩,h1,h2⟩:=vU.abA h0;have sp:=hex _ _ _ _ h1 hfc;have hlen:(zK args fn.ntmps).length=fn.ntmps:=KS _ _ (Nat.le_of_ble_eq_true hl)
     have hA:∀ w0 B0,AW ⟨C.P,C.G,E,w0,B0,fn.ntmps⟩ cd (Bq s ex st) k (wT.den s (zK args fn.ntmps)) (SH.den s objs):=λw0 B0=>by have:=sp.aw w0 B0;simp only[hlen] at this;exact this
     have hD:DOK objs st.dt st.H:=λj hj=>(sp.dt j hj).2
     have hn:=hC.nm g fn hf (by rw[hb];rfl)
     have key:ex = .normal\/ex = .ret->(Wq C.P fn objs k st).path C.Φ s=some r0->Es C s g args H k r0:=by
      intro hx h3;unfold Wq at h3;split at h3
      ·cases h3
      ·rename_i rs hrs;split at h3
       ·cases h3
       ·rename_i R2 hR2;split at h3
        ·cases h3
        ·cases h3
        ·rename_i nw hnw hw2;split at h3
         ·cases h3;have:=agQ hf hb hn hro hl hk hA hx hD sp.fc hrs hR2 hw0 hw2 hnw (m:=[]) rfl st.nv;rw[SV.aDG] at this;simpa [GM,apG] using this
         ·split at h3
          ·cases h3
          ·rename_i m hm;cases h3;exact agQ hf hb hn hro hl hk hA hx hD sp.fc hrs hR2 hw0 hw2 hnw hm st.nv
     have main:Es C s g args H k r0:=by
      rcases Pw h2 with⟨hx,h3⟩|⟨hx,h3⟩
      ·exact key (.inl hx) h3
      ·exact key (.inr hx) h3
     refine⟨by rw[<- e2];exact main.tc,by rw[<- e2,<- e3];exact main.ef,e4 main.fc,?_⟩;rw[<- e1,<- e2,<- e3];exact main.ok
    ·cases h
theorem abd (hC:yS C E) {exf:Code->St->vU (Exit×St)} (hex:Ub C E s exf) {g:FuncId} {args:List SV} {H:SH} {k nv:Nat} {fc:Facts} {r:CR} (h:(TV C exf g args H k nv fc).path C.Φ s=some r) (hfc:xS s fc):Es C s g args H k r:=by
 unfold TV at h;split at h
 ·rename_i ct hnt;exact apF (hC.nt g ct hnt).1 (hC.nt g ct hnt).2 h hfc
 split at h
 ·split at h
  ·exact abb hC hex h hfc
  ·exact apE (λc hc=>hC.sl g c hc) h hfc (λh=>abb hC hex h hfc)
 ·rename_i ct hct;split at h
  ·exact abb hC hex h hfc
  ·rename_i xs hxs;obtain⟨hv,hl⟩:=KQ s hxs;have hcc:=hC.ct g ct hct (xs.map (X.den s)) (by simpa using hl)
   have fin:(C.Φ g (xs.map (X.den s))).length=(vV ct.r).length->∀ l:List SV,SV.aaE s l=(xk ct.r (C.Φ g (xs.map (X.den s)))).map .v->Es C s g args H k ⟨aeY l,[],[],r.nv,fc⟩:=λhln l hd=>by refine⟨λb hb=>by simp at hb,λx hx=>by simp[xz] at hx,hfc,λw0 B0=>?_⟩;simp only[aaU hd];exact(hcc hln).call w0 B0 (by rw[hv];exact KI _) _ _
   split at h
   ·rename_i ns hns;split at h
    ·rename_i hq;have hq:=xO.1 hq;rw[aaQ] at h;cases h;have e:=aaT s hns;refine fin (by rw[e];exact hq) _ ?_;rw[e];exact Jw (aaR s _ _) (aaS _ _ hq)
    ·cases h
   ·simp only[vU.path] at h;split at h
    ·rename_i hce;rw[yK] at h;cases h;unfold MJ at hce;refine fin (by rw[<- hce];exact Jq _ _ _) _ ?_;obtain⟨h1,h2⟩:=GN s (vV ct.r) nv;rw[hce] at h1;exact Jw h1 h2
    ·cases h
theorem apH {β:Type} {ops:Array Oper} {T:wT} {o:Oper} {fc:Facts} {K:Bool->Facts->vU β} {r:β} (hf:xS s fc) (h:(aaF ops T o fc K).path C.Φ s=some r) :
  ∃ q fc',xS s fc'/\Ig ops (wT.den s T) o=some q/\(K q fc').path C.Φ s=some r:=by
 unfold aaF at h;unfold Ig;split at h
 ·rename_i hg;exact⟨true,fc,hf,by rw[hg],h⟩
 ·rename_i j want hg;rw[hg];simp only;split at h
  ·rename_i hd;exact⟨false,fc,hf,by rw[hd],h⟩
  ·rename_i d hd;rw[hd];simp only;split at h
   ·rename_i x hx;have hT:wT.den s T d=some (.v (.bool (x.den s != 0))):=by simp[wT.den,hx,SV.den]
    obtain⟨fc',hf',h'⟩:=Jr hf h;refine⟨_,fc',hf',?_,h'⟩;rw[hT];simp only[En];cases (x.den s != 0)<;>cases want<;>rfl
   ·rename_i vs hx;have hT:wT.den s T d=some (.v (.tuple vs)):=by simp[wT.den,hx,SV.den]
    exact⟨false,fc,hf,by rw[hT],h⟩
   ·cases h
theorem apI {fv:SV} {g:FuncId} {a c:List SV} (h:aaG fv=some (g,a,c)):OJ (fv.den s)=some (g,SV.aaE s a,SV.aaE s c):=by
 have hC':∀ l:List Value,SV.aaE s (l.map Js)=l.map .v:=λl=>by rw[SV.aeX,List.map_map];exact List.map_congr_left λx _=>V5 s x
 unfold aaG at h;split at h
 ·cases h;simp only[SV.den,OJ,hC']
 ·cases h;simp only[SV.den];unfold Cr
  have hm:∀ {l:List AV} {vs:List Value},yF l=some vs->l=vs.map .v:=λ{l} {vs} hv=>by have h4:=TF l;unfold Bi at h4;rw[hv] at h4;simpa [yu,Value.cells] using h4.symm
  cases ha:yF (SV.aaE s a) with
  | none=>rfl
  | some x=>cases hc:yF (SV.aaE s c) with
   | none=>rfl
   | some y=>simp only[OJ,hm ha,hm hc]
 ·cases h
theorem apJ {op:Op} {ρ:Operand->Option SV} {ρ':Operand->Option AV} (hρ:RD s ρ ρ') {g:FuncId} {args:List SV} (h:aaH op ρ=some (some (g,args))) {P:Program} {G:wQ} {H:wm} {k:Nat} :
  OL op ρ'=some (g,SV.aaE s args)/\GA op ρ'=none/\xc P G E op ρ' H k=none:=by
 unfold aaH at h;split at h
 ·rename_i f xs ts;split at h
  ·rename_i fv hfv;split at h
   ·rename_i g' a c bs hcl hl;simp only[Option.some.injEq,Prod.mk.injEq] at h;obtain⟨rfl,rfl⟩:=h;refine⟨?_,rfl,rfl⟩;simp only[OL,hρ _ _ hfv,apI hcl,Wh hρ hl,KM]
   ·cases h
  ·cases h
 ·cases h
theorem apK {op:Op} {ρ:Operand->Option SV} {ρ':Operand->Option AV} (hρ:RD s ρ ρ') {q:X} {x y:Option SV} (h:aaI op ρ=some (q,x,y)):∃ x' y',GA op ρ'=some (q.den s != 0,x',y')/\(∀ a,x=some a->x'=some (a.den s))/\(∀ a,y=some a->y'=some (a.den s)):=by
 unfold aaI at h;split at h
 ·rename_i c a b;split at h
  ·rename_i q' hq;cases h;refine⟨ρ' a,ρ' b,?_,λz hz=>hρ _ _ hz,λz hz=>hρ _ _ hz⟩;simp only[GA,hρ _ _ hq,SV.den]
  ·cases h
 ·cases h
theorem apL {P:Program} {G:wQ} {op:Op} {ρ:Operand->Option AV} {c:Bool} {x y:Option AV} {H:wm} {k:Nat} {r:AV} {tc:List Nat} {ef:List (Nat×AO)} (h:GA op ρ=some (c,x,y)) (hn:xc P G E op ρ H k=some (r,tc,ef)) :
  tc = []/\ef = []/\(c=true->x=some r)/\(c=false->y=some r):=by
 unfold GA at h;split at h
 ·rename_i q a b;split at h
  ·rename_i q' hq;cases h;simp only[xc,hq] at hn
   cases c with
   | true =>
    simp only[if_true] at hn;obtain⟨h1,rfl,rfl⟩:=De hn;exact⟨rfl,rfl,λ_=>h1,λh=>by cases h⟩
   | false =>
    simp only[Bool.false_eq_true,if_false] at hn;obtain⟨h1,rfl,rfl⟩:=De hn;exact⟨rfl,rfl,(λh=>by cases h),λ_=>h1⟩
  ·cases h
 ·cases h
def JB (tr:Tr):Tr:=tr.filter λx => !x.2.1.isEmpty
theorem ag1 (tc:List Nat):∀ ef:List (Nat×SO),Wo tc ef=Dz tc (xz s ef)
 | []=>rfl
 | x::ef=>by
  have hc:yC x.1 tc=tc.contains x.1:=by rw[Bool.eq_iff_iff,T9,List.contains_iff_mem]
  simp only[Wo,Dz,xz,List.map_cons,List.any_cons,hc]
  cases tc.contains x.1 with
  | true=>rfl
  | false=>simp only[Bool.false_or];exact ag1 tc ef
theorem apM {i:Nat} {tc:List Nat} {ef:List (Nat×SO)} {tr:Tr} : JB ((i,tc,Dz tc (xz s ef))::tr)=Jv i tc ef (JB tr):=by
 unfold Jv JB
 cases tc with
 | nil=>rfl
 | cons b tc=>rw[List.filter_cons_of_pos (by rfl),<- ag1 (s:=s)]
theorem Uc {M:List Nat} {Nb:Nat} : ∀ {tr:Tr},KD M Nb (JB tr)=true->KD M Nb tr=true
 | [],_=>rfl
 | x::l,h=>by
  unfold JB at h
  have empty:∀ y z:Nat×List Nat×Bool,z.2.1 = []\/y.2.1 = []->KC M y z=true:=λy z hz=>by unfold KC;rcases hz with hz|hz<;>simp[hz]
  cases hx:x.2.1 with
  | nil =>
   rw[List.filter_cons_of_neg (by simp[hx])] at h;simp only[KD,Bool.and_eq_true];refine⟨⟨by rw[hx];rfl,?_⟩,Uc h⟩;rw[List.all_eq_true];intro y _;exact empty x y (.inr hx)
  | cons b tc =>
   rw[List.filter_cons_of_pos (by simp[hx])] at h;simp only[KD,Bool.and_eq_true] at h ⊢;refine⟨⟨h.1.1,?_⟩,Uc h.2⟩;rw[List.all_eq_true];intro y hy
   cases hy2:y.2.1 with
   | nil=>exact empty x y (.inl hy2)
   | cons b' tc'=>exact List.all_eq_true.1 h.1.2 y (List.mem_filter.2 ⟨hy,by simp[hy2]⟩)
theorem ag2 {β:Type} {T:wT} {d:Option Tmp} {x:SV} {K:wT->vU β} {r:β} (hd:∀ t,d=some t->t<T.length) (h:(Ju T d x K).path C.Φ s=some r) :
  ∃ T',T'.length=T.length/\wT.den s T'=(wT.den s T).put d (x.den s)/\(K T').path C.Φ s=some r:=by
 unfold Ju at h
 cases d with
 | none=>exact⟨T,rfl,rfl,h⟩
 | some d =>
  simp only at h;rw[agn] at h;exact⟨_,agq T d x,wT.aDi s T d x (hd d rfl),h⟩
theorem ag3 {j:Nat} : ∀ {ef:List (Nat×SO)} {dt:List Nat},yC j (Ik ef dt)=false->yC j dt=false/\∀ x∈ef,x.1≠j
 | [],dt,h=>⟨h,λx hx=>by simp at hx⟩
 | x::ef,dt,h=>by
  rw[Ik] at h;obtain⟨h1,h2⟩:=ag3 h;unfold addN at h1;split at h1
  ·rename_i hm;refine⟨h1,λy hy=>?_⟩;rcases List.mem_cons.1 hy with rfl|hy
   ·rintro rfl;rw[hm] at h1;cases h1
   ·exact h2 y hy
  ·simp only[yC] at h1;split at h1
   ·cases h1
   ·rename_i hb;refine⟨h1,λy hy=>?_⟩;rcases List.mem_cons.1 hy with rfl|hy
    ·rintro rfl;simp at hb
    ·exact h2 y hy
theorem ag4 {j:Nat} : ∀ {ef:List (Nat×SO)} {H:SH},(∀ x∈ef,x.1≠j)->hget (MK H ef) j=hget H j
 | [],H,_=>rfl
 | x::ef,H,h=>by rw[MK,ag4 (λy hy=>h y (List.mem_cons_of_mem _ hy)),aag,if_neg (λe=>h x List.mem_cons_self e.symm)]
theorem ag5 (q:Bool) (v:Value) (b:Bool):(TN q v b).den s = .v (Gy q v b):=by
 cases q with
 | true =>
  have:SV.aaE s [Js v,.bool (.lit (wh b))] = [v,Value.bool b].map .v:=by simp only[SV.aaE,V5,SV.den,X.den,yX,List.map_cons,List.map_nil]
  simp only[TN,SV.den,this,V3,Gy,if_true]
 | false=>simp only[TN,V5,Gy,Bool.false_eq_true,if_false]
theorem ag6 {β:Type} {kd:IntKind} {n:X} {q:Bool} {z:Value} {K:SV->Facts->vU β} {r:β} : ∀ {es:List (Value×Value)} {fc:Facts},TM kd es=true->xS s fc->(Wj kd n q z K es fc).path C.Φ s=some r ->
  ∃ a fc',xS s fc'/\(K a fc').path C.Φ s=some r/\((∃ v,Ji kd (n.den s) es=some (some v)/\a.den s = .v (Gy q v true))\/(Ji kd (n.den s) es=some none/\a.den s = .v (Gy q z false)))
 | [],fc,hk,hf,h=>⟨_,fc,hf,h,.inr ⟨rfl,ag5 q z false⟩⟩
 | x::l,fc,hk,hf,h=>by
  simp only[TM] at hk;simp only[Wj] at h
  cases hx:x.1 with
  | int k' m =>
   rw[hx] at hk h;simp only at hk h
   cases hkk:AC kd k' with
   | false=>rw[hkk] at hk;cases hk
   | true =>
    rw[hkk] at hk;simp only at hk;have hke:=Cu hkk;obtain⟨fc',hf',h⟩:=Jr hf h;rw[KG] at h;simp only[wJ,yX,X.den] at h;unfold Ji;rw[hx];simp only[hke,if_true]
    cases hb:(n.den s==m) with
    | true =>
     rw[hb] at h;have:n.den s=m:=by simpa using hb
     simp only[this,if_true];exact⟨_,fc',hf',h,.inl ⟨x.2,rfl,ag5 q x.2 true⟩⟩
    | false =>
     rw[hb] at h;have:¬ n.den s=m:=by simpa using hb
     simp only[this,if_false];rw[<- hke];exact ag6 hk hf' h
  | _=>rw[hx] at hk;cases hk
theorem apN {op:Op} {ρ:Operand->Option SV} {ρ':Operand->Option AV} (hρ:RD s ρ ρ') {H:SH} {L:agz} (h:aaJ C.P op ρ H=some L) {G:wQ} {k:Nat} :
  TM L.kd L.es=true/\GA op ρ'=none/\OL op ρ'=none/\(∀ v,Ji L.kd (L.n.den s) L.es=some (some v)->xc C.P G E op ρ' (SH.den s H) k=some (.v (Gy L.q v true),[L.k],[])) /\
   (Ji L.kd (L.n.den s) L.es=some none->xc C.P G E op ρ' (SH.den s H) k=some (.v (Gy L.q L.z false),[L.k],[])):=by
 unfold aaJ at h;split at h
 ·rename_i t x i q;split at h
  ·rename_i j kd n hx hi;split at h
   ·rename_i o ho;split at h
    ·rename_i es ht hm;split at h
     ·rename_i kt et hu;split at h
      ·rename_i kd' z hkt hz;split at h
       ·rename_i hk1 hk2;cases h;have e1:=Cu hk1;have a1:=hρ _ _ hx;have a2:=hρ _ _ hi;simp only[SV.den] at a1 a2;have a3:=SH.aC3 (s:=s) ho ht hm;refine⟨hk2,rfl,rfl,λv hv=>?_,λhv=>?_⟩
        ·simp only at hv;simp only[xc,a1,a2,Ie,a3,hu,hkt,e1,if_true,hv];rfl
        ·simp only at hv;simp only[xc,a1,a2,Ie,a3,hu,hkt,e1,if_true,hv,hz];rfl
       ·cases h
      ·cases h
     ·cases h
    ·cases h
   ·cases h
  ·cases h
 ·cases h
theorem ag7 (k:VK) (x:X):TP k x=FX k x:=by cases k<;>rfl
theorem ag8:∀ (ks:List VK) (xs:List X),Wm ks xs=FY ks xs
 | [],_=>rfl
 | _::_,[]=>rfl
 | k::ks,x::xs=>by rw[Wm,FY,ag7,ag8 ks xs]
theorem ag9:∀ (ks:List VK) (b:Nat),Wn b ks=wM b ks
 | [],_=>rfl
 | k::ks,b=>by rw[Wn,wM,ag9 ks]
theorem abe:∀ (ks:List VK) (ns:List Int),ns.length=ks.length->(xu ks ns).length=ks.length
 | [],_,_=>by simp[xu]
 | k::ks,[],h=>by simp at h
 | k::ks,n::ns,h=>by rw[xu,List.length_cons,List.length_cons,abe ks ns (by simpa using h)]
theorem abf (b:Nat) (ks:List VK):∀ n,(Cw s b ks n).length=n*ks.length
 | 0=>by simp[Cw]
 | n+1=>by rw[Cw,List.length_append,abf b ks n,abe _ _ (Jq _ _ _),Nat.add_mul,Nat.one_mul]
theorem abg (b:Nat) (ks:List VK):∀ {n j:Nat},j<n->((Cw s b ks n).drop (j*ks.length)).take ks.length=xu ks (Au s (b+j*ks.length) ks.length)
 | n+1,j,h=>by
  rw[Cw];have hl:=abf (s:=s) b ks n;by_cases hj:j=n
  ·subst hj;rw[List.drop_append_of_le_length (by rw[hl];exact Nat.le_refl _),List.drop_of_length_le (by rw[hl];exact Nat.le_refl _),List.nil_append,List.take_of_length_le (by rw[abe _ _ (Jq _ _ _)];exact Nat.le_refl _)]
  ·have hjn:j<n:=by omega
   have hm:(j+1)*ks.length<=n*ks.length:=Nat.mul_le_mul_right _ hjn;rw[Nat.add_mul,Nat.one_mul] at hm;rw[List.drop_append_of_le_length (by rw[hl];omega),List.take_append_of_le_length (by rw[List.length_drop,hl];omega)];exact abg b ks hjn
theorem abh {H:SH} {k:Nat} {r:TE} (h:Wl H k=some r):SH.den s H k=some (.rd (r.n.den s).toNat (Cw s r.b r.ks (r.n.den s).toNat)):=by
 unfold Wl at h;split at h
 ·rename_i o ho;split at h
  ·rename_i r' h1 h2 h3;cases h;exact SH.aCX ho h1 h2 h3
  ·cases h
 ·cases h
theorem abj {j:Nat} {n:X} (h:((zm .lss .i64 (.lit (.ofNat j)) n).den s != 0)=true):j<(n.den s).toNat:=by rw[KG] at h;simp only[wJ,yX,X.den] at h;have:=of_decide_eq_true h;have h2:(j:Int)<n.den s:=this;omega
theorem apO {op:Op} {ρ:Operand->Option SV} {ρ':Operand->Option AV} (hρ:RD s ρ ρ') {H:SH} {L:agA} (h:aaK C.P op ρ H=some L) {G:wQ} {k:Nat} (hc:(L.c.den s != 0)=true) :
  GA op ρ'=none/\xc C.P G E op ρ' (SH.den s H) k=some (L.r.den s,[L.k],[]):=by
 unfold aaK at h;split at h
 ·rename_i t x i;split at h
  ·rename_i j kk kd m hx hi;split at h
   ·rename_i r el hr hel;split at h
    ·rename_i sz hsz;split at h
     ·rename_i hb;rw[yK] at h;cases h;have a1:=hρ _ _ hx;have a2:=hρ _ _ hi;have hlt:=abj hc;refine⟨rfl,?_⟩;simp only[SV.den,X.den] at a1 a2;simp only[xc,a1,a2,ER,abh hr,hel,hsz];rw[if_pos ⟨by exact Int.natCast_nonneg _,by show(m:Int)<_;omega⟩];rfl
     ·cases h
    ·cases h
   ·cases h
  ·cases h
 ·rename_i t x;split at h
  ·rename_i kk off hx;split at h
   ·rename_i r hr;rw[yK] at h;have a1:=hρ _ _ hx;simp only[SV.den] at a1;split at h
    ·rename_i hb ha;have hb:=xO.1 hb;split at h
     ·rename_i sz hsz;split at h
      ·rename_i hz h1;have hz:=xO.1 hz;have h1:=Nat.le_of_ble_eq_true h1;rw[yK] at h;cases h;have hlt:=abj hc;refine⟨rfl,?_⟩;have hg:=abg (s:=s) r.b r.ks hlt;have hl:=abf (s:=s) r.b r.ks (r.n.den s).toNat;have hm:(off/r.ks.length+1)*r.ks.length<=(r.n.den s).toNat*r.ks.length:=Nat.mul_le_mul_right _ hlt;rw[Nat.add_mul,Nat.one_mul,hb] at hm;rw[hb] at hg;simp only[xc,a1,CK,abh hr,Aq,ha,hsz];rw[if_pos ⟨by rw[List.length_map,hl,hz];exact hm,by omega⟩];simp only[SV.den,ag8,ag9];obtain⟨v1,v2⟩:=GN s r.ks (r.b+off);rw[Wu v1 v2,<- List.map_drop,<- List.map_take,hz,hg]
      ·cases h
     ·cases h
    ·rename_i hb ha;have hb:=xO.1 hb;split at h
     ·rename_i vk hks;rw[yK] at h;cases h;have hlt:=abj hc;refine⟨rfl,?_⟩;have hg:=abg (s:=s) r.b r.ks hlt;rw[hb,hks] at hg;simp only[xc,a1,CK,abh hr,Aq,ha]
      have hx1:(Cw s r.b r.ks (r.n.den s).toNat)[off]? = some (yw vk (s (r.b+off))):=by
       have e1:((Cw s r.b [vk] (r.n.den s).toNat).drop off).take 1 = [yw vk (s (r.b+off))]:=hg;rw[hks];have e2:(((Cw s r.b [vk] (r.n.den s).toNat).drop off).take 1)[0]? = some (yw vk (s (r.b+off))):=by rw[e1];rfl
       rwa [List.getElem?_take_of_lt (by decide),List.getElem?_drop] at e2
      rw[List.getElem?_map,hx1,ag7];rw[TY (s:=s) (k:=vk) (x:=.var vk (r.b+off)) (n:=s (r.b+off)) rfl];rfl
     ·cases h
    ·cases h
   ·cases h
  ·cases h
 ·cases h
theorem Ud (hC:yS C E) {cf:CF} {nt:Nat} (hcf:∀ g args H k nv fc r,(cf g args H k nv fc).path C.Φ s=some r->xS s fc->Es C s g args H k r) {ops:Array Oper} {Nb:Nat} :
  ∀ (os:List Oper) (i:Nat) (T:wT) (H:SH) (tr:TK) (nv:Nat) (dt:List Nat) (fc:Facts) (out:OR),(EW C cf ops Nb i os T H tr nv dt fc).path C.Φ s=some out->xS s fc->T.length=nt->(∀ o∈os,∀ t,o.dst=some t->t<nt) ->
   (∀ w0 B0 (trf:Tr) (K:wU->wm->Tr->Prop),JB trf=tr->(∀ trf',JB trf'=out.tr->K (wT.den s out.T) (SH.den s out.H) trf')->zP C.P C.G E w0 B0 ops Nb i os (wT.den s T) (SH.den s H) trf K) /\
   out.T.length=nt/\xS s out.fc/\∀ j,yC j out.dt=false->yC j dt=false/\hget out.H j=hget H j
 | [],i,T,H,tr,nv,dt,fc,out,h,hfc,hT,hd=>by simp only[EW] at h;cases h;exact⟨λw0 B0 trf K ht hK=>by rw[zP];exact hK trf ht,hT,hfc,λj hj=>⟨hj,rfl⟩⟩
 | o::os,i,T,H,tr,nv,dt,fc,out,h,hfc,hT,hd=>by
  simp only[EW] at h;obtain⟨q,fc1,hf1,hw,h⟩:=apH hfc h;have hdo:∀ t,o.dst=some t->t<T.length:=by rw[hT];exact hd o List.mem_cons_self
  have hds:∀ o'∈os,∀ t,o'.dst=some t->t<nt:=λo' ho'=>hd o' (List.mem_cons_of_mem _ ho')
  cases q with
  | false =>
   simp only at h;obtain⟨T',hl,hden,h⟩:=ag2 hdo h;obtain⟨h1,h2,h3,h4⟩:=Ud hC hcf os (i+1) T' H tr nv dt fc1 out h hf1 (hl.trans hT) hds;refine⟨λw0 B0 trf K ht hK=>?_,h2,h3,h4⟩;have:=h1 w0 B0 trf K ht hK;rw[hden] at this;simp only[zP,hw,Mx];exact this
  | true =>
   simp only at h
   have step:∀ (r:SV) (tc:List Nat) (ef:List (Nat×SO)) (nv':Nat) (fc':Facts),xS s fc'->(Ju T o.dst r λT=>Ij H ef λH=>EW C cf ops Nb (Nat.succ i) os T H (Jv i tc ef tr) nv' (Ik ef dt) fc').path C.Φ s=some out ->
     (∀ w0 B0 (trf:Tr) (K:wU->wm->Tr->Prop),JB trf=tr->(∀ trf',JB trf'=out.tr->K (wT.den s out.T) (SH.den s out.H) trf')->zP C.P C.G E w0 B0 ops Nb (i+1) os ((wT.den s T).put o.dst (r.den s)) ((SH.den s H).puts (xz s ef)) ((i,tc,Dz tc (xz s ef))::trf) K) /\
     out.T.length=nt/\xS s out.fc/\∀ j,yC j out.dt=false->yC j dt=false/\hget out.H j=hget H j:=by
    intro r tc ef nv' fc' hf' h;obtain⟨T',hl,hden,h⟩:=ag2 hdo h;rw[ags] at h;obtain⟨h1,h2,h3,h4⟩:=Ud hC hcf os (i+1) T' _ _ nv' _ fc' out h hf' (hl.trans hT) hds;refine⟨λw0 B0 trf K ht hK=>?_,h2,h3,λj hj=>?_⟩
    ·have:=h1 w0 B0 ((i,tc,Dz tc (xz s ef))::trf) K (by rw[apM,ht]) hK;rw[hden,agt] at this;exact this
    ·obtain⟨h5,h6⟩:=h4 j hj;obtain⟨h7,h8⟩:=ag3 h5;exact⟨h7,by rw[h6,ag4 h8]⟩
   split at h
   ·cases h
   ·rename_i g args hcs;rw[yK] at h;obtain⟨r,hr,h⟩:=vU.abA h;have sp:=hcf _ _ _ _ _ _ _ hr hf1;obtain⟨h1,h2⟩:=step r.r r.tc r.ef r.nv r.fc sp.fc h;refine⟨λw0 B0 trf K ht hK=>?_,h2⟩;obtain⟨e1,e2,e3⟩:=apJ (E:=E) (KL s T) hcs (P:=C.P) (G:=C.G) (H:=SH.den s H) (k:=Nb+2*i);simp only[zP,hw,Gz,e2,e3,e1];exact⟨_,_,_,sp.ok w0 B0,sp.tc,sp.ef,h1 w0 B0 trf K ht hK⟩
   ·split at h
    ·rename_i q x y hp;obtain⟨fc2,hf2,h⟩:=Jr hf1 h;obtain⟨x',y',e1,e2,e3⟩:=apK (s:=s) (KL s T) hp
     cases hq:(q.den s != 0) with
     | true =>
      rw[hq] at h e1;simp only at h
      cases x with
      | none=>cases h
      | some r =>
       obtain⟨h1,h2⟩:=step r [] [] nv fc2 hf2 (by simpa [Ij,Jv,Ik] using h);refine⟨λw0 B0 trf K ht hK=>?_,h2⟩;simp only[zP,hw,Gz,e1,e2 r rfl];exact h1 w0 B0 trf K ht hK
     | false =>
      rw[hq] at h e1;simp only at h
      cases y with
      | none=>cases h
      | some r =>
       obtain⟨h1,h2⟩:=step r [] [] nv fc2 hf2 (by simpa [Ij,Jv,Ik] using h);refine⟨λw0 B0 trf K ht hK=>?_,h2⟩;simp only[zP,hw,Gz,Mx,e1,e3 r rfl];exact h1 w0 B0 trf K ht hK
    ·split at h
     ·rename_i L hL;obtain⟨k1,k2,k3,k4,k5⟩:=apN (E:=E) (s:=s) (KL s T) hL (G:=C.G) (k:=Nb+2*i);obtain⟨a,fc2,hf2,h,hv⟩:=ag6 k1 hf1 h;obtain⟨h1,h2⟩:=step a [L.k] [] nv fc2 hf2 (by simpa [Ij,Ik] using h);refine⟨λw0 B0 trf K ht hK=>?_,h2⟩;have h3:=h1 w0 B0 trf K ht hK
      have hn:xc C.P C.G E o.op (Ab (wT.den s T)) (SH.den s H) (Nb+2*i)=some (a.den s,[L.k],[]):=by
       rcases hv with⟨v,v1,v2⟩|⟨v1,v2⟩
       ·rw[v2];exact k4 v v1
       ·rw[v2];exact k5 v1
      simp only[zP,hw,Gz,k2,hn];exact h3
     split at h
     ·rename_i L hL;obtain⟨fc2,hf2,h⟩:=Jr hf1 h
      cases hq:(L.c.den s != 0) with
      | false=>rw[hq] at h;cases h
      | true =>
       rw[hq] at h;simp only at h;obtain⟨k2,hn⟩:=apO (E:=E) (s:=s) (KL s T) hL (G:=C.G) (k:=Nb+2*i) hq;obtain⟨h1,h2⟩:=step L.r [L.k] [] nv fc2 hf2 (by simpa [Ij,Ik] using h);refine⟨λw0 B0 trf K ht hK=>?_,h2⟩;have h3:=h1 w0 B0 trf K ht hK;simp only[zP,hw,Gz,k2,hn];exact h3
     ·rw[yK] at h;obtain⟨r,hr,h⟩:=vU.abA h;have hn:=apl hC.se hf1 (KL s T) hr;obtain⟨h1,h2⟩:=step r.1 r.2.1 r.2.2 nv fc1 hf1 h;refine⟨λw0 B0 trf K ht hK=>?_,h2⟩;have h3:=h1 w0 B0 trf K ht hK;simp only[zP,hw,Gz]
      cases hp:GA o.op (Ab (wT.den s T)) with
      | none=>simp only[hn];exact h3
      | some z =>
       obtain⟨c,x,y⟩:=z;obtain⟨e1,e2,e3,e4⟩:=apL hp hn;rw[e1,e2] at h3
       cases c with
       | true=>simp only[Gz,e3 rfl];exact h3
       | false=>simp only[Mx,e4 rfl];exact h3
theorem EX {r:Exit×St} {t:vU (Exit×St)} {f:Exit×St->vU (Exit×St)} (h:(t.bind f).path C.Φ s=some r):∃ ex st,t.path C.Φ s=some (ex,st)/\(f (ex,st)).path C.Φ s=some r:=by obtain⟨⟨ex,st⟩,h1,h2⟩:=vU.abA h;exact⟨ex,st,h1,h2⟩
theorem MV {x:Exit} {r y:Exit×St} {A:vU (Exit×St)} (h:(match x with | .normal=>A|_=>.leaf y:vU (Exit×St)).path C.Φ s=some r):(x = .normal/\A.path C.Φ s=some r)\/(x ≠ .normal/\r=y):=by cases x<;>first|exact .inl ⟨rfl,h⟩|(cases h;exact .inr ⟨λe=>(by cases e),rfl⟩)
theorem MW {K:Nat->wU->wm->Prop} {Q:DD} {x:Exit} {N:Nat} {T:wU} {H:wm} (hx:x ≠ .normal) (h:Q x N T H):OQ K Q x N T H:=by cases x<;>first|exact absurd rfl hx|exact h
theorem GR.trans {c c' c2:Code} {st st1 st2:St} {ex1 ex2:Exit} (h1:GR C E s c st ex1 st1) (h2:GR C E s c' st1 ex2 st2) (aw:∀ w0 B0,AW ⟨C.P,C.G,E,w0,B0,st.T.length⟩ c2 (Bq s ex2 st2) st.N (wT.den s st.T) (SH.den s st.H)):GR C E s c2 st ex2 st2 :=
 ⟨aw,h2.len.trans h1.len,λj hj=>by obtain⟨a,b⟩:=h2.dt j hj;obtain⟨a',b'⟩:=h1.dt j a;exact⟨a',b.trans b'⟩,h2.fc⟩
def JC (id:Nat):Exit->Exit
 | .exit id'=>if id'=id then .normal else .exit id'
 | x=>x
theorem MZ (hC:yS C E):∀ n:Nat,Ub C E s (exec C n) /\
  ∀ c st ex st',(exec C n (.loop c) st).path C.Φ s=some (ex,st')->xS s st.fc->∀ w0 B0,CP ⟨C.P,C.G,E,w0,B0,st.T.length⟩ c (Bq s ex st') n st.N (wT.den s st.T) (SH.den s st.H)
 | 0=>⟨λc st ex st' h=>(by cases h),λc st ex st' h=>(by cases h)⟩
 | n+1=>by
  obtain⟨ih,ihl⟩:=MZ hC n
  have loop:∀ c st ex st',(exec C (n+1) (.loop c) st).path C.Φ s=some (ex,st')->xS s st.fc->GR C E s (.loop c) st ex st'/\∀ w0 B0,CP ⟨C.P,C.G,E,w0,B0,st.T.length⟩ c (Bq s ex st') (n+1) st.N (wT.den s st.T) (SH.den s st.H):=by
   intro c st ex st' h hf;simp only[exec] at h;obtain⟨ex1,st1,h1,h2⟩:=EX h;have s1:=ih _ _ _ _ h1 hf;rcases MV h2 with⟨rfl,h3⟩|⟨hx,h3⟩
   ·have s2:=ih _ _ _ _ h3 s1.fc
    have hr:∀ w0 B0,CP ⟨C.P,C.G,E,w0,B0,st.T.length⟩ c (Bq s ex st') (n+1) st.N (wT.den s st.T) (SH.den s st.H):=λw0 B0=>by rw[OV];refine(s1.aw w0 B0).mono ?_;rintro x N T H ⟨rfl,rfl,rfl,rfl⟩;have:=ihl _ _ _ _ h3 s1.fc w0 B0;rw[s1.len] at this;exact this
    exact⟨s1.trans s2 λw0 B0=>OU _ (hr w0 B0),hr⟩
   ·obtain⟨rfl,rfl⟩:ex1=ex/\st1=st':=by cases h3;exact⟨rfl,rfl⟩
    have hr:∀ w0 B0,CP ⟨C.P,C.G,E,w0,B0,st.T.length⟩ c (Bq s ex1 st1) (n+1) st.N (wT.den s st.T) (SH.den s st.H):=λw0 B0=>by rw[OV];refine(s1.aw w0 B0).mono ?_;rintro x N T H ⟨rfl,rfl,rfl,rfl⟩;exact MW hx ⟨rfl,rfl,rfl,rfl⟩
    exact⟨⟨λw0 B0=>OU _ (hr w0 B0),s1.len,s1.dt,s1.fc⟩,hr⟩
  refine⟨?_,λc st ex st' h hf=>(loop c st ex st' h hf).2⟩;intro c st ex st' h hf
  cases c with
  | skip=>simp only[exec] at h;cases h;exact⟨λw0 B0=>Zw ⟨rfl,rfl,rfl,rfl⟩,rfl,λj hj=>⟨hj,rfl⟩,hf⟩
  | label l=>simp only[exec] at h;cases h;exact⟨λw0 B0=>Zx ⟨rfl,rfl,rfl,rfl⟩,rfl,λj hj=>⟨hj,rfl⟩,hf⟩
  | exit id=>simp only[exec] at h;cases h;exact⟨λw0 B0=>Zy ⟨rfl,rfl,rfl,rfl⟩,rfl,λj hj=>⟨hj,rfl⟩,hf⟩
  | ret=>simp only[exec] at h;cases h;exact⟨λw0 B0=>Zz ⟨rfl,rfl,rfl,rfl⟩,rfl,λj hj=>⟨hj,rfl⟩,hf⟩
  | seq a b =>
   simp only[exec] at h;obtain⟨ex1,st1,h1,h2⟩:=EX h;have s1:=ih _ _ _ _ h1 hf;rcases MV h2 with⟨rfl,h3⟩|⟨hx,h3⟩
   ·have s2:=ih _ _ _ _ h3 s1.fc;refine s1.trans s2 λw0 B0=>OT ((s1.aw w0 B0).mono ?_)
    rintro x N T H ⟨rfl,rfl,rfl,rfl⟩;have:=s2.aw w0 B0;rw[s1.len] at this;exact this
   ·cases h3;refine⟨λw0 B0=>OT ((s1.aw w0 B0).mono ?_),s1.len,s1.dt,s1.fc⟩;rintro x N T H ⟨rfl,rfl,rfl,rfl⟩;exact MW hx ⟨rfl,rfl,rfl,rfl⟩
  | cond c a b =>
   simp only[exec] at h;split at h
   ·rename_i q hq;have hd:=KL s st.T _ _ hq;obtain⟨fc',hf',h⟩:=Jr hf h;simp only[SV.den] at hd
    cases hb:(q.den s != 0) with
    | true =>
     rw[hb] at h hd;have s1:=ih _ _ _ _ h hf';exact⟨λw0 B0=>ZA hd (s1.aw w0 B0),s1.len,s1.dt,s1.fc⟩
    | false =>
     rw[hb] at h hd;have s1:=ih _ _ _ _ h hf';exact⟨λw0 B0=>ZB hd (s1.aw w0 B0),s1.len,s1.dt,s1.fc⟩
   ·cases h
  | block id c =>
   simp only[exec] at h;obtain⟨ex1,st1,h1,h2⟩:=EX h;have s1:=ih _ _ _ _ h1 hf
   have key:ex=JC id ex1/\st'=st1:=by
    cases ex1 with
    | exit id' =>
     simp only at h2;simp only[JC];split at h2
     ·rename_i hb;cases h2;rw[if_pos (xO.1 hb)];exact⟨rfl,rfl⟩
     ·rename_i hb;cases h2;rw[if_neg (λe=>by rw[e] at hb;simp at hb)];exact⟨rfl,rfl⟩
    | _=>cases h2;exact⟨rfl,rfl⟩
   obtain⟨rfl,rfl⟩:=key;refine⟨λw0 B0=>ZC ((s1.aw w0 B0).mono ?_),s1.len,s1.dt,s1.fc⟩;rintro x N T H ⟨rfl,rfl,rfl,rfl⟩
   cases x with
   | exit id' =>
    simp only[Ti,JC];split
    ·exact⟨rfl,rfl,rfl,rfl⟩
    ·exact⟨rfl,rfl,rfl,rfl⟩
   | _=>exact⟨rfl,rfl,rfl,rfl⟩
  | loop c=>exact(loop c st ex st' h hf).1
  | scope c =>
   simp only[exec] at h;obtain⟨ex1,st1,h1,h2⟩:=EX h;have s1:=ih _ _ _ _ h1 hf
   have key:(∀ l,ex1 ≠ .goto l)/\ex=ex1/\st'=st1:=by cases ex1<;>first|(cases h2;exact⟨λl e=>(by cases e),rfl,rfl⟩)|cases h2
   obtain⟨hg,rfl,rfl⟩:=key;exact⟨λw0 B0=>ZF (s1.aw w0 B0) (λl N T H e=>hg l e.1.symm),s1.len,s1.dt,s1.fc⟩
  | region id ops draw =>
   simp only[exec] at h;obtain⟨out,h1,h2⟩:=vU.abA h
   have dst:∀ o∈ops.toList,∀ t,o.dst=some t->t<st.T.length:=by
    unfold regionEnd at h2;split at h2
    ·split at h2
     ·rename_i hdr _;simp only[drawOK,Bool.and_eq_true] at hdr;exact Jk hdr.1.2
     ·cases h2
     ·cases h2
    ·split at h2
     ·rename_i hdr;exact Jk hdr
     ·cases h2
   obtain⟨e1,e2,e3,e4⟩:=Ud hC (nt:=st.T.length) (λg args H k nv fc r hr hf=>abd hC ih hr hf) ops.toList 0 st.T st.H [] st.nv st.dt st.fc out h1 hf rfl dst;unfold regionEnd at h2
   cases draw with
   | true =>
    simp only at h2;split at h2
    ·rename_i hdr htr;rw[yK] at h2;cases h2;refine⟨λw0 B0=>ZH hC.eq hC.mix hdr (e1 w0 B0 [] _ rfl ?_),e2,e4,e3⟩;intro trf htf;refine⟨?_,rfl,rfl,rfl,rfl⟩;rw[<- htf] at htr;exact Uc htr
    ·cases h2
    ·cases h2
   | false =>
    simp only at h2;split at h2
    ·rename_i hdr;rw[yK] at h2;cases h2;exact⟨λw0 B0=>ZG hC.eq hdr (e1 w0 B0 [] _ rfl λtrf htf=>⟨rfl,rfl,rfl,rfl⟩),e2,e4,e3⟩
    ·cases h2
  | rangeFunc f ps a b=>simp only[exec] at h;cases h
  | goto l=>simp only[exec] at h;cases h
  | refuse w=>simp only[exec] at h;cases h
end
def wC:List Int->Nat->Int
 | [],_=>0
 | x::_,0=>x
 | _::l,n+1=>wC l n
theorem aha:∀ (l m:List Int) (i:Nat),i<l.length->wC (l++m) i=wC l i
 | x::l,m,0,_=>rfl
 | x::l,m,i+1,h=>aha l m i (by simpa using h)
 | [],m,i,h=>by simp at h
theorem abk:∀ (l m q:List Int),Au (wC (l++m++q)) l.length m.length=m
 | l,[],q=>rfl
 | l,x::m,q=>by
  rw[List.length_cons,Au]
  have h1:wC (l++x::m++q) l.length=x:=by
   induction l with
   | nil=>rfl
   | cons y l ih=>exact ih
  have h2:=abk (l ++ [x]) m q;rw[h1];simp only[List.append_assoc,List.singleton_append,List.length_append,List.length_cons,List.length_nil,List.cons_append,List.nil_append,Nat.zero_add] at h2 ⊢;rw[h2]
def X.ev (l:List Int):X->Int
 | .lit n=>n
 | .var k i=>Pk k (wC l i)
 | .bin op k a b=>fold op k (a.ev l) (b.ev l)
 | .conv k a=>zC k (a.ev l)
 | .com k a=>fold .xor k (match k.signed with|true => -1|false=>.ofNat (Bn k-1)) (a.ev l)
 | .not a=>wh (FK (ww (a.ev l)))
 | .and a b=>match ww (a.ev l) with|true=>wh (ww (b.ev l))|false=>0
 | .beq a b=>wh (match ww (a.ev l) with|true=>ww (b.ev l)|false=>FK (ww (b.ev l)))
 | .min a b=>match Bo (b.ev l) (a.ev l) with|true=>b.ev l|false=>a.ev l
 | .max a b=>match Bo (a.ev l) (b.ev l) with|true=>b.ev l|false=>a.ev l
 | .ite c a b=>match ww (c.ev l) with|true=>a.ev l|false=>b.ev l
 | .dlen a=>Int.ofNat (wO (a.ev l).toNat)
theorem apP (k:IntKind) (n:Int):fold .xor k (match k.signed with|true => -1|false=>.ofNat (Bn k-1)) n=Tx k n:=by have:=agf (λ_=>0) k (.lit n);unfold VV at this;simp only[MF,X.den] at this;exact this
theorem X.akm (l:List Int):∀ x:X,x.ev l=x.den (wC l)
 | .lit n=>rfl
 | .var k i=>agG k _
 | .bin op k a b=>by simp only[X.ev,X.den,Jp,X.akm l a,X.akm l b]
 | .conv k a=>by simp only[X.ev,X.den,yJ,X.akm l a]
 | .com k a=>by simp only[X.ev,X.den,apP,X.akm l a]
 | .not a=>by simp only[X.ev,X.den,En,zR,X.akm l a]
 | .and a b=>by simp only[X.ev,X.den,zR,X.akm l a,X.akm l b];cases (a.den (wC l) != 0)<;>rfl
 | .beq a b=>by simp only[X.ev,X.den,zR,En,X.akm l a,X.akm l b];cases (a.den (wC l) != 0)<;>cases (b.den (wC l) != 0)<;>rfl
 | .min a b=>by
  simp only[X.ev,X.den,Em,X.akm l a,X.akm l b];by_cases h:b.den (wC l)<a.den (wC l)
  ·rw[decide_eq_true h,if_pos h]
  ·rw[decide_eq_false h,if_neg h]
 | .max a b=>by
  simp only[X.ev,X.den,Em,X.akm l a,X.akm l b];by_cases h:a.den (wC l)<b.den (wC l)
  ·rw[decide_eq_true h,if_pos h]
  ·rw[decide_eq_false h,if_neg h]
 | .ite c a b=>by
  simp only[X.ev,X.den,zR,X.akm l a,X.akm l b,X.akm l c];by_cases h:c.den (wC l)=0
  ·rw[if_pos h,h];rfl
  ·rw[if_neg h,show(c.den (wC l) != 0)=true by simpa using h]
 | .dlen a=>by simp only[X.ev,X.den,X.akm l a]
def evs {β:Sort _} (l:List Int):List X->(List Int->β)->β
 | [],K=>K []
 | x::xs,K=>ME (x.ev l) λn=>evs l xs λr=>K (n::r)
theorem F3 {β:Sort _} (l:List Int):∀ (xs:List X) (K:List Int->β),evs l xs K=K (xs.map (X.den (wC l)))
 | [],K=>rfl
 | x::xs,K=>by rw[evs,MF,F3 l xs,X.akm];rfl
def Ag (Φ:yE):vU SV->List Int->Option (SV×List Int)
 | .leaf a,l=>some (a,l)
 | .ite c a b,l=>match ww (c.ev l) with|true=>Ag Φ a l|false=>Ag Φ b l
 | .call f args _ n t,l=>evs l args λxs=>match Nat.beq (Φ f xs).length n with|true=>Ag Φ t (l++Φ f xs)|false=>none
 | .stuck _,_=>none
def AQ (n:Nat):X->Bool
 | .lit _=>true
 | .var _ i=>Nat.blt i n
 | .bin _ _ a b=>xY (AQ n a) (AQ n b)
 | .conv _ a=>AQ n a
 | .com _ a=>AQ n a
 | .not a=>AQ n a
 | .and a b=>xY (AQ n a) (AQ n b)
 | .beq a b=>xY (AQ n a) (AQ n b)
 | .min a b=>xY (AQ n a) (AQ n b)
 | .max a b=>xY (AQ n a) (AQ n b)
 | .ite c a b=>xY (AQ n c) (xY (AQ n a) (AQ n b))
 | .dlen a=>AQ n a
def Wy (n:Nat):List X->Bool
 | []=>true
 | x::l=>xY (AQ n x) (Wy n l)
def F4 (n:Nat):vU SV->Bool
 | .leaf _=>true
 | .ite c a b=>xY (AQ n c) (xY (F4 n a) (F4 n b))
 | .call _ args base m t=>xY (Nat.beq base n) (xY (Wy n args) (F4 (n+m) t))
 | .stuck _=>true
theorem BM {l m:List Int} : ∀ {x:X},AQ l.length x=true->x.den (wC (l++m))=x.den (wC l)
 | .lit n,_=>rfl
 | .var k i,h=>by simp only[X.den];rw[aha _ _ _ (by simpa [AQ,Nat.blt_eq] using h)]
 | .bin _ _ a b,h=>by have h:=xH h;simp only[X.den,BM h.1,BM h.2]
 | .conv _ a,h=>by simp only[X.den,BM (x:=a) h]
 | .com _ a,h=>by simp only[X.den,BM (x:=a) h]
 | .not a,h=>by simp only[X.den,BM (x:=a) h]
 | .and a b,h=>by have h:=xH h;simp only[X.den,BM h.1,BM h.2]
 | .beq a b,h=>by have h:=xH h;simp only[X.den,BM h.1,BM h.2]
 | .min a b,h=>by have h:=xH h;simp only[X.den,BM h.1,BM h.2]
 | .max a b,h=>by have h:=xH h;simp only[X.den,BM h.1,BM h.2]
 | .ite c a b,h=>by have h:=xH h;have h2:=xH h.2;simp only[X.den,BM h.1,BM h2.1,BM h2.2]
 | .dlen a,h=>by simp only[X.den,BM (x:=a) h]
theorem ahb {l m:List Int} : ∀ {xs:List X},Wy l.length xs=true->xs.map (X.den (wC (l++m)))=xs.map (X.den (wC l))
 | [],_=>rfl
 | x::xs,h=>by have h:=xH h;rw[List.map_cons,List.map_cons,BM h.1,ahb h.2]
theorem KV {Φ:yE} : ∀ {t:vU SV} {l:List Int} {a:SV} {l':List Int},Ag Φ t l=some (a,l')->F4 l.length t=true->t.path Φ (wC l')=some a/\∃ m,l'=l++m
 | .leaf a,l,b,l',h,_=>by simp only[Ag,Option.some.injEq,Prod.mk.injEq] at h;obtain⟨rfl,rfl⟩:=h;exact⟨rfl,[],by simp⟩
 | .ite c a b,l,v,l',h,hs=>by
  have hs:=xH hs;have hs2:=xH hs.2;simp only[Ag,zR,X.akm] at h;split at h
  ·rename_i hc;obtain⟨h1,m,rfl⟩:=KV h hs2.1;refine⟨?_,m,rfl⟩;rw[vU.path,BM hs.1,if_neg (by simpa using hc)];exact h1
  ·rename_i hc;obtain⟨h1,m,rfl⟩:=KV h hs2.2;refine⟨?_,m,rfl⟩;rw[vU.path,BM hs.1,if_pos (by simpa using hc)];exact h1
 | .call f args base n t,l,v,l',h,hs=>by
  have hs:=xH hs;have hs2:=xH hs.2;have hb:=xO.1 hs.1;subst hb;simp only[Ag,F3] at h;split at h
  ·rename_i hn;have hn:=xO.1 hn;subst hn;obtain⟨h1,m,rfl⟩:=KV h (by rw[List.length_append];exact hs2.2);refine⟨?_,_,List.append_assoc _ _ _⟩;rw[vU.path,if_pos]
   ·exact h1
   ·unfold MJ;have e:=ahb (m:=Φ f (args.map (X.den (wC l)))++m) hs2.1;rw[List.append_assoc,e,<- List.append_assoc];exact abk l _ m
  ·cases h
 | .stuck w,l,v,l',h,_=>by cases h
def GU (r:List Sh) (a:SV):List SV:=match r with
 | [_]=>[a]
 | _=>match a with | .tup m=>m|a=>[a]
def wE (Φ:yE) (ct:Ct) (t:vU SV) (l:List Int):List Int:=match Ag Φ t l with
 | some (a,l')=>match Er ct.r (GU ct.r a) with
  | some xs=>evs l' xs id
  | none=>[]
 | none=>[]
def okF (Φ:yE) (ct:Ct) (t:vU SV) (l:List Int):Prop:=∃ a l' xs,Ag Φ t l=some (a,l')/\Er ct.r (GU ct.r a)=some xs
theorem Wz {Φ:yE} {ct:Ct} {t:vU SV} {l:List Int} (h:okF Φ ct t l):(wE Φ ct t l).length=(vV ct.r).length:=by obtain⟨a,l',xs,h1,h2⟩:=h;unfold wE;simp only[h1,h2,F3,id,List.length_map,(KQ (λ_=>0) h2).2]
theorem Ue (l m:List Int):Au (wC (l++m)) 0 l.length=l:=by have:=abk [] l m;simpa using this
theorem apQ {C:xP} {E:xV} {s:wF} (hC:yS C E) {n:Nat} {g:FuncId} {args:List SV} {nv:Nat} {a:SV} {vs:List Value} {v:Value} (h:(xe C n g args nv).path C.Φ s=some a) (ha:SV.aaE s args=vs.map .v) (hv:a.den s = .v v) :
  PC C.P C.G g vs v:=by
 unfold xe at h;split at h
 ·cases h
 ·rename_i fn hf;split at h
  ·cases h
  ·rename_i cd hb;split at h
   ·rename_i hl;obtain⟨⟨ex,st⟩,h1,h2⟩:=vU.abA h;have sp:=(MZ (E:=E) (s:=s) hC n).1 _ _ _ _ h1 (λx hx=>by cases hx);have hlen:(zK args fn.ntmps).length=fn.ntmps:=KS _ _ (Nat.le_of_ble_eq_true hl);have hvl:vs.length=args.length:=by have:=congrArg List.length ha;rw[Ep,List.length_map] at this;exact this.symm
    refine ZK E hf hb (hC.nm g fn hf (by rw[hb];rfl)) (by rw[hvl];exact hl) λw=>?_
    have hA:=sp.aw w xB.nil;simp only[hlen,Pv,ha] at hA
    have key:∀ rs,Af C.P st.T st.H fn.results.toList=some rs->aeY rs=a->∃ rs',DF C.P C.G (wT.den s st.T) (SH.den s st.H) fn.results.toList=some rs'/\GD rs' = .v v:=λrs hrs e =>
     ⟨_,KT s hrs,by rw[KR,e,hv]⟩
    have hx:(ex = .normal\/ex = .ret)/\∃ rs,Af C.P st.T st.H fn.results.toList=some rs/\aeY rs=a:=by
     rcases Pw h2 with⟨rfl,h3⟩|⟨rfl,h3⟩
     ·split at h3
      ·rename_i rs hrs;cases h3;exact⟨.inl rfl,rs,hrs,rfl⟩
      ·cases h3
     ·split at h3
      ·rename_i rs hrs;cases h3;exact⟨.inr rfl,rs,hrs,rfl⟩
      ·cases h3
    obtain⟨hx,rs,hrs,e⟩:=hx;refine AW.mono (show AW _ cd (Bq s ex st) 0 _ _ from hA) ?_;rintro x N T H ⟨rfl,rfl,rfl,rfl⟩;rcases hx with rfl|rfl
    ·exact key rs hrs e
    ·exact key rs hrs e
   ·cases h
theorem WA {s:wF} {r:List Sh} {a:SV} {vs:List Value} (h:SV.aaE s (GU r a)=vs.map .v) (hl:vs.length=r.length):a.den s = .v (xU vs):=by
 unfold GU at h;split at h
 ·match vs,hl with
  | [v],_=>simpa [SV.aaE,xU] using h
 ·rename_i hr
  have tup:∀ m,SV.aaE s m=vs.map .v->(SV.tup m).den s = .v (xU vs):=λm hm=>by
   simp only[SV.den,hm,V3]
   match vs,hl with
   | [],_=>rfl
   | [v],hl=>exfalso;match r,hl with | [x],_=>exact hr x rfl
   | _::_::_,_=>rfl
  split at h
  ·exact tup _ h
  ·rename_i hnt;exfalso;have h1:=congrArg List.length h;rw[Ep,List.length_map,hl] at h1
   match r,h1 with
   | [x],_=>exact hr x rfl
theorem Px:∀ (hs:List Sh) (ns:List Int),(xk hs ns).length=hs.length
 | [],_=>rfl
 | h::hs,ns=>by rw[xk,List.length_cons,Px hs,List.length_cons]
theorem abl {C:xP} {E:xV} (hC:yS C E) {n:Nat} {g:FuncId} {ct:Ct} {t:vU SV} (h:xe C n g (wN ct.a (wM 0 (vV ct.a))) (vV ct.a).length=t) (hs:F4 (vV ct.a).length t=true)
  (l:List Int) (hl:l.length=(vV ct.a).length) (ho:okF C.Φ ct t l) :
  (wE C.Φ ct t l).length=(vV ct.r).length/\PC C.P C.G g (xk ct.a l) (xU (xk ct.r (wE C.Φ ct t l))):=by
 refine⟨Wz ho,?_⟩;obtain⟨a,l',xs,h1,h2⟩:=ho;obtain⟨h3,m,rfl⟩:=KV h1 (by rw[hl];exact hs);rw[<- h] at h3;obtain⟨h4,h5⟩:=GN (wC (l++m)) (vV ct.a) 0;rw[<- hl,Ue] at h4;have hf:=KQ (wC (l++m)) h2;refine apQ hC h3 (Jw h4 h5) ?_;have:wE C.Φ ct t l=xs.map (X.den (wC (l++m))):=by unfold wE;simp only[h1,h2,F3,id]
 rw[this];exact WA hf.1 (Px _ _)
def Et (cf:FuncId->Option Ct) (ct:Ct) (n:Nat):vU SV->Bool
 | .leaf a=>(Er ct.r (GU ct.r a)).isSome
 | .ite c a b=>xY (AQ n c) (xY (Et cf ct n a) (Et cf ct n b))
 | .call f args base m t=>match cf f with
  | some c=>xY (Nat.beq base n) (xY (Wy n args) (xY (Nat.beq args.length (vV c.a).length) (xY (Nat.beq m (vV c.r).length) (Et cf ct (n+m) t))))
  | none=>false
 | .stuck _=>false
theorem M3 {cf:FuncId->Option Ct} {ct:Ct} : ∀ {t:vU SV} {n:Nat},Et cf ct n t=true->F4 n t=true
 | .leaf a,n,_=>rfl
 | .ite c a b,n,h=>by have h:=xH h;have h2:=xH h.2;simp only[F4,h.1,M3 h2.1,M3 h2.2];rfl
 | .call f args base m t,n,h=>by
  simp only[Et] at h;split at h
  ·have h:=xH h;have h2:=xH h.2;have h3:=xH h2.2;have h4:=xH h3.2;simp only[F4,h.1,h2.1,M3 h4.2];rfl
  ·cases h
 | .stuck _,n,h=>by cases h
structure Br (C:xP) (E:xV):Prop where
 ok:yS C E
 ct:∀ (g:FuncId) (ct:Ct),C.ct g=some ct->∀ l:List Int,l.length=(vV ct.a).length->(C.Φ g l).length=(vV ct.r).length
 nt:∀ (g:FuncId) (ct:Ct),C.nt g=some ct->∀ l:List Int,l.length=(vV ct.a).length->(C.Φ g l).length=(vV ct.r).length
 sl:∀ (g:FuncId) (c:AP),c∈C.sl g->∀ l:List Int,l.length=(vV c.a++c.ks).length->(C.Φ c.id l).length=(vV c.r).length
theorem WB {C:xP} {E:xV} (hC:Br C E) {ct:Ct} : ∀ {t:vU SV} {l:List Int},Et C.ct ct l.length t=true->okF C.Φ ct t l
 | .leaf a,l,h=>by obtain⟨xs,hx⟩:=Option.isSome_iff_exists.1 (show(Er ct.r (GU ct.r a)).isSome=true from h);exact⟨a,l,xs,rfl,hx⟩
 | .ite c a b,l,h=>by
  have h:=xH h;have h2:=xH h.2;unfold okF;simp only[Ag]
  cases ww (c.ev l) with
  | true=>exact WB hC h2.1
  | false=>exact WB hC h2.2
 | .call f args base m t,l,h=>by
  simp only[Et] at h;split at h
  ·rename_i c hc;have h:=xH h;have h2:=xH h.2;have h3:=xH h2.2;have h4:=xH h3.2;have e1:=xO.1 h3.1;have e2:=xO.1 h4.1;unfold okF;simp only[Ag,F3];have hl:=(hC.ct f c hc (args.map (X.den (wC l))) (by rw[List.length_map];exact e1));rw[hl,e2];simp only[Nat.beq_refl];refine WB hC ?_;rw[List.length_append,hl,<- e2];exact h4.2
  ·cases h
 | .stuck _,l,h=>by cases h
structure wY where
 g:FuncId
 ct:Ct
 F:List Int->List Int
def Ch:List wY->FuncId->Option wY
 | [],_=>none
 | x::l,g=>match Nat.beq x.g g with|true=>some x|false=>Ch l g
def wK (P:Program) (G:wQ) (e:wY):Prop:=∀ l:List Int,l.length=(vV e.ct.a).length->(e.F l).length=(vV e.ct.r).length/\PC P G e.g (xk e.ct.a l) (xU (xk e.ct.r (e.F l)))
theorem Uf {L:List wY} {g:FuncId} {e:wY} (h:Ch L g=some e):e∈L/\e.g=g:=by
 induction L with
 | nil=>cases h
 | cons x l ih =>
  simp only[Ch] at h;split at h
  ·rename_i hb;cases h;exact⟨List.mem_cons_self,xO.1 hb⟩
  ·obtain⟨h1,h2⟩:=ih h;exact⟨List.mem_cons_of_mem _ h1,h2⟩
theorem xI {C:xP} {E:xV} (hC:Br C E) (n:Nat) {g:FuncId} {ct:Ct} {t:vU SV} (h:xe C n g (wN ct.a (wM 0 (vV ct.a))) (vV ct.a).length=t) (hs:Et C.ct ct (vV ct.a).length t=true) :
  wK C.P C.G ⟨g,ct,wE C.Φ ct t⟩:=λl hl=>abl hC.ok h (M3 hs) l hl (WB hC (by rw[hl];exact hs))
structure yT (P:Program) (G:wQ) (e:wY):Prop where
 ok:∀ l:List Int,l.length=(vV e.ct.a).length->(e.F l).length=(vV e.ct.r).length->PC P G e.g (xk e.ct.a l) (xU (xk e.ct.r (e.F l)))
theorem wK.c {P:Program} {G:wQ} {e:wY} (h:wK P G e):yT P G e:=⟨λl hl _=>(h l hl).2⟩
theorem yT.tot {P:Program} {G:wQ} {e:wY} (h:yT P G e) (ht:∀ l:List Int,l.length=(vV e.ct.a).length->(e.F l).length=(vV e.ct.r).length):wK P G e:=λl hl=>⟨ht l hl,h.ok l hl (ht l hl)⟩
theorem ahc {Φ:yE} {ct:Ct} {t:vU SV} {l:List Int} (hp:Nat.blt 0 (vV ct.r).length=true) (h:(wE Φ ct t l).length=(vV ct.r).length):okF Φ ct t l:=by
 have hp:0<(vV ct.r).length:=by simpa [Nat.blt_eq] using hp
 unfold wE at h
 cases he:Ag Φ t l with
 | none=>rw[he] at h;simp only[List.length_nil] at h;omega
 | some q =>
  obtain⟨a,l'⟩:=q;rw[he] at h;simp only at h
  cases hf:Er ct.r (GU ct.r a) with
  | none=>rw[hf] at h;simp only[List.length_nil] at h;omega
  | some xs=>exact⟨a,l',xs,he,hf⟩
theorem Py {C:xP} {E:xV} (hC:yS C E) (n:Nat) {g:FuncId} {ct:Ct} {t:vU SV} (hp:Nat.blt 0 (vV ct.r).length=true) (h:xe C n g (wN ct.a (wM 0 (vV ct.a))) (vV ct.a).length=t) (hs:F4 (vV ct.a).length t=true) :
  yT C.P C.G ⟨g,ct,wE C.Φ ct t⟩:=⟨λl hl hF=>(abl hC h hs l hl (ahc hp hF)).2⟩
end Go.Proofs.YtippohicjhilnaaGreatDoor
