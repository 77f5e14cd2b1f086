import Derived.Test.YtbembkamcdlhbaaGreatDoorZASb
set_option linter.unusedSimpArgs false
set_option linter.unusedVariables false
namespace Go.Proofs.YtbembkamcdlhbaaGreatDoor
open Go.RowKit
inductive VK where
 | int (k:IntKind)
 | bool
 | bit
 | nat
def sF (b:Bool):Int:=match b with|true=>1|false=>0
def zu (op:BinOp) (k:IntKind) (x y:Int):Int :=
 let a:=BitVec.ofInt k.bits x
 let b:=BitVec.ofInt k.bits y
 k.wrap (match op with | .and=>a&&&b | .or=>a|||b | .xor=>a ^^^ b|_=>a &&& ~~~b).toNat
theorem UE (op:BinOp) (k:IntKind) (x y:Int):Ec op k x y = .int k (zu op k x y):=rfl
def rY (op:BinOp) (k:IntKind) (a b:Int):Int:=match op with
 | .shl=>k.wrap (a*2^min b.toNat k.bits)
 | .shr=>a.fdiv (2^min b.toNat k.bits)
 | .add=>k.wrap (a+b)
 | .sub=>k.wrap (a-b)
 | .mul=>k.wrap (a*b)
 | .quo=>k.wrap (a.tdiv b)
 | .rem=>a.tmod b
 | .and=>zu .and k a b
 | .or=>zu .or k a b
 | .xor=>zu .xor k a b
 | .andNot=>zu .andNot k a b
 | .eql=>sF (a==b)
 | .neq=>sF (a != b)
 | .lss=>sF (decide (a<b))
 | .leq=>sF (decide (a≤b))
 | .gtr=>sF (decide (a>b))
 | .geq=>sF (decide (a≥b))
def UF:Nat→Nat→List Nat
 | 0,_=>[]
 | f+1,n=>match n with|0=>[]|m+1=>(m+1)%4294967296::UF f ((m+1)/4294967296)
def UG (n:Nat):List Nat:=UF n n
def Ah (n:Nat):Nat:=(UG n).length
inductive X where
 | lit (n:Int)
 | var (k:VK) (i:Nat)
 | bin (op:BinOp) (k:IntKind) (a b:X)
 | conv (k:IntKind) (a:X)
 | com (k:IntKind) (a:X)
 | not (a:X)
 | and (a b:X)
 | beq (a b:X)
 | min (a b:X)
 | max (a b:X)
 | ite (c a b:X)
 | dlen (a:X)
abbrev rM:=Nat→Int
def VK.norm:VK→Int→Int
 | .int k,n=>k.wrap n
 | .bool,n=>sF (n != 0)
 | .bit,n=>sF (n != 0)
 | .nat,n=>Int.ofNat n.toNat
def JR (k:IntKind) (n:Int):Int:=zu .xor k (if k.signed then -1 else k.max) n
def X.den (s:rM):X→Int
 | .lit n=>n
 | .var k i=>k.norm (s i)
 | .bin op k a b=>rY op k (a.den s) (b.den s)
 | .conv k a=>k.wrap (a.den s)
 | .com k a=>JR k (a.den s)
 | .not a=>sF (!(a.den s != 0))
 | .and a b=>sF (a.den s != 0&&b.den s != 0)
 | .beq a b=>sF ((a.den s != 0)==(b.den s != 0))
 | .min a b=>if b.den s<a.den s then b.den s else a.den s
 | .max a b=>if b.den s>a.den s then b.den s else a.den s
 | .ite c a b=>if c.den s=0 then b.den s else a.den s
 | .dlen a=>Int.ofNat (Ah (a.den s).toNat)
theorem uF (b:Bool):(sF b != 0)=b:=by cases b<;>rfl
def uG {β:Sort _} (n:Nat) (k:Nat→β):β:=match n with|0=>k 0|m+1=>k (Nat.succ m)
theorem uq {β:Sort _} (n:Nat) (k:Nat→β):uG n k=k n:=by cases n<;>rfl
def Eh {β:Sort _} (n:Int) (k:Int→β):β:=match n with | .ofNat m=>uG m fun m=>k (.ofNat m) | .negSucc m=>uG m fun m=>k (.negSucc m)
theorem Ei {β:Sort _} (n:Int) (k:Int→β):Eh n k=k n:=by cases n<;>simp[Eh,uq]
def BN {α:Type} {β:Sort _} : List α→(List α→β)→β
 | [],k=>k []
 | a::l,k=>BN l fun l'=>k (a::l')
theorem Ej {α:Type} {β:Sort _} : ∀ (l:List α) (k:List α→β),BN l k=k l
 | [],k=>rfl
 | a::l,k=>by rw[BN,Ej l]
def uH {β:Sort _} (x:X) (k:X→β):β:=match x with
 | .lit n=>k (.lit n)
 | .var a b=>k (.var a b)
 | .bin o q a b=>k (.bin o q a b)
 | .conv q a=>k (.conv q a)
 | .com q a=>k (.com q a)
 | .not a=>k (.not a)
 | .and a b=>k (.and a b)
 | .beq a b=>k (.beq a b)
 | .min a b=>k (.min a b)
 | .max a b=>k (.max a b)
 | .ite c a b=>k (.ite c a b)
 | .dlen a=>k (.dlen a)
theorem ac9 {β:Sort _} (x:X) (k:X→β):uH x k=k x:=by cases x<;>rfl
def xO:IntKind→Nat
 | .i8 | .u8=>256
 | .i16 | .u16=>65536
 | .i32 | .u32=>4294967296
 | .i64 | .u64=>18446744073709551616
def BO:IntKind→Nat
 | .i8 | .u8=>128
 | .i16 | .u16=>32768
 | .i32 | .u32=>2147483648
 | .i64 | .u64=>9223372036854775808
theorem Pk (k:IntKind):(xO k:Int)=2^k.bits:=by cases k<;>decide
theorem ada (k:IntKind):xO k=2^k.bits:=by cases k<;>decide
theorem adb (k:IntKind):(BO k:Int)=2^(k.bits-1):=by cases k<;>decide
theorem UH (k:IntKind):0<xO k:=by cases k<;>decide
def um (k:IntKind) (n:Int):Nat:=match n with
 | .ofNat m=>m%xO k
 | .negSucc m=>xO k-1-m%xO k
theorem Pm (k:IntKind) (n:Int):(um k n:Int)=n%2^k.bits:=by
 rw[← Pk]
 have:=UH k
 cases n with
 | ofNat m=>simp[um]
 | negSucc m =>
  have h:=Nat.mod_lt m this
  simp only[um]
  rw[Int.negSucc_emod _ (by omega)]
  have h2:((m:Int)%(xO k:Int))=((m%xO k:Nat):Int):=by simp
  omega
theorem C9 (k:IntKind) (n:Int):(BitVec.ofInt k.bits n).toNat=um k n:=by
 rw[BitVec.toNat_ofInt]
 have:=Pm k n
 have h2:((2^k.bits:Nat):Int)=2^k.bits:=by simp
 rw[h2,← this];simp
def UI (k:IntKind) (r:Nat):Int:=match k.signed with
 | true=>match Nat.ble (BO k) r with|true=>Int.subNatNat r (xO k)|false=>.ofNat r
 | false=>.ofNat r
def uR (k:IntKind) (n:Int):Int:=UI k (um k n)
theorem uw (k:IntKind) (n:Int):uR k n=k.wrap n:=by
 unfold uR UI IntKind.wrap
 have h:=Pm k n
 rw[← Pk,← adb] at *
 rw[← h]
 cases hs:k.signed with
 | false=>simp
 | true =>
  simp only[Bool.true_and]
  cases hb:Nat.ble (BO k) (um k n) with
  | true =>
   have:BO k≤um k n:=Nat.le_of_ble_eq_true hb
   rw[if_pos (by simp;omega),Int.subNatNat_eq_coe]
  | false =>
   have:¬ BO k≤um k n:=fun e=>by rw[Nat.ble_eq_true_of_le e] at hb;cases hb
   rw[if_neg (by simp;omega)];rfl
def Gq (n:Nat) (k:IntKind):Nat:=match Nat.ble n k.bits with|true=>n|false=>k.bits
theorem Pn (n:Nat) (k:IntKind):Gq n k=min n k.bits:=by
 unfold Gq
 cases h:Nat.ble n k.bits with
 | true=>have:=Nat.le_of_ble_eq_true h;simp;omega
 | false =>
  have:¬ n≤k.bits:=fun e=>by rw[Nat.ble_eq_true_of_le e] at h;cases h
  simp;omega
def uI:Int→Int→Bool
 | .ofNat m,.ofNat n=>Nat.beq m n
 | .negSucc m,.negSucc n=>Nat.beq m n
 | _,_=>false
def wE:Int→Int→Bool
 | .ofNat m,.ofNat n=>Nat.blt m n
 | .negSucc m,.negSucc n=>Nat.blt n m
 | .negSucc _,.ofNat _=>true
 | .ofNat _,.negSucc _=>false
theorem El (a b:Int):uI a b=(a==b):=by
 cases a with
 | ofNat m=>cases b with
  | ofNat n =>
   simp only[uI]
   rw[Bool.eq_iff_iff,Nat.beq_eq,beq_iff_eq]
   exact⟨fun h=>by rw[h],fun h=>Int.ofNat.inj h⟩
  | negSucc n=>simp only[uI];rw[eq_comm,beq_eq_false_iff_ne];intro h;cases h
 | negSucc m=>cases b with
  | ofNat n=>simp only[uI];rw[eq_comm,beq_eq_false_iff_ne];intro h;cases h
  | negSucc n =>
   simp only[uI]
   rw[Bool.eq_iff_iff,Nat.beq_eq,beq_iff_eq]
   omega
theorem yX (a b:Int):wE a b=decide (a<b):=by
 cases a<;>cases b<;>simp only[wE]<;>rw[Bool.eq_iff_iff]<;>simp[Nat.blt_eq]<;>omega
def zM (b:Bool):Bool:=match b with|true=>false|false=>true
theorem yY (b:Bool):zM b = !b:=by cases b<;>rfl
def fold (op:BinOp) (k:IntKind) (a b:Int):Int:=match op with
 | .shl=>match a,b with
  | .ofNat m,.ofNat n=>uR k (.ofNat (Nat.shiftLeft m (Gq n k)))
  | a,b=>rY .shl k a b
 | .shr=>match a,b with
  | .ofNat m,.ofNat n=>.ofNat (Nat.shiftRight m (Gq n k))
  | a,b=>rY .shr k a b
 | .add=>uR k (Int.add a b)
 | .sub=>uR k (Int.sub a b)
 | .mul=>uR k (Int.mul a b)
 | .quo=>uR k (Int.tdiv a b)
 | .rem=>Int.tmod a b
 | .and=>uR k (.ofNat (Nat.land (um k a) (um k b)))
 | .or=>uR k (.ofNat (Nat.lor (um k a) (um k b)))
 | .xor=>uR k (.ofNat (Nat.xor (um k a) (um k b)))
 | .andNot=>uR k (.ofNat (Nat.land (um k a) (xO k-1-um k b)))
 | .eql=>sF (uI a b)
 | .neq=>sF (zM (uI a b))
 | .lss=>sF (wE a b)
 | .leq=>sF (zM (wE b a))
 | .gtr=>sF (wE b a)
 | .geq=>sF (zM (wE a b))
theorem Em (op:BinOp) (k:IntKind) (a b:Int):fold op k a b=rY op k a b:=by
 cases op
 case shl =>
  simp only[fold]
  split
  ·rename_i m n
   rw[uw,Pn]
   show k.wrap (Int.ofNat (m <<< _))=k.wrap (Int.ofNat m*2^min n k.bits)
   rw[Nat.shiftLeft_eq];congr 1
  ·rfl
 case shr =>
  simp only[fold]
  split
  ·rename_i m n
   rw[Pn]
   show Int.ofNat (m >>> _)=(Int.ofNat m).fdiv (2^min n k.bits)
   rw[Nat.shiftRight_eq_div_pow,Int.fdiv_eq_ediv_of_nonneg _ (Int.pow_nonneg (by decide))];simp
  ·rfl
 case add=>exact uw _ _
 case sub=>exact uw _ _
 case mul=>exact uw _ _
 case quo=>exact uw _ _
 case rem=>rfl
 case and=>simp only[fold,rY,zu];rw[uw,BitVec.toNat_and,C9,C9];rfl
 case or=>simp only[fold,rY,zu];rw[uw,BitVec.toNat_or,C9,C9];rfl
 case xor=>simp only[fold,rY,zu];rw[uw,BitVec.toNat_xor,C9,C9];rfl
 case andNot=>simp only[fold,rY,zu];rw[uw,BitVec.toNat_and,BitVec.toNat_not,C9,C9,← ada];rfl
 case eql=>simp only[fold,rY,El]
 case neq=>simp only[fold,rY,El,yY,bne]
 case lss=>simp only[fold,rY,yX]
 case leq=>simp only[fold,rY,yX,yY];congr 1;rw[Bool.eq_iff_iff];simp
 case gtr=>simp only[fold,rY,yX,gt_iff_lt]
 case geq=>simp only[fold,rY,yX,yY];congr 1;rw[Bool.eq_iff_iff];simp
def Po:IntKind→IntKind→Bool
 | .u8,.u8=>true | .u8,.u16=>true | .u8,.u32=>true | .u8,.u64=>true | .u8,.i16=>true | .u8,.i32=>true | .u8,.i64=>true
 | .u16,.u16=>true | .u16,.u32=>true | .u16,.u64=>true | .u16,.i32=>true | .u16,.i64=>true
 | .u32,.u32=>true | .u32,.u64=>true | .u32,.i64=>true
 | .u64,.u64=>true
 | .i8,.i8=>true | .i8,.i16=>true | .i8,.i32=>true | .i8,.i64=>true
 | .i16,.i16=>true | .i16,.i32=>true | .i16,.i64=>true
 | .i32,.i32=>true | .i32,.i64=>true
 | .i64,.i64=>true
 | _,_=>false
theorem UJ {a b:IntKind} (h:Po a b=true) (n:Int):b.wrap (a.wrap n)=a.wrap n:=by
 unfold IntKind.wrap IntKind.bits IntKind.signed
 cases a<;>cases b<;>first|(cases h;done)|(simp<;>(try split)<;>(try split)<;>omega)
def uD (op:BinOp) (k:IntKind) (a b:X):X:=match a,b with
 | .lit x,.lit y=>Eh (fold op k x y) .lit
 | a,b=>.bin op k a b
theorem Da (s:rM) (op:BinOp) (k:IntKind) (a b:X):(uD op k a b).den s=rY op k (a.den s) (b.den s):=by
 unfold uD;split
 ·rw[Ei,X.den,Em];rfl
 ·rfl
def Pp (k:IntKind) (a:X):X:=match a with
 | .lit x=>Eh (uR k x) .lit
 | .var (.int k') i=>match Po k' k with|true=>.var (.int k') i|false=>.conv k (.var (.int k') i)
 | a=>.conv k a
theorem adc (s:rM) (k:IntKind) (a:X):(Pp k a).den s=k.wrap (a.den s):=by
 unfold Pp;split
 ·rw[Ei,X.den,uw];rfl
 ·split
  ·rename_i h;exact(UJ h _).symm
  ·rfl
 ·rfl
def Mm (k:IntKind) (a:X):X:=match a with
 | .lit x=>Eh (fold .xor k (match k.signed with|true => -1|false=>.ofNat (xO k-1)) x) .lit
 | a=>.com k a
theorem UK (s:rM) (k:IntKind) (a:X):(Mm k a).den s=JR k (a.den s):=by
 unfold Mm;split
 ·rw[Ei,X.den,Em]
  unfold JR rY IntKind.max
  cases hs:k.signed with
  | true=>simp[X.den]
  | false =>
   simp only[Bool.false_eq_true,if_false,X.den]
   have h1:=Pk k
   have h2:=UH k
   congr 1
   rw[← h1];simp;omega
 ·rfl
def sV (n:Int):Bool:=match n with | .ofNat 0=>false|_=>true
theorem uS (n:Int):sV n=(n != 0):=by
 unfold sV;split
 ·rfl
 ·rename_i h;rw[eq_comm,bne_iff_ne];intro e;exact h (by rw[e];rfl)
def mkNot (a:X):X:=match a with
 | .lit x=>.lit (sF (zM (sV x)))
 | a=>.not a
theorem Pq (s:rM) (a:X):(mkNot a).den s=sF (!(a.den s != 0)):=by
 unfold mkNot;split
 ·rw[X.den,yY,uS];rfl
 ·rfl
def mkAnd (a b:X):X:=match a with
 | .lit x=>match sV x with
  | true=>match b with
   | .lit y=>.lit (sF (sV y))
   | b=>.and a b
  | false=>.lit 0
 | a=>.and a b
theorem ade (s:rM) (a b:X):(mkAnd a b).den s=sF (a.den s != 0&&b.den s != 0):=by
 unfold mkAnd;split
 ·rename_i x
  split
  ·rename_i hx
   rw[uS] at hx
   split
   ·rw[X.den,X.den,X.den,hx,uS];rfl
   ·rfl
  ·rename_i hx
   rw[uS] at hx
   simp only[X.den]
   rw[hx];rfl
 ·rfl
def Mo (a b:X):X:=match a,b with
 | .lit x,.lit y=>.lit (sF (match sV x with|true=>sV y|false=>zM (sV y)))
 | a,b=>.beq a b
theorem UL (s:rM) (a b:X):(Mo a b).den s=sF ((a.den s != 0)==(b.den s != 0)):=by
 unfold Mo;split
 ·rename_i x y
  simp only[X.den,uS,yY]
  cases hx:(x != 0)<;>cases hy:(y != 0)<;>rfl
 ·rfl
def Ps (a b:X):X:=match a,b with
 | .lit x,.lit y=>match wE y x with|true=>.lit y|false=>.lit x
 | a,b=>.min a b
theorem adf (s:rM) (a b:X):(Ps a b).den s=if b.den s<a.den s then b.den s else a.den s:=by
 unfold Ps;split
 ·rename_i x y
  show _=if y<x then y else x
  rw[yX]
  by_cases h:y<x
  ·rw[if_pos h,decide_eq_true h];rfl
  ·rw[if_neg h,decide_eq_false h];rfl
 ·rfl
def Mq (a b:X):X:=match a,b with
 | .lit x,.lit y=>match wE x y with|true=>.lit y|false=>.lit x
 | a,b=>.max a b
theorem UM (s:rM) (a b:X):(Mq a b).den s=if b.den s>a.den s then b.den s else a.den s:=by
 unfold Mq;split
 ·rename_i x y
  show _=if x<y then y else x
  rw[yX]
  by_cases h:x<y
  ·rw[if_pos h,decide_eq_true h];rfl
  ·rw[if_neg h,decide_eq_false h];rfl
 ·rfl
def En (c a b:X):X:=match c with
 | .lit n=>match sV n with|true=>a|false=>b
 | c=>match a,b with
  | .lit x,.lit y=>match uI x y with|true=>.lit x|false=>.ite c (.lit x) (.lit y)
  | a,b=>.ite c a b
theorem JS (s:rM) (c a b:X):(En c a b).den s=if c.den s=0 then b.den s else a.den s:=by
 unfold En;split
 ·rename_i n
  show _=if n=0 then b.den s else a.den s
  split
  ·rename_i h;rw[uS,bne_iff_ne] at h;rw[if_neg h]
  ·rename_i h;rw[uS,bne_eq_false_iff_eq] at h;rw[if_pos h]
 ·split
  ·rename_i x y
   split
   ·rename_i h
    rw[El,beq_iff_eq] at h;subst h
    show x=if _ then x else x
    split<;>rfl
   ·rfl
  ·rfl
def Pt (k:IntKind) (n:Int):Bool:=uI (uR k n) n
def vQ:IntKind→IntKind→Bool
 | .i8,.i8=>true | .i16,.i16=>true | .i32,.i32=>true | .i64,.i64=>true
 | .u8,.u8=>true | .u16,.u16=>true | .u32,.u32=>true | .u64,.u64=>true
 | _,_=>false
theorem xC {a b:IntKind} (h:vQ a b=true):a=b:=by cases a<;>cases b<;>first|rfl|cases h
def X.inK (k:IntKind):X→Bool
 | .lit n=>Pt k n
 | .var (.int k') _=>Po k' k
 | .var .bit _=>vQ k .u64
 | .bin op k' a b=>match op with
  | .add | .sub | .mul | .quo | .shl | .and | .or | .xor | .andNot=>vQ k k'
  | .shr=>X.inK k a
  | .rem=>X.inK k a
  | _=>false
 | .conv k' _=>vQ k k'
 | .com k' _=>vQ k k'
 | .min a b=>match X.inK k a with|true=>X.inK k b|false=>false
 | .max a b=>match X.inK k a with|true=>X.inK k b|false=>false
 | .ite _ a b=>match X.inK k a with|true=>X.inK k b|false=>false
 | _=>false
theorem wrap_wrap (k:IntKind) (n:Int):k.wrap (k.wrap n)=k.wrap n:=by
 unfold IntKind.wrap IntKind.bits IntKind.signed
 cases k<;>simp<;>(try split)<;>(try split)<;>omega
theorem adg (k:IntKind) (n:Int) (m:Nat) (h:k.wrap n=n):k.wrap (n.fdiv (2^m))=n.fdiv (2^m):=by
 rw[Int.fdiv_eq_ediv_of_nonneg _ (Int.pow_nonneg (by decide))]
 have hp:(0:Int)<2^m:=Int.pow_pos (by decide)
 generalize (2:Int)^m=p at hp
 have h1:0≤n→0≤n/p∧n/p≤n:=fun hn=>⟨Int.ediv_nonneg hn (by omega),Int.ediv_le_self _ hn⟩
 have h2:n<0→n≤n/p∧n/p<0:=fun hn=>⟨by
  have h3:=Int.mul_ediv_add_emod n p
  have h4:=Int.emod_nonneg n (show p≠0 by omega)
  have h5:=Int.emod_lt_of_pos n hp
  have:n/p<0:=Int.ediv_neg_of_neg_of_pos hn hp
  have:p*(n/p)≤1*(n/p):=Int.mul_le_mul_of_nonpos_right (by omega) (by omega)
  apply Int.le_of_lt_add_one
  have h6:n<p*(n/p)+p:=by omega
  have h7:p*(n/p)+p≤(n/p)+1:=by
   have:p*(n/p+1)≤1*(n/p+1):=Int.mul_le_mul_of_nonpos_right (by omega) (by omega)
   rw[Int.mul_add,Int.mul_one] at this;omega
  omega,Int.ediv_neg_of_neg_of_pos hn hp⟩
 unfold IntKind.wrap IntKind.bits IntKind.signed at *
 cases k<;>simp at h ⊢ <;> (rcases Int.lt_or_le n 0 with hn|hn)<;>first
  | (have:=h2 hn;split at h<;>(try split)<;>omega)
  | (have:=h1 hn;split at h<;>(try split)<;>omega)
  | (have:=h2 hn;omega)
  | (have:=h1 hn;omega)
theorem adh (k:IntKind) (n m:Int) (h:k.wrap n=n):k.wrap (n.tmod m)=n.tmod m:=by
 have h1:0≤n→0≤n.tmod m∧n.tmod m≤n:=fun hn=>by
  obtain⟨a,rfl⟩:=Int.eq_ofNat_of_zero_le hn
  have:(a:Int).tmod m=((a%m.natAbs:Nat):Int):=by
   rcases Int.natAbs_eq m with e|e
   ·rw[e];simp only[Int.natAbs_natCast];rfl
   ·rw[e];simp only[Int.natAbs_neg,Int.natAbs_natCast,Int.tmod_neg];rfl
  rw[this]
  have:=Nat.mod_le a m.natAbs
  omega
 have h2:n<0→n≤n.tmod m∧n.tmod m≤0:=fun hn=>by
  obtain⟨a,ha⟩:=Int.eq_ofNat_of_zero_le (show 0 ≤ -n by omega)
  have hn2:n = -(a:Int):=by omega
  rw[hn2,Int.neg_tmod]
  have:(a:Int).tmod m=((a%m.natAbs:Nat):Int):=by
   rcases Int.natAbs_eq m with e|e
   ·rw[e];simp only[Int.natAbs_natCast];rfl
   ·rw[e];simp only[Int.natAbs_neg,Int.natAbs_natCast,Int.tmod_neg];rfl
  rw[this]
  have:=Nat.mod_le a m.natAbs
  omega
 generalize n.tmod m=r at *
 unfold IntKind.wrap IntKind.bits IntKind.signed at *
 cases k<;>simp at h ⊢ <;> (rcases Int.lt_or_le n 0 with hn|hn)<;>first
  | (have:=h2 hn;split at h<;>(try split)<;>omega)
  | (have:=h1 hn;split at h<;>(try split)<;>omega)
  | (have:=h2 hn;omega)
  | (have:=h1 hn;omega)
theorem X.inK_ok {k:IntKind} (s:rM):∀ {x:X},x.inK k=true→k.wrap (x.den s)=x.den s
 | .lit n,h=>by
  have h':Pt k n=true:=h
  unfold Pt at h'
  rw[El,uw,beq_iff_eq] at h';exact h'
 | .var (.int k') i,h=>UJ h _
 | .var .bool i,h=>by cases h
 | .var .nat i,h=>by cases h
 | .dlen a,h=>by cases h
 | .var .bit i,h=>by
  have:=xC (show vQ k .u64=true from h);subst this
  simp only[X.den,VK.norm];cases (s i != 0)<;>rfl
 | .bin op k' a b,h=>by
  cases op<;>simp only[X.inK] at h<;>first
   | cases h
   | (have:=xC h;subst this;simp only[X.den,rY,zu];exact wrap_wrap _ _)
   | (simp only[X.den,rY];exact adg _ _ _ (X.inK_ok s h))
   | (simp only[X.den,rY];exact adh _ _ _ (X.inK_ok s h))
 | .conv k' a,h=>by have:=xC h;subst this;exact wrap_wrap _ _
 | .com k' a,h=>by have:=xC h;subst this;exact wrap_wrap _ _
 | .not a,h=>by cases h
 | .and a b,h=>by cases h
 | .beq a b,h=>by cases h
 | .min a b,h=>by
  simp only[X.inK] at h
  split at h
  ·rename_i h1
   simp only[X.den];split
   ·exact X.inK_ok s h
   ·exact X.inK_ok s h1
  ·cases h
 | .max a b,h=>by
  simp only[X.inK] at h
  split at h
  ·rename_i h1
   simp only[X.den];split
   ·exact X.inK_ok s h
   ·exact X.inK_ok s h1
  ·cases h
 | .ite c a b,h=>by
  simp only[X.inK] at h
  split at h
  ·rename_i h1
   simp only[X.den];split
   ·exact X.inK_ok s h
   ·exact X.inK_ok s h1
  ·cases h
def X.isBit:X→Bool
 | .lit n=>match uI n (.ofNat 0) with|true=>true|false=>uI n (.ofNat 1)
 | .var .bit _=>true
 | .ite _ a b=>match X.isBit a with|true=>X.isBit b|false=>false
 | _=>false
theorem X.isBit_ok (s:rM):∀ {x:X},x.isBit=true→x.den s=sF (x.den s != 0)
 | .lit n,h=>by
  simp only[X.isBit,El] at h
  split at h
  ·rename_i h1;rw[beq_iff_eq] at h1;subst h1;rfl
  ·rw[beq_iff_eq] at h;subst h;rfl
 | .var .bit i,_=>by simp only[X.den,VK.norm];cases (s i != 0)<;>rfl
 | .var (.int _) i,h=>by simp[X.isBit] at h
 | .var .bool i,h=>by simp[X.isBit] at h
 | .var .nat i,h=>by simp[X.isBit] at h
 | .dlen a,h=>by simp[X.isBit] at h
 | .ite c a b,h=>by
  simp only[X.isBit] at h
  split at h
  ·rename_i h1
   simp only[X.den];split
   ·exact X.isBit_ok s h
   ·exact X.isBit_ok s h1
  ·cases h
 | .bin _ _ _ _,h=>by simp[X.isBit] at h
 | .conv _ _,h=>by simp[X.isBit] at h
 | .com _ _,h=>by simp[X.isBit] at h
 | .not _,h=>by simp[X.isBit] at h
 | .and _ _,h=>by simp[X.isBit] at h
 | .beq _ _,h=>by simp[X.isBit] at h
 | .min _ _,h=>by simp[X.isBit] at h
 | .max _ _,h=>by simp[X.isBit] at h
inductive ru (α:Type) where
 | leaf (a:α)
 | ite (c:X) (a b:ru α)
 | call (f:Nat) (args:List X) (base n:Nat) (t:ru α)
 | stuck (why:String)
abbrev uM:=Nat→List Int→List Int
def vR (s:rM) (base:Nat):Nat→List Int
 | 0=>[]
 | n+1=>s base::vR s (base+1) n
theorem BP (s:rM):∀ (n b:Nat),(vR s b n).length=n
 | 0,_=>rfl
 | n+1,b=>by rw[vR,List.length_cons,BP s n]
def Eo (Φ:uM) (s:rM) (f:Nat) (args:List X) (base n:Nat):Prop:=vR s base n=Φ f (args.map (X.den s))
instance (Φ:uM) (s:rM) (f:Nat) (args:List X) (base n:Nat):Decidable (Eo Φ s f args base n):=inferInstanceAs (Decidable (_=_))
def ru.path {α:Type} (Φ:uM) (s:rM):ru α→Option α
 | .leaf a=>some a
 | .ite c a b=>if c.den s=0 then b.path Φ s else a.path Φ s
 | .call f args base n t=>if Eo Φ s f args base n then t.path Φ s else none
 | .stuck _=>none
def ru.bind {α β:Type} : ru α→(α→ru β)→ru β
 | .leaf a,f=>f a
 | .ite c a b,f=>.ite c (a.bind f) (b.bind f)
 | .call g args base n t,f=>.call g args base n (t.bind f)
 | .stuck w,_=>.stuck w
theorem ru.path_bind {α β:Type} (Φ:uM) (s:rM) (f:α→ru β):∀ t:ru α,(t.bind f).path Φ s=(t.path Φ s).bind fun a=>(f a).path Φ s
 | .leaf a=>rfl
 | .ite c a b=>by
  simp only[ru.bind,ru.path]
  split
  ·exact ru.path_bind Φ s f b
  ·exact ru.path_bind Φ s f a
 | .call g args base n t=>by
  simp only[ru.bind,ru.path]
  split
  ·exact ru.path_bind Φ s f t
  ·rfl
 | .stuck w=>rfl
theorem ru.path_bind_some {α β:Type} {Φ:uM} {s:rM} {f:α→ru β} {t:ru α} {b:β} (h:(t.bind f).path Φ s=some b):∃ a,t.path Φ s=some a∧(f a).path Φ s=some b:=by
 rw[ru.path_bind] at h
 cases ht:t.path Φ s with
 | none=>rw[ht] at h;cases h
 | some a=>rw[ht] at h;exact⟨a,rfl,h⟩
def Gr {α:Type} (c:X) (a b:ru α):ru α:=match c with
 | .lit n=>match sV n with|true=>a|false=>b
 | c=>.ite c a b
theorem Pv {α:Type} (Φ:uM) (s:rM) (c:X) (a b:ru α):(Gr c a b).path Φ s=if c.den s=0 then b.path Φ s else a.path Φ s:=by
 unfold Gr;split
 ·rename_i n
  show _=if n=0 then b.path Φ s else a.path Φ s
  split
  ·rename_i h;rw[uS,bne_iff_ne] at h;rw[if_neg h]
  ·rename_i h;rw[uS,bne_eq_false_iff_eq] at h;rw[if_pos h]
 ·rfl
open Go.RowKit
theorem tq {a b:Nat} : Nat.beq a b=true↔a=b:=by rw[Nat.beq_eq]
def Pw:VK→VK→Bool
 | .int k,.int k'=>vQ k k'
 | .bool,.bool=>true
 | .bit,.bit=>true
 | .nat,.nat=>true
 | _,_=>false
def JU:BinOp→Nat
 | .add=>0 | .sub=>1 | .mul=>2 | .quo=>3 | .rem=>4 | .and=>5 | .or=>6 | .xor=>7 | .shl=>8 | .shr=>9 | .andNot=>10
 | .eql=>11 | .neq=>12 | .lss=>13 | .leq=>14 | .gtr=>15 | .geq=>16
def tu (a:Bool) (b:Bool):Bool:=match a with|true=>b|false=>false
def vN:X→X→Bool
 | .lit m,.lit n=>uI m n
 | .var k i,.var k' j=>tu (Nat.beq i j) (Pw k k')
 | .bin o k a b,.bin o' k' a' b'=>tu (Nat.beq (JU o) (JU o')) (tu (vQ k k') (tu (vN a a') (vN b b')))
 | .conv k a,.conv k' a'=>tu (vQ k k') (vN a a')
 | .com k a,.com k' a'=>tu (vQ k k') (vN a a')
 | .not a,.not a'=>vN a a'
 | .and a b,.and a' b'=>tu (vN a a') (vN b b')
 | .beq a b,.beq a' b'=>tu (vN a a') (vN b b')
 | .min a b,.min a' b'=>tu (vN a a') (vN b b')
 | .max a b,.max a' b'=>tu (vN a a') (vN b b')
 | .ite c a b,.ite c' a' b'=>tu (vN c c') (tu (vN a a') (vN b b'))
 | .dlen a,.dlen a'=>vN a a'
 | _,_=>false
abbrev Facts:=List (X×Bool)
def Db:Facts→X→Option Bool
 | [],_=>none
 | x::l,c=>match vN x.1 c with|true=>some x.2|false=>Db l c
def Gs (fc:Facts) (c:X) (b:Bool):Facts:=match c with
 | .not a=>(a,zM b)::fc
 | c=>(c,b)::fc
def tF (s:rM) (fc:Facts):Prop:=∀ x∈fc,(x.1.den s != 0)=x.2
theorem adi {a b:VK} (h:Pw a b=true):a=b:=by
 cases a<;>cases b<;>first|rfl|(simp only[Pw] at h;rw[xC h])|cases h
theorem adj {a b:BinOp} (h:JU a=JU b):a=b:=by cases a<;>cases b<;>first|rfl|(simp[JU] at h)
theorem sM {a b:Bool} (h:tu a b=true):a=true∧b=true:=by
 cases a with
 | true=>exact⟨rfl,h⟩
 | false=>cases h
theorem wF:∀ {a b:X},vN a b=true→a=b
 | .lit m,.lit n,h=>by simp only[vN,El,beq_iff_eq] at h;rw[h]
 | .var k i,.var k' j,h=>by have h:=sM h;rw[tq.1 h.1,adi h.2]
 | .bin o k a b,.bin o' k' a' b',h=>by
  have h:=sM h;have h2:=sM h.2;have h3:=sM h2.2
  rw[adj (tq.1 h.1),xC h2.1,wF h3.1,wF h3.2]
 | .conv k a,.conv k' a',h=>by have h:=sM h;rw[xC h.1,wF h.2]
 | .com k a,.com k' a',h=>by have h:=sM h;rw[xC h.1,wF h.2]
 | .not a,.not a',h=>by rw[wF (a:=a) (b:=a') h]
 | .and a b,.and a' b',h=>by have h:=sM h;rw[wF h.1,wF h.2]
 | .beq a b,.beq a' b',h=>by have h:=sM h;rw[wF h.1,wF h.2]
 | .min a b,.min a' b',h=>by have h:=sM h;rw[wF h.1,wF h.2]
 | .max a b,.max a' b',h=>by have h:=sM h;rw[wF h.1,wF h.2]
 | .ite c a b,.ite c' a' b',h=>by have h:=sM h;have h2:=sM h.2;rw[wF h.1,wF h2.1,wF h2.2]
 | .dlen a,.dlen a',h=>by rw[wF (a:=a) (b:=a') h]
theorem zN {s:rM} : ∀ {fc:Facts} {c:X} {b:Bool},tF s fc→Db fc c=some b→(c.den s != 0)=b
 | [],c,b,_,h=>by cases h
 | x::l,c,b,hf,h=>by
  simp only[Db] at h
  split at h
  ·rename_i he
   cases h
   rw[← wF he];exact hf x List.mem_cons_self
  ·exact zN (fun y hy=>hf y (List.mem_cons_of_mem _ hy)) h
theorem Px {s:rM} {fc:Facts} {c:X} {b:Bool} (hf:tF s fc) (h:(c.den s != 0)=b):tF s (Gs fc c b):=by
 unfold Gs
 split
 ·rename_i a
  rw[X.den,uF] at h
  intro x hx
  rcases List.mem_cons.1 hx with rfl|hx
  ·simp only[yY,← h,Bool.not_not]
  ·exact hf x hx
 ·intro x hx
  rcases List.mem_cons.1 hx with rfl|hx
  ·exact h
  ·exact hf x hx
abbrev xP:=Int×Int
def xQ:IntKind→Int
 | .i8 => -128 | .i16 => -32768 | .i32 => -2147483648 | .i64 => -9223372036854775808|_=>0
def xR:IntKind→Int
 | .i8=>127 | .i16=>32767 | .i32=>2147483647 | .i64=>9223372036854775807
 | .u8=>255 | .u16=>65535 | .u32=>4294967295 | .u64=>18446744073709551615
theorem Bc (k:IntKind) (n:Int):xQ k≤k.wrap n∧k.wrap n≤xR k:=by
 unfold IntKind.wrap IntKind.bits IntKind.signed xQ xR
 cases k<;>simp<;>(try split)<;>(constructor<;>omega)
def zO (a b:Int):Bool:=zM (wE b a)
theorem Gt {a b:Int} (h:zO a b=true):a≤b:=by
 unfold zO at h;rw[yY,yX] at h;simpa using h
theorem Py {a b:Int} (h:wE a b=true):a<b:=by rw[yX] at h;simpa using h
theorem Dc {a b:Int} (h:uI a b=true):a=b:=by rw[El] at h;simpa using h
def zP (a b:Int):Int:=match zO a b with|true=>a|false=>b
def zQ (a b:Int):Int:=match zO a b with|true=>b|false=>a
theorem Pz {a b n:Int} (h1:n≤a) (h2:n≤b):n≤zP a b:=by unfold zP;split<;>assumption
theorem PD {a b n:Int} (h1:a≤n) (h2:b≤n):zQ a b≤n:=by unfold zQ;split<;>assumption
theorem UN (a b:Int):zP a b≤a∧zP a b≤b:=by
 unfold zP;split
 ·rename_i h;exact⟨Int.le_refl _,Gt h⟩
 ·rename_i h;unfold zO at h;rw[yY,yX] at h;simp at h;omega
theorem UO (a b:Int):a≤zQ a b∧b≤zQ a b:=by
 unfold zQ;split
 ·rename_i h;exact⟨Gt h,Int.le_refl _⟩
 ·rename_i h;unfold zO at h;rw[yY,yX] at h;simp at h;omega
def wX (r:xP) (n:Int):Prop:=r.1≤n∧n≤r.2
def JV (k:IntKind) (lo hi:Int):xP:=match tu (zO (xQ k) lo) (zO hi (xR k)) with|true=>(lo,hi)|false=>(xQ k,xR k)
theorem Mr {k:IntKind} {n:Int} (h1:xQ k≤n) (h2:n≤xR k):k.wrap n=n:=by
 unfold IntKind.wrap IntKind.bits IntKind.signed xQ xR at *
 cases k<;>simp at h1 h2 ⊢ <;> (try split)<;>omega
theorem PE {k:IntKind} {lo hi n:Int} (h:wX (lo,hi) n):wX (JV k lo hi) (k.wrap n):=by
 unfold JV
 split
 ·rename_i he
  have he:=sM he
  have h1:=Gt he.1;have h2:=Gt he.2
  rw[Mr (Int.le_trans h1 h.1) (Int.le_trans h.2 h2)];exact h
 ·exact Bc k n
def PG (op:BinOp) (c:Int) (b:Bool) (r:xP):xP:=match op,b with
 | .lss,true=>(r.1,zP r.2 (c-1))
 | .lss,false=>(zQ r.1 c,r.2)
 | .leq,true=>(r.1,zP r.2 c)
 | .leq,false=>(zQ r.1 (c+1),r.2)
 | .gtr,true=>(zQ r.1 (c+1),r.2)
 | .gtr,false=>(r.1,zP r.2 c)
 | .geq,true=>(zQ r.1 c,r.2)
 | .geq,false=>(r.1,zP r.2 (c-1))
 | .eql,true=>(c,c)
 | .neq,false=>(c,c)
 | .eql,false=>(match uI r.1 c with|true=>c+1|false=>r.1,match uI r.2 c with|true=>c-1|false=>r.2)
 | .neq,true=>(match uI r.1 c with|true=>c+1|false=>r.1,match uI r.2 c with|true=>c-1|false=>r.2)
 | _,_=>r
theorem adk {op:BinOp} {k:IntKind} {c n:Int} {b:Bool} {r:xP} (h:wX r n) (hf:(rY op k n c != 0)=b):wX (PG op c b r) n:=by
 have ne:n≠c→wX (match uI r.1 c with|true=>c+1|false=>r.1,match uI r.2 c with|true=>c-1|false=>r.2) n:=fun hn=>by
  obtain⟨h1,h2⟩:=h
  constructor
  ·simp only;split
   ·rename_i he;have:=Dc he;omega
   ·exact h1
  ·simp only;split
   ·rename_i he;have:=Dc he;omega
   ·exact h2
 cases op<;>simp only[rY,uF] at hf<;>cases b<;>simp only[PG]<;>first
  | exact h
  | (simp at hf;exact ne hf)
  | (simp at hf;subst hf;exact⟨Int.le_refl _,Int.le_refl _⟩)
  | (simp at hf;exact⟨h.1,Pz h.2 (by omega)⟩)
  | (simp at hf;exact⟨PD h.1 (by omega),h.2⟩)
def PH (x:X) (f:X×Bool) (r:xP):xP:=match f.1 with
 | .bin op _ a (.lit c)=>match vN a x with|true=>PG op c f.2 r|false=>r
 | _=>r
def Gu (x:X):Facts→xP→xP
 | [],r=>r
 | f::fc,r=>PH x f (Gu x fc r)
theorem PI {s:rM} {x:X} : ∀ {fc:Facts} {r:xP},tF s fc→wX r (x.den s)→wX (Gu x fc r) (x.den s)
 | [],r,_,h=>h
 | f::fc,r,hf,h=>by
  have ih:wX (Gu x fc r) (x.den s):=PI (fun y hy=>hf y (List.mem_cons_of_mem _ hy)) h
  show wX (PH x f (Gu x fc r)) _
  unfold PH
  split
  ·rename_i op k a c hc
   split
   ·rename_i he
    have:=wF he;subst this
    have hf0:=hf f List.mem_cons_self
    rw[hc] at hf0
    exact adk ih hf0
   ·exact ih
  ·exact ih
def yh (x:X) (fc:Facts) (r:xP):xP:=Gu x fc (Gu x fc r)
theorem yM {s:rM} {x:X} {fc:Facts} {r:xP} (hf:tF s fc) (h:wX r (x.den s)):wX (yh x fc r) (x.den s):=PI hf (PI hf h)
def wG (fc:Facts):X→Option xP
 | .lit n=>some (n,n)
 | .var k i=>match k with
  | .int k=>some (yh (.var (.int k) i) fc (xQ k,xR k))
  | .nat=>none
  | _=>some (yh (.var k i) fc (.ofNat 0,.ofNat 1))
 | .bin op k a b=>match op with
  | .add=>match wG fc a,wG fc b with
   | some x,some y=>some (yh (.bin .add k a b) fc (JV k (x.1+y.1) (x.2+y.2)))
   | _,_=>some (yh (.bin .add k a b) fc (xQ k,xR k))
  | .sub=>match wG fc a,wG fc b with
   | some x,some y=>some (yh (.bin .sub k a b) fc (JV k (x.1-y.2) (x.2-y.1)))
   | _,_=>some (yh (.bin .sub k a b) fc (xQ k,xR k))
  | .mul | .quo | .shl | .or | .xor | .andNot=>some (yh (.bin op k a b) fc (xQ k,xR k))
  | .and=>match b with
   | .lit (.ofNat n)=>match wE (.ofNat n) (.ofNat (BO k)) with
    | true=>some (yh (.bin .and k a (.lit (.ofNat n))) fc (.ofNat 0,.ofNat n))
    | false=>some (yh (.bin .and k a (.lit (.ofNat n))) fc (xQ k,xR k))
   | b=>some (yh (.bin .and k a b) fc (xQ k,xR k))
  | .shr=>match wG fc a,b with
   | some x,.lit (.ofNat n)=>some (yh (.bin .shr k a (.lit (.ofNat n))) fc (x.1.fdiv (2^Gq n k),x.2.fdiv (2^Gq n k)))
   | _,_=>none
  | .rem=>none
  | _=>some (.ofNat 0,.ofNat 1)
 | .conv k a=>match wG fc a with
  | some x=>some (yh (.conv k a) fc (JV k x.1 x.2))
  | none=>some (yh (.conv k a) fc (xQ k,xR k))
 | .com k _=>some (xQ k,xR k)
 | .not _=>some (.ofNat 0,.ofNat 1)
 | .and _ _=>some (.ofNat 0,.ofNat 1)
 | .beq _ _=>some (.ofNat 0,.ofNat 1)
 | .min a b=>match wG fc a,wG fc b with
  | some x,some y=>some (yh (.min a b) fc (zP x.1 y.1,zP x.2 y.2))
  | _,_=>none
 | .max a b=>match wG fc a,wG fc b with
  | some x,some y=>some (yh (.max a b) fc (zQ x.1 y.1,zQ x.2 y.2))
  | _,_=>none
 | .ite _ a b=>match wG fc a,wG fc b with
  | some x,some y=>some (zP x.1 y.1,zQ x.2 y.2)
  | _,_=>none
 | .dlen _=>none
theorem Gv (b:Bool):wX (.ofNat 0,.ofNat 1) (sF b):=by cases b<;>exact⟨by decide,by decide⟩
theorem adl {k:IntKind} {a:Int} {n:Nat} (h:n<BO k):wX (.ofNat 0,.ofNat n) (zu .and k a (.ofNat n)):=by
 have h0:fold .and k a (.ofNat n)=zu .and k a (.ofNat n):=Em .and k a (.ofNat n)
 rw[← h0]
 simp only[fold,uw]
 have hm:Nat.land (um k a) (um k (.ofNat n))≤n:=by
  refine Nat.le_trans (Nat.and_le_right (n:=um k a) (m:=um k (.ofNat n))) ?_
  exact Nat.mod_le _ _
 have hk:(BO k:Int)≤xR k+1:=by unfold xR BO;cases k<;>decide
 have hl:xQ k≤0:=by unfold xQ;cases k<;>decide
 rw[Mr (by have:(0:Int)≤Int.ofNat (Nat.land (um k a) (um k (.ofNat n))):=Int.natCast_nonneg _;omega) (by
  have:Int.ofNat (Nat.land (um k a) (um k (.ofNat n)))≤(n:Int):=Int.ofNat_le.2 hm
  omega)]
 exact⟨Int.natCast_nonneg _,Int.ofNat_le.2 hm⟩
theorem UQ {a b:Int} (m:Nat) (h:a≤b):a.fdiv (2^m)≤b.fdiv (2^m):=by
 rw[Int.fdiv_eq_ediv_of_nonneg _ (Int.pow_nonneg (by decide)),Int.fdiv_eq_ediv_of_nonneg _ (Int.pow_nonneg (by decide))]
 exact Int.ediv_le_ediv (Int.pow_pos (by decide)) h
theorem yZ {s:rM} {fc:Facts} (hf:tF s fc):∀ {x:X} {r:xP},wG fc x=some r→wX r (x.den s)
 | .lit n,r,h=>by cases h;exact⟨Int.le_refl _,Int.le_refl _⟩
 | .var k i,r,h=>by
  simp only[wG] at h
  split at h
  ·cases h;exact yM hf (Bc _ _)
  ·cases h
  ·rename_i hk hk2
   cases h
   refine yM hf ?_
   cases k with
   | int k=>exact absurd rfl (hk k)
   | nat=>exact absurd rfl hk2
   | bool=>exact Gv _
   | bit=>exact Gv _
 | .dlen a,r,h=>by cases h
 | .bin op k a b,r,h=>by
  have kr:∀ {op'},op' = .add∨op' = .sub∨op' = .mul∨op' = .quo∨op' = .shl∨op' = .and∨op' = .or∨op' = .xor∨op' = .andNot→wX (xQ k,xR k) ((X.bin op' k a b).den s):=by
   rintro op' (rfl|rfl|rfl|rfl|rfl|rfl|rfl|rfl|rfl)<;>exact Bc _ _
  cases op<;>simp only[wG] at h
  case add =>
   split at h
   ·rename_i x y hx hy
    cases h
    have h1:=yZ hf hx;have h2:=yZ hf hy
    exact yM hf (PE ⟨Int.add_le_add h1.1 h2.1,Int.add_le_add h1.2 h2.2⟩)
   ·cases h;exact yM hf (kr (by simp))
  case sub =>
   split at h
   ·rename_i x y hx hy
    cases h
    have h1:=yZ hf hx;have h2:=yZ hf hy
    exact yM hf (PE ⟨Int.sub_le_sub h1.1 h2.2,Int.sub_le_sub h1.2 h2.1⟩)
   ·cases h;exact yM hf (kr (by simp))
  case and =>
   split at h
   ·rename_i n
    split at h
    ·rename_i hn
     cases h
     exact yM hf (adl (by have:=Py hn;simpa using this))
    ·cases h;exact yM hf (Bc _ _)
   ·cases h;exact yM hf (Bc _ _)
  case shr =>
   split at h
   ·rename_i x n hx
    cases h
    have h1:=yZ hf hx
    refine yM hf ?_
    rw[Pn]
    exact⟨UQ _ h1.1,UQ _ h1.2⟩
   ·cases h
  case rem=>cases h
  all_goals first
   | (cases h;exact yM hf (Bc _ _))
   | (cases h;exact Gv _)
 | .conv k a,r,h=>by
  simp only[wG] at h
  split at h
  ·rename_i x hx
   cases h
   exact yM hf (PE (yZ hf hx))
  ·cases h;exact yM hf (Bc _ _)
 | .com k a,r,h=>by cases h;exact Bc _ _
 | .not a,r,h=>by cases h;exact Gv _
 | .and a b,r,h=>by cases h;exact Gv _
 | .beq a b,r,h=>by cases h;exact Gv _
 | .min a b,r,h=>by
  simp only[wG] at h
  split at h
  ·rename_i x y hx hy
   cases h
   have h1:=yZ hf hx;have h2:=yZ hf hy
   have h3:=UN x.1 y.1
   refine yM hf ?_
   simp only[X.den]
   split
   ·rename_i hlt;exact⟨Int.le_trans h3.2 h2.1,Pz (Int.le_trans (Int.le_of_lt hlt) h1.2) h2.2⟩
   ·rename_i hlt;exact⟨Int.le_trans h3.1 h1.1,Pz h1.2 (Int.le_trans (Int.not_lt.1 hlt) h2.2)⟩
  ·cases h
 | .max a b,r,h=>by
  simp only[wG] at h
  split at h
  ·rename_i x y hx hy
   cases h
   have h1:=yZ hf hx;have h2:=yZ hf hy
   have h3:=UO x.2 y.2
   refine yM hf ?_
   simp only[X.den]
   split
   ·rename_i hlt;exact⟨PD (Int.le_trans h1.1 (Int.le_of_lt hlt)) h2.1,Int.le_trans h2.2 h3.2⟩
   ·rename_i hlt;exact⟨PD h1.1 (Int.le_trans h2.1 (Int.not_lt.1 hlt)),Int.le_trans h1.2 h3.1⟩
  ·cases h
 | .ite c a b,r,h=>by
  simp only[wG] at h
  split at h
  ·rename_i x y hx hy
   cases h
   have h1:=yZ hf hx;have h2:=yZ hf hy
   have h3:=UN x.1 y.1;have h4:=UO x.2 y.2
   simp only[X.den]
   split
   ·exact⟨Int.le_trans h3.2 h2.1,Int.le_trans h2.2 h4.2⟩
   ·exact⟨Int.le_trans h3.1 h1.1,Int.le_trans h1.2 h4.1⟩
  ·cases h
def PK (op:BinOp) (x y:xP):Option Bool:=match op with
 | .lss=>match wE x.2 y.1 with|true=>some true|false=>match zO y.2 x.1 with|true=>some false|false=>none
 | .leq=>match zO x.2 y.1 with|true=>some true|false=>match wE y.2 x.1 with|true=>some false|false=>none
 | .gtr=>match wE y.2 x.1 with|true=>some true|false=>match zO x.2 y.1 with|true=>some false|false=>none
 | .geq=>match zO y.2 x.1 with|true=>some true|false=>match wE x.2 y.1 with|true=>some false|false=>none
 | .eql=>match wE x.2 y.1 with
  | true=>some false
  | false=>match wE y.2 x.1 with
   | true=>some false
   | false=>match tu (uI x.1 x.2) (tu (uI y.1 y.2) (uI x.1 y.1)) with|true=>some true|false=>none
 | .neq=>match wE x.2 y.1 with
  | true=>some true
  | false=>match wE y.2 x.1 with
   | true=>some true
   | false=>match tu (uI x.1 x.2) (tu (uI y.1 y.2) (uI x.1 y.1)) with|true=>some false|false=>none
 | _=>none
theorem adm {op : BinOp} {k : IntKind} {x y : xP} {m n : Int} {b : Bool} (hx : wX x m) (hy : wX y n) (h : PK op x y = some b) : (rY op k m n != 0) = b := by
  obtain ⟨x1, x2⟩ := hx
  obtain ⟨y1, y2⟩ := hy
  cases op <;> simp only [PK] at h <;> try cases h
  all_goals
    simp only [rY, uF]
    split at h
    · rename_i he
      first
        | (have := Py he; cases h; simp; omega)
        | (have := Gt he; cases h; simp; omega)
    · split at h
      · rename_i he
        first
          | (have := Py he; cases h; simp; omega)
          | (have := Gt he; cases h; simp; omega)
      · first
          | (cases h; done)
          | (split at h
             · rename_i he
               have he := sM he; have he2 := sM he.2
               have e1 := Dc he.1; have e2 := Dc he2.1; have e3 := Dc he2.2
               cases h; simp; omega
             · cases h)
def xS (fc:Facts):X→Option Bool
 | .lit n=>some (sV n)
 | .bin op k a b=>match Db fc (.bin op k a b) with
  | some r=>some r
  | none=>match wG fc a,wG fc b with
   | some x,some y=>PK op x y
   | _,_=>none
 | .not a=>match xS fc a with|some b=>some (zM b)|none=>Db fc (.not a)
 | .and a b=>match xS fc a with
  | some true=>xS fc b
  | some false=>some false
  | none=>match xS fc b with|some false=>some false|_=>Db fc (.and a b)
 | .ite c a b=>match xS fc c with
  | some true=>xS fc a
  | some false=>xS fc b
  | none=>match xS fc a,xS fc b with
   | some true,some true=>some true
   | some false,some false=>some false
   | _,_=>Db fc (.ite c a b)
 | x=>Db fc x
theorem yj {s:rM} {fc:Facts} (hf:tF s fc):∀ {c:X} {b:Bool},xS fc c=some b→(c.den s != 0)=b
 | .lit n,b,h=>by cases h;rw[uS];rfl
 | .bin op k x y,b,h=>by
  simp only[xS] at h
  split at h
  ·rename_i r hr;cases h;exact zN hf hr
  ·split at h
   ·rename_i p q hp hq
    exact adm (yZ hf hp) (yZ hf hq) h
   ·cases h
 | .not a,b,h=>by
  simp only[xS] at h
  split at h
  ·rename_i q hq;cases h;rw[X.den,uF,yj hf hq,yY]
  ·exact zN hf h
 | .and x y,b,h=>by
  simp only[xS] at h
  split at h
  ·rename_i hq
   rw[X.den,uF,yj hf hq,yj hf h];rfl
  ·rename_i hq;cases h
   rw[X.den,uF,yj hf hq];rfl
  ·split at h
   ·rename_i hq;cases h
    rw[X.den,uF,yj hf hq,Bool.and_false]
   ·exact zN hf h
 | .ite c x y,b,h=>by
  have den:∀ q,(x.den s != 0)=q→(y.den s != 0)=q→((X.ite c x y).den s != 0)=q:=fun q h1 h2=>by
   simp only[X.den];split<;>assumption
  simp only[xS] at h
  split at h
  ·rename_i hq
   have:=yj hf hq
   have hc:c.den s≠0:=by simpa using this
   simp only[X.den,if_neg hc];exact yj hf h
  ·rename_i hq
   have:=yj hf hq
   have hc:c.den s=0:=by simpa using this
   simp only[X.den,if_pos hc];exact yj hf h
  ·split at h
   ·rename_i h1 h2;cases h;exact den _ (yj hf h1) (yj hf h2)
   ·rename_i h1 h2;cases h;exact den _ (yj hf h1) (yj hf h2)
   ·exact zN hf h
 | .var k i,b,h=>zN hf h
 | .conv k a,b,h=>zN hf h
 | .com k a,b,h=>zN hf h
 | .beq x y,b,h=>zN hf h
 | .min x y,b,h=>zN hf h
 | .max x y,b,h=>zN hf h
 | .dlen x,b,h=>zN hf h
def Ai {β:Type} (fc:Facts) (c:X) (K:Bool→Facts→ru β):ru β:=match c with
 | .lit n=>K (sV n) fc
 | c=>match xS fc c with
  | some b=>K b fc
  | none=>.ite c (K true (Gs fc c true)) (K false (Gs fc c false))
theorem BQ {β:Type} {Φ:uM} {s:rM} {fc:Facts} {c:X} {K:Bool→Facts→ru β} {r:β} (hf:tF s fc) (h:(Ai fc c K).path Φ s=some r):∃ fc',tF s fc'∧(K (c.den s != 0) fc').path Φ s=some r:=by
 unfold Ai at h
 split at h
 ·rename_i n
  refine⟨fc,hf,?_⟩
  rw[uS] at h;exact h
 ·split at h
  ·rename_i b hb
   rw[yj hf hb];exact⟨fc,hf,h⟩
  ·simp only[ru.path] at h
   split at h
   ·rename_i hc
    have:(c.den s != 0)=false:=by rw[hc];rfl
    rw[this];exact⟨_,Px hf this,h⟩
   ·rename_i hc
    have:(c.den s != 0)=true:=by simpa using hc
    rw[this];exact⟨_,Px hf this,h⟩
open Go.RowKit
inductive SV where
 | v (x:Value)
 | int (k:IntKind) (x:X)
 | bool (x:X)
 | loc (b off:Nat)
 | hd (k:Nat)
 | ha (k off:Nat)
 | sl (b off len cap:Nat)
 | fn (f:Fn) (a c:List SV)
 | tup (l:List SV)
 | agg (l:List SV)
mutual
def SV.den (s:rM):SV→AV
 | .v x=>.v x
 | .int k x=>.v (.int k (x.den s))
 | .bool x=>.v (.bool (x.den s != 0))
 | .loc b off=>.loc b off
 | .hd k=>.hd k
 | .ha k off=>.ha k off
 | .sl b off len cap=>.sl b off len cap
 | .fn f a c=>xB f (SV.dens s a) (SV.dens s c)
 | .tup l=>xA (SV.dens s l)
 | .agg l=>wC (SV.dens s l)
def SV.dens (s:rM):List SV→List AV
 | []=>[]
 | x::l=>SV.den s x::SV.dens s l
end
theorem SV.dens_map (s:rM):∀ l:List SV,SV.dens s l=l.map (SV.den s)
 | []=>rfl
 | x::l=>by rw[SV.dens,SV.dens_map s l];rfl
def xD (x:Value):SV:=match x with
 | .int k n=>.int k (.lit n)
 | .bool b=>.bool (.lit (sF b))
 | x=>.v x
theorem PL (s:rM) (x:Value):(xD x).den s = .v x:=by
 cases x<;>first|rfl|(simp only[xD,SV.den,X.den,uF])
def BR (x:Value):SV:=match x with
 | .agg cs=>.agg (cs.toList.map xD)
 | x=>xD x
theorem zR (s:rM) (l:List Value):SV.dens s (l.map xD)=l.map .v:=by
 rw[SV.dens_map,List.map_map]
 apply List.map_congr_left;intro x _;exact PL s x
theorem De:∀ l:List Value,uh (l.map .v)=some l
 | []=>rfl
 | x::l=>by rw[List.map_cons,uh,De l]
theorem Ms (l:List Value):wC (l.map .v) = .v (.agg l.toArray):=by unfold wC;rw[De]
theorem Mt (l:List Value):xA (l.map .v) = .v (.tuple l.toArray):=by unfold xA;rw[De]
theorem Mv (s:rM) (x:Value):(BR x).den s = .v x:=by
 unfold BR;split
 ·simp only[SV.den,zR,Ms]
 ·exact PL s _
structure SO where
 c:List SV
 t:Option TypeId
def BS (n:Nat):List Value:=(UG n).map fun d=>.int .u32 (Int.ofNat d)
def BU (c:List SV):X:=match c with
 | [.int _ x]=>x
 | _=>.lit (.ofNat 0)
def UR:Value→Value×Value
 | .tuple xs=>match xs.toList with | [k,v]=>(k,v)|_=>(undef,undef)
 | _=>(undef,undef)
def PM:SV→Option (List (Value×Value))
 | .v (.tuple xs)=>some (xs.toList.map UR)
 | _=>none
def yN (c:List SV):Option (List (Value×Value)):=match c with
 | [x]=>PM x
 | _=>none
def tX (k:VK) (n:Int):Value:=match k with | .int k=>.int k (k.wrap n) | .bool=>.bool (n != 0) | .bit=>.int .u64 (sF (n != 0)) | .nat=>.int .u64 (Int.ofNat n.toNat)
def sW:List VK→List Int→List Value
 | k::ks,n::ns=>tX k n::sW ks ns
 | _,_=>[]
structure JW where
 n:X
 b:Nat
 ks:List VK
def Mw:SV→VK
 | .int k _=>.int k
 | _=>.bool
def Mx:SV→Bool
 | .v (.bool false)=>true
 | _=>false
def MB:SV→Option X
 | .int .i64 n=>some n
 | _=>none
def MC:SV→Option Nat
 | .v (.int .i64 (.ofNat b))=>some b
 | _=>none
def za (c:List SV):Option JW:=match c with
 | x::y::z::l=>match Mx x,MB y,MC z with
  | true,some n,some b=>some ⟨n,b,l.map Mw⟩
  | _,_,_=>none
 | _=>none
def xG (s:rM) (b:Nat) (ks:List VK):Nat→List Value
 | 0=>[]
 | n+1=>xG s b ks n++sW ks (vR s (b+n*ks.length) ks.length)
def SO.den (s:rM) (o:SO):AO:=match o.t with
 | some t=>.own (SV.dens s o.c) t
 | none=>match yN o.c with
  | some es=>.mp es
  | none=>match za o.c with
   | some r=>.rd (r.n.den s).toNat (xG s r.b r.ks (r.n.den s).toNat)
   | none=>.rd (Ah ((BU o.c).den s).toNat) (BS ((BU o.c).den s).toNat)
theorem SO.den_own (s:rM) {o:SO} {t:TypeId} (h:o.t=some t):o.den s = .own (SV.dens s o.c) t:=by unfold SO.den;rw[h]
theorem SO.den_nat (s:rM) {o:SO} (h:o.t=none) (hm:yN o.c=none) (ho:za o.c=none):o.den s = .rd (Ah ((BU o.c).den s).toNat) (BS ((BU o.c).den s).toNat):=by unfold SO.den;rw[h];simp only[];rw[hm];simp only[];rw[ho]
theorem SO.den_ora (s:rM) {o:SO} {r:JW} (h:o.t=none) (hm:yN o.c=none) (ho:za o.c=some r):o.den s = .rd (r.n.den s).toNat (xG s r.b r.ks (r.n.den s).toNat):=by unfold SO.den;rw[h];simp only[];rw[hm];simp only[];rw[ho]
theorem SO.den_map (s:rM) {o:SO} {es:List (Value×Value)} (h:o.t=none) (hm:yN o.c=some es):o.den s = .mp es:=by unfold SO.den;rw[h];simp only[];rw[hm]
abbrev SH:=List (Nat×SO)
def hget:SH→Nat→Option SO
 | [],_=>none
 | x::l,k=>match Nat.beq x.1 k with|true=>some x.2|false=>hget l k
def SH.den (s:rM) (H:SH):rG:=fun k=>(hget H k).map (SO.den s)
abbrev rZ:=List (Option SV)
def vo:rZ→Nat→Option SV
 | [],_=>none
 | x::l,0=>x
 | x::l,n+1=>vo l n
def rZ.den (s:rM) (T:rZ):r9:=fun t=>(vo T t).map (SV.den s)
def ME {β:Sort _} : rZ→Nat→SV→(rZ→β)→β
 | [],_,_,k=>k []
 | x::l,0,v,k=>k (some v::l)
 | x::l,n+1,v,k=>ME l n v fun l'=>k (x::l')
def Aj:rZ→Nat→SV→rZ
 | [],_,_=>[]
 | _::l,0,v=>some v::l
 | x::l,n+1,v=>x::Aj l n v
theorem UT {β:Sort _} : ∀ (T:rZ) (n:Nat) (v:SV) (k:rZ→β),ME T n v k=k (Aj T n v)
 | [],_,_,_=>rfl
 | x::l,0,_,_=>rfl
 | x::l,n+1,v,k=>by rw[ME,UT l n v];rfl
theorem UU:∀ (T:rZ) (n:Nat) (v:SV) (t:Nat),vo (Aj T n v) t=if t=n∧n<T.length then some v else vo T t
 | [],n,v,t=>by simp[Aj]
 | x::l,0,v,0=>by simp[Aj,vo]
 | x::l,0,v,t+1=>by simp[Aj,vo]
 | x::l,n+1,v,t=>by
  rw[Aj]
  cases t with
  | zero=>simp[vo]
  | succ t =>
   show vo (Aj l n v) t=_
   rw[UU l n v t];simp[vo]
theorem UV:∀ (T:rZ) (n:Nat) (v:SV),(Aj T n v).length=T.length
 | [],_,_=>rfl
 | x::l,0,_=>rfl
 | x::l,n+1,v=>by rw[Aj];simp[UV l n v]
theorem rZ.den_set (s:rM) (T:rZ) (n:Nat) (v:SV) (h:n<T.length):rZ.den s (Aj T n v)=(rZ.den s T).put (some n) (v.den s):=by
 funext t
 unfold rZ.den
 rw[UU]
 by_cases ht:t=n
 ·subst ht;rw[if_pos ⟨rfl,h⟩,r9.put_same];rfl
 ·rw[if_neg (fun e=>ht e.1),r9.put_ne _ _ _ ht]
def hset {β:Sort _} : SH→Nat→SO→(SH→β)→β
 | [],k,o,K=>K [(k,o)]
 | x::l,k,o,K=>match Nat.beq x.1 k with
  | true=>K ((k,o)::l)
  | false=>hset l k o fun l'=>K (x::l')
def Df:SH→Nat→SO→SH
 | [],k,o=>[(k,o)]
 | x::l,k,o=>match Nat.beq x.1 k with
  | true=>(k,o)::l
  | false=>x::Df l k o
theorem UW {β:Sort _} : ∀ (H:SH) (k:Nat) (o:SO) (K:SH→β),hset H k o K=K (Df H k o)
 | [],_,_,_=>rfl
 | x::l,k,o,K=>by
  simp only[hset,Df]
  cases Nat.beq x.1 k with
  | true=>rfl
  | false=>simp only[];rw[UW l k o]
theorem PN:∀ (H:SH) (k:Nat) (o:SO) (j:Nat),hget (Df H k o) j=if j=k then some o else hget H j
 | [],k,o,j=>by
  simp only[Df,hget]
  cases h:Nat.beq k j with
  | true=>rw[if_pos (tq.1 h).symm]
  | false=>rw[if_neg];intro e;subst e;simp at h
 | x::l,k,o,j=>by
  simp only[Df]
  cases h:Nat.beq x.1 k with
  | true =>
   have hx:=tq.1 h
   simp only[hget]
   cases h2:Nat.beq k j with
   | true=>rw[if_pos (tq.1 h2).symm]
   | false =>
    have:j≠k:=fun e=>by subst e;simp at h2
    rw[if_neg this,hx,h2]
  | false =>
   simp only[hget]
   cases h2:Nat.beq x.1 j with
   | true =>
    have hj:=tq.1 h2
    have:j≠k:=fun e=>by rw[← hj] at e;rw[e] at h;simp at h
    rw[if_neg this]
   | false=>simp only[];exact PN l k o j
theorem SH.den_set (s:rM) (H:SH) (k:Nat) (o:SO):SH.den s (Df H k o)=(SH.den s H).put k (o.den s):=by
 funext j
 unfold SH.den rG.put
 rw[PN]
 split<;>rfl
def Bd {β:Sort _} : SH→List (Nat×SO)→(SH→β)→β
 | H,[],K=>K H
 | H,x::l,K=>hset H x.1 x.2 fun H=>Bd H l K
def Ep:SH→List (Nat×SO)→SH
 | H,[]=>H
 | H,x::l=>Ep (Df H x.1 x.2) l
theorem UX {β:Sort _} : ∀ (l:List (Nat×SO)) (H:SH) (K:SH→β),Bd H l K=K (Ep H l)
 | [],_,_=>rfl
 | x::l,H,K=>by rw[Bd,UW,UX l,Ep]
def sO (s:rM) (ef:List (Nat×SO)):List (Nat×AO):=ef.map fun x=>(x.1,x.2.den s)
theorem UY (s:rM):∀ (l:List (Nat×SO)) (H:SH),SH.den s (Ep H l)=(SH.den s H).puts (sO s l)
 | [],_=>rfl
 | x::l,H=>by rw[Ep,UY s l,SH.den_set];rfl
def zS (T:rZ):Operand→Option SV
 | .tmp t=>vo T t
 | .const v=>some (BR v)
 | .global g=>some (.v (.pointer (some ⟨g,0,none⟩)))
 | .func f=>some (.v (.func (.func f) #[] #[]))
def RD (s:rM) (ρ:Operand→Option SV) (ρ':Operand→Option AV):Prop:=∀ x a,ρ x=some a→ρ' x=some (a.den s)
theorem Dg (s : rM) (T : rZ) : RD s (zS T) (uZ (rZ.den s T)) := by
  intro x a h
  cases x with
  | tmp t => have h : vo T t = some a := h
             simp [uZ, rZ.den, h]
  | const v => simp only [zS, Option.some.injEq] at h; subst h; rw [Mv]; rfl
  | global g => simp only [zS, Option.some.injEq] at h; subst h; rfl
  | func f => simp only [zS, Option.some.injEq] at h; subst h; rfl
def cellsS:SV→List SV
 | .v x=>x.cells.toList.map xD
 | .agg l=>l
 | x=>[x]
theorem JX (l:List AV):tT (wC l)=l:=by
 unfold wC
 cases h:uh l with
 | none=>rfl
 | some vs =>
  simp only[tT,Value.cells]
  induction l generalizing vs with
  | nil=>simp only[uh,Option.some.injEq] at h;subst h;rfl
  | cons x l ih =>
   cases x<;>simp only[uh] at h<;>try cases h
   rename_i x
   cases h2:uh l with
   | none=>rw[h2] at h;cases h
   | some ws =>
    rw[h2] at h
    simp only[Option.some.injEq] at h
    subst h
    simpa using ih ws h2
theorem adn (l:List AV):tT (xA l) = [xA l]:=by
 unfold xA;split<;>rfl
theorem ado (f:Fn) (a c:List AV):tT (xB f a c) = [xB f a c]:=by
 unfold xB;split<;>rfl
theorem Gx (s:rM) (a:SV):SV.dens s (cellsS a)=tT (a.den s):=by
 cases a with
 | v x=>simp only[cellsS,zR,SV.den,tT]
 | agg l=>simp only[cellsS,SV.den,JX]
 | tup l=>simp only[cellsS,SV.dens,SV.den,adn]
 | fn f a c=>simp only[cellsS,SV.dens,SV.den,ado]
 | int k x=>simp only[cellsS,SV.dens,SV.den,tT,Value.cells,List.map_cons,List.map_nil]
 | bool x=>simp only[cellsS,SV.dens,SV.den,tT,Value.cells,List.map_cons,List.map_nil]
 | _=>rfl
def tN:SV→Bool
 | .v (.agg _)=>false
 | .v (.tuple _)=>false
 | .agg _=>false
 | .tup _=>false
 | .ha _ _=>false
 | _=>true
theorem adp (f:Fn) (a c:List AV):Ea (xB f a c)=true:=by unfold xB;split<;>rfl
theorem adq {s:rM} {a:SV} (h:tN a=true):Ea (a.den s)=true:=by
 cases a with
 | v x=>cases x<;>first|rfl|cases h
 | fn f a c=>exact adp _ _ _
 | agg l=>cases h
 | tup l=>cases h
 | ha k o=>cases h
 | _=>rfl
def uj {β:Sort _} : Nat→List SV→(List SV→β)→β
 | 0,_,K=>K []
 | _+1,[],K=>K []
 | n+1,x::l,K=>uj n l fun l'=>K (x::l')
def BV (P:Program) (t:TypeId) (c:List SV) (off:Nat):Option SV :=
 match CO P t with
 | some true=>match tQ P t with
  | some sz=>match Nat.ble (off+sz) c.length,Nat.ble 1 sz with
   | true,true=>BN ((c.drop off).take sz) fun l=>some (.agg l)
   | _,_=>none
  | none=>none
 | some false=>c[off]?
 | none=>none
theorem zx (s:rM) (l:List SV):(SV.dens s l).length=l.length:=by rw[SV.dens_map];simp
theorem PO (s:rM) (l:List SV) (n:Nat):SV.dens s (l.take n)=(SV.dens s l).take n:=by rw[SV.dens_map,SV.dens_map,List.map_take]
theorem PP (s:rM) (l:List SV) (n:Nat):SV.dens s (l.drop n)=(SV.dens s l).drop n:=by rw[SV.dens_map,SV.dens_map,List.map_drop]
theorem Dh (s:rM) (a b:List SV):SV.dens s (a++b)=SV.dens s a++SV.dens s b:=by simp[SV.dens_map]
theorem UZ (s:rM) {l:List SV} {i:Nat} {x:SV} (h:l[i]? = some x):(SV.dens s l)[i]? = some (x.den s):=by rw[SV.dens_map];simp[h]
theorem Er {P:Program} {t:TypeId} {c:List SV} {off:Nat} {r:SV} (s:rM) (h:BV P t c off=some r):vL P t (SV.dens s c) off=some (r.den s):=by
 unfold BV at h
 unfold vL
 split at h
 ·rename_i ha
  rw[ha]
  simp only
  split at h
  ·rename_i sz hs
   rw[hs]
   simp only
   split at h
   ·rename_i h1 h2
    rw[Ej] at h
    cases h
    have h1:=Nat.le_of_ble_eq_true h1;have h2:=Nat.le_of_ble_eq_true h2
    rw[if_pos ⟨by rw[zx];exact h1,h2⟩]
    simp only[SV.den,PO,PP]
   ·cases h
  ·cases h
 ·rename_i ha
  rw[ha]
  exact UZ s h
 ·cases h
abbrev SR:=SV×List Nat×List (Nat×SO)
def one (a:SV):ru SR:=.leaf (a,[],[])
def Gy (w:String) (x:Option SV):ru SR:=match x with|some a=>.leaf (a,[],[])|none=>.stuck w
def PQ (P:Program) (G:rX) (t:TypeId) (H:SH) (a:SV):ru SR:=match a with
 | .loc b off=>match hget H b with
  | some o=>match o.t with
   | some _=>match BV P t o.c off with|some r=>.leaf (r,[b],[])|none=>.stuck "load: cells"
   | none=>.stuck "load: a number"
  | none=>.stuck "load: block"
 | .v (.pointer (some ⟨g,off,none⟩))=>match JB G g with
  | some c=>match BV P t (c.map xD) off with|some r=>one r|none=>.stuck "load: global cells"
  | none=>.stuck "load: global"
 | _=>.stuck "load"
def U0 (c:List SV) (off:Nat) (ys:List SV):List SV:=c.take off++ys++c.drop (off+ys.length)
def PR (P:Program) (t:TypeId) (H:SH) (x y:SV):ru SR:=match x with
 | .loc b off=>match hget H b with
  | some ⟨_,none⟩=>.stuck "store: a number"
  | some o=>match (cellsS y).all tN,tQ P t with
   | true,some n=>match Nat.beq n (cellsS y).length,Nat.ble (off+(cellsS y).length) o.c.length with
    | true,true=>BN (U0 o.c off (cellsS y)) fun c=>.leaf (.v undef,[b],[(b,⟨c,o.t⟩)])
    | _,_=>.stuck "store: size"
   | _,_=>.stuck "store: cells"
  | none=>.stuck "store: block"
 | _=>.stuck "store"
def PS (P:Program) (t:TypeId) (f:Nat) (x:SV):Option SV:=match x with
 | .agg l=>match AP P t f with
  | some (off,ft)=>BV P ft l off
  | none=>none
 | .v (.agg cs)=>match AP P t f with
  | some (off,ft)=>BV P ft (cs.toList.map xD) off
  | none=>none
 | _=>none
def PT (P:Program) (t:TypeId) (f:Nat) (x:SV):Option SV :=
 match AP P t f with
 | some (off,ft)=>match tQ P ft with
  | some (_+1)=>match x with
   | .loc b o=>uG (o+off) fun n=>some (.loc b n)
   | .v (.pointer (some ⟨g,o,none⟩))=>uG (o+off) fun n=>some (.v (.pointer (some ⟨g,n,none⟩)))
   | _=>none
  | _=>none
 | none=>none
def Gz {α:Type} (x:X) (f:Nat→ru α):Nat→Nat→Facts→ru α
 | 0,_,_=>.stuck "index"
 | m+1,j,fc=>match xS fc (.bin .eql .i64 x (.lit (.ofNat j))) with
  | some true=>f j
  | some false=>Gz x f m (Nat.succ j) fc
  | none=>.ite (.bin .eql .i64 x (.lit (.ofNat j))) (f j) (Gz x f m (Nat.succ j) (Gs fc (.bin .eql .i64 x (.lit (.ofNat j))) false))
def Es {α:Type} (fc:Facts) (x:X) (len:Nat) (f:Nat→ru α):ru α:=match x with
 | .lit (.ofNat j)=>match Nat.blt j len with|true=>f j|false=>.stuck "index: out of range"
 | .lit (.negSucc _)=>.stuck "index: below 0"
 | x=>Gz x f len 0 fc
theorem PU {α:Type} {Φ:uM} {s:rM} {x:X} {f:Nat→ru α} {a:α} : ∀ (m j:Nat) (fc:Facts),tF s fc→(Gz x f m j fc).path Φ s=some a→∃ i,j≤i∧i<j+m∧x.den s=i∧(f i).path Φ s=some a
 | 0,j,fc,hf,h=>by cases h
 | m+1,j,fc,hf,h=>by
  have eqj:((X.bin .eql .i64 x (.lit (.ofNat j))).den s != 0)=true→x.den s=(j:Int):=fun hq=>by
   simp only[X.den,rY,uF] at hq;simpa using hq
  have ite:(ru.ite (.bin .eql .i64 x (.lit (.ofNat j))) (f j) (Gz x f m (Nat.succ j) (Gs fc (.bin .eql .i64 x (.lit (.ofNat j))) false))).path Φ s=some a→∃ i,j≤i∧i<j+(m+1)∧x.den s=i∧(f i).path Φ s=some a:=fun h=>by
   simp only[ru.path] at h
   split at h
   ·rename_i hc
    obtain⟨i,h1,h2,h3,h4⟩:=PU m (j+1) _ (Px hf (by rw[hc];rfl)) h
    exact⟨i,by omega,by omega,h3,h4⟩
   ·rename_i hne
    exact⟨j,Nat.le_refl _,by omega,eqj (by simpa using hne),h⟩
  simp only[Gz] at h
  split at h
  ·rename_i hd;exact⟨j,Nat.le_refl _,by omega,eqj (yj hf hd),h⟩
  ·obtain⟨i,h1,h2,h3,h4⟩:=PU m (j+1) fc hf h
   exact⟨i,by omega,by omega,h3,h4⟩
  ·exact ite h
theorem JY {α:Type} {Φ:uM} {s:rM} {fc:Facts} (hf:tF s fc) {x:X} {len:Nat} {f:Nat→ru α} {a:α} (h:(Es fc x len f).path Φ s=some a):∃ i,i<len∧x.den s=(i:Int)∧(f i).path Φ s=some a:=by
 unfold Es at h
 split at h
 ·rename_i j
  split at h
  ·rename_i hb
   exact⟨j,by simpa [Nat.blt_eq] using hb,rfl,h⟩
  ·cases h
 ·cases h
 ·obtain⟨i,_,h2,h3,h4⟩:=PU _ _ _ hf h
  exact⟨i,by omega,h3,h4⟩
def PV (P:Program) (fc:Facts) (t:TypeId) (x i:SV):ru SR:=match i with
 | .int _ n=>match x with
  | .loc b o=>match yE P t with
   | some (len,el)=>match tQ P el with
    | some sz=>Es fc n len fun j=>uG (o+j*sz) fun q=>one (.loc b q)
    | none=>.stuck "indexAddr: size"
   | none=>.stuck "indexAddr: no array"
  | .v (.pointer (some ⟨g,o,none⟩))=>match yE P t with
   | some (len,el)=>match tQ P el with
    | some sz=>Es fc n len fun j=>uG (o+j*sz) fun q=>one (.v (.pointer (some ⟨g,q,none⟩)))
    | none=>.stuck "indexAddr: size"
   | none=>.stuck "indexAddr: no array"
  | .sl b o len _=>match AQ P t with
   | some el=>match tQ P el with
    | some sz=>Es fc n len fun j=>uG (o+j*sz) fun q=>one (.loc b q)
    | none=>.stuck "indexAddr: size"
   | none=>.stuck "indexAddr: no slice"
  | _=>.stuck "indexAddr"
 | _=>.stuck "indexAddr: index"
def PW (P:Program) (fc:Facts) (t:TypeId) (x i:SV):ru SR:=match i with
 | .int _ n=>match x with
  | .agg l=>match yE P t with
   | some (len,el)=>match tQ P el with
    | some sz=>Es fc n len fun j=>Gy "index: cells" (BV P el l (j*sz))
    | none=>.stuck "index: size"
   | none=>.stuck "index: no array"
  | .v (.agg cs)=>match yE P t with
   | some (len,el)=>match tQ P el with
    | some sz=>Es fc n len fun j=>Gy "index: cells" (BV P el (cs.toList.map xD) (j*sz))
    | none=>.stuck "index: size"
   | none=>.stuck "index: no array"
  | _=>.stuck "index"
 | _=>.stuck "index: index"
def PX (x:SV) (i:Nat):Option SV:=match x with
 | .v (.tuple vs)=>match vs.toList[i]? with|some v=>some (xD v)|none=>none
 | .tup l=>l[i]?
 | _=>none
def GA (place:Nat→Option (Nat×Nat)) (cells:List SV):List (Nat×SV)→Option (List SV)
 | []=>some cells
 | (i,x)::rest=>match place i with
  | none=>none
  | some (off,size)=>match Nat.beq (cellsS x).length size,Nat.ble (off+size) cells.length with
   | true,true=>BN (cells.take off++cellsS x++cells.drop (off+size)) fun c=>GA place c rest
   | _,_=>none
def MF (s:rM) (l:List (Nat×SV)):List (Nat×AV):=l.map fun x=>(x.1,x.2.den s)
theorem PY {place:Nat→Option (Nat×Nat)} (s:rM):∀ {ps:List (Nat×SV)} {cells c:List SV},GA place cells ps=some c→zL place (SV.dens s cells) (MF s ps)=some (SV.dens s c)
 | [],cells,c,h=>by simp only[GA,Option.some.injEq] at h;subst h;rfl
 | (i,x)::rest,cells,c,h=>by
  simp only[GA] at h
  simp only[MF,List.map_cons,zL]
  split at h
  ·cases h
  ·rename_i off size hp
   rw[hp]
   simp only
   split at h
   ·rename_i h1 h2
    rw[Ej] at h
    have h1:=tq.1 h1;have h2:=Nat.le_of_ble_eq_true h2
    rw[if_pos ⟨by rw[← Gx,zx];exact h1,by rw[zx];exact h2⟩]
    have:=PY s h
    rw[Dh,Dh,PO,PP,Gx] at this
    exact this
   ·cases h
def GD (ρ:Operand→Option SV):List (Nat×Operand)→Option (List (Nat×SV))
 | []=>some []
 | (i,x)::l=>match ρ x,GD ρ l with
  | some a,some r=>some ((i,a)::r)
  | _,_=>none
theorem PZ {s:rM} {ρ:Operand→Option SV} {ρ':Operand→Option AV} (hρ:RD s ρ ρ'):∀ {l:List (Nat×Operand)} {r:List (Nat×SV)},GD ρ l=some r→yF ρ' l=some (MF s r)
 | [],r,h=>by simp only[GD,Option.some.injEq] at h;subst h;rfl
 | (i,x)::l,r,h=>by
  simp only[GD] at h
  split at h
  ·rename_i a r' ha hr
   cases h
   rw[yF,hρ x a ha,PZ hρ hr];rfl
  ·cases h
def Et (ρ:Operand→Option SV):List Operand→Option (List SV)
 | []=>some []
 | x::l=>match ρ x,Et ρ l with
  | some a,some r=>some (a::r)
  | _,_=>none
theorem MG {s:rM} {ρ:Operand→Option SV} {ρ':Operand→Option AV} (hρ:RD s ρ ρ'):∀ {l:List Operand} {r:List SV},Et ρ l=some r→xL ρ' l=some (SV.dens s r)
 | [],r,h=>by simp only[Et,Option.some.injEq] at h;subst h;rfl
 | x::l,r,h=>by
  simp only[Et] at h
  split at h
  ·rename_i a r' ha hr
   cases h
   rw[xL,hρ x a ha,MG hρ hr];rfl
  ·cases h
abbrev GG:=TypeId→SV→SV→Option X
def MH (P:Program) (SE:GG) (E:tK):Prop:=∀ t x y r (s:rM),SE t x y=some r→∃ a b,x.den s = .v a∧y.den s = .v b∧wD P .eql t a b=none∧wD P .neq t a b=none∧E .eql t a b=some (.bool (r.den s != 0))∧E .neq t a b=some (.bool (!(r.den s != 0)))
def Di (fc:Facts) (w:String) (c:X) (t:ru SR):ru SR:=match xS fc c with
 | some true=>.stuck w
 | some false=>t
 | none=>Gr c (.stuck w) t
def P5 (fc:Facts) (op:BinOp) (k k':IntKind) (a b:X):ru SR:=match op with
 | .shl=>match X.inK k' b,k'.signed with
  | true,false=>uH (uD .shl k a b) fun x=>one (.int k x)
  | _,_=>Di fc "shift below 0" (uD .lss k' b (.lit (.ofNat 0))) (uH (uD .shl k a b) fun x=>one (.int k x))
 | .shr=>match X.inK k' b,k'.signed with
  | true,false=>uH (uD .shr k a b) fun x=>one (.int k x)
  | _,_=>Di fc "shift below 0" (uD .lss k' b (.lit (.ofNat 0))) (uH (uD .shr k a b) fun x=>one (.int k x))
 | .quo=>match vQ k k' with
  | true=>Di fc "by 0" (uD .eql k' b (.lit (.ofNat 0))) (uH (uD .quo k a b) fun x=>one (.int k x))
  | false=>.stuck "kinds"
 | .rem=>match vQ k k' with
  | true=>Di fc "by 0" (uD .eql k' b (.lit (.ofNat 0))) (uH (uD .rem k a b) fun x=>one (.int k x))
  | false=>.stuck "kinds"
 | .add | .sub | .mul | .and | .or | .xor | .andNot=>match vQ k k' with
  | true=>uH (uD op k a b) fun x=>one (.int k x)
  | false=>.stuck "kinds"
 | .eql | .neq | .lss | .leq | .gtr | .geq=>match vQ k k' with
  | true=>uH (uD op k a b) fun x=>one (.bool x)
  | false=>.stuck "kinds"
def P6 (P:Program) (SE:GG) (fc:Facts) (op:BinOp) (t:TypeId) (x y:SV):ru SR:=match x,y with
 | .int k a,.int k' b=>P5 fc op k k' a b
 | .bool a,.bool b=>match P.underlying t with
  | some .bool=>match op with
   | .eql=>uH (Mo a b) fun x=>one (.bool x)
   | .neq=>uH (mkNot (Mo a b)) fun x=>one (.bool x)
   | _=>.stuck "binOp: bools"
  | _=>.stuck "binOp: bool type"
 | x,y=>match op with
  | .eql=>match SE t x y with|some r=>uH r fun r=>one (.bool r)|none=>.stuck "eql"
  | .neq=>match SE t x y with|some r=>uH (mkNot r) fun r=>one (.bool r)|none=>.stuck "neq"
  | _=>.stuck "binOp"
def P7 (op:UnOp) (x:SV):ru SR:=match op,x with
 | .neg,.int k a=>uH (uD .sub k (.lit (.ofNat 0)) a) fun x=>one (.int k x)
 | .xor,.int k a=>uH (Mm k a) fun x=>one (.int k x)
 | .not,.bool a=>uH (mkNot a) fun x=>one (.bool x)
 | _,_=>.stuck "unOp"
def P8 (P:Program) (src dst:TypeId) (x:SV):ru SR:=match x with
 | .int _ a=>match FU P dst,P.underlying src with
  | some k,some _=>uH (Pp k a) fun x=>one (.int k x)
  | _,_=>.stuck "convert: type"
 | _=>.stuck "convert"
def P9 (x:SV):ru SR:=match x with
 | .loc b o=>one (.loc b o)
 | .v (.func (.func f) a c)=>one (.v (.func (.func f) a c))
 | .v (.pointer (some p))=>one (.v (.pointer (some p)))
 | .fn (.func f) a c=>one (.fn (.func f) a c)
 | _=>.stuck "nilCheck"
def sLen (P:Program) (t:TypeId) (H:SH) (x:SV):ru SR:=match P.underlying t with
 | some (.slice _)=>match x with
  | .hd k=>match hget H k with
   | some ⟨[.int _ x],none⟩=>.leaf (.int .i64 (.dlen x),[k],[])
   | some ⟨c,none⟩=>match yN c,za c with
    | none,some r=>uH (Mq r.n (.lit (.ofNat 0))) fun x=>.leaf (.int .i64 x,[k],[])
    | _,_=>.stuck "len: handle"
   | _=>.stuck "len: handle"
  | .sl _ _ n _=>one (.int .i64 (.lit (.ofNat n)))
  | .v (.slice _ n _)=>one (.int .i64 (.lit (.ofNat n)))
  | _=>.stuck "len: slice"
 | some .string=>match x with | .v (.string s)=>uG s.size fun n=>one (.int .i64 (.lit (.ofNat n)))|_=>.stuck "len: string"
 | some (.array n _)=>one (.int .i64 (.lit (.ofNat n)))
 | _=>.stuck "len"
def Qa (P:Program) (t:TypeId) (x:SV):ru SR:=match yE P t with
 | some (n,_)=>match x with
  | .sl b o len _=>match Nat.ble n len with|true=>one (.loc b o)|false=>.stuck "arrayAt: len"
  | _=>.stuck "arrayAt"
 | none=>.stuck "arrayAt: no array"
def Qb (P:Program) (t:TypeId) (k:Nat) (x y:SV):ru SR:=match x,y with
 | .int _ (.lit (.ofNat n)),.int _ (.lit (.ofNat m))=>match AQ P t with
  | some el=>match tQ P el,Ac P el,Oz P el with
   | some sz,some z,some b=>match Nat.ble n m,Nat.blt m 16777216,Nat.ble b 4096,Nat.beq (m*sz) 0 with
    | true,true,true,false=>BN ((BG z (m*sz)).map xD) fun c=>.leaf (.sl k 0 n m,[],[(k,⟨c,some el⟩)])
    | _,_,_,_=>.stuck "makeSlice: size"
   | _,_,_=>.stuck "makeSlice: type"
  | none=>.stuck "makeSlice: no slice"
 | _,_=>.stuck "makeSlice"
def Qc (P:Program) (t:TypeId) (x:SV):ru SR:=match yE P t with
 | some (n,el)=>match x,tQ P el with
  | .loc b o,some _=>one (.sl b o n n)
  | _,_=>.stuck "slice"
 | none=>.stuck "slice: no array"
def Qd (P:Program) (t:TypeId) (len:Nat) (k:Nat) (ps:List (Nat×SV)):ru SR:=match AQ P t with
 | some el=>match tQ P el,Ac P el with
  | some sz,some z=>match Nat.ble (len*sz) 16777216,Nat.beq (len*sz) 0 with
   | true,false=>match GA (fun i=>some (i*sz,sz)) ((BG z (len*sz)).map xD) ps with
    | some c=>.leaf (.sl k 0 len len,[],[(k,⟨c,some el⟩)])
    | none=>.stuck "buildSlice: parts"
   | _,_=>.stuck "buildSlice: size"
  | _,_=>.stuck "buildSlice: type"
 | none=>.stuck "buildSlice"
def o1 (ρ:Operand→Option SV) (x:Operand) (f:SV→ru SR):ru SR:=match ρ x with|some a=>f a|none=>.stuck "operand"
def o2 (ρ:Operand→Option SV) (x y:Operand) (f:SV→SV→ru SR):ru SR:=match ρ x with
 | some a=>match ρ y with|some b=>f a b|none=>.stuck "operand"
 | none=>.stuck "operand"
def Qe (P:Program) (G:rX) (SE:GG) (fc:Facts) (op:Op) (ρ:Operand→Option SV) (H:SH) (k:Nat):ru SR :=
 match op with
 | .move x=>o1 ρ x one
 | .assign x=>o1 ρ x one
 | .pick c a b=>o1 ρ c fun v=>match v with
  | .bool q=>Gr q (o1 ρ a one) (o1 ρ b one)
  | _=>.stuck "pick"
 | .alloc t=>match Ac P t with|some z=>BN (z.map xD) fun c=>.leaf (.loc k 0,[],[(k,⟨c,some t⟩)])|none=>.stuck "alloc"
 | .box t x=>o1 ρ x fun a=>BN (cellsS a) fun c=>.leaf (.loc k 0,[],[(k,⟨c,some t⟩)])
 | .build t ps=>match GD ρ ps.toList,Ac P t with
  | some l,some z=>match LX P t with
   | true=>match GA (JC P t) (z.map xD) l with|some c=>one (.agg c)|none=>.stuck "build: parts"
   | false=>.stuck "build: sizes"
  | _,_=>.stuck "build"
 | .buildSlice t len ps=>match GD ρ ps.toList with|some l=>Qd P t len k l|none=>.stuck "buildSlice: operands"
 | .load t x=>o1 ρ x fun a=>PQ P G t H a
 | .store t x y=>o2 ρ x y fun a b=>PR P t H a b
 | .nilCheck x=>o1 ρ x P9
 | .binOp op t x y _=>o2 ρ x y fun a b=>P6 P SE fc op t a b
 | .unOp op _ x=>o1 ρ x fun a=>P7 op a
 | .convert s d x=>o1 ρ x fun a=>P8 P s d a
 | .makeFunc f a c=>match Et ρ a.toList,Et ρ c.toList with|some x,some y=>one (.fn f x y)|_,_=>.stuck "makeFunc"
 | .fieldAddr t x f=>o1 ρ x fun a=>Gy "fieldAddr" (PT P t f a)
 | .field t x f=>o1 ρ x fun a=>Gy "field" (PS P t f a)
 | .indexAddr t x i=>o2 ρ x i fun a b=>PV P fc t a b
 | .index t x i=>o2 ρ x i fun a b=>PW P fc t a b
 | .extract x i=>o1 ρ x fun a=>Gy "extract" (PX a i)
 | .call { callee:=.builtin .len,args:=args,argTypes:=ts }=>match args.toList,ts.toList with
  | [x],[t]=>o1 ρ x fun a=>sLen P t H a
  | _,_=>.stuck "len: operands"
 | .call { callee:=.builtin .min,args:=args,argTypes:=_ }=>match args.toList with
  | [x,y]=>o2 ρ x y fun a b=>match a,b with
   | .int k a,.int _ b=>uH (Ps a b) fun x=>one (.int k x)
   | _,_=>.stuck "min"
  | _=>.stuck "min: operands"
 | .call { callee:=.builtin .max,args:=args,argTypes:=_ }=>match args.toList with
  | [x,y]=>o2 ρ x y fun a b=>match a,b with
   | .int k a,.int _ b=>uH (Mq a b) fun x=>one (.int k x)
   | _,_=>.stuck "max"
  | _=>.stuck "max: operands"
 | .sliceToArrayPointer t x=>o1 ρ x fun a=>Qa P t a
 | .makeSlice t x y=>o2 ρ x y fun a b=>Qb P t k a b
 | .slice t x none none none=>o1 ρ x fun a=>Qc P t a
 | _=>.stuck "no such operation"
open Go.RowKit
theorem SH.den_get {s:rM} {H:SH} {k:Nat} {o:SO} {t:TypeId} (h:hget H k=some o) (ht:o.t=some t):SH.den s H k=some (.own (SV.dens s o.c) t):=by unfold SH.den;rw[h,Option.map_some,SO.den_own s ht]
theorem SH.den_nat {s:rM} {H:SH} {k:Nat} {o:SO} (h:hget H k=some o) (ht:o.t=none) (hm:yN o.c=none) (ho:za o.c=none):SH.den s H k=some (.rd (Ah ((BU o.c).den s).toNat) (BS ((BU o.c).den s).toNat)):=by unfold SH.den;rw[h,Option.map_some,SO.den_nat s ht hm ho]
theorem SH.den_ora {s:rM} {H:SH} {k:Nat} {o:SO} {r:JW} (h:hget H k=some o) (ht:o.t=none) (hm:yN o.c=none) (ho:za o.c=some r):SH.den s H k=some (.rd (r.n.den s).toNat (xG s r.b r.ks (r.n.den s).toNat)):=by unfold SH.den;rw[h,Option.map_some,SO.den_ora s ht hm ho]
theorem SH.den_map {s:rM} {H:SH} {k:Nat} {o:SO} {es:List (Value×Value)} (h:hget H k=some o) (ht:o.t=none) (hm:yN o.c=some es):SH.den s H k=some (.mp es):=by unfold SH.den;rw[h,Option.map_some,SO.den_map s ht hm]
section
variable {P:Program} {G:rX} {SE:GG} {E:tK} {Φ:uM} {s:rM} {r:SR} {fc:Facts}
theorem zT {a:SV} (h:(one a).path Φ s=some r):r=(a,[],[]):=by cases h;rfl
theorem JZ {w:String} {x:Option SV} (h:(Gy w x).path Φ s=some r):∃ a,x=some a∧r=(a,[],[]):=by
 cases x with
 | none=>cases h
 | some a=>cases h;exact⟨a,rfl,rfl⟩
theorem yl {ρ:Operand→Option SV} {x:Operand} {f:SV→ru SR} (h:(o1 ρ x f).path Φ s=some r):∃ a,ρ x=some a∧(f a).path Φ s=some r:=by
 unfold o1 at h;split at h
 ·rename_i a ha;exact⟨a,ha,h⟩
 ·cases h
theorem Eu {ρ:Operand→Option SV} {x y:Operand} {f:SV→SV→ru SR} (h:(o2 ρ x y f).path Φ s=some r):∃ a b,ρ x=some a∧ρ y=some b∧(f a b).path Φ s=some r:=by
 unfold o2 at h;split at h
 ·rename_i a ha
  split at h
  ·rename_i b hb;exact⟨a,b,ha,hb,h⟩
  ·cases h
 ·cases h
theorem zy {x:X} {k:X→ru SR} (h:(uH x k).path Φ s=some r):(k x).path Φ s=some r:=by rwa [ac9] at h
theorem adr {t:TypeId} {H:SH} {a:SV} (h:(PQ P G t H a).path Φ s=some r):xK P G t (SH.den s H) (a.den s)=some (r.1.den s,r.2.1,sO s r.2.2):=by
 unfold PQ at h
 split at h
 ·rename_i b off
  split at h
  ·rename_i o ho
   split at h
   ·rename_i t0 ht
    split at h
    ·rename_i r' hr
     cases h
     simp only[SV.den,xK,SH.den_get ho ht,Er s hr];rfl
    ·cases h
   ·cases h
  ·cases h
 ·rename_i g off
  split at h
  ·rename_i c hc
   split at h
   ·rename_i r' hr
    cases h
    have:=Er s hr
    rw[zR] at this
    simp only[SV.den,xK,hc,this];rfl
   ·cases h
  ·cases h
 ·cases h
theorem ads {t:TypeId} {H:SH} {x y:SV} (h:(PR P t H x y).path Φ s=some r):BD P t (SH.den s H) (x.den s) (y.den s)=some (r.1.den s,r.2.1,sO s r.2.2):=by
  unfold PR at h
  split at h
  · rename_i b off
    split at h
    · cases h
    · rename_i o hno ho
      obtain⟨t0,ht⟩:∃ t0,o.t=some t0:=by
        obtain⟨c,t0⟩:=o
        cases t0 with
        | none=>exact absurd rfl (hno c)
        | some t0=>exact⟨t0,rfl⟩
      split at h
      · rename_i n h1 hn
        split at h
        · rename_i h2 h3
          rw[Ej] at h
          cases h
          have h2:=tq.1 h2;have h3:=Nat.le_of_ble_eq_true h3
          have hl:(tT (y.den s)).length=(cellsS y).length:=by rw[← Gx,zx]
          have ha:(tT (y.den s)).all Ea=true:=by
            rw[← Gx,SV.dens_map,List.all_map,List.all_eq_true]
            intro z hz
            exact adq (List.all_eq_true.1 h1 z hz)
          simp only[SV.den,BD,SH.den_get ho ht]
          rw[if_pos (by
            simp only[Bool.and_eq_true,decide_eq_true_eq];refine⟨⟨ha,?_⟩,?_⟩
            · rw[hl,hn,h2]
            · rw[hl,zx];exact h3)]
          congr 3
          simp only[sO,List.map_cons,List.map_nil,ht,SO.den,U0,Dh,PO,PP,Gx,← hl]
        · cases h
      · cases h
    · cases h
  · cases h
theorem adt {t:TypeId} {l:List AV} {f off:Nat} {ft:TypeId} (hf:AP P t f=some (off,ft)):CQ P t f (wC l)=vL P ft l off:=by
 have hc:=JX l
 unfold wC at hc ⊢
 cases h:uh l with
 | none=>simp only[CQ,hf,tT]
 | some vs =>
  rw[h] at hc
  simp only[CQ,hf]
  rw[hc]
theorem adu {t:TypeId} {f:Nat} {x a:SV} (h:PS P t f x=some a):CQ P t f (x.den s)=some (a.den s):=by
 unfold PS at h
 split at h
 ·rename_i l
  split at h
  ·rename_i off ft hf
   simp only[SV.den]
   rw[adt hf,Er s h]
  ·cases h
 ·rename_i cs
  split at h
  ·rename_i off ft hf
   have:=Er s h
   rw[zR] at this
   simp only[SV.den,CQ,hf,tT,Value.cells]
   exact this
  ·cases h
 ·cases h
theorem adv {t:TypeId} {f:Nat} {x a:SV} (h:PT P t f x=some a):CS P t f (x.den s)=some (a.den s):=by
 unfold PT at h
 unfold CS
 split at h
 ·rename_i off ft hf
  rw[hf]
  simp only
  split at h
  ·rename_i n hs
   rw[hs]
   simp only
   split at h
   ·rw[uq] at h;cases h;rfl
   ·rw[uq] at h;cases h;rfl
   ·cases h
  ·cases h
 ·cases h
theorem adw (hf:tF s fc) {t:TypeId} {H:rG} {x i:SV} (h:(PV P fc t x i).path Φ s=some r):yU (zt P t H (x.den s) (i.den s))=some (r.1.den s,r.2.1,sO s r.2.2):=by
 unfold PV at h
 split at h
 ·rename_i k n
  split at h
  ·rename_i b o
   split at h
   ·rename_i len el ha
    split at h
    ·rename_i sz hs
     obtain⟨j,h1,h2,h3⟩:=JY hf h
     rw[uq] at h3;cases h3
     simp only[SV.den,zt,ha,hs,h2]
     rw[if_pos ⟨by omega,by omega⟩];rfl
    ·cases h
   ·cases h
  ·rename_i g o
   split at h
   ·rename_i len el ha
    split at h
    ·rename_i sz hs
     obtain⟨j,h1,h2,h3⟩:=JY hf h
     rw[uq] at h3;cases h3
     simp only[SV.den,zt,ha,hs,h2]
     rw[if_pos ⟨by omega,by omega⟩];rfl
    ·cases h
   ·cases h
  ·rename_i b o len cap
   split at h
   ·rename_i el ha
    split at h
    ·rename_i sz hs
     obtain⟨j,h1,h2,h3⟩:=JY hf h
     rw[uq] at h3;cases h3
     simp only[SV.den,zt,ha,hs,h2]
     rw[if_pos ⟨by omega,by omega⟩];rfl
    ·cases h
   ·cases h
  ·cases h
 ·cases h
theorem adx {t:TypeId} {l:List AV} {k:IntKind} {n:Int} {len el sz:Nat} (ha:yE P t=some (len,el)) (hs:tQ P el=some sz) (hn:0≤n∧n<len):CU P t (wC l) (.v (.int k n))=vL P el l (n.toNat*sz):=by
 have hc:=JX l
 unfold wC at hc ⊢
 cases h:uh l with
 | none=>simp only[CU,ha,hs,if_pos hn]
 | some vs =>
  rw[h] at hc
  simp only[tT,Value.cells] at hc
  simp only[CU,ha,hs,if_pos hn]
  rw[hc]
theorem ady (hf:tF s fc) {t:TypeId} {x i:SV} (h:(PW P fc t x i).path Φ s=some r):wt (CU P t (x.den s) (i.den s))=some (r.1.den s,r.2.1,sO s r.2.2):=by
 unfold PW at h
 split at h
 ·rename_i k n
  split at h
  ·rename_i l
   split at h
   ·rename_i len el ha
    split at h
    ·rename_i sz hs
     obtain⟨j,h1,h2,h3⟩:=JY hf h
     obtain⟨a,h4,rfl⟩:=JZ h3
     simp only[SV.den]
     rw[adx ha hs (by rw[h2];omega),h2,show((j:Int)).toNat=j by simp,Er s h4];rfl
    ·cases h
   ·cases h
  ·rename_i cs
   split at h
   ·rename_i len el ha
    split at h
    ·rename_i sz hs
     obtain⟨j,h1,h2,h3⟩:=JY hf h
     obtain⟨a,h4,rfl⟩:=JZ h3
     have:=Er s h4
     rw[zR] at this
     simp only[SV.den,CU,ha,hs,h2]
     rw[if_pos ⟨by omega,by omega⟩,show((j:Int)).toNat=j by simp,this];rfl
    ·cases h
   ·cases h
  ·cases h
 ·cases h
theorem adz {x a:SV} {i:Nat} (h:PX x i=some a):FX (x.den s) i=some (a.den s):=by
 unfold PX at h
 split at h
 ·rename_i vs
  split at h
  ·rename_i v hv
   cases h
   simp only[SV.den,FX,hv,PL]
  ·cases h
 ·rename_i l
  have:=UZ s h
  simp only[SV.den]
  unfold xA
  cases hv:uh (SV.dens s l) with
  | none=>exact this
  | some vs =>
   have h2:=CP (e:=⟨fun _=>0,fun _=>undef⟩) hv
   have h3:SV.dens s l=vs.map .v:=by
    have h4:=JX (SV.dens s l)
    unfold wC at h4;rw[hv] at h4
    simpa [tT,Value.cells] using h4.symm
   rw[h3] at this
   simp only[FX]
   rw[List.getElem?_map] at this
   cases hg:vs[i]? with
   | none=>rw[hg] at this;cases this
   | some v=>rw[hg] at this;simp only[List.getElem?_toArray,List.toList_toArray,hg];exact this
 ·cases h
theorem adA {c:X} {w:String} {b:ru SR} (h:(Gr c (.stuck w) b).path Φ s=some r):c.den s=0∧b.path Φ s=some r:=by
 rw[Pv] at h
 split at h
 ·rename_i hc;exact⟨hc,h⟩
 ·cases h
theorem U1 {b:Bool} (h:sF b=0):b=false:=by cases b<;>first|rfl|cases h
theorem adB {k:IntKind} (hk:k.signed=false) (n:Int):0≤k.wrap n:=by
 unfold IntKind.wrap IntKind.bits;cases k<;>first|(cases hk;done)|(simp[IntKind.signed];omega)
theorem U2 (hf:tF s fc) {w:String} {c:X} {t:ru SR} (h:(Di fc w c t).path Φ s=some r):c.den s=0∧t.path Φ s=some r:=by
 unfold Di at h
 split at h
 ·cases h
 ·rename_i hd
  have:=yj hf hd
  exact⟨by simpa using this,h⟩
 ·exact adA h
theorem adC (hf:tF s fc) {t:TypeId} {op:BinOp} {k k':IntKind} {a b:X} (h:(P5 fc op k k' a b).path Φ s=some r):∃ v,wD P op t (.int k (a.den s)) (.int k' (b.den s))=some v ∧ .v v=r.1.den s∧r.2=([],[]):=by
 have ar:∀ {op':BinOp},(uH (uD op' k a b) fun x=>one (.int k x)).path Φ s=some r→AV.v (.int k (rY op' k (a.den s) (b.den s)))=r.1.den s∧r.2=([],[]):=fun h=>by
  have h:=zT (zy h);subst h
  exact⟨by simp only[SV.den,Da],rfl⟩
 have cm:∀ {op':BinOp},(uH (uD op' k a b) fun x=>one (.bool x)).path Φ s=some r→AV.v (.bool (rY op' k (a.den s) (b.den s) != 0))=r.1.den s∧r.2=([],[]):=fun h=>by
  have h:=zT (zy h);subst h
  exact⟨by simp only[SV.den,Da],rfl⟩
 have nn:∀ {op':BinOp},(match X.inK k' b,k'.signed with
   | true,false=>uH (uD op' k a b) fun x=>one (.int k x)
   | _,_=>Di fc "shift below 0" (uD .lss k' b (.lit (.ofNat 0))) (uH (uD op' k a b) fun x=>one (.int k x))).path Φ s=some r →
   ¬ b.den s<0∧(uH (uD op' k a b) fun x=>one (.int k x)).path Φ s=some r:=fun h=>by
  split at h
  ·rename_i h1 h2
   refine⟨?_,h⟩
   rw[← X.inK_ok s h1];have:=adB h2 (b.den s);omega
  ·obtain⟨h1,h2⟩:=U2 hf h
   refine⟨?_,h2⟩
   rw[Da] at h1
   have:=U1 h1
   intro hc
   simp only[decide_eq_false_iff_not] at this
   exact this hc
 have nz:∀ {op':BinOp},(Di fc "by 0" (uD .eql k' b (.lit (.ofNat 0))) (uH (uD op' k a b) fun x=>one (.int k x))).path Φ s=some r →
   b.den s≠0∧(uH (uD op' k a b) fun x=>one (.int k x)).path Φ s=some r:=fun h=>by
  obtain⟨h1,h2⟩:=U2 hf h
  refine⟨?_,h2⟩
  rw[Da] at h1
  have:=U1 h1
  intro hc;rw[hc] at this;cases this
 cases op<;>simp only[P5] at h
 case shl =>
  obtain⟨h1,h2⟩:=nn h
  exact⟨_,by simp only[wD,if_neg h1];rfl,ar h2⟩
 case shr =>
  obtain⟨h1,h2⟩:=nn h
  exact⟨_,by simp only[wD,if_neg h1];rfl,ar h2⟩
 case quo =>
  split at h
  ·rename_i hk
   have hk:=xC hk
   obtain⟨h1,h2⟩:=nz h
   exact⟨_,by simp only[wD,if_pos (And.intro hk h1)];rfl,ar h2⟩
  ·cases h
 case rem =>
  split at h
  ·rename_i hk
   have hk:=xC hk
   obtain⟨h1,h2⟩:=nz h
   exact⟨_,by simp only[wD,if_pos (And.intro hk h1)];rfl,ar h2⟩
  ·cases h
 all_goals
  split at h
  ·rename_i hk
   have hk:=xC hk
   first
    | exact⟨_,by simp only[wD,if_pos hk,rY,UE],ar h⟩
    | exact⟨_,by simp only[wD,if_pos hk,rY,uF],cm h⟩
  ·cases h
theorem adD (hSE:MH P SE E) (hf:tF s fc) {t:TypeId} {op:BinOp} {x y:SV} (h:(P6 P SE fc op t x y).path Φ s=some r):wt (CV P E op t (x.den s) (y.den s))=some (r.1.den s,r.2.1,sO s r.2.2):=by
 unfold P6 at h
 split at h
 ·rename_i k a k' b
  obtain⟨v,h1,h2,h3⟩:=adC (P:=P) hf (t:=t) h
  simp only[SV.den,CV,h1,wt,h2,h3];rfl
 ·rename_i a b
  split at h
  ·rename_i hu
   split at h
   ·have h:=zT (zy h);subst h
    simp only[SV.den,CV,wD,hu,wt,UL,uF];rfl
   ·have h:=zT (zy h);subst h
    simp only[SV.den,CV,wD,hu,wt,Pq,UL,uF];rfl
   ·cases h
  ·cases h
 ·rename_i hi hb
  have key:∀ u,SE t x y=some u→∃ a b,x.den s = .v a∧y.den s = .v b∧wD P .eql t a b=none∧wD P .neq t a b=none∧E .eql t a b=some (.bool (u.den s != 0))∧E .neq t a b=some (.bool (!(u.den s != 0))):=fun u hu=>hSE t x y u s hu
  split at h
  ·split at h
   ·rename_i u hu
    have h:=zT (zy h);subst h
    obtain⟨a,b,h1,h2,p1,p2,h3,h4⟩:=key u hu
    simp only[h1,h2,CV,p1,h3,wt,SV.den];rfl
   ·cases h
  ·split at h
   ·rename_i u hu
    have h:=zT (zy h);subst h
    obtain⟨a,b,h1,h2,p1,p2,h3,h4⟩:=key u hu
    simp only[h1,h2,CV,p2,h4,wt,SV.den,Pq,uF];rfl
   ·cases h
  ·cases h
theorem adE {op:UnOp} {x:SV} (h:(P7 op x).path Φ s=some r):wt (FY op (x.den s))=some (r.1.den s,r.2.1,sO s r.2.2):=by
 unfold P7 at h
 split at h
 ·have h:=zT (zy h);subst h
  simp only[SV.den,FY,wt,Da,rY];rfl
 ·have h:=zT (zy h);subst h
  simp only[SV.den,FY,wt,UK,JR,UE];rfl
 ·have h:=zT (zy h);subst h
  simp only[SV.den,FY,wt,Pq,uF];rfl
 ·cases h
theorem adF {src dst:TypeId} {x:SV} (h:(P8 P src dst x).path Φ s=some r):wt (LY P src dst (x.den s))=some (r.1.den s,r.2.1,sO s r.2.2):=by
 unfold P8 at h
 split at h
 ·split at h
  ·rename_i k d hk hd
   have h:=zT (zy h);subst h
   simp only[SV.den,LY,hk,hd,wt,adc];rfl
  ·cases h
 ·cases h
theorem adG (f:FuncId) (a c:List AV):LZ (xB (.func f) a c)=some (xB (.func f) a c):=by unfold xB;split<;>rfl
theorem adH {x:SV} (h:(P9 x).path Φ s=some r):wt (LZ (x.den s))=some (r.1.den s,r.2.1,sO s r.2.2):=by
 unfold P9 at h
 split at h
 ·cases h;rfl
 ·cases h;rfl
 ·cases h;rfl
 ·cases h;simp only[SV.den,adG,wt];rfl
 ·cases h
theorem adI {t:TypeId} {H:SH} {x:SV} (h:(sLen P t H x).path Φ s=some r):yU (yG P t (SH.den s H) (x.den s))=some (r.1.den s,r.2.1,sO s r.2.2):=by
 unfold sLen at h
 split at h
 ·rename_i el hu
  split at h
  ·rename_i k
   split at h
   ·rename_i kd x hk
    cases h;simp only[SV.den,yG,hu,SH.den_nat hk rfl rfl rfl];rfl
   ·rename_i c _ hk
    split at h
    ·rename_i ro hm ho
     have h:=zy h
     cases h
     simp only[SV.den,yG,hu,SH.den_ora hk rfl hm ho,yU,UM,X.den]
     have e:((ro.n.den s).toNat:Int)=if Int.ofNat 0>ro.n.den s then Int.ofNat 0 else ro.n.den s:=by
      show _=if (0:Int)>ro.n.den s then(0:Int) else ro.n.den s
      split<;>omega
     rw[e];rfl
    ·cases h
   ·cases h
  ·cases h;simp only[SV.den,yG,hu];rfl
  ·cases h;simp only[SV.den,yG,hu];rfl
  ·cases h
 ·rename_i hu
  split at h
  ·rw[uq] at h;cases h;simp only[SV.den,yG,hu];rfl
  ·cases h
 ·rename_i n el hu
  cases h;simp only[yG,hu];rfl
 ·cases h
theorem adJ {t:TypeId} {H:rG} {x:SV} (h:(Qa P t x).path Φ s=some r):yU (BH P t H (x.den s))=some (r.1.den s,r.2.1,sO s r.2.2):=by
 unfold Qa at h
 split at h
 ·rename_i n el ha
  split at h
  ·split at h
   ·rename_i hb
    cases h
    simp only[SV.den,BH,ha,if_pos (Nat.le_of_ble_eq_true hb)];rfl
   ·cases h
  ·cases h
 ·cases h
theorem adK {t:TypeId} {k:Nat} {x y:SV} (h:(Qb P t k x y).path Φ s=some r):F3 P t k (x.den s) (y.den s)=some (r.1.den s,r.2.1,sO s r.2.2):=by
 unfold Qb at h
 split at h
 ·rename_i k1 n k2 m
  split at h
  ·rename_i el hel
   split at h
   ·rename_i sz z b hs hz hb
    split at h
    ·rename_i h1 h2 h3 h4
     rw[Ej] at h
     cases h
     have h1:=Nat.le_of_ble_eq_true h1
     have h2:m<16777216:=by simpa [Nat.blt_eq] using h2
     have h3:=Nat.le_of_ble_eq_true h3
     have h4:m*sz≠0:=fun e=>by rw[e] at h4;cases h4
     simp only[SV.den,X.den,F3,hel,hs,hz,hb,Int.ofNat_eq_natCast]
     rw[if_pos ⟨by omega,by omega,by omega,h3,by simpa using h4⟩]
     simp only[sO,List.map_cons,List.map_nil,SO.den,zR,Int.ofNat_eq_natCast,Int.toNat_natCast]
    ·cases h
   ·cases h
  ·cases h
 ·cases h
theorem adL {t:TypeId} {x:SV} (h:(Qc P t x).path Φ s=some r):wt (JD P t (x.den s))=some (r.1.den s,r.2.1,sO s r.2.2):=by
 unfold Qc at h
 split at h
 ·rename_i n el ha
  split at h
  ·rename_i b o sz hs
   cases h;simp only[SV.den,JD,ha,hs];rfl
  ·cases h
 ·cases h
theorem adM {t:TypeId} {len k:Nat} {ps:List (Nat×SV)} (h:(Qd P t len k ps).path Φ s=some r):FZ P t len k (MF s ps)=some (r.1.den s,r.2.1,sO s r.2.2):=by
 unfold Qd at h
 split at h
 ·rename_i el hel
  split at h
  ·rename_i sz z hs hz
   split at h
   ·rename_i h1 h2
    split at h
    ·rename_i c hc
     cases h
     have h1:=Nat.le_of_ble_eq_true h1
     have h2:len*sz≠0:=fun e=>by rw[e] at h2;cases h2
     have h3:=PY s hc
     rw[zR] at h3
     simp only[FZ,hel,hs,hz,h3]
     rw[if_pos ⟨h1,h2⟩];rfl
    ·cases h
   ·cases h
  ·cases h
 ·cases h
theorem adN (hSE:MH P SE E) (hf:tF s fc) {op:Op} {ρ:Operand→Option SV} {ρ':Operand→Option AV} (hρ:RD s ρ ρ') {H:SH} {k:Nat} (h:(Qe P G SE fc op ρ H k).path Φ s=some r) :
  sj P G E op ρ' (SH.den s H) k=some (r.1.den s,r.2.1,sO s r.2.2):=by
 unfold Qe at h
 split at h
 ·obtain⟨a,ha,h⟩:=yl h;cases h;simp only[sj,hρ _ _ ha,wt];rfl
 ·obtain⟨a,ha,h⟩:=yl h;cases h;simp only[sj,hρ _ _ ha,wt];rfl
 ·obtain⟨v,hv,h⟩:=yl h
  split at h
  ·rename_i q
   rw[Pv] at h
   have hq:=hρ _ _ hv
   split at h
   ·rename_i hc
    obtain⟨a,ha,h⟩:=yl h;cases h
    simp only[sj,hq,SV.den,hc,bne_self_eq_false,Bool.false_eq_true,if_false,hρ _ _ ha,wt];rfl
   ·rename_i hc
    obtain⟨a,ha,h⟩:=yl h;cases h
    have:(q.den s != 0)=true:=by simpa using hc
    simp only[sj,hq,SV.den,this,if_true,hρ _ _ ha,wt];rfl
  ·cases h
 ·split at h
  ·rename_i z hz
   rw[Ej] at h
   cases h;simp only[sj,hz,SV.den,sO,List.map_cons,List.map_nil,SO.den,zR]
  ·cases h
 ·obtain⟨a,ha,h⟩:=yl h
  rw[Ej] at h
  cases h;simp only[sj,hρ _ _ ha,SV.den,sO,List.map_cons,List.map_nil,SO.den,Gx]
 ·split at h
  ·rename_i l z hl hz
   split at h
   ·rename_i hs
    split at h
    ·rename_i c hc
     cases h
     have h3:=PY s hc
     rw[zR] at h3
     simp only[sj,PZ hρ hl,hz,hs,if_true,h3,SV.den];rfl
    ·cases h
   ·cases h
  ·cases h
 ·split at h
  ·rename_i l hl
   simp only[sj,PZ hρ hl];exact adM h
  ·cases h
 ·obtain⟨a,ha,h⟩:=yl h;simp only[sj,hρ _ _ ha];exact adr h
 ·obtain⟨a,b,ha,hb,h⟩:=Eu h;simp only[sj,hρ _ _ ha,hρ _ _ hb];exact ads h
 ·obtain⟨a,ha,h⟩:=yl h;simp only[sj,hρ _ _ ha];exact adH h
 ·obtain⟨a,b,ha,hb,h⟩:=Eu h;simp only[sj,hρ _ _ ha,hρ _ _ hb];exact adD hSE hf h
 ·obtain⟨a,ha,h⟩:=yl h;simp only[sj,hρ _ _ ha];exact adE h
 ·obtain⟨a,ha,h⟩:=yl h;simp only[sj,hρ _ _ ha];exact adF h
 ·split at h
  ·rename_i x y hx hy
   cases h;simp only[sj,MG hρ hx,MG hρ hy,SV.den];rfl
  ·cases h
 ·obtain⟨a,ha,h⟩:=yl h
  obtain⟨b,hb,rfl⟩:=JZ h
  simp only[sj,hρ _ _ ha,adv hb,wt];rfl
 ·obtain⟨a,ha,h⟩:=yl h
  obtain⟨b,hb,rfl⟩:=JZ h
  simp only[sj,hρ _ _ ha,adu hb,wt];rfl
 ·obtain⟨a,b,ha,hb,h⟩:=Eu h;simp only[sj,hρ _ _ ha,hρ _ _ hb];exact adw hf h
 ·obtain⟨a,b,ha,hb,h⟩:=Eu h;simp only[sj,hρ _ _ ha,hρ _ _ hb];exact ady hf h
 ·obtain⟨a,ha,h⟩:=yl h
  obtain⟨b,hb,rfl⟩:=JZ h
  simp only[sj,hρ _ _ ha,adz hb,wt];rfl
 ·split at h
  ·rename_i x t hx ht
   obtain⟨a,ha,h⟩:=yl h
   simp only[sj,hx,ht,hρ _ _ ha];exact adI h
  ·cases h
 ·split at h
  ·rename_i x y hx
   obtain⟨a,b,ha,hb,h⟩:=Eu h
   split at h
   ·have h:=zT (zy h);subst h
    simp only[sj,hx,hρ _ _ ha,hρ _ _ hb,SV.den,adf];rfl
   ·cases h
  ·cases h
 ·split at h
  ·rename_i x y hx
   obtain⟨a,b,ha,hb,h⟩:=Eu h
   split at h
   ·have h:=zT (zy h);subst h
    simp only[sj,hx,hρ _ _ ha,hρ _ _ hb,SV.den,UM];rfl
   ·cases h
  ·cases h
 ·obtain⟨a,ha,h⟩:=yl h;simp only[sj,hρ _ _ ha];exact adJ h
 ·obtain⟨a,b,ha,hb,h⟩:=Eu h;simp only[sj,hρ _ _ ha,hρ _ _ hb];exact adK h
 ·obtain⟨a,ha,h⟩:=yl h;simp only[sj,hρ _ _ ha];exact adL h
 ·cases h
end
open Go.RowKit
mutual
def AV.ren (f:Nat→Nat):AV→AV
 | .v x=>.v x
 | .loc b off=>.loc (f b) off
 | .sl b off len cap=>.sl (f b) off len cap
 | .hd k=>.hd (f k)
 | .ha k off=>.ha (f k) off
 | .fn g a c=>.fn g (AV.rens f a) (AV.rens f c)
 | .tup l=>.tup (AV.rens f l)
 | .agg l=>.agg (AV.rens f l)
def AV.rens (f:Nat→Nat):List AV→List AV
 | []=>[]
 | x::l=>AV.ren f x::AV.rens f l
end
def AO.ren (f:Nat→Nat):AO→AO
 | .own c t=>.own (AV.rens f c) t
 | .rd n c=>.rd n c
 | .mp es=>.mp es
def U3 (f:Nat→Nat) (e e':Env) (l:List Nat):Prop:=∀ r∈l,e'.blk (f r)=e.blk r∧e'.hnd (f r)=e.hnd r
mutual
theorem AV.ren_val {f:Nat→Nat} {e e':Env} : ∀ x:AV,U3 f e e' x.refs→(x.ren f).val e'=x.val e
 | .v _,_=>rfl
 | .loc b off,h=>by simp only[AV.ren,AV.val];rw[(h b (by simp[AV.refs])).1]
 | .sl b off len cap,h=>by simp only[AV.ren,AV.val];rw[(h b (by simp[AV.refs])).1]
 | .hd k,h=>by simp only[AV.ren,AV.val];rw[(h k (by simp[AV.refs])).2]
 | .ha k off,h=>by simp only[AV.ren,AV.val];rw[(h k (by simp[AV.refs])).2]
 | .fn g a c,h=>by
  simp only[AV.ren,AV.val]
  rw[AV.rens_val a (fun r hr=>h r (by rw[AV.refs];exact List.mem_append_left _ hr)),AV.rens_val c (fun r hr=>h r (by rw[AV.refs];exact List.mem_append_right _ hr))]
 | .tup l,h=>by simp only[AV.ren,AV.val];rw[AV.rens_val l (fun r hr=>h r (by rw[AV.refs];exact hr))]
 | .agg l,h=>by simp only[AV.ren,AV.val];rw[AV.rens_val l (fun r hr=>h r (by rw[AV.refs];exact hr))]
theorem AV.rens_val {f:Nat→Nat} {e e':Env} : ∀ l:List AV,U3 f e e' (AV.refss l)→AV.vals e' (AV.rens f l)=AV.vals e l
 | [],_=>rfl
 | x::l,h=>by
  rw[AV.rens,AV.vals,AV.vals,AV.ren_val x (fun r hr=>h r (by rw[AV.refss];exact List.mem_append_left _ hr)),AV.rens_val l (fun r hr=>h r (by rw[AV.refss];exact List.mem_append_right _ hr))]
end
mutual
theorem AV.ren_refs {f:Nat→Nat} : ∀ (x:AV) {r:Nat},r∈(x.ren f).refs→∃ q∈x.refs,r=f q
 | .v _,r,h=>by simp[AV.ren,AV.refs] at h
 | .loc b off,r,h=>by simp[AV.ren,AV.refs] at h;exact⟨b,by simp[AV.refs],h⟩
 | .sl b off len cap,r,h=>by simp[AV.ren,AV.refs] at h;exact⟨b,by simp[AV.refs],h⟩
 | .hd k,r,h=>by simp[AV.ren,AV.refs] at h;exact⟨k,by simp[AV.refs],h⟩
 | .ha k off,r,h=>by simp[AV.ren,AV.refs] at h;exact⟨k,by simp[AV.refs],h⟩
 | .fn g a c,r,h=>by
  simp only[AV.ren,AV.refs,List.mem_append] at h
  rcases h with h|h
  ·obtain⟨q,hq,e⟩:=AV.rens_refs a h;exact⟨q,by rw[AV.refs];exact List.mem_append_left _ hq,e⟩
  ·obtain⟨q,hq,e⟩:=AV.rens_refs c h;exact⟨q,by rw[AV.refs];exact List.mem_append_right _ hq,e⟩
 | .tup l,r,h=>by
  simp only[AV.ren,AV.refs] at h
  obtain⟨q,hq,e⟩:=AV.rens_refs l h;exact⟨q,by rw[AV.refs];exact hq,e⟩
 | .agg l,r,h=>by
  simp only[AV.ren,AV.refs] at h
  obtain⟨q,hq,e⟩:=AV.rens_refs l h;exact⟨q,by rw[AV.refs];exact hq,e⟩
theorem AV.rens_refs {f:Nat→Nat} : ∀ (l:List AV) {r:Nat},r∈AV.refss (AV.rens f l)→∃ q∈AV.refss l,r=f q
 | [],r,h=>by simp[AV.rens,AV.refss] at h
 | x::l,r,h=>by
  simp only[AV.rens,AV.refss,List.mem_append] at h
  rcases h with h|h
  ·obtain⟨q,hq,e⟩:=AV.ren_refs x h;exact⟨q,by rw[AV.refss];exact List.mem_append_left _ hq,e⟩
  ·obtain⟨q,hq,e⟩:=AV.rens_refs l h;exact⟨q,by rw[AV.refss];exact List.mem_append_right _ hq,e⟩
end
def vS (src:Nat→Option Nat) (e e2:Env):Env:=⟨fun j=>match src j with|some n=>e2.blk n|none=>e.blk j,fun j=>match src j with|some n=>e2.hnd n|none=>e.hnd j⟩
theorem zU {src:Nat→Option Nat} {e e2:Env} {j n:Nat} (h:src j=some n):(vS src e e2).blk j=e2.blk n∧(vS src e e2).hnd j=e2.hnd n:=by
 unfold vS;simp only[h];exact⟨trivial,trivial⟩
theorem zz {src:Nat→Option Nat} {e e2:Env} {j:Nat} (h:src j=none):(vS src e e2).blk j=e.blk j∧(vS src e e2).hnd j=e.hnd j:=by
 unfold vS;simp only[h];exact⟨trivial,trivial⟩
theorem adO {G:rX} {w0:World} {B0:sN} {e:Env} {H':rG} {w:World} (R:si G w0 B0 e H' w) {keys:List Nat} {B:sN} (hBd:B.dom=keys) (hBb:∀ b∈B.blks,∃ j∈keys,b=e.blk j) (hBe:B.env=e)
  {e2:Env} {Hc:rG} {w':World} (R2:si G w B e2 Hc w') (hown:∀ j∈keys,∃ c t,H' j=some (.own c t)) {src:Nat→Option Nat} {f:Nat→Nat}
  (h1:∀ j n,src j=some n→f n=j∧∃ c t,Hc n=some (.own c t)∧∀ r∈AV.refss c,src (f r)=some r)
  (h2:∀ j∈keys,src j=some j) (h3:∀ j,j∉keys→src j≠none→H' j=none) {Hn:rG} (hn:∀ j,Hn j=match src j with|some n=>(Hc n).map (AO.ren f)|none=>H' j) :
  si G w0 B0 (vS src e e2) Hn w'∧Env.on H' e (vS src e e2)∧∀ j,H' j≠none→Hn j≠none:=by
 have hK:∀ j∈keys,e2.blk j=e.blk j∧e2.hnd j=e.hnd j:=fun j hj=>by
  have:=(R2.env j (by rw[hBd];exact hj)).2;rw[hBe] at this;exact this
 have hon:Env.on H' e (vS src e e2):=by
  intro j hj
  cases hs:src j with
  | none=>exact zz hs
  | some n =>
   rw[(zU hs).1,(zU hs).2]
   by_cases hm:j∈keys
   ·have:=h2 j hm;rw[hs] at this;cases this;exact hK j hm
   ·exact absurd (h3 j hm (by rw[hs];simp)) hj
 have hdom:∀ j,H' j≠none→Hn j≠none:=by
  intro j hj
  rw[hn]
  cases hs:src j with
  | none=>exact hj
  | some n =>
   obtain⟨_,c,t,hc,_⟩:=h1 j n hs
   simp[hc]
 have hbk:∀ n j,src j=some n→e2.blk n<w.heap.size→∃ i∈keys,e2.blk n=e.blk i:=by
  intro n j hs hlt
  obtain⟨_,c,t,hc,_⟩:=h1 j n hs
  rcases R2.ge n c t hc with hg|hg
  ·omega
  ·exact hBb _ hg
 have hold:∀ b,b<w.heap.size→(∀ i∈keys,b≠e.blk i)→w'.heap[b]? = w.heap[b]?:=fun b hb hne=>R2.old b hb (fun hm=>by
  obtain⟨i,hi,rfl⟩:=hBb b hm;exact hne i hi rfl)
 have hnone:∀ j o,Hn j=some o→src j=none→H' j=some o:=fun j o hj hs=>by rw[hn,hs] at hj;exact hj
 have hsome:∀ j n o,Hn j=some o→src j=some n→∃ c t,Hc n=some (.own c t)∧o = .own (AV.rens f c) t∧∀ r∈AV.refss c,src (f r)=some r:=fun j n o hj hs=>by
  obtain⟨_,c,t,hc,hr⟩:=h1 j n hs
  rw[hn,hs] at hj
  simp only[hc,Option.map_some,AO.ren,Option.some.injEq] at hj
  exact⟨c,t,hc,hj.symm,hr⟩
 refine⟨⟨R2.os.trans R.os,R2.tape.trans R.tape,R2.output.trans R.output,Nat.le_trans R.size R2.size,?_,R2.gl,?_,?_,?_,?_,?_,?_,?_,?_,fun j n l hj b hv=>by
  cases hs:src j with
  | some m=>obtain⟨c0,t0,hc,ho,hr⟩:=hsome j m _ hj hs;cases ho
  | none=>rw[(zz hs).2] at hv;exact R.new j n l (hnone j _ hj hs) b hv,fun j es hj=>by
  cases hs:src j with
  | some m=>obtain⟨c0,t0,hc,ho,hr⟩:=hsome j m _ hj hs;cases ho
  | none =>
   have h0:=hnone j _ hj hs
   obtain⟨m1,m2⟩:=R.mp j es h0
   rw[(zz hs).2]
   refine⟨m1.same (fun b hv hb=>hold b hb (fun i hi he=>?_)),fun j' c t hj' hv=>?_⟩
   ·obtain⟨c',t',hi'⟩:=hown i hi
    exact m2 i c' t' hi' (by rw[hv,he])
   ·cases hs':src j' with
    | none =>
     rw[(zz hs').1] at hv
     exact m2 j' c t (hnone j' _ hj' hs') hv
    | some m =>
     rw[(zU hs').1] at hv
     obtain⟨i,hi,he⟩:=hbk m j' hs' (m1.lt hv)
     obtain⟨c',t',hi'⟩:=hown i hi
     exact m2 i c' t' hi' (by rw[hv,he])⟩,hon,hdom⟩
 ·intro b hb hb0
  rw[← R.old b hb hb0]
  refine hold b (Nat.lt_of_lt_of_le hb R.size) (fun i hi he=>?_)
  obtain⟨c,t,hc⟩:=hown i hi
  rcases R.ge i c t hc with hg|hg
  ·omega
  ·rw[he] at hb0;exact hb0 hg
 ·intro j c t hj
  cases hs:src j with
  | some n =>
   obtain⟨c0,t0,hc,ho,hr⟩:=hsome j n _ hj hs
   cases ho
   rw[(zU hs).1,AV.rens_val c0 (fun r hrm=>zU (hr r hrm))]
   exact R2.own n c0 t hc
  | none =>
   have h0:=hnone j _ hj hs
   rw[(zz hs).1,AV.vals_on hon c (fun r hr=>R.refs j _ h0 r hr),hold (e.blk j) (R.lt h0) (fun i hi he=>?_)]
   ·exact R.own j c t h0
   ·obtain⟨c',t',hi'⟩:=hown i hi
    have:=R.inj j c t i c' t' h0 hi' he
    rw[this,h2 i hi] at hs;cases hs
 ·intro j c t hj
  cases hs:src j with
  | some n =>
   obtain⟨c0,t0,hc,ho,hr⟩:=hsome j n _ hj hs
   rw[(zU hs).1]
   rcases R2.ge n c0 t0 hc with hg|hg
   ·exact .inl (Nat.le_trans R.size hg)
   ·obtain⟨i,hi,he⟩:=hBb _ hg
    obtain⟨c',t',hi'⟩:=hown i hi
    rw[he];exact R.ge i c' t' hi'
  | none=>rw[(zz hs).1];exact R.ge j c t (hnone j _ hj hs)
 ·intro j c t hj x hx
  cases hs:src j with
  | some n =>
   obtain⟨c0,t0,hc,ho,hr⟩:=hsome j n _ hj hs
   rw[(zU hs).1];exact R2.glo n c0 t0 hc x hx
  | none=>rw[(zz hs).1];exact R.glo j c t (hnone j _ hj hs) x hx
 ·have mix:∀ j n j',src j=some n→src j'=none→(∃ c t,H' j'=some (.own c t))→e2.blk n≠e.blk j':=by
   intro j n j' hs hs' ⟨c,t,hj'⟩ he
   obtain⟨i,hi,h⟩:=hbk n j hs (by rw[he];exact R.lt hj')
   obtain⟨c',t',hi'⟩:=hown i hi
   have:=R.inj i c' t' j' c t hi' hj' (by rw[← h,he])
   rw[← this,h2 i hi] at hs';cases hs'
  intro j c t j' c' t' hj hj' he
  cases hs:src j with
  | some n =>
   obtain⟨c0,t0,hc,ho,hr⟩:=hsome j n _ hj hs
   rw[(zU hs).1] at he
   cases hs':src j' with
   | some n' =>
    obtain⟨c0',t0',hc',ho',hr'⟩:=hsome j' n' _ hj' hs'
    rw[(zU hs').1] at he
    have:=R2.inj n c0 t0 n' c0' t0' hc hc' he
    rw[← (h1 j n hs).1,← (h1 j' n' hs').1,this]
   | none =>
    rw[(zz hs').1] at he
    exact absurd he (mix j n j' hs hs' ⟨c',t',hnone j' _ hj' hs'⟩)
  | none =>
   rw[(zz hs).1] at he
   cases hs':src j' with
   | some n' =>
    rw[(zU hs').1] at he
    exact absurd he.symm (mix j' n' j hs' hs ⟨c,t,hnone j _ hj hs⟩)
   | none =>
    rw[(zz hs').1] at he
    exact R.inj j c t j' c' t' (hnone j _ hj hs) (hnone j' _ hj' hs') he
 ·intro j n l hj
  cases hs:src j with
  | some m=>obtain⟨c0,t0,hc,ho,hr⟩:=hsome j m _ hj hs;cases ho
  | none =>
   have h0:=hnone j _ hj hs
   rw[(zz hs).2]
   refine(R.rd j n l h0).same R2.size (fun b hv hb=>hold b hb (fun i hi he=>?_))
   obtain⟨c',t',hi'⟩:=hown i hi
   exact R.apart j n l i c' t' h0 hi' (by rw[hv,he])
 ·intro j n l j' c t hj hj' hv
  cases hs:src j with
  | some m=>obtain⟨c0,t0,hc,ho,hr⟩:=hsome j m _ hj hs;cases ho
  | none =>
   have h0:=hnone j _ hj hs
   rw[(zz hs).2] at hv
   cases hs':src j' with
   | none =>
    rw[(zz hs').1] at hv
    exact R.apart j n l j' c t h0 (hnone j' _ hj' hs') hv
   | some m =>
    rw[(zU hs').1] at hv
    obtain⟨i,hi,he⟩:=hbk m j' hs' ((R.rd j n l h0).lt hv)
    obtain⟨c',t',hi'⟩:=hown i hi
    exact R.apart j n l i c' t' h0 hi' (by rw[hv,he])
 ·intro j o hj r hr
  cases hs:src j with
  | some n =>
   obtain⟨c0,t0,hc,ho,hrf⟩:=hsome j n _ hj hs
   subst ho
   obtain⟨q,hq,rfl⟩:=AV.rens_refs c0 hr
   have hsq:=hrf q hq
   obtain⟨_,c,t,hc',_⟩:=h1 _ _ hsq
   rw[hn,hsq];simp[hc']
  | none=>exact hdom r (R.refs j o (hnone j _ hj hs) r hr)
 ·intro j hj
  obtain⟨h0,hb⟩:=R.env j hj
  exact⟨hdom j h0,by rw[(hon j h0).1];exact hb.1,by rw[(hon j h0).2];exact hb.2⟩
theorem adP {P : Program} {G : rX} (E : tK) {w0 : World} {B0 : sN} {g : FuncId} {fn : Func} {c : Code} {args : List AV} {H H1 Hc : rG} {k : Nat} {r : AV} {ef : List (Nat × AO)} (keys : List Nat) (N1 : Nat) (src : Nat → Option Nat) (f : Nat → Nat)
    (hf : P.funcs[g]? = some fn) (hb : fn.body = some c) (hn : (fn.name == "runtime.NumGoroutine") = false) (hl : (Nat.ble args.length fn.ntmps) = true)
    (hH1 : ∀ j o, H1 j = some o → j ∈ keys) (hH1' : ∀ j ∈ keys, H1 j = H j ∧ (∃ c t, H j = some (.own c t)) ∧ j < N1) (hcl : ∀ j c t, H1 j = some (.own c t) → ∀ r ∈ AV.refss c, r ∈ keys) (href : ∀ x ∈ args, ∀ j ∈ x.refs, j ∈ keys)
    (h1 : ∀ j n, src j = some n → f n = j ∧ ∃ c t, Hc n = some (.own c t) ∧ ∀ r ∈ AV.refss c, src (f r) = some r)
    (h2 : ∀ j ∈ keys, src j = some j) (h3 : ∀ j n, src j = some n → j ∈ keys ∨ j = k ∨ j = k + 1) (hr : ∀ j ∈ r.refs, src (f j) = some j)
    (hef : ∀ H' : rG, (∀ b ∈ keys, H' b = H b) → ∀ j, (H'.puts ef) j = match src j with | some n => (Hc n).map (AO.ren f) | none => H' j)
    (h : ∀ w1 B, AW ⟨P, G, E, w1, B, fn.ntmps⟩ c (Pg P G fn (fun r' Hx => r' = r ∧ Hx = Hc)) N1 (BL args fn.ntmps) H1) :
    Ed P G w0 B0 g args H keys k (r.ren f) ef := by
  intro H' e w hag hk0 hk1 hrefs R
  have hkeys : ∀ j ∈ keys, ∃ c t, H' j = some (.own c t) := fun j hj => by rw [hag j hj]; exact (hH1' j hj).2.1
  have hsub : ∀ j o, H1 j = some o → H' j = some o := fun j o hj => by have hm := hH1 j o hj; rw [hag j hm, ← (hH1' j hm).1]; exact hj
  let B : sN := ⟨keys.map e.blk, keys, e⟩
  have R1 : si G w B e H1 w := by
    refine ⟨rfl, rfl, rfl, Nat.le_refl _, fun _ _ _ => rfl, R.gl, fun j c t hj => R.own j c t (hsub _ _ hj), fun j c t hj => .inr (List.mem_map.2 ⟨j, hH1 j _ hj, rfl⟩), fun j c t hj => R.glo j c t (hsub _ _ hj),
      fun j c t j' c' t' hj hj' => R.inj j c t j' c' t' (hsub _ _ hj) (hsub _ _ hj'), fun j n l hj => R.rd j n l (hsub _ _ hj), fun j n l j' c t hj hj' => R.apart j n l j' c t (hsub _ _ hj) (hsub _ _ hj'), ?_, ?_, fun j n l hj b hv => .inr ⟨j, hH1 j _ hj, hv⟩, fun j es hj => ⟨(R.mp j es (hsub _ _ hj)).1, fun j' c t hj' => (R.mp j es (hsub _ _ hj)).2 j' c t (hsub _ _ hj')⟩⟩
    · intro j o hj i hi
      obtain ⟨hj1, ⟨c, t, hc⟩, _⟩ := hH1' j (hH1 j o hj)
      rw [← hj1, hj] at hc
      cases hc
      have hm := hcl j c t hj i hi
      obtain ⟨h5, ⟨c', t', hc'⟩, _⟩ := hH1' i hm
      rw [h5, hc']; simp
    · intro j hj
      obtain ⟨h5, ⟨c', t', hc'⟩, _⟩ := hH1' j hj
      exact ⟨by rw [h5, hc']; simp, rfl, rfl⟩
  have hB1 : yV H1 N1 := by
    intro b hb
    cases hv : H1 b with
    | none => rfl
    | some o => have := (hH1' b (hH1 b o hv)).2.2; omega
  have hcall := Ph (E := E) hf hb (by simpa using hl) R1 hB1 (fun x hx j hj => by
    obtain ⟨h5, ⟨c', t', hc'⟩, _⟩ := hH1' j (href x hx j hj); rw [h5, hc']; simp) (h w B)
  refine C8 hf hn (by rw [hb]; rfl) (hcall.mono ?_)
  rintro en w' ⟨r', e2, Hx, rfl, ⟨rfl, rfl⟩, R2⟩
  have hput := hef H' hag
  obtain ⟨R3, hon, hdom⟩ := adO R (keys := keys) (B := B) rfl (fun b hb => by obtain ⟨j, hj, rfl⟩ := List.mem_map.1 hb; exact ⟨j, hj, rfl⟩) rfl R2 hkeys h1 h2 (fun j hj hs => by
    cases hsj : src j with
    | none => exact absurd hsj hs
    | some n => rcases h3 j n hsj with h6 | h6 | h6
                · exact absurd h6 hj
                · rw [h6]; exact hk0
                · rw [h6]; exact hk1) hput
  refine ⟨vS src e e2, ?_, R3, hon, fun j hj => ?_⟩
  · rw [AV.ren_val r' (fun j hj => zU (hr j hj))]
  · obtain ⟨q, hq, rfl⟩ := AV.ren_refs r' hj
    have hs := hr q hq
    obtain ⟨_, c, t, hc, _⟩ := h1 _ _ hs
    rw [hput, hs]; simp [hc]
open Go.RowKit
inductive Sh where
 | sc (k:VK)
 | agg (l:List VK)
structure Ct where
 a:List Sh
 r:List Sh
structure vT where
 id:Nat
 a:List Sh
 n:Nat
 t:TypeId
 ks:List VK
 r:List Sh
structure tC where
 P:Program
 G:rX
 SE:GG
 ct:FuncId→Option Ct
 Φ:uM
 nt:FuncId→Option Ct
 sl:FuncId→List vT
def Ak (k:VK) (x:SV):Option X:=match k,x with
 | .int k,.int k' a=>match vQ k k',X.inK k a with|true,true=>some a|_,_=>none
 | .bool,.bool a=>some a
 | .bit,.int k' a=>match vQ .u64 k',X.isBit a with|true,true=>some a|_,_=>none
 | _,_=>none
def Ev:List VK→List SV→Option (List X)
 | [],[]=>some []
 | k::ks,x::xs=>match Ak k x,Ev ks xs with|some a,some l=>some (a::l)|_,_=>none
 | _,_=>none
def Qf (h:Sh) (x:SV):Option (List X):=match h,x with
 | .sc k,x=>match Ak k x with|some a=>some [a]|none=>none
 | .agg l,.agg xs=>Ev l xs
 | .agg l,.v (.agg cs)=>Ev l (cs.toList.map xD)
 | _,_=>none
def wY:List Sh→List SV→Option (List X)
 | [],[]=>some []
 | h::hs,x::xs=>match Qf h x,wY hs xs with|some a,some l=>some (a++l)|_,_=>none
 | _,_=>none
def Al (k:VK) (x:X):SV:=match k with | .int k=>.int k x | .bool=>.bool x | .bit=>.int .u64 x | .nat=>.int .u64 x
def zV:List VK→List X→List SV
 | k::ks,x::xs=>Al k x::zV ks xs
 | _,_=>[]
def Sh.kinds:Sh→List VK
 | .sc k=>[k]
 | .agg l=>l
def Qg (h:Sh) (xs:List X):SV:=match h with
 | .sc k=>match xs with|x::_=>Al k x | []=>.v undef
 | .agg l=>.agg (zV l xs)
def rV:List Sh→List X→List SV
 | [],_=>[]
 | h::hs,xs=>Qg h xs::rV hs (xs.drop h.kinds.length)
def tY:List SV→SV
 | [x]=>x
 | l=>.tup l
def rE (l:List Sh):List VK:=l.flatMap Sh.kinds
def rU:Nat→List VK→List X
 | _,[]=>[]
 | b,k::ks=>.var k b::rU (Nat.succ b) ks
def GH (k:VK) (n:Int):Int:=match k with | .int k=>uR k n | .bool=>sF (sV n) | .bit=>sF (sV n) | .nat=>Int.ofNat n.toNat
def J6 {β:Sort _} : List VK→List Int→(List X→β)→β
 | k::ks,n::ns,K=>Eh (GH k n) fun n=>J6 ks ns fun l=>K (.lit n::l)
 | _,_,K=>K []
def J7:List X→Option (List Int)
 | []=>some []
 | .lit n::l=>match J7 l with|some r=>some (n::r)|none=>none
 | _::_=>none
mutual
def SV.refs:SV→List Nat
 | .v _=>[]
 | .int _ _=>[]
 | .bool _=>[]
 | .loc b _=>[b]
 | .hd k=>[k]
 | .ha k _=>[k]
 | .sl b _ _ _=>[b]
 | .fn _ a c=>SV.refss a++SV.refss c
 | .tup l=>SV.refss l
 | .agg l=>SV.refss l
def SV.refss:List SV→List Nat
 | []=>[]
 | x::l=>SV.refs x++SV.refss l
end
def GI (H:SH):Nat→List Nat→SH→Option SH
 | 0,_,_=>none
 | _+1,[],acc=>some acc
 | f+1,b::todo,acc=>match hget acc b with
  | some _=>GI H f todo acc
  | none=>match hget H b with
   | none=>none
   | some o=>GI H f (SV.refss o.c++todo) ((b,o)::acc)
def reach (H:SH) (l:List Nat):Option SH:=match l with | []=>some []|l=>GI H 2000 l []
def tZ (n:Nat):List Nat→Bool
 | []=>false
 | x::l=>match Nat.beq x n with|true=>true|false=>tZ n l
def addN (n:Nat) (l:List Nat):List Nat:=match tZ n l with|true=>l|false=>n::l
mutual
def SV.ren (f:Nat→Nat):SV→SV
 | .v x=>.v x
 | .int k x=>.int k x
 | .bool x=>.bool x
 | .loc b o=>.loc (f b) o
 | .hd k=>.hd (f k)
 | .ha k off=>.ha (f k) off
 | .sl b o l c=>.sl (f b) o l c
 | .fn g a c=>.fn g (SV.rens f a) (SV.rens f c)
 | .tup l=>.tup (SV.rens f l)
 | .agg l=>.agg (SV.rens f l)
def SV.rens (f:Nat→Nat):List SV→List SV
 | []=>[]
 | x::l=>SV.ren f x::SV.rens f l
end
def uN (m:List (Nat×Nat)) (n:Nat):Nat:=match m with
 | []=>n
 | x::l=>match Nat.beq x.1 n with|true=>x.2|false=>uN l n
structure St where
 N:Nat
 T:rZ
 H:SH
 nv:Nat
 dt:List Nat
 fc:Facts
abbrev J8:=List (Nat×List Nat×Bool)
def BX {β:Sort _} (T:rZ) (d:Option Tmp) (x:SV) (K:rZ→β):β:=match d with|none=>K T|some d=>ME T d x K
def Qh {β:Type} (ops:Array Oper) (T:rZ) (o:Oper) (fc:Facts) (K:Bool→Facts→ru β):ru β:=match o.guard with
 | none=>K true fc
 | some (j,want)=>match (ops[j]?).bind (·.dst) with
  | none=>K false fc
  | some d=>match vo T d with
   | some (.bool x)=>Ai fc x fun b fc=>K (match b with|true=>want|false=>zM want) fc
   | some (.v (.tuple _))=>K false fc
   | _=>.stuck "guard"
def Qi:SV→Option (FuncId×List SV×List SV)
 | .v (.func (.func g) a c)=>some (g,a.toList.map BR,c.toList.map BR)
 | .fn (.func g) a c=>some (g,a,c)
 | _=>none
def Qj (op:Op) (ρ:Operand→Option SV):Option (Option (FuncId×List SV)):=match op with
 | .call { callee:=.value f,args:=xs,argTypes:=_ }=>match ρ f with
  | some fv=>match Qi fv,Et ρ xs.toList with
   | some (g,a,c),some bs=>some (some (g,a++bs++c))
   | _,_=>some none
  | none=>some none
 | _=>none
structure CR where
 r:SV
 tc:List Nat
 ef:List (Nat×SO)
 nv:Nat
 fc:Facts
abbrev CF:=FuncId→List SV→SH→Nat→Nat→Facts→ru CR
def Qk (op:Op) (ρ:Operand→Option SV):Option (X×Option SV×Option SV):=match op with
 | .pick c a b=>match ρ c with
  | some (.bool q)=>some (q,ρ a,ρ b)
  | _=>none
 | _=>none
structure U4 where
 k:Nat
 kd:IntKind
 n:X
 es:List (Value×Value)
 z:Value
 q:Bool
def J9 (kd:IntKind):List (Value×Value)→Bool
 | []=>true
 | x::l=>match x.1 with
  | .int k' _=>match vQ kd k' with|true=>J9 kd l|false=>false
  | _=>false
def Ql (P:Program) (op:Op) (ρ:Operand→Option SV) (H:SH):Option U4:=match op with
 | .lookup t x i q=>match ρ x,ρ i with
  | some (.hd k),some (.int kd n)=>match hget H k with
   | some o=>match o.t,yN o.c with
    | none,some es=>match P.underlying t with
     | some (.map kt et)=>match FU P kt,OA P et with
      | some kd',some z=>match vQ kd' kd,J9 kd es with
       | true,true=>some ⟨k,kd,n,es,z,q⟩
       | _,_=>none
      | _,_=>none
     | _=>none
    | _,_=>none
   | none=>none
  | _,_=>none
 | _=>none
def Ka (q:Bool) (v:Value) (b:Bool):SV:=match q with
 | true=>.tup [BR v,.bool (.lit (sF b))]
 | false=>BR v
def MI {β:Type} (kd:IntKind) (n:X) (q:Bool) (z:Value) (K:SV→Facts→ru β):List (Value×Value)→Facts→ru β
 | [],fc=>K (Ka q z false) fc
 | x::l,fc=>match x.1 with
  | .int _ m=>Ai fc (uD .eql kd n (.lit m)) fun b fc=>match b with
   | true=>K (Ka q x.2 true) fc
   | false=>MI kd n q z K l fc
  | _=>.stuck "key"
structure U5 where
 k:Nat
 c:X
 r:SV
def MJ (H:SH) (k:Nat):Option JW:=match hget H k with
 | some o=>match o.t,yN o.c,za o.c with
  | none,none,some r=>some r
  | _,_,_=>none
 | none=>none
def Kb (k:VK) (x:X):SV:=match k with | .int k=>.int k x | .bool=>.bool x | .bit=>.int .u64 x | .nat=>.int .u64 x
def MK:List VK→List X→List SV
 | k::ks,x::xs=>Kb k x::MK ks xs
 | _,_=>[]
def ML:Nat→List VK→List X
 | _,[]=>[]
 | b,k::ks=>.var k b::ML (Nat.succ b) ks
def Qm (P:Program) (op:Op) (ρ:Operand→Option SV) (H:SH):Option U5:=match op with
 | .indexAddr t x i=>match ρ x,ρ i with
  | some (.hd k),some (.int _ (.lit (.ofNat j)))=>match MJ H k,AQ P t with
   | some r,some el=>match tQ P el with
    | some sz=>match Nat.beq sz r.ks.length with
     | true=>uG (j*sz) fun off=>some ⟨k,uD .lss .i64 (.lit (.ofNat j)) r.n,.ha k off⟩
     | false=>none
    | none=>none
   | _,_=>none
  | _,_=>none
 | .load t x=>match ρ x with
  | some (.ha k off)=>match MJ H k with
   | some r=>uG (off/r.ks.length) fun j=>match Nat.beq (j*r.ks.length) off,CO P t with
    | true,some true=>match tQ P t with
     | some sz=>match Nat.beq sz r.ks.length,Nat.ble 1 sz with
      | true,true=>uG (r.b+off) fun b=>some ⟨k,uD .lss .i64 (.lit (.ofNat j)) r.n,.agg (MK r.ks (ML b r.ks))⟩
      | _,_=>none
     | none=>none
    | true,some false=>match r.ks with
     | [vk]=>uG (r.b+off) fun b=>some ⟨k,uD .lss .i64 (.lit (.ofNat j)) r.n,Kb vk (.var vk b)⟩
     | _=>none
    | _,_=>none
   | none=>none
  | _=>none
 | _=>none
def Be:List (Nat×SO)→List Nat→List Nat
 | [],l=>l
 | x::ef,l=>Be ef (addN x.1 l)
def MM (tc:List Nat):List (Nat×SO)→Bool
 | []=>false
 | x::ef=>match tZ x.1 tc with|true=>true|false=>MM tc ef
def BZ (i:Nat) (tc:List Nat) (ef:List (Nat×SO)) (tr:J8):J8:=match tc with | []=>tr|tc=>(i,tc,MM tc ef)::tr
structure OR where
 T:rZ
 H:SH
 tr:J8
 nv:Nat
 dt:List Nat
 fc:Facts
def zA (C:tC) (cf:CF) (ops:Array Oper) (Nb:Nat):Nat→List Oper→rZ→SH→J8→Nat→List Nat→Facts→ru OR
 | _,[],T,H,tr,nv,dt,fc=>.leaf ⟨T,H,tr,nv,dt,fc⟩
 | i,o::os,T,H,tr,nv,dt,fc=>Qh ops T o fc fun want fc=>match want with
  | false=>BX T o.dst (.v undef) fun T=>zA C cf ops Nb (Nat.succ i) os T H tr nv dt fc
  | true=>match Qj o.op (zS T) with
   | some none=>.stuck "call: operands"
   | some (some (g,args))=>uG (Nb+2*i) fun k=>(cf g args H k nv fc).bind fun r =>
     BX T o.dst r.r fun T=>Bd H r.ef fun H=>zA C cf ops Nb (Nat.succ i) os T H (BZ i r.tc r.ef tr) r.nv (Be r.ef dt) r.fc
   | none=>match Qk o.op (zS T) with
    | some (q,x,y)=>Ai fc q fun b fc=>match (match b with|true=>x|false=>y) with
     | some r=>BX T o.dst r fun T=>zA C cf ops Nb (Nat.succ i) os T H tr nv dt fc
     | none=>.stuck "pick"
    | none=>match Ql C.P o.op (zS T) H with
     | some L=>MI L.kd L.n L.q L.z (fun r fc=>BX T o.dst r fun T=>zA C cf ops Nb (Nat.succ i) os T H (BZ i [L.k] [] tr) nv dt fc) L.es fc
     | none=>match Qm C.P o.op (zS T) H with
      | some L=>Ai fc L.c fun b fc=>match b with
       | true=>BX T o.dst L.r fun T=>zA C cf ops Nb (Nat.succ i) os T H (BZ i [L.k] [] tr) nv dt fc
       | false=>.stuck "index: beyond"
      | none=>uG (Nb+2*i) fun k=>(Qe C.P C.G C.SE fc o.op (zS T) H k).bind fun r =>
       BX T o.dst r.1 fun T=>Bd H r.2.2 fun H=>zA C cf ops Nb (Nat.succ i) os T H (BZ i r.2.1 r.2.2 tr) nv (Be r.2.2 dt) fc
def vU (P:Program) (T:rZ) (H:SH):List ResultVar→Option (List SV)
 | []=>some []
 | .tmp t::l=>match vo T t,vU P T H l with
  | some x,some r=>some (x::r)
  | _,_=>none
 | .cell a t::l=>match vo T a with
  | some (.loc b o)=>match hget H b with
   | some ob=>match ob.t with
    | some _=>match BV P t ob.c o,vU P T H l with
     | some x,some r=>some (x::r)
     | _,_=>none
    | none=>none
   | none=>none
  | _=>none
def vv:List SV→Nat→rZ
 | [],0=>[]
 | [],n+1=>some (.v undef)::vv [] n
 | _::_,0=>[]
 | x::l,n+1=>some x::vv l n
def Ew:SH→Bool
 | []=>true
 | x::l=>match x.2.t with|some _=>Ew l|none=>false
def Kc (k:Nat) (objs:SH):SH→Option (List Nat)
 | []=>some []
 | x::l=>match Kc k objs l with
  | none=>none
  | some r=>match Nat.ble k x.1 with
   | true=>some (x.1::r)
   | false=>match hget objs x.1 with|some _=>some r|none=>none
def MN (k:Nat):List Nat→Option (List (Nat×Nat))
 | []=>some []
 | [n1]=>some [(n1,k)]
 | [n1,n2]=>match Nat.beq n1 n2 with|true=>none|false=>some [(n1,k),(n2,k+1)]
 | _=>none
def yO (dt:List Nat):SH→List Nat
 | []=>[]
 | x::l=>match tZ x.1 dt with|true=>x.1::yO dt l|false=>yO dt l
def Ke (k:Nat):SH→Bool
 | []=>true
 | x::l=>match Nat.blt x.1 k with|true=>Ke k l|false=>false
def keysOf:SH→List Nat
 | []=>[]
 | x::l=>x.1::keysOf l
def Bf (f:Nat→Nat) (H:SH):List Nat→List (Nat×SO)
 | []=>[]
 | b::l=>match hget H b with|some o=>(b,⟨SV.rens f o.c,o.t⟩)::Bf f H l|none=>Bf f H l
def Am (f:Nat→Nat) (H:SH):List Nat→List (Nat×SO)
 | []=>[]
 | b::l=>match hget H b with|some o=>(f b,⟨SV.rens f o.c,o.t⟩)::Am f H l|none=>Am f H l
def MO (P:Program) (fn:Func) (objs:SH) (k:Nat) (s:St):ru CR :=
 match vU P s.T s.H fn.results.toList with
 | none=>.stuck "results"
 | some rs=>match reach s.H (SV.refss rs++yO s.dt objs) with
   | none=>.stuck "reach behind a call"
   | some R2=>match Kc k objs R2,Ew R2 with
    | none,_=>.stuck "a block of nobody"
    | _,false=>.stuck "a number behind a call"
    | some nw,true=>match nw with
     | []=>.leaf ⟨tY rs,keysOf objs,Bf (fun n=>n) s.H (yO s.dt objs),s.nv,s.fc⟩
     | nw=>match MN k nw with
      | none=>.stuck "more than two new blocks"
      | some m=>.leaf ⟨(tY rs).ren (uN m),keysOf objs,Bf (uN m) s.H (yO s.dt objs)++Am (uN m) s.H nw,s.nv,s.fc⟩
mutual
def tV (c:X):SV→SV→Option SV
 | .int k a,.int k' b=>match vQ k k' with|true=>some (.int k (En c a b))|false=>none
 | .bool a,.bool b=>some (.bool (En c a b))
 | .agg l,.agg m=>match Dj c l m with|some r=>some (.agg r)|none=>none
 | .tup l,.tup m=>match Dj c l m with|some r=>some (.tup r)|none=>none
 | _,_=>none
def Dj (c:X):List SV→List SV→Option (List SV)
 | [],[]=>some []
 | x::l,y::m=>match tV c x y,Dj c l m with|some r,some rs=>some (r::rs)|_,_=>none
 | _,_=>none
end
def GJ:List Nat→List Nat→Bool
 | [],[]=>true
 | x::l,y::m=>match Nat.beq x y with|true=>GJ l m|false=>false
 | _,_=>false
def Dk (tc:List Nat) (nv:Nat):ru CR→Option (X×Option SV)
 | .leaf r=>match r.ef with
  | []=>match GJ r.tc tc,Nat.beq r.nv nv with|true,true=>some (.lit (.ofNat 1),some r.r)|_,_=>none
  | _::_=>none
 | .ite c a b=>match Dk tc nv a,Dk tc nv b with
  | some (x,none),some (y,r)=>some (En c x y,r)
  | some (x,r),some (y,none)=>some (En c x y,r)
  | some (x,some r),some (y,some q)=>match tV c r q with|some z=>some (En c x y,some z)|none=>none
  | _,_=>none
 | .stuck _=>some (.lit (.ofNat 0),none)
 | .call _ _ _ _ _=>none
def Qn (tc:List Nat) (nv:Nat) (fc:Facts) (t:ru CR):ru CR:=match t with
 | .ite c a b=>match Dk tc nv (.ite c a b) with
  | some (x,some r)=>Gr x (.leaf ⟨r,tc,[],nv,fc⟩) (.stuck "in a call")
  | _=>.ite c a b
 | t=>t
def regionEnd (nt:Nat) (ops:Array Oper) (draw:Bool) (s:St) (r:OR):ru (Exit×St) :=
 match draw with
 | true=>match drawOK ops nt,traceOK ops s.N r.tr with
  | true,true=>uG (s.N+2*ops.size) fun N=>.leaf (.normal,⟨N,r.T,r.H,r.nv,r.dt,r.fc⟩)
  | false,_=>.stuck "drawOK"
  | _,_=>.stuck "traceOK"
 | false=>match dstsLt nt ops.toList with
  | true=>uG (s.N+2*ops.size) fun N=>.leaf (.normal,⟨N,r.T,r.H,r.nv,r.dt,r.fc⟩)
  | false=>.stuck "dstsLt"
def Kg (P:Program) (ex:Code→St→ru (Exit×St)) (g:FuncId) (args:List SV) (H:SH) (k nv:Nat) (fc:Facts):ru CR:=match P.funcs[g]? with
 | none=>.stuck "no such function"
 | some fn=>match fn.body with
  | none=>.stuck "no body"
  | some cd=>match reach H (SV.refss args) with
   | none=>.stuck "reach"
   | some objs=>match Nat.ble args.length fn.ntmps,Ke k objs,Ew objs with
    | true,true,true=>Qn (keysOf objs) nv fc ((ex cd ⟨k,vv args fn.ntmps,objs,nv,[],fc⟩).bind fun r=>match r.1 with
     | .normal=>MO P fn objs k r.2
     | .ret=>MO P fn objs k r.2
     | _=>.stuck "a call's end")
    | _,_,_=>.stuck "a call's arguments"
def GK (H:SH) (k:VK) (x:SV):Option X:=match k with
 | .nat=>match x with
  | .hd h=>match hget H h with
   | some o=>match o.t with
    | none=>match o.c with
     | [.int _ x]=>some x
     | _=>none
    | some _=>none
   | none=>none
  | .v (.slice none 0 0)=>some (.lit (.ofNat 0))
  | _=>none
 | .int k=>Ak (.int k) x
 | .bool=>Ak .bool x
 | .bit=>Ak .bit x
def Ex (H:SH):List VK→List SV→Option (List X)
 | [],[]=>some []
 | k::ks,x::xs=>match GK H k x,Ex H ks xs with|some a,some l=>some (a::l)|_,_=>none
 | _,_=>none
def Kh (H:SH) (h:Sh) (x:SV):Option (List X):=match h,x with
 | .sc k,x=>match GK H k x with|some a=>some [a]|none=>none
 | .agg l,.agg xs=>Ex H l xs
 | .agg l,.v (.agg cs)=>Ex H l (cs.toList.map xD)
 | _,_=>none
def GL (H:SH):List Sh→List SV→Option (List X)
 | [],[]=>some []
 | h::hs,x::xs=>match Kh H h x,GL H hs xs with|some a,some l=>some (a++l)|_,_=>none
 | _,_=>none
def nN (k:VK):Nat:=match k with | .nat=>1|_=>0
def zb:List VK→Nat
 | []=>0
 | k::ks=>nN k+zb ks
def Ki (k:VK) (x:X) (h:Nat):SV:=match k with | .nat=>.hd h|k=>Al k x
def vw:List VK→List X→Nat→List SV
 | k::ks,x::xs,h=>Ki k x h::vw ks xs (h+nN k)
 | _,_,_=>[]
def Qo (sh:Sh) (xs:List X) (h:Nat):SV:=match sh with
 | .sc k=>match xs with|x::_=>Ki k x h | []=>.v undef
 | .agg l=>.agg (vw l xs h)
def Ey:List Sh→List X→Nat→List SV
 | [],_,_=>[]
 | s::ss,xs,h=>Qo s xs h::Ey ss (xs.drop s.kinds.length) (h+zb s.kinds)
def ym:List VK→List X→Nat→List (Nat×SO)
 | k::ks,x::xs,h=>match k with
  | .nat=>uG h fun h'=>(h',⟨[.int .u64 x],none⟩)::ym ks xs (h+1)
  | _=>ym ks xs h
 | _,_,_=>[]
def Qp (C:tC) (ct:Ct) (g:FuncId) (args:List SV) (H:SH) (k nv:Nat) (fc:Facts):ru CR:=match GL H ct.a args with
 | none=>.stuck "numbers: arguments"
 | some xs=>.call g xs nv (rE ct.r).length (uG (nv+(rE ct.r).length) fun nv'=>.leaf ⟨tY (Ey ct.r (rU nv (rE ct.r)) k),SV.refss args,ym (rE ct.r) (rU nv (rE ct.r)) k,nv',fc⟩)
structure U6 where
 i:List SV
 b:Nat
 o:Nat
 n:Nat
 m:Nat
def Kj:List SV→Option U6
 | []=>none
 | x::l=>match l with
  | []=>match x with
   | .sl b o n m=>some ⟨[],b,o,n,m⟩
   | _=>none
  | y::l'=>match Kj (y::l') with
   | some r=>some ⟨x::r.i,r.b,r.o,r.n,r.m⟩
   | none=>none
def MP:List vT→Nat→Nat→TypeId→Option vT
 | [],_,_,_=>none
 | s::L,n,m,t=>match Nat.beq s.n n,Nat.beq s.n m,Nat.beq s.t t with
  | true,true,true=>some s
  | _,_,_=>MP L n m t
def Qq (C:tC) (L:List vT) (args:List SV) (H:SH) (nv:Nat) (fc:Facts) (K:Unit→ru CR):ru CR:=match Kj args with
 | none=>K ()
 | some r=>match hget H r.b with
  | none=>K ()
  | some o=>match o.t with
   | none=>K ()
   | some t=>match MP L r.n r.m t with
    | none=>K ()
    | some s=>match Nat.beq r.o 0,wY s.a r.i,Ev s.ks o.c with
     | true,some xs,some ys=>match J7 (xs++ys) with
      | some ns=>match Nat.beq (C.Φ s.id ns).length (rE s.r).length with
       | true=>J6 (rE s.r) (C.Φ s.id ns) fun l=>.leaf ⟨tY (rV s.r l),[r.b],[],nv,fc⟩
       | false=>.stuck "contract"
      | none=>.call s.id (xs++ys) nv (rE s.r).length (uG (nv+(rE s.r).length) fun nv'=>.leaf ⟨tY (rV s.r (rU nv (rE s.r))),[r.b],[],nv',fc⟩)
     | _,_,_=>K ()
def Kk (C:tC) (ex:Code→St→ru (Exit×St)) (g:FuncId) (args:List SV) (H:SH) (k nv:Nat) (fc:Facts):ru CR:=match C.nt g with
 | some ct=>Qp C ct g args H k nv fc
 | none=>match C.ct g with
 | none=>match C.sl g with
  | []=>Kg C.P ex g args H k nv fc
  | L=>Qq C L args H nv fc fun _=>Kg C.P ex g args H k nv fc
 | some ct=>match wY ct.a args with
  | none=>Kg C.P ex g args H k nv fc
  | some xs=>match J7 xs with
   | some ns=>match Nat.beq (C.Φ g ns).length (rE ct.r).length with
    | true=>J6 (rE ct.r) (C.Φ g ns) fun l=>.leaf ⟨tY (rV ct.r l),[],[],nv,fc⟩
    | false=>.stuck "contract"
   | none=>.call g xs nv (rE ct.r).length (uG (nv+(rE ct.r).length) fun nv'=>.leaf ⟨tY (rV ct.r (rU nv (rE ct.r))),[],[],nv',fc⟩)
def exec (C:tC):Nat→Code→St→ru (Exit×St)
 | 0,_,_=>.stuck "no fuel"
 | f+1,c,s=>match c with
  | .skip=>.leaf (.normal,s)
  | .label _=>.leaf (.normal,s)
  | .exit id=>.leaf (.exit id,s)
  | .ret=>.leaf (.ret,s)
  | .seq a b=>(exec C f a s).bind fun r=>match r.1 with | .normal=>exec C f b r.2|_=>.leaf r
  | .cond c a b=>match zS s.T c with
   | some (.bool q)=>Ai s.fc q fun bb fc=>match bb with|true=>exec C f a { s with fc:=fc } | false=>exec C f b { s with fc:=fc }
   | _=>.stuck "cond"
  | .block id c=>(exec C f c s).bind fun r=>match r.1 with
   | .exit id'=>match Nat.beq id' id with|true=>.leaf (.normal,r.2)|false=>.leaf r
   | _=>.leaf r
  | .loop c=>(exec C f c s).bind fun r=>match r.1 with | .normal=>exec C f (.loop c) r.2|_=>.leaf r
  | .scope c=>(exec C f c s).bind fun r=>match r.1 with | .goto _=>.stuck "goto" | _=>.leaf r
  | .region _ ops draw=>(zA C (Kk C (exec C f)) ops s.N 0 ops.toList s.T s.H [] s.nv s.dt s.fc).bind fun r=>regionEnd s.T.length ops draw s r
  | _=>.stuck "no such text"
def sw (C:tC) (fuel:Nat) (g:FuncId) (args:List SV) (nv:Nat):ru SV :=
 match C.P.funcs[g]? with
 | none=>.stuck "no such function"
 | some fn=>match fn.body with
  | none=>.stuck "no body"
  | some cd=>match Nat.ble args.length fn.ntmps with
   | true=>(exec C fuel cd ⟨0,vv args fn.ntmps,[],nv,[],[]⟩).bind fun r=>match r.1 with
    | .normal=>match vU C.P r.2.T r.2.H fn.results.toList with|some rs=>.leaf (tY rs)|none=>.stuck "results"
    | .ret=>match vU C.P r.2.T r.2.H fn.results.toList with|some rs=>.leaf (tY rs)|none=>.stuck "results"
    | _=>.stuck "end"
   | false=>.stuck "arguments"
open Go.RowKit
def ut (h:Sh) (ns:List Int):Value:=match h with
 | .sc k=>match ns with|n::_=>tX k n | []=>undef
 | .agg l=>.agg (sW l ns).toArray
def su:List Sh→List Int→List Value
 | [],_=>[]
 | h::hs,ns=>ut h ns::su hs (ns.drop h.kinds.length)
def tH:List Value→Value
 | [x]=>x
 | l=>.tuple l.toArray
def vE:List VK→List Int→List Int
 | k::ks,n::ns=>k.norm n::vE ks ns
 | _,_=>[]
theorem MQ {k:VK} {x:SV} {a:X} (s:rM) (h:Ak k x=some a):x.den s = .v (tX k (a.den s)):=by
 unfold Ak at h
 split at h
 ·split at h
  ·rename_i hk hi
   cases h
   have hk:=xC hk;subst hk
   simp only[SV.den,tX,X.inK_ok s hi]
  ·cases h
 ·cases h;rfl
 ·split at h
  ·rename_i hk hi
   cases h
   have hk:=xC hk;subst hk
   simp only[SV.den,tX];rw[← X.isBit_ok s hi]
  ·cases h
 ·cases h
theorem Kl (s:rM):∀ {ks:List VK} {xs:List SV} {l:List X},Ev ks xs=some l→SV.dens s xs=(sW ks (l.map (X.den s))).map .v∧l.length=ks.length
 | [],[],l,h=>by cases h;exact⟨rfl,rfl⟩
 | k::ks,x::xs,l,h=>by
  simp only[Ev] at h
  split at h
  ·rename_i a l' ha hl
   cases h
   obtain⟨h1,h2⟩:=Kl s hl
   exact⟨by rw[SV.dens,h1,MQ s ha];rfl,by simp[h2]⟩
  ·cases h
 | [],_::_,l,h=>by cases h
 | _::_,[],l,h=>by cases h
theorem adQ (s:rM) {h:Sh} {x:SV} {l:List X} (hh:Qf h x=some l):x.den s = .v (ut h (l.map (X.den s)))∧l.length=h.kinds.length:=by
 unfold Qf at hh
 split at hh
 ·split at hh
  ·rename_i a ha
   cases hh
   exact⟨MQ s ha,rfl⟩
  ·cases hh
 ·obtain⟨h1,h2⟩:=Kl s hh
  exact⟨by simp only[SV.den,h1,Ms];rfl,h2⟩
 ·obtain⟨h1,h2⟩:=Kl s hh
  rw[zR] at h1
  refine⟨?_,h2⟩
  simp only[SV.den,ut]
  rename_i l0 cs
  have:cs.toList=sW l0 (l.map (X.den s)):=by
   have:=congrArg uh h1
   rw[De,De] at this
   exact Option.some.inj this
  rw[← this]
 ·cases hh
theorem U7:∀ (ks:List VK) (p q:List Int),p.length=ks.length→sW ks (p++q)=sW ks p
 | [],[],q,_=>by cases q<;>rfl
 | k::ks,n::p,q,h=>by rw[List.cons_append,sW,sW,U7 ks p q (by simpa using h)]
 | [],_::_,_,h=>by simp at h
 | _::_,[],_,h=>by simp at h
theorem Qr (h:Sh) (p q:List Int) (hl:p.length=h.kinds.length):ut h (p++q)=ut h p:=by
 cases h with
 | sc k =>
  cases p with
  | nil=>simp[Sh.kinds] at hl
  | cons n p=>rfl
 | agg l=>simp only[ut];rw[U7 l p q hl]
theorem Dl (s:rM):∀ {hs:List Sh} {xs:List SV} {l:List X},wY hs xs=some l→SV.dens s xs=(su hs (l.map (X.den s))).map .v∧l.length=(rE hs).length
 | [],[],l,h=>by cases h;exact⟨rfl,rfl⟩
 | h::hs,x::xs,l,hh=>by
  simp only[wY] at hh
  split at hh
  ·rename_i a l' ha hl
   cases hh
   obtain⟨h1,h2⟩:=Dl s hl
   obtain⟨h3,h4⟩:=adQ s ha
   refine⟨?_,by simp[rE,h4] at h2 ⊢;omega⟩
   rw[SV.dens,h1,h3,su,List.map_append,Qr _ _ _ (by simpa using h4),List.map_cons]
   rw[show(List.map (X.den s) a++List.map (X.den s) l').drop h.kinds.length=List.map (X.den s) l' by rw[List.drop_append_of_le_length (by simp[h4])];rw[List.drop_of_length_le (by simp[h4])];rfl]
  ·cases hh
 | [],_::_,l,h=>by cases h
 | _::_,[],l,h=>by cases h
theorem MR {k:VK} {x:X} {n:Int} {s:rM} (h:x.den s=k.norm n):(Al k x).den s = .v (tX k n):=by
 cases k with
 | int k=>simp only[Al,SV.den,h,VK.norm,tX]
 | bool=>simp only[Al,SV.den,h,VK.norm,tX,uF]
 | bit=>simp only[Al,SV.den,h,VK.norm,tX]
 | nat=>simp only[Al,SV.den,h,VK.norm,tX]
theorem MS {s:rM} : ∀ {ks:List VK} {xs:List X} {ns:List Int},xs.map (X.den s)=vE ks ns→xs.length=ks.length→SV.dens s (zV ks xs)=(sW ks ns).map .v
 | [],xs,ns,_,_=>by cases xs<;>rfl
 | k::ks,[],ns,_,hl=>by simp at hl
 | k::ks,x::xs,[],h,_=>by simp[vE] at h
 | k::ks,x::xs,n::ns,h,hl=>by
  simp only[List.map_cons,vE,List.cons.injEq] at h
  rw[zV,SV.dens,MS h.2 (by simpa using hl),MR h.1];rfl
theorem U8:∀ (ks js:List VK) (ns:List Int),(vE (ks++js) ns).take ks.length=vE ks ns
 | [],js,ns=>rfl
 | k::ks,js,[]=>rfl
 | k::ks,js,n::ns=>by rw[List.cons_append,vE,List.length_cons,List.take_succ_cons,U8 ks js ns,vE]
theorem U9:∀ (ks js:List VK) (ns:List Int),(vE (ks++js) ns).drop ks.length=vE js (ns.drop ks.length)
 | [],js,ns=>rfl
 | k::ks,js,[]=>by cases js<;>simp[vE]
 | k::ks,js,n::ns=>by rw[List.cons_append,vE,List.length_cons,List.drop_succ_cons,U9 ks js ns,List.drop_succ_cons]
theorem Va:∀ (ks:List VK) (xs:List X),zV ks (xs.take ks.length)=zV ks xs
 | [],xs=>by cases xs<;>rfl
 | k::ks,[]=>rfl
 | k::ks,x::xs=>by rw[List.length_cons,List.take_succ_cons,zV,Va ks xs,zV]
theorem adR {s:rM} {h:Sh} {js:List VK} {xs:List X} {ns:List Int} (hx:xs.map (X.den s)=vE (h.kinds++js) ns) (hl:xs.length=(h.kinds++js).length):(Qg h xs).den s = .v (ut h ns):=by
 cases h with
 | sc k =>
  cases xs with
  | nil=>simp[Sh.kinds] at hl
  | cons x xs =>
   cases ns with
   | nil=>simp[Sh.kinds,vE] at hx
   | cons n ns =>
    simp only[Sh.kinds,List.cons_append,List.nil_append,vE,List.map_cons,List.cons.injEq] at hx
    exact MR hx.1
 | agg l =>
  simp only[Qg,SV.den,ut]
  have h1:(xs.take l.length).map (X.den s)=vE l ns:=by
   rw[List.map_take,hx];exact U8 l js ns
  rw[← Va l xs,MS h1 (by simp[Sh.kinds] at hl ⊢;omega),Ms]
theorem Ca {s:rM} : ∀ {hs:List Sh} {xs:List X} {ns:List Int},xs.map (X.den s)=vE (rE hs) ns→xs.length=(rE hs).length→SV.dens s (rV hs xs)=(su hs ns).map .v
 | [],xs,ns,_,_=>rfl
 | h::hs,xs,ns,hx,hl=>by
  have hk:rE (h::hs)=h.kinds++rE hs:=by simp[rE]
  rw[hk] at hx hl
  rw[rV,SV.dens,adR hx hl,Ca (hs:=hs) (ns:=ns.drop h.kinds.length) (by rw[List.map_drop,hx,U9]) (by simp at hl ⊢;omega)]
  rfl
theorem Bg (s:rM):∀ (ks:List VK) (b:Nat),(rU b ks).map (X.den s)=vE ks (vR s b ks.length)∧(rU b ks).length=ks.length
 | [],b=>⟨rfl,rfl⟩
 | k::ks,b=>by
  obtain⟨h1,h2⟩:=Bg s ks (b+1)
  refine⟨?_,by simp[rU,h2]⟩
  rw[rU,List.map_cons,h1];rfl
theorem Vb (k:VK) (n:Int):GH k n=k.norm n:=by
 cases k with
 | int k=>exact uw k n
 | bool=>simp only[GH,VK.norm,uS]
 | bit=>simp only[GH,VK.norm,uS]
 | nat=>rfl
def GM:List VK→List Int→List X
 | k::ks,n::ns=>.lit (GH k n)::GM ks ns
 | _,_=>[]
theorem Qs {β:Sort _} : ∀ (ks:List VK) (ns:List Int) (K:List X→β),J6 ks ns K=K (GM ks ns)
 | [],ns,K=>by cases ns<;>rfl
 | k::ks,[],K=>rfl
 | k::ks,n::ns,K=>by rw[J6,Ei,Qs ks ns];rfl
theorem Qt (s:rM):∀ (ks:List VK) (ns:List Int),(GM ks ns).map (X.den s)=vE ks ns
 | [],ns=>by cases ns<;>rfl
 | k::ks,[]=>rfl
 | k::ks,n::ns=>by rw[GM,List.map_cons,Qt s ks ns,vE,X.den,Vb]
theorem Qu:∀ (ks:List VK) (ns:List Int),ns.length=ks.length→(GM ks ns).length=ks.length
 | [],ns,_=>by cases ns<;>rfl
 | k::ks,[],h=>by simp at h
 | k::ks,n::ns,h=>by rw[GM];simp[Qu ks ns (by simpa using h)]
theorem Qv (s:rM):∀ {xs:List X} {ns:List Int},J7 xs=some ns→xs.map (X.den s)=ns
 | [],ns,h=>by cases h;rfl
 | .lit n::l,ns,h=>by
  simp only[J7] at h
  split at h
  ·rename_i r hr;cases h;rw[List.map_cons,Qv s hr];rfl
  ·cases h
 | .var _ _::_,_,h=>by cases h
 | .bin _ _ _ _::_,_,h=>by cases h
 | .conv _ _::_,_,h=>by cases h
 | .com _ _::_,_,h=>by cases h
 | .not _::_,_,h=>by cases h
 | .and _ _::_,_,h=>by cases h
 | .beq _ _::_,_,h=>by cases h
 | .min _ _::_,_,h=>by cases h
 | .max _ _::_,_,h=>by cases h
 | .ite _ _ _::_,_,h=>by cases h
 | .dlen _::_,_,h=>by cases h
theorem Qw {s:rM} {l:List SV} {vs:List Value} (h:SV.dens s l=vs.map .v):(tY l).den s = .v (tH vs):=by
 match l,vs,h with
 | [],[],_=>simp only[tY,SV.den,SV.dens,tH];exact Mt []
 | [x],[v],h=>simpa [SV.dens,tY,tH] using h
 | x::y::l,v::u::vs,h =>
  simp only[tY,SV.den,h,Mt,tH]
 | [],v::vs,h=>simp[SV.dens] at h
 | x::l,[],h=>simp[SV.dens] at h
 | [x],v::u::vs,h=>simp[SV.dens] at h
 | x::y::l,[v],h=>simp[SV.dens] at h
theorem GN (s:rM) (l:List SV):Ag (SV.dens s l)=(tY l).den s:=by
 match l with
 | []=>rfl
 | [x]=>rfl
 | x::y::l=>rfl
mutual
theorem Vd (s:rM) (c:X):∀ {a b r:SV},tV c a b=some r→r.den s=if c.den s=0 then b.den s else a.den s
 | .int k a,.int k' b,r,h=>by
  simp only[tV] at h
  split at h
  ·rename_i hk
   cases h
   have:=xC hk;subst this
   simp only[SV.den,JS];split<;>rfl
  ·cases h
 | .bool a,.bool b,r,h=>by
  simp only[tV] at h
  cases h
  simp only[SV.den,JS];split<;>rfl
 | .agg l,.agg m,r,h=>by
  simp only[tV] at h
  split at h
  ·rename_i q hq
   cases h
   have:=Qx s c hq
   simp only[SV.den,this];split<;>rfl
  ·cases h
 | .tup l,.tup m,r,h=>by
  simp only[tV] at h
  split at h
  ·rename_i q hq
   cases h
   have:=Qx s c hq
   simp only[SV.den,this];split<;>rfl
  ·cases h
 | .v _,_,_,h=>by simp[tV] at h
 | .loc _ _,_,_,h=>by simp[tV] at h
 | .sl _ _ _ _,_,_,h=>by simp[tV] at h
 | .fn _ _ _,_,_,h=>by simp[tV] at h
 | .int _ _,.v _,_,h=>by simp[tV] at h
 | .int _ _,.bool _,_,h=>by simp[tV] at h
 | .int _ _,.loc _ _,_,h=>by simp[tV] at h
 | .int _ _,.sl _ _ _ _,_,h=>by simp[tV] at h
 | .int _ _,.fn _ _ _,_,h=>by simp[tV] at h
 | .int _ _,.tup _,_,h=>by simp[tV] at h
 | .int _ _,.agg _,_,h=>by simp[tV] at h
 | .bool _,.v _,_,h=>by simp[tV] at h
 | .bool _,.int _ _,_,h=>by simp[tV] at h
 | .bool _,.loc _ _,_,h=>by simp[tV] at h
 | .bool _,.sl _ _ _ _,_,h=>by simp[tV] at h
 | .bool _,.fn _ _ _,_,h=>by simp[tV] at h
 | .bool _,.tup _,_,h=>by simp[tV] at h
 | .bool _,.agg _,_,h=>by simp[tV] at h
 | .agg _,.v _,_,h=>by simp[tV] at h
 | .agg _,.int _ _,_,h=>by simp[tV] at h
 | .agg _,.bool _,_,h=>by simp[tV] at h
 | .agg _,.loc _ _,_,h=>by simp[tV] at h
 | .agg _,.sl _ _ _ _,_,h=>by simp[tV] at h
 | .agg _,.fn _ _ _,_,h=>by simp[tV] at h
 | .agg _,.tup _,_,h=>by simp[tV] at h
 | .tup _,.v _,_,h=>by simp[tV] at h
 | .tup _,.int _ _,_,h=>by simp[tV] at h
 | .tup _,.bool _,_,h=>by simp[tV] at h
 | .tup _,.loc _ _,_,h=>by simp[tV] at h
 | .tup _,.sl _ _ _ _,_,h=>by simp[tV] at h
 | .tup _,.fn _ _ _,_,h=>by simp[tV] at h
 | .tup _,.agg _,_,h=>by simp[tV] at h
theorem Qx (s:rM) (c:X):∀ {a b r:List SV},Dj c a b=some r→SV.dens s r=if c.den s=0 then SV.dens s b else SV.dens s a
 | [],[],r,h=>by simp only[Dj] at h;cases h;split<;>rfl
 | x::l,y::m,r,h=>by
  simp only[Dj] at h
  split at h
  ·rename_i q qs h1 h2
   cases h
   have e1:=Vd s c h1
   have e2:=Qx s c h2
   simp only[SV.dens,e1,e2];split<;>rfl
  ·cases h
 | [],_::_,_,h=>by simp[Dj] at h
 | _::_,[],_,h=>by simp[Dj] at h
end
theorem Ve:∀ {a b:List Nat},GJ a b=true→a=b
 | [],[],_=>rfl
 | x::l,y::m,h=>by
  simp only[GJ] at h
  split at h
  ·rename_i hb;rw[tq.1 hb,Ve h]
  ·cases h
 | [],_::_,h=>by simp[GJ] at h
 | _::_,[],h=>by simp[GJ] at h
theorem Ez {Φ:uM} {s:rM} {tc:List Nat} {nv:Nat} : ∀ {t:ru CR} {x:X} {o:Option SV},Dk tc nv t=some (x,o)→x.den s≠0→∃ r,t.path Φ s=some r∧r.tc=tc∧r.ef = []∧∃ z,o=some z∧z.den s=r.r.den s
 | .leaf r,x,o,h,hx=>by
  simp only[Dk] at h
  split at h
  ·rename_i he
   split at h
   ·rename_i h1 h2
    cases h
    exact⟨r,rfl,Ve h1,he,_,rfl,rfl⟩
   ·cases h
  ·cases h
 | .stuck w,x,o,h,hx=>by simp only[Dk,Option.some.injEq,Prod.mk.injEq] at h;rw[← h.1] at hx;exact absurd rfl hx
 | .call _ _ _ _ _,x,o,h,hx=>by simp[Dk] at h
 | .ite c a b,x,o,h,hx=>by
  simp only[Dk] at h
  split at h
  ·rename_i y1 y2 q h1 h2
   cases h
   rw[JS] at hx
   by_cases hc:c.den s=0
   ·rw[if_pos hc] at hx
    obtain⟨r,hr,h3⟩:=Ez (Φ:=Φ) h2 hx
    exact⟨r,by simp only[ru.path,if_pos hc];exact hr,h3⟩
   ·rw[if_neg hc] at hx
    obtain⟨r,hr,_,_,z,hz,_⟩:=Ez (Φ:=Φ) h1 hx
    cases hz
  ·rename_i y1 q y2 hno h1 h2
   cases h
   rw[JS] at hx
   by_cases hc:c.den s=0
   ·rw[if_pos hc] at hx
    obtain⟨r,hr,_,_,z,hz,_⟩:=Ez (Φ:=Φ) h2 hx
    cases hz
   ·rw[if_neg hc] at hx
    obtain⟨r,hr,h3⟩:=Ez (Φ:=Φ) h1 hx
    exact⟨r,by simp only[ru.path,if_neg hc];exact hr,h3⟩
  ·rename_i y1 q1 y2 q2 h1 h2
   split at h
   ·rename_i z hz
    cases h
    have hzd:=Vd s c hz
    rw[JS] at hx
    by_cases hc:c.den s=0
    ·rw[if_pos hc] at hx hzd
     obtain⟨r,hr,h3,h4,u,hu,h5⟩:=Ez (Φ:=Φ) h2 hx
     cases hu
     exact⟨r,by simp only[ru.path,if_pos hc];exact hr,h3,h4,_,rfl,hzd.trans h5⟩
    ·rw[if_neg hc] at hx hzd
     obtain⟨r,hr,h3,h4,u,hu,h5⟩:=Ez (Φ:=Φ) h1 hx
     cases hu
     exact⟨r,by simp only[ru.path,if_neg hc];exact hr,h3,h4,_,rfl,hzd.trans h5⟩
   ·cases h
  ·cases h
theorem adS {Φ:uM} {s:rM} {tc:List Nat} {nv:Nat} {fc:Facts} {t:ru CR} {r':CR} (hf:tF s fc) (h:(Qn tc nv fc t).path Φ s=some r'):∃ r,t.path Φ s=some r∧r.r.den s=r'.r.den s∧r.tc=r'.tc∧r.ef=r'.ef∧(tF s r.fc→tF s r'.fc):=by
 unfold Qn at h
 split at h
 ·rename_i c a b
  split at h
  ·rename_i x z hm
   rw[Pv] at h
   split at h
   ·cases h
   ·rename_i hx
    cases h
    obtain⟨r,h1,h2,h3,u,hu,h4⟩:=Ez (Φ:=Φ) hm hx
    cases hu
    exact⟨r,h1,h4.symm,h2,h3,fun _=>hf⟩
  ·exact⟨r',h,rfl,rfl,rfl,id⟩
 ·exact⟨r',h,rfl,rfl,rfl,id⟩
open Go.RowKit
mutual
theorem SV.den_refs (s:rM):∀ (x:SV) {r:Nat},r∈(x.den s).refs→r∈x.refs
 | .v _,r,h=>by simp[SV.den,AV.refs] at h
 | .int _ _,r,h=>by simp[SV.den,AV.refs] at h
 | .bool _,r,h=>by simp[SV.den,AV.refs] at h
 | .loc b o,r,h=>by simpa [SV.den,AV.refs,SV.refs] using h
 | .sl b o l c,r,h=>by simpa [SV.den,AV.refs,SV.refs] using h
 | .hd k,r,h=>by simpa [SV.den,AV.refs,SV.refs] using h
 | .ha k off,r,h=>by simpa [SV.den,AV.refs,SV.refs] using h
 | .fn g a c,r,h=>by
  rw[SV.den] at h
  rw[SV.refs]
  rcases List.mem_append.1 (TK h) with h|h
  ·exact List.mem_append_left _ (SV.dens_refs s a h)
  ·exact List.mem_append_right _ (SV.dens_refs s c h)
 | .tup l,r,h=>by rw[SV.den] at h;rw[SV.refs];exact SV.dens_refs s l (abJ h)
 | .agg l,r,h=>by rw[SV.den] at h;rw[SV.refs];exact SV.dens_refs s l (Ox h)
theorem SV.dens_refs (s:rM):∀ (l:List SV) {r:Nat},r∈AV.refss (SV.dens s l)→r∈SV.refss l
 | [],r,h=>by simp[SV.dens,AV.refss] at h
 | x::l,r,h=>by
  rw[SV.dens,AV.refss] at h
  rw[SV.refss]
  rcases List.mem_append.1 h with h|h
  ·exact List.mem_append_left _ (SV.den_refs s x h)
  ·exact List.mem_append_right _ (SV.dens_refs s l h)
end
theorem Km (f:Nat→Nat):∀ l:List AV,uh (AV.rens f l)=uh l
 | []=>rfl
 | .v x::l=>by simp only[AV.rens,AV.ren,uh,Km f l]
 | .loc _ _::l=>rfl
 | .sl _ _ _ _::l=>rfl
 | .hd _::l=>rfl
 | .ha _ _::l=>rfl
 | .fn _ _ _::l=>rfl
 | .tup _::l=>rfl
 | .agg _::l=>rfl
theorem adT (f:Nat→Nat) (l:List AV):(wC l).ren f=wC (AV.rens f l):=by
 unfold wC;rw[Km];cases uh l<;>rfl
theorem adU (f:Nat→Nat) (l:List AV):(xA l).ren f=xA (AV.rens f l):=by
 unfold xA;rw[Km];cases uh l<;>rfl
theorem adV (f:Nat→Nat) (g:Fn) (a c:List AV):(xB g a c).ren f=xB g (AV.rens f a) (AV.rens f c):=by
 unfold xB;rw[Km,Km];cases uh a<;>cases uh c<;>rfl
mutual
theorem SV.den_ren (s:rM) (f:Nat→Nat):∀ x:SV,(x.ren f).den s=(x.den s).ren f
 | .v _=>rfl
 | .int _ _=>rfl
 | .bool _=>rfl
 | .loc b o=>rfl
 | .hd k=>rfl
 | .ha k off=>rfl
 | .sl b o l c=>rfl
 | .fn g a c=>by simp only[SV.ren,SV.den,adV,SV.dens_ren s f a,SV.dens_ren s f c]
 | .tup l=>by simp only[SV.ren,SV.den,adU,SV.dens_ren s f l]
 | .agg l=>by simp only[SV.ren,SV.den,adT,SV.dens_ren s f l]
theorem SV.dens_ren (s:rM) (f:Nat→Nat):∀ l:List SV,SV.dens s (SV.rens f l)=AV.rens f (SV.dens s l)
 | []=>rfl
 | x::l=>by simp only[SV.rens,SV.dens,AV.rens,SV.den_ren s f x,SV.dens_ren s f l]
end
mutual
theorem AV.ren_id {f:Nat→Nat} : ∀ x:AV,(∀ r∈x.refs,f r=r)→x.ren f=x
 | .v _,_=>rfl
 | .loc b o,h=>by simp only[AV.ren];rw[h b (by simp[AV.refs])]
 | .sl b o l c,h=>by simp only[AV.ren];rw[h b (by simp[AV.refs])]
 | .hd k,h=>by simp only[AV.ren];rw[h k (by simp[AV.refs])]
 | .ha k o,h=>by simp only[AV.ren];rw[h k (by simp[AV.refs])]
 | .fn g a c,h=>by
  simp only[AV.ren]
  rw[AV.rens_id a (fun r hr=>h r (by rw[AV.refs];exact List.mem_append_left _ hr)),AV.rens_id c (fun r hr=>h r (by rw[AV.refs];exact List.mem_append_right _ hr))]
 | .tup l,h=>by simp only[AV.ren];rw[AV.rens_id l (fun r hr=>h r (by rw[AV.refs];exact hr))]
 | .agg l,h=>by simp only[AV.ren];rw[AV.rens_id l (fun r hr=>h r (by rw[AV.refs];exact hr))]
theorem AV.rens_id {f:Nat→Nat} : ∀ l:List AV,(∀ r∈AV.refss l,f r=r)→AV.rens f l=l
 | [],_=>rfl
 | x::l,h=>by
  rw[AV.rens,AV.ren_id x (fun r hr=>h r (by rw[AV.refss];exact List.mem_append_left _ hr)),AV.rens_id l (fun r hr=>h r (by rw[AV.refss];exact List.mem_append_right _ hr))]
end
theorem Kn {n:Nat} : ∀ {l:List Nat},tZ n l=true↔n∈l
 | []=>by simp[tZ]
 | x::l=>by
  simp only[tZ]
  cases h:Nat.beq x n with
  | true=>simp only[tq.1 h,List.mem_cons,true_or]
  | false =>
   simp only[]
   rw[Kn,List.mem_cons]
   constructor
   ·exact .inr
   ·rintro(rfl|h1)
    ·simp at h
    ·exact h1
theorem Cb {j:Nat} : ∀ {H:SH},(∃ o,hget H j=some o)↔j∈keysOf H
 | []=>by simp[hget,keysOf]
 | x::l=>by
  simp only[hget,keysOf]
  cases h:Nat.beq x.1 j with
  | true=>simp[tq.1 h]
  | false =>
   simp only[]
   rw[Cb,List.mem_cons]
   constructor
   ·exact .inr
   ·rintro(rfl|h1)
    ·simp at h
    ·exact h1
theorem Vf {k:Nat} : ∀ {H:SH},Ke k H=true→∀ j∈keysOf H,j<k
 | [],_,j,h=>by simp[keysOf] at h
 | x::l,h,j,hj=>by
  simp only[Ke] at h
  split at h
  ·rename_i hb
   simp only[keysOf,List.mem_cons] at hj
   rcases hj with rfl|hj
   ·simpa [Nat.blt_eq] using hb
   ·exact Vf h j hj
  ·cases h
structure Reached (H:SH) (l:List Nat) (R:SH):Prop where
 sub:∀ b o,hget R b=some o→hget H b=some o
 cl:∀ b o,hget R b=some o→∀ r∈SV.refss o.c,r∈keysOf R
 all:∀ b∈l,b∈keysOf R
theorem Qy {H:SH} : ∀ {n:Nat} {todo:List Nat} {acc R:SH},GI H n todo acc=some R→(∀ b o,hget acc b=some o→hget H b=some o)→(∀ b o,hget acc b=some o→∀ r∈SV.refss o.c,r∈todo∨r∈keysOf acc) →
  Reached H todo R∧∀ b∈keysOf acc,b∈keysOf R
 | 0,_,_,_,h,_,_=>by cases h
 | n+1,[],acc,R,h,h1,h2=>by
  simp only[GI,Option.some.injEq] at h;subst h
  exact⟨⟨h1,fun b o hb r hr=>(h2 b o hb r hr).resolve_left (by simp),fun b hb=>by simp at hb⟩,fun b hb=>hb⟩
 | n+1,b::todo,acc,R,h,h1,h2=>by
  simp only[GI] at h
  split at h
  ·rename_i o ho
   have hk:b∈keysOf acc:=Cb.1 ⟨o,ho⟩
   obtain⟨h3,h4⟩:=Qy h h1 (fun b' o' hb' r hr=>by
    rcases h2 b' o' hb' r hr with h5|h5
    ·rcases List.mem_cons.1 h5 with rfl|h5
     ·exact .inr hk
     ·exact .inl h5
    ·exact .inr h5)
   refine⟨⟨h3.sub,h3.cl,fun b' hb'=>?_⟩,h4⟩
   rcases List.mem_cons.1 hb' with rfl|hb'
   ·exact h4 _ hk
   ·exact h3.all _ hb'
  ·split at h
   ·cases h
   ·rename_i hno _ o ho
    have hget':∀ b' o',hget ((b,o)::acc) b'=some o'→(b'=b∧o'=o)∨hget acc b'=some o':=fun b' o' hb'=>by
     simp only[hget] at hb'
     split at hb'
     ·rename_i he;cases hb';exact .inl ⟨(tq.1 he).symm,rfl⟩
     ·exact .inr hb'
    obtain⟨h3,h4⟩:=Qy h (fun b' o' hb'=>by
     rcases hget' b' o' hb' with⟨rfl,rfl⟩|hb'
     ·exact ho
     ·exact h1 b' o' hb') (fun b' o' hb' r hr=>by
     rcases hget' b' o' hb' with⟨rfl,rfl⟩|hb'
     ·exact .inl (List.mem_append_left _ hr)
     ·rcases h2 b' o' hb' r hr with h5|h5
      ·rcases List.mem_cons.1 h5 with rfl|h5
       ·exact .inr (by simp[keysOf])
       ·exact .inl (List.mem_append_right _ h5)
      ·exact .inr (by simp[keysOf,h5]))
    refine⟨⟨h3.sub,h3.cl,fun b' hb'=>?_⟩,fun b' hb'=>h4 _ (by simp[keysOf,hb'])⟩
    rcases List.mem_cons.1 hb' with rfl|hb'
    ·exact h4 _ (by simp[keysOf])
    ·exact h3.all _ (List.mem_append_right _ hb')
theorem Vg {H:SH} {l:List Nat} {R:SH} (h:reach H l=some R):Reached H l R:=by
 unfold reach at h
 split at h
 ·cases h;exact⟨fun b o hb=>(by cases hb),fun b o hb=>(by cases hb),fun b hb=>(by cases hb)⟩
 ·exact(Qy h (fun b o hb=>(by cases hb)) (fun b o hb=>(by cases hb))).1
theorem Vh {k:Nat} {objs:SH} : ∀ {R:SH} {nw:List Nat},Kc k objs R=some nw→(∀ j∈keysOf R,j∈nw∨j∈keysOf objs)∧∀ n∈nw,k≤n∧n∈keysOf R
 | [],nw,h=>by cases h;exact⟨fun j hj=>by simp[keysOf] at hj,fun n hn=>by simp at hn⟩
 | x::l,nw,h=>by
  simp only[Kc] at h
  split at h
  ·cases h
  ·rename_i r hr
   obtain⟨h1,h2⟩:=Vh hr
   split at h
   ·rename_i hk
    cases h
    refine⟨fun j hj=>?_,fun n hn=>?_⟩
    ·simp only[keysOf,List.mem_cons] at hj
     rcases hj with rfl|hj
     ·exact .inl List.mem_cons_self
     ·exact(h1 j hj).imp (List.mem_cons_of_mem _) id
    ·rcases List.mem_cons.1 hn with rfl|hn
     ·exact⟨Nat.le_of_ble_eq_true hk,by simp[keysOf]⟩
     ·exact⟨(h2 n hn).1,by simp[keysOf,(h2 n hn).2]⟩
   ·split at h
    ·rename_i o ho
     cases h
     refine⟨fun j hj=>?_,fun n hn=>⟨(h2 n hn).1,by simp[keysOf,(h2 n hn).2]⟩⟩
     simp only[keysOf,List.mem_cons] at hj
     rcases hj with rfl|hj
     ·exact .inr (Cb.1 ⟨o,ho⟩)
     ·exact h1 j hj
    ·cases h
theorem Cc {dt:List Nat} {j:Nat} : ∀ {H:SH},j∈yO dt H↔j∈keysOf H∧tZ j dt=true
 | []=>by simp[yO,keysOf]
 | x::l=>by
  simp only[yO,keysOf]
  cases h:tZ x.1 dt with
  | true =>
   simp only[List.mem_cons,Cc (H:=l)]
   constructor
   ·rintro(rfl|h1)
    ·exact⟨.inl rfl,h⟩
    ·exact⟨.inr h1.1,h1.2⟩
   ·rintro⟨rfl|h1,h2⟩
    ·exact .inl rfl
    ·exact .inr ⟨h1,h2⟩
  | false =>
   simp only[List.mem_cons,Cc (H:=l)]
   constructor
   ·rintro⟨h1,h2⟩;exact⟨.inr h1,h2⟩
   ·rintro⟨rfl|h1,h2⟩
    ·rw[h] at h2;cases h2
    ·exact⟨h1,h2⟩
def GQ (s:rM) (f:Nat→Nat) (o:SO):AO:=(⟨SV.rens f o.c,o.t⟩:SO).den s
theorem adW (f:Nat→Nat):∀ c:List SV,BU (SV.rens f c)=BU c
 | []=>rfl
 | [x]=>by cases x<;>rfl
 | x::y::l=>by cases x<;>cases y<;>rfl
theorem adX (f:Nat→Nat):∀ c:List SV,yN (SV.rens f c)=yN c
 | []=>rfl
 | [x]=>by cases x<;>rfl
 | x::y::l=>rfl
theorem Vi (f:Nat→Nat):∀ l:List SV,(SV.rens f l).map Mw=l.map Mw
 | []=>rfl
 | x::l=>by
  rw[SV.rens,List.map_cons,List.map_cons,Vi f l]
  cases x<;>rfl
theorem adY (f:Nat→Nat):∀ c:List SV,za (SV.rens f c)=za c
 | []=>rfl
 | [x]=>rfl
 | [x,y]=>rfl
 | x::y::z::l=>by
  have e1:Mx (SV.ren f x)=Mx x:=by cases x<;>rfl
  have e2:MB (SV.ren f y)=MB y:=by cases y<;>rfl
  have e3:MC (SV.ren f z)=MC z:=by cases z<;>rfl
  simp only[SV.rens,za,Vi,e1,e2,e3]
theorem Vj (s:rM) (f:Nat→Nat) (o:SO):GQ s f o=AO.ren f (o.den s):=by
 obtain⟨c,t⟩:=o
 cases t with
 | some t=>unfold GQ SO.den AO.ren;simp only[SV.dens_ren]
 | none =>
  unfold GQ SO.den
  simp only[adW,adX,adY]
  cases yN c with
  | some es=>rfl
  | none=>cases za c<;>rfl
theorem EA:∀ {l:SH} {k:Nat} {o:SO},Ew l=true→hget l k=some o→∃ t,o.t=some t
 | [],k,o,_,h=>by cases h
 | x::l,k,o,ha,h=>by
  simp only[Ew] at ha
  simp only[hget] at h
  split at ha
  ·rename_i t ht
   split at h
   ·cases h;exact⟨t,ht⟩
   ·exact EA ha h
  ·cases ha
theorem Vk:∀ (a b:List (Nat×AO)) (H:rG),H.puts (a++b)=(H.puts a).puts b
 | [],b,H=>rfl
 | x::a,b,H=>by rw[List.cons_append,rG.puts,rG.puts,Vk a b]
theorem Qz (s:rM) (f:Nat→Nat) (Hh:SH):∀ (l:List Nat) (H:rG) (j:Nat),(H.puts (sO s (Bf f Hh l))) j=match (match tZ j l with|true=>hget Hh j|false=>none) with|some o=>some (GQ s f o)|none=>H j
 | [],H,j=>rfl
 | b::l,H,j=>by
  simp only[Bf]
  cases ho:hget Hh b with
  | some o =>
   simp only[]
   rw[sO,List.map_cons,rG.puts]
   have ih:=Qz s f Hh l (H.put b (GQ s f o)) j
   rw[sO] at ih
   refine ih.trans ?_
   simp only[tZ]
   cases hb:Nat.beq b j with
   | true =>
    have:=tq.1 hb;subst this
    simp only[ho]
    cases tZ b l with
    | true=>simp only[ho]
    | false=>simp only[rG.put_same]
   | false =>
    simp only[]
    cases hm:tZ j l with
    | true =>
     simp only[]
     cases hget Hh j with
     | some _=>rfl
     | none=>simp only[];exact rG.put_ne _ _ _ (fun e=>by subst e;simp at hb)
    | false=>simp only[];exact rG.put_ne _ _ _ (fun e=>by subst e;simp at hb)
  | none =>
   simp only[]
   refine(Qz s f Hh l H j).trans ?_
   simp only[tZ]
   cases hb:Nat.beq b j with
   | true =>
    have:=tq.1 hb;subst this
    simp only[ho]
    cases tZ b l<;>simp only[ho]
   | false=>rfl
structure Names (k:Nat) (nw:List Nat) (m:List (Nat×Nat)) (f:Nat→Nat) (src:Nat→Option Nat):Prop where
 old:∀ j,j<k→f j=j
 new:∀ n∈nw,src (f n)=some n
 srcOld:∀ j,j<k→src j=none
 srcNew:∀ j n,src j=some n→n∈nw∧f n=j∧(j=k∨j=k+1)
theorem adZ {k:Nat} {nw:List Nat} {m:List (Nat×Nat)} (h:MN k nw=some m) (hk:∀ n∈nw,k≤n):∃ src,Names k nw m (uN m) src∧∀ (s:rM) (Hh:SH),(∀ n∈nw,∃ o,hget Hh n=some o)→∀ (H:rG) (j:Nat),
  (H.puts (sO s (Am (uN m) Hh nw))) j=match src j with|some n=>(hget Hh n).map (GQ s (uN m))|none=>H j:=by
 unfold MN at h
 split at h
 ·cases h
  exact⟨fun _=>none,⟨fun _ _=>rfl,fun n hn=>by simp at hn,fun _ _=>rfl,fun _ _ h=>by cases h⟩,fun s Hh _ H j=>rfl⟩
 ·rename_i n1
  cases h
  have h1:=hk n1 (by simp)
  refine⟨fun j=>if j=k then some n1 else none,⟨?_,?_,?_,?_⟩,?_⟩
  ·intro j hj
   simp only[uN]
   cases hb:Nat.beq n1 j with
   | true=>have:=tq.1 hb;omega
   | false=>rfl
  ·intro n hn
   simp only[List.mem_singleton] at hn;subst hn
   simp[uN]
  ·intro j hj;simp;omega
  ·intro j n hs
   split at hs
   ·rename_i hj;cases hs;subst hj;exact⟨by simp,by simp[uN],.inl rfl⟩
   ·cases hs
  ·intro s Hh hH H j
   obtain⟨o,ho⟩:=hH n1 (by simp)
   simp only[Am,ho,sO,List.map_cons,List.map_nil,rG.puts]
   have hf:uN [(n1,k)] n1=k:=by simp[uN]
   rw[hf]
   by_cases hj:j=k
   ·subst hj;simp only[if_true,rG.put_same,ho];rfl
   ·simp only[if_neg hj];exact rG.put_ne _ _ _ hj
 ·rename_i n1 n2
  split at h
  ·cases h
  ·rename_i hne
   cases h
   have h1:=hk n1 (by simp);have h2:=hk n2 (by simp)
   have hne':n1≠n2:=fun e=>by subst e;simp at hne
   have f1:uN [(n1,k),(n2,k+1)] n1=k:=by simp[uN]
   have f2:uN [(n1,k),(n2,k+1)] n2=k+1:=by
    simp only[uN,hne];simp
   refine⟨fun j=>if j=k then some n1 else if j=k+1 then some n2 else none,⟨?_,?_,?_,?_⟩,?_⟩
   ·intro j hj
    simp only[uN]
    cases hb:Nat.beq n1 j with
    | true=>have:=tq.1 hb;omega
    | false =>
     simp only[]
     cases hb2:Nat.beq n2 j with
     | true=>have:=tq.1 hb2;omega
     | false=>rfl
   ·intro n hn
    simp only[List.mem_cons,List.not_mem_nil,or_false] at hn
    rcases hn with rfl|rfl
    ·rw[f1];simp
    ·rw[f2];simp
   ·intro j hj
    rw[if_neg (by omega),if_neg (by omega)]
   ·intro j n hs
    split at hs
    ·rename_i hj;cases hs;subst hj;exact⟨by simp,f1,.inl rfl⟩
    ·split at hs
     ·rename_i hj;cases hs;subst hj;exact⟨by simp,f2,.inr rfl⟩
     ·cases hs
   ·intro s Hh hH H j
    obtain⟨o1,ho1⟩:=hH n1 (by simp)
    obtain⟨o2,ho2⟩:=hH n2 (by simp)
    simp only[Am,ho1,ho2,sO,List.map_cons,List.map_nil,rG.puts,f1,f2]
    by_cases hj:j=k
    ·subst hj
     rw[rG.put_ne _ _ _ (by omega),rG.put_same]
     simp only[if_true,ho1];rfl
    ·by_cases hj2:j=k+1
     ·subst hj2
      rw[rG.put_same]
      simp only[if_neg hj,if_true,ho2];rfl
     ·rw[rG.put_ne _ _ _ hj2,rG.put_ne _ _ _ hj]
      simp only[if_neg hj,if_neg hj2]
 ·cases h
theorem QA:∀ (l:List SV) (n t:Nat),vo (vv l n) t=match l[t]? with|some x=>if t<n then some x else none|none=>if t<n then some (.v undef) else none
 | [],0,t=>by simp[vv,vo]
 | [],n+1,0=>by simp[vv,vo]
 | [],n+1,t+1=>by
  simp only[vv,vo]
  rw[QA [] n t];simp
 | x::l,0,t=>by
  simp only[vv,vo]
  cases (x::l)[t]? <;> simp
 | x::l,n+1,0=>by simp[vv,vo]
 | x::l,n+1,t+1=>by
  simp only[vv,vo]
  rw[QA l n t];simp
theorem Ko (s:rM) (l:List SV) (n:Nat):rZ.den s (vv l n)=BL (SV.dens s l) n:=by
 funext t
 unfold rZ.den BL
 rw[QA,SV.dens_map,List.getElem?_map]
 cases l[t]? with
 | some x=>simp only[Option.map_some];split<;>rfl
 | none=>simp only[Option.map_none];split<;>rfl
theorem EB:∀ (l:List SV) (n:Nat),l.length≤n→(vv l n).length=n
 | [],0,_=>rfl
 | [],n+1,_=>by rw[vv];simp[EB [] n (by simp)]
 | x::l,0,h=>by simp at h
 | x::l,n+1,h=>by rw[vv];simp[EB l n (by simpa using h)]
theorem EC {P:Program} {G:rX} (s:rM) {T:rZ} {H:SH} : ∀ {l:List ResultVar} {rs:List SV},vU P T H l=some rs→yJ P G (rZ.den s T) (SH.den s H) l=some (SV.dens s rs)
 | [],rs,h=>by cases h;rfl
 | .tmp t::l,rs,h=>by
  simp only[vU] at h
  split at h
  ·rename_i x r hx hr
   cases h
   simp only[yJ,EC s hr]
   have:rZ.den s T t=some (x.den s):=by simp[rZ.den,hx]
   rw[this];rfl
  ·cases h
 | .cell a t::l,rs,h=>by
  simp only[vU] at h
  split at h
  ·rename_i b o hx
   split at h
   ·rename_i ob hob
    split at h
    ·rename_i t0 ht0
     split at h
     ·rename_i x r hx2 hr
      cases h
      have:rZ.den s T a=some (.loc b o):=by simp[rZ.den,hx,SV.den]
      simp only[yJ,this,xK,SH.den_get hob ht0,Er s hx2,EC s hr];rfl
     ·cases h
    ·cases h
   ·cases h
  ·cases h
structure ze (C:tC) (s:rM) (g:FuncId) (args:List SV) (H:SH) (k:Nat) (r:CR):Prop where
 tc:∀ b∈r.tc,SH.den s H b≠none
 ef:∀ x∈sO s r.ef,x.1=k∨x.1=k+1∨x.1∈r.tc
 fc:tF s r.fc
 ok:∀ w0 B0,Ed C.P C.G w0 B0 g (SV.dens s args) (SH.den s H) r.tc k (r.r.den s) (sO s r.ef)
def Vl (H0:SH) (dt:List Nat) (H:SH):Prop:=∀ j,tZ j dt=false→hget H j=hget H0 j
def wZ (s:rM) (ex:Exit) (st:St):yI:=fun x N T H=>x=ex∧N=st.N∧T=rZ.den s st.T∧H=SH.den s st.H
theorem QB {s:rM} {f:Nat→Nat} {Hh:SH} : ∀ {l:List Nat} {x:Nat×AO},x∈sO s (Bf f Hh l)→x.1∈l
 | [],x,h=>by simp[Bf,sO] at h
 | b::l,x,h=>by
  simp only[Bf] at h
  split at h
  ·rw[sO,List.map_cons] at h
   rcases List.mem_cons.1 h with rfl|h
   ·exact List.mem_cons_self
   ·exact List.mem_cons_of_mem _ (QB h)
  ·exact List.mem_cons_of_mem _ (QB h)
theorem QC {s:rM} {f:Nat→Nat} {Hh:SH} : ∀ {l:List Nat} {x:Nat×AO},x∈sO s (Am f Hh l)→∃ n∈l,x.1=f n
 | [],x,h=>by simp[Am,sO] at h
 | b::l,x,h=>by
  simp only[Am] at h
  split at h
  ·rw[sO,List.map_cons] at h
   rcases List.mem_cons.1 h with rfl|h
   ·exact⟨b,List.mem_cons_self,rfl⟩
   ·obtain⟨n,hn,e⟩:=QC h;exact⟨n,List.mem_cons_of_mem _ hn,e⟩
  ·obtain⟨n,hn,e⟩:=QC h;exact⟨n,List.mem_cons_of_mem _ hn,e⟩
theorem Vm {C:tC} {E:tK} {s:rM} {g:FuncId} {fn:Func} {cd:Code} {args:List SV} {H objs:SH} {k:Nat} {ex:Exit} {st:St} {rs:List SV} {R2:SH} {nw:List Nat} {m:List (Nat×Nat)} {fc:Facts}
  (hf:C.P.funcs[g]? = some fn) (hb:fn.body=some cd) (hn:(fn.name == "runtime.NumGoroutine")=false) (hro:reach H (SV.refss args)=some objs) (hl:Nat.ble args.length fn.ntmps=true) (hk:Ke k objs=true)
  (hA:∀ w0 B0,AW ⟨C.P,C.G,E,w0,B0,fn.ntmps⟩ cd (wZ s ex st) k (rZ.den s (vv args fn.ntmps)) (SH.den s objs)) (hex:ex = .normal∨ex = .ret) (hD:Vl objs st.dt st.H) (hfc:tF s fc)
  (hrs:vU C.P st.T st.H fn.results.toList=some rs) (hR2:reach st.H (SV.refss rs++yO st.dt objs)=some R2) (hw0:Ew objs=true) (hw2:Ew R2=true) (hnw:Kc k objs R2=some nw) (hm:MN k nw=some m) (nv:Nat) :
  ze C s g args H k ⟨(tY rs).ren (uN m),keysOf objs,Bf (uN m) st.H (yO st.dt objs)++Am (uN m) st.H nw,nv,fc⟩:=by
 have ro:=Vg hro
 have r2:=Vg hR2
 obtain⟨n1,n2⟩:=Vh hnw
 obtain⟨src,hN,hput⟩:=adZ hm (fun n hn=>(n2 n hn).1)
 have hlt:=Vf hk
 have hH:∀ j∈keysOf objs,∃ o,hget objs j=some o∧hget H j=some o:=fun j hj=>by
  obtain⟨o,ho⟩:=Cb.2 hj;exact⟨o,ho,ro.sub j o ho⟩
 have hden:∀ j∈keysOf objs,SH.den s objs j=SH.den s H j:=fun j hj=>by
  obtain⟨o,h1,h2⟩:=hH j hj;unfold SH.den;rw[h1,h2]
 have hnew:∀ n∈nw,∃ o,hget st.H n=some o∧hget R2 n=some o:=fun n hn=>by
  obtain⟨o,ho⟩:=Cb.2 (n2 n hn).2;exact⟨o,r2.sub n o ho,ho⟩
 let sr:Nat→Option Nat:=fun j=>if j∈keysOf objs then some j else src j
 have srk:∀ j∈keysOf objs,sr j=some j:=fun j hj=>if_pos hj
 have srn:∀ r,(r∈nw∨r∈keysOf objs)→sr (uN m r)=some r:=by
  rintro r (hr|hr)
  ·have h1:=hN.new r hr
   have:uN m r∉keysOf objs:=fun hm'=>by
    have:=hN.srcOld _ (hlt _ hm');rw[this] at h1;cases h1
   show(if _ then _ else _)=_
   rw[if_neg this,h1]
  ·rw[hN.old r (hlt r hr)];exact srk r hr
 have clean:∀ j∈keysOf objs,tZ j st.dt=false→∃ o,hget st.H j=some o∧hget objs j=some o:=fun j hj hd=>by
  obtain⟨o,h1,_⟩:=hH j hj;exact⟨o,by rw[hD j hd];exact h1,h1⟩
 have cont:∀ j o,hget st.H j=some o→(j∈nw∨j∈keysOf objs)→∀ r∈SV.refss o.c,r∈nw∨r∈keysOf objs:=by
  intro j o ho hj r hr
  have wX:∀ b,b∈keysOf R2→hget st.H b=some o→r∈nw∨r∈keysOf objs:=fun b hbk hb=>by
   obtain⟨o',ho'⟩:=Cb.2 hbk
   have:=r2.sub b o' ho';rw[hb] at this;cases this
   exact n1 r (r2.cl b o ho' r hr)
  rcases hj with hj|hj
  ·exact wX j (n2 j hj).2 ho
  ·cases hd:tZ j st.dt with
   | true=>exact wX j (r2.all j (List.mem_append_right _ (Cc.2 ⟨hj,hd⟩))) ho
   | false =>
    obtain⟨o',h1,h2⟩:=clean j hj hd
    rw[ho] at h1;cases h1
    exact .inr (ro.cl j o h2 r hr)
 have have':∀ j,(j∈nw∨j∈keysOf objs)→∃ o,hget st.H j=some o:=by
  rintro j (hj|hj)
  ·obtain⟨o,h1,_⟩:=hnew j hj;exact⟨o,h1⟩
  ·cases hd:tZ j st.dt with
   | true =>
    obtain⟨o,ho⟩:=Cb.2 (r2.all j (List.mem_append_right _ (Cc.2 ⟨hj,hd⟩)))
    exact⟨o,r2.sub j o ho⟩
   | false=>obtain⟨o,h1,_⟩:=clean j hj hd;exact⟨o,h1⟩
 have own':∀ j o,(j∈nw∨j∈keysOf objs)→hget st.H j=some o→∃ t,o.t=some t:=by
  intro j o hj ho
  rcases hj with hj|hj
  ·obtain⟨o',h1,h2⟩:=hnew j hj
   rw[ho] at h1;cases h1
   exact EA hw2 h2
  ·cases hd:tZ j st.dt with
   | true =>
    obtain⟨o',ho'⟩:=Cb.2 (r2.all j (List.mem_append_right _ (Cc.2 ⟨hj,hd⟩)))
    have:=r2.sub j o' ho';rw[ho] at this;cases this
    exact EA hw2 ho'
   | false =>
    obtain⟨o',h1,h2⟩:=clean j hj hd
    rw[ho] at h1;cases h1
    exact EA hw0 h2
 refine⟨?_,?_,hfc,?_⟩
 ·intro b hb
  obtain⟨o,_,h2⟩:=hH b hb
  unfold SH.den;rw[h2];simp
 ·intro x hx
  rw[sO,List.map_append,← sO,← sO] at hx
  rcases List.mem_append.1 hx with hx|hx
  ·exact .inr (.inr (Cc.1 (QB hx)).1)
  ·obtain⟨n,hn,e⟩:=QC hx
   rw[e]
   exact(hN.srcNew _ n (hN.new n hn)).2.2.imp id .inl
 ·intro w0 B0
  rw[SV.den_ren]
  refine adP E (H1:=SH.den s objs) (Hc:=SH.den s st.H) (keysOf objs) k sr (uN m) hf hb hn (by rw[zx];exact hl) ?_ ?_ ?_ ?_ ?_ srk ?_ ?_ ?_ ?_
  ·intro j o hj
   unfold SH.den at hj
   cases hg:hget objs j with
   | none=>rw[hg] at hj;cases hj
   | some o'=>exact Cb.1 ⟨o',hg⟩
  ·intro j hj
   obtain⟨o,h1,h2⟩:=hH j hj
   obtain⟨t0,ht0⟩:=EA hw0 h1
   exact⟨hden j hj,⟨_,_,SH.den_get h2 ht0⟩,hlt j hj⟩
  ·intro j c t hj r hr
   unfold SH.den at hj
   cases hg:hget objs j with
   | none=>rw[hg] at hj;cases hj
   | some o' =>
    rw[hg] at hj
    obtain⟨t0,ht0⟩:=EA hw0 hg
    rw[Option.map_some,SO.den_own s ht0] at hj
    simp only[Option.some.injEq,AO.own.injEq] at hj
    rw[← hj.1] at hr
    exact ro.cl j o' hg r (SV.dens_refs s _ hr)
  ·intro x hx j hj
   rw[SV.dens_map] at hx
   obtain⟨y,hy,rfl⟩:=List.mem_map.1 hx
   refine ro.all j ?_
   have:j∈AV.refss (SV.dens s args):=AV.mem_refss.2 ⟨_,by rw[SV.dens_map];exact List.mem_map_of_mem hy,hj⟩
   exact SV.dens_refs s args this
  ·intro j n hs
   have key:(n∈nw∨n∈keysOf objs)∧uN m n=j:=by
    by_cases hj:j∈keysOf objs
    ·have:sr j=some j:=srk j hj
     rw[this] at hs;cases hs
     exact⟨.inr hj,hN.old j (hlt j hj)⟩
    ·have:sr j=src j:=if_neg hj
     rw[this] at hs
     obtain⟨h1,h2,_⟩:=hN.srcNew j n hs
     exact⟨.inl h1,h2⟩
   obtain⟨o,ho⟩:=have' n key.1
   obtain⟨t0,ht0⟩:=own' n o key.1 ho
   refine⟨key.2,_,_,SH.den_get ho ht0,fun r hr=>srn r (cont n o ho key.1 r (SV.dens_refs s _ hr))⟩
  ·intro j n hs
   by_cases hj:j∈keysOf objs
   ·exact .inl hj
   ·have:sr j=src j:=if_neg hj
    rw[this] at hs
    exact .inr (hN.srcNew j n hs).2.2
  ·intro j hj
   refine srn j (n1 j (r2.all j (List.mem_append_left _ ?_)))
   have h1:=SV.den_refs s _ hj
   cases rs with
   | nil=>simp[tY,SV.refs,SV.refss] at h1
   | cons x l=>cases l with
    | nil=>simpa [tY,SV.refss] using h1
    | cons y l=>exact h1
  ·intro H' hag j
   rw[sO,List.map_append,← sO,← sO,Vk,hput s st.H (fun n hn=>(hnew n hn).imp fun o ho=>ho.1),Qz]
   by_cases hj:j∈keysOf objs
   ·have h0:src j=none:=hN.srcOld j (hlt j hj)
    rw[h0,srk j hj]
    simp only
    cases hd:tZ j st.dt with
    | true =>
     have:tZ j (yO st.dt objs)=true:=Kn.2 (Cc.2 ⟨hj,hd⟩)
     rw[this]
     obtain⟨o,ho⟩:=have' j (.inr hj)
     simp only[ho,SH.den,Option.map_some,Vj]
    | false =>
     have:tZ j (yO st.dt objs)=false:=by
      cases hmn:tZ j (yO st.dt objs) with
      | false=>rfl
      | true=>have:=(Cc.1 (Kn.1 hmn)).2;rw[hd] at this;cases this
     rw[this]
     obtain⟨o,h1,h2⟩:=clean j hj hd
     obtain⟨o',h3,h4⟩:=hH j hj
     rw[h2] at h3;cases h3
     simp only[]
     rw[hag j hj]
     obtain⟨t0,ht0⟩:=EA hw0 h2
     simp only[SH.den,h1,h4,Option.map_some,SO.den_own s ht0,AO.ren]
     rw[AV.rens_id _ (fun r hr=>hN.old r (hlt r (ro.cl j o h2 r (SV.dens_refs s _ hr))))]
   ·have h0:sr j=src j:=if_neg hj
    rw[h0]
    cases hs:src j with
    | some n =>
     simp only
     obtain⟨o,ho⟩:=have' n (.inl (hN.srcNew j n hs).1)
     simp only[ho,SH.den,Option.map_some,Vj]
    | none =>
     simp only
     have:tZ j (yO st.dt objs)=false:=by
      cases hmn:tZ j (yO st.dt objs) with
      | false=>rfl
      | true=>exact absurd (Cc.1 (Kn.1 hmn)).1 hj
     rw[this]
  ·intro w1 B
   have:=hA w1 B
   rw[Ko] at this
   refine this.mono ?_
   rintro x N T Hx ⟨rfl,rfl,rfl,rfl⟩
   have hres:=EC (G:=C.G) s hrs
   rcases hex with rfl|rfl
   ·exact⟨_,hres,GN s rs,rfl⟩
   ·exact⟨_,hres,GN s rs,rfl⟩
open Go.RowKit
def QD (w:World) (k:VK) (n:Int) (v:Value):Prop:=match k with
 | .nat=>Reads w v (Ah n.toNat) (BS n.toNat)
 | k=>v=tX k n
def uT (w:World):List VK→List Int→List Value→Prop
 | [],[],[]=>True
 | k::ks,n::ns,v::vs=>QD w k n v∧uT w ks ns vs
 | _,_,_=>False
def Kq (h:Sh) (vs:List Value):Value:=match h with
 | .sc _=>vs.headD undef
 | .agg l=>.agg (vs.take l.length).toArray
def ED:List Sh→List Value→List Value
 | [],_=>[]
 | h::hs,vs=>Kq h vs::ED hs (vs.drop h.kinds.length)
def MU (P:Program) (G:rX) (g:FuncId) (ct:Ct) (l r:List Int):Prop:=∀ w fvs,Gl G w→uT w (rE ct.a) l fvs→wW P g (ED ct.a fvs).toArray w fun e w' =>
 ∃ fus,e = .returned (tH (ED ct.r fus))∧uT w' (rE ct.r) r fus∧(∀ u∈fus,∀ b,wV u=some b→w.heap.size≤b∨∃ v∈fvs,wV v=some b)∧ry w w'
theorem uT.len {w:World} : ∀ {ks:List VK} {ns:List Int} {vs:List Value},uT w ks ns vs→ns.length=ks.length∧vs.length=ks.length
 | [],[],[],_=>⟨rfl,rfl⟩
 | k::ks,n::ns,v::vs,h=>by obtain⟨h1,h2⟩:=uT.len h.2;exact⟨by simp[h1],by simp[h2]⟩
 | [],_::_,_,h=>h.elim
 | [],[],_::_,h=>h.elim
 | _::_,[],_,h=>h.elim
 | _::_,_::_,[],h=>h.elim
theorem Vn {w:World} {v:Value} {n:Nat} {c:List Value} (h:Reads w v n c):zK v=v:=by
 rcases h with⟨h1,_⟩|⟨b',o,cap,h1,_⟩<;>rw[h1]<;>rfl
theorem ad1 {k:VK} {n:Int} (h:nN k=0):wV (tX k n)=none:=by
 cases k<;>first|rfl|cases h
theorem uT.append {w:World} : ∀ {ks js:List VK} {ns ms:List Int} {vs us:List Value},uT w ks ns vs→uT w js ms us→uT w (ks++js) (ns++ms) (vs++us)
 | [],js,[],ms,[],us,_,h=>h
 | k::ks,js,n::ns,ms,v::vs,us,h,h'=>⟨h.1,uT.append h.2 h'⟩
 | [],_,_::_,_,_,_,h,_=>h.elim
 | [],_,[],_,_::_,_,h,_=>h.elim
 | _::_,_,[],_,_,_,h,_=>h.elim
 | _::_,_,_::_,_,[],_,h,_=>h.elim
structure Ce (w0:World) (B0:sN) (e:Env) (H:rG) (v:Value):Prop where
 ap:∀ b,wV v=some b→∀ j c t,H j=some (.own c t)→b≠e.blk j
 new:∀ b,wV v=some b→w0.heap.size≤b∨∃ j∈B0.dom,wV (B0.env.hnd j)=some b
section
variable {G:rX} {w0:World} {B0:sN} {e:Env} {H':rG} {w:World} {s:rM} {H:SH}
theorem Vo {v:Value} (h:wV v=none):Ce w0 B0 e H' v:=⟨fun b hb=>(by rw[h] at hb;cases hb),fun b hb=>(by rw[h] at hb;cases hb)⟩
theorem Vp (R:si G w0 B0 e H' w) {k:VK} {x:SV} {a:X} (h:GK H k x=some a) (hag:∀ b∈x.refs,H' b=SH.den s H b) :
  ∃ v,(x.den s).val e=v∧QD w k (a.den s) v∧Ce w0 B0 e H' v:=by
 have plain:∀ k,nN k=0→Ak k x=some a→∃ v,(x.den s).val e=v∧v=tX k (a.den s)∧Ce w0 B0 e H' v:=fun k hk h=>by
  refine⟨_,rfl,?_,?_⟩
  ·rw[MQ s h];rfl
  ·rw[MQ s h];exact Vo (ad1 hk)
 cases k with
 | int k=>exact plain _ rfl h
 | bool=>exact plain _ rfl h
 | bit=>exact plain _ rfl h
 | nat =>
  simp only[GK] at h
  split at h
  ·rename_i j
   split at h
   ·rename_i o ho
    split at h
    ·rename_i ht
     obtain⟨kd,x,hc,rfl⟩:∃ kd x,o.c = [.int kd x]∧a=x:=by
      split at h
      ·rename_i kd x hc;cases h;exact⟨kd,_,hc,rfl⟩
      ·cases h
     have hj:H' j=some (.rd (Ah (X.den s a).toNat) (BS (X.den s a).toNat)):=by
      have:=SH.den_nat (s:=s) ho ht (by rw[hc];rfl) (by rw[hc];rfl)
      rw[hag j (by simp[SV.refs]),this,hc];rfl
     have hr:=R.rd j _ _ hj
     refine⟨e.hnd j,?_,hr,?_,?_⟩
     ·simp only[SV.den,AV.val];exact Vn hr
     ·intro b hb i c t hi he
      exact R.apart j _ _ i c t hj hi (by rw[hb,he])
     ·intro b hb;exact R.new j _ _ hj b hb
    ·cases h
   ·cases h
  ·cases h
   refine⟨.slice none 0 0,rfl,?_,Vo rfl⟩
   exact .inl ⟨rfl,rfl,rfl⟩
  ·cases h
theorem QE (R:si G w0 B0 e H' w):∀ {ks:List VK} {xs:List SV} {l:List X},Ex H ks xs=some l→(∀ b∈SV.refss xs,H' b=SH.den s H b) →
  ∃ fvs,AV.vals e (SV.dens s xs)=fvs∧uT w ks (l.map (X.den s)) fvs∧∀ v∈fvs,Ce w0 B0 e H' v
 | [],[],l,h,_=>by cases h;exact⟨[],rfl,trivial,fun v hv=>by cases hv⟩
 | k::ks,x::xs,l,h,hag=>by
  simp only[Ex] at h
  split at h
  ·rename_i a l' ha hl
   cases h
   obtain⟨fvs,h1,h2,h3⟩:=QE R hl (fun b hb=>hag b (by rw[SV.refss];exact List.mem_append_right _ hb))
   obtain⟨v,h4,h5,h6⟩:=Vp R ha (fun b hb=>hag b (by rw[SV.refss];exact List.mem_append_left _ hb))
   refine⟨v::fvs,by rw[SV.dens,AV.vals,h1,h4],⟨h5,h2⟩,fun u hu=>?_⟩
   rcases List.mem_cons.1 hu with rfl|hu
   ·exact h6
   ·exact h3 u hu
  ·cases h
 | [],_::_,l,h,_=>by cases h
 | _::_,[],l,h,_=>by cases h
theorem ad2 (R:si G w0 B0 e H' w) {sh:Sh} {x:SV} {l:List X} (h:Kh H sh x=some l) (hag:∀ b∈x.refs,H' b=SH.den s H b) :
  ∃ fvs,(∀ us,(x.den s).val e=Kq sh (fvs++us))∧uT w sh.kinds (l.map (X.den s)) fvs∧∀ v∈fvs,Ce w0 B0 e H' v:=by
 unfold Kh at h
 split at h
 ·split at h
  ·rename_i a ha
   cases h
   obtain⟨v,h1,h2,h3⟩:=Vp R ha hag
   exact⟨[v],fun us=>h1,⟨h2,trivial⟩,fun u hu=>by simp at hu;subst hu;exact h3⟩
  ·cases h
 ·rename_i ks xs
  obtain⟨fvs,h1,h2,h3⟩:=QE R h (fun b hb=>hag b (by rw[SV.refs];exact hb))
  refine⟨fvs,fun us=>?_,h2,h3⟩
  rw[SV.den,JA,h1]
  simp only[Kq]
  rw[List.take_append_of_le_length (by rw[(uT.len h2).2];exact Nat.le_refl _),List.take_of_length_le (by rw[(uT.len h2).2];exact Nat.le_refl _)]
 ·rename_i ks cs
  have hrf:∀ l:List Value,SV.refss (l.map xD) = []:=fun l=>by
   induction l with
   | nil=>rfl
   | cons x l ih=>rw[List.map_cons,SV.refss,ih];cases x<;>rfl
  obtain⟨fvs,h1,h2,h3⟩:=QE R h (fun b hb=>by rw[hrf] at hb;cases hb)
  refine⟨fvs,fun us=>?_,h2,h3⟩
  rw[zR,vO] at h1
  simp only[SV.den,AV.val,Kq]
  rw[List.take_append_of_le_length (by rw[(uT.len h2).2];exact Nat.le_refl _),List.take_of_length_le (by rw[(uT.len h2).2];exact Nat.le_refl _),← h1]
 ·cases h
theorem Vq (R:si G w0 B0 e H' w):∀ {hs:List Sh} {xs:List SV} {l:List X},GL H hs xs=some l→(∀ b∈SV.refss xs,H' b=SH.den s H b) →
  ∃ fvs,AV.vals e (SV.dens s xs)=ED hs fvs∧uT w (rE hs) (l.map (X.den s)) fvs∧∀ v∈fvs,Ce w0 B0 e H' v
 | [],[],l,h,_=>by cases h;exact⟨[],rfl,trivial,fun v hv=>by cases hv⟩
 | sh::hs,x::xs,l,h,hag=>by
  simp only[GL] at h
  split at h
  ·rename_i a l' ha hl
   cases h
   obtain⟨fvs,h1,h2,h3⟩:=Vq R hl (fun b hb=>hag b (by rw[SV.refss];exact List.mem_append_right _ hb))
   obtain⟨gvs,h4,h5,h6⟩:=ad2 R ha (fun b hb=>hag b (by rw[SV.refss];exact List.mem_append_left _ hb))
   refine⟨gvs++fvs,?_,?_,fun u hu=>?_⟩
   ·rw[SV.dens,AV.vals,h1,h4 fvs,ED,List.drop_append_of_le_length (by rw[(uT.len h5).2];exact Nat.le_refl _),List.drop_of_length_le (by rw[(uT.len h5).2];exact Nat.le_refl _)];rfl
   ·have hk:rE (sh::hs)=sh.kinds++rE hs:=by simp[rE]
    rw[hk,List.map_append]
    exact uT.append h5 h2
   ·rcases List.mem_append.1 hu with hu|hu
    ·exact h6 u hu
    ·exact h3 u hu
  ·cases h
 | [],_::_,l,h,_=>by cases h
 | _::_,[],l,h,_=>by cases h
theorem ad3 {k:VK} {x:SV} {a:X} (h:Ak k x=some a):x.refs = []:=by
 unfold Ak at h
 split at h<;>first|rfl|cases h
theorem ad4 {b:Nat} {o:SO} (h:hget H b=some o):SH.den s H b≠none:=by unfold SH.den;rw[h];simp
theorem Vr {k:VK} {x:SV} {a:X} (h:GK H k x=some a):∀ b∈x.refs,SH.den s H b≠none:=by
 have plain:∀ k,Ak k x=some a→∀ b∈x.refs,SH.den s H b≠none:=fun k h b hb=>by rw[ad3 h] at hb;cases hb
 cases k with
 | int k=>exact plain _ h
 | bool=>exact plain _ h
 | bit=>exact plain _ h
 | nat =>
  simp only[GK] at h
  split at h
  ·rename_i j
   split at h
   ·rename_i o ho
    intro b hb
    simp[SV.refs] at hb;subst hb
    exact ad4 ho
   ·cases h
  ·intro b hb;simp[SV.refs] at hb
  ·cases h
theorem Vs:∀ {ks:List VK} {xs:List SV} {l:List X},Ex H ks xs=some l→∀ b∈SV.refss xs,SH.den s H b≠none
 | [],[],l,h,b,hb=>by simp[SV.refss] at hb
 | k::ks,x::xs,l,h,b,hb=>by
  simp only[Ex] at h
  split at h
  ·rename_i a l' ha hl
   rw[SV.refss] at hb
   rcases List.mem_append.1 hb with hb|hb
   ·exact Vr ha b hb
   ·exact Vs hl b hb
  ·cases h
 | [],_::_,l,h,_,_=>by cases h
 | _::_,[],l,h,_,_=>by cases h
theorem ad5 {sh:Sh} {x:SV} {l:List X} (h:Kh H sh x=some l):∀ b∈x.refs,SH.den s H b≠none:=by
 unfold Kh at h
 split at h
 ·split at h
  ·rename_i a ha;exact Vr ha
  ·cases h
 ·exact fun b hb=>Vs h b (by simpa [SV.refs] using hb)
 ·intro b hb;simp[SV.refs] at hb
 ·cases h
theorem Vt:∀ {hs:List Sh} {xs:List SV} {l:List X},GL H hs xs=some l→∀ b∈SV.refss xs,SH.den s H b≠none
 | [],[],l,h,b,hb=>by simp[SV.refss] at hb
 | sh::hs,x::xs,l,h,b,hb=>by
  simp only[GL] at h
  split at h
  ·rename_i a l' ha hl
   rw[SV.refss] at hb
   rcases List.mem_append.1 hb with hb|hb
   ·exact ad5 ha b hb
   ·exact Vt hl b hb
  ·cases h
 | [],_::_,l,h,_,_=>by cases h
 | _::_,[],l,h,_,_=>by cases h
theorem Vu (k:VK):(k = .nat∧nN k=1)∨(nN k=0∧(∀ x h,Ki k x h=Al k x)∧∀ (w:World) n v,QD w k n v↔v=tX k n):=by
 cases k<;>first|exact .inl ⟨rfl,rfl⟩|exact .inr ⟨rfl,fun _ _=>rfl,fun _ _ _=>Iff.rfl⟩
theorem Vv {x:X} {ks:List VK} {xs:List X} {h:Nat} : ym (.nat::ks) (x::xs) h=(h,⟨[.int .u64 x],none⟩)::ym ks xs (h+1):=by simp only[ym,uq]
theorem Vw {k:VK} (hk:nN k=0) {x:X} {ks:List VK} {xs:List X} {h:Nat} : ym (k::ks) (x::xs) h=ym ks xs h:=by
 cases k<;>first|rfl|cases hk
theorem QF:∀ {ks:List VK} {xs:List X} {h:Nat} {y:Nat×SO},y∈ym ks xs h→h≤y.1∧y.1<h+zb ks
 | [],xs,h,y,hy=>by simp[ym] at hy
 | k::ks,[],h,y,hy=>by simp[ym] at hy
 | k::ks,x::xs,h,y,hy=>by
  rcases Vu k with⟨rfl,h1⟩|⟨h1,_⟩
  ·rw[Vv] at hy
   rw[zb,h1]
   rcases List.mem_cons.1 hy with rfl|hy
   ·exact⟨Nat.le_refl _,by omega⟩
   ·have:=QF hy;omega
  ·rw[Vw h1] at hy
   have:=QF hy
   rw[zb];omega
theorem Env.on.trans' {H1 H2:rG} {e e1 e2:Env} (h1:Env.on H1 e e1) (h2:Env.on H2 e1 e2) (hs:∀ k,H1 k≠none→H2 k≠none):Env.on H1 e e2:=fun k hk =>
 ⟨(h2 k (hs k hk)).1.trans (h1 k hk).1,(h2 k (hs k hk)).2.trans (h1 k hk).2⟩
theorem QG:∀ {ks:List VK} {xs:List X} {ns:List Int} {fus:List Value} {h:Nat} {e:Env} {H':rG},si G w0 B0 e H' w→xs.map (X.den s)=vE ks ns→uT w ks ns fus→(∀ u∈fus,Ce w0 B0 e H' u) →
  (∀ j,h≤j→j<h+zb ks→H' j=none)→∃ e',si G w0 B0 e' (H'.puts (sO s (ym ks xs h))) w∧Env.on H' e e'∧AV.vals e' (SV.dens s (vw ks xs h))=fus∧∀ c∈SV.refss (vw ks xs h),(H'.puts (sO s (ym ks xs h))) c≠none
 | [],xs,ns,fus,h,e,H',R,hx,hf,hg,hn=>by
  obtain⟨l1,l2⟩:=uT.len hf
  have:fus = []:=List.eq_nil_of_length_eq_zero l2
  subst this
  have hu:vw [] xs h = []:=by cases xs<;>rfl
  have he:ym [] xs h = []:=by cases xs<;>rfl
  rw[hu,he]
  exact⟨e,R,Env.on.refl _ _,rfl,fun c hc=>by cases hc⟩
 | k::ks,[],ns,fus,h,e,H',R,hx,hf,hg,hn=>by
  obtain⟨l1,l2⟩:=uT.len hf
  cases ns with
  | nil=>simp at l1
  | cons n ns=>simp[vE] at hx
 | k::ks,x::xs,[],fus,h,e,H',R,hx,hf,hg,hn=>by simp[vE] at hx
 | k::ks,x::xs,n::ns,[],h,e,H',R,hx,hf,hg,hn=>hf.elim
 | k::ks,x::xs,n::ns,u::fus,h,e,H',R,hx,hf,hg,hn=>by
  simp only[List.map_cons,vE,List.cons.injEq] at hx
  rcases Vu k with⟨rfl,h1⟩|⟨h1,h2,h3⟩
  ·rw[zb,h1] at hn
   have hk:H' h=none:=hn h (Nat.le_refl _) (by omega)
   have gu:=hg u List.mem_cons_self
   have hr:Reads w u (Ah n.toNat) (BS n.toNat):=hf.1
   have hxn:((x.den s).toNat:Nat)=n.toNat:=by rw[hx.1];rfl
   have R1:=R.handle hk hr (fun j c t hj he=>gu.ap _ he j c t hj rfl) gu.new
   have hon1:=Env.setHnd_on hk e u
   have hsz:∀ {v:Value},Ce w0 B0 e H' v→Ce w0 B0 (e.setHnd h u) (H'.put h (.rd (Ah n.toNat) (BS n.toNat))) v:=fun {v} g=>⟨fun b hb j c t hj=>by
    rcases rG.put_eq hj with⟨_,he⟩|⟨_,hj⟩
    ·cases he
    ·exact g.ap b hb j c t hj,g.new⟩
   obtain⟨e',R',o',v',c'⟩:=QG (h:=h+1) R1 hx.2 hf.2 (fun v hv=>hsz (hg v (List.mem_cons_of_mem _ hv))) (fun j h4 h5=>by rw[rG.put_ne _ _ _ (by omega)];exact hn j (by omega) (by omega))
   have hd:∀ j,H' j≠none→(H'.put h (.rd (Ah n.toNat) (BS n.toNat))) j≠none:=fun j hj=>rG.put_dom _ _ _ hj
   have hef:sO s (ym (.nat::ks) (x::xs) h)=(h,.rd (Ah n.toNat) (BS n.toNat))::sO s (ym ks xs (h+1)):=by
    rw[Vv]
    simp only[sO,List.map_cons,SO.den,yN,PM,za,BU,hxn]
   rw[hef]
   refine⟨e',R',hon1.trans' o' hd,?_,?_⟩
   ·rw[vw,SV.dens,AV.vals,h1,v']
    congr 1
    show zK (e'.hnd h)=u
    rw[(o' h (by rw[rG.put_same];simp)).2]
    show zK (if h=h then u else e.hnd h)=u
    rw[if_pos rfl];exact Vn hr
   ·intro c hc
    rw[vw,SV.refss,h1] at hc
    rcases List.mem_append.1 hc with hc|hc
    ·simp[Ki,SV.refs] at hc
     subst hc
     rw[rG.puts]
     exact rG.puts_dom (by rw[rG.put_same];simp)
    ·exact c' c hc
  ·rw[zb,h1,Nat.zero_add] at hn
   obtain⟨e',R',o',v',c'⟩:=QG (h:=h) R hx.2 hf.2 (fun v hv=>hg v (List.mem_cons_of_mem _ hv)) hn
   rw[Vw h1]
   refine⟨e',R',o',?_,?_⟩
   ·rw[vw,SV.dens,AV.vals,h1,Nat.add_zero,v',h2,MR hx.1]
    congr 1
    exact((h3 w n u).1 hf.1).symm
   ·intro c hc
    rw[vw,SV.refss,h1,Nat.add_zero,h2] at hc
    rcases List.mem_append.1 hc with hc|hc
    ·cases k<;>simp[Al,SV.refs] at hc
    ·exact c' c hc
theorem QH:∀ (ks js:List VK) (xs:List X) (h:Nat),ks.length≤xs.length→vw (ks++js) xs h=vw ks xs h++vw js (xs.drop ks.length) (h+zb ks)
 | [],js,xs,h,_=>by cases xs<;>rfl
 | k::ks,js,[],h,hl=>by simp at hl
 | k::ks,js,x::xs,h,hl=>by
  rw[List.cons_append,vw,vw,QH ks js xs _ (by simpa using hl),zb,Nat.add_assoc];rfl
theorem Vx:∀ (ks:List VK) (xs:List X) (h:Nat),xs.length=ks.length→(vw ks xs h).length=ks.length
 | [],xs,h,_=>by cases xs<;>rfl
 | k::ks,[],h,hl=>by simp at hl
 | k::ks,x::xs,h,hl=>by rw[vw,List.length_cons,Vx ks xs _ (by simpa using hl),List.length_cons]
theorem Vy:∀ (ks:List VK) (xs:List X) (h:Nat),vw ks (xs.take ks.length) h=vw ks xs h
 | [],xs,h=>by cases xs<;>rfl
 | k::ks,[],h=>rfl
 | k::ks,x::xs,h=>by rw[List.length_cons,List.take_succ_cons,vw,Vy ks xs,vw]
theorem Vz (e:Env):∀ (hs:List Sh) (xs:List X) (h:Nat),xs.length=(rE hs).length→AV.vals e (SV.dens s (Ey hs xs h))=ED hs (AV.vals e (SV.dens s (vw (rE hs) xs h)))
 | [],xs,h,_=>rfl
 | sh::hs,xs,h,hl=>by
  have hk:rE (sh::hs)=sh.kinds++rE hs:=by simp[rE]
  rw[hk,List.length_append] at hl
  have hle:sh.kinds.length≤xs.length:=by omega
  have h1:(vw sh.kinds xs h).length=sh.kinds.length:=by
   rw[← Vy];exact Vx _ _ _ (by rw[List.length_take];omega)
  have h2:(AV.vals e (SV.dens s (vw sh.kinds xs h))).length=sh.kinds.length:=by rw[zq,zx,h1]
  rw[Ey,SV.dens,AV.vals,Vz e hs _ _ (by rw[List.length_drop];omega),hk,QH _ _ _ _ hle,Dh,JE,ED]
  congr 1
  ·cases sh with
   | sc k =>
    match xs,hle with
    | x::xs,_=>rfl
   | agg l =>
    simp only[Qo,SV.den,JA,Kq]
    rw[List.take_append_of_le_length (by rw[h2];exact Nat.le_refl _),List.take_of_length_le (by rw[h2];exact Nat.le_refl _)];rfl
  ·have d:∀ (a b:List Value) (n:Nat),a.length=n→(a++b).drop n=b:=fun a b n hn=>by subst hn;simp
   rw[d _ _ _ h2]
theorem VA {c:Nat} : ∀ {hs:List Sh} {xs:List X} {h:Nat},xs.length=(rE hs).length→c∈SV.refss (Ey hs xs h)→c∈SV.refss (vw (rE hs) xs h)
 | [],xs,h,_,hc=>by simp[Ey,SV.refss] at hc
 | sh::hs,xs,h,hl,hc=>by
  have hk:rE (sh::hs)=sh.kinds++rE hs:=by simp[rE]
  rw[hk,List.length_append] at hl
  have hle:sh.kinds.length≤xs.length:=by omega
  have happ:∀ (a b:List SV),SV.refss (a++b)=SV.refss a++SV.refss b:=fun a b=>by
   induction a with
   | nil=>rfl
   | cons x a ih=>rw[List.cons_append,SV.refss,ih,SV.refss,List.append_assoc]
  rw[hk,QH _ _ _ _ hle,happ]
  rw[Ey,SV.refss] at hc
  rcases List.mem_append.1 hc with hc|hc
  ·refine List.mem_append_left _ ?_
   cases sh with
   | sc k =>
    match xs,hle with
    | x::xs,_ =>
     have e:vw (Sh.sc k).kinds (x::xs) h = [Ki k x h]:=by cases xs<;>rfl
     rw[e];simpa [SV.refss,Qo] using hc
   | agg l=>exact hc
  ·exact List.mem_append_right _ (VA (by rw[List.length_drop];omega) hc)
theorem ad6 (e:Env) (l:List SV):((tY l).den s).val e=tH (AV.vals e (SV.dens s l)):=by
 match l with
 | []=>simp only[tY,SV.den,SV.dens,Ow];rfl
 | [x]=>rfl
 | x::y::l=>simp only[tY,SV.den,Ow,SV.dens,AV.vals,tH]
theorem ad7 {l:List SV} {c:Nat} (h:c∈(tY l).refs):c∈SV.refss l:=by
 match l,h with
 | [],h=>exact h
 | [x],h=>simpa [tY,SV.refss] using h
 | x::y::l,h=>exact h
end
def MV (P:Program) (G:rX) (g:FuncId) (c:vT) (l r:List Int):Prop:=∀ w b,Gl G w→(∀ x∈G,x.1≠b)→w.heap[b]? = some (.cells (sW c.ks (l.drop (rE c.a).length)).toArray c.t (0,0)) →
 wW P g (su c.a l ++ [Value.slice (some ⟨b,0,none⟩) c.n c.n]).toArray w fun e w'=>e = .returned (tH (su c.r r))∧ry w w'
theorem VB {s:rM} : ∀ {l:List SV} {r:U6},Kj l=some r→l=r.i ++ [.sl r.b r.o r.n r.m]
 | [],r,h=>by cases h
 | [x],r,h=>by
  simp only[Kj] at h
  split at h
  ·cases h;rfl
  ·cases h
 | x::y::l,r,h=>by
  simp only[Kj] at h
  split at h
  ·rename_i r' hr
   cases h
   have:=VB (s:=s) hr
   rw[this];rfl
  ·cases h
theorem VC:∀ {L:List vT} {n m:Nat} {t:TypeId} {c:vT},MP L n m t=some c→c∈L∧c.n=n∧c.n=m∧c.t=t
 | [],n,m,t,c,h=>by cases h
 | x::L,n,m,t,c,h=>by
  simp only[MP] at h
  split at h
  ·rename_i h1 h2 h3
   cases h
   exact⟨List.mem_cons_self,tq.1 h1,tq.1 h2,tq.1 h3⟩
  ·obtain⟨h1,h2⟩:=VC h
   exact⟨List.mem_cons_of_mem _ h1,h2⟩
theorem QI:∀ (hs:List Sh) (p q:List Int),p.length=(rE hs).length→su hs (p++q)=su hs p
 | [],p,q,_=>rfl
 | h::hs,p,q,hl=>by
  have hk:rE (h::hs)=h.kinds++rE hs:=by simp[rE]
  rw[hk,List.length_append] at hl
  have h1:(p++q).take h.kinds.length=p.take h.kinds.length:=by rw[List.take_append_of_le_length (by omega)]
  have e1:ut h (p++q)=ut h p:=by
   have a1:=Qr h (p.take h.kinds.length) (p.drop h.kinds.length++q) (by rw[List.length_take];omega)
   have a2:=Qr h (p.take h.kinds.length) (p.drop h.kinds.length) (by rw[List.length_take];omega)
   rw[← List.append_assoc,List.take_append_drop] at a1
   rw[List.take_append_drop] at a2
   rw[a1,a2]
  rw[su,su,e1,List.drop_append_of_le_length (by omega),QI hs _ q (by rw[List.length_drop];omega)]
theorem ad8 {C:tC} {s:rM} {g:FuncId} {L:List vT}
  (hct:∀ c∈L,∀ l:List Int,l.length=(rE c.a++c.ks).length→(C.Φ c.id l).length=(rE c.r).length→MV C.P C.G g c l (C.Φ c.id l))
  {args:List SV} {H:SH} {k nv:Nat} {fc:Facts} {K:Unit→ru CR} {r:CR} (h:(Qq C L args H nv fc K).path C.Φ s=some r) (hfc:tF s fc) (hK:(K ()).path C.Φ s=some r→ze C s g args H k r):ze C s g args H k r:=by
 unfold Qq at h
 split at h
 ·exact hK h
 rename_i q hq
 split at h
 ·exact hK h
 rename_i o ho
 split at h
 ·exact hK h
 rename_i t ht
 split at h
 ·exact hK h
 rename_i c hc
 split at h
 ·rename_i xs ys h0 hxs hys
  obtain⟨m1,m2,m3,m4⟩:=VC hc
  have h0:=tq.1 h0
  obtain⟨a1,a2⟩:=Dl s hxs
  obtain⟨b1,b2⟩:=Kl s hys
  have hargs:=VB (s:=s) hq
  have hlen:((xs++ys).map (X.den s)).length=(rE c.a++c.ks).length:=by simp[a2,b2]
  have hS:=hct c m1 _ hlen
  have fin:(C.Φ c.id ((xs++ys).map (X.den s))).length=(rE c.r).length→∀ l:List SV,SV.dens s l=(su c.r (C.Φ c.id ((xs++ys).map (X.den s)))).map .v→ze C s g args H k ⟨tY l,[q.b],[],r.nv,fc⟩:=fun hln l hd=>by
   refine⟨fun b hb=>?_,fun x hx=>by simp[sO] at hx,hfc,fun w0 B0=>?_⟩
   ·simp at hb;subst hb;unfold SH.den;rw[ho];simp
   ·intro H' e w hag hk0 hk1 hrefs R
    have hb:H' q.b=some (.own (SV.dens s o.c) t):=by rw[hag q.b (by simp)];exact SH.den_get ho ht
    have hown:=R.own q.b _ t hb
    rw[b1,vO] at hown
    have hd1:(sW c.ks (((xs++ys).map (X.den s)).drop (rE c.a).length))=sW c.ks (ys.map (X.den s)):=by
     rw[List.map_append,List.drop_append_of_le_length (by simp[a2]),List.drop_of_length_le (by simp[a2])];rfl
    have hcall:=hS hln w (e.blk q.b) R.gl (fun x hx=>R.glo q.b _ t hb x hx) (by rw[hd1,m4];exact hown)
    have hv:AV.vals e (SV.dens s args)=su c.a ((xs++ys).map (X.den s)) ++ [Value.slice (some ⟨e.blk q.b,0,none⟩) c.n c.n]:=by
     rw[hargs,Dh,JE,a1,vO,List.map_append,QI _ _ _ (by simp[a2])]
     simp only[SV.dens,SV.den,AV.vals,AV.val,h0]
     rw[← m2,← m3]
    rw[hv]
    refine hcall.mono ?_
    rintro en w' ⟨rfl,hB⟩
    refine⟨e,?_,R.below hB,Env.on.refl H' e,fun j hj=>?_⟩
    ·rw[Qw hd];rfl
    ·rw[Qw hd] at hj;simp[AV.refs] at hj
  split at h
  ·rename_i ns hns
   split at h
   ·rename_i hq
    have hq:=tq.1 hq
    rw[Qs] at h
    cases h
    have e:=Qv s hns
    refine fin (by rw[e];exact hq) _ ?_
    rw[e]
    exact Ca (Qt s _ _) (Qu _ _ hq)
   ·cases h
  ·simp only[ru.path] at h
   split at h
   ·rename_i hce
    rw[uq] at h
    cases h
    unfold Eo at hce
    refine fin (by rw[← hce];exact BP _ _ _) _ ?_
    obtain⟨h1,h2⟩:=Bg s (rE c.r) nv
    rw[hce] at h1
    exact Ca h1 h2
   ·cases h
 ·exact hK h
theorem ad9 {C:tC} {s:rM} {ct:Ct} {g:FuncId} (h2:zb (rE ct.r)≤2)
  (hct:∀ l:List Int,l.length=(rE ct.a).length→(C.Φ g l).length=(rE ct.r).length→MU C.P C.G g ct l (C.Φ g l))
  {args:List SV} {H:SH} {k nv:Nat} {fc:Facts} {r:CR} (h:(Qp C ct g args H k nv fc).path C.Φ s=some r) (hfc:tF s fc):ze C s g args H k r:=by
 unfold Qp at h
 split at h
 ·cases h
 ·rename_i xs hxs
  simp only[ru.path] at h
  split at h
  ·rename_i hce
   rw[uq] at h
   cases h
   obtain⟨v1,v2⟩:=Bg s (rE ct.r) nv
   unfold Eo at hce
   have hln:(C.Φ g (xs.map (X.den s))).length=(rE ct.r).length:=by rw[← hce];exact BP _ _ _
   rw[hce] at v1
   refine⟨Vt hxs,fun x hx=>?_,hfc,fun w0 B0=>?_⟩
   ·rw[sO] at hx
    obtain⟨y,hy,rfl⟩:=List.mem_map.1 hx
    have:=QF hy
    show y.1=k∨y.1=k+1∨_
    omega
   ·intro H' e w hag hk0 hk1 hrefs R
    obtain⟨fvs,a1,a2,a3⟩:=Vq (s:=s) R hxs hag
    have hl:(xs.map (X.den s)).length=(rE ct.a).length:=(uT.len a2).1
    have hcc:=hct _ hl hln w fvs R.gl a2
    rw[a1]
    refine hcc.mono ?_
    rintro en w' ⟨fus,rfl,b2,b3,hB⟩
    have R':=R.below hB
    have hlen:=(uT.len b2).1
    obtain⟨e',c1,c2,c3,c4⟩:=QG (s:=s) (h:=k) R' v1 b2 (fun u hu=>⟨fun b hb j c t hj he=>by
     rcases b3 u hu b hb with hlt|⟨v,hv,hvb⟩
     ·have:=R.lt hj;omega
     ·exact(a3 v hv).ap b hvb j c t hj he,fun b hb=>by
     rcases b3 u hu b hb with hlt|⟨v,hv,hvb⟩
     ·exact .inl (Nat.le_trans R.size hlt)
     ·exact(a3 v hv).new b hvb⟩) (fun j h3 h4=>by
     have:j=k∨j=k+1:=by omega
     rcases this with rfl|rfl
     ·exact hk0
     ·exact hk1)
    refine⟨e',?_,c1,c2,fun c hc=>c4 c (VA (by rw[v2]) (ad7 (SV.den_refs s _ hc)))⟩
    rw[ad6,Vz _ _ _ _ (by rw[v2]),c3]
  ·cases h
open Go.RowKit
structure wH (C:tC) (E:tK):Prop where
 se:MH C.P C.SE E
 eq:BF C.P E
 mix:C.P.follows .mixedOrders=true
 nm:∀ (g:FuncId) (fn:Func),C.P.funcs[g]? = some fn→fn.body.isSome=true→(fn.name == "runtime.NumGoroutine")=false
 ct:∀ (g:FuncId) (ct:Ct),C.ct g=some ct→∀ l:List Int,l.length=(rE ct.a).length→(C.Φ g l).length=(rE ct.r).length→PC C.P C.G g (su ct.a l) (tH (su ct.r (C.Φ g l)))
 nt:∀ (g:FuncId) (ct:Ct),C.nt g=some ct→zb (rE ct.r)≤2∧∀ l:List Int,l.length=(rE ct.a).length→(C.Φ g l).length=(rE ct.r).length→MU C.P C.G g ct l (C.Φ g l)
 sl:∀ (g:FuncId) (c:vT),c∈C.sl g→∀ l:List Int,l.length=(rE c.a++c.ks).length→(C.Φ c.id l).length=(rE c.r).length→MV C.P C.G g c l (C.Φ c.id l)
structure Ao (C:tC) (E:tK) (s:rM) (c:Code) (st:St) (ex:Exit) (st':St):Prop where
 aw:∀ w0 B0,AW ⟨C.P,C.G,E,w0,B0,st.T.length⟩ c (wZ s ex st') st.N (rZ.den s st.T) (SH.den s st.H)
 len:st'.T.length=st.T.length
 dt:∀ j,tZ j st'.dt=false→tZ j st.dt=false∧hget st'.H j=hget st.H j
 fc:tF s st'.fc
abbrev Kr (C:tC) (E:tK) (s:rM) (exf:Code→St→ru (Exit×St)):Prop:=∀ c st ex st',(exf c st).path C.Φ s=some (ex,st')→tF s st.fc→Ao C E s c st ex st'
section
variable {C:tC} {E:tK} {s:rM}
theorem Kt {α:Type} {x:Exit} {A B:ru α} {w:String} {r:α} (h:(match x with | .normal=>A | .ret=>B|_=>.stuck w:ru α).path C.Φ s=some r):(x = .normal∧A.path C.Φ s=some r)∨(x = .ret∧B.path C.Φ s=some r):=by
 cases x<;>first|exact .inl ⟨rfl,h⟩|exact .inr ⟨rfl,h⟩|cases h
theorem aea:(fun n:Nat=>n)=uN []:=by funext n;rfl
mutual
theorem SV.ren_nil:∀ x:SV,x.ren (uN [])=x
 | .v _=>rfl
 | .int _ _=>rfl
 | .bool _=>rfl
 | .loc _ _=>rfl
 | .hd _=>rfl
 | .ha _ _=>rfl
 | .sl _ _ _ _=>rfl
 | .fn g a c=>by simp only[SV.ren,SV.rens_nil a,SV.rens_nil c]
 | .tup l=>by simp only[SV.ren,SV.rens_nil l]
 | .agg l=>by simp only[SV.ren,SV.rens_nil l]
theorem SV.rens_nil:∀ l:List SV,SV.rens (uN []) l=l
 | []=>rfl
 | x::l=>by simp only[SV.rens,SV.ren_nil x,SV.rens_nil l]
end
theorem QJ (hC:wH C E) {exf:Code→St→ru (Exit×St)} (hex:Kr C E s exf) {g:FuncId} {args:List SV} {H:SH} {k nv:Nat} {fc:Facts} {r:CR} (h:(Kg C.P exf g args H k nv fc).path C.Φ s=some r) (hfc:tF s fc):ze C s g args H k r:=by
 unfold Kg at h
 split at h
 ·cases h
 ·rename_i fn hf
  split at h
  ·cases h
  ·rename_i cd hb
   split at h
   ·cases h
   ·rename_i objs hro
    split at h
    ·rename_i hl hk hw0
     obtain⟨r0,h0,e1,e2,e3,e4⟩:=adS hfc h
     obtain⟨⟨ex,st⟩,h1,h2⟩:=ru.path_bind_some h0
     have sp:=hex _ _ _ _ h1 hfc
     have hlen:(vv args fn.ntmps).length=fn.ntmps:=EB _ _ (Nat.le_of_ble_eq_true hl)
     have hA:∀ w0 B0,AW ⟨C.P,C.G,E,w0,B0,fn.ntmps⟩ cd (wZ s ex st) k (rZ.den s (vv args fn.ntmps)) (SH.den s objs):=fun w0 B0=>by
      have:=sp.aw w0 B0;simp only[hlen] at this;exact this
     have hD:Vl objs st.dt st.H:=fun j hj=>(sp.dt j hj).2
     have hn:=hC.nm g fn hf (by rw[hb];rfl)
     have key:ex = .normal∨ex = .ret→(MO C.P fn objs k st).path C.Φ s=some r0→ze C s g args H k r0:=by
      intro hx h3
      unfold MO at h3
      split at h3
      ·cases h3
      ·rename_i rs hrs
       split at h3
       ·cases h3
       ·rename_i R2 hR2
        split at h3
        ·cases h3
        ·cases h3
        ·rename_i nw hnw hw2
         split at h3
         ·cases h3
          have:=Vm hf hb hn hro hl hk hA hx hD sp.fc hrs hR2 hw0 hw2 hnw (m:=[]) rfl st.nv
          rw[SV.ren_nil] at this
          simpa [Am,aea] using this
         ·split at h3
          ·cases h3
          ·rename_i m hm
           cases h3
           exact Vm hf hb hn hro hl hk hA hx hD sp.fc hrs hR2 hw0 hw2 hnw hm st.nv
     have main:ze C s g args H k r0:=by
      rcases Kt h2 with⟨hx,h3⟩|⟨hx,h3⟩
      ·exact key (.inl hx) h3
      ·exact key (.inr hx) h3
     refine⟨by rw[← e2];exact main.tc,by rw[← e2,← e3];exact main.ef,e4 main.fc,?_⟩
     rw[← e1,← e2,← e3];exact main.ok
    ·cases h
theorem QK (hC:wH C E) {exf:Code→St→ru (Exit×St)} (hex:Kr C E s exf) {g:FuncId} {args:List SV} {H:SH} {k nv:Nat} {fc:Facts} {r:CR} (h:(Kk C exf g args H k nv fc).path C.Φ s=some r) (hfc:tF s fc):ze C s g args H k r:=by
 unfold Kk at h
 split at h
 ·rename_i ct hnt
  exact ad9 (hC.nt g ct hnt).1 (hC.nt g ct hnt).2 h hfc
 split at h
 ·split at h
  ·exact QJ hC hex h hfc
  ·exact ad8 (fun c hc=>hC.sl g c hc) h hfc (fun h=>QJ hC hex h hfc)
 ·rename_i ct hct
  split at h
  ·exact QJ hC hex h hfc
  ·rename_i xs hxs
   obtain⟨hv,hl⟩:=Dl s hxs
   have hcc:=hC.ct g ct hct (xs.map (X.den s)) (by simpa using hl)
   have fin:(C.Φ g (xs.map (X.den s))).length=(rE ct.r).length→∀ l:List SV,SV.dens s l=(su ct.r (C.Φ g (xs.map (X.den s)))).map .v→ze C s g args H k ⟨tY l,[],[],r.nv,fc⟩:=fun hln l hd=>by
    refine⟨fun b hb=>by simp at hb,fun x hx=>by simp[sO] at hx,hfc,fun w0 B0=>?_⟩
    simp only[Qw hd]
    exact(hcc hln).call w0 B0 (by rw[hv];exact De _) _ _
   split at h
   ·rename_i ns hns
    split at h
    ·rename_i hq
     have hq:=tq.1 hq
     rw[Qs] at h
     cases h
     have e:=Qv s hns
     refine fin (by rw[e];exact hq) _ ?_
     rw[e]
     exact Ca (Qt s _ _) (Qu _ _ hq)
    ·cases h
   ·simp only[ru.path] at h
    split at h
    ·rename_i hce
     rw[uq] at h
     cases h
     unfold Eo at hce
     refine fin (by rw[← hce];exact BP _ _ _) _ ?_
     obtain⟨h1,h2⟩:=Bg s (rE ct.r) nv
     rw[hce] at h1
     exact Ca h1 h2
    ·cases h
theorem aeb {β:Type} {ops:Array Oper} {T:rZ} {o:Oper} {fc:Facts} {K:Bool→Facts→ru β} {r:β} (hf:tF s fc) (h:(Qh ops T o fc K).path C.Φ s=some r) :
  ∃ q fc',tF s fc'∧AX ops (rZ.den s T) o=some q∧(K q fc').path C.Φ s=some r:=by
 unfold Qh at h
 unfold AX
 split at h
 ·rename_i hg
  exact⟨true,fc,hf,by rw[hg],h⟩
 ·rename_i j want hg
  rw[hg]
  simp only
  split at h
  ·rename_i hd
   exact⟨false,fc,hf,by rw[hd],h⟩
  ·rename_i d hd
   rw[hd]
   simp only
   split at h
   ·rename_i x hx
    have hT:rZ.den s T d=some (.v (.bool (x.den s != 0))):=by simp[rZ.den,hx,SV.den]
    obtain⟨fc',hf',h'⟩:=BQ hf h
    refine⟨_,fc',hf',?_,h'⟩
    rw[hT]
    simp only[yY]
    cases (x.den s != 0)<;>cases want<;>rfl
   ·rename_i vs hx
    have hT:rZ.den s T d=some (.v (.tuple vs)):=by simp[rZ.den,hx,SV.den]
    exact⟨false,fc,hf,by rw[hT],h⟩
   ·cases h
theorem aec {fv:SV} {g:FuncId} {a c:List SV} (h:Qi fv=some (g,a,c)):F7 (fv.den s)=some (g,SV.dens s a,SV.dens s c):=by
 have hC':∀ l:List Value,SV.dens s (l.map BR)=l.map .v:=fun l=>by
  rw[SV.dens_map,List.map_map];exact List.map_congr_left fun x _=>Mv s x
 unfold Qi at h
 split at h
 ·cases h
  simp only[SV.den,F7,hC']
 ·cases h
  simp only[SV.den]
  unfold xB
  have hm:∀ {l:List AV} {vs:List Value},uh l=some vs→l=vs.map .v:=fun {l} {vs} hv=>by
   have h4:=JX l
   unfold wC at h4;rw[hv] at h4
   simpa [tT,Value.cells] using h4.symm
  cases ha:uh (SV.dens s a) with
  | none=>rfl
  | some x=>cases hc:uh (SV.dens s c) with
   | none=>rfl
   | some y=>simp only[F7,hm ha,hm hc]
 ·cases h
theorem aed {op:Op} {ρ:Operand→Option SV} {ρ':Operand→Option AV} (hρ:RD s ρ ρ') {g:FuncId} {args:List SV} (h:Qj op ρ=some (some (g,args))) {P:Program} {G:rX} {H:rG} {k:Nat} :
  F8 op ρ'=some (g,SV.dens s args)∧Af op ρ'=none∧sj P G E op ρ' H k=none:=by
 unfold Qj at h
 split at h
 ·rename_i f xs ts
  split at h
  ·rename_i fv hfv
   split at h
   ·rename_i g' a c bs hcl hl
    simp only[Option.some.injEq,Prod.mk.injEq] at h
    obtain⟨rfl,rfl⟩:=h
    refine⟨?_,rfl,rfl⟩
    simp only[F8,hρ _ _ hfv,aec hcl,MG hρ hl,Dh]
   ·cases h
  ·cases h
 ·cases h
theorem aee {op:Op} {ρ:Operand→Option SV} {ρ':Operand→Option AV} (hρ:RD s ρ ρ') {q:X} {x y:Option SV} (h:Qk op ρ=some (q,x,y)):∃ x' y',Af op ρ'=some (q.den s != 0,x',y')∧(∀ a,x=some a→x'=some (a.den s))∧(∀ a,y=some a→y'=some (a.den s)):=by
 unfold Qk at h
 split at h
 ·rename_i c a b
  split at h
  ·rename_i q' hq
   cases h
   refine⟨ρ' a,ρ' b,?_,fun z hz=>hρ _ _ hz,fun z hz=>hρ _ _ hz⟩
   simp only[Af,hρ _ _ hq,SV.den]
  ·cases h
 ·cases h
theorem aef {P:Program} {G:rX} {op:Op} {ρ:Operand→Option AV} {c:Bool} {x y:Option AV} {H:rG} {k:Nat} {r:AV} {tc:List Nat} {ef:List (Nat×AO)} (h:Af op ρ=some (c,x,y)) (hn:sj P G E op ρ H k=some (r,tc,ef)) :
  tc = []∧ef = []∧(c=true→x=some r)∧(c=false→y=some r):=by
 unfold Af at h
 split at h
 ·rename_i q a b
  split at h
  ·rename_i q' hq
   cases h
   simp only[sj,hq] at hn
   cases c with
   | true =>
    simp only[if_true] at hn
    obtain⟨h1,rfl,rfl⟩:=yf hn
    exact⟨rfl,rfl,fun _=>h1,fun h=>by cases h⟩
   | false =>
    simp only[Bool.false_eq_true,if_false] at hn
    obtain⟨h1,rfl,rfl⟩:=yf hn
    exact⟨rfl,rfl,(fun h=>by cases h),fun _=>h1⟩
  ·cases h
 ·cases h
def Cf (tr:Tr):Tr:=tr.filter fun x => !x.2.1.isEmpty
theorem VD (tc:List Nat):∀ ef:List (Nat×SO),MM tc ef=yH tc (sO s ef)
 | []=>rfl
 | x::ef=>by
  have hc:tZ x.1 tc=tc.contains x.1:=by rw[Bool.eq_iff_iff,Kn,List.contains_iff_mem]
  simp only[MM,yH,sO,List.map_cons,List.any_cons,hc]
  cases tc.contains x.1 with
  | true=>rfl
  | false=>simp only[Bool.false_or];exact VD tc ef
theorem aeg {i:Nat} {tc:List Nat} {ef:List (Nat×SO)} {tr:Tr} : Cf ((i,tc,yH tc (sO s ef))::tr)=BZ i tc ef (Cf tr):=by
 unfold BZ Cf
 cases tc with
 | nil=>rfl
 | cons b tc=>rw[List.filter_cons_of_pos (by rfl),← VD (s:=s)]
theorem Ku {M:List Nat} {Nb:Nat} : ∀ {tr:Tr},CZ M Nb (Cf tr)=true→CZ M Nb tr=true
 | [],_=>rfl
 | x::l,h=>by
  unfold Cf at h
  have empty:∀ y z:Nat×List Nat×Bool,z.2.1 = []∨y.2.1 = []→CY M y z=true:=fun y z hz=>by
   unfold CY
   rcases hz with hz|hz<;>simp[hz]
  cases hx:x.2.1 with
  | nil =>
   rw[List.filter_cons_of_neg (by simp[hx])] at h
   simp only[CZ,Bool.and_eq_true]
   refine⟨⟨by rw[hx];rfl,?_⟩,Ku h⟩
   rw[List.all_eq_true];intro y _;exact empty x y (.inr hx)
  | cons b tc =>
   rw[List.filter_cons_of_pos (by simp[hx])] at h
   simp only[CZ,Bool.and_eq_true] at h ⊢
   refine⟨⟨h.1.1,?_⟩,Ku h.2⟩
   rw[List.all_eq_true];intro y hy
   cases hy2:y.2.1 with
   | nil=>exact empty x y (.inl hy2)
   | cons b' tc'=>exact List.all_eq_true.1 h.1.2 y (List.mem_filter.2 ⟨hy,by simp[hy2]⟩)
theorem VE {β:Type} {T:rZ} {d:Option Tmp} {x:SV} {K:rZ→ru β} {r:β} (hd:∀ t,d=some t→t<T.length) (h:(BX T d x K).path C.Φ s=some r) :
  ∃ T',T'.length=T.length∧rZ.den s T'=(rZ.den s T).put d (x.den s)∧(K T').path C.Φ s=some r:=by
 unfold BX at h
 cases d with
 | none=>exact⟨T,rfl,rfl,h⟩
 | some d =>
  simp only at h
  rw[UT] at h
  exact⟨_,UV T d x,rZ.den_set s T d x (hd d rfl),h⟩
theorem VF {j:Nat} : ∀ {ef:List (Nat×SO)} {dt:List Nat},tZ j (Be ef dt)=false→tZ j dt=false∧∀ x∈ef,x.1≠j
 | [],dt,h=>⟨h,fun x hx=>by simp at hx⟩
 | x::ef,dt,h=>by
  rw[Be] at h
  obtain⟨h1,h2⟩:=VF h
  unfold addN at h1
  split at h1
  ·rename_i hm
   refine⟨h1,fun y hy=>?_⟩
   rcases List.mem_cons.1 hy with rfl|hy
   ·rintro rfl;rw[hm] at h1;cases h1
   ·exact h2 y hy
  ·simp only[tZ] at h1
   split at h1
   ·cases h1
   ·rename_i hb
    refine⟨h1,fun y hy=>?_⟩
    rcases List.mem_cons.1 hy with rfl|hy
    ·rintro rfl;simp at hb
    ·exact h2 y hy
theorem VG {j:Nat} : ∀ {ef:List (Nat×SO)} {H:SH},(∀ x∈ef,x.1≠j)→hget (Ep H ef) j=hget H j
 | [],H,_=>rfl
 | x::ef,H,h=>by
  rw[Ep,VG (fun y hy=>h y (List.mem_cons_of_mem _ hy)),PN,if_neg (fun e=>h x List.mem_cons_self e.symm)]
theorem VH (q:Bool) (v:Value) (b:Bool):(Ka q v b).den s = .v (Ad q v b):=by
 cases q with
 | true =>
  have:SV.dens s [BR v,.bool (.lit (sF b))] = [v,Value.bool b].map .v:=by
   simp only[SV.dens,Mv,SV.den,X.den,uF,List.map_cons,List.map_nil]
  simp only[Ka,SV.den,this,Mt,Ad,if_true]
 | false=>simp only[Ka,Mv,Ad,Bool.false_eq_true,if_false]
theorem VI {β:Type} {kd:IntKind} {n:X} {q:Bool} {z:Value} {K:SV→Facts→ru β} {r:β} : ∀ {es:List (Value×Value)} {fc:Facts},J9 kd es=true→tF s fc→(MI kd n q z K es fc).path C.Φ s=some r →
  ∃ a fc',tF s fc'∧(K a fc').path C.Φ s=some r∧((∃ v,BI kd (n.den s) es=some (some v)∧a.den s = .v (Ad q v true))∨(BI kd (n.den s) es=some none∧a.den s = .v (Ad q z false)))
 | [],fc,hk,hf,h=>⟨_,fc,hf,h,.inr ⟨rfl,VH q z false⟩⟩
 | x::l,fc,hk,hf,h=>by
  simp only[J9] at hk
  simp only[MI] at h
  cases hx:x.1 with
  | int k' m =>
   rw[hx] at hk h
   simp only at hk h
   cases hkk:vQ kd k' with
   | false=>rw[hkk] at hk;cases hk
   | true =>
    rw[hkk] at hk
    simp only at hk
    have hke:=xC hkk
    obtain⟨fc',hf',h⟩:=BQ hf h
    rw[Da] at h
    simp only[rY,uF,X.den] at h
    unfold BI
    rw[hx]
    simp only[hke,if_true]
    cases hb:(n.den s==m) with
    | true =>
     rw[hb] at h
     have:n.den s=m:=by simpa using hb
     simp only[this,if_true]
     exact⟨_,fc',hf',h,.inl ⟨x.2,rfl,VH q x.2 true⟩⟩
    | false =>
     rw[hb] at h
     have:¬ n.den s=m:=by simpa using hb
     simp only[this,if_false]
     rw[← hke]
     exact VI hk hf' h
  | _=>rw[hx] at hk;cases hk
theorem aeh {op:Op} {ρ:Operand→Option SV} {ρ':Operand→Option AV} (hρ:RD s ρ ρ') {H:SH} {L:U4} (h:Ql C.P op ρ H=some L) {G:rX} {k:Nat} :
  J9 L.kd L.es=true∧Af op ρ'=none∧F8 op ρ'=none∧(∀ v,BI L.kd (L.n.den s) L.es=some (some v)→sj C.P G E op ρ' (SH.den s H) k=some (.v (Ad L.q v true),[L.k],[])) ∧
   (BI L.kd (L.n.den s) L.es=some none→sj C.P G E op ρ' (SH.den s H) k=some (.v (Ad L.q L.z false),[L.k],[])):=by
 unfold Ql at h
 split at h
 ·rename_i t x i q
  split at h
  ·rename_i j kd n hx hi
   split at h
   ·rename_i o ho
    split at h
    ·rename_i es ht hm
     split at h
     ·rename_i kt et hu
      split at h
      ·rename_i kd' z hkt hz
       split at h
       ·rename_i hk1 hk2
        cases h
        have e1:=xC hk1
        have a1:=hρ _ _ hx
        have a2:=hρ _ _ hi
        simp only[SV.den] at a1 a2
        have a3:=SH.den_map (s:=s) ho ht hm
        refine⟨hk2,rfl,rfl,fun v hv=>?_,fun hv=>?_⟩
        ·simp only at hv
         simp only[sj,a1,a2,AU,a3,hu,hkt,e1,if_true,hv];rfl
        ·simp only at hv
         simp only[sj,a1,a2,AU,a3,hu,hkt,e1,if_true,hv,hz];rfl
       ·cases h
      ·cases h
     ·cases h
    ·cases h
   ·cases h
  ·cases h
 ·cases h
theorem VJ (k:VK) (x:X):Kb k x=Al k x:=by cases k<;>rfl
theorem VL:∀ (ks:List VK) (xs:List X),MK ks xs=zV ks xs
 | [],_=>rfl
 | _::_,[]=>rfl
 | k::ks,x::xs=>by rw[MK,zV,VJ,VL ks xs]
theorem VM:∀ (ks:List VK) (b:Nat),ML b ks=rU b ks
 | [],_=>rfl
 | k::ks,b=>by rw[ML,rU,VM ks]
theorem QL:∀ (ks:List VK) (ns:List Int),ns.length=ks.length→(sW ks ns).length=ks.length
 | [],_,_=>by simp[sW]
 | k::ks,[],h=>by simp at h
 | k::ks,n::ns,h=>by rw[sW,List.length_cons,List.length_cons,QL ks ns (by simpa using h)]
theorem QM (b:Nat) (ks:List VK):∀ n,(xG s b ks n).length=n*ks.length
 | 0=>by simp[xG]
 | n+1=>by rw[xG,List.length_append,QM b ks n,QL _ _ (BP _ _ _),Nat.add_mul,Nat.one_mul]
theorem QN (b:Nat) (ks:List VK):∀ {n j:Nat},j<n→((xG s b ks n).drop (j*ks.length)).take ks.length=sW ks (vR s (b+j*ks.length) ks.length)
 | n+1,j,h=>by
  rw[xG]
  have hl:=QM (s:=s) b ks n
  by_cases hj:j=n
  ·subst hj
   rw[List.drop_append_of_le_length (by rw[hl];exact Nat.le_refl _),List.drop_of_length_le (by rw[hl];exact Nat.le_refl _),List.nil_append,List.take_of_length_le (by rw[QL _ _ (BP _ _ _)];exact Nat.le_refl _)]
  ·have hjn:j<n:=by omega
   have hm:(j+1)*ks.length≤n*ks.length:=Nat.mul_le_mul_right _ hjn
   rw[Nat.add_mul,Nat.one_mul] at hm
   rw[List.drop_append_of_le_length (by rw[hl];omega),List.take_append_of_le_length (by rw[List.length_drop,hl];omega)]
   exact QN b ks hjn
theorem QO {H:SH} {k:Nat} {r:JW} (h:MJ H k=some r):SH.den s H k=some (.rd (r.n.den s).toNat (xG s r.b r.ks (r.n.den s).toNat)):=by
 unfold MJ at h
 split at h
 ·rename_i o ho
  split at h
  ·rename_i r' h1 h2 h3
   cases h
   exact SH.den_ora ho h1 h2 h3
  ·cases h
 ·cases h
theorem QP {j:Nat} {n:X} (h:((uD .lss .i64 (.lit (.ofNat j)) n).den s != 0)=true):j<(n.den s).toNat:=by
 rw[Da] at h
 simp only[rY,uF,X.den] at h
 have:=of_decide_eq_true h
 have h2:(j:Int)<n.den s:=this
 omega
theorem aei {op:Op} {ρ:Operand→Option SV} {ρ':Operand→Option AV} (hρ:RD s ρ ρ') {H:SH} {L:U5} (h:Qm C.P op ρ H=some L) {G:rX} {k:Nat} (hc:(L.c.den s != 0)=true) :
  Af op ρ'=none∧sj C.P G E op ρ' (SH.den s H) k=some (L.r.den s,[L.k],[]):=by
 unfold Qm at h
 split at h
 ·rename_i t x i
  split at h
  ·rename_i j kk kd m hx hi
   split at h
   ·rename_i r el hr hel
    split at h
    ·rename_i sz hsz
     split at h
     ·rename_i hb
      rw[uq] at h
      cases h
      have a1:=hρ _ _ hx
      have a2:=hρ _ _ hi
      have hlt:=QP hc
      refine⟨rfl,?_⟩
      simp only[SV.den,X.den] at a1 a2
      simp only[sj,a1,a2,zt,QO hr,hel,hsz]
      rw[if_pos ⟨by exact Int.natCast_nonneg _,by show(m:Int)<_;omega⟩]
      rfl
     ·cases h
    ·cases h
   ·cases h
  ·cases h
 ·rename_i t x
  split at h
  ·rename_i kk off hx
   split at h
   ·rename_i r hr
    rw[uq] at h
    have a1:=hρ _ _ hx
    simp only[SV.den] at a1
    split at h
    ·rename_i hb ha
     have hb:=tq.1 hb
     split at h
     ·rename_i sz hsz
      split at h
      ·rename_i hz h1
       have hz:=tq.1 hz
       have h1:=Nat.le_of_ble_eq_true h1
       rw[uq] at h
       cases h
       have hlt:=QP hc
       refine⟨rfl,?_⟩
       have hg:=QN (s:=s) r.b r.ks hlt
       have hl:=QM (s:=s) r.b r.ks (r.n.den s).toNat
       have hm:(off/r.ks.length+1)*r.ks.length≤(r.n.den s).toNat*r.ks.length:=Nat.mul_le_mul_right _ hlt
       rw[Nat.add_mul,Nat.one_mul,hb] at hm
       rw[hb] at hg
       simp only[sj,a1,xK,QO hr,vL,ha,hsz]
       rw[if_pos ⟨by rw[List.length_map,hl,hz];exact hm,by omega⟩]
       simp only[SV.den,VL,VM]
       obtain⟨v1,v2⟩:=Bg s r.ks (r.b+off)
       rw[MS v1 v2,← List.map_drop,← List.map_take,hz,hg]
      ·cases h
     ·cases h
    ·rename_i hb ha
     have hb:=tq.1 hb
     split at h
     ·rename_i vk hks
      rw[uq] at h
      cases h
      have hlt:=QP hc
      refine⟨rfl,?_⟩
      have hg:=QN (s:=s) r.b r.ks hlt
      rw[hb,hks] at hg
      simp only[sj,a1,xK,QO hr,vL,ha]
      have hx1:(xG s r.b r.ks (r.n.den s).toNat)[off]? = some (tX vk (s (r.b+off))):=by
       have e1:((xG s r.b [vk] (r.n.den s).toNat).drop off).take 1 = [tX vk (s (r.b+off))]:=hg
       rw[hks]
       have e2:(((xG s r.b [vk] (r.n.den s).toNat).drop off).take 1)[0]? = some (tX vk (s (r.b+off))):=by rw[e1];rfl
       rwa [List.getElem?_take_of_lt (by decide),List.getElem?_drop] at e2
      rw[List.getElem?_map,hx1,VJ]
      rw[MR (s:=s) (k:=vk) (x:=.var vk (r.b+off)) (n:=s (r.b+off)) rfl]
      rfl
     ·cases h
    ·cases h
   ·cases h
  ·cases h
 ·cases h
theorem Kv (hC:wH C E) {cf:CF} {nt:Nat} (hcf:∀ g args H k nv fc r,(cf g args H k nv fc).path C.Φ s=some r→tF s fc→ze C s g args H k r) {ops:Array Oper} {Nb:Nat} :
  ∀ (os:List Oper) (i:Nat) (T:rZ) (H:SH) (tr:J8) (nv:Nat) (dt:List Nat) (fc:Facts) (out:OR),(zA C cf ops Nb i os T H tr nv dt fc).path C.Φ s=some out→tF s fc→T.length=nt→(∀ o∈os,∀ t,o.dst=some t→t<nt) →
   (∀ w0 B0 (trf:Tr) (K:r9→rG→Tr→Prop),Cf trf=tr→(∀ trf',Cf trf'=out.tr→K (rZ.den s out.T) (SH.den s out.H) trf')→uQ C.P C.G E w0 B0 ops Nb i os (rZ.den s T) (SH.den s H) trf K) ∧
   out.T.length=nt∧tF s out.fc∧∀ j,tZ j out.dt=false→tZ j dt=false∧hget out.H j=hget H j
 | [],i,T,H,tr,nv,dt,fc,out,h,hfc,hT,hd=>by
  simp only[zA] at h
  cases h
  exact⟨fun w0 B0 trf K ht hK=>by rw[uQ];exact hK trf ht,hT,hfc,fun j hj=>⟨hj,rfl⟩⟩
 | o::os,i,T,H,tr,nv,dt,fc,out,h,hfc,hT,hd=>by
  simp only[zA] at h
  obtain⟨q,fc1,hf1,hw,h⟩:=aeb hfc h
  have hdo:∀ t,o.dst=some t→t<T.length:=by rw[hT];exact hd o List.mem_cons_self
  have hds:∀ o'∈os,∀ t,o'.dst=some t→t<nt:=fun o' ho'=>hd o' (List.mem_cons_of_mem _ ho')
  cases q with
  | false =>
   simp only at h
   obtain⟨T',hl,hden,h⟩:=VE hdo h
   obtain⟨h1,h2,h3,h4⟩:=Kv hC hcf os (i+1) T' H tr nv dt fc1 out h hf1 (hl.trans hT) hds
   refine⟨fun w0 B0 trf K ht hK=>?_,h2,h3,h4⟩
   have:=h1 w0 B0 trf K ht hK
   rw[hden] at this
   simp only[uQ,hw,Ee];exact this
  | true =>
   simp only at h
   have step:∀ (r:SV) (tc:List Nat) (ef:List (Nat×SO)) (nv':Nat) (fc':Facts),tF s fc'→(BX T o.dst r fun T=>Bd H ef fun H=>zA C cf ops Nb (Nat.succ i) os T H (BZ i tc ef tr) nv' (Be ef dt) fc').path C.Φ s=some out →
     (∀ w0 B0 (trf:Tr) (K:r9→rG→Tr→Prop),Cf trf=tr→(∀ trf',Cf trf'=out.tr→K (rZ.den s out.T) (SH.den s out.H) trf')→uQ C.P C.G E w0 B0 ops Nb (i+1) os ((rZ.den s T).put o.dst (r.den s)) ((SH.den s H).puts (sO s ef)) ((i,tc,yH tc (sO s ef))::trf) K) ∧
     out.T.length=nt∧tF s out.fc∧∀ j,tZ j out.dt=false→tZ j dt=false∧hget out.H j=hget H j:=by
    intro r tc ef nv' fc' hf' h
    obtain⟨T',hl,hden,h⟩:=VE hdo h
    rw[UX] at h
    obtain⟨h1,h2,h3,h4⟩:=Kv hC hcf os (i+1) T' _ _ nv' _ fc' out h hf' (hl.trans hT) hds
    refine⟨fun w0 B0 trf K ht hK=>?_,h2,h3,fun j hj=>?_⟩
    ·have:=h1 w0 B0 ((i,tc,yH tc (sO s ef))::trf) K (by rw[aeg,ht]) hK
     rw[hden,UY] at this
     exact this
    ·obtain⟨h5,h6⟩:=h4 j hj
     obtain⟨h7,h8⟩:=VF h5
     exact⟨h7,by rw[h6,VG h8]⟩
   split at h
   ·cases h
   ·rename_i g args hcs
    rw[uq] at h
    obtain⟨r,hr,h⟩:=ru.path_bind_some h
    have sp:=hcf _ _ _ _ _ _ _ hr hf1
    obtain⟨h1,h2⟩:=step r.r r.tc r.ef r.nv r.fc sp.fc h
    refine⟨fun w0 B0 trf K ht hK=>?_,h2⟩
    obtain⟨e1,e2,e3⟩:=aed (E:=E) (Dg s T) hcs (P:=C.P) (G:=C.G) (H:=SH.den s H) (k:=Nb+2*i)
    simp only[uQ,hw,Ae,e2,e3,e1]
    exact⟨_,_,_,sp.ok w0 B0,sp.tc,sp.ef,h1 w0 B0 trf K ht hK⟩
   ·split at h
    ·rename_i q x y hp
     obtain⟨fc2,hf2,h⟩:=BQ hf1 h
     obtain⟨x',y',e1,e2,e3⟩:=aee (s:=s) (Dg s T) hp
     cases hq:(q.den s != 0) with
     | true =>
      rw[hq] at h e1
      simp only at h
      cases x with
      | none=>cases h
      | some r =>
       obtain⟨h1,h2⟩:=step r [] [] nv fc2 hf2 (by simpa [Bd,BZ,Be] using h)
       refine⟨fun w0 B0 trf K ht hK=>?_,h2⟩
       simp only[uQ,hw,Ae,e1,e2 r rfl]
       exact h1 w0 B0 trf K ht hK
     | false =>
      rw[hq] at h e1
      simp only at h
      cases y with
      | none=>cases h
      | some r =>
       obtain⟨h1,h2⟩:=step r [] [] nv fc2 hf2 (by simpa [Bd,BZ,Be] using h)
       refine⟨fun w0 B0 trf K ht hK=>?_,h2⟩
       simp only[uQ,hw,Ae,Ee,e1,e3 r rfl]
       exact h1 w0 B0 trf K ht hK
    ·split at h
     ·rename_i L hL
      obtain⟨k1,k2,k3,k4,k5⟩:=aeh (E:=E) (s:=s) (Dg s T) hL (G:=C.G) (k:=Nb+2*i)
      obtain⟨a,fc2,hf2,h,hv⟩:=VI k1 hf1 h
      obtain⟨h1,h2⟩:=step a [L.k] [] nv fc2 hf2 (by simpa [Bd,Be] using h)
      refine⟨fun w0 B0 trf K ht hK=>?_,h2⟩
      have h3:=h1 w0 B0 trf K ht hK
      have hn:sj C.P C.G E o.op (uZ (rZ.den s T)) (SH.den s H) (Nb+2*i)=some (a.den s,[L.k],[]):=by
       rcases hv with⟨v,v1,v2⟩|⟨v1,v2⟩
       ·rw[v2];exact k4 v v1
       ·rw[v2];exact k5 v1
      simp only[uQ,hw,Ae,k2,hn]
      exact h3
     split at h
     ·rename_i L hL
      obtain⟨fc2,hf2,h⟩:=BQ hf1 h
      cases hq:(L.c.den s != 0) with
      | false=>rw[hq] at h;cases h
      | true =>
       rw[hq] at h
       simp only at h
       obtain⟨k2,hn⟩:=aei (E:=E) (s:=s) (Dg s T) hL (G:=C.G) (k:=Nb+2*i) hq
       obtain⟨h1,h2⟩:=step L.r [L.k] [] nv fc2 hf2 (by simpa [Bd,Be] using h)
       refine⟨fun w0 B0 trf K ht hK=>?_,h2⟩
       have h3:=h1 w0 B0 trf K ht hK
       simp only[uQ,hw,Ae,k2,hn]
       exact h3
     ·rw[uq] at h
      obtain⟨r,hr,h⟩:=ru.path_bind_some h
      have hn:=adN hC.se hf1 (Dg s T) hr
      obtain⟨h1,h2⟩:=step r.1 r.2.1 r.2.2 nv fc1 hf1 h
      refine⟨fun w0 B0 trf K ht hK=>?_,h2⟩
      have h3:=h1 w0 B0 trf K ht hK
      simp only[uQ,hw,Ae]
      cases hp:Af o.op (uZ (rZ.den s T)) with
      | none=>simp only[hn];exact h3
      | some z =>
       obtain⟨c,x,y⟩:=z
       obtain⟨e1,e2,e3,e4⟩:=aef hp hn
       rw[e1,e2] at h3
       cases c with
       | true=>simp only[Ae,e3 rfl];exact h3
       | false=>simp only[Ee,e4 rfl];exact h3
theorem zB {r:Exit×St} {t:ru (Exit×St)} {f:Exit×St→ru (Exit×St)} (h:(t.bind f).path C.Φ s=some r):∃ ex st,t.path C.Φ s=some (ex,st)∧(f (ex,st)).path C.Φ s=some r:=by
 obtain⟨⟨ex,st⟩,h1,h2⟩:=ru.path_bind_some h;exact⟨ex,st,h1,h2⟩
theorem EE {x:Exit} {r y:Exit×St} {A:ru (Exit×St)} (h:(match x with | .normal=>A|_=>.leaf y:ru (Exit×St)).path C.Φ s=some r):(x = .normal∧A.path C.Φ s=some r)∨(x ≠ .normal∧r=y):=by
 cases x<;>first|exact .inl ⟨rfl,h⟩|(cases h;exact .inr ⟨fun e=>(by cases e),rfl⟩)
theorem EF {K:Nat→r9→rG→Prop} {Q:yI} {x:Exit} {N:Nat} {T:r9} {H:rG} (hx:x ≠ .normal) (h:Q x N T H):Gc K Q x N T H:=by
 cases x<;>first|exact absurd rfl hx|exact h
theorem Ao.trans {c c' c2:Code} {st st1 st2:St} {ul ex2:Exit} (h1:Ao C E s c st ul st1) (h2:Ao C E s c' st1 ex2 st2) (aw:∀ w0 B0,AW ⟨C.P,C.G,E,w0,B0,st.T.length⟩ c2 (wZ s ex2 st2) st.N (rZ.den s st.T) (SH.den s st.H)):Ao C E s c2 st ex2 st2 :=
 ⟨aw,h2.len.trans h1.len,fun j hj=>by obtain⟨a,b⟩:=h2.dt j hj;obtain⟨a',b'⟩:=h1.dt j a;exact⟨a',b.trans b'⟩,h2.fc⟩
def Cg (id:Nat):Exit→Exit
 | .exit id'=>if id'=id then .normal else .exit id'
 | x=>x
theorem GR (hC:wH C E):∀ n:Nat,Kr C E s (exec C n) ∧
  ∀ c st ex st',(exec C n (.loop c) st).path C.Φ s=some (ex,st')→tF s st.fc→∀ w0 B0,xN ⟨C.P,C.G,E,w0,B0,st.T.length⟩ c (wZ s ex st') n st.N (rZ.den s st.T) (SH.den s st.H)
 | 0=>⟨fun c st ex st' h=>(by cases h),fun c st ex st' h=>(by cases h)⟩
 | n+1=>by
  obtain⟨ih,ihl⟩:=GR hC n
  have loop:∀ c st ex st',(exec C (n+1) (.loop c) st).path C.Φ s=some (ex,st')→tF s st.fc→Ao C E s (.loop c) st ex st'∧∀ w0 B0,xN ⟨C.P,C.G,E,w0,B0,st.T.length⟩ c (wZ s ex st') (n+1) st.N (rZ.den s st.T) (SH.den s st.H):=by
   intro c st ex st' h hf
   simp only[exec] at h
   obtain⟨ul,st1,h1,h2⟩:=zB h
   have s1:=ih _ _ _ _ h1 hf
   rcases EE h2 with⟨rfl,h3⟩|⟨hx,h3⟩
   ·have s2:=ih _ _ _ _ h3 s1.fc
    have hr:∀ w0 B0,xN ⟨C.P,C.G,E,w0,B0,st.T.length⟩ c (wZ s ex st') (n+1) st.N (rZ.den s st.T) (SH.den s st.H):=fun w0 B0=>by
     rw[Gg]
     refine(s1.aw w0 B0).mono ?_
     rintro x N T H ⟨rfl,rfl,rfl,rfl⟩
     have:=ihl _ _ _ _ h3 s1.fc w0 B0
     rw[s1.len] at this
     exact this
    exact⟨s1.trans s2 fun w0 B0=>Gf _ (hr w0 B0),hr⟩
   ·obtain⟨rfl,rfl⟩:ul=ex∧st1=st':=by cases h3;exact⟨rfl,rfl⟩
    have hr:∀ w0 B0,xN ⟨C.P,C.G,E,w0,B0,st.T.length⟩ c (wZ s ul st1) (n+1) st.N (rZ.den s st.T) (SH.den s st.H):=fun w0 B0=>by
     rw[Gg]
     refine(s1.aw w0 B0).mono ?_
     rintro x N T H ⟨rfl,rfl,rfl,rfl⟩
     exact EF hx ⟨rfl,rfl,rfl,rfl⟩
    exact⟨⟨fun w0 B0=>Gf _ (hr w0 B0),s1.len,s1.dt,s1.fc⟩,hr⟩
  refine⟨?_,fun c st ex st' h hf=>(loop c st ex st' h hf).2⟩
  intro c st ex st' h hf
  cases c with
  | skip=>simp only[exec] at h;cases h;exact⟨fun w0 B0=>OZ ⟨rfl,rfl,rfl,rfl⟩,rfl,fun j hj=>⟨hj,rfl⟩,hf⟩
  | label l=>simp only[exec] at h;cases h;exact⟨fun w0 B0=>O0 ⟨rfl,rfl,rfl,rfl⟩,rfl,fun j hj=>⟨hj,rfl⟩,hf⟩
  | exit id=>simp only[exec] at h;cases h;exact⟨fun w0 B0=>O1 ⟨rfl,rfl,rfl,rfl⟩,rfl,fun j hj=>⟨hj,rfl⟩,hf⟩
  | ret=>simp only[exec] at h;cases h;exact⟨fun w0 B0=>O3 ⟨rfl,rfl,rfl,rfl⟩,rfl,fun j hj=>⟨hj,rfl⟩,hf⟩
  | seq a b =>
   simp only[exec] at h
   obtain⟨ul,st1,h1,h2⟩:=zB h
   have s1:=ih _ _ _ _ h1 hf
   rcases EE h2 with⟨rfl,h3⟩|⟨hx,h3⟩
   ·have s2:=ih _ _ _ _ h3 s1.fc
    refine s1.trans s2 fun w0 B0=>Gd ((s1.aw w0 B0).mono ?_)
    rintro x N T H ⟨rfl,rfl,rfl,rfl⟩
    have:=s2.aw w0 B0
    rw[s1.len] at this
    exact this
   ·cases h3
    refine⟨fun w0 B0=>Gd ((s1.aw w0 B0).mono ?_),s1.len,s1.dt,s1.fc⟩
    rintro x N T H ⟨rfl,rfl,rfl,rfl⟩
    exact EF hx ⟨rfl,rfl,rfl,rfl⟩
  | cond c a b =>
   simp only[exec] at h
   split at h
   ·rename_i q hq
    have hd:=Dg s st.T _ _ hq
    obtain⟨fc',hf',h⟩:=BQ hf h
    simp only[SV.den] at hd
    cases hb:(q.den s != 0) with
    | true =>
     rw[hb] at h hd
     have s1:=ih _ _ _ _ h hf'
     exact⟨fun w0 B0=>O4 hd (s1.aw w0 B0),s1.len,s1.dt,s1.fc⟩
    | false =>
     rw[hb] at h hd
     have s1:=ih _ _ _ _ h hf'
     exact⟨fun w0 B0=>O5 hd (s1.aw w0 B0),s1.len,s1.dt,s1.fc⟩
   ·cases h
  | block id c =>
   simp only[exec] at h
   obtain⟨ul,st1,h1,h2⟩:=zB h
   have s1:=ih _ _ _ _ h1 hf
   have key:ex=Cg id ul∧st'=st1:=by
    cases ul with
    | exit id' =>
     simp only at h2
     simp only[Cg]
     split at h2
     ·rename_i hb;cases h2;rw[if_pos (tq.1 hb)];exact⟨rfl,rfl⟩
     ·rename_i hb;cases h2
      rw[if_neg (fun e=>by rw[e] at hb;simp at hb)];exact⟨rfl,rfl⟩
    | _=>cases h2;exact⟨rfl,rfl⟩
   obtain⟨rfl,rfl⟩:=key
   refine⟨fun w0 B0=>O6 ((s1.aw w0 B0).mono ?_),s1.len,s1.dt,s1.fc⟩
   rintro x N T H ⟨rfl,rfl,rfl,rfl⟩
   cases x with
   | exit id' =>
    simp only[JF,Cg]
    split
    ·exact⟨rfl,rfl,rfl,rfl⟩
    ·exact⟨rfl,rfl,rfl,rfl⟩
   | _=>exact⟨rfl,rfl,rfl,rfl⟩
  | loop c=>exact(loop c st ex st' h hf).1
  | scope c =>
   simp only[exec] at h
   obtain⟨ul,st1,h1,h2⟩:=zB h
   have s1:=ih _ _ _ _ h1 hf
   have key:(∀ l,ul ≠ .goto l)∧ex=ul∧st'=st1:=by
    cases ul<;>first|(cases h2;exact⟨fun l e=>(by cases e),rfl,rfl⟩)|cases h2
   obtain⟨hg,rfl,rfl⟩:=key
   exact⟨fun w0 B0=>O8 (s1.aw w0 B0) (fun l N T H e=>hg l e.1.symm),s1.len,s1.dt,s1.fc⟩
  | region id ops draw =>
   simp only[exec] at h
   obtain⟨out,h1,h2⟩:=ru.path_bind_some h
   have dst:∀ o∈ops.toList,∀ t,o.dst=some t→t<st.T.length:=by
    unfold regionEnd at h2
    split at h2
    ·split at h2
     ·rename_i hdr _
      simp only[drawOK,Bool.and_eq_true] at hdr
      exact BK hdr.1.2
     ·cases h2
     ·cases h2
    ·split at h2
     ·rename_i hdr;exact BK hdr
     ·cases h2
   obtain⟨e1,e2,e3,e4⟩:=Kv hC (nt:=st.T.length) (fun g args H k nv fc r hr hf=>QK hC ih hr hf) ops.toList 0 st.T st.H [] st.nv st.dt st.fc out h1 hf rfl dst
   unfold regionEnd at h2
   cases draw with
   | true =>
    simp only at h2
    split at h2
    ·rename_i hdr htr
     rw[uq] at h2
     cases h2
     refine⟨fun w0 B0=>Pb hC.eq hC.mix hdr (e1 w0 B0 [] _ rfl ?_),e2,e4,e3⟩
     intro trf htf
     refine⟨?_,rfl,rfl,rfl,rfl⟩
     rw[← htf] at htr
     exact Ku htr
    ·cases h2
    ·cases h2
   | false =>
    simp only at h2
    split at h2
    ·rename_i hdr
     rw[uq] at h2
     cases h2
     exact⟨fun w0 B0=>O9 hC.eq hdr (e1 w0 B0 [] _ rfl fun trf htf=>⟨rfl,rfl,rfl,rfl⟩),e2,e4,e3⟩
    ·cases h2
  | rangeFunc f ps a b=>simp only[exec] at h;cases h
  | goto l=>simp only[exec] at h;cases h
  | refuse w=>simp only[exec] at h;cases h
end
open Go.RowKit
def rP:List Int→Nat→Int
 | [],_=>0
 | x::_,0=>x
 | _::l,n+1=>rP l n
theorem VN:∀ (l m:List Int) (i:Nat),i<l.length→rP (l++m) i=rP l i
 | x::l,m,0,_=>rfl
 | x::l,m,i+1,h=>VN l m i (by simpa using h)
 | [],m,i,h=>by simp at h
theorem QQ:∀ (l m q:List Int),vR (rP (l++m++q)) l.length m.length=m
 | l,[],q=>rfl
 | l,x::m,q=>by
  rw[List.length_cons,vR]
  have h1:rP (l++x::m++q) l.length=x:=by
   induction l with
   | nil=>rfl
   | cons y l ih=>exact ih
  have h2:=QQ (l ++ [x]) m q
  rw[h1]
  simp only[List.append_assoc,List.singleton_append,List.length_append,List.length_cons,List.length_nil,List.cons_append,List.nil_append,Nat.zero_add] at h2 ⊢
  rw[h2]
def X.ev (l:List Int):X→Int
 | .lit n=>n
 | .var k i=>GH k (rP l i)
 | .bin op k a b=>fold op k (a.ev l) (b.ev l)
 | .conv k a=>uR k (a.ev l)
 | .com k a=>fold .xor k (match k.signed with|true => -1|false=>.ofNat (xO k-1)) (a.ev l)
 | .not a=>sF (zM (sV (a.ev l)))
 | .and a b=>match sV (a.ev l) with|true=>sF (sV (b.ev l))|false=>0
 | .beq a b=>sF (match sV (a.ev l) with|true=>sV (b.ev l)|false=>zM (sV (b.ev l)))
 | .min a b=>match wE (b.ev l) (a.ev l) with|true=>b.ev l|false=>a.ev l
 | .max a b=>match wE (a.ev l) (b.ev l) with|true=>b.ev l|false=>a.ev l
 | .ite c a b=>match sV (c.ev l) with|true=>a.ev l|false=>b.ev l
 | .dlen a=>Int.ofNat (Ah (a.ev l).toNat)
theorem aej (k:IntKind) (n:Int):fold .xor k (match k.signed with|true => -1|false=>.ofNat (xO k-1)) n=JR k n:=by
 have:=UK (fun _=>0) k (.lit n)
 unfold Mm at this
 simp only[Ei,X.den] at this
 exact this
theorem X.ev_den (l:List Int):∀ x:X,x.ev l=x.den (rP l)
 | .lit n=>rfl
 | .var k i=>Vb k _
 | .bin op k a b=>by simp only[X.ev,X.den,Em,X.ev_den l a,X.ev_den l b]
 | .conv k a=>by simp only[X.ev,X.den,uw,X.ev_den l a]
 | .com k a=>by simp only[X.ev,X.den,aej,X.ev_den l a]
 | .not a=>by simp only[X.ev,X.den,yY,uS,X.ev_den l a]
 | .and a b=>by
  simp only[X.ev,X.den,uS,X.ev_den l a,X.ev_den l b]
  cases (a.den (rP l) != 0)<;>rfl
 | .beq a b=>by
  simp only[X.ev,X.den,uS,yY,X.ev_den l a,X.ev_den l b]
  cases (a.den (rP l) != 0)<;>cases (b.den (rP l) != 0)<;>rfl
 | .min a b=>by
  simp only[X.ev,X.den,yX,X.ev_den l a,X.ev_den l b]
  by_cases h:b.den (rP l)<a.den (rP l)
  ·rw[decide_eq_true h,if_pos h]
  ·rw[decide_eq_false h,if_neg h]
 | .max a b=>by
  simp only[X.ev,X.den,yX,X.ev_den l a,X.ev_den l b]
  by_cases h:a.den (rP l)<b.den (rP l)
  ·rw[decide_eq_true h,if_pos h]
  ·rw[decide_eq_false h,if_neg h]
 | .ite c a b=>by
  simp only[X.ev,X.den,uS,X.ev_den l a,X.ev_den l b,X.ev_den l c]
  by_cases h:c.den (rP l)=0
  ·rw[if_pos h,h];rfl
  ·rw[if_neg h,show(c.den (rP l) != 0)=true by simpa using h]
 | .dlen a=>by simp only[X.ev,X.den,X.ev_den l a]
def evs {β:Sort _} (l:List Int):List X→(List Int→β)→β
 | [],K=>K []
 | x::xs,K=>Eh (x.ev l) fun n=>evs l xs fun r=>K (n::r)
theorem zC {β:Sort _} (l:List Int):∀ (xs:List X) (K:List Int→β),evs l xs K=K (xs.map (X.den (rP l)))
 | [],K=>rfl
 | x::xs,K=>by rw[evs,Ei,zC l xs,X.ev_den];rfl
def vF (Φ:uM):ru SV→List Int→Option (SV×List Int)
 | .leaf a,l=>some (a,l)
 | .ite c a b,l=>match sV (c.ev l) with|true=>vF Φ a l|false=>vF Φ b l
 | .call f args _ n t,l=>evs l args fun xs=>match Nat.beq (Φ f xs).length n with|true=>vF Φ t (l++Φ f xs)|false=>none
 | .stuck _,_=>none
def vV (n:Nat):X→Bool
 | .lit _=>true
 | .var _ i=>Nat.blt i n
 | .bin _ _ a b=>tu (vV n a) (vV n b)
 | .conv _ a=>vV n a
 | .com _ a=>vV n a
 | .not a=>vV n a
 | .and a b=>tu (vV n a) (vV n b)
 | .beq a b=>tu (vV n a) (vV n b)
 | .min a b=>tu (vV n a) (vV n b)
 | .max a b=>tu (vV n a) (vV n b)
 | .ite c a b=>tu (vV n c) (tu (vV n a) (vV n b))
 | .dlen a=>vV n a
def MW (n:Nat):List X→Bool
 | []=>true
 | x::l=>tu (vV n x) (MW n l)
def Bh (n:Nat):ru SV→Bool
 | .leaf _=>true
 | .ite c a b=>tu (vV n c) (tu (Bh n a) (Bh n b))
 | .call _ args base m t=>tu (Nat.beq base n) (tu (MW n args) (Bh (n+m) t))
 | .stuck _=>true
theorem xc {l m:List Int} : ∀ {x:X},vV l.length x=true→x.den (rP (l++m))=x.den (rP l)
 | .lit n,_=>rfl
 | .var k i,h=>by simp only[X.den];rw[VN _ _ _ (by simpa [vV,Nat.blt_eq] using h)]
 | .bin _ _ a b,h=>by have h:=sM h;simp only[X.den,xc h.1,xc h.2]
 | .conv _ a,h=>by simp only[X.den,xc (x:=a) h]
 | .com _ a,h=>by simp only[X.den,xc (x:=a) h]
 | .not a,h=>by simp only[X.den,xc (x:=a) h]
 | .and a b,h=>by have h:=sM h;simp only[X.den,xc h.1,xc h.2]
 | .beq a b,h=>by have h:=sM h;simp only[X.den,xc h.1,xc h.2]
 | .min a b,h=>by have h:=sM h;simp only[X.den,xc h.1,xc h.2]
 | .max a b,h=>by have h:=sM h;simp only[X.den,xc h.1,xc h.2]
 | .ite c a b,h=>by have h:=sM h;have h2:=sM h.2;simp only[X.den,xc h.1,xc h2.1,xc h2.2]
 | .dlen a,h=>by simp only[X.den,xc (x:=a) h]
theorem VO {l m:List Int} : ∀ {xs:List X},MW l.length xs=true→xs.map (X.den (rP (l++m)))=xs.map (X.den (rP l))
 | [],_=>rfl
 | x::xs,h=>by have h:=sM h;rw[List.map_cons,List.map_cons,xc h.1,VO h.2]
theorem EG {Φ:uM} : ∀ {t:ru SV} {l:List Int} {a:SV} {l':List Int},vF Φ t l=some (a,l')→Bh l.length t=true→t.path Φ (rP l')=some a∧∃ m,l'=l++m
 | .leaf a,l,b,l',h,_=>by simp only[vF,Option.some.injEq,Prod.mk.injEq] at h;obtain⟨rfl,rfl⟩:=h;exact⟨rfl,[],by simp⟩
 | .ite c a b,l,v,l',h,hs=>by
  have hs:=sM hs;have hs2:=sM hs.2
  simp only[vF,uS,X.ev_den] at h
  split at h
  ·rename_i hc
   obtain⟨h1,m,rfl⟩:=EG h hs2.1
   refine⟨?_,m,rfl⟩
   rw[ru.path,xc hs.1,if_neg (by simpa using hc)];exact h1
  ·rename_i hc
   obtain⟨h1,m,rfl⟩:=EG h hs2.2
   refine⟨?_,m,rfl⟩
   rw[ru.path,xc hs.1,if_pos (by simpa using hc)];exact h1
 | .call f args base n t,l,v,l',h,hs=>by
  have hs:=sM hs;have hs2:=sM hs.2
  have hb:=tq.1 hs.1;subst hb
  simp only[vF,zC] at h
  split at h
  ·rename_i hn
   have hn:=tq.1 hn;subst hn
   obtain⟨h1,m,rfl⟩:=EG h (by rw[List.length_append];exact hs2.2)
   refine⟨?_,_,List.append_assoc _ _ _⟩
   rw[ru.path,if_pos]
   ·exact h1
   ·unfold Eo
    have e:=VO (m:=Φ f (args.map (X.den (rP l)))++m) hs2.1
    rw[List.append_assoc,e,← List.append_assoc]
    exact QQ l _ m
  ·cases h
 | .stuck w,l,v,l',h,_=>by cases h
def xU (r:List Sh) (a:SV):List SV:=match r with
 | [_]=>[a]
 | _=>match a with | .tup m=>m|a=>[a]
def rR (Φ:uM) (ct:Ct) (t:ru SV) (l:List Int):List Int:=match vF Φ t l with
 | some (a,l')=>match wY ct.r (xU ct.r a) with
  | some xs=>evs l' xs id
  | none=>[]
 | none=>[]
def okF (Φ:uM) (ct:Ct) (t:ru SV) (l:List Int):Prop:=∃ a l' xs,vF Φ t l=some (a,l')∧wY ct.r (xU ct.r a)=some xs
theorem MZ {Φ:uM} {ct:Ct} {t:ru SV} {l:List Int} (h:okF Φ ct t l):(rR Φ ct t l).length=(rE ct.r).length:=by
 obtain⟨a,l',xs,h1,h2⟩:=h
 unfold rR
 simp only[h1,h2,zC,id,List.length_map,(Dl (fun _=>0) h2).2]
theorem M3 (l m:List Int):vR (rP (l++m)) 0 l.length=l:=by
 have:=QQ [] l m;simpa using this
theorem aek {C:tC} {E:tK} {s:rM} (hC:wH C E) {n:Nat} {g:FuncId} {args:List SV} {nv:Nat} {a:SV} {vs:List Value} {v:Value} (h:(sw C n g args nv).path C.Φ s=some a) (ha:SV.dens s args=vs.map .v) (hv:a.den s = .v v) :
  PC C.P C.G g vs v:=by
 unfold sw at h
 split at h
 ·cases h
 ·rename_i fn hf
  split at h
  ·cases h
  ·rename_i cd hb
   split at h
   ·rename_i hl
    obtain⟨⟨ex,st⟩,h1,h2⟩:=ru.path_bind_some h
    have sp:=(GR (E:=E) (s:=s) hC n).1 _ _ _ _ h1 (fun x hx=>by cases hx)
    have hlen:(vv args fn.ntmps).length=fn.ntmps:=EB _ _ (Nat.le_of_ble_eq_true hl)
    have hvl:vs.length=args.length:=by have:=congrArg List.length ha;rw[zx,List.length_map] at this;exact this.symm
    refine Pi E hf hb (hC.nm g fn hf (by rw[hb];rfl)) (by rw[hvl];exact hl) fun w=>?_
    have hA:=sp.aw w sN.nil
    simp only[hlen,Ko,ha] at hA
    have key:∀ rs,vU C.P st.T st.H fn.results.toList=some rs→tY rs=a→∃ rs',yJ C.P C.G (rZ.den s st.T) (SH.den s st.H) fn.results.toList=some rs'∧Ag rs' = .v v:=fun rs hrs e =>
     ⟨_,EC s hrs,by rw[GN,e,hv]⟩
    have hx:(ex = .normal∨ex = .ret)∧∃ rs,vU C.P st.T st.H fn.results.toList=some rs∧tY rs=a:=by
     rcases Kt h2 with⟨rfl,h3⟩|⟨rfl,h3⟩
     ·split at h3
      ·rename_i rs hrs;cases h3;exact⟨.inl rfl,rs,hrs,rfl⟩
      ·cases h3
     ·split at h3
      ·rename_i rs hrs;cases h3;exact⟨.inr rfl,rs,hrs,rfl⟩
      ·cases h3
    obtain⟨hx,rs,hrs,e⟩:=hx
    refine AW.mono (show AW _ cd (wZ s ex st) 0 _ _ from hA) ?_
    rintro x N T H ⟨rfl,rfl,rfl,rfl⟩
    rcases hx with rfl|rfl
    ·exact key rs hrs e
    ·exact key rs hrs e
   ·cases h
theorem M4 {s:rM} {r:List Sh} {a:SV} {vs:List Value} (h:SV.dens s (xU r a)=vs.map .v) (hl:vs.length=r.length):a.den s = .v (tH vs):=by
 unfold xU at h
 split at h
 ·match vs,hl with
  | [v],_=>simpa [SV.dens,tH] using h
 ·rename_i hr
  have tup:∀ m,SV.dens s m=vs.map .v→(SV.tup m).den s = .v (tH vs):=fun m hm=>by
   simp only[SV.den,hm,Mt]
   match vs,hl with
   | [],_=>rfl
   | [v],hl=>exfalso;match r,hl with | [x],_=>exact hr x rfl
   | _::_::_,_=>rfl
  split at h
  ·exact tup _ h
  ·rename_i hnt
   exfalso
   have h1:=congrArg List.length h
   rw[zx,List.length_map,hl] at h1
   match r,h1 with
   | [x],_=>exact hr x rfl
theorem GU:∀ (hs:List Sh) (ns:List Int),(su hs ns).length=hs.length
 | [],_=>rfl
 | h::hs,ns=>by rw[su,List.length_cons,GU hs,List.length_cons]
theorem VP {C:tC} {E:tK} (hC:wH C E) {n:Nat} {g:FuncId} {ct:Ct} {t:ru SV} (h:sw C n g (rV ct.a (rU 0 (rE ct.a))) (rE ct.a).length=t) (hs:Bh (rE ct.a).length t=true)
  (l:List Int) (hl:l.length=(rE ct.a).length) (ho:okF C.Φ ct t l) :
  (rR C.Φ ct t l).length=(rE ct.r).length∧PC C.P C.G g (su ct.a l) (tH (su ct.r (rR C.Φ ct t l))):=by
 refine⟨MZ ho,?_⟩
 obtain⟨a,l',xs,h1,h2⟩:=ho
 obtain⟨h3,m,rfl⟩:=EG h1 (by rw[hl];exact hs)
 rw[← h] at h3
 obtain⟨h4,h5⟩:=Bg (rP (l++m)) (rE ct.a) 0
 rw[← hl,M3] at h4
 have hf:=Dl (rP (l++m)) h2
 refine aek hC h3 (Ca h4 h5) ?_
 have:rR C.Φ ct t l=xs.map (X.den (rP (l++m))):=by unfold rR;simp only[h1,h2,zC,id]
 rw[this]
 exact M4 hf.1 (GU _ _)
def zf (cf:FuncId→Option Ct) (ct:Ct) (n:Nat):ru SV→Bool
 | .leaf a=>(wY ct.r (xU ct.r a)).isSome
 | .ite c a b=>tu (vV n c) (tu (zf cf ct n a) (zf cf ct n b))
 | .call f args base m t=>match cf f with
  | some c=>tu (Nat.beq base n) (tu (MW n args) (tu (Nat.beq args.length (rE c.a).length) (tu (Nat.beq m (rE c.r).length) (zf cf ct (n+m) t))))
  | none=>false
 | .stuck _=>false
theorem EH {cf:FuncId→Option Ct} {ct:Ct} : ∀ {t:ru SV} {n:Nat},zf cf ct n t=true→Bh n t=true
 | .leaf a,n,_=>rfl
 | .ite c a b,n,h=>by
  have h:=sM h;have h2:=sM h.2
  simp only[Bh,h.1,EH h2.1,EH h2.2];rfl
 | .call f args base m t,n,h=>by
  simp only[zf] at h
  split at h
  ·have h:=sM h;have h2:=sM h.2;have h3:=sM h2.2;have h4:=sM h3.2
   simp only[Bh,h.1,h2.1,EH h4.2];rfl
  ·cases h
 | .stuck _,n,h=>by cases h
structure vG (C:tC) (E:tK):Prop where
 ok:wH C E
 ct:∀ (g:FuncId) (ct:Ct),C.ct g=some ct→∀ l:List Int,l.length=(rE ct.a).length→(C.Φ g l).length=(rE ct.r).length
 nt:∀ (g:FuncId) (ct:Ct),C.nt g=some ct→∀ l:List Int,l.length=(rE ct.a).length→(C.Φ g l).length=(rE ct.r).length
 sl:∀ (g:FuncId) (c:vT),c∈C.sl g→∀ l:List Int,l.length=(rE c.a++c.ks).length→(C.Φ c.id l).length=(rE c.r).length
theorem M5 {C:tC} {E:tK} (hC:vG C E) {ct:Ct} : ∀ {t:ru SV} {l:List Int},zf C.ct ct l.length t=true→okF C.Φ ct t l
 | .leaf a,l,h=>by
  obtain⟨xs,hx⟩:=Option.isSome_iff_exists.1 (show(wY ct.r (xU ct.r a)).isSome=true from h)
  exact⟨a,l,xs,rfl,hx⟩
 | .ite c a b,l,h=>by
  have h:=sM h;have h2:=sM h.2
  unfold okF
  simp only[vF]
  cases sV (c.ev l) with
  | true=>exact M5 hC h2.1
  | false=>exact M5 hC h2.2
 | .call f args base m t,l,h=>by
  simp only[zf] at h
  split at h
  ·rename_i c hc
   have h:=sM h;have h2:=sM h.2;have h3:=sM h2.2;have h4:=sM h3.2
   have e1:=tq.1 h3.1;have e2:=tq.1 h4.1
   unfold okF
   simp only[vF,zC]
   have hl:=(hC.ct f c hc (args.map (X.den (rP l))) (by rw[List.length_map];exact e1))
   rw[hl,e2]
   simp only[Nat.beq_refl]
   refine M5 hC ?_
   rw[List.length_append,hl,← e2];exact h4.2
  ·cases h
 | .stuck _,l,h=>by cases h
structure sH where
 g:FuncId
 ct:Ct
 F:List Int→List Int
def vX:List sH→FuncId→Option sH
 | [],_=>none
 | x::l,g=>match Nat.beq x.g g with|true=>some x|false=>vX l g
def GV (C : tC) (L : List sH) : tC :=
  { C with ct := fun g => match vX L g with | some e => some e.ct | none => C.ct g
           Φ := fun g l => match vX L g with | some e => e.F l | none => C.Φ g l
           nt := fun _ => none
           sl := fun _ => [] }
def rQ (P:Program) (G:rX) (e:sH):Prop:=∀ l:List Int,l.length=(rE e.ct.a).length→(e.F l).length=(rE e.ct.r).length∧PC P G e.g (su e.ct.a l) (tH (su e.ct.r (e.F l)))
theorem GX {L:List sH} {g:FuncId} {e:sH} (h:vX L g=some e):e∈L∧e.g=g:=by
 induction L with
 | nil=>cases h
 | cons x l ih =>
  simp only[vX] at h
  split at h
  ·rename_i hb;cases h;exact⟨List.mem_cons_self,tq.1 hb⟩
  ·obtain⟨h1,h2⟩:=ih h;exact⟨List.mem_cons_of_mem _ h1,h2⟩
theorem vG.add {C:tC} {E:tK} (hC:vG C E) {L:List sH} (h:∀ e∈L,rQ C.P C.G e):vG (GV C L) E:=by
 have key:∀ (g:FuncId) (ct:Ct),(GV C L).ct g=some ct→∀ l:List Int,l.length=(rE ct.a).length→((GV C L).Φ g l).length=(rE ct.r).length∧(((GV C L).Φ g l).length=(rE ct.r).length→PC C.P C.G g (su ct.a l) (tH (su ct.r ((GV C L).Φ g l)))):=by
  intro g ct hct l hl
  simp only[GV] at hct ⊢
  cases hf:vX L g with
  | some e =>
   rw[hf] at hct
   simp only[Option.some.injEq] at hct;subst hct
   obtain⟨h1,h2⟩:=GX hf
   subst h2
   exact⟨(h e h1 l hl).1,fun _=>(h e h1 l hl).2⟩
  | none =>
   rw[hf] at hct
   exact⟨hC.ct g ct hct l hl,hC.ok.ct g ct hct l hl⟩
 exact⟨⟨hC.ok.se,hC.ok.eq,hC.ok.mix,hC.ok.nm,fun g ct hct l hl=>(key g ct hct l hl).2,fun g ct hn=>(by cases hn),fun g c hc=>(by cases hc)⟩,fun g ct hct l hl=>(key g ct hct l hl).1,fun g ct hn=>(by cases hn),fun g c hc=>(by cases hc)⟩
theorem sQ {C:tC} {E:tK} (hC:vG C E) (n:Nat) {g:FuncId} {ct:Ct} {t:ru SV} (h:sw C n g (rV ct.a (rU 0 (rE ct.a))) (rE ct.a).length=t) (hs:zf C.ct ct (rE ct.a).length t=true) :
  rQ C.P C.G ⟨g,ct,rR C.Φ ct t⟩:=fun l hl=>VP hC.ok h (EH hs) l hl (M5 hC (by rw[hl];exact hs))
structure yn (P:Program) (G:rX) (e:sH):Prop where
 ok:∀ l:List Int,l.length=(rE e.ct.a).length→(e.F l).length=(rE e.ct.r).length→PC P G e.g (su e.ct.a l) (tH (su e.ct.r (e.F l)))
theorem rQ.c {P:Program} {G:rX} {e:sH} (h:rQ P G e):yn P G e:=⟨fun l hl _=>(h l hl).2⟩
theorem yn.tot {P:Program} {G:rX} {e:sH} (h:yn P G e) (ht:∀ l:List Int,l.length=(rE e.ct.a).length→(e.F l).length=(rE e.ct.r).length):rQ P G e:=fun l hl=>⟨ht l hl,h.ok l hl (ht l hl)⟩
theorem ael {Φ:uM} {ct:Ct} {t:ru SV} {l:List Int} (hp:Nat.blt 0 (rE ct.r).length=true) (h:(rR Φ ct t l).length=(rE ct.r).length):okF Φ ct t l:=by
 have hp:0<(rE ct.r).length:=by simpa [Nat.blt_eq] using hp
 unfold rR at h
 cases he:vF Φ t l with
 | none=>rw[he] at h;simp only[List.length_nil] at h;omega
 | some q =>
  obtain⟨a,l'⟩:=q
  rw[he] at h
  simp only at h
  cases hf:wY ct.r (xU ct.r a) with
  | none=>rw[hf] at h;simp only[List.length_nil] at h;omega
  | some xs=>exact⟨a,l',xs,he,hf⟩
end Go.Proofs.YtbembkamcdlhbaaGreatDoor
