import Derived.Test.YtbembkamcdlhbaaGreatDoorZASb
set_option linter.unusedSimpArgs false
set_option linter.unusedVariables false
namespace Go.Proofs.YtbembkamcdlhbaaGreatDoor
open Go.RowKit
inductive VK where
 | int (k:IntKind)
 | bool
 | bit
 | nat
def r9 (b:Bool):Int:=match b with|true=>1|false=>0
def zn (op:BinOp) (k:IntKind) (x y:Int):Int :=
 let a:=BitVec.ofInt k.bits x
 let b:=BitVec.ofInt k.bits y
 k.wrap (match op with | .and=>a&&&b | .or=>a|||b | .xor=>a ^^^ b|_=>a &&& ~~~b).toNat
theorem Ur (op:BinOp) (k:IntKind) (x y:Int):DY op k x y = .int k (zn op k x y):=rfl
def rQ (op:BinOp) (k:IntKind) (a b:Int):Int:=match op with
 | .shl=>k.wrap (a*2^min b.toNat k.bits)
 | .shr=>a.fdiv (2^min b.toNat k.bits)
 | .add=>k.wrap (a+b)
 | .sub=>k.wrap (a-b)
 | .mul=>k.wrap (a*b)
 | .quo=>k.wrap (a.tdiv b)
 | .rem=>a.tmod b
 | .and=>zn .and k a b
 | .or=>zn .or k a b
 | .xor=>zn .xor k a b
 | .andNot=>zn .andNot k a b
 | .eql=>r9 (a==b)
 | .neq=>r9 (a != b)
 | .lss=>r9 (decide (a<b))
 | .leq=>r9 (decide (a≤b))
 | .gtr=>r9 (decide (a>b))
 | .geq=>r9 (decide (a≥b))
def Us:Nat→Nat→List Nat
 | 0,_=>[]
 | f+1,n=>match n with|0=>[]|m+1=>(m+1)%4294967296::Us f ((m+1)/4294967296)
def Ut (n:Nat):List Nat:=Us n n
def Ad (n:Nat):Nat:=(Ut n).length
inductive X where
 | lit (n:Int)
 | var (k:VK) (i:Nat)
 | bin (op:BinOp) (k:IntKind) (a b:X)
 | conv (k:IntKind) (a:X)
 | com (k:IntKind) (a:X)
 | not (a:X)
 | and (a b:X)
 | beq (a b:X)
 | min (a b:X)
 | max (a b:X)
 | ite (c a b:X)
 | dlen (a:X)
abbrev rD:=Nat→Int
def VK.norm:VK→Int→Int
 | .int k,n=>k.wrap n
 | .bool,n=>r9 (n != 0)
 | .bit,n=>r9 (n != 0)
 | .nat,n=>Int.ofNat n.toNat
def JJ (k:IntKind) (n:Int):Int:=zn .xor k (if k.signed then -1 else k.max) n
def X.den (s:rD):X→Int
 | .lit n=>n
 | .var k i=>k.norm (s i)
 | .bin op k a b=>rQ op k (a.den s) (b.den s)
 | .conv k a=>k.wrap (a.den s)
 | .com k a=>JJ k (a.den s)
 | .not a=>r9 (!(a.den s != 0))
 | .and a b=>r9 (a.den s != 0&&b.den s != 0)
 | .beq a b=>r9 ((a.den s != 0)==(b.den s != 0))
 | .min a b=>if b.den s<a.den s then b.den s else a.den s
 | .max a b=>if b.den s>a.den s then b.den s else a.den s
 | .ite c a b=>if c.den s=0 then b.den s else a.den s
 | .dlen a=>Int.ofNat (Ad (a.den s).toNat)
theorem uB (b:Bool):(r9 b != 0)=b:=by cases b<;>rfl
def uC {β:Sort _} (n:Nat) (k:Nat→β):β:=match n with|0=>k 0|m+1=>k (Nat.succ m)
theorem uk {β:Sort _} (n:Nat) (k:Nat→β):uC n k=k n:=by cases n<;>rfl
def Ed {β:Sort _} (n:Int) (k:Int→β):β:=match n with | .ofNat m=>uC m fun m=>k (.ofNat m) | .negSucc m=>uC m fun m=>k (.negSucc m)
theorem Ee {β:Sort _} (n:Int) (k:Int→β):Ed n k=k n:=by cases n<;>simp[Ed,uk]
def BL {α:Type} {β:Sort _} : List α→(List α→β)→β
 | [],k=>k []
 | a::l,k=>BL l fun l'=>k (a::l')
theorem Ef {α:Type} {β:Sort _} : ∀ (l:List α) (k:List α→β),BL l k=k l
 | [],k=>rfl
 | a::l,k=>by rw[BL,Ef l]
def uD {β:Sort _} (x:X) (k:X→β):β:=match x with
 | .lit n=>k (.lit n)
 | .var a b=>k (.var a b)
 | .bin o q a b=>k (.bin o q a b)
 | .conv q a=>k (.conv q a)
 | .com q a=>k (.com q a)
 | .not a=>k (.not a)
 | .and a b=>k (.and a b)
 | .beq a b=>k (.beq a b)
 | .min a b=>k (.min a b)
 | .max a b=>k (.max a b)
 | .ite c a b=>k (.ite c a b)
 | .dlen a=>k (.dlen a)
theorem acS {β:Sort _} (x:X) (k:X→β):uD x k=k x:=by cases x<;>rfl
def xK:IntKind→Nat
 | .i8 | .u8=>256
 | .i16 | .u16=>65536
 | .i32 | .u32=>4294967296
 | .i64 | .u64=>18446744073709551616
def BM:IntKind→Nat
 | .i8 | .u8=>128
 | .i16 | .u16=>32768
 | .i32 | .u32=>2147483648
 | .i64 | .u64=>9223372036854775808
theorem O1 (k:IntKind):(xK k:Int)=2^k.bits:=by cases k<;>decide
theorem acT (k:IntKind):xK k=2^k.bits:=by cases k<;>decide
theorem acU (k:IntKind):(BM k:Int)=2^(k.bits-1):=by cases k<;>decide
theorem Uu (k:IntKind):0<xK k:=by cases k<;>decide
def uh (k:IntKind) (n:Int):Nat:=match n with
 | .ofNat m=>m%xK k
 | .negSucc m=>xK k-1-m%xK k
theorem O3 (k:IntKind) (n:Int):(uh k n:Int)=n%2^k.bits:=by
 rw[← O1]
 have:=Uu k
 cases n with
 | ofNat m=>simp[uh]
 | negSucc m =>
  have h:=Nat.mod_lt m this
  simp only[uh]
  rw[Int.negSucc_emod _ (by omega)]
  have h2:((m:Int)%(xK k:Int))=((m%xK k:Nat):Int):=by simp
  omega
theorem CZ (k:IntKind) (n:Int):(BitVec.ofInt k.bits n).toNat=uh k n:=by
 rw[BitVec.toNat_ofInt]
 have:=O3 k n
 have h2:((2^k.bits:Nat):Int)=2^k.bits:=by simp
 rw[h2,← this];simp
def Uv (k:IntKind) (r:Nat):Int:=match k.signed with
 | true=>match Nat.ble (BM k) r with|true=>Int.subNatNat r (xK k)|false=>.ofNat r
 | false=>.ofNat r
def uN (k:IntKind) (n:Int):Int:=Uv k (uh k n)
theorem uo (k:IntKind) (n:Int):uN k n=k.wrap n:=by
 unfold uN Uv IntKind.wrap
 have h:=O3 k n
 rw[← O1,← acU] at *
 rw[← h]
 cases hs:k.signed with
 | false=>simp
 | true =>
  simp only[Bool.true_and]
  cases hb:Nat.ble (BM k) (uh k n) with
  | true =>
   have:BM k≤uh k n:=Nat.le_of_ble_eq_true hb
   rw[if_pos (by simp;omega),Int.subNatNat_eq_coe]
  | false =>
   have:¬ BM k≤uh k n:=fun e=>by rw[Nat.ble_eq_true_of_le e] at hb;cases hb
   rw[if_neg (by simp;omega)];rfl
def Gg (n:Nat) (k:IntKind):Nat:=match Nat.ble n k.bits with|true=>n|false=>k.bits
theorem O4 (n:Nat) (k:IntKind):Gg n k=min n k.bits:=by
 unfold Gg
 cases h:Nat.ble n k.bits with
 | true=>have:=Nat.le_of_ble_eq_true h;simp;omega
 | false =>
  have:¬ n≤k.bits:=fun e=>by rw[Nat.ble_eq_true_of_le e] at h;cases h
  simp;omega
def uE:Int→Int→Bool
 | .ofNat m,.ofNat n=>Nat.beq m n
 | .negSucc m,.negSucc n=>Nat.beq m n
 | _,_=>false
def wz:Int→Int→Bool
 | .ofNat m,.ofNat n=>Nat.blt m n
 | .negSucc m,.negSucc n=>Nat.blt n m
 | .negSucc _,.ofNat _=>true
 | .ofNat _,.negSucc _=>false
theorem Eg (a b:Int):uE a b=(a==b):=by
 cases a with
 | ofNat m=>cases b with
  | ofNat n =>
   simp only[uE]
   rw[Bool.eq_iff_iff,Nat.beq_eq,beq_iff_eq]
   exact⟨fun h=>by rw[h],fun h=>Int.ofNat.inj h⟩
  | negSucc n=>simp only[uE];rw[eq_comm,beq_eq_false_iff_ne];intro h;cases h
 | negSucc m=>cases b with
  | ofNat n=>simp only[uE];rw[eq_comm,beq_eq_false_iff_ne];intro h;cases h
  | negSucc n =>
   simp only[uE]
   rw[Bool.eq_iff_iff,Nat.beq_eq,beq_iff_eq]
   omega
theorem yR (a b:Int):wz a b=decide (a<b):=by
 cases a<;>cases b<;>simp only[wz]<;>rw[Bool.eq_iff_iff]<;>simp[Nat.blt_eq]<;>omega
def zI (b:Bool):Bool:=match b with|true=>false|false=>true
theorem yS (b:Bool):zI b = !b:=by cases b<;>rfl
def fold (op:BinOp) (k:IntKind) (a b:Int):Int:=match op with
 | .shl=>match a,b with
  | .ofNat m,.ofNat n=>uN k (.ofNat (Nat.shiftLeft m (Gg n k)))
  | a,b=>rQ .shl k a b
 | .shr=>match a,b with
  | .ofNat m,.ofNat n=>.ofNat (Nat.shiftRight m (Gg n k))
  | a,b=>rQ .shr k a b
 | .add=>uN k (Int.add a b)
 | .sub=>uN k (Int.sub a b)
 | .mul=>uN k (Int.mul a b)
 | .quo=>uN k (Int.tdiv a b)
 | .rem=>Int.tmod a b
 | .and=>uN k (.ofNat (Nat.land (uh k a) (uh k b)))
 | .or=>uN k (.ofNat (Nat.lor (uh k a) (uh k b)))
 | .xor=>uN k (.ofNat (Nat.xor (uh k a) (uh k b)))
 | .andNot=>uN k (.ofNat (Nat.land (uh k a) (xK k-1-uh k b)))
 | .eql=>r9 (uE a b)
 | .neq=>r9 (zI (uE a b))
 | .lss=>r9 (wz a b)
 | .leq=>r9 (zI (wz b a))
 | .gtr=>r9 (wz b a)
 | .geq=>r9 (zI (wz a b))
theorem Eh (op:BinOp) (k:IntKind) (a b:Int):fold op k a b=rQ op k a b:=by
 cases op
 case shl =>
  simp only[fold]
  split
  ·rename_i m n
   rw[uo,O4]
   show k.wrap (Int.ofNat (m <<< _))=k.wrap (Int.ofNat m*2^min n k.bits)
   rw[Nat.shiftLeft_eq];congr 1
  ·rfl
 case shr =>
  simp only[fold]
  split
  ·rename_i m n
   rw[O4]
   show Int.ofNat (m >>> _)=(Int.ofNat m).fdiv (2^min n k.bits)
   rw[Nat.shiftRight_eq_div_pow,Int.fdiv_eq_ediv_of_nonneg _ (Int.pow_nonneg (by decide))];simp
  ·rfl
 case add=>exact uo _ _
 case sub=>exact uo _ _
 case mul=>exact uo _ _
 case quo=>exact uo _ _
 case rem=>rfl
 case and=>simp only[fold,rQ,zn];rw[uo,BitVec.toNat_and,CZ,CZ];rfl
 case or=>simp only[fold,rQ,zn];rw[uo,BitVec.toNat_or,CZ,CZ];rfl
 case xor=>simp only[fold,rQ,zn];rw[uo,BitVec.toNat_xor,CZ,CZ];rfl
 case andNot=>simp only[fold,rQ,zn];rw[uo,BitVec.toNat_and,BitVec.toNat_not,CZ,CZ,← acT];rfl
 case eql=>simp only[fold,rQ,Eg]
 case neq=>simp only[fold,rQ,Eg,yS,bne]
 case lss=>simp only[fold,rQ,yR]
 case leq=>simp only[fold,rQ,yR,yS];congr 1;rw[Bool.eq_iff_iff];simp
 case gtr=>simp only[fold,rQ,yR,gt_iff_lt]
 case geq=>simp only[fold,rQ,yR,yS];congr 1;rw[Bool.eq_iff_iff];simp
def O5:IntKind→IntKind→Bool
 | .u8,.u8=>true | .u8,.u16=>true | .u8,.u32=>true | .u8,.u64=>true | .u8,.i16=>true | .u8,.i32=>true | .u8,.i64=>true
 | .u16,.u16=>true | .u16,.u32=>true | .u16,.u64=>true | .u16,.i32=>true | .u16,.i64=>true
 | .u32,.u32=>true | .u32,.u64=>true | .u32,.i64=>true
 | .u64,.u64=>true
 | .i8,.i8=>true | .i8,.i16=>true | .i8,.i32=>true | .i8,.i64=>true
 | .i16,.i16=>true | .i16,.i32=>true | .i16,.i64=>true
 | .i32,.i32=>true | .i32,.i64=>true
 | .i64,.i64=>true
 | _,_=>false
theorem Uw {a b:IntKind} (h:O5 a b=true) (n:Int):b.wrap (a.wrap n)=a.wrap n:=by
 unfold IntKind.wrap IntKind.bits IntKind.signed
 cases a<;>cases b<;>first|(cases h;done)|(simp<;>(try split)<;>(try split)<;>omega)
def uz (op:BinOp) (k:IntKind) (a b:X):X:=match a,b with
 | .lit x,.lit y=>Ed (fold op k x y) .lit
 | a,b=>.bin op k a b
theorem C8 (s:rD) (op:BinOp) (k:IntKind) (a b:X):(uz op k a b).den s=rQ op k (a.den s) (b.den s):=by
 unfold uz;split
 ·rw[Ee,X.den,Eh];rfl
 ·rfl
def O6 (k:IntKind) (a:X):X:=match a with
 | .lit x=>Ed (uN k x) .lit
 | .var (.int k') i=>match O5 k' k with|true=>.var (.int k') i|false=>.conv k (.var (.int k') i)
 | a=>.conv k a
theorem acV (s:rD) (k:IntKind) (a:X):(O6 k a).den s=k.wrap (a.den s):=by
 unfold O6;split
 ·rw[Ee,X.den,uo];rfl
 ·split
  ·rename_i h;exact(Uw h _).symm
  ·rfl
 ·rfl
def LZ (k:IntKind) (a:X):X:=match a with
 | .lit x=>Ed (fold .xor k (match k.signed with|true => -1|false=>.ofNat (xK k-1)) x) .lit
 | a=>.com k a
theorem Ux (s:rD) (k:IntKind) (a:X):(LZ k a).den s=JJ k (a.den s):=by
 unfold LZ;split
 ·rw[Ee,X.den,Eh]
  unfold JJ rQ IntKind.max
  cases hs:k.signed with
  | true=>simp[X.den]
  | false =>
   simp only[Bool.false_eq_true,if_false,X.den]
   have h1:=O1 k
   have h2:=Uu k
   congr 1
   rw[← h1];simp;omega
 ·rfl
def sO (n:Int):Bool:=match n with | .ofNat 0=>false|_=>true
theorem uO (n:Int):sO n=(n != 0):=by
 unfold sO;split
 ·rfl
 ·rename_i h;rw[eq_comm,bne_iff_ne];intro e;exact h (by rw[e];rfl)
def mkNot (a:X):X:=match a with
 | .lit x=>.lit (r9 (zI (sO x)))
 | a=>.not a
theorem O7 (s:rD) (a:X):(mkNot a).den s=r9 (!(a.den s != 0)):=by
 unfold mkNot;split
 ·rw[X.den,yS,uO];rfl
 ·rfl
def mkAnd (a b:X):X:=match a with
 | .lit x=>match sO x with
  | true=>match b with
   | .lit y=>.lit (r9 (sO y))
   | b=>.and a b
  | false=>.lit 0
 | a=>.and a b
theorem acW (s:rD) (a b:X):(mkAnd a b).den s=r9 (a.den s != 0&&b.den s != 0):=by
 unfold mkAnd;split
 ·rename_i x
  split
  ·rename_i hx
   rw[uO] at hx
   split
   ·rw[X.den,X.den,X.den,hx,uO];rfl
   ·rfl
  ·rename_i hx
   rw[uO] at hx
   simp only[X.den]
   rw[hx];rfl
 ·rfl
def L6 (a b:X):X:=match a,b with
 | .lit x,.lit y=>.lit (r9 (match sO x with|true=>sO y|false=>zI (sO y)))
 | a,b=>.beq a b
theorem Uy (s:rD) (a b:X):(L6 a b).den s=r9 ((a.den s != 0)==(b.den s != 0)):=by
 unfold L6;split
 ·rename_i x y
  simp only[X.den,uO,yS]
  cases hx:(x != 0)<;>cases hy:(y != 0)<;>rfl
 ·rfl
def O8 (a b:X):X:=match a,b with
 | .lit x,.lit y=>match wz y x with|true=>.lit y|false=>.lit x
 | a,b=>.min a b
theorem acX (s:rD) (a b:X):(O8 a b).den s=if b.den s<a.den s then b.den s else a.den s:=by
 unfold O8;split
 ·rename_i x y
  show _=if y<x then y else x
  rw[yR]
  by_cases h:y<x
  ·rw[if_pos h,decide_eq_true h];rfl
  ·rw[if_neg h,decide_eq_false h];rfl
 ·rfl
def L8 (a b:X):X:=match a,b with
 | .lit x,.lit y=>match wz x y with|true=>.lit y|false=>.lit x
 | a,b=>.max a b
theorem Uz (s:rD) (a b:X):(L8 a b).den s=if b.den s>a.den s then b.den s else a.den s:=by
 unfold L8;split
 ·rename_i x y
  show _=if x<y then y else x
  rw[yR]
  by_cases h:x<y
  ·rw[if_pos h,decide_eq_true h];rfl
  ·rw[if_neg h,decide_eq_false h];rfl
 ·rfl
def Ei (c a b:X):X:=match c with
 | .lit n=>match sO n with|true=>a|false=>b
 | c=>match a,b with
  | .lit x,.lit y=>match uE x y with|true=>.lit x|false=>.ite c (.lit x) (.lit y)
  | a,b=>.ite c a b
theorem JK (s:rD) (c a b:X):(Ei c a b).den s=if c.den s=0 then b.den s else a.den s:=by
 unfold Ei;split
 ·rename_i n
  show _=if n=0 then b.den s else a.den s
  split
  ·rename_i h;rw[uO,bne_iff_ne] at h;rw[if_neg h]
  ·rename_i h;rw[uO,bne_eq_false_iff_eq] at h;rw[if_pos h]
 ·split
  ·rename_i x y
   split
   ·rename_i h
    rw[Eg,beq_iff_eq] at h;subst h
    show x=if _ then x else x
    split<;>rfl
   ·rfl
  ·rfl
def O9 (k:IntKind) (n:Int):Bool:=uE (uN k n) n
def vM:IntKind→IntKind→Bool
 | .i8,.i8=>true | .i16,.i16=>true | .i32,.i32=>true | .i64,.i64=>true
 | .u8,.u8=>true | .u16,.u16=>true | .u32,.u32=>true | .u64,.u64=>true
 | _,_=>false
theorem xz {a b:IntKind} (h:vM a b=true):a=b:=by cases a<;>cases b<;>first|rfl|cases h
def X.inK (k:IntKind):X→Bool
 | .lit n=>O9 k n
 | .var (.int k') _=>O5 k' k
 | .var .bit _=>vM k .u64
 | .bin op k' a b=>match op with
  | .add | .sub | .mul | .quo | .shl | .and | .or | .xor | .andNot=>vM k k'
  | .shr=>X.inK k a
  | .rem=>X.inK k a
  | _=>false
 | .conv k' _=>vM k k'
 | .com k' _=>vM k k'
 | .min a b=>match X.inK k a with|true=>X.inK k b|false=>false
 | .max a b=>match X.inK k a with|true=>X.inK k b|false=>false
 | .ite _ a b=>match X.inK k a with|true=>X.inK k b|false=>false
 | _=>false
theorem wrap_wrap (k:IntKind) (n:Int):k.wrap (k.wrap n)=k.wrap n:=by
 unfold IntKind.wrap IntKind.bits IntKind.signed
 cases k<;>simp<;>(try split)<;>(try split)<;>omega
theorem acY (k:IntKind) (n:Int) (m:Nat) (h:k.wrap n=n):k.wrap (n.fdiv (2^m))=n.fdiv (2^m):=by
 rw[Int.fdiv_eq_ediv_of_nonneg _ (Int.pow_nonneg (by decide))]
 have hp:(0:Int)<2^m:=Int.pow_pos (by decide)
 generalize (2:Int)^m=p at hp
 have h1:0≤n→0≤n/p∧n/p≤n:=fun hn=>⟨Int.ediv_nonneg hn (by omega),Int.ediv_le_self _ hn⟩
 have h2:n<0→n≤n/p∧n/p<0:=fun hn=>⟨by
  have h3:=Int.mul_ediv_add_emod n p
  have h4:=Int.emod_nonneg n (show p≠0 by omega)
  have h5:=Int.emod_lt_of_pos n hp
  have:n/p<0:=Int.ediv_neg_of_neg_of_pos hn hp
  have:p*(n/p)≤1*(n/p):=Int.mul_le_mul_of_nonpos_right (by omega) (by omega)
  apply Int.le_of_lt_add_one
  have h6:n<p*(n/p)+p:=by omega
  have h7:p*(n/p)+p≤(n/p)+1:=by
   have:p*(n/p+1)≤1*(n/p+1):=Int.mul_le_mul_of_nonpos_right (by omega) (by omega)
   rw[Int.mul_add,Int.mul_one] at this;omega
  omega,Int.ediv_neg_of_neg_of_pos hn hp⟩
 unfold IntKind.wrap IntKind.bits IntKind.signed at *
 cases k<;>simp at h ⊢ <;> (rcases Int.lt_or_le n 0 with hn|hn)<;>first
  | (have:=h2 hn;split at h<;>(try split)<;>omega)
  | (have:=h1 hn;split at h<;>(try split)<;>omega)
  | (have:=h2 hn;omega)
  | (have:=h1 hn;omega)
theorem acZ (k:IntKind) (n m:Int) (h:k.wrap n=n):k.wrap (n.tmod m)=n.tmod m:=by
 have h1:0≤n→0≤n.tmod m∧n.tmod m≤n:=fun hn=>by
  obtain⟨a,rfl⟩:=Int.eq_ofNat_of_zero_le hn
  have:(a:Int).tmod m=((a%m.natAbs:Nat):Int):=by
   rcases Int.natAbs_eq m with e|e
   ·rw[e];simp only[Int.natAbs_natCast];rfl
   ·rw[e];simp only[Int.natAbs_neg,Int.natAbs_natCast,Int.tmod_neg];rfl
  rw[this]
  have:=Nat.mod_le a m.natAbs
  omega
 have h2:n<0→n≤n.tmod m∧n.tmod m≤0:=fun hn=>by
  obtain⟨a,ha⟩:=Int.eq_ofNat_of_zero_le (show 0 ≤ -n by omega)
  have hn2:n = -(a:Int):=by omega
  rw[hn2,Int.neg_tmod]
  have:(a:Int).tmod m=((a%m.natAbs:Nat):Int):=by
   rcases Int.natAbs_eq m with e|e
   ·rw[e];simp only[Int.natAbs_natCast];rfl
   ·rw[e];simp only[Int.natAbs_neg,Int.natAbs_natCast,Int.tmod_neg];rfl
  rw[this]
  have:=Nat.mod_le a m.natAbs
  omega
 generalize n.tmod m=r at *
 unfold IntKind.wrap IntKind.bits IntKind.signed at *
 cases k<;>simp at h ⊢ <;> (rcases Int.lt_or_le n 0 with hn|hn)<;>first
  | (have:=h2 hn;split at h<;>(try split)<;>omega)
  | (have:=h1 hn;split at h<;>(try split)<;>omega)
  | (have:=h2 hn;omega)
  | (have:=h1 hn;omega)
theorem X.inK_ok {k:IntKind} (s:rD):∀ {x:X},x.inK k=true→k.wrap (x.den s)=x.den s
 | .lit n,h=>by
  have h':O9 k n=true:=h
  unfold O9 at h'
  rw[Eg,uo,beq_iff_eq] at h';exact h'
 | .var (.int k') i,h=>Uw h _
 | .var .bool i,h=>by cases h
 | .var .nat i,h=>by cases h
 | .dlen a,h=>by cases h
 | .var .bit i,h=>by
  have:=xz (show vM k .u64=true from h);subst this
  simp only[X.den,VK.norm];cases (s i != 0)<;>rfl
 | .bin op k' a b,h=>by
  cases op<;>simp only[X.inK] at h<;>first
   | cases h
   | (have:=xz h;subst this;simp only[X.den,rQ,zn];exact wrap_wrap _ _)
   | (simp only[X.den,rQ];exact acY _ _ _ (X.inK_ok s h))
   | (simp only[X.den,rQ];exact acZ _ _ _ (X.inK_ok s h))
 | .conv k' a,h=>by have:=xz h;subst this;exact wrap_wrap _ _
 | .com k' a,h=>by have:=xz h;subst this;exact wrap_wrap _ _
 | .not a,h=>by cases h
 | .and a b,h=>by cases h
 | .beq a b,h=>by cases h
 | .min a b,h=>by
  simp only[X.inK] at h
  split at h
  ·rename_i h1
   simp only[X.den];split
   ·exact X.inK_ok s h
   ·exact X.inK_ok s h1
  ·cases h
 | .max a b,h=>by
  simp only[X.inK] at h
  split at h
  ·rename_i h1
   simp only[X.den];split
   ·exact X.inK_ok s h
   ·exact X.inK_ok s h1
  ·cases h
 | .ite c a b,h=>by
  simp only[X.inK] at h
  split at h
  ·rename_i h1
   simp only[X.den];split
   ·exact X.inK_ok s h
   ·exact X.inK_ok s h1
  ·cases h
def X.isBit:X→Bool
 | .lit n=>match uE n (.ofNat 0) with|true=>true|false=>uE n (.ofNat 1)
 | .var .bit _=>true
 | .ite _ a b=>match X.isBit a with|true=>X.isBit b|false=>false
 | _=>false
theorem X.isBit_ok (s:rD):∀ {x:X},x.isBit=true→x.den s=r9 (x.den s != 0)
 | .lit n,h=>by
  simp only[X.isBit,Eg] at h
  split at h
  ·rename_i h1;rw[beq_iff_eq] at h1;subst h1;rfl
  ·rw[beq_iff_eq] at h;subst h;rfl
 | .var .bit i,_=>by simp only[X.den,VK.norm];cases (s i != 0)<;>rfl
 | .var (.int _) i,h=>by simp[X.isBit] at h
 | .var .bool i,h=>by simp[X.isBit] at h
 | .var .nat i,h=>by simp[X.isBit] at h
 | .dlen a,h=>by simp[X.isBit] at h
 | .ite c a b,h=>by
  simp only[X.isBit] at h
  split at h
  ·rename_i h1
   simp only[X.den];split
   ·exact X.isBit_ok s h
   ·exact X.isBit_ok s h1
  ·cases h
 | .bin _ _ _ _,h=>by simp[X.isBit] at h
 | .conv _ _,h=>by simp[X.isBit] at h
 | .com _ _,h=>by simp[X.isBit] at h
 | .not _,h=>by simp[X.isBit] at h
 | .and _ _,h=>by simp[X.isBit] at h
 | .beq _ _,h=>by simp[X.isBit] at h
 | .min _ _,h=>by simp[X.isBit] at h
 | .max _ _,h=>by simp[X.isBit] at h
inductive rf (α:Type) where
 | leaf (a:α)
 | ite (c:X) (a b:rf α)
 | call (f:Nat) (args:List X) (base n:Nat) (t:rf α)
 | stuck (why:String)
abbrev uI:=Nat→List Int→List Int
def vN (s:rD) (base:Nat):Nat→List Int
 | 0=>[]
 | n+1=>s base::vN s (base+1) n
theorem BN (s:rD):∀ (n b:Nat),(vN s b n).length=n
 | 0,_=>rfl
 | n+1,b=>by rw[vN,List.length_cons,BN s n]
def Ej (Φ:uI) (s:rD) (f:Nat) (args:List X) (base n:Nat):Prop:=vN s base n=Φ f (args.map (X.den s))
instance (Φ:uI) (s:rD) (f:Nat) (args:List X) (base n:Nat):Decidable (Ej Φ s f args base n):=inferInstanceAs (Decidable (_=_))
def rf.path {α:Type} (Φ:uI) (s:rD):rf α→Option α
 | .leaf a=>some a
 | .ite c a b=>if c.den s=0 then b.path Φ s else a.path Φ s
 | .call f args base n t=>if Ej Φ s f args base n then t.path Φ s else none
 | .stuck _=>none
def rf.bind {α β:Type} : rf α→(α→rf β)→rf β
 | .leaf a,f=>f a
 | .ite c a b,f=>.ite c (a.bind f) (b.bind f)
 | .call g args base n t,f=>.call g args base n (t.bind f)
 | .stuck w,_=>.stuck w
theorem rf.path_bind {α β:Type} (Φ:uI) (s:rD) (f:α→rf β):∀ t:rf α,(t.bind f).path Φ s=(t.path Φ s).bind fun a=>(f a).path Φ s
 | .leaf a=>rfl
 | .ite c a b=>by
  simp only[rf.bind,rf.path]
  split
  ·exact rf.path_bind Φ s f b
  ·exact rf.path_bind Φ s f a
 | .call g args base n t=>by
  simp only[rf.bind,rf.path]
  split
  ·exact rf.path_bind Φ s f t
  ·rfl
 | .stuck w=>rfl
theorem rf.path_bind_some {α β:Type} {Φ:uI} {s:rD} {f:α→rf β} {t:rf α} {b:β} (h:(t.bind f).path Φ s=some b):∃ a,t.path Φ s=some a∧(f a).path Φ s=some b:=by
 rw[rf.path_bind] at h
 cases ht:t.path Φ s with
 | none=>rw[ht] at h;cases h
 | some a=>rw[ht] at h;exact⟨a,rfl,h⟩
def Gh {α:Type} (c:X) (a b:rf α):rf α:=match c with
 | .lit n=>match sO n with|true=>a|false=>b
 | c=>.ite c a b
theorem Pb {α:Type} (Φ:uI) (s:rD) (c:X) (a b:rf α):(Gh c a b).path Φ s=if c.den s=0 then b.path Φ s else a.path Φ s:=by
 unfold Gh;split
 ·rename_i n
  show _=if n=0 then b.path Φ s else a.path Φ s
  split
  ·rename_i h;rw[uO,bne_iff_ne] at h;rw[if_neg h]
  ·rename_i h;rw[uO,bne_eq_false_iff_eq] at h;rw[if_pos h]
 ·rfl
open Go.RowKit
theorem sU {a b:Nat} : Nat.beq a b=true↔a=b:=by rw[Nat.beq_eq]
def Pf:VK→VK→Bool
 | .int k,.int k'=>vM k k'
 | .bool,.bool=>true
 | .bit,.bit=>true
 | .nat,.nat=>true
 | _,_=>false
def JL:BinOp→Nat
 | .add=>0 | .sub=>1 | .mul=>2 | .quo=>3 | .rem=>4 | .and=>5 | .or=>6 | .xor=>7 | .shl=>8 | .shr=>9 | .andNot=>10
 | .eql=>11 | .neq=>12 | .lss=>13 | .leq=>14 | .gtr=>15 | .geq=>16
def sV (a:Bool) (b:Bool):Bool:=match a with|true=>b|false=>false
def vJ:X→X→Bool
 | .lit m,.lit n=>uE m n
 | .var k i,.var k' j=>sV (Nat.beq i j) (Pf k k')
 | .bin o k a b,.bin o' k' a' b'=>sV (Nat.beq (JL o) (JL o')) (sV (vM k k') (sV (vJ a a') (vJ b b')))
 | .conv k a,.conv k' a'=>sV (vM k k') (vJ a a')
 | .com k a,.com k' a'=>sV (vM k k') (vJ a a')
 | .not a,.not a'=>vJ a a'
 | .and a b,.and a' b'=>sV (vJ a a') (vJ b b')
 | .beq a b,.beq a' b'=>sV (vJ a a') (vJ b b')
 | .min a b,.min a' b'=>sV (vJ a a') (vJ b b')
 | .max a b,.max a' b'=>sV (vJ a a') (vJ b b')
 | .ite c a b,.ite c' a' b'=>sV (vJ c c') (sV (vJ a a') (vJ b b'))
 | .dlen a,.dlen a'=>vJ a a'
 | _,_=>false
abbrev Facts:=List (X×Bool)
def C9:Facts→X→Option Bool
 | [],_=>none
 | x::l,c=>match vJ x.1 c with|true=>some x.2|false=>C9 l c
def Gi (fc:Facts) (c:X) (b:Bool):Facts:=match c with
 | .not a=>(a,zI b)::fc
 | c=>(c,b)::fc
def sZ (s:rD) (fc:Facts):Prop:=∀ x∈fc,(x.1.den s != 0)=x.2
theorem ac0 {a b:VK} (h:Pf a b=true):a=b:=by
 cases a<;>cases b<;>first|rfl|(simp only[Pf] at h;rw[xz h])|cases h
theorem ac1 {a b:BinOp} (h:JL a=JL b):a=b:=by cases a<;>cases b<;>first|rfl|(simp[JL] at h)
theorem sF {a b:Bool} (h:sV a b=true):a=true∧b=true:=by
 cases a with
 | true=>exact⟨rfl,h⟩
 | false=>cases h
theorem wB:∀ {a b:X},vJ a b=true→a=b
 | .lit m,.lit n,h=>by simp only[vJ,Eg,beq_iff_eq] at h;rw[h]
 | .var k i,.var k' j,h=>by have h:=sF h;rw[sU.1 h.1,ac0 h.2]
 | .bin o k a b,.bin o' k' a' b',h=>by
  have h:=sF h;have h2:=sF h.2;have h3:=sF h2.2
  rw[ac1 (sU.1 h.1),xz h2.1,wB h3.1,wB h3.2]
 | .conv k a,.conv k' a',h=>by have h:=sF h;rw[xz h.1,wB h.2]
 | .com k a,.com k' a',h=>by have h:=sF h;rw[xz h.1,wB h.2]
 | .not a,.not a',h=>by rw[wB (a:=a) (b:=a') h]
 | .and a b,.and a' b',h=>by have h:=sF h;rw[wB h.1,wB h.2]
 | .beq a b,.beq a' b',h=>by have h:=sF h;rw[wB h.1,wB h.2]
 | .min a b,.min a' b',h=>by have h:=sF h;rw[wB h.1,wB h.2]
 | .max a b,.max a' b',h=>by have h:=sF h;rw[wB h.1,wB h.2]
 | .ite c a b,.ite c' a' b',h=>by have h:=sF h;have h2:=sF h.2;rw[wB h.1,wB h2.1,wB h2.2]
 | .dlen a,.dlen a',h=>by rw[wB (a:=a) (b:=a') h]
theorem zJ {s:rD} : ∀ {fc:Facts} {c:X} {b:Bool},sZ s fc→C9 fc c=some b→(c.den s != 0)=b
 | [],c,b,_,h=>by cases h
 | x::l,c,b,hf,h=>by
  simp only[C9] at h
  split at h
  ·rename_i he
   cases h
   rw[← wB he];exact hf x List.mem_cons_self
  ·exact zJ (fun y hy=>hf y (List.mem_cons_of_mem _ hy)) h
theorem Pg {s:rD} {fc:Facts} {c:X} {b:Bool} (hf:sZ s fc) (h:(c.den s != 0)=b):sZ s (Gi fc c b):=by
 unfold Gi
 split
 ·rename_i a
  rw[X.den,uB] at h
  intro x hx
  rcases List.mem_cons.1 hx with rfl|hx
  ·simp only[yS,← h,Bool.not_not]
  ·exact hf x hx
 ·intro x hx
  rcases List.mem_cons.1 hx with rfl|hx
  ·exact h
  ·exact hf x hx
abbrev xL:=Int×Int
def xM:IntKind→Int
 | .i8 => -128 | .i16 => -32768 | .i32 => -2147483648 | .i64 => -9223372036854775808|_=>0
def xN:IntKind→Int
 | .i8=>127 | .i16=>32767 | .i32=>2147483647 | .i64=>9223372036854775807
 | .u8=>255 | .u16=>65535 | .u32=>4294967295 | .u64=>18446744073709551615
theorem Ba (k:IntKind) (n:Int):xM k≤k.wrap n∧k.wrap n≤xN k:=by
 unfold IntKind.wrap IntKind.bits IntKind.signed xM xN
 cases k<;>simp<;>(try split)<;>(constructor<;>omega)
def zK (a b:Int):Bool:=zI (wz b a)
theorem Gj {a b:Int} (h:zK a b=true):a≤b:=by
 unfold zK at h;rw[yS,yR] at h;simpa using h
theorem Ph {a b:Int} (h:wz a b=true):a<b:=by rw[yR] at h;simpa using h
theorem Da {a b:Int} (h:uE a b=true):a=b:=by rw[Eg] at h;simpa using h
def zL (a b:Int):Int:=match zK a b with|true=>a|false=>b
def zM (a b:Int):Int:=match zK a b with|true=>b|false=>a
theorem Pi {a b n:Int} (h1:n≤a) (h2:n≤b):n≤zL a b:=by unfold zL;split<;>assumption
theorem Pj {a b n:Int} (h1:a≤n) (h2:b≤n):zM a b≤n:=by unfold zM;split<;>assumption
theorem UA (a b:Int):zL a b≤a∧zL a b≤b:=by
 unfold zL;split
 ·rename_i h;exact⟨Int.le_refl _,Gj h⟩
 ·rename_i h;unfold zK at h;rw[yS,yR] at h;simp at h;omega
theorem UB (a b:Int):a≤zM a b∧b≤zM a b:=by
 unfold zM;split
 ·rename_i h;exact⟨Gj h,Int.le_refl _⟩
 ·rename_i h;unfold zK at h;rw[yS,yR] at h;simp at h;omega
def wV (r:xL) (n:Int):Prop:=r.1≤n∧n≤r.2
def JM (k:IntKind) (lo hi:Int):xL:=match sV (zK (xM k) lo) (zK hi (xN k)) with|true=>(lo,hi)|false=>(xM k,xN k)
theorem L9 {k:IntKind} {n:Int} (h1:xM k≤n) (h2:n≤xN k):k.wrap n=n:=by
 unfold IntKind.wrap IntKind.bits IntKind.signed xM xN at *
 cases k<;>simp at h1 h2 ⊢ <;> (try split)<;>omega
theorem Pk {k:IntKind} {lo hi n:Int} (h:wV (lo,hi) n):wV (JM k lo hi) (k.wrap n):=by
 unfold JM
 split
 ·rename_i he
  have he:=sF he
  have h1:=Gj he.1;have h2:=Gj he.2
  rw[L9 (Int.le_trans h1 h.1) (Int.le_trans h.2 h2)];exact h
 ·exact Ba k n
def Pm (op:BinOp) (c:Int) (b:Bool) (r:xL):xL:=match op,b with
 | .lss,true=>(r.1,zL r.2 (c-1))
 | .lss,false=>(zM r.1 c,r.2)
 | .leq,true=>(r.1,zL r.2 c)
 | .leq,false=>(zM r.1 (c+1),r.2)
 | .gtr,true=>(zM r.1 (c+1),r.2)
 | .gtr,false=>(r.1,zL r.2 c)
 | .geq,true=>(zM r.1 c,r.2)
 | .geq,false=>(r.1,zL r.2 (c-1))
 | .eql,true=>(c,c)
 | .neq,false=>(c,c)
 | .eql,false=>(match uE r.1 c with|true=>c+1|false=>r.1,match uE r.2 c with|true=>c-1|false=>r.2)
 | .neq,true=>(match uE r.1 c with|true=>c+1|false=>r.1,match uE r.2 c with|true=>c-1|false=>r.2)
 | _,_=>r
theorem ac2 {op:BinOp} {k:IntKind} {c n:Int} {b:Bool} {r:xL} (h:wV r n) (hf:(rQ op k n c != 0)=b):wV (Pm op c b r) n:=by
 have ne:n≠c→wV (match uE r.1 c with|true=>c+1|false=>r.1,match uE r.2 c with|true=>c-1|false=>r.2) n:=fun hn=>by
  obtain⟨h1,h2⟩:=h
  constructor
  ·simp only;split
   ·rename_i he;have:=Da he;omega
   ·exact h1
  ·simp only;split
   ·rename_i he;have:=Da he;omega
   ·exact h2
 cases op<;>simp only[rQ,uB] at hf<;>cases b<;>simp only[Pm]<;>first
  | exact h
  | (simp at hf;exact ne hf)
  | (simp at hf;subst hf;exact⟨Int.le_refl _,Int.le_refl _⟩)
  | (simp at hf;exact⟨h.1,Pi h.2 (by omega)⟩)
  | (simp at hf;exact⟨Pj h.1 (by omega),h.2⟩)
def Pn (x:X) (f:X×Bool) (r:xL):xL:=match f.1 with
 | .bin op _ a (.lit c)=>match vJ a x with|true=>Pm op c f.2 r|false=>r
 | _=>r
def Gm (x:X):Facts→xL→xL
 | [],r=>r
 | f::fc,r=>Pn x f (Gm x fc r)
theorem Po {s:rD} {x:X} : ∀ {fc:Facts} {r:xL},sZ s fc→wV r (x.den s)→wV (Gm x fc r) (x.den s)
 | [],r,_,h=>h
 | f::fc,r,hf,h=>by
  have ih:wV (Gm x fc r) (x.den s):=Po (fun y hy=>hf y (List.mem_cons_of_mem _ hy)) h
  show wV (Pn x f (Gm x fc r)) _
  unfold Pn
  split
  ·rename_i op k a c hc
   split
   ·rename_i he
    have:=wB he;subst this
    have hf0:=hf f List.mem_cons_self
    rw[hc] at hf0
    exact ac2 ih hf0
   ·exact ih
  ·exact ih
def xY (x:X) (fc:Facts) (r:xL):xL:=Gm x fc (Gm x fc r)
theorem yH {s:rD} {x:X} {fc:Facts} {r:xL} (hf:sZ s fc) (h:wV r (x.den s)):wV (xY x fc r) (x.den s):=Po hf (Po hf h)
def wC (fc:Facts):X→Option xL
 | .lit n=>some (n,n)
 | .var k i=>match k with
  | .int k=>some (xY (.var (.int k) i) fc (xM k,xN k))
  | .nat=>none
  | _=>some (xY (.var k i) fc (.ofNat 0,.ofNat 1))
 | .bin op k a b=>match op with
  | .add=>match wC fc a,wC fc b with
   | some x,some y=>some (xY (.bin .add k a b) fc (JM k (x.1+y.1) (x.2+y.2)))
   | _,_=>some (xY (.bin .add k a b) fc (xM k,xN k))
  | .sub=>match wC fc a,wC fc b with
   | some x,some y=>some (xY (.bin .sub k a b) fc (JM k (x.1-y.2) (x.2-y.1)))
   | _,_=>some (xY (.bin .sub k a b) fc (xM k,xN k))
  | .mul | .quo | .shl | .or | .xor | .andNot=>some (xY (.bin op k a b) fc (xM k,xN k))
  | .and=>match b with
   | .lit (.ofNat n)=>match wz (.ofNat n) (.ofNat (BM k)) with
    | true=>some (xY (.bin .and k a (.lit (.ofNat n))) fc (.ofNat 0,.ofNat n))
    | false=>some (xY (.bin .and k a (.lit (.ofNat n))) fc (xM k,xN k))
   | b=>some (xY (.bin .and k a b) fc (xM k,xN k))
  | .shr=>match wC fc a,b with
   | some x,.lit (.ofNat n)=>some (xY (.bin .shr k a (.lit (.ofNat n))) fc (x.1.fdiv (2^Gg n k),x.2.fdiv (2^Gg n k)))
   | _,_=>none
  | .rem=>none
  | _=>some (.ofNat 0,.ofNat 1)
 | .conv k a=>match wC fc a with
  | some x=>some (xY (.conv k a) fc (JM k x.1 x.2))
  | none=>some (xY (.conv k a) fc (xM k,xN k))
 | .com k _=>some (xM k,xN k)
 | .not _=>some (.ofNat 0,.ofNat 1)
 | .and _ _=>some (.ofNat 0,.ofNat 1)
 | .beq _ _=>some (.ofNat 0,.ofNat 1)
 | .min a b=>match wC fc a,wC fc b with
  | some x,some y=>some (xY (.min a b) fc (zL x.1 y.1,zL x.2 y.2))
  | _,_=>none
 | .max a b=>match wC fc a,wC fc b with
  | some x,some y=>some (xY (.max a b) fc (zM x.1 y.1,zM x.2 y.2))
  | _,_=>none
 | .ite _ a b=>match wC fc a,wC fc b with
  | some x,some y=>some (zL x.1 y.1,zM x.2 y.2)
  | _,_=>none
 | .dlen _=>none
theorem Gn (b:Bool):wV (.ofNat 0,.ofNat 1) (r9 b):=by cases b<;>exact⟨by decide,by decide⟩
theorem ac3 {k:IntKind} {a:Int} {n:Nat} (h:n<BM k):wV (.ofNat 0,.ofNat n) (zn .and k a (.ofNat n)):=by
 have h0:fold .and k a (.ofNat n)=zn .and k a (.ofNat n):=Eh .and k a (.ofNat n)
 rw[← h0]
 simp only[fold,uo]
 have hm:Nat.land (uh k a) (uh k (.ofNat n))≤n:=by
  refine Nat.le_trans (Nat.and_le_right (n:=uh k a) (m:=uh k (.ofNat n))) ?_
  exact Nat.mod_le _ _
 have hk:(BM k:Int)≤xN k+1:=by unfold xN BM;cases k<;>decide
 have hl:xM k≤0:=by unfold xM;cases k<;>decide
 rw[L9 (by have:(0:Int)≤Int.ofNat (Nat.land (uh k a) (uh k (.ofNat n))):=Int.natCast_nonneg _;omega) (by
  have:Int.ofNat (Nat.land (uh k a) (uh k (.ofNat n)))≤(n:Int):=Int.ofNat_le.2 hm
  omega)]
 exact⟨Int.natCast_nonneg _,Int.ofNat_le.2 hm⟩
theorem UC {a b:Int} (m:Nat) (h:a≤b):a.fdiv (2^m)≤b.fdiv (2^m):=by
 rw[Int.fdiv_eq_ediv_of_nonneg _ (Int.pow_nonneg (by decide)),Int.fdiv_eq_ediv_of_nonneg _ (Int.pow_nonneg (by decide))]
 exact Int.ediv_le_ediv (Int.pow_pos (by decide)) h
theorem yT {s:rD} {fc:Facts} (hf:sZ s fc):∀ {x:X} {r:xL},wC fc x=some r→wV r (x.den s)
 | .lit n,r,h=>by cases h;exact⟨Int.le_refl _,Int.le_refl _⟩
 | .var k i,r,h=>by
  simp only[wC] at h
  split at h
  ·cases h;exact yH hf (Ba _ _)
  ·cases h
  ·rename_i hk hk2
   cases h
   refine yH hf ?_
   cases k with
   | int k=>exact absurd rfl (hk k)
   | nat=>exact absurd rfl hk2
   | bool=>exact Gn _
   | bit=>exact Gn _
 | .dlen a,r,h=>by cases h
 | .bin op k a b,r,h=>by
  have kr:∀ {op'},op' = .add∨op' = .sub∨op' = .mul∨op' = .quo∨op' = .shl∨op' = .and∨op' = .or∨op' = .xor∨op' = .andNot→wV (xM k,xN k) ((X.bin op' k a b).den s):=by
   rintro op' (rfl|rfl|rfl|rfl|rfl|rfl|rfl|rfl|rfl)<;>exact Ba _ _
  cases op<;>simp only[wC] at h
  case add =>
   split at h
   ·rename_i x y hx hy
    cases h
    have h1:=yT hf hx;have h2:=yT hf hy
    exact yH hf (Pk ⟨Int.add_le_add h1.1 h2.1,Int.add_le_add h1.2 h2.2⟩)
   ·cases h;exact yH hf (kr (by simp))
  case sub =>
   split at h
   ·rename_i x y hx hy
    cases h
    have h1:=yT hf hx;have h2:=yT hf hy
    exact yH hf (Pk ⟨Int.sub_le_sub h1.1 h2.2,Int.sub_le_sub h1.2 h2.1⟩)
   ·cases h;exact yH hf (kr (by simp))
  case and =>
   split at h
   ·rename_i n
    split at h
    ·rename_i hn
     cases h
     exact yH hf (ac3 (by have:=Ph hn;simpa using this))
    ·cases h;exact yH hf (Ba _ _)
   ·cases h;exact yH hf (Ba _ _)
  case shr =>
   split at h
   ·rename_i x n hx
    cases h
    have h1:=yT hf hx
    refine yH hf ?_
    rw[O4]
    exact⟨UC _ h1.1,UC _ h1.2⟩
   ·cases h
  case rem=>cases h
  all_goals first
   | (cases h;exact yH hf (Ba _ _))
   | (cases h;exact Gn _)
 | .conv k a,r,h=>by
  simp only[wC] at h
  split at h
  ·rename_i x hx
   cases h
   exact yH hf (Pk (yT hf hx))
  ·cases h;exact yH hf (Ba _ _)
 | .com k a,r,h=>by cases h;exact Ba _ _
 | .not a,r,h=>by cases h;exact Gn _
 | .and a b,r,h=>by cases h;exact Gn _
 | .beq a b,r,h=>by cases h;exact Gn _
 | .min a b,r,h=>by
  simp only[wC] at h
  split at h
  ·rename_i x y hx hy
   cases h
   have h1:=yT hf hx;have h2:=yT hf hy
   have h3:=UA x.1 y.1
   refine yH hf ?_
   simp only[X.den]
   split
   ·rename_i hlt;exact⟨Int.le_trans h3.2 h2.1,Pi (Int.le_trans (Int.le_of_lt hlt) h1.2) h2.2⟩
   ·rename_i hlt;exact⟨Int.le_trans h3.1 h1.1,Pi h1.2 (Int.le_trans (Int.not_lt.1 hlt) h2.2)⟩
  ·cases h
 | .max a b,r,h=>by
  simp only[wC] at h
  split at h
  ·rename_i x y hx hy
   cases h
   have h1:=yT hf hx;have h2:=yT hf hy
   have h3:=UB x.2 y.2
   refine yH hf ?_
   simp only[X.den]
   split
   ·rename_i hlt;exact⟨Pj (Int.le_trans h1.1 (Int.le_of_lt hlt)) h2.1,Int.le_trans h2.2 h3.2⟩
   ·rename_i hlt;exact⟨Pj h1.1 (Int.le_trans h2.1 (Int.not_lt.1 hlt)),Int.le_trans h1.2 h3.1⟩
  ·cases h
 | .ite c a b,r,h=>by
  simp only[wC] at h
  split at h
  ·rename_i x y hx hy
   cases h
   have h1:=yT hf hx;have h2:=yT hf hy
   have h3:=UA x.1 y.1;have h4:=UB x.2 y.2
   simp only[X.den]
   split
   ·exact⟨Int.le_trans h3.2 h2.1,Int.le_trans h2.2 h4.2⟩
   ·exact⟨Int.le_trans h3.1 h1.1,Int.le_trans h1.2 h4.1⟩
  ·cases h
def Pp (op:BinOp) (x y:xL):Option Bool:=match op with
 | .lss=>match wz x.2 y.1 with|true=>some true|false=>match zK y.2 x.1 with|true=>some false|false=>none
 | .leq=>match zK x.2 y.1 with|true=>some true|false=>match wz y.2 x.1 with|true=>some false|false=>none
 | .gtr=>match wz y.2 x.1 with|true=>some true|false=>match zK x.2 y.1 with|true=>some false|false=>none
 | .geq=>match zK y.2 x.1 with|true=>some true|false=>match wz x.2 y.1 with|true=>some false|false=>none
 | .eql=>match wz x.2 y.1 with
  | true=>some false
  | false=>match wz y.2 x.1 with
   | true=>some false
   | false=>match sV (uE x.1 x.2) (sV (uE y.1 y.2) (uE x.1 y.1)) with|true=>some true|false=>none
 | .neq=>match wz x.2 y.1 with
  | true=>some true
  | false=>match wz y.2 x.1 with
   | true=>some true
   | false=>match sV (uE x.1 x.2) (sV (uE y.1 y.2) (uE x.1 y.1)) with|true=>some false|false=>none
 | _=>none
theorem ac4 {op : BinOp} {k : IntKind} {x y : xL} {m n : Int} {b : Bool} (hx : wV x m) (hy : wV y n) (h : Pp op x y = some b) : (rQ op k m n != 0) = b := by
  obtain ⟨x1, x2⟩ := hx
  obtain ⟨y1, y2⟩ := hy
  cases op <;> simp only [Pp] at h <;> try cases h
  all_goals
    simp only [rQ, uB]
    split at h
    · rename_i he
      first
        | (have := Ph he; cases h; simp; omega)
        | (have := Gj he; cases h; simp; omega)
    · split at h
      · rename_i he
        first
          | (have := Ph he; cases h; simp; omega)
          | (have := Gj he; cases h; simp; omega)
      · first
          | (cases h; done)
          | (split at h
             · rename_i he
               have he := sF he; have he2 := sF he.2
               have e1 := Da he.1; have e2 := Da he2.1; have e3 := Da he2.2
               cases h; simp; omega
             · cases h)
def xO (fc:Facts):X→Option Bool
 | .lit n=>some (sO n)
 | .bin op k a b=>match C9 fc (.bin op k a b) with
  | some r=>some r
  | none=>match wC fc a,wC fc b with
   | some x,some y=>Pp op x y
   | _,_=>none
 | .not a=>match xO fc a with|some b=>some (zI b)|none=>C9 fc (.not a)
 | .and a b=>match xO fc a with
  | some true=>xO fc b
  | some false=>some false
  | none=>match xO fc b with|some false=>some false|_=>C9 fc (.and a b)
 | .ite c a b=>match xO fc c with
  | some true=>xO fc a
  | some false=>xO fc b
  | none=>match xO fc a,xO fc b with
   | some true,some true=>some true
   | some false,some false=>some false
   | _,_=>C9 fc (.ite c a b)
 | x=>C9 fc x
theorem xZ {s:rD} {fc:Facts} (hf:sZ s fc):∀ {c:X} {b:Bool},xO fc c=some b→(c.den s != 0)=b
 | .lit n,b,h=>by cases h;rw[uO];rfl
 | .bin op k x y,b,h=>by
  simp only[xO] at h
  split at h
  ·rename_i r hr;cases h;exact zJ hf hr
  ·split at h
   ·rename_i p q hp hq
    exact ac4 (yT hf hp) (yT hf hq) h
   ·cases h
 | .not a,b,h=>by
  simp only[xO] at h
  split at h
  ·rename_i q hq;cases h;rw[X.den,uB,xZ hf hq,yS]
  ·exact zJ hf h
 | .and x y,b,h=>by
  simp only[xO] at h
  split at h
  ·rename_i hq
   rw[X.den,uB,xZ hf hq,xZ hf h];rfl
  ·rename_i hq;cases h
   rw[X.den,uB,xZ hf hq];rfl
  ·split at h
   ·rename_i hq;cases h
    rw[X.den,uB,xZ hf hq,Bool.and_false]
   ·exact zJ hf h
 | .ite c x y,b,h=>by
  have den:∀ q,(x.den s != 0)=q→(y.den s != 0)=q→((X.ite c x y).den s != 0)=q:=fun q h1 h2=>by
   simp only[X.den];split<;>assumption
  simp only[xO] at h
  split at h
  ·rename_i hq
   have:=xZ hf hq
   have hc:c.den s≠0:=by simpa using this
   simp only[X.den,if_neg hc];exact xZ hf h
  ·rename_i hq
   have:=xZ hf hq
   have hc:c.den s=0:=by simpa using this
   simp only[X.den,if_pos hc];exact xZ hf h
  ·split at h
   ·rename_i h1 h2;cases h;exact den _ (xZ hf h1) (xZ hf h2)
   ·rename_i h1 h2;cases h;exact den _ (xZ hf h1) (xZ hf h2)
   ·exact zJ hf h
 | .var k i,b,h=>zJ hf h
 | .conv k a,b,h=>zJ hf h
 | .com k a,b,h=>zJ hf h
 | .beq x y,b,h=>zJ hf h
 | .min x y,b,h=>zJ hf h
 | .max x y,b,h=>zJ hf h
 | .dlen x,b,h=>zJ hf h
def Ae {β:Type} (fc:Facts) (c:X) (K:Bool→Facts→rf β):rf β:=match c with
 | .lit n=>K (sO n) fc
 | c=>match xO fc c with
  | some b=>K b fc
  | none=>.ite c (K true (Gi fc c true)) (K false (Gi fc c false))
theorem BO {β:Type} {Φ:uI} {s:rD} {fc:Facts} {c:X} {K:Bool→Facts→rf β} {r:β} (hf:sZ s fc) (h:(Ae fc c K).path Φ s=some r):∃ fc',sZ s fc'∧(K (c.den s != 0) fc').path Φ s=some r:=by
 unfold Ae at h
 split at h
 ·rename_i n
  refine⟨fc,hf,?_⟩
  rw[uO] at h;exact h
 ·split at h
  ·rename_i b hb
   rw[xZ hf hb];exact⟨fc,hf,h⟩
  ·simp only[rf.path] at h
   split at h
   ·rename_i hc
    have:(c.den s != 0)=false:=by rw[hc];rfl
    rw[this];exact⟨_,Pg hf this,h⟩
   ·rename_i hc
    have:(c.den s != 0)=true:=by simpa using hc
    rw[this];exact⟨_,Pg hf this,h⟩
open Go.RowKit
inductive SV where
 | v (x:Value)
 | int (k:IntKind) (x:X)
 | bool (x:X)
 | loc (b off:Nat)
 | hd (k:Nat)
 | ha (k off:Nat)
 | sl (b off len cap:Nat)
 | fn (f:Fn) (a c:List SV)
 | tup (l:List SV)
 | agg (l:List SV)
mutual
def SV.den (s:rD):SV→AV
 | .v x=>.v x
 | .int k x=>.v (.int k (x.den s))
 | .bool x=>.v (.bool (x.den s != 0))
 | .loc b off=>.loc b off
 | .hd k=>.hd k
 | .ha k off=>.ha k off
 | .sl b off len cap=>.sl b off len cap
 | .fn f a c=>xy f (SV.dens s a) (SV.dens s c)
 | .tup l=>xx (SV.dens s l)
 | .agg l=>ww (SV.dens s l)
def SV.dens (s:rD):List SV→List AV
 | []=>[]
 | x::l=>SV.den s x::SV.dens s l
end
theorem SV.dens_map (s:rD):∀ l:List SV,SV.dens s l=l.map (SV.den s)
 | []=>rfl
 | x::l=>by rw[SV.dens,SV.dens_map s l];rfl
def xA (x:Value):SV:=match x with
 | .int k n=>.int k (.lit n)
 | .bool b=>.bool (.lit (r9 b))
 | x=>.v x
theorem Pq (s:rD) (x:Value):(xA x).den s = .v x:=by
 cases x<;>first|rfl|(simp only[xA,SV.den,X.den,uB])
def BP (x:Value):SV:=match x with
 | .agg cs=>.agg (cs.toList.map xA)
 | x=>xA x
theorem zN (s:rD) (l:List Value):SV.dens s (l.map xA)=l.map .v:=by
 rw[SV.dens_map,List.map_map]
 apply List.map_congr_left;intro x _;exact Pq s x
theorem Db:∀ l:List Value,tX (l.map .v)=some l
 | []=>rfl
 | x::l=>by rw[List.map_cons,tX,Db l]
theorem Ma (l:List Value):ww (l.map .v) = .v (.agg l.toArray):=by unfold ww;rw[Db]
theorem Mc (l:List Value):xx (l.map .v) = .v (.tuple l.toArray):=by unfold xx;rw[Db]
theorem Md (s:rD) (x:Value):(BP x).den s = .v x:=by
 unfold BP;split
 ·simp only[SV.den,zN,Ma]
 ·exact Pq s _
structure SO where
 c:List SV
 t:Option TypeId
def BQ (n:Nat):List Value:=(Ut n).map fun d=>.int .u32 (Int.ofNat d)
def BR (c:List SV):X:=match c with
 | [.int _ x]=>x
 | _=>.lit (.ofNat 0)
def UD:Value→Value×Value
 | .tuple xs=>match xs.toList with | [k,v]=>(k,v)|_=>(undef,undef)
 | _=>(undef,undef)
def Ps:SV→Option (List (Value×Value))
 | .v (.tuple xs)=>some (xs.toList.map UD)
 | _=>none
def yI (c:List SV):Option (List (Value×Value)):=match c with
 | [x]=>Ps x
 | _=>none
def tN (k:VK) (n:Int):Value:=match k with | .int k=>.int k (k.wrap n) | .bool=>.bool (n != 0) | .bit=>.int .u64 (r9 (n != 0)) | .nat=>.int .u64 (Int.ofNat n.toNat)
def sP:List VK→List Int→List Value
 | k::ks,n::ns=>tN k n::sP ks ns
 | _,_=>[]
structure JO where
 n:X
 b:Nat
 ks:List VK
def Me:SV→VK
 | .int k _=>.int k
 | _=>.bool
def Mf:SV→Bool
 | .v (.bool false)=>true
 | _=>false
def Mg:SV→Option X
 | .int .i64 n=>some n
 | _=>none
def Mh:SV→Option Nat
 | .v (.int .i64 (.ofNat b))=>some b
 | _=>none
def yU (c:List SV):Option JO:=match c with
 | x::y::z::l=>match Mf x,Mg y,Mh z with
  | true,some n,some b=>some ⟨n,b,l.map Me⟩
  | _,_,_=>none
 | _=>none
def xB (s:rD) (b:Nat) (ks:List VK):Nat→List Value
 | 0=>[]
 | n+1=>xB s b ks n++sP ks (vN s (b+n*ks.length) ks.length)
def SO.den (s:rD) (o:SO):AO:=match o.t with
 | some t=>.own (SV.dens s o.c) t
 | none=>match yI o.c with
  | some es=>.mp es
  | none=>match yU o.c with
   | some r=>.rd (r.n.den s).toNat (xB s r.b r.ks (r.n.den s).toNat)
   | none=>.rd (Ad ((BR o.c).den s).toNat) (BQ ((BR o.c).den s).toNat)
theorem SO.den_own (s:rD) {o:SO} {t:TypeId} (h:o.t=some t):o.den s = .own (SV.dens s o.c) t:=by unfold SO.den;rw[h]
theorem SO.den_nat (s:rD) {o:SO} (h:o.t=none) (hm:yI o.c=none) (ho:yU o.c=none):o.den s = .rd (Ad ((BR o.c).den s).toNat) (BQ ((BR o.c).den s).toNat):=by unfold SO.den;rw[h];simp only[];rw[hm];simp only[];rw[ho]
theorem SO.den_ora (s:rD) {o:SO} {r:JO} (h:o.t=none) (hm:yI o.c=none) (ho:yU o.c=some r):o.den s = .rd (r.n.den s).toNat (xB s r.b r.ks (r.n.den s).toNat):=by unfold SO.den;rw[h];simp only[];rw[hm];simp only[];rw[ho]
theorem SO.den_map (s:rD) {o:SO} {es:List (Value×Value)} (h:o.t=none) (hm:yI o.c=some es):o.den s = .mp es:=by unfold SO.den;rw[h];simp only[];rw[hm]
abbrev SH:=List (Nat×SO)
def hget:SH→Nat→Option SO
 | [],_=>none
 | x::l,k=>match Nat.beq x.1 k with|true=>some x.2|false=>hget l k
def SH.den (s:rD) (H:SH):ry:=fun k=>(hget H k).map (SO.den s)
abbrev rR:=List (Option SV)
def uX:rR→Nat→Option SV
 | [],_=>none
 | x::l,0=>x
 | x::l,n+1=>uX l n
def rR.den (s:rD) (T:rR):rT:=fun t=>(uX T t).map (SV.den s)
def Mi {β:Sort _} : rR→Nat→SV→(rR→β)→β
 | [],_,_,k=>k []
 | x::l,0,v,k=>k (some v::l)
 | x::l,n+1,v,k=>Mi l n v fun l'=>k (x::l')
def Af:rR→Nat→SV→rR
 | [],_,_=>[]
 | _::l,0,v=>some v::l
 | x::l,n+1,v=>x::Af l n v
theorem UE {β:Sort _} : ∀ (T:rR) (n:Nat) (v:SV) (k:rR→β),Mi T n v k=k (Af T n v)
 | [],_,_,_=>rfl
 | x::l,0,_,_=>rfl
 | x::l,n+1,v,k=>by rw[Mi,UE l n v];rfl
theorem UF:∀ (T:rR) (n:Nat) (v:SV) (t:Nat),uX (Af T n v) t=if t=n∧n<T.length then some v else uX T t
 | [],n,v,t=>by simp[Af]
 | x::l,0,v,0=>by simp[Af,uX]
 | x::l,0,v,t+1=>by simp[Af,uX]
 | x::l,n+1,v,t=>by
  rw[Af]
  cases t with
  | zero=>simp[uX]
  | succ t =>
   show uX (Af l n v) t=_
   rw[UF l n v t];simp[uX]
theorem UG:∀ (T:rR) (n:Nat) (v:SV),(Af T n v).length=T.length
 | [],_,_=>rfl
 | x::l,0,_=>rfl
 | x::l,n+1,v=>by rw[Af];simp[UG l n v]
theorem rR.den_set (s:rD) (T:rR) (n:Nat) (v:SV) (h:n<T.length):rR.den s (Af T n v)=(rR.den s T).put (some n) (v.den s):=by
 funext t
 unfold rR.den
 rw[UF]
 by_cases ht:t=n
 ·subst ht;rw[if_pos ⟨rfl,h⟩,rT.put_same];rfl
 ·rw[if_neg (fun e=>ht e.1),rT.put_ne _ _ _ ht]
def hset {β:Sort _} : SH→Nat→SO→(SH→β)→β
 | [],k,o,K=>K [(k,o)]
 | x::l,k,o,K=>match Nat.beq x.1 k with
  | true=>K ((k,o)::l)
  | false=>hset l k o fun l'=>K (x::l')
def Dc:SH→Nat→SO→SH
 | [],k,o=>[(k,o)]
 | x::l,k,o=>match Nat.beq x.1 k with
  | true=>(k,o)::l
  | false=>x::Dc l k o
theorem UH {β:Sort _} : ∀ (H:SH) (k:Nat) (o:SO) (K:SH→β),hset H k o K=K (Dc H k o)
 | [],_,_,_=>rfl
 | x::l,k,o,K=>by
  simp only[hset,Dc]
  cases Nat.beq x.1 k with
  | true=>rfl
  | false=>simp only[];rw[UH l k o]
theorem Pt:∀ (H:SH) (k:Nat) (o:SO) (j:Nat),hget (Dc H k o) j=if j=k then some o else hget H j
 | [],k,o,j=>by
  simp only[Dc,hget]
  cases h:Nat.beq k j with
  | true=>rw[if_pos (sU.1 h).symm]
  | false=>rw[if_neg];intro e;subst e;simp at h
 | x::l,k,o,j=>by
  simp only[Dc]
  cases h:Nat.beq x.1 k with
  | true =>
   have hx:=sU.1 h
   simp only[hget]
   cases h2:Nat.beq k j with
   | true=>rw[if_pos (sU.1 h2).symm]
   | false =>
    have:j≠k:=fun e=>by subst e;simp at h2
    rw[if_neg this,hx,h2]
  | false =>
   simp only[hget]
   cases h2:Nat.beq x.1 j with
   | true =>
    have hj:=sU.1 h2
    have:j≠k:=fun e=>by rw[← hj] at e;rw[e] at h;simp at h
    rw[if_neg this]
   | false=>simp only[];exact Pt l k o j
theorem SH.den_set (s:rD) (H:SH) (k:Nat) (o:SO):SH.den s (Dc H k o)=(SH.den s H).put k (o.den s):=by
 funext j
 unfold SH.den ry.put
 rw[Pt]
 split<;>rfl
def Bb {β:Sort _} : SH→List (Nat×SO)→(SH→β)→β
 | H,[],K=>K H
 | H,x::l,K=>hset H x.1 x.2 fun H=>Bb H l K
def El:SH→List (Nat×SO)→SH
 | H,[]=>H
 | H,x::l=>El (Dc H x.1 x.2) l
theorem UI {β:Sort _} : ∀ (l:List (Nat×SO)) (H:SH) (K:SH→β),Bb H l K=K (El H l)
 | [],_,_=>rfl
 | x::l,H,K=>by rw[Bb,UH,UI l,El]
def sH (s:rD) (ef:List (Nat×SO)):List (Nat×AO):=ef.map fun x=>(x.1,x.2.den s)
theorem UJ (s:rD):∀ (l:List (Nat×SO)) (H:SH),SH.den s (El H l)=(SH.den s H).puts (sH s l)
 | [],_=>rfl
 | x::l,H=>by rw[El,UJ s l,SH.den_set];rfl
def zO (T:rR):Operand→Option SV
 | .tmp t=>uX T t
 | .const v=>some (BP v)
 | .global g=>some (.v (.pointer (some ⟨g,0,none⟩)))
 | .func f=>some (.v (.func (.func f) #[] #[]))
def RD (s:rD) (ρ:Operand→Option SV) (ρ':Operand→Option AV):Prop:=∀ x a,ρ x=some a→ρ' x=some (a.den s)
theorem De (s : rD) (T : rR) : RD s (zO T) (uU (rR.den s T)) := by
  intro x a h
  cases x with
  | tmp t => have h : uX T t = some a := h
             simp [uU, rR.den, h]
  | const v => simp only [zO, Option.some.injEq] at h; subst h; rw [Md]; rfl
  | global g => simp only [zO, Option.some.injEq] at h; subst h; rfl
  | func f => simp only [zO, Option.some.injEq] at h; subst h; rfl
def cellsS:SV→List SV
 | .v x=>x.cells.toList.map xA
 | .agg l=>l
 | x=>[x]
theorem JP (l:List AV):tK (ww l)=l:=by
 unfold ww
 cases h:tX l with
 | none=>rfl
 | some vs =>
  simp only[tK,Value.cells]
  induction l generalizing vs with
  | nil=>simp only[tX,Option.some.injEq] at h;subst h;rfl
  | cons x l ih =>
   cases x<;>simp only[tX] at h<;>try cases h
   rename_i x
   cases h2:tX l with
   | none=>rw[h2] at h;cases h
   | some ws =>
    rw[h2] at h
    simp only[Option.some.injEq] at h
    subst h
    simpa using ih ws h2
theorem ac5 (l:List AV):tK (xx l) = [xx l]:=by
 unfold xx;split<;>rfl
theorem ac6 (f:Fn) (a c:List AV):tK (xy f a c) = [xy f a c]:=by
 unfold xy;split<;>rfl
theorem Gp (s:rD) (a:SV):SV.dens s (cellsS a)=tK (a.den s):=by
 cases a with
 | v x=>simp only[cellsS,zN,SV.den,tK]
 | agg l=>simp only[cellsS,SV.den,JP]
 | tup l=>simp only[cellsS,SV.dens,SV.den,ac5]
 | fn f a c=>simp only[cellsS,SV.dens,SV.den,ac6]
 | int k x=>simp only[cellsS,SV.dens,SV.den,tK,Value.cells,List.map_cons,List.map_nil]
 | bool x=>simp only[cellsS,SV.dens,SV.den,tK,Value.cells,List.map_cons,List.map_nil]
 | _=>rfl
def tH:SV→Bool
 | .v (.agg _)=>false
 | .v (.tuple _)=>false
 | .agg _=>false
 | .tup _=>false
 | .ha _ _=>false
 | _=>true
theorem ac7 (f:Fn) (a c:List AV):DW (xy f a c)=true:=by unfold xy;split<;>rfl
theorem ac8 {s:rD} {a:SV} (h:tH a=true):DW (a.den s)=true:=by
 cases a with
 | v x=>cases x<;>first|rfl|cases h
 | fn f a c=>exact ac7 _ _ _
 | agg l=>cases h
 | tup l=>cases h
 | ha k o=>cases h
 | _=>rfl
def tZ {β:Sort _} : Nat→List SV→(List SV→β)→β
 | 0,_,K=>K []
 | _+1,[],K=>K []
 | n+1,x::l,K=>tZ n l fun l'=>K (x::l')
def BS (P:Program) (t:TypeId) (c:List SV) (off:Nat):Option SV :=
 match CK P t with
 | some true=>match tJ P t with
  | some sz=>match Nat.ble (off+sz) c.length,Nat.ble 1 sz with
   | true,true=>BL ((c.drop off).take sz) fun l=>some (.agg l)
   | _,_=>none
  | none=>none
 | some false=>c[off]?
 | none=>none
theorem zo (s:rD) (l:List SV):(SV.dens s l).length=l.length:=by rw[SV.dens_map];simp
theorem Pv (s:rD) (l:List SV) (n:Nat):SV.dens s (l.take n)=(SV.dens s l).take n:=by rw[SV.dens_map,SV.dens_map,List.map_take]
theorem Pw (s:rD) (l:List SV) (n:Nat):SV.dens s (l.drop n)=(SV.dens s l).drop n:=by rw[SV.dens_map,SV.dens_map,List.map_drop]
theorem Df (s:rD) (a b:List SV):SV.dens s (a++b)=SV.dens s a++SV.dens s b:=by simp[SV.dens_map]
theorem UK (s:rD) {l:List SV} {i:Nat} {x:SV} (h:l[i]? = some x):(SV.dens s l)[i]? = some (x.den s):=by rw[SV.dens_map];simp[h]
theorem Em {P:Program} {t:TypeId} {c:List SV} {off:Nat} {r:SV} (s:rD) (h:BS P t c off=some r):vH P t (SV.dens s c) off=some (r.den s):=by
 unfold BS at h
 unfold vH
 split at h
 ·rename_i ha
  rw[ha]
  simp only
  split at h
  ·rename_i sz hs
   rw[hs]
   simp only
   split at h
   ·rename_i h1 h2
    rw[Ef] at h
    cases h
    have h1:=Nat.le_of_ble_eq_true h1;have h2:=Nat.le_of_ble_eq_true h2
    rw[if_pos ⟨by rw[zo];exact h1,h2⟩]
    simp only[SV.den,Pv,Pw]
   ·cases h
  ·cases h
 ·rename_i ha
  rw[ha]
  exact UK s h
 ·cases h
abbrev SR:=SV×List Nat×List (Nat×SO)
def one (a:SV):rf SR:=.leaf (a,[],[])
def Gq (w:String) (x:Option SV):rf SR:=match x with|some a=>.leaf (a,[],[])|none=>.stuck w
def Px (P:Program) (G:rP) (t:TypeId) (H:SH) (a:SV):rf SR:=match a with
 | .loc b off=>match hget H b with
  | some o=>match o.t with
   | some _=>match BS P t o.c off with|some r=>.leaf (r,[b],[])|none=>.stuck "load: cells"
   | none=>.stuck "load: a number"
  | none=>.stuck "load: block"
 | .v (.pointer (some ⟨g,off,none⟩))=>match Jt G g with
  | some c=>match BS P t (c.map xA) off with|some r=>one r|none=>.stuck "load: global cells"
  | none=>.stuck "load: global"
 | _=>.stuck "load"
def UL (c:List SV) (off:Nat) (ys:List SV):List SV:=c.take off++ys++c.drop (off+ys.length)
def Py (P:Program) (t:TypeId) (H:SH) (x y:SV):rf SR:=match x with
 | .loc b off=>match hget H b with
  | some ⟨_,none⟩=>.stuck "store: a number"
  | some o=>match (cellsS y).all tH,tJ P t with
   | true,some n=>match Nat.beq n (cellsS y).length,Nat.ble (off+(cellsS y).length) o.c.length with
    | true,true=>BL (UL o.c off (cellsS y)) fun c=>.leaf (.v undef,[b],[(b,⟨c,o.t⟩)])
    | _,_=>.stuck "store: size"
   | _,_=>.stuck "store: cells"
  | none=>.stuck "store: block"
 | _=>.stuck "store"
def Pz (P:Program) (t:TypeId) (f:Nat) (x:SV):Option SV:=match x with
 | .agg l=>match AJ P t f with
  | some (off,ft)=>BS P ft l off
  | none=>none
 | .v (.agg cs)=>match AJ P t f with
  | some (off,ft)=>BS P ft (cs.toList.map xA) off
  | none=>none
 | _=>none
def PD (P:Program) (t:TypeId) (f:Nat) (x:SV):Option SV :=
 match AJ P t f with
 | some (off,ft)=>match tJ P ft with
  | some (_+1)=>match x with
   | .loc b o=>uC (o+off) fun n=>some (.loc b n)
   | .v (.pointer (some ⟨g,o,none⟩))=>uC (o+off) fun n=>some (.v (.pointer (some ⟨g,n,none⟩)))
   | _=>none
  | _=>none
 | none=>none
def Gr {α:Type} (x:X) (f:Nat→rf α):Nat→Nat→Facts→rf α
 | 0,_,_=>.stuck "index"
 | m+1,j,fc=>match xO fc (.bin .eql .i64 x (.lit (.ofNat j))) with
  | some true=>f j
  | some false=>Gr x f m (Nat.succ j) fc
  | none=>.ite (.bin .eql .i64 x (.lit (.ofNat j))) (f j) (Gr x f m (Nat.succ j) (Gi fc (.bin .eql .i64 x (.lit (.ofNat j))) false))
def En {α:Type} (fc:Facts) (x:X) (len:Nat) (f:Nat→rf α):rf α:=match x with
 | .lit (.ofNat j)=>match Nat.blt j len with|true=>f j|false=>.stuck "index: out of range"
 | .lit (.negSucc _)=>.stuck "index: below 0"
 | x=>Gr x f len 0 fc
theorem PE {α:Type} {Φ:uI} {s:rD} {x:X} {f:Nat→rf α} {a:α} : ∀ (m j:Nat) (fc:Facts),sZ s fc→(Gr x f m j fc).path Φ s=some a→∃ i,j≤i∧i<j+m∧x.den s=i∧(f i).path Φ s=some a
 | 0,j,fc,hf,h=>by cases h
 | m+1,j,fc,hf,h=>by
  have eqj:((X.bin .eql .i64 x (.lit (.ofNat j))).den s != 0)=true→x.den s=(j:Int):=fun hq=>by
   simp only[X.den,rQ,uB] at hq;simpa using hq
  have ite:(rf.ite (.bin .eql .i64 x (.lit (.ofNat j))) (f j) (Gr x f m (Nat.succ j) (Gi fc (.bin .eql .i64 x (.lit (.ofNat j))) false))).path Φ s=some a→∃ i,j≤i∧i<j+(m+1)∧x.den s=i∧(f i).path Φ s=some a:=fun h=>by
   simp only[rf.path] at h
   split at h
   ·rename_i hc
    obtain⟨i,h1,h2,h3,h4⟩:=PE m (j+1) _ (Pg hf (by rw[hc];rfl)) h
    exact⟨i,by omega,by omega,h3,h4⟩
   ·rename_i hne
    exact⟨j,Nat.le_refl _,by omega,eqj (by simpa using hne),h⟩
  simp only[Gr] at h
  split at h
  ·rename_i hd;exact⟨j,Nat.le_refl _,by omega,eqj (xZ hf hd),h⟩
  ·obtain⟨i,h1,h2,h3,h4⟩:=PE m (j+1) fc hf h
   exact⟨i,by omega,by omega,h3,h4⟩
  ·exact ite h
theorem JQ {α:Type} {Φ:uI} {s:rD} {fc:Facts} (hf:sZ s fc) {x:X} {len:Nat} {f:Nat→rf α} {a:α} (h:(En fc x len f).path Φ s=some a):∃ i,i<len∧x.den s=(i:Int)∧(f i).path Φ s=some a:=by
 unfold En at h
 split at h
 ·rename_i j
  split at h
  ·rename_i hb
   exact⟨j,by simpa [Nat.blt_eq] using hb,rfl,h⟩
  ·cases h
 ·cases h
 ·obtain⟨i,_,h2,h3,h4⟩:=PE _ _ _ hf h
  exact⟨i,by omega,h3,h4⟩
def PG (P:Program) (fc:Facts) (t:TypeId) (x i:SV):rf SR:=match i with
 | .int _ n=>match x with
  | .loc b o=>match yx P t with
   | some (len,el)=>match tJ P el with
    | some sz=>En fc n len fun j=>uC (o+j*sz) fun q=>one (.loc b q)
    | none=>.stuck "indexAddr: size"
   | none=>.stuck "indexAddr: no array"
  | .v (.pointer (some ⟨g,o,none⟩))=>match yx P t with
   | some (len,el)=>match tJ P el with
    | some sz=>En fc n len fun j=>uC (o+j*sz) fun q=>one (.v (.pointer (some ⟨g,q,none⟩)))
    | none=>.stuck "indexAddr: size"
   | none=>.stuck "indexAddr: no array"
  | .sl b o len _=>match AL P t with
   | some el=>match tJ P el with
    | some sz=>En fc n len fun j=>uC (o+j*sz) fun q=>one (.loc b q)
    | none=>.stuck "indexAddr: size"
   | none=>.stuck "indexAddr: no slice"
  | _=>.stuck "indexAddr"
 | _=>.stuck "indexAddr: index"
def PH (P:Program) (fc:Facts) (t:TypeId) (x i:SV):rf SR:=match i with
 | .int _ n=>match x with
  | .agg l=>match yx P t with
   | some (len,el)=>match tJ P el with
    | some sz=>En fc n len fun j=>Gq "index: cells" (BS P el l (j*sz))
    | none=>.stuck "index: size"
   | none=>.stuck "index: no array"
  | .v (.agg cs)=>match yx P t with
   | some (len,el)=>match tJ P el with
    | some sz=>En fc n len fun j=>Gq "index: cells" (BS P el (cs.toList.map xA) (j*sz))
    | none=>.stuck "index: size"
   | none=>.stuck "index: no array"
  | _=>.stuck "index"
 | _=>.stuck "index: index"
def PI (x:SV) (i:Nat):Option SV:=match x with
 | .v (.tuple vs)=>match vs.toList[i]? with|some v=>some (xA v)|none=>none
 | .tup l=>l[i]?
 | _=>none
def Gs (place:Nat→Option (Nat×Nat)) (cells:List SV):List (Nat×SV)→Option (List SV)
 | []=>some cells
 | (i,x)::rest=>match place i with
  | none=>none
  | some (off,size)=>match Nat.beq (cellsS x).length size,Nat.ble (off+size) cells.length with
   | true,true=>BL (cells.take off++cellsS x++cells.drop (off+size)) fun c=>Gs place c rest
   | _,_=>none
def Mj (s:rD) (l:List (Nat×SV)):List (Nat×AV):=l.map fun x=>(x.1,x.2.den s)
theorem PK {place:Nat→Option (Nat×Nat)} (s:rD):∀ {ps:List (Nat×SV)} {cells c:List SV},Gs place cells ps=some c→zH place (SV.dens s cells) (Mj s ps)=some (SV.dens s c)
 | [],cells,c,h=>by simp only[Gs,Option.some.injEq] at h;subst h;rfl
 | (i,x)::rest,cells,c,h=>by
  simp only[Gs] at h
  simp only[Mj,List.map_cons,zH]
  split at h
  ·cases h
  ·rename_i off size hp
   rw[hp]
   simp only
   split at h
   ·rename_i h1 h2
    rw[Ef] at h
    have h1:=sU.1 h1;have h2:=Nat.le_of_ble_eq_true h2
    rw[if_pos ⟨by rw[← Gp,zo];exact h1,by rw[zo];exact h2⟩]
    have:=PK s h
    rw[Df,Df,Pv,Pw,Gp] at this
    exact this
   ·cases h
def Gt (ρ:Operand→Option SV):List (Nat×Operand)→Option (List (Nat×SV))
 | []=>some []
 | (i,x)::l=>match ρ x,Gt ρ l with
  | some a,some r=>some ((i,a)::r)
  | _,_=>none
theorem PL {s:rD} {ρ:Operand→Option SV} {ρ':Operand→Option AV} (hρ:RD s ρ ρ'):∀ {l:List (Nat×Operand)} {r:List (Nat×SV)},Gt ρ l=some r→yz ρ' l=some (Mj s r)
 | [],r,h=>by simp only[Gt,Option.some.injEq] at h;subst h;rfl
 | (i,x)::l,r,h=>by
  simp only[Gt] at h
  split at h
  ·rename_i a r' ha hr
   cases h
   rw[yz,hρ x a ha,PL hρ hr];rfl
  ·cases h
def Eo (ρ:Operand→Option SV):List Operand→Option (List SV)
 | []=>some []
 | x::l=>match ρ x,Eo ρ l with
  | some a,some r=>some (a::r)
  | _,_=>none
theorem Mk {s:rD} {ρ:Operand→Option SV} {ρ':Operand→Option AV} (hρ:RD s ρ ρ'):∀ {l:List Operand} {r:List SV},Eo ρ l=some r→xH ρ' l=some (SV.dens s r)
 | [],r,h=>by simp only[Eo,Option.some.injEq] at h;subst h;rfl
 | x::l,r,h=>by
  simp only[Eo] at h
  split at h
  ·rename_i a r' ha hr
   cases h
   rw[xH,hρ x a ha,Mk hρ hr];rfl
  ·cases h
abbrev Gu:=TypeId→SV→SV→Option X
def Ml (P:Program) (SE:Gu) (E:tC):Prop:=∀ t x y r (s:rD),SE t x y=some r→∃ a b,x.den s = .v a∧y.den s = .v b∧wy P .eql t a b=none∧wy P .neq t a b=none∧E .eql t a b=some (.bool (r.den s != 0))∧E .neq t a b=some (.bool (!(r.den s != 0)))
def Dg (fc:Facts) (w:String) (c:X) (t:rf SR):rf SR:=match xO fc c with
 | some true=>.stuck w
 | some false=>t
 | none=>Gh c (.stuck w) t
def PM (fc:Facts) (op:BinOp) (k k':IntKind) (a b:X):rf SR:=match op with
 | .shl=>match X.inK k' b,k'.signed with
  | true,false=>uD (uz .shl k a b) fun x=>one (.int k x)
  | _,_=>Dg fc "shift below 0" (uz .lss k' b (.lit (.ofNat 0))) (uD (uz .shl k a b) fun x=>one (.int k x))
 | .shr=>match X.inK k' b,k'.signed with
  | true,false=>uD (uz .shr k a b) fun x=>one (.int k x)
  | _,_=>Dg fc "shift below 0" (uz .lss k' b (.lit (.ofNat 0))) (uD (uz .shr k a b) fun x=>one (.int k x))
 | .quo=>match vM k k' with
  | true=>Dg fc "by 0" (uz .eql k' b (.lit (.ofNat 0))) (uD (uz .quo k a b) fun x=>one (.int k x))
  | false=>.stuck "kinds"
 | .rem=>match vM k k' with
  | true=>Dg fc "by 0" (uz .eql k' b (.lit (.ofNat 0))) (uD (uz .rem k a b) fun x=>one (.int k x))
  | false=>.stuck "kinds"
 | .add | .sub | .mul | .and | .or | .xor | .andNot=>match vM k k' with
  | true=>uD (uz op k a b) fun x=>one (.int k x)
  | false=>.stuck "kinds"
 | .eql | .neq | .lss | .leq | .gtr | .geq=>match vM k k' with
  | true=>uD (uz op k a b) fun x=>one (.bool x)
  | false=>.stuck "kinds"
def PN (P:Program) (SE:Gu) (fc:Facts) (op:BinOp) (t:TypeId) (x y:SV):rf SR:=match x,y with
 | .int k a,.int k' b=>PM fc op k k' a b
 | .bool a,.bool b=>match P.underlying t with
  | some .bool=>match op with
   | .eql=>uD (L6 a b) fun x=>one (.bool x)
   | .neq=>uD (mkNot (L6 a b)) fun x=>one (.bool x)
   | _=>.stuck "binOp: bools"
  | _=>.stuck "binOp: bool type"
 | x,y=>match op with
  | .eql=>match SE t x y with|some r=>uD r fun r=>one (.bool r)|none=>.stuck "eql"
  | .neq=>match SE t x y with|some r=>uD (mkNot r) fun r=>one (.bool r)|none=>.stuck "neq"
  | _=>.stuck "binOp"
def PO (op:UnOp) (x:SV):rf SR:=match op,x with
 | .neg,.int k a=>uD (uz .sub k (.lit (.ofNat 0)) a) fun x=>one (.int k x)
 | .xor,.int k a=>uD (LZ k a) fun x=>one (.int k x)
 | .not,.bool a=>uD (mkNot a) fun x=>one (.bool x)
 | _,_=>.stuck "unOp"
def PP (P:Program) (src dst:TypeId) (x:SV):rf SR:=match x with
 | .int _ a=>match FK P dst,P.underlying src with
  | some k,some _=>uD (O6 k a) fun x=>one (.int k x)
  | _,_=>.stuck "convert: type"
 | _=>.stuck "convert"
def PQ (x:SV):rf SR:=match x with
 | .loc b o=>one (.loc b o)
 | .v (.func (.func f) a c)=>one (.v (.func (.func f) a c))
 | .v (.pointer (some p))=>one (.v (.pointer (some p)))
 | .fn (.func f) a c=>one (.fn (.func f) a c)
 | _=>.stuck "nilCheck"
def sLen (P:Program) (t:TypeId) (H:SH) (x:SV):rf SR:=match P.underlying t with
 | some (.slice _)=>match x with
  | .hd k=>match hget H k with
   | some ⟨[.int _ x],none⟩=>.leaf (.int .i64 (.dlen x),[k],[])
   | some ⟨c,none⟩=>match yI c,yU c with
    | none,some r=>uD (L8 r.n (.lit (.ofNat 0))) fun x=>.leaf (.int .i64 x,[k],[])
    | _,_=>.stuck "len: handle"
   | _=>.stuck "len: handle"
  | .sl _ _ n _=>one (.int .i64 (.lit (.ofNat n)))
  | .v (.slice _ n _)=>one (.int .i64 (.lit (.ofNat n)))
  | _=>.stuck "len: slice"
 | some .string=>match x with | .v (.string s)=>uC s.size fun n=>one (.int .i64 (.lit (.ofNat n)))|_=>.stuck "len: string"
 | some (.array n _)=>one (.int .i64 (.lit (.ofNat n)))
 | _=>.stuck "len"
def PR (P:Program) (t:TypeId) (x:SV):rf SR:=match yx P t with
 | some (n,_)=>match x with
  | .sl b o len _=>match Nat.ble n len with|true=>one (.loc b o)|false=>.stuck "arrayAt: len"
  | _=>.stuck "arrayAt"
 | none=>.stuck "arrayAt: no array"
def PS (P:Program) (t:TypeId) (k:Nat) (x y:SV):rf SR:=match x,y with
 | .int _ (.lit (.ofNat n)),.int _ (.lit (.ofNat m))=>match AL P t with
  | some el=>match tJ P el,zY P el,Og P el with
   | some sz,some z,some b=>match Nat.ble n m,Nat.blt m 16777216,Nat.ble b 4096,Nat.beq (m*sz) 0 with
    | true,true,true,false=>BL ((BD z (m*sz)).map xA) fun c=>.leaf (.sl k 0 n m,[],[(k,⟨c,some el⟩)])
    | _,_,_,_=>.stuck "makeSlice: size"
   | _,_,_=>.stuck "makeSlice: type"
  | none=>.stuck "makeSlice: no slice"
 | _,_=>.stuck "makeSlice"
def PT (P:Program) (t:TypeId) (x:SV):rf SR:=match yx P t with
 | some (n,el)=>match x,tJ P el with
  | .loc b o,some _=>one (.sl b o n n)
  | _,_=>.stuck "slice"
 | none=>.stuck "slice: no array"
def PU (P:Program) (t:TypeId) (len:Nat) (k:Nat) (ps:List (Nat×SV)):rf SR:=match AL P t with
 | some el=>match tJ P el,zY P el with
  | some sz,some z=>match Nat.ble (len*sz) 16777216,Nat.beq (len*sz) 0 with
   | true,false=>match Gs (fun i=>some (i*sz,sz)) ((BD z (len*sz)).map xA) ps with
    | some c=>.leaf (.sl k 0 len len,[],[(k,⟨c,some el⟩)])
    | none=>.stuck "buildSlice: parts"
   | _,_=>.stuck "buildSlice: size"
  | _,_=>.stuck "buildSlice: type"
 | none=>.stuck "buildSlice"
def o1 (ρ:Operand→Option SV) (x:Operand) (f:SV→rf SR):rf SR:=match ρ x with|some a=>f a|none=>.stuck "operand"
def o2 (ρ:Operand→Option SV) (x y:Operand) (f:SV→SV→rf SR):rf SR:=match ρ x with
 | some a=>match ρ y with|some b=>f a b|none=>.stuck "operand"
 | none=>.stuck "operand"
def PV (P:Program) (G:rP) (SE:Gu) (fc:Facts) (op:Op) (ρ:Operand→Option SV) (H:SH) (k:Nat):rf SR :=
 match op with
 | .move x=>o1 ρ x one
 | .assign x=>o1 ρ x one
 | .pick c a b=>o1 ρ c fun v=>match v with
  | .bool q=>Gh q (o1 ρ a one) (o1 ρ b one)
  | _=>.stuck "pick"
 | .alloc t=>match zY P t with|some z=>BL (z.map xA) fun c=>.leaf (.loc k 0,[],[(k,⟨c,some t⟩)])|none=>.stuck "alloc"
 | .box t x=>o1 ρ x fun a=>BL (cellsS a) fun c=>.leaf (.loc k 0,[],[(k,⟨c,some t⟩)])
 | .build t ps=>match Gt ρ ps.toList,zY P t with
  | some l,some z=>match LA P t with
   | true=>match Gs (Ju P t) (z.map xA) l with|some c=>one (.agg c)|none=>.stuck "build: parts"
   | false=>.stuck "build: sizes"
  | _,_=>.stuck "build"
 | .buildSlice t len ps=>match Gt ρ ps.toList with|some l=>PU P t len k l|none=>.stuck "buildSlice: operands"
 | .load t x=>o1 ρ x fun a=>Px P G t H a
 | .store t x y=>o2 ρ x y fun a b=>Py P t H a b
 | .nilCheck x=>o1 ρ x PQ
 | .binOp op t x y _=>o2 ρ x y fun a b=>PN P SE fc op t a b
 | .unOp op _ x=>o1 ρ x fun a=>PO op a
 | .convert s d x=>o1 ρ x fun a=>PP P s d a
 | .makeFunc f a c=>match Eo ρ a.toList,Eo ρ c.toList with|some x,some y=>one (.fn f x y)|_,_=>.stuck "makeFunc"
 | .fieldAddr t x f=>o1 ρ x fun a=>Gq "fieldAddr" (PD P t f a)
 | .field t x f=>o1 ρ x fun a=>Gq "field" (Pz P t f a)
 | .indexAddr t x i=>o2 ρ x i fun a b=>PG P fc t a b
 | .index t x i=>o2 ρ x i fun a b=>PH P fc t a b
 | .extract x i=>o1 ρ x fun a=>Gq "extract" (PI a i)
 | .call { callee:=.builtin .len,args:=args,argTypes:=ts }=>match args.toList,ts.toList with
  | [x],[t]=>o1 ρ x fun a=>sLen P t H a
  | _,_=>.stuck "len: operands"
 | .call { callee:=.builtin .min,args:=args,argTypes:=_ }=>match args.toList with
  | [x,y]=>o2 ρ x y fun a b=>match a,b with
   | .int k a,.int _ b=>uD (O8 a b) fun x=>one (.int k x)
   | _,_=>.stuck "min"
  | _=>.stuck "min: operands"
 | .call { callee:=.builtin .max,args:=args,argTypes:=_ }=>match args.toList with
  | [x,y]=>o2 ρ x y fun a b=>match a,b with
   | .int k a,.int _ b=>uD (L8 a b) fun x=>one (.int k x)
   | _,_=>.stuck "max"
  | _=>.stuck "max: operands"
 | .sliceToArrayPointer t x=>o1 ρ x fun a=>PR P t a
 | .makeSlice t x y=>o2 ρ x y fun a b=>PS P t k a b
 | .slice t x none none none=>o1 ρ x fun a=>PT P t a
 | _=>.stuck "no such operation"
open Go.RowKit
theorem SH.den_get {s:rD} {H:SH} {k:Nat} {o:SO} {t:TypeId} (h:hget H k=some o) (ht:o.t=some t):SH.den s H k=some (.own (SV.dens s o.c) t):=by unfold SH.den;rw[h,Option.map_some,SO.den_own s ht]
theorem SH.den_nat {s:rD} {H:SH} {k:Nat} {o:SO} (h:hget H k=some o) (ht:o.t=none) (hm:yI o.c=none) (ho:yU o.c=none):SH.den s H k=some (.rd (Ad ((BR o.c).den s).toNat) (BQ ((BR o.c).den s).toNat)):=by unfold SH.den;rw[h,Option.map_some,SO.den_nat s ht hm ho]
theorem SH.den_ora {s:rD} {H:SH} {k:Nat} {o:SO} {r:JO} (h:hget H k=some o) (ht:o.t=none) (hm:yI o.c=none) (ho:yU o.c=some r):SH.den s H k=some (.rd (r.n.den s).toNat (xB s r.b r.ks (r.n.den s).toNat)):=by unfold SH.den;rw[h,Option.map_some,SO.den_ora s ht hm ho]
theorem SH.den_map {s:rD} {H:SH} {k:Nat} {o:SO} {es:List (Value×Value)} (h:hget H k=some o) (ht:o.t=none) (hm:yI o.c=some es):SH.den s H k=some (.mp es):=by unfold SH.den;rw[h,Option.map_some,SO.den_map s ht hm]
section
variable {P:Program} {G:rP} {SE:Gu} {E:tC} {Φ:uI} {s:rD} {r:SR} {fc:Facts}
theorem zP {a:SV} (h:(one a).path Φ s=some r):r=(a,[],[]):=by cases h;rfl
theorem JR {w:String} {x:Option SV} (h:(Gq w x).path Φ s=some r):∃ a,x=some a∧r=(a,[],[]):=by
 cases x with
 | none=>cases h
 | some a=>cases h;exact⟨a,rfl,rfl⟩
theorem yc {ρ:Operand→Option SV} {x:Operand} {f:SV→rf SR} (h:(o1 ρ x f).path Φ s=some r):∃ a,ρ x=some a∧(f a).path Φ s=some r:=by
 unfold o1 at h;split at h
 ·rename_i a ha;exact⟨a,ha,h⟩
 ·cases h
theorem Ep {ρ:Operand→Option SV} {x y:Operand} {f:SV→SV→rf SR} (h:(o2 ρ x y f).path Φ s=some r):∃ a b,ρ x=some a∧ρ y=some b∧(f a b).path Φ s=some r:=by
 unfold o2 at h;split at h
 ·rename_i a ha
  split at h
  ·rename_i b hb;exact⟨a,b,ha,hb,h⟩
  ·cases h
 ·cases h
theorem zq {x:X} {k:X→rf SR} (h:(uD x k).path Φ s=some r):(k x).path Φ s=some r:=by rwa [acS] at h
theorem ac9 {t:TypeId} {H:SH} {a:SV} (h:(Px P G t H a).path Φ s=some r):xG P G t (SH.den s H) (a.den s)=some (r.1.den s,r.2.1,sH s r.2.2):=by
 unfold Px at h
 split at h
 ·rename_i b off
  split at h
  ·rename_i o ho
   split at h
   ·rename_i t0 ht
    split at h
    ·rename_i r' hr
     cases h
     simp only[SV.den,xG,SH.den_get ho ht,Em s hr];rfl
    ·cases h
   ·cases h
  ·cases h
 ·rename_i g off
  split at h
  ·rename_i c hc
   split at h
   ·rename_i r' hr
    cases h
    have:=Em s hr
    rw[zN] at this
    simp only[SV.den,xG,hc,this];rfl
   ·cases h
  ·cases h
 ·cases h
theorem ada {t:TypeId} {H:SH} {x y:SV} (h:(Py P t H x y).path Φ s=some r):BB P t (SH.den s H) (x.den s) (y.den s)=some (r.1.den s,r.2.1,sH s r.2.2):=by
  unfold Py at h
  split at h
  · rename_i b off
    split at h
    · cases h
    · rename_i o hno ho
      obtain⟨t0,ht⟩:∃ t0,o.t=some t0:=by
        obtain⟨c,t0⟩:=o
        cases t0 with
        | none=>exact absurd rfl (hno c)
        | some t0=>exact⟨t0,rfl⟩
      split at h
      · rename_i n h1 hn
        split at h
        · rename_i h2 h3
          rw[Ef] at h
          cases h
          have h2:=sU.1 h2;have h3:=Nat.le_of_ble_eq_true h3
          have hl:(tK (y.den s)).length=(cellsS y).length:=by rw[← Gp,zo]
          have ha:(tK (y.den s)).all DW=true:=by
            rw[← Gp,SV.dens_map,List.all_map,List.all_eq_true]
            intro z hz
            exact ac8 (List.all_eq_true.1 h1 z hz)
          simp only[SV.den,BB,SH.den_get ho ht]
          rw[if_pos (by
            simp only[Bool.and_eq_true,decide_eq_true_eq];refine⟨⟨ha,?_⟩,?_⟩
            · rw[hl,hn,h2]
            · rw[hl,zo];exact h3)]
          congr 3
          simp only[sH,List.map_cons,List.map_nil,ht,SO.den,UL,Df,Pv,Pw,Gp,← hl]
        · cases h
      · cases h
    · cases h
  · cases h
theorem adb {t:TypeId} {l:List AV} {f off:Nat} {ft:TypeId} (hf:AJ P t f=some (off,ft)):CO P t f (ww l)=vH P ft l off:=by
 have hc:=JP l
 unfold ww at hc ⊢
 cases h:tX l with
 | none=>simp only[CO,hf,tK]
 | some vs =>
  rw[h] at hc
  simp only[CO,hf]
  rw[hc]
theorem adc {t:TypeId} {f:Nat} {x a:SV} (h:Pz P t f x=some a):CO P t f (x.den s)=some (a.den s):=by
 unfold Pz at h
 split at h
 ·rename_i l
  split at h
  ·rename_i off ft hf
   simp only[SV.den]
   rw[adb hf,Em s h]
  ·cases h
 ·rename_i cs
  split at h
  ·rename_i off ft hf
   have:=Em s h
   rw[zN] at this
   simp only[SV.den,CO,hf,tK,Value.cells]
   exact this
  ·cases h
 ·cases h
theorem ade {t:TypeId} {f:Nat} {x a:SV} (h:PD P t f x=some a):CP P t f (x.den s)=some (a.den s):=by
 unfold PD at h
 unfold CP
 split at h
 ·rename_i off ft hf
  rw[hf]
  simp only
  split at h
  ·rename_i n hs
   rw[hs]
   simp only
   split at h
   ·rw[uk] at h;cases h;rfl
   ·rw[uk] at h;cases h;rfl
   ·cases h
  ·cases h
 ·cases h
theorem adf (hf:sZ s fc) {t:TypeId} {H:ry} {x i:SV} (h:(PG P fc t x i).path Φ s=some r):yP (zm P t H (x.den s) (i.den s))=some (r.1.den s,r.2.1,sH s r.2.2):=by
 unfold PG at h
 split at h
 ·rename_i k n
  split at h
  ·rename_i b o
   split at h
   ·rename_i len el ha
    split at h
    ·rename_i sz hs
     obtain⟨j,h1,h2,h3⟩:=JQ hf h
     rw[uk] at h3;cases h3
     simp only[SV.den,zm,ha,hs,h2]
     rw[if_pos ⟨by omega,by omega⟩];rfl
    ·cases h
   ·cases h
  ·rename_i g o
   split at h
   ·rename_i len el ha
    split at h
    ·rename_i sz hs
     obtain⟨j,h1,h2,h3⟩:=JQ hf h
     rw[uk] at h3;cases h3
     simp only[SV.den,zm,ha,hs,h2]
     rw[if_pos ⟨by omega,by omega⟩];rfl
    ·cases h
   ·cases h
  ·rename_i b o len cap
   split at h
   ·rename_i el ha
    split at h
    ·rename_i sz hs
     obtain⟨j,h1,h2,h3⟩:=JQ hf h
     rw[uk] at h3;cases h3
     simp only[SV.den,zm,ha,hs,h2]
     rw[if_pos ⟨by omega,by omega⟩];rfl
    ·cases h
   ·cases h
  ·cases h
 ·cases h
theorem adg {t:TypeId} {l:List AV} {k:IntKind} {n:Int} {len el sz:Nat} (ha:yx P t=some (len,el)) (hs:tJ P el=some sz) (hn:0≤n∧n<len):CQ P t (ww l) (.v (.int k n))=vH P el l (n.toNat*sz):=by
 have hc:=JP l
 unfold ww at hc ⊢
 cases h:tX l with
 | none=>simp only[CQ,ha,hs,if_pos hn]
 | some vs =>
  rw[h] at hc
  simp only[tK,Value.cells] at hc
  simp only[CQ,ha,hs,if_pos hn]
  rw[hc]
theorem adh (hf:sZ s fc) {t:TypeId} {x i:SV} (h:(PH P fc t x i).path Φ s=some r):wt (CQ P t (x.den s) (i.den s))=some (r.1.den s,r.2.1,sH s r.2.2):=by
 unfold PH at h
 split at h
 ·rename_i k n
  split at h
  ·rename_i l
   split at h
   ·rename_i len el ha
    split at h
    ·rename_i sz hs
     obtain⟨j,h1,h2,h3⟩:=JQ hf h
     obtain⟨a,h4,rfl⟩:=JR h3
     simp only[SV.den]
     rw[adg ha hs (by rw[h2];omega),h2,show((j:Int)).toNat=j by simp,Em s h4];rfl
    ·cases h
   ·cases h
  ·rename_i cs
   split at h
   ·rename_i len el ha
    split at h
    ·rename_i sz hs
     obtain⟨j,h1,h2,h3⟩:=JQ hf h
     obtain⟨a,h4,rfl⟩:=JR h3
     have:=Em s h4
     rw[zN] at this
     simp only[SV.den,CQ,ha,hs,h2]
     rw[if_pos ⟨by omega,by omega⟩,show((j:Int)).toNat=j by simp,this];rfl
    ·cases h
   ·cases h
  ·cases h
 ·cases h
theorem adi {x a:SV} {i:Nat} (h:PI x i=some a):FN (x.den s) i=some (a.den s):=by
 unfold PI at h
 split at h
 ·rename_i vs
  split at h
  ·rename_i v hv
   cases h
   simp only[SV.den,FN,hv,Pq]
  ·cases h
 ·rename_i l
  have:=UK s h
  simp only[SV.den]
  unfold xx
  cases hv:tX (SV.dens s l) with
  | none=>exact this
  | some vs =>
   have h2:=CL (e:=⟨fun _=>0,fun _=>undef⟩) hv
   have h3:SV.dens s l=vs.map .v:=by
    have h4:=JP (SV.dens s l)
    unfold ww at h4;rw[hv] at h4
    simpa [tK,Value.cells] using h4.symm
   rw[h3] at this
   simp only[FN]
   rw[List.getElem?_map] at this
   cases hg:vs[i]? with
   | none=>rw[hg] at this;cases this
   | some v=>rw[hg] at this;simp only[List.getElem?_toArray,List.toList_toArray,hg];exact this
 ·cases h
theorem adj {c:X} {w:String} {b:rf SR} (h:(Gh c (.stuck w) b).path Φ s=some r):c.den s=0∧b.path Φ s=some r:=by
 rw[Pb] at h
 split at h
 ·rename_i hc;exact⟨hc,h⟩
 ·cases h
theorem UM {b:Bool} (h:r9 b=0):b=false:=by cases b<;>first|rfl|cases h
theorem adk {k:IntKind} (hk:k.signed=false) (n:Int):0≤k.wrap n:=by
 unfold IntKind.wrap IntKind.bits;cases k<;>first|(cases hk;done)|(simp[IntKind.signed];omega)
theorem UN (hf:sZ s fc) {w:String} {c:X} {t:rf SR} (h:(Dg fc w c t).path Φ s=some r):c.den s=0∧t.path Φ s=some r:=by
 unfold Dg at h
 split at h
 ·cases h
 ·rename_i hd
  have:=xZ hf hd
  exact⟨by simpa using this,h⟩
 ·exact adj h
theorem adl (hf:sZ s fc) {t:TypeId} {op:BinOp} {k k':IntKind} {a b:X} (h:(PM fc op k k' a b).path Φ s=some r):∃ v,wy P op t (.int k (a.den s)) (.int k' (b.den s))=some v ∧ .v v=r.1.den s∧r.2=([],[]):=by
 have ar:∀ {op':BinOp},(uD (uz op' k a b) fun x=>one (.int k x)).path Φ s=some r→AV.v (.int k (rQ op' k (a.den s) (b.den s)))=r.1.den s∧r.2=([],[]):=fun h=>by
  have h:=zP (zq h);subst h
  exact⟨by simp only[SV.den,C8],rfl⟩
 have cm:∀ {op':BinOp},(uD (uz op' k a b) fun x=>one (.bool x)).path Φ s=some r→AV.v (.bool (rQ op' k (a.den s) (b.den s) != 0))=r.1.den s∧r.2=([],[]):=fun h=>by
  have h:=zP (zq h);subst h
  exact⟨by simp only[SV.den,C8],rfl⟩
 have nn:∀ {op':BinOp},(match X.inK k' b,k'.signed with
   | true,false=>uD (uz op' k a b) fun x=>one (.int k x)
   | _,_=>Dg fc "shift below 0" (uz .lss k' b (.lit (.ofNat 0))) (uD (uz op' k a b) fun x=>one (.int k x))).path Φ s=some r →
   ¬ b.den s<0∧(uD (uz op' k a b) fun x=>one (.int k x)).path Φ s=some r:=fun h=>by
  split at h
  ·rename_i h1 h2
   refine⟨?_,h⟩
   rw[← X.inK_ok s h1];have:=adk h2 (b.den s);omega
  ·obtain⟨h1,h2⟩:=UN hf h
   refine⟨?_,h2⟩
   rw[C8] at h1
   have:=UM h1
   intro hc
   simp only[decide_eq_false_iff_not] at this
   exact this hc
 have nz:∀ {op':BinOp},(Dg fc "by 0" (uz .eql k' b (.lit (.ofNat 0))) (uD (uz op' k a b) fun x=>one (.int k x))).path Φ s=some r →
   b.den s≠0∧(uD (uz op' k a b) fun x=>one (.int k x)).path Φ s=some r:=fun h=>by
  obtain⟨h1,h2⟩:=UN hf h
  refine⟨?_,h2⟩
  rw[C8] at h1
  have:=UM h1
  intro hc;rw[hc] at this;cases this
 cases op<;>simp only[PM] at h
 case shl =>
  obtain⟨h1,h2⟩:=nn h
  exact⟨_,by simp only[wy,if_neg h1];rfl,ar h2⟩
 case shr =>
  obtain⟨h1,h2⟩:=nn h
  exact⟨_,by simp only[wy,if_neg h1];rfl,ar h2⟩
 case quo =>
  split at h
  ·rename_i hk
   have hk:=xz hk
   obtain⟨h1,h2⟩:=nz h
   exact⟨_,by simp only[wy,if_pos (And.intro hk h1)];rfl,ar h2⟩
  ·cases h
 case rem =>
  split at h
  ·rename_i hk
   have hk:=xz hk
   obtain⟨h1,h2⟩:=nz h
   exact⟨_,by simp only[wy,if_pos (And.intro hk h1)];rfl,ar h2⟩
  ·cases h
 all_goals
  split at h
  ·rename_i hk
   have hk:=xz hk
   first
    | exact⟨_,by simp only[wy,if_pos hk,rQ,Ur],ar h⟩
    | exact⟨_,by simp only[wy,if_pos hk,rQ,uB],cm h⟩
  ·cases h
theorem adm (hSE:Ml P SE E) (hf:sZ s fc) {t:TypeId} {op:BinOp} {x y:SV} (h:(PN P SE fc op t x y).path Φ s=some r):wt (CS P E op t (x.den s) (y.den s))=some (r.1.den s,r.2.1,sH s r.2.2):=by
 unfold PN at h
 split at h
 ·rename_i k a k' b
  obtain⟨v,h1,h2,h3⟩:=adl (P:=P) hf (t:=t) h
  simp only[SV.den,CS,h1,wt,h2,h3];rfl
 ·rename_i a b
  split at h
  ·rename_i hu
   split at h
   ·have h:=zP (zq h);subst h
    simp only[SV.den,CS,wy,hu,wt,Uy,uB];rfl
   ·have h:=zP (zq h);subst h
    simp only[SV.den,CS,wy,hu,wt,O7,Uy,uB];rfl
   ·cases h
  ·cases h
 ·rename_i hi hb
  have key:∀ u,SE t x y=some u→∃ a b,x.den s = .v a∧y.den s = .v b∧wy P .eql t a b=none∧wy P .neq t a b=none∧E .eql t a b=some (.bool (u.den s != 0))∧E .neq t a b=some (.bool (!(u.den s != 0))):=fun u hu=>hSE t x y u s hu
  split at h
  ·split at h
   ·rename_i u hu
    have h:=zP (zq h);subst h
    obtain⟨a,b,h1,h2,p1,p2,h3,h4⟩:=key u hu
    simp only[h1,h2,CS,p1,h3,wt,SV.den];rfl
   ·cases h
  ·split at h
   ·rename_i u hu
    have h:=zP (zq h);subst h
    obtain⟨a,b,h1,h2,p1,p2,h3,h4⟩:=key u hu
    simp only[h1,h2,CS,p2,h4,wt,SV.den,O7,uB];rfl
   ·cases h
  ·cases h
theorem adn {op:UnOp} {x:SV} (h:(PO op x).path Φ s=some r):wt (FO op (x.den s))=some (r.1.den s,r.2.1,sH s r.2.2):=by
 unfold PO at h
 split at h
 ·have h:=zP (zq h);subst h
  simp only[SV.den,FO,wt,C8,rQ];rfl
 ·have h:=zP (zq h);subst h
  simp only[SV.den,FO,wt,Ux,JJ,Ur];rfl
 ·have h:=zP (zq h);subst h
  simp only[SV.den,FO,wt,O7,uB];rfl
 ·cases h
theorem ado {src dst:TypeId} {x:SV} (h:(PP P src dst x).path Φ s=some r):wt (LB P src dst (x.den s))=some (r.1.den s,r.2.1,sH s r.2.2):=by
 unfold PP at h
 split at h
 ·split at h
  ·rename_i k d hk hd
   have h:=zP (zq h);subst h
   simp only[SV.den,LB,hk,hd,wt,acV];rfl
  ·cases h
 ·cases h
theorem adp (f:FuncId) (a c:List AV):LC (xy (.func f) a c)=some (xy (.func f) a c):=by unfold xy;split<;>rfl
theorem adq {x:SV} (h:(PQ x).path Φ s=some r):wt (LC (x.den s))=some (r.1.den s,r.2.1,sH s r.2.2):=by
 unfold PQ at h
 split at h
 ·cases h;rfl
 ·cases h;rfl
 ·cases h;rfl
 ·cases h;simp only[SV.den,adp,wt];rfl
 ·cases h
theorem adr {t:TypeId} {H:SH} {x:SV} (h:(sLen P t H x).path Φ s=some r):yP (yA P t (SH.den s H) (x.den s))=some (r.1.den s,r.2.1,sH s r.2.2):=by
 unfold sLen at h
 split at h
 ·rename_i el hu
  split at h
  ·rename_i k
   split at h
   ·rename_i kd x hk
    cases h;simp only[SV.den,yA,hu,SH.den_nat hk rfl rfl rfl];rfl
   ·rename_i c _ hk
    split at h
    ·rename_i ro hm ho
     have h:=zq h
     cases h
     simp only[SV.den,yA,hu,SH.den_ora hk rfl hm ho,yP,Uz,X.den]
     have e:((ro.n.den s).toNat:Int)=if Int.ofNat 0>ro.n.den s then Int.ofNat 0 else ro.n.den s:=by
      show _=if (0:Int)>ro.n.den s then(0:Int) else ro.n.den s
      split<;>omega
     rw[e];rfl
    ·cases h
   ·cases h
  ·cases h;simp only[SV.den,yA,hu];rfl
  ·cases h;simp only[SV.den,yA,hu];rfl
  ·cases h
 ·rename_i hu
  split at h
  ·rw[uk] at h;cases h;simp only[SV.den,yA,hu];rfl
  ·cases h
 ·rename_i n el hu
  cases h;simp only[yA,hu];rfl
 ·cases h
theorem ads {t:TypeId} {H:ry} {x:SV} (h:(PR P t x).path Φ s=some r):yP (BF P t H (x.den s))=some (r.1.den s,r.2.1,sH s r.2.2):=by
 unfold PR at h
 split at h
 ·rename_i n el ha
  split at h
  ·split at h
   ·rename_i hb
    cases h
    simp only[SV.den,BF,ha,if_pos (Nat.le_of_ble_eq_true hb)];rfl
   ·cases h
  ·cases h
 ·cases h
theorem adt {t:TypeId} {k:Nat} {x y:SV} (h:(PS P t k x y).path Φ s=some r):FR P t k (x.den s) (y.den s)=some (r.1.den s,r.2.1,sH s r.2.2):=by
 unfold PS at h
 split at h
 ·rename_i k1 n k2 m
  split at h
  ·rename_i el hel
   split at h
   ·rename_i sz z b hs hz hb
    split at h
    ·rename_i h1 h2 h3 h4
     rw[Ef] at h
     cases h
     have h1:=Nat.le_of_ble_eq_true h1
     have h2:m<16777216:=by simpa [Nat.blt_eq] using h2
     have h3:=Nat.le_of_ble_eq_true h3
     have h4:m*sz≠0:=fun e=>by rw[e] at h4;cases h4
     simp only[SV.den,X.den,FR,hel,hs,hz,hb,Int.ofNat_eq_natCast]
     rw[if_pos ⟨by omega,by omega,by omega,h3,by simpa using h4⟩]
     simp only[sH,List.map_cons,List.map_nil,SO.den,zN,Int.ofNat_eq_natCast,Int.toNat_natCast]
    ·cases h
   ·cases h
  ·cases h
 ·cases h
theorem adu {t:TypeId} {x:SV} (h:(PT P t x).path Φ s=some r):wt (Jv P t (x.den s))=some (r.1.den s,r.2.1,sH s r.2.2):=by
 unfold PT at h
 split at h
 ·rename_i n el ha
  split at h
  ·rename_i b o sz hs
   cases h;simp only[SV.den,Jv,ha,hs];rfl
  ·cases h
 ·cases h
theorem adv {t:TypeId} {len k:Nat} {ps:List (Nat×SV)} (h:(PU P t len k ps).path Φ s=some r):FQ P t len k (Mj s ps)=some (r.1.den s,r.2.1,sH s r.2.2):=by
 unfold PU at h
 split at h
 ·rename_i el hel
  split at h
  ·rename_i sz z hs hz
   split at h
   ·rename_i h1 h2
    split at h
    ·rename_i c hc
     cases h
     have h1:=Nat.le_of_ble_eq_true h1
     have h2:len*sz≠0:=fun e=>by rw[e] at h2;cases h2
     have h3:=PK s hc
     rw[zN] at h3
     simp only[FQ,hel,hs,hz,h3]
     rw[if_pos ⟨h1,h2⟩];rfl
    ·cases h
   ·cases h
  ·cases h
 ·cases h
theorem adw (hSE:Ml P SE E) (hf:sZ s fc) {op:Op} {ρ:Operand→Option SV} {ρ':Operand→Option AV} (hρ:RD s ρ ρ') {H:SH} {k:Nat} (h:(PV P G SE fc op ρ H k).path Φ s=some r) :
  rV P G E op ρ' (SH.den s H) k=some (r.1.den s,r.2.1,sH s r.2.2):=by
 unfold PV at h
 split at h
 ·obtain⟨a,ha,h⟩:=yc h;cases h;simp only[rV,hρ _ _ ha,wt];rfl
 ·obtain⟨a,ha,h⟩:=yc h;cases h;simp only[rV,hρ _ _ ha,wt];rfl
 ·obtain⟨v,hv,h⟩:=yc h
  split at h
  ·rename_i q
   rw[Pb] at h
   have hq:=hρ _ _ hv
   split at h
   ·rename_i hc
    obtain⟨a,ha,h⟩:=yc h;cases h
    simp only[rV,hq,SV.den,hc,bne_self_eq_false,Bool.false_eq_true,if_false,hρ _ _ ha,wt];rfl
   ·rename_i hc
    obtain⟨a,ha,h⟩:=yc h;cases h
    have:(q.den s != 0)=true:=by simpa using hc
    simp only[rV,hq,SV.den,this,if_true,hρ _ _ ha,wt];rfl
  ·cases h
 ·split at h
  ·rename_i z hz
   rw[Ef] at h
   cases h;simp only[rV,hz,SV.den,sH,List.map_cons,List.map_nil,SO.den,zN]
  ·cases h
 ·obtain⟨a,ha,h⟩:=yc h
  rw[Ef] at h
  cases h;simp only[rV,hρ _ _ ha,SV.den,sH,List.map_cons,List.map_nil,SO.den,Gp]
 ·split at h
  ·rename_i l z hl hz
   split at h
   ·rename_i hs
    split at h
    ·rename_i c hc
     cases h
     have h3:=PK s hc
     rw[zN] at h3
     simp only[rV,PL hρ hl,hz,hs,if_true,h3,SV.den];rfl
    ·cases h
   ·cases h
  ·cases h
 ·split at h
  ·rename_i l hl
   simp only[rV,PL hρ hl];exact adv h
  ·cases h
 ·obtain⟨a,ha,h⟩:=yc h;simp only[rV,hρ _ _ ha];exact ac9 h
 ·obtain⟨a,b,ha,hb,h⟩:=Ep h;simp only[rV,hρ _ _ ha,hρ _ _ hb];exact ada h
 ·obtain⟨a,ha,h⟩:=yc h;simp only[rV,hρ _ _ ha];exact adq h
 ·obtain⟨a,b,ha,hb,h⟩:=Ep h;simp only[rV,hρ _ _ ha,hρ _ _ hb];exact adm hSE hf h
 ·obtain⟨a,ha,h⟩:=yc h;simp only[rV,hρ _ _ ha];exact adn h
 ·obtain⟨a,ha,h⟩:=yc h;simp only[rV,hρ _ _ ha];exact ado h
 ·split at h
  ·rename_i x y hx hy
   cases h;simp only[rV,Mk hρ hx,Mk hρ hy,SV.den];rfl
  ·cases h
 ·obtain⟨a,ha,h⟩:=yc h
  obtain⟨b,hb,rfl⟩:=JR h
  simp only[rV,hρ _ _ ha,ade hb,wt];rfl
 ·obtain⟨a,ha,h⟩:=yc h
  obtain⟨b,hb,rfl⟩:=JR h
  simp only[rV,hρ _ _ ha,adc hb,wt];rfl
 ·obtain⟨a,b,ha,hb,h⟩:=Ep h;simp only[rV,hρ _ _ ha,hρ _ _ hb];exact adf hf h
 ·obtain⟨a,b,ha,hb,h⟩:=Ep h;simp only[rV,hρ _ _ ha,hρ _ _ hb];exact adh hf h
 ·obtain⟨a,ha,h⟩:=yc h
  obtain⟨b,hb,rfl⟩:=JR h
  simp only[rV,hρ _ _ ha,adi hb,wt];rfl
 ·split at h
  ·rename_i x t hx ht
   obtain⟨a,ha,h⟩:=yc h
   simp only[rV,hx,ht,hρ _ _ ha];exact adr h
  ·cases h
 ·split at h
  ·rename_i x y hx
   obtain⟨a,b,ha,hb,h⟩:=Ep h
   split at h
   ·have h:=zP (zq h);subst h
    simp only[rV,hx,hρ _ _ ha,hρ _ _ hb,SV.den,acX];rfl
   ·cases h
  ·cases h
 ·split at h
  ·rename_i x y hx
   obtain⟨a,b,ha,hb,h⟩:=Ep h
   split at h
   ·have h:=zP (zq h);subst h
    simp only[rV,hx,hρ _ _ ha,hρ _ _ hb,SV.den,Uz];rfl
   ·cases h
  ·cases h
 ·obtain⟨a,ha,h⟩:=yc h;simp only[rV,hρ _ _ ha];exact ads h
 ·obtain⟨a,b,ha,hb,h⟩:=Ep h;simp only[rV,hρ _ _ ha,hρ _ _ hb];exact adt h
 ·obtain⟨a,ha,h⟩:=yc h;simp only[rV,hρ _ _ ha];exact adu h
 ·cases h
end
open Go.RowKit
mutual
def AV.ren (f:Nat→Nat):AV→AV
 | .v x=>.v x
 | .loc b off=>.loc (f b) off
 | .sl b off len cap=>.sl (f b) off len cap
 | .hd k=>.hd (f k)
 | .ha k off=>.ha (f k) off
 | .fn g a c=>.fn g (AV.rens f a) (AV.rens f c)
 | .tup l=>.tup (AV.rens f l)
 | .agg l=>.agg (AV.rens f l)
def AV.rens (f:Nat→Nat):List AV→List AV
 | []=>[]
 | x::l=>AV.ren f x::AV.rens f l
end
def AO.ren (f:Nat→Nat):AO→AO
 | .own c t=>.own (AV.rens f c) t
 | .rd n c=>.rd n c
 | .mp es=>.mp es
def UO (f:Nat→Nat) (e e':Env) (l:List Nat):Prop:=∀ r∈l,e'.blk (f r)=e.blk r∧e'.hnd (f r)=e.hnd r
mutual
theorem AV.ren_val {f:Nat→Nat} {e e':Env} : ∀ x:AV,UO f e e' x.refs→(x.ren f).val e'=x.val e
 | .v _,_=>rfl
 | .loc b off,h=>by simp only[AV.ren,AV.val];rw[(h b (by simp[AV.refs])).1]
 | .sl b off len cap,h=>by simp only[AV.ren,AV.val];rw[(h b (by simp[AV.refs])).1]
 | .hd k,h=>by simp only[AV.ren,AV.val];rw[(h k (by simp[AV.refs])).2]
 | .ha k off,h=>by simp only[AV.ren,AV.val];rw[(h k (by simp[AV.refs])).2]
 | .fn g a c,h=>by
  simp only[AV.ren,AV.val]
  rw[AV.rens_val a (fun r hr=>h r (by rw[AV.refs];exact List.mem_append_left _ hr)),AV.rens_val c (fun r hr=>h r (by rw[AV.refs];exact List.mem_append_right _ hr))]
 | .tup l,h=>by simp only[AV.ren,AV.val];rw[AV.rens_val l (fun r hr=>h r (by rw[AV.refs];exact hr))]
 | .agg l,h=>by simp only[AV.ren,AV.val];rw[AV.rens_val l (fun r hr=>h r (by rw[AV.refs];exact hr))]
theorem AV.rens_val {f:Nat→Nat} {e e':Env} : ∀ l:List AV,UO f e e' (AV.refss l)→AV.vals e' (AV.rens f l)=AV.vals e l
 | [],_=>rfl
 | x::l,h=>by
  rw[AV.rens,AV.vals,AV.vals,AV.ren_val x (fun r hr=>h r (by rw[AV.refss];exact List.mem_append_left _ hr)),AV.rens_val l (fun r hr=>h r (by rw[AV.refss];exact List.mem_append_right _ hr))]
end
mutual
theorem AV.ren_refs {f:Nat→Nat} : ∀ (x:AV) {r:Nat},r∈(x.ren f).refs→∃ q∈x.refs,r=f q
 | .v _,r,h=>by simp[AV.ren,AV.refs] at h
 | .loc b off,r,h=>by simp[AV.ren,AV.refs] at h;exact⟨b,by simp[AV.refs],h⟩
 | .sl b off len cap,r,h=>by simp[AV.ren,AV.refs] at h;exact⟨b,by simp[AV.refs],h⟩
 | .hd k,r,h=>by simp[AV.ren,AV.refs] at h;exact⟨k,by simp[AV.refs],h⟩
 | .ha k off,r,h=>by simp[AV.ren,AV.refs] at h;exact⟨k,by simp[AV.refs],h⟩
 | .fn g a c,r,h=>by
  simp only[AV.ren,AV.refs,List.mem_append] at h
  rcases h with h|h
  ·obtain⟨q,hq,e⟩:=AV.rens_refs a h;exact⟨q,by rw[AV.refs];exact List.mem_append_left _ hq,e⟩
  ·obtain⟨q,hq,e⟩:=AV.rens_refs c h;exact⟨q,by rw[AV.refs];exact List.mem_append_right _ hq,e⟩
 | .tup l,r,h=>by
  simp only[AV.ren,AV.refs] at h
  obtain⟨q,hq,e⟩:=AV.rens_refs l h;exact⟨q,by rw[AV.refs];exact hq,e⟩
 | .agg l,r,h=>by
  simp only[AV.ren,AV.refs] at h
  obtain⟨q,hq,e⟩:=AV.rens_refs l h;exact⟨q,by rw[AV.refs];exact hq,e⟩
theorem AV.rens_refs {f:Nat→Nat} : ∀ (l:List AV) {r:Nat},r∈AV.refss (AV.rens f l)→∃ q∈AV.refss l,r=f q
 | [],r,h=>by simp[AV.rens,AV.refss] at h
 | x::l,r,h=>by
  simp only[AV.rens,AV.refss,List.mem_append] at h
  rcases h with h|h
  ·obtain⟨q,hq,e⟩:=AV.ren_refs x h;exact⟨q,by rw[AV.refss];exact List.mem_append_left _ hq,e⟩
  ·obtain⟨q,hq,e⟩:=AV.rens_refs l h;exact⟨q,by rw[AV.refss];exact List.mem_append_right _ hq,e⟩
end
def vO (src:Nat→Option Nat) (e e2:Env):Env:=⟨fun j=>match src j with|some n=>e2.blk n|none=>e.blk j,fun j=>match src j with|some n=>e2.hnd n|none=>e.hnd j⟩
theorem zQ {src:Nat→Option Nat} {e e2:Env} {j n:Nat} (h:src j=some n):(vO src e e2).blk j=e2.blk n∧(vO src e e2).hnd j=e2.hnd n:=by
 unfold vO;simp only[h];exact⟨trivial,trivial⟩
theorem zt {src:Nat→Option Nat} {e e2:Env} {j:Nat} (h:src j=none):(vO src e e2).blk j=e.blk j∧(vO src e e2).hnd j=e.hnd j:=by
 unfold vO;simp only[h];exact⟨trivial,trivial⟩
theorem adx {G:rP} {w0:World} {B0:sG} {e:Env} {H':ry} {w:World} (R:rU G w0 B0 e H' w) {keys:List Nat} {B:sG} (hBd:B.dom=keys) (hBb:∀ b∈B.blks,∃ j∈keys,b=e.blk j) (hBe:B.env=e)
  {e2:Env} {Hc:ry} {w':World} (R2:rU G w B e2 Hc w') (hown:∀ j∈keys,∃ c t,H' j=some (.own c t)) {src:Nat→Option Nat} {f:Nat→Nat}
  (h1:∀ j n,src j=some n→f n=j∧∃ c t,Hc n=some (.own c t)∧∀ r∈AV.refss c,src (f r)=some r)
  (h2:∀ j∈keys,src j=some j) (h3:∀ j,j∉keys→src j≠none→H' j=none) {Hn:ry} (hn:∀ j,Hn j=match src j with|some n=>(Hc n).map (AO.ren f)|none=>H' j) :
  rU G w0 B0 (vO src e e2) Hn w'∧Env.on H' e (vO src e e2)∧∀ j,H' j≠none→Hn j≠none:=by
 have hK:∀ j∈keys,e2.blk j=e.blk j∧e2.hnd j=e.hnd j:=fun j hj=>by
  have:=(R2.env j (by rw[hBd];exact hj)).2;rw[hBe] at this;exact this
 have hon:Env.on H' e (vO src e e2):=by
  intro j hj
  cases hs:src j with
  | none=>exact zt hs
  | some n =>
   rw[(zQ hs).1,(zQ hs).2]
   by_cases hm:j∈keys
   ·have:=h2 j hm;rw[hs] at this;cases this;exact hK j hm
   ·exact absurd (h3 j hm (by rw[hs];simp)) hj
 have hdom:∀ j,H' j≠none→Hn j≠none:=by
  intro j hj
  rw[hn]
  cases hs:src j with
  | none=>exact hj
  | some n =>
   obtain⟨_,c,t,hc,_⟩:=h1 j n hs
   simp[hc]
 have hbk:∀ n j,src j=some n→e2.blk n<w.heap.size→∃ i∈keys,e2.blk n=e.blk i:=by
  intro n j hs hlt
  obtain⟨_,c,t,hc,_⟩:=h1 j n hs
  rcases R2.ge n c t hc with hg|hg
  ·omega
  ·exact hBb _ hg
 have hold:∀ b,b<w.heap.size→(∀ i∈keys,b≠e.blk i)→w'.heap[b]? = w.heap[b]?:=fun b hb hne=>R2.old b hb (fun hm=>by
  obtain⟨i,hi,rfl⟩:=hBb b hm;exact hne i hi rfl)
 have hnone:∀ j o,Hn j=some o→src j=none→H' j=some o:=fun j o hj hs=>by rw[hn,hs] at hj;exact hj
 have hsome:∀ j n o,Hn j=some o→src j=some n→∃ c t,Hc n=some (.own c t)∧o = .own (AV.rens f c) t∧∀ r∈AV.refss c,src (f r)=some r:=fun j n o hj hs=>by
  obtain⟨_,c,t,hc,hr⟩:=h1 j n hs
  rw[hn,hs] at hj
  simp only[hc,Option.map_some,AO.ren,Option.some.injEq] at hj
  exact⟨c,t,hc,hj.symm,hr⟩
 refine⟨⟨R2.os.trans R.os,R2.tape.trans R.tape,R2.output.trans R.output,Nat.le_trans R.size R2.size,?_,R2.gl,?_,?_,?_,?_,?_,?_,?_,?_,fun j n l hj b hv=>by
  cases hs:src j with
  | some m=>obtain⟨c0,t0,hc,ho,hr⟩:=hsome j m _ hj hs;cases ho
  | none=>rw[(zt hs).2] at hv;exact R.new j n l (hnone j _ hj hs) b hv,fun j es hj=>by
  cases hs:src j with
  | some m=>obtain⟨c0,t0,hc,ho,hr⟩:=hsome j m _ hj hs;cases ho
  | none =>
   have h0:=hnone j _ hj hs
   obtain⟨m1,m2⟩:=R.mp j es h0
   rw[(zt hs).2]
   refine⟨m1.same (fun b hv hb=>hold b hb (fun i hi he=>?_)),fun j' c t hj' hv=>?_⟩
   ·obtain⟨c',t',hi'⟩:=hown i hi
    exact m2 i c' t' hi' (by rw[hv,he])
   ·cases hs':src j' with
    | none =>
     rw[(zt hs').1] at hv
     exact m2 j' c t (hnone j' _ hj' hs') hv
    | some m =>
     rw[(zQ hs').1] at hv
     obtain⟨i,hi,he⟩:=hbk m j' hs' (m1.lt hv)
     obtain⟨c',t',hi'⟩:=hown i hi
     exact m2 i c' t' hi' (by rw[hv,he])⟩,hon,hdom⟩
 ·intro b hb hb0
  rw[← R.old b hb hb0]
  refine hold b (Nat.lt_of_lt_of_le hb R.size) (fun i hi he=>?_)
  obtain⟨c,t,hc⟩:=hown i hi
  rcases R.ge i c t hc with hg|hg
  ·omega
  ·rw[he] at hb0;exact hb0 hg
 ·intro j c t hj
  cases hs:src j with
  | some n =>
   obtain⟨c0,t0,hc,ho,hr⟩:=hsome j n _ hj hs
   cases ho
   rw[(zQ hs).1,AV.rens_val c0 (fun r hrm=>zQ (hr r hrm))]
   exact R2.own n c0 t hc
  | none =>
   have h0:=hnone j _ hj hs
   rw[(zt hs).1,AV.vals_on hon c (fun r hr=>R.refs j _ h0 r hr),hold (e.blk j) (R.lt h0) (fun i hi he=>?_)]
   ·exact R.own j c t h0
   ·obtain⟨c',t',hi'⟩:=hown i hi
    have:=R.inj j c t i c' t' h0 hi' he
    rw[this,h2 i hi] at hs;cases hs
 ·intro j c t hj
  cases hs:src j with
  | some n =>
   obtain⟨c0,t0,hc,ho,hr⟩:=hsome j n _ hj hs
   rw[(zQ hs).1]
   rcases R2.ge n c0 t0 hc with hg|hg
   ·exact .inl (Nat.le_trans R.size hg)
   ·obtain⟨i,hi,he⟩:=hBb _ hg
    obtain⟨c',t',hi'⟩:=hown i hi
    rw[he];exact R.ge i c' t' hi'
  | none=>rw[(zt hs).1];exact R.ge j c t (hnone j _ hj hs)
 ·intro j c t hj x hx
  cases hs:src j with
  | some n =>
   obtain⟨c0,t0,hc,ho,hr⟩:=hsome j n _ hj hs
   rw[(zQ hs).1];exact R2.glo n c0 t0 hc x hx
  | none=>rw[(zt hs).1];exact R.glo j c t (hnone j _ hj hs) x hx
 ·have mix:∀ j n j',src j=some n→src j'=none→(∃ c t,H' j'=some (.own c t))→e2.blk n≠e.blk j':=by
   intro j n j' hs hs' ⟨c,t,hj'⟩ he
   obtain⟨i,hi,h⟩:=hbk n j hs (by rw[he];exact R.lt hj')
   obtain⟨c',t',hi'⟩:=hown i hi
   have:=R.inj i c' t' j' c t hi' hj' (by rw[← h,he])
   rw[← this,h2 i hi] at hs';cases hs'
  intro j c t j' c' t' hj hj' he
  cases hs:src j with
  | some n =>
   obtain⟨c0,t0,hc,ho,hr⟩:=hsome j n _ hj hs
   rw[(zQ hs).1] at he
   cases hs':src j' with
   | some n' =>
    obtain⟨c0',t0',hc',ho',hr'⟩:=hsome j' n' _ hj' hs'
    rw[(zQ hs').1] at he
    have:=R2.inj n c0 t0 n' c0' t0' hc hc' he
    rw[← (h1 j n hs).1,← (h1 j' n' hs').1,this]
   | none =>
    rw[(zt hs').1] at he
    exact absurd he (mix j n j' hs hs' ⟨c',t',hnone j' _ hj' hs'⟩)
  | none =>
   rw[(zt hs).1] at he
   cases hs':src j' with
   | some n' =>
    rw[(zQ hs').1] at he
    exact absurd he.symm (mix j' n' j hs' hs ⟨c,t,hnone j _ hj hs⟩)
   | none =>
    rw[(zt hs').1] at he
    exact R.inj j c t j' c' t' (hnone j _ hj hs) (hnone j' _ hj' hs') he
 ·intro j n l hj
  cases hs:src j with
  | some m=>obtain⟨c0,t0,hc,ho,hr⟩:=hsome j m _ hj hs;cases ho
  | none =>
   have h0:=hnone j _ hj hs
   rw[(zt hs).2]
   refine(R.rd j n l h0).same R2.size (fun b hv hb=>hold b hb (fun i hi he=>?_))
   obtain⟨c',t',hi'⟩:=hown i hi
   exact R.apart j n l i c' t' h0 hi' (by rw[hv,he])
 ·intro j n l j' c t hj hj' hv
  cases hs:src j with
  | some m=>obtain⟨c0,t0,hc,ho,hr⟩:=hsome j m _ hj hs;cases ho
  | none =>
   have h0:=hnone j _ hj hs
   rw[(zt hs).2] at hv
   cases hs':src j' with
   | none =>
    rw[(zt hs').1] at hv
    exact R.apart j n l j' c t h0 (hnone j' _ hj' hs') hv
   | some m =>
    rw[(zQ hs').1] at hv
    obtain⟨i,hi,he⟩:=hbk m j' hs' ((R.rd j n l h0).lt hv)
    obtain⟨c',t',hi'⟩:=hown i hi
    exact R.apart j n l i c' t' h0 hi' (by rw[hv,he])
 ·intro j o hj r hr
  cases hs:src j with
  | some n =>
   obtain⟨c0,t0,hc,ho,hrf⟩:=hsome j n _ hj hs
   subst ho
   obtain⟨q,hq,rfl⟩:=AV.rens_refs c0 hr
   have hsq:=hrf q hq
   obtain⟨_,c,t,hc',_⟩:=h1 _ _ hsq
   rw[hn,hsq];simp[hc']
  | none=>exact hdom r (R.refs j o (hnone j _ hj hs) r hr)
 ·intro j hj
  obtain⟨h0,hb⟩:=R.env j hj
  exact⟨hdom j h0,by rw[(hon j h0).1];exact hb.1,by rw[(hon j h0).2];exact hb.2⟩
theorem ady {P : Program} {G : rP} (E : tC) {w0 : World} {B0 : sG} {g : FuncId} {fn : Func} {c : Code} {args : List AV} {H H1 Hc : ry} {k : Nat} {r : AV} {ef : List (Nat × AO)} (keys : List Nat) (N1 : Nat) (src : Nat → Option Nat) (f : Nat → Nat)
    (hf : P.funcs[g]? = some fn) (hb : fn.body = some c) (hn : (fn.name == "runtime.NumGoroutine") = false) (hl : (Nat.ble args.length fn.ntmps) = true)
    (hH1 : ∀ j o, H1 j = some o → j ∈ keys) (hH1' : ∀ j ∈ keys, H1 j = H j ∧ (∃ c t, H j = some (.own c t)) ∧ j < N1) (hcl : ∀ j c t, H1 j = some (.own c t) → ∀ r ∈ AV.refss c, r ∈ keys) (href : ∀ x ∈ args, ∀ j ∈ x.refs, j ∈ keys)
    (h1 : ∀ j n, src j = some n → f n = j ∧ ∃ c t, Hc n = some (.own c t) ∧ ∀ r ∈ AV.refss c, src (f r) = some r)
    (h2 : ∀ j ∈ keys, src j = some j) (h3 : ∀ j n, src j = some n → j ∈ keys ∨ j = k ∨ j = k + 1) (hr : ∀ j ∈ r.refs, src (f j) = some j)
    (hef : ∀ H' : ry, (∀ b ∈ keys, H' b = H b) → ∀ j, (H'.puts ef) j = match src j with | some n => (Hc n).map (AO.ren f) | none => H' j)
    (h : ∀ w1 B, AW ⟨P, G, E, w1, B, fn.ntmps⟩ c (OX P G fn (fun r' Hx => r' = r ∧ Hx = Hc)) N1 (BJ args fn.ntmps) H1) :
    DZ P G w0 B0 g args H keys k (r.ren f) ef := by
  intro H' e w hag hk0 hk1 hrefs R
  have hkeys : ∀ j ∈ keys, ∃ c t, H' j = some (.own c t) := fun j hj => by rw [hag j hj]; exact (hH1' j hj).2.1
  have hsub : ∀ j o, H1 j = some o → H' j = some o := fun j o hj => by have hm := hH1 j o hj; rw [hag j hm, ← (hH1' j hm).1]; exact hj
  let B : sG := ⟨keys.map e.blk, keys, e⟩
  have R1 : rU G w B e H1 w := by
    refine ⟨rfl, rfl, rfl, Nat.le_refl _, fun _ _ _ => rfl, R.gl, fun j c t hj => R.own j c t (hsub _ _ hj), fun j c t hj => .inr (List.mem_map.2 ⟨j, hH1 j _ hj, rfl⟩), fun j c t hj => R.glo j c t (hsub _ _ hj),
      fun j c t j' c' t' hj hj' => R.inj j c t j' c' t' (hsub _ _ hj) (hsub _ _ hj'), fun j n l hj => R.rd j n l (hsub _ _ hj), fun j n l j' c t hj hj' => R.apart j n l j' c t (hsub _ _ hj) (hsub _ _ hj'), ?_, ?_, fun j n l hj b hv => .inr ⟨j, hH1 j _ hj, hv⟩, fun j es hj => ⟨(R.mp j es (hsub _ _ hj)).1, fun j' c t hj' => (R.mp j es (hsub _ _ hj)).2 j' c t (hsub _ _ hj')⟩⟩
    · intro j o hj i hi
      obtain ⟨hj1, ⟨c, t, hc⟩, _⟩ := hH1' j (hH1 j o hj)
      rw [← hj1, hj] at hc
      cases hc
      have hm := hcl j c t hj i hi
      obtain ⟨h5, ⟨c', t', hc'⟩, _⟩ := hH1' i hm
      rw [h5, hc']; simp
    · intro j hj
      obtain ⟨h5, ⟨c', t', hc'⟩, _⟩ := hH1' j hj
      exact ⟨by rw [h5, hc']; simp, rfl, rfl⟩
  have hB1 : yQ H1 N1 := by
    intro b hb
    cases hv : H1 b with
    | none => rfl
    | some o => have := (hH1' b (hH1 b o hv)).2.2; omega
  have hcall := OY (E := E) hf hb (by simpa using hl) R1 hB1 (fun x hx j hj => by
    obtain ⟨h5, ⟨c', t', hc'⟩, _⟩ := hH1' j (href x hx j hj); rw [h5, hc']; simp) (h w B)
  refine CY hf hn (by rw [hb]; rfl) (hcall.mono ?_)
  rintro en w' ⟨r', e2, Hx, rfl, ⟨rfl, rfl⟩, R2⟩
  have hput := hef H' hag
  obtain ⟨R3, hon, hdom⟩ := adx R (keys := keys) (B := B) rfl (fun b hb => by obtain ⟨j, hj, rfl⟩ := List.mem_map.1 hb; exact ⟨j, hj, rfl⟩) rfl R2 hkeys h1 h2 (fun j hj hs => by
    cases hsj : src j with
    | none => exact absurd hsj hs
    | some n => rcases h3 j n hsj with h6 | h6 | h6
                · exact absurd h6 hj
                · rw [h6]; exact hk0
                · rw [h6]; exact hk1) hput
  refine ⟨vO src e e2, ?_, R3, hon, fun j hj => ?_⟩
  · rw [AV.ren_val r' (fun j hj => zQ (hr j hj))]
  · obtain ⟨q, hq, rfl⟩ := AV.ren_refs r' hj
    have hs := hr q hq
    obtain ⟨_, c, t, hc, _⟩ := h1 _ _ hs
    rw [hput, hs]; simp [hc]
open Go.RowKit
inductive Sh where
 | sc (k:VK)
 | agg (l:List VK)
structure Ct where
 a:List Sh
 r:List Sh
structure vP where
 id:Nat
 a:List Sh
 n:Nat
 t:TypeId
 ks:List VK
 r:List Sh
structure sW where
 P:Program
 G:rP
 SE:Gu
 ct:FuncId→Option Ct
 Φ:uI
 nt:FuncId→Option Ct
 sl:FuncId→List vP
def Ag (k:VK) (x:SV):Option X:=match k,x with
 | .int k,.int k' a=>match vM k k',X.inK k a with|true,true=>some a|_,_=>none
 | .bool,.bool a=>some a
 | .bit,.int k' a=>match vM .u64 k',X.isBit a with|true,true=>some a|_,_=>none
 | _,_=>none
def Er:List VK→List SV→Option (List X)
 | [],[]=>some []
 | k::ks,x::xs=>match Ag k x,Er ks xs with|some a,some l=>some (a::l)|_,_=>none
 | _,_=>none
def PW (h:Sh) (x:SV):Option (List X):=match h,x with
 | .sc k,x=>match Ag k x with|some a=>some [a]|none=>none
 | .agg l,.agg xs=>Er l xs
 | .agg l,.v (.agg cs)=>Er l (cs.toList.map xA)
 | _,_=>none
def wW:List Sh→List SV→Option (List X)
 | [],[]=>some []
 | h::hs,x::xs=>match PW h x,wW hs xs with|some a,some l=>some (a++l)|_,_=>none
 | _,_=>none
def Ah (k:VK) (x:X):SV:=match k with | .int k=>.int k x | .bool=>.bool x | .bit=>.int .u64 x | .nat=>.int .u64 x
def zR:List VK→List X→List SV
 | k::ks,x::xs=>Ah k x::zR ks xs
 | _,_=>[]
def Sh.kinds:Sh→List VK
 | .sc k=>[k]
 | .agg l=>l
def PX (h:Sh) (xs:List X):SV:=match h with
 | .sc k=>match xs with|x::_=>Ah k x | []=>.v undef
 | .agg l=>.agg (zR l xs)
def rO:List Sh→List X→List SV
 | [],_=>[]
 | h::hs,xs=>PX h xs::rO hs (xs.drop h.kinds.length)
def tO:List SV→SV
 | [x]=>x
 | l=>.tup l
def ru (l:List Sh):List VK:=l.flatMap Sh.kinds
def rM:Nat→List VK→List X
 | _,[]=>[]
 | b,k::ks=>.var k b::rM (Nat.succ b) ks
def Gv (k:VK) (n:Int):Int:=match k with | .int k=>uN k n | .bool=>r9 (sO n) | .bit=>r9 (sO n) | .nat=>Int.ofNat n.toNat
def JS {β:Sort _} : List VK→List Int→(List X→β)→β
 | k::ks,n::ns,K=>Ed (Gv k n) fun n=>JS ks ns fun l=>K (.lit n::l)
 | _,_,K=>K []
def JU:List X→Option (List Int)
 | []=>some []
 | .lit n::l=>match JU l with|some r=>some (n::r)|none=>none
 | _::_=>none
mutual
def SV.refs:SV→List Nat
 | .v _=>[]
 | .int _ _=>[]
 | .bool _=>[]
 | .loc b _=>[b]
 | .hd k=>[k]
 | .ha k _=>[k]
 | .sl b _ _ _=>[b]
 | .fn _ a c=>SV.refss a++SV.refss c
 | .tup l=>SV.refss l
 | .agg l=>SV.refss l
def SV.refss:List SV→List Nat
 | []=>[]
 | x::l=>SV.refs x++SV.refss l
end
def Gx (H:SH):Nat→List Nat→SH→Option SH
 | 0,_,_=>none
 | _+1,[],acc=>some acc
 | f+1,b::todo,acc=>match hget acc b with
  | some _=>Gx H f todo acc
  | none=>match hget H b with
   | none=>none
   | some o=>Gx H f (SV.refss o.c++todo) ((b,o)::acc)
def reach (H:SH) (l:List Nat):Option SH:=match l with | []=>some []|l=>Gx H 2000 l []
def tQ (n:Nat):List Nat→Bool
 | []=>false
 | x::l=>match Nat.beq x n with|true=>true|false=>tQ n l
def addN (n:Nat) (l:List Nat):List Nat:=match tQ n l with|true=>l|false=>n::l
mutual
def SV.ren (f:Nat→Nat):SV→SV
 | .v x=>.v x
 | .int k x=>.int k x
 | .bool x=>.bool x
 | .loc b o=>.loc (f b) o
 | .hd k=>.hd (f k)
 | .ha k off=>.ha (f k) off
 | .sl b o l c=>.sl (f b) o l c
 | .fn g a c=>.fn g (SV.rens f a) (SV.rens f c)
 | .tup l=>.tup (SV.rens f l)
 | .agg l=>.agg (SV.rens f l)
def SV.rens (f:Nat→Nat):List SV→List SV
 | []=>[]
 | x::l=>SV.ren f x::SV.rens f l
end
def uJ (m:List (Nat×Nat)) (n:Nat):Nat:=match m with
 | []=>n
 | x::l=>match Nat.beq x.1 n with|true=>x.2|false=>uJ l n
structure St where
 N:Nat
 T:rR
 H:SH
 nv:Nat
 dt:List Nat
 fc:Facts
abbrev JV:=List (Nat×List Nat×Bool)
def BU {β:Sort _} (T:rR) (d:Option Tmp) (x:SV) (K:rR→β):β:=match d with|none=>K T|some d=>Mi T d x K
def PY {β:Type} (ops:Array Oper) (T:rR) (o:Oper) (fc:Facts) (K:Bool→Facts→rf β):rf β:=match o.guard with
 | none=>K true fc
 | some (j,want)=>match (ops[j]?).bind (·.dst) with
  | none=>K false fc
  | some d=>match uX T d with
   | some (.bool x)=>Ae fc x fun b fc=>K (match b with|true=>want|false=>zI want) fc
   | some (.v (.tuple _))=>K false fc
   | _=>.stuck "guard"
def PZ:SV→Option (FuncId×List SV×List SV)
 | .v (.func (.func g) a c)=>some (g,a.toList.map BP,c.toList.map BP)
 | .fn (.func g) a c=>some (g,a,c)
 | _=>none
def P5 (op:Op) (ρ:Operand→Option SV):Option (Option (FuncId×List SV)):=match op with
 | .call { callee:=.value f,args:=xs,argTypes:=_ }=>match ρ f with
  | some fv=>match PZ fv,Eo ρ xs.toList with
   | some (g,a,c),some bs=>some (some (g,a++bs++c))
   | _,_=>some none
  | none=>some none
 | _=>none
structure CR where
 r:SV
 tc:List Nat
 ef:List (Nat×SO)
 nv:Nat
 fc:Facts
abbrev CF:=FuncId→List SV→SH→Nat→Nat→Facts→rf CR
def P6 (op:Op) (ρ:Operand→Option SV):Option (X×Option SV×Option SV):=match op with
 | .pick c a b=>match ρ c with
  | some (.bool q)=>some (q,ρ a,ρ b)
  | _=>none
 | _=>none
structure UQ where
 k:Nat
 kd:IntKind
 n:X
 es:List (Value×Value)
 z:Value
 q:Bool
def JW (kd:IntKind):List (Value×Value)→Bool
 | []=>true
 | x::l=>match x.1 with
  | .int k' _=>match vM kd k' with|true=>JW kd l|false=>false
  | _=>false
def P7 (P:Program) (op:Op) (ρ:Operand→Option SV) (H:SH):Option UQ:=match op with
 | .lookup t x i q=>match ρ x,ρ i with
  | some (.hd k),some (.int kd n)=>match hget H k with
   | some o=>match o.t,yI o.c with
    | none,some es=>match P.underlying t with
     | some (.map kt et)=>match FK P kt,Oh P et with
      | some kd',some z=>match vM kd' kd,JW kd es with
       | true,true=>some ⟨k,kd,n,es,z,q⟩
       | _,_=>none
      | _,_=>none
     | _=>none
    | _,_=>none
   | none=>none
  | _,_=>none
 | _=>none
def JX (q:Bool) (v:Value) (b:Bool):SV:=match q with
 | true=>.tup [BP v,.bool (.lit (r9 b))]
 | false=>BP v
def Mm {β:Type} (kd:IntKind) (n:X) (q:Bool) (z:Value) (K:SV→Facts→rf β):List (Value×Value)→Facts→rf β
 | [],fc=>K (JX q z false) fc
 | x::l,fc=>match x.1 with
  | .int _ m=>Ae fc (uz .eql kd n (.lit m)) fun b fc=>match b with
   | true=>K (JX q x.2 true) fc
   | false=>Mm kd n q z K l fc
  | _=>.stuck "key"
structure UR where
 k:Nat
 c:X
 r:SV
def Mo (H:SH) (k:Nat):Option JO:=match hget H k with
 | some o=>match o.t,yI o.c,yU o.c with
  | none,none,some r=>some r
  | _,_,_=>none
 | none=>none
def JY (k:VK) (x:X):SV:=match k with | .int k=>.int k x | .bool=>.bool x | .bit=>.int .u64 x | .nat=>.int .u64 x
def Mq:List VK→List X→List SV
 | k::ks,x::xs=>JY k x::Mq ks xs
 | _,_=>[]
def Mr:Nat→List VK→List X
 | _,[]=>[]
 | b,k::ks=>.var k b::Mr (Nat.succ b) ks
def P8 (P:Program) (op:Op) (ρ:Operand→Option SV) (H:SH):Option UR:=match op with
 | .indexAddr t x i=>match ρ x,ρ i with
  | some (.hd k),some (.int _ (.lit (.ofNat j)))=>match Mo H k,AL P t with
   | some r,some el=>match tJ P el with
    | some sz=>match Nat.beq sz r.ks.length with
     | true=>uC (j*sz) fun off=>some ⟨k,uz .lss .i64 (.lit (.ofNat j)) r.n,.ha k off⟩
     | false=>none
    | none=>none
   | _,_=>none
  | _,_=>none
 | .load t x=>match ρ x with
  | some (.ha k off)=>match Mo H k with
   | some r=>uC (off/r.ks.length) fun j=>match Nat.beq (j*r.ks.length) off,CK P t with
    | true,some true=>match tJ P t with
     | some sz=>match Nat.beq sz r.ks.length,Nat.ble 1 sz with
      | true,true=>uC (r.b+off) fun b=>some ⟨k,uz .lss .i64 (.lit (.ofNat j)) r.n,.agg (Mq r.ks (Mr b r.ks))⟩
      | _,_=>none
     | none=>none
    | true,some false=>match r.ks with
     | [vk]=>uC (r.b+off) fun b=>some ⟨k,uz .lss .i64 (.lit (.ofNat j)) r.n,JY vk (.var vk b)⟩
     | _=>none
    | _,_=>none
   | none=>none
  | _=>none
 | _=>none
def Bc:List (Nat×SO)→List Nat→List Nat
 | [],l=>l
 | x::ef,l=>Bc ef (addN x.1 l)
def Ms (tc:List Nat):List (Nat×SO)→Bool
 | []=>false
 | x::ef=>match tQ x.1 tc with|true=>true|false=>Ms tc ef
def BV (i:Nat) (tc:List Nat) (ef:List (Nat×SO)) (tr:JV):JV:=match tc with | []=>tr|tc=>(i,tc,Ms tc ef)::tr
structure OR where
 T:rR
 H:SH
 tr:JV
 nv:Nat
 dt:List Nat
 fc:Facts
def zu (C:sW) (cf:CF) (ops:Array Oper) (Nb:Nat):Nat→List Oper→rR→SH→JV→Nat→List Nat→Facts→rf OR
 | _,[],T,H,tr,nv,dt,fc=>.leaf ⟨T,H,tr,nv,dt,fc⟩
 | i,o::os,T,H,tr,nv,dt,fc=>PY ops T o fc fun want fc=>match want with
  | false=>BU T o.dst (.v undef) fun T=>zu C cf ops Nb (Nat.succ i) os T H tr nv dt fc
  | true=>match P5 o.op (zO T) with
   | some none=>.stuck "call: operands"
   | some (some (g,args))=>uC (Nb+2*i) fun k=>(cf g args H k nv fc).bind fun r =>
     BU T o.dst r.r fun T=>Bb H r.ef fun H=>zu C cf ops Nb (Nat.succ i) os T H (BV i r.tc r.ef tr) r.nv (Bc r.ef dt) r.fc
   | none=>match P6 o.op (zO T) with
    | some (q,x,y)=>Ae fc q fun b fc=>match (match b with|true=>x|false=>y) with
     | some r=>BU T o.dst r fun T=>zu C cf ops Nb (Nat.succ i) os T H tr nv dt fc
     | none=>.stuck "pick"
    | none=>match P7 C.P o.op (zO T) H with
     | some L=>Mm L.kd L.n L.q L.z (fun r fc=>BU T o.dst r fun T=>zu C cf ops Nb (Nat.succ i) os T H (BV i [L.k] [] tr) nv dt fc) L.es fc
     | none=>match P8 C.P o.op (zO T) H with
      | some L=>Ae fc L.c fun b fc=>match b with
       | true=>BU T o.dst L.r fun T=>zu C cf ops Nb (Nat.succ i) os T H (BV i [L.k] [] tr) nv dt fc
       | false=>.stuck "index: beyond"
      | none=>uC (Nb+2*i) fun k=>(PV C.P C.G C.SE fc o.op (zO T) H k).bind fun r =>
       BU T o.dst r.1 fun T=>Bb H r.2.2 fun H=>zu C cf ops Nb (Nat.succ i) os T H (BV i r.2.1 r.2.2 tr) nv (Bc r.2.2 dt) fc
def vQ (P:Program) (T:rR) (H:SH):List ResultVar→Option (List SV)
 | []=>some []
 | .tmp t::l=>match uX T t,vQ P T H l with
  | some x,some r=>some (x::r)
  | _,_=>none
 | .cell a t::l=>match uX T a with
  | some (.loc b o)=>match hget H b with
   | some ob=>match ob.t with
    | some _=>match BS P t ob.c o,vQ P T H l with
     | some x,some r=>some (x::r)
     | _,_=>none
    | none=>none
   | none=>none
  | _=>none
def uY:List SV→Nat→rR
 | [],0=>[]
 | [],n+1=>some (.v undef)::uY [] n
 | _::_,0=>[]
 | x::l,n+1=>some x::uY l n
def Es:SH→Bool
 | []=>true
 | x::l=>match x.2.t with|some _=>Es l|none=>false
def JZ (k:Nat) (objs:SH):SH→Option (List Nat)
 | []=>some []
 | x::l=>match JZ k objs l with
  | none=>none
  | some r=>match Nat.ble k x.1 with
   | true=>some (x.1::r)
   | false=>match hget objs x.1 with|some _=>some r|none=>none
def Mt (k:Nat):List Nat→Option (List (Nat×Nat))
 | []=>some []
 | [n1]=>some [(n1,k)]
 | [n1,n2]=>match Nat.beq n1 n2 with|true=>none|false=>some [(n1,k),(n2,k+1)]
 | _=>none
def yJ (dt:List Nat):SH→List Nat
 | []=>[]
 | x::l=>match tQ x.1 dt with|true=>x.1::yJ dt l|false=>yJ dt l
def J6 (k:Nat):SH→Bool
 | []=>true
 | x::l=>match Nat.blt x.1 k with|true=>J6 k l|false=>false
def keysOf:SH→List Nat
 | []=>[]
 | x::l=>x.1::keysOf l
def Bd (f:Nat→Nat) (H:SH):List Nat→List (Nat×SO)
 | []=>[]
 | b::l=>match hget H b with|some o=>(b,⟨SV.rens f o.c,o.t⟩)::Bd f H l|none=>Bd f H l
def Ai (f:Nat→Nat) (H:SH):List Nat→List (Nat×SO)
 | []=>[]
 | b::l=>match hget H b with|some o=>(f b,⟨SV.rens f o.c,o.t⟩)::Ai f H l|none=>Ai f H l
def Mv (P:Program) (fn:Func) (objs:SH) (k:Nat) (s:St):rf CR :=
 match vQ P s.T s.H fn.results.toList with
 | none=>.stuck "results"
 | some rs=>match reach s.H (SV.refss rs++yJ s.dt objs) with
   | none=>.stuck "reach behind a call"
   | some R2=>match JZ k objs R2,Es R2 with
    | none,_=>.stuck "a block of nobody"
    | _,false=>.stuck "a number behind a call"
    | some nw,true=>match nw with
     | []=>.leaf ⟨tO rs,keysOf objs,Bd (fun n=>n) s.H (yJ s.dt objs),s.nv,s.fc⟩
     | nw=>match Mt k nw with
      | none=>.stuck "more than two new blocks"
      | some m=>.leaf ⟨(tO rs).ren (uJ m),keysOf objs,Bd (uJ m) s.H (yJ s.dt objs)++Ai (uJ m) s.H nw,s.nv,s.fc⟩
mutual
def tL (c:X):SV→SV→Option SV
 | .int k a,.int k' b=>match vM k k' with|true=>some (.int k (Ei c a b))|false=>none
 | .bool a,.bool b=>some (.bool (Ei c a b))
 | .agg l,.agg m=>match Dh c l m with|some r=>some (.agg r)|none=>none
 | .tup l,.tup m=>match Dh c l m with|some r=>some (.tup r)|none=>none
 | _,_=>none
def Dh (c:X):List SV→List SV→Option (List SV)
 | [],[]=>some []
 | x::l,y::m=>match tL c x y,Dh c l m with|some r,some rs=>some (r::rs)|_,_=>none
 | _,_=>none
end
def Gy:List Nat→List Nat→Bool
 | [],[]=>true
 | x::l,y::m=>match Nat.beq x y with|true=>Gy l m|false=>false
 | _,_=>false
def Di (tc:List Nat) (nv:Nat):rf CR→Option (X×Option SV)
 | .leaf r=>match r.ef with
  | []=>match Gy r.tc tc,Nat.beq r.nv nv with|true,true=>some (.lit (.ofNat 1),some r.r)|_,_=>none
  | _::_=>none
 | .ite c a b=>match Di tc nv a,Di tc nv b with
  | some (x,none),some (y,r)=>some (Ei c x y,r)
  | some (x,r),some (y,none)=>some (Ei c x y,r)
  | some (x,some r),some (y,some q)=>match tL c r q with|some z=>some (Ei c x y,some z)|none=>none
  | _,_=>none
 | .stuck _=>some (.lit (.ofNat 0),none)
 | .call _ _ _ _ _=>none
def P9 (tc:List Nat) (nv:Nat) (fc:Facts) (t:rf CR):rf CR:=match t with
 | .ite c a b=>match Di tc nv (.ite c a b) with
  | some (x,some r)=>Gh x (.leaf ⟨r,tc,[],nv,fc⟩) (.stuck "in a call")
  | _=>.ite c a b
 | t=>t
def regionEnd (nt:Nat) (ops:Array Oper) (draw:Bool) (s:St) (r:OR):rf (Exit×St) :=
 match draw with
 | true=>match drawOK ops nt,traceOK ops s.N r.tr with
  | true,true=>uC (s.N+2*ops.size) fun N=>.leaf (.normal,⟨N,r.T,r.H,r.nv,r.dt,r.fc⟩)
  | false,_=>.stuck "drawOK"
  | _,_=>.stuck "traceOK"
 | false=>match dstsLt nt ops.toList with
  | true=>uC (s.N+2*ops.size) fun N=>.leaf (.normal,⟨N,r.T,r.H,r.nv,r.dt,r.fc⟩)
  | false=>.stuck "dstsLt"
def J7 (P:Program) (ex:Code→St→rf (Exit×St)) (g:FuncId) (args:List SV) (H:SH) (k nv:Nat) (fc:Facts):rf CR:=match P.funcs[g]? with
 | none=>.stuck "no such function"
 | some fn=>match fn.body with
  | none=>.stuck "no body"
  | some cd=>match reach H (SV.refss args) with
   | none=>.stuck "reach"
   | some objs=>match Nat.ble args.length fn.ntmps,J6 k objs,Es objs with
    | true,true,true=>P9 (keysOf objs) nv fc ((ex cd ⟨k,uY args fn.ntmps,objs,nv,[],fc⟩).bind fun r=>match r.1 with
     | .normal=>Mv P fn objs k r.2
     | .ret=>Mv P fn objs k r.2
     | _=>.stuck "a call's end")
    | _,_,_=>.stuck "a call's arguments"
def Gz (H:SH) (k:VK) (x:SV):Option X:=match k with
 | .nat=>match x with
  | .hd h=>match hget H h with
   | some o=>match o.t with
    | none=>match o.c with
     | [.int _ x]=>some x
     | _=>none
    | some _=>none
   | none=>none
  | .v (.slice none 0 0)=>some (.lit (.ofNat 0))
  | _=>none
 | .int k=>Ag (.int k) x
 | .bool=>Ag .bool x
 | .bit=>Ag .bit x
def Et (H:SH):List VK→List SV→Option (List X)
 | [],[]=>some []
 | k::ks,x::xs=>match Gz H k x,Et H ks xs with|some a,some l=>some (a::l)|_,_=>none
 | _,_=>none
def J8 (H:SH) (h:Sh) (x:SV):Option (List X):=match h,x with
 | .sc k,x=>match Gz H k x with|some a=>some [a]|none=>none
 | .agg l,.agg xs=>Et H l xs
 | .agg l,.v (.agg cs)=>Et H l (cs.toList.map xA)
 | _,_=>none
def GA (H:SH):List Sh→List SV→Option (List X)
 | [],[]=>some []
 | h::hs,x::xs=>match J8 H h x,GA H hs xs with|some a,some l=>some (a++l)|_,_=>none
 | _,_=>none
def nN (k:VK):Nat:=match k with | .nat=>1|_=>0
def yV:List VK→Nat
 | []=>0
 | k::ks=>nN k+yV ks
def J9 (k:VK) (x:X) (h:Nat):SV:=match k with | .nat=>.hd h|k=>Ah k x
def uZ:List VK→List X→Nat→List SV
 | k::ks,x::xs,h=>J9 k x h::uZ ks xs (h+nN k)
 | _,_,_=>[]
def Qa (sh:Sh) (xs:List X) (h:Nat):SV:=match sh with
 | .sc k=>match xs with|x::_=>J9 k x h | []=>.v undef
 | .agg l=>.agg (uZ l xs h)
def Eu:List Sh→List X→Nat→List SV
 | [],_,_=>[]
 | s::ss,xs,h=>Qa s xs h::Eu ss (xs.drop s.kinds.length) (h+yV s.kinds)
def yf:List VK→List X→Nat→List (Nat×SO)
 | k::ks,x::xs,h=>match k with
  | .nat=>uC h fun h'=>(h',⟨[.int .u64 x],none⟩)::yf ks xs (h+1)
  | _=>yf ks xs h
 | _,_,_=>[]
def Qb (C:sW) (ct:Ct) (g:FuncId) (args:List SV) (H:SH) (k nv:Nat) (fc:Facts):rf CR:=match GA H ct.a args with
 | none=>.stuck "numbers: arguments"
 | some xs=>.call g xs nv (ru ct.r).length (uC (nv+(ru ct.r).length) fun nv'=>.leaf ⟨tO (Eu ct.r (rM nv (ru ct.r)) k),SV.refss args,yf (ru ct.r) (rM nv (ru ct.r)) k,nv',fc⟩)
structure UT where
 i:List SV
 b:Nat
 o:Nat
 n:Nat
 m:Nat
def Ka:List SV→Option UT
 | []=>none
 | x::l=>match l with
  | []=>match x with
   | .sl b o n m=>some ⟨[],b,o,n,m⟩
   | _=>none
  | y::l'=>match Ka (y::l') with
   | some r=>some ⟨x::r.i,r.b,r.o,r.n,r.m⟩
   | none=>none
def Mw:List vP→Nat→Nat→TypeId→Option vP
 | [],_,_,_=>none
 | s::L,n,m,t=>match Nat.beq s.n n,Nat.beq s.n m,Nat.beq s.t t with
  | true,true,true=>some s
  | _,_,_=>Mw L n m t
def Qc (C:sW) (L:List vP) (args:List SV) (H:SH) (nv:Nat) (fc:Facts) (K:Unit→rf CR):rf CR:=match Ka args with
 | none=>K ()
 | some r=>match hget H r.b with
  | none=>K ()
  | some o=>match o.t with
   | none=>K ()
   | some t=>match Mw L r.n r.m t with
    | none=>K ()
    | some s=>match Nat.beq r.o 0,wW s.a r.i,Er s.ks o.c with
     | true,some xs,some ys=>match JU (xs++ys) with
      | some ns=>match Nat.beq (C.Φ s.id ns).length (ru s.r).length with
       | true=>JS (ru s.r) (C.Φ s.id ns) fun l=>.leaf ⟨tO (rO s.r l),[r.b],[],nv,fc⟩
       | false=>.stuck "contract"
      | none=>.call s.id (xs++ys) nv (ru s.r).length (uC (nv+(ru s.r).length) fun nv'=>.leaf ⟨tO (rO s.r (rM nv (ru s.r))),[r.b],[],nv',fc⟩)
     | _,_,_=>K ()
def Kb (C:sW) (ex:Code→St→rf (Exit×St)) (g:FuncId) (args:List SV) (H:SH) (k nv:Nat) (fc:Facts):rf CR:=match C.nt g with
 | some ct=>Qb C ct g args H k nv fc
 | none=>match C.ct g with
 | none=>match C.sl g with
  | []=>J7 C.P ex g args H k nv fc
  | L=>Qc C L args H nv fc fun _=>J7 C.P ex g args H k nv fc
 | some ct=>match wW ct.a args with
  | none=>J7 C.P ex g args H k nv fc
  | some xs=>match JU xs with
   | some ns=>match Nat.beq (C.Φ g ns).length (ru ct.r).length with
    | true=>JS (ru ct.r) (C.Φ g ns) fun l=>.leaf ⟨tO (rO ct.r l),[],[],nv,fc⟩
    | false=>.stuck "contract"
   | none=>.call g xs nv (ru ct.r).length (uC (nv+(ru ct.r).length) fun nv'=>.leaf ⟨tO (rO ct.r (rM nv (ru ct.r))),[],[],nv',fc⟩)
def exec (C:sW):Nat→Code→St→rf (Exit×St)
 | 0,_,_=>.stuck "no fuel"
 | f+1,c,s=>match c with
  | .skip=>.leaf (.normal,s)
  | .label _=>.leaf (.normal,s)
  | .exit id=>.leaf (.exit id,s)
  | .ret=>.leaf (.ret,s)
  | .seq a b=>(exec C f a s).bind fun r=>match r.1 with | .normal=>exec C f b r.2|_=>.leaf r
  | .cond c a b=>match zO s.T c with
   | some (.bool q)=>Ae s.fc q fun bb fc=>match bb with|true=>exec C f a { s with fc:=fc } | false=>exec C f b { s with fc:=fc }
   | _=>.stuck "cond"
  | .block id c=>(exec C f c s).bind fun r=>match r.1 with
   | .exit id'=>match Nat.beq id' id with|true=>.leaf (.normal,r.2)|false=>.leaf r
   | _=>.leaf r
  | .loop c=>(exec C f c s).bind fun r=>match r.1 with | .normal=>exec C f (.loop c) r.2|_=>.leaf r
  | .scope c=>(exec C f c s).bind fun r=>match r.1 with | .goto _=>.stuck "goto" | _=>.leaf r
  | .region _ ops draw=>(zu C (Kb C (exec C f)) ops s.N 0 ops.toList s.T s.H [] s.nv s.dt s.fc).bind fun r=>regionEnd s.T.length ops draw s r
  | _=>.stuck "no such text"
def rY (C:sW) (fuel:Nat) (g:FuncId) (args:List SV) (nv:Nat):rf SV :=
 match C.P.funcs[g]? with
 | none=>.stuck "no such function"
 | some fn=>match fn.body with
  | none=>.stuck "no body"
  | some cd=>match Nat.ble args.length fn.ntmps with
   | true=>(exec C fuel cd ⟨0,uY args fn.ntmps,[],nv,[],[]⟩).bind fun r=>match r.1 with
    | .normal=>match vQ C.P r.2.T r.2.H fn.results.toList with|some rs=>.leaf (tO rs)|none=>.stuck "results"
    | .ret=>match vQ C.P r.2.T r.2.H fn.results.toList with|some rs=>.leaf (tO rs)|none=>.stuck "results"
    | _=>.stuck "end"
   | false=>.stuck "arguments"
open Go.RowKit
def ul (h:Sh) (ns:List Int):Value:=match h with
 | .sc k=>match ns with|n::_=>tN k n | []=>undef
 | .agg l=>.agg (sP l ns).toArray
def rX:List Sh→List Int→List Value
 | [],_=>[]
 | h::hs,ns=>ul h ns::rX hs (ns.drop h.kinds.length)
def tq:List Value→Value
 | [x]=>x
 | l=>.tuple l.toArray
def vv:List VK→List Int→List Int
 | k::ks,n::ns=>k.norm n::vv ks ns
 | _,_=>[]
theorem Mx {k:VK} {x:SV} {a:X} (s:rD) (h:Ag k x=some a):x.den s = .v (tN k (a.den s)):=by
 unfold Ag at h
 split at h
 ·split at h
  ·rename_i hk hi
   cases h
   have hk:=xz hk;subst hk
   simp only[SV.den,tN,X.inK_ok s hi]
  ·cases h
 ·cases h;rfl
 ·split at h
  ·rename_i hk hi
   cases h
   have hk:=xz hk;subst hk
   simp only[SV.den,tN];rw[← X.isBit_ok s hi]
  ·cases h
 ·cases h
theorem Kc (s:rD):∀ {ks:List VK} {xs:List SV} {l:List X},Er ks xs=some l→SV.dens s xs=(sP ks (l.map (X.den s))).map .v∧l.length=ks.length
 | [],[],l,h=>by cases h;exact⟨rfl,rfl⟩
 | k::ks,x::xs,l,h=>by
  simp only[Er] at h
  split at h
  ·rename_i a l' ha hl
   cases h
   obtain⟨h1,h2⟩:=Kc s hl
   exact⟨by rw[SV.dens,h1,Mx s ha];rfl,by simp[h2]⟩
  ·cases h
 | [],_::_,l,h=>by cases h
 | _::_,[],l,h=>by cases h
theorem adz (s:rD) {h:Sh} {x:SV} {l:List X} (hh:PW h x=some l):x.den s = .v (ul h (l.map (X.den s)))∧l.length=h.kinds.length:=by
 unfold PW at hh
 split at hh
 ·split at hh
  ·rename_i a ha
   cases hh
   exact⟨Mx s ha,rfl⟩
  ·cases hh
 ·obtain⟨h1,h2⟩:=Kc s hh
  exact⟨by simp only[SV.den,h1,Ma];rfl,h2⟩
 ·obtain⟨h1,h2⟩:=Kc s hh
  rw[zN] at h1
  refine⟨?_,h2⟩
  simp only[SV.den,ul]
  rename_i l0 cs
  have:cs.toList=sP l0 (l.map (X.den s)):=by
   have:=congrArg tX h1
   rw[Db,Db] at this
   exact Option.some.inj this
  rw[← this]
 ·cases hh
theorem UU:∀ (ks:List VK) (p q:List Int),p.length=ks.length→sP ks (p++q)=sP ks p
 | [],[],q,_=>by cases q<;>rfl
 | k::ks,n::p,q,h=>by rw[List.cons_append,sP,sP,UU ks p q (by simpa using h)]
 | [],_::_,_,h=>by simp at h
 | _::_,[],_,h=>by simp at h
theorem Qd (h:Sh) (p q:List Int) (hl:p.length=h.kinds.length):ul h (p++q)=ul h p:=by
 cases h with
 | sc k =>
  cases p with
  | nil=>simp[Sh.kinds] at hl
  | cons n p=>rfl
 | agg l=>simp only[ul];rw[UU l p q hl]
theorem Dj (s:rD):∀ {hs:List Sh} {xs:List SV} {l:List X},wW hs xs=some l→SV.dens s xs=(rX hs (l.map (X.den s))).map .v∧l.length=(ru hs).length
 | [],[],l,h=>by cases h;exact⟨rfl,rfl⟩
 | h::hs,x::xs,l,hh=>by
  simp only[wW] at hh
  split at hh
  ·rename_i a l' ha hl
   cases hh
   obtain⟨h1,h2⟩:=Dj s hl
   obtain⟨h3,h4⟩:=adz s ha
   refine⟨?_,by simp[ru,h4] at h2 ⊢;omega⟩
   rw[SV.dens,h1,h3,rX,List.map_append,Qd _ _ _ (by simpa using h4),List.map_cons]
   rw[show(List.map (X.den s) a++List.map (X.den s) l').drop h.kinds.length=List.map (X.den s) l' by rw[List.drop_append_of_le_length (by simp[h4])];rw[List.drop_of_length_le (by simp[h4])];rfl]
  ·cases hh
 | [],_::_,l,h=>by cases h
 | _::_,[],l,h=>by cases h
theorem MB {k:VK} {x:X} {n:Int} {s:rD} (h:x.den s=k.norm n):(Ah k x).den s = .v (tN k n):=by
 cases k with
 | int k=>simp only[Ah,SV.den,h,VK.norm,tN]
 | bool=>simp only[Ah,SV.den,h,VK.norm,tN,uB]
 | bit=>simp only[Ah,SV.den,h,VK.norm,tN]
 | nat=>simp only[Ah,SV.den,h,VK.norm,tN]
theorem MC {s:rD} : ∀ {ks:List VK} {xs:List X} {ns:List Int},xs.map (X.den s)=vv ks ns→xs.length=ks.length→SV.dens s (zR ks xs)=(sP ks ns).map .v
 | [],xs,ns,_,_=>by cases xs<;>rfl
 | k::ks,[],ns,_,hl=>by simp at hl
 | k::ks,x::xs,[],h,_=>by simp[vv] at h
 | k::ks,x::xs,n::ns,h,hl=>by
  simp only[List.map_cons,vv,List.cons.injEq] at h
  rw[zR,SV.dens,MC h.2 (by simpa using hl),MB h.1];rfl
theorem UV:∀ (ks js:List VK) (ns:List Int),(vv (ks++js) ns).take ks.length=vv ks ns
 | [],js,ns=>rfl
 | k::ks,js,[]=>rfl
 | k::ks,js,n::ns=>by rw[List.cons_append,vv,List.length_cons,List.take_succ_cons,UV ks js ns,vv]
theorem UW:∀ (ks js:List VK) (ns:List Int),(vv (ks++js) ns).drop ks.length=vv js (ns.drop ks.length)
 | [],js,ns=>rfl
 | k::ks,js,[]=>by cases js<;>simp[vv]
 | k::ks,js,n::ns=>by rw[List.cons_append,vv,List.length_cons,List.drop_succ_cons,UW ks js ns,List.drop_succ_cons]
theorem UX:∀ (ks:List VK) (xs:List X),zR ks (xs.take ks.length)=zR ks xs
 | [],xs=>by cases xs<;>rfl
 | k::ks,[]=>rfl
 | k::ks,x::xs=>by rw[List.length_cons,List.take_succ_cons,zR,UX ks xs,zR]
theorem adA {s:rD} {h:Sh} {js:List VK} {xs:List X} {ns:List Int} (hx:xs.map (X.den s)=vv (h.kinds++js) ns) (hl:xs.length=(h.kinds++js).length):(PX h xs).den s = .v (ul h ns):=by
 cases h with
 | sc k =>
  cases xs with
  | nil=>simp[Sh.kinds] at hl
  | cons x xs =>
   cases ns with
   | nil=>simp[Sh.kinds,vv] at hx
   | cons n ns =>
    simp only[Sh.kinds,List.cons_append,List.nil_append,vv,List.map_cons,List.cons.injEq] at hx
    exact MB hx.1
 | agg l =>
  simp only[PX,SV.den,ul]
  have h1:(xs.take l.length).map (X.den s)=vv l ns:=by
   rw[List.map_take,hx];exact UV l js ns
  rw[← UX l xs,MC h1 (by simp[Sh.kinds] at hl ⊢;omega),Ma]
theorem BX {s:rD} : ∀ {hs:List Sh} {xs:List X} {ns:List Int},xs.map (X.den s)=vv (ru hs) ns→xs.length=(ru hs).length→SV.dens s (rO hs xs)=(rX hs ns).map .v
 | [],xs,ns,_,_=>rfl
 | h::hs,xs,ns,hx,hl=>by
  have hk:ru (h::hs)=h.kinds++ru hs:=by simp[ru]
  rw[hk] at hx hl
  rw[rO,SV.dens,adA hx hl,BX (hs:=hs) (ns:=ns.drop h.kinds.length) (by rw[List.map_drop,hx,UW]) (by simp at hl ⊢;omega)]
  rfl
theorem Be (s:rD):∀ (ks:List VK) (b:Nat),(rM b ks).map (X.den s)=vv ks (vN s b ks.length)∧(rM b ks).length=ks.length
 | [],b=>⟨rfl,rfl⟩
 | k::ks,b=>by
  obtain⟨h1,h2⟩:=Be s ks (b+1)
  refine⟨?_,by simp[rM,h2]⟩
  rw[rM,List.map_cons,h1];rfl
theorem UY (k:VK) (n:Int):Gv k n=k.norm n:=by
 cases k with
 | int k=>exact uo k n
 | bool=>simp only[Gv,VK.norm,uO]
 | bit=>simp only[Gv,VK.norm,uO]
 | nat=>rfl
def GD:List VK→List Int→List X
 | k::ks,n::ns=>.lit (Gv k n)::GD ks ns
 | _,_=>[]
theorem Qe {β:Sort _} : ∀ (ks:List VK) (ns:List Int) (K:List X→β),JS ks ns K=K (GD ks ns)
 | [],ns,K=>by cases ns<;>rfl
 | k::ks,[],K=>rfl
 | k::ks,n::ns,K=>by rw[JS,Ee,Qe ks ns];rfl
theorem Qf (s:rD):∀ (ks:List VK) (ns:List Int),(GD ks ns).map (X.den s)=vv ks ns
 | [],ns=>by cases ns<;>rfl
 | k::ks,[]=>rfl
 | k::ks,n::ns=>by rw[GD,List.map_cons,Qf s ks ns,vv,X.den,UY]
theorem Qg:∀ (ks:List VK) (ns:List Int),ns.length=ks.length→(GD ks ns).length=ks.length
 | [],ns,_=>by cases ns<;>rfl
 | k::ks,[],h=>by simp at h
 | k::ks,n::ns,h=>by rw[GD];simp[Qg ks ns (by simpa using h)]
theorem Qh (s:rD):∀ {xs:List X} {ns:List Int},JU xs=some ns→xs.map (X.den s)=ns
 | [],ns,h=>by cases h;rfl
 | .lit n::l,ns,h=>by
  simp only[JU] at h
  split at h
  ·rename_i r hr;cases h;rw[List.map_cons,Qh s hr];rfl
  ·cases h
 | .var _ _::_,_,h=>by cases h
 | .bin _ _ _ _::_,_,h=>by cases h
 | .conv _ _::_,_,h=>by cases h
 | .com _ _::_,_,h=>by cases h
 | .not _::_,_,h=>by cases h
 | .and _ _::_,_,h=>by cases h
 | .beq _ _::_,_,h=>by cases h
 | .min _ _::_,_,h=>by cases h
 | .max _ _::_,_,h=>by cases h
 | .ite _ _ _::_,_,h=>by cases h
 | .dlen _::_,_,h=>by cases h
theorem Qi {s:rD} {l:List SV} {vs:List Value} (h:SV.dens s l=vs.map .v):(tO l).den s = .v (tq vs):=by
 match l,vs,h with
 | [],[],_=>simp only[tO,SV.den,SV.dens,tq];exact Mc []
 | [x],[v],h=>simpa [SV.dens,tO,tq] using h
 | x::y::l,v::u::vs,h =>
  simp only[tO,SV.den,h,Mc,tq]
 | [],v::vs,h=>simp[SV.dens] at h
 | x::l,[],h=>simp[SV.dens] at h
 | [x],v::u::vs,h=>simp[SV.dens] at h
 | x::y::l,[v],h=>simp[SV.dens] at h
theorem GG (s:rD) (l:List SV):Ac (SV.dens s l)=(tO l).den s:=by
 match l with
 | []=>rfl
 | [x]=>rfl
 | x::y::l=>rfl
mutual
theorem UZ (s:rD) (c:X):∀ {a b r:SV},tL c a b=some r→r.den s=if c.den s=0 then b.den s else a.den s
 | .int k a,.int k' b,r,h=>by
  simp only[tL] at h
  split at h
  ·rename_i hk
   cases h
   have:=xz hk;subst this
   simp only[SV.den,JK];split<;>rfl
  ·cases h
 | .bool a,.bool b,r,h=>by
  simp only[tL] at h
  cases h
  simp only[SV.den,JK];split<;>rfl
 | .agg l,.agg m,r,h=>by
  simp only[tL] at h
  split at h
  ·rename_i q hq
   cases h
   have:=Qj s c hq
   simp only[SV.den,this];split<;>rfl
  ·cases h
 | .tup l,.tup m,r,h=>by
  simp only[tL] at h
  split at h
  ·rename_i q hq
   cases h
   have:=Qj s c hq
   simp only[SV.den,this];split<;>rfl
  ·cases h
 | .v _,_,_,h=>by simp[tL] at h
 | .loc _ _,_,_,h=>by simp[tL] at h
 | .sl _ _ _ _,_,_,h=>by simp[tL] at h
 | .fn _ _ _,_,_,h=>by simp[tL] at h
 | .int _ _,.v _,_,h=>by simp[tL] at h
 | .int _ _,.bool _,_,h=>by simp[tL] at h
 | .int _ _,.loc _ _,_,h=>by simp[tL] at h
 | .int _ _,.sl _ _ _ _,_,h=>by simp[tL] at h
 | .int _ _,.fn _ _ _,_,h=>by simp[tL] at h
 | .int _ _,.tup _,_,h=>by simp[tL] at h
 | .int _ _,.agg _,_,h=>by simp[tL] at h
 | .bool _,.v _,_,h=>by simp[tL] at h
 | .bool _,.int _ _,_,h=>by simp[tL] at h
 | .bool _,.loc _ _,_,h=>by simp[tL] at h
 | .bool _,.sl _ _ _ _,_,h=>by simp[tL] at h
 | .bool _,.fn _ _ _,_,h=>by simp[tL] at h
 | .bool _,.tup _,_,h=>by simp[tL] at h
 | .bool _,.agg _,_,h=>by simp[tL] at h
 | .agg _,.v _,_,h=>by simp[tL] at h
 | .agg _,.int _ _,_,h=>by simp[tL] at h
 | .agg _,.bool _,_,h=>by simp[tL] at h
 | .agg _,.loc _ _,_,h=>by simp[tL] at h
 | .agg _,.sl _ _ _ _,_,h=>by simp[tL] at h
 | .agg _,.fn _ _ _,_,h=>by simp[tL] at h
 | .agg _,.tup _,_,h=>by simp[tL] at h
 | .tup _,.v _,_,h=>by simp[tL] at h
 | .tup _,.int _ _,_,h=>by simp[tL] at h
 | .tup _,.bool _,_,h=>by simp[tL] at h
 | .tup _,.loc _ _,_,h=>by simp[tL] at h
 | .tup _,.sl _ _ _ _,_,h=>by simp[tL] at h
 | .tup _,.fn _ _ _,_,h=>by simp[tL] at h
 | .tup _,.agg _,_,h=>by simp[tL] at h
theorem Qj (s:rD) (c:X):∀ {a b r:List SV},Dh c a b=some r→SV.dens s r=if c.den s=0 then SV.dens s b else SV.dens s a
 | [],[],r,h=>by simp only[Dh] at h;cases h;split<;>rfl
 | x::l,y::m,r,h=>by
  simp only[Dh] at h
  split at h
  ·rename_i q qs h1 h2
   cases h
   have e1:=UZ s c h1
   have e2:=Qj s c h2
   simp only[SV.dens,e1,e2];split<;>rfl
  ·cases h
 | [],_::_,_,h=>by simp[Dh] at h
 | _::_,[],_,h=>by simp[Dh] at h
end
theorem U0:∀ {a b:List Nat},Gy a b=true→a=b
 | [],[],_=>rfl
 | x::l,y::m,h=>by
  simp only[Gy] at h
  split at h
  ·rename_i hb;rw[sU.1 hb,U0 h]
  ·cases h
 | [],_::_,h=>by simp[Gy] at h
 | _::_,[],h=>by simp[Gy] at h
theorem Ev {Φ:uI} {s:rD} {tc:List Nat} {nv:Nat} : ∀ {t:rf CR} {x:X} {o:Option SV},Di tc nv t=some (x,o)→x.den s≠0→∃ r,t.path Φ s=some r∧r.tc=tc∧r.ef = []∧∃ z,o=some z∧z.den s=r.r.den s
 | .leaf r,x,o,h,hx=>by
  simp only[Di] at h
  split at h
  ·rename_i he
   split at h
   ·rename_i h1 h2
    cases h
    exact⟨r,rfl,U0 h1,he,_,rfl,rfl⟩
   ·cases h
  ·cases h
 | .stuck w,x,o,h,hx=>by simp only[Di,Option.some.injEq,Prod.mk.injEq] at h;rw[← h.1] at hx;exact absurd rfl hx
 | .call _ _ _ _ _,x,o,h,hx=>by simp[Di] at h
 | .ite c a b,x,o,h,hx=>by
  simp only[Di] at h
  split at h
  ·rename_i y1 y2 q h1 h2
   cases h
   rw[JK] at hx
   by_cases hc:c.den s=0
   ·rw[if_pos hc] at hx
    obtain⟨r,hr,h3⟩:=Ev (Φ:=Φ) h2 hx
    exact⟨r,by simp only[rf.path,if_pos hc];exact hr,h3⟩
   ·rw[if_neg hc] at hx
    obtain⟨r,hr,_,_,z,hz,_⟩:=Ev (Φ:=Φ) h1 hx
    cases hz
  ·rename_i y1 q y2 hno h1 h2
   cases h
   rw[JK] at hx
   by_cases hc:c.den s=0
   ·rw[if_pos hc] at hx
    obtain⟨r,hr,_,_,z,hz,_⟩:=Ev (Φ:=Φ) h2 hx
    cases hz
   ·rw[if_neg hc] at hx
    obtain⟨r,hr,h3⟩:=Ev (Φ:=Φ) h1 hx
    exact⟨r,by simp only[rf.path,if_neg hc];exact hr,h3⟩
  ·rename_i y1 q1 y2 q2 h1 h2
   split at h
   ·rename_i z hz
    cases h
    have hzd:=UZ s c hz
    rw[JK] at hx
    by_cases hc:c.den s=0
    ·rw[if_pos hc] at hx hzd
     obtain⟨r,hr,h3,h4,u,hu,h5⟩:=Ev (Φ:=Φ) h2 hx
     cases hu
     exact⟨r,by simp only[rf.path,if_pos hc];exact hr,h3,h4,_,rfl,hzd.trans h5⟩
    ·rw[if_neg hc] at hx hzd
     obtain⟨r,hr,h3,h4,u,hu,h5⟩:=Ev (Φ:=Φ) h1 hx
     cases hu
     exact⟨r,by simp only[rf.path,if_neg hc];exact hr,h3,h4,_,rfl,hzd.trans h5⟩
   ·cases h
  ·cases h
theorem adB {Φ:uI} {s:rD} {tc:List Nat} {nv:Nat} {fc:Facts} {t:rf CR} {r':CR} (hf:sZ s fc) (h:(P9 tc nv fc t).path Φ s=some r'):∃ r,t.path Φ s=some r∧r.r.den s=r'.r.den s∧r.tc=r'.tc∧r.ef=r'.ef∧(sZ s r.fc→sZ s r'.fc):=by
 unfold P9 at h
 split at h
 ·rename_i c a b
  split at h
  ·rename_i x z hm
   rw[Pb] at h
   split at h
   ·cases h
   ·rename_i hx
    cases h
    obtain⟨r,h1,h2,h3,u,hu,h4⟩:=Ev (Φ:=Φ) hm hx
    cases hu
    exact⟨r,h1,h4.symm,h2,h3,fun _=>hf⟩
  ·exact⟨r',h,rfl,rfl,rfl,id⟩
 ·exact⟨r',h,rfl,rfl,rfl,id⟩
open Go.RowKit
mutual
theorem SV.den_refs (s:rD):∀ (x:SV) {r:Nat},r∈(x.den s).refs→r∈x.refs
 | .v _,r,h=>by simp[SV.den,AV.refs] at h
 | .int _ _,r,h=>by simp[SV.den,AV.refs] at h
 | .bool _,r,h=>by simp[SV.den,AV.refs] at h
 | .loc b o,r,h=>by simpa [SV.den,AV.refs,SV.refs] using h
 | .sl b o l c,r,h=>by simpa [SV.den,AV.refs,SV.refs] using h
 | .hd k,r,h=>by simpa [SV.den,AV.refs,SV.refs] using h
 | .ha k off,r,h=>by simpa [SV.den,AV.refs,SV.refs] using h
 | .fn g a c,r,h=>by
  rw[SV.den] at h
  rw[SV.refs]
  rcases List.mem_append.1 (Tu h) with h|h
  ·exact List.mem_append_left _ (SV.dens_refs s a h)
  ·exact List.mem_append_right _ (SV.dens_refs s c h)
 | .tup l,r,h=>by rw[SV.den] at h;rw[SV.refs];exact SV.dens_refs s l (abr h)
 | .agg l,r,h=>by rw[SV.den] at h;rw[SV.refs];exact SV.dens_refs s l (Od h)
theorem SV.dens_refs (s:rD):∀ (l:List SV) {r:Nat},r∈AV.refss (SV.dens s l)→r∈SV.refss l
 | [],r,h=>by simp[SV.dens,AV.refss] at h
 | x::l,r,h=>by
  rw[SV.dens,AV.refss] at h
  rw[SV.refss]
  rcases List.mem_append.1 h with h|h
  ·exact List.mem_append_left _ (SV.den_refs s x h)
  ·exact List.mem_append_right _ (SV.dens_refs s l h)
end
theorem Ke (f:Nat→Nat):∀ l:List AV,tX (AV.rens f l)=tX l
 | []=>rfl
 | .v x::l=>by simp only[AV.rens,AV.ren,tX,Ke f l]
 | .loc _ _::l=>rfl
 | .sl _ _ _ _::l=>rfl
 | .hd _::l=>rfl
 | .ha _ _::l=>rfl
 | .fn _ _ _::l=>rfl
 | .tup _::l=>rfl
 | .agg _::l=>rfl
theorem adC (f:Nat→Nat) (l:List AV):(ww l).ren f=ww (AV.rens f l):=by
 unfold ww;rw[Ke];cases tX l<;>rfl
theorem adD (f:Nat→Nat) (l:List AV):(xx l).ren f=xx (AV.rens f l):=by
 unfold xx;rw[Ke];cases tX l<;>rfl
theorem adE (f:Nat→Nat) (g:Fn) (a c:List AV):(xy g a c).ren f=xy g (AV.rens f a) (AV.rens f c):=by
 unfold xy;rw[Ke,Ke];cases tX a<;>cases tX c<;>rfl
mutual
theorem SV.den_ren (s:rD) (f:Nat→Nat):∀ x:SV,(x.ren f).den s=(x.den s).ren f
 | .v _=>rfl
 | .int _ _=>rfl
 | .bool _=>rfl
 | .loc b o=>rfl
 | .hd k=>rfl
 | .ha k off=>rfl
 | .sl b o l c=>rfl
 | .fn g a c=>by simp only[SV.ren,SV.den,adE,SV.dens_ren s f a,SV.dens_ren s f c]
 | .tup l=>by simp only[SV.ren,SV.den,adD,SV.dens_ren s f l]
 | .agg l=>by simp only[SV.ren,SV.den,adC,SV.dens_ren s f l]
theorem SV.dens_ren (s:rD) (f:Nat→Nat):∀ l:List SV,SV.dens s (SV.rens f l)=AV.rens f (SV.dens s l)
 | []=>rfl
 | x::l=>by simp only[SV.rens,SV.dens,AV.rens,SV.den_ren s f x,SV.dens_ren s f l]
end
mutual
theorem AV.ren_id {f:Nat→Nat} : ∀ x:AV,(∀ r∈x.refs,f r=r)→x.ren f=x
 | .v _,_=>rfl
 | .loc b o,h=>by simp only[AV.ren];rw[h b (by simp[AV.refs])]
 | .sl b o l c,h=>by simp only[AV.ren];rw[h b (by simp[AV.refs])]
 | .hd k,h=>by simp only[AV.ren];rw[h k (by simp[AV.refs])]
 | .ha k o,h=>by simp only[AV.ren];rw[h k (by simp[AV.refs])]
 | .fn g a c,h=>by
  simp only[AV.ren]
  rw[AV.rens_id a (fun r hr=>h r (by rw[AV.refs];exact List.mem_append_left _ hr)),AV.rens_id c (fun r hr=>h r (by rw[AV.refs];exact List.mem_append_right _ hr))]
 | .tup l,h=>by simp only[AV.ren];rw[AV.rens_id l (fun r hr=>h r (by rw[AV.refs];exact hr))]
 | .agg l,h=>by simp only[AV.ren];rw[AV.rens_id l (fun r hr=>h r (by rw[AV.refs];exact hr))]
theorem AV.rens_id {f:Nat→Nat} : ∀ l:List AV,(∀ r∈AV.refss l,f r=r)→AV.rens f l=l
 | [],_=>rfl
 | x::l,h=>by
  rw[AV.rens,AV.ren_id x (fun r hr=>h r (by rw[AV.refss];exact List.mem_append_left _ hr)),AV.rens_id l (fun r hr=>h r (by rw[AV.refss];exact List.mem_append_right _ hr))]
end
theorem Kg {n:Nat} : ∀ {l:List Nat},tQ n l=true↔n∈l
 | []=>by simp[tQ]
 | x::l=>by
  simp only[tQ]
  cases h:Nat.beq x n with
  | true=>simp only[sU.1 h,List.mem_cons,true_or]
  | false =>
   simp only[]
   rw[Kg,List.mem_cons]
   constructor
   ·exact .inr
   ·rintro(rfl|h1)
    ·simp at h
    ·exact h1
theorem BZ {j:Nat} : ∀ {H:SH},(∃ o,hget H j=some o)↔j∈keysOf H
 | []=>by simp[hget,keysOf]
 | x::l=>by
  simp only[hget,keysOf]
  cases h:Nat.beq x.1 j with
  | true=>simp[sU.1 h]
  | false =>
   simp only[]
   rw[BZ,List.mem_cons]
   constructor
   ·exact .inr
   ·rintro(rfl|h1)
    ·simp at h
    ·exact h1
theorem U1 {k:Nat} : ∀ {H:SH},J6 k H=true→∀ j∈keysOf H,j<k
 | [],_,j,h=>by simp[keysOf] at h
 | x::l,h,j,hj=>by
  simp only[J6] at h
  split at h
  ·rename_i hb
   simp only[keysOf,List.mem_cons] at hj
   rcases hj with rfl|hj
   ·simpa [Nat.blt_eq] using hb
   ·exact U1 h j hj
  ·cases h
structure Reached (H:SH) (l:List Nat) (R:SH):Prop where
 sub:∀ b o,hget R b=some o→hget H b=some o
 cl:∀ b o,hget R b=some o→∀ r∈SV.refss o.c,r∈keysOf R
 all:∀ b∈l,b∈keysOf R
theorem Qk {H:SH} : ∀ {n:Nat} {todo:List Nat} {acc R:SH},Gx H n todo acc=some R→(∀ b o,hget acc b=some o→hget H b=some o)→(∀ b o,hget acc b=some o→∀ r∈SV.refss o.c,r∈todo∨r∈keysOf acc) →
  Reached H todo R∧∀ b∈keysOf acc,b∈keysOf R
 | 0,_,_,_,h,_,_=>by cases h
 | n+1,[],acc,R,h,h1,h2=>by
  simp only[Gx,Option.some.injEq] at h;subst h
  exact⟨⟨h1,fun b o hb r hr=>(h2 b o hb r hr).resolve_left (by simp),fun b hb=>by simp at hb⟩,fun b hb=>hb⟩
 | n+1,b::todo,acc,R,h,h1,h2=>by
  simp only[Gx] at h
  split at h
  ·rename_i o ho
   have hk:b∈keysOf acc:=BZ.1 ⟨o,ho⟩
   obtain⟨h3,h4⟩:=Qk h h1 (fun b' o' hb' r hr=>by
    rcases h2 b' o' hb' r hr with h5|h5
    ·rcases List.mem_cons.1 h5 with rfl|h5
     ·exact .inr hk
     ·exact .inl h5
    ·exact .inr h5)
   refine⟨⟨h3.sub,h3.cl,fun b' hb'=>?_⟩,h4⟩
   rcases List.mem_cons.1 hb' with rfl|hb'
   ·exact h4 _ hk
   ·exact h3.all _ hb'
  ·split at h
   ·cases h
   ·rename_i hno _ o ho
    have hget':∀ b' o',hget ((b,o)::acc) b'=some o'→(b'=b∧o'=o)∨hget acc b'=some o':=fun b' o' hb'=>by
     simp only[hget] at hb'
     split at hb'
     ·rename_i he;cases hb';exact .inl ⟨(sU.1 he).symm,rfl⟩
     ·exact .inr hb'
    obtain⟨h3,h4⟩:=Qk h (fun b' o' hb'=>by
     rcases hget' b' o' hb' with⟨rfl,rfl⟩|hb'
     ·exact ho
     ·exact h1 b' o' hb') (fun b' o' hb' r hr=>by
     rcases hget' b' o' hb' with⟨rfl,rfl⟩|hb'
     ·exact .inl (List.mem_append_left _ hr)
     ·rcases h2 b' o' hb' r hr with h5|h5
      ·rcases List.mem_cons.1 h5 with rfl|h5
       ·exact .inr (by simp[keysOf])
       ·exact .inl (List.mem_append_right _ h5)
      ·exact .inr (by simp[keysOf,h5]))
    refine⟨⟨h3.sub,h3.cl,fun b' hb'=>?_⟩,fun b' hb'=>h4 _ (by simp[keysOf,hb'])⟩
    rcases List.mem_cons.1 hb' with rfl|hb'
    ·exact h4 _ (by simp[keysOf])
    ·exact h3.all _ (List.mem_append_right _ hb')
theorem U2 {H:SH} {l:List Nat} {R:SH} (h:reach H l=some R):Reached H l R:=by
 unfold reach at h
 split at h
 ·cases h;exact⟨fun b o hb=>(by cases hb),fun b o hb=>(by cases hb),fun b hb=>(by cases hb)⟩
 ·exact(Qk h (fun b o hb=>(by cases hb)) (fun b o hb=>(by cases hb))).1
theorem U3 {k:Nat} {objs:SH} : ∀ {R:SH} {nw:List Nat},JZ k objs R=some nw→(∀ j∈keysOf R,j∈nw∨j∈keysOf objs)∧∀ n∈nw,k≤n∧n∈keysOf R
 | [],nw,h=>by cases h;exact⟨fun j hj=>by simp[keysOf] at hj,fun n hn=>by simp at hn⟩
 | x::l,nw,h=>by
  simp only[JZ] at h
  split at h
  ·cases h
  ·rename_i r hr
   obtain⟨h1,h2⟩:=U3 hr
   split at h
   ·rename_i hk
    cases h
    refine⟨fun j hj=>?_,fun n hn=>?_⟩
    ·simp only[keysOf,List.mem_cons] at hj
     rcases hj with rfl|hj
     ·exact .inl List.mem_cons_self
     ·exact(h1 j hj).imp (List.mem_cons_of_mem _) id
    ·rcases List.mem_cons.1 hn with rfl|hn
     ·exact⟨Nat.le_of_ble_eq_true hk,by simp[keysOf]⟩
     ·exact⟨(h2 n hn).1,by simp[keysOf,(h2 n hn).2]⟩
   ·split at h
    ·rename_i o ho
     cases h
     refine⟨fun j hj=>?_,fun n hn=>⟨(h2 n hn).1,by simp[keysOf,(h2 n hn).2]⟩⟩
     simp only[keysOf,List.mem_cons] at hj
     rcases hj with rfl|hj
     ·exact .inr (BZ.1 ⟨o,ho⟩)
     ·exact h1 j hj
    ·cases h
theorem Ca {dt:List Nat} {j:Nat} : ∀ {H:SH},j∈yJ dt H↔j∈keysOf H∧tQ j dt=true
 | []=>by simp[yJ,keysOf]
 | x::l=>by
  simp only[yJ,keysOf]
  cases h:tQ x.1 dt with
  | true =>
   simp only[List.mem_cons,Ca (H:=l)]
   constructor
   ·rintro(rfl|h1)
    ·exact⟨.inl rfl,h⟩
    ·exact⟨.inr h1.1,h1.2⟩
   ·rintro⟨rfl|h1,h2⟩
    ·exact .inl rfl
    ·exact .inr ⟨h1,h2⟩
  | false =>
   simp only[List.mem_cons,Ca (H:=l)]
   constructor
   ·rintro⟨h1,h2⟩;exact⟨.inr h1,h2⟩
   ·rintro⟨rfl|h1,h2⟩
    ·rw[h] at h2;cases h2
    ·exact⟨h1,h2⟩
def GH (s:rD) (f:Nat→Nat) (o:SO):AO:=(⟨SV.rens f o.c,o.t⟩:SO).den s
theorem adF (f:Nat→Nat):∀ c:List SV,BR (SV.rens f c)=BR c
 | []=>rfl
 | [x]=>by cases x<;>rfl
 | x::y::l=>by cases x<;>cases y<;>rfl
theorem adG (f:Nat→Nat):∀ c:List SV,yI (SV.rens f c)=yI c
 | []=>rfl
 | [x]=>by cases x<;>rfl
 | x::y::l=>rfl
theorem U4 (f:Nat→Nat):∀ l:List SV,(SV.rens f l).map Me=l.map Me
 | []=>rfl
 | x::l=>by
  rw[SV.rens,List.map_cons,List.map_cons,U4 f l]
  cases x<;>rfl
theorem adH (f:Nat→Nat):∀ c:List SV,yU (SV.rens f c)=yU c
 | []=>rfl
 | [x]=>rfl
 | [x,y]=>rfl
 | x::y::z::l=>by
  have e1:Mf (SV.ren f x)=Mf x:=by cases x<;>rfl
  have e2:Mg (SV.ren f y)=Mg y:=by cases y<;>rfl
  have e3:Mh (SV.ren f z)=Mh z:=by cases z<;>rfl
  simp only[SV.rens,yU,U4,e1,e2,e3]
theorem U5 (s:rD) (f:Nat→Nat) (o:SO):GH s f o=AO.ren f (o.den s):=by
 obtain⟨c,t⟩:=o
 cases t with
 | some t=>unfold GH SO.den AO.ren;simp only[SV.dens_ren]
 | none =>
  unfold GH SO.den
  simp only[adF,adG,adH]
  cases yI c with
  | some es=>rfl
  | none=>cases yU c<;>rfl
theorem Ew:∀ {l:SH} {k:Nat} {o:SO},Es l=true→hget l k=some o→∃ t,o.t=some t
 | [],k,o,_,h=>by cases h
 | x::l,k,o,ha,h=>by
  simp only[Es] at ha
  simp only[hget] at h
  split at ha
  ·rename_i t ht
   split at h
   ·cases h;exact⟨t,ht⟩
   ·exact Ew ha h
  ·cases ha
theorem U6:∀ (a b:List (Nat×AO)) (H:ry),H.puts (a++b)=(H.puts a).puts b
 | [],b,H=>rfl
 | x::a,b,H=>by rw[List.cons_append,ry.puts,ry.puts,U6 a b]
theorem Ql (s:rD) (f:Nat→Nat) (Hh:SH):∀ (l:List Nat) (H:ry) (j:Nat),(H.puts (sH s (Bd f Hh l))) j=match (match tQ j l with|true=>hget Hh j|false=>none) with|some o=>some (GH s f o)|none=>H j
 | [],H,j=>rfl
 | b::l,H,j=>by
  simp only[Bd]
  cases ho:hget Hh b with
  | some o =>
   simp only[]
   rw[sH,List.map_cons,ry.puts]
   have ih:=Ql s f Hh l (H.put b (GH s f o)) j
   rw[sH] at ih
   refine ih.trans ?_
   simp only[tQ]
   cases hb:Nat.beq b j with
   | true =>
    have:=sU.1 hb;subst this
    simp only[ho]
    cases tQ b l with
    | true=>simp only[ho]
    | false=>simp only[ry.put_same]
   | false =>
    simp only[]
    cases hm:tQ j l with
    | true =>
     simp only[]
     cases hget Hh j with
     | some _=>rfl
     | none=>simp only[];exact ry.put_ne _ _ _ (fun e=>by subst e;simp at hb)
    | false=>simp only[];exact ry.put_ne _ _ _ (fun e=>by subst e;simp at hb)
  | none =>
   simp only[]
   refine(Ql s f Hh l H j).trans ?_
   simp only[tQ]
   cases hb:Nat.beq b j with
   | true =>
    have:=sU.1 hb;subst this
    simp only[ho]
    cases tQ b l<;>simp only[ho]
   | false=>rfl
structure Names (k:Nat) (nw:List Nat) (m:List (Nat×Nat)) (f:Nat→Nat) (src:Nat→Option Nat):Prop where
 old:∀ j,j<k→f j=j
 new:∀ n∈nw,src (f n)=some n
 srcOld:∀ j,j<k→src j=none
 srcNew:∀ j n,src j=some n→n∈nw∧f n=j∧(j=k∨j=k+1)
theorem adI {k:Nat} {nw:List Nat} {m:List (Nat×Nat)} (h:Mt k nw=some m) (hk:∀ n∈nw,k≤n):∃ src,Names k nw m (uJ m) src∧∀ (s:rD) (Hh:SH),(∀ n∈nw,∃ o,hget Hh n=some o)→∀ (H:ry) (j:Nat),
  (H.puts (sH s (Ai (uJ m) Hh nw))) j=match src j with|some n=>(hget Hh n).map (GH s (uJ m))|none=>H j:=by
 unfold Mt at h
 split at h
 ·cases h
  exact⟨fun _=>none,⟨fun _ _=>rfl,fun n hn=>by simp at hn,fun _ _=>rfl,fun _ _ h=>by cases h⟩,fun s Hh _ H j=>rfl⟩
 ·rename_i n1
  cases h
  have h1:=hk n1 (by simp)
  refine⟨fun j=>if j=k then some n1 else none,⟨?_,?_,?_,?_⟩,?_⟩
  ·intro j hj
   simp only[uJ]
   cases hb:Nat.beq n1 j with
   | true=>have:=sU.1 hb;omega
   | false=>rfl
  ·intro n hn
   simp only[List.mem_singleton] at hn;subst hn
   simp[uJ]
  ·intro j hj;simp;omega
  ·intro j n hs
   split at hs
   ·rename_i hj;cases hs;subst hj;exact⟨by simp,by simp[uJ],.inl rfl⟩
   ·cases hs
  ·intro s Hh hH H j
   obtain⟨o,ho⟩:=hH n1 (by simp)
   simp only[Ai,ho,sH,List.map_cons,List.map_nil,ry.puts]
   have hf:uJ [(n1,k)] n1=k:=by simp[uJ]
   rw[hf]
   by_cases hj:j=k
   ·subst hj;simp only[if_true,ry.put_same,ho];rfl
   ·simp only[if_neg hj];exact ry.put_ne _ _ _ hj
 ·rename_i n1 n2
  split at h
  ·cases h
  ·rename_i hne
   cases h
   have h1:=hk n1 (by simp);have h2:=hk n2 (by simp)
   have hne':n1≠n2:=fun e=>by subst e;simp at hne
   have f1:uJ [(n1,k),(n2,k+1)] n1=k:=by simp[uJ]
   have f2:uJ [(n1,k),(n2,k+1)] n2=k+1:=by
    simp only[uJ,hne];simp
   refine⟨fun j=>if j=k then some n1 else if j=k+1 then some n2 else none,⟨?_,?_,?_,?_⟩,?_⟩
   ·intro j hj
    simp only[uJ]
    cases hb:Nat.beq n1 j with
    | true=>have:=sU.1 hb;omega
    | false =>
     simp only[]
     cases hb2:Nat.beq n2 j with
     | true=>have:=sU.1 hb2;omega
     | false=>rfl
   ·intro n hn
    simp only[List.mem_cons,List.not_mem_nil,or_false] at hn
    rcases hn with rfl|rfl
    ·rw[f1];simp
    ·rw[f2];simp
   ·intro j hj
    rw[if_neg (by omega),if_neg (by omega)]
   ·intro j n hs
    split at hs
    ·rename_i hj;cases hs;subst hj;exact⟨by simp,f1,.inl rfl⟩
    ·split at hs
     ·rename_i hj;cases hs;subst hj;exact⟨by simp,f2,.inr rfl⟩
     ·cases hs
   ·intro s Hh hH H j
    obtain⟨o1,ho1⟩:=hH n1 (by simp)
    obtain⟨o2,ho2⟩:=hH n2 (by simp)
    simp only[Ai,ho1,ho2,sH,List.map_cons,List.map_nil,ry.puts,f1,f2]
    by_cases hj:j=k
    ·subst hj
     rw[ry.put_ne _ _ _ (by omega),ry.put_same]
     simp only[if_true,ho1];rfl
    ·by_cases hj2:j=k+1
     ·subst hj2
      rw[ry.put_same]
      simp only[if_neg hj,if_true,ho2];rfl
     ·rw[ry.put_ne _ _ _ hj2,ry.put_ne _ _ _ hj]
      simp only[if_neg hj,if_neg hj2]
 ·cases h
theorem Qm:∀ (l:List SV) (n t:Nat),uX (uY l n) t=match l[t]? with|some x=>if t<n then some x else none|none=>if t<n then some (.v undef) else none
 | [],0,t=>by simp[uY,uX]
 | [],n+1,0=>by simp[uY,uX]
 | [],n+1,t+1=>by
  simp only[uY,uX]
  rw[Qm [] n t];simp
 | x::l,0,t=>by
  simp only[uY,uX]
  cases (x::l)[t]? <;> simp
 | x::l,n+1,0=>by simp[uY,uX]
 | x::l,n+1,t+1=>by
  simp only[uY,uX]
  rw[Qm l n t];simp
theorem Kh (s:rD) (l:List SV) (n:Nat):rR.den s (uY l n)=BJ (SV.dens s l) n:=by
 funext t
 unfold rR.den BJ
 rw[Qm,SV.dens_map,List.getElem?_map]
 cases l[t]? with
 | some x=>simp only[Option.map_some];split<;>rfl
 | none=>simp only[Option.map_none];split<;>rfl
theorem Ex:∀ (l:List SV) (n:Nat),l.length≤n→(uY l n).length=n
 | [],0,_=>rfl
 | [],n+1,_=>by rw[uY];simp[Ex [] n (by simp)]
 | x::l,0,h=>by simp at h
 | x::l,n+1,h=>by rw[uY];simp[Ex l n (by simpa using h)]
theorem Ey {P:Program} {G:rP} (s:rD) {T:rR} {H:SH} : ∀ {l:List ResultVar} {rs:List SV},vQ P T H l=some rs→yE P G (rR.den s T) (SH.den s H) l=some (SV.dens s rs)
 | [],rs,h=>by cases h;rfl
 | .tmp t::l,rs,h=>by
  simp only[vQ] at h
  split at h
  ·rename_i x r hx hr
   cases h
   simp only[yE,Ey s hr]
   have:rR.den s T t=some (x.den s):=by simp[rR.den,hx]
   rw[this];rfl
  ·cases h
 | .cell a t::l,rs,h=>by
  simp only[vQ] at h
  split at h
  ·rename_i b o hx
   split at h
   ·rename_i ob hob
    split at h
    ·rename_i t0 ht0
     split at h
     ·rename_i x r hx2 hr
      cases h
      have:rR.den s T a=some (.loc b o):=by simp[rR.den,hx,SV.den]
      simp only[yE,this,xG,SH.den_get hob ht0,Em s hx2,Ey s hr];rfl
     ·cases h
    ·cases h
   ·cases h
  ·cases h
structure yX (C:sW) (s:rD) (g:FuncId) (args:List SV) (H:SH) (k:Nat) (r:CR):Prop where
 tc:∀ b∈r.tc,SH.den s H b≠none
 ef:∀ x∈sH s r.ef,x.1=k∨x.1=k+1∨x.1∈r.tc
 fc:sZ s r.fc
 ok:∀ w0 B0,DZ C.P C.G w0 B0 g (SV.dens s args) (SH.den s H) r.tc k (r.r.den s) (sH s r.ef)
def U7 (H0:SH) (dt:List Nat) (H:SH):Prop:=∀ j,tQ j dt=false→hget H j=hget H0 j
def wX (s:rD) (ex:Exit) (st:St):yD:=fun x N T H=>x=ex∧N=st.N∧T=rR.den s st.T∧H=SH.den s st.H
theorem Qn {s:rD} {f:Nat→Nat} {Hh:SH} : ∀ {l:List Nat} {x:Nat×AO},x∈sH s (Bd f Hh l)→x.1∈l
 | [],x,h=>by simp[Bd,sH] at h
 | b::l,x,h=>by
  simp only[Bd] at h
  split at h
  ·rw[sH,List.map_cons] at h
   rcases List.mem_cons.1 h with rfl|h
   ·exact List.mem_cons_self
   ·exact List.mem_cons_of_mem _ (Qn h)
  ·exact List.mem_cons_of_mem _ (Qn h)
theorem Qo {s:rD} {f:Nat→Nat} {Hh:SH} : ∀ {l:List Nat} {x:Nat×AO},x∈sH s (Ai f Hh l)→∃ n∈l,x.1=f n
 | [],x,h=>by simp[Ai,sH] at h
 | b::l,x,h=>by
  simp only[Ai] at h
  split at h
  ·rw[sH,List.map_cons] at h
   rcases List.mem_cons.1 h with rfl|h
   ·exact⟨b,List.mem_cons_self,rfl⟩
   ·obtain⟨n,hn,e⟩:=Qo h;exact⟨n,List.mem_cons_of_mem _ hn,e⟩
  ·obtain⟨n,hn,e⟩:=Qo h;exact⟨n,List.mem_cons_of_mem _ hn,e⟩
theorem U8 {C:sW} {E:tC} {s:rD} {g:FuncId} {fn:Func} {cd:Code} {args:List SV} {H objs:SH} {k:Nat} {ex:Exit} {st:St} {rs:List SV} {R2:SH} {nw:List Nat} {m:List (Nat×Nat)} {fc:Facts}
  (hf:C.P.funcs[g]? = some fn) (hb:fn.body=some cd) (hn:(fn.name == "runtime.NumGoroutine")=false) (hro:reach H (SV.refss args)=some objs) (hl:Nat.ble args.length fn.ntmps=true) (hk:J6 k objs=true)
  (hA:∀ w0 B0,AW ⟨C.P,C.G,E,w0,B0,fn.ntmps⟩ cd (wX s ex st) k (rR.den s (uY args fn.ntmps)) (SH.den s objs)) (hex:ex = .normal∨ex = .ret) (hD:U7 objs st.dt st.H) (hfc:sZ s fc)
  (hrs:vQ C.P st.T st.H fn.results.toList=some rs) (hR2:reach st.H (SV.refss rs++yJ st.dt objs)=some R2) (hw0:Es objs=true) (hw2:Es R2=true) (hnw:JZ k objs R2=some nw) (hm:Mt k nw=some m) (nv:Nat) :
  yX C s g args H k ⟨(tO rs).ren (uJ m),keysOf objs,Bd (uJ m) st.H (yJ st.dt objs)++Ai (uJ m) st.H nw,nv,fc⟩:=by
 have ro:=U2 hro
 have r2:=U2 hR2
 obtain⟨n1,n2⟩:=U3 hnw
 obtain⟨src,hN,hput⟩:=adI hm (fun n hn=>(n2 n hn).1)
 have hlt:=U1 hk
 have hH:∀ j∈keysOf objs,∃ o,hget objs j=some o∧hget H j=some o:=fun j hj=>by
  obtain⟨o,ho⟩:=BZ.2 hj;exact⟨o,ho,ro.sub j o ho⟩
 have hden:∀ j∈keysOf objs,SH.den s objs j=SH.den s H j:=fun j hj=>by
  obtain⟨o,h1,h2⟩:=hH j hj;unfold SH.den;rw[h1,h2]
 have hnew:∀ n∈nw,∃ o,hget st.H n=some o∧hget R2 n=some o:=fun n hn=>by
  obtain⟨o,ho⟩:=BZ.2 (n2 n hn).2;exact⟨o,r2.sub n o ho,ho⟩
 let sr:Nat→Option Nat:=fun j=>if j∈keysOf objs then some j else src j
 have srk:∀ j∈keysOf objs,sr j=some j:=fun j hj=>if_pos hj
 have srn:∀ r,(r∈nw∨r∈keysOf objs)→sr (uJ m r)=some r:=by
  rintro r (hr|hr)
  ·have h1:=hN.new r hr
   have:uJ m r∉keysOf objs:=fun hm'=>by
    have:=hN.srcOld _ (hlt _ hm');rw[this] at h1;cases h1
   show(if _ then _ else _)=_
   rw[if_neg this,h1]
  ·rw[hN.old r (hlt r hr)];exact srk r hr
 have clean:∀ j∈keysOf objs,tQ j st.dt=false→∃ o,hget st.H j=some o∧hget objs j=some o:=fun j hj hd=>by
  obtain⟨o,h1,_⟩:=hH j hj;exact⟨o,by rw[hD j hd];exact h1,h1⟩
 have cont:∀ j o,hget st.H j=some o→(j∈nw∨j∈keysOf objs)→∀ r∈SV.refss o.c,r∈nw∨r∈keysOf objs:=by
  intro j o ho hj r hr
  have wV:∀ b,b∈keysOf R2→hget st.H b=some o→r∈nw∨r∈keysOf objs:=fun b hbk hb=>by
   obtain⟨o',ho'⟩:=BZ.2 hbk
   have:=r2.sub b o' ho';rw[hb] at this;cases this
   exact n1 r (r2.cl b o ho' r hr)
  rcases hj with hj|hj
  ·exact wV j (n2 j hj).2 ho
  ·cases hd:tQ j st.dt with
   | true=>exact wV j (r2.all j (List.mem_append_right _ (Ca.2 ⟨hj,hd⟩))) ho
   | false =>
    obtain⟨o',h1,h2⟩:=clean j hj hd
    rw[ho] at h1;cases h1
    exact .inr (ro.cl j o h2 r hr)
 have have':∀ j,(j∈nw∨j∈keysOf objs)→∃ o,hget st.H j=some o:=by
  rintro j (hj|hj)
  ·obtain⟨o,h1,_⟩:=hnew j hj;exact⟨o,h1⟩
  ·cases hd:tQ j st.dt with
   | true =>
    obtain⟨o,ho⟩:=BZ.2 (r2.all j (List.mem_append_right _ (Ca.2 ⟨hj,hd⟩)))
    exact⟨o,r2.sub j o ho⟩
   | false=>obtain⟨o,h1,_⟩:=clean j hj hd;exact⟨o,h1⟩
 have own':∀ j o,(j∈nw∨j∈keysOf objs)→hget st.H j=some o→∃ t,o.t=some t:=by
  intro j o hj ho
  rcases hj with hj|hj
  ·obtain⟨o',h1,h2⟩:=hnew j hj
   rw[ho] at h1;cases h1
   exact Ew hw2 h2
  ·cases hd:tQ j st.dt with
   | true =>
    obtain⟨o',ho'⟩:=BZ.2 (r2.all j (List.mem_append_right _ (Ca.2 ⟨hj,hd⟩)))
    have:=r2.sub j o' ho';rw[ho] at this;cases this
    exact Ew hw2 ho'
   | false =>
    obtain⟨o',h1,h2⟩:=clean j hj hd
    rw[ho] at h1;cases h1
    exact Ew hw0 h2
 refine⟨?_,?_,hfc,?_⟩
 ·intro b hb
  obtain⟨o,_,h2⟩:=hH b hb
  unfold SH.den;rw[h2];simp
 ·intro x hx
  rw[sH,List.map_append,← sH,← sH] at hx
  rcases List.mem_append.1 hx with hx|hx
  ·exact .inr (.inr (Ca.1 (Qn hx)).1)
  ·obtain⟨n,hn,e⟩:=Qo hx
   rw[e]
   exact(hN.srcNew _ n (hN.new n hn)).2.2.imp id .inl
 ·intro w0 B0
  rw[SV.den_ren]
  refine ady E (H1:=SH.den s objs) (Hc:=SH.den s st.H) (keysOf objs) k sr (uJ m) hf hb hn (by rw[zo];exact hl) ?_ ?_ ?_ ?_ ?_ srk ?_ ?_ ?_ ?_
  ·intro j o hj
   unfold SH.den at hj
   cases hg:hget objs j with
   | none=>rw[hg] at hj;cases hj
   | some o'=>exact BZ.1 ⟨o',hg⟩
  ·intro j hj
   obtain⟨o,h1,h2⟩:=hH j hj
   obtain⟨t0,ht0⟩:=Ew hw0 h1
   exact⟨hden j hj,⟨_,_,SH.den_get h2 ht0⟩,hlt j hj⟩
  ·intro j c t hj r hr
   unfold SH.den at hj
   cases hg:hget objs j with
   | none=>rw[hg] at hj;cases hj
   | some o' =>
    rw[hg] at hj
    obtain⟨t0,ht0⟩:=Ew hw0 hg
    rw[Option.map_some,SO.den_own s ht0] at hj
    simp only[Option.some.injEq,AO.own.injEq] at hj
    rw[← hj.1] at hr
    exact ro.cl j o' hg r (SV.dens_refs s _ hr)
  ·intro x hx j hj
   rw[SV.dens_map] at hx
   obtain⟨y,hy,rfl⟩:=List.mem_map.1 hx
   refine ro.all j ?_
   have:j∈AV.refss (SV.dens s args):=AV.mem_refss.2 ⟨_,by rw[SV.dens_map];exact List.mem_map_of_mem hy,hj⟩
   exact SV.dens_refs s args this
  ·intro j n hs
   have key:(n∈nw∨n∈keysOf objs)∧uJ m n=j:=by
    by_cases hj:j∈keysOf objs
    ·have:sr j=some j:=srk j hj
     rw[this] at hs;cases hs
     exact⟨.inr hj,hN.old j (hlt j hj)⟩
    ·have:sr j=src j:=if_neg hj
     rw[this] at hs
     obtain⟨h1,h2,_⟩:=hN.srcNew j n hs
     exact⟨.inl h1,h2⟩
   obtain⟨o,ho⟩:=have' n key.1
   obtain⟨t0,ht0⟩:=own' n o key.1 ho
   refine⟨key.2,_,_,SH.den_get ho ht0,fun r hr=>srn r (cont n o ho key.1 r (SV.dens_refs s _ hr))⟩
  ·intro j n hs
   by_cases hj:j∈keysOf objs
   ·exact .inl hj
   ·have:sr j=src j:=if_neg hj
    rw[this] at hs
    exact .inr (hN.srcNew j n hs).2.2
  ·intro j hj
   refine srn j (n1 j (r2.all j (List.mem_append_left _ ?_)))
   have h1:=SV.den_refs s _ hj
   cases rs with
   | nil=>simp[tO,SV.refs,SV.refss] at h1
   | cons x l=>cases l with
    | nil=>simpa [tO,SV.refss] using h1
    | cons y l=>exact h1
  ·intro H' hag j
   rw[sH,List.map_append,← sH,← sH,U6,hput s st.H (fun n hn=>(hnew n hn).imp fun o ho=>ho.1),Ql]
   by_cases hj:j∈keysOf objs
   ·have h0:src j=none:=hN.srcOld j (hlt j hj)
    rw[h0,srk j hj]
    simp only
    cases hd:tQ j st.dt with
    | true =>
     have:tQ j (yJ st.dt objs)=true:=Kg.2 (Ca.2 ⟨hj,hd⟩)
     rw[this]
     obtain⟨o,ho⟩:=have' j (.inr hj)
     simp only[ho,SH.den,Option.map_some,U5]
    | false =>
     have:tQ j (yJ st.dt objs)=false:=by
      cases hmn:tQ j (yJ st.dt objs) with
      | false=>rfl
      | true=>have:=(Ca.1 (Kg.1 hmn)).2;rw[hd] at this;cases this
     rw[this]
     obtain⟨o,h1,h2⟩:=clean j hj hd
     obtain⟨o',h3,h4⟩:=hH j hj
     rw[h2] at h3;cases h3
     simp only[]
     rw[hag j hj]
     obtain⟨t0,ht0⟩:=Ew hw0 h2
     simp only[SH.den,h1,h4,Option.map_some,SO.den_own s ht0,AO.ren]
     rw[AV.rens_id _ (fun r hr=>hN.old r (hlt r (ro.cl j o h2 r (SV.dens_refs s _ hr))))]
   ·have h0:sr j=src j:=if_neg hj
    rw[h0]
    cases hs:src j with
    | some n =>
     simp only
     obtain⟨o,ho⟩:=have' n (.inl (hN.srcNew j n hs).1)
     simp only[ho,SH.den,Option.map_some,U5]
    | none =>
     simp only
     have:tQ j (yJ st.dt objs)=false:=by
      cases hmn:tQ j (yJ st.dt objs) with
      | false=>rfl
      | true=>exact absurd (Ca.1 (Kg.1 hmn)).1 hj
     rw[this]
  ·intro w1 B
   have:=hA w1 B
   rw[Kh] at this
   refine this.mono ?_
   rintro x N T Hx ⟨rfl,rfl,rfl,rfl⟩
   have hres:=Ey (G:=C.G) s hrs
   rcases hex with rfl|rfl
   ·exact⟨_,hres,GG s rs,rfl⟩
   ·exact⟨_,hres,GG s rs,rfl⟩
open Go.RowKit
def Qp (w:World) (k:VK) (n:Int) (v:Value):Prop:=match k with
 | .nat=>Reads w v (Ad n.toNat) (BQ n.toNat)
 | k=>v=tN k n
def uP (w:World):List VK→List Int→List Value→Prop
 | [],[],[]=>True
 | k::ks,n::ns,v::vs=>Qp w k n v∧uP w ks ns vs
 | _,_,_=>False
def Ki (h:Sh) (vs:List Value):Value:=match h with
 | .sc _=>vs.headD undef
 | .agg l=>.agg (vs.take l.length).toArray
def Ez:List Sh→List Value→List Value
 | [],_=>[]
 | h::hs,vs=>Ki h vs::Ez hs (vs.drop h.kinds.length)
def ME (P:Program) (G:rP) (g:FuncId) (ct:Ct) (l r:List Int):Prop:=∀ w fvs,Gl G w→uP w (ru ct.a) l fvs→wU P g (Ez ct.a fvs).toArray w fun e w' =>
 ∃ fus,e = .returned (tq (Ez ct.r fus))∧uP w' (ru ct.r) r fus∧(∀ u∈fus,∀ b,wT u=some b→w.heap.size≤b∨∃ v∈fvs,wT v=some b)∧rq w w'
theorem uP.len {w:World} : ∀ {ks:List VK} {ns:List Int} {vs:List Value},uP w ks ns vs→ns.length=ks.length∧vs.length=ks.length
 | [],[],[],_=>⟨rfl,rfl⟩
 | k::ks,n::ns,v::vs,h=>by obtain⟨h1,h2⟩:=uP.len h.2;exact⟨by simp[h1],by simp[h2]⟩
 | [],_::_,_,h=>h.elim
 | [],[],_::_,h=>h.elim
 | _::_,[],_,h=>h.elim
 | _::_,_::_,[],h=>h.elim
theorem U9 {w:World} {v:Value} {n:Nat} {c:List Value} (h:Reads w v n c):zG v=v:=by
 rcases h with⟨h1,_⟩|⟨b',o,cap,h1,_⟩<;>rw[h1]<;>rfl
theorem adJ {k:VK} {n:Int} (h:nN k=0):wT (tN k n)=none:=by
 cases k<;>first|rfl|cases h
theorem uP.append {w:World} : ∀ {ks js:List VK} {ns ms:List Int} {vs us:List Value},uP w ks ns vs→uP w js ms us→uP w (ks++js) (ns++ms) (vs++us)
 | [],js,[],ms,[],us,_,h=>h
 | k::ks,js,n::ns,ms,v::vs,us,h,h'=>⟨h.1,uP.append h.2 h'⟩
 | [],_,_::_,_,_,_,h,_=>h.elim
 | [],_,[],_,_::_,_,h,_=>h.elim
 | _::_,_,[],_,_,_,h,_=>h.elim
 | _::_,_,_::_,_,[],_,h,_=>h.elim
structure Cb (w0:World) (B0:sG) (e:Env) (H:ry) (v:Value):Prop where
 ap:∀ b,wT v=some b→∀ j c t,H j=some (.own c t)→b≠e.blk j
 new:∀ b,wT v=some b→w0.heap.size≤b∨∃ j∈B0.dom,wT (B0.env.hnd j)=some b
section
variable {G:rP} {w0:World} {B0:sG} {e:Env} {H':ry} {w:World} {s:rD} {H:SH}
theorem Va {v:Value} (h:wT v=none):Cb w0 B0 e H' v:=⟨fun b hb=>(by rw[h] at hb;cases hb),fun b hb=>(by rw[h] at hb;cases hb)⟩
theorem Vb (R:rU G w0 B0 e H' w) {k:VK} {x:SV} {a:X} (h:Gz H k x=some a) (hag:∀ b∈x.refs,H' b=SH.den s H b) :
  ∃ v,(x.den s).val e=v∧Qp w k (a.den s) v∧Cb w0 B0 e H' v:=by
 have plain:∀ k,nN k=0→Ag k x=some a→∃ v,(x.den s).val e=v∧v=tN k (a.den s)∧Cb w0 B0 e H' v:=fun k hk h=>by
  refine⟨_,rfl,?_,?_⟩
  ·rw[Mx s h];rfl
  ·rw[Mx s h];exact Va (adJ hk)
 cases k with
 | int k=>exact plain _ rfl h
 | bool=>exact plain _ rfl h
 | bit=>exact plain _ rfl h
 | nat =>
  simp only[Gz] at h
  split at h
  ·rename_i j
   split at h
   ·rename_i o ho
    split at h
    ·rename_i ht
     obtain⟨kd,x,hc,rfl⟩:∃ kd x,o.c = [.int kd x]∧a=x:=by
      split at h
      ·rename_i kd x hc;cases h;exact⟨kd,_,hc,rfl⟩
      ·cases h
     have hj:H' j=some (.rd (Ad (X.den s a).toNat) (BQ (X.den s a).toNat)):=by
      have:=SH.den_nat (s:=s) ho ht (by rw[hc];rfl) (by rw[hc];rfl)
      rw[hag j (by simp[SV.refs]),this,hc];rfl
     have hr:=R.rd j _ _ hj
     refine⟨e.hnd j,?_,hr,?_,?_⟩
     ·simp only[SV.den,AV.val];exact U9 hr
     ·intro b hb i c t hi he
      exact R.apart j _ _ i c t hj hi (by rw[hb,he])
     ·intro b hb;exact R.new j _ _ hj b hb
    ·cases h
   ·cases h
  ·cases h
   refine⟨.slice none 0 0,rfl,?_,Va rfl⟩
   exact .inl ⟨rfl,rfl,rfl⟩
  ·cases h
theorem Qq (R:rU G w0 B0 e H' w):∀ {ks:List VK} {xs:List SV} {l:List X},Et H ks xs=some l→(∀ b∈SV.refss xs,H' b=SH.den s H b) →
  ∃ fvs,AV.vals e (SV.dens s xs)=fvs∧uP w ks (l.map (X.den s)) fvs∧∀ v∈fvs,Cb w0 B0 e H' v
 | [],[],l,h,_=>by cases h;exact⟨[],rfl,trivial,fun v hv=>by cases hv⟩
 | k::ks,x::xs,l,h,hag=>by
  simp only[Et] at h
  split at h
  ·rename_i a l' ha hl
   cases h
   obtain⟨fvs,h1,h2,h3⟩:=Qq R hl (fun b hb=>hag b (by rw[SV.refss];exact List.mem_append_right _ hb))
   obtain⟨v,h4,h5,h6⟩:=Vb R ha (fun b hb=>hag b (by rw[SV.refss];exact List.mem_append_left _ hb))
   refine⟨v::fvs,by rw[SV.dens,AV.vals,h1,h4],⟨h5,h2⟩,fun u hu=>?_⟩
   rcases List.mem_cons.1 hu with rfl|hu
   ·exact h6
   ·exact h3 u hu
  ·cases h
 | [],_::_,l,h,_=>by cases h
 | _::_,[],l,h,_=>by cases h
theorem adK (R:rU G w0 B0 e H' w) {sh:Sh} {x:SV} {l:List X} (h:J8 H sh x=some l) (hag:∀ b∈x.refs,H' b=SH.den s H b) :
  ∃ fvs,(∀ us,(x.den s).val e=Ki sh (fvs++us))∧uP w sh.kinds (l.map (X.den s)) fvs∧∀ v∈fvs,Cb w0 B0 e H' v:=by
 unfold J8 at h
 split at h
 ·split at h
  ·rename_i a ha
   cases h
   obtain⟨v,h1,h2,h3⟩:=Vb R ha hag
   exact⟨[v],fun us=>h1,⟨h2,trivial⟩,fun u hu=>by simp at hu;subst hu;exact h3⟩
  ·cases h
 ·rename_i ks xs
  obtain⟨fvs,h1,h2,h3⟩:=Qq R h (fun b hb=>hag b (by rw[SV.refs];exact hb))
  refine⟨fvs,fun us=>?_,h2,h3⟩
  rw[SV.den,Js,h1]
  simp only[Ki]
  rw[List.take_append_of_le_length (by rw[(uP.len h2).2];exact Nat.le_refl _),List.take_of_length_le (by rw[(uP.len h2).2];exact Nat.le_refl _)]
 ·rename_i ks cs
  have hrf:∀ l:List Value,SV.refss (l.map xA) = []:=fun l=>by
   induction l with
   | nil=>rfl
   | cons x l ih=>rw[List.map_cons,SV.refss,ih];cases x<;>rfl
  obtain⟨fvs,h1,h2,h3⟩:=Qq R h (fun b hb=>by rw[hrf] at hb;cases hb)
  refine⟨fvs,fun us=>?_,h2,h3⟩
  rw[zN,vK] at h1
  simp only[SV.den,AV.val,Ki]
  rw[List.take_append_of_le_length (by rw[(uP.len h2).2];exact Nat.le_refl _),List.take_of_length_le (by rw[(uP.len h2).2];exact Nat.le_refl _),← h1]
 ·cases h
theorem Vd (R:rU G w0 B0 e H' w):∀ {hs:List Sh} {xs:List SV} {l:List X},GA H hs xs=some l→(∀ b∈SV.refss xs,H' b=SH.den s H b) →
  ∃ fvs,AV.vals e (SV.dens s xs)=Ez hs fvs∧uP w (ru hs) (l.map (X.den s)) fvs∧∀ v∈fvs,Cb w0 B0 e H' v
 | [],[],l,h,_=>by cases h;exact⟨[],rfl,trivial,fun v hv=>by cases hv⟩
 | sh::hs,x::xs,l,h,hag=>by
  simp only[GA] at h
  split at h
  ·rename_i a l' ha hl
   cases h
   obtain⟨fvs,h1,h2,h3⟩:=Vd R hl (fun b hb=>hag b (by rw[SV.refss];exact List.mem_append_right _ hb))
   obtain⟨gvs,h4,h5,h6⟩:=adK R ha (fun b hb=>hag b (by rw[SV.refss];exact List.mem_append_left _ hb))
   refine⟨gvs++fvs,?_,?_,fun u hu=>?_⟩
   ·rw[SV.dens,AV.vals,h1,h4 fvs,Ez,List.drop_append_of_le_length (by rw[(uP.len h5).2];exact Nat.le_refl _),List.drop_of_length_le (by rw[(uP.len h5).2];exact Nat.le_refl _)];rfl
   ·have hk:ru (sh::hs)=sh.kinds++ru hs:=by simp[ru]
    rw[hk,List.map_append]
    exact uP.append h5 h2
   ·rcases List.mem_append.1 hu with hu|hu
    ·exact h6 u hu
    ·exact h3 u hu
  ·cases h
 | [],_::_,l,h,_=>by cases h
 | _::_,[],l,h,_=>by cases h
theorem adL {k:VK} {x:SV} {a:X} (h:Ag k x=some a):x.refs = []:=by
 unfold Ag at h
 split at h<;>first|rfl|cases h
theorem adM {b:Nat} {o:SO} (h:hget H b=some o):SH.den s H b≠none:=by unfold SH.den;rw[h];simp
theorem Ve {k:VK} {x:SV} {a:X} (h:Gz H k x=some a):∀ b∈x.refs,SH.den s H b≠none:=by
 have plain:∀ k,Ag k x=some a→∀ b∈x.refs,SH.den s H b≠none:=fun k h b hb=>by rw[adL h] at hb;cases hb
 cases k with
 | int k=>exact plain _ h
 | bool=>exact plain _ h
 | bit=>exact plain _ h
 | nat =>
  simp only[Gz] at h
  split at h
  ·rename_i j
   split at h
   ·rename_i o ho
    intro b hb
    simp[SV.refs] at hb;subst hb
    exact adM ho
   ·cases h
  ·intro b hb;simp[SV.refs] at hb
  ·cases h
theorem Vf:∀ {ks:List VK} {xs:List SV} {l:List X},Et H ks xs=some l→∀ b∈SV.refss xs,SH.den s H b≠none
 | [],[],l,h,b,hb=>by simp[SV.refss] at hb
 | k::ks,x::xs,l,h,b,hb=>by
  simp only[Et] at h
  split at h
  ·rename_i a l' ha hl
   rw[SV.refss] at hb
   rcases List.mem_append.1 hb with hb|hb
   ·exact Ve ha b hb
   ·exact Vf hl b hb
  ·cases h
 | [],_::_,l,h,_,_=>by cases h
 | _::_,[],l,h,_,_=>by cases h
theorem adN {sh:Sh} {x:SV} {l:List X} (h:J8 H sh x=some l):∀ b∈x.refs,SH.den s H b≠none:=by
 unfold J8 at h
 split at h
 ·split at h
  ·rename_i a ha;exact Ve ha
  ·cases h
 ·exact fun b hb=>Vf h b (by simpa [SV.refs] using hb)
 ·intro b hb;simp[SV.refs] at hb
 ·cases h
theorem Vg:∀ {hs:List Sh} {xs:List SV} {l:List X},GA H hs xs=some l→∀ b∈SV.refss xs,SH.den s H b≠none
 | [],[],l,h,b,hb=>by simp[SV.refss] at hb
 | sh::hs,x::xs,l,h,b,hb=>by
  simp only[GA] at h
  split at h
  ·rename_i a l' ha hl
   rw[SV.refss] at hb
   rcases List.mem_append.1 hb with hb|hb
   ·exact adN ha b hb
   ·exact Vg hl b hb
  ·cases h
 | [],_::_,l,h,_,_=>by cases h
 | _::_,[],l,h,_,_=>by cases h
theorem Vh (k:VK):(k = .nat∧nN k=1)∨(nN k=0∧(∀ x h,J9 k x h=Ah k x)∧∀ (w:World) n v,Qp w k n v↔v=tN k n):=by
 cases k<;>first|exact .inl ⟨rfl,rfl⟩|exact .inr ⟨rfl,fun _ _=>rfl,fun _ _ _=>Iff.rfl⟩
theorem Vi {x:X} {ks:List VK} {xs:List X} {h:Nat} : yf (.nat::ks) (x::xs) h=(h,⟨[.int .u64 x],none⟩)::yf ks xs (h+1):=by simp only[yf,uk]
theorem Vj {k:VK} (hk:nN k=0) {x:X} {ks:List VK} {xs:List X} {h:Nat} : yf (k::ks) (x::xs) h=yf ks xs h:=by
 cases k<;>first|rfl|cases hk
theorem Qr:∀ {ks:List VK} {xs:List X} {h:Nat} {y:Nat×SO},y∈yf ks xs h→h≤y.1∧y.1<h+yV ks
 | [],xs,h,y,hy=>by simp[yf] at hy
 | k::ks,[],h,y,hy=>by simp[yf] at hy
 | k::ks,x::xs,h,y,hy=>by
  rcases Vh k with⟨rfl,h1⟩|⟨h1,_⟩
  ·rw[Vi] at hy
   rw[yV,h1]
   rcases List.mem_cons.1 hy with rfl|hy
   ·exact⟨Nat.le_refl _,by omega⟩
   ·have:=Qr hy;omega
  ·rw[Vj h1] at hy
   have:=Qr hy
   rw[yV];omega
theorem Env.on.trans' {H1 H2:ry} {e e1 e2:Env} (h1:Env.on H1 e e1) (h2:Env.on H2 e1 e2) (hs:∀ k,H1 k≠none→H2 k≠none):Env.on H1 e e2:=fun k hk =>
 ⟨(h2 k (hs k hk)).1.trans (h1 k hk).1,(h2 k (hs k hk)).2.trans (h1 k hk).2⟩
theorem Qs:∀ {ks:List VK} {xs:List X} {ns:List Int} {fus:List Value} {h:Nat} {e:Env} {H':ry},rU G w0 B0 e H' w→xs.map (X.den s)=vv ks ns→uP w ks ns fus→(∀ u∈fus,Cb w0 B0 e H' u) →
  (∀ j,h≤j→j<h+yV ks→H' j=none)→∃ e',rU G w0 B0 e' (H'.puts (sH s (yf ks xs h))) w∧Env.on H' e e'∧AV.vals e' (SV.dens s (uZ ks xs h))=fus∧∀ c∈SV.refss (uZ ks xs h),(H'.puts (sH s (yf ks xs h))) c≠none
 | [],xs,ns,fus,h,e,H',R,hx,hf,hg,hn=>by
  obtain⟨l1,l2⟩:=uP.len hf
  have:fus = []:=List.eq_nil_of_length_eq_zero l2
  subst this
  have hu:uZ [] xs h = []:=by cases xs<;>rfl
  have he:yf [] xs h = []:=by cases xs<;>rfl
  rw[hu,he]
  exact⟨e,R,Env.on.refl _ _,rfl,fun c hc=>by cases hc⟩
 | k::ks,[],ns,fus,h,e,H',R,hx,hf,hg,hn=>by
  obtain⟨l1,l2⟩:=uP.len hf
  cases ns with
  | nil=>simp at l1
  | cons n ns=>simp[vv] at hx
 | k::ks,x::xs,[],fus,h,e,H',R,hx,hf,hg,hn=>by simp[vv] at hx
 | k::ks,x::xs,n::ns,[],h,e,H',R,hx,hf,hg,hn=>hf.elim
 | k::ks,x::xs,n::ns,u::fus,h,e,H',R,hx,hf,hg,hn=>by
  simp only[List.map_cons,vv,List.cons.injEq] at hx
  rcases Vh k with⟨rfl,h1⟩|⟨h1,h2,h3⟩
  ·rw[yV,h1] at hn
   have hk:H' h=none:=hn h (Nat.le_refl _) (by omega)
   have gu:=hg u List.mem_cons_self
   have hr:Reads w u (Ad n.toNat) (BQ n.toNat):=hf.1
   have hxn:((x.den s).toNat:Nat)=n.toNat:=by rw[hx.1];rfl
   have R1:=R.handle hk hr (fun j c t hj he=>gu.ap _ he j c t hj rfl) gu.new
   have hon1:=Env.setHnd_on hk e u
   have hsz:∀ {v:Value},Cb w0 B0 e H' v→Cb w0 B0 (e.setHnd h u) (H'.put h (.rd (Ad n.toNat) (BQ n.toNat))) v:=fun {v} g=>⟨fun b hb j c t hj=>by
    rcases ry.put_eq hj with⟨_,he⟩|⟨_,hj⟩
    ·cases he
    ·exact g.ap b hb j c t hj,g.new⟩
   obtain⟨e',R',o',v',c'⟩:=Qs (h:=h+1) R1 hx.2 hf.2 (fun v hv=>hsz (hg v (List.mem_cons_of_mem _ hv))) (fun j h4 h5=>by rw[ry.put_ne _ _ _ (by omega)];exact hn j (by omega) (by omega))
   have hd:∀ j,H' j≠none→(H'.put h (.rd (Ad n.toNat) (BQ n.toNat))) j≠none:=fun j hj=>ry.put_dom _ _ _ hj
   have hef:sH s (yf (.nat::ks) (x::xs) h)=(h,.rd (Ad n.toNat) (BQ n.toNat))::sH s (yf ks xs (h+1)):=by
    rw[Vi]
    simp only[sH,List.map_cons,SO.den,yI,Ps,yU,BR,hxn]
   rw[hef]
   refine⟨e',R',hon1.trans' o' hd,?_,?_⟩
   ·rw[uZ,SV.dens,AV.vals,h1,v']
    congr 1
    show zG (e'.hnd h)=u
    rw[(o' h (by rw[ry.put_same];simp)).2]
    show zG (if h=h then u else e.hnd h)=u
    rw[if_pos rfl];exact U9 hr
   ·intro c hc
    rw[uZ,SV.refss,h1] at hc
    rcases List.mem_append.1 hc with hc|hc
    ·simp[J9,SV.refs] at hc
     subst hc
     rw[ry.puts]
     exact ry.puts_dom (by rw[ry.put_same];simp)
    ·exact c' c hc
  ·rw[yV,h1,Nat.zero_add] at hn
   obtain⟨e',R',o',v',c'⟩:=Qs (h:=h) R hx.2 hf.2 (fun v hv=>hg v (List.mem_cons_of_mem _ hv)) hn
   rw[Vj h1]
   refine⟨e',R',o',?_,?_⟩
   ·rw[uZ,SV.dens,AV.vals,h1,Nat.add_zero,v',h2,MB hx.1]
    congr 1
    exact((h3 w n u).1 hf.1).symm
   ·intro c hc
    rw[uZ,SV.refss,h1,Nat.add_zero,h2] at hc
    rcases List.mem_append.1 hc with hc|hc
    ·cases k<;>simp[Ah,SV.refs] at hc
    ·exact c' c hc
theorem Qt:∀ (ks js:List VK) (xs:List X) (h:Nat),ks.length≤xs.length→uZ (ks++js) xs h=uZ ks xs h++uZ js (xs.drop ks.length) (h+yV ks)
 | [],js,xs,h,_=>by cases xs<;>rfl
 | k::ks,js,[],h,hl=>by simp at hl
 | k::ks,js,x::xs,h,hl=>by
  rw[List.cons_append,uZ,uZ,Qt ks js xs _ (by simpa using hl),yV,Nat.add_assoc];rfl
theorem Vk:∀ (ks:List VK) (xs:List X) (h:Nat),xs.length=ks.length→(uZ ks xs h).length=ks.length
 | [],xs,h,_=>by cases xs<;>rfl
 | k::ks,[],h,hl=>by simp at hl
 | k::ks,x::xs,h,hl=>by rw[uZ,List.length_cons,Vk ks xs _ (by simpa using hl),List.length_cons]
theorem Vl:∀ (ks:List VK) (xs:List X) (h:Nat),uZ ks (xs.take ks.length) h=uZ ks xs h
 | [],xs,h=>by cases xs<;>rfl
 | k::ks,[],h=>rfl
 | k::ks,x::xs,h=>by rw[List.length_cons,List.take_succ_cons,uZ,Vl ks xs,uZ]
theorem Vm (e:Env):∀ (hs:List Sh) (xs:List X) (h:Nat),xs.length=(ru hs).length→AV.vals e (SV.dens s (Eu hs xs h))=Ez hs (AV.vals e (SV.dens s (uZ (ru hs) xs h)))
 | [],xs,h,_=>rfl
 | sh::hs,xs,h,hl=>by
  have hk:ru (sh::hs)=sh.kinds++ru hs:=by simp[ru]
  rw[hk,List.length_append] at hl
  have hle:sh.kinds.length≤xs.length:=by omega
  have h1:(uZ sh.kinds xs h).length=sh.kinds.length:=by
   rw[← Vl];exact Vk _ _ _ (by rw[List.length_take];omega)
  have h2:(AV.vals e (SV.dens s (uZ sh.kinds xs h))).length=sh.kinds.length:=by rw[zl,zo,h1]
  rw[Eu,SV.dens,AV.vals,Vm e hs _ _ (by rw[List.length_drop];omega),hk,Qt _ _ _ _ hle,Df,Jw,Ez]
  congr 1
  ·cases sh with
   | sc k =>
    match xs,hle with
    | x::xs,_=>rfl
   | agg l =>
    simp only[Qa,SV.den,Js,Ki]
    rw[List.take_append_of_le_length (by rw[h2];exact Nat.le_refl _),List.take_of_length_le (by rw[h2];exact Nat.le_refl _)];rfl
  ·have d:∀ (a b:List Value) (n:Nat),a.length=n→(a++b).drop n=b:=fun a b n hn=>by subst hn;simp
   rw[d _ _ _ h2]
theorem Vn {c:Nat} : ∀ {hs:List Sh} {xs:List X} {h:Nat},xs.length=(ru hs).length→c∈SV.refss (Eu hs xs h)→c∈SV.refss (uZ (ru hs) xs h)
 | [],xs,h,_,hc=>by simp[Eu,SV.refss] at hc
 | sh::hs,xs,h,hl,hc=>by
  have hk:ru (sh::hs)=sh.kinds++ru hs:=by simp[ru]
  rw[hk,List.length_append] at hl
  have hle:sh.kinds.length≤xs.length:=by omega
  have happ:∀ (a b:List SV),SV.refss (a++b)=SV.refss a++SV.refss b:=fun a b=>by
   induction a with
   | nil=>rfl
   | cons x a ih=>rw[List.cons_append,SV.refss,ih,SV.refss,List.append_assoc]
  rw[hk,Qt _ _ _ _ hle,happ]
  rw[Eu,SV.refss] at hc
  rcases List.mem_append.1 hc with hc|hc
  ·refine List.mem_append_left _ ?_
   cases sh with
   | sc k =>
    match xs,hle with
    | x::xs,_ =>
     have e:uZ (Sh.sc k).kinds (x::xs) h = [J9 k x h]:=by cases xs<;>rfl
     rw[e];simpa [SV.refss,Qa] using hc
   | agg l=>exact hc
  ·exact List.mem_append_right _ (Vn (by rw[List.length_drop];omega) hc)
theorem adO (e:Env) (l:List SV):((tO l).den s).val e=tq (AV.vals e (SV.dens s l)):=by
 match l with
 | []=>simp only[tO,SV.den,SV.dens,Oc];rfl
 | [x]=>rfl
 | x::y::l=>simp only[tO,SV.den,Oc,SV.dens,AV.vals,tq]
theorem adP {l:List SV} {c:Nat} (h:c∈(tO l).refs):c∈SV.refss l:=by
 match l,h with
 | [],h=>exact h
 | [x],h=>simpa [tO,SV.refss] using h
 | x::y::l,h=>exact h
end
def MF (P:Program) (G:rP) (g:FuncId) (c:vP) (l r:List Int):Prop:=∀ w b,Gl G w→(∀ x∈G,x.1≠b)→w.heap[b]? = some (.cells (sP c.ks (l.drop (ru c.a).length)).toArray c.t (0,0)) →
 wU P g (rX c.a l ++ [Value.slice (some ⟨b,0,none⟩) c.n c.n]).toArray w fun e w'=>e = .returned (tq (rX c.r r))∧rq w w'
theorem Vo {s:rD} : ∀ {l:List SV} {r:UT},Ka l=some r→l=r.i ++ [.sl r.b r.o r.n r.m]
 | [],r,h=>by cases h
 | [x],r,h=>by
  simp only[Ka] at h
  split at h
  ·cases h;rfl
  ·cases h
 | x::y::l,r,h=>by
  simp only[Ka] at h
  split at h
  ·rename_i r' hr
   cases h
   have:=Vo (s:=s) hr
   rw[this];rfl
  ·cases h
theorem Vp:∀ {L:List vP} {n m:Nat} {t:TypeId} {c:vP},Mw L n m t=some c→c∈L∧c.n=n∧c.n=m∧c.t=t
 | [],n,m,t,c,h=>by cases h
 | x::L,n,m,t,c,h=>by
  simp only[Mw] at h
  split at h
  ·rename_i h1 h2 h3
   cases h
   exact⟨List.mem_cons_self,sU.1 h1,sU.1 h2,sU.1 h3⟩
  ·obtain⟨h1,h2⟩:=Vp h
   exact⟨List.mem_cons_of_mem _ h1,h2⟩
theorem Qu:∀ (hs:List Sh) (p q:List Int),p.length=(ru hs).length→rX hs (p++q)=rX hs p
 | [],p,q,_=>rfl
 | h::hs,p,q,hl=>by
  have hk:ru (h::hs)=h.kinds++ru hs:=by simp[ru]
  rw[hk,List.length_append] at hl
  have h1:(p++q).take h.kinds.length=p.take h.kinds.length:=by rw[List.take_append_of_le_length (by omega)]
  have e1:ul h (p++q)=ul h p:=by
   have a1:=Qd h (p.take h.kinds.length) (p.drop h.kinds.length++q) (by rw[List.length_take];omega)
   have a2:=Qd h (p.take h.kinds.length) (p.drop h.kinds.length) (by rw[List.length_take];omega)
   rw[← List.append_assoc,List.take_append_drop] at a1
   rw[List.take_append_drop] at a2
   rw[a1,a2]
  rw[rX,rX,e1,List.drop_append_of_le_length (by omega),Qu hs _ q (by rw[List.length_drop];omega)]
theorem adQ {C:sW} {s:rD} {g:FuncId} {L:List vP}
  (hct:∀ c∈L,∀ l:List Int,l.length=(ru c.a++c.ks).length→(C.Φ c.id l).length=(ru c.r).length→MF C.P C.G g c l (C.Φ c.id l))
  {args:List SV} {H:SH} {k nv:Nat} {fc:Facts} {K:Unit→rf CR} {r:CR} (h:(Qc C L args H nv fc K).path C.Φ s=some r) (hfc:sZ s fc) (hK:(K ()).path C.Φ s=some r→yX C s g args H k r):yX C s g args H k r:=by
 unfold Qc at h
 split at h
 ·exact hK h
 rename_i q hq
 split at h
 ·exact hK h
 rename_i o ho
 split at h
 ·exact hK h
 rename_i t ht
 split at h
 ·exact hK h
 rename_i c hc
 split at h
 ·rename_i xs ys h0 hxs hys
  obtain⟨m1,m2,m3,m4⟩:=Vp hc
  have h0:=sU.1 h0
  obtain⟨a1,a2⟩:=Dj s hxs
  obtain⟨b1,b2⟩:=Kc s hys
  have hargs:=Vo (s:=s) hq
  have hlen:((xs++ys).map (X.den s)).length=(ru c.a++c.ks).length:=by simp[a2,b2]
  have hS:=hct c m1 _ hlen
  have fin:(C.Φ c.id ((xs++ys).map (X.den s))).length=(ru c.r).length→∀ l:List SV,SV.dens s l=(rX c.r (C.Φ c.id ((xs++ys).map (X.den s)))).map .v→yX C s g args H k ⟨tO l,[q.b],[],r.nv,fc⟩:=fun hln l hd=>by
   refine⟨fun b hb=>?_,fun x hx=>by simp[sH] at hx,hfc,fun w0 B0=>?_⟩
   ·simp at hb;subst hb;unfold SH.den;rw[ho];simp
   ·intro H' e w hag hk0 hk1 hrefs R
    have hb:H' q.b=some (.own (SV.dens s o.c) t):=by rw[hag q.b (by simp)];exact SH.den_get ho ht
    have hown:=R.own q.b _ t hb
    rw[b1,vK] at hown
    have hd1:(sP c.ks (((xs++ys).map (X.den s)).drop (ru c.a).length))=sP c.ks (ys.map (X.den s)):=by
     rw[List.map_append,List.drop_append_of_le_length (by simp[a2]),List.drop_of_length_le (by simp[a2])];rfl
    have hcall:=hS hln w (e.blk q.b) R.gl (fun x hx=>R.glo q.b _ t hb x hx) (by rw[hd1,m4];exact hown)
    have hv:AV.vals e (SV.dens s args)=rX c.a ((xs++ys).map (X.den s)) ++ [Value.slice (some ⟨e.blk q.b,0,none⟩) c.n c.n]:=by
     rw[hargs,Df,Jw,a1,vK,List.map_append,Qu _ _ _ (by simp[a2])]
     simp only[SV.dens,SV.den,AV.vals,AV.val,h0]
     rw[← m2,← m3]
    rw[hv]
    refine hcall.mono ?_
    rintro en w' ⟨rfl,hB⟩
    refine⟨e,?_,R.below hB,Env.on.refl H' e,fun j hj=>?_⟩
    ·rw[Qi hd];rfl
    ·rw[Qi hd] at hj;simp[AV.refs] at hj
  split at h
  ·rename_i ns hns
   split at h
   ·rename_i hq
    have hq:=sU.1 hq
    rw[Qe] at h
    cases h
    have e:=Qh s hns
    refine fin (by rw[e];exact hq) _ ?_
    rw[e]
    exact BX (Qf s _ _) (Qg _ _ hq)
   ·cases h
  ·simp only[rf.path] at h
   split at h
   ·rename_i hce
    rw[uk] at h
    cases h
    unfold Ej at hce
    refine fin (by rw[← hce];exact BN _ _ _) _ ?_
    obtain⟨h1,h2⟩:=Be s (ru c.r) nv
    rw[hce] at h1
    exact BX h1 h2
   ·cases h
 ·exact hK h
theorem adR {C:sW} {s:rD} {ct:Ct} {g:FuncId} (h2:yV (ru ct.r)≤2)
  (hct:∀ l:List Int,l.length=(ru ct.a).length→(C.Φ g l).length=(ru ct.r).length→ME C.P C.G g ct l (C.Φ g l))
  {args:List SV} {H:SH} {k nv:Nat} {fc:Facts} {r:CR} (h:(Qb C ct g args H k nv fc).path C.Φ s=some r) (hfc:sZ s fc):yX C s g args H k r:=by
 unfold Qb at h
 split at h
 ·cases h
 ·rename_i xs hxs
  simp only[rf.path] at h
  split at h
  ·rename_i hce
   rw[uk] at h
   cases h
   obtain⟨v1,v2⟩:=Be s (ru ct.r) nv
   unfold Ej at hce
   have hln:(C.Φ g (xs.map (X.den s))).length=(ru ct.r).length:=by rw[← hce];exact BN _ _ _
   rw[hce] at v1
   refine⟨Vg hxs,fun x hx=>?_,hfc,fun w0 B0=>?_⟩
   ·rw[sH] at hx
    obtain⟨y,hy,rfl⟩:=List.mem_map.1 hx
    have:=Qr hy
    show y.1=k∨y.1=k+1∨_
    omega
   ·intro H' e w hag hk0 hk1 hrefs R
    obtain⟨fvs,a1,a2,a3⟩:=Vd (s:=s) R hxs hag
    have hl:(xs.map (X.den s)).length=(ru ct.a).length:=(uP.len a2).1
    have hcc:=hct _ hl hln w fvs R.gl a2
    rw[a1]
    refine hcc.mono ?_
    rintro en w' ⟨fus,rfl,b2,b3,hB⟩
    have R':=R.below hB
    have hlen:=(uP.len b2).1
    obtain⟨e',c1,c2,c3,c4⟩:=Qs (s:=s) (h:=k) R' v1 b2 (fun u hu=>⟨fun b hb j c t hj he=>by
     rcases b3 u hu b hb with hlt|⟨v,hv,hvb⟩
     ·have:=R.lt hj;omega
     ·exact(a3 v hv).ap b hvb j c t hj he,fun b hb=>by
     rcases b3 u hu b hb with hlt|⟨v,hv,hvb⟩
     ·exact .inl (Nat.le_trans R.size hlt)
     ·exact(a3 v hv).new b hvb⟩) (fun j h3 h4=>by
     have:j=k∨j=k+1:=by omega
     rcases this with rfl|rfl
     ·exact hk0
     ·exact hk1)
    refine⟨e',?_,c1,c2,fun c hc=>c4 c (Vn (by rw[v2]) (adP (SV.den_refs s _ hc)))⟩
    rw[adO,Vm _ _ _ _ (by rw[v2]),c3]
  ·cases h
open Go.RowKit
structure wD (C:sW) (E:tC):Prop where
 se:Ml C.P C.SE E
 eq:BC C.P E
 mix:C.P.follows .mixedOrders=true
 nm:∀ (g:FuncId) (fn:Func),C.P.funcs[g]? = some fn→fn.body.isSome=true→(fn.name == "runtime.NumGoroutine")=false
 ct:∀ (g:FuncId) (ct:Ct),C.ct g=some ct→∀ l:List Int,l.length=(ru ct.a).length→(C.Φ g l).length=(ru ct.r).length→PC C.P C.G g (rX ct.a l) (tq (rX ct.r (C.Φ g l)))
 nt:∀ (g:FuncId) (ct:Ct),C.nt g=some ct→yV (ru ct.r)≤2∧∀ l:List Int,l.length=(ru ct.a).length→(C.Φ g l).length=(ru ct.r).length→ME C.P C.G g ct l (C.Φ g l)
 sl:∀ (g:FuncId) (c:vP),c∈C.sl g→∀ l:List Int,l.length=(ru c.a++c.ks).length→(C.Φ c.id l).length=(ru c.r).length→MF C.P C.G g c l (C.Φ c.id l)
structure Aj (C:sW) (E:tC) (s:rD) (c:Code) (st:St) (ex:Exit) (st':St):Prop where
 aw:∀ w0 B0,AW ⟨C.P,C.G,E,w0,B0,st.T.length⟩ c (wX s ex st') st.N (rR.den s st.T) (SH.den s st.H)
 len:st'.T.length=st.T.length
 dt:∀ j,tQ j st'.dt=false→tQ j st.dt=false∧hget st'.H j=hget st.H j
 fc:sZ s st'.fc
abbrev Kj (C:sW) (E:tC) (s:rD) (exf:Code→St→rf (Exit×St)):Prop:=∀ c st ex st',(exf c st).path C.Φ s=some (ex,st')→sZ s st.fc→Aj C E s c st ex st'
section
variable {C:sW} {E:tC} {s:rD}
theorem Kk {α:Type} {x:Exit} {A B:rf α} {w:String} {r:α} (h:(match x with | .normal=>A | .ret=>B|_=>.stuck w:rf α).path C.Φ s=some r):(x = .normal∧A.path C.Φ s=some r)∨(x = .ret∧B.path C.Φ s=some r):=by
 cases x<;>first|exact .inl ⟨rfl,h⟩|exact .inr ⟨rfl,h⟩|cases h
theorem adS:(fun n:Nat=>n)=uJ []:=by funext n;rfl
mutual
theorem SV.ren_nil:∀ x:SV,x.ren (uJ [])=x
 | .v _=>rfl
 | .int _ _=>rfl
 | .bool _=>rfl
 | .loc _ _=>rfl
 | .hd _=>rfl
 | .ha _ _=>rfl
 | .sl _ _ _ _=>rfl
 | .fn g a c=>by simp only[SV.ren,SV.rens_nil a,SV.rens_nil c]
 | .tup l=>by simp only[SV.ren,SV.rens_nil l]
 | .agg l=>by simp only[SV.ren,SV.rens_nil l]
theorem SV.rens_nil:∀ l:List SV,SV.rens (uJ []) l=l
 | []=>rfl
 | x::l=>by simp only[SV.rens,SV.ren_nil x,SV.rens_nil l]
end
theorem Qv (hC:wD C E) {exf:Code→St→rf (Exit×St)} (hex:Kj C E s exf) {g:FuncId} {args:List SV} {H:SH} {k nv:Nat} {fc:Facts} {r:CR} (h:(J7 C.P exf g args H k nv fc).path C.Φ s=some r) (hfc:sZ s fc):yX C s g args H k r:=by
 unfold J7 at h
 split at h
 ·cases h
 ·rename_i fn hf
  split at h
  ·cases h
  ·rename_i cd hb
   split at h
   ·cases h
   ·rename_i objs hro
    split at h
    ·rename_i hl hk hw0
     obtain⟨r0,h0,e1,e2,e3,e4⟩:=adB hfc h
     obtain⟨⟨ex,st⟩,h1,h2⟩:=rf.path_bind_some h0
     have sp:=hex _ _ _ _ h1 hfc
     have hlen:(uY args fn.ntmps).length=fn.ntmps:=Ex _ _ (Nat.le_of_ble_eq_true hl)
     have hA:∀ w0 B0,AW ⟨C.P,C.G,E,w0,B0,fn.ntmps⟩ cd (wX s ex st) k (rR.den s (uY args fn.ntmps)) (SH.den s objs):=fun w0 B0=>by
      have:=sp.aw w0 B0;simp only[hlen] at this;exact this
     have hD:U7 objs st.dt st.H:=fun j hj=>(sp.dt j hj).2
     have hn:=hC.nm g fn hf (by rw[hb];rfl)
     have key:ex = .normal∨ex = .ret→(Mv C.P fn objs k st).path C.Φ s=some r0→yX C s g args H k r0:=by
      intro hx h3
      unfold Mv at h3
      split at h3
      ·cases h3
      ·rename_i rs hrs
       split at h3
       ·cases h3
       ·rename_i R2 hR2
        split at h3
        ·cases h3
        ·cases h3
        ·rename_i nw hnw hw2
         split at h3
         ·cases h3
          have:=U8 hf hb hn hro hl hk hA hx hD sp.fc hrs hR2 hw0 hw2 hnw (m:=[]) rfl st.nv
          rw[SV.ren_nil] at this
          simpa [Ai,adS] using this
         ·split at h3
          ·cases h3
          ·rename_i m hm
           cases h3
           exact U8 hf hb hn hro hl hk hA hx hD sp.fc hrs hR2 hw0 hw2 hnw hm st.nv
     have main:yX C s g args H k r0:=by
      rcases Kk h2 with⟨hx,h3⟩|⟨hx,h3⟩
      ·exact key (.inl hx) h3
      ·exact key (.inr hx) h3
     refine⟨by rw[← e2];exact main.tc,by rw[← e2,← e3];exact main.ef,e4 main.fc,?_⟩
     rw[← e1,← e2,← e3];exact main.ok
    ·cases h
theorem Qw (hC:wD C E) {exf:Code→St→rf (Exit×St)} (hex:Kj C E s exf) {g:FuncId} {args:List SV} {H:SH} {k nv:Nat} {fc:Facts} {r:CR} (h:(Kb C exf g args H k nv fc).path C.Φ s=some r) (hfc:sZ s fc):yX C s g args H k r:=by
 unfold Kb at h
 split at h
 ·rename_i ct hnt
  exact adR (hC.nt g ct hnt).1 (hC.nt g ct hnt).2 h hfc
 split at h
 ·split at h
  ·exact Qv hC hex h hfc
  ·exact adQ (fun c hc=>hC.sl g c hc) h hfc (fun h=>Qv hC hex h hfc)
 ·rename_i ct hct
  split at h
  ·exact Qv hC hex h hfc
  ·rename_i xs hxs
   obtain⟨hv,hl⟩:=Dj s hxs
   have hcc:=hC.ct g ct hct (xs.map (X.den s)) (by simpa using hl)
   have fin:(C.Φ g (xs.map (X.den s))).length=(ru ct.r).length→∀ l:List SV,SV.dens s l=(rX ct.r (C.Φ g (xs.map (X.den s)))).map .v→yX C s g args H k ⟨tO l,[],[],r.nv,fc⟩:=fun hln l hd=>by
    refine⟨fun b hb=>by simp at hb,fun x hx=>by simp[sH] at hx,hfc,fun w0 B0=>?_⟩
    simp only[Qi hd]
    exact(hcc hln).call w0 B0 (by rw[hv];exact Db _) _ _
   split at h
   ·rename_i ns hns
    split at h
    ·rename_i hq
     have hq:=sU.1 hq
     rw[Qe] at h
     cases h
     have e:=Qh s hns
     refine fin (by rw[e];exact hq) _ ?_
     rw[e]
     exact BX (Qf s _ _) (Qg _ _ hq)
    ·cases h
   ·simp only[rf.path] at h
    split at h
    ·rename_i hce
     rw[uk] at h
     cases h
     unfold Ej at hce
     refine fin (by rw[← hce];exact BN _ _ _) _ ?_
     obtain⟨h1,h2⟩:=Be s (ru ct.r) nv
     rw[hce] at h1
     exact BX h1 h2
    ·cases h
theorem adT {β:Type} {ops:Array Oper} {T:rR} {o:Oper} {fc:Facts} {K:Bool→Facts→rf β} {r:β} (hf:sZ s fc) (h:(PY ops T o fc K).path C.Φ s=some r) :
  ∃ q fc',sZ s fc'∧AR ops (rR.den s T) o=some q∧(K q fc').path C.Φ s=some r:=by
 unfold PY at h
 unfold AR
 split at h
 ·rename_i hg
  exact⟨true,fc,hf,by rw[hg],h⟩
 ·rename_i j want hg
  rw[hg]
  simp only
  split at h
  ·rename_i hd
   exact⟨false,fc,hf,by rw[hd],h⟩
  ·rename_i d hd
   rw[hd]
   simp only
   split at h
   ·rename_i x hx
    have hT:rR.den s T d=some (.v (.bool (x.den s != 0))):=by simp[rR.den,hx,SV.den]
    obtain⟨fc',hf',h'⟩:=BO hf h
    refine⟨_,fc',hf',?_,h'⟩
    rw[hT]
    simp only[yS]
    cases (x.den s != 0)<;>cases want<;>rfl
   ·rename_i vs hx
    have hT:rR.den s T d=some (.v (.tuple vs)):=by simp[rR.den,hx,SV.den]
    exact⟨false,fc,hf,by rw[hT],h⟩
   ·cases h
theorem adU {fv:SV} {g:FuncId} {a c:List SV} (h:PZ fv=some (g,a,c)):FX (fv.den s)=some (g,SV.dens s a,SV.dens s c):=by
 have hC':∀ l:List Value,SV.dens s (l.map BP)=l.map .v:=fun l=>by
  rw[SV.dens_map,List.map_map];exact List.map_congr_left fun x _=>Md s x
 unfold PZ at h
 split at h
 ·cases h
  simp only[SV.den,FX,hC']
 ·cases h
  simp only[SV.den]
  unfold xy
  have hm:∀ {l:List AV} {vs:List Value},tX l=some vs→l=vs.map .v:=fun {l} {vs} hv=>by
   have h4:=JP l
   unfold ww at h4;rw[hv] at h4
   simpa [tK,Value.cells] using h4.symm
  cases ha:tX (SV.dens s a) with
  | none=>rfl
  | some x=>cases hc:tX (SV.dens s c) with
   | none=>rfl
   | some y=>simp only[FX,hm ha,hm hc]
 ·cases h
theorem adV {op:Op} {ρ:Operand→Option SV} {ρ':Operand→Option AV} (hρ:RD s ρ ρ') {g:FuncId} {args:List SV} (h:P5 op ρ=some (some (g,args))) {P:Program} {G:rP} {H:ry} {k:Nat} :
  FY op ρ'=some (g,SV.dens s args)∧Ab op ρ'=none∧rV P G E op ρ' H k=none:=by
 unfold P5 at h
 split at h
 ·rename_i f xs ts
  split at h
  ·rename_i fv hfv
   split at h
   ·rename_i g' a c bs hcl hl
    simp only[Option.some.injEq,Prod.mk.injEq] at h
    obtain⟨rfl,rfl⟩:=h
    refine⟨?_,rfl,rfl⟩
    simp only[FY,hρ _ _ hfv,adU hcl,Mk hρ hl,Df]
   ·cases h
  ·cases h
 ·cases h
theorem adW {op:Op} {ρ:Operand→Option SV} {ρ':Operand→Option AV} (hρ:RD s ρ ρ') {q:X} {x y:Option SV} (h:P6 op ρ=some (q,x,y)):∃ x' y',Ab op ρ'=some (q.den s != 0,x',y')∧(∀ a,x=some a→x'=some (a.den s))∧(∀ a,y=some a→y'=some (a.den s)):=by
 unfold P6 at h
 split at h
 ·rename_i c a b
  split at h
  ·rename_i q' hq
   cases h
   refine⟨ρ' a,ρ' b,?_,fun z hz=>hρ _ _ hz,fun z hz=>hρ _ _ hz⟩
   simp only[Ab,hρ _ _ hq,SV.den]
  ·cases h
 ·cases h
theorem adX {P:Program} {G:rP} {op:Op} {ρ:Operand→Option AV} {c:Bool} {x y:Option AV} {H:ry} {k:Nat} {r:AV} {tc:List Nat} {ef:List (Nat×AO)} (h:Ab op ρ=some (c,x,y)) (hn:rV P G E op ρ H k=some (r,tc,ef)) :
  tc = []∧ef = []∧(c=true→x=some r)∧(c=false→y=some r):=by
 unfold Ab at h
 split at h
 ·rename_i q a b
  split at h
  ·rename_i q' hq
   cases h
   simp only[rV,hq] at hn
   cases c with
   | true =>
    simp only[if_true] at hn
    obtain⟨h1,rfl,rfl⟩:=xW hn
    exact⟨rfl,rfl,fun _=>h1,fun h=>by cases h⟩
   | false =>
    simp only[Bool.false_eq_true,if_false] at hn
    obtain⟨h1,rfl,rfl⟩:=xW hn
    exact⟨rfl,rfl,(fun h=>by cases h),fun _=>h1⟩
  ·cases h
 ·cases h
def Cc (tr:Tr):Tr:=tr.filter fun x => !x.2.1.isEmpty
theorem Vq (tc:List Nat):∀ ef:List (Nat×SO),Ms tc ef=yC tc (sH s ef)
 | []=>rfl
 | x::ef=>by
  have hc:tQ x.1 tc=tc.contains x.1:=by rw[Bool.eq_iff_iff,Kg,List.contains_iff_mem]
  simp only[Ms,yC,sH,List.map_cons,List.any_cons,hc]
  cases tc.contains x.1 with
  | true=>rfl
  | false=>simp only[Bool.false_or];exact Vq tc ef
theorem adY {i:Nat} {tc:List Nat} {ef:List (Nat×SO)} {tr:Tr} : Cc ((i,tc,yC tc (sH s ef))::tr)=BV i tc ef (Cc tr):=by
 unfold BV Cc
 cases tc with
 | nil=>rfl
 | cons b tc=>rw[List.filter_cons_of_pos (by rfl),← Vq (s:=s)]
theorem Kl {M:List Nat} {Nb:Nat} : ∀ {tr:Tr},CX M Nb (Cc tr)=true→CX M Nb tr=true
 | [],_=>rfl
 | x::l,h=>by
  unfold Cc at h
  have empty:∀ y z:Nat×List Nat×Bool,z.2.1 = []∨y.2.1 = []→CW M y z=true:=fun y z hz=>by
   unfold CW
   rcases hz with hz|hz<;>simp[hz]
  cases hx:x.2.1 with
  | nil =>
   rw[List.filter_cons_of_neg (by simp[hx])] at h
   simp only[CX,Bool.and_eq_true]
   refine⟨⟨by rw[hx];rfl,?_⟩,Kl h⟩
   rw[List.all_eq_true];intro y _;exact empty x y (.inr hx)
  | cons b tc =>
   rw[List.filter_cons_of_pos (by simp[hx])] at h
   simp only[CX,Bool.and_eq_true] at h ⊢
   refine⟨⟨h.1.1,?_⟩,Kl h.2⟩
   rw[List.all_eq_true];intro y hy
   cases hy2:y.2.1 with
   | nil=>exact empty x y (.inl hy2)
   | cons b' tc'=>exact List.all_eq_true.1 h.1.2 y (List.mem_filter.2 ⟨hy,by simp[hy2]⟩)
theorem Vr {β:Type} {T:rR} {d:Option Tmp} {x:SV} {K:rR→rf β} {r:β} (hd:∀ t,d=some t→t<T.length) (h:(BU T d x K).path C.Φ s=some r) :
  ∃ T',T'.length=T.length∧rR.den s T'=(rR.den s T).put d (x.den s)∧(K T').path C.Φ s=some r:=by
 unfold BU at h
 cases d with
 | none=>exact⟨T,rfl,rfl,h⟩
 | some d =>
  simp only at h
  rw[UE] at h
  exact⟨_,UG T d x,rR.den_set s T d x (hd d rfl),h⟩
theorem Vs {j:Nat} : ∀ {ef:List (Nat×SO)} {dt:List Nat},tQ j (Bc ef dt)=false→tQ j dt=false∧∀ x∈ef,x.1≠j
 | [],dt,h=>⟨h,fun x hx=>by simp at hx⟩
 | x::ef,dt,h=>by
  rw[Bc] at h
  obtain⟨h1,h2⟩:=Vs h
  unfold addN at h1
  split at h1
  ·rename_i hm
   refine⟨h1,fun y hy=>?_⟩
   rcases List.mem_cons.1 hy with rfl|hy
   ·rintro rfl;rw[hm] at h1;cases h1
   ·exact h2 y hy
  ·simp only[tQ] at h1
   split at h1
   ·cases h1
   ·rename_i hb
    refine⟨h1,fun y hy=>?_⟩
    rcases List.mem_cons.1 hy with rfl|hy
    ·rintro rfl;simp at hb
    ·exact h2 y hy
theorem Vt {j:Nat} : ∀ {ef:List (Nat×SO)} {H:SH},(∀ x∈ef,x.1≠j)→hget (El H ef) j=hget H j
 | [],H,_=>rfl
 | x::ef,H,h=>by
  rw[El,Vt (fun y hy=>h y (List.mem_cons_of_mem _ hy)),Pt,if_neg (fun e=>h x List.mem_cons_self e.symm)]
theorem Vu (q:Bool) (v:Value) (b:Bool):(JX q v b).den s = .v (zZ q v b):=by
 cases q with
 | true =>
  have:SV.dens s [BP v,.bool (.lit (r9 b))] = [v,Value.bool b].map .v:=by
   simp only[SV.dens,Md,SV.den,X.den,uB,List.map_cons,List.map_nil]
  simp only[JX,SV.den,this,Mc,zZ,if_true]
 | false=>simp only[JX,Md,zZ,Bool.false_eq_true,if_false]
theorem Vv {β:Type} {kd:IntKind} {n:X} {q:Bool} {z:Value} {K:SV→Facts→rf β} {r:β} : ∀ {es:List (Value×Value)} {fc:Facts},JW kd es=true→sZ s fc→(Mm kd n q z K es fc).path C.Φ s=some r →
  ∃ a fc',sZ s fc'∧(K a fc').path C.Φ s=some r∧((∃ v,BG kd (n.den s) es=some (some v)∧a.den s = .v (zZ q v true))∨(BG kd (n.den s) es=some none∧a.den s = .v (zZ q z false)))
 | [],fc,hk,hf,h=>⟨_,fc,hf,h,.inr ⟨rfl,Vu q z false⟩⟩
 | x::l,fc,hk,hf,h=>by
  simp only[JW] at hk
  simp only[Mm] at h
  cases hx:x.1 with
  | int k' m =>
   rw[hx] at hk h
   simp only at hk h
   cases hkk:vM kd k' with
   | false=>rw[hkk] at hk;cases hk
   | true =>
    rw[hkk] at hk
    simp only at hk
    have hke:=xz hkk
    obtain⟨fc',hf',h⟩:=BO hf h
    rw[C8] at h
    simp only[rQ,uB,X.den] at h
    unfold BG
    rw[hx]
    simp only[hke,if_true]
    cases hb:(n.den s==m) with
    | true =>
     rw[hb] at h
     have:n.den s=m:=by simpa using hb
     simp only[this,if_true]
     exact⟨_,fc',hf',h,.inl ⟨x.2,rfl,Vu q x.2 true⟩⟩
    | false =>
     rw[hb] at h
     have:¬ n.den s=m:=by simpa using hb
     simp only[this,if_false]
     rw[← hke]
     exact Vv hk hf' h
  | _=>rw[hx] at hk;cases hk
theorem adZ {op:Op} {ρ:Operand→Option SV} {ρ':Operand→Option AV} (hρ:RD s ρ ρ') {H:SH} {L:UQ} (h:P7 C.P op ρ H=some L) {G:rP} {k:Nat} :
  JW L.kd L.es=true∧Ab op ρ'=none∧FY op ρ'=none∧(∀ v,BG L.kd (L.n.den s) L.es=some (some v)→rV C.P G E op ρ' (SH.den s H) k=some (.v (zZ L.q v true),[L.k],[])) ∧
   (BG L.kd (L.n.den s) L.es=some none→rV C.P G E op ρ' (SH.den s H) k=some (.v (zZ L.q L.z false),[L.k],[])):=by
 unfold P7 at h
 split at h
 ·rename_i t x i q
  split at h
  ·rename_i j kd n hx hi
   split at h
   ·rename_i o ho
    split at h
    ·rename_i es ht hm
     split at h
     ·rename_i kt et hu
      split at h
      ·rename_i kd' z hkt hz
       split at h
       ·rename_i hk1 hk2
        cases h
        have e1:=xz hk1
        have a1:=hρ _ _ hx
        have a2:=hρ _ _ hi
        simp only[SV.den] at a1 a2
        have a3:=SH.den_map (s:=s) ho ht hm
        refine⟨hk2,rfl,rfl,fun v hv=>?_,fun hv=>?_⟩
        ·simp only at hv
         simp only[rV,a1,a2,AQ,a3,hu,hkt,e1,if_true,hv];rfl
        ·simp only at hv
         simp only[rV,a1,a2,AQ,a3,hu,hkt,e1,if_true,hv,hz];rfl
       ·cases h
      ·cases h
     ·cases h
    ·cases h
   ·cases h
  ·cases h
 ·cases h
theorem Vw (k:VK) (x:X):JY k x=Ah k x:=by cases k<;>rfl
theorem Vx:∀ (ks:List VK) (xs:List X),Mq ks xs=zR ks xs
 | [],_=>rfl
 | _::_,[]=>rfl
 | k::ks,x::xs=>by rw[Mq,zR,Vw,Vx ks xs]
theorem Vy:∀ (ks:List VK) (b:Nat),Mr b ks=rM b ks
 | [],_=>rfl
 | k::ks,b=>by rw[Mr,rM,Vy ks]
theorem Qx:∀ (ks:List VK) (ns:List Int),ns.length=ks.length→(sP ks ns).length=ks.length
 | [],_,_=>by simp[sP]
 | k::ks,[],h=>by simp at h
 | k::ks,n::ns,h=>by rw[sP,List.length_cons,List.length_cons,Qx ks ns (by simpa using h)]
theorem Qy (b:Nat) (ks:List VK):∀ n,(xB s b ks n).length=n*ks.length
 | 0=>by simp[xB]
 | n+1=>by rw[xB,List.length_append,Qy b ks n,Qx _ _ (BN _ _ _),Nat.add_mul,Nat.one_mul]
theorem Qz (b:Nat) (ks:List VK):∀ {n j:Nat},j<n→((xB s b ks n).drop (j*ks.length)).take ks.length=sP ks (vN s (b+j*ks.length) ks.length)
 | n+1,j,h=>by
  rw[xB]
  have hl:=Qy (s:=s) b ks n
  by_cases hj:j=n
  ·subst hj
   rw[List.drop_append_of_le_length (by rw[hl];exact Nat.le_refl _),List.drop_of_length_le (by rw[hl];exact Nat.le_refl _),List.nil_append,List.take_of_length_le (by rw[Qx _ _ (BN _ _ _)];exact Nat.le_refl _)]
  ·have hjn:j<n:=by omega
   have hm:(j+1)*ks.length≤n*ks.length:=Nat.mul_le_mul_right _ hjn
   rw[Nat.add_mul,Nat.one_mul] at hm
   rw[List.drop_append_of_le_length (by rw[hl];omega),List.take_append_of_le_length (by rw[List.length_drop,hl];omega)]
   exact Qz b ks hjn
theorem QA {H:SH} {k:Nat} {r:JO} (h:Mo H k=some r):SH.den s H k=some (.rd (r.n.den s).toNat (xB s r.b r.ks (r.n.den s).toNat)):=by
 unfold Mo at h
 split at h
 ·rename_i o ho
  split at h
  ·rename_i r' h1 h2 h3
   cases h
   exact SH.den_ora ho h1 h2 h3
  ·cases h
 ·cases h
theorem QB {j:Nat} {n:X} (h:((uz .lss .i64 (.lit (.ofNat j)) n).den s != 0)=true):j<(n.den s).toNat:=by
 rw[C8] at h
 simp only[rQ,uB,X.den] at h
 have:=of_decide_eq_true h
 have h2:(j:Int)<n.den s:=this
 omega
theorem ad1 {op:Op} {ρ:Operand→Option SV} {ρ':Operand→Option AV} (hρ:RD s ρ ρ') {H:SH} {L:UR} (h:P8 C.P op ρ H=some L) {G:rP} {k:Nat} (hc:(L.c.den s != 0)=true) :
  Ab op ρ'=none∧rV C.P G E op ρ' (SH.den s H) k=some (L.r.den s,[L.k],[]):=by
 unfold P8 at h
 split at h
 ·rename_i t x i
  split at h
  ·rename_i j kk kd m hx hi
   split at h
   ·rename_i r el hr hel
    split at h
    ·rename_i sz hsz
     split at h
     ·rename_i hb
      rw[uk] at h
      cases h
      have a1:=hρ _ _ hx
      have a2:=hρ _ _ hi
      have hlt:=QB hc
      refine⟨rfl,?_⟩
      simp only[SV.den,X.den] at a1 a2
      simp only[rV,a1,a2,zm,QA hr,hel,hsz]
      rw[if_pos ⟨by exact Int.natCast_nonneg _,by show(m:Int)<_;omega⟩]
      rfl
     ·cases h
    ·cases h
   ·cases h
  ·cases h
 ·rename_i t x
  split at h
  ·rename_i kk off hx
   split at h
   ·rename_i r hr
    rw[uk] at h
    have a1:=hρ _ _ hx
    simp only[SV.den] at a1
    split at h
    ·rename_i hb ha
     have hb:=sU.1 hb
     split at h
     ·rename_i sz hsz
      split at h
      ·rename_i hz h1
       have hz:=sU.1 hz
       have h1:=Nat.le_of_ble_eq_true h1
       rw[uk] at h
       cases h
       have hlt:=QB hc
       refine⟨rfl,?_⟩
       have hg:=Qz (s:=s) r.b r.ks hlt
       have hl:=Qy (s:=s) r.b r.ks (r.n.den s).toNat
       have hm:(off/r.ks.length+1)*r.ks.length≤(r.n.den s).toNat*r.ks.length:=Nat.mul_le_mul_right _ hlt
       rw[Nat.add_mul,Nat.one_mul,hb] at hm
       rw[hb] at hg
       simp only[rV,a1,xG,QA hr,vH,ha,hsz]
       rw[if_pos ⟨by rw[List.length_map,hl,hz];exact hm,by omega⟩]
       simp only[SV.den,Vx,Vy]
       obtain⟨v1,v2⟩:=Be s r.ks (r.b+off)
       rw[MC v1 v2,← List.map_drop,← List.map_take,hz,hg]
      ·cases h
     ·cases h
    ·rename_i hb ha
     have hb:=sU.1 hb
     split at h
     ·rename_i vk hks
      rw[uk] at h
      cases h
      have hlt:=QB hc
      refine⟨rfl,?_⟩
      have hg:=Qz (s:=s) r.b r.ks hlt
      rw[hb,hks] at hg
      simp only[rV,a1,xG,QA hr,vH,ha]
      have hx1:(xB s r.b r.ks (r.n.den s).toNat)[off]? = some (tN vk (s (r.b+off))):=by
       have e1:((xB s r.b [vk] (r.n.den s).toNat).drop off).take 1 = [tN vk (s (r.b+off))]:=hg
       rw[hks]
       have e2:(((xB s r.b [vk] (r.n.den s).toNat).drop off).take 1)[0]? = some (tN vk (s (r.b+off))):=by rw[e1];rfl
       rwa [List.getElem?_take_of_lt (by decide),List.getElem?_drop] at e2
      rw[List.getElem?_map,hx1,Vw]
      rw[MB (s:=s) (k:=vk) (x:=.var vk (r.b+off)) (n:=s (r.b+off)) rfl]
      rfl
     ·cases h
    ·cases h
   ·cases h
  ·cases h
 ·cases h
theorem Km (hC:wD C E) {cf:CF} {nt:Nat} (hcf:∀ g args H k nv fc r,(cf g args H k nv fc).path C.Φ s=some r→sZ s fc→yX C s g args H k r) {ops:Array Oper} {Nb:Nat} :
  ∀ (os:List Oper) (i:Nat) (T:rR) (H:SH) (tr:JV) (nv:Nat) (dt:List Nat) (fc:Facts) (out:OR),(zu C cf ops Nb i os T H tr nv dt fc).path C.Φ s=some out→sZ s fc→T.length=nt→(∀ o∈os,∀ t,o.dst=some t→t<nt) →
   (∀ w0 B0 (trf:Tr) (K:rT→ry→Tr→Prop),Cc trf=tr→(∀ trf',Cc trf'=out.tr→K (rR.den s out.T) (SH.den s out.H) trf')→uM C.P C.G E w0 B0 ops Nb i os (rR.den s T) (SH.den s H) trf K) ∧
   out.T.length=nt∧sZ s out.fc∧∀ j,tQ j out.dt=false→tQ j dt=false∧hget out.H j=hget H j
 | [],i,T,H,tr,nv,dt,fc,out,h,hfc,hT,hd=>by
  simp only[zu] at h
  cases h
  exact⟨fun w0 B0 trf K ht hK=>by rw[uM];exact hK trf ht,hT,hfc,fun j hj=>⟨hj,rfl⟩⟩
 | o::os,i,T,H,tr,nv,dt,fc,out,h,hfc,hT,hd=>by
  simp only[zu] at h
  obtain⟨q,fc1,hf1,hw,h⟩:=adT hfc h
  have hdo:∀ t,o.dst=some t→t<T.length:=by rw[hT];exact hd o List.mem_cons_self
  have hds:∀ o'∈os,∀ t,o'.dst=some t→t<nt:=fun o' ho'=>hd o' (List.mem_cons_of_mem _ ho')
  cases q with
  | false =>
   simp only at h
   obtain⟨T',hl,hden,h⟩:=Vr hdo h
   obtain⟨h1,h2,h3,h4⟩:=Km hC hcf os (i+1) T' H tr nv dt fc1 out h hf1 (hl.trans hT) hds
   refine⟨fun w0 B0 trf K ht hK=>?_,h2,h3,h4⟩
   have:=h1 w0 B0 trf K ht hK
   rw[hden] at this
   simp only[uM,hw,Ea];exact this
  | true =>
   simp only at h
   have step:∀ (r:SV) (tc:List Nat) (ef:List (Nat×SO)) (nv':Nat) (fc':Facts),sZ s fc'→(BU T o.dst r fun T=>Bb H ef fun H=>zu C cf ops Nb (Nat.succ i) os T H (BV i tc ef tr) nv' (Bc ef dt) fc').path C.Φ s=some out →
     (∀ w0 B0 (trf:Tr) (K:rT→ry→Tr→Prop),Cc trf=tr→(∀ trf',Cc trf'=out.tr→K (rR.den s out.T) (SH.den s out.H) trf')→uM C.P C.G E w0 B0 ops Nb (i+1) os ((rR.den s T).put o.dst (r.den s)) ((SH.den s H).puts (sH s ef)) ((i,tc,yC tc (sH s ef))::trf) K) ∧
     out.T.length=nt∧sZ s out.fc∧∀ j,tQ j out.dt=false→tQ j dt=false∧hget out.H j=hget H j:=by
    intro r tc ef nv' fc' hf' h
    obtain⟨T',hl,hden,h⟩:=Vr hdo h
    rw[UI] at h
    obtain⟨h1,h2,h3,h4⟩:=Km hC hcf os (i+1) T' _ _ nv' _ fc' out h hf' (hl.trans hT) hds
    refine⟨fun w0 B0 trf K ht hK=>?_,h2,h3,fun j hj=>?_⟩
    ·have:=h1 w0 B0 ((i,tc,yC tc (sH s ef))::trf) K (by rw[adY,ht]) hK
     rw[hden,UJ] at this
     exact this
    ·obtain⟨h5,h6⟩:=h4 j hj
     obtain⟨h7,h8⟩:=Vs h5
     exact⟨h7,by rw[h6,Vt h8]⟩
   split at h
   ·cases h
   ·rename_i g args hcs
    rw[uk] at h
    obtain⟨r,hr,h⟩:=rf.path_bind_some h
    have sp:=hcf _ _ _ _ _ _ _ hr hf1
    obtain⟨h1,h2⟩:=step r.r r.tc r.ef r.nv r.fc sp.fc h
    refine⟨fun w0 B0 trf K ht hK=>?_,h2⟩
    obtain⟨e1,e2,e3⟩:=adV (E:=E) (De s T) hcs (P:=C.P) (G:=C.G) (H:=SH.den s H) (k:=Nb+2*i)
    simp only[uM,hw,Aa,e2,e3,e1]
    exact⟨_,_,_,sp.ok w0 B0,sp.tc,sp.ef,h1 w0 B0 trf K ht hK⟩
   ·split at h
    ·rename_i q x y hp
     obtain⟨fc2,hf2,h⟩:=BO hf1 h
     obtain⟨x',y',e1,e2,e3⟩:=adW (s:=s) (De s T) hp
     cases hq:(q.den s != 0) with
     | true =>
      rw[hq] at h e1
      simp only at h
      cases x with
      | none=>cases h
      | some r =>
       obtain⟨h1,h2⟩:=step r [] [] nv fc2 hf2 (by simpa [Bb,BV,Bc] using h)
       refine⟨fun w0 B0 trf K ht hK=>?_,h2⟩
       simp only[uM,hw,Aa,e1,e2 r rfl]
       exact h1 w0 B0 trf K ht hK
     | false =>
      rw[hq] at h e1
      simp only at h
      cases y with
      | none=>cases h
      | some r =>
       obtain⟨h1,h2⟩:=step r [] [] nv fc2 hf2 (by simpa [Bb,BV,Bc] using h)
       refine⟨fun w0 B0 trf K ht hK=>?_,h2⟩
       simp only[uM,hw,Aa,Ea,e1,e3 r rfl]
       exact h1 w0 B0 trf K ht hK
    ·split at h
     ·rename_i L hL
      obtain⟨k1,k2,k3,k4,k5⟩:=adZ (E:=E) (s:=s) (De s T) hL (G:=C.G) (k:=Nb+2*i)
      obtain⟨a,fc2,hf2,h,hv⟩:=Vv k1 hf1 h
      obtain⟨h1,h2⟩:=step a [L.k] [] nv fc2 hf2 (by simpa [Bb,Bc] using h)
      refine⟨fun w0 B0 trf K ht hK=>?_,h2⟩
      have h3:=h1 w0 B0 trf K ht hK
      have hn:rV C.P C.G E o.op (uU (rR.den s T)) (SH.den s H) (Nb+2*i)=some (a.den s,[L.k],[]):=by
       rcases hv with⟨v,v1,v2⟩|⟨v1,v2⟩
       ·rw[v2];exact k4 v v1
       ·rw[v2];exact k5 v1
      simp only[uM,hw,Aa,k2,hn]
      exact h3
     split at h
     ·rename_i L hL
      obtain⟨fc2,hf2,h⟩:=BO hf1 h
      cases hq:(L.c.den s != 0) with
      | false=>rw[hq] at h;cases h
      | true =>
       rw[hq] at h
       simp only at h
       obtain⟨k2,hn⟩:=ad1 (E:=E) (s:=s) (De s T) hL (G:=C.G) (k:=Nb+2*i) hq
       obtain⟨h1,h2⟩:=step L.r [L.k] [] nv fc2 hf2 (by simpa [Bb,Bc] using h)
       refine⟨fun w0 B0 trf K ht hK=>?_,h2⟩
       have h3:=h1 w0 B0 trf K ht hK
       simp only[uM,hw,Aa,k2,hn]
       exact h3
     ·rw[uk] at h
      obtain⟨r,hr,h⟩:=rf.path_bind_some h
      have hn:=adw hC.se hf1 (De s T) hr
      obtain⟨h1,h2⟩:=step r.1 r.2.1 r.2.2 nv fc1 hf1 h
      refine⟨fun w0 B0 trf K ht hK=>?_,h2⟩
      have h3:=h1 w0 B0 trf K ht hK
      simp only[uM,hw,Aa]
      cases hp:Ab o.op (uU (rR.den s T)) with
      | none=>simp only[hn];exact h3
      | some z =>
       obtain⟨c,x,y⟩:=z
       obtain⟨e1,e2,e3,e4⟩:=adX hp hn
       rw[e1,e2] at h3
       cases c with
       | true=>simp only[Aa,e3 rfl];exact h3
       | false=>simp only[Ea,e4 rfl];exact h3
theorem zx {r:Exit×St} {t:rf (Exit×St)} {f:Exit×St→rf (Exit×St)} (h:(t.bind f).path C.Φ s=some r):∃ ex st,t.path C.Φ s=some (ex,st)∧(f (ex,st)).path C.Φ s=some r:=by
 obtain⟨⟨ex,st⟩,h1,h2⟩:=rf.path_bind_some h;exact⟨ex,st,h1,h2⟩
theorem EA {x:Exit} {r y:Exit×St} {A:rf (Exit×St)} (h:(match x with | .normal=>A|_=>.leaf y:rf (Exit×St)).path C.Φ s=some r):(x = .normal∧A.path C.Φ s=some r)∨(x ≠ .normal∧r=y):=by
 cases x<;>first|exact .inl ⟨rfl,h⟩|(cases h;exact .inr ⟨fun e=>(by cases e),rfl⟩)
theorem EB {K:Nat→rT→ry→Prop} {Q:yD} {x:Exit} {N:Nat} {T:rT} {H:ry} (hx:x ≠ .normal) (h:Q x N T H):F5 K Q x N T H:=by
 cases x<;>first|exact absurd rfl hx|exact h
theorem Aj.trans {c c' c2:Code} {st st1 st2:St} {ug ex2:Exit} (h1:Aj C E s c st ug st1) (h2:Aj C E s c' st1 ex2 st2) (aw:∀ w0 B0,AW ⟨C.P,C.G,E,w0,B0,st.T.length⟩ c2 (wX s ex2 st2) st.N (rR.den s st.T) (SH.den s st.H)):Aj C E s c2 st ex2 st2 :=
 ⟨aw,h2.len.trans h1.len,fun j hj=>by obtain⟨a,b⟩:=h2.dt j hj;obtain⟨a',b'⟩:=h1.dt j a;exact⟨a',b.trans b'⟩,h2.fc⟩
def Ce (id:Nat):Exit→Exit
 | .exit id'=>if id'=id then .normal else .exit id'
 | x=>x
theorem GI (hC:wD C E):∀ n:Nat,Kj C E s (exec C n) ∧
  ∀ c st ex st',(exec C n (.loop c) st).path C.Φ s=some (ex,st')→sZ s st.fc→∀ w0 B0,xJ ⟨C.P,C.G,E,w0,B0,st.T.length⟩ c (wX s ex st') n st.N (rR.den s st.T) (SH.den s st.H)
 | 0=>⟨fun c st ex st' h=>(by cases h),fun c st ex st' h=>(by cases h)⟩
 | n+1=>by
  obtain⟨ih,ihl⟩:=GI hC n
  have loop:∀ c st ex st',(exec C (n+1) (.loop c) st).path C.Φ s=some (ex,st')→sZ s st.fc→Aj C E s (.loop c) st ex st'∧∀ w0 B0,xJ ⟨C.P,C.G,E,w0,B0,st.T.length⟩ c (wX s ex st') (n+1) st.N (rR.den s st.T) (SH.den s st.H):=by
   intro c st ex st' h hf
   simp only[exec] at h
   obtain⟨ug,st1,h1,h2⟩:=zx h
   have s1:=ih _ _ _ _ h1 hf
   rcases EA h2 with⟨rfl,h3⟩|⟨hx,h3⟩
   ·have s2:=ih _ _ _ _ h3 s1.fc
    have hr:∀ w0 B0,xJ ⟨C.P,C.G,E,w0,B0,st.T.length⟩ c (wX s ex st') (n+1) st.N (rR.den s st.T) (SH.den s st.H):=fun w0 B0=>by
     rw[F8]
     refine(s1.aw w0 B0).mono ?_
     rintro x N T H ⟨rfl,rfl,rfl,rfl⟩
     have:=ihl _ _ _ _ h3 s1.fc w0 B0
     rw[s1.len] at this
     exact this
    exact⟨s1.trans s2 fun w0 B0=>F7 _ (hr w0 B0),hr⟩
   ·obtain⟨rfl,rfl⟩:ug=ex∧st1=st':=by cases h3;exact⟨rfl,rfl⟩
    have hr:∀ w0 B0,xJ ⟨C.P,C.G,E,w0,B0,st.T.length⟩ c (wX s ug st1) (n+1) st.N (rR.den s st.T) (SH.den s st.H):=fun w0 B0=>by
     rw[F8]
     refine(s1.aw w0 B0).mono ?_
     rintro x N T H ⟨rfl,rfl,rfl,rfl⟩
     exact EB hx ⟨rfl,rfl,rfl,rfl⟩
    exact⟨⟨fun w0 B0=>F7 _ (hr w0 B0),s1.len,s1.dt,s1.fc⟩,hr⟩
  refine⟨?_,fun c st ex st' h hf=>(loop c st ex st' h hf).2⟩
  intro c st ex st' h hf
  cases c with
  | skip=>simp only[exec] at h;cases h;exact⟨fun w0 B0=>OH ⟨rfl,rfl,rfl,rfl⟩,rfl,fun j hj=>⟨hj,rfl⟩,hf⟩
  | label l=>simp only[exec] at h;cases h;exact⟨fun w0 B0=>OI ⟨rfl,rfl,rfl,rfl⟩,rfl,fun j hj=>⟨hj,rfl⟩,hf⟩
  | exit id=>simp only[exec] at h;cases h;exact⟨fun w0 B0=>OJ ⟨rfl,rfl,rfl,rfl⟩,rfl,fun j hj=>⟨hj,rfl⟩,hf⟩
  | ret=>simp only[exec] at h;cases h;exact⟨fun w0 B0=>OL ⟨rfl,rfl,rfl,rfl⟩,rfl,fun j hj=>⟨hj,rfl⟩,hf⟩
  | seq a b =>
   simp only[exec] at h
   obtain⟨ug,st1,h1,h2⟩:=zx h
   have s1:=ih _ _ _ _ h1 hf
   rcases EA h2 with⟨rfl,h3⟩|⟨hx,h3⟩
   ·have s2:=ih _ _ _ _ h3 s1.fc
    refine s1.trans s2 fun w0 B0=>F6 ((s1.aw w0 B0).mono ?_)
    rintro x N T H ⟨rfl,rfl,rfl,rfl⟩
    have:=s2.aw w0 B0
    rw[s1.len] at this
    exact this
   ·cases h3
    refine⟨fun w0 B0=>F6 ((s1.aw w0 B0).mono ?_),s1.len,s1.dt,s1.fc⟩
    rintro x N T H ⟨rfl,rfl,rfl,rfl⟩
    exact EB hx ⟨rfl,rfl,rfl,rfl⟩
  | cond c a b =>
   simp only[exec] at h
   split at h
   ·rename_i q hq
    have hd:=De s st.T _ _ hq
    obtain⟨fc',hf',h⟩:=BO hf h
    simp only[SV.den] at hd
    cases hb:(q.den s != 0) with
    | true =>
     rw[hb] at h hd
     have s1:=ih _ _ _ _ h hf'
     exact⟨fun w0 B0=>OM hd (s1.aw w0 B0),s1.len,s1.dt,s1.fc⟩
    | false =>
     rw[hb] at h hd
     have s1:=ih _ _ _ _ h hf'
     exact⟨fun w0 B0=>OO hd (s1.aw w0 B0),s1.len,s1.dt,s1.fc⟩
   ·cases h
  | block id c =>
   simp only[exec] at h
   obtain⟨ug,st1,h1,h2⟩:=zx h
   have s1:=ih _ _ _ _ h1 hf
   have key:ex=Ce id ug∧st'=st1:=by
    cases ug with
    | exit id' =>
     simp only at h2
     simp only[Ce]
     split at h2
     ·rename_i hb;cases h2;rw[if_pos (sU.1 hb)];exact⟨rfl,rfl⟩
     ·rename_i hb;cases h2
      rw[if_neg (fun e=>by rw[e] at hb;simp at hb)];exact⟨rfl,rfl⟩
    | _=>cases h2;exact⟨rfl,rfl⟩
   obtain⟨rfl,rfl⟩:=key
   refine⟨fun w0 B0=>OP ((s1.aw w0 B0).mono ?_),s1.len,s1.dt,s1.fc⟩
   rintro x N T H ⟨rfl,rfl,rfl,rfl⟩
   cases x with
   | exit id' =>
    simp only[Jy,Ce]
    split
    ·exact⟨rfl,rfl,rfl,rfl⟩
    ·exact⟨rfl,rfl,rfl,rfl⟩
   | _=>exact⟨rfl,rfl,rfl,rfl⟩
  | loop c=>exact(loop c st ex st' h hf).1
  | scope c =>
   simp only[exec] at h
   obtain⟨ug,st1,h1,h2⟩:=zx h
   have s1:=ih _ _ _ _ h1 hf
   have key:(∀ l,ug ≠ .goto l)∧ex=ug∧st'=st1:=by
    cases ug<;>first|(cases h2;exact⟨fun l e=>(by cases e),rfl,rfl⟩)|cases h2
   obtain⟨hg,rfl,rfl⟩:=key
   exact⟨fun w0 B0=>OT (s1.aw w0 B0) (fun l N T H e=>hg l e.1.symm),s1.len,s1.dt,s1.fc⟩
  | region id ops draw =>
   simp only[exec] at h
   obtain⟨out,h1,h2⟩:=rf.path_bind_some h
   have dst:∀ o∈ops.toList,∀ t,o.dst=some t→t<st.T.length:=by
    unfold regionEnd at h2
    split at h2
    ·split at h2
     ·rename_i hdr _
      simp only[drawOK,Bool.and_eq_true] at hdr
      exact BI hdr.1.2
     ·cases h2
     ·cases h2
    ·split at h2
     ·rename_i hdr;exact BI hdr
     ·cases h2
   obtain⟨e1,e2,e3,e4⟩:=Km hC (nt:=st.T.length) (fun g args H k nv fc r hr hf=>Qw hC ih hr hf) ops.toList 0 st.T st.H [] st.nv st.dt st.fc out h1 hf rfl dst
   unfold regionEnd at h2
   cases draw with
   | true =>
    simp only at h2
    split at h2
    ·rename_i hdr htr
     rw[uk] at h2
     cases h2
     refine⟨fun w0 B0=>OV hC.eq hC.mix hdr (e1 w0 B0 [] _ rfl ?_),e2,e4,e3⟩
     intro trf htf
     refine⟨?_,rfl,rfl,rfl,rfl⟩
     rw[← htf] at htr
     exact Kl htr
    ·cases h2
    ·cases h2
   | false =>
    simp only at h2
    split at h2
    ·rename_i hdr
     rw[uk] at h2
     cases h2
     exact⟨fun w0 B0=>OU hC.eq hdr (e1 w0 B0 [] _ rfl fun trf htf=>⟨rfl,rfl,rfl,rfl⟩),e2,e4,e3⟩
    ·cases h2
  | rangeFunc f ps a b=>simp only[exec] at h;cases h
  | goto l=>simp only[exec] at h;cases h
  | refuse w=>simp only[exec] at h;cases h
end
open Go.RowKit
def rF:List Int→Nat→Int
 | [],_=>0
 | x::_,0=>x
 | _::l,n+1=>rF l n
theorem Vz:∀ (l m:List Int) (i:Nat),i<l.length→rF (l++m) i=rF l i
 | x::l,m,0,_=>rfl
 | x::l,m,i+1,h=>Vz l m i (by simpa using h)
 | [],m,i,h=>by simp at h
theorem QC:∀ (l m q:List Int),vN (rF (l++m++q)) l.length m.length=m
 | l,[],q=>rfl
 | l,x::m,q=>by
  rw[List.length_cons,vN]
  have h1:rF (l++x::m++q) l.length=x:=by
   induction l with
   | nil=>rfl
   | cons y l ih=>exact ih
  have h2:=QC (l ++ [x]) m q
  rw[h1]
  simp only[List.append_assoc,List.singleton_append,List.length_append,List.length_cons,List.length_nil,List.cons_append,List.nil_append,Nat.zero_add] at h2 ⊢
  rw[h2]
def X.ev (l:List Int):X→Int
 | .lit n=>n
 | .var k i=>Gv k (rF l i)
 | .bin op k a b=>fold op k (a.ev l) (b.ev l)
 | .conv k a=>uN k (a.ev l)
 | .com k a=>fold .xor k (match k.signed with|true => -1|false=>.ofNat (xK k-1)) (a.ev l)
 | .not a=>r9 (zI (sO (a.ev l)))
 | .and a b=>match sO (a.ev l) with|true=>r9 (sO (b.ev l))|false=>0
 | .beq a b=>r9 (match sO (a.ev l) with|true=>sO (b.ev l)|false=>zI (sO (b.ev l)))
 | .min a b=>match wz (b.ev l) (a.ev l) with|true=>b.ev l|false=>a.ev l
 | .max a b=>match wz (a.ev l) (b.ev l) with|true=>b.ev l|false=>a.ev l
 | .ite c a b=>match sO (c.ev l) with|true=>a.ev l|false=>b.ev l
 | .dlen a=>Int.ofNat (Ad (a.ev l).toNat)
theorem ad2 (k:IntKind) (n:Int):fold .xor k (match k.signed with|true => -1|false=>.ofNat (xK k-1)) n=JJ k n:=by
 have:=Ux (fun _=>0) k (.lit n)
 unfold LZ at this
 simp only[Ee,X.den] at this
 exact this
theorem X.ev_den (l:List Int):∀ x:X,x.ev l=x.den (rF l)
 | .lit n=>rfl
 | .var k i=>UY k _
 | .bin op k a b=>by simp only[X.ev,X.den,Eh,X.ev_den l a,X.ev_den l b]
 | .conv k a=>by simp only[X.ev,X.den,uo,X.ev_den l a]
 | .com k a=>by simp only[X.ev,X.den,ad2,X.ev_den l a]
 | .not a=>by simp only[X.ev,X.den,yS,uO,X.ev_den l a]
 | .and a b=>by
  simp only[X.ev,X.den,uO,X.ev_den l a,X.ev_den l b]
  cases (a.den (rF l) != 0)<;>rfl
 | .beq a b=>by
  simp only[X.ev,X.den,uO,yS,X.ev_den l a,X.ev_den l b]
  cases (a.den (rF l) != 0)<;>cases (b.den (rF l) != 0)<;>rfl
 | .min a b=>by
  simp only[X.ev,X.den,yR,X.ev_den l a,X.ev_den l b]
  by_cases h:b.den (rF l)<a.den (rF l)
  ·rw[decide_eq_true h,if_pos h]
  ·rw[decide_eq_false h,if_neg h]
 | .max a b=>by
  simp only[X.ev,X.den,yR,X.ev_den l a,X.ev_den l b]
  by_cases h:a.den (rF l)<b.den (rF l)
  ·rw[decide_eq_true h,if_pos h]
  ·rw[decide_eq_false h,if_neg h]
 | .ite c a b=>by
  simp only[X.ev,X.den,uO,X.ev_den l a,X.ev_den l b,X.ev_den l c]
  by_cases h:c.den (rF l)=0
  ·rw[if_pos h,h];rfl
  ·rw[if_neg h,show(c.den (rF l) != 0)=true by simpa using h]
 | .dlen a=>by simp only[X.ev,X.den,X.ev_den l a]
def evs {β:Sort _} (l:List Int):List X→(List Int→β)→β
 | [],K=>K []
 | x::xs,K=>Ed (x.ev l) fun n=>evs l xs fun r=>K (n::r)
theorem zy {β:Sort _} (l:List Int):∀ (xs:List X) (K:List Int→β),evs l xs K=K (xs.map (X.den (rF l)))
 | [],K=>rfl
 | x::xs,K=>by rw[evs,Ee,zy l xs,X.ev_den];rfl
def vw (Φ:uI):rf SV→List Int→Option (SV×List Int)
 | .leaf a,l=>some (a,l)
 | .ite c a b,l=>match sO (c.ev l) with|true=>vw Φ a l|false=>vw Φ b l
 | .call f args _ n t,l=>evs l args fun xs=>match Nat.beq (Φ f xs).length n with|true=>vw Φ t (l++Φ f xs)|false=>none
 | .stuck _,_=>none
def vR (n:Nat):X→Bool
 | .lit _=>true
 | .var _ i=>Nat.blt i n
 | .bin _ _ a b=>sV (vR n a) (vR n b)
 | .conv _ a=>vR n a
 | .com _ a=>vR n a
 | .not a=>vR n a
 | .and a b=>sV (vR n a) (vR n b)
 | .beq a b=>sV (vR n a) (vR n b)
 | .min a b=>sV (vR n a) (vR n b)
 | .max a b=>sV (vR n a) (vR n b)
 | .ite c a b=>sV (vR n c) (sV (vR n a) (vR n b))
 | .dlen a=>vR n a
def MG (n:Nat):List X→Bool
 | []=>true
 | x::l=>sV (vR n x) (MG n l)
def Bf (n:Nat):rf SV→Bool
 | .leaf _=>true
 | .ite c a b=>sV (vR n c) (sV (Bf n a) (Bf n b))
 | .call _ args base m t=>sV (Nat.beq base n) (sV (MG n args) (Bf (n+m) t))
 | .stuck _=>true
theorem wY {l m:List Int} : ∀ {x:X},vR l.length x=true→x.den (rF (l++m))=x.den (rF l)
 | .lit n,_=>rfl
 | .var k i,h=>by simp only[X.den];rw[Vz _ _ _ (by simpa [vR,Nat.blt_eq] using h)]
 | .bin _ _ a b,h=>by have h:=sF h;simp only[X.den,wY h.1,wY h.2]
 | .conv _ a,h=>by simp only[X.den,wY (x:=a) h]
 | .com _ a,h=>by simp only[X.den,wY (x:=a) h]
 | .not a,h=>by simp only[X.den,wY (x:=a) h]
 | .and a b,h=>by have h:=sF h;simp only[X.den,wY h.1,wY h.2]
 | .beq a b,h=>by have h:=sF h;simp only[X.den,wY h.1,wY h.2]
 | .min a b,h=>by have h:=sF h;simp only[X.den,wY h.1,wY h.2]
 | .max a b,h=>by have h:=sF h;simp only[X.den,wY h.1,wY h.2]
 | .ite c a b,h=>by have h:=sF h;have h2:=sF h.2;simp only[X.den,wY h.1,wY h2.1,wY h2.2]
 | .dlen a,h=>by simp only[X.den,wY (x:=a) h]
theorem VA {l m:List Int} : ∀ {xs:List X},MG l.length xs=true→xs.map (X.den (rF (l++m)))=xs.map (X.den (rF l))
 | [],_=>rfl
 | x::xs,h=>by have h:=sF h;rw[List.map_cons,List.map_cons,wY h.1,VA h.2]
theorem EC {Φ:uI} : ∀ {t:rf SV} {l:List Int} {a:SV} {l':List Int},vw Φ t l=some (a,l')→Bf l.length t=true→t.path Φ (rF l')=some a∧∃ m,l'=l++m
 | .leaf a,l,b,l',h,_=>by simp only[vw,Option.some.injEq,Prod.mk.injEq] at h;obtain⟨rfl,rfl⟩:=h;exact⟨rfl,[],by simp⟩
 | .ite c a b,l,v,l',h,hs=>by
  have hs:=sF hs;have hs2:=sF hs.2
  simp only[vw,uO,X.ev_den] at h
  split at h
  ·rename_i hc
   obtain⟨h1,m,rfl⟩:=EC h hs2.1
   refine⟨?_,m,rfl⟩
   rw[rf.path,wY hs.1,if_neg (by simpa using hc)];exact h1
  ·rename_i hc
   obtain⟨h1,m,rfl⟩:=EC h hs2.2
   refine⟨?_,m,rfl⟩
   rw[rf.path,wY hs.1,if_pos (by simpa using hc)];exact h1
 | .call f args base n t,l,v,l',h,hs=>by
  have hs:=sF hs;have hs2:=sF hs.2
  have hb:=sU.1 hs.1;subst hb
  simp only[vw,zy] at h
  split at h
  ·rename_i hn
   have hn:=sU.1 hn;subst hn
   obtain⟨h1,m,rfl⟩:=EC h (by rw[List.length_append];exact hs2.2)
   refine⟨?_,_,List.append_assoc _ _ _⟩
   rw[rf.path,if_pos]
   ·exact h1
   ·unfold Ej
    have e:=VA (m:=Φ f (args.map (X.den (rF l)))++m) hs2.1
    rw[List.append_assoc,e,← List.append_assoc]
    exact QC l _ m
  ·cases h
 | .stuck w,l,v,l',h,_=>by cases h
def xP (r:List Sh) (a:SV):List SV:=match r with
 | [_]=>[a]
 | _=>match a with | .tup m=>m|a=>[a]
def rH (Φ:uI) (ct:Ct) (t:rf SV) (l:List Int):List Int:=match vw Φ t l with
 | some (a,l')=>match wW ct.r (xP ct.r a) with
  | some xs=>evs l' xs id
  | none=>[]
 | none=>[]
def okF (Φ:uI) (ct:Ct) (t:rf SV) (l:List Int):Prop:=∃ a l' xs,vw Φ t l=some (a,l')∧wW ct.r (xP ct.r a)=some xs
theorem MH {Φ:uI} {ct:Ct} {t:rf SV} {l:List Int} (h:okF Φ ct t l):(rH Φ ct t l).length=(ru ct.r).length:=by
 obtain⟨a,l',xs,h1,h2⟩:=h
 unfold rH
 simp only[h1,h2,zy,id,List.length_map,(Dj (fun _=>0) h2).2]
theorem MI (l m:List Int):vN (rF (l++m)) 0 l.length=l:=by
 have:=QC [] l m;simpa using this
theorem ad3 {C:sW} {E:tC} {s:rD} (hC:wD C E) {n:Nat} {g:FuncId} {args:List SV} {nv:Nat} {a:SV} {vs:List Value} {v:Value} (h:(rY C n g args nv).path C.Φ s=some a) (ha:SV.dens s args=vs.map .v) (hv:a.den s = .v v) :
  PC C.P C.G g vs v:=by
 unfold rY at h
 split at h
 ·cases h
 ·rename_i fn hf
  split at h
  ·cases h
  ·rename_i cd hb
   split at h
   ·rename_i hl
    obtain⟨⟨ex,st⟩,h1,h2⟩:=rf.path_bind_some h
    have sp:=(GI (E:=E) (s:=s) hC n).1 _ _ _ _ h1 (fun x hx=>by cases hx)
    have hlen:(uY args fn.ntmps).length=fn.ntmps:=Ex _ _ (Nat.le_of_ble_eq_true hl)
    have hvl:vs.length=args.length:=by have:=congrArg List.length ha;rw[zo,List.length_map] at this;exact this.symm
    refine OZ E hf hb (hC.nm g fn hf (by rw[hb];rfl)) (by rw[hvl];exact hl) fun w=>?_
    have hA:=sp.aw w sG.nil
    simp only[hlen,Kh,ha] at hA
    have key:∀ rs,vQ C.P st.T st.H fn.results.toList=some rs→tO rs=a→∃ rs',yE C.P C.G (rR.den s st.T) (SH.den s st.H) fn.results.toList=some rs'∧Ac rs' = .v v:=fun rs hrs e =>
     ⟨_,Ey s hrs,by rw[GG,e,hv]⟩
    have hx:(ex = .normal∨ex = .ret)∧∃ rs,vQ C.P st.T st.H fn.results.toList=some rs∧tO rs=a:=by
     rcases Kk h2 with⟨rfl,h3⟩|⟨rfl,h3⟩
     ·split at h3
      ·rename_i rs hrs;cases h3;exact⟨.inl rfl,rs,hrs,rfl⟩
      ·cases h3
     ·split at h3
      ·rename_i rs hrs;cases h3;exact⟨.inr rfl,rs,hrs,rfl⟩
      ·cases h3
    obtain⟨hx,rs,hrs,e⟩:=hx
    refine AW.mono (show AW _ cd (wX s ex st) 0 _ _ from hA) ?_
    rintro x N T H ⟨rfl,rfl,rfl,rfl⟩
    rcases hx with rfl|rfl
    ·exact key rs hrs e
    ·exact key rs hrs e
   ·cases h
theorem MJ {s:rD} {r:List Sh} {a:SV} {vs:List Value} (h:SV.dens s (xP r a)=vs.map .v) (hl:vs.length=r.length):a.den s = .v (tq vs):=by
 unfold xP at h
 split at h
 ·match vs,hl with
  | [v],_=>simpa [SV.dens,tq] using h
 ·rename_i hr
  have tup:∀ m,SV.dens s m=vs.map .v→(SV.tup m).den s = .v (tq vs):=fun m hm=>by
   simp only[SV.den,hm,Mc]
   match vs,hl with
   | [],_=>rfl
   | [v],hl=>exfalso;match r,hl with | [x],_=>exact hr x rfl
   | _::_::_,_=>rfl
  split at h
  ·exact tup _ h
  ·rename_i hnt
   exfalso
   have h1:=congrArg List.length h
   rw[zo,List.length_map,hl] at h1
   match r,h1 with
   | [x],_=>exact hr x rfl
theorem GJ:∀ (hs:List Sh) (ns:List Int),(rX hs ns).length=hs.length
 | [],_=>rfl
 | h::hs,ns=>by rw[rX,List.length_cons,GJ hs,List.length_cons]
theorem VB {C:sW} {E:tC} (hC:wD C E) {n:Nat} {g:FuncId} {ct:Ct} {t:rf SV} (h:rY C n g (rO ct.a (rM 0 (ru ct.a))) (ru ct.a).length=t) (hs:Bf (ru ct.a).length t=true)
  (l:List Int) (hl:l.length=(ru ct.a).length) (ho:okF C.Φ ct t l) :
  (rH C.Φ ct t l).length=(ru ct.r).length∧PC C.P C.G g (rX ct.a l) (tq (rX ct.r (rH C.Φ ct t l))):=by
 refine⟨MH ho,?_⟩
 obtain⟨a,l',xs,h1,h2⟩:=ho
 obtain⟨h3,m,rfl⟩:=EC h1 (by rw[hl];exact hs)
 rw[← h] at h3
 obtain⟨h4,h5⟩:=Be (rF (l++m)) (ru ct.a) 0
 rw[← hl,MI] at h4
 have hf:=Dj (rF (l++m)) h2
 refine ad3 hC h3 (BX h4 h5) ?_
 have:rH C.Φ ct t l=xs.map (X.den (rF (l++m))):=by unfold rH;simp only[h1,h2,zy,id]
 rw[this]
 exact MJ hf.1 (GJ _ _)
def yY (cf:FuncId→Option Ct) (ct:Ct) (n:Nat):rf SV→Bool
 | .leaf a=>(wW ct.r (xP ct.r a)).isSome
 | .ite c a b=>sV (vR n c) (sV (yY cf ct n a) (yY cf ct n b))
 | .call f args base m t=>match cf f with
  | some c=>sV (Nat.beq base n) (sV (MG n args) (sV (Nat.beq args.length (ru c.a).length) (sV (Nat.beq m (ru c.r).length) (yY cf ct (n+m) t))))
  | none=>false
 | .stuck _=>false
theorem ED {cf:FuncId→Option Ct} {ct:Ct} : ∀ {t:rf SV} {n:Nat},yY cf ct n t=true→Bf n t=true
 | .leaf a,n,_=>rfl
 | .ite c a b,n,h=>by
  have h:=sF h;have h2:=sF h.2
  simp only[Bf,h.1,ED h2.1,ED h2.2];rfl
 | .call f args base m t,n,h=>by
  simp only[yY] at h
  split at h
  ·have h:=sF h;have h2:=sF h.2;have h3:=sF h2.2;have h4:=sF h3.2
   simp only[Bf,h.1,h2.1,ED h4.2];rfl
  ·cases h
 | .stuck _,n,h=>by cases h
structure vC (C:sW) (E:tC):Prop where
 ok:wD C E
 ct:∀ (g:FuncId) (ct:Ct),C.ct g=some ct→∀ l:List Int,l.length=(ru ct.a).length→(C.Φ g l).length=(ru ct.r).length
 nt:∀ (g:FuncId) (ct:Ct),C.nt g=some ct→∀ l:List Int,l.length=(ru ct.a).length→(C.Φ g l).length=(ru ct.r).length
 sl:∀ (g:FuncId) (c:vP),c∈C.sl g→∀ l:List Int,l.length=(ru c.a++c.ks).length→(C.Φ c.id l).length=(ru c.r).length
theorem MK {C:sW} {E:tC} (hC:vC C E) {ct:Ct} : ∀ {t:rf SV} {l:List Int},yY C.ct ct l.length t=true→okF C.Φ ct t l
 | .leaf a,l,h=>by
  obtain⟨xs,hx⟩:=Option.isSome_iff_exists.1 (show(wW ct.r (xP ct.r a)).isSome=true from h)
  exact⟨a,l,xs,rfl,hx⟩
 | .ite c a b,l,h=>by
  have h:=sF h;have h2:=sF h.2
  unfold okF
  simp only[vw]
  cases sO (c.ev l) with
  | true=>exact MK hC h2.1
  | false=>exact MK hC h2.2
 | .call f args base m t,l,h=>by
  simp only[yY] at h
  split at h
  ·rename_i c hc
   have h:=sF h;have h2:=sF h.2;have h3:=sF h2.2;have h4:=sF h3.2
   have e1:=sU.1 h3.1;have e2:=sU.1 h4.1
   unfold okF
   simp only[vw,zy]
   have hl:=(hC.ct f c hc (args.map (X.den (rF l))) (by rw[List.length_map];exact e1))
   rw[hl,e2]
   simp only[Nat.beq_refl]
   refine MK hC ?_
   rw[List.length_append,hl,← e2];exact h4.2
  ·cases h
 | .stuck _,l,h=>by cases h
structure sj where
 g:FuncId
 ct:Ct
 F:List Int→List Int
def vS:List sj→FuncId→Option sj
 | [],_=>none
 | x::l,g=>match Nat.beq x.g g with|true=>some x|false=>vS l g
def GK (C : sW) (L : List sj) : sW :=
  { C with ct := fun g => match vS L g with | some e => some e.ct | none => C.ct g
           Φ := fun g l => match vS L g with | some e => e.F l | none => C.Φ g l
           nt := fun _ => none
           sl := fun _ => [] }
def rG (P:Program) (G:rP) (e:sj):Prop:=∀ l:List Int,l.length=(ru e.ct.a).length→(e.F l).length=(ru e.ct.r).length∧PC P G e.g (rX e.ct.a l) (tq (rX e.ct.r (e.F l)))
theorem GL {L:List sj} {g:FuncId} {e:sj} (h:vS L g=some e):e∈L∧e.g=g:=by
 induction L with
 | nil=>cases h
 | cons x l ih =>
  simp only[vS] at h
  split at h
  ·rename_i hb;cases h;exact⟨List.mem_cons_self,sU.1 hb⟩
  ·obtain⟨h1,h2⟩:=ih h;exact⟨List.mem_cons_of_mem _ h1,h2⟩
theorem vC.add {C:sW} {E:tC} (hC:vC C E) {L:List sj} (h:∀ e∈L,rG C.P C.G e):vC (GK C L) E:=by
 have key:∀ (g:FuncId) (ct:Ct),(GK C L).ct g=some ct→∀ l:List Int,l.length=(ru ct.a).length→((GK C L).Φ g l).length=(ru ct.r).length∧(((GK C L).Φ g l).length=(ru ct.r).length→PC C.P C.G g (rX ct.a l) (tq (rX ct.r ((GK C L).Φ g l)))):=by
  intro g ct hct l hl
  simp only[GK] at hct ⊢
  cases hf:vS L g with
  | some e =>
   rw[hf] at hct
   simp only[Option.some.injEq] at hct;subst hct
   obtain⟨h1,h2⟩:=GL hf
   subst h2
   exact⟨(h e h1 l hl).1,fun _=>(h e h1 l hl).2⟩
  | none =>
   rw[hf] at hct
   exact⟨hC.ct g ct hct l hl,hC.ok.ct g ct hct l hl⟩
 exact⟨⟨hC.ok.se,hC.ok.eq,hC.ok.mix,hC.ok.nm,fun g ct hct l hl=>(key g ct hct l hl).2,fun g ct hn=>(by cases hn),fun g c hc=>(by cases hc)⟩,fun g ct hct l hl=>(key g ct hct l hl).1,fun g ct hn=>(by cases hn),fun g c hc=>(by cases hc)⟩
theorem sK {C:sW} {E:tC} (hC:vC C E) (n:Nat) {g:FuncId} {ct:Ct} {t:rf SV} (h:rY C n g (rO ct.a (rM 0 (ru ct.a))) (ru ct.a).length=t) (hs:yY C.ct ct (ru ct.a).length t=true) :
  rG C.P C.G ⟨g,ct,rH C.Φ ct t⟩:=fun l hl=>VB hC.ok h (ED hs) l hl (MK hC (by rw[hl];exact hs))
structure yg (P:Program) (G:rP) (e:sj):Prop where
 ok:∀ l:List Int,l.length=(ru e.ct.a).length→(e.F l).length=(ru e.ct.r).length→PC P G e.g (rX e.ct.a l) (tq (rX e.ct.r (e.F l)))
theorem rG.c {P:Program} {G:rP} {e:sj} (h:rG P G e):yg P G e:=⟨fun l hl _=>(h l hl).2⟩
theorem yg.tot {P:Program} {G:rP} {e:sj} (h:yg P G e) (ht:∀ l:List Int,l.length=(ru e.ct.a).length→(e.F l).length=(ru e.ct.r).length):rG P G e:=fun l hl=>⟨ht l hl,h.ok l hl (ht l hl)⟩
theorem ad4 {Φ:uI} {ct:Ct} {t:rf SV} {l:List Int} (hp:Nat.blt 0 (ru ct.r).length=true) (h:(rH Φ ct t l).length=(ru ct.r).length):okF Φ ct t l:=by
 have hp:0<(ru ct.r).length:=by simpa [Nat.blt_eq] using hp
 unfold rH at h
 cases he:vw Φ t l with
 | none=>rw[he] at h;simp only[List.length_nil] at h;omega
 | some q =>
  obtain⟨a,l'⟩:=q
  rw[he] at h
  simp only at h
  cases hf:wW ct.r (xP ct.r a) with
  | none=>rw[hf] at h;simp only[List.length_nil] at h;omega
  | some xs=>exact⟨a,l',xs,he,hf⟩
end Go.Proofs.YtbembkamcdlhbaaGreatDoor
