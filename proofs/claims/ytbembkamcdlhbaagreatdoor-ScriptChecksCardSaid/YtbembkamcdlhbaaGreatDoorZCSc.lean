import Derived.Test.YtbembkamcdlhbaaGreatDoorZASc
set_option linter.unusedSimpArgs false
set_option linter.unusedVariables false
namespace Go.Proofs.YtbembkamcdlhbaaGreatDoor
open Go.RowKit
inductive VK where
 | int (k:IntKind)
 | bool
 | bit
 | nat
def rZ (b:Bool):Int:=match b with|true=>1|false=>0
def zF (op:BinOp) (k:IntKind) (x y:Int):Int :=
 let a:=BitVec.ofInt k.bits x
 let b:=BitVec.ofInt k.bits y
 k.wrap (match op with | .and=>a&&&b | .or=>a|||b | .xor=>a ^^^ b|_=>a &&& ~~~b).toNat
theorem UT (op:BinOp) (k:IntKind) (x y:Int):Es op k x y = .int k (zF op k x y):=rfl
def rP (op:BinOp) (k:IntKind) (a b:Int):Int:=match op with
 | .shl=>k.wrap (a*2^min b.toNat k.bits)
 | .shr=>a.fdiv (2^min b.toNat k.bits)
 | .add=>k.wrap (a+b)
 | .sub=>k.wrap (a-b)
 | .mul=>k.wrap (a*b)
 | .quo=>k.wrap (a.tdiv b)
 | .rem=>a.tmod b
 | .and=>zF .and k a b
 | .or=>zF .or k a b
 | .xor=>zF .xor k a b
 | .andNot=>zF .andNot k a b
 | .eql=>rZ (a==b)
 | .neq=>rZ (a != b)
 | .lss=>rZ (decide (a<b))
 | .leq=>rZ (decide (a≤b))
 | .gtr=>rZ (decide (a>b))
 | .geq=>rZ (decide (a≥b))
def UU:Nat→Nat→List Nat
 | 0,_=>[]
 | f+1,n=>match n with|0=>[]|m+1=>(m+1)%4294967296::UU f ((m+1)/4294967296)
def UV (n:Nat):List Nat:=UU n n
def Ap (n:Nat):Nat:=(UV n).length
inductive X where
 | lit (n:Int)
 | var (k:VK) (i:Nat)
 | bin (op:BinOp) (k:IntKind) (a b:X)
 | conv (k:IntKind) (a:X)
 | com (k:IntKind) (a:X)
 | not (a:X)
 | and (a b:X)
 | beq (a b:X)
 | min (a b:X)
 | max (a b:X)
 | ite (c a b:X)
 | dlen (a:X)
abbrev rC:=Nat→Int
def VK.norm:VK→Int→Int
 | .int k,n=>k.wrap n
 | .bool,n=>rZ (n != 0)
 | .bit,n=>rZ (n != 0)
 | .nat,n=>Int.ofNat n.toNat
def Kh (k:IntKind) (n:Int):Int:=zF .xor k (if k.signed then -1 else k.max) n
def X.den (s:rC):X→Int
 | .lit n=>n
 | .var k i=>k.norm (s i)
 | .bin op k a b=>rP op k (a.den s) (b.den s)
 | .conv k a=>k.wrap (a.den s)
 | .com k a=>Kh k (a.den s)
 | .not a=>rZ (!(a.den s != 0))
 | .and a b=>rZ (a.den s != 0&&b.den s != 0)
 | .beq a b=>rZ ((a.den s != 0)==(b.den s != 0))
 | .min a b=>if b.den s<a.den s then b.den s else a.den s
 | .max a b=>if b.den s>a.den s then b.den s else a.den s
 | .ite c a b=>if c.den s=0 then b.den s else a.den s
 | .dlen a=>Int.ofNat (Ap (a.den s).toNat)
theorem uz (b:Bool):(rZ b != 0)=b:=by cases b<;>rfl
def uA {β:Sort _} (n:Nat) (k:Nat→β):β:=match n with|0=>k 0|m+1=>k (Nat.succ m)
theorem uj {β:Sort _} (n:Nat) (k:Nat→β):uA n k=k n:=by cases n<;>rfl
def Ex {β:Sort _} (n:Int) (k:Int→β):β:=match n with | .ofNat m=>uA m fun m=>k (.ofNat m) | .negSucc m=>uA m fun m=>k (.negSucc m)
theorem Ey {β:Sort _} (n:Int) (k:Int→β):Ex n k=k n:=by cases n<;>simp[Ex,uj]
def Cb {α:Type} {β:Sort _} : List α→(List α→β)→β
 | [],k=>k []
 | a::l,k=>Cb l fun l'=>k (a::l')
theorem Ez {α:Type} {β:Sort _} : ∀ (l:List α) (k:List α→β),Cb l k=k l
 | [],k=>rfl
 | a::l,k=>by rw[Cb,Ez l]
def uD {β:Sort _} (x:X) (k:X→β):β:=match x with
 | .lit n=>k (.lit n)
 | .var a b=>k (.var a b)
 | .bin o q a b=>k (.bin o q a b)
 | .conv q a=>k (.conv q a)
 | .com q a=>k (.com q a)
 | .not a=>k (.not a)
 | .and a b=>k (.and a b)
 | .beq a b=>k (.beq a b)
 | .min a b=>k (.min a b)
 | .max a b=>k (.max a b)
 | .ite c a b=>k (.ite c a b)
 | .dlen a=>k (.dlen a)
theorem adu {β:Sort _} (x:X) (k:X→β):uD x k=k x:=by cases x<;>rfl
def xQ:IntKind→Nat
 | .i8 | .u8=>256
 | .i16 | .u16=>65536
 | .i32 | .u32=>4294967296
 | .i64 | .u64=>18446744073709551616
def Cc:IntKind→Nat
 | .i8 | .u8=>128
 | .i16 | .u16=>32768
 | .i32 | .u32=>2147483648
 | .i64 | .u64=>9223372036854775808
theorem Py (k:IntKind):(xQ k:Int)=2^k.bits:=by cases k<;>decide
theorem adv (k:IntKind):xQ k=2^k.bits:=by cases k<;>decide
theorem adw (k:IntKind):(Cc k:Int)=2^(k.bits-1):=by cases k<;>decide
theorem UW (k:IntKind):0<xQ k:=by cases k<;>decide
def uh (k:IntKind) (n:Int):Nat:=match n with
 | .ofNat m=>m%xQ k
 | .negSucc m=>xQ k-1-m%xQ k
theorem Pz (k:IntKind) (n:Int):(uh k n:Int)=n%2^k.bits:=by
 rw[← Py]
 have:=UW k
 cases n with
 | ofNat m=>simp[uh]
 | negSucc m =>
  have h:=Nat.mod_lt m this
  simp only[uh]
  rw[Int.negSucc_emod _ (by omega)]
  have h2:((m:Int)%(xQ k:Int))=((m%xQ k:Nat):Int):=by simp
  omega
theorem Dm (k:IntKind) (n:Int):(BitVec.ofInt k.bits n).toNat=uh k n:=by
 rw[BitVec.toNat_ofInt]
 have:=Pz k n
 have h2:((2^k.bits:Nat):Int)=2^k.bits:=by simp
 rw[h2,← this];simp
def UX (k:IntKind) (r:Nat):Int:=match k.signed with
 | true=>match Nat.ble (Cc k) r with|true=>Int.subNatNat r (xQ k)|false=>.ofNat r
 | false=>.ofNat r
def uP (k:IntKind) (n:Int):Int:=UX k (uh k n)
theorem um (k:IntKind) (n:Int):uP k n=k.wrap n:=by
 unfold uP UX IntKind.wrap
 have h:=Pz k n
 rw[← Py,← adw] at *
 rw[← h]
 cases hs:k.signed with
 | false=>simp
 | true =>
  simp only[Bool.true_and]
  cases hb:Nat.ble (Cc k) (uh k n) with
  | true =>
   have:Cc k≤uh k n:=Nat.le_of_ble_eq_true hb
   rw[if_pos (by simp;omega),Int.subNatNat_eq_coe]
  | false =>
   have:¬ Cc k≤uh k n:=fun e=>by rw[Nat.ble_eq_true_of_le e] at hb;cases hb
   rw[if_neg (by simp;omega)];rfl
def GL (n:Nat) (k:IntKind):Nat:=match Nat.ble n k.bits with|true=>n|false=>k.bits
theorem PD (n:Nat) (k:IntKind):GL n k=min n k.bits:=by
 unfold GL
 cases h:Nat.ble n k.bits with
 | true=>have:=Nat.le_of_ble_eq_true h;simp;omega
 | false =>
  have:¬ n≤k.bits:=fun e=>by rw[Nat.ble_eq_true_of_le e] at h;cases h
  simp;omega
def uE:Int→Int→Bool
 | .ofNat m,.ofNat n=>Nat.beq m n
 | .negSucc m,.negSucc n=>Nat.beq m n
 | _,_=>false
def wO:Int→Int→Bool
 | .ofNat m,.ofNat n=>Nat.blt m n
 | .negSucc m,.negSucc n=>Nat.blt n m
 | .negSucc _,.ofNat _=>true
 | .ofNat _,.negSucc _=>false
theorem EA (a b:Int):uE a b=(a==b):=by
 cases a with
 | ofNat m=>cases b with
  | ofNat n =>
   simp only[uE]
   rw[Bool.eq_iff_iff,Nat.beq_eq,beq_iff_eq]
   exact⟨fun h=>by rw[h],fun h=>Int.ofNat.inj h⟩
  | negSucc n=>simp only[uE];rw[eq_comm,beq_eq_false_iff_ne];intro h;cases h
 | negSucc m=>cases b with
  | ofNat n=>simp only[uE];rw[eq_comm,beq_eq_false_iff_ne];intro h;cases h
  | negSucc n =>
   simp only[uE]
   rw[Bool.eq_iff_iff,Nat.beq_eq,beq_iff_eq]
   omega
theorem zg (a b:Int):wO a b=decide (a<b):=by
 cases a<;>cases b<;>simp only[wO]<;>rw[Bool.eq_iff_iff]<;>simp[Nat.blt_eq]<;>omega
def zS (b:Bool):Bool:=match b with|true=>false|false=>true
theorem zh (b:Bool):zS b = !b:=by cases b<;>rfl
def fold (op:BinOp) (k:IntKind) (a b:Int):Int:=match op with
 | .shl=>match a,b with
  | .ofNat m,.ofNat n=>uP k (.ofNat (Nat.shiftLeft m (GL n k)))
  | a,b=>rP .shl k a b
 | .shr=>match a,b with
  | .ofNat m,.ofNat n=>.ofNat (Nat.shiftRight m (GL n k))
  | a,b=>rP .shr k a b
 | .add=>uP k (Int.add a b)
 | .sub=>uP k (Int.sub a b)
 | .mul=>uP k (Int.mul a b)
 | .quo=>uP k (Int.tdiv a b)
 | .rem=>Int.tmod a b
 | .and=>uP k (.ofNat (Nat.land (uh k a) (uh k b)))
 | .or=>uP k (.ofNat (Nat.lor (uh k a) (uh k b)))
 | .xor=>uP k (.ofNat (Nat.xor (uh k a) (uh k b)))
 | .andNot=>uP k (.ofNat (Nat.land (uh k a) (xQ k-1-uh k b)))
 | .eql=>rZ (uE a b)
 | .neq=>rZ (zS (uE a b))
 | .lss=>rZ (wO a b)
 | .leq=>rZ (zS (wO b a))
 | .gtr=>rZ (wO b a)
 | .geq=>rZ (zS (wO a b))
theorem EB (op:BinOp) (k:IntKind) (a b:Int):fold op k a b=rP op k a b:=by
 cases op
 case shl =>
  simp only[fold]
  split
  ·rename_i m n
   rw[um,PD]
   show k.wrap (Int.ofNat (m <<< _))=k.wrap (Int.ofNat m*2^min n k.bits)
   rw[Nat.shiftLeft_eq];congr 1
  ·rfl
 case shr =>
  simp only[fold]
  split
  ·rename_i m n
   rw[PD]
   show Int.ofNat (m >>> _)=(Int.ofNat m).fdiv (2^min n k.bits)
   rw[Nat.shiftRight_eq_div_pow,Int.fdiv_eq_ediv_of_nonneg _ (Int.pow_nonneg (by decide))];simp
  ·rfl
 case add=>exact um _ _
 case sub=>exact um _ _
 case mul=>exact um _ _
 case quo=>exact um _ _
 case rem=>rfl
 case and=>simp only[fold,rP,zF];rw[um,BitVec.toNat_and,Dm,Dm];rfl
 case or=>simp only[fold,rP,zF];rw[um,BitVec.toNat_or,Dm,Dm];rfl
 case xor=>simp only[fold,rP,zF];rw[um,BitVec.toNat_xor,Dm,Dm];rfl
 case andNot=>simp only[fold,rP,zF];rw[um,BitVec.toNat_and,BitVec.toNat_not,Dm,Dm,← adv];rfl
 case eql=>simp only[fold,rP,EA]
 case neq=>simp only[fold,rP,EA,zh,bne]
 case lss=>simp only[fold,rP,zg]
 case leq=>simp only[fold,rP,zg,zh];congr 1;rw[Bool.eq_iff_iff];simp
 case gtr=>simp only[fold,rP,zg,gt_iff_lt]
 case geq=>simp only[fold,rP,zg,zh];congr 1;rw[Bool.eq_iff_iff];simp
def PE:IntKind→IntKind→Bool
 | .u8,.u8=>true | .u8,.u16=>true | .u8,.u32=>true | .u8,.u64=>true | .u8,.i16=>true | .u8,.i32=>true | .u8,.i64=>true
 | .u16,.u16=>true | .u16,.u32=>true | .u16,.u64=>true | .u16,.i32=>true | .u16,.i64=>true
 | .u32,.u32=>true | .u32,.u64=>true | .u32,.i64=>true
 | .u64,.u64=>true
 | .i8,.i8=>true | .i8,.i16=>true | .i8,.i32=>true | .i8,.i64=>true
 | .i16,.i16=>true | .i16,.i32=>true | .i16,.i64=>true
 | .i32,.i32=>true | .i32,.i64=>true
 | .i64,.i64=>true
 | _,_=>false
theorem UY {a b:IntKind} (h:PE a b=true) (n:Int):b.wrap (a.wrap n)=a.wrap n:=by
 unfold IntKind.wrap IntKind.bits IntKind.signed
 cases a<;>cases b<;>first|(cases h;done)|(simp<;>(try split)<;>(try split)<;>omega)
def uy (op:BinOp) (k:IntKind) (a b:X):X:=match a,b with
 | .lit x,.lit y=>Ex (fold op k x y) .lit
 | a,b=>.bin op k a b
theorem Dn (s:rC) (op:BinOp) (k:IntKind) (a b:X):(uy op k a b).den s=rP op k (a.den s) (b.den s):=by
 unfold uy;split
 ·rw[Ey,X.den,EB];rfl
 ·rfl
def PG (k:IntKind) (a:X):X:=match a with
 | .lit x=>Ex (uP k x) .lit
 | .var (.int k') i=>match PE k' k with|true=>.var (.int k') i|false=>.conv k (.var (.int k') i)
 | a=>.conv k a
theorem adx (s:rC) (k:IntKind) (a:X):(PG k a).den s=k.wrap (a.den s):=by
 unfold PG;split
 ·rw[Ey,X.den,um];rfl
 ·split
  ·rename_i h;exact(UY h _).symm
  ·rfl
 ·rfl
def MF (k:IntKind) (a:X):X:=match a with
 | .lit x=>Ex (fold .xor k (match k.signed with|true => -1|false=>.ofNat (xQ k-1)) x) .lit
 | a=>.com k a
theorem UZ (s:rC) (k:IntKind) (a:X):(MF k a).den s=Kh k (a.den s):=by
 unfold MF;split
 ·rw[Ey,X.den,EB]
  unfold Kh rP IntKind.max
  cases hs:k.signed with
  | true=>simp[X.den]
  | false =>
   simp only[Bool.false_eq_true,if_false,X.den]
   have h1:=Py k
   have h2:=UW k
   congr 1
   rw[← h1];simp;omega
 ·rfl
def sN (n:Int):Bool:=match n with | .ofNat 0=>false|_=>true
theorem uQ (n:Int):sN n=(n != 0):=by
 unfold sN;split
 ·rfl
 ·rename_i h;rw[eq_comm,bne_iff_ne];intro e;exact h (by rw[e];rfl)
def mkNot (a:X):X:=match a with
 | .lit x=>.lit (rZ (zS (sN x)))
 | a=>.not a
theorem PH (s:rC) (a:X):(mkNot a).den s=rZ (!(a.den s != 0)):=by
 unfold mkNot;split
 ·rw[X.den,zh,uQ];rfl
 ·rfl
def mkAnd (a b:X):X:=match a with
 | .lit x=>match sN x with
  | true=>match b with
   | .lit y=>.lit (rZ (sN y))
   | b=>.and a b
  | false=>.lit 0
 | a=>.and a b
theorem ady (s:rC) (a b:X):(mkAnd a b).den s=rZ (a.den s != 0&&b.den s != 0):=by
 unfold mkAnd;split
 ·rename_i x
  split
  ·rename_i hx
   rw[uQ] at hx
   split
   ·rw[X.den,X.den,X.den,hx,uQ];rfl
   ·rfl
  ·rename_i hx
   rw[uQ] at hx
   simp only[X.den]
   rw[hx];rfl
 ·rfl
def MG (a b:X):X:=match a,b with
 | .lit x,.lit y=>.lit (rZ (match sN x with|true=>sN y|false=>zS (sN y)))
 | a,b=>.beq a b
theorem U0 (s:rC) (a b:X):(MG a b).den s=rZ ((a.den s != 0)==(b.den s != 0)):=by
 unfold MG;split
 ·rename_i x y
  simp only[X.den,uQ,zh]
  cases hx:(x != 0)<;>cases hy:(y != 0)<;>rfl
 ·rfl
def PI (a b:X):X:=match a,b with
 | .lit x,.lit y=>match wO y x with|true=>.lit y|false=>.lit x
 | a,b=>.min a b
theorem adz (s:rC) (a b:X):(PI a b).den s=if b.den s<a.den s then b.den s else a.den s:=by
 unfold PI;split
 ·rename_i x y
  show _=if y<x then y else x
  rw[zg]
  by_cases h:y<x
  ·rw[if_pos h,decide_eq_true h];rfl
  ·rw[if_neg h,decide_eq_false h];rfl
 ·rfl
def MH (a b:X):X:=match a,b with
 | .lit x,.lit y=>match wO x y with|true=>.lit y|false=>.lit x
 | a,b=>.max a b
theorem U1 (s:rC) (a b:X):(MH a b).den s=if b.den s>a.den s then b.den s else a.den s:=by
 unfold MH;split
 ·rename_i x y
  show _=if x<y then y else x
  rw[zg]
  by_cases h:x<y
  ·rw[if_pos h,decide_eq_true h];rfl
  ·rw[if_neg h,decide_eq_false h];rfl
 ·rfl
def EC (c a b:X):X:=match c with
 | .lit n=>match sN n with|true=>a|false=>b
 | c=>match a,b with
  | .lit x,.lit y=>match uE x y with|true=>.lit x|false=>.ite c (.lit x) (.lit y)
  | a,b=>.ite c a b
theorem Ki (s:rC) (c a b:X):(EC c a b).den s=if c.den s=0 then b.den s else a.den s:=by
 unfold EC;split
 ·rename_i n
  show _=if n=0 then b.den s else a.den s
  split
  ·rename_i h;rw[uQ,bne_iff_ne] at h;rw[if_neg h]
  ·rename_i h;rw[uQ,bne_eq_false_iff_eq] at h;rw[if_pos h]
 ·split
  ·rename_i x y
   split
   ·rename_i h
    rw[EA,beq_iff_eq] at h;subst h
    show x=if _ then x else x
    split<;>rfl
   ·rfl
  ·rfl
def PK (k:IntKind) (n:Int):Bool:=uE (uP k n) n
def vZ:IntKind→IntKind→Bool
 | .i8,.i8=>true | .i16,.i16=>true | .i32,.i32=>true | .i64,.i64=>true
 | .u8,.u8=>true | .u16,.u16=>true | .u32,.u32=>true | .u64,.u64=>true
 | _,_=>false
theorem xC {a b:IntKind} (h:vZ a b=true):a=b:=by cases a<;>cases b<;>first|rfl|cases h
def X.inK (k:IntKind):X→Bool
 | .lit n=>PK k n
 | .var (.int k') _=>PE k' k
 | .var .bit _=>vZ k .u64
 | .bin op k' a b=>match op with
  | .add | .sub | .mul | .quo | .shl | .and | .or | .xor | .andNot=>vZ k k'
  | .shr=>X.inK k a
  | .rem=>X.inK k a
  | _=>false
 | .conv k' _=>vZ k k'
 | .com k' _=>vZ k k'
 | .min a b=>match X.inK k a with|true=>X.inK k b|false=>false
 | .max a b=>match X.inK k a with|true=>X.inK k b|false=>false
 | .ite _ a b=>match X.inK k a with|true=>X.inK k b|false=>false
 | _=>false
theorem wrap_wrap (k:IntKind) (n:Int):k.wrap (k.wrap n)=k.wrap n:=by
 unfold IntKind.wrap IntKind.bits IntKind.signed
 cases k<;>simp<;>(try split)<;>(try split)<;>omega
theorem adA (k:IntKind) (n:Int) (m:Nat) (h:k.wrap n=n):k.wrap (n.fdiv (2^m))=n.fdiv (2^m):=by
 rw[Int.fdiv_eq_ediv_of_nonneg _ (Int.pow_nonneg (by decide))]
 have hp:(0:Int)<2^m:=Int.pow_pos (by decide)
 generalize (2:Int)^m=p at hp
 have h1:0≤n→0≤n/p∧n/p≤n:=fun hn=>⟨Int.ediv_nonneg hn (by omega),Int.ediv_le_self _ hn⟩
 have h2:n<0→n≤n/p∧n/p<0:=fun hn=>⟨by
  have h3:=Int.mul_ediv_add_emod n p
  have h4:=Int.emod_nonneg n (show p≠0 by omega)
  have h5:=Int.emod_lt_of_pos n hp
  have:n/p<0:=Int.ediv_neg_of_neg_of_pos hn hp
  have:p*(n/p)≤1*(n/p):=Int.mul_le_mul_of_nonpos_right (by omega) (by omega)
  apply Int.le_of_lt_add_one
  have h6:n<p*(n/p)+p:=by omega
  have h7:p*(n/p)+p≤(n/p)+1:=by
   have:p*(n/p+1)≤1*(n/p+1):=Int.mul_le_mul_of_nonpos_right (by omega) (by omega)
   rw[Int.mul_add,Int.mul_one] at this;omega
  omega,Int.ediv_neg_of_neg_of_pos hn hp⟩
 unfold IntKind.wrap IntKind.bits IntKind.signed at *
 cases k<;>simp at h ⊢ <;> (rcases Int.lt_or_le n 0 with hn|hn)<;>first
  | (have:=h2 hn;split at h<;>(try split)<;>omega)
  | (have:=h1 hn;split at h<;>(try split)<;>omega)
  | (have:=h2 hn;omega)
  | (have:=h1 hn;omega)
theorem adB (k:IntKind) (n m:Int) (h:k.wrap n=n):k.wrap (n.tmod m)=n.tmod m:=by
 have h1:0≤n→0≤n.tmod m∧n.tmod m≤n:=fun hn=>by
  obtain⟨a,rfl⟩:=Int.eq_ofNat_of_zero_le hn
  have:(a:Int).tmod m=((a%m.natAbs:Nat):Int):=by
   rcases Int.natAbs_eq m with e|e
   ·rw[e];simp only[Int.natAbs_natCast];rfl
   ·rw[e];simp only[Int.natAbs_neg,Int.natAbs_natCast,Int.tmod_neg];rfl
  rw[this]
  have:=Nat.mod_le a m.natAbs
  omega
 have h2:n<0→n≤n.tmod m∧n.tmod m≤0:=fun hn=>by
  obtain⟨a,ha⟩:=Int.eq_ofNat_of_zero_le (show 0 ≤ -n by omega)
  have hn2:n = -(a:Int):=by omega
  rw[hn2,Int.neg_tmod]
  have:(a:Int).tmod m=((a%m.natAbs:Nat):Int):=by
   rcases Int.natAbs_eq m with e|e
   ·rw[e];simp only[Int.natAbs_natCast];rfl
   ·rw[e];simp only[Int.natAbs_neg,Int.natAbs_natCast,Int.tmod_neg];rfl
  rw[this]
  have:=Nat.mod_le a m.natAbs
  omega
 generalize n.tmod m=r at *
 unfold IntKind.wrap IntKind.bits IntKind.signed at *
 cases k<;>simp at h ⊢ <;> (rcases Int.lt_or_le n 0 with hn|hn)<;>first
  | (have:=h2 hn;split at h<;>(try split)<;>omega)
  | (have:=h1 hn;split at h<;>(try split)<;>omega)
  | (have:=h2 hn;omega)
  | (have:=h1 hn;omega)
theorem X.inK_ok {k:IntKind} (s:rC):∀ {x:X},x.inK k=true→k.wrap (x.den s)=x.den s
 | .lit n,h=>by
  have h':PK k n=true:=h
  unfold PK at h'
  rw[EA,um,beq_iff_eq] at h';exact h'
 | .var (.int k') i,h=>UY h _
 | .var .bool i,h=>by cases h
 | .var .nat i,h=>by cases h
 | .dlen a,h=>by cases h
 | .var .bit i,h=>by
  have:=xC (show vZ k .u64=true from h);subst this
  simp only[X.den,VK.norm];cases (s i != 0)<;>rfl
 | .bin op k' a b,h=>by
  cases op<;>simp only[X.inK] at h<;>first
   | cases h
   | (have:=xC h;subst this;simp only[X.den,rP,zF];exact wrap_wrap _ _)
   | (simp only[X.den,rP];exact adA _ _ _ (X.inK_ok s h))
   | (simp only[X.den,rP];exact adB _ _ _ (X.inK_ok s h))
 | .conv k' a,h=>by have:=xC h;subst this;exact wrap_wrap _ _
 | .com k' a,h=>by have:=xC h;subst this;exact wrap_wrap _ _
 | .not a,h=>by cases h
 | .and a b,h=>by cases h
 | .beq a b,h=>by cases h
 | .min a b,h=>by
  simp only[X.inK] at h
  split at h
  ·rename_i h1
   simp only[X.den];split
   ·exact X.inK_ok s h
   ·exact X.inK_ok s h1
  ·cases h
 | .max a b,h=>by
  simp only[X.inK] at h
  split at h
  ·rename_i h1
   simp only[X.den];split
   ·exact X.inK_ok s h
   ·exact X.inK_ok s h1
  ·cases h
 | .ite c a b,h=>by
  simp only[X.inK] at h
  split at h
  ·rename_i h1
   simp only[X.den];split
   ·exact X.inK_ok s h
   ·exact X.inK_ok s h1
  ·cases h
def X.isBit:X→Bool
 | .lit n=>match uE n (.ofNat 0) with|true=>true|false=>uE n (.ofNat 1)
 | .var .bit _=>true
 | .ite _ a b=>match X.isBit a with|true=>X.isBit b|false=>false
 | _=>false
theorem X.isBit_ok (s:rC):∀ {x:X},x.isBit=true→x.den s=rZ (x.den s != 0)
 | .lit n,h=>by
  simp only[X.isBit,EA] at h
  split at h
  ·rename_i h1;rw[beq_iff_eq] at h1;subst h1;rfl
  ·rw[beq_iff_eq] at h;subst h;rfl
 | .var .bit i,_=>by simp only[X.den,VK.norm];cases (s i != 0)<;>rfl
 | .var (.int _) i,h=>by simp[X.isBit] at h
 | .var .bool i,h=>by simp[X.isBit] at h
 | .var .nat i,h=>by simp[X.isBit] at h
 | .dlen a,h=>by simp[X.isBit] at h
 | .ite c a b,h=>by
  simp only[X.isBit] at h
  split at h
  ·rename_i h1
   simp only[X.den];split
   ·exact X.isBit_ok s h
   ·exact X.isBit_ok s h1
  ·cases h
 | .bin _ _ _ _,h=>by simp[X.isBit] at h
 | .conv _ _,h=>by simp[X.isBit] at h
 | .com _ _,h=>by simp[X.isBit] at h
 | .not _,h=>by simp[X.isBit] at h
 | .and _ _,h=>by simp[X.isBit] at h
 | .beq _ _,h=>by simp[X.isBit] at h
 | .min _ _,h=>by simp[X.isBit] at h
 | .max _ _,h=>by simp[X.isBit] at h
inductive rf (α:Type) where
 | leaf (a:α)
 | ite (c:X) (a b:rf α)
 | call (f:Nat) (args:List X) (base n:Nat) (t:rf α)
 | stuck (why:String)
abbrev uL:=Nat→List Int→List Int
def wh (s:rC) (base:Nat):Nat→List Int
 | 0=>[]
 | n+1=>s base::wh s (base+1) n
theorem Ce (s:rC):∀ (n b:Nat),(wh s b n).length=n
 | 0,_=>rfl
 | n+1,b=>by rw[wh,List.length_cons,Ce s n]
def ED (Φ:uL) (s:rC) (f:Nat) (args:List X) (base n:Nat):Prop:=wh s base n=Φ f (args.map (X.den s))
instance (Φ:uL) (s:rC) (f:Nat) (args:List X) (base n:Nat):Decidable (ED Φ s f args base n):=inferInstanceAs (Decidable (_=_))
def rf.path {α:Type} (Φ:uL) (s:rC):rf α→Option α
 | .leaf a=>some a
 | .ite c a b=>if c.den s=0 then b.path Φ s else a.path Φ s
 | .call f args base n t=>if ED Φ s f args base n then t.path Φ s else none
 | .stuck _=>none
def rf.bind {α β:Type} : rf α→(α→rf β)→rf β
 | .leaf a,f=>f a
 | .ite c a b,f=>.ite c (a.bind f) (b.bind f)
 | .call g args base n t,f=>.call g args base n (t.bind f)
 | .stuck w,_=>.stuck w
theorem rf.path_bind {α β:Type} (Φ:uL) (s:rC) (f:α→rf β):∀ t:rf α,(t.bind f).path Φ s=(t.path Φ s).bind fun a=>(f a).path Φ s
 | .leaf a=>rfl
 | .ite c a b=>by
  simp only[rf.bind,rf.path]
  split
  ·exact rf.path_bind Φ s f b
  ·exact rf.path_bind Φ s f a
 | .call g args base n t=>by
  simp only[rf.bind,rf.path]
  split
  ·exact rf.path_bind Φ s f t
  ·rfl
 | .stuck w=>rfl
theorem rf.path_bind_some {α β:Type} {Φ:uL} {s:rC} {f:α→rf β} {t:rf α} {b:β} (h:(t.bind f).path Φ s=some b):∃ a,t.path Φ s=some a∧(f a).path Φ s=some b:=by
 rw[rf.path_bind] at h
 cases ht:t.path Φ s with
 | none=>rw[ht] at h;cases h
 | some a=>rw[ht] at h;exact⟨a,rfl,h⟩
def GM {α:Type} (c:X) (a b:rf α):rf α:=match c with
 | .lit n=>match sN n with|true=>a|false=>b
 | c=>.ite c a b
theorem PL {α:Type} (Φ:uL) (s:rC) (c:X) (a b:rf α):(GM c a b).path Φ s=if c.den s=0 then b.path Φ s else a.path Φ s:=by
 unfold GM;split
 ·rename_i n
  show _=if n=0 then b.path Φ s else a.path Φ s
  split
  ·rename_i h;rw[uQ,bne_iff_ne] at h;rw[if_neg h]
  ·rename_i h;rw[uQ,bne_eq_false_iff_eq] at h;rw[if_pos h]
 ·rfl
open Go.RowKit
theorem sQ {a b:Nat} : Nat.beq a b=true↔a=b:=by rw[Nat.beq_eq]
def PM:VK→VK→Bool
 | .int k,.int k'=>vZ k k'
 | .bool,.bool=>true
 | .bit,.bit=>true
 | .nat,.nat=>true
 | _,_=>false
def Kj:BinOp→Nat
 | .add=>0 | .sub=>1 | .mul=>2 | .quo=>3 | .rem=>4 | .and=>5 | .or=>6 | .xor=>7 | .shl=>8 | .shr=>9 | .andNot=>10
 | .eql=>11 | .neq=>12 | .lss=>13 | .leq=>14 | .gtr=>15 | .geq=>16
def sS (a:Bool) (b:Bool):Bool:=match a with|true=>b|false=>false
def vN:X→X→Bool
 | .lit m,.lit n=>uE m n
 | .var k i,.var k' j=>sS (Nat.beq i j) (PM k k')
 | .bin o k a b,.bin o' k' a' b'=>sS (Nat.beq (Kj o) (Kj o')) (sS (vZ k k') (sS (vN a a') (vN b b')))
 | .conv k a,.conv k' a'=>sS (vZ k k') (vN a a')
 | .com k a,.com k' a'=>sS (vZ k k') (vN a a')
 | .not a,.not a'=>vN a a'
 | .and a b,.and a' b'=>sS (vN a a') (vN b b')
 | .beq a b,.beq a' b'=>sS (vN a a') (vN b b')
 | .min a b,.min a' b'=>sS (vN a a') (vN b b')
 | .max a b,.max a' b'=>sS (vN a a') (vN b b')
 | .ite c a b,.ite c' a' b'=>sS (vN c c') (sS (vN a a') (vN b b'))
 | .dlen a,.dlen a'=>vN a a'
 | _,_=>false
abbrev Facts:=List (X×Bool)
def Dp:Facts→X→Option Bool
 | [],_=>none
 | x::l,c=>match vN x.1 c with|true=>some x.2|false=>Dp l c
def GN (fc:Facts) (c:X) (b:Bool):Facts:=match c with
 | .not a=>(a,zS b)::fc
 | c=>(c,b)::fc
def sO (s:rC) (fc:Facts):Prop:=∀ x∈fc,(x.1.den s != 0)=x.2
theorem adC {a b:VK} (h:PM a b=true):a=b:=by
 cases a<;>cases b<;>first|rfl|(simp only[PM] at h;rw[xC h])|cases h
theorem adD {a b:BinOp} (h:Kj a=Kj b):a=b:=by cases a<;>cases b<;>first|rfl|(simp[Kj] at h)
theorem sD {a b:Bool} (h:sS a b=true):a=true∧b=true:=by
 cases a with
 | true=>exact⟨rfl,h⟩
 | false=>cases h
theorem wP:∀ {a b:X},vN a b=true→a=b
 | .lit m,.lit n,h=>by simp only[vN,EA,beq_iff_eq] at h;rw[h]
 | .var k i,.var k' j,h=>by have h:=sD h;rw[sQ.1 h.1,adC h.2]
 | .bin o k a b,.bin o' k' a' b',h=>by
  have h:=sD h;have h2:=sD h.2;have h3:=sD h2.2
  rw[adD (sQ.1 h.1),xC h2.1,wP h3.1,wP h3.2]
 | .conv k a,.conv k' a',h=>by have h:=sD h;rw[xC h.1,wP h.2]
 | .com k a,.com k' a',h=>by have h:=sD h;rw[xC h.1,wP h.2]
 | .not a,.not a',h=>by rw[wP (a:=a) (b:=a') h]
 | .and a b,.and a' b',h=>by have h:=sD h;rw[wP h.1,wP h.2]
 | .beq a b,.beq a' b',h=>by have h:=sD h;rw[wP h.1,wP h.2]
 | .min a b,.min a' b',h=>by have h:=sD h;rw[wP h.1,wP h.2]
 | .max a b,.max a' b',h=>by have h:=sD h;rw[wP h.1,wP h.2]
 | .ite c a b,.ite c' a' b',h=>by have h:=sD h;have h2:=sD h.2;rw[wP h.1,wP h2.1,wP h2.2]
 | .dlen a,.dlen a',h=>by rw[wP (a:=a) (b:=a') h]
theorem zT {s:rC} : ∀ {fc:Facts} {c:X} {b:Bool},sO s fc→Dp fc c=some b→(c.den s != 0)=b
 | [],c,b,_,h=>by cases h
 | x::l,c,b,hf,h=>by
  simp only[Dp] at h
  split at h
  ·rename_i he
   cases h
   rw[← wP he];exact hf x List.mem_cons_self
  ·exact zT (fun y hy=>hf y (List.mem_cons_of_mem _ hy)) h
theorem PN {s:rC} {fc:Facts} {c:X} {b:Bool} (hf:sO s fc) (h:(c.den s != 0)=b):sO s (GN fc c b):=by
 unfold GN
 split
 ·rename_i a
  rw[X.den,uz] at h
  intro x hx
  rcases List.mem_cons.1 hx with rfl|hx
  ·simp only[zh,← h,Bool.not_not]
  ·exact hf x hx
 ·intro x hx
  rcases List.mem_cons.1 hx with rfl|hx
  ·exact h
  ·exact hf x hx
abbrev xR:=Int×Int
def xS:IntKind→Int
 | .i8 => -128 | .i16 => -32768 | .i32 => -2147483648 | .i64 => -9223372036854775808|_=>0
def xU:IntKind→Int
 | .i8=>127 | .i16=>32767 | .i32=>2147483647 | .i64=>9223372036854775807
 | .u8=>255 | .u16=>65535 | .u32=>4294967295 | .u64=>18446744073709551615
theorem Bl (k:IntKind) (n:Int):xS k≤k.wrap n∧k.wrap n≤xU k:=by
 unfold IntKind.wrap IntKind.bits IntKind.signed xS xU
 cases k<;>simp<;>(try split)<;>(constructor<;>omega)
def zU (a b:Int):Bool:=zS (wO b a)
theorem GQ {a b:Int} (h:zU a b=true):a≤b:=by
 unfold zU at h;rw[zh,zg] at h;simpa using h
theorem PO {a b:Int} (h:wO a b=true):a<b:=by rw[zg] at h;simpa using h
theorem Dq {a b:Int} (h:uE a b=true):a=b:=by rw[EA] at h;simpa using h
def zV (a b:Int):Int:=match zU a b with|true=>a|false=>b
def zW (a b:Int):Int:=match zU a b with|true=>b|false=>a
theorem PP {a b n:Int} (h1:n≤a) (h2:n≤b):n≤zV a b:=by unfold zV;split<;>assumption
theorem PQ {a b n:Int} (h1:a≤n) (h2:b≤n):zW a b≤n:=by unfold zW;split<;>assumption
theorem U2 (a b:Int):zV a b≤a∧zV a b≤b:=by
 unfold zV;split
 ·rename_i h;exact⟨Int.le_refl _,GQ h⟩
 ·rename_i h;unfold zU at h;rw[zh,zg] at h;simp at h;omega
theorem U3 (a b:Int):a≤zW a b∧b≤zW a b:=by
 unfold zW;split
 ·rename_i h;exact⟨GQ h,Int.le_refl _⟩
 ·rename_i h;unfold zU at h;rw[zh,zg] at h;simp at h;omega
def wX (r:xR) (n:Int):Prop:=r.1≤n∧n≤r.2
def Kk (k:IntKind) (lo hi:Int):xR:=match sS (zU (xS k) lo) (zU hi (xU k)) with|true=>(lo,hi)|false=>(xS k,xU k)
theorem MI {k:IntKind} {n:Int} (h1:xS k≤n) (h2:n≤xU k):k.wrap n=n:=by
 unfold IntKind.wrap IntKind.bits IntKind.signed xS xU at *
 cases k<;>simp at h1 h2 ⊢ <;> (try split)<;>omega
theorem PR {k:IntKind} {lo hi n:Int} (h:wX (lo,hi) n):wX (Kk k lo hi) (k.wrap n):=by
 unfold Kk
 split
 ·rename_i he
  have he:=sD he
  have h1:=GQ he.1;have h2:=GQ he.2
  rw[MI (Int.le_trans h1 h.1) (Int.le_trans h.2 h2)];exact h
 ·exact Bl k n
def PS (op:BinOp) (c:Int) (b:Bool) (r:xR):xR:=match op,b with
 | .lss,true=>(r.1,zV r.2 (c-1))
 | .lss,false=>(zW r.1 c,r.2)
 | .leq,true=>(r.1,zV r.2 c)
 | .leq,false=>(zW r.1 (c+1),r.2)
 | .gtr,true=>(zW r.1 (c+1),r.2)
 | .gtr,false=>(r.1,zV r.2 c)
 | .geq,true=>(zW r.1 c,r.2)
 | .geq,false=>(r.1,zV r.2 (c-1))
 | .eql,true=>(c,c)
 | .neq,false=>(c,c)
 | .eql,false=>(match uE r.1 c with|true=>c+1|false=>r.1,match uE r.2 c with|true=>c-1|false=>r.2)
 | .neq,true=>(match uE r.1 c with|true=>c+1|false=>r.1,match uE r.2 c with|true=>c-1|false=>r.2)
 | _,_=>r
theorem adE {op:BinOp} {k:IntKind} {c n:Int} {b:Bool} {r:xR} (h:wX r n) (hf:(rP op k n c != 0)=b):wX (PS op c b r) n:=by
 have ne:n≠c→wX (match uE r.1 c with|true=>c+1|false=>r.1,match uE r.2 c with|true=>c-1|false=>r.2) n:=fun hn=>by
  obtain⟨h1,h2⟩:=h
  constructor
  ·simp only;split
   ·rename_i he;have:=Dq he;omega
   ·exact h1
  ·simp only;split
   ·rename_i he;have:=Dq he;omega
   ·exact h2
 cases op<;>simp only[rP,uz] at hf<;>cases b<;>simp only[PS]<;>first
  | exact h
  | (simp at hf;exact ne hf)
  | (simp at hf;subst hf;exact⟨Int.le_refl _,Int.le_refl _⟩)
  | (simp at hf;exact⟨h.1,PP h.2 (by omega)⟩)
  | (simp at hf;exact⟨PQ h.1 (by omega),h.2⟩)
def PT (x:X) (f:X×Bool) (r:xR):xR:=match f.1 with
 | .bin op _ a (.lit c)=>match vN a x with|true=>PS op c f.2 r|false=>r
 | _=>r
def GR (x:X):Facts→xR→xR
 | [],r=>r
 | f::fc,r=>PT x f (GR x fc r)
theorem PU {s:rC} {x:X} : ∀ {fc:Facts} {r:xR},sO s fc→wX r (x.den s)→wX (GR x fc r) (x.den s)
 | [],r,_,h=>h
 | f::fc,r,hf,h=>by
  have ih:wX (GR x fc r) (x.den s):=PU (fun y hy=>hf y (List.mem_cons_of_mem _ hy)) h
  show wX (PT x f (GR x fc r)) _
  unfold PT
  split
  ·rename_i op k a c hc
   split
   ·rename_i he
    have:=wP he;subst this
    have hf0:=hf f List.mem_cons_self
    rw[hc] at hf0
    exact adE ih hf0
   ·exact ih
  ·exact ih
def yn (x:X) (fc:Facts) (r:xR):xR:=GR x fc (GR x fc r)
theorem yS {s:rC} {x:X} {fc:Facts} {r:xR} (hf:sO s fc) (h:wX r (x.den s)):wX (yn x fc r) (x.den s):=PU hf (PU hf h)
def wQ (fc:Facts):X→Option xR
 | .lit n=>some (n,n)
 | .var k i=>match k with
  | .int k=>some (yn (.var (.int k) i) fc (xS k,xU k))
  | .nat=>none
  | _=>some (yn (.var k i) fc (.ofNat 0,.ofNat 1))
 | .bin op k a b=>match op with
  | .add=>match wQ fc a,wQ fc b with
   | some x,some y=>some (yn (.bin .add k a b) fc (Kk k (x.1+y.1) (x.2+y.2)))
   | _,_=>some (yn (.bin .add k a b) fc (xS k,xU k))
  | .sub=>match wQ fc a,wQ fc b with
   | some x,some y=>some (yn (.bin .sub k a b) fc (Kk k (x.1-y.2) (x.2-y.1)))
   | _,_=>some (yn (.bin .sub k a b) fc (xS k,xU k))
  | .mul | .quo | .shl | .or | .xor | .andNot=>some (yn (.bin op k a b) fc (xS k,xU k))
  | .and=>match b with
   | .lit (.ofNat n)=>match wO (.ofNat n) (.ofNat (Cc k)) with
    | true=>some (yn (.bin .and k a (.lit (.ofNat n))) fc (.ofNat 0,.ofNat n))
    | false=>some (yn (.bin .and k a (.lit (.ofNat n))) fc (xS k,xU k))
   | b=>some (yn (.bin .and k a b) fc (xS k,xU k))
  | .shr=>match wQ fc a,b with
   | some x,.lit (.ofNat n)=>some (yn (.bin .shr k a (.lit (.ofNat n))) fc (x.1.fdiv (2^GL n k),x.2.fdiv (2^GL n k)))
   | _,_=>none
  | .rem=>none
  | _=>some (.ofNat 0,.ofNat 1)
 | .conv k a=>match wQ fc a with
  | some x=>some (yn (.conv k a) fc (Kk k x.1 x.2))
  | none=>some (yn (.conv k a) fc (xS k,xU k))
 | .com k _=>some (xS k,xU k)
 | .not _=>some (.ofNat 0,.ofNat 1)
 | .and _ _=>some (.ofNat 0,.ofNat 1)
 | .beq _ _=>some (.ofNat 0,.ofNat 1)
 | .min a b=>match wQ fc a,wQ fc b with
  | some x,some y=>some (yn (.min a b) fc (zV x.1 y.1,zV x.2 y.2))
  | _,_=>none
 | .max a b=>match wQ fc a,wQ fc b with
  | some x,some y=>some (yn (.max a b) fc (zW x.1 y.1,zW x.2 y.2))
  | _,_=>none
 | .ite _ a b=>match wQ fc a,wQ fc b with
  | some x,some y=>some (zV x.1 y.1,zW x.2 y.2)
  | _,_=>none
 | .dlen _=>none
theorem GU (b:Bool):wX (.ofNat 0,.ofNat 1) (rZ b):=by cases b<;>exact⟨by decide,by decide⟩
theorem adF {k:IntKind} {a:Int} {n:Nat} (h:n<Cc k):wX (.ofNat 0,.ofNat n) (zF .and k a (.ofNat n)):=by
 have h0:fold .and k a (.ofNat n)=zF .and k a (.ofNat n):=EB .and k a (.ofNat n)
 rw[← h0]
 simp only[fold,um]
 have hm:Nat.land (uh k a) (uh k (.ofNat n))≤n:=by
  refine Nat.le_trans (Nat.and_le_right (n:=uh k a) (m:=uh k (.ofNat n))) ?_
  exact Nat.mod_le _ _
 have hk:(Cc k:Int)≤xU k+1:=by unfold xU Cc;cases k<;>decide
 have hl:xS k≤0:=by unfold xS;cases k<;>decide
 rw[MI (by have:(0:Int)≤Int.ofNat (Nat.land (uh k a) (uh k (.ofNat n))):=Int.natCast_nonneg _;omega) (by
  have:Int.ofNat (Nat.land (uh k a) (uh k (.ofNat n)))≤(n:Int):=Int.ofNat_le.2 hm
  omega)]
 exact⟨Int.natCast_nonneg _,Int.ofNat_le.2 hm⟩
theorem U4 {a b:Int} (m:Nat) (h:a≤b):a.fdiv (2^m)≤b.fdiv (2^m):=by
 rw[Int.fdiv_eq_ediv_of_nonneg _ (Int.pow_nonneg (by decide)),Int.fdiv_eq_ediv_of_nonneg _ (Int.pow_nonneg (by decide))]
 exact Int.ediv_le_ediv (Int.pow_pos (by decide)) h
theorem zi {s:rC} {fc:Facts} (hf:sO s fc):∀ {x:X} {r:xR},wQ fc x=some r→wX r (x.den s)
 | .lit n,r,h=>by cases h;exact⟨Int.le_refl _,Int.le_refl _⟩
 | .var k i,r,h=>by
  simp only[wQ] at h
  split at h
  ·cases h;exact yS hf (Bl _ _)
  ·cases h
  ·rename_i hk hk2
   cases h
   refine yS hf ?_
   cases k with
   | int k=>exact absurd rfl (hk k)
   | nat=>exact absurd rfl hk2
   | bool=>exact GU _
   | bit=>exact GU _
 | .dlen a,r,h=>by cases h
 | .bin op k a b,r,h=>by
  have kr:∀ {op'},op' = .add∨op' = .sub∨op' = .mul∨op' = .quo∨op' = .shl∨op' = .and∨op' = .or∨op' = .xor∨op' = .andNot→wX (xS k,xU k) ((X.bin op' k a b).den s):=by
   rintro op' (rfl|rfl|rfl|rfl|rfl|rfl|rfl|rfl|rfl)<;>exact Bl _ _
  cases op<;>simp only[wQ] at h
  case add =>
   split at h
   ·rename_i x y hx hy
    cases h
    have h1:=zi hf hx;have h2:=zi hf hy
    exact yS hf (PR ⟨Int.add_le_add h1.1 h2.1,Int.add_le_add h1.2 h2.2⟩)
   ·cases h;exact yS hf (kr (by simp))
  case sub =>
   split at h
   ·rename_i x y hx hy
    cases h
    have h1:=zi hf hx;have h2:=zi hf hy
    exact yS hf (PR ⟨Int.sub_le_sub h1.1 h2.2,Int.sub_le_sub h1.2 h2.1⟩)
   ·cases h;exact yS hf (kr (by simp))
  case and =>
   split at h
   ·rename_i n
    split at h
    ·rename_i hn
     cases h
     exact yS hf (adF (by have:=PO hn;simpa using this))
    ·cases h;exact yS hf (Bl _ _)
   ·cases h;exact yS hf (Bl _ _)
  case shr =>
   split at h
   ·rename_i x n hx
    cases h
    have h1:=zi hf hx
    refine yS hf ?_
    rw[PD]
    exact⟨U4 _ h1.1,U4 _ h1.2⟩
   ·cases h
  case rem=>cases h
  all_goals first
   | (cases h;exact yS hf (Bl _ _))
   | (cases h;exact GU _)
 | .conv k a,r,h=>by
  simp only[wQ] at h
  split at h
  ·rename_i x hx
   cases h
   exact yS hf (PR (zi hf hx))
  ·cases h;exact yS hf (Bl _ _)
 | .com k a,r,h=>by cases h;exact Bl _ _
 | .not a,r,h=>by cases h;exact GU _
 | .and a b,r,h=>by cases h;exact GU _
 | .beq a b,r,h=>by cases h;exact GU _
 | .min a b,r,h=>by
  simp only[wQ] at h
  split at h
  ·rename_i x y hx hy
   cases h
   have h1:=zi hf hx;have h2:=zi hf hy
   have h3:=U2 x.1 y.1
   refine yS hf ?_
   simp only[X.den]
   split
   ·rename_i hlt;exact⟨Int.le_trans h3.2 h2.1,PP (Int.le_trans (Int.le_of_lt hlt) h1.2) h2.2⟩
   ·rename_i hlt;exact⟨Int.le_trans h3.1 h1.1,PP h1.2 (Int.le_trans (Int.not_lt.1 hlt) h2.2)⟩
  ·cases h
 | .max a b,r,h=>by
  simp only[wQ] at h
  split at h
  ·rename_i x y hx hy
   cases h
   have h1:=zi hf hx;have h2:=zi hf hy
   have h3:=U3 x.2 y.2
   refine yS hf ?_
   simp only[X.den]
   split
   ·rename_i hlt;exact⟨PQ (Int.le_trans h1.1 (Int.le_of_lt hlt)) h2.1,Int.le_trans h2.2 h3.2⟩
   ·rename_i hlt;exact⟨PQ h1.1 (Int.le_trans h2.1 (Int.not_lt.1 hlt)),Int.le_trans h1.2 h3.1⟩
  ·cases h
 | .ite c a b,r,h=>by
  simp only[wQ] at h
  split at h
  ·rename_i x y hx hy
   cases h
   have h1:=zi hf hx;have h2:=zi hf hy
   have h3:=U2 x.1 y.1;have h4:=U3 x.2 y.2
   simp only[X.den]
   split
   ·exact⟨Int.le_trans h3.2 h2.1,Int.le_trans h2.2 h4.2⟩
   ·exact⟨Int.le_trans h3.1 h1.1,Int.le_trans h1.2 h4.1⟩
  ·cases h
def PV (op:BinOp) (x y:xR):Option Bool:=match op with
 | .lss=>match wO x.2 y.1 with|true=>some true|false=>match zU y.2 x.1 with|true=>some false|false=>none
 | .leq=>match zU x.2 y.1 with|true=>some true|false=>match wO y.2 x.1 with|true=>some false|false=>none
 | .gtr=>match wO y.2 x.1 with|true=>some true|false=>match zU x.2 y.1 with|true=>some false|false=>none
 | .geq=>match zU y.2 x.1 with|true=>some true|false=>match wO x.2 y.1 with|true=>some false|false=>none
 | .eql=>match wO x.2 y.1 with
  | true=>some false
  | false=>match wO y.2 x.1 with
   | true=>some false
   | false=>match sS (uE x.1 x.2) (sS (uE y.1 y.2) (uE x.1 y.1)) with|true=>some true|false=>none
 | .neq=>match wO x.2 y.1 with
  | true=>some true
  | false=>match wO y.2 x.1 with
   | true=>some true
   | false=>match sS (uE x.1 x.2) (sS (uE y.1 y.2) (uE x.1 y.1)) with|true=>some false|false=>none
 | _=>none
theorem adG {op : BinOp} {k : IntKind} {x y : xR} {m n : Int} {b : Bool} (hx : wX x m) (hy : wX y n) (h : PV op x y = some b) : (rP op k m n != 0) = b := by
  obtain ⟨x1, x2⟩ := hx
  obtain ⟨y1, y2⟩ := hy
  cases op <;> simp only [PV] at h <;> try cases h
  all_goals
    simp only [rP, uz]
    split at h
    · rename_i he
      first
        | (have := PO he; cases h; simp; omega)
        | (have := GQ he; cases h; simp; omega)
    · split at h
      · rename_i he
        first
          | (have := PO he; cases h; simp; omega)
          | (have := GQ he; cases h; simp; omega)
      · first
          | (cases h; done)
          | (split at h
             · rename_i he
               have he := sD he; have he2 := sD he.2
               have e1 := Dq he.1; have e2 := Dq he2.1; have e3 := Dq he2.2
               cases h; simp; omega
             · cases h)
def xV (fc:Facts):X→Option Bool
 | .lit n=>some (sN n)
 | .bin op k a b=>match Dp fc (.bin op k a b) with
  | some r=>some r
  | none=>match wQ fc a,wQ fc b with
   | some x,some y=>PV op x y
   | _,_=>none
 | .not a=>match xV fc a with|some b=>some (zS b)|none=>Dp fc (.not a)
 | .and a b=>match xV fc a with
  | some true=>xV fc b
  | some false=>some false
  | none=>match xV fc b with|some false=>some false|_=>Dp fc (.and a b)
 | .ite c a b=>match xV fc c with
  | some true=>xV fc a
  | some false=>xV fc b
  | none=>match xV fc a,xV fc b with
   | some true,some true=>some true
   | some false,some false=>some false
   | _,_=>Dp fc (.ite c a b)
 | x=>Dp fc x
theorem yu {s:rC} {fc:Facts} (hf:sO s fc):∀ {c:X} {b:Bool},xV fc c=some b→(c.den s != 0)=b
 | .lit n,b,h=>by cases h;rw[uQ];rfl
 | .bin op k x y,b,h=>by
  simp only[xV] at h
  split at h
  ·rename_i r hr;cases h;exact zT hf hr
  ·split at h
   ·rename_i p q hp hq
    exact adG (zi hf hp) (zi hf hq) h
   ·cases h
 | .not a,b,h=>by
  simp only[xV] at h
  split at h
  ·rename_i q hq;cases h;rw[X.den,uz,yu hf hq,zh]
  ·exact zT hf h
 | .and x y,b,h=>by
  simp only[xV] at h
  split at h
  ·rename_i hq
   rw[X.den,uz,yu hf hq,yu hf h];rfl
  ·rename_i hq;cases h
   rw[X.den,uz,yu hf hq];rfl
  ·split at h
   ·rename_i hq;cases h
    rw[X.den,uz,yu hf hq,Bool.and_false]
   ·exact zT hf h
 | .ite c x y,b,h=>by
  have den:∀ q,(x.den s != 0)=q→(y.den s != 0)=q→((X.ite c x y).den s != 0)=q:=fun q h1 h2=>by
   simp only[X.den];split<;>assumption
  simp only[xV] at h
  split at h
  ·rename_i hq
   have:=yu hf hq
   have hc:c.den s≠0:=by simpa using this
   simp only[X.den,if_neg hc];exact yu hf h
  ·rename_i hq
   have:=yu hf hq
   have hc:c.den s=0:=by simpa using this
   simp only[X.den,if_pos hc];exact yu hf h
  ·split at h
   ·rename_i h1 h2;cases h;exact den _ (yu hf h1) (yu hf h2)
   ·rename_i h1 h2;cases h;exact den _ (yu hf h1) (yu hf h2)
   ·exact zT hf h
 | .var k i,b,h=>zT hf h
 | .conv k a,b,h=>zT hf h
 | .com k a,b,h=>zT hf h
 | .beq x y,b,h=>zT hf h
 | .min x y,b,h=>zT hf h
 | .max x y,b,h=>zT hf h
 | .dlen x,b,h=>zT hf h
def Aq {β:Type} (fc:Facts) (c:X) (K:Bool→Facts→rf β):rf β:=match c with
 | .lit n=>K (sN n) fc
 | c=>match xV fc c with
  | some b=>K b fc
  | none=>.ite c (K true (GN fc c true)) (K false (GN fc c false))
theorem Cf {β:Type} {Φ:uL} {s:rC} {fc:Facts} {c:X} {K:Bool→Facts→rf β} {r:β} (hf:sO s fc) (h:(Aq fc c K).path Φ s=some r):∃ fc',sO s fc'∧(K (c.den s != 0) fc').path Φ s=some r:=by
 unfold Aq at h
 split at h
 ·rename_i n
  refine⟨fc,hf,?_⟩
  rw[uQ] at h;exact h
 ·split at h
  ·rename_i b hb
   rw[yu hf hb];exact⟨fc,hf,h⟩
  ·simp only[rf.path] at h
   split at h
   ·rename_i hc
    have:(c.den s != 0)=false:=by rw[hc];rfl
    rw[this];exact⟨_,PN hf this,h⟩
   ·rename_i hc
    have:(c.den s != 0)=true:=by simpa using hc
    rw[this];exact⟨_,PN hf this,h⟩
open Go.RowKit
inductive SV where
 | v (x:Value)
 | int (k:IntKind) (x:X)
 | bool (x:X)
 | loc (b off:Nat)
 | hd (k:Nat)
 | ha (k off:Nat)
 | sl (b off len cap:Nat)
 | fn (f:Fn) (a c:List SV)
 | tup (l:List SV)
 | agg (l:List SV)
mutual
def SV.den (s:rC):SV→AV
 | .v x=>.v x
 | .int k x=>.v (.int k (x.den s))
 | .bool x=>.v (.bool (x.den s != 0))
 | .loc b off=>.loc b off
 | .hd k=>.hd k
 | .ha k off=>.ha k off
 | .sl b off len cap=>.sl b off len cap
 | .fn f a c=>xB f (SV.dens s a) (SV.dens s c)
 | .tup l=>xA (SV.dens s l)
 | .agg l=>wM (SV.dens s l)
def SV.dens (s:rC):List SV→List AV
 | []=>[]
 | x::l=>SV.den s x::SV.dens s l
end
theorem SV.dens_map (s:rC):∀ l:List SV,SV.dens s l=l.map (SV.den s)
 | []=>rfl
 | x::l=>by rw[SV.dens,SV.dens_map s l];rfl
def xD (x:Value):SV:=match x with
 | .int k n=>.int k (.lit n)
 | .bool b=>.bool (.lit (rZ b))
 | x=>.v x
theorem PW (s:rC) (x:Value):(xD x).den s = .v x:=by
 cases x<;>first|rfl|(simp only[xD,SV.den,X.den,uz])
def Cg (x:Value):SV:=match x with
 | .agg cs=>.agg (cs.toList.map xD)
 | x=>xD x
theorem zX (s:rC) (l:List Value):SV.dens s (l.map xD)=l.map .v:=by
 rw[SV.dens_map,List.map_map]
 apply List.map_congr_left;intro x _;exact PW s x
theorem Dr:∀ l:List Value,tZ (l.map .v)=some l
 | []=>rfl
 | x::l=>by rw[List.map_cons,tZ,Dr l]
theorem MJ (l:List Value):wM (l.map .v) = .v (.agg l.toArray):=by unfold wM;rw[Dr]
theorem MK (l:List Value):xA (l.map .v) = .v (.tuple l.toArray):=by unfold xA;rw[Dr]
theorem ML (s:rC) (x:Value):(Cg x).den s = .v x:=by
 unfold Cg;split
 ·simp only[SV.den,zX,MJ]
 ·exact PW s _
structure SO where
 c:List SV
 t:Option TypeId
def Ch (n:Nat):List Value:=(UV n).map fun d=>.int .u32 (Int.ofNat d)
def Ci (c:List SV):X:=match c with
 | [.int _ x]=>x
 | _=>.lit (.ofNat 0)
def U5:Value→Value×Value
 | .tuple xs=>match xs.toList with | [k,v]=>(k,v)|_=>(undef,undef)
 | _=>(undef,undef)
def PX:SV→Option (List (Value×Value))
 | .v (.tuple xs)=>some (xs.toList.map U5)
 | _=>none
def yT (c:List SV):Option (List (Value×Value)):=match c with
 | [x]=>PX x
 | _=>none
def tQ (k:VK) (n:Int):Value:=match k with | .int k=>.int k (k.wrap n) | .bool=>.bool (n != 0) | .bit=>.int .u64 (rZ (n != 0)) | .nat=>.int .u64 (Int.ofNat n.toNat)
def sP:List VK→List Int→List Value
 | k::ks,n::ns=>tQ k n::sP ks ns
 | _,_=>[]
structure Kl where
 n:X
 b:Nat
 ks:List VK
def MM:SV→VK
 | .int k _=>.int k
 | _=>.bool
def MN:SV→Bool
 | .v (.bool false)=>true
 | _=>false
def MO:SV→Option X
 | .int .i64 n=>some n
 | _=>none
def MP:SV→Option Nat
 | .v (.int .i64 (.ofNat b))=>some b
 | _=>none
def zk (c:List SV):Option Kl:=match c with
 | x::y::z::l=>match MN x,MO y,MP z with
  | true,some n,some b=>some ⟨n,b,l.map MM⟩
  | _,_,_=>none
 | _=>none
def xG (s:rC) (b:Nat) (ks:List VK):Nat→List Value
 | 0=>[]
 | n+1=>xG s b ks n++sP ks (wh s (b+n*ks.length) ks.length)
def SO.den (s:rC) (o:SO):AO:=match o.t with
 | some t=>.own (SV.dens s o.c) t
 | none=>match yT o.c with
  | some es=>.mp es
  | none=>match zk o.c with
   | some r=>.rd (r.n.den s).toNat (xG s r.b r.ks (r.n.den s).toNat)
   | none=>.rd (Ap ((Ci o.c).den s).toNat) (Ch ((Ci o.c).den s).toNat)
theorem SO.den_own (s:rC) {o:SO} {t:TypeId} (h:o.t=some t):o.den s = .own (SV.dens s o.c) t:=by unfold SO.den;rw[h]
theorem SO.den_nat (s:rC) {o:SO} (h:o.t=none) (hm:yT o.c=none) (ho:zk o.c=none):o.den s = .rd (Ap ((Ci o.c).den s).toNat) (Ch ((Ci o.c).den s).toNat):=by unfold SO.den;rw[h];simp only[];rw[hm];simp only[];rw[ho]
theorem SO.den_ora (s:rC) {o:SO} {r:Kl} (h:o.t=none) (hm:yT o.c=none) (ho:zk o.c=some r):o.den s = .rd (r.n.den s).toNat (xG s r.b r.ks (r.n.den s).toNat):=by unfold SO.den;rw[h];simp only[];rw[hm];simp only[];rw[ho]
theorem SO.den_map (s:rC) {o:SO} {es:List (Value×Value)} (h:o.t=none) (hm:yT o.c=some es):o.den s = .mp es:=by unfold SO.den;rw[h];simp only[];rw[hm]
abbrev SH:=List (Nat×SO)
def hget:SH→Nat→Option SO
 | [],_=>none
 | x::l,k=>match Nat.beq x.1 k with|true=>some x.2|false=>hget l k
def SH.den (s:rC) (H:SH):ru:=fun k=>(hget H k).map (SO.den s)
abbrev rQ:=List (Option SV)
def ve:rQ→Nat→Option SV
 | [],_=>none
 | x::l,0=>x
 | x::l,n+1=>ve l n
def rQ.den (s:rC) (T:rQ):rR:=fun t=>(ve T t).map (SV.den s)
def MQ {β:Sort _} : rQ→Nat→SV→(rQ→β)→β
 | [],_,_,k=>k []
 | x::l,0,v,k=>k (some v::l)
 | x::l,n+1,v,k=>MQ l n v fun l'=>k (x::l')
def Ar:rQ→Nat→SV→rQ
 | [],_,_=>[]
 | _::l,0,v=>some v::l
 | x::l,n+1,v=>x::Ar l n v
theorem U6 {β:Sort _} : ∀ (T:rQ) (n:Nat) (v:SV) (k:rQ→β),MQ T n v k=k (Ar T n v)
 | [],_,_,_=>rfl
 | x::l,0,_,_=>rfl
 | x::l,n+1,v,k=>by rw[MQ,U6 l n v];rfl
theorem U7:∀ (T:rQ) (n:Nat) (v:SV) (t:Nat),ve (Ar T n v) t=if t=n∧n<T.length then some v else ve T t
 | [],n,v,t=>by simp[Ar]
 | x::l,0,v,0=>by simp[Ar,ve]
 | x::l,0,v,t+1=>by simp[Ar,ve]
 | x::l,n+1,v,t=>by
  rw[Ar]
  cases t with
  | zero=>simp[ve]
  | succ t =>
   show ve (Ar l n v) t=_
   rw[U7 l n v t];simp[ve]
theorem U8:∀ (T:rQ) (n:Nat) (v:SV),(Ar T n v).length=T.length
 | [],_,_=>rfl
 | x::l,0,_=>rfl
 | x::l,n+1,v=>by rw[Ar];simp[U8 l n v]
theorem rQ.den_set (s:rC) (T:rQ) (n:Nat) (v:SV) (h:n<T.length):rQ.den s (Ar T n v)=(rQ.den s T).put (some n) (v.den s):=by
 funext t
 unfold rQ.den
 rw[U7]
 by_cases ht:t=n
 ·subst ht;rw[if_pos ⟨rfl,h⟩,rR.put_same];rfl
 ·rw[if_neg (fun e=>ht e.1),rR.put_ne _ _ _ ht]
def hset {β:Sort _} : SH→Nat→SO→(SH→β)→β
 | [],k,o,K=>K [(k,o)]
 | x::l,k,o,K=>match Nat.beq x.1 k with
  | true=>K ((k,o)::l)
  | false=>hset l k o fun l'=>K (x::l')
def Dt:SH→Nat→SO→SH
 | [],k,o=>[(k,o)]
 | x::l,k,o=>match Nat.beq x.1 k with
  | true=>(k,o)::l
  | false=>x::Dt l k o
theorem U9 {β:Sort _} : ∀ (H:SH) (k:Nat) (o:SO) (K:SH→β),hset H k o K=K (Dt H k o)
 | [],_,_,_=>rfl
 | x::l,k,o,K=>by
  simp only[hset,Dt]
  cases Nat.beq x.1 k with
  | true=>rfl
  | false=>simp only[];rw[U9 l k o]
theorem PY:∀ (H:SH) (k:Nat) (o:SO) (j:Nat),hget (Dt H k o) j=if j=k then some o else hget H j
 | [],k,o,j=>by
  simp only[Dt,hget]
  cases h:Nat.beq k j with
  | true=>rw[if_pos (sQ.1 h).symm]
  | false=>rw[if_neg];intro e;subst e;simp at h
 | x::l,k,o,j=>by
  simp only[Dt]
  cases h:Nat.beq x.1 k with
  | true =>
   have hx:=sQ.1 h
   simp only[hget]
   cases h2:Nat.beq k j with
   | true=>rw[if_pos (sQ.1 h2).symm]
   | false =>
    have:j≠k:=fun e=>by subst e;simp at h2
    rw[if_neg this,hx,h2]
  | false =>
   simp only[hget]
   cases h2:Nat.beq x.1 j with
   | true =>
    have hj:=sQ.1 h2
    have:j≠k:=fun e=>by rw[← hj] at e;rw[e] at h;simp at h
    rw[if_neg this]
   | false=>simp only[];exact PY l k o j
theorem SH.den_set (s:rC) (H:SH) (k:Nat) (o:SO):SH.den s (Dt H k o)=(SH.den s H).put k (o.den s):=by
 funext j
 unfold SH.den ru.put
 rw[PY]
 split<;>rfl
def Bn {β:Sort _} : SH→List (Nat×SO)→(SH→β)→β
 | H,[],K=>K H
 | H,x::l,K=>hset H x.1 x.2 fun H=>Bn H l K
def EE:SH→List (Nat×SO)→SH
 | H,[]=>H
 | H,x::l=>EE (Dt H x.1 x.2) l
theorem Va {β:Sort _} : ∀ (l:List (Nat×SO)) (H:SH) (K:SH→β),Bn H l K=K (EE H l)
 | [],_,_=>rfl
 | x::l,H,K=>by rw[Bn,U9,Va l,EE]
def sH (s:rC) (ef:List (Nat×SO)):List (Nat×AO):=ef.map fun x=>(x.1,x.2.den s)
theorem Vb (s:rC):∀ (l:List (Nat×SO)) (H:SH),SH.den s (EE H l)=(SH.den s H).puts (sH s l)
 | [],_=>rfl
 | x::l,H=>by rw[EE,Vb s l,SH.den_set];rfl
def zY (T:rQ):Operand→Option SV
 | .tmp t=>ve T t
 | .const v=>some (Cg v)
 | .global g=>some (.v (.pointer (some ⟨g,0,none⟩)))
 | .func f=>some (.v (.func (.func f) #[] #[]))
def RD (s:rC) (ρ:Operand→Option SV) (ρ':Operand→Option AV):Prop:=∀ x a,ρ x=some a→ρ' x=some (a.den s)
theorem Du (s : rC) (T : rQ) : RD s (zY T) (uX (rQ.den s T)) := by
  intro x a h
  cases x with
  | tmp t => have h : ve T t = some a := h
             simp [uX, rQ.den, h]
  | const v => simp only [zY, Option.some.injEq] at h; subst h; rw [ML]; rfl
  | global g => simp only [zY, Option.some.injEq] at h; subst h; rfl
  | func f => simp only [zY, Option.some.injEq] at h; subst h; rfl
def cellsS:SV→List SV
 | .v x=>x.cells.toList.map xD
 | .agg l=>l
 | x=>[x]
theorem Km (l:List AV):tL (wM l)=l:=by
 unfold wM
 cases h:tZ l with
 | none=>rfl
 | some vs =>
  simp only[tL,Value.cells]
  induction l generalizing vs with
  | nil=>simp only[tZ,Option.some.injEq] at h;subst h;rfl
  | cons x l ih =>
   cases x<;>simp only[tZ] at h<;>try cases h
   rename_i x
   cases h2:tZ l with
   | none=>rw[h2] at h;cases h
   | some ws =>
    rw[h2] at h
    simp only[Option.some.injEq] at h
    subst h
    simpa using ih ws h2
theorem adH (l:List AV):tL (xA l) = [xA l]:=by
 unfold xA;split<;>rfl
theorem adI (f:Fn) (a c:List AV):tL (xB f a c) = [xB f a c]:=by
 unfold xB;split<;>rfl
theorem GV (s:rC) (a:SV):SV.dens s (cellsS a)=tL (a.den s):=by
 cases a with
 | v x=>simp only[cellsS,zX,SV.den,tL]
 | agg l=>simp only[cellsS,SV.den,Km]
 | tup l=>simp only[cellsS,SV.dens,SV.den,adH]
 | fn f a c=>simp only[cellsS,SV.dens,SV.den,adI]
 | int k x=>simp only[cellsS,SV.dens,SV.den,tL,Value.cells,List.map_cons,List.map_nil]
 | bool x=>simp only[cellsS,SV.dens,SV.den,tL,Value.cells,List.map_cons,List.map_nil]
 | _=>rfl
def tC:SV→Bool
 | .v (.agg _)=>false
 | .v (.tuple _)=>false
 | .agg _=>false
 | .tup _=>false
 | .ha _ _=>false
 | _=>true
theorem adJ (f:Fn) (a c:List AV):Ep (xB f a c)=true:=by unfold xB;split<;>rfl
theorem adK {s:rC} {a:SV} (h:tC a=true):Ep (a.den s)=true:=by
 cases a with
 | v x=>cases x<;>first|rfl|cases h
 | fn f a c=>exact adJ _ _ _
 | agg l=>cases h
 | tup l=>cases h
 | ha k o=>cases h
 | _=>rfl
def tN {β:Sort _} : Nat→List SV→(List SV→β)→β
 | 0,_,K=>K []
 | _+1,[],K=>K []
 | n+1,x::l,K=>tN n l fun l'=>K (x::l')
def Cj (P:Program) (t:TypeId) (c:List SV) (off:Nat):Option SV :=
 match Da P t with
 | some true=>match tK P t with
  | some sz=>match Nat.ble (off+sz) c.length,Nat.ble 1 sz with
   | true,true=>Cb ((c.drop off).take sz) fun l=>some (.agg l)
   | _,_=>none
  | none=>none
 | some false=>c[off]?
 | none=>none
theorem zG (s:rC) (l:List SV):(SV.dens s l).length=l.length:=by rw[SV.dens_map];simp
theorem PZ (s:rC) (l:List SV) (n:Nat):SV.dens s (l.take n)=(SV.dens s l).take n:=by rw[SV.dens_map,SV.dens_map,List.map_take]
theorem P5 (s:rC) (l:List SV) (n:Nat):SV.dens s (l.drop n)=(SV.dens s l).drop n:=by rw[SV.dens_map,SV.dens_map,List.map_drop]
theorem Dv (s:rC) (a b:List SV):SV.dens s (a++b)=SV.dens s a++SV.dens s b:=by simp[SV.dens_map]
theorem Vd (s:rC) {l:List SV} {i:Nat} {x:SV} (h:l[i]? = some x):(SV.dens s l)[i]? = some (x.den s):=by rw[SV.dens_map];simp[h]
theorem EF {P:Program} {t:TypeId} {c:List SV} {off:Nat} {r:SV} (s:rC) (h:Cj P t c off=some r):vL P t (SV.dens s c) off=some (r.den s):=by
 unfold Cj at h
 unfold vL
 split at h
 ·rename_i ha
  rw[ha]
  simp only
  split at h
  ·rename_i sz hs
   rw[hs]
   simp only
   split at h
   ·rename_i h1 h2
    rw[Ez] at h
    cases h
    have h1:=Nat.le_of_ble_eq_true h1;have h2:=Nat.le_of_ble_eq_true h2
    rw[if_pos ⟨by rw[zG];exact h1,h2⟩]
    simp only[SV.den,PZ,P5]
   ·cases h
  ·cases h
 ·rename_i ha
  rw[ha]
  exact Vd s h
 ·cases h
abbrev SR:=SV×List Nat×List (Nat×SO)
def one (a:SV):rf SR:=.leaf (a,[],[])
def GX (w:String) (x:Option SV):rf SR:=match x with|some a=>.leaf (a,[],[])|none=>.stuck w
def P6 (P:Program) (G:rO) (t:TypeId) (H:SH) (a:SV):rf SR:=match a with
 | .loc b off=>match hget H b with
  | some o=>match o.t with
   | some _=>match Cj P t o.c off with|some r=>.leaf (r,[b],[])|none=>.stuck "load: cells"
   | none=>.stuck "load: a number"
  | none=>.stuck "load: block"
 | .v (.pointer (some ⟨g,off,none⟩))=>match JU G g with
  | some c=>match Cj P t (c.map xD) off with|some r=>one r|none=>.stuck "load: global cells"
  | none=>.stuck "load: global"
 | _=>.stuck "load"
def Ve (c:List SV) (off:Nat) (ys:List SV):List SV:=c.take off++ys++c.drop (off+ys.length)
def P7 (P:Program) (t:TypeId) (H:SH) (x y:SV):rf SR:=match x with
 | .loc b off=>match hget H b with
  | some ⟨_,none⟩=>.stuck "store: a number"
  | some o=>match (cellsS y).all tC,tK P t with
   | true,some n=>match Nat.beq n (cellsS y).length,Nat.ble (off+(cellsS y).length) o.c.length with
    | true,true=>Cb (Ve o.c off (cellsS y)) fun c=>.leaf (.v undef,[b],[(b,⟨c,o.t⟩)])
    | _,_=>.stuck "store: size"
   | _,_=>.stuck "store: cells"
  | none=>.stuck "store: block"
 | _=>.stuck "store"
def P8 (P:Program) (t:TypeId) (f:Nat) (x:SV):Option SV:=match x with
 | .agg l=>match Bb P t f with
  | some (off,ft)=>Cj P ft l off
  | none=>none
 | .v (.agg cs)=>match Bb P t f with
  | some (off,ft)=>Cj P ft (cs.toList.map xD) off
  | none=>none
 | _=>none
def P9 (P:Program) (t:TypeId) (f:Nat) (x:SV):Option SV :=
 match Bb P t f with
 | some (off,ft)=>match tK P ft with
  | some (_+1)=>match x with
   | .loc b o=>uA (o+off) fun n=>some (.loc b n)
   | .v (.pointer (some ⟨g,o,none⟩))=>uA (o+off) fun n=>some (.v (.pointer (some ⟨g,n,none⟩)))
   | _=>none
  | _=>none
 | none=>none
def GY {α:Type} (x:X) (f:Nat→rf α):Nat→Nat→Facts→rf α
 | 0,_,_=>.stuck "index"
 | m+1,j,fc=>match xV fc (.bin .eql .i64 x (.lit (.ofNat j))) with
  | some true=>f j
  | some false=>GY x f m (Nat.succ j) fc
  | none=>.ite (.bin .eql .i64 x (.lit (.ofNat j))) (f j) (GY x f m (Nat.succ j) (GN fc (.bin .eql .i64 x (.lit (.ofNat j))) false))
def EG {α:Type} (fc:Facts) (x:X) (len:Nat) (f:Nat→rf α):rf α:=match x with
 | .lit (.ofNat j)=>match Nat.blt j len with|true=>f j|false=>.stuck "index: out of range"
 | .lit (.negSucc _)=>.stuck "index: below 0"
 | x=>GY x f len 0 fc
theorem Qa {α:Type} {Φ:uL} {s:rC} {x:X} {f:Nat→rf α} {a:α} : ∀ (m j:Nat) (fc:Facts),sO s fc→(GY x f m j fc).path Φ s=some a→∃ i,j≤i∧i<j+m∧x.den s=i∧(f i).path Φ s=some a
 | 0,j,fc,hf,h=>by cases h
 | m+1,j,fc,hf,h=>by
  have eqj:((X.bin .eql .i64 x (.lit (.ofNat j))).den s != 0)=true→x.den s=(j:Int):=fun hq=>by
   simp only[X.den,rP,uz] at hq;simpa using hq
  have ite:(rf.ite (.bin .eql .i64 x (.lit (.ofNat j))) (f j) (GY x f m (Nat.succ j) (GN fc (.bin .eql .i64 x (.lit (.ofNat j))) false))).path Φ s=some a→∃ i,j≤i∧i<j+(m+1)∧x.den s=i∧(f i).path Φ s=some a:=fun h=>by
   simp only[rf.path] at h
   split at h
   ·rename_i hc
    obtain⟨i,h1,h2,h3,h4⟩:=Qa m (j+1) _ (PN hf (by rw[hc];rfl)) h
    exact⟨i,by omega,by omega,h3,h4⟩
   ·rename_i hne
    exact⟨j,Nat.le_refl _,by omega,eqj (by simpa using hne),h⟩
  simp only[GY] at h
  split at h
  ·rename_i hd;exact⟨j,Nat.le_refl _,by omega,eqj (yu hf hd),h⟩
  ·obtain⟨i,h1,h2,h3,h4⟩:=Qa m (j+1) fc hf h
   exact⟨i,by omega,by omega,h3,h4⟩
  ·exact ite h
theorem Kn {α:Type} {Φ:uL} {s:rC} {fc:Facts} (hf:sO s fc) {x:X} {len:Nat} {f:Nat→rf α} {a:α} (h:(EG fc x len f).path Φ s=some a):∃ i,i<len∧x.den s=(i:Int)∧(f i).path Φ s=some a:=by
 unfold EG at h
 split at h
 ·rename_i j
  split at h
  ·rename_i hb
   exact⟨j,by simpa [Nat.blt_eq] using hb,rfl,h⟩
  ·cases h
 ·cases h
 ·obtain⟨i,_,h2,h3,h4⟩:=Qa _ _ _ hf h
  exact⟨i,by omega,h3,h4⟩
def Qb (P:Program) (fc:Facts) (t:TypeId) (x i:SV):rf SR:=match i with
 | .int _ n=>match x with
  | .loc b o=>match yK P t with
   | some (len,el)=>match tK P el with
    | some sz=>EG fc n len fun j=>uA (o+j*sz) fun q=>one (.loc b q)
    | none=>.stuck "indexAddr: size"
   | none=>.stuck "indexAddr: no array"
  | .v (.pointer (some ⟨g,o,none⟩))=>match yK P t with
   | some (len,el)=>match tK P el with
    | some sz=>EG fc n len fun j=>uA (o+j*sz) fun q=>one (.v (.pointer (some ⟨g,q,none⟩)))
    | none=>.stuck "indexAddr: size"
   | none=>.stuck "indexAddr: no array"
  | .sl b o len _=>match Bc P t with
   | some el=>match tK P el with
    | some sz=>EG fc n len fun j=>uA (o+j*sz) fun q=>one (.loc b q)
    | none=>.stuck "indexAddr: size"
   | none=>.stuck "indexAddr: no slice"
  | _=>.stuck "indexAddr"
 | _=>.stuck "indexAddr: index"
def Qc (P:Program) (fc:Facts) (t:TypeId) (x i:SV):rf SR:=match i with
 | .int _ n=>match x with
  | .agg l=>match yK P t with
   | some (len,el)=>match tK P el with
    | some sz=>EG fc n len fun j=>GX "index: cells" (Cj P el l (j*sz))
    | none=>.stuck "index: size"
   | none=>.stuck "index: no array"
  | .v (.agg cs)=>match yK P t with
   | some (len,el)=>match tK P el with
    | some sz=>EG fc n len fun j=>GX "index: cells" (Cj P el (cs.toList.map xD) (j*sz))
    | none=>.stuck "index: size"
   | none=>.stuck "index: no array"
  | _=>.stuck "index"
 | _=>.stuck "index: index"
def Qd (x:SV) (i:Nat):Option SV:=match x with
 | .v (.tuple vs)=>match vs.toList[i]? with|some v=>some (xD v)|none=>none
 | .tup l=>l[i]?
 | _=>none
def GZ (place:Nat→Option (Nat×Nat)) (cells:List SV):List (Nat×SV)→Option (List SV)
 | []=>some cells
 | (i,x)::rest=>match place i with
  | none=>none
  | some (off,size)=>match Nat.beq (cellsS x).length size,Nat.ble (off+size) cells.length with
   | true,true=>Cb (cells.take off++cellsS x++cells.drop (off+size)) fun c=>GZ place c rest
   | _,_=>none
def MR (s:rC) (l:List (Nat×SV)):List (Nat×AV):=l.map fun x=>(x.1,x.2.den s)
theorem Qe {place:Nat→Option (Nat×Nat)} (s:rC):∀ {ps:List (Nat×SV)} {cells c:List SV},GZ place cells ps=some c→zR place (SV.dens s cells) (MR s ps)=some (SV.dens s c)
 | [],cells,c,h=>by simp only[GZ,Option.some.injEq] at h;subst h;rfl
 | (i,x)::rest,cells,c,h=>by
  simp only[GZ] at h
  simp only[MR,List.map_cons,zR]
  split at h
  ·cases h
  ·rename_i off size hp
   rw[hp]
   simp only
   split at h
   ·rename_i h1 h2
    rw[Ez] at h
    have h1:=sQ.1 h1;have h2:=Nat.le_of_ble_eq_true h2
    rw[if_pos ⟨by rw[← GV,zG];exact h1,by rw[zG];exact h2⟩]
    have:=Qe s h
    rw[Dv,Dv,PZ,P5,GV] at this
    exact this
   ·cases h
def G9 (ρ:Operand→Option SV):List (Nat×Operand)→Option (List (Nat×SV))
 | []=>some []
 | (i,x)::l=>match ρ x,G9 ρ l with
  | some a,some r=>some ((i,a)::r)
  | _,_=>none
theorem Qf {s:rC} {ρ:Operand→Option SV} {ρ':Operand→Option AV} (hρ:RD s ρ ρ'):∀ {l:List (Nat×Operand)} {r:List (Nat×SV)},G9 ρ l=some r→yL ρ' l=some (MR s r)
 | [],r,h=>by simp only[G9,Option.some.injEq] at h;subst h;rfl
 | (i,x)::l,r,h=>by
  simp only[G9] at h
  split at h
  ·rename_i a r' ha hr
   cases h
   rw[yL,hρ x a ha,Qf hρ hr];rfl
  ·cases h
def EH (ρ:Operand→Option SV):List Operand→Option (List SV)
 | []=>some []
 | x::l=>match ρ x,EH ρ l with
  | some a,some r=>some (a::r)
  | _,_=>none
theorem MS {s:rC} {ρ:Operand→Option SV} {ρ':Operand→Option AV} (hρ:RD s ρ ρ'):∀ {l:List Operand} {r:List SV},EH ρ l=some r→xN ρ' l=some (SV.dens s r)
 | [],r,h=>by simp only[EH,Option.some.injEq] at h;subst h;rfl
 | x::l,r,h=>by
  simp only[EH] at h
  split at h
  ·rename_i a r' ha hr
   cases h
   rw[xN,hρ x a ha,MS hρ hr];rfl
  ·cases h
abbrev Ha:=TypeId→SV→SV→Option X
def MU (P:Program) (SE:Ha) (E:tu):Prop:=∀ t x y r (s:rC),SE t x y=some r→∃ a b,x.den s = .v a∧y.den s = .v b∧wN P .eql t a b=none∧wN P .neq t a b=none∧E .eql t a b=some (.bool (r.den s != 0))∧E .neq t a b=some (.bool (!(r.den s != 0)))
def Dw (fc:Facts) (w:String) (c:X) (t:rf SR):rf SR:=match xV fc c with
 | some true=>.stuck w
 | some false=>t
 | none=>GM c (.stuck w) t
def Qg (fc:Facts) (op:BinOp) (k k':IntKind) (a b:X):rf SR:=match op with
 | .shl=>match X.inK k' b,k'.signed with
  | true,false=>uD (uy .shl k a b) fun x=>one (.int k x)
  | _,_=>Dw fc "shift below 0" (uy .lss k' b (.lit (.ofNat 0))) (uD (uy .shl k a b) fun x=>one (.int k x))
 | .shr=>match X.inK k' b,k'.signed with
  | true,false=>uD (uy .shr k a b) fun x=>one (.int k x)
  | _,_=>Dw fc "shift below 0" (uy .lss k' b (.lit (.ofNat 0))) (uD (uy .shr k a b) fun x=>one (.int k x))
 | .quo=>match vZ k k' with
  | true=>Dw fc "by 0" (uy .eql k' b (.lit (.ofNat 0))) (uD (uy .quo k a b) fun x=>one (.int k x))
  | false=>.stuck "kinds"
 | .rem=>match vZ k k' with
  | true=>Dw fc "by 0" (uy .eql k' b (.lit (.ofNat 0))) (uD (uy .rem k a b) fun x=>one (.int k x))
  | false=>.stuck "kinds"
 | .add | .sub | .mul | .and | .or | .xor | .andNot=>match vZ k k' with
  | true=>uD (uy op k a b) fun x=>one (.int k x)
  | false=>.stuck "kinds"
 | .eql | .neq | .lss | .leq | .gtr | .geq=>match vZ k k' with
  | true=>uD (uy op k a b) fun x=>one (.bool x)
  | false=>.stuck "kinds"
def Qh (P:Program) (SE:Ha) (fc:Facts) (op:BinOp) (t:TypeId) (x y:SV):rf SR:=match x,y with
 | .int k a,.int k' b=>Qg fc op k k' a b
 | .bool a,.bool b=>match P.underlying t with
  | some .bool=>match op with
   | .eql=>uD (MG a b) fun x=>one (.bool x)
   | .neq=>uD (mkNot (MG a b)) fun x=>one (.bool x)
   | _=>.stuck "binOp: bools"
  | _=>.stuck "binOp: bool type"
 | x,y=>match op with
  | .eql=>match SE t x y with|some r=>uD r fun r=>one (.bool r)|none=>.stuck "eql"
  | .neq=>match SE t x y with|some r=>uD (mkNot r) fun r=>one (.bool r)|none=>.stuck "neq"
  | _=>.stuck "binOp"
def Qi (op:UnOp) (x:SV):rf SR:=match op,x with
 | .neg,.int k a=>uD (uy .sub k (.lit (.ofNat 0)) a) fun x=>one (.int k x)
 | .xor,.int k a=>uD (MF k a) fun x=>one (.int k x)
 | .not,.bool a=>uD (mkNot a) fun x=>one (.bool x)
 | _,_=>.stuck "unOp"
def Qj (P:Program) (src dst:TypeId) (x:SV):rf SR:=match x with
 | .int _ a=>match Gd P dst,P.underlying src with
  | some k,some _=>uD (PG k a) fun x=>one (.int k x)
  | _,_=>.stuck "convert: type"
 | _=>.stuck "convert"
def Qk (x:SV):rf SR:=match x with
 | .loc b o=>one (.loc b o)
 | .v (.func (.func f) a c)=>one (.v (.func (.func f) a c))
 | .v (.pointer (some p))=>one (.v (.pointer (some p)))
 | .fn (.func f) a c=>one (.fn (.func f) a c)
 | _=>.stuck "nilCheck"
def sLen (P:Program) (t:TypeId) (H:SH) (x:SV):rf SR:=match P.underlying t with
 | some (.slice _)=>match x with
  | .hd k=>match hget H k with
   | some ⟨[.int _ x],none⟩=>.leaf (.int .i64 (.dlen x),[k],[])
   | some ⟨c,none⟩=>match yT c,zk c with
    | none,some r=>uD (MH r.n (.lit (.ofNat 0))) fun x=>.leaf (.int .i64 x,[k],[])
    | _,_=>.stuck "len: handle"
   | _=>.stuck "len: handle"
  | .sl _ _ n _=>one (.int .i64 (.lit (.ofNat n)))
  | .v (.slice _ n _)=>one (.int .i64 (.lit (.ofNat n)))
  | _=>.stuck "len: slice"
 | some .string=>match x with | .v (.string s)=>uA s.size fun n=>one (.int .i64 (.lit (.ofNat n)))|_=>.stuck "len: string"
 | some (.array n _)=>one (.int .i64 (.lit (.ofNat n)))
 | _=>.stuck "len"
def Ql (P:Program) (t:TypeId) (x:SV):rf SR:=match yK P t with
 | some (n,_)=>match x with
  | .sl b o len _=>match Nat.ble n len with|true=>one (.loc b o)|false=>.stuck "arrayAt: len"
  | _=>.stuck "arrayAt"
 | none=>.stuck "arrayAt: no array"
def Qm (P:Program) (t:TypeId) (k:Nat) (x y:SV):rf SR:=match x,y with
 | .int _ (.lit (.ofNat n)),.int _ (.lit (.ofNat m))=>match Bc P t with
  | some el=>match tK P el,Aj P el,OM P el with
   | some sz,some z,some b=>match Nat.ble n m,Nat.blt m 16777216,Nat.ble b 4096,Nat.beq (m*sz) 0 with
    | true,true,true,false=>Cb ((BR z (m*sz)).map xD) fun c=>.leaf (.sl k 0 n m,[],[(k,⟨c,some el⟩)])
    | _,_,_,_=>.stuck "makeSlice: size"
   | _,_,_=>.stuck "makeSlice: type"
  | none=>.stuck "makeSlice: no slice"
 | _,_=>.stuck "makeSlice"
def Qn (P:Program) (t:TypeId) (x:SV):rf SR:=match yK P t with
 | some (n,el)=>match x,tK P el with
  | .loc b o,some _=>one (.sl b o n n)
  | _,_=>.stuck "slice"
 | none=>.stuck "slice: no array"
def Qo (P:Program) (t:TypeId) (len:Nat) (k:Nat) (ps:List (Nat×SV)):rf SR:=match Bc P t with
 | some el=>match tK P el,Aj P el with
  | some sz,some z=>match Nat.ble (len*sz) 16777216,Nat.beq (len*sz) 0 with
   | true,false=>match GZ (fun i=>some (i*sz,sz)) ((BR z (len*sz)).map xD) ps with
    | some c=>.leaf (.sl k 0 len len,[],[(k,⟨c,some el⟩)])
    | none=>.stuck "buildSlice: parts"
   | _,_=>.stuck "buildSlice: size"
  | _,_=>.stuck "buildSlice: type"
 | none=>.stuck "buildSlice"
def o1 (ρ:Operand→Option SV) (x:Operand) (f:SV→rf SR):rf SR:=match ρ x with|some a=>f a|none=>.stuck "operand"
def o2 (ρ:Operand→Option SV) (x y:Operand) (f:SV→SV→rf SR):rf SR:=match ρ x with
 | some a=>match ρ y with|some b=>f a b|none=>.stuck "operand"
 | none=>.stuck "operand"
def Qp (P:Program) (G:rO) (SE:Ha) (fc:Facts) (op:Op) (ρ:Operand→Option SV) (H:SH) (k:Nat):rf SR :=
 match op with
 | .move x=>o1 ρ x one
 | .assign x=>o1 ρ x one
 | .pick c a b=>o1 ρ c fun v=>match v with
  | .bool q=>GM q (o1 ρ a one) (o1 ρ b one)
  | _=>.stuck "pick"
 | .alloc t=>match Aj P t with|some z=>Cb (z.map xD) fun c=>.leaf (.loc k 0,[],[(k,⟨c,some t⟩)])|none=>.stuck "alloc"
 | .box t x=>o1 ρ x fun a=>Cb (cellsS a) fun c=>.leaf (.loc k 0,[],[(k,⟨c,some t⟩)])
 | .build t ps=>match G9 ρ ps.toList,Aj P t with
  | some l,some z=>match Mh P t with
   | true=>match GZ (JV P t) (z.map xD) l with|some c=>one (.agg c)|none=>.stuck "build: parts"
   | false=>.stuck "build: sizes"
  | _,_=>.stuck "build"
 | .buildSlice t len ps=>match G9 ρ ps.toList with|some l=>Qo P t len k l|none=>.stuck "buildSlice: operands"
 | .load t x=>o1 ρ x fun a=>P6 P G t H a
 | .store t x y=>o2 ρ x y fun a b=>P7 P t H a b
 | .nilCheck x=>o1 ρ x Qk
 | .binOp op t x y _=>o2 ρ x y fun a b=>Qh P SE fc op t a b
 | .unOp op _ x=>o1 ρ x fun a=>Qi op a
 | .convert s d x=>o1 ρ x fun a=>Qj P s d a
 | .makeFunc f a c=>match EH ρ a.toList,EH ρ c.toList with|some x,some y=>one (.fn f x y)|_,_=>.stuck "makeFunc"
 | .fieldAddr t x f=>o1 ρ x fun a=>GX "fieldAddr" (P9 P t f a)
 | .field t x f=>o1 ρ x fun a=>GX "field" (P8 P t f a)
 | .indexAddr t x i=>o2 ρ x i fun a b=>Qb P fc t a b
 | .index t x i=>o2 ρ x i fun a b=>Qc P fc t a b
 | .extract x i=>o1 ρ x fun a=>GX "extract" (Qd a i)
 | .call { callee:=.builtin .len,args:=args,argTypes:=ts }=>match args.toList,ts.toList with
  | [x],[t]=>o1 ρ x fun a=>sLen P t H a
  | _,_=>.stuck "len: operands"
 | .call { callee:=.builtin .min,args:=args,argTypes:=_ }=>match args.toList with
  | [x,y]=>o2 ρ x y fun a b=>match a,b with
   | .int k a,.int _ b=>uD (PI a b) fun x=>one (.int k x)
   | _,_=>.stuck "min"
  | _=>.stuck "min: operands"
 | .call { callee:=.builtin .max,args:=args,argTypes:=_ }=>match args.toList with
  | [x,y]=>o2 ρ x y fun a b=>match a,b with
   | .int k a,.int _ b=>uD (MH a b) fun x=>one (.int k x)
   | _,_=>.stuck "max"
  | _=>.stuck "max: operands"
 | .sliceToArrayPointer t x=>o1 ρ x fun a=>Ql P t a
 | .makeSlice t x y=>o2 ρ x y fun a b=>Qm P t k a b
 | .slice t x none none none=>o1 ρ x fun a=>Qn P t a
 | _=>.stuck "no such operation"
open Go.RowKit
theorem SH.den_get {s:rC} {H:SH} {k:Nat} {o:SO} {t:TypeId} (h:hget H k=some o) (ht:o.t=some t):SH.den s H k=some (.own (SV.dens s o.c) t):=by unfold SH.den;rw[h,Option.map_some,SO.den_own s ht]
theorem SH.den_nat {s:rC} {H:SH} {k:Nat} {o:SO} (h:hget H k=some o) (ht:o.t=none) (hm:yT o.c=none) (ho:zk o.c=none):SH.den s H k=some (.rd (Ap ((Ci o.c).den s).toNat) (Ch ((Ci o.c).den s).toNat)):=by unfold SH.den;rw[h,Option.map_some,SO.den_nat s ht hm ho]
theorem SH.den_ora {s:rC} {H:SH} {k:Nat} {o:SO} {r:Kl} (h:hget H k=some o) (ht:o.t=none) (hm:yT o.c=none) (ho:zk o.c=some r):SH.den s H k=some (.rd (r.n.den s).toNat (xG s r.b r.ks (r.n.den s).toNat)):=by unfold SH.den;rw[h,Option.map_some,SO.den_ora s ht hm ho]
theorem SH.den_map {s:rC} {H:SH} {k:Nat} {o:SO} {es:List (Value×Value)} (h:hget H k=some o) (ht:o.t=none) (hm:yT o.c=some es):SH.den s H k=some (.mp es):=by unfold SH.den;rw[h,Option.map_some,SO.den_map s ht hm]
section
variable {P:Program} {G:rO} {SE:Ha} {E:tu} {Φ:uL} {s:rC} {r:SR} {fc:Facts}
theorem zZ {a:SV} (h:(one a).path Φ s=some r):r=(a,[],[]):=by cases h;rfl
theorem Ko {w:String} {x:Option SV} (h:(GX w x).path Φ s=some r):∃ a,x=some a∧r=(a,[],[]):=by
 cases x with
 | none=>cases h
 | some a=>cases h;exact⟨a,rfl,rfl⟩
theorem yw {ρ:Operand→Option SV} {x:Operand} {f:SV→rf SR} (h:(o1 ρ x f).path Φ s=some r):∃ a,ρ x=some a∧(f a).path Φ s=some r:=by
 unfold o1 at h;split at h
 ·rename_i a ha;exact⟨a,ha,h⟩
 ·cases h
theorem EI {ρ:Operand→Option SV} {x y:Operand} {f:SV→SV→rf SR} (h:(o2 ρ x y f).path Φ s=some r):∃ a b,ρ x=some a∧ρ y=some b∧(f a b).path Φ s=some r:=by
 unfold o2 at h;split at h
 ·rename_i a ha
  split at h
  ·rename_i b hb;exact⟨a,b,ha,hb,h⟩
  ·cases h
 ·cases h
theorem zH {x:X} {k:X→rf SR} (h:(uD x k).path Φ s=some r):(k x).path Φ s=some r:=by rwa [adu] at h
theorem adL {t:TypeId} {H:SH} {a:SV} (h:(P6 P G t H a).path Φ s=some r):xM P G t (SH.den s H) (a.den s)=some (r.1.den s,r.2.1,sH s r.2.2):=by
 unfold P6 at h
 split at h
 ·rename_i b off
  split at h
  ·rename_i o ho
   split at h
   ·rename_i t0 ht
    split at h
    ·rename_i r' hr
     cases h
     simp only[SV.den,xM,SH.den_get ho ht,EF s hr];rfl
    ·cases h
   ·cases h
  ·cases h
 ·rename_i g off
  split at h
  ·rename_i c hc
   split at h
   ·rename_i r' hr
    cases h
    have:=EF s hr
    rw[zX] at this
    simp only[SV.den,xM,hc,this];rfl
   ·cases h
  ·cases h
 ·cases h
theorem adM {t:TypeId} {H:SH} {x y:SV} (h:(P7 P t H x y).path Φ s=some r):BP P t (SH.den s H) (x.den s) (y.den s)=some (r.1.den s,r.2.1,sH s r.2.2):=by
  unfold P7 at h
  split at h
  · rename_i b off
    split at h
    · cases h
    · rename_i o hno ho
      obtain⟨t0,ht⟩:∃ t0,o.t=some t0:=by
        obtain⟨c,t0⟩:=o
        cases t0 with
        | none=>exact absurd rfl (hno c)
        | some t0=>exact⟨t0,rfl⟩
      split at h
      · rename_i n h1 hn
        split at h
        · rename_i h2 h3
          rw[Ez] at h
          cases h
          have h2:=sQ.1 h2;have h3:=Nat.le_of_ble_eq_true h3
          have hl:(tL (y.den s)).length=(cellsS y).length:=by rw[← GV,zG]
          have ha:(tL (y.den s)).all Ep=true:=by
            rw[← GV,SV.dens_map,List.all_map,List.all_eq_true]
            intro z hz
            exact adK (List.all_eq_true.1 h1 z hz)
          simp only[SV.den,BP,SH.den_get ho ht]
          rw[if_pos (by
            simp only[Bool.and_eq_true,decide_eq_true_eq];refine⟨⟨ha,?_⟩,?_⟩
            · rw[hl,hn,h2]
            · rw[hl,zG];exact h3)]
          congr 3
          simp only[sH,List.map_cons,List.map_nil,ht,SO.den,Ve,Dv,PZ,P5,GV,← hl]
        · cases h
      · cases h
    · cases h
  · cases h
theorem adN {t:TypeId} {l:List AV} {f off:Nat} {ft:TypeId} (hf:Bb P t f=some (off,ft)):Dc P t f (wM l)=vL P ft l off:=by
 have hc:=Km l
 unfold wM at hc ⊢
 cases h:tZ l with
 | none=>simp only[Dc,hf,tL]
 | some vs =>
  rw[h] at hc
  simp only[Dc,hf]
  rw[hc]
theorem adO {t:TypeId} {f:Nat} {x a:SV} (h:P8 P t f x=some a):Dc P t f (x.den s)=some (a.den s):=by
 unfold P8 at h
 split at h
 ·rename_i l
  split at h
  ·rename_i off ft hf
   simp only[SV.den]
   rw[adN hf,EF s h]
  ·cases h
 ·rename_i cs
  split at h
  ·rename_i off ft hf
   have:=EF s h
   rw[zX] at this
   simp only[SV.den,Dc,hf,tL,Value.cells]
   exact this
  ·cases h
 ·cases h
theorem adP {t:TypeId} {f:Nat} {x a:SV} (h:P9 P t f x=some a):De P t f (x.den s)=some (a.den s):=by
 unfold P9 at h
 unfold De
 split at h
 ·rename_i off ft hf
  rw[hf]
  simp only
  split at h
  ·rename_i n hs
   rw[hs]
   simp only
   split at h
   ·rw[uj] at h;cases h;rfl
   ·rw[uj] at h;cases h;rfl
   ·cases h
  ·cases h
 ·cases h
theorem adQ (hf:sO s fc) {t:TypeId} {H:ru} {x i:SV} (h:(Qb P fc t x i).path Φ s=some r):ze (zD P t H (x.den s) (i.den s))=some (r.1.den s,r.2.1,sH s r.2.2):=by
 unfold Qb at h
 split at h
 ·rename_i k n
  split at h
  ·rename_i b o
   split at h
   ·rename_i len el ha
    split at h
    ·rename_i sz hs
     obtain⟨j,h1,h2,h3⟩:=Kn hf h
     rw[uj] at h3;cases h3
     simp only[SV.den,zD,ha,hs,h2]
     rw[if_pos ⟨by omega,by omega⟩];rfl
    ·cases h
   ·cases h
  ·rename_i g o
   split at h
   ·rename_i len el ha
    split at h
    ·rename_i sz hs
     obtain⟨j,h1,h2,h3⟩:=Kn hf h
     rw[uj] at h3;cases h3
     simp only[SV.den,zD,ha,hs,h2]
     rw[if_pos ⟨by omega,by omega⟩];rfl
    ·cases h
   ·cases h
  ·rename_i b o len cap
   split at h
   ·rename_i el ha
    split at h
    ·rename_i sz hs
     obtain⟨j,h1,h2,h3⟩:=Kn hf h
     rw[uj] at h3;cases h3
     simp only[SV.den,zD,ha,hs,h2]
     rw[if_pos ⟨by omega,by omega⟩];rfl
    ·cases h
   ·cases h
  ·cases h
 ·cases h
theorem adR {t:TypeId} {l:List AV} {k:IntKind} {n:Int} {len el sz:Nat} (ha:yK P t=some (len,el)) (hs:tK P el=some sz) (hn:0≤n∧n<len):Df P t (wM l) (.v (.int k n))=vL P el l (n.toNat*sz):=by
 have hc:=Km l
 unfold wM at hc ⊢
 cases h:tZ l with
 | none=>simp only[Df,ha,hs,if_pos hn]
 | some vs =>
  rw[h] at hc
  simp only[tL,Value.cells] at hc
  simp only[Df,ha,hs,if_pos hn]
  rw[hc]
theorem adS (hf:sO s fc) {t:TypeId} {x i:SV} (h:(Qc P fc t x i).path Φ s=some r):wt (Df P t (x.den s) (i.den s))=some (r.1.den s,r.2.1,sH s r.2.2):=by
 unfold Qc at h
 split at h
 ·rename_i k n
  split at h
  ·rename_i l
   split at h
   ·rename_i len el ha
    split at h
    ·rename_i sz hs
     obtain⟨j,h1,h2,h3⟩:=Kn hf h
     obtain⟨a,h4,rfl⟩:=Ko h3
     simp only[SV.den]
     rw[adR ha hs (by rw[h2];omega),h2,show((j:Int)).toNat=j by simp,EF s h4];rfl
    ·cases h
   ·cases h
  ·rename_i cs
   split at h
   ·rename_i len el ha
    split at h
    ·rename_i sz hs
     obtain⟨j,h1,h2,h3⟩:=Kn hf h
     obtain⟨a,h4,rfl⟩:=Ko h3
     have:=EF s h4
     rw[zX] at this
     simp only[SV.den,Df,ha,hs,h2]
     rw[if_pos ⟨by omega,by omega⟩,show((j:Int)).toNat=j by simp,this];rfl
    ·cases h
   ·cases h
  ·cases h
 ·cases h
theorem adT {x a:SV} {i:Nat} (h:Qd x i=some a):Gh (x.den s) i=some (a.den s):=by
 unfold Qd at h
 split at h
 ·rename_i vs
  split at h
  ·rename_i v hv
   cases h
   simp only[SV.den,Gh,hv,PW]
  ·cases h
 ·rename_i l
  have:=Vd s h
  simp only[SV.den]
  unfold xA
  cases hv:tZ (SV.dens s l) with
  | none=>exact this
  | some vs =>
   have h2:=Db (e:=⟨fun _=>0,fun _=>undef⟩) hv
   have h3:SV.dens s l=vs.map .v:=by
    have h4:=Km (SV.dens s l)
    unfold wM at h4;rw[hv] at h4
    simpa [tL,Value.cells] using h4.symm
   rw[h3] at this
   simp only[Gh]
   rw[List.getElem?_map] at this
   cases hg:vs[i]? with
   | none=>rw[hg] at this;cases this
   | some v=>rw[hg] at this;simp only[List.getElem?_toArray,List.toList_toArray,hg];exact this
 ·cases h
theorem adU {c:X} {w:String} {b:rf SR} (h:(GM c (.stuck w) b).path Φ s=some r):c.den s=0∧b.path Φ s=some r:=by
 rw[PL] at h
 split at h
 ·rename_i hc;exact⟨hc,h⟩
 ·cases h
theorem Vf {b:Bool} (h:rZ b=0):b=false:=by cases b<;>first|rfl|cases h
theorem adV {k:IntKind} (hk:k.signed=false) (n:Int):0≤k.wrap n:=by
 unfold IntKind.wrap IntKind.bits;cases k<;>first|(cases hk;done)|(simp[IntKind.signed];omega)
theorem Vg (hf:sO s fc) {w:String} {c:X} {t:rf SR} (h:(Dw fc w c t).path Φ s=some r):c.den s=0∧t.path Φ s=some r:=by
 unfold Dw at h
 split at h
 ·cases h
 ·rename_i hd
  have:=yu hf hd
  exact⟨by simpa using this,h⟩
 ·exact adU h
theorem adW (hf:sO s fc) {t:TypeId} {op:BinOp} {k k':IntKind} {a b:X} (h:(Qg fc op k k' a b).path Φ s=some r):∃ v,wN P op t (.int k (a.den s)) (.int k' (b.den s))=some v ∧ .v v=r.1.den s∧r.2=([],[]):=by
 have ar:∀ {op':BinOp},(uD (uy op' k a b) fun x=>one (.int k x)).path Φ s=some r→AV.v (.int k (rP op' k (a.den s) (b.den s)))=r.1.den s∧r.2=([],[]):=fun h=>by
  have h:=zZ (zH h);subst h
  exact⟨by simp only[SV.den,Dn],rfl⟩
 have cm:∀ {op':BinOp},(uD (uy op' k a b) fun x=>one (.bool x)).path Φ s=some r→AV.v (.bool (rP op' k (a.den s) (b.den s) != 0))=r.1.den s∧r.2=([],[]):=fun h=>by
  have h:=zZ (zH h);subst h
  exact⟨by simp only[SV.den,Dn],rfl⟩
 have nn:∀ {op':BinOp},(match X.inK k' b,k'.signed with
   | true,false=>uD (uy op' k a b) fun x=>one (.int k x)
   | _,_=>Dw fc "shift below 0" (uy .lss k' b (.lit (.ofNat 0))) (uD (uy op' k a b) fun x=>one (.int k x))).path Φ s=some r →
   ¬ b.den s<0∧(uD (uy op' k a b) fun x=>one (.int k x)).path Φ s=some r:=fun h=>by
  split at h
  ·rename_i h1 h2
   refine⟨?_,h⟩
   rw[← X.inK_ok s h1];have:=adV h2 (b.den s);omega
  ·obtain⟨h1,h2⟩:=Vg hf h
   refine⟨?_,h2⟩
   rw[Dn] at h1
   have:=Vf h1
   intro hc
   simp only[decide_eq_false_iff_not] at this
   exact this hc
 have nz:∀ {op':BinOp},(Dw fc "by 0" (uy .eql k' b (.lit (.ofNat 0))) (uD (uy op' k a b) fun x=>one (.int k x))).path Φ s=some r →
   b.den s≠0∧(uD (uy op' k a b) fun x=>one (.int k x)).path Φ s=some r:=fun h=>by
  obtain⟨h1,h2⟩:=Vg hf h
  refine⟨?_,h2⟩
  rw[Dn] at h1
  have:=Vf h1
  intro hc;rw[hc] at this;cases this
 cases op<;>simp only[Qg] at h
 case shl =>
  obtain⟨h1,h2⟩:=nn h
  exact⟨_,by simp only[wN,if_neg h1];rfl,ar h2⟩
 case shr =>
  obtain⟨h1,h2⟩:=nn h
  exact⟨_,by simp only[wN,if_neg h1];rfl,ar h2⟩
 case quo =>
  split at h
  ·rename_i hk
   have hk:=xC hk
   obtain⟨h1,h2⟩:=nz h
   exact⟨_,by simp only[wN,if_pos (And.intro hk h1)];rfl,ar h2⟩
  ·cases h
 case rem =>
  split at h
  ·rename_i hk
   have hk:=xC hk
   obtain⟨h1,h2⟩:=nz h
   exact⟨_,by simp only[wN,if_pos (And.intro hk h1)];rfl,ar h2⟩
  ·cases h
 all_goals
  split at h
  ·rename_i hk
   have hk:=xC hk
   first
    | exact⟨_,by simp only[wN,if_pos hk,rP,UT],ar h⟩
    | exact⟨_,by simp only[wN,if_pos hk,rP,uz],cm h⟩
  ·cases h
theorem adX (hSE:MU P SE E) (hf:sO s fc) {t:TypeId} {op:BinOp} {x y:SV} (h:(Qh P SE fc op t x y).path Φ s=some r):wt (Dg P E op t (x.den s) (y.den s))=some (r.1.den s,r.2.1,sH s r.2.2):=by
 unfold Qh at h
 split at h
 ·rename_i k a k' b
  obtain⟨v,h1,h2,h3⟩:=adW (P:=P) hf (t:=t) h
  simp only[SV.den,Dg,h1,wt,h2,h3];rfl
 ·rename_i a b
  split at h
  ·rename_i hu
   split at h
   ·have h:=zZ (zH h);subst h
    simp only[SV.den,Dg,wN,hu,wt,U0,uz];rfl
   ·have h:=zZ (zH h);subst h
    simp only[SV.den,Dg,wN,hu,wt,PH,U0,uz];rfl
   ·cases h
  ·cases h
 ·rename_i hi hb
  have key:∀ u,SE t x y=some u→∃ a b,x.den s = .v a∧y.den s = .v b∧wN P .eql t a b=none∧wN P .neq t a b=none∧E .eql t a b=some (.bool (u.den s != 0))∧E .neq t a b=some (.bool (!(u.den s != 0))):=fun u hu=>hSE t x y u s hu
  split at h
  ·split at h
   ·rename_i u hu
    have h:=zZ (zH h);subst h
    obtain⟨a,b,h1,h2,p1,p2,h3,h4⟩:=key u hu
    simp only[h1,h2,Dg,p1,h3,wt,SV.den];rfl
   ·cases h
  ·split at h
   ·rename_i u hu
    have h:=zZ (zH h);subst h
    obtain⟨a,b,h1,h2,p1,p2,h3,h4⟩:=key u hu
    simp only[h1,h2,Dg,p2,h4,wt,SV.den,PH,uz];rfl
   ·cases h
  ·cases h
theorem adY {op:UnOp} {x:SV} (h:(Qi op x).path Φ s=some r):wt (Gi op (x.den s))=some (r.1.den s,r.2.1,sH s r.2.2):=by
 unfold Qi at h
 split at h
 ·have h:=zZ (zH h);subst h
  simp only[SV.den,Gi,wt,Dn,rP];rfl
 ·have h:=zZ (zH h);subst h
  simp only[SV.den,Gi,wt,UZ,Kh,UT];rfl
 ·have h:=zZ (zH h);subst h
  simp only[SV.den,Gi,wt,PH,uz];rfl
 ·cases h
theorem adZ {src dst:TypeId} {x:SV} (h:(Qj P src dst x).path Φ s=some r):wt (Mi P src dst (x.den s))=some (r.1.den s,r.2.1,sH s r.2.2):=by
 unfold Qj at h
 split at h
 ·split at h
  ·rename_i k d hk hd
   have h:=zZ (zH h);subst h
   simp only[SV.den,Mi,hk,hd,wt,adx];rfl
  ·cases h
 ·cases h
theorem ad2 (f:FuncId) (a c:List AV):Mj (xB (.func f) a c)=some (xB (.func f) a c):=by unfold xB;split<;>rfl
theorem ad3 {x:SV} (h:(Qk x).path Φ s=some r):wt (Mj (x.den s))=some (r.1.den s,r.2.1,sH s r.2.2):=by
 unfold Qk at h
 split at h
 ·cases h;rfl
 ·cases h;rfl
 ·cases h;rfl
 ·cases h;simp only[SV.den,ad2,wt];rfl
 ·cases h
theorem ad4 {t:TypeId} {H:SH} {x:SV} (h:(sLen P t H x).path Φ s=some r):ze (yM P t (SH.den s H) (x.den s))=some (r.1.den s,r.2.1,sH s r.2.2):=by
 unfold sLen at h
 split at h
 ·rename_i el hu
  split at h
  ·rename_i k
   split at h
   ·rename_i kd x hk
    cases h;simp only[SV.den,yM,hu,SH.den_nat hk rfl rfl rfl];rfl
   ·rename_i c _ hk
    split at h
    ·rename_i ro hm ho
     have h:=zH h
     cases h
     simp only[SV.den,yM,hu,SH.den_ora hk rfl hm ho,ze,U1,X.den]
     have e:((ro.n.den s).toNat:Int)=if Int.ofNat 0>ro.n.den s then Int.ofNat 0 else ro.n.den s:=by
      show _=if (0:Int)>ro.n.den s then(0:Int) else ro.n.den s
      split<;>omega
     rw[e];rfl
    ·cases h
   ·cases h
  ·cases h;simp only[SV.den,yM,hu];rfl
  ·cases h;simp only[SV.den,yM,hu];rfl
  ·cases h
 ·rename_i hu
  split at h
  ·rw[uj] at h;cases h;simp only[SV.den,yM,hu];rfl
  ·cases h
 ·rename_i n el hu
  cases h;simp only[yM,hu];rfl
 ·cases h
theorem ad5 {t:TypeId} {H:ru} {x:SV} (h:(Ql P t x).path Φ s=some r):ze (BS P t H (x.den s))=some (r.1.den s,r.2.1,sH s r.2.2):=by
 unfold Ql at h
 split at h
 ·rename_i n el ha
  split at h
  ·split at h
   ·rename_i hb
    cases h
    simp only[SV.den,BS,ha,if_pos (Nat.le_of_ble_eq_true hb)];rfl
   ·cases h
  ·cases h
 ·cases h
theorem ad6 {t:TypeId} {k:Nat} {x y:SV} (h:(Qm P t k x y).path Φ s=some r):Gm P t k (x.den s) (y.den s)=some (r.1.den s,r.2.1,sH s r.2.2):=by
 unfold Qm at h
 split at h
 ·rename_i k1 n k2 m
  split at h
  ·rename_i el hel
   split at h
   ·rename_i sz z b hs hz hb
    split at h
    ·rename_i h1 h2 h3 h4
     rw[Ez] at h
     cases h
     have h1:=Nat.le_of_ble_eq_true h1
     have h2:m<16777216:=by simpa [Nat.blt_eq] using h2
     have h3:=Nat.le_of_ble_eq_true h3
     have h4:m*sz≠0:=fun e=>by rw[e] at h4;cases h4
     simp only[SV.den,X.den,Gm,hel,hs,hz,hb,Int.ofNat_eq_natCast]
     rw[if_pos ⟨by omega,by omega,by omega,h3,by simpa using h4⟩]
     simp only[sH,List.map_cons,List.map_nil,SO.den,zX,Int.ofNat_eq_natCast,Int.toNat_natCast]
    ·cases h
   ·cases h
  ·cases h
 ·cases h
theorem ad7 {t:TypeId} {x:SV} (h:(Qn P t x).path Φ s=some r):wt (JW P t (x.den s))=some (r.1.den s,r.2.1,sH s r.2.2):=by
 unfold Qn at h
 split at h
 ·rename_i n el ha
  split at h
  ·rename_i b o sz hs
   cases h;simp only[SV.den,JW,ha,hs];rfl
  ·cases h
 ·cases h
theorem ad8 {t:TypeId} {len k:Nat} {ps:List (Nat×SV)} (h:(Qo P t len k ps).path Φ s=some r):Gj P t len k (MR s ps)=some (r.1.den s,r.2.1,sH s r.2.2):=by
 unfold Qo at h
 split at h
 ·rename_i el hel
  split at h
  ·rename_i sz z hs hz
   split at h
   ·rename_i h1 h2
    split at h
    ·rename_i c hc
     cases h
     have h1:=Nat.le_of_ble_eq_true h1
     have h2:len*sz≠0:=fun e=>by rw[e] at h2;cases h2
     have h3:=Qe s hc
     rw[zX] at h3
     simp only[Gj,hel,hs,hz,h3]
     rw[if_pos ⟨h1,h2⟩];rfl
    ·cases h
   ·cases h
  ·cases h
 ·cases h
theorem ad9 (hSE:MU P SE E) (hf:sO s fc) {op:Op} {ρ:Operand→Option SV} {ρ':Operand→Option AV} (hρ:RD s ρ ρ') {H:SH} {k:Nat} (h:(Qp P G SE fc op ρ H k).path Φ s=some r) :
  rU P G E op ρ' (SH.den s H) k=some (r.1.den s,r.2.1,sH s r.2.2):=by
 unfold Qp at h
 split at h
 ·obtain⟨a,ha,h⟩:=yw h;cases h;simp only[rU,hρ _ _ ha,wt];rfl
 ·obtain⟨a,ha,h⟩:=yw h;cases h;simp only[rU,hρ _ _ ha,wt];rfl
 ·obtain⟨v,hv,h⟩:=yw h
  split at h
  ·rename_i q
   rw[PL] at h
   have hq:=hρ _ _ hv
   split at h
   ·rename_i hc
    obtain⟨a,ha,h⟩:=yw h;cases h
    simp only[rU,hq,SV.den,hc,bne_self_eq_false,Bool.false_eq_true,if_false,hρ _ _ ha,wt];rfl
   ·rename_i hc
    obtain⟨a,ha,h⟩:=yw h;cases h
    have:(q.den s != 0)=true:=by simpa using hc
    simp only[rU,hq,SV.den,this,if_true,hρ _ _ ha,wt];rfl
  ·cases h
 ·split at h
  ·rename_i z hz
   rw[Ez] at h
   cases h;simp only[rU,hz,SV.den,sH,List.map_cons,List.map_nil,SO.den,zX]
  ·cases h
 ·obtain⟨a,ha,h⟩:=yw h
  rw[Ez] at h
  cases h;simp only[rU,hρ _ _ ha,SV.den,sH,List.map_cons,List.map_nil,SO.den,GV]
 ·split at h
  ·rename_i l z hl hz
   split at h
   ·rename_i hs
    split at h
    ·rename_i c hc
     cases h
     have h3:=Qe s hc
     rw[zX] at h3
     simp only[rU,Qf hρ hl,hz,hs,if_true,h3,SV.den];rfl
    ·cases h
   ·cases h
  ·cases h
 ·split at h
  ·rename_i l hl
   simp only[rU,Qf hρ hl];exact ad8 h
  ·cases h
 ·obtain⟨a,ha,h⟩:=yw h;simp only[rU,hρ _ _ ha];exact adL h
 ·obtain⟨a,b,ha,hb,h⟩:=EI h;simp only[rU,hρ _ _ ha,hρ _ _ hb];exact adM h
 ·obtain⟨a,ha,h⟩:=yw h;simp only[rU,hρ _ _ ha];exact ad3 h
 ·obtain⟨a,b,ha,hb,h⟩:=EI h;simp only[rU,hρ _ _ ha,hρ _ _ hb];exact adX hSE hf h
 ·obtain⟨a,ha,h⟩:=yw h;simp only[rU,hρ _ _ ha];exact adY h
 ·obtain⟨a,ha,h⟩:=yw h;simp only[rU,hρ _ _ ha];exact adZ h
 ·split at h
  ·rename_i x y hx hy
   cases h;simp only[rU,MS hρ hx,MS hρ hy,SV.den];rfl
  ·cases h
 ·obtain⟨a,ha,h⟩:=yw h
  obtain⟨b,hb,rfl⟩:=Ko h
  simp only[rU,hρ _ _ ha,adP hb,wt];rfl
 ·obtain⟨a,ha,h⟩:=yw h
  obtain⟨b,hb,rfl⟩:=Ko h
  simp only[rU,hρ _ _ ha,adO hb,wt];rfl
 ·obtain⟨a,b,ha,hb,h⟩:=EI h;simp only[rU,hρ _ _ ha,hρ _ _ hb];exact adQ hf h
 ·obtain⟨a,b,ha,hb,h⟩:=EI h;simp only[rU,hρ _ _ ha,hρ _ _ hb];exact adS hf h
 ·obtain⟨a,ha,h⟩:=yw h
  obtain⟨b,hb,rfl⟩:=Ko h
  simp only[rU,hρ _ _ ha,adT hb,wt];rfl
 ·split at h
  ·rename_i x t hx ht
   obtain⟨a,ha,h⟩:=yw h
   simp only[rU,hx,ht,hρ _ _ ha];exact ad4 h
  ·cases h
 ·split at h
  ·rename_i x y hx
   obtain⟨a,b,ha,hb,h⟩:=EI h
   split at h
   ·have h:=zZ (zH h);subst h
    simp only[rU,hx,hρ _ _ ha,hρ _ _ hb,SV.den,adz];rfl
   ·cases h
  ·cases h
 ·split at h
  ·rename_i x y hx
   obtain⟨a,b,ha,hb,h⟩:=EI h
   split at h
   ·have h:=zZ (zH h);subst h
    simp only[rU,hx,hρ _ _ ha,hρ _ _ hb,SV.den,U1];rfl
   ·cases h
  ·cases h
 ·obtain⟨a,ha,h⟩:=yw h;simp only[rU,hρ _ _ ha];exact ad5 h
 ·obtain⟨a,b,ha,hb,h⟩:=EI h;simp only[rU,hρ _ _ ha,hρ _ _ hb];exact ad6 h
 ·obtain⟨a,ha,h⟩:=yw h;simp only[rU,hρ _ _ ha];exact ad7 h
 ·cases h
end
open Go.RowKit
mutual
def AV.ren (f:Nat→Nat):AV→AV
 | .v x=>.v x
 | .loc b off=>.loc (f b) off
 | .sl b off len cap=>.sl (f b) off len cap
 | .hd k=>.hd (f k)
 | .ha k off=>.ha (f k) off
 | .fn g a c=>.fn g (AV.rens f a) (AV.rens f c)
 | .tup l=>.tup (AV.rens f l)
 | .agg l=>.agg (AV.rens f l)
def AV.rens (f:Nat→Nat):List AV→List AV
 | []=>[]
 | x::l=>AV.ren f x::AV.rens f l
end
def AO.ren (f:Nat→Nat):AO→AO
 | .own c t=>.own (AV.rens f c) t
 | .rd n c=>.rd n c
 | .mp es=>.mp es
def Vh (f:Nat→Nat) (e e':Env) (l:List Nat):Prop:=∀ r∈l,e'.blk (f r)=e.blk r∧e'.hnd (f r)=e.hnd r
mutual
theorem AV.ren_val {f:Nat→Nat} {e e':Env} : ∀ x:AV,Vh f e e' x.refs→(x.ren f).val e'=x.val e
 | .v _,_=>rfl
 | .loc b off,h=>by simp only[AV.ren,AV.val];rw[(h b (by simp[AV.refs])).1]
 | .sl b off len cap,h=>by simp only[AV.ren,AV.val];rw[(h b (by simp[AV.refs])).1]
 | .hd k,h=>by simp only[AV.ren,AV.val];rw[(h k (by simp[AV.refs])).2]
 | .ha k off,h=>by simp only[AV.ren,AV.val];rw[(h k (by simp[AV.refs])).2]
 | .fn g a c,h=>by
  simp only[AV.ren,AV.val]
  rw[AV.rens_val a (fun r hr=>h r (by rw[AV.refs];exact List.mem_append_left _ hr)),AV.rens_val c (fun r hr=>h r (by rw[AV.refs];exact List.mem_append_right _ hr))]
 | .tup l,h=>by simp only[AV.ren,AV.val];rw[AV.rens_val l (fun r hr=>h r (by rw[AV.refs];exact hr))]
 | .agg l,h=>by simp only[AV.ren,AV.val];rw[AV.rens_val l (fun r hr=>h r (by rw[AV.refs];exact hr))]
theorem AV.rens_val {f:Nat→Nat} {e e':Env} : ∀ l:List AV,Vh f e e' (AV.refss l)→AV.vals e' (AV.rens f l)=AV.vals e l
 | [],_=>rfl
 | x::l,h=>by
  rw[AV.rens,AV.vals,AV.vals,AV.ren_val x (fun r hr=>h r (by rw[AV.refss];exact List.mem_append_left _ hr)),AV.rens_val l (fun r hr=>h r (by rw[AV.refss];exact List.mem_append_right _ hr))]
end
mutual
theorem AV.ren_refs {f:Nat→Nat} : ∀ (x:AV) {r:Nat},r∈(x.ren f).refs→∃ q∈x.refs,r=f q
 | .v _,r,h=>by simp[AV.ren,AV.refs] at h
 | .loc b off,r,h=>by simp[AV.ren,AV.refs] at h;exact⟨b,by simp[AV.refs],h⟩
 | .sl b off len cap,r,h=>by simp[AV.ren,AV.refs] at h;exact⟨b,by simp[AV.refs],h⟩
 | .hd k,r,h=>by simp[AV.ren,AV.refs] at h;exact⟨k,by simp[AV.refs],h⟩
 | .ha k off,r,h=>by simp[AV.ren,AV.refs] at h;exact⟨k,by simp[AV.refs],h⟩
 | .fn g a c,r,h=>by
  simp only[AV.ren,AV.refs,List.mem_append] at h
  rcases h with h|h
  ·obtain⟨q,hq,e⟩:=AV.rens_refs a h;exact⟨q,by rw[AV.refs];exact List.mem_append_left _ hq,e⟩
  ·obtain⟨q,hq,e⟩:=AV.rens_refs c h;exact⟨q,by rw[AV.refs];exact List.mem_append_right _ hq,e⟩
 | .tup l,r,h=>by
  simp only[AV.ren,AV.refs] at h
  obtain⟨q,hq,e⟩:=AV.rens_refs l h;exact⟨q,by rw[AV.refs];exact hq,e⟩
 | .agg l,r,h=>by
  simp only[AV.ren,AV.refs] at h
  obtain⟨q,hq,e⟩:=AV.rens_refs l h;exact⟨q,by rw[AV.refs];exact hq,e⟩
theorem AV.rens_refs {f:Nat→Nat} : ∀ (l:List AV) {r:Nat},r∈AV.refss (AV.rens f l)→∃ q∈AV.refss l,r=f q
 | [],r,h=>by simp[AV.rens,AV.refss] at h
 | x::l,r,h=>by
  simp only[AV.rens,AV.refss,List.mem_append] at h
  rcases h with h|h
  ·obtain⟨q,hq,e⟩:=AV.ren_refs x h;exact⟨q,by rw[AV.refss];exact List.mem_append_left _ hq,e⟩
  ·obtain⟨q,hq,e⟩:=AV.rens_refs l h;exact⟨q,by rw[AV.refss];exact List.mem_append_right _ hq,e⟩
end
def vg (src:Nat→Option Nat) (e e2:Env):Env:=⟨fun j=>match src j with|some n=>e2.blk n|none=>e.blk j,fun j=>match src j with|some n=>e2.hnd n|none=>e.hnd j⟩
theorem Aa {src:Nat→Option Nat} {e e2:Env} {j n:Nat} (h:src j=some n):(vg src e e2).blk j=e2.blk n∧(vg src e e2).hnd j=e2.hnd n:=by
 unfold vg;simp only[h];exact⟨trivial,trivial⟩
theorem zI {src:Nat→Option Nat} {e e2:Env} {j:Nat} (h:src j=none):(vg src e e2).blk j=e.blk j∧(vg src e e2).hnd j=e.hnd j:=by
 unfold vg;simp only[h];exact⟨trivial,trivial⟩
theorem aea {G:rO} {w0:World} {B0:sG} {e:Env} {H':ru} {w:World} (R:rT G w0 B0 e H' w) {keys:List Nat} {B:sG} (hBd:B.dom=keys) (hBb:∀ b∈B.blks,∃ j∈keys,b=e.blk j) (hBe:B.env=e)
  {e2:Env} {Hc:ru} {w':World} (R2:rT G w B e2 Hc w') (hown:∀ j∈keys,∃ c t,H' j=some (.own c t)) {src:Nat→Option Nat} {f:Nat→Nat}
  (h1:∀ j n,src j=some n→f n=j∧∃ c t,Hc n=some (.own c t)∧∀ r∈AV.refss c,src (f r)=some r)
  (h2:∀ j∈keys,src j=some j) (h3:∀ j,j∉keys→src j≠none→H' j=none) {Hn:ru} (hn:∀ j,Hn j=match src j with|some n=>(Hc n).map (AO.ren f)|none=>H' j) :
  rT G w0 B0 (vg src e e2) Hn w'∧Env.on H' e (vg src e e2)∧∀ j,H' j≠none→Hn j≠none:=by
 have hK:∀ j∈keys,e2.blk j=e.blk j∧e2.hnd j=e.hnd j:=fun j hj=>by
  have:=(R2.env j (by rw[hBd];exact hj)).2;rw[hBe] at this;exact this
 have hon:Env.on H' e (vg src e e2):=by
  intro j hj
  cases hs:src j with
  | none=>exact zI hs
  | some n =>
   rw[(Aa hs).1,(Aa hs).2]
   by_cases hm:j∈keys
   ·have:=h2 j hm;rw[hs] at this;cases this;exact hK j hm
   ·exact absurd (h3 j hm (by rw[hs];simp)) hj
 have hdom:∀ j,H' j≠none→Hn j≠none:=by
  intro j hj
  rw[hn]
  cases hs:src j with
  | none=>exact hj
  | some n =>
   obtain⟨_,c,t,hc,_⟩:=h1 j n hs
   simp[hc]
 have hbk:∀ n j,src j=some n→e2.blk n<w.heap.size→∃ i∈keys,e2.blk n=e.blk i:=by
  intro n j hs hlt
  obtain⟨_,c,t,hc,_⟩:=h1 j n hs
  rcases R2.ge n c t hc with hg|hg
  ·omega
  ·exact hBb _ hg
 have hold:∀ b,b<w.heap.size→(∀ i∈keys,b≠e.blk i)→w'.heap[b]? = w.heap[b]?:=fun b hb hne=>R2.old b hb (fun hm=>by
  obtain⟨i,hi,rfl⟩:=hBb b hm;exact hne i hi rfl)
 have hnone:∀ j o,Hn j=some o→src j=none→H' j=some o:=fun j o hj hs=>by rw[hn,hs] at hj;exact hj
 have hsome:∀ j n o,Hn j=some o→src j=some n→∃ c t,Hc n=some (.own c t)∧o = .own (AV.rens f c) t∧∀ r∈AV.refss c,src (f r)=some r:=fun j n o hj hs=>by
  obtain⟨_,c,t,hc,hr⟩:=h1 j n hs
  rw[hn,hs] at hj
  simp only[hc,Option.map_some,AO.ren,Option.some.injEq] at hj
  exact⟨c,t,hc,hj.symm,hr⟩
 refine⟨⟨R2.os.trans R.os,R2.tape.trans R.tape,R2.output.trans R.output,Nat.le_trans R.size R2.size,?_,R2.gl,?_,?_,?_,?_,?_,?_,?_,?_,fun j n l hj b hv=>by
  cases hs:src j with
  | some m=>obtain⟨c0,t0,hc,ho,hr⟩:=hsome j m _ hj hs;cases ho
  | none=>rw[(zI hs).2] at hv;exact R.new j n l (hnone j _ hj hs) b hv,fun j es hj=>by
  cases hs:src j with
  | some m=>obtain⟨c0,t0,hc,ho,hr⟩:=hsome j m _ hj hs;cases ho
  | none =>
   have h0:=hnone j _ hj hs
   obtain⟨m1,m2⟩:=R.mp j es h0
   rw[(zI hs).2]
   refine⟨m1.same (fun b hv hb=>hold b hb (fun i hi he=>?_)),fun j' c t hj' hv=>?_⟩
   ·obtain⟨c',t',hi'⟩:=hown i hi
    exact m2 i c' t' hi' (by rw[hv,he])
   ·cases hs':src j' with
    | none =>
     rw[(zI hs').1] at hv
     exact m2 j' c t (hnone j' _ hj' hs') hv
    | some m =>
     rw[(Aa hs').1] at hv
     obtain⟨i,hi,he⟩:=hbk m j' hs' (m1.lt hv)
     obtain⟨c',t',hi'⟩:=hown i hi
     exact m2 i c' t' hi' (by rw[hv,he])⟩,hon,hdom⟩
 ·intro b hb hb0
  rw[← R.old b hb hb0]
  refine hold b (Nat.lt_of_lt_of_le hb R.size) (fun i hi he=>?_)
  obtain⟨c,t,hc⟩:=hown i hi
  rcases R.ge i c t hc with hg|hg
  ·omega
  ·rw[he] at hb0;exact hb0 hg
 ·intro j c t hj
  cases hs:src j with
  | some n =>
   obtain⟨c0,t0,hc,ho,hr⟩:=hsome j n _ hj hs
   cases ho
   rw[(Aa hs).1,AV.rens_val c0 (fun r hrm=>Aa (hr r hrm))]
   exact R2.own n c0 t hc
  | none =>
   have h0:=hnone j _ hj hs
   rw[(zI hs).1,AV.vals_on hon c (fun r hr=>R.refs j _ h0 r hr),hold (e.blk j) (R.lt h0) (fun i hi he=>?_)]
   ·exact R.own j c t h0
   ·obtain⟨c',t',hi'⟩:=hown i hi
    have:=R.inj j c t i c' t' h0 hi' he
    rw[this,h2 i hi] at hs;cases hs
 ·intro j c t hj
  cases hs:src j with
  | some n =>
   obtain⟨c0,t0,hc,ho,hr⟩:=hsome j n _ hj hs
   rw[(Aa hs).1]
   rcases R2.ge n c0 t0 hc with hg|hg
   ·exact .inl (Nat.le_trans R.size hg)
   ·obtain⟨i,hi,he⟩:=hBb _ hg
    obtain⟨c',t',hi'⟩:=hown i hi
    rw[he];exact R.ge i c' t' hi'
  | none=>rw[(zI hs).1];exact R.ge j c t (hnone j _ hj hs)
 ·intro j c t hj x hx
  cases hs:src j with
  | some n =>
   obtain⟨c0,t0,hc,ho,hr⟩:=hsome j n _ hj hs
   rw[(Aa hs).1];exact R2.glo n c0 t0 hc x hx
  | none=>rw[(zI hs).1];exact R.glo j c t (hnone j _ hj hs) x hx
 ·have mix:∀ j n j',src j=some n→src j'=none→(∃ c t,H' j'=some (.own c t))→e2.blk n≠e.blk j':=by
   intro j n j' hs hs' ⟨c,t,hj'⟩ he
   obtain⟨i,hi,h⟩:=hbk n j hs (by rw[he];exact R.lt hj')
   obtain⟨c',t',hi'⟩:=hown i hi
   have:=R.inj i c' t' j' c t hi' hj' (by rw[← h,he])
   rw[← this,h2 i hi] at hs';cases hs'
  intro j c t j' c' t' hj hj' he
  cases hs:src j with
  | some n =>
   obtain⟨c0,t0,hc,ho,hr⟩:=hsome j n _ hj hs
   rw[(Aa hs).1] at he
   cases hs':src j' with
   | some n' =>
    obtain⟨c0',t0',hc',ho',hr'⟩:=hsome j' n' _ hj' hs'
    rw[(Aa hs').1] at he
    have:=R2.inj n c0 t0 n' c0' t0' hc hc' he
    rw[← (h1 j n hs).1,← (h1 j' n' hs').1,this]
   | none =>
    rw[(zI hs').1] at he
    exact absurd he (mix j n j' hs hs' ⟨c',t',hnone j' _ hj' hs'⟩)
  | none =>
   rw[(zI hs).1] at he
   cases hs':src j' with
   | some n' =>
    rw[(Aa hs').1] at he
    exact absurd he.symm (mix j' n' j hs' hs ⟨c,t,hnone j _ hj hs⟩)
   | none =>
    rw[(zI hs').1] at he
    exact R.inj j c t j' c' t' (hnone j _ hj hs) (hnone j' _ hj' hs') he
 ·intro j n l hj
  cases hs:src j with
  | some m=>obtain⟨c0,t0,hc,ho,hr⟩:=hsome j m _ hj hs;cases ho
  | none =>
   have h0:=hnone j _ hj hs
   rw[(zI hs).2]
   refine(R.rd j n l h0).same R2.size (fun b hv hb=>hold b hb (fun i hi he=>?_))
   obtain⟨c',t',hi'⟩:=hown i hi
   exact R.apart j n l i c' t' h0 hi' (by rw[hv,he])
 ·intro j n l j' c t hj hj' hv
  cases hs:src j with
  | some m=>obtain⟨c0,t0,hc,ho,hr⟩:=hsome j m _ hj hs;cases ho
  | none =>
   have h0:=hnone j _ hj hs
   rw[(zI hs).2] at hv
   cases hs':src j' with
   | none =>
    rw[(zI hs').1] at hv
    exact R.apart j n l j' c t h0 (hnone j' _ hj' hs') hv
   | some m =>
    rw[(Aa hs').1] at hv
    obtain⟨i,hi,he⟩:=hbk m j' hs' ((R.rd j n l h0).lt hv)
    obtain⟨c',t',hi'⟩:=hown i hi
    exact R.apart j n l i c' t' h0 hi' (by rw[hv,he])
 ·intro j o hj r hr
  cases hs:src j with
  | some n =>
   obtain⟨c0,t0,hc,ho,hrf⟩:=hsome j n _ hj hs
   subst ho
   obtain⟨q,hq,rfl⟩:=AV.rens_refs c0 hr
   have hsq:=hrf q hq
   obtain⟨_,c,t,hc',_⟩:=h1 _ _ hsq
   rw[hn,hsq];simp[hc']
  | none=>exact hdom r (R.refs j o (hnone j _ hj hs) r hr)
 ·intro j hj
  obtain⟨h0,hb⟩:=R.env j hj
  exact⟨hdom j h0,by rw[(hon j h0).1];exact hb.1,by rw[(hon j h0).2];exact hb.2⟩
theorem aeb {P : Program} {G : rO} (E : tu) {w0 : World} {B0 : sG} {g : FuncId} {fn : Func} {c : Code} {args : List AV} {H H1 Hc : ru} {k : Nat} {r : AV} {ef : List (Nat × AO)} (keys : List Nat) (N1 : Nat) (src : Nat → Option Nat) (f : Nat → Nat)
    (hf : P.funcs[g]? = some fn) (hb : fn.body = some c) (hn : (fn.name == "runtime.NumGoroutine") = false) (hl : (Nat.ble args.length fn.ntmps) = true)
    (hH1 : ∀ j o, H1 j = some o → j ∈ keys) (hH1' : ∀ j ∈ keys, H1 j = H j ∧ (∃ c t, H j = some (.own c t)) ∧ j < N1) (hcl : ∀ j c t, H1 j = some (.own c t) → ∀ r ∈ AV.refss c, r ∈ keys) (href : ∀ x ∈ args, ∀ j ∈ x.refs, j ∈ keys)
    (h1 : ∀ j n, src j = some n → f n = j ∧ ∃ c t, Hc n = some (.own c t) ∧ ∀ r ∈ AV.refss c, src (f r) = some r)
    (h2 : ∀ j ∈ keys, src j = some j) (h3 : ∀ j n, src j = some n → j ∈ keys ∨ j = k ∨ j = k + 1) (hr : ∀ j ∈ r.refs, src (f j) = some j)
    (hef : ∀ H' : ru, (∀ b ∈ keys, H' b = H b) → ∀ j, (H'.puts ef) j = match src j with | some n => (Hc n).map (AO.ren f) | none => H' j)
    (h : ∀ w1 B, AW ⟨P, G, E, w1, B, fn.ntmps⟩ c (Pt P G fn (fun r' Hx => r' = r ∧ Hx = Hc)) N1 (BZ args fn.ntmps) H1) :
    Et P G w0 B0 g args H keys k (r.ren f) ef := by
  intro H' e w hag hk0 hk1 hrefs R
  have hkeys : ∀ j ∈ keys, ∃ c t, H' j = some (.own c t) := fun j hj => by rw [hag j hj]; exact (hH1' j hj).2.1
  have hsub : ∀ j o, H1 j = some o → H' j = some o := fun j o hj => by have hm := hH1 j o hj; rw [hag j hm, ← (hH1' j hm).1]; exact hj
  let B : sG := ⟨keys.map e.blk, keys, e⟩
  have R1 : rT G w B e H1 w := by
    refine ⟨rfl, rfl, rfl, Nat.le_refl _, fun _ _ _ => rfl, R.gl, fun j c t hj => R.own j c t (hsub _ _ hj), fun j c t hj => .inr (List.mem_map.2 ⟨j, hH1 j _ hj, rfl⟩), fun j c t hj => R.glo j c t (hsub _ _ hj),
      fun j c t j' c' t' hj hj' => R.inj j c t j' c' t' (hsub _ _ hj) (hsub _ _ hj'), fun j n l hj => R.rd j n l (hsub _ _ hj), fun j n l j' c t hj hj' => R.apart j n l j' c t (hsub _ _ hj) (hsub _ _ hj'), ?_, ?_, fun j n l hj b hv => .inr ⟨j, hH1 j _ hj, hv⟩, fun j es hj => ⟨(R.mp j es (hsub _ _ hj)).1, fun j' c t hj' => (R.mp j es (hsub _ _ hj)).2 j' c t (hsub _ _ hj')⟩⟩
    · intro j o hj i hi
      obtain ⟨hj1, ⟨c, t, hc⟩, _⟩ := hH1' j (hH1 j o hj)
      rw [← hj1, hj] at hc
      cases hc
      have hm := hcl j c t hj i hi
      obtain ⟨h5, ⟨c', t', hc'⟩, _⟩ := hH1' i hm
      rw [h5, hc']; simp
    · intro j hj
      obtain ⟨h5, ⟨c', t', hc'⟩, _⟩ := hH1' j hj
      exact ⟨by rw [h5, hc']; simp, rfl, rfl⟩
  have hB1 : zf H1 N1 := by
    intro b hb
    cases hv : H1 b with
    | none => rfl
    | some o => have := (hH1' b (hH1 b o hv)).2.2; omega
  have hcall := Pv (E := E) hf hb (by simpa using hl) R1 hB1 (fun x hx j hj => by
    obtain ⟨h5, ⟨c', t', hc'⟩, _⟩ := hH1' j (href x hx j hj); rw [h5, hc']; simp) (h w B)
  refine Dl hf hn (by rw [hb]; rfl) (hcall.mono ?_)
  rintro en w' ⟨r', e2, Hx, rfl, ⟨rfl, rfl⟩, R2⟩
  have hput := hef H' hag
  obtain ⟨R3, hon, hdom⟩ := aea R (keys := keys) (B := B) rfl (fun b hb => by obtain ⟨j, hj, rfl⟩ := List.mem_map.1 hb; exact ⟨j, hj, rfl⟩) rfl R2 hkeys h1 h2 (fun j hj hs => by
    cases hsj : src j with
    | none => exact absurd hsj hs
    | some n => rcases h3 j n hsj with h6 | h6 | h6
                · exact absurd h6 hj
                · rw [h6]; exact hk0
                · rw [h6]; exact hk1) hput
  refine ⟨vg src e e2, ?_, R3, hon, fun j hj => ?_⟩
  · rw [AV.ren_val r' (fun j hj => Aa (hr j hj))]
  · obtain ⟨q, hq, rfl⟩ := AV.ren_refs r' hj
    have hs := hr q hq
    obtain ⟨_, c, t, hc, _⟩ := h1 _ _ hs
    rw [hput, hs]; simp [hc]
open Go.RowKit
inductive Sh where
 | sc (k:VK)
 | agg (l:List VK)
structure Ct where
 a:List Sh
 r:List Sh
structure wm where
 id:Nat
 a:List Sh
 n:Nat
 t:TypeId
 ks:List VK
 r:List Sh
structure sV where
 P:Program
 G:rO
 SE:Ha
 ct:FuncId→Option Ct
 Φ:uL
 nt:FuncId→Option Ct
 sl:FuncId→List wm
def Au (k:VK) (x:SV):Option X:=match k,x with
 | .int k,.int k' a=>match vZ k k',X.inK k a with|true,true=>some a|_,_=>none
 | .bool,.bool a=>some a
 | .bit,.int k' a=>match vZ .u64 k',X.isBit a with|true,true=>some a|_,_=>none
 | _,_=>none
def EJ:List VK→List SV→Option (List X)
 | [],[]=>some []
 | k::ks,x::xs=>match Au k x,EJ ks xs with|some a,some l=>some (a::l)|_,_=>none
 | _,_=>none
def Qq (h:Sh) (x:SV):Option (List X):=match h,x with
 | .sc k,x=>match Au k x with|some a=>some [a]|none=>none
 | .agg l,.agg xs=>EJ l xs
 | .agg l,.v (.agg cs)=>EJ l (cs.toList.map xD)
 | _,_=>none
def wY:List Sh→List SV→Option (List X)
 | [],[]=>some []
 | h::hs,x::xs=>match Qq h x,wY hs xs with|some a,some l=>some (a++l)|_,_=>none
 | _,_=>none
def Av (k:VK) (x:X):SV:=match k with | .int k=>.int k x | .bool=>.bool x | .bit=>.int .u64 x | .nat=>.int .u64 x
def Ab:List VK→List X→List SV
 | k::ks,x::xs=>Av k x::Ab ks xs
 | _,_=>[]
def Sh.kinds:Sh→List VK
 | .sc k=>[k]
 | .agg l=>l
def Qr (h:Sh) (xs:List X):SV:=match h with
 | .sc k=>match xs with|x::_=>Av k x | []=>.v undef
 | .agg l=>.agg (Ab l xs)
def rM:List Sh→List X→List SV
 | [],_=>[]
 | h::hs,xs=>Qr h xs::rM hs (xs.drop h.kinds.length)
def tT:List SV→SV
 | [x]=>x
 | l=>.tup l
def rq (l:List Sh):List VK:=l.flatMap Sh.kinds
def rJ:Nat→List VK→List X
 | _,[]=>[]
 | b,k::ks=>.var k b::rJ (Nat.succ b) ks
def Hd (k:VK) (n:Int):Int:=match k with | .int k=>uP k n | .bool=>rZ (sN n) | .bit=>rZ (sN n) | .nat=>Int.ofNat n.toNat
def Kq {β:Sort _} : List VK→List Int→(List X→β)→β
 | k::ks,n::ns,K=>Ex (Hd k n) fun n=>Kq ks ns fun l=>K (.lit n::l)
 | _,_,K=>K []
def Kr:List X→Option (List Int)
 | []=>some []
 | .lit n::l=>match Kr l with|some r=>some (n::r)|none=>none
 | _::_=>none
mutual
def SV.refs:SV→List Nat
 | .v _=>[]
 | .int _ _=>[]
 | .bool _=>[]
 | .loc b _=>[b]
 | .hd k=>[k]
 | .ha k _=>[k]
 | .sl b _ _ _=>[b]
 | .fn _ a c=>SV.refss a++SV.refss c
 | .tup l=>SV.refss l
 | .agg l=>SV.refss l
def SV.refss:List SV→List Nat
 | []=>[]
 | x::l=>SV.refs x++SV.refss l
end
def He (H:SH):Nat→List Nat→SH→Option SH
 | 0,_,_=>none
 | _+1,[],acc=>some acc
 | f+1,b::todo,acc=>match hget acc b with
  | some _=>He H f todo acc
  | none=>match hget H b with
   | none=>none
   | some o=>He H f (SV.refss o.c++todo) ((b,o)::acc)
def reach (H:SH) (l:List Nat):Option SH:=match l with | []=>some []|l=>He H 2000 l []
def tV (n:Nat):List Nat→Bool
 | []=>false
 | x::l=>match Nat.beq x n with|true=>true|false=>tV n l
def addN (n:Nat) (l:List Nat):List Nat:=match tV n l with|true=>l|false=>n::l
mutual
def SV.ren (f:Nat→Nat):SV→SV
 | .v x=>.v x
 | .int k x=>.int k x
 | .bool x=>.bool x
 | .loc b o=>.loc (f b) o
 | .hd k=>.hd (f k)
 | .ha k off=>.ha (f k) off
 | .sl b o l c=>.sl (f b) o l c
 | .fn g a c=>.fn g (SV.rens f a) (SV.rens f c)
 | .tup l=>.tup (SV.rens f l)
 | .agg l=>.agg (SV.rens f l)
def SV.rens (f:Nat→Nat):List SV→List SV
 | []=>[]
 | x::l=>SV.ren f x::SV.rens f l
end
def uM (m:List (Nat×Nat)) (n:Nat):Nat:=match m with
 | []=>n
 | x::l=>match Nat.beq x.1 n with|true=>x.2|false=>uM l n
structure St where
 N:Nat
 T:rQ
 H:SH
 nv:Nat
 dt:List Nat
 fc:Facts
abbrev Kt:=List (Nat×List Nat×Bool)
def Ck {β:Sort _} (T:rQ) (d:Option Tmp) (x:SV) (K:rQ→β):β:=match d with|none=>K T|some d=>MQ T d x K
def Qs {β:Type} (ops:Array Oper) (T:rQ) (o:Oper) (fc:Facts) (K:Bool→Facts→rf β):rf β:=match o.guard with
 | none=>K true fc
 | some (j,want)=>match (ops[j]?).bind (·.dst) with
  | none=>K false fc
  | some d=>match ve T d with
   | some (.bool x)=>Aq fc x fun b fc=>K (match b with|true=>want|false=>zS want) fc
   | some (.v (.tuple _))=>K false fc
   | _=>.stuck "guard"
def Qt:SV→Option (FuncId×List SV×List SV)
 | .v (.func (.func g) a c)=>some (g,a.toList.map Cg,c.toList.map Cg)
 | .fn (.func g) a c=>some (g,a,c)
 | _=>none
def Qu (op:Op) (ρ:Operand→Option SV):Option (Option (FuncId×List SV)):=match op with
 | .call { callee:=.value f,args:=xs,argTypes:=_ }=>match ρ f with
  | some fv=>match Qt fv,EH ρ xs.toList with
   | some (g,a,c),some bs=>some (some (g,a++bs++c))
   | _,_=>some none
  | none=>some none
 | _=>none
structure CR where
 r:SV
 tc:List Nat
 ef:List (Nat×SO)
 nv:Nat
 fc:Facts
abbrev CF:=FuncId→List SV→SH→Nat→Nat→Facts→rf CR
def Qv (op:Op) (ρ:Operand→Option SV):Option (X×Option SV×Option SV):=match op with
 | .pick c a b=>match ρ c with
  | some (.bool q)=>some (q,ρ a,ρ b)
  | _=>none
 | _=>none
structure Vi where
 k:Nat
 kd:IntKind
 n:X
 es:List (Value×Value)
 z:Value
 q:Bool
def Ku (kd:IntKind):List (Value×Value)→Bool
 | []=>true
 | x::l=>match x.1 with
  | .int k' _=>match vZ kd k' with|true=>Ku kd l|false=>false
  | _=>false
def Qw (P:Program) (op:Op) (ρ:Operand→Option SV) (H:SH):Option Vi:=match op with
 | .lookup t x i q=>match ρ x,ρ i with
  | some (.hd k),some (.int kd n)=>match hget H k with
   | some o=>match o.t,yT o.c with
    | none,some es=>match P.underlying t with
     | some (.map kt et)=>match Gd P kt,OO P et with
      | some kd',some z=>match vZ kd' kd,Ku kd es with
       | true,true=>some ⟨k,kd,n,es,z,q⟩
       | _,_=>none
      | _,_=>none
     | _=>none
    | _,_=>none
   | none=>none
  | _,_=>none
 | _=>none
def Kv (q:Bool) (v:Value) (b:Bool):SV:=match q with
 | true=>.tup [Cg v,.bool (.lit (rZ b))]
 | false=>Cg v
def MV {β:Type} (kd:IntKind) (n:X) (q:Bool) (z:Value) (K:SV→Facts→rf β):List (Value×Value)→Facts→rf β
 | [],fc=>K (Kv q z false) fc
 | x::l,fc=>match x.1 with
  | .int _ m=>Aq fc (uy .eql kd n (.lit m)) fun b fc=>match b with
   | true=>K (Kv q x.2 true) fc
   | false=>MV kd n q z K l fc
  | _=>.stuck "key"
structure Vj where
 k:Nat
 c:X
 r:SV
def MW (H:SH) (k:Nat):Option Kl:=match hget H k with
 | some o=>match o.t,yT o.c,zk o.c with
  | none,none,some r=>some r
  | _,_,_=>none
 | none=>none
def Kw (k:VK) (x:X):SV:=match k with | .int k=>.int k x | .bool=>.bool x | .bit=>.int .u64 x | .nat=>.int .u64 x
def MZ:List VK→List X→List SV
 | k::ks,x::xs=>Kw k x::MZ ks xs
 | _,_=>[]
def M3:Nat→List VK→List X
 | _,[]=>[]
 | b,k::ks=>.var k b::M3 (Nat.succ b) ks
def Qx (P:Program) (op:Op) (ρ:Operand→Option SV) (H:SH):Option Vj:=match op with
 | .indexAddr t x i=>match ρ x,ρ i with
  | some (.hd k),some (.int _ (.lit (.ofNat j)))=>match MW H k,Bc P t with
   | some r,some el=>match tK P el with
    | some sz=>match Nat.beq sz r.ks.length with
     | true=>uA (j*sz) fun off=>some ⟨k,uy .lss .i64 (.lit (.ofNat j)) r.n,.ha k off⟩
     | false=>none
    | none=>none
   | _,_=>none
  | _,_=>none
 | .load t x=>match ρ x with
  | some (.ha k off)=>match MW H k with
   | some r=>uA (off/r.ks.length) fun j=>match Nat.beq (j*r.ks.length) off,Da P t with
    | true,some true=>match tK P t with
     | some sz=>match Nat.beq sz r.ks.length,Nat.ble 1 sz with
      | true,true=>uA (r.b+off) fun b=>some ⟨k,uy .lss .i64 (.lit (.ofNat j)) r.n,.agg (MZ r.ks (M3 b r.ks))⟩
      | _,_=>none
     | none=>none
    | true,some false=>match r.ks with
     | [vk]=>uA (r.b+off) fun b=>some ⟨k,uy .lss .i64 (.lit (.ofNat j)) r.n,Kw vk (.var vk b)⟩
     | _=>none
    | _,_=>none
   | none=>none
  | _=>none
 | _=>none
def Bo:List (Nat×SO)→List Nat→List Nat
 | [],l=>l
 | x::ef,l=>Bo ef (addN x.1 l)
def M4 (tc:List Nat):List (Nat×SO)→Bool
 | []=>false
 | x::ef=>match tV x.1 tc with|true=>true|false=>M4 tc ef
def Cm (i:Nat) (tc:List Nat) (ef:List (Nat×SO)) (tr:Kt):Kt:=match tc with | []=>tr|tc=>(i,tc,M4 tc ef)::tr
structure OR where
 T:rQ
 H:SH
 tr:Kt
 nv:Nat
 dt:List Nat
 fc:Facts
def zJ (C:sV) (cf:CF) (ops:Array Oper) (Nb:Nat):Nat→List Oper→rQ→SH→Kt→Nat→List Nat→Facts→rf OR
 | _,[],T,H,tr,nv,dt,fc=>.leaf ⟨T,H,tr,nv,dt,fc⟩
 | i,o::os,T,H,tr,nv,dt,fc=>Qs ops T o fc fun want fc=>match want with
  | false=>Ck T o.dst (.v undef) fun T=>zJ C cf ops Nb (Nat.succ i) os T H tr nv dt fc
  | true=>match Qu o.op (zY T) with
   | some none=>.stuck "call: operands"
   | some (some (g,args))=>uA (Nb+2*i) fun k=>(cf g args H k nv fc).bind fun r =>
     Ck T o.dst r.r fun T=>Bn H r.ef fun H=>zJ C cf ops Nb (Nat.succ i) os T H (Cm i r.tc r.ef tr) r.nv (Bo r.ef dt) r.fc
   | none=>match Qv o.op (zY T) with
    | some (q,x,y)=>Aq fc q fun b fc=>match (match b with|true=>x|false=>y) with
     | some r=>Ck T o.dst r fun T=>zJ C cf ops Nb (Nat.succ i) os T H tr nv dt fc
     | none=>.stuck "pick"
    | none=>match Qw C.P o.op (zY T) H with
     | some L=>MV L.kd L.n L.q L.z (fun r fc=>Ck T o.dst r fun T=>zJ C cf ops Nb (Nat.succ i) os T H (Cm i [L.k] [] tr) nv dt fc) L.es fc
     | none=>match Qx C.P o.op (zY T) H with
      | some L=>Aq fc L.c fun b fc=>match b with
       | true=>Ck T o.dst L.r fun T=>zJ C cf ops Nb (Nat.succ i) os T H (Cm i [L.k] [] tr) nv dt fc
       | false=>.stuck "index: beyond"
      | none=>uA (Nb+2*i) fun k=>(Qp C.P C.G C.SE fc o.op (zY T) H k).bind fun r =>
       Ck T o.dst r.1 fun T=>Bn H r.2.2 fun H=>zJ C cf ops Nb (Nat.succ i) os T H (Cm i r.2.1 r.2.2 tr) nv (Bo r.2.2 dt) fc
def wo (P:Program) (T:rQ) (H:SH):List ResultVar→Option (List SV)
 | []=>some []
 | .tmp t::l=>match ve T t,wo P T H l with
  | some x,some r=>some (x::r)
  | _,_=>none
 | .cell a t::l=>match ve T a with
  | some (.loc b o)=>match hget H b with
   | some ob=>match ob.t with
    | some _=>match Cj P t ob.c o,wo P T H l with
     | some x,some r=>some (x::r)
     | _,_=>none
    | none=>none
   | none=>none
  | _=>none
def vo:List SV→Nat→rQ
 | [],0=>[]
 | [],n+1=>some (.v undef)::vo [] n
 | _::_,0=>[]
 | x::l,n+1=>some x::vo l n
def EK:SH→Bool
 | []=>true
 | x::l=>match x.2.t with|some _=>EK l|none=>false
def Ky (k:Nat) (objs:SH):SH→Option (List Nat)
 | []=>some []
 | x::l=>match Ky k objs l with
  | none=>none
  | some r=>match Nat.ble k x.1 with
   | true=>some (x.1::r)
   | false=>match hget objs x.1 with|some _=>some r|none=>none
def M5 (k:Nat):List Nat→Option (List (Nat×Nat))
 | []=>some []
 | [n1]=>some [(n1,k)]
 | [n1,n2]=>match Nat.beq n1 n2 with|true=>none|false=>some [(n1,k),(n2,k+1)]
 | _=>none
def yU (dt:List Nat):SH→List Nat
 | []=>[]
 | x::l=>match tV x.1 dt with|true=>x.1::yU dt l|false=>yU dt l
def Kz (k:Nat):SH→Bool
 | []=>true
 | x::l=>match Nat.blt x.1 k with|true=>Kz k l|false=>false
def keysOf:SH→List Nat
 | []=>[]
 | x::l=>x.1::keysOf l
def Bp (f:Nat→Nat) (H:SH):List Nat→List (Nat×SO)
 | []=>[]
 | b::l=>match hget H b with|some o=>(b,⟨SV.rens f o.c,o.t⟩)::Bp f H l|none=>Bp f H l
def Aw (f:Nat→Nat) (H:SH):List Nat→List (Nat×SO)
 | []=>[]
 | b::l=>match hget H b with|some o=>(f b,⟨SV.rens f o.c,o.t⟩)::Aw f H l|none=>Aw f H l
def M6 (P:Program) (fn:Func) (objs:SH) (k:Nat) (s:St):rf CR :=
 match wo P s.T s.H fn.results.toList with
 | none=>.stuck "results"
 | some rs=>match reach s.H (SV.refss rs++yU s.dt objs) with
   | none=>.stuck "reach behind a call"
   | some R2=>match Ky k objs R2,EK R2 with
    | none,_=>.stuck "a block of nobody"
    | _,false=>.stuck "a number behind a call"
    | some nw,true=>match nw with
     | []=>.leaf ⟨tT rs,keysOf objs,Bp (fun n=>n) s.H (yU s.dt objs),s.nv,s.fc⟩
     | nw=>match M5 k nw with
      | none=>.stuck "more than two new blocks"
      | some m=>.leaf ⟨(tT rs).ren (uM m),keysOf objs,Bp (uM m) s.H (yU s.dt objs)++Aw (uM m) s.H nw,s.nv,s.fc⟩
mutual
def tO (c:X):SV→SV→Option SV
 | .int k a,.int k' b=>match vZ k k' with|true=>some (.int k (EC c a b))|false=>none
 | .bool a,.bool b=>some (.bool (EC c a b))
 | .agg l,.agg m=>match Dx c l m with|some r=>some (.agg r)|none=>none
 | .tup l,.tup m=>match Dx c l m with|some r=>some (.tup r)|none=>none
 | _,_=>none
def Dx (c:X):List SV→List SV→Option (List SV)
 | [],[]=>some []
 | x::l,y::m=>match tO c x y,Dx c l m with|some r,some rs=>some (r::rs)|_,_=>none
 | _,_=>none
end
def Hf:List Nat→List Nat→Bool
 | [],[]=>true
 | x::l,y::m=>match Nat.beq x y with|true=>Hf l m|false=>false
 | _,_=>false
def Dy (tc:List Nat) (nv:Nat):rf CR→Option (X×Option SV)
 | .leaf r=>match r.ef with
  | []=>match Hf r.tc tc,Nat.beq r.nv nv with|true,true=>some (.lit (.ofNat 1),some r.r)|_,_=>none
  | _::_=>none
 | .ite c a b=>match Dy tc nv a,Dy tc nv b with
  | some (x,none),some (y,r)=>some (EC c x y,r)
  | some (x,r),some (y,none)=>some (EC c x y,r)
  | some (x,some r),some (y,some q)=>match tO c r q with|some z=>some (EC c x y,some z)|none=>none
  | _,_=>none
 | .stuck _=>some (.lit (.ofNat 0),none)
 | .call _ _ _ _ _=>none
def Qy (tc:List Nat) (nv:Nat) (fc:Facts) (t:rf CR):rf CR:=match t with
 | .ite c a b=>match Dy tc nv (.ite c a b) with
  | some (x,some r)=>GM x (.leaf ⟨r,tc,[],nv,fc⟩) (.stuck "in a call")
  | _=>.ite c a b
 | t=>t
def regionEnd (nt:Nat) (ops:Array Oper) (draw:Bool) (s:St) (r:OR):rf (Exit×St) :=
 match draw with
 | true=>match drawOK ops nt,traceOK ops s.N r.tr with
  | true,true=>uA (s.N+2*ops.size) fun N=>.leaf (.normal,⟨N,r.T,r.H,r.nv,r.dt,r.fc⟩)
  | false,_=>.stuck "drawOK"
  | _,_=>.stuck "traceOK"
 | false=>match dstsLt nt ops.toList with
  | true=>uA (s.N+2*ops.size) fun N=>.leaf (.normal,⟨N,r.T,r.H,r.nv,r.dt,r.fc⟩)
  | false=>.stuck "dstsLt"
def KA (P:Program) (ex:Code→St→rf (Exit×St)) (g:FuncId) (args:List SV) (H:SH) (k nv:Nat) (fc:Facts):rf CR:=match P.funcs[g]? with
 | none=>.stuck "no such function"
 | some fn=>match fn.body with
  | none=>.stuck "no body"
  | some cd=>match reach H (SV.refss args) with
   | none=>.stuck "reach"
   | some objs=>match Nat.ble args.length fn.ntmps,Kz k objs,EK objs with
    | true,true,true=>Qy (keysOf objs) nv fc ((ex cd ⟨k,vo args fn.ntmps,objs,nv,[],fc⟩).bind fun r=>match r.1 with
     | .normal=>M6 P fn objs k r.2
     | .ret=>M6 P fn objs k r.2
     | _=>.stuck "a call's end")
    | _,_,_=>.stuck "a call's arguments"
def Hg (H:SH) (k:VK) (x:SV):Option X:=match k with
 | .nat=>match x with
  | .hd h=>match hget H h with
   | some o=>match o.t with
    | none=>match o.c with
     | [.int _ x]=>some x
     | _=>none
    | some _=>none
   | none=>none
  | .v (.slice none 0 0)=>some (.lit (.ofNat 0))
  | _=>none
 | .int k=>Au (.int k) x
 | .bool=>Au .bool x
 | .bit=>Au .bit x
def EL (H:SH):List VK→List SV→Option (List X)
 | [],[]=>some []
 | k::ks,x::xs=>match Hg H k x,EL H ks xs with|some a,some l=>some (a::l)|_,_=>none
 | _,_=>none
def KC (H:SH) (h:Sh) (x:SV):Option (List X):=match h,x with
 | .sc k,x=>match Hg H k x with|some a=>some [a]|none=>none
 | .agg l,.agg xs=>EL H l xs
 | .agg l,.v (.agg cs)=>EL H l (cs.toList.map xD)
 | _,_=>none
def Hl (H:SH):List Sh→List SV→Option (List X)
 | [],[]=>some []
 | h::hs,x::xs=>match KC H h x,Hl H hs xs with|some a,some l=>some (a++l)|_,_=>none
 | _,_=>none
def nN (k:VK):Nat:=match k with | .nat=>1|_=>0
def zl:List VK→Nat
 | []=>0
 | k::ks=>nN k+zl ks
def KD (k:VK) (x:X) (h:Nat):SV:=match k with | .nat=>.hd h|k=>Av k x
def vv:List VK→List X→Nat→List SV
 | k::ks,x::xs,h=>KD k x h::vv ks xs (h+nN k)
 | _,_,_=>[]
def Qz (sh:Sh) (xs:List X) (h:Nat):SV:=match sh with
 | .sc k=>match xs with|x::_=>KD k x h | []=>.v undef
 | .agg l=>.agg (vv l xs h)
def EM:List Sh→List X→Nat→List SV
 | [],_,_=>[]
 | s::ss,xs,h=>Qz s xs h::EM ss (xs.drop s.kinds.length) (h+zl s.kinds)
def yx:List VK→List X→Nat→List (Nat×SO)
 | k::ks,x::xs,h=>match k with
  | .nat=>uA h fun h'=>(h',⟨[.int .u64 x],none⟩)::yx ks xs (h+1)
  | _=>yx ks xs h
 | _,_,_=>[]
def QA (C:sV) (ct:Ct) (g:FuncId) (args:List SV) (H:SH) (k nv:Nat) (fc:Facts):rf CR:=match Hl H ct.a args with
 | none=>.stuck "numbers: arguments"
 | some xs=>.call g xs nv (rq ct.r).length (uA (nv+(rq ct.r).length) fun nv'=>.leaf ⟨tT (EM ct.r (rJ nv (rq ct.r)) k),SV.refss args,yx (rq ct.r) (rJ nv (rq ct.r)) k,nv',fc⟩)
structure Vk where
 i:List SV
 b:Nat
 o:Nat
 n:Nat
 m:Nat
def KE:List SV→Option Vk
 | []=>none
 | x::l=>match l with
  | []=>match x with
   | .sl b o n m=>some ⟨[],b,o,n,m⟩
   | _=>none
  | y::l'=>match KE (y::l') with
   | some r=>some ⟨x::r.i,r.b,r.o,r.n,r.m⟩
   | none=>none
def M7:List wm→Nat→Nat→TypeId→Option wm
 | [],_,_,_=>none
 | s::L,n,m,t=>match Nat.beq s.n n,Nat.beq s.n m,Nat.beq s.t t with
  | true,true,true=>some s
  | _,_,_=>M7 L n m t
def QB (C:sV) (L:List wm) (args:List SV) (H:SH) (nv:Nat) (fc:Facts) (K:Unit→rf CR):rf CR:=match KE args with
 | none=>K ()
 | some r=>match hget H r.b with
  | none=>K ()
  | some o=>match o.t with
   | none=>K ()
   | some t=>match M7 L r.n r.m t with
    | none=>K ()
    | some s=>match Nat.beq r.o 0,wY s.a r.i,EJ s.ks o.c with
     | true,some xs,some ys=>match Kr (xs++ys) with
      | some ns=>match Nat.beq (C.Φ s.id ns).length (rq s.r).length with
       | true=>Kq (rq s.r) (C.Φ s.id ns) fun l=>.leaf ⟨tT (rM s.r l),[r.b],[],nv,fc⟩
       | false=>.stuck "contract"
      | none=>.call s.id (xs++ys) nv (rq s.r).length (uA (nv+(rq s.r).length) fun nv'=>.leaf ⟨tT (rM s.r (rJ nv (rq s.r))),[r.b],[],nv',fc⟩)
     | _,_,_=>K ()
def KF (C:sV) (ex:Code→St→rf (Exit×St)) (g:FuncId) (args:List SV) (H:SH) (k nv:Nat) (fc:Facts):rf CR:=match C.nt g with
 | some ct=>QA C ct g args H k nv fc
 | none=>match C.ct g with
 | none=>match C.sl g with
  | []=>KA C.P ex g args H k nv fc
  | L=>QB C L args H nv fc fun _=>KA C.P ex g args H k nv fc
 | some ct=>match wY ct.a args with
  | none=>KA C.P ex g args H k nv fc
  | some xs=>match Kr xs with
   | some ns=>match Nat.beq (C.Φ g ns).length (rq ct.r).length with
    | true=>Kq (rq ct.r) (C.Φ g ns) fun l=>.leaf ⟨tT (rM ct.r l),[],[],nv,fc⟩
    | false=>.stuck "contract"
   | none=>.call g xs nv (rq ct.r).length (uA (nv+(rq ct.r).length) fun nv'=>.leaf ⟨tT (rM ct.r (rJ nv (rq ct.r))),[],[],nv',fc⟩)
def exec (C:sV):Nat→Code→St→rf (Exit×St)
 | 0,_,_=>.stuck "no fuel"
 | f+1,c,s=>match c with
  | .skip=>.leaf (.normal,s)
  | .label _=>.leaf (.normal,s)
  | .exit id=>.leaf (.exit id,s)
  | .ret=>.leaf (.ret,s)
  | .seq a b=>(exec C f a s).bind fun r=>match r.1 with | .normal=>exec C f b r.2|_=>.leaf r
  | .cond c a b=>match zY s.T c with
   | some (.bool q)=>Aq s.fc q fun bb fc=>match bb with|true=>exec C f a { s with fc:=fc } | false=>exec C f b { s with fc:=fc }
   | _=>.stuck "cond"
  | .block id c=>(exec C f c s).bind fun r=>match r.1 with
   | .exit id'=>match Nat.beq id' id with|true=>.leaf (.normal,r.2)|false=>.leaf r
   | _=>.leaf r
  | .loop c=>(exec C f c s).bind fun r=>match r.1 with | .normal=>exec C f (.loop c) r.2|_=>.leaf r
  | .scope c=>(exec C f c s).bind fun r=>match r.1 with | .goto _=>.stuck "goto" | _=>.leaf r
  | .region _ ops draw=>(zJ C (KF C (exec C f)) ops s.N 0 ops.toList s.T s.H [] s.nv s.dt s.fc).bind fun r=>regionEnd s.T.length ops draw s r
  | _=>.stuck "no such text"
def rX (C:sV) (fuel:Nat) (g:FuncId) (args:List SV) (nv:Nat):rf SV :=
 match C.P.funcs[g]? with
 | none=>.stuck "no such function"
 | some fn=>match fn.body with
  | none=>.stuck "no body"
  | some cd=>match Nat.ble args.length fn.ntmps with
   | true=>(exec C fuel cd ⟨0,vo args fn.ntmps,[],nv,[],[]⟩).bind fun r=>match r.1 with
    | .normal=>match wo C.P r.2.T r.2.H fn.results.toList with|some rs=>.leaf (tT rs)|none=>.stuck "results"
    | .ret=>match wo C.P r.2.T r.2.H fn.results.toList with|some rs=>.leaf (tT rs)|none=>.stuck "results"
    | _=>.stuck "end"
   | false=>.stuck "arguments"
open Go.RowKit
def uk (h:Sh) (ns:List Int):Value:=match h with
 | .sc k=>match ns with|n::_=>tQ k n | []=>undef
 | .agg l=>.agg (sP l ns).toArray
def rV:List Sh→List Int→List Value
 | [],_=>[]
 | h::hs,ns=>uk h ns::rV hs (ns.drop h.kinds.length)
def sW:List Value→Value
 | [x]=>x
 | l=>.tuple l.toArray
def vD:List VK→List Int→List Int
 | k::ks,n::ns=>k.norm n::vD ks ns
 | _,_=>[]
theorem M8 {k:VK} {x:SV} {a:X} (s:rC) (h:Au k x=some a):x.den s = .v (tQ k (a.den s)):=by
 unfold Au at h
 split at h
 ·split at h
  ·rename_i hk hi
   cases h
   have hk:=xC hk;subst hk
   simp only[SV.den,tQ,X.inK_ok s hi]
  ·cases h
 ·cases h;rfl
 ·split at h
  ·rename_i hk hi
   cases h
   have hk:=xC hk;subst hk
   simp only[SV.den,tQ];rw[← X.isBit_ok s hi]
  ·cases h
 ·cases h
theorem KG (s:rC):∀ {ks:List VK} {xs:List SV} {l:List X},EJ ks xs=some l→SV.dens s xs=(sP ks (l.map (X.den s))).map .v∧l.length=ks.length
 | [],[],l,h=>by cases h;exact⟨rfl,rfl⟩
 | k::ks,x::xs,l,h=>by
  simp only[EJ] at h
  split at h
  ·rename_i a l' ha hl
   cases h
   obtain⟨h1,h2⟩:=KG s hl
   exact⟨by rw[SV.dens,h1,M8 s ha];rfl,by simp[h2]⟩
  ·cases h
 | [],_::_,l,h=>by cases h
 | _::_,[],l,h=>by cases h
theorem aec (s:rC) {h:Sh} {x:SV} {l:List X} (hh:Qq h x=some l):x.den s = .v (uk h (l.map (X.den s)))∧l.length=h.kinds.length:=by
 unfold Qq at hh
 split at hh
 ·split at hh
  ·rename_i a ha
   cases hh
   exact⟨M8 s ha,rfl⟩
  ·cases hh
 ·obtain⟨h1,h2⟩:=KG s hh
  exact⟨by simp only[SV.den,h1,MJ];rfl,h2⟩
 ·obtain⟨h1,h2⟩:=KG s hh
  rw[zX] at h1
  refine⟨?_,h2⟩
  simp only[SV.den,uk]
  rename_i l0 cs
  have:cs.toList=sP l0 (l.map (X.den s)):=by
   have:=congrArg tZ h1
   rw[Dr,Dr] at this
   exact Option.some.inj this
  rw[← this]
 ·cases hh
theorem Vl:∀ (ks:List VK) (p q:List Int),p.length=ks.length→sP ks (p++q)=sP ks p
 | [],[],q,_=>by cases q<;>rfl
 | k::ks,n::p,q,h=>by rw[List.cons_append,sP,sP,Vl ks p q (by simpa using h)]
 | [],_::_,_,h=>by simp at h
 | _::_,[],_,h=>by simp at h
theorem QC (h:Sh) (p q:List Int) (hl:p.length=h.kinds.length):uk h (p++q)=uk h p:=by
 cases h with
 | sc k =>
  cases p with
  | nil=>simp[Sh.kinds] at hl
  | cons n p=>rfl
 | agg l=>simp only[uk];rw[Vl l p q hl]
theorem Dz (s:rC):∀ {hs:List Sh} {xs:List SV} {l:List X},wY hs xs=some l→SV.dens s xs=(rV hs (l.map (X.den s))).map .v∧l.length=(rq hs).length
 | [],[],l,h=>by cases h;exact⟨rfl,rfl⟩
 | h::hs,x::xs,l,hh=>by
  simp only[wY] at hh
  split at hh
  ·rename_i a l' ha hl
   cases hh
   obtain⟨h1,h2⟩:=Dz s hl
   obtain⟨h3,h4⟩:=aec s ha
   refine⟨?_,by simp[rq,h4] at h2 ⊢;omega⟩
   rw[SV.dens,h1,h3,rV,List.map_append,QC _ _ _ (by simpa using h4),List.map_cons]
   rw[show(List.map (X.den s) a++List.map (X.den s) l').drop h.kinds.length=List.map (X.den s) l' by rw[List.drop_append_of_le_length (by simp[h4])];rw[List.drop_of_length_le (by simp[h4])];rfl]
  ·cases hh
 | [],_::_,l,h=>by cases h
 | _::_,[],l,h=>by cases h
theorem M9 {k:VK} {x:X} {n:Int} {s:rC} (h:x.den s=k.norm n):(Av k x).den s = .v (tQ k n):=by
 cases k with
 | int k=>simp only[Av,SV.den,h,VK.norm,tQ]
 | bool=>simp only[Av,SV.den,h,VK.norm,tQ,uz]
 | bit=>simp only[Av,SV.den,h,VK.norm,tQ]
 | nat=>simp only[Av,SV.den,h,VK.norm,tQ]
theorem Na {s:rC} : ∀ {ks:List VK} {xs:List X} {ns:List Int},xs.map (X.den s)=vD ks ns→xs.length=ks.length→SV.dens s (Ab ks xs)=(sP ks ns).map .v
 | [],xs,ns,_,_=>by cases xs<;>rfl
 | k::ks,[],ns,_,hl=>by simp at hl
 | k::ks,x::xs,[],h,_=>by simp[vD] at h
 | k::ks,x::xs,n::ns,h,hl=>by
  simp only[List.map_cons,vD,List.cons.injEq] at h
  rw[Ab,SV.dens,Na h.2 (by simpa using hl),M9 h.1];rfl
theorem Vm:∀ (ks js:List VK) (ns:List Int),(vD (ks++js) ns).take ks.length=vD ks ns
 | [],js,ns=>rfl
 | k::ks,js,[]=>rfl
 | k::ks,js,n::ns=>by rw[List.cons_append,vD,List.length_cons,List.take_succ_cons,Vm ks js ns,vD]
theorem Vn:∀ (ks js:List VK) (ns:List Int),(vD (ks++js) ns).drop ks.length=vD js (ns.drop ks.length)
 | [],js,ns=>rfl
 | k::ks,js,[]=>by cases js<;>simp[vD]
 | k::ks,js,n::ns=>by rw[List.cons_append,vD,List.length_cons,List.drop_succ_cons,Vn ks js ns,List.drop_succ_cons]
theorem Vo:∀ (ks:List VK) (xs:List X),Ab ks (xs.take ks.length)=Ab ks xs
 | [],xs=>by cases xs<;>rfl
 | k::ks,[]=>rfl
 | k::ks,x::xs=>by rw[List.length_cons,List.take_succ_cons,Ab,Vo ks xs,Ab]
theorem aed {s:rC} {h:Sh} {js:List VK} {xs:List X} {ns:List Int} (hx:xs.map (X.den s)=vD (h.kinds++js) ns) (hl:xs.length=(h.kinds++js).length):(Qr h xs).den s = .v (uk h ns):=by
 cases h with
 | sc k =>
  cases xs with
  | nil=>simp[Sh.kinds] at hl
  | cons x xs =>
   cases ns with
   | nil=>simp[Sh.kinds,vD] at hx
   | cons n ns =>
    simp only[Sh.kinds,List.cons_append,List.nil_append,vD,List.map_cons,List.cons.injEq] at hx
    exact M9 hx.1
 | agg l =>
  simp only[Qr,SV.den,uk]
  have h1:(xs.take l.length).map (X.den s)=vD l ns:=by
   rw[List.map_take,hx];exact Vm l js ns
  rw[← Vo l xs,Na h1 (by simp[Sh.kinds] at hl ⊢;omega),MJ]
theorem Cn {s:rC} : ∀ {hs:List Sh} {xs:List X} {ns:List Int},xs.map (X.den s)=vD (rq hs) ns→xs.length=(rq hs).length→SV.dens s (rM hs xs)=(rV hs ns).map .v
 | [],xs,ns,_,_=>rfl
 | h::hs,xs,ns,hx,hl=>by
  have hk:rq (h::hs)=h.kinds++rq hs:=by simp[rq]
  rw[hk] at hx hl
  rw[rM,SV.dens,aed hx hl,Cn (hs:=hs) (ns:=ns.drop h.kinds.length) (by rw[List.map_drop,hx,Vn]) (by simp at hl ⊢;omega)]
  rfl
theorem Bq (s:rC):∀ (ks:List VK) (b:Nat),(rJ b ks).map (X.den s)=vD ks (wh s b ks.length)∧(rJ b ks).length=ks.length
 | [],b=>⟨rfl,rfl⟩
 | k::ks,b=>by
  obtain⟨h1,h2⟩:=Bq s ks (b+1)
  refine⟨?_,by simp[rJ,h2]⟩
  rw[rJ,List.map_cons,h1];rfl
theorem Vp (k:VK) (n:Int):Hd k n=k.norm n:=by
 cases k with
 | int k=>exact um k n
 | bool=>simp only[Hd,VK.norm,uQ]
 | bit=>simp only[Hd,VK.norm,uQ]
 | nat=>rfl
def Hm:List VK→List Int→List X
 | k::ks,n::ns=>.lit (Hd k n)::Hm ks ns
 | _,_=>[]
theorem QD {β:Sort _} : ∀ (ks:List VK) (ns:List Int) (K:List X→β),Kq ks ns K=K (Hm ks ns)
 | [],ns,K=>by cases ns<;>rfl
 | k::ks,[],K=>rfl
 | k::ks,n::ns,K=>by rw[Kq,Ey,QD ks ns];rfl
theorem QE (s:rC):∀ (ks:List VK) (ns:List Int),(Hm ks ns).map (X.den s)=vD ks ns
 | [],ns=>by cases ns<;>rfl
 | k::ks,[]=>rfl
 | k::ks,n::ns=>by rw[Hm,List.map_cons,QE s ks ns,vD,X.den,Vp]
theorem QF:∀ (ks:List VK) (ns:List Int),ns.length=ks.length→(Hm ks ns).length=ks.length
 | [],ns,_=>by cases ns<;>rfl
 | k::ks,[],h=>by simp at h
 | k::ks,n::ns,h=>by rw[Hm];simp[QF ks ns (by simpa using h)]
theorem QG (s:rC):∀ {xs:List X} {ns:List Int},Kr xs=some ns→xs.map (X.den s)=ns
 | [],ns,h=>by cases h;rfl
 | .lit n::l,ns,h=>by
  simp only[Kr] at h
  split at h
  ·rename_i r hr;cases h;rw[List.map_cons,QG s hr];rfl
  ·cases h
 | .var _ _::_,_,h=>by cases h
 | .bin _ _ _ _::_,_,h=>by cases h
 | .conv _ _::_,_,h=>by cases h
 | .com _ _::_,_,h=>by cases h
 | .not _::_,_,h=>by cases h
 | .and _ _::_,_,h=>by cases h
 | .beq _ _::_,_,h=>by cases h
 | .min _ _::_,_,h=>by cases h
 | .max _ _::_,_,h=>by cases h
 | .ite _ _ _::_,_,h=>by cases h
 | .dlen _::_,_,h=>by cases h
theorem QH {s:rC} {l:List SV} {vs:List Value} (h:SV.dens s l=vs.map .v):(tT l).den s = .v (sW vs):=by
 match l,vs,h with
 | [],[],_=>simp only[tT,SV.den,SV.dens,sW];exact MK []
 | [x],[v],h=>simpa [SV.dens,tT,sW] using h
 | x::y::l,v::u::vs,h =>
  simp only[tT,SV.den,h,MK,sW]
 | [],v::vs,h=>simp[SV.dens] at h
 | x::l,[],h=>simp[SV.dens] at h
 | [x],v::u::vs,h=>simp[SV.dens] at h
 | x::y::l,[v],h=>simp[SV.dens] at h
theorem Ho (s:rC) (l:List SV):Ao (SV.dens s l)=(tT l).den s:=by
 match l with
 | []=>rfl
 | [x]=>rfl
 | x::y::l=>rfl
mutual
theorem Vq (s:rC) (c:X):∀ {a b r:SV},tO c a b=some r→r.den s=if c.den s=0 then b.den s else a.den s
 | .int k a,.int k' b,r,h=>by
  simp only[tO] at h
  split at h
  ·rename_i hk
   cases h
   have:=xC hk;subst this
   simp only[SV.den,Ki];split<;>rfl
  ·cases h
 | .bool a,.bool b,r,h=>by
  simp only[tO] at h
  cases h
  simp only[SV.den,Ki];split<;>rfl
 | .agg l,.agg m,r,h=>by
  simp only[tO] at h
  split at h
  ·rename_i q hq
   cases h
   have:=QI s c hq
   simp only[SV.den,this];split<;>rfl
  ·cases h
 | .tup l,.tup m,r,h=>by
  simp only[tO] at h
  split at h
  ·rename_i q hq
   cases h
   have:=QI s c hq
   simp only[SV.den,this];split<;>rfl
  ·cases h
 | .v _,_,_,h=>by simp[tO] at h
 | .loc _ _,_,_,h=>by simp[tO] at h
 | .sl _ _ _ _,_,_,h=>by simp[tO] at h
 | .fn _ _ _,_,_,h=>by simp[tO] at h
 | .int _ _,.v _,_,h=>by simp[tO] at h
 | .int _ _,.bool _,_,h=>by simp[tO] at h
 | .int _ _,.loc _ _,_,h=>by simp[tO] at h
 | .int _ _,.sl _ _ _ _,_,h=>by simp[tO] at h
 | .int _ _,.fn _ _ _,_,h=>by simp[tO] at h
 | .int _ _,.tup _,_,h=>by simp[tO] at h
 | .int _ _,.agg _,_,h=>by simp[tO] at h
 | .bool _,.v _,_,h=>by simp[tO] at h
 | .bool _,.int _ _,_,h=>by simp[tO] at h
 | .bool _,.loc _ _,_,h=>by simp[tO] at h
 | .bool _,.sl _ _ _ _,_,h=>by simp[tO] at h
 | .bool _,.fn _ _ _,_,h=>by simp[tO] at h
 | .bool _,.tup _,_,h=>by simp[tO] at h
 | .bool _,.agg _,_,h=>by simp[tO] at h
 | .agg _,.v _,_,h=>by simp[tO] at h
 | .agg _,.int _ _,_,h=>by simp[tO] at h
 | .agg _,.bool _,_,h=>by simp[tO] at h
 | .agg _,.loc _ _,_,h=>by simp[tO] at h
 | .agg _,.sl _ _ _ _,_,h=>by simp[tO] at h
 | .agg _,.fn _ _ _,_,h=>by simp[tO] at h
 | .agg _,.tup _,_,h=>by simp[tO] at h
 | .tup _,.v _,_,h=>by simp[tO] at h
 | .tup _,.int _ _,_,h=>by simp[tO] at h
 | .tup _,.bool _,_,h=>by simp[tO] at h
 | .tup _,.loc _ _,_,h=>by simp[tO] at h
 | .tup _,.sl _ _ _ _,_,h=>by simp[tO] at h
 | .tup _,.fn _ _ _,_,h=>by simp[tO] at h
 | .tup _,.agg _,_,h=>by simp[tO] at h
theorem QI (s:rC) (c:X):∀ {a b r:List SV},Dx c a b=some r→SV.dens s r=if c.den s=0 then SV.dens s b else SV.dens s a
 | [],[],r,h=>by simp only[Dx] at h;cases h;split<;>rfl
 | x::l,y::m,r,h=>by
  simp only[Dx] at h
  split at h
  ·rename_i q qs h1 h2
   cases h
   have e1:=Vq s c h1
   have e2:=QI s c h2
   simp only[SV.dens,e1,e2];split<;>rfl
  ·cases h
 | [],_::_,_,h=>by simp[Dx] at h
 | _::_,[],_,h=>by simp[Dx] at h
end
theorem Vr:∀ {a b:List Nat},Hf a b=true→a=b
 | [],[],_=>rfl
 | x::l,y::m,h=>by
  simp only[Hf] at h
  split at h
  ·rename_i hb;rw[sQ.1 hb,Vr h]
  ·cases h
 | [],_::_,h=>by simp[Hf] at h
 | _::_,[],h=>by simp[Hf] at h
theorem EN {Φ:uL} {s:rC} {tc:List Nat} {nv:Nat} : ∀ {t:rf CR} {x:X} {o:Option SV},Dy tc nv t=some (x,o)→x.den s≠0→∃ r,t.path Φ s=some r∧r.tc=tc∧r.ef = []∧∃ z,o=some z∧z.den s=r.r.den s
 | .leaf r,x,o,h,hx=>by
  simp only[Dy] at h
  split at h
  ·rename_i he
   split at h
   ·rename_i h1 h2
    cases h
    exact⟨r,rfl,Vr h1,he,_,rfl,rfl⟩
   ·cases h
  ·cases h
 | .stuck w,x,o,h,hx=>by simp only[Dy,Option.some.injEq,Prod.mk.injEq] at h;rw[← h.1] at hx;exact absurd rfl hx
 | .call _ _ _ _ _,x,o,h,hx=>by simp[Dy] at h
 | .ite c a b,x,o,h,hx=>by
  simp only[Dy] at h
  split at h
  ·rename_i y1 y2 q h1 h2
   cases h
   rw[Ki] at hx
   by_cases hc:c.den s=0
   ·rw[if_pos hc] at hx
    obtain⟨r,hr,h3⟩:=EN (Φ:=Φ) h2 hx
    exact⟨r,by simp only[rf.path,if_pos hc];exact hr,h3⟩
   ·rw[if_neg hc] at hx
    obtain⟨r,hr,_,_,z,hz,_⟩:=EN (Φ:=Φ) h1 hx
    cases hz
  ·rename_i y1 q y2 hno h1 h2
   cases h
   rw[Ki] at hx
   by_cases hc:c.den s=0
   ·rw[if_pos hc] at hx
    obtain⟨r,hr,_,_,z,hz,_⟩:=EN (Φ:=Φ) h2 hx
    cases hz
   ·rw[if_neg hc] at hx
    obtain⟨r,hr,h3⟩:=EN (Φ:=Φ) h1 hx
    exact⟨r,by simp only[rf.path,if_neg hc];exact hr,h3⟩
  ·rename_i y1 q1 y2 q2 h1 h2
   split at h
   ·rename_i z hz
    cases h
    have hzd:=Vq s c hz
    rw[Ki] at hx
    by_cases hc:c.den s=0
    ·rw[if_pos hc] at hx hzd
     obtain⟨r,hr,h3,h4,u,hu,h5⟩:=EN (Φ:=Φ) h2 hx
     cases hu
     exact⟨r,by simp only[rf.path,if_pos hc];exact hr,h3,h4,_,rfl,hzd.trans h5⟩
    ·rw[if_neg hc] at hx hzd
     obtain⟨r,hr,h3,h4,u,hu,h5⟩:=EN (Φ:=Φ) h1 hx
     cases hu
     exact⟨r,by simp only[rf.path,if_neg hc];exact hr,h3,h4,_,rfl,hzd.trans h5⟩
   ·cases h
  ·cases h
theorem aee {Φ:uL} {s:rC} {tc:List Nat} {nv:Nat} {fc:Facts} {t:rf CR} {r':CR} (hf:sO s fc) (h:(Qy tc nv fc t).path Φ s=some r'):∃ r,t.path Φ s=some r∧r.r.den s=r'.r.den s∧r.tc=r'.tc∧r.ef=r'.ef∧(sO s r.fc→sO s r'.fc):=by
 unfold Qy at h
 split at h
 ·rename_i c a b
  split at h
  ·rename_i x z hm
   rw[PL] at h
   split at h
   ·cases h
   ·rename_i hx
    cases h
    obtain⟨r,h1,h2,h3,u,hu,h4⟩:=EN (Φ:=Φ) hm hx
    cases hu
    exact⟨r,h1,h4.symm,h2,h3,fun _=>hf⟩
  ·exact⟨r',h,rfl,rfl,rfl,id⟩
 ·exact⟨r',h,rfl,rfl,rfl,id⟩
open Go.RowKit
mutual
theorem SV.den_refs (s:rC):∀ (x:SV) {r:Nat},r∈(x.den s).refs→r∈x.refs
 | .v _,r,h=>by simp[SV.den,AV.refs] at h
 | .int _ _,r,h=>by simp[SV.den,AV.refs] at h
 | .bool _,r,h=>by simp[SV.den,AV.refs] at h
 | .loc b o,r,h=>by simpa [SV.den,AV.refs,SV.refs] using h
 | .sl b o l c,r,h=>by simpa [SV.den,AV.refs,SV.refs] using h
 | .hd k,r,h=>by simpa [SV.den,AV.refs,SV.refs] using h
 | .ha k off,r,h=>by simpa [SV.den,AV.refs,SV.refs] using h
 | .fn g a c,r,h=>by
  rw[SV.den] at h
  rw[SV.refs]
  rcases List.mem_append.1 (Ua h) with h|h
  ·exact List.mem_append_left _ (SV.dens_refs s a h)
  ·exact List.mem_append_right _ (SV.dens_refs s c h)
 | .tup l,r,h=>by rw[SV.den] at h;rw[SV.refs];exact SV.dens_refs s l (ab3 h)
 | .agg l,r,h=>by rw[SV.den] at h;rw[SV.refs];exact SV.dens_refs s l (OJ h)
theorem SV.dens_refs (s:rC):∀ (l:List SV) {r:Nat},r∈AV.refss (SV.dens s l)→r∈SV.refss l
 | [],r,h=>by simp[SV.dens,AV.refss] at h
 | x::l,r,h=>by
  rw[SV.dens,AV.refss] at h
  rw[SV.refss]
  rcases List.mem_append.1 h with h|h
  ·exact List.mem_append_left _ (SV.den_refs s x h)
  ·exact List.mem_append_right _ (SV.dens_refs s l h)
end
theorem KH (f:Nat→Nat):∀ l:List AV,tZ (AV.rens f l)=tZ l
 | []=>rfl
 | .v x::l=>by simp only[AV.rens,AV.ren,tZ,KH f l]
 | .loc _ _::l=>rfl
 | .sl _ _ _ _::l=>rfl
 | .hd _::l=>rfl
 | .ha _ _::l=>rfl
 | .fn _ _ _::l=>rfl
 | .tup _::l=>rfl
 | .agg _::l=>rfl
theorem aef (f:Nat→Nat) (l:List AV):(wM l).ren f=wM (AV.rens f l):=by
 unfold wM;rw[KH];cases tZ l<;>rfl
theorem aeg (f:Nat→Nat) (l:List AV):(xA l).ren f=xA (AV.rens f l):=by
 unfold xA;rw[KH];cases tZ l<;>rfl
theorem aeh (f:Nat→Nat) (g:Fn) (a c:List AV):(xB g a c).ren f=xB g (AV.rens f a) (AV.rens f c):=by
 unfold xB;rw[KH,KH];cases tZ a<;>cases tZ c<;>rfl
mutual
theorem SV.den_ren (s:rC) (f:Nat→Nat):∀ x:SV,(x.ren f).den s=(x.den s).ren f
 | .v _=>rfl
 | .int _ _=>rfl
 | .bool _=>rfl
 | .loc b o=>rfl
 | .hd k=>rfl
 | .ha k off=>rfl
 | .sl b o l c=>rfl
 | .fn g a c=>by simp only[SV.ren,SV.den,aeh,SV.dens_ren s f a,SV.dens_ren s f c]
 | .tup l=>by simp only[SV.ren,SV.den,aeg,SV.dens_ren s f l]
 | .agg l=>by simp only[SV.ren,SV.den,aef,SV.dens_ren s f l]
theorem SV.dens_ren (s:rC) (f:Nat→Nat):∀ l:List SV,SV.dens s (SV.rens f l)=AV.rens f (SV.dens s l)
 | []=>rfl
 | x::l=>by simp only[SV.rens,SV.dens,AV.rens,SV.den_ren s f x,SV.dens_ren s f l]
end
mutual
theorem AV.ren_id {f:Nat→Nat} : ∀ x:AV,(∀ r∈x.refs,f r=r)→x.ren f=x
 | .v _,_=>rfl
 | .loc b o,h=>by simp only[AV.ren];rw[h b (by simp[AV.refs])]
 | .sl b o l c,h=>by simp only[AV.ren];rw[h b (by simp[AV.refs])]
 | .hd k,h=>by simp only[AV.ren];rw[h k (by simp[AV.refs])]
 | .ha k o,h=>by simp only[AV.ren];rw[h k (by simp[AV.refs])]
 | .fn g a c,h=>by
  simp only[AV.ren]
  rw[AV.rens_id a (fun r hr=>h r (by rw[AV.refs];exact List.mem_append_left _ hr)),AV.rens_id c (fun r hr=>h r (by rw[AV.refs];exact List.mem_append_right _ hr))]
 | .tup l,h=>by simp only[AV.ren];rw[AV.rens_id l (fun r hr=>h r (by rw[AV.refs];exact hr))]
 | .agg l,h=>by simp only[AV.ren];rw[AV.rens_id l (fun r hr=>h r (by rw[AV.refs];exact hr))]
theorem AV.rens_id {f:Nat→Nat} : ∀ l:List AV,(∀ r∈AV.refss l,f r=r)→AV.rens f l=l
 | [],_=>rfl
 | x::l,h=>by
  rw[AV.rens,AV.ren_id x (fun r hr=>h r (by rw[AV.refss];exact List.mem_append_left _ hr)),AV.rens_id l (fun r hr=>h r (by rw[AV.refss];exact List.mem_append_right _ hr))]
end
theorem KI {n:Nat} : ∀ {l:List Nat},tV n l=true↔n∈l
 | []=>by simp[tV]
 | x::l=>by
  simp only[tV]
  cases h:Nat.beq x n with
  | true=>simp only[sQ.1 h,List.mem_cons,true_or]
  | false =>
   simp only[]
   rw[KI,List.mem_cons]
   constructor
   ·exact .inr
   ·rintro(rfl|h1)
    ·simp at h
    ·exact h1
theorem Co {j:Nat} : ∀ {H:SH},(∃ o,hget H j=some o)↔j∈keysOf H
 | []=>by simp[hget,keysOf]
 | x::l=>by
  simp only[hget,keysOf]
  cases h:Nat.beq x.1 j with
  | true=>simp[sQ.1 h]
  | false =>
   simp only[]
   rw[Co,List.mem_cons]
   constructor
   ·exact .inr
   ·rintro(rfl|h1)
    ·simp at h
    ·exact h1
theorem Vs {k:Nat} : ∀ {H:SH},Kz k H=true→∀ j∈keysOf H,j<k
 | [],_,j,h=>by simp[keysOf] at h
 | x::l,h,j,hj=>by
  simp only[Kz] at h
  split at h
  ·rename_i hb
   simp only[keysOf,List.mem_cons] at hj
   rcases hj with rfl|hj
   ·simpa [Nat.blt_eq] using hb
   ·exact Vs h j hj
  ·cases h
structure Reached (H:SH) (l:List Nat) (R:SH):Prop where
 sub:∀ b o,hget R b=some o→hget H b=some o
 cl:∀ b o,hget R b=some o→∀ r∈SV.refss o.c,r∈keysOf R
 all:∀ b∈l,b∈keysOf R
theorem QJ {H:SH} : ∀ {n:Nat} {todo:List Nat} {acc R:SH},He H n todo acc=some R→(∀ b o,hget acc b=some o→hget H b=some o)→(∀ b o,hget acc b=some o→∀ r∈SV.refss o.c,r∈todo∨r∈keysOf acc) →
  Reached H todo R∧∀ b∈keysOf acc,b∈keysOf R
 | 0,_,_,_,h,_,_=>by cases h
 | n+1,[],acc,R,h,h1,h2=>by
  simp only[He,Option.some.injEq] at h;subst h
  exact⟨⟨h1,fun b o hb r hr=>(h2 b o hb r hr).resolve_left (by simp),fun b hb=>by simp at hb⟩,fun b hb=>hb⟩
 | n+1,b::todo,acc,R,h,h1,h2=>by
  simp only[He] at h
  split at h
  ·rename_i o ho
   have hk:b∈keysOf acc:=Co.1 ⟨o,ho⟩
   obtain⟨h3,h4⟩:=QJ h h1 (fun b' o' hb' r hr=>by
    rcases h2 b' o' hb' r hr with h5|h5
    ·rcases List.mem_cons.1 h5 with rfl|h5
     ·exact .inr hk
     ·exact .inl h5
    ·exact .inr h5)
   refine⟨⟨h3.sub,h3.cl,fun b' hb'=>?_⟩,h4⟩
   rcases List.mem_cons.1 hb' with rfl|hb'
   ·exact h4 _ hk
   ·exact h3.all _ hb'
  ·split at h
   ·cases h
   ·rename_i hno _ o ho
    have hget':∀ b' o',hget ((b,o)::acc) b'=some o'→(b'=b∧o'=o)∨hget acc b'=some o':=fun b' o' hb'=>by
     simp only[hget] at hb'
     split at hb'
     ·rename_i he;cases hb';exact .inl ⟨(sQ.1 he).symm,rfl⟩
     ·exact .inr hb'
    obtain⟨h3,h4⟩:=QJ h (fun b' o' hb'=>by
     rcases hget' b' o' hb' with⟨rfl,rfl⟩|hb'
     ·exact ho
     ·exact h1 b' o' hb') (fun b' o' hb' r hr=>by
     rcases hget' b' o' hb' with⟨rfl,rfl⟩|hb'
     ·exact .inl (List.mem_append_left _ hr)
     ·rcases h2 b' o' hb' r hr with h5|h5
      ·rcases List.mem_cons.1 h5 with rfl|h5
       ·exact .inr (by simp[keysOf])
       ·exact .inl (List.mem_append_right _ h5)
      ·exact .inr (by simp[keysOf,h5]))
    refine⟨⟨h3.sub,h3.cl,fun b' hb'=>?_⟩,fun b' hb'=>h4 _ (by simp[keysOf,hb'])⟩
    rcases List.mem_cons.1 hb' with rfl|hb'
    ·exact h4 _ (by simp[keysOf])
    ·exact h3.all _ (List.mem_append_right _ hb')
theorem Vt {H:SH} {l:List Nat} {R:SH} (h:reach H l=some R):Reached H l R:=by
 unfold reach at h
 split at h
 ·cases h;exact⟨fun b o hb=>(by cases hb),fun b o hb=>(by cases hb),fun b hb=>(by cases hb)⟩
 ·exact(QJ h (fun b o hb=>(by cases hb)) (fun b o hb=>(by cases hb))).1
theorem Vu {k:Nat} {objs:SH} : ∀ {R:SH} {nw:List Nat},Ky k objs R=some nw→(∀ j∈keysOf R,j∈nw∨j∈keysOf objs)∧∀ n∈nw,k≤n∧n∈keysOf R
 | [],nw,h=>by cases h;exact⟨fun j hj=>by simp[keysOf] at hj,fun n hn=>by simp at hn⟩
 | x::l,nw,h=>by
  simp only[Ky] at h
  split at h
  ·cases h
  ·rename_i r hr
   obtain⟨h1,h2⟩:=Vu hr
   split at h
   ·rename_i hk
    cases h
    refine⟨fun j hj=>?_,fun n hn=>?_⟩
    ·simp only[keysOf,List.mem_cons] at hj
     rcases hj with rfl|hj
     ·exact .inl List.mem_cons_self
     ·exact(h1 j hj).imp (List.mem_cons_of_mem _) id
    ·rcases List.mem_cons.1 hn with rfl|hn
     ·exact⟨Nat.le_of_ble_eq_true hk,by simp[keysOf]⟩
     ·exact⟨(h2 n hn).1,by simp[keysOf,(h2 n hn).2]⟩
   ·split at h
    ·rename_i o ho
     cases h
     refine⟨fun j hj=>?_,fun n hn=>⟨(h2 n hn).1,by simp[keysOf,(h2 n hn).2]⟩⟩
     simp only[keysOf,List.mem_cons] at hj
     rcases hj with rfl|hj
     ·exact .inr (Co.1 ⟨o,ho⟩)
     ·exact h1 j hj
    ·cases h
theorem Cq {dt:List Nat} {j:Nat} : ∀ {H:SH},j∈yU dt H↔j∈keysOf H∧tV j dt=true
 | []=>by simp[yU,keysOf]
 | x::l=>by
  simp only[yU,keysOf]
  cases h:tV x.1 dt with
  | true =>
   simp only[List.mem_cons,Cq (H:=l)]
   constructor
   ·rintro(rfl|h1)
    ·exact⟨.inl rfl,h⟩
    ·exact⟨.inr h1.1,h1.2⟩
   ·rintro⟨rfl|h1,h2⟩
    ·exact .inl rfl
    ·exact .inr ⟨h1,h2⟩
  | false =>
   simp only[List.mem_cons,Cq (H:=l)]
   constructor
   ·rintro⟨h1,h2⟩;exact⟨.inr h1,h2⟩
   ·rintro⟨rfl|h1,h2⟩
    ·rw[h] at h2;cases h2
    ·exact⟨h1,h2⟩
def Hq (s:rC) (f:Nat→Nat) (o:SO):AO:=(⟨SV.rens f o.c,o.t⟩:SO).den s
theorem aei (f:Nat→Nat):∀ c:List SV,Ci (SV.rens f c)=Ci c
 | []=>rfl
 | [x]=>by cases x<;>rfl
 | x::y::l=>by cases x<;>cases y<;>rfl
theorem aej (f:Nat→Nat):∀ c:List SV,yT (SV.rens f c)=yT c
 | []=>rfl
 | [x]=>by cases x<;>rfl
 | x::y::l=>rfl
theorem Vv (f:Nat→Nat):∀ l:List SV,(SV.rens f l).map MM=l.map MM
 | []=>rfl
 | x::l=>by
  rw[SV.rens,List.map_cons,List.map_cons,Vv f l]
  cases x<;>rfl
theorem aek (f:Nat→Nat):∀ c:List SV,zk (SV.rens f c)=zk c
 | []=>rfl
 | [x]=>rfl
 | [x,y]=>rfl
 | x::y::z::l=>by
  have e1:MN (SV.ren f x)=MN x:=by cases x<;>rfl
  have e2:MO (SV.ren f y)=MO y:=by cases y<;>rfl
  have e3:MP (SV.ren f z)=MP z:=by cases z<;>rfl
  simp only[SV.rens,zk,Vv,e1,e2,e3]
theorem Vw (s:rC) (f:Nat→Nat) (o:SO):Hq s f o=AO.ren f (o.den s):=by
 obtain⟨c,t⟩:=o
 cases t with
 | some t=>unfold Hq SO.den AO.ren;simp only[SV.dens_ren]
 | none =>
  unfold Hq SO.den
  simp only[aei,aej,aek]
  cases yT c with
  | some es=>rfl
  | none=>cases zk c<;>rfl
theorem EO:∀ {l:SH} {k:Nat} {o:SO},EK l=true→hget l k=some o→∃ t,o.t=some t
 | [],k,o,_,h=>by cases h
 | x::l,k,o,ha,h=>by
  simp only[EK] at ha
  simp only[hget] at h
  split at ha
  ·rename_i t ht
   split at h
   ·cases h;exact⟨t,ht⟩
   ·exact EO ha h
  ·cases ha
theorem Vx:∀ (a b:List (Nat×AO)) (H:ru),H.puts (a++b)=(H.puts a).puts b
 | [],b,H=>rfl
 | x::a,b,H=>by rw[List.cons_append,ru.puts,ru.puts,Vx a b]
theorem QK (s:rC) (f:Nat→Nat) (Hh:SH):∀ (l:List Nat) (H:ru) (j:Nat),(H.puts (sH s (Bp f Hh l))) j=match (match tV j l with|true=>hget Hh j|false=>none) with|some o=>some (Hq s f o)|none=>H j
 | [],H,j=>rfl
 | b::l,H,j=>by
  simp only[Bp]
  cases ho:hget Hh b with
  | some o =>
   simp only[]
   rw[sH,List.map_cons,ru.puts]
   have ih:=QK s f Hh l (H.put b (Hq s f o)) j
   rw[sH] at ih
   refine ih.trans ?_
   simp only[tV]
   cases hb:Nat.beq b j with
   | true =>
    have:=sQ.1 hb;subst this
    simp only[ho]
    cases tV b l with
    | true=>simp only[ho]
    | false=>simp only[ru.put_same]
   | false =>
    simp only[]
    cases hm:tV j l with
    | true =>
     simp only[]
     cases hget Hh j with
     | some _=>rfl
     | none=>simp only[];exact ru.put_ne _ _ _ (fun e=>by subst e;simp at hb)
    | false=>simp only[];exact ru.put_ne _ _ _ (fun e=>by subst e;simp at hb)
  | none =>
   simp only[]
   refine(QK s f Hh l H j).trans ?_
   simp only[tV]
   cases hb:Nat.beq b j with
   | true =>
    have:=sQ.1 hb;subst this
    simp only[ho]
    cases tV b l<;>simp only[ho]
   | false=>rfl
structure Names (k:Nat) (nw:List Nat) (m:List (Nat×Nat)) (f:Nat→Nat) (src:Nat→Option Nat):Prop where
 old:∀ j,j<k→f j=j
 new:∀ n∈nw,src (f n)=some n
 srcOld:∀ j,j<k→src j=none
 srcNew:∀ j n,src j=some n→n∈nw∧f n=j∧(j=k∨j=k+1)
theorem ael {k:Nat} {nw:List Nat} {m:List (Nat×Nat)} (h:M5 k nw=some m) (hk:∀ n∈nw,k≤n):∃ src,Names k nw m (uM m) src∧∀ (s:rC) (Hh:SH),(∀ n∈nw,∃ o,hget Hh n=some o)→∀ (H:ru) (j:Nat),
  (H.puts (sH s (Aw (uM m) Hh nw))) j=match src j with|some n=>(hget Hh n).map (Hq s (uM m))|none=>H j:=by
 unfold M5 at h
 split at h
 ·cases h
  exact⟨fun _=>none,⟨fun _ _=>rfl,fun n hn=>by simp at hn,fun _ _=>rfl,fun _ _ h=>by cases h⟩,fun s Hh _ H j=>rfl⟩
 ·rename_i n1
  cases h
  have h1:=hk n1 (by simp)
  refine⟨fun j=>if j=k then some n1 else none,⟨?_,?_,?_,?_⟩,?_⟩
  ·intro j hj
   simp only[uM]
   cases hb:Nat.beq n1 j with
   | true=>have:=sQ.1 hb;omega
   | false=>rfl
  ·intro n hn
   simp only[List.mem_singleton] at hn;subst hn
   simp[uM]
  ·intro j hj;simp;omega
  ·intro j n hs
   split at hs
   ·rename_i hj;cases hs;subst hj;exact⟨by simp,by simp[uM],.inl rfl⟩
   ·cases hs
  ·intro s Hh hH H j
   obtain⟨o,ho⟩:=hH n1 (by simp)
   simp only[Aw,ho,sH,List.map_cons,List.map_nil,ru.puts]
   have hf:uM [(n1,k)] n1=k:=by simp[uM]
   rw[hf]
   by_cases hj:j=k
   ·subst hj;simp only[if_true,ru.put_same,ho];rfl
   ·simp only[if_neg hj];exact ru.put_ne _ _ _ hj
 ·rename_i n1 n2
  split at h
  ·cases h
  ·rename_i hne
   cases h
   have h1:=hk n1 (by simp);have h2:=hk n2 (by simp)
   have hne':n1≠n2:=fun e=>by subst e;simp at hne
   have f1:uM [(n1,k),(n2,k+1)] n1=k:=by simp[uM]
   have f2:uM [(n1,k),(n2,k+1)] n2=k+1:=by
    simp only[uM,hne];simp
   refine⟨fun j=>if j=k then some n1 else if j=k+1 then some n2 else none,⟨?_,?_,?_,?_⟩,?_⟩
   ·intro j hj
    simp only[uM]
    cases hb:Nat.beq n1 j with
    | true=>have:=sQ.1 hb;omega
    | false =>
     simp only[]
     cases hb2:Nat.beq n2 j with
     | true=>have:=sQ.1 hb2;omega
     | false=>rfl
   ·intro n hn
    simp only[List.mem_cons,List.not_mem_nil,or_false] at hn
    rcases hn with rfl|rfl
    ·rw[f1];simp
    ·rw[f2];simp
   ·intro j hj
    rw[if_neg (by omega),if_neg (by omega)]
   ·intro j n hs
    split at hs
    ·rename_i hj;cases hs;subst hj;exact⟨by simp,f1,.inl rfl⟩
    ·split at hs
     ·rename_i hj;cases hs;subst hj;exact⟨by simp,f2,.inr rfl⟩
     ·cases hs
   ·intro s Hh hH H j
    obtain⟨o1,ho1⟩:=hH n1 (by simp)
    obtain⟨o2,ho2⟩:=hH n2 (by simp)
    simp only[Aw,ho1,ho2,sH,List.map_cons,List.map_nil,ru.puts,f1,f2]
    by_cases hj:j=k
    ·subst hj
     rw[ru.put_ne _ _ _ (by omega),ru.put_same]
     simp only[if_true,ho1];rfl
    ·by_cases hj2:j=k+1
     ·subst hj2
      rw[ru.put_same]
      simp only[if_neg hj,if_true,ho2];rfl
     ·rw[ru.put_ne _ _ _ hj2,ru.put_ne _ _ _ hj]
      simp only[if_neg hj,if_neg hj2]
 ·cases h
theorem QL:∀ (l:List SV) (n t:Nat),ve (vo l n) t=match l[t]? with|some x=>if t<n then some x else none|none=>if t<n then some (.v undef) else none
 | [],0,t=>by simp[vo,ve]
 | [],n+1,0=>by simp[vo,ve]
 | [],n+1,t+1=>by
  simp only[vo,ve]
  rw[QL [] n t];simp
 | x::l,0,t=>by
  simp only[vo,ve]
  cases (x::l)[t]? <;> simp
 | x::l,n+1,0=>by simp[vo,ve]
 | x::l,n+1,t+1=>by
  simp only[vo,ve]
  rw[QL l n t];simp
theorem KJ (s:rC) (l:List SV) (n:Nat):rQ.den s (vo l n)=BZ (SV.dens s l) n:=by
 funext t
 unfold rQ.den BZ
 rw[QL,SV.dens_map,List.getElem?_map]
 cases l[t]? with
 | some x=>simp only[Option.map_some];split<;>rfl
 | none=>simp only[Option.map_none];split<;>rfl
theorem EP:∀ (l:List SV) (n:Nat),l.length≤n→(vo l n).length=n
 | [],0,_=>rfl
 | [],n+1,_=>by rw[vo];simp[EP [] n (by simp)]
 | x::l,0,h=>by simp at h
 | x::l,n+1,h=>by rw[vo];simp[EP l n (by simpa using h)]
theorem EQ {P:Program} {G:rO} (s:rC) {T:rQ} {H:SH} : ∀ {l:List ResultVar} {rs:List SV},wo P T H l=some rs→yP P G (rQ.den s T) (SH.den s H) l=some (SV.dens s rs)
 | [],rs,h=>by cases h;rfl
 | .tmp t::l,rs,h=>by
  simp only[wo] at h
  split at h
  ·rename_i x r hx hr
   cases h
   simp only[yP,EQ s hr]
   have:rQ.den s T t=some (x.den s):=by simp[rQ.den,hx]
   rw[this];rfl
  ·cases h
 | .cell a t::l,rs,h=>by
  simp only[wo] at h
  split at h
  ·rename_i b o hx
   split at h
   ·rename_i ob hob
    split at h
    ·rename_i t0 ht0
     split at h
     ·rename_i x r hx2 hr
      cases h
      have:rQ.den s T a=some (.loc b o):=by simp[rQ.den,hx,SV.den]
      simp only[yP,this,xM,SH.den_get hob ht0,EF s hx2,EQ s hr];rfl
     ·cases h
    ·cases h
   ·cases h
  ·cases h
structure zm (C:sV) (s:rC) (g:FuncId) (args:List SV) (H:SH) (k:Nat) (r:CR):Prop where
 tc:∀ b∈r.tc,SH.den s H b≠none
 ef:∀ x∈sH s r.ef,x.1=k∨x.1=k+1∨x.1∈r.tc
 fc:sO s r.fc
 ok:∀ w0 B0,Et C.P C.G w0 B0 g (SV.dens s args) (SH.den s H) r.tc k (r.r.den s) (sH s r.ef)
def Vy (H0:SH) (dt:List Nat) (H:SH):Prop:=∀ j,tV j dt=false→hget H j=hget H0 j
def wZ (s:rC) (ex:Exit) (st:St):yO:=fun x N T H=>x=ex∧N=st.N∧T=rQ.den s st.T∧H=SH.den s st.H
theorem QM {s:rC} {f:Nat→Nat} {Hh:SH} : ∀ {l:List Nat} {x:Nat×AO},x∈sH s (Bp f Hh l)→x.1∈l
 | [],x,h=>by simp[Bp,sH] at h
 | b::l,x,h=>by
  simp only[Bp] at h
  split at h
  ·rw[sH,List.map_cons] at h
   rcases List.mem_cons.1 h with rfl|h
   ·exact List.mem_cons_self
   ·exact List.mem_cons_of_mem _ (QM h)
  ·exact List.mem_cons_of_mem _ (QM h)
theorem QN {s:rC} {f:Nat→Nat} {Hh:SH} : ∀ {l:List Nat} {x:Nat×AO},x∈sH s (Aw f Hh l)→∃ n∈l,x.1=f n
 | [],x,h=>by simp[Aw,sH] at h
 | b::l,x,h=>by
  simp only[Aw] at h
  split at h
  ·rw[sH,List.map_cons] at h
   rcases List.mem_cons.1 h with rfl|h
   ·exact⟨b,List.mem_cons_self,rfl⟩
   ·obtain⟨n,hn,e⟩:=QN h;exact⟨n,List.mem_cons_of_mem _ hn,e⟩
  ·obtain⟨n,hn,e⟩:=QN h;exact⟨n,List.mem_cons_of_mem _ hn,e⟩
theorem Vz {C:sV} {E:tu} {s:rC} {g:FuncId} {fn:Func} {cd:Code} {args:List SV} {H objs:SH} {k:Nat} {ex:Exit} {st:St} {rs:List SV} {R2:SH} {nw:List Nat} {m:List (Nat×Nat)} {fc:Facts}
  (hf:C.P.funcs[g]? = some fn) (hb:fn.body=some cd) (hn:(fn.name == "runtime.NumGoroutine")=false) (hro:reach H (SV.refss args)=some objs) (hl:Nat.ble args.length fn.ntmps=true) (hk:Kz k objs=true)
  (hA:∀ w0 B0,AW ⟨C.P,C.G,E,w0,B0,fn.ntmps⟩ cd (wZ s ex st) k (rQ.den s (vo args fn.ntmps)) (SH.den s objs)) (hex:ex = .normal∨ex = .ret) (hD:Vy objs st.dt st.H) (hfc:sO s fc)
  (hrs:wo C.P st.T st.H fn.results.toList=some rs) (hR2:reach st.H (SV.refss rs++yU st.dt objs)=some R2) (hw0:EK objs=true) (hw2:EK R2=true) (hnw:Ky k objs R2=some nw) (hm:M5 k nw=some m) (nv:Nat) :
  zm C s g args H k ⟨(tT rs).ren (uM m),keysOf objs,Bp (uM m) st.H (yU st.dt objs)++Aw (uM m) st.H nw,nv,fc⟩:=by
 have ro:=Vt hro
 have r2:=Vt hR2
 obtain⟨n1,n2⟩:=Vu hnw
 obtain⟨src,hN,hput⟩:=ael hm (fun n hn=>(n2 n hn).1)
 have hlt:=Vs hk
 have hH:∀ j∈keysOf objs,∃ o,hget objs j=some o∧hget H j=some o:=fun j hj=>by
  obtain⟨o,ho⟩:=Co.2 hj;exact⟨o,ho,ro.sub j o ho⟩
 have hden:∀ j∈keysOf objs,SH.den s objs j=SH.den s H j:=fun j hj=>by
  obtain⟨o,h1,h2⟩:=hH j hj;unfold SH.den;rw[h1,h2]
 have hnew:∀ n∈nw,∃ o,hget st.H n=some o∧hget R2 n=some o:=fun n hn=>by
  obtain⟨o,ho⟩:=Co.2 (n2 n hn).2;exact⟨o,r2.sub n o ho,ho⟩
 let sr:Nat→Option Nat:=fun j=>if j∈keysOf objs then some j else src j
 have srk:∀ j∈keysOf objs,sr j=some j:=fun j hj=>if_pos hj
 have srn:∀ r,(r∈nw∨r∈keysOf objs)→sr (uM m r)=some r:=by
  rintro r (hr|hr)
  ·have h1:=hN.new r hr
   have:uM m r∉keysOf objs:=fun hm'=>by
    have:=hN.srcOld _ (hlt _ hm');rw[this] at h1;cases h1
   show(if _ then _ else _)=_
   rw[if_neg this,h1]
  ·rw[hN.old r (hlt r hr)];exact srk r hr
 have clean:∀ j∈keysOf objs,tV j st.dt=false→∃ o,hget st.H j=some o∧hget objs j=some o:=fun j hj hd=>by
  obtain⟨o,h1,_⟩:=hH j hj;exact⟨o,by rw[hD j hd];exact h1,h1⟩
 have cont:∀ j o,hget st.H j=some o→(j∈nw∨j∈keysOf objs)→∀ r∈SV.refss o.c,r∈nw∨r∈keysOf objs:=by
  intro j o ho hj r hr
  have wX:∀ b,b∈keysOf R2→hget st.H b=some o→r∈nw∨r∈keysOf objs:=fun b hbk hb=>by
   obtain⟨o',ho'⟩:=Co.2 hbk
   have:=r2.sub b o' ho';rw[hb] at this;cases this
   exact n1 r (r2.cl b o ho' r hr)
  rcases hj with hj|hj
  ·exact wX j (n2 j hj).2 ho
  ·cases hd:tV j st.dt with
   | true=>exact wX j (r2.all j (List.mem_append_right _ (Cq.2 ⟨hj,hd⟩))) ho
   | false =>
    obtain⟨o',h1,h2⟩:=clean j hj hd
    rw[ho] at h1;cases h1
    exact .inr (ro.cl j o h2 r hr)
 have have':∀ j,(j∈nw∨j∈keysOf objs)→∃ o,hget st.H j=some o:=by
  rintro j (hj|hj)
  ·obtain⟨o,h1,_⟩:=hnew j hj;exact⟨o,h1⟩
  ·cases hd:tV j st.dt with
   | true =>
    obtain⟨o,ho⟩:=Co.2 (r2.all j (List.mem_append_right _ (Cq.2 ⟨hj,hd⟩)))
    exact⟨o,r2.sub j o ho⟩
   | false=>obtain⟨o,h1,_⟩:=clean j hj hd;exact⟨o,h1⟩
 have own':∀ j o,(j∈nw∨j∈keysOf objs)→hget st.H j=some o→∃ t,o.t=some t:=by
  intro j o hj ho
  rcases hj with hj|hj
  ·obtain⟨o',h1,h2⟩:=hnew j hj
   rw[ho] at h1;cases h1
   exact EO hw2 h2
  ·cases hd:tV j st.dt with
   | true =>
    obtain⟨o',ho'⟩:=Co.2 (r2.all j (List.mem_append_right _ (Cq.2 ⟨hj,hd⟩)))
    have:=r2.sub j o' ho';rw[ho] at this;cases this
    exact EO hw2 ho'
   | false =>
    obtain⟨o',h1,h2⟩:=clean j hj hd
    rw[ho] at h1;cases h1
    exact EO hw0 h2
 refine⟨?_,?_,hfc,?_⟩
 ·intro b hb
  obtain⟨o,_,h2⟩:=hH b hb
  unfold SH.den;rw[h2];simp
 ·intro x hx
  rw[sH,List.map_append,← sH,← sH] at hx
  rcases List.mem_append.1 hx with hx|hx
  ·exact .inr (.inr (Cq.1 (QM hx)).1)
  ·obtain⟨n,hn,e⟩:=QN hx
   rw[e]
   exact(hN.srcNew _ n (hN.new n hn)).2.2.imp id .inl
 ·intro w0 B0
  rw[SV.den_ren]
  refine aeb E (H1:=SH.den s objs) (Hc:=SH.den s st.H) (keysOf objs) k sr (uM m) hf hb hn (by rw[zG];exact hl) ?_ ?_ ?_ ?_ ?_ srk ?_ ?_ ?_ ?_
  ·intro j o hj
   unfold SH.den at hj
   cases hg:hget objs j with
   | none=>rw[hg] at hj;cases hj
   | some o'=>exact Co.1 ⟨o',hg⟩
  ·intro j hj
   obtain⟨o,h1,h2⟩:=hH j hj
   obtain⟨t0,ht0⟩:=EO hw0 h1
   exact⟨hden j hj,⟨_,_,SH.den_get h2 ht0⟩,hlt j hj⟩
  ·intro j c t hj r hr
   unfold SH.den at hj
   cases hg:hget objs j with
   | none=>rw[hg] at hj;cases hj
   | some o' =>
    rw[hg] at hj
    obtain⟨t0,ht0⟩:=EO hw0 hg
    rw[Option.map_some,SO.den_own s ht0] at hj
    simp only[Option.some.injEq,AO.own.injEq] at hj
    rw[← hj.1] at hr
    exact ro.cl j o' hg r (SV.dens_refs s _ hr)
  ·intro x hx j hj
   rw[SV.dens_map] at hx
   obtain⟨y,hy,rfl⟩:=List.mem_map.1 hx
   refine ro.all j ?_
   have:j∈AV.refss (SV.dens s args):=AV.mem_refss.2 ⟨_,by rw[SV.dens_map];exact List.mem_map_of_mem hy,hj⟩
   exact SV.dens_refs s args this
  ·intro j n hs
   have key:(n∈nw∨n∈keysOf objs)∧uM m n=j:=by
    by_cases hj:j∈keysOf objs
    ·have:sr j=some j:=srk j hj
     rw[this] at hs;cases hs
     exact⟨.inr hj,hN.old j (hlt j hj)⟩
    ·have:sr j=src j:=if_neg hj
     rw[this] at hs
     obtain⟨h1,h2,_⟩:=hN.srcNew j n hs
     exact⟨.inl h1,h2⟩
   obtain⟨o,ho⟩:=have' n key.1
   obtain⟨t0,ht0⟩:=own' n o key.1 ho
   refine⟨key.2,_,_,SH.den_get ho ht0,fun r hr=>srn r (cont n o ho key.1 r (SV.dens_refs s _ hr))⟩
  ·intro j n hs
   by_cases hj:j∈keysOf objs
   ·exact .inl hj
   ·have:sr j=src j:=if_neg hj
    rw[this] at hs
    exact .inr (hN.srcNew j n hs).2.2
  ·intro j hj
   refine srn j (n1 j (r2.all j (List.mem_append_left _ ?_)))
   have h1:=SV.den_refs s _ hj
   cases rs with
   | nil=>simp[tT,SV.refs,SV.refss] at h1
   | cons x l=>cases l with
    | nil=>simpa [tT,SV.refss] using h1
    | cons y l=>exact h1
  ·intro H' hag j
   rw[sH,List.map_append,← sH,← sH,Vx,hput s st.H (fun n hn=>(hnew n hn).imp fun o ho=>ho.1),QK]
   by_cases hj:j∈keysOf objs
   ·have h0:src j=none:=hN.srcOld j (hlt j hj)
    rw[h0,srk j hj]
    simp only
    cases hd:tV j st.dt with
    | true =>
     have:tV j (yU st.dt objs)=true:=KI.2 (Cq.2 ⟨hj,hd⟩)
     rw[this]
     obtain⟨o,ho⟩:=have' j (.inr hj)
     simp only[ho,SH.den,Option.map_some,Vw]
    | false =>
     have:tV j (yU st.dt objs)=false:=by
      cases hmn:tV j (yU st.dt objs) with
      | false=>rfl
      | true=>have:=(Cq.1 (KI.1 hmn)).2;rw[hd] at this;cases this
     rw[this]
     obtain⟨o,h1,h2⟩:=clean j hj hd
     obtain⟨o',h3,h4⟩:=hH j hj
     rw[h2] at h3;cases h3
     simp only[]
     rw[hag j hj]
     obtain⟨t0,ht0⟩:=EO hw0 h2
     simp only[SH.den,h1,h4,Option.map_some,SO.den_own s ht0,AO.ren]
     rw[AV.rens_id _ (fun r hr=>hN.old r (hlt r (ro.cl j o h2 r (SV.dens_refs s _ hr))))]
   ·have h0:sr j=src j:=if_neg hj
    rw[h0]
    cases hs:src j with
    | some n =>
     simp only
     obtain⟨o,ho⟩:=have' n (.inl (hN.srcNew j n hs).1)
     simp only[ho,SH.den,Option.map_some,Vw]
    | none =>
     simp only
     have:tV j (yU st.dt objs)=false:=by
      cases hmn:tV j (yU st.dt objs) with
      | false=>rfl
      | true=>exact absurd (Cq.1 (KI.1 hmn)).1 hj
     rw[this]
  ·intro w1 B
   have:=hA w1 B
   rw[KJ] at this
   refine this.mono ?_
   rintro x N T Hx ⟨rfl,rfl,rfl,rfl⟩
   have hres:=EQ (G:=C.G) s hrs
   rcases hex with rfl|rfl
   ·exact⟨_,hres,Ho s rs,rfl⟩
   ·exact⟨_,hres,Ho s rs,rfl⟩
open Go.RowKit
def QO (w:World) (k:VK) (n:Int) (v:Value):Prop:=match k with
 | .nat=>Reads w v (Ap n.toNat) (Ch n.toNat)
 | k=>v=tQ k n
def uR (w:World):List VK→List Int→List Value→Prop
 | [],[],[]=>True
 | k::ks,n::ns,v::vs=>QO w k n v∧uR w ks ns vs
 | _,_,_=>False
def KL (h:Sh) (vs:List Value):Value:=match h with
 | .sc _=>vs.headD undef
 | .agg l=>.agg (vs.take l.length).toArray
def ER:List Sh→List Value→List Value
 | [],_=>[]
 | h::hs,vs=>KL h vs::ER hs (vs.drop h.kinds.length)
def Nc (P:Program) (G:rO) (g:FuncId) (ct:Ct) (l r:List Int):Prop:=∀ w fvs,Gl G w→uR w (rq ct.a) l fvs→wW P g (ER ct.a fvs).toArray w fun e w' =>
 ∃ fus,e = .returned (sW (ER ct.r fus))∧uR w' (rq ct.r) r fus∧(∀ u∈fus,∀ b,wV u=some b→w.heap.size≤b∨∃ v∈fvs,wV v=some b)∧q9 w w'
theorem uR.len {w:World} : ∀ {ks:List VK} {ns:List Int} {vs:List Value},uR w ks ns vs→ns.length=ks.length∧vs.length=ks.length
 | [],[],[],_=>⟨rfl,rfl⟩
 | k::ks,n::ns,v::vs,h=>by obtain⟨h1,h2⟩:=uR.len h.2;exact⟨by simp[h1],by simp[h2]⟩
 | [],_::_,_,h=>h.elim
 | [],[],_::_,h=>h.elim
 | _::_,[],_,h=>h.elim
 | _::_,_::_,[],h=>h.elim
theorem VA {w:World} {v:Value} {n:Nat} {c:List Value} (h:Reads w v n c):zQ v=v:=by
 rcases h with⟨h1,_⟩|⟨b',o,cap,h1,_⟩<;>rw[h1]<;>rfl
theorem aem {k:VK} {n:Int} (h:nN k=0):wV (tQ k n)=none:=by
 cases k<;>first|rfl|cases h
theorem uR.append {w:World} : ∀ {ks js:List VK} {ns ms:List Int} {vs us:List Value},uR w ks ns vs→uR w js ms us→uR w (ks++js) (ns++ms) (vs++us)
 | [],js,[],ms,[],us,_,h=>h
 | k::ks,js,n::ns,ms,v::vs,us,h,h'=>⟨h.1,uR.append h.2 h'⟩
 | [],_,_::_,_,_,_,h,_=>h.elim
 | [],_,[],_,_::_,_,h,_=>h.elim
 | _::_,_,[],_,_,_,h,_=>h.elim
 | _::_,_,_::_,_,[],_,h,_=>h.elim
structure Cr (w0:World) (B0:sG) (e:Env) (H:ru) (v:Value):Prop where
 ap:∀ b,wV v=some b→∀ j c t,H j=some (.own c t)→b≠e.blk j
 new:∀ b,wV v=some b→w0.heap.size≤b∨∃ j∈B0.dom,wV (B0.env.hnd j)=some b
section
variable {G:rO} {w0:World} {B0:sG} {e:Env} {H':ru} {w:World} {s:rC} {H:SH}
theorem VB {v:Value} (h:wV v=none):Cr w0 B0 e H' v:=⟨fun b hb=>(by rw[h] at hb;cases hb),fun b hb=>(by rw[h] at hb;cases hb)⟩
theorem VC (R:rT G w0 B0 e H' w) {k:VK} {x:SV} {a:X} (h:Hg H k x=some a) (hag:∀ b∈x.refs,H' b=SH.den s H b) :
  ∃ v,(x.den s).val e=v∧QO w k (a.den s) v∧Cr w0 B0 e H' v:=by
 have plain:∀ k,nN k=0→Au k x=some a→∃ v,(x.den s).val e=v∧v=tQ k (a.den s)∧Cr w0 B0 e H' v:=fun k hk h=>by
  refine⟨_,rfl,?_,?_⟩
  ·rw[M8 s h];rfl
  ·rw[M8 s h];exact VB (aem hk)
 cases k with
 | int k=>exact plain _ rfl h
 | bool=>exact plain _ rfl h
 | bit=>exact plain _ rfl h
 | nat =>
  simp only[Hg] at h
  split at h
  ·rename_i j
   split at h
   ·rename_i o ho
    split at h
    ·rename_i ht
     obtain⟨kd,x,hc,rfl⟩:∃ kd x,o.c = [.int kd x]∧a=x:=by
      split at h
      ·rename_i kd x hc;cases h;exact⟨kd,_,hc,rfl⟩
      ·cases h
     have hj:H' j=some (.rd (Ap (X.den s a).toNat) (Ch (X.den s a).toNat)):=by
      have:=SH.den_nat (s:=s) ho ht (by rw[hc];rfl) (by rw[hc];rfl)
      rw[hag j (by simp[SV.refs]),this,hc];rfl
     have hr:=R.rd j _ _ hj
     refine⟨e.hnd j,?_,hr,?_,?_⟩
     ·simp only[SV.den,AV.val];exact VA hr
     ·intro b hb i c t hi he
      exact R.apart j _ _ i c t hj hi (by rw[hb,he])
     ·intro b hb;exact R.new j _ _ hj b hb
    ·cases h
   ·cases h
  ·cases h
   refine⟨.slice none 0 0,rfl,?_,VB rfl⟩
   exact .inl ⟨rfl,rfl,rfl⟩
  ·cases h
theorem QP (R:rT G w0 B0 e H' w):∀ {ks:List VK} {xs:List SV} {l:List X},EL H ks xs=some l→(∀ b∈SV.refss xs,H' b=SH.den s H b) →
  ∃ fvs,AV.vals e (SV.dens s xs)=fvs∧uR w ks (l.map (X.den s)) fvs∧∀ v∈fvs,Cr w0 B0 e H' v
 | [],[],l,h,_=>by cases h;exact⟨[],rfl,trivial,fun v hv=>by cases hv⟩
 | k::ks,x::xs,l,h,hag=>by
  simp only[EL] at h
  split at h
  ·rename_i a l' ha hl
   cases h
   obtain⟨fvs,h1,h2,h3⟩:=QP R hl (fun b hb=>hag b (by rw[SV.refss];exact List.mem_append_right _ hb))
   obtain⟨v,h4,h5,h6⟩:=VC R ha (fun b hb=>hag b (by rw[SV.refss];exact List.mem_append_left _ hb))
   refine⟨v::fvs,by rw[SV.dens,AV.vals,h1,h4],⟨h5,h2⟩,fun u hu=>?_⟩
   rcases List.mem_cons.1 hu with rfl|hu
   ·exact h6
   ·exact h3 u hu
  ·cases h
 | [],_::_,l,h,_=>by cases h
 | _::_,[],l,h,_=>by cases h
theorem aen (R:rT G w0 B0 e H' w) {sh:Sh} {x:SV} {l:List X} (h:KC H sh x=some l) (hag:∀ b∈x.refs,H' b=SH.den s H b) :
  ∃ fvs,(∀ us,(x.den s).val e=KL sh (fvs++us))∧uR w sh.kinds (l.map (X.den s)) fvs∧∀ v∈fvs,Cr w0 B0 e H' v:=by
 unfold KC at h
 split at h
 ·split at h
  ·rename_i a ha
   cases h
   obtain⟨v,h1,h2,h3⟩:=VC R ha hag
   exact⟨[v],fun us=>h1,⟨h2,trivial⟩,fun u hu=>by simp at hu;subst hu;exact h3⟩
  ·cases h
 ·rename_i ks xs
  obtain⟨fvs,h1,h2,h3⟩:=QP R h (fun b hb=>hag b (by rw[SV.refs];exact hb))
  refine⟨fvs,fun us=>?_,h2,h3⟩
  rw[SV.den,JS,h1]
  simp only[KL]
  rw[List.take_append_of_le_length (by rw[(uR.len h2).2];exact Nat.le_refl _),List.take_of_length_le (by rw[(uR.len h2).2];exact Nat.le_refl _)]
 ·rename_i ks cs
  have hrf:∀ l:List Value,SV.refss (l.map xD) = []:=fun l=>by
   induction l with
   | nil=>rfl
   | cons x l ih=>rw[List.map_cons,SV.refss,ih];cases x<;>rfl
  obtain⟨fvs,h1,h2,h3⟩:=QP R h (fun b hb=>by rw[hrf] at hb;cases hb)
  refine⟨fvs,fun us=>?_,h2,h3⟩
  rw[zX,vX] at h1
  simp only[SV.den,AV.val,KL]
  rw[List.take_append_of_le_length (by rw[(uR.len h2).2];exact Nat.le_refl _),List.take_of_length_le (by rw[(uR.len h2).2];exact Nat.le_refl _),← h1]
 ·cases h
theorem VD (R:rT G w0 B0 e H' w):∀ {hs:List Sh} {xs:List SV} {l:List X},Hl H hs xs=some l→(∀ b∈SV.refss xs,H' b=SH.den s H b) →
  ∃ fvs,AV.vals e (SV.dens s xs)=ER hs fvs∧uR w (rq hs) (l.map (X.den s)) fvs∧∀ v∈fvs,Cr w0 B0 e H' v
 | [],[],l,h,_=>by cases h;exact⟨[],rfl,trivial,fun v hv=>by cases hv⟩
 | sh::hs,x::xs,l,h,hag=>by
  simp only[Hl] at h
  split at h
  ·rename_i a l' ha hl
   cases h
   obtain⟨fvs,h1,h2,h3⟩:=VD R hl (fun b hb=>hag b (by rw[SV.refss];exact List.mem_append_right _ hb))
   obtain⟨gvs,h4,h5,h6⟩:=aen R ha (fun b hb=>hag b (by rw[SV.refss];exact List.mem_append_left _ hb))
   refine⟨gvs++fvs,?_,?_,fun u hu=>?_⟩
   ·rw[SV.dens,AV.vals,h1,h4 fvs,ER,List.drop_append_of_le_length (by rw[(uR.len h5).2];exact Nat.le_refl _),List.drop_of_length_le (by rw[(uR.len h5).2];exact Nat.le_refl _)];rfl
   ·have hk:rq (sh::hs)=sh.kinds++rq hs:=by simp[rq]
    rw[hk,List.map_append]
    exact uR.append h5 h2
   ·rcases List.mem_append.1 hu with hu|hu
    ·exact h6 u hu
    ·exact h3 u hu
  ·cases h
 | [],_::_,l,h,_=>by cases h
 | _::_,[],l,h,_=>by cases h
theorem aeo {k:VK} {x:SV} {a:X} (h:Au k x=some a):x.refs = []:=by
 unfold Au at h
 split at h<;>first|rfl|cases h
theorem aep {b:Nat} {o:SO} (h:hget H b=some o):SH.den s H b≠none:=by unfold SH.den;rw[h];simp
theorem VE {k:VK} {x:SV} {a:X} (h:Hg H k x=some a):∀ b∈x.refs,SH.den s H b≠none:=by
 have plain:∀ k,Au k x=some a→∀ b∈x.refs,SH.den s H b≠none:=fun k h b hb=>by rw[aeo h] at hb;cases hb
 cases k with
 | int k=>exact plain _ h
 | bool=>exact plain _ h
 | bit=>exact plain _ h
 | nat =>
  simp only[Hg] at h
  split at h
  ·rename_i j
   split at h
   ·rename_i o ho
    intro b hb
    simp[SV.refs] at hb;subst hb
    exact aep ho
   ·cases h
  ·intro b hb;simp[SV.refs] at hb
  ·cases h
theorem VF:∀ {ks:List VK} {xs:List SV} {l:List X},EL H ks xs=some l→∀ b∈SV.refss xs,SH.den s H b≠none
 | [],[],l,h,b,hb=>by simp[SV.refss] at hb
 | k::ks,x::xs,l,h,b,hb=>by
  simp only[EL] at h
  split at h
  ·rename_i a l' ha hl
   rw[SV.refss] at hb
   rcases List.mem_append.1 hb with hb|hb
   ·exact VE ha b hb
   ·exact VF hl b hb
  ·cases h
 | [],_::_,l,h,_,_=>by cases h
 | _::_,[],l,h,_,_=>by cases h
theorem aeq {sh:Sh} {x:SV} {l:List X} (h:KC H sh x=some l):∀ b∈x.refs,SH.den s H b≠none:=by
 unfold KC at h
 split at h
 ·split at h
  ·rename_i a ha;exact VE ha
  ·cases h
 ·exact fun b hb=>VF h b (by simpa [SV.refs] using hb)
 ·intro b hb;simp[SV.refs] at hb
 ·cases h
theorem VG:∀ {hs:List Sh} {xs:List SV} {l:List X},Hl H hs xs=some l→∀ b∈SV.refss xs,SH.den s H b≠none
 | [],[],l,h,b,hb=>by simp[SV.refss] at hb
 | sh::hs,x::xs,l,h,b,hb=>by
  simp only[Hl] at h
  split at h
  ·rename_i a l' ha hl
   rw[SV.refss] at hb
   rcases List.mem_append.1 hb with hb|hb
   ·exact aeq ha b hb
   ·exact VG hl b hb
  ·cases h
 | [],_::_,l,h,_,_=>by cases h
 | _::_,[],l,h,_,_=>by cases h
theorem VH (k:VK):(k = .nat∧nN k=1)∨(nN k=0∧(∀ x h,KD k x h=Av k x)∧∀ (w:World) n v,QO w k n v↔v=tQ k n):=by
 cases k<;>first|exact .inl ⟨rfl,rfl⟩|exact .inr ⟨rfl,fun _ _=>rfl,fun _ _ _=>Iff.rfl⟩
theorem VI {x:X} {ks:List VK} {xs:List X} {h:Nat} : yx (.nat::ks) (x::xs) h=(h,⟨[.int .u64 x],none⟩)::yx ks xs (h+1):=by simp only[yx,uj]
theorem VJ {k:VK} (hk:nN k=0) {x:X} {ks:List VK} {xs:List X} {h:Nat} : yx (k::ks) (x::xs) h=yx ks xs h:=by
 cases k<;>first|rfl|cases hk
theorem QQ:∀ {ks:List VK} {xs:List X} {h:Nat} {y:Nat×SO},y∈yx ks xs h→h≤y.1∧y.1<h+zl ks
 | [],xs,h,y,hy=>by simp[yx] at hy
 | k::ks,[],h,y,hy=>by simp[yx] at hy
 | k::ks,x::xs,h,y,hy=>by
  rcases VH k with⟨rfl,h1⟩|⟨h1,_⟩
  ·rw[VI] at hy
   rw[zl,h1]
   rcases List.mem_cons.1 hy with rfl|hy
   ·exact⟨Nat.le_refl _,by omega⟩
   ·have:=QQ hy;omega
  ·rw[VJ h1] at hy
   have:=QQ hy
   rw[zl];omega
theorem Env.on.trans' {H1 H2:ru} {e e1 e2:Env} (h1:Env.on H1 e e1) (h2:Env.on H2 e1 e2) (hs:∀ k,H1 k≠none→H2 k≠none):Env.on H1 e e2:=fun k hk =>
 ⟨(h2 k (hs k hk)).1.trans (h1 k hk).1,(h2 k (hs k hk)).2.trans (h1 k hk).2⟩
theorem QR:∀ {ks:List VK} {xs:List X} {ns:List Int} {fus:List Value} {h:Nat} {e:Env} {H':ru},rT G w0 B0 e H' w→xs.map (X.den s)=vD ks ns→uR w ks ns fus→(∀ u∈fus,Cr w0 B0 e H' u) →
  (∀ j,h≤j→j<h+zl ks→H' j=none)→∃ e',rT G w0 B0 e' (H'.puts (sH s (yx ks xs h))) w∧Env.on H' e e'∧AV.vals e' (SV.dens s (vv ks xs h))=fus∧∀ c∈SV.refss (vv ks xs h),(H'.puts (sH s (yx ks xs h))) c≠none
 | [],xs,ns,fus,h,e,H',R,hx,hf,hg,hn=>by
  obtain⟨l1,l2⟩:=uR.len hf
  have:fus = []:=List.eq_nil_of_length_eq_zero l2
  subst this
  have hu:vv [] xs h = []:=by cases xs<;>rfl
  have he:yx [] xs h = []:=by cases xs<;>rfl
  rw[hu,he]
  exact⟨e,R,Env.on.refl _ _,rfl,fun c hc=>by cases hc⟩
 | k::ks,[],ns,fus,h,e,H',R,hx,hf,hg,hn=>by
  obtain⟨l1,l2⟩:=uR.len hf
  cases ns with
  | nil=>simp at l1
  | cons n ns=>simp[vD] at hx
 | k::ks,x::xs,[],fus,h,e,H',R,hx,hf,hg,hn=>by simp[vD] at hx
 | k::ks,x::xs,n::ns,[],h,e,H',R,hx,hf,hg,hn=>hf.elim
 | k::ks,x::xs,n::ns,u::fus,h,e,H',R,hx,hf,hg,hn=>by
  simp only[List.map_cons,vD,List.cons.injEq] at hx
  rcases VH k with⟨rfl,h1⟩|⟨h1,h2,h3⟩
  ·rw[zl,h1] at hn
   have hk:H' h=none:=hn h (Nat.le_refl _) (by omega)
   have gu:=hg u List.mem_cons_self
   have hr:Reads w u (Ap n.toNat) (Ch n.toNat):=hf.1
   have hxn:((x.den s).toNat:Nat)=n.toNat:=by rw[hx.1];rfl
   have R1:=R.handle hk hr (fun j c t hj he=>gu.ap _ he j c t hj rfl) gu.new
   have hon1:=Env.setHnd_on hk e u
   have hsz:∀ {v:Value},Cr w0 B0 e H' v→Cr w0 B0 (e.setHnd h u) (H'.put h (.rd (Ap n.toNat) (Ch n.toNat))) v:=fun {v} g=>⟨fun b hb j c t hj=>by
    rcases ru.put_eq hj with⟨_,he⟩|⟨_,hj⟩
    ·cases he
    ·exact g.ap b hb j c t hj,g.new⟩
   obtain⟨e',R',o',v',c'⟩:=QR (h:=h+1) R1 hx.2 hf.2 (fun v hv=>hsz (hg v (List.mem_cons_of_mem _ hv))) (fun j h4 h5=>by rw[ru.put_ne _ _ _ (by omega)];exact hn j (by omega) (by omega))
   have hd:∀ j,H' j≠none→(H'.put h (.rd (Ap n.toNat) (Ch n.toNat))) j≠none:=fun j hj=>ru.put_dom _ _ _ hj
   have hef:sH s (yx (.nat::ks) (x::xs) h)=(h,.rd (Ap n.toNat) (Ch n.toNat))::sH s (yx ks xs (h+1)):=by
    rw[VI]
    simp only[sH,List.map_cons,SO.den,yT,PX,zk,Ci,hxn]
   rw[hef]
   refine⟨e',R',hon1.trans' o' hd,?_,?_⟩
   ·rw[vv,SV.dens,AV.vals,h1,v']
    congr 1
    show zQ (e'.hnd h)=u
    rw[(o' h (by rw[ru.put_same];simp)).2]
    show zQ (if h=h then u else e.hnd h)=u
    rw[if_pos rfl];exact VA hr
   ·intro c hc
    rw[vv,SV.refss,h1] at hc
    rcases List.mem_append.1 hc with hc|hc
    ·simp[KD,SV.refs] at hc
     subst hc
     rw[ru.puts]
     exact ru.puts_dom (by rw[ru.put_same];simp)
    ·exact c' c hc
  ·rw[zl,h1,Nat.zero_add] at hn
   obtain⟨e',R',o',v',c'⟩:=QR (h:=h) R hx.2 hf.2 (fun v hv=>hg v (List.mem_cons_of_mem _ hv)) hn
   rw[VJ h1]
   refine⟨e',R',o',?_,?_⟩
   ·rw[vv,SV.dens,AV.vals,h1,Nat.add_zero,v',h2,M9 hx.1]
    congr 1
    exact((h3 w n u).1 hf.1).symm
   ·intro c hc
    rw[vv,SV.refss,h1,Nat.add_zero,h2] at hc
    rcases List.mem_append.1 hc with hc|hc
    ·cases k<;>simp[Av,SV.refs] at hc
    ·exact c' c hc
theorem QS:∀ (ks js:List VK) (xs:List X) (h:Nat),ks.length≤xs.length→vv (ks++js) xs h=vv ks xs h++vv js (xs.drop ks.length) (h+zl ks)
 | [],js,xs,h,_=>by cases xs<;>rfl
 | k::ks,js,[],h,hl=>by simp at hl
 | k::ks,js,x::xs,h,hl=>by
  rw[List.cons_append,vv,vv,QS ks js xs _ (by simpa using hl),zl,Nat.add_assoc];rfl
theorem VL:∀ (ks:List VK) (xs:List X) (h:Nat),xs.length=ks.length→(vv ks xs h).length=ks.length
 | [],xs,h,_=>by cases xs<;>rfl
 | k::ks,[],h,hl=>by simp at hl
 | k::ks,x::xs,h,hl=>by rw[vv,List.length_cons,VL ks xs _ (by simpa using hl),List.length_cons]
theorem VM:∀ (ks:List VK) (xs:List X) (h:Nat),vv ks (xs.take ks.length) h=vv ks xs h
 | [],xs,h=>by cases xs<;>rfl
 | k::ks,[],h=>rfl
 | k::ks,x::xs,h=>by rw[List.length_cons,List.take_succ_cons,vv,VM ks xs,vv]
theorem VN (e:Env):∀ (hs:List Sh) (xs:List X) (h:Nat),xs.length=(rq hs).length→AV.vals e (SV.dens s (EM hs xs h))=ER hs (AV.vals e (SV.dens s (vv (rq hs) xs h)))
 | [],xs,h,_=>rfl
 | sh::hs,xs,h,hl=>by
  have hk:rq (sh::hs)=sh.kinds++rq hs:=by simp[rq]
  rw[hk,List.length_append] at hl
  have hle:sh.kinds.length≤xs.length:=by omega
  have h1:(vv sh.kinds xs h).length=sh.kinds.length:=by
   rw[← VM];exact VL _ _ _ (by rw[List.length_take];omega)
  have h2:(AV.vals e (SV.dens s (vv sh.kinds xs h))).length=sh.kinds.length:=by rw[zA,zG,h1]
  rw[EM,SV.dens,AV.vals,VN e hs _ _ (by rw[List.length_drop];omega),hk,QS _ _ _ _ hle,Dv,JX,ER]
  congr 1
  ·cases sh with
   | sc k =>
    match xs,hle with
    | x::xs,_=>rfl
   | agg l =>
    simp only[Qz,SV.den,JS,KL]
    rw[List.take_append_of_le_length (by rw[h2];exact Nat.le_refl _),List.take_of_length_le (by rw[h2];exact Nat.le_refl _)];rfl
  ·have d:∀ (a b:List Value) (n:Nat),a.length=n→(a++b).drop n=b:=fun a b n hn=>by subst hn;simp
   rw[d _ _ _ h2]
theorem VO {c:Nat} : ∀ {hs:List Sh} {xs:List X} {h:Nat},xs.length=(rq hs).length→c∈SV.refss (EM hs xs h)→c∈SV.refss (vv (rq hs) xs h)
 | [],xs,h,_,hc=>by simp[EM,SV.refss] at hc
 | sh::hs,xs,h,hl,hc=>by
  have hk:rq (sh::hs)=sh.kinds++rq hs:=by simp[rq]
  rw[hk,List.length_append] at hl
  have hle:sh.kinds.length≤xs.length:=by omega
  have happ:∀ (a b:List SV),SV.refss (a++b)=SV.refss a++SV.refss b:=fun a b=>by
   induction a with
   | nil=>rfl
   | cons x a ih=>rw[List.cons_append,SV.refss,ih,SV.refss,List.append_assoc]
  rw[hk,QS _ _ _ _ hle,happ]
  rw[EM,SV.refss] at hc
  rcases List.mem_append.1 hc with hc|hc
  ·refine List.mem_append_left _ ?_
   cases sh with
   | sc k =>
    match xs,hle with
    | x::xs,_ =>
     have e:vv (Sh.sc k).kinds (x::xs) h = [KD k x h]:=by cases xs<;>rfl
     rw[e];simpa [SV.refss,Qz] using hc
   | agg l=>exact hc
  ·exact List.mem_append_right _ (VO (by rw[List.length_drop];omega) hc)
theorem aer (e:Env) (l:List SV):((tT l).den s).val e=sW (AV.vals e (SV.dens s l)):=by
 match l with
 | []=>simp only[tT,SV.den,SV.dens,OI];rfl
 | [x]=>rfl
 | x::y::l=>simp only[tT,SV.den,OI,SV.dens,AV.vals,sW]
theorem aes {l:List SV} {c:Nat} (h:c∈(tT l).refs):c∈SV.refss l:=by
 match l,h with
 | [],h=>exact h
 | [x],h=>simpa [tT,SV.refss] using h
 | x::y::l,h=>exact h
end
def Nf (P:Program) (G:rO) (g:FuncId) (c:wm) (l r:List Int):Prop:=∀ w b,Gl G w→(∀ x∈G,x.1≠b)→w.heap[b]? = some (.cells (sP c.ks (l.drop (rq c.a).length)).toArray c.t (0,0)) →
 wW P g (rV c.a l ++ [Value.slice (some ⟨b,0,none⟩) c.n c.n]).toArray w fun e w'=>e = .returned (sW (rV c.r r))∧q9 w w'
theorem VP {s:rC} : ∀ {l:List SV} {r:Vk},KE l=some r→l=r.i ++ [.sl r.b r.o r.n r.m]
 | [],r,h=>by cases h
 | [x],r,h=>by
  simp only[KE] at h
  split at h
  ·cases h;rfl
  ·cases h
 | x::y::l,r,h=>by
  simp only[KE] at h
  split at h
  ·rename_i r' hr
   cases h
   have:=VP (s:=s) hr
   rw[this];rfl
  ·cases h
theorem VQ:∀ {L:List wm} {n m:Nat} {t:TypeId} {c:wm},M7 L n m t=some c→c∈L∧c.n=n∧c.n=m∧c.t=t
 | [],n,m,t,c,h=>by cases h
 | x::L,n,m,t,c,h=>by
  simp only[M7] at h
  split at h
  ·rename_i h1 h2 h3
   cases h
   exact⟨List.mem_cons_self,sQ.1 h1,sQ.1 h2,sQ.1 h3⟩
  ·obtain⟨h1,h2⟩:=VQ h
   exact⟨List.mem_cons_of_mem _ h1,h2⟩
theorem QT:∀ (hs:List Sh) (p q:List Int),p.length=(rq hs).length→rV hs (p++q)=rV hs p
 | [],p,q,_=>rfl
 | h::hs,p,q,hl=>by
  have hk:rq (h::hs)=h.kinds++rq hs:=by simp[rq]
  rw[hk,List.length_append] at hl
  have h1:(p++q).take h.kinds.length=p.take h.kinds.length:=by rw[List.take_append_of_le_length (by omega)]
  have e1:uk h (p++q)=uk h p:=by
   have a1:=QC h (p.take h.kinds.length) (p.drop h.kinds.length++q) (by rw[List.length_take];omega)
   have a2:=QC h (p.take h.kinds.length) (p.drop h.kinds.length) (by rw[List.length_take];omega)
   rw[← List.append_assoc,List.take_append_drop] at a1
   rw[List.take_append_drop] at a2
   rw[a1,a2]
  rw[rV,rV,e1,List.drop_append_of_le_length (by omega),QT hs _ q (by rw[List.length_drop];omega)]
theorem aet {C:sV} {s:rC} {g:FuncId} {L:List wm}
  (hct:∀ c∈L,∀ l:List Int,l.length=(rq c.a++c.ks).length→(C.Φ c.id l).length=(rq c.r).length→Nf C.P C.G g c l (C.Φ c.id l))
  {args:List SV} {H:SH} {k nv:Nat} {fc:Facts} {K:Unit→rf CR} {r:CR} (h:(QB C L args H nv fc K).path C.Φ s=some r) (hfc:sO s fc) (hK:(K ()).path C.Φ s=some r→zm C s g args H k r):zm C s g args H k r:=by
 unfold QB at h
 split at h
 ·exact hK h
 rename_i q hq
 split at h
 ·exact hK h
 rename_i o ho
 split at h
 ·exact hK h
 rename_i t ht
 split at h
 ·exact hK h
 rename_i c hc
 split at h
 ·rename_i xs ys h0 hxs hys
  obtain⟨m1,m2,m3,m4⟩:=VQ hc
  have h0:=sQ.1 h0
  obtain⟨a1,a2⟩:=Dz s hxs
  obtain⟨b1,b2⟩:=KG s hys
  have hargs:=VP (s:=s) hq
  have hlen:((xs++ys).map (X.den s)).length=(rq c.a++c.ks).length:=by simp[a2,b2]
  have hS:=hct c m1 _ hlen
  have fin:(C.Φ c.id ((xs++ys).map (X.den s))).length=(rq c.r).length→∀ l:List SV,SV.dens s l=(rV c.r (C.Φ c.id ((xs++ys).map (X.den s)))).map .v→zm C s g args H k ⟨tT l,[q.b],[],r.nv,fc⟩:=fun hln l hd=>by
   refine⟨fun b hb=>?_,fun x hx=>by simp[sH] at hx,hfc,fun w0 B0=>?_⟩
   ·simp at hb;subst hb;unfold SH.den;rw[ho];simp
   ·intro H' e w hag hk0 hk1 hrefs R
    have hb:H' q.b=some (.own (SV.dens s o.c) t):=by rw[hag q.b (by simp)];exact SH.den_get ho ht
    have hown:=R.own q.b _ t hb
    rw[b1,vX] at hown
    have hd1:(sP c.ks (((xs++ys).map (X.den s)).drop (rq c.a).length))=sP c.ks (ys.map (X.den s)):=by
     rw[List.map_append,List.drop_append_of_le_length (by simp[a2]),List.drop_of_length_le (by simp[a2])];rfl
    have hcall:=hS hln w (e.blk q.b) R.gl (fun x hx=>R.glo q.b _ t hb x hx) (by rw[hd1,m4];exact hown)
    have hv:AV.vals e (SV.dens s args)=rV c.a ((xs++ys).map (X.den s)) ++ [Value.slice (some ⟨e.blk q.b,0,none⟩) c.n c.n]:=by
     rw[hargs,Dv,JX,a1,vX,List.map_append,QT _ _ _ (by simp[a2])]
     simp only[SV.dens,SV.den,AV.vals,AV.val,h0]
     rw[← m2,← m3]
    rw[hv]
    refine hcall.mono ?_
    rintro en w' ⟨rfl,hB⟩
    refine⟨e,?_,R.below hB,Env.on.refl H' e,fun j hj=>?_⟩
    ·rw[QH hd];rfl
    ·rw[QH hd] at hj;simp[AV.refs] at hj
  split at h
  ·rename_i ns hns
   split at h
   ·rename_i hq
    have hq:=sQ.1 hq
    rw[QD] at h
    cases h
    have e:=QG s hns
    refine fin (by rw[e];exact hq) _ ?_
    rw[e]
    exact Cn (QE s _ _) (QF _ _ hq)
   ·cases h
  ·simp only[rf.path] at h
   split at h
   ·rename_i hce
    rw[uj] at h
    cases h
    unfold ED at hce
    refine fin (by rw[← hce];exact Ce _ _ _) _ ?_
    obtain⟨h1,h2⟩:=Bq s (rq c.r) nv
    rw[hce] at h1
    exact Cn h1 h2
   ·cases h
 ·exact hK h
theorem aeu {C:sV} {s:rC} {ct:Ct} {g:FuncId} (h2:zl (rq ct.r)≤2)
  (hct:∀ l:List Int,l.length=(rq ct.a).length→(C.Φ g l).length=(rq ct.r).length→Nc C.P C.G g ct l (C.Φ g l))
  {args:List SV} {H:SH} {k nv:Nat} {fc:Facts} {r:CR} (h:(QA C ct g args H k nv fc).path C.Φ s=some r) (hfc:sO s fc):zm C s g args H k r:=by
 unfold QA at h
 split at h
 ·cases h
 ·rename_i xs hxs
  simp only[rf.path] at h
  split at h
  ·rename_i hce
   rw[uj] at h
   cases h
   obtain⟨v1,v2⟩:=Bq s (rq ct.r) nv
   unfold ED at hce
   have hln:(C.Φ g (xs.map (X.den s))).length=(rq ct.r).length:=by rw[← hce];exact Ce _ _ _
   rw[hce] at v1
   refine⟨VG hxs,fun x hx=>?_,hfc,fun w0 B0=>?_⟩
   ·rw[sH] at hx
    obtain⟨y,hy,rfl⟩:=List.mem_map.1 hx
    have:=QQ hy
    show y.1=k∨y.1=k+1∨_
    omega
   ·intro H' e w hag hk0 hk1 hrefs R
    obtain⟨fvs,a1,a2,a3⟩:=VD (s:=s) R hxs hag
    have hl:(xs.map (X.den s)).length=(rq ct.a).length:=(uR.len a2).1
    have hcc:=hct _ hl hln w fvs R.gl a2
    rw[a1]
    refine hcc.mono ?_
    rintro en w' ⟨fus,rfl,b2,b3,hB⟩
    have R':=R.below hB
    have hlen:=(uR.len b2).1
    obtain⟨e',c1,c2,c3,c4⟩:=QR (s:=s) (h:=k) R' v1 b2 (fun u hu=>⟨fun b hb j c t hj he=>by
     rcases b3 u hu b hb with hlt|⟨v,hv,hvb⟩
     ·have:=R.lt hj;omega
     ·exact(a3 v hv).ap b hvb j c t hj he,fun b hb=>by
     rcases b3 u hu b hb with hlt|⟨v,hv,hvb⟩
     ·exact .inl (Nat.le_trans R.size hlt)
     ·exact(a3 v hv).new b hvb⟩) (fun j h3 h4=>by
     have:j=k∨j=k+1:=by omega
     rcases this with rfl|rfl
     ·exact hk0
     ·exact hk1)
    refine⟨e',?_,c1,c2,fun c hc=>c4 c (VO (by rw[v2]) (aes (SV.den_refs s _ hc)))⟩
    rw[aer,VN _ _ _ _ (by rw[v2]),c3]
  ·cases h
open Go.RowKit
structure wR (C:sV) (E:tu):Prop where
 se:MU C.P C.SE E
 eq:BQ C.P E
 mix:C.P.follows .mixedOrders=true
 nm:∀ (g:FuncId) (fn:Func),C.P.funcs[g]? = some fn→fn.body.isSome=true→(fn.name == "runtime.NumGoroutine")=false
 ct:∀ (g:FuncId) (ct:Ct),C.ct g=some ct→∀ l:List Int,l.length=(rq ct.a).length→(C.Φ g l).length=(rq ct.r).length→PC C.P C.G g (rV ct.a l) (sW (rV ct.r (C.Φ g l)))
 nt:∀ (g:FuncId) (ct:Ct),C.nt g=some ct→zl (rq ct.r)≤2∧∀ l:List Int,l.length=(rq ct.a).length→(C.Φ g l).length=(rq ct.r).length→Nc C.P C.G g ct l (C.Φ g l)
 sl:∀ (g:FuncId) (c:wm),c∈C.sl g→∀ l:List Int,l.length=(rq c.a++c.ks).length→(C.Φ c.id l).length=(rq c.r).length→Nf C.P C.G g c l (C.Φ c.id l)
structure Ay (C:sV) (E:tu) (s:rC) (c:Code) (st:St) (ex:Exit) (st':St):Prop where
 aw:∀ w0 B0,AW ⟨C.P,C.G,E,w0,B0,st.T.length⟩ c (wZ s ex st') st.N (rQ.den s st.T) (SH.den s st.H)
 len:st'.T.length=st.T.length
 dt:∀ j,tV j st'.dt=false→tV j st.dt=false∧hget st'.H j=hget st.H j
 fc:sO s st'.fc
abbrev KM (C:sV) (E:tu) (s:rC) (exf:Code→St→rf (Exit×St)):Prop:=∀ c st ex st',(exf c st).path C.Φ s=some (ex,st')→sO s st.fc→Ay C E s c st ex st'
section
variable {C:sV} {E:tu} {s:rC}
theorem KN {α:Type} {x:Exit} {A B:rf α} {w:String} {r:α} (h:(match x with | .normal=>A | .ret=>B|_=>.stuck w:rf α).path C.Φ s=some r):(x = .normal∧A.path C.Φ s=some r)∨(x = .ret∧B.path C.Φ s=some r):=by
 cases x<;>first|exact .inl ⟨rfl,h⟩|exact .inr ⟨rfl,h⟩|cases h
theorem aev:(fun n:Nat=>n)=uM []:=by funext n;rfl
mutual
theorem SV.ren_nil:∀ x:SV,x.ren (uM [])=x
 | .v _=>rfl
 | .int _ _=>rfl
 | .bool _=>rfl
 | .loc _ _=>rfl
 | .hd _=>rfl
 | .ha _ _=>rfl
 | .sl _ _ _ _=>rfl
 | .fn g a c=>by simp only[SV.ren,SV.rens_nil a,SV.rens_nil c]
 | .tup l=>by simp only[SV.ren,SV.rens_nil l]
 | .agg l=>by simp only[SV.ren,SV.rens_nil l]
theorem SV.rens_nil:∀ l:List SV,SV.rens (uM []) l=l
 | []=>rfl
 | x::l=>by simp only[SV.rens,SV.ren_nil x,SV.rens_nil l]
end
theorem QU (hC:wR C E) {exf:Code→St→rf (Exit×St)} (hex:KM C E s exf) {g:FuncId} {args:List SV} {H:SH} {k nv:Nat} {fc:Facts} {r:CR} (h:(KA C.P exf g args H k nv fc).path C.Φ s=some r) (hfc:sO s fc):zm C s g args H k r:=by
 unfold KA at h
 split at h
 ·cases h
 ·rename_i fn hf
  split at h
  ·cases h
  ·rename_i cd hb
   split at h
   ·cases h
   ·rename_i objs hro
    split at h
    ·rename_i hl hk hw0
     obtain⟨r0,h0,e1,e2,e3,e4⟩:=aee hfc h
     obtain⟨⟨ex,st⟩,h1,h2⟩:=rf.path_bind_some h0
     have sp:=hex _ _ _ _ h1 hfc
     have hlen:(vo args fn.ntmps).length=fn.ntmps:=EP _ _ (Nat.le_of_ble_eq_true hl)
     have hA:∀ w0 B0,AW ⟨C.P,C.G,E,w0,B0,fn.ntmps⟩ cd (wZ s ex st) k (rQ.den s (vo args fn.ntmps)) (SH.den s objs):=fun w0 B0=>by
      have:=sp.aw w0 B0;simp only[hlen] at this;exact this
     have hD:Vy objs st.dt st.H:=fun j hj=>(sp.dt j hj).2
     have hn:=hC.nm g fn hf (by rw[hb];rfl)
     have key:ex = .normal∨ex = .ret→(M6 C.P fn objs k st).path C.Φ s=some r0→zm C s g args H k r0:=by
      intro hx h3
      unfold M6 at h3
      split at h3
      ·cases h3
      ·rename_i rs hrs
       split at h3
       ·cases h3
       ·rename_i R2 hR2
        split at h3
        ·cases h3
        ·cases h3
        ·rename_i nw hnw hw2
         split at h3
         ·cases h3
          have:=Vz hf hb hn hro hl hk hA hx hD sp.fc hrs hR2 hw0 hw2 hnw (m:=[]) rfl st.nv
          rw[SV.ren_nil] at this
          simpa [Aw,aev] using this
         ·split at h3
          ·cases h3
          ·rename_i m hm
           cases h3
           exact Vz hf hb hn hro hl hk hA hx hD sp.fc hrs hR2 hw0 hw2 hnw hm st.nv
     have main:zm C s g args H k r0:=by
      rcases KN h2 with⟨hx,h3⟩|⟨hx,h3⟩
      ·exact key (.inl hx) h3
      ·exact key (.inr hx) h3
     refine⟨by rw[← e2];exact main.tc,by rw[← e2,← e3];exact main.ef,e4 main.fc,?_⟩
     rw[← e1,← e2,← e3];exact main.ok
    ·cases h
theorem QV (hC:wR C E) {exf:Code→St→rf (Exit×St)} (hex:KM C E s exf) {g:FuncId} {args:List SV} {H:SH} {k nv:Nat} {fc:Facts} {r:CR} (h:(KF C exf g args H k nv fc).path C.Φ s=some r) (hfc:sO s fc):zm C s g args H k r:=by
 unfold KF at h
 split at h
 ·rename_i ct hnt
  exact aeu (hC.nt g ct hnt).1 (hC.nt g ct hnt).2 h hfc
 split at h
 ·split at h
  ·exact QU hC hex h hfc
  ·exact aet (fun c hc=>hC.sl g c hc) h hfc (fun h=>QU hC hex h hfc)
 ·rename_i ct hct
  split at h
  ·exact QU hC hex h hfc
  ·rename_i xs hxs
   obtain⟨hv,hl⟩:=Dz s hxs
   have hcc:=hC.ct g ct hct (xs.map (X.den s)) (by simpa using hl)
   have fin:(C.Φ g (xs.map (X.den s))).length=(rq ct.r).length→∀ l:List SV,SV.dens s l=(rV ct.r (C.Φ g (xs.map (X.den s)))).map .v→zm C s g args H k ⟨tT l,[],[],r.nv,fc⟩:=fun hln l hd=>by
    refine⟨fun b hb=>by simp at hb,fun x hx=>by simp[sH] at hx,hfc,fun w0 B0=>?_⟩
    simp only[QH hd]
    exact(hcc hln).call w0 B0 (by rw[hv];exact Dr _) _ _
   split at h
   ·rename_i ns hns
    split at h
    ·rename_i hq
     have hq:=sQ.1 hq
     rw[QD] at h
     cases h
     have e:=QG s hns
     refine fin (by rw[e];exact hq) _ ?_
     rw[e]
     exact Cn (QE s _ _) (QF _ _ hq)
    ·cases h
   ·simp only[rf.path] at h
    split at h
    ·rename_i hce
     rw[uj] at h
     cases h
     unfold ED at hce
     refine fin (by rw[← hce];exact Ce _ _ _) _ ?_
     obtain⟨h1,h2⟩:=Bq s (rq ct.r) nv
     rw[hce] at h1
     exact Cn h1 h2
    ·cases h
theorem aew {β:Type} {ops:Array Oper} {T:rQ} {o:Oper} {fc:Facts} {K:Bool→Facts→rf β} {r:β} (hf:sO s fc) (h:(Qs ops T o fc K).path C.Φ s=some r) :
  ∃ q fc',sO s fc'∧Bf ops (rQ.den s T) o=some q∧(K q fc').path C.Φ s=some r:=by
 unfold Qs at h
 unfold Bf
 split at h
 ·rename_i hg
  exact⟨true,fc,hf,by rw[hg],h⟩
 ·rename_i j want hg
  rw[hg]
  simp only
  split at h
  ·rename_i hd
   exact⟨false,fc,hf,by rw[hd],h⟩
  ·rename_i d hd
   rw[hd]
   simp only
   split at h
   ·rename_i x hx
    have hT:rQ.den s T d=some (.v (.bool (x.den s != 0))):=by simp[rQ.den,hx,SV.den]
    obtain⟨fc',hf',h'⟩:=Cf hf h
    refine⟨_,fc',hf',?_,h'⟩
    rw[hT]
    simp only[zh]
    cases (x.den s != 0)<;>cases want<;>rfl
   ·rename_i vs hx
    have hT:rQ.den s T d=some (.v (.tuple vs)):=by simp[rQ.den,hx,SV.den]
    exact⟨false,fc,hf,by rw[hT],h⟩
   ·cases h
theorem aex {fv:SV} {g:FuncId} {a c:List SV} (h:Qt fv=some (g,a,c)):Gr (fv.den s)=some (g,SV.dens s a,SV.dens s c):=by
 have hC':∀ l:List Value,SV.dens s (l.map Cg)=l.map .v:=fun l=>by
  rw[SV.dens_map,List.map_map];exact List.map_congr_left fun x _=>ML s x
 unfold Qt at h
 split at h
 ·cases h
  simp only[SV.den,Gr,hC']
 ·cases h
  simp only[SV.den]
  unfold xB
  have hm:∀ {l:List AV} {vs:List Value},tZ l=some vs→l=vs.map .v:=fun {l} {vs} hv=>by
   have h4:=Km l
   unfold wM at h4;rw[hv] at h4
   simpa [tL,Value.cells] using h4.symm
  cases ha:tZ (SV.dens s a) with
  | none=>rfl
  | some x=>cases hc:tZ (SV.dens s c) with
   | none=>rfl
   | some y=>simp only[Gr,hm ha,hm hc]
 ·cases h
theorem aey {op:Op} {ρ:Operand→Option SV} {ρ':Operand→Option AV} (hρ:RD s ρ ρ') {g:FuncId} {args:List SV} (h:Qu op ρ=some (some (g,args))) {P:Program} {G:rO} {H:ru} {k:Nat} :
  Gs op ρ'=some (g,SV.dens s args)∧Am op ρ'=none∧rU P G E op ρ' H k=none:=by
 unfold Qu at h
 split at h
 ·rename_i f xs ts
  split at h
  ·rename_i fv hfv
   split at h
   ·rename_i g' a c bs hcl hl
    simp only[Option.some.injEq,Prod.mk.injEq] at h
    obtain⟨rfl,rfl⟩:=h
    refine⟨?_,rfl,rfl⟩
    simp only[Gs,hρ _ _ hfv,aex hcl,MS hρ hl,Dv]
   ·cases h
  ·cases h
 ·cases h
theorem aez {op:Op} {ρ:Operand→Option SV} {ρ':Operand→Option AV} (hρ:RD s ρ ρ') {q:X} {x y:Option SV} (h:Qv op ρ=some (q,x,y)):∃ x' y',Am op ρ'=some (q.den s != 0,x',y')∧(∀ a,x=some a→x'=some (a.den s))∧(∀ a,y=some a→y'=some (a.den s)):=by
 unfold Qv at h
 split at h
 ·rename_i c a b
  split at h
  ·rename_i q' hq
   cases h
   refine⟨ρ' a,ρ' b,?_,fun z hz=>hρ _ _ hz,fun z hz=>hρ _ _ hz⟩
   simp only[Am,hρ _ _ hq,SV.den]
  ·cases h
 ·cases h
theorem aeA {P:Program} {G:rO} {op:Op} {ρ:Operand→Option AV} {c:Bool} {x y:Option AV} {H:ru} {k:Nat} {r:AV} {tc:List Nat} {ef:List (Nat×AO)} (h:Am op ρ=some (c,x,y)) (hn:rU P G E op ρ H k=some (r,tc,ef)) :
  tc = []∧ef = []∧(c=true→x=some r)∧(c=false→y=some r):=by
 unfold Am at h
 split at h
 ·rename_i q a b
  split at h
  ·rename_i q' hq
   cases h
   simp only[rU,hq] at hn
   cases c with
   | true =>
    simp only[if_true] at hn
    obtain⟨h1,rfl,rfl⟩:=yl hn
    exact⟨rfl,rfl,fun _=>h1,fun h=>by cases h⟩
   | false =>
    simp only[Bool.false_eq_true,if_false] at hn
    obtain⟨h1,rfl,rfl⟩:=yl hn
    exact⟨rfl,rfl,(fun h=>by cases h),fun _=>h1⟩
  ·cases h
 ·cases h
def Cs (tr:Tr):Tr:=tr.filter fun x => !x.2.1.isEmpty
theorem VR (tc:List Nat):∀ ef:List (Nat×SO),M4 tc ef=yN tc (sH s ef)
 | []=>rfl
 | x::ef=>by
  have hc:tV x.1 tc=tc.contains x.1:=by rw[Bool.eq_iff_iff,KI,List.contains_iff_mem]
  simp only[M4,yN,sH,List.map_cons,List.any_cons,hc]
  cases tc.contains x.1 with
  | true=>rfl
  | false=>simp only[Bool.false_or];exact VR tc ef
theorem aeB {i:Nat} {tc:List Nat} {ef:List (Nat×SO)} {tr:Tr} : Cs ((i,tc,yN tc (sH s ef))::tr)=Cm i tc ef (Cs tr):=by
 unfold Cm Cs
 cases tc with
 | nil=>rfl
 | cons b tc=>rw[List.filter_cons_of_pos (by rfl),← VR (s:=s)]
theorem KO {M:List Nat} {Nb:Nat} : ∀ {tr:Tr},Dk M Nb (Cs tr)=true→Dk M Nb tr=true
 | [],_=>rfl
 | x::l,h=>by
  unfold Cs at h
  have empty:∀ y z:Nat×List Nat×Bool,z.2.1 = []∨y.2.1 = []→Dj M y z=true:=fun y z hz=>by
   unfold Dj
   rcases hz with hz|hz<;>simp[hz]
  cases hx:x.2.1 with
  | nil =>
   rw[List.filter_cons_of_neg (by simp[hx])] at h
   simp only[Dk,Bool.and_eq_true]
   refine⟨⟨by rw[hx];rfl,?_⟩,KO h⟩
   rw[List.all_eq_true];intro y _;exact empty x y (.inr hx)
  | cons b tc =>
   rw[List.filter_cons_of_pos (by simp[hx])] at h
   simp only[Dk,Bool.and_eq_true] at h ⊢
   refine⟨⟨h.1.1,?_⟩,KO h.2⟩
   rw[List.all_eq_true];intro y hy
   cases hy2:y.2.1 with
   | nil=>exact empty x y (.inl hy2)
   | cons b' tc'=>exact List.all_eq_true.1 h.1.2 y (List.mem_filter.2 ⟨hy,by simp[hy2]⟩)
theorem VS {β:Type} {T:rQ} {d:Option Tmp} {x:SV} {K:rQ→rf β} {r:β} (hd:∀ t,d=some t→t<T.length) (h:(Ck T d x K).path C.Φ s=some r) :
  ∃ T',T'.length=T.length∧rQ.den s T'=(rQ.den s T).put d (x.den s)∧(K T').path C.Φ s=some r:=by
 unfold Ck at h
 cases d with
 | none=>exact⟨T,rfl,rfl,h⟩
 | some d =>
  simp only at h
  rw[U6] at h
  exact⟨_,U8 T d x,rQ.den_set s T d x (hd d rfl),h⟩
theorem VT {j:Nat} : ∀ {ef:List (Nat×SO)} {dt:List Nat},tV j (Bo ef dt)=false→tV j dt=false∧∀ x∈ef,x.1≠j
 | [],dt,h=>⟨h,fun x hx=>by simp at hx⟩
 | x::ef,dt,h=>by
  rw[Bo] at h
  obtain⟨h1,h2⟩:=VT h
  unfold addN at h1
  split at h1
  ·rename_i hm
   refine⟨h1,fun y hy=>?_⟩
   rcases List.mem_cons.1 hy with rfl|hy
   ·rintro rfl;rw[hm] at h1;cases h1
   ·exact h2 y hy
  ·simp only[tV] at h1
   split at h1
   ·cases h1
   ·rename_i hb
    refine⟨h1,fun y hy=>?_⟩
    rcases List.mem_cons.1 hy with rfl|hy
    ·rintro rfl;simp at hb
    ·exact h2 y hy
theorem VU {j:Nat} : ∀ {ef:List (Nat×SO)} {H:SH},(∀ x∈ef,x.1≠j)→hget (EE H ef) j=hget H j
 | [],H,_=>rfl
 | x::ef,H,h=>by
  rw[EE,VU (fun y hy=>h y (List.mem_cons_of_mem _ hy)),PY,if_neg (fun e=>h x List.mem_cons_self e.symm)]
theorem VV (q:Bool) (v:Value) (b:Bool):(Kv q v b).den s = .v (Ak q v b):=by
 cases q with
 | true =>
  have:SV.dens s [Cg v,.bool (.lit (rZ b))] = [v,Value.bool b].map .v:=by
   simp only[SV.dens,ML,SV.den,X.den,uz,List.map_cons,List.map_nil]
  simp only[Kv,SV.den,this,MK,Ak,if_true]
 | false=>simp only[Kv,ML,Ak,Bool.false_eq_true,if_false]
theorem VW {β:Type} {kd:IntKind} {n:X} {q:Bool} {z:Value} {K:SV→Facts→rf β} {r:β} : ∀ {es:List (Value×Value)} {fc:Facts},Ku kd es=true→sO s fc→(MV kd n q z K es fc).path C.Φ s=some r →
  ∃ a fc',sO s fc'∧(K a fc').path C.Φ s=some r∧((∃ v,BU kd (n.den s) es=some (some v)∧a.den s = .v (Ak q v true))∨(BU kd (n.den s) es=some none∧a.den s = .v (Ak q z false)))
 | [],fc,hk,hf,h=>⟨_,fc,hf,h,.inr ⟨rfl,VV q z false⟩⟩
 | x::l,fc,hk,hf,h=>by
  simp only[Ku] at hk
  simp only[MV] at h
  cases hx:x.1 with
  | int k' m =>
   rw[hx] at hk h
   simp only at hk h
   cases hkk:vZ kd k' with
   | false=>rw[hkk] at hk;cases hk
   | true =>
    rw[hkk] at hk
    simp only at hk
    have hke:=xC hkk
    obtain⟨fc',hf',h⟩:=Cf hf h
    rw[Dn] at h
    simp only[rP,uz,X.den] at h
    unfold BU
    rw[hx]
    simp only[hke,if_true]
    cases hb:(n.den s==m) with
    | true =>
     rw[hb] at h
     have:n.den s=m:=by simpa using hb
     simp only[this,if_true]
     exact⟨_,fc',hf',h,.inl ⟨x.2,rfl,VV q x.2 true⟩⟩
    | false =>
     rw[hb] at h
     have:¬ n.den s=m:=by simpa using hb
     simp only[this,if_false]
     rw[← hke]
     exact VW hk hf' h
  | _=>rw[hx] at hk;cases hk
theorem aeC {op:Op} {ρ:Operand→Option SV} {ρ':Operand→Option AV} (hρ:RD s ρ ρ') {H:SH} {L:Vi} (h:Qw C.P op ρ H=some L) {G:rO} {k:Nat} :
  Ku L.kd L.es=true∧Am op ρ'=none∧Gs op ρ'=none∧(∀ v,BU L.kd (L.n.den s) L.es=some (some v)→rU C.P G E op ρ' (SH.den s H) k=some (.v (Ak L.q v true),[L.k],[])) ∧
   (BU L.kd (L.n.den s) L.es=some none→rU C.P G E op ρ' (SH.den s H) k=some (.v (Ak L.q L.z false),[L.k],[])):=by
 unfold Qw at h
 split at h
 ·rename_i t x i q
  split at h
  ·rename_i j kd n hx hi
   split at h
   ·rename_i o ho
    split at h
    ·rename_i es ht hm
     split at h
     ·rename_i kt et hu
      split at h
      ·rename_i kd' z hkt hz
       split at h
       ·rename_i hk1 hk2
        cases h
        have e1:=xC hk1
        have a1:=hρ _ _ hx
        have a2:=hρ _ _ hi
        simp only[SV.den] at a1 a2
        have a3:=SH.den_map (s:=s) ho ht hm
        refine⟨hk2,rfl,rfl,fun v hv=>?_,fun hv=>?_⟩
        ·simp only at hv
         simp only[rU,a1,a2,Be,a3,hu,hkt,e1,if_true,hv];rfl
        ·simp only at hv
         simp only[rU,a1,a2,Be,a3,hu,hkt,e1,if_true,hv,hz];rfl
       ·cases h
      ·cases h
     ·cases h
    ·cases h
   ·cases h
  ·cases h
 ·cases h
theorem VX (k:VK) (x:X):Kw k x=Av k x:=by cases k<;>rfl
theorem VY:∀ (ks:List VK) (xs:List X),MZ ks xs=Ab ks xs
 | [],_=>rfl
 | _::_,[]=>rfl
 | k::ks,x::xs=>by rw[MZ,Ab,VX,VY ks xs]
theorem VZ:∀ (ks:List VK) (b:Nat),M3 b ks=rJ b ks
 | [],_=>rfl
 | k::ks,b=>by rw[M3,rJ,VZ ks]
theorem QW:∀ (ks:List VK) (ns:List Int),ns.length=ks.length→(sP ks ns).length=ks.length
 | [],_,_=>by simp[sP]
 | k::ks,[],h=>by simp at h
 | k::ks,n::ns,h=>by rw[sP,List.length_cons,List.length_cons,QW ks ns (by simpa using h)]
theorem QX (b:Nat) (ks:List VK):∀ n,(xG s b ks n).length=n*ks.length
 | 0=>by simp[xG]
 | n+1=>by rw[xG,List.length_append,QX b ks n,QW _ _ (Ce _ _ _),Nat.add_mul,Nat.one_mul]
theorem QY (b:Nat) (ks:List VK):∀ {n j:Nat},j<n→((xG s b ks n).drop (j*ks.length)).take ks.length=sP ks (wh s (b+j*ks.length) ks.length)
 | n+1,j,h=>by
  rw[xG]
  have hl:=QX (s:=s) b ks n
  by_cases hj:j=n
  ·subst hj
   rw[List.drop_append_of_le_length (by rw[hl];exact Nat.le_refl _),List.drop_of_length_le (by rw[hl];exact Nat.le_refl _),List.nil_append,List.take_of_length_le (by rw[QW _ _ (Ce _ _ _)];exact Nat.le_refl _)]
  ·have hjn:j<n:=by omega
   have hm:(j+1)*ks.length≤n*ks.length:=Nat.mul_le_mul_right _ hjn
   rw[Nat.add_mul,Nat.one_mul] at hm
   rw[List.drop_append_of_le_length (by rw[hl];omega),List.take_append_of_le_length (by rw[List.length_drop,hl];omega)]
   exact QY b ks hjn
theorem QZ {H:SH} {k:Nat} {r:Kl} (h:MW H k=some r):SH.den s H k=some (.rd (r.n.den s).toNat (xG s r.b r.ks (r.n.den s).toNat)):=by
 unfold MW at h
 split at h
 ·rename_i o ho
  split at h
  ·rename_i r' h1 h2 h3
   cases h
   exact SH.den_ora ho h1 h2 h3
  ·cases h
 ·cases h
theorem Q9 {j:Nat} {n:X} (h:((uy .lss .i64 (.lit (.ofNat j)) n).den s != 0)=true):j<(n.den s).toNat:=by
 rw[Dn] at h
 simp only[rP,uz,X.den] at h
 have:=of_decide_eq_true h
 have h2:(j:Int)<n.den s:=this
 omega
theorem aeD {op:Op} {ρ:Operand→Option SV} {ρ':Operand→Option AV} (hρ:RD s ρ ρ') {H:SH} {L:Vj} (h:Qx C.P op ρ H=some L) {G:rO} {k:Nat} (hc:(L.c.den s != 0)=true) :
  Am op ρ'=none∧rU C.P G E op ρ' (SH.den s H) k=some (L.r.den s,[L.k],[]):=by
 unfold Qx at h
 split at h
 ·rename_i t x i
  split at h
  ·rename_i j kk kd m hx hi
   split at h
   ·rename_i r el hr hel
    split at h
    ·rename_i sz hsz
     split at h
     ·rename_i hb
      rw[uj] at h
      cases h
      have a1:=hρ _ _ hx
      have a2:=hρ _ _ hi
      have hlt:=Q9 hc
      refine⟨rfl,?_⟩
      simp only[SV.den,X.den] at a1 a2
      simp only[rU,a1,a2,zD,QZ hr,hel,hsz]
      rw[if_pos ⟨by exact Int.natCast_nonneg _,by show(m:Int)<_;omega⟩]
      rfl
     ·cases h
    ·cases h
   ·cases h
  ·cases h
 ·rename_i t x
  split at h
  ·rename_i kk off hx
   split at h
   ·rename_i r hr
    rw[uj] at h
    have a1:=hρ _ _ hx
    simp only[SV.den] at a1
    split at h
    ·rename_i hb ha
     have hb:=sQ.1 hb
     split at h
     ·rename_i sz hsz
      split at h
      ·rename_i hz h1
       have hz:=sQ.1 hz
       have h1:=Nat.le_of_ble_eq_true h1
       rw[uj] at h
       cases h
       have hlt:=Q9 hc
       refine⟨rfl,?_⟩
       have hg:=QY (s:=s) r.b r.ks hlt
       have hl:=QX (s:=s) r.b r.ks (r.n.den s).toNat
       have hm:(off/r.ks.length+1)*r.ks.length≤(r.n.den s).toNat*r.ks.length:=Nat.mul_le_mul_right _ hlt
       rw[Nat.add_mul,Nat.one_mul,hb] at hm
       rw[hb] at hg
       simp only[rU,a1,xM,QZ hr,vL,ha,hsz]
       rw[if_pos ⟨by rw[List.length_map,hl,hz];exact hm,by omega⟩]
       simp only[SV.den,VY,VZ]
       obtain⟨v1,v2⟩:=Bq s r.ks (r.b+off)
       rw[Na v1 v2,← List.map_drop,← List.map_take,hz,hg]
      ·cases h
     ·cases h
    ·rename_i hb ha
     have hb:=sQ.1 hb
     split at h
     ·rename_i vk hks
      rw[uj] at h
      cases h
      have hlt:=Q9 hc
      refine⟨rfl,?_⟩
      have hg:=QY (s:=s) r.b r.ks hlt
      rw[hb,hks] at hg
      simp only[rU,a1,xM,QZ hr,vL,ha]
      have hx1:(xG s r.b r.ks (r.n.den s).toNat)[off]? = some (tQ vk (s (r.b+off))):=by
       have e1:((xG s r.b [vk] (r.n.den s).toNat).drop off).take 1 = [tQ vk (s (r.b+off))]:=hg
       rw[hks]
       have e2:(((xG s r.b [vk] (r.n.den s).toNat).drop off).take 1)[0]? = some (tQ vk (s (r.b+off))):=by rw[e1];rfl
       rwa [List.getElem?_take_of_lt (by decide),List.getElem?_drop] at e2
      rw[List.getElem?_map,hx1,VX]
      rw[M9 (s:=s) (k:=vk) (x:=.var vk (r.b+off)) (n:=s (r.b+off)) rfl]
      rfl
     ·cases h
    ·cases h
   ·cases h
  ·cases h
 ·cases h
theorem KP (hC:wR C E) {cf:CF} {nt:Nat} (hcf:∀ g args H k nv fc r,(cf g args H k nv fc).path C.Φ s=some r→sO s fc→zm C s g args H k r) {ops:Array Oper} {Nb:Nat} :
  ∀ (os:List Oper) (i:Nat) (T:rQ) (H:SH) (tr:Kt) (nv:Nat) (dt:List Nat) (fc:Facts) (out:OR),(zJ C cf ops Nb i os T H tr nv dt fc).path C.Φ s=some out→sO s fc→T.length=nt→(∀ o∈os,∀ t,o.dst=some t→t<nt) →
   (∀ w0 B0 (trf:Tr) (K:rR→ru→Tr→Prop),Cs trf=tr→(∀ trf',Cs trf'=out.tr→K (rQ.den s out.T) (SH.den s out.H) trf')→uO C.P C.G E w0 B0 ops Nb i os (rQ.den s T) (SH.den s H) trf K) ∧
   out.T.length=nt∧sO s out.fc∧∀ j,tV j out.dt=false→tV j dt=false∧hget out.H j=hget H j
 | [],i,T,H,tr,nv,dt,fc,out,h,hfc,hT,hd=>by
  simp only[zJ] at h
  cases h
  exact⟨fun w0 B0 trf K ht hK=>by rw[uO];exact hK trf ht,hT,hfc,fun j hj=>⟨hj,rfl⟩⟩
 | o::os,i,T,H,tr,nv,dt,fc,out,h,hfc,hT,hd=>by
  simp only[zJ] at h
  obtain⟨q,fc1,hf1,hw,h⟩:=aew hfc h
  have hdo:∀ t,o.dst=some t→t<T.length:=by rw[hT];exact hd o List.mem_cons_self
  have hds:∀ o'∈os,∀ t,o'.dst=some t→t<nt:=fun o' ho'=>hd o' (List.mem_cons_of_mem _ ho')
  cases q with
  | false =>
   simp only at h
   obtain⟨T',hl,hden,h⟩:=VS hdo h
   obtain⟨h1,h2,h3,h4⟩:=KP hC hcf os (i+1) T' H tr nv dt fc1 out h hf1 (hl.trans hT) hds
   refine⟨fun w0 B0 trf K ht hK=>?_,h2,h3,h4⟩
   have:=h1 w0 B0 trf K ht hK
   rw[hden] at this
   simp only[uO,hw,Eu];exact this
  | true =>
   simp only at h
   have step:∀ (r:SV) (tc:List Nat) (ef:List (Nat×SO)) (nv':Nat) (fc':Facts),sO s fc'→(Ck T o.dst r fun T=>Bn H ef fun H=>zJ C cf ops Nb (Nat.succ i) os T H (Cm i tc ef tr) nv' (Bo ef dt) fc').path C.Φ s=some out →
     (∀ w0 B0 (trf:Tr) (K:rR→ru→Tr→Prop),Cs trf=tr→(∀ trf',Cs trf'=out.tr→K (rQ.den s out.T) (SH.den s out.H) trf')→uO C.P C.G E w0 B0 ops Nb (i+1) os ((rQ.den s T).put o.dst (r.den s)) ((SH.den s H).puts (sH s ef)) ((i,tc,yN tc (sH s ef))::trf) K) ∧
     out.T.length=nt∧sO s out.fc∧∀ j,tV j out.dt=false→tV j dt=false∧hget out.H j=hget H j:=by
    intro r tc ef nv' fc' hf' h
    obtain⟨T',hl,hden,h⟩:=VS hdo h
    rw[Va] at h
    obtain⟨h1,h2,h3,h4⟩:=KP hC hcf os (i+1) T' _ _ nv' _ fc' out h hf' (hl.trans hT) hds
    refine⟨fun w0 B0 trf K ht hK=>?_,h2,h3,fun j hj=>?_⟩
    ·have:=h1 w0 B0 ((i,tc,yN tc (sH s ef))::trf) K (by rw[aeB,ht]) hK
     rw[hden,Vb] at this
     exact this
    ·obtain⟨h5,h6⟩:=h4 j hj
     obtain⟨h7,h8⟩:=VT h5
     exact⟨h7,by rw[h6,VU h8]⟩
   split at h
   ·cases h
   ·rename_i g args hcs
    rw[uj] at h
    obtain⟨r,hr,h⟩:=rf.path_bind_some h
    have sp:=hcf _ _ _ _ _ _ _ hr hf1
    obtain⟨h1,h2⟩:=step r.r r.tc r.ef r.nv r.fc sp.fc h
    refine⟨fun w0 B0 trf K ht hK=>?_,h2⟩
    obtain⟨e1,e2,e3⟩:=aey (E:=E) (Du s T) hcs (P:=C.P) (G:=C.G) (H:=SH.den s H) (k:=Nb+2*i)
    simp only[uO,hw,Al,e2,e3,e1]
    exact⟨_,_,_,sp.ok w0 B0,sp.tc,sp.ef,h1 w0 B0 trf K ht hK⟩
   ·split at h
    ·rename_i q x y hp
     obtain⟨fc2,hf2,h⟩:=Cf hf1 h
     obtain⟨x',y',e1,e2,e3⟩:=aez (s:=s) (Du s T) hp
     cases hq:(q.den s != 0) with
     | true =>
      rw[hq] at h e1
      simp only at h
      cases x with
      | none=>cases h
      | some r =>
       obtain⟨h1,h2⟩:=step r [] [] nv fc2 hf2 (by simpa [Bn,Cm,Bo] using h)
       refine⟨fun w0 B0 trf K ht hK=>?_,h2⟩
       simp only[uO,hw,Al,e1,e2 r rfl]
       exact h1 w0 B0 trf K ht hK
     | false =>
      rw[hq] at h e1
      simp only at h
      cases y with
      | none=>cases h
      | some r =>
       obtain⟨h1,h2⟩:=step r [] [] nv fc2 hf2 (by simpa [Bn,Cm,Bo] using h)
       refine⟨fun w0 B0 trf K ht hK=>?_,h2⟩
       simp only[uO,hw,Al,Eu,e1,e3 r rfl]
       exact h1 w0 B0 trf K ht hK
    ·split at h
     ·rename_i L hL
      obtain⟨k1,k2,k3,k4,k5⟩:=aeC (E:=E) (s:=s) (Du s T) hL (G:=C.G) (k:=Nb+2*i)
      obtain⟨a,fc2,hf2,h,hv⟩:=VW k1 hf1 h
      obtain⟨h1,h2⟩:=step a [L.k] [] nv fc2 hf2 (by simpa [Bn,Bo] using h)
      refine⟨fun w0 B0 trf K ht hK=>?_,h2⟩
      have h3:=h1 w0 B0 trf K ht hK
      have hn:rU C.P C.G E o.op (uX (rQ.den s T)) (SH.den s H) (Nb+2*i)=some (a.den s,[L.k],[]):=by
       rcases hv with⟨v,v1,v2⟩|⟨v1,v2⟩
       ·rw[v2];exact k4 v v1
       ·rw[v2];exact k5 v1
      simp only[uO,hw,Al,k2,hn]
      exact h3
     split at h
     ·rename_i L hL
      obtain⟨fc2,hf2,h⟩:=Cf hf1 h
      cases hq:(L.c.den s != 0) with
      | false=>rw[hq] at h;cases h
      | true =>
       rw[hq] at h
       simp only at h
       obtain⟨k2,hn⟩:=aeD (E:=E) (s:=s) (Du s T) hL (G:=C.G) (k:=Nb+2*i) hq
       obtain⟨h1,h2⟩:=step L.r [L.k] [] nv fc2 hf2 (by simpa [Bn,Bo] using h)
       refine⟨fun w0 B0 trf K ht hK=>?_,h2⟩
       have h3:=h1 w0 B0 trf K ht hK
       simp only[uO,hw,Al,k2,hn]
       exact h3
     ·rw[uj] at h
      obtain⟨r,hr,h⟩:=rf.path_bind_some h
      have hn:=ad9 hC.se hf1 (Du s T) hr
      obtain⟨h1,h2⟩:=step r.1 r.2.1 r.2.2 nv fc1 hf1 h
      refine⟨fun w0 B0 trf K ht hK=>?_,h2⟩
      have h3:=h1 w0 B0 trf K ht hK
      simp only[uO,hw,Al]
      cases hp:Am o.op (uX (rQ.den s T)) with
      | none=>simp only[hn];exact h3
      | some z =>
       obtain⟨c,x,y⟩:=z
       obtain⟨e1,e2,e3,e4⟩:=aeA hp hn
       rw[e1,e2] at h3
       cases c with
       | true=>simp only[Al,e3 rfl];exact h3
       | false=>simp only[Eu,e4 rfl];exact h3
theorem zK {r:Exit×St} {t:rf (Exit×St)} {f:Exit×St→rf (Exit×St)} (h:(t.bind f).path C.Φ s=some r):∃ ex st,t.path C.Φ s=some (ex,st)∧(f (ex,st)).path C.Φ s=some r:=by
 obtain⟨⟨ex,st⟩,h1,h2⟩:=rf.path_bind_some h;exact⟨ex,st,h1,h2⟩
theorem ES {x:Exit} {r y:Exit×St} {A:rf (Exit×St)} (h:(match x with | .normal=>A|_=>.leaf y:rf (Exit×St)).path C.Φ s=some r):(x = .normal∧A.path C.Φ s=some r)∨(x ≠ .normal∧r=y):=by
 cases x<;>first|exact .inl ⟨rfl,h⟩|(cases h;exact .inr ⟨fun e=>(by cases e),rfl⟩)
theorem ET {K:Nat→rR→ru→Prop} {Q:yO} {x:Exit} {N:Nat} {T:rR} {H:ru} (hx:x ≠ .normal) (h:Q x N T H):Gx K Q x N T H:=by
 cases x<;>first|exact absurd rfl hx|exact h
theorem Ay.trans {c c' c2:Code} {st st1 st2:St} {ex1 ex2:Exit} (h1:Ay C E s c st ex1 st1) (h2:Ay C E s c' st1 ex2 st2) (aw:∀ w0 B0,AW ⟨C.P,C.G,E,w0,B0,st.T.length⟩ c2 (wZ s ex2 st2) st.N (rQ.den s st.T) (SH.den s st.H)):Ay C E s c2 st ex2 st2 :=
 ⟨aw,h2.len.trans h1.len,fun j hj=>by obtain⟨a,b⟩:=h2.dt j hj;obtain⟨a',b'⟩:=h1.dt j a;exact⟨a',b.trans b'⟩,h2.fc⟩
def Cu (id:Nat):Exit→Exit
 | .exit id'=>if id'=id then .normal else .exit id'
 | x=>x
theorem Hr (hC:wR C E):∀ n:Nat,KM C E s (exec C n) ∧
  ∀ c st ex st',(exec C n (.loop c) st).path C.Φ s=some (ex,st')→sO s st.fc→∀ w0 B0,xP ⟨C.P,C.G,E,w0,B0,st.T.length⟩ c (wZ s ex st') n st.N (rQ.den s st.T) (SH.den s st.H)
 | 0=>⟨fun c st ex st' h=>(by cases h),fun c st ex st' h=>(by cases h)⟩
 | n+1=>by
  obtain⟨ih,ihl⟩:=Hr hC n
  have loop:∀ c st ex st',(exec C (n+1) (.loop c) st).path C.Φ s=some (ex,st')→sO s st.fc→Ay C E s (.loop c) st ex st'∧∀ w0 B0,xP ⟨C.P,C.G,E,w0,B0,st.T.length⟩ c (wZ s ex st') (n+1) st.N (rQ.den s st.T) (SH.den s st.H):=by
   intro c st ex st' h hf
   simp only[exec] at h
   obtain⟨ex1,st1,h1,h2⟩:=zK h
   have s1:=ih _ _ _ _ h1 hf
   rcases ES h2 with⟨rfl,h3⟩|⟨hx,h3⟩
   ·have s2:=ih _ _ _ _ h3 s1.fc
    have hr:∀ w0 B0,xP ⟨C.P,C.G,E,w0,B0,st.T.length⟩ c (wZ s ex st') (n+1) st.N (rQ.den s st.T) (SH.den s st.H):=fun w0 B0=>by
     rw[GA]
     refine(s1.aw w0 B0).mono ?_
     rintro x N T H ⟨rfl,rfl,rfl,rfl⟩
     have:=ihl _ _ _ _ h3 s1.fc w0 B0
     rw[s1.len] at this
     exact this
    exact⟨s1.trans s2 fun w0 B0=>Gz _ (hr w0 B0),hr⟩
   ·obtain⟨rfl,rfl⟩:ex1=ex∧st1=st':=by cases h3;exact⟨rfl,rfl⟩
    have hr:∀ w0 B0,xP ⟨C.P,C.G,E,w0,B0,st.T.length⟩ c (wZ s ex1 st1) (n+1) st.N (rQ.den s st.T) (SH.den s st.H):=fun w0 B0=>by
     rw[GA]
     refine(s1.aw w0 B0).mono ?_
     rintro x N T H ⟨rfl,rfl,rfl,rfl⟩
     exact ET hx ⟨rfl,rfl,rfl,rfl⟩
    exact⟨⟨fun w0 B0=>Gz _ (hr w0 B0),s1.len,s1.dt,s1.fc⟩,hr⟩
  refine⟨?_,fun c st ex st' h hf=>(loop c st ex st' h hf).2⟩
  intro c st ex st' h hf
  cases c with
  | skip=>simp only[exec] at h;cases h;exact⟨fun w0 B0=>Pf ⟨rfl,rfl,rfl,rfl⟩,rfl,fun j hj=>⟨hj,rfl⟩,hf⟩
  | label l=>simp only[exec] at h;cases h;exact⟨fun w0 B0=>Pg ⟨rfl,rfl,rfl,rfl⟩,rfl,fun j hj=>⟨hj,rfl⟩,hf⟩
  | exit id=>simp only[exec] at h;cases h;exact⟨fun w0 B0=>Ph ⟨rfl,rfl,rfl,rfl⟩,rfl,fun j hj=>⟨hj,rfl⟩,hf⟩
  | ret=>simp only[exec] at h;cases h;exact⟨fun w0 B0=>Pi ⟨rfl,rfl,rfl,rfl⟩,rfl,fun j hj=>⟨hj,rfl⟩,hf⟩
  | seq a b =>
   simp only[exec] at h
   obtain⟨ex1,st1,h1,h2⟩:=zK h
   have s1:=ih _ _ _ _ h1 hf
   rcases ES h2 with⟨rfl,h3⟩|⟨hx,h3⟩
   ·have s2:=ih _ _ _ _ h3 s1.fc
    refine s1.trans s2 fun w0 B0=>Gy ((s1.aw w0 B0).mono ?_)
    rintro x N T H ⟨rfl,rfl,rfl,rfl⟩
    have:=s2.aw w0 B0
    rw[s1.len] at this
    exact this
   ·cases h3
    refine⟨fun w0 B0=>Gy ((s1.aw w0 B0).mono ?_),s1.len,s1.dt,s1.fc⟩
    rintro x N T H ⟨rfl,rfl,rfl,rfl⟩
    exact ET hx ⟨rfl,rfl,rfl,rfl⟩
  | cond c a b =>
   simp only[exec] at h
   split at h
   ·rename_i q hq
    have hd:=Du s st.T _ _ hq
    obtain⟨fc',hf',h⟩:=Cf hf h
    simp only[SV.den] at hd
    cases hb:(q.den s != 0) with
    | true =>
     rw[hb] at h hd
     have s1:=ih _ _ _ _ h hf'
     exact⟨fun w0 B0=>Pj hd (s1.aw w0 B0),s1.len,s1.dt,s1.fc⟩
    | false =>
     rw[hb] at h hd
     have s1:=ih _ _ _ _ h hf'
     exact⟨fun w0 B0=>Pk hd (s1.aw w0 B0),s1.len,s1.dt,s1.fc⟩
   ·cases h
  | block id c =>
   simp only[exec] at h
   obtain⟨ex1,st1,h1,h2⟩:=zK h
   have s1:=ih _ _ _ _ h1 hf
   have key:ex=Cu id ex1∧st'=st1:=by
    cases ex1 with
    | exit id' =>
     simp only at h2
     simp only[Cu]
     split at h2
     ·rename_i hb;cases h2;rw[if_pos (sQ.1 hb)];exact⟨rfl,rfl⟩
     ·rename_i hb;cases h2
      rw[if_neg (fun e=>by rw[e] at hb;simp at hb)];exact⟨rfl,rfl⟩
    | _=>cases h2;exact⟨rfl,rfl⟩
   obtain⟨rfl,rfl⟩:=key
   refine⟨fun w0 B0=>Pm ((s1.aw w0 B0).mono ?_),s1.len,s1.dt,s1.fc⟩
   rintro x N T H ⟨rfl,rfl,rfl,rfl⟩
   cases x with
   | exit id' =>
    simp only[JY,Cu]
    split
    ·exact⟨rfl,rfl,rfl,rfl⟩
    ·exact⟨rfl,rfl,rfl,rfl⟩
   | _=>exact⟨rfl,rfl,rfl,rfl⟩
  | loop c=>exact(loop c st ex st' h hf).1
  | scope c =>
   simp only[exec] at h
   obtain⟨ex1,st1,h1,h2⟩:=zK h
   have s1:=ih _ _ _ _ h1 hf
   have key:(∀ l,ex1 ≠ .goto l)∧ex=ex1∧st'=st1:=by
    cases ex1<;>first|(cases h2;exact⟨fun l e=>(by cases e),rfl,rfl⟩)|cases h2
   obtain⟨hg,rfl,rfl⟩:=key
   exact⟨fun w0 B0=>Po (s1.aw w0 B0) (fun l N T H e=>hg l e.1.symm),s1.len,s1.dt,s1.fc⟩
  | region id ops draw =>
   simp only[exec] at h
   obtain⟨out,h1,h2⟩:=rf.path_bind_some h
   have dst:∀ o∈ops.toList,∀ t,o.dst=some t→t<st.T.length:=by
    unfold regionEnd at h2
    split at h2
    ·split at h2
     ·rename_i hdr _
      simp only[drawOK,Bool.and_eq_true] at hdr
      exact BX hdr.1.2
     ·cases h2
     ·cases h2
    ·split at h2
     ·rename_i hdr;exact BX hdr
     ·cases h2
   obtain⟨e1,e2,e3,e4⟩:=KP hC (nt:=st.T.length) (fun g args H k nv fc r hr hf=>QV hC ih hr hf) ops.toList 0 st.T st.H [] st.nv st.dt st.fc out h1 hf rfl dst
   unfold regionEnd at h2
   cases draw with
   | true =>
    simp only at h2
    split at h2
    ·rename_i hdr htr
     rw[uj] at h2
     cases h2
     refine⟨fun w0 B0=>Pq hC.eq hC.mix hdr (e1 w0 B0 [] _ rfl ?_),e2,e4,e3⟩
     intro trf htf
     refine⟨?_,rfl,rfl,rfl,rfl⟩
     rw[← htf] at htr
     exact KO htr
    ·cases h2
    ·cases h2
   | false =>
    simp only at h2
    split at h2
    ·rename_i hdr
     rw[uj] at h2
     cases h2
     exact⟨fun w0 B0=>Pp hC.eq hdr (e1 w0 B0 [] _ rfl fun trf htf=>⟨rfl,rfl,rfl,rfl⟩),e2,e4,e3⟩
    ·cases h2
  | rangeFunc f ps a b=>simp only[exec] at h;cases h
  | goto l=>simp only[exec] at h;cases h
  | refuse w=>simp only[exec] at h;cases h
end
open Go.RowKit
def rE:List Int→Nat→Int
 | [],_=>0
 | x::_,0=>x
 | _::l,n+1=>rE l n
theorem V3:∀ (l m:List Int) (i:Nat),i<l.length→rE (l++m) i=rE l i
 | x::l,m,0,_=>rfl
 | x::l,m,i+1,h=>V3 l m i (by simpa using h)
 | [],m,i,h=>by simp at h
theorem Ra:∀ (l m q:List Int),wh (rE (l++m++q)) l.length m.length=m
 | l,[],q=>rfl
 | l,x::m,q=>by
  rw[List.length_cons,wh]
  have h1:rE (l++x::m++q) l.length=x:=by
   induction l with
   | nil=>rfl
   | cons y l ih=>exact ih
  have h2:=Ra (l ++ [x]) m q
  rw[h1]
  simp only[List.append_assoc,List.singleton_append,List.length_append,List.length_cons,List.length_nil,List.cons_append,List.nil_append,Nat.zero_add] at h2 ⊢
  rw[h2]
def X.ev (l:List Int):X→Int
 | .lit n=>n
 | .var k i=>Hd k (rE l i)
 | .bin op k a b=>fold op k (a.ev l) (b.ev l)
 | .conv k a=>uP k (a.ev l)
 | .com k a=>fold .xor k (match k.signed with|true => -1|false=>.ofNat (xQ k-1)) (a.ev l)
 | .not a=>rZ (zS (sN (a.ev l)))
 | .and a b=>match sN (a.ev l) with|true=>rZ (sN (b.ev l))|false=>0
 | .beq a b=>rZ (match sN (a.ev l) with|true=>sN (b.ev l)|false=>zS (sN (b.ev l)))
 | .min a b=>match wO (b.ev l) (a.ev l) with|true=>b.ev l|false=>a.ev l
 | .max a b=>match wO (a.ev l) (b.ev l) with|true=>b.ev l|false=>a.ev l
 | .ite c a b=>match sN (c.ev l) with|true=>a.ev l|false=>b.ev l
 | .dlen a=>Int.ofNat (Ap (a.ev l).toNat)
theorem aeE (k:IntKind) (n:Int):fold .xor k (match k.signed with|true => -1|false=>.ofNat (xQ k-1)) n=Kh k n:=by
 have:=UZ (fun _=>0) k (.lit n)
 unfold MF at this
 simp only[Ey,X.den] at this
 exact this
theorem X.ev_den (l:List Int):∀ x:X,x.ev l=x.den (rE l)
 | .lit n=>rfl
 | .var k i=>Vp k _
 | .bin op k a b=>by simp only[X.ev,X.den,EB,X.ev_den l a,X.ev_den l b]
 | .conv k a=>by simp only[X.ev,X.den,um,X.ev_den l a]
 | .com k a=>by simp only[X.ev,X.den,aeE,X.ev_den l a]
 | .not a=>by simp only[X.ev,X.den,zh,uQ,X.ev_den l a]
 | .and a b=>by
  simp only[X.ev,X.den,uQ,X.ev_den l a,X.ev_den l b]
  cases (a.den (rE l) != 0)<;>rfl
 | .beq a b=>by
  simp only[X.ev,X.den,uQ,zh,X.ev_den l a,X.ev_den l b]
  cases (a.den (rE l) != 0)<;>cases (b.den (rE l) != 0)<;>rfl
 | .min a b=>by
  simp only[X.ev,X.den,zg,X.ev_den l a,X.ev_den l b]
  by_cases h:b.den (rE l)<a.den (rE l)
  ·rw[decide_eq_true h,if_pos h]
  ·rw[decide_eq_false h,if_neg h]
 | .max a b=>by
  simp only[X.ev,X.den,zg,X.ev_den l a,X.ev_den l b]
  by_cases h:a.den (rE l)<b.den (rE l)
  ·rw[decide_eq_true h,if_pos h]
  ·rw[decide_eq_false h,if_neg h]
 | .ite c a b=>by
  simp only[X.ev,X.den,uQ,X.ev_den l a,X.ev_den l b,X.ev_den l c]
  by_cases h:c.den (rE l)=0
  ·rw[if_pos h,h];rfl
  ·rw[if_neg h,show(c.den (rE l) != 0)=true by simpa using h]
 | .dlen a=>by simp only[X.ev,X.den,X.ev_den l a]
def evs {β:Sort _} (l:List Int):List X→(List Int→β)→β
 | [],K=>K []
 | x::xs,K=>Ex (x.ev l) fun n=>evs l xs fun r=>K (n::r)
theorem zL {β:Sort _} (l:List Int):∀ (xs:List X) (K:List Int→β),evs l xs K=K (xs.map (X.den (rE l)))
 | [],K=>rfl
 | x::xs,K=>by rw[evs,Ey,zL l xs,X.ev_den];rfl
def vE (Φ:uL):rf SV→List Int→Option (SV×List Int)
 | .leaf a,l=>some (a,l)
 | .ite c a b,l=>match sN (c.ev l) with|true=>vE Φ a l|false=>vE Φ b l
 | .call f args _ n t,l=>evs l args fun xs=>match Nat.beq (Φ f xs).length n with|true=>vE Φ t (l++Φ f xs)|false=>none
 | .stuck _,_=>none
def wu (n:Nat):X→Bool
 | .lit _=>true
 | .var _ i=>Nat.blt i n
 | .bin _ _ a b=>sS (wu n a) (wu n b)
 | .conv _ a=>wu n a
 | .com _ a=>wu n a
 | .not a=>wu n a
 | .and a b=>sS (wu n a) (wu n b)
 | .beq a b=>sS (wu n a) (wu n b)
 | .min a b=>sS (wu n a) (wu n b)
 | .max a b=>sS (wu n a) (wu n b)
 | .ite c a b=>sS (wu n c) (sS (wu n a) (wu n b))
 | .dlen a=>wu n a
def Ng (n:Nat):List X→Bool
 | []=>true
 | x::l=>sS (wu n x) (Ng n l)
def Br (n:Nat):rf SV→Bool
 | .leaf _=>true
 | .ite c a b=>sS (wu n c) (sS (Br n a) (Br n b))
 | .call _ args base m t=>sS (Nat.beq base n) (sS (Ng n args) (Br (n+m) t))
 | .stuck _=>true
theorem xc {l m:List Int} : ∀ {x:X},wu l.length x=true→x.den (rE (l++m))=x.den (rE l)
 | .lit n,_=>rfl
 | .var k i,h=>by simp only[X.den];rw[V3 _ _ _ (by simpa [wu,Nat.blt_eq] using h)]
 | .bin _ _ a b,h=>by have h:=sD h;simp only[X.den,xc h.1,xc h.2]
 | .conv _ a,h=>by simp only[X.den,xc (x:=a) h]
 | .com _ a,h=>by simp only[X.den,xc (x:=a) h]
 | .not a,h=>by simp only[X.den,xc (x:=a) h]
 | .and a b,h=>by have h:=sD h;simp only[X.den,xc h.1,xc h.2]
 | .beq a b,h=>by have h:=sD h;simp only[X.den,xc h.1,xc h.2]
 | .min a b,h=>by have h:=sD h;simp only[X.den,xc h.1,xc h.2]
 | .max a b,h=>by have h:=sD h;simp only[X.den,xc h.1,xc h.2]
 | .ite c a b,h=>by have h:=sD h;have h2:=sD h.2;simp only[X.den,xc h.1,xc h2.1,xc h2.2]
 | .dlen a,h=>by simp only[X.den,xc (x:=a) h]
theorem V5 {l m:List Int} : ∀ {xs:List X},Ng l.length xs=true→xs.map (X.den (rE (l++m)))=xs.map (X.den (rE l))
 | [],_=>rfl
 | x::xs,h=>by have h:=sD h;rw[List.map_cons,List.map_cons,xc h.1,V5 h.2]
theorem EU {Φ:uL} : ∀ {t:rf SV} {l:List Int} {a:SV} {l':List Int},vE Φ t l=some (a,l')→Br l.length t=true→t.path Φ (rE l')=some a∧∃ m,l'=l++m
 | .leaf a,l,b,l',h,_=>by simp only[vE,Option.some.injEq,Prod.mk.injEq] at h;obtain⟨rfl,rfl⟩:=h;exact⟨rfl,[],by simp⟩
 | .ite c a b,l,v,l',h,hs=>by
  have hs:=sD hs;have hs2:=sD hs.2
  simp only[vE,uQ,X.ev_den] at h
  split at h
  ·rename_i hc
   obtain⟨h1,m,rfl⟩:=EU h hs2.1
   refine⟨?_,m,rfl⟩
   rw[rf.path,xc hs.1,if_neg (by simpa using hc)];exact h1
  ·rename_i hc
   obtain⟨h1,m,rfl⟩:=EU h hs2.2
   refine⟨?_,m,rfl⟩
   rw[rf.path,xc hs.1,if_pos (by simpa using hc)];exact h1
 | .call f args base n t,l,v,l',h,hs=>by
  have hs:=sD hs;have hs2:=sD hs.2
  have hb:=sQ.1 hs.1;subst hb
  simp only[vE,zL] at h
  split at h
  ·rename_i hn
   have hn:=sQ.1 hn;subst hn
   obtain⟨h1,m,rfl⟩:=EU h (by rw[List.length_append];exact hs2.2)
   refine⟨?_,_,List.append_assoc _ _ _⟩
   rw[rf.path,if_pos]
   ·exact h1
   ·unfold ED
    have e:=V5 (m:=Φ f (args.map (X.den (rE l)))++m) hs2.1
    rw[List.append_assoc,e,← List.append_assoc]
    exact Ra l _ m
  ·cases h
 | .stuck w,l,v,l',h,_=>by cases h
def xW (r:List Sh) (a:SV):List SV:=match r with
 | [_]=>[a]
 | _=>match a with | .tup m=>m|a=>[a]
def rG (Φ:uL) (ct:Ct) (t:rf SV) (l:List Int):List Int:=match vE Φ t l with
 | some (a,l')=>match wY ct.r (xW ct.r a) with
  | some xs=>evs l' xs id
  | none=>[]
 | none=>[]
def okF (Φ:uL) (ct:Ct) (t:rf SV) (l:List Int):Prop:=∃ a l' xs,vE Φ t l=some (a,l')∧wY ct.r (xW ct.r a)=some xs
theorem Nh {Φ:uL} {ct:Ct} {t:rf SV} {l:List Int} (h:okF Φ ct t l):(rG Φ ct t l).length=(rq ct.r).length:=by
 obtain⟨a,l',xs,h1,h2⟩:=h
 unfold rG
 simp only[h1,h2,zL,id,List.length_map,(Dz (fun _=>0) h2).2]
theorem Ni (l m:List Int):wh (rE (l++m)) 0 l.length=l:=by
 have:=Ra [] l m;simpa using this
theorem aeF {C:sV} {E:tu} {s:rC} (hC:wR C E) {n:Nat} {g:FuncId} {args:List SV} {nv:Nat} {a:SV} {vs:List Value} {v:Value} (h:(rX C n g args nv).path C.Φ s=some a) (ha:SV.dens s args=vs.map .v) (hv:a.den s = .v v) :
  PC C.P C.G g vs v:=by
 unfold rX at h
 split at h
 ·cases h
 ·rename_i fn hf
  split at h
  ·cases h
  ·rename_i cd hb
   split at h
   ·rename_i hl
    obtain⟨⟨ex,st⟩,h1,h2⟩:=rf.path_bind_some h
    have sp:=(Hr (E:=E) (s:=s) hC n).1 _ _ _ _ h1 (fun x hx=>by cases hx)
    have hlen:(vo args fn.ntmps).length=fn.ntmps:=EP _ _ (Nat.le_of_ble_eq_true hl)
    have hvl:vs.length=args.length:=by have:=congrArg List.length ha;rw[zG,List.length_map] at this;exact this.symm
    refine Pw E hf hb (hC.nm g fn hf (by rw[hb];rfl)) (by rw[hvl];exact hl) fun w=>?_
    have hA:=sp.aw w sG.nil
    simp only[hlen,KJ,ha] at hA
    have key:∀ rs,wo C.P st.T st.H fn.results.toList=some rs→tT rs=a→∃ rs',yP C.P C.G (rQ.den s st.T) (SH.den s st.H) fn.results.toList=some rs'∧Ao rs' = .v v:=fun rs hrs e =>
     ⟨_,EQ s hrs,by rw[Ho,e,hv]⟩
    have hx:(ex = .normal∨ex = .ret)∧∃ rs,wo C.P st.T st.H fn.results.toList=some rs∧tT rs=a:=by
     rcases KN h2 with⟨rfl,h3⟩|⟨rfl,h3⟩
     ·split at h3
      ·rename_i rs hrs;cases h3;exact⟨.inl rfl,rs,hrs,rfl⟩
      ·cases h3
     ·split at h3
      ·rename_i rs hrs;cases h3;exact⟨.inr rfl,rs,hrs,rfl⟩
      ·cases h3
    obtain⟨hx,rs,hrs,e⟩:=hx
    refine AW.mono (show AW _ cd (wZ s ex st) 0 _ _ from hA) ?_
    rintro x N T H ⟨rfl,rfl,rfl,rfl⟩
    rcases hx with rfl|rfl
    ·exact key rs hrs e
    ·exact key rs hrs e
   ·cases h
theorem Nj {s:rC} {r:List Sh} {a:SV} {vs:List Value} (h:SV.dens s (xW r a)=vs.map .v) (hl:vs.length=r.length):a.den s = .v (sW vs):=by
 unfold xW at h
 split at h
 ·match vs,hl with
  | [v],_=>simpa [SV.dens,sW] using h
 ·rename_i hr
  have tup:∀ m,SV.dens s m=vs.map .v→(SV.tup m).den s = .v (sW vs):=fun m hm=>by
   simp only[SV.den,hm,MK]
   match vs,hl with
   | [],_=>rfl
   | [v],hl=>exfalso;match r,hl with | [x],_=>exact hr x rfl
   | _::_::_,_=>rfl
  split at h
  ·exact tup _ h
  ·rename_i hnt
   exfalso
   have h1:=congrArg List.length h
   rw[zG,List.length_map,hl] at h1
   match r,h1 with
   | [x],_=>exact hr x rfl
theorem Hu:∀ (hs:List Sh) (ns:List Int),(rV hs ns).length=hs.length
 | [],_=>rfl
 | h::hs,ns=>by rw[rV,List.length_cons,Hu hs,List.length_cons]
theorem V6 {C:sV} {E:tu} (hC:wR C E) {n:Nat} {g:FuncId} {ct:Ct} {t:rf SV} (h:rX C n g (rM ct.a (rJ 0 (rq ct.a))) (rq ct.a).length=t) (hs:Br (rq ct.a).length t=true)
  (l:List Int) (hl:l.length=(rq ct.a).length) (ho:okF C.Φ ct t l) :
  (rG C.Φ ct t l).length=(rq ct.r).length∧PC C.P C.G g (rV ct.a l) (sW (rV ct.r (rG C.Φ ct t l))):=by
 refine⟨Nh ho,?_⟩
 obtain⟨a,l',xs,h1,h2⟩:=ho
 obtain⟨h3,m,rfl⟩:=EU h1 (by rw[hl];exact hs)
 rw[← h] at h3
 obtain⟨h4,h5⟩:=Bq (rE (l++m)) (rq ct.a) 0
 rw[← hl,Ni] at h4
 have hf:=Dz (rE (l++m)) h2
 refine aeF hC h3 (Cn h4 h5) ?_
 have:rG C.Φ ct t l=xs.map (X.den (rE (l++m))):=by unfold rG;simp only[h1,h2,zL,id]
 rw[this]
 exact Nj hf.1 (Hu _ _)
def zn (cf:FuncId→Option Ct) (ct:Ct) (n:Nat):rf SV→Bool
 | .leaf a=>(wY ct.r (xW ct.r a)).isSome
 | .ite c a b=>sS (wu n c) (sS (zn cf ct n a) (zn cf ct n b))
 | .call f args base m t=>match cf f with
  | some c=>sS (Nat.beq base n) (sS (Ng n args) (sS (Nat.beq args.length (rq c.a).length) (sS (Nat.beq m (rq c.r).length) (zn cf ct (n+m) t))))
  | none=>false
 | .stuck _=>false
theorem EW {cf:FuncId→Option Ct} {ct:Ct} : ∀ {t:rf SV} {n:Nat},zn cf ct n t=true→Br n t=true
 | .leaf a,n,_=>rfl
 | .ite c a b,n,h=>by
  have h:=sD h;have h2:=sD h.2
  simp only[Br,h.1,EW h2.1,EW h2.2];rfl
 | .call f args base m t,n,h=>by
  simp only[zn] at h
  split at h
  ·have h:=sD h;have h2:=sD h.2;have h3:=sD h2.2;have h4:=sD h3.2
   simp only[Br,h.1,h2.1,EW h4.2];rfl
  ·cases h
 | .stuck _,n,h=>by cases h
structure vF (C:sV) (E:tu):Prop where
 ok:wR C E
 ct:∀ (g:FuncId) (ct:Ct),C.ct g=some ct→∀ l:List Int,l.length=(rq ct.a).length→(C.Φ g l).length=(rq ct.r).length
 nt:∀ (g:FuncId) (ct:Ct),C.nt g=some ct→∀ l:List Int,l.length=(rq ct.a).length→(C.Φ g l).length=(rq ct.r).length
 sl:∀ (g:FuncId) (c:wm),c∈C.sl g→∀ l:List Int,l.length=(rq c.a++c.ks).length→(C.Φ c.id l).length=(rq c.r).length
theorem Nk {C:sV} {E:tu} (hC:vF C E) {ct:Ct} : ∀ {t:rf SV} {l:List Int},zn C.ct ct l.length t=true→okF C.Φ ct t l
 | .leaf a,l,h=>by
  obtain⟨xs,hx⟩:=Option.isSome_iff_exists.1 (show(wY ct.r (xW ct.r a)).isSome=true from h)
  exact⟨a,l,xs,rfl,hx⟩
 | .ite c a b,l,h=>by
  have h:=sD h;have h2:=sD h.2
  unfold okF
  simp only[vE]
  cases sN (c.ev l) with
  | true=>exact Nk hC h2.1
  | false=>exact Nk hC h2.2
 | .call f args base m t,l,h=>by
  simp only[zn] at h
  split at h
  ·rename_i c hc
   have h:=sD h;have h2:=sD h.2;have h3:=sD h2.2;have h4:=sD h3.2
   have e1:=sQ.1 h3.1;have e2:=sQ.1 h4.1
   unfold okF
   simp only[vE,zL]
   have hl:=(hC.ct f c hc (args.map (X.den (rE l))) (by rw[List.length_map];exact e1))
   rw[hl,e2]
   simp only[Nat.beq_refl]
   refine Nk hC ?_
   rw[List.length_append,hl,← e2];exact h4.2
  ·cases h
 | .stuck _,l,h=>by cases h
structure si where
 g:FuncId
 ct:Ct
 F:List Int→List Int
def ww:List si→FuncId→Option si
 | [],_=>none
 | x::l,g=>match Nat.beq x.g g with|true=>some x|false=>ww l g
def Hw (C : sV) (L : List si) : sV :=
  { C with ct := fun g => match ww L g with | some e => some e.ct | none => C.ct g
           Φ := fun g l => match ww L g with | some e => e.F l | none => C.Φ g l
           nt := fun _ => none
           sl := fun _ => [] }
def rF (P:Program) (G:rO) (e:si):Prop:=∀ l:List Int,l.length=(rq e.ct.a).length→(e.F l).length=(rq e.ct.r).length∧PC P G e.g (rV e.ct.a l) (sW (rV e.ct.r (e.F l)))
theorem Hy {L:List si} {g:FuncId} {e:si} (h:ww L g=some e):e∈L∧e.g=g:=by
 induction L with
 | nil=>cases h
 | cons x l ih =>
  simp only[ww] at h
  split at h
  ·rename_i hb;cases h;exact⟨List.mem_cons_self,sQ.1 hb⟩
  ·obtain⟨h1,h2⟩:=ih h;exact⟨List.mem_cons_of_mem _ h1,h2⟩
theorem vF.add {C:sV} {E:tu} (hC:vF C E) {L:List si} (h:∀ e∈L,rF C.P C.G e):vF (Hw C L) E:=by
 have key:∀ (g:FuncId) (ct:Ct),(Hw C L).ct g=some ct→∀ l:List Int,l.length=(rq ct.a).length→((Hw C L).Φ g l).length=(rq ct.r).length∧(((Hw C L).Φ g l).length=(rq ct.r).length→PC C.P C.G g (rV ct.a l) (sW (rV ct.r ((Hw C L).Φ g l)))):=by
  intro g ct hct l hl
  simp only[Hw] at hct ⊢
  cases hf:ww L g with
  | some e =>
   rw[hf] at hct
   simp only[Option.some.injEq] at hct;subst hct
   obtain⟨h1,h2⟩:=Hy hf
   subst h2
   exact⟨(h e h1 l hl).1,fun _=>(h e h1 l hl).2⟩
  | none =>
   rw[hf] at hct
   exact⟨hC.ct g ct hct l hl,hC.ok.ct g ct hct l hl⟩
 exact⟨⟨hC.ok.se,hC.ok.eq,hC.ok.mix,hC.ok.nm,fun g ct hct l hl=>(key g ct hct l hl).2,fun g ct hn=>(by cases hn),fun g c hc=>(by cases hc)⟩,fun g ct hct l hl=>(key g ct hct l hl).1,fun g ct hn=>(by cases hn),fun g c hc=>(by cases hc)⟩
theorem sJ {C:sV} {E:tu} (hC:vF C E) (n:Nat) {g:FuncId} {ct:Ct} {t:rf SV} (h:rX C n g (rM ct.a (rJ 0 (rq ct.a))) (rq ct.a).length=t) (hs:zn C.ct ct (rq ct.a).length t=true) :
  rF C.P C.G ⟨g,ct,rG C.Φ ct t⟩:=fun l hl=>V6 hC.ok h (EW hs) l hl (Nk hC (by rw[hl];exact hs))
structure yz (P:Program) (G:rO) (e:si):Prop where
 ok:∀ l:List Int,l.length=(rq e.ct.a).length→(e.F l).length=(rq e.ct.r).length→PC P G e.g (rV e.ct.a l) (sW (rV e.ct.r (e.F l)))
theorem rF.c {P:Program} {G:rO} {e:si} (h:rF P G e):yz P G e:=⟨fun l hl _=>(h l hl).2⟩
theorem yz.tot {P:Program} {G:rO} {e:si} (h:yz P G e) (ht:∀ l:List Int,l.length=(rq e.ct.a).length→(e.F l).length=(rq e.ct.r).length):rF P G e:=fun l hl=>⟨ht l hl,h.ok l hl (ht l hl)⟩
theorem aeG {Φ:uL} {ct:Ct} {t:rf SV} {l:List Int} (hp:Nat.blt 0 (rq ct.r).length=true) (h:(rG Φ ct t l).length=(rq ct.r).length):okF Φ ct t l:=by
 have hp:0<(rq ct.r).length:=by simpa [Nat.blt_eq] using hp
 unfold rG at h
 cases he:vE Φ t l with
 | none=>rw[he] at h;simp only[List.length_nil] at h;omega
 | some q =>
  obtain⟨a,l'⟩:=q
  rw[he] at h
  simp only at h
  cases hf:wY ct.r (xW ct.r a) with
  | none=>rw[hf] at h;simp only[List.length_nil] at h;omega
  | some xs=>exact⟨a,l',xs,he,hf⟩
end Go.Proofs.YtbembkamcdlhbaaGreatDoor
